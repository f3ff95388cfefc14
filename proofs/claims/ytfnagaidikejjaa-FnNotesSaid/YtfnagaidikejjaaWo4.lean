import Derived.Test.YtfnagaidikejjaaCore
import Derived.Test.YtfnagaidikejjaaProg
import Derived.Test.YtfnagaidikejjaaHeld
import Derived.Test.YtfnagaidikejjaaFun
import Derived.Test.YtfnagaidikejjaaFunZ
import Derived.Test.YtfnagaidikejjaaSqz
import Derived.Test.YtfnagaidikejjaaCur
import Derived.Test.YtfnagaidikejjaaDrawW
import Derived.Test.YtfnagaidikejjaaAead
import Derived.Test.YtfnagaidikejjaaWo3
namespace Go.Proofs.Ytfnagaidikejjaa.K
open Go.RowKit
set_option linter.unusedVariables false
set_option linter.unusedSimpArgs false
set_option maxRecDepth 100000
set_option maxHeartbeats 4000000
theorem mQ_22 {w : World} {x : List UInt8} {a : Option Addr} {b : Nat} (d : Rd w 1 (.slice a x.length b) x.length (x.map bV)) (e : x.length ≤ 9223372036854775807) : Q_22 w (vs a x.length b) x := ⟨_, _, rfl, d, e⟩
theorem mR_24 {w : World} {x : List PNote} {a : Option Addr} {b : Nat} (d : RLv LT_31 w 1073741824 a x.length b x) (e : x.length ≤ 1073741824) : R_24 w (vs a x.length b) x := ⟨_, _, rfl, d, e⟩
def ntK (d : List PNote × Int) (i : Nat) : Nat := ((d.1.take i).filter (fun n : PNote => decide (n.Kind = d.2))).length
def ntG (d : List PNote × Int) (i : Nat) : Bool := bif decide ((d.1.getD i z_PNote).Kind = d.2) then (bif decide (((i_Pick d.1 d.2).length : Int) ≤ ((ntK d i : Nat) : Int)) then false else i_SameNote (d.1.getD i z_PNote) ((i_Pick d.1 d.2).getD ((ntK d i : Nat) : Int).toNat z_PNote)) else true
def ntS (code : List UInt8) : Bool := bif eqS (i_NoteName (l_at code 2 % 20)) (ByteArray.mk ([] : List UInt8).toArray) then true else (bif eqS (i_NoteName (l_at code 2 % 20)) (i_NoteName (l_at code 3 % 20)) then decide (l_at code 2 % 20 = l_at code 3 % 20) else true)
def ntT (code : List UInt8) (d : List PNote × Int) (e : PNote × PNote) (f : PNote) : Bool := bif decide (((ntK d d.1.length : Nat) : Int) = ((i_Pick d.1 d.2).length : Int)) then (bif i_SameNote e.1 e.1 then (bif (i_SameNote e.1 e.2 == s_SameNote e.1 e.2) then (bif (i_SameNote e.2 e.1 == i_SameNote e.1 e.2) then (bif (i_NoteOk f == s_NoteOk f) then ntS code else false) else false) else false) else false) else false
def ntLaw (code : List UInt8) (d : List PNote × Int) (e : PNote × PNote) (f : PNote) : Bool := bif l_big code then true else bif allN (ntG d) d.1.length then ntT code d e f else false
theorem ntK_t {d : List PNote × Int} {i : Nat} (h : decide ((d.1.getD i z_PNote).Kind = d.2) = true) (hi : i < d.1.length) : ntK d (i + 1) = ntK d i + 1 := by
  unfold ntK
  rw [List.take_succ_eq_append_getElem hi, List.filter_append, List.length_append]
  simp only [List.getD_eq_getElem?_getD, List.getElem?_eq_getElem hi, Option.getD_some] at h
  rw [List.filter_cons, h]
  rfl
theorem ntK_f {d : List PNote × Int} {i : Nat} (h : decide ((d.1.getD i z_PNote).Kind = d.2) = false) (hi : i < d.1.length) : ntK d (i + 1) = ntK d i := by
  unfold ntK
  rw [List.take_succ_eq_append_getElem hi, List.filter_append, List.length_append]
  simp only [List.getD_eq_getElem?_getD, List.getElem?_eq_getElem hi, Option.getD_some] at h
  rw [List.filter_cons, h]
  rfl
theorem clFnNotes (br : World) (cy : Value) (x : List UInt8) (dt : Q_22 br cy x)  : Fn Try.prog 3 #[cy] br (fun v aE => ∃ (d : (List PNote) × (Int)) (a : (PNote) × (PNote)) (J : (PNote)), Keep br aE ∧ (True) ∧ (True) ∧ (True) ∧ v = vb (ntLaw x d a J)) := by
 obtain ⟨bc, bd, rfl, bv, du⟩ := dt
 refine fn_ofS (n := 121) [(vs bc x.length bd)] Try.func3 rfl rfl ?_
 refine sr ?_
 refine aw (vb false) ?_
 refine n4 ?_
 refine mw (vs bc x.length bd) ?_
 refine cl wN (clbig br _ x (mQ_22 bv du)) ?_
 rintro _ dv ⟨bU, rfl⟩
 have cu := (Ch.base br).extk bU
 refine n2 ?_
 rcases bt (l_big x) with aL | aL
 ·refine ct aL ?_
  refine sr ?_
  refine aw (vb true) ?_
  refine n1 ?_
  refine rt (vb true) ?_
  have dw : ntLaw x (([], 0)) (({ Kind := 0, Id := 0, Role := 0, Cn := [], Sn := [], Epoch := 0, Seq := 0, Body := [], Key := [], A := { Host := 0, Port := 0 : PAddr }, Now := 0 : PNote }, { Kind := 0, Id := 0, Role := 0, Cn := [], Sn := [], Epoch := 0, Seq := 0, Body := [], Key := [], A := { Host := 0, Port := 0 : PAddr }, Now := 0 : PNote })) ({ Kind := 0, Id := 0, Role := 0, Cn := [], Sn := [], Epoch := 0, Seq := 0, Body := [], Key := [], A := { Host := 0, Port := 0 : PAddr }, Now := 0 : PNote }) = true := by simp only [ntLaw, aL, cond_true, cond_false]; try rfl
  exact ⟨(([], 0)), (({ Kind := 0, Id := 0, Role := 0, Cn := [], Sn := [], Epoch := 0, Seq := 0, Body := [], Key := [], A := { Host := 0, Port := 0 : PAddr }, Now := 0 : PNote }, { Kind := 0, Id := 0, Role := 0, Cn := [], Sn := [], Epoch := 0, Seq := 0, Body := [], Key := [], A := { Host := 0, Port := 0 : PAddr }, Now := 0 : PNote })), ({ Kind := 0, Id := 0, Role := 0, Cn := [], Sn := [], Epoch := 0, Seq := 0, Body := [], Key := [], A := { Host := 0, Port := 0 : PAddr }, Now := 0 : PNote }), cu.keep0, (by first | trivial | decide | (simp; done)), (by first | trivial | decide | (simp; done)), (by first | trivial | decide | (simp; done)), by rw [dw]⟩
 have mB := big_f aL
 refine cf aL ?_
 refine y1 ?_
 refine mw (vs bc x.length bd) ?_
 refine cl wN (csDrawPick dv _ x (mR_22 (bv.from0 cu) (by omega))) ?_
 rintro _ cz ⟨d, bW, ⟨be, bg, rfl, cv, dx, mC⟩, bl⟩
 obtain ⟨mD, mE⟩ := OLv.ow cv
 refine mw (.tuple #[(vs be ((d).1).length bg), (vi ((d).2))]) ?_
 refine pu (vs be ((d).1).length bg) wN ?_
 refine pu (vi ((d).2)) wN ?_
 refine aw (vs be ((d).1).length bg) ?_
 refine aw (vi ((d).2)) ?_
 refine nx ?_
 refine mw (vs be ((d).1).length bg) ?_
 refine mw (vi ((d).2)) ?_
 refine cl wN (ciPick cz _ ((d).1) (mR_24 (OLv.rl cv) dx) ((d).2)) ?_
 rintro _ Z ⟨bu, ⟨aC, aD, rfl, bi, _⟩⟩
 have c0 := (cu.extk bW).extk bu
 obtain ⟨mF, mG⟩ := OLv.ow bi
 refine aw (vs aC (i_Pick ((d).1) ((d).2)).length aD) ?_
 refine nx ?_
 refine mw (vs bc x.length bd) ?_
 refine cl wN (csDrawSameNote Z _ x (mR_22 (bv.from0 c0) (by omega))) ?_
 rintro _ L ⟨a, ab, ⟨Q, R, S, T, V, W, X, Y, ai, aj, ak, am, an, ao, ap, aq, rfl, ac, a3, ad, a4, ae, a5, af, a6, au, aG, av, aH, ax, aI, ay, aJ, mH⟩, bm⟩
 refine mw (.tuple #[(va (L_31 ((a).1) Q R S T V W X Y)), (va (L_31 ((a).2) ai aj ak am an ao ap aq))]) ?_
 refine pu (va (L_31 ((a).1) Q R S T V W X Y)) wN ?_
 refine pu (va (L_31 ((a).2) ai aj ak am an ao ap aq)) wN ?_
 refine al Z_31 wN zero_31 ?_
 intro bX mI a1 H t dy
 have dz := (c0.extk ab).extk t
 refine al Z_31 wN zero_31 ?_
 intro bY mJ P az r d0
 have d1 := (dy.kp r)
 refine sv (L_31 ((a).1) Q R S T V W X Y) wN sizeOf_31 d1 ?_
 intro mK m a7 mL
 have d2 := (dz.extk r).ext m (fun k hk => by subst hk; exact nT (z4 bU bW bu ab) a1)
 have d3 := (d0.ch m (Ne.symm (nN (nL H (P)))))
 refine sv (L_31 ((a).2) ai aj ak am an ao ap aq) wN sizeOf_31 d3 ?_
 intro aO l aK mM
 have c1 := d2.ext l (fun k hk => by subst hk; exact nT (z5 bU bW bu ab t) P)
 refine nx ?_
 refine mw (vs bc x.length bd) ?_
 refine cl wN (csDrawNoteOk aO _ x (mR_22 (bv.from0 c1) (by omega))) ?_
 rintro _ aF ⟨J, e, ⟨aP, aQ, aR, aS, aT, aU, aV, aW, rfl, aX, bw, aY, bz, aZ, b0, ba, b1, mN⟩, bn⟩
 refine al Z_31 wN zero_31 ?_
 intro bZ mO I b2 q d4
 refine sv (L_31 (J) aP aQ aR aS aT aU aV aW) wN sizeOf_31 d4 ?_
 intro K p b3 mP
 have d5 := ((c1.extk e).extk q).ext p (fun k hk => by subst hk; exact nT (z9 bU bW bu ab t r m l e) I)
 refine nx ?_
 refine aw (vi 0) ?_
 refine n4 ?_
 refine aw (vi 0) ?_
 refine wl_nil <| wq_then <| wc_block ?_
 refine wc_loopP [(0, (vs bc x.length bd)), (3, (vs be ((d).1).length bg)), (4, (vi ((d).2))), (5, (vs aC (i_Pick ((d).1) ((d).2)).length aD)), (6, (vp bX 0)), (7, (vp bY 0)), (8, (vp bZ 0)), (9, (vi 0)), (10, (vi ((0 : Nat) : Int)))] ⟨rfl, rfl, rfl, rfl, rfl, rfl, rfl, rfl, (cA (Value.int .i64) (show (0 : Int) = ((0 : Nat) : Int) by omega)), trivial⟩ (fun e' aE => ∃ (i : Nat) (k : Int) (c2 : Env), e' = pt c2 [(0, (vs bc x.length bd)), (3, (vs be ((d).1).length bg)), (4, (vi ((d).2))), (5, (vs aC (i_Pick ((d).1) ((d).2)).length aD)), (6, (vp bX 0)), (7, (vp bY 0)), (8, (vp bZ 0)), (9, (vi k)), (10, (vi ((i : Nat) : Int)))] ∧ Ch (fun k => br.heap.size ≤ k) br aE ∧ Ch (fun k => K.heap.size ≤ k) K aE ∧ i ≤ d.1.length ∧ k = ((ntK d i : Nat) : Int) ∧ (∀ j, j < i → ntG d j = true)) (fun e' _ => (d.1.length : Int).toNat - ((intOf (e' 10))).toNat) ?_ ?_
 ·exact fun u => ⟨0, 0, u, rfl, d5, (Ch.refl (fun k => K.heap.size ≤ k) K), (by omega), (by first | rfl | (rw [ntK_t (by assumption) (by omega)]; omega) | (rw [ntK_f (by assumption) (by omega)]; omega)), (by first | (intro j hj; omega) | (subst bh; exact allN_next bj (by simp only [ntG, aL, cond_true, cond_false]; try rfl)))⟩
 ·rintro _ bS ⟨i, k, c2, rfl, bT, y, mQ, bh, bj⟩
  refine wc_seq <| sr ?_
  refine mw (vi ((i : Nat) : Int)) ?_
  refine mw (vs be ((d).1).length bg) ?_
  have ca := (OLv.ch (OLv.ch (OLv.kp (OLv.kp (OLv.ch (OLv.ch (OLv.kp (OLv.kp (OLv.kp (OLv.kp cv bu) ab) t) r) m (fun g M N hk => by have O := nT (z2 bu ab) a1; omega)) l (fun g M N hk => by have O := nT (z3 bu ab t) P; omega)) e) q) p (fun g M N hk => by have O := nT (z7 bu ab t r m l e) I; omega)) y (fun g M N hk => by have O : cz.heap.size ≤ K.heap.size := (z9 bu ab t r m l e q p); have bo : K.heap.size ≤ g := hk; omega))
  obtain ⟨mR, d6⟩ := RLv.row (OLv.rl ca)
  refine ln wN slTy_24 d6 ?_
  refine pu (vb (decide (((i : Nat) : Int) < (((d).1).length : Int)))) wN ?_
  refine n2 ?_
  rcases bt (decide (((i : Nat) : Int) < (((d).1).length : Int))) with aM | aM
  ·have mS := dT aM
   refine ct aM ?_
   refine wc_skip <| wq_then <| wc_seq <| wc_block <| wc_seq <| sr ?_
   refine mw (vs be ((d).1).length bg) ?_
   refine mw (vi ((i : Nat) : Int)) ?_
   obtain ⟨mT, d7⟩ := RLv.row (OLv.rl ca)
   refine ix wN ((i : Nat) : Int) slTy_24 d7 ?_
   obtain ⟨mU, mV, cw, c3, d8⟩ := OLv.el z_PNote (i := i) ca (by first | omega | (simp <;> omega))
   obtain ⟨c4, c5, mW, rfl, d9, dA, dB⟩ := SubO.c d8
   obtain ⟨c6, c7, mX, rfl, dC, dD, dE⟩ := SubO.c dB
   obtain ⟨c8, c9, mY, rfl, dG, dH, dI⟩ := SubO.c dE
   obtain ⟨cC, cD, mZ, rfl, dJ, dK, dL⟩ := SubO.c dI
   obtain rfl := SubO.n dL
   refine wl_fieldE wN rfl rfl rfl fieldAt_31_0 rfl cw (by omega) ?_
   refine wl_loadE (vi ((((d).1).getD i z_PNote).Kind)) wN rfl rfl rfl rfl isAgg_3 cw ((get_of (off := 0) c3 (by first | rfl | simp | omega) (by decide)).trans rfl) ?_
   refine mw (vi ((d).2)) ?_
   refine pu (vb (!(decide ((((d).1).getD i z_PNote).Kind = (d).2)))) wN ?_
   refine n2 ?_
   rcases bf (decide ((((d).1).getD i z_PNote).Kind = (d).2)) with bk | bk
   ·have na := dF bk
    refine ct (cA not bk) ?_
    refine wc_exit <| wq_then_exit <| wq_blk_exit <| wq_then <| wc_region ?_
    refine mw (vi ((i : Nat) : Int)) ?_
    refine ar (((i : Nat) : Int) + 1) wN ?_
    refine aw (vi (((i : Nat) : Int) + 1)) ?_
    refine wl_nil ?_
    refine wq_loopP (w0 := bS) [(0, (vs bc x.length bd)), (3, (vs be ((d).1).length bg)), (4, (vi ((d).2))), (5, (vs aC (i_Pick ((d).1) ((d).2)).length aD)), (6, (vp bX 0)), (7, (vp bY 0)), (8, (vp bZ 0)), (9, (vi k)), (10, (vi (((i + 1) : Nat) : Int)))] ?_ ?_ ?_
    · exact ⟨rfl, rfl, rfl, rfl, rfl, rfl, rfl, rfl, (cA (Value.int .i64) (show ((((i : Nat) : Int) + 1) : Int) = (((i + 1) : Nat) : Int) by omega)), trivial⟩
    · exact fun u => ⟨(i + 1), k, u, rfl, bT, ((Ch.refl (fun k => K.heap.size ≤ k) K).ext y (fun k hk => hk)), (by omega), (by first | rfl | (rw [ntK_t (by assumption) (by omega)]; omega) | (rw [ntK_f (by assumption) (by omega)]; omega)), (by first | (intro j hj; omega) | (subst bh; exact allN_next bj (by simp only [ntG, aL, aM, bk, cond_true, cond_false]; try rfl)))⟩
    · show (d.1.length : Int).toNat - ((((i + 1) : Nat) : Int)).toNat < (d.1.length : Int).toNat - (((i : Nat) : Int)).toNat; omega
   have nb := dT bk
   refine cf (cA not bk) ?_
   refine wc_skip <| wq_then <| wc_seq <| wc_seq ?_
   rcases bt (decide (((i_Pick ((d).1) ((d).2)).length : Int) ≤ k)) with aB | aB
   ·have nc := dT aB
    refine wc_drawT ([(43, [], [], (fun _ v _ => v = (vi k))), (44, [], [], (fun _ v _ => v = (vs aC (i_Pick ((d).1) ((d).2)).length aD))), (45, [], [1], (fun _ v _ => v = (vi ((i_Pick ((d).1) ((d).2)).length : Int)))), (46, [], [0, 1, 2], (fun _ v _ => v = (vb (decide (((i_Pick ((d).1) ((d).2)).length : Int) ≤ k))))), (47, [], [0, 1, 2, 3], (fun _ v _ => v = (vb (decide (((i_Pick ((d).1) ((d).2)).length : Int) ≤ k))))), (48, [], [0, 1, 2, 3, 4], (fun _ v _ => v = U)), (49, [], [0, 1, 2, 3, 4], (fun _ v _ => v = U)), (50, [], [0, 1, 2, 3, 4, 5, 6], (fun _ v _ => v = U)), (51, [], [0, 1, 2, 3, 4, 5, 6, 7], (fun _ v _ => v = U)), (52, [], [0, 1, 2, 3, 4], (fun _ v _ => v = U)), (53, [], [0, 1, 2, 3, 4], (fun _ v _ => v = U)), (54, [], [0, 1, 2, 3, 4, 9, 10], (fun _ v _ => v = U)), (55, [], [0, 1, 2, 3, 4, 9, 10, 11], (fun _ v _ => v = U))] : GV) (fun _ aE => Keep bS aE) [] mixed rfl (by kernel_rfl) (by kernel_rfl) ?_ (fun _ _ h => h) (fun _ _ _ _ h _ k => h.trans k) trivial ?_ ?_ ?_
    ·exact ⟨hV, hE, ⟨hV, hE, ⟨hV, hE, ⟨hV, hE, ⟨hV, hE, ⟨hV, hE, ⟨hV, hE, ⟨hV, hE, ⟨hV, hE, ⟨hV, hE, ⟨hV, hE, ⟨hV, hE, ⟨hV, hE, trivial⟩⟩⟩⟩⟩⟩⟩⟩⟩⟩⟩⟩⟩
    ·exact trivial
    ·refine ⟨?_, ⟨?_, ⟨?_, ⟨?_, ⟨?_, ⟨?_, ⟨?_, ⟨?_, ⟨?_, ⟨?_, ⟨?_, ⟨?_, ⟨?_, trivial⟩⟩⟩⟩⟩⟩⟩⟩⟩⟩⟩⟩⟩
     ·intro _ aA nd _
      rintro _ _ _ _ _ _ _ _ _ _ _ _ _
      show WL _ _ _ _ _ _ _
      refine mw (vi k) ?_
      exact f1
     ·intro _ aA nf _
      rintro _ _ _ _ _ _ _ _ _ _ _ _ _
      show WL _ _ _ _ _ _ _
      refine mw (vs aC (i_Pick ((d).1) ((d).2)).length aD) ?_
      exact f1
     ·intro _ aA dM _
      rintro _ _ rfl _ _ _ _ _ _ _ _ _ _ _
      show WL _ _ _ _ _ _ _
      have dN := (OLv.kp (OLv.ch (OLv.ch (OLv.kp (OLv.kp (OLv.ch (OLv.ch (OLv.kp (OLv.kp (OLv.kp bi ab) t) r) m (fun g M N hk => by have O := nT ab.size a1; omega)) l (fun g M N hk => by have O := nT (z2 ab t) P; omega)) e) q) p (fun g M N hk => by have O := nT (z6 ab t r m l e) I; omega)) y (fun g M N hk => by have O : Z.heap.size ≤ K.heap.size := (z8 ab t r m l e q p); have bo : K.heap.size ≤ g := hk; omega)) dM)
      obtain ⟨ng, dO⟩ := RLv.row (OLv.rl dN)
      refine ln wN slTy_24 dO ?_
      exact f1
     ·intro _ aA nh _
      rintro _ rfl _ rfl _ rfl _ _ _ _ _ _ _ _ _ _
      show WL _ _ _ _ _ _ _
      refine pu (vb (decide (((i_Pick ((d).1) ((d).2)).length : Int) ≤ k))) wN ?_
      exact f1
     ·intro _ aA ni _
      rintro _ rfl _ rfl _ rfl _ rfl _ _ _ _ _ _ _ _ _
      show WL _ _ _ _ _ _ _
      refine mw (vb (decide (((i_Pick ((d).1) ((d).2)).length : Int) ≤ k))) ?_
      exact f1
     ·intro _ aA nj _
      rintro _ rfl _ rfl _ rfl _ rfl _ rfl _ _ _ _ _ _ _ _
      show WL _ _ _ _ _ _ _
      refine sk aB ?_
      exact f1
     ·intro _ aA nk _
      rintro _ rfl _ rfl _ rfl _ rfl _ rfl _ _ _ _ _ _ _ _
      show WL _ _ _ _ _ _ _
      refine sk aB ?_
      exact f1
     ·intro _ aA nm _
      rintro _ rfl _ rfl _ rfl _ rfl _ rfl _ rfl _ rfl _ _ _ _ _ _
      show WL _ _ _ _ _ _ _
      refine sk aB ?_
      exact f1
     ·intro _ aA np _
      rintro _ rfl _ rfl _ rfl _ rfl _ rfl _ rfl _ rfl _ rfl _ _ _ _ _
      show WL _ _ _ _ _ _ _
      refine sk aB ?_
      exact f1
     ·intro _ aA nq _
      rintro _ rfl _ rfl _ rfl _ rfl _ rfl _ _ _ _ _ _ _ _
      show WL _ _ _ _ _ _ _
      refine sk aB ?_
      exact f1
     ·intro _ aA ns _
      rintro _ rfl _ rfl _ rfl _ rfl _ rfl _ _ _ _ _ _ _ _
      show WL _ _ _ _ _ _ _
      refine sk aB ?_
      exact f1
     ·intro _ aA nt _
      rintro _ rfl _ rfl _ rfl _ rfl _ rfl _ _ _ _ _ rfl _ rfl _ _
      show WL _ _ _ _ _ _ _
      refine sk aB ?_
      exact f1
     ·intro _ aA nu _
      rintro _ rfl _ rfl _ rfl _ rfl _ rfl _ _ _ _ _ rfl _ rfl _ rfl _
      show WL _ _ _ _ _ _ _
      refine sk aB ?_
      exact f1
    ·intro _ aA dP
     have dQ := bT.extk dP
     rintro _ rfl _ rfl _ rfl _ rfl _ rfl _ rfl _ rfl _ rfl _ rfl _ rfl _ rfl _ rfl _ rfl
     show WL _ _ _ _ _ _ _
     iterate 2 refine sk aB ?_
     refine pk (vb true) wN aB ?_
     refine n2 ?_
     refine ct (Eq.refl true) ?_
     refine sr ?_
     refine aw (vb false) ?_
     refine wl_nil <| wq_then <| wc_ret <| wq_then_ret <| wq_blk_ret <| wq_then_ret <| wq_then_ret <| wq_blk_ret <| wq_then_ret ?_
     refine rt (vb false) ?_
     have dR : ntLaw x d a J = false := by subst bh; have hz := allN_f (f := ntG d) (n := d.1.length) (k := i) (by omega) (by simp only [ntG, aL, aM, bk, aB, cond_true, cond_false]; try rfl); simp only [ntLaw, hz, aL, aM, bk, aB, cond_true, cond_false]; try rfl
     exact ⟨d, a, J, dQ.keep0, bl, bm, bn, by rw [dR]⟩
   have nv := dF aB
   have cx := (OLv.ch (OLv.ch (OLv.kp (OLv.kp (OLv.ch (OLv.ch (OLv.kp (OLv.kp (OLv.kp bi ab) t) r) m (fun g M N hk => by have O := nT ab.size a1; omega)) l (fun g M N hk => by have O := nT (z2 ab t) P; omega)) e) q) p (fun g M N hk => by have O := nT (z6 ab t r m l e) I; omega)) y (fun g M N hk => by have O : Z.heap.size ≤ K.heap.size := (z8 ab t r m l e q p); have bo : K.heap.size ≤ g := hk; omega))
   obtain ⟨nw, ny, dS, dU, dV⟩ := OLv.el z_PNote (i := (k).toNat) cx (by first | omega | (simp <;> omega))
   obtain ⟨cE, cF, nz, rfl, dW, dX, dY⟩ := SubO.c dV
   obtain ⟨cG, cH, n0, rfl, dZ, ea, ec⟩ := SubO.c dY
   obtain ⟨cI, cJ, n5, rfl, ed, ee, ef⟩ := SubO.c ec
   obtain ⟨cK, cL, n6, rfl, eg, eh, ej⟩ := SubO.c ef
   obtain rfl := SubO.n ej
   refine wc_drawT ([(43, [], [], (fun _ v _ => v = (vi k))), (44, [], [], (fun _ v _ => v = (vs aC (i_Pick ((d).1) ((d).2)).length aD))), (45, [], [1], (fun _ v _ => v = (vi ((i_Pick ((d).1) ((d).2)).length : Int)))), (46, [], [0, 1, 2], (fun _ v _ => v = (vb (decide (((i_Pick ((d).1) ((d).2)).length : Int) ≤ k))))), (47, [], [0, 1, 2, 3], (fun _ v _ => v = (vb (decide (((i_Pick ((d).1) ((d).2)).length : Int) ≤ k))))), (48, [], [0, 1, 2, 3, 4], (fun _ v _ => v = (vs be ((d).1).length bg))), (49, [], [0, 1, 2, 3, 4], (fun _ v _ => v = (vi ((i : Nat) : Int)))), (50, [], [0, 1, 2, 3, 4, 5, 6], (fun _ v _ => v = (ve (vs be ((d).1).length bg) ((((i : Nat) : Int)).toNat * 12)))), (51, [], [0, 1, 2, 3, 4, 5, 6, 7], (fun _ v _ => v = (va [(vi ((((d).1).getD i z_PNote).Kind)), (vi ((((d).1).getD i z_PNote).Id)), (vi ((((d).1).getD i z_PNote).Role)), (vs c4 (((d).1).getD i z_PNote).Cn.length c5), (vs c6 (((d).1).getD i z_PNote).Sn.length c7), (vi ((((d).1).getD i z_PNote).Epoch)), (vi ((((d).1).getD i z_PNote).Seq)), (vs c8 (((d).1).getD i z_PNote).Body.length c9), (vs cC (((d).1).getD i z_PNote).Key.length cD), (vi (((((d).1).getD i z_PNote).A).Host)), (vi (((((d).1).getD i z_PNote).A).Port)), (vi ((((d).1).getD i z_PNote).Now))]))), (52, [], [0, 1, 2, 3, 4], (fun _ v _ => v = (vs aC (i_Pick ((d).1) ((d).2)).length aD))), (53, [], [0, 1, 2, 3, 4], (fun _ v _ => v = (vi k))), (54, [], [0, 1, 2, 3, 4, 9, 10], (fun _ v _ => v = (ve (vs aC (i_Pick ((d).1) ((d).2)).length aD) ((k).toNat * 12)))), (55, [], [0, 1, 2, 3, 4, 9, 10, 11], (fun _ v _ => v = (va [(vi (((i_Pick ((d).1) ((d).2)).getD (k).toNat z_PNote).Kind)), (vi (((i_Pick ((d).1) ((d).2)).getD (k).toNat z_PNote).Id)), (vi (((i_Pick ((d).1) ((d).2)).getD (k).toNat z_PNote).Role)), (vs cE ((i_Pick ((d).1) ((d).2)).getD (k).toNat z_PNote).Cn.length cF), (vs cG ((i_Pick ((d).1) ((d).2)).getD (k).toNat z_PNote).Sn.length cH), (vi (((i_Pick ((d).1) ((d).2)).getD (k).toNat z_PNote).Epoch)), (vi (((i_Pick ((d).1) ((d).2)).getD (k).toNat z_PNote).Seq)), (vs cI ((i_Pick ((d).1) ((d).2)).getD (k).toNat z_PNote).Body.length cJ), (vs cK ((i_Pick ((d).1) ((d).2)).getD (k).toNat z_PNote).Key.length cL), (vi ((((i_Pick ((d).1) ((d).2)).getD (k).toNat z_PNote).A).Host)), (vi ((((i_Pick ((d).1) ((d).2)).getD (k).toNat z_PNote).A).Port)), (vi (((i_Pick ((d).1) ((d).2)).getD (k).toNat z_PNote).Now))])))] : GV) (fun _ aE => Keep bS aE) [] mixed rfl (by kernel_rfl) (by kernel_rfl) ?_ (fun _ _ h => h) (fun _ _ _ _ h _ k => h.trans k) trivial ?_ ?_ ?_
   ·exact ⟨hV, hE, ⟨hV, hE, ⟨hV, hE, ⟨hV, hE, ⟨hV, hE, ⟨hV, hE, ⟨hV, hE, ⟨hV, hE, ⟨hV, hE, ⟨hV, hE, ⟨hV, hE, ⟨hV, hE, ⟨hV, hE, trivial⟩⟩⟩⟩⟩⟩⟩⟩⟩⟩⟩⟩⟩
   ·exact trivial
   ·refine ⟨?_, ⟨?_, ⟨?_, ⟨?_, ⟨?_, ⟨?_, ⟨?_, ⟨?_, ⟨?_, ⟨?_, ⟨?_, ⟨?_, ⟨?_, trivial⟩⟩⟩⟩⟩⟩⟩⟩⟩⟩⟩⟩⟩
    ·intro _ aA n7 _
     rintro _ _ _ _ _ _ _ _ _ _ _ _ _
     show WL _ _ _ _ _ _ _
     refine mw (vi k) ?_
     exact f1
    ·intro _ aA n8 _
     rintro _ _ _ _ _ _ _ _ _ _ _ _ _
     show WL _ _ _ _ _ _ _
     refine mw (vs aC (i_Pick ((d).1) ((d).2)).length aD) ?_
     exact f1
    ·intro _ aA ek _
     rintro _ _ rfl _ _ _ _ _ _ _ _ _ _ _
     show WL _ _ _ _ _ _ _
     have em := (OLv.kp cx ek)
     obtain ⟨n9, en⟩ := RLv.row (OLv.rl em)
     refine ln wN slTy_24 en ?_
     exact f1
    ·intro _ aA nA _
     rintro _ rfl _ rfl _ rfl _ _ _ _ _ _ _ _ _ _
     show WL _ _ _ _ _ _ _
     refine pu (vb (decide (((i_Pick ((d).1) ((d).2)).length : Int) ≤ k))) wN ?_
     exact f1
    ·intro _ aA nB _
     rintro _ rfl _ rfl _ rfl _ rfl _ _ _ _ _ _ _ _ _
     show WL _ _ _ _ _ _ _
     refine mw (vb (decide (((i_Pick ((d).1) ((d).2)).length : Int) ≤ k))) ?_
     exact f1
    ·intro _ aA nC _
     rintro _ rfl _ rfl _ rfl _ rfl _ rfl _ _ _ _ _ _ _ _
     show WL _ _ _ _ _ _ _
     refine mv (vs be ((d).1).length bg) (wS aB) ?_
     exact f1
    ·intro _ aA nD _
     rintro _ rfl _ rfl _ rfl _ rfl _ rfl _ _ _ _ _ _ _ _
     show WL _ _ _ _ _ _ _
     refine mv (vi ((i : Nat) : Int)) (wS aB) ?_
     exact f1
    ·intro _ aA eo _
     rintro _ rfl _ rfl _ rfl _ rfl _ rfl _ rfl _ rfl _ _ _ _ _ _
     show WL _ _ _ _ _ _ _
     have ep := (OLv.kp ca eo)
     obtain ⟨nE, er⟩ := RLv.row (OLv.rl ep)
     refine ix (wS aB) ((i : Nat) : Int) slTy_24 er ?_
     exact f1
    ·intro _ aA es _
     rintro _ rfl _ rfl _ rfl _ rfl _ rfl _ rfl _ rfl _ rfl _ _ _ _ _
     show WL _ _ _ _ _ _ _
     refine wl_loadEN [(vi ((((d).1).getD i z_PNote).Kind)), (vi ((((d).1).getD i z_PNote).Id)), (vi ((((d).1).getD i z_PNote).Role)), (vs c4 (((d).1).getD i z_PNote).Cn.length c5), (vs c6 (((d).1).getD i z_PNote).Sn.length c7), (vi ((((d).1).getD i z_PNote).Epoch)), (vi ((((d).1).getD i z_PNote).Seq)), (vs c8 (((d).1).getD i z_PNote).Body.length c9), (vs cC (((d).1).getD i z_PNote).Key.length cD), (vi (((((d).1).getD i z_PNote).A).Host)), (vi (((((d).1).getD i z_PNote).A).Port)), (vi ((((d).1).getD i z_PNote).Now))] (wS aB) rfl rfl rfl rfl isAgg_31 sizeOf_31 (cw.kp es) (by first | omega | (simp <;> omega)) ((part_of (off := 0) (n := 12) c3 (by first | rfl | simp | omega) (by decide)).trans rfl) ?_
     exact f1
    ·intro _ aA nF _
     rintro _ rfl _ rfl _ rfl _ rfl _ rfl _ _ _ _ _ _ _ _
     show WL _ _ _ _ _ _ _
     refine mv (vs aC (i_Pick ((d).1) ((d).2)).length aD) (wS aB) ?_
     exact f1
    ·intro _ aA nG _
     rintro _ rfl _ rfl _ rfl _ rfl _ rfl _ _ _ _ _ _ _ _
     show WL _ _ _ _ _ _ _
     refine mv (vi k) (wS aB) ?_
     exact f1
    ·intro _ aA et _
     rintro _ rfl _ rfl _ rfl _ rfl _ rfl _ _ _ _ _ rfl _ rfl _ _
     show WL _ _ _ _ _ _ _
     have eu := (OLv.kp cx et)
     obtain ⟨nH, ew⟩ := RLv.row (OLv.rl eu)
     refine ix (wS aB) k slTy_24 ew ?_
     exact f1
    ·intro _ aA ex _
     rintro _ rfl _ rfl _ rfl _ rfl _ rfl _ _ _ _ _ rfl _ rfl _ rfl _
     show WL _ _ _ _ _ _ _
     refine wl_loadEN [(vi (((i_Pick ((d).1) ((d).2)).getD (k).toNat z_PNote).Kind)), (vi (((i_Pick ((d).1) ((d).2)).getD (k).toNat z_PNote).Id)), (vi (((i_Pick ((d).1) ((d).2)).getD (k).toNat z_PNote).Role)), (vs cE ((i_Pick ((d).1) ((d).2)).getD (k).toNat z_PNote).Cn.length cF), (vs cG ((i_Pick ((d).1) ((d).2)).getD (k).toNat z_PNote).Sn.length cH), (vi (((i_Pick ((d).1) ((d).2)).getD (k).toNat z_PNote).Epoch)), (vi (((i_Pick ((d).1) ((d).2)).getD (k).toNat z_PNote).Seq)), (vs cI ((i_Pick ((d).1) ((d).2)).getD (k).toNat z_PNote).Body.length cJ), (vs cK ((i_Pick ((d).1) ((d).2)).getD (k).toNat z_PNote).Key.length cL), (vi ((((i_Pick ((d).1) ((d).2)).getD (k).toNat z_PNote).A).Host)), (vi ((((i_Pick ((d).1) ((d).2)).getD (k).toNat z_PNote).A).Port)), (vi (((i_Pick ((d).1) ((d).2)).getD (k).toNat z_PNote).Now))] (wS aB) rfl rfl rfl rfl isAgg_31 sizeOf_31 (dS.kp ex) (by first | omega | (simp <;> omega)) ((part_of (off := 0) (n := 12) dU (by first | rfl | simp | omega) (by decide)).trans rfl) ?_
     exact f1
   ·intro _ aA bp
    rintro _ rfl _ rfl _ rfl _ rfl _ rfl _ rfl _ rfl _ rfl _ rfl _ rfl _ rfl _ rfl _ rfl
    show WL _ _ _ _ _ _ _
    have ey := (own_kp d9 bp)
    have ez := (own_kp dC bp)
    have e0 := (own_kp dG bp)
    have e1 := (own_kp dJ bp)
    have e2 := (own_kp dW bp)
    have e3 := (own_kp dZ bp)
    have e4 := (own_kp ed bp)
    have e5 := (own_kp eg bp)
    refine cl (wS aB) (ciSameNote aA _ (((d).1).getD i z_PNote) (mR_31 (Rd.of_own ey) dA (Rd.of_own ez) dD (Rd.of_own e0) dH (Rd.of_own e1) dK) _ ((i_Pick ((d).1) ((d).2)).getD (k).toNat z_PNote) (mR_31 (Rd.of_own e2) dX (Rd.of_own e3) ea (Rd.of_own e4) ee (Rd.of_own e5) eh)) ?_
    rintro _ cM ⟨cN, rfl⟩
    have cO := (bT.extk bp).extk cN
    refine pu (vb (!(i_SameNote (((d).1).getD i z_PNote) ((i_Pick ((d).1) ((d).2)).getD (k).toNat z_PNote)))) (wS aB) ?_
    refine pf (vb (!(i_SameNote (((d).1).getD i z_PNote) ((i_Pick ((d).1) ((d).2)).getD (k).toNat z_PNote)))) wN aB ?_
    refine n2 ?_
    rcases bf (i_SameNote (((d).1).getD i z_PNote) ((i_Pick ((d).1) ((d).2)).getD (k).toNat z_PNote)) with bR | bR
    ·refine ct (cA not bR) ?_
     refine sr ?_
     refine aw (vb false) ?_
     refine wl_nil <| wq_then <| wc_ret <| wq_then_ret <| wq_blk_ret <| wq_then_ret <| wq_then_ret <| wq_blk_ret <| wq_then_ret ?_
     refine rt (vb false) ?_
     have e6 : ntLaw x d a J = false := by subst bh; have hz := allN_f (f := ntG d) (n := d.1.length) (k := i) (by omega) (by simp only [ntG, aL, aM, bk, aB, bR, cond_true, cond_false]; try rfl); simp only [ntLaw, hz, aL, aM, bk, aB, bR, cond_true, cond_false]; try rfl
     exact ⟨d, a, J, cO.keep0, bl, bm, bn, by rw [e6]⟩
    refine cf (cA not bR) ?_
    refine wc_skip <| wq_then <| wc_region ?_
    refine mw (vi k) ?_
    refine ar (k + 1) wN ?_
    refine aw (vi (k + 1)) ?_
    refine wl_nil <| wq_blk_normal <| wq_then <| wc_region ?_
    refine mw (vi ((i : Nat) : Int)) ?_
    refine ar (((i : Nat) : Int) + 1) wN ?_
    refine aw (vi (((i : Nat) : Int) + 1)) ?_
    refine wl_nil ?_
    refine wq_loopP (w0 := bS) [(0, (vs bc x.length bd)), (3, (vs be ((d).1).length bg)), (4, (vi ((d).2))), (5, (vs aC (i_Pick ((d).1) ((d).2)).length aD)), (6, (vp bX 0)), (7, (vp bY 0)), (8, (vp bZ 0)), (9, (vi (k + 1))), (10, (vi (((i + 1) : Nat) : Int)))] ?_ ?_ ?_
    · exact ⟨rfl, rfl, rfl, rfl, rfl, rfl, rfl, rfl, (cA (Value.int .i64) (show ((((i : Nat) : Int) + 1) : Int) = (((i + 1) : Nat) : Int) by omega)), trivial⟩
    · exact fun u => ⟨(i + 1), (k + 1), u, rfl, cO, ((((Ch.refl (fun k => K.heap.size ≤ k) K).ext y (fun k hk => hk)).extk bp).extk cN), (by omega), (by first | rfl | (rw [ntK_t (by assumption) (by omega)]; omega) | (rw [ntK_f (by assumption) (by omega)]; omega)), (by first | (intro j hj; omega) | (subst bh; exact allN_next bj (by simp only [ntG, aL, aM, bk, aB, bR, cond_true, cond_false]; try rfl)))⟩
    · show (d.1.length : Int).toNat - ((((i + 1) : Nat) : Int)).toNat < (d.1.length : Int).toNat - (((i : Nat) : Int)).toNat; omega
  have nI := dF aM
  refine cf aM ?_
  refine wc_exit <| wq_then_exit <| wq_then_exit <| wq_blk_exit <| wq_then <| sr ?_
  refine mw (vs bc x.length bd) ?_
  refine cl wN (clat bS _ x (mR_22 (bv.from0 bT) (by omega)) 2 (by omega)) ?_
  rintro _ aA ⟨B, rfl⟩
  have nJ := at_b x 2
  refine wl_rem (l_at x 2) 20 wN rfl rfl (by kernel_rfl) (by first | omega | assumption) ?_
  refine cl wN (ciNoteName aA ((l_at x 2) % 20)) ?_
  rintro _ cM ⟨C, rfl⟩
  have cP := (bT.extk B).extk C
  refine aw (.string (i_NoteName ((l_at x 2) % 20))) ?_
  refine nx ?_
  refine mw (vs bc x.length bd) ?_
  refine cl wN (clat cM _ x (mR_22 (bv.from0 cP) (by omega)) 3 (by omega)) ?_
  rintro _ e7 ⟨D, rfl⟩
  have nK := at_b x 3
  refine wl_rem (l_at x 3) 20 wN rfl rfl (by kernel_rfl) (by first | omega | assumption) ?_
  refine cl wN (ciNoteName e7 ((l_at x 3) % 20)) ?_
  rintro _ b4 ⟨F, rfl⟩
  have bq := (cP.extk D).extk F
  refine aw (.string (i_NoteName ((l_at x 3) % 20))) ?_
  refine wl_nil <| wq_then <| wc_seq ?_
  rcases bf (decide (k = ((i_Pick ((d).1) ((d).2)).length : Int))) with a0 | a0
  ·have nM := dF a0
   refine wc_drawT ([(69, [], [], (fun _ v _ => v = (vi k))), (70, [], [], (fun _ v _ => v = (vs aC (i_Pick ((d).1) ((d).2)).length aD))), (71, [], [1], (fun _ v _ => v = (vi ((i_Pick ((d).1) ((d).2)).length : Int)))), (72, [], [0, 1, 2], (fun _ v _ => v = (vb (decide (k = ((i_Pick ((d).1) ((d).2)).length : Int)))))), (73, [], [0, 1, 2, 3], (fun _ v _ => v = (vb (decide (k = ((i_Pick ((d).1) ((d).2)).length : Int)))))), (74, [], [0, 1, 2, 3, 4], (fun _ v _ => v = U)), (75, [], [0, 1, 2, 3, 4], (fun _ v _ => v = U)), (76, [], [0, 1, 2, 3, 4, 5, 6], (fun _ v _ => v = U)), (77, [], [0, 1, 2, 3, 4, 5, 6, 7], (fun _ v _ => v = (vb false))), (78, [], [0, 1, 2, 3, 4, 5, 6, 7, 8], (fun _ v _ => v = (vb false))), (79, [], [0, 1, 2, 3, 4, 5, 6, 7, 8, 9], (fun _ v _ => v = U)), (80, [], [0, 1, 2, 3, 4, 5, 6, 7, 8, 9], (fun _ v _ => v = U)), (81, [], [0, 1, 2, 3, 4, 5, 6, 7, 8, 9, 10, 11], (fun _ v _ => v = U)), (82, [], [0, 1, 2, 3, 4, 5, 6, 7, 8, 9], (fun _ v _ => v = U)), (83, [], [0, 1, 2, 3, 4, 5, 6, 7, 8, 9], (fun _ v _ => v = U)), (84, [], [0, 1, 2, 3, 4, 5, 6, 7, 8, 9, 10, 11, 12, 13, 14], (fun _ v _ => v = U)), (85, [], [0, 1, 2, 3, 4, 5, 6, 7, 8, 9, 10, 11, 12, 13, 14, 15], (fun _ v _ => v = U)), (86, [], [0, 1, 2, 3, 4, 5, 6, 7, 8, 9, 10, 11, 12, 13, 14, 15, 16], (fun _ v _ => v = (vb false))), (87, [], [0, 1, 2, 3, 4, 5, 6, 7, 8, 9, 10, 11, 12, 13, 14, 15, 16, 17], (fun _ v _ => v = (vb false))), (88, [], [0, 1, 2, 3, 4, 5, 6, 7, 8, 9, 10, 11, 12, 13, 14, 15, 16, 17, 18], (fun _ v _ => v = U)), (89, [], [0, 1, 2, 3, 4, 5, 6, 7, 8, 9, 10, 11, 12, 13, 14, 15, 16, 17, 18], (fun _ v _ => v = U)), (90, [], [0, 1, 2, 3, 4, 5, 6, 7, 8, 9, 10, 11, 12, 13, 14, 15, 16, 17, 18, 19, 20], (fun _ v _ => v = U)), (91, [], [0, 1, 2, 3, 4, 5, 6, 7, 8, 9, 10, 11, 12, 13, 14, 15, 16, 17, 18], (fun _ v _ => v = U)), (92, [], [0, 1, 2, 3, 4, 5, 6, 7, 8, 9, 10, 11, 12, 13, 14, 15, 16, 17, 18], (fun _ v _ => v = U)), (93, [], [0, 1, 2, 3, 4, 5, 6, 7, 8, 9, 10, 11, 12, 13, 14, 15, 16, 17, 18, 19, 20, 21, 22, 23], (fun _ v _ => v = U)), (94, [], [0, 1, 2, 3, 4, 5, 6, 7, 8, 9, 10, 11, 12, 13, 14, 15, 16, 17, 18, 19, 20, 21, 22, 23, 24], (fun _ v _ => v = U)), (95, [], [0, 1, 2, 3, 4, 5, 6, 7, 8, 9, 10, 11, 12, 13, 14, 15, 16, 17, 18, 19, 20, 21, 22, 23, 24, 25], (fun _ v _ => v = (vb false))), (96, [], [0, 1, 2, 3, 4, 5, 6, 7, 8, 9, 10, 11, 12, 13, 14, 15, 16, 17, 18, 19, 20, 21, 22, 23, 24, 25, 26], (fun _ v _ => v = (vb false))), (97, [], [0, 1, 2, 3, 4, 5, 6, 7, 8, 9, 10, 11, 12, 13, 14, 15, 16, 17, 18, 19, 20, 21, 22, 23, 24, 25, 26, 27], (fun _ v _ => v = U)), (98, [], [0, 1, 2, 3, 4, 5, 6, 7, 8, 9, 10, 11, 12, 13, 14, 15, 16, 17, 18, 19, 20, 21, 22, 23, 24, 25, 26, 27, 28], (fun _ v _ => v = U)), (99, [], [0, 1, 2, 3, 4, 5, 6, 7, 8, 9, 10, 11, 12, 13, 14, 15, 16, 17, 18, 19, 20, 21, 22, 23, 24, 25, 26, 27], (fun _ v _ => v = U)), (100, [], [0, 1, 2, 3, 4, 5, 6, 7, 8, 9, 10, 11, 12, 13, 14, 15, 16, 17, 18, 19, 20, 21, 22, 23, 24, 25, 26, 27, 28, 29, 30], (fun _ v _ => v = U)), (101, [], [0, 1, 2, 3, 4, 5, 6, 7, 8, 9, 10, 11, 12, 13, 14, 15, 16, 17, 18, 19, 20, 21, 22, 23, 24, 25, 26, 27, 28, 29, 30, 31], (fun _ v _ => v = U)), (102, [], [0, 1, 2, 3, 4, 5, 6, 7, 8, 9, 10, 11, 12, 13, 14, 15, 16, 17, 18, 19, 20, 21, 22, 23, 24, 25, 26, 27, 28, 29, 30, 31, 32], (fun _ v _ => v = (vb false))), (103, [], [0, 1, 2, 3, 4, 5, 6, 7, 8, 9, 10, 11, 12, 13, 14, 15, 16, 17, 18, 19, 20, 21, 22, 23, 24, 25, 26, 27, 28, 29, 30, 31, 32, 33], (fun _ v _ => v = (vb false))), (104, [], [0, 1, 2, 3, 4, 5, 6, 7, 8, 9, 10, 11, 12, 13, 14, 15, 16, 17, 18, 19, 20, 21, 22, 23, 24, 25, 26, 27, 28, 29, 30, 31, 32, 33, 34], (fun _ v _ => v = U)), (105, [], [0, 1, 2, 3, 4, 5, 6, 7, 8, 9, 10, 11, 12, 13, 14, 15, 16, 17, 18, 19, 20, 21, 22, 23, 24, 25, 26, 27, 28, 29, 30, 31, 32, 33, 34, 35], (fun _ v _ => v = U)), (106, [], [0, 1, 2, 3, 4, 5, 6, 7, 8, 9, 10, 11, 12, 13, 14, 15, 16, 17, 18, 19, 20, 21, 22, 23, 24, 25, 26, 27, 28, 29, 30, 31, 32, 33, 34, 35, 36], (fun _ v _ => v = U)), (107, [], [0, 1, 2, 3, 4, 5, 6, 7, 8, 9, 10, 11, 12, 13, 14, 15, 16, 17, 18, 19, 20, 21, 22, 23, 24, 25, 26, 27, 28, 29, 30, 31, 32, 33, 34, 35, 36, 37], (fun _ v _ => v = U)), (108, [], [0, 1, 2, 3, 4, 5, 6, 7, 8, 9, 10, 11, 12, 13, 14, 15, 16, 17, 18, 19, 20, 21, 22, 23, 24, 25, 26, 27, 28, 29, 30, 31, 32, 33, 34, 35, 36, 37], (fun _ v _ => v = U)), (109, [], [0, 1, 2, 3, 4, 5, 6, 7, 8, 9, 10, 11, 12, 13, 14, 15, 16, 17, 18, 19, 20, 21, 22, 23, 24, 25, 26, 27, 28, 29, 30, 31, 32, 33, 34, 35, 36, 37, 38, 39], (fun _ v _ => v = U)), (110, [], [0, 1, 2, 3, 4, 5, 6, 7, 8, 9, 10, 11, 12, 13, 14, 15, 16, 17, 18, 19, 20, 21, 22, 23, 24, 25, 26, 27, 28, 29, 30, 31, 32, 33, 34, 35, 36, 37, 38, 39, 40], (fun _ v _ => v = U)), (111, [], [0, 1, 2, 3, 4, 5, 6, 7, 8, 9, 10, 11, 12, 13, 14, 15, 16, 17, 18, 19, 20, 21, 22, 23, 24, 25, 26, 27, 28, 29, 30, 31, 32, 33, 34, 35, 36, 37, 38, 39, 40, 41], (fun _ v _ => v = U)), (112, [], [0, 1, 2, 3, 4, 5, 6, 7, 8, 9, 10, 11, 12, 13, 14, 15, 16, 17, 18, 19, 20, 21, 22, 23, 24, 25, 26, 27, 28, 29, 30, 31, 32, 33, 34, 35, 36, 37, 38, 39, 40, 41, 42], (fun _ v _ => v = U)), (113, [], [0, 1, 2, 3, 4, 5, 6, 7, 8, 9, 10, 11, 12, 13, 14, 15, 16, 17, 18, 19, 20, 21, 22, 23, 24, 25, 26, 27, 28, 29, 30, 31, 32, 33, 34, 35, 36, 37, 38, 39, 40, 41, 42, 43], (fun _ v _ => v = U)), (114, [], [0, 1, 2, 3, 4, 5, 6, 7, 8, 9, 10, 11, 12, 13, 14, 15, 16, 17, 18, 19, 20, 21, 22, 23, 24, 25, 26, 27, 28, 29, 30, 31, 32, 33, 34, 35, 36, 37, 38, 39, 40, 41, 42, 43, 44], (fun _ v _ => v = U)), (115, [], [0, 1, 2, 3, 4, 5, 6, 7, 8, 9, 10, 11, 12, 13, 14, 15, 16, 17, 18, 19, 20, 21, 22, 23, 24, 25, 26, 27, 28, 29, 30, 31, 32, 33, 34, 35, 36, 37, 38, 39, 40, 41, 42], (fun _ v _ => v = U)), (116, [], [0, 1, 2, 3, 4, 5, 6, 7, 8, 9, 10, 11, 12, 13, 14, 15, 16, 17, 18, 19, 20, 21, 22, 23, 24, 25, 26, 27, 28, 29, 30, 31, 32, 33, 34, 35, 36, 37, 38, 39, 40, 41, 42, 43, 44, 46], (fun _ v _ => v = U)), (117, [], [0, 1, 2, 3, 4, 5, 6, 7, 8, 9, 10, 11, 12, 13, 14, 15, 16, 17, 18, 19, 20, 21, 22, 23, 24, 25, 26, 27, 28, 29, 30, 31, 32, 33, 34, 35, 36, 37, 38, 39, 40, 41, 42, 43, 44, 46, 47], (fun _ v _ => v = U))] : GV) (fun _ aE => Keep b4 aE) [] mixed rfl (by kernel_rfl) (by kernel_rfl) ?_ (fun _ _ h => h) (fun _ _ _ _ h _ k => h.trans k) trivial ?_ ?_ ?_
   ·exact ⟨hV, hE, ⟨hV, hE, ⟨hV, hE, ⟨hV, hE, ⟨hV, hE, ⟨hV, hE, ⟨hV, hE, ⟨hV, hE, ⟨hV, hE, ⟨hV, hE, ⟨hV, hE, ⟨hV, hE, ⟨hV, hE, ⟨hV, hE, ⟨hV, hE, ⟨hV, hE, ⟨hV, hE, ⟨hV, hE, ⟨hV, hE, ⟨hV, hE, ⟨hV, hE, ⟨hV, hE, ⟨hV, hE, ⟨hV, hE, ⟨hV, hE, ⟨hV, hE, ⟨hV, hE, ⟨hV, hE, ⟨hV, hE, ⟨hV, hE, ⟨hV, hE, ⟨hV, hE, ⟨hV, hE, ⟨hV, hE, ⟨hV, hE, ⟨hV, hE, ⟨hV, hE, ⟨hV, hE, ⟨hV, hE, ⟨hV, hE, ⟨hV, hE, ⟨hV, hE, ⟨hV, hE, ⟨hV, hE, ⟨hV, hE, ⟨hV, hE, ⟨hV, hE, ⟨hV, hE, ⟨hV, hE, trivial⟩⟩⟩⟩⟩⟩⟩⟩⟩⟩⟩⟩⟩⟩⟩⟩⟩⟩⟩⟩⟩⟩⟩⟩⟩⟩⟩⟩⟩⟩⟩⟩⟩⟩⟩⟩⟩⟩⟩⟩⟩⟩⟩⟩⟩⟩⟩⟩⟩
   ·exact trivial
   ·refine ⟨?_, ⟨?_, ⟨?_, ⟨?_, ⟨?_, ⟨?_, ⟨?_, ⟨?_, ⟨?_, ⟨?_, ⟨?_, ⟨?_, ⟨?_, ⟨?_, ⟨?_, ⟨?_, ⟨?_, ⟨?_, ⟨?_, ⟨?_, ⟨?_, ⟨?_, ⟨?_, ⟨?_, ⟨?_, ⟨?_, ⟨?_, ⟨?_, ⟨?_, ⟨?_, ⟨?_, ⟨?_, ⟨?_, ⟨?_, ⟨?_, ⟨?_, ⟨?_, ⟨?_, ⟨?_, ⟨?_, ⟨?_, ⟨?_, ⟨?_, ⟨?_, ⟨?_, ⟨?_, ⟨?_, ⟨?_, ⟨?_, trivial⟩⟩⟩⟩⟩⟩⟩⟩⟩⟩⟩⟩⟩⟩⟩⟩⟩⟩⟩⟩⟩⟩⟩⟩⟩⟩⟩⟩⟩⟩⟩⟩⟩⟩⟩⟩⟩⟩⟩⟩⟩⟩⟩⟩⟩⟩⟩⟩⟩
    ·intro _ b nO _
     rintro _ _ _ _ _ _ _ _ _ _ _ _ _ _ _ _ _ _ _ _ _ _ _ _ _ _ _ _ _ _ _ _ _ _ _ _ _ _ _ _ _ _ _ _ _ _ _ _ _
     show WL _ _ _ _ _ _ _
     refine mw (vi k) ?_
     exact f1
    ·intro _ b nP _
     rintro _ _ _ _ _ _ _ _ _ _ _ _ _ _ _ _ _ _ _ _ _ _ _ _ _ _ _ _ _ _ _ _ _ _ _ _ _ _ _ _ _ _ _ _ _ _ _ _ _
     show WL _ _ _ _ _ _ _
     refine mw (vs aC (i_Pick ((d).1) ((d).2)).length aD) ?_
     exact f1
    ·intro _ b e8 _
     rintro _ _ rfl _ _ _ _ _ _ _ _ _ _ _ _ _ _ _ _ _ _ _ _ _ _ _ _ _ _ _ _ _ _ _ _ _ _ _ _ _ _ _ _ _ _ _ _ _ _ _
     show WL _ _ _ _ _ _ _
     have e9 := (OLv.kp (OLv.kp (OLv.kp (OLv.kp (OLv.kp (OLv.ch (OLv.ch (OLv.kp (OLv.kp (OLv.ch (OLv.ch (OLv.kp (OLv.kp (OLv.kp bi ab) t) r) m (fun g M N hk => by have O := nT ab.size a1; omega)) l (fun g M N hk => by have O := nT (z2 ab t) P; omega)) e) q) p (fun g M N hk => by have O := nT (z6 ab t r m l e) I; omega)) y (fun g M N hk => by have O : Z.heap.size ≤ K.heap.size := (z8 ab t r m l e q p); have bo : K.heap.size ≤ g := hk; omega)) B) C) D) F) e8)
     obtain ⟨nQ, eA⟩ := RLv.row (OLv.rl e9)
     refine ln wN slTy_24 eA ?_
     exact f1
    ·intro _ b nR _
     rintro _ rfl _ rfl _ rfl _ _ _ _ _ _ _ _ _ _ _ _ _ _ _ _ _ _ _ _ _ _ _ _ _ _ _ _ _ _ _ _ _ _ _ _ _ _ _ _ _ _ _ _ _ _
     show WL _ _ _ _ _ _ _
     refine pu (vb (decide (k = ((i_Pick ((d).1) ((d).2)).length : Int)))) wN ?_
     exact f1
    ·intro _ b nS _
     rintro _ rfl _ rfl _ rfl _ rfl _ _ _ _ _ _ _ _ _ _ _ _ _ _ _ _ _ _ _ _ _ _ _ _ _ _ _ _ _ _ _ _ _ _ _ _ _ _ _ _ _ _ _ _ _
     show WL _ _ _ _ _ _ _
     refine mw (vb (decide (k = ((i_Pick ((d).1) ((d).2)).length : Int)))) ?_
     exact f1
    ·intro _ b nU _
     rintro _ rfl _ rfl _ rfl _ rfl _ rfl _ _ _ _ _ _ _ _ _ _ _ _ _ _ _ _ _ _ _ _ _ _ _ _ _ _ _ _ _ _ _ _ _ _ _ _ _ _ _ _ _ _ _ _
     show WL _ _ _ _ _ _ _
     refine sk a0 ?_
     exact f1
    ·intro _ b nV _
     rintro _ rfl _ rfl _ rfl _ rfl _ rfl _ _ _ _ _ _ _ _ _ _ _ _ _ _ _ _ _ _ _ _ _ _ _ _ _ _ _ _ _ _ _ _ _ _ _ _ _ _ _ _ _ _ _ _
     show WL _ _ _ _ _ _ _
     refine sk a0 ?_
     exact f1
    ·intro _ b nW _
     rintro _ rfl _ rfl _ rfl _ rfl _ rfl _ rfl _ rfl _ _ _ _ _ _ _ _ _ _ _ _ _ _ _ _ _ _ _ _ _ _ _ _ _ _ _ _ _ _ _ _ _ _ _ _ _ _ _ _ _ _
     show WL _ _ _ _ _ _ _
     refine sk a0 ?_
     exact f1
    ·intro _ b nX _
     rintro _ rfl _ rfl _ rfl _ rfl _ rfl _ rfl _ rfl _ rfl _ _ _ _ _ _ _ _ _ _ _ _ _ _ _ _ _ _ _ _ _ _ _ _ _ _ _ _ _ _ _ _ _ _ _ _ _ _ _ _ _
     show WL _ _ _ _ _ _ _
     refine pf (vb false) wN a0 ?_
     exact f1
    ·intro _ b nY _
     rintro _ rfl _ rfl _ rfl _ rfl _ rfl _ rfl _ rfl _ rfl _ rfl _ _ _ _ _ _ _ _ _ _ _ _ _ _ _ _ _ _ _ _ _ _ _ _ _ _ _ _ _ _ _ _ _ _ _ _ _ _ _ _
     show WL _ _ _ _ _ _ _
     refine mw (vb false) ?_
     exact f1
    ·intro _ b nZ _
     rintro _ rfl _ rfl _ rfl _ rfl _ rfl _ rfl _ rfl _ rfl _ rfl _ rfl _ _ _ _ _ _ _ _ _ _ _ _ _ _ _ _ _ _ _ _ _ _ _ _ _ _ _ _ _ _ _ _ _ _ _ _ _ _ _
     show WL _ _ _ _ _ _ _
     refine sk F1 ?_
     exact f1
    ·intro _ b oa _
     rintro _ rfl _ rfl _ rfl _ rfl _ rfl _ rfl _ rfl _ rfl _ rfl _ rfl _ _ _ _ _ _ _ _ _ _ _ _ _ _ _ _ _ _ _ _ _ _ _ _ _ _ _ _ _ _ _ _ _ _ _ _ _ _ _
     show WL _ _ _ _ _ _ _
     refine sk F1 ?_
     exact f1
    ·intro _ b ob _
     rintro _ rfl _ rfl _ rfl _ rfl _ rfl _ rfl _ rfl _ rfl _ rfl _ rfl _ rfl _ rfl _ _ _ _ _ _ _ _ _ _ _ _ _ _ _ _ _ _ _ _ _ _ _ _ _ _ _ _ _ _ _ _ _ _ _ _ _
     show WL _ _ _ _ _ _ _
     refine sk F1 ?_
     exact f1
    ·intro _ b oc _
     rintro _ rfl _ rfl _ rfl _ rfl _ rfl _ rfl _ rfl _ rfl _ rfl _ rfl _ _ _ _ _ _ _ _ _ _ _ _ _ _ _ _ _ _ _ _ _ _ _ _ _ _ _ _ _ _ _ _ _ _ _ _ _ _ _
     show WL _ _ _ _ _ _ _
     refine sk F1 ?_
     exact f1
    ·intro _ b od _
     rintro _ rfl _ rfl _ rfl _ rfl _ rfl _ rfl _ rfl _ rfl _ rfl _ rfl _ _ _ _ _ _ _ _ _ _ _ _ _ _ _ _ _ _ _ _ _ _ _ _ _ _ _ _ _ _ _ _ _ _ _ _ _ _ _
     show WL _ _ _ _ _ _ _
     refine sk F1 ?_
     exact f1
    ·intro _ b oe _
     rintro _ rfl _ rfl _ rfl _ rfl _ rfl _ rfl _ rfl _ rfl _ rfl _ rfl _ rfl _ rfl _ rfl _ rfl _ rfl _ _ _ _ _ _ _ _ _ _ _ _ _ _ _ _ _ _ _ _ _ _ _ _ _ _ _ _ _ _ _ _ _ _
     show WL _ _ _ _ _ _ _
     refine sk F1 ?_
     exact f1
    ·intro _ b og _
     rintro _ rfl _ rfl _ rfl _ rfl _ rfl _ rfl _ rfl _ rfl _ rfl _ rfl _ rfl _ rfl _ rfl _ rfl _ rfl _ rfl _ _ _ _ _ _ _ _ _ _ _ _ _ _ _ _ _ _ _ _ _ _ _ _ _ _ _ _ _ _ _ _ _
     show WL _ _ _ _ _ _ _
     refine sk F1 ?_
     exact f1
    ·intro _ b oh _
     rintro _ rfl _ rfl _ rfl _ rfl _ rfl _ rfl _ rfl _ rfl _ rfl _ rfl _ rfl _ rfl _ rfl _ rfl _ rfl _ rfl _ rfl _ _ _ _ _ _ _ _ _ _ _ _ _ _ _ _ _ _ _ _ _ _ _ _ _ _ _ _ _ _ _ _
     show WL _ _ _ _ _ _ _
     refine pf (vb false) wN (Eq.refl false) ?_
     exact f1
    ·intro _ b oi _
     rintro _ rfl _ rfl _ rfl _ rfl _ rfl _ rfl _ rfl _ rfl _ rfl _ rfl _ rfl _ rfl _ rfl _ rfl _ rfl _ rfl _ rfl _ rfl _ _ _ _ _ _ _ _ _ _ _ _ _ _ _ _ _ _ _ _ _ _ _ _ _ _ _ _ _ _ _
     show WL _ _ _ _ _ _ _
     refine mw (vb false) ?_
     exact f1
    ·intro _ b oj _
     rintro _ rfl _ rfl _ rfl _ rfl _ rfl _ rfl _ rfl _ rfl _ rfl _ rfl _ rfl _ rfl _ rfl _ rfl _ rfl _ rfl _ rfl _ rfl _ rfl _ _ _ _ _ _ _ _ _ _ _ _ _ _ _ _ _ _ _ _ _ _ _ _ _ _ _ _ _ _
     show WL _ _ _ _ _ _ _
     refine sk F1 ?_
     exact f1
    ·intro _ b ol _
     rintro _ rfl _ rfl _ rfl _ rfl _ rfl _ rfl _ rfl _ rfl _ rfl _ rfl _ rfl _ rfl _ rfl _ rfl _ rfl _ rfl _ rfl _ rfl _ rfl _ _ _ _ _ _ _ _ _ _ _ _ _ _ _ _ _ _ _ _ _ _ _ _ _ _ _ _ _ _
     show WL _ _ _ _ _ _ _
     refine sk F1 ?_
     exact f1
    ·intro _ b om _
     rintro _ rfl _ rfl _ rfl _ rfl _ rfl _ rfl _ rfl _ rfl _ rfl _ rfl _ rfl _ rfl _ rfl _ rfl _ rfl _ rfl _ rfl _ rfl _ rfl _ rfl _ rfl _ _ _ _ _ _ _ _ _ _ _ _ _ _ _ _ _ _ _ _ _ _ _ _ _ _ _ _
     show WL _ _ _ _ _ _ _
     refine sk F1 ?_
     exact f1
    ·intro _ b oo _
     rintro _ rfl _ rfl _ rfl _ rfl _ rfl _ rfl _ rfl _ rfl _ rfl _ rfl _ rfl _ rfl _ rfl _ rfl _ rfl _ rfl _ rfl _ rfl _ rfl _ _ _ _ _ _ _ _ _ _ _ _ _ _ _ _ _ _ _ _ _ _ _ _ _ _ _ _ _ _
     show WL _ _ _ _ _ _ _
     refine sk F1 ?_
     exact f1
    ·intro _ b oq _
     rintro _ rfl _ rfl _ rfl _ rfl _ rfl _ rfl _ rfl _ rfl _ rfl _ rfl _ rfl _ rfl _ rfl _ rfl _ rfl _ rfl _ rfl _ rfl _ rfl _ _ _ _ _ _ _ _ _ _ _ _ _ _ _ _ _ _ _ _ _ _ _ _ _ _ _ _ _ _
     show WL _ _ _ _ _ _ _
     refine sk F1 ?_
     exact f1
    ·intro _ b os _
     rintro _ rfl _ rfl _ rfl _ rfl _ rfl _ rfl _ rfl _ rfl _ rfl _ rfl _ rfl _ rfl _ rfl _ rfl _ rfl _ rfl _ rfl _ rfl _ rfl _ rfl _ rfl _ rfl _ rfl _ rfl _ _ _ _ _ _ _ _ _ _ _ _ _ _ _ _ _ _ _ _ _ _ _ _ _
     show WL _ _ _ _ _ _ _
     refine sk F1 ?_
     exact f1
    ·intro _ b ot _
     rintro _ rfl _ rfl _ rfl _ rfl _ rfl _ rfl _ rfl _ rfl _ rfl _ rfl _ rfl _ rfl _ rfl _ rfl _ rfl _ rfl _ rfl _ rfl _ rfl _ rfl _ rfl _ rfl _ rfl _ rfl _ rfl _ _ _ _ _ _ _ _ _ _ _ _ _ _ _ _ _ _ _ _ _ _ _ _
     show WL _ _ _ _ _ _ _
     refine sk F1 ?_
     exact f1
    ·intro _ b ou _
     rintro _ rfl _ rfl _ rfl _ rfl _ rfl _ rfl _ rfl _ rfl _ rfl _ rfl _ rfl _ rfl _ rfl _ rfl _ rfl _ rfl _ rfl _ rfl _ rfl _ rfl _ rfl _ rfl _ rfl _ rfl _ rfl _ rfl _ _ _ _ _ _ _ _ _ _ _ _ _ _ _ _ _ _ _ _ _ _ _
     show WL _ _ _ _ _ _ _
     refine pf (vb false) wN (Eq.refl false) ?_
     exact f1
    ·intro _ b ox _
     rintro _ rfl _ rfl _ rfl _ rfl _ rfl _ rfl _ rfl _ rfl _ rfl _ rfl _ rfl _ rfl _ rfl _ rfl _ rfl _ rfl _ rfl _ rfl _ rfl _ rfl _ rfl _ rfl _ rfl _ rfl _ rfl _ rfl _ rfl _ _ _ _ _ _ _ _ _ _ _ _ _ _ _ _ _ _ _ _ _ _
     show WL _ _ _ _ _ _ _
     refine mw (vb false) ?_
     exact f1
    ·intro _ b oy _
     rintro _ rfl _ rfl _ rfl _ rfl _ rfl _ rfl _ rfl _ rfl _ rfl _ rfl _ rfl _ rfl _ rfl _ rfl _ rfl _ rfl _ rfl _ rfl _ rfl _ rfl _ rfl _ rfl _ rfl _ rfl _ rfl _ rfl _ rfl _ rfl _ _ _ _ _ _ _ _ _ _ _ _ _ _ _ _ _ _ _ _ _
     show WL _ _ _ _ _ _ _
     refine sk F1 ?_
     exact f1
    ·intro _ b oz _
     rintro _ rfl _ rfl _ rfl _ rfl _ rfl _ rfl _ rfl _ rfl _ rfl _ rfl _ rfl _ rfl _ rfl _ rfl _ rfl _ rfl _ rfl _ rfl _ rfl _ rfl _ rfl _ rfl _ rfl _ rfl _ rfl _ rfl _ rfl _ rfl _ rfl _ _ _ _ _ _ _ _ _ _ _ _ _ _ _ _ _ _ _ _
     show WL _ _ _ _ _ _ _
     refine sk F1 ?_
     exact f1
    ·intro _ b o0 _
     rintro _ rfl _ rfl _ rfl _ rfl _ rfl _ rfl _ rfl _ rfl _ rfl _ rfl _ rfl _ rfl _ rfl _ rfl _ rfl _ rfl _ rfl _ rfl _ rfl _ rfl _ rfl _ rfl _ rfl _ rfl _ rfl _ rfl _ rfl _ rfl _ _ _ _ _ _ _ _ _ _ _ _ _ _ _ _ _ _ _ _ _
     show WL _ _ _ _ _ _ _
     refine sk F1 ?_
     exact f1
    ·intro _ b o1 _
     rintro _ rfl _ rfl _ rfl _ rfl _ rfl _ rfl _ rfl _ rfl _ rfl _ rfl _ rfl _ rfl _ rfl _ rfl _ rfl _ rfl _ rfl _ rfl _ rfl _ rfl _ rfl _ rfl _ rfl _ rfl _ rfl _ rfl _ rfl _ rfl _ rfl _ rfl _ rfl _ _ _ _ _ _ _ _ _ _ _ _ _ _ _ _ _ _
     show WL _ _ _ _ _ _ _
     refine sk F1 ?_
     exact f1
    ·intro _ b o2 _
     rintro _ rfl _ rfl _ rfl _ rfl _ rfl _ rfl _ rfl _ rfl _ rfl _ rfl _ rfl _ rfl _ rfl _ rfl _ rfl _ rfl _ rfl _ rfl _ rfl _ rfl _ rfl _ rfl _ rfl _ rfl _ rfl _ rfl _ rfl _ rfl _ rfl _ rfl _ rfl _ rfl _ _ _ _ _ _ _ _ _ _ _ _ _ _ _ _ _
     show WL _ _ _ _ _ _ _
     refine sk F1 ?_
     exact f1
    ·intro _ b o3 _
     rintro _ rfl _ rfl _ rfl _ rfl _ rfl _ rfl _ rfl _ rfl _ rfl _ rfl _ rfl _ rfl _ rfl _ rfl _ rfl _ rfl _ rfl _ rfl _ rfl _ rfl _ rfl _ rfl _ rfl _ rfl _ rfl _ rfl _ rfl _ rfl _ rfl _ rfl _ rfl _ rfl _ rfl _ _ _ _ _ _ _ _ _ _ _ _ _ _ _ _
     show WL _ _ _ _ _ _ _
     refine pf (vb false) wN (Eq.refl false) ?_
     exact f1
    ·intro _ b o4 _
     rintro _ rfl _ rfl _ rfl _ rfl _ rfl _ rfl _ rfl _ rfl _ rfl _ rfl _ rfl _ rfl _ rfl _ rfl _ rfl _ rfl _ rfl _ rfl _ rfl _ rfl _ rfl _ rfl _ rfl _ rfl _ rfl _ rfl _ rfl _ rfl _ rfl _ rfl _ rfl _ rfl _ rfl _ rfl _ _ _ _ _ _ _ _ _ _ _ _ _ _ _
     show WL _ _ _ _ _ _ _
     refine mw (vb false) ?_
     exact f1
    ·intro _ b o5 _
     rintro _ rfl _ rfl _ rfl _ rfl _ rfl _ rfl _ rfl _ rfl _ rfl _ rfl _ rfl _ rfl _ rfl _ rfl _ rfl _ rfl _ rfl _ rfl _ rfl _ rfl _ rfl _ rfl _ rfl _ rfl _ rfl _ rfl _ rfl _ rfl _ rfl _ rfl _ rfl _ rfl _ rfl _ rfl _ rfl _ _ _ _ _ _ _ _ _ _ _ _ _ _
     show WL _ _ _ _ _ _ _
     refine sk F1 ?_
     exact f1
    ·intro _ b o6 _
     rintro _ rfl _ rfl _ rfl _ rfl _ rfl _ rfl _ rfl _ rfl _ rfl _ rfl _ rfl _ rfl _ rfl _ rfl _ rfl _ rfl _ rfl _ rfl _ rfl _ rfl _ rfl _ rfl _ rfl _ rfl _ rfl _ rfl _ rfl _ rfl _ rfl _ rfl _ rfl _ rfl _ rfl _ rfl _ rfl _ rfl _ _ _ _ _ _ _ _ _ _ _ _ _
     show WL _ _ _ _ _ _ _
     refine sk F1 ?_
     exact f1
    ·intro _ b o7 _
     rintro _ rfl _ rfl _ rfl _ rfl _ rfl _ rfl _ rfl _ rfl _ rfl _ rfl _ rfl _ rfl _ rfl _ rfl _ rfl _ rfl _ rfl _ rfl _ rfl _ rfl _ rfl _ rfl _ rfl _ rfl _ rfl _ rfl _ rfl _ rfl _ rfl _ rfl _ rfl _ rfl _ rfl _ rfl _ rfl _ rfl _ rfl _ _ _ _ _ _ _ _ _ _ _ _
     show WL _ _ _ _ _ _ _
     refine sk F1 ?_
     exact f1
    ·intro _ b o8 _
     rintro _ rfl _ rfl _ rfl _ rfl _ rfl _ rfl _ rfl _ rfl _ rfl _ rfl _ rfl _ rfl _ rfl _ rfl _ rfl _ rfl _ rfl _ rfl _ rfl _ rfl _ rfl _ rfl _ rfl _ rfl _ rfl _ rfl _ rfl _ rfl _ rfl _ rfl _ rfl _ rfl _ rfl _ rfl _ rfl _ rfl _ rfl _ rfl _ _ _ _ _ _ _ _ _ _ _
     show WL _ _ _ _ _ _ _
     refine su ?_
     exact f1
    ·intro _ b o9 _
     rintro _ rfl _ rfl _ rfl _ rfl _ rfl _ rfl _ rfl _ rfl _ rfl _ rfl _ rfl _ rfl _ rfl _ rfl _ rfl _ rfl _ rfl _ rfl _ rfl _ rfl _ rfl _ rfl _ rfl _ rfl _ rfl _ rfl _ rfl _ rfl _ rfl _ rfl _ rfl _ rfl _ rfl _ rfl _ rfl _ rfl _ rfl _ rfl _ _ _ _ _ _ _ _ _ _ _
     show WL _ _ _ _ _ _ _
     refine su ?_
     exact f1
    ·intro _ b oA _
     rintro _ rfl _ rfl _ rfl _ rfl _ rfl _ rfl _ rfl _ rfl _ rfl _ rfl _ rfl _ rfl _ rfl _ rfl _ rfl _ rfl _ rfl _ rfl _ rfl _ rfl _ rfl _ rfl _ rfl _ rfl _ rfl _ rfl _ rfl _ rfl _ rfl _ rfl _ rfl _ rfl _ rfl _ rfl _ rfl _ rfl _ rfl _ rfl _ rfl _ rfl _ _ _ _ _ _ _ _ _
     show WL _ _ _ _ _ _ _
     refine su ?_
     exact f1
    ·intro _ b oB _
     rintro _ rfl _ rfl _ rfl _ rfl _ rfl _ rfl _ rfl _ rfl _ rfl _ rfl _ rfl _ rfl _ rfl _ rfl _ rfl _ rfl _ rfl _ rfl _ rfl _ rfl _ rfl _ rfl _ rfl _ rfl _ rfl _ rfl _ rfl _ rfl _ rfl _ rfl _ rfl _ rfl _ rfl _ rfl _ rfl _ rfl _ rfl _ rfl _ rfl _ rfl _ rfl _ _ _ _ _ _ _ _
     show WL _ _ _ _ _ _ _
     refine sk F1 ?_
     exact f1
    ·intro _ b oC _
     rintro _ rfl _ rfl _ rfl _ rfl _ rfl _ rfl _ rfl _ rfl _ rfl _ rfl _ rfl _ rfl _ rfl _ rfl _ rfl _ rfl _ rfl _ rfl _ rfl _ rfl _ rfl _ rfl _ rfl _ rfl _ rfl _ rfl _ rfl _ rfl _ rfl _ rfl _ rfl _ rfl _ rfl _ rfl _ rfl _ rfl _ rfl _ rfl _ rfl _ rfl _ rfl _ rfl _ _ _ _ _ _ _
     show WL _ _ _ _ _ _ _
     refine sk F1 ?_
     exact f1
    ·intro _ b oD _
     rintro _ rfl _ rfl _ rfl _ rfl _ rfl _ rfl _ rfl _ rfl _ rfl _ rfl _ rfl _ rfl _ rfl _ rfl _ rfl _ rfl _ rfl _ rfl _ rfl _ rfl _ rfl _ rfl _ rfl _ rfl _ rfl _ rfl _ rfl _ rfl _ rfl _ rfl _ rfl _ rfl _ rfl _ rfl _ rfl _ rfl _ rfl _ rfl _ rfl _ rfl _ rfl _ rfl _ rfl _ _ _ _ _ _
     show WL _ _ _ _ _ _ _
     refine su ?_
     exact f1
    ·intro _ b oE _
     rintro _ rfl _ rfl _ rfl _ rfl _ rfl _ rfl _ rfl _ rfl _ rfl _ rfl _ rfl _ rfl _ rfl _ rfl _ rfl _ rfl _ rfl _ rfl _ rfl _ rfl _ rfl _ rfl _ rfl _ rfl _ rfl _ rfl _ rfl _ rfl _ rfl _ rfl _ rfl _ rfl _ rfl _ rfl _ rfl _ rfl _ rfl _ rfl _ rfl _ rfl _ rfl _ rfl _ rfl _ rfl _ _ _ _ _
     show WL _ _ _ _ _ _ _
     refine su ?_
     exact f1
    ·intro _ b oF _
     rintro _ rfl _ rfl _ rfl _ rfl _ rfl _ rfl _ rfl _ rfl _ rfl _ rfl _ rfl _ rfl _ rfl _ rfl _ rfl _ rfl _ rfl _ rfl _ rfl _ rfl _ rfl _ rfl _ rfl _ rfl _ rfl _ rfl _ rfl _ rfl _ rfl _ rfl _ rfl _ rfl _ rfl _ rfl _ rfl _ rfl _ rfl _ rfl _ rfl _ rfl _ rfl _ rfl _ rfl _ rfl _ rfl _ _ _ _
     show WL _ _ _ _ _ _ _
     refine su ?_
     exact f1
    ·intro _ b oG _
     rintro _ rfl _ rfl _ rfl _ rfl _ rfl _ rfl _ rfl _ rfl _ rfl _ rfl _ rfl _ rfl _ rfl _ rfl _ rfl _ rfl _ rfl _ rfl _ rfl _ rfl _ rfl _ rfl _ rfl _ rfl _ rfl _ rfl _ rfl _ rfl _ rfl _ rfl _ rfl _ rfl _ rfl _ rfl _ rfl _ rfl _ rfl _ rfl _ rfl _ rfl _ rfl _ rfl _ rfl _ _ _ _ _ _
     show WL _ _ _ _ _ _ _
     refine su ?_
     exact f1
    ·intro _ b oH _
     rintro _ rfl _ rfl _ rfl _ rfl _ rfl _ rfl _ rfl _ rfl _ rfl _ rfl _ rfl _ rfl _ rfl _ rfl _ rfl _ rfl _ rfl _ rfl _ rfl _ rfl _ rfl _ rfl _ rfl _ rfl _ rfl _ rfl _ rfl _ rfl _ rfl _ rfl _ rfl _ rfl _ rfl _ rfl _ rfl _ rfl _ rfl _ rfl _ rfl _ rfl _ rfl _ rfl _ rfl _ rfl _ rfl _ _ rfl _ _
     show WL _ _ _ _ _ _ _
     refine su ?_
     exact f1
    ·intro _ b oI _
     rintro _ rfl _ rfl _ rfl _ rfl _ rfl _ rfl _ rfl _ rfl _ rfl _ rfl _ rfl _ rfl _ rfl _ rfl _ rfl _ rfl _ rfl _ rfl _ rfl _ rfl _ rfl _ rfl _ rfl _ rfl _ rfl _ rfl _ rfl _ rfl _ rfl _ rfl _ rfl _ rfl _ rfl _ rfl _ rfl _ rfl _ rfl _ rfl _ rfl _ rfl _ rfl _ rfl _ rfl _ rfl _ rfl _ _ rfl _ rfl _
     show WL _ _ _ _ _ _ _
     refine su ?_
     exact f1
   ·intro _ b eB
    have eC := bq.extk eB
    rintro _ rfl _ rfl _ rfl _ rfl _ rfl _ rfl _ rfl _ rfl _ rfl _ rfl _ rfl _ rfl _ rfl _ rfl _ rfl _ rfl _ rfl _ rfl _ rfl _ rfl _ rfl _ rfl _ rfl _ rfl _ rfl _ rfl _ rfl _ rfl _ rfl _ rfl _ rfl _ rfl _ rfl _ rfl _ rfl _ rfl _ rfl _ rfl _ rfl _ rfl _ rfl _ rfl _ rfl _ rfl _ rfl _ rfl _ rfl _ rfl _ rfl
    show WL _ _ _ _ _ _ _
    refine su ?_
    refine sk F1 ?_
    refine pf (vb false) wN (Eq.refl false) ?_
    refine aw (vb false) ?_
    refine n3 ?_
    refine rt (vb false) ?_
    have eD : ntLaw x d a J = false := by obtain rfl : i = d.1.length := (by omega); subst bh; have hz := allN_t (f := ntG d) (n := d.1.length) (k := d.1.length) bj (by omega); simp only [ntLaw, ntT, ntS, hz, aL, aM, a0, cond_true, cond_false]; try rfl
    exact ⟨d, a, J, eC.keep0, bl, bm, bn, by rw [eD]⟩
  have oJ := dT a0
  rcases bf (i_SameNote ((a).1) ((a).1)) with aa | aa
  ·refine wc_drawT ([(69, [], [], (fun _ v _ => v = (vi k))), (70, [], [], (fun _ v _ => v = (vs aC (i_Pick ((d).1) ((d).2)).length aD))), (71, [], [1], (fun _ v _ => v = (vi ((i_Pick ((d).1) ((d).2)).length : Int)))), (72, [], [0, 1, 2], (fun _ v _ => v = (vb (decide (k = ((i_Pick ((d).1) ((d).2)).length : Int)))))), (73, [], [0, 1, 2, 3], (fun _ v _ => v = (vb (decide (k = ((i_Pick ((d).1) ((d).2)).length : Int)))))), (74, [], [0, 1, 2, 3, 4], (fun _ v _ => v = (va (L_31 ((a).1) Q R S T V W X Y)))), (75, [], [0, 1, 2, 3, 4], (fun _ v _ => v = (va (L_31 ((a).1) Q R S T V W X Y)))), (76, [], [0, 1, 2, 3, 4, 5, 6], (fun _ v w => v = .bool (i_SameNote ((a).1) ((a).1)))), (77, [], [0, 1, 2, 3, 4, 5, 6, 7], (fun _ v _ => v = (vb (i_SameNote ((a).1) ((a).1))))), (78, [], [0, 1, 2, 3, 4, 5, 6, 7, 8], (fun _ v _ => v = (vb (i_SameNote ((a).1) ((a).1))))), (79, [], [0, 1, 2, 3, 4, 5, 6, 7, 8, 9], (fun _ v _ => v = U)), (80, [], [0, 1, 2, 3, 4, 5, 6, 7, 8, 9], (fun _ v _ => v = U)), (81, [], [0, 1, 2, 3, 4, 5, 6, 7, 8, 9, 10, 11], (fun _ v _ => v = U)), (82, [], [0, 1, 2, 3, 4, 5, 6, 7, 8, 9], (fun _ v _ => v = U)), (83, [], [0, 1, 2, 3, 4, 5, 6, 7, 8, 9], (fun _ v _ => v = U)), (84, [], [0, 1, 2, 3, 4, 5, 6, 7, 8, 9, 10, 11, 12, 13, 14], (fun _ v _ => v = U)), (85, [], [0, 1, 2, 3, 4, 5, 6, 7, 8, 9, 10, 11, 12, 13, 14, 15], (fun _ v _ => v = U)), (86, [], [0, 1, 2, 3, 4, 5, 6, 7, 8, 9, 10, 11, 12, 13, 14, 15, 16], (fun _ v _ => v = (vb false))), (87, [], [0, 1, 2, 3, 4, 5, 6, 7, 8, 9, 10, 11, 12, 13, 14, 15, 16, 17], (fun _ v _ => v = (vb false))), (88, [], [0, 1, 2, 3, 4, 5, 6, 7, 8, 9, 10, 11, 12, 13, 14, 15, 16, 17, 18], (fun _ v _ => v = U)), (89, [], [0, 1, 2, 3, 4, 5, 6, 7, 8, 9, 10, 11, 12, 13, 14, 15, 16, 17, 18], (fun _ v _ => v = U)), (90, [], [0, 1, 2, 3, 4, 5, 6, 7, 8, 9, 10, 11, 12, 13, 14, 15, 16, 17, 18, 19, 20], (fun _ v _ => v = U)), (91, [], [0, 1, 2, 3, 4, 5, 6, 7, 8, 9, 10, 11, 12, 13, 14, 15, 16, 17, 18], (fun _ v _ => v = U)), (92, [], [0, 1, 2, 3, 4, 5, 6, 7, 8, 9, 10, 11, 12, 13, 14, 15, 16, 17, 18], (fun _ v _ => v = U)), (93, [], [0, 1, 2, 3, 4, 5, 6, 7, 8, 9, 10, 11, 12, 13, 14, 15, 16, 17, 18, 19, 20, 21, 22, 23], (fun _ v _ => v = U)), (94, [], [0, 1, 2, 3, 4, 5, 6, 7, 8, 9, 10, 11, 12, 13, 14, 15, 16, 17, 18, 19, 20, 21, 22, 23, 24], (fun _ v _ => v = U)), (95, [], [0, 1, 2, 3, 4, 5, 6, 7, 8, 9, 10, 11, 12, 13, 14, 15, 16, 17, 18, 19, 20, 21, 22, 23, 24, 25], (fun _ v _ => v = (vb false))), (96, [], [0, 1, 2, 3, 4, 5, 6, 7, 8, 9, 10, 11, 12, 13, 14, 15, 16, 17, 18, 19, 20, 21, 22, 23, 24, 25, 26], (fun _ v _ => v = (vb false))), (97, [], [0, 1, 2, 3, 4, 5, 6, 7, 8, 9, 10, 11, 12, 13, 14, 15, 16, 17, 18, 19, 20, 21, 22, 23, 24, 25, 26, 27], (fun _ v _ => v = U)), (98, [], [0, 1, 2, 3, 4, 5, 6, 7, 8, 9, 10, 11, 12, 13, 14, 15, 16, 17, 18, 19, 20, 21, 22, 23, 24, 25, 26, 27, 28], (fun _ v _ => v = U)), (99, [], [0, 1, 2, 3, 4, 5, 6, 7, 8, 9, 10, 11, 12, 13, 14, 15, 16, 17, 18, 19, 20, 21, 22, 23, 24, 25, 26, 27], (fun _ v _ => v = U)), (100, [], [0, 1, 2, 3, 4, 5, 6, 7, 8, 9, 10, 11, 12, 13, 14, 15, 16, 17, 18, 19, 20, 21, 22, 23, 24, 25, 26, 27, 28, 29, 30], (fun _ v _ => v = U)), (101, [], [0, 1, 2, 3, 4, 5, 6, 7, 8, 9, 10, 11, 12, 13, 14, 15, 16, 17, 18, 19, 20, 21, 22, 23, 24, 25, 26, 27, 28, 29, 30, 31], (fun _ v _ => v = U)), (102, [], [0, 1, 2, 3, 4, 5, 6, 7, 8, 9, 10, 11, 12, 13, 14, 15, 16, 17, 18, 19, 20, 21, 22, 23, 24, 25, 26, 27, 28, 29, 30, 31, 32], (fun _ v _ => v = (vb false))), (103, [], [0, 1, 2, 3, 4, 5, 6, 7, 8, 9, 10, 11, 12, 13, 14, 15, 16, 17, 18, 19, 20, 21, 22, 23, 24, 25, 26, 27, 28, 29, 30, 31, 32, 33], (fun _ v _ => v = (vb false))), (104, [], [0, 1, 2, 3, 4, 5, 6, 7, 8, 9, 10, 11, 12, 13, 14, 15, 16, 17, 18, 19, 20, 21, 22, 23, 24, 25, 26, 27, 28, 29, 30, 31, 32, 33, 34], (fun _ v _ => v = U)), (105, [], [0, 1, 2, 3, 4, 5, 6, 7, 8, 9, 10, 11, 12, 13, 14, 15, 16, 17, 18, 19, 20, 21, 22, 23, 24, 25, 26, 27, 28, 29, 30, 31, 32, 33, 34, 35], (fun _ v _ => v = U)), (106, [], [0, 1, 2, 3, 4, 5, 6, 7, 8, 9, 10, 11, 12, 13, 14, 15, 16, 17, 18, 19, 20, 21, 22, 23, 24, 25, 26, 27, 28, 29, 30, 31, 32, 33, 34, 35, 36], (fun _ v _ => v = U)), (107, [], [0, 1, 2, 3, 4, 5, 6, 7, 8, 9, 10, 11, 12, 13, 14, 15, 16, 17, 18, 19, 20, 21, 22, 23, 24, 25, 26, 27, 28, 29, 30, 31, 32, 33, 34, 35, 36, 37], (fun _ v _ => v = U)), (108, [], [0, 1, 2, 3, 4, 5, 6, 7, 8, 9, 10, 11, 12, 13, 14, 15, 16, 17, 18, 19, 20, 21, 22, 23, 24, 25, 26, 27, 28, 29, 30, 31, 32, 33, 34, 35, 36, 37], (fun _ v _ => v = U)), (109, [], [0, 1, 2, 3, 4, 5, 6, 7, 8, 9, 10, 11, 12, 13, 14, 15, 16, 17, 18, 19, 20, 21, 22, 23, 24, 25, 26, 27, 28, 29, 30, 31, 32, 33, 34, 35, 36, 37, 38, 39], (fun _ v _ => v = U)), (110, [], [0, 1, 2, 3, 4, 5, 6, 7, 8, 9, 10, 11, 12, 13, 14, 15, 16, 17, 18, 19, 20, 21, 22, 23, 24, 25, 26, 27, 28, 29, 30, 31, 32, 33, 34, 35, 36, 37, 38, 39, 40], (fun _ v _ => v = U)), (111, [], [0, 1, 2, 3, 4, 5, 6, 7, 8, 9, 10, 11, 12, 13, 14, 15, 16, 17, 18, 19, 20, 21, 22, 23, 24, 25, 26, 27, 28, 29, 30, 31, 32, 33, 34, 35, 36, 37, 38, 39, 40, 41], (fun _ v _ => v = U)), (112, [], [0, 1, 2, 3, 4, 5, 6, 7, 8, 9, 10, 11, 12, 13, 14, 15, 16, 17, 18, 19, 20, 21, 22, 23, 24, 25, 26, 27, 28, 29, 30, 31, 32, 33, 34, 35, 36, 37, 38, 39, 40, 41, 42], (fun _ v _ => v = U)), (113, [], [0, 1, 2, 3, 4, 5, 6, 7, 8, 9, 10, 11, 12, 13, 14, 15, 16, 17, 18, 19, 20, 21, 22, 23, 24, 25, 26, 27, 28, 29, 30, 31, 32, 33, 34, 35, 36, 37, 38, 39, 40, 41, 42, 43], (fun _ v _ => v = U)), (114, [], [0, 1, 2, 3, 4, 5, 6, 7, 8, 9, 10, 11, 12, 13, 14, 15, 16, 17, 18, 19, 20, 21, 22, 23, 24, 25, 26, 27, 28, 29, 30, 31, 32, 33, 34, 35, 36, 37, 38, 39, 40, 41, 42, 43, 44], (fun _ v _ => v = U)), (115, [], [0, 1, 2, 3, 4, 5, 6, 7, 8, 9, 10, 11, 12, 13, 14, 15, 16, 17, 18, 19, 20, 21, 22, 23, 24, 25, 26, 27, 28, 29, 30, 31, 32, 33, 34, 35, 36, 37, 38, 39, 40, 41, 42], (fun _ v _ => v = U)), (116, [], [0, 1, 2, 3, 4, 5, 6, 7, 8, 9, 10, 11, 12, 13, 14, 15, 16, 17, 18, 19, 20, 21, 22, 23, 24, 25, 26, 27, 28, 29, 30, 31, 32, 33, 34, 35, 36, 37, 38, 39, 40, 41, 42, 43, 44, 46], (fun _ v _ => v = U)), (117, [], [0, 1, 2, 3, 4, 5, 6, 7, 8, 9, 10, 11, 12, 13, 14, 15, 16, 17, 18, 19, 20, 21, 22, 23, 24, 25, 26, 27, 28, 29, 30, 31, 32, 33, 34, 35, 36, 37, 38, 39, 40, 41, 42, 43, 44, 46, 47], (fun _ v _ => v = U))] : GV) (fun _ aE => Keep b4 aE) [] mixed rfl (by kernel_rfl) (by kernel_rfl) ?_ (fun _ _ h => h) (fun _ _ _ _ h _ k => h.trans k) trivial ?_ ?_ ?_
   ·exact ⟨hV, hE, ⟨hV, hE, ⟨hV, hE, ⟨hV, hE, ⟨hV, hE, ⟨hV, hE, ⟨hV, hE, ⟨hV, hE, ⟨hV, hE, ⟨hV, hE, ⟨hV, hE, ⟨hV, hE, ⟨hV, hE, ⟨hV, hE, ⟨hV, hE, ⟨hV, hE, ⟨hV, hE, ⟨hV, hE, ⟨hV, hE, ⟨hV, hE, ⟨hV, hE, ⟨hV, hE, ⟨hV, hE, ⟨hV, hE, ⟨hV, hE, ⟨hV, hE, ⟨hV, hE, ⟨hV, hE, ⟨hV, hE, ⟨hV, hE, ⟨hV, hE, ⟨hV, hE, ⟨hV, hE, ⟨hV, hE, ⟨hV, hE, ⟨hV, hE, ⟨hV, hE, ⟨hV, hE, ⟨hV, hE, ⟨hV, hE, ⟨hV, hE, ⟨hV, hE, ⟨hV, hE, ⟨hV, hE, ⟨hV, hE, ⟨hV, hE, ⟨hV, hE, ⟨hV, hE, ⟨hV, hE, trivial⟩⟩⟩⟩⟩⟩⟩⟩⟩⟩⟩⟩⟩⟩⟩⟩⟩⟩⟩⟩⟩⟩⟩⟩⟩⟩⟩⟩⟩⟩⟩⟩⟩⟩⟩⟩⟩⟩⟩⟩⟩⟩⟩⟩⟩⟩⟩⟩⟩
   ·exact trivial
   ·refine ⟨?_, ⟨?_, ⟨?_, ⟨?_, ⟨?_, ⟨?_, ⟨?_, ⟨?_, ⟨?_, ⟨?_, ⟨?_, ⟨?_, ⟨?_, ⟨?_, ⟨?_, ⟨?_, ⟨?_, ⟨?_, ⟨?_, ⟨?_, ⟨?_, ⟨?_, ⟨?_, ⟨?_, ⟨?_, ⟨?_, ⟨?_, ⟨?_, ⟨?_, ⟨?_, ⟨?_, ⟨?_, ⟨?_, ⟨?_, ⟨?_, ⟨?_, ⟨?_, ⟨?_, ⟨?_, ⟨?_, ⟨?_, ⟨?_, ⟨?_, ⟨?_, ⟨?_, ⟨?_, ⟨?_, ⟨?_, ⟨?_, trivial⟩⟩⟩⟩⟩⟩⟩⟩⟩⟩⟩⟩⟩⟩⟩⟩⟩⟩⟩⟩⟩⟩⟩⟩⟩⟩⟩⟩⟩⟩⟩⟩⟩⟩⟩⟩⟩⟩⟩⟩⟩⟩⟩⟩⟩⟩⟩⟩⟩
    ·intro _ b oK _
     rintro _ _ _ _ _ _ _ _ _ _ _ _ _ _ _ _ _ _ _ _ _ _ _ _ _ _ _ _ _ _ _ _ _ _ _ _ _ _ _ _ _ _ _ _ _ _ _ _ _
     show WL _ _ _ _ _ _ _
     refine mw (vi k) ?_
     exact f1
    ·intro _ b oL _
     rintro _ _ _ _ _ _ _ _ _ _ _ _ _ _ _ _ _ _ _ _ _ _ _ _ _ _ _ _ _ _ _ _ _ _ _ _ _ _ _ _ _ _ _ _ _ _ _ _ _
     show WL _ _ _ _ _ _ _
     refine mw (vs aC (i_Pick ((d).1) ((d).2)).length aD) ?_
     exact f1
    ·intro _ b eE _
     rintro _ _ rfl _ _ _ _ _ _ _ _ _ _ _ _ _ _ _ _ _ _ _ _ _ _ _ _ _ _ _ _ _ _ _ _ _ _ _ _ _ _ _ _ _ _ _ _ _ _ _
     show WL _ _ _ _ _ _ _
     have eF := (OLv.kp (OLv.kp (OLv.kp (OLv.kp (OLv.kp (OLv.ch (OLv.ch (OLv.kp (OLv.kp (OLv.ch (OLv.ch (OLv.kp (OLv.kp (OLv.kp bi ab) t) r) m (fun g M N hk => by have O := nT ab.size a1; omega)) l (fun g M N hk => by have O := nT (z2 ab t) P; omega)) e) q) p (fun g M N hk => by have O := nT (z6 ab t r m l e) I; omega)) y (fun g M N hk => by have O : Z.heap.size ≤ K.heap.size := (z8 ab t r m l e q p); have bo : K.heap.size ≤ g := hk; omega)) B) C) D) F) eE)
     obtain ⟨oM, eG⟩ := RLv.row (OLv.rl eF)
     refine ln wN slTy_24 eG ?_
     exact f1
    ·intro _ b oN _
     rintro _ rfl _ rfl _ rfl _ _ _ _ _ _ _ _ _ _ _ _ _ _ _ _ _ _ _ _ _ _ _ _ _ _ _ _ _ _ _ _ _ _ _ _ _ _ _ _ _ _ _ _ _ _
     show WL _ _ _ _ _ _ _
     refine pu (vb (decide (k = ((i_Pick ((d).1) ((d).2)).length : Int)))) wN ?_
     exact f1
    ·intro _ b oO _
     rintro _ rfl _ rfl _ rfl _ rfl _ _ _ _ _ _ _ _ _ _ _ _ _ _ _ _ _ _ _ _ _ _ _ _ _ _ _ _ _ _ _ _ _ _ _ _ _ _ _ _ _ _ _ _ _
     show WL _ _ _ _ _ _ _
     refine mw (vb (decide (k = ((i_Pick ((d).1) ((d).2)).length : Int)))) ?_
     exact f1
    ·intro _ b eH _
     rintro _ rfl _ rfl _ rfl _ rfl _ rfl _ _ _ _ _ _ _ _ _ _ _ _ _ _ _ _ _ _ _ _ _ _ _ _ _ _ _ _ _ _ _ _ _ _ _ _ _ _ _ _ _ _ _ _
     show WL _ _ _ _ _ _ _
     have eI := ((((((((((a7.ch l (nN (nL H (P)))).kp e).kp q).ch p (nN (nL H (nT (z4 r m l e) I)))).ch y (Nat.not_le.2 (nL H (z6 r m l e q p)))).kp B).kp C).kp D).kp F).kp eH)
     refine lN (L_31 ((a).1) Q R S T V W X Y) (wS a0) isAgg_31 sizeOf_31 eI ?_
     exact f1
    ·intro _ b eJ _
     rintro _ rfl _ rfl _ rfl _ rfl _ rfl _ _ _ _ _ _ _ _ _ _ _ _ _ _ _ _ _ _ _ _ _ _ _ _ _ _ _ _ _ _ _ _ _ _ _ _ _ _ _ _ _ _ _ _
     show WL _ _ _ _ _ _ _
     have eK := ((((((((((a7.ch l (nN (nL H (P)))).kp e).kp q).ch p (nN (nL H (nT (z4 r m l e) I)))).ch y (Nat.not_le.2 (nL H (z6 r m l e q p)))).kp B).kp C).kp D).kp F).kp eJ)
     refine lN (L_31 ((a).1) Q R S T V W X Y) (wS a0) isAgg_31 sizeOf_31 eK ?_
     exact f1
    ·intro _ b eL _
     rintro _ rfl _ rfl _ rfl _ rfl _ rfl _ rfl _ rfl _ _ _ _ _ _ _ _ _ _ _ _ _ _ _ _ _ _ _ _ _ _ _ _ _ _ _ _ _ _ _ _ _ _ _ _ _ _ _ _ _ _
     show WL _ _ _ _ _ _ _
     have cb := fun (E sz n : Nat) (v : Value) (G : List Value) (o : World.ownsRow L Z.heap.size E sz v n G) (s : World.ownsRow L Z.heap.size E sz v n G) => (own_kp (own_kp (own_kp (own_kp (own_kp (own_ch (own_ch (own_kp (own_kp (own_ch (own_ch (own_kp (own_kp o t) r) m (ne2 s (a1))) l (ne2 s (nT t.size P))) e) q) p (ne2 s (nT (z5 t r m l e) I))) y (fun g hg hlt hk => by have M := (own_lt s g hg).2; have N : L.heap.size ≤ K.heap.size := (z7 t r m l e q p); have O : K.heap.size ≤ g := hk; omega)) B) C) D) F) eL)
     have cQ := (cb _ _ _ _ _ ac ac)
     have cR := (cb _ _ _ _ _ ad ad)
     have cS := (cb _ _ _ _ _ ae ae)
     have cT := (cb _ _ _ _ _ af af)
     refine cl (wS a0) (ciSameNote b _ ((a).1) (mR_31 (Rd.of_own cQ) a3 (Rd.of_own cR) a4 (Rd.of_own cS) a5 (Rd.of_own cT) a6) _ ((a).1) (mR_31 (Rd.of_own cQ) a3 (Rd.of_own cR) a4 (Rd.of_own cS) a5 (Rd.of_own cT) a6)) ?_
     rintro _ a2 ⟨eM, rfl⟩
     exact wl_finT eM rfl
    ·intro _ b oP _
     rintro _ rfl _ rfl _ rfl _ rfl _ rfl _ rfl _ rfl _ rfl _ _ _ _ _ _ _ _ _ _ _ _ _ _ _ _ _ _ _ _ _ _ _ _ _ _ _ _ _ _ _ _ _ _ _ _ _ _ _ _ _
     show WL _ _ _ _ _ _ _
     refine pk (vb (i_SameNote ((a).1) ((a).1))) wN a0 ?_
     exact f1
    ·intro _ b oQ _
     rintro _ rfl _ rfl _ rfl _ rfl _ rfl _ rfl _ rfl _ rfl _ rfl _ _ _ _ _ _ _ _ _ _ _ _ _ _ _ _ _ _ _ _ _ _ _ _ _ _ _ _ _ _ _ _ _ _ _ _ _ _ _ _
     show WL _ _ _ _ _ _ _
     refine mw (vb (i_SameNote ((a).1) ((a).1))) ?_
     exact f1
    ·intro _ b oR _
     rintro _ rfl _ rfl _ rfl _ rfl _ rfl _ rfl _ rfl _ rfl _ rfl _ rfl _ _ _ _ _ _ _ _ _ _ _ _ _ _ _ _ _ _ _ _ _ _ _ _ _ _ _ _ _ _ _ _ _ _ _ _ _ _ _
     show WL _ _ _ _ _ _ _
     refine sk aa ?_
     exact f1
    ·intro _ b oS _
     rintro _ rfl _ rfl _ rfl _ rfl _ rfl _ rfl _ rfl _ rfl _ rfl _ rfl _ _ _ _ _ _ _ _ _ _ _ _ _ _ _ _ _ _ _ _ _ _ _ _ _ _ _ _ _ _ _ _ _ _ _ _ _ _ _
     show WL _ _ _ _ _ _ _
     refine sk aa ?_
     exact f1
    ·intro _ b oT _
     rintro _ rfl _ rfl _ rfl _ rfl _ rfl _ rfl _ rfl _ rfl _ rfl _ rfl _ rfl _ rfl _ _ _ _ _ _ _ _ _ _ _ _ _ _ _ _ _ _ _ _ _ _ _ _ _ _ _ _ _ _ _ _ _ _ _ _ _
     show WL _ _ _ _ _ _ _
     refine sk aa ?_
     exact f1
    ·intro _ b oU _
     rintro _ rfl _ rfl _ rfl _ rfl _ rfl _ rfl _ rfl _ rfl _ rfl _ rfl _ _ _ _ _ _ _ _ _ _ _ _ _ _ _ _ _ _ _ _ _ _ _ _ _ _ _ _ _ _ _ _ _ _ _ _ _ _ _
     show WL _ _ _ _ _ _ _
     refine sk aa ?_
     exact f1
    ·intro _ b oV _
     rintro _ rfl _ rfl _ rfl _ rfl _ rfl _ rfl _ rfl _ rfl _ rfl _ rfl _ _ _ _ _ _ _ _ _ _ _ _ _ _ _ _ _ _ _ _ _ _ _ _ _ _ _ _ _ _ _ _ _ _ _ _ _ _ _
     show WL _ _ _ _ _ _ _
     refine sk aa ?_
     exact f1
    ·intro _ b oW _
     rintro _ rfl _ rfl _ rfl _ rfl _ rfl _ rfl _ rfl _ rfl _ rfl _ rfl _ rfl _ rfl _ rfl _ rfl _ rfl _ _ _ _ _ _ _ _ _ _ _ _ _ _ _ _ _ _ _ _ _ _ _ _ _ _ _ _ _ _ _ _ _ _
     show WL _ _ _ _ _ _ _
     refine sk aa ?_
     exact f1
    ·intro _ b oX _
     rintro _ rfl _ rfl _ rfl _ rfl _ rfl _ rfl _ rfl _ rfl _ rfl _ rfl _ rfl _ rfl _ rfl _ rfl _ rfl _ rfl _ _ _ _ _ _ _ _ _ _ _ _ _ _ _ _ _ _ _ _ _ _ _ _ _ _ _ _ _ _ _ _ _
     show WL _ _ _ _ _ _ _
     refine sk aa ?_
     exact f1
    ·intro _ b oY _
     rintro _ rfl _ rfl _ rfl _ rfl _ rfl _ rfl _ rfl _ rfl _ rfl _ rfl _ rfl _ rfl _ rfl _ rfl _ rfl _ rfl _ rfl _ _ _ _ _ _ _ _ _ _ _ _ _ _ _ _ _ _ _ _ _ _ _ _ _ _ _ _ _ _ _ _
     show WL _ _ _ _ _ _ _
     refine pf (vb false) wN aa ?_
     exact f1
    ·intro _ b oZ _
     rintro _ rfl _ rfl _ rfl _ rfl _ rfl _ rfl _ rfl _ rfl _ rfl _ rfl _ rfl _ rfl _ rfl _ rfl _ rfl _ rfl _ rfl _ rfl _ _ _ _ _ _ _ _ _ _ _ _ _ _ _ _ _ _ _ _ _ _ _ _ _ _ _ _ _ _ _
     show WL _ _ _ _ _ _ _
     refine mw (vb false) ?_
     exact f1
    ·intro _ b pa _
     rintro _ rfl _ rfl _ rfl _ rfl _ rfl _ rfl _ rfl _ rfl _ rfl _ rfl _ rfl _ rfl _ rfl _ rfl _ rfl _ rfl _ rfl _ rfl _ rfl _ _ _ _ _ _ _ _ _ _ _ _ _ _ _ _ _ _ _ _ _ _ _ _ _ _ _ _ _ _
     show WL _ _ _ _ _ _ _
     refine sk F1 ?_
     exact f1
    ·intro _ b pb _
     rintro _ rfl _ rfl _ rfl _ rfl _ rfl _ rfl _ rfl _ rfl _ rfl _ rfl _ rfl _ rfl _ rfl _ rfl _ rfl _ rfl _ rfl _ rfl _ rfl _ _ _ _ _ _ _ _ _ _ _ _ _ _ _ _ _ _ _ _ _ _ _ _ _ _ _ _ _ _
     show WL _ _ _ _ _ _ _
     refine sk F1 ?_
     exact f1
    ·intro _ b pc _
     rintro _ rfl _ rfl _ rfl _ rfl _ rfl _ rfl _ rfl _ rfl _ rfl _ rfl _ rfl _ rfl _ rfl _ rfl _ rfl _ rfl _ rfl _ rfl _ rfl _ rfl _ rfl _ _ _ _ _ _ _ _ _ _ _ _ _ _ _ _ _ _ _ _ _ _ _ _ _ _ _ _
     show WL _ _ _ _ _ _ _
     refine sk F1 ?_
     exact f1
    ·intro _ b pd _
     rintro _ rfl _ rfl _ rfl _ rfl _ rfl _ rfl _ rfl _ rfl _ rfl _ rfl _ rfl _ rfl _ rfl _ rfl _ rfl _ rfl _ rfl _ rfl _ rfl _ _ _ _ _ _ _ _ _ _ _ _ _ _ _ _ _ _ _ _ _ _ _ _ _ _ _ _ _ _
     show WL _ _ _ _ _ _ _
     refine sk F1 ?_
     exact f1
    ·intro _ b pe _
     rintro _ rfl _ rfl _ rfl _ rfl _ rfl _ rfl _ rfl _ rfl _ rfl _ rfl _ rfl _ rfl _ rfl _ rfl _ rfl _ rfl _ rfl _ rfl _ rfl _ _ _ _ _ _ _ _ _ _ _ _ _ _ _ _ _ _ _ _ _ _ _ _ _ _ _ _ _ _
     show WL _ _ _ _ _ _ _
     refine sk F1 ?_
     exact f1
    ·intro _ b pg _
     rintro _ rfl _ rfl _ rfl _ rfl _ rfl _ rfl _ rfl _ rfl _ rfl _ rfl _ rfl _ rfl _ rfl _ rfl _ rfl _ rfl _ rfl _ rfl _ rfl _ rfl _ rfl _ rfl _ rfl _ rfl _ _ _ _ _ _ _ _ _ _ _ _ _ _ _ _ _ _ _ _ _ _ _ _ _
     show WL _ _ _ _ _ _ _
     refine sk F1 ?_
     exact f1
    ·intro _ b ph _
     rintro _ rfl _ rfl _ rfl _ rfl _ rfl _ rfl _ rfl _ rfl _ rfl _ rfl _ rfl _ rfl _ rfl _ rfl _ rfl _ rfl _ rfl _ rfl _ rfl _ rfl _ rfl _ rfl _ rfl _ rfl _ rfl _ _ _ _ _ _ _ _ _ _ _ _ _ _ _ _ _ _ _ _ _ _ _ _
     show WL _ _ _ _ _ _ _
     refine sk F1 ?_
     exact f1
    ·intro _ b pi _
     rintro _ rfl _ rfl _ rfl _ rfl _ rfl _ rfl _ rfl _ rfl _ rfl _ rfl _ rfl _ rfl _ rfl _ rfl _ rfl _ rfl _ rfl _ rfl _ rfl _ rfl _ rfl _ rfl _ rfl _ rfl _ rfl _ rfl _ _ _ _ _ _ _ _ _ _ _ _ _ _ _ _ _ _ _ _ _ _ _
     show WL _ _ _ _ _ _ _
     refine pf (vb false) wN (Eq.refl false) ?_
     exact f1
    ·intro _ b pj _
     rintro _ rfl _ rfl _ rfl _ rfl _ rfl _ rfl _ rfl _ rfl _ rfl _ rfl _ rfl _ rfl _ rfl _ rfl _ rfl _ rfl _ rfl _ rfl _ rfl _ rfl _ rfl _ rfl _ rfl _ rfl _ rfl _ rfl _ rfl _ _ _ _ _ _ _ _ _ _ _ _ _ _ _ _ _ _ _ _ _ _
     show WL _ _ _ _ _ _ _
     refine mw (vb false) ?_
     exact f1
    ·intro _ b pl _
     rintro _ rfl _ rfl _ rfl _ rfl _ rfl _ rfl _ rfl _ rfl _ rfl _ rfl _ rfl _ rfl _ rfl _ rfl _ rfl _ rfl _ rfl _ rfl _ rfl _ rfl _ rfl _ rfl _ rfl _ rfl _ rfl _ rfl _ rfl _ rfl _ _ _ _ _ _ _ _ _ _ _ _ _ _ _ _ _ _ _ _ _
     show WL _ _ _ _ _ _ _
     refine sk F1 ?_
     exact f1
    ·intro _ b pm _
     rintro _ rfl _ rfl _ rfl _ rfl _ rfl _ rfl _ rfl _ rfl _ rfl _ rfl _ rfl _ rfl _ rfl _ rfl _ rfl _ rfl _ rfl _ rfl _ rfl _ rfl _ rfl _ rfl _ rfl _ rfl _ rfl _ rfl _ rfl _ rfl _ rfl _ _ _ _ _ _ _ _ _ _ _ _ _ _ _ _ _ _ _ _
     show WL _ _ _ _ _ _ _
     refine sk F1 ?_
     exact f1
    ·intro _ b pn _
     rintro _ rfl _ rfl _ rfl _ rfl _ rfl _ rfl _ rfl _ rfl _ rfl _ rfl _ rfl _ rfl _ rfl _ rfl _ rfl _ rfl _ rfl _ rfl _ rfl _ rfl _ rfl _ rfl _ rfl _ rfl _ rfl _ rfl _ rfl _ rfl _ _ _ _ _ _ _ _ _ _ _ _ _ _ _ _ _ _ _ _ _
     show WL _ _ _ _ _ _ _
     refine sk F1 ?_
     exact f1
    ·intro _ b po _
     rintro _ rfl _ rfl _ rfl _ rfl _ rfl _ rfl _ rfl _ rfl _ rfl _ rfl _ rfl _ rfl _ rfl _ rfl _ rfl _ rfl _ rfl _ rfl _ rfl _ rfl _ rfl _ rfl _ rfl _ rfl _ rfl _ rfl _ rfl _ rfl _ rfl _ rfl _ rfl _ _ _ _ _ _ _ _ _ _ _ _ _ _ _ _ _ _
     show WL _ _ _ _ _ _ _
     refine sk F1 ?_
     exact f1
    ·intro _ b pp _
     rintro _ rfl _ rfl _ rfl _ rfl _ rfl _ rfl _ rfl _ rfl _ rfl _ rfl _ rfl _ rfl _ rfl _ rfl _ rfl _ rfl _ rfl _ rfl _ rfl _ rfl _ rfl _ rfl _ rfl _ rfl _ rfl _ rfl _ rfl _ rfl _ rfl _ rfl _ rfl _ rfl _ _ _ _ _ _ _ _ _ _ _ _ _ _ _ _ _
     show WL _ _ _ _ _ _ _
     refine sk F1 ?_
     exact f1
    ·intro _ b pq _
     rintro _ rfl _ rfl _ rfl _ rfl _ rfl _ rfl _ rfl _ rfl _ rfl _ rfl _ rfl _ rfl _ rfl _ rfl _ rfl _ rfl _ rfl _ rfl _ rfl _ rfl _ rfl _ rfl _ rfl _ rfl _ rfl _ rfl _ rfl _ rfl _ rfl _ rfl _ rfl _ rfl _ rfl _ _ _ _ _ _ _ _ _ _ _ _ _ _ _ _
     show WL _ _ _ _ _ _ _
     refine pf (vb false) wN (Eq.refl false) ?_
     exact f1
    ·intro _ b pr _
     rintro _ rfl _ rfl _ rfl _ rfl _ rfl _ rfl _ rfl _ rfl _ rfl _ rfl _ rfl _ rfl _ rfl _ rfl _ rfl _ rfl _ rfl _ rfl _ rfl _ rfl _ rfl _ rfl _ rfl _ rfl _ rfl _ rfl _ rfl _ rfl _ rfl _ rfl _ rfl _ rfl _ rfl _ rfl _ _ _ _ _ _ _ _ _ _ _ _ _ _ _
     show WL _ _ _ _ _ _ _
     refine mw (vb false) ?_
     exact f1
    ·intro _ b ps _
     rintro _ rfl _ rfl _ rfl _ rfl _ rfl _ rfl _ rfl _ rfl _ rfl _ rfl _ rfl _ rfl _ rfl _ rfl _ rfl _ rfl _ rfl _ rfl _ rfl _ rfl _ rfl _ rfl _ rfl _ rfl _ rfl _ rfl _ rfl _ rfl _ rfl _ rfl _ rfl _ rfl _ rfl _ rfl _ rfl _ _ _ _ _ _ _ _ _ _ _ _ _ _
     show WL _ _ _ _ _ _ _
     refine sk F1 ?_
     exact f1
    ·intro _ b pv _
     rintro _ rfl _ rfl _ rfl _ rfl _ rfl _ rfl _ rfl _ rfl _ rfl _ rfl _ rfl _ rfl _ rfl _ rfl _ rfl _ rfl _ rfl _ rfl _ rfl _ rfl _ rfl _ rfl _ rfl _ rfl _ rfl _ rfl _ rfl _ rfl _ rfl _ rfl _ rfl _ rfl _ rfl _ rfl _ rfl _ rfl _ _ _ _ _ _ _ _ _ _ _ _ _
     show WL _ _ _ _ _ _ _
     refine sk F1 ?_
     exact f1
    ·intro _ b pw _
     rintro _ rfl _ rfl _ rfl _ rfl _ rfl _ rfl _ rfl _ rfl _ rfl _ rfl _ rfl _ rfl _ rfl _ rfl _ rfl _ rfl _ rfl _ rfl _ rfl _ rfl _ rfl _ rfl _ rfl _ rfl _ rfl _ rfl _ rfl _ rfl _ rfl _ rfl _ rfl _ rfl _ rfl _ rfl _ rfl _ rfl _ rfl _ _ _ _ _ _ _ _ _ _ _ _
     show WL _ _ _ _ _ _ _
     refine sk F1 ?_
     exact f1
    ·intro _ b px _
     rintro _ rfl _ rfl _ rfl _ rfl _ rfl _ rfl _ rfl _ rfl _ rfl _ rfl _ rfl _ rfl _ rfl _ rfl _ rfl _ rfl _ rfl _ rfl _ rfl _ rfl _ rfl _ rfl _ rfl _ rfl _ rfl _ rfl _ rfl _ rfl _ rfl _ rfl _ rfl _ rfl _ rfl _ rfl _ rfl _ rfl _ rfl _ rfl _ _ _ _ _ _ _ _ _ _ _
     show WL _ _ _ _ _ _ _
     refine su ?_
     exact f1
    ·intro _ b py _
     rintro _ rfl _ rfl _ rfl _ rfl _ rfl _ rfl _ rfl _ rfl _ rfl _ rfl _ rfl _ rfl _ rfl _ rfl _ rfl _ rfl _ rfl _ rfl _ rfl _ rfl _ rfl _ rfl _ rfl _ rfl _ rfl _ rfl _ rfl _ rfl _ rfl _ rfl _ rfl _ rfl _ rfl _ rfl _ rfl _ rfl _ rfl _ rfl _ _ _ _ _ _ _ _ _ _ _
     show WL _ _ _ _ _ _ _
     refine su ?_
     exact f1
    ·intro _ b pz _
     rintro _ rfl _ rfl _ rfl _ rfl _ rfl _ rfl _ rfl _ rfl _ rfl _ rfl _ rfl _ rfl _ rfl _ rfl _ rfl _ rfl _ rfl _ rfl _ rfl _ rfl _ rfl _ rfl _ rfl _ rfl _ rfl _ rfl _ rfl _ rfl _ rfl _ rfl _ rfl _ rfl _ rfl _ rfl _ rfl _ rfl _ rfl _ rfl _ rfl _ rfl _ _ _ _ _ _ _ _ _
     show WL _ _ _ _ _ _ _
     refine su ?_
     exact f1
    ·intro _ b p0 _
     rintro _ rfl _ rfl _ rfl _ rfl _ rfl _ rfl _ rfl _ rfl _ rfl _ rfl _ rfl _ rfl _ rfl _ rfl _ rfl _ rfl _ rfl _ rfl _ rfl _ rfl _ rfl _ rfl _ rfl _ rfl _ rfl _ rfl _ rfl _ rfl _ rfl _ rfl _ rfl _ rfl _ rfl _ rfl _ rfl _ rfl _ rfl _ rfl _ rfl _ rfl _ rfl _ _ _ _ _ _ _ _
     show WL _ _ _ _ _ _ _
     refine sk F1 ?_
     exact f1
    ·intro _ b p1 _
     rintro _ rfl _ rfl _ rfl _ rfl _ rfl _ rfl _ rfl _ rfl _ rfl _ rfl _ rfl _ rfl _ rfl _ rfl _ rfl _ rfl _ rfl _ rfl _ rfl _ rfl _ rfl _ rfl _ rfl _ rfl _ rfl _ rfl _ rfl _ rfl _ rfl _ rfl _ rfl _ rfl _ rfl _ rfl _ rfl _ rfl _ rfl _ rfl _ rfl _ rfl _ rfl _ rfl _ _ _ _ _ _ _
     show WL _ _ _ _ _ _ _
     refine sk F1 ?_
     exact f1
    ·intro _ b p2 _
     rintro _ rfl _ rfl _ rfl _ rfl _ rfl _ rfl _ rfl _ rfl _ rfl _ rfl _ rfl _ rfl _ rfl _ rfl _ rfl _ rfl _ rfl _ rfl _ rfl _ rfl _ rfl _ rfl _ rfl _ rfl _ rfl _ rfl _ rfl _ rfl _ rfl _ rfl _ rfl _ rfl _ rfl _ rfl _ rfl _ rfl _ rfl _ rfl _ rfl _ rfl _ rfl _ rfl _ rfl _ _ _ _ _ _
     show WL _ _ _ _ _ _ _
     refine su ?_
     exact f1
    ·intro _ b p3 _
     rintro _ rfl _ rfl _ rfl _ rfl _ rfl _ rfl _ rfl _ rfl _ rfl _ rfl _ rfl _ rfl _ rfl _ rfl _ rfl _ rfl _ rfl _ rfl _ rfl _ rfl _ rfl _ rfl _ rfl _ rfl _ rfl _ rfl _ rfl _ rfl _ rfl _ rfl _ rfl _ rfl _ rfl _ rfl _ rfl _ rfl _ rfl _ rfl _ rfl _ rfl _ rfl _ rfl _ rfl _ rfl _ _ _ _ _
     show WL _ _ _ _ _ _ _
     refine su ?_
     exact f1
    ·intro _ b p4 _
     rintro _ rfl _ rfl _ rfl _ rfl _ rfl _ rfl _ rfl _ rfl _ rfl _ rfl _ rfl _ rfl _ rfl _ rfl _ rfl _ rfl _ rfl _ rfl _ rfl _ rfl _ rfl _ rfl _ rfl _ rfl _ rfl _ rfl _ rfl _ rfl _ rfl _ rfl _ rfl _ rfl _ rfl _ rfl _ rfl _ rfl _ rfl _ rfl _ rfl _ rfl _ rfl _ rfl _ rfl _ rfl _ rfl _ _ _ _
     show WL _ _ _ _ _ _ _
     refine su ?_
     exact f1
    ·intro _ b p5 _
     rintro _ rfl _ rfl _ rfl _ rfl _ rfl _ rfl _ rfl _ rfl _ rfl _ rfl _ rfl _ rfl _ rfl _ rfl _ rfl _ rfl _ rfl _ rfl _ rfl _ rfl _ rfl _ rfl _ rfl _ rfl _ rfl _ rfl _ rfl _ rfl _ rfl _ rfl _ rfl _ rfl _ rfl _ rfl _ rfl _ rfl _ rfl _ rfl _ rfl _ rfl _ rfl _ rfl _ rfl _ _ _ _ _ _
     show WL _ _ _ _ _ _ _
     refine su ?_
     exact f1
    ·intro _ b p6 _
     rintro _ rfl _ rfl _ rfl _ rfl _ rfl _ rfl _ rfl _ rfl _ rfl _ rfl _ rfl _ rfl _ rfl _ rfl _ rfl _ rfl _ rfl _ rfl _ rfl _ rfl _ rfl _ rfl _ rfl _ rfl _ rfl _ rfl _ rfl _ rfl _ rfl _ rfl _ rfl _ rfl _ rfl _ rfl _ rfl _ rfl _ rfl _ rfl _ rfl _ rfl _ rfl _ rfl _ rfl _ rfl _ rfl _ _ rfl _ _
     show WL _ _ _ _ _ _ _
     refine su ?_
     exact f1
    ·intro _ b p7 _
     rintro _ rfl _ rfl _ rfl _ rfl _ rfl _ rfl _ rfl _ rfl _ rfl _ rfl _ rfl _ rfl _ rfl _ rfl _ rfl _ rfl _ rfl _ rfl _ rfl _ rfl _ rfl _ rfl _ rfl _ rfl _ rfl _ rfl _ rfl _ rfl _ rfl _ rfl _ rfl _ rfl _ rfl _ rfl _ rfl _ rfl _ rfl _ rfl _ rfl _ rfl _ rfl _ rfl _ rfl _ rfl _ rfl _ _ rfl _ rfl _
     show WL _ _ _ _ _ _ _
     refine su ?_
     exact f1
   ·intro _ b eN
    have eO := bq.extk eN
    rintro _ rfl _ rfl _ rfl _ rfl _ rfl _ rfl _ rfl _ rfl _ rfl _ rfl _ rfl _ rfl _ rfl _ rfl _ rfl _ rfl _ rfl _ rfl _ rfl _ rfl _ rfl _ rfl _ rfl _ rfl _ rfl _ rfl _ rfl _ rfl _ rfl _ rfl _ rfl _ rfl _ rfl _ rfl _ rfl _ rfl _ rfl _ rfl _ rfl _ rfl _ rfl _ rfl _ rfl _ rfl _ rfl _ rfl _ rfl _ rfl _ rfl
    show WL _ _ _ _ _ _ _
    refine su ?_
    refine sk F1 ?_
    refine pf (vb false) wN (Eq.refl false) ?_
    refine aw (vb false) ?_
    refine n3 ?_
    refine rt (vb false) ?_
    have eP : ntLaw x d a J = false := by obtain rfl : i = d.1.length := (by omega); subst bh; have hz := allN_t (f := ntG d) (n := d.1.length) (k := d.1.length) bj (by omega); simp only [ntLaw, ntT, ntS, hz, aL, aM, a0, aa, cond_true, cond_false]; try rfl
    exact ⟨d, a, J, eO.keep0, bl, bm, bn, by rw [eP]⟩
  rcases bf ((i_SameNote ((a).1) ((a).2)) == (s_SameNote ((a).1) ((a).2))) with ah | ah
  ·refine wc_drawT ([(69, [], [], (fun _ v _ => v = (vi k))), (70, [], [], (fun _ v _ => v = (vs aC (i_Pick ((d).1) ((d).2)).length aD))), (71, [], [1], (fun _ v _ => v = (vi ((i_Pick ((d).1) ((d).2)).length : Int)))), (72, [], [0, 1, 2], (fun _ v _ => v = (vb (decide (k = ((i_Pick ((d).1) ((d).2)).length : Int)))))), (73, [], [0, 1, 2, 3], (fun _ v _ => v = (vb (decide (k = ((i_Pick ((d).1) ((d).2)).length : Int)))))), (74, [], [0, 1, 2, 3, 4], (fun _ v _ => v = (va (L_31 ((a).1) Q R S T V W X Y)))), (75, [], [0, 1, 2, 3, 4], (fun _ v _ => v = (va (L_31 ((a).1) Q R S T V W X Y)))), (76, [], [0, 1, 2, 3, 4, 5, 6], (fun _ v w => v = .bool (i_SameNote ((a).1) ((a).1)))), (77, [], [0, 1, 2, 3, 4, 5, 6, 7], (fun _ v _ => v = (vb (i_SameNote ((a).1) ((a).1))))), (78, [], [0, 1, 2, 3, 4, 5, 6, 7, 8], (fun _ v _ => v = (vb (i_SameNote ((a).1) ((a).1))))), (79, [], [0, 1, 2, 3, 4, 5, 6, 7, 8, 9], (fun _ v _ => v = (va (L_31 ((a).1) Q R S T V W X Y)))), (80, [], [0, 1, 2, 3, 4, 5, 6, 7, 8, 9], (fun _ v _ => v = (va (L_31 ((a).2) ai aj ak am an ao ap aq)))), (81, [], [0, 1, 2, 3, 4, 5, 6, 7, 8, 9, 10, 11], (fun _ v w => v = .bool (i_SameNote ((a).1) ((a).2)))), (82, [], [0, 1, 2, 3, 4, 5, 6, 7, 8, 9], (fun _ v _ => v = (va (L_31 ((a).1) Q R S T V W X Y)))), (83, [], [0, 1, 2, 3, 4, 5, 6, 7, 8, 9], (fun _ v _ => v = (va (L_31 ((a).2) ai aj ak am an ao ap aq)))), (84, [], [0, 1, 2, 3, 4, 5, 6, 7, 8, 9, 10, 11, 12, 13, 14], (fun _ v w => v = .bool (s_SameNote ((a).1) ((a).2)))), (85, [], [0, 1, 2, 3, 4, 5, 6, 7, 8, 9, 10, 11, 12, 13, 14, 15], (fun _ v _ => v = (vb ((i_SameNote ((a).1) ((a).2)) == (s_SameNote ((a).1) ((a).2)))))), (86, [], [0, 1, 2, 3, 4, 5, 6, 7, 8, 9, 10, 11, 12, 13, 14, 15, 16], (fun _ v _ => v = (vb ((i_SameNote ((a).1) ((a).2)) == (s_SameNote ((a).1) ((a).2)))))), (87, [], [0, 1, 2, 3, 4, 5, 6, 7, 8, 9, 10, 11, 12, 13, 14, 15, 16, 17], (fun _ v _ => v = (vb ((i_SameNote ((a).1) ((a).2)) == (s_SameNote ((a).1) ((a).2)))))), (88, [], [0, 1, 2, 3, 4, 5, 6, 7, 8, 9, 10, 11, 12, 13, 14, 15, 16, 17, 18], (fun _ v _ => v = U)), (89, [], [0, 1, 2, 3, 4, 5, 6, 7, 8, 9, 10, 11, 12, 13, 14, 15, 16, 17, 18], (fun _ v _ => v = U)), (90, [], [0, 1, 2, 3, 4, 5, 6, 7, 8, 9, 10, 11, 12, 13, 14, 15, 16, 17, 18, 19, 20], (fun _ v _ => v = U)), (91, [], [0, 1, 2, 3, 4, 5, 6, 7, 8, 9, 10, 11, 12, 13, 14, 15, 16, 17, 18], (fun _ v _ => v = U)), (92, [], [0, 1, 2, 3, 4, 5, 6, 7, 8, 9, 10, 11, 12, 13, 14, 15, 16, 17, 18], (fun _ v _ => v = U)), (93, [], [0, 1, 2, 3, 4, 5, 6, 7, 8, 9, 10, 11, 12, 13, 14, 15, 16, 17, 18, 19, 20, 21, 22, 23], (fun _ v _ => v = U)), (94, [], [0, 1, 2, 3, 4, 5, 6, 7, 8, 9, 10, 11, 12, 13, 14, 15, 16, 17, 18, 19, 20, 21, 22, 23, 24], (fun _ v _ => v = U)), (95, [], [0, 1, 2, 3, 4, 5, 6, 7, 8, 9, 10, 11, 12, 13, 14, 15, 16, 17, 18, 19, 20, 21, 22, 23, 24, 25], (fun _ v _ => v = (vb false))), (96, [], [0, 1, 2, 3, 4, 5, 6, 7, 8, 9, 10, 11, 12, 13, 14, 15, 16, 17, 18, 19, 20, 21, 22, 23, 24, 25, 26], (fun _ v _ => v = (vb false))), (97, [], [0, 1, 2, 3, 4, 5, 6, 7, 8, 9, 10, 11, 12, 13, 14, 15, 16, 17, 18, 19, 20, 21, 22, 23, 24, 25, 26, 27], (fun _ v _ => v = U)), (98, [], [0, 1, 2, 3, 4, 5, 6, 7, 8, 9, 10, 11, 12, 13, 14, 15, 16, 17, 18, 19, 20, 21, 22, 23, 24, 25, 26, 27, 28], (fun _ v _ => v = U)), (99, [], [0, 1, 2, 3, 4, 5, 6, 7, 8, 9, 10, 11, 12, 13, 14, 15, 16, 17, 18, 19, 20, 21, 22, 23, 24, 25, 26, 27], (fun _ v _ => v = U)), (100, [], [0, 1, 2, 3, 4, 5, 6, 7, 8, 9, 10, 11, 12, 13, 14, 15, 16, 17, 18, 19, 20, 21, 22, 23, 24, 25, 26, 27, 28, 29, 30], (fun _ v _ => v = U)), (101, [], [0, 1, 2, 3, 4, 5, 6, 7, 8, 9, 10, 11, 12, 13, 14, 15, 16, 17, 18, 19, 20, 21, 22, 23, 24, 25, 26, 27, 28, 29, 30, 31], (fun _ v _ => v = U)), (102, [], [0, 1, 2, 3, 4, 5, 6, 7, 8, 9, 10, 11, 12, 13, 14, 15, 16, 17, 18, 19, 20, 21, 22, 23, 24, 25, 26, 27, 28, 29, 30, 31, 32], (fun _ v _ => v = (vb false))), (103, [], [0, 1, 2, 3, 4, 5, 6, 7, 8, 9, 10, 11, 12, 13, 14, 15, 16, 17, 18, 19, 20, 21, 22, 23, 24, 25, 26, 27, 28, 29, 30, 31, 32, 33], (fun _ v _ => v = (vb false))), (104, [], [0, 1, 2, 3, 4, 5, 6, 7, 8, 9, 10, 11, 12, 13, 14, 15, 16, 17, 18, 19, 20, 21, 22, 23, 24, 25, 26, 27, 28, 29, 30, 31, 32, 33, 34], (fun _ v _ => v = U)), (105, [], [0, 1, 2, 3, 4, 5, 6, 7, 8, 9, 10, 11, 12, 13, 14, 15, 16, 17, 18, 19, 20, 21, 22, 23, 24, 25, 26, 27, 28, 29, 30, 31, 32, 33, 34, 35], (fun _ v _ => v = U)), (106, [], [0, 1, 2, 3, 4, 5, 6, 7, 8, 9, 10, 11, 12, 13, 14, 15, 16, 17, 18, 19, 20, 21, 22, 23, 24, 25, 26, 27, 28, 29, 30, 31, 32, 33, 34, 35, 36], (fun _ v _ => v = U)), (107, [], [0, 1, 2, 3, 4, 5, 6, 7, 8, 9, 10, 11, 12, 13, 14, 15, 16, 17, 18, 19, 20, 21, 22, 23, 24, 25, 26, 27, 28, 29, 30, 31, 32, 33, 34, 35, 36, 37], (fun _ v _ => v = U)), (108, [], [0, 1, 2, 3, 4, 5, 6, 7, 8, 9, 10, 11, 12, 13, 14, 15, 16, 17, 18, 19, 20, 21, 22, 23, 24, 25, 26, 27, 28, 29, 30, 31, 32, 33, 34, 35, 36, 37], (fun _ v _ => v = U)), (109, [], [0, 1, 2, 3, 4, 5, 6, 7, 8, 9, 10, 11, 12, 13, 14, 15, 16, 17, 18, 19, 20, 21, 22, 23, 24, 25, 26, 27, 28, 29, 30, 31, 32, 33, 34, 35, 36, 37, 38, 39], (fun _ v _ => v = U)), (110, [], [0, 1, 2, 3, 4, 5, 6, 7, 8, 9, 10, 11, 12, 13, 14, 15, 16, 17, 18, 19, 20, 21, 22, 23, 24, 25, 26, 27, 28, 29, 30, 31, 32, 33, 34, 35, 36, 37, 38, 39, 40], (fun _ v _ => v = U)), (111, [], [0, 1, 2, 3, 4, 5, 6, 7, 8, 9, 10, 11, 12, 13, 14, 15, 16, 17, 18, 19, 20, 21, 22, 23, 24, 25, 26, 27, 28, 29, 30, 31, 32, 33, 34, 35, 36, 37, 38, 39, 40, 41], (fun _ v _ => v = U)), (112, [], [0, 1, 2, 3, 4, 5, 6, 7, 8, 9, 10, 11, 12, 13, 14, 15, 16, 17, 18, 19, 20, 21, 22, 23, 24, 25, 26, 27, 28, 29, 30, 31, 32, 33, 34, 35, 36, 37, 38, 39, 40, 41, 42], (fun _ v _ => v = U)), (113, [], [0, 1, 2, 3, 4, 5, 6, 7, 8, 9, 10, 11, 12, 13, 14, 15, 16, 17, 18, 19, 20, 21, 22, 23, 24, 25, 26, 27, 28, 29, 30, 31, 32, 33, 34, 35, 36, 37, 38, 39, 40, 41, 42, 43], (fun _ v _ => v = U)), (114, [], [0, 1, 2, 3, 4, 5, 6, 7, 8, 9, 10, 11, 12, 13, 14, 15, 16, 17, 18, 19, 20, 21, 22, 23, 24, 25, 26, 27, 28, 29, 30, 31, 32, 33, 34, 35, 36, 37, 38, 39, 40, 41, 42, 43, 44], (fun _ v _ => v = U)), (115, [], [0, 1, 2, 3, 4, 5, 6, 7, 8, 9, 10, 11, 12, 13, 14, 15, 16, 17, 18, 19, 20, 21, 22, 23, 24, 25, 26, 27, 28, 29, 30, 31, 32, 33, 34, 35, 36, 37, 38, 39, 40, 41, 42], (fun _ v _ => v = U)), (116, [], [0, 1, 2, 3, 4, 5, 6, 7, 8, 9, 10, 11, 12, 13, 14, 15, 16, 17, 18, 19, 20, 21, 22, 23, 24, 25, 26, 27, 28, 29, 30, 31, 32, 33, 34, 35, 36, 37, 38, 39, 40, 41, 42, 43, 44, 46], (fun _ v _ => v = U)), (117, [], [0, 1, 2, 3, 4, 5, 6, 7, 8, 9, 10, 11, 12, 13, 14, 15, 16, 17, 18, 19, 20, 21, 22, 23, 24, 25, 26, 27, 28, 29, 30, 31, 32, 33, 34, 35, 36, 37, 38, 39, 40, 41, 42, 43, 44, 46, 47], (fun _ v _ => v = U))] : GV) (fun _ aE => Keep b4 aE) [] mixed rfl (by kernel_rfl) (by kernel_rfl) ?_ (fun _ _ h => h) (fun _ _ _ _ h _ k => h.trans k) trivial ?_ ?_ ?_
   ·exact ⟨hV, hE, ⟨hV, hE, ⟨hV, hE, ⟨hV, hE, ⟨hV, hE, ⟨hV, hE, ⟨hV, hE, ⟨hV, hE, ⟨hV, hE, ⟨hV, hE, ⟨hV, hE, ⟨hV, hE, ⟨hV, hE, ⟨hV, hE, ⟨hV, hE, ⟨hV, hE, ⟨hV, hE, ⟨hV, hE, ⟨hV, hE, ⟨hV, hE, ⟨hV, hE, ⟨hV, hE, ⟨hV, hE, ⟨hV, hE, ⟨hV, hE, ⟨hV, hE, ⟨hV, hE, ⟨hV, hE, ⟨hV, hE, ⟨hV, hE, ⟨hV, hE, ⟨hV, hE, ⟨hV, hE, ⟨hV, hE, ⟨hV, hE, ⟨hV, hE, ⟨hV, hE, ⟨hV, hE, ⟨hV, hE, ⟨hV, hE, ⟨hV, hE, ⟨hV, hE, ⟨hV, hE, ⟨hV, hE, ⟨hV, hE, ⟨hV, hE, ⟨hV, hE, ⟨hV, hE, ⟨hV, hE, trivial⟩⟩⟩⟩⟩⟩⟩⟩⟩⟩⟩⟩⟩⟩⟩⟩⟩⟩⟩⟩⟩⟩⟩⟩⟩⟩⟩⟩⟩⟩⟩⟩⟩⟩⟩⟩⟩⟩⟩⟩⟩⟩⟩⟩⟩⟩⟩⟩⟩
   ·exact trivial
   ·refine ⟨?_, ⟨?_, ⟨?_, ⟨?_, ⟨?_, ⟨?_, ⟨?_, ⟨?_, ⟨?_, ⟨?_, ⟨?_, ⟨?_, ⟨?_, ⟨?_, ⟨?_, ⟨?_, ⟨?_, ⟨?_, ⟨?_, ⟨?_, ⟨?_, ⟨?_, ⟨?_, ⟨?_, ⟨?_, ⟨?_, ⟨?_, ⟨?_, ⟨?_, ⟨?_, ⟨?_, ⟨?_, ⟨?_, ⟨?_, ⟨?_, ⟨?_, ⟨?_, ⟨?_, ⟨?_, ⟨?_, ⟨?_, ⟨?_, ⟨?_, ⟨?_, ⟨?_, ⟨?_, ⟨?_, ⟨?_, ⟨?_, trivial⟩⟩⟩⟩⟩⟩⟩⟩⟩⟩⟩⟩⟩⟩⟩⟩⟩⟩⟩⟩⟩⟩⟩⟩⟩⟩⟩⟩⟩⟩⟩⟩⟩⟩⟩⟩⟩⟩⟩⟩⟩⟩⟩⟩⟩⟩⟩⟩⟩
    ·intro _ b p8 _
     rintro _ _ _ _ _ _ _ _ _ _ _ _ _ _ _ _ _ _ _ _ _ _ _ _ _ _ _ _ _ _ _ _ _ _ _ _ _ _ _ _ _ _ _ _ _ _ _ _ _
     show WL _ _ _ _ _ _ _
     refine mw (vi k) ?_
     exact f1
    ·intro _ b p9 _
     rintro _ _ _ _ _ _ _ _ _ _ _ _ _ _ _ _ _ _ _ _ _ _ _ _ _ _ _ _ _ _ _ _ _ _ _ _ _ _ _ _ _ _ _ _ _ _ _ _ _
     show WL _ _ _ _ _ _ _
     refine mw (vs aC (i_Pick ((d).1) ((d).2)).length aD) ?_
     exact f1
    ·intro _ b eQ _
     rintro _ _ rfl _ _ _ _ _ _ _ _ _ _ _ _ _ _ _ _ _ _ _ _ _ _ _ _ _ _ _ _ _ _ _ _ _ _ _ _ _ _ _ _ _ _ _ _ _ _ _
     show WL _ _ _ _ _ _ _
     have eR := (OLv.kp (OLv.kp (OLv.kp (OLv.kp (OLv.kp (OLv.ch (OLv.ch (OLv.kp (OLv.kp (OLv.ch (OLv.ch (OLv.kp (OLv.kp (OLv.kp bi ab) t) r) m (fun g M N hk => by have O := nT ab.size a1; omega)) l (fun g M N hk => by have O := nT (z2 ab t) P; omega)) e) q) p (fun g M N hk => by have O := nT (z6 ab t r m l e) I; omega)) y (fun g M N hk => by have O : Z.heap.size ≤ K.heap.size := (z8 ab t r m l e q p); have bo : K.heap.size ≤ g := hk; omega)) B) C) D) F) eQ)
     obtain ⟨pA, eS⟩ := RLv.row (OLv.rl eR)
     refine ln wN slTy_24 eS ?_
     exact f1
    ·intro _ b pB _
     rintro _ rfl _ rfl _ rfl _ _ _ _ _ _ _ _ _ _ _ _ _ _ _ _ _ _ _ _ _ _ _ _ _ _ _ _ _ _ _ _ _ _ _ _ _ _ _ _ _ _ _ _ _ _
     show WL _ _ _ _ _ _ _
     refine pu (vb (decide (k = ((i_Pick ((d).1) ((d).2)).length : Int)))) wN ?_
     exact f1
    ·intro _ b pC _
     rintro _ rfl _ rfl _ rfl _ rfl _ _ _ _ _ _ _ _ _ _ _ _ _ _ _ _ _ _ _ _ _ _ _ _ _ _ _ _ _ _ _ _ _ _ _ _ _ _ _ _ _ _ _ _ _
     show WL _ _ _ _ _ _ _
     refine mw (vb (decide (k = ((i_Pick ((d).1) ((d).2)).length : Int)))) ?_
     exact f1
    ·intro _ b eT _
     rintro _ rfl _ rfl _ rfl _ rfl _ rfl _ _ _ _ _ _ _ _ _ _ _ _ _ _ _ _ _ _ _ _ _ _ _ _ _ _ _ _ _ _ _ _ _ _ _ _ _ _ _ _ _ _ _ _
     show WL _ _ _ _ _ _ _
     have eU := ((((((((((a7.ch l (nN (nL H (P)))).kp e).kp q).ch p (nN (nL H (nT (z4 r m l e) I)))).ch y (Nat.not_le.2 (nL H (z6 r m l e q p)))).kp B).kp C).kp D).kp F).kp eT)
     refine lN (L_31 ((a).1) Q R S T V W X Y) (wS a0) isAgg_31 sizeOf_31 eU ?_
     exact f1
    ·intro _ b eV _
     rintro _ rfl _ rfl _ rfl _ rfl _ rfl _ _ _ _ _ _ _ _ _ _ _ _ _ _ _ _ _ _ _ _ _ _ _ _ _ _ _ _ _ _ _ _ _ _ _ _ _ _ _ _ _ _ _ _
     show WL _ _ _ _ _ _ _
     have eW := ((((((((((a7.ch l (nN (nL H (P)))).kp e).kp q).ch p (nN (nL H (nT (z4 r m l e) I)))).ch y (Nat.not_le.2 (nL H (z6 r m l e q p)))).kp B).kp C).kp D).kp F).kp eV)
     refine lN (L_31 ((a).1) Q R S T V W X Y) (wS a0) isAgg_31 sizeOf_31 eW ?_
     exact f1
    ·intro _ b eX _
     rintro _ rfl _ rfl _ rfl _ rfl _ rfl _ rfl _ rfl _ _ _ _ _ _ _ _ _ _ _ _ _ _ _ _ _ _ _ _ _ _ _ _ _ _ _ _ _ _ _ _ _ _ _ _ _ _ _ _ _ _
     show WL _ _ _ _ _ _ _
     have cc := fun (E sz n : Nat) (v : Value) (G : List Value) (o : World.ownsRow L Z.heap.size E sz v n G) (s : World.ownsRow L Z.heap.size E sz v n G) => (own_kp (own_kp (own_kp (own_kp (own_kp (own_ch (own_ch (own_kp (own_kp (own_ch (own_ch (own_kp (own_kp o t) r) m (ne2 s (a1))) l (ne2 s (nT t.size P))) e) q) p (ne2 s (nT (z5 t r m l e) I))) y (fun g hg hlt hk => by have M := (own_lt s g hg).2; have N : L.heap.size ≤ K.heap.size := (z7 t r m l e q p); have O : K.heap.size ≤ g := hk; omega)) B) C) D) F) eX)
     have cU := (cc _ _ _ _ _ ac ac)
     have cV := (cc _ _ _ _ _ ad ad)
     have cW := (cc _ _ _ _ _ ae ae)
     have cX := (cc _ _ _ _ _ af af)
     refine cl (wS a0) (ciSameNote b _ ((a).1) (mR_31 (Rd.of_own cU) a3 (Rd.of_own cV) a4 (Rd.of_own cW) a5 (Rd.of_own cX) a6) _ ((a).1) (mR_31 (Rd.of_own cU) a3 (Rd.of_own cV) a4 (Rd.of_own cW) a5 (Rd.of_own cX) a6)) ?_
     rintro _ a2 ⟨eY, rfl⟩
     exact wl_finT eY rfl
    ·intro _ b pD _
     rintro _ rfl _ rfl _ rfl _ rfl _ rfl _ rfl _ rfl _ rfl _ _ _ _ _ _ _ _ _ _ _ _ _ _ _ _ _ _ _ _ _ _ _ _ _ _ _ _ _ _ _ _ _ _ _ _ _ _ _ _ _
     show WL _ _ _ _ _ _ _
     refine pk (vb (i_SameNote ((a).1) ((a).1))) wN a0 ?_
     exact f1
    ·intro _ b pE _
     rintro _ rfl _ rfl _ rfl _ rfl _ rfl _ rfl _ rfl _ rfl _ rfl _ _ _ _ _ _ _ _ _ _ _ _ _ _ _ _ _ _ _ _ _ _ _ _ _ _ _ _ _ _ _ _ _ _ _ _ _ _ _ _
     show WL _ _ _ _ _ _ _
     refine mw (vb (i_SameNote ((a).1) ((a).1))) ?_
     exact f1
    ·intro _ b eZ _
     rintro _ rfl _ rfl _ rfl _ rfl _ rfl _ rfl _ rfl _ rfl _ rfl _ rfl _ _ _ _ _ _ _ _ _ _ _ _ _ _ _ _ _ _ _ _ _ _ _ _ _ _ _ _ _ _ _ _ _ _ _ _ _ _ _
     show WL _ _ _ _ _ _ _
     have fa := ((((((((((a7.ch l (nN (nL H (P)))).kp e).kp q).ch p (nN (nL H (nT (z4 r m l e) I)))).ch y (Nat.not_le.2 (nL H (z6 r m l e q p)))).kp B).kp C).kp D).kp F).kp eZ)
     refine lN (L_31 ((a).1) Q R S T V W X Y) (wS aa) isAgg_31 sizeOf_31 fa ?_
     exact f1
    ·intro _ b fb _
     rintro _ rfl _ rfl _ rfl _ rfl _ rfl _ rfl _ rfl _ rfl _ rfl _ rfl _ _ _ _ _ _ _ _ _ _ _ _ _ _ _ _ _ _ _ _ _ _ _ _ _ _ _ _ _ _ _ _ _ _ _ _ _ _ _
     show WL _ _ _ _ _ _ _
     have fc := (((((((((aK.kp e).kp q).ch p (nN (nL az (nT (z3 m l e) I)))).ch y (Nat.not_le.2 (nL az (z5 m l e q p)))).kp B).kp C).kp D).kp F).kp fb)
     refine lN (L_31 ((a).2) ai aj ak am an ao ap aq) (wS aa) isAgg_31 sizeOf_31 fc ?_
     exact f1
    ·intro _ b fd _
     rintro _ rfl _ rfl _ rfl _ rfl _ rfl _ rfl _ rfl _ rfl _ rfl _ rfl _ rfl _ rfl _ _ _ _ _ _ _ _ _ _ _ _ _ _ _ _ _ _ _ _ _ _ _ _ _ _ _ _ _ _ _ _ _ _ _ _ _
     show WL _ _ _ _ _ _ _
     have b5 := fun (E sz n : Nat) (v : Value) (G : List Value) (o : World.ownsRow L Z.heap.size E sz v n G) (s : World.ownsRow L Z.heap.size E sz v n G) => (own_kp (own_kp (own_kp (own_kp (own_kp (own_ch (own_ch (own_kp (own_kp (own_ch (own_ch (own_kp (own_kp o t) r) m (ne2 s (a1))) l (ne2 s (nT t.size P))) e) q) p (ne2 s (nT (z5 t r m l e) I))) y (fun g hg hlt hk => by have M := (own_lt s g hg).2; have N : L.heap.size ≤ K.heap.size := (z7 t r m l e q p); have O : K.heap.size ≤ g := hk; omega)) B) C) D) F) fd)
     have fe := (b5 _ _ _ _ _ ac ac)
     have ff := (b5 _ _ _ _ _ ad ad)
     have fg := (b5 _ _ _ _ _ ae ae)
     have fh := (b5 _ _ _ _ _ af af)
     have fi := (b5 _ _ _ _ _ au au)
     have fj := (b5 _ _ _ _ _ av av)
     have fk := (b5 _ _ _ _ _ ax ax)
     have fl := (b5 _ _ _ _ _ ay ay)
     refine cl (wS aa) (ciSameNote b _ ((a).1) (mR_31 (Rd.of_own fe) a3 (Rd.of_own ff) a4 (Rd.of_own fg) a5 (Rd.of_own fh) a6) _ ((a).2) (mR_31 (Rd.of_own fi) aG (Rd.of_own fj) aH (Rd.of_own fk) aI (Rd.of_own fl) aJ)) ?_
     rintro _ a2 ⟨fm, rfl⟩
     exact wl_finT fm rfl
    ·intro _ b fo _
     rintro _ rfl _ rfl _ rfl _ rfl _ rfl _ rfl _ rfl _ rfl _ rfl _ rfl _ _ _ _ _ _ _ _ _ _ _ _ _ _ _ _ _ _ _ _ _ _ _ _ _ _ _ _ _ _ _ _ _ _ _ _ _ _ _
     show WL _ _ _ _ _ _ _
     have fp := ((((((((((a7.ch l (nN (nL H (P)))).kp e).kp q).ch p (nN (nL H (nT (z4 r m l e) I)))).ch y (Nat.not_le.2 (nL H (z6 r m l e q p)))).kp B).kp C).kp D).kp F).kp fo)
     refine lN (L_31 ((a).1) Q R S T V W X Y) (wS aa) isAgg_31 sizeOf_31 fp ?_
     exact f1
    ·intro _ b fq _
     rintro _ rfl _ rfl _ rfl _ rfl _ rfl _ rfl _ rfl _ rfl _ rfl _ rfl _ _ _ _ _ _ _ _ _ _ _ _ _ _ _ _ _ _ _ _ _ _ _ _ _ _ _ _ _ _ _ _ _ _ _ _ _ _ _
     show WL _ _ _ _ _ _ _
     have fr := (((((((((aK.kp e).kp q).ch p (nN (nL az (nT (z3 m l e) I)))).ch y (Nat.not_le.2 (nL az (z5 m l e q p)))).kp B).kp C).kp D).kp F).kp fq)
     refine lN (L_31 ((a).2) ai aj ak am an ao ap aq) (wS aa) isAgg_31 sizeOf_31 fr ?_
     exact f1
    ·intro _ b fs _
     rintro _ rfl _ rfl _ rfl _ rfl _ rfl _ rfl _ rfl _ rfl _ rfl _ rfl _ rfl _ rfl _ rfl _ rfl _ rfl _ _ _ _ _ _ _ _ _ _ _ _ _ _ _ _ _ _ _ _ _ _ _ _ _ _ _ _ _ _ _ _ _ _
     show WL _ _ _ _ _ _ _
     have b6 := fun (E sz n : Nat) (v : Value) (G : List Value) (o : World.ownsRow L Z.heap.size E sz v n G) (s : World.ownsRow L Z.heap.size E sz v n G) => (own_kp (own_kp (own_kp (own_kp (own_kp (own_ch (own_ch (own_kp (own_kp (own_ch (own_ch (own_kp (own_kp o t) r) m (ne2 s (a1))) l (ne2 s (nT t.size P))) e) q) p (ne2 s (nT (z5 t r m l e) I))) y (fun g hg hlt hk => by have M := (own_lt s g hg).2; have N : L.heap.size ≤ K.heap.size := (z7 t r m l e q p); have O : K.heap.size ≤ g := hk; omega)) B) C) D) F) fs)
     have ft := (b6 _ _ _ _ _ ac ac)
     have fu := (b6 _ _ _ _ _ ad ad)
     have fv := (b6 _ _ _ _ _ ae ae)
     have fw := (b6 _ _ _ _ _ af af)
     have fx := (b6 _ _ _ _ _ au au)
     have fy := (b6 _ _ _ _ _ av av)
     have fz := (b6 _ _ _ _ _ ax ax)
     have f0 := (b6 _ _ _ _ _ ay ay)
     refine cl (wS aa) (csSameNote b _ ((a).1) (mR_31 (Rd.of_own ft) a3 (Rd.of_own fu) a4 (Rd.of_own fv) a5 (Rd.of_own fw) a6) _ ((a).2) (mR_31 (Rd.of_own fx) aG (Rd.of_own fy) aH (Rd.of_own fz) aI (Rd.of_own f0) aJ)) ?_
     rintro _ a2 ⟨f3, rfl⟩
     exact wl_finT f3 rfl
    ·intro _ b pF _
     rintro _ rfl _ rfl _ rfl _ rfl _ rfl _ rfl _ rfl _ rfl _ rfl _ rfl _ rfl _ rfl _ rfl _ rfl _ rfl _ rfl _ _ _ _ _ _ _ _ _ _ _ _ _ _ _ _ _ _ _ _ _ _ _ _ _ _ _ _ _ _ _ _ _
     show WL _ _ _ _ _ _ _
     refine pu (vb ((i_SameNote ((a).1) ((a).2)) == (s_SameNote ((a).1) ((a).2)))) (wS aa) ?_
     exact f1
    ·intro _ b pG _
     rintro _ rfl _ rfl _ rfl _ rfl _ rfl _ rfl _ rfl _ rfl _ rfl _ rfl _ rfl _ rfl _ rfl _ rfl _ rfl _ rfl _ rfl _ _ _ _ _ _ _ _ _ _ _ _ _ _ _ _ _ _ _ _ _ _ _ _ _ _ _ _ _ _ _ _
     show WL _ _ _ _ _ _ _
     refine pk (vb ((i_SameNote ((a).1) ((a).2)) == (s_SameNote ((a).1) ((a).2)))) wN aa ?_
     exact f1
    ·intro _ b pH _
     rintro _ rfl _ rfl _ rfl _ rfl _ rfl _ rfl _ rfl _ rfl _ rfl _ rfl _ rfl _ rfl _ rfl _ rfl _ rfl _ rfl _ rfl _ rfl _ _ _ _ _ _ _ _ _ _ _ _ _ _ _ _ _ _ _ _ _ _ _ _ _ _ _ _ _ _ _
     show WL _ _ _ _ _ _ _
     refine mw (vb ((i_SameNote ((a).1) ((a).2)) == (s_SameNote ((a).1) ((a).2)))) ?_
     exact f1
    ·intro _ b pI _
     rintro _ rfl _ rfl _ rfl _ rfl _ rfl _ rfl _ rfl _ rfl _ rfl _ rfl _ rfl _ rfl _ rfl _ rfl _ rfl _ rfl _ rfl _ rfl _ rfl _ _ _ _ _ _ _ _ _ _ _ _ _ _ _ _ _ _ _ _ _ _ _ _ _ _ _ _ _ _
     show WL _ _ _ _ _ _ _
     refine sk ah ?_
     exact f1
    ·intro _ b pJ _
     rintro _ rfl _ rfl _ rfl _ rfl _ rfl _ rfl _ rfl _ rfl _ rfl _ rfl _ rfl _ rfl _ rfl _ rfl _ rfl _ rfl _ rfl _ rfl _ rfl _ _ _ _ _ _ _ _ _ _ _ _ _ _ _ _ _ _ _ _ _ _ _ _ _ _ _ _ _ _
     show WL _ _ _ _ _ _ _
     refine sk ah ?_
     exact f1
    ·intro _ b pK _
     rintro _ rfl _ rfl _ rfl _ rfl _ rfl _ rfl _ rfl _ rfl _ rfl _ rfl _ rfl _ rfl _ rfl _ rfl _ rfl _ rfl _ rfl _ rfl _ rfl _ rfl _ rfl _ _ _ _ _ _ _ _ _ _ _ _ _ _ _ _ _ _ _ _ _ _ _ _ _ _ _ _
     show WL _ _ _ _ _ _ _
     refine sk ah ?_
     exact f1
    ·intro _ b pL _
     rintro _ rfl _ rfl _ rfl _ rfl _ rfl _ rfl _ rfl _ rfl _ rfl _ rfl _ rfl _ rfl _ rfl _ rfl _ rfl _ rfl _ rfl _ rfl _ rfl _ _ _ _ _ _ _ _ _ _ _ _ _ _ _ _ _ _ _ _ _ _ _ _ _ _ _ _ _ _
     show WL _ _ _ _ _ _ _
     refine sk ah ?_
     exact f1
    ·intro _ b pM _
     rintro _ rfl _ rfl _ rfl _ rfl _ rfl _ rfl _ rfl _ rfl _ rfl _ rfl _ rfl _ rfl _ rfl _ rfl _ rfl _ rfl _ rfl _ rfl _ rfl _ _ _ _ _ _ _ _ _ _ _ _ _ _ _ _ _ _ _ _ _ _ _ _ _ _ _ _ _ _
     show WL _ _ _ _ _ _ _
     refine sk ah ?_
     exact f1
    ·intro _ b pN _
     rintro _ rfl _ rfl _ rfl _ rfl _ rfl _ rfl _ rfl _ rfl _ rfl _ rfl _ rfl _ rfl _ rfl _ rfl _ rfl _ rfl _ rfl _ rfl _ rfl _ rfl _ rfl _ rfl _ rfl _ rfl _ _ _ _ _ _ _ _ _ _ _ _ _ _ _ _ _ _ _ _ _ _ _ _ _
     show WL _ _ _ _ _ _ _
     refine sk ah ?_
     exact f1
    ·intro _ b pO _
     rintro _ rfl _ rfl _ rfl _ rfl _ rfl _ rfl _ rfl _ rfl _ rfl _ rfl _ rfl _ rfl _ rfl _ rfl _ rfl _ rfl _ rfl _ rfl _ rfl _ rfl _ rfl _ rfl _ rfl _ rfl _ rfl _ _ _ _ _ _ _ _ _ _ _ _ _ _ _ _ _ _ _ _ _ _ _ _
     show WL _ _ _ _ _ _ _
     refine sk ah ?_
     exact f1
    ·intro _ b pP _
     rintro _ rfl _ rfl _ rfl _ rfl _ rfl _ rfl _ rfl _ rfl _ rfl _ rfl _ rfl _ rfl _ rfl _ rfl _ rfl _ rfl _ rfl _ rfl _ rfl _ rfl _ rfl _ rfl _ rfl _ rfl _ rfl _ rfl _ _ _ _ _ _ _ _ _ _ _ _ _ _ _ _ _ _ _ _ _ _ _
     show WL _ _ _ _ _ _ _
     refine pf (vb false) wN ah ?_
     exact f1
    ·intro _ b pQ _
     rintro _ rfl _ rfl _ rfl _ rfl _ rfl _ rfl _ rfl _ rfl _ rfl _ rfl _ rfl _ rfl _ rfl _ rfl _ rfl _ rfl _ rfl _ rfl _ rfl _ rfl _ rfl _ rfl _ rfl _ rfl _ rfl _ rfl _ rfl _ _ _ _ _ _ _ _ _ _ _ _ _ _ _ _ _ _ _ _ _ _
     show WL _ _ _ _ _ _ _
     refine mw (vb false) ?_
     exact f1
    ·intro _ b pR _
     rintro _ rfl _ rfl _ rfl _ rfl _ rfl _ rfl _ rfl _ rfl _ rfl _ rfl _ rfl _ rfl _ rfl _ rfl _ rfl _ rfl _ rfl _ rfl _ rfl _ rfl _ rfl _ rfl _ rfl _ rfl _ rfl _ rfl _ rfl _ rfl _ _ _ _ _ _ _ _ _ _ _ _ _ _ _ _ _ _ _ _ _
     show WL _ _ _ _ _ _ _
     refine sk F1 ?_
     exact f1
    ·intro _ b pS _
     rintro _ rfl _ rfl _ rfl _ rfl _ rfl _ rfl _ rfl _ rfl _ rfl _ rfl _ rfl _ rfl _ rfl _ rfl _ rfl _ rfl _ rfl _ rfl _ rfl _ rfl _ rfl _ rfl _ rfl _ rfl _ rfl _ rfl _ rfl _ rfl _ rfl _ _ _ _ _ _ _ _ _ _ _ _ _ _ _ _ _ _ _ _
     show WL _ _ _ _ _ _ _
     refine sk F1 ?_
     exact f1
    ·intro _ b pT _
     rintro _ rfl _ rfl _ rfl _ rfl _ rfl _ rfl _ rfl _ rfl _ rfl _ rfl _ rfl _ rfl _ rfl _ rfl _ rfl _ rfl _ rfl _ rfl _ rfl _ rfl _ rfl _ rfl _ rfl _ rfl _ rfl _ rfl _ rfl _ rfl _ _ _ _ _ _ _ _ _ _ _ _ _ _ _ _ _ _ _ _ _
     show WL _ _ _ _ _ _ _
     refine sk F1 ?_
     exact f1
    ·intro _ b pU _
     rintro _ rfl _ rfl _ rfl _ rfl _ rfl _ rfl _ rfl _ rfl _ rfl _ rfl _ rfl _ rfl _ rfl _ rfl _ rfl _ rfl _ rfl _ rfl _ rfl _ rfl _ rfl _ rfl _ rfl _ rfl _ rfl _ rfl _ rfl _ rfl _ rfl _ rfl _ rfl _ _ _ _ _ _ _ _ _ _ _ _ _ _ _ _ _ _
     show WL _ _ _ _ _ _ _
     refine sk F1 ?_
     exact f1
    ·intro _ b pV _
     rintro _ rfl _ rfl _ rfl _ rfl _ rfl _ rfl _ rfl _ rfl _ rfl _ rfl _ rfl _ rfl _ rfl _ rfl _ rfl _ rfl _ rfl _ rfl _ rfl _ rfl _ rfl _ rfl _ rfl _ rfl _ rfl _ rfl _ rfl _ rfl _ rfl _ rfl _ rfl _ rfl _ _ _ _ _ _ _ _ _ _ _ _ _ _ _ _ _
     show WL _ _ _ _ _ _ _
     refine sk F1 ?_
     exact f1
    ·intro _ b pW _
     rintro _ rfl _ rfl _ rfl _ rfl _ rfl _ rfl _ rfl _ rfl _ rfl _ rfl _ rfl _ rfl _ rfl _ rfl _ rfl _ rfl _ rfl _ rfl _ rfl _ rfl _ rfl _ rfl _ rfl _ rfl _ rfl _ rfl _ rfl _ rfl _ rfl _ rfl _ rfl _ rfl _ rfl _ _ _ _ _ _ _ _ _ _ _ _ _ _ _ _
     show WL _ _ _ _ _ _ _
     refine pf (vb false) wN (Eq.refl false) ?_
     exact f1
    ·intro _ b pX _
     rintro _ rfl _ rfl _ rfl _ rfl _ rfl _ rfl _ rfl _ rfl _ rfl _ rfl _ rfl _ rfl _ rfl _ rfl _ rfl _ rfl _ rfl _ rfl _ rfl _ rfl _ rfl _ rfl _ rfl _ rfl _ rfl _ rfl _ rfl _ rfl _ rfl _ rfl _ rfl _ rfl _ rfl _ rfl _ _ _ _ _ _ _ _ _ _ _ _ _ _ _
     show WL _ _ _ _ _ _ _
     refine mw (vb false) ?_
     exact f1
    ·intro _ b pY _
     rintro _ rfl _ rfl _ rfl _ rfl _ rfl _ rfl _ rfl _ rfl _ rfl _ rfl _ rfl _ rfl _ rfl _ rfl _ rfl _ rfl _ rfl _ rfl _ rfl _ rfl _ rfl _ rfl _ rfl _ rfl _ rfl _ rfl _ rfl _ rfl _ rfl _ rfl _ rfl _ rfl _ rfl _ rfl _ rfl _ _ _ _ _ _ _ _ _ _ _ _ _ _
     show WL _ _ _ _ _ _ _
     refine sk F1 ?_
     exact f1
    ·intro _ b pZ _
     rintro _ rfl _ rfl _ rfl _ rfl _ rfl _ rfl _ rfl _ rfl _ rfl _ rfl _ rfl _ rfl _ rfl _ rfl _ rfl _ rfl _ rfl _ rfl _ rfl _ rfl _ rfl _ rfl _ rfl _ rfl _ rfl _ rfl _ rfl _ rfl _ rfl _ rfl _ rfl _ rfl _ rfl _ rfl _ rfl _ rfl _ _ _ _ _ _ _ _ _ _ _ _ _
     show WL _ _ _ _ _ _ _
     refine sk F1 ?_
     exact f1
    ·intro _ b qa _
     rintro _ rfl _ rfl _ rfl _ rfl _ rfl _ rfl _ rfl _ rfl _ rfl _ rfl _ rfl _ rfl _ rfl _ rfl _ rfl _ rfl _ rfl _ rfl _ rfl _ rfl _ rfl _ rfl _ rfl _ rfl _ rfl _ rfl _ rfl _ rfl _ rfl _ rfl _ rfl _ rfl _ rfl _ rfl _ rfl _ rfl _ rfl _ _ _ _ _ _ _ _ _ _ _ _
     show WL _ _ _ _ _ _ _
     refine sk F1 ?_
     exact f1
    ·intro _ b qb _
     rintro _ rfl _ rfl _ rfl _ rfl _ rfl _ rfl _ rfl _ rfl _ rfl _ rfl _ rfl _ rfl _ rfl _ rfl _ rfl _ rfl _ rfl _ rfl _ rfl _ rfl _ rfl _ rfl _ rfl _ rfl _ rfl _ rfl _ rfl _ rfl _ rfl _ rfl _ rfl _ rfl _ rfl _ rfl _ rfl _ rfl _ rfl _ rfl _ _ _ _ _ _ _ _ _ _ _
     show WL _ _ _ _ _ _ _
     refine su ?_
     exact f1
    ·intro _ b qc _
     rintro _ rfl _ rfl _ rfl _ rfl _ rfl _ rfl _ rfl _ rfl _ rfl _ rfl _ rfl _ rfl _ rfl _ rfl _ rfl _ rfl _ rfl _ rfl _ rfl _ rfl _ rfl _ rfl _ rfl _ rfl _ rfl _ rfl _ rfl _ rfl _ rfl _ rfl _ rfl _ rfl _ rfl _ rfl _ rfl _ rfl _ rfl _ rfl _ _ _ _ _ _ _ _ _ _ _
     show WL _ _ _ _ _ _ _
     refine su ?_
     exact f1
    ·intro _ b qd _
     rintro _ rfl _ rfl _ rfl _ rfl _ rfl _ rfl _ rfl _ rfl _ rfl _ rfl _ rfl _ rfl _ rfl _ rfl _ rfl _ rfl _ rfl _ rfl _ rfl _ rfl _ rfl _ rfl _ rfl _ rfl _ rfl _ rfl _ rfl _ rfl _ rfl _ rfl _ rfl _ rfl _ rfl _ rfl _ rfl _ rfl _ rfl _ rfl _ rfl _ rfl _ _ _ _ _ _ _ _ _
     show WL _ _ _ _ _ _ _
     refine su ?_
     exact f1
    ·intro _ b qe _
     rintro _ rfl _ rfl _ rfl _ rfl _ rfl _ rfl _ rfl _ rfl _ rfl _ rfl _ rfl _ rfl _ rfl _ rfl _ rfl _ rfl _ rfl _ rfl _ rfl _ rfl _ rfl _ rfl _ rfl _ rfl _ rfl _ rfl _ rfl _ rfl _ rfl _ rfl _ rfl _ rfl _ rfl _ rfl _ rfl _ rfl _ rfl _ rfl _ rfl _ rfl _ rfl _ _ _ _ _ _ _ _
     show WL _ _ _ _ _ _ _
     refine sk F1 ?_
     exact f1
    ·intro _ b qf _
     rintro _ rfl _ rfl _ rfl _ rfl _ rfl _ rfl _ rfl _ rfl _ rfl _ rfl _ rfl _ rfl _ rfl _ rfl _ rfl _ rfl _ rfl _ rfl _ rfl _ rfl _ rfl _ rfl _ rfl _ rfl _ rfl _ rfl _ rfl _ rfl _ rfl _ rfl _ rfl _ rfl _ rfl _ rfl _ rfl _ rfl _ rfl _ rfl _ rfl _ rfl _ rfl _ rfl _ _ _ _ _ _ _
     show WL _ _ _ _ _ _ _
     refine sk F1 ?_
     exact f1
    ·intro _ b qg _
     rintro _ rfl _ rfl _ rfl _ rfl _ rfl _ rfl _ rfl _ rfl _ rfl _ rfl _ rfl _ rfl _ rfl _ rfl _ rfl _ rfl _ rfl _ rfl _ rfl _ rfl _ rfl _ rfl _ rfl _ rfl _ rfl _ rfl _ rfl _ rfl _ rfl _ rfl _ rfl _ rfl _ rfl _ rfl _ rfl _ rfl _ rfl _ rfl _ rfl _ rfl _ rfl _ rfl _ rfl _ _ _ _ _ _
     show WL _ _ _ _ _ _ _
     refine su ?_
     exact f1
    ·intro _ b qh _
     rintro _ rfl _ rfl _ rfl _ rfl _ rfl _ rfl _ rfl _ rfl _ rfl _ rfl _ rfl _ rfl _ rfl _ rfl _ rfl _ rfl _ rfl _ rfl _ rfl _ rfl _ rfl _ rfl _ rfl _ rfl _ rfl _ rfl _ rfl _ rfl _ rfl _ rfl _ rfl _ rfl _ rfl _ rfl _ rfl _ rfl _ rfl _ rfl _ rfl _ rfl _ rfl _ rfl _ rfl _ rfl _ _ _ _ _
     show WL _ _ _ _ _ _ _
     refine su ?_
     exact f1
    ·intro _ b qi _
     rintro _ rfl _ rfl _ rfl _ rfl _ rfl _ rfl _ rfl _ rfl _ rfl _ rfl _ rfl _ rfl _ rfl _ rfl _ rfl _ rfl _ rfl _ rfl _ rfl _ rfl _ rfl _ rfl _ rfl _ rfl _ rfl _ rfl _ rfl _ rfl _ rfl _ rfl _ rfl _ rfl _ rfl _ rfl _ rfl _ rfl _ rfl _ rfl _ rfl _ rfl _ rfl _ rfl _ rfl _ rfl _ rfl _ _ _ _
     show WL _ _ _ _ _ _ _
     refine su ?_
     exact f1
    ·intro _ b qj _
     rintro _ rfl _ rfl _ rfl _ rfl _ rfl _ rfl _ rfl _ rfl _ rfl _ rfl _ rfl _ rfl _ rfl _ rfl _ rfl _ rfl _ rfl _ rfl _ rfl _ rfl _ rfl _ rfl _ rfl _ rfl _ rfl _ rfl _ rfl _ rfl _ rfl _ rfl _ rfl _ rfl _ rfl _ rfl _ rfl _ rfl _ rfl _ rfl _ rfl _ rfl _ rfl _ rfl _ rfl _ _ _ _ _ _
     show WL _ _ _ _ _ _ _
     refine su ?_
     exact f1
    ·intro _ b qk _
     rintro _ rfl _ rfl _ rfl _ rfl _ rfl _ rfl _ rfl _ rfl _ rfl _ rfl _ rfl _ rfl _ rfl _ rfl _ rfl _ rfl _ rfl _ rfl _ rfl _ rfl _ rfl _ rfl _ rfl _ rfl _ rfl _ rfl _ rfl _ rfl _ rfl _ rfl _ rfl _ rfl _ rfl _ rfl _ rfl _ rfl _ rfl _ rfl _ rfl _ rfl _ rfl _ rfl _ rfl _ rfl _ rfl _ _ rfl _ _
     show WL _ _ _ _ _ _ _
     refine su ?_
     exact f1
    ·intro _ b ql _
     rintro _ rfl _ rfl _ rfl _ rfl _ rfl _ rfl _ rfl _ rfl _ rfl _ rfl _ rfl _ rfl _ rfl _ rfl _ rfl _ rfl _ rfl _ rfl _ rfl _ rfl _ rfl _ rfl _ rfl _ rfl _ rfl _ rfl _ rfl _ rfl _ rfl _ rfl _ rfl _ rfl _ rfl _ rfl _ rfl _ rfl _ rfl _ rfl _ rfl _ rfl _ rfl _ rfl _ rfl _ rfl _ rfl _ _ rfl _ rfl _
     show WL _ _ _ _ _ _ _
     refine su ?_
     exact f1
   ·intro _ b f4
    have f5 := bq.extk f4
    rintro _ rfl _ rfl _ rfl _ rfl _ rfl _ rfl _ rfl _ rfl _ rfl _ rfl _ rfl _ rfl _ rfl _ rfl _ rfl _ rfl _ rfl _ rfl _ rfl _ rfl _ rfl _ rfl _ rfl _ rfl _ rfl _ rfl _ rfl _ rfl _ rfl _ rfl _ rfl _ rfl _ rfl _ rfl _ rfl _ rfl _ rfl _ rfl _ rfl _ rfl _ rfl _ rfl _ rfl _ rfl _ rfl _ rfl _ rfl _ rfl _ rfl
    show WL _ _ _ _ _ _ _
    refine su ?_
    refine sk F1 ?_
    refine pf (vb false) wN (Eq.refl false) ?_
    refine aw (vb false) ?_
    refine n3 ?_
    refine rt (vb false) ?_
    have f6 : ntLaw x d a J = false := by obtain rfl : i = d.1.length := (by omega); subst bh; have hz := allN_t (f := ntG d) (n := d.1.length) (k := d.1.length) bj (by omega); simp only [ntLaw, ntT, ntS, hz, aL, aM, a0, aa, ah, cond_true, cond_false]; try rfl
    exact ⟨d, a, J, f5.keep0, bl, bm, bn, by rw [f6]⟩
  rcases bf ((i_SameNote ((a).2) ((a).1)) == (i_SameNote ((a).1) ((a).2))) with a8 | a8
  ·refine wc_drawT ([(69, [], [], (fun _ v _ => v = (vi k))), (70, [], [], (fun _ v _ => v = (vs aC (i_Pick ((d).1) ((d).2)).length aD))), (71, [], [1], (fun _ v _ => v = (vi ((i_Pick ((d).1) ((d).2)).length : Int)))), (72, [], [0, 1, 2], (fun _ v _ => v = (vb (decide (k = ((i_Pick ((d).1) ((d).2)).length : Int)))))), (73, [], [0, 1, 2, 3], (fun _ v _ => v = (vb (decide (k = ((i_Pick ((d).1) ((d).2)).length : Int)))))), (74, [], [0, 1, 2, 3, 4], (fun _ v _ => v = (va (L_31 ((a).1) Q R S T V W X Y)))), (75, [], [0, 1, 2, 3, 4], (fun _ v _ => v = (va (L_31 ((a).1) Q R S T V W X Y)))), (76, [], [0, 1, 2, 3, 4, 5, 6], (fun _ v w => v = .bool (i_SameNote ((a).1) ((a).1)))), (77, [], [0, 1, 2, 3, 4, 5, 6, 7], (fun _ v _ => v = (vb (i_SameNote ((a).1) ((a).1))))), (78, [], [0, 1, 2, 3, 4, 5, 6, 7, 8], (fun _ v _ => v = (vb (i_SameNote ((a).1) ((a).1))))), (79, [], [0, 1, 2, 3, 4, 5, 6, 7, 8, 9], (fun _ v _ => v = (va (L_31 ((a).1) Q R S T V W X Y)))), (80, [], [0, 1, 2, 3, 4, 5, 6, 7, 8, 9], (fun _ v _ => v = (va (L_31 ((a).2) ai aj ak am an ao ap aq)))), (81, [], [0, 1, 2, 3, 4, 5, 6, 7, 8, 9, 10, 11], (fun _ v w => v = .bool (i_SameNote ((a).1) ((a).2)))), (82, [], [0, 1, 2, 3, 4, 5, 6, 7, 8, 9], (fun _ v _ => v = (va (L_31 ((a).1) Q R S T V W X Y)))), (83, [], [0, 1, 2, 3, 4, 5, 6, 7, 8, 9], (fun _ v _ => v = (va (L_31 ((a).2) ai aj ak am an ao ap aq)))), (84, [], [0, 1, 2, 3, 4, 5, 6, 7, 8, 9, 10, 11, 12, 13, 14], (fun _ v w => v = .bool (s_SameNote ((a).1) ((a).2)))), (85, [], [0, 1, 2, 3, 4, 5, 6, 7, 8, 9, 10, 11, 12, 13, 14, 15], (fun _ v _ => v = (vb ((i_SameNote ((a).1) ((a).2)) == (s_SameNote ((a).1) ((a).2)))))), (86, [], [0, 1, 2, 3, 4, 5, 6, 7, 8, 9, 10, 11, 12, 13, 14, 15, 16], (fun _ v _ => v = (vb ((i_SameNote ((a).1) ((a).2)) == (s_SameNote ((a).1) ((a).2)))))), (87, [], [0, 1, 2, 3, 4, 5, 6, 7, 8, 9, 10, 11, 12, 13, 14, 15, 16, 17], (fun _ v _ => v = (vb ((i_SameNote ((a).1) ((a).2)) == (s_SameNote ((a).1) ((a).2)))))), (88, [], [0, 1, 2, 3, 4, 5, 6, 7, 8, 9, 10, 11, 12, 13, 14, 15, 16, 17, 18], (fun _ v _ => v = (va (L_31 ((a).2) ai aj ak am an ao ap aq)))), (89, [], [0, 1, 2, 3, 4, 5, 6, 7, 8, 9, 10, 11, 12, 13, 14, 15, 16, 17, 18], (fun _ v _ => v = (va (L_31 ((a).1) Q R S T V W X Y)))), (90, [], [0, 1, 2, 3, 4, 5, 6, 7, 8, 9, 10, 11, 12, 13, 14, 15, 16, 17, 18, 19, 20], (fun _ v w => v = .bool (i_SameNote ((a).2) ((a).1)))), (91, [], [0, 1, 2, 3, 4, 5, 6, 7, 8, 9, 10, 11, 12, 13, 14, 15, 16, 17, 18], (fun _ v _ => v = (va (L_31 ((a).1) Q R S T V W X Y)))), (92, [], [0, 1, 2, 3, 4, 5, 6, 7, 8, 9, 10, 11, 12, 13, 14, 15, 16, 17, 18], (fun _ v _ => v = (va (L_31 ((a).2) ai aj ak am an ao ap aq)))), (93, [], [0, 1, 2, 3, 4, 5, 6, 7, 8, 9, 10, 11, 12, 13, 14, 15, 16, 17, 18, 19, 20, 21, 22, 23], (fun _ v w => v = .bool (i_SameNote ((a).1) ((a).2)))), (94, [], [0, 1, 2, 3, 4, 5, 6, 7, 8, 9, 10, 11, 12, 13, 14, 15, 16, 17, 18, 19, 20, 21, 22, 23, 24], (fun _ v _ => v = (vb ((i_SameNote ((a).2) ((a).1)) == (i_SameNote ((a).1) ((a).2)))))), (95, [], [0, 1, 2, 3, 4, 5, 6, 7, 8, 9, 10, 11, 12, 13, 14, 15, 16, 17, 18, 19, 20, 21, 22, 23, 24, 25], (fun _ v _ => v = (vb ((i_SameNote ((a).2) ((a).1)) == (i_SameNote ((a).1) ((a).2)))))), (96, [], [0, 1, 2, 3, 4, 5, 6, 7, 8, 9, 10, 11, 12, 13, 14, 15, 16, 17, 18, 19, 20, 21, 22, 23, 24, 25, 26], (fun _ v _ => v = (vb ((i_SameNote ((a).2) ((a).1)) == (i_SameNote ((a).1) ((a).2)))))), (97, [], [0, 1, 2, 3, 4, 5, 6, 7, 8, 9, 10, 11, 12, 13, 14, 15, 16, 17, 18, 19, 20, 21, 22, 23, 24, 25, 26, 27], (fun _ v _ => v = U)), (98, [], [0, 1, 2, 3, 4, 5, 6, 7, 8, 9, 10, 11, 12, 13, 14, 15, 16, 17, 18, 19, 20, 21, 22, 23, 24, 25, 26, 27, 28], (fun _ v _ => v = U)), (99, [], [0, 1, 2, 3, 4, 5, 6, 7, 8, 9, 10, 11, 12, 13, 14, 15, 16, 17, 18, 19, 20, 21, 22, 23, 24, 25, 26, 27], (fun _ v _ => v = U)), (100, [], [0, 1, 2, 3, 4, 5, 6, 7, 8, 9, 10, 11, 12, 13, 14, 15, 16, 17, 18, 19, 20, 21, 22, 23, 24, 25, 26, 27, 28, 29, 30], (fun _ v _ => v = U)), (101, [], [0, 1, 2, 3, 4, 5, 6, 7, 8, 9, 10, 11, 12, 13, 14, 15, 16, 17, 18, 19, 20, 21, 22, 23, 24, 25, 26, 27, 28, 29, 30, 31], (fun _ v _ => v = U)), (102, [], [0, 1, 2, 3, 4, 5, 6, 7, 8, 9, 10, 11, 12, 13, 14, 15, 16, 17, 18, 19, 20, 21, 22, 23, 24, 25, 26, 27, 28, 29, 30, 31, 32], (fun _ v _ => v = (vb false))), (103, [], [0, 1, 2, 3, 4, 5, 6, 7, 8, 9, 10, 11, 12, 13, 14, 15, 16, 17, 18, 19, 20, 21, 22, 23, 24, 25, 26, 27, 28, 29, 30, 31, 32, 33], (fun _ v _ => v = (vb false))), (104, [], [0, 1, 2, 3, 4, 5, 6, 7, 8, 9, 10, 11, 12, 13, 14, 15, 16, 17, 18, 19, 20, 21, 22, 23, 24, 25, 26, 27, 28, 29, 30, 31, 32, 33, 34], (fun _ v _ => v = U)), (105, [], [0, 1, 2, 3, 4, 5, 6, 7, 8, 9, 10, 11, 12, 13, 14, 15, 16, 17, 18, 19, 20, 21, 22, 23, 24, 25, 26, 27, 28, 29, 30, 31, 32, 33, 34, 35], (fun _ v _ => v = U)), (106, [], [0, 1, 2, 3, 4, 5, 6, 7, 8, 9, 10, 11, 12, 13, 14, 15, 16, 17, 18, 19, 20, 21, 22, 23, 24, 25, 26, 27, 28, 29, 30, 31, 32, 33, 34, 35, 36], (fun _ v _ => v = U)), (107, [], [0, 1, 2, 3, 4, 5, 6, 7, 8, 9, 10, 11, 12, 13, 14, 15, 16, 17, 18, 19, 20, 21, 22, 23, 24, 25, 26, 27, 28, 29, 30, 31, 32, 33, 34, 35, 36, 37], (fun _ v _ => v = U)), (108, [], [0, 1, 2, 3, 4, 5, 6, 7, 8, 9, 10, 11, 12, 13, 14, 15, 16, 17, 18, 19, 20, 21, 22, 23, 24, 25, 26, 27, 28, 29, 30, 31, 32, 33, 34, 35, 36, 37], (fun _ v _ => v = U)), (109, [], [0, 1, 2, 3, 4, 5, 6, 7, 8, 9, 10, 11, 12, 13, 14, 15, 16, 17, 18, 19, 20, 21, 22, 23, 24, 25, 26, 27, 28, 29, 30, 31, 32, 33, 34, 35, 36, 37, 38, 39], (fun _ v _ => v = U)), (110, [], [0, 1, 2, 3, 4, 5, 6, 7, 8, 9, 10, 11, 12, 13, 14, 15, 16, 17, 18, 19, 20, 21, 22, 23, 24, 25, 26, 27, 28, 29, 30, 31, 32, 33, 34, 35, 36, 37, 38, 39, 40], (fun _ v _ => v = U)), (111, [], [0, 1, 2, 3, 4, 5, 6, 7, 8, 9, 10, 11, 12, 13, 14, 15, 16, 17, 18, 19, 20, 21, 22, 23, 24, 25, 26, 27, 28, 29, 30, 31, 32, 33, 34, 35, 36, 37, 38, 39, 40, 41], (fun _ v _ => v = U)), (112, [], [0, 1, 2, 3, 4, 5, 6, 7, 8, 9, 10, 11, 12, 13, 14, 15, 16, 17, 18, 19, 20, 21, 22, 23, 24, 25, 26, 27, 28, 29, 30, 31, 32, 33, 34, 35, 36, 37, 38, 39, 40, 41, 42], (fun _ v _ => v = U)), (113, [], [0, 1, 2, 3, 4, 5, 6, 7, 8, 9, 10, 11, 12, 13, 14, 15, 16, 17, 18, 19, 20, 21, 22, 23, 24, 25, 26, 27, 28, 29, 30, 31, 32, 33, 34, 35, 36, 37, 38, 39, 40, 41, 42, 43], (fun _ v _ => v = U)), (114, [], [0, 1, 2, 3, 4, 5, 6, 7, 8, 9, 10, 11, 12, 13, 14, 15, 16, 17, 18, 19, 20, 21, 22, 23, 24, 25, 26, 27, 28, 29, 30, 31, 32, 33, 34, 35, 36, 37, 38, 39, 40, 41, 42, 43, 44], (fun _ v _ => v = U)), (115, [], [0, 1, 2, 3, 4, 5, 6, 7, 8, 9, 10, 11, 12, 13, 14, 15, 16, 17, 18, 19, 20, 21, 22, 23, 24, 25, 26, 27, 28, 29, 30, 31, 32, 33, 34, 35, 36, 37, 38, 39, 40, 41, 42], (fun _ v _ => v = U)), (116, [], [0, 1, 2, 3, 4, 5, 6, 7, 8, 9, 10, 11, 12, 13, 14, 15, 16, 17, 18, 19, 20, 21, 22, 23, 24, 25, 26, 27, 28, 29, 30, 31, 32, 33, 34, 35, 36, 37, 38, 39, 40, 41, 42, 43, 44, 46], (fun _ v _ => v = U)), (117, [], [0, 1, 2, 3, 4, 5, 6, 7, 8, 9, 10, 11, 12, 13, 14, 15, 16, 17, 18, 19, 20, 21, 22, 23, 24, 25, 26, 27, 28, 29, 30, 31, 32, 33, 34, 35, 36, 37, 38, 39, 40, 41, 42, 43, 44, 46, 47], (fun _ v _ => v = U))] : GV) (fun _ aE => Keep b4 aE) [] mixed rfl (by kernel_rfl) (by kernel_rfl) ?_ (fun _ _ h => h) (fun _ _ _ _ h _ k => h.trans k) trivial ?_ ?_ ?_
   ·exact ⟨hV, hE, ⟨hV, hE, ⟨hV, hE, ⟨hV, hE, ⟨hV, hE, ⟨hV, hE, ⟨hV, hE, ⟨hV, hE, ⟨hV, hE, ⟨hV, hE, ⟨hV, hE, ⟨hV, hE, ⟨hV, hE, ⟨hV, hE, ⟨hV, hE, ⟨hV, hE, ⟨hV, hE, ⟨hV, hE, ⟨hV, hE, ⟨hV, hE, ⟨hV, hE, ⟨hV, hE, ⟨hV, hE, ⟨hV, hE, ⟨hV, hE, ⟨hV, hE, ⟨hV, hE, ⟨hV, hE, ⟨hV, hE, ⟨hV, hE, ⟨hV, hE, ⟨hV, hE, ⟨hV, hE, ⟨hV, hE, ⟨hV, hE, ⟨hV, hE, ⟨hV, hE, ⟨hV, hE, ⟨hV, hE, ⟨hV, hE, ⟨hV, hE, ⟨hV, hE, ⟨hV, hE, ⟨hV, hE, ⟨hV, hE, ⟨hV, hE, ⟨hV, hE, ⟨hV, hE, ⟨hV, hE, trivial⟩⟩⟩⟩⟩⟩⟩⟩⟩⟩⟩⟩⟩⟩⟩⟩⟩⟩⟩⟩⟩⟩⟩⟩⟩⟩⟩⟩⟩⟩⟩⟩⟩⟩⟩⟩⟩⟩⟩⟩⟩⟩⟩⟩⟩⟩⟩⟩⟩
   ·exact trivial
   ·refine ⟨?_, ⟨?_, ⟨?_, ⟨?_, ⟨?_, ⟨?_, ⟨?_, ⟨?_, ⟨?_, ⟨?_, ⟨?_, ⟨?_, ⟨?_, ⟨?_, ⟨?_, ⟨?_, ⟨?_, ⟨?_, ⟨?_, ⟨?_, ⟨?_, ⟨?_, ⟨?_, ⟨?_, ⟨?_, ⟨?_, ⟨?_, ⟨?_, ⟨?_, ⟨?_, ⟨?_, ⟨?_, ⟨?_, ⟨?_, ⟨?_, ⟨?_, ⟨?_, ⟨?_, ⟨?_, ⟨?_, ⟨?_, ⟨?_, ⟨?_, ⟨?_, ⟨?_, ⟨?_, ⟨?_, ⟨?_, ⟨?_, trivial⟩⟩⟩⟩⟩⟩⟩⟩⟩⟩⟩⟩⟩⟩⟩⟩⟩⟩⟩⟩⟩⟩⟩⟩⟩⟩⟩⟩⟩⟩⟩⟩⟩⟩⟩⟩⟩⟩⟩⟩⟩⟩⟩⟩⟩⟩⟩⟩⟩
    ·intro _ b qm _
     rintro _ _ _ _ _ _ _ _ _ _ _ _ _ _ _ _ _ _ _ _ _ _ _ _ _ _ _ _ _ _ _ _ _ _ _ _ _ _ _ _ _ _ _ _ _ _ _ _ _
     show WL _ _ _ _ _ _ _
     refine mw (vi k) ?_
     exact f1
    ·intro _ b qn _
     rintro _ _ _ _ _ _ _ _ _ _ _ _ _ _ _ _ _ _ _ _ _ _ _ _ _ _ _ _ _ _ _ _ _ _ _ _ _ _ _ _ _ _ _ _ _ _ _ _ _
     show WL _ _ _ _ _ _ _
     refine mw (vs aC (i_Pick ((d).1) ((d).2)).length aD) ?_
     exact f1
    ·intro _ b f7 _
     rintro _ _ rfl _ _ _ _ _ _ _ _ _ _ _ _ _ _ _ _ _ _ _ _ _ _ _ _ _ _ _ _ _ _ _ _ _ _ _ _ _ _ _ _ _ _ _ _ _ _ _
     show WL _ _ _ _ _ _ _
     have f8 := (OLv.kp (OLv.kp (OLv.kp (OLv.kp (OLv.kp (OLv.ch (OLv.ch (OLv.kp (OLv.kp (OLv.ch (OLv.ch (OLv.kp (OLv.kp (OLv.kp bi ab) t) r) m (fun g M N hk => by have O := nT ab.size a1; omega)) l (fun g M N hk => by have O := nT (z2 ab t) P; omega)) e) q) p (fun g M N hk => by have O := nT (z6 ab t r m l e) I; omega)) y (fun g M N hk => by have O : Z.heap.size ≤ K.heap.size := (z8 ab t r m l e q p); have bo : K.heap.size ≤ g := hk; omega)) B) C) D) F) f7)
     obtain ⟨qo, f9⟩ := RLv.row (OLv.rl f8)
     refine ln wN slTy_24 f9 ?_
     exact f1
    ·intro _ b qp _
     rintro _ rfl _ rfl _ rfl _ _ _ _ _ _ _ _ _ _ _ _ _ _ _ _ _ _ _ _ _ _ _ _ _ _ _ _ _ _ _ _ _ _ _ _ _ _ _ _ _ _ _ _ _ _
     show WL _ _ _ _ _ _ _
     refine pu (vb (decide (k = ((i_Pick ((d).1) ((d).2)).length : Int)))) wN ?_
     exact f1
    ·intro _ b qq _
     rintro _ rfl _ rfl _ rfl _ rfl _ _ _ _ _ _ _ _ _ _ _ _ _ _ _ _ _ _ _ _ _ _ _ _ _ _ _ _ _ _ _ _ _ _ _ _ _ _ _ _ _ _ _ _ _
     show WL _ _ _ _ _ _ _
     refine mw (vb (decide (k = ((i_Pick ((d).1) ((d).2)).length : Int)))) ?_
     exact f1
    ·intro _ b fA _
     rintro _ rfl _ rfl _ rfl _ rfl _ rfl _ _ _ _ _ _ _ _ _ _ _ _ _ _ _ _ _ _ _ _ _ _ _ _ _ _ _ _ _ _ _ _ _ _ _ _ _ _ _ _ _ _ _ _
     show WL _ _ _ _ _ _ _
     have fB := ((((((((((a7.ch l (nN (nL H (P)))).kp e).kp q).ch p (nN (nL H (nT (z4 r m l e) I)))).ch y (Nat.not_le.2 (nL H (z6 r m l e q p)))).kp B).kp C).kp D).kp F).kp fA)
     refine lN (L_31 ((a).1) Q R S T V W X Y) (wS a0) isAgg_31 sizeOf_31 fB ?_
     exact f1
    ·intro _ b fC _
     rintro _ rfl _ rfl _ rfl _ rfl _ rfl _ _ _ _ _ _ _ _ _ _ _ _ _ _ _ _ _ _ _ _ _ _ _ _ _ _ _ _ _ _ _ _ _ _ _ _ _ _ _ _ _ _ _ _
     show WL _ _ _ _ _ _ _
     have fD := ((((((((((a7.ch l (nN (nL H (P)))).kp e).kp q).ch p (nN (nL H (nT (z4 r m l e) I)))).ch y (Nat.not_le.2 (nL H (z6 r m l e q p)))).kp B).kp C).kp D).kp F).kp fC)
     refine lN (L_31 ((a).1) Q R S T V W X Y) (wS a0) isAgg_31 sizeOf_31 fD ?_
     exact f1
    ·intro _ b fE _
     rintro _ rfl _ rfl _ rfl _ rfl _ rfl _ rfl _ rfl _ _ _ _ _ _ _ _ _ _ _ _ _ _ _ _ _ _ _ _ _ _ _ _ _ _ _ _ _ _ _ _ _ _ _ _ _ _ _ _ _ _
     show WL _ _ _ _ _ _ _
     have cd := fun (E sz n : Nat) (v : Value) (G : List Value) (o : World.ownsRow L Z.heap.size E sz v n G) (s : World.ownsRow L Z.heap.size E sz v n G) => (own_kp (own_kp (own_kp (own_kp (own_kp (own_ch (own_ch (own_kp (own_kp (own_ch (own_ch (own_kp (own_kp o t) r) m (ne2 s (a1))) l (ne2 s (nT t.size P))) e) q) p (ne2 s (nT (z5 t r m l e) I))) y (fun g hg hlt hk => by have M := (own_lt s g hg).2; have N : L.heap.size ≤ K.heap.size := (z7 t r m l e q p); have O : K.heap.size ≤ g := hk; omega)) B) C) D) F) fE)
     have cY := (cd _ _ _ _ _ ac ac)
     have cZ := (cd _ _ _ _ _ ad ad)
     have da := (cd _ _ _ _ _ ae ae)
     have db := (cd _ _ _ _ _ af af)
     refine cl (wS a0) (ciSameNote b _ ((a).1) (mR_31 (Rd.of_own cY) a3 (Rd.of_own cZ) a4 (Rd.of_own da) a5 (Rd.of_own db) a6) _ ((a).1) (mR_31 (Rd.of_own cY) a3 (Rd.of_own cZ) a4 (Rd.of_own da) a5 (Rd.of_own db) a6)) ?_
     rintro _ a2 ⟨fF, rfl⟩
     exact wl_finT fF rfl
    ·intro _ b qr _
     rintro _ rfl _ rfl _ rfl _ rfl _ rfl _ rfl _ rfl _ rfl _ _ _ _ _ _ _ _ _ _ _ _ _ _ _ _ _ _ _ _ _ _ _ _ _ _ _ _ _ _ _ _ _ _ _ _ _ _ _ _ _
     show WL _ _ _ _ _ _ _
     refine pk (vb (i_SameNote ((a).1) ((a).1))) wN a0 ?_
     exact f1
    ·intro _ b qs _
     rintro _ rfl _ rfl _ rfl _ rfl _ rfl _ rfl _ rfl _ rfl _ rfl _ _ _ _ _ _ _ _ _ _ _ _ _ _ _ _ _ _ _ _ _ _ _ _ _ _ _ _ _ _ _ _ _ _ _ _ _ _ _ _
     show WL _ _ _ _ _ _ _
     refine mw (vb (i_SameNote ((a).1) ((a).1))) ?_
     exact f1
    ·intro _ b fG _
     rintro _ rfl _ rfl _ rfl _ rfl _ rfl _ rfl _ rfl _ rfl _ rfl _ rfl _ _ _ _ _ _ _ _ _ _ _ _ _ _ _ _ _ _ _ _ _ _ _ _ _ _ _ _ _ _ _ _ _ _ _ _ _ _ _
     show WL _ _ _ _ _ _ _
     have fH := ((((((((((a7.ch l (nN (nL H (P)))).kp e).kp q).ch p (nN (nL H (nT (z4 r m l e) I)))).ch y (Nat.not_le.2 (nL H (z6 r m l e q p)))).kp B).kp C).kp D).kp F).kp fG)
     refine lN (L_31 ((a).1) Q R S T V W X Y) (wS aa) isAgg_31 sizeOf_31 fH ?_
     exact f1
    ·intro _ b fI _
     rintro _ rfl _ rfl _ rfl _ rfl _ rfl _ rfl _ rfl _ rfl _ rfl _ rfl _ _ _ _ _ _ _ _ _ _ _ _ _ _ _ _ _ _ _ _ _ _ _ _ _ _ _ _ _ _ _ _ _ _ _ _ _ _ _
     show WL _ _ _ _ _ _ _
     have fJ := (((((((((aK.kp e).kp q).ch p (nN (nL az (nT (z3 m l e) I)))).ch y (Nat.not_le.2 (nL az (z5 m l e q p)))).kp B).kp C).kp D).kp F).kp fI)
     refine lN (L_31 ((a).2) ai aj ak am an ao ap aq) (wS aa) isAgg_31 sizeOf_31 fJ ?_
     exact f1
    ·intro _ b fK _
     rintro _ rfl _ rfl _ rfl _ rfl _ rfl _ rfl _ rfl _ rfl _ rfl _ rfl _ rfl _ rfl _ _ _ _ _ _ _ _ _ _ _ _ _ _ _ _ _ _ _ _ _ _ _ _ _ _ _ _ _ _ _ _ _ _ _ _ _
     show WL _ _ _ _ _ _ _
     have b7 := fun (E sz n : Nat) (v : Value) (G : List Value) (o : World.ownsRow L Z.heap.size E sz v n G) (s : World.ownsRow L Z.heap.size E sz v n G) => (own_kp (own_kp (own_kp (own_kp (own_kp (own_ch (own_ch (own_kp (own_kp (own_ch (own_ch (own_kp (own_kp o t) r) m (ne2 s (a1))) l (ne2 s (nT t.size P))) e) q) p (ne2 s (nT (z5 t r m l e) I))) y (fun g hg hlt hk => by have M := (own_lt s g hg).2; have N : L.heap.size ≤ K.heap.size := (z7 t r m l e q p); have O : K.heap.size ≤ g := hk; omega)) B) C) D) F) fK)
     have fL := (b7 _ _ _ _ _ ac ac)
     have fM := (b7 _ _ _ _ _ ad ad)
     have fN := (b7 _ _ _ _ _ ae ae)
     have fO := (b7 _ _ _ _ _ af af)
     have fP := (b7 _ _ _ _ _ au au)
     have fQ := (b7 _ _ _ _ _ av av)
     have fR := (b7 _ _ _ _ _ ax ax)
     have fS := (b7 _ _ _ _ _ ay ay)
     refine cl (wS aa) (ciSameNote b _ ((a).1) (mR_31 (Rd.of_own fL) a3 (Rd.of_own fM) a4 (Rd.of_own fN) a5 (Rd.of_own fO) a6) _ ((a).2) (mR_31 (Rd.of_own fP) aG (Rd.of_own fQ) aH (Rd.of_own fR) aI (Rd.of_own fS) aJ)) ?_
     rintro _ a2 ⟨fT, rfl⟩
     exact wl_finT fT rfl
    ·intro _ b fU _
     rintro _ rfl _ rfl _ rfl _ rfl _ rfl _ rfl _ rfl _ rfl _ rfl _ rfl _ _ _ _ _ _ _ _ _ _ _ _ _ _ _ _ _ _ _ _ _ _ _ _ _ _ _ _ _ _ _ _ _ _ _ _ _ _ _
     show WL _ _ _ _ _ _ _
     have fV := ((((((((((a7.ch l (nN (nL H (P)))).kp e).kp q).ch p (nN (nL H (nT (z4 r m l e) I)))).ch y (Nat.not_le.2 (nL H (z6 r m l e q p)))).kp B).kp C).kp D).kp F).kp fU)
     refine lN (L_31 ((a).1) Q R S T V W X Y) (wS aa) isAgg_31 sizeOf_31 fV ?_
     exact f1
    ·intro _ b fW _
     rintro _ rfl _ rfl _ rfl _ rfl _ rfl _ rfl _ rfl _ rfl _ rfl _ rfl _ _ _ _ _ _ _ _ _ _ _ _ _ _ _ _ _ _ _ _ _ _ _ _ _ _ _ _ _ _ _ _ _ _ _ _ _ _ _
     show WL _ _ _ _ _ _ _
     have fX := (((((((((aK.kp e).kp q).ch p (nN (nL az (nT (z3 m l e) I)))).ch y (Nat.not_le.2 (nL az (z5 m l e q p)))).kp B).kp C).kp D).kp F).kp fW)
     refine lN (L_31 ((a).2) ai aj ak am an ao ap aq) (wS aa) isAgg_31 sizeOf_31 fX ?_
     exact f1
    ·intro _ b fY _
     rintro _ rfl _ rfl _ rfl _ rfl _ rfl _ rfl _ rfl _ rfl _ rfl _ rfl _ rfl _ rfl _ rfl _ rfl _ rfl _ _ _ _ _ _ _ _ _ _ _ _ _ _ _ _ _ _ _ _ _ _ _ _ _ _ _ _ _ _ _ _ _ _
     show WL _ _ _ _ _ _ _
     have b8 := fun (E sz n : Nat) (v : Value) (G : List Value) (o : World.ownsRow L Z.heap.size E sz v n G) (s : World.ownsRow L Z.heap.size E sz v n G) => (own_kp (own_kp (own_kp (own_kp (own_kp (own_ch (own_ch (own_kp (own_kp (own_ch (own_ch (own_kp (own_kp o t) r) m (ne2 s (a1))) l (ne2 s (nT t.size P))) e) q) p (ne2 s (nT (z5 t r m l e) I))) y (fun g hg hlt hk => by have M := (own_lt s g hg).2; have N : L.heap.size ≤ K.heap.size := (z7 t r m l e q p); have O : K.heap.size ≤ g := hk; omega)) B) C) D) F) fY)
     have fZ := (b8 _ _ _ _ _ ac ac)
     have ga := (b8 _ _ _ _ _ ad ad)
     have gb := (b8 _ _ _ _ _ ae ae)
     have gd := (b8 _ _ _ _ _ af af)
     have ge := (b8 _ _ _ _ _ au au)
     have gf := (b8 _ _ _ _ _ av av)
     have gg := (b8 _ _ _ _ _ ax ax)
     have gh := (b8 _ _ _ _ _ ay ay)
     refine cl (wS aa) (csSameNote b _ ((a).1) (mR_31 (Rd.of_own fZ) a3 (Rd.of_own ga) a4 (Rd.of_own gb) a5 (Rd.of_own gd) a6) _ ((a).2) (mR_31 (Rd.of_own ge) aG (Rd.of_own gf) aH (Rd.of_own gg) aI (Rd.of_own gh) aJ)) ?_
     rintro _ a2 ⟨gi, rfl⟩
     exact wl_finT gi rfl
    ·intro _ b qt _
     rintro _ rfl _ rfl _ rfl _ rfl _ rfl _ rfl _ rfl _ rfl _ rfl _ rfl _ rfl _ rfl _ rfl _ rfl _ rfl _ rfl _ _ _ _ _ _ _ _ _ _ _ _ _ _ _ _ _ _ _ _ _ _ _ _ _ _ _ _ _ _ _ _ _
     show WL _ _ _ _ _ _ _
     refine pu (vb ((i_SameNote ((a).1) ((a).2)) == (s_SameNote ((a).1) ((a).2)))) (wS aa) ?_
     exact f1
    ·intro _ b qu _
     rintro _ rfl _ rfl _ rfl _ rfl _ rfl _ rfl _ rfl _ rfl _ rfl _ rfl _ rfl _ rfl _ rfl _ rfl _ rfl _ rfl _ rfl _ _ _ _ _ _ _ _ _ _ _ _ _ _ _ _ _ _ _ _ _ _ _ _ _ _ _ _ _ _ _ _
     show WL _ _ _ _ _ _ _
     refine pk (vb ((i_SameNote ((a).1) ((a).2)) == (s_SameNote ((a).1) ((a).2)))) wN aa ?_
     exact f1
    ·intro _ b qv _
     rintro _ rfl _ rfl _ rfl _ rfl _ rfl _ rfl _ rfl _ rfl _ rfl _ rfl _ rfl _ rfl _ rfl _ rfl _ rfl _ rfl _ rfl _ rfl _ _ _ _ _ _ _ _ _ _ _ _ _ _ _ _ _ _ _ _ _ _ _ _ _ _ _ _ _ _ _
     show WL _ _ _ _ _ _ _
     refine mw (vb ((i_SameNote ((a).1) ((a).2)) == (s_SameNote ((a).1) ((a).2)))) ?_
     exact f1
    ·intro _ b gj _
     rintro _ rfl _ rfl _ rfl _ rfl _ rfl _ rfl _ rfl _ rfl _ rfl _ rfl _ rfl _ rfl _ rfl _ rfl _ rfl _ rfl _ rfl _ rfl _ rfl _ _ _ _ _ _ _ _ _ _ _ _ _ _ _ _ _ _ _ _ _ _ _ _ _ _ _ _ _ _
     show WL _ _ _ _ _ _ _
     have gk := (((((((((aK.kp e).kp q).ch p (nN (nL az (nT (z3 m l e) I)))).ch y (Nat.not_le.2 (nL az (z5 m l e q p)))).kp B).kp C).kp D).kp F).kp gj)
     refine lN (L_31 ((a).2) ai aj ak am an ao ap aq) (wS ah) isAgg_31 sizeOf_31 gk ?_
     exact f1
    ·intro _ b gl _
     rintro _ rfl _ rfl _ rfl _ rfl _ rfl _ rfl _ rfl _ rfl _ rfl _ rfl _ rfl _ rfl _ rfl _ rfl _ rfl _ rfl _ rfl _ rfl _ rfl _ _ _ _ _ _ _ _ _ _ _ _ _ _ _ _ _ _ _ _ _ _ _ _ _ _ _ _ _ _
     show WL _ _ _ _ _ _ _
     have gm := ((((((((((a7.ch l (nN (nL H (P)))).kp e).kp q).ch p (nN (nL H (nT (z4 r m l e) I)))).ch y (Nat.not_le.2 (nL H (z6 r m l e q p)))).kp B).kp C).kp D).kp F).kp gl)
     refine lN (L_31 ((a).1) Q R S T V W X Y) (wS ah) isAgg_31 sizeOf_31 gm ?_
     exact f1
    ·intro _ b gn _
     rintro _ rfl _ rfl _ rfl _ rfl _ rfl _ rfl _ rfl _ rfl _ rfl _ rfl _ rfl _ rfl _ rfl _ rfl _ rfl _ rfl _ rfl _ rfl _ rfl _ rfl _ rfl _ _ _ _ _ _ _ _ _ _ _ _ _ _ _ _ _ _ _ _ _ _ _ _ _ _ _ _
     show WL _ _ _ _ _ _ _
     have b9 := fun (E sz n : Nat) (v : Value) (G : List Value) (o : World.ownsRow L Z.heap.size E sz v n G) (s : World.ownsRow L Z.heap.size E sz v n G) => (own_kp (own_kp (own_kp (own_kp (own_kp (own_ch (own_ch (own_kp (own_kp (own_ch (own_ch (own_kp (own_kp o t) r) m (ne2 s (a1))) l (ne2 s (nT t.size P))) e) q) p (ne2 s (nT (z5 t r m l e) I))) y (fun g hg hlt hk => by have M := (own_lt s g hg).2; have N : L.heap.size ≤ K.heap.size := (z7 t r m l e q p); have O : K.heap.size ≤ g := hk; omega)) B) C) D) F) gn)
     have gp := (b9 _ _ _ _ _ au au)
     have gq := (b9 _ _ _ _ _ av av)
     have gr := (b9 _ _ _ _ _ ax ax)
     have gs := (b9 _ _ _ _ _ ay ay)
     have gt := (b9 _ _ _ _ _ ac ac)
     have gu := (b9 _ _ _ _ _ ad ad)
     have gv := (b9 _ _ _ _ _ ae ae)
     have gw := (b9 _ _ _ _ _ af af)
     refine cl (wS ah) (ciSameNote b _ ((a).2) (mR_31 (Rd.of_own gp) aG (Rd.of_own gq) aH (Rd.of_own gr) aI (Rd.of_own gs) aJ) _ ((a).1) (mR_31 (Rd.of_own gt) a3 (Rd.of_own gu) a4 (Rd.of_own gv) a5 (Rd.of_own gw) a6)) ?_
     rintro _ a2 ⟨gx, rfl⟩
     exact wl_finT gx rfl
    ·intro _ b gy _
     rintro _ rfl _ rfl _ rfl _ rfl _ rfl _ rfl _ rfl _ rfl _ rfl _ rfl _ rfl _ rfl _ rfl _ rfl _ rfl _ rfl _ rfl _ rfl _ rfl _ _ _ _ _ _ _ _ _ _ _ _ _ _ _ _ _ _ _ _ _ _ _ _ _ _ _ _ _ _
     show WL _ _ _ _ _ _ _
     have gz := ((((((((((a7.ch l (nN (nL H (P)))).kp e).kp q).ch p (nN (nL H (nT (z4 r m l e) I)))).ch y (Nat.not_le.2 (nL H (z6 r m l e q p)))).kp B).kp C).kp D).kp F).kp gy)
     refine lN (L_31 ((a).1) Q R S T V W X Y) (wS ah) isAgg_31 sizeOf_31 gz ?_
     exact f1
    ·intro _ b g0 _
     rintro _ rfl _ rfl _ rfl _ rfl _ rfl _ rfl _ rfl _ rfl _ rfl _ rfl _ rfl _ rfl _ rfl _ rfl _ rfl _ rfl _ rfl _ rfl _ rfl _ _ _ _ _ _ _ _ _ _ _ _ _ _ _ _ _ _ _ _ _ _ _ _ _ _ _ _ _ _
     show WL _ _ _ _ _ _ _
     have g1 := (((((((((aK.kp e).kp q).ch p (nN (nL az (nT (z3 m l e) I)))).ch y (Nat.not_le.2 (nL az (z5 m l e q p)))).kp B).kp C).kp D).kp F).kp g0)
     refine lN (L_31 ((a).2) ai aj ak am an ao ap aq) (wS ah) isAgg_31 sizeOf_31 g1 ?_
     exact f1
    ·intro _ b g2 _
     rintro _ rfl _ rfl _ rfl _ rfl _ rfl _ rfl _ rfl _ rfl _ rfl _ rfl _ rfl _ rfl _ rfl _ rfl _ rfl _ rfl _ rfl _ rfl _ rfl _ rfl _ rfl _ rfl _ rfl _ rfl _ _ _ _ _ _ _ _ _ _ _ _ _ _ _ _ _ _ _ _ _ _ _ _ _
     show WL _ _ _ _ _ _ _
     have bA := fun (E sz n : Nat) (v : Value) (G : List Value) (o : World.ownsRow L Z.heap.size E sz v n G) (s : World.ownsRow L Z.heap.size E sz v n G) => (own_kp (own_kp (own_kp (own_kp (own_kp (own_ch (own_ch (own_kp (own_kp (own_ch (own_ch (own_kp (own_kp o t) r) m (ne2 s (a1))) l (ne2 s (nT t.size P))) e) q) p (ne2 s (nT (z5 t r m l e) I))) y (fun g hg hlt hk => by have M := (own_lt s g hg).2; have N : L.heap.size ≤ K.heap.size := (z7 t r m l e q p); have O : K.heap.size ≤ g := hk; omega)) B) C) D) F) g2)
     have g3 := (bA _ _ _ _ _ ac ac)
     have g4 := (bA _ _ _ _ _ ad ad)
     have g5 := (bA _ _ _ _ _ ae ae)
     have g6 := (bA _ _ _ _ _ af af)
     have g7 := (bA _ _ _ _ _ au au)
     have g8 := (bA _ _ _ _ _ av av)
     have g9 := (bA _ _ _ _ _ ax ax)
     have gA := (bA _ _ _ _ _ ay ay)
     refine cl (wS ah) (ciSameNote b _ ((a).1) (mR_31 (Rd.of_own g3) a3 (Rd.of_own g4) a4 (Rd.of_own g5) a5 (Rd.of_own g6) a6) _ ((a).2) (mR_31 (Rd.of_own g7) aG (Rd.of_own g8) aH (Rd.of_own g9) aI (Rd.of_own gA) aJ)) ?_
     rintro _ a2 ⟨gB, rfl⟩
     exact wl_finT gB rfl
    ·intro _ b qw _
     rintro _ rfl _ rfl _ rfl _ rfl _ rfl _ rfl _ rfl _ rfl _ rfl _ rfl _ rfl _ rfl _ rfl _ rfl _ rfl _ rfl _ rfl _ rfl _ rfl _ rfl _ rfl _ rfl _ rfl _ rfl _ rfl _ _ _ _ _ _ _ _ _ _ _ _ _ _ _ _ _ _ _ _ _ _ _ _
     show WL _ _ _ _ _ _ _
     refine pu (vb ((i_SameNote ((a).2) ((a).1)) == (i_SameNote ((a).1) ((a).2)))) (wS ah) ?_
     exact f1
    ·intro _ b qx _
     rintro _ rfl _ rfl _ rfl _ rfl _ rfl _ rfl _ rfl _ rfl _ rfl _ rfl _ rfl _ rfl _ rfl _ rfl _ rfl _ rfl _ rfl _ rfl _ rfl _ rfl _ rfl _ rfl _ rfl _ rfl _ rfl _ rfl _ _ _ _ _ _ _ _ _ _ _ _ _ _ _ _ _ _ _ _ _ _ _
     show WL _ _ _ _ _ _ _
     refine pk (vb ((i_SameNote ((a).2) ((a).1)) == (i_SameNote ((a).1) ((a).2)))) wN ah ?_
     exact f1
    ·intro _ b qy _
     rintro _ rfl _ rfl _ rfl _ rfl _ rfl _ rfl _ rfl _ rfl _ rfl _ rfl _ rfl _ rfl _ rfl _ rfl _ rfl _ rfl _ rfl _ rfl _ rfl _ rfl _ rfl _ rfl _ rfl _ rfl _ rfl _ rfl _ rfl _ _ _ _ _ _ _ _ _ _ _ _ _ _ _ _ _ _ _ _ _ _
     show WL _ _ _ _ _ _ _
     refine mw (vb ((i_SameNote ((a).2) ((a).1)) == (i_SameNote ((a).1) ((a).2)))) ?_
     exact f1
    ·intro _ b qz _
     rintro _ rfl _ rfl _ rfl _ rfl _ rfl _ rfl _ rfl _ rfl _ rfl _ rfl _ rfl _ rfl _ rfl _ rfl _ rfl _ rfl _ rfl _ rfl _ rfl _ rfl _ rfl _ rfl _ rfl _ rfl _ rfl _ rfl _ rfl _ rfl _ _ _ _ _ _ _ _ _ _ _ _ _ _ _ _ _ _ _ _ _
     show WL _ _ _ _ _ _ _
     refine sk a8 ?_
     exact f1
    ·intro _ b q0 _
     rintro _ rfl _ rfl _ rfl _ rfl _ rfl _ rfl _ rfl _ rfl _ rfl _ rfl _ rfl _ rfl _ rfl _ rfl _ rfl _ rfl _ rfl _ rfl _ rfl _ rfl _ rfl _ rfl _ rfl _ rfl _ rfl _ rfl _ rfl _ rfl _ rfl _ _ _ _ _ _ _ _ _ _ _ _ _ _ _ _ _ _ _ _
     show WL _ _ _ _ _ _ _
     refine sk a8 ?_
     exact f1
    ·intro _ b q1 _
     rintro _ rfl _ rfl _ rfl _ rfl _ rfl _ rfl _ rfl _ rfl _ rfl _ rfl _ rfl _ rfl _ rfl _ rfl _ rfl _ rfl _ rfl _ rfl _ rfl _ rfl _ rfl _ rfl _ rfl _ rfl _ rfl _ rfl _ rfl _ rfl _ _ _ _ _ _ _ _ _ _ _ _ _ _ _ _ _ _ _ _ _
     show WL _ _ _ _ _ _ _
     refine sk a8 ?_
     exact f1
    ·intro _ b q2 _
     rintro _ rfl _ rfl _ rfl _ rfl _ rfl _ rfl _ rfl _ rfl _ rfl _ rfl _ rfl _ rfl _ rfl _ rfl _ rfl _ rfl _ rfl _ rfl _ rfl _ rfl _ rfl _ rfl _ rfl _ rfl _ rfl _ rfl _ rfl _ rfl _ rfl _ rfl _ rfl _ _ _ _ _ _ _ _ _ _ _ _ _ _ _ _ _ _
     show WL _ _ _ _ _ _ _
     refine sk a8 ?_
     exact f1
    ·intro _ b q3 _
     rintro _ rfl _ rfl _ rfl _ rfl _ rfl _ rfl _ rfl _ rfl _ rfl _ rfl _ rfl _ rfl _ rfl _ rfl _ rfl _ rfl _ rfl _ rfl _ rfl _ rfl _ rfl _ rfl _ rfl _ rfl _ rfl _ rfl _ rfl _ rfl _ rfl _ rfl _ rfl _ rfl _ _ _ _ _ _ _ _ _ _ _ _ _ _ _ _ _
     show WL _ _ _ _ _ _ _
     refine sk a8 ?_
     exact f1
    ·intro _ b q4 _
     rintro _ rfl _ rfl _ rfl _ rfl _ rfl _ rfl _ rfl _ rfl _ rfl _ rfl _ rfl _ rfl _ rfl _ rfl _ rfl _ rfl _ rfl _ rfl _ rfl _ rfl _ rfl _ rfl _ rfl _ rfl _ rfl _ rfl _ rfl _ rfl _ rfl _ rfl _ rfl _ rfl _ rfl _ _ _ _ _ _ _ _ _ _ _ _ _ _ _ _
     show WL _ _ _ _ _ _ _
     refine pf (vb false) wN a8 ?_
     exact f1
    ·intro _ b q5 _
     rintro _ rfl _ rfl _ rfl _ rfl _ rfl _ rfl _ rfl _ rfl _ rfl _ rfl _ rfl _ rfl _ rfl _ rfl _ rfl _ rfl _ rfl _ rfl _ rfl _ rfl _ rfl _ rfl _ rfl _ rfl _ rfl _ rfl _ rfl _ rfl _ rfl _ rfl _ rfl _ rfl _ rfl _ rfl _ _ _ _ _ _ _ _ _ _ _ _ _ _ _
     show WL _ _ _ _ _ _ _
     refine mw (vb false) ?_
     exact f1
    ·intro _ b q6 _
     rintro _ rfl _ rfl _ rfl _ rfl _ rfl _ rfl _ rfl _ rfl _ rfl _ rfl _ rfl _ rfl _ rfl _ rfl _ rfl _ rfl _ rfl _ rfl _ rfl _ rfl _ rfl _ rfl _ rfl _ rfl _ rfl _ rfl _ rfl _ rfl _ rfl _ rfl _ rfl _ rfl _ rfl _ rfl _ rfl _ _ _ _ _ _ _ _ _ _ _ _ _ _
     show WL _ _ _ _ _ _ _
     refine sk F1 ?_
     exact f1
    ·intro _ b q7 _
     rintro _ rfl _ rfl _ rfl _ rfl _ rfl _ rfl _ rfl _ rfl _ rfl _ rfl _ rfl _ rfl _ rfl _ rfl _ rfl _ rfl _ rfl _ rfl _ rfl _ rfl _ rfl _ rfl _ rfl _ rfl _ rfl _ rfl _ rfl _ rfl _ rfl _ rfl _ rfl _ rfl _ rfl _ rfl _ rfl _ rfl _ _ _ _ _ _ _ _ _ _ _ _ _
     show WL _ _ _ _ _ _ _
     refine sk F1 ?_
     exact f1
    ·intro _ b q8 _
     rintro _ rfl _ rfl _ rfl _ rfl _ rfl _ rfl _ rfl _ rfl _ rfl _ rfl _ rfl _ rfl _ rfl _ rfl _ rfl _ rfl _ rfl _ rfl _ rfl _ rfl _ rfl _ rfl _ rfl _ rfl _ rfl _ rfl _ rfl _ rfl _ rfl _ rfl _ rfl _ rfl _ rfl _ rfl _ rfl _ rfl _ rfl _ _ _ _ _ _ _ _ _ _ _ _
     show WL _ _ _ _ _ _ _
     refine sk F1 ?_
     exact f1
    ·intro _ b q9 _
     rintro _ rfl _ rfl _ rfl _ rfl _ rfl _ rfl _ rfl _ rfl _ rfl _ rfl _ rfl _ rfl _ rfl _ rfl _ rfl _ rfl _ rfl _ rfl _ rfl _ rfl _ rfl _ rfl _ rfl _ rfl _ rfl _ rfl _ rfl _ rfl _ rfl _ rfl _ rfl _ rfl _ rfl _ rfl _ rfl _ rfl _ rfl _ rfl _ _ _ _ _ _ _ _ _ _ _
     show WL _ _ _ _ _ _ _
     refine su ?_
     exact f1
    ·intro _ b qA _
     rintro _ rfl _ rfl _ rfl _ rfl _ rfl _ rfl _ rfl _ rfl _ rfl _ rfl _ rfl _ rfl _ rfl _ rfl _ rfl _ rfl _ rfl _ rfl _ rfl _ rfl _ rfl _ rfl _ rfl _ rfl _ rfl _ rfl _ rfl _ rfl _ rfl _ rfl _ rfl _ rfl _ rfl _ rfl _ rfl _ rfl _ rfl _ rfl _ _ _ _ _ _ _ _ _ _ _
     show WL _ _ _ _ _ _ _
     refine su ?_
     exact f1
    ·intro _ b qB _
     rintro _ rfl _ rfl _ rfl _ rfl _ rfl _ rfl _ rfl _ rfl _ rfl _ rfl _ rfl _ rfl _ rfl _ rfl _ rfl _ rfl _ rfl _ rfl _ rfl _ rfl _ rfl _ rfl _ rfl _ rfl _ rfl _ rfl _ rfl _ rfl _ rfl _ rfl _ rfl _ rfl _ rfl _ rfl _ rfl _ rfl _ rfl _ rfl _ rfl _ rfl _ _ _ _ _ _ _ _ _
     show WL _ _ _ _ _ _ _
     refine su ?_
     exact f1
    ·intro _ b qC _
     rintro _ rfl _ rfl _ rfl _ rfl _ rfl _ rfl _ rfl _ rfl _ rfl _ rfl _ rfl _ rfl _ rfl _ rfl _ rfl _ rfl _ rfl _ rfl _ rfl _ rfl _ rfl _ rfl _ rfl _ rfl _ rfl _ rfl _ rfl _ rfl _ rfl _ rfl _ rfl _ rfl _ rfl _ rfl _ rfl _ rfl _ rfl _ rfl _ rfl _ rfl _ rfl _ _ _ _ _ _ _ _
     show WL _ _ _ _ _ _ _
     refine sk F1 ?_
     exact f1
    ·intro _ b qD _
     rintro _ rfl _ rfl _ rfl _ rfl _ rfl _ rfl _ rfl _ rfl _ rfl _ rfl _ rfl _ rfl _ rfl _ rfl _ rfl _ rfl _ rfl _ rfl _ rfl _ rfl _ rfl _ rfl _ rfl _ rfl _ rfl _ rfl _ rfl _ rfl _ rfl _ rfl _ rfl _ rfl _ rfl _ rfl _ rfl _ rfl _ rfl _ rfl _ rfl _ rfl _ rfl _ rfl _ _ _ _ _ _ _
     show WL _ _ _ _ _ _ _
     refine sk F1 ?_
     exact f1
    ·intro _ b qE _
     rintro _ rfl _ rfl _ rfl _ rfl _ rfl _ rfl _ rfl _ rfl _ rfl _ rfl _ rfl _ rfl _ rfl _ rfl _ rfl _ rfl _ rfl _ rfl _ rfl _ rfl _ rfl _ rfl _ rfl _ rfl _ rfl _ rfl _ rfl _ rfl _ rfl _ rfl _ rfl _ rfl _ rfl _ rfl _ rfl _ rfl _ rfl _ rfl _ rfl _ rfl _ rfl _ rfl _ rfl _ _ _ _ _ _
     show WL _ _ _ _ _ _ _
     refine su ?_
     exact f1
    ·intro _ b qF _
     rintro _ rfl _ rfl _ rfl _ rfl _ rfl _ rfl _ rfl _ rfl _ rfl _ rfl _ rfl _ rfl _ rfl _ rfl _ rfl _ rfl _ rfl _ rfl _ rfl _ rfl _ rfl _ rfl _ rfl _ rfl _ rfl _ rfl _ rfl _ rfl _ rfl _ rfl _ rfl _ rfl _ rfl _ rfl _ rfl _ rfl _ rfl _ rfl _ rfl _ rfl _ rfl _ rfl _ rfl _ rfl _ _ _ _ _
     show WL _ _ _ _ _ _ _
     refine su ?_
     exact f1
    ·intro _ b qG _
     rintro _ rfl _ rfl _ rfl _ rfl _ rfl _ rfl _ rfl _ rfl _ rfl _ rfl _ rfl _ rfl _ rfl _ rfl _ rfl _ rfl _ rfl _ rfl _ rfl _ rfl _ rfl _ rfl _ rfl _ rfl _ rfl _ rfl _ rfl _ rfl _ rfl _ rfl _ rfl _ rfl _ rfl _ rfl _ rfl _ rfl _ rfl _ rfl _ rfl _ rfl _ rfl _ rfl _ rfl _ rfl _ rfl _ _ _ _
     show WL _ _ _ _ _ _ _
     refine su ?_
     exact f1
    ·intro _ b qH _
     rintro _ rfl _ rfl _ rfl _ rfl _ rfl _ rfl _ rfl _ rfl _ rfl _ rfl _ rfl _ rfl _ rfl _ rfl _ rfl _ rfl _ rfl _ rfl _ rfl _ rfl _ rfl _ rfl _ rfl _ rfl _ rfl _ rfl _ rfl _ rfl _ rfl _ rfl _ rfl _ rfl _ rfl _ rfl _ rfl _ rfl _ rfl _ rfl _ rfl _ rfl _ rfl _ rfl _ rfl _ _ _ _ _ _
     show WL _ _ _ _ _ _ _
     refine su ?_
     exact f1
    ·intro _ b qI _
     rintro _ rfl _ rfl _ rfl _ rfl _ rfl _ rfl _ rfl _ rfl _ rfl _ rfl _ rfl _ rfl _ rfl _ rfl _ rfl _ rfl _ rfl _ rfl _ rfl _ rfl _ rfl _ rfl _ rfl _ rfl _ rfl _ rfl _ rfl _ rfl _ rfl _ rfl _ rfl _ rfl _ rfl _ rfl _ rfl _ rfl _ rfl _ rfl _ rfl _ rfl _ rfl _ rfl _ rfl _ rfl _ rfl _ _ rfl _ _
     show WL _ _ _ _ _ _ _
     refine su ?_
     exact f1
    ·intro _ b qJ _
     rintro _ rfl _ rfl _ rfl _ rfl _ rfl _ rfl _ rfl _ rfl _ rfl _ rfl _ rfl _ rfl _ rfl _ rfl _ rfl _ rfl _ rfl _ rfl _ rfl _ rfl _ rfl _ rfl _ rfl _ rfl _ rfl _ rfl _ rfl _ rfl _ rfl _ rfl _ rfl _ rfl _ rfl _ rfl _ rfl _ rfl _ rfl _ rfl _ rfl _ rfl _ rfl _ rfl _ rfl _ rfl _ rfl _ _ rfl _ rfl _
     show WL _ _ _ _ _ _ _
     refine su ?_
     exact f1
   ·intro _ b gC
    have gD := bq.extk gC
    rintro _ rfl _ rfl _ rfl _ rfl _ rfl _ rfl _ rfl _ rfl _ rfl _ rfl _ rfl _ rfl _ rfl _ rfl _ rfl _ rfl _ rfl _ rfl _ rfl _ rfl _ rfl _ rfl _ rfl _ rfl _ rfl _ rfl _ rfl _ rfl _ rfl _ rfl _ rfl _ rfl _ rfl _ rfl _ rfl _ rfl _ rfl _ rfl _ rfl _ rfl _ rfl _ rfl _ rfl _ rfl _ rfl _ rfl _ rfl _ rfl _ rfl
    show WL _ _ _ _ _ _ _
    refine su ?_
    refine sk F1 ?_
    refine pf (vb false) wN (Eq.refl false) ?_
    refine aw (vb false) ?_
    refine n3 ?_
    refine rt (vb false) ?_
    have gE : ntLaw x d a J = false := by obtain rfl : i = d.1.length := (by omega); subst bh; have hz := allN_t (f := ntG d) (n := d.1.length) (k := d.1.length) bj (by omega); simp only [ntLaw, ntT, ntS, hz, aL, aM, a0, aa, ah, a8, cond_true, cond_false]; try rfl
    exact ⟨d, a, J, gD.keep0, bl, bm, bn, by rw [gE]⟩
  rcases bf ((i_NoteOk (J)) == (s_NoteOk (J))) with a9 | a9
  ·refine wc_drawT ([(69, [], [], (fun _ v _ => v = (vi k))), (70, [], [], (fun _ v _ => v = (vs aC (i_Pick ((d).1) ((d).2)).length aD))), (71, [], [1], (fun _ v _ => v = (vi ((i_Pick ((d).1) ((d).2)).length : Int)))), (72, [], [0, 1, 2], (fun _ v _ => v = (vb (decide (k = ((i_Pick ((d).1) ((d).2)).length : Int)))))), (73, [], [0, 1, 2, 3], (fun _ v _ => v = (vb (decide (k = ((i_Pick ((d).1) ((d).2)).length : Int)))))), (74, [], [0, 1, 2, 3, 4], (fun _ v _ => v = (va (L_31 ((a).1) Q R S T V W X Y)))), (75, [], [0, 1, 2, 3, 4], (fun _ v _ => v = (va (L_31 ((a).1) Q R S T V W X Y)))), (76, [], [0, 1, 2, 3, 4, 5, 6], (fun _ v w => v = .bool (i_SameNote ((a).1) ((a).1)))), (77, [], [0, 1, 2, 3, 4, 5, 6, 7], (fun _ v _ => v = (vb (i_SameNote ((a).1) ((a).1))))), (78, [], [0, 1, 2, 3, 4, 5, 6, 7, 8], (fun _ v _ => v = (vb (i_SameNote ((a).1) ((a).1))))), (79, [], [0, 1, 2, 3, 4, 5, 6, 7, 8, 9], (fun _ v _ => v = (va (L_31 ((a).1) Q R S T V W X Y)))), (80, [], [0, 1, 2, 3, 4, 5, 6, 7, 8, 9], (fun _ v _ => v = (va (L_31 ((a).2) ai aj ak am an ao ap aq)))), (81, [], [0, 1, 2, 3, 4, 5, 6, 7, 8, 9, 10, 11], (fun _ v w => v = .bool (i_SameNote ((a).1) ((a).2)))), (82, [], [0, 1, 2, 3, 4, 5, 6, 7, 8, 9], (fun _ v _ => v = (va (L_31 ((a).1) Q R S T V W X Y)))), (83, [], [0, 1, 2, 3, 4, 5, 6, 7, 8, 9], (fun _ v _ => v = (va (L_31 ((a).2) ai aj ak am an ao ap aq)))), (84, [], [0, 1, 2, 3, 4, 5, 6, 7, 8, 9, 10, 11, 12, 13, 14], (fun _ v w => v = .bool (s_SameNote ((a).1) ((a).2)))), (85, [], [0, 1, 2, 3, 4, 5, 6, 7, 8, 9, 10, 11, 12, 13, 14, 15], (fun _ v _ => v = (vb ((i_SameNote ((a).1) ((a).2)) == (s_SameNote ((a).1) ((a).2)))))), (86, [], [0, 1, 2, 3, 4, 5, 6, 7, 8, 9, 10, 11, 12, 13, 14, 15, 16], (fun _ v _ => v = (vb ((i_SameNote ((a).1) ((a).2)) == (s_SameNote ((a).1) ((a).2)))))), (87, [], [0, 1, 2, 3, 4, 5, 6, 7, 8, 9, 10, 11, 12, 13, 14, 15, 16, 17], (fun _ v _ => v = (vb ((i_SameNote ((a).1) ((a).2)) == (s_SameNote ((a).1) ((a).2)))))), (88, [], [0, 1, 2, 3, 4, 5, 6, 7, 8, 9, 10, 11, 12, 13, 14, 15, 16, 17, 18], (fun _ v _ => v = (va (L_31 ((a).2) ai aj ak am an ao ap aq)))), (89, [], [0, 1, 2, 3, 4, 5, 6, 7, 8, 9, 10, 11, 12, 13, 14, 15, 16, 17, 18], (fun _ v _ => v = (va (L_31 ((a).1) Q R S T V W X Y)))), (90, [], [0, 1, 2, 3, 4, 5, 6, 7, 8, 9, 10, 11, 12, 13, 14, 15, 16, 17, 18, 19, 20], (fun _ v w => v = .bool (i_SameNote ((a).2) ((a).1)))), (91, [], [0, 1, 2, 3, 4, 5, 6, 7, 8, 9, 10, 11, 12, 13, 14, 15, 16, 17, 18], (fun _ v _ => v = (va (L_31 ((a).1) Q R S T V W X Y)))), (92, [], [0, 1, 2, 3, 4, 5, 6, 7, 8, 9, 10, 11, 12, 13, 14, 15, 16, 17, 18], (fun _ v _ => v = (va (L_31 ((a).2) ai aj ak am an ao ap aq)))), (93, [], [0, 1, 2, 3, 4, 5, 6, 7, 8, 9, 10, 11, 12, 13, 14, 15, 16, 17, 18, 19, 20, 21, 22, 23], (fun _ v w => v = .bool (i_SameNote ((a).1) ((a).2)))), (94, [], [0, 1, 2, 3, 4, 5, 6, 7, 8, 9, 10, 11, 12, 13, 14, 15, 16, 17, 18, 19, 20, 21, 22, 23, 24], (fun _ v _ => v = (vb ((i_SameNote ((a).2) ((a).1)) == (i_SameNote ((a).1) ((a).2)))))), (95, [], [0, 1, 2, 3, 4, 5, 6, 7, 8, 9, 10, 11, 12, 13, 14, 15, 16, 17, 18, 19, 20, 21, 22, 23, 24, 25], (fun _ v _ => v = (vb ((i_SameNote ((a).2) ((a).1)) == (i_SameNote ((a).1) ((a).2)))))), (96, [], [0, 1, 2, 3, 4, 5, 6, 7, 8, 9, 10, 11, 12, 13, 14, 15, 16, 17, 18, 19, 20, 21, 22, 23, 24, 25, 26], (fun _ v _ => v = (vb ((i_SameNote ((a).2) ((a).1)) == (i_SameNote ((a).1) ((a).2)))))), (97, [], [0, 1, 2, 3, 4, 5, 6, 7, 8, 9, 10, 11, 12, 13, 14, 15, 16, 17, 18, 19, 20, 21, 22, 23, 24, 25, 26, 27], (fun _ v _ => v = (va (L_31 (J) aP aQ aR aS aT aU aV aW)))), (98, [], [0, 1, 2, 3, 4, 5, 6, 7, 8, 9, 10, 11, 12, 13, 14, 15, 16, 17, 18, 19, 20, 21, 22, 23, 24, 25, 26, 27, 28], (fun _ v w => v = .bool (i_NoteOk (J)))), (99, [], [0, 1, 2, 3, 4, 5, 6, 7, 8, 9, 10, 11, 12, 13, 14, 15, 16, 17, 18, 19, 20, 21, 22, 23, 24, 25, 26, 27], (fun _ v _ => v = (va (L_31 (J) aP aQ aR aS aT aU aV aW)))), (100, [], [0, 1, 2, 3, 4, 5, 6, 7, 8, 9, 10, 11, 12, 13, 14, 15, 16, 17, 18, 19, 20, 21, 22, 23, 24, 25, 26, 27, 28, 29, 30], (fun _ v w => v = .bool (s_NoteOk (J)))), (101, [], [0, 1, 2, 3, 4, 5, 6, 7, 8, 9, 10, 11, 12, 13, 14, 15, 16, 17, 18, 19, 20, 21, 22, 23, 24, 25, 26, 27, 28, 29, 30, 31], (fun _ v _ => v = (vb ((i_NoteOk (J)) == (s_NoteOk (J)))))), (102, [], [0, 1, 2, 3, 4, 5, 6, 7, 8, 9, 10, 11, 12, 13, 14, 15, 16, 17, 18, 19, 20, 21, 22, 23, 24, 25, 26, 27, 28, 29, 30, 31, 32], (fun _ v _ => v = (vb ((i_NoteOk (J)) == (s_NoteOk (J)))))), (103, [], [0, 1, 2, 3, 4, 5, 6, 7, 8, 9, 10, 11, 12, 13, 14, 15, 16, 17, 18, 19, 20, 21, 22, 23, 24, 25, 26, 27, 28, 29, 30, 31, 32, 33], (fun _ v _ => v = (vb ((i_NoteOk (J)) == (s_NoteOk (J)))))), (104, [], [0, 1, 2, 3, 4, 5, 6, 7, 8, 9, 10, 11, 12, 13, 14, 15, 16, 17, 18, 19, 20, 21, 22, 23, 24, 25, 26, 27, 28, 29, 30, 31, 32, 33, 34], (fun _ v _ => v = U)), (105, [], [0, 1, 2, 3, 4, 5, 6, 7, 8, 9, 10, 11, 12, 13, 14, 15, 16, 17, 18, 19, 20, 21, 22, 23, 24, 25, 26, 27, 28, 29, 30, 31, 32, 33, 34, 35], (fun _ v _ => v = U)), (106, [], [0, 1, 2, 3, 4, 5, 6, 7, 8, 9, 10, 11, 12, 13, 14, 15, 16, 17, 18, 19, 20, 21, 22, 23, 24, 25, 26, 27, 28, 29, 30, 31, 32, 33, 34, 35, 36], (fun _ v _ => v = U)), (107, [], [0, 1, 2, 3, 4, 5, 6, 7, 8, 9, 10, 11, 12, 13, 14, 15, 16, 17, 18, 19, 20, 21, 22, 23, 24, 25, 26, 27, 28, 29, 30, 31, 32, 33, 34, 35, 36, 37], (fun _ v _ => v = U)), (108, [], [0, 1, 2, 3, 4, 5, 6, 7, 8, 9, 10, 11, 12, 13, 14, 15, 16, 17, 18, 19, 20, 21, 22, 23, 24, 25, 26, 27, 28, 29, 30, 31, 32, 33, 34, 35, 36, 37], (fun _ v _ => v = U)), (109, [], [0, 1, 2, 3, 4, 5, 6, 7, 8, 9, 10, 11, 12, 13, 14, 15, 16, 17, 18, 19, 20, 21, 22, 23, 24, 25, 26, 27, 28, 29, 30, 31, 32, 33, 34, 35, 36, 37, 38, 39], (fun _ v _ => v = U)), (110, [], [0, 1, 2, 3, 4, 5, 6, 7, 8, 9, 10, 11, 12, 13, 14, 15, 16, 17, 18, 19, 20, 21, 22, 23, 24, 25, 26, 27, 28, 29, 30, 31, 32, 33, 34, 35, 36, 37, 38, 39, 40], (fun _ v _ => v = U)), (111, [], [0, 1, 2, 3, 4, 5, 6, 7, 8, 9, 10, 11, 12, 13, 14, 15, 16, 17, 18, 19, 20, 21, 22, 23, 24, 25, 26, 27, 28, 29, 30, 31, 32, 33, 34, 35, 36, 37, 38, 39, 40, 41], (fun _ v _ => v = U)), (112, [], [0, 1, 2, 3, 4, 5, 6, 7, 8, 9, 10, 11, 12, 13, 14, 15, 16, 17, 18, 19, 20, 21, 22, 23, 24, 25, 26, 27, 28, 29, 30, 31, 32, 33, 34, 35, 36, 37, 38, 39, 40, 41, 42], (fun _ v _ => v = U)), (113, [], [0, 1, 2, 3, 4, 5, 6, 7, 8, 9, 10, 11, 12, 13, 14, 15, 16, 17, 18, 19, 20, 21, 22, 23, 24, 25, 26, 27, 28, 29, 30, 31, 32, 33, 34, 35, 36, 37, 38, 39, 40, 41, 42, 43], (fun _ v _ => v = U)), (114, [], [0, 1, 2, 3, 4, 5, 6, 7, 8, 9, 10, 11, 12, 13, 14, 15, 16, 17, 18, 19, 20, 21, 22, 23, 24, 25, 26, 27, 28, 29, 30, 31, 32, 33, 34, 35, 36, 37, 38, 39, 40, 41, 42, 43, 44], (fun _ v _ => v = U)), (115, [], [0, 1, 2, 3, 4, 5, 6, 7, 8, 9, 10, 11, 12, 13, 14, 15, 16, 17, 18, 19, 20, 21, 22, 23, 24, 25, 26, 27, 28, 29, 30, 31, 32, 33, 34, 35, 36, 37, 38, 39, 40, 41, 42], (fun _ v _ => v = U)), (116, [], [0, 1, 2, 3, 4, 5, 6, 7, 8, 9, 10, 11, 12, 13, 14, 15, 16, 17, 18, 19, 20, 21, 22, 23, 24, 25, 26, 27, 28, 29, 30, 31, 32, 33, 34, 35, 36, 37, 38, 39, 40, 41, 42, 43, 44, 46], (fun _ v _ => v = U)), (117, [], [0, 1, 2, 3, 4, 5, 6, 7, 8, 9, 10, 11, 12, 13, 14, 15, 16, 17, 18, 19, 20, 21, 22, 23, 24, 25, 26, 27, 28, 29, 30, 31, 32, 33, 34, 35, 36, 37, 38, 39, 40, 41, 42, 43, 44, 46, 47], (fun _ v _ => v = U))] : GV) (fun _ aE => Keep b4 aE) [] mixed rfl (by kernel_rfl) (by kernel_rfl) ?_ (fun _ _ h => h) (fun _ _ _ _ h _ k => h.trans k) trivial ?_ ?_ ?_
   ·exact ⟨hV, hE, ⟨hV, hE, ⟨hV, hE, ⟨hV, hE, ⟨hV, hE, ⟨hV, hE, ⟨hV, hE, ⟨hV, hE, ⟨hV, hE, ⟨hV, hE, ⟨hV, hE, ⟨hV, hE, ⟨hV, hE, ⟨hV, hE, ⟨hV, hE, ⟨hV, hE, ⟨hV, hE, ⟨hV, hE, ⟨hV, hE, ⟨hV, hE, ⟨hV, hE, ⟨hV, hE, ⟨hV, hE, ⟨hV, hE, ⟨hV, hE, ⟨hV, hE, ⟨hV, hE, ⟨hV, hE, ⟨hV, hE, ⟨hV, hE, ⟨hV, hE, ⟨hV, hE, ⟨hV, hE, ⟨hV, hE, ⟨hV, hE, ⟨hV, hE, ⟨hV, hE, ⟨hV, hE, ⟨hV, hE, ⟨hV, hE, ⟨hV, hE, ⟨hV, hE, ⟨hV, hE, ⟨hV, hE, ⟨hV, hE, ⟨hV, hE, ⟨hV, hE, ⟨hV, hE, ⟨hV, hE, trivial⟩⟩⟩⟩⟩⟩⟩⟩⟩⟩⟩⟩⟩⟩⟩⟩⟩⟩⟩⟩⟩⟩⟩⟩⟩⟩⟩⟩⟩⟩⟩⟩⟩⟩⟩⟩⟩⟩⟩⟩⟩⟩⟩⟩⟩⟩⟩⟩⟩
   ·exact trivial
   ·refine ⟨?_, ⟨?_, ⟨?_, ⟨?_, ⟨?_, ⟨?_, ⟨?_, ⟨?_, ⟨?_, ⟨?_, ⟨?_, ⟨?_, ⟨?_, ⟨?_, ⟨?_, ⟨?_, ⟨?_, ⟨?_, ⟨?_, ⟨?_, ⟨?_, ⟨?_, ⟨?_, ⟨?_, ⟨?_, ⟨?_, ⟨?_, ⟨?_, ⟨?_, ⟨?_, ⟨?_, ⟨?_, ⟨?_, ⟨?_, ⟨?_, ⟨?_, ⟨?_, ⟨?_, ⟨?_, ⟨?_, ⟨?_, ⟨?_, ⟨?_, ⟨?_, ⟨?_, ⟨?_, ⟨?_, ⟨?_, ⟨?_, trivial⟩⟩⟩⟩⟩⟩⟩⟩⟩⟩⟩⟩⟩⟩⟩⟩⟩⟩⟩⟩⟩⟩⟩⟩⟩⟩⟩⟩⟩⟩⟩⟩⟩⟩⟩⟩⟩⟩⟩⟩⟩⟩⟩⟩⟩⟩⟩⟩⟩
    ·intro _ b qK _
     rintro _ _ _ _ _ _ _ _ _ _ _ _ _ _ _ _ _ _ _ _ _ _ _ _ _ _ _ _ _ _ _ _ _ _ _ _ _ _ _ _ _ _ _ _ _ _ _ _ _
     show WL _ _ _ _ _ _ _
     refine mw (vi k) ?_
     exact f1
    ·intro _ b qL _
     rintro _ _ _ _ _ _ _ _ _ _ _ _ _ _ _ _ _ _ _ _ _ _ _ _ _ _ _ _ _ _ _ _ _ _ _ _ _ _ _ _ _ _ _ _ _ _ _ _ _
     show WL _ _ _ _ _ _ _
     refine mw (vs aC (i_Pick ((d).1) ((d).2)).length aD) ?_
     exact f1
    ·intro _ b gF _
     rintro _ _ rfl _ _ _ _ _ _ _ _ _ _ _ _ _ _ _ _ _ _ _ _ _ _ _ _ _ _ _ _ _ _ _ _ _ _ _ _ _ _ _ _ _ _ _ _ _ _ _
     show WL _ _ _ _ _ _ _
     have gG := (OLv.kp (OLv.kp (OLv.kp (OLv.kp (OLv.kp (OLv.ch (OLv.ch (OLv.kp (OLv.kp (OLv.ch (OLv.ch (OLv.kp (OLv.kp (OLv.kp bi ab) t) r) m (fun g M N hk => by have O := nT ab.size a1; omega)) l (fun g M N hk => by have O := nT (z2 ab t) P; omega)) e) q) p (fun g M N hk => by have O := nT (z6 ab t r m l e) I; omega)) y (fun g M N hk => by have O : Z.heap.size ≤ K.heap.size := (z8 ab t r m l e q p); have bo : K.heap.size ≤ g := hk; omega)) B) C) D) F) gF)
     obtain ⟨qM, gH⟩ := RLv.row (OLv.rl gG)
     refine ln wN slTy_24 gH ?_
     exact f1
    ·intro _ b qN _
     rintro _ rfl _ rfl _ rfl _ _ _ _ _ _ _ _ _ _ _ _ _ _ _ _ _ _ _ _ _ _ _ _ _ _ _ _ _ _ _ _ _ _ _ _ _ _ _ _ _ _ _ _ _ _
     show WL _ _ _ _ _ _ _
     refine pu (vb (decide (k = ((i_Pick ((d).1) ((d).2)).length : Int)))) wN ?_
     exact f1
    ·intro _ b qO _
     rintro _ rfl _ rfl _ rfl _ rfl _ _ _ _ _ _ _ _ _ _ _ _ _ _ _ _ _ _ _ _ _ _ _ _ _ _ _ _ _ _ _ _ _ _ _ _ _ _ _ _ _ _ _ _ _
     show WL _ _ _ _ _ _ _
     refine mw (vb (decide (k = ((i_Pick ((d).1) ((d).2)).length : Int)))) ?_
     exact f1
    ·intro _ b gI _
     rintro _ rfl _ rfl _ rfl _ rfl _ rfl _ _ _ _ _ _ _ _ _ _ _ _ _ _ _ _ _ _ _ _ _ _ _ _ _ _ _ _ _ _ _ _ _ _ _ _ _ _ _ _ _ _ _ _
     show WL _ _ _ _ _ _ _
     have gJ := ((((((((((a7.ch l (nN (nL H (P)))).kp e).kp q).ch p (nN (nL H (nT (z4 r m l e) I)))).ch y (Nat.not_le.2 (nL H (z6 r m l e q p)))).kp B).kp C).kp D).kp F).kp gI)
     refine lN (L_31 ((a).1) Q R S T V W X Y) (wS a0) isAgg_31 sizeOf_31 gJ ?_
     exact f1
    ·intro _ b gK _
     rintro _ rfl _ rfl _ rfl _ rfl _ rfl _ _ _ _ _ _ _ _ _ _ _ _ _ _ _ _ _ _ _ _ _ _ _ _ _ _ _ _ _ _ _ _ _ _ _ _ _ _ _ _ _ _ _ _
     show WL _ _ _ _ _ _ _
     have gL := ((((((((((a7.ch l (nN (nL H (P)))).kp e).kp q).ch p (nN (nL H (nT (z4 r m l e) I)))).ch y (Nat.not_le.2 (nL H (z6 r m l e q p)))).kp B).kp C).kp D).kp F).kp gK)
     refine lN (L_31 ((a).1) Q R S T V W X Y) (wS a0) isAgg_31 sizeOf_31 gL ?_
     exact f1
    ·intro _ b gM _
     rintro _ rfl _ rfl _ rfl _ rfl _ rfl _ rfl _ rfl _ _ _ _ _ _ _ _ _ _ _ _ _ _ _ _ _ _ _ _ _ _ _ _ _ _ _ _ _ _ _ _ _ _ _ _ _ _ _ _ _ _
     show WL _ _ _ _ _ _ _
     have ce := fun (E sz n : Nat) (v : Value) (G : List Value) (o : World.ownsRow L Z.heap.size E sz v n G) (s : World.ownsRow L Z.heap.size E sz v n G) => (own_kp (own_kp (own_kp (own_kp (own_kp (own_ch (own_ch (own_kp (own_kp (own_ch (own_ch (own_kp (own_kp o t) r) m (ne2 s (a1))) l (ne2 s (nT t.size P))) e) q) p (ne2 s (nT (z5 t r m l e) I))) y (fun g hg hlt hk => by have M := (own_lt s g hg).2; have N : L.heap.size ≤ K.heap.size := (z7 t r m l e q p); have O : K.heap.size ≤ g := hk; omega)) B) C) D) F) gM)
     have dc := (ce _ _ _ _ _ ac ac)
     have dd := (ce _ _ _ _ _ ad ad)
     have de := (ce _ _ _ _ _ ae ae)
     have df := (ce _ _ _ _ _ af af)
     refine cl (wS a0) (ciSameNote b _ ((a).1) (mR_31 (Rd.of_own dc) a3 (Rd.of_own dd) a4 (Rd.of_own de) a5 (Rd.of_own df) a6) _ ((a).1) (mR_31 (Rd.of_own dc) a3 (Rd.of_own dd) a4 (Rd.of_own de) a5 (Rd.of_own df) a6)) ?_
     rintro _ a2 ⟨gN, rfl⟩
     exact wl_finT gN rfl
    ·intro _ b qP _
     rintro _ rfl _ rfl _ rfl _ rfl _ rfl _ rfl _ rfl _ rfl _ _ _ _ _ _ _ _ _ _ _ _ _ _ _ _ _ _ _ _ _ _ _ _ _ _ _ _ _ _ _ _ _ _ _ _ _ _ _ _ _
     show WL _ _ _ _ _ _ _
     refine pk (vb (i_SameNote ((a).1) ((a).1))) wN a0 ?_
     exact f1
    ·intro _ b qQ _
     rintro _ rfl _ rfl _ rfl _ rfl _ rfl _ rfl _ rfl _ rfl _ rfl _ _ _ _ _ _ _ _ _ _ _ _ _ _ _ _ _ _ _ _ _ _ _ _ _ _ _ _ _ _ _ _ _ _ _ _ _ _ _ _
     show WL _ _ _ _ _ _ _
     refine mw (vb (i_SameNote ((a).1) ((a).1))) ?_
     exact f1
    ·intro _ b gO _
     rintro _ rfl _ rfl _ rfl _ rfl _ rfl _ rfl _ rfl _ rfl _ rfl _ rfl _ _ _ _ _ _ _ _ _ _ _ _ _ _ _ _ _ _ _ _ _ _ _ _ _ _ _ _ _ _ _ _ _ _ _ _ _ _ _
     show WL _ _ _ _ _ _ _
     have gP := ((((((((((a7.ch l (nN (nL H (P)))).kp e).kp q).ch p (nN (nL H (nT (z4 r m l e) I)))).ch y (Nat.not_le.2 (nL H (z6 r m l e q p)))).kp B).kp C).kp D).kp F).kp gO)
     refine lN (L_31 ((a).1) Q R S T V W X Y) (wS aa) isAgg_31 sizeOf_31 gP ?_
     exact f1
    ·intro _ b gQ _
     rintro _ rfl _ rfl _ rfl _ rfl _ rfl _ rfl _ rfl _ rfl _ rfl _ rfl _ _ _ _ _ _ _ _ _ _ _ _ _ _ _ _ _ _ _ _ _ _ _ _ _ _ _ _ _ _ _ _ _ _ _ _ _ _ _
     show WL _ _ _ _ _ _ _
     have gR := (((((((((aK.kp e).kp q).ch p (nN (nL az (nT (z3 m l e) I)))).ch y (Nat.not_le.2 (nL az (z5 m l e q p)))).kp B).kp C).kp D).kp F).kp gQ)
     refine lN (L_31 ((a).2) ai aj ak am an ao ap aq) (wS aa) isAgg_31 sizeOf_31 gR ?_
     exact f1
    ·intro _ b gS _
     rintro _ rfl _ rfl _ rfl _ rfl _ rfl _ rfl _ rfl _ rfl _ rfl _ rfl _ rfl _ rfl _ _ _ _ _ _ _ _ _ _ _ _ _ _ _ _ _ _ _ _ _ _ _ _ _ _ _ _ _ _ _ _ _ _ _ _ _
     show WL _ _ _ _ _ _ _
     have bB := fun (E sz n : Nat) (v : Value) (G : List Value) (o : World.ownsRow L Z.heap.size E sz v n G) (s : World.ownsRow L Z.heap.size E sz v n G) => (own_kp (own_kp (own_kp (own_kp (own_kp (own_ch (own_ch (own_kp (own_kp (own_ch (own_ch (own_kp (own_kp o t) r) m (ne2 s (a1))) l (ne2 s (nT t.size P))) e) q) p (ne2 s (nT (z5 t r m l e) I))) y (fun g hg hlt hk => by have M := (own_lt s g hg).2; have N : L.heap.size ≤ K.heap.size := (z7 t r m l e q p); have O : K.heap.size ≤ g := hk; omega)) B) C) D) F) gS)
     have gT := (bB _ _ _ _ _ ac ac)
     have gU := (bB _ _ _ _ _ ad ad)
     have gV := (bB _ _ _ _ _ ae ae)
     have gW := (bB _ _ _ _ _ af af)
     have gX := (bB _ _ _ _ _ au au)
     have gY := (bB _ _ _ _ _ av av)
     have gZ := (bB _ _ _ _ _ ax ax)
     have ha := (bB _ _ _ _ _ ay ay)
     refine cl (wS aa) (ciSameNote b _ ((a).1) (mR_31 (Rd.of_own gT) a3 (Rd.of_own gU) a4 (Rd.of_own gV) a5 (Rd.of_own gW) a6) _ ((a).2) (mR_31 (Rd.of_own gX) aG (Rd.of_own gY) aH (Rd.of_own gZ) aI (Rd.of_own ha) aJ)) ?_
     rintro _ a2 ⟨hb, rfl⟩
     exact wl_finT hb rfl
    ·intro _ b hc _
     rintro _ rfl _ rfl _ rfl _ rfl _ rfl _ rfl _ rfl _ rfl _ rfl _ rfl _ _ _ _ _ _ _ _ _ _ _ _ _ _ _ _ _ _ _ _ _ _ _ _ _ _ _ _ _ _ _ _ _ _ _ _ _ _ _
     show WL _ _ _ _ _ _ _
     have hd := ((((((((((a7.ch l (nN (nL H (P)))).kp e).kp q).ch p (nN (nL H (nT (z4 r m l e) I)))).ch y (Nat.not_le.2 (nL H (z6 r m l e q p)))).kp B).kp C).kp D).kp F).kp hc)
     refine lN (L_31 ((a).1) Q R S T V W X Y) (wS aa) isAgg_31 sizeOf_31 hd ?_
     exact f1
    ·intro _ b he _
     rintro _ rfl _ rfl _ rfl _ rfl _ rfl _ rfl _ rfl _ rfl _ rfl _ rfl _ _ _ _ _ _ _ _ _ _ _ _ _ _ _ _ _ _ _ _ _ _ _ _ _ _ _ _ _ _ _ _ _ _ _ _ _ _ _
     show WL _ _ _ _ _ _ _
     have hf := (((((((((aK.kp e).kp q).ch p (nN (nL az (nT (z3 m l e) I)))).ch y (Nat.not_le.2 (nL az (z5 m l e q p)))).kp B).kp C).kp D).kp F).kp he)
     refine lN (L_31 ((a).2) ai aj ak am an ao ap aq) (wS aa) isAgg_31 sizeOf_31 hf ?_
     exact f1
    ·intro _ b hh _
     rintro _ rfl _ rfl _ rfl _ rfl _ rfl _ rfl _ rfl _ rfl _ rfl _ rfl _ rfl _ rfl _ rfl _ rfl _ rfl _ _ _ _ _ _ _ _ _ _ _ _ _ _ _ _ _ _ _ _ _ _ _ _ _ _ _ _ _ _ _ _ _ _
     show WL _ _ _ _ _ _ _
     have bC := fun (E sz n : Nat) (v : Value) (G : List Value) (o : World.ownsRow L Z.heap.size E sz v n G) (s : World.ownsRow L Z.heap.size E sz v n G) => (own_kp (own_kp (own_kp (own_kp (own_kp (own_ch (own_ch (own_kp (own_kp (own_ch (own_ch (own_kp (own_kp o t) r) m (ne2 s (a1))) l (ne2 s (nT t.size P))) e) q) p (ne2 s (nT (z5 t r m l e) I))) y (fun g hg hlt hk => by have M := (own_lt s g hg).2; have N : L.heap.size ≤ K.heap.size := (z7 t r m l e q p); have O : K.heap.size ≤ g := hk; omega)) B) C) D) F) hh)
     have hi := (bC _ _ _ _ _ ac ac)
     have hl := (bC _ _ _ _ _ ad ad)
     have hm := (bC _ _ _ _ _ ae ae)
     have hn := (bC _ _ _ _ _ af af)
     have ho := (bC _ _ _ _ _ au au)
     have hp := (bC _ _ _ _ _ av av)
     have hq := (bC _ _ _ _ _ ax ax)
     have hr := (bC _ _ _ _ _ ay ay)
     refine cl (wS aa) (csSameNote b _ ((a).1) (mR_31 (Rd.of_own hi) a3 (Rd.of_own hl) a4 (Rd.of_own hm) a5 (Rd.of_own hn) a6) _ ((a).2) (mR_31 (Rd.of_own ho) aG (Rd.of_own hp) aH (Rd.of_own hq) aI (Rd.of_own hr) aJ)) ?_
     rintro _ a2 ⟨hs, rfl⟩
     exact wl_finT hs rfl
    ·intro _ b qR _
     rintro _ rfl _ rfl _ rfl _ rfl _ rfl _ rfl _ rfl _ rfl _ rfl _ rfl _ rfl _ rfl _ rfl _ rfl _ rfl _ rfl _ _ _ _ _ _ _ _ _ _ _ _ _ _ _ _ _ _ _ _ _ _ _ _ _ _ _ _ _ _ _ _ _
     show WL _ _ _ _ _ _ _
     refine pu (vb ((i_SameNote ((a).1) ((a).2)) == (s_SameNote ((a).1) ((a).2)))) (wS aa) ?_
     exact f1
    ·intro _ b qS _
     rintro _ rfl _ rfl _ rfl _ rfl _ rfl _ rfl _ rfl _ rfl _ rfl _ rfl _ rfl _ rfl _ rfl _ rfl _ rfl _ rfl _ rfl _ _ _ _ _ _ _ _ _ _ _ _ _ _ _ _ _ _ _ _ _ _ _ _ _ _ _ _ _ _ _ _
     show WL _ _ _ _ _ _ _
     refine pk (vb ((i_SameNote ((a).1) ((a).2)) == (s_SameNote ((a).1) ((a).2)))) wN aa ?_
     exact f1
    ·intro _ b qT _
     rintro _ rfl _ rfl _ rfl _ rfl _ rfl _ rfl _ rfl _ rfl _ rfl _ rfl _ rfl _ rfl _ rfl _ rfl _ rfl _ rfl _ rfl _ rfl _ _ _ _ _ _ _ _ _ _ _ _ _ _ _ _ _ _ _ _ _ _ _ _ _ _ _ _ _ _ _
     show WL _ _ _ _ _ _ _
     refine mw (vb ((i_SameNote ((a).1) ((a).2)) == (s_SameNote ((a).1) ((a).2)))) ?_
     exact f1
    ·intro _ b ht _
     rintro _ rfl _ rfl _ rfl _ rfl _ rfl _ rfl _ rfl _ rfl _ rfl _ rfl _ rfl _ rfl _ rfl _ rfl _ rfl _ rfl _ rfl _ rfl _ rfl _ _ _ _ _ _ _ _ _ _ _ _ _ _ _ _ _ _ _ _ _ _ _ _ _ _ _ _ _ _
     show WL _ _ _ _ _ _ _
     have hu := (((((((((aK.kp e).kp q).ch p (nN (nL az (nT (z3 m l e) I)))).ch y (Nat.not_le.2 (nL az (z5 m l e q p)))).kp B).kp C).kp D).kp F).kp ht)
     refine lN (L_31 ((a).2) ai aj ak am an ao ap aq) (wS ah) isAgg_31 sizeOf_31 hu ?_
     exact f1
    ·intro _ b hv _
     rintro _ rfl _ rfl _ rfl _ rfl _ rfl _ rfl _ rfl _ rfl _ rfl _ rfl _ rfl _ rfl _ rfl _ rfl _ rfl _ rfl _ rfl _ rfl _ rfl _ _ _ _ _ _ _ _ _ _ _ _ _ _ _ _ _ _ _ _ _ _ _ _ _ _ _ _ _ _
     show WL _ _ _ _ _ _ _
     have hw := ((((((((((a7.ch l (nN (nL H (P)))).kp e).kp q).ch p (nN (nL H (nT (z4 r m l e) I)))).ch y (Nat.not_le.2 (nL H (z6 r m l e q p)))).kp B).kp C).kp D).kp F).kp hv)
     refine lN (L_31 ((a).1) Q R S T V W X Y) (wS ah) isAgg_31 sizeOf_31 hw ?_
     exact f1
    ·intro _ b hx _
     rintro _ rfl _ rfl _ rfl _ rfl _ rfl _ rfl _ rfl _ rfl _ rfl _ rfl _ rfl _ rfl _ rfl _ rfl _ rfl _ rfl _ rfl _ rfl _ rfl _ rfl _ rfl _ _ _ _ _ _ _ _ _ _ _ _ _ _ _ _ _ _ _ _ _ _ _ _ _ _ _ _
     show WL _ _ _ _ _ _ _
     have bD := fun (E sz n : Nat) (v : Value) (G : List Value) (o : World.ownsRow L Z.heap.size E sz v n G) (s : World.ownsRow L Z.heap.size E sz v n G) => (own_kp (own_kp (own_kp (own_kp (own_kp (own_ch (own_ch (own_kp (own_kp (own_ch (own_ch (own_kp (own_kp o t) r) m (ne2 s (a1))) l (ne2 s (nT t.size P))) e) q) p (ne2 s (nT (z5 t r m l e) I))) y (fun g hg hlt hk => by have M := (own_lt s g hg).2; have N : L.heap.size ≤ K.heap.size := (z7 t r m l e q p); have O : K.heap.size ≤ g := hk; omega)) B) C) D) F) hx)
     have hy := (bD _ _ _ _ _ au au)
     have h0 := (bD _ _ _ _ _ av av)
     have h1 := (bD _ _ _ _ _ ax ax)
     have h2 := (bD _ _ _ _ _ ay ay)
     have h3 := (bD _ _ _ _ _ ac ac)
     have h4 := (bD _ _ _ _ _ ad ad)
     have h5 := (bD _ _ _ _ _ ae ae)
     have h6 := (bD _ _ _ _ _ af af)
     refine cl (wS ah) (ciSameNote b _ ((a).2) (mR_31 (Rd.of_own hy) aG (Rd.of_own h0) aH (Rd.of_own h1) aI (Rd.of_own h2) aJ) _ ((a).1) (mR_31 (Rd.of_own h3) a3 (Rd.of_own h4) a4 (Rd.of_own h5) a5 (Rd.of_own h6) a6)) ?_
     rintro _ a2 ⟨h7, rfl⟩
     exact wl_finT h7 rfl
    ·intro _ b h8 _
     rintro _ rfl _ rfl _ rfl _ rfl _ rfl _ rfl _ rfl _ rfl _ rfl _ rfl _ rfl _ rfl _ rfl _ rfl _ rfl _ rfl _ rfl _ rfl _ rfl _ _ _ _ _ _ _ _ _ _ _ _ _ _ _ _ _ _ _ _ _ _ _ _ _ _ _ _ _ _
     show WL _ _ _ _ _ _ _
     have h9 := ((((((((((a7.ch l (nN (nL H (P)))).kp e).kp q).ch p (nN (nL H (nT (z4 r m l e) I)))).ch y (Nat.not_le.2 (nL H (z6 r m l e q p)))).kp B).kp C).kp D).kp F).kp h8)
     refine lN (L_31 ((a).1) Q R S T V W X Y) (wS ah) isAgg_31 sizeOf_31 h9 ?_
     exact f1
    ·intro _ b hA _
     rintro _ rfl _ rfl _ rfl _ rfl _ rfl _ rfl _ rfl _ rfl _ rfl _ rfl _ rfl _ rfl _ rfl _ rfl _ rfl _ rfl _ rfl _ rfl _ rfl _ _ _ _ _ _ _ _ _ _ _ _ _ _ _ _ _ _ _ _ _ _ _ _ _ _ _ _ _ _
     show WL _ _ _ _ _ _ _
     have hB := (((((((((aK.kp e).kp q).ch p (nN (nL az (nT (z3 m l e) I)))).ch y (Nat.not_le.2 (nL az (z5 m l e q p)))).kp B).kp C).kp D).kp F).kp hA)
     refine lN (L_31 ((a).2) ai aj ak am an ao ap aq) (wS ah) isAgg_31 sizeOf_31 hB ?_
     exact f1
    ·intro _ b hC _
     rintro _ rfl _ rfl _ rfl _ rfl _ rfl _ rfl _ rfl _ rfl _ rfl _ rfl _ rfl _ rfl _ rfl _ rfl _ rfl _ rfl _ rfl _ rfl _ rfl _ rfl _ rfl _ rfl _ rfl _ rfl _ _ _ _ _ _ _ _ _ _ _ _ _ _ _ _ _ _ _ _ _ _ _ _ _
     show WL _ _ _ _ _ _ _
     have bE := fun (E sz n : Nat) (v : Value) (G : List Value) (o : World.ownsRow L Z.heap.size E sz v n G) (s : World.ownsRow L Z.heap.size E sz v n G) => (own_kp (own_kp (own_kp (own_kp (own_kp (own_ch (own_ch (own_kp (own_kp (own_ch (own_ch (own_kp (own_kp o t) r) m (ne2 s (a1))) l (ne2 s (nT t.size P))) e) q) p (ne2 s (nT (z5 t r m l e) I))) y (fun g hg hlt hk => by have M := (own_lt s g hg).2; have N : L.heap.size ≤ K.heap.size := (z7 t r m l e q p); have O : K.heap.size ≤ g := hk; omega)) B) C) D) F) hC)
     have hD := (bE _ _ _ _ _ ac ac)
     have hF := (bE _ _ _ _ _ ad ad)
     have hG := (bE _ _ _ _ _ ae ae)
     have hH := (bE _ _ _ _ _ af af)
     have hI := (bE _ _ _ _ _ au au)
     have hJ := (bE _ _ _ _ _ av av)
     have hK := (bE _ _ _ _ _ ax ax)
     have hL := (bE _ _ _ _ _ ay ay)
     refine cl (wS ah) (ciSameNote b _ ((a).1) (mR_31 (Rd.of_own hD) a3 (Rd.of_own hF) a4 (Rd.of_own hG) a5 (Rd.of_own hH) a6) _ ((a).2) (mR_31 (Rd.of_own hI) aG (Rd.of_own hJ) aH (Rd.of_own hK) aI (Rd.of_own hL) aJ)) ?_
     rintro _ a2 ⟨hM, rfl⟩
     exact wl_finT hM rfl
    ·intro _ b qU _
     rintro _ rfl _ rfl _ rfl _ rfl _ rfl _ rfl _ rfl _ rfl _ rfl _ rfl _ rfl _ rfl _ rfl _ rfl _ rfl _ rfl _ rfl _ rfl _ rfl _ rfl _ rfl _ rfl _ rfl _ rfl _ rfl _ _ _ _ _ _ _ _ _ _ _ _ _ _ _ _ _ _ _ _ _ _ _ _
     show WL _ _ _ _ _ _ _
     refine pu (vb ((i_SameNote ((a).2) ((a).1)) == (i_SameNote ((a).1) ((a).2)))) (wS ah) ?_
     exact f1
    ·intro _ b qV _
     rintro _ rfl _ rfl _ rfl _ rfl _ rfl _ rfl _ rfl _ rfl _ rfl _ rfl _ rfl _ rfl _ rfl _ rfl _ rfl _ rfl _ rfl _ rfl _ rfl _ rfl _ rfl _ rfl _ rfl _ rfl _ rfl _ rfl _ _ _ _ _ _ _ _ _ _ _ _ _ _ _ _ _ _ _ _ _ _ _
     show WL _ _ _ _ _ _ _
     refine pk (vb ((i_SameNote ((a).2) ((a).1)) == (i_SameNote ((a).1) ((a).2)))) wN ah ?_
     exact f1
    ·intro _ b qW _
     rintro _ rfl _ rfl _ rfl _ rfl _ rfl _ rfl _ rfl _ rfl _ rfl _ rfl _ rfl _ rfl _ rfl _ rfl _ rfl _ rfl _ rfl _ rfl _ rfl _ rfl _ rfl _ rfl _ rfl _ rfl _ rfl _ rfl _ rfl _ _ _ _ _ _ _ _ _ _ _ _ _ _ _ _ _ _ _ _ _ _
     show WL _ _ _ _ _ _ _
     refine mw (vb ((i_SameNote ((a).2) ((a).1)) == (i_SameNote ((a).1) ((a).2)))) ?_
     exact f1
    ·intro _ b hN _
     rintro _ rfl _ rfl _ rfl _ rfl _ rfl _ rfl _ rfl _ rfl _ rfl _ rfl _ rfl _ rfl _ rfl _ rfl _ rfl _ rfl _ rfl _ rfl _ rfl _ rfl _ rfl _ rfl _ rfl _ rfl _ rfl _ rfl _ rfl _ rfl _ _ _ _ _ _ _ _ _ _ _ _ _ _ _ _ _ _ _ _ _
     show WL _ _ _ _ _ _ _
     have hO := ((((((b3.ch y (Nat.not_le.2 (nL b2 p.size))).kp B).kp C).kp D).kp F).kp hN)
     refine lN (L_31 (J) aP aQ aR aS aT aU aV aW) (wS a8) isAgg_31 sizeOf_31 hO ?_
     exact f1
    ·intro _ b hP _
     rintro _ rfl _ rfl _ rfl _ rfl _ rfl _ rfl _ rfl _ rfl _ rfl _ rfl _ rfl _ rfl _ rfl _ rfl _ rfl _ rfl _ rfl _ rfl _ rfl _ rfl _ rfl _ rfl _ rfl _ rfl _ rfl _ rfl _ rfl _ rfl _ rfl _ _ _ _ _ _ _ _ _ _ _ _ _ _ _ _ _ _ _ _
     show WL _ _ _ _ _ _ _
     have cg := fun (E sz n : Nat) (v : Value) (G : List Value) (o : World.ownsRow aF aO.heap.size E sz v n G) (s : World.ownsRow aF aO.heap.size E sz v n G) => (own_kp (own_kp (own_kp (own_kp (own_kp (own_ch (own_ch (own_kp o q) p (ne2 s (I))) y (fun g hg hlt hk => by have M := (own_lt s g hg).2; have N : aF.heap.size ≤ K.heap.size := (z2 q p); have O : K.heap.size ≤ g := hk; omega)) B) C) D) F) hP)
     have hQ := (cg _ _ _ _ _ aX aX)
     have hR := (cg _ _ _ _ _ aY aY)
     have hS := (cg _ _ _ _ _ aZ aZ)
     have hT := (cg _ _ _ _ _ ba ba)
     refine cl (wS a8) (ciNoteOk b _ (J) (mR_31 (Rd.of_own hQ) bw (Rd.of_own hR) bz (Rd.of_own hS) b0 (Rd.of_own hT) b1)) ?_
     rintro _ a2 ⟨hU, rfl⟩
     exact wl_finT hU rfl
    ·intro _ b hW _
     rintro _ rfl _ rfl _ rfl _ rfl _ rfl _ rfl _ rfl _ rfl _ rfl _ rfl _ rfl _ rfl _ rfl _ rfl _ rfl _ rfl _ rfl _ rfl _ rfl _ rfl _ rfl _ rfl _ rfl _ rfl _ rfl _ rfl _ rfl _ rfl _ _ _ _ _ _ _ _ _ _ _ _ _ _ _ _ _ _ _ _ _
     show WL _ _ _ _ _ _ _
     have hX := ((((((b3.ch y (Nat.not_le.2 (nL b2 p.size))).kp B).kp C).kp D).kp F).kp hW)
     refine lN (L_31 (J) aP aQ aR aS aT aU aV aW) (wS a8) isAgg_31 sizeOf_31 hX ?_
     exact f1
    ·intro _ b hY _
     rintro _ rfl _ rfl _ rfl _ rfl _ rfl _ rfl _ rfl _ rfl _ rfl _ rfl _ rfl _ rfl _ rfl _ rfl _ rfl _ rfl _ rfl _ rfl _ rfl _ rfl _ rfl _ rfl _ rfl _ rfl _ rfl _ rfl _ rfl _ rfl _ rfl _ rfl _ rfl _ _ _ _ _ _ _ _ _ _ _ _ _ _ _ _ _ _
     show WL _ _ _ _ _ _ _
     have ci := fun (E sz n : Nat) (v : Value) (G : List Value) (o : World.ownsRow aF aO.heap.size E sz v n G) (s : World.ownsRow aF aO.heap.size E sz v n G) => (own_kp (own_kp (own_kp (own_kp (own_kp (own_ch (own_ch (own_kp o q) p (ne2 s (I))) y (fun g hg hlt hk => by have M := (own_lt s g hg).2; have N : aF.heap.size ≤ K.heap.size := (z2 q p); have O : K.heap.size ≤ g := hk; omega)) B) C) D) F) hY)
     have hZ := (ci _ _ _ _ _ aX aX)
     have ia := (ci _ _ _ _ _ aY aY)
     have ib := (ci _ _ _ _ _ aZ aZ)
     have ic := (ci _ _ _ _ _ ba ba)
     refine cl (wS a8) (csNoteOk b _ (J) (mR_31 (Rd.of_own hZ) bw (Rd.of_own ia) bz (Rd.of_own ib) b0 (Rd.of_own ic) b1)) ?_
     rintro _ a2 ⟨ie, rfl⟩
     exact wl_finT ie rfl
    ·intro _ b qX _
     rintro _ rfl _ rfl _ rfl _ rfl _ rfl _ rfl _ rfl _ rfl _ rfl _ rfl _ rfl _ rfl _ rfl _ rfl _ rfl _ rfl _ rfl _ rfl _ rfl _ rfl _ rfl _ rfl _ rfl _ rfl _ rfl _ rfl _ rfl _ rfl _ rfl _ rfl _ rfl _ rfl _ _ _ _ _ _ _ _ _ _ _ _ _ _ _ _ _
     show WL _ _ _ _ _ _ _
     refine pu (vb ((i_NoteOk (J)) == (s_NoteOk (J)))) (wS a8) ?_
     exact f1
    ·intro _ b qY _
     rintro _ rfl _ rfl _ rfl _ rfl _ rfl _ rfl _ rfl _ rfl _ rfl _ rfl _ rfl _ rfl _ rfl _ rfl _ rfl _ rfl _ rfl _ rfl _ rfl _ rfl _ rfl _ rfl _ rfl _ rfl _ rfl _ rfl _ rfl _ rfl _ rfl _ rfl _ rfl _ rfl _ rfl _ _ _ _ _ _ _ _ _ _ _ _ _ _ _ _
     show WL _ _ _ _ _ _ _
     refine pk (vb ((i_NoteOk (J)) == (s_NoteOk (J)))) wN a8 ?_
     exact f1
    ·intro _ b qZ _
     rintro _ rfl _ rfl _ rfl _ rfl _ rfl _ rfl _ rfl _ rfl _ rfl _ rfl _ rfl _ rfl _ rfl _ rfl _ rfl _ rfl _ rfl _ rfl _ rfl _ rfl _ rfl _ rfl _ rfl _ rfl _ rfl _ rfl _ rfl _ rfl _ rfl _ rfl _ rfl _ rfl _ rfl _ rfl _ _ _ _ _ _ _ _ _ _ _ _ _ _ _
     show WL _ _ _ _ _ _ _
     refine mw (vb ((i_NoteOk (J)) == (s_NoteOk (J)))) ?_
     exact f1
    ·intro _ b ra _
     rintro _ rfl _ rfl _ rfl _ rfl _ rfl _ rfl _ rfl _ rfl _ rfl _ rfl _ rfl _ rfl _ rfl _ rfl _ rfl _ rfl _ rfl _ rfl _ rfl _ rfl _ rfl _ rfl _ rfl _ rfl _ rfl _ rfl _ rfl _ rfl _ rfl _ rfl _ rfl _ rfl _ rfl _ rfl _ rfl _ _ _ _ _ _ _ _ _ _ _ _ _ _
     show WL _ _ _ _ _ _ _
     refine sk a9 ?_
     exact f1
    ·intro _ b rb _
     rintro _ rfl _ rfl _ rfl _ rfl _ rfl _ rfl _ rfl _ rfl _ rfl _ rfl _ rfl _ rfl _ rfl _ rfl _ rfl _ rfl _ rfl _ rfl _ rfl _ rfl _ rfl _ rfl _ rfl _ rfl _ rfl _ rfl _ rfl _ rfl _ rfl _ rfl _ rfl _ rfl _ rfl _ rfl _ rfl _ rfl _ _ _ _ _ _ _ _ _ _ _ _ _
     show WL _ _ _ _ _ _ _
     refine sk a9 ?_
     exact f1
    ·intro _ b rc _
     rintro _ rfl _ rfl _ rfl _ rfl _ rfl _ rfl _ rfl _ rfl _ rfl _ rfl _ rfl _ rfl _ rfl _ rfl _ rfl _ rfl _ rfl _ rfl _ rfl _ rfl _ rfl _ rfl _ rfl _ rfl _ rfl _ rfl _ rfl _ rfl _ rfl _ rfl _ rfl _ rfl _ rfl _ rfl _ rfl _ rfl _ rfl _ _ _ _ _ _ _ _ _ _ _ _
     show WL _ _ _ _ _ _ _
     refine sk a9 ?_
     exact f1
    ·intro _ b rf _
     rintro _ rfl _ rfl _ rfl _ rfl _ rfl _ rfl _ rfl _ rfl _ rfl _ rfl _ rfl _ rfl _ rfl _ rfl _ rfl _ rfl _ rfl _ rfl _ rfl _ rfl _ rfl _ rfl _ rfl _ rfl _ rfl _ rfl _ rfl _ rfl _ rfl _ rfl _ rfl _ rfl _ rfl _ rfl _ rfl _ rfl _ rfl _ rfl _ _ _ _ _ _ _ _ _ _ _
     show WL _ _ _ _ _ _ _
     refine su ?_
     exact f1
    ·intro _ b rh _
     rintro _ rfl _ rfl _ rfl _ rfl _ rfl _ rfl _ rfl _ rfl _ rfl _ rfl _ rfl _ rfl _ rfl _ rfl _ rfl _ rfl _ rfl _ rfl _ rfl _ rfl _ rfl _ rfl _ rfl _ rfl _ rfl _ rfl _ rfl _ rfl _ rfl _ rfl _ rfl _ rfl _ rfl _ rfl _ rfl _ rfl _ rfl _ rfl _ _ _ _ _ _ _ _ _ _ _
     show WL _ _ _ _ _ _ _
     refine su ?_
     exact f1
    ·intro _ b ri _
     rintro _ rfl _ rfl _ rfl _ rfl _ rfl _ rfl _ rfl _ rfl _ rfl _ rfl _ rfl _ rfl _ rfl _ rfl _ rfl _ rfl _ rfl _ rfl _ rfl _ rfl _ rfl _ rfl _ rfl _ rfl _ rfl _ rfl _ rfl _ rfl _ rfl _ rfl _ rfl _ rfl _ rfl _ rfl _ rfl _ rfl _ rfl _ rfl _ rfl _ rfl _ _ _ _ _ _ _ _ _
     show WL _ _ _ _ _ _ _
     refine su ?_
     exact f1
    ·intro _ b rj _
     rintro _ rfl _ rfl _ rfl _ rfl _ rfl _ rfl _ rfl _ rfl _ rfl _ rfl _ rfl _ rfl _ rfl _ rfl _ rfl _ rfl _ rfl _ rfl _ rfl _ rfl _ rfl _ rfl _ rfl _ rfl _ rfl _ rfl _ rfl _ rfl _ rfl _ rfl _ rfl _ rfl _ rfl _ rfl _ rfl _ rfl _ rfl _ rfl _ rfl _ rfl _ rfl _ _ _ _ _ _ _ _
     show WL _ _ _ _ _ _ _
     refine sk a9 ?_
     exact f1
    ·intro _ b rk _
     rintro _ rfl _ rfl _ rfl _ rfl _ rfl _ rfl _ rfl _ rfl _ rfl _ rfl _ rfl _ rfl _ rfl _ rfl _ rfl _ rfl _ rfl _ rfl _ rfl _ rfl _ rfl _ rfl _ rfl _ rfl _ rfl _ rfl _ rfl _ rfl _ rfl _ rfl _ rfl _ rfl _ rfl _ rfl _ rfl _ rfl _ rfl _ rfl _ rfl _ rfl _ rfl _ rfl _ _ _ _ _ _ _
     show WL _ _ _ _ _ _ _
     refine sk a9 ?_
     exact f1
    ·intro _ b rm _
     rintro _ rfl _ rfl _ rfl _ rfl _ rfl _ rfl _ rfl _ rfl _ rfl _ rfl _ rfl _ rfl _ rfl _ rfl _ rfl _ rfl _ rfl _ rfl _ rfl _ rfl _ rfl _ rfl _ rfl _ rfl _ rfl _ rfl _ rfl _ rfl _ rfl _ rfl _ rfl _ rfl _ rfl _ rfl _ rfl _ rfl _ rfl _ rfl _ rfl _ rfl _ rfl _ rfl _ rfl _ _ _ _ _ _
     show WL _ _ _ _ _ _ _
     refine su ?_
     exact f1
    ·intro _ b rn _
     rintro _ rfl _ rfl _ rfl _ rfl _ rfl _ rfl _ rfl _ rfl _ rfl _ rfl _ rfl _ rfl _ rfl _ rfl _ rfl _ rfl _ rfl _ rfl _ rfl _ rfl _ rfl _ rfl _ rfl _ rfl _ rfl _ rfl _ rfl _ rfl _ rfl _ rfl _ rfl _ rfl _ rfl _ rfl _ rfl _ rfl _ rfl _ rfl _ rfl _ rfl _ rfl _ rfl _ rfl _ rfl _ _ _ _ _
     show WL _ _ _ _ _ _ _
     refine su ?_
     exact f1
    ·intro _ b ro _
     rintro _ rfl _ rfl _ rfl _ rfl _ rfl _ rfl _ rfl _ rfl _ rfl _ rfl _ rfl _ rfl _ rfl _ rfl _ rfl _ rfl _ rfl _ rfl _ rfl _ rfl _ rfl _ rfl _ rfl _ rfl _ rfl _ rfl _ rfl _ rfl _ rfl _ rfl _ rfl _ rfl _ rfl _ rfl _ rfl _ rfl _ rfl _ rfl _ rfl _ rfl _ rfl _ rfl _ rfl _ rfl _ rfl _ _ _ _
     show WL _ _ _ _ _ _ _
     refine su ?_
     exact f1
    ·intro _ b rp _
     rintro _ rfl _ rfl _ rfl _ rfl _ rfl _ rfl _ rfl _ rfl _ rfl _ rfl _ rfl _ rfl _ rfl _ rfl _ rfl _ rfl _ rfl _ rfl _ rfl _ rfl _ rfl _ rfl _ rfl _ rfl _ rfl _ rfl _ rfl _ rfl _ rfl _ rfl _ rfl _ rfl _ rfl _ rfl _ rfl _ rfl _ rfl _ rfl _ rfl _ rfl _ rfl _ rfl _ rfl _ _ _ _ _ _
     show WL _ _ _ _ _ _ _
     refine su ?_
     exact f1
    ·intro _ b rq _
     rintro _ rfl _ rfl _ rfl _ rfl _ rfl _ rfl _ rfl _ rfl _ rfl _ rfl _ rfl _ rfl _ rfl _ rfl _ rfl _ rfl _ rfl _ rfl _ rfl _ rfl _ rfl _ rfl _ rfl _ rfl _ rfl _ rfl _ rfl _ rfl _ rfl _ rfl _ rfl _ rfl _ rfl _ rfl _ rfl _ rfl _ rfl _ rfl _ rfl _ rfl _ rfl _ rfl _ rfl _ rfl _ rfl _ _ rfl _ _
     show WL _ _ _ _ _ _ _
     refine su ?_
     exact f1
    ·intro _ b rr _
     rintro _ rfl _ rfl _ rfl _ rfl _ rfl _ rfl _ rfl _ rfl _ rfl _ rfl _ rfl _ rfl _ rfl _ rfl _ rfl _ rfl _ rfl _ rfl _ rfl _ rfl _ rfl _ rfl _ rfl _ rfl _ rfl _ rfl _ rfl _ rfl _ rfl _ rfl _ rfl _ rfl _ rfl _ rfl _ rfl _ rfl _ rfl _ rfl _ rfl _ rfl _ rfl _ rfl _ rfl _ rfl _ rfl _ _ rfl _ rfl _
     show WL _ _ _ _ _ _ _
     refine su ?_
     exact f1
   ·intro _ b ig
    have ih := bq.extk ig
    rintro _ rfl _ rfl _ rfl _ rfl _ rfl _ rfl _ rfl _ rfl _ rfl _ rfl _ rfl _ rfl _ rfl _ rfl _ rfl _ rfl _ rfl _ rfl _ rfl _ rfl _ rfl _ rfl _ rfl _ rfl _ rfl _ rfl _ rfl _ rfl _ rfl _ rfl _ rfl _ rfl _ rfl _ rfl _ rfl _ rfl _ rfl _ rfl _ rfl _ rfl _ rfl _ rfl _ rfl _ rfl _ rfl _ rfl _ rfl _ rfl _ rfl
    show WL _ _ _ _ _ _ _
    refine su ?_
    refine sk a9 ?_
    refine pf (vb false) wN a9 ?_
    refine aw (vb false) ?_
    refine n3 ?_
    refine rt (vb false) ?_
    have ii : ntLaw x d a J = false := by obtain rfl : i = d.1.length := (by omega); subst bh; have hz := allN_t (f := ntG d) (n := d.1.length) (k := d.1.length) bj (by omega); simp only [ntLaw, ntT, ntS, hz, aL, aM, a0, aa, ah, a8, a9, cond_true, cond_false]; try rfl
    exact ⟨d, a, J, ih.keep0, bl, bm, bn, by rw [ii]⟩
  rcases bt (eqS (i_NoteName ((l_at x 2) % 20)) (ByteArray.mk ([] : List UInt8).toArray)) with bb | bb
  ·refine wc_drawT ([(69, [], [], (fun _ v _ => v = (vi k))), (70, [], [], (fun _ v _ => v = (vs aC (i_Pick ((d).1) ((d).2)).length aD))), (71, [], [1], (fun _ v _ => v = (vi ((i_Pick ((d).1) ((d).2)).length : Int)))), (72, [], [0, 1, 2], (fun _ v _ => v = (vb (decide (k = ((i_Pick ((d).1) ((d).2)).length : Int)))))), (73, [], [0, 1, 2, 3], (fun _ v _ => v = (vb (decide (k = ((i_Pick ((d).1) ((d).2)).length : Int)))))), (74, [], [0, 1, 2, 3, 4], (fun _ v _ => v = (va (L_31 ((a).1) Q R S T V W X Y)))), (75, [], [0, 1, 2, 3, 4], (fun _ v _ => v = (va (L_31 ((a).1) Q R S T V W X Y)))), (76, [], [0, 1, 2, 3, 4, 5, 6], (fun _ v w => v = .bool (i_SameNote ((a).1) ((a).1)))), (77, [], [0, 1, 2, 3, 4, 5, 6, 7], (fun _ v _ => v = (vb (i_SameNote ((a).1) ((a).1))))), (78, [], [0, 1, 2, 3, 4, 5, 6, 7, 8], (fun _ v _ => v = (vb (i_SameNote ((a).1) ((a).1))))), (79, [], [0, 1, 2, 3, 4, 5, 6, 7, 8, 9], (fun _ v _ => v = (va (L_31 ((a).1) Q R S T V W X Y)))), (80, [], [0, 1, 2, 3, 4, 5, 6, 7, 8, 9], (fun _ v _ => v = (va (L_31 ((a).2) ai aj ak am an ao ap aq)))), (81, [], [0, 1, 2, 3, 4, 5, 6, 7, 8, 9, 10, 11], (fun _ v w => v = .bool (i_SameNote ((a).1) ((a).2)))), (82, [], [0, 1, 2, 3, 4, 5, 6, 7, 8, 9], (fun _ v _ => v = (va (L_31 ((a).1) Q R S T V W X Y)))), (83, [], [0, 1, 2, 3, 4, 5, 6, 7, 8, 9], (fun _ v _ => v = (va (L_31 ((a).2) ai aj ak am an ao ap aq)))), (84, [], [0, 1, 2, 3, 4, 5, 6, 7, 8, 9, 10, 11, 12, 13, 14], (fun _ v w => v = .bool (s_SameNote ((a).1) ((a).2)))), (85, [], [0, 1, 2, 3, 4, 5, 6, 7, 8, 9, 10, 11, 12, 13, 14, 15], (fun _ v _ => v = (vb ((i_SameNote ((a).1) ((a).2)) == (s_SameNote ((a).1) ((a).2)))))), (86, [], [0, 1, 2, 3, 4, 5, 6, 7, 8, 9, 10, 11, 12, 13, 14, 15, 16], (fun _ v _ => v = (vb ((i_SameNote ((a).1) ((a).2)) == (s_SameNote ((a).1) ((a).2)))))), (87, [], [0, 1, 2, 3, 4, 5, 6, 7, 8, 9, 10, 11, 12, 13, 14, 15, 16, 17], (fun _ v _ => v = (vb ((i_SameNote ((a).1) ((a).2)) == (s_SameNote ((a).1) ((a).2)))))), (88, [], [0, 1, 2, 3, 4, 5, 6, 7, 8, 9, 10, 11, 12, 13, 14, 15, 16, 17, 18], (fun _ v _ => v = (va (L_31 ((a).2) ai aj ak am an ao ap aq)))), (89, [], [0, 1, 2, 3, 4, 5, 6, 7, 8, 9, 10, 11, 12, 13, 14, 15, 16, 17, 18], (fun _ v _ => v = (va (L_31 ((a).1) Q R S T V W X Y)))), (90, [], [0, 1, 2, 3, 4, 5, 6, 7, 8, 9, 10, 11, 12, 13, 14, 15, 16, 17, 18, 19, 20], (fun _ v w => v = .bool (i_SameNote ((a).2) ((a).1)))), (91, [], [0, 1, 2, 3, 4, 5, 6, 7, 8, 9, 10, 11, 12, 13, 14, 15, 16, 17, 18], (fun _ v _ => v = (va (L_31 ((a).1) Q R S T V W X Y)))), (92, [], [0, 1, 2, 3, 4, 5, 6, 7, 8, 9, 10, 11, 12, 13, 14, 15, 16, 17, 18], (fun _ v _ => v = (va (L_31 ((a).2) ai aj ak am an ao ap aq)))), (93, [], [0, 1, 2, 3, 4, 5, 6, 7, 8, 9, 10, 11, 12, 13, 14, 15, 16, 17, 18, 19, 20, 21, 22, 23], (fun _ v w => v = .bool (i_SameNote ((a).1) ((a).2)))), (94, [], [0, 1, 2, 3, 4, 5, 6, 7, 8, 9, 10, 11, 12, 13, 14, 15, 16, 17, 18, 19, 20, 21, 22, 23, 24], (fun _ v _ => v = (vb ((i_SameNote ((a).2) ((a).1)) == (i_SameNote ((a).1) ((a).2)))))), (95, [], [0, 1, 2, 3, 4, 5, 6, 7, 8, 9, 10, 11, 12, 13, 14, 15, 16, 17, 18, 19, 20, 21, 22, 23, 24, 25], (fun _ v _ => v = (vb ((i_SameNote ((a).2) ((a).1)) == (i_SameNote ((a).1) ((a).2)))))), (96, [], [0, 1, 2, 3, 4, 5, 6, 7, 8, 9, 10, 11, 12, 13, 14, 15, 16, 17, 18, 19, 20, 21, 22, 23, 24, 25, 26], (fun _ v _ => v = (vb ((i_SameNote ((a).2) ((a).1)) == (i_SameNote ((a).1) ((a).2)))))), (97, [], [0, 1, 2, 3, 4, 5, 6, 7, 8, 9, 10, 11, 12, 13, 14, 15, 16, 17, 18, 19, 20, 21, 22, 23, 24, 25, 26, 27], (fun _ v _ => v = (va (L_31 (J) aP aQ aR aS aT aU aV aW)))), (98, [], [0, 1, 2, 3, 4, 5, 6, 7, 8, 9, 10, 11, 12, 13, 14, 15, 16, 17, 18, 19, 20, 21, 22, 23, 24, 25, 26, 27, 28], (fun _ v w => v = .bool (i_NoteOk (J)))), (99, [], [0, 1, 2, 3, 4, 5, 6, 7, 8, 9, 10, 11, 12, 13, 14, 15, 16, 17, 18, 19, 20, 21, 22, 23, 24, 25, 26, 27], (fun _ v _ => v = (va (L_31 (J) aP aQ aR aS aT aU aV aW)))), (100, [], [0, 1, 2, 3, 4, 5, 6, 7, 8, 9, 10, 11, 12, 13, 14, 15, 16, 17, 18, 19, 20, 21, 22, 23, 24, 25, 26, 27, 28, 29, 30], (fun _ v w => v = .bool (s_NoteOk (J)))), (101, [], [0, 1, 2, 3, 4, 5, 6, 7, 8, 9, 10, 11, 12, 13, 14, 15, 16, 17, 18, 19, 20, 21, 22, 23, 24, 25, 26, 27, 28, 29, 30, 31], (fun _ v _ => v = (vb ((i_NoteOk (J)) == (s_NoteOk (J)))))), (102, [], [0, 1, 2, 3, 4, 5, 6, 7, 8, 9, 10, 11, 12, 13, 14, 15, 16, 17, 18, 19, 20, 21, 22, 23, 24, 25, 26, 27, 28, 29, 30, 31, 32], (fun _ v _ => v = (vb ((i_NoteOk (J)) == (s_NoteOk (J)))))), (103, [], [0, 1, 2, 3, 4, 5, 6, 7, 8, 9, 10, 11, 12, 13, 14, 15, 16, 17, 18, 19, 20, 21, 22, 23, 24, 25, 26, 27, 28, 29, 30, 31, 32, 33], (fun _ v _ => v = (vb ((i_NoteOk (J)) == (s_NoteOk (J)))))), (104, [], [0, 1, 2, 3, 4, 5, 6, 7, 8, 9, 10, 11, 12, 13, 14, 15, 16, 17, 18, 19, 20, 21, 22, 23, 24, 25, 26, 27, 28, 29, 30, 31, 32, 33, 34], (fun _ v _ => v = (.string (i_NoteName ((l_at x 2) % 20))))), (105, [], [0, 1, 2, 3, 4, 5, 6, 7, 8, 9, 10, 11, 12, 13, 14, 15, 16, 17, 18, 19, 20, 21, 22, 23, 24, 25, 26, 27, 28, 29, 30, 31, 32, 33, 34, 35], (fun _ v _ => v = (vb (eqS (i_NoteName ((l_at x 2) % 20)) (ByteArray.mk ([] : List UInt8).toArray))))), (106, [], [0, 1, 2, 3, 4, 5, 6, 7, 8, 9, 10, 11, 12, 13, 14, 15, 16, 17, 18, 19, 20, 21, 22, 23, 24, 25, 26, 27, 28, 29, 30, 31, 32, 33, 34, 35, 36], (fun _ v _ => v = (vb (eqS (i_NoteName ((l_at x 2) % 20)) (ByteArray.mk ([] : List UInt8).toArray))))), (107, [], [0, 1, 2, 3, 4, 5, 6, 7, 8, 9, 10, 11, 12, 13, 14, 15, 16, 17, 18, 19, 20, 21, 22, 23, 24, 25, 26, 27, 28, 29, 30, 31, 32, 33, 34, 35, 36, 37], (fun _ v _ => v = U)), (108, [], [0, 1, 2, 3, 4, 5, 6, 7, 8, 9, 10, 11, 12, 13, 14, 15, 16, 17, 18, 19, 20, 21, 22, 23, 24, 25, 26, 27, 28, 29, 30, 31, 32, 33, 34, 35, 36, 37], (fun _ v _ => v = U)), (109, [], [0, 1, 2, 3, 4, 5, 6, 7, 8, 9, 10, 11, 12, 13, 14, 15, 16, 17, 18, 19, 20, 21, 22, 23, 24, 25, 26, 27, 28, 29, 30, 31, 32, 33, 34, 35, 36, 37, 38, 39], (fun _ v _ => v = U)), (110, [], [0, 1, 2, 3, 4, 5, 6, 7, 8, 9, 10, 11, 12, 13, 14, 15, 16, 17, 18, 19, 20, 21, 22, 23, 24, 25, 26, 27, 28, 29, 30, 31, 32, 33, 34, 35, 36, 37, 38, 39, 40], (fun _ v _ => v = (vb true))), (111, [], [0, 1, 2, 3, 4, 5, 6, 7, 8, 9, 10, 11, 12, 13, 14, 15, 16, 17, 18, 19, 20, 21, 22, 23, 24, 25, 26, 27, 28, 29, 30, 31, 32, 33, 34, 35, 36, 37, 38, 39, 40, 41], (fun _ v _ => v = (vb true))), (112, [], [0, 1, 2, 3, 4, 5, 6, 7, 8, 9, 10, 11, 12, 13, 14, 15, 16, 17, 18, 19, 20, 21, 22, 23, 24, 25, 26, 27, 28, 29, 30, 31, 32, 33, 34, 35, 36, 37, 38, 39, 40, 41, 42], (fun _ v _ => v = U)), (113, [], [0, 1, 2, 3, 4, 5, 6, 7, 8, 9, 10, 11, 12, 13, 14, 15, 16, 17, 18, 19, 20, 21, 22, 23, 24, 25, 26, 27, 28, 29, 30, 31, 32, 33, 34, 35, 36, 37, 38, 39, 40, 41, 42, 43], (fun _ v _ => v = U)), (114, [], [0, 1, 2, 3, 4, 5, 6, 7, 8, 9, 10, 11, 12, 13, 14, 15, 16, 17, 18, 19, 20, 21, 22, 23, 24, 25, 26, 27, 28, 29, 30, 31, 32, 33, 34, 35, 36, 37, 38, 39, 40, 41, 42, 43, 44], (fun _ v _ => v = U)), (115, [], [0, 1, 2, 3, 4, 5, 6, 7, 8, 9, 10, 11, 12, 13, 14, 15, 16, 17, 18, 19, 20, 21, 22, 23, 24, 25, 26, 27, 28, 29, 30, 31, 32, 33, 34, 35, 36, 37, 38, 39, 40, 41, 42], (fun _ v _ => v = U)), (116, [], [0, 1, 2, 3, 4, 5, 6, 7, 8, 9, 10, 11, 12, 13, 14, 15, 16, 17, 18, 19, 20, 21, 22, 23, 24, 25, 26, 27, 28, 29, 30, 31, 32, 33, 34, 35, 36, 37, 38, 39, 40, 41, 42, 43, 44, 46], (fun _ v _ => v = U)), (117, [], [0, 1, 2, 3, 4, 5, 6, 7, 8, 9, 10, 11, 12, 13, 14, 15, 16, 17, 18, 19, 20, 21, 22, 23, 24, 25, 26, 27, 28, 29, 30, 31, 32, 33, 34, 35, 36, 37, 38, 39, 40, 41, 42, 43, 44, 46, 47], (fun _ v _ => v = U))] : GV) (fun _ aE => Keep b4 aE) [] mixed rfl (by kernel_rfl) (by kernel_rfl) ?_ (fun _ _ h => h) (fun _ _ _ _ h _ k => h.trans k) trivial ?_ ?_ ?_
   ·exact ⟨hV, hE, ⟨hV, hE, ⟨hV, hE, ⟨hV, hE, ⟨hV, hE, ⟨hV, hE, ⟨hV, hE, ⟨hV, hE, ⟨hV, hE, ⟨hV, hE, ⟨hV, hE, ⟨hV, hE, ⟨hV, hE, ⟨hV, hE, ⟨hV, hE, ⟨hV, hE, ⟨hV, hE, ⟨hV, hE, ⟨hV, hE, ⟨hV, hE, ⟨hV, hE, ⟨hV, hE, ⟨hV, hE, ⟨hV, hE, ⟨hV, hE, ⟨hV, hE, ⟨hV, hE, ⟨hV, hE, ⟨hV, hE, ⟨hV, hE, ⟨hV, hE, ⟨hV, hE, ⟨hV, hE, ⟨hV, hE, ⟨hV, hE, ⟨hV, hE, ⟨hV, hE, ⟨hV, hE, ⟨hV, hE, ⟨hV, hE, ⟨hV, hE, ⟨hV, hE, ⟨hV, hE, ⟨hV, hE, ⟨hV, hE, ⟨hV, hE, ⟨hV, hE, ⟨hV, hE, ⟨hV, hE, trivial⟩⟩⟩⟩⟩⟩⟩⟩⟩⟩⟩⟩⟩⟩⟩⟩⟩⟩⟩⟩⟩⟩⟩⟩⟩⟩⟩⟩⟩⟩⟩⟩⟩⟩⟩⟩⟩⟩⟩⟩⟩⟩⟩⟩⟩⟩⟩⟩⟩
   ·exact trivial
   ·refine ⟨?_, ⟨?_, ⟨?_, ⟨?_, ⟨?_, ⟨?_, ⟨?_, ⟨?_, ⟨?_, ⟨?_, ⟨?_, ⟨?_, ⟨?_, ⟨?_, ⟨?_, ⟨?_, ⟨?_, ⟨?_, ⟨?_, ⟨?_, ⟨?_, ⟨?_, ⟨?_, ⟨?_, ⟨?_, ⟨?_, ⟨?_, ⟨?_, ⟨?_, ⟨?_, ⟨?_, ⟨?_, ⟨?_, ⟨?_, ⟨?_, ⟨?_, ⟨?_, ⟨?_, ⟨?_, ⟨?_, ⟨?_, ⟨?_, ⟨?_, ⟨?_, ⟨?_, ⟨?_, ⟨?_, ⟨?_, ⟨?_, trivial⟩⟩⟩⟩⟩⟩⟩⟩⟩⟩⟩⟩⟩⟩⟩⟩⟩⟩⟩⟩⟩⟩⟩⟩⟩⟩⟩⟩⟩⟩⟩⟩⟩⟩⟩⟩⟩⟩⟩⟩⟩⟩⟩⟩⟩⟩⟩⟩⟩
    ·intro _ b rs _
     rintro _ _ _ _ _ _ _ _ _ _ _ _ _ _ _ _ _ _ _ _ _ _ _ _ _ _ _ _ _ _ _ _ _ _ _ _ _ _ _ _ _ _ _ _ _ _ _ _ _
     show WL _ _ _ _ _ _ _
     refine mw (vi k) ?_
     exact f1
    ·intro _ b ru _
     rintro _ _ _ _ _ _ _ _ _ _ _ _ _ _ _ _ _ _ _ _ _ _ _ _ _ _ _ _ _ _ _ _ _ _ _ _ _ _ _ _ _ _ _ _ _ _ _ _ _
     show WL _ _ _ _ _ _ _
     refine mw (vs aC (i_Pick ((d).1) ((d).2)).length aD) ?_
     exact f1
    ·intro _ b ij _
     rintro _ _ rfl _ _ _ _ _ _ _ _ _ _ _ _ _ _ _ _ _ _ _ _ _ _ _ _ _ _ _ _ _ _ _ _ _ _ _ _ _ _ _ _ _ _ _ _ _ _ _
     show WL _ _ _ _ _ _ _
     have ik := (OLv.kp (OLv.kp (OLv.kp (OLv.kp (OLv.kp (OLv.ch (OLv.ch (OLv.kp (OLv.kp (OLv.ch (OLv.ch (OLv.kp (OLv.kp (OLv.kp bi ab) t) r) m (fun g M N hk => by have O := nT ab.size a1; omega)) l (fun g M N hk => by have O := nT (z2 ab t) P; omega)) e) q) p (fun g M N hk => by have O := nT (z6 ab t r m l e) I; omega)) y (fun g M N hk => by have O : Z.heap.size ≤ K.heap.size := (z8 ab t r m l e q p); have bo : K.heap.size ≤ g := hk; omega)) B) C) D) F) ij)
     obtain ⟨rv, il⟩ := RLv.row (OLv.rl ik)
     refine ln wN slTy_24 il ?_
     exact f1
    ·intro _ b rx _
     rintro _ rfl _ rfl _ rfl _ _ _ _ _ _ _ _ _ _ _ _ _ _ _ _ _ _ _ _ _ _ _ _ _ _ _ _ _ _ _ _ _ _ _ _ _ _ _ _ _ _ _ _ _ _
     show WL _ _ _ _ _ _ _
     refine pu (vb (decide (k = ((i_Pick ((d).1) ((d).2)).length : Int)))) wN ?_
     exact f1
    ·intro _ b ry _
     rintro _ rfl _ rfl _ rfl _ rfl _ _ _ _ _ _ _ _ _ _ _ _ _ _ _ _ _ _ _ _ _ _ _ _ _ _ _ _ _ _ _ _ _ _ _ _ _ _ _ _ _ _ _ _ _
     show WL _ _ _ _ _ _ _
     refine mw (vb (decide (k = ((i_Pick ((d).1) ((d).2)).length : Int)))) ?_
     exact f1
    ·intro _ b im _
     rintro _ rfl _ rfl _ rfl _ rfl _ rfl _ _ _ _ _ _ _ _ _ _ _ _ _ _ _ _ _ _ _ _ _ _ _ _ _ _ _ _ _ _ _ _ _ _ _ _ _ _ _ _ _ _ _ _
     show WL _ _ _ _ _ _ _
     have io := ((((((((((a7.ch l (nN (nL H (P)))).kp e).kp q).ch p (nN (nL H (nT (z4 r m l e) I)))).ch y (Nat.not_le.2 (nL H (z6 r m l e q p)))).kp B).kp C).kp D).kp F).kp im)
     refine lN (L_31 ((a).1) Q R S T V W X Y) (wS a0) isAgg_31 sizeOf_31 io ?_
     exact f1
    ·intro _ b ip _
     rintro _ rfl _ rfl _ rfl _ rfl _ rfl _ _ _ _ _ _ _ _ _ _ _ _ _ _ _ _ _ _ _ _ _ _ _ _ _ _ _ _ _ _ _ _ _ _ _ _ _ _ _ _ _ _ _ _
     show WL _ _ _ _ _ _ _
     have iq := ((((((((((a7.ch l (nN (nL H (P)))).kp e).kp q).ch p (nN (nL H (nT (z4 r m l e) I)))).ch y (Nat.not_le.2 (nL H (z6 r m l e q p)))).kp B).kp C).kp D).kp F).kp ip)
     refine lN (L_31 ((a).1) Q R S T V W X Y) (wS a0) isAgg_31 sizeOf_31 iq ?_
     exact f1
    ·intro _ b ir _
     rintro _ rfl _ rfl _ rfl _ rfl _ rfl _ rfl _ rfl _ _ _ _ _ _ _ _ _ _ _ _ _ _ _ _ _ _ _ _ _ _ _ _ _ _ _ _ _ _ _ _ _ _ _ _ _ _ _ _ _ _
     show WL _ _ _ _ _ _ _
     have cj := fun (E sz n : Nat) (v : Value) (G : List Value) (o : World.ownsRow L Z.heap.size E sz v n G) (s : World.ownsRow L Z.heap.size E sz v n G) => (own_kp (own_kp (own_kp (own_kp (own_kp (own_ch (own_ch (own_kp (own_kp (own_ch (own_ch (own_kp (own_kp o t) r) m (ne2 s (a1))) l (ne2 s (nT t.size P))) e) q) p (ne2 s (nT (z5 t r m l e) I))) y (fun g hg hlt hk => by have M := (own_lt s g hg).2; have N : L.heap.size ≤ K.heap.size := (z7 t r m l e q p); have O : K.heap.size ≤ g := hk; omega)) B) C) D) F) ir)
     have dg := (cj _ _ _ _ _ ac ac)
     have dh := (cj _ _ _ _ _ ad ad)
     have di := (cj _ _ _ _ _ ae ae)
     have dj := (cj _ _ _ _ _ af af)
     refine cl (wS a0) (ciSameNote b _ ((a).1) (mR_31 (Rd.of_own dg) a3 (Rd.of_own dh) a4 (Rd.of_own di) a5 (Rd.of_own dj) a6) _ ((a).1) (mR_31 (Rd.of_own dg) a3 (Rd.of_own dh) a4 (Rd.of_own di) a5 (Rd.of_own dj) a6)) ?_
     rintro _ a2 ⟨it, rfl⟩
     exact wl_finT it rfl
    ·intro _ b rz _
     rintro _ rfl _ rfl _ rfl _ rfl _ rfl _ rfl _ rfl _ rfl _ _ _ _ _ _ _ _ _ _ _ _ _ _ _ _ _ _ _ _ _ _ _ _ _ _ _ _ _ _ _ _ _ _ _ _ _ _ _ _ _
     show WL _ _ _ _ _ _ _
     refine pk (vb (i_SameNote ((a).1) ((a).1))) wN a0 ?_
     exact f1
    ·intro _ b r0 _
     rintro _ rfl _ rfl _ rfl _ rfl _ rfl _ rfl _ rfl _ rfl _ rfl _ _ _ _ _ _ _ _ _ _ _ _ _ _ _ _ _ _ _ _ _ _ _ _ _ _ _ _ _ _ _ _ _ _ _ _ _ _ _ _
     show WL _ _ _ _ _ _ _
     refine mw (vb (i_SameNote ((a).1) ((a).1))) ?_
     exact f1
    ·intro _ b iu _
     rintro _ rfl _ rfl _ rfl _ rfl _ rfl _ rfl _ rfl _ rfl _ rfl _ rfl _ _ _ _ _ _ _ _ _ _ _ _ _ _ _ _ _ _ _ _ _ _ _ _ _ _ _ _ _ _ _ _ _ _ _ _ _ _ _
     show WL _ _ _ _ _ _ _
     have iv := ((((((((((a7.ch l (nN (nL H (P)))).kp e).kp q).ch p (nN (nL H (nT (z4 r m l e) I)))).ch y (Nat.not_le.2 (nL H (z6 r m l e q p)))).kp B).kp C).kp D).kp F).kp iu)
     refine lN (L_31 ((a).1) Q R S T V W X Y) (wS aa) isAgg_31 sizeOf_31 iv ?_
     exact f1
    ·intro _ b iw _
     rintro _ rfl _ rfl _ rfl _ rfl _ rfl _ rfl _ rfl _ rfl _ rfl _ rfl _ _ _ _ _ _ _ _ _ _ _ _ _ _ _ _ _ _ _ _ _ _ _ _ _ _ _ _ _ _ _ _ _ _ _ _ _ _ _
     show WL _ _ _ _ _ _ _
     have iy := (((((((((aK.kp e).kp q).ch p (nN (nL az (nT (z3 m l e) I)))).ch y (Nat.not_le.2 (nL az (z5 m l e q p)))).kp B).kp C).kp D).kp F).kp iw)
     refine lN (L_31 ((a).2) ai aj ak am an ao ap aq) (wS aa) isAgg_31 sizeOf_31 iy ?_
     exact f1
    ·intro _ b iz _
     rintro _ rfl _ rfl _ rfl _ rfl _ rfl _ rfl _ rfl _ rfl _ rfl _ rfl _ rfl _ rfl _ _ _ _ _ _ _ _ _ _ _ _ _ _ _ _ _ _ _ _ _ _ _ _ _ _ _ _ _ _ _ _ _ _ _ _ _
     show WL _ _ _ _ _ _ _
     have bF := fun (E sz n : Nat) (v : Value) (G : List Value) (o : World.ownsRow L Z.heap.size E sz v n G) (s : World.ownsRow L Z.heap.size E sz v n G) => (own_kp (own_kp (own_kp (own_kp (own_kp (own_ch (own_ch (own_kp (own_kp (own_ch (own_ch (own_kp (own_kp o t) r) m (ne2 s (a1))) l (ne2 s (nT t.size P))) e) q) p (ne2 s (nT (z5 t r m l e) I))) y (fun g hg hlt hk => by have M := (own_lt s g hg).2; have N : L.heap.size ≤ K.heap.size := (z7 t r m l e q p); have O : K.heap.size ≤ g := hk; omega)) B) C) D) F) iz)
     have i0 := (bF _ _ _ _ _ ac ac)
     have i1 := (bF _ _ _ _ _ ad ad)
     have i2 := (bF _ _ _ _ _ ae ae)
     have i3 := (bF _ _ _ _ _ af af)
     have i4 := (bF _ _ _ _ _ au au)
     have i5 := (bF _ _ _ _ _ av av)
     have i6 := (bF _ _ _ _ _ ax ax)
     have i7 := (bF _ _ _ _ _ ay ay)
     refine cl (wS aa) (ciSameNote b _ ((a).1) (mR_31 (Rd.of_own i0) a3 (Rd.of_own i1) a4 (Rd.of_own i2) a5 (Rd.of_own i3) a6) _ ((a).2) (mR_31 (Rd.of_own i4) aG (Rd.of_own i5) aH (Rd.of_own i6) aI (Rd.of_own i7) aJ)) ?_
     rintro _ a2 ⟨i8, rfl⟩
     exact wl_finT i8 rfl
    ·intro _ b i9 _
     rintro _ rfl _ rfl _ rfl _ rfl _ rfl _ rfl _ rfl _ rfl _ rfl _ rfl _ _ _ _ _ _ _ _ _ _ _ _ _ _ _ _ _ _ _ _ _ _ _ _ _ _ _ _ _ _ _ _ _ _ _ _ _ _ _
     show WL _ _ _ _ _ _ _
     have iA := ((((((((((a7.ch l (nN (nL H (P)))).kp e).kp q).ch p (nN (nL H (nT (z4 r m l e) I)))).ch y (Nat.not_le.2 (nL H (z6 r m l e q p)))).kp B).kp C).kp D).kp F).kp i9)
     refine lN (L_31 ((a).1) Q R S T V W X Y) (wS aa) isAgg_31 sizeOf_31 iA ?_
     exact f1
    ·intro _ b iB _
     rintro _ rfl _ rfl _ rfl _ rfl _ rfl _ rfl _ rfl _ rfl _ rfl _ rfl _ _ _ _ _ _ _ _ _ _ _ _ _ _ _ _ _ _ _ _ _ _ _ _ _ _ _ _ _ _ _ _ _ _ _ _ _ _ _
     show WL _ _ _ _ _ _ _
     have iC := (((((((((aK.kp e).kp q).ch p (nN (nL az (nT (z3 m l e) I)))).ch y (Nat.not_le.2 (nL az (z5 m l e q p)))).kp B).kp C).kp D).kp F).kp iB)
     refine lN (L_31 ((a).2) ai aj ak am an ao ap aq) (wS aa) isAgg_31 sizeOf_31 iC ?_
     exact f1
    ·intro _ b iD _
     rintro _ rfl _ rfl _ rfl _ rfl _ rfl _ rfl _ rfl _ rfl _ rfl _ rfl _ rfl _ rfl _ rfl _ rfl _ rfl _ _ _ _ _ _ _ _ _ _ _ _ _ _ _ _ _ _ _ _ _ _ _ _ _ _ _ _ _ _ _ _ _ _
     show WL _ _ _ _ _ _ _
     have bG := fun (E sz n : Nat) (v : Value) (G : List Value) (o : World.ownsRow L Z.heap.size E sz v n G) (s : World.ownsRow L Z.heap.size E sz v n G) => (own_kp (own_kp (own_kp (own_kp (own_kp (own_ch (own_ch (own_kp (own_kp (own_ch (own_ch (own_kp (own_kp o t) r) m (ne2 s (a1))) l (ne2 s (nT t.size P))) e) q) p (ne2 s (nT (z5 t r m l e) I))) y (fun g hg hlt hk => by have M := (own_lt s g hg).2; have N : L.heap.size ≤ K.heap.size := (z7 t r m l e q p); have O : K.heap.size ≤ g := hk; omega)) B) C) D) F) iD)
     have iE := (bG _ _ _ _ _ ac ac)
     have iF := (bG _ _ _ _ _ ad ad)
     have iG := (bG _ _ _ _ _ ae ae)
     have iH := (bG _ _ _ _ _ af af)
     have iI := (bG _ _ _ _ _ au au)
     have iJ := (bG _ _ _ _ _ av av)
     have iK := (bG _ _ _ _ _ ax ax)
     have iL := (bG _ _ _ _ _ ay ay)
     refine cl (wS aa) (csSameNote b _ ((a).1) (mR_31 (Rd.of_own iE) a3 (Rd.of_own iF) a4 (Rd.of_own iG) a5 (Rd.of_own iH) a6) _ ((a).2) (mR_31 (Rd.of_own iI) aG (Rd.of_own iJ) aH (Rd.of_own iK) aI (Rd.of_own iL) aJ)) ?_
     rintro _ a2 ⟨iM, rfl⟩
     exact wl_finT iM rfl
    ·intro _ b r1 _
     rintro _ rfl _ rfl _ rfl _ rfl _ rfl _ rfl _ rfl _ rfl _ rfl _ rfl _ rfl _ rfl _ rfl _ rfl _ rfl _ rfl _ _ _ _ _ _ _ _ _ _ _ _ _ _ _ _ _ _ _ _ _ _ _ _ _ _ _ _ _ _ _ _ _
     show WL _ _ _ _ _ _ _
     refine pu (vb ((i_SameNote ((a).1) ((a).2)) == (s_SameNote ((a).1) ((a).2)))) (wS aa) ?_
     exact f1
    ·intro _ b r2 _
     rintro _ rfl _ rfl _ rfl _ rfl _ rfl _ rfl _ rfl _ rfl _ rfl _ rfl _ rfl _ rfl _ rfl _ rfl _ rfl _ rfl _ rfl _ _ _ _ _ _ _ _ _ _ _ _ _ _ _ _ _ _ _ _ _ _ _ _ _ _ _ _ _ _ _ _
     show WL _ _ _ _ _ _ _
     refine pk (vb ((i_SameNote ((a).1) ((a).2)) == (s_SameNote ((a).1) ((a).2)))) wN aa ?_
     exact f1
    ·intro _ b r3 _
     rintro _ rfl _ rfl _ rfl _ rfl _ rfl _ rfl _ rfl _ rfl _ rfl _ rfl _ rfl _ rfl _ rfl _ rfl _ rfl _ rfl _ rfl _ rfl _ _ _ _ _ _ _ _ _ _ _ _ _ _ _ _ _ _ _ _ _ _ _ _ _ _ _ _ _ _ _
     show WL _ _ _ _ _ _ _
     refine mw (vb ((i_SameNote ((a).1) ((a).2)) == (s_SameNote ((a).1) ((a).2)))) ?_
     exact f1
    ·intro _ b iN _
     rintro _ rfl _ rfl _ rfl _ rfl _ rfl _ rfl _ rfl _ rfl _ rfl _ rfl _ rfl _ rfl _ rfl _ rfl _ rfl _ rfl _ rfl _ rfl _ rfl _ _ _ _ _ _ _ _ _ _ _ _ _ _ _ _ _ _ _ _ _ _ _ _ _ _ _ _ _ _
     show WL _ _ _ _ _ _ _
     have iO := (((((((((aK.kp e).kp q).ch p (nN (nL az (nT (z3 m l e) I)))).ch y (Nat.not_le.2 (nL az (z5 m l e q p)))).kp B).kp C).kp D).kp F).kp iN)
     refine lN (L_31 ((a).2) ai aj ak am an ao ap aq) (wS ah) isAgg_31 sizeOf_31 iO ?_
     exact f1
    ·intro _ b iP _
     rintro _ rfl _ rfl _ rfl _ rfl _ rfl _ rfl _ rfl _ rfl _ rfl _ rfl _ rfl _ rfl _ rfl _ rfl _ rfl _ rfl _ rfl _ rfl _ rfl _ _ _ _ _ _ _ _ _ _ _ _ _ _ _ _ _ _ _ _ _ _ _ _ _ _ _ _ _ _
     show WL _ _ _ _ _ _ _
     have iQ := ((((((((((a7.ch l (nN (nL H (P)))).kp e).kp q).ch p (nN (nL H (nT (z4 r m l e) I)))).ch y (Nat.not_le.2 (nL H (z6 r m l e q p)))).kp B).kp C).kp D).kp F).kp iP)
     refine lN (L_31 ((a).1) Q R S T V W X Y) (wS ah) isAgg_31 sizeOf_31 iQ ?_
     exact f1
    ·intro _ b iR _
     rintro _ rfl _ rfl _ rfl _ rfl _ rfl _ rfl _ rfl _ rfl _ rfl _ rfl _ rfl _ rfl _ rfl _ rfl _ rfl _ rfl _ rfl _ rfl _ rfl _ rfl _ rfl _ _ _ _ _ _ _ _ _ _ _ _ _ _ _ _ _ _ _ _ _ _ _ _ _ _ _ _
     show WL _ _ _ _ _ _ _
     have bH := fun (E sz n : Nat) (v : Value) (G : List Value) (o : World.ownsRow L Z.heap.size E sz v n G) (s : World.ownsRow L Z.heap.size E sz v n G) => (own_kp (own_kp (own_kp (own_kp (own_kp (own_ch (own_ch (own_kp (own_kp (own_ch (own_ch (own_kp (own_kp o t) r) m (ne2 s (a1))) l (ne2 s (nT t.size P))) e) q) p (ne2 s (nT (z5 t r m l e) I))) y (fun g hg hlt hk => by have M := (own_lt s g hg).2; have N : L.heap.size ≤ K.heap.size := (z7 t r m l e q p); have O : K.heap.size ≤ g := hk; omega)) B) C) D) F) iR)
     have iS := (bH _ _ _ _ _ au au)
     have iT := (bH _ _ _ _ _ av av)
     have iU := (bH _ _ _ _ _ ax ax)
     have iW := (bH _ _ _ _ _ ay ay)
     have iX := (bH _ _ _ _ _ ac ac)
     have iY := (bH _ _ _ _ _ ad ad)
     have iZ := (bH _ _ _ _ _ ae ae)
     have ja := (bH _ _ _ _ _ af af)
     refine cl (wS ah) (ciSameNote b _ ((a).2) (mR_31 (Rd.of_own iS) aG (Rd.of_own iT) aH (Rd.of_own iU) aI (Rd.of_own iW) aJ) _ ((a).1) (mR_31 (Rd.of_own iX) a3 (Rd.of_own iY) a4 (Rd.of_own iZ) a5 (Rd.of_own ja) a6)) ?_
     rintro _ a2 ⟨jb, rfl⟩
     exact wl_finT jb rfl
    ·intro _ b jc _
     rintro _ rfl _ rfl _ rfl _ rfl _ rfl _ rfl _ rfl _ rfl _ rfl _ rfl _ rfl _ rfl _ rfl _ rfl _ rfl _ rfl _ rfl _ rfl _ rfl _ _ _ _ _ _ _ _ _ _ _ _ _ _ _ _ _ _ _ _ _ _ _ _ _ _ _ _ _ _
     show WL _ _ _ _ _ _ _
     have jd := ((((((((((a7.ch l (nN (nL H (P)))).kp e).kp q).ch p (nN (nL H (nT (z4 r m l e) I)))).ch y (Nat.not_le.2 (nL H (z6 r m l e q p)))).kp B).kp C).kp D).kp F).kp jc)
     refine lN (L_31 ((a).1) Q R S T V W X Y) (wS ah) isAgg_31 sizeOf_31 jd ?_
     exact f1
    ·intro _ b je _
     rintro _ rfl _ rfl _ rfl _ rfl _ rfl _ rfl _ rfl _ rfl _ rfl _ rfl _ rfl _ rfl _ rfl _ rfl _ rfl _ rfl _ rfl _ rfl _ rfl _ _ _ _ _ _ _ _ _ _ _ _ _ _ _ _ _ _ _ _ _ _ _ _ _ _ _ _ _ _
     show WL _ _ _ _ _ _ _
     have jf := (((((((((aK.kp e).kp q).ch p (nN (nL az (nT (z3 m l e) I)))).ch y (Nat.not_le.2 (nL az (z5 m l e q p)))).kp B).kp C).kp D).kp F).kp je)
     refine lN (L_31 ((a).2) ai aj ak am an ao ap aq) (wS ah) isAgg_31 sizeOf_31 jf ?_
     exact f1
    ·intro _ b jg _
     rintro _ rfl _ rfl _ rfl _ rfl _ rfl _ rfl _ rfl _ rfl _ rfl _ rfl _ rfl _ rfl _ rfl _ rfl _ rfl _ rfl _ rfl _ rfl _ rfl _ rfl _ rfl _ rfl _ rfl _ rfl _ _ _ _ _ _ _ _ _ _ _ _ _ _ _ _ _ _ _ _ _ _ _ _ _
     show WL _ _ _ _ _ _ _
     have bI := fun (E sz n : Nat) (v : Value) (G : List Value) (o : World.ownsRow L Z.heap.size E sz v n G) (s : World.ownsRow L Z.heap.size E sz v n G) => (own_kp (own_kp (own_kp (own_kp (own_kp (own_ch (own_ch (own_kp (own_kp (own_ch (own_ch (own_kp (own_kp o t) r) m (ne2 s (a1))) l (ne2 s (nT t.size P))) e) q) p (ne2 s (nT (z5 t r m l e) I))) y (fun g hg hlt hk => by have M := (own_lt s g hg).2; have N : L.heap.size ≤ K.heap.size := (z7 t r m l e q p); have O : K.heap.size ≤ g := hk; omega)) B) C) D) F) jg)
     have jh := (bI _ _ _ _ _ ac ac)
     have ji := (bI _ _ _ _ _ ad ad)
     have jj := (bI _ _ _ _ _ ae ae)
     have jk := (bI _ _ _ _ _ af af)
     have jl := (bI _ _ _ _ _ au au)
     have jm := (bI _ _ _ _ _ av av)
     have jn := (bI _ _ _ _ _ ax ax)
     have jo := (bI _ _ _ _ _ ay ay)
     refine cl (wS ah) (ciSameNote b _ ((a).1) (mR_31 (Rd.of_own jh) a3 (Rd.of_own ji) a4 (Rd.of_own jj) a5 (Rd.of_own jk) a6) _ ((a).2) (mR_31 (Rd.of_own jl) aG (Rd.of_own jm) aH (Rd.of_own jn) aI (Rd.of_own jo) aJ)) ?_
     rintro _ a2 ⟨jp, rfl⟩
     exact wl_finT jp rfl
    ·intro _ b r4 _
     rintro _ rfl _ rfl _ rfl _ rfl _ rfl _ rfl _ rfl _ rfl _ rfl _ rfl _ rfl _ rfl _ rfl _ rfl _ rfl _ rfl _ rfl _ rfl _ rfl _ rfl _ rfl _ rfl _ rfl _ rfl _ rfl _ _ _ _ _ _ _ _ _ _ _ _ _ _ _ _ _ _ _ _ _ _ _ _
     show WL _ _ _ _ _ _ _
     refine pu (vb ((i_SameNote ((a).2) ((a).1)) == (i_SameNote ((a).1) ((a).2)))) (wS ah) ?_
     exact f1
    ·intro _ b r5 _
     rintro _ rfl _ rfl _ rfl _ rfl _ rfl _ rfl _ rfl _ rfl _ rfl _ rfl _ rfl _ rfl _ rfl _ rfl _ rfl _ rfl _ rfl _ rfl _ rfl _ rfl _ rfl _ rfl _ rfl _ rfl _ rfl _ rfl _ _ _ _ _ _ _ _ _ _ _ _ _ _ _ _ _ _ _ _ _ _ _
     show WL _ _ _ _ _ _ _
     refine pk (vb ((i_SameNote ((a).2) ((a).1)) == (i_SameNote ((a).1) ((a).2)))) wN ah ?_
     exact f1
    ·intro _ b r6 _
     rintro _ rfl _ rfl _ rfl _ rfl _ rfl _ rfl _ rfl _ rfl _ rfl _ rfl _ rfl _ rfl _ rfl _ rfl _ rfl _ rfl _ rfl _ rfl _ rfl _ rfl _ rfl _ rfl _ rfl _ rfl _ rfl _ rfl _ rfl _ _ _ _ _ _ _ _ _ _ _ _ _ _ _ _ _ _ _ _ _ _
     show WL _ _ _ _ _ _ _
     refine mw (vb ((i_SameNote ((a).2) ((a).1)) == (i_SameNote ((a).1) ((a).2)))) ?_
     exact f1
    ·intro _ b jq _
     rintro _ rfl _ rfl _ rfl _ rfl _ rfl _ rfl _ rfl _ rfl _ rfl _ rfl _ rfl _ rfl _ rfl _ rfl _ rfl _ rfl _ rfl _ rfl _ rfl _ rfl _ rfl _ rfl _ rfl _ rfl _ rfl _ rfl _ rfl _ rfl _ _ _ _ _ _ _ _ _ _ _ _ _ _ _ _ _ _ _ _ _
     show WL _ _ _ _ _ _ _
     have jr := ((((((b3.ch y (Nat.not_le.2 (nL b2 p.size))).kp B).kp C).kp D).kp F).kp jq)
     refine lN (L_31 (J) aP aQ aR aS aT aU aV aW) (wS a8) isAgg_31 sizeOf_31 jr ?_
     exact f1
    ·intro _ b js _
     rintro _ rfl _ rfl _ rfl _ rfl _ rfl _ rfl _ rfl _ rfl _ rfl _ rfl _ rfl _ rfl _ rfl _ rfl _ rfl _ rfl _ rfl _ rfl _ rfl _ rfl _ rfl _ rfl _ rfl _ rfl _ rfl _ rfl _ rfl _ rfl _ rfl _ _ _ _ _ _ _ _ _ _ _ _ _ _ _ _ _ _ _ _
     show WL _ _ _ _ _ _ _
     have ck := fun (E sz n : Nat) (v : Value) (G : List Value) (o : World.ownsRow aF aO.heap.size E sz v n G) (s : World.ownsRow aF aO.heap.size E sz v n G) => (own_kp (own_kp (own_kp (own_kp (own_kp (own_ch (own_ch (own_kp o q) p (ne2 s (I))) y (fun g hg hlt hk => by have M := (own_lt s g hg).2; have N : aF.heap.size ≤ K.heap.size := (z2 q p); have O : K.heap.size ≤ g := hk; omega)) B) C) D) F) js)
     have jt := (ck _ _ _ _ _ aX aX)
     have ju := (ck _ _ _ _ _ aY aY)
     have jv := (ck _ _ _ _ _ aZ aZ)
     have jw := (ck _ _ _ _ _ ba ba)
     refine cl (wS a8) (ciNoteOk b _ (J) (mR_31 (Rd.of_own jt) bw (Rd.of_own ju) bz (Rd.of_own jv) b0 (Rd.of_own jw) b1)) ?_
     rintro _ a2 ⟨jx, rfl⟩
     exact wl_finT jx rfl
    ·intro _ b jy _
     rintro _ rfl _ rfl _ rfl _ rfl _ rfl _ rfl _ rfl _ rfl _ rfl _ rfl _ rfl _ rfl _ rfl _ rfl _ rfl _ rfl _ rfl _ rfl _ rfl _ rfl _ rfl _ rfl _ rfl _ rfl _ rfl _ rfl _ rfl _ rfl _ _ _ _ _ _ _ _ _ _ _ _ _ _ _ _ _ _ _ _ _
     show WL _ _ _ _ _ _ _
     have jz := ((((((b3.ch y (Nat.not_le.2 (nL b2 p.size))).kp B).kp C).kp D).kp F).kp jy)
     refine lN (L_31 (J) aP aQ aR aS aT aU aV aW) (wS a8) isAgg_31 sizeOf_31 jz ?_
     exact f1
    ·intro _ b j0 _
     rintro _ rfl _ rfl _ rfl _ rfl _ rfl _ rfl _ rfl _ rfl _ rfl _ rfl _ rfl _ rfl _ rfl _ rfl _ rfl _ rfl _ rfl _ rfl _ rfl _ rfl _ rfl _ rfl _ rfl _ rfl _ rfl _ rfl _ rfl _ rfl _ rfl _ rfl _ rfl _ _ _ _ _ _ _ _ _ _ _ _ _ _ _ _ _ _
     show WL _ _ _ _ _ _ _
     have cm := fun (E sz n : Nat) (v : Value) (G : List Value) (o : World.ownsRow aF aO.heap.size E sz v n G) (s : World.ownsRow aF aO.heap.size E sz v n G) => (own_kp (own_kp (own_kp (own_kp (own_kp (own_ch (own_ch (own_kp o q) p (ne2 s (I))) y (fun g hg hlt hk => by have M := (own_lt s g hg).2; have N : aF.heap.size ≤ K.heap.size := (z2 q p); have O : K.heap.size ≤ g := hk; omega)) B) C) D) F) j0)
     have j1 := (cm _ _ _ _ _ aX aX)
     have j2 := (cm _ _ _ _ _ aY aY)
     have j3 := (cm _ _ _ _ _ aZ aZ)
     have j4 := (cm _ _ _ _ _ ba ba)
     refine cl (wS a8) (csNoteOk b _ (J) (mR_31 (Rd.of_own j1) bw (Rd.of_own j2) bz (Rd.of_own j3) b0 (Rd.of_own j4) b1)) ?_
     rintro _ a2 ⟨j5, rfl⟩
     exact wl_finT j5 rfl
    ·intro _ b r7 _
     rintro _ rfl _ rfl _ rfl _ rfl _ rfl _ rfl _ rfl _ rfl _ rfl _ rfl _ rfl _ rfl _ rfl _ rfl _ rfl _ rfl _ rfl _ rfl _ rfl _ rfl _ rfl _ rfl _ rfl _ rfl _ rfl _ rfl _ rfl _ rfl _ rfl _ rfl _ rfl _ rfl _ _ _ _ _ _ _ _ _ _ _ _ _ _ _ _ _
     show WL _ _ _ _ _ _ _
     refine pu (vb ((i_NoteOk (J)) == (s_NoteOk (J)))) (wS a8) ?_
     exact f1
    ·intro _ b r8 _
     rintro _ rfl _ rfl _ rfl _ rfl _ rfl _ rfl _ rfl _ rfl _ rfl _ rfl _ rfl _ rfl _ rfl _ rfl _ rfl _ rfl _ rfl _ rfl _ rfl _ rfl _ rfl _ rfl _ rfl _ rfl _ rfl _ rfl _ rfl _ rfl _ rfl _ rfl _ rfl _ rfl _ rfl _ _ _ _ _ _ _ _ _ _ _ _ _ _ _ _
     show WL _ _ _ _ _ _ _
     refine pk (vb ((i_NoteOk (J)) == (s_NoteOk (J)))) wN a8 ?_
     exact f1
    ·intro _ b r9 _
     rintro _ rfl _ rfl _ rfl _ rfl _ rfl _ rfl _ rfl _ rfl _ rfl _ rfl _ rfl _ rfl _ rfl _ rfl _ rfl _ rfl _ rfl _ rfl _ rfl _ rfl _ rfl _ rfl _ rfl _ rfl _ rfl _ rfl _ rfl _ rfl _ rfl _ rfl _ rfl _ rfl _ rfl _ rfl _ _ _ _ _ _ _ _ _ _ _ _ _ _ _
     show WL _ _ _ _ _ _ _
     refine mw (vb ((i_NoteOk (J)) == (s_NoteOk (J)))) ?_
     exact f1
    ·intro _ b rA _
     rintro _ rfl _ rfl _ rfl _ rfl _ rfl _ rfl _ rfl _ rfl _ rfl _ rfl _ rfl _ rfl _ rfl _ rfl _ rfl _ rfl _ rfl _ rfl _ rfl _ rfl _ rfl _ rfl _ rfl _ rfl _ rfl _ rfl _ rfl _ rfl _ rfl _ rfl _ rfl _ rfl _ rfl _ rfl _ rfl _ _ _ _ _ _ _ _ _ _ _ _ _ _
     show WL _ _ _ _ _ _ _
     refine mv (.string (i_NoteName ((l_at x 2) % 20))) (wS a9) ?_
     exact f1
    ·intro _ b rB _
     rintro _ rfl _ rfl _ rfl _ rfl _ rfl _ rfl _ rfl _ rfl _ rfl _ rfl _ rfl _ rfl _ rfl _ rfl _ rfl _ rfl _ rfl _ rfl _ rfl _ rfl _ rfl _ rfl _ rfl _ rfl _ rfl _ rfl _ rfl _ rfl _ rfl _ rfl _ rfl _ rfl _ rfl _ rfl _ rfl _ rfl _ _ _ _ _ _ _ _ _ _ _ _ _
     show WL _ _ _ _ _ _ _
     refine pu (vb (eqS (i_NoteName ((l_at x 2) % 20)) (ByteArray.mk ([] : List UInt8).toArray))) (wS a9) ?_
     exact f1
    ·intro _ b rC _
     rintro _ rfl _ rfl _ rfl _ rfl _ rfl _ rfl _ rfl _ rfl _ rfl _ rfl _ rfl _ rfl _ rfl _ rfl _ rfl _ rfl _ rfl _ rfl _ rfl _ rfl _ rfl _ rfl _ rfl _ rfl _ rfl _ rfl _ rfl _ rfl _ rfl _ rfl _ rfl _ rfl _ rfl _ rfl _ rfl _ rfl _ rfl _ _ _ _ _ _ _ _ _ _ _ _
     show WL _ _ _ _ _ _ _
     refine mv (vb (eqS (i_NoteName ((l_at x 2) % 20)) (ByteArray.mk ([] : List UInt8).toArray))) (wS a9) ?_
     exact f1
    ·intro _ b rD _
     rintro _ rfl _ rfl _ rfl _ rfl _ rfl _ rfl _ rfl _ rfl _ rfl _ rfl _ rfl _ rfl _ rfl _ rfl _ rfl _ rfl _ rfl _ rfl _ rfl _ rfl _ rfl _ rfl _ rfl _ rfl _ rfl _ rfl _ rfl _ rfl _ rfl _ rfl _ rfl _ rfl _ rfl _ rfl _ rfl _ rfl _ rfl _ rfl _ _ _ _ _ _ _ _ _ _ _
     show WL _ _ _ _ _ _ _
     refine sk bb ?_
     exact f1
    ·intro _ b rE _
     rintro _ rfl _ rfl _ rfl _ rfl _ rfl _ rfl _ rfl _ rfl _ rfl _ rfl _ rfl _ rfl _ rfl _ rfl _ rfl _ rfl _ rfl _ rfl _ rfl _ rfl _ rfl _ rfl _ rfl _ rfl _ rfl _ rfl _ rfl _ rfl _ rfl _ rfl _ rfl _ rfl _ rfl _ rfl _ rfl _ rfl _ rfl _ rfl _ _ _ _ _ _ _ _ _ _ _
     show WL _ _ _ _ _ _ _
     refine sk bb ?_
     exact f1
    ·intro _ b rF _
     rintro _ rfl _ rfl _ rfl _ rfl _ rfl _ rfl _ rfl _ rfl _ rfl _ rfl _ rfl _ rfl _ rfl _ rfl _ rfl _ rfl _ rfl _ rfl _ rfl _ rfl _ rfl _ rfl _ rfl _ rfl _ rfl _ rfl _ rfl _ rfl _ rfl _ rfl _ rfl _ rfl _ rfl _ rfl _ rfl _ rfl _ rfl _ rfl _ rfl _ rfl _ _ _ _ _ _ _ _ _
     show WL _ _ _ _ _ _ _
     refine sk bb ?_
     exact f1
    ·intro _ b rG _
     rintro _ rfl _ rfl _ rfl _ rfl _ rfl _ rfl _ rfl _ rfl _ rfl _ rfl _ rfl _ rfl _ rfl _ rfl _ rfl _ rfl _ rfl _ rfl _ rfl _ rfl _ rfl _ rfl _ rfl _ rfl _ rfl _ rfl _ rfl _ rfl _ rfl _ rfl _ rfl _ rfl _ rfl _ rfl _ rfl _ rfl _ rfl _ rfl _ rfl _ rfl _ rfl _ _ _ _ _ _ _ _
     show WL _ _ _ _ _ _ _
     refine pk (vb true) (wS a9) bb ?_
     exact f1
    ·intro _ b rH _
     rintro _ rfl _ rfl _ rfl _ rfl _ rfl _ rfl _ rfl _ rfl _ rfl _ rfl _ rfl _ rfl _ rfl _ rfl _ rfl _ rfl _ rfl _ rfl _ rfl _ rfl _ rfl _ rfl _ rfl _ rfl _ rfl _ rfl _ rfl _ rfl _ rfl _ rfl _ rfl _ rfl _ rfl _ rfl _ rfl _ rfl _ rfl _ rfl _ rfl _ rfl _ rfl _ rfl _ _ _ _ _ _ _
     show WL _ _ _ _ _ _ _
     refine mv (vb true) (wS a9) ?_
     exact f1
    ·intro _ b rI _
     rintro _ rfl _ rfl _ rfl _ rfl _ rfl _ rfl _ rfl _ rfl _ rfl _ rfl _ rfl _ rfl _ rfl _ rfl _ rfl _ rfl _ rfl _ rfl _ rfl _ rfl _ rfl _ rfl _ rfl _ rfl _ rfl _ rfl _ rfl _ rfl _ rfl _ rfl _ rfl _ rfl _ rfl _ rfl _ rfl _ rfl _ rfl _ rfl _ rfl _ rfl _ rfl _ rfl _ rfl _ _ _ _ _ _
     show WL _ _ _ _ _ _ _
     refine sk T1 ?_
     exact f1
    ·intro _ b rJ _
     rintro _ rfl _ rfl _ rfl _ rfl _ rfl _ rfl _ rfl _ rfl _ rfl _ rfl _ rfl _ rfl _ rfl _ rfl _ rfl _ rfl _ rfl _ rfl _ rfl _ rfl _ rfl _ rfl _ rfl _ rfl _ rfl _ rfl _ rfl _ rfl _ rfl _ rfl _ rfl _ rfl _ rfl _ rfl _ rfl _ rfl _ rfl _ rfl _ rfl _ rfl _ rfl _ rfl _ rfl _ rfl _ _ _ _ _
     show WL _ _ _ _ _ _ _
     refine sk T1 ?_
     exact f1
    ·intro _ b rK _
     rintro _ rfl _ rfl _ rfl _ rfl _ rfl _ rfl _ rfl _ rfl _ rfl _ rfl _ rfl _ rfl _ rfl _ rfl _ rfl _ rfl _ rfl _ rfl _ rfl _ rfl _ rfl _ rfl _ rfl _ rfl _ rfl _ rfl _ rfl _ rfl _ rfl _ rfl _ rfl _ rfl _ rfl _ rfl _ rfl _ rfl _ rfl _ rfl _ rfl _ rfl _ rfl _ rfl _ rfl _ rfl _ rfl _ _ _ _
     show WL _ _ _ _ _ _ _
     refine sk T1 ?_
     exact f1
    ·intro _ b rL _
     rintro _ rfl _ rfl _ rfl _ rfl _ rfl _ rfl _ rfl _ rfl _ rfl _ rfl _ rfl _ rfl _ rfl _ rfl _ rfl _ rfl _ rfl _ rfl _ rfl _ rfl _ rfl _ rfl _ rfl _ rfl _ rfl _ rfl _ rfl _ rfl _ rfl _ rfl _ rfl _ rfl _ rfl _ rfl _ rfl _ rfl _ rfl _ rfl _ rfl _ rfl _ rfl _ rfl _ rfl _ _ _ _ _ _
     show WL _ _ _ _ _ _ _
     refine sk T1 ?_
     exact f1
    ·intro _ b rM _
     rintro _ rfl _ rfl _ rfl _ rfl _ rfl _ rfl _ rfl _ rfl _ rfl _ rfl _ rfl _ rfl _ rfl _ rfl _ rfl _ rfl _ rfl _ rfl _ rfl _ rfl _ rfl _ rfl _ rfl _ rfl _ rfl _ rfl _ rfl _ rfl _ rfl _ rfl _ rfl _ rfl _ rfl _ rfl _ rfl _ rfl _ rfl _ rfl _ rfl _ rfl _ rfl _ rfl _ rfl _ rfl _ rfl _ _ rfl _ _
     show WL _ _ _ _ _ _ _
     refine sk T1 ?_
     exact f1
    ·intro _ b rN _
     rintro _ rfl _ rfl _ rfl _ rfl _ rfl _ rfl _ rfl _ rfl _ rfl _ rfl _ rfl _ rfl _ rfl _ rfl _ rfl _ rfl _ rfl _ rfl _ rfl _ rfl _ rfl _ rfl _ rfl _ rfl _ rfl _ rfl _ rfl _ rfl _ rfl _ rfl _ rfl _ rfl _ rfl _ rfl _ rfl _ rfl _ rfl _ rfl _ rfl _ rfl _ rfl _ rfl _ rfl _ rfl _ rfl _ _ rfl _ rfl _
     show WL _ _ _ _ _ _ _
     refine sk T1 ?_
     exact f1
   ·intro _ b j6
    have j7 := bq.extk j6
    rintro _ rfl _ rfl _ rfl _ rfl _ rfl _ rfl _ rfl _ rfl _ rfl _ rfl _ rfl _ rfl _ rfl _ rfl _ rfl _ rfl _ rfl _ rfl _ rfl _ rfl _ rfl _ rfl _ rfl _ rfl _ rfl _ rfl _ rfl _ rfl _ rfl _ rfl _ rfl _ rfl _ rfl _ rfl _ rfl _ rfl _ rfl _ rfl _ rfl _ rfl _ rfl _ rfl _ rfl _ rfl _ rfl _ rfl _ rfl _ rfl _ rfl
    show WL _ _ _ _ _ _ _
    refine sk T1 ?_
    refine pk (vb true) (wS a9) (Eq.refl true) ?_
    refine pk (vb true) wN a9 ?_
    refine aw (vb true) ?_
    refine n3 ?_
    refine rt (vb true) ?_
    have j8 : ntLaw x d a J = true := by obtain rfl : i = d.1.length := (by omega); subst bh; have hz := allN_t (f := ntG d) (n := d.1.length) (k := d.1.length) bj (by omega); simp only [ntLaw, ntT, ntS, hz, aL, aM, a0, aa, ah, a8, a9, bb, cond_true, cond_false]; try rfl
    exact ⟨d, a, J, j7.keep0, bl, bm, bn, by rw [j8]⟩
  rcases bf (eqS (i_NoteName ((l_at x 2) % 20)) (i_NoteName ((l_at x 3) % 20))) with aN | aN
  ·refine wc_drawT ([(69, [], [], (fun _ v _ => v = (vi k))), (70, [], [], (fun _ v _ => v = (vs aC (i_Pick ((d).1) ((d).2)).length aD))), (71, [], [1], (fun _ v _ => v = (vi ((i_Pick ((d).1) ((d).2)).length : Int)))), (72, [], [0, 1, 2], (fun _ v _ => v = (vb (decide (k = ((i_Pick ((d).1) ((d).2)).length : Int)))))), (73, [], [0, 1, 2, 3], (fun _ v _ => v = (vb (decide (k = ((i_Pick ((d).1) ((d).2)).length : Int)))))), (74, [], [0, 1, 2, 3, 4], (fun _ v _ => v = (va (L_31 ((a).1) Q R S T V W X Y)))), (75, [], [0, 1, 2, 3, 4], (fun _ v _ => v = (va (L_31 ((a).1) Q R S T V W X Y)))), (76, [], [0, 1, 2, 3, 4, 5, 6], (fun _ v w => v = .bool (i_SameNote ((a).1) ((a).1)))), (77, [], [0, 1, 2, 3, 4, 5, 6, 7], (fun _ v _ => v = (vb (i_SameNote ((a).1) ((a).1))))), (78, [], [0, 1, 2, 3, 4, 5, 6, 7, 8], (fun _ v _ => v = (vb (i_SameNote ((a).1) ((a).1))))), (79, [], [0, 1, 2, 3, 4, 5, 6, 7, 8, 9], (fun _ v _ => v = (va (L_31 ((a).1) Q R S T V W X Y)))), (80, [], [0, 1, 2, 3, 4, 5, 6, 7, 8, 9], (fun _ v _ => v = (va (L_31 ((a).2) ai aj ak am an ao ap aq)))), (81, [], [0, 1, 2, 3, 4, 5, 6, 7, 8, 9, 10, 11], (fun _ v w => v = .bool (i_SameNote ((a).1) ((a).2)))), (82, [], [0, 1, 2, 3, 4, 5, 6, 7, 8, 9], (fun _ v _ => v = (va (L_31 ((a).1) Q R S T V W X Y)))), (83, [], [0, 1, 2, 3, 4, 5, 6, 7, 8, 9], (fun _ v _ => v = (va (L_31 ((a).2) ai aj ak am an ao ap aq)))), (84, [], [0, 1, 2, 3, 4, 5, 6, 7, 8, 9, 10, 11, 12, 13, 14], (fun _ v w => v = .bool (s_SameNote ((a).1) ((a).2)))), (85, [], [0, 1, 2, 3, 4, 5, 6, 7, 8, 9, 10, 11, 12, 13, 14, 15], (fun _ v _ => v = (vb ((i_SameNote ((a).1) ((a).2)) == (s_SameNote ((a).1) ((a).2)))))), (86, [], [0, 1, 2, 3, 4, 5, 6, 7, 8, 9, 10, 11, 12, 13, 14, 15, 16], (fun _ v _ => v = (vb ((i_SameNote ((a).1) ((a).2)) == (s_SameNote ((a).1) ((a).2)))))), (87, [], [0, 1, 2, 3, 4, 5, 6, 7, 8, 9, 10, 11, 12, 13, 14, 15, 16, 17], (fun _ v _ => v = (vb ((i_SameNote ((a).1) ((a).2)) == (s_SameNote ((a).1) ((a).2)))))), (88, [], [0, 1, 2, 3, 4, 5, 6, 7, 8, 9, 10, 11, 12, 13, 14, 15, 16, 17, 18], (fun _ v _ => v = (va (L_31 ((a).2) ai aj ak am an ao ap aq)))), (89, [], [0, 1, 2, 3, 4, 5, 6, 7, 8, 9, 10, 11, 12, 13, 14, 15, 16, 17, 18], (fun _ v _ => v = (va (L_31 ((a).1) Q R S T V W X Y)))), (90, [], [0, 1, 2, 3, 4, 5, 6, 7, 8, 9, 10, 11, 12, 13, 14, 15, 16, 17, 18, 19, 20], (fun _ v w => v = .bool (i_SameNote ((a).2) ((a).1)))), (91, [], [0, 1, 2, 3, 4, 5, 6, 7, 8, 9, 10, 11, 12, 13, 14, 15, 16, 17, 18], (fun _ v _ => v = (va (L_31 ((a).1) Q R S T V W X Y)))), (92, [], [0, 1, 2, 3, 4, 5, 6, 7, 8, 9, 10, 11, 12, 13, 14, 15, 16, 17, 18], (fun _ v _ => v = (va (L_31 ((a).2) ai aj ak am an ao ap aq)))), (93, [], [0, 1, 2, 3, 4, 5, 6, 7, 8, 9, 10, 11, 12, 13, 14, 15, 16, 17, 18, 19, 20, 21, 22, 23], (fun _ v w => v = .bool (i_SameNote ((a).1) ((a).2)))), (94, [], [0, 1, 2, 3, 4, 5, 6, 7, 8, 9, 10, 11, 12, 13, 14, 15, 16, 17, 18, 19, 20, 21, 22, 23, 24], (fun _ v _ => v = (vb ((i_SameNote ((a).2) ((a).1)) == (i_SameNote ((a).1) ((a).2)))))), (95, [], [0, 1, 2, 3, 4, 5, 6, 7, 8, 9, 10, 11, 12, 13, 14, 15, 16, 17, 18, 19, 20, 21, 22, 23, 24, 25], (fun _ v _ => v = (vb ((i_SameNote ((a).2) ((a).1)) == (i_SameNote ((a).1) ((a).2)))))), (96, [], [0, 1, 2, 3, 4, 5, 6, 7, 8, 9, 10, 11, 12, 13, 14, 15, 16, 17, 18, 19, 20, 21, 22, 23, 24, 25, 26], (fun _ v _ => v = (vb ((i_SameNote ((a).2) ((a).1)) == (i_SameNote ((a).1) ((a).2)))))), (97, [], [0, 1, 2, 3, 4, 5, 6, 7, 8, 9, 10, 11, 12, 13, 14, 15, 16, 17, 18, 19, 20, 21, 22, 23, 24, 25, 26, 27], (fun _ v _ => v = (va (L_31 (J) aP aQ aR aS aT aU aV aW)))), (98, [], [0, 1, 2, 3, 4, 5, 6, 7, 8, 9, 10, 11, 12, 13, 14, 15, 16, 17, 18, 19, 20, 21, 22, 23, 24, 25, 26, 27, 28], (fun _ v w => v = .bool (i_NoteOk (J)))), (99, [], [0, 1, 2, 3, 4, 5, 6, 7, 8, 9, 10, 11, 12, 13, 14, 15, 16, 17, 18, 19, 20, 21, 22, 23, 24, 25, 26, 27], (fun _ v _ => v = (va (L_31 (J) aP aQ aR aS aT aU aV aW)))), (100, [], [0, 1, 2, 3, 4, 5, 6, 7, 8, 9, 10, 11, 12, 13, 14, 15, 16, 17, 18, 19, 20, 21, 22, 23, 24, 25, 26, 27, 28, 29, 30], (fun _ v w => v = .bool (s_NoteOk (J)))), (101, [], [0, 1, 2, 3, 4, 5, 6, 7, 8, 9, 10, 11, 12, 13, 14, 15, 16, 17, 18, 19, 20, 21, 22, 23, 24, 25, 26, 27, 28, 29, 30, 31], (fun _ v _ => v = (vb ((i_NoteOk (J)) == (s_NoteOk (J)))))), (102, [], [0, 1, 2, 3, 4, 5, 6, 7, 8, 9, 10, 11, 12, 13, 14, 15, 16, 17, 18, 19, 20, 21, 22, 23, 24, 25, 26, 27, 28, 29, 30, 31, 32], (fun _ v _ => v = (vb ((i_NoteOk (J)) == (s_NoteOk (J)))))), (103, [], [0, 1, 2, 3, 4, 5, 6, 7, 8, 9, 10, 11, 12, 13, 14, 15, 16, 17, 18, 19, 20, 21, 22, 23, 24, 25, 26, 27, 28, 29, 30, 31, 32, 33], (fun _ v _ => v = (vb ((i_NoteOk (J)) == (s_NoteOk (J)))))), (104, [], [0, 1, 2, 3, 4, 5, 6, 7, 8, 9, 10, 11, 12, 13, 14, 15, 16, 17, 18, 19, 20, 21, 22, 23, 24, 25, 26, 27, 28, 29, 30, 31, 32, 33, 34], (fun _ v _ => v = (.string (i_NoteName ((l_at x 2) % 20))))), (105, [], [0, 1, 2, 3, 4, 5, 6, 7, 8, 9, 10, 11, 12, 13, 14, 15, 16, 17, 18, 19, 20, 21, 22, 23, 24, 25, 26, 27, 28, 29, 30, 31, 32, 33, 34, 35], (fun _ v _ => v = (vb (eqS (i_NoteName ((l_at x 2) % 20)) (ByteArray.mk ([] : List UInt8).toArray))))), (106, [], [0, 1, 2, 3, 4, 5, 6, 7, 8, 9, 10, 11, 12, 13, 14, 15, 16, 17, 18, 19, 20, 21, 22, 23, 24, 25, 26, 27, 28, 29, 30, 31, 32, 33, 34, 35, 36], (fun _ v _ => v = (vb (eqS (i_NoteName ((l_at x 2) % 20)) (ByteArray.mk ([] : List UInt8).toArray))))), (107, [], [0, 1, 2, 3, 4, 5, 6, 7, 8, 9, 10, 11, 12, 13, 14, 15, 16, 17, 18, 19, 20, 21, 22, 23, 24, 25, 26, 27, 28, 29, 30, 31, 32, 33, 34, 35, 36, 37], (fun _ v _ => v = (.string (i_NoteName ((l_at x 2) % 20))))), (108, [], [0, 1, 2, 3, 4, 5, 6, 7, 8, 9, 10, 11, 12, 13, 14, 15, 16, 17, 18, 19, 20, 21, 22, 23, 24, 25, 26, 27, 28, 29, 30, 31, 32, 33, 34, 35, 36, 37], (fun _ v _ => v = (.string (i_NoteName ((l_at x 3) % 20))))), (109, [], [0, 1, 2, 3, 4, 5, 6, 7, 8, 9, 10, 11, 12, 13, 14, 15, 16, 17, 18, 19, 20, 21, 22, 23, 24, 25, 26, 27, 28, 29, 30, 31, 32, 33, 34, 35, 36, 37, 38, 39], (fun _ v _ => v = (vb (!(eqS (i_NoteName ((l_at x 2) % 20)) (i_NoteName ((l_at x 3) % 20))))))), (110, [], [0, 1, 2, 3, 4, 5, 6, 7, 8, 9, 10, 11, 12, 13, 14, 15, 16, 17, 18, 19, 20, 21, 22, 23, 24, 25, 26, 27, 28, 29, 30, 31, 32, 33, 34, 35, 36, 37, 38, 39, 40], (fun _ v _ => v = (vb (!(eqS (i_NoteName ((l_at x 2) % 20)) (i_NoteName ((l_at x 3) % 20))))))), (111, [], [0, 1, 2, 3, 4, 5, 6, 7, 8, 9, 10, 11, 12, 13, 14, 15, 16, 17, 18, 19, 20, 21, 22, 23, 24, 25, 26, 27, 28, 29, 30, 31, 32, 33, 34, 35, 36, 37, 38, 39, 40, 41], (fun _ v _ => v = (vb (!(eqS (i_NoteName ((l_at x 2) % 20)) (i_NoteName ((l_at x 3) % 20))))))), (112, [], [0, 1, 2, 3, 4, 5, 6, 7, 8, 9, 10, 11, 12, 13, 14, 15, 16, 17, 18, 19, 20, 21, 22, 23, 24, 25, 26, 27, 28, 29, 30, 31, 32, 33, 34, 35, 36, 37, 38, 39, 40, 41, 42], (fun _ v _ => v = U)), (113, [], [0, 1, 2, 3, 4, 5, 6, 7, 8, 9, 10, 11, 12, 13, 14, 15, 16, 17, 18, 19, 20, 21, 22, 23, 24, 25, 26, 27, 28, 29, 30, 31, 32, 33, 34, 35, 36, 37, 38, 39, 40, 41, 42, 43], (fun _ v _ => v = U)), (114, [], [0, 1, 2, 3, 4, 5, 6, 7, 8, 9, 10, 11, 12, 13, 14, 15, 16, 17, 18, 19, 20, 21, 22, 23, 24, 25, 26, 27, 28, 29, 30, 31, 32, 33, 34, 35, 36, 37, 38, 39, 40, 41, 42, 43, 44], (fun _ v _ => v = U)), (115, [], [0, 1, 2, 3, 4, 5, 6, 7, 8, 9, 10, 11, 12, 13, 14, 15, 16, 17, 18, 19, 20, 21, 22, 23, 24, 25, 26, 27, 28, 29, 30, 31, 32, 33, 34, 35, 36, 37, 38, 39, 40, 41, 42], (fun _ v _ => v = U)), (116, [], [0, 1, 2, 3, 4, 5, 6, 7, 8, 9, 10, 11, 12, 13, 14, 15, 16, 17, 18, 19, 20, 21, 22, 23, 24, 25, 26, 27, 28, 29, 30, 31, 32, 33, 34, 35, 36, 37, 38, 39, 40, 41, 42, 43, 44, 46], (fun _ v _ => v = U)), (117, [], [0, 1, 2, 3, 4, 5, 6, 7, 8, 9, 10, 11, 12, 13, 14, 15, 16, 17, 18, 19, 20, 21, 22, 23, 24, 25, 26, 27, 28, 29, 30, 31, 32, 33, 34, 35, 36, 37, 38, 39, 40, 41, 42, 43, 44, 46, 47], (fun _ v _ => v = U))] : GV) (fun _ aE => Keep b4 aE) [] mixed rfl (by kernel_rfl) (by kernel_rfl) ?_ (fun _ _ h => h) (fun _ _ _ _ h _ k => h.trans k) trivial ?_ ?_ ?_
   ·exact ⟨hV, hE, ⟨hV, hE, ⟨hV, hE, ⟨hV, hE, ⟨hV, hE, ⟨hV, hE, ⟨hV, hE, ⟨hV, hE, ⟨hV, hE, ⟨hV, hE, ⟨hV, hE, ⟨hV, hE, ⟨hV, hE, ⟨hV, hE, ⟨hV, hE, ⟨hV, hE, ⟨hV, hE, ⟨hV, hE, ⟨hV, hE, ⟨hV, hE, ⟨hV, hE, ⟨hV, hE, ⟨hV, hE, ⟨hV, hE, ⟨hV, hE, ⟨hV, hE, ⟨hV, hE, ⟨hV, hE, ⟨hV, hE, ⟨hV, hE, ⟨hV, hE, ⟨hV, hE, ⟨hV, hE, ⟨hV, hE, ⟨hV, hE, ⟨hV, hE, ⟨hV, hE, ⟨hV, hE, ⟨hV, hE, ⟨hV, hE, ⟨hV, hE, ⟨hV, hE, ⟨hV, hE, ⟨hV, hE, ⟨hV, hE, ⟨hV, hE, ⟨hV, hE, ⟨hV, hE, ⟨hV, hE, trivial⟩⟩⟩⟩⟩⟩⟩⟩⟩⟩⟩⟩⟩⟩⟩⟩⟩⟩⟩⟩⟩⟩⟩⟩⟩⟩⟩⟩⟩⟩⟩⟩⟩⟩⟩⟩⟩⟩⟩⟩⟩⟩⟩⟩⟩⟩⟩⟩⟩
   ·exact trivial
   ·refine ⟨?_, ⟨?_, ⟨?_, ⟨?_, ⟨?_, ⟨?_, ⟨?_, ⟨?_, ⟨?_, ⟨?_, ⟨?_, ⟨?_, ⟨?_, ⟨?_, ⟨?_, ⟨?_, ⟨?_, ⟨?_, ⟨?_, ⟨?_, ⟨?_, ⟨?_, ⟨?_, ⟨?_, ⟨?_, ⟨?_, ⟨?_, ⟨?_, ⟨?_, ⟨?_, ⟨?_, ⟨?_, ⟨?_, ⟨?_, ⟨?_, ⟨?_, ⟨?_, ⟨?_, ⟨?_, ⟨?_, ⟨?_, ⟨?_, ⟨?_, ⟨?_, ⟨?_, ⟨?_, ⟨?_, ⟨?_, ⟨?_, trivial⟩⟩⟩⟩⟩⟩⟩⟩⟩⟩⟩⟩⟩⟩⟩⟩⟩⟩⟩⟩⟩⟩⟩⟩⟩⟩⟩⟩⟩⟩⟩⟩⟩⟩⟩⟩⟩⟩⟩⟩⟩⟩⟩⟩⟩⟩⟩⟩⟩
    ·intro _ b rO _
     rintro _ _ _ _ _ _ _ _ _ _ _ _ _ _ _ _ _ _ _ _ _ _ _ _ _ _ _ _ _ _ _ _ _ _ _ _ _ _ _ _ _ _ _ _ _ _ _ _ _
     show WL _ _ _ _ _ _ _
     refine mw (vi k) ?_
     exact f1
    ·intro _ b rP _
     rintro _ _ _ _ _ _ _ _ _ _ _ _ _ _ _ _ _ _ _ _ _ _ _ _ _ _ _ _ _ _ _ _ _ _ _ _ _ _ _ _ _ _ _ _ _ _ _ _ _
     show WL _ _ _ _ _ _ _
     refine mw (vs aC (i_Pick ((d).1) ((d).2)).length aD) ?_
     exact f1
    ·intro _ b j9 _
     rintro _ _ rfl _ _ _ _ _ _ _ _ _ _ _ _ _ _ _ _ _ _ _ _ _ _ _ _ _ _ _ _ _ _ _ _ _ _ _ _ _ _ _ _ _ _ _ _ _ _ _
     show WL _ _ _ _ _ _ _
     have jA := (OLv.kp (OLv.kp (OLv.kp (OLv.kp (OLv.kp (OLv.ch (OLv.ch (OLv.kp (OLv.kp (OLv.ch (OLv.ch (OLv.kp (OLv.kp (OLv.kp bi ab) t) r) m (fun g M N hk => by have O := nT ab.size a1; omega)) l (fun g M N hk => by have O := nT (z2 ab t) P; omega)) e) q) p (fun g M N hk => by have O := nT (z6 ab t r m l e) I; omega)) y (fun g M N hk => by have O : Z.heap.size ≤ K.heap.size := (z8 ab t r m l e q p); have bo : K.heap.size ≤ g := hk; omega)) B) C) D) F) j9)
     obtain ⟨rQ, jC⟩ := RLv.row (OLv.rl jA)
     refine ln wN slTy_24 jC ?_
     exact f1
    ·intro _ b rR _
     rintro _ rfl _ rfl _ rfl _ _ _ _ _ _ _ _ _ _ _ _ _ _ _ _ _ _ _ _ _ _ _ _ _ _ _ _ _ _ _ _ _ _ _ _ _ _ _ _ _ _ _ _ _ _
     show WL _ _ _ _ _ _ _
     refine pu (vb (decide (k = ((i_Pick ((d).1) ((d).2)).length : Int)))) wN ?_
     exact f1
    ·intro _ b rS _
     rintro _ rfl _ rfl _ rfl _ rfl _ _ _ _ _ _ _ _ _ _ _ _ _ _ _ _ _ _ _ _ _ _ _ _ _ _ _ _ _ _ _ _ _ _ _ _ _ _ _ _ _ _ _ _ _
     show WL _ _ _ _ _ _ _
     refine mw (vb (decide (k = ((i_Pick ((d).1) ((d).2)).length : Int)))) ?_
     exact f1
    ·intro _ b jD _
     rintro _ rfl _ rfl _ rfl _ rfl _ rfl _ _ _ _ _ _ _ _ _ _ _ _ _ _ _ _ _ _ _ _ _ _ _ _ _ _ _ _ _ _ _ _ _ _ _ _ _ _ _ _ _ _ _ _
     show WL _ _ _ _ _ _ _
     have jE := ((((((((((a7.ch l (nN (nL H (P)))).kp e).kp q).ch p (nN (nL H (nT (z4 r m l e) I)))).ch y (Nat.not_le.2 (nL H (z6 r m l e q p)))).kp B).kp C).kp D).kp F).kp jD)
     refine lN (L_31 ((a).1) Q R S T V W X Y) (wS a0) isAgg_31 sizeOf_31 jE ?_
     exact f1
    ·intro _ b jF _
     rintro _ rfl _ rfl _ rfl _ rfl _ rfl _ _ _ _ _ _ _ _ _ _ _ _ _ _ _ _ _ _ _ _ _ _ _ _ _ _ _ _ _ _ _ _ _ _ _ _ _ _ _ _ _ _ _ _
     show WL _ _ _ _ _ _ _
     have jG := ((((((((((a7.ch l (nN (nL H (P)))).kp e).kp q).ch p (nN (nL H (nT (z4 r m l e) I)))).ch y (Nat.not_le.2 (nL H (z6 r m l e q p)))).kp B).kp C).kp D).kp F).kp jF)
     refine lN (L_31 ((a).1) Q R S T V W X Y) (wS a0) isAgg_31 sizeOf_31 jG ?_
     exact f1
    ·intro _ b jH _
     rintro _ rfl _ rfl _ rfl _ rfl _ rfl _ rfl _ rfl _ _ _ _ _ _ _ _ _ _ _ _ _ _ _ _ _ _ _ _ _ _ _ _ _ _ _ _ _ _ _ _ _ _ _ _ _ _ _ _ _ _
     show WL _ _ _ _ _ _ _
     have cn := fun (E sz n : Nat) (v : Value) (G : List Value) (o : World.ownsRow L Z.heap.size E sz v n G) (s : World.ownsRow L Z.heap.size E sz v n G) => (own_kp (own_kp (own_kp (own_kp (own_kp (own_ch (own_ch (own_kp (own_kp (own_ch (own_ch (own_kp (own_kp o t) r) m (ne2 s (a1))) l (ne2 s (nT t.size P))) e) q) p (ne2 s (nT (z5 t r m l e) I))) y (fun g hg hlt hk => by have M := (own_lt s g hg).2; have N : L.heap.size ≤ K.heap.size := (z7 t r m l e q p); have O : K.heap.size ≤ g := hk; omega)) B) C) D) F) jH)
     have dk := (cn _ _ _ _ _ ac ac)
     have dl := (cn _ _ _ _ _ ad ad)
     have dm := (cn _ _ _ _ _ ae ae)
     have dn := (cn _ _ _ _ _ af af)
     refine cl (wS a0) (ciSameNote b _ ((a).1) (mR_31 (Rd.of_own dk) a3 (Rd.of_own dl) a4 (Rd.of_own dm) a5 (Rd.of_own dn) a6) _ ((a).1) (mR_31 (Rd.of_own dk) a3 (Rd.of_own dl) a4 (Rd.of_own dm) a5 (Rd.of_own dn) a6)) ?_
     rintro _ a2 ⟨jI, rfl⟩
     exact wl_finT jI rfl
    ·intro _ b rT _
     rintro _ rfl _ rfl _ rfl _ rfl _ rfl _ rfl _ rfl _ rfl _ _ _ _ _ _ _ _ _ _ _ _ _ _ _ _ _ _ _ _ _ _ _ _ _ _ _ _ _ _ _ _ _ _ _ _ _ _ _ _ _
     show WL _ _ _ _ _ _ _
     refine pk (vb (i_SameNote ((a).1) ((a).1))) wN a0 ?_
     exact f1
    ·intro _ b rU _
     rintro _ rfl _ rfl _ rfl _ rfl _ rfl _ rfl _ rfl _ rfl _ rfl _ _ _ _ _ _ _ _ _ _ _ _ _ _ _ _ _ _ _ _ _ _ _ _ _ _ _ _ _ _ _ _ _ _ _ _ _ _ _ _
     show WL _ _ _ _ _ _ _
     refine mw (vb (i_SameNote ((a).1) ((a).1))) ?_
     exact f1
    ·intro _ b jJ _
     rintro _ rfl _ rfl _ rfl _ rfl _ rfl _ rfl _ rfl _ rfl _ rfl _ rfl _ _ _ _ _ _ _ _ _ _ _ _ _ _ _ _ _ _ _ _ _ _ _ _ _ _ _ _ _ _ _ _ _ _ _ _ _ _ _
     show WL _ _ _ _ _ _ _
     have jK := ((((((((((a7.ch l (nN (nL H (P)))).kp e).kp q).ch p (nN (nL H (nT (z4 r m l e) I)))).ch y (Nat.not_le.2 (nL H (z6 r m l e q p)))).kp B).kp C).kp D).kp F).kp jJ)
     refine lN (L_31 ((a).1) Q R S T V W X Y) (wS aa) isAgg_31 sizeOf_31 jK ?_
     exact f1
    ·intro _ b jL _
     rintro _ rfl _ rfl _ rfl _ rfl _ rfl _ rfl _ rfl _ rfl _ rfl _ rfl _ _ _ _ _ _ _ _ _ _ _ _ _ _ _ _ _ _ _ _ _ _ _ _ _ _ _ _ _ _ _ _ _ _ _ _ _ _ _
     show WL _ _ _ _ _ _ _
     have jM := (((((((((aK.kp e).kp q).ch p (nN (nL az (nT (z3 m l e) I)))).ch y (Nat.not_le.2 (nL az (z5 m l e q p)))).kp B).kp C).kp D).kp F).kp jL)
     refine lN (L_31 ((a).2) ai aj ak am an ao ap aq) (wS aa) isAgg_31 sizeOf_31 jM ?_
     exact f1
    ·intro _ b jN _
     rintro _ rfl _ rfl _ rfl _ rfl _ rfl _ rfl _ rfl _ rfl _ rfl _ rfl _ rfl _ rfl _ _ _ _ _ _ _ _ _ _ _ _ _ _ _ _ _ _ _ _ _ _ _ _ _ _ _ _ _ _ _ _ _ _ _ _ _
     show WL _ _ _ _ _ _ _
     have bJ := fun (E sz n : Nat) (v : Value) (G : List Value) (o : World.ownsRow L Z.heap.size E sz v n G) (s : World.ownsRow L Z.heap.size E sz v n G) => (own_kp (own_kp (own_kp (own_kp (own_kp (own_ch (own_ch (own_kp (own_kp (own_ch (own_ch (own_kp (own_kp o t) r) m (ne2 s (a1))) l (ne2 s (nT t.size P))) e) q) p (ne2 s (nT (z5 t r m l e) I))) y (fun g hg hlt hk => by have M := (own_lt s g hg).2; have N : L.heap.size ≤ K.heap.size := (z7 t r m l e q p); have O : K.heap.size ≤ g := hk; omega)) B) C) D) F) jN)
     have jO := (bJ _ _ _ _ _ ac ac)
     have jP := (bJ _ _ _ _ _ ad ad)
     have jQ := (bJ _ _ _ _ _ ae ae)
     have jR := (bJ _ _ _ _ _ af af)
     have jS := (bJ _ _ _ _ _ au au)
     have jT := (bJ _ _ _ _ _ av av)
     have jU := (bJ _ _ _ _ _ ax ax)
     have jV := (bJ _ _ _ _ _ ay ay)
     refine cl (wS aa) (ciSameNote b _ ((a).1) (mR_31 (Rd.of_own jO) a3 (Rd.of_own jP) a4 (Rd.of_own jQ) a5 (Rd.of_own jR) a6) _ ((a).2) (mR_31 (Rd.of_own jS) aG (Rd.of_own jT) aH (Rd.of_own jU) aI (Rd.of_own jV) aJ)) ?_
     rintro _ a2 ⟨jW, rfl⟩
     exact wl_finT jW rfl
    ·intro _ b jX _
     rintro _ rfl _ rfl _ rfl _ rfl _ rfl _ rfl _ rfl _ rfl _ rfl _ rfl _ _ _ _ _ _ _ _ _ _ _ _ _ _ _ _ _ _ _ _ _ _ _ _ _ _ _ _ _ _ _ _ _ _ _ _ _ _ _
     show WL _ _ _ _ _ _ _
     have jY := ((((((((((a7.ch l (nN (nL H (P)))).kp e).kp q).ch p (nN (nL H (nT (z4 r m l e) I)))).ch y (Nat.not_le.2 (nL H (z6 r m l e q p)))).kp B).kp C).kp D).kp F).kp jX)
     refine lN (L_31 ((a).1) Q R S T V W X Y) (wS aa) isAgg_31 sizeOf_31 jY ?_
     exact f1
    ·intro _ b jZ _
     rintro _ rfl _ rfl _ rfl _ rfl _ rfl _ rfl _ rfl _ rfl _ rfl _ rfl _ _ _ _ _ _ _ _ _ _ _ _ _ _ _ _ _ _ _ _ _ _ _ _ _ _ _ _ _ _ _ _ _ _ _ _ _ _ _
     show WL _ _ _ _ _ _ _
     have ka := (((((((((aK.kp e).kp q).ch p (nN (nL az (nT (z3 m l e) I)))).ch y (Nat.not_le.2 (nL az (z5 m l e q p)))).kp B).kp C).kp D).kp F).kp jZ)
     refine lN (L_31 ((a).2) ai aj ak am an ao ap aq) (wS aa) isAgg_31 sizeOf_31 ka ?_
     exact f1
    ·intro _ b kb _
     rintro _ rfl _ rfl _ rfl _ rfl _ rfl _ rfl _ rfl _ rfl _ rfl _ rfl _ rfl _ rfl _ rfl _ rfl _ rfl _ _ _ _ _ _ _ _ _ _ _ _ _ _ _ _ _ _ _ _ _ _ _ _ _ _ _ _ _ _ _ _ _ _
     show WL _ _ _ _ _ _ _
     have bK := fun (E sz n : Nat) (v : Value) (G : List Value) (o : World.ownsRow L Z.heap.size E sz v n G) (s : World.ownsRow L Z.heap.size E sz v n G) => (own_kp (own_kp (own_kp (own_kp (own_kp (own_ch (own_ch (own_kp (own_kp (own_ch (own_ch (own_kp (own_kp o t) r) m (ne2 s (a1))) l (ne2 s (nT t.size P))) e) q) p (ne2 s (nT (z5 t r m l e) I))) y (fun g hg hlt hk => by have M := (own_lt s g hg).2; have N : L.heap.size ≤ K.heap.size := (z7 t r m l e q p); have O : K.heap.size ≤ g := hk; omega)) B) C) D) F) kb)
     have kc := (bK _ _ _ _ _ ac ac)
     have kd := (bK _ _ _ _ _ ad ad)
     have ke := (bK _ _ _ _ _ ae ae)
     have kf := (bK _ _ _ _ _ af af)
     have kg := (bK _ _ _ _ _ au au)
     have kh := (bK _ _ _ _ _ av av)
     have ki := (bK _ _ _ _ _ ax ax)
     have kj := (bK _ _ _ _ _ ay ay)
     refine cl (wS aa) (csSameNote b _ ((a).1) (mR_31 (Rd.of_own kc) a3 (Rd.of_own kd) a4 (Rd.of_own ke) a5 (Rd.of_own kf) a6) _ ((a).2) (mR_31 (Rd.of_own kg) aG (Rd.of_own kh) aH (Rd.of_own ki) aI (Rd.of_own kj) aJ)) ?_
     rintro _ a2 ⟨kk, rfl⟩
     exact wl_finT kk rfl
    ·intro _ b rV _
     rintro _ rfl _ rfl _ rfl _ rfl _ rfl _ rfl _ rfl _ rfl _ rfl _ rfl _ rfl _ rfl _ rfl _ rfl _ rfl _ rfl _ _ _ _ _ _ _ _ _ _ _ _ _ _ _ _ _ _ _ _ _ _ _ _ _ _ _ _ _ _ _ _ _
     show WL _ _ _ _ _ _ _
     refine pu (vb ((i_SameNote ((a).1) ((a).2)) == (s_SameNote ((a).1) ((a).2)))) (wS aa) ?_
     exact f1
    ·intro _ b rW _
     rintro _ rfl _ rfl _ rfl _ rfl _ rfl _ rfl _ rfl _ rfl _ rfl _ rfl _ rfl _ rfl _ rfl _ rfl _ rfl _ rfl _ rfl _ _ _ _ _ _ _ _ _ _ _ _ _ _ _ _ _ _ _ _ _ _ _ _ _ _ _ _ _ _ _ _
     show WL _ _ _ _ _ _ _
     refine pk (vb ((i_SameNote ((a).1) ((a).2)) == (s_SameNote ((a).1) ((a).2)))) wN aa ?_
     exact f1
    ·intro _ b rX _
     rintro _ rfl _ rfl _ rfl _ rfl _ rfl _ rfl _ rfl _ rfl _ rfl _ rfl _ rfl _ rfl _ rfl _ rfl _ rfl _ rfl _ rfl _ rfl _ _ _ _ _ _ _ _ _ _ _ _ _ _ _ _ _ _ _ _ _ _ _ _ _ _ _ _ _ _ _
     show WL _ _ _ _ _ _ _
     refine mw (vb ((i_SameNote ((a).1) ((a).2)) == (s_SameNote ((a).1) ((a).2)))) ?_
     exact f1
    ·intro _ b kl _
     rintro _ rfl _ rfl _ rfl _ rfl _ rfl _ rfl _ rfl _ rfl _ rfl _ rfl _ rfl _ rfl _ rfl _ rfl _ rfl _ rfl _ rfl _ rfl _ rfl _ _ _ _ _ _ _ _ _ _ _ _ _ _ _ _ _ _ _ _ _ _ _ _ _ _ _ _ _ _
     show WL _ _ _ _ _ _ _
     have km := (((((((((aK.kp e).kp q).ch p (nN (nL az (nT (z3 m l e) I)))).ch y (Nat.not_le.2 (nL az (z5 m l e q p)))).kp B).kp C).kp D).kp F).kp kl)
     refine lN (L_31 ((a).2) ai aj ak am an ao ap aq) (wS ah) isAgg_31 sizeOf_31 km ?_
     exact f1
    ·intro _ b kn _
     rintro _ rfl _ rfl _ rfl _ rfl _ rfl _ rfl _ rfl _ rfl _ rfl _ rfl _ rfl _ rfl _ rfl _ rfl _ rfl _ rfl _ rfl _ rfl _ rfl _ _ _ _ _ _ _ _ _ _ _ _ _ _ _ _ _ _ _ _ _ _ _ _ _ _ _ _ _ _
     show WL _ _ _ _ _ _ _
     have ko := ((((((((((a7.ch l (nN (nL H (P)))).kp e).kp q).ch p (nN (nL H (nT (z4 r m l e) I)))).ch y (Nat.not_le.2 (nL H (z6 r m l e q p)))).kp B).kp C).kp D).kp F).kp kn)
     refine lN (L_31 ((a).1) Q R S T V W X Y) (wS ah) isAgg_31 sizeOf_31 ko ?_
     exact f1
    ·intro _ b kq _
     rintro _ rfl _ rfl _ rfl _ rfl _ rfl _ rfl _ rfl _ rfl _ rfl _ rfl _ rfl _ rfl _ rfl _ rfl _ rfl _ rfl _ rfl _ rfl _ rfl _ rfl _ rfl _ _ _ _ _ _ _ _ _ _ _ _ _ _ _ _ _ _ _ _ _ _ _ _ _ _ _ _
     show WL _ _ _ _ _ _ _
     have bL := fun (E sz n : Nat) (v : Value) (G : List Value) (o : World.ownsRow L Z.heap.size E sz v n G) (s : World.ownsRow L Z.heap.size E sz v n G) => (own_kp (own_kp (own_kp (own_kp (own_kp (own_ch (own_ch (own_kp (own_kp (own_ch (own_ch (own_kp (own_kp o t) r) m (ne2 s (a1))) l (ne2 s (nT t.size P))) e) q) p (ne2 s (nT (z5 t r m l e) I))) y (fun g hg hlt hk => by have M := (own_lt s g hg).2; have N : L.heap.size ≤ K.heap.size := (z7 t r m l e q p); have O : K.heap.size ≤ g := hk; omega)) B) C) D) F) kq)
     have kr := (bL _ _ _ _ _ au au)
     have ks := (bL _ _ _ _ _ av av)
     have kt := (bL _ _ _ _ _ ax ax)
     have ku := (bL _ _ _ _ _ ay ay)
     have kv := (bL _ _ _ _ _ ac ac)
     have kx := (bL _ _ _ _ _ ad ad)
     have ky := (bL _ _ _ _ _ ae ae)
     have kz := (bL _ _ _ _ _ af af)
     refine cl (wS ah) (ciSameNote b _ ((a).2) (mR_31 (Rd.of_own kr) aG (Rd.of_own ks) aH (Rd.of_own kt) aI (Rd.of_own ku) aJ) _ ((a).1) (mR_31 (Rd.of_own kv) a3 (Rd.of_own kx) a4 (Rd.of_own ky) a5 (Rd.of_own kz) a6)) ?_
     rintro _ a2 ⟨k1, rfl⟩
     exact wl_finT k1 rfl
    ·intro _ b k2 _
     rintro _ rfl _ rfl _ rfl _ rfl _ rfl _ rfl _ rfl _ rfl _ rfl _ rfl _ rfl _ rfl _ rfl _ rfl _ rfl _ rfl _ rfl _ rfl _ rfl _ _ _ _ _ _ _ _ _ _ _ _ _ _ _ _ _ _ _ _ _ _ _ _ _ _ _ _ _ _
     show WL _ _ _ _ _ _ _
     have k3 := ((((((((((a7.ch l (nN (nL H (P)))).kp e).kp q).ch p (nN (nL H (nT (z4 r m l e) I)))).ch y (Nat.not_le.2 (nL H (z6 r m l e q p)))).kp B).kp C).kp D).kp F).kp k2)
     refine lN (L_31 ((a).1) Q R S T V W X Y) (wS ah) isAgg_31 sizeOf_31 k3 ?_
     exact f1
    ·intro _ b k4 _
     rintro _ rfl _ rfl _ rfl _ rfl _ rfl _ rfl _ rfl _ rfl _ rfl _ rfl _ rfl _ rfl _ rfl _ rfl _ rfl _ rfl _ rfl _ rfl _ rfl _ _ _ _ _ _ _ _ _ _ _ _ _ _ _ _ _ _ _ _ _ _ _ _ _ _ _ _ _ _
     show WL _ _ _ _ _ _ _
     have k5 := (((((((((aK.kp e).kp q).ch p (nN (nL az (nT (z3 m l e) I)))).ch y (Nat.not_le.2 (nL az (z5 m l e q p)))).kp B).kp C).kp D).kp F).kp k4)
     refine lN (L_31 ((a).2) ai aj ak am an ao ap aq) (wS ah) isAgg_31 sizeOf_31 k5 ?_
     exact f1
    ·intro _ b k6 _
     rintro _ rfl _ rfl _ rfl _ rfl _ rfl _ rfl _ rfl _ rfl _ rfl _ rfl _ rfl _ rfl _ rfl _ rfl _ rfl _ rfl _ rfl _ rfl _ rfl _ rfl _ rfl _ rfl _ rfl _ rfl _ _ _ _ _ _ _ _ _ _ _ _ _ _ _ _ _ _ _ _ _ _ _ _ _
     show WL _ _ _ _ _ _ _
     have bM := fun (E sz n : Nat) (v : Value) (G : List Value) (o : World.ownsRow L Z.heap.size E sz v n G) (s : World.ownsRow L Z.heap.size E sz v n G) => (own_kp (own_kp (own_kp (own_kp (own_kp (own_ch (own_ch (own_kp (own_kp (own_ch (own_ch (own_kp (own_kp o t) r) m (ne2 s (a1))) l (ne2 s (nT t.size P))) e) q) p (ne2 s (nT (z5 t r m l e) I))) y (fun g hg hlt hk => by have M := (own_lt s g hg).2; have N : L.heap.size ≤ K.heap.size := (z7 t r m l e q p); have O : K.heap.size ≤ g := hk; omega)) B) C) D) F) k6)
     have k7 := (bM _ _ _ _ _ ac ac)
     have k8 := (bM _ _ _ _ _ ad ad)
     have k9 := (bM _ _ _ _ _ ae ae)
     have kA := (bM _ _ _ _ _ af af)
     have kB := (bM _ _ _ _ _ au au)
     have kC := (bM _ _ _ _ _ av av)
     have kD := (bM _ _ _ _ _ ax ax)
     have kE := (bM _ _ _ _ _ ay ay)
     refine cl (wS ah) (ciSameNote b _ ((a).1) (mR_31 (Rd.of_own k7) a3 (Rd.of_own k8) a4 (Rd.of_own k9) a5 (Rd.of_own kA) a6) _ ((a).2) (mR_31 (Rd.of_own kB) aG (Rd.of_own kC) aH (Rd.of_own kD) aI (Rd.of_own kE) aJ)) ?_
     rintro _ a2 ⟨kF, rfl⟩
     exact wl_finT kF rfl
    ·intro _ b rY _
     rintro _ rfl _ rfl _ rfl _ rfl _ rfl _ rfl _ rfl _ rfl _ rfl _ rfl _ rfl _ rfl _ rfl _ rfl _ rfl _ rfl _ rfl _ rfl _ rfl _ rfl _ rfl _ rfl _ rfl _ rfl _ rfl _ _ _ _ _ _ _ _ _ _ _ _ _ _ _ _ _ _ _ _ _ _ _ _
     show WL _ _ _ _ _ _ _
     refine pu (vb ((i_SameNote ((a).2) ((a).1)) == (i_SameNote ((a).1) ((a).2)))) (wS ah) ?_
     exact f1
    ·intro _ b rZ _
     rintro _ rfl _ rfl _ rfl _ rfl _ rfl _ rfl _ rfl _ rfl _ rfl _ rfl _ rfl _ rfl _ rfl _ rfl _ rfl _ rfl _ rfl _ rfl _ rfl _ rfl _ rfl _ rfl _ rfl _ rfl _ rfl _ rfl _ _ _ _ _ _ _ _ _ _ _ _ _ _ _ _ _ _ _ _ _ _ _
     show WL _ _ _ _ _ _ _
     refine pk (vb ((i_SameNote ((a).2) ((a).1)) == (i_SameNote ((a).1) ((a).2)))) wN ah ?_
     exact f1
    ·intro _ b sa _
     rintro _ rfl _ rfl _ rfl _ rfl _ rfl _ rfl _ rfl _ rfl _ rfl _ rfl _ rfl _ rfl _ rfl _ rfl _ rfl _ rfl _ rfl _ rfl _ rfl _ rfl _ rfl _ rfl _ rfl _ rfl _ rfl _ rfl _ rfl _ _ _ _ _ _ _ _ _ _ _ _ _ _ _ _ _ _ _ _ _ _
     show WL _ _ _ _ _ _ _
     refine mw (vb ((i_SameNote ((a).2) ((a).1)) == (i_SameNote ((a).1) ((a).2)))) ?_
     exact f1
    ·intro _ b kG _
     rintro _ rfl _ rfl _ rfl _ rfl _ rfl _ rfl _ rfl _ rfl _ rfl _ rfl _ rfl _ rfl _ rfl _ rfl _ rfl _ rfl _ rfl _ rfl _ rfl _ rfl _ rfl _ rfl _ rfl _ rfl _ rfl _ rfl _ rfl _ rfl _ _ _ _ _ _ _ _ _ _ _ _ _ _ _ _ _ _ _ _ _
     show WL _ _ _ _ _ _ _
     have kH := ((((((b3.ch y (Nat.not_le.2 (nL b2 p.size))).kp B).kp C).kp D).kp F).kp kG)
     refine lN (L_31 (J) aP aQ aR aS aT aU aV aW) (wS a8) isAgg_31 sizeOf_31 kH ?_
     exact f1
    ·intro _ b kI _
     rintro _ rfl _ rfl _ rfl _ rfl _ rfl _ rfl _ rfl _ rfl _ rfl _ rfl _ rfl _ rfl _ rfl _ rfl _ rfl _ rfl _ rfl _ rfl _ rfl _ rfl _ rfl _ rfl _ rfl _ rfl _ rfl _ rfl _ rfl _ rfl _ rfl _ _ _ _ _ _ _ _ _ _ _ _ _ _ _ _ _ _ _ _
     show WL _ _ _ _ _ _ _
     have co := fun (E sz n : Nat) (v : Value) (G : List Value) (o : World.ownsRow aF aO.heap.size E sz v n G) (s : World.ownsRow aF aO.heap.size E sz v n G) => (own_kp (own_kp (own_kp (own_kp (own_kp (own_ch (own_ch (own_kp o q) p (ne2 s (I))) y (fun g hg hlt hk => by have M := (own_lt s g hg).2; have N : aF.heap.size ≤ K.heap.size := (z2 q p); have O : K.heap.size ≤ g := hk; omega)) B) C) D) F) kI)
     have kJ := (co _ _ _ _ _ aX aX)
     have kK := (co _ _ _ _ _ aY aY)
     have kL := (co _ _ _ _ _ aZ aZ)
     have kM := (co _ _ _ _ _ ba ba)
     refine cl (wS a8) (ciNoteOk b _ (J) (mR_31 (Rd.of_own kJ) bw (Rd.of_own kK) bz (Rd.of_own kL) b0 (Rd.of_own kM) b1)) ?_
     rintro _ a2 ⟨kN, rfl⟩
     exact wl_finT kN rfl
    ·intro _ b kO _
     rintro _ rfl _ rfl _ rfl _ rfl _ rfl _ rfl _ rfl _ rfl _ rfl _ rfl _ rfl _ rfl _ rfl _ rfl _ rfl _ rfl _ rfl _ rfl _ rfl _ rfl _ rfl _ rfl _ rfl _ rfl _ rfl _ rfl _ rfl _ rfl _ _ _ _ _ _ _ _ _ _ _ _ _ _ _ _ _ _ _ _ _
     show WL _ _ _ _ _ _ _
     have kP := ((((((b3.ch y (Nat.not_le.2 (nL b2 p.size))).kp B).kp C).kp D).kp F).kp kO)
     refine lN (L_31 (J) aP aQ aR aS aT aU aV aW) (wS a8) isAgg_31 sizeOf_31 kP ?_
     exact f1
    ·intro _ b kQ _
     rintro _ rfl _ rfl _ rfl _ rfl _ rfl _ rfl _ rfl _ rfl _ rfl _ rfl _ rfl _ rfl _ rfl _ rfl _ rfl _ rfl _ rfl _ rfl _ rfl _ rfl _ rfl _ rfl _ rfl _ rfl _ rfl _ rfl _ rfl _ rfl _ rfl _ rfl _ rfl _ _ _ _ _ _ _ _ _ _ _ _ _ _ _ _ _ _
     show WL _ _ _ _ _ _ _
     have cp := fun (E sz n : Nat) (v : Value) (G : List Value) (o : World.ownsRow aF aO.heap.size E sz v n G) (s : World.ownsRow aF aO.heap.size E sz v n G) => (own_kp (own_kp (own_kp (own_kp (own_kp (own_ch (own_ch (own_kp o q) p (ne2 s (I))) y (fun g hg hlt hk => by have M := (own_lt s g hg).2; have N : aF.heap.size ≤ K.heap.size := (z2 q p); have O : K.heap.size ≤ g := hk; omega)) B) C) D) F) kQ)
     have kR := (cp _ _ _ _ _ aX aX)
     have kS := (cp _ _ _ _ _ aY aY)
     have kT := (cp _ _ _ _ _ aZ aZ)
     have kU := (cp _ _ _ _ _ ba ba)
     refine cl (wS a8) (csNoteOk b _ (J) (mR_31 (Rd.of_own kR) bw (Rd.of_own kS) bz (Rd.of_own kT) b0 (Rd.of_own kU) b1)) ?_
     rintro _ a2 ⟨kV, rfl⟩
     exact wl_finT kV rfl
    ·intro _ b sb _
     rintro _ rfl _ rfl _ rfl _ rfl _ rfl _ rfl _ rfl _ rfl _ rfl _ rfl _ rfl _ rfl _ rfl _ rfl _ rfl _ rfl _ rfl _ rfl _ rfl _ rfl _ rfl _ rfl _ rfl _ rfl _ rfl _ rfl _ rfl _ rfl _ rfl _ rfl _ rfl _ rfl _ _ _ _ _ _ _ _ _ _ _ _ _ _ _ _ _
     show WL _ _ _ _ _ _ _
     refine pu (vb ((i_NoteOk (J)) == (s_NoteOk (J)))) (wS a8) ?_
     exact f1
    ·intro _ b sc _
     rintro _ rfl _ rfl _ rfl _ rfl _ rfl _ rfl _ rfl _ rfl _ rfl _ rfl _ rfl _ rfl _ rfl _ rfl _ rfl _ rfl _ rfl _ rfl _ rfl _ rfl _ rfl _ rfl _ rfl _ rfl _ rfl _ rfl _ rfl _ rfl _ rfl _ rfl _ rfl _ rfl _ rfl _ _ _ _ _ _ _ _ _ _ _ _ _ _ _ _
     show WL _ _ _ _ _ _ _
     refine pk (vb ((i_NoteOk (J)) == (s_NoteOk (J)))) wN a8 ?_
     exact f1
    ·intro _ b sd _
     rintro _ rfl _ rfl _ rfl _ rfl _ rfl _ rfl _ rfl _ rfl _ rfl _ rfl _ rfl _ rfl _ rfl _ rfl _ rfl _ rfl _ rfl _ rfl _ rfl _ rfl _ rfl _ rfl _ rfl _ rfl _ rfl _ rfl _ rfl _ rfl _ rfl _ rfl _ rfl _ rfl _ rfl _ rfl _ _ _ _ _ _ _ _ _ _ _ _ _ _ _
     show WL _ _ _ _ _ _ _
     refine mw (vb ((i_NoteOk (J)) == (s_NoteOk (J)))) ?_
     exact f1
    ·intro _ b se _
     rintro _ rfl _ rfl _ rfl _ rfl _ rfl _ rfl _ rfl _ rfl _ rfl _ rfl _ rfl _ rfl _ rfl _ rfl _ rfl _ rfl _ rfl _ rfl _ rfl _ rfl _ rfl _ rfl _ rfl _ rfl _ rfl _ rfl _ rfl _ rfl _ rfl _ rfl _ rfl _ rfl _ rfl _ rfl _ rfl _ _ _ _ _ _ _ _ _ _ _ _ _ _
     show WL _ _ _ _ _ _ _
     refine mv (.string (i_NoteName ((l_at x 2) % 20))) (wS a9) ?_
     exact f1
    ·intro _ b sf _
     rintro _ rfl _ rfl _ rfl _ rfl _ rfl _ rfl _ rfl _ rfl _ rfl _ rfl _ rfl _ rfl _ rfl _ rfl _ rfl _ rfl _ rfl _ rfl _ rfl _ rfl _ rfl _ rfl _ rfl _ rfl _ rfl _ rfl _ rfl _ rfl _ rfl _ rfl _ rfl _ rfl _ rfl _ rfl _ rfl _ rfl _ _ _ _ _ _ _ _ _ _ _ _ _
     show WL _ _ _ _ _ _ _
     refine pu (vb (eqS (i_NoteName ((l_at x 2) % 20)) (ByteArray.mk ([] : List UInt8).toArray))) (wS a9) ?_
     exact f1
    ·intro _ b sg _
     rintro _ rfl _ rfl _ rfl _ rfl _ rfl _ rfl _ rfl _ rfl _ rfl _ rfl _ rfl _ rfl _ rfl _ rfl _ rfl _ rfl _ rfl _ rfl _ rfl _ rfl _ rfl _ rfl _ rfl _ rfl _ rfl _ rfl _ rfl _ rfl _ rfl _ rfl _ rfl _ rfl _ rfl _ rfl _ rfl _ rfl _ rfl _ _ _ _ _ _ _ _ _ _ _ _
     show WL _ _ _ _ _ _ _
     refine mv (vb (eqS (i_NoteName ((l_at x 2) % 20)) (ByteArray.mk ([] : List UInt8).toArray))) (wS a9) ?_
     exact f1
    ·intro _ b sh _
     rintro _ rfl _ rfl _ rfl _ rfl _ rfl _ rfl _ rfl _ rfl _ rfl _ rfl _ rfl _ rfl _ rfl _ rfl _ rfl _ rfl _ rfl _ rfl _ rfl _ rfl _ rfl _ rfl _ rfl _ rfl _ rfl _ rfl _ rfl _ rfl _ rfl _ rfl _ rfl _ rfl _ rfl _ rfl _ rfl _ rfl _ rfl _ rfl _ _ _ _ _ _ _ _ _ _ _
     show WL _ _ _ _ _ _ _
     refine mv (.string (i_NoteName ((l_at x 2) % 20))) (wS bb) ?_
     exact f1
    ·intro _ b si _
     rintro _ rfl _ rfl _ rfl _ rfl _ rfl _ rfl _ rfl _ rfl _ rfl _ rfl _ rfl _ rfl _ rfl _ rfl _ rfl _ rfl _ rfl _ rfl _ rfl _ rfl _ rfl _ rfl _ rfl _ rfl _ rfl _ rfl _ rfl _ rfl _ rfl _ rfl _ rfl _ rfl _ rfl _ rfl _ rfl _ rfl _ rfl _ rfl _ _ _ _ _ _ _ _ _ _ _
     show WL _ _ _ _ _ _ _
     refine mv (.string (i_NoteName ((l_at x 3) % 20))) (wS bb) ?_
     exact f1
    ·intro _ b sj _
     rintro _ rfl _ rfl _ rfl _ rfl _ rfl _ rfl _ rfl _ rfl _ rfl _ rfl _ rfl _ rfl _ rfl _ rfl _ rfl _ rfl _ rfl _ rfl _ rfl _ rfl _ rfl _ rfl _ rfl _ rfl _ rfl _ rfl _ rfl _ rfl _ rfl _ rfl _ rfl _ rfl _ rfl _ rfl _ rfl _ rfl _ rfl _ rfl _ rfl _ rfl _ _ _ _ _ _ _ _ _
     show WL _ _ _ _ _ _ _
     refine pu (vb (!(eqS (i_NoteName ((l_at x 2) % 20)) (i_NoteName ((l_at x 3) % 20))))) (wS bb) ?_
     exact f1
    ·intro _ b sl _
     rintro _ rfl _ rfl _ rfl _ rfl _ rfl _ rfl _ rfl _ rfl _ rfl _ rfl _ rfl _ rfl _ rfl _ rfl _ rfl _ rfl _ rfl _ rfl _ rfl _ rfl _ rfl _ rfl _ rfl _ rfl _ rfl _ rfl _ rfl _ rfl _ rfl _ rfl _ rfl _ rfl _ rfl _ rfl _ rfl _ rfl _ rfl _ rfl _ rfl _ rfl _ rfl _ _ _ _ _ _ _ _
     show WL _ _ _ _ _ _ _
     refine pf (vb (!(eqS (i_NoteName ((l_at x 2) % 20)) (i_NoteName ((l_at x 3) % 20))))) (wS a9) bb ?_
     exact f1
    ·intro _ b sm _
     rintro _ rfl _ rfl _ rfl _ rfl _ rfl _ rfl _ rfl _ rfl _ rfl _ rfl _ rfl _ rfl _ rfl _ rfl _ rfl _ rfl _ rfl _ rfl _ rfl _ rfl _ rfl _ rfl _ rfl _ rfl _ rfl _ rfl _ rfl _ rfl _ rfl _ rfl _ rfl _ rfl _ rfl _ rfl _ rfl _ rfl _ rfl _ rfl _ rfl _ rfl _ rfl _ rfl _ _ _ _ _ _ _
     show WL _ _ _ _ _ _ _
     refine mv (vb (!(eqS (i_NoteName ((l_at x 2) % 20)) (i_NoteName ((l_at x 3) % 20))))) (wS a9) ?_
     exact f1
    ·intro _ b sn _
     rintro _ rfl _ rfl _ rfl _ rfl _ rfl _ rfl _ rfl _ rfl _ rfl _ rfl _ rfl _ rfl _ rfl _ rfl _ rfl _ rfl _ rfl _ rfl _ rfl _ rfl _ rfl _ rfl _ rfl _ rfl _ rfl _ rfl _ rfl _ rfl _ rfl _ rfl _ rfl _ rfl _ rfl _ rfl _ rfl _ rfl _ rfl _ rfl _ rfl _ rfl _ rfl _ rfl _ rfl _ _ _ _ _ _
     show WL _ _ _ _ _ _ _
     refine sk (cA not aN) ?_
     exact f1
    ·intro _ b so _
     rintro _ rfl _ rfl _ rfl _ rfl _ rfl _ rfl _ rfl _ rfl _ rfl _ rfl _ rfl _ rfl _ rfl _ rfl _ rfl _ rfl _ rfl _ rfl _ rfl _ rfl _ rfl _ rfl _ rfl _ rfl _ rfl _ rfl _ rfl _ rfl _ rfl _ rfl _ rfl _ rfl _ rfl _ rfl _ rfl _ rfl _ rfl _ rfl _ rfl _ rfl _ rfl _ rfl _ rfl _ rfl _ _ _ _ _
     show WL _ _ _ _ _ _ _
     refine sk (cA not aN) ?_
     exact f1
    ·intro _ b sq _
     rintro _ rfl _ rfl _ rfl _ rfl _ rfl _ rfl _ rfl _ rfl _ rfl _ rfl _ rfl _ rfl _ rfl _ rfl _ rfl _ rfl _ rfl _ rfl _ rfl _ rfl _ rfl _ rfl _ rfl _ rfl _ rfl _ rfl _ rfl _ rfl _ rfl _ rfl _ rfl _ rfl _ rfl _ rfl _ rfl _ rfl _ rfl _ rfl _ rfl _ rfl _ rfl _ rfl _ rfl _ rfl _ rfl _ _ _ _
     show WL _ _ _ _ _ _ _
     refine sk (cA not aN) ?_
     exact f1
    ·intro _ b ss _
     rintro _ rfl _ rfl _ rfl _ rfl _ rfl _ rfl _ rfl _ rfl _ rfl _ rfl _ rfl _ rfl _ rfl _ rfl _ rfl _ rfl _ rfl _ rfl _ rfl _ rfl _ rfl _ rfl _ rfl _ rfl _ rfl _ rfl _ rfl _ rfl _ rfl _ rfl _ rfl _ rfl _ rfl _ rfl _ rfl _ rfl _ rfl _ rfl _ rfl _ rfl _ rfl _ rfl _ rfl _ _ _ _ _ _
     show WL _ _ _ _ _ _ _
     refine sk (cA not aN) ?_
     exact f1
    ·intro _ b sw _
     rintro _ rfl _ rfl _ rfl _ rfl _ rfl _ rfl _ rfl _ rfl _ rfl _ rfl _ rfl _ rfl _ rfl _ rfl _ rfl _ rfl _ rfl _ rfl _ rfl _ rfl _ rfl _ rfl _ rfl _ rfl _ rfl _ rfl _ rfl _ rfl _ rfl _ rfl _ rfl _ rfl _ rfl _ rfl _ rfl _ rfl _ rfl _ rfl _ rfl _ rfl _ rfl _ rfl _ rfl _ rfl _ rfl _ _ rfl _ _
     show WL _ _ _ _ _ _ _
     refine sk (cA not aN) ?_
     exact f1
    ·intro _ b sx _
     rintro _ rfl _ rfl _ rfl _ rfl _ rfl _ rfl _ rfl _ rfl _ rfl _ rfl _ rfl _ rfl _ rfl _ rfl _ rfl _ rfl _ rfl _ rfl _ rfl _ rfl _ rfl _ rfl _ rfl _ rfl _ rfl _ rfl _ rfl _ rfl _ rfl _ rfl _ rfl _ rfl _ rfl _ rfl _ rfl _ rfl _ rfl _ rfl _ rfl _ rfl _ rfl _ rfl _ rfl _ rfl _ rfl _ _ rfl _ rfl _
     show WL _ _ _ _ _ _ _
     refine sk (cA not aN) ?_
     exact f1
   ·intro _ b kW
    have kX := bq.extk kW
    rintro _ rfl _ rfl _ rfl _ rfl _ rfl _ rfl _ rfl _ rfl _ rfl _ rfl _ rfl _ rfl _ rfl _ rfl _ rfl _ rfl _ rfl _ rfl _ rfl _ rfl _ rfl _ rfl _ rfl _ rfl _ rfl _ rfl _ rfl _ rfl _ rfl _ rfl _ rfl _ rfl _ rfl _ rfl _ rfl _ rfl _ rfl _ rfl _ rfl _ rfl _ rfl _ rfl _ rfl _ rfl _ rfl _ rfl _ rfl _ rfl _ rfl
    show WL _ _ _ _ _ _ _
    refine sk (cA not aN) ?_
    refine pk (vb true) (wS a9) (cA not aN) ?_
    refine pk (vb true) wN a9 ?_
    refine aw (vb true) ?_
    refine n3 ?_
    refine rt (vb true) ?_
    have kY : ntLaw x d a J = true := by obtain rfl : i = d.1.length := (by omega); subst bh; have hz := allN_t (f := ntG d) (n := d.1.length) (k := d.1.length) bj (by omega); simp only [ntLaw, ntT, ntS, hz, aL, aM, a0, aa, ah, a8, a9, bb, aN, cond_true, cond_false]; try rfl
    exact ⟨d, a, J, kX.keep0, bl, bm, bn, by rw [kY]⟩
  refine wc_drawT ([(69, [], [], (fun _ v _ => v = (vi k))), (70, [], [], (fun _ v _ => v = (vs aC (i_Pick ((d).1) ((d).2)).length aD))), (71, [], [1], (fun _ v _ => v = (vi ((i_Pick ((d).1) ((d).2)).length : Int)))), (72, [], [0, 1, 2], (fun _ v _ => v = (vb (decide (k = ((i_Pick ((d).1) ((d).2)).length : Int)))))), (73, [], [0, 1, 2, 3], (fun _ v _ => v = (vb (decide (k = ((i_Pick ((d).1) ((d).2)).length : Int)))))), (74, [], [0, 1, 2, 3, 4], (fun _ v _ => v = (va (L_31 ((a).1) Q R S T V W X Y)))), (75, [], [0, 1, 2, 3, 4], (fun _ v _ => v = (va (L_31 ((a).1) Q R S T V W X Y)))), (76, [], [0, 1, 2, 3, 4, 5, 6], (fun _ v w => v = .bool (i_SameNote ((a).1) ((a).1)))), (77, [], [0, 1, 2, 3, 4, 5, 6, 7], (fun _ v _ => v = (vb (i_SameNote ((a).1) ((a).1))))), (78, [], [0, 1, 2, 3, 4, 5, 6, 7, 8], (fun _ v _ => v = (vb (i_SameNote ((a).1) ((a).1))))), (79, [], [0, 1, 2, 3, 4, 5, 6, 7, 8, 9], (fun _ v _ => v = (va (L_31 ((a).1) Q R S T V W X Y)))), (80, [], [0, 1, 2, 3, 4, 5, 6, 7, 8, 9], (fun _ v _ => v = (va (L_31 ((a).2) ai aj ak am an ao ap aq)))), (81, [], [0, 1, 2, 3, 4, 5, 6, 7, 8, 9, 10, 11], (fun _ v w => v = .bool (i_SameNote ((a).1) ((a).2)))), (82, [], [0, 1, 2, 3, 4, 5, 6, 7, 8, 9], (fun _ v _ => v = (va (L_31 ((a).1) Q R S T V W X Y)))), (83, [], [0, 1, 2, 3, 4, 5, 6, 7, 8, 9], (fun _ v _ => v = (va (L_31 ((a).2) ai aj ak am an ao ap aq)))), (84, [], [0, 1, 2, 3, 4, 5, 6, 7, 8, 9, 10, 11, 12, 13, 14], (fun _ v w => v = .bool (s_SameNote ((a).1) ((a).2)))), (85, [], [0, 1, 2, 3, 4, 5, 6, 7, 8, 9, 10, 11, 12, 13, 14, 15], (fun _ v _ => v = (vb ((i_SameNote ((a).1) ((a).2)) == (s_SameNote ((a).1) ((a).2)))))), (86, [], [0, 1, 2, 3, 4, 5, 6, 7, 8, 9, 10, 11, 12, 13, 14, 15, 16], (fun _ v _ => v = (vb ((i_SameNote ((a).1) ((a).2)) == (s_SameNote ((a).1) ((a).2)))))), (87, [], [0, 1, 2, 3, 4, 5, 6, 7, 8, 9, 10, 11, 12, 13, 14, 15, 16, 17], (fun _ v _ => v = (vb ((i_SameNote ((a).1) ((a).2)) == (s_SameNote ((a).1) ((a).2)))))), (88, [], [0, 1, 2, 3, 4, 5, 6, 7, 8, 9, 10, 11, 12, 13, 14, 15, 16, 17, 18], (fun _ v _ => v = (va (L_31 ((a).2) ai aj ak am an ao ap aq)))), (89, [], [0, 1, 2, 3, 4, 5, 6, 7, 8, 9, 10, 11, 12, 13, 14, 15, 16, 17, 18], (fun _ v _ => v = (va (L_31 ((a).1) Q R S T V W X Y)))), (90, [], [0, 1, 2, 3, 4, 5, 6, 7, 8, 9, 10, 11, 12, 13, 14, 15, 16, 17, 18, 19, 20], (fun _ v w => v = .bool (i_SameNote ((a).2) ((a).1)))), (91, [], [0, 1, 2, 3, 4, 5, 6, 7, 8, 9, 10, 11, 12, 13, 14, 15, 16, 17, 18], (fun _ v _ => v = (va (L_31 ((a).1) Q R S T V W X Y)))), (92, [], [0, 1, 2, 3, 4, 5, 6, 7, 8, 9, 10, 11, 12, 13, 14, 15, 16, 17, 18], (fun _ v _ => v = (va (L_31 ((a).2) ai aj ak am an ao ap aq)))), (93, [], [0, 1, 2, 3, 4, 5, 6, 7, 8, 9, 10, 11, 12, 13, 14, 15, 16, 17, 18, 19, 20, 21, 22, 23], (fun _ v w => v = .bool (i_SameNote ((a).1) ((a).2)))), (94, [], [0, 1, 2, 3, 4, 5, 6, 7, 8, 9, 10, 11, 12, 13, 14, 15, 16, 17, 18, 19, 20, 21, 22, 23, 24], (fun _ v _ => v = (vb ((i_SameNote ((a).2) ((a).1)) == (i_SameNote ((a).1) ((a).2)))))), (95, [], [0, 1, 2, 3, 4, 5, 6, 7, 8, 9, 10, 11, 12, 13, 14, 15, 16, 17, 18, 19, 20, 21, 22, 23, 24, 25], (fun _ v _ => v = (vb ((i_SameNote ((a).2) ((a).1)) == (i_SameNote ((a).1) ((a).2)))))), (96, [], [0, 1, 2, 3, 4, 5, 6, 7, 8, 9, 10, 11, 12, 13, 14, 15, 16, 17, 18, 19, 20, 21, 22, 23, 24, 25, 26], (fun _ v _ => v = (vb ((i_SameNote ((a).2) ((a).1)) == (i_SameNote ((a).1) ((a).2)))))), (97, [], [0, 1, 2, 3, 4, 5, 6, 7, 8, 9, 10, 11, 12, 13, 14, 15, 16, 17, 18, 19, 20, 21, 22, 23, 24, 25, 26, 27], (fun _ v _ => v = (va (L_31 (J) aP aQ aR aS aT aU aV aW)))), (98, [], [0, 1, 2, 3, 4, 5, 6, 7, 8, 9, 10, 11, 12, 13, 14, 15, 16, 17, 18, 19, 20, 21, 22, 23, 24, 25, 26, 27, 28], (fun _ v w => v = .bool (i_NoteOk (J)))), (99, [], [0, 1, 2, 3, 4, 5, 6, 7, 8, 9, 10, 11, 12, 13, 14, 15, 16, 17, 18, 19, 20, 21, 22, 23, 24, 25, 26, 27], (fun _ v _ => v = (va (L_31 (J) aP aQ aR aS aT aU aV aW)))), (100, [], [0, 1, 2, 3, 4, 5, 6, 7, 8, 9, 10, 11, 12, 13, 14, 15, 16, 17, 18, 19, 20, 21, 22, 23, 24, 25, 26, 27, 28, 29, 30], (fun _ v w => v = .bool (s_NoteOk (J)))), (101, [], [0, 1, 2, 3, 4, 5, 6, 7, 8, 9, 10, 11, 12, 13, 14, 15, 16, 17, 18, 19, 20, 21, 22, 23, 24, 25, 26, 27, 28, 29, 30, 31], (fun _ v _ => v = (vb ((i_NoteOk (J)) == (s_NoteOk (J)))))), (102, [], [0, 1, 2, 3, 4, 5, 6, 7, 8, 9, 10, 11, 12, 13, 14, 15, 16, 17, 18, 19, 20, 21, 22, 23, 24, 25, 26, 27, 28, 29, 30, 31, 32], (fun _ v _ => v = (vb ((i_NoteOk (J)) == (s_NoteOk (J)))))), (103, [], [0, 1, 2, 3, 4, 5, 6, 7, 8, 9, 10, 11, 12, 13, 14, 15, 16, 17, 18, 19, 20, 21, 22, 23, 24, 25, 26, 27, 28, 29, 30, 31, 32, 33], (fun _ v _ => v = (vb ((i_NoteOk (J)) == (s_NoteOk (J)))))), (104, [], [0, 1, 2, 3, 4, 5, 6, 7, 8, 9, 10, 11, 12, 13, 14, 15, 16, 17, 18, 19, 20, 21, 22, 23, 24, 25, 26, 27, 28, 29, 30, 31, 32, 33, 34], (fun _ v _ => v = (.string (i_NoteName ((l_at x 2) % 20))))), (105, [], [0, 1, 2, 3, 4, 5, 6, 7, 8, 9, 10, 11, 12, 13, 14, 15, 16, 17, 18, 19, 20, 21, 22, 23, 24, 25, 26, 27, 28, 29, 30, 31, 32, 33, 34, 35], (fun _ v _ => v = (vb (eqS (i_NoteName ((l_at x 2) % 20)) (ByteArray.mk ([] : List UInt8).toArray))))), (106, [], [0, 1, 2, 3, 4, 5, 6, 7, 8, 9, 10, 11, 12, 13, 14, 15, 16, 17, 18, 19, 20, 21, 22, 23, 24, 25, 26, 27, 28, 29, 30, 31, 32, 33, 34, 35, 36], (fun _ v _ => v = (vb (eqS (i_NoteName ((l_at x 2) % 20)) (ByteArray.mk ([] : List UInt8).toArray))))), (107, [], [0, 1, 2, 3, 4, 5, 6, 7, 8, 9, 10, 11, 12, 13, 14, 15, 16, 17, 18, 19, 20, 21, 22, 23, 24, 25, 26, 27, 28, 29, 30, 31, 32, 33, 34, 35, 36, 37], (fun _ v _ => v = (.string (i_NoteName ((l_at x 2) % 20))))), (108, [], [0, 1, 2, 3, 4, 5, 6, 7, 8, 9, 10, 11, 12, 13, 14, 15, 16, 17, 18, 19, 20, 21, 22, 23, 24, 25, 26, 27, 28, 29, 30, 31, 32, 33, 34, 35, 36, 37], (fun _ v _ => v = (.string (i_NoteName ((l_at x 3) % 20))))), (109, [], [0, 1, 2, 3, 4, 5, 6, 7, 8, 9, 10, 11, 12, 13, 14, 15, 16, 17, 18, 19, 20, 21, 22, 23, 24, 25, 26, 27, 28, 29, 30, 31, 32, 33, 34, 35, 36, 37, 38, 39], (fun _ v _ => v = (vb (!(eqS (i_NoteName ((l_at x 2) % 20)) (i_NoteName ((l_at x 3) % 20))))))), (110, [], [0, 1, 2, 3, 4, 5, 6, 7, 8, 9, 10, 11, 12, 13, 14, 15, 16, 17, 18, 19, 20, 21, 22, 23, 24, 25, 26, 27, 28, 29, 30, 31, 32, 33, 34, 35, 36, 37, 38, 39, 40], (fun _ v _ => v = (vb (!(eqS (i_NoteName ((l_at x 2) % 20)) (i_NoteName ((l_at x 3) % 20))))))), (111, [], [0, 1, 2, 3, 4, 5, 6, 7, 8, 9, 10, 11, 12, 13, 14, 15, 16, 17, 18, 19, 20, 21, 22, 23, 24, 25, 26, 27, 28, 29, 30, 31, 32, 33, 34, 35, 36, 37, 38, 39, 40, 41], (fun _ v _ => v = (vb (!(eqS (i_NoteName ((l_at x 2) % 20)) (i_NoteName ((l_at x 3) % 20))))))), (112, [], [0, 1, 2, 3, 4, 5, 6, 7, 8, 9, 10, 11, 12, 13, 14, 15, 16, 17, 18, 19, 20, 21, 22, 23, 24, 25, 26, 27, 28, 29, 30, 31, 32, 33, 34, 35, 36, 37, 38, 39, 40, 41, 42], (fun _ v _ => v = (vs bc x.length bd))), (113, [], [0, 1, 2, 3, 4, 5, 6, 7, 8, 9, 10, 11, 12, 13, 14, 15, 16, 17, 18, 19, 20, 21, 22, 23, 24, 25, 26, 27, 28, 29, 30, 31, 32, 33, 34, 35, 36, 37, 38, 39, 40, 41, 42, 43], (fun _ v w => v = .int .i64 (l_at x 2))), (114, [], [0, 1, 2, 3, 4, 5, 6, 7, 8, 9, 10, 11, 12, 13, 14, 15, 16, 17, 18, 19, 20, 21, 22, 23, 24, 25, 26, 27, 28, 29, 30, 31, 32, 33, 34, 35, 36, 37, 38, 39, 40, 41, 42, 43, 44], (fun _ v _ => v = (vi ((l_at x 2) % 20)))), (115, [], [0, 1, 2, 3, 4, 5, 6, 7, 8, 9, 10, 11, 12, 13, 14, 15, 16, 17, 18, 19, 20, 21, 22, 23, 24, 25, 26, 27, 28, 29, 30, 31, 32, 33, 34, 35, 36, 37, 38, 39, 40, 41, 42], (fun _ v _ => v = (vs bc x.length bd))), (116, [], [0, 1, 2, 3, 4, 5, 6, 7, 8, 9, 10, 11, 12, 13, 14, 15, 16, 17, 18, 19, 20, 21, 22, 23, 24, 25, 26, 27, 28, 29, 30, 31, 32, 33, 34, 35, 36, 37, 38, 39, 40, 41, 42, 43, 44, 46], (fun _ v w => v = .int .i64 (l_at x 3))), (117, [], [0, 1, 2, 3, 4, 5, 6, 7, 8, 9, 10, 11, 12, 13, 14, 15, 16, 17, 18, 19, 20, 21, 22, 23, 24, 25, 26, 27, 28, 29, 30, 31, 32, 33, 34, 35, 36, 37, 38, 39, 40, 41, 42, 43, 44, 46, 47], (fun _ v _ => v = (vi ((l_at x 3) % 20))))] : GV) (fun _ aE => Keep b4 aE) [] mixed rfl (by kernel_rfl) (by kernel_rfl) ?_ (fun _ _ h => h) (fun _ _ _ _ h _ k => h.trans k) trivial ?_ ?_ ?_
  ·exact ⟨hV, hE, ⟨hV, hE, ⟨hV, hE, ⟨hV, hE, ⟨hV, hE, ⟨hV, hE, ⟨hV, hE, ⟨hV, hE, ⟨hV, hE, ⟨hV, hE, ⟨hV, hE, ⟨hV, hE, ⟨hV, hE, ⟨hV, hE, ⟨hV, hE, ⟨hV, hE, ⟨hV, hE, ⟨hV, hE, ⟨hV, hE, ⟨hV, hE, ⟨hV, hE, ⟨hV, hE, ⟨hV, hE, ⟨hV, hE, ⟨hV, hE, ⟨hV, hE, ⟨hV, hE, ⟨hV, hE, ⟨hV, hE, ⟨hV, hE, ⟨hV, hE, ⟨hV, hE, ⟨hV, hE, ⟨hV, hE, ⟨hV, hE, ⟨hV, hE, ⟨hV, hE, ⟨hV, hE, ⟨hV, hE, ⟨hV, hE, ⟨hV, hE, ⟨hV, hE, ⟨hV, hE, ⟨hV, hE, ⟨hV, hE, ⟨hV, hE, ⟨hV, hE, ⟨hV, hE, ⟨hV, hE, trivial⟩⟩⟩⟩⟩⟩⟩⟩⟩⟩⟩⟩⟩⟩⟩⟩⟩⟩⟩⟩⟩⟩⟩⟩⟩⟩⟩⟩⟩⟩⟩⟩⟩⟩⟩⟩⟩⟩⟩⟩⟩⟩⟩⟩⟩⟩⟩⟩⟩
  ·exact trivial
  ·refine ⟨?_, ⟨?_, ⟨?_, ⟨?_, ⟨?_, ⟨?_, ⟨?_, ⟨?_, ⟨?_, ⟨?_, ⟨?_, ⟨?_, ⟨?_, ⟨?_, ⟨?_, ⟨?_, ⟨?_, ⟨?_, ⟨?_, ⟨?_, ⟨?_, ⟨?_, ⟨?_, ⟨?_, ⟨?_, ⟨?_, ⟨?_, ⟨?_, ⟨?_, ⟨?_, ⟨?_, ⟨?_, ⟨?_, ⟨?_, ⟨?_, ⟨?_, ⟨?_, ⟨?_, ⟨?_, ⟨?_, ⟨?_, ⟨?_, ⟨?_, ⟨?_, ⟨?_, ⟨?_, ⟨?_, ⟨?_, ⟨?_, trivial⟩⟩⟩⟩⟩⟩⟩⟩⟩⟩⟩⟩⟩⟩⟩⟩⟩⟩⟩⟩⟩⟩⟩⟩⟩⟩⟩⟩⟩⟩⟩⟩⟩⟩⟩⟩⟩⟩⟩⟩⟩⟩⟩⟩⟩⟩⟩⟩⟩
   ·intro _ b sy _
    rintro _ _ _ _ _ _ _ _ _ _ _ _ _ _ _ _ _ _ _ _ _ _ _ _ _ _ _ _ _ _ _ _ _ _ _ _ _ _ _ _ _ _ _ _ _ _ _ _ _
    show WL _ _ _ _ _ _ _
    refine mw (vi k) ?_
    exact f1
   ·intro _ b s0 _
    rintro _ _ _ _ _ _ _ _ _ _ _ _ _ _ _ _ _ _ _ _ _ _ _ _ _ _ _ _ _ _ _ _ _ _ _ _ _ _ _ _ _ _ _ _ _ _ _ _ _
    show WL _ _ _ _ _ _ _
    refine mw (vs aC (i_Pick ((d).1) ((d).2)).length aD) ?_
    exact f1
   ·intro _ b kZ _
    rintro _ _ rfl _ _ _ _ _ _ _ _ _ _ _ _ _ _ _ _ _ _ _ _ _ _ _ _ _ _ _ _ _ _ _ _ _ _ _ _ _ _ _ _ _ _ _ _ _ _ _
    show WL _ _ _ _ _ _ _
    have la := (OLv.kp (OLv.kp (OLv.kp (OLv.kp (OLv.kp (OLv.ch (OLv.ch (OLv.kp (OLv.kp (OLv.ch (OLv.ch (OLv.kp (OLv.kp (OLv.kp bi ab) t) r) m (fun g M N hk => by have O := nT ab.size a1; omega)) l (fun g M N hk => by have O := nT (z2 ab t) P; omega)) e) q) p (fun g M N hk => by have O := nT (z6 ab t r m l e) I; omega)) y (fun g M N hk => by have O : Z.heap.size ≤ K.heap.size := (z8 ab t r m l e q p); have bo : K.heap.size ≤ g := hk; omega)) B) C) D) F) kZ)
    obtain ⟨s1, lb⟩ := RLv.row (OLv.rl la)
    refine ln wN slTy_24 lb ?_
    exact f1
   ·intro _ b s2 _
    rintro _ rfl _ rfl _ rfl _ _ _ _ _ _ _ _ _ _ _ _ _ _ _ _ _ _ _ _ _ _ _ _ _ _ _ _ _ _ _ _ _ _ _ _ _ _ _ _ _ _ _ _ _ _
    show WL _ _ _ _ _ _ _
    refine pu (vb (decide (k = ((i_Pick ((d).1) ((d).2)).length : Int)))) wN ?_
    exact f1
   ·intro _ b s3 _
    rintro _ rfl _ rfl _ rfl _ rfl _ _ _ _ _ _ _ _ _ _ _ _ _ _ _ _ _ _ _ _ _ _ _ _ _ _ _ _ _ _ _ _ _ _ _ _ _ _ _ _ _ _ _ _ _
    show WL _ _ _ _ _ _ _
    refine mw (vb (decide (k = ((i_Pick ((d).1) ((d).2)).length : Int)))) ?_
    exact f1
   ·intro _ b lc _
    rintro _ rfl _ rfl _ rfl _ rfl _ rfl _ _ _ _ _ _ _ _ _ _ _ _ _ _ _ _ _ _ _ _ _ _ _ _ _ _ _ _ _ _ _ _ _ _ _ _ _ _ _ _ _ _ _ _
    show WL _ _ _ _ _ _ _
    have lf := ((((((((((a7.ch l (nN (nL H (P)))).kp e).kp q).ch p (nN (nL H (nT (z4 r m l e) I)))).ch y (Nat.not_le.2 (nL H (z6 r m l e q p)))).kp B).kp C).kp D).kp F).kp lc)
    refine lN (L_31 ((a).1) Q R S T V W X Y) (wS a0) isAgg_31 sizeOf_31 lf ?_
    exact f1
   ·intro _ b lg _
    rintro _ rfl _ rfl _ rfl _ rfl _ rfl _ _ _ _ _ _ _ _ _ _ _ _ _ _ _ _ _ _ _ _ _ _ _ _ _ _ _ _ _ _ _ _ _ _ _ _ _ _ _ _ _ _ _ _
    show WL _ _ _ _ _ _ _
    have lh := ((((((((((a7.ch l (nN (nL H (P)))).kp e).kp q).ch p (nN (nL H (nT (z4 r m l e) I)))).ch y (Nat.not_le.2 (nL H (z6 r m l e q p)))).kp B).kp C).kp D).kp F).kp lg)
    refine lN (L_31 ((a).1) Q R S T V W X Y) (wS a0) isAgg_31 sizeOf_31 lh ?_
    exact f1
   ·intro _ b li _
    rintro _ rfl _ rfl _ rfl _ rfl _ rfl _ rfl _ rfl _ _ _ _ _ _ _ _ _ _ _ _ _ _ _ _ _ _ _ _ _ _ _ _ _ _ _ _ _ _ _ _ _ _ _ _ _ _ _ _ _ _
    show WL _ _ _ _ _ _ _
    have cq := fun (E sz n : Nat) (v : Value) (G : List Value) (o : World.ownsRow L Z.heap.size E sz v n G) (s : World.ownsRow L Z.heap.size E sz v n G) => (own_kp (own_kp (own_kp (own_kp (own_kp (own_ch (own_ch (own_kp (own_kp (own_ch (own_ch (own_kp (own_kp o t) r) m (ne2 s (a1))) l (ne2 s (nT t.size P))) e) q) p (ne2 s (nT (z5 t r m l e) I))) y (fun g hg hlt hk => by have M := (own_lt s g hg).2; have N : L.heap.size ≤ K.heap.size := (z7 t r m l e q p); have O : K.heap.size ≤ g := hk; omega)) B) C) D) F) li)
    have dp := (cq _ _ _ _ _ ac ac)
    have dq := (cq _ _ _ _ _ ad ad)
    have dr := (cq _ _ _ _ _ ae ae)
    have ds := (cq _ _ _ _ _ af af)
    refine cl (wS a0) (ciSameNote b _ ((a).1) (mR_31 (Rd.of_own dp) a3 (Rd.of_own dq) a4 (Rd.of_own dr) a5 (Rd.of_own ds) a6) _ ((a).1) (mR_31 (Rd.of_own dp) a3 (Rd.of_own dq) a4 (Rd.of_own dr) a5 (Rd.of_own ds) a6)) ?_
    rintro _ a2 ⟨lj, rfl⟩
    exact wl_finT lj rfl
   ·intro _ b s4 _
    rintro _ rfl _ rfl _ rfl _ rfl _ rfl _ rfl _ rfl _ rfl _ _ _ _ _ _ _ _ _ _ _ _ _ _ _ _ _ _ _ _ _ _ _ _ _ _ _ _ _ _ _ _ _ _ _ _ _ _ _ _ _
    show WL _ _ _ _ _ _ _
    refine pk (vb (i_SameNote ((a).1) ((a).1))) wN a0 ?_
    exact f1
   ·intro _ b s5 _
    rintro _ rfl _ rfl _ rfl _ rfl _ rfl _ rfl _ rfl _ rfl _ rfl _ _ _ _ _ _ _ _ _ _ _ _ _ _ _ _ _ _ _ _ _ _ _ _ _ _ _ _ _ _ _ _ _ _ _ _ _ _ _ _
    show WL _ _ _ _ _ _ _
    refine mw (vb (i_SameNote ((a).1) ((a).1))) ?_
    exact f1
   ·intro _ b lk _
    rintro _ rfl _ rfl _ rfl _ rfl _ rfl _ rfl _ rfl _ rfl _ rfl _ rfl _ _ _ _ _ _ _ _ _ _ _ _ _ _ _ _ _ _ _ _ _ _ _ _ _ _ _ _ _ _ _ _ _ _ _ _ _ _ _
    show WL _ _ _ _ _ _ _
    have ll := ((((((((((a7.ch l (nN (nL H (P)))).kp e).kp q).ch p (nN (nL H (nT (z4 r m l e) I)))).ch y (Nat.not_le.2 (nL H (z6 r m l e q p)))).kp B).kp C).kp D).kp F).kp lk)
    refine lN (L_31 ((a).1) Q R S T V W X Y) (wS aa) isAgg_31 sizeOf_31 ll ?_
    exact f1
   ·intro _ b lm _
    rintro _ rfl _ rfl _ rfl _ rfl _ rfl _ rfl _ rfl _ rfl _ rfl _ rfl _ _ _ _ _ _ _ _ _ _ _ _ _ _ _ _ _ _ _ _ _ _ _ _ _ _ _ _ _ _ _ _ _ _ _ _ _ _ _
    show WL _ _ _ _ _ _ _
    have lo := (((((((((aK.kp e).kp q).ch p (nN (nL az (nT (z3 m l e) I)))).ch y (Nat.not_le.2 (nL az (z5 m l e q p)))).kp B).kp C).kp D).kp F).kp lm)
    refine lN (L_31 ((a).2) ai aj ak am an ao ap aq) (wS aa) isAgg_31 sizeOf_31 lo ?_
    exact f1
   ·intro _ b lp _
    rintro _ rfl _ rfl _ rfl _ rfl _ rfl _ rfl _ rfl _ rfl _ rfl _ rfl _ rfl _ rfl _ _ _ _ _ _ _ _ _ _ _ _ _ _ _ _ _ _ _ _ _ _ _ _ _ _ _ _ _ _ _ _ _ _ _ _ _
    show WL _ _ _ _ _ _ _
    have bN := fun (E sz n : Nat) (v : Value) (G : List Value) (o : World.ownsRow L Z.heap.size E sz v n G) (s : World.ownsRow L Z.heap.size E sz v n G) => (own_kp (own_kp (own_kp (own_kp (own_kp (own_ch (own_ch (own_kp (own_kp (own_ch (own_ch (own_kp (own_kp o t) r) m (ne2 s (a1))) l (ne2 s (nT t.size P))) e) q) p (ne2 s (nT (z5 t r m l e) I))) y (fun g hg hlt hk => by have M := (own_lt s g hg).2; have N : L.heap.size ≤ K.heap.size := (z7 t r m l e q p); have O : K.heap.size ≤ g := hk; omega)) B) C) D) F) lp)
    have lq := (bN _ _ _ _ _ ac ac)
    have lr := (bN _ _ _ _ _ ad ad)
    have ls := (bN _ _ _ _ _ ae ae)
    have lu := (bN _ _ _ _ _ af af)
    have lv := (bN _ _ _ _ _ au au)
    have lw := (bN _ _ _ _ _ av av)
    have lx := (bN _ _ _ _ _ ax ax)
    have ly := (bN _ _ _ _ _ ay ay)
    refine cl (wS aa) (ciSameNote b _ ((a).1) (mR_31 (Rd.of_own lq) a3 (Rd.of_own lr) a4 (Rd.of_own ls) a5 (Rd.of_own lu) a6) _ ((a).2) (mR_31 (Rd.of_own lv) aG (Rd.of_own lw) aH (Rd.of_own lx) aI (Rd.of_own ly) aJ)) ?_
    rintro _ a2 ⟨lz, rfl⟩
    exact wl_finT lz rfl
   ·intro _ b l0 _
    rintro _ rfl _ rfl _ rfl _ rfl _ rfl _ rfl _ rfl _ rfl _ rfl _ rfl _ _ _ _ _ _ _ _ _ _ _ _ _ _ _ _ _ _ _ _ _ _ _ _ _ _ _ _ _ _ _ _ _ _ _ _ _ _ _
    show WL _ _ _ _ _ _ _
    have l1 := ((((((((((a7.ch l (nN (nL H (P)))).kp e).kp q).ch p (nN (nL H (nT (z4 r m l e) I)))).ch y (Nat.not_le.2 (nL H (z6 r m l e q p)))).kp B).kp C).kp D).kp F).kp l0)
    refine lN (L_31 ((a).1) Q R S T V W X Y) (wS aa) isAgg_31 sizeOf_31 l1 ?_
    exact f1
   ·intro _ b l2 _
    rintro _ rfl _ rfl _ rfl _ rfl _ rfl _ rfl _ rfl _ rfl _ rfl _ rfl _ _ _ _ _ _ _ _ _ _ _ _ _ _ _ _ _ _ _ _ _ _ _ _ _ _ _ _ _ _ _ _ _ _ _ _ _ _ _
    show WL _ _ _ _ _ _ _
    have l3 := (((((((((aK.kp e).kp q).ch p (nN (nL az (nT (z3 m l e) I)))).ch y (Nat.not_le.2 (nL az (z5 m l e q p)))).kp B).kp C).kp D).kp F).kp l2)
    refine lN (L_31 ((a).2) ai aj ak am an ao ap aq) (wS aa) isAgg_31 sizeOf_31 l3 ?_
    exact f1
   ·intro _ b l4 _
    rintro _ rfl _ rfl _ rfl _ rfl _ rfl _ rfl _ rfl _ rfl _ rfl _ rfl _ rfl _ rfl _ rfl _ rfl _ rfl _ _ _ _ _ _ _ _ _ _ _ _ _ _ _ _ _ _ _ _ _ _ _ _ _ _ _ _ _ _ _ _ _ _
    show WL _ _ _ _ _ _ _
    have bO := fun (E sz n : Nat) (v : Value) (G : List Value) (o : World.ownsRow L Z.heap.size E sz v n G) (s : World.ownsRow L Z.heap.size E sz v n G) => (own_kp (own_kp (own_kp (own_kp (own_kp (own_ch (own_ch (own_kp (own_kp (own_ch (own_ch (own_kp (own_kp o t) r) m (ne2 s (a1))) l (ne2 s (nT t.size P))) e) q) p (ne2 s (nT (z5 t r m l e) I))) y (fun g hg hlt hk => by have M := (own_lt s g hg).2; have N : L.heap.size ≤ K.heap.size := (z7 t r m l e q p); have O : K.heap.size ≤ g := hk; omega)) B) C) D) F) l4)
    have l5 := (bO _ _ _ _ _ ac ac)
    have l6 := (bO _ _ _ _ _ ad ad)
    have l7 := (bO _ _ _ _ _ ae ae)
    have l8 := (bO _ _ _ _ _ af af)
    have l9 := (bO _ _ _ _ _ au au)
    have lA := (bO _ _ _ _ _ av av)
    have lB := (bO _ _ _ _ _ ax ax)
    have lC := (bO _ _ _ _ _ ay ay)
    refine cl (wS aa) (csSameNote b _ ((a).1) (mR_31 (Rd.of_own l5) a3 (Rd.of_own l6) a4 (Rd.of_own l7) a5 (Rd.of_own l8) a6) _ ((a).2) (mR_31 (Rd.of_own l9) aG (Rd.of_own lA) aH (Rd.of_own lB) aI (Rd.of_own lC) aJ)) ?_
    rintro _ a2 ⟨lD, rfl⟩
    exact wl_finT lD rfl
   ·intro _ b s6 _
    rintro _ rfl _ rfl _ rfl _ rfl _ rfl _ rfl _ rfl _ rfl _ rfl _ rfl _ rfl _ rfl _ rfl _ rfl _ rfl _ rfl _ _ _ _ _ _ _ _ _ _ _ _ _ _ _ _ _ _ _ _ _ _ _ _ _ _ _ _ _ _ _ _ _
    show WL _ _ _ _ _ _ _
    refine pu (vb ((i_SameNote ((a).1) ((a).2)) == (s_SameNote ((a).1) ((a).2)))) (wS aa) ?_
    exact f1
   ·intro _ b s7 _
    rintro _ rfl _ rfl _ rfl _ rfl _ rfl _ rfl _ rfl _ rfl _ rfl _ rfl _ rfl _ rfl _ rfl _ rfl _ rfl _ rfl _ rfl _ _ _ _ _ _ _ _ _ _ _ _ _ _ _ _ _ _ _ _ _ _ _ _ _ _ _ _ _ _ _ _
    show WL _ _ _ _ _ _ _
    refine pk (vb ((i_SameNote ((a).1) ((a).2)) == (s_SameNote ((a).1) ((a).2)))) wN aa ?_
    exact f1
   ·intro _ b s8 _
    rintro _ rfl _ rfl _ rfl _ rfl _ rfl _ rfl _ rfl _ rfl _ rfl _ rfl _ rfl _ rfl _ rfl _ rfl _ rfl _ rfl _ rfl _ rfl _ _ _ _ _ _ _ _ _ _ _ _ _ _ _ _ _ _ _ _ _ _ _ _ _ _ _ _ _ _ _
    show WL _ _ _ _ _ _ _
    refine mw (vb ((i_SameNote ((a).1) ((a).2)) == (s_SameNote ((a).1) ((a).2)))) ?_
    exact f1
   ·intro _ b lE _
    rintro _ rfl _ rfl _ rfl _ rfl _ rfl _ rfl _ rfl _ rfl _ rfl _ rfl _ rfl _ rfl _ rfl _ rfl _ rfl _ rfl _ rfl _ rfl _ rfl _ _ _ _ _ _ _ _ _ _ _ _ _ _ _ _ _ _ _ _ _ _ _ _ _ _ _ _ _ _
    show WL _ _ _ _ _ _ _
    have lF := (((((((((aK.kp e).kp q).ch p (nN (nL az (nT (z3 m l e) I)))).ch y (Nat.not_le.2 (nL az (z5 m l e q p)))).kp B).kp C).kp D).kp F).kp lE)
    refine lN (L_31 ((a).2) ai aj ak am an ao ap aq) (wS ah) isAgg_31 sizeOf_31 lF ?_
    exact f1
   ·intro _ b lG _
    rintro _ rfl _ rfl _ rfl _ rfl _ rfl _ rfl _ rfl _ rfl _ rfl _ rfl _ rfl _ rfl _ rfl _ rfl _ rfl _ rfl _ rfl _ rfl _ rfl _ _ _ _ _ _ _ _ _ _ _ _ _ _ _ _ _ _ _ _ _ _ _ _ _ _ _ _ _ _
    show WL _ _ _ _ _ _ _
    have lH := ((((((((((a7.ch l (nN (nL H (P)))).kp e).kp q).ch p (nN (nL H (nT (z4 r m l e) I)))).ch y (Nat.not_le.2 (nL H (z6 r m l e q p)))).kp B).kp C).kp D).kp F).kp lG)
    refine lN (L_31 ((a).1) Q R S T V W X Y) (wS ah) isAgg_31 sizeOf_31 lH ?_
    exact f1
   ·intro _ b lI _
    rintro _ rfl _ rfl _ rfl _ rfl _ rfl _ rfl _ rfl _ rfl _ rfl _ rfl _ rfl _ rfl _ rfl _ rfl _ rfl _ rfl _ rfl _ rfl _ rfl _ rfl _ rfl _ _ _ _ _ _ _ _ _ _ _ _ _ _ _ _ _ _ _ _ _ _ _ _ _ _ _ _
    show WL _ _ _ _ _ _ _
    have bP := fun (E sz n : Nat) (v : Value) (G : List Value) (o : World.ownsRow L Z.heap.size E sz v n G) (s : World.ownsRow L Z.heap.size E sz v n G) => (own_kp (own_kp (own_kp (own_kp (own_kp (own_ch (own_ch (own_kp (own_kp (own_ch (own_ch (own_kp (own_kp o t) r) m (ne2 s (a1))) l (ne2 s (nT t.size P))) e) q) p (ne2 s (nT (z5 t r m l e) I))) y (fun g hg hlt hk => by have M := (own_lt s g hg).2; have N : L.heap.size ≤ K.heap.size := (z7 t r m l e q p); have O : K.heap.size ≤ g := hk; omega)) B) C) D) F) lI)
    have lJ := (bP _ _ _ _ _ au au)
    have lK := (bP _ _ _ _ _ av av)
    have lL := (bP _ _ _ _ _ ax ax)
    have lM := (bP _ _ _ _ _ ay ay)
    have lO := (bP _ _ _ _ _ ac ac)
    have lP := (bP _ _ _ _ _ ad ad)
    have lQ := (bP _ _ _ _ _ ae ae)
    have lR := (bP _ _ _ _ _ af af)
    refine cl (wS ah) (ciSameNote b _ ((a).2) (mR_31 (Rd.of_own lJ) aG (Rd.of_own lK) aH (Rd.of_own lL) aI (Rd.of_own lM) aJ) _ ((a).1) (mR_31 (Rd.of_own lO) a3 (Rd.of_own lP) a4 (Rd.of_own lQ) a5 (Rd.of_own lR) a6)) ?_
    rintro _ a2 ⟨lS, rfl⟩
    exact wl_finT lS rfl
   ·intro _ b lT _
    rintro _ rfl _ rfl _ rfl _ rfl _ rfl _ rfl _ rfl _ rfl _ rfl _ rfl _ rfl _ rfl _ rfl _ rfl _ rfl _ rfl _ rfl _ rfl _ rfl _ _ _ _ _ _ _ _ _ _ _ _ _ _ _ _ _ _ _ _ _ _ _ _ _ _ _ _ _ _
    show WL _ _ _ _ _ _ _
    have lU := ((((((((((a7.ch l (nN (nL H (P)))).kp e).kp q).ch p (nN (nL H (nT (z4 r m l e) I)))).ch y (Nat.not_le.2 (nL H (z6 r m l e q p)))).kp B).kp C).kp D).kp F).kp lT)
    refine lN (L_31 ((a).1) Q R S T V W X Y) (wS ah) isAgg_31 sizeOf_31 lU ?_
    exact f1
   ·intro _ b lV _
    rintro _ rfl _ rfl _ rfl _ rfl _ rfl _ rfl _ rfl _ rfl _ rfl _ rfl _ rfl _ rfl _ rfl _ rfl _ rfl _ rfl _ rfl _ rfl _ rfl _ _ _ _ _ _ _ _ _ _ _ _ _ _ _ _ _ _ _ _ _ _ _ _ _ _ _ _ _ _
    show WL _ _ _ _ _ _ _
    have lW := (((((((((aK.kp e).kp q).ch p (nN (nL az (nT (z3 m l e) I)))).ch y (Nat.not_le.2 (nL az (z5 m l e q p)))).kp B).kp C).kp D).kp F).kp lV)
    refine lN (L_31 ((a).2) ai aj ak am an ao ap aq) (wS ah) isAgg_31 sizeOf_31 lW ?_
    exact f1
   ·intro _ b lX _
    rintro _ rfl _ rfl _ rfl _ rfl _ rfl _ rfl _ rfl _ rfl _ rfl _ rfl _ rfl _ rfl _ rfl _ rfl _ rfl _ rfl _ rfl _ rfl _ rfl _ rfl _ rfl _ rfl _ rfl _ rfl _ _ _ _ _ _ _ _ _ _ _ _ _ _ _ _ _ _ _ _ _ _ _ _ _
    show WL _ _ _ _ _ _ _
    have bQ := fun (E sz n : Nat) (v : Value) (G : List Value) (o : World.ownsRow L Z.heap.size E sz v n G) (s : World.ownsRow L Z.heap.size E sz v n G) => (own_kp (own_kp (own_kp (own_kp (own_kp (own_ch (own_ch (own_kp (own_kp (own_ch (own_ch (own_kp (own_kp o t) r) m (ne2 s (a1))) l (ne2 s (nT t.size P))) e) q) p (ne2 s (nT (z5 t r m l e) I))) y (fun g hg hlt hk => by have M := (own_lt s g hg).2; have N : L.heap.size ≤ K.heap.size := (z7 t r m l e q p); have O : K.heap.size ≤ g := hk; omega)) B) C) D) F) lX)
    have lY := (bQ _ _ _ _ _ ac ac)
    have lZ := (bQ _ _ _ _ _ ad ad)
    have ma := (bQ _ _ _ _ _ ae ae)
    have mb := (bQ _ _ _ _ _ af af)
    have mc := (bQ _ _ _ _ _ au au)
    have md := (bQ _ _ _ _ _ av av)
    have me := (bQ _ _ _ _ _ ax ax)
    have mf := (bQ _ _ _ _ _ ay ay)
    refine cl (wS ah) (ciSameNote b _ ((a).1) (mR_31 (Rd.of_own lY) a3 (Rd.of_own lZ) a4 (Rd.of_own ma) a5 (Rd.of_own mb) a6) _ ((a).2) (mR_31 (Rd.of_own mc) aG (Rd.of_own md) aH (Rd.of_own me) aI (Rd.of_own mf) aJ)) ?_
    rintro _ a2 ⟨mg, rfl⟩
    exact wl_finT mg rfl
   ·intro _ b s9 _
    rintro _ rfl _ rfl _ rfl _ rfl _ rfl _ rfl _ rfl _ rfl _ rfl _ rfl _ rfl _ rfl _ rfl _ rfl _ rfl _ rfl _ rfl _ rfl _ rfl _ rfl _ rfl _ rfl _ rfl _ rfl _ rfl _ _ _ _ _ _ _ _ _ _ _ _ _ _ _ _ _ _ _ _ _ _ _ _
    show WL _ _ _ _ _ _ _
    refine pu (vb ((i_SameNote ((a).2) ((a).1)) == (i_SameNote ((a).1) ((a).2)))) (wS ah) ?_
    exact f1
   ·intro _ b sA _
    rintro _ rfl _ rfl _ rfl _ rfl _ rfl _ rfl _ rfl _ rfl _ rfl _ rfl _ rfl _ rfl _ rfl _ rfl _ rfl _ rfl _ rfl _ rfl _ rfl _ rfl _ rfl _ rfl _ rfl _ rfl _ rfl _ rfl _ _ _ _ _ _ _ _ _ _ _ _ _ _ _ _ _ _ _ _ _ _ _
    show WL _ _ _ _ _ _ _
    refine pk (vb ((i_SameNote ((a).2) ((a).1)) == (i_SameNote ((a).1) ((a).2)))) wN ah ?_
    exact f1
   ·intro _ b sB _
    rintro _ rfl _ rfl _ rfl _ rfl _ rfl _ rfl _ rfl _ rfl _ rfl _ rfl _ rfl _ rfl _ rfl _ rfl _ rfl _ rfl _ rfl _ rfl _ rfl _ rfl _ rfl _ rfl _ rfl _ rfl _ rfl _ rfl _ rfl _ _ _ _ _ _ _ _ _ _ _ _ _ _ _ _ _ _ _ _ _ _
    show WL _ _ _ _ _ _ _
    refine mw (vb ((i_SameNote ((a).2) ((a).1)) == (i_SameNote ((a).1) ((a).2)))) ?_
    exact f1
   ·intro _ b mh _
    rintro _ rfl _ rfl _ rfl _ rfl _ rfl _ rfl _ rfl _ rfl _ rfl _ rfl _ rfl _ rfl _ rfl _ rfl _ rfl _ rfl _ rfl _ rfl _ rfl _ rfl _ rfl _ rfl _ rfl _ rfl _ rfl _ rfl _ rfl _ rfl _ _ _ _ _ _ _ _ _ _ _ _ _ _ _ _ _ _ _ _ _
    show WL _ _ _ _ _ _ _
    have mi := ((((((b3.ch y (Nat.not_le.2 (nL b2 p.size))).kp B).kp C).kp D).kp F).kp mh)
    refine lN (L_31 (J) aP aQ aR aS aT aU aV aW) (wS a8) isAgg_31 sizeOf_31 mi ?_
    exact f1
   ·intro _ b mj _
    rintro _ rfl _ rfl _ rfl _ rfl _ rfl _ rfl _ rfl _ rfl _ rfl _ rfl _ rfl _ rfl _ rfl _ rfl _ rfl _ rfl _ rfl _ rfl _ rfl _ rfl _ rfl _ rfl _ rfl _ rfl _ rfl _ rfl _ rfl _ rfl _ rfl _ _ _ _ _ _ _ _ _ _ _ _ _ _ _ _ _ _ _ _
    show WL _ _ _ _ _ _ _
    have cr := fun (E sz n : Nat) (v : Value) (G : List Value) (o : World.ownsRow aF aO.heap.size E sz v n G) (s : World.ownsRow aF aO.heap.size E sz v n G) => (own_kp (own_kp (own_kp (own_kp (own_kp (own_ch (own_ch (own_kp o q) p (ne2 s (I))) y (fun g hg hlt hk => by have M := (own_lt s g hg).2; have N : aF.heap.size ≤ K.heap.size := (z2 q p); have O : K.heap.size ≤ g := hk; omega)) B) C) D) F) mj)
    have ml := (cr _ _ _ _ _ aX aX)
    have mm := (cr _ _ _ _ _ aY aY)
    have mn := (cr _ _ _ _ _ aZ aZ)
    have mo := (cr _ _ _ _ _ ba ba)
    refine cl (wS a8) (ciNoteOk b _ (J) (mR_31 (Rd.of_own ml) bw (Rd.of_own mm) bz (Rd.of_own mn) b0 (Rd.of_own mo) b1)) ?_
    rintro _ a2 ⟨mp, rfl⟩
    exact wl_finT mp rfl
   ·intro _ b mq _
    rintro _ rfl _ rfl _ rfl _ rfl _ rfl _ rfl _ rfl _ rfl _ rfl _ rfl _ rfl _ rfl _ rfl _ rfl _ rfl _ rfl _ rfl _ rfl _ rfl _ rfl _ rfl _ rfl _ rfl _ rfl _ rfl _ rfl _ rfl _ rfl _ _ _ _ _ _ _ _ _ _ _ _ _ _ _ _ _ _ _ _ _
    show WL _ _ _ _ _ _ _
    have mr := ((((((b3.ch y (Nat.not_le.2 (nL b2 p.size))).kp B).kp C).kp D).kp F).kp mq)
    refine lN (L_31 (J) aP aQ aR aS aT aU aV aW) (wS a8) isAgg_31 sizeOf_31 mr ?_
    exact f1
   ·intro _ b mt _
    rintro _ rfl _ rfl _ rfl _ rfl _ rfl _ rfl _ rfl _ rfl _ rfl _ rfl _ rfl _ rfl _ rfl _ rfl _ rfl _ rfl _ rfl _ rfl _ rfl _ rfl _ rfl _ rfl _ rfl _ rfl _ rfl _ rfl _ rfl _ rfl _ rfl _ rfl _ rfl _ _ _ _ _ _ _ _ _ _ _ _ _ _ _ _ _ _
    show WL _ _ _ _ _ _ _
    have cs := fun (E sz n : Nat) (v : Value) (G : List Value) (o : World.ownsRow aF aO.heap.size E sz v n G) (s : World.ownsRow aF aO.heap.size E sz v n G) => (own_kp (own_kp (own_kp (own_kp (own_kp (own_ch (own_ch (own_kp o q) p (ne2 s (I))) y (fun g hg hlt hk => by have M := (own_lt s g hg).2; have N : aF.heap.size ≤ K.heap.size := (z2 q p); have O : K.heap.size ≤ g := hk; omega)) B) C) D) F) mt)
    have mu := (cs _ _ _ _ _ aX aX)
    have mx := (cs _ _ _ _ _ aY aY)
    have my := (cs _ _ _ _ _ aZ aZ)
    have m0 := (cs _ _ _ _ _ ba ba)
    refine cl (wS a8) (csNoteOk b _ (J) (mR_31 (Rd.of_own mu) bw (Rd.of_own mx) bz (Rd.of_own my) b0 (Rd.of_own m0) b1)) ?_
    rintro _ a2 ⟨m1, rfl⟩
    exact wl_finT m1 rfl
   ·intro _ b sC _
    rintro _ rfl _ rfl _ rfl _ rfl _ rfl _ rfl _ rfl _ rfl _ rfl _ rfl _ rfl _ rfl _ rfl _ rfl _ rfl _ rfl _ rfl _ rfl _ rfl _ rfl _ rfl _ rfl _ rfl _ rfl _ rfl _ rfl _ rfl _ rfl _ rfl _ rfl _ rfl _ rfl _ _ _ _ _ _ _ _ _ _ _ _ _ _ _ _ _
    show WL _ _ _ _ _ _ _
    refine pu (vb ((i_NoteOk (J)) == (s_NoteOk (J)))) (wS a8) ?_
    exact f1
   ·intro _ b sD _
    rintro _ rfl _ rfl _ rfl _ rfl _ rfl _ rfl _ rfl _ rfl _ rfl _ rfl _ rfl _ rfl _ rfl _ rfl _ rfl _ rfl _ rfl _ rfl _ rfl _ rfl _ rfl _ rfl _ rfl _ rfl _ rfl _ rfl _ rfl _ rfl _ rfl _ rfl _ rfl _ rfl _ rfl _ _ _ _ _ _ _ _ _ _ _ _ _ _ _ _
    show WL _ _ _ _ _ _ _
    refine pk (vb ((i_NoteOk (J)) == (s_NoteOk (J)))) wN a8 ?_
    exact f1
   ·intro _ b sE _
    rintro _ rfl _ rfl _ rfl _ rfl _ rfl _ rfl _ rfl _ rfl _ rfl _ rfl _ rfl _ rfl _ rfl _ rfl _ rfl _ rfl _ rfl _ rfl _ rfl _ rfl _ rfl _ rfl _ rfl _ rfl _ rfl _ rfl _ rfl _ rfl _ rfl _ rfl _ rfl _ rfl _ rfl _ rfl _ _ _ _ _ _ _ _ _ _ _ _ _ _ _
    show WL _ _ _ _ _ _ _
    refine mw (vb ((i_NoteOk (J)) == (s_NoteOk (J)))) ?_
    exact f1
   ·intro _ b sF _
    rintro _ rfl _ rfl _ rfl _ rfl _ rfl _ rfl _ rfl _ rfl _ rfl _ rfl _ rfl _ rfl _ rfl _ rfl _ rfl _ rfl _ rfl _ rfl _ rfl _ rfl _ rfl _ rfl _ rfl _ rfl _ rfl _ rfl _ rfl _ rfl _ rfl _ rfl _ rfl _ rfl _ rfl _ rfl _ rfl _ _ _ _ _ _ _ _ _ _ _ _ _ _
    show WL _ _ _ _ _ _ _
    refine mv (.string (i_NoteName ((l_at x 2) % 20))) (wS a9) ?_
    exact f1
   ·intro _ b sG _
    rintro _ rfl _ rfl _ rfl _ rfl _ rfl _ rfl _ rfl _ rfl _ rfl _ rfl _ rfl _ rfl _ rfl _ rfl _ rfl _ rfl _ rfl _ rfl _ rfl _ rfl _ rfl _ rfl _ rfl _ rfl _ rfl _ rfl _ rfl _ rfl _ rfl _ rfl _ rfl _ rfl _ rfl _ rfl _ rfl _ rfl _ _ _ _ _ _ _ _ _ _ _ _ _
    show WL _ _ _ _ _ _ _
    refine pu (vb (eqS (i_NoteName ((l_at x 2) % 20)) (ByteArray.mk ([] : List UInt8).toArray))) (wS a9) ?_
    exact f1
   ·intro _ b sH _
    rintro _ rfl _ rfl _ rfl _ rfl _ rfl _ rfl _ rfl _ rfl _ rfl _ rfl _ rfl _ rfl _ rfl _ rfl _ rfl _ rfl _ rfl _ rfl _ rfl _ rfl _ rfl _ rfl _ rfl _ rfl _ rfl _ rfl _ rfl _ rfl _ rfl _ rfl _ rfl _ rfl _ rfl _ rfl _ rfl _ rfl _ rfl _ _ _ _ _ _ _ _ _ _ _ _
    show WL _ _ _ _ _ _ _
    refine mv (vb (eqS (i_NoteName ((l_at x 2) % 20)) (ByteArray.mk ([] : List UInt8).toArray))) (wS a9) ?_
    exact f1
   ·intro _ b sI _
    rintro _ rfl _ rfl _ rfl _ rfl _ rfl _ rfl _ rfl _ rfl _ rfl _ rfl _ rfl _ rfl _ rfl _ rfl _ rfl _ rfl _ rfl _ rfl _ rfl _ rfl _ rfl _ rfl _ rfl _ rfl _ rfl _ rfl _ rfl _ rfl _ rfl _ rfl _ rfl _ rfl _ rfl _ rfl _ rfl _ rfl _ rfl _ rfl _ _ _ _ _ _ _ _ _ _ _
    show WL _ _ _ _ _ _ _
    refine mv (.string (i_NoteName ((l_at x 2) % 20))) (wS bb) ?_
    exact f1
   ·intro _ b sJ _
    rintro _ rfl _ rfl _ rfl _ rfl _ rfl _ rfl _ rfl _ rfl _ rfl _ rfl _ rfl _ rfl _ rfl _ rfl _ rfl _ rfl _ rfl _ rfl _ rfl _ rfl _ rfl _ rfl _ rfl _ rfl _ rfl _ rfl _ rfl _ rfl _ rfl _ rfl _ rfl _ rfl _ rfl _ rfl _ rfl _ rfl _ rfl _ rfl _ _ _ _ _ _ _ _ _ _ _
    show WL _ _ _ _ _ _ _
    refine mv (.string (i_NoteName ((l_at x 3) % 20))) (wS bb) ?_
    exact f1
   ·intro _ b sL _
    rintro _ rfl _ rfl _ rfl _ rfl _ rfl _ rfl _ rfl _ rfl _ rfl _ rfl _ rfl _ rfl _ rfl _ rfl _ rfl _ rfl _ rfl _ rfl _ rfl _ rfl _ rfl _ rfl _ rfl _ rfl _ rfl _ rfl _ rfl _ rfl _ rfl _ rfl _ rfl _ rfl _ rfl _ rfl _ rfl _ rfl _ rfl _ rfl _ rfl _ rfl _ _ _ _ _ _ _ _ _
    show WL _ _ _ _ _ _ _
    refine pu (vb (!(eqS (i_NoteName ((l_at x 2) % 20)) (i_NoteName ((l_at x 3) % 20))))) (wS bb) ?_
    exact f1
   ·intro _ b sM _
    rintro _ rfl _ rfl _ rfl _ rfl _ rfl _ rfl _ rfl _ rfl _ rfl _ rfl _ rfl _ rfl _ rfl _ rfl _ rfl _ rfl _ rfl _ rfl _ rfl _ rfl _ rfl _ rfl _ rfl _ rfl _ rfl _ rfl _ rfl _ rfl _ rfl _ rfl _ rfl _ rfl _ rfl _ rfl _ rfl _ rfl _ rfl _ rfl _ rfl _ rfl _ rfl _ _ _ _ _ _ _ _
    show WL _ _ _ _ _ _ _
    refine pf (vb (!(eqS (i_NoteName ((l_at x 2) % 20)) (i_NoteName ((l_at x 3) % 20))))) (wS a9) bb ?_
    exact f1
   ·intro _ b sN _
    rintro _ rfl _ rfl _ rfl _ rfl _ rfl _ rfl _ rfl _ rfl _ rfl _ rfl _ rfl _ rfl _ rfl _ rfl _ rfl _ rfl _ rfl _ rfl _ rfl _ rfl _ rfl _ rfl _ rfl _ rfl _ rfl _ rfl _ rfl _ rfl _ rfl _ rfl _ rfl _ rfl _ rfl _ rfl _ rfl _ rfl _ rfl _ rfl _ rfl _ rfl _ rfl _ rfl _ _ _ _ _ _ _
    show WL _ _ _ _ _ _ _
    refine mv (vb (!(eqS (i_NoteName ((l_at x 2) % 20)) (i_NoteName ((l_at x 3) % 20))))) (wS a9) ?_
    exact f1
   ·intro _ b sO _
    rintro _ rfl _ rfl _ rfl _ rfl _ rfl _ rfl _ rfl _ rfl _ rfl _ rfl _ rfl _ rfl _ rfl _ rfl _ rfl _ rfl _ rfl _ rfl _ rfl _ rfl _ rfl _ rfl _ rfl _ rfl _ rfl _ rfl _ rfl _ rfl _ rfl _ rfl _ rfl _ rfl _ rfl _ rfl _ rfl _ rfl _ rfl _ rfl _ rfl _ rfl _ rfl _ rfl _ rfl _ _ _ _ _ _
    show WL _ _ _ _ _ _ _
    refine mv (vs bc x.length bd) (wS (cA not aN)) ?_
    exact f1
   ·intro _ b m2 _
    have m3 := bq.extk m2
    rintro _ rfl _ rfl _ rfl _ rfl _ rfl _ rfl _ rfl _ rfl _ rfl _ rfl _ rfl _ rfl _ rfl _ rfl _ rfl _ rfl _ rfl _ rfl _ rfl _ rfl _ rfl _ rfl _ rfl _ rfl _ rfl _ rfl _ rfl _ rfl _ rfl _ rfl _ rfl _ rfl _ rfl _ rfl _ rfl _ rfl _ rfl _ rfl _ rfl _ rfl _ rfl _ rfl _ rfl _ rfl _ _ _ _ _
    show WL _ _ _ _ _ _ _
    refine cl (wS (cA not aN)) (clat b _ x (mR_22 (bv.from0 m3) (by omega)) 2 (by omega)) ?_
    rintro _ a2 ⟨m4, rfl⟩
    have sP := at_b x 2
    exact wl_finT m4 rfl
   ·intro _ b sQ _
    rintro _ rfl _ rfl _ rfl _ rfl _ rfl _ rfl _ rfl _ rfl _ rfl _ rfl _ rfl _ rfl _ rfl _ rfl _ rfl _ rfl _ rfl _ rfl _ rfl _ rfl _ rfl _ rfl _ rfl _ rfl _ rfl _ rfl _ rfl _ rfl _ rfl _ rfl _ rfl _ rfl _ rfl _ rfl _ rfl _ rfl _ rfl _ rfl _ rfl _ rfl _ rfl _ rfl _ rfl _ rfl _ rfl
    have sR := at_b x 2
    rintro _ _ _ _
    show WL _ _ _ _ _ _ _
    refine wl_rem (l_at x 2) 20 (wS (cA not aN)) rfl rfl (by kernel_rfl) (by first | omega | assumption) ?_
    exact f1
   ·intro _ b sS _
    rintro _ rfl _ rfl _ rfl _ rfl _ rfl _ rfl _ rfl _ rfl _ rfl _ rfl _ rfl _ rfl _ rfl _ rfl _ rfl _ rfl _ rfl _ rfl _ rfl _ rfl _ rfl _ rfl _ rfl _ rfl _ rfl _ rfl _ rfl _ rfl _ rfl _ rfl _ rfl _ rfl _ rfl _ rfl _ rfl _ rfl _ rfl _ rfl _ rfl _ rfl _ rfl _ rfl _ rfl _ _ _ _ _ _
    show WL _ _ _ _ _ _ _
    refine mv (vs bc x.length bd) (wS (cA not aN)) ?_
    exact f1
   ·intro _ b m5 _
    have m6 := bq.extk m5
    rintro _ rfl _ rfl _ rfl _ rfl _ rfl _ rfl _ rfl _ rfl _ rfl _ rfl _ rfl _ rfl _ rfl _ rfl _ rfl _ rfl _ rfl _ rfl _ rfl _ rfl _ rfl _ rfl _ rfl _ rfl _ rfl _ rfl _ rfl _ rfl _ rfl _ rfl _ rfl _ rfl _ rfl _ rfl _ rfl _ rfl _ rfl _ rfl _ rfl _ rfl _ rfl _ rfl _ rfl _ rfl _ rfl
    have sT := at_b x 2
    rintro _ _ rfl _ _
    show WL _ _ _ _ _ _ _
    refine cl (wS (cA not aN)) (clat b _ x (mR_22 (bv.from0 m6) (by omega)) 3 (by omega)) ?_
    rintro _ a2 ⟨m7, rfl⟩
    have sU := at_b x 3
    exact wl_finT m7 rfl
   ·intro _ b sV _
    rintro _ rfl _ rfl _ rfl _ rfl _ rfl _ rfl _ rfl _ rfl _ rfl _ rfl _ rfl _ rfl _ rfl _ rfl _ rfl _ rfl _ rfl _ rfl _ rfl _ rfl _ rfl _ rfl _ rfl _ rfl _ rfl _ rfl _ rfl _ rfl _ rfl _ rfl _ rfl _ rfl _ rfl _ rfl _ rfl _ rfl _ rfl _ rfl _ rfl _ rfl _ rfl _ rfl _ rfl _ rfl _ rfl
    have sW := at_b x 2
    rintro _ _ rfl _ rfl
    have sX := at_b x 3
    intro _
    show WL _ _ _ _ _ _ _
    refine wl_rem (l_at x 3) 20 (wS (cA not aN)) rfl rfl (by kernel_rfl) (by first | omega | assumption) ?_
    exact f1
  ·intro _ b m8
   have m9 := bq.extk m8
   rintro _ rfl _ rfl _ rfl _ rfl _ rfl _ rfl _ rfl _ rfl _ rfl _ rfl _ rfl _ rfl _ rfl _ rfl _ rfl _ rfl _ rfl _ rfl _ rfl _ rfl _ rfl _ rfl _ rfl _ rfl _ rfl _ rfl _ rfl _ rfl _ rfl _ rfl _ rfl _ rfl _ rfl _ rfl _ rfl _ rfl _ rfl _ rfl _ rfl _ rfl _ rfl _ rfl _ rfl _ rfl _ rfl
   have sY := at_b x 2
   rintro _ rfl _ rfl _ rfl
   have sZ := at_b x 3
   rintro _ rfl
   show WL _ _ _ _ _ _ _
   refine pu (vb (decide (((l_at x 2) % 20) = ((l_at x 3) % 20)))) (wS (cA not aN)) ?_
   refine pf (vb (decide (((l_at x 2) % 20) = ((l_at x 3) % 20)))) (wS a9) (cA not aN) ?_
   refine pk (vb (decide (((l_at x 2) % 20) = ((l_at x 3) % 20)))) wN a9 ?_
   refine aw (vb (decide (((l_at x 2) % 20) = ((l_at x 3) % 20)))) ?_
   refine n3 ?_
   refine rt (vb (decide (((l_at x 2) % 20) = ((l_at x 3) % 20)))) ?_
   have mA : ntLaw x d a J = decide (((l_at x 2) % 20) = ((l_at x 3) % 20)) := by obtain rfl : i = d.1.length := (by omega); subst bh; have hz := allN_t (f := ntG d) (n := d.1.length) (k := d.1.length) bj (by omega); simp only [ntLaw, ntT, ntS, hz, aL, aM, a0, aa, ah, a8, a9, bb, aN, cond_true, cond_false]; try rfl
   exact ⟨d, a, J, m9.keep0, bl, bm, bn, by rw [mA]⟩
end Go.Proofs.Ytfnagaidikejjaa.K
