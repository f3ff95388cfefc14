import Derived.Test.YtkmhmejednjkoaaGreatCore
import Derived.Test.YtkmhmejednjkoaaGreatProg
import Derived.Test.YtkmhmejednjkoaaGreatHeld
import Derived.Test.YtkmhmejednjkoaaGreatFun
import Derived.Test.YtkmhmejednjkoaaGreatFunZ
import Derived.Test.YtkmhmejednjkoaaGreatSqz
import Derived.Test.YtkmhmejednjkoaaGreatHash
import Derived.Test.YtkmhmejednjkoaaGreatAead
import Derived.Test.YtkmhmejednjkoaaGreatWk6
namespace Go.Proofs.YtkmhmejednjkoaaGreat.K
open Go.RowKit
set_option linter.unusedVariables false
set_option linter.unusedSimpArgs false
set_option maxRecDepth 100000
set_option maxHeartbeats 4000000
def s_AskRekey (a : PChan) : (PChan) × (PFrame) × (Int) := bif (s_ChanOk a) then (bif (decide ((a.Next.length : Int) = 0)) then (((a), { Kind := 0, Id := 0, Cn := [], Sn := [], Tick := 0, Cookie := [], Proof := [], Epoch := 0, Seq := 0, Body := [], Tag := [] : PFrame }, 6)) else ((((s_ChanSeal a 7 (s_RekeyBody (a.Cur.N + 1))).1), ((s_ChanSeal a 7 (s_RekeyBody (a.Cur.N + 1))).2.1), (s_ChanSeal a 7 (s_RekeyBody (a.Cur.N + 1))).2.2))) else (((a), { Kind := 0, Id := 0, Cn := [], Sn := [], Tick := 0, Cookie := [], Proof := [], Epoch := 0, Seq := 0, Body := [], Tag := [] : PFrame }, 6))
theorem csAskRekey (V : World) (b0 : Value) (a : PChan) (cj : R_35 V b0 a)  : Fn Tryz.prog 23 #[b0] V (fun v b1 => Keep V b1 ∧ O_35_37_3 b1 V.heap.size v (s_AskRekey a)) := by
 obtain ⟨m, x, y, A, B, C, K, L, M, O, G, H, rfl, av, ax, ay, az, a0, a1, a2, a3, a4, a5, Y, a6⟩ := cj
 refine fn_ofS (n := 27) [(va (L_35 a m x y A B C K L M O G H))] Tryz.func23 rfl rfl ?_
 refine sr ?_
 refine bx (L_35 a m x y A B C K L M O G H) wN ?_
 intro P b2 eN eO f b3
 refine al Z_35 wN zero_35 ?_
 intro ck eP b4 Q g b5
 refine al Z_37 wN zero_37 ?_
 intro cm cn R b6 d b7
 have D := (((Ch.base V).extk f).extk g).extk d
 refine aw (vi 0) ?_
 refine n4 ?_
 refine jT1 [(1, (vp P 0)), (2, (vp ck 0)), (3, (vp cm 0)), (4, (vi 0))] (s_AskRekey a = ((a), { Kind := 0, Id := 0, Cn := [], Sn := [], Tick := 0, Cookie := [], Proof := [], Epoch := 0, Seq := 0, Body := [], Tag := [] : PFrame }, 6)) ?_ fun b8 => ?_
 ·intro co j s eQ
  have I := D.extk s
  refine sr ?_
  have cp := (((b3.kp g).kp d).kp s)
  refine lN (L_35 a m x y A B C K L M O G H) wN isAgg_35 sizeOf_35 cp ?_
  refine cl wN (csl14Copy j _ a (mR_35 (av.from0 I) ax (ay.from0 I) az (a0.from0 I) a1 (a2.from0 I) a3 (a4.from0 I) a5 (Y.from0 I) a6)) ?_
  rintro _ l ⟨a7, ⟨a8, a9, aA, aB, aC, aD, aE, aF, aG, aH, aI, aJ, rfl, b9, cq, bA, cr, bB, cs, bC, cu, bD, cv, bE, cw, p⟩⟩
  refine pu (va Z_37) wN ?_
  have cx := (((b5.kp d).kp s).kp a7)
  refine sv (L_35 (a) a8 a9 aA aB aC aD aE aF aG aH aI aJ) wN sizeOf_35 cx ?_
  intro aK aL cy eR
  have cz := (I.extk a7).ext aL (fun k hk => by subst hk; exact nT f.size b4)
  have c0 := (((b7.kp s).kp a7).ch aL (Ne.symm (nN (nL Q (R)))))
  refine sv Z_37 wN sizeOf_37 c0 ?_
  intro c1 aM c2 eS
  have c3 := cz.ext aM (fun k hk => by subst hk; exact nT (z2 f g) R)
  refine aw (vi 6) ?_
  refine n1 ?_
  have c4 := (cy.ch aM (nN (nL Q (R))))
  have S := fun (E sz n : Nat) (v : Value) (W : List Value) (o : World.ownsRow l j.heap.size E sz v n W) (X : World.ownsRow l j.heap.size E sz v n W) => (own_ch (own_ch o aL (ne1 X (nL Q (z2 d s)))) aM (ne1 X (nL b6 s.size)))
  have c5 := (S _ _ _ _ _ b9 b9)
  have c6 := (S _ _ _ _ _ bA bA)
  have c7 := (S _ _ _ _ _ bB bB)
  have c8 := (S _ _ _ _ _ bC bC)
  have c9 := (S _ _ _ _ _ bD bD)
  have cC := (S _ _ _ _ _ bE bE)
  refine ret_3 (.inl rfl) (va (L_35 (a) a8 a9 aA aB aC aD aE aF aG aH aI aJ)) (va Z_37) (vi 6) rfl (rv_c (L_35 (a) a8 a9 aA aB aC aD aE aF aG aH aI aJ) rfl c4 isAgg_35 sizeOf_35) (rv_c Z_37 rfl c2 isAgg_37 sizeOf_37) rfl ?_
  refine ⟨c3.keep0, ?_⟩
  rw [co]
  exact ⟨_, _, _, _, _, _, _, _, _, _, _, _, _, _, _, _, _, _, _, _, _, _, _, _, rfl, (own_lo c5 (z4 f g d s)), cq, (own_lo c6 (z4 f g d s)), cr, (own_lo c7 (z4 f g d s)), cs, (own_lo c8 (z4 f g d s)), cu, (own_lo c9 (z4 f g d s)), cv, (own_lo cC (z4 f g d s)), cw, (by first | exact own_nil _ _ _ _ | exact OLv.nil _ _ _ _), (by simp), (by first | exact own_nil _ _ _ _ | exact OLv.nil _ _ _ _), (by simp), (by first | exact own_nil _ _ _ _ | exact OLv.nil _ _ _ _), (by simp), (by first | exact own_nil _ _ _ _ | exact OLv.nil _ _ _ _), (by simp), (by first | exact own_nil _ _ _ _ | exact OLv.nil _ _ _ _), (by simp), (by first | exact own_nil _ _ _ _ | exact OLv.nil _ _ _ _), (by simp), ⟨⟨(p.1.1), ⟨(p.1.2.1), ⟨(p.1.2.2.1), ⟨(p.1.2.2.2.1), ⟨(p.1.2.2.2.2.1), ⟨(Ap.nr _), ⟨(Ap.nr _), ⟨(Ap.nr _), ⟨(Ap.nr _), ⟨(Ap.nr _), ⟨(Ap.nr _), trivial⟩⟩⟩⟩⟩⟩⟩⟩⟩⟩⟩, ⟨⟨(p.2.1.1), ⟨(p.2.1.2.1), ⟨(p.2.1.2.2.1), ⟨(p.2.1.2.2.2.1), ⟨(Ap.nr _), ⟨(Ap.nr _), ⟨(Ap.nr _), ⟨(Ap.nr _), ⟨(Ap.nr _), ⟨(Ap.nr _), trivial⟩⟩⟩⟩⟩⟩⟩⟩⟩⟩, ⟨⟨(p.2.2.1.1), ⟨(p.2.2.1.2.1), ⟨(p.2.2.1.2.2.1), ⟨(Ap.nr _), ⟨(Ap.nr _), ⟨(Ap.nr _), ⟨(Ap.nr _), ⟨(Ap.nr _), ⟨(Ap.nr _), trivial⟩⟩⟩⟩⟩⟩⟩⟩⟩, ⟨⟨(p.2.2.2.1.1), ⟨(p.2.2.2.1.2.1), ⟨(Ap.nr _), ⟨(Ap.nr _), ⟨(Ap.nr _), ⟨(Ap.nr _), ⟨(Ap.nr _), ⟨(Ap.nr _), trivial⟩⟩⟩⟩⟩⟩⟩⟩, ⟨⟨(p.2.2.2.2.1.1), ⟨(Ap.nr _), ⟨(Ap.nr _), ⟨(Ap.nr _), ⟨(Ap.nr _), ⟨(Ap.nr _), ⟨(Ap.nr _), trivial⟩⟩⟩⟩⟩⟩⟩, ⟨⟨(Ap.nr _), ⟨(Ap.nr _), ⟨(Ap.nr _), ⟨(Ap.nr _), ⟨(Ap.nr _), ⟨(Ap.nr _), trivial⟩⟩⟩⟩⟩⟩, ⟨⟨(Ap.nl _), ⟨(Ap.nl _), ⟨(Ap.nl _), ⟨(Ap.nl _), ⟨(Ap.nl _), trivial⟩⟩⟩⟩⟩, ⟨⟨(Ap.nl _), ⟨(Ap.nl _), ⟨(Ap.nl _), ⟨(Ap.nl _), trivial⟩⟩⟩⟩, ⟨⟨(Ap.nl _), ⟨(Ap.nl _), ⟨(Ap.nl _), trivial⟩⟩⟩, ⟨⟨(Ap.nl _), ⟨(Ap.nl _), trivial⟩⟩, ⟨⟨(Ap.nl _), trivial⟩, ⟨trivial, trivial⟩⟩⟩⟩⟩⟩⟩⟩⟩⟩⟩⟩⟩
 have bF := ((b3.kp g).kp d)
 refine lN (L_35 a m x y A B C K L M O G H) wN isAgg_35 sizeOf_35 bF ?_
 refine cl wN (csChanOk cn _ a (mR_35 (av.from0 D) ax (ay.from0 D) az (a0.from0 D) a1 (a2.from0 D) a3 (a4.from0 D) a5 (Y.from0 D) a6)) ?_
 rintro _ j ⟨i, rfl⟩
 have aN := D.extk i
 refine pu (vb (!(s_ChanOk a))) wN ?_
 refine mw (vb (!(s_ChanOk a))) ?_
 rcases bf (s_ChanOk a) with t | t
 ·iterate 4 refine sk (cA not t) ?_
  refine pk (vb true) wN (cA not t) ?_
  refine n2 ?_
  refine ct (Eq.refl true) ?_
  have cD : s_AskRekey a = ((a), { Kind := 0, Id := 0, Cn := [], Sn := [], Tick := 0, Cookie := [], Proof := [], Epoch := 0, Seq := 0, Body := [], Tag := [] : PFrame }, 6) := by simp only [s_AskRekey, t, cond_true, cond_false]
  exact wj (b8 cD _ i)
 have eT := spec_ChanOk_t t
 refine pu (vp P 14) (wS (cA not t)) ?_
 have aO := (bF.kp i)
 refine ld (vs G a.Next.length H) (wS (cA not t)) isAgg_22 aO ?_
 refine ln (wS (cA not t)) slTy_22 (Y.from0 aN) ?_
 refine pu (vb (decide ((a.Next.length : Int) = 0))) (wS (cA not t)) ?_
 refine pf (vb (decide ((a.Next.length : Int) = 0))) wN (cA not t) ?_
 refine n2 ?_
 rcases bt (decide ((a.Next.length : Int) = 0)) with J | J
 ·have eU := dT J
  refine ct J ?_
  have cE : s_AskRekey a = ((a), { Kind := 0, Id := 0, Cn := [], Sn := [], Tick := 0, Cookie := [], Proof := [], Epoch := 0, Seq := 0, Body := [], Tag := [] : PFrame }, 6) := by simp only [s_AskRekey, t, J, cond_true, cond_false]
  exact wj (b8 cE _ i)
 have eV := dF J
 refine cf J ?_
 refine wc_skip <| wq_then <| wc_seq ?_
 refine wc_draw ([(17, [], [], (fun _ v _ => v = (va (L_35 a m x y A B C K L M O G H)))), (18, [], [], (fun _ v _ => v = (vp P 2))), (19, [], [1], (fun _ v _ => v = (vp P 2))), (20, [], [1, 2], (fun _ v _ => v = (vi a.Cur.N))), (21, [], [1, 2, 3], (fun _ v _ => v = (vi (a.Cur.N + 1)))), (22, [], [1, 2, 3, 4], (fun _ v w => ∃ (m : Option Addr) (F : Nat), v = .slice m (s_RekeyBody (a.Cur.N + 1)).length F ∧ w.ownsRow (j.heap.size) 5 1 (.slice m (s_RekeyBody (a.Cur.N + 1)).length F) (s_RekeyBody (a.Cur.N + 1)).length ((s_RekeyBody (a.Cur.N + 1)).map bV) ∧ (s_RekeyBody (a.Cur.N + 1)).length ≤ 1073741824 ∧ Aps [(m, F)])), (23, [22], [0, 1, 2, 3, 4, 5], (fun e v w => ∃ (m : Option Addr) (F : Nat) (Z : Option Addr) (x : Nat) (aa : Option Addr) (ab : Nat) (ac : Option Addr) (ad : Nat) (ae : Option Addr) (af : Nat) (y : Option Addr) (ah : Nat) (ai : Option Addr) (A : Nat) (aj : Option Addr) (ak : Nat) (am : Option Addr) (an : Nat) (ao : Option Addr) (ap : Nat) (B : Option Addr) (aq : Nat) (au : Option Addr) (C : Nat), v = .tuple #[.agg #[.int .i64 (((s_ChanSeal a 7 (s_RekeyBody (a.Cur.N + 1))).1).Role), .slice m (((s_ChanSeal a 7 (s_RekeyBody (a.Cur.N + 1))).1).Sn).length F, .int .i64 ((((s_ChanSeal a 7 (s_RekeyBody (a.Cur.N + 1))).1).Cur).N), .slice Z ((((s_ChanSeal a 7 (s_RekeyBody (a.Cur.N + 1))).1).Cur).Key).length x, .int .i64 ((((s_ChanSeal a 7 (s_RekeyBody (a.Cur.N + 1))).1).Cur).Seq), .int .i64 (((((s_ChanSeal a 7 (s_RekeyBody (a.Cur.N + 1))).1).Cur).Win).Top), .slice aa (((((s_ChanSeal a 7 (s_RekeyBody (a.Cur.N + 1))).1).Cur).Win).Bits).length ab, .int .i64 ((((s_ChanSeal a 7 (s_RekeyBody (a.Cur.N + 1))).1).Old).N), .slice ac ((((s_ChanSeal a 7 (s_RekeyBody (a.Cur.N + 1))).1).Old).Key).length ad, .int .i64 ((((s_ChanSeal a 7 (s_RekeyBody (a.Cur.N + 1))).1).Old).Seq), .int .i64 (((((s_ChanSeal a 7 (s_RekeyBody (a.Cur.N + 1))).1).Old).Win).Top), .slice ae (((((s_ChanSeal a 7 (s_RekeyBody (a.Cur.N + 1))).1).Old).Win).Bits).length af, .bool (((s_ChanSeal a 7 (s_RekeyBody (a.Cur.N + 1))).1).HasOld), .int .i64 (((s_ChanSeal a 7 (s_RekeyBody (a.Cur.N + 1))).1).Until), .slice y (((s_ChanSeal a 7 (s_RekeyBody (a.Cur.N + 1))).1).Next).length ah], .agg #[.int .i64 (((s_ChanSeal a 7 (s_RekeyBody (a.Cur.N + 1))).2.1).Kind), .int .i64 (((s_ChanSeal a 7 (s_RekeyBody (a.Cur.N + 1))).2.1).Id), .slice ai (((s_ChanSeal a 7 (s_RekeyBody (a.Cur.N + 1))).2.1).Cn).length A, .slice aj (((s_ChanSeal a 7 (s_RekeyBody (a.Cur.N + 1))).2.1).Sn).length ak, .int .i64 (((s_ChanSeal a 7 (s_RekeyBody (a.Cur.N + 1))).2.1).Tick), .slice am (((s_ChanSeal a 7 (s_RekeyBody (a.Cur.N + 1))).2.1).Cookie).length an, .slice ao (((s_ChanSeal a 7 (s_RekeyBody (a.Cur.N + 1))).2.1).Proof).length ap, .int .i64 (((s_ChanSeal a 7 (s_RekeyBody (a.Cur.N + 1))).2.1).Epoch), .int .i64 (((s_ChanSeal a 7 (s_RekeyBody (a.Cur.N + 1))).2.1).Seq), .slice B (((s_ChanSeal a 7 (s_RekeyBody (a.Cur.N + 1))).2.1).Body).length aq, .slice au (((s_ChanSeal a 7 (s_RekeyBody (a.Cur.N + 1))).2.1).Tag).length C], .int .i64 ((s_ChanSeal a 7 (s_RekeyBody (a.Cur.N + 1))).2.2)] ∧ w.ownsRow (j.heap.size) 5 1 (.slice m (((s_ChanSeal a 7 (s_RekeyBody (a.Cur.N + 1))).1).Sn).length F) (((s_ChanSeal a 7 (s_RekeyBody (a.Cur.N + 1))).1).Sn).length ((((s_ChanSeal a 7 (s_RekeyBody (a.Cur.N + 1))).1).Sn).map bV) ∧ (((s_ChanSeal a 7 (s_RekeyBody (a.Cur.N + 1))).1).Sn).length ≤ 1073741824 ∧ w.ownsRow (j.heap.size) 5 1 (.slice Z ((((s_ChanSeal a 7 (s_RekeyBody (a.Cur.N + 1))).1).Cur).Key).length x) ((((s_ChanSeal a 7 (s_RekeyBody (a.Cur.N + 1))).1).Cur).Key).length (((((s_ChanSeal a 7 (s_RekeyBody (a.Cur.N + 1))).1).Cur).Key).map bV) ∧ ((((s_ChanSeal a 7 (s_RekeyBody (a.Cur.N + 1))).1).Cur).Key).length ≤ 1073741824 ∧ w.ownsRow (j.heap.size) 3 1 (.slice aa (((((s_ChanSeal a 7 (s_RekeyBody (a.Cur.N + 1))).1).Cur).Win).Bits).length ab) (((((s_ChanSeal a 7 (s_RekeyBody (a.Cur.N + 1))).1).Cur).Win).Bits).length ((((((s_ChanSeal a 7 (s_RekeyBody (a.Cur.N + 1))).1).Cur).Win).Bits).map iV) ∧ (((((s_ChanSeal a 7 (s_RekeyBody (a.Cur.N + 1))).1).Cur).Win).Bits).length ≤ 1073741824 ∧ w.ownsRow (j.heap.size) 5 1 (.slice ac ((((s_ChanSeal a 7 (s_RekeyBody (a.Cur.N + 1))).1).Old).Key).length ad) ((((s_ChanSeal a 7 (s_RekeyBody (a.Cur.N + 1))).1).Old).Key).length (((((s_ChanSeal a 7 (s_RekeyBody (a.Cur.N + 1))).1).Old).Key).map bV) ∧ ((((s_ChanSeal a 7 (s_RekeyBody (a.Cur.N + 1))).1).Old).Key).length ≤ 1073741824 ∧ w.ownsRow (j.heap.size) 3 1 (.slice ae (((((s_ChanSeal a 7 (s_RekeyBody (a.Cur.N + 1))).1).Old).Win).Bits).length af) (((((s_ChanSeal a 7 (s_RekeyBody (a.Cur.N + 1))).1).Old).Win).Bits).length ((((((s_ChanSeal a 7 (s_RekeyBody (a.Cur.N + 1))).1).Old).Win).Bits).map iV) ∧ (((((s_ChanSeal a 7 (s_RekeyBody (a.Cur.N + 1))).1).Old).Win).Bits).length ≤ 1073741824 ∧ w.ownsRow (j.heap.size) 5 1 (.slice y (((s_ChanSeal a 7 (s_RekeyBody (a.Cur.N + 1))).1).Next).length ah) (((s_ChanSeal a 7 (s_RekeyBody (a.Cur.N + 1))).1).Next).length ((((s_ChanSeal a 7 (s_RekeyBody (a.Cur.N + 1))).1).Next).map bV) ∧ (((s_ChanSeal a 7 (s_RekeyBody (a.Cur.N + 1))).1).Next).length ≤ 1073741824 ∧ w.ownsRow (j.heap.size) 5 1 (.slice ai (((s_ChanSeal a 7 (s_RekeyBody (a.Cur.N + 1))).2.1).Cn).length A) (((s_ChanSeal a 7 (s_RekeyBody (a.Cur.N + 1))).2.1).Cn).length ((((s_ChanSeal a 7 (s_RekeyBody (a.Cur.N + 1))).2.1).Cn).map bV) ∧ (((s_ChanSeal a 7 (s_RekeyBody (a.Cur.N + 1))).2.1).Cn).length ≤ 1073741824 ∧ w.ownsRow (j.heap.size) 5 1 (.slice aj (((s_ChanSeal a 7 (s_RekeyBody (a.Cur.N + 1))).2.1).Sn).length ak) (((s_ChanSeal a 7 (s_RekeyBody (a.Cur.N + 1))).2.1).Sn).length ((((s_ChanSeal a 7 (s_RekeyBody (a.Cur.N + 1))).2.1).Sn).map bV) ∧ (((s_ChanSeal a 7 (s_RekeyBody (a.Cur.N + 1))).2.1).Sn).length ≤ 1073741824 ∧ w.ownsRow (j.heap.size) 5 1 (.slice am (((s_ChanSeal a 7 (s_RekeyBody (a.Cur.N + 1))).2.1).Cookie).length an) (((s_ChanSeal a 7 (s_RekeyBody (a.Cur.N + 1))).2.1).Cookie).length ((((s_ChanSeal a 7 (s_RekeyBody (a.Cur.N + 1))).2.1).Cookie).map bV) ∧ (((s_ChanSeal a 7 (s_RekeyBody (a.Cur.N + 1))).2.1).Cookie).length ≤ 1073741824 ∧ w.ownsRow (j.heap.size) 5 1 (.slice ao (((s_ChanSeal a 7 (s_RekeyBody (a.Cur.N + 1))).2.1).Proof).length ap) (((s_ChanSeal a 7 (s_RekeyBody (a.Cur.N + 1))).2.1).Proof).length ((((s_ChanSeal a 7 (s_RekeyBody (a.Cur.N + 1))).2.1).Proof).map bV) ∧ (((s_ChanSeal a 7 (s_RekeyBody (a.Cur.N + 1))).2.1).Proof).length ≤ 1073741824 ∧ w.ownsRow (j.heap.size) 5 1 (.slice B (((s_ChanSeal a 7 (s_RekeyBody (a.Cur.N + 1))).2.1).Body).length aq) (((s_ChanSeal a 7 (s_RekeyBody (a.Cur.N + 1))).2.1).Body).length ((((s_ChanSeal a 7 (s_RekeyBody (a.Cur.N + 1))).2.1).Body).map bV) ∧ (((s_ChanSeal a 7 (s_RekeyBody (a.Cur.N + 1))).2.1).Body).length ≤ 1073741824 ∧ w.ownsRow (j.heap.size) 5 1 (.slice au (((s_ChanSeal a 7 (s_RekeyBody (a.Cur.N + 1))).2.1).Tag).length C) (((s_ChanSeal a 7 (s_RekeyBody (a.Cur.N + 1))).2.1).Tag).length ((((s_ChanSeal a 7 (s_RekeyBody (a.Cur.N + 1))).2.1).Tag).map bV) ∧ (((s_ChanSeal a 7 (s_RekeyBody (a.Cur.N + 1))).2.1).Tag).length ≤ 1073741824 ∧ Aps [(m, F), (Z, x), (aa, ab), (ac, ad), (ae, af), (y, ah), (ai, A), (aj, ak), (am, an), (ao, ap), (B, aq), (au, C)] ∧ Ap (sp (e 22)) (m, F) ∧ Ap (sp (e 22)) (Z, x) ∧ Ap (sp (e 22)) (aa, ab) ∧ Ap (sp (e 22)) (ac, ad) ∧ Ap (sp (e 22)) (ae, af) ∧ Ap (sp (e 22)) (y, ah) ∧ Ap (sp (e 22)) (ai, A) ∧ Ap (sp (e 22)) (aj, ak) ∧ Ap (sp (e 22)) (am, an) ∧ Ap (sp (e 22)) (ao, ap) ∧ Ap (sp (e 22)) (B, aq) ∧ Ap (sp (e 22)) (au, C))), (24, [23], [0, 1, 2, 3, 4, 5, 6], (fun e v _ => v = (.agg #[(vi (((s_ChanSeal a 7 (s_RekeyBody (a.Cur.N + 1))).1).Role)), (cellAt (tupAt (e 23) 0) 1), (vi ((((s_ChanSeal a 7 (s_RekeyBody (a.Cur.N + 1))).1).Cur).N)), (cellAt (tupAt (e 23) 0) 3), (vi ((((s_ChanSeal a 7 (s_RekeyBody (a.Cur.N + 1))).1).Cur).Seq)), (vi (((((s_ChanSeal a 7 (s_RekeyBody (a.Cur.N + 1))).1).Cur).Win).Top)), (cellAt (tupAt (e 23) 0) 6), (vi ((((s_ChanSeal a 7 (s_RekeyBody (a.Cur.N + 1))).1).Old).N)), (cellAt (tupAt (e 23) 0) 8), (vi ((((s_ChanSeal a 7 (s_RekeyBody (a.Cur.N + 1))).1).Old).Seq)), (vi (((((s_ChanSeal a 7 (s_RekeyBody (a.Cur.N + 1))).1).Old).Win).Top)), (cellAt (tupAt (e 23) 0) 11), (vb (((s_ChanSeal a 7 (s_RekeyBody (a.Cur.N + 1))).1).HasOld)), (vi (((s_ChanSeal a 7 (s_RekeyBody (a.Cur.N + 1))).1).Until)), (cellAt (tupAt (e 23) 0) 14)]))), (25, [23], [0, 1, 2, 3, 4, 5, 6], (fun e v _ => v = (.agg #[(vi (((s_ChanSeal a 7 (s_RekeyBody (a.Cur.N + 1))).2.1).Kind)), (vi (((s_ChanSeal a 7 (s_RekeyBody (a.Cur.N + 1))).2.1).Id)), (cellAt (tupAt (e 23) 1) 2), (cellAt (tupAt (e 23) 1) 3), (vi (((s_ChanSeal a 7 (s_RekeyBody (a.Cur.N + 1))).2.1).Tick)), (cellAt (tupAt (e 23) 1) 5), (cellAt (tupAt (e 23) 1) 6), (vi (((s_ChanSeal a 7 (s_RekeyBody (a.Cur.N + 1))).2.1).Epoch)), (vi (((s_ChanSeal a 7 (s_RekeyBody (a.Cur.N + 1))).2.1).Seq)), (cellAt (tupAt (e 23) 1) 9), (cellAt (tupAt (e 23) 1) 10)]))), (26, [], [0, 1, 2, 3, 4, 5, 6], (fun _ v _ => v = (vi ((s_ChanSeal a 7 (s_RekeyBody (a.Cur.N + 1))).2.2))))] : GV) mixed rfl (by kernel_rfl) (by kernel_rfl) ?_ ?_ ?_
 ·exact ⟨hV, hE, ⟨hV, hE, ⟨hV, hE, ⟨hV, hE, ⟨hV, hE, ⟨(fun e v w b2 h hk => by obtain ⟨aP, aQ, he, aR, aS, hap⟩ := h; exact ⟨aP, aQ, he, own_kp aR hk, aS, hap⟩), hE, ⟨(fun e v w b2 h hk => by obtain ⟨aP, aQ, cF, cG, cH, cI, cJ, cK, cL, cM, cN, cO, cP, cQ, cR, cS, cT, cU, cV, cW, cX, cY, cZ, da, he, aR, aS, db, dc, dd, de, df, dg, dh, di, dj, dk, dl, dm, dn, dp, dq, dr, ds, dt, du, dv, dw, dx, hap, hx⟩ := h; exact ⟨aP, aQ, cF, cG, cH, cI, cJ, cK, cL, cM, cN, cO, cP, cQ, cR, cS, cT, cU, cV, cW, cX, cY, cZ, da, he, own_kp aR hk, aS, own_kp db hk, dc, own_kp dd hk, de, own_kp df hk, dg, own_kp dh hk, di, own_kp dj hk, dk, own_kp dl hk, dm, own_kp dn hk, dp, own_kp dq hk, dr, own_kp ds hk, dt, own_kp du hk, dv, own_kp dw hk, dx, hap, hx⟩), (fun bG bH v w hx h => by have dy := hx 22 (by simp); simp only [dy] at h; exact h), ⟨hV, (fun bG bH v w hx h => by have aT := hx 23 (by simp); simp only [aT] at h; exact h), ⟨hV, (fun bG bH v w hx h => by have aT := hx 23 (by simp); simp only [aT] at h; exact h), ⟨hV, hE, trivial⟩⟩⟩⟩⟩⟩⟩⟩⟩⟩
 ·refine ⟨?_, ⟨?_, ⟨?_, ⟨?_, ⟨?_, ⟨?_, ⟨?_, ⟨?_, ⟨?_, ⟨?_, trivial⟩⟩⟩⟩⟩⟩⟩⟩⟩⟩
  ·intro l dz
   rintro _ _ _ _ _ _ _ _ _ _
   show WL _ _ _ _ _ _ _
   have d0 := (aO.kp dz)
   refine lN (L_35 a m x y A B C K L M O G H) wN isAgg_35 sizeOf_35 d0 ?_
   exact f2
  ·intro l eW
   rintro _ _ _ _ _ _ _ _ _ _
   show WL _ _ _ _ _ _ _
   refine pu (vp P 2) wN ?_
   exact f2
  ·intro l eX
   rintro _ _ rfl _ _ _ _ _ _ _ _
   show WL _ _ _ _ _ _ _
   refine pu (vp P 2) wN ?_
   exact f2
  ·intro l d1
   rintro _ _ rfl _ rfl _ _ _ _ _ _ _
   show WL _ _ _ _ _ _ _
   have d2 := (aO.kp d1)
   refine ld (vi a.Cur.N) wN isAgg_3 d2 ?_
   exact f2
  ·intro l eY
   rintro _ _ rfl _ rfl _ rfl _ _ _ _ _ _
   show WL _ _ _ _ _ _ _
   refine ar (a.Cur.N + 1) wN ?_
   exact f2
  ·intro l d3
   rintro _ _ rfl _ rfl _ rfl _ rfl _ _ _ _ _
   show WL _ _ _ _ _ _ _
   refine cl wN (csRekeyBody l (a.Cur.N + 1)) ?_
   rintro _ aK ⟨d4, ⟨eZ, fa, rfl, d5, d6, d7⟩⟩
   exact wl_fin d4 ⟨_, _, rfl, (own_lo d5 d3.size), d6, d7⟩
  ·intro l q
   have T := aN.extk q
   rintro _ rfl _ rfl _ rfl _ rfl _ rfl _ ⟨fb, fc, rfl, r, d8, fd⟩ _ _ _ _
   show WL _ _ _ _ _ _ _
   refine cl wN (csChanSeal l _ a (mR_35 (av.from0 T) ax (ay.from0 T) az (a0.from0 T) a1 (a2.from0 T) a3 (a4.from0 T) a5 (Y.from0 T) a6) 7 _ (s_RekeyBody (a.Cur.N + 1)) (mR_22 (Rd.of_own r) d8)) ?_
   rintro _ aK ⟨d9, ⟨fe, ff, fg, fh, fi, fj, fk, fl, fm, fo, fp, fq, fr, fs, ft, fu, fv, fw, fx, fy, fz, f0, f3, f4, rfl, bI, dA, bJ, dB, bK, dC, bL, dD, bM, dE, bN, dG, bO, dH, bP, dI, bQ, dJ, bR, dK, bS, dL, bT, dM, dN⟩⟩
   exact wl_fin d9 ⟨_, _, _, _, _, _, _, _, _, _, _, _, _, _, _, _, _, _, _, _, _, _, _, _, rfl, (own_lo bI q.size), dA, (own_lo bJ q.size), dB, (own_lo bK q.size), dC, (own_lo bL q.size), dD, (own_lo bM q.size), dE, (own_lo bN q.size), dG, (own_lo bO q.size), dH, (own_lo bP q.size), dI, (own_lo bQ q.size), dJ, (own_lo bR q.size), dK, (own_lo bS q.size), dL, (own_lo bT q.size), dM, dN, ⟨(Ap.lt r bI (Nat.le_refl _)), (Ap.lt r bJ (Nat.le_refl _)), (Ap.lt r bK (Nat.le_refl _)), (Ap.lt r bL (Nat.le_refl _)), (Ap.lt r bM (Nat.le_refl _)), (Ap.lt r bN (Nat.le_refl _)), (Ap.lt r bO (Nat.le_refl _)), (Ap.lt r bP (Nat.le_refl _)), (Ap.lt r bQ (Nat.le_refl _)), (Ap.lt r bR (Nat.le_refl _)), (Ap.lt r bS (Nat.le_refl _)), (Ap.lt r bT (Nat.le_refl _))⟩⟩
  ·intro l f5
   rintro _ rfl _ rfl _ rfl _ rfl _ rfl _ ⟨f6, f7, rfl, _⟩ _ ⟨dO, dP, dQ, dR, dS, dU, dV, dW, dX, dY, dZ, ea, f8, f9, fA, fB, fC, fD, fE, fF, fG, fH, fI, fJ, rfl, _⟩ _ _ _
   show WL _ _ _ _ _ _ _
   refine pu (va (L_35 ((s_ChanSeal a 7 (s_RekeyBody (a.Cur.N + 1))).1) dO dP dQ dR dS dU dV dW dX dY dZ ea)) wN ?_
   exact f2
  ·intro l fK
   rintro _ rfl _ rfl _ rfl _ rfl _ rfl _ ⟨fL, fM, rfl, _⟩ _ ⟨fN, fO, fP, fQ, fR, fS, fT, fU, fV, fW, fX, fY, ec, ed, ee, ef, eg, eh, ej, ek, em, en, eo, ep, rfl, _⟩ _ _ _
   show WL _ _ _ _ _ _ _
   refine pu (va (L_37 ((s_ChanSeal a 7 (s_RekeyBody (a.Cur.N + 1))).2.1) ec ed ee ef eg eh ej ek em en eo ep)) wN ?_
   exact f2
  ·intro l fZ
   rintro _ rfl _ rfl _ rfl _ rfl _ rfl _ ⟨ga, gb, rfl, _⟩ _ ⟨gc, gd, ge, gf, gg, gh, gi, gj, gk, gl, gm, gn, gp, gq, gr, gs, gt, gu, gv, gw, gx, gy, gz, g0, rfl, _⟩ _ _ _
   show WL _ _ _ _ _ _ _
   refine pu (vi ((s_ChanSeal a 7 (s_RekeyBody (a.Cur.N + 1))).2.2)) wN ?_
   exact f2
 ·intro l aU
  rintro _ rfl _ rfl _ rfl _ rfl _ rfl _ ⟨g1, g2, rfl, _⟩ _ ⟨aV, aW, aX, aY, aZ, ba, bb, bc, bd, be, bg, bh, bi, bj, bk, bl, bm, bn, bo, bp, bq, br, bu, bv, rfl, bU, er, bW, es, bX, et, bY, eu, bZ, ew, ca, ex, cb, ey, cc, ez, cd, e0, ce, e1, cg, e2, ci, e3, b, g3⟩ _ rfl _ rfl _ rfl
  show WL _ _ _ _ _ _ _
  have e4 := (((b5.kp d).kp i).kp aU)
  refine sv (L_35 ((s_ChanSeal a 7 (s_RekeyBody (a.Cur.N + 1))).1) aV aW aX aY aZ ba bb bc bd be bg bh) wN sizeOf_35 e4 ?_
  intro aK bw e5 g4
  have e6 := (aN.extk aU).ext bw (fun k hk => by subst hk; exact nT f.size b4)
  have e7 := (((b7.kp i).kp aU).ch bw (Ne.symm (nN (nL Q (R)))))
  refine sv (L_37 ((s_ChanSeal a 7 (s_RekeyBody (a.Cur.N + 1))).2.1) bi bj bk bl bm bn bo bp bq br bu bv) wN sizeOf_37 e7 ?_
  intro c1 bz e8 g5
  have e9 := e6.ext bz (fun k hk => by subst hk; exact nT (z2 f g) R)
  refine aw (vi ((s_ChanSeal a 7 (s_RekeyBody (a.Cur.N + 1))).2.2)) ?_
  refine n3 ?_
  have eA := (e5.ch bz (nN (nL Q (R))))
  have u := fun (E sz n : Nat) (v : Value) (W : List Value) (o : World.ownsRow l j.heap.size E sz v n W) (X : World.ownsRow l j.heap.size E sz v n W) => (own_ch (own_ch o bw (ne1 X (nL Q (z2 d i)))) bz (ne1 X (nL b6 i.size)))
  have eB := (u _ _ _ _ _ bU bU)
  have eC := (u _ _ _ _ _ bW bW)
  have eD := (u _ _ _ _ _ bX bX)
  have eE := (u _ _ _ _ _ bY bY)
  have eF := (u _ _ _ _ _ bZ bZ)
  have eG := (u _ _ _ _ _ ca ca)
  have eH := (u _ _ _ _ _ cb cb)
  have eI := (u _ _ _ _ _ cc cc)
  have eJ := (u _ _ _ _ _ cd cd)
  have eK := (u _ _ _ _ _ ce ce)
  have eL := (u _ _ _ _ _ cg cg)
  have eM := (u _ _ _ _ _ ci ci)
  refine ret_3 (.inl rfl) (va (L_35 ((s_ChanSeal a 7 (s_RekeyBody (a.Cur.N + 1))).1) aV aW aX aY aZ ba bb bc bd be bg bh)) (va (L_37 ((s_ChanSeal a 7 (s_RekeyBody (a.Cur.N + 1))).2.1) bi bj bk bl bm bn bo bp bq br bu bv)) (vi ((s_ChanSeal a 7 (s_RekeyBody (a.Cur.N + 1))).2.2)) rfl (rv_c (L_35 ((s_ChanSeal a 7 (s_RekeyBody (a.Cur.N + 1))).1) aV aW aX aY aZ ba bb bc bd be bg bh) rfl eA isAgg_35 sizeOf_35) (rv_c (L_37 ((s_ChanSeal a 7 (s_RekeyBody (a.Cur.N + 1))).2.1) bi bj bk bl bm bn bo bp bq br bu bv) rfl e8 isAgg_37 sizeOf_37) rfl ?_
  refine ⟨e9.keep0, ?_⟩
  simp only [s_AskRekey, t, J, cond_true, cond_false]
  exact ⟨_, _, _, _, _, _, _, _, _, _, _, _, _, _, _, _, _, _, _, _, _, _, _, _, rfl, (own_lo eB (z4 f g d i)), er, (own_lo eC (z4 f g d i)), es, (own_lo eD (z4 f g d i)), et, (own_lo eE (z4 f g d i)), eu, (own_lo eF (z4 f g d i)), ew, (own_lo eG (z4 f g d i)), ex, (own_lo eH (z4 f g d i)), ey, (own_lo eI (z4 f g d i)), ez, (own_lo eJ (z4 f g d i)), e0, (own_lo eK (z4 f g d i)), e1, (own_lo eL (z4 f g d i)), e2, (own_lo eM (z4 f g d i)), e3, ⟨⟨(b.1.1), ⟨(b.1.2.1), ⟨(b.1.2.2.1), ⟨(b.1.2.2.2.1), ⟨(b.1.2.2.2.2.1), ⟨(b.1.2.2.2.2.2.1), ⟨(b.1.2.2.2.2.2.2.1), ⟨(b.1.2.2.2.2.2.2.2.1), ⟨(b.1.2.2.2.2.2.2.2.2.1), ⟨(b.1.2.2.2.2.2.2.2.2.2.1), ⟨(b.1.2.2.2.2.2.2.2.2.2.2.1), trivial⟩⟩⟩⟩⟩⟩⟩⟩⟩⟩⟩, ⟨⟨(b.2.1.1), ⟨(b.2.1.2.1), ⟨(b.2.1.2.2.1), ⟨(b.2.1.2.2.2.1), ⟨(b.2.1.2.2.2.2.1), ⟨(b.2.1.2.2.2.2.2.1), ⟨(b.2.1.2.2.2.2.2.2.1), ⟨(b.2.1.2.2.2.2.2.2.2.1), ⟨(b.2.1.2.2.2.2.2.2.2.2.1), ⟨(b.2.1.2.2.2.2.2.2.2.2.2.1), trivial⟩⟩⟩⟩⟩⟩⟩⟩⟩⟩, ⟨⟨(b.2.2.1.1), ⟨(b.2.2.1.2.1), ⟨(b.2.2.1.2.2.1), ⟨(b.2.2.1.2.2.2.1), ⟨(b.2.2.1.2.2.2.2.1), ⟨(b.2.2.1.2.2.2.2.2.1), ⟨(b.2.2.1.2.2.2.2.2.2.1), ⟨(b.2.2.1.2.2.2.2.2.2.2.1), ⟨(b.2.2.1.2.2.2.2.2.2.2.2.1), trivial⟩⟩⟩⟩⟩⟩⟩⟩⟩, ⟨⟨(b.2.2.2.1.1), ⟨(b.2.2.2.1.2.1), ⟨(b.2.2.2.1.2.2.1), ⟨(b.2.2.2.1.2.2.2.1), ⟨(b.2.2.2.1.2.2.2.2.1), ⟨(b.2.2.2.1.2.2.2.2.2.1), ⟨(b.2.2.2.1.2.2.2.2.2.2.1), ⟨(b.2.2.2.1.2.2.2.2.2.2.2.1), trivial⟩⟩⟩⟩⟩⟩⟩⟩, ⟨⟨(b.2.2.2.2.1.1), ⟨(b.2.2.2.2.1.2.1), ⟨(b.2.2.2.2.1.2.2.1), ⟨(b.2.2.2.2.1.2.2.2.1), ⟨(b.2.2.2.2.1.2.2.2.2.1), ⟨(b.2.2.2.2.1.2.2.2.2.2.1), ⟨(b.2.2.2.2.1.2.2.2.2.2.2.1), trivial⟩⟩⟩⟩⟩⟩⟩, ⟨⟨(b.2.2.2.2.2.1.1), ⟨(b.2.2.2.2.2.1.2.1), ⟨(b.2.2.2.2.2.1.2.2.1), ⟨(b.2.2.2.2.2.1.2.2.2.1), ⟨(b.2.2.2.2.2.1.2.2.2.2.1), ⟨(b.2.2.2.2.2.1.2.2.2.2.2.1), trivial⟩⟩⟩⟩⟩⟩, ⟨⟨(b.2.2.2.2.2.2.1.1), ⟨(b.2.2.2.2.2.2.1.2.1), ⟨(b.2.2.2.2.2.2.1.2.2.1), ⟨(b.2.2.2.2.2.2.1.2.2.2.1), ⟨(b.2.2.2.2.2.2.1.2.2.2.2.1), trivial⟩⟩⟩⟩⟩, ⟨⟨(b.2.2.2.2.2.2.2.1.1), ⟨(b.2.2.2.2.2.2.2.1.2.1), ⟨(b.2.2.2.2.2.2.2.1.2.2.1), ⟨(b.2.2.2.2.2.2.2.1.2.2.2.1), trivial⟩⟩⟩⟩, ⟨⟨(b.2.2.2.2.2.2.2.2.1.1), ⟨(b.2.2.2.2.2.2.2.2.1.2.1), ⟨(b.2.2.2.2.2.2.2.2.1.2.2.1), trivial⟩⟩⟩, ⟨⟨(b.2.2.2.2.2.2.2.2.2.1.1), ⟨(b.2.2.2.2.2.2.2.2.2.1.2.1), trivial⟩⟩, ⟨⟨(b.2.2.2.2.2.2.2.2.2.2.1.1), trivial⟩, ⟨trivial, trivial⟩⟩⟩⟩⟩⟩⟩⟩⟩⟩⟩⟩⟩

def i_AskRekey (a : PChan) : (PChan) × (PFrame) × (Int) := bif (i_ChanOk a) then (bif (decide ((a.Next.length : Int) = 0)) then (((a), { Kind := 0, Id := 0, Cn := [], Sn := [], Tick := 0, Cookie := [], Proof := [], Epoch := 0, Seq := 0, Body := [], Tag := [] : PFrame }, 6)) else ((((i_ChanSeal a 7 (i_RekeyBody (a.Cur.N + 1))).1), ((i_ChanSeal a 7 (i_RekeyBody (a.Cur.N + 1))).2.1), (i_ChanSeal a 7 (i_RekeyBody (a.Cur.N + 1))).2.2))) else (((a), { Kind := 0, Id := 0, Cn := [], Sn := [], Tick := 0, Cookie := [], Proof := [], Epoch := 0, Seq := 0, Body := [], Tag := [] : PFrame }, 6))
theorem ciAskRekey (V : World) (b0 : Value) (a : PChan) (cj : R_35 V b0 a)  : Fn Tryz.prog 24 #[b0] V (fun v b1 => Keep V b1 ∧ O_35_37_3 b1 V.heap.size v (i_AskRekey a)) := by
 obtain ⟨m, x, y, A, B, C, K, L, M, O, G, H, rfl, av, ax, ay, az, a0, a1, a2, a3, a4, a5, Y, a6⟩ := cj
 refine fn_ofS (n := 27) [(va (L_35 a m x y A B C K L M O G H))] Tryz.func24 rfl rfl ?_
 refine sr ?_
 refine bx (L_35 a m x y A B C K L M O G H) wN ?_
 intro P b2 eN eO f b3
 refine al Z_35 wN zero_35 ?_
 intro ck eP b4 Q g b5
 refine al Z_37 wN zero_37 ?_
 intro cm cn R b6 d b7
 have D := (((Ch.base V).extk f).extk g).extk d
 refine aw (vi 0) ?_
 refine n4 ?_
 refine jT1 [(1, (vp P 0)), (2, (vp ck 0)), (3, (vp cm 0)), (4, (vi 0))] (i_AskRekey a = ((a), { Kind := 0, Id := 0, Cn := [], Sn := [], Tick := 0, Cookie := [], Proof := [], Epoch := 0, Seq := 0, Body := [], Tag := [] : PFrame }, 6)) ?_ fun b8 => ?_
 ·intro co j s eQ
  have I := D.extk s
  refine sr ?_
  have cp := (((b3.kp g).kp d).kp s)
  refine lN (L_35 a m x y A B C K L M O G H) wN isAgg_35 sizeOf_35 cp ?_
  refine cl wN (cicopyChan j _ a (mR_35 (av.from0 I) ax (ay.from0 I) az (a0.from0 I) a1 (a2.from0 I) a3 (a4.from0 I) a5 (Y.from0 I) a6)) ?_
  rintro _ l ⟨a7, ⟨a8, a9, aA, aB, aC, aD, aE, aF, aG, aH, aI, aJ, rfl, b9, cq, bA, cr, bB, cs, bC, cu, bD, cv, bE, cw, p⟩⟩
  refine pu (va Z_37) wN ?_
  have cx := (((b5.kp d).kp s).kp a7)
  refine sv (L_35 (a) a8 a9 aA aB aC aD aE aF aG aH aI aJ) wN sizeOf_35 cx ?_
  intro aK aL cy eR
  have cz := (I.extk a7).ext aL (fun k hk => by subst hk; exact nT f.size b4)
  have c0 := (((b7.kp s).kp a7).ch aL (Ne.symm (nN (nL Q (R)))))
  refine sv Z_37 wN sizeOf_37 c0 ?_
  intro c1 aM c2 eS
  have c3 := cz.ext aM (fun k hk => by subst hk; exact nT (z2 f g) R)
  refine aw (vi 6) ?_
  refine n1 ?_
  have c4 := (cy.ch aM (nN (nL Q (R))))
  have S := fun (E sz n : Nat) (v : Value) (W : List Value) (o : World.ownsRow l j.heap.size E sz v n W) (X : World.ownsRow l j.heap.size E sz v n W) => (own_ch (own_ch o aL (ne1 X (nL Q (z2 d s)))) aM (ne1 X (nL b6 s.size)))
  have c5 := (S _ _ _ _ _ b9 b9)
  have c6 := (S _ _ _ _ _ bA bA)
  have c7 := (S _ _ _ _ _ bB bB)
  have c8 := (S _ _ _ _ _ bC bC)
  have c9 := (S _ _ _ _ _ bD bD)
  have cC := (S _ _ _ _ _ bE bE)
  refine ret_3 (.inl rfl) (va (L_35 (a) a8 a9 aA aB aC aD aE aF aG aH aI aJ)) (va Z_37) (vi 6) rfl (rv_c (L_35 (a) a8 a9 aA aB aC aD aE aF aG aH aI aJ) rfl c4 isAgg_35 sizeOf_35) (rv_c Z_37 rfl c2 isAgg_37 sizeOf_37) rfl ?_
  refine ⟨c3.keep0, ?_⟩
  rw [co]
  exact ⟨_, _, _, _, _, _, _, _, _, _, _, _, _, _, _, _, _, _, _, _, _, _, _, _, rfl, (own_lo c5 (z4 f g d s)), cq, (own_lo c6 (z4 f g d s)), cr, (own_lo c7 (z4 f g d s)), cs, (own_lo c8 (z4 f g d s)), cu, (own_lo c9 (z4 f g d s)), cv, (own_lo cC (z4 f g d s)), cw, (by first | exact own_nil _ _ _ _ | exact OLv.nil _ _ _ _), (by simp), (by first | exact own_nil _ _ _ _ | exact OLv.nil _ _ _ _), (by simp), (by first | exact own_nil _ _ _ _ | exact OLv.nil _ _ _ _), (by simp), (by first | exact own_nil _ _ _ _ | exact OLv.nil _ _ _ _), (by simp), (by first | exact own_nil _ _ _ _ | exact OLv.nil _ _ _ _), (by simp), (by first | exact own_nil _ _ _ _ | exact OLv.nil _ _ _ _), (by simp), ⟨⟨(p.1.1), ⟨(p.1.2.1), ⟨(p.1.2.2.1), ⟨(p.1.2.2.2.1), ⟨(p.1.2.2.2.2.1), ⟨(Ap.nr _), ⟨(Ap.nr _), ⟨(Ap.nr _), ⟨(Ap.nr _), ⟨(Ap.nr _), ⟨(Ap.nr _), trivial⟩⟩⟩⟩⟩⟩⟩⟩⟩⟩⟩, ⟨⟨(p.2.1.1), ⟨(p.2.1.2.1), ⟨(p.2.1.2.2.1), ⟨(p.2.1.2.2.2.1), ⟨(Ap.nr _), ⟨(Ap.nr _), ⟨(Ap.nr _), ⟨(Ap.nr _), ⟨(Ap.nr _), ⟨(Ap.nr _), trivial⟩⟩⟩⟩⟩⟩⟩⟩⟩⟩, ⟨⟨(p.2.2.1.1), ⟨(p.2.2.1.2.1), ⟨(p.2.2.1.2.2.1), ⟨(Ap.nr _), ⟨(Ap.nr _), ⟨(Ap.nr _), ⟨(Ap.nr _), ⟨(Ap.nr _), ⟨(Ap.nr _), trivial⟩⟩⟩⟩⟩⟩⟩⟩⟩, ⟨⟨(p.2.2.2.1.1), ⟨(p.2.2.2.1.2.1), ⟨(Ap.nr _), ⟨(Ap.nr _), ⟨(Ap.nr _), ⟨(Ap.nr _), ⟨(Ap.nr _), ⟨(Ap.nr _), trivial⟩⟩⟩⟩⟩⟩⟩⟩, ⟨⟨(p.2.2.2.2.1.1), ⟨(Ap.nr _), ⟨(Ap.nr _), ⟨(Ap.nr _), ⟨(Ap.nr _), ⟨(Ap.nr _), ⟨(Ap.nr _), trivial⟩⟩⟩⟩⟩⟩⟩, ⟨⟨(Ap.nr _), ⟨(Ap.nr _), ⟨(Ap.nr _), ⟨(Ap.nr _), ⟨(Ap.nr _), ⟨(Ap.nr _), trivial⟩⟩⟩⟩⟩⟩, ⟨⟨(Ap.nl _), ⟨(Ap.nl _), ⟨(Ap.nl _), ⟨(Ap.nl _), ⟨(Ap.nl _), trivial⟩⟩⟩⟩⟩, ⟨⟨(Ap.nl _), ⟨(Ap.nl _), ⟨(Ap.nl _), ⟨(Ap.nl _), trivial⟩⟩⟩⟩, ⟨⟨(Ap.nl _), ⟨(Ap.nl _), ⟨(Ap.nl _), trivial⟩⟩⟩, ⟨⟨(Ap.nl _), ⟨(Ap.nl _), trivial⟩⟩, ⟨⟨(Ap.nl _), trivial⟩, ⟨trivial, trivial⟩⟩⟩⟩⟩⟩⟩⟩⟩⟩⟩⟩⟩
 have bF := ((b3.kp g).kp d)
 refine lN (L_35 a m x y A B C K L M O G H) wN isAgg_35 sizeOf_35 bF ?_
 refine cl wN (ciChanOk cn _ a (mR_35 (av.from0 D) ax (ay.from0 D) az (a0.from0 D) a1 (a2.from0 D) a3 (a4.from0 D) a5 (Y.from0 D) a6)) ?_
 rintro _ j ⟨i, rfl⟩
 have aN := D.extk i
 refine pu (vb (!(i_ChanOk a))) wN ?_
 refine mw (vb (!(i_ChanOk a))) ?_
 rcases bf (i_ChanOk a) with t | t
 ·iterate 4 refine sk (cA not t) ?_
  refine pk (vb true) wN (cA not t) ?_
  refine n2 ?_
  refine ct (Eq.refl true) ?_
  have cD : i_AskRekey a = ((a), { Kind := 0, Id := 0, Cn := [], Sn := [], Tick := 0, Cookie := [], Proof := [], Epoch := 0, Seq := 0, Body := [], Tag := [] : PFrame }, 6) := by simp only [i_AskRekey, t, cond_true, cond_false]
  exact wj (b8 cD _ i)
 have eT := impl_ChanOk_t t
 refine pu (vp P 14) (wS (cA not t)) ?_
 have aO := (bF.kp i)
 refine ld (vs G a.Next.length H) (wS (cA not t)) isAgg_22 aO ?_
 refine ln (wS (cA not t)) slTy_22 (Y.from0 aN) ?_
 refine pu (vb (decide ((a.Next.length : Int) = 0))) (wS (cA not t)) ?_
 refine pf (vb (decide ((a.Next.length : Int) = 0))) wN (cA not t) ?_
 refine n2 ?_
 rcases bt (decide ((a.Next.length : Int) = 0)) with J | J
 ·have eU := dT J
  refine ct J ?_
  have cE : i_AskRekey a = ((a), { Kind := 0, Id := 0, Cn := [], Sn := [], Tick := 0, Cookie := [], Proof := [], Epoch := 0, Seq := 0, Body := [], Tag := [] : PFrame }, 6) := by simp only [i_AskRekey, t, J, cond_true, cond_false]
  exact wj (b8 cE _ i)
 have eV := dF J
 refine cf J ?_
 refine wc_skip <| wq_then <| wc_seq ?_
 refine wc_draw ([(17, [], [], (fun _ v _ => v = (va (L_35 a m x y A B C K L M O G H)))), (18, [], [], (fun _ v _ => v = (vp P 2))), (19, [], [1], (fun _ v _ => v = (vp P 2))), (20, [], [1, 2], (fun _ v _ => v = (vi a.Cur.N))), (21, [], [1, 2, 3], (fun _ v _ => v = (vi (a.Cur.N + 1)))), (22, [], [1, 2, 3, 4], (fun _ v w => ∃ (m : Option Addr) (F : Nat), v = .slice m (i_RekeyBody (a.Cur.N + 1)).length F ∧ w.ownsRow (j.heap.size) 5 1 (.slice m (i_RekeyBody (a.Cur.N + 1)).length F) (i_RekeyBody (a.Cur.N + 1)).length ((i_RekeyBody (a.Cur.N + 1)).map bV) ∧ (i_RekeyBody (a.Cur.N + 1)).length ≤ 1073741824 ∧ Aps [(m, F)])), (23, [22], [0, 1, 2, 3, 4, 5], (fun e v w => ∃ (m : Option Addr) (F : Nat) (Z : Option Addr) (x : Nat) (aa : Option Addr) (ab : Nat) (ac : Option Addr) (ad : Nat) (ae : Option Addr) (af : Nat) (y : Option Addr) (ah : Nat) (ai : Option Addr) (A : Nat) (aj : Option Addr) (ak : Nat) (am : Option Addr) (an : Nat) (ao : Option Addr) (ap : Nat) (B : Option Addr) (aq : Nat) (au : Option Addr) (C : Nat), v = .tuple #[.agg #[.int .i64 (((i_ChanSeal a 7 (i_RekeyBody (a.Cur.N + 1))).1).Role), .slice m (((i_ChanSeal a 7 (i_RekeyBody (a.Cur.N + 1))).1).Sn).length F, .int .i64 ((((i_ChanSeal a 7 (i_RekeyBody (a.Cur.N + 1))).1).Cur).N), .slice Z ((((i_ChanSeal a 7 (i_RekeyBody (a.Cur.N + 1))).1).Cur).Key).length x, .int .i64 ((((i_ChanSeal a 7 (i_RekeyBody (a.Cur.N + 1))).1).Cur).Seq), .int .i64 (((((i_ChanSeal a 7 (i_RekeyBody (a.Cur.N + 1))).1).Cur).Win).Top), .slice aa (((((i_ChanSeal a 7 (i_RekeyBody (a.Cur.N + 1))).1).Cur).Win).Bits).length ab, .int .i64 ((((i_ChanSeal a 7 (i_RekeyBody (a.Cur.N + 1))).1).Old).N), .slice ac ((((i_ChanSeal a 7 (i_RekeyBody (a.Cur.N + 1))).1).Old).Key).length ad, .int .i64 ((((i_ChanSeal a 7 (i_RekeyBody (a.Cur.N + 1))).1).Old).Seq), .int .i64 (((((i_ChanSeal a 7 (i_RekeyBody (a.Cur.N + 1))).1).Old).Win).Top), .slice ae (((((i_ChanSeal a 7 (i_RekeyBody (a.Cur.N + 1))).1).Old).Win).Bits).length af, .bool (((i_ChanSeal a 7 (i_RekeyBody (a.Cur.N + 1))).1).HasOld), .int .i64 (((i_ChanSeal a 7 (i_RekeyBody (a.Cur.N + 1))).1).Until), .slice y (((i_ChanSeal a 7 (i_RekeyBody (a.Cur.N + 1))).1).Next).length ah], .agg #[.int .i64 (((i_ChanSeal a 7 (i_RekeyBody (a.Cur.N + 1))).2.1).Kind), .int .i64 (((i_ChanSeal a 7 (i_RekeyBody (a.Cur.N + 1))).2.1).Id), .slice ai (((i_ChanSeal a 7 (i_RekeyBody (a.Cur.N + 1))).2.1).Cn).length A, .slice aj (((i_ChanSeal a 7 (i_RekeyBody (a.Cur.N + 1))).2.1).Sn).length ak, .int .i64 (((i_ChanSeal a 7 (i_RekeyBody (a.Cur.N + 1))).2.1).Tick), .slice am (((i_ChanSeal a 7 (i_RekeyBody (a.Cur.N + 1))).2.1).Cookie).length an, .slice ao (((i_ChanSeal a 7 (i_RekeyBody (a.Cur.N + 1))).2.1).Proof).length ap, .int .i64 (((i_ChanSeal a 7 (i_RekeyBody (a.Cur.N + 1))).2.1).Epoch), .int .i64 (((i_ChanSeal a 7 (i_RekeyBody (a.Cur.N + 1))).2.1).Seq), .slice B (((i_ChanSeal a 7 (i_RekeyBody (a.Cur.N + 1))).2.1).Body).length aq, .slice au (((i_ChanSeal a 7 (i_RekeyBody (a.Cur.N + 1))).2.1).Tag).length C], .int .i64 ((i_ChanSeal a 7 (i_RekeyBody (a.Cur.N + 1))).2.2)] ∧ w.ownsRow (j.heap.size) 5 1 (.slice m (((i_ChanSeal a 7 (i_RekeyBody (a.Cur.N + 1))).1).Sn).length F) (((i_ChanSeal a 7 (i_RekeyBody (a.Cur.N + 1))).1).Sn).length ((((i_ChanSeal a 7 (i_RekeyBody (a.Cur.N + 1))).1).Sn).map bV) ∧ (((i_ChanSeal a 7 (i_RekeyBody (a.Cur.N + 1))).1).Sn).length ≤ 1073741824 ∧ w.ownsRow (j.heap.size) 5 1 (.slice Z ((((i_ChanSeal a 7 (i_RekeyBody (a.Cur.N + 1))).1).Cur).Key).length x) ((((i_ChanSeal a 7 (i_RekeyBody (a.Cur.N + 1))).1).Cur).Key).length (((((i_ChanSeal a 7 (i_RekeyBody (a.Cur.N + 1))).1).Cur).Key).map bV) ∧ ((((i_ChanSeal a 7 (i_RekeyBody (a.Cur.N + 1))).1).Cur).Key).length ≤ 1073741824 ∧ w.ownsRow (j.heap.size) 3 1 (.slice aa (((((i_ChanSeal a 7 (i_RekeyBody (a.Cur.N + 1))).1).Cur).Win).Bits).length ab) (((((i_ChanSeal a 7 (i_RekeyBody (a.Cur.N + 1))).1).Cur).Win).Bits).length ((((((i_ChanSeal a 7 (i_RekeyBody (a.Cur.N + 1))).1).Cur).Win).Bits).map iV) ∧ (((((i_ChanSeal a 7 (i_RekeyBody (a.Cur.N + 1))).1).Cur).Win).Bits).length ≤ 1073741824 ∧ w.ownsRow (j.heap.size) 5 1 (.slice ac ((((i_ChanSeal a 7 (i_RekeyBody (a.Cur.N + 1))).1).Old).Key).length ad) ((((i_ChanSeal a 7 (i_RekeyBody (a.Cur.N + 1))).1).Old).Key).length (((((i_ChanSeal a 7 (i_RekeyBody (a.Cur.N + 1))).1).Old).Key).map bV) ∧ ((((i_ChanSeal a 7 (i_RekeyBody (a.Cur.N + 1))).1).Old).Key).length ≤ 1073741824 ∧ w.ownsRow (j.heap.size) 3 1 (.slice ae (((((i_ChanSeal a 7 (i_RekeyBody (a.Cur.N + 1))).1).Old).Win).Bits).length af) (((((i_ChanSeal a 7 (i_RekeyBody (a.Cur.N + 1))).1).Old).Win).Bits).length ((((((i_ChanSeal a 7 (i_RekeyBody (a.Cur.N + 1))).1).Old).Win).Bits).map iV) ∧ (((((i_ChanSeal a 7 (i_RekeyBody (a.Cur.N + 1))).1).Old).Win).Bits).length ≤ 1073741824 ∧ w.ownsRow (j.heap.size) 5 1 (.slice y (((i_ChanSeal a 7 (i_RekeyBody (a.Cur.N + 1))).1).Next).length ah) (((i_ChanSeal a 7 (i_RekeyBody (a.Cur.N + 1))).1).Next).length ((((i_ChanSeal a 7 (i_RekeyBody (a.Cur.N + 1))).1).Next).map bV) ∧ (((i_ChanSeal a 7 (i_RekeyBody (a.Cur.N + 1))).1).Next).length ≤ 1073741824 ∧ w.ownsRow (j.heap.size) 5 1 (.slice ai (((i_ChanSeal a 7 (i_RekeyBody (a.Cur.N + 1))).2.1).Cn).length A) (((i_ChanSeal a 7 (i_RekeyBody (a.Cur.N + 1))).2.1).Cn).length ((((i_ChanSeal a 7 (i_RekeyBody (a.Cur.N + 1))).2.1).Cn).map bV) ∧ (((i_ChanSeal a 7 (i_RekeyBody (a.Cur.N + 1))).2.1).Cn).length ≤ 1073741824 ∧ w.ownsRow (j.heap.size) 5 1 (.slice aj (((i_ChanSeal a 7 (i_RekeyBody (a.Cur.N + 1))).2.1).Sn).length ak) (((i_ChanSeal a 7 (i_RekeyBody (a.Cur.N + 1))).2.1).Sn).length ((((i_ChanSeal a 7 (i_RekeyBody (a.Cur.N + 1))).2.1).Sn).map bV) ∧ (((i_ChanSeal a 7 (i_RekeyBody (a.Cur.N + 1))).2.1).Sn).length ≤ 1073741824 ∧ w.ownsRow (j.heap.size) 5 1 (.slice am (((i_ChanSeal a 7 (i_RekeyBody (a.Cur.N + 1))).2.1).Cookie).length an) (((i_ChanSeal a 7 (i_RekeyBody (a.Cur.N + 1))).2.1).Cookie).length ((((i_ChanSeal a 7 (i_RekeyBody (a.Cur.N + 1))).2.1).Cookie).map bV) ∧ (((i_ChanSeal a 7 (i_RekeyBody (a.Cur.N + 1))).2.1).Cookie).length ≤ 1073741824 ∧ w.ownsRow (j.heap.size) 5 1 (.slice ao (((i_ChanSeal a 7 (i_RekeyBody (a.Cur.N + 1))).2.1).Proof).length ap) (((i_ChanSeal a 7 (i_RekeyBody (a.Cur.N + 1))).2.1).Proof).length ((((i_ChanSeal a 7 (i_RekeyBody (a.Cur.N + 1))).2.1).Proof).map bV) ∧ (((i_ChanSeal a 7 (i_RekeyBody (a.Cur.N + 1))).2.1).Proof).length ≤ 1073741824 ∧ w.ownsRow (j.heap.size) 5 1 (.slice B (((i_ChanSeal a 7 (i_RekeyBody (a.Cur.N + 1))).2.1).Body).length aq) (((i_ChanSeal a 7 (i_RekeyBody (a.Cur.N + 1))).2.1).Body).length ((((i_ChanSeal a 7 (i_RekeyBody (a.Cur.N + 1))).2.1).Body).map bV) ∧ (((i_ChanSeal a 7 (i_RekeyBody (a.Cur.N + 1))).2.1).Body).length ≤ 1073741824 ∧ w.ownsRow (j.heap.size) 5 1 (.slice au (((i_ChanSeal a 7 (i_RekeyBody (a.Cur.N + 1))).2.1).Tag).length C) (((i_ChanSeal a 7 (i_RekeyBody (a.Cur.N + 1))).2.1).Tag).length ((((i_ChanSeal a 7 (i_RekeyBody (a.Cur.N + 1))).2.1).Tag).map bV) ∧ (((i_ChanSeal a 7 (i_RekeyBody (a.Cur.N + 1))).2.1).Tag).length ≤ 1073741824 ∧ Aps [(m, F), (Z, x), (aa, ab), (ac, ad), (ae, af), (y, ah), (ai, A), (aj, ak), (am, an), (ao, ap), (B, aq), (au, C)] ∧ Ap (sp (e 22)) (m, F) ∧ Ap (sp (e 22)) (Z, x) ∧ Ap (sp (e 22)) (aa, ab) ∧ Ap (sp (e 22)) (ac, ad) ∧ Ap (sp (e 22)) (ae, af) ∧ Ap (sp (e 22)) (y, ah) ∧ Ap (sp (e 22)) (ai, A) ∧ Ap (sp (e 22)) (aj, ak) ∧ Ap (sp (e 22)) (am, an) ∧ Ap (sp (e 22)) (ao, ap) ∧ Ap (sp (e 22)) (B, aq) ∧ Ap (sp (e 22)) (au, C))), (24, [23], [0, 1, 2, 3, 4, 5, 6], (fun e v _ => v = (.agg #[(vi (((i_ChanSeal a 7 (i_RekeyBody (a.Cur.N + 1))).1).Role)), (cellAt (tupAt (e 23) 0) 1), (vi ((((i_ChanSeal a 7 (i_RekeyBody (a.Cur.N + 1))).1).Cur).N)), (cellAt (tupAt (e 23) 0) 3), (vi ((((i_ChanSeal a 7 (i_RekeyBody (a.Cur.N + 1))).1).Cur).Seq)), (vi (((((i_ChanSeal a 7 (i_RekeyBody (a.Cur.N + 1))).1).Cur).Win).Top)), (cellAt (tupAt (e 23) 0) 6), (vi ((((i_ChanSeal a 7 (i_RekeyBody (a.Cur.N + 1))).1).Old).N)), (cellAt (tupAt (e 23) 0) 8), (vi ((((i_ChanSeal a 7 (i_RekeyBody (a.Cur.N + 1))).1).Old).Seq)), (vi (((((i_ChanSeal a 7 (i_RekeyBody (a.Cur.N + 1))).1).Old).Win).Top)), (cellAt (tupAt (e 23) 0) 11), (vb (((i_ChanSeal a 7 (i_RekeyBody (a.Cur.N + 1))).1).HasOld)), (vi (((i_ChanSeal a 7 (i_RekeyBody (a.Cur.N + 1))).1).Until)), (cellAt (tupAt (e 23) 0) 14)]))), (25, [23], [0, 1, 2, 3, 4, 5, 6], (fun e v _ => v = (.agg #[(vi (((i_ChanSeal a 7 (i_RekeyBody (a.Cur.N + 1))).2.1).Kind)), (vi (((i_ChanSeal a 7 (i_RekeyBody (a.Cur.N + 1))).2.1).Id)), (cellAt (tupAt (e 23) 1) 2), (cellAt (tupAt (e 23) 1) 3), (vi (((i_ChanSeal a 7 (i_RekeyBody (a.Cur.N + 1))).2.1).Tick)), (cellAt (tupAt (e 23) 1) 5), (cellAt (tupAt (e 23) 1) 6), (vi (((i_ChanSeal a 7 (i_RekeyBody (a.Cur.N + 1))).2.1).Epoch)), (vi (((i_ChanSeal a 7 (i_RekeyBody (a.Cur.N + 1))).2.1).Seq)), (cellAt (tupAt (e 23) 1) 9), (cellAt (tupAt (e 23) 1) 10)]))), (26, [], [0, 1, 2, 3, 4, 5, 6], (fun _ v _ => v = (vi ((i_ChanSeal a 7 (i_RekeyBody (a.Cur.N + 1))).2.2))))] : GV) mixed rfl (by kernel_rfl) (by kernel_rfl) ?_ ?_ ?_
 ·exact ⟨hV, hE, ⟨hV, hE, ⟨hV, hE, ⟨hV, hE, ⟨hV, hE, ⟨(fun e v w b2 h hk => by obtain ⟨aP, aQ, he, aR, aS, hap⟩ := h; exact ⟨aP, aQ, he, own_kp aR hk, aS, hap⟩), hE, ⟨(fun e v w b2 h hk => by obtain ⟨aP, aQ, cF, cG, cH, cI, cJ, cK, cL, cM, cN, cO, cP, cQ, cR, cS, cT, cU, cV, cW, cX, cY, cZ, da, he, aR, aS, db, dc, dd, de, df, dg, dh, di, dj, dk, dl, dm, dn, dp, dq, dr, ds, dt, du, dv, dw, dx, hap, hx⟩ := h; exact ⟨aP, aQ, cF, cG, cH, cI, cJ, cK, cL, cM, cN, cO, cP, cQ, cR, cS, cT, cU, cV, cW, cX, cY, cZ, da, he, own_kp aR hk, aS, own_kp db hk, dc, own_kp dd hk, de, own_kp df hk, dg, own_kp dh hk, di, own_kp dj hk, dk, own_kp dl hk, dm, own_kp dn hk, dp, own_kp dq hk, dr, own_kp ds hk, dt, own_kp du hk, dv, own_kp dw hk, dx, hap, hx⟩), (fun bG bH v w hx h => by have dy := hx 22 (by simp); simp only [dy] at h; exact h), ⟨hV, (fun bG bH v w hx h => by have aT := hx 23 (by simp); simp only [aT] at h; exact h), ⟨hV, (fun bG bH v w hx h => by have aT := hx 23 (by simp); simp only [aT] at h; exact h), ⟨hV, hE, trivial⟩⟩⟩⟩⟩⟩⟩⟩⟩⟩
 ·refine ⟨?_, ⟨?_, ⟨?_, ⟨?_, ⟨?_, ⟨?_, ⟨?_, ⟨?_, ⟨?_, ⟨?_, trivial⟩⟩⟩⟩⟩⟩⟩⟩⟩⟩
  ·intro l dz
   rintro _ _ _ _ _ _ _ _ _ _
   show WL _ _ _ _ _ _ _
   have d0 := (aO.kp dz)
   refine lN (L_35 a m x y A B C K L M O G H) wN isAgg_35 sizeOf_35 d0 ?_
   exact f2
  ·intro l eW
   rintro _ _ _ _ _ _ _ _ _ _
   show WL _ _ _ _ _ _ _
   refine pu (vp P 2) wN ?_
   exact f2
  ·intro l eX
   rintro _ _ rfl _ _ _ _ _ _ _ _
   show WL _ _ _ _ _ _ _
   refine pu (vp P 2) wN ?_
   exact f2
  ·intro l d1
   rintro _ _ rfl _ rfl _ _ _ _ _ _ _
   show WL _ _ _ _ _ _ _
   have d2 := (aO.kp d1)
   refine ld (vi a.Cur.N) wN isAgg_3 d2 ?_
   exact f2
  ·intro l eY
   rintro _ _ rfl _ rfl _ rfl _ _ _ _ _ _
   show WL _ _ _ _ _ _ _
   refine ar (a.Cur.N + 1) wN ?_
   exact f2
  ·intro l d3
   rintro _ _ rfl _ rfl _ rfl _ rfl _ _ _ _ _
   show WL _ _ _ _ _ _ _
   refine cl wN (ciRekeyBody l (a.Cur.N + 1)) ?_
   rintro _ aK ⟨d4, ⟨eZ, fa, rfl, d5, d6, d7⟩⟩
   exact wl_fin d4 ⟨_, _, rfl, (own_lo d5 d3.size), d6, d7⟩
  ·intro l q
   have T := aN.extk q
   rintro _ rfl _ rfl _ rfl _ rfl _ rfl _ ⟨fb, fc, rfl, r, d8, fd⟩ _ _ _ _
   show WL _ _ _ _ _ _ _
   refine cl wN (ciChanSeal l _ a (mR_35 (av.from0 T) ax (ay.from0 T) az (a0.from0 T) a1 (a2.from0 T) a3 (a4.from0 T) a5 (Y.from0 T) a6) 7 _ (i_RekeyBody (a.Cur.N + 1)) (mR_22 (Rd.of_own r) d8)) ?_
   rintro _ aK ⟨d9, ⟨fe, ff, fg, fh, fi, fj, fk, fl, fm, fo, fp, fq, fr, fs, ft, fu, fv, fw, fx, fy, fz, f0, f3, f4, rfl, bI, dA, bJ, dB, bK, dC, bL, dD, bM, dE, bN, dG, bO, dH, bP, dI, bQ, dJ, bR, dK, bS, dL, bT, dM, dN⟩⟩
   exact wl_fin d9 ⟨_, _, _, _, _, _, _, _, _, _, _, _, _, _, _, _, _, _, _, _, _, _, _, _, rfl, (own_lo bI q.size), dA, (own_lo bJ q.size), dB, (own_lo bK q.size), dC, (own_lo bL q.size), dD, (own_lo bM q.size), dE, (own_lo bN q.size), dG, (own_lo bO q.size), dH, (own_lo bP q.size), dI, (own_lo bQ q.size), dJ, (own_lo bR q.size), dK, (own_lo bS q.size), dL, (own_lo bT q.size), dM, dN, ⟨(Ap.lt r bI (Nat.le_refl _)), (Ap.lt r bJ (Nat.le_refl _)), (Ap.lt r bK (Nat.le_refl _)), (Ap.lt r bL (Nat.le_refl _)), (Ap.lt r bM (Nat.le_refl _)), (Ap.lt r bN (Nat.le_refl _)), (Ap.lt r bO (Nat.le_refl _)), (Ap.lt r bP (Nat.le_refl _)), (Ap.lt r bQ (Nat.le_refl _)), (Ap.lt r bR (Nat.le_refl _)), (Ap.lt r bS (Nat.le_refl _)), (Ap.lt r bT (Nat.le_refl _))⟩⟩
  ·intro l f5
   rintro _ rfl _ rfl _ rfl _ rfl _ rfl _ ⟨f6, f7, rfl, _⟩ _ ⟨dO, dP, dQ, dR, dS, dU, dV, dW, dX, dY, dZ, ea, f8, f9, fA, fB, fC, fD, fE, fF, fG, fH, fI, fJ, rfl, _⟩ _ _ _
   show WL _ _ _ _ _ _ _
   refine pu (va (L_35 ((i_ChanSeal a 7 (i_RekeyBody (a.Cur.N + 1))).1) dO dP dQ dR dS dU dV dW dX dY dZ ea)) wN ?_
   exact f2
  ·intro l fK
   rintro _ rfl _ rfl _ rfl _ rfl _ rfl _ ⟨fL, fM, rfl, _⟩ _ ⟨fN, fO, fP, fQ, fR, fS, fT, fU, fV, fW, fX, fY, ec, ed, ee, ef, eg, eh, ej, ek, em, en, eo, ep, rfl, _⟩ _ _ _
   show WL _ _ _ _ _ _ _
   refine pu (va (L_37 ((i_ChanSeal a 7 (i_RekeyBody (a.Cur.N + 1))).2.1) ec ed ee ef eg eh ej ek em en eo ep)) wN ?_
   exact f2
  ·intro l fZ
   rintro _ rfl _ rfl _ rfl _ rfl _ rfl _ ⟨ga, gb, rfl, _⟩ _ ⟨gc, gd, ge, gf, gg, gh, gi, gj, gk, gl, gm, gn, gp, gq, gr, gs, gt, gu, gv, gw, gx, gy, gz, g0, rfl, _⟩ _ _ _
   show WL _ _ _ _ _ _ _
   refine pu (vi ((i_ChanSeal a 7 (i_RekeyBody (a.Cur.N + 1))).2.2)) wN ?_
   exact f2
 ·intro l aU
  rintro _ rfl _ rfl _ rfl _ rfl _ rfl _ ⟨g1, g2, rfl, _⟩ _ ⟨aV, aW, aX, aY, aZ, ba, bb, bc, bd, be, bg, bh, bi, bj, bk, bl, bm, bn, bo, bp, bq, br, bu, bv, rfl, bU, er, bW, es, bX, et, bY, eu, bZ, ew, ca, ex, cb, ey, cc, ez, cd, e0, ce, e1, cg, e2, ci, e3, b, g3⟩ _ rfl _ rfl _ rfl
  show WL _ _ _ _ _ _ _
  have e4 := (((b5.kp d).kp i).kp aU)
  refine sv (L_35 ((i_ChanSeal a 7 (i_RekeyBody (a.Cur.N + 1))).1) aV aW aX aY aZ ba bb bc bd be bg bh) wN sizeOf_35 e4 ?_
  intro aK bw e5 g4
  have e6 := (aN.extk aU).ext bw (fun k hk => by subst hk; exact nT f.size b4)
  have e7 := (((b7.kp i).kp aU).ch bw (Ne.symm (nN (nL Q (R)))))
  refine sv (L_37 ((i_ChanSeal a 7 (i_RekeyBody (a.Cur.N + 1))).2.1) bi bj bk bl bm bn bo bp bq br bu bv) wN sizeOf_37 e7 ?_
  intro c1 bz e8 g5
  have e9 := e6.ext bz (fun k hk => by subst hk; exact nT (z2 f g) R)
  refine aw (vi ((i_ChanSeal a 7 (i_RekeyBody (a.Cur.N + 1))).2.2)) ?_
  refine n3 ?_
  have eA := (e5.ch bz (nN (nL Q (R))))
  have u := fun (E sz n : Nat) (v : Value) (W : List Value) (o : World.ownsRow l j.heap.size E sz v n W) (X : World.ownsRow l j.heap.size E sz v n W) => (own_ch (own_ch o bw (ne1 X (nL Q (z2 d i)))) bz (ne1 X (nL b6 i.size)))
  have eB := (u _ _ _ _ _ bU bU)
  have eC := (u _ _ _ _ _ bW bW)
  have eD := (u _ _ _ _ _ bX bX)
  have eE := (u _ _ _ _ _ bY bY)
  have eF := (u _ _ _ _ _ bZ bZ)
  have eG := (u _ _ _ _ _ ca ca)
  have eH := (u _ _ _ _ _ cb cb)
  have eI := (u _ _ _ _ _ cc cc)
  have eJ := (u _ _ _ _ _ cd cd)
  have eK := (u _ _ _ _ _ ce ce)
  have eL := (u _ _ _ _ _ cg cg)
  have eM := (u _ _ _ _ _ ci ci)
  refine ret_3 (.inl rfl) (va (L_35 ((i_ChanSeal a 7 (i_RekeyBody (a.Cur.N + 1))).1) aV aW aX aY aZ ba bb bc bd be bg bh)) (va (L_37 ((i_ChanSeal a 7 (i_RekeyBody (a.Cur.N + 1))).2.1) bi bj bk bl bm bn bo bp bq br bu bv)) (vi ((i_ChanSeal a 7 (i_RekeyBody (a.Cur.N + 1))).2.2)) rfl (rv_c (L_35 ((i_ChanSeal a 7 (i_RekeyBody (a.Cur.N + 1))).1) aV aW aX aY aZ ba bb bc bd be bg bh) rfl eA isAgg_35 sizeOf_35) (rv_c (L_37 ((i_ChanSeal a 7 (i_RekeyBody (a.Cur.N + 1))).2.1) bi bj bk bl bm bn bo bp bq br bu bv) rfl e8 isAgg_37 sizeOf_37) rfl ?_
  refine ⟨e9.keep0, ?_⟩
  simp only [i_AskRekey, t, J, cond_true, cond_false]
  exact ⟨_, _, _, _, _, _, _, _, _, _, _, _, _, _, _, _, _, _, _, _, _, _, _, _, rfl, (own_lo eB (z4 f g d i)), er, (own_lo eC (z4 f g d i)), es, (own_lo eD (z4 f g d i)), et, (own_lo eE (z4 f g d i)), eu, (own_lo eF (z4 f g d i)), ew, (own_lo eG (z4 f g d i)), ex, (own_lo eH (z4 f g d i)), ey, (own_lo eI (z4 f g d i)), ez, (own_lo eJ (z4 f g d i)), e0, (own_lo eK (z4 f g d i)), e1, (own_lo eL (z4 f g d i)), e2, (own_lo eM (z4 f g d i)), e3, ⟨⟨(b.1.1), ⟨(b.1.2.1), ⟨(b.1.2.2.1), ⟨(b.1.2.2.2.1), ⟨(b.1.2.2.2.2.1), ⟨(b.1.2.2.2.2.2.1), ⟨(b.1.2.2.2.2.2.2.1), ⟨(b.1.2.2.2.2.2.2.2.1), ⟨(b.1.2.2.2.2.2.2.2.2.1), ⟨(b.1.2.2.2.2.2.2.2.2.2.1), ⟨(b.1.2.2.2.2.2.2.2.2.2.2.1), trivial⟩⟩⟩⟩⟩⟩⟩⟩⟩⟩⟩, ⟨⟨(b.2.1.1), ⟨(b.2.1.2.1), ⟨(b.2.1.2.2.1), ⟨(b.2.1.2.2.2.1), ⟨(b.2.1.2.2.2.2.1), ⟨(b.2.1.2.2.2.2.2.1), ⟨(b.2.1.2.2.2.2.2.2.1), ⟨(b.2.1.2.2.2.2.2.2.2.1), ⟨(b.2.1.2.2.2.2.2.2.2.2.1), ⟨(b.2.1.2.2.2.2.2.2.2.2.2.1), trivial⟩⟩⟩⟩⟩⟩⟩⟩⟩⟩, ⟨⟨(b.2.2.1.1), ⟨(b.2.2.1.2.1), ⟨(b.2.2.1.2.2.1), ⟨(b.2.2.1.2.2.2.1), ⟨(b.2.2.1.2.2.2.2.1), ⟨(b.2.2.1.2.2.2.2.2.1), ⟨(b.2.2.1.2.2.2.2.2.2.1), ⟨(b.2.2.1.2.2.2.2.2.2.2.1), ⟨(b.2.2.1.2.2.2.2.2.2.2.2.1), trivial⟩⟩⟩⟩⟩⟩⟩⟩⟩, ⟨⟨(b.2.2.2.1.1), ⟨(b.2.2.2.1.2.1), ⟨(b.2.2.2.1.2.2.1), ⟨(b.2.2.2.1.2.2.2.1), ⟨(b.2.2.2.1.2.2.2.2.1), ⟨(b.2.2.2.1.2.2.2.2.2.1), ⟨(b.2.2.2.1.2.2.2.2.2.2.1), ⟨(b.2.2.2.1.2.2.2.2.2.2.2.1), trivial⟩⟩⟩⟩⟩⟩⟩⟩, ⟨⟨(b.2.2.2.2.1.1), ⟨(b.2.2.2.2.1.2.1), ⟨(b.2.2.2.2.1.2.2.1), ⟨(b.2.2.2.2.1.2.2.2.1), ⟨(b.2.2.2.2.1.2.2.2.2.1), ⟨(b.2.2.2.2.1.2.2.2.2.2.1), ⟨(b.2.2.2.2.1.2.2.2.2.2.2.1), trivial⟩⟩⟩⟩⟩⟩⟩, ⟨⟨(b.2.2.2.2.2.1.1), ⟨(b.2.2.2.2.2.1.2.1), ⟨(b.2.2.2.2.2.1.2.2.1), ⟨(b.2.2.2.2.2.1.2.2.2.1), ⟨(b.2.2.2.2.2.1.2.2.2.2.1), ⟨(b.2.2.2.2.2.1.2.2.2.2.2.1), trivial⟩⟩⟩⟩⟩⟩, ⟨⟨(b.2.2.2.2.2.2.1.1), ⟨(b.2.2.2.2.2.2.1.2.1), ⟨(b.2.2.2.2.2.2.1.2.2.1), ⟨(b.2.2.2.2.2.2.1.2.2.2.1), ⟨(b.2.2.2.2.2.2.1.2.2.2.2.1), trivial⟩⟩⟩⟩⟩, ⟨⟨(b.2.2.2.2.2.2.2.1.1), ⟨(b.2.2.2.2.2.2.2.1.2.1), ⟨(b.2.2.2.2.2.2.2.1.2.2.1), ⟨(b.2.2.2.2.2.2.2.1.2.2.2.1), trivial⟩⟩⟩⟩, ⟨⟨(b.2.2.2.2.2.2.2.2.1.1), ⟨(b.2.2.2.2.2.2.2.2.1.2.1), ⟨(b.2.2.2.2.2.2.2.2.1.2.2.1), trivial⟩⟩⟩, ⟨⟨(b.2.2.2.2.2.2.2.2.2.1.1), ⟨(b.2.2.2.2.2.2.2.2.2.1.2.1), trivial⟩⟩, ⟨⟨(b.2.2.2.2.2.2.2.2.2.2.1.1), trivial⟩, ⟨trivial, trivial⟩⟩⟩⟩⟩⟩⟩⟩⟩⟩⟩⟩⟩

theorem isAgg_29 : ∀ w, (isAgg 29).run Tryz.prog w = .ok true w := fun w => by kernel_rfl
theorem sizeOf_29 : ∀ w, (sizeOf 29).run Tryz.prog w = .ok 15 w := fun w => by kernel_rfl
abbrev L_29 (x : PChan) (a : Option Addr) (b : Nat) (d : Option Addr) (e : Nat) (f : Option Addr) (g : Nat) (h : Option Addr) (i : Nat) (j : Option Addr) (k : Nat) (l : Option Addr) (m : Nat) : List Value := [vi x.Role, vs a x.Sn.length b, vi x.Cur.N, vs d x.Cur.Key.length e, vi x.Cur.Seq, vi x.Cur.Win.Top, vs f x.Cur.Win.Bits.length g, vi x.Old.N, vs h x.Old.Key.length i, vi x.Old.Seq, vi x.Old.Win.Top, vs j x.Old.Win.Bits.length k, vb x.HasOld, vi x.Until, vs l x.Next.length m]
theorem mQ_29 {w : World} {x : PChan} {a : Option Addr} {b : Nat} {d : Option Addr} {e : Nat} {f : Option Addr} {g : Nat} {h : Option Addr} {i : Nat} {j : Option Addr} {k : Nat} {l : Option Addr} {m : Nat} (o : Rd w 1 (.slice a x.Sn.length b) x.Sn.length (x.Sn.map bV)) (p : x.Sn.length ≤ 9223372036854775807) (q : Rd w 1 (.slice d x.Cur.Key.length e) x.Cur.Key.length (x.Cur.Key.map bV)) (r : x.Cur.Key.length ≤ 9223372036854775807) (s : Rd w 1 (.slice f x.Cur.Win.Bits.length g) x.Cur.Win.Bits.length (x.Cur.Win.Bits.map iV)) (t : x.Cur.Win.Bits.length ≤ 9223372036854775807) (u : Rd w 1 (.slice h x.Old.Key.length i) x.Old.Key.length (x.Old.Key.map bV)) (v : x.Old.Key.length ≤ 9223372036854775807) (y : Rd w 1 (.slice j x.Old.Win.Bits.length k) x.Old.Win.Bits.length (x.Old.Win.Bits.map iV)) (A : x.Old.Win.Bits.length ≤ 9223372036854775807) (B : Rd w 1 (.slice l x.Next.length m) x.Next.length (x.Next.map bV)) (C : x.Next.length ≤ 9223372036854775807) : Q_29 w (va (L_29 x a b d e f g h i j k l m)) x := ⟨_, _, _, _, _, _, _, _, _, _, _, _, rfl, o, p, q, r, s, t, u, v, y, A, B, C⟩
theorem mR_29 {w : World} {x : PChan} {a : Option Addr} {b : Nat} {d : Option Addr} {e : Nat} {f : Option Addr} {g : Nat} {h : Option Addr} {i : Nat} {j : Option Addr} {k : Nat} {l : Option Addr} {m : Nat} (o : Rd w 1 (.slice a x.Sn.length b) x.Sn.length (x.Sn.map bV)) (p : x.Sn.length ≤ 1073741824) (q : Rd w 1 (.slice d x.Cur.Key.length e) x.Cur.Key.length (x.Cur.Key.map bV)) (r : x.Cur.Key.length ≤ 1073741824) (s : Rd w 1 (.slice f x.Cur.Win.Bits.length g) x.Cur.Win.Bits.length (x.Cur.Win.Bits.map iV)) (t : x.Cur.Win.Bits.length ≤ 1073741824) (u : Rd w 1 (.slice h x.Old.Key.length i) x.Old.Key.length (x.Old.Key.map bV)) (v : x.Old.Key.length ≤ 1073741824) (y : Rd w 1 (.slice j x.Old.Win.Bits.length k) x.Old.Win.Bits.length (x.Old.Win.Bits.map iV)) (A : x.Old.Win.Bits.length ≤ 1073741824) (B : Rd w 1 (.slice l x.Next.length m) x.Next.length (x.Next.map bV)) (C : x.Next.length ≤ 1073741824) : R_29 w (va (L_29 x a b d e f g h i j k l m)) x := ⟨_, _, _, _, _, _, _, _, _, _, _, _, rfl, o, p, q, r, s, t, u, v, y, A, B, C⟩
def l_FnExactAskRekey (a : PChan) : (Bool) := bif (decide ((l_szChan a 1048576) < 0)) then (true) else (bif (l_eqChan ((i_AskRekey (l_toChan a)).1) ((s_AskRekey (l_toChan a)).1)) then (bif (l_eqFrame ((i_AskRekey (l_toChan a)).2.1) ((s_AskRekey (l_toChan a)).2.1)) then (bif (decide ((i_AskRekey (l_toChan a)).2.2 = (s_AskRekey (l_toChan a)).2.2)) then (bif (l_eqChan (l_toChan a) (l_toChan a)) then (bif (decide ((1 + tot_PChan (l_toChan a)) < 0)) then (false) else (bif (decide (((l_heldChan (mk_PChan ((i_AskRekey (l_toChan a)).1) 1) 1)) < 0)) then (false) else (bif (decide (((l_heldFrame (mk_PFrame ((i_AskRekey (l_toChan a)).2.1) (1 + tot_PChan ((i_AskRekey (l_toChan a)).1))) ((l_heldChan (mk_PChan ((i_AskRekey (l_toChan a)).1) 1) 1)))) < 0)) then (false) else (bif (decide (((l_heldFrame (mk_PFrame ((i_AskRekey (l_toChan a)).2.1) (1 + tot_PChan ((i_AskRekey (l_toChan a)).1))) ((l_heldChan (mk_PChan ((i_AskRekey (l_toChan a)).1) 1) 1)))) = ((1 + tot_PChan ((i_AskRekey (l_toChan a)).1)) + tot_PFrame ((i_AskRekey (l_toChan a)).2.1)))) then (true) else (false))))) else (false)) else (false)) else (false)) else (false))
theorem clFnExactAskRekey (dc : World) (eJ : Value) (a : PChan) (gM : Q_29 dc eJ a)  : Fn Tryz.prog 5 #[eJ] dc (fun v dm => Keep dc dm ∧ O_4 dm dc.heap.size v (l_FnExactAskRekey a)) := by
 obtain ⟨a5, a6, a7, bj, bk, bl, bm, bn, bo, bp, bq, br, rfl, dd, gN, de, gO, df, gP, dg, gQ, dh, gR, di, gS⟩ := gM
 refine fn_ofS (n := 133) [(va (L_35 a a5 a6 a7 bj bk bl bm bn bo bp bq br))] Tryz.func5 rfl rfl ?_
 refine sr ?_
 refine bx (L_35 a a5 a6 a7 bj bk bl bm bn bo bp bq br) wN ?_
 intro gT eK k9 aC aD eL
 have bA := (Ch.base dc).extk aD
 refine aw (vb false) ?_
 refine nx ?_
 refine aw (vi 1048576) ?_
 refine nx ?_
 refine lN (L_35 a a5 a6 a7 bj bk bl bm bn bo bp bq br) wN isAgg_29 sizeOf_29 eL ?_
 refine mw (vi 1048576) ?_
 refine cl wN (clszChan eK _ a (mQ_29 (dd.from0 bA) gN (de.from0 bA) gO (df.from0 bA) gP (dg.from0 bA) gQ (dh.from0 bA) gR (di.from0 bA) gS) 1048576 (by omega) (by omega)) ?_
 rintro _ gU ⟨Y, rfl⟩
 have bu := bA.extk Y
 have kA := laws_szChan_le a 1048576
 refine aw (vi (l_szChan a 1048576)) ?_
 refine n4 ?_
 refine mw (vi (l_szChan a 1048576)) ?_
 refine pu (vb (decide ((l_szChan a 1048576) < 0))) wN ?_
 refine n2 ?_
 rcases bt (decide ((l_szChan a 1048576) < 0)) with T | T
 ·have kB := dT T
  refine ct T ?_
  refine sr ?_
  refine aw (vb true) ?_
  refine n1 ?_
  refine rt (vb true) ?_
  refine ⟨bu.keep0, ?_⟩
  have gV : l_FnExactAskRekey a = true := by first | (simp only [l_FnExactAskRekey, T, cond_true, cond_false, decide_true]; done) | (unfold l_FnExactAskRekey; try rw [T]; first | done | rfl)
  rw [gV]
  exact rfl
 have kC := dF T
 refine cf T ?_
 refine y1 ?_
 have eM := (eL.kp Y)
 refine lN (L_35 a a5 a6 a7 bj bk bl bm bn bo bp bq br) wN isAgg_29 sizeOf_29 eM ?_
 refine cl wN (cltoChan gU _ a (mR_29 (dd.from0 bu) (by omega) (de.from0 bu) (by omega) (df.from0 bu) (by omega) (dg.from0 bu) (by omega) (dh.from0 bu) (by omega) (di.from0 bu) (by omega))) ?_
 rintro _ a4 ⟨Z, ⟨kD, kE, kF, kG, kH, kI, kJ, kK, kL, kM, kN, kO, rfl, gW, gX, gY, gZ, ha, hb, hc, hd, hf, hg, hh, hi, kP⟩⟩
 refine cl wN (csAskRekey a4 _ (l_toChan a) (mR_35 (Rd.of_own gW) gX (Rd.of_own gY) gZ (Rd.of_own ha) hb (Rd.of_own hc) hd (Rd.of_own hf) hg (Rd.of_own hh) hi)) ?_
 rintro _ bv ⟨aa, ⟨bL, bM, bN, bO, bP, bQ, bR, bS, bT, bU, bW, bX, bY, bZ, ca, cb, cc, cd, ce, cg, ci, cj, ck, cm, rfl, dn, ej, dp, ek, dq, em, dr, en, ds, eo, dt, ep, du, er, dv, es, dw, et, dx, eu, dy, ew, dz, ex, kQ⟩⟩
 have hj := (bu.extk Z).extk aa
 refine mw (.tuple #[(va (L_35 ((s_AskRekey (l_toChan a)).1) bL bM bN bO bP bQ bR bS bT bU bW bX)), (va (L_37 ((s_AskRekey (l_toChan a)).2.1) bY bZ ca cb cc cd ce cg ci cj ck cm)), (vi ((s_AskRekey (l_toChan a)).2.2))]) ?_
 refine pu (va (L_35 ((s_AskRekey (l_toChan a)).1) bL bM bN bO bP bQ bR bS bT bU bW bX)) wN ?_
 refine pu (va (L_37 ((s_AskRekey (l_toChan a)).2.1) bY bZ ca cb cc cd ce cg ci cj ck cm)) wN ?_
 refine pu (vi ((s_AskRekey (l_toChan a)).2.2)) wN ?_
 refine al Z_35 wN zero_35 ?_
 intro hl kR d0 aQ O hm
 refine al Z_37 wN zero_37 ?_
 intro hn kS cn bw I ho
 have hp := (hm.kp I)
 refine sv (L_35 ((s_AskRekey (l_toChan a)).1) bL bM bN bO bP bQ bR bS bT bU bW bX) wN sizeOf_35 hp ?_
 intro kT r hq kU
 have hr := ((hj.extk O).extk I).ext r (fun k hk => by subst hk; exact nT (z4 aD Y Z aa) d0)
 have hs := (ho.ch r (Ne.symm (nN (nL aQ (cn)))))
 refine sv (L_37 ((s_AskRekey (l_toChan a)).2.1) bY bZ ca cb cc cd ce cg ci cj ck cm) wN sizeOf_37 hs ?_
 intro dj s ht kV
 have bB := hr.ext s (fun k hk => by subst hk; exact nT (z5 aD Y Z aa O) cn)
 refine aw (vi ((s_AskRekey (l_toChan a)).2.2)) ?_
 refine nx ?_
 have ey := ((((((eM.kp Z).kp aa).kp O).kp I).ch r (nN (nL aC (nT (z3 Y Z aa) d0)))).ch s (nN (nL aC (nT (z4 Y Z aa O) cn))))
 refine lN (L_35 a a5 a6 a7 bj bk bl bm bn bo bp bq br) wN isAgg_29 sizeOf_29 ey ?_
 refine cl wN (cltoChan dj _ a (mR_29 (dd.from0 bB) (by omega) (de.from0 bB) (by omega) (df.from0 bB) (by omega) (dg.from0 bB) (by omega) (dh.from0 bB) (by omega) (di.from0 bB) (by omega))) ?_
 rintro _ ez ⟨B, ⟨co, cp, cq, cr, cs, cu, cv, cw, cx, cy, cz, c0, rfl, d1, d2, d3, d4, d5, d6, d7, d8, d9, dA, dB, dC, ao⟩⟩
 refine al Z_35 wN zero_35 ?_
 intro hu kW bz dD C hv
 refine sv (L_35 (l_toChan a) co cp cq cr cs cu cv cw cx cy cz c0) wN sizeOf_35 hv ?_
 intro a8 t e0 kX
 have hw := ((bB.extk B).extk C).ext t (fun k hk => by subst hk; exact nT (z9 aD Y Z aa O I r s B) bz)
 refine nx ?_
 refine lN (L_35 (l_toChan a) co cp cq cr cs cu cv cw cx cy cz c0) wN isAgg_35 sizeOf_35 e0 ?_
 have c1 := fun (E sz n : Nat) (v : Value) (J : List Value) (o : World.ownsRow ez dj.heap.size E sz v n J) (H : World.ownsRow ez dj.heap.size E sz v n J) => (own_ch (own_kp o C) t (ne2 H (bz)))
 have eN := (c1 _ _ _ _ _ d1 d1)
 have eO := (c1 _ _ _ _ _ d3 d3)
 have eP := (c1 _ _ _ _ _ d5 d5)
 have eQ := (c1 _ _ _ _ _ d7 d7)
 have eR := (c1 _ _ _ _ _ d9 d9)
 have eS := (c1 _ _ _ _ _ dB dB)
 refine cl wN (ciAskRekey a8 _ (l_toChan a) (mR_35 (Rd.of_own eN) d2 (Rd.of_own eO) d4 (Rd.of_own eP) d6 (Rd.of_own eQ) d8 (Rd.of_own eR) dA (Rd.of_own eS) dC)) ?_
 rintro _ bC ⟨K, ⟨aR, aS, aT, aU, aV, aW, aX, aY, aZ, ba, bb, bc, aE, aF, aG, aH, aI, aJ, aK, aL, aM, aN, aO, aP, rfl, bD, c2, bE, c3, bF, c4, bG, c5, bH, c6, bI, c7, c8, c9, cC, cD, cE, cF, cG, cH, cI, cJ, cK, cL, b⟩⟩
 refine mw (.tuple #[(va (L_35 ((i_AskRekey (l_toChan a)).1) aR aS aT aU aV aW aX aY aZ ba bb bc)), (va (L_37 ((i_AskRekey (l_toChan a)).2.1) aE aF aG aH aI aJ aK aL aM aN aO aP)), (vi ((i_AskRekey (l_toChan a)).2.2))]) ?_
 refine pu (va (L_35 ((i_AskRekey (l_toChan a)).1) aR aS aT aU aV aW aX aY aZ ba bb bc)) wN ?_
 refine pu (va (L_37 ((i_AskRekey (l_toChan a)).2.1) aE aF aG aH aI aJ aK aL aM aN aO aP)) wN ?_
 refine pu (vi ((i_AskRekey (l_toChan a)).2.2)) wN ?_
 refine al Z_35 wN zero_35 ?_
 intro hx kY ap dE d hy
 have hz := (hw.extk K).extk d
 refine al Z_37 wN zero_37 ?_
 intro h0 kZ ak eT F h1
 have h2 := (hy.kp F)
 refine sv (L_35 ((i_AskRekey (l_toChan a)).1) aR aS aT aU aV aW aX aY aZ ba bb bc) wN sizeOf_35 h2 ?_
 intro la x h3 lb
 have h4 := (hz.extk F).ext x (fun k hk => by subst hk; exact nT (z12 aD Y Z aa O I r s B C t K) ap)
 have h5 := (h1.ch x (Ne.symm (nN (nL dE (ak)))))
 refine sv (L_37 ((i_AskRekey (l_toChan a)).2.1) aE aF aG aH aI aJ aK aL aM aN aO aP) wN sizeOf_37 h5 ?_
 intro e1 A h6 lc
 have eU := h4.ext A (fun k hk => by subst hk; exact nT (nT (z12 aD Y Z aa O I r s B C t K) d.size) ak)
 refine aw (vi ((i_AskRekey (l_toChan a)).2.2)) ?_
 refine n4 ?_
 refine jT1 [(1, (vp gT 0)), (2, (vb false)), (4, (vp hl 0)), (5, (vp hn 0)), (6, (vi ((s_AskRekey (l_toChan a)).2.2))), (7, (vp hu 0)), (8, (vp hx 0)), (9, (vp h0 0)), (10, (vi ((i_AskRekey (l_toChan a)).2.2)))] (l_FnExactAskRekey a = false) ?_ fun e2 => ?_
 ·intro h7 dG h8 lf
  have h9 := eU.extk h8
  refine sr ?_
  refine aw (vb false) ?_
  refine n1 ?_
  refine rt (vb false) ?_
  refine ⟨h9.keep0, ?_⟩
  rw [h7]
  exact rfl
 have eV := (h3.ch A (nN (nL dE (ak))))
 refine lN (L_35 ((i_AskRekey (l_toChan a)).1) aR aS aT aU aV aW aX aY aZ ba bb bc) wN isAgg_35 sizeOf_35 eV ?_
 have eW := (((((((((hq.ch s (nN (nL aQ (cn)))).kp B).kp C).ch t (nN (nL aQ (nT (z4 I r s B) bz)))).kp K).kp d).kp F).ch x (nN (nL aQ (nT (z7 I r s B C t K) ap)))).ch A (nN (nL aQ (nT (z8 I r s B C t K d) ak))))
 refine lN (L_35 ((s_AskRekey (l_toChan a)).1) bL bM bN bO bP bQ bR bS bT bU bW bX) wN isAgg_35 sizeOf_35 eW ?_
 have cM := fun (E sz n : Nat) (v : Value) (J : List Value) (o : World.ownsRow bC a8.heap.size E sz v n J) (H : World.ownsRow bC a8.heap.size E sz v n J) => (own_ch (own_ch (own_kp (own_kp o d) F) x (ne2 H (ap))) A (ne2 H (nT d.size ak)))
 have eX := (cM _ _ _ _ _ bD bD)
 have eY := (cM _ _ _ _ _ bE bE)
 have eZ := (cM _ _ _ _ _ bF bF)
 have fa := (cM _ _ _ _ _ bG bG)
 have fb := (cM _ _ _ _ _ bH bH)
 have fc := (cM _ _ _ _ _ bI bI)
 have cN := fun (E sz n : Nat) (v : Value) (J : List Value) (o : World.ownsRow bv a4.heap.size E sz v n J) (H : World.ownsRow bv a4.heap.size E sz v n J) => (own_ch (own_ch (own_kp (own_kp (own_kp (own_ch (own_kp (own_kp (own_ch (own_ch (own_kp (own_kp o O) I) r (ne2 H (d0))) s (ne2 H (nT O.size cn))) B) C) t (ne2 H (nT (z5 O I r s B) bz))) K) d) F) x (ne2 H (nT (z8 O I r s B C t K) ap))) A (ne2 H (nT (z9 O I r s B C t K d) ak)))
 have fd := (cN _ _ _ _ _ dn dn)
 have fe := (cN _ _ _ _ _ dp dp)
 have ff := (cN _ _ _ _ _ dq dq)
 have fg := (cN _ _ _ _ _ dr dr)
 have fh := (cN _ _ _ _ _ ds ds)
 have fi := (cN _ _ _ _ _ dt dt)
 obtain ⟨b0, V⟩ : ∃ y, l_eqChan ((i_AskRekey (l_toChan a)).1) ((s_AskRekey (l_toChan a)).1) = y := ⟨_, rfl⟩
 have fj := cleqChan e1 _ ((i_AskRekey (l_toChan a)).1) (mR_35 (Rd.of_own eX) c2 (Rd.of_own eY) c3 (Rd.of_own eZ) c4 (Rd.of_own fa) c5 (Rd.of_own fb) c6 (Rd.of_own fc) c7) _ ((s_AskRekey (l_toChan a)).1) (mR_35 (Rd.of_own fd) ej (Rd.of_own fe) ek (Rd.of_own ff) em (Rd.of_own fg) en (Rd.of_own fh) eo (Rd.of_own fi) ep)
 rw [V] at fj
 refine cl wN fj ?_
 rintro _ dG ⟨m, rfl⟩
 refine pu (vb (!(b0))) wN ?_
 refine mw (vb (!(b0))) ?_
 rcases bf b0 with L | L
 ·iterate 4 refine sk (cA not L) ?_
  refine pk (vb true) wN (cA not L) ?_
  refine mw (vb true) ?_
  iterate 3 refine sk (Eq.refl true) ?_
  refine pk (vb true) wN (Eq.refl true) ?_
  refine n2 ?_
  refine ct (Eq.refl true) ?_
  have hA : l_FnExactAskRekey a = false := by first | (simp only [l_FnExactAskRekey, T, V, L, cond_true, cond_false, decide_true]; done) | (exfalso; simp only [T] at V; rw [← V] at L; cases L) | (unfold l_FnExactAskRekey; try rw [T]; try rw [V]; try rw [L]; first | done | rfl)
  exact wj (e2 hA _ m)
 have fk := (h6.kp m)
 refine lN (L_37 ((i_AskRekey (l_toChan a)).2.1) aE aF aG aH aI aJ aK aL aM aN aO aP) (wS (cA not L)) isAgg_37 sizeOf_37 fk ?_
 have fl := (((((((((ht.kp B).kp C).ch t (nN (nL bw (nT (z3 r s B) bz)))).kp K).kp d).kp F).ch x (nN (nL bw (nT (z6 r s B C t K) ap)))).ch A (nN (nL bw (nT (z7 r s B C t K d) ak)))).kp m)
 refine lN (L_37 ((s_AskRekey (l_toChan a)).2.1) bY bZ ca cb cc cd ce cg ci cj ck cm) (wS (cA not L)) isAgg_37 sizeOf_37 fl ?_
 have cO := fun (E sz n : Nat) (v : Value) (J : List Value) (o : World.ownsRow bC a8.heap.size E sz v n J) (H : World.ownsRow bC a8.heap.size E sz v n J) => (own_kp (own_ch (own_ch (own_kp (own_kp o d) F) x (ne2 H (ap))) A (ne2 H (nT d.size ak))) m)
 have fm := (cO _ _ _ _ _ c8 c8)
 have fo := (cO _ _ _ _ _ cC cC)
 have fp := (cO _ _ _ _ _ cE cE)
 have fq := (cO _ _ _ _ _ cG cG)
 have fr := (cO _ _ _ _ _ cI cI)
 have fs := (cO _ _ _ _ _ cK cK)
 have cP := fun (E sz n : Nat) (v : Value) (J : List Value) (o : World.ownsRow bv a4.heap.size E sz v n J) (H : World.ownsRow bv a4.heap.size E sz v n J) => (own_kp (own_ch (own_ch (own_kp (own_kp (own_kp (own_ch (own_kp (own_kp (own_ch (own_ch (own_kp (own_kp o O) I) r (ne2 H (d0))) s (ne2 H (nT O.size cn))) B) C) t (ne2 H (nT (z5 O I r s B) bz))) K) d) F) x (ne2 H (nT (z8 O I r s B C t K) ap))) A (ne2 H (nT (z9 O I r s B C t K d) ak))) m)
 have ft := (cP _ _ _ _ _ du du)
 have fu := (cP _ _ _ _ _ dv dv)
 have fv := (cP _ _ _ _ _ dw dw)
 have fw := (cP _ _ _ _ _ dx dx)
 have fx := (cP _ _ _ _ _ dy dy)
 have fy := (cP _ _ _ _ _ dz dz)
 obtain ⟨bd, W⟩ : ∃ y, l_eqFrame ((i_AskRekey (l_toChan a)).2.1) ((s_AskRekey (l_toChan a)).2.1) = y := ⟨_, rfl⟩
 have fz := cleqFrame dG _ ((i_AskRekey (l_toChan a)).2.1) (mR_37 (Rd.of_own fm) c9 (Rd.of_own fo) cD (Rd.of_own fp) cF (Rd.of_own fq) cH (Rd.of_own fr) cJ (Rd.of_own fs) cL) _ ((s_AskRekey (l_toChan a)).2.1) (mR_37 (Rd.of_own ft) er (Rd.of_own fu) es (Rd.of_own fv) et (Rd.of_own fw) eu (Rd.of_own fx) ew (Rd.of_own fy) ex)
 rw [W] at fz
 refine cl (wS (cA not L)) fz ?_
 rintro _ bJ ⟨u, rfl⟩
 have f0 := (eU.extk m).extk u
 refine pu (vb (!(bd))) (wS (cA not L)) ?_
 refine pf (vb (!(bd))) wN (cA not L) ?_
 refine mw (vb (!(bd))) ?_
 rcases bf bd with S | S
 ·iterate 3 refine sk (cA not S) ?_
  refine pk (vb true) wN (cA not S) ?_
  refine n2 ?_
  refine ct (Eq.refl true) ?_
  have hB : l_FnExactAskRekey a = false := by first | (simp only [l_FnExactAskRekey, T, V, L, W, S, cond_true, cond_false, decide_true]; done) | (exfalso; simp only [T, V, L] at W; rw [← W] at S; cases S) | (unfold l_FnExactAskRekey; try rw [T]; try rw [V]; try rw [L]; try rw [W]; try rw [S]; first | done | rfl)
  exact wj (e2 hB _ (m.trans u))
 refine mv (vi ((i_AskRekey (l_toChan a)).2.2)) (wS (cA not S)) ?_
 refine mv (vi ((s_AskRekey (l_toChan a)).2.2)) (wS (cA not S)) ?_
 refine pu (vb (!(decide ((i_AskRekey (l_toChan a)).2.2 = (s_AskRekey (l_toChan a)).2.2)))) (wS (cA not S)) ?_
 refine pf (vb (!(decide ((i_AskRekey (l_toChan a)).2.2 = (s_AskRekey (l_toChan a)).2.2)))) wN (cA not S) ?_
 refine n2 ?_
 rcases bf (decide ((i_AskRekey (l_toChan a)).2.2 = (s_AskRekey (l_toChan a)).2.2)) with X | X
 ·have lg := dF X
  refine ct (cA not X) ?_
  have hC : l_FnExactAskRekey a = false := by first | (simp only [l_FnExactAskRekey, T, V, L, W, S, X, cond_true, cond_false, decide_true]; done) | (unfold l_FnExactAskRekey; try rw [T]; try rw [V]; try rw [L]; try rw [W]; try rw [S]; try rw [X]; first | done | rfl)
  exact wj (e2 hC _ (m.trans u))
 have lh := dT X
 refine cf (cA not X) ?_
 refine wc_skip <| wq_then <| wc_seq <| wc_seq ?_
 refine wc_drawT ([(52, [], [], (fun _ v _ => v = (va (L_35 (l_toChan a) co cp cq cr cs cu cv cw cx cy cz c0)))), (53, [], [], (fun _ v _ => v = (va (L_35 a a5 a6 a7 bj bk bl bm bn bo bp bq br)))), (54, [], [1], (fun _ v w => ∃ (a5 : Option Addr) (e3 : Nat) (e4 : Option Addr) (a6 : Nat) (e5 : Option Addr) (e6 : Nat) (e7 : Option Addr) (e8 : Nat) (e9 : Option Addr) (eA : Nat) (a7 : Option Addr) (eB : Nat), v = .agg #[.int .i64 ((l_toChan a).Role), .slice a5 ((l_toChan a).Sn).length e3, .int .i64 (((l_toChan a).Cur).N), .slice e4 (((l_toChan a).Cur).Key).length a6, .int .i64 (((l_toChan a).Cur).Seq), .int .i64 ((((l_toChan a).Cur).Win).Top), .slice e5 ((((l_toChan a).Cur).Win).Bits).length e6, .int .i64 (((l_toChan a).Old).N), .slice e7 (((l_toChan a).Old).Key).length e8, .int .i64 (((l_toChan a).Old).Seq), .int .i64 ((((l_toChan a).Old).Win).Top), .slice e9 ((((l_toChan a).Old).Win).Bits).length eA, .bool ((l_toChan a).HasOld), .int .i64 ((l_toChan a).Until), .slice a7 ((l_toChan a).Next).length eB] ∧ w.ownsRow (bJ.heap.size) 5 1 (.slice a5 ((l_toChan a).Sn).length e3) ((l_toChan a).Sn).length (((l_toChan a).Sn).map bV) ∧ ((l_toChan a).Sn).length ≤ 1073741824 ∧ w.ownsRow (bJ.heap.size) 5 1 (.slice e4 (((l_toChan a).Cur).Key).length a6) (((l_toChan a).Cur).Key).length ((((l_toChan a).Cur).Key).map bV) ∧ (((l_toChan a).Cur).Key).length ≤ 1073741824 ∧ w.ownsRow (bJ.heap.size) 3 1 (.slice e5 ((((l_toChan a).Cur).Win).Bits).length e6) ((((l_toChan a).Cur).Win).Bits).length (((((l_toChan a).Cur).Win).Bits).map iV) ∧ ((((l_toChan a).Cur).Win).Bits).length ≤ 1073741824 ∧ w.ownsRow (bJ.heap.size) 5 1 (.slice e7 (((l_toChan a).Old).Key).length e8) (((l_toChan a).Old).Key).length ((((l_toChan a).Old).Key).map bV) ∧ (((l_toChan a).Old).Key).length ≤ 1073741824 ∧ w.ownsRow (bJ.heap.size) 3 1 (.slice e9 ((((l_toChan a).Old).Win).Bits).length eA) ((((l_toChan a).Old).Win).Bits).length (((((l_toChan a).Old).Win).Bits).map iV) ∧ ((((l_toChan a).Old).Win).Bits).length ≤ 1073741824 ∧ w.ownsRow (bJ.heap.size) 5 1 (.slice a7 ((l_toChan a).Next).length eB) ((l_toChan a).Next).length (((l_toChan a).Next).map bV) ∧ ((l_toChan a).Next).length ≤ 1073741824 ∧ Aps [(a5, e3), (e4, a6), (e5, e6), (e7, e8), (e9, eA), (a7, eB)]))] : GV) (fun _ dm => Keep bJ dm) [] mixed rfl (by kernel_rfl) (by kernel_rfl) ?_ (fun _ _ h => h) (fun _ _ _ _ h _ k => h.trans k) trivial ?_ ?_ ?_
 ·exact ⟨hV, hE, ⟨hV, hE, ⟨(fun e v w eK h hk => by obtain ⟨hD, hF, hG, hH, hI, hJ, hK, hL, hM, hN, hO, hP, he, hQ, hR, hS, hT, hU, hW, hX, hY, hZ, ia, ib, ic, hap⟩ := h; exact ⟨hD, hF, hG, hH, hI, hJ, hK, hL, hM, hN, hO, hP, he, own_kp hQ hk, hR, own_kp hS hk, hT, own_kp hU hk, hW, own_kp hX hk, hY, own_kp hZ hk, ia, own_kp ib hk, ic, hap⟩), hE, trivial⟩⟩⟩
 ·exact trivial
 ·refine ⟨?_, ⟨?_, ⟨?_, trivial⟩⟩⟩
  ·intro _ dk ie _
   rintro _ _ _
   show WL _ _ _ _ _ _ _
   have ig := ((((((((e0.kp K).kp d).kp F).ch x (nN (nL dD (nT (z2 t K) ap)))).ch A (nN (nL dD (nT (z3 t K d) ak)))).kp m).kp u).kp ie)
   refine lN (L_35 (l_toChan a) co cp cq cr cs cu cv cw cx cy cz c0) wN isAgg_35 sizeOf_35 ig ?_
   exact f1
  ·intro _ dk ih _
   rintro _ _ _
   show WL _ _ _ _ _ _ _
   have ii := (((((((((((ey.kp B).kp C).ch t (nN (nL aC (nT (z8 Y Z aa O I r s B) bz)))).kp K).kp d).kp F).ch x (nN (nL aC (nT (z11 Y Z aa O I r s B C t K) ap)))).ch A (nN (nL aC (nT (z12 Y Z aa O I r s B C t K d) ak)))).kp m).kp u).kp ih)
   refine lN (L_35 a a5 a6 a7 bj bk bl bm bn bo bp bq br) wN isAgg_29 sizeOf_29 ii ?_
   exact f1
  ·intro _ dk bK _
   have cQ := f0.extk bK
   rintro _ _ rfl _
   show WL _ _ _ _ _ _ _
   refine cl wN (cltoChan dk _ a (mR_29 (dd.from0 cQ) (by omega) (de.from0 cQ) (by omega) (df.from0 cQ) (by omega) (dg.from0 cQ) (by omega) (dh.from0 cQ) (by omega) (di.from0 cQ) (by omega))) ?_
   rintro _ f3 ⟨ij, ⟨li, lj, lk, ll, lm, lo, lp, lq, lr, ls, lu, lv, rfl, ik, il, im, io, ip, iq, ir, it, iu, iv, iw, iy, iz⟩⟩
   exact wl_finT ij ⟨_, _, _, _, _, _, _, _, _, _, _, _, rfl, (own_lo ik bK.size), il, (own_lo im bK.size), io, (own_lo ip bK.size), iq, (own_lo ir bK.size), it, (own_lo iu bK.size), iv, (own_lo iw bK.size), iy, iz⟩
 ·intro _ dk D
  rintro _ rfl _ rfl _ ⟨lw, lx, ly, lz, l0, l1, l2, l3, l4, l5, l6, l7, rfl, i0, i1, i2, i3, i4, i5, i6, i7, i8, i9, iA, iB, l8⟩
  show WL _ _ _ _ _ _ _
  have cR := fun (E sz n : Nat) (v : Value) (J : List Value) (o : World.ownsRow a8 dj.heap.size E sz v n J) (H : World.ownsRow ez dj.heap.size E sz v n J) => (own_kp (own_kp (own_kp (own_ch (own_ch (own_kp (own_kp (own_kp o K) d) F) x (ne2 H (nT (z3 C t K) ap))) A (ne2 H (nT (z4 C t K d) ak))) m) u) D)
  have f4 := (cR _ _ _ _ _ eN d1)
  have f5 := (cR _ _ _ _ _ eO d3)
  have f6 := (cR _ _ _ _ _ eP d5)
  have f7 := (cR _ _ _ _ _ eQ d7)
  have f8 := (cR _ _ _ _ _ eR d9)
  have f9 := (cR _ _ _ _ _ eS dB)
  obtain ⟨fA, am⟩ : ∃ y, l_eqChan (l_toChan a) (l_toChan a) = y := ⟨_, rfl⟩
  have fB := cleqChan dk _ (l_toChan a) (mR_35 (Rd.of_own f4) d2 (Rd.of_own f5) d4 (Rd.of_own f6) d6 (Rd.of_own f7) d8 (Rd.of_own f8) dA (Rd.of_own f9) dC) _ (l_toChan a) (mR_35 (Rd.of_own i0) i1 (Rd.of_own i2) i3 (Rd.of_own i4) i5 (Rd.of_own i6) i7 (Rd.of_own i8) i9 (Rd.of_own iA) iB)
  rw [am] at fB
  refine cl wN fB ?_
  rintro _ f3 ⟨q, rfl⟩
  have fC := (f0.extk D).extk q
  refine pu (vb (!(fA))) wN ?_
  refine n2 ?_
  rcases bf fA with ai | ai
  ·refine ct (cA not ai) ?_
   refine sr ?_
   refine aw (vb false) ?_
   refine n1 ?_
   refine rt (vb false) ?_
   refine ⟨fC.keep0, ?_⟩
   have iC : l_FnExactAskRekey a = false := by first | (simp only [l_FnExactAskRekey, T, V, L, W, S, X, am, ai, cond_true, cond_false, decide_true]; done) | (exfalso; simp only [T, V, L, W, S, X] at am; rw [← am] at ai; cases ai) | (unfold l_FnExactAskRekey; try rw [T]; try rw [V]; try rw [L]; try rw [W]; try rw [S]; try rw [X]; try rw [am]; try rw [ai]; first | done | rfl)
   rw [iC]
   exact rfl
  refine cf (cA not ai) ?_
  refine y1 ?_
  refine aw (vi 1) ?_
  refine nx ?_
  have iD := (((((((((e0.kp K).kp d).kp F).ch x (nN (nL dD (nT (z2 t K) ap)))).ch A (nN (nL dD (nT (z3 t K d) ak)))).kp m).kp u).kp D).kp q)
  refine lN (L_35 (l_toChan a) co cp cq cr cs cu cv cw cx cy cz c0) wN isAgg_35 sizeOf_35 iD ?_
  refine mw (vi 1) ?_
  have fD := (own_kp f4 q)
  have fE := (own_kp f5 q)
  have fF := (own_kp f6 q)
  have fG := (own_kp f7 q)
  have fH := (own_kp f8 q)
  have fI := (own_kp f9 q)
  refine cl wN (clmarkChan f3 co cp cq cr cs cu cv cw cx cy cz c0 (l_toChan a) 1 (by omega) (by omega) d2 (Rd.of_own fD) (Wp.of fD) d4 (Rd.of_own fE) (Wp.of fE) d6 (Rd.of_own fF) (Wp.of fF) d8 (Rd.of_own fG) (Wp.of fG) dA (Rd.of_own fH) (Wp.of fH) dC (Rd.of_own fI) (Wp.of fI) ⟨⟨(ao.1.1), ⟨(ao.1.2.1), ⟨(ao.1.2.2.1), ⟨(ao.1.2.2.2.1), ⟨(ao.1.2.2.2.2.1), trivial⟩⟩⟩⟩⟩, ⟨⟨(ao.2.1.1), ⟨(ao.2.1.2.1), ⟨(ao.2.1.2.2.1), ⟨(ao.2.1.2.2.2.1), trivial⟩⟩⟩⟩, ⟨⟨(ao.2.2.1.1), ⟨(ao.2.2.1.2.1), ⟨(ao.2.2.1.2.2.1), trivial⟩⟩⟩, ⟨⟨(ao.2.2.2.1.1), ⟨(ao.2.2.2.1.2.1), trivial⟩⟩, ⟨⟨(ao.2.2.2.2.1.1), trivial⟩, ⟨trivial, trivial⟩⟩⟩⟩⟩⟩) ?_
  rintro _ eC ⟨rfl, R, l9, lA, lB, lC, lD, lE⟩
  have be := rg (rg_cons d1 (rg_cons d3 (rg_cons d5 (rg_cons d7 (rg_cons d9 (rg_cons dB rg_nil)))))) R
  have fJ := fC.ext be (fun k hk => nT (z8 aD Y Z aa O I r s) hk.1)
  have lF := mkR_35_b d2 d4 d6 d8 dA dC
  refine aw (vi (1 + tot_PChan (l_toChan a))) ?_
  refine n4 ?_
  refine mw (vi (1 + tot_PChan (l_toChan a))) ?_
  refine pu (vb (decide ((1 + tot_PChan (l_toChan a)) < 0))) wN ?_
  refine mw (vb (decide ((1 + tot_PChan (l_toChan a)) < 0))) ?_
  rcases bt (decide ((1 + tot_PChan (l_toChan a)) < 0)) with ac | ac
  ·have lG := dT ac
   iterate 4 refine sk ac ?_
   refine pk (vb true) wN ac ?_
   refine mw (vb true) ?_
   iterate 4 refine sk (Eq.refl true) ?_
   refine pk (vb true) wN (Eq.refl true) ?_
   refine mw (vb true) ?_
   iterate 3 refine sk (Eq.refl true) ?_
   refine pk (vb true) wN (Eq.refl true) ?_
   refine n2 ?_
   refine ct (Eq.refl true) ?_
   refine sr ?_
   refine aw (vb false) ?_
   refine n1 ?_
   refine rt (vb false) ?_
   refine ⟨fJ.keep0, ?_⟩
   have iE : l_FnExactAskRekey a = false := by first | (simp only [l_FnExactAskRekey, T, V, L, W, S, X, am, ai, ac, cond_true, cond_false, decide_true]; done) | (unfold l_FnExactAskRekey; try rw [T]; try rw [V]; try rw [L]; try rw [W]; try rw [S]; try rw [X]; try rw [am]; try rw [ai]; try rw [ac]; first | done | rfl)
   rw [iE]
   exact rfl
  have lH := dF ac
  have fK := (((((eV.kp m).kp u).kp D).kp q).ch be (rn2 (nT (z3 C t K) ap)))
  refine lN (L_35 ((i_AskRekey (l_toChan a)).1) aR aS aT aU aV aW aX aY aZ ba bb bc) (wS ac) isAgg_35 sizeOf_35 fK ?_
  have fL := (((((eW.kp m).kp u).kp D).kp q).ch be (rn1 (nL aQ (z3 I r s))))
  refine lN (L_35 ((s_AskRekey (l_toChan a)).1) bL bM bN bO bP bQ bR bS bT bU bW bX) (wS ac) isAgg_35 sizeOf_35 fL ?_
  have cS := fun (E sz n : Nat) (v : Value) (J : List Value) (o : World.ownsRow e1 a8.heap.size E sz v n J) (H : World.ownsRow bC a8.heap.size E sz v n J) => (own_ch (own_kp (own_kp (own_kp (own_kp o m) u) D) q) be (nr2 H (z2 C t)))
  have fM := (cS _ _ _ _ _ eX bD)
  have fN := (cS _ _ _ _ _ eY bE)
  have fO := (cS _ _ _ _ _ eZ bF)
  have fP := (cS _ _ _ _ _ fa bG)
  have fQ := (cS _ _ _ _ _ fb bH)
  have fR := (cS _ _ _ _ _ fc bI)
  have cT := fun (E sz n : Nat) (v : Value) (J : List Value) (o : World.ownsRow e1 a4.heap.size E sz v n J) (H : World.ownsRow bv a4.heap.size E sz v n J) => (own_ch (own_kp (own_kp (own_kp (own_kp o m) u) D) q) be (nr1 H (z4 O I r s)))
  have fS := (cT _ _ _ _ _ fd dn)
  have fT := (cT _ _ _ _ _ fe dp)
  have fU := (cT _ _ _ _ _ ff dq)
  have fV := (cT _ _ _ _ _ fg dr)
  have fW := (cT _ _ _ _ _ fh ds)
  have fX := (cT _ _ _ _ _ fi dt)
  have fY := cleqChan eC _ ((i_AskRekey (l_toChan a)).1) (mR_35 (Rd.of_own fM) c2 (Rd.of_own fN) c3 (Rd.of_own fO) c4 (Rd.of_own fP) c5 (Rd.of_own fQ) c6 (Rd.of_own fR) c7) _ ((s_AskRekey (l_toChan a)).1) (mR_35 (Rd.of_own fS) ej (Rd.of_own fT) ek (Rd.of_own fU) em (Rd.of_own fV) en (Rd.of_own fW) eo (Rd.of_own fX) ep)
  rw [V] at fY
  refine cl (wS ac) fY ?_
  rintro _ fZ ⟨G, rfl⟩
  refine pu (vb (!(b0))) (wS ac) ?_
  refine pf (vb (!(b0))) wN ac ?_
  refine mw (vb (!(b0))) ?_
  have ga := (((((fk.kp u).kp D).kp q).ch be (rn2 (nT (z4 C t K d) ak))).kp G)
  refine lN (L_37 ((i_AskRekey (l_toChan a)).2.1) aE aF aG aH aI aJ aK aL aM aN aO aP) (wS (cA not L)) isAgg_37 sizeOf_37 ga ?_
  have gb := (((((fl.kp u).kp D).kp q).ch be (rn1 (nL bw (z2 r s)))).kp G)
  refine lN (L_37 ((s_AskRekey (l_toChan a)).2.1) bY bZ ca cb cc cd ce cg ci cj ck cm) (wS (cA not L)) isAgg_37 sizeOf_37 gb ?_
  have cU := fun (E sz n : Nat) (v : Value) (J : List Value) (o : World.ownsRow dG a8.heap.size E sz v n J) (H : World.ownsRow bC a8.heap.size E sz v n J) => (own_kp (own_ch (own_kp (own_kp (own_kp o u) D) q) be (nr2 H (z2 C t))) G)
  have eD := (cU _ _ _ _ _ fm c8)
  have eE := (cU _ _ _ _ _ fo cC)
  have eF := (cU _ _ _ _ _ fp cE)
  have eG := (cU _ _ _ _ _ fq cG)
  have eH := (cU _ _ _ _ _ fr cI)
  have eI := (cU _ _ _ _ _ fs cK)
  have cV := fun (E sz n : Nat) (v : Value) (J : List Value) (o : World.ownsRow dG a4.heap.size E sz v n J) (H : World.ownsRow bv a4.heap.size E sz v n J) => (own_kp (own_ch (own_kp (own_kp (own_kp o u) D) q) be (nr1 H (z4 O I r s))) G)
  have gc := (cV _ _ _ _ _ ft du)
  have gd := (cV _ _ _ _ _ fu dv)
  have ge := (cV _ _ _ _ _ fv dw)
  have gf := (cV _ _ _ _ _ fw dx)
  have gg := (cV _ _ _ _ _ fx dy)
  have gh := (cV _ _ _ _ _ fy dz)
  have gi := cleqFrame fZ _ ((i_AskRekey (l_toChan a)).2.1) (mR_37 (Rd.of_own eD) c9 (Rd.of_own eE) cD (Rd.of_own eF) cF (Rd.of_own eG) cH (Rd.of_own eH) cJ (Rd.of_own eI) cL) _ ((s_AskRekey (l_toChan a)).2.1) (mR_37 (Rd.of_own gc) er (Rd.of_own gd) es (Rd.of_own ge) et (Rd.of_own gf) eu (Rd.of_own gg) ew (Rd.of_own gh) ex)
  rw [W] at gi
  refine cl (wS (cA not L)) gi ?_
  rintro _ gj ⟨f, rfl⟩
  refine pu (vb (!(bd))) (wS (cA not L)) ?_
  refine pf (vb (!(bd))) wN (cA not L) ?_
  refine mw (vb (!(bd))) ?_
  refine mv (vi ((i_AskRekey (l_toChan a)).2.2)) (wS (cA not S)) ?_
  refine mv (vi ((s_AskRekey (l_toChan a)).2.2)) (wS (cA not S)) ?_
  refine pu (vb (!(decide ((i_AskRekey (l_toChan a)).2.2 = (s_AskRekey (l_toChan a)).2.2)))) (wS (cA not S)) ?_
  refine pf (vb (!(decide ((i_AskRekey (l_toChan a)).2.2 = (s_AskRekey (l_toChan a)).2.2)))) wN (cA not S) ?_
  refine n2 ?_
  refine cf (cA not X) ?_
  refine y1 ?_
  refine aw (vi 1) ?_
  refine nx ?_
  have gk := ((fK.kp G).kp f)
  refine lN (L_35 ((i_AskRekey (l_toChan a)).1) aR aS aT aU aV aW aX aY aZ ba bb bc) wN isAgg_35 sizeOf_35 gk ?_
  refine mw (vi 1) ?_
  have cW := fun (E sz n : Nat) (v : Value) (J : List Value) (o : World.ownsRow eC a8.heap.size E sz v n J) (H : World.ownsRow bC a8.heap.size E sz v n J) => (own_kp (own_kp o G) f)
  have av := (cW _ _ _ _ _ fM bD)
  have ax := (cW _ _ _ _ _ fN bE)
  have ay := (cW _ _ _ _ _ fO bF)
  have az := (cW _ _ _ _ _ fP bG)
  have a0 := (cW _ _ _ _ _ fQ bH)
  have a1 := (cW _ _ _ _ _ fR bI)
  refine cl wN (clmarkChan gj aR aS aT aU aV aW aX aY aZ ba bb bc ((i_AskRekey (l_toChan a)).1) 1 (by omega) (by omega) c2 (Rd.of_own av) (Wp.of av) c3 (Rd.of_own ax) (Wp.of ax) c4 (Rd.of_own ay) (Wp.of ay) c5 (Rd.of_own az) (Wp.of az) c6 (Rd.of_own a0) (Wp.of a0) c7 (Rd.of_own a1) (Wp.of a1) ⟨⟨(b.1.1), ⟨(b.1.2.1), ⟨(b.1.2.2.1), ⟨(b.1.2.2.2.1), ⟨(b.1.2.2.2.2.1), trivial⟩⟩⟩⟩⟩, ⟨⟨(b.2.1.1), ⟨(b.2.1.2.1), ⟨(b.2.1.2.2.1), ⟨(b.2.1.2.2.2.1), trivial⟩⟩⟩⟩, ⟨⟨(b.2.2.1.1), ⟨(b.2.2.1.2.1), ⟨(b.2.2.1.2.2.1), trivial⟩⟩⟩, ⟨⟨(b.2.2.2.1.1), ⟨(b.2.2.2.1.2.1), trivial⟩⟩, ⟨⟨(b.2.2.2.2.1.1), trivial⟩, ⟨trivial, trivial⟩⟩⟩⟩⟩⟩) ?_
  rintro _ bh ⟨rfl, P, iF, iG, iH, iI, iJ, iK⟩
  have b1 := rg (rg_cons bD (rg_cons bE (rg_cons bF (rg_cons bG (rg_cons bH (rg_cons bI rg_nil)))))) P
  have iL := ((fJ.extk G).extk f).ext b1 (fun k hk => nT (z11 aD Y Z aa O I r s B C t) hk.1)
  have a9 : Ch (MS (([(aR, (((i_AskRekey (l_toChan a)).1).Sn).length, aS), (aT, ((((i_AskRekey (l_toChan a)).1).Cur).Key).length, aU), (aV, (((((i_AskRekey (l_toChan a)).1).Cur).Win).Bits).length, aW), (aX, ((((i_AskRekey (l_toChan a)).1).Old).Key).length, aY), (aZ, (((((i_AskRekey (l_toChan a)).1).Old).Win).Bits).length, ba), (bb, (((i_AskRekey (l_toChan a)).1).Next).length, bc)] : List (Option Addr × Nat × Nat)).map fun p => (p.1, p.2.1))) gj bh := P
  have lI := mkR_35_b c2 c3 c4 c5 c6 c7
  refine aw (vi (1 + tot_PChan ((i_AskRekey (l_toChan a)).1))) ?_
  refine nx ?_
  have gl := ((ga.kp f).ch b1 (rn2 (nT d.size ak)))
  refine lN (L_37 ((i_AskRekey (l_toChan a)).2.1) aE aF aG aH aI aJ aK aL aM aN aO aP) wN isAgg_37 sizeOf_37 gl ?_
  refine mw (vi (1 + tot_PChan ((i_AskRekey (l_toChan a)).1))) ?_
  have b2 := (Rd.mz ((Rd.of_own eD).kp f) a9 (ap_cons (rd_cap (Rd.of_own av)) (b.1.2.2.2.2.2.1) (ap_cons (rd_cap (Rd.of_own ax)) (b.2.1.2.2.2.2.1) (ap_cons (rd_cap (Rd.of_own ay)) (b.2.2.1.2.2.2.1) (ap_cons (rd_cap (Rd.of_own az)) (b.2.2.2.1.2.2.1) (ap_cons (rd_cap (Rd.of_own a0)) (b.2.2.2.2.1.2.1) (ap_cons (rd_cap (Rd.of_own a1)) (b.2.2.2.2.2.1.1) ap_nil)))))))
  have b3 := (Rd.mz ((Rd.of_own eE).kp f) a9 (ap_cons (rd_cap (Rd.of_own av)) (b.1.2.2.2.2.2.2.1) (ap_cons (rd_cap (Rd.of_own ax)) (b.2.1.2.2.2.2.2.1) (ap_cons (rd_cap (Rd.of_own ay)) (b.2.2.1.2.2.2.2.1) (ap_cons (rd_cap (Rd.of_own az)) (b.2.2.2.1.2.2.2.1) (ap_cons (rd_cap (Rd.of_own a0)) (b.2.2.2.2.1.2.2.1) (ap_cons (rd_cap (Rd.of_own a1)) (b.2.2.2.2.2.1.2.1) ap_nil)))))))
  have b4 := (Rd.mz ((Rd.of_own eF).kp f) a9 (ap_cons (rd_cap (Rd.of_own av)) (b.1.2.2.2.2.2.2.2.1) (ap_cons (rd_cap (Rd.of_own ax)) (b.2.1.2.2.2.2.2.2.1) (ap_cons (rd_cap (Rd.of_own ay)) (b.2.2.1.2.2.2.2.2.1) (ap_cons (rd_cap (Rd.of_own az)) (b.2.2.2.1.2.2.2.2.1) (ap_cons (rd_cap (Rd.of_own a0)) (b.2.2.2.2.1.2.2.2.1) (ap_cons (rd_cap (Rd.of_own a1)) (b.2.2.2.2.2.1.2.2.1) ap_nil)))))))
  have b5 := (Rd.mz ((Rd.of_own eG).kp f) a9 (ap_cons (rd_cap (Rd.of_own av)) (b.1.2.2.2.2.2.2.2.2.1) (ap_cons (rd_cap (Rd.of_own ax)) (b.2.1.2.2.2.2.2.2.2.1) (ap_cons (rd_cap (Rd.of_own ay)) (b.2.2.1.2.2.2.2.2.2.1) (ap_cons (rd_cap (Rd.of_own az)) (b.2.2.2.1.2.2.2.2.2.1) (ap_cons (rd_cap (Rd.of_own a0)) (b.2.2.2.2.1.2.2.2.2.1) (ap_cons (rd_cap (Rd.of_own a1)) (b.2.2.2.2.2.1.2.2.2.1) ap_nil)))))))
  have b6 := (Rd.mz ((Rd.of_own eH).kp f) a9 (ap_cons (rd_cap (Rd.of_own av)) (b.1.2.2.2.2.2.2.2.2.2.1) (ap_cons (rd_cap (Rd.of_own ax)) (b.2.1.2.2.2.2.2.2.2.2.1) (ap_cons (rd_cap (Rd.of_own ay)) (b.2.2.1.2.2.2.2.2.2.2.1) (ap_cons (rd_cap (Rd.of_own az)) (b.2.2.2.1.2.2.2.2.2.2.1) (ap_cons (rd_cap (Rd.of_own a0)) (b.2.2.2.2.1.2.2.2.2.2.1) (ap_cons (rd_cap (Rd.of_own a1)) (b.2.2.2.2.2.1.2.2.2.2.1) ap_nil)))))))
  have b7 := (Rd.mz ((Rd.of_own eI).kp f) a9 (ap_cons (rd_cap (Rd.of_own av)) (b.1.2.2.2.2.2.2.2.2.2.2.1) (ap_cons (rd_cap (Rd.of_own ax)) (b.2.1.2.2.2.2.2.2.2.2.2.1) (ap_cons (rd_cap (Rd.of_own ay)) (b.2.2.1.2.2.2.2.2.2.2.2.1) (ap_cons (rd_cap (Rd.of_own az)) (b.2.2.2.1.2.2.2.2.2.2.2.1) (ap_cons (rd_cap (Rd.of_own a0)) (b.2.2.2.2.1.2.2.2.2.2.2.1) (ap_cons (rd_cap (Rd.of_own a1)) (b.2.2.2.2.2.1.2.2.2.2.2.1) ap_nil)))))))
  have iM : Wp bh 5 aE (((i_AskRekey (l_toChan a)).2.1).Cn).length aF _ 1 := (Wp.mz (Wp.kp (Wp.of eD) f) (rd_cap b2) a9 (ap_cons (rd_cap (Rd.of_own av)) (b.1.2.2.2.2.2.1) (ap_cons (rd_cap (Rd.of_own ax)) (b.2.1.2.2.2.2.1) (ap_cons (rd_cap (Rd.of_own ay)) (b.2.2.1.2.2.2.1) (ap_cons (rd_cap (Rd.of_own az)) (b.2.2.2.1.2.2.1) (ap_cons (rd_cap (Rd.of_own a0)) (b.2.2.2.2.1.2.1) (ap_cons (rd_cap (Rd.of_own a1)) (b.2.2.2.2.2.1.1) ap_nil)))))))
  have iN : Wp bh 5 aG (((i_AskRekey (l_toChan a)).2.1).Sn).length aH _ 1 := (Wp.mz (Wp.kp (Wp.of eE) f) (rd_cap b3) a9 (ap_cons (rd_cap (Rd.of_own av)) (b.1.2.2.2.2.2.2.1) (ap_cons (rd_cap (Rd.of_own ax)) (b.2.1.2.2.2.2.2.1) (ap_cons (rd_cap (Rd.of_own ay)) (b.2.2.1.2.2.2.2.1) (ap_cons (rd_cap (Rd.of_own az)) (b.2.2.2.1.2.2.2.1) (ap_cons (rd_cap (Rd.of_own a0)) (b.2.2.2.2.1.2.2.1) (ap_cons (rd_cap (Rd.of_own a1)) (b.2.2.2.2.2.1.2.1) ap_nil)))))))
  have iO : Wp bh 5 aI (((i_AskRekey (l_toChan a)).2.1).Cookie).length aJ _ 1 := (Wp.mz (Wp.kp (Wp.of eF) f) (rd_cap b4) a9 (ap_cons (rd_cap (Rd.of_own av)) (b.1.2.2.2.2.2.2.2.1) (ap_cons (rd_cap (Rd.of_own ax)) (b.2.1.2.2.2.2.2.2.1) (ap_cons (rd_cap (Rd.of_own ay)) (b.2.2.1.2.2.2.2.2.1) (ap_cons (rd_cap (Rd.of_own az)) (b.2.2.2.1.2.2.2.2.1) (ap_cons (rd_cap (Rd.of_own a0)) (b.2.2.2.2.1.2.2.2.1) (ap_cons (rd_cap (Rd.of_own a1)) (b.2.2.2.2.2.1.2.2.1) ap_nil)))))))
  have iP : Wp bh 5 aK (((i_AskRekey (l_toChan a)).2.1).Proof).length aL _ 1 := (Wp.mz (Wp.kp (Wp.of eG) f) (rd_cap b5) a9 (ap_cons (rd_cap (Rd.of_own av)) (b.1.2.2.2.2.2.2.2.2.1) (ap_cons (rd_cap (Rd.of_own ax)) (b.2.1.2.2.2.2.2.2.2.1) (ap_cons (rd_cap (Rd.of_own ay)) (b.2.2.1.2.2.2.2.2.2.1) (ap_cons (rd_cap (Rd.of_own az)) (b.2.2.2.1.2.2.2.2.2.1) (ap_cons (rd_cap (Rd.of_own a0)) (b.2.2.2.2.1.2.2.2.2.1) (ap_cons (rd_cap (Rd.of_own a1)) (b.2.2.2.2.2.1.2.2.2.1) ap_nil)))))))
  have iQ : Wp bh 5 aM (((i_AskRekey (l_toChan a)).2.1).Body).length aN _ 1 := (Wp.mz (Wp.kp (Wp.of eH) f) (rd_cap b6) a9 (ap_cons (rd_cap (Rd.of_own av)) (b.1.2.2.2.2.2.2.2.2.2.1) (ap_cons (rd_cap (Rd.of_own ax)) (b.2.1.2.2.2.2.2.2.2.2.1) (ap_cons (rd_cap (Rd.of_own ay)) (b.2.2.1.2.2.2.2.2.2.2.1) (ap_cons (rd_cap (Rd.of_own az)) (b.2.2.2.1.2.2.2.2.2.2.1) (ap_cons (rd_cap (Rd.of_own a0)) (b.2.2.2.2.1.2.2.2.2.2.1) (ap_cons (rd_cap (Rd.of_own a1)) (b.2.2.2.2.2.1.2.2.2.2.1) ap_nil)))))))
  have iR : Wp bh 5 aO (((i_AskRekey (l_toChan a)).2.1).Tag).length aP _ 1 := (Wp.mz (Wp.kp (Wp.of eI) f) (rd_cap b7) a9 (ap_cons (rd_cap (Rd.of_own av)) (b.1.2.2.2.2.2.2.2.2.2.2.1) (ap_cons (rd_cap (Rd.of_own ax)) (b.2.1.2.2.2.2.2.2.2.2.2.1) (ap_cons (rd_cap (Rd.of_own ay)) (b.2.2.1.2.2.2.2.2.2.2.2.1) (ap_cons (rd_cap (Rd.of_own az)) (b.2.2.2.1.2.2.2.2.2.2.2.1) (ap_cons (rd_cap (Rd.of_own a0)) (b.2.2.2.2.1.2.2.2.2.2.2.1) (ap_cons (rd_cap (Rd.of_own a1)) (b.2.2.2.2.2.1.2.2.2.2.2.1) ap_nil)))))))
  refine cl wN (clmarkFrame bh aE aF aG aH aI aJ aK aL aM aN aO aP ((i_AskRekey (l_toChan a)).2.1) (1 + tot_PChan ((i_AskRekey (l_toChan a)).1)) (by omega) (by omega) c9 b2 iM cD b3 iN cF b4 iO cH b5 iP cJ b6 iQ cL b7 iR ⟨⟨(b.2.2.2.2.2.2.1.1), ⟨(b.2.2.2.2.2.2.1.2.1), ⟨(b.2.2.2.2.2.2.1.2.2.1), ⟨(b.2.2.2.2.2.2.1.2.2.2.1), ⟨(b.2.2.2.2.2.2.1.2.2.2.2.1), trivial⟩⟩⟩⟩⟩, ⟨⟨(b.2.2.2.2.2.2.2.1.1), ⟨(b.2.2.2.2.2.2.2.1.2.1), ⟨(b.2.2.2.2.2.2.2.1.2.2.1), ⟨(b.2.2.2.2.2.2.2.1.2.2.2.1), trivial⟩⟩⟩⟩, ⟨⟨(b.2.2.2.2.2.2.2.2.1.1), ⟨(b.2.2.2.2.2.2.2.2.1.2.1), ⟨(b.2.2.2.2.2.2.2.2.1.2.2.1), trivial⟩⟩⟩, ⟨⟨(b.2.2.2.2.2.2.2.2.2.1.1), ⟨(b.2.2.2.2.2.2.2.2.2.1.2.1), trivial⟩⟩, ⟨⟨(b.2.2.2.2.2.2.2.2.2.2.1.1), trivial⟩, ⟨trivial, trivial⟩⟩⟩⟩⟩⟩) ?_
  rintro _ gm ⟨rfl, Q, iS, iT, iU, iW, iX, iY⟩
  have b8 := rg (rg_cons c8 (rg_cons cC (rg_cons cE (rg_cons cG (rg_cons cI (rg_cons cK rg_nil)))))) Q
  have iZ := iL.ext b8 (fun k hk => nT (z11 aD Y Z aa O I r s B C t) hk.1)
  have cX : Ch (MS (([(aE, (((i_AskRekey (l_toChan a)).2.1).Cn).length, aF), (aG, (((i_AskRekey (l_toChan a)).2.1).Sn).length, aH), (aI, (((i_AskRekey (l_toChan a)).2.1).Cookie).length, aJ), (aK, (((i_AskRekey (l_toChan a)).2.1).Proof).length, aL), (aM, (((i_AskRekey (l_toChan a)).2.1).Body).length, aN), (aO, (((i_AskRekey (l_toChan a)).2.1).Tag).length, aP)] : List (Option Addr × Nat × Nat)).map fun p => (p.1, p.2.1))) bh gm := Q
  have lJ := mkR_37_b c9 cD cF cH cJ cL
  refine aw (vi ((1 + tot_PChan ((i_AskRekey (l_toChan a)).1)) + tot_PFrame ((i_AskRekey (l_toChan a)).2.1))) ?_
  refine nx ?_
  refine aw (vi 1) ?_
  refine nx ?_
  have gn := ((gk.ch b1 (rn2 (ap))).ch b8 (rn2 (ap)))
  refine lN [(vi (((i_AskRekey (l_toChan a)).1).Role)), (vs aR (((i_AskRekey (l_toChan a)).1).Sn).length aS), (vi ((((i_AskRekey (l_toChan a)).1).Cur).N)), (vs aT ((((i_AskRekey (l_toChan a)).1).Cur).Key).length aU), (vi ((((i_AskRekey (l_toChan a)).1).Cur).Seq)), (vi (((((i_AskRekey (l_toChan a)).1).Cur).Win).Top)), (vs aV (((((i_AskRekey (l_toChan a)).1).Cur).Win).Bits).length aW), (vi ((((i_AskRekey (l_toChan a)).1).Old).N)), (vs aX ((((i_AskRekey (l_toChan a)).1).Old).Key).length aY), (vi ((((i_AskRekey (l_toChan a)).1).Old).Seq)), (vi (((((i_AskRekey (l_toChan a)).1).Old).Win).Top)), (vs aZ (((((i_AskRekey (l_toChan a)).1).Old).Win).Bits).length ba), (vb (((i_AskRekey (l_toChan a)).1).HasOld)), (vi (((i_AskRekey (l_toChan a)).1).Until)), (vs bb (((i_AskRekey (l_toChan a)).1).Next).length bc)] wN isAgg_35 sizeOf_35 gn ?_
  refine mw (vi 1) ?_
  have gp := (Rd.mz iF cX (ap_cons (rd_cap b2) (b.1.2.2.2.2.2.1).symm (ap_cons (rd_cap b3) (b.1.2.2.2.2.2.2.1).symm (ap_cons (rd_cap b4) (b.1.2.2.2.2.2.2.2.1).symm (ap_cons (rd_cap b5) (b.1.2.2.2.2.2.2.2.2.1).symm (ap_cons (rd_cap b6) (b.1.2.2.2.2.2.2.2.2.2.1).symm (ap_cons (rd_cap b7) (b.1.2.2.2.2.2.2.2.2.2.2.1).symm ap_nil)))))))
  have gq := (Rd.mz iG cX (ap_cons (rd_cap b2) (b.2.1.2.2.2.2.1).symm (ap_cons (rd_cap b3) (b.2.1.2.2.2.2.2.1).symm (ap_cons (rd_cap b4) (b.2.1.2.2.2.2.2.2.1).symm (ap_cons (rd_cap b5) (b.2.1.2.2.2.2.2.2.2.1).symm (ap_cons (rd_cap b6) (b.2.1.2.2.2.2.2.2.2.2.1).symm (ap_cons (rd_cap b7) (b.2.1.2.2.2.2.2.2.2.2.2.1).symm ap_nil)))))))
  have gr := (Rd.mz iH cX (ap_cons (rd_cap b2) (b.2.2.1.2.2.2.1).symm (ap_cons (rd_cap b3) (b.2.2.1.2.2.2.2.1).symm (ap_cons (rd_cap b4) (b.2.2.1.2.2.2.2.2.1).symm (ap_cons (rd_cap b5) (b.2.2.1.2.2.2.2.2.2.1).symm (ap_cons (rd_cap b6) (b.2.2.1.2.2.2.2.2.2.2.1).symm (ap_cons (rd_cap b7) (b.2.2.1.2.2.2.2.2.2.2.2.1).symm ap_nil)))))))
  have gs := (Rd.mz iI cX (ap_cons (rd_cap b2) (b.2.2.2.1.2.2.1).symm (ap_cons (rd_cap b3) (b.2.2.2.1.2.2.2.1).symm (ap_cons (rd_cap b4) (b.2.2.2.1.2.2.2.2.1).symm (ap_cons (rd_cap b5) (b.2.2.2.1.2.2.2.2.2.1).symm (ap_cons (rd_cap b6) (b.2.2.2.1.2.2.2.2.2.2.1).symm (ap_cons (rd_cap b7) (b.2.2.2.1.2.2.2.2.2.2.2.1).symm ap_nil)))))))
  have gt := (Rd.mz iJ cX (ap_cons (rd_cap b2) (b.2.2.2.2.1.2.1).symm (ap_cons (rd_cap b3) (b.2.2.2.2.1.2.2.1).symm (ap_cons (rd_cap b4) (b.2.2.2.2.1.2.2.2.1).symm (ap_cons (rd_cap b5) (b.2.2.2.2.1.2.2.2.2.1).symm (ap_cons (rd_cap b6) (b.2.2.2.2.1.2.2.2.2.2.1).symm (ap_cons (rd_cap b7) (b.2.2.2.2.1.2.2.2.2.2.2.1).symm ap_nil)))))))
  have gu := (Rd.mz iK cX (ap_cons (rd_cap b2) (b.2.2.2.2.2.1.1).symm (ap_cons (rd_cap b3) (b.2.2.2.2.2.1.2.1).symm (ap_cons (rd_cap b4) (b.2.2.2.2.2.1.2.2.1).symm (ap_cons (rd_cap b5) (b.2.2.2.2.2.1.2.2.2.1).symm (ap_cons (rd_cap b6) (b.2.2.2.2.2.1.2.2.2.2.1).symm (ap_cons (rd_cap b7) (b.2.2.2.2.2.1.2.2.2.2.2.1).symm ap_nil)))))))
  obtain ⟨a2, aq⟩ : ∃ y, l_heldChan (mk_PChan ((i_AskRekey (l_toChan a)).1) 1) 1 = y := ⟨_, rfl⟩
  have gv := clheldChan gm _ _ (mkR_35 gp c2 gq c3 gr c4 gs c5 gt c6 gu c7) 1 (by omega) (by omega)
  rw [aq] at gv
  refine cl wN gv ?_
  rintro _ ja ⟨g, rfl⟩
  have gw := iZ.extk g
  have jb := laws_heldChan_mk  ((i_AskRekey (l_toChan a)).1) 1 1
  try rw [aq] at jb
  refine aw (vi (a2)) ?_
  refine n4 ?_
  refine mw (vi (a2)) ?_
  refine pu (vb (decide ((a2) < 0))) wN ?_
  refine n2 ?_
  rcases bt (decide ((a2) < 0)) with an | an
  ·have lK := dT an
   refine ct an ?_
   refine sr ?_
   refine aw (vb false) ?_
   refine n1 ?_
   refine rt (vb false) ?_
   refine ⟨gw.keep0, ?_⟩
   have jc : l_FnExactAskRekey a = false := by first | (simp only [l_FnExactAskRekey, T, V, L, W, S, X, am, ai, ac, aq, an, cond_true, cond_false, decide_true]; done) | (exfalso; simp only [T, V, L, W, S, X, am, ai, ac] at aq; rw [← aq] at an; cases an) | (unfold l_FnExactAskRekey; try rw [T]; try rw [V]; try rw [L]; try rw [W]; try rw [S]; try rw [X]; try rw [am]; try rw [ai]; try rw [ac]; try rw [aq]; try rw [an]; first | done | rfl)
   rw [jc]
   exact rfl
  have lL := dF an
  refine cf an ?_
  refine y1 ?_
  have gx := ((gl.ch b8 (rn2 (nT d.size ak))).kp g)
  refine lN [(vi (((i_AskRekey (l_toChan a)).2.1).Kind)), (vi (((i_AskRekey (l_toChan a)).2.1).Id)), (vs aE (((i_AskRekey (l_toChan a)).2.1).Cn).length aF), (vs aG (((i_AskRekey (l_toChan a)).2.1).Sn).length aH), (vi (((i_AskRekey (l_toChan a)).2.1).Tick)), (vs aI (((i_AskRekey (l_toChan a)).2.1).Cookie).length aJ), (vs aK (((i_AskRekey (l_toChan a)).2.1).Proof).length aL), (vi (((i_AskRekey (l_toChan a)).2.1).Epoch)), (vi (((i_AskRekey (l_toChan a)).2.1).Seq)), (vs aM (((i_AskRekey (l_toChan a)).2.1).Body).length aN), (vs aO (((i_AskRekey (l_toChan a)).2.1).Tag).length aP)] wN isAgg_37 sizeOf_37 gx ?_
  refine mw (vi (a2)) ?_
  have gy := (iS.kp g)
  have gz := (iT.kp g)
  have g0 := (iU.kp g)
  have g1 := (iW.kp g)
  have g2 := (iX.kp g)
  have g3 := (iY.kp g)
  obtain ⟨aA, aB⟩ : ∃ y, l_heldFrame (mk_PFrame ((i_AskRekey (l_toChan a)).2.1) (1 + tot_PChan ((i_AskRekey (l_toChan a)).1))) (a2) = y := ⟨_, rfl⟩
  have g4 := clheldFrame ja _ _ (mkR_37 gy c9 gz cD g0 cF g1 cH g2 cJ g3 cL) (a2) (by omega) (by omega)
  rw [aB] at g4
  refine cl wN g4 ?_
  rintro _ jd ⟨i, rfl⟩
  have bi := gw.extk i
  have je := laws_heldFrame_mk  ((i_AskRekey (l_toChan a)).2.1) (1 + tot_PChan ((i_AskRekey (l_toChan a)).1)) (a2)
  try rw [aB] at je
  refine aw (vi (aA)) ?_
  refine n4 ?_
  refine mw (vi (aA)) ?_
  refine pu (vb (decide ((aA) < 0))) wN ?_
  refine n2 ?_
  rcases bt (decide ((aA) < 0)) with a3 | a3
  ·have lM := dT a3
   refine ct a3 ?_
   refine sr ?_
   refine aw (vb false) ?_
   refine n1 ?_
   refine rt (vb false) ?_
   refine ⟨bi.keep0, ?_⟩
   have jf : l_FnExactAskRekey a = false := by first | (simp only [l_FnExactAskRekey, T, V, L, W, S, X, am, ai, ac, aq, an, aB, a3, cond_true, cond_false, decide_true]; done) | (exfalso; simp only [T, V, L, W, S, X, am, ai, ac, aq, an] at aB; rw [← aB] at a3; cases a3) | (unfold l_FnExactAskRekey; try rw [T]; try rw [V]; try rw [L]; try rw [W]; try rw [S]; try rw [X]; try rw [am]; try rw [ai]; try rw [ac]; try rw [aq]; try rw [an]; try rw [aB]; try rw [a3]; first | done | rfl)
   rw [jf]
   exact rfl
  have lO := dF a3
  refine cf a3 ?_
  refine y2 ?_
  refine mw (vi (aA)) ?_
  refine mw (vi ((1 + tot_PChan ((i_AskRekey (l_toChan a)).1)) + tot_PFrame ((i_AskRekey (l_toChan a)).2.1))) ?_
  refine pu (vb (!(decide ((aA) = ((1 + tot_PChan ((i_AskRekey (l_toChan a)).1)) + tot_PFrame ((i_AskRekey (l_toChan a)).2.1)))))) wN ?_
  refine n2 ?_
  rcases bf (decide ((aA) = ((1 + tot_PChan ((i_AskRekey (l_toChan a)).1)) + tot_PFrame ((i_AskRekey (l_toChan a)).2.1)))) with bg | bg
  ·have lP := dF bg
   refine ct (cA not bg) ?_
   refine sr ?_
   refine aw (vb false) ?_
   refine n1 ?_
   refine rt (vb false) ?_
   refine ⟨bi.keep0, ?_⟩
   have jg : l_FnExactAskRekey a = false := by first | (simp only [l_FnExactAskRekey, T, V, L, W, S, X, am, ai, ac, aq, an, aB, a3, bg, cond_true, cond_false, decide_true]; done) | (unfold l_FnExactAskRekey; try rw [T]; try rw [V]; try rw [L]; try rw [W]; try rw [S]; try rw [X]; try rw [am]; try rw [ai]; try rw [ac]; try rw [aq]; try rw [an]; try rw [aB]; try rw [a3]; try rw [bg]; first | done | rfl)
   rw [jg]
   exact rfl
  have lQ := dT bg
  refine cf (cA not bg) ?_
  refine y1 ?_
  have jh := (((((((((((((((((((ey.kp B).kp C).ch t (nN (nL aC (nT (z8 Y Z aa O I r s B) bz)))).kp K).kp d).kp F).ch x (nN (nL aC (nT (z11 Y Z aa O I r s B C t K) ap)))).ch A (nN (nL aC (nT (z12 Y Z aa O I r s B C t K d) ak)))).kp m).kp u).kp D).kp q).ch be (rn1 (nL aC (z7 Y Z aa O I r s)))).kp G).kp f).ch b1 (rn1 (nL aC (z10 Y Z aa O I r s B C t)))).ch b8 (rn1 (nL aC (z10 Y Z aa O I r s B C t)))).kp g).kp i)
  refine lN (L_35 a a5 a6 a7 bj bk bl bm bn bo bp bq br) wN isAgg_29 sizeOf_29 jh ?_
  refine cl wN (cltoChan jd _ a (mR_29 (dd.from0 bi) (by omega) (de.from0 bi) (by omega) (df.from0 bi) (by omega) (dg.from0 bi) (by omega) (dh.from0 bi) (by omega) (di.from0 bi) (by omega))) ?_
  rintro _ dl ⟨j, ⟨lR, lS, lT, lU, lV, lW, lX, lY, lZ, ma, mb, mc, rfl, ji, jj, jk, jl, jm, jn, jo, jp, jq, jr, js, jt, md⟩⟩
  refine cl wN (ciAskRekey dl _ (l_toChan a) (mR_35 (Rd.of_own ji) jj (Rd.of_own jk) jl (Rd.of_own jm) jn (Rd.of_own jo) jp (Rd.of_own jq) jr (Rd.of_own js) jt)) ?_
  rintro _ dH ⟨l, ⟨dI, dJ, dK, dL, dM, dN, dO, dP, dQ, dR, dS, dU, dV, dW, dX, dY, dZ, ea, ec, ed, ee, ef, eg, eh, rfl, g5, ju, g6, jv, g7, jw, g8, jx, g9, jy, gA, jz, gB, j0, gC, j1, gD, j2, gE, j3, gF, j4, gG, j5, me⟩⟩
  have j6 := (bi.extk j).extk l
  refine mw (.tuple #[(va (L_35 ((i_AskRekey (l_toChan a)).1) dI dJ dK dL dM dN dO dP dQ dR dS dU)), (va (L_37 ((i_AskRekey (l_toChan a)).2.1) dV dW dX dY dZ ea ec ed ee ef eg eh)), (vi ((i_AskRekey (l_toChan a)).2.2))]) ?_
  refine pu (va (L_35 ((i_AskRekey (l_toChan a)).1) dI dJ dK dL dM dN dO dP dQ dR dS dU)) wN ?_
  refine pu (va (L_37 ((i_AskRekey (l_toChan a)).2.1) dV dW dX dY dZ ea ec ed ee ef eg eh)) wN ?_
  refine pu (vi ((i_AskRekey (l_toChan a)).2.2)) wN ?_
  refine al Z_35 wN zero_35 ?_
  intro mf mg ah gH M j7
  refine al Z_37 wN zero_37 ?_
  intro mh mi ab mj ad j8
  have j9 := (j7.kp ad)
  refine sv (L_35 ((i_AskRekey (l_toChan a)).1) dI dJ dK dL dM dN dO dP dQ dR dS dU) wN sizeOf_35 j9 ?_
  intro ml ae jA mm
  have jC := ((j6.extk M).extk ad).ext ae (fun k hk => by subst hk; exact nT (t7 (t12 (z12 aD Y Z aa O I r s B C t K) d.size F.size x.size A.size m.size u.size D.size q.size R.size G.size f.size) P.size Q.size g.size i.size j.size l.size) ah)
  have jD := (j8.ch ae (Ne.symm (nN (nL gH (ab)))))
  refine sv (L_37 ((i_AskRekey (l_toChan a)).2.1) dV dW dX dY dZ ea ec ed ee ef eg eh) wN sizeOf_37 jD ?_
  intro jE af jF mn
  have jG := jC.ext af (fun k hk => by subst hk; exact nT (t8 (t12 (z12 aD Y Z aa O I r s B C t K) d.size F.size x.size A.size m.size u.size D.size q.size R.size G.size f.size) P.size Q.size g.size i.size j.size l.size M.size) ab)
  refine aw (vi ((i_AskRekey (l_toChan a)).2.2)) ?_
  refine n4 ?_
  have jH := (jA.ch af (nN (nL gH (ab))))
  refine lN (L_35 ((i_AskRekey (l_toChan a)).1) dI dJ dK dL dM dN dO dP dQ dR dS dU) wN isAgg_35 sizeOf_35 jH ?_
  have jI := ((((((((((((fL.kp G).kp f).ch b1 (rn1 (nL aQ (z6 I r s B C t)))).ch b8 (rn1 (nL aQ (z6 I r s B C t)))).kp g).kp i).kp j).kp l).kp M).kp ad).ch ae (nN (nL aQ (nT (nT (t12 (z12 I r s B C t K d F x A m) u.size D.size q.size R.size G.size f.size P.size Q.size g.size i.size j.size) l.size) ah)))).ch af (nN (nL aQ (nT (t3 (t12 (z12 I r s B C t K d F x A m) u.size D.size q.size R.size G.size f.size P.size Q.size g.size i.size j.size) l.size M.size) ab))))
  refine lN (L_35 ((s_AskRekey (l_toChan a)).1) bL bM bN bO bP bQ bR bS bT bU bW bX) wN isAgg_35 sizeOf_35 jI ?_
  have cY := fun (E sz n : Nat) (v : Value) (J : List Value) (o : World.ownsRow dH dl.heap.size E sz v n J) (H : World.ownsRow dH dl.heap.size E sz v n J) => (own_ch (own_ch (own_kp (own_kp o M) ad) ae (ne2 H (ah))) af (ne2 H (nT M.size ab)))
  have jJ := (cY _ _ _ _ _ g5 g5)
  have jK := (cY _ _ _ _ _ g6 g6)
  have jL := (cY _ _ _ _ _ g7 g7)
  have jM := (cY _ _ _ _ _ g8 g8)
  have jN := (cY _ _ _ _ _ g9 g9)
  have jO := (cY _ _ _ _ _ gA gA)
  have cZ := fun (E sz n : Nat) (v : Value) (J : List Value) (o : World.ownsRow eC a4.heap.size E sz v n J) (H : World.ownsRow bv a4.heap.size E sz v n J) => (own_ch (own_ch (own_kp (own_kp (own_kp (own_kp (own_kp (own_kp (own_ch (own_ch (own_kp (own_kp o G) f) b1 (nr1 H (z7 O I r s B C t))) b8 (nr1 H (z7 O I r s B C t))) g) i) j) l) M) ad) ae (ne2 H (nT (t3 (t12 (z12 O I r s B C t K d F x A) m.size u.size D.size q.size R.size G.size f.size P.size Q.size g.size i.size) j.size l.size) ah))) af (ne2 H (nT (t4 (t12 (z12 O I r s B C t K d F x A) m.size u.size D.size q.size R.size G.size f.size P.size Q.size g.size i.size) j.size l.size M.size) ab)))
  have jP := (cZ _ _ _ _ _ fS dn)
  have jQ := (cZ _ _ _ _ _ fT dp)
  have jR := (cZ _ _ _ _ _ fU dq)
  have jS := (cZ _ _ _ _ _ fV dr)
  have jT := (cZ _ _ _ _ _ fW ds)
  have jU := (cZ _ _ _ _ _ fX dt)
  have gI := cleqChan jE _ ((i_AskRekey (l_toChan a)).1) (mR_35 (Rd.of_own jJ) ju (Rd.of_own jK) jv (Rd.of_own jL) jw (Rd.of_own jM) jx (Rd.of_own jN) jy (Rd.of_own jO) jz) _ ((s_AskRekey (l_toChan a)).1) (mR_35 (Rd.of_own jP) ej (Rd.of_own jQ) ek (Rd.of_own jR) em (Rd.of_own jS) en (Rd.of_own jT) eo (Rd.of_own jU) ep)
  rw [V] at gI
  refine cl wN gI ?_
  rintro _ jV ⟨aj, rfl⟩
  refine pu (vb (!(b0))) wN ?_
  refine mw (vb (!(b0))) ?_
  have jW := (jF.kp aj)
  refine lN (L_37 ((i_AskRekey (l_toChan a)).2.1) dV dW dX dY dZ ea ec ed ee ef eg eh) (wS (cA not L)) isAgg_37 sizeOf_37 jW ?_
  have jX := ((((((((((((gb.kp f).ch b1 (rn1 (nL bw (z5 r s B C t)))).ch b8 (rn1 (nL bw (z5 r s B C t)))).kp g).kp i).kp j).kp l).kp M).kp ad).ch ae (nN (nL bw (nT (t12 (z12 r s B C t K d F x A m u) D.size q.size R.size G.size f.size P.size Q.size g.size i.size j.size l.size) ah)))).ch af (nN (nL bw (nT (nT (t12 (z12 r s B C t K d F x A m u) D.size q.size R.size G.size f.size P.size Q.size g.size i.size j.size l.size) M.size) ab)))).kp aj)
  refine lN (L_37 ((s_AskRekey (l_toChan a)).2.1) bY bZ ca cb cc cd ce cg ci cj ck cm) (wS (cA not L)) isAgg_37 sizeOf_37 jX ?_
  have da := fun (E sz n : Nat) (v : Value) (J : List Value) (o : World.ownsRow dH dl.heap.size E sz v n J) (H : World.ownsRow dH dl.heap.size E sz v n J) => (own_kp (own_ch (own_ch (own_kp (own_kp o M) ad) ae (ne2 H (ah))) af (ne2 H (nT M.size ab))) aj)
  have jY := (da _ _ _ _ _ gB gB)
  have jZ := (da _ _ _ _ _ gC gC)
  have ka := (da _ _ _ _ _ gD gD)
  have kb := (da _ _ _ _ _ gE gE)
  have kc := (da _ _ _ _ _ gF gF)
  have kd := (da _ _ _ _ _ gG gG)
  have db := fun (E sz n : Nat) (v : Value) (J : List Value) (o : World.ownsRow fZ a4.heap.size E sz v n J) (H : World.ownsRow bv a4.heap.size E sz v n J) => (own_kp (own_ch (own_ch (own_kp (own_kp (own_kp (own_kp (own_kp (own_kp (own_ch (own_ch (own_kp o f) b1 (nr1 H (z7 O I r s B C t))) b8 (nr1 H (z7 O I r s B C t))) g) i) j) l) M) ad) ae (ne2 H (nT (t3 (t12 (z12 O I r s B C t K d F x A) m.size u.size D.size q.size R.size G.size f.size P.size Q.size g.size i.size) j.size l.size) ah))) af (ne2 H (nT (t4 (t12 (z12 O I r s B C t K d F x A) m.size u.size D.size q.size R.size G.size f.size P.size Q.size g.size i.size) j.size l.size M.size) ab))) aj)
  have ke := (db _ _ _ _ _ gc du)
  have kf := (db _ _ _ _ _ gd dv)
  have kg := (db _ _ _ _ _ ge dw)
  have kh := (db _ _ _ _ _ gf dx)
  have ki := (db _ _ _ _ _ gg dy)
  have kj := (db _ _ _ _ _ gh dz)
  have gJ := cleqFrame jV _ ((i_AskRekey (l_toChan a)).2.1) (mR_37 (Rd.of_own jY) j0 (Rd.of_own jZ) j1 (Rd.of_own ka) j2 (Rd.of_own kb) j3 (Rd.of_own kc) j4 (Rd.of_own kd) j5) _ ((s_AskRekey (l_toChan a)).2.1) (mR_37 (Rd.of_own ke) er (Rd.of_own kf) es (Rd.of_own kg) et (Rd.of_own kh) eu (Rd.of_own ki) ew (Rd.of_own kj) ex)
  rw [W] at gJ
  refine cl (wS (cA not L)) gJ ?_
  rintro _ kk ⟨au, rfl⟩
  have kl := (jG.extk aj).extk au
  refine pu (vb (!(bd))) (wS (cA not L)) ?_
  refine pf (vb (!(bd))) wN (cA not L) ?_
  refine mw (vb (!(bd))) ?_
  refine mv (vi ((i_AskRekey (l_toChan a)).2.2)) (wS (cA not S)) ?_
  refine mv (vi ((s_AskRekey (l_toChan a)).2.2)) (wS (cA not S)) ?_
  refine pu (vb (!(decide ((i_AskRekey (l_toChan a)).2.2 = (s_AskRekey (l_toChan a)).2.2)))) (wS (cA not S)) ?_
  refine pf (vb (!(decide ((i_AskRekey (l_toChan a)).2.2 = (s_AskRekey (l_toChan a)).2.2)))) wN (cA not S) ?_
  refine n2 ?_
  refine cf (cA not X) ?_
  refine y1 ?_
  refine aw (vi 1) ?_
  refine nx ?_
  have km := ((((((((((gn.kp g).kp i).kp j).kp l).kp M).kp ad).ch ae (nN (nL dE (nT (t5 (z12 F x A m u D q R G f P Q) g.size i.size j.size l.size) ah)))).ch af (nN (nL dE (nT (t6 (z12 F x A m u D q R G f P Q) g.size i.size j.size l.size M.size) ab)))).kp aj).kp au)
  refine lN [(vi (((i_AskRekey (l_toChan a)).1).Role)), (vs aR (((i_AskRekey (l_toChan a)).1).Sn).length aS), (vi ((((i_AskRekey (l_toChan a)).1).Cur).N)), (vs aT ((((i_AskRekey (l_toChan a)).1).Cur).Key).length aU), (vi ((((i_AskRekey (l_toChan a)).1).Cur).Seq)), (vi (((((i_AskRekey (l_toChan a)).1).Cur).Win).Top)), (vs aV (((((i_AskRekey (l_toChan a)).1).Cur).Win).Bits).length aW), (vi ((((i_AskRekey (l_toChan a)).1).Old).N)), (vs aX ((((i_AskRekey (l_toChan a)).1).Old).Key).length aY), (vi ((((i_AskRekey (l_toChan a)).1).Old).Seq)), (vi (((((i_AskRekey (l_toChan a)).1).Old).Win).Top)), (vs aZ (((((i_AskRekey (l_toChan a)).1).Old).Win).Bits).length ba), (vb (((i_AskRekey (l_toChan a)).1).HasOld)), (vi (((i_AskRekey (l_toChan a)).1).Until)), (vs bb (((i_AskRekey (l_toChan a)).1).Next).length bc)] wN isAgg_35 sizeOf_35 km ?_
  refine mw (vi 1) ?_
  have kn := ((((((((((gp.kp g).kp i).kp j).kp l).kp M).kp ad).ch ae (ne2 bD (nT (t6 (z12 d F x A m u D q R G f P) Q.size g.size i.size j.size l.size) ah))).ch af (ne2 bD (nT (t7 (z12 d F x A m u D q R G f P) Q.size g.size i.size j.size l.size M.size) ab))).kp aj).kp au)
  have ko := ((((((((((gq.kp g).kp i).kp j).kp l).kp M).kp ad).ch ae (ne2 bE (nT (t6 (z12 d F x A m u D q R G f P) Q.size g.size i.size j.size l.size) ah))).ch af (ne2 bE (nT (t7 (z12 d F x A m u D q R G f P) Q.size g.size i.size j.size l.size M.size) ab))).kp aj).kp au)
  have kq := ((((((((((gr.kp g).kp i).kp j).kp l).kp M).kp ad).ch ae (ne2 bF (nT (t6 (z12 d F x A m u D q R G f P) Q.size g.size i.size j.size l.size) ah))).ch af (ne2 bF (nT (t7 (z12 d F x A m u D q R G f P) Q.size g.size i.size j.size l.size M.size) ab))).kp aj).kp au)
  have kr := ((((((((((gs.kp g).kp i).kp j).kp l).kp M).kp ad).ch ae (ne2 bG (nT (t6 (z12 d F x A m u D q R G f P) Q.size g.size i.size j.size l.size) ah))).ch af (ne2 bG (nT (t7 (z12 d F x A m u D q R G f P) Q.size g.size i.size j.size l.size M.size) ab))).kp aj).kp au)
  have ks := ((((((((((gt.kp g).kp i).kp j).kp l).kp M).kp ad).ch ae (ne2 bH (nT (t6 (z12 d F x A m u D q R G f P) Q.size g.size i.size j.size l.size) ah))).ch af (ne2 bH (nT (t7 (z12 d F x A m u D q R G f P) Q.size g.size i.size j.size l.size M.size) ab))).kp aj).kp au)
  have kt := ((((((((((gu.kp g).kp i).kp j).kp l).kp M).kp ad).ch ae (ne2 bI (nT (t6 (z12 d F x A m u D q R G f P) Q.size g.size i.size j.size l.size) ah))).ch af (ne2 bI (nT (t7 (z12 d F x A m u D q R G f P) Q.size g.size i.size j.size l.size M.size) ab))).kp aj).kp au)
  have gK := clheldChan kk _ _ (mkR_35 kn c2 ko c3 kq c4 kr c5 ks c6 kt c7) 1 (by omega) (by omega)
  rw [aq] at gK
  refine cl wN gK ?_
  rintro _ ku ⟨b9, rfl⟩
  have kv := laws_heldChan_mk  ((i_AskRekey (l_toChan a)).1) 1 1
  try rw [aq] at kv
  refine aw (vi (a2)) ?_
  refine n4 ?_
  refine mw (vi (a2)) ?_
  refine pu (vb (decide ((a2) < 0))) wN ?_
  refine n2 ?_
  refine cf an ?_
  refine y1 ?_
  have kx := ((((((((((gx.kp i).kp j).kp l).kp M).kp ad).ch ae (nN (nL eT (nT (t4 (z12 x A m u D q R G f P Q g) i.size j.size l.size) ah)))).ch af (nN (nL eT (nT (t5 (z12 x A m u D q R G f P Q g) i.size j.size l.size M.size) ab)))).kp aj).kp au).kp b9)
  refine lN [(vi (((i_AskRekey (l_toChan a)).2.1).Kind)), (vi (((i_AskRekey (l_toChan a)).2.1).Id)), (vs aE (((i_AskRekey (l_toChan a)).2.1).Cn).length aF), (vs aG (((i_AskRekey (l_toChan a)).2.1).Sn).length aH), (vi (((i_AskRekey (l_toChan a)).2.1).Tick)), (vs aI (((i_AskRekey (l_toChan a)).2.1).Cookie).length aJ), (vs aK (((i_AskRekey (l_toChan a)).2.1).Proof).length aL), (vi (((i_AskRekey (l_toChan a)).2.1).Epoch)), (vi (((i_AskRekey (l_toChan a)).2.1).Seq)), (vs aM (((i_AskRekey (l_toChan a)).2.1).Body).length aN), (vs aO (((i_AskRekey (l_toChan a)).2.1).Tag).length aP)] wN isAgg_37 sizeOf_37 kx ?_
  refine mw (vi (a2)) ?_
  have ky := ((((((((((gy.kp i).kp j).kp l).kp M).kp ad).ch ae (ne2 c8 (nT (t6 (z12 d F x A m u D q R G f P) Q.size g.size i.size j.size l.size) ah))).ch af (ne2 c8 (nT (t7 (z12 d F x A m u D q R G f P) Q.size g.size i.size j.size l.size M.size) ab))).kp aj).kp au).kp b9)
  have kz := ((((((((((gz.kp i).kp j).kp l).kp M).kp ad).ch ae (ne2 cC (nT (t6 (z12 d F x A m u D q R G f P) Q.size g.size i.size j.size l.size) ah))).ch af (ne2 cC (nT (t7 (z12 d F x A m u D q R G f P) Q.size g.size i.size j.size l.size M.size) ab))).kp aj).kp au).kp b9)
  have k1 := ((((((((((g0.kp i).kp j).kp l).kp M).kp ad).ch ae (ne2 cE (nT (t6 (z12 d F x A m u D q R G f P) Q.size g.size i.size j.size l.size) ah))).ch af (ne2 cE (nT (t7 (z12 d F x A m u D q R G f P) Q.size g.size i.size j.size l.size M.size) ab))).kp aj).kp au).kp b9)
  have k2 := ((((((((((g1.kp i).kp j).kp l).kp M).kp ad).ch ae (ne2 cG (nT (t6 (z12 d F x A m u D q R G f P) Q.size g.size i.size j.size l.size) ah))).ch af (ne2 cG (nT (t7 (z12 d F x A m u D q R G f P) Q.size g.size i.size j.size l.size M.size) ab))).kp aj).kp au).kp b9)
  have k3 := ((((((((((g2.kp i).kp j).kp l).kp M).kp ad).ch ae (ne2 cI (nT (t6 (z12 d F x A m u D q R G f P) Q.size g.size i.size j.size l.size) ah))).ch af (ne2 cI (nT (t7 (z12 d F x A m u D q R G f P) Q.size g.size i.size j.size l.size M.size) ab))).kp aj).kp au).kp b9)
  have k4 := ((((((((((g3.kp i).kp j).kp l).kp M).kp ad).ch ae (ne2 cK (nT (t6 (z12 d F x A m u D q R G f P) Q.size g.size i.size j.size l.size) ah))).ch af (ne2 cK (nT (t7 (z12 d F x A m u D q R G f P) Q.size g.size i.size j.size l.size M.size) ab))).kp aj).kp au).kp b9)
  have gL := clheldFrame ku _ _ (mkR_37 ky c9 kz cD k1 cF k2 cH k3 cJ k4 cL) (a2) (by omega) (by omega)
  rw [aB] at gL
  refine cl wN gL ?_
  rintro _ mo ⟨k5, rfl⟩
  have k6 := (kl.extk b9).extk k5
  have k7 := laws_heldFrame_mk  ((i_AskRekey (l_toChan a)).2.1) (1 + tot_PChan ((i_AskRekey (l_toChan a)).1)) (a2)
  try rw [aB] at k7
  refine aw (vi (aA)) ?_
  refine n4 ?_
  refine mw (vi (aA)) ?_
  refine pu (vb (decide ((aA) < 0))) wN ?_
  refine n2 ?_
  refine cf a3 ?_
  refine y2 ?_
  refine mw (vi (aA)) ?_
  refine mw (vi ((1 + tot_PChan ((i_AskRekey (l_toChan a)).1)) + tot_PFrame ((i_AskRekey (l_toChan a)).2.1))) ?_
  refine pu (vb (!(decide ((aA) = ((1 + tot_PChan ((i_AskRekey (l_toChan a)).1)) + tot_PFrame ((i_AskRekey (l_toChan a)).2.1)))))) wN ?_
  refine n2 ?_
  refine cf (cA not bg) ?_
  refine y1 ?_
  refine aw (vb true) ?_
  refine n3 ?_
  refine rt (vb true) ?_
  refine ⟨k6.keep0, ?_⟩
  have k8 : l_FnExactAskRekey a = true := by first | (simp only [l_FnExactAskRekey, T, V, L, W, S, X, am, ai, ac, aq, an, aB, a3, bg, cond_true, cond_false, decide_true]; done) | (unfold l_FnExactAskRekey; try rw [T]; try rw [V]; try rw [L]; try rw [W]; try rw [S]; try rw [X]; try rw [am]; try rw [ai]; try rw [ac]; try rw [aq]; try rw [an]; try rw [aB]; try rw [a3]; try rw [bg]; first | done | rfl)
  rw [k8]
  exact rfl
end Go.Proofs.YtkmhmejednjkoaaGreat.K
