import Derived.Test.YtkmhmejednjkoaaGreatCore
import Derived.Test.YtkmhmejednjkoaaGreatProg
import Derived.Test.YtkmhmejednjkoaaGreatHeld
import Derived.Test.YtkmhmejednjkoaaGreatFun
import Derived.Test.YtkmhmejednjkoaaGreatFunZ
import Derived.Test.YtkmhmejednjkoaaGreatSqz
import Derived.Test.YtkmhmejednjkoaaGreatHash
import Derived.Test.YtkmhmejednjkoaaGreatAead
import Derived.Test.YtkmhmejednjkoaaGreatWk1
namespace Go.Proofs.YtkmhmejednjkoaaGreat.K
open Go.RowKit
set_option linter.unusedVariables false
set_option linter.unusedSimpArgs false
set_option maxRecDepth 100000
set_option maxHeartbeats 4000000
theorem csCompress (G : World) (a0 : Value) (j : List Int) (aN : R_23 G a0 j) (a1 : Value) (p : List UInt8) (aO : R_22 G a1 p)  : Fn Tryz.prog 166 #[a0, a1] G (fun v L => Keep G L ∧ O_23 L G.heap.size v (compress j p)) := by
 obtain ⟨B, C, rfl, F, ap⟩ := aN
 obtain ⟨ah, ai, rfl, a2, aP⟩ := aO
 refine fn_ofS (n := 156) [(vs B j.length C), (vs ah p.length ai)] Tryz.func166 rfl rfl ?_
 refine sr ?_
 refine aw (vs none 0 0) ?_
 refine nx ?_
 refine wl_lit0 wN rfl rfl slTy_23 (fun w => by kernel_rfl) ?_
 intro cj ck a3 aQ
 have a4 := (Ch.base G).extk a3
 refine mw (vs B j.length C) ?_
 refine ap0I j wN slTy_23 aQ (F.from0 a4) a3.size ?_
 intro H I a5 aR X cm
 have aq := a4.extk aR
 refine aw (vs H j.length I) ?_
 refine n4 ?_
 refine jT1 [(0, (vs B j.length C)), (1, (vs ah p.length ai)), (4, (vs none 0 0)), (5, (vs H j.length I))] (compress j p = j) ?_ fun a6 => ?_
 ·intro aS a7 a8 cn
  have aT := aq.extk a8
  refine sr ?_
  refine mw (vs H j.length I) ?_
  refine aw (vs H j.length I) ?_
  refine n1 ?_
  have aU := (own_kp X a8)
  refine rt (vs H j.length I) ?_
  refine ⟨aT.keep0, ?_⟩
  rw [aS]
  exact ⟨_, _, rfl, aU, ap, ⟨trivial, trivial⟩⟩
 refine mw (vs B j.length C) ?_
 refine cl wN (csl2Words a5 _ j (mR_23 (F.from0 aq) ap)) ?_
 rintro _ a7 ⟨Y, rfl⟩
 have a9 := aq.extk Y
 refine pu (vb (!(ws8 j))) wN ?_
 refine mw (vb (!(ws8 j))) ?_
 rcases bf (ws8 j) with N | N
 ·iterate 3 refine sk (cA not N) ?_
  refine pk (vb true) wN (cA not N) ?_
  refine n2 ?_
  refine ct (Eq.refl true) ?_
  have aV : compress j p = j := by first | exact compress_f (by first | assumption | exact ‹ws8 j = false›) | exact compress_g (by omega) | exact compress_t (by first | assumption | exact ‹ws8 j = true›) (by omega) (by omega)
  exact wj (a6 aV _ Y)
 have co := ws8_t N
 refine mv (vs ah p.length ai) (wS (cA not N)) ?_
 refine ln (wS (cA not N)) slTy_22 (a2.from0 a9) ?_
 refine pu (vb (!(decide ((p.length : Int) = 64)))) (wS (cA not N)) ?_
 refine pf (vb (!(decide ((p.length : Int) = 64)))) wN (cA not N) ?_
 refine n2 ?_
 rcases bf (decide ((p.length : Int) = 64)) with aa | aa
 ·have cp := dF aa
  refine ct (cA not aa) ?_
  have aW : compress j p = j := by first | exact compress_f (by first | assumption | exact ‹ws8 j = false›) | exact compress_g (by omega) | exact compress_t (by first | assumption | exact ‹ws8 j = true›) (by omega) (by omega)
  exact wj (a6 aW _ Y)
 have cq := dT aa
 refine cf (cA not aa) ?_
 refine y1 ?_
 refine cl wN (csl2K a7 ) ?_
 rintro _ au ⟨aj, ⟨R, S, rfl, ak, _⟩⟩
 have aA := a9.extk aj
 refine aw (vs R (kw).length S) ?_
 refine nx ?_
 refine mw (vs ah p.length ai) ?_
 refine cl wN (csSchedule au _ p (mR_22 (a2.from0 aA) aP)) ?_
 rintro _ aB ⟨O, ⟨T, V, rfl, am, _⟩⟩
 have J := aA.extk O
 have cr := schedP_len p
 refine aw (vs T (schedP p).length V) ?_
 refine wl_nil <| wq_then <| wc_seq ?_
 refine wc_draw ([(36, [], [], (fun _ v _ => v = (vs B j.length C))), (37, [], [0], (fun _ v _ => v = (ve (vs B j.length C) ((0 : Int).toNat * 1)))), (38, [], [0, 1], (fun _ v _ => v = (vi (j.getD 0 0)))), (39, [], [], (fun _ v _ => v = (vs B j.length C))), (40, [], [3], (fun _ v _ => v = (ve (vs B j.length C) ((1 : Int).toNat * 1)))), (41, [], [3, 4], (fun _ v _ => v = (vi (j.getD 1 0)))), (42, [], [], (fun _ v _ => v = (vs B j.length C))), (43, [], [6], (fun _ v _ => v = (ve (vs B j.length C) ((2 : Int).toNat * 1)))), (44, [], [6, 7], (fun _ v _ => v = (vi (j.getD 2 0)))), (45, [], [], (fun _ v _ => v = (vs B j.length C))), (46, [], [9], (fun _ v _ => v = (ve (vs B j.length C) ((3 : Int).toNat * 1)))), (47, [], [9, 10], (fun _ v _ => v = (vi (j.getD 3 0)))), (48, [], [], (fun _ v _ => v = (vs B j.length C))), (49, [], [12], (fun _ v _ => v = (ve (vs B j.length C) ((4 : Int).toNat * 1)))), (50, [], [12, 13], (fun _ v _ => v = (vi (j.getD 4 0)))), (51, [], [], (fun _ v _ => v = (vs B j.length C))), (52, [], [15], (fun _ v _ => v = (ve (vs B j.length C) ((5 : Int).toNat * 1)))), (53, [], [15, 16], (fun _ v _ => v = (vi (j.getD 5 0)))), (54, [], [], (fun _ v _ => v = (vs B j.length C))), (55, [], [18], (fun _ v _ => v = (ve (vs B j.length C) ((6 : Int).toNat * 1)))), (56, [], [18, 19], (fun _ v _ => v = (vi (j.getD 6 0)))), (57, [], [], (fun _ v _ => v = (vs B j.length C))), (58, [], [21], (fun _ v _ => v = (ve (vs B j.length C) ((7 : Int).toNat * 1)))), (59, [], [21, 22], (fun _ v _ => v = (vi (j.getD 7 0)))), (8, [], [0, 1, 2], (fun _ v _ => v = (vi (j.getD 0 0)))), (9, [], [0, 1, 2, 3, 4, 5, 24], (fun _ v _ => v = (vi (j.getD 1 0)))), (10, [], [0, 1, 2, 3, 4, 5, 6, 7, 8, 24, 25], (fun _ v _ => v = (vi (j.getD 2 0)))), (11, [], [0, 1, 2, 3, 4, 5, 6, 7, 8, 9, 10, 11, 24, 25, 26], (fun _ v _ => v = (vi (j.getD 3 0)))), (12, [], [0, 1, 2, 3, 4, 5, 6, 7, 8, 9, 10, 11, 12, 13, 14, 24, 25, 26, 27], (fun _ v _ => v = (vi (j.getD 4 0)))), (13, [], [0, 1, 2, 3, 4, 5, 6, 7, 8, 9, 10, 11, 12, 13, 14, 15, 16, 17, 24, 25, 26, 27, 28], (fun _ v _ => v = (vi (j.getD 5 0)))), (14, [], [0, 1, 2, 3, 4, 5, 6, 7, 8, 9, 10, 11, 12, 13, 14, 15, 16, 17, 18, 19, 20, 24, 25, 26, 27, 28, 29], (fun _ v _ => v = (vi (j.getD 6 0))))] : GV) mixed rfl (by kernel_rfl) (by kernel_rfl) ?_ ?_ ?_
 ·exact ⟨hV, hE, ⟨hV, hE, ⟨hV, hE, ⟨hV, hE, ⟨hV, hE, ⟨hV, hE, ⟨hV, hE, ⟨hV, hE, ⟨hV, hE, ⟨hV, hE, ⟨hV, hE, ⟨hV, hE, ⟨hV, hE, ⟨hV, hE, ⟨hV, hE, ⟨hV, hE, ⟨hV, hE, ⟨hV, hE, ⟨hV, hE, ⟨hV, hE, ⟨hV, hE, ⟨hV, hE, ⟨hV, hE, ⟨hV, hE, ⟨hV, hE, ⟨hV, hE, ⟨hV, hE, ⟨hV, hE, ⟨hV, hE, ⟨hV, hE, ⟨hV, hE, trivial⟩⟩⟩⟩⟩⟩⟩⟩⟩⟩⟩⟩⟩⟩⟩⟩⟩⟩⟩⟩⟩⟩⟩⟩⟩⟩⟩⟩⟩⟩⟩
 ·refine ⟨?_, ⟨?_, ⟨?_, ⟨?_, ⟨?_, ⟨?_, ⟨?_, ⟨?_, ⟨?_, ⟨?_, ⟨?_, ⟨?_, ⟨?_, ⟨?_, ⟨?_, ⟨?_, ⟨?_, ⟨?_, ⟨?_, ⟨?_, ⟨?_, ⟨?_, ⟨?_, ⟨?_, ⟨?_, ⟨?_, ⟨?_, ⟨?_, ⟨?_, ⟨?_, ⟨?_, trivial⟩⟩⟩⟩⟩⟩⟩⟩⟩⟩⟩⟩⟩⟩⟩⟩⟩⟩⟩⟩⟩⟩⟩⟩⟩⟩⟩⟩⟩⟩⟩
  ·intro A cs
   rintro _ _ _ _ _ _ _ _ _ _ _ _ _ _ _ _ _ _ _ _ _ _ _ _ _ _ _ _ _ _ _
   show WL _ _ _ _ _ _ _
   refine mw (vs B j.length C) ?_
   exact f2
  ·intro A aX
   have aY := J.extk aX
   rintro _ rfl _ _ _ _ _ _ _ _ _ _ _ _ _ _ _ _ _ _ _ _ _ _ _ _ _ _ _ _ _ _
   show WL _ _ _ _ _ _ _
   refine ix wN 0 slTy_23 (F.from0 aY) ?_
   exact f2
  ·intro A aZ
   have ba := J.extk aZ
   rintro _ rfl _ rfl _ _ _ _ _ _ _ _ _ _ _ _ _ _ _ _ _ _ _ _ _ _ _ _ _ _ _ _ _
   show WL _ _ _ _ _ _ _
   refine ei (x := j) 0 wN isAgg_3 (F.from0 ba) ?_
   exact f2
  ·intro A cu
   rintro _ _ _ _ _ _ _ _ _ _ _ _ _ _ _ _ _ _ _ _ _ _ _ _ _ _ _ _ _ _ _
   show WL _ _ _ _ _ _ _
   refine mw (vs B j.length C) ?_
   exact f2
  ·intro A bb
   have bc := J.extk bb
   rintro _ _ _ _ rfl _ _ _ _ _ _ _ _ _ _ _ _ _ _ _ _ _ _ _ _ _ _ _ _ _ _ _
   show WL _ _ _ _ _ _ _
   refine ix wN 1 slTy_23 (F.from0 bc) ?_
   exact f2
  ·intro A bd
   have be := J.extk bd
   rintro _ _ _ _ rfl _ rfl _ _ _ _ _ _ _ _ _ _ _ _ _ _ _ _ _ _ _ _ _ _ _ _ _ _
   show WL _ _ _ _ _ _ _
   refine ei (x := j) 1 wN isAgg_3 (F.from0 be) ?_
   exact f2
  ·intro A cv
   rintro _ _ _ _ _ _ _ _ _ _ _ _ _ _ _ _ _ _ _ _ _ _ _ _ _ _ _ _ _ _ _
   show WL _ _ _ _ _ _ _
   refine mw (vs B j.length C) ?_
   exact f2
  ·intro A bg
   have bh := J.extk bg
   rintro _ _ _ _ _ _ _ rfl _ _ _ _ _ _ _ _ _ _ _ _ _ _ _ _ _ _ _ _ _ _ _ _
   show WL _ _ _ _ _ _ _
   refine ix wN 2 slTy_23 (F.from0 bh) ?_
   exact f2
  ·intro A bi
   have bj := J.extk bi
   rintro _ _ _ _ _ _ _ rfl _ rfl _ _ _ _ _ _ _ _ _ _ _ _ _ _ _ _ _ _ _ _ _ _ _
   show WL _ _ _ _ _ _ _
   refine ei (x := j) 2 wN isAgg_3 (F.from0 bj) ?_
   exact f2
  ·intro A cw
   rintro _ _ _ _ _ _ _ _ _ _ _ _ _ _ _ _ _ _ _ _ _ _ _ _ _ _ _ _ _ _ _
   show WL _ _ _ _ _ _ _
   refine mw (vs B j.length C) ?_
   exact f2
  ·intro A bk
   have bl := J.extk bk
   rintro _ _ _ _ _ _ _ _ _ _ rfl _ _ _ _ _ _ _ _ _ _ _ _ _ _ _ _ _ _ _ _ _
   show WL _ _ _ _ _ _ _
   refine ix wN 3 slTy_23 (F.from0 bl) ?_
   exact f2
  ·intro A bm
   have bn := J.extk bm
   rintro _ _ _ _ _ _ _ _ _ _ rfl _ rfl _ _ _ _ _ _ _ _ _ _ _ _ _ _ _ _ _ _ _ _
   show WL _ _ _ _ _ _ _
   refine ei (x := j) 3 wN isAgg_3 (F.from0 bn) ?_
   exact f2
  ·intro A cx
   rintro _ _ _ _ _ _ _ _ _ _ _ _ _ _ _ _ _ _ _ _ _ _ _ _ _ _ _ _ _ _ _
   show WL _ _ _ _ _ _ _
   refine mw (vs B j.length C) ?_
   exact f2
  ·intro A bo
   have bp := J.extk bo
   rintro _ _ _ _ _ _ _ _ _ _ _ _ _ rfl _ _ _ _ _ _ _ _ _ _ _ _ _ _ _ _ _ _
   show WL _ _ _ _ _ _ _
   refine ix wN 4 slTy_23 (F.from0 bp) ?_
   exact f2
  ·intro A bq
   have br := J.extk bq
   rintro _ _ _ _ _ _ _ _ _ _ _ _ _ rfl _ rfl _ _ _ _ _ _ _ _ _ _ _ _ _ _ _ _ _
   show WL _ _ _ _ _ _ _
   refine ei (x := j) 4 wN isAgg_3 (F.from0 br) ?_
   exact f2
  ·intro A cy
   rintro _ _ _ _ _ _ _ _ _ _ _ _ _ _ _ _ _ _ _ _ _ _ _ _ _ _ _ _ _ _ _
   show WL _ _ _ _ _ _ _
   refine mw (vs B j.length C) ?_
   exact f2
  ·intro A bu
   have bv := J.extk bu
   rintro _ _ _ _ _ _ _ _ _ _ _ _ _ _ _ _ rfl _ _ _ _ _ _ _ _ _ _ _ _ _ _ _
   show WL _ _ _ _ _ _ _
   refine ix wN 5 slTy_23 (F.from0 bv) ?_
   exact f2
  ·intro A bw
   have bz := J.extk bw
   rintro _ _ _ _ _ _ _ _ _ _ _ _ _ _ _ _ rfl _ rfl _ _ _ _ _ _ _ _ _ _ _ _ _ _
   show WL _ _ _ _ _ _ _
   refine ei (x := j) 5 wN isAgg_3 (F.from0 bz) ?_
   exact f2
  ·intro A cz
   rintro _ _ _ _ _ _ _ _ _ _ _ _ _ _ _ _ _ _ _ _ _ _ _ _ _ _ _ _ _ _ _
   show WL _ _ _ _ _ _ _
   refine mw (vs B j.length C) ?_
   exact f2
  ·intro A b0
   have b1 := J.extk b0
   rintro _ _ _ _ _ _ _ _ _ _ _ _ _ _ _ _ _ _ _ rfl _ _ _ _ _ _ _ _ _ _ _ _
   show WL _ _ _ _ _ _ _
   refine ix wN 6 slTy_23 (F.from0 b1) ?_
   exact f2
  ·intro A b2
   have b3 := J.extk b2
   rintro _ _ _ _ _ _ _ _ _ _ _ _ _ _ _ _ _ _ _ rfl _ rfl _ _ _ _ _ _ _ _ _ _ _
   show WL _ _ _ _ _ _ _
   refine ei (x := j) 6 wN isAgg_3 (F.from0 b3) ?_
   exact f2
  ·intro A c0
   rintro _ _ _ _ _ _ _ _ _ _ _ _ _ _ _ _ _ _ _ _ _ _ _ _ _ _ _ _ _ _ _
   show WL _ _ _ _ _ _ _
   refine mw (vs B j.length C) ?_
   exact f2
  ·intro A b4
   have b5 := J.extk b4
   rintro _ _ _ _ _ _ _ _ _ _ _ _ _ _ _ _ _ _ _ _ _ _ rfl _ _ _ _ _ _ _ _ _
   show WL _ _ _ _ _ _ _
   refine ix wN 7 slTy_23 (F.from0 b5) ?_
   exact f2
  ·intro A b6
   have b7 := J.extk b6
   rintro _ _ _ _ _ _ _ _ _ _ _ _ _ _ _ _ _ _ _ _ _ _ rfl _ rfl _ _ _ _ _ _ _ _
   show WL _ _ _ _ _ _ _
   refine ei (x := j) 7 wN isAgg_3 (F.from0 b7) ?_
   exact f2
  ·intro A c1
   rintro _ rfl _ rfl _ rfl _ _ _ _ _ _ _ _ _ _ _ _ _ _ _ _ _ _ _ _ _ _ _ _ _ _ _ _
   show WL _ _ _ _ _ _ _
   refine aw (vi (j.getD 0 0)) ?_
   exact f2
  ·intro A c2
   rintro _ rfl _ rfl _ rfl _ rfl _ rfl _ rfl _ _ _ _ _ _ _ _ _ _ _ _ _ _ _ _ _ _ _ rfl _ _ _ _ _ _
   show WL _ _ _ _ _ _ _
   refine aw (vi (j.getD 1 0)) ?_
   exact f2
  ·intro A c3
   rintro _ rfl _ rfl _ rfl _ rfl _ rfl _ rfl _ rfl _ rfl _ rfl _ _ _ _ _ _ _ _ _ _ _ _ _ _ _ _ rfl _ rfl _ _ _ _ _
   show WL _ _ _ _ _ _ _
   refine aw (vi (j.getD 2 0)) ?_
   exact f2
  ·intro A c4
   rintro _ rfl _ rfl _ rfl _ rfl _ rfl _ rfl _ rfl _ rfl _ rfl _ rfl _ rfl _ rfl _ _ _ _ _ _ _ _ _ _ _ _ _ rfl _ rfl _ rfl _ _ _ _
   show WL _ _ _ _ _ _ _
   refine aw (vi (j.getD 3 0)) ?_
   exact f2
  ·intro A c5
   rintro _ rfl _ rfl _ rfl _ rfl _ rfl _ rfl _ rfl _ rfl _ rfl _ rfl _ rfl _ rfl _ rfl _ rfl _ rfl _ _ _ _ _ _ _ _ _ _ rfl _ rfl _ rfl _ rfl _ _ _
   show WL _ _ _ _ _ _ _
   refine aw (vi (j.getD 4 0)) ?_
   exact f2
  ·intro A c6
   rintro _ rfl _ rfl _ rfl _ rfl _ rfl _ rfl _ rfl _ rfl _ rfl _ rfl _ rfl _ rfl _ rfl _ rfl _ rfl _ rfl _ rfl _ rfl _ _ _ _ _ _ _ rfl _ rfl _ rfl _ rfl _ rfl _ _
   show WL _ _ _ _ _ _ _
   refine aw (vi (j.getD 5 0)) ?_
   exact f2
  ·intro A c7
   rintro _ rfl _ rfl _ rfl _ rfl _ rfl _ rfl _ rfl _ rfl _ rfl _ rfl _ rfl _ rfl _ rfl _ rfl _ rfl _ rfl _ rfl _ rfl _ rfl _ rfl _ rfl _ _ _ _ rfl _ rfl _ rfl _ rfl _ rfl _ rfl _
   show WL _ _ _ _ _ _ _
   refine aw (vi (j.getD 6 0)) ?_
   exact f2
 ·intro A M
  have b8 := J.extk M
  rintro _ rfl _ rfl _ rfl _ rfl _ rfl _ rfl _ rfl _ rfl _ rfl _ rfl _ rfl _ rfl _ rfl _ rfl _ rfl _ rfl _ rfl _ rfl _ rfl _ rfl _ rfl _ rfl _ rfl _ rfl _ rfl _ rfl _ rfl _ rfl _ rfl _ rfl _ rfl
  show WL _ _ _ _ _ _ _
  refine aw (vi (j.getD 7 0)) ?_
  refine n4 ?_
  refine aw (vi 0) ?_
  refine wl_nil <| wq_then <| wc_block ?_
  refine wc_loopP [(0, (vs B j.length C)), (4, (vs none 0 0)), (5, (vs H j.length I)), (6, (vs R (kw).length S)), (7, (vs T (schedP p).length V)), (8, (vi ((cmpN (schedP p) (s8of j) 0).a))), (9, (vi ((cmpN (schedP p) (s8of j) 0).b))), (10, (vi ((cmpN (schedP p) (s8of j) 0).c))), (11, (vi ((cmpN (schedP p) (s8of j) 0).d))), (12, (vi ((cmpN (schedP p) (s8of j) 0).e))), (13, (vi ((cmpN (schedP p) (s8of j) 0).f))), (14, (vi ((cmpN (schedP p) (s8of j) 0).g))), (15, (vi ((cmpN (schedP p) (s8of j) 0).z))), (16, (vi ((0 : Nat) : Int)))] ⟨rfl, rfl, rfl, rfl, rfl, (cA (Value.int .i64) (show ((j.getD 0 0) : Int) = (cmpN (schedP p) (s8of j) 0).a by rfl)), (cA (Value.int .i64) (show ((j.getD 1 0) : Int) = (cmpN (schedP p) (s8of j) 0).b by rfl)), (cA (Value.int .i64) (show ((j.getD 2 0) : Int) = (cmpN (schedP p) (s8of j) 0).c by rfl)), (cA (Value.int .i64) (show ((j.getD 3 0) : Int) = (cmpN (schedP p) (s8of j) 0).d by rfl)), (cA (Value.int .i64) (show ((j.getD 4 0) : Int) = (cmpN (schedP p) (s8of j) 0).e by rfl)), (cA (Value.int .i64) (show ((j.getD 5 0) : Int) = (cmpN (schedP p) (s8of j) 0).f by rfl)), (cA (Value.int .i64) (show ((j.getD 6 0) : Int) = (cmpN (schedP p) (s8of j) 0).g by rfl)), (cA (Value.int .i64) (show ((j.getD 7 0) : Int) = (cmpN (schedP p) (s8of j) 0).z by rfl)), (cA (Value.int .i64) (show (0 : Int) = ((0 : Nat) : Int) by omega)), trivial⟩ (fun e' L => ∃ (k : Nat) (o : Int) (s : Int) (t : Int) (D : Int) (i : Int) (q : Int) (r : Int) (y : Int) (aC : Env), e' = pt aC [(0, (vs B j.length C)), (4, (vs none 0 0)), (5, (vs H j.length I)), (6, (vs R (kw).length S)), (7, (vs T (schedP p).length V)), (8, (vi o)), (9, (vi s)), (10, (vi t)), (11, (vi D)), (12, (vi i)), (13, (vi q)), (14, (vi r)), (15, (vi y)), (16, (vi ((k : Nat) : Int)))] ∧ Ch (fun k => G.heap.size ≤ k) G L ∧ Ch (fun k => A.heap.size ≤ k) A L ∧ k ≤ 64 ∧ o = (cmpN (schedP p) (s8of j) k).a ∧ s = (cmpN (schedP p) (s8of j) k).b ∧ t = (cmpN (schedP p) (s8of j) k).c ∧ D = (cmpN (schedP p) (s8of j) k).d ∧ i = (cmpN (schedP p) (s8of j) k).e ∧ q = (cmpN (schedP p) (s8of j) k).f ∧ r = (cmpN (schedP p) (s8of j) k).g ∧ y = (cmpN (schedP p) (s8of j) k).z) (fun e' _ => (64 - (intOf (e' 16))).toNat) ?_ ?_
  ·exact fun u => ⟨0, (cmpN (schedP p) (s8of j) 0).a, (cmpN (schedP p) (s8of j) 0).b, (cmpN (schedP p) (s8of j) 0).c, (cmpN (schedP p) (s8of j) 0).d, (cmpN (schedP p) (s8of j) 0).e, (cmpN (schedP p) (s8of j) 0).f, (cmpN (schedP p) (s8of j) 0).g, (cmpN (schedP p) (s8of j) 0).z, u, rfl, b8, (Ch.refl (fun k => A.heap.size ≤ k) A), (by omega), (by first | rfl | assumption), (by first | rfl | assumption), (by first | rfl | assumption), (by first | rfl | assumption), (by first | rfl | assumption), (by first | rfl | assumption), (by first | rfl | assumption), (by first | rfl | assumption)⟩
  ·rintro _ av ⟨k, o, s, t, D, i, q, r, y, aC, rfl, aD, W, c8, hi_a, hi_b, hi_c, hi_d, hi_e, hi_f, hi_g, hi_z⟩
   obtain ⟨zw, hzw⟩ : ∃ z, (schedP p).getD k 0 = z := ⟨_, rfl⟩
   have hwd : 0 ≤ zw ∧ zw < 4294967296 := hzw ▸ wget (schedP_w p) k
   obtain ⟨zk, hzk⟩ : ∃ z, kw.getD k 0 = z := ⟨_, rfl⟩
   have hkw : 0 ≤ zk ∧ zk < 4294967296 := hzk ▸ wget kw_w k
   have hkl : kw.length = 64 := rfl
   have hok := cmpN_ok (w := schedP p) (s8of_ok (areW_t (by first | assumption | exact ‹ws8 j = true›)).1) k
   unfold S8.ok at hok
   rw [← hi_a, ← hi_b, ← hi_c, ← hi_d, ← hi_e, ← hi_f, ← hi_g, ← hi_z] at hok
   refine wc_seq <| sr ?_
   refine mw (vi ((k : Nat) : Int)) ?_
   refine pu (vb (decide (((k : Nat) : Int) < 64))) wN ?_
   refine n2 ?_
   rcases bf (decide (((k : Nat) : Int) < 64)) with ab | ab
   ·have c9 := dF ab
    refine cf ab ?_
    refine wc_exit <| wq_then_exit ?_
    obtain rfl : k = 64 := by omega
    refine wq_then_exit <| wq_blk_exit <| wq_then <| sr ?_
    refine mw (vi o) ?_
    refine mw (vi s) ?_
    refine mw (vi t) ?_
    refine mw (vi D) ?_
    refine mw (vi i) ?_
    refine mw (vi q) ?_
    refine mw (vi r) ?_
    refine mw (vi y) ?_
    refine ltI ([o, s, t, D, i, q, r, y] : List Int) wN slTy_23 ?_
    intro P Q E aE aF
    have b9 := aD.extk aE
    refine aw (vs P ([o, s, t, D, i, q, r, y] : List Int).length Q) ?_
    refine n4 ?_
    refine aw (vi 0) ?_
    refine wl_nil <| wq_then <| wc_block ?_
    have bA := (own_kp (own_ch (own_kp (own_kp (own_kp (own_kp X Y) aj) O) M) W (fun g hg hlt hk => by have ac := (own_lt X g hg).2; have ad : a5.heap.size ≤ A.heap.size := (z4 Y aj O M); have ae : A.heap.size ≤ g := hk; omega)) aE)
    have bB : (j : List Int) = (addL j (S8.list (cmpN (schedP p) (s8of j) 64))).take 0 ++ j.drop 0 := by first | rfl | simp
    have bC : (([o, s, t, D, i, q, r, y] : List Int) : List Int) = ([o, s, t, D, i, q, r, y] : List Int) := by first | rfl | simp
    refine wc_loopP [(0, (vs B j.length C)), (4, (vs none 0 0)), (5, (vs H j.length I)), (19, (vs P ([o, s, t, D, i, q, r, y] : List Int).length Q)), (20, (vi ((0 : Nat) : Int)))] ⟨rfl, rfl, rfl, rfl, (cA (Value.int .i64) (show (0 : Int) = ((0 : Nat) : Int) by omega)), trivial⟩ (fun e' L => ∃ (m : Nat) (aG : Env), e' = pt aG [(0, (vs B j.length C)), (4, (vs none 0 0)), (5, (vs H j.length I)), (19, (vs P ([o, s, t, D, i, q, r, y] : List Int).length Q)), (20, (vi ((m : Nat) : Int)))] ∧ Ch (fun k => G.heap.size ≤ k) G L ∧ Ch (fun k => G.heap.size ≤ k) E L ∧ m ≤ 8 ∧ World.ownsRow L G.heap.size 3 1 (.slice H j.length I) j.length (((addL j (S8.list (cmpN (schedP p) (s8of j) 64))).take m ++ j.drop m).map iV) ∧ World.ownsRow L av.heap.size 3 1 (.slice P ([o, s, t, D, i, q, r, y] : List Int).length Q) ([o, s, t, D, i, q, r, y] : List Int).length ((([o, s, t, D, i, q, r, y] : List Int)).map iV)) (fun e' _ => (8 - (intOf (e' 20))).toNat) ?_ ?_
    ·exact fun u => ⟨0, u, rfl, b9, (Ch.refl (fun k => G.heap.size ≤ k) E), (by omega), (by rw [← bB]; exact bA), (by rw [← bC]; exact aF)⟩
    ·rintro _ Z ⟨m, aG, rfl, an, bD, cC, ax, ay⟩
     have hlL : ([o, s, t, D, i, q, r, y] : List Int).length = 8 := rfl
     have hll : (addL j (S8.list (cmpN (schedP p) (s8of j) 64))).length = 8 := addL_len (by omega) rfl
     have cD : (j.length : Int) = 8 := (areW_t (by first | assumption | exact ‹ws8 j = true›)).2
     have cE := wget (areW_t (by first | assumption | exact ‹ws8 j = true›)).1 m
     have hle : ([o, s, t, D, i, q, r, y] : List Int) = (S8.list (cmpN (schedP p) (s8of j) 64)) := by rw [hi_a, hi_b, hi_c, hi_d, hi_e, hi_f, hi_g, hi_z]; rfl
     have cF : 0 ≤ ([o, s, t, D, i, q, r, y] : List Int).getD m 0 ∧ ([o, s, t, D, i, q, r, y] : List Int).getD m 0 < 4294967296 := hle ▸ wget (s8l_w (cmpN_ok (w := schedP p) (s8of_ok (areW_t (by first | assumption | exact ‹ws8 j = true›)).1) 64)) m
     refine wc_seq <| sr ?_
     refine mw (vi ((m : Nat) : Int)) ?_
     refine pu (vb (decide (((m : Nat) : Int) < 8))) wN ?_
     refine n2 ?_
     rcases bf (decide (((m : Nat) : Int) < 8)) with af | af
     ·have cG := dF af
      refine cf af ?_
      refine wc_exit <| wq_then_exit <| wq_then_exit <| wq_blk_exit <| wq_then <| sr ?_
      refine mw (vs H j.length I) ?_
      refine aw (vs H j.length I) ?_
      refine n3 ?_
      refine rt (vs H j.length I) ?_
      refine ⟨an.keep0, ?_⟩
      have bE : compress j p = ((addL j (S8.list (cmpN (schedP p) (s8of j) 64))).take m ++ j.drop m) := by first | exact compress_f (by first | assumption | exact ‹ws8 j = false›) | exact compress_g (by omega) | exact compress_t (by first | assumption | exact ‹ws8 j = true›) (by omega) (by omega)
      rw [bE]
      have aH : j.length = (((addL j (S8.list (cmpN (schedP p) (s8of j) 64))).take m ++ j.drop m)).length := by simp only [List.length_append, List.length_take, List.length_drop]; omega
      rw [aH] at ax ⊢
      exact ⟨_, _, rfl, ax, (by rw [← aH]; exact ap), ⟨trivial, trivial⟩⟩
     have cH := dT af
     refine ct af ?_
     refine wc_skip <| wq_then <| wc_seq <| wc_block ?_
     refine wc_draw ([(142, [], [], (fun _ v _ => v = (vs H j.length I))), (143, [], [], (fun _ v _ => v = (vi ((m : Nat) : Int)))), (144, [], [], (fun _ v _ => v = (vs B j.length C))), (145, [], [], (fun _ v _ => v = (vi ((m : Nat) : Int)))), (146, [], [2, 3], (fun _ v _ => v = (ve (vs B j.length C) ((((m : Nat) : Int)).toNat * 1)))), (147, [], [2, 3, 4], (fun _ v _ => v = (vi (j.getD m 0)))), (148, [], [], (fun _ v _ => v = (vs P ([o, s, t, D, i, q, r, y] : List Int).length Q))), (149, [], [], (fun _ v _ => v = (vi ((m : Nat) : Int)))), (150, [], [6, 7], (fun _ v _ => v = (ve (vs P ([o, s, t, D, i, q, r, y] : List Int).length Q) ((((m : Nat) : Int)).toNat * 1)))), (151, [], [6, 7, 8], (fun _ v _ => v = (vi ((([o, s, t, D, i, q, r, y] : List Int)).getD m 0)))), (152, [], [2, 3, 4, 5, 6, 7, 8, 9], (fun _ v _ => v = (vi ((j.getD m 0) + ((([o, s, t, D, i, q, r, y] : List Int)).getD m 0))))), (153, [], [2, 3, 4, 5, 6, 7, 8, 9, 10], (fun _ v _ => v = (vi (((j.getD m 0) + ((([o, s, t, D, i, q, r, y] : List Int)).getD m 0)) % 4294967296))))] : GV) mixed rfl (by kernel_rfl) (by kernel_rfl) ?_ ?_ ?_
     ·exact ⟨hV, hE, ⟨hV, hE, ⟨hV, hE, ⟨hV, hE, ⟨hV, hE, ⟨hV, hE, ⟨hV, hE, ⟨hV, hE, ⟨hV, hE, ⟨hV, hE, ⟨hV, hE, ⟨hV, hE, trivial⟩⟩⟩⟩⟩⟩⟩⟩⟩⟩⟩⟩
     ·refine ⟨?_, ⟨?_, ⟨?_, ⟨?_, ⟨?_, ⟨?_, ⟨?_, ⟨?_, ⟨?_, ⟨?_, ⟨?_, ⟨?_, trivial⟩⟩⟩⟩⟩⟩⟩⟩⟩⟩⟩⟩
      ·intro K cI
       rintro _ _ _ _ _ _ _ _ _ _ _ _
       show WL _ _ _ _ _ _ _
       refine mw (vs H j.length I) ?_
       exact f2
      ·intro K cJ
       rintro _ _ _ _ _ _ _ _ _ _ _ _
       show WL _ _ _ _ _ _ _
       refine mw (vi ((m : Nat) : Int)) ?_
       exact f2
      ·intro K cK
       rintro _ _ _ _ _ _ _ _ _ _ _ _
       show WL _ _ _ _ _ _ _
       refine mw (vs B j.length C) ?_
       exact f2
      ·intro K cL
       rintro _ _ _ _ _ _ _ _ _ _ _ _
       show WL _ _ _ _ _ _ _
       refine mw (vi ((m : Nat) : Int)) ?_
       exact f2
      ·intro K bF
       have bG := an.extk bF
       rintro _ _ _ rfl _ rfl _ _ _ _ _ _ _ _
       show WL _ _ _ _ _ _ _
       refine ix wN ((m : Nat) : Int) slTy_23 (F.from0 bG) ?_
       exact f2
      ·intro K bH
       have bI := an.extk bH
       rintro _ _ _ rfl _ rfl _ rfl _ _ _ _ _ _ _
       show WL _ _ _ _ _ _ _
       refine ei (x := j) m wN isAgg_3 (F.from0 bI) ?_
       exact f2
      ·intro K cM
       rintro _ _ _ _ _ _ _ _ _ _ _ _
       show WL _ _ _ _ _ _ _
       refine mw (vs P ([o, s, t, D, i, q, r, y] : List Int).length Q) ?_
       exact f2
      ·intro K cN
       rintro _ _ _ _ _ _ _ _ _ _ _ _
       show WL _ _ _ _ _ _ _
       refine mw (vi ((m : Nat) : Int)) ?_
       exact f2
      ·intro K bJ
       rintro _ _ _ _ _ _ _ rfl _ rfl _ _ _ _
       show WL _ _ _ _ _ _ _
       have bK := (own_kp ay bJ)
       refine ix wN ((m : Nat) : Int) slTy_23 (Rd.of_own bK) ?_
       exact f2
      ·intro K bL
       rintro _ _ _ _ _ _ _ rfl _ rfl _ rfl _ _ _
       show WL _ _ _ _ _ _ _
       have bM := (own_kp ay bL)
       refine ei (x := (([o, s, t, D, i, q, r, y] : List Int))) m wN isAgg_3 (Rd.of_own bM) ?_
       exact f2
      ·intro K cO
       rintro _ _ _ rfl _ rfl _ rfl _ rfl _ rfl _ rfl _ rfl _ rfl _ _
       show WL _ _ _ _ _ _ _
       refine ar ((j.getD m 0) + ((([o, s, t, D, i, q, r, y] : List Int)).getD m 0)) wN ?_
       exact f2
      ·intro K cP
       rintro _ _ _ rfl _ rfl _ rfl _ rfl _ rfl _ rfl _ rfl _ rfl _ rfl _
       show WL _ _ _ _ _ _ _
       refine wl_and ((j.getD m 0) + ((([o, s, t, D, i, q, r, y] : List Int)).getD m 0)) 4294967295 4294967296 32 wN rfl rfl (by decide) (by decide) (by decide) (by kernel_rfl) ?_
       exact f2
     ·intro K ao
      rintro _ rfl _ rfl _ rfl _ rfl _ rfl _ rfl _ rfl _ rfl _ rfl _ rfl _ rfl _ rfl
      show WL _ _ _ _ _ _ _
      have aI := (own_kp ax ao)
      refine ix wN ((m : Nat) : Int) slTy_23 (Rd.of_own aI) ?_
      refine wl_storeI ((addL j (S8.list (cmpN (schedP p) (s8of j) 64))).take m ++ j.drop m) (m) ((((j.getD m 0) + ((([o, s, t, D, i, q, r, y] : List Int)).getD m 0)) % 4294967296)) wN rfl rfl rfl (by simp) rfl sizeOf_3 aI (by first | omega | (simp only [List.length_append, List.length_take, List.length_drop]; omega)) ?_
      intro bN az bO
      have bP := (an.extk ao).ext az (fun k hk => nT (Nat.le_refl G.heap.size) (own_lt X k hk).1)
      refine wl_nil <| wq_blk_normal <| wq_then <| wc_region ?_
      refine mw (vi ((m : Nat) : Int)) ?_
      refine ar (((m : Nat) : Int) + 1) wN ?_
      refine aw (vi (((m : Nat) : Int) + 1)) ?_
      refine wl_nil ?_
      have bQ : ((((addL j (S8.list (cmpN (schedP p) (s8of j) 64))).take m ++ j.drop m).set m (((j.getD m 0) + ((([o, s, t, D, i, q, r, y] : List Int)).getD m 0)) % 4294967296)) : List Int) = (addL j (S8.list (cmpN (schedP p) (s8of j) 64))).take (m + 1) ++ j.drop (m + 1) := by first | rfl | (rw [hle]; exact addL_next (l := (S8.list (cmpN (schedP p) (s8of j) 64))) (by omega) (by show j.length = 8; omega))
      have bR := (own_ch (own_kp ay ao) az (fun g hg hlt hk => by have ac := (own_lt aF g hg).1; have ad := (own_lt X g hk).2; have ae := (z5 Y aj O M W); omega))
      have bS : ((([o, s, t, D, i, q, r, y] : List Int)) : List Int) = ([o, s, t, D, i, q, r, y] : List Int) := by first | rfl | (rw [hle]; exact addL_next (l := (S8.list (cmpN (schedP p) (s8of j) 64))) (by omega) (by show j.length = 8; omega))
      refine wq_loopP (w0 := Z) [(0, (vs B j.length C)), (4, (vs none 0 0)), (5, (vs H j.length I)), (19, (vs P ([o, s, t, D, i, q, r, y] : List Int).length Q)), (20, (vi (((m + 1) : Nat) : Int)))] ?_ ?_ ?_
      · exact ⟨rfl, rfl, rfl, rfl, (cA (Value.int .i64) (show ((((m : Nat) : Int) + 1) : Int) = (((m + 1) : Nat) : Int) by omega)), trivial⟩
      · exact fun u => ⟨(m + 1), u, rfl, bP, ((((Ch.refl (fun k => G.heap.size ≤ k) E).ext bD (fun k hk => hk)).extk ao).ext az (fun k hk => nT (Nat.le_refl G.heap.size) (own_lt X k hk).1)), (by omega), (by rw [← bQ]; exact bO), (by rw [← bS]; exact bR)⟩
      · show (8 - (((m + 1) : Nat) : Int)).toNat < (8 - ((m : Nat) : Int)).toNat; omega
   have cQ := dT ab
   refine ct ab ?_
   refine wc_skip <| wq_then <| wc_seq <| wc_block <| wc_seq ?_
   refine wc_drawT ([(64, [], [], (fun _ v _ => v = (vi y))), (65, [], [], (fun _ v _ => v = (vi i))), (66, [], [1], (fun _ v w => v = .int .i64 (rot i 6))), (67, [], [], (fun _ v _ => v = (vi i))), (68, [], [1, 2, 3], (fun _ v w => v = .int .i64 (rot i 11))), (69, [], [1, 2, 3, 4], (fun _ v _ => v = (vi (xorI (rot i 6) (rot i 11))))), (70, [], [], (fun _ v _ => v = (vi i))), (71, [], [1, 2, 3, 4, 6], (fun _ v w => v = .int .i64 (rot i 25))), (72, [], [1, 2, 3, 4, 5, 6, 7], (fun _ v _ => v = (vi (xorI (xorI (rot i 6) (rot i 11)) (rot i 25))))), (73, [], [0, 1, 2, 3, 4, 5, 6, 7, 8], (fun _ v _ => v = (vi (y + (xorI (xorI (rot i 6) (rot i 11)) (rot i 25)))))), (74, [], [], (fun _ v _ => v = (vi i))), (75, [], [], (fun _ v _ => v = (vi q))), (76, [], [10, 11], (fun _ v _ => v = (vi (andI i q)))), (77, [], [], (fun _ v _ => v = (vi i))), (78, [], [13], (fun _ v _ => v = (vi (xorI i 4294967295)))), (79, [], [], (fun _ v _ => v = (vi r))), (80, [], [13, 14, 15], (fun _ v _ => v = (vi (andI (xorI i 4294967295) r)))), (81, [], [10, 11, 12, 13, 14, 15, 16], (fun _ v _ => v = (vi (xorI (andI i q) (andI (xorI i 4294967295) r))))), (82, [], [0, 1, 2, 3, 4, 5, 6, 7, 8, 9, 10, 11, 12, 13, 14, 15, 16, 17], (fun _ v _ => v = (vi ((y + (xorI (xorI (rot i 6) (rot i 11)) (rot i 25))) + (xorI (andI i q) (andI (xorI i 4294967295) r)))))), (83, [], [], (fun _ v _ => v = (vs R (kw).length S))), (84, [], [], (fun _ v _ => v = (vi ((k : Nat) : Int)))), (85, [], [19, 20], (fun _ v _ => v = (ve (vs R (kw).length S) ((((k : Nat) : Int)).toNat * 1)))), (86, [], [19, 20, 21], (fun _ v _ => v = (vi zk))), (87, [], [0, 1, 2, 3, 4, 5, 6, 7, 8, 9, 10, 11, 12, 13, 14, 15, 16, 17, 18, 19, 20, 21, 22], (fun _ v _ => v = (vi (((y + (xorI (xorI (rot i 6) (rot i 11)) (rot i 25))) + (xorI (andI i q) (andI (xorI i 4294967295) r))) + zk)))), (88, [], [], (fun _ v _ => v = (vs T (schedP p).length V))), (89, [], [], (fun _ v _ => v = (vi ((k : Nat) : Int)))), (90, [], [24, 25], (fun _ v _ => v = (ve (vs T (schedP p).length V) ((((k : Nat) : Int)).toNat * 1)))), (91, [], [24, 25, 26], (fun _ v _ => v = (vi zw)))] : GV) (fun _ L => Keep av L) [] mixed rfl (by kernel_rfl) (by kernel_rfl) ?_ (fun _ _ h => h) (fun _ _ _ _ h _ k => h.trans k) trivial ?_ ?_ ?_
   ·exact ⟨hV, hE, ⟨hV, hE, ⟨hV, hE, ⟨hV, hE, ⟨hV, hE, ⟨hV, hE, ⟨hV, hE, ⟨hV, hE, ⟨hV, hE, ⟨hV, hE, ⟨hV, hE, ⟨hV, hE, ⟨hV, hE, ⟨hV, hE, ⟨hV, hE, ⟨hV, hE, ⟨hV, hE, ⟨hV, hE, ⟨hV, hE, ⟨hV, hE, ⟨hV, hE, ⟨hV, hE, ⟨hV, hE, ⟨hV, hE, ⟨hV, hE, ⟨hV, hE, ⟨hV, hE, ⟨hV, hE, trivial⟩⟩⟩⟩⟩⟩⟩⟩⟩⟩⟩⟩⟩⟩⟩⟩⟩⟩⟩⟩⟩⟩⟩⟩⟩⟩⟩⟩
   ·exact trivial
   ·refine ⟨?_, ⟨?_, ⟨?_, ⟨?_, ⟨?_, ⟨?_, ⟨?_, ⟨?_, ⟨?_, ⟨?_, ⟨?_, ⟨?_, ⟨?_, ⟨?_, ⟨?_, ⟨?_, ⟨?_, ⟨?_, ⟨?_, ⟨?_, ⟨?_, ⟨?_, ⟨?_, ⟨?_, ⟨?_, ⟨?_, ⟨?_, ⟨?_, trivial⟩⟩⟩⟩⟩⟩⟩⟩⟩⟩⟩⟩⟩⟩⟩⟩⟩⟩⟩⟩⟩⟩⟩⟩⟩⟩⟩⟩
    ·intro _ E cR _
     rintro _ _ _ _ _ _ _ _ _ _ _ _ _ _ _ _ _ _ _ _ _ _ _ _ _ _ _ _
     show WL _ _ _ _ _ _ _
     refine mw (vi y) ?_
     exact f1
    ·intro _ E cS _
     rintro _ _ _ _ _ _ _ _ _ _ _ _ _ _ _ _ _ _ _ _ _ _ _ _ _ _ _ _
     show WL _ _ _ _ _ _ _
     refine mw (vi i) ?_
     exact f1
    ·intro _ E cT _
     rintro _ _ rfl _ _ _ _ _ _ _ _ _ _ _ _ _ _ _ _ _ _ _ _ _ _ _ _ _ _
     show WL _ _ _ _ _ _ _
     refine cl wN (csRot E i 6 (by omega) (by omega)) ?_
     rintro _ Z ⟨bT, rfl⟩
     have cU := rot_b i 6
     exact wl_finT bT rfl
    ·intro _ E cV _
     rintro _ _ _ _ _ _ _ _ _ _ _ _ _ _ _ _ _ _ _ _ _ _ _ _ _ _ _ _
     show WL _ _ _ _ _ _ _
     refine mw (vi i) ?_
     exact f1
    ·intro _ E cW _
     rintro _ _ rfl _ rfl
     have cX := rot_b i 6
     rintro _ rfl _ _ _ _ _ _ _ _ _ _ _ _ _ _ _ _ _ _ _ _ _ _ _ _
     show WL _ _ _ _ _ _ _
     refine cl wN (csRot E i 11 (by omega) (by omega)) ?_
     rintro _ Z ⟨bU, rfl⟩
     have cY := rot_b i 11
     exact wl_finT bU rfl
    ·intro _ E cZ _
     rintro _ _ rfl _ rfl
     have da := rot_b i 6
     rintro _ rfl _ rfl
     have db := rot_b i 11
     rintro _ _ _ _ _ _ _ _ _ _ _ _ _ _ _ _ _ _ _ _ _ _ _
     show WL _ _ _ _ _ _ _
     refine wl_xor (rot i 6) (rot i 11) wN rfl rfl (by kernel_rfl) (by omega) (by omega) (by omega) (by omega) ?_
     have dc := xorI_b (a := (rot i 6)) (b := (rot i 11)) (by omega) (by omega)
     exact f1
    ·intro _ E dd _
     rintro _ _ _ _ _ _ _ _ _ _ _ _ _ _ _ _ _ _ _ _ _ _ _ _ _ _ _ _
     show WL _ _ _ _ _ _ _
     refine mw (vi i) ?_
     exact f1
    ·intro _ E de _
     rintro _ _ rfl _ rfl
     have df := rot_b i 6
     rintro _ rfl _ rfl
     have dg := rot_b i 11
     rintro _ _ rfl _ _ _ _ _ _ _ _ _ _ _ _ _ _ _ _ _ _ _ _ _
     show WL _ _ _ _ _ _ _
     refine cl wN (csRot E i 25 (by omega) (by omega)) ?_
     rintro _ Z ⟨bW, rfl⟩
     have dh := rot_b i 25
     exact wl_finT bW rfl
    ·intro _ E di _
     rintro _ _ rfl _ rfl
     have dj := rot_b i 6
     rintro _ rfl _ rfl
     have dk := rot_b i 11
     rintro _ rfl
     have dl := xorI_b (a := (rot i 6)) (b := (rot i 11)) (by omega) (by omega)
     rintro _ rfl _ rfl
     have dm := rot_b i 25
     rintro _ _ _ _ _ _ _ _ _ _ _ _ _ _ _ _ _ _ _ _
     show WL _ _ _ _ _ _ _
     refine wl_xor (xorI (rot i 6) (rot i 11)) (rot i 25) wN rfl rfl (by kernel_rfl) (by omega) (by omega) (by omega) (by omega) ?_
     have dn := xorI_b (a := (xorI (rot i 6) (rot i 11))) (b := (rot i 25)) (by omega) (by omega)
     exact f1
    ·intro _ E dp _
     rintro _ rfl _ rfl _ rfl
     have dq := rot_b i 6
     rintro _ rfl _ rfl
     have dr := rot_b i 11
     rintro _ rfl
     have ds := xorI_b (a := (rot i 6)) (b := (rot i 11)) (by omega) (by omega)
     rintro _ rfl _ rfl
     have dt := rot_b i 25
     rintro _ rfl
     have du := xorI_b (a := (xorI (rot i 6) (rot i 11))) (b := (rot i 25)) (by omega) (by omega)
     rintro _ _ _ _ _ _ _ _ _ _ _ _ _ _ _ _ _ _ _
     show WL _ _ _ _ _ _ _
     refine ar (y + (xorI (xorI (rot i 6) (rot i 11)) (rot i 25))) wN ?_
     exact f1
    ·intro _ E dv _
     rintro _ _ _ _ _ _ _ _ _ _ _ _ _ _ _ _ _ _ _ _ _ _ _ _ _ _ _ _
     show WL _ _ _ _ _ _ _
     refine mw (vi i) ?_
     exact f1
    ·intro _ E dw _
     rintro _ _ _ _ _ _ _ _ _ _ _ _ _ _ _ _ _ _ _ _ _ _ _ _ _ _ _ _
     show WL _ _ _ _ _ _ _
     refine mw (vi q) ?_
     exact f1
    ·intro _ E dx _
     rintro _ _ _ _ _ _ _ _ _ _ _ rfl _ rfl _ _ _ _ _ _ _ _ _ _ _ _ _ _ _ _
     show WL _ _ _ _ _ _ _
     refine wl_andG i q wN rfl rfl (by kernel_rfl) (by omega) (by omega) (by omega) (by omega) ?_
     have dy := andI_b (a := i) (b := q) (by omega)
     exact f1
    ·intro _ E dz _
     rintro _ _ _ _ _ _ _ _ _ _ _ _ _ _ _ _ _ _ _ _ _ _ _ _ _ _ _ _
     show WL _ _ _ _ _ _ _
     refine mw (vi i) ?_
     exact f1
    ·intro _ E d0 _
     rintro _ _ _ _ _ _ _ _ _ _ _ _ _ _ rfl _ _ _ _ _ _ _ _ _ _ _ _ _ _
     show WL _ _ _ _ _ _ _
     refine wl_xor i 4294967295 wN rfl rfl (by kernel_rfl) (by omega) (by omega) (by omega) (by omega) ?_
     have d1 := xorI_b (a := i) (b := 4294967295) (by omega) (by omega)
     exact f1
    ·intro _ E d2 _
     rintro _ _ _ _ _ _ _ _ _ _ _ _ _ _ _ _ _ _ _ _ _ _ _ _ _ _ _ _
     show WL _ _ _ _ _ _ _
     refine mw (vi r) ?_
     exact f1
    ·intro _ E d3 _
     rintro _ _ _ _ _ _ _ _ _ _ _ _ _ _ rfl _ rfl
     have d4 := xorI_b (a := i) (b := 4294967295) (by omega) (by omega)
     rintro _ rfl _ _ _ _ _ _ _ _ _ _ _ _
     show WL _ _ _ _ _ _ _
     refine wl_andG (xorI i 4294967295) r wN rfl rfl (by kernel_rfl) (by omega) (by omega) (by omega) (by omega) ?_
     have d5 := andI_b (a := (xorI i 4294967295)) (b := r) (by omega)
     exact f1
    ·intro _ E d6 _
     rintro _ _ _ _ _ _ _ _ _ _ _ rfl _ rfl _ rfl
     have d7 := andI_b (a := i) (b := q) (by omega)
     rintro _ rfl _ rfl
     have d8 := xorI_b (a := i) (b := 4294967295) (by omega) (by omega)
     rintro _ rfl _ rfl
     have d9 := andI_b (a := (xorI i 4294967295)) (b := r) (by omega)
     rintro _ _ _ _ _ _ _ _ _ _ _
     show WL _ _ _ _ _ _ _
     refine wl_xor (andI i q) (andI (xorI i 4294967295) r) wN rfl rfl (by kernel_rfl) (by omega) (by omega) (by omega) (by omega) ?_
     have dA := xorI_b (a := (andI i q)) (b := (andI (xorI i 4294967295) r)) (by omega) (by omega)
     exact f1
    ·intro _ E dB _
     rintro _ rfl _ rfl _ rfl
     have dC := rot_b i 6
     rintro _ rfl _ rfl
     have dD := rot_b i 11
     rintro _ rfl
     have dE := xorI_b (a := (rot i 6)) (b := (rot i 11)) (by omega) (by omega)
     rintro _ rfl _ rfl
     have dG := rot_b i 25
     rintro _ rfl
     have dH := xorI_b (a := (xorI (rot i 6) (rot i 11))) (b := (rot i 25)) (by omega) (by omega)
     rintro _ rfl _ rfl _ rfl _ rfl
     have dI := andI_b (a := i) (b := q) (by omega)
     rintro _ rfl _ rfl
     have dJ := xorI_b (a := i) (b := 4294967295) (by omega) (by omega)
     rintro _ rfl _ rfl
     have dK := andI_b (a := (xorI i 4294967295)) (b := r) (by omega)
     rintro _ rfl
     have dL := xorI_b (a := (andI i q)) (b := (andI (xorI i 4294967295) r)) (by omega) (by omega)
     rintro _ _ _ _ _ _ _ _ _ _
     show WL _ _ _ _ _ _ _
     refine ar ((y + (xorI (xorI (rot i 6) (rot i 11)) (rot i 25))) + (xorI (andI i q) (andI (xorI i 4294967295) r))) wN ?_
     exact f1
    ·intro _ E dM _
     rintro _ _ _ _ _ _ _ _ _ _ _ _ _ _ _ _ _ _ _ _ _ _ _ _ _ _ _ _
     show WL _ _ _ _ _ _ _
     refine mw (vs R (kw).length S) ?_
     exact f1
    ·intro _ E dN _
     rintro _ _ _ _ _ _ _ _ _ _ _ _ _ _ _ _ _ _ _ _ _ _ _ _ _ _ _ _
     show WL _ _ _ _ _ _ _
     refine mw (vi ((k : Nat) : Int)) ?_
     exact f1
    ·intro _ E bX _
     rintro _ _ _ _ _ _ _ _ _ _ _ _ _ _ _ _ _ _ _ _ rfl _ rfl _ _ _ _ _ _ _
     show WL _ _ _ _ _ _ _
     have bY := (own_kp (own_ch (own_kp (own_kp ak O) M) W (fun g hg hlt hk => by have ac := (own_lt ak g hg).2; have ad : au.heap.size ≤ A.heap.size := (z2 O M); have ae : A.heap.size ≤ g := hk; omega)) bX)
     refine ix wN ((k : Nat) : Int) slTy_23 (Rd.of_own bY) ?_
     exact f1
    ·intro _ E bZ _
     rintro _ _ _ _ _ _ _ _ _ _ _ _ _ _ _ _ _ _ _ _ rfl _ rfl _ rfl _ _ _ _ _ _
     show WL _ _ _ _ _ _ _
     have ca := (own_kp (own_ch (own_kp (own_kp ak O) M) W (fun g hg hlt hk => by have ac := (own_lt ak g hg).2; have ad : au.heap.size ≤ A.heap.size := (z2 O M); have ae : A.heap.size ≤ g := hk; omega)) bZ)
     refine wl_loadE (iV zk) wN rfl rfl rfl rfl isAgg_3 (Rd.of_own ca) (by rw [← hzk]; exact iget (by simp) (by first | omega | (simp <;> omega))) ?_
     exact f1
    ·intro _ E dO _
     rintro _ rfl _ rfl _ rfl
     have dP := rot_b i 6
     rintro _ rfl _ rfl
     have dQ := rot_b i 11
     rintro _ rfl
     have dR := xorI_b (a := (rot i 6)) (b := (rot i 11)) (by omega) (by omega)
     rintro _ rfl _ rfl
     have dS := rot_b i 25
     rintro _ rfl
     have dU := xorI_b (a := (xorI (rot i 6) (rot i 11))) (b := (rot i 25)) (by omega) (by omega)
     rintro _ rfl _ rfl _ rfl _ rfl
     have dV := andI_b (a := i) (b := q) (by omega)
     rintro _ rfl _ rfl
     have dW := xorI_b (a := i) (b := 4294967295) (by omega) (by omega)
     rintro _ rfl _ rfl
     have dX := andI_b (a := (xorI i 4294967295)) (b := r) (by omega)
     rintro _ rfl
     have dY := xorI_b (a := (andI i q)) (b := (andI (xorI i 4294967295) r)) (by omega) (by omega)
     rintro _ rfl _ rfl _ rfl _ rfl _ rfl _ _ _ _ _
     show WL _ _ _ _ _ _ _
     refine ar (((y + (xorI (xorI (rot i 6) (rot i 11)) (rot i 25))) + (xorI (andI i q) (andI (xorI i 4294967295) r))) + zk) wN ?_
     exact f1
    ·intro _ E dZ _
     rintro _ _ _ _ _ _ _ _ _ _ _ _ _ _ _ _ _ _ _ _ _ _ _ _ _ _ _ _
     show WL _ _ _ _ _ _ _
     refine mw (vs T (schedP p).length V) ?_
     exact f1
    ·intro _ E ea _
     rintro _ _ _ _ _ _ _ _ _ _ _ _ _ _ _ _ _ _ _ _ _ _ _ _ _ _ _ _
     show WL _ _ _ _ _ _ _
     refine mw (vi ((k : Nat) : Int)) ?_
     exact f1
    ·intro _ E cb _
     rintro _ _ _ _ _ _ _ _ _ _ _ _ _ _ _ _ _ _ _ _ _ _ _ _ _ rfl _ rfl _ _
     show WL _ _ _ _ _ _ _
     have cc := (own_kp (own_ch (own_kp am M) W (fun g hg hlt hk => by have ac := (own_lt am g hg).2; have ad : aB.heap.size ≤ A.heap.size := M.size; have ae : A.heap.size ≤ g := hk; omega)) cb)
     refine ix wN ((k : Nat) : Int) slTy_23 (Rd.of_own cc) ?_
     exact f1
    ·intro _ E cd _
     rintro _ _ _ _ _ _ _ _ _ _ _ _ _ _ _ _ _ _ _ _ _ _ _ _ _ rfl _ rfl _ rfl _
     show WL _ _ _ _ _ _ _
     have ce := (own_kp (own_ch (own_kp am M) W (fun g hg hlt hk => by have ac := (own_lt am g hg).2; have ad : aB.heap.size ≤ A.heap.size := M.size; have ae : A.heap.size ≤ g := hk; omega)) cd)
     refine wl_loadE (iV zw) wN rfl rfl rfl rfl isAgg_3 (Rd.of_own ce) (by rw [← hzw]; exact iget (by simp) (by first | omega | (simp <;> omega))) ?_
     exact f1
   ·intro _ E aJ
    rintro _ rfl _ rfl _ rfl
    have ec := rot_b i 6
    rintro _ rfl _ rfl
    have ed := rot_b i 11
    rintro _ rfl
    have ee := xorI_b (a := (rot i 6)) (b := (rot i 11)) (by omega) (by omega)
    rintro _ rfl _ rfl
    have ef := rot_b i 25
    rintro _ rfl
    have eg := xorI_b (a := (xorI (rot i 6) (rot i 11))) (b := (rot i 25)) (by omega) (by omega)
    rintro _ rfl _ rfl _ rfl _ rfl
    have eh := andI_b (a := i) (b := q) (by omega)
    rintro _ rfl _ rfl
    have ej := xorI_b (a := i) (b := 4294967295) (by omega) (by omega)
    rintro _ rfl _ rfl
    have ek := andI_b (a := (xorI i 4294967295)) (b := r) (by omega)
    rintro _ rfl
    have em := xorI_b (a := (andI i q)) (b := (andI (xorI i 4294967295) r)) (by omega) (by omega)
    rintro _ rfl _ rfl _ rfl _ rfl _ rfl _ rfl _ rfl _ rfl _ rfl _ rfl
    show WL _ _ _ _ _ _ _
    refine ar ((((y + (xorI (xorI (rot i 6) (rot i 11)) (rot i 25))) + (xorI (andI i q) (andI (xorI i 4294967295) r))) + zk) + zw) wN ?_
    refine wl_and ((((y + (xorI (xorI (rot i 6) (rot i 11)) (rot i 25))) + (xorI (andI i q) (andI (xorI i 4294967295) r))) + zk) + zw) 4294967295 4294967296 32 wN rfl rfl (by decide) (by decide) (by decide) (by kernel_rfl) ?_
    refine aw (vi (((((y + (xorI (xorI (rot i 6) (rot i 11)) (rot i 25))) + (xorI (andI i q) (andI (xorI i 4294967295) r))) + zk) + zw) % 4294967296)) ?_
    refine nx ?_
    refine mw (vi o) ?_
    refine cl wN (csRot E o 2 (by omega) (by omega)) ?_
    rintro _ Z ⟨aK, rfl⟩
    have cg := (aD.extk aJ).extk aK
    have en := rot_b o 2
    refine mw (vi o) ?_
    refine cl wN (csRot Z o 13 (by omega) (by omega)) ?_
    rintro _ K ⟨aL, rfl⟩
    have eo := rot_b o 13
    refine wl_xor (rot o 2) (rot o 13) wN rfl rfl (by kernel_rfl) (by omega) (by omega) (by omega) (by omega) ?_
    have ep := xorI_b (a := (rot o 2)) (b := (rot o 13)) (by omega) (by omega)
    refine mw (vi o) ?_
    refine cl wN (csRot K o 22 (by omega) (by omega)) ?_
    rintro _ bN ⟨aM, rfl⟩
    have ci := (cg.extk aL).extk aM
    have er := rot_b o 22
    refine wl_xor (xorI (rot o 2) (rot o 13)) (rot o 22) wN rfl rfl (by kernel_rfl) (by omega) (by omega) (by omega) (by omega) ?_
    have es := xorI_b (a := (xorI (rot o 2) (rot o 13))) (b := (rot o 22)) (by omega) (by omega)
    refine mw (vi o) ?_
    refine mw (vi s) ?_
    refine wl_andG o s wN rfl rfl (by kernel_rfl) (by omega) (by omega) (by omega) (by omega) ?_
    have et := andI_b (a := o) (b := s) (by omega)
    refine mw (vi o) ?_
    refine mw (vi t) ?_
    refine wl_andG o t wN rfl rfl (by kernel_rfl) (by omega) (by omega) (by omega) (by omega) ?_
    have eu := andI_b (a := o) (b := t) (by omega)
    refine wl_xor (andI o s) (andI o t) wN rfl rfl (by kernel_rfl) (by omega) (by omega) (by omega) (by omega) ?_
    have ew := xorI_b (a := (andI o s)) (b := (andI o t)) (by omega) (by omega)
    refine mw (vi s) ?_
    refine mw (vi t) ?_
    refine wl_andG s t wN rfl rfl (by kernel_rfl) (by omega) (by omega) (by omega) (by omega) ?_
    have ex := andI_b (a := s) (b := t) (by omega)
    refine wl_xor (xorI (andI o s) (andI o t)) (andI s t) wN rfl rfl (by kernel_rfl) (by omega) (by omega) (by omega) (by omega) ?_
    have ey := xorI_b (a := (xorI (andI o s) (andI o t))) (b := (andI s t)) (by omega) (by omega)
    refine ar ((xorI (xorI (rot o 2) (rot o 13)) (rot o 22)) + (xorI (xorI (andI o s) (andI o t)) (andI s t))) wN ?_
    refine wl_and ((xorI (xorI (rot o 2) (rot o 13)) (rot o 22)) + (xorI (xorI (andI o s) (andI o t)) (andI s t))) 4294967295 4294967296 32 wN rfl rfl (by decide) (by decide) (by decide) (by kernel_rfl) ?_
    refine aw (vi (((xorI (xorI (rot o 2) (rot o 13)) (rot o 22)) + (xorI (xorI (andI o s) (andI o t)) (andI s t))) % 4294967296)) ?_
    refine nx ?_
    refine mw (vi r) ?_
    refine aw (vi r) ?_
    refine nx ?_
    refine mw (vi q) ?_
    refine aw (vi q) ?_
    refine nx ?_
    refine mw (vi i) ?_
    refine aw (vi i) ?_
    refine nx ?_
    refine mw (vi D) ?_
    refine mw (vi (((((y + (xorI (xorI (rot i 6) (rot i 11)) (rot i 25))) + (xorI (andI i q) (andI (xorI i 4294967295) r))) + zk) + zw) % 4294967296)) ?_
    refine ar (D + (((((y + (xorI (xorI (rot i 6) (rot i 11)) (rot i 25))) + (xorI (andI i q) (andI (xorI i 4294967295) r))) + zk) + zw) % 4294967296)) wN ?_
    refine wl_and (D + (((((y + (xorI (xorI (rot i 6) (rot i 11)) (rot i 25))) + (xorI (andI i q) (andI (xorI i 4294967295) r))) + zk) + zw) % 4294967296)) 4294967295 4294967296 32 wN rfl rfl (by decide) (by decide) (by decide) (by kernel_rfl) ?_
    refine aw (vi ((D + (((((y + (xorI (xorI (rot i 6) (rot i 11)) (rot i 25))) + (xorI (andI i q) (andI (xorI i 4294967295) r))) + zk) + zw) % 4294967296)) % 4294967296)) ?_
    refine nx ?_
    refine mw (vi t) ?_
    refine aw (vi t) ?_
    refine nx ?_
    refine mw (vi s) ?_
    refine aw (vi s) ?_
    refine nx ?_
    refine mw (vi o) ?_
    refine aw (vi o) ?_
    refine wl_nil <| wq_then <| wc_region ?_
    refine mw (vi (((((y + (xorI (xorI (rot i 6) (rot i 11)) (rot i 25))) + (xorI (andI i q) (andI (xorI i 4294967295) r))) + zk) + zw) % 4294967296)) ?_
    refine mw (vi (((xorI (xorI (rot o 2) (rot o 13)) (rot o 22)) + (xorI (xorI (andI o s) (andI o t)) (andI s t))) % 4294967296)) ?_
    refine ar ((((((y + (xorI (xorI (rot i 6) (rot i 11)) (rot i 25))) + (xorI (andI i q) (andI (xorI i 4294967295) r))) + zk) + zw) % 4294967296) + (((xorI (xorI (rot o 2) (rot o 13)) (rot o 22)) + (xorI (xorI (andI o s) (andI o t)) (andI s t))) % 4294967296)) wN ?_
    refine wl_and ((((((y + (xorI (xorI (rot i 6) (rot i 11)) (rot i 25))) + (xorI (andI i q) (andI (xorI i 4294967295) r))) + zk) + zw) % 4294967296) + (((xorI (xorI (rot o 2) (rot o 13)) (rot o 22)) + (xorI (xorI (andI o s) (andI o t)) (andI s t))) % 4294967296)) 4294967295 4294967296 32 wN rfl rfl (by decide) (by decide) (by decide) (by kernel_rfl) ?_
    refine aw (vi (((((((y + (xorI (xorI (rot i 6) (rot i 11)) (rot i 25))) + (xorI (andI i q) (andI (xorI i 4294967295) r))) + zk) + zw) % 4294967296) + (((xorI (xorI (rot o 2) (rot o 13)) (rot o 22)) + (xorI (xorI (andI o s) (andI o t)) (andI s t))) % 4294967296)) % 4294967296)) ?_
    refine wl_nil <| wq_blk_normal <| wq_then <| wc_region ?_
    refine mw (vi ((k : Nat) : Int)) ?_
    refine ar (((k : Nat) : Int) + 1) wN ?_
    refine aw (vi (((k : Nat) : Int) + 1)) ?_
    refine wl_nil ?_
    refine wq_loopP (w0 := av) [(0, (vs B j.length C)), (4, (vs none 0 0)), (5, (vs H j.length I)), (6, (vs R (kw).length S)), (7, (vs T (schedP p).length V)), (8, (vi ((cmpN (schedP p) (s8of j) (k + 1)).a))), (9, (vi ((cmpN (schedP p) (s8of j) (k + 1)).b))), (10, (vi ((cmpN (schedP p) (s8of j) (k + 1)).c))), (11, (vi ((cmpN (schedP p) (s8of j) (k + 1)).d))), (12, (vi ((cmpN (schedP p) (s8of j) (k + 1)).e))), (13, (vi ((cmpN (schedP p) (s8of j) (k + 1)).f))), (14, (vi ((cmpN (schedP p) (s8of j) (k + 1)).g))), (15, (vi ((cmpN (schedP p) (s8of j) (k + 1)).z))), (16, (vi (((k + 1) : Nat) : Int)))] ?_ ?_ ?_
    · exact ⟨rfl, rfl, rfl, rfl, rfl, (cA (Value.int .i64) (show ((((((((y + (xorI (xorI (rot i 6) (rot i 11)) (rot i 25))) + (xorI (andI i q) (andI (xorI i 4294967295) r))) + zk) + zw) % 4294967296) + (((xorI (xorI (rot o 2) (rot o 13)) (rot o 22)) + (xorI (xorI (andI o s) (andI o t)) (andI s t))) % 4294967296)) % 4294967296) : Int) = (cmpN (schedP p) (s8of j) (k + 1)).a by subst hzw hzk hi_a hi_b hi_c hi_d hi_e hi_f hi_g hi_z; exact cmp_sa (by omega) rfl rfl)), (cA (Value.int .i64) (show (o : Int) = (cmpN (schedP p) (s8of j) (k + 1)).b by rw [hi_a]; rfl)), (cA (Value.int .i64) (show (s : Int) = (cmpN (schedP p) (s8of j) (k + 1)).c by rw [hi_b]; rfl)), (cA (Value.int .i64) (show (t : Int) = (cmpN (schedP p) (s8of j) (k + 1)).d by rw [hi_c]; rfl)), (cA (Value.int .i64) (show (((D + (((((y + (xorI (xorI (rot i 6) (rot i 11)) (rot i 25))) + (xorI (andI i q) (andI (xorI i 4294967295) r))) + zk) + zw) % 4294967296)) % 4294967296) : Int) = (cmpN (schedP p) (s8of j) (k + 1)).e by subst hzw hzk hi_a hi_b hi_c hi_d hi_e hi_f hi_g hi_z; exact cmp_se (by omega) rfl)), (cA (Value.int .i64) (show (i : Int) = (cmpN (schedP p) (s8of j) (k + 1)).f by rw [hi_e]; rfl)), (cA (Value.int .i64) (show (q : Int) = (cmpN (schedP p) (s8of j) (k + 1)).g by rw [hi_f]; rfl)), (cA (Value.int .i64) (show (r : Int) = (cmpN (schedP p) (s8of j) (k + 1)).z by rw [hi_g]; rfl)), (cA (Value.int .i64) (show ((((k : Nat) : Int) + 1) : Int) = (((k + 1) : Nat) : Int) by omega)), trivial⟩
    · exact fun u => ⟨(k + 1), (cmpN (schedP p) (s8of j) (k + 1)).a, (cmpN (schedP p) (s8of j) (k + 1)).b, (cmpN (schedP p) (s8of j) (k + 1)).c, (cmpN (schedP p) (s8of j) (k + 1)).d, (cmpN (schedP p) (s8of j) (k + 1)).e, (cmpN (schedP p) (s8of j) (k + 1)).f, (cmpN (schedP p) (s8of j) (k + 1)).g, (cmpN (schedP p) (s8of j) (k + 1)).z, u, rfl, ci, ((((((Ch.refl (fun k => A.heap.size ≤ k) A).ext W (fun k hk => hk)).extk aJ).extk aK).extk aL).extk aM), (by omega), (by first | rfl | assumption), (by first | rfl | assumption), (by first | rfl | assumption), (by first | rfl | assumption), (by first | rfl | assumption), (by first | rfl | assumption), (by first | rfl | assumption), (by first | rfl | assumption)⟩
    · show (64 - (((k + 1) : Nat) : Int)).toNat < (64 - ((k : Nat) : Int)).toNat; omega

theorem csl2Out (b : World) (r : Value) (a : List Int) (I : R_23 b r a) (P : a.length = 8) : Fn Tryz.prog 167 #[r] b (fun v f => Keep b f ∧ O_22 f b.heap.size v (wordB a)) := by
 obtain ⟨g, h, rfl, s, Q⟩ := I
 refine fn_ofS (n := 17) [(vs g a.length h)] Tryz.func167 rfl rfl ?_
 refine sr ?_
 refine aw (vs none 0 0) ?_
 refine nx ?_
 refine wl_lit0 wN rfl rfl slTy_22 (fun w => by kernel_rfl) ?_
 intro p q t J
 have K := (Ch.base b).extk t
 refine aw (vs (some p) 0 0) ?_
 refine n4 ?_
 refine aw (vi 0) ?_
 refine wl_nil <| wq_then <| wc_block ?_
 have y : ([] : List UInt8) = wordB (a.take 0) := by rfl
 have A : 0 = (wordB (a.take 0)).length := by rw [← y]; try (first | rfl | simp only [List.length_set] | simp)
 refine wc_loopP [(0, (vs g a.length h)), (2, (vs none 0 0)), (3, (.slice (some p) (wordB (a.take 0)).length 0)), (4, (vi ((0 : Nat) : Int)))] ⟨rfl, rfl, rfl, (cA (Value.int .i64) (show (0 : Int) = ((0 : Nat) : Int) by omega)), trivial⟩ (fun e' f => ∃ (k : Nat) (B : Env) (d : Option Addr) (e : Nat), e' = pt B [(0, (vs g a.length h)), (2, (vs none 0 0)), (3, (.slice d (wordB (a.take k)).length e)), (4, (vi ((k : Nat) : Int)))] ∧ Ch (fun k => b.heap.size ≤ k) b f ∧ Ch (fun k => b.heap.size ≤ k) q f ∧ k ≤ a.length ∧ (World.ownsRow f b.heap.size 5 1 (.slice d (wordB (a.take k)).length e) (wordB (a.take k)).length ((wordB (a.take k)).map bV) ∧ (wordB (a.take k)).length ≤ 1073741824)) (fun e' _ => a.length - ((intOf (e' 4))).toNat) ?_ ?_
 ·exact fun u => ⟨0, u, (some p), 0, rfl, K, (Ch.refl (fun k => b.heap.size ≤ k) q), (by omega), ⟨(by rw [← A, ← y]; exact J), (by rw [← A]; first | exact (by simp) | (simp only [List.length_append, List.length_take, List.length_replicate]; omega))⟩⟩
 ·rintro _ C ⟨k, B, d, e, rfl, j, D, R, ⟨E, F⟩⟩
  have hwl := wordB_len (a.take k)
  have htl : (a.take k).length = min k a.length := List.length_take
  refine wc_seq <| sr ?_
  refine mw (vi ((k : Nat) : Int)) ?_
  refine pu (vb (decide (((k : Nat) : Int) < 8))) wN ?_
  refine n2 ?_
  rcases bf (decide (((k : Nat) : Int) < 8)) with i | i
  ·have S := dF i
   refine cf i ?_
   refine wc_exit <| wq_then_exit <| wq_then_exit <| wq_blk_exit <| wq_then <| sr ?_
   refine mw (vs d (wordB (a.take k)).length e) ?_
   refine aw (vs d (wordB (a.take k)).length e) ?_
   refine n3 ?_
   refine rt (vs d (wordB (a.take k)).length e) ?_
   refine ⟨j.keep0, ?_⟩
   have L : wordB a = (wordB (a.take k)) := by exact wordB_end (by omega)
   rw [L]
   exact ⟨_, _, rfl, E, F, ⟨trivial, trivial⟩⟩
  have T := dT i
  refine ct i ?_
  refine wc_skip <| wq_then <| wc_seq <| wc_block <| wc_region ?_
  refine mw (vs d (wordB (a.take k)).length e) ?_
  refine mw (vs g a.length h) ?_
  refine mw (vi ((k : Nat) : Int)) ?_
  refine ix wN ((k : Nat) : Int) slTy_23 (s.from0 j) ?_
  refine ei (x := a) k wN isAgg_3 (s.from0 j) ?_
  refine cl wN (csPutN C _ (wordB (a.take k)) (mR_22 (Rd.of_own E) F) (a.getD k 0) 4 (by first | omega | (simp; done) | (simp; omega) | (simp only [List.length_append, List.length_cons, List.length_nil] at *; omega))) ?_
  rintro _ V ⟨G, ⟨m, o, rfl, M, N, W⟩⟩
  have O := j.extk G
  have X := putN_len (wordB (a.take k)) (a.getD k 0) 4
  refine aw (vs m (putN (wordB (a.take k)) (a.getD k 0) 4).length o) ?_
  refine wl_nil <| wq_blk_normal <| wq_then <| wc_region ?_
  refine mw (vi ((k : Nat) : Int)) ?_
  refine ar (((k : Nat) : Int) + 1) wN ?_
  refine aw (vi (((k : Nat) : Int) + 1)) ?_
  refine wl_nil ?_
  have H : ((putN (wordB (a.take k)) (a.getD k 0) 4) : List UInt8) = wordB (a.take (k + 1)) := by exact wordB_next (by omega)
  refine wq_loopP (w0 := C) [(0, (vs g a.length h)), (2, (vs none 0 0)), (3, (.slice m (wordB (a.take (k + 1))).length o)), (4, (vi (((k + 1) : Nat) : Int)))] ?_ ?_ ?_
  · exact ⟨rfl, rfl, (cA (fun l : List UInt8 => Value.slice m l.length o) H), (cA (Value.int .i64) (show ((((k : Nat) : Int) + 1) : Int) = (((k + 1) : Nat) : Int) by omega)), trivial⟩
  · exact fun u => ⟨(k + 1), u, m, o, rfl, O, (((Ch.refl (fun k => b.heap.size ≤ k) q).ext D (fun k hk => hk)).extk G), (by omega), (H ▸ ⟨(own_lo M (z2 t D)), N⟩)⟩
  · show a.length - ((((k + 1) : Nat) : Int)).toNat < a.length - (((k : Nat) : Int)).toNat; omega

theorem csSha (b : World) (I : Value) (a : List UInt8) (Z : R_22 b I a)  : Fn Tryz.prog 158 #[I] b (fun v e => Keep b e ∧ O_22 e b.heap.size v (sha a)) := by
 obtain ⟨p, q, rfl, D, a5⟩ := Z
 refine fn_ofS (n := 33) [(vs p a.length q)] Tryz.func158 rfl rfl ?_
 refine sr ?_
 refine aw (vs none 0 0) ?_
 refine n4 ?_
 refine mw (vs p a.length q) ?_
 refine ln wN slTy_22 D ?_
 refine pu (vb (decide (1048576 < (a.length : Int)))) wN ?_
 refine n2 ?_
 rcases bt (decide (1048576 < (a.length : Int))) with i | i
 ·have a6 := dT i
  refine ct i ?_
  refine sr ?_
  refine wl_lit0 wN rfl rfl slTy_22 (fun w => by kernel_rfl) ?_
  intro J aa ab ac
  have ad := (Ch.base b).extk ab
  refine aw (vs (some J) 0 0) ?_
  refine n1 ?_
  refine rt (vs (some J) 0 0) ?_
  refine ⟨ad.keep0, ?_⟩
  have ae : sha a = [] := by first | exact sha_f (by omega) | exact sha_s (by omega) (by omega) (by omega)
  rw [ae]
  exact ⟨_, _, rfl, ac, (by simp), ⟨trivial, trivial⟩⟩
 have a7 := dF i
 refine cf i ?_
 refine y1 ?_
 refine wl_lit0 wN rfl rfl slTy_22 (fun w => by kernel_rfl) ?_
 intro a8 aa r af
 have K := (Ch.base b).extk r
 refine mw (vs p a.length q) ?_
 refine ap0 a wN slTy_22 af (D.from0 K) r.size ?_
 intro a9 aA ah E L aB
 have M := K.extk E
 refine mw (vs p a.length q) ?_
 refine ln wN slTy_22 (D.from0 M) ?_
 refine cl wN (csPad ah (a.length : Int)) ?_
 rintro _ aC ⟨s, ⟨aD, aE, rfl, ai, _⟩⟩
 have aF := padP_len (a.length : Int)
 have aj := (own_kp L s)
 refine apB a (padP (a.length : Int)) wN slTy_22 aj (Rd.of_own ai) (z3 r E s) ?_
 intro f h d N O aG ak
 have am := (M.extk s).ext N (fun k hk => nT (Nat.le_refl b.heap.size) (own_lt L k hk).1)
 refine aw (vs f (a ++ (padP (a.length : Int))).length h) ?_
 refine nx ?_
 refine cl wN (csStart d ) ?_
 rintro _ F ⟨t, ⟨x, y, rfl, an, ao, aH⟩⟩
 have ap := am.extk t
 refine aw (vs x (k0).length y) ?_
 refine n4 ?_
 refine aw (vi 0) ?_
 refine wl_nil <| wq_then <| wc_block ?_
 have P : ((k0) : List Int) = foldK k0 (a ++ (padP (a.length : Int))) 0 := by rfl
 refine wc_loopP [(2, (vs none 0 0)), (3, (vs f (a ++ (padP (a.length : Int))).length h)), (4, (.slice x (foldK k0 (a ++ (padP (a.length : Int))) 0).length y)), (5, (vi (64 * ((0 : Nat) : Int))))] ⟨rfl, rfl, (cA (fun l : List Int => Value.slice x l.length y) P), (cA (Value.int .i64) (show (0 : Int) = (64 * ((0 : Nat) : Int)) by omega)), trivial⟩ (fun e' e => ∃ (k : Nat) (Q : Env) (j : Option Addr) (m : Nat), e' = pt Q [(2, (vs none 0 0)), (3, (vs f (a ++ (padP (a.length : Int))).length h)), (4, (.slice j (foldK k0 (a ++ (padP (a.length : Int))) k).length m)), (5, (vi (64 * ((k : Nat) : Int))))] ∧ Ch (fun k => b.heap.size ≤ k) b e ∧ Ch (fun k => d.heap.size ≤ k) F e ∧ 64 * k ≤ (a ++ (padP (a.length : Int))).length ∧ (World.ownsRow e d.heap.size 3 1 (.slice j (foldK k0 (a ++ (padP (a.length : Int))) k).length m) (foldK k0 (a ++ (padP (a.length : Int))) k).length ((foldK k0 (a ++ (padP (a.length : Int))) k).map iV) ∧ (foldK k0 (a ++ (padP (a.length : Int))) k).length ≤ 1073741824)) (fun e' _ => (a ++ padP (a.length : Int)).length - ((intOf (e' 5))).toNat) ?_ ?_
 ·exact fun u => ⟨0, u, x, y, rfl, ap, (Ch.refl (fun k => d.heap.size ≤ k) F), (by omega), (P ▸ ⟨an, ao⟩)⟩
 ·rintro _ G ⟨k, Q, j, m, rfl, R, A, aI, ⟨S, T⟩⟩
  have hal := shaAll a (by omega)
  refine wc_seq <| sr ?_
  refine mw (vi (64 * ((k : Nat) : Int))) ?_
  refine mw (vs f (a ++ (padP (a.length : Int))).length h) ?_
  have H := (own_ch (own_kp O t) A (fun g hg hlt hk => by have aJ := (own_lt O g hg).2; have aK : d.heap.size ≤ d.heap.size := (Nat.le_refl d.heap.size); have aL : d.heap.size ≤ g := hk; omega))
  refine ln wN slTy_22 (Rd.of_own H) ?_
  refine pu (vb (decide ((64 * ((k : Nat) : Int)) < ((a ++ (padP (a.length : Int))).length : Int)))) wN ?_
  refine n2 ?_
  rcases bf (decide ((64 * ((k : Nat) : Int)) < ((a ++ (padP (a.length : Int))).length : Int))) with o | o
  ·have aM := dF o
   refine cf o ?_
   refine wc_exit <| wq_then_exit <| wq_then_exit <| wq_blk_exit <| wq_then <| sr ?_
   refine mw (vs j (foldK k0 (a ++ (padP (a.length : Int))) k).length m) ?_
   refine cl wN (csl2Out G _ (foldK k0 (a ++ (padP (a.length : Int))) k) (mR_23 (Rd.of_own S) T) (by first | omega | exact foldK_len k0_w _ | exact compAll_len (by first | assumption | exact (hashOk_t (by assumption)).1))) ?_
   rintro _ aq ⟨au, ⟨V, W, rfl, av, ax, aN⟩⟩
   have ay := R.extk au
   refine aw (vs V (wordB (foldK k0 (a ++ (padP (a.length : Int))) k)).length W) ?_
   refine n3 ?_
   refine rt (vs V (wordB (foldK k0 (a ++ (padP (a.length : Int))) k)).length W) ?_
   refine ⟨ay.keep0, ?_⟩
   have az : sha a = (wordB (foldK k0 (a ++ (padP (a.length : Int))) k)) := by first | exact sha_f (by omega) | exact sha_s (by omega) (by omega) (by omega)
   rw [az]
   exact ⟨_, _, rfl, (own_lo av (z6 r E s N t A)), ax, ⟨trivial, trivial⟩⟩
  have aO := dT o
  refine ct o ?_
  refine wc_skip <| wq_then <| wc_seq <| wc_block <| wc_region ?_
  refine mw (vs j (foldK k0 (a ++ (padP (a.length : Int))) k).length m) ?_
  refine mw (vs f (a ++ (padP (a.length : Int))).length h) ?_
  refine mw (vi (64 * ((k : Nat) : Int))) ?_
  refine mw (vi (64 * ((k : Nat) : Int))) ?_
  refine ar ((64 * ((k : Nat) : Int)) + 64) wN ?_
  refine slv (((a ++ (padP (a.length : Int))).drop (((64 * ((k : Nat) : Int))).toNat)).take (((((64 * ((k : Nat) : Int)) + 64)).toNat) - (((64 * ((k : Nat) : Int))).toNat))) (((64 * ((k : Nat) : Int))).toNat) ((((64 * ((k : Nat) : Int)) + 64)).toNat) wN slTy_22 (Rd.of_own H) (by first | omega | (simp <;> omega)) (by first | omega | (simp <;> omega)) (by first | rfl | (simp; done) | (rw [List.take_of_length_le (by first | (simp; done) | (simp; omega))])) rfl rfl rfl rfl (.inr ⟨_, _, _, rfl, rfl, by omega⟩) (.inr ⟨_, _, _, rfl, rfl, by omega⟩) ?_
  have a0 : (((64 * ((k : Nat) : Int))).toNat) ≤ ((((64 * ((k : Nat) : Int)) + 64)).toNat) := (by first | omega | (simp <;> omega))
  have a1 : ((((64 * ((k : Nat) : Int)) + 64)).toNat) ≤ (a ++ (padP (a.length : Int))).length := (by first | omega | (simp <;> omega))
  refine cl wN (csCompress G _ (foldK k0 (a ++ (padP (a.length : Int))) k) (mR_23 (Rd.of_own S) T) _ (((a ++ (padP (a.length : Int))).drop (((64 * ((k : Nat) : Int))).toNat)).take (((((64 * ((k : Nat) : Int)) + 64)).toNat) - (((64 * ((k : Nat) : Int))).toNat))) (mR_22 (Rd.subV (x' := (((a ++ (padP (a.length : Int))).drop (((64 * ((k : Nat) : Int))).toNat)).take (((((64 * ((k : Nat) : Int)) + 64)).toNat) - (((64 * ((k : Nat) : Int))).toNat)))) (Rd.of_own H) a0 a1 (by first | rfl | (simp; done) | (rw [List.take_of_length_le (by first | (simp; done) | (simp; omega))]))) (nT (by simp only [List.length_take, List.length_drop]; omega) ak))) ?_
  rintro _ aq ⟨X, ⟨B, C, rfl, a2, a3, aP⟩⟩
  have a4 := R.extk X
  refine aw (vs B (compress (foldK k0 (a ++ (padP (a.length : Int))) k) (((a ++ (padP (a.length : Int))).drop (((64 * ((k : Nat) : Int))).toNat)).take (((((64 * ((k : Nat) : Int)) + 64)).toNat) - (((64 * ((k : Nat) : Int))).toNat)))).length C) ?_
  refine wl_nil <| wq_blk_normal <| wq_then <| wc_region ?_
  refine mw (vi (64 * ((k : Nat) : Int))) ?_
  refine ar ((64 * ((k : Nat) : Int)) + 64) wN ?_
  refine aw (vi ((64 * ((k : Nat) : Int)) + 64)) ?_
  refine wl_nil ?_
  have Y : ((compress (foldK k0 (a ++ (padP (a.length : Int))) k) (((a ++ (padP (a.length : Int))).drop (((64 * ((k : Nat) : Int))).toNat)).take (((((64 * ((k : Nat) : Int)) + 64)).toNat) - (((64 * ((k : Nat) : Int))).toNat)))) : List Int) = foldK k0 (a ++ (padP (a.length : Int))) (k + 1) := by exact foldK_next
  refine wq_loopP (w0 := G) [(2, (vs none 0 0)), (3, (vs f (a ++ (padP (a.length : Int))).length h)), (4, (.slice B (foldK k0 (a ++ (padP (a.length : Int))) (k + 1)).length C)), (5, (vi (64 * (((k + 1) : Nat) : Int))))] ?_ ?_ ?_
  · exact ⟨rfl, rfl, (cA (fun l : List Int => Value.slice B l.length C) Y), (cA (Value.int .i64) (show (((64 * ((k : Nat) : Int)) + 64) : Int) = (64 * (((k + 1) : Nat) : Int)) by omega)), trivial⟩
  · exact fun u => ⟨(k + 1), u, B, C, rfl, a4, (((Ch.refl (fun k => d.heap.size ≤ k) F).ext A (fun k hk => hk)).extk X), (by omega), (Y ▸ ⟨(own_lo a2 (z2 t A)), a3⟩)⟩
  · show (a ++ padP (a.length : Int)).length - ((64 * (((k + 1) : Nat) : Int))).toNat < (a ++ padP (a.length : Int)).length - ((64 * ((k : Nat) : Int))).toNat; omega

theorem csBlockKey (b : World) (M : Value) (a : List UInt8) (af : R_22 b M a)  : Fn Tryz.prog 157 #[M] b (fun v f => Keep b f ∧ O_22 f b.heap.size v (blockKey a)) := by
 obtain ⟨h, i, rfl, y, N⟩ := af
 refine fn_ofS (n := 23) [(vs h a.length i)] Tryz.func157 rfl rfl ?_
 refine sr ?_
 refine aw (vs none 0 0) ?_
 refine n4 ?_
 refine mw (vs h a.length i) ?_
 refine ln wN slTy_22 y ?_
 refine pu (vb (decide (1048576 < (a.length : Int)))) wN ?_
 refine n2 ?_
 rcases bt (decide (1048576 < (a.length : Int))) with m | m
 ·have aB := dT m
  refine ct m ?_
  refine sr ?_
  refine wl_lit0 wN rfl rfl slTy_22 (fun w => by kernel_rfl) ?_
  intro O ah ai aj
  have ak := (Ch.base b).extk ai
  refine aw (vs (some O) 0 0) ?_
  refine n1 ?_
  refine rt (vs (some O) 0 0) ?_
  refine ⟨ak.keep0, ?_⟩
  have am : blockKey a = [] := by first | exact blockKey_f (by omega) | exact blockKey_l (by omega) (by omega) (by omega) (by simp only [List.length_append, List.length_replicate] at *; omega) | exact blockKey_s (by omega) (by omega) (by simp only [List.length_append, List.length_replicate] at *; omega)
  rw [am]
  exact ⟨_, _, rfl, aj, (by simp), ⟨trivial, trivial⟩⟩
 have aC := dF m
 refine cf m ?_
 refine y1 ?_
 refine wl_lit0 wN rfl rfl slTy_22 (fun w => by kernel_rfl) ?_
 intro aD ah o an
 have P := (Ch.base b).extk o
 refine mw (vs h a.length i) ?_
 refine ap0 a wN slTy_22 an (y.from0 P) o.size ?_
 intro A B g C ao aE
 have D := P.extk C
 refine aw (vs A a.length B) ?_
 refine n4 ?_
 refine mw (vs h a.length i) ?_
 refine ln wN slTy_22 (y.from0 D) ?_
 refine pu (vb (decide (64 < (a.length : Int)))) wN ?_
 refine n2 ?_
 rcases bf (decide (64 < (a.length : Int))) with p | p
 ·have aF := dF p
  refine cf p ?_
  refine wc_skip <| wq_then <| wc_seq <| wc_block ?_
  have Q : (a : List UInt8) = a ++ List.replicate 0 (0 : UInt8) := by simp
  refine wc_loopP [(2, (vs none 0 0)), (3, (.slice A (a ++ List.replicate 0 (0 : UInt8)).length B))] ⟨rfl, (cA (fun l : List UInt8 => Value.slice A l.length B) Q), trivial⟩ (fun e' f => ∃ (j : Nat) (R : Env) (d : Option Addr) (e : Nat), e' = pt R [(2, (vs none 0 0)), (3, (.slice d (a ++ List.replicate j (0 : UInt8)).length e))] ∧ Ch (fun k => b.heap.size ≤ k) b f ∧ Ch (fun k => b.heap.size ≤ k) g f ∧ a.length + j ≤ 64 ∧ (World.ownsRow f b.heap.size 5 1 (.slice d (a ++ List.replicate j (0 : UInt8)).length e) (a ++ List.replicate j (0 : UInt8)).length ((a ++ List.replicate j (0 : UInt8)).map bV) ∧ (a ++ List.replicate j (0 : UInt8)).length ≤ 1073741824)) (fun e' _ => 64 - (lenOf (e' 3))) ?_ ?_
  ·exact fun u => ⟨0, u, A, B, rfl, D, (Ch.refl (fun k => b.heap.size ≤ k) g), (by omega), (Q ▸ ⟨ao, N⟩)⟩
  ·rintro _ q ⟨j, R, d, e, rfl, S, T, aG, ⟨r, ap⟩⟩
   have hol : (a ++ List.replicate j (0 : UInt8)).length = a.length + j := by rw [List.length_append, List.length_replicate]
   refine wc_seq <| sr ?_
   refine mw (vs d (a ++ List.replicate j (0 : UInt8)).length e) ?_
   refine ln wN slTy_22 (Rd.of_own r) ?_
   refine pu (vb (decide (((a ++ List.replicate j (0 : UInt8)).length : Int) < 64))) wN ?_
   refine n2 ?_
   rcases bf (decide (((a ++ List.replicate j (0 : UInt8)).length : Int) < 64)) with s | s
   ·have aH := dF s
    refine cf s ?_
    refine wc_exit <| wq_then_exit <| wq_then_exit <| wq_blk_exit <| wq_then <| sr ?_
    refine mw (vs d (a ++ List.replicate j (0 : UInt8)).length e) ?_
    refine aw (vs d (a ++ List.replicate j (0 : UInt8)).length e) ?_
    refine n3 ?_
    refine rt (vs d (a ++ List.replicate j (0 : UInt8)).length e) ?_
    refine ⟨S.keep0, ?_⟩
    have aq : blockKey a = (a ++ List.replicate j (0 : UInt8)) := by first | exact blockKey_f (by omega) | exact blockKey_l (by omega) (by omega) (by omega) (by simp only [List.length_append, List.length_replicate] at *; omega) | exact blockKey_s (by omega) (by omega) (by simp only [List.length_append, List.length_replicate] at *; omega)
    rw [aq]
    exact ⟨_, _, rfl, r, ap, ⟨trivial, trivial⟩⟩
   have aI := dT s
   refine ct s ?_
   refine wc_skip <| wq_then <| wc_block <| wc_region ?_
   refine mw (vs d (a ++ List.replicate j (0 : UInt8)).length e) ?_
   refine ltB ([0] : List UInt8) wN slTy_22 ?_
   intro aJ aK V E au
   have av := (own_kp r E)
   refine apB (a ++ List.replicate j (0 : UInt8)) ([0] : List UInt8) wN slTy_22 av (Rd.of_own au) (z4 o C T E) ?_
   intro F G ax W ay aL az
   have a0 := (S.extk E).ext W (fun k hk => nT (Nat.le_refl b.heap.size) (own_lt r k hk).1)
   refine aw (vs F ((a ++ List.replicate j (0 : UInt8)) ++ ([0] : List UInt8)).length G) ?_
   refine wl_nil <| wq_blk_normal ?_
   have X : (((a ++ List.replicate j (0 : UInt8)) ++ ([0] : List UInt8)) : List UInt8) = a ++ List.replicate (j + 1) (0 : UInt8) := by rw [List.replicate_succ', List.append_assoc]
   refine wq_loopP (w0 := q) [(2, (vs none 0 0)), (3, (.slice F (a ++ List.replicate (j + 1) (0 : UInt8)).length G))] ?_ ?_ ?_
   · exact ⟨rfl, (cA (fun l : List UInt8 => Value.slice F l.length G) X), trivial⟩
   · exact fun u => ⟨(j + 1), u, F, G, rfl, a0, ((((Ch.refl (fun k => b.heap.size ≤ k) g).ext T (fun k hk => hk)).extk E).ext W (fun k hk => nT (Nat.le_refl b.heap.size) (own_lt r k hk).1)), (by omega), (X ▸ ⟨ay, az⟩)⟩
   · show 64 - (a ++ List.replicate (j + 1) (0 : UInt8)).length < 64 - (a ++ List.replicate j (0 : UInt8)).length; simp only [List.length_append, List.length_replicate]; omega
 have aM := dT p
 refine ct p ?_
 refine wc_region ?_
 refine mw (vs h a.length i) ?_
 refine cl wN (csSha g _ a (mR_22 (y.from0 D) N)) ?_
 rintro _ q ⟨Y, ⟨H, I, rfl, a1, a2, aN⟩⟩
 have a3 := D.extk Y
 have aO := sha_le a
 refine aw (vs H (sha a).length I) ?_
 refine wl_nil <| wq_then <| wc_seq <| wc_block ?_
 have Z : ((sha a) : List UInt8) = (sha a) ++ List.replicate 0 (0 : UInt8) := by simp
 refine wc_loopP [(2, (vs none 0 0)), (3, (.slice H ((sha a) ++ List.replicate 0 (0 : UInt8)).length I))] ⟨rfl, (cA (fun l : List UInt8 => Value.slice H l.length I) Z), trivial⟩ (fun e' f => ∃ (j : Nat) (aa : Env) (d : Option Addr) (e : Nat), e' = pt aa [(2, (vs none 0 0)), (3, (.slice d ((sha a) ++ List.replicate j (0 : UInt8)).length e))] ∧ Ch (fun k => b.heap.size ≤ k) b f ∧ Ch (fun k => g.heap.size ≤ k) q f ∧ (sha a).length + j ≤ 64 ∧ (World.ownsRow f g.heap.size 5 1 (.slice d ((sha a) ++ List.replicate j (0 : UInt8)).length e) ((sha a) ++ List.replicate j (0 : UInt8)).length (((sha a) ++ List.replicate j (0 : UInt8)).map bV) ∧ ((sha a) ++ List.replicate j (0 : UInt8)).length ≤ 1073741824)) (fun e' _ => 64 - (lenOf (e' 3))) ?_ ?_
 ·exact fun u => ⟨0, u, H, I, rfl, a3, (Ch.refl (fun k => g.heap.size ≤ k) q), (by omega), (Z ▸ ⟨a1, a2⟩)⟩
 ·rintro _ V ⟨j, aa, d, e, rfl, ab, ac, aP, ⟨t, a4⟩⟩
  have hol : ((sha a) ++ List.replicate j (0 : UInt8)).length = (sha a).length + j := by rw [List.length_append, List.length_replicate]
  refine wc_seq <| sr ?_
  refine mw (vs d ((sha a) ++ List.replicate j (0 : UInt8)).length e) ?_
  refine ln wN slTy_22 (Rd.of_own t) ?_
  refine pu (vb (decide ((((sha a) ++ List.replicate j (0 : UInt8)).length : Int) < 64))) wN ?_
  refine n2 ?_
  rcases bf (decide ((((sha a) ++ List.replicate j (0 : UInt8)).length : Int) < 64)) with x | x
  ·have aQ := dF x
   refine cf x ?_
   refine wc_exit <| wq_then_exit <| wq_then_exit <| wq_blk_exit <| wq_then <| sr ?_
   refine mw (vs d ((sha a) ++ List.replicate j (0 : UInt8)).length e) ?_
   refine aw (vs d ((sha a) ++ List.replicate j (0 : UInt8)).length e) ?_
   refine n3 ?_
   refine rt (vs d ((sha a) ++ List.replicate j (0 : UInt8)).length e) ?_
   refine ⟨ab.keep0, ?_⟩
   have a5 : blockKey a = ((sha a) ++ List.replicate j (0 : UInt8)) := by first | exact blockKey_f (by omega) | exact blockKey_l (by omega) (by omega) (by omega) (by simp only [List.length_append, List.length_replicate] at *; omega) | exact blockKey_s (by omega) (by omega) (by simp only [List.length_append, List.length_replicate] at *; omega)
   rw [a5]
   exact ⟨_, _, rfl, (own_lo t (z2 o C)), a4, ⟨trivial, trivial⟩⟩
  have aR := dT x
  refine ct x ?_
  refine wc_skip <| wq_then <| wc_block <| wc_region ?_
  refine mw (vs d ((sha a) ++ List.replicate j (0 : UInt8)).length e) ?_
  refine ltB ([0] : List UInt8) wN slTy_22 ?_
  intro aS aT ax J a6
  have a7 := (own_kp t J)
  refine apB ((sha a) ++ List.replicate j (0 : UInt8)) ([0] : List UInt8) wN slTy_22 a7 (Rd.of_own a6) (z3 Y ac J) ?_
  intro K L aU ad a8 aV a9
  have aA := (ab.extk J).ext ad (fun k hk => nT (z2 o C) (own_lt t k hk).1)
  refine aw (vs K (((sha a) ++ List.replicate j (0 : UInt8)) ++ ([0] : List UInt8)).length L) ?_
  refine wl_nil <| wq_blk_normal ?_
  have ae : ((((sha a) ++ List.replicate j (0 : UInt8)) ++ ([0] : List UInt8)) : List UInt8) = (sha a) ++ List.replicate (j + 1) (0 : UInt8) := by rw [List.replicate_succ', List.append_assoc]
  refine wq_loopP (w0 := V) [(2, (vs none 0 0)), (3, (.slice K ((sha a) ++ List.replicate (j + 1) (0 : UInt8)).length L))] ?_ ?_ ?_
  · exact ⟨rfl, (cA (fun l : List UInt8 => Value.slice K l.length L) ae), trivial⟩
  · exact fun u => ⟨(j + 1), u, K, L, rfl, aA, ((((Ch.refl (fun k => g.heap.size ≤ k) q).ext ac (fun k hk => hk)).extk J).ext ad (fun k hk => nT (Nat.le_refl g.heap.size) (own_lt t k hk).1)), (by omega), (ae ▸ ⟨a8, a9⟩)⟩
  · show 64 - ((sha a) ++ List.replicate (j + 1) (0 : UInt8)).length < 64 - ((sha a) ++ List.replicate j (0 : UInt8)).length; simp only [List.length_append, List.length_replicate]; omega

theorem csHmac (d : World) (ac : Value) (a : List UInt8) (a8 : R_22 d ac a) (ad : Value) (b : List UInt8) (a9 : R_22 d ad b)  : Fn Tryz.prog 147 #[ac, ad] d (fun v m => Keep d m ∧ O_22 m d.heap.size v (hmac a b)) := by
 obtain ⟨L, M, rfl, ae, aA⟩ := a8
 obtain ⟨o, p, rfl, af, bw⟩ := a9
 refine fn_ofS (n := 49) [(vs L a.length M), (vs o b.length p)] Tryz.func147 rfl rfl ?_
 refine sr ?_
 refine aw (vs none 0 0) ?_
 refine n4 ?_
 refine jT1 [(0, (vs L a.length M)), (1, (vs o b.length p)), (4, (vs none 0 0))] (hmac a b = []) ?_ fun ah => ?_
 ·intro aB e ai bz
  refine sr ?_
  refine wl_lit0 wN rfl rfl slTy_22 (fun w => by kernel_rfl) ?_
  intro aj T aC aD
  have aE := ((Ch.base d).extk ai).extk aC
  refine aw (vs (some aj) 0 0) ?_
  refine n1 ?_
  refine rt (vs (some aj) 0 0) ?_
  refine ⟨aE.keep0, ?_⟩
  rw [aB]
  exact ⟨_, _, rfl, (own_lo aD ai.size), (by simp), ⟨trivial, trivial⟩⟩
 refine mw (vs L a.length M) ?_
 refine ln wN slTy_22 ae ?_
 refine pu (vb (decide (1048576 < (a.length : Int)))) wN ?_
 refine mw (vb (decide (1048576 < (a.length : Int)))) ?_
 rcases bt (decide (1048576 < (a.length : Int))) with f | f
 ·have b0 := dT f
  iterate 3 refine sk f ?_
  refine pk (vb true) wN f ?_
  refine n2 ?_
  refine ct (Eq.refl true) ?_
  have aF : hmac a b = [] := by first | exact hmac_f (by omega) | exact hmac_g (by omega) (by omega) | exact hmac_s (by omega) (by omega)
  exact wj (ah aF _ (Ch.refl _ _))
 have b1 := dF f
 refine mv (vs o b.length p) (wS f) ?_
 refine ln (wS f) slTy_22 af ?_
 refine pu (vb (decide (1048512 < (b.length : Int)))) (wS f) ?_
 refine pf (vb (decide (1048512 < (b.length : Int)))) wN f ?_
 refine n2 ?_
 rcases bt (decide (1048512 < (b.length : Int))) with E | E
 ·have b2 := dT E
  refine ct E ?_
  have aG : hmac a b = [] := by first | exact hmac_f (by omega) | exact hmac_g (by omega) (by omega) | exact hmac_s (by omega) (by omega)
  exact wj (ah aG _ (Ch.refl _ _))
 have b3 := dF E
 refine cf E ?_
 refine y1 ?_
 refine mw (vs L a.length M) ?_
 refine cl wN (csBlockKey d _ a (mR_22 ae aA)) ?_
 rintro _ e ⟨s, ⟨t, y, rfl, V, _⟩⟩
 have b4 := blockKey_le a
 refine aw (vs t (blockKey a).length y) ?_
 refine nx ?_
 refine wl_lit0 wN rfl rfl slTy_22 (fun w => by kernel_rfl) ?_
 intro W T h ak
 refine aw (vs (some W) 0 0) ?_
 refine nx ?_
 refine wl_lit0 wN rfl rfl slTy_22 (fun w => by kernel_rfl) ?_
 intro X Y j am
 have aH := (((Ch.base d).extk s).extk h).extk j
 refine aw (vs (some X) 0 0) ?_
 refine n4 ?_
 refine aw (vi 0) ?_
 refine wl_nil <| wq_then <| wc_block ?_
 have aI := (own_kp ak j)
 have an : ([] : List UInt8) = maskB ((blockKey a).take 0) 54 := by rfl
 have ao : 0 = (maskB ((blockKey a).take 0) 54).length := by rw [← an]; try (first | rfl | simp only [List.length_set] | simp)
 have ap : ([] : List UInt8) = maskB ((blockKey a).take 0) 92 := by rfl
 have aq : 0 = (maskB ((blockKey a).take 0) 92).length := by rw [← ap]; try (first | rfl | simp only [List.length_set] | simp)
 refine wc_loopP [(1, (vs o b.length p)), (4, (vs none 0 0)), (5, (vs t (blockKey a).length y)), (6, (.slice (some W) (maskB ((blockKey a).take 0) 54).length 0)), (7, (.slice (some X) (maskB ((blockKey a).take 0) 92).length 0)), (8, (vi ((0 : Nat) : Int)))] ⟨rfl, rfl, rfl, rfl, rfl, (cA (Value.int .i64) (show (0 : Int) = ((0 : Nat) : Int) by omega)), trivial⟩ (fun e' m => ∃ (i : Nat) (au : Env) (A : Option Addr) (F : Nat) (B : Option Addr) (G : Nat), e' = pt au [(1, (vs o b.length p)), (4, (vs none 0 0)), (5, (vs t (blockKey a).length y)), (6, (.slice A (maskB ((blockKey a).take i) 54).length F)), (7, (.slice B (maskB ((blockKey a).take i) 92).length G)), (8, (vi ((i : Nat) : Int)))] ∧ Ch (fun k => d.heap.size ≤ k) d m ∧ Ch (fun k => e.heap.size ≤ k) Y m ∧ i ≤ 64 ∧ (World.ownsRow m e.heap.size 5 1 (.slice A (maskB ((blockKey a).take i) 54).length F) (maskB ((blockKey a).take i) 54).length ((maskB ((blockKey a).take i) 54).map bV) ∧ (maskB ((blockKey a).take i) 54).length ≤ 1073741824) ∧ (World.ownsRow m T.heap.size 5 1 (.slice B (maskB ((blockKey a).take i) 92).length G) (maskB ((blockKey a).take i) 92).length ((maskB ((blockKey a).take i) 92).map bV) ∧ (maskB ((blockKey a).take i) 92).length ≤ 1073741824) ∧ NeS A B) (fun e' _ => (64 - (intOf (e' 8))).toNat) ?_ ?_
 ·exact fun u => ⟨0, u, (some W), 0, (some X), 0, rfl, aH, (Ch.refl (fun k => e.heap.size ≤ k) Y), (by omega), ⟨(by rw [← ao, ← an]; exact aI), (by rw [← ao]; first | exact (by simp) | (simp only [List.length_append, List.length_take, List.length_replicate]; omega))⟩, ⟨(by rw [← aq, ← ap]; exact am), (by rw [← aq]; first | exact (by simp) | (simp only [List.length_append, List.length_take, List.length_replicate]; omega))⟩, (NeS.lt ak am (Nat.le_refl T.heap.size))⟩
 ·rintro _ aJ ⟨i, au, A, F, B, G, rfl, Z, q, b5, ⟨C, b6⟩, ⟨D, b7⟩, N⟩
  have b8 := maskB_len ((blockKey a).take i) 54
  have b9 := maskB_len ((blockKey a).take i) 92
  have htl : ((blockKey a).take i).length = min i (blockKey a).length := List.length_take
  refine wc_seq <| sr ?_
  refine mw (vi ((i : Nat) : Int)) ?_
  refine pu (vb (decide (((i : Nat) : Int) < 64))) wN ?_
  refine n2 ?_
  rcases bf (decide (((i : Nat) : Int) < 64)) with H | H
  ·have bA := dF H
   refine cf H ?_
   refine wc_exit <| wq_then_exit ?_
   obtain rfl : i = 64 := by omega
   refine wq_then_exit <| wq_blk_exit <| wq_then <| sr ?_
   refine mw (vs B (maskB ((blockKey a).take 64) 92).length G) ?_
   refine mw (vs A (maskB ((blockKey a).take 64) 54).length F) ?_
   refine mw (vs o b.length p) ?_
   refine apB (maskB ((blockKey a).take 64) 54) b wN slTy_22 C (af.from0 Z) (z3 h j q) ?_
   intro bB bC av O ax aK aL
   have aM := Z.ext O (fun k hk => nT s.size (own_lt C k hk).1)
   have aN := NeS.app N aK D
   refine cl wN (csSha av _ ((maskB ((blockKey a).take 64) 54) ++ b) (mR_22 (Rd.of_own ax) aL)) ?_
   rintro _ aO ⟨I, ⟨bD, bE, rfl, aP, _⟩⟩
   have bF := sha_le ((maskB ((blockKey a).take 64) 54) ++ b)
   have aQ := (own_kp (own_ch D O (fun g hg hlt hk => NeS.no (NeS.symm N) hg hk)) I)
   refine apB (maskB ((blockKey a).take 64) 92) (sha ((maskB ((blockKey a).take 64) 54) ++ b)) wN slTy_22 aQ (Rd.of_own aP) (z4 j q O I) ?_
   intro bG bH ay az aR aS aT
   have aU := (aM.extk I).ext az (fun k hk => nT (z2 s h) (own_lt D k hk).1)
   have aV := (own_kp ax I)
   have bI := NeS.app (NeS.symm aN) aS aV
   refine cl wN (csSha ay _ ((maskB ((blockKey a).take 64) 92) ++ (sha ((maskB ((blockKey a).take 64) 54) ++ b))) (mR_22 (Rd.of_own aR) aT)) ?_
   rintro _ aW ⟨aX, ⟨a0, a1, rfl, aY, aZ, bJ⟩⟩
   have ba := aU.extk aX
   have bK := sha_le ((maskB ((blockKey a).take 64) 92) ++ (sha ((maskB ((blockKey a).take 64) 54) ++ b)))
   refine aw (vs a0 (sha ((maskB ((blockKey a).take 64) 92) ++ (sha ((maskB ((blockKey a).take 64) 54) ++ b)))).length a1) ?_
   refine n3 ?_
   refine rt (vs a0 (sha ((maskB ((blockKey a).take 64) 92) ++ (sha ((maskB ((blockKey a).take 64) 54) ++ b)))).length a1) ?_
   refine ⟨ba.keep0, ?_⟩
   have bb : hmac a b = (sha ((maskB ((blockKey a).take 64) 92) ++ (sha ((maskB ((blockKey a).take 64) 54) ++ b)))) := by first | exact hmac_f (by omega) | exact hmac_g (by omega) (by omega) | exact hmac_s (by omega) (by omega)
   rw [bb]
   exact ⟨_, _, rfl, (own_lo aY (z7 s h j q O I az)), aZ, ⟨trivial, trivial⟩⟩
  have bL := dT H
  refine ct H ?_
  refine wc_skip <| wq_then <| wc_seq <| wc_block <| sr ?_
  refine mw (vs A (maskB ((blockKey a).take i) 54).length F) ?_
  refine mw (vs t (blockKey a).length y) ?_
  refine mw (vi ((i : Nat) : Int)) ?_
  have aa := (own_ch (own_kp (own_kp V h) j) q (fun g hg hlt hk => by have bc := (own_lt V g hg).2; have bd : e.heap.size ≤ e.heap.size := (Nat.le_refl e.heap.size); have be : e.heap.size ≤ g := hk; omega))
  refine ix wN ((i : Nat) : Int) slTy_22 (Rd.of_own aa) ?_
  refine eb (x := (blockKey a)) i wN isAgg_5 (Rd.of_own aa) ?_
  refine wl_xor8 ((blockKey a).getD i 0) 54 wN rfl rfl (by kernel_rfl) ?_
  refine ltB ([(((blockKey a).getD i 0) ^^^ 54)] : List UInt8) wN slTy_22 ?_
  intro bM bN av r bg
  have bh := (own_kp C r)
  refine apB (maskB ((blockKey a).take i) 54) ([(((blockKey a).getD i 0) ^^^ 54)] : List UInt8) wN slTy_22 bh (Rd.of_own bg) (z4 h j q r) ?_
  intro P Q aO J bi bj bk
  have bl := (Z.extk r).ext J (fun k hk => nT s.size (own_lt C k hk).1)
  have a2 := (own_kp D r)
  have a3 := NeS.app N bj a2
  refine aw (vs P ((maskB ((blockKey a).take i) 54) ++ ([(((blockKey a).getD i 0) ^^^ 54)] : List UInt8)).length Q) ?_
  refine wl_nil <| wq_then <| wc_region ?_
  refine mw (vs B (maskB ((blockKey a).take i) 92).length G) ?_
  refine mw (vs t (blockKey a).length y) ?_
  refine mw (vi ((i : Nat) : Int)) ?_
  have a4 := (own_ch (own_kp aa r) J (fun g hg hlt hk => by have bc := (own_lt V g hg).2; have bd := (own_lt C g hk).1; have be := (Nat.le_refl e.heap.size); omega))
  refine ix wN ((i : Nat) : Int) slTy_22 (Rd.of_own a4) ?_
  refine eb (x := (blockKey a)) i wN isAgg_5 (Rd.of_own a4) ?_
  refine wl_xor8 ((blockKey a).getD i 0) 92 wN rfl rfl (by kernel_rfl) ?_
  refine ltB ([(((blockKey a).getD i 0) ^^^ 92)] : List UInt8) wN slTy_22 ?_
  intro bO bP ay K bm
  have bn := (own_kp (own_ch a2 J (fun g hg hlt hk => NeS.no (NeS.symm N) hg hk)) K)
  refine apB (maskB ((blockKey a).take i) 92) ([(((blockKey a).getD i 0) ^^^ 92)] : List UInt8) wN slTy_22 bn (Rd.of_own bm) (z5 j q r J K) ?_
  intro R S aW ab bo bp bq
  have br := (bl.extk K).ext ab (fun k hk => nT (z2 s h) (own_lt D k hk).1)
  have a5 := (own_kp bi K)
  have bu := NeS.app (NeS.symm a3) bp a5
  refine aw (vs R ((maskB ((blockKey a).take i) 92) ++ ([(((blockKey a).getD i 0) ^^^ 92)] : List UInt8)).length S) ?_
  refine wl_nil <| wq_blk_normal <| wq_then <| wc_region ?_
  refine mw (vi ((i : Nat) : Int)) ?_
  refine ar (((i : Nat) : Int) + 1) wN ?_
  refine aw (vi (((i : Nat) : Int) + 1)) ?_
  refine wl_nil ?_
  have bv := (own_ch a5 ab (fun g hg hlt hk => NeS.no a3 hg hk))
  have a6 : (((maskB ((blockKey a).take i) 54) ++ ([(((blockKey a).getD i 0) ^^^ 54)] : List UInt8)) : List UInt8) = maskB ((blockKey a).take (i + 1)) 54 := by exact mask_next (by omega)
  have a7 : (((maskB ((blockKey a).take i) 92) ++ ([(((blockKey a).getD i 0) ^^^ 92)] : List UInt8)) : List UInt8) = maskB ((blockKey a).take (i + 1)) 92 := by exact mask_next (by omega)
  refine wq_loopP (w0 := aJ) [(1, (vs o b.length p)), (4, (vs none 0 0)), (5, (vs t (blockKey a).length y)), (6, (.slice P (maskB ((blockKey a).take (i + 1)) 54).length Q)), (7, (.slice R (maskB ((blockKey a).take (i + 1)) 92).length S)), (8, (vi (((i + 1) : Nat) : Int)))] ?_ ?_ ?_
  · exact ⟨rfl, rfl, rfl, (cA (fun l : List UInt8 => Value.slice P l.length Q) a6), (cA (fun l : List UInt8 => Value.slice R l.length S) a7), (cA (Value.int .i64) (show ((((i : Nat) : Int) + 1) : Int) = (((i + 1) : Nat) : Int) by omega)), trivial⟩
  · exact fun u => ⟨(i + 1), u, P, Q, R, S, rfl, br, ((((((Ch.refl (fun k => e.heap.size ≤ k) Y).ext q (fun k hk => hk)).extk r).ext J (fun k hk => nT (Nat.le_refl e.heap.size) (own_lt C k hk).1)).extk K).ext ab (fun k hk => nT h.size (own_lt D k hk).1)), (by omega), (a6 ▸ ⟨bv, bk⟩), (a7 ▸ ⟨bo, bq⟩), (NeS.symm bu)⟩
  · show (64 - (((i + 1) : Nat) : Int)).toNat < (64 - ((i : Nat) : Int)).toNat; omega

theorem csBlockOf (f : World) (p : Value) (d : List UInt8) (H : R_22 f p d) (q : Value) (a : List UInt8) (I : R_22 f q a) (b : Int)  : Fn Tryz.prog 159 #[p, q, (vi b)] f (fun v r => Keep f r ∧ O_22 r f.heap.size v (blkOf d a b)) := by
 obtain ⟨l, m, rfl, J, K⟩ := H
 obtain ⟨i, j, rfl, s, ah⟩ := I
 refine fn_ofS (n := 23) [(vs l d.length m), (vs i a.length j), (vi b)] Tryz.func159 rfl rfl ?_
 refine sr ?_
 refine aw (vs none 0 0) ?_
 refine n4 ?_
 refine jT1 [(0, (vs l d.length m)), (1, (vs i a.length j)), (2, (vi b)), (6, (vs none 0 0))] (blkOf d a b = []) ?_ fun t => ?_
 ·intro L M u ai
  refine sr ?_
  refine wl_lit0 wN rfl rfl slTy_22 (fun w => by kernel_rfl) ?_
  intro x N O P
  have Q := ((Ch.base f).extk u).extk O
  refine aw (vs (some x) 0 0) ?_
  refine n1 ?_
  refine rt (vs (some x) 0 0) ?_
  refine ⟨Q.keep0, ?_⟩
  rw [L]
  exact ⟨_, _, rfl, (own_lo P u.size), (by simp), ⟨trivial, trivial⟩⟩
 refine mw (vi b) ?_
 refine cl wN (csl1In f b 0 6) ?_
 rintro _ M ⟨g, rfl⟩
 have y := (Ch.base f).extk g
 refine pu (vb (!(s_l1In b 0 6))) wN ?_
 refine mw (vb (!(s_l1In b 0 6))) ?_
 rcases bf (s_l1In b 0 6) with e | e
 ·have aj := spec_l1In_f e
  iterate 3 refine sk (cA not e) ?_
  refine pk (vb true) wN (cA not e) ?_
  refine n2 ?_
  refine ct (Eq.refl true) ?_
  have R : blkOf d a b = [] := by first | exact blkOf_f (by omega) | exact blkOf_t (by omega) (by omega) (by omega) (by simp [joinB])
  exact wj (t R _ g)
 have ak := spec_l1In_t e
 refine mv (vs i a.length j) (wS (cA not e)) ?_
 refine ln (wS (cA not e)) slTy_22 (s.from0 y) ?_
 refine pu (vb (decide (100 < (a.length : Int)))) (wS (cA not e)) ?_
 refine pf (vb (decide (100 < (a.length : Int)))) wN (cA not e) ?_
 refine n2 ?_
 rcases bt (decide (100 < (a.length : Int))) with h | h
 ·have am := dT h
  refine ct h ?_
  have S : blkOf d a b = [] := by first | exact blkOf_f (by omega) | exact blkOf_t (by omega) (by omega) (by omega) (by simp [joinB])
  exact wj (t S _ g)
 have an := dF h
 refine cf h ?_
 refine y1 ?_
 refine mw (vs l d.length m) ?_
 refine ltB ([115] : List UInt8) wN slTy_22 ?_
 intro ao ap N o A
 have B := y.extk o
 refine mw (vs i a.length j) ?_
 refine apB ([115] : List UInt8) a wN slTy_22 A (s.from0 B) o.size ?_
 intro aq au T C V av W
 have X := B.ext C (fun k hk => nT g.size (own_lt A k hk).1)
 refine mw (vi b) ?_
 refine cl wN (csPutN T _ (([115] : List UInt8) ++ a) (mR_22 (Rd.of_own V) W) b 4 (by first | omega | (simp; done) | (simp; omega) | (simp only [List.length_append, List.length_cons, List.length_nil] at *; omega))) ?_
 rintro _ Y ⟨D, ⟨ax, ay, rfl, Z, aa, az⟩⟩
 have E := X.extk D
 have a0 := putN_len (([115] : List UInt8) ++ a) b 4
 refine cl wN (csHmac Y _ d (mR_22 (J.from0 E) K) _ (putN (([115] : List UInt8) ++ a) b 4) (mR_22 (Rd.of_own Z) aa)) ?_
 rintro _ a1 ⟨ab, ⟨F, G, rfl, ac, ad, a2⟩⟩
 have ae := E.extk ab
 have a3 := hmac_le d (putN (([115] : List UInt8) ++ a) b 4)
 refine aw (vs F (hmac d (putN (([115] : List UInt8) ++ a) b 4)).length G) ?_
 refine n3 ?_
 refine rt (vs F (hmac d (putN (([115] : List UInt8) ++ a) b 4)).length G) ?_
 refine ⟨ae.keep0, ?_⟩
 have af : blkOf d a b = (hmac d (putN (([115] : List UInt8) ++ a) b 4)) := by first | exact blkOf_f (by omega) | exact blkOf_t (by omega) (by omega) (by omega) (by simp [joinB])
 rw [af]
 exact ⟨_, _, rfl, (own_lo ac (z4 g o C D)), ad, ⟨trivial, trivial⟩⟩

theorem csStream (e : World) (L : Value) (b : List UInt8) (ab : R_22 e L b) (M : Value) (a : List UInt8) (ac : R_22 e M a) (d : Int)  : Fn Tryz.prog 151 #[L, M, (vi d)] e (fun v o => Keep e o ∧ O_22 o e.heap.size v (stream b a d)) := by
 obtain ⟨h, i, rfl, N, ad⟩ := ab
 obtain ⟨j, m, rfl, O, ae⟩ := ac
 refine fn_ofS (n := 41) [(vs h b.length i), (vs j a.length m), (vi d)] Tryz.func151 rfl rfl ?_
 refine sr ?_
 refine aw (vs none 0 0) ?_
 refine n4 ?_
 refine jT1 [(0, (vs h b.length i)), (1, (vs j a.length m)), (2, (vi d)), (6, (vs none 0 0))] (stream b a d = []) ?_ fun F => ?_
 ·intro af p P a9
  refine sr ?_
  refine wl_lit0 wN rfl rfl slTy_22 (fun w => by kernel_rfl) ?_
  intro Q A ah ai
  have aj := ((Ch.base e).extk P).extk ah
  refine aw (vs (some Q) 0 0) ?_
  refine n1 ?_
  refine rt (vs (some Q) 0 0) ?_
  refine ⟨aj.keep0, ?_⟩
  rw [af]
  exact ⟨_, _, rfl, (own_lo ai P.size), (by simp), ⟨trivial, trivial⟩⟩
 refine mw (vi d) ?_
 refine cl wN (csl1In e d 0 200) ?_
 rintro _ p ⟨q, rfl⟩
 have G := (Ch.base e).extk q
 refine pu (vb (!(s_l1In d 0 200))) wN ?_
 refine mw (vb (!(s_l1In d 0 200))) ?_
 rcases bf (s_l1In d 0 200) with f | f
 ·have aA := spec_l1In_f f
  iterate 3 refine sk (cA not f) ?_
  refine pk (vb true) wN (cA not f) ?_
  refine mw (vb true) ?_
  iterate 3 refine sk (Eq.refl true) ?_
  refine pk (vb true) wN (Eq.refl true) ?_
  refine n2 ?_
  refine ct (Eq.refl true) ?_
  have ak : stream b a d = [] := by first | exact stream_f (by omega) | exact stream_t (by omega) (by omega) (by omega) (by omega) (by omega) (by omega)
  exact wj (F ak _ q)
 have aB := spec_l1In_t f
 refine mv (vs j a.length m) (wS (cA not f)) ?_
 refine ln (wS (cA not f)) slTy_22 (O.from0 G) ?_
 refine pu (vb (decide (100 < (a.length : Int)))) (wS (cA not f)) ?_
 refine pf (vb (decide (100 < (a.length : Int)))) wN (cA not f) ?_
 refine mw (vb (decide (100 < (a.length : Int)))) ?_
 rcases bt (decide (100 < (a.length : Int))) with g | g
 ·have aC := dT g
  iterate 3 refine sk g ?_
  refine pk (vb true) wN g ?_
  refine n2 ?_
  refine ct (Eq.refl true) ?_
  have am : stream b a d = [] := by first | exact stream_f (by omega) | exact stream_t (by omega) (by omega) (by omega) (by omega) (by omega) (by omega)
  exact wj (F am _ q)
 have aD := dF g
 refine mv (vs h b.length i) (wS g) ?_
 refine ln (wS g) slTy_22 (N.from0 G) ?_
 refine pu (vb (decide (1048576 < (b.length : Int)))) (wS g) ?_
 refine pf (vb (decide (1048576 < (b.length : Int)))) wN g ?_
 refine n2 ?_
 rcases bt (decide (1048576 < (b.length : Int))) with t | t
 ·have aE := dT t
  refine ct t ?_
  have an : stream b a d = [] := by first | exact stream_f (by omega) | exact stream_t (by omega) (by omega) (by omega) (by omega) (by omega) (by omega)
  exact wj (F an _ q)
 have aF := dF t
 refine cf t ?_
 refine y1 ?_
 refine wl_lit0 wN rfl rfl slTy_22 (fun w => by kernel_rfl) ?_
 intro H A I ao
 have ap := G.extk I
 refine aw (vs (some H) 0 0) ?_
 refine n4 ?_
 refine aw (vi 0) ?_
 refine wl_nil <| wq_then <| wc_block ?_
 have R : ([] : List UInt8) = strN b a 0 := by rfl
 have S : 0 = (strN b a 0).length := by rw [← R]; try (first | rfl | simp only [List.length_set] | simp)
 refine wc_loopP [(0, (vs h b.length i)), (1, (vs j a.length m)), (2, (vi d)), (6, (vs none 0 0)), (7, (.slice (some H) (strN b a 0).length 0)), (8, (vi ((0 : Nat) : Int)))] ⟨rfl, rfl, rfl, rfl, rfl, (cA (Value.int .i64) (show (0 : Int) = ((0 : Nat) : Int) by omega)), trivial⟩ (fun e' o => ∃ (k : Nat) (T : Env) (r : Option Addr) (s : Nat), e' = pt T [(0, (vs h b.length i)), (1, (vs j a.length m)), (2, (vi d)), (6, (vs none 0 0)), (7, (.slice r (strN b a k).length s)), (8, (vi ((k : Nat) : Int)))] ∧ Ch (fun k => e.heap.size ≤ k) e o ∧ Ch (fun k => p.heap.size ≤ k) A o ∧ 32 * ((k : Nat) : Int) < d + 32 ∧ (World.ownsRow o p.heap.size 5 1 (.slice r (strN b a k).length s) (strN b a k).length ((strN b a k).map bV) ∧ (strN b a k).length ≤ 1073741824)) (fun e' _ => d.toNat - (lenOf (e' 7))) ?_ ?_
 ·exact fun u => ⟨0, u, (some H), 0, rfl, ap, (Ch.refl (fun k => p.heap.size ≤ k) A), (by omega), ⟨(by rw [← S, ← R]; exact ao), (by rw [← S]; first | exact (by simp) | (simp only [List.length_append, List.length_take, List.length_replicate]; omega))⟩⟩
 ·rintro _ V ⟨k, T, r, s, rfl, B, J, aG, ⟨x, aq⟩⟩
  have hsl := strN_or (key := b) (head := a) (by omega) (by omega) k
  have hsm := strN_or (key := b) (head := a) (by omega) (by omega) (k + 1)
  refine wc_seq <| sr ?_
  refine mw (vs r (strN b a k).length s) ?_
  refine ln wN slTy_22 (Rd.of_own x) ?_
  refine mw (vi d) ?_
  refine pu (vb (decide (((strN b a k).length : Int) < d))) wN ?_
  refine n2 ?_
  rcases bt (decide (((strN b a k).length : Int) < d)) with y | y
  ·have aH := dT y
   refine ct y ?_
   refine wc_skip <| wq_then <| wc_seq <| wc_block <| wc_region ?_
   refine mw (vs r (strN b a k).length s) ?_
   refine mw (vs h b.length i) ?_
   refine mw (vs j a.length m) ?_
   refine mw (vi ((k : Nat) : Int)) ?_
   refine cl wN (csBlockOf V _ b (mR_22 (N.from0 B) ad) _ a (mR_22 (O.from0 B) ae) ((k : Nat) : Int)) ?_
   rintro _ au ⟨C, ⟨aI, aJ, rfl, av, _⟩⟩
   have aK := blkOf_len b a ((k : Nat) : Int)
   have ax := (own_kp x C)
   refine apB (strN b a k) (blkOf b a ((k : Nat) : Int)) wN slTy_22 ax (Rd.of_own av) (z3 I J C) ?_
   intro D E ay W az aL a0
   have a1 := (B.extk C).ext W (fun k hk => nT q.size (own_lt x k hk).1)
   refine aw (vs D ((strN b a k) ++ (blkOf b a ((k : Nat) : Int))).length E) ?_
   refine wl_nil <| wq_blk_normal <| wq_then <| wc_region ?_
   refine mw (vi ((k : Nat) : Int)) ?_
   refine ar (((k : Nat) : Int) + 1) wN ?_
   refine aw (vi (((k : Nat) : Int) + 1)) ?_
   refine wl_nil ?_
   have X : (((strN b a k) ++ (blkOf b a ((k : Nat) : Int))) : List UInt8) = strN b a (k + 1) := by rfl
   refine wq_loopP (w0 := V) [(0, (vs h b.length i)), (1, (vs j a.length m)), (2, (vi d)), (6, (vs none 0 0)), (7, (.slice D (strN b a (k + 1)).length E)), (8, (vi (((k + 1) : Nat) : Int)))] ?_ ?_ ?_
   · exact ⟨rfl, rfl, rfl, rfl, (cA (fun l : List UInt8 => Value.slice D l.length E) X), (cA (Value.int .i64) (show ((((k : Nat) : Int) + 1) : Int) = (((k + 1) : Nat) : Int) by omega)), trivial⟩
   · exact fun u => ⟨(k + 1), u, D, E, rfl, a1, ((((Ch.refl (fun k => p.heap.size ≤ k) A).ext J (fun k hk => hk)).extk C).ext W (fun k hk => nT (Nat.le_refl p.heap.size) (own_lt x k hk).1)), (by omega), (X ▸ ⟨az, a0⟩)⟩
   · show d.toNat - (strN b a (k + 1)).length < d.toNat - (strN b a k).length; omega
  have aM := dF y
  refine cf y ?_
  refine wc_exit <| wq_then_exit <| wq_then_exit <| wq_blk_exit <| wq_then <| sr ?_
  refine wl_lit0 wN rfl rfl slTy_22 (fun w => by kernel_rfl) ?_
  intro aN au K a2
  refine mw (vs r (strN b a k).length s) ?_
  refine mw (vi d) ?_
  have Y := (own_kp x K)
  refine slv ((strN b a k).take ((d).toNat)) 0 ((d).toNat) wN slTy_22 (Rd.of_own Y) (by first | omega | (simp <;> omega)) (by first | omega | (simp <;> omega)) (by first | rfl | (simp; done) | (rw [List.take_of_length_le (by first | (simp; done) | (simp; omega))])) rfl rfl rfl rfl (.inl ⟨rfl, rfl⟩) (.inr ⟨_, _, _, rfl, rfl, by omega⟩) ?_
  have a3 : 0 ≤ ((d).toNat) := (by first | omega | (simp <;> omega))
  have a4 : ((d).toNat) ≤ (strN b a k).length := (by first | omega | (simp <;> omega))
  refine ap0 ((strN b a k).take ((d).toNat)) wN slTy_22 a2 (Rd.subV (x' := ((strN b a k).take ((d).toNat))) (Rd.of_own Y) a3 a4 (by first | rfl | (simp; done) | (rw [List.take_of_length_le (by first | (simp; done) | (simp; omega))]))) K.size ?_
  intro Z aa ay a5 a6 aO
  have a7 := (B.extk K).extk a5
  refine aw (vs Z ((strN b a k).take ((d).toNat)).length aa) ?_
  refine n3 ?_
  refine rt (vs Z ((strN b a k).take ((d).toNat)).length aa) ?_
  refine ⟨a7.keep0, ?_⟩
  have a8 : stream b a d = ((strN b a k).take ((d).toNat)) := by first | exact stream_f (by omega) | exact stream_t (by omega) (by omega) (by omega) (by omega) (by omega) (by omega)
  rw [a8]
  exact ⟨_, _, rfl, (own_lo a6 (z3 q I J)), (nT (by simp only [List.length_take, List.length_drop]; omega) aq), ⟨trivial, trivial⟩⟩

theorem csMix (f : World) (ac : Value) (d : List UInt8) (az : R_22 f ac d) (ad : Value) (b : List UInt8) (a0 : R_22 f ad b) (ae : Value) (a : List UInt8) (a1 : R_22 f ae a)  : Fn Tryz.prog 126 #[ac, ad, ae] f (fun v q => Keep f q ∧ O_22 q f.heap.size v (mixB d b a)) := by
 obtain ⟨A, J, rfl, af, a2⟩ := az
 obtain ⟨K, L, rfl, ah, a3⟩ := a0
 obtain ⟨i, j, rfl, E, be⟩ := a1
 refine fn_ofS (n := 49) [(vs A d.length J), (vs K b.length L), (vs i a.length j)] Tryz.func126 rfl rfl ?_
 refine sr ?_
 refine aw (vs none 0 0) ?_
 refine nx ?_
 refine wl_lit0 wN rfl rfl slTy_22 (fun w => by kernel_rfl) ?_
 intro D M ai T
 have B := (Ch.base f).extk ai
 refine aw (vs (some D) 0 0) ?_
 refine n4 ?_
 refine jT1 [(0, (vs A d.length J)), (1, (vs K b.length L)), (2, (vs i a.length j)), (6, (vs none 0 0)), (7, (vs (some D) 0 0))] (mixB d b a = []) ?_ fun V => ?_
 ·intro a4 N aj bg
  have a5 := B.extk aj
  refine sr ?_
  refine mw (vs (some D) 0 0) ?_
  refine aw (vs (some D) 0 0) ?_
  refine n1 ?_
  have a6 := (own_kp T aj)
  refine rt (vs (some D) 0 0) ?_
  refine ⟨a5.keep0, ?_⟩
  rw [a4]
  exact ⟨_, _, rfl, a6, (by simp), ⟨trivial, trivial⟩⟩
 refine mw (vs i a.length j) ?_
 refine ln wN slTy_22 (E.from0 B) ?_
 refine pu (vb (decide (200 < (a.length : Int)))) wN ?_
 refine mw (vb (decide (200 < (a.length : Int)))) ?_
 rcases bt (decide (200 < (a.length : Int))) with r | r
 ·have bh := dT r
  iterate 3 refine sk r ?_
  refine pk (vb true) wN r ?_
  refine mw (vb true) ?_
  iterate 3 refine sk (Eq.refl true) ?_
  refine pk (vb true) wN (Eq.refl true) ?_
  refine n2 ?_
  refine ct (Eq.refl true) ?_
  have a7 : mixB d b a = [] := by first | exact mixB_f (by omega) | exact mixB_t (by omega) (by omega) (by omega) (by omega)
  exact wj (V a7 _ (Ch.refl _ _))
 have bi := dF r
 refine mv (vs K b.length L) (wS r) ?_
 refine ln (wS r) slTy_22 (ah.from0 B) ?_
 refine pu (vb (decide (100 < (b.length : Int)))) (wS r) ?_
 refine pf (vb (decide (100 < (b.length : Int)))) wN r ?_
 refine mw (vb (decide (100 < (b.length : Int)))) ?_
 rcases bt (decide (100 < (b.length : Int))) with s | s
 ·have bj := dT s
  iterate 3 refine sk s ?_
  refine pk (vb true) wN s ?_
  refine n2 ?_
  refine ct (Eq.refl true) ?_
  have a8 : mixB d b a = [] := by first | exact mixB_f (by omega) | exact mixB_t (by omega) (by omega) (by omega) (by omega)
  exact wj (V a8 _ (Ch.refl _ _))
 have bk := dF s
 refine mv (vs A d.length J) (wS s) ?_
 refine ln (wS s) slTy_22 (af.from0 B) ?_
 refine pu (vb (decide (1048576 < (d.length : Int)))) (wS s) ?_
 refine pf (vb (decide (1048576 < (d.length : Int)))) wN s ?_
 refine n2 ?_
 rcases bt (decide (1048576 < (d.length : Int))) with F | F
 ·have bl := dT F
  refine ct F ?_
  have a9 : mixB d b a = [] := by first | exact mixB_f (by omega) | exact mixB_t (by omega) (by omega) (by omega) (by omega)
  exact wj (V a9 _ (Ch.refl _ _))
 have bm := dF F
 refine cf F ?_
 refine y1 ?_
 refine mw (vs A d.length J) ?_
 refine mw (vs K b.length L) ?_
 refine mw (vs i a.length j) ?_
 refine ln wN slTy_22 (E.from0 B) ?_
 refine cl wN (csStream M _ d (mR_22 (af.from0 B) a2) _ b (mR_22 (ah.from0 B) a3) (a.length : Int)) ?_
 rintro _ N ⟨W, ⟨O, P, rfl, ak, aA, bn⟩⟩
 have aB := B.extk W
 have bo := stream_len d b (a.length : Int)
 refine aw (vs O (stream d b (a.length : Int)).length P) ?_
 refine n4 ?_
 refine aw (vi 0) ?_
 refine wl_nil <| wq_then <| wc_block ?_
 have aC := (own_kp T W)
 have am : ([] : List UInt8) = zipX (a.take 0) ((stream d b (a.length : Int)).take 0) := by rfl
 have an : 0 = (zipX (a.take 0) ((stream d b (a.length : Int)).take 0)).length := by rw [← am]; try (first | rfl | simp only [List.length_set] | simp)
 have ao : ((stream d b (a.length : Int)) : List UInt8) = (stream d b (a.length : Int)) := by rfl
 refine wc_loopP [(2, (vs i a.length j)), (6, (vs none 0 0)), (7, (.slice (some D) (zipX (a.take 0) ((stream d b (a.length : Int)).take 0)).length 0)), (8, (.slice O ((stream d b (a.length : Int))).length P)), (9, (vi ((0 : Nat) : Int)))] ⟨rfl, rfl, rfl, (cA (fun l : List UInt8 => Value.slice O l.length P) ao), (cA (Value.int .i64) (show (0 : Int) = ((0 : Nat) : Int) by omega)), trivial⟩ (fun e' q => ∃ (k : Nat) (ap : Env) (t : Option Addr) (C : Nat) (p : Option Addr) (y : Nat), e' = pt ap [(2, (vs i a.length j)), (6, (vs none 0 0)), (7, (.slice t (zipX (a.take k) ((stream d b (a.length : Int)).take k)).length C)), (8, (.slice p ((stream d b (a.length : Int))).length y)), (9, (vi ((k : Nat) : Int)))] ∧ Ch (fun k => f.heap.size ≤ k) f q ∧ Ch (fun k => f.heap.size ≤ k) N q ∧ k ≤ a.length ∧ (World.ownsRow q f.heap.size 5 1 (.slice t (zipX (a.take k) ((stream d b (a.length : Int)).take k)).length C) (zipX (a.take k) ((stream d b (a.length : Int)).take k)).length ((zipX (a.take k) ((stream d b (a.length : Int)).take k)).map bV) ∧ (zipX (a.take k) ((stream d b (a.length : Int)).take k)).length ≤ 1073741824) ∧ (World.ownsRow q M.heap.size 5 1 (.slice p ((stream d b (a.length : Int))).length y) ((stream d b (a.length : Int))).length (((stream d b (a.length : Int))).map bV) ∧ ((stream d b (a.length : Int))).length ≤ 1073741824) ∧ NeS t p) (fun e' _ => a.length - ((intOf (e' 9))).toNat) ?_ ?_
 ·exact fun u => ⟨0, u, (some D), 0, O, P, rfl, aB, (Ch.refl (fun k => f.heap.size ≤ k) N), (by omega), ⟨(by rw [← an, ← am]; exact aC), (by rw [← an]; first | exact (by simp) | (simp only [List.length_append, List.length_take, List.length_replicate]; omega))⟩, (ao ▸ ⟨ak, aA⟩), (NeS.lt T ak (Nat.le_refl M.heap.size))⟩
 ·rintro _ X ⟨k, ap, t, C, p, y, rfl, G, aq, bp, ⟨Q, aD⟩, ⟨Y, aE⟩, au⟩
  have hzl := zipX_le a (stream d b (a.length : Int)) k
  have hsl := stream_len d b (a.length : Int)
  refine wc_seq <| sr ?_
  refine mw (vi ((k : Nat) : Int)) ?_
  refine mw (vs i a.length j) ?_
  refine ln wN slTy_22 (E.from0 G) ?_
  refine pu (vb (decide (((k : Nat) : Int) < (a.length : Int)))) wN ?_
  refine n2 ?_
  rcases bf (decide (((k : Nat) : Int) < (a.length : Int))) with H | H
  ·have bq := dF H
   refine cf H ?_
   refine wc_exit <| wq_then_exit <| wq_then_exit <| wq_blk_exit <| wq_then <| sr ?_
   refine mw (vs t (zipX (a.take k) ((stream d b (a.length : Int)).take k)).length C) ?_
   refine aw (vs t (zipX (a.take k) ((stream d b (a.length : Int)).take k)).length C) ?_
   refine n3 ?_
   refine rt (vs t (zipX (a.take k) ((stream d b (a.length : Int)).take k)).length C) ?_
   refine ⟨G.keep0, ?_⟩
   have aF : mixB d b a = (zipX (a.take k) ((stream d b (a.length : Int)).take k)) := by first | exact mixB_f (by omega) | exact mixB_t (by omega) (by omega) (by omega) (by omega)
   rw [aF]
   exact ⟨_, _, rfl, Q, aD, ⟨trivial, trivial⟩⟩
  have br := dT H
  refine ct H ?_
  refine wc_skip <| wq_then <| wc_seq <| wc_block ?_
  refine wc_drawT ([(36, [], [], (fun _ v _ => v = (vs t (zipX (a.take k) ((stream d b (a.length : Int)).take k)).length C))), (37, [], [], (fun _ v _ => v = (vs i a.length j))), (38, [], [], (fun _ v _ => v = (vi ((k : Nat) : Int)))), (39, [], [1, 2], (fun _ v _ => v = (ve (vs i a.length j) ((((k : Nat) : Int)).toNat * 1)))), (40, [], [1, 2, 3], (fun _ v _ => v = (v8 ((a.getD k 0).toNat : Int)))), (41, [], [], (fun _ v _ => v = (vs p ((stream d b (a.length : Int))).length y))), (42, [], [], (fun _ v _ => v = (vi ((k : Nat) : Int)))), (43, [], [5, 6], (fun _ v _ => v = (ve (vs p ((stream d b (a.length : Int))).length y) ((((k : Nat) : Int)).toNat * 1)))), (44, [], [5, 6, 7], (fun _ v _ => v = (v8 (((stream d b (a.length : Int)).getD k 0).toNat : Int)))), (45, [], [1, 2, 3, 4, 5, 6, 7, 8], (fun _ v _ => v = (v8 (((a.getD k 0) ^^^ ((stream d b (a.length : Int)).getD k 0)).toNat : Int)))), (46, [], [1, 2, 3, 4, 5, 6, 7, 8, 9], (fun _ v w => ∃ (A : Option Addr) (Z : Nat), v = .slice A ([((a.getD k 0) ^^^ ((stream d b (a.length : Int)).getD k 0))] : List UInt8).length Z ∧ w.ownsRow X.heap.size 5 1 (.slice A ([((a.getD k 0) ^^^ ((stream d b (a.length : Int)).getD k 0))] : List UInt8).length Z) ([((a.getD k 0) ^^^ ((stream d b (a.length : Int)).getD k 0))] : List UInt8).length (([((a.getD k 0) ^^^ ((stream d b (a.length : Int)).getD k 0))] : List UInt8).map bV) ∧ ([((a.getD k 0) ^^^ ((stream d b (a.length : Int)).getD k 0))] : List UInt8).length ≤ 1073741824 ∧ Aps [(A, Z)]))] : GV) (fun _ q => Keep X q) [] mixed rfl (by kernel_rfl) (by kernel_rfl) ?_ (fun _ _ h => h) (fun _ _ _ _ h _ k => h.trans k) trivial ?_ ?_ ?_
  ·exact ⟨hV, hE, ⟨hV, hE, ⟨hV, hE, ⟨hV, hE, ⟨hV, hE, ⟨hV, hE, ⟨hV, hE, ⟨hV, hE, ⟨hV, hE, ⟨hV, hE, ⟨(fun e v w M h hk => by obtain ⟨aG, aH, he, aI, aJ, hap⟩ := h; exact ⟨aG, aH, he, own_kp aI hk, aJ, hap⟩), hE, trivial⟩⟩⟩⟩⟩⟩⟩⟩⟩⟩⟩
  ·exact trivial
  ·refine ⟨?_, ⟨?_, ⟨?_, ⟨?_, ⟨?_, ⟨?_, ⟨?_, ⟨?_, ⟨?_, ⟨?_, ⟨?_, trivial⟩⟩⟩⟩⟩⟩⟩⟩⟩⟩⟩
   ·intro _ o bu _
    rintro _ _ _ _ _ _ _ _ _ _ _
    show WL _ _ _ _ _ _ _
    refine mw (vs t (zipX (a.take k) ((stream d b (a.length : Int)).take k)).length C) ?_
    exact f1
   ·intro _ o bv _
    rintro _ _ _ _ _ _ _ _ _ _ _
    show WL _ _ _ _ _ _ _
    refine mw (vs i a.length j) ?_
    exact f1
   ·intro _ o bw _
    rintro _ _ _ _ _ _ _ _ _ _ _
    show WL _ _ _ _ _ _ _
    refine mw (vi ((k : Nat) : Int)) ?_
    exact f1
   ·intro _ o aK _
    have aL := G.extk aK
    rintro _ _ rfl _ rfl _ _ _ _ _ _ _ _
    show WL _ _ _ _ _ _ _
    refine ix wN ((k : Nat) : Int) slTy_22 (E.from0 aL) ?_
    exact f1
   ·intro _ o aM _
    have aN := G.extk aM
    rintro _ _ rfl _ rfl _ rfl _ _ _ _ _ _ _
    show WL _ _ _ _ _ _ _
    refine eb (x := a) k wN isAgg_5 (E.from0 aN) ?_
    exact f1
   ·intro _ o bz _
    rintro _ _ _ _ _ _ _ _ _ _ _
    show WL _ _ _ _ _ _ _
    refine mw (vs p ((stream d b (a.length : Int))).length y) ?_
    exact f1
   ·intro _ o b0 _
    rintro _ _ _ _ _ _ _ _ _ _ _
    show WL _ _ _ _ _ _ _
    refine mw (vi ((k : Nat) : Int)) ?_
    exact f1
   ·intro _ o aO _
    rintro _ _ _ _ _ _ rfl _ rfl _ _ _ _
    show WL _ _ _ _ _ _ _
    have aP := (own_kp Y aO)
    refine ix wN ((k : Nat) : Int) slTy_22 (Rd.of_own aP) ?_
    exact f1
   ·intro _ o aQ _
    rintro _ _ _ _ _ _ rfl _ rfl _ rfl _ _ _
    show WL _ _ _ _ _ _ _
    have aR := (own_kp Y aQ)
    refine eb (x := (stream d b (a.length : Int))) k wN isAgg_5 (Rd.of_own aR) ?_
    exact f1
   ·intro _ o b1 _
    rintro _ _ rfl _ rfl _ rfl _ rfl _ rfl _ rfl _ rfl _ rfl _ _
    show WL _ _ _ _ _ _ _
    refine wl_xor8 (a.getD k 0) ((stream d b (a.length : Int)).getD k 0) wN rfl rfl (by kernel_rfl) ?_
    exact f1
   ·intro _ o aS _
    rintro _ _ rfl _ rfl _ rfl _ rfl _ rfl _ rfl _ rfl _ rfl _ rfl _
    show WL _ _ _ _ _ _ _
    refine ltB ([((a.getD k 0) ^^^ ((stream d b (a.length : Int)).getD k 0))] : List UInt8) wN slTy_22 ?_
    intro b2 b3 aT aU aV
    exact wl_finT aU ⟨_, _, rfl, (own_lo aV aS.size), (by simp), ⟨trivial, trivial⟩⟩
  ·intro _ o I
   rintro _ rfl _ rfl _ rfl _ rfl _ rfl _ rfl _ rfl _ rfl _ rfl _ rfl _ ⟨b4, b5, rfl, aW, b6, -⟩
   show WL _ _ _ _ _ _ _
   have aX := (own_kp Q I)
   refine apB (zipX (a.take k) ((stream d b (a.length : Int)).take k)) ([((a.getD k 0) ^^^ ((stream d b (a.length : Int)).getD k 0))] : List UInt8) wN slTy_22 aX (Rd.of_own aW) (z4 ai W aq I) ?_
   intro R S aT aa aY aZ ba
   have bb := (G.extk I).ext aa (fun k hk => nT (Nat.le_refl f.heap.size) (own_lt Q k hk).1)
   have av := (own_kp Y I)
   have bc := NeS.app au aZ av
   refine aw (vs R ((zipX (a.take k) ((stream d b (a.length : Int)).take k)) ++ ([((a.getD k 0) ^^^ ((stream d b (a.length : Int)).getD k 0))] : List UInt8)).length S) ?_
   refine wl_nil <| wq_blk_normal <| wq_then <| wc_region ?_
   refine mw (vi ((k : Nat) : Int)) ?_
   refine ar (((k : Nat) : Int) + 1) wN ?_
   refine aw (vi (((k : Nat) : Int) + 1)) ?_
   refine wl_nil ?_
   have ax : (((zipX (a.take k) ((stream d b (a.length : Int)).take k)) ++ ([((a.getD k 0) ^^^ ((stream d b (a.length : Int)).getD k 0))] : List UInt8)) : List UInt8) = zipX (a.take (k + 1)) ((stream d b (a.length : Int)).take (k + 1)) := by exact zipX_next (by omega) (by omega)
   have bd := (own_ch av aa (fun g hg hlt hk => NeS.no (NeS.symm au) hg hk))
   have ay : ((stream d b (a.length : Int)) : List UInt8) = (stream d b (a.length : Int)) := by rfl
   have ab : ((stream d b (a.length : Int))).length = ((stream d b (a.length : Int))).length := by rw [← ay]; try (first | rfl | simp only [List.length_set] | simp)
   refine wq_loopP (w0 := X) [(2, (vs i a.length j)), (6, (vs none 0 0)), (7, (.slice R (zipX (a.take (k + 1)) ((stream d b (a.length : Int)).take (k + 1))).length S)), (8, (.slice p ((stream d b (a.length : Int))).length y)), (9, (vi (((k + 1) : Nat) : Int)))] ?_ ?_ ?_
   · exact ⟨rfl, rfl, (cA (fun l : List UInt8 => Value.slice R l.length S) ax), (cA (fun m : Nat => Value.slice p m y) ab), (cA (Value.int .i64) (show ((((k : Nat) : Int) + 1) : Int) = (((k + 1) : Nat) : Int) by omega)), trivial⟩
   · exact fun u => ⟨(k + 1), u, R, S, p, y, rfl, bb, ((((Ch.refl (fun k => f.heap.size ≤ k) N).ext aq (fun k hk => hk)).extk I).ext aa (fun k hk => nT (Nat.le_refl f.heap.size) (own_lt Q k hk).1)), (by omega), (ax ▸ ⟨aY, ba⟩), ⟨(by rw [← ab, ← ay]; exact bd), (by rw [← ab]; first | exact aE | (simp only [List.length_append, List.length_take, List.length_replicate]; omega))⟩, bc⟩
   · show a.length - ((((k + 1) : Nat) : Int)).toNat < a.length - (((k : Nat) : Int)).toNat; omega

def s_FrameOk (a : PFrame) : (Bool) := bif (s_Sealed a.Kind) then (bif (decide (a.Id = 0)) then (bif (decide ((a.Cn.length : Int) = 0)) then (bif (decide ((a.Sn.length : Int) = 12)) then (bif (decide (a.Tick = 0)) then (bif (decide ((a.Cookie.length : Int) = 0)) then (bif (decide ((a.Proof.length : Int) = 0)) then (bif (s_l1In a.Epoch 0 4294967295) then (bif (s_l1In a.Seq 0 281474976710655) then (bif (s_l7Body a.Kind (a.Body.length : Int)) then (decide ((a.Tag.length : Int) = 16)) else (false)) else (false)) else (false)) else (false)) else (false)) else (false)) else (false)) else (false)) else (false)) else (bif (decide (a.Epoch = 0)) then (bif (decide (a.Seq = 0)) then (bif (decide ((a.Body.length : Int) = 0)) then (bif (decide ((a.Tag.length : Int) = 0)) then (bif (decide ((a.Cn.length : Int) = 12)) then (bif (decide (a.Kind = 1)) then (bif (s_l1In a.Id 1 9) then (bif (decide ((a.Sn.length : Int) = 0)) then (bif (decide (a.Tick = 0)) then (bif (decide ((a.Cookie.length : Int) = 0)) then (decide ((a.Proof.length : Int) = 0)) else (false)) else (false)) else (false)) else (false)) else (bif (decide (a.Kind = 2)) then (bif (decide (a.Id = 0)) then (bif (decide ((a.Sn.length : Int) = 12)) then (bif (s_l1In a.Tick 0 1000000) then (bif (decide ((a.Cookie.length : Int) = 16)) then (decide ((a.Proof.length : Int) = 0)) else (false)) else (false)) else (false)) else (false)) else (bif (decide (a.Kind = 3)) then (bif (s_l1In a.Id 1 9) then (bif (decide ((a.Sn.length : Int) = 12)) then (bif (s_l1In a.Tick 0 1000000) then (bif (decide ((a.Cookie.length : Int) = 16)) then (decide ((a.Proof.length : Int) = 16)) else (false)) else (false)) else (false)) else (false)) else (false)))) else (false)) else (false)) else (false)) else (false)) else (false))
theorem csFrameOk (W : World) (ay : Value) (a : PFrame) (aF : R_37 W ay a)  : Fn Tryz.prog 58 #[ay] W (fun v az => Keep W az ∧ O_4 az W.heap.size v (s_FrameOk a)) := by
 obtain ⟨aa, ab, O, P, Q, R, S, T, ac, ad, ae, af, rfl, a0, aR, ah, aS, ai, aT, aj, aU, a1, aV, a2, aW⟩ := aF
 refine fn_ofS (n := 174) [(va (L_37 a aa ab O P Q R S T ac ad ae af))] Tryz.func58 rfl rfl ?_
 refine sr ?_
 refine bx (L_37 a aa ab O P Q R S T ac ad ae af) wN ?_
 intro b aG aX aY aH ao
 refine aw (vb false) ?_
 refine n4 ?_
 refine pu (vp b 0) wN ?_
 refine ld (vi a.Kind) wN isAgg_3 ao ?_
 refine cl wN (csSealed aG a.Kind) ?_
 rintro _ ak ⟨ap, rfl⟩
 have i := ((Ch.base W).extk aH).extk ap
 refine n2 ?_
 rcases bt (s_Sealed a.Kind) with d | d
 ·refine ct d ?_
  refine sr ?_
  refine pu (vp b 1) wN ?_
  have M := (ao.kp ap)
  refine ld (vi a.Id) wN isAgg_3 M ?_
  refine pu (vb (decide (a.Id = 0))) wN ?_
  refine mw (vb (decide (a.Id = 0))) ?_
  rcases bf (decide (a.Id = 0)) with l | l
  ·have aZ := dF l
   iterate 4 refine sk l ?_
   refine pf (vb false) wN l ?_
   refine mw (vb false) ?_
   iterate 4 refine sk (Eq.refl false) ?_
   refine pf (vb false) wN (Eq.refl false) ?_
   refine mw (vb false) ?_
   iterate 3 refine sk (Eq.refl false) ?_
   refine pf (vb false) wN (Eq.refl false) ?_
   refine mw (vb false) ?_
   iterate 4 refine sk (Eq.refl false) ?_
   refine pf (vb false) wN (Eq.refl false) ?_
   refine mw (vb false) ?_
   iterate 4 refine sk (Eq.refl false) ?_
   refine pf (vb false) wN (Eq.refl false) ?_
   refine mw (vb false) ?_
   iterate 3 refine sk (Eq.refl false) ?_
   refine pf (vb false) wN (Eq.refl false) ?_
   refine mw (vb false) ?_
   iterate 3 refine sk (Eq.refl false) ?_
   refine pf (vb false) wN (Eq.refl false) ?_
   refine mw (vb false) ?_
   iterate 6 refine sk (Eq.refl false) ?_
   refine pf (vb false) wN (Eq.refl false) ?_
   refine mw (vb false) ?_
   iterate 4 refine sk (Eq.refl false) ?_
   refine pf (vb false) wN (Eq.refl false) ?_
   refine aw (vb false) ?_
   refine n1 ?_
   refine rt (vb false) ?_
   refine ⟨i.keep0, ?_⟩
   simp only [s_FrameOk, d, l, cond_true, cond_false]
   exact rfl
  have ba := dT l
  refine pu (vp b 2) (wS l) ?_
  refine ld (vs aa a.Cn.length ab) (wS l) isAgg_22 M ?_
  refine ln (wS l) slTy_22 (a0.from0 i) ?_
  refine pu (vb (decide ((a.Cn.length : Int) = 0))) (wS l) ?_
  refine pk (vb (decide ((a.Cn.length : Int) = 0))) wN l ?_
  refine mw (vb (decide ((a.Cn.length : Int) = 0))) ?_
  rcases bf (decide ((a.Cn.length : Int) = 0)) with m | m
  ·have bb := dF m
   iterate 4 refine sk m ?_
   refine pf (vb false) wN m ?_
   refine mw (vb false) ?_
   iterate 3 refine sk (Eq.refl false) ?_
   refine pf (vb false) wN (Eq.refl false) ?_
   refine mw (vb false) ?_
   iterate 4 refine sk (Eq.refl false) ?_
   refine pf (vb false) wN (Eq.refl false) ?_
   refine mw (vb false) ?_
   iterate 4 refine sk (Eq.refl false) ?_
   refine pf (vb false) wN (Eq.refl false) ?_
   refine mw (vb false) ?_
   iterate 3 refine sk (Eq.refl false) ?_
   refine pf (vb false) wN (Eq.refl false) ?_
   refine mw (vb false) ?_
   iterate 3 refine sk (Eq.refl false) ?_
   refine pf (vb false) wN (Eq.refl false) ?_
   refine mw (vb false) ?_
   iterate 6 refine sk (Eq.refl false) ?_
   refine pf (vb false) wN (Eq.refl false) ?_
   refine mw (vb false) ?_
   iterate 4 refine sk (Eq.refl false) ?_
   refine pf (vb false) wN (Eq.refl false) ?_
   refine aw (vb false) ?_
   refine n1 ?_
   refine rt (vb false) ?_
   refine ⟨i.keep0, ?_⟩
   simp only [s_FrameOk, d, l, m, cond_true, cond_false]
   exact rfl
  have bc := dT m
  refine pu (vp b 3) (wS m) ?_
  refine ld (vs O a.Sn.length P) (wS m) isAgg_22 M ?_
  refine ln (wS m) slTy_22 (ah.from0 i) ?_
  refine pu (vb (decide ((a.Sn.length : Int) = 12))) (wS m) ?_
  refine pk (vb (decide ((a.Sn.length : Int) = 12))) wN m ?_
  refine mw (vb (decide ((a.Sn.length : Int) = 12))) ?_
  rcases bf (decide ((a.Sn.length : Int) = 12)) with o | o
  ·have bd := dF o
   iterate 3 refine sk o ?_
   refine pf (vb false) wN o ?_
   refine mw (vb false) ?_
   iterate 4 refine sk (Eq.refl false) ?_
   refine pf (vb false) wN (Eq.refl false) ?_
   refine mw (vb false) ?_
   iterate 4 refine sk (Eq.refl false) ?_
   refine pf (vb false) wN (Eq.refl false) ?_
   refine mw (vb false) ?_
   iterate 3 refine sk (Eq.refl false) ?_
   refine pf (vb false) wN (Eq.refl false) ?_
   refine mw (vb false) ?_
   iterate 3 refine sk (Eq.refl false) ?_
   refine pf (vb false) wN (Eq.refl false) ?_
   refine mw (vb false) ?_
   iterate 6 refine sk (Eq.refl false) ?_
   refine pf (vb false) wN (Eq.refl false) ?_
   refine mw (vb false) ?_
   iterate 4 refine sk (Eq.refl false) ?_
   refine pf (vb false) wN (Eq.refl false) ?_
   refine aw (vb false) ?_
   refine n1 ?_
   refine rt (vb false) ?_
   refine ⟨i.keep0, ?_⟩
   simp only [s_FrameOk, d, l, m, o, cond_true, cond_false]
   exact rfl
  have be := dT o
  refine pu (vp b 4) (wS o) ?_
  refine ld (vi a.Tick) (wS o) isAgg_3 M ?_
  refine pu (vb (decide (a.Tick = 0))) (wS o) ?_
  refine pk (vb (decide (a.Tick = 0))) wN o ?_
  refine mw (vb (decide (a.Tick = 0))) ?_
  rcases bf (decide (a.Tick = 0)) with p | p
  ·have bg := dF p
   iterate 4 refine sk p ?_
   refine pf (vb false) wN p ?_
   refine mw (vb false) ?_
   iterate 4 refine sk (Eq.refl false) ?_
   refine pf (vb false) wN (Eq.refl false) ?_
   refine mw (vb false) ?_
   iterate 3 refine sk (Eq.refl false) ?_
   refine pf (vb false) wN (Eq.refl false) ?_
   refine mw (vb false) ?_
   iterate 3 refine sk (Eq.refl false) ?_
   refine pf (vb false) wN (Eq.refl false) ?_
   refine mw (vb false) ?_
   iterate 6 refine sk (Eq.refl false) ?_
   refine pf (vb false) wN (Eq.refl false) ?_
   refine mw (vb false) ?_
   iterate 4 refine sk (Eq.refl false) ?_
   refine pf (vb false) wN (Eq.refl false) ?_
   refine aw (vb false) ?_
   refine n1 ?_
   refine rt (vb false) ?_
   refine ⟨i.keep0, ?_⟩
   simp only [s_FrameOk, d, l, m, o, p, cond_true, cond_false]
   exact rfl
  have bh := dT p
  refine pu (vp b 5) (wS p) ?_
  refine ld (vs Q a.Cookie.length R) (wS p) isAgg_22 M ?_
  refine ln (wS p) slTy_22 (ai.from0 i) ?_
  refine pu (vb (decide ((a.Cookie.length : Int) = 0))) (wS p) ?_
  refine pk (vb (decide ((a.Cookie.length : Int) = 0))) wN p ?_
  refine mw (vb (decide ((a.Cookie.length : Int) = 0))) ?_
  rcases bf (decide ((a.Cookie.length : Int) = 0)) with q | q
  ·have bi := dF q
   iterate 4 refine sk q ?_
   refine pf (vb false) wN q ?_
   refine mw (vb false) ?_
   iterate 3 refine sk (Eq.refl false) ?_
   refine pf (vb false) wN (Eq.refl false) ?_
   refine mw (vb false) ?_
   iterate 3 refine sk (Eq.refl false) ?_
   refine pf (vb false) wN (Eq.refl false) ?_
   refine mw (vb false) ?_
   iterate 6 refine sk (Eq.refl false) ?_
   refine pf (vb false) wN (Eq.refl false) ?_
   refine mw (vb false) ?_
   iterate 4 refine sk (Eq.refl false) ?_
   refine pf (vb false) wN (Eq.refl false) ?_
   refine aw (vb false) ?_
   refine n1 ?_
   refine rt (vb false) ?_
   refine ⟨i.keep0, ?_⟩
   simp only [s_FrameOk, d, l, m, o, p, q, cond_true, cond_false]
   exact rfl
  have bj := dT q
  refine pu (vp b 6) (wS q) ?_
  refine ld (vs S a.Proof.length T) (wS q) isAgg_22 M ?_
  refine ln (wS q) slTy_22 (aj.from0 i) ?_
  refine pu (vb (decide ((a.Proof.length : Int) = 0))) (wS q) ?_
  refine pk (vb (decide ((a.Proof.length : Int) = 0))) wN q ?_
  refine mw (vb (decide ((a.Proof.length : Int) = 0))) ?_
  rcases bf (decide ((a.Proof.length : Int) = 0)) with x | x
  ·have bk := dF x
   iterate 3 refine sk x ?_
   refine pf (vb false) wN x ?_
   refine mw (vb false) ?_
   iterate 3 refine sk (Eq.refl false) ?_
   refine pf (vb false) wN (Eq.refl false) ?_
   refine mw (vb false) ?_
   iterate 6 refine sk (Eq.refl false) ?_
   refine pf (vb false) wN (Eq.refl false) ?_
   refine mw (vb false) ?_
   iterate 4 refine sk (Eq.refl false) ?_
   refine pf (vb false) wN (Eq.refl false) ?_
   refine aw (vb false) ?_
   refine n1 ?_
   refine rt (vb false) ?_
   refine ⟨i.keep0, ?_⟩
   simp only [s_FrameOk, d, l, m, o, p, q, x, cond_true, cond_false]
   exact rfl
  have bl := dT x
  refine pu (vp b 7) (wS x) ?_
  refine ld (vi a.Epoch) (wS x) isAgg_3 M ?_
  refine cl (wS x) (csl1In ak a.Epoch 0 4294967295) ?_
  rintro _ V ⟨a3, rfl⟩
  have a4 := i.extk a3
  refine pk (vb (s_l1In a.Epoch 0 4294967295)) wN x ?_
  refine mw (vb (s_l1In a.Epoch 0 4294967295)) ?_
  rcases bf (s_l1In a.Epoch 0 4294967295) with A | A
  ·have bm := spec_l1In_f A
   iterate 3 refine sk A ?_
   refine pf (vb false) wN A ?_
   refine mw (vb false) ?_
   iterate 6 refine sk (Eq.refl false) ?_
   refine pf (vb false) wN (Eq.refl false) ?_
   refine mw (vb false) ?_
   iterate 4 refine sk (Eq.refl false) ?_
   refine pf (vb false) wN (Eq.refl false) ?_
   refine aw (vb false) ?_
   refine n1 ?_
   refine rt (vb false) ?_
   refine ⟨a4.keep0, ?_⟩
   simp only [s_FrameOk, d, l, m, o, p, q, x, A, cond_true, cond_false]
   exact rfl
  have bn := spec_l1In_t A
  refine pu (vp b 8) (wS A) ?_
  have a5 := (M.kp a3)
  refine ld (vi a.Seq) (wS A) isAgg_3 a5 ?_
  refine cl (wS A) (csl1In V a.Seq 0 281474976710655) ?_
  rintro _ a6 ⟨a7, rfl⟩
  have aq := a4.extk a7
  refine pk (vb (s_l1In a.Seq 0 281474976710655)) wN A ?_
  refine mw (vb (s_l1In a.Seq 0 281474976710655)) ?_
  rcases bf (s_l1In a.Seq 0 281474976710655) with s | s
  ·have bo := spec_l1In_f s
   iterate 6 refine sk s ?_
   refine pf (vb false) wN s ?_
   refine mw (vb false) ?_
   iterate 4 refine sk (Eq.refl false) ?_
   refine pf (vb false) wN (Eq.refl false) ?_
   refine aw (vb false) ?_
   refine n1 ?_
   refine rt (vb false) ?_
   refine ⟨aq.keep0, ?_⟩
   simp only [s_FrameOk, d, l, m, o, p, q, x, A, s, cond_true, cond_false]
   exact rfl
  have bp := spec_l1In_t s
  refine pu (vp b 0) (wS s) ?_
  have au := (a5.kp a7)
  refine ld (vi a.Kind) (wS s) isAgg_3 au ?_
  refine pu (vp b 9) (wS s) ?_
  refine ld (vs ac a.Body.length ad) (wS s) isAgg_22 au ?_
  refine ln (wS s) slTy_22 (a1.from0 aq) ?_
  refine cl (wS s) (csl7Body a6 a.Kind (a.Body.length : Int)) ?_
  rintro _ bq ⟨a8, rfl⟩
  have av := aq.extk a8
  refine pk (vb (s_l7Body a.Kind (a.Body.length : Int))) wN s ?_
  refine mw (vb (s_l7Body a.Kind (a.Body.length : Int))) ?_
  rcases bf (s_l7Body a.Kind (a.Body.length : Int)) with L | L
  ·iterate 4 refine sk L ?_
   refine pf (vb false) wN L ?_
   refine aw (vb false) ?_
   refine n1 ?_
   refine rt (vb false) ?_
   refine ⟨av.keep0, ?_⟩
   simp only [s_FrameOk, d, l, m, o, p, q, x, A, s, L, cond_true, cond_false]
   exact rfl
  refine pu (vp b 10) (wS L) ?_
  have aI := (au.kp a8)
  refine ld (vs ae a.Tag.length af) (wS L) isAgg_22 aI ?_
  refine ln (wS L) slTy_22 (a2.from0 av) ?_
  refine pu (vb (decide ((a.Tag.length : Int) = 16))) (wS L) ?_
  refine pk (vb (decide ((a.Tag.length : Int) = 16))) wN L ?_
  refine aw (vb (decide ((a.Tag.length : Int) = 16))) ?_
  refine n1 ?_
  refine rt (vb (decide ((a.Tag.length : Int) = 16))) ?_
  refine ⟨av.keep0, ?_⟩
  simp only [s_FrameOk, d, l, m, o, p, q, x, A, s, L, cond_true, cond_false]
  exact rfl
 refine cf d ?_
 refine y2 ?_
 refine jT1 [(1, (vp b 0)), (2, (vb false))] (s_FrameOk a = false) ?_ fun X => ?_
 ·intro aJ V aK br
  have aL := i.extk aK
  refine sr ?_
  refine aw (vb false) ?_
  refine n1 ?_
  refine rt (vb false) ?_
  refine ⟨aL.keep0, ?_⟩
  rw [aJ]
  exact rfl
 refine pu (vp b 7) wN ?_
 have y := (ao.kp ap)
 refine ld (vi a.Epoch) wN isAgg_3 y ?_
 refine pu (vb (!(decide (a.Epoch = 0)))) wN ?_
 refine mw (vb (!(decide (a.Epoch = 0)))) ?_
 rcases bf (decide (a.Epoch = 0)) with e | e
 ·have bu := dF e
  iterate 3 refine sk (cA not e) ?_
  refine pk (vb true) wN (cA not e) ?_
  refine mw (vb true) ?_
  iterate 4 refine sk (Eq.refl true) ?_
  refine pk (vb true) wN (Eq.refl true) ?_
  refine mw (vb true) ?_
  iterate 4 refine sk (Eq.refl true) ?_
  refine pk (vb true) wN (Eq.refl true) ?_
  refine mw (vb true) ?_
  iterate 4 refine sk (Eq.refl true) ?_
  refine pk (vb true) wN (Eq.refl true) ?_
  refine n2 ?_
  refine ct (Eq.refl true) ?_
  have aM : s_FrameOk a = false := by simp only [s_FrameOk, d, e, cond_true, cond_false]
  exact wj (X aM _ (Ch.refl _ _))
 have bv := dT e
 refine pu (vp b 8) (wS (cA not e)) ?_
 refine ld (vi a.Seq) (wS (cA not e)) isAgg_3 y ?_
 refine pu (vb (!(decide (a.Seq = 0)))) (wS (cA not e)) ?_
 refine pf (vb (!(decide (a.Seq = 0)))) wN (cA not e) ?_
 refine mw (vb (!(decide (a.Seq = 0)))) ?_
 rcases bf (decide (a.Seq = 0)) with f | f
 ·have bw := dF f
  iterate 4 refine sk (cA not f) ?_
  refine pk (vb true) wN (cA not f) ?_
  refine mw (vb true) ?_
  iterate 4 refine sk (Eq.refl true) ?_
  refine pk (vb true) wN (Eq.refl true) ?_
  refine mw (vb true) ?_
  iterate 4 refine sk (Eq.refl true) ?_
  refine pk (vb true) wN (Eq.refl true) ?_
  refine n2 ?_
  refine ct (Eq.refl true) ?_
  have aN : s_FrameOk a = false := by simp only [s_FrameOk, d, e, f, cond_true, cond_false]
  exact wj (X aN _ (Ch.refl _ _))
 have bz := dT f
 refine pu (vp b 9) (wS (cA not f)) ?_
 refine ld (vs ac a.Body.length ad) (wS (cA not f)) isAgg_22 y ?_
 refine ln (wS (cA not f)) slTy_22 (a1.from0 i) ?_
 refine pu (vb (!(decide ((a.Body.length : Int) = 0)))) (wS (cA not f)) ?_
 refine pf (vb (!(decide ((a.Body.length : Int) = 0)))) wN (cA not f) ?_
 refine mw (vb (!(decide ((a.Body.length : Int) = 0)))) ?_
 rcases bf (decide ((a.Body.length : Int) = 0)) with g | g
 ·have b0 := dF g
  iterate 4 refine sk (cA not g) ?_
  refine pk (vb true) wN (cA not g) ?_
  refine mw (vb true) ?_
  iterate 4 refine sk (Eq.refl true) ?_
  refine pk (vb true) wN (Eq.refl true) ?_
  refine n2 ?_
  refine ct (Eq.refl true) ?_
  have aO : s_FrameOk a = false := by simp only [s_FrameOk, d, e, f, g, cond_true, cond_false]
  exact wj (X aO _ (Ch.refl _ _))
 have b1 := dT g
 refine pu (vp b 10) (wS (cA not g)) ?_
 refine ld (vs ae a.Tag.length af) (wS (cA not g)) isAgg_22 y ?_
 refine ln (wS (cA not g)) slTy_22 (a2.from0 i) ?_
 refine pu (vb (!(decide ((a.Tag.length : Int) = 0)))) (wS (cA not g)) ?_
 refine pf (vb (!(decide ((a.Tag.length : Int) = 0)))) wN (cA not g) ?_
 refine mw (vb (!(decide ((a.Tag.length : Int) = 0)))) ?_
 rcases bf (decide ((a.Tag.length : Int) = 0)) with h | h
 ·have b2 := dF h
  iterate 4 refine sk (cA not h) ?_
  refine pk (vb true) wN (cA not h) ?_
  refine n2 ?_
  refine ct (Eq.refl true) ?_
  have aP : s_FrameOk a = false := by simp only [s_FrameOk, d, e, f, g, h, cond_true, cond_false]
  exact wj (X aP _ (Ch.refl _ _))
 have b3 := dT h
 refine pu (vp b 2) (wS (cA not h)) ?_
 refine ld (vs aa a.Cn.length ab) (wS (cA not h)) isAgg_22 y ?_
 refine ln (wS (cA not h)) slTy_22 (a0.from0 i) ?_
 refine pu (vb (!(decide ((a.Cn.length : Int) = 12)))) (wS (cA not h)) ?_
 refine pf (vb (!(decide ((a.Cn.length : Int) = 12)))) wN (cA not h) ?_
 refine n2 ?_
 rcases bf (decide ((a.Cn.length : Int) = 12)) with j | j
 ·have b4 := dF j
  refine ct (cA not j) ?_
  have aQ : s_FrameOk a = false := by simp only [s_FrameOk, d, e, f, g, h, j, cond_true, cond_false]
  exact wj (X aQ _ (Ch.refl _ _))
 have b5 := dT j
 refine cf (cA not j) ?_
 refine y2 ?_
 refine pu (vp b 0) wN ?_
 refine ld (vi a.Kind) wN isAgg_3 y ?_
 refine wl_nil <| wq_then <| wc_block <| sr ?_
 refine pu (vb (decide (a.Kind = 1))) wN ?_
 refine aw (vb (decide (a.Kind = 1))) ?_
 refine n2 ?_
 rcases bt (decide (a.Kind = 1)) with k | k
 ·have b6 := dT k
  refine ct k ?_
  refine sr ?_
  refine pu (vp b 1) wN ?_
  refine ld (vi a.Id) wN isAgg_3 y ?_
  refine cl wN (csl1In ak a.Id 1 9) ?_
  rintro _ V ⟨a9, rfl⟩
  have N := i.extk a9
  refine mw (vb (s_l1In a.Id 1 9)) ?_
  rcases bf (s_l1In a.Id 1 9) with t | t
  ·have b7 := spec_l1In_f t
   iterate 4 refine sk t ?_
   refine pf (vb false) wN t ?_
   refine mw (vb false) ?_
   iterate 3 refine sk (Eq.refl false) ?_
   refine pf (vb false) wN (Eq.refl false) ?_
   refine mw (vb false) ?_
   iterate 4 refine sk (Eq.refl false) ?_
   refine pf (vb false) wN (Eq.refl false) ?_
   refine mw (vb false) ?_
   iterate 4 refine sk (Eq.refl false) ?_
   refine pf (vb false) wN (Eq.refl false) ?_
   refine aw (vb false) ?_
   refine wl_nil <| wq_then <| wc_ret <| wq_blk_ret <| wq_then_ret ?_
   refine rt (vb false) ?_
   refine ⟨N.keep0, ?_⟩
   simp only [s_FrameOk, d, e, f, g, h, j, k, t, cond_true, cond_false]
   exact rfl
  have b8 := spec_l1In_t t
  refine pu (vp b 3) (wS t) ?_
  have am := (y.kp a9)
  refine ld (vs O a.Sn.length P) (wS t) isAgg_22 am ?_
  refine ln (wS t) slTy_22 (ah.from0 N) ?_
  refine pu (vb (decide ((a.Sn.length : Int) = 0))) (wS t) ?_
  refine pk (vb (decide ((a.Sn.length : Int) = 0))) wN t ?_
  refine mw (vb (decide ((a.Sn.length : Int) = 0))) ?_
  rcases bf (decide ((a.Sn.length : Int) = 0)) with B | B
  ·have b9 := dF B
   iterate 3 refine sk B ?_
   refine pf (vb false) wN B ?_
   refine mw (vb false) ?_
   iterate 4 refine sk (Eq.refl false) ?_
   refine pf (vb false) wN (Eq.refl false) ?_
   refine mw (vb false) ?_
   iterate 4 refine sk (Eq.refl false) ?_
   refine pf (vb false) wN (Eq.refl false) ?_
   refine aw (vb false) ?_
   refine wl_nil <| wq_then <| wc_ret <| wq_blk_ret <| wq_then_ret ?_
   refine rt (vb false) ?_
   refine ⟨N.keep0, ?_⟩
   simp only [s_FrameOk, d, e, f, g, h, j, k, t, B, cond_true, cond_false]
   exact rfl
  have bA := dT B
  refine pu (vp b 4) (wS B) ?_
  refine ld (vi a.Tick) (wS B) isAgg_3 am ?_
  refine pu (vb (decide (a.Tick = 0))) (wS B) ?_
  refine pk (vb (decide (a.Tick = 0))) wN B ?_
  refine mw (vb (decide (a.Tick = 0))) ?_
  rcases bf (decide (a.Tick = 0)) with C | C
  ·have bB := dF C
   iterate 4 refine sk C ?_
   refine pf (vb false) wN C ?_
   refine mw (vb false) ?_
   iterate 4 refine sk (Eq.refl false) ?_
   refine pf (vb false) wN (Eq.refl false) ?_
   refine aw (vb false) ?_
   refine wl_nil <| wq_then <| wc_ret <| wq_blk_ret <| wq_then_ret ?_
   refine rt (vb false) ?_
   refine ⟨N.keep0, ?_⟩
   simp only [s_FrameOk, d, e, f, g, h, j, k, t, B, C, cond_true, cond_false]
   exact rfl
  have bC := dT C
  refine pu (vp b 5) (wS C) ?_
  refine ld (vs Q a.Cookie.length R) (wS C) isAgg_22 am ?_
  refine ln (wS C) slTy_22 (ai.from0 N) ?_
  refine pu (vb (decide ((a.Cookie.length : Int) = 0))) (wS C) ?_
  refine pk (vb (decide ((a.Cookie.length : Int) = 0))) wN C ?_
  refine mw (vb (decide ((a.Cookie.length : Int) = 0))) ?_
  rcases bf (decide ((a.Cookie.length : Int) = 0)) with H | H
  ·have bD := dF H
   iterate 4 refine sk H ?_
   refine pf (vb false) wN H ?_
   refine aw (vb false) ?_
   refine wl_nil <| wq_then <| wc_ret <| wq_blk_ret <| wq_then_ret ?_
   refine rt (vb false) ?_
   refine ⟨N.keep0, ?_⟩
   simp only [s_FrameOk, d, e, f, g, h, j, k, t, B, C, H, cond_true, cond_false]
   exact rfl
  have bE := dT H
  refine pu (vp b 6) (wS H) ?_
  refine ld (vs S a.Proof.length T) (wS H) isAgg_22 am ?_
  refine ln (wS H) slTy_22 (aj.from0 N) ?_
  refine pu (vb (decide ((a.Proof.length : Int) = 0))) (wS H) ?_
  refine pk (vb (decide ((a.Proof.length : Int) = 0))) wN H ?_
  refine aw (vb (decide ((a.Proof.length : Int) = 0))) ?_
  refine wl_nil <| wq_then <| wc_ret <| wq_blk_ret <| wq_then_ret ?_
  refine rt (vb (decide ((a.Proof.length : Int) = 0))) ?_
  refine ⟨N.keep0, ?_⟩
  simp only [s_FrameOk, d, e, f, g, h, j, k, t, B, C, H, cond_true, cond_false]
  exact rfl
 have bF := dF k
 refine cf k ?_
 refine sr ?_
 refine pu (vb (decide (a.Kind = 2))) wN ?_
 refine aw (vb (decide (a.Kind = 2))) ?_
 refine n2 ?_
 rcases bt (decide (a.Kind = 2)) with r | r
 ·have bG := dT r
  refine ct r ?_
  refine sr ?_
  refine pu (vp b 1) wN ?_
  refine ld (vi a.Id) wN isAgg_3 y ?_
  refine pu (vb (decide (a.Id = 0))) wN ?_
  refine mw (vb (decide (a.Id = 0))) ?_
  rcases bf (decide (a.Id = 0)) with u | u
  ·have bH := dF u
   iterate 4 refine sk u ?_
   refine pf (vb false) wN u ?_
   refine mw (vb false) ?_
   iterate 3 refine sk (Eq.refl false) ?_
   refine pf (vb false) wN (Eq.refl false) ?_
   refine mw (vb false) ?_
   iterate 4 refine sk (Eq.refl false) ?_
   refine pf (vb false) wN (Eq.refl false) ?_
   refine mw (vb false) ?_
   iterate 4 refine sk (Eq.refl false) ?_
   refine pf (vb false) wN (Eq.refl false) ?_
   refine aw (vb false) ?_
   refine wl_nil <| wq_then <| wc_ret <| wq_blk_ret <| wq_then_ret ?_
   refine rt (vb false) ?_
   refine ⟨i.keep0, ?_⟩
   simp only [s_FrameOk, d, e, f, g, h, j, k, r, u, cond_true, cond_false]
   exact rfl
  have bI := dT u
  refine pu (vp b 3) (wS u) ?_
  refine ld (vs O a.Sn.length P) (wS u) isAgg_22 y ?_
  refine ln (wS u) slTy_22 (ah.from0 i) ?_
  refine pu (vb (decide ((a.Sn.length : Int) = 12))) (wS u) ?_
  refine pk (vb (decide ((a.Sn.length : Int) = 12))) wN u ?_
  refine mw (vb (decide ((a.Sn.length : Int) = 12))) ?_
  rcases bf (decide ((a.Sn.length : Int) = 12)) with D | D
  ·have bJ := dF D
   iterate 3 refine sk D ?_
   refine pf (vb false) wN D ?_
   refine mw (vb false) ?_
   iterate 4 refine sk (Eq.refl false) ?_
   refine pf (vb false) wN (Eq.refl false) ?_
   refine mw (vb false) ?_
   iterate 4 refine sk (Eq.refl false) ?_
   refine pf (vb false) wN (Eq.refl false) ?_
   refine aw (vb false) ?_
   refine wl_nil <| wq_then <| wc_ret <| wq_blk_ret <| wq_then_ret ?_
   refine rt (vb false) ?_
   refine ⟨i.keep0, ?_⟩
   simp only [s_FrameOk, d, e, f, g, h, j, k, r, u, D, cond_true, cond_false]
   exact rfl
  have bK := dT D
  refine pu (vp b 4) (wS D) ?_
  refine ld (vi a.Tick) (wS D) isAgg_3 y ?_
  refine cl (wS D) (csl1In ak a.Tick 0 1000000) ?_
  rintro _ V ⟨aA, rfl⟩
  have Y := i.extk aA
  refine pk (vb (s_l1In a.Tick 0 1000000)) wN D ?_
  refine mw (vb (s_l1In a.Tick 0 1000000)) ?_
  rcases bf (s_l1In a.Tick 0 1000000) with E | E
  ·have bL := spec_l1In_f E
   iterate 4 refine sk E ?_
   refine pf (vb false) wN E ?_
   refine mw (vb false) ?_
   iterate 4 refine sk (Eq.refl false) ?_
   refine pf (vb false) wN (Eq.refl false) ?_
   refine aw (vb false) ?_
   refine wl_nil <| wq_then <| wc_ret <| wq_blk_ret <| wq_then_ret ?_
   refine rt (vb false) ?_
   refine ⟨Y.keep0, ?_⟩
   simp only [s_FrameOk, d, e, f, g, h, j, k, r, u, D, E, cond_true, cond_false]
   exact rfl
  have bM := spec_l1In_t E
  refine pu (vp b 5) (wS E) ?_
  have aB := (y.kp aA)
  refine ld (vs Q a.Cookie.length R) (wS E) isAgg_22 aB ?_
  refine ln (wS E) slTy_22 (ai.from0 Y) ?_
  refine pu (vb (decide ((a.Cookie.length : Int) = 16))) (wS E) ?_
  refine pk (vb (decide ((a.Cookie.length : Int) = 16))) wN E ?_
  refine mw (vb (decide ((a.Cookie.length : Int) = 16))) ?_
  rcases bf (decide ((a.Cookie.length : Int) = 16)) with I | I
  ·have bN := dF I
   iterate 4 refine sk I ?_
   refine pf (vb false) wN I ?_
   refine aw (vb false) ?_
   refine wl_nil <| wq_then <| wc_ret <| wq_blk_ret <| wq_then_ret ?_
   refine rt (vb false) ?_
   refine ⟨Y.keep0, ?_⟩
   simp only [s_FrameOk, d, e, f, g, h, j, k, r, u, D, E, I, cond_true, cond_false]
   exact rfl
  have bO := dT I
  refine pu (vp b 6) (wS I) ?_
  refine ld (vs S a.Proof.length T) (wS I) isAgg_22 aB ?_
  refine ln (wS I) slTy_22 (aj.from0 Y) ?_
  refine pu (vb (decide ((a.Proof.length : Int) = 0))) (wS I) ?_
  refine pk (vb (decide ((a.Proof.length : Int) = 0))) wN I ?_
  refine aw (vb (decide ((a.Proof.length : Int) = 0))) ?_
  refine wl_nil <| wq_then <| wc_ret <| wq_blk_ret <| wq_then_ret ?_
  refine rt (vb (decide ((a.Proof.length : Int) = 0))) ?_
  refine ⟨Y.keep0, ?_⟩
  simp only [s_FrameOk, d, e, f, g, h, j, k, r, u, D, E, I, cond_true, cond_false]
  exact rfl
 have bP := dF r
 refine cf r ?_
 refine sr ?_
 refine pu (vb (decide (a.Kind = 3))) wN ?_
 refine aw (vb (decide (a.Kind = 3))) ?_
 refine n2 ?_
 rcases bf (decide (a.Kind = 3)) with K | K
 ·have bQ := dF K
  refine cf K ?_
  refine wc_skip <| wq_blk_normal <| wq_then <| sr ?_
  refine aw (vb false) ?_
  refine n3 ?_
  refine rt (vb false) ?_
  refine ⟨i.keep0, ?_⟩
  simp only [s_FrameOk, d, e, f, g, h, j, k, r, K, cond_true, cond_false]
  exact rfl
 have bR := dT K
 refine ct K ?_
 refine sr ?_
 refine pu (vp b 1) wN ?_
 refine ld (vi a.Id) wN isAgg_3 y ?_
 refine cl wN (csl1In ak a.Id 1 9) ?_
 rintro _ V ⟨aC, rfl⟩
 have an := i.extk aC
 refine mw (vb (s_l1In a.Id 1 9)) ?_
 rcases bf (s_l1In a.Id 1 9) with w | w
 ·have bS := spec_l1In_f w
  iterate 4 refine sk w ?_
  refine pf (vb false) wN w ?_
  refine mw (vb false) ?_
  iterate 3 refine sk (Eq.refl false) ?_
  refine pf (vb false) wN (Eq.refl false) ?_
  refine mw (vb false) ?_
  iterate 4 refine sk (Eq.refl false) ?_
  refine pf (vb false) wN (Eq.refl false) ?_
  refine mw (vb false) ?_
  iterate 4 refine sk (Eq.refl false) ?_
  refine pf (vb false) wN (Eq.refl false) ?_
  refine aw (vb false) ?_
  refine wl_nil <| wq_then <| wc_ret <| wq_blk_ret <| wq_then_ret ?_
  refine rt (vb false) ?_
  refine ⟨an.keep0, ?_⟩
  simp only [s_FrameOk, d, e, f, g, h, j, k, r, K, w, cond_true, cond_false]
  exact rfl
 have bT := spec_l1In_t w
 refine pu (vp b 3) (wS w) ?_
 have ax := (y.kp aC)
 refine ld (vs O a.Sn.length P) (wS w) isAgg_22 ax ?_
 refine ln (wS w) slTy_22 (ah.from0 an) ?_
 refine pu (vb (decide ((a.Sn.length : Int) = 12))) (wS w) ?_
 refine pk (vb (decide ((a.Sn.length : Int) = 12))) wN w ?_
 refine mw (vb (decide ((a.Sn.length : Int) = 12))) ?_
 rcases bf (decide ((a.Sn.length : Int) = 12)) with F | F
 ·have bU := dF F
  iterate 3 refine sk F ?_
  refine pf (vb false) wN F ?_
  refine mw (vb false) ?_
  iterate 4 refine sk (Eq.refl false) ?_
  refine pf (vb false) wN (Eq.refl false) ?_
  refine mw (vb false) ?_
  iterate 4 refine sk (Eq.refl false) ?_
  refine pf (vb false) wN (Eq.refl false) ?_
  refine aw (vb false) ?_
  refine wl_nil <| wq_then <| wc_ret <| wq_blk_ret <| wq_then_ret ?_
  refine rt (vb false) ?_
  refine ⟨an.keep0, ?_⟩
  simp only [s_FrameOk, d, e, f, g, h, j, k, r, K, w, F, cond_true, cond_false]
  exact rfl
 have bW := dT F
 refine pu (vp b 4) (wS F) ?_
 refine ld (vi a.Tick) (wS F) isAgg_3 ax ?_
 refine cl (wS F) (csl1In V a.Tick 0 1000000) ?_
 rintro _ a6 ⟨aD, rfl⟩
 have Z := an.extk aD
 refine pk (vb (s_l1In a.Tick 0 1000000)) wN F ?_
 refine mw (vb (s_l1In a.Tick 0 1000000)) ?_
 rcases bf (s_l1In a.Tick 0 1000000) with G | G
 ·have bX := spec_l1In_f G
  iterate 4 refine sk G ?_
  refine pf (vb false) wN G ?_
  refine mw (vb false) ?_
  iterate 4 refine sk (Eq.refl false) ?_
  refine pf (vb false) wN (Eq.refl false) ?_
  refine aw (vb false) ?_
  refine wl_nil <| wq_then <| wc_ret <| wq_blk_ret <| wq_then_ret ?_
  refine rt (vb false) ?_
  refine ⟨Z.keep0, ?_⟩
  simp only [s_FrameOk, d, e, f, g, h, j, k, r, K, w, F, G, cond_true, cond_false]
  exact rfl
 have bY := spec_l1In_t G
 refine pu (vp b 5) (wS G) ?_
 have aE := (ax.kp aD)
 refine ld (vs Q a.Cookie.length R) (wS G) isAgg_22 aE ?_
 refine ln (wS G) slTy_22 (ai.from0 Z) ?_
 refine pu (vb (decide ((a.Cookie.length : Int) = 16))) (wS G) ?_
 refine pk (vb (decide ((a.Cookie.length : Int) = 16))) wN G ?_
 refine mw (vb (decide ((a.Cookie.length : Int) = 16))) ?_
 rcases bf (decide ((a.Cookie.length : Int) = 16)) with J | J
 ·have bZ := dF J
  iterate 4 refine sk J ?_
  refine pf (vb false) wN J ?_
  refine aw (vb false) ?_
  refine wl_nil <| wq_then <| wc_ret <| wq_blk_ret <| wq_then_ret ?_
  refine rt (vb false) ?_
  refine ⟨Z.keep0, ?_⟩
  simp only [s_FrameOk, d, e, f, g, h, j, k, r, K, w, F, G, J, cond_true, cond_false]
  exact rfl
 have ca := dT J
 refine pu (vp b 6) (wS J) ?_
 refine ld (vs S a.Proof.length T) (wS J) isAgg_22 aE ?_
 refine ln (wS J) slTy_22 (aj.from0 Z) ?_
 refine pu (vb (decide ((a.Proof.length : Int) = 16))) (wS J) ?_
 refine pk (vb (decide ((a.Proof.length : Int) = 16))) wN J ?_
 refine aw (vb (decide ((a.Proof.length : Int) = 16))) ?_
 refine wl_nil <| wq_then <| wc_ret <| wq_blk_ret <| wq_then_ret ?_
 refine rt (vb (decide ((a.Proof.length : Int) = 16))) ?_
 refine ⟨Z.keep0, ?_⟩
 simp only [s_FrameOk, d, e, f, g, h, j, k, r, K, w, F, G, J, cond_true, cond_false]
 exact rfl
theorem frameOk_s {f : PFrame} (h : s_FrameOk f = true) : f.Body.length ≤ 40 := by
  simp only [s_FrameOk, Bool.cond_false_right] at h
  cases h1 : s_Sealed f.Kind
  · simp only [h1, cond_false, Bool.and_eq_true, decide_eq_true_eq] at h
    have := h.2.2.1
    omega
  · simp only [h1, cond_true, Bool.and_eq_true] at h
    have hb := h.2.2.2.2.2.2.2.2.1
    simp only [s_l7Body, cond_eq_ite, decide_eq_true_eq] at hb
    (repeat' split at hb) <;> (have hq := dT hb; omega)

theorem isAgg_37 : ∀ w, (isAgg 37).run Tryz.prog w = .ok true w := fun w => by kernel_rfl
theorem sizeOf_37 : ∀ w, (sizeOf 37).run Tryz.prog w = .ok 11 w := fun w => by kernel_rfl
theorem mR_37 {w : World} {x : PFrame} {a : Option Addr} {b : Nat} {d : Option Addr} {e : Nat} {f : Option Addr} {g : Nat} {h : Option Addr} {i : Nat} {j : Option Addr} {k : Nat} {l : Option Addr} {m : Nat} (o : Rd w 1 (.slice a x.Cn.length b) x.Cn.length (x.Cn.map bV)) (p : x.Cn.length ≤ 1073741824) (q : Rd w 1 (.slice d x.Sn.length e) x.Sn.length (x.Sn.map bV)) (r : x.Sn.length ≤ 1073741824) (s : Rd w 1 (.slice f x.Cookie.length g) x.Cookie.length (x.Cookie.map bV)) (t : x.Cookie.length ≤ 1073741824) (u : Rd w 1 (.slice h x.Proof.length i) x.Proof.length (x.Proof.map bV)) (v : x.Proof.length ≤ 1073741824) (y : Rd w 1 (.slice j x.Body.length k) x.Body.length (x.Body.map bV)) (A : x.Body.length ≤ 1073741824) (B : Rd w 1 (.slice l x.Tag.length m) x.Tag.length (x.Tag.map bV)) (C : x.Tag.length ≤ 1073741824) : R_37 w (va (L_37 x a b d e f g h i j k l m)) x := ⟨_, _, _, _, _, _, _, _, _, _, _, _, rfl, o, p, q, r, s, t, u, v, y, A, B, C⟩
def s_TagInput (b : Int) (a : PFrame) : (List UInt8) := bif (s_l1In b 0 1) then (bif (s_FrameOk a) then (bif (s_Sealed a.Kind) then ((((([116] : List UInt8) ++ (headOf b a.Sn a.Epoch a.Seq)) ++ ([(by8 a.Kind)] : List UInt8)) ++ a.Body)) else ([])) else ([])) else ([])
theorem csTagInput (C : World) (b : Int) (ab : Value) (a : PFrame) (a1 : R_37 C ab a)  : Fn Tryz.prog 102 #[(vi b), ab] C (fun v o => Keep C o ∧ O_22 o C.heap.size v (s_TagInput b a)) := by
 obtain ⟨l, R, N, O, S, T, V, W, D, E, X, Y, rfl, a2, a3, ac, ad, a4, a5, a6, a7, ae, a8, a9, aA⟩ := a1
 refine fn_ofS (n := 40) [(vi b), (va (L_37 a l R N O S T V W D E X Y))] Tryz.func102 rfl rfl ?_
 refine sr ?_
 refine bx (L_37 a l R N O S T V W D E X Y) wN ?_
 intro m Z bh P u aB
 have af := (Ch.base C).extk u
 refine aw (vs none 0 0) ?_
 refine n4 ?_
 refine jT1 [(0, (vi b)), (3, (vp m 0)), (4, (vs none 0 0))] (s_TagInput b a = []) ?_ fun aa => ?_
 ·intro aC ah ai bi
  refine sr ?_
  refine wl_lit0 wN rfl rfl slTy_22 (fun w => by kernel_rfl) ?_
  intro aj ak aD aE
  have aF := (af.extk ai).extk aD
  refine aw (vs (some aj) 0 0) ?_
  refine n1 ?_
  refine rt (vs (some aj) 0 0) ?_
  refine ⟨aF.keep0, ?_⟩
  rw [aC]
  exact ⟨_, _, rfl, (own_lo aE (z2 u ai)), (by simp), ⟨trivial, trivial⟩⟩
 refine mw (vi b) ?_
 refine cl wN (csl1In Z b 0 1) ?_
 rintro _ ah ⟨d, rfl⟩
 have r := af.extk d
 refine pu (vb (!(s_l1In b 0 1))) wN ?_
 refine mw (vb (!(s_l1In b 0 1))) ?_
 rcases bf (s_l1In b 0 1) with f | f
 ·have bj := spec_l1In_f f
  iterate 3 refine sk (cA not f) ?_
  refine pk (vb true) wN (cA not f) ?_
  refine mw (vb true) ?_
  iterate 4 refine sk (Eq.refl true) ?_
  refine pk (vb true) wN (Eq.refl true) ?_
  refine n2 ?_
  refine ct (Eq.refl true) ?_
  have aG : s_TagInput b a = [] := by simp only [s_TagInput, f, cond_true, cond_false]
  exact wj (aa aG _ d)
 have bk := spec_l1In_t f
 have am := (aB.kp d)
 refine lN (L_37 a l R N O S T V W D E X Y) (wS (cA not f)) isAgg_37 sizeOf_37 am ?_
 refine cl (wS (cA not f)) (csFrameOk ah _ a (mR_37 (a2.from0 r) a3 (ac.from0 r) ad (a4.from0 r) a5 (a6.from0 r) a7 (ae.from0 r) a8 (a9.from0 r) aA)) ?_
 rintro _ ak ⟨g, rfl⟩
 refine pu (vb (!(s_FrameOk a))) (wS (cA not f)) ?_
 refine pf (vb (!(s_FrameOk a))) wN (cA not f) ?_
 refine mw (vb (!(s_FrameOk a))) ?_
 rcases bf (s_FrameOk a) with i | i
 ·iterate 4 refine sk (cA not i) ?_
  refine pk (vb true) wN (cA not i) ?_
  refine n2 ?_
  refine ct (Eq.refl true) ?_
  have aH : s_TagInput b a = [] := by simp only [s_TagInput, f, i, cond_true, cond_false]
  exact wj (aa aH _ (d.trans g))
 have bl := frameOk_s i
 refine pu (vp m 0) (wS (cA not i)) ?_
 have an := (am.kp g)
 refine ld (vi a.Kind) (wS (cA not i)) isAgg_3 an ?_
 refine cl (wS (cA not i)) (csSealed ak a.Kind) ?_
 rintro _ ao ⟨j, rfl⟩
 refine pu (vb (!(s_Sealed a.Kind))) (wS (cA not i)) ?_
 refine pf (vb (!(s_Sealed a.Kind))) wN (cA not i) ?_
 refine n2 ?_
 rcases bf (s_Sealed a.Kind) with F | F
 ·refine ct (cA not F) ?_
  have aI : s_TagInput b a = [] := by simp only [s_TagInput, f, i, F, cond_true, cond_false]
  exact wj (aa aI _ ((d.trans g).trans j))
 refine cf (cA not F) ?_
 refine y1 ?_
 refine ltB ([116] : List UInt8) wN slTy_22 ?_
 intro bm bn aJ G Q
 have ap := ((r.extk g).extk j).extk G
 refine mw (vi b) ?_
 refine pu (vp m 3) wN ?_
 have H := ((an.kp j).kp G)
 refine ld (vs N a.Sn.length O) wN isAgg_22 H ?_
 refine pu (vp m 7) wN ?_
 refine ld (vi a.Epoch) wN isAgg_3 H ?_
 refine pu (vp m 8) wN ?_
 refine ld (vi a.Seq) wN isAgg_3 H ?_
 refine cl wN (csHeadOf aJ b _ a.Sn (mR_22 (ac.from0 ap) ad) a.Epoch a.Seq) ?_
 rintro _ bo ⟨s, ⟨bp, bq, rfl, aK, _⟩⟩
 have br := headOf_len b a.Sn a.Epoch a.Seq
 have aL := (own_kp Q s)
 refine apB ([116] : List UInt8) (headOf b a.Sn a.Epoch a.Seq) wN slTy_22 aL (Rd.of_own aK) (z2 G s) ?_
 intro x y aq I J bu bv
 have aM := (ap.extk s).ext I (fun k hk => nT (z4 u d g j) (own_lt Q k hk).1)
 refine aw (vs x (([116] : List UInt8) ++ (headOf b a.Sn a.Epoch a.Seq)).length y) ?_
 refine wl_nil <| wq_then <| wc_seq ?_
 refine wc_drawT ([(31, [], [], (fun _ v _ => v = (vs x (([116] : List UInt8) ++ (headOf b a.Sn a.Epoch a.Seq)).length y))), (32, [], [], (fun _ v _ => v = (vp m 0))), (33, [], [1], (fun _ v _ => v = (vi a.Kind))), (34, [], [1, 2], (fun _ v _ => v = (v8 ((by8 a.Kind).toNat : Int)))), (35, [], [1, 2, 3], (fun _ v w => ∃ (l : Option Addr) (A : Nat), v = .slice l ([(by8 a.Kind)] : List UInt8).length A ∧ w.ownsRow aq.heap.size 5 1 (.slice l ([(by8 a.Kind)] : List UInt8).length A) ([(by8 a.Kind)] : List UInt8).length (([(by8 a.Kind)] : List UInt8).map bV) ∧ ([(by8 a.Kind)] : List UInt8).length ≤ 1073741824 ∧ Aps [(l, A)])), (36, [], [0, 1, 2, 3, 4], (fun _ v w => ∃ (l : Option Addr) (A : Nat), v = .slice l ((([116] : List UInt8) ++ (headOf b a.Sn a.Epoch a.Seq)) ++ ([(by8 a.Kind)] : List UInt8)).length A ∧ w.ownsRow ao.heap.size 5 1 (.slice l ((([116] : List UInt8) ++ (headOf b a.Sn a.Epoch a.Seq)) ++ ([(by8 a.Kind)] : List UInt8)).length A) ((([116] : List UInt8) ++ (headOf b a.Sn a.Epoch a.Seq)) ++ ([(by8 a.Kind)] : List UInt8)).length (((([116] : List UInt8) ++ (headOf b a.Sn a.Epoch a.Seq)) ++ ([(by8 a.Kind)] : List UInt8)).map bV) ∧ ((([116] : List UInt8) ++ (headOf b a.Sn a.Epoch a.Seq)) ++ ([(by8 a.Kind)] : List UInt8)).length ≤ 1073741824)), (37, [], [], (fun _ v _ => v = (vp m 9))), (38, [], [6], (fun _ v _ => v = (vs D a.Body.length E)))] : GV) (fun lf o => Ch (fun k => (Value.slice x (([116] : List UInt8) ++ (headOf b a.Sn a.Epoch a.Seq)).length y).ownBlock = some k) aq o ∧ (lf 5 = false → World.ownsRow o ao.heap.size 5 1 (.slice x (([116] : List UInt8) ++ (headOf b a.Sn a.Epoch a.Seq)).length y) (([116] : List UInt8) ++ (headOf b a.Sn a.Epoch a.Seq)).length ((([116] : List UInt8) ++ (headOf b a.Sn a.Epoch a.Seq)).map bV))) [(5, fun w o => Ch (fun k => (Value.slice x (([116] : List UInt8) ++ (headOf b a.Sn a.Epoch a.Seq)).length y).ownBlock = some k) w o)] mixed rfl (by kernel_rfl) (by kernel_rfl) ?_ (fun _ _ h => ⟨h.to _, fun _ => own_kp J h⟩) (fun _ _ _ _ h mo k => ⟨h.1.comp k (fun _ _ q => q.elim), fun q => own_kp (h.2 (mo _ q)) k⟩) ⟨(fun _ _ w o h mo hj t => ⟨h.1.comp t (fun _ _ q => q), fun q => by rw [hj] at q; cases q⟩), trivial⟩ ?_ ?_ ?_
 ·exact ⟨hV, hE, ⟨hV, hE, ⟨hV, hE, ⟨hV, hE, ⟨(fun e v w Z h hk => by obtain ⟨K, L, he, B, M, hap⟩ := h; exact ⟨K, L, he, own_kp B hk, M, hap⟩), hE, ⟨(fun e v w Z h hk => by obtain ⟨K, L, he, B, M⟩ := h; exact ⟨K, L, he, own_kp B hk, M⟩), hE, ⟨hV, hE, ⟨hV, hE, trivial⟩⟩⟩⟩⟩⟩⟩⟩
 ·exact ⟨⟨.inr hV, ⟨.inr hV, ⟨.inr hV, ⟨.inr hV, ⟨.inr (fun e v wX wY h ht => by obtain ⟨K, L, he, B, M, hap⟩ := h; exact ⟨K, L, he, own_ch B ht (fun gq hg _ hk => by have bw := (own_lt B gq hg).1; have bz := (own_lt J gq hk).2; omega), M, hap⟩), ⟨.inl rfl, ⟨.inr hV, ⟨.inr hV, trivial⟩⟩⟩⟩⟩⟩⟩⟩, trivial⟩
 ·refine ⟨?_, ⟨?_, ⟨?_, ⟨?_, ⟨?_, ⟨?_, ⟨?_, ⟨?_, trivial⟩⟩⟩⟩⟩⟩⟩⟩
  ·rintro lf p ⟨b0, b1⟩ ⟨b2, -⟩
   rintro _ _ _ _ _ _ _ _
   show WL _ _ _ _ _ _ _
   refine mw (vs x (([116] : List UInt8) ++ (headOf b a.Sn a.Epoch a.Seq)).length y) ?_
   exact f1
  ·rintro lf p ⟨b3, b4⟩ ⟨b5, -⟩
   rintro _ _ _ _ _ _ _ _
   show WL _ _ _ _ _ _ _
   refine pu (vp m 0) wN ?_
   exact f1
  ·rintro lf p ⟨aN, b6⟩ ⟨b7, -⟩
   rintro _ _ rfl _ _ _ _ _ _
   show WL _ _ _ _ _ _ _
   have aO := (((H.kp s).ch I (fun h => by have := (own_lt Q _ h).1; have := nL P (z3 d g j); omega)).ch aN (fun h => by have := (own_lt J _ h).1; have := nL P (z3 d g j); omega))
   refine ld (vi a.Kind) wN isAgg_3 aO ?_
   exact f1
  ·rintro lf p ⟨b8, b9⟩ ⟨bA, -⟩
   rintro _ _ rfl _ rfl _ _ _ _ _
   show WL _ _ _ _ _ _ _
   refine wl_conv8 a.Kind wN rfl rfl (by kernel_rfl) ?_
   exact f1
  ·rintro lf p ⟨aP, bB⟩ ⟨bC, -⟩
   rintro _ _ rfl _ rfl _ rfl _ _ _ _
   show WL _ _ _ _ _ _ _
   refine ltB ([(by8 a.Kind)] : List UInt8) wN slTy_22 ?_
   intro bD bE au aQ aR
   exact wl_finT aQ ⟨_, _, rfl, (own_lo aR aP.size), (by simp), ⟨trivial, trivial⟩⟩
  ·rintro lf p ⟨aS, aT⟩ ⟨aU, -⟩
   have aV := aT (aU.resolve_left (fun h => Bool.noConfusion (show true = false from h.2)))
   rintro _ rfl _ rfl _ rfl _ rfl _ ⟨bF, bG, rfl, aW, bH, -⟩ _ _ _
   show WL _ _ _ _ _ _ _
   refine apB (([116] : List UInt8) ++ (headOf b a.Sn a.Epoch a.Seq)) ([(by8 a.Kind)] : List UInt8) wN slTy_22 aV (Rd.of_own aW) (z4 G s I aS) ?_
   intro bI bJ au aX aY bK aZ
   exact wl_finT aX ⟨_, _, rfl, aY, aZ⟩
  ·rintro lf p ⟨bL, bM⟩ ⟨bN, -⟩
   rintro _ _ _ _ _ _ _ _
   show WL _ _ _ _ _ _ _
   refine pu (vp m 9) wN ?_
   exact f1
  ·rintro lf p ⟨ba, bO⟩ ⟨bP, -⟩
   rintro _ _ _ _ _ _ _ rfl _
   show WL _ _ _ _ _ _ _
   have bb := (((H.kp s).ch I (fun h => by have := (own_lt Q _ h).1; have := nL P (z3 d g j); omega)).ch ba (fun h => by have := (own_lt J _ h).1; have := nL P (z3 d g j); omega))
   refine ld (vs D a.Body.length E) wN isAgg_22 bb ?_
   exact f1
 ·rintro lf p ⟨av, bQ⟩
  have ax := aM.ext av (fun k hk => nT (z4 u d g j) (own_lt J k hk).1)
  rintro _ rfl _ rfl _ rfl _ rfl _ ⟨bR, bS, rfl, bT, bU, -⟩ _ ⟨bW, bX, rfl, ay, bY⟩ _ rfl _ rfl
  show WL _ _ _ _ _ _ _
  refine apB ((([116] : List UInt8) ++ (headOf b a.Sn a.Epoch a.Seq)) ++ ([(by8 a.Kind)] : List UInt8)) a.Body wN slTy_22 ay (ae.from0 ax) (z4 G s I av) ?_
  intro az a0 au bc bd bZ be
  have bg := ax.ext bc (fun k hk => nT (z4 u d g j) (own_lt ay k hk).1)
  refine aw (vs az (((([116] : List UInt8) ++ (headOf b a.Sn a.Epoch a.Seq)) ++ ([(by8 a.Kind)] : List UInt8)) ++ a.Body).length a0) ?_
  refine n3 ?_
  refine rt (vs az (((([116] : List UInt8) ++ (headOf b a.Sn a.Epoch a.Seq)) ++ ([(by8 a.Kind)] : List UInt8)) ++ a.Body).length a0) ?_
  refine ⟨bg.keep0, ?_⟩
  simp only [s_TagInput, f, i, F, cond_true, cond_false]
  exact ⟨_, _, rfl, (own_lo bd (z4 u d g j)), be, ⟨trivial, trivial⟩⟩

theorem csTag (d : World) (j : Value) (a : List UInt8) (A : R_22 d j a) (k : Value) (b : List UInt8) (B : R_22 d k b)  : Fn Tryz.prog 127 #[j, k] d (fun v l => Keep d l ∧ O_22 l d.heap.size v (tagP a b)) := by
 obtain ⟨m, o, rfl, C, D⟩ := A
 obtain ⟨p, q, rfl, E, F⟩ := B
 refine fn_ofS (n := 17) [(vs m a.length o), (vs p b.length q)] Tryz.func127 rfl rfl ?_
 refine sr ?_
 refine aw (vs none 0 0) ?_
 refine nx ?_
 refine mw (vs m a.length o) ?_
 refine mw (vs p b.length q) ?_
 refine cl wN (csHmac d _ a (mR_22 C D) _ b (mR_22 E F)) ?_
 rintro _ T ⟨f, ⟨g, h, rfl, r, G, V⟩⟩
 have s := (Ch.base d).extk f
 have W := hmac_le a b
 refine aw (vs g (hmac a b).length h) ?_
 refine n4 ?_
 refine mw (vs g (hmac a b).length h) ?_
 refine ln wN slTy_22 (Rd.of_own r) ?_
 refine pu (vb (decide (((hmac a b).length : Int) < 16))) wN ?_
 refine n2 ?_
 rcases bt (decide (((hmac a b).length : Int) < 16)) with e | e
 ·have X := dT e
  refine ct e ?_
  refine sr ?_
  refine wl_lit0 wN rfl rfl slTy_22 (fun w => by kernel_rfl) ?_
  intro t H I J
  have K := s.extk I
  refine aw (vs (some t) 0 0) ?_
  refine n1 ?_
  refine rt (vs (some t) 0 0) ?_
  refine ⟨K.keep0, ?_⟩
  have L : tagP a b = [] := by first | exact tagP_f (by omega) | rfl
  rw [L]
  exact ⟨_, _, rfl, (own_lo J f.size), (by simp), ⟨trivial, trivial⟩⟩
 have Y := dF e
 refine cf e ?_
 refine y1 ?_
 refine wl_lit0 wN rfl rfl slTy_22 (fun w => by kernel_rfl) ?_
 intro Z H i M
 refine mw (vs g (hmac a b).length h) ?_
 have u := (own_kp r i)
 refine slv ((hmac a b).take 16) 0 16 wN slTy_22 (Rd.of_own u) (by first | omega | (simp <;> omega)) (by first | omega | (simp <;> omega)) (by first | rfl | (simp; done) | (rw [List.take_of_length_le (by first | (simp; done) | (simp; omega))])) rfl rfl rfl rfl (.inl ⟨rfl, rfl⟩) (.inr ⟨_, _, _, rfl, rfl, by omega⟩) ?_
 have N : 0 ≤ 16 := (by first | omega | (simp <;> omega))
 have O : 16 ≤ (hmac a b).length := (by first | omega | (simp <;> omega))
 refine ap0 ((hmac a b).take 16) wN slTy_22 M (Rd.subV (x' := ((hmac a b).take 16)) (Rd.of_own u) N O (by first | rfl | (simp; done) | (rw [List.take_of_length_le (by first | (simp; done) | (simp; omega))]))) i.size ?_
 intro x y aa P Q ab
 have R := (s.extk i).extk P
 refine aw (vs x ((hmac a b).take 16).length y) ?_
 refine n3 ?_
 refine rt (vs x ((hmac a b).take 16).length y) ?_
 refine ⟨R.keep0, ?_⟩
 have S : tagP a b = ((hmac a b).take 16) := by first | exact tagP_f (by omega) | rfl
 rw [S]
 exact ⟨_, _, rfl, (own_lo Q f.size), (nT (by simp only [List.length_take, List.length_drop]; omega) G), ⟨trivial, trivial⟩⟩

abbrev Z_37 : List Value := [(vi 0), (vi 0), (vs none 0 0), (vs none 0 0), (vi 0), (vs none 0 0), (vs none 0 0), (vi 0), (vi 0), (vs none 0 0), (vs none 0 0)]
theorem zero_37 : ∀ w, (zeroValue 37).run Tryz.prog w = .ok (va Z_37) w := fun w => by kernel_rfl
def O_37_4 (w : World) (lo : Nat) (v : Value) (x : (PFrame) × (Bool)) : Prop := ∃ (a : Option Addr) (b : Nat) (d : Option Addr) (e : Nat) (f : Option Addr) (g : Nat) (h : Option Addr) (i : Nat) (j : Option Addr) (k : Nat) (l : Option Addr) (m : Nat), v = .tuple #[.agg #[.int .i64 x.1.Kind, .int .i64 x.1.Id, .slice a x.1.Cn.length b, .slice d x.1.Sn.length e, .int .i64 x.1.Tick, .slice f x.1.Cookie.length g, .slice h x.1.Proof.length i, .int .i64 x.1.Epoch, .int .i64 x.1.Seq, .slice j x.1.Body.length k, .slice l x.1.Tag.length m], .bool x.2] ∧ w.ownsRow lo 5 1 (.slice a x.1.Cn.length b) x.1.Cn.length (x.1.Cn.map bV) ∧ x.1.Cn.length ≤ 1073741824 ∧ w.ownsRow lo 5 1 (.slice d x.1.Sn.length e) x.1.Sn.length (x.1.Sn.map bV) ∧ x.1.Sn.length ≤ 1073741824 ∧ w.ownsRow lo 5 1 (.slice f x.1.Cookie.length g) x.1.Cookie.length (x.1.Cookie.map bV) ∧ x.1.Cookie.length ≤ 1073741824 ∧ w.ownsRow lo 5 1 (.slice h x.1.Proof.length i) x.1.Proof.length (x.1.Proof.map bV) ∧ x.1.Proof.length ≤ 1073741824 ∧ w.ownsRow lo 5 1 (.slice j x.1.Body.length k) x.1.Body.length (x.1.Body.map bV) ∧ x.1.Body.length ≤ 1073741824 ∧ w.ownsRow lo 5 1 (.slice l x.1.Tag.length m) x.1.Tag.length (x.1.Tag.map bV) ∧ x.1.Tag.length ≤ 1073741824 ∧ Aps [(a, b), (d, e), (f, g), (h, i), (j, k), (l, m)]
def s_Seal (e : List UInt8) (f : Int) (a : List UInt8) (b : Int) (d : Int) (g : Int) (h : List UInt8) : (PFrame) × (Bool) := bif (decide ((e.length : Int) = 32)) then (bif (decide (((headOf f a b d).length : Int) = 0)) then (({ Kind := 0, Id := 0, Cn := [], Sn := [], Tick := 0, Cookie := [], Proof := [], Epoch := 0, Seq := 0, Body := [], Tag := [] : PFrame }, false)) else (bif (s_Sealed g) then (bif (s_l7Body g (h.length : Int)) then (({ Kind := g, Id := 0, Cn := [], Sn := a, Tick := 0, Cookie := [], Proof := [], Epoch := b, Seq := d, Body := (mixB e (headOf f a b d) h), Tag := (tagP e (s_TagInput f { Kind := g, Id := 0, Cn := [], Sn := a, Tick := 0, Cookie := [], Proof := [], Epoch := b, Seq := d, Body := (mixB e (headOf f a b d) h), Tag := (List.replicate 16 (0 : UInt8)) : PFrame })) : PFrame }, true)) else (({ Kind := 0, Id := 0, Cn := [], Sn := [], Tick := 0, Cookie := [], Proof := [], Epoch := 0, Seq := 0, Body := [], Tag := [] : PFrame }, false))) else (({ Kind := 0, Id := 0, Cn := [], Sn := [], Tick := 0, Cookie := [], Proof := [], Epoch := 0, Seq := 0, Body := [], Tag := [] : PFrame }, false)))) else (({ Kind := 0, Id := 0, Cn := [], Sn := [], Tick := 0, Cookie := [], Proof := [], Epoch := 0, Seq := 0, Body := [], Tag := [] : PFrame }, false))
theorem csSeal (E : World) (a5 : Value) (f : List UInt8) (aS : R_22 E a5 f) (e : Int) (a6 : Value) (a : List UInt8) (aT : R_22 E a6 a) (b : Int) (d : Int) (i : Int) (a7 : Value) (j : List UInt8) (aU : R_22 E a7 j)  : Fn Tryz.prog 92 #[a5, (vi e), a6, (vi b), (vi d), (vi i), a7] E (fun v N => Keep E N ∧ O_37_4 N E.heap.size v (s_Seal f e a b d i j)) := by
 obtain ⟨K, L, rfl, au, a8⟩ := aS
 obtain ⟨ac, ad, rfl, a9, av⟩ := aT
 obtain ⟨ae, af, rfl, aA, aV⟩ := aU
 refine fn_ofS (n := 72) [(vs K f.length L), (vi e), (vs ac a.length ad), (vi b), (vi d), (vi i), (vs ae j.length af)] Tryz.func92 rfl rfl ?_
 refine sr ?_
 refine al Z_37 wN zero_37 ?_
 intro ah aW aB T M aC
 have aD := (Ch.base E).extk M
 refine aw (vb false) ?_
 refine nx ?_
 refine mw (vi e) ?_
 refine mw (vs ac a.length ad) ?_
 refine mw (vi b) ?_
 refine mw (vi d) ?_
 refine cl wN (csHeadOf aW e _ a (mR_22 (a9.from0 aD) av) b d) ?_
 rintro _ aX ⟨o, ⟨ai, aj, rfl, aE, aY, bK⟩⟩
 have ax := aD.extk o
 have bL := headOf_len e a b d
 refine aw (vs ai (headOf e a b d).length aj) ?_
 refine n4 ?_
 refine jT1 [(0, (vs K f.length L)), (1, (vi e)), (2, (vs ac a.length ad)), (3, (vi b)), (4, (vi d)), (5, (vi i)), (6, (vs ae j.length af)), (14, (vp ah 0)), (15, (vb false)), (16, (vs ai (headOf e a b d).length aj))] (s_Seal f e a b d i j = ({ Kind := 0, Id := 0, Cn := [], Sn := [], Tick := 0, Cookie := [], Proof := [], Epoch := 0, Seq := 0, Body := [], Tag := [] : PFrame }, false)) ?_ fun ak => ?_
 ·intro aZ aF aG bM
  refine sr ?_
  refine pu (va Z_37) wN ?_
  have ba := ((aC.kp o).kp aG)
  refine sv Z_37 wN sizeOf_37 ba ?_
  intro bb bc bd bN
  have be := (ax.extk aG).ext bc (fun k hk => by subst hk; exact aB)
  refine aw (vb false) ?_
  refine n1 ?_
  refine ret_2 (.inl rfl) (va Z_37) (vb false) rfl (rv_c Z_37 rfl bd isAgg_37 sizeOf_37) rfl ?_
  refine ⟨be.keep0, ?_⟩
  rw [aZ]
  exact ⟨_, _, _, _, _, _, _, _, _, _, _, _, rfl, (by first | exact own_nil _ _ _ _ | exact OLv.nil _ _ _ _), (by simp), (by first | exact own_nil _ _ _ _ | exact OLv.nil _ _ _ _), (by simp), (by first | exact own_nil _ _ _ _ | exact OLv.nil _ _ _ _), (by simp), (by first | exact own_nil _ _ _ _ | exact OLv.nil _ _ _ _), (by simp), (by first | exact own_nil _ _ _ _ | exact OLv.nil _ _ _ _), (by simp), (by first | exact own_nil _ _ _ _ | exact OLv.nil _ _ _ _), (by simp), ⟨⟨(Ap.nl _), ⟨(Ap.nl _), ⟨(Ap.nl _), ⟨(Ap.nl _), ⟨(Ap.nl _), trivial⟩⟩⟩⟩⟩, ⟨⟨(Ap.nl _), ⟨(Ap.nl _), ⟨(Ap.nl _), ⟨(Ap.nl _), trivial⟩⟩⟩⟩, ⟨⟨(Ap.nl _), ⟨(Ap.nl _), ⟨(Ap.nl _), trivial⟩⟩⟩, ⟨⟨(Ap.nl _), ⟨(Ap.nl _), trivial⟩⟩, ⟨⟨(Ap.nl _), trivial⟩, ⟨trivial, trivial⟩⟩⟩⟩⟩⟩⟩
 refine mw (vs K f.length L) ?_
 refine ln wN slTy_22 (au.from0 ax) ?_
 refine pu (vb (!(decide ((f.length : Int) = 32)))) wN ?_
 refine mw (vb (!(decide ((f.length : Int) = 32)))) ?_
 rcases bf (decide ((f.length : Int) = 32)) with p | p
 ·have bO := dF p
  iterate 3 refine sk (cA not p) ?_
  refine pk (vb true) wN (cA not p) ?_
  refine mw (vb true) ?_
  iterate 3 refine sk (Eq.refl true) ?_
  refine pk (vb true) wN (Eq.refl true) ?_
  refine mw (vb true) ?_
  iterate 5 refine sk (Eq.refl true) ?_
  refine pk (vb true) wN (Eq.refl true) ?_
  refine n2 ?_
  refine ct (Eq.refl true) ?_
  have bg : s_Seal f e a b d i j = ({ Kind := 0, Id := 0, Cn := [], Sn := [], Tick := 0, Cookie := [], Proof := [], Epoch := 0, Seq := 0, Body := [], Tag := [] : PFrame }, false) := by simp only [s_Seal, p, cond_true, cond_false]
  exact wj (ak bg _ (Ch.refl _ _))
 have bP := dT p
 refine mv (vs ai (headOf e a b d).length aj) (wS (cA not p)) ?_
 refine ln (wS (cA not p)) slTy_22 (Rd.of_own aE) ?_
 refine pu (vb (decide (((headOf e a b d).length : Int) = 0))) (wS (cA not p)) ?_
 refine pf (vb (decide (((headOf e a b d).length : Int) = 0))) wN (cA not p) ?_
 refine mw (vb (decide (((headOf e a b d).length : Int) = 0))) ?_
 rcases bt (decide (((headOf e a b d).length : Int) = 0)) with r | r
 ·have bQ := dT r
  iterate 3 refine sk r ?_
  refine pk (vb true) wN r ?_
  refine mw (vb true) ?_
  iterate 5 refine sk (Eq.refl true) ?_
  refine pk (vb true) wN (Eq.refl true) ?_
  refine n2 ?_
  refine ct (Eq.refl true) ?_
  have bh : s_Seal f e a b d i j = ({ Kind := 0, Id := 0, Cn := [], Sn := [], Tick := 0, Cookie := [], Proof := [], Epoch := 0, Seq := 0, Body := [], Tag := [] : PFrame }, false) := by simp only [s_Seal, p, r, cond_true, cond_false]
  exact wj (ak bh _ (Ch.refl _ _))
 have bR := dF r
 refine mv (vi i) (wS r) ?_
 refine cl (wS r) (csSealed aX i) ?_
 rintro _ aF ⟨l, rfl⟩
 have aH := ax.extk l
 refine pu (vb (!(s_Sealed i))) (wS r) ?_
 refine pf (vb (!(s_Sealed i))) wN r ?_
 refine mw (vb (!(s_Sealed i))) ?_
 rcases bf (s_Sealed i) with x | x
 ·iterate 5 refine sk (cA not x) ?_
  refine pk (vb true) wN (cA not x) ?_
  refine n2 ?_
  refine ct (Eq.refl true) ?_
  have bi : s_Seal f e a b d i j = ({ Kind := 0, Id := 0, Cn := [], Sn := [], Tick := 0, Cookie := [], Proof := [], Epoch := 0, Seq := 0, Body := [], Tag := [] : PFrame }, false) := by simp only [s_Seal, p, r, x, cond_true, cond_false]
  exact wj (ak bi _ l)
 refine mv (vi i) (wS (cA not x)) ?_
 refine mv (vs ae j.length af) (wS (cA not x)) ?_
 refine ln (wS (cA not x)) slTy_22 (aA.from0 aH) ?_
 refine cl (wS (cA not x)) (csl7Body aF i (j.length : Int)) ?_
 rintro _ bb ⟨m, rfl⟩
 refine pu (vb (!(s_l7Body i (j.length : Int)))) (wS (cA not x)) ?_
 refine pf (vb (!(s_l7Body i (j.length : Int)))) wN (cA not x) ?_
 refine n2 ?_
 rcases bf (s_l7Body i (j.length : Int)) with W | W
 ·refine ct (cA not W) ?_
  have bj : s_Seal f e a b d i j = ({ Kind := 0, Id := 0, Cn := [], Sn := [], Tick := 0, Cookie := [], Proof := [], Epoch := 0, Seq := 0, Body := [], Tag := [] : PFrame }, false) := by simp only [s_Seal, p, r, x, W, cond_true, cond_false]
  exact wj (ak bj _ (l.trans m))
 refine cf (cA not W) ?_
 refine y1 ?_
 refine mw (vi i) ?_
 refine wl_lit0 wN rfl rfl slTy_22 (fun w => by kernel_rfl) ?_
 intro bS bT s bk
 have aI := (aH.extk m).extk s
 refine mw (vs ac a.length ad) ?_
 refine ap0 a wN slTy_22 bk (a9.from0 aI) s.size ?_
 intro A B ay y O bU
 have az := aI.extk y
 refine mw (vi b) ?_
 refine mw (vi d) ?_
 refine mw (vs K f.length L) ?_
 refine mw (vs ai (headOf e a b d).length aj) ?_
 refine mw (vs ae j.length af) ?_
 have bl := (own_kp (own_kp (own_kp (own_kp aE l) m) s) y)
 refine cl wN (csMix ay _ f (mR_22 (au.from0 az) a8) _ (headOf e a b d) (mR_22 (Rd.of_own bl) aY) _ j (mR_22 (aA.from0 az) aV)) ?_
 rintro _ J ⟨q, ⟨C, D, rfl, P, aJ, bW⟩⟩
 have bX := mixB_len f (headOf e a b d) j
 refine pu (va [(vi i), (vi 0), (vs none 0 0), (vs A a.length B), (vi 0), (vs none 0 0), (vs none 0 0), (vi b), (vi d), (vs C (mixB f (headOf e a b d) j).length D), (vs none 0 0)]) wN ?_
 refine al Z_37 wN zero_37 ?_
 intro Q bY F a0 G bm
 refine sv [(vi i), (vi 0), (vs none 0 0), (vs A a.length B), (vi 0), (vs none 0 0), (vs none 0 0), (vi b), (vi d), (vs C (mixB f (headOf e a b d) j).length D), (vs none 0 0)] wN sizeOf_37 bm ?_
 intro am t bn bZ
 have bo := ((az.extk q).extk G).ext t (fun k hk => by subst hk; exact nT (z7 M o l m s y q) F)
 refine n4 ?_
 refine aw (vi 0) ?_
 refine wl_nil <| wq_then <| wc_block ?_
 have bp : (([] : List UInt8) : List UInt8) = List.replicate 0 (0 : UInt8) := by first | rfl | exact List.replicate_succ'.symm
 refine wc_loopP [(0, (vs K f.length L)), (1, (vi e)), (14, (vp ah 0)), (15, (vb false)), (17, (vp Q 0)), (18, (vi ((0 : Nat) : Int)))] ⟨rfl, rfl, rfl, rfl, rfl, (cA (Value.int .i64) (show (0 : Int) = ((0 : Nat) : Int) by omega)), trivial⟩ (fun e' N => ∃ (k : Nat) (aK : Env) (ab17_10x : Option Addr) (cb17_10x : Nat), e' = pt aK [(0, (vs K f.length L)), (1, (vi e)), (14, (vp ah 0)), (15, (vb false)), (17, (vp Q 0)), (18, (vi ((k : Nat) : Int)))] ∧ Ch (fun k => E.heap.size ≤ k) E N ∧ Ch (fun k => J.heap.size ≤ k) am N ∧ k ≤ 16 ∧ (World.ownsRow N am.heap.size 5 1 (.slice ab17_10x (List.replicate k (0 : UInt8)).length cb17_10x) (List.replicate k (0 : UInt8)).length ((List.replicate k (0 : UInt8)).map bV) ∧ (List.replicate k (0 : UInt8)).length ≤ 1073741824) ∧ Blk N Q 37 [(vi i), (vi 0), (vs none 0 0), (vs A a.length B), (vi 0), (vs none 0 0), (vs none 0 0), (vi b), (vi d), (vs C (mixB f (headOf e a b d) j).length D), (.slice ab17_10x (List.replicate k (0 : UInt8)).length cb17_10x)]) (fun e' _ => (16 - (intOf (e' 18))).toNat) ?_ ?_
 ·exact fun u => ⟨0, u, none, 0, rfl, bo, (Ch.refl (fun k => J.heap.size ≤ k) am), (by omega), (bp ▸ ⟨(own_nil _ _ _ _), (by simp)⟩), bn⟩
 ·rintro _ a1 ⟨k, aK, ab17_10x, cb17_10x, rfl, aL, H, ca, ⟨X, bq⟩, an⟩
  have hpl : (List.replicate k (0 : UInt8)).length = k := List.length_replicate
  refine wc_seq <| sr ?_
  refine mw (vi ((k : Nat) : Int)) ?_
  refine pu (vb (decide (((k : Nat) : Int) < 16))) wN ?_
  refine n2 ?_
  rcases bt (decide (((k : Nat) : Int) < 16)) with V | V
  ·have cb := dT V
   refine ct V ?_
   refine wc_skip <| wq_then <| wc_seq <| wc_block <| wc_region ?_
   refine pu (vp Q 10) wN ?_
   refine ld (vs ab17_10x (List.replicate k (0 : UInt8)).length cb17_10x) wN isAgg_22 an ?_
   refine ltB ([0] : List UInt8) wN slTy_22 ?_
   intro cc cd aM Y br
   have bu := (own_kp X Y)
   refine apB (List.replicate k (0 : UInt8)) ([0] : List UInt8) wN slTy_22 bu (Rd.of_own br) (z2 H Y) ?_
   intro ao ap bv a2 aN ce bw
   have bz := (aL.extk Y).ext a2 (fun k hk => nT (z9 M o l m s y q G t) (own_lt X k hk).1)
   refine pu (vp Q 10) wN ?_
   have b0 := ((an.kp Y).ch a2 (fun h => by have := (own_lt X _ h).1; have := nL a0 t.size; omega))
   refine st (vs ao ((List.replicate k (0 : UInt8)) ++ ([0] : List UInt8)).length ap) [(vs ao ((List.replicate k (0 : UInt8)) ++ ([0] : List UInt8)).length ap)] [(vi i), (vi 0), (vs none 0 0), (vs A a.length B), (vi 0), (vs none 0 0), (vs none 0 0), (vi b), (vi d), (vs C (mixB f (headOf e a b d) j).length D), (vs ao ((List.replicate k (0 : UInt8)) ++ ([0] : List UInt8)).length ap)] wN sizeOf_22 b0 ?_
   intro b1 a3 b2 cg
   have b3 := bz.ext a3 (fun k hk => by subst hk; exact nT (z7 M o l m s y q) F)
   refine wl_nil <| wq_blk_normal <| wq_then <| wc_region ?_
   refine mw (vi ((k : Nat) : Int)) ?_
   refine ar (((k : Nat) : Int) + 1) wN ?_
   refine aw (vi (((k : Nat) : Int) + 1)) ?_
   refine wl_nil ?_
   have b4 := (own_ch aN a3 (ne1 aN (nL a0 t.size)))
   have aO : (((List.replicate k (0 : UInt8)) ++ ([0] : List UInt8)) : List UInt8) = List.replicate (k + 1) (0 : UInt8) := by first | rfl | exact List.replicate_succ'.symm
   refine wq_loopP (w0 := a1) [(0, (vs K f.length L)), (1, (vi e)), (14, (vp ah 0)), (15, (vb false)), (17, (vp Q 0)), (18, (vi (((k + 1) : Nat) : Int)))] ?_ ?_ ?_
   · exact ⟨rfl, rfl, rfl, rfl, rfl, (cA (Value.int .i64) (show ((((k : Nat) : Int) + 1) : Int) = (((k + 1) : Nat) : Int) by omega)), trivial⟩
   · exact fun u => ⟨(k + 1), u, ao, ap, rfl, b3, (((((Ch.refl (fun k => J.heap.size ≤ k) am).ext H (fun k hk => hk)).extk Y).ext a2 (fun k hk => nT (z2 G t) (own_lt X k hk).1)).ext a3 (fun k hk => by subst hk; exact F)), (by omega), (aO ▸ ⟨b4, bw⟩), (by have hb := b2; rw [aO] at hb; exact hb)⟩
   · show (16 - (((k + 1) : Nat) : Int)).toNat < (16 - ((k : Nat) : Int)).toNat; omega
  have ci := dF V
  refine cf V ?_
  refine wc_exit <| wq_then_exit ?_
  obtain rfl : k = 16 := by omega
  refine wq_then_exit <| wq_blk_exit <| wq_then <| sr ?_
  refine mw (vs K f.length L) ?_
  refine mw (vi e) ?_
  refine lN [(vi i), (vi 0), (vs none 0 0), (vs A a.length B), (vi 0), (vs none 0 0), (vs none 0 0), (vi b), (vi d), (vs C (mixB f (headOf e a b d) j).length D), (vs ab17_10x (List.replicate 16 (0 : UInt8)).length cb17_10x)] wN isAgg_37 sizeOf_37 an ?_
  have aP := (own_ch (own_ch (own_kp (own_kp O q) G) t (ne2 O (nT q.size F))) H (fun g hg hlt hk => by have b5 := (own_lt O g hg).2; have b6 : ay.heap.size ≤ J.heap.size := q.size; have b7 : J.heap.size ≤ g := hk; omega))
  have aQ := (own_ch (own_ch (own_kp P G) t (ne2 P (F))) H (fun g hg hlt hk => by have b5 := (own_lt P g hg).2; have b6 : J.heap.size ≤ J.heap.size := (Nat.le_refl J.heap.size); have b7 : J.heap.size ≤ g := hk; omega))
  refine cl wN (csTagInput a1 e _ _ (show R_37 a1 (va [(vi i), (vi 0), (vs none 0 0), (vs A a.length B), (vi 0), (vs none 0 0), (vs none 0 0), (vi b), (vi d), (vs C (mixB f (headOf e a b d) j).length D), (vs ab17_10x (List.replicate 16 (0 : UInt8)).length cb17_10x)]) { Kind := i, Id := 0, Cn := [], Sn := a, Tick := 0, Cookie := [], Proof := [], Epoch := b, Seq := d, Body := (mixB f (headOf e a b d) j), Tag := (List.replicate 16 (0 : UInt8)) : PFrame } from ⟨_, _, _, _, _, _, _, _, _, _, _, _, rfl, (Rd.nil _ _), (by simp), (Rd.of_own aP), av, (Rd.nil _ _), (by simp), (Rd.nil _ _), (by simp), (Rd.of_own aQ), aJ, (Rd.of_own X), bq⟩)) ?_
  rintro _ aM ⟨I, ⟨cj, ck, rfl, b8, b9, cm⟩⟩
  have aR := aL.extk I
  refine cl wN (csTag aM _ f (mR_22 (au.from0 aR) a8) _ (s_TagInput e { Kind := i, Id := 0, Cn := [], Sn := a, Tick := 0, Cookie := [], Proof := [], Epoch := b, Seq := d, Body := (mixB f (headOf e a b d) j), Tag := (List.replicate 16 (0 : UInt8)) : PFrame }) (mR_22 (Rd.of_own b8) b9)) ?_
  rintro _ bv ⟨Z, ⟨R, S, rfl, aa, bA, cn⟩⟩
  have co := tagP_len f (s_TagInput e { Kind := i, Id := 0, Cn := [], Sn := a, Tick := 0, Cookie := [], Proof := [], Epoch := b, Seq := d, Body := (mixB f (headOf e a b d) j), Tag := (List.replicate 16 (0 : UInt8)) : PFrame })
  refine pu (vp Q 10) wN ?_
  have bB := ((an.kp I).kp Z)
  refine st (vs R (tagP f (s_TagInput e { Kind := i, Id := 0, Cn := [], Sn := a, Tick := 0, Cookie := [], Proof := [], Epoch := b, Seq := d, Body := (mixB f (headOf e a b d) j), Tag := (List.replicate 16 (0 : UInt8)) : PFrame })).length S) [(vs R (tagP f (s_TagInput e { Kind := i, Id := 0, Cn := [], Sn := a, Tick := 0, Cookie := [], Proof := [], Epoch := b, Seq := d, Body := (mixB f (headOf e a b d) j), Tag := (List.replicate 16 (0 : UInt8)) : PFrame })).length S)] [(vi i), (vi 0), (vs none 0 0), (vs A a.length B), (vi 0), (vs none 0 0), (vs none 0 0), (vi b), (vi d), (vs C (mixB f (headOf e a b d) j).length D), (vs R (tagP f (s_TagInput e { Kind := i, Id := 0, Cn := [], Sn := a, Tick := 0, Cookie := [], Proof := [], Epoch := b, Seq := d, Body := (mixB f (headOf e a b d) j), Tag := (List.replicate 16 (0 : UInt8)) : PFrame })).length S)] wN sizeOf_22 bB ?_
  intro b1 ab bC cp
  have bD := (aR.extk Z).ext ab (fun k hk => by subst hk; exact nT (z7 M o l m s y q) F)
  refine nx ?_
  refine lN [(vi i), (vi 0), (vs none 0 0), (vs A a.length B), (vi 0), (vs none 0 0), (vs none 0 0), (vi b), (vi d), (vs C (mixB f (headOf e a b d) j).length D), (vs R (tagP f (s_TagInput e { Kind := i, Id := 0, Cn := [], Sn := a, Tick := 0, Cookie := [], Proof := [], Epoch := b, Seq := d, Body := (mixB f (headOf e a b d) j), Tag := (List.replicate 16 (0 : UInt8)) : PFrame })).length S)] wN isAgg_37 sizeOf_37 bC ?_
  have a4 := z6 o l m s y q
  have bE := ((((((((((((aC.kp o).kp l).kp m).kp s).kp y).kp q).kp G).ch t (nN (nL T (nT a4 F)))).ch H (Nat.not_le.2 (nL T a4))).kp I).kp Z).ch ab (nN (nL T (nT a4 F))))
  refine sv [(vi i), (vi 0), (vs none 0 0), (vs A a.length B), (vi 0), (vs none 0 0), (vs none 0 0), (vi b), (vi d), (vs C (mixB f (headOf e a b d) j).length D), (vs R (tagP f (s_TagInput e { Kind := i, Id := 0, Cn := [], Sn := a, Tick := 0, Cookie := [], Proof := [], Epoch := b, Seq := d, Body := (mixB f (headOf e a b d) j), Tag := (List.replicate 16 (0 : UInt8)) : PFrame })).length S)] wN sizeOf_37 bE ?_
  intro cq aq bF cr
  have bG := bD.ext aq (fun k hk => by subst hk; exact aB)
  refine aw (vb true) ?_
  refine n3 ?_
  have bH := (own_ch (own_ch (own_kp (own_kp aP I) Z) ab (ne2 O (nT q.size F))) aq (ne1 O (nL T (z3 o l m))))
  have bI := (own_ch (own_ch (own_kp (own_kp aQ I) Z) ab (ne2 P (F))) aq (ne1 P (nL T (z5 o l m s y))))
  have bJ := (own_ch (own_ch aa ab (ne1 aa (nL a0 (z3 t H I)))) aq (ne1 aa (nL T (z10 o l m s y q G t H I))))
  refine ret_2 (.inl rfl) (va [(vi i), (vi 0), (vs none 0 0), (vs A a.length B), (vi 0), (vs none 0 0), (vs none 0 0), (vi b), (vi d), (vs C (mixB f (headOf e a b d) j).length D), (vs R (tagP f (s_TagInput e { Kind := i, Id := 0, Cn := [], Sn := a, Tick := 0, Cookie := [], Proof := [], Epoch := b, Seq := d, Body := (mixB f (headOf e a b d) j), Tag := (List.replicate 16 (0 : UInt8)) : PFrame })).length S)]) (vb true) rfl (rv_c [(vi i), (vi 0), (vs none 0 0), (vs A a.length B), (vi 0), (vs none 0 0), (vs none 0 0), (vi b), (vi d), (vs C (mixB f (headOf e a b d) j).length D), (vs R (tagP f (s_TagInput e { Kind := i, Id := 0, Cn := [], Sn := a, Tick := 0, Cookie := [], Proof := [], Epoch := b, Seq := d, Body := (mixB f (headOf e a b d) j), Tag := (List.replicate 16 (0 : UInt8)) : PFrame })).length S)] rfl bF isAgg_37 sizeOf_37) rfl ?_
  refine ⟨bG.keep0, ?_⟩
  simp only [s_Seal, p, r, x, W, V, cond_true, cond_false]
  exact ⟨_, _, _, _, _, _, _, _, _, _, _, _, rfl, (by first | exact own_nil _ _ _ _ | exact OLv.nil _ _ _ _), (by simp), (own_lo bH (z4 M o l m)), av, (by first | exact own_nil _ _ _ _ | exact OLv.nil _ _ _ _), (by simp), (by first | exact own_nil _ _ _ _ | exact OLv.nil _ _ _ _), (by simp), (own_lo bI (z6 M o l m s y)), aJ, (own_lo bJ (z11 M o l m s y q G t H I)), bA, ⟨⟨(Ap.nl _), ⟨(Ap.nl _), ⟨(Ap.nl _), ⟨(Ap.nl _), ⟨(Ap.nl _), trivial⟩⟩⟩⟩⟩, ⟨⟨(Ap.nr _), ⟨(Ap.nr _), ⟨(Ap.lt O P (Nat.le_refl ay.heap.size)), ⟨(Ap.lt O aa (z5 q G t H I)), trivial⟩⟩⟩⟩, ⟨⟨(Ap.nl _), ⟨(Ap.nl _), ⟨(Ap.nl _), trivial⟩⟩⟩, ⟨⟨(Ap.nl _), ⟨(Ap.nl _), trivial⟩⟩, ⟨⟨(Ap.lt P aa (z4 G t H I)), trivial⟩, ⟨trivial, trivial⟩⟩⟩⟩⟩⟩⟩

def O_33_37_3 (w : World) (lo : Nat) (v : Value) (x : (PEp) × (PFrame) × (Int)) : Prop := ∃ (a : Option Addr) (b : Nat) (d : Option Addr) (e : Nat) (f : Option Addr) (g : Nat) (h : Option Addr) (i : Nat) (j : Option Addr) (k : Nat) (l : Option Addr) (m : Nat) (o : Option Addr) (p : Nat) (q : Option Addr) (r : Nat), v = .tuple #[.agg #[.int .i64 x.1.N, .slice a x.1.Key.length b, .int .i64 x.1.Seq, .int .i64 x.1.Win.Top, .slice d x.1.Win.Bits.length e], .agg #[.int .i64 x.2.1.Kind, .int .i64 x.2.1.Id, .slice f x.2.1.Cn.length g, .slice h x.2.1.Sn.length i, .int .i64 x.2.1.Tick, .slice j x.2.1.Cookie.length k, .slice l x.2.1.Proof.length m, .int .i64 x.2.1.Epoch, .int .i64 x.2.1.Seq, .slice o x.2.1.Body.length p, .slice q x.2.1.Tag.length r], .int .i64 x.2.2] ∧ w.ownsRow lo 5 1 (.slice a x.1.Key.length b) x.1.Key.length (x.1.Key.map bV) ∧ x.1.Key.length ≤ 1073741824 ∧ w.ownsRow lo 3 1 (.slice d x.1.Win.Bits.length e) x.1.Win.Bits.length (x.1.Win.Bits.map iV) ∧ x.1.Win.Bits.length ≤ 1073741824 ∧ w.ownsRow lo 5 1 (.slice f x.2.1.Cn.length g) x.2.1.Cn.length (x.2.1.Cn.map bV) ∧ x.2.1.Cn.length ≤ 1073741824 ∧ w.ownsRow lo 5 1 (.slice h x.2.1.Sn.length i) x.2.1.Sn.length (x.2.1.Sn.map bV) ∧ x.2.1.Sn.length ≤ 1073741824 ∧ w.ownsRow lo 5 1 (.slice j x.2.1.Cookie.length k) x.2.1.Cookie.length (x.2.1.Cookie.map bV) ∧ x.2.1.Cookie.length ≤ 1073741824 ∧ w.ownsRow lo 5 1 (.slice l x.2.1.Proof.length m) x.2.1.Proof.length (x.2.1.Proof.map bV) ∧ x.2.1.Proof.length ≤ 1073741824 ∧ w.ownsRow lo 5 1 (.slice o x.2.1.Body.length p) x.2.1.Body.length (x.2.1.Body.map bV) ∧ x.2.1.Body.length ≤ 1073741824 ∧ w.ownsRow lo 5 1 (.slice q x.2.1.Tag.length r) x.2.1.Tag.length (x.2.1.Tag.map bV) ∧ x.2.1.Tag.length ≤ 1073741824 ∧ Aps [(a, b), (d, e), (f, g), (h, i), (j, k), (l, m), (o, p), (q, r)]
def s_EpSeal_j2 (a : PEp) (b : Int) (d : List UInt8) (e : Int) (f : List UInt8) : (PEp) × (PFrame) × (Int) := bif (decide (a.Seq = 281474976710656)) then (((a), { Kind := 0, Id := 0, Cn := [], Sn := [], Tick := 0, Cookie := [], Proof := [], Epoch := 0, Seq := 0, Body := [], Tag := [] : PFrame }, 5)) else (({ N := (a).N, Key := (a).Key, Seq := (a.Seq + 1), Win := ((a).Win) : PEp }, ((s_Seal a.Key b d a.N a.Seq e f).1), 0))
def s_EpSeal (a : PEp) (d : Int) (e : List UInt8) (b : Int) (f : List UInt8) : (PEp) × (PFrame) × (Int) := bif (s_EpOk a) then (bif (decide (((headOf d e a.N 0).length : Int) = 0)) then (((a), { Kind := 0, Id := 0, Cn := [], Sn := [], Tick := 0, Cookie := [], Proof := [], Epoch := 0, Seq := 0, Body := [], Tag := [] : PFrame }, 1)) else (bif (s_Sealed b) then (bif (s_l7Body b (f.length : Int)) then (bif (decide (b = 4)) then (bif (decide (281474976709656 ≤ a.Seq)) then (((a), { Kind := 0, Id := 0, Cn := [], Sn := [], Tick := 0, Cookie := [], Proof := [], Epoch := 0, Seq := 0, Body := [], Tag := [] : PFrame }, 4)) else ((s_EpSeal_j2 a d e b f))) else ((s_EpSeal_j2 a d e b f))) else (((a), { Kind := 0, Id := 0, Cn := [], Sn := [], Tick := 0, Cookie := [], Proof := [], Epoch := 0, Seq := 0, Body := [], Tag := [] : PFrame }, 1))) else (((a), { Kind := 0, Id := 0, Cn := [], Sn := [], Tick := 0, Cookie := [], Proof := [], Epoch := 0, Seq := 0, Body := [], Tag := [] : PFrame }, 1)))) else (((a), { Kind := 0, Id := 0, Cn := [], Sn := [], Tick := 0, Cookie := [], Proof := [], Epoch := 0, Seq := 0, Body := [], Tag := [] : PFrame }, 1))
theorem csEpSeal (ao : World) (bm : Value) (a : PEp) (bE : R_33 ao bm a) (d : Int) (bn : Value) (e : List UInt8) (bF : R_22 ao bn e) (b : Int) (bo : Value) (f : List UInt8) (bG : R_22 ao bo f)  : Fn Tryz.prog 48 #[bm, (vi d), bn, (vi b), bo] ao (fun v az => Keep ao az ∧ O_33_37_3 az ao.heap.size v (s_EpSeal a d e b f)) := by
 obtain ⟨a3, a4, aC, aD, rfl, aY, aZ, bp, bq⟩ := bE
 obtain ⟨a5, a6, rfl, br, bu⟩ := bF
 obtain ⟨a7, a8, rfl, bv, bH⟩ := bG
 refine fn_ofS (n := 78) [(va (L_33 a a3 a4 aC aD)), (vi d), (vs a5 e.length a6), (vi b), (vs a7 f.length a8)] Tryz.func48 rfl rfl ?_
 refine sr ?_
 refine bx (L_33 a a3 a4 aC aD) wN ?_
 intro W dg dh bw D bI
 refine al Z_33 wN zero_33 ?_
 intro ap di aE F G aF
 refine al Z_37 wN zero_37 ?_
 intro bz X R V g aG
 have ba := (((Ch.base ao).extk D).extk G).extk g
 refine aw (vi 0) ?_
 refine nx ?_
 have b0 := ((bI.kp G).kp g)
 refine lN (L_33 a a3 a4 aC aD) wN isAgg_33 sizeOf_33 b0 ?_
 refine cl wN (csl9Copy X _ a (mR_33 (aY.from0 ba) aZ (bp.from0 ba) bq)) ?_
 rintro _ Z ⟨i, ⟨u, x, y, A, rfl, L, aH, M, aI, aJ⟩⟩
 refine al Z_33 wN zero_33 ?_
 intro bb dj H bc s bJ
 refine sv (L_33 (a) u x y A) wN sizeOf_33 bJ ?_
 intro bK r aK dk
 have aL := ((ba.extk i).extk s).ext r (fun k hk => by subst hk; exact nT (z4 D G g i) H)
 refine n4 ?_
 refine jT1 [(1, (vi d)), (2, (vs a5 e.length a6)), (3, (vi b)), (4, (vs a7 f.length a8)), (5, (vp W 0)), (10, (vp ap 0)), (11, (vp bz 0)), (12, (vi 0)), (13, (vp bb 0))] (s_EpSeal a d e b f = ((a), { Kind := 0, Id := 0, Cn := [], Sn := [], Tick := 0, Cookie := [], Proof := [], Epoch := 0, Seq := 0, Body := [], Tag := [] : PFrame }, 1)) ?_ fun aM => ?_
 ·intro bL b1 a9 dl
  refine sr ?_
  have bM := (aK.kp a9)
  refine lN (L_33 (a) u x y A) wN isAgg_33 sizeOf_33 bM ?_
  refine pu (va Z_37) wN ?_
  have bN := (((((aF.kp g).kp i).kp s).ch r (nN (nL F (nT (z2 g i) H)))).kp a9)
  refine sv (L_33 (a) u x y A) wN sizeOf_33 bN ?_
  intro b2 bd bO dm
  have bP := (aL.extk a9).ext bd (fun k hk => by subst hk; exact nT D.size aE)
  have bQ := (((((aG.kp i).kp s).ch r (nN (nL V (nT i.size H)))).kp a9).ch bd (Ne.symm (nN (nL F (R)))))
  refine sv Z_37 wN sizeOf_37 bQ ?_
  intro b3 be bR dn
  have bS := bP.ext be (fun k hk => by subst hk; exact nT (z2 D G) R)
  refine aw (vi 1) ?_
  refine n1 ?_
  have bT := (bO.ch be (nN (nL F (R))))
  have b4 := fun (E sz n : Nat) (v : Value) (O : List Value) (o : World.ownsRow Z X.heap.size E sz v n O) (C : World.ownsRow Z X.heap.size E sz v n O) => (own_ch (own_ch (own_kp (own_ch (own_kp o s) r (ne2 C (H))) a9) bd (ne1 C (nL F g.size))) be (ne1 C (V)))
  have bU := (b4 _ _ _ _ _ L L)
  have bW := (b4 _ _ _ _ _ M M)
  refine ret_3 (.inl rfl) (va (L_33 (a) u x y A)) (va Z_37) (vi 1) rfl (rv_c (L_33 (a) u x y A) rfl bT isAgg_33 sizeOf_33) (rv_c Z_37 rfl bR isAgg_37 sizeOf_37) rfl ?_
  refine ⟨bS.keep0, ?_⟩
  rw [bL]
  exact ⟨_, _, _, _, _, _, _, _, _, _, _, _, _, _, _, _, rfl, (own_lo bU (z3 D G g)), aH, (own_lo bW (z3 D G g)), aI, (by first | exact own_nil _ _ _ _ | exact OLv.nil _ _ _ _), (by simp), (by first | exact own_nil _ _ _ _ | exact OLv.nil _ _ _ _), (by simp), (by first | exact own_nil _ _ _ _ | exact OLv.nil _ _ _ _), (by simp), (by first | exact own_nil _ _ _ _ | exact OLv.nil _ _ _ _), (by simp), (by first | exact own_nil _ _ _ _ | exact OLv.nil _ _ _ _), (by simp), (by first | exact own_nil _ _ _ _ | exact OLv.nil _ _ _ _), (by simp), ⟨⟨(aJ.1.1), ⟨(Ap.nr _), ⟨(Ap.nr _), ⟨(Ap.nr _), ⟨(Ap.nr _), ⟨(Ap.nr _), ⟨(Ap.nr _), trivial⟩⟩⟩⟩⟩⟩⟩, ⟨⟨(Ap.nr _), ⟨(Ap.nr _), ⟨(Ap.nr _), ⟨(Ap.nr _), ⟨(Ap.nr _), ⟨(Ap.nr _), trivial⟩⟩⟩⟩⟩⟩, ⟨⟨(Ap.nl _), ⟨(Ap.nl _), ⟨(Ap.nl _), ⟨(Ap.nl _), ⟨(Ap.nl _), trivial⟩⟩⟩⟩⟩, ⟨⟨(Ap.nl _), ⟨(Ap.nl _), ⟨(Ap.nl _), ⟨(Ap.nl _), trivial⟩⟩⟩⟩, ⟨⟨(Ap.nl _), ⟨(Ap.nl _), ⟨(Ap.nl _), trivial⟩⟩⟩, ⟨⟨(Ap.nl _), ⟨(Ap.nl _), trivial⟩⟩, ⟨⟨(Ap.nl _), trivial⟩, ⟨trivial, trivial⟩⟩⟩⟩⟩⟩⟩⟩⟩
 have b5 := (((b0.kp i).kp s).ch r (nN (nL bw (nT (z3 G g i) H))))
 refine lN (L_33 a a3 a4 aC aD) wN isAgg_33 sizeOf_33 b5 ?_
 refine cl wN (csEpOk bK _ a (mR_33 (aY.from0 aL) aZ (bp.from0 aL) bq)) ?_
 rintro _ b1 ⟨j, rfl⟩
 have b6 := aL.extk j
 refine pu (vb (!(s_EpOk a))) wN ?_
 refine mw (vb (!(s_EpOk a))) ?_
 rcases bf (s_EpOk a) with I | I
 ·iterate 7 refine sk (cA not I) ?_
  refine pk (vb true) wN (cA not I) ?_
  refine mw (vb true) ?_
  iterate 3 refine sk (Eq.refl true) ?_
  refine pk (vb true) wN (Eq.refl true) ?_
  refine mw (vb true) ?_
  iterate 5 refine sk (Eq.refl true) ?_
  refine pk (vb true) wN (Eq.refl true) ?_
  refine n2 ?_
  refine ct (Eq.refl true) ?_
  have bX : s_EpSeal a d e b f = ((a), { Kind := 0, Id := 0, Cn := [], Sn := [], Tick := 0, Cookie := [], Proof := [], Epoch := 0, Seq := 0, Body := [], Tag := [] : PFrame }, 1) := by simp only [s_EpSeal, I, cond_true, cond_false]
  exact wj (aM bX _ j)
 have dp := spec_EpOk_t I
 refine mv (vi d) (wS (cA not I)) ?_
 refine mv (vs a5 e.length a6) (wS (cA not I)) ?_
 refine pu (vp W 0) (wS (cA not I)) ?_
 have bg := (b5.kp j)
 refine ld (vi a.N) (wS (cA not I)) isAgg_3 bg ?_
 refine cl (wS (cA not I)) (csHeadOf b1 d _ e (mR_22 (br.from0 b6) bu) a.N 0) ?_
 rintro _ b2 ⟨l, ⟨dq, dr, rfl, bY, _⟩⟩
 have ds := headOf_len d e a.N 0
 refine ln (wS (cA not I)) slTy_22 (Rd.of_own bY) ?_
 refine pu (vb (decide (((headOf d e a.N 0).length : Int) = 0))) (wS (cA not I)) ?_
 refine pf (vb (decide (((headOf d e a.N 0).length : Int) = 0))) wN (cA not I) ?_
 refine mw (vb (decide (((headOf d e a.N 0).length : Int) = 0))) ?_
 rcases bt (decide (((headOf d e a.N 0).length : Int) = 0)) with J | J
 ·have dt := dT J
  iterate 3 refine sk J ?_
  refine pk (vb true) wN J ?_
  refine mw (vb true) ?_
  iterate 5 refine sk (Eq.refl true) ?_
  refine pk (vb true) wN (Eq.refl true) ?_
  refine n2 ?_
  refine ct (Eq.refl true) ?_
  have bZ : s_EpSeal a d e b f = ((a), { Kind := 0, Id := 0, Cn := [], Sn := [], Tick := 0, Cookie := [], Proof := [], Epoch := 0, Seq := 0, Body := [], Tag := [] : PFrame }, 1) := by simp only [s_EpSeal, I, J, cond_true, cond_false]
  exact wj (aM bZ _ (j.trans l))
 have du := dF J
 refine mv (vi b) (wS J) ?_
 refine cl (wS J) (csSealed b2 b) ?_
 rintro _ b3 ⟨m, rfl⟩
 have b7 := (b6.extk l).extk m
 refine pu (vb (!(s_Sealed b))) (wS J) ?_
 refine pf (vb (!(s_Sealed b))) wN J ?_
 refine mw (vb (!(s_Sealed b))) ?_
 rcases bf (s_Sealed b) with P | P
 ·iterate 5 refine sk (cA not P) ?_
  refine pk (vb true) wN (cA not P) ?_
  refine n2 ?_
  refine ct (Eq.refl true) ?_
  have ca : s_EpSeal a d e b f = ((a), { Kind := 0, Id := 0, Cn := [], Sn := [], Tick := 0, Cookie := [], Proof := [], Epoch := 0, Seq := 0, Body := [], Tag := [] : PFrame }, 1) := by simp only [s_EpSeal, I, J, P, cond_true, cond_false]
  exact wj (aM ca _ ((j.trans l).trans m))
 refine mv (vi b) (wS (cA not P)) ?_
 refine mv (vs a7 f.length a8) (wS (cA not P)) ?_
 refine ln (wS (cA not P)) slTy_22 (bv.from0 b7) ?_
 refine cl (wS (cA not P)) (csl7Body b3 b (f.length : Int)) ?_
 rintro _ dv ⟨p, rfl⟩
 have b8 := b7.extk p
 refine pu (vb (!(s_l7Body b (f.length : Int)))) (wS (cA not P)) ?_
 refine pf (vb (!(s_l7Body b (f.length : Int)))) wN (cA not P) ?_
 refine n2 ?_
 rcases bf (s_l7Body b (f.length : Int)) with aq | aq
 ·refine ct (cA not aq) ?_
  have cb : s_EpSeal a d e b f = ((a), { Kind := 0, Id := 0, Cn := [], Sn := [], Tick := 0, Cookie := [], Proof := [], Epoch := 0, Seq := 0, Body := [], Tag := [] : PFrame }, 1) := by simp only [s_EpSeal, I, J, P, aq, cond_true, cond_false]
  exact wj (aM cb _ (((j.trans l).trans m).trans p))
 refine cf (cA not aq) ?_
 refine y2 ?_
 refine jF1 [(1, (vi d)), (2, (vs a5 e.length a6)), (3, (vi b)), (4, (vs a7 f.length a8)), (5, (vp W 0)), (10, (vp ap 0)), (11, (vp bz 0)), (12, (vi 0)), (13, (vp bb 0))] (s_EpSeal a d e b f = (s_EpSeal_j2 a d e b f)) ?_ fun b9 => ?_
 ·intro bA aN B dw
  have aA := b8.extk B
  refine y2 ?_
  refine pu (vp W 2) wN ?_
  have aB := ((((bg.kp l).kp m).kp p).kp B)
  refine ld (vi a.Seq) wN isAgg_3 aB ?_
  refine pu (vb (decide (a.Seq = 281474976710656))) wN ?_
  refine n2 ?_
  rcases bt (decide (a.Seq = 281474976710656)) with au | au
  ·have dx := dT au
   refine ct au ?_
   refine sr ?_
   have cc := (((((aK.kp j).kp l).kp m).kp p).kp B)
   refine lN (L_33 (a) u x y A) wN isAgg_33 sizeOf_33 cc ?_
   refine pu (va Z_37) wN ?_
   have cd := (((((((((aF.kp g).kp i).kp s).ch r (nN (nL F (nT (z2 g i) H)))).kp j).kp l).kp m).kp p).kp B)
   refine sv (L_33 (a) u x y A) wN sizeOf_33 cd ?_
   intro aO bh ce dy
   have cg := aA.ext bh (fun k hk => by subst hk; exact nT D.size aE)
   have ci := (((((((((aG.kp i).kp s).ch r (nN (nL V (nT i.size H)))).kp j).kp l).kp m).kp p).kp B).ch bh (Ne.symm (nN (nL F (R)))))
   refine sv Z_37 wN sizeOf_37 ci ?_
   intro cj bi ck dz
   have cm := cg.ext bi (fun k hk => by subst hk; exact nT (z2 D G) R)
   refine aw (vi 5) ?_
   refine n1 ?_
   have cn := (ce.ch bi (nN (nL F (R))))
   have bB := fun (E sz n : Nat) (v : Value) (O : List Value) (o : World.ownsRow Z X.heap.size E sz v n O) (C : World.ownsRow Z X.heap.size E sz v n O) => (own_ch (own_ch (own_kp (own_kp (own_kp (own_kp (own_kp (own_ch (own_kp o s) r (ne2 C (H))) j) l) m) p) B) bh (ne1 C (nL F g.size))) bi (ne1 C (V)))
   have co := (bB _ _ _ _ _ L L)
   have cp := (bB _ _ _ _ _ M M)
   refine ret_3 (.inl rfl) (va (L_33 (a) u x y A)) (va Z_37) (vi 5) rfl (rv_c (L_33 (a) u x y A) rfl cn isAgg_33 sizeOf_33) (rv_c Z_37 rfl ck isAgg_37 sizeOf_37) rfl ?_
   refine ⟨cm.keep0, ?_⟩
   rw [bA]; simp only [s_EpSeal_j2, au, cond_true, cond_false]
   exact ⟨_, _, _, _, _, _, _, _, _, _, _, _, _, _, _, _, rfl, (own_lo co (z3 D G g)), aH, (own_lo cp (z3 D G g)), aI, (by first | exact own_nil _ _ _ _ | exact OLv.nil _ _ _ _), (by simp), (by first | exact own_nil _ _ _ _ | exact OLv.nil _ _ _ _), (by simp), (by first | exact own_nil _ _ _ _ | exact OLv.nil _ _ _ _), (by simp), (by first | exact own_nil _ _ _ _ | exact OLv.nil _ _ _ _), (by simp), (by first | exact own_nil _ _ _ _ | exact OLv.nil _ _ _ _), (by simp), (by first | exact own_nil _ _ _ _ | exact OLv.nil _ _ _ _), (by simp), ⟨⟨(aJ.1.1), ⟨(Ap.nr _), ⟨(Ap.nr _), ⟨(Ap.nr _), ⟨(Ap.nr _), ⟨(Ap.nr _), ⟨(Ap.nr _), trivial⟩⟩⟩⟩⟩⟩⟩, ⟨⟨(Ap.nr _), ⟨(Ap.nr _), ⟨(Ap.nr _), ⟨(Ap.nr _), ⟨(Ap.nr _), ⟨(Ap.nr _), trivial⟩⟩⟩⟩⟩⟩, ⟨⟨(Ap.nl _), ⟨(Ap.nl _), ⟨(Ap.nl _), ⟨(Ap.nl _), ⟨(Ap.nl _), trivial⟩⟩⟩⟩⟩, ⟨⟨(Ap.nl _), ⟨(Ap.nl _), ⟨(Ap.nl _), ⟨(Ap.nl _), trivial⟩⟩⟩⟩, ⟨⟨(Ap.nl _), ⟨(Ap.nl _), ⟨(Ap.nl _), trivial⟩⟩⟩, ⟨⟨(Ap.nl _), ⟨(Ap.nl _), trivial⟩⟩, ⟨⟨(Ap.nl _), trivial⟩, ⟨trivial, trivial⟩⟩⟩⟩⟩⟩⟩⟩⟩
  have d0 := dF au
  refine cf au ?_
  refine y1 ?_
  refine pu (vp W 1) wN ?_
  refine ld (vs a3 a.Key.length a4) wN isAgg_22 aB ?_
  refine mw (vi d) ?_
  refine mw (vs a5 e.length a6) ?_
  refine pu (vp W 0) wN ?_
  refine ld (vi a.N) wN isAgg_3 aB ?_
  refine pu (vp W 2) wN ?_
  refine ld (vi a.Seq) wN isAgg_3 aB ?_
  refine mw (vi b) ?_
  refine mw (vs a7 f.length a8) ?_
  refine cl wN (csSeal aN _ a.Key (mR_22 (aY.from0 aA) aZ) d _ e (mR_22 (br.from0 aA) bu) a.N a.Seq b _ f (mR_22 (bv.from0 aA) bH)) ?_
  rintro _ aO ⟨Q, ⟨aa, ab, ac, ad, ae, af, ah, ai, aj, ak, am, an, rfl, aP, cq, aQ, cr, aR, cs, aS, cu, aT, cv, aU, cw, K⟩⟩
  refine mw (.tuple #[(va (L_37 ((s_Seal a.Key d e a.N a.Seq b f).1) aa ab ac ad ae af ah ai aj ak am an)), (vb ((s_Seal a.Key d e a.N a.Seq b f).2))]) ?_
  refine pu (va (L_37 ((s_Seal a.Key d e a.N a.Seq b f).1) aa ab ac ad ae af ah ai aj ak am an)) wN ?_
  refine pu (vb ((s_Seal a.Key d e a.N a.Seq b f).2)) wN ?_
  refine al Z_37 wN zero_37 ?_
  intro d1 cj Y d2 av cx
  refine sv (L_37 ((s_Seal a.Key d e a.N a.Seq b f).1) aa ab ac ad ae af ah ai aj ak am an) wN sizeOf_37 cx ?_
  intro d3 ax cy d4
  have cz := ((aA.extk Q).extk av).ext ax (fun k hk => by subst hk; exact nT (z12 D G g i s r j l m p B Q) Y)
  refine aw (vb ((s_Seal a.Key d e a.N a.Seq b f).2)) ?_
  refine nx ?_
  refine pu (vp W 2) wN ?_
  have c0 := (((aB.kp Q).kp av).ch ax (nN (nL bw (nT (z11 G g i s r j l m p B Q) Y))))
  refine ld (vi a.Seq) wN isAgg_3 c0 ?_
  refine ar (a.Seq + 1) wN ?_
  refine pu (vp bb 2) wN ?_
  have c1 := ((((((((aK.kp j).kp l).kp m).kp p).kp B).kp Q).kp av).ch ax (nN (nL bc (nT (z7 r j l m p B Q) Y))))
  refine st (vi (a.Seq + 1)) [(vi (a.Seq + 1))] [(vi ((a).N)), (vs u ((a).Key).length x), (vi (a.Seq + 1)), (vi (((a).Win).Top)), (vs y (((a).Win).Bits).length A)] wN sizeOf_3 c1 ?_
  intro c2 a0 c3 d5
  have c4 := cz.ext a0 (fun k hk => by subst hk; exact nT (z4 D G g i) H)
  refine wl_nil <| wq_then <| wc_seq ?_
  have c5 := (((((((((((((aF.kp g).kp i).kp s).ch r (nN (nL F (nT (z2 g i) H)))).kp j).kp l).kp m).kp p).kp B).kp Q).kp av).ch ax (nN (nL F (nT (z10 g i s r j l m p B Q) Y)))).ch a0 (nN (nL F (nT (z2 g i) H))))
  refine wc_drawT ([(76, [], [], (fun _ v _ => v = (va [(vi ((a).N)), (vs u ((a).Key).length x), (vi (a.Seq + 1)), (vi (((a).Win).Top)), (vs y (((a).Win).Bits).length A)]))), (77, [], [], (fun _ v _ => v = (va (L_37 ((s_Seal a.Key d e a.N a.Seq b f).1) aa ab ac ad ae af ah ai aj ak am an)))), (80, [], [0], (fun _ _ w => BK w ap 33 0 ([(vi ((a).N)), (vs u ((a).Key).length x), (vi (a.Seq + 1)), (vi (((a).Win).Top)), (vs y (((a).Win).Bits).length A)])))] : GV) (fun lf az => Ch (fun k => k = ap) c2 az ∧ RK lf az ap 33 Z_33 [(2, 0, 5)]) [(2, TK ap 33 0 5)] mixed rfl (by kernel_rfl) (by kernel_rfl) ?_ (fun _ _ h => ⟨h.to _, RK.z c5 h⟩) (fun _ _ _ _ h mo k => by obtain ⟨hc, bj⟩ := h; exact ⟨hc.comp k (fun _ _ q => q.elim), bj.kp mo k⟩) ⟨(fun _ _ w az h mo hj t => by obtain ⟨hc, bj⟩ := h; exact ⟨hc.comp t.1 (fun _ _ q => q), bj.st mo hj (.head _) t⟩), trivial⟩ ?_ ?_ ?_
  ·exact ⟨hV, hE, ⟨hV, hE, ⟨sK, hE, trivial⟩⟩⟩
  ·exact ⟨⟨.inr hV, ⟨.inr hV, ⟨.inl rfl, trivial⟩⟩⟩, trivial⟩
  ·refine ⟨?_, ⟨?_, ⟨?_, trivial⟩⟩⟩
   ·rintro lf aV ⟨c6, d6⟩ ⟨d7, -⟩
    rintro _ _ _
    show WL _ _ _ _ _ _ _
    have c7 := (c3.ch c6 (Ne.symm (nN (nL F (nT (z2 g i) H)))))
    refine lN [(vi ((a).N)), (vs u ((a).Key).length x), (vi (a.Seq + 1)), (vi (((a).Win).Top)), (vs y (((a).Win).Bits).length A)] wN isAgg_33 sizeOf_33 c7 ?_
    exact f1
   ·rintro lf aV ⟨c8, d8⟩ ⟨d9, -⟩
    rintro _ _ _
    show WL _ _ _ _ _ _ _
    have c9 := ((cy.ch a0 (Ne.symm (nN (nL bc (nT (z7 r j l m p B Q) Y))))).ch c8 (Ne.symm (nN (nL F (nT (z10 g i s r j l m p B Q) Y)))))
    refine lN (L_37 ((s_Seal a.Key d e a.N a.Seq b f).1) aa ab ac ad ae af ah ai aj ak am an) wN isAgg_37 sizeOf_37 c9 ?_
    exact f1
   ·rintro lf aV ⟨dA, cC⟩ ⟨dB, -⟩
    rintro _ rfl _ _
    show WL _ _ _ _ _ _ _
    exact stK (va [(vi ((a).N)), (vs u ((a).Key).length x), (vi (a.Seq + 1)), (vi (((a).Win).Top)), (vs y (((a).Win).Bits).length A)]) [(vi ((a).N)), (vs u ((a).Key).length x), (vi (a.Seq + 1)), (vi (((a).Win).Top)), (vs y (((a).Win).Bits).length A)] wN sizeOf_33 cC (fun _ h => h) (fun _ t => t)
  ·rintro lf aV ⟨aW, cD⟩
   have cE := c4.ext aW (fun k hk => by subst hk; exact nT D.size aE)
   rintro _ rfl _ rfl _ cF
   have cG : Blk aV ap 33 [(vi ((a).N)), (vs u ((a).Key).length x), (vi (a.Seq + 1)), (vi (((a).Win).Top)), (vs y (((a).Win).Bits).length A)] := RK.fin cD [(0, [(vi ((a).N)), (vs u ((a).Key).length x), (vi (a.Seq + 1)), (vi (((a).Win).Top)), (vs y (((a).Win).Bits).length A)])] ⟨cF, trivial⟩
   show WL _ _ _ _ _ _ _
   have cH := (((((((((((((aG.kp i).kp s).ch r (nN (nL V (nT i.size H)))).kp j).kp l).kp m).kp p).kp B).kp Q).kp av).ch ax (nN (nL V (nT (z9 i s r j l m p B Q) Y)))).ch a0 (nN (nL V (nT i.size H)))).ch aW (Ne.symm (nN (nL F (R)))))
   refine sv (L_37 ((s_Seal a.Key d e a.N a.Seq b f).1) aa ab ac ad ae af ah ai aj ak am an) wN sizeOf_37 cH ?_
   intro dC aX cI dD
   have cJ := cE.ext aX (fun k hk => by subst hk; exact nT (z2 D G) R)
   refine aw (vi 0) ?_
   refine n3 ?_
   have cK := (cG.ch aX (nN (nL F (R))))
   have bC := fun (E sz n : Nat) (v : Value) (O : List Value) (o : World.ownsRow Z X.heap.size E sz v n O) (C : World.ownsRow Z X.heap.size E sz v n O) => (own_ch (own_ch (own_ch (own_ch (own_kp (own_kp (own_kp (own_kp (own_kp (own_kp (own_kp (own_ch (own_kp o s) r (ne2 C (H))) j) l) m) p) B) Q) av) ax (ne2 C (nT (z8 s r j l m p B Q) Y))) a0 (ne2 C (H))) aW (ne1 C (nL F g.size))) aX (ne1 C (V)))
   have cL := (bC _ _ _ _ _ L L)
   have cM := (bC _ _ _ _ _ M M)
   have a1 := fun (E sz n : Nat) (v : Value) (O : List Value) (o : World.ownsRow aO aN.heap.size E sz v n O) (C : World.ownsRow aO aN.heap.size E sz v n O) => (own_ch (own_ch (own_ch (own_ch (own_kp o av) ax (ne2 C (Y))) a0 (ne1 C (nL bc (z6 r j l m p B)))) aW (ne1 C (nL F (z9 g i s r j l m p B)))) aX (ne1 C (nL V (z8 i s r j l m p B))))
   have cN := (a1 _ _ _ _ _ aP aP)
   have cO := (a1 _ _ _ _ _ aQ aQ)
   have cP := (a1 _ _ _ _ _ aR aR)
   have cQ := (a1 _ _ _ _ _ aS aS)
   have cR := (a1 _ _ _ _ _ aT aT)
   have cS := (a1 _ _ _ _ _ aU aU)
   refine ret_3 (.inl rfl) (va [(vi ((a).N)), (vs u ((a).Key).length x), (vi (a.Seq + 1)), (vi (((a).Win).Top)), (vs y (((a).Win).Bits).length A)]) (va (L_37 ((s_Seal a.Key d e a.N a.Seq b f).1) aa ab ac ad ae af ah ai aj ak am an)) (vi 0) rfl (rv_c [(vi ((a).N)), (vs u ((a).Key).length x), (vi (a.Seq + 1)), (vi (((a).Win).Top)), (vs y (((a).Win).Bits).length A)] rfl cK isAgg_33 sizeOf_33) (rv_c (L_37 ((s_Seal a.Key d e a.N a.Seq b f).1) aa ab ac ad ae af ah ai aj ak am an) rfl cI isAgg_37 sizeOf_37) rfl ?_
   refine ⟨cJ.keep0, ?_⟩
   rw [bA]; simp only [s_EpSeal_j2, au, cond_true, cond_false]
   have a2 := z11 D G g i s r j l m p B
   have S := z7 s r j l m p B
   exact ⟨_, _, _, _, _, _, _, _, _, _, _, _, _, _, _, _, rfl, (own_lo cL (z3 D G g)), aH, (own_lo cM (z3 D G g)), aI, (own_lo cN a2), cq, (own_lo cO a2), cr, (own_lo cP a2), cs, (own_lo cQ a2), cu, (own_lo cR a2), cv, (own_lo cS a2), cw, ⟨⟨(aJ.1.1), ⟨(Ap.lt L aP S), ⟨(Ap.lt L aQ S), ⟨(Ap.lt L aR S), ⟨(Ap.lt L aS S), ⟨(Ap.lt L aT S), ⟨(Ap.lt L aU S), trivial⟩⟩⟩⟩⟩⟩⟩, ⟨⟨(Ap.lt M aP S), ⟨(Ap.lt M aQ S), ⟨(Ap.lt M aR S), ⟨(Ap.lt M aS S), ⟨(Ap.lt M aT S), ⟨(Ap.lt M aU S), trivial⟩⟩⟩⟩⟩⟩, ⟨⟨(K.1.1), ⟨(K.1.2.1), ⟨(K.1.2.2.1), ⟨(K.1.2.2.2.1), ⟨(K.1.2.2.2.2.1), trivial⟩⟩⟩⟩⟩, ⟨⟨(K.2.1.1), ⟨(K.2.1.2.1), ⟨(K.2.1.2.2.1), ⟨(K.2.1.2.2.2.1), trivial⟩⟩⟩⟩, ⟨⟨(K.2.2.1.1), ⟨(K.2.2.1.2.1), ⟨(K.2.2.1.2.2.1), trivial⟩⟩⟩, ⟨⟨(K.2.2.2.1.1), ⟨(K.2.2.2.1.2.1), trivial⟩⟩, ⟨⟨(K.2.2.2.2.1.1), trivial⟩, ⟨trivial, trivial⟩⟩⟩⟩⟩⟩⟩⟩⟩
 refine mw (vi b) ?_
 refine pu (vb (decide (b = 4))) wN ?_
 refine mw (vb (decide (b = 4))) ?_
 rcases bf (decide (b = 4)) with T | T
 ·have dE := dF T
  iterate 3 refine sk T ?_
  refine pf (vb false) wN T ?_
  refine n2 ?_
  refine cf (Eq.refl false) ?_
  have cT : s_EpSeal a d e b f = (s_EpSeal_j2 a d e b f) := by simp only [s_EpSeal, I, J, P, aq, T, cond_true, cond_false]
  exact wj (b9 cT _ (Ch.refl _ _))
 have dG := dT T
 refine pu (vp W 2) (wS T) ?_
 have cU := (((bg.kp l).kp m).kp p)
 refine ld (vi a.Seq) (wS T) isAgg_3 cU ?_
 refine pu (vb (decide (281474976709656 ≤ a.Seq))) (wS T) ?_
 refine pk (vb (decide (281474976709656 ≤ a.Seq))) wN T ?_
 refine n2 ?_
 rcases bf (decide (281474976709656 ≤ a.Seq)) with ay | ay
 ·have dH := dF ay
  refine cf ay ?_
  have cV : s_EpSeal a d e b f = (s_EpSeal_j2 a d e b f) := by simp only [s_EpSeal, I, J, P, aq, T, ay, cond_true, cond_false]
  exact wj (b9 cV _ (Ch.refl _ _))
 have dI := dT ay
 refine ct ay ?_
 refine sr ?_
 have cW := ((((aK.kp j).kp l).kp m).kp p)
 refine lN (L_33 (a) u x y A) wN isAgg_33 sizeOf_33 cW ?_
 refine pu (va Z_37) wN ?_
 have cX := ((((((((aF.kp g).kp i).kp s).ch r (nN (nL F (nT (z2 g i) H)))).kp j).kp l).kp m).kp p)
 refine sv (L_33 (a) u x y A) wN sizeOf_33 cX ?_
 intro aN bk cY dJ
 have cZ := b8.ext bk (fun k hk => by subst hk; exact nT D.size aE)
 have da := ((((((((aG.kp i).kp s).ch r (nN (nL V (nT i.size H)))).kp j).kp l).kp m).kp p).ch bk (Ne.symm (nN (nL F (R)))))
 refine sv Z_37 wN sizeOf_37 da ?_
 intro aO bl db dK
 have dc := cZ.ext bl (fun k hk => by subst hk; exact nT (z2 D G) R)
 refine aw (vi 4) ?_
 refine n1 ?_
 have dd := (cY.ch bl (nN (nL F (R))))
 have bD := fun (E sz n : Nat) (v : Value) (O : List Value) (o : World.ownsRow Z X.heap.size E sz v n O) (C : World.ownsRow Z X.heap.size E sz v n O) => (own_ch (own_ch (own_kp (own_kp (own_kp (own_kp (own_ch (own_kp o s) r (ne2 C (H))) j) l) m) p) bk (ne1 C (nL F g.size))) bl (ne1 C (V)))
 have de := (bD _ _ _ _ _ L L)
 have df := (bD _ _ _ _ _ M M)
 refine ret_3 (.inl rfl) (va (L_33 (a) u x y A)) (va Z_37) (vi 4) rfl (rv_c (L_33 (a) u x y A) rfl dd isAgg_33 sizeOf_33) (rv_c Z_37 rfl db isAgg_37 sizeOf_37) rfl ?_
 refine ⟨dc.keep0, ?_⟩
 simp only [s_EpSeal, I, J, P, aq, T, ay, cond_true, cond_false]
 exact ⟨_, _, _, _, _, _, _, _, _, _, _, _, _, _, _, _, rfl, (own_lo de (z3 D G g)), aH, (own_lo df (z3 D G g)), aI, (by first | exact own_nil _ _ _ _ | exact OLv.nil _ _ _ _), (by simp), (by first | exact own_nil _ _ _ _ | exact OLv.nil _ _ _ _), (by simp), (by first | exact own_nil _ _ _ _ | exact OLv.nil _ _ _ _), (by simp), (by first | exact own_nil _ _ _ _ | exact OLv.nil _ _ _ _), (by simp), (by first | exact own_nil _ _ _ _ | exact OLv.nil _ _ _ _), (by simp), (by first | exact own_nil _ _ _ _ | exact OLv.nil _ _ _ _), (by simp), ⟨⟨(aJ.1.1), ⟨(Ap.nr _), ⟨(Ap.nr _), ⟨(Ap.nr _), ⟨(Ap.nr _), ⟨(Ap.nr _), ⟨(Ap.nr _), trivial⟩⟩⟩⟩⟩⟩⟩, ⟨⟨(Ap.nr _), ⟨(Ap.nr _), ⟨(Ap.nr _), ⟨(Ap.nr _), ⟨(Ap.nr _), ⟨(Ap.nr _), trivial⟩⟩⟩⟩⟩⟩, ⟨⟨(Ap.nl _), ⟨(Ap.nl _), ⟨(Ap.nl _), ⟨(Ap.nl _), ⟨(Ap.nl _), trivial⟩⟩⟩⟩⟩, ⟨⟨(Ap.nl _), ⟨(Ap.nl _), ⟨(Ap.nl _), ⟨(Ap.nl _), trivial⟩⟩⟩⟩, ⟨⟨(Ap.nl _), ⟨(Ap.nl _), ⟨(Ap.nl _), trivial⟩⟩⟩, ⟨⟨(Ap.nl _), ⟨(Ap.nl _), trivial⟩⟩, ⟨⟨(Ap.nl _), trivial⟩, ⟨trivial, trivial⟩⟩⟩⟩⟩⟩⟩⟩⟩
end Go.Proofs.YtkmhmejednjkoaaGreat.K
