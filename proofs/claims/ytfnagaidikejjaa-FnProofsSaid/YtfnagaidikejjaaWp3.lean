import Derived.Test.YtfnagaidikejjaaCore
import Derived.Test.YtfnagaidikejjaaProg
import Derived.Test.YtfnagaidikejjaaHeld
import Derived.Test.YtfnagaidikejjaaFun
import Derived.Test.YtfnagaidikejjaaFunZ
import Derived.Test.YtfnagaidikejjaaSqz
import Derived.Test.YtfnagaidikejjaaHash
import Derived.Test.YtfnagaidikejjaaCur
import Derived.Test.YtfnagaidikejjaaDrawW
import Derived.Test.YtfnagaidikejjaaAead
import Derived.Test.YtfnagaidikejjaaWp2
namespace Go.Proofs.Ytfnagaidikejjaa.K
open Go.RowKit
set_option linter.unusedVariables false
set_option linter.unusedSimpArgs false
set_option maxRecDepth 100000
set_option maxHeartbeats 4000000
theorem ciCompress (G : World) (av : Value) (i : List Int) (aK : R_67 G av i) (ax : Value) (p : List UInt8) (aL : R_22 G ax p)  : Fn Try.prog 113 #[av, ax] G (fun v K => Keep G K ∧ O_67 K G.heap.size v (compress i p)) := by
 obtain ⟨B, C, rfl, F, af⟩ := aK
 obtain ⟨X, Y, rfl, ay, aM⟩ := aL
 refine fn_ofS (n := 151) [(vs B i.length C), (vs X p.length Y)] Try.func113 rfl rfl ?_
 refine sr ?_
 refine aw (vs none 0 0) ?_
 refine nx ?_
 refine wl_lit0 wN rfl rfl slTy_67 (fun w => by kernel_rfl) ?_
 intro bT bU az aN
 have a0 := (Ch.base G).extk az
 refine mw (vs B i.length C) ?_
 refine ap0I i wN slTy_67 aN (F.from0 a0) az.size ?_
 intro I J a1 aO Q bW
 have ah := a0.extk aO
 refine aw (vs I i.length J) ?_
 refine n4 ?_
 refine jT1 [(0, (vs B i.length C)), (1, (vs X p.length Y)), (4, (vs none 0 0)), (5, (vs I i.length J))] (compress i p = i) ?_ fun a2 => ?_
 ·intro aP a3 a4 bX
  have aQ := ah.extk a4
  refine sr ?_
  refine mw (vs I i.length J) ?_
  refine aw (vs I i.length J) ?_
  refine n1 ?_
  have aR := (own_kp Q a4)
  refine rt (vs I i.length J) ?_
  refine ⟨aQ.keep0, ?_⟩
  rw [aP]
  exact ⟨_, _, rfl, aR, af, ⟨trivial, trivial⟩⟩
 refine mw (vs B i.length C) ?_
 refine cl wN (ciareWords a1 _ i (mR_67 (F.from0 ah) af) 8) ?_
 rintro _ a3 ⟨R, rfl⟩
 have ai := ah.extk R
 refine pu (vb (!(areW i 8))) wN ?_
 refine mw (vb (!(areW i 8))) ?_
 rcases bf (areW i 8) with L | L
 ·iterate 3 refine sk (cA not L) ?_
  refine pk (vb true) wN (cA not L) ?_
  refine n2 ?_
  refine ct (Eq.refl true) ?_
  have aS : compress i p = i := by first | exact compress_f (by first | assumption | exact ‹ws8 i = false›) | exact compress_g (by omega) | exact compress_t (by first | assumption | exact ‹ws8 i = true›) (by omega) (by omega)
  exact wj (a2 aS _ R)
 have bY := areW_t L
 refine mv (vs X p.length Y) (wS (cA not L)) ?_
 refine ln (wS (cA not L)) slTy_22 (ay.from0 ai) ?_
 refine pu (vb (!(decide ((p.length : Int) = 64)))) (wS (cA not L)) ?_
 refine pf (vb (!(decide ((p.length : Int) = 64)))) wN (cA not L) ?_
 refine n2 ?_
 rcases bf (decide ((p.length : Int) = 64)) with S | S
 ·have bZ := dF S
  refine ct (cA not S) ?_
  have aT : compress i p = i := by first | exact compress_f (by first | assumption | exact ‹ws8 i = false›) | exact compress_g (by omega) | exact compress_t (by first | assumption | exact ‹ws8 i = true›) (by omega) (by omega)
  exact wj (a2 aT _ R)
 have ca := dT S
 refine cf (cA not S) ?_
 refine y1 ?_
 refine mw (vs X p.length Y) ?_
 refine cl wN (ciSchedule a3 _ p (mR_22 (ay.from0 ai) aM)) ?_
 rintro _ a5 ⟨Z, ⟨O, P, rfl, aa, _⟩⟩
 have H := ai.extk Z
 have cb := schedP_len p
 refine aw (vs O (schedP p).length P) ?_
 refine wl_nil <| wq_then <| wc_seq ?_
 refine wc_draw ([(36, [], [], (fun _ v _ => v = (vs B i.length C))), (37, [], [0], (fun _ v _ => v = (ve (vs B i.length C) ((0 : Int).toNat * 1)))), (38, [], [0, 1], (fun _ v _ => v = (vi (i.getD 0 0)))), (39, [], [], (fun _ v _ => v = (vs B i.length C))), (40, [], [3], (fun _ v _ => v = (ve (vs B i.length C) ((1 : Int).toNat * 1)))), (41, [], [3, 4], (fun _ v _ => v = (vi (i.getD 1 0)))), (42, [], [], (fun _ v _ => v = (vs B i.length C))), (43, [], [6], (fun _ v _ => v = (ve (vs B i.length C) ((2 : Int).toNat * 1)))), (44, [], [6, 7], (fun _ v _ => v = (vi (i.getD 2 0)))), (45, [], [], (fun _ v _ => v = (vs B i.length C))), (46, [], [9], (fun _ v _ => v = (ve (vs B i.length C) ((3 : Int).toNat * 1)))), (47, [], [9, 10], (fun _ v _ => v = (vi (i.getD 3 0)))), (48, [], [], (fun _ v _ => v = (vs B i.length C))), (49, [], [12], (fun _ v _ => v = (ve (vs B i.length C) ((4 : Int).toNat * 1)))), (50, [], [12, 13], (fun _ v _ => v = (vi (i.getD 4 0)))), (51, [], [], (fun _ v _ => v = (vs B i.length C))), (52, [], [15], (fun _ v _ => v = (ve (vs B i.length C) ((5 : Int).toNat * 1)))), (53, [], [15, 16], (fun _ v _ => v = (vi (i.getD 5 0)))), (54, [], [], (fun _ v _ => v = (vs B i.length C))), (55, [], [18], (fun _ v _ => v = (ve (vs B i.length C) ((6 : Int).toNat * 1)))), (56, [], [18, 19], (fun _ v _ => v = (vi (i.getD 6 0)))), (57, [], [], (fun _ v _ => v = (vs B i.length C))), (58, [], [21], (fun _ v _ => v = (ve (vs B i.length C) ((7 : Int).toNat * 1)))), (59, [], [21, 22], (fun _ v _ => v = (vi (i.getD 7 0)))), (7, [], [0, 1, 2], (fun _ v _ => v = (vi (i.getD 0 0)))), (8, [], [0, 1, 2, 3, 4, 5, 24], (fun _ v _ => v = (vi (i.getD 1 0)))), (9, [], [0, 1, 2, 3, 4, 5, 6, 7, 8, 24, 25], (fun _ v _ => v = (vi (i.getD 2 0)))), (10, [], [0, 1, 2, 3, 4, 5, 6, 7, 8, 9, 10, 11, 24, 25, 26], (fun _ v _ => v = (vi (i.getD 3 0)))), (11, [], [0, 1, 2, 3, 4, 5, 6, 7, 8, 9, 10, 11, 12, 13, 14, 24, 25, 26, 27], (fun _ v _ => v = (vi (i.getD 4 0)))), (12, [], [0, 1, 2, 3, 4, 5, 6, 7, 8, 9, 10, 11, 12, 13, 14, 15, 16, 17, 24, 25, 26, 27, 28], (fun _ v _ => v = (vi (i.getD 5 0)))), (13, [], [0, 1, 2, 3, 4, 5, 6, 7, 8, 9, 10, 11, 12, 13, 14, 15, 16, 17, 18, 19, 20, 24, 25, 26, 27, 28, 29], (fun _ v _ => v = (vi (i.getD 6 0))))] : GV) mixed rfl (by kernel_rfl) (by kernel_rfl) ?_ ?_ ?_
 ·exact ⟨hV, hE, ⟨hV, hE, ⟨hV, hE, ⟨hV, hE, ⟨hV, hE, ⟨hV, hE, ⟨hV, hE, ⟨hV, hE, ⟨hV, hE, ⟨hV, hE, ⟨hV, hE, ⟨hV, hE, ⟨hV, hE, ⟨hV, hE, ⟨hV, hE, ⟨hV, hE, ⟨hV, hE, ⟨hV, hE, ⟨hV, hE, ⟨hV, hE, ⟨hV, hE, ⟨hV, hE, ⟨hV, hE, ⟨hV, hE, ⟨hV, hE, ⟨hV, hE, ⟨hV, hE, ⟨hV, hE, ⟨hV, hE, ⟨hV, hE, ⟨hV, hE, trivial⟩⟩⟩⟩⟩⟩⟩⟩⟩⟩⟩⟩⟩⟩⟩⟩⟩⟩⟩⟩⟩⟩⟩⟩⟩⟩⟩⟩⟩⟩⟩
 ·refine ⟨?_, ⟨?_, ⟨?_, ⟨?_, ⟨?_, ⟨?_, ⟨?_, ⟨?_, ⟨?_, ⟨?_, ⟨?_, ⟨?_, ⟨?_, ⟨?_, ⟨?_, ⟨?_, ⟨?_, ⟨?_, ⟨?_, ⟨?_, ⟨?_, ⟨?_, ⟨?_, ⟨?_, ⟨?_, ⟨?_, ⟨?_, ⟨?_, ⟨?_, ⟨?_, ⟨?_, trivial⟩⟩⟩⟩⟩⟩⟩⟩⟩⟩⟩⟩⟩⟩⟩⟩⟩⟩⟩⟩⟩⟩⟩⟩⟩⟩⟩⟩⟩⟩⟩
  ·intro A cc
   rintro _ _ _ _ _ _ _ _ _ _ _ _ _ _ _ _ _ _ _ _ _ _ _ _ _ _ _ _ _ _ _
   show WL _ _ _ _ _ _ _
   refine mw (vs B i.length C) ?_
   exact f2
  ·intro A aU
   have aV := H.extk aU
   rintro _ rfl _ _ _ _ _ _ _ _ _ _ _ _ _ _ _ _ _ _ _ _ _ _ _ _ _ _ _ _ _ _
   show WL _ _ _ _ _ _ _
   refine ix wN 0 slTy_67 (F.from0 aV) ?_
   exact f2
  ·intro A aW
   have aX := H.extk aW
   rintro _ rfl _ rfl _ _ _ _ _ _ _ _ _ _ _ _ _ _ _ _ _ _ _ _ _ _ _ _ _ _ _ _ _
   show WL _ _ _ _ _ _ _
   refine ei (x := i) 0 wN isAgg_3 (F.from0 aX) ?_
   exact f2
  ·intro A cd
   rintro _ _ _ _ _ _ _ _ _ _ _ _ _ _ _ _ _ _ _ _ _ _ _ _ _ _ _ _ _ _ _
   show WL _ _ _ _ _ _ _
   refine mw (vs B i.length C) ?_
   exact f2
  ·intro A aY
   have aZ := H.extk aY
   rintro _ _ _ _ rfl _ _ _ _ _ _ _ _ _ _ _ _ _ _ _ _ _ _ _ _ _ _ _ _ _ _ _
   show WL _ _ _ _ _ _ _
   refine ix wN 1 slTy_67 (F.from0 aZ) ?_
   exact f2
  ·intro A ba
   have bb := H.extk ba
   rintro _ _ _ _ rfl _ rfl _ _ _ _ _ _ _ _ _ _ _ _ _ _ _ _ _ _ _ _ _ _ _ _ _ _
   show WL _ _ _ _ _ _ _
   refine ei (x := i) 1 wN isAgg_3 (F.from0 bb) ?_
   exact f2
  ·intro A ce
   rintro _ _ _ _ _ _ _ _ _ _ _ _ _ _ _ _ _ _ _ _ _ _ _ _ _ _ _ _ _ _ _
   show WL _ _ _ _ _ _ _
   refine mw (vs B i.length C) ?_
   exact f2
  ·intro A bc
   have bd := H.extk bc
   rintro _ _ _ _ _ _ _ rfl _ _ _ _ _ _ _ _ _ _ _ _ _ _ _ _ _ _ _ _ _ _ _ _
   show WL _ _ _ _ _ _ _
   refine ix wN 2 slTy_67 (F.from0 bd) ?_
   exact f2
  ·intro A be
   have bg := H.extk be
   rintro _ _ _ _ _ _ _ rfl _ rfl _ _ _ _ _ _ _ _ _ _ _ _ _ _ _ _ _ _ _ _ _ _ _
   show WL _ _ _ _ _ _ _
   refine ei (x := i) 2 wN isAgg_3 (F.from0 bg) ?_
   exact f2
  ·intro A cg
   rintro _ _ _ _ _ _ _ _ _ _ _ _ _ _ _ _ _ _ _ _ _ _ _ _ _ _ _ _ _ _ _
   show WL _ _ _ _ _ _ _
   refine mw (vs B i.length C) ?_
   exact f2
  ·intro A bh
   have bi := H.extk bh
   rintro _ _ _ _ _ _ _ _ _ _ rfl _ _ _ _ _ _ _ _ _ _ _ _ _ _ _ _ _ _ _ _ _
   show WL _ _ _ _ _ _ _
   refine ix wN 3 slTy_67 (F.from0 bi) ?_
   exact f2
  ·intro A bj
   have bk := H.extk bj
   rintro _ _ _ _ _ _ _ _ _ _ rfl _ rfl _ _ _ _ _ _ _ _ _ _ _ _ _ _ _ _ _ _ _ _
   show WL _ _ _ _ _ _ _
   refine ei (x := i) 3 wN isAgg_3 (F.from0 bk) ?_
   exact f2
  ·intro A ci
   rintro _ _ _ _ _ _ _ _ _ _ _ _ _ _ _ _ _ _ _ _ _ _ _ _ _ _ _ _ _ _ _
   show WL _ _ _ _ _ _ _
   refine mw (vs B i.length C) ?_
   exact f2
  ·intro A bl
   have bm := H.extk bl
   rintro _ _ _ _ _ _ _ _ _ _ _ _ _ rfl _ _ _ _ _ _ _ _ _ _ _ _ _ _ _ _ _ _
   show WL _ _ _ _ _ _ _
   refine ix wN 4 slTy_67 (F.from0 bm) ?_
   exact f2
  ·intro A bn
   have bo := H.extk bn
   rintro _ _ _ _ _ _ _ _ _ _ _ _ _ rfl _ rfl _ _ _ _ _ _ _ _ _ _ _ _ _ _ _ _ _
   show WL _ _ _ _ _ _ _
   refine ei (x := i) 4 wN isAgg_3 (F.from0 bo) ?_
   exact f2
  ·intro A cj
   rintro _ _ _ _ _ _ _ _ _ _ _ _ _ _ _ _ _ _ _ _ _ _ _ _ _ _ _ _ _ _ _
   show WL _ _ _ _ _ _ _
   refine mw (vs B i.length C) ?_
   exact f2
  ·intro A bp
   have bq := H.extk bp
   rintro _ _ _ _ _ _ _ _ _ _ _ _ _ _ _ _ rfl _ _ _ _ _ _ _ _ _ _ _ _ _ _ _
   show WL _ _ _ _ _ _ _
   refine ix wN 5 slTy_67 (F.from0 bq) ?_
   exact f2
  ·intro A br
   have bu := H.extk br
   rintro _ _ _ _ _ _ _ _ _ _ _ _ _ _ _ _ rfl _ rfl _ _ _ _ _ _ _ _ _ _ _ _ _ _
   show WL _ _ _ _ _ _ _
   refine ei (x := i) 5 wN isAgg_3 (F.from0 bu) ?_
   exact f2
  ·intro A ck
   rintro _ _ _ _ _ _ _ _ _ _ _ _ _ _ _ _ _ _ _ _ _ _ _ _ _ _ _ _ _ _ _
   show WL _ _ _ _ _ _ _
   refine mw (vs B i.length C) ?_
   exact f2
  ·intro A bv
   have bw := H.extk bv
   rintro _ _ _ _ _ _ _ _ _ _ _ _ _ _ _ _ _ _ _ rfl _ _ _ _ _ _ _ _ _ _ _ _
   show WL _ _ _ _ _ _ _
   refine ix wN 6 slTy_67 (F.from0 bw) ?_
   exact f2
  ·intro A bz
   have b0 := H.extk bz
   rintro _ _ _ _ _ _ _ _ _ _ _ _ _ _ _ _ _ _ _ rfl _ rfl _ _ _ _ _ _ _ _ _ _ _
   show WL _ _ _ _ _ _ _
   refine ei (x := i) 6 wN isAgg_3 (F.from0 b0) ?_
   exact f2
  ·intro A cm
   rintro _ _ _ _ _ _ _ _ _ _ _ _ _ _ _ _ _ _ _ _ _ _ _ _ _ _ _ _ _ _ _
   show WL _ _ _ _ _ _ _
   refine mw (vs B i.length C) ?_
   exact f2
  ·intro A b1
   have b2 := H.extk b1
   rintro _ _ _ _ _ _ _ _ _ _ _ _ _ _ _ _ _ _ _ _ _ _ rfl _ _ _ _ _ _ _ _ _
   show WL _ _ _ _ _ _ _
   refine ix wN 7 slTy_67 (F.from0 b2) ?_
   exact f2
  ·intro A b3
   have b4 := H.extk b3
   rintro _ _ _ _ _ _ _ _ _ _ _ _ _ _ _ _ _ _ _ _ _ _ rfl _ rfl _ _ _ _ _ _ _ _
   show WL _ _ _ _ _ _ _
   refine ei (x := i) 7 wN isAgg_3 (F.from0 b4) ?_
   exact f2
  ·intro A cn
   rintro _ rfl _ rfl _ rfl _ _ _ _ _ _ _ _ _ _ _ _ _ _ _ _ _ _ _ _ _ _ _ _ _ _ _ _
   show WL _ _ _ _ _ _ _
   refine aw (vi (i.getD 0 0)) ?_
   exact f2
  ·intro A co
   rintro _ rfl _ rfl _ rfl _ rfl _ rfl _ rfl _ _ _ _ _ _ _ _ _ _ _ _ _ _ _ _ _ _ _ rfl _ _ _ _ _ _
   show WL _ _ _ _ _ _ _
   refine aw (vi (i.getD 1 0)) ?_
   exact f2
  ·intro A cp
   rintro _ rfl _ rfl _ rfl _ rfl _ rfl _ rfl _ rfl _ rfl _ rfl _ _ _ _ _ _ _ _ _ _ _ _ _ _ _ _ rfl _ rfl _ _ _ _ _
   show WL _ _ _ _ _ _ _
   refine aw (vi (i.getD 2 0)) ?_
   exact f2
  ·intro A cq
   rintro _ rfl _ rfl _ rfl _ rfl _ rfl _ rfl _ rfl _ rfl _ rfl _ rfl _ rfl _ rfl _ _ _ _ _ _ _ _ _ _ _ _ _ rfl _ rfl _ rfl _ _ _ _
   show WL _ _ _ _ _ _ _
   refine aw (vi (i.getD 3 0)) ?_
   exact f2
  ·intro A cr
   rintro _ rfl _ rfl _ rfl _ rfl _ rfl _ rfl _ rfl _ rfl _ rfl _ rfl _ rfl _ rfl _ rfl _ rfl _ rfl _ _ _ _ _ _ _ _ _ _ rfl _ rfl _ rfl _ rfl _ _ _
   show WL _ _ _ _ _ _ _
   refine aw (vi (i.getD 4 0)) ?_
   exact f2
  ·intro A cs
   rintro _ rfl _ rfl _ rfl _ rfl _ rfl _ rfl _ rfl _ rfl _ rfl _ rfl _ rfl _ rfl _ rfl _ rfl _ rfl _ rfl _ rfl _ rfl _ _ _ _ _ _ _ rfl _ rfl _ rfl _ rfl _ rfl _ _
   show WL _ _ _ _ _ _ _
   refine aw (vi (i.getD 5 0)) ?_
   exact f2
  ·intro A cu
   rintro _ rfl _ rfl _ rfl _ rfl _ rfl _ rfl _ rfl _ rfl _ rfl _ rfl _ rfl _ rfl _ rfl _ rfl _ rfl _ rfl _ rfl _ rfl _ rfl _ rfl _ rfl _ _ _ _ rfl _ rfl _ rfl _ rfl _ rfl _ rfl _
   show WL _ _ _ _ _ _ _
   refine aw (vi (i.getD 6 0)) ?_
   exact f2
 ·intro A M
  have b5 := H.extk M
  rintro _ rfl _ rfl _ rfl _ rfl _ rfl _ rfl _ rfl _ rfl _ rfl _ rfl _ rfl _ rfl _ rfl _ rfl _ rfl _ rfl _ rfl _ rfl _ rfl _ rfl _ rfl _ rfl _ rfl _ rfl _ rfl _ rfl _ rfl _ rfl _ rfl _ rfl _ rfl
  show WL _ _ _ _ _ _ _
  refine aw (vi (i.getD 7 0)) ?_
  refine n4 ?_
  refine aw (vi 0) ?_
  refine wl_nil <| wq_then <| wc_block ?_
  refine wc_loopP [(0, (vs B i.length C)), (4, (vs none 0 0)), (5, (vs I i.length J)), (6, (vs O (schedP p).length P)), (7, (vi ((cmpN (schedP p) (s8of i) 0).a))), (8, (vi ((cmpN (schedP p) (s8of i) 0).b))), (9, (vi ((cmpN (schedP p) (s8of i) 0).c))), (10, (vi ((cmpN (schedP p) (s8of i) 0).d))), (11, (vi ((cmpN (schedP p) (s8of i) 0).e))), (12, (vi ((cmpN (schedP p) (s8of i) 0).f))), (13, (vi ((cmpN (schedP p) (s8of i) 0).g))), (14, (vi ((cmpN (schedP p) (s8of i) 0).z))), (15, (vi ((0 : Nat) : Int)))] ⟨rfl, rfl, rfl, rfl, (cA (Value.int .i64) (show ((i.getD 0 0) : Int) = (cmpN (schedP p) (s8of i) 0).a by rfl)), (cA (Value.int .i64) (show ((i.getD 1 0) : Int) = (cmpN (schedP p) (s8of i) 0).b by rfl)), (cA (Value.int .i64) (show ((i.getD 2 0) : Int) = (cmpN (schedP p) (s8of i) 0).c by rfl)), (cA (Value.int .i64) (show ((i.getD 3 0) : Int) = (cmpN (schedP p) (s8of i) 0).d by rfl)), (cA (Value.int .i64) (show ((i.getD 4 0) : Int) = (cmpN (schedP p) (s8of i) 0).e by rfl)), (cA (Value.int .i64) (show ((i.getD 5 0) : Int) = (cmpN (schedP p) (s8of i) 0).f by rfl)), (cA (Value.int .i64) (show ((i.getD 6 0) : Int) = (cmpN (schedP p) (s8of i) 0).g by rfl)), (cA (Value.int .i64) (show ((i.getD 7 0) : Int) = (cmpN (schedP p) (s8of i) 0).z by rfl)), (cA (Value.int .i64) (show (0 : Int) = ((0 : Nat) : Int) by omega)), trivial⟩ (fun e' K => ∃ (k : Nat) (o : Int) (q : Int) (r : Int) (D : Int) (j : Int) (s : Int) (t : Int) (y : Int) (a6 : Env), e' = pt a6 [(0, (vs B i.length C)), (4, (vs none 0 0)), (5, (vs I i.length J)), (6, (vs O (schedP p).length P)), (7, (vi o)), (8, (vi q)), (9, (vi r)), (10, (vi D)), (11, (vi j)), (12, (vi s)), (13, (vi t)), (14, (vi y)), (15, (vi ((k : Nat) : Int)))] ∧ Ch (fun k => G.heap.size ≤ k) G K ∧ Ch (fun k => A.heap.size ≤ k) A K ∧ k ≤ 64 ∧ o = (cmpN (schedP p) (s8of i) k).a ∧ q = (cmpN (schedP p) (s8of i) k).b ∧ r = (cmpN (schedP p) (s8of i) k).c ∧ D = (cmpN (schedP p) (s8of i) k).d ∧ j = (cmpN (schedP p) (s8of i) k).e ∧ s = (cmpN (schedP p) (s8of i) k).f ∧ t = (cmpN (schedP p) (s8of i) k).g ∧ y = (cmpN (schedP p) (s8of i) k).z) (fun e' _ => (64 - (intOf (e' 15))).toNat) ?_ ?_
  ·exact fun u => ⟨0, (cmpN (schedP p) (s8of i) 0).a, (cmpN (schedP p) (s8of i) 0).b, (cmpN (schedP p) (s8of i) 0).c, (cmpN (schedP p) (s8of i) 0).d, (cmpN (schedP p) (s8of i) 0).e, (cmpN (schedP p) (s8of i) 0).f, (cmpN (schedP p) (s8of i) 0).g, (cmpN (schedP p) (s8of i) 0).z, u, rfl, b5, (Ch.refl (fun k => A.heap.size ≤ k) A), (by omega), (by first | rfl | assumption), (by first | rfl | assumption), (by first | rfl | assumption), (by first | rfl | assumption), (by first | rfl | assumption), (by first | rfl | assumption), (by first | rfl | assumption), (by first | rfl | assumption)⟩
  ·rintro _ aj ⟨k, o, q, r, D, j, s, t, y, a6, rfl, a7, T, cv, hi_a, hi_b, hi_c, hi_d, hi_e, hi_f, hi_g, hi_z⟩
   obtain ⟨zw, hzw⟩ : ∃ z, (schedP p).getD k 0 = z := ⟨_, rfl⟩
   have hwd : 0 ≤ zw ∧ zw < 4294967296 := hzw ▸ wget (schedP_w p) k
   obtain ⟨zk, hzk⟩ : ∃ z, kw.getD k 0 = z := ⟨_, rfl⟩
   have hkw : 0 ≤ zk ∧ zk < 4294967296 := hzk ▸ wget kw_w k
   have hkl : kw.length = 64 := rfl
   have hok := cmpN_ok (w := schedP p) (s8of_ok (areW_t (by first | assumption | exact ‹ws8 i = true›)).1) k
   unfold S8.ok at hok
   rw [← hi_a, ← hi_b, ← hi_c, ← hi_d, ← hi_e, ← hi_f, ← hi_g, ← hi_z] at hok
   refine wc_seq <| sr ?_
   refine mw (vi ((k : Nat) : Int)) ?_
   refine pu (vb (decide (((k : Nat) : Int) < 64))) wN ?_
   refine n2 ?_
   rcases bf (decide (((k : Nat) : Int) < 64)) with V | V
   ·have cw := dF V
    refine cf V ?_
    refine wc_exit <| wq_then_exit ?_
    obtain rfl : k = 64 := by omega
    refine wq_then_exit <| wq_blk_exit <| wq_then <| wc_seq <| sr ?_
    refine mw (vi o) ?_
    refine mw (vi q) ?_
    refine mw (vi r) ?_
    refine mw (vi D) ?_
    refine mw (vi j) ?_
    refine mw (vi s) ?_
    refine mw (vi t) ?_
    refine mw (vi y) ?_
    refine ltI ([o, q, r, D, j, s, t, y] : List Int) wN slTy_67 ?_
    intro ab ac E a8 ak
    have b6 := a7.extk a8
    refine ln wN slTy_67 (Rd.of_own ak) ?_
    refine mw (vi 0) ?_
    refine wl_nil <| wq_then <| wc_block ?_
    have b7 := (own_kp (own_ch (own_kp (own_kp (own_kp Q R) Z) M) T (fun g hg hlt hk => by have am := (own_lt Q g hg).2; have an : a1.heap.size ≤ A.heap.size := (z3 R Z M); have ao : A.heap.size ≤ g := hk; omega)) a8)
    have b8 : (i : List Int) = (addL i (S8.list (cmpN (schedP p) (s8of i) 64))).take 0 ++ i.drop 0 := by first | rfl | simp
    have b9 : (([o, q, r, D, j, s, t, y] : List Int) : List Int) = ([o, q, r, D, j, s, t, y] : List Int) := by first | rfl | simp
    refine wc_loopP [(0, (vs B i.length C)), (4, (vs none 0 0)), (5, (vs I i.length J)), (133, (vs ab ([o, q, r, D, j, s, t, y] : List Int).length ac)), (134, (vi (([o, q, r, D, j, s, t, y] : List Int).length : Int))), (135, (vi ((0 : Nat) : Int)))] ⟨rfl, rfl, rfl, rfl, rfl, (cA (Value.int .i64) (show (0 : Int) = ((0 : Nat) : Int) by omega)), trivial⟩ (fun e' K => ∃ (m : Nat) (a9 : Env), e' = pt a9 [(0, (vs B i.length C)), (4, (vs none 0 0)), (5, (vs I i.length J)), (133, (vs ab ([o, q, r, D, j, s, t, y] : List Int).length ac)), (134, (vi (([o, q, r, D, j, s, t, y] : List Int).length : Int))), (135, (vi ((m : Nat) : Int)))] ∧ Ch (fun k => G.heap.size ≤ k) G K ∧ Ch (fun k => G.heap.size ≤ k) E K ∧ m ≤ 8 ∧ World.ownsRow K G.heap.size 3 1 (.slice I i.length J) i.length (((addL i (S8.list (cmpN (schedP p) (s8of i) 64))).take m ++ i.drop m).map iV) ∧ World.ownsRow K aj.heap.size 3 1 (.slice ab ([o, q, r, D, j, s, t, y] : List Int).length ac) ([o, q, r, D, j, s, t, y] : List Int).length ((([o, q, r, D, j, s, t, y] : List Int)).map iV)) (fun e' _ => (8 - (intOf (e' 135))).toNat) ?_ ?_
    ·exact fun u => ⟨0, u, rfl, b6, (Ch.refl (fun k => G.heap.size ≤ k) E), (by omega), (by rw [← b8]; exact b7), (by rw [← b9]; exact ak)⟩
    ·rintro _ N ⟨m, a9, rfl, ad, bA, cx, ap, aq⟩
     have hlL : ([o, q, r, D, j, s, t, y] : List Int).length = 8 := rfl
     have hll : (addL i (S8.list (cmpN (schedP p) (s8of i) 64))).length = 8 := addL_len (by omega) rfl
     have cy : (i.length : Int) = 8 := (areW_t (by first | assumption | exact ‹ws8 i = true›)).2
     have cz := wget (areW_t (by first | assumption | exact ‹ws8 i = true›)).1 m
     have hle : ([o, q, r, D, j, s, t, y] : List Int) = (S8.list (cmpN (schedP p) (s8of i) 64)) := by rw [hi_a, hi_b, hi_c, hi_d, hi_e, hi_f, hi_g, hi_z]; rfl
     have c0 : 0 ≤ ([o, q, r, D, j, s, t, y] : List Int).getD m 0 ∧ ([o, q, r, D, j, s, t, y] : List Int).getD m 0 < 4294967296 := hle ▸ wget (s8l_w (cmpN_ok (w := schedP p) (s8of_ok (areW_t (by first | assumption | exact ‹ws8 i = true›)).1) 64)) m
     refine sr ?_
     refine pu (vb (decide (((m : Nat) : Int) < (([o, q, r, D, j, s, t, y] : List Int).length : Int)))) wN ?_
     refine wl_nil <| wq_then <| wc_seq ?_
     rcases bf (decide (((m : Nat) : Int) < (([o, q, r, D, j, s, t, y] : List Int).length : Int))) with W | W
     ·have c1 := dF W
      refine cf W ?_
      refine wc_exit <| wq_then_exit <| wq_then_exit <| wq_blk_exit <| wq_then <| sr ?_
      refine mw (vs I i.length J) ?_
      refine aw (vs I i.length J) ?_
      refine n3 ?_
      refine rt (vs I i.length J) ?_
      refine ⟨ad.keep0, ?_⟩
      have bB : compress i p = ((addL i (S8.list (cmpN (schedP p) (s8of i) 64))).take m ++ i.drop m) := by first | exact compress_f (by first | assumption | exact ‹ws8 i = false›) | exact compress_g (by omega) | exact compress_t (by first | assumption | exact ‹ws8 i = true›) (by omega) (by omega)
      rw [bB]
      have aA : i.length = (((addL i (S8.list (cmpN (schedP p) (s8of i) 64))).take m ++ i.drop m)).length := by simp only [List.length_append, List.length_take, List.length_drop]; omega
      rw [aA] at ap ⊢
      exact ⟨_, _, rfl, ap, (by rw [← aA]; exact af), ⟨trivial, trivial⟩⟩
     have c2 := dT W
     refine ct W ?_
     refine wc_skip <| wq_then <| wc_seq <| wc_block <| sr ?_
     refine mw (vi ((m : Nat) : Int)) ?_
     refine ix wN ((m : Nat) : Int) slTy_67 (Rd.of_own aq) ?_
     refine ei (x := (([o, q, r, D, j, s, t, y] : List Int))) m wN isAgg_3 (Rd.of_own aq) ?_
     refine aw (vi ((m : Nat) : Int)) ?_
     refine aw (vi ((([o, q, r, D, j, s, t, y] : List Int)).getD m 0)) ?_
     refine wl_nil <| wq_then <| wc_region ?_
     refine mw (vs I i.length J) ?_
     refine mw (vi ((m : Nat) : Int)) ?_
     refine mw (vs B i.length C) ?_
     refine mw (vi ((m : Nat) : Int)) ?_
     refine ix wN ((m : Nat) : Int) slTy_67 (F.from0 ad) ?_
     refine ei (x := i) m wN isAgg_3 (F.from0 ad) ?_
     refine mw (vi ((([o, q, r, D, j, s, t, y] : List Int)).getD m 0)) ?_
     refine cl wN (ciAdd32 N (i.getD m 0) ((([o, q, r, D, j, s, t, y] : List Int)).getD m 0) (by omega) (by omega) (by omega) (by omega)) ?_
     rintro _ aB ⟨ae, rfl⟩
     have aC := (own_kp ap ae)
     refine ix wN ((m : Nat) : Int) slTy_67 (Rd.of_own aC) ?_
     refine wl_storeI ((addL i (S8.list (cmpN (schedP p) (s8of i) 64))).take m ++ i.drop m) (m) ((i_Add32 (i.getD m 0) ((([o, q, r, D, j, s, t, y] : List Int)).getD m 0))) wN rfl rfl rfl (by simp) rfl sizeOf_3 aC (by first | omega | (simp only [List.length_append, List.length_take, List.length_drop]; omega)) ?_
     intro aD au bC
     have bD := (ad.extk ae).ext au (fun k hk => nT (Nat.le_refl G.heap.size) (own_lt Q k hk).1)
     refine wl_nil <| wq_blk_normal <| wq_then <| wc_region ?_
     refine ar (((m : Nat) : Int) + 1) wN ?_
     refine mw (vi (((m : Nat) : Int) + 1)) ?_
     refine wl_nil ?_
     have bE : ((((addL i (S8.list (cmpN (schedP p) (s8of i) 64))).take m ++ i.drop m).set m (i_Add32 (i.getD m 0) ((([o, q, r, D, j, s, t, y] : List Int)).getD m 0))) : List Int) = (addL i (S8.list (cmpN (schedP p) (s8of i) 64))).take (m + 1) ++ i.drop (m + 1) := by first | rfl | (rw [hle]; exact addL_next (l := (S8.list (cmpN (schedP p) (s8of i) 64))) (by omega) (by show i.length = 8; omega))
     have bF := (own_ch (own_kp aq ae) au (fun g hg hlt hk => by have am := (own_lt ak g hg).1; have an := (own_lt Q g hk).2; have ao := (z4 R Z M T); omega))
     have bG : ((([o, q, r, D, j, s, t, y] : List Int)) : List Int) = ([o, q, r, D, j, s, t, y] : List Int) := by first | rfl | (rw [hle]; exact addL_next (l := (S8.list (cmpN (schedP p) (s8of i) 64))) (by omega) (by show i.length = 8; omega))
     refine wq_loopP (w0 := N) [(0, (vs B i.length C)), (4, (vs none 0 0)), (5, (vs I i.length J)), (133, (vs ab ([o, q, r, D, j, s, t, y] : List Int).length ac)), (134, (vi (([o, q, r, D, j, s, t, y] : List Int).length : Int))), (135, (vi (((m + 1) : Nat) : Int)))] ?_ ?_ ?_
     · exact ⟨rfl, rfl, rfl, rfl, rfl, (cA (Value.int .i64) (show ((((m : Nat) : Int) + 1) : Int) = (((m + 1) : Nat) : Int) by omega)), trivial⟩
     · exact fun u => ⟨(m + 1), u, rfl, bD, ((((Ch.refl (fun k => G.heap.size ≤ k) E).ext bA (fun k hk => hk)).extk ae).ext au (fun k hk => nT (Nat.le_refl G.heap.size) (own_lt Q k hk).1)), (by omega), (by rw [← bE]; exact bC), (by rw [← bG]; exact bF)⟩
     · show (8 - (((m + 1) : Nat) : Int)).toNat < (8 - ((m : Nat) : Int)).toNat; omega
   have c3 := dT V
   refine ct V ?_
   refine wc_skip <| wq_then <| wc_seq <| wc_block <| sr ?_
   refine mw (vi j) ?_
   refine mw (vi s) ?_
   refine wl_andG j s wN rfl rfl (by kernel_rfl) (by omega) (by omega) (by omega) (by omega) ?_
   have c4 := andI_b (a := j) (b := s) (by omega)
   refine mw (vi j) ?_
   refine wl_xor 4294967295 j wN rfl rfl (by kernel_rfl) (by omega) (by omega) (by omega) (by omega) ?_
   have c5 := xorI_b (a := 4294967295) (b := j) (by omega) (by omega)
   refine mw (vi t) ?_
   refine wl_andG (xorI 4294967295 j) t wN rfl rfl (by kernel_rfl) (by omega) (by omega) (by omega) (by omega) ?_
   have c6 := andI_b (a := (xorI 4294967295 j)) (b := t) (by omega)
   refine wl_xor (andI j s) (andI (xorI 4294967295 j) t) wN rfl rfl (by kernel_rfl) (by omega) (by omega) (by omega) (by omega) ?_
   have c7 := xorI_b (a := (andI j s)) (b := (andI (xorI 4294967295 j) t)) (by omega) (by omega)
   refine aw (vi (xorI (andI j s) (andI (xorI 4294967295 j) t))) ?_
   refine nx ?_
   refine mw (vi o) ?_
   refine mw (vi q) ?_
   refine wl_andG o q wN rfl rfl (by kernel_rfl) (by omega) (by omega) (by omega) (by omega) ?_
   have c8 := andI_b (a := o) (b := q) (by omega)
   refine mw (vi o) ?_
   refine mw (vi r) ?_
   refine wl_andG o r wN rfl rfl (by kernel_rfl) (by omega) (by omega) (by omega) (by omega) ?_
   have c9 := andI_b (a := o) (b := r) (by omega)
   refine wl_xor (andI o q) (andI o r) wN rfl rfl (by kernel_rfl) (by omega) (by omega) (by omega) (by omega) ?_
   have cC := xorI_b (a := (andI o q)) (b := (andI o r)) (by omega) (by omega)
   refine mw (vi q) ?_
   refine mw (vi r) ?_
   refine wl_andG q r wN rfl rfl (by kernel_rfl) (by omega) (by omega) (by omega) (by omega) ?_
   have cD := andI_b (a := q) (b := r) (by omega)
   refine wl_xor (xorI (andI o q) (andI o r)) (andI q r) wN rfl rfl (by kernel_rfl) (by omega) (by omega) (by omega) (by omega) ?_
   have cE := xorI_b (a := (xorI (andI o q) (andI o r))) (b := (andI q r)) (by omega) (by omega)
   refine aw (vi (xorI (xorI (andI o q) (andI o r)) (andI q r))) ?_
   refine wl_nil <| wq_then <| wc_seq ?_
   refine wc_drawT ([(83, [], [], (fun _ v _ => v = (vi y))), (84, [], [], (fun _ v _ => v = (vi j))), (85, [], [1], (fun _ v w => v = .int .i64 (rot j 6))), (86, [], [], (fun _ v _ => v = (vi j))), (87, [], [1, 2, 3], (fun _ v w => v = .int .i64 (rot j 11))), (88, [], [1, 2, 3, 4], (fun _ v _ => v = (vi (xorI (rot j 6) (rot j 11))))), (89, [], [], (fun _ v _ => v = (vi j))), (90, [], [1, 2, 3, 4, 6], (fun _ v w => v = .int .i64 (rot j 25))), (91, [], [1, 2, 3, 4, 5, 6, 7], (fun _ v _ => v = (vi (xorI (xorI (rot j 6) (rot j 11)) (rot j 25))))), (92, [], [0, 1, 2, 3, 4, 5, 6, 7, 8], (fun _ v _ => v = (vi (y + (xorI (xorI (rot j 6) (rot j 11)) (rot j 25)))))), (93, [], [], (fun _ v _ => v = (vi (xorI (andI j s) (andI (xorI 4294967295 j) t))))), (94, [], [0, 1, 2, 3, 4, 5, 6, 7, 8, 9, 10], (fun _ v _ => v = (vi ((y + (xorI (xorI (rot j 6) (rot j 11)) (rot j 25))) + (xorI (andI j s) (andI (xorI 4294967295 j) t)))))), (95, [], [], (fun _ v _ => v = (vi ((k : Nat) : Int)))), (96, [], [1, 2, 3, 4, 6, 7, 12], (fun _ v w => v = .int .i64 (rw64 ((k : Nat) : Int)))), (97, [], [0, 1, 2, 3, 4, 5, 6, 7, 8, 9, 10, 11, 12, 13], (fun _ v _ => v = (vi (((y + (xorI (xorI (rot j 6) (rot j 11)) (rot j 25))) + (xorI (andI j s) (andI (xorI 4294967295 j) t))) + (rw64 ((k : Nat) : Int)))))), (98, [], [], (fun _ v _ => v = (vs O (schedP p).length P))), (99, [], [], (fun _ v _ => v = (vi ((k : Nat) : Int)))), (100, [], [15, 16], (fun _ v _ => v = (ve (vs O (schedP p).length P) ((((k : Nat) : Int)).toNat * 1)))), (101, [], [15, 16, 17], (fun _ v _ => v = (vi zw)))] : GV) (fun _ K => Keep aj K) [] mixed rfl (by kernel_rfl) (by kernel_rfl) ?_ (fun _ _ h => h) (fun _ _ _ _ h _ k => h.trans k) trivial ?_ ?_ ?_
   ·exact ⟨hV, hE, ⟨hV, hE, ⟨hV, hE, ⟨hV, hE, ⟨hV, hE, ⟨hV, hE, ⟨hV, hE, ⟨hV, hE, ⟨hV, hE, ⟨hV, hE, ⟨hV, hE, ⟨hV, hE, ⟨hV, hE, ⟨hV, hE, ⟨hV, hE, ⟨hV, hE, ⟨hV, hE, ⟨hV, hE, ⟨hV, hE, trivial⟩⟩⟩⟩⟩⟩⟩⟩⟩⟩⟩⟩⟩⟩⟩⟩⟩⟩⟩
   ·exact trivial
   ·refine ⟨?_, ⟨?_, ⟨?_, ⟨?_, ⟨?_, ⟨?_, ⟨?_, ⟨?_, ⟨?_, ⟨?_, ⟨?_, ⟨?_, ⟨?_, ⟨?_, ⟨?_, ⟨?_, ⟨?_, ⟨?_, ⟨?_, trivial⟩⟩⟩⟩⟩⟩⟩⟩⟩⟩⟩⟩⟩⟩⟩⟩⟩⟩⟩
    ·intro _ E cF _
     rintro _ _ _ _ _ _ _ _ _ _ _ _ _ _ _ _ _ _ _
     show WL _ _ _ _ _ _ _
     refine mw (vi y) ?_
     exact f1
    ·intro _ E cG _
     rintro _ _ _ _ _ _ _ _ _ _ _ _ _ _ _ _ _ _ _
     show WL _ _ _ _ _ _ _
     refine mw (vi j) ?_
     exact f1
    ·intro _ E cH _
     rintro _ _ rfl _ _ _ _ _ _ _ _ _ _ _ _ _ _ _ _ _
     show WL _ _ _ _ _ _ _
     refine cl wN (ciRot E j 6 (by omega) (by omega)) ?_
     rintro _ N ⟨bH, rfl⟩
     have cI := rot_b j 6
     exact wl_finT bH rfl
    ·intro _ E cJ _
     rintro _ _ _ _ _ _ _ _ _ _ _ _ _ _ _ _ _ _ _
     show WL _ _ _ _ _ _ _
     refine mw (vi j) ?_
     exact f1
    ·intro _ E cK _
     rintro _ _ rfl _ rfl
     have cL := rot_b j 6
     rintro _ rfl _ _ _ _ _ _ _ _ _ _ _ _ _ _ _
     show WL _ _ _ _ _ _ _
     refine cl wN (ciRot E j 11 (by omega) (by omega)) ?_
     rintro _ N ⟨bI, rfl⟩
     have cM := rot_b j 11
     exact wl_finT bI rfl
    ·intro _ E cN _
     rintro _ _ rfl _ rfl
     have cO := rot_b j 6
     rintro _ rfl _ rfl
     have cP := rot_b j 11
     rintro _ _ _ _ _ _ _ _ _ _ _ _ _ _
     show WL _ _ _ _ _ _ _
     refine wl_xor (rot j 6) (rot j 11) wN rfl rfl (by kernel_rfl) (by omega) (by omega) (by omega) (by omega) ?_
     have cQ := xorI_b (a := (rot j 6)) (b := (rot j 11)) (by omega) (by omega)
     exact f1
    ·intro _ E cR _
     rintro _ _ _ _ _ _ _ _ _ _ _ _ _ _ _ _ _ _ _
     show WL _ _ _ _ _ _ _
     refine mw (vi j) ?_
     exact f1
    ·intro _ E cS _
     rintro _ _ rfl _ rfl
     have cT := rot_b j 6
     rintro _ rfl _ rfl
     have cU := rot_b j 11
     rintro _ _ rfl _ _ _ _ _ _ _ _ _ _ _ _
     show WL _ _ _ _ _ _ _
     refine cl wN (ciRot E j 25 (by omega) (by omega)) ?_
     rintro _ N ⟨bJ, rfl⟩
     have cV := rot_b j 25
     exact wl_finT bJ rfl
    ·intro _ E cW _
     rintro _ _ rfl _ rfl
     have cX := rot_b j 6
     rintro _ rfl _ rfl
     have cY := rot_b j 11
     rintro _ rfl
     have cZ := xorI_b (a := (rot j 6)) (b := (rot j 11)) (by omega) (by omega)
     rintro _ rfl _ rfl
     have da := rot_b j 25
     rintro _ _ _ _ _ _ _ _ _ _ _
     show WL _ _ _ _ _ _ _
     refine wl_xor (xorI (rot j 6) (rot j 11)) (rot j 25) wN rfl rfl (by kernel_rfl) (by omega) (by omega) (by omega) (by omega) ?_
     have db := xorI_b (a := (xorI (rot j 6) (rot j 11))) (b := (rot j 25)) (by omega) (by omega)
     exact f1
    ·intro _ E dc _
     rintro _ rfl _ rfl _ rfl
     have dd := rot_b j 6
     rintro _ rfl _ rfl
     have de := rot_b j 11
     rintro _ rfl
     have df := xorI_b (a := (rot j 6)) (b := (rot j 11)) (by omega) (by omega)
     rintro _ rfl _ rfl
     have dg := rot_b j 25
     rintro _ rfl
     have dh := xorI_b (a := (xorI (rot j 6) (rot j 11))) (b := (rot j 25)) (by omega) (by omega)
     rintro _ _ _ _ _ _ _ _ _ _
     show WL _ _ _ _ _ _ _
     refine ar (y + (xorI (xorI (rot j 6) (rot j 11)) (rot j 25))) wN ?_
     exact f1
    ·intro _ E di _
     rintro _ _ _ _ _ _ _ _ _ _ _ _ _ _ _ _ _ _ _
     show WL _ _ _ _ _ _ _
     refine mw (vi (xorI (andI j s) (andI (xorI 4294967295 j) t))) ?_
     exact f1
    ·intro _ E dj _
     rintro _ rfl _ rfl _ rfl
     have dk := rot_b j 6
     rintro _ rfl _ rfl
     have dl := rot_b j 11
     rintro _ rfl
     have dm := xorI_b (a := (rot j 6)) (b := (rot j 11)) (by omega) (by omega)
     rintro _ rfl _ rfl
     have dn := rot_b j 25
     rintro _ rfl
     have dp := xorI_b (a := (xorI (rot j 6) (rot j 11))) (b := (rot j 25)) (by omega) (by omega)
     rintro _ rfl _ rfl _ _ _ _ _ _ _ _
     show WL _ _ _ _ _ _ _
     refine ar ((y + (xorI (xorI (rot j 6) (rot j 11)) (rot j 25))) + (xorI (andI j s) (andI (xorI 4294967295 j) t))) wN ?_
     exact f1
    ·intro _ E dq _
     rintro _ _ _ _ _ _ _ _ _ _ _ _ _ _ _ _ _ _ _
     show WL _ _ _ _ _ _ _
     refine mw (vi ((k : Nat) : Int)) ?_
     exact f1
    ·intro _ E dr _
     rintro _ _ rfl _ rfl
     have ds := rot_b j 6
     rintro _ rfl _ rfl
     have dt := rot_b j 11
     rintro _ _ rfl _ rfl
     have du := rot_b j 25
     rintro _ _ _ _ _ rfl _ _ _ _ _ _
     show WL _ _ _ _ _ _ _
     refine cl wN (ciRoundWord E ((k : Nat) : Int)) ?_
     rintro _ N ⟨bK, rfl⟩
     have dv := rw64_b ((k : Nat) : Int)
     exact wl_finT bK rfl
    ·intro _ E dw _
     rintro _ rfl _ rfl _ rfl
     have dx := rot_b j 6
     rintro _ rfl _ rfl
     have dy := rot_b j 11
     rintro _ rfl
     have dz := xorI_b (a := (rot j 6)) (b := (rot j 11)) (by omega) (by omega)
     rintro _ rfl _ rfl
     have d0 := rot_b j 25
     rintro _ rfl
     have d1 := xorI_b (a := (xorI (rot j 6) (rot j 11))) (b := (rot j 25)) (by omega) (by omega)
     rintro _ rfl _ rfl _ rfl _ rfl _ rfl
     have d2 := rw64_b ((k : Nat) : Int)
     rintro _ _ _ _ _
     show WL _ _ _ _ _ _ _
     refine ar (((y + (xorI (xorI (rot j 6) (rot j 11)) (rot j 25))) + (xorI (andI j s) (andI (xorI 4294967295 j) t))) + (rw64 ((k : Nat) : Int))) wN ?_
     exact f1
    ·intro _ E d3 _
     rintro _ _ _ _ _ _ _ _ _ _ _ _ _ _ _ _ _ _ _
     show WL _ _ _ _ _ _ _
     refine mw (vs O (schedP p).length P) ?_
     exact f1
    ·intro _ E d4 _
     rintro _ _ _ _ _ _ _ _ _ _ _ _ _ _ _ _ _ _ _
     show WL _ _ _ _ _ _ _
     refine mw (vi ((k : Nat) : Int)) ?_
     exact f1
    ·intro _ E bL _
     rintro _ _ _ _ _ _ _ _ _ _ _ _ _ _ _ _ rfl _ rfl _ _
     show WL _ _ _ _ _ _ _
     have bM := (own_kp (own_ch (own_kp aa M) T (fun g hg hlt hk => by have am := (own_lt aa g hg).2; have an : a5.heap.size ≤ A.heap.size := M.size; have ao : A.heap.size ≤ g := hk; omega)) bL)
     refine ix wN ((k : Nat) : Int) slTy_67 (Rd.of_own bM) ?_
     exact f1
    ·intro _ E bN _
     rintro _ _ _ _ _ _ _ _ _ _ _ _ _ _ _ _ rfl _ rfl _ rfl _
     show WL _ _ _ _ _ _ _
     have bO := (own_kp (own_ch (own_kp aa M) T (fun g hg hlt hk => by have am := (own_lt aa g hg).2; have an : a5.heap.size ≤ A.heap.size := M.size; have ao : A.heap.size ≤ g := hk; omega)) bN)
     refine wl_loadE (iV zw) wN rfl rfl rfl rfl isAgg_3 (Rd.of_own bO) (by rw [← hzw]; exact iget (by simp) (by first | omega | (simp <;> omega))) ?_
     exact f1
   ·intro _ E aE
    rintro _ rfl _ rfl _ rfl
    have d5 := rot_b j 6
    rintro _ rfl _ rfl
    have d6 := rot_b j 11
    rintro _ rfl
    have d7 := xorI_b (a := (rot j 6)) (b := (rot j 11)) (by omega) (by omega)
    rintro _ rfl _ rfl
    have d8 := rot_b j 25
    rintro _ rfl
    have d9 := xorI_b (a := (xorI (rot j 6) (rot j 11))) (b := (rot j 25)) (by omega) (by omega)
    rintro _ rfl _ rfl _ rfl _ rfl _ rfl
    have dA := rw64_b ((k : Nat) : Int)
    rintro _ rfl _ rfl _ rfl _ rfl _ rfl
    show WL _ _ _ _ _ _ _
    refine ar ((((y + (xorI (xorI (rot j 6) (rot j 11)) (rot j 25))) + (xorI (andI j s) (andI (xorI 4294967295 j) t))) + (rw64 ((k : Nat) : Int))) + zw) wN ?_
    refine aw (vi ((((y + (xorI (xorI (rot j 6) (rot j 11)) (rot j 25))) + (xorI (andI j s) (andI (xorI 4294967295 j) t))) + (rw64 ((k : Nat) : Int))) + zw)) ?_
    refine nx ?_
    refine mw (vi o) ?_
    refine cl wN (ciRot E o 2 (by omega) (by omega)) ?_
    rintro _ N ⟨aF, rfl⟩
    have bP := (a7.extk aE).extk aF
    have dB := rot_b o 2
    refine mw (vi o) ?_
    refine cl wN (ciRot N o 13 (by omega) (by omega)) ?_
    rintro _ aB ⟨aG, rfl⟩
    have dC := rot_b o 13
    refine wl_xor (rot o 2) (rot o 13) wN rfl rfl (by kernel_rfl) (by omega) (by omega) (by omega) (by omega) ?_
    have dD := xorI_b (a := (rot o 2)) (b := (rot o 13)) (by omega) (by omega)
    refine mw (vi o) ?_
    refine cl wN (ciRot aB o 22 (by omega) (by omega)) ?_
    rintro _ aD ⟨aH, rfl⟩
    have bQ := (bP.extk aG).extk aH
    have dE := rot_b o 22
    refine wl_xor (xorI (rot o 2) (rot o 13)) (rot o 22) wN rfl rfl (by kernel_rfl) (by omega) (by omega) (by omega) (by omega) ?_
    have dG := xorI_b (a := (xorI (rot o 2) (rot o 13))) (b := (rot o 22)) (by omega) (by omega)
    refine mw (vi (xorI (xorI (andI o q) (andI o r)) (andI q r))) ?_
    refine ar ((xorI (xorI (rot o 2) (rot o 13)) (rot o 22)) + (xorI (xorI (andI o q) (andI o r)) (andI q r))) wN ?_
    refine aw (vi ((xorI (xorI (rot o 2) (rot o 13)) (rot o 22)) + (xorI (xorI (andI o q) (andI o r)) (andI q r)))) ?_
    refine nx ?_
    refine mw (vi t) ?_
    refine mw (vi s) ?_
    refine mw (vi j) ?_
    refine mw (vi D) ?_
    refine mw (vi ((((y + (xorI (xorI (rot j 6) (rot j 11)) (rot j 25))) + (xorI (andI j s) (andI (xorI 4294967295 j) t))) + (rw64 ((k : Nat) : Int))) + zw)) ?_
    refine cl wN (ciAdd32 aD D ((((y + (xorI (xorI (rot j 6) (rot j 11)) (rot j 25))) + (xorI (andI j s) (andI (xorI 4294967295 j) t))) + (rw64 ((k : Nat) : Int))) + zw) (by omega) (by omega) (by omega) (by omega)) ?_
    rintro _ bR ⟨aI, rfl⟩
    refine aw (vi t) ?_
    refine aw (vi s) ?_
    refine aw (vi j) ?_
    refine aw (vi (i_Add32 D ((((y + (xorI (xorI (rot j 6) (rot j 11)) (rot j 25))) + (xorI (andI j s) (andI (xorI 4294967295 j) t))) + (rw64 ((k : Nat) : Int))) + zw))) ?_
    refine wl_nil <| wq_then <| wc_region ?_
    refine mw (vi r) ?_
    refine mw (vi q) ?_
    refine mw (vi o) ?_
    refine mw (vi ((((y + (xorI (xorI (rot j 6) (rot j 11)) (rot j 25))) + (xorI (andI j s) (andI (xorI 4294967295 j) t))) + (rw64 ((k : Nat) : Int))) + zw)) ?_
    refine mw (vi ((xorI (xorI (rot o 2) (rot o 13)) (rot o 22)) + (xorI (xorI (andI o q) (andI o r)) (andI q r)))) ?_
    refine cl wN (ciAdd32 bR ((((y + (xorI (xorI (rot j 6) (rot j 11)) (rot j 25))) + (xorI (andI j s) (andI (xorI 4294967295 j) t))) + (rw64 ((k : Nat) : Int))) + zw) ((xorI (xorI (rot o 2) (rot o 13)) (rot o 22)) + (xorI (xorI (andI o q) (andI o r)) (andI q r))) (by omega) (by omega) (by omega) (by omega)) ?_
    rintro _ dH ⟨aJ, rfl⟩
    have bS := (bQ.extk aI).extk aJ
    refine aw (vi r) ?_
    refine aw (vi q) ?_
    refine aw (vi o) ?_
    refine aw (vi (i_Add32 ((((y + (xorI (xorI (rot j 6) (rot j 11)) (rot j 25))) + (xorI (andI j s) (andI (xorI 4294967295 j) t))) + (rw64 ((k : Nat) : Int))) + zw) ((xorI (xorI (rot o 2) (rot o 13)) (rot o 22)) + (xorI (xorI (andI o q) (andI o r)) (andI q r))))) ?_
    refine wl_nil <| wq_blk_normal <| wq_then <| wc_region ?_
    refine mw (vi ((k : Nat) : Int)) ?_
    refine ar (((k : Nat) : Int) + 1) wN ?_
    refine aw (vi (((k : Nat) : Int) + 1)) ?_
    refine wl_nil ?_
    refine wq_loopP (w0 := aj) [(0, (vs B i.length C)), (4, (vs none 0 0)), (5, (vs I i.length J)), (6, (vs O (schedP p).length P)), (7, (vi ((cmpN (schedP p) (s8of i) (k + 1)).a))), (8, (vi ((cmpN (schedP p) (s8of i) (k + 1)).b))), (9, (vi ((cmpN (schedP p) (s8of i) (k + 1)).c))), (10, (vi ((cmpN (schedP p) (s8of i) (k + 1)).d))), (11, (vi ((cmpN (schedP p) (s8of i) (k + 1)).e))), (12, (vi ((cmpN (schedP p) (s8of i) (k + 1)).f))), (13, (vi ((cmpN (schedP p) (s8of i) (k + 1)).g))), (14, (vi ((cmpN (schedP p) (s8of i) (k + 1)).z))), (15, (vi (((k + 1) : Nat) : Int)))] ?_ ?_ ?_
    · exact ⟨rfl, rfl, rfl, rfl, (cA (Value.int .i64) (show ((i_Add32 ((((y + (xorI (xorI (rot j 6) (rot j 11)) (rot j 25))) + (xorI (andI j s) (andI (xorI 4294967295 j) t))) + (rw64 ((k : Nat) : Int))) + zw) ((xorI (xorI (rot o 2) (rot o 13)) (rot o 22)) + (xorI (xorI (andI o q) (andI o r)) (andI q r)))) : Int) = (cmpN (schedP p) (s8of i) (k + 1)).a by subst hzw hzk hi_a hi_b hi_c hi_d hi_e hi_f hi_g hi_z; exact cmp_ia (by omega) rfl)), (cA (Value.int .i64) (show (o : Int) = (cmpN (schedP p) (s8of i) (k + 1)).b by rw [hi_a]; rfl)), (cA (Value.int .i64) (show (q : Int) = (cmpN (schedP p) (s8of i) (k + 1)).c by rw [hi_b]; rfl)), (cA (Value.int .i64) (show (r : Int) = (cmpN (schedP p) (s8of i) (k + 1)).d by rw [hi_c]; rfl)), (cA (Value.int .i64) (show ((i_Add32 D ((((y + (xorI (xorI (rot j 6) (rot j 11)) (rot j 25))) + (xorI (andI j s) (andI (xorI 4294967295 j) t))) + (rw64 ((k : Nat) : Int))) + zw)) : Int) = (cmpN (schedP p) (s8of i) (k + 1)).e by subst hzw hzk hi_a hi_b hi_c hi_d hi_e hi_f hi_g hi_z; exact cmp_ie (by omega) rfl)), (cA (Value.int .i64) (show (j : Int) = (cmpN (schedP p) (s8of i) (k + 1)).f by rw [hi_e]; rfl)), (cA (Value.int .i64) (show (s : Int) = (cmpN (schedP p) (s8of i) (k + 1)).g by rw [hi_f]; rfl)), (cA (Value.int .i64) (show (t : Int) = (cmpN (schedP p) (s8of i) (k + 1)).z by rw [hi_g]; rfl)), (cA (Value.int .i64) (show ((((k : Nat) : Int) + 1) : Int) = (((k + 1) : Nat) : Int) by omega)), trivial⟩
    · exact fun u => ⟨(k + 1), (cmpN (schedP p) (s8of i) (k + 1)).a, (cmpN (schedP p) (s8of i) (k + 1)).b, (cmpN (schedP p) (s8of i) (k + 1)).c, (cmpN (schedP p) (s8of i) (k + 1)).d, (cmpN (schedP p) (s8of i) (k + 1)).e, (cmpN (schedP p) (s8of i) (k + 1)).f, (cmpN (schedP p) (s8of i) (k + 1)).g, (cmpN (schedP p) (s8of i) (k + 1)).z, u, rfl, bS, ((((((((Ch.refl (fun k => A.heap.size ≤ k) A).ext T (fun k hk => hk)).extk aE).extk aF).extk aG).extk aH).extk aI).extk aJ), (by omega), (by first | rfl | assumption), (by first | rfl | assumption), (by first | rfl | assumption), (by first | rfl | assumption), (by first | rfl | assumption), (by first | rfl | assumption), (by first | rfl | assumption), (by first | rfl | assumption)⟩
    · show (64 - (((k + 1) : Nat) : Int)).toNat < (64 - ((k : Nat) : Int)).toNat; omega

def R_67_22 (w : World) (v : Value) (x : (List Int) × (List UInt8)) : Prop := ∃ (a : Option Addr) (b : Nat) (d : Option Addr) (e : Nat), v = .tuple #[.slice a x.1.length b, .slice d x.2.length e] ∧ Rd w 1 (.slice a x.1.length b) x.1.length (x.1.map iV) ∧ x.1.length ≤ 1073741824 ∧ Rd w 1 (.slice d x.2.length e) x.2.length (x.2.map bV) ∧ x.2.length ≤ 1073741824
theorem cicompressAll (e : World) (y : Value) (b : List Int) (L : R_67 e y b) (A : Value) (a : List UInt8) (M : R_22 e A a)  : Fn Try.prog 104 #[y, A] e (fun v g => Keep e g ∧ R_67_22 g v (compAll b a)) := by
 obtain ⟨o, p, rfl, N, O⟩ := L
 obtain ⟨q, r, rfl, P, Q⟩ := M
 refine fn_ofS (n := 17) [(vs o b.length p), (vs q a.length r)] Try.func104 rfl rfl ?_
 refine sr ?_
 refine aw (vs none 0 0) ?_
 refine aw (vs none 0 0) ?_
 refine wl_nil <| wq_then <| wc_seq <| wc_block ?_
 have B : (b : List Int) = foldK b a 0 := by rfl
 have C : (a : List UInt8) = a.drop (64 * 0) := by rfl
 refine wc_loopP [(0, (.slice o (foldK b a 0).length p)), (1, (.slice q (a.drop (64 * 0)).length r)), (4, (vs none 0 0)), (5, (vs none 0 0))] ⟨(cA (fun l : List Int => Value.slice o l.length p) B), (cA (fun l : List UInt8 => Value.slice q l.length r) C), rfl, rfl, trivial⟩ (fun e' g => ∃ (k : Nat) (D : Env) (h : Option Addr) (i : Nat) (f : Option Addr) (d : Nat), e' = pt D [(0, (.slice h (foldK b a k).length i)), (1, (.slice f (a.drop (64 * k)).length d)), (4, (vs none 0 0)), (5, (vs none 0 0))] ∧ Ch (fun k => e.heap.size ≤ k) e g ∧ Ch (fun k => e.heap.size ≤ k) e g ∧ 64 * k ≤ a.length ∧ (Rd g 1 (.slice h (foldK b a k).length i) (foldK b a k).length ((foldK b a k).map iV) ∧ (foldK b a k).length ≤ 1073741824) ∧ (Rd g 1 (.slice f (a.drop (64 * k)).length d) (a.drop (64 * k)).length ((a.drop (64 * k)).map bV) ∧ (a.drop (64 * k)).length ≤ 1073741824)) (fun e' _ => (lenOf (e' 1))) ?_ ?_
 ·exact fun u => ⟨0, u, o, p, q, r, rfl, (Ch.base e), (Ch.refl (fun k => e.heap.size ≤ k) e), (by omega), (B ▸ ⟨N, O⟩), (C ▸ ⟨P, Q⟩)⟩
 ·rintro _ E ⟨k, D, h, i, f, d, rfl, F, R, ab, ⟨G, H⟩, ⟨j, w⟩⟩
  have hdl : (a.drop (64 * k)).length = a.length - 64 * k := List.length_drop
  refine wc_seq <| sr ?_
  refine mw (vs f (a.drop (64 * k)).length d) ?_
  refine ln wN slTy_22 j ?_
  refine pu (vb (decide (64 ≤ ((a.drop (64 * k)).length : Int)))) wN ?_
  refine n2 ?_
  rcases bf (decide (64 ≤ ((a.drop (64 * k)).length : Int))) with m | m
  ·have ac := dF m
   refine cf m ?_
   refine wc_exit <| wq_then_exit <| wq_then_exit <| wq_blk_exit <| wq_then <| sr ?_
   refine mw (vs h (foldK b a k).length i) ?_
   refine mw (vs f (a.drop (64 * k)).length d) ?_
   refine aw (vs h (foldK b a k).length i) ?_
   refine aw (vs f (a.drop (64 * k)).length d) ?_
   refine n3 ?_
   refine ret_2 (.inl rfl) (vs h (foldK b a k).length i) (vs f (a.drop (64 * k)).length d) rfl rfl rfl ?_
   refine ⟨F.keep0, ?_⟩
   have S : compAll b a = ((foldK b a k), (a.drop (64 * k))) := by exact compAll_t (by omega) (by omega)
   rw [S]
   exact ⟨_, _, _, _, rfl, G, H, j, w⟩
  have ad := dT m
  refine ct m ?_
  refine wc_skip <| wq_then <| wc_block <| sr ?_
  refine mw (vs h (foldK b a k).length i) ?_
  refine mw (vs f (a.drop (64 * k)).length d) ?_
  refine slv ((a.drop (64 * k)).take 64) 0 64 wN slTy_22 j (by first | omega | (simp <;> omega)) (by first | omega | (simp <;> omega)) (by first | rfl | (simp; done) | (rw [List.take_of_length_le (by first | (simp; done) | (simp; omega))])) rfl rfl rfl rfl (.inl ⟨rfl, rfl⟩) (.inr ⟨_, _, _, rfl, rfl, by omega⟩) ?_
  have T : 0 ≤ 64 := (by first | omega | (simp <;> omega))
  have V : 64 ≤ (a.drop (64 * k)).length := (by first | omega | (simp <;> omega))
  refine cl wN (ciCompress E _ (foldK b a k) (mR_67 G H) _ ((a.drop (64 * k)).take 64) (mR_22 (Rd.subV (x' := ((a.drop (64 * k)).take 64)) j T V (by first | rfl | (simp; done) | (rw [List.take_of_length_le (by first | (simp; done) | (simp; omega))]))) (nT (by simp only [List.length_take, List.length_drop]; omega) w))) ?_
  rintro _ ae ⟨x, ⟨s, t, rfl, W, X, af⟩⟩
  have Y := F.extk x
  refine aw (vs s (compress (foldK b a k) ((a.drop (64 * k)).take 64)).length t) ?_
  refine wl_nil <| wq_then <| wc_region ?_
  refine mw (vs f (a.drop (64 * k)).length d) ?_
  have I := (j.kp x)
  refine slv ((a.drop (64 * k)).drop 64) 64 ((a.drop (64 * k)).length) wN slTy_22 I (by first | omega | (simp <;> omega)) (by first | omega | (simp <;> omega)) (by first | rfl | (simp; done) | (rw [List.take_of_length_le (by first | (simp; done) | (simp; omega))])) rfl rfl rfl rfl (.inr ⟨_, _, _, rfl, rfl, by omega⟩) (.inl ⟨rfl, rfl⟩) ?_
  have Z : 64 ≤ ((a.drop (64 * k)).length) := (by first | omega | (simp <;> omega))
  have aa : ((a.drop (64 * k)).length) ≤ (a.drop (64 * k)).length := (by first | omega | (simp <;> omega))
  refine aw (vs (subA f d 64 1) ((a.drop (64 * k)).drop 64).length (d - 64)) ?_
  refine wl_nil <| wq_blk_normal ?_
  have J : ((compress (foldK b a k) ((a.drop (64 * k)).take 64)) : List Int) = foldK b a (k + 1) := by rfl
  have K : (((a.drop (64 * k)).drop 64) : List UInt8) = a.drop (64 * (k + 1)) := by rw [List.drop_drop]; congr 1
  refine wq_loopP (w0 := E) [(0, (.slice s (foldK b a (k + 1)).length t)), (1, (.slice (subA f d 64 1) (a.drop (64 * (k + 1))).length (d - 64))), (4, (vs none 0 0)), (5, (vs none 0 0))] ?_ ?_ ?_
  · exact ⟨(cA (fun l : List Int => Value.slice s l.length t) J), (cA (fun l : List UInt8 => Value.slice (subA f d 64 1) l.length (d - 64)) K), rfl, rfl, trivial⟩
  · exact fun u => ⟨(k + 1), u, s, t, (subA f d 64 1), (d - 64), rfl, Y, (((Ch.refl (fun k => e.heap.size ≤ k) e).ext R (fun k hk => hk)).extk x), (by omega), (J ▸ ⟨(Rd.of_own W), X⟩), (K ▸ ⟨(Rd.subV (x' := ((a.drop (64 * k)).drop 64)) I Z aa (by first | rfl | (simp; done) | (rw [List.take_of_length_le (by first | (simp; done) | (simp; omega))]))), (nT (by simp only [List.length_take, List.length_drop]; omega) w)⟩)⟩
  · show (a.drop (64 * (k + 1))).length < (a.drop (64 * k)).length; simp only [List.length_drop]; omega

theorem mR_91 {w : World} {x : PHash} {a : Option Addr} {b : Nat} {d : Option Addr} {e : Nat} (f : Rd w 1 (.slice a x.H.length b) x.H.length (x.H.map iV)) (g : x.H.length ≤ 1073741824) (h : Rd w 1 (.slice d x.Held.length e) x.Held.length (x.Held.map bV)) (i : x.Held.length ≤ 1073741824) : R_91 w (va (L_91 x a b d e)) x := ⟨_, _, _, _, rfl, f, g, h, i⟩
theorem mR_87 {w : World} {x : List (List UInt8)} {a : Option Addr} {b : Nat} (d : RLv LT_22 w 1073741824 a x.length b x) (e : x.length ≤ 1073741824) : R_87 w (vs a x.length b) x := ⟨_, _, rfl, d, e⟩
def i_HashAdd (a : PHash) (b : List UInt8) : (PHash) := bif (i_HashOk a) then (bif (decide ((1048576 - a.N) < (b.length : Int))) then (a) else ({ H := (compAll a.H (joinB [a.Held, b])).1, Held := (((compAll a.H (joinB [a.Held, b])).2)), N := (a.N + (b.length : Int)) : PHash })) else (a)
theorem ciHashAdd (K : World) (au : Value) (a : PHash) (aL : R_91 K au a) (av : Value) (b : List UInt8) (aM : R_22 K av b)  : Fn Try.prog 97 #[au, av] K (fun v M => Keep K M ∧ O_91 M K.heap.size v (i_HashAdd a b)) := by
 obtain ⟨d, s, t, u, rfl, ae, af, ah, ai⟩ := aL
 obtain ⟨x, y, rfl, aj, aN⟩ := aM
 refine fn_ofS (n := 50) [(va (L_91 a d s t u)), (vs x b.length y)] Try.func97 rfl rfl ?_
 refine sr ?_
 refine bx (L_91 a d s t u) wN ?_
 intro o A c5 c6 E Q
 refine al [(vs none 0 0), (vs none 0 0), (vi 0)] wN zero_91 ?_
 intro aO aP ax R B ay
 have S := ((Ch.base K).extk E).extk B
 refine n4 ?_
 refine jT1 [(1, (vs x b.length y)), (2, (vp o 0)), (4, (vp aO 0))] (i_HashAdd a b = a) ?_ fun az => ?_
 ·intro aQ F C c7
  have ak := S.extk C
  refine wc_seq ?_
  refine wc_drawT ([(18, [], [], (fun _ v w => ∃ a0 : Addr, v = .slice (some a0) 0 0 ∧ w.ownsRow F.heap.size 3 1 (.slice (some a0) 0 0) 0 [])), (19, [], [], (fun _ v _ => v = (vp o 0))), (20, [], [1], (fun _ v _ => v = (vs d a.H.length s))), (21, [], [0, 1, 2], (fun _ v w => ∃ (d : Option Addr) (g : Nat), v = .slice d a.H.length g ∧ w.ownsRow F.heap.size 3 1 (.slice d a.H.length g) a.H.length (a.H.map iV) ∧ a.H.length ≤ 1073741824 ∧ Aps [(d, g)])), (22, [], [], (fun _ v _ => v = (vp o 1))), (23, [], [4], (fun _ v _ => v = (vs t a.Held.length u))), (24, [21], [0, 1, 2, 3, 4, 5], (fun e v w => ∃ (d : Option Addr) (g : Nat), v = .slice d (a.Held).length g ∧ w.ownsRow (F.heap.size) 5 1 (.slice d (a.Held).length g) (a.Held).length ((a.Held).map bV) ∧ (a.Held).length ≤ 1073741824 ∧ Aps [(d, g)] ∧ Ap (sp (e 21)) (d, g))), (25, [], [], (fun _ v _ => v = (vp o 2))), (26, [], [7], (fun _ v _ => v = (vi a.N)))] : GV) (fun _ M => Keep F M) [] mixed rfl (by kernel_rfl) (by kernel_rfl) ?_ (fun _ _ h => h) (fun _ _ _ _ h _ k => h.trans k) trivial ?_ ?_ ?_
  ·exact ⟨(fun e v w A h hk => by obtain ⟨j, he, l⟩ := h; exact ⟨j, he, own_kp l hk⟩), hE, ⟨hV, hE, ⟨hV, hE, ⟨(fun e v w A h hk => by obtain ⟨j, q, he, l, r, hap⟩ := h; exact ⟨j, q, he, own_kp l hk, r, hap⟩), hE, ⟨hV, hE, ⟨hV, hE, ⟨(fun e v w A h hk => by obtain ⟨j, q, he, l, r, hap, hx⟩ := h; exact ⟨j, q, he, own_kp l hk, r, hap, hx⟩), (fun O P v w hx h => by have aR := hx 21 (by simp); simp only [aR] at h; exact h), ⟨hV, hE, ⟨hV, hE, trivial⟩⟩⟩⟩⟩⟩⟩⟩⟩
  ·exact trivial
  ·refine ⟨?_, ⟨?_, ⟨?_, ⟨?_, ⟨?_, ⟨?_, ⟨?_, ⟨?_, ⟨?_, trivial⟩⟩⟩⟩⟩⟩⟩⟩⟩
   ·intro _ f aS _
    rintro _ _ _ _ _ _ _ _ _
    show WL _ _ _ _ _ _ _
    refine wl_lit0 wN rfl rfl slTy_67 (fun w => by kernel_rfl) ?_
    intro c8 i aT aU
    exact wl_finT aT ⟨_, rfl, own_lo aU aS.size⟩
   ·intro _ f c9 _
    rintro _ _ _ _ _ _ _ _ _
    show WL _ _ _ _ _ _ _
    refine pu (vp o 0) wN ?_
    exact f1
   ·intro _ f aV _
    rintro _ _ rfl _ _ _ _ _ _ _
    show WL _ _ _ _ _ _ _
    have aW := (((Q.kp B).kp C).kp aV)
    refine ld (vs d a.H.length s) wN isAgg_67 aW ?_
    exact f1
   ·intro _ f a1 _
    have aX := ak.extk a1
    rintro _ ⟨cC, rfl, aY⟩ _ rfl _ rfl _ _ _ _ _ _
    show WL _ _ _ _ _ _ _
    refine ap0I a.H wN slTy_67 aY (ae.from0 aX) a1.size ?_
    intro cD cE i aZ ba cF
    exact wl_finT aZ ⟨_, _, rfl, ba, af, ⟨trivial, trivial⟩⟩
   ·intro _ f cG _
    rintro _ _ _ _ _ _ _ _ _
    show WL _ _ _ _ _ _ _
    refine pu (vp o 1) wN ?_
    exact f1
   ·intro _ f bb _
    rintro _ _ _ _ _ rfl _ _ _ _
    show WL _ _ _ _ _ _ _
    have bc := (((Q.kp B).kp C).kp bb)
    refine ld (vs t a.Held.length u) wN isAgg_22 bc ?_
    exact f1
   ·intro _ f a2 _
    have bd := ak.extk a2
    rintro _ ⟨cH, rfl, cI⟩ _ rfl _ rfl _ ⟨cJ, cK, rfl, be, cL, -⟩ _ rfl _ rfl _ _ _
    show WL _ _ _ _ _ _ _
    refine cl wN (ciclone f _ a.Held (mR_22 (ah.from0 bd) ai)) ?_
    rintro _ i ⟨bg, ⟨cM, cN, rfl, a3, bh, bi⟩⟩
    exact wl_finT bg ⟨_, _, rfl, (own_lo a3 a2.size), bh, bi, (Ap.lt be a3 (Nat.le_refl _))⟩
   ·intro _ f cO _
    rintro _ _ _ _ _ _ _ _ _
    show WL _ _ _ _ _ _ _
    refine pu (vp o 2) wN ?_
    exact f1
   ·intro _ f bj _
    rintro _ _ _ _ _ _ _ _ rfl _
    show WL _ _ _ _ _ _ _
    have bk := (((Q.kp B).kp C).kp bj)
    refine ld (vi a.N) wN isAgg_3 bk ?_
    exact f1
  ·intro _ f a4
   rintro _ ⟨cP, rfl, cQ⟩ _ rfl _ rfl _ ⟨T, V, rfl, a5, bl, -⟩ _ rfl _ rfl _ ⟨W, X, rfl, a6, bm, cR, bn⟩ _ rfl _ rfl
   show WL _ _ _ _ _ _ _
   refine pu (va (L_91 a T V W X)) wN ?_
   have bo := ((ay.kp C).kp a4)
   refine sv (L_91 a T V W X) wN sizeOf_91 bo ?_
   intro i am bp cS
   have bq := (ak.extk a4).ext am (fun k hk => by subst hk; exact nT E.size ax)
   refine n1 ?_
   have br := (own_ch a5 am (ne1 a5 (nL R C.size)))
   have bu := (own_ch a6 am (ne1 a6 (nL R C.size)))
   refine ret_1 (.inl rfl) (va (L_91 a T V W X)) rfl (rv_c (L_91 a T V W X) rfl bp isAgg_91 sizeOf_91) ?_
   refine ⟨bq.keep0, ?_⟩
   rw [aQ]
   exact ⟨_, _, _, _, rfl, (own_lo br (z3 E B C)), bl, (own_lo bu (z3 E B C)), bm, ⟨⟨bn, trivial⟩, ⟨trivial, trivial⟩⟩⟩
 have a7 := (Q.kp B)
 refine lN (L_91 a d s t u) wN isAgg_91 sizeOf_91 a7 ?_
 refine cl wN (ciHashOk aP _ a (mR_91 (ae.from0 S) af (ah.from0 S) ai)) ?_
 rintro _ F ⟨D, rfl⟩
 have Y := S.extk D
 refine pu (vb (!(i_HashOk a))) wN ?_
 refine mw (vb (!(i_HashOk a))) ?_
 rcases bf (i_HashOk a) with p | p
 ·iterate 6 refine sk (cA not p) ?_
  refine pk (vb true) wN (cA not p) ?_
  refine n2 ?_
  refine ct (Eq.refl true) ?_
  have bv : i_HashAdd a b = a := by simp only [i_HashAdd, p, cond_true, cond_false]
  exact wj (az bv _ D)
 have cT := hashOk_t p
 refine mv (vs x b.length y) (wS (cA not p)) ?_
 refine ln (wS (cA not p)) slTy_22 (aj.from0 Y) ?_
 refine pu (vp o 2) (wS (cA not p)) ?_
 have Z := (a7.kp D)
 refine ld (vi a.N) (wS (cA not p)) isAgg_3 Z ?_
 refine ar (1048576 - a.N) (wS (cA not p)) ?_
 refine pu (vb (decide ((1048576 - a.N) < (b.length : Int)))) (wS (cA not p)) ?_
 refine pf (vb (decide ((1048576 - a.N) < (b.length : Int)))) wN (cA not p) ?_
 refine n2 ?_
 rcases bt (decide ((1048576 - a.N) < (b.length : Int))) with G | G
 ·have cU := dT G
  refine ct G ?_
  have bw : i_HashAdd a b = a := by simp only [i_HashAdd, p, G, cond_true, cond_false]
  exact wj (az bw _ D)
 have cV := dF G
 refine cf G ?_
 refine wc_skip <| wq_then <| wc_seq ?_
 refine wc_draw ([(29, [], [], (fun _ v _ => v = (vp o 0))), (30, [], [0], (fun _ v _ => v = (vs d a.H.length s))), (31, [], [], (fun _ v _ => v = (vp o 1))), (32, [], [2], (fun _ v _ => v = (vs t a.Held.length u))), (33, [], [], (fun _ v _ => v = (vs x b.length y))), (34, [], [2, 3, 4], (fun _ v w => ∃ (d : Option Addr) (g : Nat), v = .slice d 2 g ∧ w.ownsRow F.heap.size 22 1 (.slice d 2 g) 2 [(vs t a.Held.length u), (vs x b.length y)])), (35, [], [2, 3, 4, 5], (fun _ v w => ∃ (d : Option Addr) (g : Nat), v = .slice d (joinB [a.Held, b]).length g ∧ w.ownsRow (F.heap.size) 5 1 (.slice d (joinB [a.Held, b]).length g) (joinB [a.Held, b]).length ((joinB [a.Held, b]).map bV) ∧ (joinB [a.Held, b]).length ≤ 1073741824 ∧ Aps [(d, g)])), (36, [], [0, 1, 2, 3, 4, 5, 6], (fun _ v w => ∃ (d : Option Addr) (g : Nat) (a8 : Option Addr) (s : Nat), v = .tuple #[.slice d ((compAll a.H (joinB [a.Held, b])).1).length g, .slice a8 ((compAll a.H (joinB [a.Held, b])).2).length s] ∧ Rd w 1 (.slice d ((compAll a.H (joinB [a.Held, b])).1).length g) ((compAll a.H (joinB [a.Held, b])).1).length (((compAll a.H (joinB [a.Held, b])).1).map iV) ∧ ((compAll a.H (joinB [a.Held, b])).1).length ≤ 1073741824 ∧ Rd w 1 (.slice a8 ((compAll a.H (joinB [a.Held, b])).2).length s) ((compAll a.H (joinB [a.Held, b])).2).length (((compAll a.H (joinB [a.Held, b])).2).map bV) ∧ ((compAll a.H (joinB [a.Held, b])).2).length ≤ 1073741824)), (28, [36], [0, 1, 2, 3, 4, 5, 6, 7], (fun e v _ => v = (.tuple #[(tupAt (e 36) 0), (tupAt (e 36) 1)]))), (37, [36], [0, 1, 2, 3, 4, 5, 6, 7, 8], (fun e v _ => v = (tupAt (e 36) 0))), (38, [36], [0, 1, 2, 3, 4, 5, 6, 7, 8], (fun e v _ => v = (tupAt (e 36) 1))), (5, [36], [0, 1, 2, 3, 4, 5, 6, 7, 8, 9], (fun e v _ => v = (tupAt (e 36) 0)))] : GV) mixed rfl (by kernel_rfl) (by kernel_rfl) ?_ ?_ ?_
 ·exact ⟨hV, hE, ⟨hV, hE, ⟨hV, hE, ⟨hV, hE, ⟨hV, hE, ⟨(fun e v w A h hk => by obtain ⟨j, q, he, l⟩ := h; exact ⟨j, q, he, own_kp l hk⟩), hE, ⟨(fun e v w A h hk => by obtain ⟨j, q, he, l, r, hap⟩ := h; exact ⟨j, q, he, own_kp l hk, r, hap⟩), hE, ⟨(fun e v w A h hk => by obtain ⟨j, q, bz, b0, he, l, r, b1, b2⟩ := h; exact ⟨j, q, bz, b0, he, Rd.kp l hk, r, Rd.kp b1 hk, b2⟩), hE, ⟨hV, (fun O P v w hx h => by have I := hx 36 (by simp); simp only [I] at h; exact h), ⟨hV, (fun O P v w hx h => by have I := hx 36 (by simp); simp only [I] at h; exact h), ⟨hV, (fun O P v w hx h => by have I := hx 36 (by simp); simp only [I] at h; exact h), ⟨hV, (fun O P v w hx h => by have I := hx 36 (by simp); simp only [I] at h; exact h), trivial⟩⟩⟩⟩⟩⟩⟩⟩⟩⟩⟩⟩
 ·refine ⟨?_, ⟨?_, ⟨?_, ⟨?_, ⟨?_, ⟨?_, ⟨?_, ⟨?_, ⟨?_, ⟨?_, ⟨?_, ⟨?_, trivial⟩⟩⟩⟩⟩⟩⟩⟩⟩⟩⟩⟩
  ·intro f cW
   rintro _ _ _ _ _ _ _ _ _ _ _ _
   show WL _ _ _ _ _ _ _
   refine pu (vp o 0) wN ?_
   exact f2
  ·intro f b3
   rintro _ rfl _ _ _ _ _ _ _ _ _ _ _
   show WL _ _ _ _ _ _ _
   have b4 := (Z.kp b3)
   refine ld (vs d a.H.length s) wN isAgg_67 b4 ?_
   exact f2
  ·intro f cX
   rintro _ _ _ _ _ _ _ _ _ _ _ _
   show WL _ _ _ _ _ _ _
   refine pu (vp o 1) wN ?_
   exact f2
  ·intro f b5
   rintro _ _ _ rfl _ _ _ _ _ _ _ _ _
   show WL _ _ _ _ _ _ _
   have b6 := (Z.kp b5)
   refine ld (vs t a.Held.length u) wN isAgg_22 b6 ?_
   exact f2
  ·intro f cY
   rintro _ _ _ _ _ _ _ _ _ _ _ _
   show WL _ _ _ _ _ _ _
   refine mw (vs x b.length y) ?_
   exact f2
  ·intro f b7
   rintro _ _ _ rfl _ rfl _ rfl _ _ _ _ _ _ _
   show WL _ _ _ _ _ _ _
   refine wl_lit [(vs t a.Held.length u), (vs x b.length y)] wN rfl rfl slTy_87 (m := 2) rfl (by simp only [maxLen]; omega) (fun w => by kernel_rfl) ?_
   intro cZ i b8 a9
   obtain ⟨da, db, rfl⟩ := own_form a9
   exact wl_fin b8 ⟨_, _, rfl, own_lo a9 b7.size⟩
  ·intro f aA
   have aB := Y.extk aA
   rintro _ _ _ rfl _ rfl _ rfl _ ⟨dc, dd, rfl, b9⟩ _ _ _ _ _ _
   show WL _ _ _ _ _ _ _
   refine cl wN (cijoined f _ [a.Held, b] (mR_87 (RLv.mk (L := LT_22) [(a.Held, [(t, u)]), (b, [(x, y)])] (Rd.of_own b9) rfl ⟨⟨⟨(ah.from0 aB), ai⟩, trivial⟩, ⟨⟨⟨(aj.from0 aB), aN⟩, trivial⟩, trivial⟩⟩ (by first | decide | exact Nat.le_of_ble_eq_true rfl)) (by first | decide | exact Nat.le_of_ble_eq_true rfl)) (by first | omega | (rw [joinB_l2]; omega) | (rw [joinB_l2]; simp only [List.length_cons, List.length_nil, maskB_len]; omega) | (rw [joinB_l3]; simp only [List.length_cons, List.length_nil, maskB_len]; omega) | (simp only [joinB, List.flatten_cons, List.flatten_nil, List.length_append, List.length_cons, List.length_nil, maskB_len]; omega))) ?_
   rintro _ i ⟨bA, ⟨de, df, rfl, bB, bC, bD⟩⟩
   have dg := (show (joinB [a.Held, b]).length = a.Held.length + b.length by simp only [joinB, List.flatten_cons, List.flatten_nil, List.length_append, List.length_cons, List.length_nil]; omega)
   exact wl_fin bA ⟨_, _, rfl, (own_lo bB aA.size), bC, bD⟩
  ·intro f bE
   have bF := Y.extk bE
   rintro _ rfl _ rfl _ rfl _ rfl _ rfl _ ⟨dh, di, rfl, dj⟩ _ ⟨dk, dl, rfl, bG, bH, dm⟩
   have dn := (show (joinB [a.Held, b]).length = a.Held.length + b.length by simp only [joinB, List.flatten_cons, List.flatten_nil, List.length_append, List.length_cons, List.length_nil]; omega)
   rintro _ _ _ _ _
   show WL _ _ _ _ _ _ _
   refine cl wN (cicompressAll f _ a.H (mR_67 (ae.from0 bF) af) _ (joinB [a.Held, b]) (mR_22 (Rd.of_own bG) bH)) ?_
   rintro _ i ⟨bI, ⟨dp, dq, dr, ds, rfl, bJ, bK, bL, bM⟩⟩
   exact wl_fin bI ⟨_, _, _, _, rfl, bJ, bK, bL, bM⟩
  ·intro f dt
   rintro _ rfl _ rfl _ rfl _ rfl _ rfl _ ⟨du, dv, rfl, dw⟩ _ ⟨dx, dy, rfl, _⟩
   have dz := (show (joinB [a.Held, b]).length = a.Held.length + b.length by simp only [joinB, List.flatten_cons, List.flatten_nil, List.length_append, List.length_cons, List.length_nil]; omega)
   rintro _ ⟨bN, bO, bP, bQ, rfl, _⟩ _ _ _ _
   show WL _ _ _ _ _ _ _
   refine mw (.tuple #[(vs bN ((compAll a.H (joinB [a.Held, b])).1).length bO), (vs bP ((compAll a.H (joinB [a.Held, b])).2).length bQ)]) ?_
   exact f2
  ·intro f d0
   rintro _ rfl _ rfl _ rfl _ rfl _ rfl _ ⟨d1, d2, rfl, d3⟩ _ ⟨d4, d5, rfl, _⟩
   have d6 := (show (joinB [a.Held, b]).length = a.Held.length + b.length by simp only [joinB, List.flatten_cons, List.flatten_nil, List.length_append, List.length_cons, List.length_nil]; omega)
   rintro _ ⟨bR, bS, d7, d8, rfl, _⟩ _ rfl _ _ _
   show WL _ _ _ _ _ _ _
   refine pu (vs bR ((compAll a.H (joinB [a.Held, b])).1).length bS) wN ?_
   exact f2
  ·intro f d9
   rintro _ rfl _ rfl _ rfl _ rfl _ rfl _ ⟨dA, dB, rfl, dC⟩ _ ⟨dD, dE, rfl, _⟩
   have dG := (show (joinB [a.Held, b]).length = a.Held.length + b.length by simp only [joinB, List.flatten_cons, List.flatten_nil, List.length_append, List.length_cons, List.length_nil]; omega)
   rintro _ ⟨dH, dI, bT, bU, rfl, _⟩ _ rfl _ _ _
   show WL _ _ _ _ _ _ _
   refine pu (vs bT ((compAll a.H (joinB [a.Held, b])).2).length bU) wN ?_
   exact f2
  ·intro f dJ
   rintro _ rfl _ rfl _ rfl _ rfl _ rfl _ ⟨dK, dL, rfl, dM⟩ _ ⟨dN, dO, rfl, _⟩
   have dP := (show (joinB [a.Held, b]).length = a.Held.length + b.length by simp only [joinB, List.flatten_cons, List.flatten_nil, List.length_append, List.length_cons, List.length_nil]; omega)
   rintro _ ⟨bW, bX, dQ, dR, rfl, _⟩ _ rfl _ rfl _ _
   show WL _ _ _ _ _ _ _
   refine aw (vs bW ((compAll a.H (joinB [a.Held, b])).1).length bX) ?_
   exact f2
 ·intro f J
  have aC := Y.extk J
  rintro _ rfl _ rfl _ rfl _ rfl _ rfl _ ⟨dS, dU, rfl, dV⟩ _ ⟨dW, dX, rfl, _⟩
  have dY := (show (joinB [a.Held, b]).length = a.Held.length + b.length by simp only [joinB, List.flatten_cons, List.flatten_nil, List.length_append, List.length_cons, List.length_nil]; omega)
  rintro _ ⟨aD, aE, an, ao, rfl, bY, bZ, ca, cb⟩ _ rfl _ rfl _ rfl _ rfl
  show WL _ _ _ _ _ _ _
  refine aw (vs an ((compAll a.H (joinB [a.Held, b])).2).length ao) ?_
  refine wl_nil <| wq_then <| wc_seq ?_
  refine wc_drawT ([(39, [], [], (fun _ v w => ∃ a0 : Addr, v = .slice (some a0) 0 0 ∧ w.ownsRow f.heap.size 3 1 (.slice (some a0) 0 0) 0 [])), (40, [], [], (fun _ v _ => v = (vs aD ((compAll a.H (joinB [a.Held, b])).1).length aE))), (41, [], [0, 1], (fun _ v w => ∃ (d : Option Addr) (g : Nat), v = .slice d ((compAll a.H (joinB [a.Held, b])).1).length g ∧ w.ownsRow f.heap.size 3 1 (.slice d ((compAll a.H (joinB [a.Held, b])).1).length g) ((compAll a.H (joinB [a.Held, b])).1).length (((compAll a.H (joinB [a.Held, b])).1).map iV) ∧ ((compAll a.H (joinB [a.Held, b])).1).length ≤ 1073741824 ∧ Aps [(d, g)])), (42, [], [], (fun _ v _ => v = (vs an ((compAll a.H (joinB [a.Held, b])).2).length ao))), (43, [41], [0, 1, 2, 3], (fun e v w => ∃ (d : Option Addr) (g : Nat), v = .slice d (((compAll a.H (joinB [a.Held, b])).2)).length g ∧ w.ownsRow (f.heap.size) 5 1 (.slice d (((compAll a.H (joinB [a.Held, b])).2)).length g) (((compAll a.H (joinB [a.Held, b])).2)).length ((((compAll a.H (joinB [a.Held, b])).2)).map bV) ∧ (((compAll a.H (joinB [a.Held, b])).2)).length ≤ 1073741824 ∧ Aps [(d, g)] ∧ Ap (sp (e 41)) (d, g))), (44, [], [], (fun _ v _ => v = (vp o 2))), (45, [], [5], (fun _ v _ => v = (vi a.N))), (46, [], [], (fun _ v _ => v = (vs x b.length y))), (47, [], [7], (fun _ v _ => v = (vi (b.length : Int)))), (48, [], [5, 6, 7, 8], (fun _ v _ => v = (vi (a.N + (b.length : Int)))))] : GV) (fun _ M => Keep f M) [] mixed rfl (by kernel_rfl) (by kernel_rfl) ?_ (fun _ _ h => h) (fun _ _ _ _ h _ k => h.trans k) trivial ?_ ?_ ?_
  ·exact ⟨(fun e v w A h hk => by obtain ⟨j, he, l⟩ := h; exact ⟨j, he, own_kp l hk⟩), hE, ⟨hV, hE, ⟨(fun e v w A h hk => by obtain ⟨j, q, he, l, r, hap⟩ := h; exact ⟨j, q, he, own_kp l hk, r, hap⟩), hE, ⟨hV, hE, ⟨(fun e v w A h hk => by obtain ⟨j, q, he, l, r, hap, hx⟩ := h; exact ⟨j, q, he, own_kp l hk, r, hap, hx⟩), (fun O P v w hx h => by have cc := hx 41 (by simp); simp only [cc] at h; exact h), ⟨hV, hE, ⟨hV, hE, ⟨hV, hE, ⟨hV, hE, ⟨hV, hE, trivial⟩⟩⟩⟩⟩⟩⟩⟩⟩⟩
  ·exact trivial
  ·refine ⟨?_, ⟨?_, ⟨?_, ⟨?_, ⟨?_, ⟨?_, ⟨?_, ⟨?_, ⟨?_, ⟨?_, trivial⟩⟩⟩⟩⟩⟩⟩⟩⟩⟩
   ·intro _ i cd _
    rintro _ _ _ _ _ _ _ _ _ _
    show WL _ _ _ _ _ _ _
    refine wl_lit0 wN rfl rfl slTy_67 (fun w => by kernel_rfl) ?_
    intro dZ ap ce cg
    exact wl_finT ce ⟨_, rfl, own_lo cg cd.size⟩
   ·intro _ i ea _
    rintro _ _ _ _ _ _ _ _ _ _
    show WL _ _ _ _ _ _ _
    refine mw (vs aD ((compAll a.H (joinB [a.Held, b])).1).length aE) ?_
    exact f1
   ·intro _ i aF _
    rintro _ ⟨ec, rfl, ci⟩ _ rfl _ _ _ _ _ _ _ _
    show WL _ _ _ _ _ _ _
    have cj := (bY.kp aF)
    refine ap0I ((compAll a.H (joinB [a.Held, b])).1) wN slTy_67 ci cj aF.size ?_
    intro ed ee ap ck cm ef
    exact wl_finT ck ⟨_, _, rfl, cm, bZ, ⟨trivial, trivial⟩⟩
   ·intro _ i eg _
    rintro _ _ _ _ _ _ _ _ _ _
    show WL _ _ _ _ _ _ _
    refine mw (vs an ((compAll a.H (joinB [a.Held, b])).2).length ao) ?_
    exact f1
   ·intro _ i aG _
    rintro _ ⟨eh, rfl, ej⟩ _ rfl _ ⟨ek, em, rfl, cn, en, -⟩ _ rfl _ _ _ _ _ _
    show WL _ _ _ _ _ _ _
    have co := (ca.kp aG)
    refine cl wN (ciclone i _ ((compAll a.H (joinB [a.Held, b])).2) (mR_22 co cb)) ?_
    rintro _ ap ⟨cp, ⟨eo, ep, rfl, aH, cq, cr⟩⟩
    exact wl_finT cp ⟨_, _, rfl, (own_lo aH aG.size), cq, cr, (Ap.lt cn aH (Nat.le_refl _))⟩
   ·intro _ i er _
    rintro _ _ _ _ _ _ _ _ _ _
    show WL _ _ _ _ _ _ _
    refine pu (vp o 2) wN ?_
    exact f1
   ·intro _ i cs _
    rintro _ _ _ _ _ _ rfl _ _ _ _
    show WL _ _ _ _ _ _ _
    have cu := ((Z.kp J).kp cs)
    refine ld (vi a.N) wN isAgg_3 cu ?_
    exact f1
   ·intro _ i es _
    rintro _ _ _ _ _ _ _ _ _ _
    show WL _ _ _ _ _ _ _
    refine mw (vs x b.length y) ?_
    exact f1
   ·intro _ i cv _
    have cw := aC.extk cv
    rintro _ _ _ _ _ _ _ _ rfl _ _
    show WL _ _ _ _ _ _ _
    refine ln wN slTy_22 (aj.from0 cw) ?_
    exact f1
   ·intro _ i et _
    rintro _ _ _ _ _ _ rfl _ rfl _ rfl _ rfl _
    show WL _ _ _ _ _ _ _
    refine ar (a.N + (b.length : Int)) wN ?_
    exact f1
  ·intro _ i aI
   rintro _ ⟨eu, rfl, ew⟩ _ rfl _ ⟨aa, ab, rfl, aJ, cx, -⟩ _ rfl _ ⟨ac, ad, rfl, aK, cy, ex, cz⟩ _ rfl _ rfl _ rfl _ rfl _ rfl
   show WL _ _ _ _ _ _ _
   refine pu (va [(vs aa ((compAll a.H (joinB [a.Held, b])).1).length ab), (vs ac (((compAll a.H (joinB [a.Held, b])).2)).length ad), (vi (a.N + (b.length : Int)))]) wN ?_
   have c0 := (((ay.kp D).kp J).kp aI)
   refine sv [(vs aa ((compAll a.H (joinB [a.Held, b])).1).length ab), (vs ac (((compAll a.H (joinB [a.Held, b])).2)).length ad), (vi (a.N + (b.length : Int)))] wN sizeOf_91 c0 ?_
   intro ap aq c1 ey
   have c2 := (aC.extk aI).ext aq (fun k hk => by subst hk; exact nT E.size ax)
   refine n3 ?_
   have c3 := (own_ch aJ aq (ne1 aJ (nL R (z2 D J))))
   have c4 := (own_ch aK aq (ne1 aK (nL R (z2 D J))))
   refine ret_1 (.inl rfl) (va [(vs aa ((compAll a.H (joinB [a.Held, b])).1).length ab), (vs ac (((compAll a.H (joinB [a.Held, b])).2)).length ad), (vi (a.N + (b.length : Int)))]) rfl (rv_c [(vs aa ((compAll a.H (joinB [a.Held, b])).1).length ab), (vs ac (((compAll a.H (joinB [a.Held, b])).2)).length ad), (vi (a.N + (b.length : Int)))] rfl c1 isAgg_91 sizeOf_91) ?_
   refine ⟨c2.keep0, ?_⟩
   simp only [i_HashAdd, p, G, cond_true, cond_false]
   exact ⟨_, _, _, _, rfl, (own_lo c3 (z4 E B D J)), cx, (own_lo c4 (z4 E B D J)), cy, ⟨⟨cz, trivial⟩, ⟨trivial, trivial⟩⟩⟩

theorem ciPutN (e : World) (B : Value) (d : List UInt8) (S : R_22 e B d) (b : Int) (a : Int) (aj : d.length ≤ 1000000) : Fn Try.prog 82 #[B, (vi b), (vi a)] e (fun v o => Keep e o ∧ O_22 o e.heap.size v (putN d b a)) := by
 obtain ⟨C, D, rfl, T, E⟩ := S
 refine fn_ofS (n := 35) [(vs C d.length D), (vi b), (vi a)] Try.func82 rfl rfl ?_
 refine sr ?_
 refine aw (vs none 0 0) ?_
 refine nx ?_
 refine wl_lit0 wN rfl rfl slTy_22 (fun w => by kernel_rfl) ?_
 intro ak am y V
 have F := (Ch.base e).extk y
 refine mw (vs C d.length D) ?_
 refine ap0 d wN slTy_22 V (T.from0 F) y.size ?_
 intro f g A G H an
 have I := F.extk G
 refine aw (vs f d.length g) ?_
 refine n4 ?_
 refine jT1 [(1, (vi b)), (2, (vi a)), (6, (vs none 0 0)), (7, (vs f d.length g))] (putN d b a = d) ?_ fun J => ?_
 ·intro W K L ao
  have X := I.extk L
  refine sr ?_
  refine mw (vs f d.length g) ?_
  refine aw (vs f d.length g) ?_
  refine n1 ?_
  have Y := (own_kp H L)
  refine rt (vs f d.length g) ?_
  refine ⟨X.keep0, ?_⟩
  rw [W]
  exact ⟨_, _, rfl, Y, E, ⟨trivial, trivial⟩⟩
 refine mw (vi a) ?_
 refine pu (vb (decide (a < 1))) wN ?_
 refine mw (vb (decide (a < 1))) ?_
 rcases bt (decide (a < 1)) with h | h
 ·have ap := dT h
  iterate 2 refine sk h ?_
  refine pk (vb true) wN h ?_
  refine n2 ?_
  refine ct (Eq.refl true) ?_
  have Z : putN d b a = d := by first | exact putN_out (by omega) | exact putN_end (by omega) (by omega) (by omega)
  exact wj (J Z _ (Ch.refl _ _))
 have aq := dF h
 refine mv (vi a) (wS h) ?_
 refine pu (vb (decide (6 < a))) (wS h) ?_
 refine pf (vb (decide (6 < a))) wN h ?_
 refine n2 ?_
 rcases bt (decide (6 < a)) with p | p
 ·have au := dT p
  refine ct p ?_
  have aa : putN d b a = d := by first | exact putN_out (by omega) | exact putN_end (by omega) (by omega) (by omega)
  exact wj (J aa _ (Ch.refl _ _))
 have av := dF p
 refine cf p ?_
 refine y2 ?_
 refine mw (vi a) ?_
 refine ar (a - 1) wN ?_
 refine aw (vi (a - 1)) ?_
 refine wl_nil <| wq_then <| wc_block ?_
 have M : (d : List UInt8) = d ++ putK b a 0 := by simp [putK]
 refine wc_loopP [(1, (vi b)), (6, (vs none 0 0)), (7, (.slice f (d ++ putK b a 0).length g)), (8, (vi (a - 1 - ((0 : Nat) : Int))))] ⟨rfl, rfl, (cA (fun l : List UInt8 => Value.slice f l.length g) M), (cA (Value.int .i64) (show ((a - 1) : Int) = (a - 1 - ((0 : Nat) : Int)) by omega)), trivial⟩ (fun e' o => ∃ (j : Nat) (N : Env) (i : Option Addr) (m : Nat), e' = pt N [(1, (vi b)), (6, (vs none 0 0)), (7, (.slice i (d ++ putK b a j).length m)), (8, (vi (a - 1 - ((j : Nat) : Int))))] ∧ Ch (fun k => e.heap.size ≤ k) e o ∧ Ch (fun k => e.heap.size ≤ k) A o ∧ ((j : Nat) : Int) ≤ a ∧ (World.ownsRow o e.heap.size 5 1 (.slice i (d ++ putK b a j).length m) (d ++ putK b a j).length ((d ++ putK b a j).map bV) ∧ (d ++ putK b a j).length ≤ 1073741824)) (fun e' _ => ((intOf (e' 8)) + 1).toNat) ?_ ?_
 ·exact fun u => ⟨0, u, f, g, rfl, I, (Ch.refl (fun k => e.heap.size ≤ k) A), (by omega), (M ▸ ⟨H, E⟩)⟩
 ·rintro _ K ⟨j, N, i, m, rfl, O, P, ax, ⟨r, ab⟩⟩
  have hpl := putK_len b a j
  refine wc_seq <| sr ?_
  refine mw (vi (a - 1 - ((j : Nat) : Int))) ?_
  refine pu (vb (decide (0 ≤ (a - 1 - ((j : Nat) : Int))))) wN ?_
  refine n2 ?_
  rcases bf (decide (0 ≤ (a - 1 - ((j : Nat) : Int)))) with q | q
  ·have ay := dF q
   refine cf q ?_
   refine wc_exit <| wq_then_exit <| wq_then_exit <| wq_blk_exit <| wq_then <| sr ?_
   refine mw (vs i (d ++ putK b a j).length m) ?_
   refine aw (vs i (d ++ putK b a j).length m) ?_
   refine n3 ?_
   refine rt (vs i (d ++ putK b a j).length m) ?_
   refine ⟨O.keep0, ?_⟩
   have ac : putN d b a = (d ++ putK b a j) := by first | exact putN_out (by omega) | exact putN_end (by omega) (by omega) (by omega)
   rw [ac]
   exact ⟨_, _, rfl, r, ab, ⟨trivial, trivial⟩⟩
  have az := dT q
  refine ct q ?_
  refine wc_skip <| wq_then <| wc_seq <| wc_block <| wc_region ?_
  refine mw (vs i (d ++ putK b a j).length m) ?_
  refine mw (vi b) ?_
  refine mw (vi (a - 1 - ((j : Nat) : Int))) ?_
  refine ar (8 * (a - 1 - ((j : Nat) : Int))) wN ?_
  refine wl_shr b (8 * (a - 1 - ((j : Nat) : Int))) wN rfl rfl rfl rfl rfl (by omega) (by omega) ?_
  refine wl_and (b / (2 : Int) ^ ((8 * (a - 1 - ((j : Nat) : Int)))).toNat) 255 256 8 wN rfl rfl (by decide) (by decide) (by decide) (by kernel_rfl) ?_
  refine wl_conv8 ((b / (2 : Int) ^ ((8 * (a - 1 - ((j : Nat) : Int)))).toNat) % 256) wN rfl rfl (by kernel_rfl) ?_
  refine ltB ([(by8 ((b / (2 : Int) ^ ((8 * (a - 1 - ((j : Nat) : Int)))).toNat) % 256))] : List UInt8) wN slTy_22 ?_
  intro a0 a1 a2 s ad
  have ae := (own_kp r s)
  refine apB (d ++ putK b a j) ([(by8 ((b / (2 : Int) ^ ((8 * (a - 1 - ((j : Nat) : Int)))).toNat) % 256))] : List UInt8) wN slTy_22 ae (Rd.of_own ad) (z4 y G P s) ?_
  intro t x a3 Q af a4 ah
  have ai := (O.extk s).ext Q (fun k hk => nT (Nat.le_refl e.heap.size) (own_lt r k hk).1)
  refine aw (vs t ((d ++ putK b a j) ++ ([(by8 ((b / (2 : Int) ^ ((8 * (a - 1 - ((j : Nat) : Int)))).toNat) % 256))] : List UInt8)).length x) ?_
  refine wl_nil <| wq_blk_normal <| wq_then <| wc_region ?_
  refine mw (vi (a - 1 - ((j : Nat) : Int))) ?_
  refine ar ((a - 1 - ((j : Nat) : Int)) - 1) wN ?_
  refine aw (vi ((a - 1 - ((j : Nat) : Int)) - 1)) ?_
  refine wl_nil ?_
  have R : (((d ++ putK b a j) ++ ([(by8 ((b / (2 : Int) ^ ((8 * (a - 1 - ((j : Nat) : Int)))).toNat) % 256))] : List UInt8)) : List UInt8) = d ++ putK b a (j + 1) := by simp [putK]
  refine wq_loopP (w0 := K) [(1, (vi b)), (6, (vs none 0 0)), (7, (.slice t (d ++ putK b a (j + 1)).length x)), (8, (vi (a - 1 - (((j + 1) : Nat) : Int))))] ?_ ?_ ?_
  · exact ⟨rfl, rfl, (cA (fun l : List UInt8 => Value.slice t l.length x) R), (cA (Value.int .i64) (show (((a - 1 - ((j : Nat) : Int)) - 1) : Int) = (a - 1 - (((j + 1) : Nat) : Int)) by omega)), trivial⟩
  · exact fun u => ⟨(j + 1), u, t, x, rfl, ai, ((((Ch.refl (fun k => e.heap.size ≤ k) A).ext P (fun k hk => hk)).extk s).ext Q (fun k hk => nT (Nat.le_refl e.heap.size) (own_lt r k hk).1)), (by omega), (R ▸ ⟨af, ah⟩)⟩
  · show ((a - 1 - (((j + 1) : Nat) : Int)) + 1).toNat < ((a - 1 - ((j : Nat) : Int)) + 1).toNat; omega

theorem ciPad (b : World) (a : Int)  : Fn Try.prog 105 #[(vi a)] b (fun v d => Keep b d ∧ O_22 d b.heap.size v (padP a)) := by
 refine fn_ofS (n := 25) [(vi a)] Try.func105 rfl rfl ?_
 refine sr ?_
 refine aw (vs none 0 0) ?_
 refine n4 ?_
 refine mw (vi a) ?_
 refine cl wN (ciwithin b a 0 1048576) ?_
 rintro _ h ⟨o, rfl⟩
 have B := (Ch.base b).extk o
 refine pu (vb (!(i_within a 0 1048576))) wN ?_
 refine n2 ?_
 rcases bf (i_within a 0 1048576) with i | i
 ·have aj := impl_within_f i
  refine ct (cA not i) ?_
  refine sr ?_
  refine aw (vs none 0 0) ?_
  refine n1 ?_
  refine rt (vs none 0 0) ?_
  refine ⟨B.keep0, ?_⟩
  have N : padP a = [] := by first | exact padP_f (by omega) | exact padP_i (by omega) (by omega) (by omega) (by omega)
  rw [N]
  exact ⟨_, _, rfl, (by first | exact own_nil _ _ _ _ | exact OLv.nil _ _ _ _), (by simp), ⟨trivial, trivial⟩⟩
 have ak := impl_within_t i
 refine cf (cA not i) ?_
 refine y1 ?_
 refine ltB ([128] : List UInt8) wN slTy_22 ?_
 intro p q A r O
 have P := B.extk r
 refine aw (vs p ([128] : List UInt8).length q) ?_
 refine wl_nil <| wq_then <| wc_seq <| wc_block ?_
 have C : (([128] : List UInt8) : List UInt8) = [(128 : UInt8)] ++ List.replicate 0 (0 : UInt8) := by first | rfl | (rw [List.replicate_succ', List.append_assoc])
 refine wc_loopP [(0, (vi a)), (2, (vs none 0 0)), (3, (.slice p ([(128 : UInt8)] ++ List.replicate 0 (0 : UInt8)).length q))] ⟨rfl, rfl, (cA (fun l : List UInt8 => Value.slice p l.length q) C), trivial⟩ (fun e' d => ∃ (j : Nat) (D : Env) (e : Option Addr) (f : Nat), e' = pt D [(0, (vi a)), (2, (vs none 0 0)), (3, (.slice e ([(128 : UInt8)] ++ List.replicate j (0 : UInt8)).length f))] ∧ Ch (fun k => b.heap.size ≤ k) b d ∧ Ch (fun k => h.heap.size ≤ k) A d ∧ ((j : Nat) : Int) ≤ (64 - (a + 9) % 64) % 64 ∧ (World.ownsRow d h.heap.size 5 1 (.slice e ([(128 : UInt8)] ++ List.replicate j (0 : UInt8)).length f) ([(128 : UInt8)] ++ List.replicate j (0 : UInt8)).length (([(128 : UInt8)] ++ List.replicate j (0 : UInt8)).map bV) ∧ ([(128 : UInt8)] ++ List.replicate j (0 : UInt8)).length ≤ 1073741824)) (fun e' _ => 100 - (lenOf (e' 3))) ?_ ?_
 ·exact fun u => ⟨0, u, p, q, rfl, P, (Ch.refl (fun k => h.heap.size ≤ k) A), (by omega), (C ▸ ⟨O, (by simp)⟩)⟩
 ·rintro _ Q ⟨j, D, e, f, rfl, E, s, am, ⟨g, an⟩⟩
  have hpl : ([(128 : UInt8)] ++ List.replicate j (0 : UInt8)).length = 1 + j := by rw [List.length_append, List.length_replicate]; rfl
  refine wc_seq <| sr ?_
  refine mw (vi a) ?_
  refine mw (vs e ([(128 : UInt8)] ++ List.replicate j (0 : UInt8)).length f) ?_
  refine ln wN slTy_22 (Rd.of_own g) ?_
  refine ar (a + (([(128 : UInt8)] ++ List.replicate j (0 : UInt8)).length : Int)) wN ?_
  refine ar ((a + (([(128 : UInt8)] ++ List.replicate j (0 : UInt8)).length : Int)) + 8) wN ?_
  refine wl_rem ((a + (([(128 : UInt8)] ++ List.replicate j (0 : UInt8)).length : Int)) + 8) 64 wN rfl rfl (by kernel_rfl) (by first | omega | assumption) ?_
  refine pu (vb (!(decide ((((a + (([(128 : UInt8)] ++ List.replicate j (0 : UInt8)).length : Int)) + 8) % 64) = 0)))) wN ?_
  refine n2 ?_
  rcases bf (decide ((((a + (([(128 : UInt8)] ++ List.replicate j (0 : UInt8)).length : Int)) + 8) % 64) = 0)) with m | m
  ·have ao := dF m
   refine ct (cA not m) ?_
   refine wc_skip <| wq_then <| wc_block <| wc_region ?_
   refine mw (vs e ([(128 : UInt8)] ++ List.replicate j (0 : UInt8)).length f) ?_
   refine ltB ([0] : List UInt8) wN slTy_22 ?_
   intro ap aq R t S
   have T := (own_kp g t)
   refine apB ([(128 : UInt8)] ++ List.replicate j (0 : UInt8)) ([0] : List UInt8) wN slTy_22 T (Rd.of_own S) (z3 r s t) ?_
   intro w x F G V au W
   have X := (E.extk t).ext G (fun k hk => nT o.size (own_lt g k hk).1)
   refine aw (vs w (([(128 : UInt8)] ++ List.replicate j (0 : UInt8)) ++ ([0] : List UInt8)).length x) ?_
   refine wl_nil <| wq_blk_normal ?_
   have H : ((([(128 : UInt8)] ++ List.replicate j (0 : UInt8)) ++ ([0] : List UInt8)) : List UInt8) = [(128 : UInt8)] ++ List.replicate (j + 1) (0 : UInt8) := by first | rfl | (rw [List.replicate_succ', List.append_assoc])
   refine wq_loopP (w0 := Q) [(0, (vi a)), (2, (vs none 0 0)), (3, (.slice w ([(128 : UInt8)] ++ List.replicate (j + 1) (0 : UInt8)).length x))] ?_ ?_ ?_
   · exact ⟨rfl, rfl, (cA (fun l : List UInt8 => Value.slice w l.length x) H), trivial⟩
   · exact fun u => ⟨(j + 1), u, w, x, rfl, X, ((((Ch.refl (fun k => h.heap.size ≤ k) A).ext s (fun k hk => hk)).extk t).ext G (fun k hk => nT (Nat.le_refl h.heap.size) (own_lt g k hk).1)), (by omega), (H ▸ ⟨V, W⟩)⟩
   · show 100 - ([(128 : UInt8)] ++ List.replicate (j + 1) (0 : UInt8)).length < 100 - ([(128 : UInt8)] ++ List.replicate j (0 : UInt8)).length; simp only [List.length_append, List.length_cons, List.length_nil, List.length_replicate]; omega
  have av := dT m
  refine cf (cA not m) ?_
  refine wc_exit <| wq_then_exit <| wq_then_exit <| wq_blk_exit <| wq_then <| sr ?_
  refine mw (vs e ([(128 : UInt8)] ++ List.replicate j (0 : UInt8)).length f) ?_
  refine ltB ([0, 0] : List UInt8) wN slTy_22 ?_
  intro ax ay R y Y
  have Z := (own_kp g y)
  refine apB ([(128 : UInt8)] ++ List.replicate j (0 : UInt8)) ([0, 0] : List UInt8) wN slTy_22 Z (Rd.of_own Y) (z3 r s y) ?_
  intro I J F K aa az ab
  have ac := (E.extk y).ext K (fun k hk => nT o.size (own_lt g k hk).1)
  refine aw (vs I (([(128 : UInt8)] ++ List.replicate j (0 : UInt8)) ++ ([0, 0] : List UInt8)).length J) ?_
  refine nx ?_
  refine mw (vs I (([(128 : UInt8)] ++ List.replicate j (0 : UInt8)) ++ ([0, 0] : List UInt8)).length J) ?_
  refine mw (vi a) ?_
  refine ar (8 * a) wN ?_
  refine cl wN (ciPutN F _ (([(128 : UInt8)] ++ List.replicate j (0 : UInt8)) ++ ([0, 0] : List UInt8)) (mR_22 (Rd.of_own aa) ab) (8 * a) 6 (by first | omega | (simp; done) | (simp; omega) | (simp only [List.length_append, List.length_cons, List.length_nil] at *; omega))) ?_
  rintro _ a0 ⟨ad, ⟨L, M, rfl, ae, af, a1⟩⟩
  have ah := ac.extk ad
  have a2 := putN_len (([(128 : UInt8)] ++ List.replicate j (0 : UInt8)) ++ ([0, 0] : List UInt8)) (8 * a) 6
  refine aw (vs L (putN (([(128 : UInt8)] ++ List.replicate j (0 : UInt8)) ++ ([0, 0] : List UInt8)) (8 * a) 6).length M) ?_
  refine n3 ?_
  refine rt (vs L (putN (([(128 : UInt8)] ++ List.replicate j (0 : UInt8)) ++ ([0, 0] : List UInt8)) (8 * a) 6).length M) ?_
  refine ⟨ah.keep0, ?_⟩
  have ai : padP a = (putN (([(128 : UInt8)] ++ List.replicate j (0 : UInt8)) ++ ([0, 0] : List UInt8)) (8 * a) 6) := by first | exact padP_f (by omega) | exact padP_i (by omega) (by omega) (by omega) (by omega)
  rw [ai]
  exact ⟨_, _, rfl, (own_lo ae (z5 o r s y K)), af, ⟨trivial, trivial⟩⟩

theorem ciwordBytes (b : World) (s : Value) (a : List Int) (J : R_67 b s a) (P : a.length = 8) : Fn Try.prog 106 #[s] b (fun v f => Keep b f ∧ O_22 f b.heap.size v (wordB a)) := by
 obtain ⟨g, h, rfl, p, Q⟩ := J
 refine fn_ofS (n := 18) [(vs g a.length h)] Try.func106 rfl rfl ?_
 refine sr ?_
 refine aw (vs none 0 0) ?_
 refine nx ?_
 refine wl_lit0 wN rfl rfl slTy_22 (fun w => by kernel_rfl) ?_
 intro q r t K
 have y := (Ch.base b).extk t
 refine aw (vs (some q) 0 0) ?_
 refine n4 ?_
 refine mw (vs g a.length h) ?_
 refine ln wN slTy_67 (p.from0 y) ?_
 refine mw (vi 0) ?_
 refine wl_nil <| wq_then <| wc_block ?_
 have A : ([] : List UInt8) = wordB (a.take 0) := by rfl
 have B : 0 = (wordB (a.take 0)).length := by rw [← A]; try (first | rfl | simp only [List.length_set] | simp)
 refine wc_loopP [(2, (vs none 0 0)), (3, (.slice (some q) (wordB (a.take 0)).length 0)), (7, (vs g a.length h)), (8, (vi (a.length : Int))), (9, (vi ((0 : Nat) : Int)))] ⟨rfl, rfl, rfl, rfl, (cA (Value.int .i64) (show (0 : Int) = ((0 : Nat) : Int) by omega)), trivial⟩ (fun e' f => ∃ (k : Nat) (C : Env) (d : Option Addr) (e : Nat), e' = pt C [(2, (vs none 0 0)), (3, (.slice d (wordB (a.take k)).length e)), (7, (vs g a.length h)), (8, (vi (a.length : Int))), (9, (vi ((k : Nat) : Int)))] ∧ Ch (fun k => b.heap.size ≤ k) b f ∧ Ch (fun k => b.heap.size ≤ k) r f ∧ k ≤ a.length ∧ (World.ownsRow f b.heap.size 5 1 (.slice d (wordB (a.take k)).length e) (wordB (a.take k)).length ((wordB (a.take k)).map bV) ∧ (wordB (a.take k)).length ≤ 1073741824)) (fun e' _ => a.length - ((intOf (e' 9))).toNat) ?_ ?_
 ·exact fun u => ⟨0, u, (some q), 0, rfl, y, (Ch.refl (fun k => b.heap.size ≤ k) r), (by omega), ⟨(by rw [← B, ← A]; exact K), (by rw [← B]; first | exact (by simp) | (simp only [List.length_append, List.length_take, List.length_replicate]; omega))⟩⟩
 ·rintro _ D ⟨k, C, d, e, rfl, j, E, R, ⟨F, G⟩⟩
  have hwl := wordB_len (a.take k)
  have htl : (a.take k).length = min k a.length := List.length_take
  refine sr ?_
  refine pu (vb (decide (((k : Nat) : Int) < (a.length : Int)))) wN ?_
  refine wl_nil <| wq_then <| wc_seq ?_
  rcases bf (decide (((k : Nat) : Int) < (a.length : Int))) with i | i
  ·have S := dF i
   refine cf i ?_
   refine wc_exit <| wq_then_exit <| wq_then_exit <| wq_blk_exit <| wq_then <| sr ?_
   refine mw (vs d (wordB (a.take k)).length e) ?_
   refine aw (vs d (wordB (a.take k)).length e) ?_
   refine n3 ?_
   refine rt (vs d (wordB (a.take k)).length e) ?_
   refine ⟨j.keep0, ?_⟩
   have L : wordB a = (wordB (a.take k)) := by exact wordB_end (by omega)
   rw [L]
   exact ⟨_, _, rfl, F, G, ⟨trivial, trivial⟩⟩
  have T := dT i
  refine ct i ?_
  refine wc_skip <| wq_then <| wc_seq <| wc_block <| sr ?_
  refine ix wN ((k : Nat) : Int) slTy_67 (p.from0 j) ?_
  refine ei (x := a) k wN isAgg_3 (p.from0 j) ?_
  refine aw (vi (a.getD k 0)) ?_
  refine wl_nil <| wq_then <| wc_region ?_
  refine mw (vs d (wordB (a.take k)).length e) ?_
  refine mw (vi (a.getD k 0)) ?_
  refine cl wN (ciPutN D _ (wordB (a.take k)) (mR_22 (Rd.of_own F) G) (a.getD k 0) 4 (by first | omega | (simp; done) | (simp; omega) | (simp only [List.length_append, List.length_cons, List.length_nil] at *; omega))) ?_
  rintro _ V ⟨H, ⟨m, o, rfl, M, N, W⟩⟩
  have O := j.extk H
  have X := putN_len (wordB (a.take k)) (a.getD k 0) 4
  refine aw (vs m (putN (wordB (a.take k)) (a.getD k 0) 4).length o) ?_
  refine wl_nil <| wq_blk_normal <| wq_then <| wc_region ?_
  refine ar (((k : Nat) : Int) + 1) wN ?_
  refine mw (vi (((k : Nat) : Int) + 1)) ?_
  refine wl_nil ?_
  have I : ((putN (wordB (a.take k)) (a.getD k 0) 4) : List UInt8) = wordB (a.take (k + 1)) := by exact wordB_next (by omega)
  refine wq_loopP (w0 := D) [(2, (vs none 0 0)), (3, (.slice m (wordB (a.take (k + 1))).length o)), (7, (vs g a.length h)), (8, (vi (a.length : Int))), (9, (vi (((k + 1) : Nat) : Int)))] ?_ ?_ ?_
  · exact ⟨rfl, (cA (fun l : List UInt8 => Value.slice m l.length o) I), rfl, rfl, (cA (Value.int .i64) (show ((((k : Nat) : Int) + 1) : Int) = (((k + 1) : Nat) : Int) by omega)), trivial⟩
  · exact fun u => ⟨(k + 1), u, m, o, rfl, O, (((Ch.refl (fun k => b.heap.size ≤ k) r).ext E (fun k hk => hk)).extk H), (by omega), (I ▸ ⟨(own_lo M (z2 t E)), N⟩)⟩
  · show a.length - ((((k + 1) : Nat) : Int)).toNat < a.length - (((k : Nat) : Int)).toNat; omega

def i_HashEnd (a : PHash) : (List UInt8) := bif (i_HashOk a) then ((wordB ((compAll a.H (joinB [a.Held, (padP a.N)])).1))) else ([])
theorem ciHashEnd (s : World) (I : Value) (a : PHash) (aa : R_91 s I a)  : Fn Try.prog 96 #[I] s (fun v J => Keep s J ∧ O_22 J s.heap.size v (i_HashEnd a)) := by
 obtain ⟨b, g, i, j, rfl, K, M, O, P⟩ := aa
 refine fn_ofS (n := 23) [(va (L_91 a b g i j))] Try.func96 rfl rfl ?_
 refine sr ?_
 refine bx (L_91 a b g i j) wN ?_
 intro q t bb bc Q B
 have E := (Ch.base s).extk Q
 refine aw (vs none 0 0) ?_
 refine n4 ?_
 refine lN (L_91 a b g i j) wN isAgg_91 sizeOf_91 B ?_
 refine cl wN (ciHashOk t _ a (mR_91 (K.from0 E) M (O.from0 E) P)) ?_
 rintro _ F ⟨u, rfl⟩
 have C := E.extk u
 refine pu (vb (!(i_HashOk a))) wN ?_
 refine n2 ?_
 rcases bf (i_HashOk a) with r | r
 ·refine ct (cA not r) ?_
  refine sr ?_
  refine aw (vs none 0 0) ?_
  refine n1 ?_
  refine rt (vs none 0 0) ?_
  refine ⟨C.keep0, ?_⟩
  simp only [i_HashEnd, r, cond_true, cond_false]
  exact ⟨_, _, rfl, (by first | exact own_nil _ _ _ _ | exact OLv.nil _ _ _ _), (by simp), ⟨trivial, trivial⟩⟩
 have bd := hashOk_t r
 refine cf (cA not r) ?_
 refine wc_skip <| wq_then <| wc_seq ?_
 refine wc_draw ([(9, [], [], (fun _ v _ => v = (vp q 0))), (10, [], [0], (fun _ v _ => v = (vs b a.H.length g))), (11, [], [], (fun _ v _ => v = (vp q 1))), (12, [], [2], (fun _ v _ => v = (vs i a.Held.length j))), (13, [], [], (fun _ v _ => v = (vp q 2))), (14, [], [4], (fun _ v _ => v = (vi a.N))), (15, [], [4, 5], (fun _ v w => ∃ (b : Option Addr) (f : Nat), v = .slice b (padP a.N).length f ∧ w.ownsRow (F.heap.size) 5 1 (.slice b (padP a.N).length f) (padP a.N).length ((padP a.N).map bV) ∧ (padP a.N).length ≤ 1073741824 ∧ Aps [(b, f)])), (16, [15], [2, 3, 4, 5, 6], (fun e v w => ∃ (b : Option Addr) (f : Nat), v = .slice b 2 f ∧ w.ownsRow F.heap.size 22 1 (.slice b 2 f) 2 [(vs i a.Held.length j), (e 15)])), (17, [15], [2, 3, 4, 5, 6, 7], (fun e v w => ∃ (b : Option Addr) (f : Nat), v = .slice b (joinB [a.Held, (padP a.N)]).length f ∧ w.ownsRow (F.heap.size) 5 1 (.slice b (joinB [a.Held, (padP a.N)]).length f) (joinB [a.Held, (padP a.N)]).length ((joinB [a.Held, (padP a.N)]).map bV) ∧ (joinB [a.Held, (padP a.N)]).length ≤ 1073741824 ∧ Aps [(b, f)] ∧ Ap (sp (e 15)) (b, f))), (18, [], [0, 1, 2, 3, 4, 5, 6, 7, 8], (fun _ v w => ∃ (b : Option Addr) (f : Nat) (R : Option Addr) (g : Nat), v = .tuple #[.slice b ((compAll a.H (joinB [a.Held, (padP a.N)])).1).length f, .slice R ((compAll a.H (joinB [a.Held, (padP a.N)])).2).length g] ∧ Rd w 1 (.slice b ((compAll a.H (joinB [a.Held, (padP a.N)])).1).length f) ((compAll a.H (joinB [a.Held, (padP a.N)])).1).length (((compAll a.H (joinB [a.Held, (padP a.N)])).1).map iV) ∧ ((compAll a.H (joinB [a.Held, (padP a.N)])).1).length ≤ 1073741824 ∧ Rd w 1 (.slice R ((compAll a.H (joinB [a.Held, (padP a.N)])).2).length g) ((compAll a.H (joinB [a.Held, (padP a.N)])).2).length (((compAll a.H (joinB [a.Held, (padP a.N)])).2).map bV) ∧ ((compAll a.H (joinB [a.Held, (padP a.N)])).2).length ≤ 1073741824)), (8, [18], [0, 1, 2, 3, 4, 5, 6, 7, 8, 9], (fun e v _ => v = (.tuple #[(tupAt (e 18) 0), (tupAt (e 18) 1)]))), (19, [18], [0, 1, 2, 3, 4, 5, 6, 7, 8, 9, 10], (fun e v _ => v = (tupAt (e 18) 0))), (20, [18], [0, 1, 2, 3, 4, 5, 6, 7, 8, 9, 10], (fun e v _ => v = (tupAt (e 18) 1))), (3, [18], [0, 1, 2, 3, 4, 5, 6, 7, 8, 9, 10, 11], (fun e v _ => v = (tupAt (e 18) 0)))] : GV) mixed rfl (by kernel_rfl) (by kernel_rfl) ?_ ?_ ?_
 ·exact ⟨hV, hE, ⟨hV, hE, ⟨hV, hE, ⟨hV, hE, ⟨hV, hE, ⟨hV, hE, ⟨(fun e v w t h hk => by obtain ⟨k, l, he, o, x, hap⟩ := h; exact ⟨k, l, he, own_kp o hk, x, hap⟩), hE, ⟨(fun e v w t h hk => by obtain ⟨k, l, he, o⟩ := h; exact ⟨k, l, he, own_kp o hk⟩), (fun y A v w hx h => by have G := hx 15 (by simp); simp only [G] at h; exact h), ⟨(fun e v w t h hk => by obtain ⟨k, l, he, o, x, hap, hx⟩ := h; exact ⟨k, l, he, own_kp o hk, x, hap, hx⟩), (fun y A v w hx h => by have G := hx 15 (by simp); simp only [G] at h; exact h), ⟨(fun e v w t h hk => by obtain ⟨k, l, ab, ac, he, o, x, ad, ae⟩ := h; exact ⟨k, l, ab, ac, he, Rd.kp o hk, x, Rd.kp ad hk, ae⟩), hE, ⟨hV, (fun y A v w hx h => by have p := hx 18 (by simp); simp only [p] at h; exact h), ⟨hV, (fun y A v w hx h => by have p := hx 18 (by simp); simp only [p] at h; exact h), ⟨hV, (fun y A v w hx h => by have p := hx 18 (by simp); simp only [p] at h; exact h), ⟨hV, (fun y A v w hx h => by have p := hx 18 (by simp); simp only [p] at h; exact h), trivial⟩⟩⟩⟩⟩⟩⟩⟩⟩⟩⟩⟩⟩⟩
 ·refine ⟨?_, ⟨?_, ⟨?_, ⟨?_, ⟨?_, ⟨?_, ⟨?_, ⟨?_, ⟨?_, ⟨?_, ⟨?_, ⟨?_, ⟨?_, ⟨?_, trivial⟩⟩⟩⟩⟩⟩⟩⟩⟩⟩⟩⟩⟩⟩
  ·intro d be
   rintro _ _ _ _ _ _ _ _ _ _ _ _ _ _
   show WL _ _ _ _ _ _ _
   refine pu (vp q 0) wN ?_
   exact f2
  ·intro d af
   rintro _ rfl _ _ _ _ _ _ _ _ _ _ _ _ _
   show WL _ _ _ _ _ _ _
   have ah := ((B.kp u).kp af)
   refine ld (vs b a.H.length g) wN isAgg_67 ah ?_
   exact f2
  ·intro d bg
   rintro _ _ _ _ _ _ _ _ _ _ _ _ _ _
   show WL _ _ _ _ _ _ _
   refine pu (vp q 1) wN ?_
   exact f2
  ·intro d ai
   rintro _ _ _ rfl _ _ _ _ _ _ _ _ _ _ _
   show WL _ _ _ _ _ _ _
   have aj := ((B.kp u).kp ai)
   refine ld (vs i a.Held.length j) wN isAgg_22 aj ?_
   exact f2
  ·intro d bh
   rintro _ _ _ _ _ _ _ _ _ _ _ _ _ _
   show WL _ _ _ _ _ _ _
   refine pu (vp q 2) wN ?_
   exact f2
  ·intro d ak
   rintro _ _ _ _ _ rfl _ _ _ _ _ _ _ _ _
   show WL _ _ _ _ _ _ _
   have am := ((B.kp u).kp ak)
   refine ld (vi a.N) wN isAgg_3 am ?_
   exact f2
  ·intro d an
   rintro _ _ _ _ _ rfl _ rfl _ _ _ _ _ _ _ _
   show WL _ _ _ _ _ _ _
   refine cl wN (ciPad d a.N) ?_
   rintro _ D ⟨ao, ⟨bi, bj, rfl, ap, aq, au⟩⟩
   have bk := padP_len a.N
   exact wl_fin ao ⟨_, _, rfl, (own_lo ap an.size), aq, au⟩
  ·intro d av
   rintro _ _ _ rfl _ rfl _ rfl _ rfl _ ⟨ax, ay, rfl, _⟩
   have bl := padP_len a.N
   rintro _ _ _ _ _ _ _
   show WL _ _ _ _ _ _ _
   refine wl_lit [(vs i a.Held.length j), (vs ax (padP a.N).length ay)] wN rfl rfl slTy_87 (m := 2) rfl (by simp only [maxLen]; omega) (fun w => by kernel_rfl) ?_
   intro bm D az S
   obtain ⟨bn, bo, rfl⟩ := own_form S
   exact wl_fin az ⟨_, _, rfl, own_lo S av.size⟩
  ·intro d T
   have a0 := C.extk T
   rintro _ _ _ rfl _ rfl _ rfl _ rfl _ ⟨a1, a2, rfl, V, a3, bp⟩
   have bq := padP_len a.N
   rintro _ ⟨br, bu, rfl, a4⟩ _ _ _ _ _ _
   show WL _ _ _ _ _ _ _
   refine cl wN (cijoined d _ [a.Held, (padP a.N)] (mR_87 (RLv.mk (L := LT_22) [(a.Held, [(i, j)]), ((padP a.N), [(a1, a2)])] (Rd.of_own a4) rfl ⟨⟨⟨(O.from0 a0), P⟩, trivial⟩, ⟨⟨⟨(Rd.of_own V), a3⟩, trivial⟩, trivial⟩⟩ (by first | decide | exact Nat.le_of_ble_eq_true rfl)) (by first | decide | exact Nat.le_of_ble_eq_true rfl)) (by first | omega | (rw [joinB_l2]; omega) | (rw [joinB_l2]; simp only [List.length_cons, List.length_nil, maskB_len]; omega) | (rw [joinB_l3]; simp only [List.length_cons, List.length_nil, maskB_len]; omega) | (simp only [joinB, List.flatten_cons, List.flatten_nil, List.length_append, List.length_cons, List.length_nil, maskB_len]; omega))) ?_
   rintro _ D ⟨a5, ⟨bv, bw, rfl, W, a6, a7⟩⟩
   have bz := (show (joinB [a.Held, (padP a.N)]).length = a.Held.length + (padP a.N).length by simp only [joinB, List.flatten_cons, List.flatten_nil, List.length_append, List.length_cons, List.length_nil]; omega)
   exact wl_fin a5 ⟨_, _, rfl, (own_lo W T.size), a6, a7, (Ap.lt V W (Nat.le_refl _))⟩
  ·intro d a8
   have a9 := C.extk a8
   rintro _ rfl _ rfl _ rfl _ rfl _ rfl _ rfl _ ⟨b0, b1, rfl, _⟩
   have b2 := padP_len a.N
   rintro _ ⟨b3, b4, rfl, b5⟩ _ ⟨b6, b7, rfl, aA, aB, _⟩
   have b8 := (show (joinB [a.Held, (padP a.N)]).length = a.Held.length + (padP a.N).length by simp only [joinB, List.flatten_cons, List.flatten_nil, List.length_append, List.length_cons, List.length_nil]; omega)
   rintro _ _ _ _ _
   show WL _ _ _ _ _ _ _
   refine cl wN (cicompressAll d _ a.H (mR_67 (K.from0 a9) M) _ (joinB [a.Held, (padP a.N)]) (mR_22 (Rd.of_own aA) aB)) ?_
   rintro _ D ⟨aC, ⟨b9, bA, bB, bC, rfl, aD, aE, aF, aG⟩⟩
   exact wl_fin aC ⟨_, _, _, _, rfl, aD, aE, aF, aG⟩
  ·intro d bD
   rintro _ rfl _ rfl _ rfl _ rfl _ rfl _ rfl _ ⟨bE, bF, rfl, _⟩
   have bG := padP_len a.N
   rintro _ ⟨bH, bI, rfl, bJ⟩ _ ⟨bK, bL, rfl, _⟩
   have bM := (show (joinB [a.Held, (padP a.N)]).length = a.Held.length + (padP a.N).length by simp only [joinB, List.flatten_cons, List.flatten_nil, List.length_append, List.length_cons, List.length_nil]; omega)
   rintro _ ⟨aH, aI, aJ, aK, rfl, _⟩ _ _ _ _
   show WL _ _ _ _ _ _ _
   refine mw (.tuple #[(vs aH ((compAll a.H (joinB [a.Held, (padP a.N)])).1).length aI), (vs aJ ((compAll a.H (joinB [a.Held, (padP a.N)])).2).length aK)]) ?_
   exact f2
  ·intro d bN
   rintro _ rfl _ rfl _ rfl _ rfl _ rfl _ rfl _ ⟨bO, bP, rfl, _⟩
   have bQ := padP_len a.N
   rintro _ ⟨bR, bS, rfl, bT⟩ _ ⟨bU, bW, rfl, _⟩
   have bX := (show (joinB [a.Held, (padP a.N)]).length = a.Held.length + (padP a.N).length by simp only [joinB, List.flatten_cons, List.flatten_nil, List.length_append, List.length_cons, List.length_nil]; omega)
   rintro _ ⟨aL, aM, bY, bZ, rfl, _⟩ _ rfl _ _ _
   show WL _ _ _ _ _ _ _
   refine pu (vs aL ((compAll a.H (joinB [a.Held, (padP a.N)])).1).length aM) wN ?_
   exact f2
  ·intro d ca
   rintro _ rfl _ rfl _ rfl _ rfl _ rfl _ rfl _ ⟨cb, cc, rfl, _⟩
   have cd := padP_len a.N
   rintro _ ⟨ce, cg, rfl, ci⟩ _ ⟨cj, ck, rfl, _⟩
   have cm := (show (joinB [a.Held, (padP a.N)]).length = a.Held.length + (padP a.N).length by simp only [joinB, List.flatten_cons, List.flatten_nil, List.length_append, List.length_cons, List.length_nil]; omega)
   rintro _ ⟨cn, co, aN, aO, rfl, _⟩ _ rfl _ _ _
   show WL _ _ _ _ _ _ _
   refine pu (vs aN ((compAll a.H (joinB [a.Held, (padP a.N)])).2).length aO) wN ?_
   exact f2
  ·intro d cp
   rintro _ rfl _ rfl _ rfl _ rfl _ rfl _ rfl _ ⟨cq, cr, rfl, _⟩
   have cs := padP_len a.N
   rintro _ ⟨cu, cv, rfl, cw⟩ _ ⟨cx, cy, rfl, _⟩
   have cz := (show (joinB [a.Held, (padP a.N)]).length = a.Held.length + (padP a.N).length by simp only [joinB, List.flatten_cons, List.flatten_nil, List.length_append, List.length_cons, List.length_nil]; omega)
   rintro _ ⟨aP, aQ, c0, c1, rfl, _⟩ _ rfl _ rfl _ _
   show WL _ _ _ _ _ _ _
   refine aw (vs aP ((compAll a.H (joinB [a.Held, (padP a.N)])).1).length aQ) ?_
   exact f2
 ·intro d X
  rintro _ rfl _ rfl _ rfl _ rfl _ rfl _ rfl _ ⟨c2, c3, rfl, _⟩
  have c4 := padP_len a.N
  rintro _ ⟨c5, c6, rfl, c7⟩ _ ⟨c8, c9, rfl, _⟩
  have cC := (show (joinB [a.Held, (padP a.N)]).length = a.Held.length + (padP a.N).length by simp only [joinB, List.flatten_cons, List.flatten_nil, List.length_append, List.length_cons, List.length_nil]; omega)
  rintro _ ⟨aR, aS, aT, aU, rfl, aV, aW, _⟩ _ rfl _ rfl _ rfl _ rfl
  show WL _ _ _ _ _ _ _
  refine aw (vs aT ((compAll a.H (joinB [a.Held, (padP a.N)])).2).length aU) ?_
  refine nx ?_
  refine mw (vs aR ((compAll a.H (joinB [a.Held, (padP a.N)])).1).length aS) ?_
  refine cl wN (ciwordBytes d _ ((compAll a.H (joinB [a.Held, (padP a.N)])).1) (mR_67 aV aW) (by first | omega | exact foldK_len k0_w _ | exact compAll_len (by first | assumption | exact (hashOk_t (by assumption)).1))) ?_
  rintro _ D ⟨aX, ⟨Y, Z, rfl, aY, aZ, cD⟩⟩
  have ba := (C.extk X).extk aX
  refine aw (vs Y (wordB ((compAll a.H (joinB [a.Held, (padP a.N)])).1)).length Z) ?_
  refine n3 ?_
  refine rt (vs Y (wordB ((compAll a.H (joinB [a.Held, (padP a.N)])).1)).length Z) ?_
  refine ⟨ba.keep0, ?_⟩
  simp only [i_HashEnd, r, cond_true, cond_false]
  exact ⟨_, _, rfl, (own_lo aY (z3 Q u X)), aZ, ⟨trivial, trivial⟩⟩

theorem shaI (b : List UInt8) (h : b.length ≤ 1048576) : i_HashEnd (i_HashAdd i_HashNew b) = sha b := by
  have a : i_HashOk i_HashNew = true := rfl
  have hA : i_HashAdd i_HashNew b = { H := (compAll k0 b).1, Held := (compAll k0 b).2, N := (b.length : Int) : PHash } := by
    have d : decide (1048576 - i_HashNew.N < (b.length : Int)) = false := decide_eq_false (by show ¬ (1048576 - 0 < (b.length : Int)); omega)
    simp only [i_HashAdd, a, d, cond_true, cond_false]
    simp [i_HashNew, joinB, i_clone]
  have hO : i_HashOk { H := (compAll k0 b).1, Held := (compAll k0 b).2, N := (b.length : Int) : PHash } = true := by
    have hw : areW (compAll k0 b).1 8 = true := foldK_w k0_w _
    have hl : (compAll k0 b).2.length = b.length - 64 * (b.length / 64) := List.length_drop
    simp only [i_HashOk, hw, hl, i_within, cond_true, cond_eq_ite]
    (repeat' split) <;> first | rfl | (exfalso; simp_all; done) | (rw [decide_eq_true_eq]; omega) | (exfalso; simp at *; omega)
  rw [hA, sha_parts h]
  have hp : padP (b.length : Int) = pad b.length := padP_eq (by omega) (by omega)
  simp only [i_HashEnd, hO, cond_true, hp]
  simp [joinB]
theorem ciSha (b : World) (g : Value) (a : List UInt8) (p : R_22 b g a)  : Fn Try.prog 91 #[g] b (fun v h => Keep b h ∧ O_22 h b.heap.size v (sha a)) := by
 obtain ⟨e, f, rfl, i, q⟩ := p
 refine fn_ofS (n := 10) [(vs e a.length f)] Try.func91 rfl rfl ?_
 refine sr ?_
 refine aw (vs none 0 0) ?_
 refine n4 ?_
 refine mw (vs e a.length f) ?_
 refine ln wN slTy_22 i ?_
 refine pu (vb (decide (1048576 < (a.length : Int)))) wN ?_
 refine n2 ?_
 rcases bt (decide (1048576 < (a.length : Int))) with d | d
 ·have J := dT d
  refine ct d ?_
  refine sr ?_
  refine aw (vs none 0 0) ?_
  refine n1 ?_
  refine rt (vs none 0 0) ?_
  refine ⟨Ch.refl _ _, ?_⟩
  have r : sha a = [] := by first | exact sha_f (by omega) | exact (shaI a (by omega)).symm
  rw [r]
  exact ⟨_, _, rfl, (by first | exact own_nil _ _ _ _ | exact OLv.nil _ _ _ _), (by simp), ⟨trivial, trivial⟩⟩
 have K := dF d
 refine cf d ?_
 refine y1 ?_
 refine cl wN (ciHashNew b ) ?_
 rintro _ s ⟨j, ⟨L, M, N, O, rfl, t, u, w, x, P⟩⟩
 have k := (Ch.base b).extk j
 refine mw (vs e a.length f) ?_
 refine cl wN (ciHashAdd s _ (i_HashNew) (mR_91 (Rd.of_own t) u (Rd.of_own w) x) _ a (mR_22 (i.from0 k) q)) ?_
 rintro _ y ⟨l, ⟨Q, R, S, T, rfl, A, B, C, D, V⟩⟩
 refine cl wN (ciHashEnd y _ (i_HashAdd (i_HashNew) a) (mR_91 (Rd.of_own A) B (Rd.of_own C) D)) ?_
 rintro _ W ⟨E, ⟨m, o, rfl, F, G, X⟩⟩
 have H := (k.extk l).extk E
 refine aw (vs m (i_HashEnd (i_HashAdd (i_HashNew) a)).length o) ?_
 refine n3 ?_
 refine rt (vs m (i_HashEnd (i_HashAdd (i_HashNew) a)).length o) ?_
 refine ⟨H.keep0, ?_⟩
 have I : sha a = (i_HashEnd (i_HashAdd (i_HashNew) a)) := by first | exact sha_f (by omega) | exact (shaI a (by omega)).symm
 rw [I]
 exact ⟨_, _, rfl, (own_lo F (z2 j l)), G, ⟨trivial, trivial⟩⟩

theorem ciBlockKey (b : World) (K : Value) (a : List UInt8) (ab : R_22 b K a)  : Fn Try.prog 90 #[K] b (fun v f => Keep b f ∧ O_22 f b.heap.size v (blockKey a)) := by
 obtain ⟨h, i, rfl, w, L⟩ := ab
 refine fn_ofS (n := 21) [(vs h a.length i)] Try.func90 rfl rfl ?_
 refine sr ?_
 refine aw (vs none 0 0) ?_
 refine n4 ?_
 refine mw (vs h a.length i) ?_
 refine ln wN slTy_22 w ?_
 refine pu (vb (decide (1048576 < (a.length : Int)))) wN ?_
 refine n2 ?_
 rcases bt (decide (1048576 < (a.length : Int))) with m | m
 ·have a3 := dT m
  refine ct m ?_
  refine sr ?_
  refine aw (vs none 0 0) ?_
  refine n1 ?_
  refine rt (vs none 0 0) ?_
  refine ⟨Ch.refl _ _, ?_⟩
  have ac : blockKey a = [] := by first | exact blockKey_f (by omega) | exact blockKey_l (by omega) (by omega) (by omega) (by simp only [List.length_append, List.length_replicate] at *; omega) | exact blockKey_s (by omega) (by omega) (by simp only [List.length_append, List.length_replicate] at *; omega)
  rw [ac]
  exact ⟨_, _, rfl, (by first | exact own_nil _ _ _ _ | exact OLv.nil _ _ _ _), (by simp), ⟨trivial, trivial⟩⟩
 have a4 := dF m
 refine cf m ?_
 refine y1 ?_
 refine mw (vs h a.length i) ?_
 refine cl wN (ciclone b _ a (mR_22 w L)) ?_
 rintro _ g ⟨x, ⟨y, A, rfl, ad, ae, a5⟩⟩
 have B := (Ch.base b).extk x
 refine aw (vs y (a).length A) ?_
 refine n4 ?_
 refine mw (vs h a.length i) ?_
 refine ln wN slTy_22 (w.from0 B) ?_
 refine pu (vb (decide (64 < (a.length : Int)))) wN ?_
 refine n2 ?_
 rcases bf (decide (64 < (a.length : Int))) with o | o
 ·have a6 := dF o
  refine cf o ?_
  refine wc_skip <| wq_then <| wc_seq <| wc_block ?_
  have M : ((a) : List UInt8) = (a) ++ List.replicate 0 (0 : UInt8) := by simp
  refine wc_loopP [(2, (vs none 0 0)), (3, (.slice y ((a) ++ List.replicate 0 (0 : UInt8)).length A))] ⟨rfl, (cA (fun l : List UInt8 => Value.slice y l.length A) M), trivial⟩ (fun e' f => ∃ (j : Nat) (N : Env) (d : Option Addr) (e : Nat), e' = pt N [(2, (vs none 0 0)), (3, (.slice d ((a) ++ List.replicate j (0 : UInt8)).length e))] ∧ Ch (fun k => b.heap.size ≤ k) b f ∧ Ch (fun k => b.heap.size ≤ k) g f ∧ (a).length + j ≤ 64 ∧ (World.ownsRow f b.heap.size 5 1 (.slice d ((a) ++ List.replicate j (0 : UInt8)).length e) ((a) ++ List.replicate j (0 : UInt8)).length (((a) ++ List.replicate j (0 : UInt8)).map bV) ∧ ((a) ++ List.replicate j (0 : UInt8)).length ≤ 1073741824)) (fun e' _ => 64 - (lenOf (e' 3))) ?_ ?_
  ·exact fun u => ⟨0, u, y, A, rfl, B, (Ch.refl (fun k => b.heap.size ≤ k) g), (by omega), (M ▸ ⟨ad, ae⟩)⟩
  ·rintro _ p ⟨j, N, d, e, rfl, O, P, a7, ⟨q, af⟩⟩
   have hol : ((a) ++ List.replicate j (0 : UInt8)).length = (a).length + j := by rw [List.length_append, List.length_replicate]
   refine wc_seq <| sr ?_
   refine mw (vs d ((a) ++ List.replicate j (0 : UInt8)).length e) ?_
   refine ln wN slTy_22 (Rd.of_own q) ?_
   refine pu (vb (decide ((((a) ++ List.replicate j (0 : UInt8)).length : Int) < 64))) wN ?_
   refine n2 ?_
   rcases bf (decide ((((a) ++ List.replicate j (0 : UInt8)).length : Int) < 64)) with r | r
   ·have a8 := dF r
    refine cf r ?_
    refine wc_exit <| wq_then_exit <| wq_then_exit <| wq_blk_exit <| wq_then <| sr ?_
    refine mw (vs d ((a) ++ List.replicate j (0 : UInt8)).length e) ?_
    refine aw (vs d ((a) ++ List.replicate j (0 : UInt8)).length e) ?_
    refine n3 ?_
    refine rt (vs d ((a) ++ List.replicate j (0 : UInt8)).length e) ?_
    refine ⟨O.keep0, ?_⟩
    have ah : blockKey a = ((a) ++ List.replicate j (0 : UInt8)) := by first | exact blockKey_f (by omega) | exact blockKey_l (by omega) (by omega) (by omega) (by simp only [List.length_append, List.length_replicate] at *; omega) | exact blockKey_s (by omega) (by omega) (by simp only [List.length_append, List.length_replicate] at *; omega)
    rw [ah]
    exact ⟨_, _, rfl, q, af, ⟨trivial, trivial⟩⟩
   have a9 := dT r
   refine ct r ?_
   refine wc_skip <| wq_then <| wc_block <| wc_region ?_
   refine mw (vs d ((a) ++ List.replicate j (0 : UInt8)).length e) ?_
   refine ltB ([0] : List UInt8) wN slTy_22 ?_
   intro aA aB Q C ai
   have aj := (own_kp q C)
   refine apB ((a) ++ List.replicate j (0 : UInt8)) ([0] : List UInt8) wN slTy_22 aj (Rd.of_own ai) (z3 x P C) ?_
   intro D E ak R am aC an
   have ao := (O.extk C).ext R (fun k hk => nT (Nat.le_refl b.heap.size) (own_lt q k hk).1)
   refine aw (vs D (((a) ++ List.replicate j (0 : UInt8)) ++ ([0] : List UInt8)).length E) ?_
   refine wl_nil <| wq_blk_normal ?_
   have S : ((((a) ++ List.replicate j (0 : UInt8)) ++ ([0] : List UInt8)) : List UInt8) = (a) ++ List.replicate (j + 1) (0 : UInt8) := by rw [List.replicate_succ', List.append_assoc]
   refine wq_loopP (w0 := p) [(2, (vs none 0 0)), (3, (.slice D ((a) ++ List.replicate (j + 1) (0 : UInt8)).length E))] ?_ ?_ ?_
   · exact ⟨rfl, (cA (fun l : List UInt8 => Value.slice D l.length E) S), trivial⟩
   · exact fun u => ⟨(j + 1), u, D, E, rfl, ao, ((((Ch.refl (fun k => b.heap.size ≤ k) g).ext P (fun k hk => hk)).extk C).ext R (fun k hk => nT (Nat.le_refl b.heap.size) (own_lt q k hk).1)), (by omega), (S ▸ ⟨am, an⟩)⟩
   · show 64 - ((a) ++ List.replicate (j + 1) (0 : UInt8)).length < 64 - ((a) ++ List.replicate j (0 : UInt8)).length; simp only [List.length_append, List.length_replicate]; omega
 have aD := dT o
 refine ct o ?_
 refine wc_region ?_
 refine mw (vs h a.length i) ?_
 refine cl wN (ciSha g _ a (mR_22 (w.from0 B) L)) ?_
 rintro _ p ⟨T, ⟨F, G, rfl, ap, aq, aE⟩⟩
 have au := B.extk T
 have aF := sha_le a
 refine aw (vs F (sha a).length G) ?_
 refine wl_nil <| wq_then <| wc_seq <| wc_block ?_
 have V : ((sha a) : List UInt8) = (sha a) ++ List.replicate 0 (0 : UInt8) := by simp
 refine wc_loopP [(2, (vs none 0 0)), (3, (.slice F ((sha a) ++ List.replicate 0 (0 : UInt8)).length G))] ⟨rfl, (cA (fun l : List UInt8 => Value.slice F l.length G) V), trivial⟩ (fun e' f => ∃ (j : Nat) (W : Env) (d : Option Addr) (e : Nat), e' = pt W [(2, (vs none 0 0)), (3, (.slice d ((sha a) ++ List.replicate j (0 : UInt8)).length e))] ∧ Ch (fun k => b.heap.size ≤ k) b f ∧ Ch (fun k => g.heap.size ≤ k) p f ∧ (sha a).length + j ≤ 64 ∧ (World.ownsRow f g.heap.size 5 1 (.slice d ((sha a) ++ List.replicate j (0 : UInt8)).length e) ((sha a) ++ List.replicate j (0 : UInt8)).length (((sha a) ++ List.replicate j (0 : UInt8)).map bV) ∧ ((sha a) ++ List.replicate j (0 : UInt8)).length ≤ 1073741824)) (fun e' _ => 64 - (lenOf (e' 3))) ?_ ?_
 ·exact fun u => ⟨0, u, F, G, rfl, au, (Ch.refl (fun k => g.heap.size ≤ k) p), (by omega), (V ▸ ⟨ap, aq⟩)⟩
 ·rintro _ Q ⟨j, W, d, e, rfl, X, Y, aG, ⟨s, av⟩⟩
  have hol : ((sha a) ++ List.replicate j (0 : UInt8)).length = (sha a).length + j := by rw [List.length_append, List.length_replicate]
  refine wc_seq <| sr ?_
  refine mw (vs d ((sha a) ++ List.replicate j (0 : UInt8)).length e) ?_
  refine ln wN slTy_22 (Rd.of_own s) ?_
  refine pu (vb (decide ((((sha a) ++ List.replicate j (0 : UInt8)).length : Int) < 64))) wN ?_
  refine n2 ?_
  rcases bf (decide ((((sha a) ++ List.replicate j (0 : UInt8)).length : Int) < 64)) with t | t
  ·have aH := dF t
   refine cf t ?_
   refine wc_exit <| wq_then_exit <| wq_then_exit <| wq_blk_exit <| wq_then <| sr ?_
   refine mw (vs d ((sha a) ++ List.replicate j (0 : UInt8)).length e) ?_
   refine aw (vs d ((sha a) ++ List.replicate j (0 : UInt8)).length e) ?_
   refine n3 ?_
   refine rt (vs d ((sha a) ++ List.replicate j (0 : UInt8)).length e) ?_
   refine ⟨X.keep0, ?_⟩
   have ax : blockKey a = ((sha a) ++ List.replicate j (0 : UInt8)) := by first | exact blockKey_f (by omega) | exact blockKey_l (by omega) (by omega) (by omega) (by simp only [List.length_append, List.length_replicate] at *; omega) | exact blockKey_s (by omega) (by omega) (by simp only [List.length_append, List.length_replicate] at *; omega)
   rw [ax]
   exact ⟨_, _, rfl, (own_lo s x.size), av, ⟨trivial, trivial⟩⟩
  have aI := dT t
  refine ct t ?_
  refine wc_skip <| wq_then <| wc_block <| wc_region ?_
  refine mw (vs d ((sha a) ++ List.replicate j (0 : UInt8)).length e) ?_
  refine ltB ([0] : List UInt8) wN slTy_22 ?_
  intro aJ aK ak H ay
  have az := (own_kp s H)
  refine apB ((sha a) ++ List.replicate j (0 : UInt8)) ([0] : List UInt8) wN slTy_22 az (Rd.of_own ay) (z3 T Y H) ?_
  intro I J aL Z a0 aM a1
  have a2 := (X.extk H).ext Z (fun k hk => nT x.size (own_lt s k hk).1)
  refine aw (vs I (((sha a) ++ List.replicate j (0 : UInt8)) ++ ([0] : List UInt8)).length J) ?_
  refine wl_nil <| wq_blk_normal ?_
  have aa : ((((sha a) ++ List.replicate j (0 : UInt8)) ++ ([0] : List UInt8)) : List UInt8) = (sha a) ++ List.replicate (j + 1) (0 : UInt8) := by rw [List.replicate_succ', List.append_assoc]
  refine wq_loopP (w0 := Q) [(2, (vs none 0 0)), (3, (.slice I ((sha a) ++ List.replicate (j + 1) (0 : UInt8)).length J))] ?_ ?_ ?_
  · exact ⟨rfl, (cA (fun l : List UInt8 => Value.slice I l.length J) aa), trivial⟩
  · exact fun u => ⟨(j + 1), u, I, J, rfl, a2, ((((Ch.refl (fun k => g.heap.size ≤ k) p).ext Y (fun k hk => hk)).extk H).ext Z (fun k hk => nT (Nat.le_refl g.heap.size) (own_lt s k hk).1)), (by omega), (aa ▸ ⟨a0, a1⟩)⟩
  · show 64 - ((sha a) ++ List.replicate (j + 1) (0 : UInt8)).length < 64 - ((sha a) ++ List.replicate j (0 : UInt8)).length; simp only [List.length_append, List.length_replicate]; omega

theorem cimasked (d : World) (B : Value) (a : List UInt8) (K : R_22 d B a) (b : UInt8)  : Fn Try.prog 92 #[B, (v8 ((b).toNat : Int))] d (fun v g => Keep d g ∧ O_22 g d.heap.size v (maskB a b)) := by
 obtain ⟨h, i, rfl, s, V⟩ := K
 refine fn_ofS (n := 23) [(vs h a.length i), (v8 ((b).toNat : Int))] Try.func92 rfl rfl ?_
 refine sr ?_
 refine aw (vs none 0 0) ?_
 refine nx ?_
 refine wl_lit0 wN rfl rfl slTy_22 (fun w => by kernel_rfl) ?_
 intro t A C L
 have D := (Ch.base d).extk C
 refine aw (vs (some t) 0 0) ?_
 refine n4 ?_
 refine mw (vs h a.length i) ?_
 refine ln wN slTy_22 (s.from0 D) ?_
 refine mw (vi 0) ?_
 refine wl_nil <| wq_then <| wc_block ?_
 have E : ([] : List UInt8) = (a.take 0).map (fun y => y ^^^ b) := by rfl
 have F : 0 = ((a.take 0).map (fun y => y ^^^ b)).length := by rw [← E]; try (first | rfl | simp only [List.length_set] | simp)
 refine wc_loopP [(1, (v8 ((b).toNat : Int))), (4, (vs none 0 0)), (5, (.slice (some t) ((a.take 0).map (fun y => y ^^^ b)).length 0)), (9, (vs h a.length i)), (10, (vi (a.length : Int))), (11, (vi ((0 : Nat) : Int)))] ⟨rfl, rfl, rfl, rfl, rfl, (cA (Value.int .i64) (show (0 : Int) = ((0 : Nat) : Int) by omega)), trivial⟩ (fun e' g => ∃ (k : Nat) (G : Env) (e : Option Addr) (f : Nat), e' = pt G [(1, (v8 ((b).toNat : Int))), (4, (vs none 0 0)), (5, (.slice e ((a.take k).map (fun y => y ^^^ b)).length f)), (9, (vs h a.length i)), (10, (vi (a.length : Int))), (11, (vi ((k : Nat) : Int)))] ∧ Ch (fun k => d.heap.size ≤ k) d g ∧ Ch (fun k => d.heap.size ≤ k) A g ∧ k ≤ a.length ∧ (World.ownsRow g d.heap.size 5 1 (.slice e ((a.take k).map (fun y => y ^^^ b)).length f) ((a.take k).map (fun y => y ^^^ b)).length (((a.take k).map (fun y => y ^^^ b)).map bV) ∧ ((a.take k).map (fun y => y ^^^ b)).length ≤ 1073741824)) (fun e' _ => a.length - ((intOf (e' 11))).toNat) ?_ ?_
 ·exact fun u => ⟨0, u, (some t), 0, rfl, D, (Ch.refl (fun k => d.heap.size ≤ k) A), (by omega), ⟨(by rw [← F, ← E]; exact L), (by rw [← F]; first | exact (by simp) | (simp only [List.length_append, List.length_take, List.length_replicate]; omega))⟩⟩
 ·rintro _ M ⟨k, G, e, f, rfl, m, H, W, ⟨o, N⟩⟩
  have hml : ((a.take k).map (fun y => y ^^^ b)).length = min k a.length := by rw [List.length_map, List.length_take]
  refine sr ?_
  refine pu (vb (decide (((k : Nat) : Int) < (a.length : Int)))) wN ?_
  refine wl_nil <| wq_then <| wc_seq ?_
  rcases bf (decide (((k : Nat) : Int) < (a.length : Int))) with j | j
  ·have X := dF j
   refine cf j ?_
   refine wc_exit <| wq_then_exit <| wq_then_exit <| wq_blk_exit <| wq_then <| sr ?_
   refine mw (vs e ((a.take k).map (fun y => y ^^^ b)).length f) ?_
   refine aw (vs e ((a.take k).map (fun y => y ^^^ b)).length f) ?_
   refine n3 ?_
   refine rt (vs e ((a.take k).map (fun y => y ^^^ b)).length f) ?_
   refine ⟨m.keep0, ?_⟩
   have O : maskB a b = ((a.take k).map (fun y => y ^^^ b)) := by exact (map_end (by omega)).symm
   rw [O]
   exact ⟨_, _, rfl, o, N, ⟨trivial, trivial⟩⟩
  have Y := dT j
  refine ct j ?_
  refine wc_skip <| wq_then <| wc_seq <| wc_block <| sr ?_
  refine ix wN ((k : Nat) : Int) slTy_22 (s.from0 m) ?_
  refine eb (x := a) k wN isAgg_5 (s.from0 m) ?_
  refine aw (v8 ((a.getD k 0).toNat : Int)) ?_
  refine wl_nil <| wq_then <| wc_region ?_
  refine mw (vs e ((a.take k).map (fun y => y ^^^ b)).length f) ?_
  refine mw (v8 ((a.getD k 0).toNat : Int)) ?_
  refine mw (v8 ((b).toNat : Int)) ?_
  refine wl_xor8 (a.getD k 0) (b) wN rfl rfl (by kernel_rfl) ?_
  refine ltB ([((a.getD k 0) ^^^ (b))] : List UInt8) wN slTy_22 ?_
  intro Z aa ab p P
  have Q := (own_kp o p)
  refine apB ((a.take k).map (fun y => y ^^^ b)) ([((a.getD k 0) ^^^ (b))] : List UInt8) wN slTy_22 Q (Rd.of_own P) (z3 C H p) ?_
  intro q r ac I R ad S
  have T := (m.extk p).ext I (fun k hk => nT (Nat.le_refl d.heap.size) (own_lt o k hk).1)
  refine aw (vs q (((a.take k).map (fun y => y ^^^ b)) ++ ([((a.getD k 0) ^^^ (b))] : List UInt8)).length r) ?_
  refine wl_nil <| wq_blk_normal <| wq_then <| wc_region ?_
  refine ar (((k : Nat) : Int) + 1) wN ?_
  refine mw (vi (((k : Nat) : Int) + 1)) ?_
  refine wl_nil ?_
  have J : ((((a.take k).map (fun y => y ^^^ b)) ++ ([((a.getD k 0) ^^^ (b))] : List UInt8)) : List UInt8) = (a.take (k + 1)).map (fun y => y ^^^ b) := by exact map_next (z := 0) (by omega)
  refine wq_loopP (w0 := M) [(1, (v8 ((b).toNat : Int))), (4, (vs none 0 0)), (5, (.slice q ((a.take (k + 1)).map (fun y => y ^^^ b)).length r)), (9, (vs h a.length i)), (10, (vi (a.length : Int))), (11, (vi (((k + 1) : Nat) : Int)))] ?_ ?_ ?_
  · exact ⟨rfl, rfl, (cA (fun l : List UInt8 => Value.slice q l.length r) J), rfl, rfl, (cA (Value.int .i64) (show ((((k : Nat) : Int) + 1) : Int) = (((k + 1) : Nat) : Int) by omega)), trivial⟩
  · exact fun u => ⟨(k + 1), u, q, r, rfl, T, ((((Ch.refl (fun k => d.heap.size ≤ k) A).ext H (fun k hk => hk)).extk p).ext I (fun k hk => nT (Nat.le_refl d.heap.size) (own_lt o k hk).1)), (by omega), (J ▸ ⟨R, S⟩)⟩
  · show a.length - ((((k + 1) : Nat) : Int)).toNat < a.length - (((k : Nat) : Int)).toNat; omega

theorem ciHmac (e : World) (u : Value) (a : List UInt8) (V : R_22 e u a) (x : Value) (b : List UInt8) (W : R_22 e x b)  : Fn Try.prog 83 #[u, x] e (fun v y => Keep e y ∧ O_22 y e.heap.size v (hmac a b)) := by
 obtain ⟨i, j, rfl, A, X⟩ := V
 obtain ⟨f, g, rfl, B, Y⟩ := W
 refine fn_ofS (n := 27) [(vs i a.length j), (vs f b.length g)] Try.func83 rfl rfl ?_
 refine sr ?_
 refine aw (vs none 0 0) ?_
 refine n4 ?_
 refine jT1 [(0, (vs i a.length j)), (1, (vs f b.length g)), (4, (vs none 0 0))] (hmac a b = []) ?_ fun C => ?_
 ·intro Z D aa aA
  have ab := (Ch.base e).extk aa
  refine sr ?_
  refine aw (vs none 0 0) ?_
  refine n1 ?_
  refine rt (vs none 0 0) ?_
  refine ⟨ab.keep0, ?_⟩
  rw [Z]
  exact ⟨_, _, rfl, (by first | exact own_nil _ _ _ _ | exact OLv.nil _ _ _ _), (by simp), ⟨trivial, trivial⟩⟩
 refine mw (vs i a.length j) ?_
 refine ln wN slTy_22 A ?_
 refine pu (vb (decide (1048576 < (a.length : Int)))) wN ?_
 refine mw (vb (decide (1048576 < (a.length : Int)))) ?_
 rcases bt (decide (1048576 < (a.length : Int))) with d | d
 ·have aB := dT d
  iterate 3 refine sk d ?_
  refine pk (vb true) wN d ?_
  refine n2 ?_
  refine ct (Eq.refl true) ?_
  have ac : hmac a b = [] := by first | exact hmac_f (by omega) | exact hmac_g (by omega) (by omega) | exact hmac_i (by omega) (by omega)
  exact wj (C ac _ (Ch.refl _ _))
 have aC := dF d
 refine mv (vs f b.length g) (wS d) ?_
 refine ln (wS d) slTy_22 B ?_
 refine pu (vb (decide (1048512 < (b.length : Int)))) (wS d) ?_
 refine pf (vb (decide (1048512 < (b.length : Int)))) wN d ?_
 refine n2 ?_
 rcases bt (decide (1048512 < (b.length : Int))) with h | h
 ·have aD := dT h
  refine ct h ?_
  have ad : hmac a b = [] := by first | exact hmac_f (by omega) | exact hmac_g (by omega) (by omega) | exact hmac_i (by omega) (by omega)
  exact wj (C ad _ (Ch.refl _ _))
 have aE := dF h
 refine cf h ?_
 refine y1 ?_
 refine mw (vs i a.length j) ?_
 refine cl wN (ciBlockKey e _ a (mR_22 A X)) ?_
 rintro _ D ⟨E, ⟨o, p, rfl, F, G, aF⟩⟩
 have aG := blockKey_le a
 refine aw (vs o (blockKey a).length p) ?_
 refine nx ?_
 refine mw (vs o (blockKey a).length p) ?_
 refine cl wN (cimasked D _ (blockKey a) (mR_22 (Rd.of_own F) G) 92) ?_
 rintro _ ae ⟨q, ⟨H, I, rfl, af, ah, aH⟩⟩
 have ai := ((Ch.base e).extk E).extk q
 have aI := maskB_len (blockKey a) 92
 refine mw (vs o (blockKey a).length p) ?_
 have aj := (own_kp F q)
 refine cl wN (cimasked ae _ (blockKey a) (mR_22 (Rd.of_own aj) G) 54) ?_
 rintro _ aJ ⟨r, ⟨J, K, rfl, ak, am, aK⟩⟩
 have aL := maskB_len (blockKey a) 54
 refine mw (vs f b.length g) ?_
 refine wl_lit [(vs J (maskB (blockKey a) 54).length K), (vs f b.length g)] wN rfl rfl slTy_87 (m := 2) rfl (by simp only [maxLen]; omega) (fun w => by kernel_rfl) ?_
 intro aM an k M
 obtain ⟨aN, aO, rfl⟩ := own_form M
 have N := (ai.extk r).extk k
 have ao := (own_kp ak k)
 refine cl wN (cijoined an _ [(maskB (blockKey a) 54), b] (mR_87 (RLv.mk (L := LT_22) [((maskB (blockKey a) 54), [(J, K)]), (b, [(f, g)])] (Rd.of_own M) rfl ⟨⟨⟨(Rd.of_own ao), am⟩, trivial⟩, ⟨⟨⟨(B.from0 N), Y⟩, trivial⟩, trivial⟩⟩ (by first | decide | exact Nat.le_of_ble_eq_true rfl)) (by first | decide | exact Nat.le_of_ble_eq_true rfl)) (by first | omega | (rw [joinB_l2]; omega) | (rw [joinB_l2]; simp only [List.length_cons, List.length_nil, maskB_len]; omega) | (rw [joinB_l3]; simp only [List.length_cons, List.length_nil, maskB_len]; omega) | (simp only [joinB, List.flatten_cons, List.flatten_nil, List.length_append, List.length_cons, List.length_nil, maskB_len]; omega))) ?_
 rintro _ ap ⟨s, ⟨aP, aQ, rfl, aq, au, aR⟩⟩
 have aS := (show (joinB [(maskB (blockKey a) 54), b]).length = (maskB (blockKey a) 54).length + b.length by simp only [joinB, List.flatten_cons, List.flatten_nil, List.length_append, List.length_cons, List.length_nil]; omega)
 refine cl wN (ciSha ap _ (joinB [(maskB (blockKey a) 54), b]) (mR_22 (Rd.of_own aq) au)) ?_
 rintro _ aT ⟨t, ⟨O, P, rfl, av, ax, aU⟩⟩
 have ay := (N.extk s).extk t
 have aV := sha_le (joinB [(maskB (blockKey a) 54), b])
 refine wl_lit [(vs H (maskB (blockKey a) 92).length I), (vs O (sha (joinB [(maskB (blockKey a) 54), b])).length P)] wN rfl rfl slTy_87 (m := 2) rfl (by simp only [maxLen]; omega) (fun w => by kernel_rfl) ?_
 intro aW az l Q
 obtain ⟨aX, aY, rfl⟩ := own_form Q
 have a0 := (own_kp av l)
 have a1 := (own_kp (own_kp (own_kp (own_kp (own_kp af r) k) s) t) l)
 refine cl wN (cijoined az _ [(maskB (blockKey a) 92), (sha (joinB [(maskB (blockKey a) 54), b]))] (mR_87 (RLv.mk (L := LT_22) [((maskB (blockKey a) 92), [(H, I)]), ((sha (joinB [(maskB (blockKey a) 54), b])), [(O, P)])] (Rd.of_own Q) rfl ⟨⟨⟨(Rd.of_own a1), ah⟩, trivial⟩, ⟨⟨⟨(Rd.of_own a0), ax⟩, trivial⟩, trivial⟩⟩ (by first | decide | exact Nat.le_of_ble_eq_true rfl)) (by first | decide | exact Nat.le_of_ble_eq_true rfl)) (by first | omega | (rw [joinB_l2]; omega) | (rw [joinB_l2]; simp only [List.length_cons, List.length_nil, maskB_len]; omega) | (rw [joinB_l3]; simp only [List.length_cons, List.length_nil, maskB_len]; omega) | (simp only [joinB, List.flatten_cons, List.flatten_nil, List.length_append, List.length_cons, List.length_nil, maskB_len]; omega))) ?_
 rintro _ a2 ⟨R, ⟨aZ, ba, rfl, a3, a4, bb⟩⟩
 have bc := (show (joinB [(maskB (blockKey a) 92), (sha (joinB [(maskB (blockKey a) 54), b]))]).length = (maskB (blockKey a) 92).length + (sha (joinB [(maskB (blockKey a) 54), b])).length by simp only [joinB, List.flatten_cons, List.flatten_nil, List.length_append, List.length_cons, List.length_nil]; omega)
 refine cl wN (ciSha a2 _ (joinB [(maskB (blockKey a) 92), (sha (joinB [(maskB (blockKey a) 54), b]))]) (mR_22 (Rd.of_own a3) a4)) ?_
 rintro _ bd ⟨a5, ⟨S, T, rfl, a6, a7, be⟩⟩
 have a8 := ((ay.extk l).extk R).extk a5
 have bg := sha_le (joinB [(maskB (blockKey a) 92), (sha (joinB [(maskB (blockKey a) 54), b]))])
 refine aw (vs S (sha (joinB [(maskB (blockKey a) 92), (sha (joinB [(maskB (blockKey a) 54), b]))])).length T) ?_
 refine n3 ?_
 refine rt (vs S (sha (joinB [(maskB (blockKey a) 92), (sha (joinB [(maskB (blockKey a) 54), b]))])).length T) ?_
 refine ⟨a8.keep0, ?_⟩
 have a9 : hmac a b = (sha (joinB [(maskB (blockKey a) 92), (sha (joinB [(maskB (blockKey a) 54), b]))])) := by first | exact hmac_f (by omega) | exact hmac_g (by omega) (by omega) | exact hmac_i (by omega) (by omega)
 rw [a9]
 exact ⟨_, _, rfl, (own_lo a6 (z8 E q r k s t l R)), a7, ⟨trivial, trivial⟩⟩

def i_Extract (a : List UInt8) (b : List UInt8) : (List UInt8) := (hmac a b)
theorem ciExtract (d : World) (e : Value) (a : List UInt8) (o : R_22 d e a) (f : Value) (b : List UInt8) (p : R_22 d f b)  : Fn Try.prog 80 #[e, f] d (fun v g => Keep d g ∧ O_22 g d.heap.size v (i_Extract a b)) := by
 obtain ⟨h, i, rfl, q, r⟩ := o
 obtain ⟨j, k, rfl, s, t⟩ := p
 refine fn_ofS (n := 8) [(vs h a.length i), (vs j b.length k)] Try.func80 rfl rfl ?_
 refine sr ?_
 refine aw (vs none 0 0) ?_
 refine nx ?_
 refine mw (vs h a.length i) ?_
 refine mw (vs j b.length k) ?_
 refine cl wN (ciHmac d _ a (mR_22 q r) _ b (mR_22 s t)) ?_
 rintro _ B ⟨u, ⟨l, m, rfl, w, x, C⟩⟩
 have y := (Ch.base d).extk u
 have D := hmac_le a b
 refine aw (vs l (hmac a b).length m) ?_
 refine n3 ?_
 refine rt (vs l (hmac a b).length m) ?_
 refine ⟨y.keep0, ?_⟩
 have A : i_Extract a b = (hmac a b) := by rfl
 rw [A]
 exact ⟨_, _, rfl, w, x, ⟨trivial, trivial⟩⟩

theorem ciExpand (e : World) (Y : Value) (b : List UInt8) (ay : R_22 e Y b) (Z : Value) (a : List UInt8) (az : R_22 e Z a) (d : Int)  : Fn Try.prog 89 #[Y, Z, (vi d)] e (fun v p => Keep e p ∧ O_22_4 p e.heap.size v (expand b a d)) := by
 obtain ⟨q, r, rfl, aa, a0⟩ := ay
 obtain ⟨f, h, rfl, ab, a1⟩ := az
 refine fn_ofS (n := 48) [(vs q b.length r), (vs f a.length h), (vi d)] Try.func89 rfl rfl ?_
 refine sr ?_
 refine aw (vs none 0 0) ?_
 refine aw (vb false) ?_
 refine n4 ?_
 refine jT1 [(0, (vs q b.length r)), (1, (vs f a.length h)), (2, (vi d)), (6, (vs none 0 0)), (7, (vb false))] (expand b a d = ([], false)) ?_ fun P => ?_
 ·intro a2 x a3 bb
  have a4 := (Ch.base e).extk a3
  refine sr ?_
  refine aw (vs none 0 0) ?_
  refine aw (vb false) ?_
  refine n1 ?_
  refine ret_2 (.inl rfl) (vs none 0 0) (vb false) rfl rfl rfl ?_
  refine ⟨a4.keep0, ?_⟩
  rw [a2]
  exact ⟨_, _, rfl, (by first | exact own_nil _ _ _ _ | exact OLv.nil _ _ _ _), (by simp), ⟨trivial, trivial⟩⟩
 refine mw (vi d) ?_
 refine cl wN (ciwithin e d 0 8160) ?_
 rintro _ x ⟨y, rfl⟩
 have Q := (Ch.base e).extk y
 refine pu (vb (!(i_within d 0 8160))) wN ?_
 refine mw (vb (!(i_within d 0 8160))) ?_
 rcases bf (i_within d 0 8160) with i | i
 ·have bc := impl_within_f i
  iterate 3 refine sk (cA not i) ?_
  refine pk (vb true) wN (cA not i) ?_
  refine mw (vb true) ?_
  iterate 3 refine sk (Eq.refl true) ?_
  refine pk (vb true) wN (Eq.refl true) ?_
  refine n2 ?_
  refine ct (Eq.refl true) ?_
  have a5 : expand b a d = ([], false) := by first | exact expand_f (by omega) | exact expand_t (by omega) (by omega) (by omega) (by omega) (by omega) (by omega)
  exact wj (P a5 _ y)
 have bd := impl_within_t i
 refine mv (vs f a.length h) (wS (cA not i)) ?_
 refine ln (wS (cA not i)) slTy_22 (ab.from0 Q) ?_
 refine pu (vb (decide (100 < (a.length : Int)))) (wS (cA not i)) ?_
 refine pf (vb (decide (100 < (a.length : Int)))) wN (cA not i) ?_
 refine mw (vb (decide (100 < (a.length : Int)))) ?_
 rcases bt (decide (100 < (a.length : Int))) with j | j
 ·have be := dT j
  iterate 3 refine sk j ?_
  refine pk (vb true) wN j ?_
  refine n2 ?_
  refine ct (Eq.refl true) ?_
  have a6 : expand b a d = ([], false) := by first | exact expand_f (by omega) | exact expand_t (by omega) (by omega) (by omega) (by omega) (by omega) (by omega)
  exact wj (P a6 _ y)
 have bg := dF j
 refine mv (vs q b.length r) (wS j) ?_
 refine ln (wS j) slTy_22 (aa.from0 Q) ?_
 refine pu (vb (decide (1048576 < (b.length : Int)))) (wS j) ?_
 refine pf (vb (decide (1048576 < (b.length : Int)))) wN j ?_
 refine n2 ?_
 rcases bt (decide (1048576 < (b.length : Int))) with F | F
 ·have bh := dT F
  refine ct F ?_
  have a7 : expand b a d = ([], false) := by first | exact expand_f (by omega) | exact expand_t (by omega) (by omega) (by omega) (by omega) (by omega) (by omega)
  exact wj (P a7 _ y)
 have bi := dF F
 refine cf F ?_
 refine y1 ?_
 refine wl_lit0 wN rfl rfl slTy_22 (fun w => by kernel_rfl) ?_
 intro R a8 S a9
 refine aw (vs (some R) 0 0) ?_
 refine nx ?_
 refine wl_lit0 wN rfl rfl slTy_22 (fun w => by kernel_rfl) ?_
 intro T V G aA
 have aB := (Q.extk S).extk G
 refine aw (vs (some T) 0 0) ?_
 refine n4 ?_
 refine aw (vi 1) ?_
 refine wl_nil <| wq_then <| wc_block ?_
 have aC := (own_kp a9 G)
 have ac : ([] : List UInt8) = (expN b a 0).1 := by rfl
 have ad : 0 = ((expN b a 0).1).length := by rw [← ac]; try (first | rfl | simp only [List.length_set] | simp)
 have ae : ([] : List UInt8) = (expN b a 0).2 := by rfl
 have af : 0 = ((expN b a 0).2).length := by rw [← ae]; try (first | rfl | simp only [List.length_set] | simp)
 refine wc_loopP [(0, (vs q b.length r)), (1, (vs f a.length h)), (2, (vi d)), (6, (vs none 0 0)), (7, (vb false)), (8, (.slice (some R) ((expN b a 0).1).length 0)), (9, (.slice (some T) ((expN b a 0).2).length 0)), (10, (vi (((0 : Nat) : Int) + 1)))] ⟨rfl, rfl, rfl, rfl, rfl, rfl, rfl, (cA (Value.int .i64) (show (1 : Int) = (((0 : Nat) : Int) + 1) by omega)), trivial⟩ (fun e' p => ∃ (k : Nat) (ah : Env) (A : Option Addr) (B : Nat) (C : Option Addr) (D : Nat), e' = pt ah [(0, (vs q b.length r)), (1, (vs f a.length h)), (2, (vi d)), (6, (vs none 0 0)), (7, (vb false)), (8, (.slice A ((expN b a k).1).length B)), (9, (.slice C ((expN b a k).2).length D)), (10, (vi (((k : Nat) : Int) + 1)))] ∧ Ch (fun k => e.heap.size ≤ k) e p ∧ Ch (fun k => x.heap.size ≤ k) V p ∧ 32 * ((k : Nat) : Int) < d + 32 ∧ (World.ownsRow p x.heap.size 5 1 (.slice A ((expN b a k).1).length B) ((expN b a k).1).length (((expN b a k).1).map bV) ∧ ((expN b a k).1).length ≤ 1073741824) ∧ (World.ownsRow p a8.heap.size 5 1 (.slice C ((expN b a k).2).length D) ((expN b a k).2).length (((expN b a k).2).map bV) ∧ ((expN b a k).2).length ≤ 1073741824)) (fun e' _ => d.toNat - (lenOf (e' 8))) ?_ ?_
 ·exact fun u => ⟨0, u, (some R), 0, (some T), 0, rfl, aB, (Ch.refl (fun k => x.heap.size ≤ k) V), (by omega), ⟨(by rw [← ad, ← ac]; exact aC), (by rw [← ad]; first | exact (by simp) | (simp only [List.length_append, List.length_take, List.length_replicate]; omega))⟩, ⟨(by rw [← af, ← ae]; exact aA), (by rw [← af]; first | exact (by simp) | (simp only [List.length_append, List.length_take, List.length_replicate]; omega))⟩⟩
 ·rintro _ ai ⟨k, ah, A, B, C, D, rfl, aj, K, bj, ⟨s, aD⟩, ⟨aE, aF⟩⟩
  have hxl := expN_len (prk := b) (info := a) (by omega) (by omega) k
  have hxm := expN_len (prk := b) (info := a) (by omega) (by omega) (k + 1)
  refine wc_seq <| sr ?_
  refine mw (vs A ((expN b a k).1).length B) ?_
  refine ln wN slTy_22 (Rd.of_own s) ?_
  refine mw (vi d) ?_
  refine pu (vb (decide ((((expN b a k).1).length : Int) < d))) wN ?_
  refine n2 ?_
  rcases bf (decide ((((expN b a k).1).length : Int) < d)) with H | H
  ·have bk := dF H
   refine cf H ?_
   refine wc_exit <| wq_then_exit <| wq_then_exit <| wq_blk_exit <| wq_then <| sr ?_
   refine mw (vs A ((expN b a k).1).length B) ?_
   refine mw (vi d) ?_
   refine slv (((expN b a k).1).take ((d).toNat)) 0 ((d).toNat) wN slTy_22 (Rd.of_own s) (by first | omega | (simp <;> omega)) (by first | omega | (simp <;> omega)) (by first | rfl | (simp; done) | (rw [List.take_of_length_le (by first | (simp; done) | (simp; omega))])) rfl rfl rfl rfl (.inl ⟨rfl, rfl⟩) (.inr ⟨_, _, _, rfl, rfl, by omega⟩) ?_
   have aG : 0 ≤ ((d).toNat) := (by first | omega | (simp <;> omega))
   have aH : ((d).toNat) ≤ ((expN b a k).1).length := (by first | omega | (simp <;> omega))
   refine cl wN (ciclone ai _ (((expN b a k).1).take ((d).toNat)) (mR_22 (Rd.subV (x' := (((expN b a k).1).take ((d).toNat))) (Rd.of_own s) aG aH (by first | rfl | (simp; done) | (rw [List.take_of_length_le (by first | (simp; done) | (simp; omega))]))) (nT (by simp only [List.length_take, List.length_drop]; omega) aD))) ?_
   rintro _ aI ⟨aJ, ⟨ak, am, rfl, aK, aL, bl⟩⟩
   have aM := aj.extk aJ
   refine aw (vs ak ((((expN b a k).1).take ((d).toNat))).length am) ?_
   refine aw (vb true) ?_
   refine n3 ?_
   refine ret_2 (.inl rfl) (vs ak ((((expN b a k).1).take ((d).toNat))).length am) (vb true) rfl rfl rfl ?_
   refine ⟨aM.keep0, ?_⟩
   have aN : expand b a d = (((((expN b a k).1).take ((d).toNat))), true) := by first | exact expand_f (by omega) | exact expand_t (by omega) (by omega) (by omega) (by omega) (by omega) (by omega)
   rw [aN]
   exact ⟨_, _, rfl, (own_lo aK (z4 y S G K)), aL, ⟨trivial, trivial⟩⟩
  have bm := dT H
  refine ct H ?_
  refine wc_skip <| wq_then <| wc_seq <| wc_block <| sr ?_
  refine mw (vs q b.length r) ?_
  refine mw (vs C ((expN b a k).2).length D) ?_
  refine mw (vs f a.length h) ?_
  refine mw (vi (((k : Nat) : Int) + 1)) ?_
  refine wl_conv8 (((k : Nat) : Int) + 1) wN rfl rfl (by kernel_rfl) ?_
  refine ltB ([(by8 (((k : Nat) : Int) + 1))] : List UInt8) wN slTy_22 ?_
  intro an ao aI t aO
  refine wl_lit [(vs C ((expN b a k).2).length D), (vs f a.length h), (vs an ([(by8 (((k : Nat) : Int) + 1))] : List UInt8).length ao)] wN rfl rfl slTy_87 (m := 3) rfl (by simp only [maxLen]; omega) (fun w => by kernel_rfl) ?_
  intro bn aP o ap
  obtain ⟨bo, bp, rfl⟩ := own_form ap
  have aq := (aj.extk t).extk o
  have aQ := (own_kp aO o)
  have aR := (own_kp (own_kp aE t) o)
  refine cl wN (cijoined aP _ [((expN b a k).2), a, ([(by8 (((k : Nat) : Int) + 1))] : List UInt8)] (mR_87 (RLv.mk (L := LT_22) [(((expN b a k).2), [(C, D)]), (a, [(f, h)]), (([(by8 (((k : Nat) : Int) + 1))] : List UInt8), [(an, ao)])] (Rd.of_own ap) rfl ⟨⟨⟨(Rd.of_own aR), aF⟩, trivial⟩, ⟨⟨⟨(ab.from0 aq), a1⟩, trivial⟩, ⟨⟨⟨(Rd.of_own aQ), (by simp)⟩, trivial⟩, trivial⟩⟩⟩ (by first | decide | exact Nat.le_of_ble_eq_true rfl)) (by first | decide | exact Nat.le_of_ble_eq_true rfl)) (by first | omega | (rw [joinB_l2]; omega) | (rw [joinB_l2]; simp only [List.length_cons, List.length_nil, maskB_len]; omega) | (rw [joinB_l3]; simp only [List.length_cons, List.length_nil, maskB_len]; omega) | (simp only [joinB, List.flatten_cons, List.flatten_nil, List.length_append, List.length_cons, List.length_nil, maskB_len]; omega))) ?_
  rintro _ aS ⟨E, ⟨bq, br, rfl, aT, aU, bu⟩⟩
  have au := aq.extk E
  have bv := (show (joinB [((expN b a k).2), a, ([(by8 (((k : Nat) : Int) + 1))] : List UInt8)]).length = ((expN b a k).2).length + a.length + 1 by simp only [joinB, List.flatten_cons, List.flatten_nil, List.length_append, List.length_cons, List.length_nil]; omega)
  refine cl wN (ciHmac aS _ b (mR_22 (aa.from0 au) a0) _ (joinB [((expN b a k).2), a, ([(by8 (((k : Nat) : Int) + 1))] : List UInt8)]) (mR_22 (Rd.of_own aT) aU)) ?_
  rintro _ bw ⟨M, ⟨I, J, rfl, W, aV, bz⟩⟩
  have b0 := hmac_le b (joinB [((expN b a k).2), a, ([(by8 (((k : Nat) : Int) + 1))] : List UInt8)])
  refine aw (vs I (hmac b (joinB [((expN b a k).2), a, ([(by8 (((k : Nat) : Int) + 1))] : List UInt8)])).length J) ?_
  refine wl_nil <| wq_then <| wc_region ?_
  refine mw (vs A ((expN b a k).1).length B) ?_
  refine mw (vs I (hmac b (joinB [((expN b a k).2), a, ([(by8 (((k : Nat) : Int) + 1))] : List UInt8)])).length J) ?_
  have aW := (own_kp (own_kp (own_kp (own_kp s t) o) E) M)
  refine apB ((expN b a k).1) (hmac b (joinB [((expN b a k).2), a, ([(by8 (((k : Nat) : Int) + 1))] : List UInt8)])) wN slTy_22 aW (Rd.of_own W) (z7 S G K t o E M) ?_
  intro N O b1 X aX b2 aY
  have aZ := (au.extk M).ext X (fun k hk => nT y.size (own_lt s k hk).1)
  refine aw (vs N (((expN b a k).1) ++ (hmac b (joinB [((expN b a k).2), a, ([(by8 (((k : Nat) : Int) + 1))] : List UInt8)]))).length O) ?_
  refine wl_nil <| wq_blk_normal <| wq_then <| wc_region ?_
  refine mw (vi (((k : Nat) : Int) + 1)) ?_
  refine ar ((((k : Nat) : Int) + 1) + 1) wN ?_
  refine aw (vi ((((k : Nat) : Int) + 1) + 1)) ?_
  refine wl_nil ?_
  have av : ((((expN b a k).1) ++ (hmac b (joinB [((expN b a k).2), a, ([(by8 (((k : Nat) : Int) + 1))] : List UInt8)]))) : List UInt8) = (expN b a (k + 1)).1 := by exact expN_1 _ _ _ (by simp [joinB])
  have ba := (own_ch W X (fun g hg hlt hk => by have b3 := (own_lt W g hg).1; have b4 := (own_lt s g hk).2; have b5 := (z3 t o E); omega))
  have ax : ((hmac b (joinB [((expN b a k).2), a, ([(by8 (((k : Nat) : Int) + 1))] : List UInt8)])) : List UInt8) = (expN b a (k + 1)).2 := by exact expN_2 _ _ _ (by simp [joinB])
  refine wq_loopP (w0 := ai) [(0, (vs q b.length r)), (1, (vs f a.length h)), (2, (vi d)), (6, (vs none 0 0)), (7, (vb false)), (8, (.slice N ((expN b a (k + 1)).1).length O)), (9, (.slice I ((expN b a (k + 1)).2).length J)), (10, (vi ((((k + 1) : Nat) : Int) + 1)))] ?_ ?_ ?_
  · exact ⟨rfl, rfl, rfl, rfl, rfl, (cA (fun l : List UInt8 => Value.slice N l.length O) av), (cA (fun l : List UInt8 => Value.slice I l.length J) ax), (cA (Value.int .i64) (show (((((k : Nat) : Int) + 1) + 1) : Int) = ((((k + 1) : Nat) : Int) + 1) by omega)), trivial⟩
  · exact fun u => ⟨(k + 1), u, N, O, I, J, rfl, aZ, (((((((Ch.refl (fun k => x.heap.size ≤ k) V).ext K (fun k hk => hk)).extk t).extk o).extk E).extk M).ext X (fun k hk => nT (Nat.le_refl x.heap.size) (own_lt s k hk).1)), (by omega), (av ▸ ⟨aX, aY⟩), (ax ▸ ⟨(own_lo ba (z5 G K t o E)), aV⟩)⟩
  · show d.toNat - ((expN b a (k + 1)).1).length < d.toNat - ((expN b a k).1).length; omega

def R_9 (w : World) (v : Value) (x : (ByteArray)) : Prop := v = .string x
theorem ciDerive (d : World) (g : Value) (b : List UInt8) (o : R_22 d g b) (h : Value) (a : ByteArray) (p : R_9 d h a) (B : (strB a).length ≤ 100) : Fn Try.prog 79 #[g, h] d (fun v i => Keep d i ∧ O_22 i d.heap.size v (derive b a)) := by
 obtain ⟨j, k, rfl, q, r⟩ := o
 obtain rfl := p
 refine fn_ofS (n := 15) [(vs j b.length k), (.string a)] Try.func79 rfl rfl ?_
 refine sr ?_
 refine aw (vs none 0 0) ?_
 refine nx ?_
 refine mw (vs j b.length k) ?_
 refine mw (.string a) ?_
 refine wl_s2b a wN rfl rfl rfl rfl Try.underlying9 Try.underlying22 Try.underlying5 (by first | omega | (simp only [strB_mk]; decide)) ?_
 intro C D s l t
 have m := (Ch.base d).extk l
 refine cl wN (ciExpand s _ b (mR_22 (q.from0 m) r) _ (strB a) (mR_22 t (by first | omega | (simp only [strB_mk]; decide))) 32) ?_
 rintro _ E ⟨u, ⟨e, f, rfl, w, x, F⟩⟩
 have y := m.extk u
 have G := expand_le b (strB a) 32
 refine mw (.tuple #[(vs e ((expand b (strB a) 32).1).length f), (vb ((expand b (strB a) 32).2))]) ?_
 refine pu (vs e ((expand b (strB a) 32).1).length f) wN ?_
 refine pu (vb ((expand b (strB a) 32).2)) wN ?_
 refine aw (vs e ((expand b (strB a) 32).1).length f) ?_
 refine aw (vb ((expand b (strB a) 32).2)) ?_
 refine nx ?_
 refine mw (vs e ((expand b (strB a) 32).1).length f) ?_
 refine aw (vs e ((expand b (strB a) 32).1).length f) ?_
 refine n3 ?_
 refine rt (vs e ((expand b (strB a) 32).1).length f) ?_
 refine ⟨y.keep0, ?_⟩
 have A : derive b a = (expand b (strB a) 32).1 := by rfl
 rw [A]
 exact ⟨_, _, rfl, (own_lo w l.size), x, ⟨trivial, trivial⟩⟩

theorem mR_9 {w : World} {x : ByteArray} : R_9 w (.string x) x := rfl
def i_FinishKey (a : List UInt8) : (List UInt8) := bif (i_PskOk a) then ((derive (i_Extract ([114, 111, 97, 109] : List UInt8) a) (ByteArray.mk ([102, 105, 110, 105, 115, 104] : List UInt8).toArray))) else ([])
theorem ciFinishKey (b : World) (h : Value) (a : List UInt8) (w : R_22 b h a)  : Fn Try.prog 63 #[h] b (fun v i => Keep b i ∧ O_22 i b.heap.size v (i_FinishKey a)) := by
 obtain ⟨e, f, rfl, j, l⟩ := w
 refine fn_ofS (n := 11) [(vs e a.length f)] Try.func63 rfl rfl ?_
 refine sr ?_
 refine aw (vs none 0 0) ?_
 refine n4 ?_
 refine mw (vs e a.length f) ?_
 refine cl wN (ciPskOk b _ a (mR_22 j l)) ?_
 rintro _ H ⟨g, rfl⟩
 have m := (Ch.base b).extk g
 refine pu (vb (!(i_PskOk a))) wN ?_
 refine n2 ?_
 rcases bf (i_PskOk a) with d | d
 ·refine ct (cA not d) ?_
  refine sr ?_
  refine aw (vs none 0 0) ?_
  refine n1 ?_
  refine rt (vs none 0 0) ?_
  refine ⟨m.keep0, ?_⟩
  simp only [i_FinishKey, d, cond_true, cond_false]
  exact ⟨_, _, rfl, (by first | exact own_nil _ _ _ _ | exact OLv.nil _ _ _ _), (by simp), ⟨trivial, trivial⟩⟩
 refine cf (cA not d) ?_
 refine y1 ?_
 refine ltB ([114, 111, 97, 109] : List UInt8) wN slTy_22 ?_
 intro I J K o p
 refine wl_cvs p wN rfl rfl rfl rfl Try.underlying22 Try.underlying5 (by first | decide | (simp; done) | omega) ?_
 intro x q y
 have r := (m.extk o).ext q (fun k hk => nT g.size (own_lt p k hk).1)
 refine mw (vs e a.length f) ?_
 refine cl wN (ciExtract x _ ([114, 111, 97, 109] : List UInt8) (mR_22 y (by simp)) _ a (mR_22 (j.from0 r) l)) ?_
 rintro _ A ⟨s, ⟨L, M, rfl, B, C, N⟩⟩
 refine cl wN (ciDerive A _ (i_Extract ([114, 111, 97, 109] : List UInt8) a) (mR_22 (Rd.of_own B) C) _ (ByteArray.mk ([102, 105, 110, 105, 115, 104] : List UInt8).toArray) (mR_9) (by first | omega | decide)) ?_
 rintro _ O ⟨D, ⟨t, u, rfl, E, F, P⟩⟩
 have G := (r.extk s).extk D
 have Q := derive_le (i_Extract ([114, 111, 97, 109] : List UInt8) a) (ByteArray.mk ([102, 105, 110, 105, 115, 104] : List UInt8).toArray)
 refine aw (vs t (derive (i_Extract ([114, 111, 97, 109] : List UInt8) a) (ByteArray.mk ([102, 105, 110, 105, 115, 104] : List UInt8).toArray)).length u) ?_
 refine n3 ?_
 refine rt (vs t (derive (i_Extract ([114, 111, 97, 109] : List UInt8) a) (ByteArray.mk ([102, 105, 110, 105, 115, 104] : List UInt8).toArray)).length u) ?_
 refine ⟨G.keep0, ?_⟩
 simp only [i_FinishKey, d, cond_true, cond_false]
 exact ⟨_, _, rfl, (own_lo E (z4 g o q s)), F, ⟨trivial, trivial⟩⟩

def i_ProofBody (a : Int) (b : List UInt8) (d : List UInt8) (e : Int) (f : List UInt8) : (List UInt8) := bif (i_within a 1 9) then (bif (i_isNonce b) then (bif (i_isNonce d) then (bif (i_within e 0 1000000) then (bif (decide ((f.length : Int) = 16)) then ((joinB [([102, (by8 a)] : List UInt8), b, d, (putN [] e 4), f])) else ([])) else ([])) else ([])) else ([])) else ([])
theorem ciProofBody (k : World) (b : Int) (F : Value) (d : List UInt8) (ad : R_22 k F d) (G : Value) (e : List UInt8) (ae : R_22 k G e) (a : Int) (H : Value) (f : List UInt8) (af : R_22 k H f)  : Fn Try.prog 64 #[(vi b), F, G, (vi a), H] k (fun v I => Keep k I ∧ O_22 I k.heap.size v (i_ProofBody b d e a f)) := by
 obtain ⟨p, q, rfl, J, K⟩ := ad
 obtain ⟨r, s, rfl, M, N⟩ := ae
 obtain ⟨t, u, rfl, O, ah⟩ := af
 refine fn_ofS (n := 44) [(vi b), (vs p d.length q), (vs r e.length s), (vi a), (vs t f.length u)] Try.func64 rfl rfl ?_
 refine sr ?_
 refine aw (vs none 0 0) ?_
 refine n4 ?_
 refine jT1 [(0, (vi b)), (1, (vs p d.length q)), (2, (vs r e.length s)), (3, (vi a)), (4, (vs t f.length u)), (10, (vs none 0 0))] (i_ProofBody b d e a f = []) ?_ fun y => ?_
 ·intro ai P aj a7
  have ak := (Ch.base k).extk aj
  refine sr ?_
  refine aw (vs none 0 0) ?_
  refine n1 ?_
  refine rt (vs none 0 0) ?_
  refine ⟨ak.keep0, ?_⟩
  rw [ai]
  exact ⟨_, _, rfl, (by first | exact own_nil _ _ _ _ | exact OLv.nil _ _ _ _), (by simp), ⟨trivial, trivial⟩⟩
 refine mw (vi b) ?_
 refine cl wN (ciwithin k b 1 9) ?_
 rintro _ P ⟨l, rfl⟩
 have Q := (Ch.base k).extk l
 refine pu (vb (!(i_within b 1 9))) wN ?_
 refine mw (vb (!(i_within b 1 9))) ?_
 rcases bf (i_within b 1 9) with g | g
 ·have a8 := impl_within_f g
  iterate 3 refine sk (cA not g) ?_
  refine pk (vb true) wN (cA not g) ?_
  refine mw (vb true) ?_
  iterate 3 refine sk (Eq.refl true) ?_
  refine pk (vb true) wN (Eq.refl true) ?_
  refine mw (vb true) ?_
  iterate 3 refine sk (Eq.refl true) ?_
  refine pk (vb true) wN (Eq.refl true) ?_
  refine mw (vb true) ?_
  iterate 3 refine sk (Eq.refl true) ?_
  refine pk (vb true) wN (Eq.refl true) ?_
  refine n2 ?_
  refine ct (Eq.refl true) ?_
  have am : i_ProofBody b d e a f = [] := by simp only [i_ProofBody, g, cond_true, cond_false]
  exact wj (y am _ l)
 have a9 := impl_within_t g
 refine mv (vs p d.length q) (wS (cA not g)) ?_
 refine cl (wS (cA not g)) (ciisNonce P _ d (mR_22 (J.from0 Q) K)) ?_
 rintro _ an ⟨x, rfl⟩
 have R := Q.extk x
 refine pu (vb (!(i_isNonce d))) (wS (cA not g)) ?_
 refine pf (vb (!(i_isNonce d))) wN (cA not g) ?_
 refine mw (vb (!(i_isNonce d))) ?_
 rcases bf (i_isNonce d) with h | h
 ·have aA := isNonce_f h
  iterate 3 refine sk (cA not h) ?_
  refine pk (vb true) wN (cA not h) ?_
  refine mw (vb true) ?_
  iterate 3 refine sk (Eq.refl true) ?_
  refine pk (vb true) wN (Eq.refl true) ?_
  refine mw (vb true) ?_
  iterate 3 refine sk (Eq.refl true) ?_
  refine pk (vb true) wN (Eq.refl true) ?_
  refine n2 ?_
  refine ct (Eq.refl true) ?_
  have ao : i_ProofBody b d e a f = [] := by simp only [i_ProofBody, g, h, cond_true, cond_false]
  exact wj (y ao _ (l.trans x))
 have aB := isNonce_t h
 refine mv (vs r e.length s) (wS (cA not h)) ?_
 refine cl (wS (cA not h)) (ciisNonce an _ e (mR_22 (M.from0 R) N)) ?_
 rintro _ ap ⟨A, rfl⟩
 refine pu (vb (!(i_isNonce e))) (wS (cA not h)) ?_
 refine pf (vb (!(i_isNonce e))) wN (cA not h) ?_
 refine mw (vb (!(i_isNonce e))) ?_
 rcases bf (i_isNonce e) with i | i
 ·have aC := isNonce_f i
  iterate 3 refine sk (cA not i) ?_
  refine pk (vb true) wN (cA not i) ?_
  refine mw (vb true) ?_
  iterate 3 refine sk (Eq.refl true) ?_
  refine pk (vb true) wN (Eq.refl true) ?_
  refine n2 ?_
  refine ct (Eq.refl true) ?_
  have aq : i_ProofBody b d e a f = [] := by simp only [i_ProofBody, g, h, i, cond_true, cond_false]
  exact wj (y aq _ ((l.trans x).trans A))
 have aD := isNonce_t i
 refine mv (vi a) (wS (cA not i)) ?_
 refine cl (wS (cA not i)) (ciwithin ap a 0 1000000) ?_
 rintro _ aE ⟨B, rfl⟩
 have S := (R.extk A).extk B
 refine pu (vb (!(i_within a 0 1000000))) (wS (cA not i)) ?_
 refine pf (vb (!(i_within a 0 1000000))) wN (cA not i) ?_
 refine mw (vb (!(i_within a 0 1000000))) ?_
 rcases bf (i_within a 0 1000000) with j | j
 ·have aF := impl_within_f j
  iterate 3 refine sk (cA not j) ?_
  refine pk (vb true) wN (cA not j) ?_
  refine n2 ?_
  refine ct (Eq.refl true) ?_
  have au : i_ProofBody b d e a f = [] := by simp only [i_ProofBody, g, h, i, j, cond_true, cond_false]
  exact wj (y au _ (((l.trans x).trans A).trans B))
 have aG := impl_within_t j
 refine mv (vs t f.length u) (wS (cA not j)) ?_
 refine ln (wS (cA not j)) slTy_22 (O.from0 S) ?_
 refine pu (vb (!(decide ((f.length : Int) = 16)))) (wS (cA not j)) ?_
 refine pf (vb (!(decide ((f.length : Int) = 16)))) wN (cA not j) ?_
 refine n2 ?_
 rcases bf (decide ((f.length : Int) = 16)) with o | o
 ·have aH := dF o
  refine ct (cA not o) ?_
  have av : i_ProofBody b d e a f = [] := by simp only [i_ProofBody, g, h, i, j, o, cond_true, cond_false]
  exact wj (y av _ (((l.trans x).trans A).trans B))
 have aI := dT o
 refine cf (cA not o) ?_
 refine y1 ?_
 refine mw (vi b) ?_
 refine wl_conv8 b wN rfl rfl (by kernel_rfl) ?_
 refine ltB ([102, (by8 b)] : List UInt8) wN slTy_22 ?_
 intro T V W X ax
 refine mw (vs p d.length q) ?_
 refine mw (vs r e.length s) ?_
 refine mw (vi a) ?_
 refine cl wN (ciPutN W _ _ (show R_22 W (vs none 0 0) [] from ⟨_, _, rfl, (Rd.nil _ _), (by simp)⟩) a 4 (by first | omega | (simp; done) | (simp; omega) | (simp only [List.length_append, List.length_cons, List.length_nil] at *; omega))) ?_
 rintro _ aJ ⟨E, ⟨Y, Z, rfl, ay, az, aK⟩⟩
 have aL := putN_len0 a 4
 refine mw (vs t f.length u) ?_
 refine wl_lit [(vs T ([102, (by8 b)] : List UInt8).length V), (vs p d.length q), (vs r e.length s), (vs Y (putN [] a 4).length Z), (vs t f.length u)] wN rfl rfl slTy_87 (m := 5) rfl (by simp only [maxLen]; omega) (fun w => by kernel_rfl) ?_
 intro aM a0 C aa
 obtain ⟨aN, aO, rfl⟩ := own_form aa
 have D := ((S.extk X).extk E).extk C
 have a1 := (own_kp ay C)
 have a2 := (own_kp (own_kp ax E) C)
 refine cl wN (cijoined a0 _ [([102, (by8 b)] : List UInt8), d, e, (putN [] a 4), f] (mR_87 (RLv.mk (L := LT_22) [(([102, (by8 b)] : List UInt8), [(T, V)]), (d, [(p, q)]), (e, [(r, s)]), ((putN [] a 4), [(Y, Z)]), (f, [(t, u)])] (Rd.of_own aa) rfl ⟨⟨⟨(Rd.of_own a2), (by simp)⟩, trivial⟩, ⟨⟨⟨(J.from0 D), K⟩, trivial⟩, ⟨⟨⟨(M.from0 D), N⟩, trivial⟩, ⟨⟨⟨(Rd.of_own a1), az⟩, trivial⟩, ⟨⟨⟨(O.from0 D), ah⟩, trivial⟩, trivial⟩⟩⟩⟩⟩ (by first | decide | exact Nat.le_of_ble_eq_true rfl)) (by first | decide | exact Nat.le_of_ble_eq_true rfl)) (by first | omega | (rw [joinB_l2]; omega) | (rw [joinB_l2]; simp only [List.length_cons, List.length_nil, maskB_len]; omega) | (rw [joinB_l3]; simp only [List.length_cons, List.length_nil, maskB_len]; omega) | (simp only [joinB, List.flatten_cons, List.flatten_nil, List.length_append, List.length_cons, List.length_nil, maskB_len]; omega))) ?_
 rintro _ aP ⟨a3, ⟨ab, ac, rfl, a4, a5, aQ⟩⟩
 have a6 := D.extk a3
 have aR := (show (joinB [([102, (by8 b)] : List UInt8), d, e, (putN [] a 4), f]).length = 2 + d.length + e.length + (putN [] a 4).length + f.length by simp only [joinB, List.flatten_cons, List.flatten_nil, List.length_append, List.length_cons, List.length_nil]; omega)
 refine aw (vs ab (joinB [([102, (by8 b)] : List UInt8), d, e, (putN [] a 4), f]).length ac) ?_
 refine n3 ?_
 refine rt (vs ab (joinB [([102, (by8 b)] : List UInt8), d, e, (putN [] a 4), f]).length ac) ?_
 refine ⟨a6.keep0, ?_⟩
 simp only [i_ProofBody, g, h, i, j, o, cond_true, cond_false]
 exact ⟨_, _, rfl, (own_lo a4 (z7 l x A B X E C)), a5, ⟨trivial, trivial⟩⟩

theorem ciTag (d : World) (i : Value) (a : List UInt8) (u : R_22 d i a) (j : Value) (b : List UInt8) (w : R_22 d j b)  : Fn Try.prog 65 #[i, j] d (fun v k => Keep d k ∧ O_22 k d.heap.size v (tagP a b)) := by
 obtain ⟨l, m, rfl, x, y⟩ := u
 obtain ⟨o, p, rfl, A, B⟩ := w
 refine fn_ofS (n := 15) [(vs l a.length m), (vs o b.length p)] Try.func65 rfl rfl ?_
 refine sr ?_
 refine aw (vs none 0 0) ?_
 refine nx ?_
 refine mw (vs l a.length m) ?_
 refine mw (vs o b.length p) ?_
 refine cl wN (ciHmac d _ a (mR_22 x y) _ b (mR_22 A B)) ?_
 rintro _ C ⟨q, ⟨f, g, rfl, h, D, M⟩⟩
 have r := (Ch.base d).extk q
 have N := hmac_le a b
 refine aw (vs f (hmac a b).length g) ?_
 refine n4 ?_
 refine mw (vs f (hmac a b).length g) ?_
 refine ln wN slTy_22 (Rd.of_own h) ?_
 refine pu (vb (decide (((hmac a b).length : Int) = 0))) wN ?_
 refine n2 ?_
 rcases bt (decide (((hmac a b).length : Int) = 0)) with e | e
 ·have O := dT e
  refine ct e ?_
  refine sr ?_
  refine aw (vs none 0 0) ?_
  refine n1 ?_
  refine rt (vs none 0 0) ?_
  refine ⟨r.keep0, ?_⟩
  have E : tagP a b = [] := by first | exact tagP_f (by omega) | rfl
  rw [E]
  exact ⟨_, _, rfl, (by first | exact own_nil _ _ _ _ | exact OLv.nil _ _ _ _), (by simp), ⟨trivial, trivial⟩⟩
 have P := dF e
 refine cf e ?_
 refine y1 ?_
 refine mw (vs f (hmac a b).length g) ?_
 refine slv ((hmac a b).take 16) 0 16 wN slTy_22 (Rd.of_own h) (by first | omega | (simp <;> omega)) (by first | omega | (simp <;> omega)) (by first | rfl | (simp; done) | (rw [List.take_of_length_le (by first | (simp; done) | (simp; omega))])) rfl rfl rfl rfl (.inl ⟨rfl, rfl⟩) (.inr ⟨_, _, _, rfl, rfl, by omega⟩) ?_
 have F : 0 ≤ 16 := (by first | omega | (simp <;> omega))
 have G : 16 ≤ (hmac a b).length := (by first | omega | (simp <;> omega))
 refine cl wN (ciclone C _ ((hmac a b).take 16) (mR_22 (Rd.subV (x' := ((hmac a b).take 16)) (Rd.of_own h) F G (by first | rfl | (simp; done) | (rw [List.take_of_length_le (by first | (simp; done) | (simp; omega))]))) (nT (by simp only [List.length_take, List.length_drop]; omega) D))) ?_
 rintro _ Q ⟨H, ⟨s, t, rfl, I, J, R⟩⟩
 have K := r.extk H
 refine aw (vs s (((hmac a b).take 16)).length t) ?_
 refine n3 ?_
 refine rt (vs s (((hmac a b).take 16)).length t) ?_
 refine ⟨K.keep0, ?_⟩
 have L : tagP a b = (((hmac a b).take 16)) := by first | exact tagP_f (by omega) | rfl
 rw [L]
 exact ⟨_, _, rfl, (own_lo I q.size), J, ⟨trivial, trivial⟩⟩

def i_Proof (a : List UInt8) (b : Int) (d : List UInt8) (e : List UInt8) (f : Int) (g : List UInt8) : (List UInt8) := bif (decide (((i_FinishKey a).length : Int) = 0)) then ([]) else (bif (decide (((i_ProofBody b d e f g).length : Int) = 0)) then ([]) else ((tagP (i_FinishKey a) (i_ProofBody b d e f g))))
theorem ciProof (i : World) (r : Value) (a : List UInt8) (N : R_22 i r a) (b : Int) (s : Value) (d : List UInt8) (O : R_22 i s d) (t : Value) (e : List UInt8) (P : R_22 i t e) (f : Int) (u : Value) (g : List UInt8) (Q : R_22 i u g)  : Fn Try.prog 46 #[r, (vi b), s, t, (vi f), u] i (fun v w => Keep i w ∧ O_22 w i.heap.size v (i_Proof a b d e f g)) := by
 obtain ⟨x, y, rfl, R, S⟩ := N
 obtain ⟨A, B, rfl, T, V⟩ := O
 obtain ⟨C, D, rfl, W, X⟩ := P
 obtain ⟨E, F, rfl, Y, Z⟩ := Q
 refine fn_ofS (n := 34) [(vs x a.length y), (vi b), (vs A d.length B), (vs C e.length D), (vi f), (vs E g.length F)] Try.func46 rfl rfl ?_
 refine sr ?_
 refine aw (vs none 0 0) ?_
 refine nx ?_
 refine mw (vs x a.length y) ?_
 refine cl wN (ciFinishKey i _ a (mR_22 R S)) ?_
 rintro _ aa ⟨G, ⟨k, l, rfl, ab, ac, au⟩⟩
 have m := (Ch.base i).extk G
 refine aw (vs k (i_FinishKey a).length l) ?_
 refine nx ?_
 refine mw (vi b) ?_
 refine mw (vs A d.length B) ?_
 refine mw (vs C e.length D) ?_
 refine mw (vi f) ?_
 refine mw (vs E g.length F) ?_
 refine cl wN (ciProofBody aa b _ d (mR_22 (T.from0 m) V) _ e (mR_22 (W.from0 m) X) f _ g (mR_22 (Y.from0 m) Z)) ?_
 rintro _ ad ⟨q, ⟨o, p, rfl, H, ae, av⟩⟩
 have I := m.extk q
 refine aw (vs o (i_ProofBody b d e f g).length p) ?_
 refine n4 ?_
 refine jT1 [(12, (vs none 0 0)), (13, (vs k (i_FinishKey a).length l)), (14, (vs o (i_ProofBody b d e f g).length p))] (i_Proof a b d e f g = []) ?_ fun J => ?_
 ·intro af ah ai ax
  have aj := I.extk ai
  refine sr ?_
  refine aw (vs none 0 0) ?_
  refine n1 ?_
  refine rt (vs none 0 0) ?_
  refine ⟨aj.keep0, ?_⟩
  rw [af]
  exact ⟨_, _, rfl, (by first | exact own_nil _ _ _ _ | exact OLv.nil _ _ _ _), (by simp), ⟨trivial, trivial⟩⟩
 refine mw (vs k (i_FinishKey a).length l) ?_
 have K := (own_kp ab q)
 refine ln wN slTy_22 (Rd.of_own K) ?_
 refine pu (vb (decide (((i_FinishKey a).length : Int) = 0))) wN ?_
 refine mw (vb (decide (((i_FinishKey a).length : Int) = 0))) ?_
 rcases bt (decide (((i_FinishKey a).length : Int) = 0)) with h | h
 ·have ay := dT h
  iterate 3 refine sk h ?_
  refine pk (vb true) wN h ?_
  refine n2 ?_
  refine ct (Eq.refl true) ?_
  have ak : i_Proof a b d e f g = [] := by simp only [i_Proof, h, cond_true, cond_false]
  exact wj (J ak _ (Ch.refl _ _))
 have az := dF h
 refine mv (vs o (i_ProofBody b d e f g).length p) (wS h) ?_
 refine ln (wS h) slTy_22 (Rd.of_own H) ?_
 refine pu (vb (decide (((i_ProofBody b d e f g).length : Int) = 0))) (wS h) ?_
 refine pf (vb (decide (((i_ProofBody b d e f g).length : Int) = 0))) wN h ?_
 refine n2 ?_
 rcases bt (decide (((i_ProofBody b d e f g).length : Int) = 0)) with j | j
 ·have a0 := dT j
  refine ct j ?_
  have am : i_Proof a b d e f g = [] := by simp only [i_Proof, h, j, cond_true, cond_false]
  exact wj (J am _ (Ch.refl _ _))
 have a1 := dF j
 refine cf j ?_
 refine y1 ?_
 refine mw (vs k (i_FinishKey a).length l) ?_
 refine mw (vs o (i_ProofBody b d e f g).length p) ?_
 refine cl wN (ciTag ad _ (i_FinishKey a) (mR_22 (Rd.of_own K) ac) _ (i_ProofBody b d e f g) (mR_22 (Rd.of_own H) ae)) ?_
 rintro _ ah ⟨an, ⟨L, M, rfl, ao, ap, a2⟩⟩
 have aq := I.extk an
 have a3 := tagP_len (i_FinishKey a) (i_ProofBody b d e f g)
 refine aw (vs L (tagP (i_FinishKey a) (i_ProofBody b d e f g)).length M) ?_
 refine n3 ?_
 refine rt (vs L (tagP (i_FinishKey a) (i_ProofBody b d e f g)).length M) ?_
 refine ⟨aq.keep0, ?_⟩
 simp only [i_Proof, h, j, cond_true, cond_false]
 exact ⟨_, _, rfl, (own_lo ao (z2 G q)), ap, ⟨trivial, trivial⟩⟩

def O_40_4 (w : World) (lo : Nat) (v : Value) (x : (PFrame) × (Bool)) : Prop := ∃ (a : Option Addr) (b : Nat) (d : Option Addr) (e : Nat) (f : Option Addr) (g : Nat) (h : Option Addr) (i : Nat) (j : Option Addr) (k : Nat) (l : Option Addr) (m : Nat), v = .tuple #[.agg #[.int .i64 x.1.Kind, .int .i64 x.1.Id, .slice a x.1.Cn.length b, .slice d x.1.Sn.length e, .int .i64 x.1.Tick, .slice f x.1.Cookie.length g, .slice h x.1.Proof.length i, .int .i64 x.1.Epoch, .int .i64 x.1.Seq, .slice j x.1.Body.length k, .slice l x.1.Tag.length m], .bool x.2] ∧ w.ownsRow lo 5 1 (.slice a x.1.Cn.length b) x.1.Cn.length (x.1.Cn.map bV) ∧ x.1.Cn.length ≤ 1073741824 ∧ w.ownsRow lo 5 1 (.slice d x.1.Sn.length e) x.1.Sn.length (x.1.Sn.map bV) ∧ x.1.Sn.length ≤ 1073741824 ∧ w.ownsRow lo 5 1 (.slice f x.1.Cookie.length g) x.1.Cookie.length (x.1.Cookie.map bV) ∧ x.1.Cookie.length ≤ 1073741824 ∧ w.ownsRow lo 5 1 (.slice h x.1.Proof.length i) x.1.Proof.length (x.1.Proof.map bV) ∧ x.1.Proof.length ≤ 1073741824 ∧ w.ownsRow lo 5 1 (.slice j x.1.Body.length k) x.1.Body.length (x.1.Body.map bV) ∧ x.1.Body.length ≤ 1073741824 ∧ w.ownsRow lo 5 1 (.slice l x.1.Tag.length m) x.1.Tag.length (x.1.Tag.map bV) ∧ x.1.Tag.length ≤ 1073741824 ∧ Aps [(a, b), (d, e), (f, g), (h, i), (j, k), (l, m)]
def i_FinishOf (d : List UInt8) (b : Int) (a : PFrame) : (PFrame) × (Bool) := bif (decide (a.Kind = 2)) then (bif (i_FrameOk a) then (bif (decide (((i_Proof d b a.Cn a.Sn a.Tick a.Cookie).length : Int) = 0)) then (({ Kind := 0, Id := 0, Cn := [], Sn := [], Tick := 0, Cookie := [], Proof := [], Epoch := 0, Seq := 0, Body := [], Tag := [] : PFrame }, false)) else (({ Kind := 3, Id := b, Cn := (a.Cn), Sn := (a.Sn), Tick := a.Tick, Cookie := (a.Cookie), Proof := (i_Proof d b a.Cn a.Sn a.Tick a.Cookie), Epoch := 0, Seq := 0, Body := [], Tag := [] : PFrame }, true))) else (({ Kind := 0, Id := 0, Cn := [], Sn := [], Tick := 0, Cookie := [], Proof := [], Epoch := 0, Seq := 0, Body := [], Tag := [] : PFrame }, false))) else (({ Kind := 0, Id := 0, Cn := [], Sn := [], Tick := 0, Cookie := [], Proof := [], Epoch := 0, Seq := 0, Body := [], Tag := [] : PFrame }, false))
theorem ciFinishOf (y : World) (a4 : Value) (d : List UInt8) (aE : R_22 y a4 d) (b : Int) (a5 : Value) (a : PFrame) (aF : R_40 y a5 a)  : Fn Try.prog 17 #[a4, (vi b), a5] y (fun v Q => Keep y Q ∧ O_40_4 Q y.heap.size v (i_FinishOf d b a)) := by
 obtain ⟨f, Z, rfl, aG, aH⟩ := aE
 obtain ⟨A, B, C, D, E, F, aa, ab, ac, ad, ae, af, rfl, ah, ai, aj, ak, am, an, aI, aJ, aK, aL, aM, aN⟩ := aF
 refine fn_ofS (n := 47) [(vs f d.length Z), (vi b), (va (L_40 a A B C D E F aa ab ac ad ae af))] Try.func17 rfl rfl ?_
 refine sr ?_
 refine bx (L_40 a A B C D E F aa ab ac ad ae af) wN ?_
 intro i ao bK bL p aO
 refine al Z_40 wN zero_40 ?_
 intro aP aQ ap R G aq
 have q := ((Ch.base y).extk p).extk G
 refine aw (vb false) ?_
 refine n4 ?_
 refine jT1 [(0, (vs f d.length Z)), (1, (vi b)), (5, (vp i 0)), (6, (vp aP 0)), (7, (vb false))] (i_FinishOf d b a = ({ Kind := 0, Id := 0, Cn := [], Sn := [], Tick := 0, Cookie := [], Proof := [], Epoch := 0, Seq := 0, Body := [], Tag := [] : PFrame }, false)) ?_ fun a6 => ?_
 ·intro aR a7 a8 bM
  refine sr ?_
  refine pu (va Z_40) wN ?_
  have aS := (aq.kp a8)
  refine sv Z_40 wN sizeOf_40 aS ?_
  intro H aT aU bN
  have aV := (q.extk a8).ext aT (fun k hk => by subst hk; exact nT p.size ap)
  refine aw (vb false) ?_
  refine n1 ?_
  refine ret_2 (.inl rfl) (va Z_40) (vb false) rfl (rv_c Z_40 rfl aU isAgg_40 sizeOf_40) rfl ?_
  refine ⟨aV.keep0, ?_⟩
  rw [aR]
  exact ⟨_, _, _, _, _, _, _, _, _, _, _, _, rfl, (by first | exact own_nil _ _ _ _ | exact OLv.nil _ _ _ _), (by simp), (by first | exact own_nil _ _ _ _ | exact OLv.nil _ _ _ _), (by simp), (by first | exact own_nil _ _ _ _ | exact OLv.nil _ _ _ _), (by simp), (by first | exact own_nil _ _ _ _ | exact OLv.nil _ _ _ _), (by simp), (by first | exact own_nil _ _ _ _ | exact OLv.nil _ _ _ _), (by simp), (by first | exact own_nil _ _ _ _ | exact OLv.nil _ _ _ _), (by simp), ⟨⟨(Ap.nl _), ⟨(Ap.nl _), ⟨(Ap.nl _), ⟨(Ap.nl _), ⟨(Ap.nl _), trivial⟩⟩⟩⟩⟩, ⟨⟨(Ap.nl _), ⟨(Ap.nl _), ⟨(Ap.nl _), ⟨(Ap.nl _), trivial⟩⟩⟩⟩, ⟨⟨(Ap.nl _), ⟨(Ap.nl _), ⟨(Ap.nl _), trivial⟩⟩⟩, ⟨⟨(Ap.nl _), ⟨(Ap.nl _), trivial⟩⟩, ⟨⟨(Ap.nl _), trivial⟩, ⟨trivial, trivial⟩⟩⟩⟩⟩⟩⟩
 refine pu (vp i 0) wN ?_
 have au := (aO.kp G)
 refine ld (vi a.Kind) wN isAgg_3 au ?_
 refine pu (vb (!(decide (a.Kind = 2)))) wN ?_
 refine mw (vb (!(decide (a.Kind = 2)))) ?_
 rcases bf (decide (a.Kind = 2)) with l | l
 ·have bO := dF l
  iterate 3 refine sk (cA not l) ?_
  refine pk (vb true) wN (cA not l) ?_
  refine n2 ?_
  refine ct (Eq.refl true) ?_
  have aW : i_FinishOf d b a = ({ Kind := 0, Id := 0, Cn := [], Sn := [], Tick := 0, Cookie := [], Proof := [], Epoch := 0, Seq := 0, Body := [], Tag := [] : PFrame }, false) := by simp only [i_FinishOf, l, cond_true, cond_false]
  exact wj (a6 aW _ (Ch.refl _ _))
 have bP := dT l
 refine lN (L_40 a A B C D E F aa ab ac ad ae af) (wS (cA not l)) isAgg_40 sizeOf_40 au ?_
 refine cl (wS (cA not l)) (ciFrameOk aQ _ a (mR_40 (ah.from0 q) ai (aj.from0 q) ak (am.from0 q) an (aI.from0 q) aJ (aK.from0 q) aL (aM.from0 q) aN)) ?_
 rintro _ a7 ⟨m, rfl⟩
 have J := q.extk m
 refine pu (vb (!(i_FrameOk a))) (wS (cA not l)) ?_
 refine pf (vb (!(i_FrameOk a))) wN (cA not l) ?_
 refine n2 ?_
 rcases bf (i_FrameOk a) with u | u
 ·refine ct (cA not u) ?_
  have aX : i_FinishOf d b a = ({ Kind := 0, Id := 0, Cn := [], Sn := [], Tick := 0, Cookie := [], Proof := [], Epoch := 0, Seq := 0, Body := [], Tag := [] : PFrame }, false) := by simp only [i_FinishOf, l, u, cond_true, cond_false]
  exact wj (a6 aX _ m)
 have bQ := frameOk_i u
 refine cf (cA not u) ?_
 refine y1 ?_
 refine mw (vs f d.length Z) ?_
 refine mw (vi b) ?_
 refine pu (vp i 2) wN ?_
 have r := (au.kp m)
 refine ld (vs A a.Cn.length B) wN isAgg_22 r ?_
 refine pu (vp i 3) wN ?_
 refine ld (vs C a.Sn.length D) wN isAgg_22 r ?_
 refine pu (vp i 4) wN ?_
 refine ld (vi a.Tick) wN isAgg_3 r ?_
 refine pu (vp i 5) wN ?_
 refine ld (vs E a.Cookie.length F) wN isAgg_22 r ?_
 refine cl wN (ciProof a7 _ d (mR_22 (aG.from0 J) aH) b _ a.Cn (mR_22 (ah.from0 J) ai) _ a.Sn (mR_22 (aj.from0 J) ak) a.Tick _ a.Cookie (mR_22 (am.from0 J) an)) ?_
 rintro _ H ⟨o, ⟨s, t, rfl, I, aY, bR⟩⟩
 have K := J.extk o
 refine aw (vs s (i_Proof d b a.Cn a.Sn a.Tick a.Cookie).length t) ?_
 refine n4 ?_
 refine mw (vs s (i_Proof d b a.Cn a.Sn a.Tick a.Cookie).length t) ?_
 refine ln wN slTy_22 (Rd.of_own I) ?_
 refine pu (vb (decide (((i_Proof d b a.Cn a.Sn a.Tick a.Cookie).length : Int) = 0))) wN ?_
 refine n2 ?_
 rcases bt (decide (((i_Proof d b a.Cn a.Sn a.Tick a.Cookie).length : Int) = 0)) with x | x
 ·have bS := dT x
  refine ct x ?_
  refine sr ?_
  refine pu (va Z_40) wN ?_
  have aZ := ((aq.kp m).kp o)
  refine sv Z_40 wN sizeOf_40 aZ ?_
  intro g ba bb bT
  have bc := K.ext ba (fun k hk => by subst hk; exact nT p.size ap)
  refine aw (vb false) ?_
  refine n1 ?_
  refine ret_2 (.inl rfl) (va Z_40) (vb false) rfl (rv_c Z_40 rfl bb isAgg_40 sizeOf_40) rfl ?_
  refine ⟨bc.keep0, ?_⟩
  simp only [i_FinishOf, l, u, x, cond_true, cond_false]
  exact ⟨_, _, _, _, _, _, _, _, _, _, _, _, rfl, (by first | exact own_nil _ _ _ _ | exact OLv.nil _ _ _ _), (by simp), (by first | exact own_nil _ _ _ _ | exact OLv.nil _ _ _ _), (by simp), (by first | exact own_nil _ _ _ _ | exact OLv.nil _ _ _ _), (by simp), (by first | exact own_nil _ _ _ _ | exact OLv.nil _ _ _ _), (by simp), (by first | exact own_nil _ _ _ _ | exact OLv.nil _ _ _ _), (by simp), (by first | exact own_nil _ _ _ _ | exact OLv.nil _ _ _ _), (by simp), ⟨⟨(Ap.nl _), ⟨(Ap.nl _), ⟨(Ap.nl _), ⟨(Ap.nl _), ⟨(Ap.nl _), trivial⟩⟩⟩⟩⟩, ⟨⟨(Ap.nl _), ⟨(Ap.nl _), ⟨(Ap.nl _), ⟨(Ap.nl _), trivial⟩⟩⟩⟩, ⟨⟨(Ap.nl _), ⟨(Ap.nl _), ⟨(Ap.nl _), trivial⟩⟩⟩, ⟨⟨(Ap.nl _), ⟨(Ap.nl _), trivial⟩⟩, ⟨⟨(Ap.nl _), trivial⟩, ⟨trivial, trivial⟩⟩⟩⟩⟩⟩⟩
 have bU := dF x
 refine cf x ?_
 refine wc_skip <| wq_then <| wc_seq ?_
 refine wc_drawT ([(33, [], [], (fun _ v _ => v = (vi b))), (34, [], [], (fun _ v _ => v = (vp i 2))), (35, [], [1], (fun _ v _ => v = (vs A a.Cn.length B))), (36, [], [1, 2], (fun _ v w => ∃ (f : Option Addr) (j : Nat), v = .slice f (a.Cn).length j ∧ w.ownsRow (H.heap.size) 5 1 (.slice f (a.Cn).length j) (a.Cn).length ((a.Cn).map bV) ∧ (a.Cn).length ≤ 1073741824 ∧ Aps [(f, j)])), (37, [], [], (fun _ v _ => v = (vp i 3))), (38, [], [4], (fun _ v _ => v = (vs C a.Sn.length D))), (39, [36], [1, 2, 3, 4, 5], (fun e v w => ∃ (f : Option Addr) (j : Nat), v = .slice f (a.Sn).length j ∧ w.ownsRow (H.heap.size) 5 1 (.slice f (a.Sn).length j) (a.Sn).length ((a.Sn).map bV) ∧ (a.Sn).length ≤ 1073741824 ∧ Aps [(f, j)] ∧ Ap (sp (e 36)) (f, j))), (40, [], [], (fun _ v _ => v = (vp i 4))), (41, [], [7], (fun _ v _ => v = (vi a.Tick))), (42, [], [], (fun _ v _ => v = (vp i 5))), (43, [], [9], (fun _ v _ => v = (vs E a.Cookie.length F))), (44, [36, 39], [1, 2, 3, 4, 5, 6, 9, 10], (fun e v w => ∃ (f : Option Addr) (j : Nat), v = .slice f (a.Cookie).length j ∧ w.ownsRow (H.heap.size) 5 1 (.slice f (a.Cookie).length j) (a.Cookie).length ((a.Cookie).map bV) ∧ (a.Cookie).length ≤ 1073741824 ∧ Aps [(f, j)] ∧ Ap (sp (e 36)) (f, j) ∧ Ap (sp (e 39)) (f, j))), (45, [], [], (fun _ v _ => v = (vs s (i_Proof d b a.Cn a.Sn a.Tick a.Cookie).length t)))] : GV) (fun _ Q => Keep H Q) [] mixed rfl (by kernel_rfl) (by kernel_rfl) ?_ (fun _ _ h => h) (fun _ _ _ _ h _ k => h.trans k) trivial ?_ ?_ ?_
 ·exact ⟨hV, hE, ⟨hV, hE, ⟨hV, hE, ⟨(fun e v w ao h hk => by obtain ⟨L, M, he, N, O, hap⟩ := h; exact ⟨L, M, he, own_kp N hk, O, hap⟩), hE, ⟨hV, hE, ⟨hV, hE, ⟨(fun e v w ao h hk => by obtain ⟨L, M, he, N, O, hap, hx⟩ := h; exact ⟨L, M, he, own_kp N hk, O, hap, hx⟩), (fun bd be v w hx h => by have av := hx 36 (by simp); simp only [av] at h; exact h), ⟨hV, hE, ⟨hV, hE, ⟨hV, hE, ⟨hV, hE, ⟨(fun e v w ao h hk => by obtain ⟨L, M, he, N, O, hap, hx⟩ := h; exact ⟨L, M, he, own_kp N hk, O, hap, hx⟩), (fun bd be v w hx h => by have av := hx 36 (by simp); have bg := hx 39 (by simp); simp only [av, bg] at h; exact h), ⟨hV, hE, trivial⟩⟩⟩⟩⟩⟩⟩⟩⟩⟩⟩⟩⟩
 ·exact trivial
 ·refine ⟨?_, ⟨?_, ⟨?_, ⟨?_, ⟨?_, ⟨?_, ⟨?_, ⟨?_, ⟨?_, ⟨?_, ⟨?_, ⟨?_, ⟨?_, trivial⟩⟩⟩⟩⟩⟩⟩⟩⟩⟩⟩⟩⟩
  ·intro _ g bW _
   rintro _ _ _ _ _ _ _ _ _ _ _ _ _
   show WL _ _ _ _ _ _ _
   refine mw (vi b) ?_
   exact f1
  ·intro _ g bX _
   rintro _ _ _ _ _ _ _ _ _ _ _ _ _
   show WL _ _ _ _ _ _ _
   refine pu (vp i 2) wN ?_
   exact f1
  ·intro _ g bh _
   rintro _ _ rfl _ _ _ _ _ _ _ _ _ _ _
   show WL _ _ _ _ _ _ _
   have bi := ((r.kp o).kp bh)
   refine ld (vs A a.Cn.length B) wN isAgg_22 bi ?_
   exact f1
  ·intro _ g a9 _
   have bj := K.extk a9
   rintro _ _ rfl _ rfl _ _ _ _ _ _ _ _ _ _
   show WL _ _ _ _ _ _ _
   refine cl wN (ciclone g _ a.Cn (mR_22 (ah.from0 bj) ai)) ?_
   rintro _ ax ⟨bk, ⟨bY, bZ, rfl, bl, bm, bn⟩⟩
   exact wl_finT bk ⟨_, _, rfl, (own_lo bl a9.size), bm, bn⟩
  ·intro _ g ca _
   rintro _ _ _ _ _ _ _ _ _ _ _ _ _
   show WL _ _ _ _ _ _ _
   refine pu (vp i 3) wN ?_
   exact f1
  ·intro _ g bo _
   rintro _ _ _ _ _ rfl _ _ _ _ _ _ _ _
   show WL _ _ _ _ _ _ _
   have bp := ((r.kp o).kp bo)
   refine ld (vs C a.Sn.length D) wN isAgg_22 bp ?_
   exact f1
  ·intro _ g aA _
   have bq := K.extk aA
   rintro _ _ rfl _ rfl _ ⟨cb, cc, rfl, br, _⟩ _ rfl _ rfl _ _ _ _ _ _ _
   show WL _ _ _ _ _ _ _
   refine cl wN (ciclone g _ a.Sn (mR_22 (aj.from0 bq) ak)) ?_
   rintro _ ax ⟨bu, ⟨cd, ce, rfl, aB, bv, bw⟩⟩
   exact wl_finT bu ⟨_, _, rfl, (own_lo aB aA.size), bv, bw, (Ap.lt br aB (Nat.le_refl _))⟩
  ·intro _ g cg _
   rintro _ _ _ _ _ _ _ _ _ _ _ _ _
   show WL _ _ _ _ _ _ _
   refine pu (vp i 4) wN ?_
   exact f1
  ·intro _ g bz _
   rintro _ _ _ _ _ _ _ _ rfl _ _ _ _ _
   show WL _ _ _ _ _ _ _
   have b0 := ((r.kp o).kp bz)
   refine ld (vi a.Tick) wN isAgg_3 b0 ?_
   exact f1
  ·intro _ g ci _
   rintro _ _ _ _ _ _ _ _ _ _ _ _ _
   show WL _ _ _ _ _ _ _
   refine pu (vp i 5) wN ?_
   exact f1
  ·intro _ g b1 _
   rintro _ _ _ _ _ _ _ _ _ _ rfl _ _ _
   show WL _ _ _ _ _ _ _
   have b2 := ((r.kp o).kp b1)
   refine ld (vs E a.Cookie.length F) wN isAgg_22 b2 ?_
   exact f1
  ·intro _ g aC _
   have b3 := K.extk aC
   rintro _ _ rfl _ rfl _ ⟨cj, ck, rfl, b4, _⟩ _ rfl _ rfl _ ⟨cm, cn, rfl, b5, _⟩ _ _ _ rfl _ rfl _ _
   show WL _ _ _ _ _ _ _
   refine cl wN (ciclone g _ a.Cookie (mR_22 (am.from0 b3) an)) ?_
   rintro _ ax ⟨b6, ⟨co, cp, rfl, ay, b7, b8⟩⟩
   exact wl_finT b6 ⟨_, _, rfl, (own_lo ay aC.size), b7, b8, ⟨(Ap.lt b4 ay (Nat.le_refl _)), (Ap.lt b5 ay (Nat.le_refl _))⟩⟩
  ·intro _ g cq _
   rintro _ _ _ _ _ _ _ _ _ _ _ _ _
   show WL _ _ _ _ _ _ _
   refine mw (vs s (i_Proof d b a.Cn a.Sn a.Tick a.Cookie).length t) ?_
   exact f1
 ·intro _ g az
  rintro _ rfl _ rfl _ rfl _ ⟨S, T, rfl, a0, b9, cr⟩ _ rfl _ rfl _ ⟨V, W, rfl, a1, bA, cs, bB⟩ _ rfl _ rfl _ rfl _ rfl _ ⟨X, Y, rfl, a2, bC, cu, aD⟩ _ rfl
  show WL _ _ _ _ _ _ _
  refine pu (va [(vi 3), (vi b), (vs S (a.Cn).length T), (vs V (a.Sn).length W), (vi a.Tick), (vs X (a.Cookie).length Y), (vs s (i_Proof d b a.Cn a.Sn a.Tick a.Cookie).length t), (vi 0), (vi 0), (vs none 0 0), (vs none 0 0)]) wN ?_
  have bD := (((aq.kp m).kp o).kp az)
  refine sv [(vi 3), (vi b), (vs S (a.Cn).length T), (vs V (a.Sn).length W), (vi a.Tick), (vs X (a.Cookie).length Y), (vs s (i_Proof d b a.Cn a.Sn a.Tick a.Cookie).length t), (vi 0), (vi 0), (vs none 0 0), (vs none 0 0)] wN sizeOf_40 bD ?_
  intro ax P bE cv
  have bF := (K.extk az).ext P (fun k hk => by subst hk; exact nT p.size ap)
  refine aw (vb true) ?_
  refine n3 ?_
  have bG := (own_ch a0 P (ne1 a0 (nL R (z2 m o))))
  have bH := (own_ch a1 P (ne1 a1 (nL R (z2 m o))))
  have bI := (own_ch a2 P (ne1 a2 (nL R (z2 m o))))
  have bJ := (own_ch (own_kp I az) P (ne1 I (nL R m.size)))
  refine ret_2 (.inl rfl) (va [(vi 3), (vi b), (vs S (a.Cn).length T), (vs V (a.Sn).length W), (vi a.Tick), (vs X (a.Cookie).length Y), (vs s (i_Proof d b a.Cn a.Sn a.Tick a.Cookie).length t), (vi 0), (vi 0), (vs none 0 0), (vs none 0 0)]) (vb true) rfl (rv_c [(vi 3), (vi b), (vs S (a.Cn).length T), (vs V (a.Sn).length W), (vi a.Tick), (vs X (a.Cookie).length Y), (vs s (i_Proof d b a.Cn a.Sn a.Tick a.Cookie).length t), (vi 0), (vi 0), (vs none 0 0), (vs none 0 0)] rfl bE isAgg_40 sizeOf_40) rfl ?_
  refine ⟨bF.keep0, ?_⟩
  simp only [i_FinishOf, l, u, x, cond_true, cond_false]
  have a3 := Nat.le_refl H.heap.size
  exact ⟨_, _, _, _, _, _, _, _, _, _, _, _, rfl, (own_lo bG (z4 p G m o)), b9, (own_lo bH (z4 p G m o)), bA, (own_lo bI (z4 p G m o)), bC, (own_lo bJ (z3 p G m)), aY, (by first | exact own_nil _ _ _ _ | exact OLv.nil _ _ _ _), (by simp), (by first | exact own_nil _ _ _ _ | exact OLv.nil _ _ _ _), (by simp), ⟨⟨bB, ⟨(aD.1), ⟨(Ap.lt I a0 a3).symm, ⟨(Ap.nr _), ⟨(Ap.nr _), trivial⟩⟩⟩⟩⟩, ⟨⟨(aD.2), ⟨(Ap.lt I a1 a3).symm, ⟨(Ap.nr _), ⟨(Ap.nr _), trivial⟩⟩⟩⟩, ⟨⟨(Ap.lt I a2 a3).symm, ⟨(Ap.nr _), ⟨(Ap.nr _), trivial⟩⟩⟩, ⟨⟨(Ap.nr _), ⟨(Ap.nr _), trivial⟩⟩, ⟨⟨(Ap.nl _), trivial⟩, ⟨trivial, trivial⟩⟩⟩⟩⟩⟩⟩

def s_l1In (a : Int) (b : Int) (d : Int) : (Bool) := bif (decide (b ≤ a)) then (decide (a ≤ d)) else (false)
theorem csl1In (f : World) (a : Int) (e : Int) (d : Int)  : Fn Try.prog 38 #[(vi a), (vi e), (vi d)] f (fun v g => Keep f g ∧ O_4 g f.heap.size v (s_l1In a e d)) := by
 refine fn_ofS (n := 15) [(vi a), (vi e), (vi d)] Try.func38 rfl rfl ?_
 refine sr ?_
 refine aw (vb false) ?_
 refine nx ?_
 refine mw (vi a) ?_
 refine mw (vi e) ?_
 refine pu (vb (decide (e ≤ a))) wN ?_
 refine mw (vb (decide (e ≤ a))) ?_
 rcases bf (decide (e ≤ a)) with b | b
 ·have h := dF b
  iterate 3 refine sk b ?_
  refine pf (vb false) wN b ?_
  refine aw (vb false) ?_
  refine n3 ?_
  refine rt (vb false) ?_
  refine ⟨Ch.refl _ _, ?_⟩
  simp only [s_l1In, b, cond_true, cond_false]
  exact rfl
 have i := dT b
 refine mv (vi a) (wS b) ?_
 refine mv (vi d) (wS b) ?_
 refine pu (vb (decide (a ≤ d))) (wS b) ?_
 refine pk (vb (decide (a ≤ d))) wN b ?_
 refine aw (vb (decide (a ≤ d))) ?_
 refine n3 ?_
 refine rt (vb (decide (a ≤ d))) ?_
 refine ⟨Ch.refl _ _, ?_⟩
 simp only [s_l1In, b, cond_true, cond_false]
 exact rfl
theorem spec_l1In_t {n a b : Int} (h : s_l1In n a b = true) : a ≤ n ∧ n ≤ b := by
  unfold s_l1In at h
  by_cases h1 : a ≤ n <;> simp [h1] at h
  exact ⟨h1, h⟩
theorem spec_l1In_f {n a b : Int} (h : s_l1In n a b = false) : n < a ∨ b < n := by
  unfold s_l1In at h
  by_cases h1 : a ≤ n <;> simp [h1] at h <;> omega

def s_Sealed (a : Int) : (Bool) := (s_l1In a 4 8)
theorem csSealed (b : World) (a : Int)  : Fn Try.prog 66 #[(vi a)] b (fun v d => Keep b d ∧ O_4 d b.heap.size v (s_Sealed a)) := by
 refine fn_ofS (n := 5) [(vi a)] Try.func66 rfl rfl ?_
 refine sr ?_
 refine aw (vb false) ?_
 refine nx ?_
 refine mw (vi a) ?_
 refine cl wN (csl1In b a 4 8) ?_
 rintro _ h ⟨e, rfl⟩
 have f := (Ch.base b).extk e
 refine aw (vb (s_l1In a 4 8)) ?_
 refine n3 ?_
 refine rt (vb (s_l1In a 4 8)) ?_
 refine ⟨f.keep0, ?_⟩
 have g : s_Sealed a = (s_l1In a 4 8) := by rfl
 rw [g]
 exact rfl

def s_l7Body (b : Int) (a : Int) : (Bool) := bif (decide (b = 4)) then (decide (a ≤ 40)) else (bif (decide (b = 5)) then (decide (a = 12)) else (bif (decide (b = 6)) then (decide (a = 12)) else (decide (a = 4))))
theorem csl7Body (g : World) (b : Int) (a : Int)  : Fn Try.prog 67 #[(vi b), (vi a)] g (fun v h => Keep g h ∧ O_4 h g.heap.size v (s_l7Body b a)) := by
 refine fn_ofS (n := 19) [(vi b), (vi a)] Try.func67 rfl rfl ?_
 refine sr ?_
 refine aw (vb false) ?_
 refine n4 ?_
 refine mw (vi b) ?_
 refine pu (vb (decide (b = 4))) wN ?_
 refine n2 ?_
 rcases bt (decide (b = 4)) with e | e
 ·have p := dT e
  refine ct e ?_
  refine sr ?_
  refine mw (vi a) ?_
  refine pu (vb (decide (a ≤ 40))) wN ?_
  refine aw (vb (decide (a ≤ 40))) ?_
  refine n1 ?_
  refine rt (vb (decide (a ≤ 40))) ?_
  refine ⟨Ch.refl _ _, ?_⟩
  simp only [s_l7Body, e, cond_true, cond_false]
  exact rfl
 have q := dF e
 refine cf e ?_
 refine y2 ?_
 refine jT1 [(1, (vi a)), (4, (vb false))] (s_l7Body b a = (decide (a = 12))) ?_ fun i => ?_
 ·intro j r k s
  have l := (Ch.base g).extk k
  refine sr ?_
  refine mw (vi a) ?_
  refine pu (vb (decide (a = 12))) wN ?_
  refine aw (vb (decide (a = 12))) ?_
  refine n1 ?_
  refine rt (vb (decide (a = 12))) ?_
  refine ⟨l.keep0, ?_⟩
  rw [j]
  exact rfl
 refine mw (vi b) ?_
 refine pu (vb (decide (b = 5))) wN ?_
 refine mw (vb (decide (b = 5))) ?_
 rcases bt (decide (b = 5)) with d | d
 ·have t := dT d
  iterate 2 refine sk d ?_
  refine pk (vb true) wN d ?_
  refine n2 ?_
  refine ct (Eq.refl true) ?_
  have m : s_l7Body b a = (decide (a = 12)) := by simp only [s_l7Body, e, d, cond_true, cond_false]
  exact wj (i m _ (Ch.refl _ _))
 have u := dF d
 refine mv (vi b) (wS d) ?_
 refine pu (vb (decide (b = 6))) (wS d) ?_
 refine pf (vb (decide (b = 6))) wN d ?_
 refine n2 ?_
 rcases bt (decide (b = 6)) with f | f
 ·have w := dT f
  refine ct f ?_
  have o : s_l7Body b a = (decide (a = 12)) := by simp only [s_l7Body, e, d, f, cond_true, cond_false]
  exact wj (i o _ (Ch.refl _ _))
 have x := dF f
 refine cf f ?_
 refine y1 ?_
 refine mw (vi a) ?_
 refine pu (vb (decide (a = 4))) wN ?_
 refine aw (vb (decide (a = 4))) ?_
 refine n3 ?_
 refine rt (vb (decide (a = 4))) ?_
 refine ⟨Ch.refl _ _, ?_⟩
 simp only [s_l7Body, e, d, f, cond_true, cond_false]
 exact rfl

def s_FrameOk (a : PFrame) : (Bool) := bif (s_Sealed a.Kind) then (bif (decide (a.Id = 0)) then (bif (decide ((a.Cn.length : Int) = 0)) then (bif (decide ((a.Sn.length : Int) = 12)) then (bif (decide (a.Tick = 0)) then (bif (decide ((a.Cookie.length : Int) = 0)) then (bif (decide ((a.Proof.length : Int) = 0)) then (bif (s_l1In a.Epoch 0 4294967295) then (bif (s_l1In a.Seq 0 281474976710655) then (bif (s_l7Body a.Kind (a.Body.length : Int)) then (decide ((a.Tag.length : Int) = 16)) else (false)) else (false)) else (false)) else (false)) else (false)) else (false)) else (false)) else (false)) else (false)) else (bif (decide (a.Epoch = 0)) then (bif (decide (a.Seq = 0)) then (bif (decide ((a.Body.length : Int) = 0)) then (bif (decide ((a.Tag.length : Int) = 0)) then (bif (decide ((a.Cn.length : Int) = 12)) then (bif (decide (a.Kind = 1)) then (bif (s_l1In a.Id 1 9) then (bif (decide ((a.Sn.length : Int) = 0)) then (bif (decide (a.Tick = 0)) then (bif (decide ((a.Cookie.length : Int) = 0)) then (decide ((a.Proof.length : Int) = 0)) else (false)) else (false)) else (false)) else (false)) else (bif (decide (a.Kind = 2)) then (bif (decide (a.Id = 0)) then (bif (decide ((a.Sn.length : Int) = 12)) then (bif (s_l1In a.Tick 0 1000000) then (bif (decide ((a.Cookie.length : Int) = 16)) then (decide ((a.Proof.length : Int) = 0)) else (false)) else (false)) else (false)) else (false)) else (bif (decide (a.Kind = 3)) then (bif (s_l1In a.Id 1 9) then (bif (decide ((a.Sn.length : Int) = 12)) then (bif (s_l1In a.Tick 0 1000000) then (bif (decide ((a.Cookie.length : Int) = 16)) then (decide ((a.Proof.length : Int) = 16)) else (false)) else (false)) else (false)) else (false)) else (false)))) else (false)) else (false)) else (false)) else (false)) else (false))
theorem csFrameOk (W : World) (ay : Value) (a : PFrame) (aF : R_40 W ay a)  : Fn Try.prog 48 #[ay] W (fun v az => Keep W az ∧ O_4 az W.heap.size v (s_FrameOk a)) := by
 obtain ⟨aa, ab, O, P, Q, R, S, T, ac, ad, ae, af, rfl, a0, aR, ah, aS, ai, aT, aj, aU, a1, aV, a2, aW⟩ := aF
 refine fn_ofS (n := 174) [(va (L_40 a aa ab O P Q R S T ac ad ae af))] Try.func48 rfl rfl ?_
 refine sr ?_
 refine bx (L_40 a aa ab O P Q R S T ac ad ae af) wN ?_
 intro b aG aX aY aH ao
 refine aw (vb false) ?_
 refine n4 ?_
 refine pu (vp b 0) wN ?_
 refine ld (vi a.Kind) wN isAgg_3 ao ?_
 refine cl wN (csSealed aG a.Kind) ?_
 rintro _ ak ⟨ap, rfl⟩
 have i := ((Ch.base W).extk aH).extk ap
 refine n2 ?_
 rcases bt (s_Sealed a.Kind) with d | d
 ·refine ct d ?_
  refine sr ?_
  refine pu (vp b 1) wN ?_
  have M := (ao.kp ap)
  refine ld (vi a.Id) wN isAgg_3 M ?_
  refine pu (vb (decide (a.Id = 0))) wN ?_
  refine mw (vb (decide (a.Id = 0))) ?_
  rcases bf (decide (a.Id = 0)) with l | l
  ·have aZ := dF l
   iterate 4 refine sk l ?_
   refine pf (vb false) wN l ?_
   refine mw (vb false) ?_
   iterate 4 refine sk (Eq.refl false) ?_
   refine pf (vb false) wN (Eq.refl false) ?_
   refine mw (vb false) ?_
   iterate 3 refine sk (Eq.refl false) ?_
   refine pf (vb false) wN (Eq.refl false) ?_
   refine mw (vb false) ?_
   iterate 4 refine sk (Eq.refl false) ?_
   refine pf (vb false) wN (Eq.refl false) ?_
   refine mw (vb false) ?_
   iterate 4 refine sk (Eq.refl false) ?_
   refine pf (vb false) wN (Eq.refl false) ?_
   refine mw (vb false) ?_
   iterate 3 refine sk (Eq.refl false) ?_
   refine pf (vb false) wN (Eq.refl false) ?_
   refine mw (vb false) ?_
   iterate 3 refine sk (Eq.refl false) ?_
   refine pf (vb false) wN (Eq.refl false) ?_
   refine mw (vb false) ?_
   iterate 6 refine sk (Eq.refl false) ?_
   refine pf (vb false) wN (Eq.refl false) ?_
   refine mw (vb false) ?_
   iterate 4 refine sk (Eq.refl false) ?_
   refine pf (vb false) wN (Eq.refl false) ?_
   refine aw (vb false) ?_
   refine n1 ?_
   refine rt (vb false) ?_
   refine ⟨i.keep0, ?_⟩
   simp only [s_FrameOk, d, l, cond_true, cond_false]
   exact rfl
  have ba := dT l
  refine pu (vp b 2) (wS l) ?_
  refine ld (vs aa a.Cn.length ab) (wS l) isAgg_22 M ?_
  refine ln (wS l) slTy_22 (a0.from0 i) ?_
  refine pu (vb (decide ((a.Cn.length : Int) = 0))) (wS l) ?_
  refine pk (vb (decide ((a.Cn.length : Int) = 0))) wN l ?_
  refine mw (vb (decide ((a.Cn.length : Int) = 0))) ?_
  rcases bf (decide ((a.Cn.length : Int) = 0)) with m | m
  ·have bb := dF m
   iterate 4 refine sk m ?_
   refine pf (vb false) wN m ?_
   refine mw (vb false) ?_
   iterate 3 refine sk (Eq.refl false) ?_
   refine pf (vb false) wN (Eq.refl false) ?_
   refine mw (vb false) ?_
   iterate 4 refine sk (Eq.refl false) ?_
   refine pf (vb false) wN (Eq.refl false) ?_
   refine mw (vb false) ?_
   iterate 4 refine sk (Eq.refl false) ?_
   refine pf (vb false) wN (Eq.refl false) ?_
   refine mw (vb false) ?_
   iterate 3 refine sk (Eq.refl false) ?_
   refine pf (vb false) wN (Eq.refl false) ?_
   refine mw (vb false) ?_
   iterate 3 refine sk (Eq.refl false) ?_
   refine pf (vb false) wN (Eq.refl false) ?_
   refine mw (vb false) ?_
   iterate 6 refine sk (Eq.refl false) ?_
   refine pf (vb false) wN (Eq.refl false) ?_
   refine mw (vb false) ?_
   iterate 4 refine sk (Eq.refl false) ?_
   refine pf (vb false) wN (Eq.refl false) ?_
   refine aw (vb false) ?_
   refine n1 ?_
   refine rt (vb false) ?_
   refine ⟨i.keep0, ?_⟩
   simp only [s_FrameOk, d, l, m, cond_true, cond_false]
   exact rfl
  have bc := dT m
  refine pu (vp b 3) (wS m) ?_
  refine ld (vs O a.Sn.length P) (wS m) isAgg_22 M ?_
  refine ln (wS m) slTy_22 (ah.from0 i) ?_
  refine pu (vb (decide ((a.Sn.length : Int) = 12))) (wS m) ?_
  refine pk (vb (decide ((a.Sn.length : Int) = 12))) wN m ?_
  refine mw (vb (decide ((a.Sn.length : Int) = 12))) ?_
  rcases bf (decide ((a.Sn.length : Int) = 12)) with o | o
  ·have bd := dF o
   iterate 3 refine sk o ?_
   refine pf (vb false) wN o ?_
   refine mw (vb false) ?_
   iterate 4 refine sk (Eq.refl false) ?_
   refine pf (vb false) wN (Eq.refl false) ?_
   refine mw (vb false) ?_
   iterate 4 refine sk (Eq.refl false) ?_
   refine pf (vb false) wN (Eq.refl false) ?_
   refine mw (vb false) ?_
   iterate 3 refine sk (Eq.refl false) ?_
   refine pf (vb false) wN (Eq.refl false) ?_
   refine mw (vb false) ?_
   iterate 3 refine sk (Eq.refl false) ?_
   refine pf (vb false) wN (Eq.refl false) ?_
   refine mw (vb false) ?_
   iterate 6 refine sk (Eq.refl false) ?_
   refine pf (vb false) wN (Eq.refl false) ?_
   refine mw (vb false) ?_
   iterate 4 refine sk (Eq.refl false) ?_
   refine pf (vb false) wN (Eq.refl false) ?_
   refine aw (vb false) ?_
   refine n1 ?_
   refine rt (vb false) ?_
   refine ⟨i.keep0, ?_⟩
   simp only [s_FrameOk, d, l, m, o, cond_true, cond_false]
   exact rfl
  have be := dT o
  refine pu (vp b 4) (wS o) ?_
  refine ld (vi a.Tick) (wS o) isAgg_3 M ?_
  refine pu (vb (decide (a.Tick = 0))) (wS o) ?_
  refine pk (vb (decide (a.Tick = 0))) wN o ?_
  refine mw (vb (decide (a.Tick = 0))) ?_
  rcases bf (decide (a.Tick = 0)) with p | p
  ·have bg := dF p
   iterate 4 refine sk p ?_
   refine pf (vb false) wN p ?_
   refine mw (vb false) ?_
   iterate 4 refine sk (Eq.refl false) ?_
   refine pf (vb false) wN (Eq.refl false) ?_
   refine mw (vb false) ?_
   iterate 3 refine sk (Eq.refl false) ?_
   refine pf (vb false) wN (Eq.refl false) ?_
   refine mw (vb false) ?_
   iterate 3 refine sk (Eq.refl false) ?_
   refine pf (vb false) wN (Eq.refl false) ?_
   refine mw (vb false) ?_
   iterate 6 refine sk (Eq.refl false) ?_
   refine pf (vb false) wN (Eq.refl false) ?_
   refine mw (vb false) ?_
   iterate 4 refine sk (Eq.refl false) ?_
   refine pf (vb false) wN (Eq.refl false) ?_
   refine aw (vb false) ?_
   refine n1 ?_
   refine rt (vb false) ?_
   refine ⟨i.keep0, ?_⟩
   simp only [s_FrameOk, d, l, m, o, p, cond_true, cond_false]
   exact rfl
  have bh := dT p
  refine pu (vp b 5) (wS p) ?_
  refine ld (vs Q a.Cookie.length R) (wS p) isAgg_22 M ?_
  refine ln (wS p) slTy_22 (ai.from0 i) ?_
  refine pu (vb (decide ((a.Cookie.length : Int) = 0))) (wS p) ?_
  refine pk (vb (decide ((a.Cookie.length : Int) = 0))) wN p ?_
  refine mw (vb (decide ((a.Cookie.length : Int) = 0))) ?_
  rcases bf (decide ((a.Cookie.length : Int) = 0)) with q | q
  ·have bi := dF q
   iterate 4 refine sk q ?_
   refine pf (vb false) wN q ?_
   refine mw (vb false) ?_
   iterate 3 refine sk (Eq.refl false) ?_
   refine pf (vb false) wN (Eq.refl false) ?_
   refine mw (vb false) ?_
   iterate 3 refine sk (Eq.refl false) ?_
   refine pf (vb false) wN (Eq.refl false) ?_
   refine mw (vb false) ?_
   iterate 6 refine sk (Eq.refl false) ?_
   refine pf (vb false) wN (Eq.refl false) ?_
   refine mw (vb false) ?_
   iterate 4 refine sk (Eq.refl false) ?_
   refine pf (vb false) wN (Eq.refl false) ?_
   refine aw (vb false) ?_
   refine n1 ?_
   refine rt (vb false) ?_
   refine ⟨i.keep0, ?_⟩
   simp only [s_FrameOk, d, l, m, o, p, q, cond_true, cond_false]
   exact rfl
  have bj := dT q
  refine pu (vp b 6) (wS q) ?_
  refine ld (vs S a.Proof.length T) (wS q) isAgg_22 M ?_
  refine ln (wS q) slTy_22 (aj.from0 i) ?_
  refine pu (vb (decide ((a.Proof.length : Int) = 0))) (wS q) ?_
  refine pk (vb (decide ((a.Proof.length : Int) = 0))) wN q ?_
  refine mw (vb (decide ((a.Proof.length : Int) = 0))) ?_
  rcases bf (decide ((a.Proof.length : Int) = 0)) with x | x
  ·have bk := dF x
   iterate 3 refine sk x ?_
   refine pf (vb false) wN x ?_
   refine mw (vb false) ?_
   iterate 3 refine sk (Eq.refl false) ?_
   refine pf (vb false) wN (Eq.refl false) ?_
   refine mw (vb false) ?_
   iterate 6 refine sk (Eq.refl false) ?_
   refine pf (vb false) wN (Eq.refl false) ?_
   refine mw (vb false) ?_
   iterate 4 refine sk (Eq.refl false) ?_
   refine pf (vb false) wN (Eq.refl false) ?_
   refine aw (vb false) ?_
   refine n1 ?_
   refine rt (vb false) ?_
   refine ⟨i.keep0, ?_⟩
   simp only [s_FrameOk, d, l, m, o, p, q, x, cond_true, cond_false]
   exact rfl
  have bl := dT x
  refine pu (vp b 7) (wS x) ?_
  refine ld (vi a.Epoch) (wS x) isAgg_3 M ?_
  refine cl (wS x) (csl1In ak a.Epoch 0 4294967295) ?_
  rintro _ V ⟨a3, rfl⟩
  have a4 := i.extk a3
  refine pk (vb (s_l1In a.Epoch 0 4294967295)) wN x ?_
  refine mw (vb (s_l1In a.Epoch 0 4294967295)) ?_
  rcases bf (s_l1In a.Epoch 0 4294967295) with A | A
  ·have bm := spec_l1In_f A
   iterate 3 refine sk A ?_
   refine pf (vb false) wN A ?_
   refine mw (vb false) ?_
   iterate 6 refine sk (Eq.refl false) ?_
   refine pf (vb false) wN (Eq.refl false) ?_
   refine mw (vb false) ?_
   iterate 4 refine sk (Eq.refl false) ?_
   refine pf (vb false) wN (Eq.refl false) ?_
   refine aw (vb false) ?_
   refine n1 ?_
   refine rt (vb false) ?_
   refine ⟨a4.keep0, ?_⟩
   simp only [s_FrameOk, d, l, m, o, p, q, x, A, cond_true, cond_false]
   exact rfl
  have bn := spec_l1In_t A
  refine pu (vp b 8) (wS A) ?_
  have a5 := (M.kp a3)
  refine ld (vi a.Seq) (wS A) isAgg_3 a5 ?_
  refine cl (wS A) (csl1In V a.Seq 0 281474976710655) ?_
  rintro _ a6 ⟨a7, rfl⟩
  have aq := a4.extk a7
  refine pk (vb (s_l1In a.Seq 0 281474976710655)) wN A ?_
  refine mw (vb (s_l1In a.Seq 0 281474976710655)) ?_
  rcases bf (s_l1In a.Seq 0 281474976710655) with s | s
  ·have bo := spec_l1In_f s
   iterate 6 refine sk s ?_
   refine pf (vb false) wN s ?_
   refine mw (vb false) ?_
   iterate 4 refine sk (Eq.refl false) ?_
   refine pf (vb false) wN (Eq.refl false) ?_
   refine aw (vb false) ?_
   refine n1 ?_
   refine rt (vb false) ?_
   refine ⟨aq.keep0, ?_⟩
   simp only [s_FrameOk, d, l, m, o, p, q, x, A, s, cond_true, cond_false]
   exact rfl
  have bp := spec_l1In_t s
  refine pu (vp b 0) (wS s) ?_
  have au := (a5.kp a7)
  refine ld (vi a.Kind) (wS s) isAgg_3 au ?_
  refine pu (vp b 9) (wS s) ?_
  refine ld (vs ac a.Body.length ad) (wS s) isAgg_22 au ?_
  refine ln (wS s) slTy_22 (a1.from0 aq) ?_
  refine cl (wS s) (csl7Body a6 a.Kind (a.Body.length : Int)) ?_
  rintro _ bq ⟨a8, rfl⟩
  have av := aq.extk a8
  refine pk (vb (s_l7Body a.Kind (a.Body.length : Int))) wN s ?_
  refine mw (vb (s_l7Body a.Kind (a.Body.length : Int))) ?_
  rcases bf (s_l7Body a.Kind (a.Body.length : Int)) with L | L
  ·iterate 4 refine sk L ?_
   refine pf (vb false) wN L ?_
   refine aw (vb false) ?_
   refine n1 ?_
   refine rt (vb false) ?_
   refine ⟨av.keep0, ?_⟩
   simp only [s_FrameOk, d, l, m, o, p, q, x, A, s, L, cond_true, cond_false]
   exact rfl
  refine pu (vp b 10) (wS L) ?_
  have aI := (au.kp a8)
  refine ld (vs ae a.Tag.length af) (wS L) isAgg_22 aI ?_
  refine ln (wS L) slTy_22 (a2.from0 av) ?_
  refine pu (vb (decide ((a.Tag.length : Int) = 16))) (wS L) ?_
  refine pk (vb (decide ((a.Tag.length : Int) = 16))) wN L ?_
  refine aw (vb (decide ((a.Tag.length : Int) = 16))) ?_
  refine n1 ?_
  refine rt (vb (decide ((a.Tag.length : Int) = 16))) ?_
  refine ⟨av.keep0, ?_⟩
  simp only [s_FrameOk, d, l, m, o, p, q, x, A, s, L, cond_true, cond_false]
  exact rfl
 refine cf d ?_
 refine y2 ?_
 refine jT1 [(1, (vp b 0)), (2, (vb false))] (s_FrameOk a = false) ?_ fun X => ?_
 ·intro aJ V aK br
  have aL := i.extk aK
  refine sr ?_
  refine aw (vb false) ?_
  refine n1 ?_
  refine rt (vb false) ?_
  refine ⟨aL.keep0, ?_⟩
  rw [aJ]
  exact rfl
 refine pu (vp b 7) wN ?_
 have y := (ao.kp ap)
 refine ld (vi a.Epoch) wN isAgg_3 y ?_
 refine pu (vb (!(decide (a.Epoch = 0)))) wN ?_
 refine mw (vb (!(decide (a.Epoch = 0)))) ?_
 rcases bf (decide (a.Epoch = 0)) with e | e
 ·have bu := dF e
  iterate 3 refine sk (cA not e) ?_
  refine pk (vb true) wN (cA not e) ?_
  refine mw (vb true) ?_
  iterate 4 refine sk (Eq.refl true) ?_
  refine pk (vb true) wN (Eq.refl true) ?_
  refine mw (vb true) ?_
  iterate 4 refine sk (Eq.refl true) ?_
  refine pk (vb true) wN (Eq.refl true) ?_
  refine mw (vb true) ?_
  iterate 4 refine sk (Eq.refl true) ?_
  refine pk (vb true) wN (Eq.refl true) ?_
  refine n2 ?_
  refine ct (Eq.refl true) ?_
  have aM : s_FrameOk a = false := by simp only [s_FrameOk, d, e, cond_true, cond_false]
  exact wj (X aM _ (Ch.refl _ _))
 have bv := dT e
 refine pu (vp b 8) (wS (cA not e)) ?_
 refine ld (vi a.Seq) (wS (cA not e)) isAgg_3 y ?_
 refine pu (vb (!(decide (a.Seq = 0)))) (wS (cA not e)) ?_
 refine pf (vb (!(decide (a.Seq = 0)))) wN (cA not e) ?_
 refine mw (vb (!(decide (a.Seq = 0)))) ?_
 rcases bf (decide (a.Seq = 0)) with f | f
 ·have bw := dF f
  iterate 4 refine sk (cA not f) ?_
  refine pk (vb true) wN (cA not f) ?_
  refine mw (vb true) ?_
  iterate 4 refine sk (Eq.refl true) ?_
  refine pk (vb true) wN (Eq.refl true) ?_
  refine mw (vb true) ?_
  iterate 4 refine sk (Eq.refl true) ?_
  refine pk (vb true) wN (Eq.refl true) ?_
  refine n2 ?_
  refine ct (Eq.refl true) ?_
  have aN : s_FrameOk a = false := by simp only [s_FrameOk, d, e, f, cond_true, cond_false]
  exact wj (X aN _ (Ch.refl _ _))
 have bz := dT f
 refine pu (vp b 9) (wS (cA not f)) ?_
 refine ld (vs ac a.Body.length ad) (wS (cA not f)) isAgg_22 y ?_
 refine ln (wS (cA not f)) slTy_22 (a1.from0 i) ?_
 refine pu (vb (!(decide ((a.Body.length : Int) = 0)))) (wS (cA not f)) ?_
 refine pf (vb (!(decide ((a.Body.length : Int) = 0)))) wN (cA not f) ?_
 refine mw (vb (!(decide ((a.Body.length : Int) = 0)))) ?_
 rcases bf (decide ((a.Body.length : Int) = 0)) with g | g
 ·have b0 := dF g
  iterate 4 refine sk (cA not g) ?_
  refine pk (vb true) wN (cA not g) ?_
  refine mw (vb true) ?_
  iterate 4 refine sk (Eq.refl true) ?_
  refine pk (vb true) wN (Eq.refl true) ?_
  refine n2 ?_
  refine ct (Eq.refl true) ?_
  have aO : s_FrameOk a = false := by simp only [s_FrameOk, d, e, f, g, cond_true, cond_false]
  exact wj (X aO _ (Ch.refl _ _))
 have b1 := dT g
 refine pu (vp b 10) (wS (cA not g)) ?_
 refine ld (vs ae a.Tag.length af) (wS (cA not g)) isAgg_22 y ?_
 refine ln (wS (cA not g)) slTy_22 (a2.from0 i) ?_
 refine pu (vb (!(decide ((a.Tag.length : Int) = 0)))) (wS (cA not g)) ?_
 refine pf (vb (!(decide ((a.Tag.length : Int) = 0)))) wN (cA not g) ?_
 refine mw (vb (!(decide ((a.Tag.length : Int) = 0)))) ?_
 rcases bf (decide ((a.Tag.length : Int) = 0)) with h | h
 ·have b2 := dF h
  iterate 4 refine sk (cA not h) ?_
  refine pk (vb true) wN (cA not h) ?_
  refine n2 ?_
  refine ct (Eq.refl true) ?_
  have aP : s_FrameOk a = false := by simp only [s_FrameOk, d, e, f, g, h, cond_true, cond_false]
  exact wj (X aP _ (Ch.refl _ _))
 have b3 := dT h
 refine pu (vp b 2) (wS (cA not h)) ?_
 refine ld (vs aa a.Cn.length ab) (wS (cA not h)) isAgg_22 y ?_
 refine ln (wS (cA not h)) slTy_22 (a0.from0 i) ?_
 refine pu (vb (!(decide ((a.Cn.length : Int) = 12)))) (wS (cA not h)) ?_
 refine pf (vb (!(decide ((a.Cn.length : Int) = 12)))) wN (cA not h) ?_
 refine n2 ?_
 rcases bf (decide ((a.Cn.length : Int) = 12)) with j | j
 ·have b4 := dF j
  refine ct (cA not j) ?_
  have aQ : s_FrameOk a = false := by simp only [s_FrameOk, d, e, f, g, h, j, cond_true, cond_false]
  exact wj (X aQ _ (Ch.refl _ _))
 have b5 := dT j
 refine cf (cA not j) ?_
 refine y2 ?_
 refine pu (vp b 0) wN ?_
 refine ld (vi a.Kind) wN isAgg_3 y ?_
 refine wl_nil <| wq_then <| wc_block <| sr ?_
 refine pu (vb (decide (a.Kind = 1))) wN ?_
 refine aw (vb (decide (a.Kind = 1))) ?_
 refine n2 ?_
 rcases bt (decide (a.Kind = 1)) with k | k
 ·have b6 := dT k
  refine ct k ?_
  refine sr ?_
  refine pu (vp b 1) wN ?_
  refine ld (vi a.Id) wN isAgg_3 y ?_
  refine cl wN (csl1In ak a.Id 1 9) ?_
  rintro _ V ⟨a9, rfl⟩
  have N := i.extk a9
  refine mw (vb (s_l1In a.Id 1 9)) ?_
  rcases bf (s_l1In a.Id 1 9) with t | t
  ·have b7 := spec_l1In_f t
   iterate 4 refine sk t ?_
   refine pf (vb false) wN t ?_
   refine mw (vb false) ?_
   iterate 3 refine sk (Eq.refl false) ?_
   refine pf (vb false) wN (Eq.refl false) ?_
   refine mw (vb false) ?_
   iterate 4 refine sk (Eq.refl false) ?_
   refine pf (vb false) wN (Eq.refl false) ?_
   refine mw (vb false) ?_
   iterate 4 refine sk (Eq.refl false) ?_
   refine pf (vb false) wN (Eq.refl false) ?_
   refine aw (vb false) ?_
   refine wl_nil <| wq_then <| wc_ret <| wq_blk_ret <| wq_then_ret ?_
   refine rt (vb false) ?_
   refine ⟨N.keep0, ?_⟩
   simp only [s_FrameOk, d, e, f, g, h, j, k, t, cond_true, cond_false]
   exact rfl
  have b8 := spec_l1In_t t
  refine pu (vp b 3) (wS t) ?_
  have am := (y.kp a9)
  refine ld (vs O a.Sn.length P) (wS t) isAgg_22 am ?_
  refine ln (wS t) slTy_22 (ah.from0 N) ?_
  refine pu (vb (decide ((a.Sn.length : Int) = 0))) (wS t) ?_
  refine pk (vb (decide ((a.Sn.length : Int) = 0))) wN t ?_
  refine mw (vb (decide ((a.Sn.length : Int) = 0))) ?_
  rcases bf (decide ((a.Sn.length : Int) = 0)) with B | B
  ·have b9 := dF B
   iterate 3 refine sk B ?_
   refine pf (vb false) wN B ?_
   refine mw (vb false) ?_
   iterate 4 refine sk (Eq.refl false) ?_
   refine pf (vb false) wN (Eq.refl false) ?_
   refine mw (vb false) ?_
   iterate 4 refine sk (Eq.refl false) ?_
   refine pf (vb false) wN (Eq.refl false) ?_
   refine aw (vb false) ?_
   refine wl_nil <| wq_then <| wc_ret <| wq_blk_ret <| wq_then_ret ?_
   refine rt (vb false) ?_
   refine ⟨N.keep0, ?_⟩
   simp only [s_FrameOk, d, e, f, g, h, j, k, t, B, cond_true, cond_false]
   exact rfl
  have bA := dT B
  refine pu (vp b 4) (wS B) ?_
  refine ld (vi a.Tick) (wS B) isAgg_3 am ?_
  refine pu (vb (decide (a.Tick = 0))) (wS B) ?_
  refine pk (vb (decide (a.Tick = 0))) wN B ?_
  refine mw (vb (decide (a.Tick = 0))) ?_
  rcases bf (decide (a.Tick = 0)) with C | C
  ·have bB := dF C
   iterate 4 refine sk C ?_
   refine pf (vb false) wN C ?_
   refine mw (vb false) ?_
   iterate 4 refine sk (Eq.refl false) ?_
   refine pf (vb false) wN (Eq.refl false) ?_
   refine aw (vb false) ?_
   refine wl_nil <| wq_then <| wc_ret <| wq_blk_ret <| wq_then_ret ?_
   refine rt (vb false) ?_
   refine ⟨N.keep0, ?_⟩
   simp only [s_FrameOk, d, e, f, g, h, j, k, t, B, C, cond_true, cond_false]
   exact rfl
  have bC := dT C
  refine pu (vp b 5) (wS C) ?_
  refine ld (vs Q a.Cookie.length R) (wS C) isAgg_22 am ?_
  refine ln (wS C) slTy_22 (ai.from0 N) ?_
  refine pu (vb (decide ((a.Cookie.length : Int) = 0))) (wS C) ?_
  refine pk (vb (decide ((a.Cookie.length : Int) = 0))) wN C ?_
  refine mw (vb (decide ((a.Cookie.length : Int) = 0))) ?_
  rcases bf (decide ((a.Cookie.length : Int) = 0)) with H | H
  ·have bD := dF H
   iterate 4 refine sk H ?_
   refine pf (vb false) wN H ?_
   refine aw (vb false) ?_
   refine wl_nil <| wq_then <| wc_ret <| wq_blk_ret <| wq_then_ret ?_
   refine rt (vb false) ?_
   refine ⟨N.keep0, ?_⟩
   simp only [s_FrameOk, d, e, f, g, h, j, k, t, B, C, H, cond_true, cond_false]
   exact rfl
  have bE := dT H
  refine pu (vp b 6) (wS H) ?_
  refine ld (vs S a.Proof.length T) (wS H) isAgg_22 am ?_
  refine ln (wS H) slTy_22 (aj.from0 N) ?_
  refine pu (vb (decide ((a.Proof.length : Int) = 0))) (wS H) ?_
  refine pk (vb (decide ((a.Proof.length : Int) = 0))) wN H ?_
  refine aw (vb (decide ((a.Proof.length : Int) = 0))) ?_
  refine wl_nil <| wq_then <| wc_ret <| wq_blk_ret <| wq_then_ret ?_
  refine rt (vb (decide ((a.Proof.length : Int) = 0))) ?_
  refine ⟨N.keep0, ?_⟩
  simp only [s_FrameOk, d, e, f, g, h, j, k, t, B, C, H, cond_true, cond_false]
  exact rfl
 have bF := dF k
 refine cf k ?_
 refine sr ?_
 refine pu (vb (decide (a.Kind = 2))) wN ?_
 refine aw (vb (decide (a.Kind = 2))) ?_
 refine n2 ?_
 rcases bt (decide (a.Kind = 2)) with r | r
 ·have bG := dT r
  refine ct r ?_
  refine sr ?_
  refine pu (vp b 1) wN ?_
  refine ld (vi a.Id) wN isAgg_3 y ?_
  refine pu (vb (decide (a.Id = 0))) wN ?_
  refine mw (vb (decide (a.Id = 0))) ?_
  rcases bf (decide (a.Id = 0)) with u | u
  ·have bH := dF u
   iterate 4 refine sk u ?_
   refine pf (vb false) wN u ?_
   refine mw (vb false) ?_
   iterate 3 refine sk (Eq.refl false) ?_
   refine pf (vb false) wN (Eq.refl false) ?_
   refine mw (vb false) ?_
   iterate 4 refine sk (Eq.refl false) ?_
   refine pf (vb false) wN (Eq.refl false) ?_
   refine mw (vb false) ?_
   iterate 4 refine sk (Eq.refl false) ?_
   refine pf (vb false) wN (Eq.refl false) ?_
   refine aw (vb false) ?_
   refine wl_nil <| wq_then <| wc_ret <| wq_blk_ret <| wq_then_ret ?_
   refine rt (vb false) ?_
   refine ⟨i.keep0, ?_⟩
   simp only [s_FrameOk, d, e, f, g, h, j, k, r, u, cond_true, cond_false]
   exact rfl
  have bI := dT u
  refine pu (vp b 3) (wS u) ?_
  refine ld (vs O a.Sn.length P) (wS u) isAgg_22 y ?_
  refine ln (wS u) slTy_22 (ah.from0 i) ?_
  refine pu (vb (decide ((a.Sn.length : Int) = 12))) (wS u) ?_
  refine pk (vb (decide ((a.Sn.length : Int) = 12))) wN u ?_
  refine mw (vb (decide ((a.Sn.length : Int) = 12))) ?_
  rcases bf (decide ((a.Sn.length : Int) = 12)) with D | D
  ·have bJ := dF D
   iterate 3 refine sk D ?_
   refine pf (vb false) wN D ?_
   refine mw (vb false) ?_
   iterate 4 refine sk (Eq.refl false) ?_
   refine pf (vb false) wN (Eq.refl false) ?_
   refine mw (vb false) ?_
   iterate 4 refine sk (Eq.refl false) ?_
   refine pf (vb false) wN (Eq.refl false) ?_
   refine aw (vb false) ?_
   refine wl_nil <| wq_then <| wc_ret <| wq_blk_ret <| wq_then_ret ?_
   refine rt (vb false) ?_
   refine ⟨i.keep0, ?_⟩
   simp only [s_FrameOk, d, e, f, g, h, j, k, r, u, D, cond_true, cond_false]
   exact rfl
  have bK := dT D
  refine pu (vp b 4) (wS D) ?_
  refine ld (vi a.Tick) (wS D) isAgg_3 y ?_
  refine cl (wS D) (csl1In ak a.Tick 0 1000000) ?_
  rintro _ V ⟨aA, rfl⟩
  have Y := i.extk aA
  refine pk (vb (s_l1In a.Tick 0 1000000)) wN D ?_
  refine mw (vb (s_l1In a.Tick 0 1000000)) ?_
  rcases bf (s_l1In a.Tick 0 1000000) with E | E
  ·have bL := spec_l1In_f E
   iterate 4 refine sk E ?_
   refine pf (vb false) wN E ?_
   refine mw (vb false) ?_
   iterate 4 refine sk (Eq.refl false) ?_
   refine pf (vb false) wN (Eq.refl false) ?_
   refine aw (vb false) ?_
   refine wl_nil <| wq_then <| wc_ret <| wq_blk_ret <| wq_then_ret ?_
   refine rt (vb false) ?_
   refine ⟨Y.keep0, ?_⟩
   simp only [s_FrameOk, d, e, f, g, h, j, k, r, u, D, E, cond_true, cond_false]
   exact rfl
  have bM := spec_l1In_t E
  refine pu (vp b 5) (wS E) ?_
  have aB := (y.kp aA)
  refine ld (vs Q a.Cookie.length R) (wS E) isAgg_22 aB ?_
  refine ln (wS E) slTy_22 (ai.from0 Y) ?_
  refine pu (vb (decide ((a.Cookie.length : Int) = 16))) (wS E) ?_
  refine pk (vb (decide ((a.Cookie.length : Int) = 16))) wN E ?_
  refine mw (vb (decide ((a.Cookie.length : Int) = 16))) ?_
  rcases bf (decide ((a.Cookie.length : Int) = 16)) with I | I
  ·have bN := dF I
   iterate 4 refine sk I ?_
   refine pf (vb false) wN I ?_
   refine aw (vb false) ?_
   refine wl_nil <| wq_then <| wc_ret <| wq_blk_ret <| wq_then_ret ?_
   refine rt (vb false) ?_
   refine ⟨Y.keep0, ?_⟩
   simp only [s_FrameOk, d, e, f, g, h, j, k, r, u, D, E, I, cond_true, cond_false]
   exact rfl
  have bO := dT I
  refine pu (vp b 6) (wS I) ?_
  refine ld (vs S a.Proof.length T) (wS I) isAgg_22 aB ?_
  refine ln (wS I) slTy_22 (aj.from0 Y) ?_
  refine pu (vb (decide ((a.Proof.length : Int) = 0))) (wS I) ?_
  refine pk (vb (decide ((a.Proof.length : Int) = 0))) wN I ?_
  refine aw (vb (decide ((a.Proof.length : Int) = 0))) ?_
  refine wl_nil <| wq_then <| wc_ret <| wq_blk_ret <| wq_then_ret ?_
  refine rt (vb (decide ((a.Proof.length : Int) = 0))) ?_
  refine ⟨Y.keep0, ?_⟩
  simp only [s_FrameOk, d, e, f, g, h, j, k, r, u, D, E, I, cond_true, cond_false]
  exact rfl
 have bP := dF r
 refine cf r ?_
 refine sr ?_
 refine pu (vb (decide (a.Kind = 3))) wN ?_
 refine aw (vb (decide (a.Kind = 3))) ?_
 refine n2 ?_
 rcases bf (decide (a.Kind = 3)) with K | K
 ·have bQ := dF K
  refine cf K ?_
  refine wc_skip <| wq_blk_normal <| wq_then <| sr ?_
  refine aw (vb false) ?_
  refine n3 ?_
  refine rt (vb false) ?_
  refine ⟨i.keep0, ?_⟩
  simp only [s_FrameOk, d, e, f, g, h, j, k, r, K, cond_true, cond_false]
  exact rfl
 have bR := dT K
 refine ct K ?_
 refine sr ?_
 refine pu (vp b 1) wN ?_
 refine ld (vi a.Id) wN isAgg_3 y ?_
 refine cl wN (csl1In ak a.Id 1 9) ?_
 rintro _ V ⟨aC, rfl⟩
 have an := i.extk aC
 refine mw (vb (s_l1In a.Id 1 9)) ?_
 rcases bf (s_l1In a.Id 1 9) with w | w
 ·have bS := spec_l1In_f w
  iterate 4 refine sk w ?_
  refine pf (vb false) wN w ?_
  refine mw (vb false) ?_
  iterate 3 refine sk (Eq.refl false) ?_
  refine pf (vb false) wN (Eq.refl false) ?_
  refine mw (vb false) ?_
  iterate 4 refine sk (Eq.refl false) ?_
  refine pf (vb false) wN (Eq.refl false) ?_
  refine mw (vb false) ?_
  iterate 4 refine sk (Eq.refl false) ?_
  refine pf (vb false) wN (Eq.refl false) ?_
  refine aw (vb false) ?_
  refine wl_nil <| wq_then <| wc_ret <| wq_blk_ret <| wq_then_ret ?_
  refine rt (vb false) ?_
  refine ⟨an.keep0, ?_⟩
  simp only [s_FrameOk, d, e, f, g, h, j, k, r, K, w, cond_true, cond_false]
  exact rfl
 have bT := spec_l1In_t w
 refine pu (vp b 3) (wS w) ?_
 have ax := (y.kp aC)
 refine ld (vs O a.Sn.length P) (wS w) isAgg_22 ax ?_
 refine ln (wS w) slTy_22 (ah.from0 an) ?_
 refine pu (vb (decide ((a.Sn.length : Int) = 12))) (wS w) ?_
 refine pk (vb (decide ((a.Sn.length : Int) = 12))) wN w ?_
 refine mw (vb (decide ((a.Sn.length : Int) = 12))) ?_
 rcases bf (decide ((a.Sn.length : Int) = 12)) with F | F
 ·have bU := dF F
  iterate 3 refine sk F ?_
  refine pf (vb false) wN F ?_
  refine mw (vb false) ?_
  iterate 4 refine sk (Eq.refl false) ?_
  refine pf (vb false) wN (Eq.refl false) ?_
  refine mw (vb false) ?_
  iterate 4 refine sk (Eq.refl false) ?_
  refine pf (vb false) wN (Eq.refl false) ?_
  refine aw (vb false) ?_
  refine wl_nil <| wq_then <| wc_ret <| wq_blk_ret <| wq_then_ret ?_
  refine rt (vb false) ?_
  refine ⟨an.keep0, ?_⟩
  simp only [s_FrameOk, d, e, f, g, h, j, k, r, K, w, F, cond_true, cond_false]
  exact rfl
 have bW := dT F
 refine pu (vp b 4) (wS F) ?_
 refine ld (vi a.Tick) (wS F) isAgg_3 ax ?_
 refine cl (wS F) (csl1In V a.Tick 0 1000000) ?_
 rintro _ a6 ⟨aD, rfl⟩
 have Z := an.extk aD
 refine pk (vb (s_l1In a.Tick 0 1000000)) wN F ?_
 refine mw (vb (s_l1In a.Tick 0 1000000)) ?_
 rcases bf (s_l1In a.Tick 0 1000000) with G | G
 ·have bX := spec_l1In_f G
  iterate 4 refine sk G ?_
  refine pf (vb false) wN G ?_
  refine mw (vb false) ?_
  iterate 4 refine sk (Eq.refl false) ?_
  refine pf (vb false) wN (Eq.refl false) ?_
  refine aw (vb false) ?_
  refine wl_nil <| wq_then <| wc_ret <| wq_blk_ret <| wq_then_ret ?_
  refine rt (vb false) ?_
  refine ⟨Z.keep0, ?_⟩
  simp only [s_FrameOk, d, e, f, g, h, j, k, r, K, w, F, G, cond_true, cond_false]
  exact rfl
 have bY := spec_l1In_t G
 refine pu (vp b 5) (wS G) ?_
 have aE := (ax.kp aD)
 refine ld (vs Q a.Cookie.length R) (wS G) isAgg_22 aE ?_
 refine ln (wS G) slTy_22 (ai.from0 Z) ?_
 refine pu (vb (decide ((a.Cookie.length : Int) = 16))) (wS G) ?_
 refine pk (vb (decide ((a.Cookie.length : Int) = 16))) wN G ?_
 refine mw (vb (decide ((a.Cookie.length : Int) = 16))) ?_
 rcases bf (decide ((a.Cookie.length : Int) = 16)) with J | J
 ·have bZ := dF J
  iterate 4 refine sk J ?_
  refine pf (vb false) wN J ?_
  refine aw (vb false) ?_
  refine wl_nil <| wq_then <| wc_ret <| wq_blk_ret <| wq_then_ret ?_
  refine rt (vb false) ?_
  refine ⟨Z.keep0, ?_⟩
  simp only [s_FrameOk, d, e, f, g, h, j, k, r, K, w, F, G, J, cond_true, cond_false]
  exact rfl
 have ca := dT J
 refine pu (vp b 6) (wS J) ?_
 refine ld (vs S a.Proof.length T) (wS J) isAgg_22 aE ?_
 refine ln (wS J) slTy_22 (aj.from0 Z) ?_
 refine pu (vb (decide ((a.Proof.length : Int) = 16))) (wS J) ?_
 refine pk (vb (decide ((a.Proof.length : Int) = 16))) wN J ?_
 refine aw (vb (decide ((a.Proof.length : Int) = 16))) ?_
 refine wl_nil <| wq_then <| wc_ret <| wq_blk_ret <| wq_then_ret ?_
 refine rt (vb (decide ((a.Proof.length : Int) = 16))) ?_
 refine ⟨Z.keep0, ?_⟩
 simp only [s_FrameOk, d, e, f, g, h, j, k, r, K, w, F, G, J, cond_true, cond_false]
 exact rfl
theorem frameOk_s {f : PFrame} (h : s_FrameOk f = true) : f.Body.length ≤ 40 := by
  simp only [s_FrameOk, Bool.cond_false_right] at h
  cases h1 : s_Sealed f.Kind
  · simp only [h1, cond_false, Bool.and_eq_true, decide_eq_true_eq] at h
    have := h.2.2.1
    omega
  · simp only [h1, cond_true, Bool.and_eq_true] at h
    have hb := h.2.2.2.2.2.2.2.2.1
    simp only [s_l7Body, cond_eq_ite, decide_eq_true_eq] at hb
    (repeat' split at hb) <;> (have hq := dT hb; omega)

def s_PskOk (a : List UInt8) : (Bool) := (s_l1In (a.length : Int) 1 32)
theorem csPskOk (b : World) (d : Value) (a : List UInt8) (h : R_22 b d a)  : Fn Try.prog 84 #[d] b (fun v e => Keep b e ∧ O_4 e b.heap.size v (s_PskOk a)) := by
 obtain ⟨f, g, rfl, i, m⟩ := h
 refine fn_ofS (n := 6) [(vs f a.length g)] Try.func84 rfl rfl ?_
 refine sr ?_
 refine aw (vb false) ?_
 refine nx ?_
 refine mw (vs f a.length g) ?_
 refine ln wN slTy_22 i ?_
 refine cl wN (csl1In b (a.length : Int) 1 32) ?_
 rintro _ o ⟨j, rfl⟩
 have k := (Ch.base b).extk j
 refine aw (vb (s_l1In (a.length : Int) 1 32)) ?_
 refine n3 ?_
 refine rt (vb (s_l1In (a.length : Int) 1 32)) ?_
 refine ⟨k.keep0, ?_⟩
 have l : s_PskOk a = (s_l1In (a.length : Int) 1 32) := by rfl
 rw [l]
 exact rfl
end Go.Proofs.Ytfnagaidikejjaa.K
