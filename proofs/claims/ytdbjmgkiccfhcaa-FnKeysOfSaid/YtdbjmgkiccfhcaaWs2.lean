import Derived.Test.YtdbjmgkiccfhcaaCore
import Derived.Test.YtdbjmgkiccfhcaaProg
import Derived.Test.YtdbjmgkiccfhcaaHeld
import Derived.Test.YtdbjmgkiccfhcaaFun
import Derived.Test.YtdbjmgkiccfhcaaFunZ
import Derived.Test.YtdbjmgkiccfhcaaSqz
import Derived.Test.YtdbjmgkiccfhcaaCur
import Derived.Test.YtdbjmgkiccfhcaaDrawW
import Derived.Test.YtdbjmgkiccfhcaaAead
import Derived.Test.YtdbjmgkiccfhcaaWs1
namespace Go.Proofs.Ytdbjmgkiccfhcaa.K
open Go.RowKit
set_option linter.unusedVariables false
set_option linter.unusedSimpArgs false
set_option maxRecDepth 100000
set_option maxHeartbeats 4000000
theorem C_spec_Compress (w0 : World) (v_x_h : Value) (x_h : List Int) (r_x_h : R_56 w0 v_x_h x_h) (v_x_block : Value) (x_block : List UInt8) (r_x_block : R_22 w0 v_x_block x_block)  : Fn Try.prog 150 #[v_x_h, v_x_block] w0 (fun v w' => Keep w0 w' ∧ O_56 w' w0.heap.size v (compress x_h x_block)) := by
 obtain ⟨a1, c2, rfl, r3, s4⟩ := r_x_h
 obtain ⟨a6, c7, rfl, r8, s9⟩ := r_x_block
 refine fn_ofS (n := 156) [(vs a1 x_h.length c2), (vs a6 x_block.length c7)] Try.func150 rfl rfl ?_
 refine sr ?_
 refine aw (vs none 0 0) ?_
 refine nx ?_
 refine wl_lit0 wN rfl rfl slTy_56 (fun w => by kernel_rfl) ?_
 intro a11 w1 k12 o13
 have m14 := (Ch.base w0).extk k12
 refine mw (vs a1 x_h.length c2) ?_
 refine ap0I x_h wN slTy_56 o13 (r3.from0 m14) k12.size ?_
 intro a16 c17 w2 k18 o19 n20
 have m21 := m14.extk k18
 refine aw (vs a16 x_h.length c17) ?_
 refine n4 ?_
 refine jT1 [(0, (vs a1 x_h.length c2)), (1, (vs a6 x_block.length c7)), (4, (vs none 0 0)), (5, (vs a16 x_h.length c17))] (compress x_h x_block = x_h) ?_ fun J23 => ?_
 ·intro hA24 w3 k26 u25
  have m27 := m21.extk k26
  refine sr ?_
  refine mw (vs a16 x_h.length c17) ?_
  refine aw (vs a16 x_h.length c17) ?_
  refine n1 ?_
  have o28 := (own_kp o19 k26)
  refine rt (vs a16 x_h.length c17) ?_
  refine ⟨m27.keep0, ?_⟩
  rw [hA24]
  exact ⟨_, _, rfl, o28, s4, ⟨trivial, trivial⟩⟩
 refine mw (vs a1 x_h.length c2) ?_
 refine cl wN (C_spec_l2Words w2 _ x_h (mR_56 (r3.from0 m21) s4)) ?_
 rintro _ w3 ⟨k30, rfl⟩
 have m31 := m21.extk k30
 refine pu (vb (!(ws8 x_h))) wN ?_
 refine mw (vb (!(ws8 x_h))) ?_
 rcases bf (ws8 x_h) with h32 | h32
 ·iterate 3 refine sk (congrArg not h32) ?_
  refine pk (vb true) wN (congrArg not h32) ?_
  refine n2 ?_
  refine ct (Eq.refl true) ?_
  have hF371 : compress x_h x_block = x_h := by first | exact compress_f (by first | assumption | exact ‹ws8 x_h = false›) | exact compress_g (by omega) | exact compress_t (by first | assumption | exact ‹ws8 x_h = true›) (by omega) (by omega)
  exact wj (J23 hF371 _ k30)
 have q33 := ws8_t h32
 refine mv (vs a6 x_block.length c7) (wS (congrArg not h32)) ?_
 refine ln (wS (congrArg not h32)) slTy_22 (r8.from0 m31) ?_
 refine pu (vb (!(decide ((x_block.length : Int) = 64)))) (wS (congrArg not h32)) ?_
 refine pf (vb (!(decide ((x_block.length : Int) = 64)))) wN (congrArg not h32) ?_
 refine n2 ?_
 rcases bf (decide ((x_block.length : Int) = 64)) with h34 | h34
 ·have q368 := of_decide_eq_false h34
  refine ct (congrArg not h34) ?_
  have hF369 : compress x_h x_block = x_h := by first | exact compress_f (by first | assumption | exact ‹ws8 x_h = false›) | exact compress_g (by omega) | exact compress_t (by first | assumption | exact ‹ws8 x_h = true›) (by omega) (by omega)
  exact wj (J23 hF369 _ k30)
 have q35 := of_decide_eq_true h34
 refine cf (congrArg not h34) ?_
 refine y1 ?_
 refine cl wN (C_spec_l2K w3 ) ?_
 rintro _ w4 ⟨k36, ⟨a37, c38, rfl, o39, s40, ap42⟩⟩
 have m43 := m31.extk k36
 refine aw (vs a37 (kw).length c38) ?_
 refine nx ?_
 refine mw (vs a6 x_block.length c7) ?_
 refine cl wN (C_spec_Schedule w4 _ x_block (mR_22 (r8.from0 m43) s9)) ?_
 rintro _ w5 ⟨k44, ⟨a45, c46, rfl, o47, s48, ap50⟩⟩
 have m51 := m43.extk k44
 have q52 := schedP_len x_block
 refine aw (vs a45 (schedP x_block).length c46) ?_
 refine wl_nil <| wq_then <| wc_seq ?_
 refine wc_draw ([(36, [], [], (fun _ v _ => v = (vs a1 x_h.length c2))), (37, [], [0], (fun _ v _ => v = (ve (vs a1 x_h.length c2) ((0 : Int).toNat * 1)))), (38, [], [0, 1], (fun _ v _ => v = (vi (x_h.getD 0 0)))), (39, [], [], (fun _ v _ => v = (vs a1 x_h.length c2))), (40, [], [3], (fun _ v _ => v = (ve (vs a1 x_h.length c2) ((1 : Int).toNat * 1)))), (41, [], [3, 4], (fun _ v _ => v = (vi (x_h.getD 1 0)))), (42, [], [], (fun _ v _ => v = (vs a1 x_h.length c2))), (43, [], [6], (fun _ v _ => v = (ve (vs a1 x_h.length c2) ((2 : Int).toNat * 1)))), (44, [], [6, 7], (fun _ v _ => v = (vi (x_h.getD 2 0)))), (45, [], [], (fun _ v _ => v = (vs a1 x_h.length c2))), (46, [], [9], (fun _ v _ => v = (ve (vs a1 x_h.length c2) ((3 : Int).toNat * 1)))), (47, [], [9, 10], (fun _ v _ => v = (vi (x_h.getD 3 0)))), (48, [], [], (fun _ v _ => v = (vs a1 x_h.length c2))), (49, [], [12], (fun _ v _ => v = (ve (vs a1 x_h.length c2) ((4 : Int).toNat * 1)))), (50, [], [12, 13], (fun _ v _ => v = (vi (x_h.getD 4 0)))), (51, [], [], (fun _ v _ => v = (vs a1 x_h.length c2))), (52, [], [15], (fun _ v _ => v = (ve (vs a1 x_h.length c2) ((5 : Int).toNat * 1)))), (53, [], [15, 16], (fun _ v _ => v = (vi (x_h.getD 5 0)))), (54, [], [], (fun _ v _ => v = (vs a1 x_h.length c2))), (55, [], [18], (fun _ v _ => v = (ve (vs a1 x_h.length c2) ((6 : Int).toNat * 1)))), (56, [], [18, 19], (fun _ v _ => v = (vi (x_h.getD 6 0)))), (57, [], [], (fun _ v _ => v = (vs a1 x_h.length c2))), (58, [], [21], (fun _ v _ => v = (ve (vs a1 x_h.length c2) ((7 : Int).toNat * 1)))), (59, [], [21, 22], (fun _ v _ => v = (vi (x_h.getD 7 0)))), (8, [], [0, 1, 2], (fun _ v _ => v = (vi (x_h.getD 0 0)))), (9, [], [0, 1, 2, 3, 4, 5, 24], (fun _ v _ => v = (vi (x_h.getD 1 0)))), (10, [], [0, 1, 2, 3, 4, 5, 6, 7, 8, 24, 25], (fun _ v _ => v = (vi (x_h.getD 2 0)))), (11, [], [0, 1, 2, 3, 4, 5, 6, 7, 8, 9, 10, 11, 24, 25, 26], (fun _ v _ => v = (vi (x_h.getD 3 0)))), (12, [], [0, 1, 2, 3, 4, 5, 6, 7, 8, 9, 10, 11, 12, 13, 14, 24, 25, 26, 27], (fun _ v _ => v = (vi (x_h.getD 4 0)))), (13, [], [0, 1, 2, 3, 4, 5, 6, 7, 8, 9, 10, 11, 12, 13, 14, 15, 16, 17, 24, 25, 26, 27, 28], (fun _ v _ => v = (vi (x_h.getD 5 0)))), (14, [], [0, 1, 2, 3, 4, 5, 6, 7, 8, 9, 10, 11, 12, 13, 14, 15, 16, 17, 18, 19, 20, 24, 25, 26, 27, 28, 29], (fun _ v _ => v = (vi (x_h.getD 6 0))))] : GV) mixed rfl (by kernel_rfl) (by kernel_rfl) ?_ ?_ ?_
 ·exact ⟨hV, hE, ⟨hV, hE, ⟨hV, hE, ⟨hV, hE, ⟨hV, hE, ⟨hV, hE, ⟨hV, hE, ⟨hV, hE, ⟨hV, hE, ⟨hV, hE, ⟨hV, hE, ⟨hV, hE, ⟨hV, hE, ⟨hV, hE, ⟨hV, hE, ⟨hV, hE, ⟨hV, hE, ⟨hV, hE, ⟨hV, hE, ⟨hV, hE, ⟨hV, hE, ⟨hV, hE, ⟨hV, hE, ⟨hV, hE, ⟨hV, hE, ⟨hV, hE, ⟨hV, hE, ⟨hV, hE, ⟨hV, hE, ⟨hV, hE, ⟨hV, hE, trivial⟩⟩⟩⟩⟩⟩⟩⟩⟩⟩⟩⟩⟩⟩⟩⟩⟩⟩⟩⟩⟩⟩⟩⟩⟩⟩⟩⟩⟩⟩⟩
 ·refine ⟨?_, ⟨?_, ⟨?_, ⟨?_, ⟨?_, ⟨?_, ⟨?_, ⟨?_, ⟨?_, ⟨?_, ⟨?_, ⟨?_, ⟨?_, ⟨?_, ⟨?_, ⟨?_, ⟨?_, ⟨?_, ⟨?_, ⟨?_, ⟨?_, ⟨?_, ⟨?_, ⟨?_, ⟨?_, ⟨?_, ⟨?_, ⟨?_, ⟨?_, ⟨?_, ⟨?_, trivial⟩⟩⟩⟩⟩⟩⟩⟩⟩⟩⟩⟩⟩⟩⟩⟩⟩⟩⟩⟩⟩⟩⟩⟩⟩⟩⟩⟩⟩⟩⟩
  ·intro w6 k53
   rintro _ _ _ _ _ _ _ _ _ _ _ _ _ _ _ _ _ _ _ _ _ _ _ _ _ _ _ _ _ _ _
   show WL _ _ _ _ _ _ _
   refine mw (vs a1 x_h.length c2) ?_
   exact f2
  ·intro w6 k55
   have m56 := m51.extk k55
   rintro _ rfl _ _ _ _ _ _ _ _ _ _ _ _ _ _ _ _ _ _ _ _ _ _ _ _ _ _ _ _ _ _
   show WL _ _ _ _ _ _ _
   refine ix wN 0 slTy_56 (r3.from0 m56) ?_
   exact f2
  ·intro w6 k57
   have m58 := m51.extk k57
   rintro _ rfl _ rfl _ _ _ _ _ _ _ _ _ _ _ _ _ _ _ _ _ _ _ _ _ _ _ _ _ _ _ _ _
   show WL _ _ _ _ _ _ _
   refine ei (x := x_h) 0 wN isAgg_3 (r3.from0 m58) ?_
   exact f2
  ·intro w6 k59
   rintro _ _ _ _ _ _ _ _ _ _ _ _ _ _ _ _ _ _ _ _ _ _ _ _ _ _ _ _ _ _ _
   show WL _ _ _ _ _ _ _
   refine mw (vs a1 x_h.length c2) ?_
   exact f2
  ·intro w6 k61
   have m62 := m51.extk k61
   rintro _ _ _ _ rfl _ _ _ _ _ _ _ _ _ _ _ _ _ _ _ _ _ _ _ _ _ _ _ _ _ _ _
   show WL _ _ _ _ _ _ _
   refine ix wN 1 slTy_56 (r3.from0 m62) ?_
   exact f2
  ·intro w6 k63
   have m64 := m51.extk k63
   rintro _ _ _ _ rfl _ rfl _ _ _ _ _ _ _ _ _ _ _ _ _ _ _ _ _ _ _ _ _ _ _ _ _ _
   show WL _ _ _ _ _ _ _
   refine ei (x := x_h) 1 wN isAgg_3 (r3.from0 m64) ?_
   exact f2
  ·intro w6 k65
   rintro _ _ _ _ _ _ _ _ _ _ _ _ _ _ _ _ _ _ _ _ _ _ _ _ _ _ _ _ _ _ _
   show WL _ _ _ _ _ _ _
   refine mw (vs a1 x_h.length c2) ?_
   exact f2
  ·intro w6 k67
   have m68 := m51.extk k67
   rintro _ _ _ _ _ _ _ rfl _ _ _ _ _ _ _ _ _ _ _ _ _ _ _ _ _ _ _ _ _ _ _ _
   show WL _ _ _ _ _ _ _
   refine ix wN 2 slTy_56 (r3.from0 m68) ?_
   exact f2
  ·intro w6 k69
   have m70 := m51.extk k69
   rintro _ _ _ _ _ _ _ rfl _ rfl _ _ _ _ _ _ _ _ _ _ _ _ _ _ _ _ _ _ _ _ _ _ _
   show WL _ _ _ _ _ _ _
   refine ei (x := x_h) 2 wN isAgg_3 (r3.from0 m70) ?_
   exact f2
  ·intro w6 k71
   rintro _ _ _ _ _ _ _ _ _ _ _ _ _ _ _ _ _ _ _ _ _ _ _ _ _ _ _ _ _ _ _
   show WL _ _ _ _ _ _ _
   refine mw (vs a1 x_h.length c2) ?_
   exact f2
  ·intro w6 k73
   have m74 := m51.extk k73
   rintro _ _ _ _ _ _ _ _ _ _ rfl _ _ _ _ _ _ _ _ _ _ _ _ _ _ _ _ _ _ _ _ _
   show WL _ _ _ _ _ _ _
   refine ix wN 3 slTy_56 (r3.from0 m74) ?_
   exact f2
  ·intro w6 k75
   have m76 := m51.extk k75
   rintro _ _ _ _ _ _ _ _ _ _ rfl _ rfl _ _ _ _ _ _ _ _ _ _ _ _ _ _ _ _ _ _ _ _
   show WL _ _ _ _ _ _ _
   refine ei (x := x_h) 3 wN isAgg_3 (r3.from0 m76) ?_
   exact f2
  ·intro w6 k77
   rintro _ _ _ _ _ _ _ _ _ _ _ _ _ _ _ _ _ _ _ _ _ _ _ _ _ _ _ _ _ _ _
   show WL _ _ _ _ _ _ _
   refine mw (vs a1 x_h.length c2) ?_
   exact f2
  ·intro w6 k79
   have m80 := m51.extk k79
   rintro _ _ _ _ _ _ _ _ _ _ _ _ _ rfl _ _ _ _ _ _ _ _ _ _ _ _ _ _ _ _ _ _
   show WL _ _ _ _ _ _ _
   refine ix wN 4 slTy_56 (r3.from0 m80) ?_
   exact f2
  ·intro w6 k81
   have m82 := m51.extk k81
   rintro _ _ _ _ _ _ _ _ _ _ _ _ _ rfl _ rfl _ _ _ _ _ _ _ _ _ _ _ _ _ _ _ _ _
   show WL _ _ _ _ _ _ _
   refine ei (x := x_h) 4 wN isAgg_3 (r3.from0 m82) ?_
   exact f2
  ·intro w6 k83
   rintro _ _ _ _ _ _ _ _ _ _ _ _ _ _ _ _ _ _ _ _ _ _ _ _ _ _ _ _ _ _ _
   show WL _ _ _ _ _ _ _
   refine mw (vs a1 x_h.length c2) ?_
   exact f2
  ·intro w6 k85
   have m86 := m51.extk k85
   rintro _ _ _ _ _ _ _ _ _ _ _ _ _ _ _ _ rfl _ _ _ _ _ _ _ _ _ _ _ _ _ _ _
   show WL _ _ _ _ _ _ _
   refine ix wN 5 slTy_56 (r3.from0 m86) ?_
   exact f2
  ·intro w6 k87
   have m88 := m51.extk k87
   rintro _ _ _ _ _ _ _ _ _ _ _ _ _ _ _ _ rfl _ rfl _ _ _ _ _ _ _ _ _ _ _ _ _ _
   show WL _ _ _ _ _ _ _
   refine ei (x := x_h) 5 wN isAgg_3 (r3.from0 m88) ?_
   exact f2
  ·intro w6 k89
   rintro _ _ _ _ _ _ _ _ _ _ _ _ _ _ _ _ _ _ _ _ _ _ _ _ _ _ _ _ _ _ _
   show WL _ _ _ _ _ _ _
   refine mw (vs a1 x_h.length c2) ?_
   exact f2
  ·intro w6 k91
   have m92 := m51.extk k91
   rintro _ _ _ _ _ _ _ _ _ _ _ _ _ _ _ _ _ _ _ rfl _ _ _ _ _ _ _ _ _ _ _ _
   show WL _ _ _ _ _ _ _
   refine ix wN 6 slTy_56 (r3.from0 m92) ?_
   exact f2
  ·intro w6 k93
   have m94 := m51.extk k93
   rintro _ _ _ _ _ _ _ _ _ _ _ _ _ _ _ _ _ _ _ rfl _ rfl _ _ _ _ _ _ _ _ _ _ _
   show WL _ _ _ _ _ _ _
   refine ei (x := x_h) 6 wN isAgg_3 (r3.from0 m94) ?_
   exact f2
  ·intro w6 k95
   rintro _ _ _ _ _ _ _ _ _ _ _ _ _ _ _ _ _ _ _ _ _ _ _ _ _ _ _ _ _ _ _
   show WL _ _ _ _ _ _ _
   refine mw (vs a1 x_h.length c2) ?_
   exact f2
  ·intro w6 k97
   have m98 := m51.extk k97
   rintro _ _ _ _ _ _ _ _ _ _ _ _ _ _ _ _ _ _ _ _ _ _ rfl _ _ _ _ _ _ _ _ _
   show WL _ _ _ _ _ _ _
   refine ix wN 7 slTy_56 (r3.from0 m98) ?_
   exact f2
  ·intro w6 k99
   have m100 := m51.extk k99
   rintro _ _ _ _ _ _ _ _ _ _ _ _ _ _ _ _ _ _ _ _ _ _ rfl _ rfl _ _ _ _ _ _ _ _
   show WL _ _ _ _ _ _ _
   refine ei (x := x_h) 7 wN isAgg_3 (r3.from0 m100) ?_
   exact f2
  ·intro w6 k101
   rintro _ rfl _ rfl _ rfl _ _ _ _ _ _ _ _ _ _ _ _ _ _ _ _ _ _ _ _ _ _ _ _ _ _ _ _
   show WL _ _ _ _ _ _ _
   refine aw (vi (x_h.getD 0 0)) ?_
   exact f2
  ·intro w6 k103
   rintro _ rfl _ rfl _ rfl _ rfl _ rfl _ rfl _ _ _ _ _ _ _ _ _ _ _ _ _ _ _ _ _ _ _ rfl _ _ _ _ _ _
   show WL _ _ _ _ _ _ _
   refine aw (vi (x_h.getD 1 0)) ?_
   exact f2
  ·intro w6 k105
   rintro _ rfl _ rfl _ rfl _ rfl _ rfl _ rfl _ rfl _ rfl _ rfl _ _ _ _ _ _ _ _ _ _ _ _ _ _ _ _ rfl _ rfl _ _ _ _ _
   show WL _ _ _ _ _ _ _
   refine aw (vi (x_h.getD 2 0)) ?_
   exact f2
  ·intro w6 k107
   rintro _ rfl _ rfl _ rfl _ rfl _ rfl _ rfl _ rfl _ rfl _ rfl _ rfl _ rfl _ rfl _ _ _ _ _ _ _ _ _ _ _ _ _ rfl _ rfl _ rfl _ _ _ _
   show WL _ _ _ _ _ _ _
   refine aw (vi (x_h.getD 3 0)) ?_
   exact f2
  ·intro w6 k109
   rintro _ rfl _ rfl _ rfl _ rfl _ rfl _ rfl _ rfl _ rfl _ rfl _ rfl _ rfl _ rfl _ rfl _ rfl _ rfl _ _ _ _ _ _ _ _ _ _ rfl _ rfl _ rfl _ rfl _ _ _
   show WL _ _ _ _ _ _ _
   refine aw (vi (x_h.getD 4 0)) ?_
   exact f2
  ·intro w6 k111
   rintro _ rfl _ rfl _ rfl _ rfl _ rfl _ rfl _ rfl _ rfl _ rfl _ rfl _ rfl _ rfl _ rfl _ rfl _ rfl _ rfl _ rfl _ rfl _ _ _ _ _ _ _ rfl _ rfl _ rfl _ rfl _ rfl _ _
   show WL _ _ _ _ _ _ _
   refine aw (vi (x_h.getD 5 0)) ?_
   exact f2
  ·intro w6 k113
   rintro _ rfl _ rfl _ rfl _ rfl _ rfl _ rfl _ rfl _ rfl _ rfl _ rfl _ rfl _ rfl _ rfl _ rfl _ rfl _ rfl _ rfl _ rfl _ rfl _ rfl _ rfl _ _ _ _ rfl _ rfl _ rfl _ rfl _ rfl _ rfl _
   show WL _ _ _ _ _ _ _
   refine aw (vi (x_h.getD 6 0)) ?_
   exact f2
 ·intro w6 k115
  have m116 := m51.extk k115
  rintro _ rfl _ rfl _ rfl _ rfl _ rfl _ rfl _ rfl _ rfl _ rfl _ rfl _ rfl _ rfl _ rfl _ rfl _ rfl _ rfl _ rfl _ rfl _ rfl _ rfl _ rfl _ rfl _ rfl _ rfl _ rfl _ rfl _ rfl _ rfl _ rfl _ rfl _ rfl
  show WL _ _ _ _ _ _ _
  refine aw (vi (x_h.getD 7 0)) ?_
  refine n4 ?_
  refine aw (vi 0) ?_
  refine wl_nil <| wq_then <| wc_block ?_
  refine wc_loopP [(0, (vs a1 x_h.length c2)), (4, (vs none 0 0)), (5, (vs a16 x_h.length c17)), (6, (vs a37 (kw).length c38)), (7, (vs a45 (schedP x_block).length c46)), (8, (vi ((cmpN (schedP x_block) (s8of x_h) 0).a))), (9, (vi ((cmpN (schedP x_block) (s8of x_h) 0).b))), (10, (vi ((cmpN (schedP x_block) (s8of x_h) 0).c))), (11, (vi ((cmpN (schedP x_block) (s8of x_h) 0).d))), (12, (vi ((cmpN (schedP x_block) (s8of x_h) 0).e))), (13, (vi ((cmpN (schedP x_block) (s8of x_h) 0).f))), (14, (vi ((cmpN (schedP x_block) (s8of x_h) 0).g))), (15, (vi ((cmpN (schedP x_block) (s8of x_h) 0).z))), (16, (vi ((0 : Nat) : Int)))] ⟨rfl, rfl, rfl, rfl, rfl, (congrArg (Value.int .i64) (show ((x_h.getD 0 0) : Int) = (cmpN (schedP x_block) (s8of x_h) 0).a by rfl)), (congrArg (Value.int .i64) (show ((x_h.getD 1 0) : Int) = (cmpN (schedP x_block) (s8of x_h) 0).b by rfl)), (congrArg (Value.int .i64) (show ((x_h.getD 2 0) : Int) = (cmpN (schedP x_block) (s8of x_h) 0).c by rfl)), (congrArg (Value.int .i64) (show ((x_h.getD 3 0) : Int) = (cmpN (schedP x_block) (s8of x_h) 0).d by rfl)), (congrArg (Value.int .i64) (show ((x_h.getD 4 0) : Int) = (cmpN (schedP x_block) (s8of x_h) 0).e by rfl)), (congrArg (Value.int .i64) (show ((x_h.getD 5 0) : Int) = (cmpN (schedP x_block) (s8of x_h) 0).f by rfl)), (congrArg (Value.int .i64) (show ((x_h.getD 6 0) : Int) = (cmpN (schedP x_block) (s8of x_h) 0).g by rfl)), (congrArg (Value.int .i64) (show ((x_h.getD 7 0) : Int) = (cmpN (schedP x_block) (s8of x_h) 0).z by rfl)), (congrArg (Value.int .i64) (show (0 : Int) = ((0 : Nat) : Int) by omega)), trivial⟩ (fun e' w' => ∃ (k : Nat) (ya : Int) (yb : Int) (yc : Int) (yd : Int) (ye : Int) (yf : Int) (yg : Int) (yz : Int) (u117 : Env), e' = pt u117 [(0, (vs a1 x_h.length c2)), (4, (vs none 0 0)), (5, (vs a16 x_h.length c17)), (6, (vs a37 (kw).length c38)), (7, (vs a45 (schedP x_block).length c46)), (8, (vi ya)), (9, (vi yb)), (10, (vi yc)), (11, (vi yd)), (12, (vi ye)), (13, (vi yf)), (14, (vi yg)), (15, (vi yz)), (16, (vi ((k : Nat) : Int)))] ∧ Ch (fun k => w0.heap.size ≤ k) w0 w' ∧ Ch (fun k => w6.heap.size ≤ k) w6 w' ∧ k ≤ 64 ∧ ya = (cmpN (schedP x_block) (s8of x_h) k).a ∧ yb = (cmpN (schedP x_block) (s8of x_h) k).b ∧ yc = (cmpN (schedP x_block) (s8of x_h) k).c ∧ yd = (cmpN (schedP x_block) (s8of x_h) k).d ∧ ye = (cmpN (schedP x_block) (s8of x_h) k).e ∧ yf = (cmpN (schedP x_block) (s8of x_h) k).f ∧ yg = (cmpN (schedP x_block) (s8of x_h) k).g ∧ yz = (cmpN (schedP x_block) (s8of x_h) k).z) (fun e' _ => (64 - (intOf (e' 16))).toNat) ?_ ?_
  ·exact fun u => ⟨0, (cmpN (schedP x_block) (s8of x_h) 0).a, (cmpN (schedP x_block) (s8of x_h) 0).b, (cmpN (schedP x_block) (s8of x_h) 0).c, (cmpN (schedP x_block) (s8of x_h) 0).d, (cmpN (schedP x_block) (s8of x_h) 0).e, (cmpN (schedP x_block) (s8of x_h) 0).f, (cmpN (schedP x_block) (s8of x_h) 0).g, (cmpN (schedP x_block) (s8of x_h) 0).z, u, rfl, m116, (Ch.refl (fun k => w6.heap.size ≤ k) w6), (by omega), (by first | rfl | assumption), (by first | rfl | assumption), (by first | rfl | assumption), (by first | rfl | assumption), (by first | rfl | assumption), (by first | rfl | assumption), (by first | rfl | assumption), (by first | rfl | assumption)⟩
  ·rintro _ w7 ⟨k, ya, yb, yc, yd, ye, yf, yg, yz, u117, rfl, m118, k119, i120, hi_a, hi_b, hi_c, hi_d, hi_e, hi_f, hi_g, hi_z⟩
   obtain ⟨zw, hzw⟩ : ∃ z, (schedP x_block).getD k 0 = z := ⟨_, rfl⟩
   have hwd : 0 ≤ zw ∧ zw < 4294967296 := hzw ▸ wget (schedP_w x_block) k
   obtain ⟨zk, hzk⟩ : ∃ z, kw.getD k 0 = z := ⟨_, rfl⟩
   have hkw : 0 ≤ zk ∧ zk < 4294967296 := hzk ▸ wget kw_w k
   have hkl : kw.length = 64 := rfl
   have hok := cmpN_ok (w := schedP x_block) (s8of_ok (areW_t (by first | assumption | exact ‹ws8 x_h = true›)).1) k
   unfold S8.ok at hok
   rw [← hi_a, ← hi_b, ← hi_c, ← hi_d, ← hi_e, ← hi_f, ← hi_g, ← hi_z] at hok
   refine wc_seq <| sr ?_
   refine mw (vi ((k : Nat) : Int)) ?_
   refine pu (vb (decide (((k : Nat) : Int) < 64))) wN ?_
   refine n2 ?_
   rcases bf (decide (((k : Nat) : Int) < 64)) with h129 | h129
   ·have q302 := of_decide_eq_false h129
    refine cf h129 ?_
    refine wc_exit <| wq_then_exit ?_
    obtain rfl : k = 64 := by omega
    refine wq_then_exit <| wq_blk_exit <| wq_then <| sr ?_
    refine mw (vi ya) ?_
    refine mw (vi yb) ?_
    refine mw (vi yc) ?_
    refine mw (vi yd) ?_
    refine mw (vi ye) ?_
    refine mw (vi yf) ?_
    refine mw (vi yg) ?_
    refine mw (vi yz) ?_
    refine ltI ([ya, yb, yc, yd, ye, yf, yg, yz] : List Int) wN slTy_56 ?_
    intro a303 c304 w8 k305 o306
    have m307 := m118.extk k305
    refine aw (vs a303 ([ya, yb, yc, yd, ye, yf, yg, yz] : List Int).length c304) ?_
    refine n4 ?_
    refine aw (vi 0) ?_
    refine wl_nil <| wq_then <| wc_block ?_
    have o311 := (own_kp (own_ch (own_kp (own_kp (own_kp (own_kp o19 k30) k36) k44) k115) k119 (fun g hg hlt hk => by have h1 := (own_lt o19 g hg).2; have h2 : w2.heap.size ≤ w6.heap.size := (z4 k30 k36 k44 k115); have h3 : w6.heap.size ≤ g := hk; omega)) k305)
    have hE310 : (x_h : List Int) = (addL x_h (S8.list (cmpN (schedP x_block) (s8of x_h) 64))).take 0 ++ x_h.drop 0 := by first | rfl | simp
    have hE312 : (([ya, yb, yc, yd, ye, yf, yg, yz] : List Int) : List Int) = ([ya, yb, yc, yd, ye, yf, yg, yz] : List Int) := by first | rfl | simp
    refine wc_loopP [(0, (vs a1 x_h.length c2)), (4, (vs none 0 0)), (5, (vs a16 x_h.length c17)), (19, (vs a303 ([ya, yb, yc, yd, ye, yf, yg, yz] : List Int).length c304)), (20, (vi ((0 : Nat) : Int)))] ⟨rfl, rfl, rfl, rfl, (congrArg (Value.int .i64) (show (0 : Int) = ((0 : Nat) : Int) by omega)), trivial⟩ (fun e' w' => ∃ (m : Nat) (u309 : Env), e' = pt u309 [(0, (vs a1 x_h.length c2)), (4, (vs none 0 0)), (5, (vs a16 x_h.length c17)), (19, (vs a303 ([ya, yb, yc, yd, ye, yf, yg, yz] : List Int).length c304)), (20, (vi ((m : Nat) : Int)))] ∧ Ch (fun k => w0.heap.size ≤ k) w0 w' ∧ Ch (fun k => w0.heap.size ≤ k) w8 w' ∧ m ≤ 8 ∧ World.ownsRow w' w0.heap.size 3 1 (.slice a16 x_h.length c17) x_h.length (((addL x_h (S8.list (cmpN (schedP x_block) (s8of x_h) 64))).take m ++ x_h.drop m).map iV) ∧ World.ownsRow w' w7.heap.size 3 1 (.slice a303 ([ya, yb, yc, yd, ye, yf, yg, yz] : List Int).length c304) ([ya, yb, yc, yd, ye, yf, yg, yz] : List Int).length ((([ya, yb, yc, yd, ye, yf, yg, yz] : List Int)).map iV)) (fun e' _ => (8 - (intOf (e' 20))).toNat) ?_ ?_
    ·exact fun u => ⟨0, u, rfl, m307, (Ch.refl (fun k => w0.heap.size ≤ k) w8), (by omega), (by rw [← hE310]; exact o311), (by rw [← hE312]; exact o306)⟩
    ·rintro _ w9 ⟨m, u309, rfl, m313, k314, i315, o316, o317⟩
     have hlL : ([ya, yb, yc, yd, ye, yf, yg, yz] : List Int).length = 8 := rfl
     have hll : (addL x_h (S8.list (cmpN (schedP x_block) (s8of x_h) 64))).length = 8 := addL_len (by omega) rfl
     have hl8 : (x_h.length : Int) = 8 := (areW_t (by first | assumption | exact ‹ws8 x_h = true›)).2
     have hw1 := wget (areW_t (by first | assumption | exact ‹ws8 x_h = true›)).1 m
     have hle : ([ya, yb, yc, yd, ye, yf, yg, yz] : List Int) = (S8.list (cmpN (schedP x_block) (s8of x_h) 64)) := by rw [hi_a, hi_b, hi_c, hi_d, hi_e, hi_f, hi_g, hi_z]; rfl
     have hw2 : 0 ≤ ([ya, yb, yc, yd, ye, yf, yg, yz] : List Int).getD m 0 ∧ ([ya, yb, yc, yd, ye, yf, yg, yz] : List Int).getD m 0 < 4294967296 := hle ▸ wget (s8l_w (cmpN_ok (w := schedP x_block) (s8of_ok (areW_t (by first | assumption | exact ‹ws8 x_h = true›)).1) 64)) m
     refine wc_seq <| sr ?_
     refine mw (vi ((m : Nat) : Int)) ?_
     refine pu (vb (decide (((m : Nat) : Int) < 8))) wN ?_
     refine n2 ?_
     rcases bf (decide (((m : Nat) : Int) < 8)) with h318 | h318
     ·have q365 := of_decide_eq_false h318
      refine cf h318 ?_
      refine wc_exit <| wq_then_exit <| wq_then_exit <| wq_blk_exit <| wq_then <| sr ?_
      refine mw (vs a16 x_h.length c17) ?_
      refine aw (vs a16 x_h.length c17) ?_
      refine n3 ?_
      refine rt (vs a16 x_h.length c17) ?_
      refine ⟨m313.keep0, ?_⟩
      have hF366 : compress x_h x_block = ((addL x_h (S8.list (cmpN (schedP x_block) (s8of x_h) 64))).take m ++ x_h.drop m) := by first | exact compress_f (by first | assumption | exact ‹ws8 x_h = false›) | exact compress_g (by omega) | exact compress_t (by first | assumption | exact ‹ws8 x_h = true›) (by omega) (by omega)
      rw [hF366]
      have hN367 : x_h.length = (((addL x_h (S8.list (cmpN (schedP x_block) (s8of x_h) 64))).take m ++ x_h.drop m)).length := by simp only [List.length_append, List.length_take, List.length_drop]; omega
      rw [hN367] at o316 ⊢
      exact ⟨_, _, rfl, o316, (by rw [← hN367]; exact s4), ⟨trivial, trivial⟩⟩
     have q319 := of_decide_eq_true h318
     refine ct h318 ?_
     refine wc_skip <| wq_then <| wc_seq <| wc_block ?_
     refine wc_draw ([(142, [], [], (fun _ v _ => v = (vs a16 x_h.length c17))), (143, [], [], (fun _ v _ => v = (vi ((m : Nat) : Int)))), (144, [], [], (fun _ v _ => v = (vs a1 x_h.length c2))), (145, [], [], (fun _ v _ => v = (vi ((m : Nat) : Int)))), (146, [], [2, 3], (fun _ v _ => v = (ve (vs a1 x_h.length c2) ((((m : Nat) : Int)).toNat * 1)))), (147, [], [2, 3, 4], (fun _ v _ => v = (vi (x_h.getD m 0)))), (148, [], [], (fun _ v _ => v = (vs a303 ([ya, yb, yc, yd, ye, yf, yg, yz] : List Int).length c304))), (149, [], [], (fun _ v _ => v = (vi ((m : Nat) : Int)))), (150, [], [6, 7], (fun _ v _ => v = (ve (vs a303 ([ya, yb, yc, yd, ye, yf, yg, yz] : List Int).length c304) ((((m : Nat) : Int)).toNat * 1)))), (151, [], [6, 7, 8], (fun _ v _ => v = (vi ((([ya, yb, yc, yd, ye, yf, yg, yz] : List Int)).getD m 0)))), (152, [], [2, 3, 4, 5, 6, 7, 8, 9], (fun _ v _ => v = (vi ((x_h.getD m 0) + ((([ya, yb, yc, yd, ye, yf, yg, yz] : List Int)).getD m 0))))), (153, [], [2, 3, 4, 5, 6, 7, 8, 9, 10], (fun _ v _ => v = (vi (((x_h.getD m 0) + ((([ya, yb, yc, yd, ye, yf, yg, yz] : List Int)).getD m 0)) % 4294967296))))] : GV) mixed rfl (by kernel_rfl) (by kernel_rfl) ?_ ?_ ?_
     ·exact ⟨hV, hE, ⟨hV, hE, ⟨hV, hE, ⟨hV, hE, ⟨hV, hE, ⟨hV, hE, ⟨hV, hE, ⟨hV, hE, ⟨hV, hE, ⟨hV, hE, ⟨hV, hE, ⟨hV, hE, trivial⟩⟩⟩⟩⟩⟩⟩⟩⟩⟩⟩⟩
     ·refine ⟨?_, ⟨?_, ⟨?_, ⟨?_, ⟨?_, ⟨?_, ⟨?_, ⟨?_, ⟨?_, ⟨?_, ⟨?_, ⟨?_, trivial⟩⟩⟩⟩⟩⟩⟩⟩⟩⟩⟩⟩
      ·intro w10 k323
       rintro _ _ _ _ _ _ _ _ _ _ _ _
       show WL _ _ _ _ _ _ _
       refine mw (vs a16 x_h.length c17) ?_
       exact f2
      ·intro w10 k325
       rintro _ _ _ _ _ _ _ _ _ _ _ _
       show WL _ _ _ _ _ _ _
       refine mw (vi ((m : Nat) : Int)) ?_
       exact f2
      ·intro w10 k327
       rintro _ _ _ _ _ _ _ _ _ _ _ _
       show WL _ _ _ _ _ _ _
       refine mw (vs a1 x_h.length c2) ?_
       exact f2
      ·intro w10 k329
       rintro _ _ _ _ _ _ _ _ _ _ _ _
       show WL _ _ _ _ _ _ _
       refine mw (vi ((m : Nat) : Int)) ?_
       exact f2
      ·intro w10 k331
       have m332 := m313.extk k331
       rintro _ _ _ rfl _ rfl _ _ _ _ _ _ _ _
       show WL _ _ _ _ _ _ _
       refine ix wN ((m : Nat) : Int) slTy_56 (r3.from0 m332) ?_
       exact f2
      ·intro w10 k333
       have m334 := m313.extk k333
       rintro _ _ _ rfl _ rfl _ rfl _ _ _ _ _ _ _
       show WL _ _ _ _ _ _ _
       refine ei (x := x_h) m wN isAgg_3 (r3.from0 m334) ?_
       exact f2
      ·intro w10 k335
       rintro _ _ _ _ _ _ _ _ _ _ _ _
       show WL _ _ _ _ _ _ _
       refine mw (vs a303 ([ya, yb, yc, yd, ye, yf, yg, yz] : List Int).length c304) ?_
       exact f2
      ·intro w10 k337
       rintro _ _ _ _ _ _ _ _ _ _ _ _
       show WL _ _ _ _ _ _ _
       refine mw (vi ((m : Nat) : Int)) ?_
       exact f2
      ·intro w10 k339
       rintro _ _ _ _ _ _ _ rfl _ rfl _ _ _ _
       show WL _ _ _ _ _ _ _
       have o341 := (own_kp o317 k339)
       refine ix wN ((m : Nat) : Int) slTy_56 (Rd.of_own o341) ?_
       exact f2
      ·intro w10 k342
       rintro _ _ _ _ _ _ _ rfl _ rfl _ rfl _ _ _
       show WL _ _ _ _ _ _ _
       have o345 := (own_kp o317 k342)
       refine ei (x := (([ya, yb, yc, yd, ye, yf, yg, yz] : List Int))) m wN isAgg_3 (Rd.of_own o345) ?_
       exact f2
      ·intro w10 k346
       rintro _ _ _ rfl _ rfl _ rfl _ rfl _ rfl _ rfl _ rfl _ rfl _ _
       show WL _ _ _ _ _ _ _
       refine ar ((x_h.getD m 0) + ((([ya, yb, yc, yd, ye, yf, yg, yz] : List Int)).getD m 0)) wN ?_
       exact f2
      ·intro w10 k350
       rintro _ _ _ rfl _ rfl _ rfl _ rfl _ rfl _ rfl _ rfl _ rfl _ rfl _
       show WL _ _ _ _ _ _ _
       refine wl_and ((x_h.getD m 0) + ((([ya, yb, yc, yd, ye, yf, yg, yz] : List Int)).getD m 0)) 4294967295 4294967296 32 wN rfl rfl (by decide) (by decide) (by decide) (by kernel_rfl) ?_
       exact f2
     ·intro w10 k354
      rintro _ rfl _ rfl _ rfl _ rfl _ rfl _ rfl _ rfl _ rfl _ rfl _ rfl _ rfl _ rfl
      show WL _ _ _ _ _ _ _
      have o358 := (own_kp o316 k354)
      refine ix wN ((m : Nat) : Int) slTy_56 (Rd.of_own o358) ?_
      refine wl_storeI ((addL x_h (S8.list (cmpN (schedP x_block) (s8of x_h) 64))).take m ++ x_h.drop m) (m) ((((x_h.getD m 0) + ((([ya, yb, yc, yd, ye, yf, yg, yz] : List Int)).getD m 0)) % 4294967296)) wN rfl rfl rfl (by simp) rfl sizeOf_3 o358 (by first | omega | (simp only [List.length_append, List.length_take, List.length_drop]; omega)) ?_
      intro w11 k359 o360
      have m361 := (m313.extk k354).ext k359 (fun k hk => Nat.le_trans (Nat.le_refl w0.heap.size) (own_lt o19 k hk).1)
      refine wl_nil <| wq_blk_normal <| wq_then <| wc_region ?_
      refine mw (vi ((m : Nat) : Int)) ?_
      refine ar (((m : Nat) : Int) + 1) wN ?_
      refine aw (vi (((m : Nat) : Int) + 1)) ?_
      refine wl_nil ?_
      have hE362 : ((((addL x_h (S8.list (cmpN (schedP x_block) (s8of x_h) 64))).take m ++ x_h.drop m).set m (((x_h.getD m 0) + ((([ya, yb, yc, yd, ye, yf, yg, yz] : List Int)).getD m 0)) % 4294967296)) : List Int) = (addL x_h (S8.list (cmpN (schedP x_block) (s8of x_h) 64))).take (m + 1) ++ x_h.drop (m + 1) := by first | rfl | (rw [hle]; exact addL_next (l := (S8.list (cmpN (schedP x_block) (s8of x_h) 64))) (by omega) (by show x_h.length = 8; omega))
      have o364 := (own_ch (own_kp o317 k354) k359 (fun g hg hlt hk => by have h1 := (own_lt o306 g hg).1; have h2 := (own_lt o19 g hk).2; have h3 := (z5 k30 k36 k44 k115 k119); omega))
      have hE363 : ((([ya, yb, yc, yd, ye, yf, yg, yz] : List Int)) : List Int) = ([ya, yb, yc, yd, ye, yf, yg, yz] : List Int) := by first | rfl | (rw [hle]; exact addL_next (l := (S8.list (cmpN (schedP x_block) (s8of x_h) 64))) (by omega) (by show x_h.length = 8; omega))
      refine wq_loopP (w0 := w9) [(0, (vs a1 x_h.length c2)), (4, (vs none 0 0)), (5, (vs a16 x_h.length c17)), (19, (vs a303 ([ya, yb, yc, yd, ye, yf, yg, yz] : List Int).length c304)), (20, (vi (((m + 1) : Nat) : Int)))] ?_ ?_ ?_
      · exact ⟨rfl, rfl, rfl, rfl, (congrArg (Value.int .i64) (show ((((m : Nat) : Int) + 1) : Int) = (((m + 1) : Nat) : Int) by omega)), trivial⟩
      · exact fun u => ⟨(m + 1), u, rfl, m361, ((((Ch.refl (fun k => w0.heap.size ≤ k) w8).ext k314 (fun k hk => hk)).extk k354).ext k359 (fun k hk => Nat.le_trans (Nat.le_refl w0.heap.size) (own_lt o19 k hk).1)), (by omega), (by rw [← hE362]; exact o360), (by rw [← hE363]; exact o364)⟩
      · show (8 - (((m + 1) : Nat) : Int)).toNat < (8 - ((m : Nat) : Int)).toNat; omega
   have q130 := of_decide_eq_true h129
   refine ct h129 ?_
   refine wc_skip <| wq_then <| wc_seq <| wc_block <| wc_seq ?_
   refine wc_drawT ([(64, [], [], (fun _ v _ => v = (vi yz))), (65, [], [], (fun _ v _ => v = (vi ye))), (66, [], [1], (fun _ v w => v = .int .i64 (rot ye 6))), (67, [], [], (fun _ v _ => v = (vi ye))), (68, [], [1, 2, 3], (fun _ v w => v = .int .i64 (rot ye 11))), (69, [], [1, 2, 3, 4], (fun _ v _ => v = (vi (xorI (rot ye 6) (rot ye 11))))), (70, [], [], (fun _ v _ => v = (vi ye))), (71, [], [1, 2, 3, 4, 6], (fun _ v w => v = .int .i64 (rot ye 25))), (72, [], [1, 2, 3, 4, 5, 6, 7], (fun _ v _ => v = (vi (xorI (xorI (rot ye 6) (rot ye 11)) (rot ye 25))))), (73, [], [0, 1, 2, 3, 4, 5, 6, 7, 8], (fun _ v _ => v = (vi (yz + (xorI (xorI (rot ye 6) (rot ye 11)) (rot ye 25)))))), (74, [], [], (fun _ v _ => v = (vi ye))), (75, [], [], (fun _ v _ => v = (vi yf))), (76, [], [10, 11], (fun _ v _ => v = (vi (andI ye yf)))), (77, [], [], (fun _ v _ => v = (vi ye))), (78, [], [13], (fun _ v _ => v = (vi (xorI ye 4294967295)))), (79, [], [], (fun _ v _ => v = (vi yg))), (80, [], [13, 14, 15], (fun _ v _ => v = (vi (andI (xorI ye 4294967295) yg)))), (81, [], [10, 11, 12, 13, 14, 15, 16], (fun _ v _ => v = (vi (xorI (andI ye yf) (andI (xorI ye 4294967295) yg))))), (82, [], [0, 1, 2, 3, 4, 5, 6, 7, 8, 9, 10, 11, 12, 13, 14, 15, 16, 17], (fun _ v _ => v = (vi ((yz + (xorI (xorI (rot ye 6) (rot ye 11)) (rot ye 25))) + (xorI (andI ye yf) (andI (xorI ye 4294967295) yg)))))), (83, [], [], (fun _ v _ => v = (vs a37 (kw).length c38))), (84, [], [], (fun _ v _ => v = (vi ((k : Nat) : Int)))), (85, [], [19, 20], (fun _ v _ => v = (ve (vs a37 (kw).length c38) ((((k : Nat) : Int)).toNat * 1)))), (86, [], [19, 20, 21], (fun _ v _ => v = (vi zk))), (87, [], [0, 1, 2, 3, 4, 5, 6, 7, 8, 9, 10, 11, 12, 13, 14, 15, 16, 17, 18, 19, 20, 21, 22], (fun _ v _ => v = (vi (((yz + (xorI (xorI (rot ye 6) (rot ye 11)) (rot ye 25))) + (xorI (andI ye yf) (andI (xorI ye 4294967295) yg))) + zk)))), (88, [], [], (fun _ v _ => v = (vs a45 (schedP x_block).length c46))), (89, [], [], (fun _ v _ => v = (vi ((k : Nat) : Int)))), (90, [], [24, 25], (fun _ v _ => v = (ve (vs a45 (schedP x_block).length c46) ((((k : Nat) : Int)).toNat * 1)))), (91, [], [24, 25, 26], (fun _ v _ => v = (vi zw)))] : GV) (fun _ w' => Keep w7 w') [] mixed rfl (by kernel_rfl) (by kernel_rfl) ?_ (fun _ _ h => h) (fun _ _ _ _ h _ k => h.trans k) trivial ?_ ?_ ?_
   ·exact ⟨hV, hE, ⟨hV, hE, ⟨hV, hE, ⟨hV, hE, ⟨hV, hE, ⟨hV, hE, ⟨hV, hE, ⟨hV, hE, ⟨hV, hE, ⟨hV, hE, ⟨hV, hE, ⟨hV, hE, ⟨hV, hE, ⟨hV, hE, ⟨hV, hE, ⟨hV, hE, ⟨hV, hE, ⟨hV, hE, ⟨hV, hE, ⟨hV, hE, ⟨hV, hE, ⟨hV, hE, ⟨hV, hE, ⟨hV, hE, ⟨hV, hE, ⟨hV, hE, ⟨hV, hE, ⟨hV, hE, trivial⟩⟩⟩⟩⟩⟩⟩⟩⟩⟩⟩⟩⟩⟩⟩⟩⟩⟩⟩⟩⟩⟩⟩⟩⟩⟩⟩⟩
   ·exact trivial
   ·refine ⟨?_, ⟨?_, ⟨?_, ⟨?_, ⟨?_, ⟨?_, ⟨?_, ⟨?_, ⟨?_, ⟨?_, ⟨?_, ⟨?_, ⟨?_, ⟨?_, ⟨?_, ⟨?_, ⟨?_, ⟨?_, ⟨?_, ⟨?_, ⟨?_, ⟨?_, ⟨?_, ⟨?_, ⟨?_, ⟨?_, ⟨?_, ⟨?_, trivial⟩⟩⟩⟩⟩⟩⟩⟩⟩⟩⟩⟩⟩⟩⟩⟩⟩⟩⟩⟩⟩⟩⟩⟩⟩⟩⟩⟩
    ·intro _ w8 k156 _
     rintro _ _ _ _ _ _ _ _ _ _ _ _ _ _ _ _ _ _ _ _ _ _ _ _ _ _ _ _
     show WL _ _ _ _ _ _ _
     refine mw (vi yz) ?_
     exact f1
    ·intro _ w8 k158 _
     rintro _ _ _ _ _ _ _ _ _ _ _ _ _ _ _ _ _ _ _ _ _ _ _ _ _ _ _ _
     show WL _ _ _ _ _ _ _
     refine mw (vi ye) ?_
     exact f1
    ·intro _ w8 k160 _
     rintro _ _ rfl _ _ _ _ _ _ _ _ _ _ _ _ _ _ _ _ _ _ _ _ _ _ _ _ _ _
     show WL _ _ _ _ _ _ _
     refine cl wN (C_spec_Rot w8 ye 6 (by omega) (by omega)) ?_
     rintro _ w9 ⟨k162, rfl⟩
     have q164 := rot_b ye 6
     exact wl_finT k162 rfl
    ·intro _ w8 k165 _
     rintro _ _ _ _ _ _ _ _ _ _ _ _ _ _ _ _ _ _ _ _ _ _ _ _ _ _ _ _
     show WL _ _ _ _ _ _ _
     refine mw (vi ye) ?_
     exact f1
    ·intro _ w8 k167 _
     rintro _ _ rfl _ rfl
     have q169 := rot_b ye 6
     rintro _ rfl _ _ _ _ _ _ _ _ _ _ _ _ _ _ _ _ _ _ _ _ _ _ _ _
     show WL _ _ _ _ _ _ _
     refine cl wN (C_spec_Rot w8 ye 11 (by omega) (by omega)) ?_
     rintro _ w9 ⟨k170, rfl⟩
     have q172 := rot_b ye 11
     exact wl_finT k170 rfl
    ·intro _ w8 k173 _
     rintro _ _ rfl _ rfl
     have q175 := rot_b ye 6
     rintro _ rfl _ rfl
     have q176 := rot_b ye 11
     rintro _ _ _ _ _ _ _ _ _ _ _ _ _ _ _ _ _ _ _ _ _ _ _
     show WL _ _ _ _ _ _ _
     refine wl_xor (rot ye 6) (rot ye 11) wN rfl rfl (by kernel_rfl) (by omega) (by omega) (by omega) (by omega) ?_
     have q177 := xorI_b (a := (rot ye 6)) (b := (rot ye 11)) (by omega) (by omega)
     exact f1
    ·intro _ w8 k178 _
     rintro _ _ _ _ _ _ _ _ _ _ _ _ _ _ _ _ _ _ _ _ _ _ _ _ _ _ _ _
     show WL _ _ _ _ _ _ _
     refine mw (vi ye) ?_
     exact f1
    ·intro _ w8 k180 _
     rintro _ _ rfl _ rfl
     have q182 := rot_b ye 6
     rintro _ rfl _ rfl
     have q183 := rot_b ye 11
     rintro _ _ rfl _ _ _ _ _ _ _ _ _ _ _ _ _ _ _ _ _ _ _ _ _
     show WL _ _ _ _ _ _ _
     refine cl wN (C_spec_Rot w8 ye 25 (by omega) (by omega)) ?_
     rintro _ w9 ⟨k184, rfl⟩
     have q186 := rot_b ye 25
     exact wl_finT k184 rfl
    ·intro _ w8 k187 _
     rintro _ _ rfl _ rfl
     have q189 := rot_b ye 6
     rintro _ rfl _ rfl
     have q190 := rot_b ye 11
     rintro _ rfl
     have q191 := xorI_b (a := (rot ye 6)) (b := (rot ye 11)) (by omega) (by omega)
     rintro _ rfl _ rfl
     have q192 := rot_b ye 25
     rintro _ _ _ _ _ _ _ _ _ _ _ _ _ _ _ _ _ _ _ _
     show WL _ _ _ _ _ _ _
     refine wl_xor (xorI (rot ye 6) (rot ye 11)) (rot ye 25) wN rfl rfl (by kernel_rfl) (by omega) (by omega) (by omega) (by omega) ?_
     have q193 := xorI_b (a := (xorI (rot ye 6) (rot ye 11))) (b := (rot ye 25)) (by omega) (by omega)
     exact f1
    ·intro _ w8 k194 _
     rintro _ rfl _ rfl _ rfl
     have q196 := rot_b ye 6
     rintro _ rfl _ rfl
     have q197 := rot_b ye 11
     rintro _ rfl
     have q198 := xorI_b (a := (rot ye 6)) (b := (rot ye 11)) (by omega) (by omega)
     rintro _ rfl _ rfl
     have q199 := rot_b ye 25
     rintro _ rfl
     have q200 := xorI_b (a := (xorI (rot ye 6) (rot ye 11))) (b := (rot ye 25)) (by omega) (by omega)
     rintro _ _ _ _ _ _ _ _ _ _ _ _ _ _ _ _ _ _ _
     show WL _ _ _ _ _ _ _
     refine ar (yz + (xorI (xorI (rot ye 6) (rot ye 11)) (rot ye 25))) wN ?_
     exact f1
    ·intro _ w8 k201 _
     rintro _ _ _ _ _ _ _ _ _ _ _ _ _ _ _ _ _ _ _ _ _ _ _ _ _ _ _ _
     show WL _ _ _ _ _ _ _
     refine mw (vi ye) ?_
     exact f1
    ·intro _ w8 k203 _
     rintro _ _ _ _ _ _ _ _ _ _ _ _ _ _ _ _ _ _ _ _ _ _ _ _ _ _ _ _
     show WL _ _ _ _ _ _ _
     refine mw (vi yf) ?_
     exact f1
    ·intro _ w8 k205 _
     rintro _ _ _ _ _ _ _ _ _ _ _ rfl _ rfl _ _ _ _ _ _ _ _ _ _ _ _ _ _ _ _
     show WL _ _ _ _ _ _ _
     refine wl_andG ye yf wN rfl rfl (by kernel_rfl) (by omega) (by omega) (by omega) (by omega) ?_
     have q207 := andI_b (a := ye) (b := yf) (by omega)
     exact f1
    ·intro _ w8 k208 _
     rintro _ _ _ _ _ _ _ _ _ _ _ _ _ _ _ _ _ _ _ _ _ _ _ _ _ _ _ _
     show WL _ _ _ _ _ _ _
     refine mw (vi ye) ?_
     exact f1
    ·intro _ w8 k210 _
     rintro _ _ _ _ _ _ _ _ _ _ _ _ _ _ rfl _ _ _ _ _ _ _ _ _ _ _ _ _ _
     show WL _ _ _ _ _ _ _
     refine wl_xor ye 4294967295 wN rfl rfl (by kernel_rfl) (by omega) (by omega) (by omega) (by omega) ?_
     have q212 := xorI_b (a := ye) (b := 4294967295) (by omega) (by omega)
     exact f1
    ·intro _ w8 k213 _
     rintro _ _ _ _ _ _ _ _ _ _ _ _ _ _ _ _ _ _ _ _ _ _ _ _ _ _ _ _
     show WL _ _ _ _ _ _ _
     refine mw (vi yg) ?_
     exact f1
    ·intro _ w8 k215 _
     rintro _ _ _ _ _ _ _ _ _ _ _ _ _ _ rfl _ rfl
     have q217 := xorI_b (a := ye) (b := 4294967295) (by omega) (by omega)
     rintro _ rfl _ _ _ _ _ _ _ _ _ _ _ _
     show WL _ _ _ _ _ _ _
     refine wl_andG (xorI ye 4294967295) yg wN rfl rfl (by kernel_rfl) (by omega) (by omega) (by omega) (by omega) ?_
     have q218 := andI_b (a := (xorI ye 4294967295)) (b := yg) (by omega)
     exact f1
    ·intro _ w8 k219 _
     rintro _ _ _ _ _ _ _ _ _ _ _ rfl _ rfl _ rfl
     have q221 := andI_b (a := ye) (b := yf) (by omega)
     rintro _ rfl _ rfl
     have q222 := xorI_b (a := ye) (b := 4294967295) (by omega) (by omega)
     rintro _ rfl _ rfl
     have q223 := andI_b (a := (xorI ye 4294967295)) (b := yg) (by omega)
     rintro _ _ _ _ _ _ _ _ _ _ _
     show WL _ _ _ _ _ _ _
     refine wl_xor (andI ye yf) (andI (xorI ye 4294967295) yg) wN rfl rfl (by kernel_rfl) (by omega) (by omega) (by omega) (by omega) ?_
     have q224 := xorI_b (a := (andI ye yf)) (b := (andI (xorI ye 4294967295) yg)) (by omega) (by omega)
     exact f1
    ·intro _ w8 k225 _
     rintro _ rfl _ rfl _ rfl
     have q227 := rot_b ye 6
     rintro _ rfl _ rfl
     have q228 := rot_b ye 11
     rintro _ rfl
     have q229 := xorI_b (a := (rot ye 6)) (b := (rot ye 11)) (by omega) (by omega)
     rintro _ rfl _ rfl
     have q230 := rot_b ye 25
     rintro _ rfl
     have q231 := xorI_b (a := (xorI (rot ye 6) (rot ye 11))) (b := (rot ye 25)) (by omega) (by omega)
     rintro _ rfl _ rfl _ rfl _ rfl
     have q232 := andI_b (a := ye) (b := yf) (by omega)
     rintro _ rfl _ rfl
     have q233 := xorI_b (a := ye) (b := 4294967295) (by omega) (by omega)
     rintro _ rfl _ rfl
     have q234 := andI_b (a := (xorI ye 4294967295)) (b := yg) (by omega)
     rintro _ rfl
     have q235 := xorI_b (a := (andI ye yf)) (b := (andI (xorI ye 4294967295) yg)) (by omega) (by omega)
     rintro _ _ _ _ _ _ _ _ _ _
     show WL _ _ _ _ _ _ _
     refine ar ((yz + (xorI (xorI (rot ye 6) (rot ye 11)) (rot ye 25))) + (xorI (andI ye yf) (andI (xorI ye 4294967295) yg))) wN ?_
     exact f1
    ·intro _ w8 k236 _
     rintro _ _ _ _ _ _ _ _ _ _ _ _ _ _ _ _ _ _ _ _ _ _ _ _ _ _ _ _
     show WL _ _ _ _ _ _ _
     refine mw (vs a37 (kw).length c38) ?_
     exact f1
    ·intro _ w8 k238 _
     rintro _ _ _ _ _ _ _ _ _ _ _ _ _ _ _ _ _ _ _ _ _ _ _ _ _ _ _ _
     show WL _ _ _ _ _ _ _
     refine mw (vi ((k : Nat) : Int)) ?_
     exact f1
    ·intro _ w8 k240 _
     rintro _ _ _ _ _ _ _ _ _ _ _ _ _ _ _ _ _ _ _ _ rfl _ rfl _ _ _ _ _ _ _
     show WL _ _ _ _ _ _ _
     have o242 := (own_kp (own_ch (own_kp (own_kp o39 k44) k115) k119 (fun g hg hlt hk => by have h1 := (own_lt o39 g hg).2; have h2 : w4.heap.size ≤ w6.heap.size := (z2 k44 k115); have h3 : w6.heap.size ≤ g := hk; omega)) k240)
     refine ix wN ((k : Nat) : Int) slTy_56 (Rd.of_own o242) ?_
     exact f1
    ·intro _ w8 k243 _
     rintro _ _ _ _ _ _ _ _ _ _ _ _ _ _ _ _ _ _ _ _ rfl _ rfl _ rfl _ _ _ _ _ _
     show WL _ _ _ _ _ _ _
     have o246 := (own_kp (own_ch (own_kp (own_kp o39 k44) k115) k119 (fun g hg hlt hk => by have h1 := (own_lt o39 g hg).2; have h2 : w4.heap.size ≤ w6.heap.size := (z2 k44 k115); have h3 : w6.heap.size ≤ g := hk; omega)) k243)
     refine wl_loadE (iV zk) wN rfl rfl rfl rfl isAgg_3 (Rd.of_own o246) (by rw [← hzk]; exact iget (by simp) (by first | omega | (simp only [List.length_cons, List.length_nil, List.length_replicate, List.length_append, List.length_take, List.length_set, List.length_map]; omega))) ?_
     exact f1
    ·intro _ w8 k247 _
     rintro _ rfl _ rfl _ rfl
     have q249 := rot_b ye 6
     rintro _ rfl _ rfl
     have q250 := rot_b ye 11
     rintro _ rfl
     have q251 := xorI_b (a := (rot ye 6)) (b := (rot ye 11)) (by omega) (by omega)
     rintro _ rfl _ rfl
     have q252 := rot_b ye 25
     rintro _ rfl
     have q253 := xorI_b (a := (xorI (rot ye 6) (rot ye 11))) (b := (rot ye 25)) (by omega) (by omega)
     rintro _ rfl _ rfl _ rfl _ rfl
     have q254 := andI_b (a := ye) (b := yf) (by omega)
     rintro _ rfl _ rfl
     have q255 := xorI_b (a := ye) (b := 4294967295) (by omega) (by omega)
     rintro _ rfl _ rfl
     have q256 := andI_b (a := (xorI ye 4294967295)) (b := yg) (by omega)
     rintro _ rfl
     have q257 := xorI_b (a := (andI ye yf)) (b := (andI (xorI ye 4294967295) yg)) (by omega) (by omega)
     rintro _ rfl _ rfl _ rfl _ rfl _ rfl _ _ _ _ _
     show WL _ _ _ _ _ _ _
     refine ar (((yz + (xorI (xorI (rot ye 6) (rot ye 11)) (rot ye 25))) + (xorI (andI ye yf) (andI (xorI ye 4294967295) yg))) + zk) wN ?_
     exact f1
    ·intro _ w8 k260 _
     rintro _ _ _ _ _ _ _ _ _ _ _ _ _ _ _ _ _ _ _ _ _ _ _ _ _ _ _ _
     show WL _ _ _ _ _ _ _
     refine mw (vs a45 (schedP x_block).length c46) ?_
     exact f1
    ·intro _ w8 k262 _
     rintro _ _ _ _ _ _ _ _ _ _ _ _ _ _ _ _ _ _ _ _ _ _ _ _ _ _ _ _
     show WL _ _ _ _ _ _ _
     refine mw (vi ((k : Nat) : Int)) ?_
     exact f1
    ·intro _ w8 k264 _
     rintro _ _ _ _ _ _ _ _ _ _ _ _ _ _ _ _ _ _ _ _ _ _ _ _ _ rfl _ rfl _ _
     show WL _ _ _ _ _ _ _
     have o266 := (own_kp (own_ch (own_kp o47 k115) k119 (fun g hg hlt hk => by have h1 := (own_lt o47 g hg).2; have h2 : w5.heap.size ≤ w6.heap.size := k115.size; have h3 : w6.heap.size ≤ g := hk; omega)) k264)
     refine ix wN ((k : Nat) : Int) slTy_56 (Rd.of_own o266) ?_
     exact f1
    ·intro _ w8 k267 _
     rintro _ _ _ _ _ _ _ _ _ _ _ _ _ _ _ _ _ _ _ _ _ _ _ _ _ rfl _ rfl _ rfl _
     show WL _ _ _ _ _ _ _
     have o270 := (own_kp (own_ch (own_kp o47 k115) k119 (fun g hg hlt hk => by have h1 := (own_lt o47 g hg).2; have h2 : w5.heap.size ≤ w6.heap.size := k115.size; have h3 : w6.heap.size ≤ g := hk; omega)) k267)
     refine wl_loadE (iV zw) wN rfl rfl rfl rfl isAgg_3 (Rd.of_own o270) (by rw [← hzw]; exact iget (by simp) (by first | omega | (simp only [List.length_cons, List.length_nil, List.length_replicate, List.length_append, List.length_take, List.length_set, List.length_map]; omega))) ?_
     exact f1
   ·intro _ w8 k271
    rintro _ rfl _ rfl _ rfl
    have q273 := rot_b ye 6
    rintro _ rfl _ rfl
    have q274 := rot_b ye 11
    rintro _ rfl
    have q275 := xorI_b (a := (rot ye 6)) (b := (rot ye 11)) (by omega) (by omega)
    rintro _ rfl _ rfl
    have q276 := rot_b ye 25
    rintro _ rfl
    have q277 := xorI_b (a := (xorI (rot ye 6) (rot ye 11))) (b := (rot ye 25)) (by omega) (by omega)
    rintro _ rfl _ rfl _ rfl _ rfl
    have q278 := andI_b (a := ye) (b := yf) (by omega)
    rintro _ rfl _ rfl
    have q279 := xorI_b (a := ye) (b := 4294967295) (by omega) (by omega)
    rintro _ rfl _ rfl
    have q280 := andI_b (a := (xorI ye 4294967295)) (b := yg) (by omega)
    rintro _ rfl
    have q281 := xorI_b (a := (andI ye yf)) (b := (andI (xorI ye 4294967295) yg)) (by omega) (by omega)
    rintro _ rfl _ rfl _ rfl _ rfl _ rfl _ rfl _ rfl _ rfl _ rfl _ rfl
    show WL _ _ _ _ _ _ _
    refine ar ((((yz + (xorI (xorI (rot ye 6) (rot ye 11)) (rot ye 25))) + (xorI (andI ye yf) (andI (xorI ye 4294967295) yg))) + zk) + zw) wN ?_
    refine wl_and ((((yz + (xorI (xorI (rot ye 6) (rot ye 11)) (rot ye 25))) + (xorI (andI ye yf) (andI (xorI ye 4294967295) yg))) + zk) + zw) 4294967295 4294967296 32 wN rfl rfl (by decide) (by decide) (by decide) (by kernel_rfl) ?_
    refine aw (vi (((((yz + (xorI (xorI (rot ye 6) (rot ye 11)) (rot ye 25))) + (xorI (andI ye yf) (andI (xorI ye 4294967295) yg))) + zk) + zw) % 4294967296)) ?_
    refine nx ?_
    refine mw (vi ya) ?_
    refine cl wN (C_spec_Rot w8 ya 2 (by omega) (by omega)) ?_
    rintro _ w9 ⟨k286, rfl⟩
    have m287 := (m118.extk k271).extk k286
    have q288 := rot_b ya 2
    refine mw (vi ya) ?_
    refine cl wN (C_spec_Rot w9 ya 13 (by omega) (by omega)) ?_
    rintro _ w10 ⟨k289, rfl⟩
    have q291 := rot_b ya 13
    refine wl_xor (rot ya 2) (rot ya 13) wN rfl rfl (by kernel_rfl) (by omega) (by omega) (by omega) (by omega) ?_
    have q292 := xorI_b (a := (rot ya 2)) (b := (rot ya 13)) (by omega) (by omega)
    refine mw (vi ya) ?_
    refine cl wN (C_spec_Rot w10 ya 22 (by omega) (by omega)) ?_
    rintro _ w11 ⟨k293, rfl⟩
    have m294 := (m287.extk k289).extk k293
    have q295 := rot_b ya 22
    refine wl_xor (xorI (rot ya 2) (rot ya 13)) (rot ya 22) wN rfl rfl (by kernel_rfl) (by omega) (by omega) (by omega) (by omega) ?_
    have q296 := xorI_b (a := (xorI (rot ya 2) (rot ya 13))) (b := (rot ya 22)) (by omega) (by omega)
    refine mw (vi ya) ?_
    refine mw (vi yb) ?_
    refine wl_andG ya yb wN rfl rfl (by kernel_rfl) (by omega) (by omega) (by omega) (by omega) ?_
    have q297 := andI_b (a := ya) (b := yb) (by omega)
    refine mw (vi ya) ?_
    refine mw (vi yc) ?_
    refine wl_andG ya yc wN rfl rfl (by kernel_rfl) (by omega) (by omega) (by omega) (by omega) ?_
    have q298 := andI_b (a := ya) (b := yc) (by omega)
    refine wl_xor (andI ya yb) (andI ya yc) wN rfl rfl (by kernel_rfl) (by omega) (by omega) (by omega) (by omega) ?_
    have q299 := xorI_b (a := (andI ya yb)) (b := (andI ya yc)) (by omega) (by omega)
    refine mw (vi yb) ?_
    refine mw (vi yc) ?_
    refine wl_andG yb yc wN rfl rfl (by kernel_rfl) (by omega) (by omega) (by omega) (by omega) ?_
    have q300 := andI_b (a := yb) (b := yc) (by omega)
    refine wl_xor (xorI (andI ya yb) (andI ya yc)) (andI yb yc) wN rfl rfl (by kernel_rfl) (by omega) (by omega) (by omega) (by omega) ?_
    have q301 := xorI_b (a := (xorI (andI ya yb) (andI ya yc))) (b := (andI yb yc)) (by omega) (by omega)
    refine ar ((xorI (xorI (rot ya 2) (rot ya 13)) (rot ya 22)) + (xorI (xorI (andI ya yb) (andI ya yc)) (andI yb yc))) wN ?_
    refine wl_and ((xorI (xorI (rot ya 2) (rot ya 13)) (rot ya 22)) + (xorI (xorI (andI ya yb) (andI ya yc)) (andI yb yc))) 4294967295 4294967296 32 wN rfl rfl (by decide) (by decide) (by decide) (by kernel_rfl) ?_
    refine aw (vi (((xorI (xorI (rot ya 2) (rot ya 13)) (rot ya 22)) + (xorI (xorI (andI ya yb) (andI ya yc)) (andI yb yc))) % 4294967296)) ?_
    refine nx ?_
    refine mw (vi yg) ?_
    refine aw (vi yg) ?_
    refine nx ?_
    refine mw (vi yf) ?_
    refine aw (vi yf) ?_
    refine nx ?_
    refine mw (vi ye) ?_
    refine aw (vi ye) ?_
    refine nx ?_
    refine mw (vi yd) ?_
    refine mw (vi (((((yz + (xorI (xorI (rot ye 6) (rot ye 11)) (rot ye 25))) + (xorI (andI ye yf) (andI (xorI ye 4294967295) yg))) + zk) + zw) % 4294967296)) ?_
    refine ar (yd + (((((yz + (xorI (xorI (rot ye 6) (rot ye 11)) (rot ye 25))) + (xorI (andI ye yf) (andI (xorI ye 4294967295) yg))) + zk) + zw) % 4294967296)) wN ?_
    refine wl_and (yd + (((((yz + (xorI (xorI (rot ye 6) (rot ye 11)) (rot ye 25))) + (xorI (andI ye yf) (andI (xorI ye 4294967295) yg))) + zk) + zw) % 4294967296)) 4294967295 4294967296 32 wN rfl rfl (by decide) (by decide) (by decide) (by kernel_rfl) ?_
    refine aw (vi ((yd + (((((yz + (xorI (xorI (rot ye 6) (rot ye 11)) (rot ye 25))) + (xorI (andI ye yf) (andI (xorI ye 4294967295) yg))) + zk) + zw) % 4294967296)) % 4294967296)) ?_
    refine nx ?_
    refine mw (vi yc) ?_
    refine aw (vi yc) ?_
    refine nx ?_
    refine mw (vi yb) ?_
    refine aw (vi yb) ?_
    refine nx ?_
    refine mw (vi ya) ?_
    refine aw (vi ya) ?_
    refine wl_nil <| wq_then <| wc_region ?_
    refine mw (vi (((((yz + (xorI (xorI (rot ye 6) (rot ye 11)) (rot ye 25))) + (xorI (andI ye yf) (andI (xorI ye 4294967295) yg))) + zk) + zw) % 4294967296)) ?_
    refine mw (vi (((xorI (xorI (rot ya 2) (rot ya 13)) (rot ya 22)) + (xorI (xorI (andI ya yb) (andI ya yc)) (andI yb yc))) % 4294967296)) ?_
    refine ar ((((((yz + (xorI (xorI (rot ye 6) (rot ye 11)) (rot ye 25))) + (xorI (andI ye yf) (andI (xorI ye 4294967295) yg))) + zk) + zw) % 4294967296) + (((xorI (xorI (rot ya 2) (rot ya 13)) (rot ya 22)) + (xorI (xorI (andI ya yb) (andI ya yc)) (andI yb yc))) % 4294967296)) wN ?_
    refine wl_and ((((((yz + (xorI (xorI (rot ye 6) (rot ye 11)) (rot ye 25))) + (xorI (andI ye yf) (andI (xorI ye 4294967295) yg))) + zk) + zw) % 4294967296) + (((xorI (xorI (rot ya 2) (rot ya 13)) (rot ya 22)) + (xorI (xorI (andI ya yb) (andI ya yc)) (andI yb yc))) % 4294967296)) 4294967295 4294967296 32 wN rfl rfl (by decide) (by decide) (by decide) (by kernel_rfl) ?_
    refine aw (vi (((((((yz + (xorI (xorI (rot ye 6) (rot ye 11)) (rot ye 25))) + (xorI (andI ye yf) (andI (xorI ye 4294967295) yg))) + zk) + zw) % 4294967296) + (((xorI (xorI (rot ya 2) (rot ya 13)) (rot ya 22)) + (xorI (xorI (andI ya yb) (andI ya yc)) (andI yb yc))) % 4294967296)) % 4294967296)) ?_
    refine wl_nil <| wq_blk_normal <| wq_then <| wc_region ?_
    refine mw (vi ((k : Nat) : Int)) ?_
    refine ar (((k : Nat) : Int) + 1) wN ?_
    refine aw (vi (((k : Nat) : Int) + 1)) ?_
    refine wl_nil ?_
    refine wq_loopP (w0 := w7) [(0, (vs a1 x_h.length c2)), (4, (vs none 0 0)), (5, (vs a16 x_h.length c17)), (6, (vs a37 (kw).length c38)), (7, (vs a45 (schedP x_block).length c46)), (8, (vi ((cmpN (schedP x_block) (s8of x_h) (k + 1)).a))), (9, (vi ((cmpN (schedP x_block) (s8of x_h) (k + 1)).b))), (10, (vi ((cmpN (schedP x_block) (s8of x_h) (k + 1)).c))), (11, (vi ((cmpN (schedP x_block) (s8of x_h) (k + 1)).d))), (12, (vi ((cmpN (schedP x_block) (s8of x_h) (k + 1)).e))), (13, (vi ((cmpN (schedP x_block) (s8of x_h) (k + 1)).f))), (14, (vi ((cmpN (schedP x_block) (s8of x_h) (k + 1)).g))), (15, (vi ((cmpN (schedP x_block) (s8of x_h) (k + 1)).z))), (16, (vi (((k + 1) : Nat) : Int)))] ?_ ?_ ?_
    · exact ⟨rfl, rfl, rfl, rfl, rfl, (congrArg (Value.int .i64) (show ((((((((yz + (xorI (xorI (rot ye 6) (rot ye 11)) (rot ye 25))) + (xorI (andI ye yf) (andI (xorI ye 4294967295) yg))) + zk) + zw) % 4294967296) + (((xorI (xorI (rot ya 2) (rot ya 13)) (rot ya 22)) + (xorI (xorI (andI ya yb) (andI ya yc)) (andI yb yc))) % 4294967296)) % 4294967296) : Int) = (cmpN (schedP x_block) (s8of x_h) (k + 1)).a by subst hzw hzk hi_a hi_b hi_c hi_d hi_e hi_f hi_g hi_z; exact cmp_sa (by omega) rfl rfl)), (congrArg (Value.int .i64) (show (ya : Int) = (cmpN (schedP x_block) (s8of x_h) (k + 1)).b by rw [hi_a]; rfl)), (congrArg (Value.int .i64) (show (yb : Int) = (cmpN (schedP x_block) (s8of x_h) (k + 1)).c by rw [hi_b]; rfl)), (congrArg (Value.int .i64) (show (yc : Int) = (cmpN (schedP x_block) (s8of x_h) (k + 1)).d by rw [hi_c]; rfl)), (congrArg (Value.int .i64) (show (((yd + (((((yz + (xorI (xorI (rot ye 6) (rot ye 11)) (rot ye 25))) + (xorI (andI ye yf) (andI (xorI ye 4294967295) yg))) + zk) + zw) % 4294967296)) % 4294967296) : Int) = (cmpN (schedP x_block) (s8of x_h) (k + 1)).e by subst hzw hzk hi_a hi_b hi_c hi_d hi_e hi_f hi_g hi_z; exact cmp_se (by omega) rfl)), (congrArg (Value.int .i64) (show (ye : Int) = (cmpN (schedP x_block) (s8of x_h) (k + 1)).f by rw [hi_e]; rfl)), (congrArg (Value.int .i64) (show (yf : Int) = (cmpN (schedP x_block) (s8of x_h) (k + 1)).g by rw [hi_f]; rfl)), (congrArg (Value.int .i64) (show (yg : Int) = (cmpN (schedP x_block) (s8of x_h) (k + 1)).z by rw [hi_g]; rfl)), (congrArg (Value.int .i64) (show ((((k : Nat) : Int) + 1) : Int) = (((k + 1) : Nat) : Int) by omega)), trivial⟩
    · exact fun u => ⟨(k + 1), (cmpN (schedP x_block) (s8of x_h) (k + 1)).a, (cmpN (schedP x_block) (s8of x_h) (k + 1)).b, (cmpN (schedP x_block) (s8of x_h) (k + 1)).c, (cmpN (schedP x_block) (s8of x_h) (k + 1)).d, (cmpN (schedP x_block) (s8of x_h) (k + 1)).e, (cmpN (schedP x_block) (s8of x_h) (k + 1)).f, (cmpN (schedP x_block) (s8of x_h) (k + 1)).g, (cmpN (schedP x_block) (s8of x_h) (k + 1)).z, u, rfl, m294, ((((((Ch.refl (fun k => w6.heap.size ≤ k) w6).ext k119 (fun k hk => hk)).extk k271).extk k286).extk k289).extk k293), (by omega), (by first | rfl | assumption), (by first | rfl | assumption), (by first | rfl | assumption), (by first | rfl | assumption), (by first | rfl | assumption), (by first | rfl | assumption), (by first | rfl | assumption), (by first | rfl | assumption)⟩
    · show (64 - (((k + 1) : Nat) : Int)).toNat < (64 - ((k : Nat) : Int)).toNat; omega

theorem C_spec_l2Out (w0 : World) (v_x_h : Value) (x_h : List Int) (r_x_h : R_56 w0 v_x_h x_h) (pre0 : x_h.length = 8) : Fn Try.prog 151 #[v_x_h] w0 (fun v w' => Keep w0 w' ∧ O_22 w' w0.heap.size v (wordB x_h)) := by
 obtain ⟨a1, c2, rfl, r3, s4⟩ := r_x_h
 refine fn_ofS (n := 17) [(vs a1 x_h.length c2)] Try.func151 rfl rfl ?_
 refine sr ?_
 refine aw (vs none 0 0) ?_
 refine nx ?_
 refine wl_lit0 wN rfl rfl slTy_22 (fun w => by kernel_rfl) ?_
 intro a6 w1 k7 o8
 have m9 := (Ch.base w0).extk k7
 refine aw (vs (some a6) 0 0) ?_
 refine n4 ?_
 refine aw (vi 0) ?_
 refine wl_nil <| wq_then <| wc_block ?_
 have hE12 : ([] : List UInt8) = wordB (x_h.take 0) := by rfl
 have hN13 : 0 = (wordB (x_h.take 0)).length := by rw [← hE12]; try (first | rfl | simp only [List.length_set] | simp)
 refine wc_loopP [(0, (vs a1 x_h.length c2)), (2, (vs none 0 0)), (3, (.slice (some a6) (wordB (x_h.take 0)).length 0)), (4, (vi ((0 : Nat) : Int)))] ⟨rfl, rfl, rfl, (congrArg (Value.int .i64) (show (0 : Int) = ((0 : Nat) : Int) by omega)), trivial⟩ (fun e' w' => ∃ (k : Nat) (u11 : Env) (a3x : Option Addr) (c3x : Nat), e' = pt u11 [(0, (vs a1 x_h.length c2)), (2, (vs none 0 0)), (3, (.slice a3x (wordB (x_h.take k)).length c3x)), (4, (vi ((k : Nat) : Int)))] ∧ Ch (fun k => w0.heap.size ≤ k) w0 w' ∧ Ch (fun k => w0.heap.size ≤ k) w1 w' ∧ k ≤ x_h.length ∧ (World.ownsRow w' w0.heap.size 5 1 (.slice a3x (wordB (x_h.take k)).length c3x) (wordB (x_h.take k)).length ((wordB (x_h.take k)).map bV) ∧ (wordB (x_h.take k)).length ≤ 1073741824)) (fun e' _ => x_h.length - ((intOf (e' 4))).toNat) ?_ ?_
 ·exact fun u => ⟨0, u, (some a6), 0, rfl, m9, (Ch.refl (fun k => w0.heap.size ≤ k) w1), (by omega), ⟨(by rw [← hN13, ← hE12]; exact o8), (by rw [← hN13]; first | exact (by simp) | (simp only [List.length_append, List.length_take, List.length_replicate]; omega))⟩⟩
 ·rintro _ w2 ⟨k, u11, a3x, c3x, rfl, m14, k15, i16, ⟨o17, s18⟩⟩
  have hwl := wordB_len (x_h.take k)
  have htl : (x_h.take k).length = min k x_h.length := List.length_take
  refine wc_seq <| sr ?_
  refine mw (vi ((k : Nat) : Int)) ?_
  refine pu (vb (decide (((k : Nat) : Int) < 8))) wN ?_
  refine n2 ?_
  rcases bf (decide (((k : Nat) : Int) < 8)) with h20 | h20
  ·have q32 := of_decide_eq_false h20
   refine cf h20 ?_
   refine wc_exit <| wq_then_exit <| wq_then_exit <| wq_blk_exit <| wq_then <| sr ?_
   refine mw (vs a3x (wordB (x_h.take k)).length c3x) ?_
   refine aw (vs a3x (wordB (x_h.take k)).length c3x) ?_
   refine n3 ?_
   refine rt (vs a3x (wordB (x_h.take k)).length c3x) ?_
   refine ⟨m14.keep0, ?_⟩
   have hF33 : wordB x_h = (wordB (x_h.take k)) := by exact wordB_end (by omega)
   rw [hF33]
   exact ⟨_, _, rfl, o17, s18, ⟨trivial, trivial⟩⟩
  have q21 := of_decide_eq_true h20
  refine ct h20 ?_
  refine wc_skip <| wq_then <| wc_seq <| wc_block <| wc_region ?_
  refine mw (vs a3x (wordB (x_h.take k)).length c3x) ?_
  refine mw (vs a1 x_h.length c2) ?_
  refine mw (vi ((k : Nat) : Int)) ?_
  refine ix wN ((k : Nat) : Int) slTy_56 (r3.from0 m14) ?_
  refine ei (x := x_h) k wN isAgg_3 (r3.from0 m14) ?_
  refine cl wN (C_spec_PutN w2 _ (wordB (x_h.take k)) (mR_22 (Rd.of_own o17) s18) (x_h.getD k 0) 4 (by first | omega | (simp; done) | (simp; omega) | (simp only [List.length_append, List.length_cons, List.length_nil] at *; omega))) ?_
  rintro _ w3 ⟨k22, ⟨a23, c24, rfl, o25, s26, ap28⟩⟩
  have m29 := m14.extk k22
  have q30 := putN_len (wordB (x_h.take k)) (x_h.getD k 0) 4
  refine aw (vs a23 (putN (wordB (x_h.take k)) (x_h.getD k 0) 4).length c24) ?_
  refine wl_nil <| wq_blk_normal <| wq_then <| wc_region ?_
  refine mw (vi ((k : Nat) : Int)) ?_
  refine ar (((k : Nat) : Int) + 1) wN ?_
  refine aw (vi (((k : Nat) : Int) + 1)) ?_
  refine wl_nil ?_
  have hE31 : ((putN (wordB (x_h.take k)) (x_h.getD k 0) 4) : List UInt8) = wordB (x_h.take (k + 1)) := by exact wordB_next (by omega)
  refine wq_loopP (w0 := w2) [(0, (vs a1 x_h.length c2)), (2, (vs none 0 0)), (3, (.slice a23 (wordB (x_h.take (k + 1))).length c24)), (4, (vi (((k + 1) : Nat) : Int)))] ?_ ?_ ?_
  · exact ⟨rfl, rfl, (congrArg (fun l : List UInt8 => Value.slice a23 l.length c24) hE31), (congrArg (Value.int .i64) (show ((((k : Nat) : Int) + 1) : Int) = (((k + 1) : Nat) : Int) by omega)), trivial⟩
  · exact fun u => ⟨(k + 1), u, a23, c24, rfl, m29, (((Ch.refl (fun k => w0.heap.size ≤ k) w1).ext k15 (fun k hk => hk)).extk k22), (by omega), (hE31 ▸ ⟨(own_lo o25 (z2 k7 k15)), s26⟩)⟩
  · show x_h.length - ((((k + 1) : Nat) : Int)).toNat < x_h.length - (((k : Nat) : Int)).toNat; omega

theorem C_spec_Sha (w0 : World) (v_x_b : Value) (x_b : List UInt8) (r_x_b : R_22 w0 v_x_b x_b)  : Fn Try.prog 143 #[v_x_b] w0 (fun v w' => Keep w0 w' ∧ O_22 w' w0.heap.size v (sha x_b)) := by
 obtain ⟨a1, c2, rfl, r3, s4⟩ := r_x_b
 refine fn_ofS (n := 33) [(vs a1 x_b.length c2)] Try.func143 rfl rfl ?_
 refine sr ?_
 refine aw (vs none 0 0) ?_
 refine n4 ?_
 refine mw (vs a1 x_b.length c2) ?_
 refine ln wN slTy_22 r3 ?_
 refine pu (vb (decide (1048576 < (x_b.length : Int)))) wN ?_
 refine n2 ?_
 rcases bt (decide (1048576 < (x_b.length : Int))) with h6 | h6
 ·have q7 := of_decide_eq_true h6
  refine ct h6 ?_
  refine sr ?_
  refine wl_lit0 wN rfl rfl slTy_22 (fun w => by kernel_rfl) ?_
  intro a8 w1 k9 o10
  have m11 := (Ch.base w0).extk k9
  refine aw (vs (some a8) 0 0) ?_
  refine n1 ?_
  refine rt (vs (some a8) 0 0) ?_
  refine ⟨m11.keep0, ?_⟩
  have hF13 : sha x_b = [] := by first | exact sha_f (by omega) | exact sha_s (by omega) (by omega) (by omega)
  rw [hF13]
  exact ⟨_, _, rfl, o10, (by simp), ⟨trivial, trivial⟩⟩
 have q14 := of_decide_eq_false h6
 refine cf h6 ?_
 refine y1 ?_
 refine wl_lit0 wN rfl rfl slTy_22 (fun w => by kernel_rfl) ?_
 intro a15 w1 k16 o17
 have m18 := (Ch.base w0).extk k16
 refine mw (vs a1 x_b.length c2) ?_
 refine ap0 x_b wN slTy_22 o17 (r3.from0 m18) k16.size ?_
 intro a20 c21 w2 k22 o23 n24
 have m25 := m18.extk k22
 refine mw (vs a1 x_b.length c2) ?_
 refine ln wN slTy_22 (r3.from0 m25) ?_
 refine cl wN (C_spec_Pad w2 (x_b.length : Int)) ?_
 rintro _ w3 ⟨k27, ⟨a28, c29, rfl, o30, s31, ap33⟩⟩
 have q35 := padP_len (x_b.length : Int)
 have o36 := (own_kp o23 k27)
 refine apB x_b (padP (x_b.length : Int)) wN slTy_22 o36 (Rd.of_own o30) (z3 k16 k22 k27) ?_
 intro a37 c38 w4 k39 o40 j41 s42
 have m43 := (m25.extk k27).ext k39 (fun k hk => Nat.le_trans (Nat.le_refl w0.heap.size) (own_lt o23 k hk).1)
 refine aw (vs a37 (x_b ++ (padP (x_b.length : Int))).length c38) ?_
 refine nx ?_
 refine cl wN (C_spec_Start w4 ) ?_
 rintro _ w5 ⟨k45, ⟨a46, c47, rfl, o48, s49, ap51⟩⟩
 have m52 := m43.extk k45
 refine aw (vs a46 (k0).length c47) ?_
 refine n4 ?_
 refine aw (vi 0) ?_
 refine wl_nil <| wq_then <| wc_block ?_
 have hE54 : ((k0) : List Int) = foldK k0 (x_b ++ (padP (x_b.length : Int))) 0 := by rfl
 refine wc_loopP [(2, (vs none 0 0)), (3, (vs a37 (x_b ++ (padP (x_b.length : Int))).length c38)), (4, (.slice a46 (foldK k0 (x_b ++ (padP (x_b.length : Int))) 0).length c47)), (5, (vi (64 * ((0 : Nat) : Int))))] ⟨rfl, rfl, (congrArg (fun l : List Int => Value.slice a46 l.length c47) hE54), (congrArg (Value.int .i64) (show (0 : Int) = (64 * ((0 : Nat) : Int)) by omega)), trivial⟩ (fun e' w' => ∃ (k : Nat) (u53 : Env) (a4x : Option Addr) (c4x : Nat), e' = pt u53 [(2, (vs none 0 0)), (3, (vs a37 (x_b ++ (padP (x_b.length : Int))).length c38)), (4, (.slice a4x (foldK k0 (x_b ++ (padP (x_b.length : Int))) k).length c4x)), (5, (vi (64 * ((k : Nat) : Int))))] ∧ Ch (fun k => w0.heap.size ≤ k) w0 w' ∧ Ch (fun k => w4.heap.size ≤ k) w5 w' ∧ 64 * k ≤ (x_b ++ (padP (x_b.length : Int))).length ∧ (World.ownsRow w' w4.heap.size 3 1 (.slice a4x (foldK k0 (x_b ++ (padP (x_b.length : Int))) k).length c4x) (foldK k0 (x_b ++ (padP (x_b.length : Int))) k).length ((foldK k0 (x_b ++ (padP (x_b.length : Int))) k).map iV) ∧ (foldK k0 (x_b ++ (padP (x_b.length : Int))) k).length ≤ 1073741824)) (fun e' _ => (x_b ++ padP (x_b.length : Int)).length - ((intOf (e' 5))).toNat) ?_ ?_
 ·exact fun u => ⟨0, u, a46, c47, rfl, m52, (Ch.refl (fun k => w4.heap.size ≤ k) w5), (by omega), (hE54 ▸ ⟨o48, s49⟩)⟩
 ·rintro _ w6 ⟨k, u53, a4x, c4x, rfl, m55, k56, i57, ⟨o58, s59⟩⟩
  have hal := shaAll x_b (by omega)
  refine wc_seq <| sr ?_
  refine mw (vi (64 * ((k : Nat) : Int))) ?_
  refine mw (vs a37 (x_b ++ (padP (x_b.length : Int))).length c38) ?_
  have o61 := (own_ch (own_kp o40 k45) k56 (fun g hg hlt hk => by have h1 := (own_lt o40 g hg).2; have h2 : w4.heap.size ≤ w4.heap.size := (Nat.le_refl w4.heap.size); have h3 : w4.heap.size ≤ g := hk; omega))
  refine ln wN slTy_22 (Rd.of_own o61) ?_
  refine pu (vb (decide ((64 * ((k : Nat) : Int)) < ((x_b ++ (padP (x_b.length : Int))).length : Int)))) wN ?_
  refine n2 ?_
  rcases bf (decide ((64 * ((k : Nat) : Int)) < ((x_b ++ (padP (x_b.length : Int))).length : Int))) with h62 | h62
  ·have q77 := of_decide_eq_false h62
   refine cf h62 ?_
   refine wc_exit <| wq_then_exit <| wq_then_exit <| wq_blk_exit <| wq_then <| sr ?_
   refine mw (vs a4x (foldK k0 (x_b ++ (padP (x_b.length : Int))) k).length c4x) ?_
   refine cl wN (C_spec_l2Out w6 _ (foldK k0 (x_b ++ (padP (x_b.length : Int))) k) (mR_56 (Rd.of_own o58) s59) (by first | omega | exact foldK_len k0_w _ | exact compAll_len (by first | assumption | exact (hashOk_t (by assumption)).1))) ?_
   rintro _ w7 ⟨k78, ⟨a79, c80, rfl, o81, s82, ap84⟩⟩
   have m85 := m55.extk k78
   refine aw (vs a79 (wordB (foldK k0 (x_b ++ (padP (x_b.length : Int))) k)).length c80) ?_
   refine n3 ?_
   refine rt (vs a79 (wordB (foldK k0 (x_b ++ (padP (x_b.length : Int))) k)).length c80) ?_
   refine ⟨m85.keep0, ?_⟩
   have hF86 : sha x_b = (wordB (foldK k0 (x_b ++ (padP (x_b.length : Int))) k)) := by first | exact sha_f (by omega) | exact sha_s (by omega) (by omega) (by omega)
   rw [hF86]
   exact ⟨_, _, rfl, (own_lo o81 (z6 k16 k22 k27 k39 k45 k56)), s82, ⟨trivial, trivial⟩⟩
  have q63 := of_decide_eq_true h62
  refine ct h62 ?_
  refine wc_skip <| wq_then <| wc_seq <| wc_block <| wc_region ?_
  refine mw (vs a4x (foldK k0 (x_b ++ (padP (x_b.length : Int))) k).length c4x) ?_
  refine mw (vs a37 (x_b ++ (padP (x_b.length : Int))).length c38) ?_
  refine mw (vi (64 * ((k : Nat) : Int))) ?_
  refine mw (vi (64 * ((k : Nat) : Int))) ?_
  refine ar ((64 * ((k : Nat) : Int)) + 64) wN ?_
  refine slv (((x_b ++ (padP (x_b.length : Int))).drop (((64 * ((k : Nat) : Int))).toNat)).take (((((64 * ((k : Nat) : Int)) + 64)).toNat) - (((64 * ((k : Nat) : Int))).toNat))) (((64 * ((k : Nat) : Int))).toNat) ((((64 * ((k : Nat) : Int)) + 64)).toNat) wN slTy_22 (Rd.of_own o61) (by first | omega | (simp only [List.length_cons, List.length_nil, List.length_replicate, List.length_append, List.length_take, List.length_set, List.length_map]; omega)) (by first | omega | (simp only [List.length_cons, List.length_nil, List.length_replicate, List.length_append, List.length_take, List.length_set, List.length_map]; omega)) (by first | rfl | (simp; done) | (rw [List.take_of_length_le (by first | (simp; done) | (simp; omega))])) rfl rfl rfl rfl (.inr ⟨_, _, _, rfl, rfl, by omega⟩) (.inr ⟨_, _, _, rfl, rfl, by omega⟩) ?_
  have q66 : (((64 * ((k : Nat) : Int))).toNat) ≤ ((((64 * ((k : Nat) : Int)) + 64)).toNat) := (by first | omega | (simp only [List.length_cons, List.length_nil, List.length_replicate, List.length_append, List.length_take, List.length_set, List.length_map]; omega))
  have q67 : ((((64 * ((k : Nat) : Int)) + 64)).toNat) ≤ (x_b ++ (padP (x_b.length : Int))).length := (by first | omega | (simp only [List.length_cons, List.length_nil, List.length_replicate, List.length_append, List.length_take, List.length_set, List.length_map]; omega))
  refine cl wN (C_spec_Compress w6 _ (foldK k0 (x_b ++ (padP (x_b.length : Int))) k) (mR_56 (Rd.of_own o58) s59) _ (((x_b ++ (padP (x_b.length : Int))).drop (((64 * ((k : Nat) : Int))).toNat)).take (((((64 * ((k : Nat) : Int)) + 64)).toNat) - (((64 * ((k : Nat) : Int))).toNat))) (mR_22 (Rd.subV (x' := (((x_b ++ (padP (x_b.length : Int))).drop (((64 * ((k : Nat) : Int))).toNat)).take (((((64 * ((k : Nat) : Int)) + 64)).toNat) - (((64 * ((k : Nat) : Int))).toNat)))) (Rd.of_own o61) q66 q67 (by first | rfl | (simp; done) | (rw [List.take_of_length_le (by first | (simp; done) | (simp; omega))]))) (Nat.le_trans (by simp only [List.length_take, List.length_drop]; omega) s42))) ?_
  rintro _ w7 ⟨k68, ⟨a69, c70, rfl, o71, s72, ap74⟩⟩
  have m75 := m55.extk k68
  refine aw (vs a69 (compress (foldK k0 (x_b ++ (padP (x_b.length : Int))) k) (((x_b ++ (padP (x_b.length : Int))).drop (((64 * ((k : Nat) : Int))).toNat)).take (((((64 * ((k : Nat) : Int)) + 64)).toNat) - (((64 * ((k : Nat) : Int))).toNat)))).length c70) ?_
  refine wl_nil <| wq_blk_normal <| wq_then <| wc_region ?_
  refine mw (vi (64 * ((k : Nat) : Int))) ?_
  refine ar ((64 * ((k : Nat) : Int)) + 64) wN ?_
  refine aw (vi ((64 * ((k : Nat) : Int)) + 64)) ?_
  refine wl_nil ?_
  have hE76 : ((compress (foldK k0 (x_b ++ (padP (x_b.length : Int))) k) (((x_b ++ (padP (x_b.length : Int))).drop (((64 * ((k : Nat) : Int))).toNat)).take (((((64 * ((k : Nat) : Int)) + 64)).toNat) - (((64 * ((k : Nat) : Int))).toNat)))) : List Int) = foldK k0 (x_b ++ (padP (x_b.length : Int))) (k + 1) := by exact foldK_next
  refine wq_loopP (w0 := w6) [(2, (vs none 0 0)), (3, (vs a37 (x_b ++ (padP (x_b.length : Int))).length c38)), (4, (.slice a69 (foldK k0 (x_b ++ (padP (x_b.length : Int))) (k + 1)).length c70)), (5, (vi (64 * (((k + 1) : Nat) : Int))))] ?_ ?_ ?_
  · exact ⟨rfl, rfl, (congrArg (fun l : List Int => Value.slice a69 l.length c70) hE76), (congrArg (Value.int .i64) (show (((64 * ((k : Nat) : Int)) + 64) : Int) = (64 * (((k + 1) : Nat) : Int)) by omega)), trivial⟩
  · exact fun u => ⟨(k + 1), u, a69, c70, rfl, m75, (((Ch.refl (fun k => w4.heap.size ≤ k) w5).ext k56 (fun k hk => hk)).extk k68), (by omega), (hE76 ▸ ⟨(own_lo o71 (z2 k45 k56)), s72⟩)⟩
  · show (x_b ++ padP (x_b.length : Int)).length - ((64 * (((k + 1) : Nat) : Int))).toNat < (x_b ++ padP (x_b.length : Int)).length - ((64 * ((k : Nat) : Int))).toNat; omega

theorem C_spec_BlockKey (w0 : World) (v_x_key : Value) (x_key : List UInt8) (r_x_key : R_22 w0 v_x_key x_key)  : Fn Try.prog 142 #[v_x_key] w0 (fun v w' => Keep w0 w' ∧ O_22 w' w0.heap.size v (blockKey x_key)) := by
 obtain ⟨a1, c2, rfl, r3, s4⟩ := r_x_key
 refine fn_ofS (n := 23) [(vs a1 x_key.length c2)] Try.func142 rfl rfl ?_
 refine sr ?_
 refine aw (vs none 0 0) ?_
 refine n4 ?_
 refine mw (vs a1 x_key.length c2) ?_
 refine ln wN slTy_22 r3 ?_
 refine pu (vb (decide (1048576 < (x_key.length : Int)))) wN ?_
 refine n2 ?_
 rcases bt (decide (1048576 < (x_key.length : Int))) with h6 | h6
 ·have q7 := of_decide_eq_true h6
  refine ct h6 ?_
  refine sr ?_
  refine wl_lit0 wN rfl rfl slTy_22 (fun w => by kernel_rfl) ?_
  intro a8 w1 k9 o10
  have m11 := (Ch.base w0).extk k9
  refine aw (vs (some a8) 0 0) ?_
  refine n1 ?_
  refine rt (vs (some a8) 0 0) ?_
  refine ⟨m11.keep0, ?_⟩
  have hF13 : blockKey x_key = [] := by first | exact blockKey_f (by omega) | exact blockKey_l (by omega) (by omega) (by omega) (by simp only [List.length_append, List.length_replicate] at *; omega) | exact blockKey_s (by omega) (by omega) (by simp only [List.length_append, List.length_replicate] at *; omega)
  rw [hF13]
  exact ⟨_, _, rfl, o10, (by simp), ⟨trivial, trivial⟩⟩
 have q14 := of_decide_eq_false h6
 refine cf h6 ?_
 refine y1 ?_
 refine wl_lit0 wN rfl rfl slTy_22 (fun w => by kernel_rfl) ?_
 intro a15 w1 k16 o17
 have m18 := (Ch.base w0).extk k16
 refine mw (vs a1 x_key.length c2) ?_
 refine ap0 x_key wN slTy_22 o17 (r3.from0 m18) k16.size ?_
 intro a20 c21 w2 k22 o23 n24
 have m25 := m18.extk k22
 refine aw (vs a20 x_key.length c21) ?_
 refine n4 ?_
 refine mw (vs a1 x_key.length c2) ?_
 refine ln wN slTy_22 (r3.from0 m25) ?_
 refine pu (vb (decide (64 < (x_key.length : Int)))) wN ?_
 refine n2 ?_
 rcases bf (decide (64 < (x_key.length : Int))) with h27 | h27
 ·have q66 := of_decide_eq_false h27
  refine cf h27 ?_
  refine wc_skip <| wq_then <| wc_seq <| wc_block ?_
  have hE68 : (x_key : List UInt8) = x_key ++ List.replicate 0 (0 : UInt8) := by simp
  refine wc_loopP [(2, (vs none 0 0)), (3, (.slice a20 (x_key ++ List.replicate 0 (0 : UInt8)).length c21))] ⟨rfl, (congrArg (fun l : List UInt8 => Value.slice a20 l.length c21) hE68), trivial⟩ (fun e' w' => ∃ (j : Nat) (u67 : Env) (a3x : Option Addr) (c3x : Nat), e' = pt u67 [(2, (vs none 0 0)), (3, (.slice a3x (x_key ++ List.replicate j (0 : UInt8)).length c3x))] ∧ Ch (fun k => w0.heap.size ≤ k) w0 w' ∧ Ch (fun k => w0.heap.size ≤ k) w2 w' ∧ x_key.length + j ≤ 64 ∧ (World.ownsRow w' w0.heap.size 5 1 (.slice a3x (x_key ++ List.replicate j (0 : UInt8)).length c3x) (x_key ++ List.replicate j (0 : UInt8)).length ((x_key ++ List.replicate j (0 : UInt8)).map bV) ∧ (x_key ++ List.replicate j (0 : UInt8)).length ≤ 1073741824)) (fun e' _ => 64 - (lenOf (e' 3))) ?_ ?_
  ·exact fun u => ⟨0, u, a20, c21, rfl, m25, (Ch.refl (fun k => w0.heap.size ≤ k) w2), (by omega), (hE68 ▸ ⟨o23, s4⟩)⟩
  ·rintro _ w3 ⟨j, u67, a3x, c3x, rfl, m69, k70, i71, ⟨o72, s73⟩⟩
   have hol : (x_key ++ List.replicate j (0 : UInt8)).length = x_key.length + j := by rw [List.length_append, List.length_replicate]
   refine wc_seq <| sr ?_
   refine mw (vs a3x (x_key ++ List.replicate j (0 : UInt8)).length c3x) ?_
   refine ln wN slTy_22 (Rd.of_own o72) ?_
   refine pu (vb (decide (((x_key ++ List.replicate j (0 : UInt8)).length : Int) < 64))) wN ?_
   refine n2 ?_
   rcases bf (decide (((x_key ++ List.replicate j (0 : UInt8)).length : Int) < 64)) with h75 | h75
   ·have q93 := of_decide_eq_false h75
    refine cf h75 ?_
    refine wc_exit <| wq_then_exit <| wq_then_exit <| wq_blk_exit <| wq_then <| sr ?_
    refine mw (vs a3x (x_key ++ List.replicate j (0 : UInt8)).length c3x) ?_
    refine aw (vs a3x (x_key ++ List.replicate j (0 : UInt8)).length c3x) ?_
    refine n3 ?_
    refine rt (vs a3x (x_key ++ List.replicate j (0 : UInt8)).length c3x) ?_
    refine ⟨m69.keep0, ?_⟩
    have hF94 : blockKey x_key = (x_key ++ List.replicate j (0 : UInt8)) := by first | exact blockKey_f (by omega) | exact blockKey_l (by omega) (by omega) (by omega) (by simp only [List.length_append, List.length_replicate] at *; omega) | exact blockKey_s (by omega) (by omega) (by simp only [List.length_append, List.length_replicate] at *; omega)
    rw [hF94]
    exact ⟨_, _, rfl, o72, s73, ⟨trivial, trivial⟩⟩
   have q76 := of_decide_eq_true h75
   refine ct h75 ?_
   refine wc_skip <| wq_then <| wc_block <| wc_region ?_
   refine mw (vs a3x (x_key ++ List.replicate j (0 : UInt8)).length c3x) ?_
   refine ltB ([0] : List UInt8) wN slTy_22 ?_
   intro a77 c78 w4 k79 o80
   have o83 := (own_kp o72 k79)
   refine apB (x_key ++ List.replicate j (0 : UInt8)) ([0] : List UInt8) wN slTy_22 o83 (Rd.of_own o80) (z4 k16 k22 k70 k79) ?_
   intro a84 c85 w5 k86 o87 j88 s89
   have m90 := (m69.extk k79).ext k86 (fun k hk => Nat.le_trans (Nat.le_refl w0.heap.size) (own_lt o72 k hk).1)
   refine aw (vs a84 ((x_key ++ List.replicate j (0 : UInt8)) ++ ([0] : List UInt8)).length c85) ?_
   refine wl_nil <| wq_blk_normal ?_
   have hE92 : (((x_key ++ List.replicate j (0 : UInt8)) ++ ([0] : List UInt8)) : List UInt8) = x_key ++ List.replicate (j + 1) (0 : UInt8) := by rw [List.replicate_succ', List.append_assoc]
   refine wq_loopP (w0 := w3) [(2, (vs none 0 0)), (3, (.slice a84 (x_key ++ List.replicate (j + 1) (0 : UInt8)).length c85))] ?_ ?_ ?_
   · exact ⟨rfl, (congrArg (fun l : List UInt8 => Value.slice a84 l.length c85) hE92), trivial⟩
   · exact fun u => ⟨(j + 1), u, a84, c85, rfl, m90, ((((Ch.refl (fun k => w0.heap.size ≤ k) w2).ext k70 (fun k hk => hk)).extk k79).ext k86 (fun k hk => Nat.le_trans (Nat.le_refl w0.heap.size) (own_lt o72 k hk).1)), (by omega), (hE92 ▸ ⟨o87, s89⟩)⟩
   · show 64 - (x_key ++ List.replicate (j + 1) (0 : UInt8)).length < 64 - (x_key ++ List.replicate j (0 : UInt8)).length; simp only [List.length_append, List.length_replicate]; omega
 have q28 := of_decide_eq_true h27
 refine ct h27 ?_
 refine wc_region ?_
 refine mw (vs a1 x_key.length c2) ?_
 refine cl wN (C_spec_Sha w2 _ x_key (mR_22 (r3.from0 m25) s4)) ?_
 rintro _ w3 ⟨k29, ⟨a30, c31, rfl, o32, s33, ap35⟩⟩
 have m36 := m25.extk k29
 have q37 := sha_le x_key
 refine aw (vs a30 (sha x_key).length c31) ?_
 refine wl_nil <| wq_then <| wc_seq <| wc_block ?_
 have hE39 : ((sha x_key) : List UInt8) = (sha x_key) ++ List.replicate 0 (0 : UInt8) := by simp
 refine wc_loopP [(2, (vs none 0 0)), (3, (.slice a30 ((sha x_key) ++ List.replicate 0 (0 : UInt8)).length c31))] ⟨rfl, (congrArg (fun l : List UInt8 => Value.slice a30 l.length c31) hE39), trivial⟩ (fun e' w' => ∃ (j : Nat) (u38 : Env) (a3x : Option Addr) (c3x : Nat), e' = pt u38 [(2, (vs none 0 0)), (3, (.slice a3x ((sha x_key) ++ List.replicate j (0 : UInt8)).length c3x))] ∧ Ch (fun k => w0.heap.size ≤ k) w0 w' ∧ Ch (fun k => w2.heap.size ≤ k) w3 w' ∧ (sha x_key).length + j ≤ 64 ∧ (World.ownsRow w' w2.heap.size 5 1 (.slice a3x ((sha x_key) ++ List.replicate j (0 : UInt8)).length c3x) ((sha x_key) ++ List.replicate j (0 : UInt8)).length (((sha x_key) ++ List.replicate j (0 : UInt8)).map bV) ∧ ((sha x_key) ++ List.replicate j (0 : UInt8)).length ≤ 1073741824)) (fun e' _ => 64 - (lenOf (e' 3))) ?_ ?_
 ·exact fun u => ⟨0, u, a30, c31, rfl, m36, (Ch.refl (fun k => w2.heap.size ≤ k) w3), (by omega), (hE39 ▸ ⟨o32, s33⟩)⟩
 ·rintro _ w4 ⟨j, u38, a3x, c3x, rfl, m40, k41, i42, ⟨o43, s44⟩⟩
  have hol : ((sha x_key) ++ List.replicate j (0 : UInt8)).length = (sha x_key).length + j := by rw [List.length_append, List.length_replicate]
  refine wc_seq <| sr ?_
  refine mw (vs a3x ((sha x_key) ++ List.replicate j (0 : UInt8)).length c3x) ?_
  refine ln wN slTy_22 (Rd.of_own o43) ?_
  refine pu (vb (decide ((((sha x_key) ++ List.replicate j (0 : UInt8)).length : Int) < 64))) wN ?_
  refine n2 ?_
  rcases bf (decide ((((sha x_key) ++ List.replicate j (0 : UInt8)).length : Int) < 64)) with h46 | h46
  ·have q64 := of_decide_eq_false h46
   refine cf h46 ?_
   refine wc_exit <| wq_then_exit <| wq_then_exit <| wq_blk_exit <| wq_then <| sr ?_
   refine mw (vs a3x ((sha x_key) ++ List.replicate j (0 : UInt8)).length c3x) ?_
   refine aw (vs a3x ((sha x_key) ++ List.replicate j (0 : UInt8)).length c3x) ?_
   refine n3 ?_
   refine rt (vs a3x ((sha x_key) ++ List.replicate j (0 : UInt8)).length c3x) ?_
   refine ⟨m40.keep0, ?_⟩
   have hF65 : blockKey x_key = ((sha x_key) ++ List.replicate j (0 : UInt8)) := by first | exact blockKey_f (by omega) | exact blockKey_l (by omega) (by omega) (by omega) (by simp only [List.length_append, List.length_replicate] at *; omega) | exact blockKey_s (by omega) (by omega) (by simp only [List.length_append, List.length_replicate] at *; omega)
   rw [hF65]
   exact ⟨_, _, rfl, (own_lo o43 (z2 k16 k22)), s44, ⟨trivial, trivial⟩⟩
  have q47 := of_decide_eq_true h46
  refine ct h46 ?_
  refine wc_skip <| wq_then <| wc_block <| wc_region ?_
  refine mw (vs a3x ((sha x_key) ++ List.replicate j (0 : UInt8)).length c3x) ?_
  refine ltB ([0] : List UInt8) wN slTy_22 ?_
  intro a48 c49 w5 k50 o51
  have o54 := (own_kp o43 k50)
  refine apB ((sha x_key) ++ List.replicate j (0 : UInt8)) ([0] : List UInt8) wN slTy_22 o54 (Rd.of_own o51) (z3 k29 k41 k50) ?_
  intro a55 c56 w6 k57 o58 j59 s60
  have m61 := (m40.extk k50).ext k57 (fun k hk => Nat.le_trans (z2 k16 k22) (own_lt o43 k hk).1)
  refine aw (vs a55 (((sha x_key) ++ List.replicate j (0 : UInt8)) ++ ([0] : List UInt8)).length c56) ?_
  refine wl_nil <| wq_blk_normal ?_
  have hE63 : ((((sha x_key) ++ List.replicate j (0 : UInt8)) ++ ([0] : List UInt8)) : List UInt8) = (sha x_key) ++ List.replicate (j + 1) (0 : UInt8) := by rw [List.replicate_succ', List.append_assoc]
  refine wq_loopP (w0 := w4) [(2, (vs none 0 0)), (3, (.slice a55 ((sha x_key) ++ List.replicate (j + 1) (0 : UInt8)).length c56))] ?_ ?_ ?_
  · exact ⟨rfl, (congrArg (fun l : List UInt8 => Value.slice a55 l.length c56) hE63), trivial⟩
  · exact fun u => ⟨(j + 1), u, a55, c56, rfl, m61, ((((Ch.refl (fun k => w2.heap.size ≤ k) w3).ext k41 (fun k hk => hk)).extk k50).ext k57 (fun k hk => Nat.le_trans (Nat.le_refl w2.heap.size) (own_lt o43 k hk).1)), (by omega), (hE63 ▸ ⟨o58, s60⟩)⟩
  · show 64 - ((sha x_key) ++ List.replicate (j + 1) (0 : UInt8)).length < 64 - ((sha x_key) ++ List.replicate j (0 : UInt8)).length; simp only [List.length_append, List.length_replicate]; omega

theorem C_spec_Hmac (w0 : World) (v_x_key : Value) (x_key : List UInt8) (r_x_key : R_22 w0 v_x_key x_key) (v_x_b : Value) (x_b : List UInt8) (r_x_b : R_22 w0 v_x_b x_b)  : Fn Try.prog 133 #[v_x_key, v_x_b] w0 (fun v w' => Keep w0 w' ∧ O_22 w' w0.heap.size v (hmac x_key x_b)) := by
 obtain ⟨a1, c2, rfl, r3, s4⟩ := r_x_key
 obtain ⟨a6, c7, rfl, r8, s9⟩ := r_x_b
 refine fn_ofS (n := 49) [(vs a1 x_key.length c2), (vs a6 x_b.length c7)] Try.func133 rfl rfl ?_
 refine sr ?_
 refine aw (vs none 0 0) ?_
 refine n4 ?_
 refine jT1 [(0, (vs a1 x_key.length c2)), (1, (vs a6 x_b.length c7)), (4, (vs none 0 0))] (hmac x_key x_b = []) ?_ fun J11 => ?_
 ·intro hA12 w1 k14 u13
  refine sr ?_
  refine wl_lit0 wN rfl rfl slTy_22 (fun w => by kernel_rfl) ?_
  intro a16 w2 k17 o18
  have m19 := ((Ch.base w0).extk k14).extk k17
  refine aw (vs (some a16) 0 0) ?_
  refine n1 ?_
  refine rt (vs (some a16) 0 0) ?_
  refine ⟨m19.keep0, ?_⟩
  rw [hA12]
  exact ⟨_, _, rfl, (own_lo o18 k14.size), (by simp), ⟨trivial, trivial⟩⟩
 refine mw (vs a1 x_key.length c2) ?_
 refine ln wN slTy_22 r3 ?_
 refine pu (vb (decide (1048576 < (x_key.length : Int)))) wN ?_
 refine mw (vb (decide (1048576 < (x_key.length : Int)))) ?_
 rcases bt (decide (1048576 < (x_key.length : Int))) with h22 | h22
 ·have q23 := of_decide_eq_true h22
  iterate 3 refine sk h22 ?_
  refine pk (vb true) wN h22 ?_
  refine n2 ?_
  refine ct (Eq.refl true) ?_
  have hF24 : hmac x_key x_b = [] := by first | exact hmac_f (by omega) | exact hmac_g (by omega) (by omega) | exact hmac_s (by omega) (by omega)
  exact wj (J11 hF24 _ (Ch.refl _ _))
 have q25 := of_decide_eq_false h22
 refine mv (vs a6 x_b.length c7) (wS h22) ?_
 refine ln (wS h22) slTy_22 r8 ?_
 refine pu (vb (decide (1048512 < (x_b.length : Int)))) (wS h22) ?_
 refine pf (vb (decide (1048512 < (x_b.length : Int)))) wN h22 ?_
 refine n2 ?_
 rcases bt (decide (1048512 < (x_b.length : Int))) with h26 | h26
 ·have q27 := of_decide_eq_true h26
  refine ct h26 ?_
  have hF28 : hmac x_key x_b = [] := by first | exact hmac_f (by omega) | exact hmac_g (by omega) (by omega) | exact hmac_s (by omega) (by omega)
  exact wj (J11 hF28 _ (Ch.refl _ _))
 have q29 := of_decide_eq_false h26
 refine cf h26 ?_
 refine y1 ?_
 refine mw (vs a1 x_key.length c2) ?_
 refine cl wN (C_spec_BlockKey w0 _ x_key (mR_22 r3 s4)) ?_
 rintro _ w1 ⟨k30, ⟨a31, c32, rfl, o33, s34, ap36⟩⟩
 have q38 := blockKey_le x_key
 refine aw (vs a31 (blockKey x_key).length c32) ?_
 refine nx ?_
 refine wl_lit0 wN rfl rfl slTy_22 (fun w => by kernel_rfl) ?_
 intro a39 w2 k40 o41
 refine aw (vs (some a39) 0 0) ?_
 refine nx ?_
 refine wl_lit0 wN rfl rfl slTy_22 (fun w => by kernel_rfl) ?_
 intro a44 w3 k45 o46
 have m47 := (((Ch.base w0).extk k30).extk k40).extk k45
 refine aw (vs (some a44) 0 0) ?_
 refine n4 ?_
 refine aw (vi 0) ?_
 refine wl_nil <| wq_then <| wc_block ?_
 have o50 := (own_kp o41 k45)
 have hE51 : ([] : List UInt8) = maskB ((blockKey x_key).take 0) 54 := by rfl
 have hN52 : 0 = (maskB ((blockKey x_key).take 0) 54).length := by rw [← hE51]; try (first | rfl | simp only [List.length_set] | simp)
 have hE53 : ([] : List UInt8) = maskB ((blockKey x_key).take 0) 92 := by rfl
 have hN54 : 0 = (maskB ((blockKey x_key).take 0) 92).length := by rw [← hE53]; try (first | rfl | simp only [List.length_set] | simp)
 refine wc_loopP [(1, (vs a6 x_b.length c7)), (4, (vs none 0 0)), (5, (vs a31 (blockKey x_key).length c32)), (6, (.slice (some a39) (maskB ((blockKey x_key).take 0) 54).length 0)), (7, (.slice (some a44) (maskB ((blockKey x_key).take 0) 92).length 0)), (8, (vi ((0 : Nat) : Int)))] ⟨rfl, rfl, rfl, rfl, rfl, (congrArg (Value.int .i64) (show (0 : Int) = ((0 : Nat) : Int) by omega)), trivial⟩ (fun e' w' => ∃ (i : Nat) (u49 : Env) (a6x : Option Addr) (c6x : Nat) (a7x : Option Addr) (c7x : Nat), e' = pt u49 [(1, (vs a6 x_b.length c7)), (4, (vs none 0 0)), (5, (vs a31 (blockKey x_key).length c32)), (6, (.slice a6x (maskB ((blockKey x_key).take i) 54).length c6x)), (7, (.slice a7x (maskB ((blockKey x_key).take i) 92).length c7x)), (8, (vi ((i : Nat) : Int)))] ∧ Ch (fun k => w0.heap.size ≤ k) w0 w' ∧ Ch (fun k => w1.heap.size ≤ k) w3 w' ∧ i ≤ 64 ∧ (World.ownsRow w' w1.heap.size 5 1 (.slice a6x (maskB ((blockKey x_key).take i) 54).length c6x) (maskB ((blockKey x_key).take i) 54).length ((maskB ((blockKey x_key).take i) 54).map bV) ∧ (maskB ((blockKey x_key).take i) 54).length ≤ 1073741824) ∧ (World.ownsRow w' w2.heap.size 5 1 (.slice a7x (maskB ((blockKey x_key).take i) 92).length c7x) (maskB ((blockKey x_key).take i) 92).length ((maskB ((blockKey x_key).take i) 92).map bV) ∧ (maskB ((blockKey x_key).take i) 92).length ≤ 1073741824) ∧ NeS a6x a7x) (fun e' _ => (64 - (intOf (e' 8))).toNat) ?_ ?_
 ·exact fun u => ⟨0, u, (some a39), 0, (some a44), 0, rfl, m47, (Ch.refl (fun k => w1.heap.size ≤ k) w3), (by omega), ⟨(by rw [← hN52, ← hE51]; exact o50), (by rw [← hN52]; first | exact (by simp) | (simp only [List.length_append, List.length_take, List.length_replicate]; omega))⟩, ⟨(by rw [← hN54, ← hE53]; exact o46), (by rw [← hN54]; first | exact (by simp) | (simp only [List.length_append, List.length_take, List.length_replicate]; omega))⟩, (NeS.lt o41 o46 (Nat.le_refl w2.heap.size))⟩
 ·rintro _ w4 ⟨i, u49, a6x, c6x, a7x, c7x, rfl, m55, k56, i57, ⟨o58, s59⟩, ⟨o60, s61⟩, d62⟩
  have hk1 := maskB_len ((blockKey x_key).take i) 54
  have hk2 := maskB_len ((blockKey x_key).take i) 92
  have htl : ((blockKey x_key).take i).length = min i (blockKey x_key).length := List.length_take
  refine wc_seq <| sr ?_
  refine mw (vi ((i : Nat) : Int)) ?_
  refine pu (vb (decide (((i : Nat) : Int) < 64))) wN ?_
  refine n2 ?_
  rcases bf (decide (((i : Nat) : Int) < 64)) with h65 | h65
  ·have q106 := of_decide_eq_false h65
   refine cf h65 ?_
   refine wc_exit <| wq_then_exit ?_
   obtain rfl : i = 64 := by omega
   refine wq_then_exit <| wq_blk_exit <| wq_then <| sr ?_
   refine mw (vs a7x (maskB ((blockKey x_key).take 64) 92).length c7x) ?_
   refine mw (vs a6x (maskB ((blockKey x_key).take 64) 54).length c6x) ?_
   refine mw (vs a6 x_b.length c7) ?_
   refine apB (maskB ((blockKey x_key).take 64) 54) x_b wN slTy_22 o58 (r8.from0 m55) (z3 k40 k45 k56) ?_
   intro a107 c108 w5 k109 o110 j111 s112
   have m113 := m55.ext k109 (fun k hk => Nat.le_trans k30.size (own_lt o58 k hk).1)
   have d114 := NeS.app d62 j111 o60
   refine cl wN (C_spec_Sha w5 _ ((maskB ((blockKey x_key).take 64) 54) ++ x_b) (mR_22 (Rd.of_own o110) s112)) ?_
   rintro _ w6 ⟨k116, ⟨a117, c118, rfl, o119, s120, ap122⟩⟩
   have q124 := sha_le ((maskB ((blockKey x_key).take 64) 54) ++ x_b)
   have o125 := (own_kp (own_ch o60 k109 (fun g hg hlt hk => NeS.no (NeS.symm d62) hg hk)) k116)
   refine apB (maskB ((blockKey x_key).take 64) 92) (sha ((maskB ((blockKey x_key).take 64) 54) ++ x_b)) wN slTy_22 o125 (Rd.of_own o119) (z4 k45 k56 k109 k116) ?_
   intro a126 c127 w7 k128 o129 j130 s131
   have m132 := (m113.extk k116).ext k128 (fun k hk => Nat.le_trans (z2 k30 k40) (own_lt o60 k hk).1)
   have o133 := (own_kp o110 k116)
   have d134 := NeS.app (NeS.symm d114) j130 o133
   refine cl wN (C_spec_Sha w7 _ ((maskB ((blockKey x_key).take 64) 92) ++ (sha ((maskB ((blockKey x_key).take 64) 54) ++ x_b))) (mR_22 (Rd.of_own o129) s131)) ?_
   rintro _ w8 ⟨k136, ⟨a137, c138, rfl, o139, s140, ap142⟩⟩
   have m143 := m132.extk k136
   have q144 := sha_le ((maskB ((blockKey x_key).take 64) 92) ++ (sha ((maskB ((blockKey x_key).take 64) 54) ++ x_b)))
   refine aw (vs a137 (sha ((maskB ((blockKey x_key).take 64) 92) ++ (sha ((maskB ((blockKey x_key).take 64) 54) ++ x_b)))).length c138) ?_
   refine n3 ?_
   refine rt (vs a137 (sha ((maskB ((blockKey x_key).take 64) 92) ++ (sha ((maskB ((blockKey x_key).take 64) 54) ++ x_b)))).length c138) ?_
   refine ⟨m143.keep0, ?_⟩
   have hF145 : hmac x_key x_b = (sha ((maskB ((blockKey x_key).take 64) 92) ++ (sha ((maskB ((blockKey x_key).take 64) 54) ++ x_b)))) := by first | exact hmac_f (by omega) | exact hmac_g (by omega) (by omega) | exact hmac_s (by omega) (by omega)
   rw [hF145]
   exact ⟨_, _, rfl, (own_lo o139 (z7 k30 k40 k45 k56 k109 k116 k128)), s140, ⟨trivial, trivial⟩⟩
  have q66 := of_decide_eq_true h65
  refine ct h65 ?_
  refine wc_skip <| wq_then <| wc_seq <| wc_block <| sr ?_
  refine mw (vs a6x (maskB ((blockKey x_key).take i) 54).length c6x) ?_
  refine mw (vs a31 (blockKey x_key).length c32) ?_
  refine mw (vi ((i : Nat) : Int)) ?_
  have o67 := (own_ch (own_kp (own_kp o33 k40) k45) k56 (fun g hg hlt hk => by have h1 := (own_lt o33 g hg).2; have h2 : w1.heap.size ≤ w1.heap.size := (Nat.le_refl w1.heap.size); have h3 : w1.heap.size ≤ g := hk; omega))
  refine ix wN ((i : Nat) : Int) slTy_22 (Rd.of_own o67) ?_
  refine eb (x := (blockKey x_key)) i wN isAgg_5 (Rd.of_own o67) ?_
  refine wl_xor8 ((blockKey x_key).getD i 0) 54 wN rfl rfl (by kernel_rfl) ?_
  refine ltB ([(((blockKey x_key).getD i 0) ^^^ 54)] : List UInt8) wN slTy_22 ?_
  intro a68 c69 w5 k70 o71
  have o74 := (own_kp o58 k70)
  refine apB (maskB ((blockKey x_key).take i) 54) ([(((blockKey x_key).getD i 0) ^^^ 54)] : List UInt8) wN slTy_22 o74 (Rd.of_own o71) (z4 k40 k45 k56 k70) ?_
  intro a75 c76 w6 k77 o78 j79 s80
  have m81 := (m55.extk k70).ext k77 (fun k hk => Nat.le_trans k30.size (own_lt o58 k hk).1)
  have o82 := (own_kp o60 k70)
  have d83 := NeS.app d62 j79 o82
  refine aw (vs a75 ((maskB ((blockKey x_key).take i) 54) ++ ([(((blockKey x_key).getD i 0) ^^^ 54)] : List UInt8)).length c76) ?_
  refine wl_nil <| wq_then <| wc_region ?_
  refine mw (vs a7x (maskB ((blockKey x_key).take i) 92).length c7x) ?_
  refine mw (vs a31 (blockKey x_key).length c32) ?_
  refine mw (vi ((i : Nat) : Int)) ?_
  have o85 := (own_ch (own_kp o67 k70) k77 (fun g hg hlt hk => by have h1 := (own_lt o33 g hg).2; have h2 := (own_lt o58 g hk).1; have h3 := (Nat.le_refl w1.heap.size); omega))
  refine ix wN ((i : Nat) : Int) slTy_22 (Rd.of_own o85) ?_
  refine eb (x := (blockKey x_key)) i wN isAgg_5 (Rd.of_own o85) ?_
  refine wl_xor8 ((blockKey x_key).getD i 0) 92 wN rfl rfl (by kernel_rfl) ?_
  refine ltB ([(((blockKey x_key).getD i 0) ^^^ 92)] : List UInt8) wN slTy_22 ?_
  intro a86 c87 w7 k88 o89
  have o92 := (own_kp (own_ch o82 k77 (fun g hg hlt hk => NeS.no (NeS.symm d62) hg hk)) k88)
  refine apB (maskB ((blockKey x_key).take i) 92) ([(((blockKey x_key).getD i 0) ^^^ 92)] : List UInt8) wN slTy_22 o92 (Rd.of_own o89) (z5 k45 k56 k70 k77 k88) ?_
  intro a93 c94 w8 k95 o96 j97 s98
  have m99 := (m81.extk k88).ext k95 (fun k hk => Nat.le_trans (z2 k30 k40) (own_lt o60 k hk).1)
  have o100 := (own_kp o78 k88)
  have d101 := NeS.app (NeS.symm d83) j97 o100
  refine aw (vs a93 ((maskB ((blockKey x_key).take i) 92) ++ ([(((blockKey x_key).getD i 0) ^^^ 92)] : List UInt8)).length c94) ?_
  refine wl_nil <| wq_blk_normal <| wq_then <| wc_region ?_
  refine mw (vi ((i : Nat) : Int)) ?_
  refine ar (((i : Nat) : Int) + 1) wN ?_
  refine aw (vi (((i : Nat) : Int) + 1)) ?_
  refine wl_nil ?_
  have o103 := (own_ch o100 k95 (fun g hg hlt hk => NeS.no d83 hg hk))
  have hE104 : (((maskB ((blockKey x_key).take i) 54) ++ ([(((blockKey x_key).getD i 0) ^^^ 54)] : List UInt8)) : List UInt8) = maskB ((blockKey x_key).take (i + 1)) 54 := by exact mask_next (by omega)
  have hE105 : (((maskB ((blockKey x_key).take i) 92) ++ ([(((blockKey x_key).getD i 0) ^^^ 92)] : List UInt8)) : List UInt8) = maskB ((blockKey x_key).take (i + 1)) 92 := by exact mask_next (by omega)
  refine wq_loopP (w0 := w4) [(1, (vs a6 x_b.length c7)), (4, (vs none 0 0)), (5, (vs a31 (blockKey x_key).length c32)), (6, (.slice a75 (maskB ((blockKey x_key).take (i + 1)) 54).length c76)), (7, (.slice a93 (maskB ((blockKey x_key).take (i + 1)) 92).length c94)), (8, (vi (((i + 1) : Nat) : Int)))] ?_ ?_ ?_
  · exact ⟨rfl, rfl, rfl, (congrArg (fun l : List UInt8 => Value.slice a75 l.length c76) hE104), (congrArg (fun l : List UInt8 => Value.slice a93 l.length c94) hE105), (congrArg (Value.int .i64) (show ((((i : Nat) : Int) + 1) : Int) = (((i + 1) : Nat) : Int) by omega)), trivial⟩
  · exact fun u => ⟨(i + 1), u, a75, c76, a93, c94, rfl, m99, ((((((Ch.refl (fun k => w1.heap.size ≤ k) w3).ext k56 (fun k hk => hk)).extk k70).ext k77 (fun k hk => Nat.le_trans (Nat.le_refl w1.heap.size) (own_lt o58 k hk).1)).extk k88).ext k95 (fun k hk => Nat.le_trans k40.size (own_lt o60 k hk).1)), (by omega), (hE104 ▸ ⟨o103, s80⟩), (hE105 ▸ ⟨o96, s98⟩), (NeS.symm d101)⟩
  · show (64 - (((i + 1) : Nat) : Int)).toNat < (64 - ((i : Nat) : Int)).toNat; omega

def O_22_4 (w : World) (lo : Nat) (v : Value) (x : (List UInt8) × (Bool)) : Prop := ∃ (a1 : Option Addr) (c1 : Nat), v = .tuple #[.slice a1 x.1.length c1, .bool x.2] ∧ w.ownsRow lo 5 1 (.slice a1 x.1.length c1) x.1.length (x.1.map bV) ∧ x.1.length ≤ 1073741824 ∧ Aps [(a1, c1)]
theorem C_spec_Expand (w0 : World) (v_x_prk : Value) (x_prk : List UInt8) (r_x_prk : R_22 w0 v_x_prk x_prk) (v_x_info : Value) (x_info : List UInt8) (r_x_info : R_22 w0 v_x_info x_info) (x_n : Int)  : Fn Try.prog 137 #[v_x_prk, v_x_info, (vi x_n)] w0 (fun v w' => Keep w0 w' ∧ O_22_4 w' w0.heap.size v (expand x_prk x_info x_n)) := by
 obtain ⟨a1, c2, rfl, r3, s4⟩ := r_x_prk
 obtain ⟨a6, c7, rfl, r8, s9⟩ := r_x_info
 refine fn_ofS (n := 52) [(vs a1 x_prk.length c2), (vs a6 x_info.length c7), (vi x_n)] Try.func137 rfl rfl ?_
 refine sr ?_
 refine aw (vs none 0 0) ?_
 refine aw (vb false) ?_
 refine n4 ?_
 refine jT1 [(0, (vs a1 x_prk.length c2)), (1, (vs a6 x_info.length c7)), (2, (vi x_n)), (6, (vs none 0 0)), (7, (vb false))] (expand x_prk x_info x_n = ([], false)) ?_ fun J11 => ?_
 ·intro hA12 w1 k14 u13
  refine sr ?_
  refine wl_lit0 wN rfl rfl slTy_22 (fun w => by kernel_rfl) ?_
  intro a16 w2 k17 o18
  have m19 := ((Ch.base w0).extk k14).extk k17
  refine aw (vs (some a16) 0 0) ?_
  refine aw (vb false) ?_
  refine n1 ?_
  refine ret_2 (.inl rfl) (vs (some a16) 0 0) (vb false) rfl rfl rfl ?_
  refine ⟨m19.keep0, ?_⟩
  rw [hA12]
  exact ⟨_, _, rfl, (own_lo o18 k14.size), (by simp), ⟨trivial, trivial⟩⟩
 refine mw (vi x_n) ?_
 refine cl wN (C_spec_l1In w0 x_n 0 8160) ?_
 rintro _ w1 ⟨k22, rfl⟩
 have m23 := (Ch.base w0).extk k22
 refine pu (vb (!(F_spec_l1In x_n 0 8160))) wN ?_
 refine mw (vb (!(F_spec_l1In x_n 0 8160))) ?_
 rcases bf (F_spec_l1In x_n 0 8160) with h24 | h24
 ·have q137 := spec_l1In_f h24
  iterate 3 refine sk (congrArg not h24) ?_
  refine pk (vb true) wN (congrArg not h24) ?_
  refine mw (vb true) ?_
  iterate 3 refine sk (Eq.refl true) ?_
  refine pk (vb true) wN (Eq.refl true) ?_
  refine n2 ?_
  refine ct (Eq.refl true) ?_
  have hF138 : expand x_prk x_info x_n = ([], false) := by first | exact expand_f (by omega) | exact expand_t (by omega) (by omega) (by omega) (by omega) (by omega) (by omega)
  exact wj (J11 hF138 _ k22)
 have q25 := spec_l1In_t h24
 refine mv (vs a6 x_info.length c7) (wS (congrArg not h24)) ?_
 refine ln (wS (congrArg not h24)) slTy_22 (r8.from0 m23) ?_
 refine pu (vb (decide (100 < (x_info.length : Int)))) (wS (congrArg not h24)) ?_
 refine pf (vb (decide (100 < (x_info.length : Int)))) wN (congrArg not h24) ?_
 refine mw (vb (decide (100 < (x_info.length : Int)))) ?_
 rcases bt (decide (100 < (x_info.length : Int))) with h26 | h26
 ·have q27 := of_decide_eq_true h26
  iterate 3 refine sk h26 ?_
  refine pk (vb true) wN h26 ?_
  refine n2 ?_
  refine ct (Eq.refl true) ?_
  have hF28 : expand x_prk x_info x_n = ([], false) := by first | exact expand_f (by omega) | exact expand_t (by omega) (by omega) (by omega) (by omega) (by omega) (by omega)
  exact wj (J11 hF28 _ k22)
 have q29 := of_decide_eq_false h26
 refine mv (vs a1 x_prk.length c2) (wS h26) ?_
 refine ln (wS h26) slTy_22 (r3.from0 m23) ?_
 refine pu (vb (decide (1048576 < (x_prk.length : Int)))) (wS h26) ?_
 refine pf (vb (decide (1048576 < (x_prk.length : Int)))) wN h26 ?_
 refine n2 ?_
 rcases bt (decide (1048576 < (x_prk.length : Int))) with h30 | h30
 ·have q31 := of_decide_eq_true h30
  refine ct h30 ?_
  have hF32 : expand x_prk x_info x_n = ([], false) := by first | exact expand_f (by omega) | exact expand_t (by omega) (by omega) (by omega) (by omega) (by omega) (by omega)
  exact wj (J11 hF32 _ k22)
 have q33 := of_decide_eq_false h30
 refine cf h30 ?_
 refine y1 ?_
 refine wl_lit0 wN rfl rfl slTy_22 (fun w => by kernel_rfl) ?_
 intro a34 w2 k35 o36
 refine aw (vs (some a34) 0 0) ?_
 refine nx ?_
 refine wl_lit0 wN rfl rfl slTy_22 (fun w => by kernel_rfl) ?_
 intro a39 w3 k40 o41
 have m42 := (m23.extk k35).extk k40
 refine aw (vs (some a39) 0 0) ?_
 refine n4 ?_
 refine aw (vi 1) ?_
 refine wl_nil <| wq_then <| wc_block ?_
 have o45 := (own_kp o36 k40)
 have hE46 : ([] : List UInt8) = (expN x_prk x_info 0).1 := by rfl
 have hN47 : 0 = ((expN x_prk x_info 0).1).length := by rw [← hE46]; try (first | rfl | simp only [List.length_set] | simp)
 have hE48 : ([] : List UInt8) = (expN x_prk x_info 0).2 := by rfl
 have hN49 : 0 = ((expN x_prk x_info 0).2).length := by rw [← hE48]; try (first | rfl | simp only [List.length_set] | simp)
 refine wc_loopP [(0, (vs a1 x_prk.length c2)), (1, (vs a6 x_info.length c7)), (2, (vi x_n)), (6, (vs none 0 0)), (7, (vb false)), (8, (.slice (some a34) ((expN x_prk x_info 0).1).length 0)), (9, (.slice (some a39) ((expN x_prk x_info 0).2).length 0)), (10, (vi (((0 : Nat) : Int) + 1)))] ⟨rfl, rfl, rfl, rfl, rfl, rfl, rfl, (congrArg (Value.int .i64) (show (1 : Int) = (((0 : Nat) : Int) + 1) by omega)), trivial⟩ (fun e' w' => ∃ (k : Nat) (u44 : Env) (a8x : Option Addr) (c8x : Nat) (a9x : Option Addr) (c9x : Nat), e' = pt u44 [(0, (vs a1 x_prk.length c2)), (1, (vs a6 x_info.length c7)), (2, (vi x_n)), (6, (vs none 0 0)), (7, (vb false)), (8, (.slice a8x ((expN x_prk x_info k).1).length c8x)), (9, (.slice a9x ((expN x_prk x_info k).2).length c9x)), (10, (vi (((k : Nat) : Int) + 1)))] ∧ Ch (fun k => w0.heap.size ≤ k) w0 w' ∧ Ch (fun k => w1.heap.size ≤ k) w3 w' ∧ 32 * ((k : Nat) : Int) < x_n + 32 ∧ (World.ownsRow w' w1.heap.size 5 1 (.slice a8x ((expN x_prk x_info k).1).length c8x) ((expN x_prk x_info k).1).length (((expN x_prk x_info k).1).map bV) ∧ ((expN x_prk x_info k).1).length ≤ 1073741824) ∧ (World.ownsRow w' w2.heap.size 5 1 (.slice a9x ((expN x_prk x_info k).2).length c9x) ((expN x_prk x_info k).2).length (((expN x_prk x_info k).2).map bV) ∧ ((expN x_prk x_info k).2).length ≤ 1073741824)) (fun e' _ => x_n.toNat - (lenOf (e' 8))) ?_ ?_
 ·exact fun u => ⟨0, u, (some a34), 0, (some a39), 0, rfl, m42, (Ch.refl (fun k => w1.heap.size ≤ k) w3), (by omega), ⟨(by rw [← hN47, ← hE46]; exact o45), (by rw [← hN47]; first | exact (by simp) | (simp only [List.length_append, List.length_take, List.length_replicate]; omega))⟩, ⟨(by rw [← hN49, ← hE48]; exact o41), (by rw [← hN49]; first | exact (by simp) | (simp only [List.length_append, List.length_take, List.length_replicate]; omega))⟩⟩
 ·rintro _ w4 ⟨k, u44, a8x, c8x, a9x, c9x, rfl, m50, k51, i52, ⟨o53, s54⟩, ⟨o55, s56⟩⟩
  have hxl := expN_len (prk := x_prk) (info := x_info) (by omega) (by omega) k
  have hxm := expN_len (prk := x_prk) (info := x_info) (by omega) (by omega) (k + 1)
  refine wc_seq <| sr ?_
  refine mw (vs a8x ((expN x_prk x_info k).1).length c8x) ?_
  refine ln wN slTy_22 (Rd.of_own o53) ?_
  refine mw (vi x_n) ?_
  refine pu (vb (decide ((((expN x_prk x_info k).1).length : Int) < x_n))) wN ?_
  refine n2 ?_
  rcases bf (decide ((((expN x_prk x_info k).1).length : Int) < x_n)) with h59 | h59
  ·have q118 := of_decide_eq_false h59
   refine cf h59 ?_
   refine wc_exit <| wq_then_exit <| wq_then_exit <| wq_blk_exit <| wq_then <| sr ?_
   refine wl_lit0 wN rfl rfl slTy_22 (fun w => by kernel_rfl) ?_
   intro a119 w5 k120 o121
   refine mw (vs a8x ((expN x_prk x_info k).1).length c8x) ?_
   refine mw (vi x_n) ?_
   have o125 := (own_kp o53 k120)
   refine slv (((expN x_prk x_info k).1).take ((x_n).toNat)) 0 ((x_n).toNat) wN slTy_22 (Rd.of_own o125) (by first | omega | (simp only [List.length_cons, List.length_nil, List.length_replicate, List.length_append, List.length_take, List.length_set, List.length_map]; omega)) (by first | omega | (simp only [List.length_cons, List.length_nil, List.length_replicate, List.length_append, List.length_take, List.length_set, List.length_map]; omega)) (by first | rfl | (simp; done) | (rw [List.take_of_length_le (by first | (simp; done) | (simp; omega))])) rfl rfl rfl rfl (.inl ⟨rfl, rfl⟩) (.inr ⟨_, _, _, rfl, rfl, by omega⟩) ?_
   have q127 : 0 ≤ ((x_n).toNat) := (by first | omega | (simp only [List.length_cons, List.length_nil, List.length_replicate, List.length_append, List.length_take, List.length_set, List.length_map]; omega))
   have q128 : ((x_n).toNat) ≤ ((expN x_prk x_info k).1).length := (by first | omega | (simp only [List.length_cons, List.length_nil, List.length_replicate, List.length_append, List.length_take, List.length_set, List.length_map]; omega))
   refine ap0 (((expN x_prk x_info k).1).take ((x_n).toNat)) wN slTy_22 o121 (Rd.subV (x' := (((expN x_prk x_info k).1).take ((x_n).toNat))) (Rd.of_own o125) q127 q128 (by first | rfl | (simp; done) | (rw [List.take_of_length_le (by first | (simp; done) | (simp; omega))]))) k120.size ?_
   intro a129 c130 w6 k131 o132 n133
   have m134 := (m50.extk k120).extk k131
   refine aw (vs a129 (((expN x_prk x_info k).1).take ((x_n).toNat)).length c130) ?_
   refine aw (vb true) ?_
   refine n3 ?_
   refine ret_2 (.inl rfl) (vs a129 (((expN x_prk x_info k).1).take ((x_n).toNat)).length c130) (vb true) rfl rfl rfl ?_
   refine ⟨m134.keep0, ?_⟩
   have hF136 : expand x_prk x_info x_n = ((((expN x_prk x_info k).1).take ((x_n).toNat)), true) := by first | exact expand_f (by omega) | exact expand_t (by omega) (by omega) (by omega) (by omega) (by omega) (by omega)
   rw [hF136]
   exact ⟨_, _, rfl, (own_lo o132 (z4 k22 k35 k40 k51)), (Nat.le_trans (by simp only [List.length_take, List.length_drop]; omega) s54), ⟨trivial, trivial⟩⟩
  have q60 := of_decide_eq_true h59
  refine ct h59 ?_
  refine wc_skip <| wq_then <| wc_seq <| wc_block <| sr ?_
  refine mw (vs a1 x_prk.length c2) ?_
  refine wl_lit0 wN rfl rfl slTy_22 (fun w => by kernel_rfl) ?_
  intro a61 w5 k62 o63
  refine mw (vs a9x ((expN x_prk x_info k).2).length c9x) ?_
  have o66 := (own_kp o55 k62)
  refine ap0 ((expN x_prk x_info k).2) wN slTy_22 o63 (Rd.of_own o66) k62.size ?_
  intro a67 c68 w6 k69 o70 n71
  have m72 := (m50.extk k62).extk k69
  refine mw (vs a6 x_info.length c7) ?_
  refine apB ((expN x_prk x_info k).2) x_info wN slTy_22 o70 (r8.from0 m72) (z2 k62 k69) ?_
  intro a74 c75 w7 k76 o77 j78 s79
  have m80 := m72.ext k76 (fun k hk => Nat.le_trans (z4 k22 k35 k40 k51) (own_lt o70 k hk).1)
  refine mw (vi (((k : Nat) : Int) + 1)) ?_
  refine wl_conv8 (((k : Nat) : Int) + 1) wN rfl rfl (by kernel_rfl) ?_
  refine ltB ([(by8 (((k : Nat) : Int) + 1))] : List UInt8) wN slTy_22 ?_
  intro a82 c83 w8 k84 o85
  have o88 := (own_kp o77 k84)
  refine apB (((expN x_prk x_info k).2) ++ x_info) ([(by8 (((k : Nat) : Int) + 1))] : List UInt8) wN slTy_22 o88 (Rd.of_own o85) (z4 k62 k69 k76 k84) ?_
  intro a89 c90 w9 k91 o92 j93 s94
  have m95 := (m80.extk k84).ext k91 (fun k hk => Nat.le_trans (z4 k22 k35 k40 k51) (own_lt o77 k hk).1)
  refine cl wN (C_spec_Hmac w9 _ x_prk (mR_22 (r3.from0 m95) s4) _ ((((expN x_prk x_info k).2) ++ x_info) ++ ([(by8 (((k : Nat) : Int) + 1))] : List UInt8)) (mR_22 (Rd.of_own o92) s94)) ?_
  rintro _ w10 ⟨k97, ⟨a98, c99, rfl, o100, s101, ap103⟩⟩
  have q105 := hmac_le x_prk ((((expN x_prk x_info k).2) ++ x_info) ++ ([(by8 (((k : Nat) : Int) + 1))] : List UInt8))
  refine aw (vs a98 (hmac x_prk ((((expN x_prk x_info k).2) ++ x_info) ++ ([(by8 (((k : Nat) : Int) + 1))] : List UInt8))).length c99) ?_
  refine wl_nil <| wq_then <| wc_region ?_
  refine mw (vs a8x ((expN x_prk x_info k).1).length c8x) ?_
  refine mw (vs a98 (hmac x_prk ((((expN x_prk x_info k).2) ++ x_info) ++ ([(by8 (((k : Nat) : Int) + 1))] : List UInt8))).length c99) ?_
  have o106 := (own_kp (own_ch (own_kp (own_ch (own_kp (own_kp o53 k62) k69) k76 (fun g hg hlt hk => by have h1 := (own_lt o53 g hg).2; have h2 := (own_lt o70 g hk).1; have h3 := (Nat.le_refl w4.heap.size); omega)) k84) k91 (fun g hg hlt hk => by have h1 := (own_lt o53 g hg).2; have h2 := (own_lt o77 g hk).1; have h3 := (Nat.le_refl w4.heap.size); omega)) k97)
  refine apB ((expN x_prk x_info k).1) (hmac x_prk ((((expN x_prk x_info k).2) ++ x_info) ++ ([(by8 (((k : Nat) : Int) + 1))] : List UInt8))) wN slTy_22 o106 (Rd.of_own o100) (z9 k35 k40 k51 k62 k69 k76 k84 k91 k97) ?_
  intro a107 c108 w11 k109 o110 j111 s112
  have m113 := (m95.extk k97).ext k109 (fun k hk => Nat.le_trans k22.size (own_lt o53 k hk).1)
  refine aw (vs a107 (((expN x_prk x_info k).1) ++ (hmac x_prk ((((expN x_prk x_info k).2) ++ x_info) ++ ([(by8 (((k : Nat) : Int) + 1))] : List UInt8)))).length c108) ?_
  refine wl_nil <| wq_blk_normal <| wq_then <| wc_region ?_
  refine mw (vi (((k : Nat) : Int) + 1)) ?_
  refine ar ((((k : Nat) : Int) + 1) + 1) wN ?_
  refine aw (vi ((((k : Nat) : Int) + 1) + 1)) ?_
  refine wl_nil ?_
  have hE115 : ((((expN x_prk x_info k).1) ++ (hmac x_prk ((((expN x_prk x_info k).2) ++ x_info) ++ ([(by8 (((k : Nat) : Int) + 1))] : List UInt8)))) : List UInt8) = (expN x_prk x_info (k + 1)).1 := by exact expN_1 _ _ _ (by simp [joinB])
  have o116 := (own_ch o100 k109 (fun g hg hlt hk => by have h1 := (own_lt o100 g hg).1; have h2 := (own_lt o53 g hk).2; have h3 := (z5 k62 k69 k76 k84 k91); omega))
  have hE117 : ((hmac x_prk ((((expN x_prk x_info k).2) ++ x_info) ++ ([(by8 (((k : Nat) : Int) + 1))] : List UInt8))) : List UInt8) = (expN x_prk x_info (k + 1)).2 := by exact expN_2 _ _ _ (by simp [joinB])
  refine wq_loopP (w0 := w4) [(0, (vs a1 x_prk.length c2)), (1, (vs a6 x_info.length c7)), (2, (vi x_n)), (6, (vs none 0 0)), (7, (vb false)), (8, (.slice a107 ((expN x_prk x_info (k + 1)).1).length c108)), (9, (.slice a98 ((expN x_prk x_info (k + 1)).2).length c99)), (10, (vi ((((k + 1) : Nat) : Int) + 1)))] ?_ ?_ ?_
  · exact ⟨rfl, rfl, rfl, rfl, rfl, (congrArg (fun l : List UInt8 => Value.slice a107 l.length c108) hE115), (congrArg (fun l : List UInt8 => Value.slice a98 l.length c99) hE117), (congrArg (Value.int .i64) (show (((((k : Nat) : Int) + 1) + 1) : Int) = ((((k + 1) : Nat) : Int) + 1) by omega)), trivial⟩
  · exact fun u => ⟨(k + 1), u, a107, c108, a98, c99, rfl, m113, (((((((((Ch.refl (fun k => w1.heap.size ≤ k) w3).ext k51 (fun k hk => hk)).extk k62).extk k69).ext k76 (fun k hk => Nat.le_trans (z3 k35 k40 k51) (own_lt o70 k hk).1)).extk k84).ext k91 (fun k hk => Nat.le_trans (z3 k35 k40 k51) (own_lt o77 k hk).1)).extk k97).ext k109 (fun k hk => Nat.le_trans (Nat.le_refl w1.heap.size) (own_lt o53 k hk).1)), (by omega), (hE115 ▸ ⟨o110, s112⟩), (hE117 ▸ ⟨(own_lo o116 (z7 k40 k51 k62 k69 k76 k84 k91)), s101⟩)⟩
  · show x_n.toNat - ((expN x_prk x_info (k + 1)).1).length < x_n.toNat - ((expN x_prk x_info k).1).length; omega

def R_9 (w : World) (v : Value) (x : (ByteArray)) : Prop := v = .string x
theorem C_spec_Derive (w0 : World) (v_x_key : Value) (x_key : List UInt8) (r_x_key : R_22 w0 v_x_key x_key) (v_x_label : Value) (x_label : ByteArray) (r_x_label : R_9 w0 v_x_label x_label) (pre0 : (strB x_label).length ≤ 100) : Fn Try.prog 118 #[v_x_key, v_x_label] w0 (fun v w' => Keep w0 w' ∧ O_22 w' w0.heap.size v (derive x_key x_label)) := by
 obtain ⟨a1, c2, rfl, r3, s4⟩ := r_x_key
 obtain rfl := r_x_label
 refine fn_ofS (n := 15) [(vs a1 x_key.length c2), (.string x_label)] Try.func118 rfl rfl ?_
 refine sr ?_
 refine aw (vs none 0 0) ?_
 refine nx ?_
 refine mw (vs a1 x_key.length c2) ?_
 refine mw (.string x_label) ?_
 refine wl_s2b x_label wN rfl rfl rfl rfl Try.underlying9 Try.underlying22 Try.underlying5 (by first | omega | (simp only [strB_mk]; decide)) ?_
 intro a6 c7 w1 k8 r9
 have m10 := (Ch.base w0).extk k8
 refine cl wN (C_spec_Expand w1 _ x_key (mR_22 (r3.from0 m10) s4) _ (strB x_label) (mR_22 r9 (by first | omega | (simp only [strB_mk]; decide))) 32) ?_
 rintro _ w2 ⟨k12, ⟨a13, c14, rfl, o15, s16, ap18⟩⟩
 have m19 := m10.extk k12
 have q20 := expand_le x_key (strB x_label) 32
 refine mw (.tuple #[(vs a13 ((expand x_key (strB x_label) 32).1).length c14), (vb ((expand x_key (strB x_label) 32).2))]) ?_
 refine pu (vs a13 ((expand x_key (strB x_label) 32).1).length c14) wN ?_
 refine pu (vb ((expand x_key (strB x_label) 32).2)) wN ?_
 refine aw (vs a13 ((expand x_key (strB x_label) 32).1).length c14) ?_
 refine aw (vb ((expand x_key (strB x_label) 32).2)) ?_
 refine nx ?_
 refine mw (vs a13 ((expand x_key (strB x_label) 32).1).length c14) ?_
 refine aw (vs a13 ((expand x_key (strB x_label) 32).1).length c14) ?_
 refine n3 ?_
 refine rt (vs a13 ((expand x_key (strB x_label) 32).1).length c14) ?_
 refine ⟨m19.keep0, ?_⟩
 have hF21 : derive x_key x_label = (expand x_key (strB x_label) 32).1 := by rfl
 rw [hF21]
 exact ⟨_, _, rfl, (own_lo o15 k8.size), s16, ⟨trivial, trivial⟩⟩

abbrev L_62 (x : PChan) (a1 : Option Addr) (c1 : Nat) (a2 : Option Addr) (c2 : Nat) (a3 : Option Addr) (c3 : Nat) (a4 : Option Addr) (c4 : Nat) (a5 : Option Addr) (c5 : Nat) (a6 : Option Addr) (c6 : Nat) : List Value := [vi x.Role, vs a1 x.Sn.length c1, vi x.Cur.N, vs a2 x.Cur.Key.length c2, vi x.Cur.Seq, vi x.Cur.Win.Top, vs a3 x.Cur.Win.Bits.length c3, vi x.Old.N, vs a4 x.Old.Key.length c4, vi x.Old.Seq, vi x.Old.Win.Top, vs a5 x.Old.Win.Bits.length c5, vb x.HasOld, vi x.Until, vs a6 x.Next.length c6]
theorem sizeOf_4 : ∀ w, (sizeOf 4).run Try.prog w = .ok 1 w := fun w => by kernel_rfl
abbrev L_60 (x : PEp) (a1 : Option Addr) (c1 : Nat) (a2 : Option Addr) (c2 : Nat) : List Value := [vi x.N, vs a1 x.Key.length c1, vi x.Seq, vi x.Win.Top, vs a2 x.Win.Bits.length c2]
theorem sizeOf_22 : ∀ w, (sizeOf 22).run Try.prog w = .ok 1 w := fun w => by kernel_rfl
theorem mR_9 {w : World} {x : ByteArray} : R_9 w (.string x) x := rfl
theorem C_spec_l14Draw (w0 : World) (g : Nat) (ca : Option Addr) (cc : Nat) (cb : List UInt8) (r_c : CurX w0 g 111 ca cc cb) (x_role : Int)  : Fn Try.prog 97 #[(vp g 0), (vi x_role)] w0 (fun v w' => ∃ x : (PChan), Ch (fun k => k = g) w0 w' ∧ CurX w' g 111 ca cc cb ∧ O_62 w' w0.heap.size v x ∧ (True)) := by
 obtain ⟨ci, chh, hcb, hcr, hcl, hci, hcn⟩ := r_c
 have hgl := Blk.lt hcb
 refine fn_ofS (n := 74) [(vp g 0), (vi x_role)] Try.func97 rfl rfl ?_
 refine sr ?_
 refine al Z_62 wN zero_62 ?_
 intro g1 w1 p2 p3 k4 b5
 have m6 := ChG.extk (Ch.refl (fun k => k = g) w0) k4
 refine nx ?_
 refine mw (vi x_role) ?_
 refine mw (vp g 0) ?_
 have b7 := (hcb.kp k4)
 refine cl wN (C_spec_l1Bytes w1 g ca cc cb ⟨_, _, b7, (Rd.chP hcr m6 hcn), hcl, (by omega), hcn⟩ 12 (by omega)) ?_
 rintro _ w2 ⟨x9, k8, ⟨i17, h18, b19, r20, l21, p22, n23⟩, ⟨a11, c12, rfl, o13, s14, ap16⟩, q10⟩
 have m24 := ChG.ext m6 k8 (fun k hk => .inl hk)
 refine mw (vp g 0) ?_
 refine cl wN (C_spec_l1Bytes w2 g ca cc cb ⟨_, _, b19, (Rd.chP hcr m24 hcn), hcl, (by omega), hcn⟩ 32 (by omega)) ?_
 rintro _ w3 ⟨x26, k25, ⟨i34, h35, b36, r37, l38, p39, n40⟩, ⟨a28, c29, rfl, o30, s31, ap33⟩, q27⟩
 have m41 := ChG.ext m24 k25 (fun k hk => .inl hk)
 have o42 := (own_ch o13 k25 (ne1 o13 (Nat.lt_of_lt_of_le hgl k4.size)))
 refine cl wN (C_spec_ChanNew w3 x_role _ (x9) (mR_22 (Rd.of_own o42) s14) _ (x26) (mR_22 (Rd.of_own o30) s31)) ?_
 rintro _ w4 ⟨k43, ⟨a44, c45, a49, c50, a54, c55, a59, c60, a64, c65, a69, c70, rfl, o46, s47, o51, s52, o56, s57, o61, s62, o66, s67, o71, s72, ap74⟩⟩
 have m75 := ChG.extk m41 k43
 refine al Z_62 wN zero_62 ?_
 intro g76 w5 p77 p78 k79 b80
 have m81 := ChG.extk m75 k79
 refine st (va (L_62 (F_spec_ChanNew x_role (x9) (x26)) a44 c45 a49 c50 a54 c55 a59 c60 a64 c65 a69 c70)) (L_62 (F_spec_ChanNew x_role (x9) (x26)) a44 c45 a49 c50 a54 c55 a59 c60 a64 c65 a69 c70) (L_62 (F_spec_ChanNew x_role (x9) (x26)) a44 c45 a49 c50 a54 c55 a59 c60 a64 c65 a69 c70) wN sizeOf_62 b80 ?_
 intro w6 k82 b83 z84
 have m85 := ChG.ext m81 k82 (fun k hk => .inr (by subst hk; exact Nat.le_trans (z4 k4 k8 k25 k43) p77))
 refine nx ?_
 refine mw (vp g 0) ?_
 refine ltI ([0, 0, 3, 281474976709656, 281474976710656] : List Int) wN slTy_56 ?_
 intro a86 c87 w7 k88 o89
 have m90 := ChG.extk m85 k88
 have b92 := ((((b36.kp k43).kp k79).ch k82 (Nat.ne_of_lt (Nat.lt_of_lt_of_le hgl (Nat.le_trans (z4 k4 k8 k25 k43) p77)))).kp k88)
 refine cl wN (C_spec_l1Int w7 g ca cc cb ⟨_, _, b92, (Rd.chP hcr m90 hcn), hcl, (by omega), hcn⟩ _ ([0, 0, 3, 281474976709656, 281474976710656] : List Int) ⟨_, _, rfl, (Rd.of_own o89), (by simp), (fun _ z hz => by have h1 := (own_lt o89 z.block (by rw [hz]; rfl)).1; have h2 := Nat.lt_of_lt_of_le hgl (z6 k4 k8 k25 k43 k79 k82); omega)⟩ (by simp)) ?_
 rintro _ w8 ⟨x94, k93, ⟨i96, h97, b98, r99, l100, p101, n102⟩, rfl, q95⟩
 have m103 := ChG.ext m90 k93 (fun k hk => .inl hk)
 have q95m : x94 = 0 ∨ x94 = 0 ∨ x94 = 3 ∨ x94 = 281474976709656 ∨ x94 = 281474976710656 := by simpa only [List.mem_cons, List.not_mem_nil, or_false] using q95
 refine pu (vp g76 2) wN ?_
 refine pu (vp g76 4) wN ?_
 have b104 := ((b83.kp k88).ch k93 (Ne.symm (Nat.ne_of_lt (Nat.lt_of_lt_of_le hgl (Nat.le_trans (z4 k4 k8 k25 k43) p77)))))
 refine st (vi (x94)) [(vi (x94))] [(vi ((F_spec_ChanNew x_role (x9) (x26)).Role)), (vs a44 ((F_spec_ChanNew x_role (x9) (x26)).Sn).length c45), (vi (((F_spec_ChanNew x_role (x9) (x26)).Cur).N)), (vs a49 (((F_spec_ChanNew x_role (x9) (x26)).Cur).Key).length c50), (vi (x94)), (vi ((((F_spec_ChanNew x_role (x9) (x26)).Cur).Win).Top)), (vs a54 ((((F_spec_ChanNew x_role (x9) (x26)).Cur).Win).Bits).length c55), (vi (((F_spec_ChanNew x_role (x9) (x26)).Old).N)), (vs a59 (((F_spec_ChanNew x_role (x9) (x26)).Old).Key).length c60), (vi (((F_spec_ChanNew x_role (x9) (x26)).Old).Seq)), (vi ((((F_spec_ChanNew x_role (x9) (x26)).Old).Win).Top)), (vs a64 ((((F_spec_ChanNew x_role (x9) (x26)).Old).Win).Bits).length c65), (vb ((F_spec_ChanNew x_role (x9) (x26)).HasOld)), (vi ((F_spec_ChanNew x_role (x9) (x26)).Until)), (vs a69 ((F_spec_ChanNew x_role (x9) (x26)).Next).length c70)] wN sizeOf_3 b104 ?_
 intro w9 k105 b106 z107
 have m108 := ChG.ext m103 k105 (fun k hk => .inr (by subst hk; exact Nat.le_trans (z4 k4 k8 k25 k43) p77))
 refine n4 ?_
 refine jM1 (fun e' w' => ∃ (t5c : Int) (l6x : List Int) (u109 : Env) (a1x : Option Addr) (c1x : Nat) (a3x : Option Addr) (c3x : Nat) (a6x : Option Addr) (c6x : Nat) (a8x : Option Addr) (c8x : Nat) (a11x : Option Addr) (c11x : Nat) (a14x : Option Addr) (c14x : Nat), e' = pt u109 [(0, (vp g 0)), (1, (vi x_role)), (4, (vp g1 0)), (5, (vp g76 0))] ∧ Ch (fun k => k = g) w0 w' ∧ Ch (fun k => k = g ∨ w4.heap.size ≤ k) w9 w' ∧ (World.ownsRow w' w0.heap.size 5 1 (.slice a1x ((F_spec_ChanNew x_role (x9) (x26)).Sn).length c1x) ((F_spec_ChanNew x_role (x9) (x26)).Sn).length (((F_spec_ChanNew x_role (x9) (x26)).Sn).map bV) ∧ ((F_spec_ChanNew x_role (x9) (x26)).Sn).length ≤ 1073741824) ∧ (World.ownsRow w' w0.heap.size 5 1 (.slice a3x (((F_spec_ChanNew x_role (x9) (x26)).Cur).Key).length c3x) (((F_spec_ChanNew x_role (x9) (x26)).Cur).Key).length ((((F_spec_ChanNew x_role (x9) (x26)).Cur).Key).map bV) ∧ (((F_spec_ChanNew x_role (x9) (x26)).Cur).Key).length ≤ 1073741824) ∧ (World.ownsRow w' w0.heap.size 3 1 (.slice a6x (l6x).length c6x) (l6x).length ((l6x).map iV) ∧ (l6x).length ≤ 1073741824) ∧ (World.ownsRow w' w0.heap.size 5 1 (.slice a8x (((F_spec_ChanNew x_role (x9) (x26)).Old).Key).length c8x) (((F_spec_ChanNew x_role (x9) (x26)).Old).Key).length ((((F_spec_ChanNew x_role (x9) (x26)).Old).Key).map bV) ∧ (((F_spec_ChanNew x_role (x9) (x26)).Old).Key).length ≤ 1073741824) ∧ (World.ownsRow w' w0.heap.size 3 1 (.slice a11x ((((F_spec_ChanNew x_role (x9) (x26)).Old).Win).Bits).length c11x) ((((F_spec_ChanNew x_role (x9) (x26)).Old).Win).Bits).length (((((F_spec_ChanNew x_role (x9) (x26)).Old).Win).Bits).map iV) ∧ ((((F_spec_ChanNew x_role (x9) (x26)).Old).Win).Bits).length ≤ 1073741824) ∧ (World.ownsRow w' w0.heap.size 5 1 (.slice a14x ((F_spec_ChanNew x_role (x9) (x26)).Next).length c14x) ((F_spec_ChanNew x_role (x9) (x26)).Next).length (((F_spec_ChanNew x_role (x9) (x26)).Next).map bV) ∧ ((F_spec_ChanNew x_role (x9) (x26)).Next).length ≤ 1073741824) ∧ Blk w' g76 62 [(vi ((F_spec_ChanNew x_role (x9) (x26)).Role)), (.slice a1x ((F_spec_ChanNew x_role (x9) (x26)).Sn).length c1x), (vi (((F_spec_ChanNew x_role (x9) (x26)).Cur).N)), (.slice a3x (((F_spec_ChanNew x_role (x9) (x26)).Cur).Key).length c3x), (vi (x94)), (vi t5c), (.slice a6x (l6x).length c6x), (vi (((F_spec_ChanNew x_role (x9) (x26)).Old).N)), (.slice a8x (((F_spec_ChanNew x_role (x9) (x26)).Old).Key).length c8x), (vi (((F_spec_ChanNew x_role (x9) (x26)).Old).Seq)), (vi ((((F_spec_ChanNew x_role (x9) (x26)).Old).Win).Top)), (.slice a11x ((((F_spec_ChanNew x_role (x9) (x26)).Old).Win).Bits).length c11x), (vb ((F_spec_ChanNew x_role (x9) (x26)).HasOld)), (vi ((F_spec_ChanNew x_role (x9) (x26)).Until)), (.slice a14x ((F_spec_ChanNew x_role (x9) (x26)).Next).length c14x)] ∧ Ap (a1x, c1x) (a3x, c3x) ∧ Ap (a1x, c1x) (a6x, c6x) ∧ Ap (a1x, c1x) (a8x, c8x) ∧ Ap (a1x, c1x) (a11x, c11x) ∧ Ap (a1x, c1x) (a14x, c14x) ∧ Ap (a3x, c3x) (a6x, c6x) ∧ Ap (a3x, c3x) (a8x, c8x) ∧ Ap (a3x, c3x) (a11x, c11x) ∧ Ap (a3x, c3x) (a14x, c14x) ∧ Ap (a6x, c6x) (a8x, c8x) ∧ Ap (a6x, c6x) (a11x, c11x) ∧ Ap (a6x, c6x) (a14x, c14x) ∧ Ap (a8x, c8x) (a11x, c11x) ∧ Ap (a8x, c8x) (a14x, c14x) ∧ Ap (a11x, c11x) (a14x, c14x) ∧ CurX w' g 111 ca cc cb) ?_ fun J110 => ?_
 ·rintro _ w10 ⟨x148, x149, u109, a150, c151, a152, c153, a154, c155, a156, c157, a158, c159, a160, c161, rfl, m111, k112, ⟨o113, s114⟩, ⟨o115, s116⟩, ⟨o117, s118⟩, ⟨o119, s120⟩, ⟨o121, s122⟩, ⟨o123, s124⟩, b125, ap126, ap127, ap128, ap129, ap130, ap131, ap132, ap133, ap134, ap135, ap136, ap137, ap138, ap139, ap140, ⟨i141, h142, b143, r144, l145, p146, n147⟩⟩
  refine wc_seq <| sr ?_
  refine mw (vp g 0) ?_
  refine cl wN (C_spec_l1Once w10 g ca cc cb ⟨_, _, b143, (Rd.chP hcr m111 hcn), hcl, (by omega), hcn⟩ 2) ?_
  rintro _ w11 ⟨x169, k168, ⟨i171, h172, b173, r174, l175, p176, n177⟩, rfl, q170⟩
  have m178 := ChG.ext m111 k168 (fun k hk => .inl hk)
  refine n2 ?_
  rcases bf x169 with h179 | h179
  ·refine cf h179 ?_
   refine y2 ?_
   refine jM1 (fun e' w' => ∃ (l14x : List UInt8) (u621 : Env) (a1x : Option Addr) (c1x : Nat) (a3x : Option Addr) (c3x : Nat) (a6x : Option Addr) (c6x : Nat) (a8x : Option Addr) (c8x : Nat) (a11x : Option Addr) (c11x : Nat) (a14x : Option Addr) (c14x : Nat), e' = pt u621 [(4, (vp g1 0)), (5, (vp g76 0))] ∧ Ch (fun k => k = g) w0 w' ∧ Ch (fun k => k = g ∨ w4.heap.size ≤ k) w11 w' ∧ (World.ownsRow w' w0.heap.size 5 1 (.slice a1x (((F_spec_ChanNew x_role (x9) (x26)).Sn)).length c1x) (((F_spec_ChanNew x_role (x9) (x26)).Sn)).length ((((F_spec_ChanNew x_role (x9) (x26)).Sn)).map bV) ∧ (((F_spec_ChanNew x_role (x9) (x26)).Sn)).length ≤ 1073741824) ∧ (World.ownsRow w' w0.heap.size 5 1 (.slice a3x ((((F_spec_ChanNew x_role (x9) (x26)).Cur).Key)).length c3x) ((((F_spec_ChanNew x_role (x9) (x26)).Cur).Key)).length (((((F_spec_ChanNew x_role (x9) (x26)).Cur).Key)).map bV) ∧ ((((F_spec_ChanNew x_role (x9) (x26)).Cur).Key)).length ≤ 1073741824) ∧ (World.ownsRow w' w0.heap.size 3 1 (.slice a6x (x149).length c6x) (x149).length ((x149).map iV) ∧ (x149).length ≤ 1073741824) ∧ (World.ownsRow w' w0.heap.size 5 1 (.slice a8x ((((F_spec_ChanNew x_role (x9) (x26)).Old).Key)).length c8x) ((((F_spec_ChanNew x_role (x9) (x26)).Old).Key)).length (((((F_spec_ChanNew x_role (x9) (x26)).Old).Key)).map bV) ∧ ((((F_spec_ChanNew x_role (x9) (x26)).Old).Key)).length ≤ 1073741824) ∧ (World.ownsRow w' w0.heap.size 3 1 (.slice a11x (((((F_spec_ChanNew x_role (x9) (x26)).Old).Win).Bits)).length c11x) (((((F_spec_ChanNew x_role (x9) (x26)).Old).Win).Bits)).length ((((((F_spec_ChanNew x_role (x9) (x26)).Old).Win).Bits)).map iV) ∧ (((((F_spec_ChanNew x_role (x9) (x26)).Old).Win).Bits)).length ≤ 1073741824) ∧ (World.ownsRow w' w0.heap.size 5 1 (.slice a14x (l14x).length c14x) (l14x).length ((l14x).map bV) ∧ (l14x).length ≤ 1073741824) ∧ Blk w' g76 62 [(vi ((F_spec_ChanNew x_role (x9) (x26)).Role)), (.slice a1x (((F_spec_ChanNew x_role (x9) (x26)).Sn)).length c1x), (vi (((F_spec_ChanNew x_role (x9) (x26)).Cur).N)), (.slice a3x ((((F_spec_ChanNew x_role (x9) (x26)).Cur).Key)).length c3x), (vi (x94)), (vi x148), (.slice a6x (x149).length c6x), (vi (((F_spec_ChanNew x_role (x9) (x26)).Old).N)), (.slice a8x ((((F_spec_ChanNew x_role (x9) (x26)).Old).Key)).length c8x), (vi (((F_spec_ChanNew x_role (x9) (x26)).Old).Seq)), (vi ((((F_spec_ChanNew x_role (x9) (x26)).Old).Win).Top)), (.slice a11x (((((F_spec_ChanNew x_role (x9) (x26)).Old).Win).Bits)).length c11x), (vb ((F_spec_ChanNew x_role (x9) (x26)).HasOld)), (vi ((F_spec_ChanNew x_role (x9) (x26)).Until)), (.slice a14x (l14x).length c14x)] ∧ Ap (a1x, c1x) (a3x, c3x) ∧ Ap (a1x, c1x) (a6x, c6x) ∧ Ap (a1x, c1x) (a8x, c8x) ∧ Ap (a1x, c1x) (a11x, c11x) ∧ Ap (a1x, c1x) (a14x, c14x) ∧ Ap (a3x, c3x) (a6x, c6x) ∧ Ap (a3x, c3x) (a8x, c8x) ∧ Ap (a3x, c3x) (a11x, c11x) ∧ Ap (a3x, c3x) (a14x, c14x) ∧ Ap (a6x, c6x) (a8x, c8x) ∧ Ap (a6x, c6x) (a11x, c11x) ∧ Ap (a6x, c6x) (a14x, c14x) ∧ Ap (a8x, c8x) (a11x, c11x) ∧ Ap (a8x, c8x) (a14x, c14x) ∧ Ap (a11x, c11x) (a14x, c14x) ∧ CurX w' g 111 ca cc cb) ?_ fun J622 => ?_
   ·rintro _ w12 ⟨x660, u621, a661, c662, a663, c664, a665, c666, a667, c668, a669, c670, a671, c672, rfl, m623, k624, ⟨o625, s626⟩, ⟨o627, s628⟩, ⟨o629, s630⟩, ⟨o631, s632⟩, ⟨o633, s634⟩, ⟨o635, s636⟩, b637, ap638, ap639, ap640, ap641, ap642, ap643, ap644, ap645, ap646, ap647, ap648, ap649, ap650, ap651, ap652, ⟨i653, h654, b655, r656, l657, p658, n659⟩⟩
    refine sr ?_
    refine lN [(vi ((F_spec_ChanNew x_role (x9) (x26)).Role)), (vs a661 (((F_spec_ChanNew x_role (x9) (x26)).Sn)).length c662), (vi (((F_spec_ChanNew x_role (x9) (x26)).Cur).N)), (vs a663 ((((F_spec_ChanNew x_role (x9) (x26)).Cur).Key)).length c664), (vi (x94)), (vi x148), (vs a665 (x149).length c666), (vi (((F_spec_ChanNew x_role (x9) (x26)).Old).N)), (vs a667 ((((F_spec_ChanNew x_role (x9) (x26)).Old).Key)).length c668), (vi (((F_spec_ChanNew x_role (x9) (x26)).Old).Seq)), (vi ((((F_spec_ChanNew x_role (x9) (x26)).Old).Win).Top)), (vs a669 (((((F_spec_ChanNew x_role (x9) (x26)).Old).Win).Bits)).length c670), (vb ((F_spec_ChanNew x_role (x9) (x26)).HasOld)), (vi ((F_spec_ChanNew x_role (x9) (x26)).Until)), (vs a671 (x660).length c672)] wN isAgg_62 sizeOf_62 b637 ?_
    have b679 := (((((((((((b5.ch k8 (Ne.symm (Nat.ne_of_lt (Nat.lt_of_lt_of_le hgl (p2))))).ch k25 (Ne.symm (Nat.ne_of_lt (Nat.lt_of_lt_of_le hgl (p2))))).kp k43).kp k79).ch k82 (Nat.ne_of_lt (Nat.lt_of_lt_of_le p3 (Nat.le_trans (z3 k8 k25 k43) p77)))).kp k88).ch k93 (Ne.symm (Nat.ne_of_lt (Nat.lt_of_lt_of_le hgl (p2))))).ch k105 (Nat.ne_of_lt (Nat.lt_of_lt_of_le p3 (Nat.le_trans (z3 k8 k25 k43) p77)))).ch k112 (fun h => Or.elim h (Ne.symm (Nat.ne_of_lt (Nat.lt_of_lt_of_le hgl (p2)))) (Nat.not_le.2 (Nat.lt_of_lt_of_le p3 (z3 k8 k25 k43))))).ch k168 (Ne.symm (Nat.ne_of_lt (Nat.lt_of_lt_of_le hgl (p2))))).ch k624 (fun h => Or.elim h (Ne.symm (Nat.ne_of_lt (Nat.lt_of_lt_of_le hgl (p2)))) (Nat.not_le.2 (Nat.lt_of_lt_of_le p3 (z3 k8 k25 k43)))))
    refine sv [(vi ((F_spec_ChanNew x_role (x9) (x26)).Role)), (vs a661 (((F_spec_ChanNew x_role (x9) (x26)).Sn)).length c662), (vi (((F_spec_ChanNew x_role (x9) (x26)).Cur).N)), (vs a663 ((((F_spec_ChanNew x_role (x9) (x26)).Cur).Key)).length c664), (vi (x94)), (vi x148), (vs a665 (x149).length c666), (vi (((F_spec_ChanNew x_role (x9) (x26)).Old).N)), (vs a667 ((((F_spec_ChanNew x_role (x9) (x26)).Old).Key)).length c668), (vi (((F_spec_ChanNew x_role (x9) (x26)).Old).Seq)), (vi ((((F_spec_ChanNew x_role (x9) (x26)).Old).Win).Top)), (vs a669 (((((F_spec_ChanNew x_role (x9) (x26)).Old).Win).Bits)).length c670), (vb ((F_spec_ChanNew x_role (x9) (x26)).HasOld)), (vi ((F_spec_ChanNew x_role (x9) (x26)).Until)), (vs a671 (x660).length c672)] wN sizeOf_62 b679 ?_
    intro w13 k680 b681 z682
    have m683 := ChG.ext m623 k680 (fun k hk => .inr (by subst hk; exact p2))
    refine n3 ?_
    have o684 := (own_blk o625 b679 (by decide) k680)
    have o685 := (own_blk o627 b679 (by decide) k680)
    have o686 := (own_blk o629 b679 (by decide) k680)
    have o687 := (own_blk o631 b679 (by decide) k680)
    have o688 := (own_blk o633 b679 (by decide) k680)
    have o689 := (own_blk o635 b679 (by decide) k680)
    refine ret_1 (.inl rfl) (va [(vi ((F_spec_ChanNew x_role (x9) (x26)).Role)), (vs a661 (((F_spec_ChanNew x_role (x9) (x26)).Sn)).length c662), (vi (((F_spec_ChanNew x_role (x9) (x26)).Cur).N)), (vs a663 ((((F_spec_ChanNew x_role (x9) (x26)).Cur).Key)).length c664), (vi (x94)), (vi x148), (vs a665 (x149).length c666), (vi (((F_spec_ChanNew x_role (x9) (x26)).Old).N)), (vs a667 ((((F_spec_ChanNew x_role (x9) (x26)).Old).Key)).length c668), (vi (((F_spec_ChanNew x_role (x9) (x26)).Old).Seq)), (vi ((((F_spec_ChanNew x_role (x9) (x26)).Old).Win).Top)), (vs a669 (((((F_spec_ChanNew x_role (x9) (x26)).Old).Win).Bits)).length c670), (vb ((F_spec_ChanNew x_role (x9) (x26)).HasOld)), (vi ((F_spec_ChanNew x_role (x9) (x26)).Until)), (vs a671 (x660).length c672)]) rfl (rv_c [(vi ((F_spec_ChanNew x_role (x9) (x26)).Role)), (vs a661 (((F_spec_ChanNew x_role (x9) (x26)).Sn)).length c662), (vi (((F_spec_ChanNew x_role (x9) (x26)).Cur).N)), (vs a663 ((((F_spec_ChanNew x_role (x9) (x26)).Cur).Key)).length c664), (vi (x94)), (vi x148), (vs a665 (x149).length c666), (vi (((F_spec_ChanNew x_role (x9) (x26)).Old).N)), (vs a667 ((((F_spec_ChanNew x_role (x9) (x26)).Old).Key)).length c668), (vi (((F_spec_ChanNew x_role (x9) (x26)).Old).Seq)), (vi ((((F_spec_ChanNew x_role (x9) (x26)).Old).Win).Top)), (vs a669 (((((F_spec_ChanNew x_role (x9) (x26)).Old).Win).Bits)).length c670), (vb ((F_spec_ChanNew x_role (x9) (x26)).HasOld)), (vi ((F_spec_ChanNew x_role (x9) (x26)).Until)), (vs a671 (x660).length c672)] rfl b681 isAgg_62 sizeOf_62) ?_
    have hN690 : (((F_spec_ChanNew x_role (x9) (x26)).Sn)).length = (((F_spec_ChanNew x_role (x9) (x26)).Sn)).length := by first | (simp only [List.length_append, List.length_take, List.length_replicate, List.length_set, List.length_map]; done) | (simp only [List.length_append, List.length_take, List.length_replicate, List.length_set, List.length_map]; omega)
    rw [hN690] at o684 ⊢
    have hN691 : ((((F_spec_ChanNew x_role (x9) (x26)).Cur).Key)).length = ((((F_spec_ChanNew x_role (x9) (x26)).Cur).Key)).length := by first | (simp only [List.length_append, List.length_take, List.length_replicate, List.length_set, List.length_map]; done) | (simp only [List.length_append, List.length_take, List.length_replicate, List.length_set, List.length_map]; omega)
    rw [hN691] at o685 ⊢
    have hN692 : (x149).length = (x149).length := by first | (simp only [List.length_append, List.length_take, List.length_replicate, List.length_set, List.length_map]; done) | (simp only [List.length_append, List.length_take, List.length_replicate, List.length_set, List.length_map]; omega)
    rw [hN692] at o686 ⊢
    have hN693 : ((((F_spec_ChanNew x_role (x9) (x26)).Old).Key)).length = ((((F_spec_ChanNew x_role (x9) (x26)).Old).Key)).length := by first | (simp only [List.length_append, List.length_take, List.length_replicate, List.length_set, List.length_map]; done) | (simp only [List.length_append, List.length_take, List.length_replicate, List.length_set, List.length_map]; omega)
    rw [hN693] at o687 ⊢
    have hN694 : (((((F_spec_ChanNew x_role (x9) (x26)).Old).Win).Bits)).length = (((((F_spec_ChanNew x_role (x9) (x26)).Old).Win).Bits)).length := by first | (simp only [List.length_append, List.length_take, List.length_replicate, List.length_set, List.length_map]; done) | (simp only [List.length_append, List.length_take, List.length_replicate, List.length_set, List.length_map]; omega)
    rw [hN694] at o688 ⊢
    have hN695 : (x660).length = (x660).length := by first | (simp only [List.length_append, List.length_take, List.length_replicate, List.length_set, List.length_map]; done) | (simp only [List.length_append, List.length_take, List.length_replicate, List.length_set, List.length_map]; omega)
    rw [hN695] at o689 ⊢
    have b696 := (b655.ch k680 (Nat.ne_of_lt (Nat.lt_of_lt_of_le hgl (p2))))
    exact ⟨{ Role := (F_spec_ChanNew x_role (x9) (x26)).Role, Sn := ((F_spec_ChanNew x_role (x9) (x26)).Sn), Cur := { N := ((F_spec_ChanNew x_role (x9) (x26)).Cur).N, Key := (((F_spec_ChanNew x_role (x9) (x26)).Cur).Key), Seq := (x94), Win := { Top := x148, Bits := x149 : PWin } : PEp }, Old := ((F_spec_ChanNew x_role (x9) (x26)).Old), HasOld := (F_spec_ChanNew x_role (x9) (x26)).HasOld, Until := (F_spec_ChanNew x_role (x9) (x26)).Until, Next := x660 : PChan }, m683, ⟨_, _, b696, (Rd.chP hcr m683 hcn), hcl, (by omega), hcn⟩, ⟨_, _, _, _, _, _, _, _, _, _, _, _, rfl, o684, (by rw [← hN690]; exact s626), o685, (by rw [← hN691]; exact s628), o686, (by rw [← hN692]; exact s630), o687, (by rw [← hN693]; exact s632), o688, (by rw [← hN694]; exact s634), o689, (by rw [← hN695]; exact s636), ⟨⟨ap638, ⟨ap639, ⟨ap640, ⟨ap641, ⟨ap642, trivial⟩⟩⟩⟩⟩, ⟨⟨ap643, ⟨ap644, ⟨ap645, ⟨ap646, trivial⟩⟩⟩⟩, ⟨⟨ap647, ⟨ap648, ⟨ap649, trivial⟩⟩⟩, ⟨⟨ap650, ⟨ap651, trivial⟩⟩, ⟨⟨ap652, trivial⟩, ⟨trivial, trivial⟩⟩⟩⟩⟩⟩⟩, trivial⟩
   refine mw (vi x_role) ?_
   refine pu (vb (decide (x_role = 0))) wN ?_
   refine mw (vb (decide (x_role = 0))) ?_
   rcases bf (decide (x_role = 0)) with h697 | h697
   ·have q753 := of_decide_eq_false h697
    iterate 4 refine sk h697 ?_
    refine pf (vb false) wN h697 ?_
    refine mw (vb false) ?_
    iterate 2 refine sk (Eq.refl false) ?_
    refine pf (vb false) wN (Eq.refl false) ?_
    refine n2 ?_
    refine cf (Eq.refl false) ?_
    refine wc_skip <| wq_then ?_
    have o754 := (own_ch o113 k168 (ne1 o113 (hgl)))
    have o755 := (own_ch o115 k168 (ne1 o115 (hgl)))
    have o756 := (own_ch o117 k168 (ne1 o117 (hgl)))
    have o757 := (own_ch o119 k168 (ne1 o119 (hgl)))
    have o758 := (own_ch o121 k168 (ne1 o121 (hgl)))
    have o759 := (own_ch o123 k168 (ne1 o123 (hgl)))
    have b760 := (b125.ch k168 (Ne.symm (Nat.ne_of_lt (Nat.lt_of_lt_of_le hgl (Nat.le_trans (z4 k4 k8 k25 k43) p77)))))
    exact wc_join [(4, (vp g1 0)), (5, (vp g76 0))] ⟨rfl, rfl, trivial⟩ fun u => J622 _ _ ⟨((F_spec_ChanNew x_role (x9) (x26)).Next), u, a150, c151, a152, c153, a154, c155, a156, c157, a158, c159, a160, c161, rfl, m178, (Ch.refl (fun k => k = g ∨ w4.heap.size ≤ k) w11), ⟨o754, s114⟩, ⟨o755, s116⟩, ⟨o756, s118⟩, ⟨o757, s120⟩, ⟨o758, s122⟩, ⟨o759, s124⟩, b760, ap126, ap127, ap128, ap129, ap130, ap131, ap132, ap133, ap134, ap135, ap136, ap137, ap138, ap139, ap140, ⟨_, _, b173, (Rd.chP hcr m178 hcn), hcl, (by omega), hcn⟩⟩
   have q698 := of_decide_eq_true h697
   refine pu (vp g76 2) (wS h697) ?_
   refine pu (vp g76 2) (wS h697) ?_
   have b699 := (b125.ch k168 (Ne.symm (Nat.ne_of_lt (Nat.lt_of_lt_of_le hgl (Nat.le_trans (z4 k4 k8 k25 k43) p77)))))
   refine ld (vi (((F_spec_ChanNew x_role (x9) (x26)).Cur).N)) (wS h697) isAgg_3 b699 ?_
   refine pu (vb (decide (((F_spec_ChanNew x_role (x9) (x26)).Cur).N < 4294967295))) (wS h697) ?_
   refine pk (vb (decide (((F_spec_ChanNew x_role (x9) (x26)).Cur).N < 4294967295))) wN h697 ?_
   refine mw (vb (decide (((F_spec_ChanNew x_role (x9) (x26)).Cur).N < 4294967295))) ?_
   rcases bf (decide (((F_spec_ChanNew x_role (x9) (x26)).Cur).N < 4294967295)) with h700 | h700
   ·have q746 := of_decide_eq_false h700
    iterate 2 refine sk h700 ?_
    refine pf (vb false) wN h700 ?_
    refine n2 ?_
    refine cf (Eq.refl false) ?_
    refine wc_skip <| wq_then ?_
    have o747 := (own_ch o113 k168 (ne1 o113 (hgl)))
    have o748 := (own_ch o115 k168 (ne1 o115 (hgl)))
    have o749 := (own_ch o117 k168 (ne1 o117 (hgl)))
    have o750 := (own_ch o119 k168 (ne1 o119 (hgl)))
    have o751 := (own_ch o121 k168 (ne1 o121 (hgl)))
    have o752 := (own_ch o123 k168 (ne1 o123 (hgl)))
    exact wc_join [(4, (vp g1 0)), (5, (vp g76 0))] ⟨rfl, rfl, trivial⟩ fun u => J622 _ _ ⟨((F_spec_ChanNew x_role (x9) (x26)).Next), u, a150, c151, a152, c153, a154, c155, a156, c157, a158, c159, a160, c161, rfl, m178, (Ch.refl (fun k => k = g ∨ w4.heap.size ≤ k) w11), ⟨o747, s114⟩, ⟨o748, s116⟩, ⟨o749, s118⟩, ⟨o750, s120⟩, ⟨o751, s122⟩, ⟨o752, s124⟩, b699, ap126, ap127, ap128, ap129, ap130, ap131, ap132, ap133, ap134, ap135, ap136, ap137, ap138, ap139, ap140, ⟨_, _, b173, (Rd.chP hcr m178 hcn), hcl, (by omega), hcn⟩⟩
   have q701 := of_decide_eq_true h700
   refine mv (vp g 0) (wS h700) ?_
   refine cl (wS h700) (C_spec_l1Once w11 g ca cc cb ⟨_, _, b173, (Rd.chP hcr m178 hcn), hcl, (by omega), hcn⟩ 2) ?_
   rintro _ w12 ⟨x703, k702, ⟨i705, h706, b707, r708, l709, p710, n711⟩, rfl, q704⟩
   have m712 := ChG.ext m178 k702 (fun k hk => .inl hk)
   refine pk (vb (x703)) wN h700 ?_
   refine n2 ?_
   rcases bf x703 with h713 | h713
   ·refine cf h713 ?_
    refine wc_skip <| wq_then ?_
    have o739 := (own_ch (own_ch o113 k168 (ne1 o113 (hgl))) k702 (ne1 o113 (hgl)))
    have o740 := (own_ch (own_ch o115 k168 (ne1 o115 (hgl))) k702 (ne1 o115 (hgl)))
    have o741 := (own_ch (own_ch o117 k168 (ne1 o117 (hgl))) k702 (ne1 o117 (hgl)))
    have o742 := (own_ch (own_ch o119 k168 (ne1 o119 (hgl))) k702 (ne1 o119 (hgl)))
    have o743 := (own_ch (own_ch o121 k168 (ne1 o121 (hgl))) k702 (ne1 o121 (hgl)))
    have o744 := (own_ch (own_ch o123 k168 (ne1 o123 (hgl))) k702 (ne1 o123 (hgl)))
    have b745 := (b699.ch k702 (Ne.symm (Nat.ne_of_lt (Nat.lt_of_lt_of_le hgl (Nat.le_trans (z4 k4 k8 k25 k43) p77)))))
    exact wc_join [(4, (vp g1 0)), (5, (vp g76 0))] ⟨rfl, rfl, trivial⟩ fun u => J622 _ _ ⟨((F_spec_ChanNew x_role (x9) (x26)).Next), u, a150, c151, a152, c153, a154, c155, a156, c157, a158, c159, a160, c161, rfl, m712, (ChO.ext (Ch.refl (fun k => k = g ∨ w4.heap.size ≤ k) w11) k702 (fun k hk => .inl hk)), ⟨o739, s114⟩, ⟨o740, s116⟩, ⟨o741, s118⟩, ⟨o742, s120⟩, ⟨o743, s122⟩, ⟨o744, s124⟩, b745, ap126, ap127, ap128, ap129, ap130, ap131, ap132, ap133, ap134, ap135, ap136, ap137, ap138, ap139, ap140, ⟨_, _, b707, (Rd.chP hcr m712 hcn), hcl, (by omega), hcn⟩⟩
   refine ct h713 ?_
   refine wc_region ?_
   refine pu (vp g76 2) wN ?_
   refine pu (vp g76 3) wN ?_
   have b715 := (b699.ch k702 (Ne.symm (Nat.ne_of_lt (Nat.lt_of_lt_of_le hgl (Nat.le_trans (z4 k4 k8 k25 k43) p77)))))
   refine ld (vs a152 (((F_spec_ChanNew x_role (x9) (x26)).Cur).Key).length c153) wN isAgg_22 b715 ?_
   have o716 := (own_ch (own_ch o115 k168 (ne1 o115 (hgl))) k702 (ne1 o115 (hgl)))
   refine cl wN (C_spec_Derive w12 _ (((F_spec_ChanNew x_role (x9) (x26)).Cur).Key) (mR_22 (Rd.of_own o716) s116) _ (ByteArray.mk ([114, 101, 107, 101, 121] : List UInt8).toArray) (mR_9) (by first | omega | decide)) ?_
   rintro _ w13 ⟨k717, ⟨a718, c719, rfl, o720, s721, ap723⟩⟩
   have m724 := ChG.extk m712 k717
   have q725 := derive_le (((F_spec_ChanNew x_role (x9) (x26)).Cur).Key) (ByteArray.mk ([114, 101, 107, 101, 121] : List UInt8).toArray)
   refine pu (vp g76 14) wN ?_
   have b726 := (b715.kp k717)
   refine st (vs a718 (derive (((F_spec_ChanNew x_role (x9) (x26)).Cur).Key) (ByteArray.mk ([114, 101, 107, 101, 121] : List UInt8).toArray)).length c719) [(vs a718 (derive (((F_spec_ChanNew x_role (x9) (x26)).Cur).Key) (ByteArray.mk ([114, 101, 107, 101, 121] : List UInt8).toArray)).length c719)] [(vi ((F_spec_ChanNew x_role (x9) (x26)).Role)), (vs a150 ((F_spec_ChanNew x_role (x9) (x26)).Sn).length c151), (vi (((F_spec_ChanNew x_role (x9) (x26)).Cur).N)), (vs a152 (((F_spec_ChanNew x_role (x9) (x26)).Cur).Key).length c153), (vi (x94)), (vi x148), (vs a154 (x149).length c155), (vi (((F_spec_ChanNew x_role (x9) (x26)).Old).N)), (vs a156 (((F_spec_ChanNew x_role (x9) (x26)).Old).Key).length c157), (vi (((F_spec_ChanNew x_role (x9) (x26)).Old).Seq)), (vi ((((F_spec_ChanNew x_role (x9) (x26)).Old).Win).Top)), (vs a158 ((((F_spec_ChanNew x_role (x9) (x26)).Old).Win).Bits).length c159), (vb ((F_spec_ChanNew x_role (x9) (x26)).HasOld)), (vi ((F_spec_ChanNew x_role (x9) (x26)).Until)), (vs a718 (derive (((F_spec_ChanNew x_role (x9) (x26)).Cur).Key) (ByteArray.mk ([114, 101, 107, 101, 121] : List UInt8).toArray)).length c719)] wN sizeOf_22 b726 ?_
   intro w14 k727 b728 z729
   have m730 := ChG.ext m724 k727 (fun k hk => .inr (by subst hk; exact Nat.le_trans (z4 k4 k8 k25 k43) p77))
   refine n2 ?_
   have o731 := (own_blk (own_kp (own_ch (own_ch o113 k168 (ne1 o113 (hgl))) k702 (ne1 o113 (hgl))) k717) b726 (by decide) k727)
   have o732 := (own_blk (own_kp o716 k717) b726 (by decide) k727)
   have o733 := (own_blk (own_kp (own_ch (own_ch o117 k168 (ne1 o117 (hgl))) k702 (ne1 o117 (hgl))) k717) b726 (by decide) k727)
   have o734 := (own_blk (own_kp (own_ch (own_ch o119 k168 (ne1 o119 (hgl))) k702 (ne1 o119 (hgl))) k717) b726 (by decide) k727)
   have o735 := (own_blk (own_kp (own_ch (own_ch o121 k168 (ne1 o121 (hgl))) k702 (ne1 o121 (hgl))) k717) b726 (by decide) k727)
   have o736 := (own_ch o720 k727 (ne1 o720 (Nat.lt_of_lt_of_le p78 (z7 k82 k88 k93 k105 k112 k168 k702))))
   have b737 := ((b707.kp k717).ch k727 (Nat.ne_of_lt (Nat.lt_of_lt_of_le hgl (Nat.le_trans (z4 k4 k8 k25 k43) p77))))
   exact wc_join [(4, (vp g1 0)), (5, (vp g76 0))] ⟨rfl, rfl, trivial⟩ fun u => J622 _ _ ⟨(derive (((F_spec_ChanNew x_role (x9) (x26)).Cur).Key) (ByteArray.mk ([114, 101, 107, 101, 121] : List UInt8).toArray)), u, a150, c151, a152, c153, a154, c155, a156, c157, a158, c159, a718, c719, rfl, m730, (ChO.ext (ChO.extk (ChO.ext (Ch.refl (fun k => k = g ∨ w4.heap.size ≤ k) w11) k702 (fun k hk => .inl hk)) k717) k727 (fun k hk => .inr (by subst hk; exact p77))), ⟨o731, s114⟩, ⟨o732, s116⟩, ⟨o733, s118⟩, ⟨o734, s120⟩, ⟨o735, s122⟩, ⟨(own_lo o736 (z12 k4 k8 k25 k43 k79 k82 k88 k93 k105 k112 k168 k702)), s721⟩, b728, ap126, ap127, ap128, ap129, (Ap.lt o113 o720 (z2 k168 k702)), ap131, ap132, ap133, (Ap.lt o115 o720 (z2 k168 k702)), ap135, ap136, (Ap.lt o117 o720 (z2 k168 k702)), ap138, (Ap.lt o119 o720 (z2 k168 k702)), (Ap.lt o121 o720 (z2 k168 k702)), ⟨_, _, b737, (Rd.chP hcr m730 hcn), hcl, (by omega), hcn⟩⟩
  refine ct h179 ?_
  refine sr ?_
  refine pu (vp g76 2) wN ?_
  have b181 := (b125.ch k168 (Ne.symm (Nat.ne_of_lt (Nat.lt_of_lt_of_le hgl (Nat.le_trans (z4 k4 k8 k25 k43) p77)))))
  refine lN [(vi (((F_spec_ChanNew x_role (x9) (x26)).Cur).N)), (vs a152 (((F_spec_ChanNew x_role (x9) (x26)).Cur).Key).length c153), (vi (x94)), (vi x148), (vs a154 (x149).length c155)] wN isAgg_60 sizeOf_60 b181 ?_
  refine pu (vp g76 7) wN ?_
  refine st (va [(vi (((F_spec_ChanNew x_role (x9) (x26)).Cur).N)), (vs a152 (((F_spec_ChanNew x_role (x9) (x26)).Cur).Key).length c153), (vi (x94)), (vi x148), (vs a154 (x149).length c155)]) [(vi (((F_spec_ChanNew x_role (x9) (x26)).Cur).N)), (vs a152 (((F_spec_ChanNew x_role (x9) (x26)).Cur).Key).length c153), (vi (x94)), (vi x148), (vs a154 (x149).length c155)] [(vi ((F_spec_ChanNew x_role (x9) (x26)).Role)), (vs a150 ((F_spec_ChanNew x_role (x9) (x26)).Sn).length c151), (vi (((F_spec_ChanNew x_role (x9) (x26)).Cur).N)), (vs a152 (((F_spec_ChanNew x_role (x9) (x26)).Cur).Key).length c153), (vi (x94)), (vi x148), (vs a154 (x149).length c155), (vi (((F_spec_ChanNew x_role (x9) (x26)).Cur).N)), (vs a152 (((F_spec_ChanNew x_role (x9) (x26)).Cur).Key).length c153), (vi (x94)), (vi x148), (vs a154 (x149).length c155), (vb ((F_spec_ChanNew x_role (x9) (x26)).HasOld)), (vi ((F_spec_ChanNew x_role (x9) (x26)).Until)), (vs a160 ((F_spec_ChanNew x_role (x9) (x26)).Next).length c161)] wN sizeOf_60 b181 ?_
  intro w12 k182 b183 z184
  have m185 := ChG.ext m178 k182 (fun k hk => .inr (by subst hk; exact Nat.le_trans (z4 k4 k8 k25 k43) p77))
  refine nx ?_
  refine pu (vp g76 12) wN ?_
  refine st (vb true) [(vb true)] [(vi ((F_spec_ChanNew x_role (x9) (x26)).Role)), (vs a150 ((F_spec_ChanNew x_role (x9) (x26)).Sn).length c151), (vi (((F_spec_ChanNew x_role (x9) (x26)).Cur).N)), (vs a152 (((F_spec_ChanNew x_role (x9) (x26)).Cur).Key).length c153), (vi (x94)), (vi x148), (vs a154 (x149).length c155), (vi (((F_spec_ChanNew x_role (x9) (x26)).Cur).N)), (vs a152 (((F_spec_ChanNew x_role (x9) (x26)).Cur).Key).length c153), (vi (x94)), (vi x148), (vs a154 (x149).length c155), (vb true), (vi ((F_spec_ChanNew x_role (x9) (x26)).Until)), (vs a160 ((F_spec_ChanNew x_role (x9) (x26)).Next).length c161)] wN sizeOf_4 b183 ?_
  intro w13 k186 b187 z188
  have m189 := ChG.ext m185 k186 (fun k hk => .inr (by subst hk; exact Nat.le_trans (z4 k4 k8 k25 k43) p77))
  refine wl_nil <| wq_then <| wc_seq ?_
  have b245 := ((b173.ch k182 (Nat.ne_of_lt (Nat.lt_of_lt_of_le hgl (Nat.le_trans (z4 k4 k8 k25 k43) p77)))).ch k186 (Nat.ne_of_lt (Nat.lt_of_lt_of_le hgl (Nat.le_trans (z4 k4 k8 k25 k43) p77))))
  refine wc_drawT ([(29, [], [], (fun _ v _ => v = (vp g 0))), (30, [], [], (fun _ v w => ∃ (a1 : Option Addr) (c1 : Nat), v = .slice a1 ([1, 1, 2, 4294967295] : List Int).length c1 ∧ w.ownsRow w13.heap.size 3 1 (.slice a1 ([1, 1, 2, 4294967295] : List Int).length c1) ([1, 1, 2, 4294967295] : List Int).length (([1, 1, 2, 4294967295] : List Int).map iV) ∧ ([1, 1, 2, 4294967295] : List Int).length ≤ 1073741824 ∧ Aps [(a1, c1)])), (31, [], [0, 1], (fun _ v _ => ∃ x244 : Int, v = (vi x244) ∧ x244 ∈ ([1, 1, 2, 4294967295] : List Int))), (32, [], [], (fun _ v _ => v = (vp g76 7))), (33, [], [3], (fun _ v _ => v = (vp g76 8))), (34, [], [3, 4], (fun _ v _ => v = (vs a152 (((F_spec_ChanNew x_role (x9) (x26)).Cur).Key).length c153)))] : GV) (fun lf w' => Ch (fun k => k = g) w13 w' ∧ CurX w' g 111 ca cc cb) [(2, fun w w' => Ch (fun k => k = g) w w' ∧ (CurX w g 111 ca cc cb → CurX w' g 111 ca cc cb))] mixed rfl (by kernel_rfl) (by kernel_rfl) ?_ (fun _ _ h => ⟨h.to _, CurX.kp ⟨_, _, b245, (Rd.chP hcr m189 hcn), hcl, (by omega), hcn⟩ h⟩) (fun _ _ _ _ h mo k => by obtain ⟨hc, hcur⟩ := h; exact ⟨hc.comp k (fun _ _ q => q.elim), hcur.kp k⟩) ⟨(fun _ _ w w' h mo hj t => by obtain ⟨hc, hcur⟩ := h; exact ⟨hc.comp t.1 (fun _ _ q => q), t.2 hcur⟩), trivial⟩ ?_ ?_ ?_
  ·exact ⟨hV, hE, ⟨(fun e v w w1 h hk => by obtain ⟨a0x, c0x, he, o0x, l0x, hap⟩ := h; exact ⟨a0x, c0x, he, own_kp o0x hk, l0x, hap⟩), hE, ⟨hV, hE, ⟨hV, hE, ⟨hV, hE, ⟨hV, hE, trivial⟩⟩⟩⟩⟩⟩
  ·exact ⟨⟨.inr hV, ⟨.inr (fun e v wX wY h ht => by obtain ⟨a0x, c0x, he, o0x, l0x, hap⟩ := h; exact ⟨a0x, c0x, he, own_ch o0x ht.1 (fun gq hg _ hk => by have h1 := (own_lt o0x gq hg).1; have h3 : gq = g := hk; have h4 := (Nat.lt_of_lt_of_le hgl (Nat.le_trans (z12 k4 k8 k25 k43 k79 k82 k88 k93 k105 k112 k168 k182) k186.size)); omega), l0x, hap⟩), ⟨.inl rfl, ⟨.inr hV, ⟨.inr hV, ⟨.inr hV, trivial⟩⟩⟩⟩⟩⟩, trivial⟩
  ·refine ⟨?_, ⟨?_, ⟨?_, ⟨?_, ⟨?_, ⟨?_, trivial⟩⟩⟩⟩⟩⟩
   ·rintro lf w14 ⟨k246, ⟨i248, h249, b250, r251, l252, p253, n254⟩⟩ ⟨n247, -⟩
    rintro _ _ _ _ _ _
    show WL _ _ _ _ _ _ _
    refine mw (vp g 0) ?_
    exact f1
   ·rintro lf w14 ⟨k256, ⟨i258, h259, b260, r261, l262, p263, n264⟩⟩ ⟨n257, -⟩
    rintro _ _ _ _ _ _
    show WL _ _ _ _ _ _ _
    refine ltI ([1, 1, 2, 4294967295] : List Int) wN slTy_56 ?_
    intro a266 c267 w15 k268 o269
    exact wl_finT k268 ⟨_, _, rfl, (own_lo o269 k256.size), (by simp), ⟨trivial, trivial⟩⟩
   ·rintro lf w14 ⟨k272, ⟨i274, h275, b276, r277, l278, p279, n280⟩⟩ ⟨n273, -⟩
    have m281 := ChG.ext m189 k272 (fun k hk => .inl hk)
    rintro _ rfl _ ⟨a282, c283, rfl, o284, s285, -⟩ _ _ _ _
    show WL _ _ _ _ _ _ _
    refine cl wN (C_spec_l1Int w14 g ca cc cb ⟨_, _, b276, (Rd.chP hcr m281 hcn), hcl, (by omega), hcn⟩ _ ([1, 1, 2, 4294967295] : List Int) ⟨_, _, rfl, (Rd.of_own o284), s285, (fun _ z hz => by have h1 := (own_lt o284 z.block (by rw [hz]; rfl)).1; have h2 := Nat.lt_of_lt_of_le hgl (Nat.le_trans (z12 k4 k8 k25 k43 k79 k82 k88 k93 k105 k112 k168 k182) k186.size); omega)⟩ (by simp)) ?_
    rintro _ w15 ⟨x288, k287, ⟨i290, h291, b292, r293, l294, p295, n296⟩, rfl, q289⟩
    have m297 := ChG.ext m281 k287 (fun k hk => .inl hk)
    have q289m : x288 = 1 ∨ x288 = 1 ∨ x288 = 2 ∨ x288 = 4294967295 := by simpa only [List.mem_cons, List.not_mem_nil, or_false] using q289
    exact wl_finT ⟨k287, fun _ => ⟨_, _, b292, (Rd.chP hcr m297 hcn), hcl, (by omega), hcn⟩⟩ ⟨_, rfl, q289⟩
   ·rintro lf w14 ⟨k298, ⟨i300, h301, b302, r303, l304, p305, n306⟩⟩ ⟨n299, -⟩
    rintro _ _ _ _ _ _
    show WL _ _ _ _ _ _ _
    refine pu (vp g76 7) wN ?_
    exact f1
   ·rintro lf w14 ⟨k308, ⟨i310, h311, b312, r313, l314, p315, n316⟩⟩ ⟨n309, -⟩
    rintro _ _ _ _ rfl _ _
    show WL _ _ _ _ _ _ _
    refine pu (vp g76 8) wN ?_
    exact f1
   ·rintro lf w14 ⟨k318, ⟨i320, h321, b322, r323, l324, p325, n326⟩⟩ ⟨n319, -⟩
    rintro _ _ _ _ rfl _ rfl _
    show WL _ _ _ _ _ _ _
    have b328 := (b187.ch k318 (Ne.symm (Nat.ne_of_lt (Nat.lt_of_lt_of_le hgl (Nat.le_trans (z4 k4 k8 k25 k43) p77)))))
    refine ld (vs a152 (((F_spec_ChanNew x_role (x9) (x26)).Cur).Key).length c153) wN isAgg_22 b328 ?_
    exact f1
  ·rintro lf w14 ⟨k329, ⟨i331, h332, b333, r334, l335, p336, n337⟩⟩
   have m338 := ChG.ext m189 k329 (fun k hk => .inl hk)
   rintro _ rfl _ ⟨a339, c340, rfl, o341, s342, -⟩ _ ⟨x244, rfl, q344⟩
   have q344m : x244 = 1 ∨ x244 = 1 ∨ x244 = 2 ∨ x244 = 4294967295 := by simpa only [List.mem_cons, List.not_mem_nil, or_false] using q344
   rintro _ rfl _ rfl _ rfl
   show WL _ _ _ _ _ _ _
   have o346 := (own_ch (own_blk (own_blk (own_ch o115 k168 (ne1 o115 (hgl))) b181 (by decide) k182) b183 (by decide) k186) k329 (ne1 o115 (hgl)))
   refine cl wN (C_spec_Derive w14 _ (((F_spec_ChanNew x_role (x9) (x26)).Cur).Key) (mR_22 (Rd.of_own o346) s116) _ (ByteArray.mk ([114, 101, 107, 101, 121] : List UInt8).toArray) (mR_9) (by first | omega | decide)) ?_
   rintro _ w15 ⟨k347, ⟨a348, c349, rfl, o350, s351, ap353⟩⟩
   have m354 := ChG.extk m338 k347
   have q355 := derive_le (((F_spec_ChanNew x_role (x9) (x26)).Cur).Key) (ByteArray.mk ([114, 101, 107, 101, 121] : List UInt8).toArray)
   refine cl wN (C_spec_EpNew w15 x244 _ (derive (((F_spec_ChanNew x_role (x9) (x26)).Cur).Key) (ByteArray.mk ([114, 101, 107, 101, 121] : List UInt8).toArray)) (mR_22 (Rd.of_own o350) s351)) ?_
   rintro _ w16 ⟨k356, ⟨a357, c358, a362, c363, rfl, o359, s360, o364, s365, ap367⟩⟩
   have m368 := ChG.extk m354 k356
   have q369 := epNew_N x244 (derive (((F_spec_ChanNew x_role (x9) (x26)).Cur).Key) (ByteArray.mk ([114, 101, 107, 101, 121] : List UInt8).toArray))
   refine pu (vp g76 2) wN ?_
   have b370 := (((b187.ch k329 (Ne.symm (Nat.ne_of_lt (Nat.lt_of_lt_of_le hgl (Nat.le_trans (z4 k4 k8 k25 k43) p77))))).kp k347).kp k356)
   refine st (va (L_60 (F_spec_EpNew x244 (derive (((F_spec_ChanNew x_role (x9) (x26)).Cur).Key) (ByteArray.mk ([114, 101, 107, 101, 121] : List UInt8).toArray))) a357 c358 a362 c363)) (L_60 (F_spec_EpNew x244 (derive (((F_spec_ChanNew x_role (x9) (x26)).Cur).Key) (ByteArray.mk ([114, 101, 107, 101, 121] : List UInt8).toArray))) a357 c358 a362 c363) [(vi ((F_spec_ChanNew x_role (x9) (x26)).Role)), (vs a150 ((F_spec_ChanNew x_role (x9) (x26)).Sn).length c151), (vi ((F_spec_EpNew x244 (derive (((F_spec_ChanNew x_role (x9) (x26)).Cur).Key) (ByteArray.mk ([114, 101, 107, 101, 121] : List UInt8).toArray))).N)), (vs a357 ((F_spec_EpNew x244 (derive (((F_spec_ChanNew x_role (x9) (x26)).Cur).Key) (ByteArray.mk ([114, 101, 107, 101, 121] : List UInt8).toArray))).Key).length c358), (vi ((F_spec_EpNew x244 (derive (((F_spec_ChanNew x_role (x9) (x26)).Cur).Key) (ByteArray.mk ([114, 101, 107, 101, 121] : List UInt8).toArray))).Seq)), (vi (((F_spec_EpNew x244 (derive (((F_spec_ChanNew x_role (x9) (x26)).Cur).Key) (ByteArray.mk ([114, 101, 107, 101, 121] : List UInt8).toArray))).Win).Top)), (vs a362 (((F_spec_EpNew x244 (derive (((F_spec_ChanNew x_role (x9) (x26)).Cur).Key) (ByteArray.mk ([114, 101, 107, 101, 121] : List UInt8).toArray))).Win).Bits).length c363), (vi (((F_spec_ChanNew x_role (x9) (x26)).Cur).N)), (vs a152 (((F_spec_ChanNew x_role (x9) (x26)).Cur).Key).length c153), (vi (x94)), (vi x148), (vs a154 (x149).length c155), (vb true), (vi ((F_spec_ChanNew x_role (x9) (x26)).Until)), (vs a160 ((F_spec_ChanNew x_role (x9) (x26)).Next).length c161)] wN sizeOf_60 b370 ?_
   intro w17 k371 b372 z373
   have m374 := ChG.ext m368 k371 (fun k hk => .inr (by subst hk; exact Nat.le_trans (z4 k4 k8 k25 k43) p77))
   refine nx ?_
   refine pu (vp g76 2) wN ?_
   refine pu (vp g76 2) wN ?_
   refine ld (vi ((F_spec_EpNew x244 (derive (((F_spec_ChanNew x_role (x9) (x26)).Cur).Key) (ByteArray.mk ([114, 101, 107, 101, 121] : List UInt8).toArray))).N)) wN isAgg_3 b372 ?_
   refine ar (((F_spec_EpNew x244 (derive (((F_spec_ChanNew x_role (x9) (x26)).Cur).Key) (ByteArray.mk ([114, 101, 107, 101, 121] : List UInt8).toArray))).N) - 1) wN ?_
   refine pu (vp g76 7) wN ?_
   refine pu (vp g76 7) wN ?_
   refine st (vi (((F_spec_EpNew x244 (derive (((F_spec_ChanNew x_role (x9) (x26)).Cur).Key) (ByteArray.mk ([114, 101, 107, 101, 121] : List UInt8).toArray))).N) - 1)) [(vi (((F_spec_EpNew x244 (derive (((F_spec_ChanNew x_role (x9) (x26)).Cur).Key) (ByteArray.mk ([114, 101, 107, 101, 121] : List UInt8).toArray))).N) - 1))] [(vi ((F_spec_ChanNew x_role (x9) (x26)).Role)), (vs a150 ((F_spec_ChanNew x_role (x9) (x26)).Sn).length c151), (vi ((F_spec_EpNew x244 (derive (((F_spec_ChanNew x_role (x9) (x26)).Cur).Key) (ByteArray.mk ([114, 101, 107, 101, 121] : List UInt8).toArray))).N)), (vs a357 ((F_spec_EpNew x244 (derive (((F_spec_ChanNew x_role (x9) (x26)).Cur).Key) (ByteArray.mk ([114, 101, 107, 101, 121] : List UInt8).toArray))).Key).length c358), (vi ((F_spec_EpNew x244 (derive (((F_spec_ChanNew x_role (x9) (x26)).Cur).Key) (ByteArray.mk ([114, 101, 107, 101, 121] : List UInt8).toArray))).Seq)), (vi (((F_spec_EpNew x244 (derive (((F_spec_ChanNew x_role (x9) (x26)).Cur).Key) (ByteArray.mk ([114, 101, 107, 101, 121] : List UInt8).toArray))).Win).Top)), (vs a362 (((F_spec_EpNew x244 (derive (((F_spec_ChanNew x_role (x9) (x26)).Cur).Key) (ByteArray.mk ([114, 101, 107, 101, 121] : List UInt8).toArray))).Win).Bits).length c363), (vi (((F_spec_EpNew x244 (derive (((F_spec_ChanNew x_role (x9) (x26)).Cur).Key) (ByteArray.mk ([114, 101, 107, 101, 121] : List UInt8).toArray))).N) - 1)), (vs a152 (((F_spec_ChanNew x_role (x9) (x26)).Cur).Key).length c153), (vi (x94)), (vi x148), (vs a154 (x149).length c155), (vb true), (vi ((F_spec_ChanNew x_role (x9) (x26)).Until)), (vs a160 ((F_spec_ChanNew x_role (x9) (x26)).Next).length c161)] wN sizeOf_3 b372 ?_
   intro w18 k375 b376 z377
   have m378 := ChG.ext m374 k375 (fun k hk => .inr (by subst hk; exact Nat.le_trans (z4 k4 k8 k25 k43) p77))
   refine nx ?_
   refine mw (vp g 0) ?_
   refine ltI ([(-1), 0, 5, 7, 1000005] : List Int) wN slTy_56 ?_
   intro a379 c380 w19 k381 o382
   have m383 := ChG.extk m378 k381
   have b385 := (((((b333.kp k347).kp k356).ch k371 (Nat.ne_of_lt (Nat.lt_of_lt_of_le hgl (Nat.le_trans (z4 k4 k8 k25 k43) p77)))).ch k375 (Nat.ne_of_lt (Nat.lt_of_lt_of_le hgl (Nat.le_trans (z4 k4 k8 k25 k43) p77)))).kp k381)
   refine cl wN (C_spec_l1Int w19 g ca cc cb ⟨_, _, b385, (Rd.chP hcr m383 hcn), hcl, (by omega), hcn⟩ _ ([(-1), 0, 5, 7, 1000005] : List Int) ⟨_, _, rfl, (Rd.of_own o382), (by simp), (fun _ z hz => by have h1 := (own_lt o382 z.block (by rw [hz]; rfl)).1; have h2 := Nat.lt_of_lt_of_le hgl (t7 (z12 k4 k8 k25 k43 k79 k82 k88 k93 k105 k112 k168 k182) k186.size k329.size k347.size k356.size k371.size k375.size); omega)⟩ (by simp)) ?_
   rintro _ w20 ⟨x387, k386, ⟨i389, h390, b391, r392, l393, p394, n395⟩, rfl, q388⟩
   have m396 := ChG.ext m383 k386 (fun k hk => .inl hk)
   have q388m : x387 = (-1) ∨ x387 = 0 ∨ x387 = 5 ∨ x387 = 7 ∨ x387 = 1000005 := by simpa only [List.mem_cons, List.not_mem_nil, or_false] using q388
   refine pu (vp g76 13) wN ?_
   have b397 := ((b376.kp k381).ch k386 (Ne.symm (Nat.ne_of_lt (Nat.lt_of_lt_of_le hgl (Nat.le_trans (z4 k4 k8 k25 k43) p77)))))
   refine st (vi (x387)) [(vi (x387))] [(vi ((F_spec_ChanNew x_role (x9) (x26)).Role)), (vs a150 ((F_spec_ChanNew x_role (x9) (x26)).Sn).length c151), (vi ((F_spec_EpNew x244 (derive (((F_spec_ChanNew x_role (x9) (x26)).Cur).Key) (ByteArray.mk ([114, 101, 107, 101, 121] : List UInt8).toArray))).N)), (vs a357 ((F_spec_EpNew x244 (derive (((F_spec_ChanNew x_role (x9) (x26)).Cur).Key) (ByteArray.mk ([114, 101, 107, 101, 121] : List UInt8).toArray))).Key).length c358), (vi ((F_spec_EpNew x244 (derive (((F_spec_ChanNew x_role (x9) (x26)).Cur).Key) (ByteArray.mk ([114, 101, 107, 101, 121] : List UInt8).toArray))).Seq)), (vi (((F_spec_EpNew x244 (derive (((F_spec_ChanNew x_role (x9) (x26)).Cur).Key) (ByteArray.mk ([114, 101, 107, 101, 121] : List UInt8).toArray))).Win).Top)), (vs a362 (((F_spec_EpNew x244 (derive (((F_spec_ChanNew x_role (x9) (x26)).Cur).Key) (ByteArray.mk ([114, 101, 107, 101, 121] : List UInt8).toArray))).Win).Bits).length c363), (vi (((F_spec_EpNew x244 (derive (((F_spec_ChanNew x_role (x9) (x26)).Cur).Key) (ByteArray.mk ([114, 101, 107, 101, 121] : List UInt8).toArray))).N) - 1)), (vs a152 (((F_spec_ChanNew x_role (x9) (x26)).Cur).Key).length c153), (vi (x94)), (vi x148), (vs a154 (x149).length c155), (vb true), (vi (x387)), (vs a160 ((F_spec_ChanNew x_role (x9) (x26)).Next).length c161)] wN sizeOf_3 b397 ?_
   intro w21 k398 b399 z400
   have m401 := ChG.ext m396 k398 (fun k hk => .inr (by subst hk; exact Nat.le_trans (z4 k4 k8 k25 k43) p77))
   refine nx ?_
   refine jM1 (fun e' w' => ∃ (t13c : Int) (u402 : Env) (a1x : Option Addr) (c1x : Nat) (a3x : Option Addr) (c3x : Nat) (a6x : Option Addr) (c6x : Nat) (a8x : Option Addr) (c8x : Nat) (a11x : Option Addr) (c11x : Nat) (a14x : Option Addr) (c14x : Nat), e' = pt u402 [(0, (vp g 0)), (1, (vi x_role)), (4, (vp g1 0)), (5, (vp g76 0))] ∧ Ch (fun k => k = g) w0 w' ∧ Ch (fun k => k = g ∨ w4.heap.size ≤ k) w21 w' ∧ (World.ownsRow w' w0.heap.size 5 1 (.slice a1x (((F_spec_ChanNew x_role (x9) (x26)).Sn)).length c1x) (((F_spec_ChanNew x_role (x9) (x26)).Sn)).length ((((F_spec_ChanNew x_role (x9) (x26)).Sn)).map bV) ∧ (((F_spec_ChanNew x_role (x9) (x26)).Sn)).length ≤ 1073741824) ∧ (World.ownsRow w' w0.heap.size 5 1 (.slice a3x ((F_spec_EpNew x244 (derive (((F_spec_ChanNew x_role (x9) (x26)).Cur).Key) (ByteArray.mk ([114, 101, 107, 101, 121] : List UInt8).toArray))).Key).length c3x) ((F_spec_EpNew x244 (derive (((F_spec_ChanNew x_role (x9) (x26)).Cur).Key) (ByteArray.mk ([114, 101, 107, 101, 121] : List UInt8).toArray))).Key).length (((F_spec_EpNew x244 (derive (((F_spec_ChanNew x_role (x9) (x26)).Cur).Key) (ByteArray.mk ([114, 101, 107, 101, 121] : List UInt8).toArray))).Key).map bV) ∧ ((F_spec_EpNew x244 (derive (((F_spec_ChanNew x_role (x9) (x26)).Cur).Key) (ByteArray.mk ([114, 101, 107, 101, 121] : List UInt8).toArray))).Key).length ≤ 1073741824) ∧ (World.ownsRow w' w0.heap.size 3 1 (.slice a6x (((F_spec_EpNew x244 (derive (((F_spec_ChanNew x_role (x9) (x26)).Cur).Key) (ByteArray.mk ([114, 101, 107, 101, 121] : List UInt8).toArray))).Win).Bits).length c6x) (((F_spec_EpNew x244 (derive (((F_spec_ChanNew x_role (x9) (x26)).Cur).Key) (ByteArray.mk ([114, 101, 107, 101, 121] : List UInt8).toArray))).Win).Bits).length ((((F_spec_EpNew x244 (derive (((F_spec_ChanNew x_role (x9) (x26)).Cur).Key) (ByteArray.mk ([114, 101, 107, 101, 121] : List UInt8).toArray))).Win).Bits).map iV) ∧ (((F_spec_EpNew x244 (derive (((F_spec_ChanNew x_role (x9) (x26)).Cur).Key) (ByteArray.mk ([114, 101, 107, 101, 121] : List UInt8).toArray))).Win).Bits).length ≤ 1073741824) ∧ (World.ownsRow w' w0.heap.size 5 1 (.slice a8x ((((F_spec_ChanNew x_role (x9) (x26)).Cur).Key)).length c8x) ((((F_spec_ChanNew x_role (x9) (x26)).Cur).Key)).length (((((F_spec_ChanNew x_role (x9) (x26)).Cur).Key)).map bV) ∧ ((((F_spec_ChanNew x_role (x9) (x26)).Cur).Key)).length ≤ 1073741824) ∧ (World.ownsRow w' w0.heap.size 3 1 (.slice a11x (x149).length c11x) (x149).length ((x149).map iV) ∧ (x149).length ≤ 1073741824) ∧ (World.ownsRow w' w0.heap.size 5 1 (.slice a14x (((F_spec_ChanNew x_role (x9) (x26)).Next)).length c14x) (((F_spec_ChanNew x_role (x9) (x26)).Next)).length ((((F_spec_ChanNew x_role (x9) (x26)).Next)).map bV) ∧ (((F_spec_ChanNew x_role (x9) (x26)).Next)).length ≤ 1073741824) ∧ Blk w' g76 62 [(vi ((F_spec_ChanNew x_role (x9) (x26)).Role)), (.slice a1x (((F_spec_ChanNew x_role (x9) (x26)).Sn)).length c1x), (vi ((F_spec_EpNew x244 (derive (((F_spec_ChanNew x_role (x9) (x26)).Cur).Key) (ByteArray.mk ([114, 101, 107, 101, 121] : List UInt8).toArray))).N)), (.slice a3x ((F_spec_EpNew x244 (derive (((F_spec_ChanNew x_role (x9) (x26)).Cur).Key) (ByteArray.mk ([114, 101, 107, 101, 121] : List UInt8).toArray))).Key).length c3x), (vi ((F_spec_EpNew x244 (derive (((F_spec_ChanNew x_role (x9) (x26)).Cur).Key) (ByteArray.mk ([114, 101, 107, 101, 121] : List UInt8).toArray))).Seq)), (vi (((F_spec_EpNew x244 (derive (((F_spec_ChanNew x_role (x9) (x26)).Cur).Key) (ByteArray.mk ([114, 101, 107, 101, 121] : List UInt8).toArray))).Win).Top)), (.slice a6x (((F_spec_EpNew x244 (derive (((F_spec_ChanNew x_role (x9) (x26)).Cur).Key) (ByteArray.mk ([114, 101, 107, 101, 121] : List UInt8).toArray))).Win).Bits).length c6x), (vi (((F_spec_EpNew x244 (derive (((F_spec_ChanNew x_role (x9) (x26)).Cur).Key) (ByteArray.mk ([114, 101, 107, 101, 121] : List UInt8).toArray))).N) - 1)), (.slice a8x ((((F_spec_ChanNew x_role (x9) (x26)).Cur).Key)).length c8x), (vi (x94)), (vi x148), (.slice a11x (x149).length c11x), (vb true), (vi t13c), (.slice a14x (((F_spec_ChanNew x_role (x9) (x26)).Next)).length c14x)] ∧ Ap (a1x, c1x) (a3x, c3x) ∧ Ap (a1x, c1x) (a6x, c6x) ∧ Ap (a1x, c1x) (a8x, c8x) ∧ Ap (a1x, c1x) (a11x, c11x) ∧ Ap (a1x, c1x) (a14x, c14x) ∧ Ap (a3x, c3x) (a6x, c6x) ∧ Ap (a3x, c3x) (a8x, c8x) ∧ Ap (a3x, c3x) (a11x, c11x) ∧ Ap (a3x, c3x) (a14x, c14x) ∧ Ap (a6x, c6x) (a8x, c8x) ∧ Ap (a6x, c6x) (a11x, c11x) ∧ Ap (a6x, c6x) (a14x, c14x) ∧ Ap (a8x, c8x) (a11x, c11x) ∧ Ap (a8x, c8x) (a14x, c14x) ∧ Ap (a11x, c11x) (a14x, c14x) ∧ CurX w' g 111 ca cc cb) ?_ fun J403 => ?_
   ·rintro _ w22 ⟨x441, u402, a442, c443, a444, c445, a446, c447, a448, c449, a450, c451, a452, c453, rfl, m404, k405, ⟨o406, s407⟩, ⟨o408, s409⟩, ⟨o410, s411⟩, ⟨o412, s413⟩, ⟨o414, s415⟩, ⟨o416, s417⟩, b418, ap419, ap420, ap421, ap422, ap423, ap424, ap425, ap426, ap427, ap428, ap429, ap430, ap431, ap432, ap433, ⟨i434, h435, b436, r437, l438, p439, n440⟩⟩
    refine wc_seq <| sr ?_
    refine jM1 (fun e' w' => ∃ (l14x : List UInt8) (u460 : Env) (a1x : Option Addr) (c1x : Nat) (a3x : Option Addr) (c3x : Nat) (a6x : Option Addr) (c6x : Nat) (a8x : Option Addr) (c8x : Nat) (a11x : Option Addr) (c11x : Nat) (a14x : Option Addr) (c14x : Nat), e' = pt u460 [(4, (vp g1 0)), (5, (vp g76 0))] ∧ Ch (fun k => k = g) w0 w' ∧ Ch (fun k => k = g ∨ w4.heap.size ≤ k) w22 w' ∧ (World.ownsRow w' w0.heap.size 5 1 (.slice a1x (((F_spec_ChanNew x_role (x9) (x26)).Sn)).length c1x) (((F_spec_ChanNew x_role (x9) (x26)).Sn)).length ((((F_spec_ChanNew x_role (x9) (x26)).Sn)).map bV) ∧ (((F_spec_ChanNew x_role (x9) (x26)).Sn)).length ≤ 1073741824) ∧ (World.ownsRow w' w0.heap.size 5 1 (.slice a3x (((F_spec_EpNew x244 (derive (((F_spec_ChanNew x_role (x9) (x26)).Cur).Key) (ByteArray.mk ([114, 101, 107, 101, 121] : List UInt8).toArray))).Key)).length c3x) (((F_spec_EpNew x244 (derive (((F_spec_ChanNew x_role (x9) (x26)).Cur).Key) (ByteArray.mk ([114, 101, 107, 101, 121] : List UInt8).toArray))).Key)).length ((((F_spec_EpNew x244 (derive (((F_spec_ChanNew x_role (x9) (x26)).Cur).Key) (ByteArray.mk ([114, 101, 107, 101, 121] : List UInt8).toArray))).Key)).map bV) ∧ (((F_spec_EpNew x244 (derive (((F_spec_ChanNew x_role (x9) (x26)).Cur).Key) (ByteArray.mk ([114, 101, 107, 101, 121] : List UInt8).toArray))).Key)).length ≤ 1073741824) ∧ (World.ownsRow w' w0.heap.size 3 1 (.slice a6x ((((F_spec_EpNew x244 (derive (((F_spec_ChanNew x_role (x9) (x26)).Cur).Key) (ByteArray.mk ([114, 101, 107, 101, 121] : List UInt8).toArray))).Win).Bits)).length c6x) ((((F_spec_EpNew x244 (derive (((F_spec_ChanNew x_role (x9) (x26)).Cur).Key) (ByteArray.mk ([114, 101, 107, 101, 121] : List UInt8).toArray))).Win).Bits)).length (((((F_spec_EpNew x244 (derive (((F_spec_ChanNew x_role (x9) (x26)).Cur).Key) (ByteArray.mk ([114, 101, 107, 101, 121] : List UInt8).toArray))).Win).Bits)).map iV) ∧ ((((F_spec_EpNew x244 (derive (((F_spec_ChanNew x_role (x9) (x26)).Cur).Key) (ByteArray.mk ([114, 101, 107, 101, 121] : List UInt8).toArray))).Win).Bits)).length ≤ 1073741824) ∧ (World.ownsRow w' w0.heap.size 5 1 (.slice a8x ((((F_spec_ChanNew x_role (x9) (x26)).Cur).Key)).length c8x) ((((F_spec_ChanNew x_role (x9) (x26)).Cur).Key)).length (((((F_spec_ChanNew x_role (x9) (x26)).Cur).Key)).map bV) ∧ ((((F_spec_ChanNew x_role (x9) (x26)).Cur).Key)).length ≤ 1073741824) ∧ (World.ownsRow w' w0.heap.size 3 1 (.slice a11x (x149).length c11x) (x149).length ((x149).map iV) ∧ (x149).length ≤ 1073741824) ∧ (World.ownsRow w' w0.heap.size 5 1 (.slice a14x (l14x).length c14x) (l14x).length ((l14x).map bV) ∧ (l14x).length ≤ 1073741824) ∧ Blk w' g76 62 [(vi ((F_spec_ChanNew x_role (x9) (x26)).Role)), (.slice a1x (((F_spec_ChanNew x_role (x9) (x26)).Sn)).length c1x), (vi ((F_spec_EpNew x244 (derive (((F_spec_ChanNew x_role (x9) (x26)).Cur).Key) (ByteArray.mk ([114, 101, 107, 101, 121] : List UInt8).toArray))).N)), (.slice a3x (((F_spec_EpNew x244 (derive (((F_spec_ChanNew x_role (x9) (x26)).Cur).Key) (ByteArray.mk ([114, 101, 107, 101, 121] : List UInt8).toArray))).Key)).length c3x), (vi ((F_spec_EpNew x244 (derive (((F_spec_ChanNew x_role (x9) (x26)).Cur).Key) (ByteArray.mk ([114, 101, 107, 101, 121] : List UInt8).toArray))).Seq)), (vi (((F_spec_EpNew x244 (derive (((F_spec_ChanNew x_role (x9) (x26)).Cur).Key) (ByteArray.mk ([114, 101, 107, 101, 121] : List UInt8).toArray))).Win).Top)), (.slice a6x ((((F_spec_EpNew x244 (derive (((F_spec_ChanNew x_role (x9) (x26)).Cur).Key) (ByteArray.mk ([114, 101, 107, 101, 121] : List UInt8).toArray))).Win).Bits)).length c6x), (vi (((F_spec_EpNew x244 (derive (((F_spec_ChanNew x_role (x9) (x26)).Cur).Key) (ByteArray.mk ([114, 101, 107, 101, 121] : List UInt8).toArray))).N) - 1)), (.slice a8x ((((F_spec_ChanNew x_role (x9) (x26)).Cur).Key)).length c8x), (vi (x94)), (vi x148), (.slice a11x (x149).length c11x), (vb true), (vi x441), (.slice a14x (l14x).length c14x)] ∧ Ap (a1x, c1x) (a3x, c3x) ∧ Ap (a1x, c1x) (a6x, c6x) ∧ Ap (a1x, c1x) (a8x, c8x) ∧ Ap (a1x, c1x) (a11x, c11x) ∧ Ap (a1x, c1x) (a14x, c14x) ∧ Ap (a3x, c3x) (a6x, c6x) ∧ Ap (a3x, c3x) (a8x, c8x) ∧ Ap (a3x, c3x) (a11x, c11x) ∧ Ap (a3x, c3x) (a14x, c14x) ∧ Ap (a6x, c6x) (a8x, c8x) ∧ Ap (a6x, c6x) (a11x, c11x) ∧ Ap (a6x, c6x) (a14x, c14x) ∧ Ap (a8x, c8x) (a11x, c11x) ∧ Ap (a8x, c8x) (a14x, c14x) ∧ Ap (a11x, c11x) (a14x, c14x) ∧ CurX w' g 111 ca cc cb) ?_ fun J461 => ?_
    ·rintro _ w23 ⟨x499, u460, a500, c501, a502, c503, a504, c505, a506, c507, a508, c509, a510, c511, rfl, m462, k463, ⟨o464, s465⟩, ⟨o466, s467⟩, ⟨o468, s469⟩, ⟨o470, s471⟩, ⟨o472, s473⟩, ⟨o474, s475⟩, b476, ap477, ap478, ap479, ap480, ap481, ap482, ap483, ap484, ap485, ap486, ap487, ap488, ap489, ap490, ap491, ⟨i492, h493, b494, r495, l496, p497, n498⟩⟩
     refine sr ?_
     refine lN [(vi ((F_spec_ChanNew x_role (x9) (x26)).Role)), (vs a500 (((F_spec_ChanNew x_role (x9) (x26)).Sn)).length c501), (vi ((F_spec_EpNew x244 (derive (((F_spec_ChanNew x_role (x9) (x26)).Cur).Key) (ByteArray.mk ([114, 101, 107, 101, 121] : List UInt8).toArray))).N)), (vs a502 (((F_spec_EpNew x244 (derive (((F_spec_ChanNew x_role (x9) (x26)).Cur).Key) (ByteArray.mk ([114, 101, 107, 101, 121] : List UInt8).toArray))).Key)).length c503), (vi ((F_spec_EpNew x244 (derive (((F_spec_ChanNew x_role (x9) (x26)).Cur).Key) (ByteArray.mk ([114, 101, 107, 101, 121] : List UInt8).toArray))).Seq)), (vi (((F_spec_EpNew x244 (derive (((F_spec_ChanNew x_role (x9) (x26)).Cur).Key) (ByteArray.mk ([114, 101, 107, 101, 121] : List UInt8).toArray))).Win).Top)), (vs a504 ((((F_spec_EpNew x244 (derive (((F_spec_ChanNew x_role (x9) (x26)).Cur).Key) (ByteArray.mk ([114, 101, 107, 101, 121] : List UInt8).toArray))).Win).Bits)).length c505), (vi (((F_spec_EpNew x244 (derive (((F_spec_ChanNew x_role (x9) (x26)).Cur).Key) (ByteArray.mk ([114, 101, 107, 101, 121] : List UInt8).toArray))).N) - 1)), (vs a506 ((((F_spec_ChanNew x_role (x9) (x26)).Cur).Key)).length c507), (vi (x94)), (vi x148), (vs a508 (x149).length c509), (vb true), (vi x441), (vs a510 (x499).length c511)] wN isAgg_62 sizeOf_62 b476 ?_
     have zz1 := Nat.lt_of_lt_of_le p3 (Nat.le_trans (z3 k8 k25 k43) p77)
     have zz2 := Nat.lt_of_lt_of_le p3 (z3 k8 k25 k43)
     have b518 := ((((((((((((((((((((((b5.ch k8 (Ne.symm (Nat.ne_of_lt (Nat.lt_of_lt_of_le hgl (p2))))).ch k25 (Ne.symm (Nat.ne_of_lt (Nat.lt_of_lt_of_le hgl (p2))))).kp k43).kp k79).ch k82 (Nat.ne_of_lt zz1)).kp k88).ch k93 (Ne.symm (Nat.ne_of_lt (Nat.lt_of_lt_of_le hgl (p2))))).ch k105 (Nat.ne_of_lt zz1)).ch k112 (fun h => Or.elim h (Ne.symm (Nat.ne_of_lt (Nat.lt_of_lt_of_le hgl (p2)))) (Nat.not_le.2 zz2))).ch k168 (Ne.symm (Nat.ne_of_lt (Nat.lt_of_lt_of_le hgl (p2))))).ch k182 (Nat.ne_of_lt zz1)).ch k186 (Nat.ne_of_lt zz1)).ch k329 (Ne.symm (Nat.ne_of_lt (Nat.lt_of_lt_of_le hgl (p2))))).kp k347).kp k356).ch k371 (Nat.ne_of_lt zz1)).ch k375 (Nat.ne_of_lt zz1)).kp k381).ch k386 (Ne.symm (Nat.ne_of_lt (Nat.lt_of_lt_of_le hgl (p2))))).ch k398 (Nat.ne_of_lt zz1)).ch k405 (fun h => Or.elim h (Ne.symm (Nat.ne_of_lt (Nat.lt_of_lt_of_le hgl (p2)))) (Nat.not_le.2 zz2))).ch k463 (fun h => Or.elim h (Ne.symm (Nat.ne_of_lt (Nat.lt_of_lt_of_le hgl (p2)))) (Nat.not_le.2 zz2)))
     refine sv [(vi ((F_spec_ChanNew x_role (x9) (x26)).Role)), (vs a500 (((F_spec_ChanNew x_role (x9) (x26)).Sn)).length c501), (vi ((F_spec_EpNew x244 (derive (((F_spec_ChanNew x_role (x9) (x26)).Cur).Key) (ByteArray.mk ([114, 101, 107, 101, 121] : List UInt8).toArray))).N)), (vs a502 (((F_spec_EpNew x244 (derive (((F_spec_ChanNew x_role (x9) (x26)).Cur).Key) (ByteArray.mk ([114, 101, 107, 101, 121] : List UInt8).toArray))).Key)).length c503), (vi ((F_spec_EpNew x244 (derive (((F_spec_ChanNew x_role (x9) (x26)).Cur).Key) (ByteArray.mk ([114, 101, 107, 101, 121] : List UInt8).toArray))).Seq)), (vi (((F_spec_EpNew x244 (derive (((F_spec_ChanNew x_role (x9) (x26)).Cur).Key) (ByteArray.mk ([114, 101, 107, 101, 121] : List UInt8).toArray))).Win).Top)), (vs a504 ((((F_spec_EpNew x244 (derive (((F_spec_ChanNew x_role (x9) (x26)).Cur).Key) (ByteArray.mk ([114, 101, 107, 101, 121] : List UInt8).toArray))).Win).Bits)).length c505), (vi (((F_spec_EpNew x244 (derive (((F_spec_ChanNew x_role (x9) (x26)).Cur).Key) (ByteArray.mk ([114, 101, 107, 101, 121] : List UInt8).toArray))).N) - 1)), (vs a506 ((((F_spec_ChanNew x_role (x9) (x26)).Cur).Key)).length c507), (vi (x94)), (vi x148), (vs a508 (x149).length c509), (vb true), (vi x441), (vs a510 (x499).length c511)] wN sizeOf_62 b518 ?_
     intro w24 k519 b520 z521
     have m522 := ChG.ext m462 k519 (fun k hk => .inr (by subst hk; exact p2))
     refine n3 ?_
     have o523 := (own_blk o464 b518 (by decide) k519)
     have o524 := (own_blk o466 b518 (by decide) k519)
     have o525 := (own_blk o468 b518 (by decide) k519)
     have o526 := (own_blk o470 b518 (by decide) k519)
     have o527 := (own_blk o472 b518 (by decide) k519)
     have o528 := (own_blk o474 b518 (by decide) k519)
     refine ret_1 (.inl rfl) (va [(vi ((F_spec_ChanNew x_role (x9) (x26)).Role)), (vs a500 (((F_spec_ChanNew x_role (x9) (x26)).Sn)).length c501), (vi ((F_spec_EpNew x244 (derive (((F_spec_ChanNew x_role (x9) (x26)).Cur).Key) (ByteArray.mk ([114, 101, 107, 101, 121] : List UInt8).toArray))).N)), (vs a502 (((F_spec_EpNew x244 (derive (((F_spec_ChanNew x_role (x9) (x26)).Cur).Key) (ByteArray.mk ([114, 101, 107, 101, 121] : List UInt8).toArray))).Key)).length c503), (vi ((F_spec_EpNew x244 (derive (((F_spec_ChanNew x_role (x9) (x26)).Cur).Key) (ByteArray.mk ([114, 101, 107, 101, 121] : List UInt8).toArray))).Seq)), (vi (((F_spec_EpNew x244 (derive (((F_spec_ChanNew x_role (x9) (x26)).Cur).Key) (ByteArray.mk ([114, 101, 107, 101, 121] : List UInt8).toArray))).Win).Top)), (vs a504 ((((F_spec_EpNew x244 (derive (((F_spec_ChanNew x_role (x9) (x26)).Cur).Key) (ByteArray.mk ([114, 101, 107, 101, 121] : List UInt8).toArray))).Win).Bits)).length c505), (vi (((F_spec_EpNew x244 (derive (((F_spec_ChanNew x_role (x9) (x26)).Cur).Key) (ByteArray.mk ([114, 101, 107, 101, 121] : List UInt8).toArray))).N) - 1)), (vs a506 ((((F_spec_ChanNew x_role (x9) (x26)).Cur).Key)).length c507), (vi (x94)), (vi x148), (vs a508 (x149).length c509), (vb true), (vi x441), (vs a510 (x499).length c511)]) rfl (rv_c [(vi ((F_spec_ChanNew x_role (x9) (x26)).Role)), (vs a500 (((F_spec_ChanNew x_role (x9) (x26)).Sn)).length c501), (vi ((F_spec_EpNew x244 (derive (((F_spec_ChanNew x_role (x9) (x26)).Cur).Key) (ByteArray.mk ([114, 101, 107, 101, 121] : List UInt8).toArray))).N)), (vs a502 (((F_spec_EpNew x244 (derive (((F_spec_ChanNew x_role (x9) (x26)).Cur).Key) (ByteArray.mk ([114, 101, 107, 101, 121] : List UInt8).toArray))).Key)).length c503), (vi ((F_spec_EpNew x244 (derive (((F_spec_ChanNew x_role (x9) (x26)).Cur).Key) (ByteArray.mk ([114, 101, 107, 101, 121] : List UInt8).toArray))).Seq)), (vi (((F_spec_EpNew x244 (derive (((F_spec_ChanNew x_role (x9) (x26)).Cur).Key) (ByteArray.mk ([114, 101, 107, 101, 121] : List UInt8).toArray))).Win).Top)), (vs a504 ((((F_spec_EpNew x244 (derive (((F_spec_ChanNew x_role (x9) (x26)).Cur).Key) (ByteArray.mk ([114, 101, 107, 101, 121] : List UInt8).toArray))).Win).Bits)).length c505), (vi (((F_spec_EpNew x244 (derive (((F_spec_ChanNew x_role (x9) (x26)).Cur).Key) (ByteArray.mk ([114, 101, 107, 101, 121] : List UInt8).toArray))).N) - 1)), (vs a506 ((((F_spec_ChanNew x_role (x9) (x26)).Cur).Key)).length c507), (vi (x94)), (vi x148), (vs a508 (x149).length c509), (vb true), (vi x441), (vs a510 (x499).length c511)] rfl b520 isAgg_62 sizeOf_62) ?_
     have hN529 : (((F_spec_ChanNew x_role (x9) (x26)).Sn)).length = (((F_spec_ChanNew x_role (x9) (x26)).Sn)).length := by first | (simp only [List.length_append, List.length_take, List.length_replicate, List.length_set, List.length_map]; done) | (simp only [List.length_append, List.length_take, List.length_replicate, List.length_set, List.length_map]; omega)
     rw [hN529] at o523 ⊢
     have hN530 : (((F_spec_EpNew x244 (derive (((F_spec_ChanNew x_role (x9) (x26)).Cur).Key) (ByteArray.mk ([114, 101, 107, 101, 121] : List UInt8).toArray))).Key)).length = (((F_spec_EpNew x244 (derive (((F_spec_ChanNew x_role (x9) (x26)).Cur).Key) (ByteArray.mk ([114, 101, 107, 101, 121] : List UInt8).toArray))).Key)).length := by first | (simp only [List.length_append, List.length_take, List.length_replicate, List.length_set, List.length_map]; done) | (simp only [List.length_append, List.length_take, List.length_replicate, List.length_set, List.length_map]; omega)
     rw [hN530] at o524 ⊢
     have hN531 : ((((F_spec_EpNew x244 (derive (((F_spec_ChanNew x_role (x9) (x26)).Cur).Key) (ByteArray.mk ([114, 101, 107, 101, 121] : List UInt8).toArray))).Win).Bits)).length = ((((F_spec_EpNew x244 (derive (((F_spec_ChanNew x_role (x9) (x26)).Cur).Key) (ByteArray.mk ([114, 101, 107, 101, 121] : List UInt8).toArray))).Win).Bits)).length := by first | (simp only [List.length_append, List.length_take, List.length_replicate, List.length_set, List.length_map]; done) | (simp only [List.length_append, List.length_take, List.length_replicate, List.length_set, List.length_map]; omega)
     rw [hN531] at o525 ⊢
     have hN532 : ((((F_spec_ChanNew x_role (x9) (x26)).Cur).Key)).length = ((((F_spec_ChanNew x_role (x9) (x26)).Cur).Key)).length := by first | (simp only [List.length_append, List.length_take, List.length_replicate, List.length_set, List.length_map]; done) | (simp only [List.length_append, List.length_take, List.length_replicate, List.length_set, List.length_map]; omega)
     rw [hN532] at o526 ⊢
     have hN533 : (x149).length = (x149).length := by first | (simp only [List.length_append, List.length_take, List.length_replicate, List.length_set, List.length_map]; done) | (simp only [List.length_append, List.length_take, List.length_replicate, List.length_set, List.length_map]; omega)
     rw [hN533] at o527 ⊢
     have hN534 : (x499).length = (x499).length := by first | (simp only [List.length_append, List.length_take, List.length_replicate, List.length_set, List.length_map]; done) | (simp only [List.length_append, List.length_take, List.length_replicate, List.length_set, List.length_map]; omega)
     rw [hN534] at o528 ⊢
     have b535 := (b494.ch k519 (Nat.ne_of_lt (Nat.lt_of_lt_of_le hgl (p2))))
     exact ⟨{ Role := (F_spec_ChanNew x_role (x9) (x26)).Role, Sn := ((F_spec_ChanNew x_role (x9) (x26)).Sn), Cur := (F_spec_EpNew x244 (derive (((F_spec_ChanNew x_role (x9) (x26)).Cur).Key) (ByteArray.mk ([114, 101, 107, 101, 121] : List UInt8).toArray))), Old := { N := (((F_spec_EpNew x244 (derive (((F_spec_ChanNew x_role (x9) (x26)).Cur).Key) (ByteArray.mk ([114, 101, 107, 101, 121] : List UInt8).toArray))).N) - 1), Key := (((F_spec_ChanNew x_role (x9) (x26)).Cur).Key), Seq := (x94), Win := { Top := x148, Bits := x149 : PWin } : PEp }, HasOld := true, Until := x441, Next := x499 : PChan }, m522, ⟨_, _, b535, (Rd.chP hcr m522 hcn), hcl, (by omega), hcn⟩, ⟨_, _, _, _, _, _, _, _, _, _, _, _, rfl, o523, (by rw [← hN529]; exact s465), o524, (by rw [← hN530]; exact s467), o525, (by rw [← hN531]; exact s469), o526, (by rw [← hN532]; exact s471), o527, (by rw [← hN533]; exact s473), o528, (by rw [← hN534]; exact s475), ⟨⟨ap477, ⟨ap478, ⟨ap479, ⟨ap480, ⟨ap481, trivial⟩⟩⟩⟩⟩, ⟨⟨ap482, ⟨ap483, ⟨ap484, ⟨ap485, trivial⟩⟩⟩⟩, ⟨⟨ap486, ⟨ap487, ⟨ap488, trivial⟩⟩⟩, ⟨⟨ap489, ⟨ap490, trivial⟩⟩, ⟨⟨ap491, trivial⟩, ⟨trivial, trivial⟩⟩⟩⟩⟩⟩⟩, trivial⟩
    refine mw (vi x_role) ?_
    refine pu (vb (decide (x_role = 0))) wN ?_
    refine mw (vb (decide (x_role = 0))) ?_
    rcases bf (decide (x_role = 0)) with h536 | h536
    ·have q585 := of_decide_eq_false h536
     iterate 4 refine sk h536 ?_
     refine pf (vb false) wN h536 ?_
     refine mw (vb false) ?_
     iterate 2 refine sk (Eq.refl false) ?_
     refine pf (vb false) wN (Eq.refl false) ?_
     refine n2 ?_
     refine cf (Eq.refl false) ?_
     refine wc_skip <| wq_then ?_
     exact wc_join [(4, (vp g1 0)), (5, (vp g76 0))] ⟨rfl, rfl, trivial⟩ fun u => J461 _ _ ⟨((F_spec_ChanNew x_role (x9) (x26)).Next), u, a442, c443, a444, c445, a446, c447, a448, c449, a450, c451, a452, c453, rfl, m404, (Ch.refl (fun k => k = g ∨ w4.heap.size ≤ k) w22), ⟨o406, s407⟩, ⟨o408, s409⟩, ⟨o410, s411⟩, ⟨o412, s413⟩, ⟨o414, s415⟩, ⟨o416, s417⟩, b418, ap419, ap420, ap421, ap422, ap423, ap424, ap425, ap426, ap427, ap428, ap429, ap430, ap431, ap432, ap433, ⟨_, _, b436, (Rd.chP hcr m404 hcn), hcl, (by omega), hcn⟩⟩
    have q537 := of_decide_eq_true h536
    refine pu (vp g76 2) (wS h536) ?_
    refine pu (vp g76 2) (wS h536) ?_
    refine ld (vi ((F_spec_EpNew x244 (derive (((F_spec_ChanNew x_role (x9) (x26)).Cur).Key) (ByteArray.mk ([114, 101, 107, 101, 121] : List UInt8).toArray))).N)) (wS h536) isAgg_3 b418 ?_
    refine pu (vb (decide ((F_spec_EpNew x244 (derive (((F_spec_ChanNew x_role (x9) (x26)).Cur).Key) (ByteArray.mk ([114, 101, 107, 101, 121] : List UInt8).toArray))).N < 4294967295))) (wS h536) ?_
    refine pk (vb (decide ((F_spec_EpNew x244 (derive (((F_spec_ChanNew x_role (x9) (x26)).Cur).Key) (ByteArray.mk ([114, 101, 107, 101, 121] : List UInt8).toArray))).N < 4294967295))) wN h536 ?_
    refine mw (vb (decide ((F_spec_EpNew x244 (derive (((F_spec_ChanNew x_role (x9) (x26)).Cur).Key) (ByteArray.mk ([114, 101, 107, 101, 121] : List UInt8).toArray))).N < 4294967295))) ?_
    rcases bf (decide ((F_spec_EpNew x244 (derive (((F_spec_ChanNew x_role (x9) (x26)).Cur).Key) (ByteArray.mk ([114, 101, 107, 101, 121] : List UInt8).toArray))).N < 4294967295)) with h538 | h538
    ·have q584 := of_decide_eq_false h538
     iterate 2 refine sk h538 ?_
     refine pf (vb false) wN h538 ?_
     refine n2 ?_
     refine cf (Eq.refl false) ?_
     refine wc_skip <| wq_then ?_
     exact wc_join [(4, (vp g1 0)), (5, (vp g76 0))] ⟨rfl, rfl, trivial⟩ fun u => J461 _ _ ⟨((F_spec_ChanNew x_role (x9) (x26)).Next), u, a442, c443, a444, c445, a446, c447, a448, c449, a450, c451, a452, c453, rfl, m404, (Ch.refl (fun k => k = g ∨ w4.heap.size ≤ k) w22), ⟨o406, s407⟩, ⟨o408, s409⟩, ⟨o410, s411⟩, ⟨o412, s413⟩, ⟨o414, s415⟩, ⟨o416, s417⟩, b418, ap419, ap420, ap421, ap422, ap423, ap424, ap425, ap426, ap427, ap428, ap429, ap430, ap431, ap432, ap433, ⟨_, _, b436, (Rd.chP hcr m404 hcn), hcl, (by omega), hcn⟩⟩
    have q539 := of_decide_eq_true h538
    refine mv (vp g 0) (wS h538) ?_
    refine cl (wS h538) (C_spec_l1Once w22 g ca cc cb ⟨_, _, b436, (Rd.chP hcr m404 hcn), hcl, (by omega), hcn⟩ 2) ?_
    rintro _ w23 ⟨x541, k540, ⟨i543, h544, b545, r546, l547, p548, n549⟩, rfl, q542⟩
    have m550 := ChG.ext m404 k540 (fun k hk => .inl hk)
    refine pk (vb (x541)) wN h538 ?_
    refine n2 ?_
    rcases bf x541 with h551 | h551
    ·refine cf h551 ?_
     refine wc_skip <| wq_then ?_
     have o577 := (own_ch o406 k540 (ne1 o406 (hgl)))
     have o578 := (own_ch o408 k540 (ne1 o408 (hgl)))
     have o579 := (own_ch o410 k540 (ne1 o410 (hgl)))
     have o580 := (own_ch o412 k540 (ne1 o412 (hgl)))
     have o581 := (own_ch o414 k540 (ne1 o414 (hgl)))
     have o582 := (own_ch o416 k540 (ne1 o416 (hgl)))
     have b583 := (b418.ch k540 (Ne.symm (Nat.ne_of_lt (Nat.lt_of_lt_of_le hgl (Nat.le_trans (z4 k4 k8 k25 k43) p77)))))
     exact wc_join [(4, (vp g1 0)), (5, (vp g76 0))] ⟨rfl, rfl, trivial⟩ fun u => J461 _ _ ⟨((F_spec_ChanNew x_role (x9) (x26)).Next), u, a442, c443, a444, c445, a446, c447, a448, c449, a450, c451, a452, c453, rfl, m550, (ChO.ext (Ch.refl (fun k => k = g ∨ w4.heap.size ≤ k) w22) k540 (fun k hk => .inl hk)), ⟨o577, s407⟩, ⟨o578, s409⟩, ⟨o579, s411⟩, ⟨o580, s413⟩, ⟨o581, s415⟩, ⟨o582, s417⟩, b583, ap419, ap420, ap421, ap422, ap423, ap424, ap425, ap426, ap427, ap428, ap429, ap430, ap431, ap432, ap433, ⟨_, _, b545, (Rd.chP hcr m550 hcn), hcl, (by omega), hcn⟩⟩
    refine ct h551 ?_
    refine wc_region ?_
    refine pu (vp g76 2) wN ?_
    refine pu (vp g76 3) wN ?_
    have b553 := (b418.ch k540 (Ne.symm (Nat.ne_of_lt (Nat.lt_of_lt_of_le hgl (Nat.le_trans (z4 k4 k8 k25 k43) p77)))))
    refine ld (vs a444 ((F_spec_EpNew x244 (derive (((F_spec_ChanNew x_role (x9) (x26)).Cur).Key) (ByteArray.mk ([114, 101, 107, 101, 121] : List UInt8).toArray))).Key).length c445) wN isAgg_22 b553 ?_
    have o554 := (own_ch o408 k540 (ne1 o408 (hgl)))
    refine cl wN (C_spec_Derive w23 _ ((F_spec_EpNew x244 (derive (((F_spec_ChanNew x_role (x9) (x26)).Cur).Key) (ByteArray.mk ([114, 101, 107, 101, 121] : List UInt8).toArray))).Key) (mR_22 (Rd.of_own o554) s409) _ (ByteArray.mk ([114, 101, 107, 101, 121] : List UInt8).toArray) (mR_9) (by first | omega | decide)) ?_
    rintro _ w24 ⟨k555, ⟨a556, c557, rfl, o558, s559, ap561⟩⟩
    have m562 := ChG.extk m550 k555
    have q563 := derive_le ((F_spec_EpNew x244 (derive (((F_spec_ChanNew x_role (x9) (x26)).Cur).Key) (ByteArray.mk ([114, 101, 107, 101, 121] : List UInt8).toArray))).Key) (ByteArray.mk ([114, 101, 107, 101, 121] : List UInt8).toArray)
    refine pu (vp g76 14) wN ?_
    have b564 := (b553.kp k555)
    refine st (vs a556 (derive ((F_spec_EpNew x244 (derive (((F_spec_ChanNew x_role (x9) (x26)).Cur).Key) (ByteArray.mk ([114, 101, 107, 101, 121] : List UInt8).toArray))).Key) (ByteArray.mk ([114, 101, 107, 101, 121] : List UInt8).toArray)).length c557) [(vs a556 (derive ((F_spec_EpNew x244 (derive (((F_spec_ChanNew x_role (x9) (x26)).Cur).Key) (ByteArray.mk ([114, 101, 107, 101, 121] : List UInt8).toArray))).Key) (ByteArray.mk ([114, 101, 107, 101, 121] : List UInt8).toArray)).length c557)] [(vi ((F_spec_ChanNew x_role (x9) (x26)).Role)), (vs a442 (((F_spec_ChanNew x_role (x9) (x26)).Sn)).length c443), (vi ((F_spec_EpNew x244 (derive (((F_spec_ChanNew x_role (x9) (x26)).Cur).Key) (ByteArray.mk ([114, 101, 107, 101, 121] : List UInt8).toArray))).N)), (vs a444 ((F_spec_EpNew x244 (derive (((F_spec_ChanNew x_role (x9) (x26)).Cur).Key) (ByteArray.mk ([114, 101, 107, 101, 121] : List UInt8).toArray))).Key).length c445), (vi ((F_spec_EpNew x244 (derive (((F_spec_ChanNew x_role (x9) (x26)).Cur).Key) (ByteArray.mk ([114, 101, 107, 101, 121] : List UInt8).toArray))).Seq)), (vi (((F_spec_EpNew x244 (derive (((F_spec_ChanNew x_role (x9) (x26)).Cur).Key) (ByteArray.mk ([114, 101, 107, 101, 121] : List UInt8).toArray))).Win).Top)), (vs a446 (((F_spec_EpNew x244 (derive (((F_spec_ChanNew x_role (x9) (x26)).Cur).Key) (ByteArray.mk ([114, 101, 107, 101, 121] : List UInt8).toArray))).Win).Bits).length c447), (vi (((F_spec_EpNew x244 (derive (((F_spec_ChanNew x_role (x9) (x26)).Cur).Key) (ByteArray.mk ([114, 101, 107, 101, 121] : List UInt8).toArray))).N) - 1)), (vs a448 ((((F_spec_ChanNew x_role (x9) (x26)).Cur).Key)).length c449), (vi (x94)), (vi x148), (vs a450 (x149).length c451), (vb true), (vi x441), (vs a556 (derive ((F_spec_EpNew x244 (derive (((F_spec_ChanNew x_role (x9) (x26)).Cur).Key) (ByteArray.mk ([114, 101, 107, 101, 121] : List UInt8).toArray))).Key) (ByteArray.mk ([114, 101, 107, 101, 121] : List UInt8).toArray)).length c557)] wN sizeOf_22 b564 ?_
    intro w25 k565 b566 z567
    have m568 := ChG.ext m562 k565 (fun k hk => .inr (by subst hk; exact Nat.le_trans (z4 k4 k8 k25 k43) p77))
    refine n2 ?_
    have o569 := (own_blk (own_kp (own_ch o406 k540 (ne1 o406 (hgl))) k555) b564 (by decide) k565)
    have o570 := (own_blk (own_kp o554 k555) b564 (by decide) k565)
    have o571 := (own_blk (own_kp (own_ch o410 k540 (ne1 o410 (hgl))) k555) b564 (by decide) k565)
    have o572 := (own_blk (own_kp (own_ch o412 k540 (ne1 o412 (hgl))) k555) b564 (by decide) k565)
    have o573 := (own_blk (own_kp (own_ch o414 k540 (ne1 o414 (hgl))) k555) b564 (by decide) k565)
    have o574 := (own_ch o558 k565 (ne1 o558 (Nat.lt_of_lt_of_le p78 (t7 (z12 k82 k88 k93 k105 k112 k168 k182 k186 k329 k347 k356 k371) k375.size k381.size k386.size k398.size k405.size k540.size))))
    have b575 := ((b545.kp k555).ch k565 (Nat.ne_of_lt (Nat.lt_of_lt_of_le hgl (Nat.le_trans (z4 k4 k8 k25 k43) p77))))
    exact wc_join [(4, (vp g1 0)), (5, (vp g76 0))] ⟨rfl, rfl, trivial⟩ fun u => J461 _ _ ⟨(derive ((F_spec_EpNew x244 (derive (((F_spec_ChanNew x_role (x9) (x26)).Cur).Key) (ByteArray.mk ([114, 101, 107, 101, 121] : List UInt8).toArray))).Key) (ByteArray.mk ([114, 101, 107, 101, 121] : List UInt8).toArray)), u, a442, c443, a444, c445, a446, c447, a448, c449, a450, c451, a556, c557, rfl, m568, (ChO.ext (ChO.extk (ChO.ext (Ch.refl (fun k => k = g ∨ w4.heap.size ≤ k) w22) k540 (fun k hk => .inl hk)) k555) k565 (fun k hk => .inr (by subst hk; exact p77))), ⟨o569, s407⟩, ⟨o570, s409⟩, ⟨o571, s411⟩, ⟨o572, s413⟩, ⟨o573, s415⟩, ⟨(own_lo o574 (t12 (z12 k4 k8 k25 k43 k79 k82 k88 k93 k105 k112 k168 k182) k186.size k329.size k347.size k356.size k371.size k375.size k381.size k386.size k398.size k405.size k540.size)), s559⟩, b566, ap419, ap420, ap421, ap422, (Ap.lt o406 o558 k540.size), ap424, ap425, ap426, (Ap.lt o408 o558 k540.size), ap428, ap429, (Ap.lt o410 o558 k540.size), ap431, (Ap.lt o412 o558 k540.size), (Ap.lt o414 o558 k540.size), ⟨_, _, b575, (Rd.chP hcr m568 hcn), hcl, (by omega), hcn⟩⟩
   refine mw (vi x_role) ?_
   refine pu (vb (decide (x_role = 0))) wN ?_
   refine mw (vb (decide (x_role = 0))) ?_
   rcases bf (decide (x_role = 0)) with h586 | h586
   ·have q611 := of_decide_eq_false h586
    iterate 3 refine sk h586 ?_
    refine pf (vb false) wN h586 ?_
    refine n2 ?_
    refine cf (Eq.refl false) ?_
    refine wc_skip <| wq_then ?_
    have o612 := (own_blk (own_ch (own_kp (own_blk (own_blk (own_kp (own_kp (own_ch (own_blk (own_blk (own_ch o113 k168 (ne1 o113 (hgl))) b181 (by decide) k182) b183 (by decide) k186) k329 (ne1 o113 (hgl))) k347) k356) b370 (by decide) k371) b372 (by decide) k375) k381) k386 (ne1 o113 (hgl))) b397 (by decide) k398)
    have zz3 := Nat.lt_of_lt_of_le p78 (z10 k82 k88 k93 k105 k112 k168 k182 k186 k329 k347)
    have t613 := fun (E sz n : Nat) (v : Value) (xs : List Value) (o : World.ownsRow w16 w15.heap.size E sz v n xs) (o0 : World.ownsRow w16 w15.heap.size E sz v n xs) => (own_ch (own_ch (own_kp (own_ch (own_ch o k371 (ne1 o0 zz3)) k375 (ne1 o0 zz3)) k381) k386 (ne1 o0 (Nat.lt_of_lt_of_le hgl (t4 (z12 k4 k8 k25 k43 k79 k82 k88 k93 k105 k112 k168 k182) k186.size k329.size k347.size)))) k398 (ne1 o0 zz3))
    have o614 := (t613 _ _ _ _ _ o359 o359)
    have o615 := (t613 _ _ _ _ _ o364 o364)
    have o616 := (own_blk (own_ch (own_kp (own_blk (own_blk (own_kp (own_kp o346 k347) k356) b370 (by decide) k371) b372 (by decide) k375) k381) k386 (ne1 o115 (hgl))) b397 (by decide) k398)
    have o617 := (own_blk (own_ch (own_kp (own_blk (own_blk (own_kp (own_kp (own_ch (own_blk (own_blk (own_ch o117 k168 (ne1 o117 (hgl))) b181 (by decide) k182) b183 (by decide) k186) k329 (ne1 o117 (hgl))) k347) k356) b370 (by decide) k371) b372 (by decide) k375) k381) k386 (ne1 o117 (hgl))) b397 (by decide) k398)
    have o618 := (own_blk (own_ch (own_kp (own_blk (own_blk (own_kp (own_kp (own_ch (own_blk (own_blk (own_ch o123 k168 (ne1 o123 (hgl))) b181 (by decide) k182) b183 (by decide) k186) k329 (ne1 o123 (hgl))) k347) k356) b370 (by decide) k371) b372 (by decide) k375) k381) k386 (ne1 o123 (hgl))) b397 (by decide) k398)
    have b619 := (b391.ch k398 (Nat.ne_of_lt (Nat.lt_of_lt_of_le hgl (Nat.le_trans (z4 k4 k8 k25 k43) p77))))
    have zz4 := z5 k168 k182 k186 k329 k347
    exact wc_join [(0, (vp g 0)), (1, (vi x_role)), (4, (vp g1 0)), (5, (vp g76 0))] ⟨rfl, rfl, rfl, rfl, trivial⟩ fun u => J403 _ _ ⟨(x387), u, a150, c151, a357, c358, a362, c363, a152, c153, a154, c155, a160, c161, rfl, m401, (Ch.refl (fun k => k = g ∨ w4.heap.size ≤ k) w21), ⟨o612, s114⟩, ⟨(own_lo o614 (t4 (z12 k4 k8 k25 k43 k79 k82 k88 k93 k105 k112 k168 k182) k186.size k329.size k347.size)), s360⟩, ⟨(own_lo o615 (t4 (z12 k4 k8 k25 k43 k79 k82 k88 k93 k105 k112 k168 k182) k186.size k329.size k347.size)), s365⟩, ⟨o616, s116⟩, ⟨o617, s118⟩, ⟨o618, s124⟩, b399, (Ap.lt o113 o359 zz4), (Ap.lt o113 o364 zz4), ap126, ap127, ap130, (ap367.1.1), (Ap.lt o115 o359 zz4).symm, (Ap.lt o117 o359 zz4).symm, (Ap.lt o123 o359 zz4).symm, (Ap.lt o115 o364 zz4).symm, (Ap.lt o117 o364 zz4).symm, (Ap.lt o123 o364 zz4).symm, ap131, ap134, ap137, ⟨_, _, b619, (Rd.chP hcr m401 hcn), hcl, (by omega), hcn⟩⟩
   have q587 := of_decide_eq_true h586
   refine pu (vp g76 13) (wS h586) ?_
   refine ld (vi (x387)) (wS h586) isAgg_3 b399 ?_
   refine pu (vb (decide ((x387) < 0))) (wS h586) ?_
   refine pk (vb (decide ((x387) < 0))) wN h586 ?_
   refine n2 ?_
   rcases bf (decide ((x387) < 0)) with h588 | h588
   ·have q602 := of_decide_eq_false h588
    refine cf h588 ?_
    refine wc_skip <| wq_then ?_
    have o603 := (own_blk (own_ch (own_kp (own_blk (own_blk (own_kp (own_kp (own_ch (own_blk (own_blk (own_ch o113 k168 (ne1 o113 (hgl))) b181 (by decide) k182) b183 (by decide) k186) k329 (ne1 o113 (hgl))) k347) k356) b370 (by decide) k371) b372 (by decide) k375) k381) k386 (ne1 o113 (hgl))) b397 (by decide) k398)
    have zz5 := Nat.lt_of_lt_of_le p78 (z10 k82 k88 k93 k105 k112 k168 k182 k186 k329 k347)
    have t604 := fun (E sz n : Nat) (v : Value) (xs : List Value) (o : World.ownsRow w16 w15.heap.size E sz v n xs) (o0 : World.ownsRow w16 w15.heap.size E sz v n xs) => (own_ch (own_ch (own_kp (own_ch (own_ch o k371 (ne1 o0 zz5)) k375 (ne1 o0 zz5)) k381) k386 (ne1 o0 (Nat.lt_of_lt_of_le hgl (t4 (z12 k4 k8 k25 k43 k79 k82 k88 k93 k105 k112 k168 k182) k186.size k329.size k347.size)))) k398 (ne1 o0 zz5))
    have o605 := (t604 _ _ _ _ _ o359 o359)
    have o606 := (t604 _ _ _ _ _ o364 o364)
    have o607 := (own_blk (own_ch (own_kp (own_blk (own_blk (own_kp (own_kp o346 k347) k356) b370 (by decide) k371) b372 (by decide) k375) k381) k386 (ne1 o115 (hgl))) b397 (by decide) k398)
    have o608 := (own_blk (own_ch (own_kp (own_blk (own_blk (own_kp (own_kp (own_ch (own_blk (own_blk (own_ch o117 k168 (ne1 o117 (hgl))) b181 (by decide) k182) b183 (by decide) k186) k329 (ne1 o117 (hgl))) k347) k356) b370 (by decide) k371) b372 (by decide) k375) k381) k386 (ne1 o117 (hgl))) b397 (by decide) k398)
    have o609 := (own_blk (own_ch (own_kp (own_blk (own_blk (own_kp (own_kp (own_ch (own_blk (own_blk (own_ch o123 k168 (ne1 o123 (hgl))) b181 (by decide) k182) b183 (by decide) k186) k329 (ne1 o123 (hgl))) k347) k356) b370 (by decide) k371) b372 (by decide) k375) k381) k386 (ne1 o123 (hgl))) b397 (by decide) k398)
    have b610 := (b391.ch k398 (Nat.ne_of_lt (Nat.lt_of_lt_of_le hgl (Nat.le_trans (z4 k4 k8 k25 k43) p77))))
    have zz6 := z5 k168 k182 k186 k329 k347
    exact wc_join [(0, (vp g 0)), (1, (vi x_role)), (4, (vp g1 0)), (5, (vp g76 0))] ⟨rfl, rfl, rfl, rfl, trivial⟩ fun u => J403 _ _ ⟨(x387), u, a150, c151, a357, c358, a362, c363, a152, c153, a154, c155, a160, c161, rfl, m401, (Ch.refl (fun k => k = g ∨ w4.heap.size ≤ k) w21), ⟨o603, s114⟩, ⟨(own_lo o605 (t4 (z12 k4 k8 k25 k43 k79 k82 k88 k93 k105 k112 k168 k182) k186.size k329.size k347.size)), s360⟩, ⟨(own_lo o606 (t4 (z12 k4 k8 k25 k43 k79 k82 k88 k93 k105 k112 k168 k182) k186.size k329.size k347.size)), s365⟩, ⟨o607, s116⟩, ⟨o608, s118⟩, ⟨o609, s124⟩, b399, (Ap.lt o113 o359 zz6), (Ap.lt o113 o364 zz6), ap126, ap127, ap130, (ap367.1.1), (Ap.lt o115 o359 zz6).symm, (Ap.lt o117 o359 zz6).symm, (Ap.lt o123 o359 zz6).symm, (Ap.lt o115 o364 zz6).symm, (Ap.lt o117 o364 zz6).symm, (Ap.lt o123 o364 zz6).symm, ap131, ap134, ap137, ⟨_, _, b610, (Rd.chP hcr m401 hcn), hcl, (by omega), hcn⟩⟩
   have q589 := of_decide_eq_true h588
   refine ct h588 ?_
   refine wc_region ?_
   refine pu (vp g76 13) wN ?_
   refine st (vi 5) [(vi 5)] [(vi ((F_spec_ChanNew x_role (x9) (x26)).Role)), (vs a150 ((F_spec_ChanNew x_role (x9) (x26)).Sn).length c151), (vi ((F_spec_EpNew x244 (derive (((F_spec_ChanNew x_role (x9) (x26)).Cur).Key) (ByteArray.mk ([114, 101, 107, 101, 121] : List UInt8).toArray))).N)), (vs a357 ((F_spec_EpNew x244 (derive (((F_spec_ChanNew x_role (x9) (x26)).Cur).Key) (ByteArray.mk ([114, 101, 107, 101, 121] : List UInt8).toArray))).Key).length c358), (vi ((F_spec_EpNew x244 (derive (((F_spec_ChanNew x_role (x9) (x26)).Cur).Key) (ByteArray.mk ([114, 101, 107, 101, 121] : List UInt8).toArray))).Seq)), (vi (((F_spec_EpNew x244 (derive (((F_spec_ChanNew x_role (x9) (x26)).Cur).Key) (ByteArray.mk ([114, 101, 107, 101, 121] : List UInt8).toArray))).Win).Top)), (vs a362 (((F_spec_EpNew x244 (derive (((F_spec_ChanNew x_role (x9) (x26)).Cur).Key) (ByteArray.mk ([114, 101, 107, 101, 121] : List UInt8).toArray))).Win).Bits).length c363), (vi (((F_spec_EpNew x244 (derive (((F_spec_ChanNew x_role (x9) (x26)).Cur).Key) (ByteArray.mk ([114, 101, 107, 101, 121] : List UInt8).toArray))).N) - 1)), (vs a152 (((F_spec_ChanNew x_role (x9) (x26)).Cur).Key).length c153), (vi (x94)), (vi x148), (vs a154 (x149).length c155), (vb true), (vi 5), (vs a160 ((F_spec_ChanNew x_role (x9) (x26)).Next).length c161)] wN sizeOf_3 b399 ?_
   intro w22 k590 b591 z592
   have m593 := ChG.ext m401 k590 (fun k hk => .inr (by subst hk; exact Nat.le_trans (z4 k4 k8 k25 k43) p77))
   refine n2 ?_
   have o594 := (own_blk (own_blk (own_ch (own_kp (own_blk (own_blk (own_kp (own_kp (own_ch (own_blk (own_blk (own_ch o113 k168 (ne1 o113 (hgl))) b181 (by decide) k182) b183 (by decide) k186) k329 (ne1 o113 (hgl))) k347) k356) b370 (by decide) k371) b372 (by decide) k375) k381) k386 (ne1 o113 (hgl))) b397 (by decide) k398) b399 (by decide) k590)
   have zz7 := Nat.lt_of_lt_of_le p78 (z10 k82 k88 k93 k105 k112 k168 k182 k186 k329 k347)
   have t595 := fun (E sz n : Nat) (v : Value) (xs : List Value) (o : World.ownsRow w16 w15.heap.size E sz v n xs) (o0 : World.ownsRow w16 w15.heap.size E sz v n xs) => (own_ch (own_ch (own_ch (own_kp (own_ch (own_ch o k371 (ne1 o0 zz7)) k375 (ne1 o0 zz7)) k381) k386 (ne1 o0 (Nat.lt_of_lt_of_le hgl (t4 (z12 k4 k8 k25 k43 k79 k82 k88 k93 k105 k112 k168 k182) k186.size k329.size k347.size)))) k398 (ne1 o0 zz7)) k590 (ne1 o0 zz7))
   have o596 := (t595 _ _ _ _ _ o359 o359)
   have o597 := (t595 _ _ _ _ _ o364 o364)
   have o598 := (own_blk (own_blk (own_ch (own_kp (own_blk (own_blk (own_kp (own_kp o346 k347) k356) b370 (by decide) k371) b372 (by decide) k375) k381) k386 (ne1 o115 (hgl))) b397 (by decide) k398) b399 (by decide) k590)
   have o599 := (own_blk (own_blk (own_ch (own_kp (own_blk (own_blk (own_kp (own_kp (own_ch (own_blk (own_blk (own_ch o117 k168 (ne1 o117 (hgl))) b181 (by decide) k182) b183 (by decide) k186) k329 (ne1 o117 (hgl))) k347) k356) b370 (by decide) k371) b372 (by decide) k375) k381) k386 (ne1 o117 (hgl))) b397 (by decide) k398) b399 (by decide) k590)
   have o600 := (own_blk (own_blk (own_ch (own_kp (own_blk (own_blk (own_kp (own_kp (own_ch (own_blk (own_blk (own_ch o123 k168 (ne1 o123 (hgl))) b181 (by decide) k182) b183 (by decide) k186) k329 (ne1 o123 (hgl))) k347) k356) b370 (by decide) k371) b372 (by decide) k375) k381) k386 (ne1 o123 (hgl))) b397 (by decide) k398) b399 (by decide) k590)
   have b601 := ((b391.ch k398 (Nat.ne_of_lt (Nat.lt_of_lt_of_le hgl (Nat.le_trans (z4 k4 k8 k25 k43) p77)))).ch k590 (Nat.ne_of_lt (Nat.lt_of_lt_of_le hgl (Nat.le_trans (z4 k4 k8 k25 k43) p77))))
   have zz8 := z5 k168 k182 k186 k329 k347
   exact wc_join [(0, (vp g 0)), (1, (vi x_role)), (4, (vp g1 0)), (5, (vp g76 0))] ⟨rfl, rfl, rfl, rfl, trivial⟩ fun u => J403 _ _ ⟨5, u, a150, c151, a357, c358, a362, c363, a152, c153, a154, c155, a160, c161, rfl, m593, (ChO.ext (Ch.refl (fun k => k = g ∨ w4.heap.size ≤ k) w21) k590 (fun k hk => .inr (by subst hk; exact p77))), ⟨o594, s114⟩, ⟨(own_lo o596 (t4 (z12 k4 k8 k25 k43 k79 k82 k88 k93 k105 k112 k168 k182) k186.size k329.size k347.size)), s360⟩, ⟨(own_lo o597 (t4 (z12 k4 k8 k25 k43 k79 k82 k88 k93 k105 k112 k168 k182) k186.size k329.size k347.size)), s365⟩, ⟨o598, s116⟩, ⟨o599, s118⟩, ⟨o600, s124⟩, b591, (Ap.lt o113 o359 zz8), (Ap.lt o113 o364 zz8), ap126, ap127, ap130, (ap367.1.1), (Ap.lt o115 o359 zz8).symm, (Ap.lt o117 o359 zz8).symm, (Ap.lt o123 o359 zz8).symm, (Ap.lt o115 o364 zz8).symm, (Ap.lt o117 o364 zz8).symm, (Ap.lt o123 o364 zz8).symm, ap131, ap134, ap137, ⟨_, _, b601, (Rd.chP hcr m593 hcn), hcl, (by omega), hcn⟩⟩
 refine mw (vp g 0) ?_
 have b761 := (b98.ch k105 (Nat.ne_of_lt (Nat.lt_of_lt_of_le hgl (Nat.le_trans (z4 k4 k8 k25 k43) p77))))
 refine cl wN (C_spec_l1Once w9 g ca cc cb ⟨_, _, b761, (Rd.chP hcr m108 hcn), hcl, (by omega), hcn⟩ 3) ?_
 rintro _ w10 ⟨x763, k762, ⟨i765, h766, b767, r768, l769, p770, n771⟩, rfl, q764⟩
 have m772 := ChG.ext m108 k762 (fun k hk => .inl hk)
 refine n2 ?_
 rcases bf x763 with h773 | h773
 ·refine cf h773 ?_
  refine wc_skip <| wq_then ?_
  have t806 := fun (E sz n : Nat) (v : Value) (xs : List Value) (o : World.ownsRow w4 w3.heap.size E sz v n xs) (o0 : World.ownsRow w4 w3.heap.size E sz v n xs) => (own_ch (own_ch (own_ch (own_kp (own_ch (own_kp o k79) k82 (ne2 o0 (p77))) k88) k93 (ne1 o0 (Nat.lt_of_lt_of_le hgl (z3 k4 k8 k25)))) k105 (ne2 o0 (p77))) k762 (ne1 o0 (Nat.lt_of_lt_of_le hgl (z3 k4 k8 k25))))
  have o807 := (t806 _ _ _ _ _ o46 o46)
  have o808 := (t806 _ _ _ _ _ o51 o51)
  have o809 := (t806 _ _ _ _ _ o56 o56)
  have o810 := (t806 _ _ _ _ _ o61 o61)
  have o811 := (t806 _ _ _ _ _ o66 o66)
  have o812 := (t806 _ _ _ _ _ o71 o71)
  have b813 := (b106.ch k762 (Ne.symm (Nat.ne_of_lt (Nat.lt_of_lt_of_le hgl (Nat.le_trans (z4 k4 k8 k25 k43) p77)))))
  exact wc_join [(0, (vp g 0)), (1, (vi x_role)), (4, (vp g1 0)), (5, (vp g76 0))] ⟨rfl, rfl, rfl, rfl, trivial⟩ fun u => J110 _ _ ⟨(((F_spec_ChanNew x_role (x9) (x26)).Cur).Win).Top, (((F_spec_ChanNew x_role (x9) (x26)).Cur).Win).Bits, u, a44, c45, a49, c50, a54, c55, a59, c60, a64, c65, a69, c70, rfl, m772, (ChO.ext (Ch.refl (fun k => k = g ∨ w4.heap.size ≤ k) w9) k762 (fun k hk => .inl hk)), ⟨(own_lo o807 (z3 k4 k8 k25)), s47⟩, ⟨(own_lo o808 (z3 k4 k8 k25)), s52⟩, ⟨(own_lo o809 (z3 k4 k8 k25)), s57⟩, ⟨(own_lo o810 (z3 k4 k8 k25)), s62⟩, ⟨(own_lo o811 (z3 k4 k8 k25)), s67⟩, ⟨(own_lo o812 (z3 k4 k8 k25)), s72⟩, b813, (ap74.1.1), (ap74.1.2.1), (ap74.1.2.2.1), (ap74.1.2.2.2.1), (ap74.1.2.2.2.2.1), (ap74.2.1.1), (ap74.2.1.2.1), (ap74.2.1.2.2.1), (ap74.2.1.2.2.2.1), (ap74.2.2.1.1), (ap74.2.2.1.2.1), (ap74.2.2.1.2.2.1), (ap74.2.2.2.1.1), (ap74.2.2.2.1.2.1), (ap74.2.2.2.2.1.1), ⟨_, _, b767, (Rd.chP hcr m772 hcn), hcl, (by omega), hcn⟩⟩
 refine ct h773 ?_
 refine wc_region ?_
 refine mw (vp g 0) ?_
 refine cl wN (C_spec_l8Draw w10 g ca cc cb ⟨_, _, b767, (Rd.chP hcr m772 hcn), hcl, (by omega), hcn⟩) ?_
 rintro _ w11 ⟨x776, k775, ⟨i784, h785, b786, r787, l788, p789, n790⟩, ⟨a778, c779, rfl, o780, s781, ap783⟩, q777⟩
 have m791 := ChG.ext m772 k775 (fun k hk => .inl hk)
 refine pu (vp g76 2) wN ?_
 refine pu (vp g76 5) wN ?_
 have b792 := ((b106.ch k762 (Ne.symm (Nat.ne_of_lt (Nat.lt_of_lt_of_le hgl (Nat.le_trans (z4 k4 k8 k25 k43) p77))))).ch k775 (Ne.symm (Nat.ne_of_lt (Nat.lt_of_lt_of_le hgl (Nat.le_trans (z4 k4 k8 k25 k43) p77)))))
 refine st (va (L_58 (x776) a778 c779)) (L_58 (x776) a778 c779) [(vi ((F_spec_ChanNew x_role (x9) (x26)).Role)), (vs a44 ((F_spec_ChanNew x_role (x9) (x26)).Sn).length c45), (vi (((F_spec_ChanNew x_role (x9) (x26)).Cur).N)), (vs a49 (((F_spec_ChanNew x_role (x9) (x26)).Cur).Key).length c50), (vi (x94)), (vi ((x776).Top)), (vs a778 ((x776).Bits).length c779), (vi (((F_spec_ChanNew x_role (x9) (x26)).Old).N)), (vs a59 (((F_spec_ChanNew x_role (x9) (x26)).Old).Key).length c60), (vi (((F_spec_ChanNew x_role (x9) (x26)).Old).Seq)), (vi ((((F_spec_ChanNew x_role (x9) (x26)).Old).Win).Top)), (vs a64 ((((F_spec_ChanNew x_role (x9) (x26)).Old).Win).Bits).length c65), (vb ((F_spec_ChanNew x_role (x9) (x26)).HasOld)), (vi ((F_spec_ChanNew x_role (x9) (x26)).Until)), (vs a69 ((F_spec_ChanNew x_role (x9) (x26)).Next).length c70)] wN sizeOf_58 b792 ?_
 intro w12 k793 b794 z795
 have m796 := ChG.ext m791 k793 (fun k hk => .inr (by subst hk; exact Nat.le_trans (z4 k4 k8 k25 k43) p77))
 refine n2 ?_
 have t797 := fun (E sz n : Nat) (v : Value) (xs : List Value) (o : World.ownsRow w4 w3.heap.size E sz v n xs) (o0 : World.ownsRow w4 w3.heap.size E sz v n xs) => (own_ch (own_ch (own_ch (own_ch (own_ch (own_kp (own_ch (own_kp o k79) k82 (ne2 o0 (p77))) k88) k93 (ne1 o0 (Nat.lt_of_lt_of_le hgl (z3 k4 k8 k25)))) k105 (ne2 o0 (p77))) k762 (ne1 o0 (Nat.lt_of_lt_of_le hgl (z3 k4 k8 k25)))) k775 (ne1 o0 (Nat.lt_of_lt_of_le hgl (z3 k4 k8 k25)))) k793 (ne2 o0 (p77)))
 have o798 := (t797 _ _ _ _ _ o46 o46)
 have o799 := (t797 _ _ _ _ _ o51 o51)
 have o800 := (own_ch o780 k793 (ne1 o780 (Nat.lt_of_lt_of_le p78 (z5 k82 k88 k93 k105 k762))))
 have o801 := (t797 _ _ _ _ _ o61 o61)
 have o802 := (t797 _ _ _ _ _ o66 o66)
 have o803 := (t797 _ _ _ _ _ o71 o71)
 have b804 := (b786.ch k793 (Nat.ne_of_lt (Nat.lt_of_lt_of_le hgl (Nat.le_trans (z4 k4 k8 k25 k43) p77))))
 have zz9 := z6 k79 k82 k88 k93 k105 k762
 exact wc_join [(0, (vp g 0)), (1, (vi x_role)), (4, (vp g1 0)), (5, (vp g76 0))] ⟨rfl, rfl, rfl, rfl, trivial⟩ fun u => J110 _ _ ⟨(x776).Top, (x776).Bits, u, a44, c45, a49, c50, a778, c779, a59, c60, a64, c65, a69, c70, rfl, m796, (ChO.ext (ChO.ext (ChO.ext (Ch.refl (fun k => k = g ∨ w4.heap.size ≤ k) w9) k762 (fun k hk => .inl hk)) k775 (fun k hk => .inl hk)) k793 (fun k hk => .inr (by subst hk; exact p77))), ⟨(own_lo o798 (z3 k4 k8 k25)), s47⟩, ⟨(own_lo o799 (z3 k4 k8 k25)), s52⟩, ⟨(own_lo o800 (z10 k4 k8 k25 k43 k79 k82 k88 k93 k105 k762)), s781⟩, ⟨(own_lo o801 (z3 k4 k8 k25)), s62⟩, ⟨(own_lo o802 (z3 k4 k8 k25)), s67⟩, ⟨(own_lo o803 (z3 k4 k8 k25)), s72⟩, b794, (ap74.1.1), (Ap.lt o46 o780 zz9), (ap74.1.2.2.1), (ap74.1.2.2.2.1), (ap74.1.2.2.2.2.1), (Ap.lt o51 o780 zz9), (ap74.2.1.2.1), (ap74.2.1.2.2.1), (ap74.2.1.2.2.2.1), (Ap.lt o61 o780 zz9).symm, (Ap.lt o66 o780 zz9).symm, (Ap.lt o71 o780 zz9).symm, (ap74.2.2.2.1.1), (ap74.2.2.2.1.2.1), (ap74.2.2.2.2.1.1), ⟨_, _, b804, (Rd.chP hcr m796 hcn), hcl, (by omega), hcn⟩⟩

theorem C_spec_l9Ep (w0 : World) (g : Nat) (ca : Option Addr) (cc : Nat) (cb : List UInt8) (r_c : CurX w0 g 111 ca cc cb)  : Fn Try.prog 119 #[(vp g 0)] w0 (fun v w' => ∃ x : (PEp), Ch (fun k => k = g) w0 w' ∧ CurX w' g 111 ca cc cb ∧ O_60 w' w0.heap.size v x ∧ (True)) := by
 obtain ⟨ci, chh, hcb, hcr, hcl, hci, hcn⟩ := r_c
 have hgl := Blk.lt hcb
 refine fn_ofS (n := 20) [(vp g 0)] Try.func119 rfl rfl ?_
 refine sr ?_
 refine al Z_60 wN zero_60 ?_
 intro g1 w1 p2 p3 k4 b5
 have m6 := ChG.extk (Ch.refl (fun k => k = g) w0) k4
 refine nx ?_
 refine mw (vp g 0) ?_
 refine ltI ([0, 0, 1, 2, 4294967295] : List Int) wN slTy_56 ?_
 intro a7 c8 w2 k9 o10
 have m11 := ChG.extk m6 k9
 have b13 := ((hcb.kp k4).kp k9)
 refine cl wN (C_spec_l1Int w2 g ca cc cb ⟨_, _, b13, (Rd.chP hcr m11 hcn), hcl, (by omega), hcn⟩ _ ([0, 0, 1, 2, 4294967295] : List Int) ⟨_, _, rfl, (Rd.of_own o10), (by simp), (fun _ z hz => by have h1 := (own_lt o10 z.block (by rw [hz]; rfl)).1; have h2 := Nat.lt_of_lt_of_le hgl k4.size; omega)⟩ (by simp)) ?_
 rintro _ w3 ⟨x15, k14, ⟨i17, h18, b19, r20, l21, p22, n23⟩, rfl, q16⟩
 have m24 := ChG.ext m11 k14 (fun k hk => .inl hk)
 have q16m : x15 = 0 ∨ x15 = 0 ∨ x15 = 1 ∨ x15 = 2 ∨ x15 = 4294967295 := by simpa only [List.mem_cons, List.not_mem_nil, or_false] using q16
 refine mw (vp g 0) ?_
 refine cl wN (C_spec_l1Bytes w3 g ca cc cb ⟨_, _, b19, (Rd.chP hcr m24 hcn), hcl, (by omega), hcn⟩ 32 (by omega)) ?_
 rintro _ w4 ⟨x26, k25, ⟨i34, h35, b36, r37, l38, p39, n40⟩, ⟨a28, c29, rfl, o30, s31, ap33⟩, q27⟩
 have m41 := ChG.ext m24 k25 (fun k hk => .inl hk)
 refine cl wN (C_spec_EpNew w4 (x15) _ (x26) (mR_22 (Rd.of_own o30) s31)) ?_
 rintro _ w5 ⟨k42, ⟨a43, c44, a48, c49, rfl, o45, s46, o50, s51, ap53⟩⟩
 have m54 := ChG.extk m41 k42
 refine al Z_60 wN zero_60 ?_
 intro g55 w6 p56 p57 k58 b59
 have m60 := ChG.extk m54 k58
 refine st (va (L_60 (F_spec_EpNew (x15) (x26)) a43 c44 a48 c49)) (L_60 (F_spec_EpNew (x15) (x26)) a43 c44 a48 c49) (L_60 (F_spec_EpNew (x15) (x26)) a43 c44 a48 c49) wN sizeOf_60 b59 ?_
 intro w7 k61 b62 z63
 have m64 := ChG.ext m60 k61 (fun k hk => .inr (by subst hk; exact Nat.le_trans (z5 k4 k9 k14 k25 k42) p56))
 refine nx ?_
 refine mw (vp g 0) ?_
 refine ltI ([0, 0, 1, 5, 281474976709655, 281474976709656, 281474976710655, 281474976710656] : List Int) wN slTy_56 ?_
 intro a65 c66 w8 k67 o68
 have m69 := ChG.extk m64 k67
 have b71 := ((((b36.kp k42).kp k58).ch k61 (Nat.ne_of_lt (Nat.lt_of_lt_of_le hgl (Nat.le_trans (z5 k4 k9 k14 k25 k42) p56)))).kp k67)
 refine cl wN (C_spec_l1Int w8 g ca cc cb ⟨_, _, b71, (Rd.chP hcr m69 hcn), hcl, (by omega), hcn⟩ _ ([0, 0, 1, 5, 281474976709655, 281474976709656, 281474976710655, 281474976710656] : List Int) ⟨_, _, rfl, (Rd.of_own o68), (by simp), (fun _ z hz => by have h1 := (own_lt o68 z.block (by rw [hz]; rfl)).1; have h2 := Nat.lt_of_lt_of_le hgl (z7 k4 k9 k14 k25 k42 k58 k61); omega)⟩ (by simp)) ?_
 rintro _ w9 ⟨x73, k72, ⟨i75, h76, b77, r78, l79, p80, n81⟩, rfl, q74⟩
 have m82 := ChG.ext m69 k72 (fun k hk => .inl hk)
 have q74m : x73 = 0 ∨ x73 = 0 ∨ x73 = 1 ∨ x73 = 5 ∨ x73 = 281474976709655 ∨ x73 = 281474976709656 ∨ x73 = 281474976710655 ∨ x73 = 281474976710656 := by simpa only [List.mem_cons, List.not_mem_nil, or_false] using q74
 refine pu (vp g55 2) wN ?_
 have b83 := ((b62.kp k67).ch k72 (Ne.symm (Nat.ne_of_lt (Nat.lt_of_lt_of_le hgl (Nat.le_trans (z5 k4 k9 k14 k25 k42) p56)))))
 refine st (vi (x73)) [(vi (x73))] [(vi ((F_spec_EpNew (x15) (x26)).N)), (vs a43 ((F_spec_EpNew (x15) (x26)).Key).length c44), (vi (x73)), (vi (((F_spec_EpNew (x15) (x26)).Win).Top)), (vs a48 (((F_spec_EpNew (x15) (x26)).Win).Bits).length c49)] wN sizeOf_3 b83 ?_
 intro w10 k84 b85 z86
 have m87 := ChG.ext m82 k84 (fun k hk => .inr (by subst hk; exact Nat.le_trans (z5 k4 k9 k14 k25 k42) p56))
 refine n4 ?_
 refine jM1 (fun e' w' => ∃ (t3c : Int) (l4x : List Int) (u88 : Env) (a1x : Option Addr) (c1x : Nat) (a4x : Option Addr) (c4x : Nat), e' = pt u88 [(2, (vp g1 0)), (3, (vp g55 0))] ∧ Ch (fun k => k = g) w0 w' ∧ Ch (fun k => k = g ∨ w5.heap.size ≤ k) w10 w' ∧ (World.ownsRow w' w0.heap.size 5 1 (.slice a1x ((F_spec_EpNew (x15) (x26)).Key).length c1x) ((F_spec_EpNew (x15) (x26)).Key).length (((F_spec_EpNew (x15) (x26)).Key).map bV) ∧ ((F_spec_EpNew (x15) (x26)).Key).length ≤ 1073741824) ∧ (World.ownsRow w' w0.heap.size 3 1 (.slice a4x (l4x).length c4x) (l4x).length ((l4x).map iV) ∧ (l4x).length ≤ 1073741824) ∧ Blk w' g55 60 [(vi ((F_spec_EpNew (x15) (x26)).N)), (.slice a1x ((F_spec_EpNew (x15) (x26)).Key).length c1x), (vi (x73)), (vi t3c), (.slice a4x (l4x).length c4x)] ∧ Ap (a1x, c1x) (a4x, c4x) ∧ CurX w' g 111 ca cc cb) ?_ fun J89 => ?_
 ·rintro _ w11 ⟨x105, x106, u88, a107, c108, a109, c110, rfl, m90, k91, ⟨o92, s93⟩, ⟨o94, s95⟩, b96, ap97, ⟨i98, h99, b100, r101, l102, p103, n104⟩⟩
  refine sr ?_
  refine lN [(vi ((F_spec_EpNew (x15) (x26)).N)), (vs a107 ((F_spec_EpNew (x15) (x26)).Key).length c108), (vi (x73)), (vi x105), (vs a109 (x106).length c110)] wN isAgg_60 sizeOf_60 b96 ?_
  have b113 := ((((((((((b5.kp k9).ch k14 (Ne.symm (Nat.ne_of_lt (Nat.lt_of_lt_of_le hgl (p2))))).ch k25 (Ne.symm (Nat.ne_of_lt (Nat.lt_of_lt_of_le hgl (p2))))).kp k42).kp k58).ch k61 (Nat.ne_of_lt (Nat.lt_of_lt_of_le p3 (Nat.le_trans (z4 k9 k14 k25 k42) p56)))).kp k67).ch k72 (Ne.symm (Nat.ne_of_lt (Nat.lt_of_lt_of_le hgl (p2))))).ch k84 (Nat.ne_of_lt (Nat.lt_of_lt_of_le p3 (Nat.le_trans (z4 k9 k14 k25 k42) p56)))).ch k91 (fun h => Or.elim h (Ne.symm (Nat.ne_of_lt (Nat.lt_of_lt_of_le hgl (p2)))) (Nat.not_le.2 (Nat.lt_of_lt_of_le p3 (z4 k9 k14 k25 k42)))))
  refine sv [(vi ((F_spec_EpNew (x15) (x26)).N)), (vs a107 ((F_spec_EpNew (x15) (x26)).Key).length c108), (vi (x73)), (vi x105), (vs a109 (x106).length c110)] wN sizeOf_60 b113 ?_
  intro w12 k114 b115 z116
  have m117 := ChG.ext m90 k114 (fun k hk => .inr (by subst hk; exact p2))
  refine n3 ?_
  have o118 := (own_blk o92 b113 (by decide) k114)
  have o119 := (own_blk o94 b113 (by decide) k114)
  refine ret_1 (.inl rfl) (va [(vi ((F_spec_EpNew (x15) (x26)).N)), (vs a107 ((F_spec_EpNew (x15) (x26)).Key).length c108), (vi (x73)), (vi x105), (vs a109 (x106).length c110)]) rfl (rv_c [(vi ((F_spec_EpNew (x15) (x26)).N)), (vs a107 ((F_spec_EpNew (x15) (x26)).Key).length c108), (vi (x73)), (vi x105), (vs a109 (x106).length c110)] rfl b115 isAgg_60 sizeOf_60) ?_
  have hN120 : (x106).length = (x106).length := by first | (simp only [List.length_append, List.length_take, List.length_replicate, List.length_set, List.length_map]; done) | (simp only [List.length_append, List.length_take, List.length_replicate, List.length_set, List.length_map]; omega)
  rw [hN120] at o119 ⊢
  have b121 := (b100.ch k114 (Nat.ne_of_lt (Nat.lt_of_lt_of_le hgl (p2))))
  exact ⟨{ N := (F_spec_EpNew (x15) (x26)).N, Key := ((F_spec_EpNew (x15) (x26)).Key), Seq := (x73), Win := { Top := x105, Bits := x106 : PWin } : PEp }, m117, ⟨_, _, b121, (Rd.chP hcr m117 hcn), hcl, (by omega), hcn⟩, ⟨_, _, _, _, rfl, o118, s93, o119, (by rw [← hN120]; exact s95), ⟨⟨ap97, trivial⟩, ⟨trivial, trivial⟩⟩⟩, trivial⟩
 refine mw (vp g 0) ?_
 have b122 := (b77.ch k84 (Nat.ne_of_lt (Nat.lt_of_lt_of_le hgl (Nat.le_trans (z5 k4 k9 k14 k25 k42) p56))))
 refine cl wN (C_spec_l1Once w10 g ca cc cb ⟨_, _, b122, (Rd.chP hcr m87 hcn), hcl, (by omega), hcn⟩ 3) ?_
 rintro _ w11 ⟨x124, k123, ⟨i126, h127, b128, r129, l130, p131, n132⟩, rfl, q125⟩
 have m133 := ChG.ext m87 k123 (fun k hk => .inl hk)
 refine n2 ?_
 rcases bf x124 with h134 | h134
 ·refine cf h134 ?_
  refine wc_skip <| wq_then ?_
  have t163 := fun (E sz n : Nat) (v : Value) (xs : List Value) (o : World.ownsRow w5 w4.heap.size E sz v n xs) (o0 : World.ownsRow w5 w4.heap.size E sz v n xs) => (own_ch (own_ch (own_ch (own_kp (own_ch (own_kp o k58) k61 (ne2 o0 (p56))) k67) k72 (ne1 o0 (Nat.lt_of_lt_of_le hgl (z4 k4 k9 k14 k25)))) k84 (ne2 o0 (p56))) k123 (ne1 o0 (Nat.lt_of_lt_of_le hgl (z4 k4 k9 k14 k25))))
  have o164 := (t163 _ _ _ _ _ o45 o45)
  have o165 := (t163 _ _ _ _ _ o50 o50)
  have b166 := (b85.ch k123 (Ne.symm (Nat.ne_of_lt (Nat.lt_of_lt_of_le hgl (Nat.le_trans (z5 k4 k9 k14 k25 k42) p56)))))
  exact wc_join [(2, (vp g1 0)), (3, (vp g55 0))] ⟨rfl, rfl, trivial⟩ fun u => J89 _ _ ⟨((F_spec_EpNew (x15) (x26)).Win).Top, ((F_spec_EpNew (x15) (x26)).Win).Bits, u, a43, c44, a48, c49, rfl, m133, (ChO.ext (Ch.refl (fun k => k = g ∨ w5.heap.size ≤ k) w10) k123 (fun k hk => .inl hk)), ⟨(own_lo o164 (z4 k4 k9 k14 k25)), s46⟩, ⟨(own_lo o165 (z4 k4 k9 k14 k25)), s51⟩, b166, (ap53.1.1), ⟨_, _, b128, (Rd.chP hcr m133 hcn), hcl, (by omega), hcn⟩⟩
 refine ct h134 ?_
 refine wc_region ?_
 refine mw (vp g 0) ?_
 refine cl wN (C_spec_l8Draw w11 g ca cc cb ⟨_, _, b128, (Rd.chP hcr m133 hcn), hcl, (by omega), hcn⟩) ?_
 rintro _ w12 ⟨x137, k136, ⟨i145, h146, b147, r148, l149, p150, n151⟩, ⟨a139, c140, rfl, o141, s142, ap144⟩, q138⟩
 have m152 := ChG.ext m133 k136 (fun k hk => .inl hk)
 refine pu (vp g55 3) wN ?_
 have b153 := ((b85.ch k123 (Ne.symm (Nat.ne_of_lt (Nat.lt_of_lt_of_le hgl (Nat.le_trans (z5 k4 k9 k14 k25 k42) p56))))).ch k136 (Ne.symm (Nat.ne_of_lt (Nat.lt_of_lt_of_le hgl (Nat.le_trans (z5 k4 k9 k14 k25 k42) p56)))))
 refine st (va (L_58 (x137) a139 c140)) (L_58 (x137) a139 c140) [(vi ((F_spec_EpNew (x15) (x26)).N)), (vs a43 ((F_spec_EpNew (x15) (x26)).Key).length c44), (vi (x73)), (vi ((x137).Top)), (vs a139 ((x137).Bits).length c140)] wN sizeOf_58 b153 ?_
 intro w13 k154 b155 z156
 have m157 := ChG.ext m152 k154 (fun k hk => .inr (by subst hk; exact Nat.le_trans (z5 k4 k9 k14 k25 k42) p56))
 refine n2 ?_
 have t158 := fun (E sz n : Nat) (v : Value) (xs : List Value) (o : World.ownsRow w5 w4.heap.size E sz v n xs) (o0 : World.ownsRow w5 w4.heap.size E sz v n xs) => (own_ch (own_ch (own_ch (own_ch (own_ch (own_kp (own_ch (own_kp o k58) k61 (ne2 o0 (p56))) k67) k72 (ne1 o0 (Nat.lt_of_lt_of_le hgl (z4 k4 k9 k14 k25)))) k84 (ne2 o0 (p56))) k123 (ne1 o0 (Nat.lt_of_lt_of_le hgl (z4 k4 k9 k14 k25)))) k136 (ne1 o0 (Nat.lt_of_lt_of_le hgl (z4 k4 k9 k14 k25)))) k154 (ne2 o0 (p56)))
 have o159 := (t158 _ _ _ _ _ o45 o45)
 have o160 := (own_ch o141 k154 (ne1 o141 (Nat.lt_of_lt_of_le p57 (z5 k61 k67 k72 k84 k123))))
 have b161 := (b147.ch k154 (Nat.ne_of_lt (Nat.lt_of_lt_of_le hgl (Nat.le_trans (z5 k4 k9 k14 k25 k42) p56))))
 exact wc_join [(2, (vp g1 0)), (3, (vp g55 0))] ⟨rfl, rfl, trivial⟩ fun u => J89 _ _ ⟨(x137).Top, (x137).Bits, u, a43, c44, a139, c140, rfl, m157, (ChO.ext (ChO.ext (ChO.ext (Ch.refl (fun k => k = g ∨ w5.heap.size ≤ k) w10) k123 (fun k hk => .inl hk)) k136 (fun k hk => .inl hk)) k154 (fun k hk => .inr (by subst hk; exact p56))), ⟨(own_lo o159 (z4 k4 k9 k14 k25)), s46⟩, ⟨(own_lo o160 (z11 k4 k9 k14 k25 k42 k58 k61 k67 k72 k84 k123)), s142⟩, b155, (Ap.lt o45 o141 (z6 k58 k61 k67 k72 k84 k123)), ⟨_, _, b161, (Rd.chP hcr m157 hcn), hcl, (by omega), hcn⟩⟩
end Go.Proofs.Ytdbjmgkiccfhcaa.K
