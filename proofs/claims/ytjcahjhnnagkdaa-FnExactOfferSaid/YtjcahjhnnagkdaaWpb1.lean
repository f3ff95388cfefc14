import Derived.Test.YtjcahjhnnagkdaaCore
import Derived.Test.YtjcahjhnnagkdaaProg
import Derived.Test.YtjcahjhnnagkdaaHeld
import Derived.Test.YtjcahjhnnagkdaaFun
import Derived.Test.YtjcahjhnnagkdaaFunZ
import Derived.Test.YtjcahjhnnagkdaaMark
import Derived.Test.YtjcahjhnnagkdaaWp3
namespace Go.Proofs.Ytjcahjhnnagkdaa.K
open Go.RowKit
set_option linter.unusedVariables false
set_option linter.unusedSimpArgs false
set_option maxRecDepth 100000
def O_59_4 (w : World) (lo : Nat) (v : Value) (x : (PPaths) × (Bool)) : Prop := ∃ (a1 : Option Addr) (c1 : Nat), v = .tuple #[.agg #[.int .i64 x.1.At.Host, .int .i64 x.1.At.Port, .slice a1 x.1.Cands.length c1], .bool x.2] ∧ OLv LT_54 w lo w.heap.size a1 x.1.Cands.length c1 x.1.Cands ∧ x.1.Cands.length ≤ 1073741824 ∧ Aps [(a1, c1)]
def offS (x_p : PPaths) (x_now : Int) (x_a : PAddr) (x_draw : List UInt8) : PPaths × Bool := bif sPa x_p then (bif F_spec_l1In x_now 0 1000000 then (bif F_spec_AddrOk x_a then (bif decide ((x_draw.length : Int) = 12) then (bif (decide (x_a.Host = x_p.At.Host) && decide (x_a.Port = x_p.At.Port)) then (x_p, false) else (bif decide (candAt (F_spec_PathTick x_p x_now) x_a < 0) then (bif decide (((F_spec_PathTick x_p x_now).Cands.length : Int) = 3) then (x_p, false) else ({ At := (F_spec_PathTick x_p x_now).At, Cands := (F_spec_PathTick x_p x_now).Cands ++ [{ A := x_a, Draw := x_draw, Until := (x_now + 6) : PCand }] : PPaths }, true)) else (x_p, false))) else (x_p, false)) else (x_p, false)) else (x_p, false)) else (x_p, false)
theorem C_spec_Offer (w0 : World) (v_x_p : Value) (x_p : PPaths) (r_x_p : R_59 w0 v_x_p x_p) (x_now : Int) (v_x_a : Value) (x_a : PAddr) (r_x_a : R_26 w0 v_x_a x_a) (v_x_draw : Value) (x_draw : List UInt8) (r_x_draw : R_22 w0 v_x_draw x_draw)  : Fn Try.prog 43 #[v_x_p, (vi x_now), v_x_a, v_x_draw] w0 (fun v w' => Keep w0 w' ∧ O_59_4 w' w0.heap.size v (offS x_p x_now x_a x_draw)) := by
 obtain ⟨a1, c2, rfl, r3, s4⟩ := r_x_p
 obtain rfl := r_x_a
 obtain ⟨a6, c7, rfl, r8, s9⟩ := r_x_draw
 refine fn_of (n := 77) (l := [(va (L_59 x_p a1 c2)), (vi x_now), (va (L_26 x_a)), (vs a6 x_draw.length c7), U, U, U, U, U, U, U, U, U, U, U, U, U, U, U, U, U, U, U, U, U, U, U, U, U, U, U, U, U, U, U, U, U, U, U, U, U, U, U, U, U, U, U, U, U, U, U, U, U, U, U, U, U, U, U, U, U, U, U, U, U, U, U, U, U, U, U, U, U, U, U, U, U]) Try.func43 rfl rfl (by kernel_rfl) rfl ?_
 refine sr ?_
 refine bx (L_59 x_p a1 c2) wN ?_
 intro g11 w1 p12 p13 k14 b15
 have m16 := (Ch.base w0).extk k14
 refine bx (L_26 x_a) wN ?_
 intro g17 w2 p18 p19 k20 b21
 have m22 := m16.extk k20
 refine al [(vi 0), (vi 0), (vs none 0 0)] wN zero_59 ?_
 intro g23 w3 p24 p25 k26 b27
 have m28 := m22.extk k26
 refine ag (vb false) wN ?_
 refine wl_nil <| wq_then <| wc_seq <| sr ?_
 have b29 := ((b15.kp k20).kp k26)
 refine lN (L_59 x_p a1 c2) wN isAgg_59 sizeOf_59 b29 ?_
 refine cl wN (C_spec_PathsOk w3 _ x_p (mR_59 (r3.from0 m28) s4)) ?_
 rintro _ w4 ⟨k30, rfl⟩
 have m31 := m28.extk k30
 refine pu (vb (!(sPa x_p))) wN ?_
 refine mv (vb (!(sPa x_p))) wN ?_
 rcases bf (sPa x_p) with h32 | h32
 ·refine sk (congrArg not h32) ?_
  refine sk (congrArg not h32) ?_
  refine sk (congrArg not h32) ?_
  refine pk (vb true) wN (congrArg not h32) ?_
  refine mv (vb true) wN ?_
  refine sk (Eq.refl true) ?_
  refine sk (Eq.refl true) ?_
  refine sk (Eq.refl true) ?_
  refine pk (vb true) wN (Eq.refl true) ?_
  refine mv (vb true) wN ?_
  refine sk (Eq.refl true) ?_
  refine sk (Eq.refl true) ?_
  refine sk (Eq.refl true) ?_
  refine pk (vb true) wN (Eq.refl true) ?_
  refine mv (vb true) wN ?_
  refine sk (Eq.refl true) ?_
  refine sk (Eq.refl true) ?_
  refine sk (Eq.refl true) ?_
  refine sk (Eq.refl true) ?_
  refine pk (vb true) wN (Eq.refl true) ?_
  refine wl_nil <| wq_then ?_
  refine ct (Eq.refl true) ?_
  refine sr ?_
  have b437 := (b29.kp k30)
  refine lN (L_59 x_p a1 c2) wN isAgg_59 sizeOf_59 b437 ?_
  refine cl wN (C_spec_l16Copy w4 _ x_p (mR_59 (r3.from0 m31) s4)) ?_
  rintro _ w5 ⟨k438, ⟨a439, c440, rfl, o441, s442, ap444⟩⟩
  have m445 := m31.extk k438
  obtain ⟨y446, o447⟩ := OLv.ow o441
  have b448 := ((b27.kp k30).kp k438)
  refine st (va (L_59 (x_p) a439 c440)) (L_59 (x_p) a439 c440) (L_59 (x_p) a439 c440) wN sizeOf_59 b448 ?_
  intro w6 k449 b450 z451
  have m452 := m445.ext k449 (fun k hk => by subst hk; exact Nat.le_trans (Nat.le_trans k14.size k20.size) p24)
  refine ag (vb false) wN ?_
  refine wl_nil <| wq_then <| wc_ret <| wq_then_ret ?_
  have o453 := (OLv.ch o441 k449 (fun g h1 h2 hk => by have h3 := Nat.lt_of_lt_of_le p25 k30.size; omega))
  refine ret_2 (.inl rfl) (va (L_59 (x_p) a439 c440)) (vb false) rfl (rv_c [(vi (((x_p).At).Host)), (vi (((x_p).At).Port)), (vs a439 ((x_p).Cands).length c440)] rfl b450 isAgg_59 sizeOf_59) rfl ?_
  refine ⟨m452.keep0, ?_⟩
  have hF454 : offS x_p x_now x_a x_draw = ((x_p), false) := by simp only [offS, h32]; try rfl
  rw [hF454]
  exact ⟨_, _, rfl, (OLv.now (OLv.low o453 (t4 k14.size k20.size k26.size k30.size))), s442, ⟨trivial, trivial⟩⟩
 have q33 := sPa_t h32
 refine mv (vi x_now) (wS (congrArg not h32)) ?_
 refine cl (wS (congrArg not h32)) (C_spec_l1In w4 x_now 0 1000000) ?_
 rintro _ w5 ⟨k34, rfl⟩
 have m35 := m31.extk k34
 refine pu (vb (!(F_spec_l1In x_now 0 1000000))) (wS (congrArg not h32)) ?_
 refine pf (vb (!(F_spec_l1In x_now 0 1000000))) wN (congrArg not h32) ?_
 refine mv (vb (!(F_spec_l1In x_now 0 1000000))) wN ?_
 rcases bf (F_spec_l1In x_now 0 1000000) with h36 | h36
 ·have q417 := spec_l1In_f h36
  refine sk (congrArg not h36) ?_
  refine sk (congrArg not h36) ?_
  refine sk (congrArg not h36) ?_
  refine pk (vb true) wN (congrArg not h36) ?_
  refine mv (vb true) wN ?_
  refine sk (Eq.refl true) ?_
  refine sk (Eq.refl true) ?_
  refine sk (Eq.refl true) ?_
  refine pk (vb true) wN (Eq.refl true) ?_
  refine mv (vb true) wN ?_
  refine sk (Eq.refl true) ?_
  refine sk (Eq.refl true) ?_
  refine sk (Eq.refl true) ?_
  refine sk (Eq.refl true) ?_
  refine pk (vb true) wN (Eq.refl true) ?_
  refine wl_nil <| wq_then ?_
  refine ct (Eq.refl true) ?_
  refine sr ?_
  have b418 := ((b29.kp k30).kp k34)
  refine lN (L_59 x_p a1 c2) wN isAgg_59 sizeOf_59 b418 ?_
  refine cl wN (C_spec_l16Copy w5 _ x_p (mR_59 (r3.from0 m35) s4)) ?_
  rintro _ w6 ⟨k419, ⟨a420, c421, rfl, o422, s423, ap425⟩⟩
  have m426 := m35.extk k419
  obtain ⟨y427, o428⟩ := OLv.ow o422
  have b429 := (((b27.kp k30).kp k34).kp k419)
  refine st (va (L_59 (x_p) a420 c421)) (L_59 (x_p) a420 c421) (L_59 (x_p) a420 c421) wN sizeOf_59 b429 ?_
  intro w7 k430 b431 z432
  have m433 := m426.ext k430 (fun k hk => by subst hk; exact Nat.le_trans (Nat.le_trans k14.size k20.size) p24)
  refine ag (vb false) wN ?_
  refine wl_nil <| wq_then <| wc_ret <| wq_then_ret ?_
  have o434 := (OLv.ch o422 k430 (fun g h1 h2 hk => by have h3 := Nat.lt_of_lt_of_le p25 (Nat.le_trans k30.size k34.size); omega))
  refine ret_2 (.inl rfl) (va (L_59 (x_p) a420 c421)) (vb false) rfl (rv_c [(vi (((x_p).At).Host)), (vi (((x_p).At).Port)), (vs a420 ((x_p).Cands).length c421)] rfl b431 isAgg_59 sizeOf_59) rfl ?_
  refine ⟨m433.keep0, ?_⟩
  have hF435 : offS x_p x_now x_a x_draw = ((x_p), false) := by simp only [offS, h32, h36]; try rfl
  rw [hF435]
  exact ⟨_, _, rfl, (OLv.now (OLv.low o434 (t5 k14.size k20.size k26.size k30.size k34.size))), s423, ⟨trivial, trivial⟩⟩
 have q37 := spec_l1In_t h36
 have b38 := (((b21.kp k26).kp k30).kp k34)
 refine lN (L_26 x_a) (wS (congrArg not h36)) isAgg_26 sizeOf_26 b38 ?_
 refine cl (wS (congrArg not h36)) (C_spec_AddrOk w5 _ x_a (mR_26)) ?_
 rintro _ w6 ⟨k39, rfl⟩
 have m40 := m35.extk k39
 refine pu (vb (!(F_spec_AddrOk x_a))) (wS (congrArg not h36)) ?_
 refine pf (vb (!(F_spec_AddrOk x_a))) wN (congrArg not h36) ?_
 refine mv (vb (!(F_spec_AddrOk x_a))) wN ?_
 rcases bf (F_spec_AddrOk x_a) with h41 | h41
 ·refine sk (congrArg not h41) ?_
  refine sk (congrArg not h41) ?_
  refine sk (congrArg not h41) ?_
  refine pk (vb true) wN (congrArg not h41) ?_
  refine mv (vb true) wN ?_
  refine sk (Eq.refl true) ?_
  refine sk (Eq.refl true) ?_
  refine sk (Eq.refl true) ?_
  refine sk (Eq.refl true) ?_
  refine pk (vb true) wN (Eq.refl true) ?_
  refine wl_nil <| wq_then ?_
  refine ct (Eq.refl true) ?_
  refine sr ?_
  have b399 := (((b29.kp k30).kp k34).kp k39)
  refine lN (L_59 x_p a1 c2) wN isAgg_59 sizeOf_59 b399 ?_
  refine cl wN (C_spec_l16Copy w6 _ x_p (mR_59 (r3.from0 m40) s4)) ?_
  rintro _ w7 ⟨k400, ⟨a401, c402, rfl, o403, s404, ap406⟩⟩
  have m407 := m40.extk k400
  obtain ⟨y408, o409⟩ := OLv.ow o403
  have b410 := ((((b27.kp k30).kp k34).kp k39).kp k400)
  refine st (va (L_59 (x_p) a401 c402)) (L_59 (x_p) a401 c402) (L_59 (x_p) a401 c402) wN sizeOf_59 b410 ?_
  intro w8 k411 b412 z413
  have m414 := m407.ext k411 (fun k hk => by subst hk; exact Nat.le_trans (Nat.le_trans k14.size k20.size) p24)
  refine ag (vb false) wN ?_
  refine wl_nil <| wq_then <| wc_ret <| wq_then_ret ?_
  have o415 := (OLv.ch o403 k411 (fun g h1 h2 hk => by have h3 := Nat.lt_of_lt_of_le p25 (t3 k30.size k34.size k39.size); omega))
  refine ret_2 (.inl rfl) (va (L_59 (x_p) a401 c402)) (vb false) rfl (rv_c [(vi (((x_p).At).Host)), (vi (((x_p).At).Port)), (vs a401 ((x_p).Cands).length c402)] rfl b412 isAgg_59 sizeOf_59) rfl ?_
  refine ⟨m414.keep0, ?_⟩
  have hF416 : offS x_p x_now x_a x_draw = ((x_p), false) := by simp only [offS, h32, h36, h41]; try rfl
  rw [hF416]
  exact ⟨_, _, rfl, (OLv.now (OLv.low o415 (t6 k14.size k20.size k26.size k30.size k34.size k39.size))), s404, ⟨trivial, trivial⟩⟩
 refine mv (vs a6 x_draw.length c7) (wS (congrArg not h41)) ?_
 refine ln (wS (congrArg not h41)) slTy_22 (r8.from0 m40) ?_
 refine pu (vb (!(decide ((x_draw.length : Int) = 12)))) (wS (congrArg not h41)) ?_
 refine pf (vb (!(decide ((x_draw.length : Int) = 12)))) wN (congrArg not h41) ?_
 refine mv (vb (!(decide ((x_draw.length : Int) = 12)))) wN ?_
 rcases bf (decide ((x_draw.length : Int) = 12)) with h43 | h43
 ·have q379 := of_decide_eq_false h43
  refine sk (congrArg not h43) ?_
  refine sk (congrArg not h43) ?_
  refine sk (congrArg not h43) ?_
  refine sk (congrArg not h43) ?_
  refine pk (vb true) wN (congrArg not h43) ?_
  refine wl_nil <| wq_then ?_
  refine ct (Eq.refl true) ?_
  refine sr ?_
  have b380 := (((b29.kp k30).kp k34).kp k39)
  refine lN (L_59 x_p a1 c2) wN isAgg_59 sizeOf_59 b380 ?_
  refine cl wN (C_spec_l16Copy w6 _ x_p (mR_59 (r3.from0 m40) s4)) ?_
  rintro _ w7 ⟨k381, ⟨a382, c383, rfl, o384, s385, ap387⟩⟩
  have m388 := m40.extk k381
  obtain ⟨y389, o390⟩ := OLv.ow o384
  have b391 := ((((b27.kp k30).kp k34).kp k39).kp k381)
  refine st (va (L_59 (x_p) a382 c383)) (L_59 (x_p) a382 c383) (L_59 (x_p) a382 c383) wN sizeOf_59 b391 ?_
  intro w8 k392 b393 z394
  have m395 := m388.ext k392 (fun k hk => by subst hk; exact Nat.le_trans (Nat.le_trans k14.size k20.size) p24)
  refine ag (vb false) wN ?_
  refine wl_nil <| wq_then <| wc_ret <| wq_then_ret ?_
  have o396 := (OLv.ch o384 k392 (fun g h1 h2 hk => by have h3 := Nat.lt_of_lt_of_le p25 (t3 k30.size k34.size k39.size); omega))
  refine ret_2 (.inl rfl) (va (L_59 (x_p) a382 c383)) (vb false) rfl (rv_c [(vi (((x_p).At).Host)), (vi (((x_p).At).Port)), (vs a382 ((x_p).Cands).length c383)] rfl b393 isAgg_59 sizeOf_59) rfl ?_
  refine ⟨m395.keep0, ?_⟩
  have hF397 : offS x_p x_now x_a x_draw = ((x_p), false) := by simp only [offS, h32, h36, h41, h43]; try rfl
  rw [hF397]
  exact ⟨_, _, rfl, (OLv.now (OLv.low o396 (t6 k14.size k20.size k26.size k30.size k34.size k39.size))), s385, ⟨trivial, trivial⟩⟩
 have q44 := of_decide_eq_true h43
 have b45 := (b38.kp k39)
 refine lN (L_26 x_a) (wS (congrArg not h43)) isAgg_26 sizeOf_26 b45 ?_
 refine pu (vp g11 0) (wS (congrArg not h43)) ?_
 have b46 := (((b29.kp k30).kp k34).kp k39)
 refine lN (L_26 x_p.At) (wS (congrArg not h43)) isAgg_26 sizeOf_26 b46 ?_
 refine wl_aggeq ((decide (x_a.Host = x_p.At.Host) && decide (x_a.Port = x_p.At.Port))) (wS (congrArg not h43)) rfl rfl rfl rfl rfl guardt_26 (aggeq_26 x_a.Host x_p.At.Host x_a.Port x_p.At.Port w6) ?_
 refine pf (vb (decide (x_a.Host = x_p.At.Host) && decide (x_a.Port = x_p.At.Port))) wN (congrArg not h43) ?_
 refine wl_nil <| wq_then ?_
 rcases bt (decide (x_a.Host = x_p.At.Host) && decide (x_a.Port = x_p.At.Port)) with h47 | h47
 ·refine ct h47 ?_
  refine sr ?_
  refine lN (L_59 x_p a1 c2) wN isAgg_59 sizeOf_59 b46 ?_
  refine cl wN (C_spec_l16Copy w6 _ x_p (mR_59 (r3.from0 m40) s4)) ?_
  rintro _ w7 ⟨k49, ⟨a50, c51, rfl, o52, s53, ap55⟩⟩
  have m56 := m40.extk k49
  obtain ⟨y57, o58⟩ := OLv.ow o52
  have b59 := ((((b27.kp k30).kp k34).kp k39).kp k49)
  refine st (va (L_59 (x_p) a50 c51)) (L_59 (x_p) a50 c51) (L_59 (x_p) a50 c51) wN sizeOf_59 b59 ?_
  intro w8 k60 b61 z62
  have m63 := m56.ext k60 (fun k hk => by subst hk; exact Nat.le_trans (Nat.le_trans k14.size k20.size) p24)
  refine ag (vb false) wN ?_
  refine wl_nil <| wq_then <| wc_ret <| wq_then_ret ?_
  have o64 := (OLv.ch o52 k60 (fun g h1 h2 hk => by have h3 := Nat.lt_of_lt_of_le p25 (t3 k30.size k34.size k39.size); omega))
  refine ret_2 (.inl rfl) (va (L_59 (x_p) a50 c51)) (vb false) rfl (rv_c [(vi (((x_p).At).Host)), (vi (((x_p).At).Port)), (vs a50 ((x_p).Cands).length c51)] rfl b61 isAgg_59 sizeOf_59) rfl ?_
  refine ⟨m63.keep0, ?_⟩
  have hF65 : offS x_p x_now x_a x_draw = ((x_p), false) := by simp only [offS, h32, h36, h41, h43, h47]; try rfl
  rw [hF65]
  exact ⟨_, _, rfl, (OLv.now (OLv.low o64 (t6 k14.size k20.size k26.size k30.size k34.size k39.size))), s53, ⟨trivial, trivial⟩⟩
 refine cf h47 ?_
 refine wc_skip <| wq_then <| sr ?_
 refine lN (L_59 x_p a1 c2) wN isAgg_59 sizeOf_59 b46 ?_
 refine mv (vi x_now) wN ?_
 refine cl wN (C_spec_PathTick w6 _ x_p (mR_59 (r3.from0 m40) s4) x_now) ?_
 rintro _ w7 ⟨k67, ⟨a68, c69, rfl, o70, s71, ap73⟩⟩
 have m74 := m40.extk k67
 obtain ⟨y75, o76⟩ := OLv.ow o70
 have q77 := pathTick_len x_p x_now
 refine al [(vi 0), (vi 0), (vs none 0 0)] wN zero_59 ?_
 intro g78 w8 p79 p80 k81 b82
 have m83 := m74.extk k81
 refine st (va (L_59 (F_spec_PathTick x_p x_now) a68 c69)) (L_59 (F_spec_PathTick x_p x_now) a68 c69) (L_59 (F_spec_PathTick x_p x_now) a68 c69) wN sizeOf_59 b82 ?_
 intro w9 k84 b85 z86
 have m87 := m83.ext k84 (fun k hk => by subst hk; exact Nat.le_trans (t7 k14.size k20.size k26.size k30.size k34.size k39.size k67.size) p79)
 refine wl_nil <| wq_then <| wc_seq <| sr ?_
 refine ag (vi 0) wN ?_
 refine wl_nil <| wq_then <| wc_block ?_
 refine wc_normQ (fun e => [e 0, e 1, e 2, e 3, e 4, e 5, e 6, e 7, e 8, e 9, e 10, (vi ((0 : Nat) : Int)), e 12, e 13, e 14, e 15, e 16, e 17, e 18, e 19, e 20, e 21, e 22, e 23, e 24, e 25, e 26, e 27, e 28, e 29, e 30, e 31, e 32, e 33, e 34, e 35, e 36, e 37, e 38, e 39, e 40, e 41, e 42, e 43, e 44, e 45, e 46, e 47, e 48, e 49, e 50, e 51, e 52, e 53, e 54, e 55, e 56, e 57, e 58, e 59, e 60, e 61, e 62, e 63, e 64, e 65, e 66, e 67, e 68, e 69, e 70, e 71, e 72, e 73, e 74, e 75, e 76]) rfl ⟨rfl, rfl, rfl, rfl, rfl, rfl, rfl, rfl, rfl, rfl, rfl, (congrArg (Value.int .i64) (show (0 : Int) = ((0 : Nat) : Int) by omega)), rfl, rfl, rfl, rfl, rfl, rfl, rfl, rfl, rfl, rfl, rfl, rfl, rfl, rfl, rfl, rfl, rfl, rfl, rfl, rfl, rfl, rfl, rfl, rfl, rfl, rfl, rfl, rfl, rfl, rfl, rfl, rfl, rfl, rfl, rfl, rfl, rfl, rfl, rfl, rfl, rfl, rfl, rfl, rfl, rfl, rfl, rfl, rfl, rfl, rfl, rfl, rfl, rfl, rfl, rfl, rfl, rfl, rfl, rfl, rfl, rfl, rfl, rfl, rfl, rfl, trivial⟩ ?_
 refine wc_loop (fun e' w' => ∃ (k : Nat) (u88 : Nat → Value), e' = lst [(u88 0), (vi x_now), (u88 1), (vs a6 x_draw.length c7), (vp g11 0), (u88 2), (vp g17 0), (u88 3), (vp g23 0), (u88 4), (vp g78 0), (vi ((k : Nat) : Int)), (u88 5), (u88 6), (u88 7), (u88 8), (u88 9), (u88 10), (u88 11), (u88 12), (u88 13), (u88 14), (u88 15), (u88 16), (u88 17), (u88 18), (u88 19), (u88 20), (u88 21), (u88 22), (u88 23), (u88 24), (u88 25), (u88 26), (u88 27), (u88 28), (u88 29), (u88 30), (u88 31), (u88 32), (u88 33), (u88 34), (u88 35), (u88 36), (u88 37), (u88 38), (u88 39), (u88 40), (u88 41), (u88 42), (u88 43), (u88 44), (u88 45), (u88 46), (u88 47), (u88 48), (u88 49), (u88 50), U, U, U, U, U, U, U, U, U, U, U, U, U, U, U, U, U, U, U] ∧ Ch (fun k => w0.heap.size ≤ k) w0 w' ∧ Ch (fun k => w9.heap.size ≤ k) w9 w' ∧ k ≤ (F_spec_PathTick x_p x_now).Cands.length ∧ ∀ j, j < k → (fun c : PCand => decide (c.A.Host = x_a.Host) && decide (c.A.Port = x_a.Port)) ((F_spec_PathTick x_p x_now).Cands.getD j z_PCand) = false) (fun e' _ => (F_spec_PathTick x_p x_now).Cands.length - ((intOf (e' 11))).toNat) ?_ ?_
 ·exact ⟨0, (unL [_, _, U, U, _, _, _, _, _, _, _, _, _, _, _, _, _, _, _, _, _, _, _, _, _, _, _, _, _, U, U, _, _, _, U, U, U, U, U, U, U, U, U, U, U, U, U, U, U, U, U]), rfl, m87, (Ch.refl (fun k => w9.heap.size ≤ k) w9), (by omega), (by first | (intro j hj; omega) | exact find_next (p := (fun c : PCand => decide (c.A.Host = x_a.Host) && decide (c.A.Port = x_a.Port))) (by assumption) (by assumption))⟩
 ·rintro _ w10 ⟨k, u88, rfl, m89, k90, i91, i92⟩
  refine wc_seq <| sr ?_
  refine mv (vi ((k : Nat) : Int)) wN ?_
  refine pu (vp g78 2) wN ?_
  have b93 := (b85.ch k90 (Nat.not_le.2 (Nat.lt_of_lt_of_le p80 k84.size)))
  refine ld (vs a68 ((F_spec_PathTick x_p x_now).Cands).length c69) wN isAgg_57 b93 ?_
  have o96 := (OLv.ch (OLv.ch (OLv.kp o70 k81) k84 (fun g h1 h2 hk => by have h3 := Nat.le_trans (Nat.le_refl w7.heap.size) p79; omega)) k90 (fun g h1 h2 hk => by have h3 : w7.heap.size ≤ w9.heap.size := (Nat.le_trans k81.size k84.size); have h4 : w9.heap.size ≤ g := hk; omega))
  obtain ⟨y94, r95⟩ := RLv.row (OLv.rl o96)
  refine ln wN slTy_57 r95 ?_
  refine pu (vb (decide (((k : Nat) : Int) < (((F_spec_PathTick x_p x_now).Cands).length : Int)))) wN ?_
  refine wl_nil <| wq_then ?_
  rcases bt (decide (((k : Nat) : Int) < (((F_spec_PathTick x_p x_now).Cands).length : Int))) with h97 | h97
  ·have q98 := of_decide_eq_true h97
   refine ct h97 ?_
   refine wc_skip <| wq_then <| wc_seq <| wc_block <| wc_seq ?_
   obtain ⟨y114, l115, r116, e117, u118⟩ := OLv.el z_PCand (i := k) o96 (by first | omega | (simp only [List.length_cons, List.length_nil, List.length_replicate, List.length_append, List.length_take, List.length_set, List.length_map]; omega))
   obtain ⟨a119, c120, l124, rfl, r121, s122, u125⟩ := SubO.c u118
   obtain rfl := SubO.n u125
   refine wc_drawT ([(48, [], [], (fun _ v _ => v = (vp g78 2))), (49, [], [0], (fun _ v _ => v = (vs a68 ((F_spec_PathTick x_p x_now).Cands).length c69))), (50, [], [], (fun _ v _ => v = (vi ((k : Nat) : Int)))), (51, [], [0, 1, 2], (fun _ v _ => v = (ve (vs a68 ((F_spec_PathTick x_p x_now).Cands).length c69) ((((k : Nat) : Int)).toNat * 4)))), (52, [], [0, 1, 2, 3], (fun _ v _ => v = (ve (vs a68 ((F_spec_PathTick x_p x_now).Cands).length c69) ((((k : Nat) : Int)).toNat * 4 + 0)))), (53, [], [0, 1, 2, 3, 4], (fun _ v _ => v = (.agg #[(vi (((((F_spec_PathTick x_p x_now).Cands).getD k z_PCand).A).Host)), (vi (((((F_spec_PathTick x_p x_now).Cands).getD k z_PCand).A).Port))]))), (54, [], [], (fun _ v _ => v = (.agg #[(vi x_a.Host), (vi x_a.Port)])))] : GV) (fun _ w' => Keep w10 w') [] mixed rfl (by kernel_rfl) (by kernel_rfl) ?_ (fun _ _ h => h) (fun _ _ _ _ h _ k => h.trans k) trivial ?_ ?_ ?_
   ·exact ⟨(fun _ _ _ _ h _ => h), (fun _ _ _ _ _ h => h), ⟨(fun _ _ _ _ h _ => h), (fun _ _ _ _ _ h => h), ⟨(fun _ _ _ _ h _ => h), (fun _ _ _ _ _ h => h), ⟨(fun _ _ _ _ h _ => h), (fun _ _ _ _ _ h => h), ⟨(fun _ _ _ _ h _ => h), (fun _ _ _ _ _ h => h), ⟨(fun _ _ _ _ h _ => h), (fun _ _ _ _ _ h => h), ⟨(fun _ _ _ _ h _ => h), (fun _ _ _ _ _ h => h), trivial⟩⟩⟩⟩⟩⟩⟩
   ·exact trivial
   ·refine ⟨?_, ⟨?_, ⟨?_, ⟨?_, ⟨?_, ⟨?_, ⟨?_, trivial⟩⟩⟩⟩⟩⟩⟩
    ·intro _ w11 k129 _
     have m130 := m89.extk k129
     rintro _ _ _ _ _ _ _
     show WL _ _ _ _ _ _ _
     refine pu (vp g78 2) wN ?_
     exact wl_finT (Ch.refl _ _) rfl
    ·intro _ w11 k131 _
     have m132 := m89.extk k131
     rintro _ rfl _ _ _ _ _ _
     show WL _ _ _ _ _ _ _
     have b133 := (b93.kp k131)
     refine ld (vs a68 ((F_spec_PathTick x_p x_now).Cands).length c69) wN isAgg_57 b133 ?_
     exact wl_finT (Ch.refl _ _) rfl
    ·intro _ w11 k134 _
     have m135 := m89.extk k134
     rintro _ _ _ _ _ _ _
     show WL _ _ _ _ _ _ _
     refine mv (vi ((k : Nat) : Int)) wN ?_
     exact wl_finT (Ch.refl _ _) rfl
    ·intro _ w11 k136 _
     have m137 := m89.extk k136
     rintro _ rfl _ rfl _ rfl _ _ _ _
     show WL _ _ _ _ _ _ _
     have o141 := (OLv.kp o96 k136)
     obtain ⟨y139, r140⟩ := RLv.row (OLv.rl o141)
     refine wl_index wN ((k : Nat) : Int) rfl rfl rfl slTy_57 rfl rfl r140 (by first | omega | (simp only [List.length_cons, List.length_nil, List.length_replicate, List.length_append, List.length_take, List.length_set, List.length_map]; omega)) (by first | omega | (simp only [List.length_cons, List.length_nil, List.length_replicate, List.length_append, List.length_take, List.length_set, List.length_map]; omega)) ?_
     exact wl_finT (Ch.refl _ _) rfl
    ·intro _ w11 k142 _
     have m143 := m89.extk k142
     rintro _ rfl _ rfl _ rfl _ rfl _ _ _
     show WL _ _ _ _ _ _ _
     refine wl_fieldE wN rfl rfl rfl fieldAt_54_0 rfl (r116.kp k142) (by omega) ?_
     exact wl_finT (Ch.refl _ _) rfl
    ·intro _ w11 k148 _
     have m149 := m89.extk k148
     rintro _ rfl _ rfl _ rfl _ rfl _ rfl _ _
     show WL _ _ _ _ _ _ _
     refine wl_loadEN (L_26 ((((F_spec_PathTick x_p x_now).Cands).getD k z_PCand).A)) wN rfl rfl rfl rfl isAgg_26 sizeOf_26 (r116.kp k148) (by first | omega | (simp only [List.length_cons, List.length_nil, List.length_replicate, List.length_append, List.length_take, List.length_set, List.length_map]; omega)) ((part_of (off := 0) (n := 2) e117 (by first | rfl | simp | omega) (by decide)).trans rfl) ?_
     exact wl_finT (Ch.refl _ _) rfl
    ·intro _ w11 k154 _
     have m155 := m89.extk k154
     rintro _ _ _ _ _ _ _
     show WL _ _ _ _ _ _ _
     have b156 := (((((b45.kp k67).kp k81).ch k84 (Nat.ne_of_lt (Nat.lt_of_lt_of_le p19 (Nat.le_trans (t5 k26.size k30.size k34.size k39.size k67.size) p79)))).ch k90 (Nat.not_le.2 (Nat.lt_of_lt_of_le p19 (t7 k26.size k30.size k34.size k39.size k67.size k81.size k84.size)))).kp k154)
     refine lN (L_26 x_a) wN isAgg_26 sizeOf_26 b156 ?_
     exact wl_finT (Ch.refl _ _) rfl
   ·intro _ w11 k157
    have m158 := m89.extk k157
    rintro _ rfl _ rfl _ rfl _ rfl _ rfl _ rfl _ rfl
    show WL _ _ _ _ _ _ _
    refine wl_aggeq ((decide ((((((F_spec_PathTick x_p x_now).Cands).getD k z_PCand).A).Host) = x_a.Host) && decide ((((((F_spec_PathTick x_p x_now).Cands).getD k z_PCand).A).Port) = x_a.Port))) wN rfl rfl rfl rfl rfl guardt_26 (aggeq_26 (((((F_spec_PathTick x_p x_now).Cands).getD k z_PCand).A).Host) x_a.Host (((((F_spec_PathTick x_p x_now).Cands).getD k z_PCand).A).Port) x_a.Port w11) ?_
    refine wl_nil <| wq_then ?_
    rcases bf (decide ((((((F_spec_PathTick x_p x_now).Cands).getD k z_PCand).A).Host) = x_a.Host) && decide ((((((F_spec_PathTick x_p x_now).Cands).getD k z_PCand).A).Port) = x_a.Port)) with h164 | h164
    ·refine cf h164 ?_
     refine wc_skip <| wq_blk_normal <| wq_then <| wc_region ?_
     refine mv (vi ((k : Nat) : Int)) wN ?_
     refine ar (((k : Nat) : Int) + 1) wN ?_
     refine ag (vi (((k : Nat) : Int) + 1)) wN ?_
     refine wl_nil ?_
     refine wq_loopQ (w0 := w10) (fun e => [e 0, e 1, e 2, e 3, e 4, e 5, e 6, e 7, e 8, e 9, e 10, (vi (((k + 1) : Nat) : Int)), e 12, e 13, e 14, e 15, e 16, e 17, e 18, e 19, e 20, e 21, e 22, e 23, e 24, e 25, e 26, e 27, e 28, e 29, e 30, e 31, e 32, e 33, e 34, e 35, e 36, e 37, e 38, e 39, e 40, e 41, e 42, e 43, e 44, e 45, e 46, e 47, e 48, e 49, e 50, e 51, e 52, e 53, e 54, e 55, e 56, e 57, e 58, e 59, e 60, e 61, e 62, e 63, e 64, e 65, e 66, e 67, e 68, e 69, e 70, e 71, e 72, e 73, e 74, e 75, e 76]) rfl ?_ ?_ ?_
     · exact ⟨rfl, rfl, rfl, rfl, rfl, rfl, rfl, rfl, rfl, rfl, rfl, (congrArg (Value.int .i64) (show ((((k : Nat) : Int) + 1) : Int) = (((k + 1) : Nat) : Int) by omega)), rfl, rfl, rfl, rfl, rfl, rfl, rfl, rfl, rfl, rfl, rfl, rfl, rfl, rfl, rfl, rfl, rfl, rfl, rfl, rfl, rfl, rfl, rfl, rfl, rfl, rfl, rfl, rfl, rfl, rfl, rfl, rfl, rfl, rfl, rfl, rfl, rfl, rfl, rfl, rfl, rfl, rfl, rfl, rfl, rfl, rfl, rfl, rfl, rfl, rfl, rfl, rfl, rfl, rfl, rfl, rfl, rfl, rfl, rfl, rfl, rfl, rfl, rfl, rfl, rfl, trivial⟩
     · exact ⟨(k + 1), (unL [_, _, _, _, _, _, _, _, _, _, _, _, _, _, _, _, _, _, _, _, _, _, _, _, _, _, _, _, _, _, _, _, _, _, _, _, _, _, _, _, _, _, _, _, _, _, _, _, _, _, _]), rfl, m158, (((Ch.refl (fun k => w9.heap.size ≤ k) w9).ext k90 (fun k hk => Nat.le_trans (Nat.le_refl w9.heap.size) hk)).extk k157), (by omega), (by first | (intro j hj; omega) | exact find_next (p := (fun c : PCand => decide (c.A.Host = x_a.Host) && decide (c.A.Port = x_a.Port))) (by assumption) (by assumption))⟩
     · show (F_spec_PathTick x_p x_now).Cands.length - ((((k + 1) : Nat) : Int)).toNat < (F_spec_PathTick x_p x_now).Cands.length - (((k : Nat) : Int)).toNat; omega
    refine ct h164 ?_
    refine sr ?_
    have b166 := (((((b46.kp k67).kp k81).ch k84 (Nat.ne_of_lt (Nat.lt_of_lt_of_le p13 (Nat.le_trans (t6 k20.size k26.size k30.size k34.size k39.size k67.size) p79)))).ch k90 (Nat.not_le.2 (Nat.lt_of_lt_of_le p13 (t8 k20.size k26.size k30.size k34.size k39.size k67.size k81.size k84.size)))).kp k157)
    refine lN (L_59 x_p a1 c2) wN isAgg_59 sizeOf_59 b166 ?_
    refine cl wN (C_spec_l16Copy w11 _ x_p (mR_59 (r3.from0 m158) s4)) ?_
    rintro _ w12 ⟨k167, ⟨a168, c169, rfl, o170, s171, ap173⟩⟩
    have m174 := m158.extk k167
    obtain ⟨y175, o176⟩ := OLv.ow o170
    have b177 := (((((((((b27.kp k30).kp k34).kp k39).kp k67).kp k81).ch k84 (Nat.ne_of_lt (Nat.lt_of_lt_of_le p25 (Nat.le_trans (t4 k30.size k34.size k39.size k67.size) p79)))).ch k90 (Nat.not_le.2 (Nat.lt_of_lt_of_le p25 (t6 k30.size k34.size k39.size k67.size k81.size k84.size)))).kp k157).kp k167)
    refine st (va (L_59 (x_p) a168 c169)) (L_59 (x_p) a168 c169) (L_59 (x_p) a168 c169) wN sizeOf_59 b177 ?_
    intro w13 k178 b179 z180
    have m181 := m174.ext k178 (fun k hk => by subst hk; exact Nat.le_trans (Nat.le_trans k14.size k20.size) p24)
    refine ag (vb false) wN ?_
    refine wl_nil <| wq_then <| wc_ret <| wq_blk_ret <| wq_then_ret <| wq_then_ret <| wq_blk_ret <| wq_then_ret ?_
    have o182 := (OLv.ch o170 k178 (fun g h1 h2 hk => by have h3 := Nat.lt_of_lt_of_le p25 (t8 k30.size k34.size k39.size k67.size k81.size k84.size k90.size k157.size); omega))
    refine ret_2 (.inl rfl) (va (L_59 (x_p) a168 c169)) (vb false) rfl (rv_c [(vi (((x_p).At).Host)), (vi (((x_p).At).Port)), (vs a168 ((x_p).Cands).length c169)] rfl b179 isAgg_59 sizeOf_59) rfl ?_
    refine ⟨m181.keep0, ?_⟩
    have hF183 : offS x_p x_now x_a x_draw = ((x_p), false) := by have hz : candAt (F_spec_PathTick x_p x_now) x_a = (k : Int) := findF_some (p := (fun c : PCand => decide (c.A.Host = x_a.Host) && decide (c.A.Port = x_a.Port))) (z := z_PCand) (by assumption) (by omega) (by assumption); have hw : decide (((k : Nat) : Int) < 0) = false := (by simp); simp only [offS, h32, h36, h41, h43, h47, h97, h164, hz, hw]; try rfl
    rw [hF183]
    exact ⟨_, _, rfl, (OLv.now (OLv.low o182 (t11 k14.size k20.size k26.size k30.size k34.size k39.size k67.size k81.size k84.size k90.size k157.size))), s171, ⟨trivial, trivial⟩⟩
  have q185 := of_decide_eq_false h97
  refine cf h97 ?_
  refine wc_exit <| wq_then_exit <| wq_then_exit <| wq_blk_exit <| wq_then <| wc_seq <| sr ?_
  refine pu (vp g78 2) wN ?_
  refine ld (vs a68 ((F_spec_PathTick x_p x_now).Cands).length c69) wN isAgg_57 b93 ?_
  obtain ⟨y186, r187⟩ := RLv.row (OLv.rl o96)
  refine ln wN slTy_57 r187 ?_
  refine pu (vb (decide ((((F_spec_PathTick x_p x_now).Cands).length : Int) = 3))) wN ?_
  refine wl_nil <| wq_then ?_
  rcases bt (decide ((((F_spec_PathTick x_p x_now).Cands).length : Int) = 3)) with h188 | h188
  ·have q189 := of_decide_eq_true h188
   refine ct h188 ?_
   refine sr ?_
   have b190 := ((((b46.kp k67).kp k81).ch k84 (Nat.ne_of_lt (Nat.lt_of_lt_of_le p13 (Nat.le_trans (t6 k20.size k26.size k30.size k34.size k39.size k67.size) p79)))).ch k90 (Nat.not_le.2 (Nat.lt_of_lt_of_le p13 (t8 k20.size k26.size k30.size k34.size k39.size k67.size k81.size k84.size))))
   refine lN (L_59 x_p a1 c2) wN isAgg_59 sizeOf_59 b190 ?_
   refine cl wN (C_spec_l16Copy w10 _ x_p (mR_59 (r3.from0 m89) s4)) ?_
   rintro _ w11 ⟨k191, ⟨a192, c193, rfl, o194, s195, ap197⟩⟩
   have m198 := m89.extk k191
   obtain ⟨y199, o200⟩ := OLv.ow o194
   have b201 := ((((((((b27.kp k30).kp k34).kp k39).kp k67).kp k81).ch k84 (Nat.ne_of_lt (Nat.lt_of_lt_of_le p25 (Nat.le_trans (t4 k30.size k34.size k39.size k67.size) p79)))).ch k90 (Nat.not_le.2 (Nat.lt_of_lt_of_le p25 (t6 k30.size k34.size k39.size k67.size k81.size k84.size)))).kp k191)
   refine st (va (L_59 (x_p) a192 c193)) (L_59 (x_p) a192 c193) (L_59 (x_p) a192 c193) wN sizeOf_59 b201 ?_
   intro w12 k202 b203 z204
   have m205 := m198.ext k202 (fun k hk => by subst hk; exact Nat.le_trans (Nat.le_trans k14.size k20.size) p24)
   refine ag (vb false) wN ?_
   refine wl_nil <| wq_then <| wc_ret <| wq_then_ret ?_
   have o206 := (OLv.ch o194 k202 (fun g h1 h2 hk => by have h3 := Nat.lt_of_lt_of_le p25 (t7 k30.size k34.size k39.size k67.size k81.size k84.size k90.size); omega))
   refine ret_2 (.inl rfl) (va (L_59 (x_p) a192 c193)) (vb false) rfl (rv_c [(vi (((x_p).At).Host)), (vi (((x_p).At).Port)), (vs a192 ((x_p).Cands).length c193)] rfl b203 isAgg_59 sizeOf_59) rfl ?_
   refine ⟨m205.keep0, ?_⟩
   have hF207 : offS x_p x_now x_a x_draw = ((x_p), false) := by have hz : candAt (F_spec_PathTick x_p x_now) x_a = -1 := findF_none (p := (fun c : PCand => decide (c.A.Host = x_a.Host) && decide (c.A.Port = x_a.Port))) (z := z_PCand) (by assumption) (by omega); simp only [offS, h32, h36, h41, h43, h47, h97, h188, hz]; try rfl
   rw [hF207]
   exact ⟨_, _, rfl, (OLv.now (OLv.low o206 (t10 k14.size k20.size k26.size k30.size k34.size k39.size k67.size k81.size k84.size k90.size))), s195, ⟨trivial, trivial⟩⟩
  have q208 := of_decide_eq_false h188
  refine cf h188 ?_
  refine wc_skip <| wq_then <| wc_seq ?_
  refine wc_drawT ([(64, [], [], (fun _ v _ => v = (vp g78 2))), (65, [], [0], (fun _ v _ => v = (vs a68 ((F_spec_PathTick x_p x_now).Cands).length c69))), (66, [], [], (fun _ v _ => v = (.agg #[(vi x_a.Host), (vi x_a.Port)]))), (67, [], [], (fun _ v w => ∃ a0 : Addr, v = .slice (some a0) 0 0 ∧ w.ownsRow w10.heap.size 5 1 (.slice (some a0) 0 0) 0 [])), (68, [], [], (fun _ v _ => v = (vs a6 x_draw.length c7))), (69, [], [3, 4], (fun _ v w => ∃ (a1 : Option Addr) (c1 : Nat), v = .slice a1 x_draw.length c1 ∧ w.ownsRow w10.heap.size 5 1 (.slice a1 x_draw.length c1) x_draw.length (x_draw.map bV) ∧ x_draw.length ≤ 1073741824 ∧ Aps [(a1, c1)])), (70, [], [], (fun _ v _ => v = (vi x_now))), (71, [], [6], (fun _ v _ => v = (vi (x_now + 6)))), (72, [69], [2, 3, 4, 5, 6, 7], (fun e v _ => v = (.agg #[(vi x_a.Host), (vi x_a.Port), (e 69), (vi (x_now + 6))]))), (73, [69], [2, 3, 4, 5, 6, 7, 8], (fun e v w => ∃ (a1 : Option Addr) (c1 : Nat), v = .slice a1 1 c1 ∧ w.ownsRow w10.heap.size 54 4 (.slice a1 1 c1) 1 [(vi x_a.Host), (vi x_a.Port), (e 69), (vi (x_now + 6))]))] : GV) (fun _ w' => Keep w10 w') [] mixed rfl (by kernel_rfl) (by kernel_rfl) ?_ (fun _ _ h => h) (fun _ _ _ _ h _ k => h.trans k) trivial ?_ ?_ ?_
  ·exact ⟨(fun _ _ _ _ h _ => h), (fun _ _ _ _ _ h => h), ⟨(fun _ _ _ _ h _ => h), (fun _ _ _ _ _ h => h), ⟨(fun _ _ _ _ h _ => h), (fun _ _ _ _ _ h => h), ⟨(fun e v w w1 h hk => by obtain ⟨a0x, he, o0x⟩ := h; exact ⟨a0x, he, own_kp o0x hk⟩), (fun _ _ _ _ _ h => h), ⟨(fun _ _ _ _ h _ => h), (fun _ _ _ _ _ h => h), ⟨(fun e v w w1 h hk => by obtain ⟨a0x, c0x, he, o0x, l0x, hap⟩ := h; exact ⟨a0x, c0x, he, own_kp o0x hk, l0x, hap⟩), (fun _ _ _ _ _ h => h), ⟨(fun _ _ _ _ h _ => h), (fun _ _ _ _ _ h => h), ⟨(fun _ _ _ _ h _ => h), (fun _ _ _ _ _ h => h), ⟨(fun _ _ _ _ h _ => h), (fun e1 e2 v w hx h => by have h69x := hx 69 (by simp); simp only [h69x] at h; exact h), ⟨(fun e v w w1 h hk => by obtain ⟨a0x, c0x, he, o0x⟩ := h; exact ⟨a0x, c0x, he, own_kp o0x hk⟩), (fun e1 e2 v w hx h => by have h69x := hx 69 (by simp); simp only [h69x] at h; exact h), trivial⟩⟩⟩⟩⟩⟩⟩⟩⟩⟩
  ·exact trivial
  ·refine ⟨?_, ⟨?_, ⟨?_, ⟨?_, ⟨?_, ⟨?_, ⟨?_, ⟨?_, ⟨?_, ⟨?_, trivial⟩⟩⟩⟩⟩⟩⟩⟩⟩⟩
   ·intro _ w11 k269 _
    have m270 := m89.extk k269
    rintro _ _ _ _ _ _ _ _ _ _
    show WL _ _ _ _ _ _ _
    refine pu (vp g78 2) wN ?_
    exact wl_finT (Ch.refl _ _) rfl
   ·intro _ w11 k271 _
    have m272 := m89.extk k271
    rintro _ rfl _ _ _ _ _ _ _ _ _
    show WL _ _ _ _ _ _ _
    have b273 := (b93.kp k271)
    refine ld (vs a68 ((F_spec_PathTick x_p x_now).Cands).length c69) wN isAgg_57 b273 ?_
    exact wl_finT (Ch.refl _ _) rfl
   ·intro _ w11 k274 _
    have m275 := m89.extk k274
    rintro _ _ _ _ _ _ _ _ _ _
    show WL _ _ _ _ _ _ _
    have b276 := (((((b45.kp k67).kp k81).ch k84 (Nat.ne_of_lt (Nat.lt_of_lt_of_le p19 (Nat.le_trans (t5 k26.size k30.size k34.size k39.size k67.size) p79)))).ch k90 (Nat.not_le.2 (Nat.lt_of_lt_of_le p19 (t7 k26.size k30.size k34.size k39.size k67.size k81.size k84.size)))).kp k274)
    refine lN (L_26 x_a) wN isAgg_26 sizeOf_26 b276 ?_
    exact wl_finT (Ch.refl _ _) rfl
   ·intro _ w11 k277 _
    have m278 := m89.extk k277
    rintro _ _ _ _ _ _ _ _ _ _
    show WL _ _ _ _ _ _ _
    refine wl_lit0 wN rfl rfl slTy_22 (fun w => by kernel_rfl) ?_
    intro a279 w12 k280 o281
    have m282 := m278.extk k280
    exact wl_finT k280 ⟨_, rfl, own_lo o281 k277.size⟩
   ·intro _ w11 k284 _
    have m285 := m89.extk k284
    rintro _ _ _ _ _ _ _ _ _ _
    show WL _ _ _ _ _ _ _
    refine mv (vs a6 x_draw.length c7) wN ?_
    exact wl_finT (Ch.refl _ _) rfl
   ·intro _ w11 k286 _
    have m287 := m89.extk k286
    rintro _ _ _ _ ⟨a288, rfl, o290⟩ _ rfl _ _ _ _ _
    show WL _ _ _ _ _ _ _
    refine wl_append0 wN rfl rfl rfl slTy_22 rfl rfl o290 (r8.from0 m287) (all_bV _) (by first | (simp only [List.length_append, List.length_cons, List.length_nil, List.length_replicate]; omega) | omega) (by simp only [maxLen]; first | (simp only [List.length_append, List.length_cons, List.length_nil, List.length_replicate]; omega) | omega) k286.size ?_
    intro u293 w12 k294 o295 j296
    obtain ⟨a297, c298, rfl⟩ := own_form o295
    have n299 : New w11 a297 c298 := j296 _ _ rfl
    have m300 := m287.extk k294
    exact wl_finT k294 ⟨_, _, rfl, o295, s9, ⟨trivial, trivial⟩⟩
   ·intro _ w11 k302 _
    have m303 := m89.extk k302
    rintro _ _ _ _ _ _ _ _ _ _
    show WL _ _ _ _ _ _ _
    refine mv (vi x_now) wN ?_
    exact wl_finT (Ch.refl _ _) rfl
   ·intro _ w11 k304 _
    have m305 := m89.extk k304
    rintro _ _ _ _ _ _ _ rfl _ _ _
    show WL _ _ _ _ _ _ _
    refine ar (x_now + 6) wN ?_
    exact wl_finT (Ch.refl _ _) rfl
   ·intro _ w11 k306 _
    have m307 := m89.extk k306
    rintro _ _ _ rfl _ ⟨a309, rfl, o311⟩ _ rfl _ ⟨a314, c315, rfl, o316, s317, -⟩ _ rfl _ rfl _ _
    show WL _ _ _ _ _ _ _
    refine pu (va [(vi x_a.Host), (vi x_a.Port), (vs a314 x_draw.length c315), (vi (x_now + 6))]) wN ?_
    exact wl_finT (Ch.refl _ _) rfl
   ·intro _ w11 k319 _
    have m320 := m89.extk k319
    rintro _ _ _ rfl _ ⟨a322, rfl, o324⟩ _ rfl _ ⟨a327, c328, rfl, o329, s330, -⟩ _ rfl _ rfl _ rfl _
    show WL _ _ _ _ _ _ _
    refine wl_lit [(vi x_a.Host), (vi x_a.Port), (vs a327 x_draw.length c328), (vi (x_now + 6))] wN rfl rfl slTy_57 (m := 1) rfl (by simp only [maxLen]; omega) (fun w => by kernel_rfl) ?_
    intro u332 w12 k333 o334
    obtain ⟨a335, c336, rfl⟩ := own_form o334
    have m337 := m320.extk k333
    exact wl_finT k333 ⟨_, _, rfl, own_lo o334 k319.size⟩
  ·intro _ w11 k339
   have m340 := m89.extk k339
   rintro _ rfl _ rfl _ rfl _ ⟨a343, rfl, o345⟩ _ rfl _ ⟨a348, c349, rfl, o350, s351, -⟩ _ rfl _ rfl _ rfl _ ⟨a353, c354, rfl, o355⟩
   show WL _ _ _ _ _ _ _
   have o357 := (OLv.kp o96 k339)
   refine wl_appL (L := LT_54) (xs := (F_spec_PathTick x_p x_now).Cands) (el := { A := x_a, Draw := x_draw, Until := (x_now + 6) : PCand }) (l := [(a348, c349)]) wN slTy_57 o357 (Rd.of_own o355) ⟨⟨(own_lo o350 (t3 k81.size k84.size k90.size)), s351⟩, trivial⟩ ⟨trivial, trivial⟩ (Nat.le_refl _) k67.size (by first | omega | (simp only [List.length_take, List.length_append, List.length_cons, List.length_nil]; omega) | (refine Nat.le_trans (Nat.succ_le_succ (List.length_filter_le _ _)) ?_; simp only [List.length_take]; omega)) (t5 k67.size k81.size k84.size k90.size k339.size) ?_
   intro a358 c359 w12 k360 o361
   have m362 := m340.ext k360 (fun k hk => Nat.le_trans (t6 k14.size k20.size k26.size k30.size k34.size k39.size) (own_lt o76 k hk).1)
   obtain ⟨y365, o366⟩ := OLv.ow o361
   refine pu (vp g78 2) wN ?_
   have b367 := ((b93.kp k339).ch k360 (fun h => by have := (own_lt o76 _ h).2; have := Nat.le_trans (Nat.le_refl w7.heap.size) p79; omega))
   refine st (vs a358 ((F_spec_PathTick x_p x_now).Cands ++ [{ A := x_a, Draw := x_draw, Until := (x_now + 6) : PCand }]).length c359) [(vs a358 ((F_spec_PathTick x_p x_now).Cands ++ [{ A := x_a, Draw := x_draw, Until := (x_now + 6) : PCand }]).length c359)] [(vi (((F_spec_PathTick x_p x_now).At).Host)), (vi (((F_spec_PathTick x_p x_now).At).Port)), (vs a358 ((F_spec_PathTick x_p x_now).Cands ++ [{ A := x_a, Draw := x_draw, Until := (x_now + 6) : PCand }]).length c359)] wN sizeOf_57 b367 ?_
   intro w13 k368 b369 z370
   have m371 := m362.ext k368 (fun k hk => by subst hk; exact Nat.le_trans (t7 k14.size k20.size k26.size k30.size k34.size k39.size k67.size) p79)
   refine nx ?_
   refine lN [(vi (((F_spec_PathTick x_p x_now).At).Host)), (vi (((F_spec_PathTick x_p x_now).At).Port)), (vs a358 ((F_spec_PathTick x_p x_now).Cands ++ [{ A := x_a, Draw := x_draw, Until := (x_now + 6) : PCand }]).length c359)] wN isAgg_59 sizeOf_59 b369 ?_
   have b372 := ((((((((((b27.kp k30).kp k34).kp k39).kp k67).kp k81).ch k84 (Nat.ne_of_lt (Nat.lt_of_lt_of_le p25 (Nat.le_trans (t4 k30.size k34.size k39.size k67.size) p79)))).ch k90 (Nat.not_le.2 (Nat.lt_of_lt_of_le p25 (t6 k30.size k34.size k39.size k67.size k81.size k84.size)))).kp k339).ch k360 (fun h => by have := (own_lt o76 _ h).1; have := Nat.lt_of_lt_of_le p25 (t3 k30.size k34.size k39.size); omega)).ch k368 (Nat.ne_of_lt (Nat.lt_of_lt_of_le p25 (Nat.le_trans (t4 k30.size k34.size k39.size k67.size) p79))))
   refine st (va [(vi (((F_spec_PathTick x_p x_now).At).Host)), (vi (((F_spec_PathTick x_p x_now).At).Port)), (vs a358 ((F_spec_PathTick x_p x_now).Cands ++ [{ A := x_a, Draw := x_draw, Until := (x_now + 6) : PCand }]).length c359)]) [(vi (((F_spec_PathTick x_p x_now).At).Host)), (vi (((F_spec_PathTick x_p x_now).At).Port)), (vs a358 ((F_spec_PathTick x_p x_now).Cands ++ [{ A := x_a, Draw := x_draw, Until := (x_now + 6) : PCand }]).length c359)] [(vi (((F_spec_PathTick x_p x_now).At).Host)), (vi (((F_spec_PathTick x_p x_now).At).Port)), (vs a358 ((F_spec_PathTick x_p x_now).Cands ++ [{ A := x_a, Draw := x_draw, Until := (x_now + 6) : PCand }]).length c359)] wN sizeOf_59 b372 ?_
   intro w14 k373 b374 z375
   have m376 := m371.ext k373 (fun k hk => by subst hk; exact Nat.le_trans (Nat.le_trans k14.size k20.size) p24)
   refine ag (vb true) wN ?_
   refine wl_nil <| wq_then <| wc_ret ?_
   have o377 := (OLv.ch (olv_blk o361 b367 (by decide) (by decide) k368) k373 (fun g h1 h2 hk => by have h3 := Nat.lt_of_lt_of_le p25 (t3 k30.size k34.size k39.size); omega))
   refine ret_2 (.inl rfl) (va [(vi (((F_spec_PathTick x_p x_now).At).Host)), (vi (((F_spec_PathTick x_p x_now).At).Port)), (vs a358 ((F_spec_PathTick x_p x_now).Cands ++ [{ A := x_a, Draw := x_draw, Until := (x_now + 6) : PCand }]).length c359)]) (vb true) rfl (rv_c [(vi (((F_spec_PathTick x_p x_now).At).Host)), (vi (((F_spec_PathTick x_p x_now).At).Port)), (vs a358 ((F_spec_PathTick x_p x_now).Cands ++ [{ A := x_a, Draw := x_draw, Until := (x_now + 6) : PCand }]).length c359)] rfl b374 isAgg_59 sizeOf_59) rfl ?_
   refine ⟨m376.keep0, ?_⟩
   have hF378 : offS x_p x_now x_a x_draw = ({ At := ((F_spec_PathTick x_p x_now).At), Cands := ((F_spec_PathTick x_p x_now).Cands ++ [{ A := x_a, Draw := x_draw, Until := (x_now + 6) : PCand }]) : PPaths }, true) := by have hz : candAt (F_spec_PathTick x_p x_now) x_a = -1 := findF_none (p := (fun c : PCand => decide (c.A.Host = x_a.Host) && decide (c.A.Port = x_a.Port))) (z := z_PCand) (by assumption) (by omega); simp only [offS, h32, h36, h41, h43, h47, h97, h188, hz]; try rfl
   rw [hF378]
   exact ⟨_, _, rfl, (OLv.now (OLv.low o377 (t6 k14.size k20.size k26.size k30.size k34.size k39.size))), (OLv.small o361), ⟨trivial, trivial⟩⟩

def F_impl_Offer (x_p : PPaths) (x_now : Int) (x_a : PAddr) (x_draw : List UInt8) : (PPaths) × (Bool) := bif (iPa x_p) then (bif (F_impl_within x_now 0 1000000) then (bif (F_impl_AddrOk x_a) then (bif (F_impl_isNonce x_draw) then (bif (decide (x_a.Host = x_p.At.Host) && decide (x_a.Port = x_p.At.Port)) then (((x_p), false)) else (bif (decide (0 ≤ (candAt (F_impl_withoutExpired x_p x_now) x_a))) then (((x_p), false)) else (bif (decide ((((F_impl_withoutExpired x_p x_now).Cands).length : Int) = 3)) then (((x_p), false)) else (({ At := ((F_impl_withoutExpired x_p x_now).At), Cands := ((F_impl_withoutExpired x_p x_now).Cands ++ [{ A := x_a, Draw := (F_impl_clone x_draw), Until := (x_now + 6) : PCand }]) : PPaths }, true))))) else (((x_p), false))) else (((x_p), false))) else (((x_p), false))) else (((x_p), false))
theorem C_impl_Offer (w0 : World) (v_x_p : Value) (x_p : PPaths) (r_x_p : R_59 w0 v_x_p x_p) (x_now : Int) (v_x_a : Value) (x_a : PAddr) (r_x_a : R_26 w0 v_x_a x_a) (v_x_draw : Value) (x_draw : List UInt8) (r_x_draw : R_22 w0 v_x_draw x_draw)  : Fn Try.prog 42 #[v_x_p, (vi x_now), v_x_a, v_x_draw] w0 (fun v w' => Keep w0 w' ∧ O_59_4 w' w0.heap.size v (F_impl_Offer x_p x_now x_a x_draw)) := by
 obtain ⟨a1, c2, rfl, r3, s4⟩ := r_x_p
 obtain rfl := r_x_a
 obtain ⟨a6, c7, rfl, r8, s9⟩ := r_x_draw
 refine fn_of (n := 64) (l := [(va (L_59 x_p a1 c2)), (vi x_now), (va (L_26 x_a)), (vs a6 x_draw.length c7), U, U, U, U, U, U, U, U, U, U, U, U, U, U, U, U, U, U, U, U, U, U, U, U, U, U, U, U, U, U, U, U, U, U, U, U, U, U, U, U, U, U, U, U, U, U, U, U, U, U, U, U, U, U, U, U, U, U, U, U]) Try.func42 rfl rfl (by kernel_rfl) rfl ?_
 refine sr ?_
 refine bx (L_59 x_p a1 c2) wN ?_
 intro g11 w1 p12 p13 k14 b15
 have m16 := (Ch.base w0).extk k14
 refine bx (L_26 x_a) wN ?_
 intro g17 w2 p18 p19 k20 b21
 have m22 := m16.extk k20
 refine al [(vi 0), (vi 0), (vs none 0 0)] wN zero_59 ?_
 intro g23 w3 p24 p25 k26 b27
 have m28 := m22.extk k26
 refine ag (vb false) wN ?_
 refine wl_nil <| wq_then <| wc_seq <| sr ?_
 have b29 := ((b15.kp k20).kp k26)
 refine lN (L_59 x_p a1 c2) wN isAgg_59 sizeOf_59 b29 ?_
 refine cl wN (C_impl_PathsOk w3 _ x_p (mR_59 (r3.from0 m28) s4)) ?_
 rintro _ w4 ⟨k30, rfl⟩
 have m31 := m28.extk k30
 refine pu (vb (!(iPa x_p))) wN ?_
 refine mv (vb (!(iPa x_p))) wN ?_
 rcases bf (iPa x_p) with h32 | h32
 ·refine sk (congrArg not h32) ?_
  refine sk (congrArg not h32) ?_
  refine sk (congrArg not h32) ?_
  refine pk (vb true) wN (congrArg not h32) ?_
  refine mv (vb true) wN ?_
  refine sk (Eq.refl true) ?_
  refine sk (Eq.refl true) ?_
  refine sk (Eq.refl true) ?_
  refine pk (vb true) wN (Eq.refl true) ?_
  refine mv (vb true) wN ?_
  refine sk (Eq.refl true) ?_
  refine sk (Eq.refl true) ?_
  refine sk (Eq.refl true) ?_
  refine pk (vb true) wN (Eq.refl true) ?_
  refine mv (vb true) wN ?_
  refine sk (Eq.refl true) ?_
  refine sk (Eq.refl true) ?_
  refine sk (Eq.refl true) ?_
  refine sk (Eq.refl true) ?_
  refine pk (vb true) wN (Eq.refl true) ?_
  refine wl_nil <| wq_then ?_
  refine ct (Eq.refl true) ?_
  refine sr ?_
  have b329 := (b29.kp k30)
  refine lN (L_59 x_p a1 c2) wN isAgg_59 sizeOf_59 b329 ?_
  refine cl wN (C_impl_copyPaths w4 _ x_p (mR_59 (r3.from0 m31) s4)) ?_
  rintro _ w5 ⟨k330, ⟨a331, c332, rfl, o333, s334, ap336⟩⟩
  have m337 := m31.extk k330
  obtain ⟨y338, o339⟩ := OLv.ow o333
  have b340 := ((b27.kp k30).kp k330)
  refine st (va (L_59 (x_p) a331 c332)) (L_59 (x_p) a331 c332) (L_59 (x_p) a331 c332) wN sizeOf_59 b340 ?_
  intro w6 k341 b342 z343
  have m344 := m337.ext k341 (fun k hk => by subst hk; exact Nat.le_trans (Nat.le_trans k14.size k20.size) p24)
  refine ag (vb false) wN ?_
  refine wl_nil <| wq_then <| wc_ret <| wq_then_ret ?_
  have o345 := (OLv.ch o333 k341 (fun g h1 h2 hk => by have h3 := Nat.lt_of_lt_of_le p25 k30.size; omega))
  refine ret_2 (.inl rfl) (va (L_59 (x_p) a331 c332)) (vb false) rfl (rv_c [(vi (((x_p).At).Host)), (vi (((x_p).At).Port)), (vs a331 ((x_p).Cands).length c332)] rfl b342 isAgg_59 sizeOf_59) rfl ?_
  refine ⟨m344.keep0, ?_⟩
  have hF346 : F_impl_Offer x_p x_now x_a x_draw = ((x_p), false) := by simp only [F_impl_Offer, h32, cond_true, cond_false]
  rw [hF346]
  exact ⟨_, _, rfl, (OLv.now (OLv.low o345 (t4 k14.size k20.size k26.size k30.size))), s334, ⟨trivial, trivial⟩⟩
 have q33 := iPa_t h32
 refine mv (vi x_now) (wS (congrArg not h32)) ?_
 refine cl (wS (congrArg not h32)) (C_impl_within w4 x_now 0 1000000) ?_
 rintro _ w5 ⟨k34, rfl⟩
 have m35 := m31.extk k34
 refine pu (vb (!(F_impl_within x_now 0 1000000))) (wS (congrArg not h32)) ?_
 refine pf (vb (!(F_impl_within x_now 0 1000000))) wN (congrArg not h32) ?_
 refine mv (vb (!(F_impl_within x_now 0 1000000))) wN ?_
 rcases bf (F_impl_within x_now 0 1000000) with h36 | h36
 ·have q309 := impl_within_f h36
  refine sk (congrArg not h36) ?_
  refine sk (congrArg not h36) ?_
  refine sk (congrArg not h36) ?_
  refine pk (vb true) wN (congrArg not h36) ?_
  refine mv (vb true) wN ?_
  refine sk (Eq.refl true) ?_
  refine sk (Eq.refl true) ?_
  refine sk (Eq.refl true) ?_
  refine pk (vb true) wN (Eq.refl true) ?_
  refine mv (vb true) wN ?_
  refine sk (Eq.refl true) ?_
  refine sk (Eq.refl true) ?_
  refine sk (Eq.refl true) ?_
  refine sk (Eq.refl true) ?_
  refine pk (vb true) wN (Eq.refl true) ?_
  refine wl_nil <| wq_then ?_
  refine ct (Eq.refl true) ?_
  refine sr ?_
  have b310 := ((b29.kp k30).kp k34)
  refine lN (L_59 x_p a1 c2) wN isAgg_59 sizeOf_59 b310 ?_
  refine cl wN (C_impl_copyPaths w5 _ x_p (mR_59 (r3.from0 m35) s4)) ?_
  rintro _ w6 ⟨k311, ⟨a312, c313, rfl, o314, s315, ap317⟩⟩
  have m318 := m35.extk k311
  obtain ⟨y319, o320⟩ := OLv.ow o314
  have b321 := (((b27.kp k30).kp k34).kp k311)
  refine st (va (L_59 (x_p) a312 c313)) (L_59 (x_p) a312 c313) (L_59 (x_p) a312 c313) wN sizeOf_59 b321 ?_
  intro w7 k322 b323 z324
  have m325 := m318.ext k322 (fun k hk => by subst hk; exact Nat.le_trans (Nat.le_trans k14.size k20.size) p24)
  refine ag (vb false) wN ?_
  refine wl_nil <| wq_then <| wc_ret <| wq_then_ret ?_
  have o326 := (OLv.ch o314 k322 (fun g h1 h2 hk => by have h3 := Nat.lt_of_lt_of_le p25 (Nat.le_trans k30.size k34.size); omega))
  refine ret_2 (.inl rfl) (va (L_59 (x_p) a312 c313)) (vb false) rfl (rv_c [(vi (((x_p).At).Host)), (vi (((x_p).At).Port)), (vs a312 ((x_p).Cands).length c313)] rfl b323 isAgg_59 sizeOf_59) rfl ?_
  refine ⟨m325.keep0, ?_⟩
  have hF327 : F_impl_Offer x_p x_now x_a x_draw = ((x_p), false) := by simp only [F_impl_Offer, h32, h36, cond_true, cond_false]
  rw [hF327]
  exact ⟨_, _, rfl, (OLv.now (OLv.low o326 (t5 k14.size k20.size k26.size k30.size k34.size))), s315, ⟨trivial, trivial⟩⟩
 have q37 := impl_within_t h36
 have b38 := (((b21.kp k26).kp k30).kp k34)
 refine lN (L_26 x_a) (wS (congrArg not h36)) isAgg_26 sizeOf_26 b38 ?_
 refine cl (wS (congrArg not h36)) (C_impl_AddrOk w5 _ x_a (mR_26)) ?_
 rintro _ w6 ⟨k39, rfl⟩
 have m40 := m35.extk k39
 refine pu (vb (!(F_impl_AddrOk x_a))) (wS (congrArg not h36)) ?_
 refine pf (vb (!(F_impl_AddrOk x_a))) wN (congrArg not h36) ?_
 refine mv (vb (!(F_impl_AddrOk x_a))) wN ?_
 rcases bf (F_impl_AddrOk x_a) with h41 | h41
 ·refine sk (congrArg not h41) ?_
  refine sk (congrArg not h41) ?_
  refine sk (congrArg not h41) ?_
  refine pk (vb true) wN (congrArg not h41) ?_
  refine mv (vb true) wN ?_
  refine sk (Eq.refl true) ?_
  refine sk (Eq.refl true) ?_
  refine sk (Eq.refl true) ?_
  refine sk (Eq.refl true) ?_
  refine pk (vb true) wN (Eq.refl true) ?_
  refine wl_nil <| wq_then ?_
  refine ct (Eq.refl true) ?_
  refine sr ?_
  have b291 := (((b29.kp k30).kp k34).kp k39)
  refine lN (L_59 x_p a1 c2) wN isAgg_59 sizeOf_59 b291 ?_
  refine cl wN (C_impl_copyPaths w6 _ x_p (mR_59 (r3.from0 m40) s4)) ?_
  rintro _ w7 ⟨k292, ⟨a293, c294, rfl, o295, s296, ap298⟩⟩
  have m299 := m40.extk k292
  obtain ⟨y300, o301⟩ := OLv.ow o295
  have b302 := ((((b27.kp k30).kp k34).kp k39).kp k292)
  refine st (va (L_59 (x_p) a293 c294)) (L_59 (x_p) a293 c294) (L_59 (x_p) a293 c294) wN sizeOf_59 b302 ?_
  intro w8 k303 b304 z305
  have m306 := m299.ext k303 (fun k hk => by subst hk; exact Nat.le_trans (Nat.le_trans k14.size k20.size) p24)
  refine ag (vb false) wN ?_
  refine wl_nil <| wq_then <| wc_ret <| wq_then_ret ?_
  have o307 := (OLv.ch o295 k303 (fun g h1 h2 hk => by have h3 := Nat.lt_of_lt_of_le p25 (t3 k30.size k34.size k39.size); omega))
  refine ret_2 (.inl rfl) (va (L_59 (x_p) a293 c294)) (vb false) rfl (rv_c [(vi (((x_p).At).Host)), (vi (((x_p).At).Port)), (vs a293 ((x_p).Cands).length c294)] rfl b304 isAgg_59 sizeOf_59) rfl ?_
  refine ⟨m306.keep0, ?_⟩
  have hF308 : F_impl_Offer x_p x_now x_a x_draw = ((x_p), false) := by simp only [F_impl_Offer, h32, h36, h41, cond_true, cond_false]
  rw [hF308]
  exact ⟨_, _, rfl, (OLv.now (OLv.low o307 (t6 k14.size k20.size k26.size k30.size k34.size k39.size))), s296, ⟨trivial, trivial⟩⟩
 refine mv (vs a6 x_draw.length c7) (wS (congrArg not h41)) ?_
 refine cl (wS (congrArg not h41)) (C_impl_isNonce w6 _ x_draw (mR_22 (r8.from0 m40) s9)) ?_
 rintro _ w7 ⟨k43, rfl⟩
 have m44 := m40.extk k43
 refine pu (vb (!(F_impl_isNonce x_draw))) (wS (congrArg not h41)) ?_
 refine pf (vb (!(F_impl_isNonce x_draw))) wN (congrArg not h41) ?_
 refine mv (vb (!(F_impl_isNonce x_draw))) wN ?_
 rcases bf (F_impl_isNonce x_draw) with h45 | h45
 ·refine sk (congrArg not h45) ?_
  refine sk (congrArg not h45) ?_
  refine sk (congrArg not h45) ?_
  refine sk (congrArg not h45) ?_
  refine pk (vb true) wN (congrArg not h45) ?_
  refine wl_nil <| wq_then ?_
  refine ct (Eq.refl true) ?_
  refine sr ?_
  have b272 := ((((b29.kp k30).kp k34).kp k39).kp k43)
  refine lN (L_59 x_p a1 c2) wN isAgg_59 sizeOf_59 b272 ?_
  refine cl wN (C_impl_copyPaths w7 _ x_p (mR_59 (r3.from0 m44) s4)) ?_
  rintro _ w8 ⟨k273, ⟨a274, c275, rfl, o276, s277, ap279⟩⟩
  have m280 := m44.extk k273
  obtain ⟨y281, o282⟩ := OLv.ow o276
  have b283 := (((((b27.kp k30).kp k34).kp k39).kp k43).kp k273)
  refine st (va (L_59 (x_p) a274 c275)) (L_59 (x_p) a274 c275) (L_59 (x_p) a274 c275) wN sizeOf_59 b283 ?_
  intro w9 k284 b285 z286
  have m287 := m280.ext k284 (fun k hk => by subst hk; exact Nat.le_trans (Nat.le_trans k14.size k20.size) p24)
  refine ag (vb false) wN ?_
  refine wl_nil <| wq_then <| wc_ret <| wq_then_ret ?_
  have o288 := (OLv.ch o276 k284 (fun g h1 h2 hk => by have h3 := Nat.lt_of_lt_of_le p25 (t4 k30.size k34.size k39.size k43.size); omega))
  refine ret_2 (.inl rfl) (va (L_59 (x_p) a274 c275)) (vb false) rfl (rv_c [(vi (((x_p).At).Host)), (vi (((x_p).At).Port)), (vs a274 ((x_p).Cands).length c275)] rfl b285 isAgg_59 sizeOf_59) rfl ?_
  refine ⟨m287.keep0, ?_⟩
  have hF289 : F_impl_Offer x_p x_now x_a x_draw = ((x_p), false) := by simp only [F_impl_Offer, h32, h36, h41, h45, cond_true, cond_false]
  rw [hF289]
  exact ⟨_, _, rfl, (OLv.now (OLv.low o288 (t7 k14.size k20.size k26.size k30.size k34.size k39.size k43.size))), s277, ⟨trivial, trivial⟩⟩
 have b47 := ((b38.kp k39).kp k43)
 refine lN (L_26 x_a) (wS (congrArg not h45)) isAgg_26 sizeOf_26 b47 ?_
 refine pu (vp g11 0) (wS (congrArg not h45)) ?_
 have b48 := ((((b29.kp k30).kp k34).kp k39).kp k43)
 refine lN (L_26 x_p.At) (wS (congrArg not h45)) isAgg_26 sizeOf_26 b48 ?_
 refine wl_aggeq ((decide (x_a.Host = x_p.At.Host) && decide (x_a.Port = x_p.At.Port))) (wS (congrArg not h45)) rfl rfl rfl rfl rfl guardt_26 (aggeq_26 x_a.Host x_p.At.Host x_a.Port x_p.At.Port w7) ?_
 refine pf (vb (decide (x_a.Host = x_p.At.Host) && decide (x_a.Port = x_p.At.Port))) wN (congrArg not h45) ?_
 refine wl_nil <| wq_then ?_
 rcases bt (decide (x_a.Host = x_p.At.Host) && decide (x_a.Port = x_p.At.Port)) with h49 | h49
 ·refine ct h49 ?_
  refine sr ?_
  refine lN (L_59 x_p a1 c2) wN isAgg_59 sizeOf_59 b48 ?_
  refine cl wN (C_impl_copyPaths w7 _ x_p (mR_59 (r3.from0 m44) s4)) ?_
  rintro _ w8 ⟨k51, ⟨a52, c53, rfl, o54, s55, ap57⟩⟩
  have m58 := m44.extk k51
  obtain ⟨y59, o60⟩ := OLv.ow o54
  have b61 := (((((b27.kp k30).kp k34).kp k39).kp k43).kp k51)
  refine st (va (L_59 (x_p) a52 c53)) (L_59 (x_p) a52 c53) (L_59 (x_p) a52 c53) wN sizeOf_59 b61 ?_
  intro w9 k62 b63 z64
  have m65 := m58.ext k62 (fun k hk => by subst hk; exact Nat.le_trans (Nat.le_trans k14.size k20.size) p24)
  refine ag (vb false) wN ?_
  refine wl_nil <| wq_then <| wc_ret <| wq_then_ret ?_
  have o66 := (OLv.ch o54 k62 (fun g h1 h2 hk => by have h3 := Nat.lt_of_lt_of_le p25 (t4 k30.size k34.size k39.size k43.size); omega))
  refine ret_2 (.inl rfl) (va (L_59 (x_p) a52 c53)) (vb false) rfl (rv_c [(vi (((x_p).At).Host)), (vi (((x_p).At).Port)), (vs a52 ((x_p).Cands).length c53)] rfl b63 isAgg_59 sizeOf_59) rfl ?_
  refine ⟨m65.keep0, ?_⟩
  have hF67 : F_impl_Offer x_p x_now x_a x_draw = ((x_p), false) := by simp only [F_impl_Offer, h32, h36, h41, h45, h49, cond_true, cond_false]
  rw [hF67]
  exact ⟨_, _, rfl, (OLv.now (OLv.low o66 (t7 k14.size k20.size k26.size k30.size k34.size k39.size k43.size))), s55, ⟨trivial, trivial⟩⟩
 refine cf h49 ?_
 refine wc_skip <| wq_then <| sr ?_
 refine lN (L_59 x_p a1 c2) wN isAgg_59 sizeOf_59 b48 ?_
 refine mv (vi x_now) wN ?_
 refine cl wN (C_impl_withoutExpired w7 _ x_p (mR_59 (r3.from0 m44) s4) x_now) ?_
 rintro _ w8 ⟨k69, ⟨a70, c71, rfl, o72, s73, ap75⟩⟩
 have m76 := m44.extk k69
 obtain ⟨y77, o78⟩ := OLv.ow o72
 refine al [(vi 0), (vi 0), (vs none 0 0)] wN zero_59 ?_
 intro g79 w9 p80 p81 k82 b83
 have m84 := m76.extk k82
 refine st (va (L_59 (F_impl_withoutExpired x_p x_now) a70 c71)) (L_59 (F_impl_withoutExpired x_p x_now) a70 c71) (L_59 (F_impl_withoutExpired x_p x_now) a70 c71) wN sizeOf_59 b83 ?_
 intro w10 k85 b86 z87
 have m88 := m84.ext k85 (fun k hk => by subst hk; exact Nat.le_trans (t8 k14.size k20.size k26.size k30.size k34.size k39.size k43.size k69.size) p80)
 refine wl_nil <| wq_then <| wc_seq <| sr ?_
 refine lN (L_59 (F_impl_withoutExpired x_p x_now) a70 c71) wN isAgg_59 sizeOf_59 b86 ?_
 have b89 := (((b47.kp k69).kp k82).ch k85 (Nat.ne_of_lt (Nat.lt_of_lt_of_le p19 (Nat.le_trans (t6 k26.size k30.size k34.size k39.size k43.size k69.size) p80))))
 refine lN (L_26 x_a) wN isAgg_26 sizeOf_26 b89 ?_
 have o90 := (OLv.ch (OLv.kp o72 k82) k85 (fun g h1 h2 hk => by have h3 := Nat.le_trans (Nat.le_refl w8.heap.size) p80; omega))
 refine cl wN (C_impl_candAt w10 _ (F_impl_withoutExpired x_p x_now) (mR_59 (OLv.rl o90) s73) _ x_a (mR_26)) ?_
 rintro _ w11 ⟨k91, rfl⟩
 have m92 := m88.extk k91
 have q93 := candAt_range (F_impl_withoutExpired x_p x_now) x_a
 refine pu (vb (decide (0 ≤ (candAt (F_impl_withoutExpired x_p x_now) x_a)))) wN ?_
 refine mv (vb (decide (0 ≤ (candAt (F_impl_withoutExpired x_p x_now) x_a)))) wN ?_
 rcases bt (decide (0 ≤ (candAt (F_impl_withoutExpired x_p x_now) x_a))) with h94 | h94
 ·have q95 := of_decide_eq_true h94
  refine sk h94 ?_
  refine sk h94 ?_
  refine sk h94 ?_
  refine sk h94 ?_
  refine pk (vb true) wN h94 ?_
  refine wl_nil <| wq_then ?_
  refine ct (Eq.refl true) ?_
  refine sr ?_
  have b96 := ((((b48.kp k69).kp k82).ch k85 (Nat.ne_of_lt (Nat.lt_of_lt_of_le p13 (Nat.le_trans (t7 k20.size k26.size k30.size k34.size k39.size k43.size k69.size) p80)))).kp k91)
  refine lN (L_59 x_p a1 c2) wN isAgg_59 sizeOf_59 b96 ?_
  refine cl wN (C_impl_copyPaths w11 _ x_p (mR_59 (r3.from0 m92) s4)) ?_
  rintro _ w12 ⟨k97, ⟨a98, c99, rfl, o100, s101, ap103⟩⟩
  have m104 := m92.extk k97
  obtain ⟨y105, o106⟩ := OLv.ow o100
  have b107 := (((((((((b27.kp k30).kp k34).kp k39).kp k43).kp k69).kp k82).ch k85 (Nat.ne_of_lt (Nat.lt_of_lt_of_le p25 (Nat.le_trans (t5 k30.size k34.size k39.size k43.size k69.size) p80)))).kp k91).kp k97)
  refine st (va (L_59 (x_p) a98 c99)) (L_59 (x_p) a98 c99) (L_59 (x_p) a98 c99) wN sizeOf_59 b107 ?_
  intro w13 k108 b109 z110
  have m111 := m104.ext k108 (fun k hk => by subst hk; exact Nat.le_trans (Nat.le_trans k14.size k20.size) p24)
  refine ag (vb false) wN ?_
  refine wl_nil <| wq_then <| wc_ret <| wq_then_ret ?_
  have o112 := (OLv.ch o100 k108 (fun g h1 h2 hk => by have h3 := Nat.lt_of_lt_of_le p25 (t8 k30.size k34.size k39.size k43.size k69.size k82.size k85.size k91.size); omega))
  refine ret_2 (.inl rfl) (va (L_59 (x_p) a98 c99)) (vb false) rfl (rv_c [(vi (((x_p).At).Host)), (vi (((x_p).At).Port)), (vs a98 ((x_p).Cands).length c99)] rfl b109 isAgg_59 sizeOf_59) rfl ?_
  refine ⟨m111.keep0, ?_⟩
  have hF113 : F_impl_Offer x_p x_now x_a x_draw = ((x_p), false) := by simp only [F_impl_Offer, h32, h36, h41, h45, h49, h94, cond_true, cond_false]
  rw [hF113]
  exact ⟨_, _, rfl, (OLv.now (OLv.low o112 (t11 k14.size k20.size k26.size k30.size k34.size k39.size k43.size k69.size k82.size k85.size k91.size))), s101, ⟨trivial, trivial⟩⟩
 have q114 := of_decide_eq_false h94
 refine pu (vp g79 2) (wS h94) ?_
 have b115 := (b86.kp k91)
 refine ld (vs a70 ((F_impl_withoutExpired x_p x_now).Cands).length c71) (wS h94) isAgg_57 b115 ?_
 have o118 := (OLv.kp o90 k91)
 obtain ⟨y116, r117⟩ := RLv.row (OLv.rl o118)
 refine ln (wS h94) slTy_57 r117 ?_
 refine pu (vb (decide ((((F_impl_withoutExpired x_p x_now).Cands).length : Int) = 3))) (wS h94) ?_
 refine pf (vb (decide ((((F_impl_withoutExpired x_p x_now).Cands).length : Int) = 3))) wN h94 ?_
 refine wl_nil <| wq_then ?_
 rcases bt (decide ((((F_impl_withoutExpired x_p x_now).Cands).length : Int) = 3)) with h119 | h119
 ·have q120 := of_decide_eq_true h119
  refine ct h119 ?_
  refine sr ?_
  have b121 := ((((b48.kp k69).kp k82).ch k85 (Nat.ne_of_lt (Nat.lt_of_lt_of_le p13 (Nat.le_trans (t7 k20.size k26.size k30.size k34.size k39.size k43.size k69.size) p80)))).kp k91)
  refine lN (L_59 x_p a1 c2) wN isAgg_59 sizeOf_59 b121 ?_
  refine cl wN (C_impl_copyPaths w11 _ x_p (mR_59 (r3.from0 m92) s4)) ?_
  rintro _ w12 ⟨k122, ⟨a123, c124, rfl, o125, s126, ap128⟩⟩
  have m129 := m92.extk k122
  obtain ⟨y130, o131⟩ := OLv.ow o125
  have b132 := (((((((((b27.kp k30).kp k34).kp k39).kp k43).kp k69).kp k82).ch k85 (Nat.ne_of_lt (Nat.lt_of_lt_of_le p25 (Nat.le_trans (t5 k30.size k34.size k39.size k43.size k69.size) p80)))).kp k91).kp k122)
  refine st (va (L_59 (x_p) a123 c124)) (L_59 (x_p) a123 c124) (L_59 (x_p) a123 c124) wN sizeOf_59 b132 ?_
  intro w13 k133 b134 z135
  have m136 := m129.ext k133 (fun k hk => by subst hk; exact Nat.le_trans (Nat.le_trans k14.size k20.size) p24)
  refine ag (vb false) wN ?_
  refine wl_nil <| wq_then <| wc_ret <| wq_then_ret ?_
  have o137 := (OLv.ch o125 k133 (fun g h1 h2 hk => by have h3 := Nat.lt_of_lt_of_le p25 (t8 k30.size k34.size k39.size k43.size k69.size k82.size k85.size k91.size); omega))
  refine ret_2 (.inl rfl) (va (L_59 (x_p) a123 c124)) (vb false) rfl (rv_c [(vi (((x_p).At).Host)), (vi (((x_p).At).Port)), (vs a123 ((x_p).Cands).length c124)] rfl b134 isAgg_59 sizeOf_59) rfl ?_
  refine ⟨m136.keep0, ?_⟩
  have hF138 : F_impl_Offer x_p x_now x_a x_draw = ((x_p), false) := by simp only [F_impl_Offer, h32, h36, h41, h45, h49, h94, h119, cond_true, cond_false]
  rw [hF138]
  exact ⟨_, _, rfl, (OLv.now (OLv.low o137 (t11 k14.size k20.size k26.size k30.size k34.size k39.size k43.size k69.size k82.size k85.size k91.size))), s126, ⟨trivial, trivial⟩⟩
 have q139 := of_decide_eq_false h119
 refine cf h119 ?_
 refine wc_skip <| wq_then <| wc_seq ?_
 refine wc_drawT ([(52, [], [], (fun _ v _ => v = (vp g79 2))), (53, [], [0], (fun _ v _ => v = (vs a70 ((F_impl_withoutExpired x_p x_now).Cands).length c71))), (54, [], [], (fun _ v _ => v = (.agg #[(vi x_a.Host), (vi x_a.Port)]))), (55, [], [], (fun _ v _ => v = (vs a6 x_draw.length c7))), (56, [], [3], (fun _ v w => ∃ (a1 : Option Addr) (c1 : Nat), v = .slice a1 (F_impl_clone x_draw).length c1 ∧ w.ownsRow (w11.heap.size) 5 1 (.slice a1 (F_impl_clone x_draw).length c1) (F_impl_clone x_draw).length ((F_impl_clone x_draw).map bV) ∧ (F_impl_clone x_draw).length ≤ 1073741824 ∧ Aps [(a1, c1)])), (57, [], [], (fun _ v _ => v = (vi x_now))), (58, [], [5], (fun _ v _ => v = (vi (x_now + 6)))), (59, [56], [2, 3, 4, 5, 6], (fun e v _ => v = (.agg #[(vi x_a.Host), (vi x_a.Port), (e 56), (vi (x_now + 6))]))), (60, [56], [2, 3, 4, 5, 6, 7], (fun e v w => ∃ (a1 : Option Addr) (c1 : Nat), v = .slice a1 1 c1 ∧ w.ownsRow w11.heap.size 54 4 (.slice a1 1 c1) 1 [(vi x_a.Host), (vi x_a.Port), (e 56), (vi (x_now + 6))]))] : GV) (fun _ w' => Keep w11 w') [] mixed rfl (by kernel_rfl) (by kernel_rfl) ?_ (fun _ _ h => h) (fun _ _ _ _ h _ k => h.trans k) trivial ?_ ?_ ?_
 ·exact ⟨(fun _ _ _ _ h _ => h), (fun _ _ _ _ _ h => h), ⟨(fun _ _ _ _ h _ => h), (fun _ _ _ _ _ h => h), ⟨(fun _ _ _ _ h _ => h), (fun _ _ _ _ _ h => h), ⟨(fun _ _ _ _ h _ => h), (fun _ _ _ _ _ h => h), ⟨(fun e v w w1 h hk => by obtain ⟨a0x, c0x, he, o0x, l0x, hap⟩ := h; exact ⟨a0x, c0x, he, own_kp o0x hk, l0x, hap⟩), (fun _ _ _ _ _ h => h), ⟨(fun _ _ _ _ h _ => h), (fun _ _ _ _ _ h => h), ⟨(fun _ _ _ _ h _ => h), (fun _ _ _ _ _ h => h), ⟨(fun _ _ _ _ h _ => h), (fun e1 e2 v w hx h => by have h56x := hx 56 (by simp); simp only [h56x] at h; exact h), ⟨(fun e v w w1 h hk => by obtain ⟨a0x, c0x, he, o0x⟩ := h; exact ⟨a0x, c0x, he, own_kp o0x hk⟩), (fun e1 e2 v w hx h => by have h56x := hx 56 (by simp); simp only [h56x] at h; exact h), trivial⟩⟩⟩⟩⟩⟩⟩⟩⟩
 ·exact trivial
 ·refine ⟨?_, ⟨?_, ⟨?_, ⟨?_, ⟨?_, ⟨?_, ⟨?_, ⟨?_, ⟨?_, trivial⟩⟩⟩⟩⟩⟩⟩⟩⟩
  ·intro _ w12 k186 _
   have m187 := m92.extk k186
   rintro _ _ _ _ _ _ _ _ _
   show WL _ _ _ _ _ _ _
   refine pu (vp g79 2) wN ?_
   exact wl_finT (Ch.refl _ _) rfl
  ·intro _ w12 k188 _
   have m189 := m92.extk k188
   rintro _ rfl _ _ _ _ _ _ _ _
   show WL _ _ _ _ _ _ _
   have b190 := (b115.kp k188)
   refine ld (vs a70 ((F_impl_withoutExpired x_p x_now).Cands).length c71) wN isAgg_57 b190 ?_
   exact wl_finT (Ch.refl _ _) rfl
  ·intro _ w12 k191 _
   have m192 := m92.extk k191
   rintro _ _ _ _ _ _ _ _ _
   show WL _ _ _ _ _ _ _
   have b193 := ((b89.kp k91).kp k191)
   refine lN (L_26 x_a) wN isAgg_26 sizeOf_26 b193 ?_
   exact wl_finT (Ch.refl _ _) rfl
  ·intro _ w12 k194 _
   have m195 := m92.extk k194
   rintro _ _ _ _ _ _ _ _ _
   show WL _ _ _ _ _ _ _
   refine mv (vs a6 x_draw.length c7) wN ?_
   exact wl_finT (Ch.refl _ _) rfl
  ·intro _ w12 k196 _
   have m197 := m92.extk k196
   rintro _ _ _ _ rfl _ _ _ _ _
   show WL _ _ _ _ _ _ _
   refine cl wN (C_impl_clone w12 _ x_draw (mR_22 (r8.from0 m197) s9)) ?_
   rintro _ w13 ⟨k198, ⟨a199, c200, rfl, o201, s202, ap204⟩⟩
   have m205 := m197.extk k198
   exact wl_finT k198 ⟨_, _, rfl, (own_lo o201 k196.size), s202, ap204⟩
  ·intro _ w12 k206 _
   have m207 := m92.extk k206
   rintro _ _ _ _ _ _ _ _ _
   show WL _ _ _ _ _ _ _
   refine mv (vi x_now) wN ?_
   exact wl_finT (Ch.refl _ _) rfl
  ·intro _ w12 k208 _
   have m209 := m92.extk k208
   rintro _ _ _ _ _ _ rfl _ _ _
   show WL _ _ _ _ _ _ _
   refine ar (x_now + 6) wN ?_
   exact wl_finT (Ch.refl _ _) rfl
  ·intro _ w12 k210 _
   have m211 := m92.extk k210
   rintro _ _ _ rfl _ rfl _ ⟨a213, c214, rfl, o215, s216, ap218⟩ _ rfl _ rfl _ _
   show WL _ _ _ _ _ _ _
   refine pu (va [(vi x_a.Host), (vi x_a.Port), (vs a213 (F_impl_clone x_draw).length c214), (vi (x_now + 6))]) wN ?_
   exact wl_finT (Ch.refl _ _) rfl
  ·intro _ w12 k219 _
   have m220 := m92.extk k219
   rintro _ _ _ rfl _ rfl _ ⟨a222, c223, rfl, o224, s225, ap227⟩ _ rfl _ rfl _ rfl _
   show WL _ _ _ _ _ _ _
   refine wl_lit [(vi x_a.Host), (vi x_a.Port), (vs a222 (F_impl_clone x_draw).length c223), (vi (x_now + 6))] wN rfl rfl slTy_57 (m := 1) rfl (by simp only [maxLen]; omega) (fun w => by kernel_rfl) ?_
   intro u228 w13 k229 o230
   obtain ⟨a231, c232, rfl⟩ := own_form o230
   have m233 := m220.extk k229
   exact wl_finT k229 ⟨_, _, rfl, own_lo o230 k219.size⟩
 ·intro _ w12 k235
  have m236 := m92.extk k235
  rintro _ rfl _ rfl _ rfl _ rfl _ ⟨a239, c240, rfl, o241, s242, ap244⟩ _ rfl _ rfl _ rfl _ ⟨a245, c246, rfl, o247⟩
  show WL _ _ _ _ _ _ _
  have o249 := (OLv.kp o118 k235)
  refine wl_appL (L := LT_54) (xs := (F_impl_withoutExpired x_p x_now).Cands) (el := { A := x_a, Draw := (F_impl_clone x_draw), Until := (x_now + 6) : PCand }) (l := [(a239, c240)]) wN slTy_57 o249 (Rd.of_own o247) ⟨⟨(own_lo o241 (t3 k82.size k85.size k91.size)), s242⟩, trivial⟩ ⟨trivial, trivial⟩ (Nat.le_refl _) k69.size (by first | omega | (simp only [List.length_take, List.length_append, List.length_cons, List.length_nil]; omega) | (refine Nat.le_trans (Nat.succ_le_succ (List.length_filter_le _ _)) ?_; simp only [List.length_take]; omega)) (t5 k69.size k82.size k85.size k91.size k235.size) ?_
  intro a250 c251 w13 k252 o253
  have m254 := m236.ext k252 (fun k hk => Nat.le_trans (t7 k14.size k20.size k26.size k30.size k34.size k39.size k43.size) (own_lt o78 k hk).1)
  obtain ⟨y257, o258⟩ := OLv.ow o253
  refine pu (vp g79 2) wN ?_
  have b259 := ((b115.kp k235).ch k252 (fun h => by have := (own_lt o78 _ h).2; have := Nat.le_trans (Nat.le_refl w8.heap.size) p80; omega))
  refine st (vs a250 ((F_impl_withoutExpired x_p x_now).Cands ++ [{ A := x_a, Draw := (F_impl_clone x_draw), Until := (x_now + 6) : PCand }]).length c251) [(vs a250 ((F_impl_withoutExpired x_p x_now).Cands ++ [{ A := x_a, Draw := (F_impl_clone x_draw), Until := (x_now + 6) : PCand }]).length c251)] [(vi (((F_impl_withoutExpired x_p x_now).At).Host)), (vi (((F_impl_withoutExpired x_p x_now).At).Port)), (vs a250 ((F_impl_withoutExpired x_p x_now).Cands ++ [{ A := x_a, Draw := (F_impl_clone x_draw), Until := (x_now + 6) : PCand }]).length c251)] wN sizeOf_57 b259 ?_
  intro w14 k260 b261 z262
  have m263 := m254.ext k260 (fun k hk => by subst hk; exact Nat.le_trans (t8 k14.size k20.size k26.size k30.size k34.size k39.size k43.size k69.size) p80)
  refine nx ?_
  refine lN [(vi (((F_impl_withoutExpired x_p x_now).At).Host)), (vi (((F_impl_withoutExpired x_p x_now).At).Port)), (vs a250 ((F_impl_withoutExpired x_p x_now).Cands ++ [{ A := x_a, Draw := (F_impl_clone x_draw), Until := (x_now + 6) : PCand }]).length c251)] wN isAgg_59 sizeOf_59 b261 ?_
  have b264 := (((((((((((b27.kp k30).kp k34).kp k39).kp k43).kp k69).kp k82).ch k85 (Nat.ne_of_lt (Nat.lt_of_lt_of_le p25 (Nat.le_trans (t5 k30.size k34.size k39.size k43.size k69.size) p80)))).kp k91).kp k235).ch k252 (fun h => by have := (own_lt o78 _ h).1; have := Nat.lt_of_lt_of_le p25 (t4 k30.size k34.size k39.size k43.size); omega)).ch k260 (Nat.ne_of_lt (Nat.lt_of_lt_of_le p25 (Nat.le_trans (t5 k30.size k34.size k39.size k43.size k69.size) p80))))
  refine st (va [(vi (((F_impl_withoutExpired x_p x_now).At).Host)), (vi (((F_impl_withoutExpired x_p x_now).At).Port)), (vs a250 ((F_impl_withoutExpired x_p x_now).Cands ++ [{ A := x_a, Draw := (F_impl_clone x_draw), Until := (x_now + 6) : PCand }]).length c251)]) [(vi (((F_impl_withoutExpired x_p x_now).At).Host)), (vi (((F_impl_withoutExpired x_p x_now).At).Port)), (vs a250 ((F_impl_withoutExpired x_p x_now).Cands ++ [{ A := x_a, Draw := (F_impl_clone x_draw), Until := (x_now + 6) : PCand }]).length c251)] [(vi (((F_impl_withoutExpired x_p x_now).At).Host)), (vi (((F_impl_withoutExpired x_p x_now).At).Port)), (vs a250 ((F_impl_withoutExpired x_p x_now).Cands ++ [{ A := x_a, Draw := (F_impl_clone x_draw), Until := (x_now + 6) : PCand }]).length c251)] wN sizeOf_59 b264 ?_
  intro w15 k265 b266 z267
  have m268 := m263.ext k265 (fun k hk => by subst hk; exact Nat.le_trans (Nat.le_trans k14.size k20.size) p24)
  refine ag (vb true) wN ?_
  refine wl_nil <| wq_then <| wc_ret ?_
  have o269 := (OLv.ch (olv_blk o253 b259 (by decide) (by decide) k260) k265 (fun g h1 h2 hk => by have h3 := Nat.lt_of_lt_of_le p25 (t4 k30.size k34.size k39.size k43.size); omega))
  refine ret_2 (.inl rfl) (va [(vi (((F_impl_withoutExpired x_p x_now).At).Host)), (vi (((F_impl_withoutExpired x_p x_now).At).Port)), (vs a250 ((F_impl_withoutExpired x_p x_now).Cands ++ [{ A := x_a, Draw := (F_impl_clone x_draw), Until := (x_now + 6) : PCand }]).length c251)]) (vb true) rfl (rv_c [(vi (((F_impl_withoutExpired x_p x_now).At).Host)), (vi (((F_impl_withoutExpired x_p x_now).At).Port)), (vs a250 ((F_impl_withoutExpired x_p x_now).Cands ++ [{ A := x_a, Draw := (F_impl_clone x_draw), Until := (x_now + 6) : PCand }]).length c251)] rfl b266 isAgg_59 sizeOf_59) rfl ?_
  refine ⟨m268.keep0, ?_⟩
  have hF270 : F_impl_Offer x_p x_now x_a x_draw = ({ At := ((F_impl_withoutExpired x_p x_now).At), Cands := ((F_impl_withoutExpired x_p x_now).Cands ++ [{ A := x_a, Draw := (F_impl_clone x_draw), Until := (x_now + 6) : PCand }]) : PPaths }, true) := by simp only [F_impl_Offer, h32, h36, h41, h45, h49, h94, h119, cond_true, cond_false]
  rw [hF270]
  exact ⟨_, _, rfl, (OLv.now (OLv.low o269 (t7 k14.size k20.size k26.size k30.size k34.size k39.size k43.size))), (OLv.small o253), ⟨trivial, trivial⟩⟩

theorem isAgg_51 : ∀ w, (isAgg 51).run Try.prog w = .ok true w := fun w => by kernel_rfl
theorem sizeOf_51 : ∀ w, (sizeOf 51).run Try.prog w = .ok 3 w := fun w => by kernel_rfl
abbrev L_51 (x : PPaths) (a1 : Option Addr) (c1 : Nat) : List Value := [vi x.At.Host, vi x.At.Port, vs a1 x.Cands.length c1]
def Q_48 (w : World) (v : Value) (x : (PAddr)) : Prop := v = .agg #[.int .i64 x.Host, .int .i64 x.Port]
theorem mQ_51 {w : World} {x : PPaths} {a1 : Option Addr} {c1 : Nat} (h1 : RLv LT_166 w 9223372036854775807 a1 x.Cands.length c1 x.Cands) (l1 : x.Cands.length ≤ 9223372036854775807) : Q_51 w (va (L_51 x a1 c1)) x := ⟨_, _, rfl, h1, l1⟩
theorem mR_51 {w : World} {x : PPaths} {a1 : Option Addr} {c1 : Nat} (h1 : RLv LT_166 w 1073741824 a1 x.Cands.length c1 x.Cands) (l1 : x.Cands.length ≤ 1073741824) : R_51 w (va (L_51 x a1 c1)) x := ⟨_, _, rfl, h1, l1⟩
def F_laws_FnExactOffer (x_aP : PPaths) (x_aNow : Int) (x_aA : PAddr) (x_aDraw : List UInt8) : (Bool) := bif (decide (1048576 < (x_aDraw.length : Int))) then (true) else (bif (decide ((F_laws_szPaths x_aP 1048576) < 0)) then (true) else (bif (F_laws_eqPaths ((F_impl_Offer (F_laws_toPaths x_aP) x_aNow (F_laws_toAddr x_aA) (cpB x_aDraw)).1) ((offS (F_laws_toPaths x_aP) x_aNow (F_laws_toAddr x_aA) (cpB x_aDraw)).1)) then (bif (((F_impl_Offer (F_laws_toPaths x_aP) x_aNow (F_laws_toAddr x_aA) (cpB x_aDraw)).2) == ((offS (F_laws_toPaths x_aP) x_aNow (F_laws_toAddr x_aA) (cpB x_aDraw)).2)) then (bif (F_laws_eqPaths (F_laws_toPaths x_aP) (F_laws_toPaths x_aP)) then (bif (eqB (cpB x_aDraw) (cpB x_aDraw)) then (bif (decide (((1 + totL wt_PCand ((F_laws_toPaths x_aP).Cands)) + ((cpB x_aDraw).length : Int)) < 0)) then (false) else (bif (decide (((F_laws_heldPaths { At := (((F_impl_Offer (F_laws_toPaths x_aP) x_aNow (F_laws_toAddr x_aA) (cpB x_aDraw)).1).At), Cands := (marksE mkE_PCand wt_PCand (((F_impl_Offer (F_laws_toPaths x_aP) x_aNow (F_laws_toAddr x_aA) (cpB x_aDraw)).1).Cands) 1) : PPaths } 1)) < 0)) then (false) else (bif (decide (((F_laws_heldPaths { At := (((F_impl_Offer (F_laws_toPaths x_aP) x_aNow (F_laws_toAddr x_aA) (cpB x_aDraw)).1).At), Cands := (marksE mkE_PCand wt_PCand (((F_impl_Offer (F_laws_toPaths x_aP) x_aNow (F_laws_toAddr x_aA) (cpB x_aDraw)).1).Cands) 1) : PPaths } 1)) = (1 + totL wt_PCand (((F_impl_Offer (F_laws_toPaths x_aP) x_aNow (F_laws_toAddr x_aA) (cpB x_aDraw)).1).Cands)))) then (true) else (false)))) else (false)) else (false)) else (false)) else (false)))
theorem C_laws_FnExactOffer (w0 : World) (v_x_aP : Value) (x_aP : PPaths) (r_x_aP : Q_51 w0 v_x_aP x_aP) (x_aNow : Int) (v_x_aA : Value) (x_aA : PAddr) (r_x_aA : Q_48 w0 v_x_aA x_aA) (v_x_aDraw : Value) (x_aDraw : List UInt8) (r_x_aDraw : Q_22 w0 v_x_aDraw x_aDraw)  : Fn Try.prog 11 #[v_x_aP, (vi x_aNow), v_x_aA, v_x_aDraw] w0 (fun v w' => Keep w0 w' ∧ O_4 w' w0.heap.size v (F_laws_FnExactOffer x_aP x_aNow x_aA x_aDraw)) := by
 obtain ⟨a1, c2, rfl, r3, s4⟩ := r_x_aP
 obtain rfl := r_x_aA
 obtain ⟨a6, c7, rfl, r8, s9⟩ := r_x_aDraw
 refine fn_of (n := 130) (l := [(va (L_59 x_aP a1 c2)), (vi x_aNow), (va (L_26 x_aA)), (vs a6 x_aDraw.length c7), U, U, U, U, U, U, U, U, U, U, U, U, U, U, U, U, U, U, U, U, U, U, U, U, U, U, U, U, U, U, U, U, U, U, U, U, U, U, U, U, U, U, U, U, U, U, U, U, U, U, U, U, U, U, U, U, U, U, U, U, U, U, U, U, U, U, U, U, U, U, U, U, U, U, U, U, U, U, U, U, U, U, U, U, U, U, U, U, U, U, U, U, U, U, U, U, U, U, U, U, U, U, U, U, U, U, U, U, U, U, U, U, U, U, U, U, U, U, U, U, U, U, U, U, U, U]) Try.func11 rfl rfl (by kernel_rfl) rfl ?_
 refine sr ?_
 refine bx (L_59 x_aP a1 c2) wN ?_
 intro g11 w1 p12 p13 k14 b15
 have m16 := (Ch.base w0).extk k14
 refine bx (L_26 x_aA) wN ?_
 intro g17 w2 p18 p19 k20 b21
 have m22 := m16.extk k20
 refine ag (vb false) wN ?_
 refine wl_nil <| wq_then <| wc_seq <| sr ?_
 refine mv (vs a6 x_aDraw.length c7) wN ?_
 refine ln wN slTy_22 (r8.from0 m22) ?_
 refine pu (vb (decide (1048576 < (x_aDraw.length : Int)))) wN ?_
 refine wl_nil <| wq_then ?_
 rcases bt (decide (1048576 < (x_aDraw.length : Int))) with h23 | h23
 ·have q24 := of_decide_eq_true h23
  refine ct h23 ?_
  refine sr ?_
  refine ag (vb true) wN ?_
  refine wl_nil <| wq_then <| wc_ret <| wq_then_ret ?_
  refine ret_1 (.inl rfl) (vb true) rfl rfl ?_
  refine ⟨m22.keep0, ?_⟩
  have hF25 : F_laws_FnExactOffer x_aP x_aNow x_aA x_aDraw = true := by simp only [F_laws_FnExactOffer, h23, cond_true, cond_false]
  rw [hF25]
  exact rfl
 have q26 := of_decide_eq_false h23
 refine cf h23 ?_
 refine wc_skip <| wq_then <| sr ?_
 refine ag (vi 1048576) wN ?_
 refine nx ?_
 have b27 := (b15.kp k20)
 refine lN (L_59 x_aP a1 c2) wN isAgg_51 sizeOf_51 b27 ?_
 refine mv (vi 1048576) wN ?_
 refine cl wN (C_laws_szPaths w2 _ x_aP (mQ_51 (r3.from0 m22) s4) 1048576 (by omega) (by omega)) ?_
 rintro _ w3 ⟨k28, rfl⟩
 have m29 := m22.extk k28
 refine ag (vi (F_laws_szPaths x_aP 1048576)) wN ?_
 refine wl_nil <| wq_then <| wc_seq <| sr ?_
 refine mv (vi (F_laws_szPaths x_aP 1048576)) wN ?_
 refine pu (vb (decide ((F_laws_szPaths x_aP 1048576) < 0))) wN ?_
 refine wl_nil <| wq_then ?_
 rcases bt (decide ((F_laws_szPaths x_aP 1048576) < 0)) with h30 | h30
 ·have q31 := of_decide_eq_true h30
  refine ct h30 ?_
  refine sr ?_
  refine ag (vb true) wN ?_
  refine wl_nil <| wq_then <| wc_ret <| wq_then_ret ?_
  refine ret_1 (.inl rfl) (vb true) rfl rfl ?_
  refine ⟨m29.keep0, ?_⟩
  have hF32 : F_laws_FnExactOffer x_aP x_aNow x_aA x_aDraw = true := by simp only [F_laws_FnExactOffer, h23, h30, cond_true, cond_false]
  rw [hF32]
  exact rfl
 have q33 := of_decide_eq_false h30
 obtain ⟨z34a, z34b⟩ := ok_F_laws_szPaths q33
 refine cf h30 ?_
 refine wc_skip <| wq_then <| wc_seq ?_
 refine wc_drawT ([(30, [], [], (fun _ v _ => v = (.agg #[(vi x_aP.At.Host), (vi x_aP.At.Port), (vs a1 x_aP.Cands.length c2)]))), (31, [], [0], (fun _ v w => ∃ (a1 : Option Addr) (c1 : Nat), v = .agg #[.int .i64 (((F_laws_toPaths x_aP).At).Host), .int .i64 (((F_laws_toPaths x_aP).At).Port), .slice a1 ((F_laws_toPaths x_aP).Cands).length c1] ∧ OLv LT_54 w (w3.heap.size) w.heap.size a1 ((F_laws_toPaths x_aP).Cands).length c1 ((F_laws_toPaths x_aP).Cands) ∧ ((F_laws_toPaths x_aP).Cands).length ≤ 1073741824 ∧ Aps [(a1, c1)])), (32, [], [], (fun _ v _ => v = (vi x_aNow))), (33, [], [], (fun _ v _ => v = (.agg #[(vi x_aA.Host), (vi x_aA.Port)]))), (34, [], [0, 1, 3], (fun _ v w => v = .agg #[.int .i64 ((F_laws_toAddr x_aA).Host), .int .i64 ((F_laws_toAddr x_aA).Port)])), (35, [], [], (fun _ v _ => v = (vs a6 x_aDraw.length c7))), (36, [31], [0, 1, 3, 4, 5], (fun e v w => ∃ (a1 : Option Addr) (c1 : Nat), v = .slice a1 (cpB x_aDraw).length c1 ∧ w.ownsRow (w3.heap.size) 5 1 (.slice a1 (cpB x_aDraw).length c1) (cpB x_aDraw).length ((cpB x_aDraw).map bV) ∧ (cpB x_aDraw).length ≤ 1073741824 ∧ Aps [(a1, c1)] ∧ Ap (sp (cellAt (e 31) 2)) (a1, c1))), (37, [31, 36], [0, 1, 2, 3, 4, 5, 6], (fun e v w => ∃ (a1 : Option Addr) (c1 : Nat), v = .tuple #[.agg #[.int .i64 ((((offS (F_laws_toPaths x_aP) x_aNow (F_laws_toAddr x_aA) (cpB x_aDraw)).1).At).Host), .int .i64 ((((offS (F_laws_toPaths x_aP) x_aNow (F_laws_toAddr x_aA) (cpB x_aDraw)).1).At).Port), .slice a1 (((offS (F_laws_toPaths x_aP) x_aNow (F_laws_toAddr x_aA) (cpB x_aDraw)).1).Cands).length c1], .bool ((offS (F_laws_toPaths x_aP) x_aNow (F_laws_toAddr x_aA) (cpB x_aDraw)).2)] ∧ OLv LT_54 w (w3.heap.size) w.heap.size a1 (((offS (F_laws_toPaths x_aP) x_aNow (F_laws_toAddr x_aA) (cpB x_aDraw)).1).Cands).length c1 (((offS (F_laws_toPaths x_aP) x_aNow (F_laws_toAddr x_aA) (cpB x_aDraw)).1).Cands) ∧ (((offS (F_laws_toPaths x_aP) x_aNow (F_laws_toAddr x_aA) (cpB x_aDraw)).1).Cands).length ≤ 1073741824 ∧ Aps [(a1, c1)] ∧ Ap (sp (cellAt (e 31) 2)) (a1, c1) ∧ Ap (sp (e 36)) (a1, c1))), (29, [37], [0, 1, 2, 3, 4, 5, 6, 7], (fun e v _ => v = (.tuple #[(.agg #[(vi ((((offS (F_laws_toPaths x_aP) x_aNow (F_laws_toAddr x_aA) (cpB x_aDraw)).1).At).Host)), (vi ((((offS (F_laws_toPaths x_aP) x_aNow (F_laws_toAddr x_aA) (cpB x_aDraw)).1).At).Port)), (cellAt (tupAt (e 37) 0) 2)]), (vb ((offS (F_laws_toPaths x_aP) x_aNow (F_laws_toAddr x_aA) (cpB x_aDraw)).2))]))), (38, [37], [0, 1, 2, 3, 4, 5, 6, 7, 8], (fun e v _ => v = (.agg #[(vi ((((offS (F_laws_toPaths x_aP) x_aNow (F_laws_toAddr x_aA) (cpB x_aDraw)).1).At).Host)), (vi ((((offS (F_laws_toPaths x_aP) x_aNow (F_laws_toAddr x_aA) (cpB x_aDraw)).1).At).Port)), (cellAt (tupAt (e 37) 0) 2)]))), (39, [], [0, 1, 2, 3, 4, 5, 6, 7, 8], (fun _ v _ => v = (vb ((offS (F_laws_toPaths x_aP) x_aNow (F_laws_toAddr x_aA) (cpB x_aDraw)).2)))), (10, [], [], (fun _ v w => ∃ (g : Nat) (x0 x1 x2 : Value), v = vp g 0 ∧ w3.heap.size ≤ g ∧ Blk w g 59 [x0, x1, x2])), (142, [10, 37], [0, 1, 2, 3, 4, 5, 6, 7, 8, 9, 11], (fun e _ w => ∃ g : Nat, e 10 = vp g 0 ∧ w3.heap.size ≤ g ∧ Blk w g 59 [(vi ((((offS (F_laws_toPaths x_aP) x_aNow (F_laws_toAddr x_aA) (cpB x_aDraw)).1).At).Host)), (vi ((((offS (F_laws_toPaths x_aP) x_aNow (F_laws_toAddr x_aA) (cpB x_aDraw)).1).At).Port)), (cellAt (tupAt (e 37) 0) 2)]))] : GV) (fun _ w' => Keep w3 w') [(12, fun w w' => ∃ g : Nat, w3.heap.size ≤ g ∧ (∃ x0 x1 x2 : Value, Blk w g 59 [x0, x1, x2]) ∧ Ch (fun k => k = g) w w' ∧ ∃ x0 x1 x2 : Value, Blk w' g 59 [x0, x1, x2])] mixed rfl (by kernel_rfl) (by kernel_rfl) ?_ (fun _ _ h => h) (fun _ _ _ _ h _ k => h.trans k) ⟨(fun _ _ w w' h _ _ t => by obtain ⟨g, hle, -, hc2, -⟩ := t; exact h.new hc2 (fun k hk => by have h3 : k = g := hk; omega)), trivial⟩ ?_ ?_ ?_
 ·exact ⟨(fun _ _ _ _ h _ => h), (fun _ _ _ _ _ h => h), ⟨(fun e v w w1 h hk => by obtain ⟨a0x, c0x, he, o0x, l0x, hap⟩ := h; exact ⟨a0x, c0x, he, OLv.now (OLv.kp o0x hk), l0x, hap⟩), (fun _ _ _ _ _ h => h), ⟨(fun _ _ _ _ h _ => h), (fun _ _ _ _ _ h => h), ⟨(fun _ _ _ _ h _ => h), (fun _ _ _ _ _ h => h), ⟨(fun _ _ _ _ h _ => h), (fun _ _ _ _ _ h => h), ⟨(fun _ _ _ _ h _ => h), (fun _ _ _ _ _ h => h), ⟨(fun e v w w1 h hk => by obtain ⟨a0x, c0x, he, o0x, l0x, hap, hx⟩ := h; exact ⟨a0x, c0x, he, own_kp o0x hk, l0x, hap, hx⟩), (fun e1 e2 v w hx h => by have h31x := hx 31 (by simp); simp only [h31x] at h; exact h), ⟨(fun e v w w1 h hk => by obtain ⟨a0x, c0x, he, o0x, l0x, hap, hx⟩ := h; exact ⟨a0x, c0x, he, OLv.now (OLv.kp o0x hk), l0x, hap, hx⟩), (fun e1 e2 v w hx h => by have h31x := hx 31 (by simp); have h36x := hx 36 (by simp); simp only [h31x, h36x] at h; exact h), ⟨(fun _ _ _ _ h _ => h), (fun e1 e2 v w hx h => by have h37x := hx 37 (by simp); simp only [h37x] at h; exact h), ⟨(fun _ _ _ _ h _ => h), (fun e1 e2 v w hx h => by have h37x := hx 37 (by simp); simp only [h37x] at h; exact h), ⟨(fun _ _ _ _ h _ => h), (fun _ _ _ _ _ h => h), ⟨(fun e v w w1 h hk => by obtain ⟨g, x0, x1, x2, he, hle, hb⟩ := h; exact ⟨g, _, _, _, he, hle, hb.kp hk⟩), (fun _ _ _ _ _ h => h), ⟨(fun e v w w1 h hk => by obtain ⟨g, he, hle, hb⟩ := h; exact ⟨g, he, hle, hb.kp hk⟩), (fun e1 e2 v w hx h => by have h10x := hx 10 (by simp); have h37x := hx 37 (by simp); simp only [h10x, h37x] at h; exact h), trivial⟩⟩⟩⟩⟩⟩⟩⟩⟩⟩⟩⟩⟩
 ·exact ⟨⟨.inr (fun _ _ _ _ h _ => h), ⟨.inr (fun e v w w1 h ht => by obtain ⟨a0x, c0x, he, o0x, l0x, hap⟩ := h; obtain ⟨gt, hlt, ⟨_, _, _, hbt⟩, hct, ⟨_, _, _, hbt2⟩⟩ := ht; exact ⟨a0x, c0x, he, OLv.now (olv_blk o0x hbt (by decide) (by decide) hct), l0x, hap⟩), ⟨.inr (fun _ _ _ _ h _ => h), ⟨.inr (fun _ _ _ _ h _ => h), ⟨.inr (fun _ _ _ _ h _ => h), ⟨.inr (fun _ _ _ _ h _ => h), ⟨.inr (fun e v w w1 h ht => by obtain ⟨a0x, c0x, he, o0x, l0x, hap, hx⟩ := h; obtain ⟨gt, hlt, ⟨_, _, _, hbt⟩, hct, ⟨_, _, _, hbt2⟩⟩ := ht; exact ⟨a0x, c0x, he, own_blk o0x hbt (by decide) hct, l0x, hap, hx⟩), ⟨.inr (fun e v w w1 h ht => by obtain ⟨a0x, c0x, he, o0x, l0x, hap, hx⟩ := h; obtain ⟨gt, hlt, ⟨_, _, _, hbt⟩, hct, ⟨_, _, _, hbt2⟩⟩ := ht; exact ⟨a0x, c0x, he, OLv.now (olv_blk o0x hbt (by decide) (by decide) hct), l0x, hap, hx⟩), ⟨.inr (fun _ _ _ _ h _ => h), ⟨.inr (fun _ _ _ _ h _ => h), ⟨.inr (fun _ _ _ _ h _ => h), ⟨.inr (fun e v w w1 h ht => by obtain ⟨g, x0, x1, x2, he, hle, hb⟩ := h; obtain ⟨gt, hlt, ⟨_, _, _, hbt⟩, hct, ⟨_, _, _, hbt2⟩⟩ := ht; by_cases hg : g = gt; (· subst hg; exact ⟨g, _, _, _, he, hle, hbt2⟩); (· exact ⟨g, _, _, _, he, hle, hb.ch hct hg⟩)), ⟨.inl rfl, trivial⟩⟩⟩⟩⟩⟩⟩⟩⟩⟩⟩⟩⟩, trivial⟩
 ·refine ⟨?_, ⟨?_, ⟨?_, ⟨?_, ⟨?_, ⟨?_, ⟨?_, ⟨?_, ⟨?_, ⟨?_, ⟨?_, ⟨?_, ⟨?_, trivial⟩⟩⟩⟩⟩⟩⟩⟩⟩⟩⟩⟩⟩
  ·intro _ w4 k99 _
   have m100 := m29.extk k99
   rintro _ _ _ _ _ _ _ _ _ _ _ _ _
   show WL _ _ _ _ _ _ _
   have b101 := ((b27.kp k28).kp k99)
   refine lN (L_59 x_aP a1 c2) wN isAgg_51 sizeOf_51 b101 ?_
   exact wl_finT (Ch.refl _ _) rfl
  ·intro _ w4 k102 _
   have m103 := m29.extk k102
   rintro _ rfl _ _ _ _ _ _ _ _ _ _ _ _
   show WL _ _ _ _ _ _ _
   refine cl wN (C_laws_toPaths w4 _ x_aP (mR_51 (RLv.raw (r3.from0 m103) (by omega) (fun e he b hb => Nat.le_trans (z34b e he b hb) (by decide))) (by omega))) ?_
   rintro _ w5 ⟨k105, ⟨a106, c107, rfl, o108, s109, ap111⟩⟩
   have m112 := m103.extk k105
   obtain ⟨y113, o114⟩ := OLv.ow o108
   exact wl_finT k105 ⟨_, _, rfl, (OLv.now (OLv.low o108 k102.size)), s109, ap111⟩
  ·intro _ w4 k115 _
   have m116 := m29.extk k115
   rintro _ _ _ _ _ _ _ _ _ _ _ _ _
   show WL _ _ _ _ _ _ _
   refine mv (vi x_aNow) wN ?_
   exact wl_finT (Ch.refl _ _) rfl
  ·intro _ w4 k117 _
   have m118 := m29.extk k117
   rintro _ _ _ _ _ _ _ _ _ _ _ _ _
   show WL _ _ _ _ _ _ _
   have b119 := ((b21.kp k28).kp k117)
   refine lN (L_26 x_aA) wN isAgg_48 sizeOf_48 b119 ?_
   exact wl_finT (Ch.refl _ _) rfl
  ·intro _ w4 k120 _
   have m121 := m29.extk k120
   rintro _ rfl _ ⟨a123, c124, rfl, o125, s126, ap128⟩
   obtain ⟨y129, o130⟩ := OLv.ow o125
   rintro _ _ rfl _ _ _ _ _ _ _ _ _
   show WL _ _ _ _ _ _ _
   refine cl wN (C_laws_toAddr w4 _ x_aA (mR_48)) ?_
   rintro _ w5 ⟨k132, rfl⟩
   have m133 := m121.extk k132
   exact wl_finT k132 rfl
  ·intro _ w4 k134 _
   have m135 := m29.extk k134
   rintro _ _ _ _ _ _ _ _ _ _ _ _ _
   show WL _ _ _ _ _ _ _
   refine mv (vs a6 x_aDraw.length c7) wN ?_
   exact wl_finT (Ch.refl _ _) rfl
  ·intro _ w4 k136 _
   have m137 := m29.extk k136
   rintro _ rfl _ ⟨a139, c140, rfl, o141, s142, ap144⟩
   obtain ⟨y145, o146⟩ := OLv.ow o141
   rintro _ _ rfl _ rfl _ rfl _ _ _ _ _ _ _
   show WL _ _ _ _ _ _ _
   refine cl wN (C_laws_toByteS w4 _ x_aDraw (mR_22 (r8.from0 m137) (by omega))) ?_
   rintro _ w5 ⟨k148, ⟨a149, c150, rfl, o151, s152, ap154⟩⟩
   have m155 := m137.extk k148
   exact wl_finT k148 ⟨_, _, rfl, (own_lo o151 k136.size), s152, ap154, (Ap.lt o146 o151 (Nat.le_refl _))⟩
  ·intro _ w4 k156 _
   have m157 := m29.extk k156
   rintro _ rfl _ ⟨a159, c160, rfl, o161, s162, ap164⟩
   obtain ⟨y165, o166⟩ := OLv.ow o161
   rintro _ rfl _ rfl _ rfl _ rfl _ ⟨a168, c169, rfl, o170, s171, ap173, hx174⟩ _ _ _ _ _ _
   show WL _ _ _ _ _ _ _
   refine cl wN (C_spec_Offer w4 _ (F_laws_toPaths x_aP) (mR_59 (OLv.rl o161) s162) x_aNow _ (F_laws_toAddr x_aA) (mR_26) _ (cpB x_aDraw) (mR_22 (Rd.of_own o170) s171)) ?_
   rintro _ w5 ⟨k175, ⟨a176, c177, rfl, o178, s179, ap181⟩⟩
   have m182 := m157.extk k175
   obtain ⟨y183, o184⟩ := OLv.ow o178
   exact wl_finT k175 ⟨_, _, rfl, (OLv.now (OLv.low o178 k156.size)), s179, ap181, ⟨(Ap.lt o166 o184 (Nat.le_refl _)), (Ap.lt o170 o184 (Nat.le_refl _))⟩⟩
  ·intro _ w4 k185 _
   have m186 := m29.extk k185
   rintro _ rfl _ ⟨a188, c189, rfl, o190, s191, ap193⟩
   obtain ⟨y194, o195⟩ := OLv.ow o190
   rintro _ rfl _ rfl _ rfl _ rfl _ ⟨a197, c198, rfl, o199, s200, ap202, hx203⟩ _ ⟨a204, c205, rfl, o206, s207, ap209, hx210⟩
   obtain ⟨y211, o212⟩ := OLv.ow o206
   rintro _ _ _ _ _
   show WL _ _ _ _ _ _ _
   refine mv (.tuple #[(va (L_59 ((offS (F_laws_toPaths x_aP) x_aNow (F_laws_toAddr x_aA) (cpB x_aDraw)).1) a204 c205)), (vb ((offS (F_laws_toPaths x_aP) x_aNow (F_laws_toAddr x_aA) (cpB x_aDraw)).2))]) wN ?_
   exact wl_finT (Ch.refl _ _) rfl
  ·intro _ w4 k213 _
   have m214 := m29.extk k213
   rintro _ rfl _ ⟨a216, c217, rfl, o218, s219, ap221⟩
   obtain ⟨y222, o223⟩ := OLv.ow o218
   rintro _ rfl _ rfl _ rfl _ rfl _ ⟨a225, c226, rfl, o227, s228, ap230, hx231⟩ _ ⟨a232, c233, rfl, o234, s235, ap237, hx238⟩
   obtain ⟨y239, o240⟩ := OLv.ow o234
   rintro _ rfl _ _ _ _
   show WL _ _ _ _ _ _ _
   refine pu (va (L_59 ((offS (F_laws_toPaths x_aP) x_aNow (F_laws_toAddr x_aA) (cpB x_aDraw)).1) a232 c233)) wN ?_
   exact wl_finT (Ch.refl _ _) rfl
  ·intro _ w4 k241 _
   have m242 := m29.extk k241
   rintro _ rfl _ ⟨a244, c245, rfl, o246, s247, ap249⟩
   obtain ⟨y250, o251⟩ := OLv.ow o246
   rintro _ rfl _ rfl _ rfl _ rfl _ ⟨a253, c254, rfl, o255, s256, ap258, hx259⟩ _ ⟨a260, c261, rfl, o262, s263, ap265, hx266⟩
   obtain ⟨y267, o268⟩ := OLv.ow o262
   rintro _ rfl _ _ _ _
   show WL _ _ _ _ _ _ _
   refine pu (vb ((offS (F_laws_toPaths x_aP) x_aNow (F_laws_toAddr x_aA) (cpB x_aDraw)).2)) wN ?_
   exact wl_finT (Ch.refl _ _) rfl
  ·intro _ w4 k269 _
   have m270 := m29.extk k269
   rintro _ _ _ _ _ _ _ _ _ _ _ _ _
   show WL _ _ _ _ _ _ _
   refine al [(vi 0), (vi 0), (vs none 0 0)] wN zero_59 ?_
   intro g271 w5 p272 p273 k274 b275
   have m276 := m270.extk k274
   exact wl_finT k274 ⟨_, _, _, _, rfl, (Nat.le_trans k269.size p272), b275⟩
  ·intro _ w4 k277 _
   have m278 := m29.extk k277
   rintro _ rfl _ ⟨a280, c281, rfl, o282, s283, ap285⟩
   obtain ⟨y286, o287⟩ := OLv.ow o282
   rintro _ rfl _ rfl _ rfl _ rfl _ ⟨a289, c290, rfl, o291, s292, ap294, hx295⟩ _ ⟨a296, c297, rfl, o298, s299, ap301, hx302⟩
   obtain ⟨y303, o304⟩ := OLv.ow o298
   rintro _ rfl _ rfl _ _ ⟨g305, x308, x309, x310, rfl, p306, b307⟩ _
   show WL _ _ _ _ _ _ _
   refine st (va (L_59 ((offS (F_laws_toPaths x_aP) x_aNow (F_laws_toAddr x_aA) (cpB x_aDraw)).1) a296 c297)) (L_59 ((offS (F_laws_toPaths x_aP) x_aNow (F_laws_toAddr x_aA) (cpB x_aDraw)).1) a296 c297) (L_59 ((offS (F_laws_toPaths x_aP) x_aNow (F_laws_toAddr x_aA) (cpB x_aDraw)).1) a296 c297) wN sizeOf_59 b307 ?_
   intro w5 k311 b312 z313
   have m314 := m278.ext k311 (fun k hk => by subst hk; exact Nat.le_trans (t3 k14.size k20.size k28.size) p306)
   exact wl_finS (by decide) ⟨_, p306, ⟨_, _, _, b307⟩, k311, ⟨_, _, _, b312⟩⟩ ⟨_, rfl, p306, b312⟩
 ·intro _ w4 k315
  have m316 := m29.extk k315
  rintro _ rfl _ ⟨a318, c319, rfl, o320, s321, ap323⟩
  obtain ⟨y324, o325⟩ := OLv.ow o320
  rintro _ rfl _ rfl _ rfl _ rfl _ ⟨a327, c328, rfl, o329, s330, ap332, hx333⟩ _ ⟨a334, c335, rfl, o336, s337, ap339, hx340⟩
  obtain ⟨y341, o342⟩ := OLv.ow o336
  rintro _ rfl _ rfl _ rfl _ ⟨g343, x346, x347, x348, rfl, p344, b345⟩ _ ⟨g349, e350, -, b351⟩
  obtain rfl := vp_inj e350
  show WL _ _ _ _ _ _ _
  refine ag (vb ((offS (F_laws_toPaths x_aP) x_aNow (F_laws_toAddr x_aA) (cpB x_aDraw)).2)) wN ?_
  refine nx ?_
  have b352 := ((b27.kp k28).kp k315)
  refine lN (L_59 x_aP a1 c2) wN isAgg_51 sizeOf_51 b352 ?_
  refine cl wN (C_laws_toPaths w4 _ x_aP (mR_51 (RLv.raw (r3.from0 m316) (by omega) (fun e he b hb => Nat.le_trans (z34b e he b hb) (by decide))) (by omega))) ?_
  rintro _ w5 ⟨k353, ⟨a354, c355, rfl, o356, s357, ap359⟩⟩
  have m360 := m316.extk k353
  obtain ⟨y361, o362⟩ := OLv.ow o356
  refine al [(vi 0), (vi 0), (vs none 0 0)] wN zero_59 ?_
  intro g363 w6 p364 p365 k366 b367
  have m368 := m360.extk k366
  refine st (va (L_59 (F_laws_toPaths x_aP) a354 c355)) (L_59 (F_laws_toPaths x_aP) a354 c355) (L_59 (F_laws_toPaths x_aP) a354 c355) wN sizeOf_59 b367 ?_
  intro w7 k369 b370 z371
  have m372 := m368.ext k369 (fun k hk => by subst hk; exact Nat.le_trans (t5 k14.size k20.size k28.size k315.size k353.size) p364)
  refine nx ?_
  refine mv (vs a6 x_aDraw.length c7) wN ?_
  refine cl wN (C_laws_toByteS w7 _ x_aDraw (mR_22 (r8.from0 m372) (by omega))) ?_
  rintro _ w8 ⟨k373, ⟨a374, c375, rfl, o376, s377, ap379⟩⟩
  have m380 := m372.extk k373
  refine ag (vs a374 (cpB x_aDraw).length c375) wN ?_
  refine wl_nil <| wq_then <| wc_seq ?_
  refine wc_drawT ([(45, [], [], (fun _ v _ => v = (.agg #[(vi (((F_laws_toPaths x_aP).At).Host)), (vi (((F_laws_toPaths x_aP).At).Port)), (vs a354 ((F_laws_toPaths x_aP).Cands).length c355)]))), (46, [], [], (fun _ v _ => v = (vi x_aNow))), (47, [], [], (fun _ v _ => v = (.agg #[(vi x_aA.Host), (vi x_aA.Port)]))), (48, [], [2], (fun _ v w => v = .agg #[.int .i64 ((F_laws_toAddr x_aA).Host), .int .i64 ((F_laws_toAddr x_aA).Port)])), (49, [], [], (fun _ v _ => v = (vs a374 (cpB x_aDraw).length c375))), (50, [], [0, 1, 2, 3, 4], (fun _ v w => ∃ (a1 : Option Addr) (c1 : Nat), v = .tuple #[.agg #[.int .i64 ((((F_impl_Offer (F_laws_toPaths x_aP) x_aNow (F_laws_toAddr x_aA) (cpB x_aDraw)).1).At).Host), .int .i64 ((((F_impl_Offer (F_laws_toPaths x_aP) x_aNow (F_laws_toAddr x_aA) (cpB x_aDraw)).1).At).Port), .slice a1 (((F_impl_Offer (F_laws_toPaths x_aP) x_aNow (F_laws_toAddr x_aA) (cpB x_aDraw)).1).Cands).length c1], .bool ((F_impl_Offer (F_laws_toPaths x_aP) x_aNow (F_laws_toAddr x_aA) (cpB x_aDraw)).2)] ∧ OLv LT_54 w (w8.heap.size) w.heap.size a1 (((F_impl_Offer (F_laws_toPaths x_aP) x_aNow (F_laws_toAddr x_aA) (cpB x_aDraw)).1).Cands).length c1 (((F_impl_Offer (F_laws_toPaths x_aP) x_aNow (F_laws_toAddr x_aA) (cpB x_aDraw)).1).Cands) ∧ (((F_impl_Offer (F_laws_toPaths x_aP) x_aNow (F_laws_toAddr x_aA) (cpB x_aDraw)).1).Cands).length ≤ 1073741824 ∧ Aps [(a1, c1)])), (44, [50], [0, 1, 2, 3, 4, 5], (fun e v _ => v = (.tuple #[(.agg #[(vi ((((F_impl_Offer (F_laws_toPaths x_aP) x_aNow (F_laws_toAddr x_aA) (cpB x_aDraw)).1).At).Host)), (vi ((((F_impl_Offer (F_laws_toPaths x_aP) x_aNow (F_laws_toAddr x_aA) (cpB x_aDraw)).1).At).Port)), (cellAt (tupAt (e 50) 0) 2)]), (vb ((F_impl_Offer (F_laws_toPaths x_aP) x_aNow (F_laws_toAddr x_aA) (cpB x_aDraw)).2))]))), (51, [50], [0, 1, 2, 3, 4, 5, 6], (fun e v _ => v = (.agg #[(vi ((((F_impl_Offer (F_laws_toPaths x_aP) x_aNow (F_laws_toAddr x_aA) (cpB x_aDraw)).1).At).Host)), (vi ((((F_impl_Offer (F_laws_toPaths x_aP) x_aNow (F_laws_toAddr x_aA) (cpB x_aDraw)).1).At).Port)), (cellAt (tupAt (e 50) 0) 2)]))), (52, [], [0, 1, 2, 3, 4, 5, 6], (fun _ v _ => v = (vb ((F_impl_Offer (F_laws_toPaths x_aP) x_aNow (F_laws_toAddr x_aA) (cpB x_aDraw)).2)))), (14, [], [], (fun _ v w => ∃ (g : Nat) (x0 x1 x2 : Value), v = vp g 0 ∧ w8.heap.size ≤ g ∧ Blk w g 59 [x0, x1, x2])), (140, [14, 50], [0, 1, 2, 3, 4, 5, 6, 7, 9], (fun e _ w => ∃ g : Nat, e 14 = vp g 0 ∧ w8.heap.size ≤ g ∧ Blk w g 59 [(vi ((((F_impl_Offer (F_laws_toPaths x_aP) x_aNow (F_laws_toAddr x_aA) (cpB x_aDraw)).1).At).Host)), (vi ((((F_impl_Offer (F_laws_toPaths x_aP) x_aNow (F_laws_toAddr x_aA) (cpB x_aDraw)).1).At).Port)), (cellAt (tupAt (e 50) 0) 2)]))] : GV) (fun _ w' => Keep w8 w') [(10, fun w w' => ∃ g : Nat, w8.heap.size ≤ g ∧ (∃ x0 x1 x2 : Value, Blk w g 59 [x0, x1, x2]) ∧ Ch (fun k => k = g) w w' ∧ ∃ x0 x1 x2 : Value, Blk w' g 59 [x0, x1, x2])] mixed rfl (by kernel_rfl) (by kernel_rfl) ?_ (fun _ _ h => h) (fun _ _ _ _ h _ k => h.trans k) ⟨(fun _ _ w w' h _ _ t => by obtain ⟨g, hle, -, hc2, -⟩ := t; exact h.new hc2 (fun k hk => by have h3 : k = g := hk; omega)), trivial⟩ ?_ ?_ ?_
  ·exact ⟨(fun _ _ _ _ h _ => h), (fun _ _ _ _ _ h => h), ⟨(fun _ _ _ _ h _ => h), (fun _ _ _ _ _ h => h), ⟨(fun _ _ _ _ h _ => h), (fun _ _ _ _ _ h => h), ⟨(fun _ _ _ _ h _ => h), (fun _ _ _ _ _ h => h), ⟨(fun _ _ _ _ h _ => h), (fun _ _ _ _ _ h => h), ⟨(fun e v w w1 h hk => by obtain ⟨a0x, c0x, he, o0x, l0x, hap⟩ := h; exact ⟨a0x, c0x, he, OLv.now (OLv.kp o0x hk), l0x, hap⟩), (fun _ _ _ _ _ h => h), ⟨(fun _ _ _ _ h _ => h), (fun e1 e2 v w hx h => by have h50x := hx 50 (by simp); simp only [h50x] at h; exact h), ⟨(fun _ _ _ _ h _ => h), (fun e1 e2 v w hx h => by have h50x := hx 50 (by simp); simp only [h50x] at h; exact h), ⟨(fun _ _ _ _ h _ => h), (fun _ _ _ _ _ h => h), ⟨(fun e v w w1 h hk => by obtain ⟨g, x0, x1, x2, he, hle, hb⟩ := h; exact ⟨g, _, _, _, he, hle, hb.kp hk⟩), (fun _ _ _ _ _ h => h), ⟨(fun e v w w1 h hk => by obtain ⟨g, he, hle, hb⟩ := h; exact ⟨g, he, hle, hb.kp hk⟩), (fun e1 e2 v w hx h => by have h14x := hx 14 (by simp); have h50x := hx 50 (by simp); simp only [h14x, h50x] at h; exact h), trivial⟩⟩⟩⟩⟩⟩⟩⟩⟩⟩⟩
  ·exact ⟨⟨.inr (fun _ _ _ _ h _ => h), ⟨.inr (fun _ _ _ _ h _ => h), ⟨.inr (fun _ _ _ _ h _ => h), ⟨.inr (fun _ _ _ _ h _ => h), ⟨.inr (fun _ _ _ _ h _ => h), ⟨.inr (fun e v w w1 h ht => by obtain ⟨a0x, c0x, he, o0x, l0x, hap⟩ := h; obtain ⟨gt, hlt, ⟨_, _, _, hbt⟩, hct, ⟨_, _, _, hbt2⟩⟩ := ht; exact ⟨a0x, c0x, he, OLv.now (olv_blk o0x hbt (by decide) (by decide) hct), l0x, hap⟩), ⟨.inr (fun _ _ _ _ h _ => h), ⟨.inr (fun _ _ _ _ h _ => h), ⟨.inr (fun _ _ _ _ h _ => h), ⟨.inr (fun e v w w1 h ht => by obtain ⟨g, x0, x1, x2, he, hle, hb⟩ := h; obtain ⟨gt, hlt, ⟨_, _, _, hbt⟩, hct, ⟨_, _, _, hbt2⟩⟩ := ht; by_cases hg : g = gt; (· subst hg; exact ⟨g, _, _, _, he, hle, hbt2⟩); (· exact ⟨g, _, _, _, he, hle, hb.ch hct hg⟩)), ⟨.inl rfl, trivial⟩⟩⟩⟩⟩⟩⟩⟩⟩⟩⟩, trivial⟩
  ·refine ⟨?_, ⟨?_, ⟨?_, ⟨?_, ⟨?_, ⟨?_, ⟨?_, ⟨?_, ⟨?_, ⟨?_, ⟨?_, trivial⟩⟩⟩⟩⟩⟩⟩⟩⟩⟩⟩
   ·intro _ w9 k416 _
    have m417 := m380.extk k416
    rintro _ _ _ _ _ _ _ _ _ _ _
    show WL _ _ _ _ _ _ _
    have b418 := ((b370.kp k373).kp k416)
    refine lN (L_59 (F_laws_toPaths x_aP) a354 c355) wN isAgg_59 sizeOf_59 b418 ?_
    exact wl_finT (Ch.refl _ _) rfl
   ·intro _ w9 k419 _
    have m420 := m380.extk k419
    rintro _ _ _ _ _ _ _ _ _ _ _
    show WL _ _ _ _ _ _ _
    refine mv (vi x_aNow) wN ?_
    exact wl_finT (Ch.refl _ _) rfl
   ·intro _ w9 k421 _
    have m422 := m380.extk k421
    rintro _ _ _ _ _ _ _ _ _ _ _
    show WL _ _ _ _ _ _ _
    have b423 := (((((((b21.kp k28).kp k315).kp k353).kp k366).ch k369 (Nat.ne_of_lt (Nat.lt_of_lt_of_le p19 (Nat.le_trans (t3 k28.size k315.size k353.size) p364)))).kp k373).kp k421)
    refine lN (L_26 x_aA) wN isAgg_48 sizeOf_48 b423 ?_
    exact wl_finT (Ch.refl _ _) rfl
   ·intro _ w9 k424 _
    have m425 := m380.extk k424
    rintro _ _ _ rfl _ _ _ _ _ _ _ _
    show WL _ _ _ _ _ _ _
    refine cl wN (C_laws_toAddr w9 _ x_aA (mR_48)) ?_
    rintro _ w10 ⟨k427, rfl⟩
    have m428 := m425.extk k427
    exact wl_finT k427 rfl
   ·intro _ w9 k429 _
    have m430 := m380.extk k429
    rintro _ _ _ _ _ _ _ _ _ _ _
    show WL _ _ _ _ _ _ _
    refine mv (vs a374 (cpB x_aDraw).length c375) wN ?_
    exact wl_finT (Ch.refl _ _) rfl
   ·intro _ w9 k431 _
    have m432 := m380.extk k431
    rintro _ rfl _ rfl _ rfl _ rfl _ rfl _ _ _ _ _ _
    show WL _ _ _ _ _ _ _
    have o435 := (OLv.kp (OLv.kp (OLv.ch (OLv.kp o356 k366) k369 (fun g h1 h2 hk => by have h3 := Nat.le_trans (Nat.le_refl w5.heap.size) p364; omega)) k373) k431)
    have o436 := (own_kp o376 k431)
    refine cl wN (C_impl_Offer w9 _ (F_laws_toPaths x_aP) (mR_59 (OLv.rl o435) s357) x_aNow _ (F_laws_toAddr x_aA) (mR_26) _ (cpB x_aDraw) (mR_22 (Rd.of_own o436) s377)) ?_
    rintro _ w10 ⟨k437, ⟨a438, c439, rfl, o440, s441, ap443⟩⟩
    have m444 := m432.extk k437
    obtain ⟨y445, o446⟩ := OLv.ow o440
    exact wl_finT k437 ⟨_, _, rfl, (OLv.now (OLv.low o440 k431.size)), s441, ap443⟩
   ·intro _ w9 k447 _
    have m448 := m380.extk k447
    rintro _ rfl _ rfl _ rfl _ rfl _ rfl _ ⟨a451, c452, rfl, o453, s454, ap456⟩
    obtain ⟨y457, o458⟩ := OLv.ow o453
    rintro _ _ _ _ _
    show WL _ _ _ _ _ _ _
    refine mv (.tuple #[(va (L_59 ((F_impl_Offer (F_laws_toPaths x_aP) x_aNow (F_laws_toAddr x_aA) (cpB x_aDraw)).1) a451 c452)), (vb ((F_impl_Offer (F_laws_toPaths x_aP) x_aNow (F_laws_toAddr x_aA) (cpB x_aDraw)).2))]) wN ?_
    exact wl_finT (Ch.refl _ _) rfl
   ·intro _ w9 k459 _
    have m460 := m380.extk k459
    rintro _ rfl _ rfl _ rfl _ rfl _ rfl _ ⟨a463, c464, rfl, o465, s466, ap468⟩
    obtain ⟨y469, o470⟩ := OLv.ow o465
    rintro _ rfl _ _ _ _
    show WL _ _ _ _ _ _ _
    refine pu (va (L_59 ((F_impl_Offer (F_laws_toPaths x_aP) x_aNow (F_laws_toAddr x_aA) (cpB x_aDraw)).1) a463 c464)) wN ?_
    exact wl_finT (Ch.refl _ _) rfl
   ·intro _ w9 k471 _
    have m472 := m380.extk k471
    rintro _ rfl _ rfl _ rfl _ rfl _ rfl _ ⟨a475, c476, rfl, o477, s478, ap480⟩
    obtain ⟨y481, o482⟩ := OLv.ow o477
    rintro _ rfl _ _ _ _
    show WL _ _ _ _ _ _ _
    refine pu (vb ((F_impl_Offer (F_laws_toPaths x_aP) x_aNow (F_laws_toAddr x_aA) (cpB x_aDraw)).2)) wN ?_
    exact wl_finT (Ch.refl _ _) rfl
   ·intro _ w9 k483 _
    have m484 := m380.extk k483
    rintro _ _ _ _ _ _ _ _ _ _ _
    show WL _ _ _ _ _ _ _
    refine al [(vi 0), (vi 0), (vs none 0 0)] wN zero_59 ?_
    intro g485 w10 p486 p487 k488 b489
    have m490 := m484.extk k488
    exact wl_finT k488 ⟨_, _, _, _, rfl, (Nat.le_trans k483.size p486), b489⟩
   ·intro _ w9 k491 _
    have m492 := m380.extk k491
    rintro _ rfl _ rfl _ rfl _ rfl _ rfl _ ⟨a495, c496, rfl, o497, s498, ap500⟩
    obtain ⟨y501, o502⟩ := OLv.ow o497
    rintro _ rfl _ rfl _ _ ⟨g503, x506, x507, x508, rfl, p504, b505⟩ _
    show WL _ _ _ _ _ _ _
    refine st (va (L_59 ((F_impl_Offer (F_laws_toPaths x_aP) x_aNow (F_laws_toAddr x_aA) (cpB x_aDraw)).1) a495 c496)) (L_59 ((F_impl_Offer (F_laws_toPaths x_aP) x_aNow (F_laws_toAddr x_aA) (cpB x_aDraw)).1) a495 c496) (L_59 ((F_impl_Offer (F_laws_toPaths x_aP) x_aNow (F_laws_toAddr x_aA) (cpB x_aDraw)).1) a495 c496) wN sizeOf_59 b505 ?_
    intro w10 k509 b510 z511
    have m512 := m492.ext k509 (fun k hk => by subst hk; exact Nat.le_trans (t8 k14.size k20.size k28.size k315.size k353.size k366.size k369.size k373.size) p504)
    exact wl_finS (by decide) ⟨_, p504, ⟨_, _, _, b505⟩, k509, ⟨_, _, _, b510⟩⟩ ⟨_, rfl, p504, b510⟩
  ·intro _ w9 k513
   have m514 := m380.extk k513
   rintro _ rfl _ rfl _ rfl _ rfl _ rfl _ ⟨a517, c518, rfl, o519, s520, ap522⟩
   obtain ⟨y523, o524⟩ := OLv.ow o519
   rintro _ rfl _ rfl _ rfl _ ⟨g525, x528, x529, x530, rfl, p526, b527⟩ _ ⟨g531, e532, -, b533⟩
   obtain rfl := vp_inj e532
   show WL _ _ _ _ _ _ _
   refine ag (vb ((F_impl_Offer (F_laws_toPaths x_aP) x_aNow (F_laws_toAddr x_aA) (cpB x_aDraw)).2)) wN ?_
   refine wl_nil <| wq_then <| wc_seq <| sr ?_
   refine lN (L_59 ((F_impl_Offer (F_laws_toPaths x_aP) x_aNow (F_laws_toAddr x_aA) (cpB x_aDraw)).1) a517 c518) wN isAgg_59 sizeOf_59 b533 ?_
   have b534 := (((((b351.kp k353).kp k366).ch k369 (Nat.ne_of_lt (Nat.lt_of_lt_of_le (Blk.lt b345) (Nat.le_trans k353.size p364)))).kp k373).kp k513)
   refine lN (L_59 ((offS (F_laws_toPaths x_aP) x_aNow (F_laws_toAddr x_aA) (cpB x_aDraw)).1) a334 c335) wN isAgg_59 sizeOf_59 b534 ?_
   have o535 := (OLv.kp (OLv.kp (OLv.ch (OLv.kp (OLv.kp o336 k353) k366) k369 (fun g h1 h2 hk => by have h3 := Nat.le_trans k353.size p364; omega)) k373) k513)
   obtain ⟨y537, e538⟩ : ∃ y, F_laws_eqPaths ((F_impl_Offer (F_laws_toPaths x_aP) x_aNow (F_laws_toAddr x_aA) (cpB x_aDraw)).1) ((offS (F_laws_toPaths x_aP) x_aNow (F_laws_toAddr x_aA) (cpB x_aDraw)).1) = y := ⟨_, rfl⟩
   have hc536 := C_laws_eqPaths w9 _ ((F_impl_Offer (F_laws_toPaths x_aP) x_aNow (F_laws_toAddr x_aA) (cpB x_aDraw)).1) (mR_59 (OLv.rl o519) s520) _ ((offS (F_laws_toPaths x_aP) x_aNow (F_laws_toAddr x_aA) (cpB x_aDraw)).1) (mR_59 (OLv.rl o535) s337)
   rw [e538] at hc536
   refine cl wN hc536 ?_
   rintro _ w10 ⟨k539, rfl⟩
   have m540 := m514.extk k539
   refine pu (vb (!(y537))) wN ?_
   refine mv (vb (!(y537))) wN ?_
   rcases bf y537 with h541 | h541
   ·refine sk (congrArg not h541) ?_
    refine sk (congrArg not h541) ?_
    refine sk (congrArg not h541) ?_
    refine pk (vb true) wN (congrArg not h541) ?_
    refine wl_nil <| wq_then ?_
    refine ct (Eq.refl true) ?_
    refine sr ?_
    refine ag (vb false) wN ?_
    refine wl_nil <| wq_then <| wc_ret <| wq_then_ret ?_
    refine ret_1 (.inl rfl) (vb false) rfl rfl ?_
    refine ⟨m540.keep0, ?_⟩
    have hF997 : F_laws_FnExactOffer x_aP x_aNow x_aA x_aDraw = false := by simp only [F_laws_FnExactOffer, h23, h30, e538, h541, cond_true, cond_false]
    rw [hF997]
    exact rfl
   refine mv (vb ((F_impl_Offer (F_laws_toPaths x_aP) x_aNow (F_laws_toAddr x_aA) (cpB x_aDraw)).2)) (wS (congrArg not h541)) ?_
   refine mv (vb ((offS (F_laws_toPaths x_aP) x_aNow (F_laws_toAddr x_aA) (cpB x_aDraw)).2)) (wS (congrArg not h541)) ?_
   refine pu (vb (!(((F_impl_Offer (F_laws_toPaths x_aP) x_aNow (F_laws_toAddr x_aA) (cpB x_aDraw)).2) == ((offS (F_laws_toPaths x_aP) x_aNow (F_laws_toAddr x_aA) (cpB x_aDraw)).2)))) (wS (congrArg not h541)) ?_
   refine pf (vb (!(((F_impl_Offer (F_laws_toPaths x_aP) x_aNow (F_laws_toAddr x_aA) (cpB x_aDraw)).2) == ((offS (F_laws_toPaths x_aP) x_aNow (F_laws_toAddr x_aA) (cpB x_aDraw)).2)))) wN (congrArg not h541) ?_
   refine wl_nil <| wq_then ?_
   rcases bf (((F_impl_Offer (F_laws_toPaths x_aP) x_aNow (F_laws_toAddr x_aA) (cpB x_aDraw)).2) == ((offS (F_laws_toPaths x_aP) x_aNow (F_laws_toAddr x_aA) (cpB x_aDraw)).2)) with h543 | h543
   ·refine ct (congrArg not h543) ?_
    refine sr ?_
    refine ag (vb false) wN ?_
    refine wl_nil <| wq_then <| wc_ret <| wq_then_ret ?_
    refine ret_1 (.inl rfl) (vb false) rfl rfl ?_
    refine ⟨m540.keep0, ?_⟩
    have hF995 : F_laws_FnExactOffer x_aP x_aNow x_aA x_aDraw = false := by simp only [F_laws_FnExactOffer, h23, h30, e538, h541, h543, cond_true, cond_false]
    rw [hF995]
    exact rfl
   refine cf (congrArg not h543) ?_
   refine wc_skip <| wq_then <| wc_seq <| wc_seq ?_
   refine wc_drawT ([(62, [], [], (fun _ v _ => v = (.agg #[(vi (((F_laws_toPaths x_aP).At).Host)), (vi (((F_laws_toPaths x_aP).At).Port)), (vs a354 ((F_laws_toPaths x_aP).Cands).length c355)]))), (63, [], [], (fun _ v _ => v = (.agg #[(vi x_aP.At.Host), (vi x_aP.At.Port), (vs a1 x_aP.Cands.length c2)]))), (64, [], [1], (fun _ v w => ∃ (a1 : Option Addr) (c1 : Nat), v = .agg #[.int .i64 (((F_laws_toPaths x_aP).At).Host), .int .i64 (((F_laws_toPaths x_aP).At).Port), .slice a1 ((F_laws_toPaths x_aP).Cands).length c1] ∧ OLv LT_54 w (w10.heap.size) w.heap.size a1 ((F_laws_toPaths x_aP).Cands).length c1 ((F_laws_toPaths x_aP).Cands) ∧ ((F_laws_toPaths x_aP).Cands).length ≤ 1073741824 ∧ Aps [(a1, c1)]))] : GV) (fun _ w' => Keep w10 w') [] mixed rfl (by kernel_rfl) (by kernel_rfl) ?_ (fun _ _ h => h) (fun _ _ _ _ h _ k => h.trans k) trivial ?_ ?_ ?_
   ·exact ⟨(fun _ _ _ _ h _ => h), (fun _ _ _ _ _ h => h), ⟨(fun _ _ _ _ h _ => h), (fun _ _ _ _ _ h => h), ⟨(fun e v w w1 h hk => by obtain ⟨a0x, c0x, he, o0x, l0x, hap⟩ := h; exact ⟨a0x, c0x, he, OLv.now (OLv.kp o0x hk), l0x, hap⟩), (fun _ _ _ _ _ h => h), trivial⟩⟩⟩
   ·exact trivial
   ·refine ⟨?_, ⟨?_, ⟨?_, trivial⟩⟩⟩
    ·intro _ w11 k568 _
     have m569 := m540.extk k568
     rintro _ _ _
     show WL _ _ _ _ _ _ _
     have b570 := ((((b370.kp k373).kp k513).kp k539).kp k568)
     refine lN (L_59 (F_laws_toPaths x_aP) a354 c355) wN isAgg_59 sizeOf_59 b570 ?_
     exact wl_finT (Ch.refl _ _) rfl
    ·intro _ w11 k571 _
     have m572 := m540.extk k571
     rintro _ _ _
     show WL _ _ _ _ _ _ _
     have b573 := (((((((b352.kp k353).kp k366).ch k369 (Nat.ne_of_lt (Nat.lt_of_lt_of_le p13 (Nat.le_trans (t4 k20.size k28.size k315.size k353.size) p364)))).kp k373).kp k513).kp k539).kp k571)
     refine lN (L_59 x_aP a1 c2) wN isAgg_51 sizeOf_51 b573 ?_
     exact wl_finT (Ch.refl _ _) rfl
    ·intro _ w11 k574 _
     have m575 := m540.extk k574
     rintro _ _ rfl _
     show WL _ _ _ _ _ _ _
     refine cl wN (C_laws_toPaths w11 _ x_aP (mR_51 (RLv.raw (r3.from0 m575) (by omega) (fun e he b hb => Nat.le_trans (z34b e he b hb) (by decide))) (by omega))) ?_
     rintro _ w12 ⟨k577, ⟨a578, c579, rfl, o580, s581, ap583⟩⟩
     have m584 := m575.extk k577
     obtain ⟨y585, o586⟩ := OLv.ow o580
     exact wl_finT k577 ⟨_, _, rfl, (OLv.now (OLv.low o580 k574.size)), s581, ap583⟩
   ·intro _ w11 k587
    have m588 := m540.extk k587
    rintro _ rfl _ rfl _ ⟨a591, c592, rfl, o593, s594, ap596⟩
    obtain ⟨y597, o598⟩ := OLv.ow o593
    show WL _ _ _ _ _ _ _
    have o599 := (OLv.kp (OLv.kp (OLv.kp (OLv.kp (OLv.ch (OLv.kp o356 k366) k369 (fun g h1 h2 hk => by have h3 := Nat.le_trans (Nat.le_refl w5.heap.size) p364; omega)) k373) k513) k539) k587)
    obtain ⟨y601, e602⟩ : ∃ y, F_laws_eqPaths (F_laws_toPaths x_aP) (F_laws_toPaths x_aP) = y := ⟨_, rfl⟩
    have hc600 := C_laws_eqPaths w11 _ (F_laws_toPaths x_aP) (mR_59 (OLv.rl o599) s357) _ (F_laws_toPaths x_aP) (mR_59 (OLv.rl o593) s594)
    rw [e602] at hc600
    refine cl wN hc600 ?_
    rintro _ w12 ⟨k603, rfl⟩
    have m604 := m588.extk k603
    refine pu (vb (!(y601))) wN ?_
    refine wl_nil <| wq_then ?_
    rcases bf y601 with h605 | h605
    ·refine ct (congrArg not h605) ?_
     refine sr ?_
     refine ag (vb false) wN ?_
     refine wl_nil <| wq_then <| wc_ret <| wq_then_ret ?_
     refine ret_1 (.inl rfl) (vb false) rfl rfl ?_
     refine ⟨m604.keep0, ?_⟩
     have hF993 : F_laws_FnExactOffer x_aP x_aNow x_aA x_aDraw = false := by simp only [F_laws_FnExactOffer, h23, h30, e538, h541, h543, e602, h605, cond_true, cond_false]
     rw [hF993]
     exact rfl
    refine cf (congrArg not h605) ?_
    refine wc_skip <| wq_then <| wc_seq <| sr ?_
    refine mv (vs a374 (cpB x_aDraw).length c375) wN ?_
    refine mv (vs a6 x_aDraw.length c7) wN ?_
    refine cl wN (C_laws_toByteS w12 _ x_aDraw (mR_22 (r8.from0 m604) (by omega))) ?_
    rintro _ w13 ⟨k607, ⟨a608, c609, rfl, o610, s611, ap613⟩⟩
    have m614 := m604.extk k607
    have o615 := (own_kp (own_kp (own_kp (own_kp (own_kp o376 k513) k539) k587) k603) k607)
    refine cl wN (C_laws_eqByteS w13 _ (cpB x_aDraw) (mR_22 (Rd.of_own o615) s377) _ (cpB x_aDraw) (mR_22 (Rd.of_own o610) s611)) ?_
    rintro _ w14 ⟨k616, rfl⟩
    have m617 := m614.extk k616
    refine pu (vb (!(eqB (cpB x_aDraw) (cpB x_aDraw)))) wN ?_
    refine wl_nil <| wq_then ?_
    rcases bf (eqB (cpB x_aDraw) (cpB x_aDraw)) with h618 | h618
    ·refine ct (congrArg not h618) ?_
     refine sr ?_
     refine ag (vb false) wN ?_
     refine wl_nil <| wq_then <| wc_ret <| wq_then_ret ?_
     refine ret_1 (.inl rfl) (vb false) rfl rfl ?_
     refine ⟨m617.keep0, ?_⟩
     have hF991 : F_laws_FnExactOffer x_aP x_aNow x_aA x_aDraw = false := by simp only [F_laws_FnExactOffer, h23, h30, e538, h541, h543, e602, h605, h618, cond_true, cond_false]
     rw [hF991]
     exact rfl
    refine cf (congrArg not h618) ?_
    refine wc_skip <| wq_then <| sr ?_
    refine ag (vi 1) wN ?_
    refine nx ?_
    have b620 := (((((((b370.kp k373).kp k513).kp k539).kp k587).kp k603).kp k607).kp k616)
    refine lN (L_59 (F_laws_toPaths x_aP) a354 c355) wN isAgg_59 sizeOf_59 b620 ?_
    refine mv (vi 1) wN ?_
    have o621 := (OLv.kp (OLv.kp (OLv.kp o599 k603) k607) k616)
    refine cl wN (C_laws_markPaths w14 a354 c355 (F_laws_toPaths x_aP) _ _ 1 (by omega) (by omega) o621) ?_
    rintro _ w15 ⟨rfl, k622, r623⟩
    have m624 := m617.ext k622 (fun k hk => Nat.le_trans (t4 k14.size k20.size k28.size k315.size) hk.1)
    have q625 := OLv.wb (wt := wt_PCand) (C := 1073741827) o621 (by intro x; simp only [wt_PCand]; omega) (by intro x hx; simp only [LT_54, List.mem_cons, List.not_mem_nil, or_false, forall_eq_or_imp, forall_eq] at hx; simp only [wt_PCand]; omega) _ (Nat.le_refl _)
    rw [List.take_length] at q625
    refine ag (vi (1 + totL wt_PCand ((F_laws_toPaths x_aP).Cands))) wN ?_
    refine nx ?_
    refine mv (vs a374 (cpB x_aDraw).length c375) wN ?_
    refine mv (vi (1 + totL wt_PCand ((F_laws_toPaths x_aP).Cands))) wN ?_
    have o626 := (own_ch (own_kp o615 k616) k622 (fun g hg hlt hk => by have h1 := (own_lt o376 g hg).1; have h2 := (Nat.le_trans k366.size k369.size); have h3 := hk.2.1; omega))
    refine cl wN (C_laws_markByteS w15 a374 c375 (cpB x_aDraw) (1 + totL wt_PCand ((F_laws_toPaths x_aP).Cands)) (by omega) (by omega) s377 (Rd.of_own o626) (Wp.of o626)) ?_
    rintro _ w16 ⟨rfl, k627, r628⟩
    have m629 := m624.ext k627 (fun k hk => ms_ge (ms_ge_cons (fun hn x hx => Nat.le_trans (t7 k14.size k20.size k28.size k315.size k353.size k366.size k369.size) (own_lt o376 x.block (by rw [hx]; rfl)).1) ms_ge_nil) hk)
    have l630 : Ch (MS (([(a374, (cpB x_aDraw).length, c375)] : List (Option Addr × Nat × Nat)).map fun p => (p.1, p.2.1))) w15 w16 := k627
    refine ag (vi ((1 + totL wt_PCand ((F_laws_toPaths x_aP).Cands)) + ((cpB x_aDraw).length : Int))) wN ?_
    refine wl_nil <| wq_then <| wc_seq <| sr ?_
    refine mv (vi ((1 + totL wt_PCand ((F_laws_toPaths x_aP).Cands)) + ((cpB x_aDraw).length : Int))) wN ?_
    refine pu (vb (decide (((1 + totL wt_PCand ((F_laws_toPaths x_aP).Cands)) + ((cpB x_aDraw).length : Int)) < 0))) wN ?_
    refine mv (vb (decide (((1 + totL wt_PCand ((F_laws_toPaths x_aP).Cands)) + ((cpB x_aDraw).length : Int)) < 0))) wN ?_
    rcases bt (decide (((1 + totL wt_PCand ((F_laws_toPaths x_aP).Cands)) + ((cpB x_aDraw).length : Int)) < 0)) with h631 | h631
    ·have q632 := of_decide_eq_true h631
     refine sk h631 ?_
     refine sk h631 ?_
     refine sk h631 ?_
     refine sk h631 ?_
     refine pk (vb true) wN h631 ?_
     refine mv (vb true) wN ?_
     refine sk (Eq.refl true) ?_
     refine sk (Eq.refl true) ?_
     refine sk (Eq.refl true) ?_
     refine pk (vb true) wN (Eq.refl true) ?_
     refine wl_nil <| wq_then ?_
     refine ct (Eq.refl true) ?_
     refine sr ?_
     refine ag (vb false) wN ?_
     refine wl_nil <| wq_then <| wc_ret <| wq_then_ret ?_
     refine ret_1 (.inl rfl) (vb false) rfl rfl ?_
     refine ⟨m629.keep0, ?_⟩
     have hF633 : F_laws_FnExactOffer x_aP x_aNow x_aA x_aDraw = false := by simp only [F_laws_FnExactOffer, h23, h30, e538, h541, h543, e602, h605, h618, h631, cond_true, cond_false]
     rw [hF633]
     exact rfl
    have q634 := of_decide_eq_false h631
    have b635 := (((((((b533.kp k539).kp k587).kp k603).kp k607).kp k616).ch k622 (fun h => by have h1 := h.2.1; have h3 := Nat.le_trans (t3 k366.size k369.size k373.size) p526; omega)).ch k627 (ms_lo (ms_lo_cons (fun hn x hx hb => by have := (own_lt o376 x.block (by rw [hx]; rfl)).2; have := Nat.le_trans (Nat.le_refl w8.heap.size) p526; omega) ms_lo_nil)))
    refine lN (L_59 ((F_impl_Offer (F_laws_toPaths x_aP) x_aNow (F_laws_toAddr x_aA) (cpB x_aDraw)).1) a517 c518) (wS h631) isAgg_59 sizeOf_59 b635 ?_
    have b636 := (((((((b534.kp k539).kp k587).kp k603).kp k607).kp k616).ch k622 (fun h => by have h1 := h.1; have h3 := Nat.lt_of_lt_of_le (Blk.lt b345) (Nat.le_refl w4.heap.size); omega)).ch k627 (ms_lo (ms_lo_cons (fun hn x hx hb => by have := (own_lt o376 x.block (by rw [hx]; rfl)).1; have := Nat.lt_of_lt_of_le (Blk.lt b345) (t3 k353.size k366.size k369.size); omega) ms_lo_nil)))
    refine lN (L_59 ((offS (F_laws_toPaths x_aP) x_aNow (F_laws_toAddr x_aA) (cpB x_aDraw)).1) a334 c335) (wS h631) isAgg_59 sizeOf_59 b636 ?_
    have o637 := (OLv.ch (OLv.ch (OLv.kp (OLv.kp (OLv.kp (OLv.kp (OLv.kp o519 k539) k587) k603) k607) k616) k622 (fun g h1 h2 hk => by have h3 := (t3 k366.size k369.size k373.size); have h4 := hk.2.1; omega)) k627 (fun g h1 h2 => ms_out (ms_out_cons (fun hn x hx => .inl (Nat.lt_of_lt_of_le (own_lt o376 x.block (by rw [hx]; rfl)).2 (Nat.le_refl w8.heap.size))) ms_out_nil) h1 h2))
    have o638 := (OLv.ch (OLv.ch (OLv.kp (OLv.kp (OLv.kp (OLv.kp (OLv.kp o535 k539) k587) k603) k607) k616) k622 (fun g h1 h2 hk => by have h3 := (Nat.le_refl w4.heap.size); have h4 := hk.1; omega)) k627 (fun g h1 h2 => ms_out (ms_out_cons (fun hn x hx => .inr (Nat.le_trans (t3 k353.size k366.size k369.size) (own_lt o376 x.block (by rw [hx]; rfl)).1)) ms_out_nil) h1 h2))
    have hc639 := C_laws_eqPaths w16 _ ((F_impl_Offer (F_laws_toPaths x_aP) x_aNow (F_laws_toAddr x_aA) (cpB x_aDraw)).1) (mR_59 (OLv.rl o637) s520) _ ((offS (F_laws_toPaths x_aP) x_aNow (F_laws_toAddr x_aA) (cpB x_aDraw)).1) (mR_59 (OLv.rl o638) s337)
    rw [e538] at hc639
    refine cl (wS h631) hc639 ?_
    rintro _ w17 ⟨k640, rfl⟩
    have m641 := m629.extk k640
    refine pu (vb (!(y537))) (wS h631) ?_
    refine pf (vb (!(y537))) wN h631 ?_
    refine mv (vb (!(y537))) wN ?_
    refine mv (vb ((F_impl_Offer (F_laws_toPaths x_aP) x_aNow (F_laws_toAddr x_aA) (cpB x_aDraw)).2)) (wS (congrArg not h541)) ?_
    refine mv (vb ((offS (F_laws_toPaths x_aP) x_aNow (F_laws_toAddr x_aA) (cpB x_aDraw)).2)) (wS (congrArg not h541)) ?_
    refine pu (vb (!(((F_impl_Offer (F_laws_toPaths x_aP) x_aNow (F_laws_toAddr x_aA) (cpB x_aDraw)).2) == ((offS (F_laws_toPaths x_aP) x_aNow (F_laws_toAddr x_aA) (cpB x_aDraw)).2)))) (wS (congrArg not h541)) ?_
    refine pf (vb (!(((F_impl_Offer (F_laws_toPaths x_aP) x_aNow (F_laws_toAddr x_aA) (cpB x_aDraw)).2) == ((offS (F_laws_toPaths x_aP) x_aNow (F_laws_toAddr x_aA) (cpB x_aDraw)).2)))) wN (congrArg not h541) ?_
    refine wl_nil <| wq_then ?_
    refine cf (congrArg not h543) ?_
    refine wc_skip <| wq_then <| sr ?_
    refine ag (vi 1) wN ?_
    refine nx ?_
    have b642 := (b635.kp k640)
    refine lN (L_59 ((F_impl_Offer (F_laws_toPaths x_aP) x_aNow (F_laws_toAddr x_aA) (cpB x_aDraw)).1) a517 c518) wN isAgg_59 sizeOf_59 b642 ?_
    refine mv (vi 1) wN ?_
    have o643 := (OLv.kp o637 k640)
    refine cl wN (C_laws_markPaths w17 a517 c518 ((F_impl_Offer (F_laws_toPaths x_aP) x_aNow (F_laws_toAddr x_aA) (cpB x_aDraw)).1) _ _ 1 (by omega) (by omega) o643) ?_
    rintro _ w18 ⟨rfl, k644, r645⟩
    have m646 := m641.ext k644 (fun k hk => Nat.le_trans (t8 k14.size k20.size k28.size k315.size k353.size k366.size k369.size k373.size) hk.1)
    have q647 := OLv.wb (wt := wt_PCand) (C := 1073741827) o643 (by intro x; simp only [wt_PCand]; omega) (by intro x hx; simp only [LT_54, List.mem_cons, List.not_mem_nil, or_false, forall_eq_or_imp, forall_eq] at hx; simp only [wt_PCand]; omega) _ (Nat.le_refl _)
    rw [List.take_length] at q647
    refine ag (vi (1 + totL wt_PCand (((F_impl_Offer (F_laws_toPaths x_aP) x_aNow (F_laws_toAddr x_aA) (cpB x_aDraw)).1).Cands))) wN ?_
    refine nx ?_
    refine ag (vi 1) wN ?_
    refine nx ?_
    have b648 := (b642.ch k644 (fun h => rowat_blk h.2.2 b642 (by decide) (by decide)))
    refine lN [(vi ((((F_impl_Offer (F_laws_toPaths x_aP) x_aNow (F_laws_toAddr x_aA) (cpB x_aDraw)).1).At).Host)), (vi ((((F_impl_Offer (F_laws_toPaths x_aP) x_aNow (F_laws_toAddr x_aA) (cpB x_aDraw)).1).At).Port)), (vs a517 (((F_impl_Offer (F_laws_toPaths x_aP) x_aNow (F_laws_toAddr x_aA) (cpB x_aDraw)).1).Cands).length c518)] wN isAgg_59 sizeOf_59 b648 ?_
    refine mv (vi 1) wN ?_
    obtain ⟨y650, e651⟩ : ∃ y, F_laws_heldPaths { At := (((F_impl_Offer (F_laws_toPaths x_aP) x_aNow (F_laws_toAddr x_aA) (cpB x_aDraw)).1).At), Cands := (marksE mkE_PCand wt_PCand (((F_impl_Offer (F_laws_toPaths x_aP) x_aNow (F_laws_toAddr x_aA) (cpB x_aDraw)).1).Cands) 1) : PPaths } 1 = y := ⟨_, rfl⟩
    have hc649 := C_laws_heldPaths w18 _ _ (show R_59 w18 (va [(vi ((((F_impl_Offer (F_laws_toPaths x_aP) x_aNow (F_laws_toAddr x_aA) (cpB x_aDraw)).1).At).Host)), (vi ((((F_impl_Offer (F_laws_toPaths x_aP) x_aNow (F_laws_toAddr x_aA) (cpB x_aDraw)).1).At).Port)), (vs a517 (((F_impl_Offer (F_laws_toPaths x_aP) x_aNow (F_laws_toAddr x_aA) (cpB x_aDraw)).1).Cands).length c518)]) { At := (((F_impl_Offer (F_laws_toPaths x_aP) x_aNow (F_laws_toAddr x_aA) (cpB x_aDraw)).1).At), Cands := (marksE mkE_PCand wt_PCand (((F_impl_Offer (F_laws_toPaths x_aP) x_aNow (F_laws_toAddr x_aA) (cpB x_aDraw)).1).Cands) 1) : PPaths } from ⟨a517, c518, by simp only [marksB_len, marksI_len, marksL_len, marksE_len], by simpa only [marksB_len, marksI_len, marksL_len, marksE_len] using (RLk.rl r645), by simp only [marksB_len, marksI_len, marksL_len, marksE_len]; first | exact s520 | omega⟩) 1 (by omega) (by omega)
    rw [e651] at hc649
    refine cl wN hc649 ?_
    rintro _ w19 ⟨k652, rfl⟩
    have m653 := m646.extk k652
    refine ag (vi (y650)) wN ?_
    refine wl_nil <| wq_then <| wc_seq <| sr ?_
    refine mv (vi (y650)) wN ?_
    refine pu (vb (decide ((y650) < 0))) wN ?_
    refine wl_nil <| wq_then ?_
    rcases bt (decide ((y650) < 0)) with h654 | h654
    ·have q655 := of_decide_eq_true h654
     refine ct h654 ?_
     refine sr ?_
     refine ag (vb false) wN ?_
     refine wl_nil <| wq_then <| wc_ret <| wq_then_ret ?_
     refine ret_1 (.inl rfl) (vb false) rfl rfl ?_
     refine ⟨m653.keep0, ?_⟩
     have hF656 : F_laws_FnExactOffer x_aP x_aNow x_aA x_aDraw = false := by simp only [F_laws_FnExactOffer, h23, h30, e538, h541, h543, e602, h605, h618, h631, e651, h654, cond_true, cond_false]
     rw [hF656]
     exact rfl
    have q657 := of_decide_eq_false h654
    refine cf h654 ?_
    refine wc_skip <| wq_then <| wc_seq <| sr ?_
    refine mv (vi (y650)) wN ?_
    refine mv (vi (1 + totL wt_PCand (((F_impl_Offer (F_laws_toPaths x_aP) x_aNow (F_laws_toAddr x_aA) (cpB x_aDraw)).1).Cands))) wN ?_
    refine pu (vb (!(decide ((y650) = (1 + totL wt_PCand (((F_impl_Offer (F_laws_toPaths x_aP) x_aNow (F_laws_toAddr x_aA) (cpB x_aDraw)).1).Cands)))))) wN ?_
    refine wl_nil <| wq_then ?_
    rcases bf (decide ((y650) = (1 + totL wt_PCand (((F_impl_Offer (F_laws_toPaths x_aP) x_aNow (F_laws_toAddr x_aA) (cpB x_aDraw)).1).Cands)))) with h658 | h658
    ·have q988 := of_decide_eq_false h658
     refine ct (congrArg not h658) ?_
     refine sr ?_
     refine ag (vb false) wN ?_
     refine wl_nil <| wq_then <| wc_ret <| wq_then_ret ?_
     refine ret_1 (.inl rfl) (vb false) rfl rfl ?_
     refine ⟨m653.keep0, ?_⟩
     have hF989 : F_laws_FnExactOffer x_aP x_aNow x_aA x_aDraw = false := by simp only [F_laws_FnExactOffer, h23, h30, e538, h541, h543, e602, h605, h618, h631, e651, h654, h658, cond_true, cond_false]
     rw [hF989]
     exact rfl
    have q659 := of_decide_eq_true h658
    refine cf (congrArg not h658) ?_
    refine wc_skip <| wq_then <| wc_seq ?_
    refine wc_drawT ([(103, [], [], (fun _ v _ => v = (.agg #[(vi x_aP.At.Host), (vi x_aP.At.Port), (vs a1 x_aP.Cands.length c2)]))), (104, [], [0], (fun _ v w => ∃ (a1 : Option Addr) (c1 : Nat), v = .agg #[.int .i64 (((F_laws_toPaths x_aP).At).Host), .int .i64 (((F_laws_toPaths x_aP).At).Port), .slice a1 ((F_laws_toPaths x_aP).Cands).length c1] ∧ OLv LT_54 w (w19.heap.size) w.heap.size a1 ((F_laws_toPaths x_aP).Cands).length c1 ((F_laws_toPaths x_aP).Cands) ∧ ((F_laws_toPaths x_aP).Cands).length ≤ 1073741824 ∧ Aps [(a1, c1)])), (105, [], [], (fun _ v _ => v = (vi x_aNow))), (106, [], [], (fun _ v _ => v = (.agg #[(vi x_aA.Host), (vi x_aA.Port)]))), (107, [], [0, 1, 3], (fun _ v w => v = .agg #[.int .i64 ((F_laws_toAddr x_aA).Host), .int .i64 ((F_laws_toAddr x_aA).Port)])), (108, [], [], (fun _ v _ => v = (vs a6 x_aDraw.length c7))), (109, [104], [0, 1, 3, 4, 5], (fun e v w => ∃ (a1 : Option Addr) (c1 : Nat), v = .slice a1 (cpB x_aDraw).length c1 ∧ w.ownsRow (w19.heap.size) 5 1 (.slice a1 (cpB x_aDraw).length c1) (cpB x_aDraw).length ((cpB x_aDraw).map bV) ∧ (cpB x_aDraw).length ≤ 1073741824 ∧ Aps [(a1, c1)] ∧ Ap (sp (cellAt (e 104) 2)) (a1, c1))), (110, [104, 109], [0, 1, 2, 3, 4, 5, 6], (fun e v w => ∃ (a1 : Option Addr) (c1 : Nat), v = .tuple #[.agg #[.int .i64 ((((F_impl_Offer (F_laws_toPaths x_aP) x_aNow (F_laws_toAddr x_aA) (cpB x_aDraw)).1).At).Host), .int .i64 ((((F_impl_Offer (F_laws_toPaths x_aP) x_aNow (F_laws_toAddr x_aA) (cpB x_aDraw)).1).At).Port), .slice a1 (((F_impl_Offer (F_laws_toPaths x_aP) x_aNow (F_laws_toAddr x_aA) (cpB x_aDraw)).1).Cands).length c1], .bool ((F_impl_Offer (F_laws_toPaths x_aP) x_aNow (F_laws_toAddr x_aA) (cpB x_aDraw)).2)] ∧ OLv LT_54 w (w19.heap.size) w.heap.size a1 (((F_impl_Offer (F_laws_toPaths x_aP) x_aNow (F_laws_toAddr x_aA) (cpB x_aDraw)).1).Cands).length c1 (((F_impl_Offer (F_laws_toPaths x_aP) x_aNow (F_laws_toAddr x_aA) (cpB x_aDraw)).1).Cands) ∧ (((F_impl_Offer (F_laws_toPaths x_aP) x_aNow (F_laws_toAddr x_aA) (cpB x_aDraw)).1).Cands).length ≤ 1073741824 ∧ Aps [(a1, c1)] ∧ Ap (sp (cellAt (e 104) 2)) (a1, c1) ∧ Ap (sp (e 109)) (a1, c1))), (102, [110], [0, 1, 2, 3, 4, 5, 6, 7], (fun e v _ => v = (.tuple #[(.agg #[(vi ((((F_impl_Offer (F_laws_toPaths x_aP) x_aNow (F_laws_toAddr x_aA) (cpB x_aDraw)).1).At).Host)), (vi ((((F_impl_Offer (F_laws_toPaths x_aP) x_aNow (F_laws_toAddr x_aA) (cpB x_aDraw)).1).At).Port)), (cellAt (tupAt (e 110) 0) 2)]), (vb ((F_impl_Offer (F_laws_toPaths x_aP) x_aNow (F_laws_toAddr x_aA) (cpB x_aDraw)).2))]))), (111, [110], [0, 1, 2, 3, 4, 5, 6, 7, 8], (fun e v _ => v = (.agg #[(vi ((((F_impl_Offer (F_laws_toPaths x_aP) x_aNow (F_laws_toAddr x_aA) (cpB x_aDraw)).1).At).Host)), (vi ((((F_impl_Offer (F_laws_toPaths x_aP) x_aNow (F_laws_toAddr x_aA) (cpB x_aDraw)).1).At).Port)), (cellAt (tupAt (e 110) 0) 2)]))), (112, [], [0, 1, 2, 3, 4, 5, 6, 7, 8], (fun _ v _ => v = (vb ((F_impl_Offer (F_laws_toPaths x_aP) x_aNow (F_laws_toAddr x_aA) (cpB x_aDraw)).2)))), (19, [], [], (fun _ v w => ∃ (g : Nat) (x0 x1 x2 : Value), v = vp g 0 ∧ w19.heap.size ≤ g ∧ Blk w g 59 [x0, x1, x2])), (142, [19, 110], [0, 1, 2, 3, 4, 5, 6, 7, 8, 9, 11], (fun e _ w => ∃ g : Nat, e 19 = vp g 0 ∧ w19.heap.size ≤ g ∧ Blk w g 59 [(vi ((((F_impl_Offer (F_laws_toPaths x_aP) x_aNow (F_laws_toAddr x_aA) (cpB x_aDraw)).1).At).Host)), (vi ((((F_impl_Offer (F_laws_toPaths x_aP) x_aNow (F_laws_toAddr x_aA) (cpB x_aDraw)).1).At).Port)), (cellAt (tupAt (e 110) 0) 2)]))] : GV) (fun _ w' => Keep w19 w') [(12, fun w w' => ∃ g : Nat, w19.heap.size ≤ g ∧ (∃ x0 x1 x2 : Value, Blk w g 59 [x0, x1, x2]) ∧ Ch (fun k => k = g) w w' ∧ ∃ x0 x1 x2 : Value, Blk w' g 59 [x0, x1, x2])] mixed rfl (by kernel_rfl) (by kernel_rfl) ?_ (fun _ _ h => h) (fun _ _ _ _ h _ k => h.trans k) ⟨(fun _ _ w w' h _ _ t => by obtain ⟨g, hle, -, hc2, -⟩ := t; exact h.new hc2 (fun k hk => by have h3 : k = g := hk; omega)), trivial⟩ ?_ ?_ ?_
    ·exact ⟨(fun _ _ _ _ h _ => h), (fun _ _ _ _ _ h => h), ⟨(fun e v w w1 h hk => by obtain ⟨a0x, c0x, he, o0x, l0x, hap⟩ := h; exact ⟨a0x, c0x, he, OLv.now (OLv.kp o0x hk), l0x, hap⟩), (fun _ _ _ _ _ h => h), ⟨(fun _ _ _ _ h _ => h), (fun _ _ _ _ _ h => h), ⟨(fun _ _ _ _ h _ => h), (fun _ _ _ _ _ h => h), ⟨(fun _ _ _ _ h _ => h), (fun _ _ _ _ _ h => h), ⟨(fun _ _ _ _ h _ => h), (fun _ _ _ _ _ h => h), ⟨(fun e v w w1 h hk => by obtain ⟨a0x, c0x, he, o0x, l0x, hap, hx⟩ := h; exact ⟨a0x, c0x, he, own_kp o0x hk, l0x, hap, hx⟩), (fun e1 e2 v w hx h => by have h104x := hx 104 (by simp); simp only [h104x] at h; exact h), ⟨(fun e v w w1 h hk => by obtain ⟨a0x, c0x, he, o0x, l0x, hap, hx⟩ := h; exact ⟨a0x, c0x, he, OLv.now (OLv.kp o0x hk), l0x, hap, hx⟩), (fun e1 e2 v w hx h => by have h104x := hx 104 (by simp); have h109x := hx 109 (by simp); simp only [h104x, h109x] at h; exact h), ⟨(fun _ _ _ _ h _ => h), (fun e1 e2 v w hx h => by have h110x := hx 110 (by simp); simp only [h110x] at h; exact h), ⟨(fun _ _ _ _ h _ => h), (fun e1 e2 v w hx h => by have h110x := hx 110 (by simp); simp only [h110x] at h; exact h), ⟨(fun _ _ _ _ h _ => h), (fun _ _ _ _ _ h => h), ⟨(fun e v w w1 h hk => by obtain ⟨g, x0, x1, x2, he, hle, hb⟩ := h; exact ⟨g, _, _, _, he, hle, hb.kp hk⟩), (fun _ _ _ _ _ h => h), ⟨(fun e v w w1 h hk => by obtain ⟨g, he, hle, hb⟩ := h; exact ⟨g, he, hle, hb.kp hk⟩), (fun e1 e2 v w hx h => by have h19x := hx 19 (by simp); have h110x := hx 110 (by simp); simp only [h19x, h110x] at h; exact h), trivial⟩⟩⟩⟩⟩⟩⟩⟩⟩⟩⟩⟩⟩
    ·exact ⟨⟨.inr (fun _ _ _ _ h _ => h), ⟨.inr (fun e v w w1 h ht => by obtain ⟨a0x, c0x, he, o0x, l0x, hap⟩ := h; obtain ⟨gt, hlt, ⟨_, _, _, hbt⟩, hct, ⟨_, _, _, hbt2⟩⟩ := ht; exact ⟨a0x, c0x, he, OLv.now (olv_blk o0x hbt (by decide) (by decide) hct), l0x, hap⟩), ⟨.inr (fun _ _ _ _ h _ => h), ⟨.inr (fun _ _ _ _ h _ => h), ⟨.inr (fun _ _ _ _ h _ => h), ⟨.inr (fun _ _ _ _ h _ => h), ⟨.inr (fun e v w w1 h ht => by obtain ⟨a0x, c0x, he, o0x, l0x, hap, hx⟩ := h; obtain ⟨gt, hlt, ⟨_, _, _, hbt⟩, hct, ⟨_, _, _, hbt2⟩⟩ := ht; exact ⟨a0x, c0x, he, own_blk o0x hbt (by decide) hct, l0x, hap, hx⟩), ⟨.inr (fun e v w w1 h ht => by obtain ⟨a0x, c0x, he, o0x, l0x, hap, hx⟩ := h; obtain ⟨gt, hlt, ⟨_, _, _, hbt⟩, hct, ⟨_, _, _, hbt2⟩⟩ := ht; exact ⟨a0x, c0x, he, OLv.now (olv_blk o0x hbt (by decide) (by decide) hct), l0x, hap, hx⟩), ⟨.inr (fun _ _ _ _ h _ => h), ⟨.inr (fun _ _ _ _ h _ => h), ⟨.inr (fun _ _ _ _ h _ => h), ⟨.inr (fun e v w w1 h ht => by obtain ⟨g, x0, x1, x2, he, hle, hb⟩ := h; obtain ⟨gt, hlt, ⟨_, _, _, hbt⟩, hct, ⟨_, _, _, hbt2⟩⟩ := ht; by_cases hg : g = gt; (· subst hg; exact ⟨g, _, _, _, he, hle, hbt2⟩); (· exact ⟨g, _, _, _, he, hle, hb.ch hct hg⟩)), ⟨.inl rfl, trivial⟩⟩⟩⟩⟩⟩⟩⟩⟩⟩⟩⟩⟩, trivial⟩
    ·refine ⟨?_, ⟨?_, ⟨?_, ⟨?_, ⟨?_, ⟨?_, ⟨?_, ⟨?_, ⟨?_, ⟨?_, ⟨?_, ⟨?_, ⟨?_, trivial⟩⟩⟩⟩⟩⟩⟩⟩⟩⟩⟩⟩⟩
     ·intro _ w20 k724 _
      have m725 := m653.extk k724
      rintro _ _ _ _ _ _ _ _ _ _ _ _ _
      show WL _ _ _ _ _ _ _
      have b726 := ((((((((((((((((b352.kp k353).kp k366).ch k369 (Nat.ne_of_lt (Nat.lt_of_lt_of_le p13 (Nat.le_trans (t4 k20.size k28.size k315.size k353.size) p364)))).kp k373).kp k513).kp k539).kp k587).kp k603).kp k607).kp k616).ch k622 (fun h => by have h1 := h.1; have h3 := Nat.lt_of_lt_of_le p13 (t3 k20.size k28.size k315.size); omega)).ch k627 (ms_lo (ms_lo_cons (fun hn x hx hb => by have := (own_lt o376 x.block (by rw [hx]; rfl)).1; have := Nat.lt_of_lt_of_le p13 (t6 k20.size k28.size k315.size k353.size k366.size k369.size); omega) ms_lo_nil))).kp k640).ch k644 (fun h => by have h1 := h.1; have h3 := Nat.lt_of_lt_of_le p13 (t7 k20.size k28.size k315.size k353.size k366.size k369.size k373.size); omega)).kp k652).kp k724)
      refine lN (L_59 x_aP a1 c2) wN isAgg_51 sizeOf_51 b726 ?_
      exact wl_finT (Ch.refl _ _) rfl
     ·intro _ w20 k727 _
      have m728 := m653.extk k727
      rintro _ rfl _ _ _ _ _ _ _ _ _ _ _ _
      show WL _ _ _ _ _ _ _
      refine cl wN (C_laws_toPaths w20 _ x_aP (mR_51 (RLv.raw (r3.from0 m728) (by omega) (fun e he b hb => Nat.le_trans (z34b e he b hb) (by decide))) (by omega))) ?_
      rintro _ w21 ⟨k730, ⟨a731, c732, rfl, o733, s734, ap736⟩⟩
      have m737 := m728.extk k730
      obtain ⟨y738, o739⟩ := OLv.ow o733
      exact wl_finT k730 ⟨_, _, rfl, (OLv.now (OLv.low o733 k727.size)), s734, ap736⟩
     ·intro _ w20 k740 _
      have m741 := m653.extk k740
      rintro _ _ _ _ _ _ _ _ _ _ _ _ _
      show WL _ _ _ _ _ _ _
      refine mv (vi x_aNow) wN ?_
      exact wl_finT (Ch.refl _ _) rfl
     ·intro _ w20 k742 _
      have m743 := m653.extk k742
      rintro _ _ _ _ _ _ _ _ _ _ _ _ _
      show WL _ _ _ _ _ _ _
      have b744 := ((((((((((((((((((b21.kp k28).kp k315).kp k353).kp k366).ch k369 (Nat.ne_of_lt (Nat.lt_of_lt_of_le p19 (Nat.le_trans (t3 k28.size k315.size k353.size) p364)))).kp k373).kp k513).kp k539).kp k587).kp k603).kp k607).kp k616).ch k622 (fun h => by have h1 := h.1; have h3 := Nat.lt_of_lt_of_le p19 (Nat.le_trans k28.size k315.size); omega)).ch k627 (ms_lo (ms_lo_cons (fun hn x hx hb => by have := (own_lt o376 x.block (by rw [hx]; rfl)).1; have := Nat.lt_of_lt_of_le p19 (t5 k28.size k315.size k353.size k366.size k369.size); omega) ms_lo_nil))).kp k640).ch k644 (fun h => by have h1 := h.1; have h3 := Nat.lt_of_lt_of_le p19 (t6 k28.size k315.size k353.size k366.size k369.size k373.size); omega)).kp k652).kp k742)
      refine lN (L_26 x_aA) wN isAgg_48 sizeOf_48 b744 ?_
      exact wl_finT (Ch.refl _ _) rfl
     ·intro _ w20 k745 _
      have m746 := m653.extk k745
      rintro _ rfl _ ⟨a748, c749, rfl, o750, s751, ap753⟩
      obtain ⟨y754, o755⟩ := OLv.ow o750
      rintro _ _ rfl _ _ _ _ _ _ _ _ _
      show WL _ _ _ _ _ _ _
      refine cl wN (C_laws_toAddr w20 _ x_aA (mR_48)) ?_
      rintro _ w21 ⟨k757, rfl⟩
      have m758 := m746.extk k757
      exact wl_finT k757 rfl
     ·intro _ w20 k759 _
      have m760 := m653.extk k759
      rintro _ _ _ _ _ _ _ _ _ _ _ _ _
      show WL _ _ _ _ _ _ _
      refine mv (vs a6 x_aDraw.length c7) wN ?_
      exact wl_finT (Ch.refl _ _) rfl
     ·intro _ w20 k761 _
      have m762 := m653.extk k761
      rintro _ rfl _ ⟨a764, c765, rfl, o766, s767, ap769⟩
      obtain ⟨y770, o771⟩ := OLv.ow o766
      rintro _ _ rfl _ rfl _ rfl _ _ _ _ _ _ _
      show WL _ _ _ _ _ _ _
      refine cl wN (C_laws_toByteS w20 _ x_aDraw (mR_22 (r8.from0 m762) (by omega))) ?_
      rintro _ w21 ⟨k773, ⟨a774, c775, rfl, o776, s777, ap779⟩⟩
      have m780 := m762.extk k773
      exact wl_finT k773 ⟨_, _, rfl, (own_lo o776 k761.size), s777, ap779, (Ap.lt o771 o776 (Nat.le_refl _))⟩
     ·intro _ w20 k781 _
      have m782 := m653.extk k781
      rintro _ rfl _ ⟨a784, c785, rfl, o786, s787, ap789⟩
      obtain ⟨y790, o791⟩ := OLv.ow o786
      rintro _ rfl _ rfl _ rfl _ rfl _ ⟨a793, c794, rfl, o795, s796, ap798, hx799⟩ _ _ _ _ _ _
      show WL _ _ _ _ _ _ _
      refine cl wN (C_impl_Offer w20 _ (F_laws_toPaths x_aP) (mR_59 (OLv.rl o786) s787) x_aNow _ (F_laws_toAddr x_aA) (mR_26) _ (cpB x_aDraw) (mR_22 (Rd.of_own o795) s796)) ?_
      rintro _ w21 ⟨k800, ⟨a801, c802, rfl, o803, s804, ap806⟩⟩
      have m807 := m782.extk k800
      obtain ⟨y808, o809⟩ := OLv.ow o803
      exact wl_finT k800 ⟨_, _, rfl, (OLv.now (OLv.low o803 k781.size)), s804, ap806, ⟨(Ap.lt o791 o809 (Nat.le_refl _)), (Ap.lt o795 o809 (Nat.le_refl _))⟩⟩
     ·intro _ w20 k810 _
      have m811 := m653.extk k810
      rintro _ rfl _ ⟨a813, c814, rfl, o815, s816, ap818⟩
      obtain ⟨y819, o820⟩ := OLv.ow o815
      rintro _ rfl _ rfl _ rfl _ rfl _ ⟨a822, c823, rfl, o824, s825, ap827, hx828⟩ _ ⟨a829, c830, rfl, o831, s832, ap834, hx835⟩
      obtain ⟨y836, o837⟩ := OLv.ow o831
      rintro _ _ _ _ _
      show WL _ _ _ _ _ _ _
      refine mv (.tuple #[(va (L_59 ((F_impl_Offer (F_laws_toPaths x_aP) x_aNow (F_laws_toAddr x_aA) (cpB x_aDraw)).1) a829 c830)), (vb ((F_impl_Offer (F_laws_toPaths x_aP) x_aNow (F_laws_toAddr x_aA) (cpB x_aDraw)).2))]) wN ?_
      exact wl_finT (Ch.refl _ _) rfl
     ·intro _ w20 k838 _
      have m839 := m653.extk k838
      rintro _ rfl _ ⟨a841, c842, rfl, o843, s844, ap846⟩
      obtain ⟨y847, o848⟩ := OLv.ow o843
      rintro _ rfl _ rfl _ rfl _ rfl _ ⟨a850, c851, rfl, o852, s853, ap855, hx856⟩ _ ⟨a857, c858, rfl, o859, s860, ap862, hx863⟩
      obtain ⟨y864, o865⟩ := OLv.ow o859
      rintro _ rfl _ _ _ _
      show WL _ _ _ _ _ _ _
      refine pu (va (L_59 ((F_impl_Offer (F_laws_toPaths x_aP) x_aNow (F_laws_toAddr x_aA) (cpB x_aDraw)).1) a857 c858)) wN ?_
      exact wl_finT (Ch.refl _ _) rfl
     ·intro _ w20 k866 _
      have m867 := m653.extk k866
      rintro _ rfl _ ⟨a869, c870, rfl, o871, s872, ap874⟩
      obtain ⟨y875, o876⟩ := OLv.ow o871
      rintro _ rfl _ rfl _ rfl _ rfl _ ⟨a878, c879, rfl, o880, s881, ap883, hx884⟩ _ ⟨a885, c886, rfl, o887, s888, ap890, hx891⟩
      obtain ⟨y892, o893⟩ := OLv.ow o887
      rintro _ rfl _ _ _ _
      show WL _ _ _ _ _ _ _
      refine pu (vb ((F_impl_Offer (F_laws_toPaths x_aP) x_aNow (F_laws_toAddr x_aA) (cpB x_aDraw)).2)) wN ?_
      exact wl_finT (Ch.refl _ _) rfl
     ·intro _ w20 k894 _
      have m895 := m653.extk k894
      rintro _ _ _ _ _ _ _ _ _ _ _ _ _
      show WL _ _ _ _ _ _ _
      refine al [(vi 0), (vi 0), (vs none 0 0)] wN zero_59 ?_
      intro g896 w21 p897 p898 k899 b900
      have m901 := m895.extk k899
      exact wl_finT k899 ⟨_, _, _, _, rfl, (Nat.le_trans k894.size p897), b900⟩
     ·intro _ w20 k902 _
      have m903 := m653.extk k902
      rintro _ rfl _ ⟨a905, c906, rfl, o907, s908, ap910⟩
      obtain ⟨y911, o912⟩ := OLv.ow o907
      rintro _ rfl _ rfl _ rfl _ rfl _ ⟨a914, c915, rfl, o916, s917, ap919, hx920⟩ _ ⟨a921, c922, rfl, o923, s924, ap926, hx927⟩
      obtain ⟨y928, o929⟩ := OLv.ow o923
      rintro _ rfl _ rfl _ _ ⟨g930, x933, x934, x935, rfl, p931, b932⟩ _
      show WL _ _ _ _ _ _ _
      refine st (va (L_59 ((F_impl_Offer (F_laws_toPaths x_aP) x_aNow (F_laws_toAddr x_aA) (cpB x_aDraw)).1) a921 c922)) (L_59 ((F_impl_Offer (F_laws_toPaths x_aP) x_aNow (F_laws_toAddr x_aA) (cpB x_aDraw)).1) a921 c922) (L_59 ((F_impl_Offer (F_laws_toPaths x_aP) x_aNow (F_laws_toAddr x_aA) (cpB x_aDraw)).1) a921 c922) wN sizeOf_59 b932 ?_
      intro w21 k936 b937 z938
      have m939 := m903.ext k936 (fun k hk => by subst hk; exact Nat.le_trans (t8 (t12 k14.size k20.size k28.size k315.size k353.size k366.size k369.size k373.size k513.size k539.size k587.size k603.size) k607.size k616.size k622.size k627.size k640.size k644.size k652.size) p931)
      exact wl_finS (by decide) ⟨_, p931, ⟨_, _, _, b932⟩, k936, ⟨_, _, _, b937⟩⟩ ⟨_, rfl, p931, b937⟩
    ·intro _ w20 k940
     have m941 := m653.extk k940
     rintro _ rfl _ ⟨a943, c944, rfl, o945, s946, ap948⟩
     obtain ⟨y949, o950⟩ := OLv.ow o945
     rintro _ rfl _ rfl _ rfl _ rfl _ ⟨a952, c953, rfl, o954, s955, ap957, hx958⟩ _ ⟨a959, c960, rfl, o961, s962, ap964, hx965⟩
     obtain ⟨y966, o967⟩ := OLv.ow o961
     rintro _ rfl _ rfl _ rfl _ ⟨g968, x971, x972, x973, rfl, p969, b970⟩ _ ⟨g974, e975, -, b976⟩
     obtain rfl := vp_inj e975
     show WL _ _ _ _ _ _ _
     refine ag (vb ((F_impl_Offer (F_laws_toPaths x_aP) x_aNow (F_laws_toAddr x_aA) (cpB x_aDraw)).2)) wN ?_
     refine wl_nil <| wq_then <| wc_seq <| sr ?_
     refine lN (L_59 ((F_impl_Offer (F_laws_toPaths x_aP) x_aNow (F_laws_toAddr x_aA) (cpB x_aDraw)).1) a959 c960) wN isAgg_59 sizeOf_59 b976 ?_
     have b977 := ((((b636.kp k640).ch k644 (fun h => by have h1 := h.1; have h3 := Nat.lt_of_lt_of_le (Blk.lt b345) (t4 k353.size k366.size k369.size k373.size); omega)).kp k652).kp k940)
     refine lN (L_59 ((offS (F_laws_toPaths x_aP) x_aNow (F_laws_toAddr x_aA) (cpB x_aDraw)).1) a334 c335) wN isAgg_59 sizeOf_59 b977 ?_
     have o978 := (OLv.kp (OLv.kp (OLv.ch (OLv.kp o638 k640) k644 (fun g h1 h2 hk => by have h3 := (t4 k353.size k366.size k369.size k373.size); have h4 := hk.1; omega)) k652) k940)
     have hc979 := C_laws_eqPaths w20 _ ((F_impl_Offer (F_laws_toPaths x_aP) x_aNow (F_laws_toAddr x_aA) (cpB x_aDraw)).1) (mR_59 (OLv.rl o961) s962) _ ((offS (F_laws_toPaths x_aP) x_aNow (F_laws_toAddr x_aA) (cpB x_aDraw)).1) (mR_59 (OLv.rl o978) s337)
     rw [e538] at hc979
     refine cl wN hc979 ?_
     rintro _ w21 ⟨k980, rfl⟩
     have m981 := m941.extk k980
     refine pu (vb (!(y537))) wN ?_
     refine mv (vb (!(y537))) wN ?_
     refine mv (vb ((F_impl_Offer (F_laws_toPaths x_aP) x_aNow (F_laws_toAddr x_aA) (cpB x_aDraw)).2)) (wS (congrArg not h541)) ?_
     refine mv (vb ((offS (F_laws_toPaths x_aP) x_aNow (F_laws_toAddr x_aA) (cpB x_aDraw)).2)) (wS (congrArg not h541)) ?_
     refine pu (vb (!(((F_impl_Offer (F_laws_toPaths x_aP) x_aNow (F_laws_toAddr x_aA) (cpB x_aDraw)).2) == ((offS (F_laws_toPaths x_aP) x_aNow (F_laws_toAddr x_aA) (cpB x_aDraw)).2)))) (wS (congrArg not h541)) ?_
     refine pf (vb (!(((F_impl_Offer (F_laws_toPaths x_aP) x_aNow (F_laws_toAddr x_aA) (cpB x_aDraw)).2) == ((offS (F_laws_toPaths x_aP) x_aNow (F_laws_toAddr x_aA) (cpB x_aDraw)).2)))) wN (congrArg not h541) ?_
     refine wl_nil <| wq_then ?_
     refine cf (congrArg not h543) ?_
     refine wc_skip <| wq_then <| sr ?_
     refine ag (vi 1) wN ?_
     refine nx ?_
     have b982 := (((b648.kp k652).kp k940).kp k980)
     refine lN [(vi ((((F_impl_Offer (F_laws_toPaths x_aP) x_aNow (F_laws_toAddr x_aA) (cpB x_aDraw)).1).At).Host)), (vi ((((F_impl_Offer (F_laws_toPaths x_aP) x_aNow (F_laws_toAddr x_aA) (cpB x_aDraw)).1).At).Port)), (vs a517 (((F_impl_Offer (F_laws_toPaths x_aP) x_aNow (F_laws_toAddr x_aA) (cpB x_aDraw)).1).Cands).length c518)] wN isAgg_59 sizeOf_59 b982 ?_
     refine mv (vi 1) wN ?_
     have r983 := (RLk.kp (RLk.kp (RLk.kp r645 k652) k940) k980)
     have hc984 := C_laws_heldPaths w21 _ _ (show R_59 w21 (va [(vi ((((F_impl_Offer (F_laws_toPaths x_aP) x_aNow (F_laws_toAddr x_aA) (cpB x_aDraw)).1).At).Host)), (vi ((((F_impl_Offer (F_laws_toPaths x_aP) x_aNow (F_laws_toAddr x_aA) (cpB x_aDraw)).1).At).Port)), (vs a517 (((F_impl_Offer (F_laws_toPaths x_aP) x_aNow (F_laws_toAddr x_aA) (cpB x_aDraw)).1).Cands).length c518)]) { At := (((F_impl_Offer (F_laws_toPaths x_aP) x_aNow (F_laws_toAddr x_aA) (cpB x_aDraw)).1).At), Cands := (marksE mkE_PCand wt_PCand (((F_impl_Offer (F_laws_toPaths x_aP) x_aNow (F_laws_toAddr x_aA) (cpB x_aDraw)).1).Cands) 1) : PPaths } from ⟨a517, c518, by simp only [marksB_len, marksI_len, marksL_len, marksE_len], by simpa only [marksB_len, marksI_len, marksL_len, marksE_len] using (RLk.rl r983), by simp only [marksB_len, marksI_len, marksL_len, marksE_len]; first | exact s520 | omega⟩) 1 (by omega) (by omega)
     rw [e651] at hc984
     refine cl wN hc984 ?_
     rintro _ w22 ⟨k985, rfl⟩
     have m986 := m981.extk k985
     refine ag (vi (y650)) wN ?_
     refine wl_nil <| wq_then <| wc_seq <| sr ?_
     refine mv (vi (y650)) wN ?_
     refine pu (vb (decide ((y650) < 0))) wN ?_
     refine wl_nil <| wq_then ?_
     refine cf h654 ?_
     refine wc_skip <| wq_then <| wc_seq <| sr ?_
     refine mv (vi (y650)) wN ?_
     refine mv (vi (1 + totL wt_PCand (((F_impl_Offer (F_laws_toPaths x_aP) x_aNow (F_laws_toAddr x_aA) (cpB x_aDraw)).1).Cands))) wN ?_
     refine pu (vb (!(decide ((y650) = (1 + totL wt_PCand (((F_impl_Offer (F_laws_toPaths x_aP) x_aNow (F_laws_toAddr x_aA) (cpB x_aDraw)).1).Cands)))))) wN ?_
     refine wl_nil <| wq_then ?_
     refine cf (congrArg not h658) ?_
     refine wc_skip <| wq_then <| sr ?_
     refine ag (vb true) wN ?_
     refine wl_nil <| wq_then <| wc_ret ?_
     refine ret_1 (.inl rfl) (vb true) rfl rfl ?_
     refine ⟨m986.keep0, ?_⟩
     have hF987 : F_laws_FnExactOffer x_aP x_aNow x_aA x_aDraw = true := by simp only [F_laws_FnExactOffer, h23, h30, e538, h541, h543, e602, h605, h618, h631, e651, h654, h658, cond_true, cond_false]
     rw [hF987]
     exact rfl
end Go.Proofs.Ytjcahjhnnagkdaa.K
