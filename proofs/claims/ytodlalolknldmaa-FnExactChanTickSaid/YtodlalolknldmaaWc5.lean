import Derived.Test.YtodlalolknldmaaCore
import Derived.Test.YtodlalolknldmaaProg
import Derived.Test.YtodlalolknldmaaHeld
import Derived.Test.YtodlalolknldmaaFun
import Derived.Test.YtodlalolknldmaaWc4
namespace Go.Proofs.Ytodlalolknldmaa.K
open Go.RowKit
set_option linter.unusedVariables false
set_option linter.unusedSimpArgs false
set_option maxRecDepth 100000
def F_impl_ChanTick (x_c : PChan) (x_now : Int) : (PChan) := bif (F_impl_ChanOk x_c) then (bif (F_impl_within x_now 0 1000000) then (bif x_c.HasOld then (bif (decide (x_c.Until = (-1))) then ((F_impl_copyChan x_c)) else (bif (decide (x_c.Until < x_now)) then ({ Role := (F_impl_copyChan x_c).Role, Sn := (F_impl_copyChan x_c).Sn, Cur := ((F_impl_copyChan x_c).Cur), Old := { N := 0, Key := [], Seq := 0, Win := { Top := 0, Bits := [] : PWin } : PEp }, HasOld := false, Until := 0, Next := (F_impl_copyChan x_c).Next : PChan }) else ((F_impl_copyChan x_c)))) else ((F_impl_copyChan x_c))) else ((F_impl_copyChan x_c))) else ((F_impl_copyChan x_c))
theorem C_impl_ChanTick (w0 : World) (v_x_c : Value) (x_c : PChan) (r_x_c : R_29 w0 v_x_c x_c) (x_now : Int)  : Fn Try.prog 38 #[v_x_c, (.int .i64 x_now)] w0 (fun v w' => Keep w0 w' ∧ O_29 w' w0.heap.size v (F_impl_ChanTick x_c x_now)) := by
  obtain ⟨a1, c2, a6, c7, a11, c12, a16, c17, a21, c22, a26, c27, rfl, r3, s4, r8, s9, r13, s14, r18, s19, r23, s24, r28, s29⟩ := r_x_c
  refine fn_of (n := 34) (l := [(.agg #[(.int .i64 x_c.Role), (.slice a1 x_c.Sn.length c2), (.int .i64 x_c.Cur.N), (.slice a6 x_c.Cur.Key.length c7), (.int .i64 x_c.Cur.Seq), (.int .i64 x_c.Cur.Win.Top), (.slice a11 x_c.Cur.Win.Bits.length c12), (.int .i64 x_c.Old.N), (.slice a16 x_c.Old.Key.length c17), (.int .i64 x_c.Old.Seq), (.int .i64 x_c.Old.Win.Top), (.slice a21 x_c.Old.Win.Bits.length c22), (.bool x_c.HasOld), (.int .i64 x_c.Until), (.slice a26 x_c.Next.length c27)]), (.int .i64 x_now), undef, undef, undef, undef, undef, undef, undef, undef, undef, undef, undef, undef, undef, undef, undef, undef, undef, undef, undef, undef, undef, undef, undef, undef, undef, undef, undef, undef, undef, undef, undef, undef]) Try.func38 rfl rfl (by kernel_rfl) rfl ?_
  refine wc_seq ?_
  refine wc_region ?_
  refine wl_box (want_none rfl) [(.int .i64 x_c.Role), (.slice a1 x_c.Sn.length c2), (.int .i64 x_c.Cur.N), (.slice a6 x_c.Cur.Key.length c7), (.int .i64 x_c.Cur.Seq), (.int .i64 x_c.Cur.Win.Top), (.slice a11 x_c.Cur.Win.Bits.length c12), (.int .i64 x_c.Old.N), (.slice a16 x_c.Old.Key.length c17), (.int .i64 x_c.Old.Seq), (.int .i64 x_c.Old.Win.Top), (.slice a21 x_c.Old.Win.Bits.length c22), (.bool x_c.HasOld), (.int .i64 x_c.Until), (.slice a26 x_c.Next.length c27)] rfl rfl rfl rfl ?_
  intro g31 w1 p32 p33 k34 b35
  have m36 := (Ch.base w0).extk k34
  refine wl_alloc (want_none rfl) (.agg #[(.int .i64 0), (.slice none 0 0), (.int .i64 0), (.slice none 0 0), (.int .i64 0), (.int .i64 0), (.slice none 0 0), (.int .i64 0), (.slice none 0 0), (.int .i64 0), (.int .i64 0), (.slice none 0 0), (.bool false), (.int .i64 0), (.slice none 0 0)]) [(.int .i64 0), (.slice none 0 0), (.int .i64 0), (.slice none 0 0), (.int .i64 0), (.int .i64 0), (.slice none 0 0), (.int .i64 0), (.slice none 0 0), (.int .i64 0), (.int .i64 0), (.slice none 0 0), (.bool false), (.int .i64 0), (.slice none 0 0)] zero_29 rfl rfl rfl rfl ?_
  intro g37 w2 p38 p39 k40 b41
  have m42 := m36.extk k40
  refine wl_nil ?_
  refine wq_then ?_
  refine wc_seq ?_
  refine wc_region ?_
  have b43 := (b35.kp k40)
  refine wl_loadN [(.int .i64 x_c.Role), (.slice a1 x_c.Sn.length c2), (.int .i64 x_c.Cur.N), (.slice a6 x_c.Cur.Key.length c7), (.int .i64 x_c.Cur.Seq), (.int .i64 x_c.Cur.Win.Top), (.slice a11 x_c.Cur.Win.Bits.length c12), (.int .i64 x_c.Old.N), (.slice a16 x_c.Old.Key.length c17), (.int .i64 x_c.Old.Seq), (.int .i64 x_c.Old.Win.Top), (.slice a21 x_c.Old.Win.Bits.length c22), (.bool x_c.HasOld), (.int .i64 x_c.Until), (.slice a26 x_c.Next.length c27)] (want_none rfl) rfl rfl rfl rfl isAgg_29 sizeOf_29 b43 rfl ?_
  refine wl_call (want_none rfl) (args := #[(.agg #[(.int .i64 x_c.Role), (.slice a1 x_c.Sn.length c2), (.int .i64 x_c.Cur.N), (.slice a6 x_c.Cur.Key.length c7), (.int .i64 x_c.Cur.Seq), (.int .i64 x_c.Cur.Win.Top), (.slice a11 x_c.Cur.Win.Bits.length c12), (.int .i64 x_c.Old.N), (.slice a16 x_c.Old.Key.length c17), (.int .i64 x_c.Old.Seq), (.int .i64 x_c.Old.Win.Top), (.slice a21 x_c.Old.Win.Bits.length c22), (.bool x_c.HasOld), (.int .i64 x_c.Until), (.slice a26 x_c.Next.length c27)])]) rfl rfl (by kernel_rfl) (C_impl_copyChan w2 (.agg #[(.int .i64 x_c.Role), (.slice a1 x_c.Sn.length c2), (.int .i64 x_c.Cur.N), (.slice a6 x_c.Cur.Key.length c7), (.int .i64 x_c.Cur.Seq), (.int .i64 x_c.Cur.Win.Top), (.slice a11 x_c.Cur.Win.Bits.length c12), (.int .i64 x_c.Old.N), (.slice a16 x_c.Old.Key.length c17), (.int .i64 x_c.Old.Seq), (.int .i64 x_c.Old.Win.Top), (.slice a21 x_c.Old.Win.Bits.length c22), (.bool x_c.HasOld), (.int .i64 x_c.Until), (.slice a26 x_c.Next.length c27)]) x_c (show R_29 w2 (.agg #[(.int .i64 x_c.Role), (.slice a1 x_c.Sn.length c2), (.int .i64 x_c.Cur.N), (.slice a6 x_c.Cur.Key.length c7), (.int .i64 x_c.Cur.Seq), (.int .i64 x_c.Cur.Win.Top), (.slice a11 x_c.Cur.Win.Bits.length c12), (.int .i64 x_c.Old.N), (.slice a16 x_c.Old.Key.length c17), (.int .i64 x_c.Old.Seq), (.int .i64 x_c.Old.Win.Top), (.slice a21 x_c.Old.Win.Bits.length c22), (.bool x_c.HasOld), (.int .i64 x_c.Until), (.slice a26 x_c.Next.length c27)]) x_c from ⟨_, _, _, _, _, _, _, _, _, _, _, _, rfl, (r3.from0 m42), s4, (r8.from0 m42), s9, (r13.from0 m42), s14, (r18.from0 m42), s19, (r23.from0 m42), s24, (r28.from0 m42), s29⟩)) ?_
  rintro _ w3 ⟨k44, ⟨a45, c46, a50, c51, a55, c56, a60, c61, a65, c66, a70, c71, rfl, o47, s48, o52, s53, o57, s58, o62, s63, o67, s68, o72, s73, ap75⟩⟩
  have m76 := m42.extk k44
  refine wl_alloc (want_none rfl) (.agg #[(.int .i64 0), (.slice none 0 0), (.int .i64 0), (.slice none 0 0), (.int .i64 0), (.int .i64 0), (.slice none 0 0), (.int .i64 0), (.slice none 0 0), (.int .i64 0), (.int .i64 0), (.slice none 0 0), (.bool false), (.int .i64 0), (.slice none 0 0)]) [(.int .i64 0), (.slice none 0 0), (.int .i64 0), (.slice none 0 0), (.int .i64 0), (.int .i64 0), (.slice none 0 0), (.int .i64 0), (.slice none 0 0), (.int .i64 0), (.int .i64 0), (.slice none 0 0), (.bool false), (.int .i64 0), (.slice none 0 0)] zero_29 rfl rfl rfl rfl ?_
  intro g77 w4 p78 p79 k80 b81
  have m82 := m76.extk k80
  refine wl_store (.agg #[(.int .i64 ((F_impl_copyChan x_c).Role)), (.slice a45 ((F_impl_copyChan x_c).Sn).length c46), (.int .i64 (((F_impl_copyChan x_c).Cur).N)), (.slice a50 (((F_impl_copyChan x_c).Cur).Key).length c51), (.int .i64 (((F_impl_copyChan x_c).Cur).Seq)), (.int .i64 ((((F_impl_copyChan x_c).Cur).Win).Top)), (.slice a55 ((((F_impl_copyChan x_c).Cur).Win).Bits).length c56), (.int .i64 (((F_impl_copyChan x_c).Old).N)), (.slice a60 (((F_impl_copyChan x_c).Old).Key).length c61), (.int .i64 (((F_impl_copyChan x_c).Old).Seq)), (.int .i64 ((((F_impl_copyChan x_c).Old).Win).Top)), (.slice a65 ((((F_impl_copyChan x_c).Old).Win).Bits).length c66), (.bool ((F_impl_copyChan x_c).HasOld)), (.int .i64 ((F_impl_copyChan x_c).Until)), (.slice a70 ((F_impl_copyChan x_c).Next).length c71)]) [(.int .i64 ((F_impl_copyChan x_c).Role)), (.slice a45 ((F_impl_copyChan x_c).Sn).length c46), (.int .i64 (((F_impl_copyChan x_c).Cur).N)), (.slice a50 (((F_impl_copyChan x_c).Cur).Key).length c51), (.int .i64 (((F_impl_copyChan x_c).Cur).Seq)), (.int .i64 ((((F_impl_copyChan x_c).Cur).Win).Top)), (.slice a55 ((((F_impl_copyChan x_c).Cur).Win).Bits).length c56), (.int .i64 (((F_impl_copyChan x_c).Old).N)), (.slice a60 (((F_impl_copyChan x_c).Old).Key).length c61), (.int .i64 (((F_impl_copyChan x_c).Old).Seq)), (.int .i64 ((((F_impl_copyChan x_c).Old).Win).Top)), (.slice a65 ((((F_impl_copyChan x_c).Old).Win).Bits).length c66), (.bool ((F_impl_copyChan x_c).HasOld)), (.int .i64 ((F_impl_copyChan x_c).Until)), (.slice a70 ((F_impl_copyChan x_c).Next).length c71)] [(.int .i64 ((F_impl_copyChan x_c).Role)), (.slice a45 ((F_impl_copyChan x_c).Sn).length c46), (.int .i64 (((F_impl_copyChan x_c).Cur).N)), (.slice a50 (((F_impl_copyChan x_c).Cur).Key).length c51), (.int .i64 (((F_impl_copyChan x_c).Cur).Seq)), (.int .i64 ((((F_impl_copyChan x_c).Cur).Win).Top)), (.slice a55 ((((F_impl_copyChan x_c).Cur).Win).Bits).length c56), (.int .i64 (((F_impl_copyChan x_c).Old).N)), (.slice a60 (((F_impl_copyChan x_c).Old).Key).length c61), (.int .i64 (((F_impl_copyChan x_c).Old).Seq)), (.int .i64 ((((F_impl_copyChan x_c).Old).Win).Top)), (.slice a65 ((((F_impl_copyChan x_c).Old).Win).Bits).length c66), (.bool ((F_impl_copyChan x_c).HasOld)), (.int .i64 ((F_impl_copyChan x_c).Until)), (.slice a70 ((F_impl_copyChan x_c).Next).length c71)] (want_none rfl) rfl rfl rfl rfl rfl (one_cons rfl (one_cons rfl (one_cons rfl (one_cons rfl (one_cons rfl (one_cons rfl (one_cons rfl (one_cons rfl (one_cons rfl (one_cons rfl (one_cons rfl (one_cons rfl (one_cons rfl (one_cons rfl (one_cons rfl one_nil))))))))))))))) sizeOf_29 b81 rfl rfl ?_
  intro w5 k83 b84 z85
  have m86 := m82.ext k83 (fun k hk => by subst hk; exact Nat.le_trans (Nat.le_trans (Nat.le_trans k34.size k40.size) k44.size) p78)
  refine wl_nil ?_
  refine wq_then ?_
  refine wc_seq ?_
  refine wc_seq ?_
  refine wc_region ?_
  have b87 := (((b43.kp k44).kp k80).ch k83 (Nat.ne_of_lt (Nat.lt_of_lt_of_le p33 (Nat.le_trans (Nat.le_trans k40.size k44.size) p78))))
  refine wl_loadN [(.int .i64 x_c.Role), (.slice a1 x_c.Sn.length c2), (.int .i64 x_c.Cur.N), (.slice a6 x_c.Cur.Key.length c7), (.int .i64 x_c.Cur.Seq), (.int .i64 x_c.Cur.Win.Top), (.slice a11 x_c.Cur.Win.Bits.length c12), (.int .i64 x_c.Old.N), (.slice a16 x_c.Old.Key.length c17), (.int .i64 x_c.Old.Seq), (.int .i64 x_c.Old.Win.Top), (.slice a21 x_c.Old.Win.Bits.length c22), (.bool x_c.HasOld), (.int .i64 x_c.Until), (.slice a26 x_c.Next.length c27)] (want_none rfl) rfl rfl rfl rfl isAgg_29 sizeOf_29 b87 rfl ?_
  refine wl_call (want_none rfl) (args := #[(.agg #[(.int .i64 x_c.Role), (.slice a1 x_c.Sn.length c2), (.int .i64 x_c.Cur.N), (.slice a6 x_c.Cur.Key.length c7), (.int .i64 x_c.Cur.Seq), (.int .i64 x_c.Cur.Win.Top), (.slice a11 x_c.Cur.Win.Bits.length c12), (.int .i64 x_c.Old.N), (.slice a16 x_c.Old.Key.length c17), (.int .i64 x_c.Old.Seq), (.int .i64 x_c.Old.Win.Top), (.slice a21 x_c.Old.Win.Bits.length c22), (.bool x_c.HasOld), (.int .i64 x_c.Until), (.slice a26 x_c.Next.length c27)])]) rfl rfl (by kernel_rfl) (C_impl_ChanOk w5 (.agg #[(.int .i64 x_c.Role), (.slice a1 x_c.Sn.length c2), (.int .i64 x_c.Cur.N), (.slice a6 x_c.Cur.Key.length c7), (.int .i64 x_c.Cur.Seq), (.int .i64 x_c.Cur.Win.Top), (.slice a11 x_c.Cur.Win.Bits.length c12), (.int .i64 x_c.Old.N), (.slice a16 x_c.Old.Key.length c17), (.int .i64 x_c.Old.Seq), (.int .i64 x_c.Old.Win.Top), (.slice a21 x_c.Old.Win.Bits.length c22), (.bool x_c.HasOld), (.int .i64 x_c.Until), (.slice a26 x_c.Next.length c27)]) x_c (show R_29 w5 (.agg #[(.int .i64 x_c.Role), (.slice a1 x_c.Sn.length c2), (.int .i64 x_c.Cur.N), (.slice a6 x_c.Cur.Key.length c7), (.int .i64 x_c.Cur.Seq), (.int .i64 x_c.Cur.Win.Top), (.slice a11 x_c.Cur.Win.Bits.length c12), (.int .i64 x_c.Old.N), (.slice a16 x_c.Old.Key.length c17), (.int .i64 x_c.Old.Seq), (.int .i64 x_c.Old.Win.Top), (.slice a21 x_c.Old.Win.Bits.length c22), (.bool x_c.HasOld), (.int .i64 x_c.Until), (.slice a26 x_c.Next.length c27)]) x_c from ⟨_, _, _, _, _, _, _, _, _, _, _, _, rfl, (r3.from0 m86), s4, (r8.from0 m86), s9, (r13.from0 m86), s14, (r18.from0 m86), s19, (r23.from0 m86), s24, (r28.from0 m86), s29⟩)) ?_
  rintro _ w6 ⟨k88, rfl⟩
  have m89 := m86.extk k88
  refine wl_mv (.bool (F_impl_ChanOk x_c)) (want_none rfl) rfl rfl (.inl rfl) rfl ?_
  rcases Bool.eq_false_or_eq_true (F_impl_ChanOk x_c) with h90 | h90
  · have q91 := impl_ChanOk_t h90
    refine wl_mv (.int .i64 x_now) (want_some rfl rfl rfl (congrArg Value.bool h90)) rfl rfl (.inl rfl) rfl ?_
    refine wl_call (want_some rfl rfl rfl (congrArg Value.bool h90)) (args := #[(.int .i64 x_now), (.int .i64 0), (.int .i64 1000000)]) rfl rfl (by kernel_rfl) (C_impl_within w6 x_now 0 1000000) ?_
    rintro _ w7 ⟨k92, rfl⟩
    have m93 := m89.extk k92
    refine wl_pick_t (.bool (F_impl_within x_now 0 1000000)) (want_none rfl) rfl rfl rfl (congrArg Value.bool h90) rfl ?_
    refine wl_mv (.bool (F_impl_within x_now 0 1000000)) (want_none rfl) rfl rfl (.inl rfl) rfl ?_
    rcases Bool.eq_false_or_eq_true (F_impl_within x_now 0 1000000) with h94 | h94
    · have q95 := impl_within_t h94
      refine wl_pure (.pointer (some ⟨g31, 12, none⟩)) (want_some rfl rfl rfl (congrArg Value.bool h94)) rfl rfl (by kernel_rfl) ?_
      have b96 := ((b87.kp k88).kp k92)
      refine wl_load1 (.bool x_c.HasOld) (want_some rfl rfl rfl (congrArg Value.bool h94)) rfl rfl rfl rfl isAgg_4 b96 rfl ?_
      refine wl_pick_t (.bool x_c.HasOld) (want_none rfl) rfl rfl rfl (congrArg Value.bool h94) rfl ?_
      refine wl_mv (.bool x_c.HasOld) (want_none rfl) rfl rfl (.inl rfl) rfl ?_
      rcases Bool.eq_false_or_eq_true x_c.HasOld with h97 | h97
      · skip
        refine wl_pure (.pointer (some ⟨g31, 13, none⟩)) (want_some rfl rfl rfl (congrArg Value.bool h97)) rfl rfl (by kernel_rfl) ?_
        refine wl_load1 (.int .i64 x_c.Until) (want_some rfl rfl rfl (congrArg Value.bool h97)) rfl rfl rfl rfl isAgg_3 b96 rfl ?_
        refine wl_pure (.bool (!(decide (x_c.Until = (-1))))) (want_some rfl rfl rfl (congrArg Value.bool h97)) rfl rfl (by kernel_rfl) ?_
        refine wl_pick_t (.bool (!(decide (x_c.Until = (-1))))) (want_none rfl) rfl rfl rfl (congrArg Value.bool h97) rfl ?_
        refine wl_mv (.bool (!(decide (x_c.Until = (-1))))) (want_none rfl) rfl rfl (.inl rfl) rfl ?_
        rcases Bool.eq_false_or_eq_true (decide (x_c.Until = (-1))) with h99 | h99
        · have q100 := of_decide_eq_true h99
          refine wl_skip rfl rfl rfl (congrArg (fun b => Value.bool (!b)) h99) rfl rfl rfl ?_
          refine wl_skip rfl rfl rfl (congrArg (fun b => Value.bool (!b)) h99) rfl rfl rfl ?_
          refine wl_skip rfl rfl rfl (congrArg (fun b => Value.bool (!b)) h99) rfl rfl rfl ?_
          refine wl_skip rfl rfl rfl (congrArg (fun b => Value.bool (!b)) h99) rfl rfl rfl ?_
          refine wl_pick_f (.bool false) (want_none rfl) rfl rfl rfl (congrArg (fun b => Value.bool (!b)) h99) rfl ?_
          refine wl_nil ?_
          refine wq_then ?_
          refine wc_false rfl ?_
          refine wc_skip ?_
          refine wq_then ?_
          refine wc_seq ?_
          refine wc_region ?_
          have b101 := ((b84.kp k88).kp k92)
          refine wl_loadN [(.int .i64 ((F_impl_copyChan x_c).Role)), (.slice a45 ((F_impl_copyChan x_c).Sn).length c46), (.int .i64 (((F_impl_copyChan x_c).Cur).N)), (.slice a50 (((F_impl_copyChan x_c).Cur).Key).length c51), (.int .i64 (((F_impl_copyChan x_c).Cur).Seq)), (.int .i64 ((((F_impl_copyChan x_c).Cur).Win).Top)), (.slice a55 ((((F_impl_copyChan x_c).Cur).Win).Bits).length c56), (.int .i64 (((F_impl_copyChan x_c).Old).N)), (.slice a60 (((F_impl_copyChan x_c).Old).Key).length c61), (.int .i64 (((F_impl_copyChan x_c).Old).Seq)), (.int .i64 ((((F_impl_copyChan x_c).Old).Win).Top)), (.slice a65 ((((F_impl_copyChan x_c).Old).Win).Bits).length c66), (.bool ((F_impl_copyChan x_c).HasOld)), (.int .i64 ((F_impl_copyChan x_c).Until)), (.slice a70 ((F_impl_copyChan x_c).Next).length c71)] (want_none rfl) rfl rfl rfl rfl isAgg_29 sizeOf_29 b101 rfl ?_
          have b102 := (((((b41.kp k44).kp k80).ch k83 (Nat.ne_of_lt (Nat.lt_of_lt_of_le p39 (Nat.le_trans k44.size p78)))).kp k88).kp k92)
          refine wl_store (.agg #[(.int .i64 ((F_impl_copyChan x_c).Role)), (.slice a45 ((F_impl_copyChan x_c).Sn).length c46), (.int .i64 (((F_impl_copyChan x_c).Cur).N)), (.slice a50 (((F_impl_copyChan x_c).Cur).Key).length c51), (.int .i64 (((F_impl_copyChan x_c).Cur).Seq)), (.int .i64 ((((F_impl_copyChan x_c).Cur).Win).Top)), (.slice a55 ((((F_impl_copyChan x_c).Cur).Win).Bits).length c56), (.int .i64 (((F_impl_copyChan x_c).Old).N)), (.slice a60 (((F_impl_copyChan x_c).Old).Key).length c61), (.int .i64 (((F_impl_copyChan x_c).Old).Seq)), (.int .i64 ((((F_impl_copyChan x_c).Old).Win).Top)), (.slice a65 ((((F_impl_copyChan x_c).Old).Win).Bits).length c66), (.bool ((F_impl_copyChan x_c).HasOld)), (.int .i64 ((F_impl_copyChan x_c).Until)), (.slice a70 ((F_impl_copyChan x_c).Next).length c71)]) [(.int .i64 ((F_impl_copyChan x_c).Role)), (.slice a45 ((F_impl_copyChan x_c).Sn).length c46), (.int .i64 (((F_impl_copyChan x_c).Cur).N)), (.slice a50 (((F_impl_copyChan x_c).Cur).Key).length c51), (.int .i64 (((F_impl_copyChan x_c).Cur).Seq)), (.int .i64 ((((F_impl_copyChan x_c).Cur).Win).Top)), (.slice a55 ((((F_impl_copyChan x_c).Cur).Win).Bits).length c56), (.int .i64 (((F_impl_copyChan x_c).Old).N)), (.slice a60 (((F_impl_copyChan x_c).Old).Key).length c61), (.int .i64 (((F_impl_copyChan x_c).Old).Seq)), (.int .i64 ((((F_impl_copyChan x_c).Old).Win).Top)), (.slice a65 ((((F_impl_copyChan x_c).Old).Win).Bits).length c66), (.bool ((F_impl_copyChan x_c).HasOld)), (.int .i64 ((F_impl_copyChan x_c).Until)), (.slice a70 ((F_impl_copyChan x_c).Next).length c71)] [(.int .i64 ((F_impl_copyChan x_c).Role)), (.slice a45 ((F_impl_copyChan x_c).Sn).length c46), (.int .i64 (((F_impl_copyChan x_c).Cur).N)), (.slice a50 (((F_impl_copyChan x_c).Cur).Key).length c51), (.int .i64 (((F_impl_copyChan x_c).Cur).Seq)), (.int .i64 ((((F_impl_copyChan x_c).Cur).Win).Top)), (.slice a55 ((((F_impl_copyChan x_c).Cur).Win).Bits).length c56), (.int .i64 (((F_impl_copyChan x_c).Old).N)), (.slice a60 (((F_impl_copyChan x_c).Old).Key).length c61), (.int .i64 (((F_impl_copyChan x_c).Old).Seq)), (.int .i64 ((((F_impl_copyChan x_c).Old).Win).Top)), (.slice a65 ((((F_impl_copyChan x_c).Old).Win).Bits).length c66), (.bool ((F_impl_copyChan x_c).HasOld)), (.int .i64 ((F_impl_copyChan x_c).Until)), (.slice a70 ((F_impl_copyChan x_c).Next).length c71)] (want_none rfl) rfl rfl rfl rfl rfl (one_cons rfl (one_cons rfl (one_cons rfl (one_cons rfl (one_cons rfl (one_cons rfl (one_cons rfl (one_cons rfl (one_cons rfl (one_cons rfl (one_cons rfl (one_cons rfl (one_cons rfl (one_cons rfl (one_cons rfl one_nil))))))))))))))) sizeOf_29 b102 rfl rfl ?_
          intro w8 k103 b104 z105
          have m106 := m93.ext k103 (fun k hk => by subst hk; exact Nat.le_trans k34.size p38)
          refine wl_nil ?_
          refine wq_then ?_
          refine wc_ret ?_
          have o107 := (own_ch (own_kp (own_kp (own_ch (own_kp o47 k80) k83 (fun g hg hlt hk => by have h1 := (own_lt o47 g hg).2; have h2 := Nat.le_trans (Nat.le_refl _) p78; omega)) k88) k92) k103 (fun g hg hlt hk => by have h1 := (own_lt o47 g hg).1; have h2 := Nat.lt_of_lt_of_le p39 (Nat.le_refl _); omega))
          have o108 := (own_ch (own_kp (own_kp (own_ch (own_kp o52 k80) k83 (fun g hg hlt hk => by have h1 := (own_lt o52 g hg).2; have h2 := Nat.le_trans (Nat.le_refl _) p78; omega)) k88) k92) k103 (fun g hg hlt hk => by have h1 := (own_lt o52 g hg).1; have h2 := Nat.lt_of_lt_of_le p39 (Nat.le_refl _); omega))
          have o109 := (own_ch (own_kp (own_kp (own_ch (own_kp o57 k80) k83 (fun g hg hlt hk => by have h1 := (own_lt o57 g hg).2; have h2 := Nat.le_trans (Nat.le_refl _) p78; omega)) k88) k92) k103 (fun g hg hlt hk => by have h1 := (own_lt o57 g hg).1; have h2 := Nat.lt_of_lt_of_le p39 (Nat.le_refl _); omega))
          have o110 := (own_ch (own_kp (own_kp (own_ch (own_kp o62 k80) k83 (fun g hg hlt hk => by have h1 := (own_lt o62 g hg).2; have h2 := Nat.le_trans (Nat.le_refl _) p78; omega)) k88) k92) k103 (fun g hg hlt hk => by have h1 := (own_lt o62 g hg).1; have h2 := Nat.lt_of_lt_of_le p39 (Nat.le_refl _); omega))
          have o111 := (own_ch (own_kp (own_kp (own_ch (own_kp o67 k80) k83 (fun g hg hlt hk => by have h1 := (own_lt o67 g hg).2; have h2 := Nat.le_trans (Nat.le_refl _) p78; omega)) k88) k92) k103 (fun g hg hlt hk => by have h1 := (own_lt o67 g hg).1; have h2 := Nat.lt_of_lt_of_le p39 (Nat.le_refl _); omega))
          have o112 := (own_ch (own_kp (own_kp (own_ch (own_kp o72 k80) k83 (fun g hg hlt hk => by have h1 := (own_lt o72 g hg).2; have h2 := Nat.le_trans (Nat.le_refl _) p78; omega)) k88) k92) k103 (fun g hg hlt hk => by have h1 := (own_lt o72 g hg).1; have h2 := Nat.lt_of_lt_of_le p39 (Nat.le_refl _); omega))
          refine ret_1 (.inl rfl) (.agg #[(.int .i64 ((F_impl_copyChan x_c).Role)), (.slice a45 ((F_impl_copyChan x_c).Sn).length c46), (.int .i64 (((F_impl_copyChan x_c).Cur).N)), (.slice a50 (((F_impl_copyChan x_c).Cur).Key).length c51), (.int .i64 (((F_impl_copyChan x_c).Cur).Seq)), (.int .i64 ((((F_impl_copyChan x_c).Cur).Win).Top)), (.slice a55 ((((F_impl_copyChan x_c).Cur).Win).Bits).length c56), (.int .i64 (((F_impl_copyChan x_c).Old).N)), (.slice a60 (((F_impl_copyChan x_c).Old).Key).length c61), (.int .i64 (((F_impl_copyChan x_c).Old).Seq)), (.int .i64 ((((F_impl_copyChan x_c).Old).Win).Top)), (.slice a65 ((((F_impl_copyChan x_c).Old).Win).Bits).length c66), (.bool ((F_impl_copyChan x_c).HasOld)), (.int .i64 ((F_impl_copyChan x_c).Until)), (.slice a70 ((F_impl_copyChan x_c).Next).length c71)]) rfl (rv_c [(.int .i64 ((F_impl_copyChan x_c).Role)), (.slice a45 ((F_impl_copyChan x_c).Sn).length c46), (.int .i64 (((F_impl_copyChan x_c).Cur).N)), (.slice a50 (((F_impl_copyChan x_c).Cur).Key).length c51), (.int .i64 (((F_impl_copyChan x_c).Cur).Seq)), (.int .i64 ((((F_impl_copyChan x_c).Cur).Win).Top)), (.slice a55 ((((F_impl_copyChan x_c).Cur).Win).Bits).length c56), (.int .i64 (((F_impl_copyChan x_c).Old).N)), (.slice a60 (((F_impl_copyChan x_c).Old).Key).length c61), (.int .i64 (((F_impl_copyChan x_c).Old).Seq)), (.int .i64 ((((F_impl_copyChan x_c).Old).Win).Top)), (.slice a65 ((((F_impl_copyChan x_c).Old).Win).Bits).length c66), (.bool ((F_impl_copyChan x_c).HasOld)), (.int .i64 ((F_impl_copyChan x_c).Until)), (.slice a70 ((F_impl_copyChan x_c).Next).length c71)] rfl b104 isAgg_29 sizeOf_29) ?_
          refine ⟨m106.keep0, ?_⟩
          have hF113 : F_impl_ChanTick x_c x_now = (F_impl_copyChan x_c) := by simp only [F_impl_ChanTick, h90, h94, h97, h99, cond_true, cond_false]
          rw [hF113]
          exact ⟨_, _, _, _, _, _, _, _, _, _, _, _, rfl, (own_lo o107 (Nat.le_trans k34.size k40.size)), s48, (own_lo o108 (Nat.le_trans k34.size k40.size)), s53, (own_lo o109 (Nat.le_trans k34.size k40.size)), s58, (own_lo o110 (Nat.le_trans k34.size k40.size)), s63, (own_lo o111 (Nat.le_trans k34.size k40.size)), s68, (own_lo o112 (Nat.le_trans k34.size k40.size)), s73, ⟨⟨(ap75.1.1), ⟨(ap75.1.2.1), ⟨(ap75.1.2.2.1), ⟨(ap75.1.2.2.2.1), ⟨(ap75.1.2.2.2.2.1), trivial⟩⟩⟩⟩⟩, ⟨⟨(ap75.2.1.1), ⟨(ap75.2.1.2.1), ⟨(ap75.2.1.2.2.1), ⟨(ap75.2.1.2.2.2.1), trivial⟩⟩⟩⟩, ⟨⟨(ap75.2.2.1.1), ⟨(ap75.2.2.1.2.1), ⟨(ap75.2.2.1.2.2.1), trivial⟩⟩⟩, ⟨⟨(ap75.2.2.2.1.1), ⟨(ap75.2.2.2.1.2.1), trivial⟩⟩, ⟨⟨(ap75.2.2.2.2.1.1), trivial⟩, ⟨trivial, trivial⟩⟩⟩⟩⟩⟩⟩
        · have q114 := of_decide_eq_false h99
          refine wl_mv (.int .i64 x_now) (want_some rfl rfl rfl (congrArg (fun b => Value.bool (!b)) h99)) rfl rfl (.inl rfl) rfl ?_
          refine wl_pure (.pointer (some ⟨g31, 13, none⟩)) (want_some rfl rfl rfl (congrArg (fun b => Value.bool (!b)) h99)) rfl rfl (by kernel_rfl) ?_
          refine wl_load1 (.int .i64 x_c.Until) (want_some rfl rfl rfl (congrArg (fun b => Value.bool (!b)) h99)) rfl rfl rfl rfl isAgg_3 b96 rfl ?_
          refine wl_pure (.bool (decide (x_c.Until < x_now))) (want_some rfl rfl rfl (congrArg (fun b => Value.bool (!b)) h99)) rfl rfl (by kernel_rfl) ?_
          refine wl_pick_t (.bool (decide (x_c.Until < x_now))) (want_none rfl) rfl rfl rfl (congrArg (fun b => Value.bool (!b)) h99) rfl ?_
          refine wl_nil ?_
          refine wq_then ?_
          rcases Bool.eq_false_or_eq_true (decide (x_c.Until < x_now)) with h115 | h115
          · have q116 := of_decide_eq_true h115
            refine wc_true (congrArg Value.bool h115) ?_
            refine wc_region ?_
            refine wl_pure (.agg #[(.int .i64 0), (.slice none 0 0), (.int .i64 0), (.int .i64 0), (.slice none 0 0)]) (want_none rfl) rfl rfl (by kernel_rfl) ?_
            refine wl_pure (.pointer (some ⟨g77, 7, none⟩)) (want_none rfl) rfl rfl (by kernel_rfl) ?_
            have b117 := ((b84.kp k88).kp k92)
            refine wl_store (.agg #[(.int .i64 0), (.slice none 0 0), (.int .i64 0), (.int .i64 0), (.slice none 0 0)]) [(.int .i64 0), (.slice none 0 0), (.int .i64 0), (.int .i64 0), (.slice none 0 0)] [(.int .i64 ((F_impl_copyChan x_c).Role)), (.slice a45 ((F_impl_copyChan x_c).Sn).length c46), (.int .i64 (((F_impl_copyChan x_c).Cur).N)), (.slice a50 (((F_impl_copyChan x_c).Cur).Key).length c51), (.int .i64 (((F_impl_copyChan x_c).Cur).Seq)), (.int .i64 ((((F_impl_copyChan x_c).Cur).Win).Top)), (.slice a55 ((((F_impl_copyChan x_c).Cur).Win).Bits).length c56), (.int .i64 0), (.slice none 0 0), (.int .i64 0), (.int .i64 0), (.slice none 0 0), (.bool ((F_impl_copyChan x_c).HasOld)), (.int .i64 ((F_impl_copyChan x_c).Until)), (.slice a70 ((F_impl_copyChan x_c).Next).length c71)] (want_none rfl) rfl rfl rfl rfl rfl (one_cons rfl (one_cons rfl (one_cons rfl (one_cons rfl (one_cons rfl one_nil))))) sizeOf_27 b117 rfl rfl ?_
            intro w8 k118 b119 z120
            have m121 := m93.ext k118 (fun k hk => by subst hk; exact Nat.le_trans (Nat.le_trans (Nat.le_trans k34.size k40.size) k44.size) p78)
            refine wl_pure (.pointer (some ⟨g77, 12, none⟩)) (want_none rfl) rfl rfl (by kernel_rfl) ?_
            refine wl_store (.bool false) [(.bool false)] [(.int .i64 ((F_impl_copyChan x_c).Role)), (.slice a45 ((F_impl_copyChan x_c).Sn).length c46), (.int .i64 (((F_impl_copyChan x_c).Cur).N)), (.slice a50 (((F_impl_copyChan x_c).Cur).Key).length c51), (.int .i64 (((F_impl_copyChan x_c).Cur).Seq)), (.int .i64 ((((F_impl_copyChan x_c).Cur).Win).Top)), (.slice a55 ((((F_impl_copyChan x_c).Cur).Win).Bits).length c56), (.int .i64 0), (.slice none 0 0), (.int .i64 0), (.int .i64 0), (.slice none 0 0), (.bool false), (.int .i64 ((F_impl_copyChan x_c).Until)), (.slice a70 ((F_impl_copyChan x_c).Next).length c71)] (want_none rfl) rfl rfl rfl rfl rfl (one_cons rfl one_nil) sizeOf_4 b119 rfl rfl ?_
            intro w9 k122 b123 z124
            have m125 := m121.ext k122 (fun k hk => by subst hk; exact Nat.le_trans (Nat.le_trans (Nat.le_trans k34.size k40.size) k44.size) p78)
            refine wl_pure (.pointer (some ⟨g77, 13, none⟩)) (want_none rfl) rfl rfl (by kernel_rfl) ?_
            refine wl_store (.int .i64 0) [(.int .i64 0)] [(.int .i64 ((F_impl_copyChan x_c).Role)), (.slice a45 ((F_impl_copyChan x_c).Sn).length c46), (.int .i64 (((F_impl_copyChan x_c).Cur).N)), (.slice a50 (((F_impl_copyChan x_c).Cur).Key).length c51), (.int .i64 (((F_impl_copyChan x_c).Cur).Seq)), (.int .i64 ((((F_impl_copyChan x_c).Cur).Win).Top)), (.slice a55 ((((F_impl_copyChan x_c).Cur).Win).Bits).length c56), (.int .i64 0), (.slice none 0 0), (.int .i64 0), (.int .i64 0), (.slice none 0 0), (.bool false), (.int .i64 0), (.slice a70 ((F_impl_copyChan x_c).Next).length c71)] (want_none rfl) rfl rfl rfl rfl rfl (one_cons rfl one_nil) sizeOf_3 b123 rfl rfl ?_
            intro w10 k126 b127 z128
            have m129 := m125.ext k126 (fun k hk => by subst hk; exact Nat.le_trans (Nat.le_trans (Nat.le_trans k34.size k40.size) k44.size) p78)
            refine wl_nil ?_
            refine wq_then ?_
            refine wc_seq ?_
            refine wc_region ?_
            refine wl_loadN [(.int .i64 ((F_impl_copyChan x_c).Role)), (.slice a45 ((F_impl_copyChan x_c).Sn).length c46), (.int .i64 (((F_impl_copyChan x_c).Cur).N)), (.slice a50 (((F_impl_copyChan x_c).Cur).Key).length c51), (.int .i64 (((F_impl_copyChan x_c).Cur).Seq)), (.int .i64 ((((F_impl_copyChan x_c).Cur).Win).Top)), (.slice a55 ((((F_impl_copyChan x_c).Cur).Win).Bits).length c56), (.int .i64 0), (.slice none 0 0), (.int .i64 0), (.int .i64 0), (.slice none 0 0), (.bool false), (.int .i64 0), (.slice a70 ((F_impl_copyChan x_c).Next).length c71)] (want_none rfl) rfl rfl rfl rfl isAgg_29 sizeOf_29 b127 rfl ?_
            have b130 := ((((((((b41.kp k44).kp k80).ch k83 (Nat.ne_of_lt (Nat.lt_of_lt_of_le p39 (Nat.le_trans k44.size p78)))).kp k88).kp k92).ch k118 (Nat.ne_of_lt (Nat.lt_of_lt_of_le p39 (Nat.le_trans k44.size p78)))).ch k122 (Nat.ne_of_lt (Nat.lt_of_lt_of_le p39 (Nat.le_trans k44.size p78)))).ch k126 (Nat.ne_of_lt (Nat.lt_of_lt_of_le p39 (Nat.le_trans k44.size p78))))
            refine wl_store (.agg #[(.int .i64 ((F_impl_copyChan x_c).Role)), (.slice a45 ((F_impl_copyChan x_c).Sn).length c46), (.int .i64 (((F_impl_copyChan x_c).Cur).N)), (.slice a50 (((F_impl_copyChan x_c).Cur).Key).length c51), (.int .i64 (((F_impl_copyChan x_c).Cur).Seq)), (.int .i64 ((((F_impl_copyChan x_c).Cur).Win).Top)), (.slice a55 ((((F_impl_copyChan x_c).Cur).Win).Bits).length c56), (.int .i64 0), (.slice none 0 0), (.int .i64 0), (.int .i64 0), (.slice none 0 0), (.bool false), (.int .i64 0), (.slice a70 ((F_impl_copyChan x_c).Next).length c71)]) [(.int .i64 ((F_impl_copyChan x_c).Role)), (.slice a45 ((F_impl_copyChan x_c).Sn).length c46), (.int .i64 (((F_impl_copyChan x_c).Cur).N)), (.slice a50 (((F_impl_copyChan x_c).Cur).Key).length c51), (.int .i64 (((F_impl_copyChan x_c).Cur).Seq)), (.int .i64 ((((F_impl_copyChan x_c).Cur).Win).Top)), (.slice a55 ((((F_impl_copyChan x_c).Cur).Win).Bits).length c56), (.int .i64 0), (.slice none 0 0), (.int .i64 0), (.int .i64 0), (.slice none 0 0), (.bool false), (.int .i64 0), (.slice a70 ((F_impl_copyChan x_c).Next).length c71)] [(.int .i64 ((F_impl_copyChan x_c).Role)), (.slice a45 ((F_impl_copyChan x_c).Sn).length c46), (.int .i64 (((F_impl_copyChan x_c).Cur).N)), (.slice a50 (((F_impl_copyChan x_c).Cur).Key).length c51), (.int .i64 (((F_impl_copyChan x_c).Cur).Seq)), (.int .i64 ((((F_impl_copyChan x_c).Cur).Win).Top)), (.slice a55 ((((F_impl_copyChan x_c).Cur).Win).Bits).length c56), (.int .i64 0), (.slice none 0 0), (.int .i64 0), (.int .i64 0), (.slice none 0 0), (.bool false), (.int .i64 0), (.slice a70 ((F_impl_copyChan x_c).Next).length c71)] (want_none rfl) rfl rfl rfl rfl rfl (one_cons rfl (one_cons rfl (one_cons rfl (one_cons rfl (one_cons rfl (one_cons rfl (one_cons rfl (one_cons rfl (one_cons rfl (one_cons rfl (one_cons rfl (one_cons rfl (one_cons rfl (one_cons rfl (one_cons rfl one_nil))))))))))))))) sizeOf_29 b130 rfl rfl ?_
            intro w11 k131 b132 z133
            have m134 := m129.ext k131 (fun k hk => by subst hk; exact Nat.le_trans k34.size p38)
            refine wl_nil ?_
            refine wq_then ?_
            refine wc_ret ?_
            have o135 := (own_ch (own_ch (own_ch (own_ch (own_kp (own_kp (own_ch (own_kp o47 k80) k83 (fun g hg hlt hk => by have h1 := (own_lt o47 g hg).2; have h2 := Nat.le_trans (Nat.le_refl _) p78; omega)) k88) k92) k118 (fun g hg hlt hk => by have h1 := (own_lt o47 g hg).2; have h2 := Nat.le_trans (Nat.le_refl _) p78; omega)) k122 (fun g hg hlt hk => by have h1 := (own_lt o47 g hg).2; have h2 := Nat.le_trans (Nat.le_refl _) p78; omega)) k126 (fun g hg hlt hk => by have h1 := (own_lt o47 g hg).2; have h2 := Nat.le_trans (Nat.le_refl _) p78; omega)) k131 (fun g hg hlt hk => by have h1 := (own_lt o47 g hg).1; have h2 := Nat.lt_of_lt_of_le p39 (Nat.le_refl _); omega))
            have o136 := (own_ch (own_ch (own_ch (own_ch (own_kp (own_kp (own_ch (own_kp o52 k80) k83 (fun g hg hlt hk => by have h1 := (own_lt o52 g hg).2; have h2 := Nat.le_trans (Nat.le_refl _) p78; omega)) k88) k92) k118 (fun g hg hlt hk => by have h1 := (own_lt o52 g hg).2; have h2 := Nat.le_trans (Nat.le_refl _) p78; omega)) k122 (fun g hg hlt hk => by have h1 := (own_lt o52 g hg).2; have h2 := Nat.le_trans (Nat.le_refl _) p78; omega)) k126 (fun g hg hlt hk => by have h1 := (own_lt o52 g hg).2; have h2 := Nat.le_trans (Nat.le_refl _) p78; omega)) k131 (fun g hg hlt hk => by have h1 := (own_lt o52 g hg).1; have h2 := Nat.lt_of_lt_of_le p39 (Nat.le_refl _); omega))
            have o137 := (own_ch (own_ch (own_ch (own_ch (own_kp (own_kp (own_ch (own_kp o57 k80) k83 (fun g hg hlt hk => by have h1 := (own_lt o57 g hg).2; have h2 := Nat.le_trans (Nat.le_refl _) p78; omega)) k88) k92) k118 (fun g hg hlt hk => by have h1 := (own_lt o57 g hg).2; have h2 := Nat.le_trans (Nat.le_refl _) p78; omega)) k122 (fun g hg hlt hk => by have h1 := (own_lt o57 g hg).2; have h2 := Nat.le_trans (Nat.le_refl _) p78; omega)) k126 (fun g hg hlt hk => by have h1 := (own_lt o57 g hg).2; have h2 := Nat.le_trans (Nat.le_refl _) p78; omega)) k131 (fun g hg hlt hk => by have h1 := (own_lt o57 g hg).1; have h2 := Nat.lt_of_lt_of_le p39 (Nat.le_refl _); omega))
            have o138 := (own_ch (own_ch (own_ch (own_ch (own_kp (own_kp (own_ch (own_kp o72 k80) k83 (fun g hg hlt hk => by have h1 := (own_lt o72 g hg).2; have h2 := Nat.le_trans (Nat.le_refl _) p78; omega)) k88) k92) k118 (fun g hg hlt hk => by have h1 := (own_lt o72 g hg).2; have h2 := Nat.le_trans (Nat.le_refl _) p78; omega)) k122 (fun g hg hlt hk => by have h1 := (own_lt o72 g hg).2; have h2 := Nat.le_trans (Nat.le_refl _) p78; omega)) k126 (fun g hg hlt hk => by have h1 := (own_lt o72 g hg).2; have h2 := Nat.le_trans (Nat.le_refl _) p78; omega)) k131 (fun g hg hlt hk => by have h1 := (own_lt o72 g hg).1; have h2 := Nat.lt_of_lt_of_le p39 (Nat.le_refl _); omega))
            refine ret_1 (.inl rfl) (.agg #[(.int .i64 ((F_impl_copyChan x_c).Role)), (.slice a45 ((F_impl_copyChan x_c).Sn).length c46), (.int .i64 (((F_impl_copyChan x_c).Cur).N)), (.slice a50 (((F_impl_copyChan x_c).Cur).Key).length c51), (.int .i64 (((F_impl_copyChan x_c).Cur).Seq)), (.int .i64 ((((F_impl_copyChan x_c).Cur).Win).Top)), (.slice a55 ((((F_impl_copyChan x_c).Cur).Win).Bits).length c56), (.int .i64 0), (.slice none 0 0), (.int .i64 0), (.int .i64 0), (.slice none 0 0), (.bool false), (.int .i64 0), (.slice a70 ((F_impl_copyChan x_c).Next).length c71)]) rfl (rv_c [(.int .i64 ((F_impl_copyChan x_c).Role)), (.slice a45 ((F_impl_copyChan x_c).Sn).length c46), (.int .i64 (((F_impl_copyChan x_c).Cur).N)), (.slice a50 (((F_impl_copyChan x_c).Cur).Key).length c51), (.int .i64 (((F_impl_copyChan x_c).Cur).Seq)), (.int .i64 ((((F_impl_copyChan x_c).Cur).Win).Top)), (.slice a55 ((((F_impl_copyChan x_c).Cur).Win).Bits).length c56), (.int .i64 0), (.slice none 0 0), (.int .i64 0), (.int .i64 0), (.slice none 0 0), (.bool false), (.int .i64 0), (.slice a70 ((F_impl_copyChan x_c).Next).length c71)] rfl b132 isAgg_29 sizeOf_29) ?_
            refine ⟨m134.keep0, ?_⟩
            have hF139 : F_impl_ChanTick x_c x_now = { Role := (F_impl_copyChan x_c).Role, Sn := (F_impl_copyChan x_c).Sn, Cur := ((F_impl_copyChan x_c).Cur), Old := { N := 0, Key := [], Seq := 0, Win := { Top := 0, Bits := [] : PWin } : PEp }, HasOld := false, Until := 0, Next := (F_impl_copyChan x_c).Next : PChan } := by simp only [F_impl_ChanTick, h90, h94, h97, h99, h115, cond_true, cond_false]
            rw [hF139]
            exact ⟨_, _, _, _, _, _, _, _, _, _, _, _, rfl, (own_lo o135 (Nat.le_trans k34.size k40.size)), s48, (own_lo o136 (Nat.le_trans k34.size k40.size)), s53, (own_lo o137 (Nat.le_trans k34.size k40.size)), s58, (own_nil _ _ _ _), (by simp), (own_nil _ _ _ _), (by simp), (own_lo o138 (Nat.le_trans k34.size k40.size)), s73, ⟨⟨(ap75.1.1), ⟨(ap75.1.2.1), ⟨(Ap.nr _), ⟨(Ap.nr _), ⟨(ap75.1.2.2.2.2.1), trivial⟩⟩⟩⟩⟩, ⟨⟨(ap75.2.1.1), ⟨(Ap.nr _), ⟨(Ap.nr _), ⟨(ap75.2.1.2.2.2.1), trivial⟩⟩⟩⟩, ⟨⟨(Ap.nr _), ⟨(Ap.nr _), ⟨(ap75.2.2.1.2.2.1), trivial⟩⟩⟩, ⟨⟨(Ap.nl _), ⟨(Ap.nl _), trivial⟩⟩, ⟨⟨(Ap.nl _), trivial⟩, ⟨trivial, trivial⟩⟩⟩⟩⟩⟩⟩
          · have q140 := of_decide_eq_false h115
            refine wc_false (congrArg Value.bool h115) ?_
            refine wc_skip ?_
            refine wq_then ?_
            refine wc_seq ?_
            refine wc_region ?_
            have b141 := ((b84.kp k88).kp k92)
            refine wl_loadN [(.int .i64 ((F_impl_copyChan x_c).Role)), (.slice a45 ((F_impl_copyChan x_c).Sn).length c46), (.int .i64 (((F_impl_copyChan x_c).Cur).N)), (.slice a50 (((F_impl_copyChan x_c).Cur).Key).length c51), (.int .i64 (((F_impl_copyChan x_c).Cur).Seq)), (.int .i64 ((((F_impl_copyChan x_c).Cur).Win).Top)), (.slice a55 ((((F_impl_copyChan x_c).Cur).Win).Bits).length c56), (.int .i64 (((F_impl_copyChan x_c).Old).N)), (.slice a60 (((F_impl_copyChan x_c).Old).Key).length c61), (.int .i64 (((F_impl_copyChan x_c).Old).Seq)), (.int .i64 ((((F_impl_copyChan x_c).Old).Win).Top)), (.slice a65 ((((F_impl_copyChan x_c).Old).Win).Bits).length c66), (.bool ((F_impl_copyChan x_c).HasOld)), (.int .i64 ((F_impl_copyChan x_c).Until)), (.slice a70 ((F_impl_copyChan x_c).Next).length c71)] (want_none rfl) rfl rfl rfl rfl isAgg_29 sizeOf_29 b141 rfl ?_
            have b142 := (((((b41.kp k44).kp k80).ch k83 (Nat.ne_of_lt (Nat.lt_of_lt_of_le p39 (Nat.le_trans k44.size p78)))).kp k88).kp k92)
            refine wl_store (.agg #[(.int .i64 ((F_impl_copyChan x_c).Role)), (.slice a45 ((F_impl_copyChan x_c).Sn).length c46), (.int .i64 (((F_impl_copyChan x_c).Cur).N)), (.slice a50 (((F_impl_copyChan x_c).Cur).Key).length c51), (.int .i64 (((F_impl_copyChan x_c).Cur).Seq)), (.int .i64 ((((F_impl_copyChan x_c).Cur).Win).Top)), (.slice a55 ((((F_impl_copyChan x_c).Cur).Win).Bits).length c56), (.int .i64 (((F_impl_copyChan x_c).Old).N)), (.slice a60 (((F_impl_copyChan x_c).Old).Key).length c61), (.int .i64 (((F_impl_copyChan x_c).Old).Seq)), (.int .i64 ((((F_impl_copyChan x_c).Old).Win).Top)), (.slice a65 ((((F_impl_copyChan x_c).Old).Win).Bits).length c66), (.bool ((F_impl_copyChan x_c).HasOld)), (.int .i64 ((F_impl_copyChan x_c).Until)), (.slice a70 ((F_impl_copyChan x_c).Next).length c71)]) [(.int .i64 ((F_impl_copyChan x_c).Role)), (.slice a45 ((F_impl_copyChan x_c).Sn).length c46), (.int .i64 (((F_impl_copyChan x_c).Cur).N)), (.slice a50 (((F_impl_copyChan x_c).Cur).Key).length c51), (.int .i64 (((F_impl_copyChan x_c).Cur).Seq)), (.int .i64 ((((F_impl_copyChan x_c).Cur).Win).Top)), (.slice a55 ((((F_impl_copyChan x_c).Cur).Win).Bits).length c56), (.int .i64 (((F_impl_copyChan x_c).Old).N)), (.slice a60 (((F_impl_copyChan x_c).Old).Key).length c61), (.int .i64 (((F_impl_copyChan x_c).Old).Seq)), (.int .i64 ((((F_impl_copyChan x_c).Old).Win).Top)), (.slice a65 ((((F_impl_copyChan x_c).Old).Win).Bits).length c66), (.bool ((F_impl_copyChan x_c).HasOld)), (.int .i64 ((F_impl_copyChan x_c).Until)), (.slice a70 ((F_impl_copyChan x_c).Next).length c71)] [(.int .i64 ((F_impl_copyChan x_c).Role)), (.slice a45 ((F_impl_copyChan x_c).Sn).length c46), (.int .i64 (((F_impl_copyChan x_c).Cur).N)), (.slice a50 (((F_impl_copyChan x_c).Cur).Key).length c51), (.int .i64 (((F_impl_copyChan x_c).Cur).Seq)), (.int .i64 ((((F_impl_copyChan x_c).Cur).Win).Top)), (.slice a55 ((((F_impl_copyChan x_c).Cur).Win).Bits).length c56), (.int .i64 (((F_impl_copyChan x_c).Old).N)), (.slice a60 (((F_impl_copyChan x_c).Old).Key).length c61), (.int .i64 (((F_impl_copyChan x_c).Old).Seq)), (.int .i64 ((((F_impl_copyChan x_c).Old).Win).Top)), (.slice a65 ((((F_impl_copyChan x_c).Old).Win).Bits).length c66), (.bool ((F_impl_copyChan x_c).HasOld)), (.int .i64 ((F_impl_copyChan x_c).Until)), (.slice a70 ((F_impl_copyChan x_c).Next).length c71)] (want_none rfl) rfl rfl rfl rfl rfl (one_cons rfl (one_cons rfl (one_cons rfl (one_cons rfl (one_cons rfl (one_cons rfl (one_cons rfl (one_cons rfl (one_cons rfl (one_cons rfl (one_cons rfl (one_cons rfl (one_cons rfl (one_cons rfl (one_cons rfl one_nil))))))))))))))) sizeOf_29 b142 rfl rfl ?_
            intro w8 k143 b144 z145
            have m146 := m93.ext k143 (fun k hk => by subst hk; exact Nat.le_trans k34.size p38)
            refine wl_nil ?_
            refine wq_then ?_
            refine wc_ret ?_
            have o147 := (own_ch (own_kp (own_kp (own_ch (own_kp o47 k80) k83 (fun g hg hlt hk => by have h1 := (own_lt o47 g hg).2; have h2 := Nat.le_trans (Nat.le_refl _) p78; omega)) k88) k92) k143 (fun g hg hlt hk => by have h1 := (own_lt o47 g hg).1; have h2 := Nat.lt_of_lt_of_le p39 (Nat.le_refl _); omega))
            have o148 := (own_ch (own_kp (own_kp (own_ch (own_kp o52 k80) k83 (fun g hg hlt hk => by have h1 := (own_lt o52 g hg).2; have h2 := Nat.le_trans (Nat.le_refl _) p78; omega)) k88) k92) k143 (fun g hg hlt hk => by have h1 := (own_lt o52 g hg).1; have h2 := Nat.lt_of_lt_of_le p39 (Nat.le_refl _); omega))
            have o149 := (own_ch (own_kp (own_kp (own_ch (own_kp o57 k80) k83 (fun g hg hlt hk => by have h1 := (own_lt o57 g hg).2; have h2 := Nat.le_trans (Nat.le_refl _) p78; omega)) k88) k92) k143 (fun g hg hlt hk => by have h1 := (own_lt o57 g hg).1; have h2 := Nat.lt_of_lt_of_le p39 (Nat.le_refl _); omega))
            have o150 := (own_ch (own_kp (own_kp (own_ch (own_kp o62 k80) k83 (fun g hg hlt hk => by have h1 := (own_lt o62 g hg).2; have h2 := Nat.le_trans (Nat.le_refl _) p78; omega)) k88) k92) k143 (fun g hg hlt hk => by have h1 := (own_lt o62 g hg).1; have h2 := Nat.lt_of_lt_of_le p39 (Nat.le_refl _); omega))
            have o151 := (own_ch (own_kp (own_kp (own_ch (own_kp o67 k80) k83 (fun g hg hlt hk => by have h1 := (own_lt o67 g hg).2; have h2 := Nat.le_trans (Nat.le_refl _) p78; omega)) k88) k92) k143 (fun g hg hlt hk => by have h1 := (own_lt o67 g hg).1; have h2 := Nat.lt_of_lt_of_le p39 (Nat.le_refl _); omega))
            have o152 := (own_ch (own_kp (own_kp (own_ch (own_kp o72 k80) k83 (fun g hg hlt hk => by have h1 := (own_lt o72 g hg).2; have h2 := Nat.le_trans (Nat.le_refl _) p78; omega)) k88) k92) k143 (fun g hg hlt hk => by have h1 := (own_lt o72 g hg).1; have h2 := Nat.lt_of_lt_of_le p39 (Nat.le_refl _); omega))
            refine ret_1 (.inl rfl) (.agg #[(.int .i64 ((F_impl_copyChan x_c).Role)), (.slice a45 ((F_impl_copyChan x_c).Sn).length c46), (.int .i64 (((F_impl_copyChan x_c).Cur).N)), (.slice a50 (((F_impl_copyChan x_c).Cur).Key).length c51), (.int .i64 (((F_impl_copyChan x_c).Cur).Seq)), (.int .i64 ((((F_impl_copyChan x_c).Cur).Win).Top)), (.slice a55 ((((F_impl_copyChan x_c).Cur).Win).Bits).length c56), (.int .i64 (((F_impl_copyChan x_c).Old).N)), (.slice a60 (((F_impl_copyChan x_c).Old).Key).length c61), (.int .i64 (((F_impl_copyChan x_c).Old).Seq)), (.int .i64 ((((F_impl_copyChan x_c).Old).Win).Top)), (.slice a65 ((((F_impl_copyChan x_c).Old).Win).Bits).length c66), (.bool ((F_impl_copyChan x_c).HasOld)), (.int .i64 ((F_impl_copyChan x_c).Until)), (.slice a70 ((F_impl_copyChan x_c).Next).length c71)]) rfl (rv_c [(.int .i64 ((F_impl_copyChan x_c).Role)), (.slice a45 ((F_impl_copyChan x_c).Sn).length c46), (.int .i64 (((F_impl_copyChan x_c).Cur).N)), (.slice a50 (((F_impl_copyChan x_c).Cur).Key).length c51), (.int .i64 (((F_impl_copyChan x_c).Cur).Seq)), (.int .i64 ((((F_impl_copyChan x_c).Cur).Win).Top)), (.slice a55 ((((F_impl_copyChan x_c).Cur).Win).Bits).length c56), (.int .i64 (((F_impl_copyChan x_c).Old).N)), (.slice a60 (((F_impl_copyChan x_c).Old).Key).length c61), (.int .i64 (((F_impl_copyChan x_c).Old).Seq)), (.int .i64 ((((F_impl_copyChan x_c).Old).Win).Top)), (.slice a65 ((((F_impl_copyChan x_c).Old).Win).Bits).length c66), (.bool ((F_impl_copyChan x_c).HasOld)), (.int .i64 ((F_impl_copyChan x_c).Until)), (.slice a70 ((F_impl_copyChan x_c).Next).length c71)] rfl b144 isAgg_29 sizeOf_29) ?_
            refine ⟨m146.keep0, ?_⟩
            have hF153 : F_impl_ChanTick x_c x_now = (F_impl_copyChan x_c) := by simp only [F_impl_ChanTick, h90, h94, h97, h99, h115, cond_true, cond_false]
            rw [hF153]
            exact ⟨_, _, _, _, _, _, _, _, _, _, _, _, rfl, (own_lo o147 (Nat.le_trans k34.size k40.size)), s48, (own_lo o148 (Nat.le_trans k34.size k40.size)), s53, (own_lo o149 (Nat.le_trans k34.size k40.size)), s58, (own_lo o150 (Nat.le_trans k34.size k40.size)), s63, (own_lo o151 (Nat.le_trans k34.size k40.size)), s68, (own_lo o152 (Nat.le_trans k34.size k40.size)), s73, ⟨⟨(ap75.1.1), ⟨(ap75.1.2.1), ⟨(ap75.1.2.2.1), ⟨(ap75.1.2.2.2.1), ⟨(ap75.1.2.2.2.2.1), trivial⟩⟩⟩⟩⟩, ⟨⟨(ap75.2.1.1), ⟨(ap75.2.1.2.1), ⟨(ap75.2.1.2.2.1), ⟨(ap75.2.1.2.2.2.1), trivial⟩⟩⟩⟩, ⟨⟨(ap75.2.2.1.1), ⟨(ap75.2.2.1.2.1), ⟨(ap75.2.2.1.2.2.1), trivial⟩⟩⟩, ⟨⟨(ap75.2.2.2.1.1), ⟨(ap75.2.2.2.1.2.1), trivial⟩⟩, ⟨⟨(ap75.2.2.2.2.1.1), trivial⟩, ⟨trivial, trivial⟩⟩⟩⟩⟩⟩⟩
      · skip
        refine wl_skip rfl rfl rfl (congrArg Value.bool h97) rfl rfl rfl ?_
        refine wl_skip rfl rfl rfl (congrArg Value.bool h97) rfl rfl rfl ?_
        refine wl_skip rfl rfl rfl (congrArg Value.bool h97) rfl rfl rfl ?_
        refine wl_pick_f (.bool false) (want_none rfl) rfl rfl rfl (congrArg Value.bool h97) rfl ?_
        refine wl_mv (.bool false) (want_none rfl) rfl rfl (.inl rfl) rfl ?_
        refine wl_skip rfl rfl rfl rfl rfl rfl rfl ?_
        refine wl_skip rfl rfl rfl rfl rfl rfl rfl ?_
        refine wl_skip rfl rfl rfl rfl rfl rfl rfl ?_
        refine wl_skip rfl rfl rfl rfl rfl rfl rfl ?_
        refine wl_pick_f (.bool false) (want_none rfl) rfl rfl rfl rfl rfl ?_
        refine wl_nil ?_
        refine wq_then ?_
        refine wc_false rfl ?_
        refine wc_skip ?_
        refine wq_then ?_
        refine wc_seq ?_
        refine wc_region ?_
        have b155 := ((b84.kp k88).kp k92)
        refine wl_loadN [(.int .i64 ((F_impl_copyChan x_c).Role)), (.slice a45 ((F_impl_copyChan x_c).Sn).length c46), (.int .i64 (((F_impl_copyChan x_c).Cur).N)), (.slice a50 (((F_impl_copyChan x_c).Cur).Key).length c51), (.int .i64 (((F_impl_copyChan x_c).Cur).Seq)), (.int .i64 ((((F_impl_copyChan x_c).Cur).Win).Top)), (.slice a55 ((((F_impl_copyChan x_c).Cur).Win).Bits).length c56), (.int .i64 (((F_impl_copyChan x_c).Old).N)), (.slice a60 (((F_impl_copyChan x_c).Old).Key).length c61), (.int .i64 (((F_impl_copyChan x_c).Old).Seq)), (.int .i64 ((((F_impl_copyChan x_c).Old).Win).Top)), (.slice a65 ((((F_impl_copyChan x_c).Old).Win).Bits).length c66), (.bool ((F_impl_copyChan x_c).HasOld)), (.int .i64 ((F_impl_copyChan x_c).Until)), (.slice a70 ((F_impl_copyChan x_c).Next).length c71)] (want_none rfl) rfl rfl rfl rfl isAgg_29 sizeOf_29 b155 rfl ?_
        have b156 := (((((b41.kp k44).kp k80).ch k83 (Nat.ne_of_lt (Nat.lt_of_lt_of_le p39 (Nat.le_trans k44.size p78)))).kp k88).kp k92)
        refine wl_store (.agg #[(.int .i64 ((F_impl_copyChan x_c).Role)), (.slice a45 ((F_impl_copyChan x_c).Sn).length c46), (.int .i64 (((F_impl_copyChan x_c).Cur).N)), (.slice a50 (((F_impl_copyChan x_c).Cur).Key).length c51), (.int .i64 (((F_impl_copyChan x_c).Cur).Seq)), (.int .i64 ((((F_impl_copyChan x_c).Cur).Win).Top)), (.slice a55 ((((F_impl_copyChan x_c).Cur).Win).Bits).length c56), (.int .i64 (((F_impl_copyChan x_c).Old).N)), (.slice a60 (((F_impl_copyChan x_c).Old).Key).length c61), (.int .i64 (((F_impl_copyChan x_c).Old).Seq)), (.int .i64 ((((F_impl_copyChan x_c).Old).Win).Top)), (.slice a65 ((((F_impl_copyChan x_c).Old).Win).Bits).length c66), (.bool ((F_impl_copyChan x_c).HasOld)), (.int .i64 ((F_impl_copyChan x_c).Until)), (.slice a70 ((F_impl_copyChan x_c).Next).length c71)]) [(.int .i64 ((F_impl_copyChan x_c).Role)), (.slice a45 ((F_impl_copyChan x_c).Sn).length c46), (.int .i64 (((F_impl_copyChan x_c).Cur).N)), (.slice a50 (((F_impl_copyChan x_c).Cur).Key).length c51), (.int .i64 (((F_impl_copyChan x_c).Cur).Seq)), (.int .i64 ((((F_impl_copyChan x_c).Cur).Win).Top)), (.slice a55 ((((F_impl_copyChan x_c).Cur).Win).Bits).length c56), (.int .i64 (((F_impl_copyChan x_c).Old).N)), (.slice a60 (((F_impl_copyChan x_c).Old).Key).length c61), (.int .i64 (((F_impl_copyChan x_c).Old).Seq)), (.int .i64 ((((F_impl_copyChan x_c).Old).Win).Top)), (.slice a65 ((((F_impl_copyChan x_c).Old).Win).Bits).length c66), (.bool ((F_impl_copyChan x_c).HasOld)), (.int .i64 ((F_impl_copyChan x_c).Until)), (.slice a70 ((F_impl_copyChan x_c).Next).length c71)] [(.int .i64 ((F_impl_copyChan x_c).Role)), (.slice a45 ((F_impl_copyChan x_c).Sn).length c46), (.int .i64 (((F_impl_copyChan x_c).Cur).N)), (.slice a50 (((F_impl_copyChan x_c).Cur).Key).length c51), (.int .i64 (((F_impl_copyChan x_c).Cur).Seq)), (.int .i64 ((((F_impl_copyChan x_c).Cur).Win).Top)), (.slice a55 ((((F_impl_copyChan x_c).Cur).Win).Bits).length c56), (.int .i64 (((F_impl_copyChan x_c).Old).N)), (.slice a60 (((F_impl_copyChan x_c).Old).Key).length c61), (.int .i64 (((F_impl_copyChan x_c).Old).Seq)), (.int .i64 ((((F_impl_copyChan x_c).Old).Win).Top)), (.slice a65 ((((F_impl_copyChan x_c).Old).Win).Bits).length c66), (.bool ((F_impl_copyChan x_c).HasOld)), (.int .i64 ((F_impl_copyChan x_c).Until)), (.slice a70 ((F_impl_copyChan x_c).Next).length c71)] (want_none rfl) rfl rfl rfl rfl rfl (one_cons rfl (one_cons rfl (one_cons rfl (one_cons rfl (one_cons rfl (one_cons rfl (one_cons rfl (one_cons rfl (one_cons rfl (one_cons rfl (one_cons rfl (one_cons rfl (one_cons rfl (one_cons rfl (one_cons rfl one_nil))))))))))))))) sizeOf_29 b156 rfl rfl ?_
        intro w8 k157 b158 z159
        have m160 := m93.ext k157 (fun k hk => by subst hk; exact Nat.le_trans k34.size p38)
        refine wl_nil ?_
        refine wq_then ?_
        refine wc_ret ?_
        have o161 := (own_ch (own_kp (own_kp (own_ch (own_kp o47 k80) k83 (fun g hg hlt hk => by have h1 := (own_lt o47 g hg).2; have h2 := Nat.le_trans (Nat.le_refl _) p78; omega)) k88) k92) k157 (fun g hg hlt hk => by have h1 := (own_lt o47 g hg).1; have h2 := Nat.lt_of_lt_of_le p39 (Nat.le_refl _); omega))
        have o162 := (own_ch (own_kp (own_kp (own_ch (own_kp o52 k80) k83 (fun g hg hlt hk => by have h1 := (own_lt o52 g hg).2; have h2 := Nat.le_trans (Nat.le_refl _) p78; omega)) k88) k92) k157 (fun g hg hlt hk => by have h1 := (own_lt o52 g hg).1; have h2 := Nat.lt_of_lt_of_le p39 (Nat.le_refl _); omega))
        have o163 := (own_ch (own_kp (own_kp (own_ch (own_kp o57 k80) k83 (fun g hg hlt hk => by have h1 := (own_lt o57 g hg).2; have h2 := Nat.le_trans (Nat.le_refl _) p78; omega)) k88) k92) k157 (fun g hg hlt hk => by have h1 := (own_lt o57 g hg).1; have h2 := Nat.lt_of_lt_of_le p39 (Nat.le_refl _); omega))
        have o164 := (own_ch (own_kp (own_kp (own_ch (own_kp o62 k80) k83 (fun g hg hlt hk => by have h1 := (own_lt o62 g hg).2; have h2 := Nat.le_trans (Nat.le_refl _) p78; omega)) k88) k92) k157 (fun g hg hlt hk => by have h1 := (own_lt o62 g hg).1; have h2 := Nat.lt_of_lt_of_le p39 (Nat.le_refl _); omega))
        have o165 := (own_ch (own_kp (own_kp (own_ch (own_kp o67 k80) k83 (fun g hg hlt hk => by have h1 := (own_lt o67 g hg).2; have h2 := Nat.le_trans (Nat.le_refl _) p78; omega)) k88) k92) k157 (fun g hg hlt hk => by have h1 := (own_lt o67 g hg).1; have h2 := Nat.lt_of_lt_of_le p39 (Nat.le_refl _); omega))
        have o166 := (own_ch (own_kp (own_kp (own_ch (own_kp o72 k80) k83 (fun g hg hlt hk => by have h1 := (own_lt o72 g hg).2; have h2 := Nat.le_trans (Nat.le_refl _) p78; omega)) k88) k92) k157 (fun g hg hlt hk => by have h1 := (own_lt o72 g hg).1; have h2 := Nat.lt_of_lt_of_le p39 (Nat.le_refl _); omega))
        refine ret_1 (.inl rfl) (.agg #[(.int .i64 ((F_impl_copyChan x_c).Role)), (.slice a45 ((F_impl_copyChan x_c).Sn).length c46), (.int .i64 (((F_impl_copyChan x_c).Cur).N)), (.slice a50 (((F_impl_copyChan x_c).Cur).Key).length c51), (.int .i64 (((F_impl_copyChan x_c).Cur).Seq)), (.int .i64 ((((F_impl_copyChan x_c).Cur).Win).Top)), (.slice a55 ((((F_impl_copyChan x_c).Cur).Win).Bits).length c56), (.int .i64 (((F_impl_copyChan x_c).Old).N)), (.slice a60 (((F_impl_copyChan x_c).Old).Key).length c61), (.int .i64 (((F_impl_copyChan x_c).Old).Seq)), (.int .i64 ((((F_impl_copyChan x_c).Old).Win).Top)), (.slice a65 ((((F_impl_copyChan x_c).Old).Win).Bits).length c66), (.bool ((F_impl_copyChan x_c).HasOld)), (.int .i64 ((F_impl_copyChan x_c).Until)), (.slice a70 ((F_impl_copyChan x_c).Next).length c71)]) rfl (rv_c [(.int .i64 ((F_impl_copyChan x_c).Role)), (.slice a45 ((F_impl_copyChan x_c).Sn).length c46), (.int .i64 (((F_impl_copyChan x_c).Cur).N)), (.slice a50 (((F_impl_copyChan x_c).Cur).Key).length c51), (.int .i64 (((F_impl_copyChan x_c).Cur).Seq)), (.int .i64 ((((F_impl_copyChan x_c).Cur).Win).Top)), (.slice a55 ((((F_impl_copyChan x_c).Cur).Win).Bits).length c56), (.int .i64 (((F_impl_copyChan x_c).Old).N)), (.slice a60 (((F_impl_copyChan x_c).Old).Key).length c61), (.int .i64 (((F_impl_copyChan x_c).Old).Seq)), (.int .i64 ((((F_impl_copyChan x_c).Old).Win).Top)), (.slice a65 ((((F_impl_copyChan x_c).Old).Win).Bits).length c66), (.bool ((F_impl_copyChan x_c).HasOld)), (.int .i64 ((F_impl_copyChan x_c).Until)), (.slice a70 ((F_impl_copyChan x_c).Next).length c71)] rfl b158 isAgg_29 sizeOf_29) ?_
        refine ⟨m160.keep0, ?_⟩
        have hF167 : F_impl_ChanTick x_c x_now = (F_impl_copyChan x_c) := by simp only [F_impl_ChanTick, h90, h94, h97, cond_true, cond_false]
        rw [hF167]
        exact ⟨_, _, _, _, _, _, _, _, _, _, _, _, rfl, (own_lo o161 (Nat.le_trans k34.size k40.size)), s48, (own_lo o162 (Nat.le_trans k34.size k40.size)), s53, (own_lo o163 (Nat.le_trans k34.size k40.size)), s58, (own_lo o164 (Nat.le_trans k34.size k40.size)), s63, (own_lo o165 (Nat.le_trans k34.size k40.size)), s68, (own_lo o166 (Nat.le_trans k34.size k40.size)), s73, ⟨⟨(ap75.1.1), ⟨(ap75.1.2.1), ⟨(ap75.1.2.2.1), ⟨(ap75.1.2.2.2.1), ⟨(ap75.1.2.2.2.2.1), trivial⟩⟩⟩⟩⟩, ⟨⟨(ap75.2.1.1), ⟨(ap75.2.1.2.1), ⟨(ap75.2.1.2.2.1), ⟨(ap75.2.1.2.2.2.1), trivial⟩⟩⟩⟩, ⟨⟨(ap75.2.2.1.1), ⟨(ap75.2.2.1.2.1), ⟨(ap75.2.2.1.2.2.1), trivial⟩⟩⟩, ⟨⟨(ap75.2.2.2.1.1), ⟨(ap75.2.2.2.1.2.1), trivial⟩⟩, ⟨⟨(ap75.2.2.2.2.1.1), trivial⟩, ⟨trivial, trivial⟩⟩⟩⟩⟩⟩⟩
    · have q168 := impl_within_f h94
      refine wl_skip rfl rfl rfl (congrArg Value.bool h94) rfl rfl rfl ?_
      refine wl_skip rfl rfl rfl (congrArg Value.bool h94) rfl rfl rfl ?_
      refine wl_pick_f (.bool false) (want_none rfl) rfl rfl rfl (congrArg Value.bool h94) rfl ?_
      refine wl_mv (.bool false) (want_none rfl) rfl rfl (.inl rfl) rfl ?_
      refine wl_skip rfl rfl rfl rfl rfl rfl rfl ?_
      refine wl_skip rfl rfl rfl rfl rfl rfl rfl ?_
      refine wl_skip rfl rfl rfl rfl rfl rfl rfl ?_
      refine wl_pick_f (.bool false) (want_none rfl) rfl rfl rfl rfl rfl ?_
      refine wl_mv (.bool false) (want_none rfl) rfl rfl (.inl rfl) rfl ?_
      refine wl_skip rfl rfl rfl rfl rfl rfl rfl ?_
      refine wl_skip rfl rfl rfl rfl rfl rfl rfl ?_
      refine wl_skip rfl rfl rfl rfl rfl rfl rfl ?_
      refine wl_skip rfl rfl rfl rfl rfl rfl rfl ?_
      refine wl_pick_f (.bool false) (want_none rfl) rfl rfl rfl rfl rfl ?_
      refine wl_nil ?_
      refine wq_then ?_
      refine wc_false rfl ?_
      refine wc_skip ?_
      refine wq_then ?_
      refine wc_seq ?_
      refine wc_region ?_
      have b169 := ((b84.kp k88).kp k92)
      refine wl_loadN [(.int .i64 ((F_impl_copyChan x_c).Role)), (.slice a45 ((F_impl_copyChan x_c).Sn).length c46), (.int .i64 (((F_impl_copyChan x_c).Cur).N)), (.slice a50 (((F_impl_copyChan x_c).Cur).Key).length c51), (.int .i64 (((F_impl_copyChan x_c).Cur).Seq)), (.int .i64 ((((F_impl_copyChan x_c).Cur).Win).Top)), (.slice a55 ((((F_impl_copyChan x_c).Cur).Win).Bits).length c56), (.int .i64 (((F_impl_copyChan x_c).Old).N)), (.slice a60 (((F_impl_copyChan x_c).Old).Key).length c61), (.int .i64 (((F_impl_copyChan x_c).Old).Seq)), (.int .i64 ((((F_impl_copyChan x_c).Old).Win).Top)), (.slice a65 ((((F_impl_copyChan x_c).Old).Win).Bits).length c66), (.bool ((F_impl_copyChan x_c).HasOld)), (.int .i64 ((F_impl_copyChan x_c).Until)), (.slice a70 ((F_impl_copyChan x_c).Next).length c71)] (want_none rfl) rfl rfl rfl rfl isAgg_29 sizeOf_29 b169 rfl ?_
      have b170 := (((((b41.kp k44).kp k80).ch k83 (Nat.ne_of_lt (Nat.lt_of_lt_of_le p39 (Nat.le_trans k44.size p78)))).kp k88).kp k92)
      refine wl_store (.agg #[(.int .i64 ((F_impl_copyChan x_c).Role)), (.slice a45 ((F_impl_copyChan x_c).Sn).length c46), (.int .i64 (((F_impl_copyChan x_c).Cur).N)), (.slice a50 (((F_impl_copyChan x_c).Cur).Key).length c51), (.int .i64 (((F_impl_copyChan x_c).Cur).Seq)), (.int .i64 ((((F_impl_copyChan x_c).Cur).Win).Top)), (.slice a55 ((((F_impl_copyChan x_c).Cur).Win).Bits).length c56), (.int .i64 (((F_impl_copyChan x_c).Old).N)), (.slice a60 (((F_impl_copyChan x_c).Old).Key).length c61), (.int .i64 (((F_impl_copyChan x_c).Old).Seq)), (.int .i64 ((((F_impl_copyChan x_c).Old).Win).Top)), (.slice a65 ((((F_impl_copyChan x_c).Old).Win).Bits).length c66), (.bool ((F_impl_copyChan x_c).HasOld)), (.int .i64 ((F_impl_copyChan x_c).Until)), (.slice a70 ((F_impl_copyChan x_c).Next).length c71)]) [(.int .i64 ((F_impl_copyChan x_c).Role)), (.slice a45 ((F_impl_copyChan x_c).Sn).length c46), (.int .i64 (((F_impl_copyChan x_c).Cur).N)), (.slice a50 (((F_impl_copyChan x_c).Cur).Key).length c51), (.int .i64 (((F_impl_copyChan x_c).Cur).Seq)), (.int .i64 ((((F_impl_copyChan x_c).Cur).Win).Top)), (.slice a55 ((((F_impl_copyChan x_c).Cur).Win).Bits).length c56), (.int .i64 (((F_impl_copyChan x_c).Old).N)), (.slice a60 (((F_impl_copyChan x_c).Old).Key).length c61), (.int .i64 (((F_impl_copyChan x_c).Old).Seq)), (.int .i64 ((((F_impl_copyChan x_c).Old).Win).Top)), (.slice a65 ((((F_impl_copyChan x_c).Old).Win).Bits).length c66), (.bool ((F_impl_copyChan x_c).HasOld)), (.int .i64 ((F_impl_copyChan x_c).Until)), (.slice a70 ((F_impl_copyChan x_c).Next).length c71)] [(.int .i64 ((F_impl_copyChan x_c).Role)), (.slice a45 ((F_impl_copyChan x_c).Sn).length c46), (.int .i64 (((F_impl_copyChan x_c).Cur).N)), (.slice a50 (((F_impl_copyChan x_c).Cur).Key).length c51), (.int .i64 (((F_impl_copyChan x_c).Cur).Seq)), (.int .i64 ((((F_impl_copyChan x_c).Cur).Win).Top)), (.slice a55 ((((F_impl_copyChan x_c).Cur).Win).Bits).length c56), (.int .i64 (((F_impl_copyChan x_c).Old).N)), (.slice a60 (((F_impl_copyChan x_c).Old).Key).length c61), (.int .i64 (((F_impl_copyChan x_c).Old).Seq)), (.int .i64 ((((F_impl_copyChan x_c).Old).Win).Top)), (.slice a65 ((((F_impl_copyChan x_c).Old).Win).Bits).length c66), (.bool ((F_impl_copyChan x_c).HasOld)), (.int .i64 ((F_impl_copyChan x_c).Until)), (.slice a70 ((F_impl_copyChan x_c).Next).length c71)] (want_none rfl) rfl rfl rfl rfl rfl (one_cons rfl (one_cons rfl (one_cons rfl (one_cons rfl (one_cons rfl (one_cons rfl (one_cons rfl (one_cons rfl (one_cons rfl (one_cons rfl (one_cons rfl (one_cons rfl (one_cons rfl (one_cons rfl (one_cons rfl one_nil))))))))))))))) sizeOf_29 b170 rfl rfl ?_
      intro w8 k171 b172 z173
      have m174 := m93.ext k171 (fun k hk => by subst hk; exact Nat.le_trans k34.size p38)
      refine wl_nil ?_
      refine wq_then ?_
      refine wc_ret ?_
      have o175 := (own_ch (own_kp (own_kp (own_ch (own_kp o47 k80) k83 (fun g hg hlt hk => by have h1 := (own_lt o47 g hg).2; have h2 := Nat.le_trans (Nat.le_refl _) p78; omega)) k88) k92) k171 (fun g hg hlt hk => by have h1 := (own_lt o47 g hg).1; have h2 := Nat.lt_of_lt_of_le p39 (Nat.le_refl _); omega))
      have o176 := (own_ch (own_kp (own_kp (own_ch (own_kp o52 k80) k83 (fun g hg hlt hk => by have h1 := (own_lt o52 g hg).2; have h2 := Nat.le_trans (Nat.le_refl _) p78; omega)) k88) k92) k171 (fun g hg hlt hk => by have h1 := (own_lt o52 g hg).1; have h2 := Nat.lt_of_lt_of_le p39 (Nat.le_refl _); omega))
      have o177 := (own_ch (own_kp (own_kp (own_ch (own_kp o57 k80) k83 (fun g hg hlt hk => by have h1 := (own_lt o57 g hg).2; have h2 := Nat.le_trans (Nat.le_refl _) p78; omega)) k88) k92) k171 (fun g hg hlt hk => by have h1 := (own_lt o57 g hg).1; have h2 := Nat.lt_of_lt_of_le p39 (Nat.le_refl _); omega))
      have o178 := (own_ch (own_kp (own_kp (own_ch (own_kp o62 k80) k83 (fun g hg hlt hk => by have h1 := (own_lt o62 g hg).2; have h2 := Nat.le_trans (Nat.le_refl _) p78; omega)) k88) k92) k171 (fun g hg hlt hk => by have h1 := (own_lt o62 g hg).1; have h2 := Nat.lt_of_lt_of_le p39 (Nat.le_refl _); omega))
      have o179 := (own_ch (own_kp (own_kp (own_ch (own_kp o67 k80) k83 (fun g hg hlt hk => by have h1 := (own_lt o67 g hg).2; have h2 := Nat.le_trans (Nat.le_refl _) p78; omega)) k88) k92) k171 (fun g hg hlt hk => by have h1 := (own_lt o67 g hg).1; have h2 := Nat.lt_of_lt_of_le p39 (Nat.le_refl _); omega))
      have o180 := (own_ch (own_kp (own_kp (own_ch (own_kp o72 k80) k83 (fun g hg hlt hk => by have h1 := (own_lt o72 g hg).2; have h2 := Nat.le_trans (Nat.le_refl _) p78; omega)) k88) k92) k171 (fun g hg hlt hk => by have h1 := (own_lt o72 g hg).1; have h2 := Nat.lt_of_lt_of_le p39 (Nat.le_refl _); omega))
      refine ret_1 (.inl rfl) (.agg #[(.int .i64 ((F_impl_copyChan x_c).Role)), (.slice a45 ((F_impl_copyChan x_c).Sn).length c46), (.int .i64 (((F_impl_copyChan x_c).Cur).N)), (.slice a50 (((F_impl_copyChan x_c).Cur).Key).length c51), (.int .i64 (((F_impl_copyChan x_c).Cur).Seq)), (.int .i64 ((((F_impl_copyChan x_c).Cur).Win).Top)), (.slice a55 ((((F_impl_copyChan x_c).Cur).Win).Bits).length c56), (.int .i64 (((F_impl_copyChan x_c).Old).N)), (.slice a60 (((F_impl_copyChan x_c).Old).Key).length c61), (.int .i64 (((F_impl_copyChan x_c).Old).Seq)), (.int .i64 ((((F_impl_copyChan x_c).Old).Win).Top)), (.slice a65 ((((F_impl_copyChan x_c).Old).Win).Bits).length c66), (.bool ((F_impl_copyChan x_c).HasOld)), (.int .i64 ((F_impl_copyChan x_c).Until)), (.slice a70 ((F_impl_copyChan x_c).Next).length c71)]) rfl (rv_c [(.int .i64 ((F_impl_copyChan x_c).Role)), (.slice a45 ((F_impl_copyChan x_c).Sn).length c46), (.int .i64 (((F_impl_copyChan x_c).Cur).N)), (.slice a50 (((F_impl_copyChan x_c).Cur).Key).length c51), (.int .i64 (((F_impl_copyChan x_c).Cur).Seq)), (.int .i64 ((((F_impl_copyChan x_c).Cur).Win).Top)), (.slice a55 ((((F_impl_copyChan x_c).Cur).Win).Bits).length c56), (.int .i64 (((F_impl_copyChan x_c).Old).N)), (.slice a60 (((F_impl_copyChan x_c).Old).Key).length c61), (.int .i64 (((F_impl_copyChan x_c).Old).Seq)), (.int .i64 ((((F_impl_copyChan x_c).Old).Win).Top)), (.slice a65 ((((F_impl_copyChan x_c).Old).Win).Bits).length c66), (.bool ((F_impl_copyChan x_c).HasOld)), (.int .i64 ((F_impl_copyChan x_c).Until)), (.slice a70 ((F_impl_copyChan x_c).Next).length c71)] rfl b172 isAgg_29 sizeOf_29) ?_
      refine ⟨m174.keep0, ?_⟩
      have hF181 : F_impl_ChanTick x_c x_now = (F_impl_copyChan x_c) := by simp only [F_impl_ChanTick, h90, h94, cond_true, cond_false]
      rw [hF181]
      exact ⟨_, _, _, _, _, _, _, _, _, _, _, _, rfl, (own_lo o175 (Nat.le_trans k34.size k40.size)), s48, (own_lo o176 (Nat.le_trans k34.size k40.size)), s53, (own_lo o177 (Nat.le_trans k34.size k40.size)), s58, (own_lo o178 (Nat.le_trans k34.size k40.size)), s63, (own_lo o179 (Nat.le_trans k34.size k40.size)), s68, (own_lo o180 (Nat.le_trans k34.size k40.size)), s73, ⟨⟨(ap75.1.1), ⟨(ap75.1.2.1), ⟨(ap75.1.2.2.1), ⟨(ap75.1.2.2.2.1), ⟨(ap75.1.2.2.2.2.1), trivial⟩⟩⟩⟩⟩, ⟨⟨(ap75.2.1.1), ⟨(ap75.2.1.2.1), ⟨(ap75.2.1.2.2.1), ⟨(ap75.2.1.2.2.2.1), trivial⟩⟩⟩⟩, ⟨⟨(ap75.2.2.1.1), ⟨(ap75.2.2.1.2.1), ⟨(ap75.2.2.1.2.2.1), trivial⟩⟩⟩, ⟨⟨(ap75.2.2.2.1.1), ⟨(ap75.2.2.2.1.2.1), trivial⟩⟩, ⟨⟨(ap75.2.2.2.2.1.1), trivial⟩, ⟨trivial, trivial⟩⟩⟩⟩⟩⟩⟩
  · skip
    refine wl_skip rfl rfl rfl (congrArg Value.bool h90) rfl rfl rfl ?_
    refine wl_skip rfl rfl rfl (congrArg Value.bool h90) rfl rfl rfl ?_
    refine wl_pick_f (.bool false) (want_none rfl) rfl rfl rfl (congrArg Value.bool h90) rfl ?_
    refine wl_mv (.bool false) (want_none rfl) rfl rfl (.inl rfl) rfl ?_
    refine wl_skip rfl rfl rfl rfl rfl rfl rfl ?_
    refine wl_skip rfl rfl rfl rfl rfl rfl rfl ?_
    refine wl_pick_f (.bool false) (want_none rfl) rfl rfl rfl rfl rfl ?_
    refine wl_mv (.bool false) (want_none rfl) rfl rfl (.inl rfl) rfl ?_
    refine wl_skip rfl rfl rfl rfl rfl rfl rfl ?_
    refine wl_skip rfl rfl rfl rfl rfl rfl rfl ?_
    refine wl_skip rfl rfl rfl rfl rfl rfl rfl ?_
    refine wl_pick_f (.bool false) (want_none rfl) rfl rfl rfl rfl rfl ?_
    refine wl_mv (.bool false) (want_none rfl) rfl rfl (.inl rfl) rfl ?_
    refine wl_skip rfl rfl rfl rfl rfl rfl rfl ?_
    refine wl_skip rfl rfl rfl rfl rfl rfl rfl ?_
    refine wl_skip rfl rfl rfl rfl rfl rfl rfl ?_
    refine wl_skip rfl rfl rfl rfl rfl rfl rfl ?_
    refine wl_pick_f (.bool false) (want_none rfl) rfl rfl rfl rfl rfl ?_
    refine wl_nil ?_
    refine wq_then ?_
    refine wc_false rfl ?_
    refine wc_skip ?_
    refine wq_then ?_
    refine wc_seq ?_
    refine wc_region ?_
    have b183 := (b84.kp k88)
    refine wl_loadN [(.int .i64 ((F_impl_copyChan x_c).Role)), (.slice a45 ((F_impl_copyChan x_c).Sn).length c46), (.int .i64 (((F_impl_copyChan x_c).Cur).N)), (.slice a50 (((F_impl_copyChan x_c).Cur).Key).length c51), (.int .i64 (((F_impl_copyChan x_c).Cur).Seq)), (.int .i64 ((((F_impl_copyChan x_c).Cur).Win).Top)), (.slice a55 ((((F_impl_copyChan x_c).Cur).Win).Bits).length c56), (.int .i64 (((F_impl_copyChan x_c).Old).N)), (.slice a60 (((F_impl_copyChan x_c).Old).Key).length c61), (.int .i64 (((F_impl_copyChan x_c).Old).Seq)), (.int .i64 ((((F_impl_copyChan x_c).Old).Win).Top)), (.slice a65 ((((F_impl_copyChan x_c).Old).Win).Bits).length c66), (.bool ((F_impl_copyChan x_c).HasOld)), (.int .i64 ((F_impl_copyChan x_c).Until)), (.slice a70 ((F_impl_copyChan x_c).Next).length c71)] (want_none rfl) rfl rfl rfl rfl isAgg_29 sizeOf_29 b183 rfl ?_
    have b184 := ((((b41.kp k44).kp k80).ch k83 (Nat.ne_of_lt (Nat.lt_of_lt_of_le p39 (Nat.le_trans k44.size p78)))).kp k88)
    refine wl_store (.agg #[(.int .i64 ((F_impl_copyChan x_c).Role)), (.slice a45 ((F_impl_copyChan x_c).Sn).length c46), (.int .i64 (((F_impl_copyChan x_c).Cur).N)), (.slice a50 (((F_impl_copyChan x_c).Cur).Key).length c51), (.int .i64 (((F_impl_copyChan x_c).Cur).Seq)), (.int .i64 ((((F_impl_copyChan x_c).Cur).Win).Top)), (.slice a55 ((((F_impl_copyChan x_c).Cur).Win).Bits).length c56), (.int .i64 (((F_impl_copyChan x_c).Old).N)), (.slice a60 (((F_impl_copyChan x_c).Old).Key).length c61), (.int .i64 (((F_impl_copyChan x_c).Old).Seq)), (.int .i64 ((((F_impl_copyChan x_c).Old).Win).Top)), (.slice a65 ((((F_impl_copyChan x_c).Old).Win).Bits).length c66), (.bool ((F_impl_copyChan x_c).HasOld)), (.int .i64 ((F_impl_copyChan x_c).Until)), (.slice a70 ((F_impl_copyChan x_c).Next).length c71)]) [(.int .i64 ((F_impl_copyChan x_c).Role)), (.slice a45 ((F_impl_copyChan x_c).Sn).length c46), (.int .i64 (((F_impl_copyChan x_c).Cur).N)), (.slice a50 (((F_impl_copyChan x_c).Cur).Key).length c51), (.int .i64 (((F_impl_copyChan x_c).Cur).Seq)), (.int .i64 ((((F_impl_copyChan x_c).Cur).Win).Top)), (.slice a55 ((((F_impl_copyChan x_c).Cur).Win).Bits).length c56), (.int .i64 (((F_impl_copyChan x_c).Old).N)), (.slice a60 (((F_impl_copyChan x_c).Old).Key).length c61), (.int .i64 (((F_impl_copyChan x_c).Old).Seq)), (.int .i64 ((((F_impl_copyChan x_c).Old).Win).Top)), (.slice a65 ((((F_impl_copyChan x_c).Old).Win).Bits).length c66), (.bool ((F_impl_copyChan x_c).HasOld)), (.int .i64 ((F_impl_copyChan x_c).Until)), (.slice a70 ((F_impl_copyChan x_c).Next).length c71)] [(.int .i64 ((F_impl_copyChan x_c).Role)), (.slice a45 ((F_impl_copyChan x_c).Sn).length c46), (.int .i64 (((F_impl_copyChan x_c).Cur).N)), (.slice a50 (((F_impl_copyChan x_c).Cur).Key).length c51), (.int .i64 (((F_impl_copyChan x_c).Cur).Seq)), (.int .i64 ((((F_impl_copyChan x_c).Cur).Win).Top)), (.slice a55 ((((F_impl_copyChan x_c).Cur).Win).Bits).length c56), (.int .i64 (((F_impl_copyChan x_c).Old).N)), (.slice a60 (((F_impl_copyChan x_c).Old).Key).length c61), (.int .i64 (((F_impl_copyChan x_c).Old).Seq)), (.int .i64 ((((F_impl_copyChan x_c).Old).Win).Top)), (.slice a65 ((((F_impl_copyChan x_c).Old).Win).Bits).length c66), (.bool ((F_impl_copyChan x_c).HasOld)), (.int .i64 ((F_impl_copyChan x_c).Until)), (.slice a70 ((F_impl_copyChan x_c).Next).length c71)] (want_none rfl) rfl rfl rfl rfl rfl (one_cons rfl (one_cons rfl (one_cons rfl (one_cons rfl (one_cons rfl (one_cons rfl (one_cons rfl (one_cons rfl (one_cons rfl (one_cons rfl (one_cons rfl (one_cons rfl (one_cons rfl (one_cons rfl (one_cons rfl one_nil))))))))))))))) sizeOf_29 b184 rfl rfl ?_
    intro w7 k185 b186 z187
    have m188 := m89.ext k185 (fun k hk => by subst hk; exact Nat.le_trans k34.size p38)
    refine wl_nil ?_
    refine wq_then ?_
    refine wc_ret ?_
    have o189 := (own_ch (own_kp (own_ch (own_kp o47 k80) k83 (fun g hg hlt hk => by have h1 := (own_lt o47 g hg).2; have h2 := Nat.le_trans (Nat.le_refl _) p78; omega)) k88) k185 (fun g hg hlt hk => by have h1 := (own_lt o47 g hg).1; have h2 := Nat.lt_of_lt_of_le p39 (Nat.le_refl _); omega))
    have o190 := (own_ch (own_kp (own_ch (own_kp o52 k80) k83 (fun g hg hlt hk => by have h1 := (own_lt o52 g hg).2; have h2 := Nat.le_trans (Nat.le_refl _) p78; omega)) k88) k185 (fun g hg hlt hk => by have h1 := (own_lt o52 g hg).1; have h2 := Nat.lt_of_lt_of_le p39 (Nat.le_refl _); omega))
    have o191 := (own_ch (own_kp (own_ch (own_kp o57 k80) k83 (fun g hg hlt hk => by have h1 := (own_lt o57 g hg).2; have h2 := Nat.le_trans (Nat.le_refl _) p78; omega)) k88) k185 (fun g hg hlt hk => by have h1 := (own_lt o57 g hg).1; have h2 := Nat.lt_of_lt_of_le p39 (Nat.le_refl _); omega))
    have o192 := (own_ch (own_kp (own_ch (own_kp o62 k80) k83 (fun g hg hlt hk => by have h1 := (own_lt o62 g hg).2; have h2 := Nat.le_trans (Nat.le_refl _) p78; omega)) k88) k185 (fun g hg hlt hk => by have h1 := (own_lt o62 g hg).1; have h2 := Nat.lt_of_lt_of_le p39 (Nat.le_refl _); omega))
    have o193 := (own_ch (own_kp (own_ch (own_kp o67 k80) k83 (fun g hg hlt hk => by have h1 := (own_lt o67 g hg).2; have h2 := Nat.le_trans (Nat.le_refl _) p78; omega)) k88) k185 (fun g hg hlt hk => by have h1 := (own_lt o67 g hg).1; have h2 := Nat.lt_of_lt_of_le p39 (Nat.le_refl _); omega))
    have o194 := (own_ch (own_kp (own_ch (own_kp o72 k80) k83 (fun g hg hlt hk => by have h1 := (own_lt o72 g hg).2; have h2 := Nat.le_trans (Nat.le_refl _) p78; omega)) k88) k185 (fun g hg hlt hk => by have h1 := (own_lt o72 g hg).1; have h2 := Nat.lt_of_lt_of_le p39 (Nat.le_refl _); omega))
    refine ret_1 (.inl rfl) (.agg #[(.int .i64 ((F_impl_copyChan x_c).Role)), (.slice a45 ((F_impl_copyChan x_c).Sn).length c46), (.int .i64 (((F_impl_copyChan x_c).Cur).N)), (.slice a50 (((F_impl_copyChan x_c).Cur).Key).length c51), (.int .i64 (((F_impl_copyChan x_c).Cur).Seq)), (.int .i64 ((((F_impl_copyChan x_c).Cur).Win).Top)), (.slice a55 ((((F_impl_copyChan x_c).Cur).Win).Bits).length c56), (.int .i64 (((F_impl_copyChan x_c).Old).N)), (.slice a60 (((F_impl_copyChan x_c).Old).Key).length c61), (.int .i64 (((F_impl_copyChan x_c).Old).Seq)), (.int .i64 ((((F_impl_copyChan x_c).Old).Win).Top)), (.slice a65 ((((F_impl_copyChan x_c).Old).Win).Bits).length c66), (.bool ((F_impl_copyChan x_c).HasOld)), (.int .i64 ((F_impl_copyChan x_c).Until)), (.slice a70 ((F_impl_copyChan x_c).Next).length c71)]) rfl (rv_c [(.int .i64 ((F_impl_copyChan x_c).Role)), (.slice a45 ((F_impl_copyChan x_c).Sn).length c46), (.int .i64 (((F_impl_copyChan x_c).Cur).N)), (.slice a50 (((F_impl_copyChan x_c).Cur).Key).length c51), (.int .i64 (((F_impl_copyChan x_c).Cur).Seq)), (.int .i64 ((((F_impl_copyChan x_c).Cur).Win).Top)), (.slice a55 ((((F_impl_copyChan x_c).Cur).Win).Bits).length c56), (.int .i64 (((F_impl_copyChan x_c).Old).N)), (.slice a60 (((F_impl_copyChan x_c).Old).Key).length c61), (.int .i64 (((F_impl_copyChan x_c).Old).Seq)), (.int .i64 ((((F_impl_copyChan x_c).Old).Win).Top)), (.slice a65 ((((F_impl_copyChan x_c).Old).Win).Bits).length c66), (.bool ((F_impl_copyChan x_c).HasOld)), (.int .i64 ((F_impl_copyChan x_c).Until)), (.slice a70 ((F_impl_copyChan x_c).Next).length c71)] rfl b186 isAgg_29 sizeOf_29) ?_
    refine ⟨m188.keep0, ?_⟩
    have hF195 : F_impl_ChanTick x_c x_now = (F_impl_copyChan x_c) := by simp only [F_impl_ChanTick, h90, cond_true, cond_false]
    rw [hF195]
    exact ⟨_, _, _, _, _, _, _, _, _, _, _, _, rfl, (own_lo o189 (Nat.le_trans k34.size k40.size)), s48, (own_lo o190 (Nat.le_trans k34.size k40.size)), s53, (own_lo o191 (Nat.le_trans k34.size k40.size)), s58, (own_lo o192 (Nat.le_trans k34.size k40.size)), s63, (own_lo o193 (Nat.le_trans k34.size k40.size)), s68, (own_lo o194 (Nat.le_trans k34.size k40.size)), s73, ⟨⟨(ap75.1.1), ⟨(ap75.1.2.1), ⟨(ap75.1.2.2.1), ⟨(ap75.1.2.2.2.1), ⟨(ap75.1.2.2.2.2.1), trivial⟩⟩⟩⟩⟩, ⟨⟨(ap75.2.1.1), ⟨(ap75.2.1.2.1), ⟨(ap75.2.1.2.2.1), ⟨(ap75.2.1.2.2.2.1), trivial⟩⟩⟩⟩, ⟨⟨(ap75.2.2.1.1), ⟨(ap75.2.2.1.2.1), ⟨(ap75.2.2.1.2.2.1), trivial⟩⟩⟩, ⟨⟨(ap75.2.2.2.1.1), ⟨(ap75.2.2.2.1.2.1), trivial⟩⟩, ⟨⟨(ap75.2.2.2.2.1.1), trivial⟩, ⟨trivial, trivial⟩⟩⟩⟩⟩⟩⟩

theorem C_laws_heldIntS (w0 : World) (v_x_a : Value) (x_a : List Int) (r_x_a : R_23 w0 v_x_a x_a) (x_k : Int) (pre0 : 0 ≤ x_k) (pre1 : x_k ≤ 9000000000000000000) : Fn Try.prog 121 #[v_x_a, (.int .i64 x_k)] w0 (fun v w' => Keep w0 w' ∧ O_3 w' w0.heap.size v (heldI x_a x_k)) := by
  obtain ⟨a1, c2, rfl, r3, s4⟩ := r_x_a
  refine fn_of (n := 21) (l := [(.slice a1 x_a.length c2), (.int .i64 x_k), undef, undef, undef, undef, undef, undef, undef, undef, undef, undef, undef, undef, undef, undef, undef, undef, undef, undef, undef]) Try.func121 rfl rfl (by kernel_rfl) rfl ?_
  refine wc_seq ?_
  refine wc_region ?_
  refine wl_mv (.int .i64 0) (want_none rfl) rfl rfl (.inr rfl) rfl ?_
  refine wl_nil ?_
  refine wq_then ?_
  refine wc_seq ?_
  refine wc_seq ?_
  refine wc_region ?_
  refine wl_mv (.int .i64 0) (want_none rfl) rfl rfl (.inr rfl) rfl ?_
  refine wl_nil ?_
  refine wq_then ?_
  refine wc_block ?_
  refine wc_norm [(.slice a1 x_a.length c2), (.int .i64 x_k), undef, undef, (.int .i64 0), (.int .i64 0), undef, undef, undef, undef, undef, undef, undef, undef, undef, undef, undef, undef, undef, undef, undef] rfl ⟨rfl, rfl, rfl, rfl, rfl, rfl, rfl, rfl, rfl, rfl, rfl, rfl, rfl, rfl, rfl, rfl, rfl, rfl, rfl, rfl, rfl, trivial⟩ ?_
  refine wc_loop (fun e' w' => ∃ (i : Nat) (u4x u6x u7x u8x u9x u10x u11x u12x u13x u14x u15x u16x u17x u18x u19x : Value), e' = lst [(.slice a1 x_a.length c2), (.int .i64 (x_k + ((i : Nat) : Int))), undef, undef, u4x, (.int .i64 ((i : Nat) : Int)), u6x, u7x, u8x, u9x, u10x, u11x, u12x, u13x, u14x, u15x, u16x, u17x, u18x, u19x, undef] ∧ Ch (fun k => w0.heap.size ≤ k) w0 w' ∧ Ch (fun k => w0.heap.size ≤ k) w0 w' ∧ i ≤ x_a.length ∧ heldI x_a x_k = heldI (x_a.drop i) (x_k + ((i : Nat) : Int))) (fun e' _ => x_a.length - ((intOf (e' 5))).toNat) ?_ ?_
  · exact ⟨0, (.int .i64 0), undef, undef, undef, undef, undef, undef, undef, undef, undef, undef, undef, undef, undef, undef, (cg2 (fun (x1z : Value) (x5z : Value) => lst [(.slice a1 x_a.length c2), x1z, undef, undef, (.int .i64 0), x5z, undef, undef, undef, undef, undef, undef, undef, undef, undef, undef, undef, undef, undef, undef, undef]) (congrArg (Value.int .i64) (show (x_k : Int) = (x_k + ((0 : Nat) : Int)) by omega)) (congrArg (Value.int .i64) (show (0 : Int) = ((0 : Nat) : Int) by omega))), (Ch.base w0), (Ch.refl (fun k => w0.heap.size ≤ k) w0), (by omega), (by first | exact heldI_next (by assumption) (by omega) (by assumption) | simp)⟩
  · rintro _ w1 ⟨i, u4x, u6x, u7x, u8x, u9x, u10x, u11x, u12x, u13x, u14x, u15x, u16x, u17x, u18x, u19x, rfl, m6, k7, i8, i9⟩
    refine wc_seq ?_
    refine wc_seq ?_
    refine wc_region ?_
    refine wl_mv (.int .i64 ((i : Nat) : Int)) (want_none rfl) rfl rfl (.inl rfl) rfl ?_
    refine wl_mv (.slice a1 x_a.length c2) (want_none rfl) rfl rfl (.inl rfl) rfl ?_
    refine wl_len (want_none rfl) rfl rfl rfl slTy_23 rfl (r3.from0 m6) ?_
    refine wl_pure (.bool (decide (((i : Nat) : Int) < (x_a.length : Int)))) (want_none rfl) rfl rfl (by kernel_rfl) ?_
    refine wl_nil ?_
    refine wq_then ?_
    rcases Bool.eq_false_or_eq_true (decide (((i : Nat) : Int) < (x_a.length : Int))) with h10 | h10
    · have q11 := of_decide_eq_true h10
      refine wc_true (congrArg Value.bool h10) ?_
      refine wc_skip ?_
      refine wq_then ?_
      refine wc_seq ?_
      refine wc_block ?_
      refine wc_seq ?_
      refine wc_seq ?_
      refine wc_region ?_
      refine wl_mv (.slice a1 x_a.length c2) (want_none rfl) rfl rfl (.inl rfl) rfl ?_
      refine wl_mv (.int .i64 ((i : Nat) : Int)) (want_none rfl) rfl rfl (.inl rfl) rfl ?_
      refine wl_index (want_none rfl) ((i : Nat) : Int) rfl rfl rfl slTy_23 rfl rfl (r3.from0 m6) (by first | omega | (simp only [List.length_cons, List.length_nil, List.length_replicate, List.length_append, List.length_take, List.length_set, List.length_map]; omega)) (by first | omega | (simp only [List.length_cons, List.length_nil, List.length_replicate, List.length_append, List.length_take, List.length_set, List.length_map]; omega)) ?_
      refine wl_loadE (iV (x_a.getD i 0)) (want_none rfl) rfl rfl rfl rfl isAgg_3 (r3.from0 m6) (iget (by simp) (by first | omega | (simp only [List.length_cons, List.length_nil, List.length_replicate, List.length_append, List.length_take, List.length_set, List.length_map]; omega))) ?_
      refine wl_mv (.int .i64 (x_k + ((i : Nat) : Int))) (want_none rfl) rfl rfl (.inl rfl) rfl ?_
      refine wl_pure (.bool (!(decide ((x_a.getD i 0) = (x_k + ((i : Nat) : Int)))))) (want_none rfl) rfl rfl (by kernel_rfl) ?_
      refine wl_nil ?_
      refine wq_then ?_
      rcases Bool.eq_false_or_eq_true (decide ((x_a.getD i 0) = (x_k + ((i : Nat) : Int)))) with h12 | h12
      · have q13 := of_decide_eq_true h12
        refine wc_false (congrArg (fun b => Value.bool (!b)) h12) ?_
        refine wc_skip ?_
        refine wq_then ?_
        refine wc_region ?_
        refine wl_mv (.int .i64 (x_k + ((i : Nat) : Int))) (want_none rfl) rfl rfl (.inl rfl) rfl ?_
        refine wl_arith ((x_k + ((i : Nat) : Int)) + 1) (want_none rfl) rfl rfl (by kernel_rfl) (by omega) (by omega) ?_
        refine wl_mv (.int .i64 ((x_k + ((i : Nat) : Int)) + 1)) (want_none rfl) rfl rfl (.inr rfl) rfl ?_
        refine wl_nil ?_
        refine wq_blk_normal ?_
        refine wq_then ?_
        refine wc_region ?_
        refine wl_mv (.int .i64 ((i : Nat) : Int)) (want_none rfl) rfl rfl (.inl rfl) rfl ?_
        refine wl_arith (((i : Nat) : Int) + 1) (want_none rfl) rfl rfl (by kernel_rfl) (by omega) (by omega) ?_
        refine wl_mv (.int .i64 (((i : Nat) : Int) + 1)) (want_none rfl) rfl rfl (.inr rfl) rfl ?_
        refine wl_nil ?_
        exact wq_loopN (w0 := w1) [(.slice a1 x_a.length c2), (.int .i64 (x_k + (((i + 1) : Nat) : Int))), undef, undef, u4x, (.int .i64 (((i + 1) : Nat) : Int)), (.int .i64 ((i : Nat) : Int)), (.slice a1 x_a.length c2), (.int .i64 (x_a.length : Int)), (.bool (decide (((i : Nat) : Int) < (x_a.length : Int)))), (.int .i64 ((i : Nat) : Int)), (.int .i64 (((i : Nat) : Int) + 1)), (.slice a1 x_a.length c2), (.int .i64 ((i : Nat) : Int)), (.pointer (some (elA (.slice a1 x_a.length c2) ((((i : Nat) : Int)).toNat * 1)))), (.int .i64 (x_a.getD i 0)), (.int .i64 (x_k + ((i : Nat) : Int))), (.bool (!(decide ((x_a.getD i 0) = (x_k + ((i : Nat) : Int)))))), (.int .i64 (x_k + ((i : Nat) : Int))), (.int .i64 ((x_k + ((i : Nat) : Int)) + 1)), undef] rfl ⟨rfl, (congrArg (Value.int .i64) (show (((x_k + ((i : Nat) : Int)) + 1) : Int) = (x_k + (((i + 1) : Nat) : Int)) by omega)), rfl, rfl, rfl, (congrArg (Value.int .i64) (show ((((i : Nat) : Int) + 1) : Int) = (((i + 1) : Nat) : Int) by omega)), rfl, rfl, rfl, rfl, rfl, rfl, rfl, rfl, rfl, rfl, rfl, rfl, rfl, rfl, rfl, trivial⟩ ⟨(i + 1), u4x, (.int .i64 ((i : Nat) : Int)), (.slice a1 x_a.length c2), (.int .i64 (x_a.length : Int)), (.bool (decide (((i : Nat) : Int) < (x_a.length : Int)))), (.int .i64 ((i : Nat) : Int)), (.int .i64 (((i : Nat) : Int) + 1)), (.slice a1 x_a.length c2), (.int .i64 ((i : Nat) : Int)), (.pointer (some (elA (.slice a1 x_a.length c2) ((((i : Nat) : Int)).toNat * 1)))), (.int .i64 (x_a.getD i 0)), (.int .i64 (x_k + ((i : Nat) : Int))), (.bool (!(decide ((x_a.getD i 0) = (x_k + ((i : Nat) : Int)))))), (.int .i64 (x_k + ((i : Nat) : Int))), (.int .i64 ((x_k + ((i : Nat) : Int)) + 1)), rfl, m6, ((Ch.refl (fun k => w0.heap.size ≤ k) w0).ext k7 (fun k hk => Nat.le_trans (Nat.le_refl _) hk)), (by omega), (by first | exact heldI_next (by assumption) (by omega) (by assumption) | simp)⟩ (by show x_a.length - ((((i + 1) : Nat) : Int)).toNat < x_a.length - (((i : Nat) : Int)).toNat; omega)
      · have q14 := of_decide_eq_false h12
        refine wc_true (congrArg (fun b => Value.bool (!b)) h12) ?_
        refine wc_seq ?_
        refine wc_region ?_
        refine wl_mv (.int .i64 (-1)) (want_none rfl) rfl rfl (.inr rfl) rfl ?_
        refine wl_nil ?_
        refine wq_then ?_
        refine wc_ret ?_
        refine wq_then_ret ?_
        refine wq_blk_ret ?_
        refine wq_then_ret ?_
        refine wq_then_ret ?_
        refine wq_blk_ret ?_
        refine wq_then_ret ?_
        refine ret_1 (.inl rfl) (.int .i64 (-1)) rfl rfl ?_
        refine ⟨m6.keep0, ?_⟩
        have hF15 : heldI x_a x_k = (-1) := by first | exact heldI_ne (by assumption) (by omega) (by assumption) | exact heldI_end (by assumption) (by omega)
        rw [hF15]
        exact rfl
    · have q16 := of_decide_eq_false h10
      refine wc_false (congrArg Value.bool h10) ?_
      refine wc_exit ?_
      refine wq_then_exit ?_
      refine wq_then_exit ?_
      refine wq_blk_exit ?_
      refine wq_then ?_
      refine wc_seq ?_
      refine wc_region ?_
      refine wl_mv (.int .i64 (x_k + ((i : Nat) : Int))) (want_none rfl) rfl rfl (.inl rfl) rfl ?_
      refine wl_mv (.int .i64 (x_k + ((i : Nat) : Int))) (want_none rfl) rfl rfl (.inr rfl) rfl ?_
      refine wl_nil ?_
      refine wq_then ?_
      refine wc_ret ?_
      refine ret_1 (.inl rfl) (.int .i64 (x_k + ((i : Nat) : Int))) rfl rfl ?_
      refine ⟨m6.keep0, ?_⟩
      have hF17 : heldI x_a x_k = (x_k + ((i : Nat) : Int)) := by first | exact heldI_ne (by assumption) (by omega) (by assumption) | exact heldI_end (by assumption) (by omega)
      rw [hF17]
      exact rfl

def F_laws_heldWin (x_a : PWin) (x_k : Int) : (Int) := bif (decide ((heldI x_a.Bits x_k) < 0)) then ((-1)) else ((heldI x_a.Bits x_k))
theorem C_laws_heldWin (w0 : World) (v_x_a : Value) (x_a : PWin) (r_x_a : R_25 w0 v_x_a x_a) (x_k : Int) (pre0 : 0 ≤ x_k) (pre1 : x_k ≤ 8800000000000000000) : Fn Try.prog 107 #[v_x_a, (.int .i64 x_k)] w0 (fun v w' => Keep w0 w' ∧ O_3 w' w0.heap.size v (F_laws_heldWin x_a x_k)) := by
  obtain ⟨a1, c2, rfl, r3, s4⟩ := r_x_a
  refine fn_of (n := 12) (l := [(.agg #[(.int .i64 x_a.Top), (.slice a1 x_a.Bits.length c2)]), (.int .i64 x_k), undef, undef, undef, undef, undef, undef, undef, undef, undef, undef]) Try.func107 rfl rfl (by kernel_rfl) rfl ?_
  refine wc_seq ?_
  refine wc_region ?_
  refine wl_box (want_none rfl) [(.int .i64 x_a.Top), (.slice a1 x_a.Bits.length c2)] rfl rfl rfl rfl ?_
  intro g6 w1 p7 p8 k9 b10
  have m11 := (Ch.base w0).extk k9
  refine wl_mv (.int .i64 0) (want_none rfl) rfl rfl (.inr rfl) rfl ?_
  refine wl_nil ?_
  refine wq_then ?_
  refine wc_seq ?_
  refine wc_region ?_
  refine wl_pure (.pointer (some ⟨g6, 1, none⟩)) (want_none rfl) rfl rfl (by kernel_rfl) ?_
  refine wl_load1 (.slice a1 x_a.Bits.length c2) (want_none rfl) rfl rfl rfl rfl isAgg_23 b10 rfl ?_
  refine wl_mv (.int .i64 x_k) (want_none rfl) rfl rfl (.inl rfl) rfl ?_
  refine wl_call (want_none rfl) (args := #[(.slice a1 x_a.Bits.length c2), (.int .i64 x_k)]) rfl rfl (by kernel_rfl) (C_laws_heldIntS w1 (.slice a1 x_a.Bits.length c2) x_a.Bits (show R_23 w1 (.slice a1 x_a.Bits.length c2) x_a.Bits from ⟨_, _, rfl, (r3.from0 m11), s4⟩) x_k (by omega) (by omega)) ?_
  rintro _ w2 ⟨k12, rfl⟩
  have m13 := m11.extk k12
  have q14 := heldI_le x_a.Bits x_k
  refine wl_mv (.int .i64 (heldI x_a.Bits x_k)) (want_none rfl) rfl rfl (.inr rfl) rfl ?_
  refine wl_nil ?_
  refine wq_then ?_
  refine wc_seq ?_
  refine wc_seq ?_
  refine wc_region ?_
  refine wl_mv (.int .i64 (heldI x_a.Bits x_k)) (want_none rfl) rfl rfl (.inl rfl) rfl ?_
  refine wl_pure (.bool (decide ((heldI x_a.Bits x_k) < 0))) (want_none rfl) rfl rfl (by kernel_rfl) ?_
  refine wl_nil ?_
  refine wq_then ?_
  rcases Bool.eq_false_or_eq_true (decide ((heldI x_a.Bits x_k) < 0)) with h15 | h15
  · have q16 := of_decide_eq_true h15
    refine wc_true (congrArg Value.bool h15) ?_
    refine wc_seq ?_
    refine wc_region ?_
    refine wl_mv (.int .i64 (-1)) (want_none rfl) rfl rfl (.inr rfl) rfl ?_
    refine wl_nil ?_
    refine wq_then ?_
    refine wc_ret ?_
    refine wq_then_ret ?_
    refine ret_1 (.inl rfl) (.int .i64 (-1)) rfl rfl ?_
    refine ⟨m13.keep0, ?_⟩
    have hF17 : F_laws_heldWin x_a x_k = (-1) := by simp only [F_laws_heldWin, h15, cond_true, cond_false]
    rw [hF17]
    exact rfl
  · have q18 := of_decide_eq_false h15
    refine wc_false (congrArg Value.bool h15) ?_
    refine wc_skip ?_
    refine wq_then ?_
    refine wc_seq ?_
    refine wc_region ?_
    refine wl_mv (.int .i64 (heldI x_a.Bits x_k)) (want_none rfl) rfl rfl (.inl rfl) rfl ?_
    refine wl_mv (.int .i64 (heldI x_a.Bits x_k)) (want_none rfl) rfl rfl (.inr rfl) rfl ?_
    refine wl_nil ?_
    refine wq_then ?_
    refine wc_ret ?_
    refine ret_1 (.inl rfl) (.int .i64 (heldI x_a.Bits x_k)) rfl rfl ?_
    refine ⟨m13.keep0, ?_⟩
    have hF19 : F_laws_heldWin x_a x_k = (heldI x_a.Bits x_k) := by simp only [F_laws_heldWin, h15, cond_true, cond_false]
    rw [hF19]
    exact rfl
theorem laws_heldWin_le (x : PWin) (k : Int) : F_laws_heldWin x k = -1 ∨ F_laws_heldWin x k = k + ((x.Bits.length : Int)) := by
  have h0 := heldI_le x.Bits k
  simp only [F_laws_heldWin, cond_eq_ite, decide_eq_true_eq]
  (repeat' split) <;> omega

def F_laws_heldEp (x_a : PEp) (x_k : Int) : (Int) := bif (decide ((heldB x_a.Key x_k) < 0)) then ((-1)) else (bif (decide ((F_laws_heldWin x_a.Win (heldB x_a.Key x_k)) < 0)) then ((-1)) else ((F_laws_heldWin x_a.Win (heldB x_a.Key x_k))))
theorem C_laws_heldEp (w0 : World) (v_x_a : Value) (x_a : PEp) (r_x_a : R_27 w0 v_x_a x_a) (x_k : Int) (pre0 : 0 ≤ x_k) (pre1 : x_k ≤ 8700000000000000000) : Fn Try.prog 73 #[v_x_a, (.int .i64 x_k)] w0 (fun v w' => Keep w0 w' ∧ O_3 w' w0.heap.size v (F_laws_heldEp x_a x_k)) := by
  obtain ⟨a1, c2, a6, c7, rfl, r3, s4, r8, s9⟩ := r_x_a
  refine fn_of (n := 18) (l := [(.agg #[(.int .i64 x_a.N), (.slice a1 x_a.Key.length c2), (.int .i64 x_a.Seq), (.int .i64 x_a.Win.Top), (.slice a6 x_a.Win.Bits.length c7)]), (.int .i64 x_k), undef, undef, undef, undef, undef, undef, undef, undef, undef, undef, undef, undef, undef, undef, undef, undef]) Try.func73 rfl rfl (by kernel_rfl) rfl ?_
  refine wc_seq ?_
  refine wc_region ?_
  refine wl_box (want_none rfl) [(.int .i64 x_a.N), (.slice a1 x_a.Key.length c2), (.int .i64 x_a.Seq), (.int .i64 x_a.Win.Top), (.slice a6 x_a.Win.Bits.length c7)] rfl rfl rfl rfl ?_
  intro g11 w1 p12 p13 k14 b15
  have m16 := (Ch.base w0).extk k14
  refine wl_mv (.int .i64 0) (want_none rfl) rfl rfl (.inr rfl) rfl ?_
  refine wl_nil ?_
  refine wq_then ?_
  refine wc_seq ?_
  refine wc_region ?_
  refine wl_pure (.pointer (some ⟨g11, 1, none⟩)) (want_none rfl) rfl rfl (by kernel_rfl) ?_
  refine wl_load1 (.slice a1 x_a.Key.length c2) (want_none rfl) rfl rfl rfl rfl isAgg_22 b15 rfl ?_
  refine wl_mv (.int .i64 x_k) (want_none rfl) rfl rfl (.inl rfl) rfl ?_
  refine wl_call (want_none rfl) (args := #[(.slice a1 x_a.Key.length c2), (.int .i64 x_k)]) rfl rfl (by kernel_rfl) (C_laws_heldByteS w1 (.slice a1 x_a.Key.length c2) x_a.Key (show R_22 w1 (.slice a1 x_a.Key.length c2) x_a.Key from ⟨_, _, rfl, (r3.from0 m16), s4⟩) x_k (by omega) (by omega)) ?_
  rintro _ w2 ⟨k17, rfl⟩
  have m18 := m16.extk k17
  have q19 := heldB_le x_a.Key x_k
  refine wl_mv (.int .i64 (heldB x_a.Key x_k)) (want_none rfl) rfl rfl (.inr rfl) rfl ?_
  refine wl_nil ?_
  refine wq_then ?_
  refine wc_seq ?_
  refine wc_seq ?_
  refine wc_region ?_
  refine wl_mv (.int .i64 (heldB x_a.Key x_k)) (want_none rfl) rfl rfl (.inl rfl) rfl ?_
  refine wl_pure (.bool (decide ((heldB x_a.Key x_k) < 0))) (want_none rfl) rfl rfl (by kernel_rfl) ?_
  refine wl_nil ?_
  refine wq_then ?_
  rcases Bool.eq_false_or_eq_true (decide ((heldB x_a.Key x_k) < 0)) with h20 | h20
  · have q21 := of_decide_eq_true h20
    refine wc_true (congrArg Value.bool h20) ?_
    refine wc_seq ?_
    refine wc_region ?_
    refine wl_mv (.int .i64 (-1)) (want_none rfl) rfl rfl (.inr rfl) rfl ?_
    refine wl_nil ?_
    refine wq_then ?_
    refine wc_ret ?_
    refine wq_then_ret ?_
    refine ret_1 (.inl rfl) (.int .i64 (-1)) rfl rfl ?_
    refine ⟨m18.keep0, ?_⟩
    have hF22 : F_laws_heldEp x_a x_k = (-1) := by simp only [F_laws_heldEp, h20, cond_true, cond_false]
    rw [hF22]
    exact rfl
  · have q23 := of_decide_eq_false h20
    refine wc_false (congrArg Value.bool h20) ?_
    refine wc_skip ?_
    refine wq_then ?_
    refine wc_seq ?_
    refine wc_region ?_
    refine wl_pure (.pointer (some ⟨g11, 3, none⟩)) (want_none rfl) rfl rfl (by kernel_rfl) ?_
    have b24 := (b15.kp k17)
    refine wl_loadN [(.int .i64 x_a.Win.Top), (.slice a6 x_a.Win.Bits.length c7)] (want_none rfl) rfl rfl rfl rfl isAgg_25 sizeOf_25 b24 rfl ?_
    refine wl_mv (.int .i64 (heldB x_a.Key x_k)) (want_none rfl) rfl rfl (.inl rfl) rfl ?_
    refine wl_call (want_none rfl) (args := #[(.agg #[(.int .i64 x_a.Win.Top), (.slice a6 x_a.Win.Bits.length c7)]), (.int .i64 (heldB x_a.Key x_k))]) rfl rfl (by kernel_rfl) (C_laws_heldWin w2 (.agg #[(.int .i64 x_a.Win.Top), (.slice a6 x_a.Win.Bits.length c7)]) x_a.Win (show R_25 w2 (.agg #[(.int .i64 x_a.Win.Top), (.slice a6 x_a.Win.Bits.length c7)]) x_a.Win from ⟨_, _, rfl, (r8.from0 m18), s9⟩) (heldB x_a.Key x_k) (by omega) (by omega)) ?_
    rintro _ w3 ⟨k25, rfl⟩
    have m26 := m18.extk k25
    have q27 := laws_heldWin_le x_a.Win (heldB x_a.Key x_k)
    refine wl_mv (.int .i64 (F_laws_heldWin x_a.Win (heldB x_a.Key x_k))) (want_none rfl) rfl rfl (.inr rfl) rfl ?_
    refine wl_nil ?_
    refine wq_then ?_
    refine wc_seq ?_
    refine wc_seq ?_
    refine wc_region ?_
    refine wl_mv (.int .i64 (F_laws_heldWin x_a.Win (heldB x_a.Key x_k))) (want_none rfl) rfl rfl (.inl rfl) rfl ?_
    refine wl_pure (.bool (decide ((F_laws_heldWin x_a.Win (heldB x_a.Key x_k)) < 0))) (want_none rfl) rfl rfl (by kernel_rfl) ?_
    refine wl_nil ?_
    refine wq_then ?_
    rcases Bool.eq_false_or_eq_true (decide ((F_laws_heldWin x_a.Win (heldB x_a.Key x_k)) < 0)) with h28 | h28
    · have q29 := of_decide_eq_true h28
      refine wc_true (congrArg Value.bool h28) ?_
      refine wc_seq ?_
      refine wc_region ?_
      refine wl_mv (.int .i64 (-1)) (want_none rfl) rfl rfl (.inr rfl) rfl ?_
      refine wl_nil ?_
      refine wq_then ?_
      refine wc_ret ?_
      refine wq_then_ret ?_
      refine ret_1 (.inl rfl) (.int .i64 (-1)) rfl rfl ?_
      refine ⟨m26.keep0, ?_⟩
      have hF30 : F_laws_heldEp x_a x_k = (-1) := by simp only [F_laws_heldEp, h20, h28, cond_true, cond_false]
      rw [hF30]
      exact rfl
    · have q31 := of_decide_eq_false h28
      refine wc_false (congrArg Value.bool h28) ?_
      refine wc_skip ?_
      refine wq_then ?_
      refine wc_seq ?_
      refine wc_region ?_
      refine wl_mv (.int .i64 (F_laws_heldWin x_a.Win (heldB x_a.Key x_k))) (want_none rfl) rfl rfl (.inl rfl) rfl ?_
      refine wl_mv (.int .i64 (F_laws_heldWin x_a.Win (heldB x_a.Key x_k))) (want_none rfl) rfl rfl (.inr rfl) rfl ?_
      refine wl_nil ?_
      refine wq_then ?_
      refine wc_ret ?_
      refine ret_1 (.inl rfl) (.int .i64 (F_laws_heldWin x_a.Win (heldB x_a.Key x_k))) rfl rfl ?_
      refine ⟨m26.keep0, ?_⟩
      have hF32 : F_laws_heldEp x_a x_k = (F_laws_heldWin x_a.Win (heldB x_a.Key x_k)) := by simp only [F_laws_heldEp, h20, h28, cond_true, cond_false]
      rw [hF32]
      exact rfl
theorem laws_heldEp_le (x : PEp) (k : Int) : F_laws_heldEp x k = -1 ∨ F_laws_heldEp x k = k + ((x.Key.length : Int) + (x.Win.Bits.length : Int)) := by
  have h0 := heldB_le x.Key k
  have h1 := laws_heldWin_le x.Win (heldB x.Key k)
  simp only [F_laws_heldEp, cond_eq_ite, decide_eq_true_eq]
  (repeat' split) <;> omega

def F_laws_heldChan (x_a : PChan) (x_k : Int) : (Int) := bif (decide ((heldB x_a.Sn x_k) < 0)) then ((-1)) else (bif (decide ((F_laws_heldEp x_a.Cur (heldB x_a.Sn x_k)) < 0)) then ((-1)) else (bif (decide ((F_laws_heldEp x_a.Old (F_laws_heldEp x_a.Cur (heldB x_a.Sn x_k))) < 0)) then ((-1)) else (bif (decide ((heldB x_a.Next (F_laws_heldEp x_a.Old (F_laws_heldEp x_a.Cur (heldB x_a.Sn x_k)))) < 0)) then ((-1)) else ((heldB x_a.Next (F_laws_heldEp x_a.Old (F_laws_heldEp x_a.Cur (heldB x_a.Sn x_k))))))))
theorem C_laws_heldChan (w0 : World) (v_x_a : Value) (x_a : PChan) (r_x_a : R_29 w0 v_x_a x_a) (x_k : Int) (pre0 : 0 ≤ x_k) (pre1 : x_k ≤ 8600000000000000000) : Fn Try.prog 22 #[v_x_a, (.int .i64 x_k)] w0 (fun v w' => Keep w0 w' ∧ O_3 w' w0.heap.size v (F_laws_heldChan x_a x_k)) := by
  obtain ⟨a1, c2, a6, c7, a11, c12, a16, c17, a21, c22, a26, c27, rfl, r3, s4, r8, s9, r13, s14, r18, s19, r23, s24, r28, s29⟩ := r_x_a
  refine fn_of (n := 30) (l := [(.agg #[(.int .i64 x_a.Role), (.slice a1 x_a.Sn.length c2), (.int .i64 x_a.Cur.N), (.slice a6 x_a.Cur.Key.length c7), (.int .i64 x_a.Cur.Seq), (.int .i64 x_a.Cur.Win.Top), (.slice a11 x_a.Cur.Win.Bits.length c12), (.int .i64 x_a.Old.N), (.slice a16 x_a.Old.Key.length c17), (.int .i64 x_a.Old.Seq), (.int .i64 x_a.Old.Win.Top), (.slice a21 x_a.Old.Win.Bits.length c22), (.bool x_a.HasOld), (.int .i64 x_a.Until), (.slice a26 x_a.Next.length c27)]), (.int .i64 x_k), undef, undef, undef, undef, undef, undef, undef, undef, undef, undef, undef, undef, undef, undef, undef, undef, undef, undef, undef, undef, undef, undef, undef, undef, undef, undef, undef, undef]) Try.func22 rfl rfl (by kernel_rfl) rfl ?_
  refine wc_seq ?_
  refine wc_region ?_
  refine wl_box (want_none rfl) [(.int .i64 x_a.Role), (.slice a1 x_a.Sn.length c2), (.int .i64 x_a.Cur.N), (.slice a6 x_a.Cur.Key.length c7), (.int .i64 x_a.Cur.Seq), (.int .i64 x_a.Cur.Win.Top), (.slice a11 x_a.Cur.Win.Bits.length c12), (.int .i64 x_a.Old.N), (.slice a16 x_a.Old.Key.length c17), (.int .i64 x_a.Old.Seq), (.int .i64 x_a.Old.Win.Top), (.slice a21 x_a.Old.Win.Bits.length c22), (.bool x_a.HasOld), (.int .i64 x_a.Until), (.slice a26 x_a.Next.length c27)] rfl rfl rfl rfl ?_
  intro g31 w1 p32 p33 k34 b35
  have m36 := (Ch.base w0).extk k34
  refine wl_mv (.int .i64 0) (want_none rfl) rfl rfl (.inr rfl) rfl ?_
  refine wl_nil ?_
  refine wq_then ?_
  refine wc_seq ?_
  refine wc_region ?_
  refine wl_pure (.pointer (some ⟨g31, 1, none⟩)) (want_none rfl) rfl rfl (by kernel_rfl) ?_
  refine wl_load1 (.slice a1 x_a.Sn.length c2) (want_none rfl) rfl rfl rfl rfl isAgg_22 b35 rfl ?_
  refine wl_mv (.int .i64 x_k) (want_none rfl) rfl rfl (.inl rfl) rfl ?_
  refine wl_call (want_none rfl) (args := #[(.slice a1 x_a.Sn.length c2), (.int .i64 x_k)]) rfl rfl (by kernel_rfl) (C_laws_heldByteS w1 (.slice a1 x_a.Sn.length c2) x_a.Sn (show R_22 w1 (.slice a1 x_a.Sn.length c2) x_a.Sn from ⟨_, _, rfl, (r3.from0 m36), s4⟩) x_k (by omega) (by omega)) ?_
  rintro _ w2 ⟨k37, rfl⟩
  have m38 := m36.extk k37
  have q39 := heldB_le x_a.Sn x_k
  refine wl_mv (.int .i64 (heldB x_a.Sn x_k)) (want_none rfl) rfl rfl (.inr rfl) rfl ?_
  refine wl_nil ?_
  refine wq_then ?_
  refine wc_seq ?_
  refine wc_seq ?_
  refine wc_region ?_
  refine wl_mv (.int .i64 (heldB x_a.Sn x_k)) (want_none rfl) rfl rfl (.inl rfl) rfl ?_
  refine wl_pure (.bool (decide ((heldB x_a.Sn x_k) < 0))) (want_none rfl) rfl rfl (by kernel_rfl) ?_
  refine wl_nil ?_
  refine wq_then ?_
  rcases Bool.eq_false_or_eq_true (decide ((heldB x_a.Sn x_k) < 0)) with h40 | h40
  · have q41 := of_decide_eq_true h40
    refine wc_true (congrArg Value.bool h40) ?_
    refine wc_seq ?_
    refine wc_region ?_
    refine wl_mv (.int .i64 (-1)) (want_none rfl) rfl rfl (.inr rfl) rfl ?_
    refine wl_nil ?_
    refine wq_then ?_
    refine wc_ret ?_
    refine wq_then_ret ?_
    refine ret_1 (.inl rfl) (.int .i64 (-1)) rfl rfl ?_
    refine ⟨m38.keep0, ?_⟩
    have hF42 : F_laws_heldChan x_a x_k = (-1) := by simp only [F_laws_heldChan, h40, cond_true, cond_false]
    rw [hF42]
    exact rfl
  · have q43 := of_decide_eq_false h40
    refine wc_false (congrArg Value.bool h40) ?_
    refine wc_skip ?_
    refine wq_then ?_
    refine wc_seq ?_
    refine wc_region ?_
    refine wl_pure (.pointer (some ⟨g31, 2, none⟩)) (want_none rfl) rfl rfl (by kernel_rfl) ?_
    have b44 := (b35.kp k37)
    refine wl_loadN [(.int .i64 x_a.Cur.N), (.slice a6 x_a.Cur.Key.length c7), (.int .i64 x_a.Cur.Seq), (.int .i64 x_a.Cur.Win.Top), (.slice a11 x_a.Cur.Win.Bits.length c12)] (want_none rfl) rfl rfl rfl rfl isAgg_27 sizeOf_27 b44 rfl ?_
    refine wl_mv (.int .i64 (heldB x_a.Sn x_k)) (want_none rfl) rfl rfl (.inl rfl) rfl ?_
    refine wl_call (want_none rfl) (args := #[(.agg #[(.int .i64 x_a.Cur.N), (.slice a6 x_a.Cur.Key.length c7), (.int .i64 x_a.Cur.Seq), (.int .i64 x_a.Cur.Win.Top), (.slice a11 x_a.Cur.Win.Bits.length c12)]), (.int .i64 (heldB x_a.Sn x_k))]) rfl rfl (by kernel_rfl) (C_laws_heldEp w2 (.agg #[(.int .i64 x_a.Cur.N), (.slice a6 x_a.Cur.Key.length c7), (.int .i64 x_a.Cur.Seq), (.int .i64 x_a.Cur.Win.Top), (.slice a11 x_a.Cur.Win.Bits.length c12)]) x_a.Cur (show R_27 w2 (.agg #[(.int .i64 x_a.Cur.N), (.slice a6 x_a.Cur.Key.length c7), (.int .i64 x_a.Cur.Seq), (.int .i64 x_a.Cur.Win.Top), (.slice a11 x_a.Cur.Win.Bits.length c12)]) x_a.Cur from ⟨_, _, _, _, rfl, (r8.from0 m38), s9, (r13.from0 m38), s14⟩) (heldB x_a.Sn x_k) (by omega) (by omega)) ?_
    rintro _ w3 ⟨k45, rfl⟩
    have m46 := m38.extk k45
    have q47 := laws_heldEp_le x_a.Cur (heldB x_a.Sn x_k)
    refine wl_mv (.int .i64 (F_laws_heldEp x_a.Cur (heldB x_a.Sn x_k))) (want_none rfl) rfl rfl (.inr rfl) rfl ?_
    refine wl_nil ?_
    refine wq_then ?_
    refine wc_seq ?_
    refine wc_seq ?_
    refine wc_region ?_
    refine wl_mv (.int .i64 (F_laws_heldEp x_a.Cur (heldB x_a.Sn x_k))) (want_none rfl) rfl rfl (.inl rfl) rfl ?_
    refine wl_pure (.bool (decide ((F_laws_heldEp x_a.Cur (heldB x_a.Sn x_k)) < 0))) (want_none rfl) rfl rfl (by kernel_rfl) ?_
    refine wl_nil ?_
    refine wq_then ?_
    rcases Bool.eq_false_or_eq_true (decide ((F_laws_heldEp x_a.Cur (heldB x_a.Sn x_k)) < 0)) with h48 | h48
    · have q49 := of_decide_eq_true h48
      refine wc_true (congrArg Value.bool h48) ?_
      refine wc_seq ?_
      refine wc_region ?_
      refine wl_mv (.int .i64 (-1)) (want_none rfl) rfl rfl (.inr rfl) rfl ?_
      refine wl_nil ?_
      refine wq_then ?_
      refine wc_ret ?_
      refine wq_then_ret ?_
      refine ret_1 (.inl rfl) (.int .i64 (-1)) rfl rfl ?_
      refine ⟨m46.keep0, ?_⟩
      have hF50 : F_laws_heldChan x_a x_k = (-1) := by simp only [F_laws_heldChan, h40, h48, cond_true, cond_false]
      rw [hF50]
      exact rfl
    · have q51 := of_decide_eq_false h48
      refine wc_false (congrArg Value.bool h48) ?_
      refine wc_skip ?_
      refine wq_then ?_
      refine wc_seq ?_
      refine wc_region ?_
      refine wl_pure (.pointer (some ⟨g31, 7, none⟩)) (want_none rfl) rfl rfl (by kernel_rfl) ?_
      have b52 := (b44.kp k45)
      refine wl_loadN [(.int .i64 x_a.Old.N), (.slice a16 x_a.Old.Key.length c17), (.int .i64 x_a.Old.Seq), (.int .i64 x_a.Old.Win.Top), (.slice a21 x_a.Old.Win.Bits.length c22)] (want_none rfl) rfl rfl rfl rfl isAgg_27 sizeOf_27 b52 rfl ?_
      refine wl_mv (.int .i64 (F_laws_heldEp x_a.Cur (heldB x_a.Sn x_k))) (want_none rfl) rfl rfl (.inl rfl) rfl ?_
      refine wl_call (want_none rfl) (args := #[(.agg #[(.int .i64 x_a.Old.N), (.slice a16 x_a.Old.Key.length c17), (.int .i64 x_a.Old.Seq), (.int .i64 x_a.Old.Win.Top), (.slice a21 x_a.Old.Win.Bits.length c22)]), (.int .i64 (F_laws_heldEp x_a.Cur (heldB x_a.Sn x_k)))]) rfl rfl (by kernel_rfl) (C_laws_heldEp w3 (.agg #[(.int .i64 x_a.Old.N), (.slice a16 x_a.Old.Key.length c17), (.int .i64 x_a.Old.Seq), (.int .i64 x_a.Old.Win.Top), (.slice a21 x_a.Old.Win.Bits.length c22)]) x_a.Old (show R_27 w3 (.agg #[(.int .i64 x_a.Old.N), (.slice a16 x_a.Old.Key.length c17), (.int .i64 x_a.Old.Seq), (.int .i64 x_a.Old.Win.Top), (.slice a21 x_a.Old.Win.Bits.length c22)]) x_a.Old from ⟨_, _, _, _, rfl, (r18.from0 m46), s19, (r23.from0 m46), s24⟩) (F_laws_heldEp x_a.Cur (heldB x_a.Sn x_k)) (by omega) (by omega)) ?_
      rintro _ w4 ⟨k53, rfl⟩
      have m54 := m46.extk k53
      have q55 := laws_heldEp_le x_a.Old (F_laws_heldEp x_a.Cur (heldB x_a.Sn x_k))
      refine wl_mv (.int .i64 (F_laws_heldEp x_a.Old (F_laws_heldEp x_a.Cur (heldB x_a.Sn x_k)))) (want_none rfl) rfl rfl (.inr rfl) rfl ?_
      refine wl_nil ?_
      refine wq_then ?_
      refine wc_seq ?_
      refine wc_seq ?_
      refine wc_region ?_
      refine wl_mv (.int .i64 (F_laws_heldEp x_a.Old (F_laws_heldEp x_a.Cur (heldB x_a.Sn x_k)))) (want_none rfl) rfl rfl (.inl rfl) rfl ?_
      refine wl_pure (.bool (decide ((F_laws_heldEp x_a.Old (F_laws_heldEp x_a.Cur (heldB x_a.Sn x_k))) < 0))) (want_none rfl) rfl rfl (by kernel_rfl) ?_
      refine wl_nil ?_
      refine wq_then ?_
      rcases Bool.eq_false_or_eq_true (decide ((F_laws_heldEp x_a.Old (F_laws_heldEp x_a.Cur (heldB x_a.Sn x_k))) < 0)) with h56 | h56
      · have q57 := of_decide_eq_true h56
        refine wc_true (congrArg Value.bool h56) ?_
        refine wc_seq ?_
        refine wc_region ?_
        refine wl_mv (.int .i64 (-1)) (want_none rfl) rfl rfl (.inr rfl) rfl ?_
        refine wl_nil ?_
        refine wq_then ?_
        refine wc_ret ?_
        refine wq_then_ret ?_
        refine ret_1 (.inl rfl) (.int .i64 (-1)) rfl rfl ?_
        refine ⟨m54.keep0, ?_⟩
        have hF58 : F_laws_heldChan x_a x_k = (-1) := by simp only [F_laws_heldChan, h40, h48, h56, cond_true, cond_false]
        rw [hF58]
        exact rfl
      · have q59 := of_decide_eq_false h56
        refine wc_false (congrArg Value.bool h56) ?_
        refine wc_skip ?_
        refine wq_then ?_
        refine wc_seq ?_
        refine wc_region ?_
        refine wl_pure (.pointer (some ⟨g31, 14, none⟩)) (want_none rfl) rfl rfl (by kernel_rfl) ?_
        have b60 := (b52.kp k53)
        refine wl_load1 (.slice a26 x_a.Next.length c27) (want_none rfl) rfl rfl rfl rfl isAgg_22 b60 rfl ?_
        refine wl_mv (.int .i64 (F_laws_heldEp x_a.Old (F_laws_heldEp x_a.Cur (heldB x_a.Sn x_k)))) (want_none rfl) rfl rfl (.inl rfl) rfl ?_
        refine wl_call (want_none rfl) (args := #[(.slice a26 x_a.Next.length c27), (.int .i64 (F_laws_heldEp x_a.Old (F_laws_heldEp x_a.Cur (heldB x_a.Sn x_k))))]) rfl rfl (by kernel_rfl) (C_laws_heldByteS w4 (.slice a26 x_a.Next.length c27) x_a.Next (show R_22 w4 (.slice a26 x_a.Next.length c27) x_a.Next from ⟨_, _, rfl, (r28.from0 m54), s29⟩) (F_laws_heldEp x_a.Old (F_laws_heldEp x_a.Cur (heldB x_a.Sn x_k))) (by omega) (by omega)) ?_
        rintro _ w5 ⟨k61, rfl⟩
        have m62 := m54.extk k61
        have q63 := heldB_le x_a.Next (F_laws_heldEp x_a.Old (F_laws_heldEp x_a.Cur (heldB x_a.Sn x_k)))
        refine wl_mv (.int .i64 (heldB x_a.Next (F_laws_heldEp x_a.Old (F_laws_heldEp x_a.Cur (heldB x_a.Sn x_k))))) (want_none rfl) rfl rfl (.inr rfl) rfl ?_
        refine wl_nil ?_
        refine wq_then ?_
        refine wc_seq ?_
        refine wc_seq ?_
        refine wc_region ?_
        refine wl_mv (.int .i64 (heldB x_a.Next (F_laws_heldEp x_a.Old (F_laws_heldEp x_a.Cur (heldB x_a.Sn x_k))))) (want_none rfl) rfl rfl (.inl rfl) rfl ?_
        refine wl_pure (.bool (decide ((heldB x_a.Next (F_laws_heldEp x_a.Old (F_laws_heldEp x_a.Cur (heldB x_a.Sn x_k)))) < 0))) (want_none rfl) rfl rfl (by kernel_rfl) ?_
        refine wl_nil ?_
        refine wq_then ?_
        rcases Bool.eq_false_or_eq_true (decide ((heldB x_a.Next (F_laws_heldEp x_a.Old (F_laws_heldEp x_a.Cur (heldB x_a.Sn x_k)))) < 0)) with h64 | h64
        · have q65 := of_decide_eq_true h64
          refine wc_true (congrArg Value.bool h64) ?_
          refine wc_seq ?_
          refine wc_region ?_
          refine wl_mv (.int .i64 (-1)) (want_none rfl) rfl rfl (.inr rfl) rfl ?_
          refine wl_nil ?_
          refine wq_then ?_
          refine wc_ret ?_
          refine wq_then_ret ?_
          refine ret_1 (.inl rfl) (.int .i64 (-1)) rfl rfl ?_
          refine ⟨m62.keep0, ?_⟩
          have hF66 : F_laws_heldChan x_a x_k = (-1) := by simp only [F_laws_heldChan, h40, h48, h56, h64, cond_true, cond_false]
          rw [hF66]
          exact rfl
        · have q67 := of_decide_eq_false h64
          refine wc_false (congrArg Value.bool h64) ?_
          refine wc_skip ?_
          refine wq_then ?_
          refine wc_seq ?_
          refine wc_region ?_
          refine wl_mv (.int .i64 (heldB x_a.Next (F_laws_heldEp x_a.Old (F_laws_heldEp x_a.Cur (heldB x_a.Sn x_k))))) (want_none rfl) rfl rfl (.inl rfl) rfl ?_
          refine wl_mv (.int .i64 (heldB x_a.Next (F_laws_heldEp x_a.Old (F_laws_heldEp x_a.Cur (heldB x_a.Sn x_k))))) (want_none rfl) rfl rfl (.inr rfl) rfl ?_
          refine wl_nil ?_
          refine wq_then ?_
          refine wc_ret ?_
          refine ret_1 (.inl rfl) (.int .i64 (heldB x_a.Next (F_laws_heldEp x_a.Old (F_laws_heldEp x_a.Cur (heldB x_a.Sn x_k))))) rfl rfl ?_
          refine ⟨m62.keep0, ?_⟩
          have hF68 : F_laws_heldChan x_a x_k = (heldB x_a.Next (F_laws_heldEp x_a.Old (F_laws_heldEp x_a.Cur (heldB x_a.Sn x_k)))) := by simp only [F_laws_heldChan, h40, h48, h56, h64, cond_true, cond_false]
          rw [hF68]
          exact rfl
theorem laws_heldChan_le (x : PChan) (k : Int) : F_laws_heldChan x k = -1 ∨ F_laws_heldChan x k = k + ((x.Sn.length : Int) + (x.Cur.Key.length : Int) + (x.Cur.Win.Bits.length : Int) + (x.Old.Key.length : Int) + (x.Old.Win.Bits.length : Int) + (x.Next.length : Int)) := by
  have h0 := heldB_le x.Sn k
  have h1 := laws_heldEp_le x.Cur (heldB x.Sn k)
  have h2 := laws_heldEp_le x.Old (F_laws_heldEp x.Cur (heldB x.Sn k))
  have h3 := heldB_le x.Next (F_laws_heldEp x.Old (F_laws_heldEp x.Cur (heldB x.Sn k)))
  simp only [F_laws_heldChan, cond_eq_ite, decide_eq_true_eq]
  (repeat' split) <;> omega
end Go.Proofs.Ytodlalolknldmaa.K
