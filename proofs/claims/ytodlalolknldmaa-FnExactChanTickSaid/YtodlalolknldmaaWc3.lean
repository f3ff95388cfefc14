import Derived.Test.YtodlalolknldmaaCore
import Derived.Test.YtodlalolknldmaaProg
import Derived.Test.YtodlalolknldmaaHeld
import Derived.Test.YtodlalolknldmaaFun
import Derived.Test.YtodlalolknldmaaWc2
namespace Go.Proofs.Ytodlalolknldmaa.K
open Go.RowKit
set_option linter.unusedVariables false
set_option linter.unusedSimpArgs false
set_option maxRecDepth 100000
def F_laws_FnExactOldest (x_aC : PChan) : (Bool) := bif (decide ((F_laws_szChan x_aC 1048576) < 0)) then (true) else (bif (decide ((F_impl_Oldest (F_laws_toChan x_aC)) = (F_spec_Oldest (F_laws_toChan x_aC)))) then (bif (F_laws_eqChan (F_laws_toChan x_aC) (F_laws_toChan x_aC)) then (true) else (false)) else (false))
theorem C_laws_FnExactOldest (w0 : World) (v_x_aC : Value) (x_aC : PChan) (r_x_aC : Q_41 w0 v_x_aC x_aC)  : Fn Try.prog 5 #[v_x_aC] w0 (fun v w' => Keep w0 w' ∧ O_4 w' w0.heap.size v (F_laws_FnExactOldest x_aC)) := by
  obtain ⟨a1, c2, a6, c7, a11, c12, a16, c17, a21, c22, a26, c27, rfl, r3, s4, r8, s9, r13, s14, r18, s19, r23, s24, r28, s29⟩ := r_x_aC
  refine fn_of (n := 27) (l := [(.agg #[(.int .i64 x_aC.Role), (.slice a1 x_aC.Sn.length c2), (.int .i64 x_aC.Cur.N), (.slice a6 x_aC.Cur.Key.length c7), (.int .i64 x_aC.Cur.Seq), (.int .i64 x_aC.Cur.Win.Top), (.slice a11 x_aC.Cur.Win.Bits.length c12), (.int .i64 x_aC.Old.N), (.slice a16 x_aC.Old.Key.length c17), (.int .i64 x_aC.Old.Seq), (.int .i64 x_aC.Old.Win.Top), (.slice a21 x_aC.Old.Win.Bits.length c22), (.bool x_aC.HasOld), (.int .i64 x_aC.Until), (.slice a26 x_aC.Next.length c27)]), undef, undef, undef, undef, undef, undef, undef, undef, undef, undef, undef, undef, undef, undef, undef, undef, undef, undef, undef, undef, undef, undef, undef, undef, undef, undef]) Try.func5 rfl rfl (by kernel_rfl) rfl ?_
  refine wc_seq ?_
  refine wc_region ?_
  refine wl_box (want_none rfl) [(.int .i64 x_aC.Role), (.slice a1 x_aC.Sn.length c2), (.int .i64 x_aC.Cur.N), (.slice a6 x_aC.Cur.Key.length c7), (.int .i64 x_aC.Cur.Seq), (.int .i64 x_aC.Cur.Win.Top), (.slice a11 x_aC.Cur.Win.Bits.length c12), (.int .i64 x_aC.Old.N), (.slice a16 x_aC.Old.Key.length c17), (.int .i64 x_aC.Old.Seq), (.int .i64 x_aC.Old.Win.Top), (.slice a21 x_aC.Old.Win.Bits.length c22), (.bool x_aC.HasOld), (.int .i64 x_aC.Until), (.slice a26 x_aC.Next.length c27)] rfl rfl rfl rfl ?_
  intro g31 w1 p32 p33 k34 b35
  have m36 := (Ch.base w0).extk k34
  refine wl_mv (.bool false) (want_none rfl) rfl rfl (.inr rfl) rfl ?_
  refine wl_nil ?_
  refine wq_then ?_
  refine wc_seq ?_
  refine wc_region ?_
  refine wl_mv (.int .i64 1048576) (want_none rfl) rfl rfl (.inr rfl) rfl ?_
  refine wl_nil ?_
  refine wq_then ?_
  refine wc_seq ?_
  refine wc_region ?_
  refine wl_loadN [(.int .i64 x_aC.Role), (.slice a1 x_aC.Sn.length c2), (.int .i64 x_aC.Cur.N), (.slice a6 x_aC.Cur.Key.length c7), (.int .i64 x_aC.Cur.Seq), (.int .i64 x_aC.Cur.Win.Top), (.slice a11 x_aC.Cur.Win.Bits.length c12), (.int .i64 x_aC.Old.N), (.slice a16 x_aC.Old.Key.length c17), (.int .i64 x_aC.Old.Seq), (.int .i64 x_aC.Old.Win.Top), (.slice a21 x_aC.Old.Win.Bits.length c22), (.bool x_aC.HasOld), (.int .i64 x_aC.Until), (.slice a26 x_aC.Next.length c27)] (want_none rfl) rfl rfl rfl rfl isAgg_41 sizeOf_41 b35 rfl ?_
  refine wl_mv (.int .i64 1048576) (want_none rfl) rfl rfl (.inl rfl) rfl ?_
  refine wl_call (want_none rfl) (args := #[(.agg #[(.int .i64 x_aC.Role), (.slice a1 x_aC.Sn.length c2), (.int .i64 x_aC.Cur.N), (.slice a6 x_aC.Cur.Key.length c7), (.int .i64 x_aC.Cur.Seq), (.int .i64 x_aC.Cur.Win.Top), (.slice a11 x_aC.Cur.Win.Bits.length c12), (.int .i64 x_aC.Old.N), (.slice a16 x_aC.Old.Key.length c17), (.int .i64 x_aC.Old.Seq), (.int .i64 x_aC.Old.Win.Top), (.slice a21 x_aC.Old.Win.Bits.length c22), (.bool x_aC.HasOld), (.int .i64 x_aC.Until), (.slice a26 x_aC.Next.length c27)]), (.int .i64 1048576)]) rfl rfl (by kernel_rfl) (C_laws_szChan w1 (.agg #[(.int .i64 x_aC.Role), (.slice a1 x_aC.Sn.length c2), (.int .i64 x_aC.Cur.N), (.slice a6 x_aC.Cur.Key.length c7), (.int .i64 x_aC.Cur.Seq), (.int .i64 x_aC.Cur.Win.Top), (.slice a11 x_aC.Cur.Win.Bits.length c12), (.int .i64 x_aC.Old.N), (.slice a16 x_aC.Old.Key.length c17), (.int .i64 x_aC.Old.Seq), (.int .i64 x_aC.Old.Win.Top), (.slice a21 x_aC.Old.Win.Bits.length c22), (.bool x_aC.HasOld), (.int .i64 x_aC.Until), (.slice a26 x_aC.Next.length c27)]) x_aC (show Q_41 w1 (.agg #[(.int .i64 x_aC.Role), (.slice a1 x_aC.Sn.length c2), (.int .i64 x_aC.Cur.N), (.slice a6 x_aC.Cur.Key.length c7), (.int .i64 x_aC.Cur.Seq), (.int .i64 x_aC.Cur.Win.Top), (.slice a11 x_aC.Cur.Win.Bits.length c12), (.int .i64 x_aC.Old.N), (.slice a16 x_aC.Old.Key.length c17), (.int .i64 x_aC.Old.Seq), (.int .i64 x_aC.Old.Win.Top), (.slice a21 x_aC.Old.Win.Bits.length c22), (.bool x_aC.HasOld), (.int .i64 x_aC.Until), (.slice a26 x_aC.Next.length c27)]) x_aC from ⟨_, _, _, _, _, _, _, _, _, _, _, _, rfl, (r3.from0 m36), s4, (r8.from0 m36), s9, (r13.from0 m36), s14, (r18.from0 m36), s19, (r23.from0 m36), s24, (r28.from0 m36), s29⟩) 1048576 (by omega) (by omega)) ?_
  rintro _ w2 ⟨k37, rfl⟩
  have m38 := m36.extk k37
  have q39 := laws_szChan_le x_aC 1048576
  refine wl_mv (.int .i64 (F_laws_szChan x_aC 1048576)) (want_none rfl) rfl rfl (.inr rfl) rfl ?_
  refine wl_nil ?_
  refine wq_then ?_
  refine wc_seq ?_
  refine wc_seq ?_
  refine wc_region ?_
  refine wl_mv (.int .i64 (F_laws_szChan x_aC 1048576)) (want_none rfl) rfl rfl (.inl rfl) rfl ?_
  refine wl_pure (.bool (decide ((F_laws_szChan x_aC 1048576) < 0))) (want_none rfl) rfl rfl (by kernel_rfl) ?_
  refine wl_nil ?_
  refine wq_then ?_
  rcases Bool.eq_false_or_eq_true (decide ((F_laws_szChan x_aC 1048576) < 0)) with h40 | h40
  · have q41 := of_decide_eq_true h40
    refine wc_true (congrArg Value.bool h40) ?_
    refine wc_seq ?_
    refine wc_region ?_
    refine wl_mv (.bool true) (want_none rfl) rfl rfl (.inr rfl) rfl ?_
    refine wl_nil ?_
    refine wq_then ?_
    refine wc_ret ?_
    refine wq_then_ret ?_
    refine ret_1 (.inl rfl) (.bool true) rfl rfl ?_
    refine ⟨m38.keep0, ?_⟩
    have hF42 : F_laws_FnExactOldest x_aC = true := by simp only [F_laws_FnExactOldest, h40, cond_true, cond_false]
    rw [hF42]
    exact rfl
  · have q43 := of_decide_eq_false h40
    refine wc_false (congrArg Value.bool h40) ?_
    refine wc_skip ?_
    refine wq_then ?_
    refine wc_seq ?_
    refine wc_region ?_
    have b44 := (b35.kp k37)
    refine wl_loadN [(.int .i64 x_aC.Role), (.slice a1 x_aC.Sn.length c2), (.int .i64 x_aC.Cur.N), (.slice a6 x_aC.Cur.Key.length c7), (.int .i64 x_aC.Cur.Seq), (.int .i64 x_aC.Cur.Win.Top), (.slice a11 x_aC.Cur.Win.Bits.length c12), (.int .i64 x_aC.Old.N), (.slice a16 x_aC.Old.Key.length c17), (.int .i64 x_aC.Old.Seq), (.int .i64 x_aC.Old.Win.Top), (.slice a21 x_aC.Old.Win.Bits.length c22), (.bool x_aC.HasOld), (.int .i64 x_aC.Until), (.slice a26 x_aC.Next.length c27)] (want_none rfl) rfl rfl rfl rfl isAgg_41 sizeOf_41 b44 rfl ?_
    refine wl_call (want_none rfl) (args := #[(.agg #[(.int .i64 x_aC.Role), (.slice a1 x_aC.Sn.length c2), (.int .i64 x_aC.Cur.N), (.slice a6 x_aC.Cur.Key.length c7), (.int .i64 x_aC.Cur.Seq), (.int .i64 x_aC.Cur.Win.Top), (.slice a11 x_aC.Cur.Win.Bits.length c12), (.int .i64 x_aC.Old.N), (.slice a16 x_aC.Old.Key.length c17), (.int .i64 x_aC.Old.Seq), (.int .i64 x_aC.Old.Win.Top), (.slice a21 x_aC.Old.Win.Bits.length c22), (.bool x_aC.HasOld), (.int .i64 x_aC.Until), (.slice a26 x_aC.Next.length c27)])]) rfl rfl (by kernel_rfl) (C_laws_toChan w2 (.agg #[(.int .i64 x_aC.Role), (.slice a1 x_aC.Sn.length c2), (.int .i64 x_aC.Cur.N), (.slice a6 x_aC.Cur.Key.length c7), (.int .i64 x_aC.Cur.Seq), (.int .i64 x_aC.Cur.Win.Top), (.slice a11 x_aC.Cur.Win.Bits.length c12), (.int .i64 x_aC.Old.N), (.slice a16 x_aC.Old.Key.length c17), (.int .i64 x_aC.Old.Seq), (.int .i64 x_aC.Old.Win.Top), (.slice a21 x_aC.Old.Win.Bits.length c22), (.bool x_aC.HasOld), (.int .i64 x_aC.Until), (.slice a26 x_aC.Next.length c27)]) x_aC (show R_41 w2 (.agg #[(.int .i64 x_aC.Role), (.slice a1 x_aC.Sn.length c2), (.int .i64 x_aC.Cur.N), (.slice a6 x_aC.Cur.Key.length c7), (.int .i64 x_aC.Cur.Seq), (.int .i64 x_aC.Cur.Win.Top), (.slice a11 x_aC.Cur.Win.Bits.length c12), (.int .i64 x_aC.Old.N), (.slice a16 x_aC.Old.Key.length c17), (.int .i64 x_aC.Old.Seq), (.int .i64 x_aC.Old.Win.Top), (.slice a21 x_aC.Old.Win.Bits.length c22), (.bool x_aC.HasOld), (.int .i64 x_aC.Until), (.slice a26 x_aC.Next.length c27)]) x_aC from ⟨_, _, _, _, _, _, _, _, _, _, _, _, rfl, (r3.from0 m38), (by omega), (r8.from0 m38), (by omega), (r13.from0 m38), (by omega), (r18.from0 m38), (by omega), (r23.from0 m38), (by omega), (r28.from0 m38), (by omega)⟩)) ?_
    rintro _ w3 ⟨k45, ⟨a46, c47, a51, c52, a56, c57, a61, c62, a66, c67, a71, c72, rfl, o48, s49, o53, s54, o58, s59, o63, s64, o68, s69, o73, s74, ap76⟩⟩
    have m77 := m38.extk k45
    refine wl_call (want_none rfl) (args := #[(.agg #[(.int .i64 ((F_laws_toChan x_aC).Role)), (.slice a46 ((F_laws_toChan x_aC).Sn).length c47), (.int .i64 (((F_laws_toChan x_aC).Cur).N)), (.slice a51 (((F_laws_toChan x_aC).Cur).Key).length c52), (.int .i64 (((F_laws_toChan x_aC).Cur).Seq)), (.int .i64 ((((F_laws_toChan x_aC).Cur).Win).Top)), (.slice a56 ((((F_laws_toChan x_aC).Cur).Win).Bits).length c57), (.int .i64 (((F_laws_toChan x_aC).Old).N)), (.slice a61 (((F_laws_toChan x_aC).Old).Key).length c62), (.int .i64 (((F_laws_toChan x_aC).Old).Seq)), (.int .i64 ((((F_laws_toChan x_aC).Old).Win).Top)), (.slice a66 ((((F_laws_toChan x_aC).Old).Win).Bits).length c67), (.bool ((F_laws_toChan x_aC).HasOld)), (.int .i64 ((F_laws_toChan x_aC).Until)), (.slice a71 ((F_laws_toChan x_aC).Next).length c72)])]) rfl rfl (by kernel_rfl) (C_spec_Oldest w3 (.agg #[(.int .i64 ((F_laws_toChan x_aC).Role)), (.slice a46 ((F_laws_toChan x_aC).Sn).length c47), (.int .i64 (((F_laws_toChan x_aC).Cur).N)), (.slice a51 (((F_laws_toChan x_aC).Cur).Key).length c52), (.int .i64 (((F_laws_toChan x_aC).Cur).Seq)), (.int .i64 ((((F_laws_toChan x_aC).Cur).Win).Top)), (.slice a56 ((((F_laws_toChan x_aC).Cur).Win).Bits).length c57), (.int .i64 (((F_laws_toChan x_aC).Old).N)), (.slice a61 (((F_laws_toChan x_aC).Old).Key).length c62), (.int .i64 (((F_laws_toChan x_aC).Old).Seq)), (.int .i64 ((((F_laws_toChan x_aC).Old).Win).Top)), (.slice a66 ((((F_laws_toChan x_aC).Old).Win).Bits).length c67), (.bool ((F_laws_toChan x_aC).HasOld)), (.int .i64 ((F_laws_toChan x_aC).Until)), (.slice a71 ((F_laws_toChan x_aC).Next).length c72)]) (F_laws_toChan x_aC) (show R_29 w3 (.agg #[(.int .i64 ((F_laws_toChan x_aC).Role)), (.slice a46 ((F_laws_toChan x_aC).Sn).length c47), (.int .i64 (((F_laws_toChan x_aC).Cur).N)), (.slice a51 (((F_laws_toChan x_aC).Cur).Key).length c52), (.int .i64 (((F_laws_toChan x_aC).Cur).Seq)), (.int .i64 ((((F_laws_toChan x_aC).Cur).Win).Top)), (.slice a56 ((((F_laws_toChan x_aC).Cur).Win).Bits).length c57), (.int .i64 (((F_laws_toChan x_aC).Old).N)), (.slice a61 (((F_laws_toChan x_aC).Old).Key).length c62), (.int .i64 (((F_laws_toChan x_aC).Old).Seq)), (.int .i64 ((((F_laws_toChan x_aC).Old).Win).Top)), (.slice a66 ((((F_laws_toChan x_aC).Old).Win).Bits).length c67), (.bool ((F_laws_toChan x_aC).HasOld)), (.int .i64 ((F_laws_toChan x_aC).Until)), (.slice a71 ((F_laws_toChan x_aC).Next).length c72)]) (F_laws_toChan x_aC) from ⟨_, _, _, _, _, _, _, _, _, _, _, _, rfl, (Rd.of_own o48), s49, (Rd.of_own o53), s54, (Rd.of_own o58), s59, (Rd.of_own o63), s64, (Rd.of_own o68), s69, (Rd.of_own o73), s74⟩)) ?_
    rintro _ w4 ⟨k78, rfl⟩
    have m79 := m77.extk k78
    refine wl_mv (.int .i64 (F_spec_Oldest (F_laws_toChan x_aC))) (want_none rfl) rfl rfl (.inr rfl) rfl ?_
    refine wl_nil ?_
    refine wq_then ?_
    refine wc_seq ?_
    refine wc_region ?_
    have b80 := ((b44.kp k45).kp k78)
    refine wl_loadN [(.int .i64 x_aC.Role), (.slice a1 x_aC.Sn.length c2), (.int .i64 x_aC.Cur.N), (.slice a6 x_aC.Cur.Key.length c7), (.int .i64 x_aC.Cur.Seq), (.int .i64 x_aC.Cur.Win.Top), (.slice a11 x_aC.Cur.Win.Bits.length c12), (.int .i64 x_aC.Old.N), (.slice a16 x_aC.Old.Key.length c17), (.int .i64 x_aC.Old.Seq), (.int .i64 x_aC.Old.Win.Top), (.slice a21 x_aC.Old.Win.Bits.length c22), (.bool x_aC.HasOld), (.int .i64 x_aC.Until), (.slice a26 x_aC.Next.length c27)] (want_none rfl) rfl rfl rfl rfl isAgg_41 sizeOf_41 b80 rfl ?_
    refine wl_call (want_none rfl) (args := #[(.agg #[(.int .i64 x_aC.Role), (.slice a1 x_aC.Sn.length c2), (.int .i64 x_aC.Cur.N), (.slice a6 x_aC.Cur.Key.length c7), (.int .i64 x_aC.Cur.Seq), (.int .i64 x_aC.Cur.Win.Top), (.slice a11 x_aC.Cur.Win.Bits.length c12), (.int .i64 x_aC.Old.N), (.slice a16 x_aC.Old.Key.length c17), (.int .i64 x_aC.Old.Seq), (.int .i64 x_aC.Old.Win.Top), (.slice a21 x_aC.Old.Win.Bits.length c22), (.bool x_aC.HasOld), (.int .i64 x_aC.Until), (.slice a26 x_aC.Next.length c27)])]) rfl rfl (by kernel_rfl) (C_laws_toChan w4 (.agg #[(.int .i64 x_aC.Role), (.slice a1 x_aC.Sn.length c2), (.int .i64 x_aC.Cur.N), (.slice a6 x_aC.Cur.Key.length c7), (.int .i64 x_aC.Cur.Seq), (.int .i64 x_aC.Cur.Win.Top), (.slice a11 x_aC.Cur.Win.Bits.length c12), (.int .i64 x_aC.Old.N), (.slice a16 x_aC.Old.Key.length c17), (.int .i64 x_aC.Old.Seq), (.int .i64 x_aC.Old.Win.Top), (.slice a21 x_aC.Old.Win.Bits.length c22), (.bool x_aC.HasOld), (.int .i64 x_aC.Until), (.slice a26 x_aC.Next.length c27)]) x_aC (show R_41 w4 (.agg #[(.int .i64 x_aC.Role), (.slice a1 x_aC.Sn.length c2), (.int .i64 x_aC.Cur.N), (.slice a6 x_aC.Cur.Key.length c7), (.int .i64 x_aC.Cur.Seq), (.int .i64 x_aC.Cur.Win.Top), (.slice a11 x_aC.Cur.Win.Bits.length c12), (.int .i64 x_aC.Old.N), (.slice a16 x_aC.Old.Key.length c17), (.int .i64 x_aC.Old.Seq), (.int .i64 x_aC.Old.Win.Top), (.slice a21 x_aC.Old.Win.Bits.length c22), (.bool x_aC.HasOld), (.int .i64 x_aC.Until), (.slice a26 x_aC.Next.length c27)]) x_aC from ⟨_, _, _, _, _, _, _, _, _, _, _, _, rfl, (r3.from0 m79), (by omega), (r8.from0 m79), (by omega), (r13.from0 m79), (by omega), (r18.from0 m79), (by omega), (r23.from0 m79), (by omega), (r28.from0 m79), (by omega)⟩)) ?_
    rintro _ w5 ⟨k81, ⟨a82, c83, a87, c88, a92, c93, a97, c98, a102, c103, a107, c108, rfl, o84, s85, o89, s90, o94, s95, o99, s100, o104, s105, o109, s110, ap112⟩⟩
    have m113 := m79.extk k81
    refine wl_alloc (want_none rfl) (.agg #[(.int .i64 0), (.slice none 0 0), (.int .i64 0), (.slice none 0 0), (.int .i64 0), (.int .i64 0), (.slice none 0 0), (.int .i64 0), (.slice none 0 0), (.int .i64 0), (.int .i64 0), (.slice none 0 0), (.bool false), (.int .i64 0), (.slice none 0 0)]) [(.int .i64 0), (.slice none 0 0), (.int .i64 0), (.slice none 0 0), (.int .i64 0), (.int .i64 0), (.slice none 0 0), (.int .i64 0), (.slice none 0 0), (.int .i64 0), (.int .i64 0), (.slice none 0 0), (.bool false), (.int .i64 0), (.slice none 0 0)] zero_29 rfl rfl rfl rfl ?_
    intro g114 w6 p115 p116 k117 b118
    have m119 := m113.extk k117
    refine wl_store (.agg #[(.int .i64 ((F_laws_toChan x_aC).Role)), (.slice a82 ((F_laws_toChan x_aC).Sn).length c83), (.int .i64 (((F_laws_toChan x_aC).Cur).N)), (.slice a87 (((F_laws_toChan x_aC).Cur).Key).length c88), (.int .i64 (((F_laws_toChan x_aC).Cur).Seq)), (.int .i64 ((((F_laws_toChan x_aC).Cur).Win).Top)), (.slice a92 ((((F_laws_toChan x_aC).Cur).Win).Bits).length c93), (.int .i64 (((F_laws_toChan x_aC).Old).N)), (.slice a97 (((F_laws_toChan x_aC).Old).Key).length c98), (.int .i64 (((F_laws_toChan x_aC).Old).Seq)), (.int .i64 ((((F_laws_toChan x_aC).Old).Win).Top)), (.slice a102 ((((F_laws_toChan x_aC).Old).Win).Bits).length c103), (.bool ((F_laws_toChan x_aC).HasOld)), (.int .i64 ((F_laws_toChan x_aC).Until)), (.slice a107 ((F_laws_toChan x_aC).Next).length c108)]) [(.int .i64 ((F_laws_toChan x_aC).Role)), (.slice a82 ((F_laws_toChan x_aC).Sn).length c83), (.int .i64 (((F_laws_toChan x_aC).Cur).N)), (.slice a87 (((F_laws_toChan x_aC).Cur).Key).length c88), (.int .i64 (((F_laws_toChan x_aC).Cur).Seq)), (.int .i64 ((((F_laws_toChan x_aC).Cur).Win).Top)), (.slice a92 ((((F_laws_toChan x_aC).Cur).Win).Bits).length c93), (.int .i64 (((F_laws_toChan x_aC).Old).N)), (.slice a97 (((F_laws_toChan x_aC).Old).Key).length c98), (.int .i64 (((F_laws_toChan x_aC).Old).Seq)), (.int .i64 ((((F_laws_toChan x_aC).Old).Win).Top)), (.slice a102 ((((F_laws_toChan x_aC).Old).Win).Bits).length c103), (.bool ((F_laws_toChan x_aC).HasOld)), (.int .i64 ((F_laws_toChan x_aC).Until)), (.slice a107 ((F_laws_toChan x_aC).Next).length c108)] [(.int .i64 ((F_laws_toChan x_aC).Role)), (.slice a82 ((F_laws_toChan x_aC).Sn).length c83), (.int .i64 (((F_laws_toChan x_aC).Cur).N)), (.slice a87 (((F_laws_toChan x_aC).Cur).Key).length c88), (.int .i64 (((F_laws_toChan x_aC).Cur).Seq)), (.int .i64 ((((F_laws_toChan x_aC).Cur).Win).Top)), (.slice a92 ((((F_laws_toChan x_aC).Cur).Win).Bits).length c93), (.int .i64 (((F_laws_toChan x_aC).Old).N)), (.slice a97 (((F_laws_toChan x_aC).Old).Key).length c98), (.int .i64 (((F_laws_toChan x_aC).Old).Seq)), (.int .i64 ((((F_laws_toChan x_aC).Old).Win).Top)), (.slice a102 ((((F_laws_toChan x_aC).Old).Win).Bits).length c103), (.bool ((F_laws_toChan x_aC).HasOld)), (.int .i64 ((F_laws_toChan x_aC).Until)), (.slice a107 ((F_laws_toChan x_aC).Next).length c108)] (want_none rfl) rfl rfl rfl rfl rfl (one_cons rfl (one_cons rfl (one_cons rfl (one_cons rfl (one_cons rfl (one_cons rfl (one_cons rfl (one_cons rfl (one_cons rfl (one_cons rfl (one_cons rfl (one_cons rfl (one_cons rfl (one_cons rfl (one_cons rfl one_nil))))))))))))))) sizeOf_29 b118 rfl rfl ?_
    intro w7 k120 b121 z122
    have m123 := m119.ext k120 (fun k hk => by subst hk; exact Nat.le_trans (Nat.le_trans (Nat.le_trans (Nat.le_trans (Nat.le_trans k34.size k37.size) k45.size) k78.size) k81.size) p115)
    refine wl_nil ?_
    refine wq_then ?_
    refine wc_seq ?_
    refine wc_region ?_
    refine wl_loadN [(.int .i64 ((F_laws_toChan x_aC).Role)), (.slice a82 ((F_laws_toChan x_aC).Sn).length c83), (.int .i64 (((F_laws_toChan x_aC).Cur).N)), (.slice a87 (((F_laws_toChan x_aC).Cur).Key).length c88), (.int .i64 (((F_laws_toChan x_aC).Cur).Seq)), (.int .i64 ((((F_laws_toChan x_aC).Cur).Win).Top)), (.slice a92 ((((F_laws_toChan x_aC).Cur).Win).Bits).length c93), (.int .i64 (((F_laws_toChan x_aC).Old).N)), (.slice a97 (((F_laws_toChan x_aC).Old).Key).length c98), (.int .i64 (((F_laws_toChan x_aC).Old).Seq)), (.int .i64 ((((F_laws_toChan x_aC).Old).Win).Top)), (.slice a102 ((((F_laws_toChan x_aC).Old).Win).Bits).length c103), (.bool ((F_laws_toChan x_aC).HasOld)), (.int .i64 ((F_laws_toChan x_aC).Until)), (.slice a107 ((F_laws_toChan x_aC).Next).length c108)] (want_none rfl) rfl rfl rfl rfl isAgg_29 sizeOf_29 b121 rfl ?_
    have o124 := (own_ch (own_kp o84 k117) k120 (fun g hg hlt hk => by have h1 := (own_lt o84 g hg).2; have h2 := Nat.le_trans (Nat.le_refl _) p115; omega))
    have o125 := (own_ch (own_kp o89 k117) k120 (fun g hg hlt hk => by have h1 := (own_lt o89 g hg).2; have h2 := Nat.le_trans (Nat.le_refl _) p115; omega))
    have o126 := (own_ch (own_kp o94 k117) k120 (fun g hg hlt hk => by have h1 := (own_lt o94 g hg).2; have h2 := Nat.le_trans (Nat.le_refl _) p115; omega))
    have o127 := (own_ch (own_kp o99 k117) k120 (fun g hg hlt hk => by have h1 := (own_lt o99 g hg).2; have h2 := Nat.le_trans (Nat.le_refl _) p115; omega))
    have o128 := (own_ch (own_kp o104 k117) k120 (fun g hg hlt hk => by have h1 := (own_lt o104 g hg).2; have h2 := Nat.le_trans (Nat.le_refl _) p115; omega))
    have o129 := (own_ch (own_kp o109 k117) k120 (fun g hg hlt hk => by have h1 := (own_lt o109 g hg).2; have h2 := Nat.le_trans (Nat.le_refl _) p115; omega))
    refine wl_call (want_none rfl) (args := #[(.agg #[(.int .i64 ((F_laws_toChan x_aC).Role)), (.slice a82 ((F_laws_toChan x_aC).Sn).length c83), (.int .i64 (((F_laws_toChan x_aC).Cur).N)), (.slice a87 (((F_laws_toChan x_aC).Cur).Key).length c88), (.int .i64 (((F_laws_toChan x_aC).Cur).Seq)), (.int .i64 ((((F_laws_toChan x_aC).Cur).Win).Top)), (.slice a92 ((((F_laws_toChan x_aC).Cur).Win).Bits).length c93), (.int .i64 (((F_laws_toChan x_aC).Old).N)), (.slice a97 (((F_laws_toChan x_aC).Old).Key).length c98), (.int .i64 (((F_laws_toChan x_aC).Old).Seq)), (.int .i64 ((((F_laws_toChan x_aC).Old).Win).Top)), (.slice a102 ((((F_laws_toChan x_aC).Old).Win).Bits).length c103), (.bool ((F_laws_toChan x_aC).HasOld)), (.int .i64 ((F_laws_toChan x_aC).Until)), (.slice a107 ((F_laws_toChan x_aC).Next).length c108)])]) rfl rfl (by kernel_rfl) (C_impl_Oldest w7 (.agg #[(.int .i64 ((F_laws_toChan x_aC).Role)), (.slice a82 ((F_laws_toChan x_aC).Sn).length c83), (.int .i64 (((F_laws_toChan x_aC).Cur).N)), (.slice a87 (((F_laws_toChan x_aC).Cur).Key).length c88), (.int .i64 (((F_laws_toChan x_aC).Cur).Seq)), (.int .i64 ((((F_laws_toChan x_aC).Cur).Win).Top)), (.slice a92 ((((F_laws_toChan x_aC).Cur).Win).Bits).length c93), (.int .i64 (((F_laws_toChan x_aC).Old).N)), (.slice a97 (((F_laws_toChan x_aC).Old).Key).length c98), (.int .i64 (((F_laws_toChan x_aC).Old).Seq)), (.int .i64 ((((F_laws_toChan x_aC).Old).Win).Top)), (.slice a102 ((((F_laws_toChan x_aC).Old).Win).Bits).length c103), (.bool ((F_laws_toChan x_aC).HasOld)), (.int .i64 ((F_laws_toChan x_aC).Until)), (.slice a107 ((F_laws_toChan x_aC).Next).length c108)]) (F_laws_toChan x_aC) (show R_29 w7 (.agg #[(.int .i64 ((F_laws_toChan x_aC).Role)), (.slice a82 ((F_laws_toChan x_aC).Sn).length c83), (.int .i64 (((F_laws_toChan x_aC).Cur).N)), (.slice a87 (((F_laws_toChan x_aC).Cur).Key).length c88), (.int .i64 (((F_laws_toChan x_aC).Cur).Seq)), (.int .i64 ((((F_laws_toChan x_aC).Cur).Win).Top)), (.slice a92 ((((F_laws_toChan x_aC).Cur).Win).Bits).length c93), (.int .i64 (((F_laws_toChan x_aC).Old).N)), (.slice a97 (((F_laws_toChan x_aC).Old).Key).length c98), (.int .i64 (((F_laws_toChan x_aC).Old).Seq)), (.int .i64 ((((F_laws_toChan x_aC).Old).Win).Top)), (.slice a102 ((((F_laws_toChan x_aC).Old).Win).Bits).length c103), (.bool ((F_laws_toChan x_aC).HasOld)), (.int .i64 ((F_laws_toChan x_aC).Until)), (.slice a107 ((F_laws_toChan x_aC).Next).length c108)]) (F_laws_toChan x_aC) from ⟨_, _, _, _, _, _, _, _, _, _, _, _, rfl, (Rd.of_own o124), s85, (Rd.of_own o125), s90, (Rd.of_own o126), s95, (Rd.of_own o127), s100, (Rd.of_own o128), s105, (Rd.of_own o129), s110⟩)) ?_
    rintro _ w8 ⟨k130, rfl⟩
    have m131 := m123.extk k130
    refine wl_mv (.int .i64 (F_impl_Oldest (F_laws_toChan x_aC))) (want_none rfl) rfl rfl (.inr rfl) rfl ?_
    refine wl_nil ?_
    refine wq_then ?_
    refine wc_seq ?_
    refine wc_seq ?_
    refine wc_region ?_
    refine wl_mv (.int .i64 (F_impl_Oldest (F_laws_toChan x_aC))) (want_none rfl) rfl rfl (.inl rfl) rfl ?_
    refine wl_mv (.int .i64 (F_spec_Oldest (F_laws_toChan x_aC))) (want_none rfl) rfl rfl (.inl rfl) rfl ?_
    refine wl_pure (.bool (!(decide ((F_impl_Oldest (F_laws_toChan x_aC)) = (F_spec_Oldest (F_laws_toChan x_aC)))))) (want_none rfl) rfl rfl (by kernel_rfl) ?_
    refine wl_nil ?_
    refine wq_then ?_
    rcases Bool.eq_false_or_eq_true (decide ((F_impl_Oldest (F_laws_toChan x_aC)) = (F_spec_Oldest (F_laws_toChan x_aC)))) with h132 | h132
    · have q133 := of_decide_eq_true h132
      refine wc_false (congrArg (fun b => Value.bool (!b)) h132) ?_
      refine wc_skip ?_
      refine wq_then ?_
      refine wc_seq ?_
      refine wc_seq ?_
      refine wc_draw ([(22, [], [], (fun _ v _ => v = (.agg #[(.int .i64 ((F_laws_toChan x_aC).Role)), (.slice a82 ((F_laws_toChan x_aC).Sn).length c83), (.int .i64 (((F_laws_toChan x_aC).Cur).N)), (.slice a87 (((F_laws_toChan x_aC).Cur).Key).length c88), (.int .i64 (((F_laws_toChan x_aC).Cur).Seq)), (.int .i64 ((((F_laws_toChan x_aC).Cur).Win).Top)), (.slice a92 ((((F_laws_toChan x_aC).Cur).Win).Bits).length c93), (.int .i64 (((F_laws_toChan x_aC).Old).N)), (.slice a97 (((F_laws_toChan x_aC).Old).Key).length c98), (.int .i64 (((F_laws_toChan x_aC).Old).Seq)), (.int .i64 ((((F_laws_toChan x_aC).Old).Win).Top)), (.slice a102 ((((F_laws_toChan x_aC).Old).Win).Bits).length c103), (.bool ((F_laws_toChan x_aC).HasOld)), (.int .i64 ((F_laws_toChan x_aC).Until)), (.slice a107 ((F_laws_toChan x_aC).Next).length c108)]))), (23, [], [], (fun _ v _ => v = (.agg #[(.int .i64 x_aC.Role), (.slice a1 x_aC.Sn.length c2), (.int .i64 x_aC.Cur.N), (.slice a6 x_aC.Cur.Key.length c7), (.int .i64 x_aC.Cur.Seq), (.int .i64 x_aC.Cur.Win.Top), (.slice a11 x_aC.Cur.Win.Bits.length c12), (.int .i64 x_aC.Old.N), (.slice a16 x_aC.Old.Key.length c17), (.int .i64 x_aC.Old.Seq), (.int .i64 x_aC.Old.Win.Top), (.slice a21 x_aC.Old.Win.Bits.length c22), (.bool x_aC.HasOld), (.int .i64 x_aC.Until), (.slice a26 x_aC.Next.length c27)]))), (24, [], [1], (fun _ v w => ∃ (a1 : Option Addr) (c1 : Nat) (a2 : Option Addr) (c2 : Nat) (a3 : Option Addr) (c3 : Nat) (a4 : Option Addr) (c4 : Nat) (a5 : Option Addr) (c5 : Nat) (a6 : Option Addr) (c6 : Nat), v = .agg #[.int .i64 ((F_laws_toChan x_aC).Role), .slice a1 ((F_laws_toChan x_aC).Sn).length c1, .int .i64 (((F_laws_toChan x_aC).Cur).N), .slice a2 (((F_laws_toChan x_aC).Cur).Key).length c2, .int .i64 (((F_laws_toChan x_aC).Cur).Seq), .int .i64 ((((F_laws_toChan x_aC).Cur).Win).Top), .slice a3 ((((F_laws_toChan x_aC).Cur).Win).Bits).length c3, .int .i64 (((F_laws_toChan x_aC).Old).N), .slice a4 (((F_laws_toChan x_aC).Old).Key).length c4, .int .i64 (((F_laws_toChan x_aC).Old).Seq), .int .i64 ((((F_laws_toChan x_aC).Old).Win).Top), .slice a5 ((((F_laws_toChan x_aC).Old).Win).Bits).length c5, .bool ((F_laws_toChan x_aC).HasOld), .int .i64 ((F_laws_toChan x_aC).Until), .slice a6 ((F_laws_toChan x_aC).Next).length c6] ∧ w.ownsRow (w8.heap.size) 5 1 (.slice a1 ((F_laws_toChan x_aC).Sn).length c1) ((F_laws_toChan x_aC).Sn).length (((F_laws_toChan x_aC).Sn).map bV) ∧ ((F_laws_toChan x_aC).Sn).length ≤ 1073741824 ∧ w.ownsRow (w8.heap.size) 5 1 (.slice a2 (((F_laws_toChan x_aC).Cur).Key).length c2) (((F_laws_toChan x_aC).Cur).Key).length ((((F_laws_toChan x_aC).Cur).Key).map bV) ∧ (((F_laws_toChan x_aC).Cur).Key).length ≤ 1073741824 ∧ w.ownsRow (w8.heap.size) 3 1 (.slice a3 ((((F_laws_toChan x_aC).Cur).Win).Bits).length c3) ((((F_laws_toChan x_aC).Cur).Win).Bits).length (((((F_laws_toChan x_aC).Cur).Win).Bits).map iV) ∧ ((((F_laws_toChan x_aC).Cur).Win).Bits).length ≤ 1073741824 ∧ w.ownsRow (w8.heap.size) 5 1 (.slice a4 (((F_laws_toChan x_aC).Old).Key).length c4) (((F_laws_toChan x_aC).Old).Key).length ((((F_laws_toChan x_aC).Old).Key).map bV) ∧ (((F_laws_toChan x_aC).Old).Key).length ≤ 1073741824 ∧ w.ownsRow (w8.heap.size) 3 1 (.slice a5 ((((F_laws_toChan x_aC).Old).Win).Bits).length c5) ((((F_laws_toChan x_aC).Old).Win).Bits).length (((((F_laws_toChan x_aC).Old).Win).Bits).map iV) ∧ ((((F_laws_toChan x_aC).Old).Win).Bits).length ≤ 1073741824 ∧ w.ownsRow (w8.heap.size) 5 1 (.slice a6 ((F_laws_toChan x_aC).Next).length c6) ((F_laws_toChan x_aC).Next).length (((F_laws_toChan x_aC).Next).map bV) ∧ ((F_laws_toChan x_aC).Next).length ≤ 1073741824 ∧ Aps [(a1, c1), (a2, c2), (a3, c3), (a4, c4), (a5, c5), (a6, c6)])), (25, [], [0, 1, 2], (fun _ v w => v = .bool (F_laws_eqChan (F_laws_toChan x_aC) (F_laws_toChan x_aC)))), (26, [], [0, 1, 2, 3], (fun _ v _ => v = (.bool (!(F_laws_eqChan (F_laws_toChan x_aC) (F_laws_toChan x_aC))))))] : GV) mixed rfl (by kernel_rfl) (by kernel_rfl) ?_ ?_ ?_
      · exact ⟨(fun _ _ _ _ h _ => h), (fun _ _ _ _ _ h => h), ⟨(fun _ _ _ _ h _ => h), (fun _ _ _ _ _ h => h), ⟨(fun e v w w1 h hk => by obtain ⟨a0x, c0x, a1x, c1x, a2x, c2x, a3x, c3x, a4x, c4x, a5x, c5x, he, o0x, l0x, o1x, l1x, o2x, l2x, o3x, l3x, o4x, l4x, o5x, l5x, hap⟩ := h; exact ⟨a0x, c0x, a1x, c1x, a2x, c2x, a3x, c3x, a4x, c4x, a5x, c5x, he, own_kp o0x hk, l0x, own_kp o1x hk, l1x, own_kp o2x hk, l2x, own_kp o3x hk, l3x, own_kp o4x hk, l4x, own_kp o5x hk, l5x, hap⟩), (fun _ _ _ _ _ h => h), ⟨(fun _ _ _ _ h _ => h), (fun _ _ _ _ _ h => h), ⟨(fun _ _ _ _ h _ => h), (fun _ _ _ _ _ h => h), trivial⟩⟩⟩⟩⟩
      · refine ⟨?_, ⟨?_, ⟨?_, ⟨?_, ⟨?_, trivial⟩⟩⟩⟩⟩
        · intro w9 k210
          have m211 := m131.extk k210
          intro u212
          intro u213
          intro u214
          intro u215
          intro u216
          show WL _ _ _ _ _ _ _
          have b217 := ((b121.kp k130).kp k210)
          refine wl_loadN [(.int .i64 ((F_laws_toChan x_aC).Role)), (.slice a82 ((F_laws_toChan x_aC).Sn).length c83), (.int .i64 (((F_laws_toChan x_aC).Cur).N)), (.slice a87 (((F_laws_toChan x_aC).Cur).Key).length c88), (.int .i64 (((F_laws_toChan x_aC).Cur).Seq)), (.int .i64 ((((F_laws_toChan x_aC).Cur).Win).Top)), (.slice a92 ((((F_laws_toChan x_aC).Cur).Win).Bits).length c93), (.int .i64 (((F_laws_toChan x_aC).Old).N)), (.slice a97 (((F_laws_toChan x_aC).Old).Key).length c98), (.int .i64 (((F_laws_toChan x_aC).Old).Seq)), (.int .i64 ((((F_laws_toChan x_aC).Old).Win).Top)), (.slice a102 ((((F_laws_toChan x_aC).Old).Win).Bits).length c103), (.bool ((F_laws_toChan x_aC).HasOld)), (.int .i64 ((F_laws_toChan x_aC).Until)), (.slice a107 ((F_laws_toChan x_aC).Next).length c108)] (want_none rfl) rfl rfl rfl rfl isAgg_29 sizeOf_29 b217 rfl ?_
          exact wl_fin (Ch.refl _ _) rfl
        · intro w9 k218
          have m219 := m131.extk k218
          intro u220
          intro u221
          intro u222
          intro u223
          intro u224
          show WL _ _ _ _ _ _ _
          have b225 := (((((b80.kp k81).kp k117).ch k120 (Nat.ne_of_lt (Nat.lt_of_lt_of_le p33 (Nat.le_trans (Nat.le_trans (Nat.le_trans (Nat.le_trans k37.size k45.size) k78.size) k81.size) p115)))).kp k130).kp k218)
          refine wl_loadN [(.int .i64 x_aC.Role), (.slice a1 x_aC.Sn.length c2), (.int .i64 x_aC.Cur.N), (.slice a6 x_aC.Cur.Key.length c7), (.int .i64 x_aC.Cur.Seq), (.int .i64 x_aC.Cur.Win.Top), (.slice a11 x_aC.Cur.Win.Bits.length c12), (.int .i64 x_aC.Old.N), (.slice a16 x_aC.Old.Key.length c17), (.int .i64 x_aC.Old.Seq), (.int .i64 x_aC.Old.Win.Top), (.slice a21 x_aC.Old.Win.Bits.length c22), (.bool x_aC.HasOld), (.int .i64 x_aC.Until), (.slice a26 x_aC.Next.length c27)] (want_none rfl) rfl rfl rfl rfl isAgg_41 sizeOf_41 b225 rfl ?_
          exact wl_fin (Ch.refl _ _) rfl
        · intro w9 k226
          have m227 := m131.extk k226
          intro u228
          rintro _ rfl
          intro u230
          intro u231
          intro u232
          show WL _ _ _ _ _ _ _
          refine wl_call (want_none rfl) (args := #[(.agg #[(.int .i64 x_aC.Role), (.slice a1 x_aC.Sn.length c2), (.int .i64 x_aC.Cur.N), (.slice a6 x_aC.Cur.Key.length c7), (.int .i64 x_aC.Cur.Seq), (.int .i64 x_aC.Cur.Win.Top), (.slice a11 x_aC.Cur.Win.Bits.length c12), (.int .i64 x_aC.Old.N), (.slice a16 x_aC.Old.Key.length c17), (.int .i64 x_aC.Old.Seq), (.int .i64 x_aC.Old.Win.Top), (.slice a21 x_aC.Old.Win.Bits.length c22), (.bool x_aC.HasOld), (.int .i64 x_aC.Until), (.slice a26 x_aC.Next.length c27)])]) rfl rfl (by kernel_rfl) (C_laws_toChan w9 (.agg #[(.int .i64 x_aC.Role), (.slice a1 x_aC.Sn.length c2), (.int .i64 x_aC.Cur.N), (.slice a6 x_aC.Cur.Key.length c7), (.int .i64 x_aC.Cur.Seq), (.int .i64 x_aC.Cur.Win.Top), (.slice a11 x_aC.Cur.Win.Bits.length c12), (.int .i64 x_aC.Old.N), (.slice a16 x_aC.Old.Key.length c17), (.int .i64 x_aC.Old.Seq), (.int .i64 x_aC.Old.Win.Top), (.slice a21 x_aC.Old.Win.Bits.length c22), (.bool x_aC.HasOld), (.int .i64 x_aC.Until), (.slice a26 x_aC.Next.length c27)]) x_aC (show R_41 w9 (.agg #[(.int .i64 x_aC.Role), (.slice a1 x_aC.Sn.length c2), (.int .i64 x_aC.Cur.N), (.slice a6 x_aC.Cur.Key.length c7), (.int .i64 x_aC.Cur.Seq), (.int .i64 x_aC.Cur.Win.Top), (.slice a11 x_aC.Cur.Win.Bits.length c12), (.int .i64 x_aC.Old.N), (.slice a16 x_aC.Old.Key.length c17), (.int .i64 x_aC.Old.Seq), (.int .i64 x_aC.Old.Win.Top), (.slice a21 x_aC.Old.Win.Bits.length c22), (.bool x_aC.HasOld), (.int .i64 x_aC.Until), (.slice a26 x_aC.Next.length c27)]) x_aC from ⟨_, _, _, _, _, _, _, _, _, _, _, _, rfl, (r3.from0 m227), (by omega), (r8.from0 m227), (by omega), (r13.from0 m227), (by omega), (r18.from0 m227), (by omega), (r23.from0 m227), (by omega), (r28.from0 m227), (by omega)⟩)) ?_
          rintro _ w10 ⟨k233, ⟨a234, c235, a239, c240, a244, c245, a249, c250, a254, c255, a259, c260, rfl, o236, s237, o241, s242, o246, s247, o251, s252, o256, s257, o261, s262, ap264⟩⟩
          have m265 := m227.extk k233
          exact wl_fin k233 ⟨_, _, _, _, _, _, _, _, _, _, _, _, rfl, (own_lo o236 k226.size), s237, (own_lo o241 k226.size), s242, (own_lo o246 k226.size), s247, (own_lo o251 k226.size), s252, (own_lo o256 k226.size), s257, (own_lo o261 k226.size), s262, ap264⟩
        · intro w9 k266
          have m267 := m131.extk k266
          rintro _ rfl
          rintro _ rfl
          rintro _ ⟨a270, c271, a275, c276, a280, c281, a285, c286, a290, c291, a295, c296, rfl, o272, s273, o277, s278, o282, s283, o287, s288, o292, s293, o297, s298, ap300⟩
          intro u301
          intro u302
          show WL _ _ _ _ _ _ _
          have o303 := (own_kp (own_kp o124 k130) k266)
          have o304 := (own_kp (own_kp o125 k130) k266)
          have o305 := (own_kp (own_kp o126 k130) k266)
          have o306 := (own_kp (own_kp o127 k130) k266)
          have o307 := (own_kp (own_kp o128 k130) k266)
          have o308 := (own_kp (own_kp o129 k130) k266)
          refine wl_call (want_none rfl) (args := #[(.agg #[(.int .i64 ((F_laws_toChan x_aC).Role)), (.slice a82 ((F_laws_toChan x_aC).Sn).length c83), (.int .i64 (((F_laws_toChan x_aC).Cur).N)), (.slice a87 (((F_laws_toChan x_aC).Cur).Key).length c88), (.int .i64 (((F_laws_toChan x_aC).Cur).Seq)), (.int .i64 ((((F_laws_toChan x_aC).Cur).Win).Top)), (.slice a92 ((((F_laws_toChan x_aC).Cur).Win).Bits).length c93), (.int .i64 (((F_laws_toChan x_aC).Old).N)), (.slice a97 (((F_laws_toChan x_aC).Old).Key).length c98), (.int .i64 (((F_laws_toChan x_aC).Old).Seq)), (.int .i64 ((((F_laws_toChan x_aC).Old).Win).Top)), (.slice a102 ((((F_laws_toChan x_aC).Old).Win).Bits).length c103), (.bool ((F_laws_toChan x_aC).HasOld)), (.int .i64 ((F_laws_toChan x_aC).Until)), (.slice a107 ((F_laws_toChan x_aC).Next).length c108)]), (.agg #[(.int .i64 ((F_laws_toChan x_aC).Role)), (.slice a270 ((F_laws_toChan x_aC).Sn).length c271), (.int .i64 (((F_laws_toChan x_aC).Cur).N)), (.slice a275 (((F_laws_toChan x_aC).Cur).Key).length c276), (.int .i64 (((F_laws_toChan x_aC).Cur).Seq)), (.int .i64 ((((F_laws_toChan x_aC).Cur).Win).Top)), (.slice a280 ((((F_laws_toChan x_aC).Cur).Win).Bits).length c281), (.int .i64 (((F_laws_toChan x_aC).Old).N)), (.slice a285 (((F_laws_toChan x_aC).Old).Key).length c286), (.int .i64 (((F_laws_toChan x_aC).Old).Seq)), (.int .i64 ((((F_laws_toChan x_aC).Old).Win).Top)), (.slice a290 ((((F_laws_toChan x_aC).Old).Win).Bits).length c291), (.bool ((F_laws_toChan x_aC).HasOld)), (.int .i64 ((F_laws_toChan x_aC).Until)), (.slice a295 ((F_laws_toChan x_aC).Next).length c296)])]) rfl rfl (by kernel_rfl) (C_laws_eqChan w9 (.agg #[(.int .i64 ((F_laws_toChan x_aC).Role)), (.slice a82 ((F_laws_toChan x_aC).Sn).length c83), (.int .i64 (((F_laws_toChan x_aC).Cur).N)), (.slice a87 (((F_laws_toChan x_aC).Cur).Key).length c88), (.int .i64 (((F_laws_toChan x_aC).Cur).Seq)), (.int .i64 ((((F_laws_toChan x_aC).Cur).Win).Top)), (.slice a92 ((((F_laws_toChan x_aC).Cur).Win).Bits).length c93), (.int .i64 (((F_laws_toChan x_aC).Old).N)), (.slice a97 (((F_laws_toChan x_aC).Old).Key).length c98), (.int .i64 (((F_laws_toChan x_aC).Old).Seq)), (.int .i64 ((((F_laws_toChan x_aC).Old).Win).Top)), (.slice a102 ((((F_laws_toChan x_aC).Old).Win).Bits).length c103), (.bool ((F_laws_toChan x_aC).HasOld)), (.int .i64 ((F_laws_toChan x_aC).Until)), (.slice a107 ((F_laws_toChan x_aC).Next).length c108)]) (F_laws_toChan x_aC) (show R_29 w9 (.agg #[(.int .i64 ((F_laws_toChan x_aC).Role)), (.slice a82 ((F_laws_toChan x_aC).Sn).length c83), (.int .i64 (((F_laws_toChan x_aC).Cur).N)), (.slice a87 (((F_laws_toChan x_aC).Cur).Key).length c88), (.int .i64 (((F_laws_toChan x_aC).Cur).Seq)), (.int .i64 ((((F_laws_toChan x_aC).Cur).Win).Top)), (.slice a92 ((((F_laws_toChan x_aC).Cur).Win).Bits).length c93), (.int .i64 (((F_laws_toChan x_aC).Old).N)), (.slice a97 (((F_laws_toChan x_aC).Old).Key).length c98), (.int .i64 (((F_laws_toChan x_aC).Old).Seq)), (.int .i64 ((((F_laws_toChan x_aC).Old).Win).Top)), (.slice a102 ((((F_laws_toChan x_aC).Old).Win).Bits).length c103), (.bool ((F_laws_toChan x_aC).HasOld)), (.int .i64 ((F_laws_toChan x_aC).Until)), (.slice a107 ((F_laws_toChan x_aC).Next).length c108)]) (F_laws_toChan x_aC) from ⟨_, _, _, _, _, _, _, _, _, _, _, _, rfl, (Rd.of_own o303), s85, (Rd.of_own o304), s90, (Rd.of_own o305), s95, (Rd.of_own o306), s100, (Rd.of_own o307), s105, (Rd.of_own o308), s110⟩) (.agg #[(.int .i64 ((F_laws_toChan x_aC).Role)), (.slice a270 ((F_laws_toChan x_aC).Sn).length c271), (.int .i64 (((F_laws_toChan x_aC).Cur).N)), (.slice a275 (((F_laws_toChan x_aC).Cur).Key).length c276), (.int .i64 (((F_laws_toChan x_aC).Cur).Seq)), (.int .i64 ((((F_laws_toChan x_aC).Cur).Win).Top)), (.slice a280 ((((F_laws_toChan x_aC).Cur).Win).Bits).length c281), (.int .i64 (((F_laws_toChan x_aC).Old).N)), (.slice a285 (((F_laws_toChan x_aC).Old).Key).length c286), (.int .i64 (((F_laws_toChan x_aC).Old).Seq)), (.int .i64 ((((F_laws_toChan x_aC).Old).Win).Top)), (.slice a290 ((((F_laws_toChan x_aC).Old).Win).Bits).length c291), (.bool ((F_laws_toChan x_aC).HasOld)), (.int .i64 ((F_laws_toChan x_aC).Until)), (.slice a295 ((F_laws_toChan x_aC).Next).length c296)]) (F_laws_toChan x_aC) (show R_29 w9 (.agg #[(.int .i64 ((F_laws_toChan x_aC).Role)), (.slice a270 ((F_laws_toChan x_aC).Sn).length c271), (.int .i64 (((F_laws_toChan x_aC).Cur).N)), (.slice a275 (((F_laws_toChan x_aC).Cur).Key).length c276), (.int .i64 (((F_laws_toChan x_aC).Cur).Seq)), (.int .i64 ((((F_laws_toChan x_aC).Cur).Win).Top)), (.slice a280 ((((F_laws_toChan x_aC).Cur).Win).Bits).length c281), (.int .i64 (((F_laws_toChan x_aC).Old).N)), (.slice a285 (((F_laws_toChan x_aC).Old).Key).length c286), (.int .i64 (((F_laws_toChan x_aC).Old).Seq)), (.int .i64 ((((F_laws_toChan x_aC).Old).Win).Top)), (.slice a290 ((((F_laws_toChan x_aC).Old).Win).Bits).length c291), (.bool ((F_laws_toChan x_aC).HasOld)), (.int .i64 ((F_laws_toChan x_aC).Until)), (.slice a295 ((F_laws_toChan x_aC).Next).length c296)]) (F_laws_toChan x_aC) from ⟨_, _, _, _, _, _, _, _, _, _, _, _, rfl, (Rd.of_own o272), s273, (Rd.of_own o277), s278, (Rd.of_own o282), s283, (Rd.of_own o287), s288, (Rd.of_own o292), s293, (Rd.of_own o297), s298⟩)) ?_
          rintro _ w10 ⟨k309, rfl⟩
          have m310 := m267.extk k309
          exact wl_fin k309 rfl
        · intro w9 k311
          have m312 := m131.extk k311
          rintro _ rfl
          rintro _ rfl
          rintro _ ⟨a315, c316, a320, c321, a325, c326, a330, c331, a335, c336, a340, c341, rfl, o317, s318, o322, s323, o327, s328, o332, s333, o337, s338, o342, s343, ap345⟩
          rintro _ rfl
          intro u346
          show WL _ _ _ _ _ _ _
          refine wl_pure (.bool (!(F_laws_eqChan (F_laws_toChan x_aC) (F_laws_toChan x_aC)))) (want_none rfl) rfl rfl (by kernel_rfl) ?_
          exact wl_fin (Ch.refl _ _) rfl
      · intro w9 k347
        have m348 := m131.extk k347
        rintro _ rfl
        rintro _ rfl
        rintro _ ⟨a351, c352, a356, c357, a361, c362, a366, c367, a371, c372, a376, c377, rfl, o353, s354, o358, s359, o363, s364, o368, s369, o373, s374, o378, s379, ap381⟩
        rintro _ rfl
        rintro _ rfl
        show WL _ _ _ _ _ _ _
        refine wl_nil ?_
        refine wq_then ?_
        rcases Bool.eq_false_or_eq_true (F_laws_eqChan (F_laws_toChan x_aC) (F_laws_toChan x_aC)) with h382 | h382
        · skip
          refine wc_false (congrArg (fun b => Value.bool (!b)) h382) ?_
          refine wc_skip ?_
          refine wq_then ?_
          refine wc_seq ?_
          refine wc_region ?_
          refine wl_mv (.bool true) (want_none rfl) rfl rfl (.inr rfl) rfl ?_
          refine wl_nil ?_
          refine wq_then ?_
          refine wc_ret ?_
          refine ret_1 (.inl rfl) (.bool true) rfl rfl ?_
          refine ⟨m348.keep0, ?_⟩
          have hF384 : F_laws_FnExactOldest x_aC = true := by simp only [F_laws_FnExactOldest, h40, h132, h382, cond_true, cond_false]
          rw [hF384]
          exact rfl
        · skip
          refine wc_true (congrArg (fun b => Value.bool (!b)) h382) ?_
          refine wc_seq ?_
          refine wc_region ?_
          refine wl_mv (.bool false) (want_none rfl) rfl rfl (.inr rfl) rfl ?_
          refine wl_nil ?_
          refine wq_then ?_
          refine wc_ret ?_
          refine wq_then_ret ?_
          refine ret_1 (.inl rfl) (.bool false) rfl rfl ?_
          refine ⟨m348.keep0, ?_⟩
          have hF386 : F_laws_FnExactOldest x_aC = false := by simp only [F_laws_FnExactOldest, h40, h132, h382, cond_true, cond_false]
          rw [hF386]
          exact rfl
    · have q387 := of_decide_eq_false h132
      refine wc_true (congrArg (fun b => Value.bool (!b)) h132) ?_
      refine wc_seq ?_
      refine wc_region ?_
      refine wl_mv (.bool false) (want_none rfl) rfl rfl (.inr rfl) rfl ?_
      refine wl_nil ?_
      refine wq_then ?_
      refine wc_ret ?_
      refine wq_then_ret ?_
      refine ret_1 (.inl rfl) (.bool false) rfl rfl ?_
      refine ⟨m131.keep0, ?_⟩
      have hF388 : F_laws_FnExactOldest x_aC = false := by simp only [F_laws_FnExactOldest, h40, h132, cond_true, cond_false]
      rw [hF388]
      exact rfl

def O_22_4 (w : World) (lo : Nat) (v : Value) (x : (List UInt8) × (Bool)) : Prop := ∃ (a1 : Option Addr) (c1 : Nat), v = .tuple #[.slice a1 x.1.length c1, .bool x.2] ∧ w.ownsRow lo 5 1 (.slice a1 x.1.length c1) x.1.length (x.1.map bV) ∧ x.1.length ≤ 1073741824 ∧ Aps [(a1, c1)]
def F_spec_KeyFor (x_c : PChan) (x_n : Int) : (List UInt8) × (Bool) := bif (F_spec_ChanOk x_c) then (bif x_c.HasOld then (bif (decide (x_n = x_c.Old.N)) then ((x_c.Old.Key, true)) else (bif (decide (x_n = x_c.Cur.N)) then ((x_c.Cur.Key, true)) else (bif (decide (0 < (x_c.Next.length : Int))) then (bif (decide (x_n = (x_c.Cur.N + 1))) then ((x_c.Next, true)) else (([], false))) else (([], false))))) else (bif (decide (x_n = x_c.Cur.N)) then ((x_c.Cur.Key, true)) else (bif (decide (0 < (x_c.Next.length : Int))) then (bif (decide (x_n = (x_c.Cur.N + 1))) then ((x_c.Next, true)) else (([], false))) else (([], false))))) else (([], false))
theorem C_spec_KeyFor (w0 : World) (v_x_c : Value) (x_c : PChan) (r_x_c : R_29 w0 v_x_c x_c) (x_n : Int)  : Fn Try.prog 29 #[v_x_c, (.int .i64 x_n)] w0 (fun v w' => Keep w0 w' ∧ O_22_4 w' w0.heap.size v (F_spec_KeyFor x_c x_n)) := by
  obtain ⟨a1, c2, a6, c7, a11, c12, a16, c17, a21, c22, a26, c27, rfl, r3, s4, r8, s9, r13, s14, r18, s19, r23, s24, r28, s29⟩ := r_x_c
  refine fn_of (n := 51) (l := [(.agg #[(.int .i64 x_c.Role), (.slice a1 x_c.Sn.length c2), (.int .i64 x_c.Cur.N), (.slice a6 x_c.Cur.Key.length c7), (.int .i64 x_c.Cur.Seq), (.int .i64 x_c.Cur.Win.Top), (.slice a11 x_c.Cur.Win.Bits.length c12), (.int .i64 x_c.Old.N), (.slice a16 x_c.Old.Key.length c17), (.int .i64 x_c.Old.Seq), (.int .i64 x_c.Old.Win.Top), (.slice a21 x_c.Old.Win.Bits.length c22), (.bool x_c.HasOld), (.int .i64 x_c.Until), (.slice a26 x_c.Next.length c27)]), (.int .i64 x_n), undef, undef, undef, undef, undef, undef, undef, undef, undef, undef, undef, undef, undef, undef, undef, undef, undef, undef, undef, undef, undef, undef, undef, undef, undef, undef, undef, undef, undef, undef, undef, undef, undef, undef, undef, undef, undef, undef, undef, undef, undef, undef, undef, undef, undef, undef, undef, undef, undef]) Try.func29 rfl rfl (by kernel_rfl) rfl ?_
  refine wc_seq ?_
  refine wc_region ?_
  refine wl_box (want_none rfl) [(.int .i64 x_c.Role), (.slice a1 x_c.Sn.length c2), (.int .i64 x_c.Cur.N), (.slice a6 x_c.Cur.Key.length c7), (.int .i64 x_c.Cur.Seq), (.int .i64 x_c.Cur.Win.Top), (.slice a11 x_c.Cur.Win.Bits.length c12), (.int .i64 x_c.Old.N), (.slice a16 x_c.Old.Key.length c17), (.int .i64 x_c.Old.Seq), (.int .i64 x_c.Old.Win.Top), (.slice a21 x_c.Old.Win.Bits.length c22), (.bool x_c.HasOld), (.int .i64 x_c.Until), (.slice a26 x_c.Next.length c27)] rfl rfl rfl rfl ?_
  intro g31 w1 p32 p33 k34 b35
  have m36 := (Ch.base w0).extk k34
  refine wl_mv (.slice none 0 0) (want_none rfl) rfl rfl (.inr rfl) rfl ?_
  refine wl_mv (.bool false) (want_none rfl) rfl rfl (.inr rfl) rfl ?_
  refine wl_nil ?_
  refine wq_then ?_
  refine wc_seq ?_
  refine wc_seq ?_
  refine wc_region ?_
  refine wl_loadN [(.int .i64 x_c.Role), (.slice a1 x_c.Sn.length c2), (.int .i64 x_c.Cur.N), (.slice a6 x_c.Cur.Key.length c7), (.int .i64 x_c.Cur.Seq), (.int .i64 x_c.Cur.Win.Top), (.slice a11 x_c.Cur.Win.Bits.length c12), (.int .i64 x_c.Old.N), (.slice a16 x_c.Old.Key.length c17), (.int .i64 x_c.Old.Seq), (.int .i64 x_c.Old.Win.Top), (.slice a21 x_c.Old.Win.Bits.length c22), (.bool x_c.HasOld), (.int .i64 x_c.Until), (.slice a26 x_c.Next.length c27)] (want_none rfl) rfl rfl rfl rfl isAgg_29 sizeOf_29 b35 rfl ?_
  refine wl_call (want_none rfl) (args := #[(.agg #[(.int .i64 x_c.Role), (.slice a1 x_c.Sn.length c2), (.int .i64 x_c.Cur.N), (.slice a6 x_c.Cur.Key.length c7), (.int .i64 x_c.Cur.Seq), (.int .i64 x_c.Cur.Win.Top), (.slice a11 x_c.Cur.Win.Bits.length c12), (.int .i64 x_c.Old.N), (.slice a16 x_c.Old.Key.length c17), (.int .i64 x_c.Old.Seq), (.int .i64 x_c.Old.Win.Top), (.slice a21 x_c.Old.Win.Bits.length c22), (.bool x_c.HasOld), (.int .i64 x_c.Until), (.slice a26 x_c.Next.length c27)])]) rfl rfl (by kernel_rfl) (C_spec_ChanOk w1 (.agg #[(.int .i64 x_c.Role), (.slice a1 x_c.Sn.length c2), (.int .i64 x_c.Cur.N), (.slice a6 x_c.Cur.Key.length c7), (.int .i64 x_c.Cur.Seq), (.int .i64 x_c.Cur.Win.Top), (.slice a11 x_c.Cur.Win.Bits.length c12), (.int .i64 x_c.Old.N), (.slice a16 x_c.Old.Key.length c17), (.int .i64 x_c.Old.Seq), (.int .i64 x_c.Old.Win.Top), (.slice a21 x_c.Old.Win.Bits.length c22), (.bool x_c.HasOld), (.int .i64 x_c.Until), (.slice a26 x_c.Next.length c27)]) x_c (show R_29 w1 (.agg #[(.int .i64 x_c.Role), (.slice a1 x_c.Sn.length c2), (.int .i64 x_c.Cur.N), (.slice a6 x_c.Cur.Key.length c7), (.int .i64 x_c.Cur.Seq), (.int .i64 x_c.Cur.Win.Top), (.slice a11 x_c.Cur.Win.Bits.length c12), (.int .i64 x_c.Old.N), (.slice a16 x_c.Old.Key.length c17), (.int .i64 x_c.Old.Seq), (.int .i64 x_c.Old.Win.Top), (.slice a21 x_c.Old.Win.Bits.length c22), (.bool x_c.HasOld), (.int .i64 x_c.Until), (.slice a26 x_c.Next.length c27)]) x_c from ⟨_, _, _, _, _, _, _, _, _, _, _, _, rfl, (r3.from0 m36), s4, (r8.from0 m36), s9, (r13.from0 m36), s14, (r18.from0 m36), s19, (r23.from0 m36), s24, (r28.from0 m36), s29⟩)) ?_
  rintro _ w2 ⟨k37, rfl⟩
  have m38 := m36.extk k37
  refine wl_pure (.bool (!(F_spec_ChanOk x_c))) (want_none rfl) rfl rfl (by kernel_rfl) ?_
  refine wl_nil ?_
  refine wq_then ?_
  rcases Bool.eq_false_or_eq_true (F_spec_ChanOk x_c) with h39 | h39
  · have q40 := spec_ChanOk_t h39
    refine wc_false (congrArg (fun b => Value.bool (!b)) h39) ?_
    refine wc_skip ?_
    refine wq_then ?_
    refine wc_seq ?_
    refine wc_seq ?_
    refine wc_region ?_
    refine wl_pure (.pointer (some ⟨g31, 12, none⟩)) (want_none rfl) rfl rfl (by kernel_rfl) ?_
    have b41 := (b35.kp k37)
    refine wl_load1 (.bool x_c.HasOld) (want_none rfl) rfl rfl rfl rfl isAgg_4 b41 rfl ?_
    refine wl_mv (.bool x_c.HasOld) (want_none rfl) rfl rfl (.inl rfl) rfl ?_
    rcases Bool.eq_false_or_eq_true x_c.HasOld with h42 | h42
    · skip
      refine wl_mv (.int .i64 x_n) (want_some rfl rfl rfl (congrArg Value.bool h42)) rfl rfl (.inl rfl) rfl ?_
      refine wl_pure (.pointer (some ⟨g31, 7, none⟩)) (want_some rfl rfl rfl (congrArg Value.bool h42)) rfl rfl (by kernel_rfl) ?_
      refine wl_pure (.pointer (some ⟨g31, 7, none⟩)) (want_some rfl rfl rfl (congrArg Value.bool h42)) rfl rfl (by kernel_rfl) ?_
      refine wl_load1 (.int .i64 x_c.Old.N) (want_some rfl rfl rfl (congrArg Value.bool h42)) rfl rfl rfl rfl isAgg_3 b41 rfl ?_
      refine wl_pure (.bool (decide (x_n = x_c.Old.N))) (want_some rfl rfl rfl (congrArg Value.bool h42)) rfl rfl (by kernel_rfl) ?_
      refine wl_pick_t (.bool (decide (x_n = x_c.Old.N))) (want_none rfl) rfl rfl rfl (congrArg Value.bool h42) rfl ?_
      refine wl_nil ?_
      refine wq_then ?_
      rcases Bool.eq_false_or_eq_true (decide (x_n = x_c.Old.N)) with h44 | h44
      · have q45 := of_decide_eq_true h44
        refine wc_true (congrArg Value.bool h44) ?_
        refine wc_seq ?_
        refine wc_region ?_
        refine wl_lit0 (want_none rfl) rfl rfl slTy_22 (fun w => by kernel_rfl) ?_
        intro a46 w3 k47 o48
        have m49 := m38.extk k47
        refine wl_pure (.pointer (some ⟨g31, 7, none⟩)) (want_none rfl) rfl rfl (by kernel_rfl) ?_
        refine wl_pure (.pointer (some ⟨g31, 8, none⟩)) (want_none rfl) rfl rfl (by kernel_rfl) ?_
        have b51 := (b41.kp k47)
        refine wl_load1 (.slice a16 x_c.Old.Key.length c17) (want_none rfl) rfl rfl rfl rfl isAgg_22 b51 rfl ?_
        refine wl_append0 (want_none rfl) rfl rfl rfl slTy_22 rfl rfl o48 (r18.from0 m49) (all_bV _) (by (try simp only [List.length_append, List.length_cons, List.length_nil]); omega) (by simp only [maxLen]; (try simp only [List.length_append, List.length_cons, List.length_nil]); omega) k47.size ?_
        intro u52 w4 k53 o54 j55
        obtain ⟨a56, c57, rfl⟩ := own_form o54
        have n58 : New w3 a56 c57 := j55 _ _ rfl
        have m59 := m49.extk k53
        refine wl_mv (.slice a56 x_c.Old.Key.length c57) (want_none rfl) rfl rfl (.inr rfl) rfl ?_
        refine wl_mv (.bool true) (want_none rfl) rfl rfl (.inr rfl) rfl ?_
        refine wl_nil ?_
        refine wq_then ?_
        refine wc_ret ?_
        refine wq_then_ret ?_
        refine ret_2 (.inl rfl) (.slice a56 x_c.Old.Key.length c57) (.bool true) rfl rfl rfl ?_
        refine ⟨m59.keep0, ?_⟩
        have hF61 : F_spec_KeyFor x_c x_n = (x_c.Old.Key, true) := by simp only [F_spec_KeyFor, h39, h42, h44, cond_true, cond_false]
        rw [hF61]
        exact ⟨_, _, rfl, (own_lo o54 (Nat.le_trans k34.size k37.size)), s19, ⟨trivial, trivial⟩⟩
      · have q62 := of_decide_eq_false h44
        refine wc_false (congrArg Value.bool h44) ?_
        refine wc_skip ?_
        refine wq_then ?_
        refine wc_seq ?_
        refine wc_seq ?_
        refine wc_region ?_
        refine wl_mv (.int .i64 x_n) (want_none rfl) rfl rfl (.inl rfl) rfl ?_
        refine wl_pure (.pointer (some ⟨g31, 2, none⟩)) (want_none rfl) rfl rfl (by kernel_rfl) ?_
        refine wl_pure (.pointer (some ⟨g31, 2, none⟩)) (want_none rfl) rfl rfl (by kernel_rfl) ?_
        refine wl_load1 (.int .i64 x_c.Cur.N) (want_none rfl) rfl rfl rfl rfl isAgg_3 b41 rfl ?_
        refine wl_pure (.bool (decide (x_n = x_c.Cur.N))) (want_none rfl) rfl rfl (by kernel_rfl) ?_
        refine wl_nil ?_
        refine wq_then ?_
        rcases Bool.eq_false_or_eq_true (decide (x_n = x_c.Cur.N)) with h63 | h63
        · have q64 := of_decide_eq_true h63
          refine wc_true (congrArg Value.bool h63) ?_
          refine wc_seq ?_
          refine wc_region ?_
          refine wl_lit0 (want_none rfl) rfl rfl slTy_22 (fun w => by kernel_rfl) ?_
          intro a65 w3 k66 o67
          have m68 := m38.extk k66
          refine wl_pure (.pointer (some ⟨g31, 2, none⟩)) (want_none rfl) rfl rfl (by kernel_rfl) ?_
          refine wl_pure (.pointer (some ⟨g31, 3, none⟩)) (want_none rfl) rfl rfl (by kernel_rfl) ?_
          have b70 := (b41.kp k66)
          refine wl_load1 (.slice a6 x_c.Cur.Key.length c7) (want_none rfl) rfl rfl rfl rfl isAgg_22 b70 rfl ?_
          refine wl_append0 (want_none rfl) rfl rfl rfl slTy_22 rfl rfl o67 (r8.from0 m68) (all_bV _) (by (try simp only [List.length_append, List.length_cons, List.length_nil]); omega) (by simp only [maxLen]; (try simp only [List.length_append, List.length_cons, List.length_nil]); omega) k66.size ?_
          intro u71 w4 k72 o73 j74
          obtain ⟨a75, c76, rfl⟩ := own_form o73
          have n77 : New w3 a75 c76 := j74 _ _ rfl
          have m78 := m68.extk k72
          refine wl_mv (.slice a75 x_c.Cur.Key.length c76) (want_none rfl) rfl rfl (.inr rfl) rfl ?_
          refine wl_mv (.bool true) (want_none rfl) rfl rfl (.inr rfl) rfl ?_
          refine wl_nil ?_
          refine wq_then ?_
          refine wc_ret ?_
          refine wq_then_ret ?_
          refine ret_2 (.inl rfl) (.slice a75 x_c.Cur.Key.length c76) (.bool true) rfl rfl rfl ?_
          refine ⟨m78.keep0, ?_⟩
          have hF80 : F_spec_KeyFor x_c x_n = (x_c.Cur.Key, true) := by simp only [F_spec_KeyFor, h39, h42, h44, h63, cond_true, cond_false]
          rw [hF80]
          exact ⟨_, _, rfl, (own_lo o73 (Nat.le_trans k34.size k37.size)), s9, ⟨trivial, trivial⟩⟩
        · have q81 := of_decide_eq_false h63
          refine wc_false (congrArg Value.bool h63) ?_
          refine wc_skip ?_
          refine wq_then ?_
          refine wc_seq ?_
          refine wc_seq ?_
          refine wc_region ?_
          refine wl_pure (.pointer (some ⟨g31, 14, none⟩)) (want_none rfl) rfl rfl (by kernel_rfl) ?_
          refine wl_load1 (.slice a26 x_c.Next.length c27) (want_none rfl) rfl rfl rfl rfl isAgg_22 b41 rfl ?_
          refine wl_len (want_none rfl) rfl rfl rfl slTy_22 rfl (r28.from0 m38) ?_
          refine wl_pure (.bool (decide (0 < (x_c.Next.length : Int)))) (want_none rfl) rfl rfl (by kernel_rfl) ?_
          refine wl_mv (.bool (decide (0 < (x_c.Next.length : Int)))) (want_none rfl) rfl rfl (.inl rfl) rfl ?_
          rcases Bool.eq_false_or_eq_true (decide (0 < (x_c.Next.length : Int))) with h82 | h82
          · have q83 := of_decide_eq_true h82
            refine wl_mv (.int .i64 x_n) (want_some rfl rfl rfl (congrArg Value.bool h82)) rfl rfl (.inl rfl) rfl ?_
            refine wl_pure (.pointer (some ⟨g31, 2, none⟩)) (want_some rfl rfl rfl (congrArg Value.bool h82)) rfl rfl (by kernel_rfl) ?_
            refine wl_pure (.pointer (some ⟨g31, 2, none⟩)) (want_some rfl rfl rfl (congrArg Value.bool h82)) rfl rfl (by kernel_rfl) ?_
            refine wl_load1 (.int .i64 x_c.Cur.N) (want_some rfl rfl rfl (congrArg Value.bool h82)) rfl rfl rfl rfl isAgg_3 b41 rfl ?_
            refine wl_arith (x_c.Cur.N + 1) (want_some rfl rfl rfl (congrArg Value.bool h82)) rfl rfl (by kernel_rfl) (by omega) (by omega) ?_
            refine wl_pure (.bool (decide (x_n = (x_c.Cur.N + 1)))) (want_some rfl rfl rfl (congrArg Value.bool h82)) rfl rfl (by kernel_rfl) ?_
            refine wl_pick_t (.bool (decide (x_n = (x_c.Cur.N + 1)))) (want_none rfl) rfl rfl rfl (congrArg Value.bool h82) rfl ?_
            refine wl_nil ?_
            refine wq_then ?_
            rcases Bool.eq_false_or_eq_true (decide (x_n = (x_c.Cur.N + 1))) with h84 | h84
            · have q85 := of_decide_eq_true h84
              refine wc_true (congrArg Value.bool h84) ?_
              refine wc_seq ?_
              refine wc_region ?_
              refine wl_lit0 (want_none rfl) rfl rfl slTy_22 (fun w => by kernel_rfl) ?_
              intro a86 w3 k87 o88
              have m89 := m38.extk k87
              refine wl_pure (.pointer (some ⟨g31, 14, none⟩)) (want_none rfl) rfl rfl (by kernel_rfl) ?_
              have b91 := (b41.kp k87)
              refine wl_load1 (.slice a26 x_c.Next.length c27) (want_none rfl) rfl rfl rfl rfl isAgg_22 b91 rfl ?_
              refine wl_append0 (want_none rfl) rfl rfl rfl slTy_22 rfl rfl o88 (r28.from0 m89) (all_bV _) (by (try simp only [List.length_append, List.length_cons, List.length_nil]); omega) (by simp only [maxLen]; (try simp only [List.length_append, List.length_cons, List.length_nil]); omega) k87.size ?_
              intro u92 w4 k93 o94 j95
              obtain ⟨a96, c97, rfl⟩ := own_form o94
              have n98 : New w3 a96 c97 := j95 _ _ rfl
              have m99 := m89.extk k93
              refine wl_mv (.slice a96 x_c.Next.length c97) (want_none rfl) rfl rfl (.inr rfl) rfl ?_
              refine wl_mv (.bool true) (want_none rfl) rfl rfl (.inr rfl) rfl ?_
              refine wl_nil ?_
              refine wq_then ?_
              refine wc_ret ?_
              refine wq_then_ret ?_
              refine ret_2 (.inl rfl) (.slice a96 x_c.Next.length c97) (.bool true) rfl rfl rfl ?_
              refine ⟨m99.keep0, ?_⟩
              have hF101 : F_spec_KeyFor x_c x_n = (x_c.Next, true) := by simp only [F_spec_KeyFor, h39, h42, h44, h63, h82, h84, cond_true, cond_false]
              rw [hF101]
              exact ⟨_, _, rfl, (own_lo o94 (Nat.le_trans k34.size k37.size)), s29, ⟨trivial, trivial⟩⟩
            · have q102 := of_decide_eq_false h84
              refine wc_false (congrArg Value.bool h84) ?_
              refine wc_skip ?_
              refine wq_then ?_
              refine wc_seq ?_
              refine wc_region ?_
              refine wl_lit0 (want_none rfl) rfl rfl slTy_22 (fun w => by kernel_rfl) ?_
              intro a103 w3 k104 o105
              have m106 := m38.extk k104
              refine wl_mv (.slice (some a103) 0 0) (want_none rfl) rfl rfl (.inr rfl) rfl ?_
              refine wl_mv (.bool false) (want_none rfl) rfl rfl (.inr rfl) rfl ?_
              refine wl_nil ?_
              refine wq_then ?_
              refine wc_ret ?_
              refine ret_2 (.inl rfl) (.slice (some a103) 0 0) (.bool false) rfl rfl rfl ?_
              refine ⟨m106.keep0, ?_⟩
              have hF108 : F_spec_KeyFor x_c x_n = ([], false) := by simp only [F_spec_KeyFor, h39, h42, h44, h63, h82, h84, cond_true, cond_false]
              rw [hF108]
              exact ⟨_, _, rfl, (own_lo o105 (Nat.le_trans k34.size k37.size)), (by simp), ⟨trivial, trivial⟩⟩
          · have q109 := of_decide_eq_false h82
            refine wl_skip rfl rfl rfl (congrArg Value.bool h82) rfl rfl rfl ?_
            refine wl_skip rfl rfl rfl (congrArg Value.bool h82) rfl rfl rfl ?_
            refine wl_skip rfl rfl rfl (congrArg Value.bool h82) rfl rfl rfl ?_
            refine wl_skip rfl rfl rfl (congrArg Value.bool h82) rfl rfl rfl ?_
            refine wl_skip rfl rfl rfl (congrArg Value.bool h82) rfl rfl rfl ?_
            refine wl_skip rfl rfl rfl (congrArg Value.bool h82) rfl rfl rfl ?_
            refine wl_pick_f (.bool false) (want_none rfl) rfl rfl rfl (congrArg Value.bool h82) rfl ?_
            refine wl_nil ?_
            refine wq_then ?_
            refine wc_false rfl ?_
            refine wc_skip ?_
            refine wq_then ?_
            refine wc_seq ?_
            refine wc_region ?_
            refine wl_lit0 (want_none rfl) rfl rfl slTy_22 (fun w => by kernel_rfl) ?_
            intro a110 w3 k111 o112
            have m113 := m38.extk k111
            refine wl_mv (.slice (some a110) 0 0) (want_none rfl) rfl rfl (.inr rfl) rfl ?_
            refine wl_mv (.bool false) (want_none rfl) rfl rfl (.inr rfl) rfl ?_
            refine wl_nil ?_
            refine wq_then ?_
            refine wc_ret ?_
            refine ret_2 (.inl rfl) (.slice (some a110) 0 0) (.bool false) rfl rfl rfl ?_
            refine ⟨m113.keep0, ?_⟩
            have hF115 : F_spec_KeyFor x_c x_n = ([], false) := by simp only [F_spec_KeyFor, h39, h42, h44, h63, h82, cond_true, cond_false]
            rw [hF115]
            exact ⟨_, _, rfl, (own_lo o112 (Nat.le_trans k34.size k37.size)), (by simp), ⟨trivial, trivial⟩⟩
    · skip
      refine wl_skip rfl rfl rfl (congrArg Value.bool h42) rfl rfl rfl ?_
      refine wl_skip rfl rfl rfl (congrArg Value.bool h42) rfl rfl rfl ?_
      refine wl_skip rfl rfl rfl (congrArg Value.bool h42) rfl rfl rfl ?_
      refine wl_skip rfl rfl rfl (congrArg Value.bool h42) rfl rfl rfl ?_
      refine wl_skip rfl rfl rfl (congrArg Value.bool h42) rfl rfl rfl ?_
      refine wl_pick_f (.bool false) (want_none rfl) rfl rfl rfl (congrArg Value.bool h42) rfl ?_
      refine wl_nil ?_
      refine wq_then ?_
      refine wc_false rfl ?_
      refine wc_skip ?_
      refine wq_then ?_
      refine wc_seq ?_
      refine wc_seq ?_
      refine wc_region ?_
      refine wl_mv (.int .i64 x_n) (want_none rfl) rfl rfl (.inl rfl) rfl ?_
      refine wl_pure (.pointer (some ⟨g31, 2, none⟩)) (want_none rfl) rfl rfl (by kernel_rfl) ?_
      refine wl_pure (.pointer (some ⟨g31, 2, none⟩)) (want_none rfl) rfl rfl (by kernel_rfl) ?_
      refine wl_load1 (.int .i64 x_c.Cur.N) (want_none rfl) rfl rfl rfl rfl isAgg_3 b41 rfl ?_
      refine wl_pure (.bool (decide (x_n = x_c.Cur.N))) (want_none rfl) rfl rfl (by kernel_rfl) ?_
      refine wl_nil ?_
      refine wq_then ?_
      rcases Bool.eq_false_or_eq_true (decide (x_n = x_c.Cur.N)) with h117 | h117
      · have q118 := of_decide_eq_true h117
        refine wc_true (congrArg Value.bool h117) ?_
        refine wc_seq ?_
        refine wc_region ?_
        refine wl_lit0 (want_none rfl) rfl rfl slTy_22 (fun w => by kernel_rfl) ?_
        intro a119 w3 k120 o121
        have m122 := m38.extk k120
        refine wl_pure (.pointer (some ⟨g31, 2, none⟩)) (want_none rfl) rfl rfl (by kernel_rfl) ?_
        refine wl_pure (.pointer (some ⟨g31, 3, none⟩)) (want_none rfl) rfl rfl (by kernel_rfl) ?_
        have b124 := (b41.kp k120)
        refine wl_load1 (.slice a6 x_c.Cur.Key.length c7) (want_none rfl) rfl rfl rfl rfl isAgg_22 b124 rfl ?_
        refine wl_append0 (want_none rfl) rfl rfl rfl slTy_22 rfl rfl o121 (r8.from0 m122) (all_bV _) (by (try simp only [List.length_append, List.length_cons, List.length_nil]); omega) (by simp only [maxLen]; (try simp only [List.length_append, List.length_cons, List.length_nil]); omega) k120.size ?_
        intro u125 w4 k126 o127 j128
        obtain ⟨a129, c130, rfl⟩ := own_form o127
        have n131 : New w3 a129 c130 := j128 _ _ rfl
        have m132 := m122.extk k126
        refine wl_mv (.slice a129 x_c.Cur.Key.length c130) (want_none rfl) rfl rfl (.inr rfl) rfl ?_
        refine wl_mv (.bool true) (want_none rfl) rfl rfl (.inr rfl) rfl ?_
        refine wl_nil ?_
        refine wq_then ?_
        refine wc_ret ?_
        refine wq_then_ret ?_
        refine ret_2 (.inl rfl) (.slice a129 x_c.Cur.Key.length c130) (.bool true) rfl rfl rfl ?_
        refine ⟨m132.keep0, ?_⟩
        have hF134 : F_spec_KeyFor x_c x_n = (x_c.Cur.Key, true) := by simp only [F_spec_KeyFor, h39, h42, h117, cond_true, cond_false]
        rw [hF134]
        exact ⟨_, _, rfl, (own_lo o127 (Nat.le_trans k34.size k37.size)), s9, ⟨trivial, trivial⟩⟩
      · have q135 := of_decide_eq_false h117
        refine wc_false (congrArg Value.bool h117) ?_
        refine wc_skip ?_
        refine wq_then ?_
        refine wc_seq ?_
        refine wc_seq ?_
        refine wc_region ?_
        refine wl_pure (.pointer (some ⟨g31, 14, none⟩)) (want_none rfl) rfl rfl (by kernel_rfl) ?_
        refine wl_load1 (.slice a26 x_c.Next.length c27) (want_none rfl) rfl rfl rfl rfl isAgg_22 b41 rfl ?_
        refine wl_len (want_none rfl) rfl rfl rfl slTy_22 rfl (r28.from0 m38) ?_
        refine wl_pure (.bool (decide (0 < (x_c.Next.length : Int)))) (want_none rfl) rfl rfl (by kernel_rfl) ?_
        refine wl_mv (.bool (decide (0 < (x_c.Next.length : Int)))) (want_none rfl) rfl rfl (.inl rfl) rfl ?_
        rcases Bool.eq_false_or_eq_true (decide (0 < (x_c.Next.length : Int))) with h136 | h136
        · have q137 := of_decide_eq_true h136
          refine wl_mv (.int .i64 x_n) (want_some rfl rfl rfl (congrArg Value.bool h136)) rfl rfl (.inl rfl) rfl ?_
          refine wl_pure (.pointer (some ⟨g31, 2, none⟩)) (want_some rfl rfl rfl (congrArg Value.bool h136)) rfl rfl (by kernel_rfl) ?_
          refine wl_pure (.pointer (some ⟨g31, 2, none⟩)) (want_some rfl rfl rfl (congrArg Value.bool h136)) rfl rfl (by kernel_rfl) ?_
          refine wl_load1 (.int .i64 x_c.Cur.N) (want_some rfl rfl rfl (congrArg Value.bool h136)) rfl rfl rfl rfl isAgg_3 b41 rfl ?_
          refine wl_arith (x_c.Cur.N + 1) (want_some rfl rfl rfl (congrArg Value.bool h136)) rfl rfl (by kernel_rfl) (by omega) (by omega) ?_
          refine wl_pure (.bool (decide (x_n = (x_c.Cur.N + 1)))) (want_some rfl rfl rfl (congrArg Value.bool h136)) rfl rfl (by kernel_rfl) ?_
          refine wl_pick_t (.bool (decide (x_n = (x_c.Cur.N + 1)))) (want_none rfl) rfl rfl rfl (congrArg Value.bool h136) rfl ?_
          refine wl_nil ?_
          refine wq_then ?_
          rcases Bool.eq_false_or_eq_true (decide (x_n = (x_c.Cur.N + 1))) with h138 | h138
          · have q139 := of_decide_eq_true h138
            refine wc_true (congrArg Value.bool h138) ?_
            refine wc_seq ?_
            refine wc_region ?_
            refine wl_lit0 (want_none rfl) rfl rfl slTy_22 (fun w => by kernel_rfl) ?_
            intro a140 w3 k141 o142
            have m143 := m38.extk k141
            refine wl_pure (.pointer (some ⟨g31, 14, none⟩)) (want_none rfl) rfl rfl (by kernel_rfl) ?_
            have b145 := (b41.kp k141)
            refine wl_load1 (.slice a26 x_c.Next.length c27) (want_none rfl) rfl rfl rfl rfl isAgg_22 b145 rfl ?_
            refine wl_append0 (want_none rfl) rfl rfl rfl slTy_22 rfl rfl o142 (r28.from0 m143) (all_bV _) (by (try simp only [List.length_append, List.length_cons, List.length_nil]); omega) (by simp only [maxLen]; (try simp only [List.length_append, List.length_cons, List.length_nil]); omega) k141.size ?_
            intro u146 w4 k147 o148 j149
            obtain ⟨a150, c151, rfl⟩ := own_form o148
            have n152 : New w3 a150 c151 := j149 _ _ rfl
            have m153 := m143.extk k147
            refine wl_mv (.slice a150 x_c.Next.length c151) (want_none rfl) rfl rfl (.inr rfl) rfl ?_
            refine wl_mv (.bool true) (want_none rfl) rfl rfl (.inr rfl) rfl ?_
            refine wl_nil ?_
            refine wq_then ?_
            refine wc_ret ?_
            refine wq_then_ret ?_
            refine ret_2 (.inl rfl) (.slice a150 x_c.Next.length c151) (.bool true) rfl rfl rfl ?_
            refine ⟨m153.keep0, ?_⟩
            have hF155 : F_spec_KeyFor x_c x_n = (x_c.Next, true) := by simp only [F_spec_KeyFor, h39, h42, h117, h136, h138, cond_true, cond_false]
            rw [hF155]
            exact ⟨_, _, rfl, (own_lo o148 (Nat.le_trans k34.size k37.size)), s29, ⟨trivial, trivial⟩⟩
          · have q156 := of_decide_eq_false h138
            refine wc_false (congrArg Value.bool h138) ?_
            refine wc_skip ?_
            refine wq_then ?_
            refine wc_seq ?_
            refine wc_region ?_
            refine wl_lit0 (want_none rfl) rfl rfl slTy_22 (fun w => by kernel_rfl) ?_
            intro a157 w3 k158 o159
            have m160 := m38.extk k158
            refine wl_mv (.slice (some a157) 0 0) (want_none rfl) rfl rfl (.inr rfl) rfl ?_
            refine wl_mv (.bool false) (want_none rfl) rfl rfl (.inr rfl) rfl ?_
            refine wl_nil ?_
            refine wq_then ?_
            refine wc_ret ?_
            refine ret_2 (.inl rfl) (.slice (some a157) 0 0) (.bool false) rfl rfl rfl ?_
            refine ⟨m160.keep0, ?_⟩
            have hF162 : F_spec_KeyFor x_c x_n = ([], false) := by simp only [F_spec_KeyFor, h39, h42, h117, h136, h138, cond_true, cond_false]
            rw [hF162]
            exact ⟨_, _, rfl, (own_lo o159 (Nat.le_trans k34.size k37.size)), (by simp), ⟨trivial, trivial⟩⟩
        · have q163 := of_decide_eq_false h136
          refine wl_skip rfl rfl rfl (congrArg Value.bool h136) rfl rfl rfl ?_
          refine wl_skip rfl rfl rfl (congrArg Value.bool h136) rfl rfl rfl ?_
          refine wl_skip rfl rfl rfl (congrArg Value.bool h136) rfl rfl rfl ?_
          refine wl_skip rfl rfl rfl (congrArg Value.bool h136) rfl rfl rfl ?_
          refine wl_skip rfl rfl rfl (congrArg Value.bool h136) rfl rfl rfl ?_
          refine wl_skip rfl rfl rfl (congrArg Value.bool h136) rfl rfl rfl ?_
          refine wl_pick_f (.bool false) (want_none rfl) rfl rfl rfl (congrArg Value.bool h136) rfl ?_
          refine wl_nil ?_
          refine wq_then ?_
          refine wc_false rfl ?_
          refine wc_skip ?_
          refine wq_then ?_
          refine wc_seq ?_
          refine wc_region ?_
          refine wl_lit0 (want_none rfl) rfl rfl slTy_22 (fun w => by kernel_rfl) ?_
          intro a164 w3 k165 o166
          have m167 := m38.extk k165
          refine wl_mv (.slice (some a164) 0 0) (want_none rfl) rfl rfl (.inr rfl) rfl ?_
          refine wl_mv (.bool false) (want_none rfl) rfl rfl (.inr rfl) rfl ?_
          refine wl_nil ?_
          refine wq_then ?_
          refine wc_ret ?_
          refine ret_2 (.inl rfl) (.slice (some a164) 0 0) (.bool false) rfl rfl rfl ?_
          refine ⟨m167.keep0, ?_⟩
          have hF169 : F_spec_KeyFor x_c x_n = ([], false) := by simp only [F_spec_KeyFor, h39, h42, h117, h136, cond_true, cond_false]
          rw [hF169]
          exact ⟨_, _, rfl, (own_lo o166 (Nat.le_trans k34.size k37.size)), (by simp), ⟨trivial, trivial⟩⟩
  · skip
    refine wc_true (congrArg (fun b => Value.bool (!b)) h39) ?_
    refine wc_seq ?_
    refine wc_region ?_
    refine wl_lit0 (want_none rfl) rfl rfl slTy_22 (fun w => by kernel_rfl) ?_
    intro a171 w3 k172 o173
    have m174 := m38.extk k172
    refine wl_mv (.slice (some a171) 0 0) (want_none rfl) rfl rfl (.inr rfl) rfl ?_
    refine wl_mv (.bool false) (want_none rfl) rfl rfl (.inr rfl) rfl ?_
    refine wl_nil ?_
    refine wq_then ?_
    refine wc_ret ?_
    refine wq_then_ret ?_
    refine ret_2 (.inl rfl) (.slice (some a171) 0 0) (.bool false) rfl rfl rfl ?_
    refine ⟨m174.keep0, ?_⟩
    have hF176 : F_spec_KeyFor x_c x_n = ([], false) := by simp only [F_spec_KeyFor, h39, cond_true, cond_false]
    rw [hF176]
    exact ⟨_, _, rfl, (own_lo o173 (Nat.le_trans k34.size k37.size)), (by simp), ⟨trivial, trivial⟩⟩

def F_impl_clone (x_b : List UInt8) : (List UInt8) := x_b
theorem C_impl_clone (w0 : World) (v_x_b : Value) (x_b : List UInt8) (r_x_b : R_22 w0 v_x_b x_b)  : Fn Try.prog 69 #[v_x_b] w0 (fun v w' => Keep w0 w' ∧ O_22 w' w0.heap.size v (F_impl_clone x_b)) := by
  obtain ⟨a1, c2, rfl, r3, s4⟩ := r_x_b
  refine fn_of (n := 6) (l := [(.slice a1 x_b.length c2), undef, undef, undef, undef, undef]) Try.func69 rfl rfl (by kernel_rfl) rfl ?_
  refine wc_seq ?_
  refine wc_region ?_
  refine wl_mv (.slice none 0 0) (want_none rfl) rfl rfl (.inr rfl) rfl ?_
  refine wl_nil ?_
  refine wq_then ?_
  refine wc_seq ?_
  refine wc_region ?_
  refine wl_lit0 (want_none rfl) rfl rfl slTy_22 (fun w => by kernel_rfl) ?_
  intro a6 w1 k7 o8
  have m9 := (Ch.base w0).extk k7
  refine wl_mv (.slice a1 x_b.length c2) (want_none rfl) rfl rfl (.inl rfl) rfl ?_
  refine wl_append0 (want_none rfl) rfl rfl rfl slTy_22 rfl rfl o8 (r3.from0 m9) (all_bV _) (by (try simp only [List.length_append, List.length_cons, List.length_nil]); omega) (by simp only [maxLen]; (try simp only [List.length_append, List.length_cons, List.length_nil]); omega) k7.size ?_
  intro u11 w2 k12 o13 j14
  obtain ⟨a15, c16, rfl⟩ := own_form o13
  have n17 : New w1 a15 c16 := j14 _ _ rfl
  have m18 := m9.extk k12
  refine wl_mv (.slice a15 x_b.length c16) (want_none rfl) rfl rfl (.inr rfl) rfl ?_
  refine wl_nil ?_
  refine wq_then ?_
  refine wc_ret ?_
  refine ret_1 (.inl rfl) (.slice a15 x_b.length c16) rfl rfl ?_
  refine ⟨m18.keep0, ?_⟩
  have hF20 : F_impl_clone x_b = x_b := by rfl
  rw [hF20]
  exact ⟨_, _, rfl, o13, s4, ⟨trivial, trivial⟩⟩

def F_impl_KeyFor (x_c : PChan) (x_n : Int) : (List UInt8) × (Bool) := bif (F_impl_ChanOk x_c) then (bif x_c.HasOld then (bif (decide (x_n = x_c.Old.N)) then (((F_impl_clone x_c.Old.Key), true)) else (bif (decide (x_n = x_c.Cur.N)) then (((F_impl_clone x_c.Cur.Key), true)) else (bif (decide (0 < (x_c.Next.length : Int))) then (bif (decide (x_n = (x_c.Cur.N + 1))) then (((F_impl_clone x_c.Next), true)) else (([], false))) else (([], false))))) else (bif (decide (x_n = x_c.Cur.N)) then (((F_impl_clone x_c.Cur.Key), true)) else (bif (decide (0 < (x_c.Next.length : Int))) then (bif (decide (x_n = (x_c.Cur.N + 1))) then (((F_impl_clone x_c.Next), true)) else (([], false))) else (([], false))))) else (([], false))
theorem C_impl_KeyFor (w0 : World) (v_x_c : Value) (x_c : PChan) (r_x_c : R_29 w0 v_x_c x_c) (x_n : Int)  : Fn Try.prog 30 #[v_x_c, (.int .i64 x_n)] w0 (fun v w' => Keep w0 w' ∧ O_22_4 w' w0.heap.size v (F_impl_KeyFor x_c x_n)) := by
  obtain ⟨a1, c2, a6, c7, a11, c12, a16, c17, a21, c22, a26, c27, rfl, r3, s4, r8, s9, r13, s14, r18, s19, r23, s24, r28, s29⟩ := r_x_c
  refine fn_of (n := 50) (l := [(.agg #[(.int .i64 x_c.Role), (.slice a1 x_c.Sn.length c2), (.int .i64 x_c.Cur.N), (.slice a6 x_c.Cur.Key.length c7), (.int .i64 x_c.Cur.Seq), (.int .i64 x_c.Cur.Win.Top), (.slice a11 x_c.Cur.Win.Bits.length c12), (.int .i64 x_c.Old.N), (.slice a16 x_c.Old.Key.length c17), (.int .i64 x_c.Old.Seq), (.int .i64 x_c.Old.Win.Top), (.slice a21 x_c.Old.Win.Bits.length c22), (.bool x_c.HasOld), (.int .i64 x_c.Until), (.slice a26 x_c.Next.length c27)]), (.int .i64 x_n), undef, undef, undef, undef, undef, undef, undef, undef, undef, undef, undef, undef, undef, undef, undef, undef, undef, undef, undef, undef, undef, undef, undef, undef, undef, undef, undef, undef, undef, undef, undef, undef, undef, undef, undef, undef, undef, undef, undef, undef, undef, undef, undef, undef, undef, undef, undef, undef]) Try.func30 rfl rfl (by kernel_rfl) rfl ?_
  refine wc_seq ?_
  refine wc_region ?_
  refine wl_box (want_none rfl) [(.int .i64 x_c.Role), (.slice a1 x_c.Sn.length c2), (.int .i64 x_c.Cur.N), (.slice a6 x_c.Cur.Key.length c7), (.int .i64 x_c.Cur.Seq), (.int .i64 x_c.Cur.Win.Top), (.slice a11 x_c.Cur.Win.Bits.length c12), (.int .i64 x_c.Old.N), (.slice a16 x_c.Old.Key.length c17), (.int .i64 x_c.Old.Seq), (.int .i64 x_c.Old.Win.Top), (.slice a21 x_c.Old.Win.Bits.length c22), (.bool x_c.HasOld), (.int .i64 x_c.Until), (.slice a26 x_c.Next.length c27)] rfl rfl rfl rfl ?_
  intro g31 w1 p32 p33 k34 b35
  have m36 := (Ch.base w0).extk k34
  refine wl_mv (.slice none 0 0) (want_none rfl) rfl rfl (.inr rfl) rfl ?_
  refine wl_mv (.bool false) (want_none rfl) rfl rfl (.inr rfl) rfl ?_
  refine wl_nil ?_
  refine wq_then ?_
  refine wc_seq ?_
  refine wc_block ?_
  refine wc_seq ?_
  refine wc_region ?_
  refine wl_loadN [(.int .i64 x_c.Role), (.slice a1 x_c.Sn.length c2), (.int .i64 x_c.Cur.N), (.slice a6 x_c.Cur.Key.length c7), (.int .i64 x_c.Cur.Seq), (.int .i64 x_c.Cur.Win.Top), (.slice a11 x_c.Cur.Win.Bits.length c12), (.int .i64 x_c.Old.N), (.slice a16 x_c.Old.Key.length c17), (.int .i64 x_c.Old.Seq), (.int .i64 x_c.Old.Win.Top), (.slice a21 x_c.Old.Win.Bits.length c22), (.bool x_c.HasOld), (.int .i64 x_c.Until), (.slice a26 x_c.Next.length c27)] (want_none rfl) rfl rfl rfl rfl isAgg_29 sizeOf_29 b35 rfl ?_
  refine wl_call (want_none rfl) (args := #[(.agg #[(.int .i64 x_c.Role), (.slice a1 x_c.Sn.length c2), (.int .i64 x_c.Cur.N), (.slice a6 x_c.Cur.Key.length c7), (.int .i64 x_c.Cur.Seq), (.int .i64 x_c.Cur.Win.Top), (.slice a11 x_c.Cur.Win.Bits.length c12), (.int .i64 x_c.Old.N), (.slice a16 x_c.Old.Key.length c17), (.int .i64 x_c.Old.Seq), (.int .i64 x_c.Old.Win.Top), (.slice a21 x_c.Old.Win.Bits.length c22), (.bool x_c.HasOld), (.int .i64 x_c.Until), (.slice a26 x_c.Next.length c27)])]) rfl rfl (by kernel_rfl) (C_impl_ChanOk w1 (.agg #[(.int .i64 x_c.Role), (.slice a1 x_c.Sn.length c2), (.int .i64 x_c.Cur.N), (.slice a6 x_c.Cur.Key.length c7), (.int .i64 x_c.Cur.Seq), (.int .i64 x_c.Cur.Win.Top), (.slice a11 x_c.Cur.Win.Bits.length c12), (.int .i64 x_c.Old.N), (.slice a16 x_c.Old.Key.length c17), (.int .i64 x_c.Old.Seq), (.int .i64 x_c.Old.Win.Top), (.slice a21 x_c.Old.Win.Bits.length c22), (.bool x_c.HasOld), (.int .i64 x_c.Until), (.slice a26 x_c.Next.length c27)]) x_c (show R_29 w1 (.agg #[(.int .i64 x_c.Role), (.slice a1 x_c.Sn.length c2), (.int .i64 x_c.Cur.N), (.slice a6 x_c.Cur.Key.length c7), (.int .i64 x_c.Cur.Seq), (.int .i64 x_c.Cur.Win.Top), (.slice a11 x_c.Cur.Win.Bits.length c12), (.int .i64 x_c.Old.N), (.slice a16 x_c.Old.Key.length c17), (.int .i64 x_c.Old.Seq), (.int .i64 x_c.Old.Win.Top), (.slice a21 x_c.Old.Win.Bits.length c22), (.bool x_c.HasOld), (.int .i64 x_c.Until), (.slice a26 x_c.Next.length c27)]) x_c from ⟨_, _, _, _, _, _, _, _, _, _, _, _, rfl, (r3.from0 m36), s4, (r8.from0 m36), s9, (r13.from0 m36), s14, (r18.from0 m36), s19, (r23.from0 m36), s24, (r28.from0 m36), s29⟩)) ?_
  rintro _ w2 ⟨k37, rfl⟩
  have m38 := m36.extk k37
  refine wl_pure (.bool (!(F_impl_ChanOk x_c))) (want_none rfl) rfl rfl (by kernel_rfl) ?_
  refine wl_mv (.bool (!(F_impl_ChanOk x_c))) (want_none rfl) rfl rfl (.inr rfl) rfl ?_
  refine wl_nil ?_
  refine wq_then ?_
  rcases Bool.eq_false_or_eq_true (F_impl_ChanOk x_c) with h39 | h39
  · have q40 := impl_ChanOk_t h39
    refine wc_false (congrArg (fun b => Value.bool (!b)) h39) ?_
    refine wc_seq ?_
    refine wc_region ?_
    refine wl_pure (.pointer (some ⟨g31, 12, none⟩)) (want_none rfl) rfl rfl (by kernel_rfl) ?_
    have b41 := (b35.kp k37)
    refine wl_load1 (.bool x_c.HasOld) (want_none rfl) rfl rfl rfl rfl isAgg_4 b41 rfl ?_
    refine wl_mv (.bool x_c.HasOld) (want_none rfl) rfl rfl (.inl rfl) rfl ?_
    rcases Bool.eq_false_or_eq_true x_c.HasOld with h42 | h42
    · skip
      refine wl_mv (.int .i64 x_n) (want_some rfl rfl rfl (congrArg Value.bool h42)) rfl rfl (.inl rfl) rfl ?_
      refine wl_pure (.pointer (some ⟨g31, 7, none⟩)) (want_some rfl rfl rfl (congrArg Value.bool h42)) rfl rfl (by kernel_rfl) ?_
      refine wl_pure (.pointer (some ⟨g31, 7, none⟩)) (want_some rfl rfl rfl (congrArg Value.bool h42)) rfl rfl (by kernel_rfl) ?_
      refine wl_load1 (.int .i64 x_c.Old.N) (want_some rfl rfl rfl (congrArg Value.bool h42)) rfl rfl rfl rfl isAgg_3 b41 rfl ?_
      refine wl_pure (.bool (decide (x_n = x_c.Old.N))) (want_some rfl rfl rfl (congrArg Value.bool h42)) rfl rfl (by kernel_rfl) ?_
      refine wl_pick_t (.bool (decide (x_n = x_c.Old.N))) (want_none rfl) rfl rfl rfl (congrArg Value.bool h42) rfl ?_
      refine wl_mv (.bool (decide (x_n = x_c.Old.N))) (want_none rfl) rfl rfl (.inr rfl) rfl ?_
      refine wl_nil ?_
      refine wq_then ?_
      rcases Bool.eq_false_or_eq_true (decide (x_n = x_c.Old.N)) with h44 | h44
      · have q45 := of_decide_eq_true h44
        refine wc_true (congrArg Value.bool h44) ?_
        refine wc_seq ?_
        refine wc_region ?_
        refine wl_pure (.pointer (some ⟨g31, 7, none⟩)) (want_none rfl) rfl rfl (by kernel_rfl) ?_
        refine wl_pure (.pointer (some ⟨g31, 8, none⟩)) (want_none rfl) rfl rfl (by kernel_rfl) ?_
        refine wl_load1 (.slice a16 x_c.Old.Key.length c17) (want_none rfl) rfl rfl rfl rfl isAgg_22 b41 rfl ?_
        refine wl_call (want_none rfl) (args := #[(.slice a16 x_c.Old.Key.length c17)]) rfl rfl (by kernel_rfl) (C_impl_clone w2 (.slice a16 x_c.Old.Key.length c17) x_c.Old.Key (show R_22 w2 (.slice a16 x_c.Old.Key.length c17) x_c.Old.Key from ⟨_, _, rfl, (r18.from0 m38), s19⟩)) ?_
        rintro _ w3 ⟨k46, ⟨a47, c48, rfl, o49, s50, ap52⟩⟩
        have m53 := m38.extk k46
        refine wl_mv (.slice a47 (F_impl_clone x_c.Old.Key).length c48) (want_none rfl) rfl rfl (.inr rfl) rfl ?_
        refine wl_mv (.bool true) (want_none rfl) rfl rfl (.inr rfl) rfl ?_
        refine wl_nil ?_
        refine wq_then ?_
        refine wc_ret ?_
        refine wq_blk_ret ?_
        refine wq_then_ret ?_
        refine ret_2 (.inl rfl) (.slice a47 (F_impl_clone x_c.Old.Key).length c48) (.bool true) rfl rfl rfl ?_
        refine ⟨m53.keep0, ?_⟩
        have hF54 : F_impl_KeyFor x_c x_n = ((F_impl_clone x_c.Old.Key), true) := by simp only [F_impl_KeyFor, h39, h42, h44, cond_true, cond_false]
        rw [hF54]
        exact ⟨_, _, rfl, (own_lo o49 (Nat.le_trans k34.size k37.size)), s50, ⟨trivial, trivial⟩⟩
      · have q55 := of_decide_eq_false h44
        refine wc_false (congrArg Value.bool h44) ?_
        refine wc_seq ?_
        refine wc_region ?_
        refine wl_mv (.int .i64 x_n) (want_none rfl) rfl rfl (.inl rfl) rfl ?_
        refine wl_pure (.pointer (some ⟨g31, 2, none⟩)) (want_none rfl) rfl rfl (by kernel_rfl) ?_
        refine wl_pure (.pointer (some ⟨g31, 2, none⟩)) (want_none rfl) rfl rfl (by kernel_rfl) ?_
        refine wl_load1 (.int .i64 x_c.Cur.N) (want_none rfl) rfl rfl rfl rfl isAgg_3 b41 rfl ?_
        refine wl_pure (.bool (decide (x_n = x_c.Cur.N))) (want_none rfl) rfl rfl (by kernel_rfl) ?_
        refine wl_mv (.bool (decide (x_n = x_c.Cur.N))) (want_none rfl) rfl rfl (.inr rfl) rfl ?_
        refine wl_nil ?_
        refine wq_then ?_
        rcases Bool.eq_false_or_eq_true (decide (x_n = x_c.Cur.N)) with h56 | h56
        · have q57 := of_decide_eq_true h56
          refine wc_true (congrArg Value.bool h56) ?_
          refine wc_seq ?_
          refine wc_region ?_
          refine wl_pure (.pointer (some ⟨g31, 2, none⟩)) (want_none rfl) rfl rfl (by kernel_rfl) ?_
          refine wl_pure (.pointer (some ⟨g31, 3, none⟩)) (want_none rfl) rfl rfl (by kernel_rfl) ?_
          refine wl_load1 (.slice a6 x_c.Cur.Key.length c7) (want_none rfl) rfl rfl rfl rfl isAgg_22 b41 rfl ?_
          refine wl_call (want_none rfl) (args := #[(.slice a6 x_c.Cur.Key.length c7)]) rfl rfl (by kernel_rfl) (C_impl_clone w2 (.slice a6 x_c.Cur.Key.length c7) x_c.Cur.Key (show R_22 w2 (.slice a6 x_c.Cur.Key.length c7) x_c.Cur.Key from ⟨_, _, rfl, (r8.from0 m38), s9⟩)) ?_
          rintro _ w3 ⟨k58, ⟨a59, c60, rfl, o61, s62, ap64⟩⟩
          have m65 := m38.extk k58
          refine wl_mv (.slice a59 (F_impl_clone x_c.Cur.Key).length c60) (want_none rfl) rfl rfl (.inr rfl) rfl ?_
          refine wl_mv (.bool true) (want_none rfl) rfl rfl (.inr rfl) rfl ?_
          refine wl_nil ?_
          refine wq_then ?_
          refine wc_ret ?_
          refine wq_blk_ret ?_
          refine wq_then_ret ?_
          refine ret_2 (.inl rfl) (.slice a59 (F_impl_clone x_c.Cur.Key).length c60) (.bool true) rfl rfl rfl ?_
          refine ⟨m65.keep0, ?_⟩
          have hF66 : F_impl_KeyFor x_c x_n = ((F_impl_clone x_c.Cur.Key), true) := by simp only [F_impl_KeyFor, h39, h42, h44, h56, cond_true, cond_false]
          rw [hF66]
          exact ⟨_, _, rfl, (own_lo o61 (Nat.le_trans k34.size k37.size)), s62, ⟨trivial, trivial⟩⟩
        · have q67 := of_decide_eq_false h56
          refine wc_false (congrArg Value.bool h56) ?_
          refine wc_seq ?_
          refine wc_region ?_
          refine wl_pure (.pointer (some ⟨g31, 14, none⟩)) (want_none rfl) rfl rfl (by kernel_rfl) ?_
          refine wl_load1 (.slice a26 x_c.Next.length c27) (want_none rfl) rfl rfl rfl rfl isAgg_22 b41 rfl ?_
          refine wl_len (want_none rfl) rfl rfl rfl slTy_22 rfl (r28.from0 m38) ?_
          refine wl_pure (.bool (decide (0 < (x_c.Next.length : Int)))) (want_none rfl) rfl rfl (by kernel_rfl) ?_
          refine wl_mv (.bool (decide (0 < (x_c.Next.length : Int)))) (want_none rfl) rfl rfl (.inl rfl) rfl ?_
          rcases Bool.eq_false_or_eq_true (decide (0 < (x_c.Next.length : Int))) with h68 | h68
          · have q69 := of_decide_eq_true h68
            refine wl_mv (.int .i64 x_n) (want_some rfl rfl rfl (congrArg Value.bool h68)) rfl rfl (.inl rfl) rfl ?_
            refine wl_pure (.pointer (some ⟨g31, 2, none⟩)) (want_some rfl rfl rfl (congrArg Value.bool h68)) rfl rfl (by kernel_rfl) ?_
            refine wl_pure (.pointer (some ⟨g31, 2, none⟩)) (want_some rfl rfl rfl (congrArg Value.bool h68)) rfl rfl (by kernel_rfl) ?_
            refine wl_load1 (.int .i64 x_c.Cur.N) (want_some rfl rfl rfl (congrArg Value.bool h68)) rfl rfl rfl rfl isAgg_3 b41 rfl ?_
            refine wl_arith (x_c.Cur.N + 1) (want_some rfl rfl rfl (congrArg Value.bool h68)) rfl rfl (by kernel_rfl) (by omega) (by omega) ?_
            refine wl_pure (.bool (decide (x_n = (x_c.Cur.N + 1)))) (want_some rfl rfl rfl (congrArg Value.bool h68)) rfl rfl (by kernel_rfl) ?_
            refine wl_pick_t (.bool (decide (x_n = (x_c.Cur.N + 1)))) (want_none rfl) rfl rfl rfl (congrArg Value.bool h68) rfl ?_
            refine wl_mv (.bool (decide (x_n = (x_c.Cur.N + 1)))) (want_none rfl) rfl rfl (.inr rfl) rfl ?_
            refine wl_nil ?_
            refine wq_then ?_
            rcases Bool.eq_false_or_eq_true (decide (x_n = (x_c.Cur.N + 1))) with h70 | h70
            · have q71 := of_decide_eq_true h70
              refine wc_true (congrArg Value.bool h70) ?_
              refine wc_seq ?_
              refine wc_region ?_
              refine wl_pure (.pointer (some ⟨g31, 14, none⟩)) (want_none rfl) rfl rfl (by kernel_rfl) ?_
              refine wl_load1 (.slice a26 x_c.Next.length c27) (want_none rfl) rfl rfl rfl rfl isAgg_22 b41 rfl ?_
              refine wl_call (want_none rfl) (args := #[(.slice a26 x_c.Next.length c27)]) rfl rfl (by kernel_rfl) (C_impl_clone w2 (.slice a26 x_c.Next.length c27) x_c.Next (show R_22 w2 (.slice a26 x_c.Next.length c27) x_c.Next from ⟨_, _, rfl, (r28.from0 m38), s29⟩)) ?_
              rintro _ w3 ⟨k72, ⟨a73, c74, rfl, o75, s76, ap78⟩⟩
              have m79 := m38.extk k72
              refine wl_mv (.slice a73 (F_impl_clone x_c.Next).length c74) (want_none rfl) rfl rfl (.inr rfl) rfl ?_
              refine wl_mv (.bool true) (want_none rfl) rfl rfl (.inr rfl) rfl ?_
              refine wl_nil ?_
              refine wq_then ?_
              refine wc_ret ?_
              refine wq_blk_ret ?_
              refine wq_then_ret ?_
              refine ret_2 (.inl rfl) (.slice a73 (F_impl_clone x_c.Next).length c74) (.bool true) rfl rfl rfl ?_
              refine ⟨m79.keep0, ?_⟩
              have hF80 : F_impl_KeyFor x_c x_n = ((F_impl_clone x_c.Next), true) := by simp only [F_impl_KeyFor, h39, h42, h44, h56, h68, h70, cond_true, cond_false]
              rw [hF80]
              exact ⟨_, _, rfl, (own_lo o75 (Nat.le_trans k34.size k37.size)), s76, ⟨trivial, trivial⟩⟩
            · have q81 := of_decide_eq_false h70
              refine wc_false (congrArg Value.bool h70) ?_
              refine wc_skip ?_
              refine wq_blk_normal ?_
              refine wq_then ?_
              refine wc_seq ?_
              refine wc_region ?_
              refine wl_mv (.slice none 0 0) (want_none rfl) rfl rfl (.inr rfl) rfl ?_
              refine wl_mv (.bool false) (want_none rfl) rfl rfl (.inr rfl) rfl ?_
              refine wl_nil ?_
              refine wq_then ?_
              refine wc_ret ?_
              refine ret_2 (.inl rfl) (.slice none 0 0) (.bool false) rfl rfl rfl ?_
              refine ⟨m38.keep0, ?_⟩
              have hF82 : F_impl_KeyFor x_c x_n = ([], false) := by simp only [F_impl_KeyFor, h39, h42, h44, h56, h68, h70, cond_true, cond_false]
              rw [hF82]
              exact ⟨_, _, rfl, (own_nil _ _ _ _), (by simp), ⟨trivial, trivial⟩⟩
          · have q83 := of_decide_eq_false h68
            refine wl_skip rfl rfl rfl (congrArg Value.bool h68) rfl rfl rfl ?_
            refine wl_skip rfl rfl rfl (congrArg Value.bool h68) rfl rfl rfl ?_
            refine wl_skip rfl rfl rfl (congrArg Value.bool h68) rfl rfl rfl ?_
            refine wl_skip rfl rfl rfl (congrArg Value.bool h68) rfl rfl rfl ?_
            refine wl_skip rfl rfl rfl (congrArg Value.bool h68) rfl rfl rfl ?_
            refine wl_skip rfl rfl rfl (congrArg Value.bool h68) rfl rfl rfl ?_
            refine wl_pick_f (.bool false) (want_none rfl) rfl rfl rfl (congrArg Value.bool h68) rfl ?_
            refine wl_mv (.bool false) (want_none rfl) rfl rfl (.inr rfl) rfl ?_
            refine wl_nil ?_
            refine wq_then ?_
            refine wc_false rfl ?_
            refine wc_skip ?_
            refine wq_blk_normal ?_
            refine wq_then ?_
            refine wc_seq ?_
            refine wc_region ?_
            refine wl_mv (.slice none 0 0) (want_none rfl) rfl rfl (.inr rfl) rfl ?_
            refine wl_mv (.bool false) (want_none rfl) rfl rfl (.inr rfl) rfl ?_
            refine wl_nil ?_
            refine wq_then ?_
            refine wc_ret ?_
            refine ret_2 (.inl rfl) (.slice none 0 0) (.bool false) rfl rfl rfl ?_
            refine ⟨m38.keep0, ?_⟩
            have hF84 : F_impl_KeyFor x_c x_n = ([], false) := by simp only [F_impl_KeyFor, h39, h42, h44, h56, h68, cond_true, cond_false]
            rw [hF84]
            exact ⟨_, _, rfl, (own_nil _ _ _ _), (by simp), ⟨trivial, trivial⟩⟩
    · skip
      refine wl_skip rfl rfl rfl (congrArg Value.bool h42) rfl rfl rfl ?_
      refine wl_skip rfl rfl rfl (congrArg Value.bool h42) rfl rfl rfl ?_
      refine wl_skip rfl rfl rfl (congrArg Value.bool h42) rfl rfl rfl ?_
      refine wl_skip rfl rfl rfl (congrArg Value.bool h42) rfl rfl rfl ?_
      refine wl_skip rfl rfl rfl (congrArg Value.bool h42) rfl rfl rfl ?_
      refine wl_pick_f (.bool false) (want_none rfl) rfl rfl rfl (congrArg Value.bool h42) rfl ?_
      refine wl_mv (.bool false) (want_none rfl) rfl rfl (.inr rfl) rfl ?_
      refine wl_nil ?_
      refine wq_then ?_
      refine wc_false rfl ?_
      refine wc_seq ?_
      refine wc_region ?_
      refine wl_mv (.int .i64 x_n) (want_none rfl) rfl rfl (.inl rfl) rfl ?_
      refine wl_pure (.pointer (some ⟨g31, 2, none⟩)) (want_none rfl) rfl rfl (by kernel_rfl) ?_
      refine wl_pure (.pointer (some ⟨g31, 2, none⟩)) (want_none rfl) rfl rfl (by kernel_rfl) ?_
      refine wl_load1 (.int .i64 x_c.Cur.N) (want_none rfl) rfl rfl rfl rfl isAgg_3 b41 rfl ?_
      refine wl_pure (.bool (decide (x_n = x_c.Cur.N))) (want_none rfl) rfl rfl (by kernel_rfl) ?_
      refine wl_mv (.bool (decide (x_n = x_c.Cur.N))) (want_none rfl) rfl rfl (.inr rfl) rfl ?_
      refine wl_nil ?_
      refine wq_then ?_
      rcases Bool.eq_false_or_eq_true (decide (x_n = x_c.Cur.N)) with h86 | h86
      · have q87 := of_decide_eq_true h86
        refine wc_true (congrArg Value.bool h86) ?_
        refine wc_seq ?_
        refine wc_region ?_
        refine wl_pure (.pointer (some ⟨g31, 2, none⟩)) (want_none rfl) rfl rfl (by kernel_rfl) ?_
        refine wl_pure (.pointer (some ⟨g31, 3, none⟩)) (want_none rfl) rfl rfl (by kernel_rfl) ?_
        refine wl_load1 (.slice a6 x_c.Cur.Key.length c7) (want_none rfl) rfl rfl rfl rfl isAgg_22 b41 rfl ?_
        refine wl_call (want_none rfl) (args := #[(.slice a6 x_c.Cur.Key.length c7)]) rfl rfl (by kernel_rfl) (C_impl_clone w2 (.slice a6 x_c.Cur.Key.length c7) x_c.Cur.Key (show R_22 w2 (.slice a6 x_c.Cur.Key.length c7) x_c.Cur.Key from ⟨_, _, rfl, (r8.from0 m38), s9⟩)) ?_
        rintro _ w3 ⟨k88, ⟨a89, c90, rfl, o91, s92, ap94⟩⟩
        have m95 := m38.extk k88
        refine wl_mv (.slice a89 (F_impl_clone x_c.Cur.Key).length c90) (want_none rfl) rfl rfl (.inr rfl) rfl ?_
        refine wl_mv (.bool true) (want_none rfl) rfl rfl (.inr rfl) rfl ?_
        refine wl_nil ?_
        refine wq_then ?_
        refine wc_ret ?_
        refine wq_blk_ret ?_
        refine wq_then_ret ?_
        refine ret_2 (.inl rfl) (.slice a89 (F_impl_clone x_c.Cur.Key).length c90) (.bool true) rfl rfl rfl ?_
        refine ⟨m95.keep0, ?_⟩
        have hF96 : F_impl_KeyFor x_c x_n = ((F_impl_clone x_c.Cur.Key), true) := by simp only [F_impl_KeyFor, h39, h42, h86, cond_true, cond_false]
        rw [hF96]
        exact ⟨_, _, rfl, (own_lo o91 (Nat.le_trans k34.size k37.size)), s92, ⟨trivial, trivial⟩⟩
      · have q97 := of_decide_eq_false h86
        refine wc_false (congrArg Value.bool h86) ?_
        refine wc_seq ?_
        refine wc_region ?_
        refine wl_pure (.pointer (some ⟨g31, 14, none⟩)) (want_none rfl) rfl rfl (by kernel_rfl) ?_
        refine wl_load1 (.slice a26 x_c.Next.length c27) (want_none rfl) rfl rfl rfl rfl isAgg_22 b41 rfl ?_
        refine wl_len (want_none rfl) rfl rfl rfl slTy_22 rfl (r28.from0 m38) ?_
        refine wl_pure (.bool (decide (0 < (x_c.Next.length : Int)))) (want_none rfl) rfl rfl (by kernel_rfl) ?_
        refine wl_mv (.bool (decide (0 < (x_c.Next.length : Int)))) (want_none rfl) rfl rfl (.inl rfl) rfl ?_
        rcases Bool.eq_false_or_eq_true (decide (0 < (x_c.Next.length : Int))) with h98 | h98
        · have q99 := of_decide_eq_true h98
          refine wl_mv (.int .i64 x_n) (want_some rfl rfl rfl (congrArg Value.bool h98)) rfl rfl (.inl rfl) rfl ?_
          refine wl_pure (.pointer (some ⟨g31, 2, none⟩)) (want_some rfl rfl rfl (congrArg Value.bool h98)) rfl rfl (by kernel_rfl) ?_
          refine wl_pure (.pointer (some ⟨g31, 2, none⟩)) (want_some rfl rfl rfl (congrArg Value.bool h98)) rfl rfl (by kernel_rfl) ?_
          refine wl_load1 (.int .i64 x_c.Cur.N) (want_some rfl rfl rfl (congrArg Value.bool h98)) rfl rfl rfl rfl isAgg_3 b41 rfl ?_
          refine wl_arith (x_c.Cur.N + 1) (want_some rfl rfl rfl (congrArg Value.bool h98)) rfl rfl (by kernel_rfl) (by omega) (by omega) ?_
          refine wl_pure (.bool (decide (x_n = (x_c.Cur.N + 1)))) (want_some rfl rfl rfl (congrArg Value.bool h98)) rfl rfl (by kernel_rfl) ?_
          refine wl_pick_t (.bool (decide (x_n = (x_c.Cur.N + 1)))) (want_none rfl) rfl rfl rfl (congrArg Value.bool h98) rfl ?_
          refine wl_mv (.bool (decide (x_n = (x_c.Cur.N + 1)))) (want_none rfl) rfl rfl (.inr rfl) rfl ?_
          refine wl_nil ?_
          refine wq_then ?_
          rcases Bool.eq_false_or_eq_true (decide (x_n = (x_c.Cur.N + 1))) with h100 | h100
          · have q101 := of_decide_eq_true h100
            refine wc_true (congrArg Value.bool h100) ?_
            refine wc_seq ?_
            refine wc_region ?_
            refine wl_pure (.pointer (some ⟨g31, 14, none⟩)) (want_none rfl) rfl rfl (by kernel_rfl) ?_
            refine wl_load1 (.slice a26 x_c.Next.length c27) (want_none rfl) rfl rfl rfl rfl isAgg_22 b41 rfl ?_
            refine wl_call (want_none rfl) (args := #[(.slice a26 x_c.Next.length c27)]) rfl rfl (by kernel_rfl) (C_impl_clone w2 (.slice a26 x_c.Next.length c27) x_c.Next (show R_22 w2 (.slice a26 x_c.Next.length c27) x_c.Next from ⟨_, _, rfl, (r28.from0 m38), s29⟩)) ?_
            rintro _ w3 ⟨k102, ⟨a103, c104, rfl, o105, s106, ap108⟩⟩
            have m109 := m38.extk k102
            refine wl_mv (.slice a103 (F_impl_clone x_c.Next).length c104) (want_none rfl) rfl rfl (.inr rfl) rfl ?_
            refine wl_mv (.bool true) (want_none rfl) rfl rfl (.inr rfl) rfl ?_
            refine wl_nil ?_
            refine wq_then ?_
            refine wc_ret ?_
            refine wq_blk_ret ?_
            refine wq_then_ret ?_
            refine ret_2 (.inl rfl) (.slice a103 (F_impl_clone x_c.Next).length c104) (.bool true) rfl rfl rfl ?_
            refine ⟨m109.keep0, ?_⟩
            have hF110 : F_impl_KeyFor x_c x_n = ((F_impl_clone x_c.Next), true) := by simp only [F_impl_KeyFor, h39, h42, h86, h98, h100, cond_true, cond_false]
            rw [hF110]
            exact ⟨_, _, rfl, (own_lo o105 (Nat.le_trans k34.size k37.size)), s106, ⟨trivial, trivial⟩⟩
          · have q111 := of_decide_eq_false h100
            refine wc_false (congrArg Value.bool h100) ?_
            refine wc_skip ?_
            refine wq_blk_normal ?_
            refine wq_then ?_
            refine wc_seq ?_
            refine wc_region ?_
            refine wl_mv (.slice none 0 0) (want_none rfl) rfl rfl (.inr rfl) rfl ?_
            refine wl_mv (.bool false) (want_none rfl) rfl rfl (.inr rfl) rfl ?_
            refine wl_nil ?_
            refine wq_then ?_
            refine wc_ret ?_
            refine ret_2 (.inl rfl) (.slice none 0 0) (.bool false) rfl rfl rfl ?_
            refine ⟨m38.keep0, ?_⟩
            have hF112 : F_impl_KeyFor x_c x_n = ([], false) := by simp only [F_impl_KeyFor, h39, h42, h86, h98, h100, cond_true, cond_false]
            rw [hF112]
            exact ⟨_, _, rfl, (own_nil _ _ _ _), (by simp), ⟨trivial, trivial⟩⟩
        · have q113 := of_decide_eq_false h98
          refine wl_skip rfl rfl rfl (congrArg Value.bool h98) rfl rfl rfl ?_
          refine wl_skip rfl rfl rfl (congrArg Value.bool h98) rfl rfl rfl ?_
          refine wl_skip rfl rfl rfl (congrArg Value.bool h98) rfl rfl rfl ?_
          refine wl_skip rfl rfl rfl (congrArg Value.bool h98) rfl rfl rfl ?_
          refine wl_skip rfl rfl rfl (congrArg Value.bool h98) rfl rfl rfl ?_
          refine wl_skip rfl rfl rfl (congrArg Value.bool h98) rfl rfl rfl ?_
          refine wl_pick_f (.bool false) (want_none rfl) rfl rfl rfl (congrArg Value.bool h98) rfl ?_
          refine wl_mv (.bool false) (want_none rfl) rfl rfl (.inr rfl) rfl ?_
          refine wl_nil ?_
          refine wq_then ?_
          refine wc_false rfl ?_
          refine wc_skip ?_
          refine wq_blk_normal ?_
          refine wq_then ?_
          refine wc_seq ?_
          refine wc_region ?_
          refine wl_mv (.slice none 0 0) (want_none rfl) rfl rfl (.inr rfl) rfl ?_
          refine wl_mv (.bool false) (want_none rfl) rfl rfl (.inr rfl) rfl ?_
          refine wl_nil ?_
          refine wq_then ?_
          refine wc_ret ?_
          refine ret_2 (.inl rfl) (.slice none 0 0) (.bool false) rfl rfl rfl ?_
          refine ⟨m38.keep0, ?_⟩
          have hF114 : F_impl_KeyFor x_c x_n = ([], false) := by simp only [F_impl_KeyFor, h39, h42, h86, h98, cond_true, cond_false]
          rw [hF114]
          exact ⟨_, _, rfl, (own_nil _ _ _ _), (by simp), ⟨trivial, trivial⟩⟩
  · skip
    refine wc_true (congrArg (fun b => Value.bool (!b)) h39) ?_
    refine wc_seq ?_
    refine wc_region ?_
    refine wl_mv (.slice none 0 0) (want_none rfl) rfl rfl (.inr rfl) rfl ?_
    refine wl_mv (.bool false) (want_none rfl) rfl rfl (.inr rfl) rfl ?_
    refine wl_nil ?_
    refine wq_then ?_
    refine wc_ret ?_
    refine wq_blk_ret ?_
    refine wq_then_ret ?_
    refine ret_2 (.inl rfl) (.slice none 0 0) (.bool false) rfl rfl rfl ?_
    refine ⟨m38.keep0, ?_⟩
    have hF116 : F_impl_KeyFor x_c x_n = ([], false) := by simp only [F_impl_KeyFor, h39, cond_true, cond_false]
    rw [hF116]
    exact ⟨_, _, rfl, (own_nil _ _ _ _), (by simp), ⟨trivial, trivial⟩⟩

theorem C_laws_markByteS_own (w0 : World) (a : Option Addr) (c : Nat) (x : List UInt8) (lo : Nat) (k : Int) (h0 : 0 ≤ k) (h1 : k ≤ 9000000000000000000) (hs : x.length ≤ 1073741824) (r : w0.ownsRow lo 5 1 (.slice a x.length c) x.length (x.map bV)) :
    Fn Try.prog 20 #[(.slice a x.length c), .int .i64 k] w0 (fun v w' => v = .int .i64 (k + x.length) ∧ Ch (fun b => (Value.slice a x.length c).ownBlock = some b) w0 w' ∧ w'.ownsRow lo 5 1 (.slice a x.length c) x.length ((marksB k x.length).map bV)) := by
  refine fn_of (n := 20) (l := [(.slice a x.length c), (.int .i64 k), undef, undef, undef, undef, undef, undef, undef, undef, undef, undef, undef, undef, undef, undef, undef, undef, undef, undef]) Try.func20 rfl rfl (by kernel_rfl) rfl ?_
  refine wc_seq ?_
  refine wc_region ?_
  refine wl_mv (.int .i64 0) (want_none rfl) rfl rfl (.inr rfl) rfl ?_
  refine wl_nil ?_
  refine wq_then ?_
  refine wc_seq ?_
  refine wc_seq ?_
  refine wc_region ?_
  refine wl_mv (.int .i64 0) (want_none rfl) rfl rfl (.inr rfl) rfl ?_
  refine wl_nil ?_
  refine wq_then ?_
  refine wc_block ?_
  refine wc_norm [(.slice a x.length c), (.int .i64 k), undef, undef, (.int .i64 0), (.int .i64 0), undef, undef, undef, undef, undef, undef, undef, undef, undef, undef, undef, undef, undef, undef] rfl ⟨rfl, rfl, rfl, rfl, rfl, rfl, rfl, rfl, rfl, rfl, rfl, rfl, rfl, rfl, rfl, rfl, rfl, rfl, rfl, rfl, trivial⟩ ?_
  refine wc_loop (fun e' w' => ∃ (i : Nat) (u6x u7x u8x u9x u10x u11x u12x u13x u14x u15x u16x u17x u18x : Value), e' = lst [(.slice a x.length c), (.int .i64 (k + ((i : Nat) : Int))), undef, undef, (.int .i64 0), (.int .i64 ((i : Nat) : Int)), u6x, u7x, u8x, u9x, u10x, u11x, u12x, u13x, u14x, u15x, u16x, u17x, u18x, undef] ∧ i ≤ x.length ∧ Ch (fun b => (Value.slice a x.length c).ownBlock = some b) w0 w' ∧ w'.ownsRow lo 5 1 (.slice a x.length c) x.length ((marksB k i ++ x.drop i).map bV)) (fun e' _ => x.length - (intOf (e' 5)).toNat) ?_ ?_
  · exact ⟨0, undef, undef, undef, undef, undef, undef, undef, undef, undef, undef, undef, undef, undef, congrArg (fun (p : Value) => lst [(.slice a x.length c), p, undef, undef, (.int .i64 0), (.int .i64 0), undef, undef, undef, undef, undef, undef, undef, undef, undef, undef, undef, undef, undef, undef]) (congrArg (Value.int .i64) (show k = k + ((0 : Nat) : Int) by omega)), Nat.zero_le _, Ch.refl _ _, by simpa [marksB] using r⟩
  · rintro _ w1 ⟨i, u6x, u7x, u8x, u9x, u10x, u11x, u12x, u13x, u14x, u15x, u16x, u17x, u18x, rfl, hi, hc, ho⟩
    refine wc_seq ?_
    refine wc_seq ?_
    refine wc_region ?_
    refine wl_mv (.int .i64 ((i : Nat) : Int)) (want_none rfl) rfl rfl (.inl rfl) rfl ?_
    refine wl_mv (.slice a x.length c) (want_none rfl) rfl rfl (.inl rfl) rfl ?_
    refine wl_len (want_none rfl) rfl rfl rfl slTy_22 rfl (Rd.of_own ho) ?_
    refine wl_pure (.bool (decide (((i : Nat) : Int) < (x.length : Int)))) (want_none rfl) rfl rfl (by kernel_rfl) ?_
    refine wl_nil ?_
    refine wq_then ?_
    rcases Bool.eq_false_or_eq_true (decide (((i : Nat) : Int) < (x.length : Int))) with h101 | h101
    · have q102 := of_decide_eq_true h101
      refine wc_true (congrArg Value.bool h101) ?_
      refine wc_skip ?_
      refine wq_then ?_
      refine wc_seq ?_
      refine wc_block ?_
      refine wc_seq ?_
      refine wc_region ?_
      refine wl_mv (.slice a x.length c) (want_none rfl) rfl rfl (.inl rfl) rfl ?_
      refine wl_mv (.int .i64 ((i : Nat) : Int)) (want_none rfl) rfl rfl (.inl rfl) rfl ?_
      refine wl_mv (.int .i64 (k + ((i : Nat) : Int))) (want_none rfl) rfl rfl (.inl rfl) rfl ?_
      refine wl_conv8 (k + ((i : Nat) : Int)) (want_none rfl) rfl rfl (by kernel_rfl) ?_
      refine wl_index (want_none rfl) ((i : Nat) : Int) rfl rfl rfl slTy_22 rfl rfl (Rd.of_own ho) (by first | omega | (simp only [List.length_cons, List.length_nil, List.length_replicate, List.length_append, List.length_take, List.length_set, List.length_map]; omega)) (by first | omega | (simp only [List.length_cons, List.length_nil, List.length_replicate, List.length_append, List.length_take, List.length_set, List.length_map]; omega)) ?_
      refine wl_storeB ((marksB k i ++ x.drop i)) i ((by8 (k + ((i : Nat) : Int)))) (want_none rfl) rfl rfl rfl (by simp) rfl sizeOf_5 ho (by simp only [List.length_append, List.length_drop, marksB_len]; omega) ?_
      intro w2 k103 o104
      refine wl_nil ?_
      refine wq_then ?_
      refine wc_region ?_
      refine wl_mv (.int .i64 (k + ((i : Nat) : Int))) (want_none rfl) rfl rfl (.inl rfl) rfl ?_
      refine wl_arith ((k + ((i : Nat) : Int)) + 1) (want_none rfl) rfl rfl (by kernel_rfl) (by omega) (by omega) ?_
      refine wl_mv (.int .i64 ((k + ((i : Nat) : Int)) + 1)) (want_none rfl) rfl rfl (.inr rfl) rfl ?_
      refine wl_nil ?_
      refine wq_blk_normal ?_
      refine wq_then ?_
      refine wc_region ?_
      refine wl_mv (.int .i64 ((i : Nat) : Int)) (want_none rfl) rfl rfl (.inl rfl) rfl ?_
      refine wl_arith (((i : Nat) : Int) + 1) (want_none rfl) rfl rfl (by kernel_rfl) (by omega) (by omega) ?_
      refine wl_mv (.int .i64 (((i : Nat) : Int) + 1)) (want_none rfl) rfl rfl (.inr rfl) rfl ?_
      refine wl_nil ?_
      have hE : (((marksB k i ++ x.drop i)).set i ((by8 (k + ((i : Nat) : Int))))) = marksB k (i + 1) ++ x.drop (i + 1) := by
        rw [List.set_append_right _ _ (by rw [marksB_len]; omega), marksB_len, Nat.sub_self, List.drop_eq_getElem_cons (by omega), List.set_cons_zero, marksB_snoc]
        simp
      rw [hE] at o104
      exact wq_loopN (w0 := w1) [(.slice a x.length c), (.int .i64 (k + ((i + 1 : Nat) : Int))), undef, undef, (.int .i64 0), (.int .i64 ((i + 1 : Nat) : Int)), (.int .i64 ((i : Nat) : Int)), (.slice a x.length c), (.int .i64 (x.length : Int)), (.bool (decide (((i : Nat) : Int) < (x.length : Int)))), (.int .i64 ((i : Nat) : Int)), (.int .i64 (((i : Nat) : Int) + 1)), (.slice a x.length c), (.int .i64 ((i : Nat) : Int)), (.int .i64 (k + ((i : Nat) : Int))), (.int .u8 ((by8 (k + ((i : Nat) : Int))).toNat : Int)), (.pointer (some (elA (.slice a x.length c) ((((i : Nat) : Int)).toNat * 1)))), (.int .i64 (k + ((i : Nat) : Int))), (.int .i64 ((k + ((i : Nat) : Int)) + 1)), undef] rfl ⟨rfl, (congrArg (Value.int .i64) (show (((k + ((i : Nat) : Int)) + 1) : Int) = (k + ((i + 1 : Nat) : Int)) by omega)), rfl, rfl, rfl, (congrArg (Value.int .i64) (show ((((i : Nat) : Int) + 1) : Int) = ((i + 1 : Nat) : Int) by omega)), rfl, rfl, rfl, rfl, rfl, rfl, rfl, rfl, rfl, rfl, rfl, rfl, rfl, rfl, trivial⟩ ⟨i + 1, (.int .i64 ((i : Nat) : Int)), (.slice a x.length c), (.int .i64 (x.length : Int)), (.bool (decide (((i : Nat) : Int) < (x.length : Int)))), (.int .i64 ((i : Nat) : Int)), (.int .i64 (((i : Nat) : Int) + 1)), (.slice a x.length c), (.int .i64 ((i : Nat) : Int)), (.int .i64 (k + ((i : Nat) : Int))), (.int .u8 ((by8 (k + ((i : Nat) : Int))).toNat : Int)), (.pointer (some (elA (.slice a x.length c) ((((i : Nat) : Int)).toNat * 1)))), (.int .i64 (k + ((i : Nat) : Int))), (.int .i64 ((k + ((i : Nat) : Int)) + 1)), rfl, by omega, hc.comp k103 (fun _ _ h => h), o104⟩ (by show x.length - (((i + 1 : Nat) : Int)).toNat < x.length - (((i : Nat) : Int)).toNat; omega)
    · have q105 := of_decide_eq_false h101
      refine wc_false (congrArg Value.bool h101) ?_
      refine wc_exit ?_
      refine wq_then_exit ?_
      refine wq_then_exit ?_
      refine wq_blk_exit ?_
      refine wq_then ?_
      refine wc_seq ?_
      refine wc_region ?_
      refine wl_mv (.int .i64 (k + ((i : Nat) : Int))) (want_none rfl) rfl rfl (.inl rfl) rfl ?_
      refine wl_mv (.int .i64 (k + ((i : Nat) : Int))) (want_none rfl) rfl rfl (.inr rfl) rfl ?_
      refine wl_nil ?_
      refine wq_then ?_
      refine wc_ret ?_
      have hI : i = x.length := by omega
      subst hI
      refine ret_1 (.inl rfl) (.int .i64 (k + ((x.length : Nat) : Int))) rfl rfl ⟨rfl, hc, ?_⟩
      simpa using ho
theorem C_laws_markByteS_nil (w0 : World) (a : Option Addr) (c : Nat) (k : Int) (r : Rd w0 1 (.slice a 0 c) 0 []) :
    Fn Try.prog 20 #[.slice a 0 c, .int .i64 k] w0 (fun v w' => v = .int .i64 k ∧ w' = w0) := by
  have hz : decide ((0 : Int) < ((0 : Nat) : Int)) = false := by decide
  refine fn_of (n := 20) (l := [(.slice a 0 c), (.int .i64 k), undef, undef, undef, undef, undef, undef, undef, undef, undef, undef, undef, undef, undef, undef, undef, undef, undef, undef]) Try.func20 rfl rfl (by kernel_rfl) rfl ?_
  refine wc_seq ?_
  refine wc_region ?_
  refine wl_mv (.int .i64 0) (want_none rfl) rfl rfl (.inr rfl) rfl ?_
  refine wl_nil ?_
  refine wq_then ?_
  refine wc_seq ?_
  refine wc_seq ?_
  refine wc_region ?_
  refine wl_mv (.int .i64 0) (want_none rfl) rfl rfl (.inr rfl) rfl ?_
  refine wl_nil ?_
  refine wq_then ?_
  refine wc_block ?_
  refine wc_norm [(.slice a 0 c), (.int .i64 k), undef, undef, (.int .i64 0), (.int .i64 0), undef, undef, undef, undef, undef, undef, undef, undef, undef, undef, undef, undef, undef, undef] rfl ⟨rfl, rfl, rfl, rfl, rfl, rfl, rfl, rfl, rfl, rfl, rfl, rfl, rfl, rfl, rfl, rfl, rfl, rfl, rfl, rfl, trivial⟩ ?_
  refine wc_loop (fun e' w' => e' = lst [(.slice a 0 c), (.int .i64 k), undef, undef, (.int .i64 0), (.int .i64 0), undef, undef, undef, undef, undef, undef, undef, undef, undef, undef, undef, undef, undef, undef] ∧ w' = w0) (fun _ _ => 0) ⟨rfl, rfl⟩ ?_
  rintro _ _ ⟨rfl, rfl⟩
  refine wc_seq ?_
  refine wc_seq ?_
  refine wc_region ?_
  refine wl_mv (.int .i64 0) (want_none rfl) rfl rfl (.inl rfl) rfl ?_
  refine wl_mv (.slice a 0 c) (want_none rfl) rfl rfl (.inl rfl) rfl ?_
  refine wl_len (want_none rfl) rfl rfl rfl slTy_22 rfl r ?_
  refine wl_pure (.bool (decide (0 < ((0 : Nat) : Int)))) (want_none rfl) rfl rfl (by kernel_rfl) ?_
  refine wl_nil ?_
  refine wq_then ?_
  refine wc_false (congrArg Value.bool hz) ?_
  refine wc_exit ?_
  refine wq_then_exit ?_
  refine wq_then_exit ?_
  refine wq_blk_exit ?_
  refine wq_then ?_
  refine wc_seq ?_
  refine wc_region ?_
  refine wl_mv (.int .i64 k) (want_none rfl) rfl rfl (.inl rfl) rfl ?_
  refine wl_mv (.int .i64 k) (want_none rfl) rfl rfl (.inr rfl) rfl ?_
  refine wl_nil ?_
  refine wq_then ?_
  refine wc_ret ?_
  exact ret_1 (.inl rfl) (.int .i64 k) rfl rfl ⟨rfl, rfl⟩
theorem C_laws_markByteS (w0 : World) (a : Option Addr) (c : Nat) (x : List UInt8) (k : Int) (h0 : 0 ≤ k) (h1 : k ≤ 9000000000000000000) (hs : x.length ≤ 1073741824) (r : Rd w0 1 (.slice a x.length c) x.length (x.map bV)) (hw : Wp w0 5 a x.length c (x.map bV)) :
    Fn Try.prog 20 #[.slice a x.length c, .int .i64 k] w0 (fun v w' => v = .int .i64 (k + x.length) ∧ Ch (MS [(a, x.length)]) w0 w' ∧ Rd w' 1 (.slice a x.length c) x.length ((marksB k x.length).map bV)) := by
  rcases Nat.eq_zero_or_pos x.length with hz | hz
  · obtain rfl : x = [] := List.eq_nil_of_length_eq_zero hz
    refine (C_laws_markByteS_nil w0 a c k r).mono ?_
    rintro _ _ ⟨rfl, rfl⟩
    exact ⟨by simp, Ch.refl _ _, r⟩
  · rcases hw with hw | ⟨lo, hw⟩
    · omega
    · refine (C_laws_markByteS_own w0 a c x lo k h0 h1 hs hw).mono ?_
      rintro _ w' ⟨rfl, hc, ho⟩
      refine ⟨rfl, hc.mono fun b _ hb => ?_, Rd.of_own ho⟩
      rcases a with _ | ad
      · cases hb
      · exact .inl ⟨hz, ad, rfl, by simpa [Value.ownBlock] using hb⟩

theorem C_laws_markIntS_own (w0 : World) (a : Option Addr) (c : Nat) (x : List Int) (lo : Nat) (k : Int) (h0 : 0 ≤ k) (h1 : k ≤ 9000000000000000000) (hs : x.length ≤ 1073741824) (r : w0.ownsRow lo 3 1 (.slice a x.length c) x.length (x.map iV)) :
    Fn Try.prog 120 #[(.slice a x.length c), .int .i64 k] w0 (fun v w' => v = .int .i64 (k + x.length) ∧ Ch (fun b => (Value.slice a x.length c).ownBlock = some b) w0 w' ∧ w'.ownsRow lo 3 1 (.slice a x.length c) x.length ((marksI k x.length).map iV)) := by
  refine fn_of (n := 19) (l := [(.slice a x.length c), (.int .i64 k), undef, undef, undef, undef, undef, undef, undef, undef, undef, undef, undef, undef, undef, undef, undef, undef, undef]) Try.func120 rfl rfl (by kernel_rfl) rfl ?_
  refine wc_seq ?_
  refine wc_region ?_
  refine wl_mv (.int .i64 0) (want_none rfl) rfl rfl (.inr rfl) rfl ?_
  refine wl_nil ?_
  refine wq_then ?_
  refine wc_seq ?_
  refine wc_seq ?_
  refine wc_region ?_
  refine wl_mv (.int .i64 0) (want_none rfl) rfl rfl (.inr rfl) rfl ?_
  refine wl_nil ?_
  refine wq_then ?_
  refine wc_block ?_
  refine wc_norm [(.slice a x.length c), (.int .i64 k), undef, undef, (.int .i64 0), (.int .i64 0), undef, undef, undef, undef, undef, undef, undef, undef, undef, undef, undef, undef, undef] rfl ⟨rfl, rfl, rfl, rfl, rfl, rfl, rfl, rfl, rfl, rfl, rfl, rfl, rfl, rfl, rfl, rfl, rfl, rfl, rfl, trivial⟩ ?_
  refine wc_loop (fun e' w' => ∃ (i : Nat) (u6x u7x u8x u9x u10x u11x u12x u13x u14x u15x u16x u17x : Value), e' = lst [(.slice a x.length c), (.int .i64 (k + ((i : Nat) : Int))), undef, undef, (.int .i64 0), (.int .i64 ((i : Nat) : Int)), u6x, u7x, u8x, u9x, u10x, u11x, u12x, u13x, u14x, u15x, u16x, u17x, undef] ∧ i ≤ x.length ∧ Ch (fun b => (Value.slice a x.length c).ownBlock = some b) w0 w' ∧ w'.ownsRow lo 3 1 (.slice a x.length c) x.length ((marksI k i ++ x.drop i).map iV)) (fun e' _ => x.length - (intOf (e' 5)).toNat) ?_ ?_
  · exact ⟨0, undef, undef, undef, undef, undef, undef, undef, undef, undef, undef, undef, undef, congrArg (fun (p : Value) => lst [(.slice a x.length c), p, undef, undef, (.int .i64 0), (.int .i64 0), undef, undef, undef, undef, undef, undef, undef, undef, undef, undef, undef, undef, undef]) (congrArg (Value.int .i64) (show k = k + ((0 : Nat) : Int) by omega)), Nat.zero_le _, Ch.refl _ _, by simpa [marksI] using r⟩
  · rintro _ w1 ⟨i, u6x, u7x, u8x, u9x, u10x, u11x, u12x, u13x, u14x, u15x, u16x, u17x, rfl, hi, hc, ho⟩
    refine wc_seq ?_
    refine wc_seq ?_
    refine wc_region ?_
    refine wl_mv (.int .i64 ((i : Nat) : Int)) (want_none rfl) rfl rfl (.inl rfl) rfl ?_
    refine wl_mv (.slice a x.length c) (want_none rfl) rfl rfl (.inl rfl) rfl ?_
    refine wl_len (want_none rfl) rfl rfl rfl slTy_23 rfl (Rd.of_own ho) ?_
    refine wl_pure (.bool (decide (((i : Nat) : Int) < (x.length : Int)))) (want_none rfl) rfl rfl (by kernel_rfl) ?_
    refine wl_nil ?_
    refine wq_then ?_
    rcases Bool.eq_false_or_eq_true (decide (((i : Nat) : Int) < (x.length : Int))) with h101 | h101
    · have q102 := of_decide_eq_true h101
      refine wc_true (congrArg Value.bool h101) ?_
      refine wc_skip ?_
      refine wq_then ?_
      refine wc_seq ?_
      refine wc_block ?_
      refine wc_seq ?_
      refine wc_region ?_
      refine wl_mv (.slice a x.length c) (want_none rfl) rfl rfl (.inl rfl) rfl ?_
      refine wl_mv (.int .i64 ((i : Nat) : Int)) (want_none rfl) rfl rfl (.inl rfl) rfl ?_
      refine wl_mv (.int .i64 (k + ((i : Nat) : Int))) (want_none rfl) rfl rfl (.inl rfl) rfl ?_
      refine wl_index (want_none rfl) ((i : Nat) : Int) rfl rfl rfl slTy_23 rfl rfl (Rd.of_own ho) (by first | omega | (simp only [List.length_cons, List.length_nil, List.length_replicate, List.length_append, List.length_take, List.length_set, List.length_map]; omega)) (by first | omega | (simp only [List.length_cons, List.length_nil, List.length_replicate, List.length_append, List.length_take, List.length_set, List.length_map]; omega)) ?_
      refine wl_storeI ((marksI k i ++ x.drop i)) i ((k + ((i : Nat) : Int))) (want_none rfl) rfl rfl rfl (by simp) rfl sizeOf_3 ho (by simp only [List.length_append, List.length_drop, marksI_len]; omega) ?_
      intro w2 k103 o104
      refine wl_nil ?_
      refine wq_then ?_
      refine wc_region ?_
      refine wl_mv (.int .i64 (k + ((i : Nat) : Int))) (want_none rfl) rfl rfl (.inl rfl) rfl ?_
      refine wl_arith ((k + ((i : Nat) : Int)) + 1) (want_none rfl) rfl rfl (by kernel_rfl) (by omega) (by omega) ?_
      refine wl_mv (.int .i64 ((k + ((i : Nat) : Int)) + 1)) (want_none rfl) rfl rfl (.inr rfl) rfl ?_
      refine wl_nil ?_
      refine wq_blk_normal ?_
      refine wq_then ?_
      refine wc_region ?_
      refine wl_mv (.int .i64 ((i : Nat) : Int)) (want_none rfl) rfl rfl (.inl rfl) rfl ?_
      refine wl_arith (((i : Nat) : Int) + 1) (want_none rfl) rfl rfl (by kernel_rfl) (by omega) (by omega) ?_
      refine wl_mv (.int .i64 (((i : Nat) : Int) + 1)) (want_none rfl) rfl rfl (.inr rfl) rfl ?_
      refine wl_nil ?_
      have hE : (((marksI k i ++ x.drop i)).set i ((k + ((i : Nat) : Int)))) = marksI k (i + 1) ++ x.drop (i + 1) := by
        rw [List.set_append_right _ _ (by rw [marksI_len]; omega), marksI_len, Nat.sub_self, List.drop_eq_getElem_cons (by omega), List.set_cons_zero, marksI_snoc]
        simp
      rw [hE] at o104
      exact wq_loopN (w0 := w1) [(.slice a x.length c), (.int .i64 (k + ((i + 1 : Nat) : Int))), undef, undef, (.int .i64 0), (.int .i64 ((i + 1 : Nat) : Int)), (.int .i64 ((i : Nat) : Int)), (.slice a x.length c), (.int .i64 (x.length : Int)), (.bool (decide (((i : Nat) : Int) < (x.length : Int)))), (.int .i64 ((i : Nat) : Int)), (.int .i64 (((i : Nat) : Int) + 1)), (.slice a x.length c), (.int .i64 ((i : Nat) : Int)), (.int .i64 (k + ((i : Nat) : Int))), (.pointer (some (elA (.slice a x.length c) ((((i : Nat) : Int)).toNat * 1)))), (.int .i64 (k + ((i : Nat) : Int))), (.int .i64 ((k + ((i : Nat) : Int)) + 1)), undef] rfl ⟨rfl, (congrArg (Value.int .i64) (show (((k + ((i : Nat) : Int)) + 1) : Int) = (k + ((i + 1 : Nat) : Int)) by omega)), rfl, rfl, rfl, (congrArg (Value.int .i64) (show ((((i : Nat) : Int) + 1) : Int) = ((i + 1 : Nat) : Int) by omega)), rfl, rfl, rfl, rfl, rfl, rfl, rfl, rfl, rfl, rfl, rfl, rfl, rfl, trivial⟩ ⟨i + 1, (.int .i64 ((i : Nat) : Int)), (.slice a x.length c), (.int .i64 (x.length : Int)), (.bool (decide (((i : Nat) : Int) < (x.length : Int)))), (.int .i64 ((i : Nat) : Int)), (.int .i64 (((i : Nat) : Int) + 1)), (.slice a x.length c), (.int .i64 ((i : Nat) : Int)), (.int .i64 (k + ((i : Nat) : Int))), (.pointer (some (elA (.slice a x.length c) ((((i : Nat) : Int)).toNat * 1)))), (.int .i64 (k + ((i : Nat) : Int))), (.int .i64 ((k + ((i : Nat) : Int)) + 1)), rfl, by omega, hc.comp k103 (fun _ _ h => h), o104⟩ (by show x.length - (((i + 1 : Nat) : Int)).toNat < x.length - (((i : Nat) : Int)).toNat; omega)
    · have q105 := of_decide_eq_false h101
      refine wc_false (congrArg Value.bool h101) ?_
      refine wc_exit ?_
      refine wq_then_exit ?_
      refine wq_then_exit ?_
      refine wq_blk_exit ?_
      refine wq_then ?_
      refine wc_seq ?_
      refine wc_region ?_
      refine wl_mv (.int .i64 (k + ((i : Nat) : Int))) (want_none rfl) rfl rfl (.inl rfl) rfl ?_
      refine wl_mv (.int .i64 (k + ((i : Nat) : Int))) (want_none rfl) rfl rfl (.inr rfl) rfl ?_
      refine wl_nil ?_
      refine wq_then ?_
      refine wc_ret ?_
      have hI : i = x.length := by omega
      subst hI
      refine ret_1 (.inl rfl) (.int .i64 (k + ((x.length : Nat) : Int))) rfl rfl ⟨rfl, hc, ?_⟩
      simpa using ho
theorem C_laws_markIntS_nil (w0 : World) (a : Option Addr) (c : Nat) (k : Int) (r : Rd w0 1 (.slice a 0 c) 0 []) :
    Fn Try.prog 120 #[.slice a 0 c, .int .i64 k] w0 (fun v w' => v = .int .i64 k ∧ w' = w0) := by
  have hz : decide ((0 : Int) < ((0 : Nat) : Int)) = false := by decide
  refine fn_of (n := 19) (l := [(.slice a 0 c), (.int .i64 k), undef, undef, undef, undef, undef, undef, undef, undef, undef, undef, undef, undef, undef, undef, undef, undef, undef]) Try.func120 rfl rfl (by kernel_rfl) rfl ?_
  refine wc_seq ?_
  refine wc_region ?_
  refine wl_mv (.int .i64 0) (want_none rfl) rfl rfl (.inr rfl) rfl ?_
  refine wl_nil ?_
  refine wq_then ?_
  refine wc_seq ?_
  refine wc_seq ?_
  refine wc_region ?_
  refine wl_mv (.int .i64 0) (want_none rfl) rfl rfl (.inr rfl) rfl ?_
  refine wl_nil ?_
  refine wq_then ?_
  refine wc_block ?_
  refine wc_norm [(.slice a 0 c), (.int .i64 k), undef, undef, (.int .i64 0), (.int .i64 0), undef, undef, undef, undef, undef, undef, undef, undef, undef, undef, undef, undef, undef] rfl ⟨rfl, rfl, rfl, rfl, rfl, rfl, rfl, rfl, rfl, rfl, rfl, rfl, rfl, rfl, rfl, rfl, rfl, rfl, rfl, trivial⟩ ?_
  refine wc_loop (fun e' w' => e' = lst [(.slice a 0 c), (.int .i64 k), undef, undef, (.int .i64 0), (.int .i64 0), undef, undef, undef, undef, undef, undef, undef, undef, undef, undef, undef, undef, undef] ∧ w' = w0) (fun _ _ => 0) ⟨rfl, rfl⟩ ?_
  rintro _ _ ⟨rfl, rfl⟩
  refine wc_seq ?_
  refine wc_seq ?_
  refine wc_region ?_
  refine wl_mv (.int .i64 0) (want_none rfl) rfl rfl (.inl rfl) rfl ?_
  refine wl_mv (.slice a 0 c) (want_none rfl) rfl rfl (.inl rfl) rfl ?_
  refine wl_len (want_none rfl) rfl rfl rfl slTy_23 rfl r ?_
  refine wl_pure (.bool (decide (0 < ((0 : Nat) : Int)))) (want_none rfl) rfl rfl (by kernel_rfl) ?_
  refine wl_nil ?_
  refine wq_then ?_
  refine wc_false (congrArg Value.bool hz) ?_
  refine wc_exit ?_
  refine wq_then_exit ?_
  refine wq_then_exit ?_
  refine wq_blk_exit ?_
  refine wq_then ?_
  refine wc_seq ?_
  refine wc_region ?_
  refine wl_mv (.int .i64 k) (want_none rfl) rfl rfl (.inl rfl) rfl ?_
  refine wl_mv (.int .i64 k) (want_none rfl) rfl rfl (.inr rfl) rfl ?_
  refine wl_nil ?_
  refine wq_then ?_
  refine wc_ret ?_
  exact ret_1 (.inl rfl) (.int .i64 k) rfl rfl ⟨rfl, rfl⟩
theorem C_laws_markIntS (w0 : World) (a : Option Addr) (c : Nat) (x : List Int) (k : Int) (h0 : 0 ≤ k) (h1 : k ≤ 9000000000000000000) (hs : x.length ≤ 1073741824) (r : Rd w0 1 (.slice a x.length c) x.length (x.map iV)) (hw : Wp w0 3 a x.length c (x.map iV)) :
    Fn Try.prog 120 #[.slice a x.length c, .int .i64 k] w0 (fun v w' => v = .int .i64 (k + x.length) ∧ Ch (MS [(a, x.length)]) w0 w' ∧ Rd w' 1 (.slice a x.length c) x.length ((marksI k x.length).map iV)) := by
  rcases Nat.eq_zero_or_pos x.length with hz | hz
  · obtain rfl : x = [] := List.eq_nil_of_length_eq_zero hz
    refine (C_laws_markIntS_nil w0 a c k r).mono ?_
    rintro _ _ ⟨rfl, rfl⟩
    exact ⟨by simp, Ch.refl _ _, r⟩
  · rcases hw with hw | ⟨lo, hw⟩
    · omega
    · refine (C_laws_markIntS_own w0 a c x lo k h0 h1 hs hw).mono ?_
      rintro _ w' ⟨rfl, hc, ho⟩
      refine ⟨rfl, hc.mono fun b _ hb => ?_, Rd.of_own ho⟩
      rcases a with _ | ad
      · cases hb
      · exact .inl ⟨hz, ad, rfl, by simpa [Value.ownBlock] using hb⟩

theorem C_laws_markWin (w0 : World) (a1 : Option Addr) (c1 : Nat) (x : PWin) (k : Int) (h0 : 0 ≤ k) (h1 : k ≤ 8800000000000000000) (s1 : x.Bits.length ≤ 1073741824) (r1 : Rd w0 1 (.slice a1 x.Bits.length c1) x.Bits.length (x.Bits.map iV)) (p1 : Wp w0 3 a1 x.Bits.length c1 (x.Bits.map iV)) (ap : Aps [(a1, c1)]) :
    Fn Try.prog 106 #[(.agg #[(.int .i64 x.Top), (.slice a1 x.Bits.length c1)]), .int .i64 k] w0 (fun v w' => v = .int .i64 (k + (x.Bits.length : Int)) ∧ Ch (MS [(a1, x.Bits.length)]) w0 w' ∧ Rd w' 1 (.slice a1 x.Bits.length c1) x.Bits.length ((marksI k x.Bits.length).map iV)) := by
  refine fn_of (n := 10) (l := [(.agg #[(.int .i64 x.Top), (.slice a1 x.Bits.length c1)]), (.int .i64 k), undef, undef, undef, undef, undef, undef, undef, undef]) Try.func106 rfl rfl (by kernel_rfl) rfl ?_
  refine wc_seq ?_
  refine wc_region ?_
  refine wl_box (want_none rfl) [(.int .i64 x.Top), (.slice a1 x.Bits.length c1)] rfl rfl rfl rfl ?_
  intro g201 w1 p202 p203 k204 b205
  refine wl_mv (.int .i64 0) (want_none rfl) rfl rfl (.inr rfl) rfl ?_
  refine wl_nil ?_
  refine wq_then ?_
  refine wc_seq ?_
  refine wc_region ?_
  refine wl_pure (.pointer (some ⟨g201, 1, none⟩)) (want_none rfl) rfl rfl (by kernel_rfl) ?_
  refine wl_load1 (.slice a1 x.Bits.length c1) (want_none rfl) rfl rfl rfl rfl isAgg_23 b205 rfl ?_
  refine wl_mv (.int .i64 k) (want_none rfl) rfl rfl (.inl rfl) rfl ?_
  have r206 := (r1.kp k204)
  have wp207 : Wp w1 3 a1 x.Bits.length c1 _ := (Wp.kp p1 k204)
  refine wl_call (want_none rfl) (args := #[(.slice a1 x.Bits.length c1), (.int .i64 k)]) rfl rfl (by kernel_rfl) (C_laws_markIntS w1 a1 c1 x.Bits k (by omega) (by omega) s1 r206 wp207) ?_
  rintro _ w2 ⟨rfl, k208, r209⟩
  refine wl_mv (.int .i64 (k + (x.Bits.length : Int))) (want_none rfl) rfl rfl (.inr rfl) rfl ?_
  refine wl_nil ?_
  refine wq_then ?_
  refine wc_seq ?_
  refine wc_region ?_
  refine wl_mv (.int .i64 (k + (x.Bits.length : Int))) (want_none rfl) rfl rfl (.inl rfl) rfl ?_
  refine wl_mv (.int .i64 (k + (x.Bits.length : Int))) (want_none rfl) rfl rfl (.inr rfl) rfl ?_
  refine wl_nil ?_
  refine wq_then ?_
  refine wc_ret ?_
  exact ret_1 (.inl rfl) (.int .i64 (k + (x.Bits.length : Int))) rfl rfl ⟨rfl, (((Ch.refl (MS [(a1, x.Bits.length)]) w0).comp k204 (fun _ _ h => h.elim)).comp k208 (fun _ _ h => ms_sub [] [] h)), r209⟩

theorem C_laws_markEp (w0 : World) (a1 : Option Addr) (c1 : Nat) (a2 : Option Addr) (c2 : Nat) (x : PEp) (k : Int) (h0 : 0 ≤ k) (h1 : k ≤ 8700000000000000000) (s1 : x.Key.length ≤ 1073741824) (r1 : Rd w0 1 (.slice a1 x.Key.length c1) x.Key.length (x.Key.map bV)) (p1 : Wp w0 5 a1 x.Key.length c1 (x.Key.map bV)) (s2 : x.Win.Bits.length ≤ 1073741824) (r2 : Rd w0 1 (.slice a2 x.Win.Bits.length c2) x.Win.Bits.length (x.Win.Bits.map iV)) (p2 : Wp w0 3 a2 x.Win.Bits.length c2 (x.Win.Bits.map iV)) (ap : Aps [(a1, c1), (a2, c2)]) :
    Fn Try.prog 72 #[(.agg #[(.int .i64 x.N), (.slice a1 x.Key.length c1), (.int .i64 x.Seq), (.int .i64 x.Win.Top), (.slice a2 x.Win.Bits.length c2)]), .int .i64 k] w0 (fun v w' => v = .int .i64 ((k + (x.Key.length : Int)) + (x.Win.Bits.length : Int)) ∧ Ch (MS [(a1, x.Key.length), (a2, x.Win.Bits.length)]) w0 w' ∧ Rd w' 1 (.slice a1 x.Key.length c1) x.Key.length ((marksB k x.Key.length).map bV) ∧ Rd w' 1 (.slice a2 x.Win.Bits.length c2) x.Win.Bits.length ((marksI (k + (x.Key.length : Int)) x.Win.Bits.length).map iV)) := by
  refine fn_of (n := 14) (l := [(.agg #[(.int .i64 x.N), (.slice a1 x.Key.length c1), (.int .i64 x.Seq), (.int .i64 x.Win.Top), (.slice a2 x.Win.Bits.length c2)]), (.int .i64 k), undef, undef, undef, undef, undef, undef, undef, undef, undef, undef, undef, undef]) Try.func72 rfl rfl (by kernel_rfl) rfl ?_
  refine wc_seq ?_
  refine wc_region ?_
  refine wl_box (want_none rfl) [(.int .i64 x.N), (.slice a1 x.Key.length c1), (.int .i64 x.Seq), (.int .i64 x.Win.Top), (.slice a2 x.Win.Bits.length c2)] rfl rfl rfl rfl ?_
  intro g201 w1 p202 p203 k204 b205
  refine wl_mv (.int .i64 0) (want_none rfl) rfl rfl (.inr rfl) rfl ?_
  refine wl_nil ?_
  refine wq_then ?_
  refine wc_seq ?_
  refine wc_region ?_
  refine wl_pure (.pointer (some ⟨g201, 1, none⟩)) (want_none rfl) rfl rfl (by kernel_rfl) ?_
  refine wl_load1 (.slice a1 x.Key.length c1) (want_none rfl) rfl rfl rfl rfl isAgg_22 b205 rfl ?_
  refine wl_mv (.int .i64 k) (want_none rfl) rfl rfl (.inl rfl) rfl ?_
  have r206 := (r1.kp k204)
  have wp207 : Wp w1 5 a1 x.Key.length c1 _ := (Wp.kp p1 k204)
  refine wl_call (want_none rfl) (args := #[(.slice a1 x.Key.length c1), (.int .i64 k)]) rfl rfl (by kernel_rfl) (C_laws_markByteS w1 a1 c1 x.Key k (by omega) (by omega) s1 r206 wp207) ?_
  rintro _ w2 ⟨rfl, k208, r209⟩
  refine wl_mv (.int .i64 (k + (x.Key.length : Int))) (want_none rfl) rfl rfl (.inr rfl) rfl ?_
  refine wl_nil ?_
  refine wq_then ?_
  refine wc_seq ?_
  refine wc_region ?_
  refine wl_pure (.pointer (some ⟨g201, 3, none⟩)) (want_none rfl) rfl rfl (by kernel_rfl) ?_
  have b210 := (b205.ch k208 (ms_lo (ms_lo_cons (fun hn x hx hb => by have := Wp.lt p1 hn x hx; have := Nat.le_trans (Nat.le_refl _) p202; omega) ms_lo_nil)))
  refine wl_loadN [(.int .i64 x.Win.Top), (.slice a2 x.Win.Bits.length c2)] (want_none rfl) rfl rfl rfl rfl isAgg_25 sizeOf_25 b210 rfl ?_
  refine wl_mv (.int .i64 (k + (x.Key.length : Int))) (want_none rfl) rfl rfl (.inl rfl) rfl ?_
  have r211 := (Rd.ms (l := [(a1, x.Key.length, c1)]) (r2.kp k204) rfl k208 (ap_cons (rd_cap r206) (ap.1.1) ap_nil))
  have wp212 : Wp w2 3 a2 x.Win.Bits.length c2 _ := (Wp.ms (l := [(a1, x.Key.length, c1)]) (Wp.kp p2 k204) (rd_cap r211) rfl k208 (ap_cons (rd_cap r206) (ap.1.1) ap_nil))
  refine wl_call (want_none rfl) (args := #[(.agg #[(.int .i64 x.Win.Top), (.slice a2 x.Win.Bits.length c2)]), (.int .i64 (k + (x.Key.length : Int)))]) rfl rfl (by kernel_rfl) (C_laws_markWin w2 a2 c2 x.Win (k + (x.Key.length : Int)) (by omega) (by omega) s2 r211 wp212 ⟨trivial, trivial⟩) ?_
  rintro _ w3 ⟨rfl, k213, r214⟩
  refine wl_mv (.int .i64 ((k + (x.Key.length : Int)) + (x.Win.Bits.length : Int))) (want_none rfl) rfl rfl (.inr rfl) rfl ?_
  refine wl_nil ?_
  refine wq_then ?_
  refine wc_seq ?_
  refine wc_region ?_
  refine wl_mv (.int .i64 ((k + (x.Key.length : Int)) + (x.Win.Bits.length : Int))) (want_none rfl) rfl rfl (.inl rfl) rfl ?_
  refine wl_mv (.int .i64 ((k + (x.Key.length : Int)) + (x.Win.Bits.length : Int))) (want_none rfl) rfl rfl (.inr rfl) rfl ?_
  refine wl_nil ?_
  refine wq_then ?_
  refine wc_ret ?_
  have r215 := (Rd.ms (l := [(a2, x.Win.Bits.length, c2)]) r209 rfl k213 (ap_cons (rd_cap r211) (ap.1.1).symm ap_nil))
  exact ret_1 (.inl rfl) (.int .i64 ((k + (x.Key.length : Int)) + (x.Win.Bits.length : Int))) rfl rfl ⟨rfl, ((((Ch.refl (MS [(a1, x.Key.length), (a2, x.Win.Bits.length)]) w0).comp k204 (fun _ _ h => h.elim)).comp k208 (fun _ _ h => ms_sub [] [(a2, x.Win.Bits.length)] h)).comp k213 (fun _ _ h => ms_sub [(a1, x.Key.length)] [] h)), r215, r214⟩

theorem C_laws_markChan (w0 : World) (a1 : Option Addr) (c1 : Nat) (a2 : Option Addr) (c2 : Nat) (a3 : Option Addr) (c3 : Nat) (a4 : Option Addr) (c4 : Nat) (a5 : Option Addr) (c5 : Nat) (a6 : Option Addr) (c6 : Nat) (x : PChan) (k : Int) (h0 : 0 ≤ k) (h1 : k ≤ 8600000000000000000) (s1 : x.Sn.length ≤ 1073741824) (r1 : Rd w0 1 (.slice a1 x.Sn.length c1) x.Sn.length (x.Sn.map bV)) (p1 : Wp w0 5 a1 x.Sn.length c1 (x.Sn.map bV)) (s2 : x.Cur.Key.length ≤ 1073741824) (r2 : Rd w0 1 (.slice a2 x.Cur.Key.length c2) x.Cur.Key.length (x.Cur.Key.map bV)) (p2 : Wp w0 5 a2 x.Cur.Key.length c2 (x.Cur.Key.map bV)) (s3 : x.Cur.Win.Bits.length ≤ 1073741824) (r3 : Rd w0 1 (.slice a3 x.Cur.Win.Bits.length c3) x.Cur.Win.Bits.length (x.Cur.Win.Bits.map iV)) (p3 : Wp w0 3 a3 x.Cur.Win.Bits.length c3 (x.Cur.Win.Bits.map iV)) (s4 : x.Old.Key.length ≤ 1073741824) (r4 : Rd w0 1 (.slice a4 x.Old.Key.length c4) x.Old.Key.length (x.Old.Key.map bV)) (p4 : Wp w0 5 a4 x.Old.Key.length c4 (x.Old.Key.map bV)) (s5 : x.Old.Win.Bits.length ≤ 1073741824) (r5 : Rd w0 1 (.slice a5 x.Old.Win.Bits.length c5) x.Old.Win.Bits.length (x.Old.Win.Bits.map iV)) (p5 : Wp w0 3 a5 x.Old.Win.Bits.length c5 (x.Old.Win.Bits.map iV)) (s6 : x.Next.length ≤ 1073741824) (r6 : Rd w0 1 (.slice a6 x.Next.length c6) x.Next.length (x.Next.map bV)) (p6 : Wp w0 5 a6 x.Next.length c6 (x.Next.map bV)) (ap : Aps [(a1, c1), (a2, c2), (a3, c3), (a4, c4), (a5, c5), (a6, c6)]) :
    Fn Try.prog 21 #[(.agg #[(.int .i64 x.Role), (.slice a1 x.Sn.length c1), (.int .i64 x.Cur.N), (.slice a2 x.Cur.Key.length c2), (.int .i64 x.Cur.Seq), (.int .i64 x.Cur.Win.Top), (.slice a3 x.Cur.Win.Bits.length c3), (.int .i64 x.Old.N), (.slice a4 x.Old.Key.length c4), (.int .i64 x.Old.Seq), (.int .i64 x.Old.Win.Top), (.slice a5 x.Old.Win.Bits.length c5), (.bool x.HasOld), (.int .i64 x.Until), (.slice a6 x.Next.length c6)]), .int .i64 k] w0 (fun v w' => v = .int .i64 ((((((k + (x.Sn.length : Int)) + (x.Cur.Key.length : Int)) + (x.Cur.Win.Bits.length : Int)) + (x.Old.Key.length : Int)) + (x.Old.Win.Bits.length : Int)) + (x.Next.length : Int)) ∧ Ch (MS [(a1, x.Sn.length), (a2, x.Cur.Key.length), (a3, x.Cur.Win.Bits.length), (a4, x.Old.Key.length), (a5, x.Old.Win.Bits.length), (a6, x.Next.length)]) w0 w' ∧ Rd w' 1 (.slice a1 x.Sn.length c1) x.Sn.length ((marksB k x.Sn.length).map bV) ∧ Rd w' 1 (.slice a2 x.Cur.Key.length c2) x.Cur.Key.length ((marksB (k + (x.Sn.length : Int)) x.Cur.Key.length).map bV) ∧ Rd w' 1 (.slice a3 x.Cur.Win.Bits.length c3) x.Cur.Win.Bits.length ((marksI ((k + (x.Sn.length : Int)) + (x.Cur.Key.length : Int)) x.Cur.Win.Bits.length).map iV) ∧ Rd w' 1 (.slice a4 x.Old.Key.length c4) x.Old.Key.length ((marksB (((k + (x.Sn.length : Int)) + (x.Cur.Key.length : Int)) + (x.Cur.Win.Bits.length : Int)) x.Old.Key.length).map bV) ∧ Rd w' 1 (.slice a5 x.Old.Win.Bits.length c5) x.Old.Win.Bits.length ((marksI ((((k + (x.Sn.length : Int)) + (x.Cur.Key.length : Int)) + (x.Cur.Win.Bits.length : Int)) + (x.Old.Key.length : Int)) x.Old.Win.Bits.length).map iV) ∧ Rd w' 1 (.slice a6 x.Next.length c6) x.Next.length ((marksB (((((k + (x.Sn.length : Int)) + (x.Cur.Key.length : Int)) + (x.Cur.Win.Bits.length : Int)) + (x.Old.Key.length : Int)) + (x.Old.Win.Bits.length : Int)) x.Next.length).map bV)) := by
  refine fn_of (n := 22) (l := [(.agg #[(.int .i64 x.Role), (.slice a1 x.Sn.length c1), (.int .i64 x.Cur.N), (.slice a2 x.Cur.Key.length c2), (.int .i64 x.Cur.Seq), (.int .i64 x.Cur.Win.Top), (.slice a3 x.Cur.Win.Bits.length c3), (.int .i64 x.Old.N), (.slice a4 x.Old.Key.length c4), (.int .i64 x.Old.Seq), (.int .i64 x.Old.Win.Top), (.slice a5 x.Old.Win.Bits.length c5), (.bool x.HasOld), (.int .i64 x.Until), (.slice a6 x.Next.length c6)]), (.int .i64 k), undef, undef, undef, undef, undef, undef, undef, undef, undef, undef, undef, undef, undef, undef, undef, undef, undef, undef, undef, undef]) Try.func21 rfl rfl (by kernel_rfl) rfl ?_
  refine wc_seq ?_
  refine wc_region ?_
  refine wl_box (want_none rfl) [(.int .i64 x.Role), (.slice a1 x.Sn.length c1), (.int .i64 x.Cur.N), (.slice a2 x.Cur.Key.length c2), (.int .i64 x.Cur.Seq), (.int .i64 x.Cur.Win.Top), (.slice a3 x.Cur.Win.Bits.length c3), (.int .i64 x.Old.N), (.slice a4 x.Old.Key.length c4), (.int .i64 x.Old.Seq), (.int .i64 x.Old.Win.Top), (.slice a5 x.Old.Win.Bits.length c5), (.bool x.HasOld), (.int .i64 x.Until), (.slice a6 x.Next.length c6)] rfl rfl rfl rfl ?_
  intro g201 w1 p202 p203 k204 b205
  refine wl_mv (.int .i64 0) (want_none rfl) rfl rfl (.inr rfl) rfl ?_
  refine wl_nil ?_
  refine wq_then ?_
  refine wc_seq ?_
  refine wc_region ?_
  refine wl_pure (.pointer (some ⟨g201, 1, none⟩)) (want_none rfl) rfl rfl (by kernel_rfl) ?_
  refine wl_load1 (.slice a1 x.Sn.length c1) (want_none rfl) rfl rfl rfl rfl isAgg_22 b205 rfl ?_
  refine wl_mv (.int .i64 k) (want_none rfl) rfl rfl (.inl rfl) rfl ?_
  have r206 := (r1.kp k204)
  have wp207 : Wp w1 5 a1 x.Sn.length c1 _ := (Wp.kp p1 k204)
  refine wl_call (want_none rfl) (args := #[(.slice a1 x.Sn.length c1), (.int .i64 k)]) rfl rfl (by kernel_rfl) (C_laws_markByteS w1 a1 c1 x.Sn k (by omega) (by omega) s1 r206 wp207) ?_
  rintro _ w2 ⟨rfl, k208, r209⟩
  refine wl_mv (.int .i64 (k + (x.Sn.length : Int))) (want_none rfl) rfl rfl (.inr rfl) rfl ?_
  refine wl_nil ?_
  refine wq_then ?_
  refine wc_seq ?_
  refine wc_region ?_
  refine wl_pure (.pointer (some ⟨g201, 2, none⟩)) (want_none rfl) rfl rfl (by kernel_rfl) ?_
  have b210 := (b205.ch k208 (ms_lo (ms_lo_cons (fun hn x hx hb => by have := Wp.lt p1 hn x hx; have := Nat.le_trans (Nat.le_refl _) p202; omega) ms_lo_nil)))
  refine wl_loadN [(.int .i64 x.Cur.N), (.slice a2 x.Cur.Key.length c2), (.int .i64 x.Cur.Seq), (.int .i64 x.Cur.Win.Top), (.slice a3 x.Cur.Win.Bits.length c3)] (want_none rfl) rfl rfl rfl rfl isAgg_27 sizeOf_27 b210 rfl ?_
  refine wl_mv (.int .i64 (k + (x.Sn.length : Int))) (want_none rfl) rfl rfl (.inl rfl) rfl ?_
  have r211 := (Rd.ms (l := [(a1, x.Sn.length, c1)]) (r2.kp k204) rfl k208 (ap_cons (rd_cap r206) (ap.1.1) ap_nil))
  have r212 := (Rd.ms (l := [(a1, x.Sn.length, c1)]) (r3.kp k204) rfl k208 (ap_cons (rd_cap r206) (ap.1.2.1) ap_nil))
  have wp213 : Wp w2 5 a2 x.Cur.Key.length c2 _ := (Wp.ms (l := [(a1, x.Sn.length, c1)]) (Wp.kp p2 k204) (rd_cap r211) rfl k208 (ap_cons (rd_cap r206) (ap.1.1) ap_nil))
  have wp214 : Wp w2 3 a3 x.Cur.Win.Bits.length c3 _ := (Wp.ms (l := [(a1, x.Sn.length, c1)]) (Wp.kp p3 k204) (rd_cap r212) rfl k208 (ap_cons (rd_cap r206) (ap.1.2.1) ap_nil))
  refine wl_call (want_none rfl) (args := #[(.agg #[(.int .i64 x.Cur.N), (.slice a2 x.Cur.Key.length c2), (.int .i64 x.Cur.Seq), (.int .i64 x.Cur.Win.Top), (.slice a3 x.Cur.Win.Bits.length c3)]), (.int .i64 (k + (x.Sn.length : Int)))]) rfl rfl (by kernel_rfl) (C_laws_markEp w2 a2 c2 a3 c3 x.Cur (k + (x.Sn.length : Int)) (by omega) (by omega) s2 r211 wp213 s3 r212 wp214 ⟨⟨(ap.2.1.1), trivial⟩, ⟨trivial, trivial⟩⟩) ?_
  rintro _ w3 ⟨rfl, k215, r216, r217⟩
  refine wl_mv (.int .i64 (((k + (x.Sn.length : Int)) + (x.Cur.Key.length : Int)) + (x.Cur.Win.Bits.length : Int))) (want_none rfl) rfl rfl (.inr rfl) rfl ?_
  refine wl_nil ?_
  refine wq_then ?_
  refine wc_seq ?_
  refine wc_region ?_
  refine wl_pure (.pointer (some ⟨g201, 7, none⟩)) (want_none rfl) rfl rfl (by kernel_rfl) ?_
  have b218 := (b210.ch k215 (ms_lo (ms_lo_cons (fun hn x hx hb => by have := Wp.lt p2 hn x hx; have := Nat.le_trans (Nat.le_refl _) p202; omega) (ms_lo_cons (fun hn x hx hb => by have := Wp.lt p3 hn x hx; have := Nat.le_trans (Nat.le_refl _) p202; omega) ms_lo_nil))))
  refine wl_loadN [(.int .i64 x.Old.N), (.slice a4 x.Old.Key.length c4), (.int .i64 x.Old.Seq), (.int .i64 x.Old.Win.Top), (.slice a5 x.Old.Win.Bits.length c5)] (want_none rfl) rfl rfl rfl rfl isAgg_27 sizeOf_27 b218 rfl ?_
  refine wl_mv (.int .i64 (((k + (x.Sn.length : Int)) + (x.Cur.Key.length : Int)) + (x.Cur.Win.Bits.length : Int))) (want_none rfl) rfl rfl (.inl rfl) rfl ?_
  have r219 := (Rd.ms (l := [(a2, x.Cur.Key.length, c2), (a3, x.Cur.Win.Bits.length, c3)]) (Rd.ms (l := [(a1, x.Sn.length, c1)]) (r4.kp k204) rfl k208 (ap_cons (rd_cap r206) (ap.1.2.2.1) ap_nil)) rfl k215 (ap_cons (rd_cap r211) (ap.2.1.2.1) (ap_cons (rd_cap r212) (ap.2.2.1.1) ap_nil)))
  have r220 := (Rd.ms (l := [(a2, x.Cur.Key.length, c2), (a3, x.Cur.Win.Bits.length, c3)]) (Rd.ms (l := [(a1, x.Sn.length, c1)]) (r5.kp k204) rfl k208 (ap_cons (rd_cap r206) (ap.1.2.2.2.1) ap_nil)) rfl k215 (ap_cons (rd_cap r211) (ap.2.1.2.2.1) (ap_cons (rd_cap r212) (ap.2.2.1.2.1) ap_nil)))
  have wp221 : Wp w3 5 a4 x.Old.Key.length c4 _ := (Wp.ms (l := [(a2, x.Cur.Key.length, c2), (a3, x.Cur.Win.Bits.length, c3)]) (Wp.ms (l := [(a1, x.Sn.length, c1)]) (Wp.kp p4 k204) (rd_cap r219) rfl k208 (ap_cons (rd_cap r206) (ap.1.2.2.1) ap_nil)) (rd_cap r219) rfl k215 (ap_cons (rd_cap r211) (ap.2.1.2.1) (ap_cons (rd_cap r212) (ap.2.2.1.1) ap_nil)))
  have wp222 : Wp w3 3 a5 x.Old.Win.Bits.length c5 _ := (Wp.ms (l := [(a2, x.Cur.Key.length, c2), (a3, x.Cur.Win.Bits.length, c3)]) (Wp.ms (l := [(a1, x.Sn.length, c1)]) (Wp.kp p5 k204) (rd_cap r220) rfl k208 (ap_cons (rd_cap r206) (ap.1.2.2.2.1) ap_nil)) (rd_cap r220) rfl k215 (ap_cons (rd_cap r211) (ap.2.1.2.2.1) (ap_cons (rd_cap r212) (ap.2.2.1.2.1) ap_nil)))
  refine wl_call (want_none rfl) (args := #[(.agg #[(.int .i64 x.Old.N), (.slice a4 x.Old.Key.length c4), (.int .i64 x.Old.Seq), (.int .i64 x.Old.Win.Top), (.slice a5 x.Old.Win.Bits.length c5)]), (.int .i64 (((k + (x.Sn.length : Int)) + (x.Cur.Key.length : Int)) + (x.Cur.Win.Bits.length : Int)))]) rfl rfl (by kernel_rfl) (C_laws_markEp w3 a4 c4 a5 c5 x.Old (((k + (x.Sn.length : Int)) + (x.Cur.Key.length : Int)) + (x.Cur.Win.Bits.length : Int)) (by omega) (by omega) s4 r219 wp221 s5 r220 wp222 ⟨⟨(ap.2.2.2.1.1), trivial⟩, ⟨trivial, trivial⟩⟩) ?_
  rintro _ w4 ⟨rfl, k223, r224, r225⟩
  refine wl_mv (.int .i64 (((((k + (x.Sn.length : Int)) + (x.Cur.Key.length : Int)) + (x.Cur.Win.Bits.length : Int)) + (x.Old.Key.length : Int)) + (x.Old.Win.Bits.length : Int))) (want_none rfl) rfl rfl (.inr rfl) rfl ?_
  refine wl_nil ?_
  refine wq_then ?_
  refine wc_seq ?_
  refine wc_region ?_
  refine wl_pure (.pointer (some ⟨g201, 14, none⟩)) (want_none rfl) rfl rfl (by kernel_rfl) ?_
  have b226 := (b218.ch k223 (ms_lo (ms_lo_cons (fun hn x hx hb => by have := Wp.lt p4 hn x hx; have := Nat.le_trans (Nat.le_refl _) p202; omega) (ms_lo_cons (fun hn x hx hb => by have := Wp.lt p5 hn x hx; have := Nat.le_trans (Nat.le_refl _) p202; omega) ms_lo_nil))))
  refine wl_load1 (.slice a6 x.Next.length c6) (want_none rfl) rfl rfl rfl rfl isAgg_22 b226 rfl ?_
  refine wl_mv (.int .i64 (((((k + (x.Sn.length : Int)) + (x.Cur.Key.length : Int)) + (x.Cur.Win.Bits.length : Int)) + (x.Old.Key.length : Int)) + (x.Old.Win.Bits.length : Int))) (want_none rfl) rfl rfl (.inl rfl) rfl ?_
  have r227 := (Rd.ms (l := [(a4, x.Old.Key.length, c4), (a5, x.Old.Win.Bits.length, c5)]) (Rd.ms (l := [(a2, x.Cur.Key.length, c2), (a3, x.Cur.Win.Bits.length, c3)]) (Rd.ms (l := [(a1, x.Sn.length, c1)]) (r6.kp k204) rfl k208 (ap_cons (rd_cap r206) (ap.1.2.2.2.2.1) ap_nil)) rfl k215 (ap_cons (rd_cap r211) (ap.2.1.2.2.2.1) (ap_cons (rd_cap r212) (ap.2.2.1.2.2.1) ap_nil))) rfl k223 (ap_cons (rd_cap r219) (ap.2.2.2.1.2.1) (ap_cons (rd_cap r220) (ap.2.2.2.2.1.1) ap_nil)))
  have wp228 : Wp w4 5 a6 x.Next.length c6 _ := (Wp.ms (l := [(a4, x.Old.Key.length, c4), (a5, x.Old.Win.Bits.length, c5)]) (Wp.ms (l := [(a2, x.Cur.Key.length, c2), (a3, x.Cur.Win.Bits.length, c3)]) (Wp.ms (l := [(a1, x.Sn.length, c1)]) (Wp.kp p6 k204) (rd_cap r227) rfl k208 (ap_cons (rd_cap r206) (ap.1.2.2.2.2.1) ap_nil)) (rd_cap r227) rfl k215 (ap_cons (rd_cap r211) (ap.2.1.2.2.2.1) (ap_cons (rd_cap r212) (ap.2.2.1.2.2.1) ap_nil))) (rd_cap r227) rfl k223 (ap_cons (rd_cap r219) (ap.2.2.2.1.2.1) (ap_cons (rd_cap r220) (ap.2.2.2.2.1.1) ap_nil)))
  refine wl_call (want_none rfl) (args := #[(.slice a6 x.Next.length c6), (.int .i64 (((((k + (x.Sn.length : Int)) + (x.Cur.Key.length : Int)) + (x.Cur.Win.Bits.length : Int)) + (x.Old.Key.length : Int)) + (x.Old.Win.Bits.length : Int)))]) rfl rfl (by kernel_rfl) (C_laws_markByteS w4 a6 c6 x.Next (((((k + (x.Sn.length : Int)) + (x.Cur.Key.length : Int)) + (x.Cur.Win.Bits.length : Int)) + (x.Old.Key.length : Int)) + (x.Old.Win.Bits.length : Int)) (by omega) (by omega) s6 r227 wp228) ?_
  rintro _ w5 ⟨rfl, k229, r230⟩
  refine wl_mv (.int .i64 ((((((k + (x.Sn.length : Int)) + (x.Cur.Key.length : Int)) + (x.Cur.Win.Bits.length : Int)) + (x.Old.Key.length : Int)) + (x.Old.Win.Bits.length : Int)) + (x.Next.length : Int))) (want_none rfl) rfl rfl (.inr rfl) rfl ?_
  refine wl_nil ?_
  refine wq_then ?_
  refine wc_seq ?_
  refine wc_region ?_
  refine wl_mv (.int .i64 ((((((k + (x.Sn.length : Int)) + (x.Cur.Key.length : Int)) + (x.Cur.Win.Bits.length : Int)) + (x.Old.Key.length : Int)) + (x.Old.Win.Bits.length : Int)) + (x.Next.length : Int))) (want_none rfl) rfl rfl (.inl rfl) rfl ?_
  refine wl_mv (.int .i64 ((((((k + (x.Sn.length : Int)) + (x.Cur.Key.length : Int)) + (x.Cur.Win.Bits.length : Int)) + (x.Old.Key.length : Int)) + (x.Old.Win.Bits.length : Int)) + (x.Next.length : Int))) (want_none rfl) rfl rfl (.inr rfl) rfl ?_
  refine wl_nil ?_
  refine wq_then ?_
  refine wc_ret ?_
  have r231 := (Rd.ms (l := [(a6, x.Next.length, c6)]) (Rd.ms (l := [(a4, x.Old.Key.length, c4), (a5, x.Old.Win.Bits.length, c5)]) (Rd.ms (l := [(a2, x.Cur.Key.length, c2), (a3, x.Cur.Win.Bits.length, c3)]) r209 rfl k215 (ap_cons (rd_cap r211) (ap.1.1).symm (ap_cons (rd_cap r212) (ap.1.2.1).symm ap_nil))) rfl k223 (ap_cons (rd_cap r219) (ap.1.2.2.1).symm (ap_cons (rd_cap r220) (ap.1.2.2.2.1).symm ap_nil))) rfl k229 (ap_cons (rd_cap r227) (ap.1.2.2.2.2.1).symm ap_nil))
  have r232 := (Rd.ms (l := [(a6, x.Next.length, c6)]) (Rd.ms (l := [(a4, x.Old.Key.length, c4), (a5, x.Old.Win.Bits.length, c5)]) r216 rfl k223 (ap_cons (rd_cap r219) (ap.2.1.2.1).symm (ap_cons (rd_cap r220) (ap.2.1.2.2.1).symm ap_nil))) rfl k229 (ap_cons (rd_cap r227) (ap.2.1.2.2.2.1).symm ap_nil))
  have r233 := (Rd.ms (l := [(a6, x.Next.length, c6)]) (Rd.ms (l := [(a4, x.Old.Key.length, c4), (a5, x.Old.Win.Bits.length, c5)]) r217 rfl k223 (ap_cons (rd_cap r219) (ap.2.2.1.1).symm (ap_cons (rd_cap r220) (ap.2.2.1.2.1).symm ap_nil))) rfl k229 (ap_cons (rd_cap r227) (ap.2.2.1.2.2.1).symm ap_nil))
  have r234 := (Rd.ms (l := [(a6, x.Next.length, c6)]) r224 rfl k229 (ap_cons (rd_cap r227) (ap.2.2.2.1.2.1).symm ap_nil))
  have r235 := (Rd.ms (l := [(a6, x.Next.length, c6)]) r225 rfl k229 (ap_cons (rd_cap r227) (ap.2.2.2.2.1.1).symm ap_nil))
  exact ret_1 (.inl rfl) (.int .i64 ((((((k + (x.Sn.length : Int)) + (x.Cur.Key.length : Int)) + (x.Cur.Win.Bits.length : Int)) + (x.Old.Key.length : Int)) + (x.Old.Win.Bits.length : Int)) + (x.Next.length : Int))) rfl rfl ⟨rfl, ((((((Ch.refl (MS [(a1, x.Sn.length), (a2, x.Cur.Key.length), (a3, x.Cur.Win.Bits.length), (a4, x.Old.Key.length), (a5, x.Old.Win.Bits.length), (a6, x.Next.length)]) w0).comp k204 (fun _ _ h => h.elim)).comp k208 (fun _ _ h => ms_sub [] [(a2, x.Cur.Key.length), (a3, x.Cur.Win.Bits.length), (a4, x.Old.Key.length), (a5, x.Old.Win.Bits.length), (a6, x.Next.length)] h)).comp k215 (fun _ _ h => ms_sub [(a1, x.Sn.length)] [(a4, x.Old.Key.length), (a5, x.Old.Win.Bits.length), (a6, x.Next.length)] h)).comp k223 (fun _ _ h => ms_sub [(a1, x.Sn.length), (a2, x.Cur.Key.length), (a3, x.Cur.Win.Bits.length)] [(a6, x.Next.length)] h)).comp k229 (fun _ _ h => ms_sub [(a1, x.Sn.length), (a2, x.Cur.Key.length), (a3, x.Cur.Win.Bits.length), (a4, x.Old.Key.length), (a5, x.Old.Win.Bits.length)] [] h)), r231, r232, r233, r234, r235, r230⟩

theorem C_laws_heldByteS (w0 : World) (v_x_a : Value) (x_a : List UInt8) (r_x_a : R_22 w0 v_x_a x_a) (x_k : Int) (pre0 : 0 ≤ x_k) (pre1 : x_k ≤ 9000000000000000000) : Fn Try.prog 31 #[v_x_a, (.int .i64 x_k)] w0 (fun v w' => Keep w0 w' ∧ O_3 w' w0.heap.size v (heldB x_a x_k)) := by
  obtain ⟨a1, c2, rfl, r3, s4⟩ := r_x_a
  refine fn_of (n := 22) (l := [(.slice a1 x_a.length c2), (.int .i64 x_k), undef, undef, undef, undef, undef, undef, undef, undef, undef, undef, undef, undef, undef, undef, undef, undef, undef, undef, undef, undef]) Try.func31 rfl rfl (by kernel_rfl) rfl ?_
  refine wc_seq ?_
  refine wc_region ?_
  refine wl_mv (.int .i64 0) (want_none rfl) rfl rfl (.inr rfl) rfl ?_
  refine wl_nil ?_
  refine wq_then ?_
  refine wc_seq ?_
  refine wc_seq ?_
  refine wc_region ?_
  refine wl_mv (.int .i64 0) (want_none rfl) rfl rfl (.inr rfl) rfl ?_
  refine wl_nil ?_
  refine wq_then ?_
  refine wc_block ?_
  refine wc_norm [(.slice a1 x_a.length c2), (.int .i64 x_k), undef, undef, (.int .i64 0), (.int .i64 0), undef, undef, undef, undef, undef, undef, undef, undef, undef, undef, undef, undef, undef, undef, undef, undef] rfl ⟨rfl, rfl, rfl, rfl, rfl, rfl, rfl, rfl, rfl, rfl, rfl, rfl, rfl, rfl, rfl, rfl, rfl, rfl, rfl, rfl, rfl, rfl, trivial⟩ ?_
  refine wc_loop (fun e' w' => ∃ (i : Nat) (u4x u6x u7x u8x u9x u10x u11x u12x u13x u14x u15x u16x u17x u18x u19x u20x : Value), e' = lst [(.slice a1 x_a.length c2), (.int .i64 (x_k + ((i : Nat) : Int))), undef, undef, u4x, (.int .i64 ((i : Nat) : Int)), u6x, u7x, u8x, u9x, u10x, u11x, u12x, u13x, u14x, u15x, u16x, u17x, u18x, u19x, u20x, undef] ∧ Ch (fun k => w0.heap.size ≤ k) w0 w' ∧ Ch (fun k => w0.heap.size ≤ k) w0 w' ∧ i ≤ x_a.length ∧ heldB x_a x_k = heldB (x_a.drop i) (x_k + ((i : Nat) : Int))) (fun e' _ => x_a.length - ((intOf (e' 5))).toNat) ?_ ?_
  · exact ⟨0, (.int .i64 0), undef, undef, undef, undef, undef, undef, undef, undef, undef, undef, undef, undef, undef, undef, undef, (cg2 (fun (x1z : Value) (x5z : Value) => lst [(.slice a1 x_a.length c2), x1z, undef, undef, (.int .i64 0), x5z, undef, undef, undef, undef, undef, undef, undef, undef, undef, undef, undef, undef, undef, undef, undef, undef]) (congrArg (Value.int .i64) (show (x_k : Int) = (x_k + ((0 : Nat) : Int)) by omega)) (congrArg (Value.int .i64) (show (0 : Int) = ((0 : Nat) : Int) by omega))), (Ch.base w0), (Ch.refl (fun k => w0.heap.size ≤ k) w0), (by omega), (by first | exact heldB_next (by assumption) (by omega) (by assumption) | simp)⟩
  · rintro _ w1 ⟨i, u4x, u6x, u7x, u8x, u9x, u10x, u11x, u12x, u13x, u14x, u15x, u16x, u17x, u18x, u19x, u20x, rfl, m6, k7, i8, i9⟩
    refine wc_seq ?_
    refine wc_seq ?_
    refine wc_region ?_
    refine wl_mv (.int .i64 ((i : Nat) : Int)) (want_none rfl) rfl rfl (.inl rfl) rfl ?_
    refine wl_mv (.slice a1 x_a.length c2) (want_none rfl) rfl rfl (.inl rfl) rfl ?_
    refine wl_len (want_none rfl) rfl rfl rfl slTy_22 rfl (r3.from0 m6) ?_
    refine wl_pure (.bool (decide (((i : Nat) : Int) < (x_a.length : Int)))) (want_none rfl) rfl rfl (by kernel_rfl) ?_
    refine wl_nil ?_
    refine wq_then ?_
    rcases Bool.eq_false_or_eq_true (decide (((i : Nat) : Int) < (x_a.length : Int))) with h10 | h10
    · have q11 := of_decide_eq_true h10
      refine wc_true (congrArg Value.bool h10) ?_
      refine wc_skip ?_
      refine wq_then ?_
      refine wc_seq ?_
      refine wc_block ?_
      refine wc_seq ?_
      refine wc_seq ?_
      refine wc_region ?_
      refine wl_mv (.slice a1 x_a.length c2) (want_none rfl) rfl rfl (.inl rfl) rfl ?_
      refine wl_mv (.int .i64 ((i : Nat) : Int)) (want_none rfl) rfl rfl (.inl rfl) rfl ?_
      refine wl_index (want_none rfl) ((i : Nat) : Int) rfl rfl rfl slTy_22 rfl rfl (r3.from0 m6) (by first | omega | (simp only [List.length_cons, List.length_nil, List.length_replicate, List.length_append, List.length_take, List.length_set, List.length_map]; omega)) (by first | omega | (simp only [List.length_cons, List.length_nil, List.length_replicate, List.length_append, List.length_take, List.length_set, List.length_map]; omega)) ?_
      refine wl_loadE (bV (x_a.getD i 0)) (want_none rfl) rfl rfl rfl rfl isAgg_5 (r3.from0 m6) (bget (by simp) (by first | omega | (simp only [List.length_cons, List.length_nil, List.length_replicate, List.length_append, List.length_take, List.length_set, List.length_map]; omega))) ?_
      refine wl_mv (.int .i64 (x_k + ((i : Nat) : Int))) (want_none rfl) rfl rfl (.inl rfl) rfl ?_
      refine wl_conv8 (x_k + ((i : Nat) : Int)) (want_none rfl) rfl rfl (by kernel_rfl) ?_
      refine wl_pure (.bool (!(decide (((x_a.getD i 0).toNat : Int) = ((by8 (x_k + ((i : Nat) : Int))).toNat : Int))))) (want_none rfl) rfl rfl (by kernel_rfl) ?_
      refine wl_nil ?_
      refine wq_then ?_
      rcases Bool.eq_false_or_eq_true (decide (((x_a.getD i 0).toNat : Int) = ((by8 (x_k + ((i : Nat) : Int))).toNat : Int))) with h12 | h12
      · have q13 := of_decide_eq_true h12
        refine wc_false (congrArg (fun b => Value.bool (!b)) h12) ?_
        refine wc_skip ?_
        refine wq_then ?_
        refine wc_region ?_
        refine wl_mv (.int .i64 (x_k + ((i : Nat) : Int))) (want_none rfl) rfl rfl (.inl rfl) rfl ?_
        refine wl_arith ((x_k + ((i : Nat) : Int)) + 1) (want_none rfl) rfl rfl (by kernel_rfl) (by omega) (by omega) ?_
        refine wl_mv (.int .i64 ((x_k + ((i : Nat) : Int)) + 1)) (want_none rfl) rfl rfl (.inr rfl) rfl ?_
        refine wl_nil ?_
        refine wq_blk_normal ?_
        refine wq_then ?_
        refine wc_region ?_
        refine wl_mv (.int .i64 ((i : Nat) : Int)) (want_none rfl) rfl rfl (.inl rfl) rfl ?_
        refine wl_arith (((i : Nat) : Int) + 1) (want_none rfl) rfl rfl (by kernel_rfl) (by omega) (by omega) ?_
        refine wl_mv (.int .i64 (((i : Nat) : Int) + 1)) (want_none rfl) rfl rfl (.inr rfl) rfl ?_
        refine wl_nil ?_
        exact wq_loopN (w0 := w1) [(.slice a1 x_a.length c2), (.int .i64 (x_k + (((i + 1) : Nat) : Int))), undef, undef, u4x, (.int .i64 (((i + 1) : Nat) : Int)), (.int .i64 ((i : Nat) : Int)), (.slice a1 x_a.length c2), (.int .i64 (x_a.length : Int)), (.bool (decide (((i : Nat) : Int) < (x_a.length : Int)))), (.int .i64 ((i : Nat) : Int)), (.int .i64 (((i : Nat) : Int) + 1)), (.slice a1 x_a.length c2), (.int .i64 ((i : Nat) : Int)), (.pointer (some (elA (.slice a1 x_a.length c2) ((((i : Nat) : Int)).toNat * 1)))), (.int .u8 ((x_a.getD i 0).toNat : Int)), (.int .i64 (x_k + ((i : Nat) : Int))), (.int .u8 ((by8 (x_k + ((i : Nat) : Int))).toNat : Int)), (.bool (!(decide (((x_a.getD i 0).toNat : Int) = ((by8 (x_k + ((i : Nat) : Int))).toNat : Int))))), (.int .i64 (x_k + ((i : Nat) : Int))), (.int .i64 ((x_k + ((i : Nat) : Int)) + 1)), undef] rfl ⟨rfl, (congrArg (Value.int .i64) (show (((x_k + ((i : Nat) : Int)) + 1) : Int) = (x_k + (((i + 1) : Nat) : Int)) by omega)), rfl, rfl, rfl, (congrArg (Value.int .i64) (show ((((i : Nat) : Int) + 1) : Int) = (((i + 1) : Nat) : Int) by omega)), rfl, rfl, rfl, rfl, rfl, rfl, rfl, rfl, rfl, rfl, rfl, rfl, rfl, rfl, rfl, rfl, trivial⟩ ⟨(i + 1), u4x, (.int .i64 ((i : Nat) : Int)), (.slice a1 x_a.length c2), (.int .i64 (x_a.length : Int)), (.bool (decide (((i : Nat) : Int) < (x_a.length : Int)))), (.int .i64 ((i : Nat) : Int)), (.int .i64 (((i : Nat) : Int) + 1)), (.slice a1 x_a.length c2), (.int .i64 ((i : Nat) : Int)), (.pointer (some (elA (.slice a1 x_a.length c2) ((((i : Nat) : Int)).toNat * 1)))), (.int .u8 ((x_a.getD i 0).toNat : Int)), (.int .i64 (x_k + ((i : Nat) : Int))), (.int .u8 ((by8 (x_k + ((i : Nat) : Int))).toNat : Int)), (.bool (!(decide (((x_a.getD i 0).toNat : Int) = ((by8 (x_k + ((i : Nat) : Int))).toNat : Int))))), (.int .i64 (x_k + ((i : Nat) : Int))), (.int .i64 ((x_k + ((i : Nat) : Int)) + 1)), rfl, m6, ((Ch.refl (fun k => w0.heap.size ≤ k) w0).ext k7 (fun k hk => Nat.le_trans (Nat.le_refl _) hk)), (by omega), (by first | exact heldB_next (by assumption) (by omega) (by assumption) | simp)⟩ (by show x_a.length - ((((i + 1) : Nat) : Int)).toNat < x_a.length - (((i : Nat) : Int)).toNat; omega)
      · have q14 := of_decide_eq_false h12
        refine wc_true (congrArg (fun b => Value.bool (!b)) h12) ?_
        refine wc_seq ?_
        refine wc_region ?_
        refine wl_mv (.int .i64 (-1)) (want_none rfl) rfl rfl (.inr rfl) rfl ?_
        refine wl_nil ?_
        refine wq_then ?_
        refine wc_ret ?_
        refine wq_then_ret ?_
        refine wq_blk_ret ?_
        refine wq_then_ret ?_
        refine wq_then_ret ?_
        refine wq_blk_ret ?_
        refine wq_then_ret ?_
        refine ret_1 (.inl rfl) (.int .i64 (-1)) rfl rfl ?_
        refine ⟨m6.keep0, ?_⟩
        have hF15 : heldB x_a x_k = (-1) := by first | exact heldB_ne (by assumption) (by omega) (by assumption) | exact heldB_end (by assumption) (by omega)
        rw [hF15]
        exact rfl
    · have q16 := of_decide_eq_false h10
      refine wc_false (congrArg Value.bool h10) ?_
      refine wc_exit ?_
      refine wq_then_exit ?_
      refine wq_then_exit ?_
      refine wq_blk_exit ?_
      refine wq_then ?_
      refine wc_seq ?_
      refine wc_region ?_
      refine wl_mv (.int .i64 (x_k + ((i : Nat) : Int))) (want_none rfl) rfl rfl (.inl rfl) rfl ?_
      refine wl_mv (.int .i64 (x_k + ((i : Nat) : Int))) (want_none rfl) rfl rfl (.inr rfl) rfl ?_
      refine wl_nil ?_
      refine wq_then ?_
      refine wc_ret ?_
      refine ret_1 (.inl rfl) (.int .i64 (x_k + ((i : Nat) : Int))) rfl rfl ?_
      refine ⟨m6.keep0, ?_⟩
      have hF17 : heldB x_a x_k = (x_k + ((i : Nat) : Int)) := by first | exact heldB_ne (by assumption) (by omega) (by assumption) | exact heldB_end (by assumption) (by omega)
      rw [hF17]
      exact rfl

def F_laws_FnExactKeyFor (x_aC : PChan) (x_aN : Int) : (Bool) := bif (decide ((F_laws_szChan x_aC 1048576) < 0)) then (true) else (bif (eqB ((F_impl_KeyFor (F_laws_toChan x_aC) x_aN).1) ((F_spec_KeyFor (F_laws_toChan x_aC) x_aN).1)) then (bif (((F_impl_KeyFor (F_laws_toChan x_aC) x_aN).2) == ((F_spec_KeyFor (F_laws_toChan x_aC) x_aN).2)) then (bif (F_laws_eqChan (F_laws_toChan x_aC) (F_laws_toChan x_aC)) then (bif (decide (((((((1 + (((F_laws_toChan x_aC).Sn).length : Int)) + ((((F_laws_toChan x_aC).Cur).Key).length : Int)) + (((((F_laws_toChan x_aC).Cur).Win).Bits).length : Int)) + ((((F_laws_toChan x_aC).Old).Key).length : Int)) + (((((F_laws_toChan x_aC).Old).Win).Bits).length : Int)) + (((F_laws_toChan x_aC).Next).length : Int)) < 0)) then (false) else (bif (decide ((heldB (marksB 1 ((F_impl_KeyFor (F_laws_toChan x_aC) x_aN).1).length) 1) < 0)) then (false) else (bif (decide ((heldB (marksB 1 ((F_impl_KeyFor (F_laws_toChan x_aC) x_aN).1).length) 1) = (1 + (((F_impl_KeyFor (F_laws_toChan x_aC) x_aN).1).length : Int)))) then (true) else (false)))) else (false)) else (false)) else (false))
theorem C_laws_FnExactKeyFor (w0 : World) (v_x_aC : Value) (x_aC : PChan) (r_x_aC : Q_41 w0 v_x_aC x_aC) (x_aN : Int)  : Fn Try.prog 6 #[v_x_aC, (.int .i64 x_aN)] w0 (fun v w' => Keep w0 w' ∧ O_4 w' w0.heap.size v (F_laws_FnExactKeyFor x_aC x_aN)) := by
  obtain ⟨a1, c2, a6, c7, a11, c12, a16, c17, a21, c22, a26, c27, rfl, r3, s4, r8, s9, r13, s14, r18, s19, r23, s24, r28, s29⟩ := r_x_aC
  refine fn_of (n := 101) (l := [(.agg #[(.int .i64 x_aC.Role), (.slice a1 x_aC.Sn.length c2), (.int .i64 x_aC.Cur.N), (.slice a6 x_aC.Cur.Key.length c7), (.int .i64 x_aC.Cur.Seq), (.int .i64 x_aC.Cur.Win.Top), (.slice a11 x_aC.Cur.Win.Bits.length c12), (.int .i64 x_aC.Old.N), (.slice a16 x_aC.Old.Key.length c17), (.int .i64 x_aC.Old.Seq), (.int .i64 x_aC.Old.Win.Top), (.slice a21 x_aC.Old.Win.Bits.length c22), (.bool x_aC.HasOld), (.int .i64 x_aC.Until), (.slice a26 x_aC.Next.length c27)]), (.int .i64 x_aN), undef, undef, undef, undef, undef, undef, undef, undef, undef, undef, undef, undef, undef, undef, undef, undef, undef, undef, undef, undef, undef, undef, undef, undef, undef, undef, undef, undef, undef, undef, undef, undef, undef, undef, undef, undef, undef, undef, undef, undef, undef, undef, undef, undef, undef, undef, undef, undef, undef, undef, undef, undef, undef, undef, undef, undef, undef, undef, undef, undef, undef, undef, undef, undef, undef, undef, undef, undef, undef, undef, undef, undef, undef, undef, undef, undef, undef, undef, undef, undef, undef, undef, undef, undef, undef, undef, undef, undef, undef, undef, undef, undef, undef, undef, undef, undef, undef, undef, undef]) Try.func6 rfl rfl (by kernel_rfl) rfl ?_
  refine wc_seq ?_
  refine wc_region ?_
  refine wl_box (want_none rfl) [(.int .i64 x_aC.Role), (.slice a1 x_aC.Sn.length c2), (.int .i64 x_aC.Cur.N), (.slice a6 x_aC.Cur.Key.length c7), (.int .i64 x_aC.Cur.Seq), (.int .i64 x_aC.Cur.Win.Top), (.slice a11 x_aC.Cur.Win.Bits.length c12), (.int .i64 x_aC.Old.N), (.slice a16 x_aC.Old.Key.length c17), (.int .i64 x_aC.Old.Seq), (.int .i64 x_aC.Old.Win.Top), (.slice a21 x_aC.Old.Win.Bits.length c22), (.bool x_aC.HasOld), (.int .i64 x_aC.Until), (.slice a26 x_aC.Next.length c27)] rfl rfl rfl rfl ?_
  intro g31 w1 p32 p33 k34 b35
  have m36 := (Ch.base w0).extk k34
  refine wl_mv (.bool false) (want_none rfl) rfl rfl (.inr rfl) rfl ?_
  refine wl_nil ?_
  refine wq_then ?_
  refine wc_seq ?_
  refine wc_region ?_
  refine wl_mv (.int .i64 1048576) (want_none rfl) rfl rfl (.inr rfl) rfl ?_
  refine wl_nil ?_
  refine wq_then ?_
  refine wc_seq ?_
  refine wc_region ?_
  refine wl_loadN [(.int .i64 x_aC.Role), (.slice a1 x_aC.Sn.length c2), (.int .i64 x_aC.Cur.N), (.slice a6 x_aC.Cur.Key.length c7), (.int .i64 x_aC.Cur.Seq), (.int .i64 x_aC.Cur.Win.Top), (.slice a11 x_aC.Cur.Win.Bits.length c12), (.int .i64 x_aC.Old.N), (.slice a16 x_aC.Old.Key.length c17), (.int .i64 x_aC.Old.Seq), (.int .i64 x_aC.Old.Win.Top), (.slice a21 x_aC.Old.Win.Bits.length c22), (.bool x_aC.HasOld), (.int .i64 x_aC.Until), (.slice a26 x_aC.Next.length c27)] (want_none rfl) rfl rfl rfl rfl isAgg_41 sizeOf_41 b35 rfl ?_
  refine wl_mv (.int .i64 1048576) (want_none rfl) rfl rfl (.inl rfl) rfl ?_
  refine wl_call (want_none rfl) (args := #[(.agg #[(.int .i64 x_aC.Role), (.slice a1 x_aC.Sn.length c2), (.int .i64 x_aC.Cur.N), (.slice a6 x_aC.Cur.Key.length c7), (.int .i64 x_aC.Cur.Seq), (.int .i64 x_aC.Cur.Win.Top), (.slice a11 x_aC.Cur.Win.Bits.length c12), (.int .i64 x_aC.Old.N), (.slice a16 x_aC.Old.Key.length c17), (.int .i64 x_aC.Old.Seq), (.int .i64 x_aC.Old.Win.Top), (.slice a21 x_aC.Old.Win.Bits.length c22), (.bool x_aC.HasOld), (.int .i64 x_aC.Until), (.slice a26 x_aC.Next.length c27)]), (.int .i64 1048576)]) rfl rfl (by kernel_rfl) (C_laws_szChan w1 (.agg #[(.int .i64 x_aC.Role), (.slice a1 x_aC.Sn.length c2), (.int .i64 x_aC.Cur.N), (.slice a6 x_aC.Cur.Key.length c7), (.int .i64 x_aC.Cur.Seq), (.int .i64 x_aC.Cur.Win.Top), (.slice a11 x_aC.Cur.Win.Bits.length c12), (.int .i64 x_aC.Old.N), (.slice a16 x_aC.Old.Key.length c17), (.int .i64 x_aC.Old.Seq), (.int .i64 x_aC.Old.Win.Top), (.slice a21 x_aC.Old.Win.Bits.length c22), (.bool x_aC.HasOld), (.int .i64 x_aC.Until), (.slice a26 x_aC.Next.length c27)]) x_aC (show Q_41 w1 (.agg #[(.int .i64 x_aC.Role), (.slice a1 x_aC.Sn.length c2), (.int .i64 x_aC.Cur.N), (.slice a6 x_aC.Cur.Key.length c7), (.int .i64 x_aC.Cur.Seq), (.int .i64 x_aC.Cur.Win.Top), (.slice a11 x_aC.Cur.Win.Bits.length c12), (.int .i64 x_aC.Old.N), (.slice a16 x_aC.Old.Key.length c17), (.int .i64 x_aC.Old.Seq), (.int .i64 x_aC.Old.Win.Top), (.slice a21 x_aC.Old.Win.Bits.length c22), (.bool x_aC.HasOld), (.int .i64 x_aC.Until), (.slice a26 x_aC.Next.length c27)]) x_aC from ⟨_, _, _, _, _, _, _, _, _, _, _, _, rfl, (r3.from0 m36), s4, (r8.from0 m36), s9, (r13.from0 m36), s14, (r18.from0 m36), s19, (r23.from0 m36), s24, (r28.from0 m36), s29⟩) 1048576 (by omega) (by omega)) ?_
  rintro _ w2 ⟨k37, rfl⟩
  have m38 := m36.extk k37
  have q39 := laws_szChan_le x_aC 1048576
  refine wl_mv (.int .i64 (F_laws_szChan x_aC 1048576)) (want_none rfl) rfl rfl (.inr rfl) rfl ?_
  refine wl_nil ?_
  refine wq_then ?_
  refine wc_seq ?_
  refine wc_seq ?_
  refine wc_region ?_
  refine wl_mv (.int .i64 (F_laws_szChan x_aC 1048576)) (want_none rfl) rfl rfl (.inl rfl) rfl ?_
  refine wl_pure (.bool (decide ((F_laws_szChan x_aC 1048576) < 0))) (want_none rfl) rfl rfl (by kernel_rfl) ?_
  refine wl_nil ?_
  refine wq_then ?_
  rcases Bool.eq_false_or_eq_true (decide ((F_laws_szChan x_aC 1048576) < 0)) with h40 | h40
  · have q41 := of_decide_eq_true h40
    refine wc_true (congrArg Value.bool h40) ?_
    refine wc_seq ?_
    refine wc_region ?_
    refine wl_mv (.bool true) (want_none rfl) rfl rfl (.inr rfl) rfl ?_
    refine wl_nil ?_
    refine wq_then ?_
    refine wc_ret ?_
    refine wq_then_ret ?_
    refine ret_1 (.inl rfl) (.bool true) rfl rfl ?_
    refine ⟨m38.keep0, ?_⟩
    have hF42 : F_laws_FnExactKeyFor x_aC x_aN = true := by simp only [F_laws_FnExactKeyFor, h40, cond_true, cond_false]
    rw [hF42]
    exact rfl
  · have q43 := of_decide_eq_false h40
    refine wc_false (congrArg Value.bool h40) ?_
    refine wc_skip ?_
    refine wq_then ?_
    refine wc_seq ?_
    refine wc_region ?_
    have b44 := (b35.kp k37)
    refine wl_loadN [(.int .i64 x_aC.Role), (.slice a1 x_aC.Sn.length c2), (.int .i64 x_aC.Cur.N), (.slice a6 x_aC.Cur.Key.length c7), (.int .i64 x_aC.Cur.Seq), (.int .i64 x_aC.Cur.Win.Top), (.slice a11 x_aC.Cur.Win.Bits.length c12), (.int .i64 x_aC.Old.N), (.slice a16 x_aC.Old.Key.length c17), (.int .i64 x_aC.Old.Seq), (.int .i64 x_aC.Old.Win.Top), (.slice a21 x_aC.Old.Win.Bits.length c22), (.bool x_aC.HasOld), (.int .i64 x_aC.Until), (.slice a26 x_aC.Next.length c27)] (want_none rfl) rfl rfl rfl rfl isAgg_41 sizeOf_41 b44 rfl ?_
    refine wl_call (want_none rfl) (args := #[(.agg #[(.int .i64 x_aC.Role), (.slice a1 x_aC.Sn.length c2), (.int .i64 x_aC.Cur.N), (.slice a6 x_aC.Cur.Key.length c7), (.int .i64 x_aC.Cur.Seq), (.int .i64 x_aC.Cur.Win.Top), (.slice a11 x_aC.Cur.Win.Bits.length c12), (.int .i64 x_aC.Old.N), (.slice a16 x_aC.Old.Key.length c17), (.int .i64 x_aC.Old.Seq), (.int .i64 x_aC.Old.Win.Top), (.slice a21 x_aC.Old.Win.Bits.length c22), (.bool x_aC.HasOld), (.int .i64 x_aC.Until), (.slice a26 x_aC.Next.length c27)])]) rfl rfl (by kernel_rfl) (C_laws_toChan w2 (.agg #[(.int .i64 x_aC.Role), (.slice a1 x_aC.Sn.length c2), (.int .i64 x_aC.Cur.N), (.slice a6 x_aC.Cur.Key.length c7), (.int .i64 x_aC.Cur.Seq), (.int .i64 x_aC.Cur.Win.Top), (.slice a11 x_aC.Cur.Win.Bits.length c12), (.int .i64 x_aC.Old.N), (.slice a16 x_aC.Old.Key.length c17), (.int .i64 x_aC.Old.Seq), (.int .i64 x_aC.Old.Win.Top), (.slice a21 x_aC.Old.Win.Bits.length c22), (.bool x_aC.HasOld), (.int .i64 x_aC.Until), (.slice a26 x_aC.Next.length c27)]) x_aC (show R_41 w2 (.agg #[(.int .i64 x_aC.Role), (.slice a1 x_aC.Sn.length c2), (.int .i64 x_aC.Cur.N), (.slice a6 x_aC.Cur.Key.length c7), (.int .i64 x_aC.Cur.Seq), (.int .i64 x_aC.Cur.Win.Top), (.slice a11 x_aC.Cur.Win.Bits.length c12), (.int .i64 x_aC.Old.N), (.slice a16 x_aC.Old.Key.length c17), (.int .i64 x_aC.Old.Seq), (.int .i64 x_aC.Old.Win.Top), (.slice a21 x_aC.Old.Win.Bits.length c22), (.bool x_aC.HasOld), (.int .i64 x_aC.Until), (.slice a26 x_aC.Next.length c27)]) x_aC from ⟨_, _, _, _, _, _, _, _, _, _, _, _, rfl, (r3.from0 m38), (by omega), (r8.from0 m38), (by omega), (r13.from0 m38), (by omega), (r18.from0 m38), (by omega), (r23.from0 m38), (by omega), (r28.from0 m38), (by omega)⟩)) ?_
    rintro _ w3 ⟨k45, ⟨a46, c47, a51, c52, a56, c57, a61, c62, a66, c67, a71, c72, rfl, o48, s49, o53, s54, o58, s59, o63, s64, o68, s69, o73, s74, ap76⟩⟩
    have m77 := m38.extk k45
    refine wl_mv (.int .i64 x_aN) (want_none rfl) rfl rfl (.inl rfl) rfl ?_
    refine wl_call (want_none rfl) (args := #[(.agg #[(.int .i64 ((F_laws_toChan x_aC).Role)), (.slice a46 ((F_laws_toChan x_aC).Sn).length c47), (.int .i64 (((F_laws_toChan x_aC).Cur).N)), (.slice a51 (((F_laws_toChan x_aC).Cur).Key).length c52), (.int .i64 (((F_laws_toChan x_aC).Cur).Seq)), (.int .i64 ((((F_laws_toChan x_aC).Cur).Win).Top)), (.slice a56 ((((F_laws_toChan x_aC).Cur).Win).Bits).length c57), (.int .i64 (((F_laws_toChan x_aC).Old).N)), (.slice a61 (((F_laws_toChan x_aC).Old).Key).length c62), (.int .i64 (((F_laws_toChan x_aC).Old).Seq)), (.int .i64 ((((F_laws_toChan x_aC).Old).Win).Top)), (.slice a66 ((((F_laws_toChan x_aC).Old).Win).Bits).length c67), (.bool ((F_laws_toChan x_aC).HasOld)), (.int .i64 ((F_laws_toChan x_aC).Until)), (.slice a71 ((F_laws_toChan x_aC).Next).length c72)]), (.int .i64 x_aN)]) rfl rfl (by kernel_rfl) (C_spec_KeyFor w3 (.agg #[(.int .i64 ((F_laws_toChan x_aC).Role)), (.slice a46 ((F_laws_toChan x_aC).Sn).length c47), (.int .i64 (((F_laws_toChan x_aC).Cur).N)), (.slice a51 (((F_laws_toChan x_aC).Cur).Key).length c52), (.int .i64 (((F_laws_toChan x_aC).Cur).Seq)), (.int .i64 ((((F_laws_toChan x_aC).Cur).Win).Top)), (.slice a56 ((((F_laws_toChan x_aC).Cur).Win).Bits).length c57), (.int .i64 (((F_laws_toChan x_aC).Old).N)), (.slice a61 (((F_laws_toChan x_aC).Old).Key).length c62), (.int .i64 (((F_laws_toChan x_aC).Old).Seq)), (.int .i64 ((((F_laws_toChan x_aC).Old).Win).Top)), (.slice a66 ((((F_laws_toChan x_aC).Old).Win).Bits).length c67), (.bool ((F_laws_toChan x_aC).HasOld)), (.int .i64 ((F_laws_toChan x_aC).Until)), (.slice a71 ((F_laws_toChan x_aC).Next).length c72)]) (F_laws_toChan x_aC) (show R_29 w3 (.agg #[(.int .i64 ((F_laws_toChan x_aC).Role)), (.slice a46 ((F_laws_toChan x_aC).Sn).length c47), (.int .i64 (((F_laws_toChan x_aC).Cur).N)), (.slice a51 (((F_laws_toChan x_aC).Cur).Key).length c52), (.int .i64 (((F_laws_toChan x_aC).Cur).Seq)), (.int .i64 ((((F_laws_toChan x_aC).Cur).Win).Top)), (.slice a56 ((((F_laws_toChan x_aC).Cur).Win).Bits).length c57), (.int .i64 (((F_laws_toChan x_aC).Old).N)), (.slice a61 (((F_laws_toChan x_aC).Old).Key).length c62), (.int .i64 (((F_laws_toChan x_aC).Old).Seq)), (.int .i64 ((((F_laws_toChan x_aC).Old).Win).Top)), (.slice a66 ((((F_laws_toChan x_aC).Old).Win).Bits).length c67), (.bool ((F_laws_toChan x_aC).HasOld)), (.int .i64 ((F_laws_toChan x_aC).Until)), (.slice a71 ((F_laws_toChan x_aC).Next).length c72)]) (F_laws_toChan x_aC) from ⟨_, _, _, _, _, _, _, _, _, _, _, _, rfl, (Rd.of_own o48), s49, (Rd.of_own o53), s54, (Rd.of_own o58), s59, (Rd.of_own o63), s64, (Rd.of_own o68), s69, (Rd.of_own o73), s74⟩) x_aN) ?_
    rintro _ w4 ⟨k78, ⟨a79, c80, rfl, o81, s82, ap84⟩⟩
    have m85 := m77.extk k78
    refine wl_mv (.tuple #[(.slice a79 ((F_spec_KeyFor (F_laws_toChan x_aC) x_aN).1).length c80), (.bool ((F_spec_KeyFor (F_laws_toChan x_aC) x_aN).2))]) (want_none rfl) rfl rfl (.inl rfl) rfl ?_
    refine wl_pure (.slice a79 ((F_spec_KeyFor (F_laws_toChan x_aC) x_aN).1).length c80) (want_none rfl) rfl rfl (by kernel_rfl) ?_
    refine wl_pure (.bool ((F_spec_KeyFor (F_laws_toChan x_aC) x_aN).2)) (want_none rfl) rfl rfl (by kernel_rfl) ?_
    refine wl_mv (.slice a79 ((F_spec_KeyFor (F_laws_toChan x_aC) x_aN).1).length c80) (want_none rfl) rfl rfl (.inr rfl) rfl ?_
    refine wl_mv (.bool ((F_spec_KeyFor (F_laws_toChan x_aC) x_aN).2)) (want_none rfl) rfl rfl (.inr rfl) rfl ?_
    refine wl_nil ?_
    refine wq_then ?_
    refine wc_seq ?_
    refine wc_region ?_
    have b86 := ((b44.kp k45).kp k78)
    refine wl_loadN [(.int .i64 x_aC.Role), (.slice a1 x_aC.Sn.length c2), (.int .i64 x_aC.Cur.N), (.slice a6 x_aC.Cur.Key.length c7), (.int .i64 x_aC.Cur.Seq), (.int .i64 x_aC.Cur.Win.Top), (.slice a11 x_aC.Cur.Win.Bits.length c12), (.int .i64 x_aC.Old.N), (.slice a16 x_aC.Old.Key.length c17), (.int .i64 x_aC.Old.Seq), (.int .i64 x_aC.Old.Win.Top), (.slice a21 x_aC.Old.Win.Bits.length c22), (.bool x_aC.HasOld), (.int .i64 x_aC.Until), (.slice a26 x_aC.Next.length c27)] (want_none rfl) rfl rfl rfl rfl isAgg_41 sizeOf_41 b86 rfl ?_
    refine wl_call (want_none rfl) (args := #[(.agg #[(.int .i64 x_aC.Role), (.slice a1 x_aC.Sn.length c2), (.int .i64 x_aC.Cur.N), (.slice a6 x_aC.Cur.Key.length c7), (.int .i64 x_aC.Cur.Seq), (.int .i64 x_aC.Cur.Win.Top), (.slice a11 x_aC.Cur.Win.Bits.length c12), (.int .i64 x_aC.Old.N), (.slice a16 x_aC.Old.Key.length c17), (.int .i64 x_aC.Old.Seq), (.int .i64 x_aC.Old.Win.Top), (.slice a21 x_aC.Old.Win.Bits.length c22), (.bool x_aC.HasOld), (.int .i64 x_aC.Until), (.slice a26 x_aC.Next.length c27)])]) rfl rfl (by kernel_rfl) (C_laws_toChan w4 (.agg #[(.int .i64 x_aC.Role), (.slice a1 x_aC.Sn.length c2), (.int .i64 x_aC.Cur.N), (.slice a6 x_aC.Cur.Key.length c7), (.int .i64 x_aC.Cur.Seq), (.int .i64 x_aC.Cur.Win.Top), (.slice a11 x_aC.Cur.Win.Bits.length c12), (.int .i64 x_aC.Old.N), (.slice a16 x_aC.Old.Key.length c17), (.int .i64 x_aC.Old.Seq), (.int .i64 x_aC.Old.Win.Top), (.slice a21 x_aC.Old.Win.Bits.length c22), (.bool x_aC.HasOld), (.int .i64 x_aC.Until), (.slice a26 x_aC.Next.length c27)]) x_aC (show R_41 w4 (.agg #[(.int .i64 x_aC.Role), (.slice a1 x_aC.Sn.length c2), (.int .i64 x_aC.Cur.N), (.slice a6 x_aC.Cur.Key.length c7), (.int .i64 x_aC.Cur.Seq), (.int .i64 x_aC.Cur.Win.Top), (.slice a11 x_aC.Cur.Win.Bits.length c12), (.int .i64 x_aC.Old.N), (.slice a16 x_aC.Old.Key.length c17), (.int .i64 x_aC.Old.Seq), (.int .i64 x_aC.Old.Win.Top), (.slice a21 x_aC.Old.Win.Bits.length c22), (.bool x_aC.HasOld), (.int .i64 x_aC.Until), (.slice a26 x_aC.Next.length c27)]) x_aC from ⟨_, _, _, _, _, _, _, _, _, _, _, _, rfl, (r3.from0 m85), (by omega), (r8.from0 m85), (by omega), (r13.from0 m85), (by omega), (r18.from0 m85), (by omega), (r23.from0 m85), (by omega), (r28.from0 m85), (by omega)⟩)) ?_
    rintro _ w5 ⟨k87, ⟨a88, c89, a93, c94, a98, c99, a103, c104, a108, c109, a113, c114, rfl, o90, s91, o95, s96, o100, s101, o105, s106, o110, s111, o115, s116, ap118⟩⟩
    have m119 := m85.extk k87
    refine wl_alloc (want_none rfl) (.agg #[(.int .i64 0), (.slice none 0 0), (.int .i64 0), (.slice none 0 0), (.int .i64 0), (.int .i64 0), (.slice none 0 0), (.int .i64 0), (.slice none 0 0), (.int .i64 0), (.int .i64 0), (.slice none 0 0), (.bool false), (.int .i64 0), (.slice none 0 0)]) [(.int .i64 0), (.slice none 0 0), (.int .i64 0), (.slice none 0 0), (.int .i64 0), (.int .i64 0), (.slice none 0 0), (.int .i64 0), (.slice none 0 0), (.int .i64 0), (.int .i64 0), (.slice none 0 0), (.bool false), (.int .i64 0), (.slice none 0 0)] zero_29 rfl rfl rfl rfl ?_
    intro g120 w6 p121 p122 k123 b124
    have m125 := m119.extk k123
    refine wl_store (.agg #[(.int .i64 ((F_laws_toChan x_aC).Role)), (.slice a88 ((F_laws_toChan x_aC).Sn).length c89), (.int .i64 (((F_laws_toChan x_aC).Cur).N)), (.slice a93 (((F_laws_toChan x_aC).Cur).Key).length c94), (.int .i64 (((F_laws_toChan x_aC).Cur).Seq)), (.int .i64 ((((F_laws_toChan x_aC).Cur).Win).Top)), (.slice a98 ((((F_laws_toChan x_aC).Cur).Win).Bits).length c99), (.int .i64 (((F_laws_toChan x_aC).Old).N)), (.slice a103 (((F_laws_toChan x_aC).Old).Key).length c104), (.int .i64 (((F_laws_toChan x_aC).Old).Seq)), (.int .i64 ((((F_laws_toChan x_aC).Old).Win).Top)), (.slice a108 ((((F_laws_toChan x_aC).Old).Win).Bits).length c109), (.bool ((F_laws_toChan x_aC).HasOld)), (.int .i64 ((F_laws_toChan x_aC).Until)), (.slice a113 ((F_laws_toChan x_aC).Next).length c114)]) [(.int .i64 ((F_laws_toChan x_aC).Role)), (.slice a88 ((F_laws_toChan x_aC).Sn).length c89), (.int .i64 (((F_laws_toChan x_aC).Cur).N)), (.slice a93 (((F_laws_toChan x_aC).Cur).Key).length c94), (.int .i64 (((F_laws_toChan x_aC).Cur).Seq)), (.int .i64 ((((F_laws_toChan x_aC).Cur).Win).Top)), (.slice a98 ((((F_laws_toChan x_aC).Cur).Win).Bits).length c99), (.int .i64 (((F_laws_toChan x_aC).Old).N)), (.slice a103 (((F_laws_toChan x_aC).Old).Key).length c104), (.int .i64 (((F_laws_toChan x_aC).Old).Seq)), (.int .i64 ((((F_laws_toChan x_aC).Old).Win).Top)), (.slice a108 ((((F_laws_toChan x_aC).Old).Win).Bits).length c109), (.bool ((F_laws_toChan x_aC).HasOld)), (.int .i64 ((F_laws_toChan x_aC).Until)), (.slice a113 ((F_laws_toChan x_aC).Next).length c114)] [(.int .i64 ((F_laws_toChan x_aC).Role)), (.slice a88 ((F_laws_toChan x_aC).Sn).length c89), (.int .i64 (((F_laws_toChan x_aC).Cur).N)), (.slice a93 (((F_laws_toChan x_aC).Cur).Key).length c94), (.int .i64 (((F_laws_toChan x_aC).Cur).Seq)), (.int .i64 ((((F_laws_toChan x_aC).Cur).Win).Top)), (.slice a98 ((((F_laws_toChan x_aC).Cur).Win).Bits).length c99), (.int .i64 (((F_laws_toChan x_aC).Old).N)), (.slice a103 (((F_laws_toChan x_aC).Old).Key).length c104), (.int .i64 (((F_laws_toChan x_aC).Old).Seq)), (.int .i64 ((((F_laws_toChan x_aC).Old).Win).Top)), (.slice a108 ((((F_laws_toChan x_aC).Old).Win).Bits).length c109), (.bool ((F_laws_toChan x_aC).HasOld)), (.int .i64 ((F_laws_toChan x_aC).Until)), (.slice a113 ((F_laws_toChan x_aC).Next).length c114)] (want_none rfl) rfl rfl rfl rfl rfl (one_cons rfl (one_cons rfl (one_cons rfl (one_cons rfl (one_cons rfl (one_cons rfl (one_cons rfl (one_cons rfl (one_cons rfl (one_cons rfl (one_cons rfl (one_cons rfl (one_cons rfl (one_cons rfl (one_cons rfl one_nil))))))))))))))) sizeOf_29 b124 rfl rfl ?_
    intro w7 k126 b127 z128
    have m129 := m125.ext k126 (fun k hk => by subst hk; exact Nat.le_trans (Nat.le_trans (Nat.le_trans (Nat.le_trans (Nat.le_trans k34.size k37.size) k45.size) k78.size) k87.size) p121)
    refine wl_nil ?_
    refine wq_then ?_
    refine wc_seq ?_
    refine wc_region ?_
    refine wl_loadN [(.int .i64 ((F_laws_toChan x_aC).Role)), (.slice a88 ((F_laws_toChan x_aC).Sn).length c89), (.int .i64 (((F_laws_toChan x_aC).Cur).N)), (.slice a93 (((F_laws_toChan x_aC).Cur).Key).length c94), (.int .i64 (((F_laws_toChan x_aC).Cur).Seq)), (.int .i64 ((((F_laws_toChan x_aC).Cur).Win).Top)), (.slice a98 ((((F_laws_toChan x_aC).Cur).Win).Bits).length c99), (.int .i64 (((F_laws_toChan x_aC).Old).N)), (.slice a103 (((F_laws_toChan x_aC).Old).Key).length c104), (.int .i64 (((F_laws_toChan x_aC).Old).Seq)), (.int .i64 ((((F_laws_toChan x_aC).Old).Win).Top)), (.slice a108 ((((F_laws_toChan x_aC).Old).Win).Bits).length c109), (.bool ((F_laws_toChan x_aC).HasOld)), (.int .i64 ((F_laws_toChan x_aC).Until)), (.slice a113 ((F_laws_toChan x_aC).Next).length c114)] (want_none rfl) rfl rfl rfl rfl isAgg_29 sizeOf_29 b127 rfl ?_
    refine wl_mv (.int .i64 x_aN) (want_none rfl) rfl rfl (.inl rfl) rfl ?_
    have o130 := (own_ch (own_kp o90 k123) k126 (fun g hg hlt hk => by have h1 := (own_lt o90 g hg).2; have h2 := Nat.le_trans (Nat.le_refl _) p121; omega))
    have o131 := (own_ch (own_kp o95 k123) k126 (fun g hg hlt hk => by have h1 := (own_lt o95 g hg).2; have h2 := Nat.le_trans (Nat.le_refl _) p121; omega))
    have o132 := (own_ch (own_kp o100 k123) k126 (fun g hg hlt hk => by have h1 := (own_lt o100 g hg).2; have h2 := Nat.le_trans (Nat.le_refl _) p121; omega))
    have o133 := (own_ch (own_kp o105 k123) k126 (fun g hg hlt hk => by have h1 := (own_lt o105 g hg).2; have h2 := Nat.le_trans (Nat.le_refl _) p121; omega))
    have o134 := (own_ch (own_kp o110 k123) k126 (fun g hg hlt hk => by have h1 := (own_lt o110 g hg).2; have h2 := Nat.le_trans (Nat.le_refl _) p121; omega))
    have o135 := (own_ch (own_kp o115 k123) k126 (fun g hg hlt hk => by have h1 := (own_lt o115 g hg).2; have h2 := Nat.le_trans (Nat.le_refl _) p121; omega))
    refine wl_call (want_none rfl) (args := #[(.agg #[(.int .i64 ((F_laws_toChan x_aC).Role)), (.slice a88 ((F_laws_toChan x_aC).Sn).length c89), (.int .i64 (((F_laws_toChan x_aC).Cur).N)), (.slice a93 (((F_laws_toChan x_aC).Cur).Key).length c94), (.int .i64 (((F_laws_toChan x_aC).Cur).Seq)), (.int .i64 ((((F_laws_toChan x_aC).Cur).Win).Top)), (.slice a98 ((((F_laws_toChan x_aC).Cur).Win).Bits).length c99), (.int .i64 (((F_laws_toChan x_aC).Old).N)), (.slice a103 (((F_laws_toChan x_aC).Old).Key).length c104), (.int .i64 (((F_laws_toChan x_aC).Old).Seq)), (.int .i64 ((((F_laws_toChan x_aC).Old).Win).Top)), (.slice a108 ((((F_laws_toChan x_aC).Old).Win).Bits).length c109), (.bool ((F_laws_toChan x_aC).HasOld)), (.int .i64 ((F_laws_toChan x_aC).Until)), (.slice a113 ((F_laws_toChan x_aC).Next).length c114)]), (.int .i64 x_aN)]) rfl rfl (by kernel_rfl) (C_impl_KeyFor w7 (.agg #[(.int .i64 ((F_laws_toChan x_aC).Role)), (.slice a88 ((F_laws_toChan x_aC).Sn).length c89), (.int .i64 (((F_laws_toChan x_aC).Cur).N)), (.slice a93 (((F_laws_toChan x_aC).Cur).Key).length c94), (.int .i64 (((F_laws_toChan x_aC).Cur).Seq)), (.int .i64 ((((F_laws_toChan x_aC).Cur).Win).Top)), (.slice a98 ((((F_laws_toChan x_aC).Cur).Win).Bits).length c99), (.int .i64 (((F_laws_toChan x_aC).Old).N)), (.slice a103 (((F_laws_toChan x_aC).Old).Key).length c104), (.int .i64 (((F_laws_toChan x_aC).Old).Seq)), (.int .i64 ((((F_laws_toChan x_aC).Old).Win).Top)), (.slice a108 ((((F_laws_toChan x_aC).Old).Win).Bits).length c109), (.bool ((F_laws_toChan x_aC).HasOld)), (.int .i64 ((F_laws_toChan x_aC).Until)), (.slice a113 ((F_laws_toChan x_aC).Next).length c114)]) (F_laws_toChan x_aC) (show R_29 w7 (.agg #[(.int .i64 ((F_laws_toChan x_aC).Role)), (.slice a88 ((F_laws_toChan x_aC).Sn).length c89), (.int .i64 (((F_laws_toChan x_aC).Cur).N)), (.slice a93 (((F_laws_toChan x_aC).Cur).Key).length c94), (.int .i64 (((F_laws_toChan x_aC).Cur).Seq)), (.int .i64 ((((F_laws_toChan x_aC).Cur).Win).Top)), (.slice a98 ((((F_laws_toChan x_aC).Cur).Win).Bits).length c99), (.int .i64 (((F_laws_toChan x_aC).Old).N)), (.slice a103 (((F_laws_toChan x_aC).Old).Key).length c104), (.int .i64 (((F_laws_toChan x_aC).Old).Seq)), (.int .i64 ((((F_laws_toChan x_aC).Old).Win).Top)), (.slice a108 ((((F_laws_toChan x_aC).Old).Win).Bits).length c109), (.bool ((F_laws_toChan x_aC).HasOld)), (.int .i64 ((F_laws_toChan x_aC).Until)), (.slice a113 ((F_laws_toChan x_aC).Next).length c114)]) (F_laws_toChan x_aC) from ⟨_, _, _, _, _, _, _, _, _, _, _, _, rfl, (Rd.of_own o130), s91, (Rd.of_own o131), s96, (Rd.of_own o132), s101, (Rd.of_own o133), s106, (Rd.of_own o134), s111, (Rd.of_own o135), s116⟩) x_aN) ?_
    rintro _ w8 ⟨k136, ⟨a137, c138, rfl, o139, s140, ap142⟩⟩
    have m143 := m129.extk k136
    refine wl_mv (.tuple #[(.slice a137 ((F_impl_KeyFor (F_laws_toChan x_aC) x_aN).1).length c138), (.bool ((F_impl_KeyFor (F_laws_toChan x_aC) x_aN).2))]) (want_none rfl) rfl rfl (.inl rfl) rfl ?_
    refine wl_pure (.slice a137 ((F_impl_KeyFor (F_laws_toChan x_aC) x_aN).1).length c138) (want_none rfl) rfl rfl (by kernel_rfl) ?_
    refine wl_pure (.bool ((F_impl_KeyFor (F_laws_toChan x_aC) x_aN).2)) (want_none rfl) rfl rfl (by kernel_rfl) ?_
    refine wl_mv (.slice a137 ((F_impl_KeyFor (F_laws_toChan x_aC) x_aN).1).length c138) (want_none rfl) rfl rfl (.inr rfl) rfl ?_
    refine wl_mv (.bool ((F_impl_KeyFor (F_laws_toChan x_aC) x_aN).2)) (want_none rfl) rfl rfl (.inr rfl) rfl ?_
    refine wl_nil ?_
    refine wq_then ?_
    refine wc_seq ?_
    refine wc_seq ?_
    refine wc_region ?_
    refine wl_mv (.slice a137 ((F_impl_KeyFor (F_laws_toChan x_aC) x_aN).1).length c138) (want_none rfl) rfl rfl (.inl rfl) rfl ?_
    refine wl_mv (.slice a79 ((F_spec_KeyFor (F_laws_toChan x_aC) x_aN).1).length c80) (want_none rfl) rfl rfl (.inl rfl) rfl ?_
    have o144 := (own_kp (own_ch (own_kp (own_kp o81 k87) k123) k126 (fun g hg hlt hk => by have h1 := (own_lt o81 g hg).2; have h2 := Nat.le_trans k87.size p121; omega)) k136)
    refine wl_call (want_none rfl) (args := #[(.slice a137 ((F_impl_KeyFor (F_laws_toChan x_aC) x_aN).1).length c138), (.slice a79 ((F_spec_KeyFor (F_laws_toChan x_aC) x_aN).1).length c80)]) rfl rfl (by kernel_rfl) (C_laws_eqByteS w8 (.slice a137 ((F_impl_KeyFor (F_laws_toChan x_aC) x_aN).1).length c138) ((F_impl_KeyFor (F_laws_toChan x_aC) x_aN).1) (show R_22 w8 (.slice a137 ((F_impl_KeyFor (F_laws_toChan x_aC) x_aN).1).length c138) ((F_impl_KeyFor (F_laws_toChan x_aC) x_aN).1) from ⟨_, _, rfl, (Rd.of_own o139), s140⟩) (.slice a79 ((F_spec_KeyFor (F_laws_toChan x_aC) x_aN).1).length c80) ((F_spec_KeyFor (F_laws_toChan x_aC) x_aN).1) (show R_22 w8 (.slice a79 ((F_spec_KeyFor (F_laws_toChan x_aC) x_aN).1).length c80) ((F_spec_KeyFor (F_laws_toChan x_aC) x_aN).1) from ⟨_, _, rfl, (Rd.of_own o144), s82⟩)) ?_
    rintro _ w9 ⟨k145, rfl⟩
    have m146 := m143.extk k145
    refine wl_pure (.bool (!(eqB ((F_impl_KeyFor (F_laws_toChan x_aC) x_aN).1) ((F_spec_KeyFor (F_laws_toChan x_aC) x_aN).1)))) (want_none rfl) rfl rfl (by kernel_rfl) ?_
    refine wl_mv (.bool (!(eqB ((F_impl_KeyFor (F_laws_toChan x_aC) x_aN).1) ((F_spec_KeyFor (F_laws_toChan x_aC) x_aN).1)))) (want_none rfl) rfl rfl (.inl rfl) rfl ?_
    rcases Bool.eq_false_or_eq_true (eqB ((F_impl_KeyFor (F_laws_toChan x_aC) x_aN).1) ((F_spec_KeyFor (F_laws_toChan x_aC) x_aN).1)) with h147 | h147
    · skip
      refine wl_mv (.bool ((F_impl_KeyFor (F_laws_toChan x_aC) x_aN).2)) (want_some rfl rfl rfl (congrArg (fun b => Value.bool (!b)) h147)) rfl rfl (.inl rfl) rfl ?_
      refine wl_mv (.bool ((F_spec_KeyFor (F_laws_toChan x_aC) x_aN).2)) (want_some rfl rfl rfl (congrArg (fun b => Value.bool (!b)) h147)) rfl rfl (.inl rfl) rfl ?_
      refine wl_pure (.bool (!(((F_impl_KeyFor (F_laws_toChan x_aC) x_aN).2) == ((F_spec_KeyFor (F_laws_toChan x_aC) x_aN).2)))) (want_some rfl rfl rfl (congrArg (fun b => Value.bool (!b)) h147)) rfl rfl (by kernel_rfl) ?_
      refine wl_pick_f (.bool (!(((F_impl_KeyFor (F_laws_toChan x_aC) x_aN).2) == ((F_spec_KeyFor (F_laws_toChan x_aC) x_aN).2)))) (want_none rfl) rfl rfl rfl (congrArg (fun b => Value.bool (!b)) h147) rfl ?_
      refine wl_nil ?_
      refine wq_then ?_
      rcases Bool.eq_false_or_eq_true (((F_impl_KeyFor (F_laws_toChan x_aC) x_aN).2) == ((F_spec_KeyFor (F_laws_toChan x_aC) x_aN).2)) with h149 | h149
      · skip
        refine wc_false (congrArg (fun b => Value.bool (!b)) h149) ?_
        refine wc_skip ?_
        refine wq_then ?_
        refine wc_seq ?_
        refine wc_seq ?_
        refine wc_draw ([(45, [], [], (fun _ v _ => v = (.agg #[(.int .i64 ((F_laws_toChan x_aC).Role)), (.slice a88 ((F_laws_toChan x_aC).Sn).length c89), (.int .i64 (((F_laws_toChan x_aC).Cur).N)), (.slice a93 (((F_laws_toChan x_aC).Cur).Key).length c94), (.int .i64 (((F_laws_toChan x_aC).Cur).Seq)), (.int .i64 ((((F_laws_toChan x_aC).Cur).Win).Top)), (.slice a98 ((((F_laws_toChan x_aC).Cur).Win).Bits).length c99), (.int .i64 (((F_laws_toChan x_aC).Old).N)), (.slice a103 (((F_laws_toChan x_aC).Old).Key).length c104), (.int .i64 (((F_laws_toChan x_aC).Old).Seq)), (.int .i64 ((((F_laws_toChan x_aC).Old).Win).Top)), (.slice a108 ((((F_laws_toChan x_aC).Old).Win).Bits).length c109), (.bool ((F_laws_toChan x_aC).HasOld)), (.int .i64 ((F_laws_toChan x_aC).Until)), (.slice a113 ((F_laws_toChan x_aC).Next).length c114)]))), (46, [], [], (fun _ v _ => v = (.agg #[(.int .i64 x_aC.Role), (.slice a1 x_aC.Sn.length c2), (.int .i64 x_aC.Cur.N), (.slice a6 x_aC.Cur.Key.length c7), (.int .i64 x_aC.Cur.Seq), (.int .i64 x_aC.Cur.Win.Top), (.slice a11 x_aC.Cur.Win.Bits.length c12), (.int .i64 x_aC.Old.N), (.slice a16 x_aC.Old.Key.length c17), (.int .i64 x_aC.Old.Seq), (.int .i64 x_aC.Old.Win.Top), (.slice a21 x_aC.Old.Win.Bits.length c22), (.bool x_aC.HasOld), (.int .i64 x_aC.Until), (.slice a26 x_aC.Next.length c27)]))), (47, [], [1], (fun _ v w => ∃ (a1 : Option Addr) (c1 : Nat) (a2 : Option Addr) (c2 : Nat) (a3 : Option Addr) (c3 : Nat) (a4 : Option Addr) (c4 : Nat) (a5 : Option Addr) (c5 : Nat) (a6 : Option Addr) (c6 : Nat), v = .agg #[.int .i64 ((F_laws_toChan x_aC).Role), .slice a1 ((F_laws_toChan x_aC).Sn).length c1, .int .i64 (((F_laws_toChan x_aC).Cur).N), .slice a2 (((F_laws_toChan x_aC).Cur).Key).length c2, .int .i64 (((F_laws_toChan x_aC).Cur).Seq), .int .i64 ((((F_laws_toChan x_aC).Cur).Win).Top), .slice a3 ((((F_laws_toChan x_aC).Cur).Win).Bits).length c3, .int .i64 (((F_laws_toChan x_aC).Old).N), .slice a4 (((F_laws_toChan x_aC).Old).Key).length c4, .int .i64 (((F_laws_toChan x_aC).Old).Seq), .int .i64 ((((F_laws_toChan x_aC).Old).Win).Top), .slice a5 ((((F_laws_toChan x_aC).Old).Win).Bits).length c5, .bool ((F_laws_toChan x_aC).HasOld), .int .i64 ((F_laws_toChan x_aC).Until), .slice a6 ((F_laws_toChan x_aC).Next).length c6] ∧ w.ownsRow (w9.heap.size) 5 1 (.slice a1 ((F_laws_toChan x_aC).Sn).length c1) ((F_laws_toChan x_aC).Sn).length (((F_laws_toChan x_aC).Sn).map bV) ∧ ((F_laws_toChan x_aC).Sn).length ≤ 1073741824 ∧ w.ownsRow (w9.heap.size) 5 1 (.slice a2 (((F_laws_toChan x_aC).Cur).Key).length c2) (((F_laws_toChan x_aC).Cur).Key).length ((((F_laws_toChan x_aC).Cur).Key).map bV) ∧ (((F_laws_toChan x_aC).Cur).Key).length ≤ 1073741824 ∧ w.ownsRow (w9.heap.size) 3 1 (.slice a3 ((((F_laws_toChan x_aC).Cur).Win).Bits).length c3) ((((F_laws_toChan x_aC).Cur).Win).Bits).length (((((F_laws_toChan x_aC).Cur).Win).Bits).map iV) ∧ ((((F_laws_toChan x_aC).Cur).Win).Bits).length ≤ 1073741824 ∧ w.ownsRow (w9.heap.size) 5 1 (.slice a4 (((F_laws_toChan x_aC).Old).Key).length c4) (((F_laws_toChan x_aC).Old).Key).length ((((F_laws_toChan x_aC).Old).Key).map bV) ∧ (((F_laws_toChan x_aC).Old).Key).length ≤ 1073741824 ∧ w.ownsRow (w9.heap.size) 3 1 (.slice a5 ((((F_laws_toChan x_aC).Old).Win).Bits).length c5) ((((F_laws_toChan x_aC).Old).Win).Bits).length (((((F_laws_toChan x_aC).Old).Win).Bits).map iV) ∧ ((((F_laws_toChan x_aC).Old).Win).Bits).length ≤ 1073741824 ∧ w.ownsRow (w9.heap.size) 5 1 (.slice a6 ((F_laws_toChan x_aC).Next).length c6) ((F_laws_toChan x_aC).Next).length (((F_laws_toChan x_aC).Next).map bV) ∧ ((F_laws_toChan x_aC).Next).length ≤ 1073741824 ∧ Aps [(a1, c1), (a2, c2), (a3, c3), (a4, c4), (a5, c5), (a6, c6)])), (48, [], [0, 1, 2], (fun _ v w => v = .bool (F_laws_eqChan (F_laws_toChan x_aC) (F_laws_toChan x_aC)))), (49, [], [0, 1, 2, 3], (fun _ v _ => v = (.bool (!(F_laws_eqChan (F_laws_toChan x_aC) (F_laws_toChan x_aC))))))] : GV) mixed rfl (by kernel_rfl) (by kernel_rfl) ?_ ?_ ?_
        · exact ⟨(fun _ _ _ _ h _ => h), (fun _ _ _ _ _ h => h), ⟨(fun _ _ _ _ h _ => h), (fun _ _ _ _ _ h => h), ⟨(fun e v w w1 h hk => by obtain ⟨a0x, c0x, a1x, c1x, a2x, c2x, a3x, c3x, a4x, c4x, a5x, c5x, he, o0x, l0x, o1x, l1x, o2x, l2x, o3x, l3x, o4x, l4x, o5x, l5x, hap⟩ := h; exact ⟨a0x, c0x, a1x, c1x, a2x, c2x, a3x, c3x, a4x, c4x, a5x, c5x, he, own_kp o0x hk, l0x, own_kp o1x hk, l1x, own_kp o2x hk, l2x, own_kp o3x hk, l3x, own_kp o4x hk, l4x, own_kp o5x hk, l5x, hap⟩), (fun _ _ _ _ _ h => h), ⟨(fun _ _ _ _ h _ => h), (fun _ _ _ _ _ h => h), ⟨(fun _ _ _ _ h _ => h), (fun _ _ _ _ _ h => h), trivial⟩⟩⟩⟩⟩
        · refine ⟨?_, ⟨?_, ⟨?_, ⟨?_, ⟨?_, trivial⟩⟩⟩⟩⟩
          · intro w10 k227
            have m228 := m146.extk k227
            intro u229
            intro u230
            intro u231
            intro u232
            intro u233
            show WL _ _ _ _ _ _ _
            have b234 := (((b127.kp k136).kp k145).kp k227)
            refine wl_loadN [(.int .i64 ((F_laws_toChan x_aC).Role)), (.slice a88 ((F_laws_toChan x_aC).Sn).length c89), (.int .i64 (((F_laws_toChan x_aC).Cur).N)), (.slice a93 (((F_laws_toChan x_aC).Cur).Key).length c94), (.int .i64 (((F_laws_toChan x_aC).Cur).Seq)), (.int .i64 ((((F_laws_toChan x_aC).Cur).Win).Top)), (.slice a98 ((((F_laws_toChan x_aC).Cur).Win).Bits).length c99), (.int .i64 (((F_laws_toChan x_aC).Old).N)), (.slice a103 (((F_laws_toChan x_aC).Old).Key).length c104), (.int .i64 (((F_laws_toChan x_aC).Old).Seq)), (.int .i64 ((((F_laws_toChan x_aC).Old).Win).Top)), (.slice a108 ((((F_laws_toChan x_aC).Old).Win).Bits).length c109), (.bool ((F_laws_toChan x_aC).HasOld)), (.int .i64 ((F_laws_toChan x_aC).Until)), (.slice a113 ((F_laws_toChan x_aC).Next).length c114)] (want_none rfl) rfl rfl rfl rfl isAgg_29 sizeOf_29 b234 rfl ?_
            exact wl_fin (Ch.refl _ _) rfl
          · intro w10 k235
            have m236 := m146.extk k235
            intro u237
            intro u238
            intro u239
            intro u240
            intro u241
            show WL _ _ _ _ _ _ _
            have b242 := ((((((b86.kp k87).kp k123).ch k126 (Nat.ne_of_lt (Nat.lt_of_lt_of_le p33 (Nat.le_trans (Nat.le_trans (Nat.le_trans (Nat.le_trans k37.size k45.size) k78.size) k87.size) p121)))).kp k136).kp k145).kp k235)
            refine wl_loadN [(.int .i64 x_aC.Role), (.slice a1 x_aC.Sn.length c2), (.int .i64 x_aC.Cur.N), (.slice a6 x_aC.Cur.Key.length c7), (.int .i64 x_aC.Cur.Seq), (.int .i64 x_aC.Cur.Win.Top), (.slice a11 x_aC.Cur.Win.Bits.length c12), (.int .i64 x_aC.Old.N), (.slice a16 x_aC.Old.Key.length c17), (.int .i64 x_aC.Old.Seq), (.int .i64 x_aC.Old.Win.Top), (.slice a21 x_aC.Old.Win.Bits.length c22), (.bool x_aC.HasOld), (.int .i64 x_aC.Until), (.slice a26 x_aC.Next.length c27)] (want_none rfl) rfl rfl rfl rfl isAgg_41 sizeOf_41 b242 rfl ?_
            exact wl_fin (Ch.refl _ _) rfl
          · intro w10 k243
            have m244 := m146.extk k243
            intro u245
            rintro _ rfl
            intro u247
            intro u248
            intro u249
            show WL _ _ _ _ _ _ _
            refine wl_call (want_none rfl) (args := #[(.agg #[(.int .i64 x_aC.Role), (.slice a1 x_aC.Sn.length c2), (.int .i64 x_aC.Cur.N), (.slice a6 x_aC.Cur.Key.length c7), (.int .i64 x_aC.Cur.Seq), (.int .i64 x_aC.Cur.Win.Top), (.slice a11 x_aC.Cur.Win.Bits.length c12), (.int .i64 x_aC.Old.N), (.slice a16 x_aC.Old.Key.length c17), (.int .i64 x_aC.Old.Seq), (.int .i64 x_aC.Old.Win.Top), (.slice a21 x_aC.Old.Win.Bits.length c22), (.bool x_aC.HasOld), (.int .i64 x_aC.Until), (.slice a26 x_aC.Next.length c27)])]) rfl rfl (by kernel_rfl) (C_laws_toChan w10 (.agg #[(.int .i64 x_aC.Role), (.slice a1 x_aC.Sn.length c2), (.int .i64 x_aC.Cur.N), (.slice a6 x_aC.Cur.Key.length c7), (.int .i64 x_aC.Cur.Seq), (.int .i64 x_aC.Cur.Win.Top), (.slice a11 x_aC.Cur.Win.Bits.length c12), (.int .i64 x_aC.Old.N), (.slice a16 x_aC.Old.Key.length c17), (.int .i64 x_aC.Old.Seq), (.int .i64 x_aC.Old.Win.Top), (.slice a21 x_aC.Old.Win.Bits.length c22), (.bool x_aC.HasOld), (.int .i64 x_aC.Until), (.slice a26 x_aC.Next.length c27)]) x_aC (show R_41 w10 (.agg #[(.int .i64 x_aC.Role), (.slice a1 x_aC.Sn.length c2), (.int .i64 x_aC.Cur.N), (.slice a6 x_aC.Cur.Key.length c7), (.int .i64 x_aC.Cur.Seq), (.int .i64 x_aC.Cur.Win.Top), (.slice a11 x_aC.Cur.Win.Bits.length c12), (.int .i64 x_aC.Old.N), (.slice a16 x_aC.Old.Key.length c17), (.int .i64 x_aC.Old.Seq), (.int .i64 x_aC.Old.Win.Top), (.slice a21 x_aC.Old.Win.Bits.length c22), (.bool x_aC.HasOld), (.int .i64 x_aC.Until), (.slice a26 x_aC.Next.length c27)]) x_aC from ⟨_, _, _, _, _, _, _, _, _, _, _, _, rfl, (r3.from0 m244), (by omega), (r8.from0 m244), (by omega), (r13.from0 m244), (by omega), (r18.from0 m244), (by omega), (r23.from0 m244), (by omega), (r28.from0 m244), (by omega)⟩)) ?_
            rintro _ w11 ⟨k250, ⟨a251, c252, a256, c257, a261, c262, a266, c267, a271, c272, a276, c277, rfl, o253, s254, o258, s259, o263, s264, o268, s269, o273, s274, o278, s279, ap281⟩⟩
            have m282 := m244.extk k250
            exact wl_fin k250 ⟨_, _, _, _, _, _, _, _, _, _, _, _, rfl, (own_lo o253 k243.size), s254, (own_lo o258 k243.size), s259, (own_lo o263 k243.size), s264, (own_lo o268 k243.size), s269, (own_lo o273 k243.size), s274, (own_lo o278 k243.size), s279, ap281⟩
          · intro w10 k283
            have m284 := m146.extk k283
            rintro _ rfl
            rintro _ rfl
            rintro _ ⟨a287, c288, a292, c293, a297, c298, a302, c303, a307, c308, a312, c313, rfl, o289, s290, o294, s295, o299, s300, o304, s305, o309, s310, o314, s315, ap317⟩
            intro u318
            intro u319
            show WL _ _ _ _ _ _ _
            have o320 := (own_kp (own_kp (own_kp o130 k136) k145) k283)
            have o321 := (own_kp (own_kp (own_kp o131 k136) k145) k283)
            have o322 := (own_kp (own_kp (own_kp o132 k136) k145) k283)
            have o323 := (own_kp (own_kp (own_kp o133 k136) k145) k283)
            have o324 := (own_kp (own_kp (own_kp o134 k136) k145) k283)
            have o325 := (own_kp (own_kp (own_kp o135 k136) k145) k283)
            refine wl_call (want_none rfl) (args := #[(.agg #[(.int .i64 ((F_laws_toChan x_aC).Role)), (.slice a88 ((F_laws_toChan x_aC).Sn).length c89), (.int .i64 (((F_laws_toChan x_aC).Cur).N)), (.slice a93 (((F_laws_toChan x_aC).Cur).Key).length c94), (.int .i64 (((F_laws_toChan x_aC).Cur).Seq)), (.int .i64 ((((F_laws_toChan x_aC).Cur).Win).Top)), (.slice a98 ((((F_laws_toChan x_aC).Cur).Win).Bits).length c99), (.int .i64 (((F_laws_toChan x_aC).Old).N)), (.slice a103 (((F_laws_toChan x_aC).Old).Key).length c104), (.int .i64 (((F_laws_toChan x_aC).Old).Seq)), (.int .i64 ((((F_laws_toChan x_aC).Old).Win).Top)), (.slice a108 ((((F_laws_toChan x_aC).Old).Win).Bits).length c109), (.bool ((F_laws_toChan x_aC).HasOld)), (.int .i64 ((F_laws_toChan x_aC).Until)), (.slice a113 ((F_laws_toChan x_aC).Next).length c114)]), (.agg #[(.int .i64 ((F_laws_toChan x_aC).Role)), (.slice a287 ((F_laws_toChan x_aC).Sn).length c288), (.int .i64 (((F_laws_toChan x_aC).Cur).N)), (.slice a292 (((F_laws_toChan x_aC).Cur).Key).length c293), (.int .i64 (((F_laws_toChan x_aC).Cur).Seq)), (.int .i64 ((((F_laws_toChan x_aC).Cur).Win).Top)), (.slice a297 ((((F_laws_toChan x_aC).Cur).Win).Bits).length c298), (.int .i64 (((F_laws_toChan x_aC).Old).N)), (.slice a302 (((F_laws_toChan x_aC).Old).Key).length c303), (.int .i64 (((F_laws_toChan x_aC).Old).Seq)), (.int .i64 ((((F_laws_toChan x_aC).Old).Win).Top)), (.slice a307 ((((F_laws_toChan x_aC).Old).Win).Bits).length c308), (.bool ((F_laws_toChan x_aC).HasOld)), (.int .i64 ((F_laws_toChan x_aC).Until)), (.slice a312 ((F_laws_toChan x_aC).Next).length c313)])]) rfl rfl (by kernel_rfl) (C_laws_eqChan w10 (.agg #[(.int .i64 ((F_laws_toChan x_aC).Role)), (.slice a88 ((F_laws_toChan x_aC).Sn).length c89), (.int .i64 (((F_laws_toChan x_aC).Cur).N)), (.slice a93 (((F_laws_toChan x_aC).Cur).Key).length c94), (.int .i64 (((F_laws_toChan x_aC).Cur).Seq)), (.int .i64 ((((F_laws_toChan x_aC).Cur).Win).Top)), (.slice a98 ((((F_laws_toChan x_aC).Cur).Win).Bits).length c99), (.int .i64 (((F_laws_toChan x_aC).Old).N)), (.slice a103 (((F_laws_toChan x_aC).Old).Key).length c104), (.int .i64 (((F_laws_toChan x_aC).Old).Seq)), (.int .i64 ((((F_laws_toChan x_aC).Old).Win).Top)), (.slice a108 ((((F_laws_toChan x_aC).Old).Win).Bits).length c109), (.bool ((F_laws_toChan x_aC).HasOld)), (.int .i64 ((F_laws_toChan x_aC).Until)), (.slice a113 ((F_laws_toChan x_aC).Next).length c114)]) (F_laws_toChan x_aC) (show R_29 w10 (.agg #[(.int .i64 ((F_laws_toChan x_aC).Role)), (.slice a88 ((F_laws_toChan x_aC).Sn).length c89), (.int .i64 (((F_laws_toChan x_aC).Cur).N)), (.slice a93 (((F_laws_toChan x_aC).Cur).Key).length c94), (.int .i64 (((F_laws_toChan x_aC).Cur).Seq)), (.int .i64 ((((F_laws_toChan x_aC).Cur).Win).Top)), (.slice a98 ((((F_laws_toChan x_aC).Cur).Win).Bits).length c99), (.int .i64 (((F_laws_toChan x_aC).Old).N)), (.slice a103 (((F_laws_toChan x_aC).Old).Key).length c104), (.int .i64 (((F_laws_toChan x_aC).Old).Seq)), (.int .i64 ((((F_laws_toChan x_aC).Old).Win).Top)), (.slice a108 ((((F_laws_toChan x_aC).Old).Win).Bits).length c109), (.bool ((F_laws_toChan x_aC).HasOld)), (.int .i64 ((F_laws_toChan x_aC).Until)), (.slice a113 ((F_laws_toChan x_aC).Next).length c114)]) (F_laws_toChan x_aC) from ⟨_, _, _, _, _, _, _, _, _, _, _, _, rfl, (Rd.of_own o320), s91, (Rd.of_own o321), s96, (Rd.of_own o322), s101, (Rd.of_own o323), s106, (Rd.of_own o324), s111, (Rd.of_own o325), s116⟩) (.agg #[(.int .i64 ((F_laws_toChan x_aC).Role)), (.slice a287 ((F_laws_toChan x_aC).Sn).length c288), (.int .i64 (((F_laws_toChan x_aC).Cur).N)), (.slice a292 (((F_laws_toChan x_aC).Cur).Key).length c293), (.int .i64 (((F_laws_toChan x_aC).Cur).Seq)), (.int .i64 ((((F_laws_toChan x_aC).Cur).Win).Top)), (.slice a297 ((((F_laws_toChan x_aC).Cur).Win).Bits).length c298), (.int .i64 (((F_laws_toChan x_aC).Old).N)), (.slice a302 (((F_laws_toChan x_aC).Old).Key).length c303), (.int .i64 (((F_laws_toChan x_aC).Old).Seq)), (.int .i64 ((((F_laws_toChan x_aC).Old).Win).Top)), (.slice a307 ((((F_laws_toChan x_aC).Old).Win).Bits).length c308), (.bool ((F_laws_toChan x_aC).HasOld)), (.int .i64 ((F_laws_toChan x_aC).Until)), (.slice a312 ((F_laws_toChan x_aC).Next).length c313)]) (F_laws_toChan x_aC) (show R_29 w10 (.agg #[(.int .i64 ((F_laws_toChan x_aC).Role)), (.slice a287 ((F_laws_toChan x_aC).Sn).length c288), (.int .i64 (((F_laws_toChan x_aC).Cur).N)), (.slice a292 (((F_laws_toChan x_aC).Cur).Key).length c293), (.int .i64 (((F_laws_toChan x_aC).Cur).Seq)), (.int .i64 ((((F_laws_toChan x_aC).Cur).Win).Top)), (.slice a297 ((((F_laws_toChan x_aC).Cur).Win).Bits).length c298), (.int .i64 (((F_laws_toChan x_aC).Old).N)), (.slice a302 (((F_laws_toChan x_aC).Old).Key).length c303), (.int .i64 (((F_laws_toChan x_aC).Old).Seq)), (.int .i64 ((((F_laws_toChan x_aC).Old).Win).Top)), (.slice a307 ((((F_laws_toChan x_aC).Old).Win).Bits).length c308), (.bool ((F_laws_toChan x_aC).HasOld)), (.int .i64 ((F_laws_toChan x_aC).Until)), (.slice a312 ((F_laws_toChan x_aC).Next).length c313)]) (F_laws_toChan x_aC) from ⟨_, _, _, _, _, _, _, _, _, _, _, _, rfl, (Rd.of_own o289), s290, (Rd.of_own o294), s295, (Rd.of_own o299), s300, (Rd.of_own o304), s305, (Rd.of_own o309), s310, (Rd.of_own o314), s315⟩)) ?_
            rintro _ w11 ⟨k326, rfl⟩
            have m327 := m284.extk k326
            exact wl_fin k326 rfl
          · intro w10 k328
            have m329 := m146.extk k328
            rintro _ rfl
            rintro _ rfl
            rintro _ ⟨a332, c333, a337, c338, a342, c343, a347, c348, a352, c353, a357, c358, rfl, o334, s335, o339, s340, o344, s345, o349, s350, o354, s355, o359, s360, ap362⟩
            rintro _ rfl
            intro u363
            show WL _ _ _ _ _ _ _
            refine wl_pure (.bool (!(F_laws_eqChan (F_laws_toChan x_aC) (F_laws_toChan x_aC)))) (want_none rfl) rfl rfl (by kernel_rfl) ?_
            exact wl_fin (Ch.refl _ _) rfl
        · intro w10 k364
          have m365 := m146.extk k364
          rintro _ rfl
          rintro _ rfl
          rintro _ ⟨a368, c369, a373, c374, a378, c379, a383, c384, a388, c389, a393, c394, rfl, o370, s371, o375, s376, o380, s381, o385, s386, o390, s391, o395, s396, ap398⟩
          rintro _ rfl
          rintro _ rfl
          show WL _ _ _ _ _ _ _
          refine wl_nil ?_
          refine wq_then ?_
          rcases Bool.eq_false_or_eq_true (F_laws_eqChan (F_laws_toChan x_aC) (F_laws_toChan x_aC)) with h399 | h399
          · skip
            refine wc_false (congrArg (fun b => Value.bool (!b)) h399) ?_
            refine wc_skip ?_
            refine wq_then ?_
            refine wc_seq ?_
            refine wc_region ?_
            refine wl_mv (.int .i64 1) (want_none rfl) rfl rfl (.inr rfl) rfl ?_
            refine wl_nil ?_
            refine wq_then ?_
            refine wc_seq ?_
            refine wc_region ?_
            have b401 := (((b127.kp k136).kp k145).kp k364)
            refine wl_loadN [(.int .i64 ((F_laws_toChan x_aC).Role)), (.slice a88 ((F_laws_toChan x_aC).Sn).length c89), (.int .i64 (((F_laws_toChan x_aC).Cur).N)), (.slice a93 (((F_laws_toChan x_aC).Cur).Key).length c94), (.int .i64 (((F_laws_toChan x_aC).Cur).Seq)), (.int .i64 ((((F_laws_toChan x_aC).Cur).Win).Top)), (.slice a98 ((((F_laws_toChan x_aC).Cur).Win).Bits).length c99), (.int .i64 (((F_laws_toChan x_aC).Old).N)), (.slice a103 (((F_laws_toChan x_aC).Old).Key).length c104), (.int .i64 (((F_laws_toChan x_aC).Old).Seq)), (.int .i64 ((((F_laws_toChan x_aC).Old).Win).Top)), (.slice a108 ((((F_laws_toChan x_aC).Old).Win).Bits).length c109), (.bool ((F_laws_toChan x_aC).HasOld)), (.int .i64 ((F_laws_toChan x_aC).Until)), (.slice a113 ((F_laws_toChan x_aC).Next).length c114)] (want_none rfl) rfl rfl rfl rfl isAgg_29 sizeOf_29 b401 rfl ?_
            refine wl_mv (.int .i64 1) (want_none rfl) rfl rfl (.inl rfl) rfl ?_
            have o402 := (own_kp (own_kp (own_kp o130 k136) k145) k364)
            have o403 := (own_kp (own_kp (own_kp o131 k136) k145) k364)
            have o404 := (own_kp (own_kp (own_kp o132 k136) k145) k364)
            have o405 := (own_kp (own_kp (own_kp o133 k136) k145) k364)
            have o406 := (own_kp (own_kp (own_kp o134 k136) k145) k364)
            have o407 := (own_kp (own_kp (own_kp o135 k136) k145) k364)
            refine wl_call (want_none rfl) (args := #[(.agg #[(.int .i64 ((F_laws_toChan x_aC).Role)), (.slice a88 ((F_laws_toChan x_aC).Sn).length c89), (.int .i64 (((F_laws_toChan x_aC).Cur).N)), (.slice a93 (((F_laws_toChan x_aC).Cur).Key).length c94), (.int .i64 (((F_laws_toChan x_aC).Cur).Seq)), (.int .i64 ((((F_laws_toChan x_aC).Cur).Win).Top)), (.slice a98 ((((F_laws_toChan x_aC).Cur).Win).Bits).length c99), (.int .i64 (((F_laws_toChan x_aC).Old).N)), (.slice a103 (((F_laws_toChan x_aC).Old).Key).length c104), (.int .i64 (((F_laws_toChan x_aC).Old).Seq)), (.int .i64 ((((F_laws_toChan x_aC).Old).Win).Top)), (.slice a108 ((((F_laws_toChan x_aC).Old).Win).Bits).length c109), (.bool ((F_laws_toChan x_aC).HasOld)), (.int .i64 ((F_laws_toChan x_aC).Until)), (.slice a113 ((F_laws_toChan x_aC).Next).length c114)]), (.int .i64 1)]) rfl rfl (by kernel_rfl) (C_laws_markChan w10 a88 c89 a93 c94 a98 c99 a103 c104 a108 c109 a113 c114 (F_laws_toChan x_aC) 1 (by omega) (by omega) s91 (Rd.of_own o402) (Wp.of o402) s96 (Rd.of_own o403) (Wp.of o403) s101 (Rd.of_own o404) (Wp.of o404) s106 (Rd.of_own o405) (Wp.of o405) s111 (Rd.of_own o406) (Wp.of o406) s116 (Rd.of_own o407) (Wp.of o407) ⟨⟨(ap118.1.1), ⟨(ap118.1.2.1), ⟨(ap118.1.2.2.1), ⟨(ap118.1.2.2.2.1), ⟨(ap118.1.2.2.2.2.1), trivial⟩⟩⟩⟩⟩, ⟨⟨(ap118.2.1.1), ⟨(ap118.2.1.2.1), ⟨(ap118.2.1.2.2.1), ⟨(ap118.2.1.2.2.2.1), trivial⟩⟩⟩⟩, ⟨⟨(ap118.2.2.1.1), ⟨(ap118.2.2.1.2.1), ⟨(ap118.2.2.1.2.2.1), trivial⟩⟩⟩, ⟨⟨(ap118.2.2.2.1.1), ⟨(ap118.2.2.2.1.2.1), trivial⟩⟩, ⟨⟨(ap118.2.2.2.2.1.1), trivial⟩, ⟨trivial, trivial⟩⟩⟩⟩⟩⟩) ?_
            rintro _ w11 ⟨rfl, k408, r409, r410, r411, r412, r413, r414⟩
            have m415 := m365.ext k408 (fun k hk => ms_ge (ms_ge_cons (fun hn x hx => Nat.le_trans (Nat.le_trans (Nat.le_trans (Nat.le_trans k34.size k37.size) k45.size) k78.size) (own_lt o90 x.block (by rw [hx]; rfl)).1) (ms_ge_cons (fun hn x hx => Nat.le_trans (Nat.le_trans (Nat.le_trans (Nat.le_trans k34.size k37.size) k45.size) k78.size) (own_lt o95 x.block (by rw [hx]; rfl)).1) (ms_ge_cons (fun hn x hx => Nat.le_trans (Nat.le_trans (Nat.le_trans (Nat.le_trans k34.size k37.size) k45.size) k78.size) (own_lt o100 x.block (by rw [hx]; rfl)).1) (ms_ge_cons (fun hn x hx => Nat.le_trans (Nat.le_trans (Nat.le_trans (Nat.le_trans k34.size k37.size) k45.size) k78.size) (own_lt o105 x.block (by rw [hx]; rfl)).1) (ms_ge_cons (fun hn x hx => Nat.le_trans (Nat.le_trans (Nat.le_trans (Nat.le_trans k34.size k37.size) k45.size) k78.size) (own_lt o110 x.block (by rw [hx]; rfl)).1) (ms_ge_cons (fun hn x hx => Nat.le_trans (Nat.le_trans (Nat.le_trans (Nat.le_trans k34.size k37.size) k45.size) k78.size) (own_lt o115 x.block (by rw [hx]; rfl)).1) ms_ge_nil)))))) hk)
            refine wl_mv (.int .i64 ((((((1 + (((F_laws_toChan x_aC).Sn).length : Int)) + ((((F_laws_toChan x_aC).Cur).Key).length : Int)) + (((((F_laws_toChan x_aC).Cur).Win).Bits).length : Int)) + ((((F_laws_toChan x_aC).Old).Key).length : Int)) + (((((F_laws_toChan x_aC).Old).Win).Bits).length : Int)) + (((F_laws_toChan x_aC).Next).length : Int))) (want_none rfl) rfl rfl (.inr rfl) rfl ?_
            refine wl_nil ?_
            refine wq_then ?_
            refine wc_seq ?_
            refine wc_seq ?_
            refine wc_region ?_
            refine wl_mv (.int .i64 ((((((1 + (((F_laws_toChan x_aC).Sn).length : Int)) + ((((F_laws_toChan x_aC).Cur).Key).length : Int)) + (((((F_laws_toChan x_aC).Cur).Win).Bits).length : Int)) + ((((F_laws_toChan x_aC).Old).Key).length : Int)) + (((((F_laws_toChan x_aC).Old).Win).Bits).length : Int)) + (((F_laws_toChan x_aC).Next).length : Int))) (want_none rfl) rfl rfl (.inl rfl) rfl ?_
            refine wl_pure (.bool (decide (((((((1 + (((F_laws_toChan x_aC).Sn).length : Int)) + ((((F_laws_toChan x_aC).Cur).Key).length : Int)) + (((((F_laws_toChan x_aC).Cur).Win).Bits).length : Int)) + ((((F_laws_toChan x_aC).Old).Key).length : Int)) + (((((F_laws_toChan x_aC).Old).Win).Bits).length : Int)) + (((F_laws_toChan x_aC).Next).length : Int)) < 0))) (want_none rfl) rfl rfl (by kernel_rfl) ?_
            refine wl_mv (.bool (decide (((((((1 + (((F_laws_toChan x_aC).Sn).length : Int)) + ((((F_laws_toChan x_aC).Cur).Key).length : Int)) + (((((F_laws_toChan x_aC).Cur).Win).Bits).length : Int)) + ((((F_laws_toChan x_aC).Old).Key).length : Int)) + (((((F_laws_toChan x_aC).Old).Win).Bits).length : Int)) + (((F_laws_toChan x_aC).Next).length : Int)) < 0))) (want_none rfl) rfl rfl (.inl rfl) rfl ?_
            rcases Bool.eq_false_or_eq_true (decide (((((((1 + (((F_laws_toChan x_aC).Sn).length : Int)) + ((((F_laws_toChan x_aC).Cur).Key).length : Int)) + (((((F_laws_toChan x_aC).Cur).Win).Bits).length : Int)) + ((((F_laws_toChan x_aC).Old).Key).length : Int)) + (((((F_laws_toChan x_aC).Old).Win).Bits).length : Int)) + (((F_laws_toChan x_aC).Next).length : Int)) < 0)) with h416 | h416
            · have q417 := of_decide_eq_true h416
              refine wl_skip rfl rfl rfl (congrArg Value.bool h416) rfl rfl rfl ?_
              refine wl_skip rfl rfl rfl (congrArg Value.bool h416) rfl rfl rfl ?_
              refine wl_skip rfl rfl rfl (congrArg Value.bool h416) rfl rfl rfl ?_
              refine wl_skip rfl rfl rfl (congrArg Value.bool h416) rfl rfl rfl ?_
              refine wl_pick_t (.bool true) (want_none rfl) rfl rfl rfl (congrArg Value.bool h416) rfl ?_
              refine wl_mv (.bool true) (want_none rfl) rfl rfl (.inl rfl) rfl ?_
              refine wl_skip rfl rfl rfl rfl rfl rfl rfl ?_
              refine wl_skip rfl rfl rfl rfl rfl rfl rfl ?_
              refine wl_skip rfl rfl rfl rfl rfl rfl rfl ?_
              refine wl_pick_t (.bool true) (want_none rfl) rfl rfl rfl rfl rfl ?_
              refine wl_nil ?_
              refine wq_then ?_
              refine wc_true rfl ?_
              refine wc_seq ?_
              refine wc_region ?_
              refine wl_mv (.bool false) (want_none rfl) rfl rfl (.inr rfl) rfl ?_
              refine wl_nil ?_
              refine wq_then ?_
              refine wc_ret ?_
              refine wq_then_ret ?_
              refine ret_1 (.inl rfl) (.bool false) rfl rfl ?_
              refine ⟨m415.keep0, ?_⟩
              have hF418 : F_laws_FnExactKeyFor x_aC x_aN = false := by simp only [F_laws_FnExactKeyFor, h40, h147, h149, h399, h416, cond_true, cond_false]
              rw [hF418]
              exact rfl
            · have q419 := of_decide_eq_false h416
              refine wl_mv (.slice a137 ((F_impl_KeyFor (F_laws_toChan x_aC) x_aN).1).length c138) (want_some rfl rfl rfl (congrArg Value.bool h416)) rfl rfl (.inl rfl) rfl ?_
              refine wl_mv (.slice a79 ((F_spec_KeyFor (F_laws_toChan x_aC) x_aN).1).length c80) (want_some rfl rfl rfl (congrArg Value.bool h416)) rfl rfl (.inl rfl) rfl ?_
              have r420 := (Rd.ms (l := [(a88, ((F_laws_toChan x_aC).Sn).length, c89), (a93, (((F_laws_toChan x_aC).Cur).Key).length, c94), (a98, ((((F_laws_toChan x_aC).Cur).Win).Bits).length, c99), (a103, (((F_laws_toChan x_aC).Old).Key).length, c104), (a108, ((((F_laws_toChan x_aC).Old).Win).Bits).length, c109), (a113, ((F_laws_toChan x_aC).Next).length, c114)]) (((Rd.of_own o139).kp k145).kp k364) rfl k408 (ap_cons (rd_cap (Rd.of_own o402)) (Ap.lt o90 o139 (Nat.le_trans k123.size k126.size)) (ap_cons (rd_cap (Rd.of_own o403)) (Ap.lt o95 o139 (Nat.le_trans k123.size k126.size)) (ap_cons (rd_cap (Rd.of_own o404)) (Ap.lt o100 o139 (Nat.le_trans k123.size k126.size)) (ap_cons (rd_cap (Rd.of_own o405)) (Ap.lt o105 o139 (Nat.le_trans k123.size k126.size)) (ap_cons (rd_cap (Rd.of_own o406)) (Ap.lt o110 o139 (Nat.le_trans k123.size k126.size)) (ap_cons (rd_cap (Rd.of_own o407)) (Ap.lt o115 o139 (Nat.le_trans k123.size k126.size)) ap_nil)))))))
              have r421 := (Rd.ms (l := [(a88, ((F_laws_toChan x_aC).Sn).length, c89), (a93, (((F_laws_toChan x_aC).Cur).Key).length, c94), (a98, ((((F_laws_toChan x_aC).Cur).Win).Bits).length, c99), (a103, (((F_laws_toChan x_aC).Old).Key).length, c104), (a108, ((((F_laws_toChan x_aC).Old).Win).Bits).length, c109), (a113, ((F_laws_toChan x_aC).Next).length, c114)]) (((Rd.of_own o144).kp k145).kp k364) rfl k408 (ap_cons (rd_cap (Rd.of_own o402)) (Ap.lt o81 o90 (Nat.le_refl _)).symm (ap_cons (rd_cap (Rd.of_own o403)) (Ap.lt o81 o95 (Nat.le_refl _)).symm (ap_cons (rd_cap (Rd.of_own o404)) (Ap.lt o81 o100 (Nat.le_refl _)).symm (ap_cons (rd_cap (Rd.of_own o405)) (Ap.lt o81 o105 (Nat.le_refl _)).symm (ap_cons (rd_cap (Rd.of_own o406)) (Ap.lt o81 o110 (Nat.le_refl _)).symm (ap_cons (rd_cap (Rd.of_own o407)) (Ap.lt o81 o115 (Nat.le_refl _)).symm ap_nil)))))))
              refine wl_call (want_some rfl rfl rfl (congrArg Value.bool h416)) (args := #[(.slice a137 ((F_impl_KeyFor (F_laws_toChan x_aC) x_aN).1).length c138), (.slice a79 ((F_spec_KeyFor (F_laws_toChan x_aC) x_aN).1).length c80)]) rfl rfl (by kernel_rfl) (C_laws_eqByteS w11 (.slice a137 ((F_impl_KeyFor (F_laws_toChan x_aC) x_aN).1).length c138) ((F_impl_KeyFor (F_laws_toChan x_aC) x_aN).1) (show R_22 w11 (.slice a137 ((F_impl_KeyFor (F_laws_toChan x_aC) x_aN).1).length c138) ((F_impl_KeyFor (F_laws_toChan x_aC) x_aN).1) from ⟨_, _, rfl, r420, s140⟩) (.slice a79 ((F_spec_KeyFor (F_laws_toChan x_aC) x_aN).1).length c80) ((F_spec_KeyFor (F_laws_toChan x_aC) x_aN).1) (show R_22 w11 (.slice a79 ((F_spec_KeyFor (F_laws_toChan x_aC) x_aN).1).length c80) ((F_spec_KeyFor (F_laws_toChan x_aC) x_aN).1) from ⟨_, _, rfl, r421, s82⟩)) ?_
              rintro _ w12 ⟨k422, rfl⟩
              have m423 := m415.extk k422
              refine wl_pure (.bool (!(eqB ((F_impl_KeyFor (F_laws_toChan x_aC) x_aN).1) ((F_spec_KeyFor (F_laws_toChan x_aC) x_aN).1)))) (want_some rfl rfl rfl (congrArg Value.bool h416)) rfl rfl (by kernel_rfl) ?_
              refine wl_pick_f (.bool (!(eqB ((F_impl_KeyFor (F_laws_toChan x_aC) x_aN).1) ((F_spec_KeyFor (F_laws_toChan x_aC) x_aN).1)))) (want_none rfl) rfl rfl rfl (congrArg Value.bool h416) rfl ?_
              refine wl_mv (.bool (!(eqB ((F_impl_KeyFor (F_laws_toChan x_aC) x_aN).1) ((F_spec_KeyFor (F_laws_toChan x_aC) x_aN).1)))) (want_none rfl) rfl rfl (.inl rfl) rfl ?_
              refine wl_mv (.bool ((F_impl_KeyFor (F_laws_toChan x_aC) x_aN).2)) (want_some rfl rfl rfl (congrArg (fun b => Value.bool (!b)) h147)) rfl rfl (.inl rfl) rfl ?_
              refine wl_mv (.bool ((F_spec_KeyFor (F_laws_toChan x_aC) x_aN).2)) (want_some rfl rfl rfl (congrArg (fun b => Value.bool (!b)) h147)) rfl rfl (.inl rfl) rfl ?_
              refine wl_pure (.bool (!(((F_impl_KeyFor (F_laws_toChan x_aC) x_aN).2) == ((F_spec_KeyFor (F_laws_toChan x_aC) x_aN).2)))) (want_some rfl rfl rfl (congrArg (fun b => Value.bool (!b)) h147)) rfl rfl (by kernel_rfl) ?_
              refine wl_pick_f (.bool (!(((F_impl_KeyFor (F_laws_toChan x_aC) x_aN).2) == ((F_spec_KeyFor (F_laws_toChan x_aC) x_aN).2)))) (want_none rfl) rfl rfl rfl (congrArg (fun b => Value.bool (!b)) h147) rfl ?_
              refine wl_nil ?_
              refine wq_then ?_
              refine wc_false (congrArg (fun b => Value.bool (!b)) h149) ?_
              refine wc_skip ?_
              refine wq_then ?_
              refine wc_seq ?_
              refine wc_region ?_
              refine wl_mv (.int .i64 1) (want_none rfl) rfl rfl (.inr rfl) rfl ?_
              refine wl_nil ?_
              refine wq_then ?_
              refine wc_seq ?_
              refine wc_region ?_
              refine wl_mv (.slice a137 ((F_impl_KeyFor (F_laws_toChan x_aC) x_aN).1).length c138) (want_none rfl) rfl rfl (.inl rfl) rfl ?_
              refine wl_mv (.int .i64 1) (want_none rfl) rfl rfl (.inl rfl) rfl ?_
              have r424 := (r420.kp k422)
              have wp425 : Wp w12 5 a137 ((F_impl_KeyFor (F_laws_toChan x_aC) x_aN).1).length c138 _ := (Wp.kp (Wp.ms (l := [(a88, ((F_laws_toChan x_aC).Sn).length, c89), (a93, (((F_laws_toChan x_aC).Cur).Key).length, c94), (a98, ((((F_laws_toChan x_aC).Cur).Win).Bits).length, c99), (a103, (((F_laws_toChan x_aC).Old).Key).length, c104), (a108, ((((F_laws_toChan x_aC).Old).Win).Bits).length, c109), (a113, ((F_laws_toChan x_aC).Next).length, c114)]) (Wp.kp (Wp.kp (Wp.of o139) k145) k364) (rd_cap r424) rfl k408 (ap_cons (rd_cap (Rd.of_own o402)) (Ap.lt o90 o139 (Nat.le_trans k123.size k126.size)) (ap_cons (rd_cap (Rd.of_own o403)) (Ap.lt o95 o139 (Nat.le_trans k123.size k126.size)) (ap_cons (rd_cap (Rd.of_own o404)) (Ap.lt o100 o139 (Nat.le_trans k123.size k126.size)) (ap_cons (rd_cap (Rd.of_own o405)) (Ap.lt o105 o139 (Nat.le_trans k123.size k126.size)) (ap_cons (rd_cap (Rd.of_own o406)) (Ap.lt o110 o139 (Nat.le_trans k123.size k126.size)) (ap_cons (rd_cap (Rd.of_own o407)) (Ap.lt o115 o139 (Nat.le_trans k123.size k126.size)) ap_nil))))))) k422)
              refine wl_call (want_none rfl) (args := #[(.slice a137 ((F_impl_KeyFor (F_laws_toChan x_aC) x_aN).1).length c138), (.int .i64 1)]) rfl rfl (by kernel_rfl) (C_laws_markByteS w12 a137 c138 ((F_impl_KeyFor (F_laws_toChan x_aC) x_aN).1) 1 (by omega) (by omega) s140 r424 wp425) ?_
              rintro _ w13 ⟨rfl, k426, r427⟩
              have m428 := m423.ext k426 (fun k hk => ms_ge (ms_ge_cons (fun hn x hx => Nat.le_trans (Nat.le_trans (Nat.le_trans (Nat.le_trans (Nat.le_trans (Nat.le_trans (Nat.le_trans k34.size k37.size) k45.size) k78.size) k87.size) k123.size) k126.size) (own_lt o139 x.block (by rw [hx]; rfl)).1) ms_ge_nil) hk)
              refine wl_mv (.int .i64 (1 + (((F_impl_KeyFor (F_laws_toChan x_aC) x_aN).1).length : Int))) (want_none rfl) rfl rfl (.inr rfl) rfl ?_
              refine wl_nil ?_
              refine wq_then ?_
              refine wc_seq ?_
              refine wc_region ?_
              refine wl_mv (.int .i64 1) (want_none rfl) rfl rfl (.inr rfl) rfl ?_
              refine wl_nil ?_
              refine wq_then ?_
              refine wc_seq ?_
              refine wc_region ?_
              refine wl_mv (.slice a137 ((F_impl_KeyFor (F_laws_toChan x_aC) x_aN).1).length c138) (want_none rfl) rfl rfl (.inl rfl) rfl ?_
              refine wl_mv (.int .i64 1) (want_none rfl) rfl rfl (.inl rfl) rfl ?_
              refine wl_call (want_none rfl) (args := #[(.slice a137 ((F_impl_KeyFor (F_laws_toChan x_aC) x_aN).1).length c138), (.int .i64 1)]) rfl rfl (by kernel_rfl) (C_laws_heldByteS w13 (.slice a137 ((F_impl_KeyFor (F_laws_toChan x_aC) x_aN).1).length c138) (marksB 1 ((F_impl_KeyFor (F_laws_toChan x_aC) x_aN).1).length) (show R_22 w13 (.slice a137 ((F_impl_KeyFor (F_laws_toChan x_aC) x_aN).1).length c138) (marksB 1 ((F_impl_KeyFor (F_laws_toChan x_aC) x_aN).1).length) from ⟨a137, c138, by simp only [marksB_len, marksI_len], by simpa only [marksB_len, marksI_len] using r427, by simp only [marksB_len, marksI_len]; first | exact s140 | omega⟩) 1 (by omega) (by omega)) ?_
              rintro _ w14 ⟨k429, rfl⟩
              have m430 := m428.extk k429
              have q431 := heldB_le (marksB 1 ((F_impl_KeyFor (F_laws_toChan x_aC) x_aN).1).length) 1
              refine wl_mv (.int .i64 (heldB (marksB 1 ((F_impl_KeyFor (F_laws_toChan x_aC) x_aN).1).length) 1)) (want_none rfl) rfl rfl (.inr rfl) rfl ?_
              refine wl_nil ?_
              refine wq_then ?_
              refine wc_seq ?_
              refine wc_seq ?_
              refine wc_region ?_
              refine wl_mv (.int .i64 (heldB (marksB 1 ((F_impl_KeyFor (F_laws_toChan x_aC) x_aN).1).length) 1)) (want_none rfl) rfl rfl (.inl rfl) rfl ?_
              refine wl_pure (.bool (decide ((heldB (marksB 1 ((F_impl_KeyFor (F_laws_toChan x_aC) x_aN).1).length) 1) < 0))) (want_none rfl) rfl rfl (by kernel_rfl) ?_
              refine wl_nil ?_
              refine wq_then ?_
              rcases Bool.eq_false_or_eq_true (decide ((heldB (marksB 1 ((F_impl_KeyFor (F_laws_toChan x_aC) x_aN).1).length) 1) < 0)) with h432 | h432
              · have q433 := of_decide_eq_true h432
                refine wc_true (congrArg Value.bool h432) ?_
                refine wc_seq ?_
                refine wc_region ?_
                refine wl_mv (.bool false) (want_none rfl) rfl rfl (.inr rfl) rfl ?_
                refine wl_nil ?_
                refine wq_then ?_
                refine wc_ret ?_
                refine wq_then_ret ?_
                refine ret_1 (.inl rfl) (.bool false) rfl rfl ?_
                refine ⟨m430.keep0, ?_⟩
                have hF434 : F_laws_FnExactKeyFor x_aC x_aN = false := by simp only [F_laws_FnExactKeyFor, h40, h147, h149, h399, h416, h432, cond_true, cond_false]
                rw [hF434]
                exact rfl
              · have q435 := of_decide_eq_false h432
                refine wc_false (congrArg Value.bool h432) ?_
                refine wc_skip ?_
                refine wq_then ?_
                refine wc_seq ?_
                refine wc_seq ?_
                refine wc_region ?_
                refine wl_mv (.int .i64 (heldB (marksB 1 ((F_impl_KeyFor (F_laws_toChan x_aC) x_aN).1).length) 1)) (want_none rfl) rfl rfl (.inl rfl) rfl ?_
                refine wl_mv (.int .i64 (1 + (((F_impl_KeyFor (F_laws_toChan x_aC) x_aN).1).length : Int))) (want_none rfl) rfl rfl (.inl rfl) rfl ?_
                refine wl_pure (.bool (!(decide ((heldB (marksB 1 ((F_impl_KeyFor (F_laws_toChan x_aC) x_aN).1).length) 1) = (1 + (((F_impl_KeyFor (F_laws_toChan x_aC) x_aN).1).length : Int)))))) (want_none rfl) rfl rfl (by kernel_rfl) ?_
                refine wl_nil ?_
                refine wq_then ?_
                rcases Bool.eq_false_or_eq_true (decide ((heldB (marksB 1 ((F_impl_KeyFor (F_laws_toChan x_aC) x_aN).1).length) 1) = (1 + (((F_impl_KeyFor (F_laws_toChan x_aC) x_aN).1).length : Int)))) with h436 | h436
                · have q437 := of_decide_eq_true h436
                  refine wc_false (congrArg (fun b => Value.bool (!b)) h436) ?_
                  refine wc_skip ?_
                  refine wq_then ?_
                  refine wc_seq ?_
                  refine wc_region ?_
                  have b438 := ((((((((((b86.kp k87).kp k123).ch k126 (Nat.ne_of_lt (Nat.lt_of_lt_of_le p33 (Nat.le_trans (Nat.le_trans (Nat.le_trans (Nat.le_trans k37.size k45.size) k78.size) k87.size) p121)))).kp k136).kp k145).kp k364).ch k408 (ms_lo (ms_lo_cons (fun hn x hx hb => by have := (own_lt o90 x.block (by rw [hx]; rfl)).1; have := Nat.lt_of_lt_of_le p33 (Nat.le_trans (Nat.le_trans k37.size k45.size) k78.size); omega) (ms_lo_cons (fun hn x hx hb => by have := (own_lt o95 x.block (by rw [hx]; rfl)).1; have := Nat.lt_of_lt_of_le p33 (Nat.le_trans (Nat.le_trans k37.size k45.size) k78.size); omega) (ms_lo_cons (fun hn x hx hb => by have := (own_lt o100 x.block (by rw [hx]; rfl)).1; have := Nat.lt_of_lt_of_le p33 (Nat.le_trans (Nat.le_trans k37.size k45.size) k78.size); omega) (ms_lo_cons (fun hn x hx hb => by have := (own_lt o105 x.block (by rw [hx]; rfl)).1; have := Nat.lt_of_lt_of_le p33 (Nat.le_trans (Nat.le_trans k37.size k45.size) k78.size); omega) (ms_lo_cons (fun hn x hx hb => by have := (own_lt o110 x.block (by rw [hx]; rfl)).1; have := Nat.lt_of_lt_of_le p33 (Nat.le_trans (Nat.le_trans k37.size k45.size) k78.size); omega) (ms_lo_cons (fun hn x hx hb => by have := (own_lt o115 x.block (by rw [hx]; rfl)).1; have := Nat.lt_of_lt_of_le p33 (Nat.le_trans (Nat.le_trans k37.size k45.size) k78.size); omega) ms_lo_nil)))))))).kp k422).ch k426 (ms_lo (ms_lo_cons (fun hn x hx hb => by have := (own_lt o139 x.block (by rw [hx]; rfl)).1; have := Nat.lt_of_lt_of_le p33 (Nat.le_trans (Nat.le_trans (Nat.le_trans (Nat.le_trans (Nat.le_trans k37.size k45.size) k78.size) k87.size) k123.size) k126.size); omega) ms_lo_nil))).kp k429)
                  refine wl_loadN [(.int .i64 x_aC.Role), (.slice a1 x_aC.Sn.length c2), (.int .i64 x_aC.Cur.N), (.slice a6 x_aC.Cur.Key.length c7), (.int .i64 x_aC.Cur.Seq), (.int .i64 x_aC.Cur.Win.Top), (.slice a11 x_aC.Cur.Win.Bits.length c12), (.int .i64 x_aC.Old.N), (.slice a16 x_aC.Old.Key.length c17), (.int .i64 x_aC.Old.Seq), (.int .i64 x_aC.Old.Win.Top), (.slice a21 x_aC.Old.Win.Bits.length c22), (.bool x_aC.HasOld), (.int .i64 x_aC.Until), (.slice a26 x_aC.Next.length c27)] (want_none rfl) rfl rfl rfl rfl isAgg_41 sizeOf_41 b438 rfl ?_
                  refine wl_call (want_none rfl) (args := #[(.agg #[(.int .i64 x_aC.Role), (.slice a1 x_aC.Sn.length c2), (.int .i64 x_aC.Cur.N), (.slice a6 x_aC.Cur.Key.length c7), (.int .i64 x_aC.Cur.Seq), (.int .i64 x_aC.Cur.Win.Top), (.slice a11 x_aC.Cur.Win.Bits.length c12), (.int .i64 x_aC.Old.N), (.slice a16 x_aC.Old.Key.length c17), (.int .i64 x_aC.Old.Seq), (.int .i64 x_aC.Old.Win.Top), (.slice a21 x_aC.Old.Win.Bits.length c22), (.bool x_aC.HasOld), (.int .i64 x_aC.Until), (.slice a26 x_aC.Next.length c27)])]) rfl rfl (by kernel_rfl) (C_laws_toChan w14 (.agg #[(.int .i64 x_aC.Role), (.slice a1 x_aC.Sn.length c2), (.int .i64 x_aC.Cur.N), (.slice a6 x_aC.Cur.Key.length c7), (.int .i64 x_aC.Cur.Seq), (.int .i64 x_aC.Cur.Win.Top), (.slice a11 x_aC.Cur.Win.Bits.length c12), (.int .i64 x_aC.Old.N), (.slice a16 x_aC.Old.Key.length c17), (.int .i64 x_aC.Old.Seq), (.int .i64 x_aC.Old.Win.Top), (.slice a21 x_aC.Old.Win.Bits.length c22), (.bool x_aC.HasOld), (.int .i64 x_aC.Until), (.slice a26 x_aC.Next.length c27)]) x_aC (show R_41 w14 (.agg #[(.int .i64 x_aC.Role), (.slice a1 x_aC.Sn.length c2), (.int .i64 x_aC.Cur.N), (.slice a6 x_aC.Cur.Key.length c7), (.int .i64 x_aC.Cur.Seq), (.int .i64 x_aC.Cur.Win.Top), (.slice a11 x_aC.Cur.Win.Bits.length c12), (.int .i64 x_aC.Old.N), (.slice a16 x_aC.Old.Key.length c17), (.int .i64 x_aC.Old.Seq), (.int .i64 x_aC.Old.Win.Top), (.slice a21 x_aC.Old.Win.Bits.length c22), (.bool x_aC.HasOld), (.int .i64 x_aC.Until), (.slice a26 x_aC.Next.length c27)]) x_aC from ⟨_, _, _, _, _, _, _, _, _, _, _, _, rfl, (r3.from0 m430), (by omega), (r8.from0 m430), (by omega), (r13.from0 m430), (by omega), (r18.from0 m430), (by omega), (r23.from0 m430), (by omega), (r28.from0 m430), (by omega)⟩)) ?_
                  rintro _ w15 ⟨k439, ⟨a440, c441, a445, c446, a450, c451, a455, c456, a460, c461, a465, c466, rfl, o442, s443, o447, s448, o452, s453, o457, s458, o462, s463, o467, s468, ap470⟩⟩
                  have m471 := m430.extk k439
                  refine wl_mv (.int .i64 x_aN) (want_none rfl) rfl rfl (.inl rfl) rfl ?_
                  refine wl_call (want_none rfl) (args := #[(.agg #[(.int .i64 ((F_laws_toChan x_aC).Role)), (.slice a440 ((F_laws_toChan x_aC).Sn).length c441), (.int .i64 (((F_laws_toChan x_aC).Cur).N)), (.slice a445 (((F_laws_toChan x_aC).Cur).Key).length c446), (.int .i64 (((F_laws_toChan x_aC).Cur).Seq)), (.int .i64 ((((F_laws_toChan x_aC).Cur).Win).Top)), (.slice a450 ((((F_laws_toChan x_aC).Cur).Win).Bits).length c451), (.int .i64 (((F_laws_toChan x_aC).Old).N)), (.slice a455 (((F_laws_toChan x_aC).Old).Key).length c456), (.int .i64 (((F_laws_toChan x_aC).Old).Seq)), (.int .i64 ((((F_laws_toChan x_aC).Old).Win).Top)), (.slice a460 ((((F_laws_toChan x_aC).Old).Win).Bits).length c461), (.bool ((F_laws_toChan x_aC).HasOld)), (.int .i64 ((F_laws_toChan x_aC).Until)), (.slice a465 ((F_laws_toChan x_aC).Next).length c466)]), (.int .i64 x_aN)]) rfl rfl (by kernel_rfl) (C_impl_KeyFor w15 (.agg #[(.int .i64 ((F_laws_toChan x_aC).Role)), (.slice a440 ((F_laws_toChan x_aC).Sn).length c441), (.int .i64 (((F_laws_toChan x_aC).Cur).N)), (.slice a445 (((F_laws_toChan x_aC).Cur).Key).length c446), (.int .i64 (((F_laws_toChan x_aC).Cur).Seq)), (.int .i64 ((((F_laws_toChan x_aC).Cur).Win).Top)), (.slice a450 ((((F_laws_toChan x_aC).Cur).Win).Bits).length c451), (.int .i64 (((F_laws_toChan x_aC).Old).N)), (.slice a455 (((F_laws_toChan x_aC).Old).Key).length c456), (.int .i64 (((F_laws_toChan x_aC).Old).Seq)), (.int .i64 ((((F_laws_toChan x_aC).Old).Win).Top)), (.slice a460 ((((F_laws_toChan x_aC).Old).Win).Bits).length c461), (.bool ((F_laws_toChan x_aC).HasOld)), (.int .i64 ((F_laws_toChan x_aC).Until)), (.slice a465 ((F_laws_toChan x_aC).Next).length c466)]) (F_laws_toChan x_aC) (show R_29 w15 (.agg #[(.int .i64 ((F_laws_toChan x_aC).Role)), (.slice a440 ((F_laws_toChan x_aC).Sn).length c441), (.int .i64 (((F_laws_toChan x_aC).Cur).N)), (.slice a445 (((F_laws_toChan x_aC).Cur).Key).length c446), (.int .i64 (((F_laws_toChan x_aC).Cur).Seq)), (.int .i64 ((((F_laws_toChan x_aC).Cur).Win).Top)), (.slice a450 ((((F_laws_toChan x_aC).Cur).Win).Bits).length c451), (.int .i64 (((F_laws_toChan x_aC).Old).N)), (.slice a455 (((F_laws_toChan x_aC).Old).Key).length c456), (.int .i64 (((F_laws_toChan x_aC).Old).Seq)), (.int .i64 ((((F_laws_toChan x_aC).Old).Win).Top)), (.slice a460 ((((F_laws_toChan x_aC).Old).Win).Bits).length c461), (.bool ((F_laws_toChan x_aC).HasOld)), (.int .i64 ((F_laws_toChan x_aC).Until)), (.slice a465 ((F_laws_toChan x_aC).Next).length c466)]) (F_laws_toChan x_aC) from ⟨_, _, _, _, _, _, _, _, _, _, _, _, rfl, (Rd.of_own o442), s443, (Rd.of_own o447), s448, (Rd.of_own o452), s453, (Rd.of_own o457), s458, (Rd.of_own o462), s463, (Rd.of_own o467), s468⟩) x_aN) ?_
                  rintro _ w16 ⟨k472, ⟨a473, c474, rfl, o475, s476, ap478⟩⟩
                  have m479 := m471.extk k472
                  refine wl_mv (.tuple #[(.slice a473 ((F_impl_KeyFor (F_laws_toChan x_aC) x_aN).1).length c474), (.bool ((F_impl_KeyFor (F_laws_toChan x_aC) x_aN).2))]) (want_none rfl) rfl rfl (.inl rfl) rfl ?_
                  refine wl_pure (.slice a473 ((F_impl_KeyFor (F_laws_toChan x_aC) x_aN).1).length c474) (want_none rfl) rfl rfl (by kernel_rfl) ?_
                  refine wl_pure (.bool ((F_impl_KeyFor (F_laws_toChan x_aC) x_aN).2)) (want_none rfl) rfl rfl (by kernel_rfl) ?_
                  refine wl_mv (.slice a473 ((F_impl_KeyFor (F_laws_toChan x_aC) x_aN).1).length c474) (want_none rfl) rfl rfl (.inr rfl) rfl ?_
                  refine wl_mv (.bool ((F_impl_KeyFor (F_laws_toChan x_aC) x_aN).2)) (want_none rfl) rfl rfl (.inr rfl) rfl ?_
                  refine wl_nil ?_
                  refine wq_then ?_
                  refine wc_seq ?_
                  refine wc_seq ?_
                  refine wc_region ?_
                  refine wl_mv (.slice a473 ((F_impl_KeyFor (F_laws_toChan x_aC) x_aN).1).length c474) (want_none rfl) rfl rfl (.inl rfl) rfl ?_
                  refine wl_mv (.slice a79 ((F_spec_KeyFor (F_laws_toChan x_aC) x_aN).1).length c80) (want_none rfl) rfl rfl (.inl rfl) rfl ?_
                  have r480 := ((((Rd.ms (l := [(a137, ((F_impl_KeyFor (F_laws_toChan x_aC) x_aN).1).length, c138)]) (r421.kp k422) rfl k426 (ap_cons (rd_cap r424) (Ap.lt o81 o139 (Nat.le_trans (Nat.le_trans k87.size k123.size) k126.size)).symm ap_nil)).kp k429).kp k439).kp k472)
                  refine wl_call (want_none rfl) (args := #[(.slice a473 ((F_impl_KeyFor (F_laws_toChan x_aC) x_aN).1).length c474), (.slice a79 ((F_spec_KeyFor (F_laws_toChan x_aC) x_aN).1).length c80)]) rfl rfl (by kernel_rfl) (C_laws_eqByteS w16 (.slice a473 ((F_impl_KeyFor (F_laws_toChan x_aC) x_aN).1).length c474) ((F_impl_KeyFor (F_laws_toChan x_aC) x_aN).1) (show R_22 w16 (.slice a473 ((F_impl_KeyFor (F_laws_toChan x_aC) x_aN).1).length c474) ((F_impl_KeyFor (F_laws_toChan x_aC) x_aN).1) from ⟨_, _, rfl, (Rd.of_own o475), s476⟩) (.slice a79 ((F_spec_KeyFor (F_laws_toChan x_aC) x_aN).1).length c80) ((F_spec_KeyFor (F_laws_toChan x_aC) x_aN).1) (show R_22 w16 (.slice a79 ((F_spec_KeyFor (F_laws_toChan x_aC) x_aN).1).length c80) ((F_spec_KeyFor (F_laws_toChan x_aC) x_aN).1) from ⟨_, _, rfl, r480, s82⟩)) ?_
                  rintro _ w17 ⟨k481, rfl⟩
                  have m482 := m479.extk k481
                  refine wl_pure (.bool (!(eqB ((F_impl_KeyFor (F_laws_toChan x_aC) x_aN).1) ((F_spec_KeyFor (F_laws_toChan x_aC) x_aN).1)))) (want_none rfl) rfl rfl (by kernel_rfl) ?_
                  refine wl_mv (.bool (!(eqB ((F_impl_KeyFor (F_laws_toChan x_aC) x_aN).1) ((F_spec_KeyFor (F_laws_toChan x_aC) x_aN).1)))) (want_none rfl) rfl rfl (.inl rfl) rfl ?_
                  refine wl_mv (.bool ((F_impl_KeyFor (F_laws_toChan x_aC) x_aN).2)) (want_some rfl rfl rfl (congrArg (fun b => Value.bool (!b)) h147)) rfl rfl (.inl rfl) rfl ?_
                  refine wl_mv (.bool ((F_spec_KeyFor (F_laws_toChan x_aC) x_aN).2)) (want_some rfl rfl rfl (congrArg (fun b => Value.bool (!b)) h147)) rfl rfl (.inl rfl) rfl ?_
                  refine wl_pure (.bool (!(((F_impl_KeyFor (F_laws_toChan x_aC) x_aN).2) == ((F_spec_KeyFor (F_laws_toChan x_aC) x_aN).2)))) (want_some rfl rfl rfl (congrArg (fun b => Value.bool (!b)) h147)) rfl rfl (by kernel_rfl) ?_
                  refine wl_pick_f (.bool (!(((F_impl_KeyFor (F_laws_toChan x_aC) x_aN).2) == ((F_spec_KeyFor (F_laws_toChan x_aC) x_aN).2)))) (want_none rfl) rfl rfl rfl (congrArg (fun b => Value.bool (!b)) h147) rfl ?_
                  refine wl_nil ?_
                  refine wq_then ?_
                  refine wc_false (congrArg (fun b => Value.bool (!b)) h149) ?_
                  refine wc_skip ?_
                  refine wq_then ?_
                  refine wc_seq ?_
                  refine wc_region ?_
                  refine wl_mv (.int .i64 1) (want_none rfl) rfl rfl (.inr rfl) rfl ?_
                  refine wl_nil ?_
                  refine wq_then ?_
                  refine wc_seq ?_
                  refine wc_region ?_
                  refine wl_mv (.slice a137 ((F_impl_KeyFor (F_laws_toChan x_aC) x_aN).1).length c138) (want_none rfl) rfl rfl (.inl rfl) rfl ?_
                  refine wl_mv (.int .i64 1) (want_none rfl) rfl rfl (.inl rfl) rfl ?_
                  have r483 := ((((r427.kp k429).kp k439).kp k472).kp k481)
                  refine wl_call (want_none rfl) (args := #[(.slice a137 ((F_impl_KeyFor (F_laws_toChan x_aC) x_aN).1).length c138), (.int .i64 1)]) rfl rfl (by kernel_rfl) (C_laws_heldByteS w17 (.slice a137 ((F_impl_KeyFor (F_laws_toChan x_aC) x_aN).1).length c138) (marksB 1 ((F_impl_KeyFor (F_laws_toChan x_aC) x_aN).1).length) (show R_22 w17 (.slice a137 ((F_impl_KeyFor (F_laws_toChan x_aC) x_aN).1).length c138) (marksB 1 ((F_impl_KeyFor (F_laws_toChan x_aC) x_aN).1).length) from ⟨a137, c138, by simp only [marksB_len, marksI_len], by simpa only [marksB_len, marksI_len] using r483, by simp only [marksB_len, marksI_len]; first | exact s140 | omega⟩) 1 (by omega) (by omega)) ?_
                  rintro _ w18 ⟨k484, rfl⟩
                  have m485 := m482.extk k484
                  have q486 := heldB_le (marksB 1 ((F_impl_KeyFor (F_laws_toChan x_aC) x_aN).1).length) 1
                  refine wl_mv (.int .i64 (heldB (marksB 1 ((F_impl_KeyFor (F_laws_toChan x_aC) x_aN).1).length) 1)) (want_none rfl) rfl rfl (.inr rfl) rfl ?_
                  refine wl_nil ?_
                  refine wq_then ?_
                  refine wc_seq ?_
                  refine wc_seq ?_
                  refine wc_region ?_
                  refine wl_mv (.int .i64 (heldB (marksB 1 ((F_impl_KeyFor (F_laws_toChan x_aC) x_aN).1).length) 1)) (want_none rfl) rfl rfl (.inl rfl) rfl ?_
                  refine wl_pure (.bool (decide ((heldB (marksB 1 ((F_impl_KeyFor (F_laws_toChan x_aC) x_aN).1).length) 1) < 0))) (want_none rfl) rfl rfl (by kernel_rfl) ?_
                  refine wl_nil ?_
                  refine wq_then ?_
                  refine wc_false (congrArg Value.bool h432) ?_
                  refine wc_skip ?_
                  refine wq_then ?_
                  refine wc_seq ?_
                  refine wc_seq ?_
                  refine wc_region ?_
                  refine wl_mv (.int .i64 (heldB (marksB 1 ((F_impl_KeyFor (F_laws_toChan x_aC) x_aN).1).length) 1)) (want_none rfl) rfl rfl (.inl rfl) rfl ?_
                  refine wl_mv (.int .i64 (1 + (((F_impl_KeyFor (F_laws_toChan x_aC) x_aN).1).length : Int))) (want_none rfl) rfl rfl (.inl rfl) rfl ?_
                  refine wl_pure (.bool (!(decide ((heldB (marksB 1 ((F_impl_KeyFor (F_laws_toChan x_aC) x_aN).1).length) 1) = (1 + (((F_impl_KeyFor (F_laws_toChan x_aC) x_aN).1).length : Int)))))) (want_none rfl) rfl rfl (by kernel_rfl) ?_
                  refine wl_nil ?_
                  refine wq_then ?_
                  refine wc_false (congrArg (fun b => Value.bool (!b)) h436) ?_
                  refine wc_skip ?_
                  refine wq_then ?_
                  refine wc_seq ?_
                  refine wc_region ?_
                  refine wl_mv (.bool true) (want_none rfl) rfl rfl (.inr rfl) rfl ?_
                  refine wl_nil ?_
                  refine wq_then ?_
                  refine wc_ret ?_
                  refine ret_1 (.inl rfl) (.bool true) rfl rfl ?_
                  refine ⟨m485.keep0, ?_⟩
                  have hF487 : F_laws_FnExactKeyFor x_aC x_aN = true := by simp only [F_laws_FnExactKeyFor, h40, h147, h149, h399, h416, h432, h436, cond_true, cond_false]
                  rw [hF487]
                  exact rfl
                · have q488 := of_decide_eq_false h436
                  refine wc_true (congrArg (fun b => Value.bool (!b)) h436) ?_
                  refine wc_seq ?_
                  refine wc_region ?_
                  refine wl_mv (.bool false) (want_none rfl) rfl rfl (.inr rfl) rfl ?_
                  refine wl_nil ?_
                  refine wq_then ?_
                  refine wc_ret ?_
                  refine wq_then_ret ?_
                  refine ret_1 (.inl rfl) (.bool false) rfl rfl ?_
                  refine ⟨m430.keep0, ?_⟩
                  have hF489 : F_laws_FnExactKeyFor x_aC x_aN = false := by simp only [F_laws_FnExactKeyFor, h40, h147, h149, h399, h416, h432, h436, cond_true, cond_false]
                  rw [hF489]
                  exact rfl
          · skip
            refine wc_true (congrArg (fun b => Value.bool (!b)) h399) ?_
            refine wc_seq ?_
            refine wc_region ?_
            refine wl_mv (.bool false) (want_none rfl) rfl rfl (.inr rfl) rfl ?_
            refine wl_nil ?_
            refine wq_then ?_
            refine wc_ret ?_
            refine wq_then_ret ?_
            refine ret_1 (.inl rfl) (.bool false) rfl rfl ?_
            refine ⟨m365.keep0, ?_⟩
            have hF491 : F_laws_FnExactKeyFor x_aC x_aN = false := by simp only [F_laws_FnExactKeyFor, h40, h147, h149, h399, cond_true, cond_false]
            rw [hF491]
            exact rfl
      · skip
        refine wc_true (congrArg (fun b => Value.bool (!b)) h149) ?_
        refine wc_seq ?_
        refine wc_region ?_
        refine wl_mv (.bool false) (want_none rfl) rfl rfl (.inr rfl) rfl ?_
        refine wl_nil ?_
        refine wq_then ?_
        refine wc_ret ?_
        refine wq_then_ret ?_
        refine ret_1 (.inl rfl) (.bool false) rfl rfl ?_
        refine ⟨m146.keep0, ?_⟩
        have hF493 : F_laws_FnExactKeyFor x_aC x_aN = false := by simp only [F_laws_FnExactKeyFor, h40, h147, h149, cond_true, cond_false]
        rw [hF493]
        exact rfl
    · skip
      refine wl_skip rfl rfl rfl (congrArg (fun b => Value.bool (!b)) h147) rfl rfl rfl ?_
      refine wl_skip rfl rfl rfl (congrArg (fun b => Value.bool (!b)) h147) rfl rfl rfl ?_
      refine wl_skip rfl rfl rfl (congrArg (fun b => Value.bool (!b)) h147) rfl rfl rfl ?_
      refine wl_pick_t (.bool true) (want_none rfl) rfl rfl rfl (congrArg (fun b => Value.bool (!b)) h147) rfl ?_
      refine wl_nil ?_
      refine wq_then ?_
      refine wc_true rfl ?_
      refine wc_seq ?_
      refine wc_region ?_
      refine wl_mv (.bool false) (want_none rfl) rfl rfl (.inr rfl) rfl ?_
      refine wl_nil ?_
      refine wq_then ?_
      refine wc_ret ?_
      refine wq_then_ret ?_
      refine ret_1 (.inl rfl) (.bool false) rfl rfl ?_
      refine ⟨m146.keep0, ?_⟩
      have hF495 : F_laws_FnExactKeyFor x_aC x_aN = false := by simp only [F_laws_FnExactKeyFor, h40, h147, cond_true, cond_false]
      rw [hF495]
      exact rfl

def F_spec_l8Copy (x_w : PWin) : (PWin) := x_w
theorem C_spec_l8Copy (w0 : World) (v_x_w : Value) (x_w : PWin) (r_x_w : R_25 w0 v_x_w x_w)  : Fn Try.prog 128 #[v_x_w] w0 (fun v w' => Keep w0 w' ∧ O_25 w' w0.heap.size v (F_spec_l8Copy x_w)) := by
  obtain ⟨a1, c2, rfl, r3, s4⟩ := r_x_w
  refine fn_of (n := 10) (l := [(.agg #[(.int .i64 x_w.Top), (.slice a1 x_w.Bits.length c2)]), undef, undef, undef, undef, undef, undef, undef, undef, undef]) Try.func128 rfl rfl (by kernel_rfl) rfl ?_
  refine wc_seq ?_
  refine wc_region ?_
  refine wl_box (want_none rfl) [(.int .i64 x_w.Top), (.slice a1 x_w.Bits.length c2)] rfl rfl rfl rfl ?_
  intro g6 w1 p7 p8 k9 b10
  have m11 := (Ch.base w0).extk k9
  refine wl_alloc (want_none rfl) (.agg #[(.int .i64 0), (.slice none 0 0)]) [(.int .i64 0), (.slice none 0 0)] zero_25 rfl rfl rfl rfl ?_
  intro g12 w2 p13 p14 k15 b16
  have m17 := m11.extk k15
  refine wl_nil ?_
  refine wq_then ?_
  refine wc_seq ?_
  refine wc_draw ([(3, [], [], (fun _ v _ => v = (.pointer (some ⟨g6, 0, none⟩)))), (4, [], [0], (fun _ v _ => v = (.int .i64 x_w.Top))), (5, [], [], (fun _ v w => ∃ a0 : Addr, v = .slice (some a0) 0 0 ∧ w.ownsRow w2.heap.size 3 1 (.slice (some a0) 0 0) 0 [])), (6, [], [], (fun _ v _ => v = (.pointer (some ⟨g6, 1, none⟩)))), (7, [], [3], (fun _ v _ => v = (.slice a1 x_w.Bits.length c2))), (8, [], [2, 3, 4], (fun _ v w => ∃ (a1 : Option Addr) (c1 : Nat), v = .slice a1 x_w.Bits.length c1 ∧ w.ownsRow w2.heap.size 3 1 (.slice a1 x_w.Bits.length c1) x_w.Bits.length (x_w.Bits.map iV) ∧ x_w.Bits.length ≤ 1073741824 ∧ Aps [(a1, c1)])), (9, [8], [0, 1, 2, 3, 4, 5], (fun e v _ => v = (.agg #[(.int .i64 x_w.Top), (e 8)])))] : GV) mixed rfl (by kernel_rfl) (by kernel_rfl) ?_ ?_ ?_
  · exact ⟨(fun _ _ _ _ h _ => h), (fun _ _ _ _ _ h => h), ⟨(fun _ _ _ _ h _ => h), (fun _ _ _ _ _ h => h), ⟨(fun e v w w1 h hk => by obtain ⟨a0x, he, o0x⟩ := h; exact ⟨a0x, he, own_kp o0x hk⟩), (fun _ _ _ _ _ h => h), ⟨(fun _ _ _ _ h _ => h), (fun _ _ _ _ _ h => h), ⟨(fun _ _ _ _ h _ => h), (fun _ _ _ _ _ h => h), ⟨(fun e v w w1 h hk => by obtain ⟨a0x, c0x, he, o0x, l0x, hap⟩ := h; exact ⟨a0x, c0x, he, own_kp o0x hk, l0x, hap⟩), (fun _ _ _ _ _ h => h), ⟨(fun _ _ _ _ h _ => h), (fun e1 e2 v w hx h => by have h8x := hx 8 (by simp); simp only [h8x] at h; exact h), trivial⟩⟩⟩⟩⟩⟩⟩
  · refine ⟨?_, ⟨?_, ⟨?_, ⟨?_, ⟨?_, ⟨?_, ⟨?_, trivial⟩⟩⟩⟩⟩⟩⟩
    · intro w3 k54
      have m55 := m17.extk k54
      intro u56
      intro u57
      intro u58
      intro u59
      intro u60
      intro u61
      intro u62
      show WL _ _ _ _ _ _ _
      refine wl_pure (.pointer (some ⟨g6, 0, none⟩)) (want_none rfl) rfl rfl (by kernel_rfl) ?_
      exact wl_fin (Ch.refl _ _) rfl
    · intro w3 k63
      have m64 := m17.extk k63
      rintro _ rfl
      intro u65
      intro u66
      intro u67
      intro u68
      intro u69
      intro u70
      show WL _ _ _ _ _ _ _
      have b71 := ((b10.kp k15).kp k63)
      refine wl_load1 (.int .i64 x_w.Top) (want_none rfl) rfl rfl rfl rfl isAgg_3 b71 rfl ?_
      exact wl_fin (Ch.refl _ _) rfl
    · intro w3 k72
      have m73 := m17.extk k72
      intro u74
      intro u75
      intro u76
      intro u77
      intro u78
      intro u79
      intro u80
      show WL _ _ _ _ _ _ _
      refine wl_lit0 (want_none rfl) rfl rfl slTy_23 (fun w => by kernel_rfl) ?_
      intro a81 w4 k82 o83
      have m84 := m73.extk k82
      exact wl_fin k82 ⟨_, rfl, own_lo o83 k72.size⟩
    · intro w3 k86
      have m87 := m17.extk k86
      intro u88
      intro u89
      intro u90
      intro u91
      intro u92
      intro u93
      intro u94
      show WL _ _ _ _ _ _ _
      refine wl_pure (.pointer (some ⟨g6, 1, none⟩)) (want_none rfl) rfl rfl (by kernel_rfl) ?_
      exact wl_fin (Ch.refl _ _) rfl
    · intro w3 k95
      have m96 := m17.extk k95
      intro u97
      intro u98
      intro u99
      rintro _ rfl
      intro u100
      intro u101
      intro u102
      show WL _ _ _ _ _ _ _
      have b103 := ((b10.kp k15).kp k95)
      refine wl_load1 (.slice a1 x_w.Bits.length c2) (want_none rfl) rfl rfl rfl rfl isAgg_23 b103 rfl ?_
      exact wl_fin (Ch.refl _ _) rfl
    · intro w3 k104
      have m105 := m17.extk k104
      intro u106
      intro u107
      rintro _ ⟨a108, rfl, o110⟩
      rintro _ rfl
      rintro _ rfl
      intro u114
      intro u115
      show WL _ _ _ _ _ _ _
      refine wl_append0 (want_none rfl) rfl rfl rfl slTy_23 rfl rfl o110 (r3.from0 m105) (all_iV _) (by (try simp only [List.length_append, List.length_cons, List.length_nil]); omega) (by simp only [maxLen]; (try simp only [List.length_append, List.length_cons, List.length_nil]); omega) k104.size ?_
      intro u116 w4 k117 o118 j119
      obtain ⟨a120, c121, rfl⟩ := own_form o118
      have n122 : New w3 a120 c121 := j119 _ _ rfl
      have m123 := m105.extk k117
      exact wl_fin k117 ⟨_, _, rfl, o118, s4, ⟨trivial, trivial⟩⟩
    · intro w3 k125
      have m126 := m17.extk k125
      rintro _ rfl
      rintro _ rfl
      rintro _ ⟨a128, rfl, o130⟩
      rintro _ rfl
      rintro _ rfl
      rintro _ ⟨a134, c135, rfl, o136, s137, -⟩
      intro u139
      show WL _ _ _ _ _ _ _
      refine wl_pure (.agg #[(.int .i64 x_w.Top), (.slice a134 x_w.Bits.length c135)]) (want_none rfl) rfl rfl (by kernel_rfl) ?_
      exact wl_fin (Ch.refl _ _) rfl
  · intro w3 k140
    have m141 := m17.extk k140
    rintro _ rfl
    rintro _ rfl
    rintro _ ⟨a143, rfl, o145⟩
    rintro _ rfl
    rintro _ rfl
    rintro _ ⟨a149, c150, rfl, o151, s152, -⟩
    rintro _ rfl
    show WL _ _ _ _ _ _ _
    have b154 := (b16.kp k140)
    refine wl_store (.agg #[(.int .i64 x_w.Top), (.slice a149 x_w.Bits.length c150)]) [(.int .i64 x_w.Top), (.slice a149 x_w.Bits.length c150)] [(.int .i64 x_w.Top), (.slice a149 x_w.Bits.length c150)] (want_none rfl) rfl rfl rfl rfl rfl (one_cons rfl (one_cons rfl one_nil)) sizeOf_25 b154 rfl rfl ?_
    intro w4 k155 b156 z157
    have m158 := m141.ext k155 (fun k hk => by subst hk; exact Nat.le_trans k9.size p13)
    refine wl_nil ?_
    refine wq_then ?_
    refine wc_ret ?_
    have o159 := (own_ch o151 k155 (fun g hg hlt hk => by have h1 := (own_lt o151 g hg).1; have h2 := Nat.lt_of_lt_of_le p14 (Nat.le_refl _); omega))
    refine ret_1 (.inl rfl) (.agg #[(.int .i64 x_w.Top), (.slice a149 x_w.Bits.length c150)]) rfl (rv_c [(.int .i64 x_w.Top), (.slice a149 x_w.Bits.length c150)] rfl b156 isAgg_25 sizeOf_25) ?_
    refine ⟨m158.keep0, ?_⟩
    have hF160 : F_spec_l8Copy x_w = x_w := by rfl
    rw [hF160]
    exact ⟨_, _, rfl, (own_lo o159 (Nat.le_trans k9.size k15.size)), s152, ⟨trivial, trivial⟩⟩
end Go.Proofs.Ytodlalolknldmaa.K
