import Derived.Test.YtodlalolknldmaaCore
import Derived.Test.YtodlalolknldmaaProg
import Derived.Test.YtodlalolknldmaaHeld
import Derived.Test.YtodlalolknldmaaFun
import Derived.Test.YtodlalolknldmaaWc1
namespace Go.Proofs.Ytodlalolknldmaa.K
open Go.RowKit
set_option linter.unusedVariables false
set_option linter.unusedSimpArgs false
set_option maxRecDepth 100000
def iWin (w : PWin) : Bool := bif F_impl_within w.Top (-1) 281474976710655 then (bif areW w.Bits 32 then (bif noneIn (F_impl_hasBit w) (w.Top + 1) 1024 then (decide (w.Top = -1) || F_impl_hasBit w w.Top) else false) else false) else false
theorem C_impl_WinOk (w0 : World) (v_x_w : Value) (x_w : PWin) (r_x_w : R_25 w0 v_x_w x_w)  : Fn Try.prog 111 #[v_x_w] w0 (fun v w' => Keep w0 w' ∧ O_4 w' w0.heap.size v (iWin x_w)) := by
  obtain ⟨a1, c2, rfl, r3, s4⟩ := r_x_w
  refine fn_of (n := 33) (l := [(.agg #[(.int .i64 x_w.Top), (.slice a1 x_w.Bits.length c2)]), undef, undef, undef, undef, undef, undef, undef, undef, undef, undef, undef, undef, undef, undef, undef, undef, undef, undef, undef, undef, undef, undef, undef, undef, undef, undef, undef, undef, undef, undef, undef, undef]) Try.func111 rfl rfl (by kernel_rfl) rfl ?_
  refine wc_seq ?_
  refine wc_region ?_
  refine wl_box (want_none rfl) [(.int .i64 x_w.Top), (.slice a1 x_w.Bits.length c2)] rfl rfl rfl rfl ?_
  intro g6 w1 p7 p8 k9 b10
  have m11 := (Ch.base w0).extk k9
  refine wl_mv (.bool false) (want_none rfl) rfl rfl (.inr rfl) rfl ?_
  refine wl_nil ?_
  refine wq_then ?_
  refine wc_seq ?_
  refine wc_seq ?_
  refine wc_region ?_
  refine wl_pure (.pointer (some ⟨g6, 0, none⟩)) (want_none rfl) rfl rfl (by kernel_rfl) ?_
  refine wl_load1 (.int .i64 x_w.Top) (want_none rfl) rfl rfl rfl rfl isAgg_3 b10 rfl ?_
  refine wl_call (want_none rfl) (args := #[(.int .i64 x_w.Top), (.int .i64 (-1)), (.int .i64 281474976710655)]) rfl rfl (by kernel_rfl) (C_impl_within w1 x_w.Top (-1) 281474976710655) ?_
  rintro _ w2 ⟨k12, rfl⟩
  have m13 := m11.extk k12
  refine wl_pure (.bool (!(F_impl_within x_w.Top (-1) 281474976710655))) (want_none rfl) rfl rfl (by kernel_rfl) ?_
  refine wl_mv (.bool (!(F_impl_within x_w.Top (-1) 281474976710655))) (want_none rfl) rfl rfl (.inl rfl) rfl ?_
  rcases Bool.eq_false_or_eq_true (F_impl_within x_w.Top (-1) 281474976710655) with h14 | h14
  · have q15 := impl_within_t h14
    refine wl_pure (.pointer (some ⟨g6, 1, none⟩)) (want_some rfl rfl rfl (congrArg (fun b => Value.bool (!b)) h14)) rfl rfl (by kernel_rfl) ?_
    have b16 := (b10.kp k12)
    refine wl_load1 (.slice a1 x_w.Bits.length c2) (want_some rfl rfl rfl (congrArg (fun b => Value.bool (!b)) h14)) rfl rfl rfl rfl isAgg_23 b16 rfl ?_
    refine wl_call (want_some rfl rfl rfl (congrArg (fun b => Value.bool (!b)) h14)) (args := #[(.slice a1 x_w.Bits.length c2), (.int .i64 32)]) rfl rfl (by kernel_rfl) (C_impl_areWords w2 (.slice a1 x_w.Bits.length c2) x_w.Bits (show R_23 w2 (.slice a1 x_w.Bits.length c2) x_w.Bits from ⟨_, _, rfl, (r3.from0 m13), s4⟩) 32) ?_
    rintro _ w3 ⟨k17, rfl⟩
    have m18 := m13.extk k17
    refine wl_pure (.bool (!(areW x_w.Bits 32))) (want_some rfl rfl rfl (congrArg (fun b => Value.bool (!b)) h14)) rfl rfl (by kernel_rfl) ?_
    refine wl_pick_f (.bool (!(areW x_w.Bits 32))) (want_none rfl) rfl rfl rfl (congrArg (fun b => Value.bool (!b)) h14) rfl ?_
    refine wl_nil ?_
    refine wq_then ?_
    rcases Bool.eq_false_or_eq_true (areW x_w.Bits 32) with h19 | h19
    · have q20 := areW_t h19
      refine wc_false (congrArg (fun b => Value.bool (!b)) h19) ?_
      refine wc_skip ?_
      refine wq_then ?_
      refine wc_seq ?_
      refine wc_seq ?_
      refine wc_region ?_
      refine wl_pure (.pointer (some ⟨g6, 0, none⟩)) (want_none rfl) rfl rfl (by kernel_rfl) ?_
      have b21 := (b16.kp k17)
      refine wl_load1 (.int .i64 x_w.Top) (want_none rfl) rfl rfl rfl rfl isAgg_3 b21 rfl ?_
      refine wl_arith (x_w.Top + 1) (want_none rfl) rfl rfl (by kernel_rfl) (by omega) (by omega) ?_
      refine wl_mv (.int .i64 (x_w.Top + 1)) (want_none rfl) rfl rfl (.inr rfl) rfl ?_
      refine wl_nil ?_
      refine wq_then ?_
      refine wc_block ?_
      refine wc_norm [(.agg #[(.int .i64 x_w.Top), (.slice a1 x_w.Bits.length c2)]), (.pointer (some ⟨g6, 0, none⟩)), (.bool false), (.int .i64 (x_w.Top + 1)), (.pointer (some ⟨g6, 0, none⟩)), (.int .i64 x_w.Top), (.bool (F_impl_within x_w.Top (-1) 281474976710655)), (.bool (!(F_impl_within x_w.Top (-1) 281474976710655))), (.bool (!(F_impl_within x_w.Top (-1) 281474976710655))), (.pointer (some ⟨g6, 1, none⟩)), (.slice a1 x_w.Bits.length c2), (.bool (areW x_w.Bits 32)), (.bool (!(areW x_w.Bits 32))), (.bool (!(areW x_w.Bits 32))), (.pointer (some ⟨g6, 0, none⟩)), (.int .i64 x_w.Top), (.int .i64 (x_w.Top + 1)), undef, undef, undef, undef, undef, undef, undef, undef, undef, undef, undef, undef, undef, undef, undef, undef] rfl ⟨rfl, rfl, rfl, rfl, rfl, rfl, rfl, rfl, rfl, rfl, rfl, rfl, rfl, rfl, rfl, rfl, rfl, rfl, rfl, rfl, rfl, rfl, rfl, rfl, rfl, rfl, rfl, rfl, rfl, rfl, rfl, rfl, rfl, trivial⟩ ?_
      refine wc_loop (fun e' w' => ∃ (q : Int) (u2x u17x u18x u19x u20x u21x u22x u23x : Value), e' = lst [(.agg #[(.int .i64 x_w.Top), (.slice a1 x_w.Bits.length c2)]), (.pointer (some ⟨g6, 0, none⟩)), u2x, (.int .i64 q), (.pointer (some ⟨g6, 0, none⟩)), (.int .i64 x_w.Top), (.bool (F_impl_within x_w.Top (-1) 281474976710655)), (.bool (!(F_impl_within x_w.Top (-1) 281474976710655))), (.bool (!(F_impl_within x_w.Top (-1) 281474976710655))), (.pointer (some ⟨g6, 1, none⟩)), (.slice a1 x_w.Bits.length c2), (.bool (areW x_w.Bits 32)), (.bool (!(areW x_w.Bits 32))), (.bool (!(areW x_w.Bits 32))), (.pointer (some ⟨g6, 0, none⟩)), (.int .i64 x_w.Top), (.int .i64 (x_w.Top + 1)), u17x, u18x, u19x, u20x, u21x, u22x, u23x, undef, undef, undef, undef, undef, undef, undef, undef, undef] ∧ Ch (fun k => w0.heap.size ≤ k) w0 w' ∧ Ch (fun k => w3.heap.size ≤ k) w3 w' ∧ x_w.Top + 1 ≤ q ∧ q ≤ 281474976710656 ∧ ∀ m : Int, x_w.Top + 1 ≤ m → m < q → F_impl_hasBit x_w m = false) (fun e' _ => (1024 - (intOf (e' 3))).toNat) ?_ ?_
      · exact ⟨(x_w.Top + 1), (.bool false), undef, undef, undef, undef, undef, undef, undef, rfl, m18, (Ch.refl (fun k => w3.heap.size ≤ k) w3), (by omega), (by omega), (by first | (intro m h1 h2; omega) | exact none_next (by assumption) (by assumption))⟩
      · rintro _ w4 ⟨q, u2x, u17x, u18x, u19x, u20x, u21x, u22x, u23x, rfl, m22, k23, i24, i25, i26⟩
        refine wc_seq ?_
        refine wc_seq ?_
        refine wc_region ?_
        refine wl_mv (.int .i64 q) (want_none rfl) rfl rfl (.inl rfl) rfl ?_
        refine wl_pure (.bool (decide (q < 1024))) (want_none rfl) rfl rfl (by kernel_rfl) ?_
        refine wl_nil ?_
        refine wq_then ?_
        rcases Bool.eq_false_or_eq_true (decide (q < 1024)) with h27 | h27
        · have q28 := of_decide_eq_true h27
          refine wc_true (congrArg Value.bool h27) ?_
          refine wc_skip ?_
          refine wq_then ?_
          refine wc_seq ?_
          refine wc_block ?_
          refine wc_seq ?_
          refine wc_region ?_
          have b29 := (b21.ch k23 (Nat.not_le.2 (Nat.lt_of_lt_of_le p8 (Nat.le_trans k12.size k17.size))))
          refine wl_loadN [(.int .i64 x_w.Top), (.slice a1 x_w.Bits.length c2)] (want_none rfl) rfl rfl rfl rfl isAgg_25 sizeOf_25 b29 rfl ?_
          refine wl_mv (.int .i64 q) (want_none rfl) rfl rfl (.inl rfl) rfl ?_
          refine wl_call (want_none rfl) (args := #[(.agg #[(.int .i64 x_w.Top), (.slice a1 x_w.Bits.length c2)]), (.int .i64 q)]) rfl rfl (by kernel_rfl) (C_impl_hasBit w4 (.agg #[(.int .i64 x_w.Top), (.slice a1 x_w.Bits.length c2)]) x_w (show R_25 w4 (.agg #[(.int .i64 x_w.Top), (.slice a1 x_w.Bits.length c2)]) x_w from ⟨_, _, rfl, (r3.from0 m22), s4⟩) q (by first | assumption | omega) (by first | assumption | omega)) ?_
          rintro _ w5 ⟨k30, rfl⟩
          have m31 := m22.extk k30
          refine wl_nil ?_
          refine wq_then ?_
          rcases Bool.eq_false_or_eq_true (F_impl_hasBit x_w q) with h32 | h32
          · skip
            refine wc_true (congrArg Value.bool h32) ?_
            refine wc_seq ?_
            refine wc_region ?_
            refine wl_mv (.bool false) (want_none rfl) rfl rfl (.inr rfl) rfl ?_
            refine wl_nil ?_
            refine wq_then ?_
            refine wc_ret ?_
            refine wq_blk_ret ?_
            refine wq_then_ret ?_
            refine wq_then_ret ?_
            refine wq_blk_ret ?_
            refine wq_then_ret ?_
            refine ret_1 (.inl rfl) (.bool false) rfl rfl ?_
            refine ⟨m31.keep0, ?_⟩
            have hF34 : iWin x_w = false := by first | (simp [iWin, h14, h19, h27, h32]; done) | (have hz := noneIn_f (f := F_impl_hasBit x_w) (a := x_w.Top + 1) (b := 1024) (q := q) (by assumption) (by omega) (by omega); simp [iWin, h14, h19, h27, h32, hz]; done) | (have hz := noneIn_t (f := F_impl_hasBit x_w) (a := x_w.Top + 1) (b := 1024) (q := q) (by assumption) (by omega); simp [iWin, h14, h19, h27, h32, hz]; done)
            rw [hF34]
            exact rfl
          · skip
            refine wc_false (congrArg Value.bool h32) ?_
            refine wc_skip ?_
            refine wq_blk_normal ?_
            refine wq_then ?_
            refine wc_region ?_
            refine wl_mv (.int .i64 q) (want_none rfl) rfl rfl (.inl rfl) rfl ?_
            refine wl_arith (q + 1) (want_none rfl) rfl rfl (by kernel_rfl) (by omega) (by omega) ?_
            refine wl_mv (.int .i64 (q + 1)) (want_none rfl) rfl rfl (.inr rfl) rfl ?_
            refine wl_nil ?_
            exact wq_loopN (w0 := w4) [(.agg #[(.int .i64 x_w.Top), (.slice a1 x_w.Bits.length c2)]), (.pointer (some ⟨g6, 0, none⟩)), u2x, (.int .i64 (q + 1)), (.pointer (some ⟨g6, 0, none⟩)), (.int .i64 x_w.Top), (.bool (F_impl_within x_w.Top (-1) 281474976710655)), (.bool (!(F_impl_within x_w.Top (-1) 281474976710655))), (.bool (!(F_impl_within x_w.Top (-1) 281474976710655))), (.pointer (some ⟨g6, 1, none⟩)), (.slice a1 x_w.Bits.length c2), (.bool (areW x_w.Bits 32)), (.bool (!(areW x_w.Bits 32))), (.bool (!(areW x_w.Bits 32))), (.pointer (some ⟨g6, 0, none⟩)), (.int .i64 x_w.Top), (.int .i64 (x_w.Top + 1)), (.int .i64 q), (.bool (decide (q < 1024))), (.int .i64 q), (.int .i64 (q + 1)), (.agg #[(.int .i64 x_w.Top), (.slice a1 x_w.Bits.length c2)]), (.int .i64 q), (.bool (F_impl_hasBit x_w q)), undef, undef, undef, undef, undef, undef, undef, undef, undef] rfl ⟨rfl, rfl, rfl, rfl, rfl, rfl, rfl, rfl, rfl, rfl, rfl, rfl, rfl, rfl, rfl, rfl, rfl, rfl, rfl, rfl, rfl, rfl, rfl, rfl, rfl, rfl, rfl, rfl, rfl, rfl, rfl, rfl, rfl, trivial⟩ ⟨(q + 1), u2x, (.int .i64 q), (.bool (decide (q < 1024))), (.int .i64 q), (.int .i64 (q + 1)), (.agg #[(.int .i64 x_w.Top), (.slice a1 x_w.Bits.length c2)]), (.int .i64 q), (.bool (F_impl_hasBit x_w q)), rfl, m31, (((Ch.refl (fun k => w3.heap.size ≤ k) w3).ext k23 (fun k hk => Nat.le_trans (Nat.le_refl _) hk)).extk k30), (by omega), (by omega), (by first | (intro m h1 h2; omega) | exact none_next (by assumption) (by assumption))⟩ (by show (1024 - (q + 1)).toNat < (1024 - q).toNat; omega)
        · have q36 := of_decide_eq_false h27
          refine wc_false (congrArg Value.bool h27) ?_
          refine wc_exit ?_
          refine wq_then_exit ?_
          refine wq_then_exit ?_
          refine wq_blk_exit ?_
          refine wq_then ?_
          refine wc_seq ?_
          refine wc_region ?_
          refine wl_pure (.pointer (some ⟨g6, 0, none⟩)) (want_none rfl) rfl rfl (by kernel_rfl) ?_
          have b37 := (b21.ch k23 (Nat.not_le.2 (Nat.lt_of_lt_of_le p8 (Nat.le_trans k12.size k17.size))))
          refine wl_load1 (.int .i64 x_w.Top) (want_none rfl) rfl rfl rfl rfl isAgg_3 b37 rfl ?_
          refine wl_pure (.bool (decide (x_w.Top = (-1)))) (want_none rfl) rfl rfl (by kernel_rfl) ?_
          refine wl_mv (.bool (decide (x_w.Top = (-1)))) (want_none rfl) rfl rfl (.inl rfl) rfl ?_
          rcases Bool.eq_false_or_eq_true (decide (x_w.Top = (-1))) with h38 | h38
          · have q39 := of_decide_eq_true h38
            refine wl_skip rfl rfl rfl (congrArg Value.bool h38) rfl rfl rfl ?_
            refine wl_skip rfl rfl rfl (congrArg Value.bool h38) rfl rfl rfl ?_
            refine wl_skip rfl rfl rfl (congrArg Value.bool h38) rfl rfl rfl ?_
            refine wl_skip rfl rfl rfl (congrArg Value.bool h38) rfl rfl rfl ?_
            refine wl_pick_t (.bool true) (want_none rfl) rfl rfl rfl (congrArg Value.bool h38) rfl ?_
            refine wl_mv (.bool true) (want_none rfl) rfl rfl (.inr rfl) rfl ?_
            refine wl_nil ?_
            refine wq_then ?_
            refine wc_ret ?_
            refine ret_1 (.inl rfl) (.bool true) rfl rfl ?_
            refine ⟨m22.keep0, ?_⟩
            have hF40 : iWin x_w = true := by first | (simp [iWin, h14, h19, h27, h38]; done) | (have hz := noneIn_f (f := F_impl_hasBit x_w) (a := x_w.Top + 1) (b := 1024) (q := q) (by assumption) (by omega) (by omega); simp [iWin, h14, h19, h27, h38, hz]; done) | (have hz := noneIn_t (f := F_impl_hasBit x_w) (a := x_w.Top + 1) (b := 1024) (q := q) (by assumption) (by omega); simp [iWin, h14, h19, h27, h38, hz]; done)
            rw [hF40]
            exact rfl
          · have q41 := of_decide_eq_false h38
            refine wl_loadN [(.int .i64 x_w.Top), (.slice a1 x_w.Bits.length c2)] (want_some rfl rfl rfl (congrArg Value.bool h38)) rfl rfl rfl rfl isAgg_25 sizeOf_25 b37 rfl ?_
            refine wl_pure (.pointer (some ⟨g6, 0, none⟩)) (want_some rfl rfl rfl (congrArg Value.bool h38)) rfl rfl (by kernel_rfl) ?_
            refine wl_load1 (.int .i64 x_w.Top) (want_some rfl rfl rfl (congrArg Value.bool h38)) rfl rfl rfl rfl isAgg_3 b37 rfl ?_
            refine wl_call (want_some rfl rfl rfl (congrArg Value.bool h38)) (args := #[(.agg #[(.int .i64 x_w.Top), (.slice a1 x_w.Bits.length c2)]), (.int .i64 x_w.Top)]) rfl rfl (by kernel_rfl) (C_impl_hasBit w4 (.agg #[(.int .i64 x_w.Top), (.slice a1 x_w.Bits.length c2)]) x_w (show R_25 w4 (.agg #[(.int .i64 x_w.Top), (.slice a1 x_w.Bits.length c2)]) x_w from ⟨_, _, rfl, (r3.from0 m22), s4⟩) x_w.Top (by first | assumption | omega) (by first | assumption | omega)) ?_
            rintro _ w5 ⟨k42, rfl⟩
            have m43 := m22.extk k42
            refine wl_pick_f (.bool (F_impl_hasBit x_w x_w.Top)) (want_none rfl) rfl rfl rfl (congrArg Value.bool h38) rfl ?_
            refine wl_mv (.bool (F_impl_hasBit x_w x_w.Top)) (want_none rfl) rfl rfl (.inr rfl) rfl ?_
            refine wl_nil ?_
            refine wq_then ?_
            refine wc_ret ?_
            refine ret_1 (.inl rfl) (.bool (F_impl_hasBit x_w x_w.Top)) rfl rfl ?_
            refine ⟨m43.keep0, ?_⟩
            have hF44 : iWin x_w = (F_impl_hasBit x_w x_w.Top) := by first | (simp [iWin, h14, h19, h27, h38]; done) | (have hz := noneIn_f (f := F_impl_hasBit x_w) (a := x_w.Top + 1) (b := 1024) (q := q) (by assumption) (by omega) (by omega); simp [iWin, h14, h19, h27, h38, hz]; done) | (have hz := noneIn_t (f := F_impl_hasBit x_w) (a := x_w.Top + 1) (b := 1024) (q := q) (by assumption) (by omega); simp [iWin, h14, h19, h27, h38, hz]; done)
            rw [hF44]
            exact rfl
    · skip
      refine wc_true (congrArg (fun b => Value.bool (!b)) h19) ?_
      refine wc_seq ?_
      refine wc_region ?_
      refine wl_mv (.bool false) (want_none rfl) rfl rfl (.inr rfl) rfl ?_
      refine wl_nil ?_
      refine wq_then ?_
      refine wc_ret ?_
      refine wq_then_ret ?_
      refine ret_1 (.inl rfl) (.bool false) rfl rfl ?_
      refine ⟨m18.keep0, ?_⟩
      have hF46 : iWin x_w = false := by first | (simp [iWin, h14, h19]; done) | (have hz := noneIn_f (f := F_impl_hasBit x_w) (a := x_w.Top + 1) (b := 1024) (q := q) (by assumption) (by omega) (by omega); simp [iWin, h14, h19, hz]; done) | (have hz := noneIn_t (f := F_impl_hasBit x_w) (a := x_w.Top + 1) (b := 1024) (q := q) (by assumption) (by omega); simp [iWin, h14, h19, hz]; done)
      rw [hF46]
      exact rfl
  · have q47 := impl_within_f h14
    refine wl_skip rfl rfl rfl (congrArg (fun b => Value.bool (!b)) h14) rfl rfl rfl ?_
    refine wl_skip rfl rfl rfl (congrArg (fun b => Value.bool (!b)) h14) rfl rfl rfl ?_
    refine wl_skip rfl rfl rfl (congrArg (fun b => Value.bool (!b)) h14) rfl rfl rfl ?_
    refine wl_skip rfl rfl rfl (congrArg (fun b => Value.bool (!b)) h14) rfl rfl rfl ?_
    refine wl_pick_t (.bool true) (want_none rfl) rfl rfl rfl (congrArg (fun b => Value.bool (!b)) h14) rfl ?_
    refine wl_nil ?_
    refine wq_then ?_
    refine wc_true rfl ?_
    refine wc_seq ?_
    refine wc_region ?_
    refine wl_mv (.bool false) (want_none rfl) rfl rfl (.inr rfl) rfl ?_
    refine wl_nil ?_
    refine wq_then ?_
    refine wc_ret ?_
    refine wq_then_ret ?_
    refine ret_1 (.inl rfl) (.bool false) rfl rfl ?_
    refine ⟨m13.keep0, ?_⟩
    have hF48 : iWin x_w = false := by first | (simp [iWin, h14]; done) | (have hz := noneIn_f (f := F_impl_hasBit x_w) (a := x_w.Top + 1) (b := 1024) (q := q) (by assumption) (by omega) (by omega); simp [iWin, h14, hz]; done) | (have hz := noneIn_t (f := F_impl_hasBit x_w) (a := x_w.Top + 1) (b := 1024) (q := q) (by assumption) (by omega); simp [iWin, h14, hz]; done)
    rw [hF48]
    exact rfl

def F_impl_EpOk (x_e : PEp) : (Bool) := bif (F_impl_within x_e.N 0 4294967295) then (bif (decide ((x_e.Key.length : Int) = 32)) then (bif (F_impl_within x_e.Seq 0 281474976710656) then ((iWin x_e.Win)) else (false)) else (false)) else (false)
theorem C_impl_EpOk (w0 : World) (v_x_e : Value) (x_e : PEp) (r_x_e : R_27 w0 v_x_e x_e)  : Fn Try.prog 79 #[v_x_e] w0 (fun v w' => Keep w0 w' ∧ O_4 w' w0.heap.size v (F_impl_EpOk x_e)) := by
  obtain ⟨a1, c2, a6, c7, rfl, r3, s4, r8, s9⟩ := r_x_e
  refine fn_of (n := 22) (l := [(.agg #[(.int .i64 x_e.N), (.slice a1 x_e.Key.length c2), (.int .i64 x_e.Seq), (.int .i64 x_e.Win.Top), (.slice a6 x_e.Win.Bits.length c7)]), undef, undef, undef, undef, undef, undef, undef, undef, undef, undef, undef, undef, undef, undef, undef, undef, undef, undef, undef, undef, undef]) Try.func79 rfl rfl (by kernel_rfl) rfl ?_
  refine wc_seq ?_
  refine wc_region ?_
  refine wl_box (want_none rfl) [(.int .i64 x_e.N), (.slice a1 x_e.Key.length c2), (.int .i64 x_e.Seq), (.int .i64 x_e.Win.Top), (.slice a6 x_e.Win.Bits.length c7)] rfl rfl rfl rfl ?_
  intro g11 w1 p12 p13 k14 b15
  have m16 := (Ch.base w0).extk k14
  refine wl_mv (.bool false) (want_none rfl) rfl rfl (.inr rfl) rfl ?_
  refine wl_nil ?_
  refine wq_then ?_
  refine wc_seq ?_
  refine wc_region ?_
  refine wl_pure (.pointer (some ⟨g11, 0, none⟩)) (want_none rfl) rfl rfl (by kernel_rfl) ?_
  refine wl_load1 (.int .i64 x_e.N) (want_none rfl) rfl rfl rfl rfl isAgg_3 b15 rfl ?_
  refine wl_call (want_none rfl) (args := #[(.int .i64 x_e.N), (.int .i64 0), (.int .i64 4294967295)]) rfl rfl (by kernel_rfl) (C_impl_within w1 x_e.N 0 4294967295) ?_
  rintro _ w2 ⟨k17, rfl⟩
  have m18 := m16.extk k17
  refine wl_mv (.bool (F_impl_within x_e.N 0 4294967295)) (want_none rfl) rfl rfl (.inl rfl) rfl ?_
  rcases Bool.eq_false_or_eq_true (F_impl_within x_e.N 0 4294967295) with h19 | h19
  · have q20 := impl_within_t h19
    refine wl_pure (.pointer (some ⟨g11, 1, none⟩)) (want_some rfl rfl rfl (congrArg Value.bool h19)) rfl rfl (by kernel_rfl) ?_
    have b21 := (b15.kp k17)
    refine wl_load1 (.slice a1 x_e.Key.length c2) (want_some rfl rfl rfl (congrArg Value.bool h19)) rfl rfl rfl rfl isAgg_22 b21 rfl ?_
    refine wl_len (want_some rfl rfl rfl (congrArg Value.bool h19)) rfl rfl rfl slTy_22 rfl (r3.from0 m18) ?_
    refine wl_pure (.bool (decide ((x_e.Key.length : Int) = 32))) (want_some rfl rfl rfl (congrArg Value.bool h19)) rfl rfl (by kernel_rfl) ?_
    refine wl_pick_t (.bool (decide ((x_e.Key.length : Int) = 32))) (want_none rfl) rfl rfl rfl (congrArg Value.bool h19) rfl ?_
    refine wl_mv (.bool (decide ((x_e.Key.length : Int) = 32))) (want_none rfl) rfl rfl (.inl rfl) rfl ?_
    rcases Bool.eq_false_or_eq_true (decide ((x_e.Key.length : Int) = 32)) with h22 | h22
    · have q23 := of_decide_eq_true h22
      refine wl_pure (.pointer (some ⟨g11, 2, none⟩)) (want_some rfl rfl rfl (congrArg Value.bool h22)) rfl rfl (by kernel_rfl) ?_
      refine wl_load1 (.int .i64 x_e.Seq) (want_some rfl rfl rfl (congrArg Value.bool h22)) rfl rfl rfl rfl isAgg_3 b21 rfl ?_
      refine wl_call (want_some rfl rfl rfl (congrArg Value.bool h22)) (args := #[(.int .i64 x_e.Seq), (.int .i64 0), (.int .i64 281474976710656)]) rfl rfl (by kernel_rfl) (C_impl_within w2 x_e.Seq 0 281474976710656) ?_
      rintro _ w3 ⟨k24, rfl⟩
      have m25 := m18.extk k24
      refine wl_pick_t (.bool (F_impl_within x_e.Seq 0 281474976710656)) (want_none rfl) rfl rfl rfl (congrArg Value.bool h22) rfl ?_
      refine wl_mv (.bool (F_impl_within x_e.Seq 0 281474976710656)) (want_none rfl) rfl rfl (.inl rfl) rfl ?_
      rcases Bool.eq_false_or_eq_true (F_impl_within x_e.Seq 0 281474976710656) with h26 | h26
      · have q27 := impl_within_t h26
        refine wl_pure (.pointer (some ⟨g11, 3, none⟩)) (want_some rfl rfl rfl (congrArg Value.bool h26)) rfl rfl (by kernel_rfl) ?_
        have b28 := (b21.kp k24)
        refine wl_loadN [(.int .i64 x_e.Win.Top), (.slice a6 x_e.Win.Bits.length c7)] (want_some rfl rfl rfl (congrArg Value.bool h26)) rfl rfl rfl rfl isAgg_25 sizeOf_25 b28 rfl ?_
        refine wl_call (want_some rfl rfl rfl (congrArg Value.bool h26)) (args := #[(.agg #[(.int .i64 x_e.Win.Top), (.slice a6 x_e.Win.Bits.length c7)])]) rfl rfl (by kernel_rfl) (C_impl_WinOk w3 (.agg #[(.int .i64 x_e.Win.Top), (.slice a6 x_e.Win.Bits.length c7)]) x_e.Win (show R_25 w3 (.agg #[(.int .i64 x_e.Win.Top), (.slice a6 x_e.Win.Bits.length c7)]) x_e.Win from ⟨_, _, rfl, (r8.from0 m25), s9⟩)) ?_
        rintro _ w4 ⟨k29, rfl⟩
        have m30 := m25.extk k29
        refine wl_pick_t (.bool (iWin x_e.Win)) (want_none rfl) rfl rfl rfl (congrArg Value.bool h26) rfl ?_
        refine wl_mv (.bool (iWin x_e.Win)) (want_none rfl) rfl rfl (.inr rfl) rfl ?_
        refine wl_nil ?_
        refine wq_then ?_
        refine wc_ret ?_
        refine ret_1 (.inl rfl) (.bool (iWin x_e.Win)) rfl rfl ?_
        refine ⟨m30.keep0, ?_⟩
        have hF31 : F_impl_EpOk x_e = (iWin x_e.Win) := by simp only [F_impl_EpOk, h19, h22, h26, cond_true, cond_false]
        rw [hF31]
        exact rfl
      · have q32 := impl_within_f h26
        refine wl_skip rfl rfl rfl (congrArg Value.bool h26) rfl rfl rfl ?_
        refine wl_skip rfl rfl rfl (congrArg Value.bool h26) rfl rfl rfl ?_
        refine wl_skip rfl rfl rfl (congrArg Value.bool h26) rfl rfl rfl ?_
        refine wl_pick_f (.bool false) (want_none rfl) rfl rfl rfl (congrArg Value.bool h26) rfl ?_
        refine wl_mv (.bool false) (want_none rfl) rfl rfl (.inr rfl) rfl ?_
        refine wl_nil ?_
        refine wq_then ?_
        refine wc_ret ?_
        refine ret_1 (.inl rfl) (.bool false) rfl rfl ?_
        refine ⟨m25.keep0, ?_⟩
        have hF33 : F_impl_EpOk x_e = false := by simp only [F_impl_EpOk, h19, h22, h26, cond_true, cond_false]
        rw [hF33]
        exact rfl
    · have q34 := of_decide_eq_false h22
      refine wl_skip rfl rfl rfl (congrArg Value.bool h22) rfl rfl rfl ?_
      refine wl_skip rfl rfl rfl (congrArg Value.bool h22) rfl rfl rfl ?_
      refine wl_skip rfl rfl rfl (congrArg Value.bool h22) rfl rfl rfl ?_
      refine wl_pick_f (.bool false) (want_none rfl) rfl rfl rfl (congrArg Value.bool h22) rfl ?_
      refine wl_mv (.bool false) (want_none rfl) rfl rfl (.inl rfl) rfl ?_
      refine wl_skip rfl rfl rfl rfl rfl rfl rfl ?_
      refine wl_skip rfl rfl rfl rfl rfl rfl rfl ?_
      refine wl_skip rfl rfl rfl rfl rfl rfl rfl ?_
      refine wl_pick_f (.bool false) (want_none rfl) rfl rfl rfl rfl rfl ?_
      refine wl_mv (.bool false) (want_none rfl) rfl rfl (.inr rfl) rfl ?_
      refine wl_nil ?_
      refine wq_then ?_
      refine wc_ret ?_
      refine ret_1 (.inl rfl) (.bool false) rfl rfl ?_
      refine ⟨m18.keep0, ?_⟩
      have hF35 : F_impl_EpOk x_e = false := by simp only [F_impl_EpOk, h19, h22, cond_true, cond_false]
      rw [hF35]
      exact rfl
  · have q36 := impl_within_f h19
    refine wl_skip rfl rfl rfl (congrArg Value.bool h19) rfl rfl rfl ?_
    refine wl_skip rfl rfl rfl (congrArg Value.bool h19) rfl rfl rfl ?_
    refine wl_skip rfl rfl rfl (congrArg Value.bool h19) rfl rfl rfl ?_
    refine wl_skip rfl rfl rfl (congrArg Value.bool h19) rfl rfl rfl ?_
    refine wl_pick_f (.bool false) (want_none rfl) rfl rfl rfl (congrArg Value.bool h19) rfl ?_
    refine wl_mv (.bool false) (want_none rfl) rfl rfl (.inl rfl) rfl ?_
    refine wl_skip rfl rfl rfl rfl rfl rfl rfl ?_
    refine wl_skip rfl rfl rfl rfl rfl rfl rfl ?_
    refine wl_skip rfl rfl rfl rfl rfl rfl rfl ?_
    refine wl_pick_f (.bool false) (want_none rfl) rfl rfl rfl rfl rfl ?_
    refine wl_mv (.bool false) (want_none rfl) rfl rfl (.inl rfl) rfl ?_
    refine wl_skip rfl rfl rfl rfl rfl rfl rfl ?_
    refine wl_skip rfl rfl rfl rfl rfl rfl rfl ?_
    refine wl_skip rfl rfl rfl rfl rfl rfl rfl ?_
    refine wl_pick_f (.bool false) (want_none rfl) rfl rfl rfl rfl rfl ?_
    refine wl_mv (.bool false) (want_none rfl) rfl rfl (.inr rfl) rfl ?_
    refine wl_nil ?_
    refine wq_then ?_
    refine wc_ret ?_
    refine ret_1 (.inl rfl) (.bool false) rfl rfl ?_
    refine ⟨m18.keep0, ?_⟩
    have hF37 : F_impl_EpOk x_e = false := by simp only [F_impl_EpOk, h19, cond_true, cond_false]
    rw [hF37]
    exact rfl
theorem impl_EpOk_t {e : PEp} (h : F_impl_EpOk e = true) : 0 ≤ e.N ∧ e.N ≤ 4294967295 ∧ (e.Key.length : Int) = 32 := by
  cases h1 : F_impl_within e.N 0 4294967295 with
  | false => simp [F_impl_EpOk, h1] at h
  | true =>
    have := impl_within_t h1
    by_cases h2 : (e.Key.length : Int) = 32
    · exact ⟨this.1, this.2, h2⟩
    · simp [F_impl_EpOk, h1, h2] at h

def F_bytes_Equal (x_a : List UInt8) (x_b : List UInt8) : (Bool) := (eqS (ByteArray.mk x_a.toArray) (ByteArray.mk x_b.toArray))
theorem C_bytes_Equal (w0 : World) (v_x_a : Value) (x_a : List UInt8) (r_x_a : R_22 w0 v_x_a x_a) (v_x_b : Value) (x_b : List UInt8) (r_x_b : R_22 w0 v_x_b x_b)  : Fn Try.prog 85 #[v_x_a, v_x_b] w0 (fun v w' => Keep w0 w' ∧ O_4 w' w0.heap.size v (F_bytes_Equal x_a x_b)) := by
  obtain ⟨a1, c2, rfl, r3, s4⟩ := r_x_a
  obtain ⟨a6, c7, rfl, r8, s9⟩ := r_x_b
  refine fn_of (n := 10) (l := [(.slice a1 x_a.length c2), (.slice a6 x_b.length c7), undef, undef, undef, undef, undef, undef, undef, undef]) Try.func85 rfl rfl (by kernel_rfl) rfl ?_
  refine wc_seq ?_
  refine wc_region ?_
  refine wl_mv (.bool false) (want_none rfl) rfl rfl (.inr rfl) rfl ?_
  refine wl_nil ?_
  refine wq_then ?_
  refine wc_seq ?_
  refine wc_region ?_
  refine wl_mv (.slice a1 x_a.length c2) (want_none rfl) rfl rfl (.inl rfl) rfl ?_
  refine wl_b2s x_a (want_none rfl) rfl rfl rfl rfl Try.underlying22 Try.underlying5 Try.underlying9 r3 ?_
  refine wl_mv (.slice a6 x_b.length c7) (want_none rfl) rfl rfl (.inl rfl) rfl ?_
  refine wl_b2s x_b (want_none rfl) rfl rfl rfl rfl Try.underlying22 Try.underlying5 Try.underlying9 r8 ?_
  refine wl_pure (.bool (eqS (ByteArray.mk x_a.toArray) (ByteArray.mk x_b.toArray))) (want_none rfl) rfl rfl (by kernel_rfl) ?_
  refine wl_mv (.bool (eqS (ByteArray.mk x_a.toArray) (ByteArray.mk x_b.toArray))) (want_none rfl) rfl rfl (.inr rfl) rfl ?_
  refine wl_nil ?_
  refine wq_then ?_
  refine wc_ret ?_
  refine ret_1 (.inl rfl) (.bool (eqS (ByteArray.mk x_a.toArray) (ByteArray.mk x_b.toArray))) rfl rfl ?_
  refine ⟨Ch.refl _ _, ?_⟩
  have hF11 : F_bytes_Equal x_a x_b = (eqS (ByteArray.mk x_a.toArray) (ByteArray.mk x_b.toArray)) := by rfl
  rw [hF11]
  exact rfl

theorem C_impl_sameInts (w0 : World) (v_x_a : Value) (x_a : List Int) (r_x_a : R_23 w0 v_x_a x_a) (v_x_b : Value) (x_b : List Int) (r_x_b : R_23 w0 v_x_b x_b)  : Fn Try.prog 127 #[v_x_a, v_x_b] w0 (fun v w' => Keep w0 w' ∧ O_4 w' w0.heap.size v (eqI x_a x_b)) := by
  obtain ⟨a1, c2, rfl, r3, s4⟩ := r_x_a
  obtain ⟨a6, c7, rfl, r8, s9⟩ := r_x_b
  refine fn_of (n := 26) (l := [(.slice a1 x_a.length c2), (.slice a6 x_b.length c7), undef, undef, undef, undef, undef, undef, undef, undef, undef, undef, undef, undef, undef, undef, undef, undef, undef, undef, undef, undef, undef, undef, undef, undef]) Try.func127 rfl rfl (by kernel_rfl) rfl ?_
  refine wc_seq ?_
  refine wc_region ?_
  refine wl_mv (.bool false) (want_none rfl) rfl rfl (.inr rfl) rfl ?_
  refine wl_nil ?_
  refine wq_then ?_
  refine wc_seq ?_
  refine wc_seq ?_
  refine wc_region ?_
  refine wl_mv (.slice a1 x_a.length c2) (want_none rfl) rfl rfl (.inl rfl) rfl ?_
  refine wl_len (want_none rfl) rfl rfl rfl slTy_23 rfl r3 ?_
  refine wl_mv (.slice a6 x_b.length c7) (want_none rfl) rfl rfl (.inl rfl) rfl ?_
  refine wl_len (want_none rfl) rfl rfl rfl slTy_23 rfl r8 ?_
  refine wl_pure (.bool (!(decide ((x_a.length : Int) = (x_b.length : Int))))) (want_none rfl) rfl rfl (by kernel_rfl) ?_
  refine wl_nil ?_
  refine wq_then ?_
  rcases Bool.eq_false_or_eq_true (decide ((x_a.length : Int) = (x_b.length : Int))) with h11 | h11
  · have q12 := of_decide_eq_true h11
    refine wc_false (congrArg (fun b => Value.bool (!b)) h11) ?_
    refine wc_skip ?_
    refine wq_then ?_
    refine wc_seq ?_
    refine wc_seq ?_
    refine wc_region ?_
    refine wl_mv (.slice a1 x_a.length c2) (want_none rfl) rfl rfl (.inl rfl) rfl ?_
    refine wl_len (want_none rfl) rfl rfl rfl slTy_23 rfl r3 ?_
    refine wl_mv (.int .i64 0) (want_none rfl) rfl rfl (.inl rfl) rfl ?_
    refine wl_nil ?_
    refine wq_then ?_
    refine wc_block ?_
    refine wc_norm [(.slice a1 x_a.length c2), (.slice a6 x_b.length c7), undef, undef, (.bool false), undef, undef, (.slice a1 x_a.length c2), (.int .i64 (x_a.length : Int)), (.slice a6 x_b.length c7), (.int .i64 (x_b.length : Int)), (.bool (!(decide ((x_a.length : Int) = (x_b.length : Int))))), (.slice a1 x_a.length c2), (.int .i64 (x_a.length : Int)), (.int .i64 0), undef, undef, undef, undef, undef, undef, undef, undef, undef, undef, undef] rfl ⟨rfl, rfl, rfl, rfl, rfl, rfl, rfl, rfl, rfl, rfl, rfl, rfl, rfl, rfl, rfl, rfl, rfl, rfl, rfl, rfl, rfl, rfl, rfl, rfl, rfl, rfl, trivial⟩ ?_
    refine wc_loop (fun e' w' => ∃ (k : Nat) (u4x u5x u6x u15x u16x u17x u18x u19x u20x u21x u22x u23x u24x u25x : Value), e' = lst [(.slice a1 x_a.length c2), (.slice a6 x_b.length c7), undef, undef, u4x, u5x, u6x, (.slice a1 x_a.length c2), (.int .i64 (x_a.length : Int)), (.slice a6 x_b.length c7), (.int .i64 (x_b.length : Int)), (.bool (!(decide ((x_a.length : Int) = (x_b.length : Int))))), (.slice a1 x_a.length c2), (.int .i64 (x_a.length : Int)), (.int .i64 ((k : Nat) : Int)), u15x, u16x, u17x, u18x, u19x, u20x, u21x, u22x, u23x, u24x, u25x] ∧ Ch (fun k => w0.heap.size ≤ k) w0 w' ∧ Ch (fun k => w0.heap.size ≤ k) w0 w' ∧ k ≤ x_a.length ∧ x_a.take k = x_b.take k) (fun e' _ => x_a.length - ((intOf (e' 14))).toNat) ?_ ?_
    · exact ⟨0, (.bool false), undef, undef, undef, undef, undef, undef, undef, undef, undef, undef, undef, undef, undef, (congrArg (fun (x14z : Value) => lst [(.slice a1 x_a.length c2), (.slice a6 x_b.length c7), undef, undef, (.bool false), undef, undef, (.slice a1 x_a.length c2), (.int .i64 (x_a.length : Int)), (.slice a6 x_b.length c7), (.int .i64 (x_b.length : Int)), (.bool (!(decide ((x_a.length : Int) = (x_b.length : Int))))), (.slice a1 x_a.length c2), (.int .i64 (x_a.length : Int)), x14z, undef, undef, undef, undef, undef, undef, undef, undef, undef, undef, undef]) (congrArg (Value.int .i64) (show (0 : Int) = ((0 : Nat) : Int) by omega))), (Ch.base w0), (Ch.refl (fun k => w0.heap.size ≤ k) w0), (by omega), (by first | rfl | exact eqI_next (by assumption) (by omega) (by omega) (by assumption))⟩
    · rintro _ w1 ⟨k, u4x, u5x, u6x, u15x, u16x, u17x, u18x, u19x, u20x, u21x, u22x, u23x, u24x, u25x, rfl, m13, k14, i15, i16⟩
      refine wc_seq ?_
      refine wc_region ?_
      refine wl_pure (.bool (decide (((k : Nat) : Int) < (x_a.length : Int)))) (want_none rfl) rfl rfl (by kernel_rfl) ?_
      refine wl_nil ?_
      refine wq_then ?_
      refine wc_seq ?_
      rcases Bool.eq_false_or_eq_true (decide (((k : Nat) : Int) < (x_a.length : Int))) with h17 | h17
      · have q18 := of_decide_eq_true h17
        refine wc_true (congrArg Value.bool h17) ?_
        refine wc_skip ?_
        refine wq_then ?_
        refine wc_seq ?_
        refine wc_block ?_
        refine wc_seq ?_
        refine wc_region ?_
        refine wl_mv (.int .i64 ((k : Nat) : Int)) (want_none rfl) rfl rfl (.inl rfl) rfl ?_
        refine wl_index (want_none rfl) ((k : Nat) : Int) rfl rfl rfl slTy_23 rfl rfl (r3.from0 m13) (by first | omega | (simp only [List.length_cons, List.length_nil, List.length_replicate, List.length_append, List.length_take, List.length_set, List.length_map]; omega)) (by first | omega | (simp only [List.length_cons, List.length_nil, List.length_replicate, List.length_append, List.length_take, List.length_set, List.length_map]; omega)) ?_
        refine wl_loadE (iV (x_a.getD k 0)) (want_none rfl) rfl rfl rfl rfl isAgg_3 (r3.from0 m13) (iget (by simp) (by first | omega | (simp only [List.length_cons, List.length_nil, List.length_replicate, List.length_append, List.length_take, List.length_set, List.length_map]; omega))) ?_
        refine wl_mv (.int .i64 ((k : Nat) : Int)) (want_none rfl) rfl rfl (.inr rfl) rfl ?_
        refine wl_mv (.int .i64 (x_a.getD k 0)) (want_none rfl) rfl rfl (.inr rfl) rfl ?_
        refine wl_nil ?_
        refine wq_then ?_
        refine wc_seq ?_
        refine wc_region ?_
        refine wl_mv (.int .i64 (x_a.getD k 0)) (want_none rfl) rfl rfl (.inl rfl) rfl ?_
        refine wl_mv (.slice a6 x_b.length c7) (want_none rfl) rfl rfl (.inl rfl) rfl ?_
        refine wl_mv (.int .i64 ((k : Nat) : Int)) (want_none rfl) rfl rfl (.inl rfl) rfl ?_
        refine wl_index (want_none rfl) ((k : Nat) : Int) rfl rfl rfl slTy_23 rfl rfl (r8.from0 m13) (by first | omega | (simp only [List.length_cons, List.length_nil, List.length_replicate, List.length_append, List.length_take, List.length_set, List.length_map]; omega)) (by first | omega | (simp only [List.length_cons, List.length_nil, List.length_replicate, List.length_append, List.length_take, List.length_set, List.length_map]; omega)) ?_
        refine wl_loadE (iV (x_b.getD k 0)) (want_none rfl) rfl rfl rfl rfl isAgg_3 (r8.from0 m13) (iget (by simp) (by first | omega | (simp only [List.length_cons, List.length_nil, List.length_replicate, List.length_append, List.length_take, List.length_set, List.length_map]; omega))) ?_
        refine wl_pure (.bool (!(decide ((x_a.getD k 0) = (x_b.getD k 0))))) (want_none rfl) rfl rfl (by kernel_rfl) ?_
        refine wl_nil ?_
        refine wq_then ?_
        rcases Bool.eq_false_or_eq_true (decide ((x_a.getD k 0) = (x_b.getD k 0))) with h19 | h19
        · have q20 := of_decide_eq_true h19
          refine wc_false (congrArg (fun b => Value.bool (!b)) h19) ?_
          refine wc_skip ?_
          refine wq_blk_normal ?_
          refine wq_then ?_
          refine wc_region ?_
          refine wl_arith (((k : Nat) : Int) + 1) (want_none rfl) rfl rfl (by kernel_rfl) (by omega) (by omega) ?_
          refine wl_mv (.int .i64 (((k : Nat) : Int) + 1)) (want_none rfl) rfl rfl (.inl rfl) rfl ?_
          refine wl_nil ?_
          exact wq_loopN (w0 := w1) [(.slice a1 x_a.length c2), (.slice a6 x_b.length c7), undef, undef, u4x, (.int .i64 ((k : Nat) : Int)), (.int .i64 (x_a.getD k 0)), (.slice a1 x_a.length c2), (.int .i64 (x_a.length : Int)), (.slice a6 x_b.length c7), (.int .i64 (x_b.length : Int)), (.bool (!(decide ((x_a.length : Int) = (x_b.length : Int))))), (.slice a1 x_a.length c2), (.int .i64 (x_a.length : Int)), (.int .i64 (((k + 1) : Nat) : Int)), (.bool (decide (((k : Nat) : Int) < (x_a.length : Int)))), (.int .i64 ((k : Nat) : Int)), (.pointer (some (elA (.slice a1 x_a.length c2) ((((k : Nat) : Int)).toNat * 1)))), (.int .i64 (x_a.getD k 0)), (.int .i64 (x_a.getD k 0)), (.slice a6 x_b.length c7), (.int .i64 ((k : Nat) : Int)), (.pointer (some (elA (.slice a6 x_b.length c7) ((((k : Nat) : Int)).toNat * 1)))), (.int .i64 (x_b.getD k 0)), (.bool (!(decide ((x_a.getD k 0) = (x_b.getD k 0))))), (.int .i64 (((k : Nat) : Int) + 1))] rfl ⟨rfl, rfl, rfl, rfl, rfl, rfl, rfl, rfl, rfl, rfl, rfl, rfl, rfl, rfl, (congrArg (Value.int .i64) (show ((((k : Nat) : Int) + 1) : Int) = (((k + 1) : Nat) : Int) by omega)), rfl, rfl, rfl, rfl, rfl, rfl, rfl, rfl, rfl, rfl, rfl, trivial⟩ ⟨(k + 1), u4x, (.int .i64 ((k : Nat) : Int)), (.int .i64 (x_a.getD k 0)), (.bool (decide (((k : Nat) : Int) < (x_a.length : Int)))), (.int .i64 ((k : Nat) : Int)), (.pointer (some (elA (.slice a1 x_a.length c2) ((((k : Nat) : Int)).toNat * 1)))), (.int .i64 (x_a.getD k 0)), (.int .i64 (x_a.getD k 0)), (.slice a6 x_b.length c7), (.int .i64 ((k : Nat) : Int)), (.pointer (some (elA (.slice a6 x_b.length c7) ((((k : Nat) : Int)).toNat * 1)))), (.int .i64 (x_b.getD k 0)), (.bool (!(decide ((x_a.getD k 0) = (x_b.getD k 0))))), (.int .i64 (((k : Nat) : Int) + 1)), rfl, m13, ((Ch.refl (fun k => w0.heap.size ≤ k) w0).ext k14 (fun k hk => Nat.le_trans (Nat.le_refl _) hk)), (by omega), (by first | rfl | exact eqI_next (by assumption) (by omega) (by omega) (by assumption))⟩ (by show x_a.length - ((((k + 1) : Nat) : Int)).toNat < x_a.length - (((k : Nat) : Int)).toNat; omega)
        · have q21 := of_decide_eq_false h19
          refine wc_true (congrArg (fun b => Value.bool (!b)) h19) ?_
          refine wc_seq ?_
          refine wc_region ?_
          refine wl_mv (.bool false) (want_none rfl) rfl rfl (.inr rfl) rfl ?_
          refine wl_nil ?_
          refine wq_then ?_
          refine wc_ret ?_
          refine wq_blk_ret ?_
          refine wq_then_ret ?_
          refine wq_then_ret ?_
          refine wq_blk_ret ?_
          refine wq_then_ret ?_
          refine ret_1 (.inl rfl) (.bool false) rfl rfl ?_
          refine ⟨m13.keep0, ?_⟩
          have hF22 : eqI x_a x_b = false := by first | exact eqI_len (by assumption) | exact eqI_el (by assumption) | exact eqI_all (by assumption) (by omega) (by omega)
          rw [hF22]
          exact rfl
      · have q23 := of_decide_eq_false h17
        refine wc_false (congrArg Value.bool h17) ?_
        refine wc_exit ?_
        refine wq_then_exit ?_
        refine wq_then_exit ?_
        refine wq_blk_exit ?_
        refine wq_then ?_
        refine wc_seq ?_
        refine wc_region ?_
        refine wl_mv (.bool true) (want_none rfl) rfl rfl (.inr rfl) rfl ?_
        refine wl_nil ?_
        refine wq_then ?_
        refine wc_ret ?_
        refine ret_1 (.inl rfl) (.bool true) rfl rfl ?_
        refine ⟨m13.keep0, ?_⟩
        have hF24 : eqI x_a x_b = true := by first | exact eqI_len (by assumption) | exact eqI_el (by assumption) | exact eqI_all (by assumption) (by omega) (by omega)
        rw [hF24]
        exact rfl
  · have q25 := of_decide_eq_false h11
    refine wc_true (congrArg (fun b => Value.bool (!b)) h11) ?_
    refine wc_seq ?_
    refine wc_region ?_
    refine wl_mv (.bool false) (want_none rfl) rfl rfl (.inr rfl) rfl ?_
    refine wl_nil ?_
    refine wq_then ?_
    refine wc_ret ?_
    refine wq_then_ret ?_
    refine ret_1 (.inl rfl) (.bool false) rfl rfl ?_
    refine ⟨Ch.refl _ _, ?_⟩
    have hF26 : eqI x_a x_b = false := by first | exact eqI_len (by assumption) | exact eqI_el (by assumption) | exact eqI_all (by assumption) (by omega) (by omega)
    rw [hF26]
    exact rfl

def F_impl_sameEp (x_a : PEp) (x_b : PEp) : (Bool) := bif (decide (x_a.N = x_b.N)) then (bif (F_bytes_Equal x_a.Key x_b.Key) then (bif (decide (x_a.Seq = x_b.Seq)) then (bif (decide (x_a.Win.Top = x_b.Win.Top)) then ((eqI x_a.Win.Bits x_b.Win.Bits)) else (false)) else (false)) else (false)) else (false)
theorem C_impl_sameEp (w0 : World) (v_x_a : Value) (x_a : PEp) (r_x_a : R_27 w0 v_x_a x_a) (v_x_b : Value) (x_b : PEp) (r_x_b : R_27 w0 v_x_b x_b)  : Fn Try.prog 112 #[v_x_a, v_x_b] w0 (fun v w' => Keep w0 w' ∧ O_4 w' w0.heap.size v (F_impl_sameEp x_a x_b)) := by
  obtain ⟨a1, c2, a6, c7, rfl, r3, s4, r8, s9⟩ := r_x_a
  obtain ⟨a11, c12, a16, c17, rfl, r13, s14, r18, s19⟩ := r_x_b
  refine fn_of (n := 42) (l := [(.agg #[(.int .i64 x_a.N), (.slice a1 x_a.Key.length c2), (.int .i64 x_a.Seq), (.int .i64 x_a.Win.Top), (.slice a6 x_a.Win.Bits.length c7)]), (.agg #[(.int .i64 x_b.N), (.slice a11 x_b.Key.length c12), (.int .i64 x_b.Seq), (.int .i64 x_b.Win.Top), (.slice a16 x_b.Win.Bits.length c17)]), undef, undef, undef, undef, undef, undef, undef, undef, undef, undef, undef, undef, undef, undef, undef, undef, undef, undef, undef, undef, undef, undef, undef, undef, undef, undef, undef, undef, undef, undef, undef, undef, undef, undef, undef, undef, undef, undef, undef, undef]) Try.func112 rfl rfl (by kernel_rfl) rfl ?_
  refine wc_seq ?_
  refine wc_region ?_
  refine wl_box (want_none rfl) [(.int .i64 x_a.N), (.slice a1 x_a.Key.length c2), (.int .i64 x_a.Seq), (.int .i64 x_a.Win.Top), (.slice a6 x_a.Win.Bits.length c7)] rfl rfl rfl rfl ?_
  intro g21 w1 p22 p23 k24 b25
  have m26 := (Ch.base w0).extk k24
  refine wl_box (want_none rfl) [(.int .i64 x_b.N), (.slice a11 x_b.Key.length c12), (.int .i64 x_b.Seq), (.int .i64 x_b.Win.Top), (.slice a16 x_b.Win.Bits.length c17)] rfl rfl rfl rfl ?_
  intro g27 w2 p28 p29 k30 b31
  have m32 := m26.extk k30
  refine wl_mv (.bool false) (want_none rfl) rfl rfl (.inr rfl) rfl ?_
  refine wl_nil ?_
  refine wq_then ?_
  refine wc_seq ?_
  refine wc_region ?_
  refine wl_pure (.pointer (some ⟨g21, 0, none⟩)) (want_none rfl) rfl rfl (by kernel_rfl) ?_
  have b33 := (b25.kp k30)
  refine wl_load1 (.int .i64 x_a.N) (want_none rfl) rfl rfl rfl rfl isAgg_3 b33 rfl ?_
  refine wl_pure (.pointer (some ⟨g27, 0, none⟩)) (want_none rfl) rfl rfl (by kernel_rfl) ?_
  refine wl_load1 (.int .i64 x_b.N) (want_none rfl) rfl rfl rfl rfl isAgg_3 b31 rfl ?_
  refine wl_pure (.bool (decide (x_a.N = x_b.N))) (want_none rfl) rfl rfl (by kernel_rfl) ?_
  refine wl_mv (.bool (decide (x_a.N = x_b.N))) (want_none rfl) rfl rfl (.inl rfl) rfl ?_
  rcases Bool.eq_false_or_eq_true (decide (x_a.N = x_b.N)) with h34 | h34
  · have q35 := of_decide_eq_true h34
    refine wl_pure (.pointer (some ⟨g21, 1, none⟩)) (want_some rfl rfl rfl (congrArg Value.bool h34)) rfl rfl (by kernel_rfl) ?_
    refine wl_load1 (.slice a1 x_a.Key.length c2) (want_some rfl rfl rfl (congrArg Value.bool h34)) rfl rfl rfl rfl isAgg_22 b33 rfl ?_
    refine wl_pure (.pointer (some ⟨g27, 1, none⟩)) (want_some rfl rfl rfl (congrArg Value.bool h34)) rfl rfl (by kernel_rfl) ?_
    refine wl_load1 (.slice a11 x_b.Key.length c12) (want_some rfl rfl rfl (congrArg Value.bool h34)) rfl rfl rfl rfl isAgg_22 b31 rfl ?_
    refine wl_call (want_some rfl rfl rfl (congrArg Value.bool h34)) (args := #[(.slice a1 x_a.Key.length c2), (.slice a11 x_b.Key.length c12)]) rfl rfl (by kernel_rfl) (C_bytes_Equal w2 (.slice a1 x_a.Key.length c2) x_a.Key (show R_22 w2 (.slice a1 x_a.Key.length c2) x_a.Key from ⟨_, _, rfl, (r3.from0 m32), s4⟩) (.slice a11 x_b.Key.length c12) x_b.Key (show R_22 w2 (.slice a11 x_b.Key.length c12) x_b.Key from ⟨_, _, rfl, (r13.from0 m32), s14⟩)) ?_
    rintro _ w3 ⟨k36, rfl⟩
    have m37 := m32.extk k36
    refine wl_pick_t (.bool (F_bytes_Equal x_a.Key x_b.Key)) (want_none rfl) rfl rfl rfl (congrArg Value.bool h34) rfl ?_
    refine wl_mv (.bool (F_bytes_Equal x_a.Key x_b.Key)) (want_none rfl) rfl rfl (.inl rfl) rfl ?_
    rcases Bool.eq_false_or_eq_true (F_bytes_Equal x_a.Key x_b.Key) with h38 | h38
    · skip
      refine wl_pure (.pointer (some ⟨g21, 2, none⟩)) (want_some rfl rfl rfl (congrArg Value.bool h38)) rfl rfl (by kernel_rfl) ?_
      have b40 := (b33.kp k36)
      refine wl_load1 (.int .i64 x_a.Seq) (want_some rfl rfl rfl (congrArg Value.bool h38)) rfl rfl rfl rfl isAgg_3 b40 rfl ?_
      refine wl_pure (.pointer (some ⟨g27, 2, none⟩)) (want_some rfl rfl rfl (congrArg Value.bool h38)) rfl rfl (by kernel_rfl) ?_
      have b41 := (b31.kp k36)
      refine wl_load1 (.int .i64 x_b.Seq) (want_some rfl rfl rfl (congrArg Value.bool h38)) rfl rfl rfl rfl isAgg_3 b41 rfl ?_
      refine wl_pure (.bool (decide (x_a.Seq = x_b.Seq))) (want_some rfl rfl rfl (congrArg Value.bool h38)) rfl rfl (by kernel_rfl) ?_
      refine wl_pick_t (.bool (decide (x_a.Seq = x_b.Seq))) (want_none rfl) rfl rfl rfl (congrArg Value.bool h38) rfl ?_
      refine wl_mv (.bool (decide (x_a.Seq = x_b.Seq))) (want_none rfl) rfl rfl (.inl rfl) rfl ?_
      rcases Bool.eq_false_or_eq_true (decide (x_a.Seq = x_b.Seq)) with h42 | h42
      · have q43 := of_decide_eq_true h42
        refine wl_pure (.pointer (some ⟨g21, 3, none⟩)) (want_some rfl rfl rfl (congrArg Value.bool h42)) rfl rfl (by kernel_rfl) ?_
        refine wl_pure (.pointer (some ⟨g21, 3, none⟩)) (want_some rfl rfl rfl (congrArg Value.bool h42)) rfl rfl (by kernel_rfl) ?_
        refine wl_load1 (.int .i64 x_a.Win.Top) (want_some rfl rfl rfl (congrArg Value.bool h42)) rfl rfl rfl rfl isAgg_3 b40 rfl ?_
        refine wl_pure (.pointer (some ⟨g27, 3, none⟩)) (want_some rfl rfl rfl (congrArg Value.bool h42)) rfl rfl (by kernel_rfl) ?_
        refine wl_pure (.pointer (some ⟨g27, 3, none⟩)) (want_some rfl rfl rfl (congrArg Value.bool h42)) rfl rfl (by kernel_rfl) ?_
        refine wl_load1 (.int .i64 x_b.Win.Top) (want_some rfl rfl rfl (congrArg Value.bool h42)) rfl rfl rfl rfl isAgg_3 b41 rfl ?_
        refine wl_pure (.bool (decide (x_a.Win.Top = x_b.Win.Top))) (want_some rfl rfl rfl (congrArg Value.bool h42)) rfl rfl (by kernel_rfl) ?_
        refine wl_pick_t (.bool (decide (x_a.Win.Top = x_b.Win.Top))) (want_none rfl) rfl rfl rfl (congrArg Value.bool h42) rfl ?_
        refine wl_mv (.bool (decide (x_a.Win.Top = x_b.Win.Top))) (want_none rfl) rfl rfl (.inl rfl) rfl ?_
        rcases Bool.eq_false_or_eq_true (decide (x_a.Win.Top = x_b.Win.Top)) with h44 | h44
        · have q45 := of_decide_eq_true h44
          refine wl_pure (.pointer (some ⟨g21, 3, none⟩)) (want_some rfl rfl rfl (congrArg Value.bool h44)) rfl rfl (by kernel_rfl) ?_
          refine wl_pure (.pointer (some ⟨g21, 4, none⟩)) (want_some rfl rfl rfl (congrArg Value.bool h44)) rfl rfl (by kernel_rfl) ?_
          refine wl_load1 (.slice a6 x_a.Win.Bits.length c7) (want_some rfl rfl rfl (congrArg Value.bool h44)) rfl rfl rfl rfl isAgg_23 b40 rfl ?_
          refine wl_pure (.pointer (some ⟨g27, 3, none⟩)) (want_some rfl rfl rfl (congrArg Value.bool h44)) rfl rfl (by kernel_rfl) ?_
          refine wl_pure (.pointer (some ⟨g27, 4, none⟩)) (want_some rfl rfl rfl (congrArg Value.bool h44)) rfl rfl (by kernel_rfl) ?_
          refine wl_load1 (.slice a16 x_b.Win.Bits.length c17) (want_some rfl rfl rfl (congrArg Value.bool h44)) rfl rfl rfl rfl isAgg_23 b41 rfl ?_
          refine wl_call (want_some rfl rfl rfl (congrArg Value.bool h44)) (args := #[(.slice a6 x_a.Win.Bits.length c7), (.slice a16 x_b.Win.Bits.length c17)]) rfl rfl (by kernel_rfl) (C_impl_sameInts w3 (.slice a6 x_a.Win.Bits.length c7) x_a.Win.Bits (show R_23 w3 (.slice a6 x_a.Win.Bits.length c7) x_a.Win.Bits from ⟨_, _, rfl, (r8.from0 m37), s9⟩) (.slice a16 x_b.Win.Bits.length c17) x_b.Win.Bits (show R_23 w3 (.slice a16 x_b.Win.Bits.length c17) x_b.Win.Bits from ⟨_, _, rfl, (r18.from0 m37), s19⟩)) ?_
          rintro _ w4 ⟨k46, rfl⟩
          have m47 := m37.extk k46
          refine wl_pick_t (.bool (eqI x_a.Win.Bits x_b.Win.Bits)) (want_none rfl) rfl rfl rfl (congrArg Value.bool h44) rfl ?_
          refine wl_mv (.bool (eqI x_a.Win.Bits x_b.Win.Bits)) (want_none rfl) rfl rfl (.inr rfl) rfl ?_
          refine wl_nil ?_
          refine wq_then ?_
          refine wc_ret ?_
          refine ret_1 (.inl rfl) (.bool (eqI x_a.Win.Bits x_b.Win.Bits)) rfl rfl ?_
          refine ⟨m47.keep0, ?_⟩
          have hF48 : F_impl_sameEp x_a x_b = (eqI x_a.Win.Bits x_b.Win.Bits) := by simp only [F_impl_sameEp, h34, h38, h42, h44, cond_true, cond_false]
          rw [hF48]
          exact rfl
        · have q49 := of_decide_eq_false h44
          refine wl_skip rfl rfl rfl (congrArg Value.bool h44) rfl rfl rfl ?_
          refine wl_skip rfl rfl rfl (congrArg Value.bool h44) rfl rfl rfl ?_
          refine wl_skip rfl rfl rfl (congrArg Value.bool h44) rfl rfl rfl ?_
          refine wl_skip rfl rfl rfl (congrArg Value.bool h44) rfl rfl rfl ?_
          refine wl_skip rfl rfl rfl (congrArg Value.bool h44) rfl rfl rfl ?_
          refine wl_skip rfl rfl rfl (congrArg Value.bool h44) rfl rfl rfl ?_
          refine wl_skip rfl rfl rfl (congrArg Value.bool h44) rfl rfl rfl ?_
          refine wl_pick_f (.bool false) (want_none rfl) rfl rfl rfl (congrArg Value.bool h44) rfl ?_
          refine wl_mv (.bool false) (want_none rfl) rfl rfl (.inr rfl) rfl ?_
          refine wl_nil ?_
          refine wq_then ?_
          refine wc_ret ?_
          refine ret_1 (.inl rfl) (.bool false) rfl rfl ?_
          refine ⟨m37.keep0, ?_⟩
          have hF50 : F_impl_sameEp x_a x_b = false := by simp only [F_impl_sameEp, h34, h38, h42, h44, cond_true, cond_false]
          rw [hF50]
          exact rfl
      · have q51 := of_decide_eq_false h42
        refine wl_skip rfl rfl rfl (congrArg Value.bool h42) rfl rfl rfl ?_
        refine wl_skip rfl rfl rfl (congrArg Value.bool h42) rfl rfl rfl ?_
        refine wl_skip rfl rfl rfl (congrArg Value.bool h42) rfl rfl rfl ?_
        refine wl_skip rfl rfl rfl (congrArg Value.bool h42) rfl rfl rfl ?_
        refine wl_skip rfl rfl rfl (congrArg Value.bool h42) rfl rfl rfl ?_
        refine wl_skip rfl rfl rfl (congrArg Value.bool h42) rfl rfl rfl ?_
        refine wl_skip rfl rfl rfl (congrArg Value.bool h42) rfl rfl rfl ?_
        refine wl_pick_f (.bool false) (want_none rfl) rfl rfl rfl (congrArg Value.bool h42) rfl ?_
        refine wl_mv (.bool false) (want_none rfl) rfl rfl (.inl rfl) rfl ?_
        refine wl_skip rfl rfl rfl rfl rfl rfl rfl ?_
        refine wl_skip rfl rfl rfl rfl rfl rfl rfl ?_
        refine wl_skip rfl rfl rfl rfl rfl rfl rfl ?_
        refine wl_skip rfl rfl rfl rfl rfl rfl rfl ?_
        refine wl_skip rfl rfl rfl rfl rfl rfl rfl ?_
        refine wl_skip rfl rfl rfl rfl rfl rfl rfl ?_
        refine wl_skip rfl rfl rfl rfl rfl rfl rfl ?_
        refine wl_pick_f (.bool false) (want_none rfl) rfl rfl rfl rfl rfl ?_
        refine wl_mv (.bool false) (want_none rfl) rfl rfl (.inr rfl) rfl ?_
        refine wl_nil ?_
        refine wq_then ?_
        refine wc_ret ?_
        refine ret_1 (.inl rfl) (.bool false) rfl rfl ?_
        refine ⟨m37.keep0, ?_⟩
        have hF52 : F_impl_sameEp x_a x_b = false := by simp only [F_impl_sameEp, h34, h38, h42, cond_true, cond_false]
        rw [hF52]
        exact rfl
    · skip
      refine wl_skip rfl rfl rfl (congrArg Value.bool h38) rfl rfl rfl ?_
      refine wl_skip rfl rfl rfl (congrArg Value.bool h38) rfl rfl rfl ?_
      refine wl_skip rfl rfl rfl (congrArg Value.bool h38) rfl rfl rfl ?_
      refine wl_skip rfl rfl rfl (congrArg Value.bool h38) rfl rfl rfl ?_
      refine wl_skip rfl rfl rfl (congrArg Value.bool h38) rfl rfl rfl ?_
      refine wl_pick_f (.bool false) (want_none rfl) rfl rfl rfl (congrArg Value.bool h38) rfl ?_
      refine wl_mv (.bool false) (want_none rfl) rfl rfl (.inl rfl) rfl ?_
      refine wl_skip rfl rfl rfl rfl rfl rfl rfl ?_
      refine wl_skip rfl rfl rfl rfl rfl rfl rfl ?_
      refine wl_skip rfl rfl rfl rfl rfl rfl rfl ?_
      refine wl_skip rfl rfl rfl rfl rfl rfl rfl ?_
      refine wl_skip rfl rfl rfl rfl rfl rfl rfl ?_
      refine wl_skip rfl rfl rfl rfl rfl rfl rfl ?_
      refine wl_skip rfl rfl rfl rfl rfl rfl rfl ?_
      refine wl_pick_f (.bool false) (want_none rfl) rfl rfl rfl rfl rfl ?_
      refine wl_mv (.bool false) (want_none rfl) rfl rfl (.inl rfl) rfl ?_
      refine wl_skip rfl rfl rfl rfl rfl rfl rfl ?_
      refine wl_skip rfl rfl rfl rfl rfl rfl rfl ?_
      refine wl_skip rfl rfl rfl rfl rfl rfl rfl ?_
      refine wl_skip rfl rfl rfl rfl rfl rfl rfl ?_
      refine wl_skip rfl rfl rfl rfl rfl rfl rfl ?_
      refine wl_skip rfl rfl rfl rfl rfl rfl rfl ?_
      refine wl_skip rfl rfl rfl rfl rfl rfl rfl ?_
      refine wl_pick_f (.bool false) (want_none rfl) rfl rfl rfl rfl rfl ?_
      refine wl_mv (.bool false) (want_none rfl) rfl rfl (.inr rfl) rfl ?_
      refine wl_nil ?_
      refine wq_then ?_
      refine wc_ret ?_
      refine ret_1 (.inl rfl) (.bool false) rfl rfl ?_
      refine ⟨m37.keep0, ?_⟩
      have hF54 : F_impl_sameEp x_a x_b = false := by simp only [F_impl_sameEp, h34, h38, cond_true, cond_false]
      rw [hF54]
      exact rfl
  · have q55 := of_decide_eq_false h34
    refine wl_skip rfl rfl rfl (congrArg Value.bool h34) rfl rfl rfl ?_
    refine wl_skip rfl rfl rfl (congrArg Value.bool h34) rfl rfl rfl ?_
    refine wl_skip rfl rfl rfl (congrArg Value.bool h34) rfl rfl rfl ?_
    refine wl_skip rfl rfl rfl (congrArg Value.bool h34) rfl rfl rfl ?_
    refine wl_skip rfl rfl rfl (congrArg Value.bool h34) rfl rfl rfl ?_
    refine wl_pick_f (.bool false) (want_none rfl) rfl rfl rfl (congrArg Value.bool h34) rfl ?_
    refine wl_mv (.bool false) (want_none rfl) rfl rfl (.inl rfl) rfl ?_
    refine wl_skip rfl rfl rfl rfl rfl rfl rfl ?_
    refine wl_skip rfl rfl rfl rfl rfl rfl rfl ?_
    refine wl_skip rfl rfl rfl rfl rfl rfl rfl ?_
    refine wl_skip rfl rfl rfl rfl rfl rfl rfl ?_
    refine wl_skip rfl rfl rfl rfl rfl rfl rfl ?_
    refine wl_pick_f (.bool false) (want_none rfl) rfl rfl rfl rfl rfl ?_
    refine wl_mv (.bool false) (want_none rfl) rfl rfl (.inl rfl) rfl ?_
    refine wl_skip rfl rfl rfl rfl rfl rfl rfl ?_
    refine wl_skip rfl rfl rfl rfl rfl rfl rfl ?_
    refine wl_skip rfl rfl rfl rfl rfl rfl rfl ?_
    refine wl_skip rfl rfl rfl rfl rfl rfl rfl ?_
    refine wl_skip rfl rfl rfl rfl rfl rfl rfl ?_
    refine wl_skip rfl rfl rfl rfl rfl rfl rfl ?_
    refine wl_skip rfl rfl rfl rfl rfl rfl rfl ?_
    refine wl_pick_f (.bool false) (want_none rfl) rfl rfl rfl rfl rfl ?_
    refine wl_mv (.bool false) (want_none rfl) rfl rfl (.inl rfl) rfl ?_
    refine wl_skip rfl rfl rfl rfl rfl rfl rfl ?_
    refine wl_skip rfl rfl rfl rfl rfl rfl rfl ?_
    refine wl_skip rfl rfl rfl rfl rfl rfl rfl ?_
    refine wl_skip rfl rfl rfl rfl rfl rfl rfl ?_
    refine wl_skip rfl rfl rfl rfl rfl rfl rfl ?_
    refine wl_skip rfl rfl rfl rfl rfl rfl rfl ?_
    refine wl_skip rfl rfl rfl rfl rfl rfl rfl ?_
    refine wl_pick_f (.bool false) (want_none rfl) rfl rfl rfl rfl rfl ?_
    refine wl_mv (.bool false) (want_none rfl) rfl rfl (.inr rfl) rfl ?_
    refine wl_nil ?_
    refine wq_then ?_
    refine wc_ret ?_
    refine ret_1 (.inl rfl) (.bool false) rfl rfl ?_
    refine ⟨m32.keep0, ?_⟩
    have hF56 : F_impl_sameEp x_a x_b = false := by simp only [F_impl_sameEp, h34, cond_true, cond_false]
    rw [hF56]
    exact rfl

def F_impl_oldOk (x_c : PChan) : (Bool) := bif x_c.HasOld then (bif (F_impl_EpOk x_c.Old) then (bif (decide (x_c.Old.N = (x_c.Cur.N - 1))) then (bif (F_impl_within x_c.Until 0 1000005) then (true) else (bif (decide (x_c.Until = (-1))) then (decide (x_c.Role = 1)) else (false))) else (false)) else (false)) else (bif (F_impl_sameEp x_c.Old { N := 0, Key := [], Seq := 0, Win := { Top := 0, Bits := [] : PWin } : PEp }) then (decide (x_c.Until = 0)) else (false))
theorem C_impl_oldOk (w0 : World) (v_x_c : Value) (x_c : PChan) (r_x_c : R_29 w0 v_x_c x_c) (pre0 : 0 ≤ x_c.Cur.N) (pre1 : x_c.Cur.N ≤ 4294967295) : Fn Try.prog 80 #[v_x_c] w0 (fun v w' => Keep w0 w' ∧ O_4 w' w0.heap.size v (F_impl_oldOk x_c)) := by
  obtain ⟨a1, c2, a6, c7, a11, c12, a16, c17, a21, c22, a26, c27, rfl, r3, s4, r8, s9, r13, s14, r18, s19, r23, s24, r28, s29⟩ := r_x_c
  refine fn_of (n := 42) (l := [(.agg #[(.int .i64 x_c.Role), (.slice a1 x_c.Sn.length c2), (.int .i64 x_c.Cur.N), (.slice a6 x_c.Cur.Key.length c7), (.int .i64 x_c.Cur.Seq), (.int .i64 x_c.Cur.Win.Top), (.slice a11 x_c.Cur.Win.Bits.length c12), (.int .i64 x_c.Old.N), (.slice a16 x_c.Old.Key.length c17), (.int .i64 x_c.Old.Seq), (.int .i64 x_c.Old.Win.Top), (.slice a21 x_c.Old.Win.Bits.length c22), (.bool x_c.HasOld), (.int .i64 x_c.Until), (.slice a26 x_c.Next.length c27)]), undef, undef, undef, undef, undef, undef, undef, undef, undef, undef, undef, undef, undef, undef, undef, undef, undef, undef, undef, undef, undef, undef, undef, undef, undef, undef, undef, undef, undef, undef, undef, undef, undef, undef, undef, undef, undef, undef, undef, undef, undef]) Try.func80 rfl rfl (by kernel_rfl) rfl ?_
  refine wc_seq ?_
  refine wc_region ?_
  refine wl_box (want_none rfl) [(.int .i64 x_c.Role), (.slice a1 x_c.Sn.length c2), (.int .i64 x_c.Cur.N), (.slice a6 x_c.Cur.Key.length c7), (.int .i64 x_c.Cur.Seq), (.int .i64 x_c.Cur.Win.Top), (.slice a11 x_c.Cur.Win.Bits.length c12), (.int .i64 x_c.Old.N), (.slice a16 x_c.Old.Key.length c17), (.int .i64 x_c.Old.Seq), (.int .i64 x_c.Old.Win.Top), (.slice a21 x_c.Old.Win.Bits.length c22), (.bool x_c.HasOld), (.int .i64 x_c.Until), (.slice a26 x_c.Next.length c27)] rfl rfl rfl rfl ?_
  intro g31 w1 p32 p33 k34 b35
  have m36 := (Ch.base w0).extk k34
  refine wl_mv (.bool false) (want_none rfl) rfl rfl (.inr rfl) rfl ?_
  refine wl_nil ?_
  refine wq_then ?_
  refine wc_seq ?_
  refine wc_seq ?_
  refine wc_region ?_
  refine wl_pure (.pointer (some ⟨g31, 12, none⟩)) (want_none rfl) rfl rfl (by kernel_rfl) ?_
  refine wl_load1 (.bool x_c.HasOld) (want_none rfl) rfl rfl rfl rfl isAgg_4 b35 rfl ?_
  refine wl_pure (.bool (!x_c.HasOld)) (want_none rfl) rfl rfl (by kernel_rfl) ?_
  refine wl_nil ?_
  refine wq_then ?_
  rcases Bool.eq_false_or_eq_true x_c.HasOld with h37 | h37
  · skip
    refine wc_false (congrArg (fun b => Value.bool (!b)) h37) ?_
    refine wc_skip ?_
    refine wq_then ?_
    refine wc_seq ?_
    refine wc_seq ?_
    refine wc_region ?_
    refine wl_pure (.pointer (some ⟨g31, 7, none⟩)) (want_none rfl) rfl rfl (by kernel_rfl) ?_
    refine wl_loadN [(.int .i64 x_c.Old.N), (.slice a16 x_c.Old.Key.length c17), (.int .i64 x_c.Old.Seq), (.int .i64 x_c.Old.Win.Top), (.slice a21 x_c.Old.Win.Bits.length c22)] (want_none rfl) rfl rfl rfl rfl isAgg_27 sizeOf_27 b35 rfl ?_
    refine wl_call (want_none rfl) (args := #[(.agg #[(.int .i64 x_c.Old.N), (.slice a16 x_c.Old.Key.length c17), (.int .i64 x_c.Old.Seq), (.int .i64 x_c.Old.Win.Top), (.slice a21 x_c.Old.Win.Bits.length c22)])]) rfl rfl (by kernel_rfl) (C_impl_EpOk w1 (.agg #[(.int .i64 x_c.Old.N), (.slice a16 x_c.Old.Key.length c17), (.int .i64 x_c.Old.Seq), (.int .i64 x_c.Old.Win.Top), (.slice a21 x_c.Old.Win.Bits.length c22)]) x_c.Old (show R_27 w1 (.agg #[(.int .i64 x_c.Old.N), (.slice a16 x_c.Old.Key.length c17), (.int .i64 x_c.Old.Seq), (.int .i64 x_c.Old.Win.Top), (.slice a21 x_c.Old.Win.Bits.length c22)]) x_c.Old from ⟨_, _, _, _, rfl, (r18.from0 m36), s19, (r23.from0 m36), s24⟩)) ?_
    rintro _ w2 ⟨k39, rfl⟩
    have m40 := m36.extk k39
    refine wl_pure (.bool (!(F_impl_EpOk x_c.Old))) (want_none rfl) rfl rfl (by kernel_rfl) ?_
    refine wl_mv (.bool (!(F_impl_EpOk x_c.Old))) (want_none rfl) rfl rfl (.inl rfl) rfl ?_
    rcases Bool.eq_false_or_eq_true (F_impl_EpOk x_c.Old) with h41 | h41
    · have q42 := impl_EpOk_t h41
      refine wl_pure (.pointer (some ⟨g31, 7, none⟩)) (want_some rfl rfl rfl (congrArg (fun b => Value.bool (!b)) h41)) rfl rfl (by kernel_rfl) ?_
      refine wl_pure (.pointer (some ⟨g31, 7, none⟩)) (want_some rfl rfl rfl (congrArg (fun b => Value.bool (!b)) h41)) rfl rfl (by kernel_rfl) ?_
      have b43 := (b35.kp k39)
      refine wl_load1 (.int .i64 x_c.Old.N) (want_some rfl rfl rfl (congrArg (fun b => Value.bool (!b)) h41)) rfl rfl rfl rfl isAgg_3 b43 rfl ?_
      refine wl_pure (.pointer (some ⟨g31, 2, none⟩)) (want_some rfl rfl rfl (congrArg (fun b => Value.bool (!b)) h41)) rfl rfl (by kernel_rfl) ?_
      refine wl_pure (.pointer (some ⟨g31, 2, none⟩)) (want_some rfl rfl rfl (congrArg (fun b => Value.bool (!b)) h41)) rfl rfl (by kernel_rfl) ?_
      refine wl_load1 (.int .i64 x_c.Cur.N) (want_some rfl rfl rfl (congrArg (fun b => Value.bool (!b)) h41)) rfl rfl rfl rfl isAgg_3 b43 rfl ?_
      refine wl_arith (x_c.Cur.N - 1) (want_some rfl rfl rfl (congrArg (fun b => Value.bool (!b)) h41)) rfl rfl (by kernel_rfl) (by omega) (by omega) ?_
      refine wl_pure (.bool (!(decide (x_c.Old.N = (x_c.Cur.N - 1))))) (want_some rfl rfl rfl (congrArg (fun b => Value.bool (!b)) h41)) rfl rfl (by kernel_rfl) ?_
      refine wl_pick_f (.bool (!(decide (x_c.Old.N = (x_c.Cur.N - 1))))) (want_none rfl) rfl rfl rfl (congrArg (fun b => Value.bool (!b)) h41) rfl ?_
      refine wl_nil ?_
      refine wq_then ?_
      rcases Bool.eq_false_or_eq_true (decide (x_c.Old.N = (x_c.Cur.N - 1))) with h44 | h44
      · have q45 := of_decide_eq_true h44
        refine wc_false (congrArg (fun b => Value.bool (!b)) h44) ?_
        refine wc_skip ?_
        refine wq_then ?_
        refine wc_seq ?_
        refine wc_region ?_
        refine wl_pure (.pointer (some ⟨g31, 13, none⟩)) (want_none rfl) rfl rfl (by kernel_rfl) ?_
        refine wl_load1 (.int .i64 x_c.Until) (want_none rfl) rfl rfl rfl rfl isAgg_3 b43 rfl ?_
        refine wl_call (want_none rfl) (args := #[(.int .i64 x_c.Until), (.int .i64 0), (.int .i64 1000005)]) rfl rfl (by kernel_rfl) (C_impl_within w2 x_c.Until 0 1000005) ?_
        rintro _ w3 ⟨k46, rfl⟩
        have m47 := m40.extk k46
        refine wl_mv (.bool (F_impl_within x_c.Until 0 1000005)) (want_none rfl) rfl rfl (.inl rfl) rfl ?_
        rcases Bool.eq_false_or_eq_true (F_impl_within x_c.Until 0 1000005) with h48 | h48
        · have q49 := impl_within_t h48
          refine wl_skip rfl rfl rfl (congrArg Value.bool h48) rfl rfl rfl ?_
          refine wl_skip rfl rfl rfl (congrArg Value.bool h48) rfl rfl rfl ?_
          refine wl_skip rfl rfl rfl (congrArg Value.bool h48) rfl rfl rfl ?_
          refine wl_skip rfl rfl rfl (congrArg Value.bool h48) rfl rfl rfl ?_
          refine wl_skipu rfl rfl rfl rfl rfl ?_
          refine wl_skipu rfl rfl rfl rfl rfl ?_
          refine wl_skipu rfl rfl rfl rfl rfl ?_
          refine wl_skip rfl rfl rfl (congrArg Value.bool h48) rfl rfl rfl ?_
          refine wl_pick_t (.bool true) (want_none rfl) rfl rfl rfl (congrArg Value.bool h48) rfl ?_
          refine wl_mv (.bool true) (want_none rfl) rfl rfl (.inr rfl) rfl ?_
          refine wl_nil ?_
          refine wq_then ?_
          refine wc_ret ?_
          refine ret_1 (.inl rfl) (.bool true) rfl rfl ?_
          refine ⟨m47.keep0, ?_⟩
          have hF50 : F_impl_oldOk x_c = true := by simp only [F_impl_oldOk, h37, h41, h44, h48, cond_true, cond_false]
          rw [hF50]
          exact rfl
        · have q51 := impl_within_f h48
          refine wl_pure (.pointer (some ⟨g31, 13, none⟩)) (want_some rfl rfl rfl (congrArg Value.bool h48)) rfl rfl (by kernel_rfl) ?_
          have b52 := (b43.kp k46)
          refine wl_load1 (.int .i64 x_c.Until) (want_some rfl rfl rfl (congrArg Value.bool h48)) rfl rfl rfl rfl isAgg_3 b52 rfl ?_
          refine wl_pure (.bool (decide (x_c.Until = (-1)))) (want_some rfl rfl rfl (congrArg Value.bool h48)) rfl rfl (by kernel_rfl) ?_
          refine wl_mv (.bool (decide (x_c.Until = (-1)))) (want_some rfl rfl rfl (congrArg Value.bool h48)) rfl rfl (.inl rfl) rfl ?_
          rcases Bool.eq_false_or_eq_true (decide (x_c.Until = (-1))) with h53 | h53
          · have q54 := of_decide_eq_true h53
            refine wl_pure (.pointer (some ⟨g31, 0, none⟩)) (want_some rfl rfl rfl (congrArg Value.bool h53)) rfl rfl (by kernel_rfl) ?_
            refine wl_load1 (.int .i64 x_c.Role) (want_some rfl rfl rfl (congrArg Value.bool h53)) rfl rfl rfl rfl isAgg_3 b52 rfl ?_
            refine wl_pure (.bool (decide (x_c.Role = 1))) (want_some rfl rfl rfl (congrArg Value.bool h53)) rfl rfl (by kernel_rfl) ?_
            refine wl_pick_t (.bool (decide (x_c.Role = 1))) (want_some rfl rfl rfl (congrArg Value.bool h48)) rfl rfl rfl (congrArg Value.bool h53) rfl ?_
            refine wl_pick_f (.bool (decide (x_c.Role = 1))) (want_none rfl) rfl rfl rfl (congrArg Value.bool h48) rfl ?_
            refine wl_mv (.bool (decide (x_c.Role = 1))) (want_none rfl) rfl rfl (.inr rfl) rfl ?_
            refine wl_nil ?_
            refine wq_then ?_
            refine wc_ret ?_
            refine ret_1 (.inl rfl) (.bool (decide (x_c.Role = 1))) rfl rfl ?_
            refine ⟨m47.keep0, ?_⟩
            have hF55 : F_impl_oldOk x_c = decide (x_c.Role = 1) := by simp only [F_impl_oldOk, h37, h41, h44, h48, h53, cond_true, cond_false]
            rw [hF55]
            exact rfl
          · have q56 := of_decide_eq_false h53
            refine wl_skip rfl rfl rfl (congrArg Value.bool h53) rfl rfl rfl ?_
            refine wl_skip rfl rfl rfl (congrArg Value.bool h53) rfl rfl rfl ?_
            refine wl_skip rfl rfl rfl (congrArg Value.bool h53) rfl rfl rfl ?_
            refine wl_pick_f (.bool false) (want_some rfl rfl rfl (congrArg Value.bool h48)) rfl rfl rfl (congrArg Value.bool h53) rfl ?_
            refine wl_pick_f (.bool false) (want_none rfl) rfl rfl rfl (congrArg Value.bool h48) rfl ?_
            refine wl_mv (.bool false) (want_none rfl) rfl rfl (.inr rfl) rfl ?_
            refine wl_nil ?_
            refine wq_then ?_
            refine wc_ret ?_
            refine ret_1 (.inl rfl) (.bool false) rfl rfl ?_
            refine ⟨m47.keep0, ?_⟩
            have hF57 : F_impl_oldOk x_c = false := by simp only [F_impl_oldOk, h37, h41, h44, h48, h53, cond_true, cond_false]
            rw [hF57]
            exact rfl
      · have q58 := of_decide_eq_false h44
        refine wc_true (congrArg (fun b => Value.bool (!b)) h44) ?_
        refine wc_seq ?_
        refine wc_region ?_
        refine wl_mv (.bool false) (want_none rfl) rfl rfl (.inr rfl) rfl ?_
        refine wl_nil ?_
        refine wq_then ?_
        refine wc_ret ?_
        refine wq_then_ret ?_
        refine ret_1 (.inl rfl) (.bool false) rfl rfl ?_
        refine ⟨m40.keep0, ?_⟩
        have hF59 : F_impl_oldOk x_c = false := by simp only [F_impl_oldOk, h37, h41, h44, cond_true, cond_false]
        rw [hF59]
        exact rfl
    · skip
      refine wl_skip rfl rfl rfl (congrArg (fun b => Value.bool (!b)) h41) rfl rfl rfl ?_
      refine wl_skip rfl rfl rfl (congrArg (fun b => Value.bool (!b)) h41) rfl rfl rfl ?_
      refine wl_skip rfl rfl rfl (congrArg (fun b => Value.bool (!b)) h41) rfl rfl rfl ?_
      refine wl_skip rfl rfl rfl (congrArg (fun b => Value.bool (!b)) h41) rfl rfl rfl ?_
      refine wl_skip rfl rfl rfl (congrArg (fun b => Value.bool (!b)) h41) rfl rfl rfl ?_
      refine wl_skip rfl rfl rfl (congrArg (fun b => Value.bool (!b)) h41) rfl rfl rfl ?_
      refine wl_skip rfl rfl rfl (congrArg (fun b => Value.bool (!b)) h41) rfl rfl rfl ?_
      refine wl_skip rfl rfl rfl (congrArg (fun b => Value.bool (!b)) h41) rfl rfl rfl ?_
      refine wl_pick_t (.bool true) (want_none rfl) rfl rfl rfl (congrArg (fun b => Value.bool (!b)) h41) rfl ?_
      refine wl_nil ?_
      refine wq_then ?_
      refine wc_true rfl ?_
      refine wc_seq ?_
      refine wc_region ?_
      refine wl_mv (.bool false) (want_none rfl) rfl rfl (.inr rfl) rfl ?_
      refine wl_nil ?_
      refine wq_then ?_
      refine wc_ret ?_
      refine wq_then_ret ?_
      refine ret_1 (.inl rfl) (.bool false) rfl rfl ?_
      refine ⟨m40.keep0, ?_⟩
      have hF61 : F_impl_oldOk x_c = false := by simp only [F_impl_oldOk, h37, h41, cond_true, cond_false]
      rw [hF61]
      exact rfl
  · skip
    refine wc_true (congrArg (fun b => Value.bool (!b)) h37) ?_
    refine wc_seq ?_
    refine wc_region ?_
    refine wl_pure (.pointer (some ⟨g31, 7, none⟩)) (want_none rfl) rfl rfl (by kernel_rfl) ?_
    refine wl_loadN [(.int .i64 x_c.Old.N), (.slice a16 x_c.Old.Key.length c17), (.int .i64 x_c.Old.Seq), (.int .i64 x_c.Old.Win.Top), (.slice a21 x_c.Old.Win.Bits.length c22)] (want_none rfl) rfl rfl rfl rfl isAgg_27 sizeOf_27 b35 rfl ?_
    refine wl_pure (.agg #[(.int .i64 0), (.slice none 0 0), (.int .i64 0), (.int .i64 0), (.slice none 0 0)]) (want_none rfl) rfl rfl (by kernel_rfl) ?_
    refine wl_call (want_none rfl) (args := #[(.agg #[(.int .i64 x_c.Old.N), (.slice a16 x_c.Old.Key.length c17), (.int .i64 x_c.Old.Seq), (.int .i64 x_c.Old.Win.Top), (.slice a21 x_c.Old.Win.Bits.length c22)]), (.agg #[(.int .i64 0), (.slice none 0 0), (.int .i64 0), (.int .i64 0), (.slice none 0 0)])]) rfl rfl (by kernel_rfl) (C_impl_sameEp w1 (.agg #[(.int .i64 x_c.Old.N), (.slice a16 x_c.Old.Key.length c17), (.int .i64 x_c.Old.Seq), (.int .i64 x_c.Old.Win.Top), (.slice a21 x_c.Old.Win.Bits.length c22)]) x_c.Old (show R_27 w1 (.agg #[(.int .i64 x_c.Old.N), (.slice a16 x_c.Old.Key.length c17), (.int .i64 x_c.Old.Seq), (.int .i64 x_c.Old.Win.Top), (.slice a21 x_c.Old.Win.Bits.length c22)]) x_c.Old from ⟨_, _, _, _, rfl, (r18.from0 m36), s19, (r23.from0 m36), s24⟩) (.agg #[(.int .i64 0), (.slice none 0 0), (.int .i64 0), (.int .i64 0), (.slice none 0 0)]) { N := 0, Key := [], Seq := 0, Win := { Top := 0, Bits := [] : PWin } : PEp } (show R_27 w1 (.agg #[(.int .i64 0), (.slice none 0 0), (.int .i64 0), (.int .i64 0), (.slice none 0 0)]) { N := 0, Key := [], Seq := 0, Win := { Top := 0, Bits := [] : PWin } : PEp } from ⟨_, _, _, _, rfl, (Rd.nil _ _), (by simp), (Rd.nil _ _), (by simp)⟩)) ?_
    rintro _ w2 ⟨k63, rfl⟩
    have m64 := m36.extk k63
    refine wl_mv (.bool (F_impl_sameEp x_c.Old { N := 0, Key := [], Seq := 0, Win := { Top := 0, Bits := [] : PWin } : PEp })) (want_none rfl) rfl rfl (.inl rfl) rfl ?_
    rcases Bool.eq_false_or_eq_true (F_impl_sameEp x_c.Old { N := 0, Key := [], Seq := 0, Win := { Top := 0, Bits := [] : PWin } : PEp }) with h65 | h65
    · skip
      refine wl_pure (.pointer (some ⟨g31, 13, none⟩)) (want_some rfl rfl rfl (congrArg Value.bool h65)) rfl rfl (by kernel_rfl) ?_
      have b67 := (b35.kp k63)
      refine wl_load1 (.int .i64 x_c.Until) (want_some rfl rfl rfl (congrArg Value.bool h65)) rfl rfl rfl rfl isAgg_3 b67 rfl ?_
      refine wl_pure (.bool (decide (x_c.Until = 0))) (want_some rfl rfl rfl (congrArg Value.bool h65)) rfl rfl (by kernel_rfl) ?_
      refine wl_pick_t (.bool (decide (x_c.Until = 0))) (want_none rfl) rfl rfl rfl (congrArg Value.bool h65) rfl ?_
      refine wl_mv (.bool (decide (x_c.Until = 0))) (want_none rfl) rfl rfl (.inr rfl) rfl ?_
      refine wl_nil ?_
      refine wq_then ?_
      refine wc_ret ?_
      refine wq_then_ret ?_
      refine ret_1 (.inl rfl) (.bool (decide (x_c.Until = 0))) rfl rfl ?_
      refine ⟨m64.keep0, ?_⟩
      have hF68 : F_impl_oldOk x_c = decide (x_c.Until = 0) := by simp only [F_impl_oldOk, h37, h65, cond_true, cond_false]
      rw [hF68]
      exact rfl
    · skip
      refine wl_skip rfl rfl rfl (congrArg Value.bool h65) rfl rfl rfl ?_
      refine wl_skip rfl rfl rfl (congrArg Value.bool h65) rfl rfl rfl ?_
      refine wl_skip rfl rfl rfl (congrArg Value.bool h65) rfl rfl rfl ?_
      refine wl_pick_f (.bool false) (want_none rfl) rfl rfl rfl (congrArg Value.bool h65) rfl ?_
      refine wl_mv (.bool false) (want_none rfl) rfl rfl (.inr rfl) rfl ?_
      refine wl_nil ?_
      refine wq_then ?_
      refine wc_ret ?_
      refine wq_then_ret ?_
      refine ret_1 (.inl rfl) (.bool false) rfl rfl ?_
      refine ⟨m64.keep0, ?_⟩
      have hF70 : F_impl_oldOk x_c = false := by simp only [F_impl_oldOk, h37, h65, cond_true, cond_false]
      rw [hF70]
      exact rfl

def F_impl_ChanOk (x_c : PChan) : (Bool) := bif (F_impl_isRole x_c.Role) then (bif (F_impl_isNonce x_c.Sn) then (bif (F_impl_EpOk x_c.Cur) then (bif (F_impl_oldOk x_c) then (bif (decide ((x_c.Next.length : Int) = 0)) then (true) else (bif (decide (x_c.Role = 0)) then (bif (decide ((x_c.Next.length : Int) = 32)) then (decide (x_c.Cur.N < 4294967295)) else (false)) else (false))) else (false)) else (false)) else (false)) else (false)
theorem C_impl_ChanOk (w0 : World) (v_x_c : Value) (x_c : PChan) (r_x_c : R_29 w0 v_x_c x_c)  : Fn Try.prog 26 #[v_x_c] w0 (fun v w' => Keep w0 w' ∧ O_4 w' w0.heap.size v (F_impl_ChanOk x_c)) := by
  obtain ⟨a1, c2, a6, c7, a11, c12, a16, c17, a21, c22, a26, c27, rfl, r3, s4, r8, s9, r13, s14, r18, s19, r23, s24, r28, s29⟩ := r_x_c
  refine fn_of (n := 45) (l := [(.agg #[(.int .i64 x_c.Role), (.slice a1 x_c.Sn.length c2), (.int .i64 x_c.Cur.N), (.slice a6 x_c.Cur.Key.length c7), (.int .i64 x_c.Cur.Seq), (.int .i64 x_c.Cur.Win.Top), (.slice a11 x_c.Cur.Win.Bits.length c12), (.int .i64 x_c.Old.N), (.slice a16 x_c.Old.Key.length c17), (.int .i64 x_c.Old.Seq), (.int .i64 x_c.Old.Win.Top), (.slice a21 x_c.Old.Win.Bits.length c22), (.bool x_c.HasOld), (.int .i64 x_c.Until), (.slice a26 x_c.Next.length c27)]), undef, undef, undef, undef, undef, undef, undef, undef, undef, undef, undef, undef, undef, undef, undef, undef, undef, undef, undef, undef, undef, undef, undef, undef, undef, undef, undef, undef, undef, undef, undef, undef, undef, undef, undef, undef, undef, undef, undef, undef, undef, undef, undef, undef]) Try.func26 rfl rfl (by kernel_rfl) rfl ?_
  refine wc_seq ?_
  refine wc_region ?_
  refine wl_box (want_none rfl) [(.int .i64 x_c.Role), (.slice a1 x_c.Sn.length c2), (.int .i64 x_c.Cur.N), (.slice a6 x_c.Cur.Key.length c7), (.int .i64 x_c.Cur.Seq), (.int .i64 x_c.Cur.Win.Top), (.slice a11 x_c.Cur.Win.Bits.length c12), (.int .i64 x_c.Old.N), (.slice a16 x_c.Old.Key.length c17), (.int .i64 x_c.Old.Seq), (.int .i64 x_c.Old.Win.Top), (.slice a21 x_c.Old.Win.Bits.length c22), (.bool x_c.HasOld), (.int .i64 x_c.Until), (.slice a26 x_c.Next.length c27)] rfl rfl rfl rfl ?_
  intro g31 w1 p32 p33 k34 b35
  have m36 := (Ch.base w0).extk k34
  refine wl_mv (.bool false) (want_none rfl) rfl rfl (.inr rfl) rfl ?_
  refine wl_nil ?_
  refine wq_then ?_
  refine wc_seq ?_
  refine wc_seq ?_
  refine wc_region ?_
  refine wl_pure (.pointer (some ⟨g31, 0, none⟩)) (want_none rfl) rfl rfl (by kernel_rfl) ?_
  refine wl_load1 (.int .i64 x_c.Role) (want_none rfl) rfl rfl rfl rfl isAgg_3 b35 rfl ?_
  refine wl_call (want_none rfl) (args := #[(.int .i64 x_c.Role)]) rfl rfl (by kernel_rfl) (C_impl_isRole w1 x_c.Role) ?_
  rintro _ w2 ⟨k37, rfl⟩
  have m38 := m36.extk k37
  refine wl_pure (.bool (!(F_impl_isRole x_c.Role))) (want_none rfl) rfl rfl (by kernel_rfl) ?_
  refine wl_mv (.bool (!(F_impl_isRole x_c.Role))) (want_none rfl) rfl rfl (.inl rfl) rfl ?_
  rcases Bool.eq_false_or_eq_true (F_impl_isRole x_c.Role) with h39 | h39
  · skip
    refine wl_pure (.pointer (some ⟨g31, 1, none⟩)) (want_some rfl rfl rfl (congrArg (fun b => Value.bool (!b)) h39)) rfl rfl (by kernel_rfl) ?_
    have b41 := (b35.kp k37)
    refine wl_load1 (.slice a1 x_c.Sn.length c2) (want_some rfl rfl rfl (congrArg (fun b => Value.bool (!b)) h39)) rfl rfl rfl rfl isAgg_22 b41 rfl ?_
    refine wl_call (want_some rfl rfl rfl (congrArg (fun b => Value.bool (!b)) h39)) (args := #[(.slice a1 x_c.Sn.length c2)]) rfl rfl (by kernel_rfl) (C_impl_isNonce w2 (.slice a1 x_c.Sn.length c2) x_c.Sn (show R_22 w2 (.slice a1 x_c.Sn.length c2) x_c.Sn from ⟨_, _, rfl, (r3.from0 m38), s4⟩)) ?_
    rintro _ w3 ⟨k42, rfl⟩
    have m43 := m38.extk k42
    refine wl_pure (.bool (!(F_impl_isNonce x_c.Sn))) (want_some rfl rfl rfl (congrArg (fun b => Value.bool (!b)) h39)) rfl rfl (by kernel_rfl) ?_
    refine wl_pick_f (.bool (!(F_impl_isNonce x_c.Sn))) (want_none rfl) rfl rfl rfl (congrArg (fun b => Value.bool (!b)) h39) rfl ?_
    refine wl_mv (.bool (!(F_impl_isNonce x_c.Sn))) (want_none rfl) rfl rfl (.inl rfl) rfl ?_
    rcases Bool.eq_false_or_eq_true (F_impl_isNonce x_c.Sn) with h44 | h44
    · skip
      refine wl_pure (.pointer (some ⟨g31, 2, none⟩)) (want_some rfl rfl rfl (congrArg (fun b => Value.bool (!b)) h44)) rfl rfl (by kernel_rfl) ?_
      have b46 := (b41.kp k42)
      refine wl_loadN [(.int .i64 x_c.Cur.N), (.slice a6 x_c.Cur.Key.length c7), (.int .i64 x_c.Cur.Seq), (.int .i64 x_c.Cur.Win.Top), (.slice a11 x_c.Cur.Win.Bits.length c12)] (want_some rfl rfl rfl (congrArg (fun b => Value.bool (!b)) h44)) rfl rfl rfl rfl isAgg_27 sizeOf_27 b46 rfl ?_
      refine wl_call (want_some rfl rfl rfl (congrArg (fun b => Value.bool (!b)) h44)) (args := #[(.agg #[(.int .i64 x_c.Cur.N), (.slice a6 x_c.Cur.Key.length c7), (.int .i64 x_c.Cur.Seq), (.int .i64 x_c.Cur.Win.Top), (.slice a11 x_c.Cur.Win.Bits.length c12)])]) rfl rfl (by kernel_rfl) (C_impl_EpOk w3 (.agg #[(.int .i64 x_c.Cur.N), (.slice a6 x_c.Cur.Key.length c7), (.int .i64 x_c.Cur.Seq), (.int .i64 x_c.Cur.Win.Top), (.slice a11 x_c.Cur.Win.Bits.length c12)]) x_c.Cur (show R_27 w3 (.agg #[(.int .i64 x_c.Cur.N), (.slice a6 x_c.Cur.Key.length c7), (.int .i64 x_c.Cur.Seq), (.int .i64 x_c.Cur.Win.Top), (.slice a11 x_c.Cur.Win.Bits.length c12)]) x_c.Cur from ⟨_, _, _, _, rfl, (r8.from0 m43), s9, (r13.from0 m43), s14⟩)) ?_
      rintro _ w4 ⟨k47, rfl⟩
      have m48 := m43.extk k47
      refine wl_pure (.bool (!(F_impl_EpOk x_c.Cur))) (want_some rfl rfl rfl (congrArg (fun b => Value.bool (!b)) h44)) rfl rfl (by kernel_rfl) ?_
      refine wl_pick_f (.bool (!(F_impl_EpOk x_c.Cur))) (want_none rfl) rfl rfl rfl (congrArg (fun b => Value.bool (!b)) h44) rfl ?_
      refine wl_mv (.bool (!(F_impl_EpOk x_c.Cur))) (want_none rfl) rfl rfl (.inl rfl) rfl ?_
      rcases Bool.eq_false_or_eq_true (F_impl_EpOk x_c.Cur) with h49 | h49
      · have q50 := impl_EpOk_t h49
        have b51 := (b46.kp k47)
        refine wl_loadN [(.int .i64 x_c.Role), (.slice a1 x_c.Sn.length c2), (.int .i64 x_c.Cur.N), (.slice a6 x_c.Cur.Key.length c7), (.int .i64 x_c.Cur.Seq), (.int .i64 x_c.Cur.Win.Top), (.slice a11 x_c.Cur.Win.Bits.length c12), (.int .i64 x_c.Old.N), (.slice a16 x_c.Old.Key.length c17), (.int .i64 x_c.Old.Seq), (.int .i64 x_c.Old.Win.Top), (.slice a21 x_c.Old.Win.Bits.length c22), (.bool x_c.HasOld), (.int .i64 x_c.Until), (.slice a26 x_c.Next.length c27)] (want_some rfl rfl rfl (congrArg (fun b => Value.bool (!b)) h49)) rfl rfl rfl rfl isAgg_29 sizeOf_29 b51 rfl ?_
        refine wl_call (want_some rfl rfl rfl (congrArg (fun b => Value.bool (!b)) h49)) (args := #[(.agg #[(.int .i64 x_c.Role), (.slice a1 x_c.Sn.length c2), (.int .i64 x_c.Cur.N), (.slice a6 x_c.Cur.Key.length c7), (.int .i64 x_c.Cur.Seq), (.int .i64 x_c.Cur.Win.Top), (.slice a11 x_c.Cur.Win.Bits.length c12), (.int .i64 x_c.Old.N), (.slice a16 x_c.Old.Key.length c17), (.int .i64 x_c.Old.Seq), (.int .i64 x_c.Old.Win.Top), (.slice a21 x_c.Old.Win.Bits.length c22), (.bool x_c.HasOld), (.int .i64 x_c.Until), (.slice a26 x_c.Next.length c27)])]) rfl rfl (by kernel_rfl) (C_impl_oldOk w4 (.agg #[(.int .i64 x_c.Role), (.slice a1 x_c.Sn.length c2), (.int .i64 x_c.Cur.N), (.slice a6 x_c.Cur.Key.length c7), (.int .i64 x_c.Cur.Seq), (.int .i64 x_c.Cur.Win.Top), (.slice a11 x_c.Cur.Win.Bits.length c12), (.int .i64 x_c.Old.N), (.slice a16 x_c.Old.Key.length c17), (.int .i64 x_c.Old.Seq), (.int .i64 x_c.Old.Win.Top), (.slice a21 x_c.Old.Win.Bits.length c22), (.bool x_c.HasOld), (.int .i64 x_c.Until), (.slice a26 x_c.Next.length c27)]) x_c (show R_29 w4 (.agg #[(.int .i64 x_c.Role), (.slice a1 x_c.Sn.length c2), (.int .i64 x_c.Cur.N), (.slice a6 x_c.Cur.Key.length c7), (.int .i64 x_c.Cur.Seq), (.int .i64 x_c.Cur.Win.Top), (.slice a11 x_c.Cur.Win.Bits.length c12), (.int .i64 x_c.Old.N), (.slice a16 x_c.Old.Key.length c17), (.int .i64 x_c.Old.Seq), (.int .i64 x_c.Old.Win.Top), (.slice a21 x_c.Old.Win.Bits.length c22), (.bool x_c.HasOld), (.int .i64 x_c.Until), (.slice a26 x_c.Next.length c27)]) x_c from ⟨_, _, _, _, _, _, _, _, _, _, _, _, rfl, (r3.from0 m48), s4, (r8.from0 m48), s9, (r13.from0 m48), s14, (r18.from0 m48), s19, (r23.from0 m48), s24, (r28.from0 m48), s29⟩) (by omega) (by omega)) ?_
        rintro _ w5 ⟨k52, rfl⟩
        have m53 := m48.extk k52
        refine wl_pure (.bool (!(F_impl_oldOk x_c))) (want_some rfl rfl rfl (congrArg (fun b => Value.bool (!b)) h49)) rfl rfl (by kernel_rfl) ?_
        refine wl_pick_f (.bool (!(F_impl_oldOk x_c))) (want_none rfl) rfl rfl rfl (congrArg (fun b => Value.bool (!b)) h49) rfl ?_
        refine wl_nil ?_
        refine wq_then ?_
        rcases Bool.eq_false_or_eq_true (F_impl_oldOk x_c) with h54 | h54
        · skip
          refine wc_false (congrArg (fun b => Value.bool (!b)) h54) ?_
          refine wc_skip ?_
          refine wq_then ?_
          refine wc_seq ?_
          refine wc_region ?_
          refine wl_pure (.pointer (some ⟨g31, 14, none⟩)) (want_none rfl) rfl rfl (by kernel_rfl) ?_
          have b56 := (b51.kp k52)
          refine wl_load1 (.slice a26 x_c.Next.length c27) (want_none rfl) rfl rfl rfl rfl isAgg_22 b56 rfl ?_
          refine wl_len (want_none rfl) rfl rfl rfl slTy_22 rfl (r28.from0 m53) ?_
          refine wl_pure (.bool (decide ((x_c.Next.length : Int) = 0))) (want_none rfl) rfl rfl (by kernel_rfl) ?_
          refine wl_mv (.bool (decide ((x_c.Next.length : Int) = 0))) (want_none rfl) rfl rfl (.inl rfl) rfl ?_
          rcases Bool.eq_false_or_eq_true (decide ((x_c.Next.length : Int) = 0)) with h57 | h57
          · have q58 := of_decide_eq_true h57
            refine wl_skip rfl rfl rfl (congrArg Value.bool h57) rfl rfl rfl ?_
            refine wl_skip rfl rfl rfl (congrArg Value.bool h57) rfl rfl rfl ?_
            refine wl_skip rfl rfl rfl (congrArg Value.bool h57) rfl rfl rfl ?_
            refine wl_skip rfl rfl rfl (congrArg Value.bool h57) rfl rfl rfl ?_
            refine wl_skipu rfl rfl rfl rfl rfl ?_
            refine wl_skipu rfl rfl rfl rfl rfl ?_
            refine wl_skipu rfl rfl rfl rfl rfl ?_
            refine wl_skipu rfl rfl rfl rfl rfl ?_
            refine wl_skip rfl rfl rfl (congrArg Value.bool h57) rfl rfl rfl ?_
            refine wl_skip rfl rfl rfl (congrArg Value.bool h57) rfl rfl rfl ?_
            refine wl_skipu rfl rfl rfl rfl rfl ?_
            refine wl_skipu rfl rfl rfl rfl rfl ?_
            refine wl_skipu rfl rfl rfl rfl rfl ?_
            refine wl_skipu rfl rfl rfl rfl rfl ?_
            refine wl_skip rfl rfl rfl (congrArg Value.bool h57) rfl rfl rfl ?_
            refine wl_pick_t (.bool true) (want_none rfl) rfl rfl rfl (congrArg Value.bool h57) rfl ?_
            refine wl_mv (.bool true) (want_none rfl) rfl rfl (.inr rfl) rfl ?_
            refine wl_nil ?_
            refine wq_then ?_
            refine wc_ret ?_
            refine ret_1 (.inl rfl) (.bool true) rfl rfl ?_
            refine ⟨m53.keep0, ?_⟩
            have hF59 : F_impl_ChanOk x_c = true := by simp only [F_impl_ChanOk, h39, h44, h49, h54, h57, cond_true, cond_false]
            rw [hF59]
            exact rfl
          · have q60 := of_decide_eq_false h57
            refine wl_pure (.pointer (some ⟨g31, 0, none⟩)) (want_some rfl rfl rfl (congrArg Value.bool h57)) rfl rfl (by kernel_rfl) ?_
            refine wl_load1 (.int .i64 x_c.Role) (want_some rfl rfl rfl (congrArg Value.bool h57)) rfl rfl rfl rfl isAgg_3 b56 rfl ?_
            refine wl_pure (.bool (decide (x_c.Role = 0))) (want_some rfl rfl rfl (congrArg Value.bool h57)) rfl rfl (by kernel_rfl) ?_
            refine wl_mv (.bool (decide (x_c.Role = 0))) (want_some rfl rfl rfl (congrArg Value.bool h57)) rfl rfl (.inl rfl) rfl ?_
            rcases Bool.eq_false_or_eq_true (decide (x_c.Role = 0)) with h61 | h61
            · have q62 := of_decide_eq_true h61
              refine wl_pure (.pointer (some ⟨g31, 14, none⟩)) (want_some rfl rfl rfl (congrArg Value.bool h61)) rfl rfl (by kernel_rfl) ?_
              refine wl_load1 (.slice a26 x_c.Next.length c27) (want_some rfl rfl rfl (congrArg Value.bool h61)) rfl rfl rfl rfl isAgg_22 b56 rfl ?_
              refine wl_len (want_some rfl rfl rfl (congrArg Value.bool h61)) rfl rfl rfl slTy_22 rfl (r28.from0 m53) ?_
              refine wl_pure (.bool (decide ((x_c.Next.length : Int) = 32))) (want_some rfl rfl rfl (congrArg Value.bool h61)) rfl rfl (by kernel_rfl) ?_
              refine wl_pick_t (.bool (decide ((x_c.Next.length : Int) = 32))) (want_some rfl rfl rfl (congrArg Value.bool h57)) rfl rfl rfl (congrArg Value.bool h61) rfl ?_
              refine wl_mv (.bool (decide ((x_c.Next.length : Int) = 32))) (want_some rfl rfl rfl (congrArg Value.bool h57)) rfl rfl (.inl rfl) rfl ?_
              rcases Bool.eq_false_or_eq_true (decide ((x_c.Next.length : Int) = 32)) with h63 | h63
              · have q64 := of_decide_eq_true h63
                refine wl_pure (.pointer (some ⟨g31, 2, none⟩)) (want_some rfl rfl rfl (congrArg Value.bool h63)) rfl rfl (by kernel_rfl) ?_
                refine wl_pure (.pointer (some ⟨g31, 2, none⟩)) (want_some rfl rfl rfl (congrArg Value.bool h63)) rfl rfl (by kernel_rfl) ?_
                refine wl_load1 (.int .i64 x_c.Cur.N) (want_some rfl rfl rfl (congrArg Value.bool h63)) rfl rfl rfl rfl isAgg_3 b56 rfl ?_
                refine wl_pure (.bool (decide (x_c.Cur.N < 4294967295))) (want_some rfl rfl rfl (congrArg Value.bool h63)) rfl rfl (by kernel_rfl) ?_
                refine wl_pick_t (.bool (decide (x_c.Cur.N < 4294967295))) (want_some rfl rfl rfl (congrArg Value.bool h57)) rfl rfl rfl (congrArg Value.bool h63) rfl ?_
                refine wl_pick_f (.bool (decide (x_c.Cur.N < 4294967295))) (want_none rfl) rfl rfl rfl (congrArg Value.bool h57) rfl ?_
                refine wl_mv (.bool (decide (x_c.Cur.N < 4294967295))) (want_none rfl) rfl rfl (.inr rfl) rfl ?_
                refine wl_nil ?_
                refine wq_then ?_
                refine wc_ret ?_
                refine ret_1 (.inl rfl) (.bool (decide (x_c.Cur.N < 4294967295))) rfl rfl ?_
                refine ⟨m53.keep0, ?_⟩
                have hF65 : F_impl_ChanOk x_c = decide (x_c.Cur.N < 4294967295) := by simp only [F_impl_ChanOk, h39, h44, h49, h54, h57, h61, h63, cond_true, cond_false]
                rw [hF65]
                exact rfl
              · have q66 := of_decide_eq_false h63
                refine wl_skip rfl rfl rfl (congrArg Value.bool h63) rfl rfl rfl ?_
                refine wl_skip rfl rfl rfl (congrArg Value.bool h63) rfl rfl rfl ?_
                refine wl_skip rfl rfl rfl (congrArg Value.bool h63) rfl rfl rfl ?_
                refine wl_skip rfl rfl rfl (congrArg Value.bool h63) rfl rfl rfl ?_
                refine wl_pick_f (.bool false) (want_some rfl rfl rfl (congrArg Value.bool h57)) rfl rfl rfl (congrArg Value.bool h63) rfl ?_
                refine wl_pick_f (.bool false) (want_none rfl) rfl rfl rfl (congrArg Value.bool h57) rfl ?_
                refine wl_mv (.bool false) (want_none rfl) rfl rfl (.inr rfl) rfl ?_
                refine wl_nil ?_
                refine wq_then ?_
                refine wc_ret ?_
                refine ret_1 (.inl rfl) (.bool false) rfl rfl ?_
                refine ⟨m53.keep0, ?_⟩
                have hF67 : F_impl_ChanOk x_c = false := by simp only [F_impl_ChanOk, h39, h44, h49, h54, h57, h61, h63, cond_true, cond_false]
                rw [hF67]
                exact rfl
            · have q68 := of_decide_eq_false h61
              refine wl_skip rfl rfl rfl (congrArg Value.bool h61) rfl rfl rfl ?_
              refine wl_skip rfl rfl rfl (congrArg Value.bool h61) rfl rfl rfl ?_
              refine wl_skip rfl rfl rfl (congrArg Value.bool h61) rfl rfl rfl ?_
              refine wl_skip rfl rfl rfl (congrArg Value.bool h61) rfl rfl rfl ?_
              refine wl_pick_f (.bool false) (want_some rfl rfl rfl (congrArg Value.bool h57)) rfl rfl rfl (congrArg Value.bool h61) rfl ?_
              refine wl_mv (.bool false) (want_some rfl rfl rfl (congrArg Value.bool h57)) rfl rfl (.inl rfl) rfl ?_
              refine wl_skip rfl rfl rfl rfl rfl rfl rfl ?_
              refine wl_skip rfl rfl rfl rfl rfl rfl rfl ?_
              refine wl_skip rfl rfl rfl rfl rfl rfl rfl ?_
              refine wl_skip rfl rfl rfl rfl rfl rfl rfl ?_
              refine wl_pick_f (.bool false) (want_some rfl rfl rfl (congrArg Value.bool h57)) rfl rfl rfl rfl rfl ?_
              refine wl_pick_f (.bool false) (want_none rfl) rfl rfl rfl (congrArg Value.bool h57) rfl ?_
              refine wl_mv (.bool false) (want_none rfl) rfl rfl (.inr rfl) rfl ?_
              refine wl_nil ?_
              refine wq_then ?_
              refine wc_ret ?_
              refine ret_1 (.inl rfl) (.bool false) rfl rfl ?_
              refine ⟨m53.keep0, ?_⟩
              have hF69 : F_impl_ChanOk x_c = false := by simp only [F_impl_ChanOk, h39, h44, h49, h54, h57, h61, cond_true, cond_false]
              rw [hF69]
              exact rfl
        · skip
          refine wc_true (congrArg (fun b => Value.bool (!b)) h54) ?_
          refine wc_seq ?_
          refine wc_region ?_
          refine wl_mv (.bool false) (want_none rfl) rfl rfl (.inr rfl) rfl ?_
          refine wl_nil ?_
          refine wq_then ?_
          refine wc_ret ?_
          refine wq_then_ret ?_
          refine ret_1 (.inl rfl) (.bool false) rfl rfl ?_
          refine ⟨m53.keep0, ?_⟩
          have hF71 : F_impl_ChanOk x_c = false := by simp only [F_impl_ChanOk, h39, h44, h49, h54, cond_true, cond_false]
          rw [hF71]
          exact rfl
      · skip
        refine wl_skip rfl rfl rfl (congrArg (fun b => Value.bool (!b)) h49) rfl rfl rfl ?_
        refine wl_skip rfl rfl rfl (congrArg (fun b => Value.bool (!b)) h49) rfl rfl rfl ?_
        refine wl_skip rfl rfl rfl (congrArg (fun b => Value.bool (!b)) h49) rfl rfl rfl ?_
        refine wl_pick_t (.bool true) (want_none rfl) rfl rfl rfl (congrArg (fun b => Value.bool (!b)) h49) rfl ?_
        refine wl_nil ?_
        refine wq_then ?_
        refine wc_true rfl ?_
        refine wc_seq ?_
        refine wc_region ?_
        refine wl_mv (.bool false) (want_none rfl) rfl rfl (.inr rfl) rfl ?_
        refine wl_nil ?_
        refine wq_then ?_
        refine wc_ret ?_
        refine wq_then_ret ?_
        refine ret_1 (.inl rfl) (.bool false) rfl rfl ?_
        refine ⟨m48.keep0, ?_⟩
        have hF73 : F_impl_ChanOk x_c = false := by simp only [F_impl_ChanOk, h39, h44, h49, cond_true, cond_false]
        rw [hF73]
        exact rfl
    · skip
      refine wl_skip rfl rfl rfl (congrArg (fun b => Value.bool (!b)) h44) rfl rfl rfl ?_
      refine wl_skip rfl rfl rfl (congrArg (fun b => Value.bool (!b)) h44) rfl rfl rfl ?_
      refine wl_skip rfl rfl rfl (congrArg (fun b => Value.bool (!b)) h44) rfl rfl rfl ?_
      refine wl_skip rfl rfl rfl (congrArg (fun b => Value.bool (!b)) h44) rfl rfl rfl ?_
      refine wl_pick_t (.bool true) (want_none rfl) rfl rfl rfl (congrArg (fun b => Value.bool (!b)) h44) rfl ?_
      refine wl_mv (.bool true) (want_none rfl) rfl rfl (.inl rfl) rfl ?_
      refine wl_skip rfl rfl rfl rfl rfl rfl rfl ?_
      refine wl_skip rfl rfl rfl rfl rfl rfl rfl ?_
      refine wl_skip rfl rfl rfl rfl rfl rfl rfl ?_
      refine wl_pick_t (.bool true) (want_none rfl) rfl rfl rfl rfl rfl ?_
      refine wl_nil ?_
      refine wq_then ?_
      refine wc_true rfl ?_
      refine wc_seq ?_
      refine wc_region ?_
      refine wl_mv (.bool false) (want_none rfl) rfl rfl (.inr rfl) rfl ?_
      refine wl_nil ?_
      refine wq_then ?_
      refine wc_ret ?_
      refine wq_then_ret ?_
      refine ret_1 (.inl rfl) (.bool false) rfl rfl ?_
      refine ⟨m43.keep0, ?_⟩
      have hF75 : F_impl_ChanOk x_c = false := by simp only [F_impl_ChanOk, h39, h44, cond_true, cond_false]
      rw [hF75]
      exact rfl
  · skip
    refine wl_skip rfl rfl rfl (congrArg (fun b => Value.bool (!b)) h39) rfl rfl rfl ?_
    refine wl_skip rfl rfl rfl (congrArg (fun b => Value.bool (!b)) h39) rfl rfl rfl ?_
    refine wl_skip rfl rfl rfl (congrArg (fun b => Value.bool (!b)) h39) rfl rfl rfl ?_
    refine wl_skip rfl rfl rfl (congrArg (fun b => Value.bool (!b)) h39) rfl rfl rfl ?_
    refine wl_pick_t (.bool true) (want_none rfl) rfl rfl rfl (congrArg (fun b => Value.bool (!b)) h39) rfl ?_
    refine wl_mv (.bool true) (want_none rfl) rfl rfl (.inl rfl) rfl ?_
    refine wl_skip rfl rfl rfl rfl rfl rfl rfl ?_
    refine wl_skip rfl rfl rfl rfl rfl rfl rfl ?_
    refine wl_skip rfl rfl rfl rfl rfl rfl rfl ?_
    refine wl_skip rfl rfl rfl rfl rfl rfl rfl ?_
    refine wl_pick_t (.bool true) (want_none rfl) rfl rfl rfl rfl rfl ?_
    refine wl_mv (.bool true) (want_none rfl) rfl rfl (.inl rfl) rfl ?_
    refine wl_skip rfl rfl rfl rfl rfl rfl rfl ?_
    refine wl_skip rfl rfl rfl rfl rfl rfl rfl ?_
    refine wl_skip rfl rfl rfl rfl rfl rfl rfl ?_
    refine wl_pick_t (.bool true) (want_none rfl) rfl rfl rfl rfl rfl ?_
    refine wl_nil ?_
    refine wq_then ?_
    refine wc_true rfl ?_
    refine wc_seq ?_
    refine wc_region ?_
    refine wl_mv (.bool false) (want_none rfl) rfl rfl (.inr rfl) rfl ?_
    refine wl_nil ?_
    refine wq_then ?_
    refine wc_ret ?_
    refine wq_then_ret ?_
    refine ret_1 (.inl rfl) (.bool false) rfl rfl ?_
    refine ⟨m38.keep0, ?_⟩
    have hF77 : F_impl_ChanOk x_c = false := by simp only [F_impl_ChanOk, h39, cond_true, cond_false]
    rw [hF77]
    exact rfl
theorem impl_ChanOk_t {c : PChan} (h : F_impl_ChanOk c = true) : 0 ≤ c.Cur.N ∧ c.Cur.N ≤ 4294967295 := by
  cases h1 : F_impl_EpOk c.Cur with
  | false => simp [F_impl_ChanOk, h1] at h
  | true => exact ⟨(impl_EpOk_t h1).1, (impl_EpOk_t h1).2.1⟩

theorem mixed : Try.prog.follows .mixedOrders = true := by kernel_rfl
theorem C_laws_eqByteS (w0 : World) (v_x_a : Value) (x_a : List UInt8) (r_x_a : R_22 w0 v_x_a x_a) (v_x_b : Value) (x_b : List UInt8) (r_x_b : R_22 w0 v_x_b x_b)  : Fn Try.prog 19 #[v_x_a, v_x_b] w0 (fun v w' => Keep w0 w' ∧ O_4 w' w0.heap.size v (eqB x_a x_b)) := by
  obtain ⟨a1, c2, rfl, r3, s4⟩ := r_x_a
  obtain ⟨a6, c7, rfl, r8, s9⟩ := r_x_b
  refine fn_of (n := 26) (l := [(.slice a1 x_a.length c2), (.slice a6 x_b.length c7), undef, undef, undef, undef, undef, undef, undef, undef, undef, undef, undef, undef, undef, undef, undef, undef, undef, undef, undef, undef, undef, undef, undef, undef]) Try.func19 rfl rfl (by kernel_rfl) rfl ?_
  refine wc_seq ?_
  refine wc_region ?_
  refine wl_mv (.bool false) (want_none rfl) rfl rfl (.inr rfl) rfl ?_
  refine wl_nil ?_
  refine wq_then ?_
  refine wc_seq ?_
  refine wc_seq ?_
  refine wc_region ?_
  refine wl_mv (.slice a1 x_a.length c2) (want_none rfl) rfl rfl (.inl rfl) rfl ?_
  refine wl_len (want_none rfl) rfl rfl rfl slTy_22 rfl r3 ?_
  refine wl_mv (.slice a6 x_b.length c7) (want_none rfl) rfl rfl (.inl rfl) rfl ?_
  refine wl_len (want_none rfl) rfl rfl rfl slTy_22 rfl r8 ?_
  refine wl_pure (.bool (!(decide ((x_a.length : Int) = (x_b.length : Int))))) (want_none rfl) rfl rfl (by kernel_rfl) ?_
  refine wl_nil ?_
  refine wq_then ?_
  rcases Bool.eq_false_or_eq_true (decide ((x_a.length : Int) = (x_b.length : Int))) with h11 | h11
  · have q12 := of_decide_eq_true h11
    refine wc_false (congrArg (fun b => Value.bool (!b)) h11) ?_
    refine wc_skip ?_
    refine wq_then ?_
    refine wc_seq ?_
    refine wc_seq ?_
    refine wc_region ?_
    refine wl_mv (.int .i64 0) (want_none rfl) rfl rfl (.inr rfl) rfl ?_
    refine wl_nil ?_
    refine wq_then ?_
    refine wc_block ?_
    refine wc_norm [(.slice a1 x_a.length c2), (.slice a6 x_b.length c7), undef, undef, (.bool false), (.int .i64 0), (.slice a1 x_a.length c2), (.int .i64 (x_a.length : Int)), (.slice a6 x_b.length c7), (.int .i64 (x_b.length : Int)), (.bool (!(decide ((x_a.length : Int) = (x_b.length : Int))))), undef, undef, undef, undef, undef, undef, undef, undef, undef, undef, undef, undef, undef, undef, undef] rfl ⟨rfl, rfl, rfl, rfl, rfl, rfl, rfl, rfl, rfl, rfl, rfl, rfl, rfl, rfl, rfl, rfl, rfl, rfl, rfl, rfl, rfl, rfl, rfl, rfl, rfl, rfl, trivial⟩ ?_
    refine wc_loop (fun e' w' => ∃ (k : Nat) (u4x u11x u12x u13x u14x u15x u16x u17x u18x u19x u20x u21x u22x u23x u24x u25x : Value), e' = lst [(.slice a1 x_a.length c2), (.slice a6 x_b.length c7), undef, undef, u4x, (.int .i64 ((k : Nat) : Int)), (.slice a1 x_a.length c2), (.int .i64 (x_a.length : Int)), (.slice a6 x_b.length c7), (.int .i64 (x_b.length : Int)), (.bool (!(decide ((x_a.length : Int) = (x_b.length : Int))))), u11x, u12x, u13x, u14x, u15x, u16x, u17x, u18x, u19x, u20x, u21x, u22x, u23x, u24x, u25x] ∧ Ch (fun k => w0.heap.size ≤ k) w0 w' ∧ Ch (fun k => w0.heap.size ≤ k) w0 w' ∧ k ≤ x_a.length ∧ x_a.take k = x_b.take k) (fun e' _ => x_a.length - ((intOf (e' 5))).toNat) ?_ ?_
    · exact ⟨0, (.bool false), undef, undef, undef, undef, undef, undef, undef, undef, undef, undef, undef, undef, undef, undef, undef, (congrArg (fun (x5z : Value) => lst [(.slice a1 x_a.length c2), (.slice a6 x_b.length c7), undef, undef, (.bool false), x5z, (.slice a1 x_a.length c2), (.int .i64 (x_a.length : Int)), (.slice a6 x_b.length c7), (.int .i64 (x_b.length : Int)), (.bool (!(decide ((x_a.length : Int) = (x_b.length : Int))))), undef, undef, undef, undef, undef, undef, undef, undef, undef, undef, undef, undef, undef, undef, undef]) (congrArg (Value.int .i64) (show (0 : Int) = ((0 : Nat) : Int) by omega))), (Ch.base w0), (Ch.refl (fun k => w0.heap.size ≤ k) w0), (by omega), (by first | rfl | exact eqB_next (by assumption) (by omega) (by omega) (by assumption))⟩
    · rintro _ w1 ⟨k, u4x, u11x, u12x, u13x, u14x, u15x, u16x, u17x, u18x, u19x, u20x, u21x, u22x, u23x, u24x, u25x, rfl, m13, k14, i15, i16⟩
      refine wc_seq ?_
      refine wc_seq ?_
      refine wc_region ?_
      refine wl_mv (.int .i64 ((k : Nat) : Int)) (want_none rfl) rfl rfl (.inl rfl) rfl ?_
      refine wl_mv (.slice a1 x_a.length c2) (want_none rfl) rfl rfl (.inl rfl) rfl ?_
      refine wl_len (want_none rfl) rfl rfl rfl slTy_22 rfl (r3.from0 m13) ?_
      refine wl_pure (.bool (decide (((k : Nat) : Int) < (x_a.length : Int)))) (want_none rfl) rfl rfl (by kernel_rfl) ?_
      refine wl_nil ?_
      refine wq_then ?_
      rcases Bool.eq_false_or_eq_true (decide (((k : Nat) : Int) < (x_a.length : Int))) with h17 | h17
      · have q18 := of_decide_eq_true h17
        refine wc_true (congrArg Value.bool h17) ?_
        refine wc_skip ?_
        refine wq_then ?_
        refine wc_seq ?_
        refine wc_block ?_
        refine wc_seq ?_
        refine wc_draw ([(17, [], [], (fun _ v _ => v = (.slice a1 x_a.length c2))), (18, [], [], (fun _ v _ => v = (.int .i64 ((k : Nat) : Int)))), (19, [], [0, 1], (fun _ v _ => v = (.pointer (some (elA (.slice a1 x_a.length c2) ((((k : Nat) : Int)).toNat * 1)))))), (20, [], [0, 1, 2], (fun _ v _ => v = (.int .u8 ((x_a.getD k 0).toNat : Int)))), (21, [], [], (fun _ v _ => v = (.slice a6 x_b.length c7))), (22, [], [], (fun _ v _ => v = (.int .i64 ((k : Nat) : Int)))), (23, [], [4, 5], (fun _ v _ => v = (.pointer (some (elA (.slice a6 x_b.length c7) ((((k : Nat) : Int)).toNat * 1)))))), (24, [], [4, 5, 6], (fun _ v _ => v = (.int .u8 ((x_b.getD k 0).toNat : Int)))), (25, [], [0, 1, 2, 3, 4, 5, 6, 7], (fun _ v _ => v = (.bool (!(decide (((x_a.getD k 0).toNat : Int) = ((x_b.getD k 0).toNat : Int)))))))] : GV) mixed rfl (by kernel_rfl) (by kernel_rfl) ?_ ?_ ?_
        · exact ⟨(fun _ _ _ _ h _ => h), (fun _ _ _ _ _ h => h), ⟨(fun _ _ _ _ h _ => h), (fun _ _ _ _ _ h => h), ⟨(fun _ _ _ _ h _ => h), (fun _ _ _ _ _ h => h), ⟨(fun _ _ _ _ h _ => h), (fun _ _ _ _ _ h => h), ⟨(fun _ _ _ _ h _ => h), (fun _ _ _ _ _ h => h), ⟨(fun _ _ _ _ h _ => h), (fun _ _ _ _ _ h => h), ⟨(fun _ _ _ _ h _ => h), (fun _ _ _ _ _ h => h), ⟨(fun _ _ _ _ h _ => h), (fun _ _ _ _ _ h => h), ⟨(fun _ _ _ _ h _ => h), (fun _ _ _ _ _ h => h), trivial⟩⟩⟩⟩⟩⟩⟩⟩⟩
        · refine ⟨?_, ⟨?_, ⟨?_, ⟨?_, ⟨?_, ⟨?_, ⟨?_, ⟨?_, ⟨?_, trivial⟩⟩⟩⟩⟩⟩⟩⟩⟩
          · intro w2 k19
            have m20 := m13.extk k19
            intro u21
            intro u22
            intro u23
            intro u24
            intro u25
            intro u26
            intro u27
            intro u28
            intro u29
            show WL _ _ _ _ _ _ _
            refine wl_mv (.slice a1 x_a.length c2) (want_none rfl) rfl rfl (.inl rfl) rfl ?_
            exact wl_fin (Ch.refl _ _) rfl
          · intro w2 k30
            have m31 := m13.extk k30
            intro u32
            intro u33
            intro u34
            intro u35
            intro u36
            intro u37
            intro u38
            intro u39
            intro u40
            show WL _ _ _ _ _ _ _
            refine wl_mv (.int .i64 ((k : Nat) : Int)) (want_none rfl) rfl rfl (.inl rfl) rfl ?_
            exact wl_fin (Ch.refl _ _) rfl
          · intro w2 k41
            have m42 := m13.extk k41
            rintro _ rfl
            rintro _ rfl
            intro u43
            intro u44
            intro u45
            intro u46
            intro u47
            intro u48
            intro u49
            show WL _ _ _ _ _ _ _
            refine wl_index (want_none rfl) ((k : Nat) : Int) rfl rfl rfl slTy_22 rfl rfl (r3.from0 m42) (by first | omega | (simp only [List.length_cons, List.length_nil, List.length_replicate, List.length_append, List.length_take, List.length_set, List.length_map]; omega)) (by first | omega | (simp only [List.length_cons, List.length_nil, List.length_replicate, List.length_append, List.length_take, List.length_set, List.length_map]; omega)) ?_
            exact wl_fin (Ch.refl _ _) rfl
          · intro w2 k50
            have m51 := m13.extk k50
            rintro _ rfl
            rintro _ rfl
            rintro _ rfl
            intro u52
            intro u53
            intro u54
            intro u55
            intro u56
            intro u57
            show WL _ _ _ _ _ _ _
            refine wl_loadE (bV (x_a.getD k 0)) (want_none rfl) rfl rfl rfl rfl isAgg_5 (r3.from0 m51) (bget (by simp) (by first | omega | (simp only [List.length_cons, List.length_nil, List.length_replicate, List.length_append, List.length_take, List.length_set, List.length_map]; omega))) ?_
            exact wl_fin (Ch.refl _ _) rfl
          · intro w2 k58
            have m59 := m13.extk k58
            intro u60
            intro u61
            intro u62
            intro u63
            intro u64
            intro u65
            intro u66
            intro u67
            intro u68
            show WL _ _ _ _ _ _ _
            refine wl_mv (.slice a6 x_b.length c7) (want_none rfl) rfl rfl (.inl rfl) rfl ?_
            exact wl_fin (Ch.refl _ _) rfl
          · intro w2 k69
            have m70 := m13.extk k69
            intro u71
            intro u72
            intro u73
            intro u74
            intro u75
            intro u76
            intro u77
            intro u78
            intro u79
            show WL _ _ _ _ _ _ _
            refine wl_mv (.int .i64 ((k : Nat) : Int)) (want_none rfl) rfl rfl (.inl rfl) rfl ?_
            exact wl_fin (Ch.refl _ _) rfl
          · intro w2 k80
            have m81 := m13.extk k80
            intro u82
            intro u83
            intro u84
            intro u85
            rintro _ rfl
            rintro _ rfl
            intro u86
            intro u87
            intro u88
            show WL _ _ _ _ _ _ _
            refine wl_index (want_none rfl) ((k : Nat) : Int) rfl rfl rfl slTy_22 rfl rfl (r8.from0 m81) (by first | omega | (simp only [List.length_cons, List.length_nil, List.length_replicate, List.length_append, List.length_take, List.length_set, List.length_map]; omega)) (by first | omega | (simp only [List.length_cons, List.length_nil, List.length_replicate, List.length_append, List.length_take, List.length_set, List.length_map]; omega)) ?_
            exact wl_fin (Ch.refl _ _) rfl
          · intro w2 k89
            have m90 := m13.extk k89
            intro u91
            intro u92
            intro u93
            intro u94
            rintro _ rfl
            rintro _ rfl
            rintro _ rfl
            intro u95
            intro u96
            show WL _ _ _ _ _ _ _
            refine wl_loadE (bV (x_b.getD k 0)) (want_none rfl) rfl rfl rfl rfl isAgg_5 (r8.from0 m90) (bget (by simp) (by first | omega | (simp only [List.length_cons, List.length_nil, List.length_replicate, List.length_append, List.length_take, List.length_set, List.length_map]; omega))) ?_
            exact wl_fin (Ch.refl _ _) rfl
          · intro w2 k97
            have m98 := m13.extk k97
            rintro _ rfl
            rintro _ rfl
            rintro _ rfl
            rintro _ rfl
            rintro _ rfl
            rintro _ rfl
            rintro _ rfl
            rintro _ rfl
            intro u99
            show WL _ _ _ _ _ _ _
            refine wl_pure (.bool (!(decide (((x_a.getD k 0).toNat : Int) = ((x_b.getD k 0).toNat : Int))))) (want_none rfl) rfl rfl (by kernel_rfl) ?_
            exact wl_fin (Ch.refl _ _) rfl
        · intro w2 k100
          have m101 := m13.extk k100
          rintro _ rfl
          rintro _ rfl
          rintro _ rfl
          rintro _ rfl
          rintro _ rfl
          rintro _ rfl
          rintro _ rfl
          rintro _ rfl
          rintro _ rfl
          show WL _ _ _ _ _ _ _
          refine wl_nil ?_
          refine wq_then ?_
          rcases Bool.eq_false_or_eq_true (decide (((x_a.getD k 0).toNat : Int) = ((x_b.getD k 0).toNat : Int))) with h102 | h102
          · have q103 := of_decide_eq_true h102
            refine wc_false (congrArg (fun b => Value.bool (!b)) h102) ?_
            refine wc_skip ?_
            refine wq_blk_normal ?_
            refine wq_then ?_
            refine wc_region ?_
            refine wl_mv (.int .i64 ((k : Nat) : Int)) (want_none rfl) rfl rfl (.inl rfl) rfl ?_
            refine wl_arith (((k : Nat) : Int) + 1) (want_none rfl) rfl rfl (by kernel_rfl) (by omega) (by omega) ?_
            refine wl_mv (.int .i64 (((k : Nat) : Int) + 1)) (want_none rfl) rfl rfl (.inr rfl) rfl ?_
            refine wl_nil ?_
            exact wq_loopN (w0 := w1) [(.slice a1 x_a.length c2), (.slice a6 x_b.length c7), undef, undef, u4x, (.int .i64 (((k + 1) : Nat) : Int)), (.slice a1 x_a.length c2), (.int .i64 (x_a.length : Int)), (.slice a6 x_b.length c7), (.int .i64 (x_b.length : Int)), (.bool (!(decide ((x_a.length : Int) = (x_b.length : Int))))), (.int .i64 ((k : Nat) : Int)), (.slice a1 x_a.length c2), (.int .i64 (x_a.length : Int)), (.bool (decide (((k : Nat) : Int) < (x_a.length : Int)))), (.int .i64 ((k : Nat) : Int)), (.int .i64 (((k : Nat) : Int) + 1)), (.slice a1 x_a.length c2), (.int .i64 ((k : Nat) : Int)), (.pointer (some (elA (.slice a1 x_a.length c2) ((((k : Nat) : Int)).toNat * 1)))), (.int .u8 ((x_a.getD k 0).toNat : Int)), (.slice a6 x_b.length c7), (.int .i64 ((k : Nat) : Int)), (.pointer (some (elA (.slice a6 x_b.length c7) ((((k : Nat) : Int)).toNat * 1)))), (.int .u8 ((x_b.getD k 0).toNat : Int)), (.bool (!(decide (((x_a.getD k 0).toNat : Int) = ((x_b.getD k 0).toNat : Int)))))] rfl ⟨rfl, rfl, rfl, rfl, rfl, (congrArg (Value.int .i64) (show ((((k : Nat) : Int) + 1) : Int) = (((k + 1) : Nat) : Int) by omega)), rfl, rfl, rfl, rfl, rfl, rfl, rfl, rfl, rfl, rfl, rfl, rfl, rfl, rfl, rfl, rfl, rfl, rfl, rfl, rfl, trivial⟩ ⟨(k + 1), u4x, (.int .i64 ((k : Nat) : Int)), (.slice a1 x_a.length c2), (.int .i64 (x_a.length : Int)), (.bool (decide (((k : Nat) : Int) < (x_a.length : Int)))), (.int .i64 ((k : Nat) : Int)), (.int .i64 (((k : Nat) : Int) + 1)), (.slice a1 x_a.length c2), (.int .i64 ((k : Nat) : Int)), (.pointer (some (elA (.slice a1 x_a.length c2) ((((k : Nat) : Int)).toNat * 1)))), (.int .u8 ((x_a.getD k 0).toNat : Int)), (.slice a6 x_b.length c7), (.int .i64 ((k : Nat) : Int)), (.pointer (some (elA (.slice a6 x_b.length c7) ((((k : Nat) : Int)).toNat * 1)))), (.int .u8 ((x_b.getD k 0).toNat : Int)), (.bool (!(decide (((x_a.getD k 0).toNat : Int) = ((x_b.getD k 0).toNat : Int))))), rfl, m101, (((Ch.refl (fun k => w0.heap.size ≤ k) w0).ext k14 (fun k hk => Nat.le_trans (Nat.le_refl _) hk)).extk k100), (by omega), (by first | rfl | exact eqB_next (by assumption) (by omega) (by omega) (by assumption))⟩ (by show x_a.length - ((((k + 1) : Nat) : Int)).toNat < x_a.length - (((k : Nat) : Int)).toNat; omega)
          · have q104 := of_decide_eq_false h102
            refine wc_true (congrArg (fun b => Value.bool (!b)) h102) ?_
            refine wc_seq ?_
            refine wc_region ?_
            refine wl_mv (.bool false) (want_none rfl) rfl rfl (.inr rfl) rfl ?_
            refine wl_nil ?_
            refine wq_then ?_
            refine wc_ret ?_
            refine wq_blk_ret ?_
            refine wq_then_ret ?_
            refine wq_then_ret ?_
            refine wq_blk_ret ?_
            refine wq_then_ret ?_
            refine ret_1 (.inl rfl) (.bool false) rfl rfl ?_
            refine ⟨m101.keep0, ?_⟩
            have hF105 : eqB x_a x_b = false := by first | exact eqB_len (by assumption) | exact eqB_el (by assumption) | exact eqB_all (by assumption) (by omega) (by omega)
            rw [hF105]
            exact rfl
      · have q106 := of_decide_eq_false h17
        refine wc_false (congrArg Value.bool h17) ?_
        refine wc_exit ?_
        refine wq_then_exit ?_
        refine wq_then_exit ?_
        refine wq_blk_exit ?_
        refine wq_then ?_
        refine wc_seq ?_
        refine wc_region ?_
        refine wl_mv (.bool true) (want_none rfl) rfl rfl (.inr rfl) rfl ?_
        refine wl_nil ?_
        refine wq_then ?_
        refine wc_ret ?_
        refine ret_1 (.inl rfl) (.bool true) rfl rfl ?_
        refine ⟨m13.keep0, ?_⟩
        have hF107 : eqB x_a x_b = true := by first | exact eqB_len (by assumption) | exact eqB_el (by assumption) | exact eqB_all (by assumption) (by omega) (by omega)
        rw [hF107]
        exact rfl
  · have q108 := of_decide_eq_false h11
    refine wc_true (congrArg (fun b => Value.bool (!b)) h11) ?_
    refine wc_seq ?_
    refine wc_region ?_
    refine wl_mv (.bool false) (want_none rfl) rfl rfl (.inr rfl) rfl ?_
    refine wl_nil ?_
    refine wq_then ?_
    refine wc_ret ?_
    refine wq_then_ret ?_
    refine ret_1 (.inl rfl) (.bool false) rfl rfl ?_
    refine ⟨Ch.refl _ _, ?_⟩
    have hF109 : eqB x_a x_b = false := by first | exact eqB_len (by assumption) | exact eqB_el (by assumption) | exact eqB_all (by assumption) (by omega) (by omega)
    rw [hF109]
    exact rfl

theorem C_laws_eqIntS (w0 : World) (v_x_a : Value) (x_a : List Int) (r_x_a : R_23 w0 v_x_a x_a) (v_x_b : Value) (x_b : List Int) (r_x_b : R_23 w0 v_x_b x_b)  : Fn Try.prog 119 #[v_x_a, v_x_b] w0 (fun v w' => Keep w0 w' ∧ O_4 w' w0.heap.size v (eqI x_a x_b)) := by
  obtain ⟨a1, c2, rfl, r3, s4⟩ := r_x_a
  obtain ⟨a6, c7, rfl, r8, s9⟩ := r_x_b
  refine fn_of (n := 26) (l := [(.slice a1 x_a.length c2), (.slice a6 x_b.length c7), undef, undef, undef, undef, undef, undef, undef, undef, undef, undef, undef, undef, undef, undef, undef, undef, undef, undef, undef, undef, undef, undef, undef, undef]) Try.func119 rfl rfl (by kernel_rfl) rfl ?_
  refine wc_seq ?_
  refine wc_region ?_
  refine wl_mv (.bool false) (want_none rfl) rfl rfl (.inr rfl) rfl ?_
  refine wl_nil ?_
  refine wq_then ?_
  refine wc_seq ?_
  refine wc_seq ?_
  refine wc_region ?_
  refine wl_mv (.slice a1 x_a.length c2) (want_none rfl) rfl rfl (.inl rfl) rfl ?_
  refine wl_len (want_none rfl) rfl rfl rfl slTy_23 rfl r3 ?_
  refine wl_mv (.slice a6 x_b.length c7) (want_none rfl) rfl rfl (.inl rfl) rfl ?_
  refine wl_len (want_none rfl) rfl rfl rfl slTy_23 rfl r8 ?_
  refine wl_pure (.bool (!(decide ((x_a.length : Int) = (x_b.length : Int))))) (want_none rfl) rfl rfl (by kernel_rfl) ?_
  refine wl_nil ?_
  refine wq_then ?_
  rcases Bool.eq_false_or_eq_true (decide ((x_a.length : Int) = (x_b.length : Int))) with h11 | h11
  · have q12 := of_decide_eq_true h11
    refine wc_false (congrArg (fun b => Value.bool (!b)) h11) ?_
    refine wc_skip ?_
    refine wq_then ?_
    refine wc_seq ?_
    refine wc_seq ?_
    refine wc_region ?_
    refine wl_mv (.int .i64 0) (want_none rfl) rfl rfl (.inr rfl) rfl ?_
    refine wl_nil ?_
    refine wq_then ?_
    refine wc_block ?_
    refine wc_norm [(.slice a1 x_a.length c2), (.slice a6 x_b.length c7), undef, undef, (.bool false), (.int .i64 0), (.slice a1 x_a.length c2), (.int .i64 (x_a.length : Int)), (.slice a6 x_b.length c7), (.int .i64 (x_b.length : Int)), (.bool (!(decide ((x_a.length : Int) = (x_b.length : Int))))), undef, undef, undef, undef, undef, undef, undef, undef, undef, undef, undef, undef, undef, undef, undef] rfl ⟨rfl, rfl, rfl, rfl, rfl, rfl, rfl, rfl, rfl, rfl, rfl, rfl, rfl, rfl, rfl, rfl, rfl, rfl, rfl, rfl, rfl, rfl, rfl, rfl, rfl, rfl, trivial⟩ ?_
    refine wc_loop (fun e' w' => ∃ (k : Nat) (u4x u11x u12x u13x u14x u15x u16x u17x u18x u19x u20x u21x u22x u23x u24x u25x : Value), e' = lst [(.slice a1 x_a.length c2), (.slice a6 x_b.length c7), undef, undef, u4x, (.int .i64 ((k : Nat) : Int)), (.slice a1 x_a.length c2), (.int .i64 (x_a.length : Int)), (.slice a6 x_b.length c7), (.int .i64 (x_b.length : Int)), (.bool (!(decide ((x_a.length : Int) = (x_b.length : Int))))), u11x, u12x, u13x, u14x, u15x, u16x, u17x, u18x, u19x, u20x, u21x, u22x, u23x, u24x, u25x] ∧ Ch (fun k => w0.heap.size ≤ k) w0 w' ∧ Ch (fun k => w0.heap.size ≤ k) w0 w' ∧ k ≤ x_a.length ∧ x_a.take k = x_b.take k) (fun e' _ => x_a.length - ((intOf (e' 5))).toNat) ?_ ?_
    · exact ⟨0, (.bool false), undef, undef, undef, undef, undef, undef, undef, undef, undef, undef, undef, undef, undef, undef, undef, (congrArg (fun (x5z : Value) => lst [(.slice a1 x_a.length c2), (.slice a6 x_b.length c7), undef, undef, (.bool false), x5z, (.slice a1 x_a.length c2), (.int .i64 (x_a.length : Int)), (.slice a6 x_b.length c7), (.int .i64 (x_b.length : Int)), (.bool (!(decide ((x_a.length : Int) = (x_b.length : Int))))), undef, undef, undef, undef, undef, undef, undef, undef, undef, undef, undef, undef, undef, undef, undef]) (congrArg (Value.int .i64) (show (0 : Int) = ((0 : Nat) : Int) by omega))), (Ch.base w0), (Ch.refl (fun k => w0.heap.size ≤ k) w0), (by omega), (by first | rfl | exact eqI_next (by assumption) (by omega) (by omega) (by assumption))⟩
    · rintro _ w1 ⟨k, u4x, u11x, u12x, u13x, u14x, u15x, u16x, u17x, u18x, u19x, u20x, u21x, u22x, u23x, u24x, u25x, rfl, m13, k14, i15, i16⟩
      refine wc_seq ?_
      refine wc_seq ?_
      refine wc_region ?_
      refine wl_mv (.int .i64 ((k : Nat) : Int)) (want_none rfl) rfl rfl (.inl rfl) rfl ?_
      refine wl_mv (.slice a1 x_a.length c2) (want_none rfl) rfl rfl (.inl rfl) rfl ?_
      refine wl_len (want_none rfl) rfl rfl rfl slTy_23 rfl (r3.from0 m13) ?_
      refine wl_pure (.bool (decide (((k : Nat) : Int) < (x_a.length : Int)))) (want_none rfl) rfl rfl (by kernel_rfl) ?_
      refine wl_nil ?_
      refine wq_then ?_
      rcases Bool.eq_false_or_eq_true (decide (((k : Nat) : Int) < (x_a.length : Int))) with h17 | h17
      · have q18 := of_decide_eq_true h17
        refine wc_true (congrArg Value.bool h17) ?_
        refine wc_skip ?_
        refine wq_then ?_
        refine wc_seq ?_
        refine wc_block ?_
        refine wc_seq ?_
        refine wc_draw ([(17, [], [], (fun _ v _ => v = (.slice a1 x_a.length c2))), (18, [], [], (fun _ v _ => v = (.int .i64 ((k : Nat) : Int)))), (19, [], [0, 1], (fun _ v _ => v = (.pointer (some (elA (.slice a1 x_a.length c2) ((((k : Nat) : Int)).toNat * 1)))))), (20, [], [0, 1, 2], (fun _ v _ => v = (.int .i64 (x_a.getD k 0)))), (21, [], [], (fun _ v _ => v = (.slice a6 x_b.length c7))), (22, [], [], (fun _ v _ => v = (.int .i64 ((k : Nat) : Int)))), (23, [], [4, 5], (fun _ v _ => v = (.pointer (some (elA (.slice a6 x_b.length c7) ((((k : Nat) : Int)).toNat * 1)))))), (24, [], [4, 5, 6], (fun _ v _ => v = (.int .i64 (x_b.getD k 0)))), (25, [], [0, 1, 2, 3, 4, 5, 6, 7], (fun _ v _ => v = (.bool (!(decide ((x_a.getD k 0) = (x_b.getD k 0)))))))] : GV) mixed rfl (by kernel_rfl) (by kernel_rfl) ?_ ?_ ?_
        · exact ⟨(fun _ _ _ _ h _ => h), (fun _ _ _ _ _ h => h), ⟨(fun _ _ _ _ h _ => h), (fun _ _ _ _ _ h => h), ⟨(fun _ _ _ _ h _ => h), (fun _ _ _ _ _ h => h), ⟨(fun _ _ _ _ h _ => h), (fun _ _ _ _ _ h => h), ⟨(fun _ _ _ _ h _ => h), (fun _ _ _ _ _ h => h), ⟨(fun _ _ _ _ h _ => h), (fun _ _ _ _ _ h => h), ⟨(fun _ _ _ _ h _ => h), (fun _ _ _ _ _ h => h), ⟨(fun _ _ _ _ h _ => h), (fun _ _ _ _ _ h => h), ⟨(fun _ _ _ _ h _ => h), (fun _ _ _ _ _ h => h), trivial⟩⟩⟩⟩⟩⟩⟩⟩⟩
        · refine ⟨?_, ⟨?_, ⟨?_, ⟨?_, ⟨?_, ⟨?_, ⟨?_, ⟨?_, ⟨?_, trivial⟩⟩⟩⟩⟩⟩⟩⟩⟩
          · intro w2 k19
            have m20 := m13.extk k19
            intro u21
            intro u22
            intro u23
            intro u24
            intro u25
            intro u26
            intro u27
            intro u28
            intro u29
            show WL _ _ _ _ _ _ _
            refine wl_mv (.slice a1 x_a.length c2) (want_none rfl) rfl rfl (.inl rfl) rfl ?_
            exact wl_fin (Ch.refl _ _) rfl
          · intro w2 k30
            have m31 := m13.extk k30
            intro u32
            intro u33
            intro u34
            intro u35
            intro u36
            intro u37
            intro u38
            intro u39
            intro u40
            show WL _ _ _ _ _ _ _
            refine wl_mv (.int .i64 ((k : Nat) : Int)) (want_none rfl) rfl rfl (.inl rfl) rfl ?_
            exact wl_fin (Ch.refl _ _) rfl
          · intro w2 k41
            have m42 := m13.extk k41
            rintro _ rfl
            rintro _ rfl
            intro u43
            intro u44
            intro u45
            intro u46
            intro u47
            intro u48
            intro u49
            show WL _ _ _ _ _ _ _
            refine wl_index (want_none rfl) ((k : Nat) : Int) rfl rfl rfl slTy_23 rfl rfl (r3.from0 m42) (by first | omega | (simp only [List.length_cons, List.length_nil, List.length_replicate, List.length_append, List.length_take, List.length_set, List.length_map]; omega)) (by first | omega | (simp only [List.length_cons, List.length_nil, List.length_replicate, List.length_append, List.length_take, List.length_set, List.length_map]; omega)) ?_
            exact wl_fin (Ch.refl _ _) rfl
          · intro w2 k50
            have m51 := m13.extk k50
            rintro _ rfl
            rintro _ rfl
            rintro _ rfl
            intro u52
            intro u53
            intro u54
            intro u55
            intro u56
            intro u57
            show WL _ _ _ _ _ _ _
            refine wl_loadE (iV (x_a.getD k 0)) (want_none rfl) rfl rfl rfl rfl isAgg_3 (r3.from0 m51) (iget (by simp) (by first | omega | (simp only [List.length_cons, List.length_nil, List.length_replicate, List.length_append, List.length_take, List.length_set, List.length_map]; omega))) ?_
            exact wl_fin (Ch.refl _ _) rfl
          · intro w2 k58
            have m59 := m13.extk k58
            intro u60
            intro u61
            intro u62
            intro u63
            intro u64
            intro u65
            intro u66
            intro u67
            intro u68
            show WL _ _ _ _ _ _ _
            refine wl_mv (.slice a6 x_b.length c7) (want_none rfl) rfl rfl (.inl rfl) rfl ?_
            exact wl_fin (Ch.refl _ _) rfl
          · intro w2 k69
            have m70 := m13.extk k69
            intro u71
            intro u72
            intro u73
            intro u74
            intro u75
            intro u76
            intro u77
            intro u78
            intro u79
            show WL _ _ _ _ _ _ _
            refine wl_mv (.int .i64 ((k : Nat) : Int)) (want_none rfl) rfl rfl (.inl rfl) rfl ?_
            exact wl_fin (Ch.refl _ _) rfl
          · intro w2 k80
            have m81 := m13.extk k80
            intro u82
            intro u83
            intro u84
            intro u85
            rintro _ rfl
            rintro _ rfl
            intro u86
            intro u87
            intro u88
            show WL _ _ _ _ _ _ _
            refine wl_index (want_none rfl) ((k : Nat) : Int) rfl rfl rfl slTy_23 rfl rfl (r8.from0 m81) (by first | omega | (simp only [List.length_cons, List.length_nil, List.length_replicate, List.length_append, List.length_take, List.length_set, List.length_map]; omega)) (by first | omega | (simp only [List.length_cons, List.length_nil, List.length_replicate, List.length_append, List.length_take, List.length_set, List.length_map]; omega)) ?_
            exact wl_fin (Ch.refl _ _) rfl
          · intro w2 k89
            have m90 := m13.extk k89
            intro u91
            intro u92
            intro u93
            intro u94
            rintro _ rfl
            rintro _ rfl
            rintro _ rfl
            intro u95
            intro u96
            show WL _ _ _ _ _ _ _
            refine wl_loadE (iV (x_b.getD k 0)) (want_none rfl) rfl rfl rfl rfl isAgg_3 (r8.from0 m90) (iget (by simp) (by first | omega | (simp only [List.length_cons, List.length_nil, List.length_replicate, List.length_append, List.length_take, List.length_set, List.length_map]; omega))) ?_
            exact wl_fin (Ch.refl _ _) rfl
          · intro w2 k97
            have m98 := m13.extk k97
            rintro _ rfl
            rintro _ rfl
            rintro _ rfl
            rintro _ rfl
            rintro _ rfl
            rintro _ rfl
            rintro _ rfl
            rintro _ rfl
            intro u99
            show WL _ _ _ _ _ _ _
            refine wl_pure (.bool (!(decide ((x_a.getD k 0) = (x_b.getD k 0))))) (want_none rfl) rfl rfl (by kernel_rfl) ?_
            exact wl_fin (Ch.refl _ _) rfl
        · intro w2 k100
          have m101 := m13.extk k100
          rintro _ rfl
          rintro _ rfl
          rintro _ rfl
          rintro _ rfl
          rintro _ rfl
          rintro _ rfl
          rintro _ rfl
          rintro _ rfl
          rintro _ rfl
          show WL _ _ _ _ _ _ _
          refine wl_nil ?_
          refine wq_then ?_
          rcases Bool.eq_false_or_eq_true (decide ((x_a.getD k 0) = (x_b.getD k 0))) with h102 | h102
          · have q103 := of_decide_eq_true h102
            refine wc_false (congrArg (fun b => Value.bool (!b)) h102) ?_
            refine wc_skip ?_
            refine wq_blk_normal ?_
            refine wq_then ?_
            refine wc_region ?_
            refine wl_mv (.int .i64 ((k : Nat) : Int)) (want_none rfl) rfl rfl (.inl rfl) rfl ?_
            refine wl_arith (((k : Nat) : Int) + 1) (want_none rfl) rfl rfl (by kernel_rfl) (by omega) (by omega) ?_
            refine wl_mv (.int .i64 (((k : Nat) : Int) + 1)) (want_none rfl) rfl rfl (.inr rfl) rfl ?_
            refine wl_nil ?_
            exact wq_loopN (w0 := w1) [(.slice a1 x_a.length c2), (.slice a6 x_b.length c7), undef, undef, u4x, (.int .i64 (((k + 1) : Nat) : Int)), (.slice a1 x_a.length c2), (.int .i64 (x_a.length : Int)), (.slice a6 x_b.length c7), (.int .i64 (x_b.length : Int)), (.bool (!(decide ((x_a.length : Int) = (x_b.length : Int))))), (.int .i64 ((k : Nat) : Int)), (.slice a1 x_a.length c2), (.int .i64 (x_a.length : Int)), (.bool (decide (((k : Nat) : Int) < (x_a.length : Int)))), (.int .i64 ((k : Nat) : Int)), (.int .i64 (((k : Nat) : Int) + 1)), (.slice a1 x_a.length c2), (.int .i64 ((k : Nat) : Int)), (.pointer (some (elA (.slice a1 x_a.length c2) ((((k : Nat) : Int)).toNat * 1)))), (.int .i64 (x_a.getD k 0)), (.slice a6 x_b.length c7), (.int .i64 ((k : Nat) : Int)), (.pointer (some (elA (.slice a6 x_b.length c7) ((((k : Nat) : Int)).toNat * 1)))), (.int .i64 (x_b.getD k 0)), (.bool (!(decide ((x_a.getD k 0) = (x_b.getD k 0)))))] rfl ⟨rfl, rfl, rfl, rfl, rfl, (congrArg (Value.int .i64) (show ((((k : Nat) : Int) + 1) : Int) = (((k + 1) : Nat) : Int) by omega)), rfl, rfl, rfl, rfl, rfl, rfl, rfl, rfl, rfl, rfl, rfl, rfl, rfl, rfl, rfl, rfl, rfl, rfl, rfl, rfl, trivial⟩ ⟨(k + 1), u4x, (.int .i64 ((k : Nat) : Int)), (.slice a1 x_a.length c2), (.int .i64 (x_a.length : Int)), (.bool (decide (((k : Nat) : Int) < (x_a.length : Int)))), (.int .i64 ((k : Nat) : Int)), (.int .i64 (((k : Nat) : Int) + 1)), (.slice a1 x_a.length c2), (.int .i64 ((k : Nat) : Int)), (.pointer (some (elA (.slice a1 x_a.length c2) ((((k : Nat) : Int)).toNat * 1)))), (.int .i64 (x_a.getD k 0)), (.slice a6 x_b.length c7), (.int .i64 ((k : Nat) : Int)), (.pointer (some (elA (.slice a6 x_b.length c7) ((((k : Nat) : Int)).toNat * 1)))), (.int .i64 (x_b.getD k 0)), (.bool (!(decide ((x_a.getD k 0) = (x_b.getD k 0))))), rfl, m101, (((Ch.refl (fun k => w0.heap.size ≤ k) w0).ext k14 (fun k hk => Nat.le_trans (Nat.le_refl _) hk)).extk k100), (by omega), (by first | rfl | exact eqI_next (by assumption) (by omega) (by omega) (by assumption))⟩ (by show x_a.length - ((((k + 1) : Nat) : Int)).toNat < x_a.length - (((k : Nat) : Int)).toNat; omega)
          · have q104 := of_decide_eq_false h102
            refine wc_true (congrArg (fun b => Value.bool (!b)) h102) ?_
            refine wc_seq ?_
            refine wc_region ?_
            refine wl_mv (.bool false) (want_none rfl) rfl rfl (.inr rfl) rfl ?_
            refine wl_nil ?_
            refine wq_then ?_
            refine wc_ret ?_
            refine wq_blk_ret ?_
            refine wq_then_ret ?_
            refine wq_then_ret ?_
            refine wq_blk_ret ?_
            refine wq_then_ret ?_
            refine ret_1 (.inl rfl) (.bool false) rfl rfl ?_
            refine ⟨m101.keep0, ?_⟩
            have hF105 : eqI x_a x_b = false := by first | exact eqI_len (by assumption) | exact eqI_el (by assumption) | exact eqI_all (by assumption) (by omega) (by omega)
            rw [hF105]
            exact rfl
      · have q106 := of_decide_eq_false h17
        refine wc_false (congrArg Value.bool h17) ?_
        refine wc_exit ?_
        refine wq_then_exit ?_
        refine wq_then_exit ?_
        refine wq_blk_exit ?_
        refine wq_then ?_
        refine wc_seq ?_
        refine wc_region ?_
        refine wl_mv (.bool true) (want_none rfl) rfl rfl (.inr rfl) rfl ?_
        refine wl_nil ?_
        refine wq_then ?_
        refine wc_ret ?_
        refine ret_1 (.inl rfl) (.bool true) rfl rfl ?_
        refine ⟨m13.keep0, ?_⟩
        have hF107 : eqI x_a x_b = true := by first | exact eqI_len (by assumption) | exact eqI_el (by assumption) | exact eqI_all (by assumption) (by omega) (by omega)
        rw [hF107]
        exact rfl
  · have q108 := of_decide_eq_false h11
    refine wc_true (congrArg (fun b => Value.bool (!b)) h11) ?_
    refine wc_seq ?_
    refine wc_region ?_
    refine wl_mv (.bool false) (want_none rfl) rfl rfl (.inr rfl) rfl ?_
    refine wl_nil ?_
    refine wq_then ?_
    refine wc_ret ?_
    refine wq_then_ret ?_
    refine ret_1 (.inl rfl) (.bool false) rfl rfl ?_
    refine ⟨Ch.refl _ _, ?_⟩
    have hF109 : eqI x_a x_b = false := by first | exact eqI_len (by assumption) | exact eqI_el (by assumption) | exact eqI_all (by assumption) (by omega) (by omega)
    rw [hF109]
    exact rfl

def F_laws_eqWin (x_a : PWin) (x_b : PWin) : (Bool) := bif (decide (x_a.Top = x_b.Top)) then (bif (eqI x_a.Bits x_b.Bits) then (true) else (false)) else (false)
theorem C_laws_eqWin (w0 : World) (v_x_a : Value) (x_a : PWin) (r_x_a : R_25 w0 v_x_a x_a) (v_x_b : Value) (x_b : PWin) (r_x_b : R_25 w0 v_x_b x_b)  : Fn Try.prog 105 #[v_x_a, v_x_b] w0 (fun v w' => Keep w0 w' ∧ O_4 w' w0.heap.size v (F_laws_eqWin x_a x_b)) := by
  obtain ⟨a1, c2, rfl, r3, s4⟩ := r_x_a
  obtain ⟨a6, c7, rfl, r8, s9⟩ := r_x_b
  refine fn_of (n := 16) (l := [(.agg #[(.int .i64 x_a.Top), (.slice a1 x_a.Bits.length c2)]), (.agg #[(.int .i64 x_b.Top), (.slice a6 x_b.Bits.length c7)]), undef, undef, undef, undef, undef, undef, undef, undef, undef, undef, undef, undef, undef, undef]) Try.func105 rfl rfl (by kernel_rfl) rfl ?_
  refine wc_seq ?_
  refine wc_region ?_
  refine wl_box (want_none rfl) [(.int .i64 x_a.Top), (.slice a1 x_a.Bits.length c2)] rfl rfl rfl rfl ?_
  intro g11 w1 p12 p13 k14 b15
  have m16 := (Ch.base w0).extk k14
  refine wl_box (want_none rfl) [(.int .i64 x_b.Top), (.slice a6 x_b.Bits.length c7)] rfl rfl rfl rfl ?_
  intro g17 w2 p18 p19 k20 b21
  have m22 := m16.extk k20
  refine wl_mv (.bool false) (want_none rfl) rfl rfl (.inr rfl) rfl ?_
  refine wl_nil ?_
  refine wq_then ?_
  refine wc_seq ?_
  refine wc_seq ?_
  refine wc_region ?_
  refine wl_pure (.pointer (some ⟨g11, 0, none⟩)) (want_none rfl) rfl rfl (by kernel_rfl) ?_
  have b23 := (b15.kp k20)
  refine wl_load1 (.int .i64 x_a.Top) (want_none rfl) rfl rfl rfl rfl isAgg_3 b23 rfl ?_
  refine wl_pure (.pointer (some ⟨g17, 0, none⟩)) (want_none rfl) rfl rfl (by kernel_rfl) ?_
  refine wl_load1 (.int .i64 x_b.Top) (want_none rfl) rfl rfl rfl rfl isAgg_3 b21 rfl ?_
  refine wl_pure (.bool (!(decide (x_a.Top = x_b.Top)))) (want_none rfl) rfl rfl (by kernel_rfl) ?_
  refine wl_nil ?_
  refine wq_then ?_
  rcases Bool.eq_false_or_eq_true (decide (x_a.Top = x_b.Top)) with h24 | h24
  · have q25 := of_decide_eq_true h24
    refine wc_false (congrArg (fun b => Value.bool (!b)) h24) ?_
    refine wc_skip ?_
    refine wq_then ?_
    refine wc_seq ?_
    refine wc_seq ?_
    refine wc_region ?_
    refine wl_pure (.pointer (some ⟨g11, 1, none⟩)) (want_none rfl) rfl rfl (by kernel_rfl) ?_
    refine wl_load1 (.slice a1 x_a.Bits.length c2) (want_none rfl) rfl rfl rfl rfl isAgg_23 b23 rfl ?_
    refine wl_pure (.pointer (some ⟨g17, 1, none⟩)) (want_none rfl) rfl rfl (by kernel_rfl) ?_
    refine wl_load1 (.slice a6 x_b.Bits.length c7) (want_none rfl) rfl rfl rfl rfl isAgg_23 b21 rfl ?_
    refine wl_call (want_none rfl) (args := #[(.slice a1 x_a.Bits.length c2), (.slice a6 x_b.Bits.length c7)]) rfl rfl (by kernel_rfl) (C_laws_eqIntS w2 (.slice a1 x_a.Bits.length c2) x_a.Bits (show R_23 w2 (.slice a1 x_a.Bits.length c2) x_a.Bits from ⟨_, _, rfl, (r3.from0 m22), s4⟩) (.slice a6 x_b.Bits.length c7) x_b.Bits (show R_23 w2 (.slice a6 x_b.Bits.length c7) x_b.Bits from ⟨_, _, rfl, (r8.from0 m22), s9⟩)) ?_
    rintro _ w3 ⟨k26, rfl⟩
    have m27 := m22.extk k26
    refine wl_pure (.bool (!(eqI x_a.Bits x_b.Bits))) (want_none rfl) rfl rfl (by kernel_rfl) ?_
    refine wl_nil ?_
    refine wq_then ?_
    rcases Bool.eq_false_or_eq_true (eqI x_a.Bits x_b.Bits) with h28 | h28
    · skip
      refine wc_false (congrArg (fun b => Value.bool (!b)) h28) ?_
      refine wc_skip ?_
      refine wq_then ?_
      refine wc_seq ?_
      refine wc_region ?_
      refine wl_mv (.bool true) (want_none rfl) rfl rfl (.inr rfl) rfl ?_
      refine wl_nil ?_
      refine wq_then ?_
      refine wc_ret ?_
      refine ret_1 (.inl rfl) (.bool true) rfl rfl ?_
      refine ⟨m27.keep0, ?_⟩
      have hF30 : F_laws_eqWin x_a x_b = true := by simp only [F_laws_eqWin, h24, h28, cond_true, cond_false]
      rw [hF30]
      exact rfl
    · skip
      refine wc_true (congrArg (fun b => Value.bool (!b)) h28) ?_
      refine wc_seq ?_
      refine wc_region ?_
      refine wl_mv (.bool false) (want_none rfl) rfl rfl (.inr rfl) rfl ?_
      refine wl_nil ?_
      refine wq_then ?_
      refine wc_ret ?_
      refine wq_then_ret ?_
      refine ret_1 (.inl rfl) (.bool false) rfl rfl ?_
      refine ⟨m27.keep0, ?_⟩
      have hF32 : F_laws_eqWin x_a x_b = false := by simp only [F_laws_eqWin, h24, h28, cond_true, cond_false]
      rw [hF32]
      exact rfl
  · have q33 := of_decide_eq_false h24
    refine wc_true (congrArg (fun b => Value.bool (!b)) h24) ?_
    refine wc_seq ?_
    refine wc_region ?_
    refine wl_mv (.bool false) (want_none rfl) rfl rfl (.inr rfl) rfl ?_
    refine wl_nil ?_
    refine wq_then ?_
    refine wc_ret ?_
    refine wq_then_ret ?_
    refine ret_1 (.inl rfl) (.bool false) rfl rfl ?_
    refine ⟨m22.keep0, ?_⟩
    have hF34 : F_laws_eqWin x_a x_b = false := by simp only [F_laws_eqWin, h24, cond_true, cond_false]
    rw [hF34]
    exact rfl

def F_laws_eqEp (x_a : PEp) (x_b : PEp) : (Bool) := bif (decide (x_a.N = x_b.N)) then (bif (eqB x_a.Key x_b.Key) then (bif (decide (x_a.Seq = x_b.Seq)) then (bif (F_laws_eqWin x_a.Win x_b.Win) then (true) else (false)) else (false)) else (false)) else (false)
theorem C_laws_eqEp (w0 : World) (v_x_a : Value) (x_a : PEp) (r_x_a : R_27 w0 v_x_a x_a) (v_x_b : Value) (x_b : PEp) (r_x_b : R_27 w0 v_x_b x_b)  : Fn Try.prog 71 #[v_x_a, v_x_b] w0 (fun v w' => Keep w0 w' ∧ O_4 w' w0.heap.size v (F_laws_eqEp x_a x_b)) := by
  obtain ⟨a1, c2, a6, c7, rfl, r3, s4, r8, s9⟩ := r_x_a
  obtain ⟨a11, c12, a16, c17, rfl, r13, s14, r18, s19⟩ := r_x_b
  refine fn_of (n := 27) (l := [(.agg #[(.int .i64 x_a.N), (.slice a1 x_a.Key.length c2), (.int .i64 x_a.Seq), (.int .i64 x_a.Win.Top), (.slice a6 x_a.Win.Bits.length c7)]), (.agg #[(.int .i64 x_b.N), (.slice a11 x_b.Key.length c12), (.int .i64 x_b.Seq), (.int .i64 x_b.Win.Top), (.slice a16 x_b.Win.Bits.length c17)]), undef, undef, undef, undef, undef, undef, undef, undef, undef, undef, undef, undef, undef, undef, undef, undef, undef, undef, undef, undef, undef, undef, undef, undef, undef]) Try.func71 rfl rfl (by kernel_rfl) rfl ?_
  refine wc_seq ?_
  refine wc_region ?_
  refine wl_box (want_none rfl) [(.int .i64 x_a.N), (.slice a1 x_a.Key.length c2), (.int .i64 x_a.Seq), (.int .i64 x_a.Win.Top), (.slice a6 x_a.Win.Bits.length c7)] rfl rfl rfl rfl ?_
  intro g21 w1 p22 p23 k24 b25
  have m26 := (Ch.base w0).extk k24
  refine wl_box (want_none rfl) [(.int .i64 x_b.N), (.slice a11 x_b.Key.length c12), (.int .i64 x_b.Seq), (.int .i64 x_b.Win.Top), (.slice a16 x_b.Win.Bits.length c17)] rfl rfl rfl rfl ?_
  intro g27 w2 p28 p29 k30 b31
  have m32 := m26.extk k30
  refine wl_mv (.bool false) (want_none rfl) rfl rfl (.inr rfl) rfl ?_
  refine wl_nil ?_
  refine wq_then ?_
  refine wc_seq ?_
  refine wc_seq ?_
  refine wc_region ?_
  refine wl_pure (.pointer (some ⟨g21, 0, none⟩)) (want_none rfl) rfl rfl (by kernel_rfl) ?_
  have b33 := (b25.kp k30)
  refine wl_load1 (.int .i64 x_a.N) (want_none rfl) rfl rfl rfl rfl isAgg_3 b33 rfl ?_
  refine wl_pure (.pointer (some ⟨g27, 0, none⟩)) (want_none rfl) rfl rfl (by kernel_rfl) ?_
  refine wl_load1 (.int .i64 x_b.N) (want_none rfl) rfl rfl rfl rfl isAgg_3 b31 rfl ?_
  refine wl_pure (.bool (!(decide (x_a.N = x_b.N)))) (want_none rfl) rfl rfl (by kernel_rfl) ?_
  refine wl_nil ?_
  refine wq_then ?_
  rcases Bool.eq_false_or_eq_true (decide (x_a.N = x_b.N)) with h34 | h34
  · have q35 := of_decide_eq_true h34
    refine wc_false (congrArg (fun b => Value.bool (!b)) h34) ?_
    refine wc_skip ?_
    refine wq_then ?_
    refine wc_seq ?_
    refine wc_seq ?_
    refine wc_region ?_
    refine wl_pure (.pointer (some ⟨g21, 1, none⟩)) (want_none rfl) rfl rfl (by kernel_rfl) ?_
    refine wl_load1 (.slice a1 x_a.Key.length c2) (want_none rfl) rfl rfl rfl rfl isAgg_22 b33 rfl ?_
    refine wl_pure (.pointer (some ⟨g27, 1, none⟩)) (want_none rfl) rfl rfl (by kernel_rfl) ?_
    refine wl_load1 (.slice a11 x_b.Key.length c12) (want_none rfl) rfl rfl rfl rfl isAgg_22 b31 rfl ?_
    refine wl_call (want_none rfl) (args := #[(.slice a1 x_a.Key.length c2), (.slice a11 x_b.Key.length c12)]) rfl rfl (by kernel_rfl) (C_laws_eqByteS w2 (.slice a1 x_a.Key.length c2) x_a.Key (show R_22 w2 (.slice a1 x_a.Key.length c2) x_a.Key from ⟨_, _, rfl, (r3.from0 m32), s4⟩) (.slice a11 x_b.Key.length c12) x_b.Key (show R_22 w2 (.slice a11 x_b.Key.length c12) x_b.Key from ⟨_, _, rfl, (r13.from0 m32), s14⟩)) ?_
    rintro _ w3 ⟨k36, rfl⟩
    have m37 := m32.extk k36
    refine wl_pure (.bool (!(eqB x_a.Key x_b.Key))) (want_none rfl) rfl rfl (by kernel_rfl) ?_
    refine wl_nil ?_
    refine wq_then ?_
    rcases Bool.eq_false_or_eq_true (eqB x_a.Key x_b.Key) with h38 | h38
    · skip
      refine wc_false (congrArg (fun b => Value.bool (!b)) h38) ?_
      refine wc_skip ?_
      refine wq_then ?_
      refine wc_seq ?_
      refine wc_seq ?_
      refine wc_region ?_
      refine wl_pure (.pointer (some ⟨g21, 2, none⟩)) (want_none rfl) rfl rfl (by kernel_rfl) ?_
      have b40 := (b33.kp k36)
      refine wl_load1 (.int .i64 x_a.Seq) (want_none rfl) rfl rfl rfl rfl isAgg_3 b40 rfl ?_
      refine wl_pure (.pointer (some ⟨g27, 2, none⟩)) (want_none rfl) rfl rfl (by kernel_rfl) ?_
      have b41 := (b31.kp k36)
      refine wl_load1 (.int .i64 x_b.Seq) (want_none rfl) rfl rfl rfl rfl isAgg_3 b41 rfl ?_
      refine wl_pure (.bool (!(decide (x_a.Seq = x_b.Seq)))) (want_none rfl) rfl rfl (by kernel_rfl) ?_
      refine wl_nil ?_
      refine wq_then ?_
      rcases Bool.eq_false_or_eq_true (decide (x_a.Seq = x_b.Seq)) with h42 | h42
      · have q43 := of_decide_eq_true h42
        refine wc_false (congrArg (fun b => Value.bool (!b)) h42) ?_
        refine wc_skip ?_
        refine wq_then ?_
        refine wc_seq ?_
        refine wc_seq ?_
        refine wc_region ?_
        refine wl_pure (.pointer (some ⟨g21, 3, none⟩)) (want_none rfl) rfl rfl (by kernel_rfl) ?_
        refine wl_loadN [(.int .i64 x_a.Win.Top), (.slice a6 x_a.Win.Bits.length c7)] (want_none rfl) rfl rfl rfl rfl isAgg_25 sizeOf_25 b40 rfl ?_
        refine wl_pure (.pointer (some ⟨g27, 3, none⟩)) (want_none rfl) rfl rfl (by kernel_rfl) ?_
        refine wl_loadN [(.int .i64 x_b.Win.Top), (.slice a16 x_b.Win.Bits.length c17)] (want_none rfl) rfl rfl rfl rfl isAgg_25 sizeOf_25 b41 rfl ?_
        refine wl_call (want_none rfl) (args := #[(.agg #[(.int .i64 x_a.Win.Top), (.slice a6 x_a.Win.Bits.length c7)]), (.agg #[(.int .i64 x_b.Win.Top), (.slice a16 x_b.Win.Bits.length c17)])]) rfl rfl (by kernel_rfl) (C_laws_eqWin w3 (.agg #[(.int .i64 x_a.Win.Top), (.slice a6 x_a.Win.Bits.length c7)]) x_a.Win (show R_25 w3 (.agg #[(.int .i64 x_a.Win.Top), (.slice a6 x_a.Win.Bits.length c7)]) x_a.Win from ⟨_, _, rfl, (r8.from0 m37), s9⟩) (.agg #[(.int .i64 x_b.Win.Top), (.slice a16 x_b.Win.Bits.length c17)]) x_b.Win (show R_25 w3 (.agg #[(.int .i64 x_b.Win.Top), (.slice a16 x_b.Win.Bits.length c17)]) x_b.Win from ⟨_, _, rfl, (r18.from0 m37), s19⟩)) ?_
        rintro _ w4 ⟨k44, rfl⟩
        have m45 := m37.extk k44
        refine wl_pure (.bool (!(F_laws_eqWin x_a.Win x_b.Win))) (want_none rfl) rfl rfl (by kernel_rfl) ?_
        refine wl_nil ?_
        refine wq_then ?_
        rcases Bool.eq_false_or_eq_true (F_laws_eqWin x_a.Win x_b.Win) with h46 | h46
        · skip
          refine wc_false (congrArg (fun b => Value.bool (!b)) h46) ?_
          refine wc_skip ?_
          refine wq_then ?_
          refine wc_seq ?_
          refine wc_region ?_
          refine wl_mv (.bool true) (want_none rfl) rfl rfl (.inr rfl) rfl ?_
          refine wl_nil ?_
          refine wq_then ?_
          refine wc_ret ?_
          refine ret_1 (.inl rfl) (.bool true) rfl rfl ?_
          refine ⟨m45.keep0, ?_⟩
          have hF48 : F_laws_eqEp x_a x_b = true := by simp only [F_laws_eqEp, h34, h38, h42, h46, cond_true, cond_false]
          rw [hF48]
          exact rfl
        · skip
          refine wc_true (congrArg (fun b => Value.bool (!b)) h46) ?_
          refine wc_seq ?_
          refine wc_region ?_
          refine wl_mv (.bool false) (want_none rfl) rfl rfl (.inr rfl) rfl ?_
          refine wl_nil ?_
          refine wq_then ?_
          refine wc_ret ?_
          refine wq_then_ret ?_
          refine ret_1 (.inl rfl) (.bool false) rfl rfl ?_
          refine ⟨m45.keep0, ?_⟩
          have hF50 : F_laws_eqEp x_a x_b = false := by simp only [F_laws_eqEp, h34, h38, h42, h46, cond_true, cond_false]
          rw [hF50]
          exact rfl
      · have q51 := of_decide_eq_false h42
        refine wc_true (congrArg (fun b => Value.bool (!b)) h42) ?_
        refine wc_seq ?_
        refine wc_region ?_
        refine wl_mv (.bool false) (want_none rfl) rfl rfl (.inr rfl) rfl ?_
        refine wl_nil ?_
        refine wq_then ?_
        refine wc_ret ?_
        refine wq_then_ret ?_
        refine ret_1 (.inl rfl) (.bool false) rfl rfl ?_
        refine ⟨m37.keep0, ?_⟩
        have hF52 : F_laws_eqEp x_a x_b = false := by simp only [F_laws_eqEp, h34, h38, h42, cond_true, cond_false]
        rw [hF52]
        exact rfl
    · skip
      refine wc_true (congrArg (fun b => Value.bool (!b)) h38) ?_
      refine wc_seq ?_
      refine wc_region ?_
      refine wl_mv (.bool false) (want_none rfl) rfl rfl (.inr rfl) rfl ?_
      refine wl_nil ?_
      refine wq_then ?_
      refine wc_ret ?_
      refine wq_then_ret ?_
      refine ret_1 (.inl rfl) (.bool false) rfl rfl ?_
      refine ⟨m37.keep0, ?_⟩
      have hF54 : F_laws_eqEp x_a x_b = false := by simp only [F_laws_eqEp, h34, h38, cond_true, cond_false]
      rw [hF54]
      exact rfl
  · have q55 := of_decide_eq_false h34
    refine wc_true (congrArg (fun b => Value.bool (!b)) h34) ?_
    refine wc_seq ?_
    refine wc_region ?_
    refine wl_mv (.bool false) (want_none rfl) rfl rfl (.inr rfl) rfl ?_
    refine wl_nil ?_
    refine wq_then ?_
    refine wc_ret ?_
    refine wq_then_ret ?_
    refine ret_1 (.inl rfl) (.bool false) rfl rfl ?_
    refine ⟨m32.keep0, ?_⟩
    have hF56 : F_laws_eqEp x_a x_b = false := by simp only [F_laws_eqEp, h34, cond_true, cond_false]
    rw [hF56]
    exact rfl

def F_laws_eqChan (x_a : PChan) (x_b : PChan) : (Bool) := bif (decide (x_a.Role = x_b.Role)) then (bif (eqB x_a.Sn x_b.Sn) then (bif (F_laws_eqEp x_a.Cur x_b.Cur) then (bif (F_laws_eqEp x_a.Old x_b.Old) then (bif (x_a.HasOld == x_b.HasOld) then (bif (decide (x_a.Until = x_b.Until)) then (bif (eqB x_a.Next x_b.Next) then (true) else (false)) else (false)) else (false)) else (false)) else (false)) else (false)) else (false)
theorem C_laws_eqChan (w0 : World) (v_x_a : Value) (x_a : PChan) (r_x_a : R_29 w0 v_x_a x_a) (v_x_b : Value) (x_b : PChan) (r_x_b : R_29 w0 v_x_b x_b)  : Fn Try.prog 18 #[v_x_a, v_x_b] w0 (fun v w' => Keep w0 w' ∧ O_4 w' w0.heap.size v (F_laws_eqChan x_a x_b)) := by
  obtain ⟨a1, c2, a6, c7, a11, c12, a16, c17, a21, c22, a26, c27, rfl, r3, s4, r8, s9, r13, s14, r18, s19, r23, s24, r28, s29⟩ := r_x_a
  obtain ⟨a31, c32, a36, c37, a41, c42, a46, c47, a51, c52, a56, c57, rfl, r33, s34, r38, s39, r43, s44, r48, s49, r53, s54, r58, s59⟩ := r_x_b
  refine fn_of (n := 44) (l := [(.agg #[(.int .i64 x_a.Role), (.slice a1 x_a.Sn.length c2), (.int .i64 x_a.Cur.N), (.slice a6 x_a.Cur.Key.length c7), (.int .i64 x_a.Cur.Seq), (.int .i64 x_a.Cur.Win.Top), (.slice a11 x_a.Cur.Win.Bits.length c12), (.int .i64 x_a.Old.N), (.slice a16 x_a.Old.Key.length c17), (.int .i64 x_a.Old.Seq), (.int .i64 x_a.Old.Win.Top), (.slice a21 x_a.Old.Win.Bits.length c22), (.bool x_a.HasOld), (.int .i64 x_a.Until), (.slice a26 x_a.Next.length c27)]), (.agg #[(.int .i64 x_b.Role), (.slice a31 x_b.Sn.length c32), (.int .i64 x_b.Cur.N), (.slice a36 x_b.Cur.Key.length c37), (.int .i64 x_b.Cur.Seq), (.int .i64 x_b.Cur.Win.Top), (.slice a41 x_b.Cur.Win.Bits.length c42), (.int .i64 x_b.Old.N), (.slice a46 x_b.Old.Key.length c47), (.int .i64 x_b.Old.Seq), (.int .i64 x_b.Old.Win.Top), (.slice a51 x_b.Old.Win.Bits.length c52), (.bool x_b.HasOld), (.int .i64 x_b.Until), (.slice a56 x_b.Next.length c57)]), undef, undef, undef, undef, undef, undef, undef, undef, undef, undef, undef, undef, undef, undef, undef, undef, undef, undef, undef, undef, undef, undef, undef, undef, undef, undef, undef, undef, undef, undef, undef, undef, undef, undef, undef, undef, undef, undef, undef, undef, undef, undef]) Try.func18 rfl rfl (by kernel_rfl) rfl ?_
  refine wc_seq ?_
  refine wc_region ?_
  refine wl_box (want_none rfl) [(.int .i64 x_a.Role), (.slice a1 x_a.Sn.length c2), (.int .i64 x_a.Cur.N), (.slice a6 x_a.Cur.Key.length c7), (.int .i64 x_a.Cur.Seq), (.int .i64 x_a.Cur.Win.Top), (.slice a11 x_a.Cur.Win.Bits.length c12), (.int .i64 x_a.Old.N), (.slice a16 x_a.Old.Key.length c17), (.int .i64 x_a.Old.Seq), (.int .i64 x_a.Old.Win.Top), (.slice a21 x_a.Old.Win.Bits.length c22), (.bool x_a.HasOld), (.int .i64 x_a.Until), (.slice a26 x_a.Next.length c27)] rfl rfl rfl rfl ?_
  intro g61 w1 p62 p63 k64 b65
  have m66 := (Ch.base w0).extk k64
  refine wl_box (want_none rfl) [(.int .i64 x_b.Role), (.slice a31 x_b.Sn.length c32), (.int .i64 x_b.Cur.N), (.slice a36 x_b.Cur.Key.length c37), (.int .i64 x_b.Cur.Seq), (.int .i64 x_b.Cur.Win.Top), (.slice a41 x_b.Cur.Win.Bits.length c42), (.int .i64 x_b.Old.N), (.slice a46 x_b.Old.Key.length c47), (.int .i64 x_b.Old.Seq), (.int .i64 x_b.Old.Win.Top), (.slice a51 x_b.Old.Win.Bits.length c52), (.bool x_b.HasOld), (.int .i64 x_b.Until), (.slice a56 x_b.Next.length c57)] rfl rfl rfl rfl ?_
  intro g67 w2 p68 p69 k70 b71
  have m72 := m66.extk k70
  refine wl_mv (.bool false) (want_none rfl) rfl rfl (.inr rfl) rfl ?_
  refine wl_nil ?_
  refine wq_then ?_
  refine wc_seq ?_
  refine wc_seq ?_
  refine wc_region ?_
  refine wl_pure (.pointer (some ⟨g61, 0, none⟩)) (want_none rfl) rfl rfl (by kernel_rfl) ?_
  have b73 := (b65.kp k70)
  refine wl_load1 (.int .i64 x_a.Role) (want_none rfl) rfl rfl rfl rfl isAgg_3 b73 rfl ?_
  refine wl_pure (.pointer (some ⟨g67, 0, none⟩)) (want_none rfl) rfl rfl (by kernel_rfl) ?_
  refine wl_load1 (.int .i64 x_b.Role) (want_none rfl) rfl rfl rfl rfl isAgg_3 b71 rfl ?_
  refine wl_pure (.bool (!(decide (x_a.Role = x_b.Role)))) (want_none rfl) rfl rfl (by kernel_rfl) ?_
  refine wl_nil ?_
  refine wq_then ?_
  rcases Bool.eq_false_or_eq_true (decide (x_a.Role = x_b.Role)) with h74 | h74
  · have q75 := of_decide_eq_true h74
    refine wc_false (congrArg (fun b => Value.bool (!b)) h74) ?_
    refine wc_skip ?_
    refine wq_then ?_
    refine wc_seq ?_
    refine wc_seq ?_
    refine wc_region ?_
    refine wl_pure (.pointer (some ⟨g61, 1, none⟩)) (want_none rfl) rfl rfl (by kernel_rfl) ?_
    refine wl_load1 (.slice a1 x_a.Sn.length c2) (want_none rfl) rfl rfl rfl rfl isAgg_22 b73 rfl ?_
    refine wl_pure (.pointer (some ⟨g67, 1, none⟩)) (want_none rfl) rfl rfl (by kernel_rfl) ?_
    refine wl_load1 (.slice a31 x_b.Sn.length c32) (want_none rfl) rfl rfl rfl rfl isAgg_22 b71 rfl ?_
    refine wl_call (want_none rfl) (args := #[(.slice a1 x_a.Sn.length c2), (.slice a31 x_b.Sn.length c32)]) rfl rfl (by kernel_rfl) (C_laws_eqByteS w2 (.slice a1 x_a.Sn.length c2) x_a.Sn (show R_22 w2 (.slice a1 x_a.Sn.length c2) x_a.Sn from ⟨_, _, rfl, (r3.from0 m72), s4⟩) (.slice a31 x_b.Sn.length c32) x_b.Sn (show R_22 w2 (.slice a31 x_b.Sn.length c32) x_b.Sn from ⟨_, _, rfl, (r33.from0 m72), s34⟩)) ?_
    rintro _ w3 ⟨k76, rfl⟩
    have m77 := m72.extk k76
    refine wl_pure (.bool (!(eqB x_a.Sn x_b.Sn))) (want_none rfl) rfl rfl (by kernel_rfl) ?_
    refine wl_nil ?_
    refine wq_then ?_
    rcases Bool.eq_false_or_eq_true (eqB x_a.Sn x_b.Sn) with h78 | h78
    · skip
      refine wc_false (congrArg (fun b => Value.bool (!b)) h78) ?_
      refine wc_skip ?_
      refine wq_then ?_
      refine wc_seq ?_
      refine wc_seq ?_
      refine wc_region ?_
      refine wl_pure (.pointer (some ⟨g61, 2, none⟩)) (want_none rfl) rfl rfl (by kernel_rfl) ?_
      have b80 := (b73.kp k76)
      refine wl_loadN [(.int .i64 x_a.Cur.N), (.slice a6 x_a.Cur.Key.length c7), (.int .i64 x_a.Cur.Seq), (.int .i64 x_a.Cur.Win.Top), (.slice a11 x_a.Cur.Win.Bits.length c12)] (want_none rfl) rfl rfl rfl rfl isAgg_27 sizeOf_27 b80 rfl ?_
      refine wl_pure (.pointer (some ⟨g67, 2, none⟩)) (want_none rfl) rfl rfl (by kernel_rfl) ?_
      have b81 := (b71.kp k76)
      refine wl_loadN [(.int .i64 x_b.Cur.N), (.slice a36 x_b.Cur.Key.length c37), (.int .i64 x_b.Cur.Seq), (.int .i64 x_b.Cur.Win.Top), (.slice a41 x_b.Cur.Win.Bits.length c42)] (want_none rfl) rfl rfl rfl rfl isAgg_27 sizeOf_27 b81 rfl ?_
      refine wl_call (want_none rfl) (args := #[(.agg #[(.int .i64 x_a.Cur.N), (.slice a6 x_a.Cur.Key.length c7), (.int .i64 x_a.Cur.Seq), (.int .i64 x_a.Cur.Win.Top), (.slice a11 x_a.Cur.Win.Bits.length c12)]), (.agg #[(.int .i64 x_b.Cur.N), (.slice a36 x_b.Cur.Key.length c37), (.int .i64 x_b.Cur.Seq), (.int .i64 x_b.Cur.Win.Top), (.slice a41 x_b.Cur.Win.Bits.length c42)])]) rfl rfl (by kernel_rfl) (C_laws_eqEp w3 (.agg #[(.int .i64 x_a.Cur.N), (.slice a6 x_a.Cur.Key.length c7), (.int .i64 x_a.Cur.Seq), (.int .i64 x_a.Cur.Win.Top), (.slice a11 x_a.Cur.Win.Bits.length c12)]) x_a.Cur (show R_27 w3 (.agg #[(.int .i64 x_a.Cur.N), (.slice a6 x_a.Cur.Key.length c7), (.int .i64 x_a.Cur.Seq), (.int .i64 x_a.Cur.Win.Top), (.slice a11 x_a.Cur.Win.Bits.length c12)]) x_a.Cur from ⟨_, _, _, _, rfl, (r8.from0 m77), s9, (r13.from0 m77), s14⟩) (.agg #[(.int .i64 x_b.Cur.N), (.slice a36 x_b.Cur.Key.length c37), (.int .i64 x_b.Cur.Seq), (.int .i64 x_b.Cur.Win.Top), (.slice a41 x_b.Cur.Win.Bits.length c42)]) x_b.Cur (show R_27 w3 (.agg #[(.int .i64 x_b.Cur.N), (.slice a36 x_b.Cur.Key.length c37), (.int .i64 x_b.Cur.Seq), (.int .i64 x_b.Cur.Win.Top), (.slice a41 x_b.Cur.Win.Bits.length c42)]) x_b.Cur from ⟨_, _, _, _, rfl, (r38.from0 m77), s39, (r43.from0 m77), s44⟩)) ?_
      rintro _ w4 ⟨k82, rfl⟩
      have m83 := m77.extk k82
      refine wl_pure (.bool (!(F_laws_eqEp x_a.Cur x_b.Cur))) (want_none rfl) rfl rfl (by kernel_rfl) ?_
      refine wl_nil ?_
      refine wq_then ?_
      rcases Bool.eq_false_or_eq_true (F_laws_eqEp x_a.Cur x_b.Cur) with h84 | h84
      · skip
        refine wc_false (congrArg (fun b => Value.bool (!b)) h84) ?_
        refine wc_skip ?_
        refine wq_then ?_
        refine wc_seq ?_
        refine wc_seq ?_
        refine wc_region ?_
        refine wl_pure (.pointer (some ⟨g61, 7, none⟩)) (want_none rfl) rfl rfl (by kernel_rfl) ?_
        have b86 := (b80.kp k82)
        refine wl_loadN [(.int .i64 x_a.Old.N), (.slice a16 x_a.Old.Key.length c17), (.int .i64 x_a.Old.Seq), (.int .i64 x_a.Old.Win.Top), (.slice a21 x_a.Old.Win.Bits.length c22)] (want_none rfl) rfl rfl rfl rfl isAgg_27 sizeOf_27 b86 rfl ?_
        refine wl_pure (.pointer (some ⟨g67, 7, none⟩)) (want_none rfl) rfl rfl (by kernel_rfl) ?_
        have b87 := (b81.kp k82)
        refine wl_loadN [(.int .i64 x_b.Old.N), (.slice a46 x_b.Old.Key.length c47), (.int .i64 x_b.Old.Seq), (.int .i64 x_b.Old.Win.Top), (.slice a51 x_b.Old.Win.Bits.length c52)] (want_none rfl) rfl rfl rfl rfl isAgg_27 sizeOf_27 b87 rfl ?_
        refine wl_call (want_none rfl) (args := #[(.agg #[(.int .i64 x_a.Old.N), (.slice a16 x_a.Old.Key.length c17), (.int .i64 x_a.Old.Seq), (.int .i64 x_a.Old.Win.Top), (.slice a21 x_a.Old.Win.Bits.length c22)]), (.agg #[(.int .i64 x_b.Old.N), (.slice a46 x_b.Old.Key.length c47), (.int .i64 x_b.Old.Seq), (.int .i64 x_b.Old.Win.Top), (.slice a51 x_b.Old.Win.Bits.length c52)])]) rfl rfl (by kernel_rfl) (C_laws_eqEp w4 (.agg #[(.int .i64 x_a.Old.N), (.slice a16 x_a.Old.Key.length c17), (.int .i64 x_a.Old.Seq), (.int .i64 x_a.Old.Win.Top), (.slice a21 x_a.Old.Win.Bits.length c22)]) x_a.Old (show R_27 w4 (.agg #[(.int .i64 x_a.Old.N), (.slice a16 x_a.Old.Key.length c17), (.int .i64 x_a.Old.Seq), (.int .i64 x_a.Old.Win.Top), (.slice a21 x_a.Old.Win.Bits.length c22)]) x_a.Old from ⟨_, _, _, _, rfl, (r18.from0 m83), s19, (r23.from0 m83), s24⟩) (.agg #[(.int .i64 x_b.Old.N), (.slice a46 x_b.Old.Key.length c47), (.int .i64 x_b.Old.Seq), (.int .i64 x_b.Old.Win.Top), (.slice a51 x_b.Old.Win.Bits.length c52)]) x_b.Old (show R_27 w4 (.agg #[(.int .i64 x_b.Old.N), (.slice a46 x_b.Old.Key.length c47), (.int .i64 x_b.Old.Seq), (.int .i64 x_b.Old.Win.Top), (.slice a51 x_b.Old.Win.Bits.length c52)]) x_b.Old from ⟨_, _, _, _, rfl, (r48.from0 m83), s49, (r53.from0 m83), s54⟩)) ?_
        rintro _ w5 ⟨k88, rfl⟩
        have m89 := m83.extk k88
        refine wl_pure (.bool (!(F_laws_eqEp x_a.Old x_b.Old))) (want_none rfl) rfl rfl (by kernel_rfl) ?_
        refine wl_nil ?_
        refine wq_then ?_
        rcases Bool.eq_false_or_eq_true (F_laws_eqEp x_a.Old x_b.Old) with h90 | h90
        · skip
          refine wc_false (congrArg (fun b => Value.bool (!b)) h90) ?_
          refine wc_skip ?_
          refine wq_then ?_
          refine wc_seq ?_
          refine wc_seq ?_
          refine wc_region ?_
          refine wl_pure (.pointer (some ⟨g61, 12, none⟩)) (want_none rfl) rfl rfl (by kernel_rfl) ?_
          have b92 := (b86.kp k88)
          refine wl_load1 (.bool x_a.HasOld) (want_none rfl) rfl rfl rfl rfl isAgg_4 b92 rfl ?_
          refine wl_pure (.pointer (some ⟨g67, 12, none⟩)) (want_none rfl) rfl rfl (by kernel_rfl) ?_
          have b93 := (b87.kp k88)
          refine wl_load1 (.bool x_b.HasOld) (want_none rfl) rfl rfl rfl rfl isAgg_4 b93 rfl ?_
          refine wl_pure (.bool (!(x_a.HasOld == x_b.HasOld))) (want_none rfl) rfl rfl (by kernel_rfl) ?_
          refine wl_nil ?_
          refine wq_then ?_
          rcases Bool.eq_false_or_eq_true (x_a.HasOld == x_b.HasOld) with h94 | h94
          · skip
            refine wc_false (congrArg (fun b => Value.bool (!b)) h94) ?_
            refine wc_skip ?_
            refine wq_then ?_
            refine wc_seq ?_
            refine wc_seq ?_
            refine wc_region ?_
            refine wl_pure (.pointer (some ⟨g61, 13, none⟩)) (want_none rfl) rfl rfl (by kernel_rfl) ?_
            refine wl_load1 (.int .i64 x_a.Until) (want_none rfl) rfl rfl rfl rfl isAgg_3 b92 rfl ?_
            refine wl_pure (.pointer (some ⟨g67, 13, none⟩)) (want_none rfl) rfl rfl (by kernel_rfl) ?_
            refine wl_load1 (.int .i64 x_b.Until) (want_none rfl) rfl rfl rfl rfl isAgg_3 b93 rfl ?_
            refine wl_pure (.bool (!(decide (x_a.Until = x_b.Until)))) (want_none rfl) rfl rfl (by kernel_rfl) ?_
            refine wl_nil ?_
            refine wq_then ?_
            rcases Bool.eq_false_or_eq_true (decide (x_a.Until = x_b.Until)) with h96 | h96
            · have q97 := of_decide_eq_true h96
              refine wc_false (congrArg (fun b => Value.bool (!b)) h96) ?_
              refine wc_skip ?_
              refine wq_then ?_
              refine wc_seq ?_
              refine wc_seq ?_
              refine wc_region ?_
              refine wl_pure (.pointer (some ⟨g61, 14, none⟩)) (want_none rfl) rfl rfl (by kernel_rfl) ?_
              refine wl_load1 (.slice a26 x_a.Next.length c27) (want_none rfl) rfl rfl rfl rfl isAgg_22 b92 rfl ?_
              refine wl_pure (.pointer (some ⟨g67, 14, none⟩)) (want_none rfl) rfl rfl (by kernel_rfl) ?_
              refine wl_load1 (.slice a56 x_b.Next.length c57) (want_none rfl) rfl rfl rfl rfl isAgg_22 b93 rfl ?_
              refine wl_call (want_none rfl) (args := #[(.slice a26 x_a.Next.length c27), (.slice a56 x_b.Next.length c57)]) rfl rfl (by kernel_rfl) (C_laws_eqByteS w5 (.slice a26 x_a.Next.length c27) x_a.Next (show R_22 w5 (.slice a26 x_a.Next.length c27) x_a.Next from ⟨_, _, rfl, (r28.from0 m89), s29⟩) (.slice a56 x_b.Next.length c57) x_b.Next (show R_22 w5 (.slice a56 x_b.Next.length c57) x_b.Next from ⟨_, _, rfl, (r58.from0 m89), s59⟩)) ?_
              rintro _ w6 ⟨k98, rfl⟩
              have m99 := m89.extk k98
              refine wl_pure (.bool (!(eqB x_a.Next x_b.Next))) (want_none rfl) rfl rfl (by kernel_rfl) ?_
              refine wl_nil ?_
              refine wq_then ?_
              rcases Bool.eq_false_or_eq_true (eqB x_a.Next x_b.Next) with h100 | h100
              · skip
                refine wc_false (congrArg (fun b => Value.bool (!b)) h100) ?_
                refine wc_skip ?_
                refine wq_then ?_
                refine wc_seq ?_
                refine wc_region ?_
                refine wl_mv (.bool true) (want_none rfl) rfl rfl (.inr rfl) rfl ?_
                refine wl_nil ?_
                refine wq_then ?_
                refine wc_ret ?_
                refine ret_1 (.inl rfl) (.bool true) rfl rfl ?_
                refine ⟨m99.keep0, ?_⟩
                have hF102 : F_laws_eqChan x_a x_b = true := by simp only [F_laws_eqChan, h74, h78, h84, h90, h94, h96, h100, cond_true, cond_false]
                rw [hF102]
                exact rfl
              · skip
                refine wc_true (congrArg (fun b => Value.bool (!b)) h100) ?_
                refine wc_seq ?_
                refine wc_region ?_
                refine wl_mv (.bool false) (want_none rfl) rfl rfl (.inr rfl) rfl ?_
                refine wl_nil ?_
                refine wq_then ?_
                refine wc_ret ?_
                refine wq_then_ret ?_
                refine ret_1 (.inl rfl) (.bool false) rfl rfl ?_
                refine ⟨m99.keep0, ?_⟩
                have hF104 : F_laws_eqChan x_a x_b = false := by simp only [F_laws_eqChan, h74, h78, h84, h90, h94, h96, h100, cond_true, cond_false]
                rw [hF104]
                exact rfl
            · have q105 := of_decide_eq_false h96
              refine wc_true (congrArg (fun b => Value.bool (!b)) h96) ?_
              refine wc_seq ?_
              refine wc_region ?_
              refine wl_mv (.bool false) (want_none rfl) rfl rfl (.inr rfl) rfl ?_
              refine wl_nil ?_
              refine wq_then ?_
              refine wc_ret ?_
              refine wq_then_ret ?_
              refine ret_1 (.inl rfl) (.bool false) rfl rfl ?_
              refine ⟨m89.keep0, ?_⟩
              have hF106 : F_laws_eqChan x_a x_b = false := by simp only [F_laws_eqChan, h74, h78, h84, h90, h94, h96, cond_true, cond_false]
              rw [hF106]
              exact rfl
          · skip
            refine wc_true (congrArg (fun b => Value.bool (!b)) h94) ?_
            refine wc_seq ?_
            refine wc_region ?_
            refine wl_mv (.bool false) (want_none rfl) rfl rfl (.inr rfl) rfl ?_
            refine wl_nil ?_
            refine wq_then ?_
            refine wc_ret ?_
            refine wq_then_ret ?_
            refine ret_1 (.inl rfl) (.bool false) rfl rfl ?_
            refine ⟨m89.keep0, ?_⟩
            have hF108 : F_laws_eqChan x_a x_b = false := by simp only [F_laws_eqChan, h74, h78, h84, h90, h94, cond_true, cond_false]
            rw [hF108]
            exact rfl
        · skip
          refine wc_true (congrArg (fun b => Value.bool (!b)) h90) ?_
          refine wc_seq ?_
          refine wc_region ?_
          refine wl_mv (.bool false) (want_none rfl) rfl rfl (.inr rfl) rfl ?_
          refine wl_nil ?_
          refine wq_then ?_
          refine wc_ret ?_
          refine wq_then_ret ?_
          refine ret_1 (.inl rfl) (.bool false) rfl rfl ?_
          refine ⟨m89.keep0, ?_⟩
          have hF110 : F_laws_eqChan x_a x_b = false := by simp only [F_laws_eqChan, h74, h78, h84, h90, cond_true, cond_false]
          rw [hF110]
          exact rfl
      · skip
        refine wc_true (congrArg (fun b => Value.bool (!b)) h84) ?_
        refine wc_seq ?_
        refine wc_region ?_
        refine wl_mv (.bool false) (want_none rfl) rfl rfl (.inr rfl) rfl ?_
        refine wl_nil ?_
        refine wq_then ?_
        refine wc_ret ?_
        refine wq_then_ret ?_
        refine ret_1 (.inl rfl) (.bool false) rfl rfl ?_
        refine ⟨m83.keep0, ?_⟩
        have hF112 : F_laws_eqChan x_a x_b = false := by simp only [F_laws_eqChan, h74, h78, h84, cond_true, cond_false]
        rw [hF112]
        exact rfl
    · skip
      refine wc_true (congrArg (fun b => Value.bool (!b)) h78) ?_
      refine wc_seq ?_
      refine wc_region ?_
      refine wl_mv (.bool false) (want_none rfl) rfl rfl (.inr rfl) rfl ?_
      refine wl_nil ?_
      refine wq_then ?_
      refine wc_ret ?_
      refine wq_then_ret ?_
      refine ret_1 (.inl rfl) (.bool false) rfl rfl ?_
      refine ⟨m77.keep0, ?_⟩
      have hF114 : F_laws_eqChan x_a x_b = false := by simp only [F_laws_eqChan, h74, h78, cond_true, cond_false]
      rw [hF114]
      exact rfl
  · have q115 := of_decide_eq_false h74
    refine wc_true (congrArg (fun b => Value.bool (!b)) h74) ?_
    refine wc_seq ?_
    refine wc_region ?_
    refine wl_mv (.bool false) (want_none rfl) rfl rfl (.inr rfl) rfl ?_
    refine wl_nil ?_
    refine wq_then ?_
    refine wc_ret ?_
    refine wq_then_ret ?_
    refine ret_1 (.inl rfl) (.bool false) rfl rfl ?_
    refine ⟨m72.keep0, ?_⟩
    have hF116 : F_laws_eqChan x_a x_b = false := by simp only [F_laws_eqChan, h74, cond_true, cond_false]
    rw [hF116]
    exact rfl

theorem isAgg_41 : ∀ w, (isAgg 41).run Try.prog w = .ok true w := fun w => by kernel_rfl
theorem sizeOf_41 : ∀ w, (sizeOf 41).run Try.prog w = .ok 15 w := fun w => by kernel_rfl
def F_laws_FnExactChanOk (x_aC : PChan) : (Bool) := bif (decide ((F_laws_szChan x_aC 1048576) < 0)) then (true) else (bif ((F_impl_ChanOk (F_laws_toChan x_aC)) == (F_spec_ChanOk (F_laws_toChan x_aC))) then (bif (F_laws_eqChan (F_laws_toChan x_aC) (F_laws_toChan x_aC)) then (true) else (false)) else (false))
theorem C_laws_FnExactChanOk (w0 : World) (v_x_aC : Value) (x_aC : PChan) (r_x_aC : Q_41 w0 v_x_aC x_aC)  : Fn Try.prog 4 #[v_x_aC] w0 (fun v w' => Keep w0 w' ∧ O_4 w' w0.heap.size v (F_laws_FnExactChanOk x_aC)) := by
  obtain ⟨a1, c2, a6, c7, a11, c12, a16, c17, a21, c22, a26, c27, rfl, r3, s4, r8, s9, r13, s14, r18, s19, r23, s24, r28, s29⟩ := r_x_aC
  refine fn_of (n := 27) (l := [(.agg #[(.int .i64 x_aC.Role), (.slice a1 x_aC.Sn.length c2), (.int .i64 x_aC.Cur.N), (.slice a6 x_aC.Cur.Key.length c7), (.int .i64 x_aC.Cur.Seq), (.int .i64 x_aC.Cur.Win.Top), (.slice a11 x_aC.Cur.Win.Bits.length c12), (.int .i64 x_aC.Old.N), (.slice a16 x_aC.Old.Key.length c17), (.int .i64 x_aC.Old.Seq), (.int .i64 x_aC.Old.Win.Top), (.slice a21 x_aC.Old.Win.Bits.length c22), (.bool x_aC.HasOld), (.int .i64 x_aC.Until), (.slice a26 x_aC.Next.length c27)]), undef, undef, undef, undef, undef, undef, undef, undef, undef, undef, undef, undef, undef, undef, undef, undef, undef, undef, undef, undef, undef, undef, undef, undef, undef, undef]) Try.func4 rfl rfl (by kernel_rfl) rfl ?_
  refine wc_seq ?_
  refine wc_region ?_
  refine wl_box (want_none rfl) [(.int .i64 x_aC.Role), (.slice a1 x_aC.Sn.length c2), (.int .i64 x_aC.Cur.N), (.slice a6 x_aC.Cur.Key.length c7), (.int .i64 x_aC.Cur.Seq), (.int .i64 x_aC.Cur.Win.Top), (.slice a11 x_aC.Cur.Win.Bits.length c12), (.int .i64 x_aC.Old.N), (.slice a16 x_aC.Old.Key.length c17), (.int .i64 x_aC.Old.Seq), (.int .i64 x_aC.Old.Win.Top), (.slice a21 x_aC.Old.Win.Bits.length c22), (.bool x_aC.HasOld), (.int .i64 x_aC.Until), (.slice a26 x_aC.Next.length c27)] rfl rfl rfl rfl ?_
  intro g31 w1 p32 p33 k34 b35
  have m36 := (Ch.base w0).extk k34
  refine wl_mv (.bool false) (want_none rfl) rfl rfl (.inr rfl) rfl ?_
  refine wl_nil ?_
  refine wq_then ?_
  refine wc_seq ?_
  refine wc_region ?_
  refine wl_mv (.int .i64 1048576) (want_none rfl) rfl rfl (.inr rfl) rfl ?_
  refine wl_nil ?_
  refine wq_then ?_
  refine wc_seq ?_
  refine wc_region ?_
  refine wl_loadN [(.int .i64 x_aC.Role), (.slice a1 x_aC.Sn.length c2), (.int .i64 x_aC.Cur.N), (.slice a6 x_aC.Cur.Key.length c7), (.int .i64 x_aC.Cur.Seq), (.int .i64 x_aC.Cur.Win.Top), (.slice a11 x_aC.Cur.Win.Bits.length c12), (.int .i64 x_aC.Old.N), (.slice a16 x_aC.Old.Key.length c17), (.int .i64 x_aC.Old.Seq), (.int .i64 x_aC.Old.Win.Top), (.slice a21 x_aC.Old.Win.Bits.length c22), (.bool x_aC.HasOld), (.int .i64 x_aC.Until), (.slice a26 x_aC.Next.length c27)] (want_none rfl) rfl rfl rfl rfl isAgg_41 sizeOf_41 b35 rfl ?_
  refine wl_mv (.int .i64 1048576) (want_none rfl) rfl rfl (.inl rfl) rfl ?_
  refine wl_call (want_none rfl) (args := #[(.agg #[(.int .i64 x_aC.Role), (.slice a1 x_aC.Sn.length c2), (.int .i64 x_aC.Cur.N), (.slice a6 x_aC.Cur.Key.length c7), (.int .i64 x_aC.Cur.Seq), (.int .i64 x_aC.Cur.Win.Top), (.slice a11 x_aC.Cur.Win.Bits.length c12), (.int .i64 x_aC.Old.N), (.slice a16 x_aC.Old.Key.length c17), (.int .i64 x_aC.Old.Seq), (.int .i64 x_aC.Old.Win.Top), (.slice a21 x_aC.Old.Win.Bits.length c22), (.bool x_aC.HasOld), (.int .i64 x_aC.Until), (.slice a26 x_aC.Next.length c27)]), (.int .i64 1048576)]) rfl rfl (by kernel_rfl) (C_laws_szChan w1 (.agg #[(.int .i64 x_aC.Role), (.slice a1 x_aC.Sn.length c2), (.int .i64 x_aC.Cur.N), (.slice a6 x_aC.Cur.Key.length c7), (.int .i64 x_aC.Cur.Seq), (.int .i64 x_aC.Cur.Win.Top), (.slice a11 x_aC.Cur.Win.Bits.length c12), (.int .i64 x_aC.Old.N), (.slice a16 x_aC.Old.Key.length c17), (.int .i64 x_aC.Old.Seq), (.int .i64 x_aC.Old.Win.Top), (.slice a21 x_aC.Old.Win.Bits.length c22), (.bool x_aC.HasOld), (.int .i64 x_aC.Until), (.slice a26 x_aC.Next.length c27)]) x_aC (show Q_41 w1 (.agg #[(.int .i64 x_aC.Role), (.slice a1 x_aC.Sn.length c2), (.int .i64 x_aC.Cur.N), (.slice a6 x_aC.Cur.Key.length c7), (.int .i64 x_aC.Cur.Seq), (.int .i64 x_aC.Cur.Win.Top), (.slice a11 x_aC.Cur.Win.Bits.length c12), (.int .i64 x_aC.Old.N), (.slice a16 x_aC.Old.Key.length c17), (.int .i64 x_aC.Old.Seq), (.int .i64 x_aC.Old.Win.Top), (.slice a21 x_aC.Old.Win.Bits.length c22), (.bool x_aC.HasOld), (.int .i64 x_aC.Until), (.slice a26 x_aC.Next.length c27)]) x_aC from ⟨_, _, _, _, _, _, _, _, _, _, _, _, rfl, (r3.from0 m36), s4, (r8.from0 m36), s9, (r13.from0 m36), s14, (r18.from0 m36), s19, (r23.from0 m36), s24, (r28.from0 m36), s29⟩) 1048576 (by omega) (by omega)) ?_
  rintro _ w2 ⟨k37, rfl⟩
  have m38 := m36.extk k37
  have q39 := laws_szChan_le x_aC 1048576
  refine wl_mv (.int .i64 (F_laws_szChan x_aC 1048576)) (want_none rfl) rfl rfl (.inr rfl) rfl ?_
  refine wl_nil ?_
  refine wq_then ?_
  refine wc_seq ?_
  refine wc_seq ?_
  refine wc_region ?_
  refine wl_mv (.int .i64 (F_laws_szChan x_aC 1048576)) (want_none rfl) rfl rfl (.inl rfl) rfl ?_
  refine wl_pure (.bool (decide ((F_laws_szChan x_aC 1048576) < 0))) (want_none rfl) rfl rfl (by kernel_rfl) ?_
  refine wl_nil ?_
  refine wq_then ?_
  rcases Bool.eq_false_or_eq_true (decide ((F_laws_szChan x_aC 1048576) < 0)) with h40 | h40
  · have q41 := of_decide_eq_true h40
    refine wc_true (congrArg Value.bool h40) ?_
    refine wc_seq ?_
    refine wc_region ?_
    refine wl_mv (.bool true) (want_none rfl) rfl rfl (.inr rfl) rfl ?_
    refine wl_nil ?_
    refine wq_then ?_
    refine wc_ret ?_
    refine wq_then_ret ?_
    refine ret_1 (.inl rfl) (.bool true) rfl rfl ?_
    refine ⟨m38.keep0, ?_⟩
    have hF42 : F_laws_FnExactChanOk x_aC = true := by simp only [F_laws_FnExactChanOk, h40, cond_true, cond_false]
    rw [hF42]
    exact rfl
  · have q43 := of_decide_eq_false h40
    refine wc_false (congrArg Value.bool h40) ?_
    refine wc_skip ?_
    refine wq_then ?_
    refine wc_seq ?_
    refine wc_region ?_
    have b44 := (b35.kp k37)
    refine wl_loadN [(.int .i64 x_aC.Role), (.slice a1 x_aC.Sn.length c2), (.int .i64 x_aC.Cur.N), (.slice a6 x_aC.Cur.Key.length c7), (.int .i64 x_aC.Cur.Seq), (.int .i64 x_aC.Cur.Win.Top), (.slice a11 x_aC.Cur.Win.Bits.length c12), (.int .i64 x_aC.Old.N), (.slice a16 x_aC.Old.Key.length c17), (.int .i64 x_aC.Old.Seq), (.int .i64 x_aC.Old.Win.Top), (.slice a21 x_aC.Old.Win.Bits.length c22), (.bool x_aC.HasOld), (.int .i64 x_aC.Until), (.slice a26 x_aC.Next.length c27)] (want_none rfl) rfl rfl rfl rfl isAgg_41 sizeOf_41 b44 rfl ?_
    refine wl_call (want_none rfl) (args := #[(.agg #[(.int .i64 x_aC.Role), (.slice a1 x_aC.Sn.length c2), (.int .i64 x_aC.Cur.N), (.slice a6 x_aC.Cur.Key.length c7), (.int .i64 x_aC.Cur.Seq), (.int .i64 x_aC.Cur.Win.Top), (.slice a11 x_aC.Cur.Win.Bits.length c12), (.int .i64 x_aC.Old.N), (.slice a16 x_aC.Old.Key.length c17), (.int .i64 x_aC.Old.Seq), (.int .i64 x_aC.Old.Win.Top), (.slice a21 x_aC.Old.Win.Bits.length c22), (.bool x_aC.HasOld), (.int .i64 x_aC.Until), (.slice a26 x_aC.Next.length c27)])]) rfl rfl (by kernel_rfl) (C_laws_toChan w2 (.agg #[(.int .i64 x_aC.Role), (.slice a1 x_aC.Sn.length c2), (.int .i64 x_aC.Cur.N), (.slice a6 x_aC.Cur.Key.length c7), (.int .i64 x_aC.Cur.Seq), (.int .i64 x_aC.Cur.Win.Top), (.slice a11 x_aC.Cur.Win.Bits.length c12), (.int .i64 x_aC.Old.N), (.slice a16 x_aC.Old.Key.length c17), (.int .i64 x_aC.Old.Seq), (.int .i64 x_aC.Old.Win.Top), (.slice a21 x_aC.Old.Win.Bits.length c22), (.bool x_aC.HasOld), (.int .i64 x_aC.Until), (.slice a26 x_aC.Next.length c27)]) x_aC (show R_41 w2 (.agg #[(.int .i64 x_aC.Role), (.slice a1 x_aC.Sn.length c2), (.int .i64 x_aC.Cur.N), (.slice a6 x_aC.Cur.Key.length c7), (.int .i64 x_aC.Cur.Seq), (.int .i64 x_aC.Cur.Win.Top), (.slice a11 x_aC.Cur.Win.Bits.length c12), (.int .i64 x_aC.Old.N), (.slice a16 x_aC.Old.Key.length c17), (.int .i64 x_aC.Old.Seq), (.int .i64 x_aC.Old.Win.Top), (.slice a21 x_aC.Old.Win.Bits.length c22), (.bool x_aC.HasOld), (.int .i64 x_aC.Until), (.slice a26 x_aC.Next.length c27)]) x_aC from ⟨_, _, _, _, _, _, _, _, _, _, _, _, rfl, (r3.from0 m38), (by omega), (r8.from0 m38), (by omega), (r13.from0 m38), (by omega), (r18.from0 m38), (by omega), (r23.from0 m38), (by omega), (r28.from0 m38), (by omega)⟩)) ?_
    rintro _ w3 ⟨k45, ⟨a46, c47, a51, c52, a56, c57, a61, c62, a66, c67, a71, c72, rfl, o48, s49, o53, s54, o58, s59, o63, s64, o68, s69, o73, s74, ap76⟩⟩
    have m77 := m38.extk k45
    refine wl_call (want_none rfl) (args := #[(.agg #[(.int .i64 ((F_laws_toChan x_aC).Role)), (.slice a46 ((F_laws_toChan x_aC).Sn).length c47), (.int .i64 (((F_laws_toChan x_aC).Cur).N)), (.slice a51 (((F_laws_toChan x_aC).Cur).Key).length c52), (.int .i64 (((F_laws_toChan x_aC).Cur).Seq)), (.int .i64 ((((F_laws_toChan x_aC).Cur).Win).Top)), (.slice a56 ((((F_laws_toChan x_aC).Cur).Win).Bits).length c57), (.int .i64 (((F_laws_toChan x_aC).Old).N)), (.slice a61 (((F_laws_toChan x_aC).Old).Key).length c62), (.int .i64 (((F_laws_toChan x_aC).Old).Seq)), (.int .i64 ((((F_laws_toChan x_aC).Old).Win).Top)), (.slice a66 ((((F_laws_toChan x_aC).Old).Win).Bits).length c67), (.bool ((F_laws_toChan x_aC).HasOld)), (.int .i64 ((F_laws_toChan x_aC).Until)), (.slice a71 ((F_laws_toChan x_aC).Next).length c72)])]) rfl rfl (by kernel_rfl) (C_spec_ChanOk w3 (.agg #[(.int .i64 ((F_laws_toChan x_aC).Role)), (.slice a46 ((F_laws_toChan x_aC).Sn).length c47), (.int .i64 (((F_laws_toChan x_aC).Cur).N)), (.slice a51 (((F_laws_toChan x_aC).Cur).Key).length c52), (.int .i64 (((F_laws_toChan x_aC).Cur).Seq)), (.int .i64 ((((F_laws_toChan x_aC).Cur).Win).Top)), (.slice a56 ((((F_laws_toChan x_aC).Cur).Win).Bits).length c57), (.int .i64 (((F_laws_toChan x_aC).Old).N)), (.slice a61 (((F_laws_toChan x_aC).Old).Key).length c62), (.int .i64 (((F_laws_toChan x_aC).Old).Seq)), (.int .i64 ((((F_laws_toChan x_aC).Old).Win).Top)), (.slice a66 ((((F_laws_toChan x_aC).Old).Win).Bits).length c67), (.bool ((F_laws_toChan x_aC).HasOld)), (.int .i64 ((F_laws_toChan x_aC).Until)), (.slice a71 ((F_laws_toChan x_aC).Next).length c72)]) (F_laws_toChan x_aC) (show R_29 w3 (.agg #[(.int .i64 ((F_laws_toChan x_aC).Role)), (.slice a46 ((F_laws_toChan x_aC).Sn).length c47), (.int .i64 (((F_laws_toChan x_aC).Cur).N)), (.slice a51 (((F_laws_toChan x_aC).Cur).Key).length c52), (.int .i64 (((F_laws_toChan x_aC).Cur).Seq)), (.int .i64 ((((F_laws_toChan x_aC).Cur).Win).Top)), (.slice a56 ((((F_laws_toChan x_aC).Cur).Win).Bits).length c57), (.int .i64 (((F_laws_toChan x_aC).Old).N)), (.slice a61 (((F_laws_toChan x_aC).Old).Key).length c62), (.int .i64 (((F_laws_toChan x_aC).Old).Seq)), (.int .i64 ((((F_laws_toChan x_aC).Old).Win).Top)), (.slice a66 ((((F_laws_toChan x_aC).Old).Win).Bits).length c67), (.bool ((F_laws_toChan x_aC).HasOld)), (.int .i64 ((F_laws_toChan x_aC).Until)), (.slice a71 ((F_laws_toChan x_aC).Next).length c72)]) (F_laws_toChan x_aC) from ⟨_, _, _, _, _, _, _, _, _, _, _, _, rfl, (Rd.of_own o48), s49, (Rd.of_own o53), s54, (Rd.of_own o58), s59, (Rd.of_own o63), s64, (Rd.of_own o68), s69, (Rd.of_own o73), s74⟩)) ?_
    rintro _ w4 ⟨k78, rfl⟩
    have m79 := m77.extk k78
    refine wl_mv (.bool (F_spec_ChanOk (F_laws_toChan x_aC))) (want_none rfl) rfl rfl (.inr rfl) rfl ?_
    refine wl_nil ?_
    refine wq_then ?_
    refine wc_seq ?_
    refine wc_region ?_
    have b80 := ((b44.kp k45).kp k78)
    refine wl_loadN [(.int .i64 x_aC.Role), (.slice a1 x_aC.Sn.length c2), (.int .i64 x_aC.Cur.N), (.slice a6 x_aC.Cur.Key.length c7), (.int .i64 x_aC.Cur.Seq), (.int .i64 x_aC.Cur.Win.Top), (.slice a11 x_aC.Cur.Win.Bits.length c12), (.int .i64 x_aC.Old.N), (.slice a16 x_aC.Old.Key.length c17), (.int .i64 x_aC.Old.Seq), (.int .i64 x_aC.Old.Win.Top), (.slice a21 x_aC.Old.Win.Bits.length c22), (.bool x_aC.HasOld), (.int .i64 x_aC.Until), (.slice a26 x_aC.Next.length c27)] (want_none rfl) rfl rfl rfl rfl isAgg_41 sizeOf_41 b80 rfl ?_
    refine wl_call (want_none rfl) (args := #[(.agg #[(.int .i64 x_aC.Role), (.slice a1 x_aC.Sn.length c2), (.int .i64 x_aC.Cur.N), (.slice a6 x_aC.Cur.Key.length c7), (.int .i64 x_aC.Cur.Seq), (.int .i64 x_aC.Cur.Win.Top), (.slice a11 x_aC.Cur.Win.Bits.length c12), (.int .i64 x_aC.Old.N), (.slice a16 x_aC.Old.Key.length c17), (.int .i64 x_aC.Old.Seq), (.int .i64 x_aC.Old.Win.Top), (.slice a21 x_aC.Old.Win.Bits.length c22), (.bool x_aC.HasOld), (.int .i64 x_aC.Until), (.slice a26 x_aC.Next.length c27)])]) rfl rfl (by kernel_rfl) (C_laws_toChan w4 (.agg #[(.int .i64 x_aC.Role), (.slice a1 x_aC.Sn.length c2), (.int .i64 x_aC.Cur.N), (.slice a6 x_aC.Cur.Key.length c7), (.int .i64 x_aC.Cur.Seq), (.int .i64 x_aC.Cur.Win.Top), (.slice a11 x_aC.Cur.Win.Bits.length c12), (.int .i64 x_aC.Old.N), (.slice a16 x_aC.Old.Key.length c17), (.int .i64 x_aC.Old.Seq), (.int .i64 x_aC.Old.Win.Top), (.slice a21 x_aC.Old.Win.Bits.length c22), (.bool x_aC.HasOld), (.int .i64 x_aC.Until), (.slice a26 x_aC.Next.length c27)]) x_aC (show R_41 w4 (.agg #[(.int .i64 x_aC.Role), (.slice a1 x_aC.Sn.length c2), (.int .i64 x_aC.Cur.N), (.slice a6 x_aC.Cur.Key.length c7), (.int .i64 x_aC.Cur.Seq), (.int .i64 x_aC.Cur.Win.Top), (.slice a11 x_aC.Cur.Win.Bits.length c12), (.int .i64 x_aC.Old.N), (.slice a16 x_aC.Old.Key.length c17), (.int .i64 x_aC.Old.Seq), (.int .i64 x_aC.Old.Win.Top), (.slice a21 x_aC.Old.Win.Bits.length c22), (.bool x_aC.HasOld), (.int .i64 x_aC.Until), (.slice a26 x_aC.Next.length c27)]) x_aC from ⟨_, _, _, _, _, _, _, _, _, _, _, _, rfl, (r3.from0 m79), (by omega), (r8.from0 m79), (by omega), (r13.from0 m79), (by omega), (r18.from0 m79), (by omega), (r23.from0 m79), (by omega), (r28.from0 m79), (by omega)⟩)) ?_
    rintro _ w5 ⟨k81, ⟨a82, c83, a87, c88, a92, c93, a97, c98, a102, c103, a107, c108, rfl, o84, s85, o89, s90, o94, s95, o99, s100, o104, s105, o109, s110, ap112⟩⟩
    have m113 := m79.extk k81
    refine wl_alloc (want_none rfl) (.agg #[(.int .i64 0), (.slice none 0 0), (.int .i64 0), (.slice none 0 0), (.int .i64 0), (.int .i64 0), (.slice none 0 0), (.int .i64 0), (.slice none 0 0), (.int .i64 0), (.int .i64 0), (.slice none 0 0), (.bool false), (.int .i64 0), (.slice none 0 0)]) [(.int .i64 0), (.slice none 0 0), (.int .i64 0), (.slice none 0 0), (.int .i64 0), (.int .i64 0), (.slice none 0 0), (.int .i64 0), (.slice none 0 0), (.int .i64 0), (.int .i64 0), (.slice none 0 0), (.bool false), (.int .i64 0), (.slice none 0 0)] zero_29 rfl rfl rfl rfl ?_
    intro g114 w6 p115 p116 k117 b118
    have m119 := m113.extk k117
    refine wl_store (.agg #[(.int .i64 ((F_laws_toChan x_aC).Role)), (.slice a82 ((F_laws_toChan x_aC).Sn).length c83), (.int .i64 (((F_laws_toChan x_aC).Cur).N)), (.slice a87 (((F_laws_toChan x_aC).Cur).Key).length c88), (.int .i64 (((F_laws_toChan x_aC).Cur).Seq)), (.int .i64 ((((F_laws_toChan x_aC).Cur).Win).Top)), (.slice a92 ((((F_laws_toChan x_aC).Cur).Win).Bits).length c93), (.int .i64 (((F_laws_toChan x_aC).Old).N)), (.slice a97 (((F_laws_toChan x_aC).Old).Key).length c98), (.int .i64 (((F_laws_toChan x_aC).Old).Seq)), (.int .i64 ((((F_laws_toChan x_aC).Old).Win).Top)), (.slice a102 ((((F_laws_toChan x_aC).Old).Win).Bits).length c103), (.bool ((F_laws_toChan x_aC).HasOld)), (.int .i64 ((F_laws_toChan x_aC).Until)), (.slice a107 ((F_laws_toChan x_aC).Next).length c108)]) [(.int .i64 ((F_laws_toChan x_aC).Role)), (.slice a82 ((F_laws_toChan x_aC).Sn).length c83), (.int .i64 (((F_laws_toChan x_aC).Cur).N)), (.slice a87 (((F_laws_toChan x_aC).Cur).Key).length c88), (.int .i64 (((F_laws_toChan x_aC).Cur).Seq)), (.int .i64 ((((F_laws_toChan x_aC).Cur).Win).Top)), (.slice a92 ((((F_laws_toChan x_aC).Cur).Win).Bits).length c93), (.int .i64 (((F_laws_toChan x_aC).Old).N)), (.slice a97 (((F_laws_toChan x_aC).Old).Key).length c98), (.int .i64 (((F_laws_toChan x_aC).Old).Seq)), (.int .i64 ((((F_laws_toChan x_aC).Old).Win).Top)), (.slice a102 ((((F_laws_toChan x_aC).Old).Win).Bits).length c103), (.bool ((F_laws_toChan x_aC).HasOld)), (.int .i64 ((F_laws_toChan x_aC).Until)), (.slice a107 ((F_laws_toChan x_aC).Next).length c108)] [(.int .i64 ((F_laws_toChan x_aC).Role)), (.slice a82 ((F_laws_toChan x_aC).Sn).length c83), (.int .i64 (((F_laws_toChan x_aC).Cur).N)), (.slice a87 (((F_laws_toChan x_aC).Cur).Key).length c88), (.int .i64 (((F_laws_toChan x_aC).Cur).Seq)), (.int .i64 ((((F_laws_toChan x_aC).Cur).Win).Top)), (.slice a92 ((((F_laws_toChan x_aC).Cur).Win).Bits).length c93), (.int .i64 (((F_laws_toChan x_aC).Old).N)), (.slice a97 (((F_laws_toChan x_aC).Old).Key).length c98), (.int .i64 (((F_laws_toChan x_aC).Old).Seq)), (.int .i64 ((((F_laws_toChan x_aC).Old).Win).Top)), (.slice a102 ((((F_laws_toChan x_aC).Old).Win).Bits).length c103), (.bool ((F_laws_toChan x_aC).HasOld)), (.int .i64 ((F_laws_toChan x_aC).Until)), (.slice a107 ((F_laws_toChan x_aC).Next).length c108)] (want_none rfl) rfl rfl rfl rfl rfl (one_cons rfl (one_cons rfl (one_cons rfl (one_cons rfl (one_cons rfl (one_cons rfl (one_cons rfl (one_cons rfl (one_cons rfl (one_cons rfl (one_cons rfl (one_cons rfl (one_cons rfl (one_cons rfl (one_cons rfl one_nil))))))))))))))) sizeOf_29 b118 rfl rfl ?_
    intro w7 k120 b121 z122
    have m123 := m119.ext k120 (fun k hk => by subst hk; exact Nat.le_trans (Nat.le_trans (Nat.le_trans (Nat.le_trans (Nat.le_trans k34.size k37.size) k45.size) k78.size) k81.size) p115)
    refine wl_nil ?_
    refine wq_then ?_
    refine wc_seq ?_
    refine wc_region ?_
    refine wl_loadN [(.int .i64 ((F_laws_toChan x_aC).Role)), (.slice a82 ((F_laws_toChan x_aC).Sn).length c83), (.int .i64 (((F_laws_toChan x_aC).Cur).N)), (.slice a87 (((F_laws_toChan x_aC).Cur).Key).length c88), (.int .i64 (((F_laws_toChan x_aC).Cur).Seq)), (.int .i64 ((((F_laws_toChan x_aC).Cur).Win).Top)), (.slice a92 ((((F_laws_toChan x_aC).Cur).Win).Bits).length c93), (.int .i64 (((F_laws_toChan x_aC).Old).N)), (.slice a97 (((F_laws_toChan x_aC).Old).Key).length c98), (.int .i64 (((F_laws_toChan x_aC).Old).Seq)), (.int .i64 ((((F_laws_toChan x_aC).Old).Win).Top)), (.slice a102 ((((F_laws_toChan x_aC).Old).Win).Bits).length c103), (.bool ((F_laws_toChan x_aC).HasOld)), (.int .i64 ((F_laws_toChan x_aC).Until)), (.slice a107 ((F_laws_toChan x_aC).Next).length c108)] (want_none rfl) rfl rfl rfl rfl isAgg_29 sizeOf_29 b121 rfl ?_
    have o124 := (own_ch (own_kp o84 k117) k120 (fun g hg hlt hk => by have h1 := (own_lt o84 g hg).2; have h2 := Nat.le_trans (Nat.le_refl _) p115; omega))
    have o125 := (own_ch (own_kp o89 k117) k120 (fun g hg hlt hk => by have h1 := (own_lt o89 g hg).2; have h2 := Nat.le_trans (Nat.le_refl _) p115; omega))
    have o126 := (own_ch (own_kp o94 k117) k120 (fun g hg hlt hk => by have h1 := (own_lt o94 g hg).2; have h2 := Nat.le_trans (Nat.le_refl _) p115; omega))
    have o127 := (own_ch (own_kp o99 k117) k120 (fun g hg hlt hk => by have h1 := (own_lt o99 g hg).2; have h2 := Nat.le_trans (Nat.le_refl _) p115; omega))
    have o128 := (own_ch (own_kp o104 k117) k120 (fun g hg hlt hk => by have h1 := (own_lt o104 g hg).2; have h2 := Nat.le_trans (Nat.le_refl _) p115; omega))
    have o129 := (own_ch (own_kp o109 k117) k120 (fun g hg hlt hk => by have h1 := (own_lt o109 g hg).2; have h2 := Nat.le_trans (Nat.le_refl _) p115; omega))
    refine wl_call (want_none rfl) (args := #[(.agg #[(.int .i64 ((F_laws_toChan x_aC).Role)), (.slice a82 ((F_laws_toChan x_aC).Sn).length c83), (.int .i64 (((F_laws_toChan x_aC).Cur).N)), (.slice a87 (((F_laws_toChan x_aC).Cur).Key).length c88), (.int .i64 (((F_laws_toChan x_aC).Cur).Seq)), (.int .i64 ((((F_laws_toChan x_aC).Cur).Win).Top)), (.slice a92 ((((F_laws_toChan x_aC).Cur).Win).Bits).length c93), (.int .i64 (((F_laws_toChan x_aC).Old).N)), (.slice a97 (((F_laws_toChan x_aC).Old).Key).length c98), (.int .i64 (((F_laws_toChan x_aC).Old).Seq)), (.int .i64 ((((F_laws_toChan x_aC).Old).Win).Top)), (.slice a102 ((((F_laws_toChan x_aC).Old).Win).Bits).length c103), (.bool ((F_laws_toChan x_aC).HasOld)), (.int .i64 ((F_laws_toChan x_aC).Until)), (.slice a107 ((F_laws_toChan x_aC).Next).length c108)])]) rfl rfl (by kernel_rfl) (C_impl_ChanOk w7 (.agg #[(.int .i64 ((F_laws_toChan x_aC).Role)), (.slice a82 ((F_laws_toChan x_aC).Sn).length c83), (.int .i64 (((F_laws_toChan x_aC).Cur).N)), (.slice a87 (((F_laws_toChan x_aC).Cur).Key).length c88), (.int .i64 (((F_laws_toChan x_aC).Cur).Seq)), (.int .i64 ((((F_laws_toChan x_aC).Cur).Win).Top)), (.slice a92 ((((F_laws_toChan x_aC).Cur).Win).Bits).length c93), (.int .i64 (((F_laws_toChan x_aC).Old).N)), (.slice a97 (((F_laws_toChan x_aC).Old).Key).length c98), (.int .i64 (((F_laws_toChan x_aC).Old).Seq)), (.int .i64 ((((F_laws_toChan x_aC).Old).Win).Top)), (.slice a102 ((((F_laws_toChan x_aC).Old).Win).Bits).length c103), (.bool ((F_laws_toChan x_aC).HasOld)), (.int .i64 ((F_laws_toChan x_aC).Until)), (.slice a107 ((F_laws_toChan x_aC).Next).length c108)]) (F_laws_toChan x_aC) (show R_29 w7 (.agg #[(.int .i64 ((F_laws_toChan x_aC).Role)), (.slice a82 ((F_laws_toChan x_aC).Sn).length c83), (.int .i64 (((F_laws_toChan x_aC).Cur).N)), (.slice a87 (((F_laws_toChan x_aC).Cur).Key).length c88), (.int .i64 (((F_laws_toChan x_aC).Cur).Seq)), (.int .i64 ((((F_laws_toChan x_aC).Cur).Win).Top)), (.slice a92 ((((F_laws_toChan x_aC).Cur).Win).Bits).length c93), (.int .i64 (((F_laws_toChan x_aC).Old).N)), (.slice a97 (((F_laws_toChan x_aC).Old).Key).length c98), (.int .i64 (((F_laws_toChan x_aC).Old).Seq)), (.int .i64 ((((F_laws_toChan x_aC).Old).Win).Top)), (.slice a102 ((((F_laws_toChan x_aC).Old).Win).Bits).length c103), (.bool ((F_laws_toChan x_aC).HasOld)), (.int .i64 ((F_laws_toChan x_aC).Until)), (.slice a107 ((F_laws_toChan x_aC).Next).length c108)]) (F_laws_toChan x_aC) from ⟨_, _, _, _, _, _, _, _, _, _, _, _, rfl, (Rd.of_own o124), s85, (Rd.of_own o125), s90, (Rd.of_own o126), s95, (Rd.of_own o127), s100, (Rd.of_own o128), s105, (Rd.of_own o129), s110⟩)) ?_
    rintro _ w8 ⟨k130, rfl⟩
    have m131 := m123.extk k130
    refine wl_mv (.bool (F_impl_ChanOk (F_laws_toChan x_aC))) (want_none rfl) rfl rfl (.inr rfl) rfl ?_
    refine wl_nil ?_
    refine wq_then ?_
    refine wc_seq ?_
    refine wc_seq ?_
    refine wc_region ?_
    refine wl_mv (.bool (F_impl_ChanOk (F_laws_toChan x_aC))) (want_none rfl) rfl rfl (.inl rfl) rfl ?_
    refine wl_mv (.bool (F_spec_ChanOk (F_laws_toChan x_aC))) (want_none rfl) rfl rfl (.inl rfl) rfl ?_
    refine wl_pure (.bool (!((F_impl_ChanOk (F_laws_toChan x_aC)) == (F_spec_ChanOk (F_laws_toChan x_aC))))) (want_none rfl) rfl rfl (by kernel_rfl) ?_
    refine wl_nil ?_
    refine wq_then ?_
    rcases Bool.eq_false_or_eq_true ((F_impl_ChanOk (F_laws_toChan x_aC)) == (F_spec_ChanOk (F_laws_toChan x_aC))) with h132 | h132
    · skip
      refine wc_false (congrArg (fun b => Value.bool (!b)) h132) ?_
      refine wc_skip ?_
      refine wq_then ?_
      refine wc_seq ?_
      refine wc_seq ?_
      refine wc_draw ([(22, [], [], (fun _ v _ => v = (.agg #[(.int .i64 ((F_laws_toChan x_aC).Role)), (.slice a82 ((F_laws_toChan x_aC).Sn).length c83), (.int .i64 (((F_laws_toChan x_aC).Cur).N)), (.slice a87 (((F_laws_toChan x_aC).Cur).Key).length c88), (.int .i64 (((F_laws_toChan x_aC).Cur).Seq)), (.int .i64 ((((F_laws_toChan x_aC).Cur).Win).Top)), (.slice a92 ((((F_laws_toChan x_aC).Cur).Win).Bits).length c93), (.int .i64 (((F_laws_toChan x_aC).Old).N)), (.slice a97 (((F_laws_toChan x_aC).Old).Key).length c98), (.int .i64 (((F_laws_toChan x_aC).Old).Seq)), (.int .i64 ((((F_laws_toChan x_aC).Old).Win).Top)), (.slice a102 ((((F_laws_toChan x_aC).Old).Win).Bits).length c103), (.bool ((F_laws_toChan x_aC).HasOld)), (.int .i64 ((F_laws_toChan x_aC).Until)), (.slice a107 ((F_laws_toChan x_aC).Next).length c108)]))), (23, [], [], (fun _ v _ => v = (.agg #[(.int .i64 x_aC.Role), (.slice a1 x_aC.Sn.length c2), (.int .i64 x_aC.Cur.N), (.slice a6 x_aC.Cur.Key.length c7), (.int .i64 x_aC.Cur.Seq), (.int .i64 x_aC.Cur.Win.Top), (.slice a11 x_aC.Cur.Win.Bits.length c12), (.int .i64 x_aC.Old.N), (.slice a16 x_aC.Old.Key.length c17), (.int .i64 x_aC.Old.Seq), (.int .i64 x_aC.Old.Win.Top), (.slice a21 x_aC.Old.Win.Bits.length c22), (.bool x_aC.HasOld), (.int .i64 x_aC.Until), (.slice a26 x_aC.Next.length c27)]))), (24, [], [1], (fun _ v w => ∃ (a1 : Option Addr) (c1 : Nat) (a2 : Option Addr) (c2 : Nat) (a3 : Option Addr) (c3 : Nat) (a4 : Option Addr) (c4 : Nat) (a5 : Option Addr) (c5 : Nat) (a6 : Option Addr) (c6 : Nat), v = .agg #[.int .i64 ((F_laws_toChan x_aC).Role), .slice a1 ((F_laws_toChan x_aC).Sn).length c1, .int .i64 (((F_laws_toChan x_aC).Cur).N), .slice a2 (((F_laws_toChan x_aC).Cur).Key).length c2, .int .i64 (((F_laws_toChan x_aC).Cur).Seq), .int .i64 ((((F_laws_toChan x_aC).Cur).Win).Top), .slice a3 ((((F_laws_toChan x_aC).Cur).Win).Bits).length c3, .int .i64 (((F_laws_toChan x_aC).Old).N), .slice a4 (((F_laws_toChan x_aC).Old).Key).length c4, .int .i64 (((F_laws_toChan x_aC).Old).Seq), .int .i64 ((((F_laws_toChan x_aC).Old).Win).Top), .slice a5 ((((F_laws_toChan x_aC).Old).Win).Bits).length c5, .bool ((F_laws_toChan x_aC).HasOld), .int .i64 ((F_laws_toChan x_aC).Until), .slice a6 ((F_laws_toChan x_aC).Next).length c6] ∧ w.ownsRow (w8.heap.size) 5 1 (.slice a1 ((F_laws_toChan x_aC).Sn).length c1) ((F_laws_toChan x_aC).Sn).length (((F_laws_toChan x_aC).Sn).map bV) ∧ ((F_laws_toChan x_aC).Sn).length ≤ 1073741824 ∧ w.ownsRow (w8.heap.size) 5 1 (.slice a2 (((F_laws_toChan x_aC).Cur).Key).length c2) (((F_laws_toChan x_aC).Cur).Key).length ((((F_laws_toChan x_aC).Cur).Key).map bV) ∧ (((F_laws_toChan x_aC).Cur).Key).length ≤ 1073741824 ∧ w.ownsRow (w8.heap.size) 3 1 (.slice a3 ((((F_laws_toChan x_aC).Cur).Win).Bits).length c3) ((((F_laws_toChan x_aC).Cur).Win).Bits).length (((((F_laws_toChan x_aC).Cur).Win).Bits).map iV) ∧ ((((F_laws_toChan x_aC).Cur).Win).Bits).length ≤ 1073741824 ∧ w.ownsRow (w8.heap.size) 5 1 (.slice a4 (((F_laws_toChan x_aC).Old).Key).length c4) (((F_laws_toChan x_aC).Old).Key).length ((((F_laws_toChan x_aC).Old).Key).map bV) ∧ (((F_laws_toChan x_aC).Old).Key).length ≤ 1073741824 ∧ w.ownsRow (w8.heap.size) 3 1 (.slice a5 ((((F_laws_toChan x_aC).Old).Win).Bits).length c5) ((((F_laws_toChan x_aC).Old).Win).Bits).length (((((F_laws_toChan x_aC).Old).Win).Bits).map iV) ∧ ((((F_laws_toChan x_aC).Old).Win).Bits).length ≤ 1073741824 ∧ w.ownsRow (w8.heap.size) 5 1 (.slice a6 ((F_laws_toChan x_aC).Next).length c6) ((F_laws_toChan x_aC).Next).length (((F_laws_toChan x_aC).Next).map bV) ∧ ((F_laws_toChan x_aC).Next).length ≤ 1073741824 ∧ Aps [(a1, c1), (a2, c2), (a3, c3), (a4, c4), (a5, c5), (a6, c6)])), (25, [], [0, 1, 2], (fun _ v w => v = .bool (F_laws_eqChan (F_laws_toChan x_aC) (F_laws_toChan x_aC)))), (26, [], [0, 1, 2, 3], (fun _ v _ => v = (.bool (!(F_laws_eqChan (F_laws_toChan x_aC) (F_laws_toChan x_aC))))))] : GV) mixed rfl (by kernel_rfl) (by kernel_rfl) ?_ ?_ ?_
      · exact ⟨(fun _ _ _ _ h _ => h), (fun _ _ _ _ _ h => h), ⟨(fun _ _ _ _ h _ => h), (fun _ _ _ _ _ h => h), ⟨(fun e v w w1 h hk => by obtain ⟨a0x, c0x, a1x, c1x, a2x, c2x, a3x, c3x, a4x, c4x, a5x, c5x, he, o0x, l0x, o1x, l1x, o2x, l2x, o3x, l3x, o4x, l4x, o5x, l5x, hap⟩ := h; exact ⟨a0x, c0x, a1x, c1x, a2x, c2x, a3x, c3x, a4x, c4x, a5x, c5x, he, own_kp o0x hk, l0x, own_kp o1x hk, l1x, own_kp o2x hk, l2x, own_kp o3x hk, l3x, own_kp o4x hk, l4x, own_kp o5x hk, l5x, hap⟩), (fun _ _ _ _ _ h => h), ⟨(fun _ _ _ _ h _ => h), (fun _ _ _ _ _ h => h), ⟨(fun _ _ _ _ h _ => h), (fun _ _ _ _ _ h => h), trivial⟩⟩⟩⟩⟩
      · refine ⟨?_, ⟨?_, ⟨?_, ⟨?_, ⟨?_, trivial⟩⟩⟩⟩⟩
        · intro w9 k210
          have m211 := m131.extk k210
          intro u212
          intro u213
          intro u214
          intro u215
          intro u216
          show WL _ _ _ _ _ _ _
          have b217 := ((b121.kp k130).kp k210)
          refine wl_loadN [(.int .i64 ((F_laws_toChan x_aC).Role)), (.slice a82 ((F_laws_toChan x_aC).Sn).length c83), (.int .i64 (((F_laws_toChan x_aC).Cur).N)), (.slice a87 (((F_laws_toChan x_aC).Cur).Key).length c88), (.int .i64 (((F_laws_toChan x_aC).Cur).Seq)), (.int .i64 ((((F_laws_toChan x_aC).Cur).Win).Top)), (.slice a92 ((((F_laws_toChan x_aC).Cur).Win).Bits).length c93), (.int .i64 (((F_laws_toChan x_aC).Old).N)), (.slice a97 (((F_laws_toChan x_aC).Old).Key).length c98), (.int .i64 (((F_laws_toChan x_aC).Old).Seq)), (.int .i64 ((((F_laws_toChan x_aC).Old).Win).Top)), (.slice a102 ((((F_laws_toChan x_aC).Old).Win).Bits).length c103), (.bool ((F_laws_toChan x_aC).HasOld)), (.int .i64 ((F_laws_toChan x_aC).Until)), (.slice a107 ((F_laws_toChan x_aC).Next).length c108)] (want_none rfl) rfl rfl rfl rfl isAgg_29 sizeOf_29 b217 rfl ?_
          exact wl_fin (Ch.refl _ _) rfl
        · intro w9 k218
          have m219 := m131.extk k218
          intro u220
          intro u221
          intro u222
          intro u223
          intro u224
          show WL _ _ _ _ _ _ _
          have b225 := (((((b80.kp k81).kp k117).ch k120 (Nat.ne_of_lt (Nat.lt_of_lt_of_le p33 (Nat.le_trans (Nat.le_trans (Nat.le_trans (Nat.le_trans k37.size k45.size) k78.size) k81.size) p115)))).kp k130).kp k218)
          refine wl_loadN [(.int .i64 x_aC.Role), (.slice a1 x_aC.Sn.length c2), (.int .i64 x_aC.Cur.N), (.slice a6 x_aC.Cur.Key.length c7), (.int .i64 x_aC.Cur.Seq), (.int .i64 x_aC.Cur.Win.Top), (.slice a11 x_aC.Cur.Win.Bits.length c12), (.int .i64 x_aC.Old.N), (.slice a16 x_aC.Old.Key.length c17), (.int .i64 x_aC.Old.Seq), (.int .i64 x_aC.Old.Win.Top), (.slice a21 x_aC.Old.Win.Bits.length c22), (.bool x_aC.HasOld), (.int .i64 x_aC.Until), (.slice a26 x_aC.Next.length c27)] (want_none rfl) rfl rfl rfl rfl isAgg_41 sizeOf_41 b225 rfl ?_
          exact wl_fin (Ch.refl _ _) rfl
        · intro w9 k226
          have m227 := m131.extk k226
          intro u228
          rintro _ rfl
          intro u230
          intro u231
          intro u232
          show WL _ _ _ _ _ _ _
          refine wl_call (want_none rfl) (args := #[(.agg #[(.int .i64 x_aC.Role), (.slice a1 x_aC.Sn.length c2), (.int .i64 x_aC.Cur.N), (.slice a6 x_aC.Cur.Key.length c7), (.int .i64 x_aC.Cur.Seq), (.int .i64 x_aC.Cur.Win.Top), (.slice a11 x_aC.Cur.Win.Bits.length c12), (.int .i64 x_aC.Old.N), (.slice a16 x_aC.Old.Key.length c17), (.int .i64 x_aC.Old.Seq), (.int .i64 x_aC.Old.Win.Top), (.slice a21 x_aC.Old.Win.Bits.length c22), (.bool x_aC.HasOld), (.int .i64 x_aC.Until), (.slice a26 x_aC.Next.length c27)])]) rfl rfl (by kernel_rfl) (C_laws_toChan w9 (.agg #[(.int .i64 x_aC.Role), (.slice a1 x_aC.Sn.length c2), (.int .i64 x_aC.Cur.N), (.slice a6 x_aC.Cur.Key.length c7), (.int .i64 x_aC.Cur.Seq), (.int .i64 x_aC.Cur.Win.Top), (.slice a11 x_aC.Cur.Win.Bits.length c12), (.int .i64 x_aC.Old.N), (.slice a16 x_aC.Old.Key.length c17), (.int .i64 x_aC.Old.Seq), (.int .i64 x_aC.Old.Win.Top), (.slice a21 x_aC.Old.Win.Bits.length c22), (.bool x_aC.HasOld), (.int .i64 x_aC.Until), (.slice a26 x_aC.Next.length c27)]) x_aC (show R_41 w9 (.agg #[(.int .i64 x_aC.Role), (.slice a1 x_aC.Sn.length c2), (.int .i64 x_aC.Cur.N), (.slice a6 x_aC.Cur.Key.length c7), (.int .i64 x_aC.Cur.Seq), (.int .i64 x_aC.Cur.Win.Top), (.slice a11 x_aC.Cur.Win.Bits.length c12), (.int .i64 x_aC.Old.N), (.slice a16 x_aC.Old.Key.length c17), (.int .i64 x_aC.Old.Seq), (.int .i64 x_aC.Old.Win.Top), (.slice a21 x_aC.Old.Win.Bits.length c22), (.bool x_aC.HasOld), (.int .i64 x_aC.Until), (.slice a26 x_aC.Next.length c27)]) x_aC from ⟨_, _, _, _, _, _, _, _, _, _, _, _, rfl, (r3.from0 m227), (by omega), (r8.from0 m227), (by omega), (r13.from0 m227), (by omega), (r18.from0 m227), (by omega), (r23.from0 m227), (by omega), (r28.from0 m227), (by omega)⟩)) ?_
          rintro _ w10 ⟨k233, ⟨a234, c235, a239, c240, a244, c245, a249, c250, a254, c255, a259, c260, rfl, o236, s237, o241, s242, o246, s247, o251, s252, o256, s257, o261, s262, ap264⟩⟩
          have m265 := m227.extk k233
          exact wl_fin k233 ⟨_, _, _, _, _, _, _, _, _, _, _, _, rfl, (own_lo o236 k226.size), s237, (own_lo o241 k226.size), s242, (own_lo o246 k226.size), s247, (own_lo o251 k226.size), s252, (own_lo o256 k226.size), s257, (own_lo o261 k226.size), s262, ap264⟩
        · intro w9 k266
          have m267 := m131.extk k266
          rintro _ rfl
          rintro _ rfl
          rintro _ ⟨a270, c271, a275, c276, a280, c281, a285, c286, a290, c291, a295, c296, rfl, o272, s273, o277, s278, o282, s283, o287, s288, o292, s293, o297, s298, ap300⟩
          intro u301
          intro u302
          show WL _ _ _ _ _ _ _
          have o303 := (own_kp (own_kp o124 k130) k266)
          have o304 := (own_kp (own_kp o125 k130) k266)
          have o305 := (own_kp (own_kp o126 k130) k266)
          have o306 := (own_kp (own_kp o127 k130) k266)
          have o307 := (own_kp (own_kp o128 k130) k266)
          have o308 := (own_kp (own_kp o129 k130) k266)
          refine wl_call (want_none rfl) (args := #[(.agg #[(.int .i64 ((F_laws_toChan x_aC).Role)), (.slice a82 ((F_laws_toChan x_aC).Sn).length c83), (.int .i64 (((F_laws_toChan x_aC).Cur).N)), (.slice a87 (((F_laws_toChan x_aC).Cur).Key).length c88), (.int .i64 (((F_laws_toChan x_aC).Cur).Seq)), (.int .i64 ((((F_laws_toChan x_aC).Cur).Win).Top)), (.slice a92 ((((F_laws_toChan x_aC).Cur).Win).Bits).length c93), (.int .i64 (((F_laws_toChan x_aC).Old).N)), (.slice a97 (((F_laws_toChan x_aC).Old).Key).length c98), (.int .i64 (((F_laws_toChan x_aC).Old).Seq)), (.int .i64 ((((F_laws_toChan x_aC).Old).Win).Top)), (.slice a102 ((((F_laws_toChan x_aC).Old).Win).Bits).length c103), (.bool ((F_laws_toChan x_aC).HasOld)), (.int .i64 ((F_laws_toChan x_aC).Until)), (.slice a107 ((F_laws_toChan x_aC).Next).length c108)]), (.agg #[(.int .i64 ((F_laws_toChan x_aC).Role)), (.slice a270 ((F_laws_toChan x_aC).Sn).length c271), (.int .i64 (((F_laws_toChan x_aC).Cur).N)), (.slice a275 (((F_laws_toChan x_aC).Cur).Key).length c276), (.int .i64 (((F_laws_toChan x_aC).Cur).Seq)), (.int .i64 ((((F_laws_toChan x_aC).Cur).Win).Top)), (.slice a280 ((((F_laws_toChan x_aC).Cur).Win).Bits).length c281), (.int .i64 (((F_laws_toChan x_aC).Old).N)), (.slice a285 (((F_laws_toChan x_aC).Old).Key).length c286), (.int .i64 (((F_laws_toChan x_aC).Old).Seq)), (.int .i64 ((((F_laws_toChan x_aC).Old).Win).Top)), (.slice a290 ((((F_laws_toChan x_aC).Old).Win).Bits).length c291), (.bool ((F_laws_toChan x_aC).HasOld)), (.int .i64 ((F_laws_toChan x_aC).Until)), (.slice a295 ((F_laws_toChan x_aC).Next).length c296)])]) rfl rfl (by kernel_rfl) (C_laws_eqChan w9 (.agg #[(.int .i64 ((F_laws_toChan x_aC).Role)), (.slice a82 ((F_laws_toChan x_aC).Sn).length c83), (.int .i64 (((F_laws_toChan x_aC).Cur).N)), (.slice a87 (((F_laws_toChan x_aC).Cur).Key).length c88), (.int .i64 (((F_laws_toChan x_aC).Cur).Seq)), (.int .i64 ((((F_laws_toChan x_aC).Cur).Win).Top)), (.slice a92 ((((F_laws_toChan x_aC).Cur).Win).Bits).length c93), (.int .i64 (((F_laws_toChan x_aC).Old).N)), (.slice a97 (((F_laws_toChan x_aC).Old).Key).length c98), (.int .i64 (((F_laws_toChan x_aC).Old).Seq)), (.int .i64 ((((F_laws_toChan x_aC).Old).Win).Top)), (.slice a102 ((((F_laws_toChan x_aC).Old).Win).Bits).length c103), (.bool ((F_laws_toChan x_aC).HasOld)), (.int .i64 ((F_laws_toChan x_aC).Until)), (.slice a107 ((F_laws_toChan x_aC).Next).length c108)]) (F_laws_toChan x_aC) (show R_29 w9 (.agg #[(.int .i64 ((F_laws_toChan x_aC).Role)), (.slice a82 ((F_laws_toChan x_aC).Sn).length c83), (.int .i64 (((F_laws_toChan x_aC).Cur).N)), (.slice a87 (((F_laws_toChan x_aC).Cur).Key).length c88), (.int .i64 (((F_laws_toChan x_aC).Cur).Seq)), (.int .i64 ((((F_laws_toChan x_aC).Cur).Win).Top)), (.slice a92 ((((F_laws_toChan x_aC).Cur).Win).Bits).length c93), (.int .i64 (((F_laws_toChan x_aC).Old).N)), (.slice a97 (((F_laws_toChan x_aC).Old).Key).length c98), (.int .i64 (((F_laws_toChan x_aC).Old).Seq)), (.int .i64 ((((F_laws_toChan x_aC).Old).Win).Top)), (.slice a102 ((((F_laws_toChan x_aC).Old).Win).Bits).length c103), (.bool ((F_laws_toChan x_aC).HasOld)), (.int .i64 ((F_laws_toChan x_aC).Until)), (.slice a107 ((F_laws_toChan x_aC).Next).length c108)]) (F_laws_toChan x_aC) from ⟨_, _, _, _, _, _, _, _, _, _, _, _, rfl, (Rd.of_own o303), s85, (Rd.of_own o304), s90, (Rd.of_own o305), s95, (Rd.of_own o306), s100, (Rd.of_own o307), s105, (Rd.of_own o308), s110⟩) (.agg #[(.int .i64 ((F_laws_toChan x_aC).Role)), (.slice a270 ((F_laws_toChan x_aC).Sn).length c271), (.int .i64 (((F_laws_toChan x_aC).Cur).N)), (.slice a275 (((F_laws_toChan x_aC).Cur).Key).length c276), (.int .i64 (((F_laws_toChan x_aC).Cur).Seq)), (.int .i64 ((((F_laws_toChan x_aC).Cur).Win).Top)), (.slice a280 ((((F_laws_toChan x_aC).Cur).Win).Bits).length c281), (.int .i64 (((F_laws_toChan x_aC).Old).N)), (.slice a285 (((F_laws_toChan x_aC).Old).Key).length c286), (.int .i64 (((F_laws_toChan x_aC).Old).Seq)), (.int .i64 ((((F_laws_toChan x_aC).Old).Win).Top)), (.slice a290 ((((F_laws_toChan x_aC).Old).Win).Bits).length c291), (.bool ((F_laws_toChan x_aC).HasOld)), (.int .i64 ((F_laws_toChan x_aC).Until)), (.slice a295 ((F_laws_toChan x_aC).Next).length c296)]) (F_laws_toChan x_aC) (show R_29 w9 (.agg #[(.int .i64 ((F_laws_toChan x_aC).Role)), (.slice a270 ((F_laws_toChan x_aC).Sn).length c271), (.int .i64 (((F_laws_toChan x_aC).Cur).N)), (.slice a275 (((F_laws_toChan x_aC).Cur).Key).length c276), (.int .i64 (((F_laws_toChan x_aC).Cur).Seq)), (.int .i64 ((((F_laws_toChan x_aC).Cur).Win).Top)), (.slice a280 ((((F_laws_toChan x_aC).Cur).Win).Bits).length c281), (.int .i64 (((F_laws_toChan x_aC).Old).N)), (.slice a285 (((F_laws_toChan x_aC).Old).Key).length c286), (.int .i64 (((F_laws_toChan x_aC).Old).Seq)), (.int .i64 ((((F_laws_toChan x_aC).Old).Win).Top)), (.slice a290 ((((F_laws_toChan x_aC).Old).Win).Bits).length c291), (.bool ((F_laws_toChan x_aC).HasOld)), (.int .i64 ((F_laws_toChan x_aC).Until)), (.slice a295 ((F_laws_toChan x_aC).Next).length c296)]) (F_laws_toChan x_aC) from ⟨_, _, _, _, _, _, _, _, _, _, _, _, rfl, (Rd.of_own o272), s273, (Rd.of_own o277), s278, (Rd.of_own o282), s283, (Rd.of_own o287), s288, (Rd.of_own o292), s293, (Rd.of_own o297), s298⟩)) ?_
          rintro _ w10 ⟨k309, rfl⟩
          have m310 := m267.extk k309
          exact wl_fin k309 rfl
        · intro w9 k311
          have m312 := m131.extk k311
          rintro _ rfl
          rintro _ rfl
          rintro _ ⟨a315, c316, a320, c321, a325, c326, a330, c331, a335, c336, a340, c341, rfl, o317, s318, o322, s323, o327, s328, o332, s333, o337, s338, o342, s343, ap345⟩
          rintro _ rfl
          intro u346
          show WL _ _ _ _ _ _ _
          refine wl_pure (.bool (!(F_laws_eqChan (F_laws_toChan x_aC) (F_laws_toChan x_aC)))) (want_none rfl) rfl rfl (by kernel_rfl) ?_
          exact wl_fin (Ch.refl _ _) rfl
      · intro w9 k347
        have m348 := m131.extk k347
        rintro _ rfl
        rintro _ rfl
        rintro _ ⟨a351, c352, a356, c357, a361, c362, a366, c367, a371, c372, a376, c377, rfl, o353, s354, o358, s359, o363, s364, o368, s369, o373, s374, o378, s379, ap381⟩
        rintro _ rfl
        rintro _ rfl
        show WL _ _ _ _ _ _ _
        refine wl_nil ?_
        refine wq_then ?_
        rcases Bool.eq_false_or_eq_true (F_laws_eqChan (F_laws_toChan x_aC) (F_laws_toChan x_aC)) with h382 | h382
        · skip
          refine wc_false (congrArg (fun b => Value.bool (!b)) h382) ?_
          refine wc_skip ?_
          refine wq_then ?_
          refine wc_seq ?_
          refine wc_region ?_
          refine wl_mv (.bool true) (want_none rfl) rfl rfl (.inr rfl) rfl ?_
          refine wl_nil ?_
          refine wq_then ?_
          refine wc_ret ?_
          refine ret_1 (.inl rfl) (.bool true) rfl rfl ?_
          refine ⟨m348.keep0, ?_⟩
          have hF384 : F_laws_FnExactChanOk x_aC = true := by simp only [F_laws_FnExactChanOk, h40, h132, h382, cond_true, cond_false]
          rw [hF384]
          exact rfl
        · skip
          refine wc_true (congrArg (fun b => Value.bool (!b)) h382) ?_
          refine wc_seq ?_
          refine wc_region ?_
          refine wl_mv (.bool false) (want_none rfl) rfl rfl (.inr rfl) rfl ?_
          refine wl_nil ?_
          refine wq_then ?_
          refine wc_ret ?_
          refine wq_then_ret ?_
          refine ret_1 (.inl rfl) (.bool false) rfl rfl ?_
          refine ⟨m348.keep0, ?_⟩
          have hF386 : F_laws_FnExactChanOk x_aC = false := by simp only [F_laws_FnExactChanOk, h40, h132, h382, cond_true, cond_false]
          rw [hF386]
          exact rfl
    · skip
      refine wc_true (congrArg (fun b => Value.bool (!b)) h132) ?_
      refine wc_seq ?_
      refine wc_region ?_
      refine wl_mv (.bool false) (want_none rfl) rfl rfl (.inr rfl) rfl ?_
      refine wl_nil ?_
      refine wq_then ?_
      refine wc_ret ?_
      refine wq_then_ret ?_
      refine ret_1 (.inl rfl) (.bool false) rfl rfl ?_
      refine ⟨m131.keep0, ?_⟩
      have hF388 : F_laws_FnExactChanOk x_aC = false := by simp only [F_laws_FnExactChanOk, h40, h132, cond_true, cond_false]
      rw [hF388]
      exact rfl

def F_spec_Oldest (x_c : PChan) : (Int) := bif (F_spec_ChanOk x_c) then (bif x_c.HasOld then (x_c.Old.N) else (x_c.Cur.N)) else ((-1))
theorem C_spec_Oldest (w0 : World) (v_x_c : Value) (x_c : PChan) (r_x_c : R_29 w0 v_x_c x_c)  : Fn Try.prog 27 #[v_x_c] w0 (fun v w' => Keep w0 w' ∧ O_3 w' w0.heap.size v (F_spec_Oldest x_c)) := by
  obtain ⟨a1, c2, a6, c7, a11, c12, a16, c17, a21, c22, a26, c27, rfl, r3, s4, r8, s9, r13, s14, r18, s19, r23, s24, r28, s29⟩ := r_x_c
  refine fn_of (n := 14) (l := [(.agg #[(.int .i64 x_c.Role), (.slice a1 x_c.Sn.length c2), (.int .i64 x_c.Cur.N), (.slice a6 x_c.Cur.Key.length c7), (.int .i64 x_c.Cur.Seq), (.int .i64 x_c.Cur.Win.Top), (.slice a11 x_c.Cur.Win.Bits.length c12), (.int .i64 x_c.Old.N), (.slice a16 x_c.Old.Key.length c17), (.int .i64 x_c.Old.Seq), (.int .i64 x_c.Old.Win.Top), (.slice a21 x_c.Old.Win.Bits.length c22), (.bool x_c.HasOld), (.int .i64 x_c.Until), (.slice a26 x_c.Next.length c27)]), undef, undef, undef, undef, undef, undef, undef, undef, undef, undef, undef, undef, undef]) Try.func27 rfl rfl (by kernel_rfl) rfl ?_
  refine wc_seq ?_
  refine wc_region ?_
  refine wl_box (want_none rfl) [(.int .i64 x_c.Role), (.slice a1 x_c.Sn.length c2), (.int .i64 x_c.Cur.N), (.slice a6 x_c.Cur.Key.length c7), (.int .i64 x_c.Cur.Seq), (.int .i64 x_c.Cur.Win.Top), (.slice a11 x_c.Cur.Win.Bits.length c12), (.int .i64 x_c.Old.N), (.slice a16 x_c.Old.Key.length c17), (.int .i64 x_c.Old.Seq), (.int .i64 x_c.Old.Win.Top), (.slice a21 x_c.Old.Win.Bits.length c22), (.bool x_c.HasOld), (.int .i64 x_c.Until), (.slice a26 x_c.Next.length c27)] rfl rfl rfl rfl ?_
  intro g31 w1 p32 p33 k34 b35
  have m36 := (Ch.base w0).extk k34
  refine wl_mv (.int .i64 0) (want_none rfl) rfl rfl (.inr rfl) rfl ?_
  refine wl_nil ?_
  refine wq_then ?_
  refine wc_seq ?_
  refine wc_seq ?_
  refine wc_region ?_
  refine wl_loadN [(.int .i64 x_c.Role), (.slice a1 x_c.Sn.length c2), (.int .i64 x_c.Cur.N), (.slice a6 x_c.Cur.Key.length c7), (.int .i64 x_c.Cur.Seq), (.int .i64 x_c.Cur.Win.Top), (.slice a11 x_c.Cur.Win.Bits.length c12), (.int .i64 x_c.Old.N), (.slice a16 x_c.Old.Key.length c17), (.int .i64 x_c.Old.Seq), (.int .i64 x_c.Old.Win.Top), (.slice a21 x_c.Old.Win.Bits.length c22), (.bool x_c.HasOld), (.int .i64 x_c.Until), (.slice a26 x_c.Next.length c27)] (want_none rfl) rfl rfl rfl rfl isAgg_29 sizeOf_29 b35 rfl ?_
  refine wl_call (want_none rfl) (args := #[(.agg #[(.int .i64 x_c.Role), (.slice a1 x_c.Sn.length c2), (.int .i64 x_c.Cur.N), (.slice a6 x_c.Cur.Key.length c7), (.int .i64 x_c.Cur.Seq), (.int .i64 x_c.Cur.Win.Top), (.slice a11 x_c.Cur.Win.Bits.length c12), (.int .i64 x_c.Old.N), (.slice a16 x_c.Old.Key.length c17), (.int .i64 x_c.Old.Seq), (.int .i64 x_c.Old.Win.Top), (.slice a21 x_c.Old.Win.Bits.length c22), (.bool x_c.HasOld), (.int .i64 x_c.Until), (.slice a26 x_c.Next.length c27)])]) rfl rfl (by kernel_rfl) (C_spec_ChanOk w1 (.agg #[(.int .i64 x_c.Role), (.slice a1 x_c.Sn.length c2), (.int .i64 x_c.Cur.N), (.slice a6 x_c.Cur.Key.length c7), (.int .i64 x_c.Cur.Seq), (.int .i64 x_c.Cur.Win.Top), (.slice a11 x_c.Cur.Win.Bits.length c12), (.int .i64 x_c.Old.N), (.slice a16 x_c.Old.Key.length c17), (.int .i64 x_c.Old.Seq), (.int .i64 x_c.Old.Win.Top), (.slice a21 x_c.Old.Win.Bits.length c22), (.bool x_c.HasOld), (.int .i64 x_c.Until), (.slice a26 x_c.Next.length c27)]) x_c (show R_29 w1 (.agg #[(.int .i64 x_c.Role), (.slice a1 x_c.Sn.length c2), (.int .i64 x_c.Cur.N), (.slice a6 x_c.Cur.Key.length c7), (.int .i64 x_c.Cur.Seq), (.int .i64 x_c.Cur.Win.Top), (.slice a11 x_c.Cur.Win.Bits.length c12), (.int .i64 x_c.Old.N), (.slice a16 x_c.Old.Key.length c17), (.int .i64 x_c.Old.Seq), (.int .i64 x_c.Old.Win.Top), (.slice a21 x_c.Old.Win.Bits.length c22), (.bool x_c.HasOld), (.int .i64 x_c.Until), (.slice a26 x_c.Next.length c27)]) x_c from ⟨_, _, _, _, _, _, _, _, _, _, _, _, rfl, (r3.from0 m36), s4, (r8.from0 m36), s9, (r13.from0 m36), s14, (r18.from0 m36), s19, (r23.from0 m36), s24, (r28.from0 m36), s29⟩)) ?_
  rintro _ w2 ⟨k37, rfl⟩
  have m38 := m36.extk k37
  refine wl_pure (.bool (!(F_spec_ChanOk x_c))) (want_none rfl) rfl rfl (by kernel_rfl) ?_
  refine wl_nil ?_
  refine wq_then ?_
  rcases Bool.eq_false_or_eq_true (F_spec_ChanOk x_c) with h39 | h39
  · have q40 := spec_ChanOk_t h39
    refine wc_false (congrArg (fun b => Value.bool (!b)) h39) ?_
    refine wc_skip ?_
    refine wq_then ?_
    refine wc_seq ?_
    refine wc_seq ?_
    refine wc_region ?_
    refine wl_pure (.pointer (some ⟨g31, 12, none⟩)) (want_none rfl) rfl rfl (by kernel_rfl) ?_
    have b41 := (b35.kp k37)
    refine wl_load1 (.bool x_c.HasOld) (want_none rfl) rfl rfl rfl rfl isAgg_4 b41 rfl ?_
    refine wl_nil ?_
    refine wq_then ?_
    rcases Bool.eq_false_or_eq_true x_c.HasOld with h42 | h42
    · skip
      refine wc_true (congrArg Value.bool h42) ?_
      refine wc_seq ?_
      refine wc_region ?_
      refine wl_pure (.pointer (some ⟨g31, 7, none⟩)) (want_none rfl) rfl rfl (by kernel_rfl) ?_
      refine wl_pure (.pointer (some ⟨g31, 7, none⟩)) (want_none rfl) rfl rfl (by kernel_rfl) ?_
      refine wl_load1 (.int .i64 x_c.Old.N) (want_none rfl) rfl rfl rfl rfl isAgg_3 b41 rfl ?_
      refine wl_mv (.int .i64 x_c.Old.N) (want_none rfl) rfl rfl (.inr rfl) rfl ?_
      refine wl_nil ?_
      refine wq_then ?_
      refine wc_ret ?_
      refine wq_then_ret ?_
      refine ret_1 (.inl rfl) (.int .i64 x_c.Old.N) rfl rfl ?_
      refine ⟨m38.keep0, ?_⟩
      have hF44 : F_spec_Oldest x_c = x_c.Old.N := by simp only [F_spec_Oldest, h39, h42, cond_true, cond_false]
      rw [hF44]
      exact rfl
    · skip
      refine wc_false (congrArg Value.bool h42) ?_
      refine wc_skip ?_
      refine wq_then ?_
      refine wc_seq ?_
      refine wc_region ?_
      refine wl_pure (.pointer (some ⟨g31, 2, none⟩)) (want_none rfl) rfl rfl (by kernel_rfl) ?_
      refine wl_pure (.pointer (some ⟨g31, 2, none⟩)) (want_none rfl) rfl rfl (by kernel_rfl) ?_
      refine wl_load1 (.int .i64 x_c.Cur.N) (want_none rfl) rfl rfl rfl rfl isAgg_3 b41 rfl ?_
      refine wl_mv (.int .i64 x_c.Cur.N) (want_none rfl) rfl rfl (.inr rfl) rfl ?_
      refine wl_nil ?_
      refine wq_then ?_
      refine wc_ret ?_
      refine ret_1 (.inl rfl) (.int .i64 x_c.Cur.N) rfl rfl ?_
      refine ⟨m38.keep0, ?_⟩
      have hF46 : F_spec_Oldest x_c = x_c.Cur.N := by simp only [F_spec_Oldest, h39, h42, cond_true, cond_false]
      rw [hF46]
      exact rfl
  · skip
    refine wc_true (congrArg (fun b => Value.bool (!b)) h39) ?_
    refine wc_seq ?_
    refine wc_region ?_
    refine wl_mv (.int .i64 (-1)) (want_none rfl) rfl rfl (.inr rfl) rfl ?_
    refine wl_nil ?_
    refine wq_then ?_
    refine wc_ret ?_
    refine wq_then_ret ?_
    refine ret_1 (.inl rfl) (.int .i64 (-1)) rfl rfl ?_
    refine ⟨m38.keep0, ?_⟩
    have hF48 : F_spec_Oldest x_c = (-1) := by simp only [F_spec_Oldest, h39, cond_true, cond_false]
    rw [hF48]
    exact rfl

def F_impl_Oldest (x_c : PChan) : (Int) := bif (F_impl_ChanOk x_c) then (bif x_c.HasOld then (x_c.Old.N) else (x_c.Cur.N)) else ((-1))
theorem C_impl_Oldest (w0 : World) (v_x_c : Value) (x_c : PChan) (r_x_c : R_29 w0 v_x_c x_c)  : Fn Try.prog 28 #[v_x_c] w0 (fun v w' => Keep w0 w' ∧ O_3 w' w0.heap.size v (F_impl_Oldest x_c)) := by
  obtain ⟨a1, c2, a6, c7, a11, c12, a16, c17, a21, c22, a26, c27, rfl, r3, s4, r8, s9, r13, s14, r18, s19, r23, s24, r28, s29⟩ := r_x_c
  refine fn_of (n := 14) (l := [(.agg #[(.int .i64 x_c.Role), (.slice a1 x_c.Sn.length c2), (.int .i64 x_c.Cur.N), (.slice a6 x_c.Cur.Key.length c7), (.int .i64 x_c.Cur.Seq), (.int .i64 x_c.Cur.Win.Top), (.slice a11 x_c.Cur.Win.Bits.length c12), (.int .i64 x_c.Old.N), (.slice a16 x_c.Old.Key.length c17), (.int .i64 x_c.Old.Seq), (.int .i64 x_c.Old.Win.Top), (.slice a21 x_c.Old.Win.Bits.length c22), (.bool x_c.HasOld), (.int .i64 x_c.Until), (.slice a26 x_c.Next.length c27)]), undef, undef, undef, undef, undef, undef, undef, undef, undef, undef, undef, undef, undef]) Try.func28 rfl rfl (by kernel_rfl) rfl ?_
  refine wc_seq ?_
  refine wc_region ?_
  refine wl_box (want_none rfl) [(.int .i64 x_c.Role), (.slice a1 x_c.Sn.length c2), (.int .i64 x_c.Cur.N), (.slice a6 x_c.Cur.Key.length c7), (.int .i64 x_c.Cur.Seq), (.int .i64 x_c.Cur.Win.Top), (.slice a11 x_c.Cur.Win.Bits.length c12), (.int .i64 x_c.Old.N), (.slice a16 x_c.Old.Key.length c17), (.int .i64 x_c.Old.Seq), (.int .i64 x_c.Old.Win.Top), (.slice a21 x_c.Old.Win.Bits.length c22), (.bool x_c.HasOld), (.int .i64 x_c.Until), (.slice a26 x_c.Next.length c27)] rfl rfl rfl rfl ?_
  intro g31 w1 p32 p33 k34 b35
  have m36 := (Ch.base w0).extk k34
  refine wl_mv (.int .i64 0) (want_none rfl) rfl rfl (.inr rfl) rfl ?_
  refine wl_nil ?_
  refine wq_then ?_
  refine wc_seq ?_
  refine wc_seq ?_
  refine wc_region ?_
  refine wl_loadN [(.int .i64 x_c.Role), (.slice a1 x_c.Sn.length c2), (.int .i64 x_c.Cur.N), (.slice a6 x_c.Cur.Key.length c7), (.int .i64 x_c.Cur.Seq), (.int .i64 x_c.Cur.Win.Top), (.slice a11 x_c.Cur.Win.Bits.length c12), (.int .i64 x_c.Old.N), (.slice a16 x_c.Old.Key.length c17), (.int .i64 x_c.Old.Seq), (.int .i64 x_c.Old.Win.Top), (.slice a21 x_c.Old.Win.Bits.length c22), (.bool x_c.HasOld), (.int .i64 x_c.Until), (.slice a26 x_c.Next.length c27)] (want_none rfl) rfl rfl rfl rfl isAgg_29 sizeOf_29 b35 rfl ?_
  refine wl_call (want_none rfl) (args := #[(.agg #[(.int .i64 x_c.Role), (.slice a1 x_c.Sn.length c2), (.int .i64 x_c.Cur.N), (.slice a6 x_c.Cur.Key.length c7), (.int .i64 x_c.Cur.Seq), (.int .i64 x_c.Cur.Win.Top), (.slice a11 x_c.Cur.Win.Bits.length c12), (.int .i64 x_c.Old.N), (.slice a16 x_c.Old.Key.length c17), (.int .i64 x_c.Old.Seq), (.int .i64 x_c.Old.Win.Top), (.slice a21 x_c.Old.Win.Bits.length c22), (.bool x_c.HasOld), (.int .i64 x_c.Until), (.slice a26 x_c.Next.length c27)])]) rfl rfl (by kernel_rfl) (C_impl_ChanOk w1 (.agg #[(.int .i64 x_c.Role), (.slice a1 x_c.Sn.length c2), (.int .i64 x_c.Cur.N), (.slice a6 x_c.Cur.Key.length c7), (.int .i64 x_c.Cur.Seq), (.int .i64 x_c.Cur.Win.Top), (.slice a11 x_c.Cur.Win.Bits.length c12), (.int .i64 x_c.Old.N), (.slice a16 x_c.Old.Key.length c17), (.int .i64 x_c.Old.Seq), (.int .i64 x_c.Old.Win.Top), (.slice a21 x_c.Old.Win.Bits.length c22), (.bool x_c.HasOld), (.int .i64 x_c.Until), (.slice a26 x_c.Next.length c27)]) x_c (show R_29 w1 (.agg #[(.int .i64 x_c.Role), (.slice a1 x_c.Sn.length c2), (.int .i64 x_c.Cur.N), (.slice a6 x_c.Cur.Key.length c7), (.int .i64 x_c.Cur.Seq), (.int .i64 x_c.Cur.Win.Top), (.slice a11 x_c.Cur.Win.Bits.length c12), (.int .i64 x_c.Old.N), (.slice a16 x_c.Old.Key.length c17), (.int .i64 x_c.Old.Seq), (.int .i64 x_c.Old.Win.Top), (.slice a21 x_c.Old.Win.Bits.length c22), (.bool x_c.HasOld), (.int .i64 x_c.Until), (.slice a26 x_c.Next.length c27)]) x_c from ⟨_, _, _, _, _, _, _, _, _, _, _, _, rfl, (r3.from0 m36), s4, (r8.from0 m36), s9, (r13.from0 m36), s14, (r18.from0 m36), s19, (r23.from0 m36), s24, (r28.from0 m36), s29⟩)) ?_
  rintro _ w2 ⟨k37, rfl⟩
  have m38 := m36.extk k37
  refine wl_pure (.bool (!(F_impl_ChanOk x_c))) (want_none rfl) rfl rfl (by kernel_rfl) ?_
  refine wl_nil ?_
  refine wq_then ?_
  rcases Bool.eq_false_or_eq_true (F_impl_ChanOk x_c) with h39 | h39
  · have q40 := impl_ChanOk_t h39
    refine wc_false (congrArg (fun b => Value.bool (!b)) h39) ?_
    refine wc_skip ?_
    refine wq_then ?_
    refine wc_seq ?_
    refine wc_seq ?_
    refine wc_region ?_
    refine wl_pure (.pointer (some ⟨g31, 12, none⟩)) (want_none rfl) rfl rfl (by kernel_rfl) ?_
    have b41 := (b35.kp k37)
    refine wl_load1 (.bool x_c.HasOld) (want_none rfl) rfl rfl rfl rfl isAgg_4 b41 rfl ?_
    refine wl_nil ?_
    refine wq_then ?_
    rcases Bool.eq_false_or_eq_true x_c.HasOld with h42 | h42
    · skip
      refine wc_true (congrArg Value.bool h42) ?_
      refine wc_seq ?_
      refine wc_region ?_
      refine wl_pure (.pointer (some ⟨g31, 7, none⟩)) (want_none rfl) rfl rfl (by kernel_rfl) ?_
      refine wl_pure (.pointer (some ⟨g31, 7, none⟩)) (want_none rfl) rfl rfl (by kernel_rfl) ?_
      refine wl_load1 (.int .i64 x_c.Old.N) (want_none rfl) rfl rfl rfl rfl isAgg_3 b41 rfl ?_
      refine wl_mv (.int .i64 x_c.Old.N) (want_none rfl) rfl rfl (.inr rfl) rfl ?_
      refine wl_nil ?_
      refine wq_then ?_
      refine wc_ret ?_
      refine wq_then_ret ?_
      refine ret_1 (.inl rfl) (.int .i64 x_c.Old.N) rfl rfl ?_
      refine ⟨m38.keep0, ?_⟩
      have hF44 : F_impl_Oldest x_c = x_c.Old.N := by simp only [F_impl_Oldest, h39, h42, cond_true, cond_false]
      rw [hF44]
      exact rfl
    · skip
      refine wc_false (congrArg Value.bool h42) ?_
      refine wc_skip ?_
      refine wq_then ?_
      refine wc_seq ?_
      refine wc_region ?_
      refine wl_pure (.pointer (some ⟨g31, 2, none⟩)) (want_none rfl) rfl rfl (by kernel_rfl) ?_
      refine wl_pure (.pointer (some ⟨g31, 2, none⟩)) (want_none rfl) rfl rfl (by kernel_rfl) ?_
      refine wl_load1 (.int .i64 x_c.Cur.N) (want_none rfl) rfl rfl rfl rfl isAgg_3 b41 rfl ?_
      refine wl_mv (.int .i64 x_c.Cur.N) (want_none rfl) rfl rfl (.inr rfl) rfl ?_
      refine wl_nil ?_
      refine wq_then ?_
      refine wc_ret ?_
      refine ret_1 (.inl rfl) (.int .i64 x_c.Cur.N) rfl rfl ?_
      refine ⟨m38.keep0, ?_⟩
      have hF46 : F_impl_Oldest x_c = x_c.Cur.N := by simp only [F_impl_Oldest, h39, h42, cond_true, cond_false]
      rw [hF46]
      exact rfl
  · skip
    refine wc_true (congrArg (fun b => Value.bool (!b)) h39) ?_
    refine wc_seq ?_
    refine wc_region ?_
    refine wl_mv (.int .i64 (-1)) (want_none rfl) rfl rfl (.inr rfl) rfl ?_
    refine wl_nil ?_
    refine wq_then ?_
    refine wc_ret ?_
    refine wq_then_ret ?_
    refine ret_1 (.inl rfl) (.int .i64 (-1)) rfl rfl ?_
    refine ⟨m38.keep0, ?_⟩
    have hF48 : F_impl_Oldest x_c = (-1) := by simp only [F_impl_Oldest, h39, cond_true, cond_false]
    rw [hF48]
    exact rfl
end Go.Proofs.Ytodlalolknldmaa.K
