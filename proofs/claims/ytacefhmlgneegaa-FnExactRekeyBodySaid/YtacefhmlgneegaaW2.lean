import Derived.Test.YtacefhmlgneegaaCore
import Derived.Test.YtacefhmlgneegaaProg
import Derived.Test.YtacefhmlgneegaaHeld
import Derived.Test.YtacefhmlgneegaaFun
import Derived.Test.YtacefhmlgneegaaW1
namespace Go.Proofs.Ytacefhmlgneegaa.K
open Go.RowKit
set_option linter.unusedVariables false
set_option linter.unusedSimpArgs false
set_option maxRecDepth 100000
def O_28_3 (w : World) (lo : Nat) (v : Value) (x : (PTimer) × (Int)) : Prop := v = .tuple #[.agg #[.bool x.1.On, .int .i64 x.1.Due, .int .i64 x.1.Wait, .int .i64 x.1.Tries], .int .i64 x.2]
def F_spec_TimerNext (x_t : PTimer) (x_now : Int) : (PTimer) × (Int) := bif (F_spec_TimerFires x_t x_now) then (bif (decide (x_t.Tries = 5)) then (({ On := false, Due := 0, Wait := 0, Tries := 0 : PTimer }, 2)) else (bif (decide (8 < (2 * x_t.Wait))) then (({ On := true, Due := (x_now + 8), Wait := 8, Tries := (x_t.Tries + 1) : PTimer }, 1)) else (({ On := true, Due := (x_now + (2 * x_t.Wait)), Wait := (2 * x_t.Wait), Tries := (x_t.Tries + 1) : PTimer }, 1)))) else ((x_t, 0))
theorem C_spec_TimerNext (w0 : World) (v_x_t : Value) (x_t : PTimer) (r_x_t : R_28 w0 v_x_t x_t) (x_now : Int)  : Fn Try.prog 32 #[v_x_t, (.int .i64 x_now)] w0 (fun v w' => Keep w0 w' ∧ O_28_3 w' w0.heap.size v (F_spec_TimerNext x_t x_now)) := by
  obtain rfl := r_x_t
  refine fn_of (n := 29) (l := [(.agg #[(.bool x_t.On), (.int .i64 x_t.Due), (.int .i64 x_t.Wait), (.int .i64 x_t.Tries)]), (.int .i64 x_now), undef, undef, undef, undef, undef, undef, undef, undef, undef, undef, undef, undef, undef, undef, undef, undef, undef, undef, undef, undef, undef, undef, undef, undef, undef, undef, undef]) Try.func32 rfl rfl (by kernel_rfl) rfl ?_
  refine wc_seq ?_
  refine wc_region ?_
  refine wl_box (want_none rfl) [(.bool x_t.On), (.int .i64 x_t.Due), (.int .i64 x_t.Wait), (.int .i64 x_t.Tries)] rfl rfl rfl rfl ?_
  intro g1 w1 p2 p3 k4 b5
  have m6 := (Ch.base w0).extk k4
  refine wl_alloc (want_none rfl) (.agg #[(.bool false), (.int .i64 0), (.int .i64 0), (.int .i64 0)]) [(.bool false), (.int .i64 0), (.int .i64 0), (.int .i64 0)] zero_28 rfl rfl rfl rfl ?_
  intro g7 w2 p8 p9 k10 b11
  have m12 := m6.extk k10
  refine wl_mv (.int .i64 0) (want_none rfl) rfl rfl (.inr rfl) rfl ?_
  refine wl_nil ?_
  refine wq_then ?_
  refine wc_seq ?_
  refine wc_seq ?_
  refine wc_region ?_
  have b13 := (b5.kp k10)
  refine wl_loadN [(.bool x_t.On), (.int .i64 x_t.Due), (.int .i64 x_t.Wait), (.int .i64 x_t.Tries)] (want_none rfl) rfl rfl rfl rfl isAgg_28 sizeOf_28 b13 rfl ?_
  refine wl_mv (.int .i64 x_now) (want_none rfl) rfl rfl (.inl rfl) rfl ?_
  refine wl_call (want_none rfl) (args := #[(.agg #[(.bool x_t.On), (.int .i64 x_t.Due), (.int .i64 x_t.Wait), (.int .i64 x_t.Tries)]), (.int .i64 x_now)]) rfl rfl (by kernel_rfl) (C_spec_TimerFires w2 (.agg #[(.bool x_t.On), (.int .i64 x_t.Due), (.int .i64 x_t.Wait), (.int .i64 x_t.Tries)]) x_t (show R_28 w2 (.agg #[(.bool x_t.On), (.int .i64 x_t.Due), (.int .i64 x_t.Wait), (.int .i64 x_t.Tries)]) x_t from rfl) x_now) ?_
  rintro _ w3 ⟨k14, rfl⟩
  have m15 := m12.extk k14
  refine wl_pure (.bool (!(F_spec_TimerFires x_t x_now))) (want_none rfl) rfl rfl (by kernel_rfl) ?_
  refine wl_nil ?_
  refine wq_then ?_
  rcases Bool.eq_false_or_eq_true (F_spec_TimerFires x_t x_now) with h16 | h16
  · have q17 := spec_TimerFires_t h16
    refine wc_false (congrArg (fun b => Value.bool (!b)) h16) ?_
    refine wc_skip ?_
    refine wq_then ?_
    refine wc_seq ?_
    refine wc_seq ?_
    refine wc_region ?_
    refine wl_pure (.pointer (some ⟨g1, 3, none⟩)) (want_none rfl) rfl rfl (by kernel_rfl) ?_
    have b18 := (b13.kp k14)
    refine wl_load1 (.int .i64 x_t.Tries) (want_none rfl) rfl rfl rfl rfl isAgg_3 b18 rfl ?_
    refine wl_pure (.bool (decide (x_t.Tries = 5))) (want_none rfl) rfl rfl (by kernel_rfl) ?_
    refine wl_nil ?_
    refine wq_then ?_
    rcases Bool.eq_false_or_eq_true (decide (x_t.Tries = 5)) with h19 | h19
    · have q20 := of_decide_eq_true h19
      refine wc_true (congrArg Value.bool h19) ?_
      refine wc_seq ?_
      refine wc_region ?_
      refine wl_pure (.agg #[(.bool false), (.int .i64 0), (.int .i64 0), (.int .i64 0)]) (want_none rfl) rfl rfl (by kernel_rfl) ?_
      have b21 := (b11.kp k14)
      refine wl_store (.agg #[(.bool false), (.int .i64 0), (.int .i64 0), (.int .i64 0)]) [(.bool false), (.int .i64 0), (.int .i64 0), (.int .i64 0)] [(.bool false), (.int .i64 0), (.int .i64 0), (.int .i64 0)] (want_none rfl) rfl rfl rfl rfl rfl (one_cons rfl (one_cons rfl (one_cons rfl (one_cons rfl one_nil)))) sizeOf_28 b21 rfl rfl ?_
      intro w4 k22 b23 z24
      have m25 := m15.ext k22 (fun k hk => by subst hk; exact Nat.le_trans k4.size p8)
      refine wl_mv (.int .i64 2) (want_none rfl) rfl rfl (.inr rfl) rfl ?_
      refine wl_nil ?_
      refine wq_then ?_
      refine wc_ret ?_
      refine wq_then_ret ?_
      refine ret_2 (.inl rfl) (.agg #[(.bool false), (.int .i64 0), (.int .i64 0), (.int .i64 0)]) (.int .i64 2) rfl (rv_c [(.bool false), (.int .i64 0), (.int .i64 0), (.int .i64 0)] rfl b23 isAgg_28 sizeOf_28) rfl ?_
      refine ⟨m25.keep0, ?_⟩
      have hF26 : F_spec_TimerNext x_t x_now = ({ On := false, Due := 0, Wait := 0, Tries := 0 : PTimer }, 2) := by simp only [F_spec_TimerNext, h16, h19, cond_true, cond_false]
      rw [hF26]
      exact rfl
    · have q27 := of_decide_eq_false h19
      refine wc_false (congrArg Value.bool h19) ?_
      refine wc_skip ?_
      refine wq_then ?_
      refine wc_seq ?_
      refine wc_region ?_
      refine wl_pure (.pointer (some ⟨g1, 2, none⟩)) (want_none rfl) rfl rfl (by kernel_rfl) ?_
      refine wl_load1 (.int .i64 x_t.Wait) (want_none rfl) rfl rfl rfl rfl isAgg_3 b18 rfl ?_
      refine wl_arith (2 * x_t.Wait) (want_none rfl) rfl rfl (by kernel_rfl) (by omega) (by omega) ?_
      refine wl_mv (.int .i64 (2 * x_t.Wait)) (want_none rfl) rfl rfl (.inr rfl) rfl ?_
      refine wl_nil ?_
      refine wq_then ?_
      refine wc_seq ?_
      refine wc_seq ?_
      refine wc_region ?_
      refine wl_mv (.int .i64 (2 * x_t.Wait)) (want_none rfl) rfl rfl (.inl rfl) rfl ?_
      refine wl_pure (.bool (decide (8 < (2 * x_t.Wait)))) (want_none rfl) rfl rfl (by kernel_rfl) ?_
      refine wl_nil ?_
      refine wq_then ?_
      rcases Bool.eq_false_or_eq_true (decide (8 < (2 * x_t.Wait))) with h28 | h28
      · have q29 := of_decide_eq_true h28
        refine wc_true (congrArg Value.bool h28) ?_
        refine wc_region ?_
        refine wl_mv (.int .i64 8) (want_none rfl) rfl rfl (.inr rfl) rfl ?_
        refine wl_nil ?_
        refine wq_then ?_
        refine wc_seq ?_
        refine wc_region ?_
        refine wl_mv (.int .i64 x_now) (want_none rfl) rfl rfl (.inl rfl) rfl ?_
        refine wl_mv (.int .i64 8) (want_none rfl) rfl rfl (.inl rfl) rfl ?_
        refine wl_arith (x_now + 8) (want_none rfl) rfl rfl (by kernel_rfl) (by omega) (by omega) ?_
        refine wl_mv (.int .i64 8) (want_none rfl) rfl rfl (.inl rfl) rfl ?_
        refine wl_pure (.pointer (some ⟨g1, 3, none⟩)) (want_none rfl) rfl rfl (by kernel_rfl) ?_
        refine wl_load1 (.int .i64 x_t.Tries) (want_none rfl) rfl rfl rfl rfl isAgg_3 b18 rfl ?_
        refine wl_arith (x_t.Tries + 1) (want_none rfl) rfl rfl (by kernel_rfl) (by omega) (by omega) ?_
        refine wl_pure (.agg #[(.bool true), (.int .i64 (x_now + 8)), (.int .i64 8), (.int .i64 (x_t.Tries + 1))]) (want_none rfl) rfl rfl (by kernel_rfl) ?_
        have b30 := (b11.kp k14)
        refine wl_store (.agg #[(.bool true), (.int .i64 (x_now + 8)), (.int .i64 8), (.int .i64 (x_t.Tries + 1))]) [(.bool true), (.int .i64 (x_now + 8)), (.int .i64 8), (.int .i64 (x_t.Tries + 1))] [(.bool true), (.int .i64 (x_now + 8)), (.int .i64 8), (.int .i64 (x_t.Tries + 1))] (want_none rfl) rfl rfl rfl rfl rfl (one_cons rfl (one_cons rfl (one_cons rfl (one_cons rfl one_nil)))) sizeOf_28 b30 rfl rfl ?_
        intro w4 k31 b32 z33
        have m34 := m15.ext k31 (fun k hk => by subst hk; exact Nat.le_trans k4.size p8)
        refine wl_mv (.int .i64 1) (want_none rfl) rfl rfl (.inr rfl) rfl ?_
        refine wl_nil ?_
        refine wq_then ?_
        refine wc_ret ?_
        refine ret_2 (.inl rfl) (.agg #[(.bool true), (.int .i64 (x_now + 8)), (.int .i64 8), (.int .i64 (x_t.Tries + 1))]) (.int .i64 1) rfl (rv_c [(.bool true), (.int .i64 (x_now + 8)), (.int .i64 8), (.int .i64 (x_t.Tries + 1))] rfl b32 isAgg_28 sizeOf_28) rfl ?_
        refine ⟨m34.keep0, ?_⟩
        have hF35 : F_spec_TimerNext x_t x_now = ({ On := true, Due := (x_now + 8), Wait := 8, Tries := (x_t.Tries + 1) : PTimer }, 1) := by simp only [F_spec_TimerNext, h16, h19, h28, cond_true, cond_false]
        rw [hF35]
        exact rfl
      · have q36 := of_decide_eq_false h28
        refine wc_false (congrArg Value.bool h28) ?_
        refine wc_skip ?_
        refine wq_then ?_
        refine wc_seq ?_
        refine wc_region ?_
        refine wl_mv (.int .i64 x_now) (want_none rfl) rfl rfl (.inl rfl) rfl ?_
        refine wl_mv (.int .i64 (2 * x_t.Wait)) (want_none rfl) rfl rfl (.inl rfl) rfl ?_
        refine wl_arith (x_now + (2 * x_t.Wait)) (want_none rfl) rfl rfl (by kernel_rfl) (by omega) (by omega) ?_
        refine wl_mv (.int .i64 (2 * x_t.Wait)) (want_none rfl) rfl rfl (.inl rfl) rfl ?_
        refine wl_pure (.pointer (some ⟨g1, 3, none⟩)) (want_none rfl) rfl rfl (by kernel_rfl) ?_
        refine wl_load1 (.int .i64 x_t.Tries) (want_none rfl) rfl rfl rfl rfl isAgg_3 b18 rfl ?_
        refine wl_arith (x_t.Tries + 1) (want_none rfl) rfl rfl (by kernel_rfl) (by omega) (by omega) ?_
        refine wl_pure (.agg #[(.bool true), (.int .i64 (x_now + (2 * x_t.Wait))), (.int .i64 (2 * x_t.Wait)), (.int .i64 (x_t.Tries + 1))]) (want_none rfl) rfl rfl (by kernel_rfl) ?_
        have b37 := (b11.kp k14)
        refine wl_store (.agg #[(.bool true), (.int .i64 (x_now + (2 * x_t.Wait))), (.int .i64 (2 * x_t.Wait)), (.int .i64 (x_t.Tries + 1))]) [(.bool true), (.int .i64 (x_now + (2 * x_t.Wait))), (.int .i64 (2 * x_t.Wait)), (.int .i64 (x_t.Tries + 1))] [(.bool true), (.int .i64 (x_now + (2 * x_t.Wait))), (.int .i64 (2 * x_t.Wait)), (.int .i64 (x_t.Tries + 1))] (want_none rfl) rfl rfl rfl rfl rfl (one_cons rfl (one_cons rfl (one_cons rfl (one_cons rfl one_nil)))) sizeOf_28 b37 rfl rfl ?_
        intro w4 k38 b39 z40
        have m41 := m15.ext k38 (fun k hk => by subst hk; exact Nat.le_trans k4.size p8)
        refine wl_mv (.int .i64 1) (want_none rfl) rfl rfl (.inr rfl) rfl ?_
        refine wl_nil ?_
        refine wq_then ?_
        refine wc_ret ?_
        refine ret_2 (.inl rfl) (.agg #[(.bool true), (.int .i64 (x_now + (2 * x_t.Wait))), (.int .i64 (2 * x_t.Wait)), (.int .i64 (x_t.Tries + 1))]) (.int .i64 1) rfl (rv_c [(.bool true), (.int .i64 (x_now + (2 * x_t.Wait))), (.int .i64 (2 * x_t.Wait)), (.int .i64 (x_t.Tries + 1))] rfl b39 isAgg_28 sizeOf_28) rfl ?_
        refine ⟨m41.keep0, ?_⟩
        have hF42 : F_spec_TimerNext x_t x_now = ({ On := true, Due := (x_now + (2 * x_t.Wait)), Wait := (2 * x_t.Wait), Tries := (x_t.Tries + 1) : PTimer }, 1) := by simp only [F_spec_TimerNext, h16, h19, h28, cond_true, cond_false]
        rw [hF42]
        exact rfl
  · skip
    refine wc_true (congrArg (fun b => Value.bool (!b)) h16) ?_
    refine wc_seq ?_
    refine wc_region ?_
    have b44 := (b13.kp k14)
    refine wl_loadN [(.bool x_t.On), (.int .i64 x_t.Due), (.int .i64 x_t.Wait), (.int .i64 x_t.Tries)] (want_none rfl) rfl rfl rfl rfl isAgg_28 sizeOf_28 b44 rfl ?_
    have b45 := (b11.kp k14)
    refine wl_store (.agg #[(.bool x_t.On), (.int .i64 x_t.Due), (.int .i64 x_t.Wait), (.int .i64 x_t.Tries)]) [(.bool x_t.On), (.int .i64 x_t.Due), (.int .i64 x_t.Wait), (.int .i64 x_t.Tries)] [(.bool x_t.On), (.int .i64 x_t.Due), (.int .i64 x_t.Wait), (.int .i64 x_t.Tries)] (want_none rfl) rfl rfl rfl rfl rfl (one_cons rfl (one_cons rfl (one_cons rfl (one_cons rfl one_nil)))) sizeOf_28 b45 rfl rfl ?_
    intro w4 k46 b47 z48
    have m49 := m15.ext k46 (fun k hk => by subst hk; exact Nat.le_trans k4.size p8)
    refine wl_mv (.int .i64 0) (want_none rfl) rfl rfl (.inr rfl) rfl ?_
    refine wl_nil ?_
    refine wq_then ?_
    refine wc_ret ?_
    refine wq_then_ret ?_
    refine ret_2 (.inl rfl) (.agg #[(.bool x_t.On), (.int .i64 x_t.Due), (.int .i64 x_t.Wait), (.int .i64 x_t.Tries)]) (.int .i64 0) rfl (rv_c [(.bool x_t.On), (.int .i64 x_t.Due), (.int .i64 x_t.Wait), (.int .i64 x_t.Tries)] rfl b47 isAgg_28 sizeOf_28) rfl ?_
    refine ⟨m49.keep0, ?_⟩
    have hF50 : F_spec_TimerNext x_t x_now = (x_t, 0) := by simp only [F_spec_TimerNext, h16, cond_true, cond_false]
    rw [hF50]
    exact rfl

def F_impl_TimerNext (x_t : PTimer) (x_now : Int) : (PTimer) × (Int) := bif (F_impl_TimerFires x_t x_now) then (bif (decide (x_t.Tries = 5)) then (({ On := false, Due := 0, Wait := 0, Tries := 0 : PTimer }, 2)) else (({ On := true, Due := (x_now + (if 8 < (2 * x_t.Wait) then 8 else (2 * x_t.Wait))), Wait := (if 8 < (2 * x_t.Wait) then 8 else (2 * x_t.Wait)), Tries := (x_t.Tries + 1) : PTimer }, 1))) else ((x_t, 0))
theorem C_impl_TimerNext (w0 : World) (v_x_t : Value) (x_t : PTimer) (r_x_t : R_28 w0 v_x_t x_t) (x_now : Int)  : Fn Try.prog 33 #[v_x_t, (.int .i64 x_now)] w0 (fun v w' => Keep w0 w' ∧ O_28_3 w' w0.heap.size v (F_impl_TimerNext x_t x_now)) := by
  obtain rfl := r_x_t
  refine fn_of (n := 28) (l := [(.agg #[(.bool x_t.On), (.int .i64 x_t.Due), (.int .i64 x_t.Wait), (.int .i64 x_t.Tries)]), (.int .i64 x_now), undef, undef, undef, undef, undef, undef, undef, undef, undef, undef, undef, undef, undef, undef, undef, undef, undef, undef, undef, undef, undef, undef, undef, undef, undef, undef]) Try.func33 rfl rfl (by kernel_rfl) rfl ?_
  refine wc_seq ?_
  refine wc_region ?_
  refine wl_box (want_none rfl) [(.bool x_t.On), (.int .i64 x_t.Due), (.int .i64 x_t.Wait), (.int .i64 x_t.Tries)] rfl rfl rfl rfl ?_
  intro g1 w1 p2 p3 k4 b5
  have m6 := (Ch.base w0).extk k4
  refine wl_alloc (want_none rfl) (.agg #[(.bool false), (.int .i64 0), (.int .i64 0), (.int .i64 0)]) [(.bool false), (.int .i64 0), (.int .i64 0), (.int .i64 0)] zero_28 rfl rfl rfl rfl ?_
  intro g7 w2 p8 p9 k10 b11
  have m12 := m6.extk k10
  refine wl_mv (.int .i64 0) (want_none rfl) rfl rfl (.inr rfl) rfl ?_
  refine wl_nil ?_
  refine wq_then ?_
  refine wc_seq ?_
  refine wc_seq ?_
  refine wc_region ?_
  have b13 := (b5.kp k10)
  refine wl_loadN [(.bool x_t.On), (.int .i64 x_t.Due), (.int .i64 x_t.Wait), (.int .i64 x_t.Tries)] (want_none rfl) rfl rfl rfl rfl isAgg_28 sizeOf_28 b13 rfl ?_
  refine wl_mv (.int .i64 x_now) (want_none rfl) rfl rfl (.inl rfl) rfl ?_
  refine wl_call (want_none rfl) (args := #[(.agg #[(.bool x_t.On), (.int .i64 x_t.Due), (.int .i64 x_t.Wait), (.int .i64 x_t.Tries)]), (.int .i64 x_now)]) rfl rfl (by kernel_rfl) (C_impl_TimerFires w2 (.agg #[(.bool x_t.On), (.int .i64 x_t.Due), (.int .i64 x_t.Wait), (.int .i64 x_t.Tries)]) x_t (show R_28 w2 (.agg #[(.bool x_t.On), (.int .i64 x_t.Due), (.int .i64 x_t.Wait), (.int .i64 x_t.Tries)]) x_t from rfl) x_now) ?_
  rintro _ w3 ⟨k14, rfl⟩
  have m15 := m12.extk k14
  refine wl_pure (.bool (!(F_impl_TimerFires x_t x_now))) (want_none rfl) rfl rfl (by kernel_rfl) ?_
  refine wl_nil ?_
  refine wq_then ?_
  rcases Bool.eq_false_or_eq_true (F_impl_TimerFires x_t x_now) with h16 | h16
  · have q17 := impl_TimerFires_t h16
    refine wc_false (congrArg (fun b => Value.bool (!b)) h16) ?_
    refine wc_skip ?_
    refine wq_then ?_
    refine wc_seq ?_
    refine wc_seq ?_
    refine wc_region ?_
    refine wl_pure (.pointer (some ⟨g1, 3, none⟩)) (want_none rfl) rfl rfl (by kernel_rfl) ?_
    have b18 := (b13.kp k14)
    refine wl_load1 (.int .i64 x_t.Tries) (want_none rfl) rfl rfl rfl rfl isAgg_3 b18 rfl ?_
    refine wl_pure (.bool (decide (x_t.Tries = 5))) (want_none rfl) rfl rfl (by kernel_rfl) ?_
    refine wl_nil ?_
    refine wq_then ?_
    rcases Bool.eq_false_or_eq_true (decide (x_t.Tries = 5)) with h19 | h19
    · have q20 := of_decide_eq_true h19
      refine wc_true (congrArg Value.bool h19) ?_
      refine wc_seq ?_
      refine wc_region ?_
      refine wl_pure (.agg #[(.bool false), (.int .i64 0), (.int .i64 0), (.int .i64 0)]) (want_none rfl) rfl rfl (by kernel_rfl) ?_
      have b21 := (b11.kp k14)
      refine wl_store (.agg #[(.bool false), (.int .i64 0), (.int .i64 0), (.int .i64 0)]) [(.bool false), (.int .i64 0), (.int .i64 0), (.int .i64 0)] [(.bool false), (.int .i64 0), (.int .i64 0), (.int .i64 0)] (want_none rfl) rfl rfl rfl rfl rfl (one_cons rfl (one_cons rfl (one_cons rfl (one_cons rfl one_nil)))) sizeOf_28 b21 rfl rfl ?_
      intro w4 k22 b23 z24
      have m25 := m15.ext k22 (fun k hk => by subst hk; exact Nat.le_trans k4.size p8)
      refine wl_mv (.int .i64 2) (want_none rfl) rfl rfl (.inr rfl) rfl ?_
      refine wl_nil ?_
      refine wq_then ?_
      refine wc_ret ?_
      refine wq_then_ret ?_
      refine ret_2 (.inl rfl) (.agg #[(.bool false), (.int .i64 0), (.int .i64 0), (.int .i64 0)]) (.int .i64 2) rfl (rv_c [(.bool false), (.int .i64 0), (.int .i64 0), (.int .i64 0)] rfl b23 isAgg_28 sizeOf_28) rfl ?_
      refine ⟨m25.keep0, ?_⟩
      have hF26 : F_impl_TimerNext x_t x_now = ({ On := false, Due := 0, Wait := 0, Tries := 0 : PTimer }, 2) := by simp only [F_impl_TimerNext, h16, h19, cond_true, cond_false]
      rw [hF26]
      exact rfl
    · have q27 := of_decide_eq_false h19
      refine wc_false (congrArg Value.bool h19) ?_
      refine wc_skip ?_
      refine wq_then ?_
      refine wc_seq ?_
      refine wc_region ?_
      refine wl_pure (.pointer (some ⟨g1, 2, none⟩)) (want_none rfl) rfl rfl (by kernel_rfl) ?_
      refine wl_load1 (.int .i64 x_t.Wait) (want_none rfl) rfl rfl rfl rfl isAgg_3 b18 rfl ?_
      refine wl_arith (2 * x_t.Wait) (want_none rfl) rfl rfl (by kernel_rfl) (by omega) (by omega) ?_
      refine wl_pure (.int .i64 (if 8 < (2 * x_t.Wait) then 8 else (2 * x_t.Wait))) (want_none rfl) rfl rfl (by kernel_rfl) ?_
      refine wl_mv (.int .i64 (if 8 < (2 * x_t.Wait) then 8 else (2 * x_t.Wait))) (want_none rfl) rfl rfl (.inr rfl) rfl ?_
      refine wl_nil ?_
      refine wq_then ?_
      refine wc_seq ?_
      refine wc_region ?_
      refine wl_mv (.int .i64 x_now) (want_none rfl) rfl rfl (.inl rfl) rfl ?_
      refine wl_mv (.int .i64 (if 8 < (2 * x_t.Wait) then 8 else (2 * x_t.Wait))) (want_none rfl) rfl rfl (.inl rfl) rfl ?_
      refine wl_arith (x_now + (if 8 < (2 * x_t.Wait) then 8 else (2 * x_t.Wait))) (want_none rfl) rfl rfl (by kernel_rfl) (by omega) (by omega) ?_
      refine wl_mv (.int .i64 (if 8 < (2 * x_t.Wait) then 8 else (2 * x_t.Wait))) (want_none rfl) rfl rfl (.inl rfl) rfl ?_
      refine wl_pure (.pointer (some ⟨g1, 3, none⟩)) (want_none rfl) rfl rfl (by kernel_rfl) ?_
      refine wl_load1 (.int .i64 x_t.Tries) (want_none rfl) rfl rfl rfl rfl isAgg_3 b18 rfl ?_
      refine wl_arith (x_t.Tries + 1) (want_none rfl) rfl rfl (by kernel_rfl) (by omega) (by omega) ?_
      refine wl_pure (.agg #[(.bool true), (.int .i64 (x_now + (if 8 < (2 * x_t.Wait) then 8 else (2 * x_t.Wait)))), (.int .i64 (if 8 < (2 * x_t.Wait) then 8 else (2 * x_t.Wait))), (.int .i64 (x_t.Tries + 1))]) (want_none rfl) rfl rfl (by kernel_rfl) ?_
      have b28 := (b11.kp k14)
      refine wl_store (.agg #[(.bool true), (.int .i64 (x_now + (if 8 < (2 * x_t.Wait) then 8 else (2 * x_t.Wait)))), (.int .i64 (if 8 < (2 * x_t.Wait) then 8 else (2 * x_t.Wait))), (.int .i64 (x_t.Tries + 1))]) [(.bool true), (.int .i64 (x_now + (if 8 < (2 * x_t.Wait) then 8 else (2 * x_t.Wait)))), (.int .i64 (if 8 < (2 * x_t.Wait) then 8 else (2 * x_t.Wait))), (.int .i64 (x_t.Tries + 1))] [(.bool true), (.int .i64 (x_now + (if 8 < (2 * x_t.Wait) then 8 else (2 * x_t.Wait)))), (.int .i64 (if 8 < (2 * x_t.Wait) then 8 else (2 * x_t.Wait))), (.int .i64 (x_t.Tries + 1))] (want_none rfl) rfl rfl rfl rfl rfl (one_cons rfl (one_cons rfl (one_cons rfl (one_cons rfl one_nil)))) sizeOf_28 b28 rfl rfl ?_
      intro w4 k29 b30 z31
      have m32 := m15.ext k29 (fun k hk => by subst hk; exact Nat.le_trans k4.size p8)
      refine wl_mv (.int .i64 1) (want_none rfl) rfl rfl (.inr rfl) rfl ?_
      refine wl_nil ?_
      refine wq_then ?_
      refine wc_ret ?_
      refine ret_2 (.inl rfl) (.agg #[(.bool true), (.int .i64 (x_now + (if 8 < (2 * x_t.Wait) then 8 else (2 * x_t.Wait)))), (.int .i64 (if 8 < (2 * x_t.Wait) then 8 else (2 * x_t.Wait))), (.int .i64 (x_t.Tries + 1))]) (.int .i64 1) rfl (rv_c [(.bool true), (.int .i64 (x_now + (if 8 < (2 * x_t.Wait) then 8 else (2 * x_t.Wait)))), (.int .i64 (if 8 < (2 * x_t.Wait) then 8 else (2 * x_t.Wait))), (.int .i64 (x_t.Tries + 1))] rfl b30 isAgg_28 sizeOf_28) rfl ?_
      refine ⟨m32.keep0, ?_⟩
      have hF33 : F_impl_TimerNext x_t x_now = ({ On := true, Due := (x_now + (if 8 < (2 * x_t.Wait) then 8 else (2 * x_t.Wait))), Wait := (if 8 < (2 * x_t.Wait) then 8 else (2 * x_t.Wait)), Tries := (x_t.Tries + 1) : PTimer }, 1) := by simp only [F_impl_TimerNext, h16, h19, cond_true, cond_false]
      rw [hF33]
      exact rfl
  · skip
    refine wc_true (congrArg (fun b => Value.bool (!b)) h16) ?_
    refine wc_seq ?_
    refine wc_region ?_
    have b35 := (b13.kp k14)
    refine wl_loadN [(.bool x_t.On), (.int .i64 x_t.Due), (.int .i64 x_t.Wait), (.int .i64 x_t.Tries)] (want_none rfl) rfl rfl rfl rfl isAgg_28 sizeOf_28 b35 rfl ?_
    have b36 := (b11.kp k14)
    refine wl_store (.agg #[(.bool x_t.On), (.int .i64 x_t.Due), (.int .i64 x_t.Wait), (.int .i64 x_t.Tries)]) [(.bool x_t.On), (.int .i64 x_t.Due), (.int .i64 x_t.Wait), (.int .i64 x_t.Tries)] [(.bool x_t.On), (.int .i64 x_t.Due), (.int .i64 x_t.Wait), (.int .i64 x_t.Tries)] (want_none rfl) rfl rfl rfl rfl rfl (one_cons rfl (one_cons rfl (one_cons rfl (one_cons rfl one_nil)))) sizeOf_28 b36 rfl rfl ?_
    intro w4 k37 b38 z39
    have m40 := m15.ext k37 (fun k hk => by subst hk; exact Nat.le_trans k4.size p8)
    refine wl_mv (.int .i64 0) (want_none rfl) rfl rfl (.inr rfl) rfl ?_
    refine wl_nil ?_
    refine wq_then ?_
    refine wc_ret ?_
    refine wq_then_ret ?_
    refine ret_2 (.inl rfl) (.agg #[(.bool x_t.On), (.int .i64 x_t.Due), (.int .i64 x_t.Wait), (.int .i64 x_t.Tries)]) (.int .i64 0) rfl (rv_c [(.bool x_t.On), (.int .i64 x_t.Due), (.int .i64 x_t.Wait), (.int .i64 x_t.Tries)] rfl b38 isAgg_28 sizeOf_28) rfl ?_
    refine ⟨m40.keep0, ?_⟩
    have hF41 : F_impl_TimerNext x_t x_now = (x_t, 0) := by simp only [F_impl_TimerNext, h16, cond_true, cond_false]
    rw [hF41]
    exact rfl

def F_laws_FnExactTimerNext (x_aT : PTimer) (x_aNow : Int) : (Bool) := bif (F_laws_eqTimer ((F_impl_TimerNext (F_laws_toTimer x_aT) x_aNow).1) ((F_spec_TimerNext (F_laws_toTimer x_aT) x_aNow).1)) then (bif (decide ((F_impl_TimerNext (F_laws_toTimer x_aT) x_aNow).2 = (F_spec_TimerNext (F_laws_toTimer x_aT) x_aNow).2)) then (true) else (false)) else (false)
theorem C_laws_FnExactTimerNext (w0 : World) (v_x_aT : Value) (x_aT : PTimer) (r_x_aT : Q_26 w0 v_x_aT x_aT) (x_aNow : Int)  : Fn Try.prog 9 #[v_x_aT, (.int .i64 x_aNow)] w0 (fun v w' => Keep w0 w' ∧ O_4 w' w0.heap.size v (F_laws_FnExactTimerNext x_aT x_aNow)) := by
  obtain rfl := r_x_aT
  refine fn_of (n := 32) (l := [(.agg #[(.bool x_aT.On), (.int .i64 x_aT.Due), (.int .i64 x_aT.Wait), (.int .i64 x_aT.Tries)]), (.int .i64 x_aNow), undef, undef, undef, undef, undef, undef, undef, undef, undef, undef, undef, undef, undef, undef, undef, undef, undef, undef, undef, undef, undef, undef, undef, undef, undef, undef, undef, undef, undef, undef]) Try.func9 rfl rfl (by kernel_rfl) rfl ?_
  refine wc_seq ?_
  refine wc_region ?_
  refine wl_box (want_none rfl) [(.bool x_aT.On), (.int .i64 x_aT.Due), (.int .i64 x_aT.Wait), (.int .i64 x_aT.Tries)] rfl rfl rfl rfl ?_
  intro g1 w1 p2 p3 k4 b5
  have m6 := (Ch.base w0).extk k4
  refine wl_mv (.bool false) (want_none rfl) rfl rfl (.inr rfl) rfl ?_
  refine wl_nil ?_
  refine wq_then ?_
  refine wc_seq ?_
  refine wc_region ?_
  refine wl_loadN [(.bool x_aT.On), (.int .i64 x_aT.Due), (.int .i64 x_aT.Wait), (.int .i64 x_aT.Tries)] (want_none rfl) rfl rfl rfl rfl isAgg_26 sizeOf_26 b5 rfl ?_
  refine wl_call (want_none rfl) (args := #[(.agg #[(.bool x_aT.On), (.int .i64 x_aT.Due), (.int .i64 x_aT.Wait), (.int .i64 x_aT.Tries)])]) rfl rfl (by kernel_rfl) (C_laws_toTimer w1 (.agg #[(.bool x_aT.On), (.int .i64 x_aT.Due), (.int .i64 x_aT.Wait), (.int .i64 x_aT.Tries)]) x_aT (show R_26 w1 (.agg #[(.bool x_aT.On), (.int .i64 x_aT.Due), (.int .i64 x_aT.Wait), (.int .i64 x_aT.Tries)]) x_aT from rfl)) ?_
  rintro _ w2 ⟨k7, rfl⟩
  have m8 := m6.extk k7
  refine wl_mv (.int .i64 x_aNow) (want_none rfl) rfl rfl (.inl rfl) rfl ?_
  refine wl_call (want_none rfl) (args := #[(.agg #[(.bool ((F_laws_toTimer x_aT).On)), (.int .i64 ((F_laws_toTimer x_aT).Due)), (.int .i64 ((F_laws_toTimer x_aT).Wait)), (.int .i64 ((F_laws_toTimer x_aT).Tries))]), (.int .i64 x_aNow)]) rfl rfl (by kernel_rfl) (C_spec_TimerNext w2 (.agg #[(.bool ((F_laws_toTimer x_aT).On)), (.int .i64 ((F_laws_toTimer x_aT).Due)), (.int .i64 ((F_laws_toTimer x_aT).Wait)), (.int .i64 ((F_laws_toTimer x_aT).Tries))]) (F_laws_toTimer x_aT) (show R_28 w2 (.agg #[(.bool ((F_laws_toTimer x_aT).On)), (.int .i64 ((F_laws_toTimer x_aT).Due)), (.int .i64 ((F_laws_toTimer x_aT).Wait)), (.int .i64 ((F_laws_toTimer x_aT).Tries))]) (F_laws_toTimer x_aT) from rfl) x_aNow) ?_
  rintro _ w3 ⟨k9, rfl⟩
  have m10 := m8.extk k9
  refine wl_mv (.tuple #[(.agg #[(.bool (((F_spec_TimerNext (F_laws_toTimer x_aT) x_aNow).1).On)), (.int .i64 (((F_spec_TimerNext (F_laws_toTimer x_aT) x_aNow).1).Due)), (.int .i64 (((F_spec_TimerNext (F_laws_toTimer x_aT) x_aNow).1).Wait)), (.int .i64 (((F_spec_TimerNext (F_laws_toTimer x_aT) x_aNow).1).Tries))]), (.int .i64 ((F_spec_TimerNext (F_laws_toTimer x_aT) x_aNow).2))]) (want_none rfl) rfl rfl (.inl rfl) rfl ?_
  refine wl_pure (.agg #[(.bool (((F_spec_TimerNext (F_laws_toTimer x_aT) x_aNow).1).On)), (.int .i64 (((F_spec_TimerNext (F_laws_toTimer x_aT) x_aNow).1).Due)), (.int .i64 (((F_spec_TimerNext (F_laws_toTimer x_aT) x_aNow).1).Wait)), (.int .i64 (((F_spec_TimerNext (F_laws_toTimer x_aT) x_aNow).1).Tries))]) (want_none rfl) rfl rfl (by kernel_rfl) ?_
  refine wl_pure (.int .i64 ((F_spec_TimerNext (F_laws_toTimer x_aT) x_aNow).2)) (want_none rfl) rfl rfl (by kernel_rfl) ?_
  refine wl_alloc (want_none rfl) (.agg #[(.bool false), (.int .i64 0), (.int .i64 0), (.int .i64 0)]) [(.bool false), (.int .i64 0), (.int .i64 0), (.int .i64 0)] zero_28 rfl rfl rfl rfl ?_
  intro g11 w4 p12 p13 k14 b15
  have m16 := m10.extk k14
  refine wl_store (.agg #[(.bool (((F_spec_TimerNext (F_laws_toTimer x_aT) x_aNow).1).On)), (.int .i64 (((F_spec_TimerNext (F_laws_toTimer x_aT) x_aNow).1).Due)), (.int .i64 (((F_spec_TimerNext (F_laws_toTimer x_aT) x_aNow).1).Wait)), (.int .i64 (((F_spec_TimerNext (F_laws_toTimer x_aT) x_aNow).1).Tries))]) [(.bool (((F_spec_TimerNext (F_laws_toTimer x_aT) x_aNow).1).On)), (.int .i64 (((F_spec_TimerNext (F_laws_toTimer x_aT) x_aNow).1).Due)), (.int .i64 (((F_spec_TimerNext (F_laws_toTimer x_aT) x_aNow).1).Wait)), (.int .i64 (((F_spec_TimerNext (F_laws_toTimer x_aT) x_aNow).1).Tries))] [(.bool (((F_spec_TimerNext (F_laws_toTimer x_aT) x_aNow).1).On)), (.int .i64 (((F_spec_TimerNext (F_laws_toTimer x_aT) x_aNow).1).Due)), (.int .i64 (((F_spec_TimerNext (F_laws_toTimer x_aT) x_aNow).1).Wait)), (.int .i64 (((F_spec_TimerNext (F_laws_toTimer x_aT) x_aNow).1).Tries))] (want_none rfl) rfl rfl rfl rfl rfl (one_cons rfl (one_cons rfl (one_cons rfl (one_cons rfl one_nil)))) sizeOf_28 b15 rfl rfl ?_
  intro w5 k17 b18 z19
  have m20 := m16.ext k17 (fun k hk => by subst hk; exact Nat.le_trans (Nat.le_trans (Nat.le_trans k4.size k7.size) k9.size) p12)
  refine wl_mv (.int .i64 ((F_spec_TimerNext (F_laws_toTimer x_aT) x_aNow).2)) (want_none rfl) rfl rfl (.inr rfl) rfl ?_
  refine wl_nil ?_
  refine wq_then ?_
  refine wc_seq ?_
  refine wc_region ?_
  have b21 := ((((b5.kp k7).kp k9).kp k14).ch k17 (Nat.ne_of_lt (Nat.lt_of_lt_of_le p3 (Nat.le_trans (Nat.le_trans k7.size k9.size) p12))))
  refine wl_loadN [(.bool x_aT.On), (.int .i64 x_aT.Due), (.int .i64 x_aT.Wait), (.int .i64 x_aT.Tries)] (want_none rfl) rfl rfl rfl rfl isAgg_26 sizeOf_26 b21 rfl ?_
  refine wl_call (want_none rfl) (args := #[(.agg #[(.bool x_aT.On), (.int .i64 x_aT.Due), (.int .i64 x_aT.Wait), (.int .i64 x_aT.Tries)])]) rfl rfl (by kernel_rfl) (C_laws_toTimer w5 (.agg #[(.bool x_aT.On), (.int .i64 x_aT.Due), (.int .i64 x_aT.Wait), (.int .i64 x_aT.Tries)]) x_aT (show R_26 w5 (.agg #[(.bool x_aT.On), (.int .i64 x_aT.Due), (.int .i64 x_aT.Wait), (.int .i64 x_aT.Tries)]) x_aT from rfl)) ?_
  rintro _ w6 ⟨k22, rfl⟩
  have m23 := m20.extk k22
  refine wl_mv (.int .i64 x_aNow) (want_none rfl) rfl rfl (.inl rfl) rfl ?_
  refine wl_call (want_none rfl) (args := #[(.agg #[(.bool ((F_laws_toTimer x_aT).On)), (.int .i64 ((F_laws_toTimer x_aT).Due)), (.int .i64 ((F_laws_toTimer x_aT).Wait)), (.int .i64 ((F_laws_toTimer x_aT).Tries))]), (.int .i64 x_aNow)]) rfl rfl (by kernel_rfl) (C_impl_TimerNext w6 (.agg #[(.bool ((F_laws_toTimer x_aT).On)), (.int .i64 ((F_laws_toTimer x_aT).Due)), (.int .i64 ((F_laws_toTimer x_aT).Wait)), (.int .i64 ((F_laws_toTimer x_aT).Tries))]) (F_laws_toTimer x_aT) (show R_28 w6 (.agg #[(.bool ((F_laws_toTimer x_aT).On)), (.int .i64 ((F_laws_toTimer x_aT).Due)), (.int .i64 ((F_laws_toTimer x_aT).Wait)), (.int .i64 ((F_laws_toTimer x_aT).Tries))]) (F_laws_toTimer x_aT) from rfl) x_aNow) ?_
  rintro _ w7 ⟨k24, rfl⟩
  have m25 := m23.extk k24
  refine wl_mv (.tuple #[(.agg #[(.bool (((F_impl_TimerNext (F_laws_toTimer x_aT) x_aNow).1).On)), (.int .i64 (((F_impl_TimerNext (F_laws_toTimer x_aT) x_aNow).1).Due)), (.int .i64 (((F_impl_TimerNext (F_laws_toTimer x_aT) x_aNow).1).Wait)), (.int .i64 (((F_impl_TimerNext (F_laws_toTimer x_aT) x_aNow).1).Tries))]), (.int .i64 ((F_impl_TimerNext (F_laws_toTimer x_aT) x_aNow).2))]) (want_none rfl) rfl rfl (.inl rfl) rfl ?_
  refine wl_pure (.agg #[(.bool (((F_impl_TimerNext (F_laws_toTimer x_aT) x_aNow).1).On)), (.int .i64 (((F_impl_TimerNext (F_laws_toTimer x_aT) x_aNow).1).Due)), (.int .i64 (((F_impl_TimerNext (F_laws_toTimer x_aT) x_aNow).1).Wait)), (.int .i64 (((F_impl_TimerNext (F_laws_toTimer x_aT) x_aNow).1).Tries))]) (want_none rfl) rfl rfl (by kernel_rfl) ?_
  refine wl_pure (.int .i64 ((F_impl_TimerNext (F_laws_toTimer x_aT) x_aNow).2)) (want_none rfl) rfl rfl (by kernel_rfl) ?_
  refine wl_alloc (want_none rfl) (.agg #[(.bool false), (.int .i64 0), (.int .i64 0), (.int .i64 0)]) [(.bool false), (.int .i64 0), (.int .i64 0), (.int .i64 0)] zero_28 rfl rfl rfl rfl ?_
  intro g26 w8 p27 p28 k29 b30
  have m31 := m25.extk k29
  refine wl_store (.agg #[(.bool (((F_impl_TimerNext (F_laws_toTimer x_aT) x_aNow).1).On)), (.int .i64 (((F_impl_TimerNext (F_laws_toTimer x_aT) x_aNow).1).Due)), (.int .i64 (((F_impl_TimerNext (F_laws_toTimer x_aT) x_aNow).1).Wait)), (.int .i64 (((F_impl_TimerNext (F_laws_toTimer x_aT) x_aNow).1).Tries))]) [(.bool (((F_impl_TimerNext (F_laws_toTimer x_aT) x_aNow).1).On)), (.int .i64 (((F_impl_TimerNext (F_laws_toTimer x_aT) x_aNow).1).Due)), (.int .i64 (((F_impl_TimerNext (F_laws_toTimer x_aT) x_aNow).1).Wait)), (.int .i64 (((F_impl_TimerNext (F_laws_toTimer x_aT) x_aNow).1).Tries))] [(.bool (((F_impl_TimerNext (F_laws_toTimer x_aT) x_aNow).1).On)), (.int .i64 (((F_impl_TimerNext (F_laws_toTimer x_aT) x_aNow).1).Due)), (.int .i64 (((F_impl_TimerNext (F_laws_toTimer x_aT) x_aNow).1).Wait)), (.int .i64 (((F_impl_TimerNext (F_laws_toTimer x_aT) x_aNow).1).Tries))] (want_none rfl) rfl rfl rfl rfl rfl (one_cons rfl (one_cons rfl (one_cons rfl (one_cons rfl one_nil)))) sizeOf_28 b30 rfl rfl ?_
  intro w9 k32 b33 z34
  have m35 := m31.ext k32 (fun k hk => by subst hk; exact Nat.le_trans (Nat.le_trans (Nat.le_trans (Nat.le_trans (Nat.le_trans (Nat.le_trans (Nat.le_trans k4.size k7.size) k9.size) k14.size) k17.size) k22.size) k24.size) p27)
  refine wl_mv (.int .i64 ((F_impl_TimerNext (F_laws_toTimer x_aT) x_aNow).2)) (want_none rfl) rfl rfl (.inr rfl) rfl ?_
  refine wl_nil ?_
  refine wq_then ?_
  refine wc_seq ?_
  refine wc_seq ?_
  refine wc_region ?_
  refine wl_loadN [(.bool (((F_impl_TimerNext (F_laws_toTimer x_aT) x_aNow).1).On)), (.int .i64 (((F_impl_TimerNext (F_laws_toTimer x_aT) x_aNow).1).Due)), (.int .i64 (((F_impl_TimerNext (F_laws_toTimer x_aT) x_aNow).1).Wait)), (.int .i64 (((F_impl_TimerNext (F_laws_toTimer x_aT) x_aNow).1).Tries))] (want_none rfl) rfl rfl rfl rfl isAgg_28 sizeOf_28 b33 rfl ?_
  have b36 := ((((b18.kp k22).kp k24).kp k29).ch k32 (Nat.ne_of_lt (Nat.lt_of_lt_of_le p13 (Nat.le_trans (Nat.le_trans (Nat.le_trans k17.size k22.size) k24.size) p27))))
  refine wl_loadN [(.bool (((F_spec_TimerNext (F_laws_toTimer x_aT) x_aNow).1).On)), (.int .i64 (((F_spec_TimerNext (F_laws_toTimer x_aT) x_aNow).1).Due)), (.int .i64 (((F_spec_TimerNext (F_laws_toTimer x_aT) x_aNow).1).Wait)), (.int .i64 (((F_spec_TimerNext (F_laws_toTimer x_aT) x_aNow).1).Tries))] (want_none rfl) rfl rfl rfl rfl isAgg_28 sizeOf_28 b36 rfl ?_
  refine wl_call (want_none rfl) (args := #[(.agg #[(.bool (((F_impl_TimerNext (F_laws_toTimer x_aT) x_aNow).1).On)), (.int .i64 (((F_impl_TimerNext (F_laws_toTimer x_aT) x_aNow).1).Due)), (.int .i64 (((F_impl_TimerNext (F_laws_toTimer x_aT) x_aNow).1).Wait)), (.int .i64 (((F_impl_TimerNext (F_laws_toTimer x_aT) x_aNow).1).Tries))]), (.agg #[(.bool (((F_spec_TimerNext (F_laws_toTimer x_aT) x_aNow).1).On)), (.int .i64 (((F_spec_TimerNext (F_laws_toTimer x_aT) x_aNow).1).Due)), (.int .i64 (((F_spec_TimerNext (F_laws_toTimer x_aT) x_aNow).1).Wait)), (.int .i64 (((F_spec_TimerNext (F_laws_toTimer x_aT) x_aNow).1).Tries))])]) rfl rfl (by kernel_rfl) (C_laws_eqTimer w9 (.agg #[(.bool (((F_impl_TimerNext (F_laws_toTimer x_aT) x_aNow).1).On)), (.int .i64 (((F_impl_TimerNext (F_laws_toTimer x_aT) x_aNow).1).Due)), (.int .i64 (((F_impl_TimerNext (F_laws_toTimer x_aT) x_aNow).1).Wait)), (.int .i64 (((F_impl_TimerNext (F_laws_toTimer x_aT) x_aNow).1).Tries))]) ((F_impl_TimerNext (F_laws_toTimer x_aT) x_aNow).1) (show R_28 w9 (.agg #[(.bool (((F_impl_TimerNext (F_laws_toTimer x_aT) x_aNow).1).On)), (.int .i64 (((F_impl_TimerNext (F_laws_toTimer x_aT) x_aNow).1).Due)), (.int .i64 (((F_impl_TimerNext (F_laws_toTimer x_aT) x_aNow).1).Wait)), (.int .i64 (((F_impl_TimerNext (F_laws_toTimer x_aT) x_aNow).1).Tries))]) ((F_impl_TimerNext (F_laws_toTimer x_aT) x_aNow).1) from rfl) (.agg #[(.bool (((F_spec_TimerNext (F_laws_toTimer x_aT) x_aNow).1).On)), (.int .i64 (((F_spec_TimerNext (F_laws_toTimer x_aT) x_aNow).1).Due)), (.int .i64 (((F_spec_TimerNext (F_laws_toTimer x_aT) x_aNow).1).Wait)), (.int .i64 (((F_spec_TimerNext (F_laws_toTimer x_aT) x_aNow).1).Tries))]) ((F_spec_TimerNext (F_laws_toTimer x_aT) x_aNow).1) (show R_28 w9 (.agg #[(.bool (((F_spec_TimerNext (F_laws_toTimer x_aT) x_aNow).1).On)), (.int .i64 (((F_spec_TimerNext (F_laws_toTimer x_aT) x_aNow).1).Due)), (.int .i64 (((F_spec_TimerNext (F_laws_toTimer x_aT) x_aNow).1).Wait)), (.int .i64 (((F_spec_TimerNext (F_laws_toTimer x_aT) x_aNow).1).Tries))]) ((F_spec_TimerNext (F_laws_toTimer x_aT) x_aNow).1) from rfl)) ?_
  rintro _ w10 ⟨k37, rfl⟩
  have m38 := m35.extk k37
  refine wl_pure (.bool (!(F_laws_eqTimer ((F_impl_TimerNext (F_laws_toTimer x_aT) x_aNow).1) ((F_spec_TimerNext (F_laws_toTimer x_aT) x_aNow).1)))) (want_none rfl) rfl rfl (by kernel_rfl) ?_
  refine wl_mv (.bool (!(F_laws_eqTimer ((F_impl_TimerNext (F_laws_toTimer x_aT) x_aNow).1) ((F_spec_TimerNext (F_laws_toTimer x_aT) x_aNow).1)))) (want_none rfl) rfl rfl (.inl rfl) rfl ?_
  rcases Bool.eq_false_or_eq_true (F_laws_eqTimer ((F_impl_TimerNext (F_laws_toTimer x_aT) x_aNow).1) ((F_spec_TimerNext (F_laws_toTimer x_aT) x_aNow).1)) with h39 | h39
  · skip
    refine wl_mv (.int .i64 ((F_impl_TimerNext (F_laws_toTimer x_aT) x_aNow).2)) (want_some rfl rfl rfl (congrArg (fun b => Value.bool (!b)) h39)) rfl rfl (.inl rfl) rfl ?_
    refine wl_mv (.int .i64 ((F_spec_TimerNext (F_laws_toTimer x_aT) x_aNow).2)) (want_some rfl rfl rfl (congrArg (fun b => Value.bool (!b)) h39)) rfl rfl (.inl rfl) rfl ?_
    refine wl_pure (.bool (!(decide ((F_impl_TimerNext (F_laws_toTimer x_aT) x_aNow).2 = (F_spec_TimerNext (F_laws_toTimer x_aT) x_aNow).2)))) (want_some rfl rfl rfl (congrArg (fun b => Value.bool (!b)) h39)) rfl rfl (by kernel_rfl) ?_
    refine wl_pick_f (.bool (!(decide ((F_impl_TimerNext (F_laws_toTimer x_aT) x_aNow).2 = (F_spec_TimerNext (F_laws_toTimer x_aT) x_aNow).2)))) (want_none rfl) rfl rfl rfl (congrArg (fun b => Value.bool (!b)) h39) rfl ?_
    refine wl_nil ?_
    refine wq_then ?_
    rcases Bool.eq_false_or_eq_true (decide ((F_impl_TimerNext (F_laws_toTimer x_aT) x_aNow).2 = (F_spec_TimerNext (F_laws_toTimer x_aT) x_aNow).2)) with h41 | h41
    · have q42 := of_decide_eq_true h41
      refine wc_false (congrArg (fun b => Value.bool (!b)) h41) ?_
      refine wc_skip ?_
      refine wq_then ?_
      refine wc_seq ?_
      refine wc_region ?_
      refine wl_mv (.bool true) (want_none rfl) rfl rfl (.inr rfl) rfl ?_
      refine wl_nil ?_
      refine wq_then ?_
      refine wc_ret ?_
      refine ret_1 (.inl rfl) (.bool true) rfl rfl ?_
      refine ⟨m38.keep0, ?_⟩
      have hF43 : F_laws_FnExactTimerNext x_aT x_aNow = true := by simp only [F_laws_FnExactTimerNext, h39, h41, cond_true, cond_false]
      rw [hF43]
      exact rfl
    · have q44 := of_decide_eq_false h41
      refine wc_true (congrArg (fun b => Value.bool (!b)) h41) ?_
      refine wc_seq ?_
      refine wc_region ?_
      refine wl_mv (.bool false) (want_none rfl) rfl rfl (.inr rfl) rfl ?_
      refine wl_nil ?_
      refine wq_then ?_
      refine wc_ret ?_
      refine wq_then_ret ?_
      refine ret_1 (.inl rfl) (.bool false) rfl rfl ?_
      refine ⟨m38.keep0, ?_⟩
      have hF45 : F_laws_FnExactTimerNext x_aT x_aNow = false := by simp only [F_laws_FnExactTimerNext, h39, h41, cond_true, cond_false]
      rw [hF45]
      exact rfl
  · skip
    refine wl_skip rfl rfl rfl (congrArg (fun b => Value.bool (!b)) h39) rfl rfl rfl ?_
    refine wl_skip rfl rfl rfl (congrArg (fun b => Value.bool (!b)) h39) rfl rfl rfl ?_
    refine wl_skip rfl rfl rfl (congrArg (fun b => Value.bool (!b)) h39) rfl rfl rfl ?_
    refine wl_pick_t (.bool true) (want_none rfl) rfl rfl rfl (congrArg (fun b => Value.bool (!b)) h39) rfl ?_
    refine wl_nil ?_
    refine wq_then ?_
    refine wc_true rfl ?_
    refine wc_seq ?_
    refine wc_region ?_
    refine wl_mv (.bool false) (want_none rfl) rfl rfl (.inr rfl) rfl ?_
    refine wl_nil ?_
    refine wq_then ?_
    refine wc_ret ?_
    refine wq_then_ret ?_
    refine ret_1 (.inl rfl) (.bool false) rfl rfl ?_
    refine ⟨m38.keep0, ?_⟩
    have hF47 : F_laws_FnExactTimerNext x_aT x_aNow = false := by simp only [F_laws_FnExactTimerNext, h39, cond_true, cond_false]
    rw [hF47]
    exact rfl

theorem zero_49 : ∀ w, (zeroValue 49).run Try.prog w = .ok (.agg #[(.int .i64 0), (.int .i64 0)]) w := fun w => by kernel_rfl
theorem isAgg_49 : ∀ w, (isAgg 49).run Try.prog w = .ok true w := fun w => by kernel_rfl
theorem sizeOf_49 : ∀ w, (sizeOf 49).run Try.prog w = .ok 2 w := fun w => by kernel_rfl
def R_69 (w : World) (v : Value) (x : (PAddr)) : Prop := v = .agg #[.int .i64 x.Host, .int .i64 x.Port]
def O_49 (w : World) (lo : Nat) (v : Value) (x : (PAddr)) : Prop := v = .agg #[.int .i64 x.Host, .int .i64 x.Port]
def F_laws_toAddr (x_a : PAddr) : (PAddr) := x_a
theorem C_laws_toAddr (w0 : World) (v_x_a : Value) (x_a : PAddr) (r_x_a : R_69 w0 v_x_a x_a)  : Fn Try.prog 64 #[v_x_a] w0 (fun v w' => Keep w0 w' ∧ O_49 w' w0.heap.size v (F_laws_toAddr x_a)) := by
  obtain rfl := r_x_a
  refine fn_of (n := 11) (l := [(.agg #[(.int .i64 x_a.Host), (.int .i64 x_a.Port)]), undef, undef, undef, undef, undef, undef, undef, undef, undef, undef]) Try.func64 rfl rfl (by kernel_rfl) rfl ?_
  refine wc_seq ?_
  refine wc_region ?_
  refine wl_box (want_none rfl) [(.int .i64 x_a.Host), (.int .i64 x_a.Port)] rfl rfl rfl rfl ?_
  intro g1 w1 p2 p3 k4 b5
  have m6 := (Ch.base w0).extk k4
  refine wl_alloc (want_none rfl) (.agg #[(.int .i64 0), (.int .i64 0)]) [(.int .i64 0), (.int .i64 0)] zero_49 rfl rfl rfl rfl ?_
  intro g7 w2 p8 p9 k10 b11
  have m12 := m6.extk k10
  refine wl_nil ?_
  refine wq_then ?_
  refine wc_seq ?_
  refine wc_region ?_
  refine wl_alloc (want_none rfl) (.agg #[(.int .i64 0), (.int .i64 0)]) [(.int .i64 0), (.int .i64 0)] zero_49 rfl rfl rfl rfl ?_
  intro g13 w3 p14 p15 k16 b17
  have m18 := m12.extk k16
  refine wl_nil ?_
  refine wq_then ?_
  refine wc_seq ?_
  refine wc_region ?_
  refine wl_pure (.pointer (some ⟨g1, 0, none⟩)) (want_none rfl) rfl rfl (by kernel_rfl) ?_
  have b19 := ((b5.kp k10).kp k16)
  refine wl_load1 (.int .i64 x_a.Host) (want_none rfl) rfl rfl rfl rfl isAgg_3 b19 rfl ?_
  refine wl_pure (.pointer (some ⟨g13, 0, none⟩)) (want_none rfl) rfl rfl (by kernel_rfl) ?_
  refine wl_store (.int .i64 x_a.Host) [(.int .i64 x_a.Host)] [(.int .i64 x_a.Host), (.int .i64 0)] (want_none rfl) rfl rfl rfl rfl rfl (one_cons rfl one_nil) sizeOf_3 b17 rfl rfl ?_
  intro w4 k20 b21 z22
  have m23 := m18.ext k20 (fun k hk => by subst hk; exact Nat.le_trans (Nat.le_trans k4.size k10.size) p14)
  refine wl_nil ?_
  refine wq_then ?_
  refine wc_seq ?_
  refine wc_region ?_
  refine wl_pure (.pointer (some ⟨g1, 1, none⟩)) (want_none rfl) rfl rfl (by kernel_rfl) ?_
  have b24 := (b19.ch k20 (Nat.ne_of_lt (Nat.lt_of_lt_of_le p3 (Nat.le_trans k10.size p14))))
  refine wl_load1 (.int .i64 x_a.Port) (want_none rfl) rfl rfl rfl rfl isAgg_3 b24 rfl ?_
  refine wl_pure (.pointer (some ⟨g13, 1, none⟩)) (want_none rfl) rfl rfl (by kernel_rfl) ?_
  refine wl_store (.int .i64 x_a.Port) [(.int .i64 x_a.Port)] [(.int .i64 x_a.Host), (.int .i64 x_a.Port)] (want_none rfl) rfl rfl rfl rfl rfl (one_cons rfl one_nil) sizeOf_3 b21 rfl rfl ?_
  intro w5 k25 b26 z27
  have m28 := m23.ext k25 (fun k hk => by subst hk; exact Nat.le_trans (Nat.le_trans k4.size k10.size) p14)
  refine wl_nil ?_
  refine wq_then ?_
  refine wc_seq ?_
  refine wc_region ?_
  refine wl_loadN [(.int .i64 x_a.Host), (.int .i64 x_a.Port)] (want_none rfl) rfl rfl rfl rfl isAgg_49 sizeOf_49 b26 rfl ?_
  have b29 := (((b11.kp k16).ch k20 (Nat.ne_of_lt (Nat.lt_of_lt_of_le p9 (Nat.le_trans (Nat.le_refl _) p14)))).ch k25 (Nat.ne_of_lt (Nat.lt_of_lt_of_le p9 (Nat.le_trans (Nat.le_refl _) p14))))
  refine wl_store (.agg #[(.int .i64 x_a.Host), (.int .i64 x_a.Port)]) [(.int .i64 x_a.Host), (.int .i64 x_a.Port)] [(.int .i64 x_a.Host), (.int .i64 x_a.Port)] (want_none rfl) rfl rfl rfl rfl rfl (one_cons rfl (one_cons rfl one_nil)) sizeOf_49 b29 rfl rfl ?_
  intro w6 k30 b31 z32
  have m33 := m28.ext k30 (fun k hk => by subst hk; exact Nat.le_trans k4.size p8)
  refine wl_nil ?_
  refine wq_then ?_
  refine wc_ret ?_
  refine ret_1 (.inl rfl) (.agg #[(.int .i64 x_a.Host), (.int .i64 x_a.Port)]) rfl (rv_c [(.int .i64 x_a.Host), (.int .i64 x_a.Port)] rfl b31 isAgg_49 sizeOf_49) ?_
  refine ⟨m33.keep0, ?_⟩
  have hF34 : F_laws_toAddr x_a = x_a := by rfl
  rw [hF34]
  exact rfl

theorem zero_67 : ∀ w, (zeroValue 67).run Try.prog w = .ok (.agg #[(.int .i64 0), (.int .i64 0), (.int .i64 0), (.int .i64 0)]) w := fun w => by kernel_rfl
theorem isAgg_69 : ∀ w, (isAgg 69).run Try.prog w = .ok true w := fun w => by kernel_rfl
theorem sizeOf_69 : ∀ w, (sizeOf 69).run Try.prog w = .ok 2 w := fun w => by kernel_rfl
theorem isAgg_67 : ∀ w, (isAgg 67).run Try.prog w = .ok true w := fun w => by kernel_rfl
theorem sizeOf_67 : ∀ w, (sizeOf 67).run Try.prog w = .ok 4 w := fun w => by kernel_rfl
def R_71 (w : World) (v : Value) (x : (PCredit)) : Prop := v = .agg #[.int .i64 x.A.Host, .int .i64 x.A.Port, .int .i64 x.Got, .int .i64 x.Sent]
def O_67 (w : World) (lo : Nat) (v : Value) (x : (PCredit)) : Prop := v = .agg #[.int .i64 x.A.Host, .int .i64 x.A.Port, .int .i64 x.Got, .int .i64 x.Sent]
def F_laws_toCredit (x_a : PCredit) : (PCredit) := { A := (F_laws_toAddr x_a.A), Got := x_a.Got, Sent := x_a.Sent : PCredit }
theorem C_laws_toCredit (w0 : World) (v_x_a : Value) (x_a : PCredit) (r_x_a : R_71 w0 v_x_a x_a)  : Fn Try.prog 55 #[v_x_a] w0 (fun v w' => Keep w0 w' ∧ O_67 w' w0.heap.size v (F_laws_toCredit x_a)) := by
  obtain rfl := r_x_a
  refine fn_of (n := 15) (l := [(.agg #[(.int .i64 x_a.A.Host), (.int .i64 x_a.A.Port), (.int .i64 x_a.Got), (.int .i64 x_a.Sent)]), undef, undef, undef, undef, undef, undef, undef, undef, undef, undef, undef, undef, undef, undef]) Try.func55 rfl rfl (by kernel_rfl) rfl ?_
  refine wc_seq ?_
  refine wc_region ?_
  refine wl_box (want_none rfl) [(.int .i64 x_a.A.Host), (.int .i64 x_a.A.Port), (.int .i64 x_a.Got), (.int .i64 x_a.Sent)] rfl rfl rfl rfl ?_
  intro g1 w1 p2 p3 k4 b5
  have m6 := (Ch.base w0).extk k4
  refine wl_alloc (want_none rfl) (.agg #[(.int .i64 0), (.int .i64 0), (.int .i64 0), (.int .i64 0)]) [(.int .i64 0), (.int .i64 0), (.int .i64 0), (.int .i64 0)] zero_67 rfl rfl rfl rfl ?_
  intro g7 w2 p8 p9 k10 b11
  have m12 := m6.extk k10
  refine wl_nil ?_
  refine wq_then ?_
  refine wc_seq ?_
  refine wc_region ?_
  refine wl_alloc (want_none rfl) (.agg #[(.int .i64 0), (.int .i64 0), (.int .i64 0), (.int .i64 0)]) [(.int .i64 0), (.int .i64 0), (.int .i64 0), (.int .i64 0)] zero_67 rfl rfl rfl rfl ?_
  intro g13 w3 p14 p15 k16 b17
  have m18 := m12.extk k16
  refine wl_nil ?_
  refine wq_then ?_
  refine wc_seq ?_
  refine wc_region ?_
  refine wl_pure (.pointer (some ⟨g1, 0, none⟩)) (want_none rfl) rfl rfl (by kernel_rfl) ?_
  have b19 := ((b5.kp k10).kp k16)
  refine wl_loadN [(.int .i64 x_a.A.Host), (.int .i64 x_a.A.Port)] (want_none rfl) rfl rfl rfl rfl isAgg_69 sizeOf_69 b19 rfl ?_
  refine wl_call (want_none rfl) (args := #[(.agg #[(.int .i64 x_a.A.Host), (.int .i64 x_a.A.Port)])]) rfl rfl (by kernel_rfl) (C_laws_toAddr w3 (.agg #[(.int .i64 x_a.A.Host), (.int .i64 x_a.A.Port)]) x_a.A (show R_69 w3 (.agg #[(.int .i64 x_a.A.Host), (.int .i64 x_a.A.Port)]) x_a.A from rfl)) ?_
  rintro _ w4 ⟨k20, rfl⟩
  have m21 := m18.extk k20
  refine wl_pure (.pointer (some ⟨g13, 0, none⟩)) (want_none rfl) rfl rfl (by kernel_rfl) ?_
  have b22 := (b17.kp k20)
  refine wl_store (.agg #[(.int .i64 ((F_laws_toAddr x_a.A).Host)), (.int .i64 ((F_laws_toAddr x_a.A).Port))]) [(.int .i64 ((F_laws_toAddr x_a.A).Host)), (.int .i64 ((F_laws_toAddr x_a.A).Port))] [(.int .i64 ((F_laws_toAddr x_a.A).Host)), (.int .i64 ((F_laws_toAddr x_a.A).Port)), (.int .i64 0), (.int .i64 0)] (want_none rfl) rfl rfl rfl rfl rfl (one_cons rfl (one_cons rfl one_nil)) sizeOf_49 b22 rfl rfl ?_
  intro w5 k23 b24 z25
  have m26 := m21.ext k23 (fun k hk => by subst hk; exact Nat.le_trans (Nat.le_trans k4.size k10.size) p14)
  refine wl_nil ?_
  refine wq_then ?_
  refine wc_seq ?_
  refine wc_region ?_
  refine wl_pure (.pointer (some ⟨g1, 2, none⟩)) (want_none rfl) rfl rfl (by kernel_rfl) ?_
  have b27 := ((b19.kp k20).ch k23 (Nat.ne_of_lt (Nat.lt_of_lt_of_le p3 (Nat.le_trans k10.size p14))))
  refine wl_load1 (.int .i64 x_a.Got) (want_none rfl) rfl rfl rfl rfl isAgg_3 b27 rfl ?_
  refine wl_pure (.pointer (some ⟨g13, 2, none⟩)) (want_none rfl) rfl rfl (by kernel_rfl) ?_
  refine wl_store (.int .i64 x_a.Got) [(.int .i64 x_a.Got)] [(.int .i64 ((F_laws_toAddr x_a.A).Host)), (.int .i64 ((F_laws_toAddr x_a.A).Port)), (.int .i64 x_a.Got), (.int .i64 0)] (want_none rfl) rfl rfl rfl rfl rfl (one_cons rfl one_nil) sizeOf_3 b24 rfl rfl ?_
  intro w6 k28 b29 z30
  have m31 := m26.ext k28 (fun k hk => by subst hk; exact Nat.le_trans (Nat.le_trans k4.size k10.size) p14)
  refine wl_nil ?_
  refine wq_then ?_
  refine wc_seq ?_
  refine wc_region ?_
  refine wl_pure (.pointer (some ⟨g1, 3, none⟩)) (want_none rfl) rfl rfl (by kernel_rfl) ?_
  have b32 := (b27.ch k28 (Nat.ne_of_lt (Nat.lt_of_lt_of_le p3 (Nat.le_trans k10.size p14))))
  refine wl_load1 (.int .i64 x_a.Sent) (want_none rfl) rfl rfl rfl rfl isAgg_3 b32 rfl ?_
  refine wl_pure (.pointer (some ⟨g13, 3, none⟩)) (want_none rfl) rfl rfl (by kernel_rfl) ?_
  refine wl_store (.int .i64 x_a.Sent) [(.int .i64 x_a.Sent)] [(.int .i64 ((F_laws_toAddr x_a.A).Host)), (.int .i64 ((F_laws_toAddr x_a.A).Port)), (.int .i64 x_a.Got), (.int .i64 x_a.Sent)] (want_none rfl) rfl rfl rfl rfl rfl (one_cons rfl one_nil) sizeOf_3 b29 rfl rfl ?_
  intro w7 k33 b34 z35
  have m36 := m31.ext k33 (fun k hk => by subst hk; exact Nat.le_trans (Nat.le_trans k4.size k10.size) p14)
  refine wl_nil ?_
  refine wq_then ?_
  refine wc_seq ?_
  refine wc_region ?_
  refine wl_loadN [(.int .i64 ((F_laws_toAddr x_a.A).Host)), (.int .i64 ((F_laws_toAddr x_a.A).Port)), (.int .i64 x_a.Got), (.int .i64 x_a.Sent)] (want_none rfl) rfl rfl rfl rfl isAgg_67 sizeOf_67 b34 rfl ?_
  have b37 := (((((b11.kp k16).kp k20).ch k23 (Nat.ne_of_lt (Nat.lt_of_lt_of_le p9 (Nat.le_trans (Nat.le_refl _) p14)))).ch k28 (Nat.ne_of_lt (Nat.lt_of_lt_of_le p9 (Nat.le_trans (Nat.le_refl _) p14)))).ch k33 (Nat.ne_of_lt (Nat.lt_of_lt_of_le p9 (Nat.le_trans (Nat.le_refl _) p14))))
  refine wl_store (.agg #[(.int .i64 ((F_laws_toAddr x_a.A).Host)), (.int .i64 ((F_laws_toAddr x_a.A).Port)), (.int .i64 x_a.Got), (.int .i64 x_a.Sent)]) [(.int .i64 ((F_laws_toAddr x_a.A).Host)), (.int .i64 ((F_laws_toAddr x_a.A).Port)), (.int .i64 x_a.Got), (.int .i64 x_a.Sent)] [(.int .i64 ((F_laws_toAddr x_a.A).Host)), (.int .i64 ((F_laws_toAddr x_a.A).Port)), (.int .i64 x_a.Got), (.int .i64 x_a.Sent)] (want_none rfl) rfl rfl rfl rfl rfl (one_cons rfl (one_cons rfl (one_cons rfl (one_cons rfl one_nil)))) sizeOf_67 b37 rfl rfl ?_
  intro w8 k38 b39 z40
  have m41 := m36.ext k38 (fun k hk => by subst hk; exact Nat.le_trans k4.size p8)
  refine wl_nil ?_
  refine wq_then ?_
  refine wc_ret ?_
  refine ret_1 (.inl rfl) (.agg #[(.int .i64 ((F_laws_toAddr x_a.A).Host)), (.int .i64 ((F_laws_toAddr x_a.A).Port)), (.int .i64 x_a.Got), (.int .i64 x_a.Sent)]) rfl (rv_c [(.int .i64 ((F_laws_toAddr x_a.A).Host)), (.int .i64 ((F_laws_toAddr x_a.A).Port)), (.int .i64 x_a.Got), (.int .i64 x_a.Sent)] rfl b39 isAgg_67 sizeOf_67) ?_
  refine ⟨m41.keep0, ?_⟩
  have hF42 : F_laws_toCredit x_a = { A := (F_laws_toAddr x_a.A), Got := x_a.Got, Sent := x_a.Sent : PCredit } := by rfl
  rw [hF42]
  exact rfl

def R_49 (w : World) (v : Value) (x : (PAddr)) : Prop := v = .agg #[.int .i64 x.Host, .int .i64 x.Port]
def F_spec_AddrOk (x_a : PAddr) : (Bool) := bif (F_spec_l1In x_a.Host 0 4294967295) then ((F_spec_l1In x_a.Port 0 65535)) else (false)
theorem C_spec_AddrOk (w0 : World) (v_x_a : Value) (x_a : PAddr) (r_x_a : R_49 w0 v_x_a x_a)  : Fn Try.prog 54 #[v_x_a] w0 (fun v w' => Keep w0 w' ∧ O_4 w' w0.heap.size v (F_spec_AddrOk x_a)) := by
  obtain rfl := r_x_a
  refine fn_of (n := 11) (l := [(.agg #[(.int .i64 x_a.Host), (.int .i64 x_a.Port)]), undef, undef, undef, undef, undef, undef, undef, undef, undef, undef]) Try.func54 rfl rfl (by kernel_rfl) rfl ?_
  refine wc_seq ?_
  refine wc_region ?_
  refine wl_box (want_none rfl) [(.int .i64 x_a.Host), (.int .i64 x_a.Port)] rfl rfl rfl rfl ?_
  intro g1 w1 p2 p3 k4 b5
  have m6 := (Ch.base w0).extk k4
  refine wl_mv (.bool false) (want_none rfl) rfl rfl (.inr rfl) rfl ?_
  refine wl_nil ?_
  refine wq_then ?_
  refine wc_seq ?_
  refine wc_region ?_
  refine wl_pure (.pointer (some ⟨g1, 0, none⟩)) (want_none rfl) rfl rfl (by kernel_rfl) ?_
  refine wl_load1 (.int .i64 x_a.Host) (want_none rfl) rfl rfl rfl rfl isAgg_3 b5 rfl ?_
  refine wl_call (want_none rfl) (args := #[(.int .i64 x_a.Host), (.int .i64 0), (.int .i64 4294967295)]) rfl rfl (by kernel_rfl) (C_spec_l1In w1 x_a.Host 0 4294967295) ?_
  rintro _ w2 ⟨k7, rfl⟩
  have m8 := m6.extk k7
  refine wl_mv (.bool (F_spec_l1In x_a.Host 0 4294967295)) (want_none rfl) rfl rfl (.inl rfl) rfl ?_
  rcases Bool.eq_false_or_eq_true (F_spec_l1In x_a.Host 0 4294967295) with h9 | h9
  · have q10 := spec_l1In_t h9
    refine wl_pure (.pointer (some ⟨g1, 1, none⟩)) (want_some rfl rfl rfl (congrArg Value.bool h9)) rfl rfl (by kernel_rfl) ?_
    have b11 := (b5.kp k7)
    refine wl_load1 (.int .i64 x_a.Port) (want_some rfl rfl rfl (congrArg Value.bool h9)) rfl rfl rfl rfl isAgg_3 b11 rfl ?_
    refine wl_call (want_some rfl rfl rfl (congrArg Value.bool h9)) (args := #[(.int .i64 x_a.Port), (.int .i64 0), (.int .i64 65535)]) rfl rfl (by kernel_rfl) (C_spec_l1In w2 x_a.Port 0 65535) ?_
    rintro _ w3 ⟨k12, rfl⟩
    have m13 := m8.extk k12
    refine wl_pick_t (.bool (F_spec_l1In x_a.Port 0 65535)) (want_none rfl) rfl rfl rfl (congrArg Value.bool h9) rfl ?_
    refine wl_mv (.bool (F_spec_l1In x_a.Port 0 65535)) (want_none rfl) rfl rfl (.inr rfl) rfl ?_
    refine wl_nil ?_
    refine wq_then ?_
    refine wc_ret ?_
    refine ret_1 (.inl rfl) (.bool (F_spec_l1In x_a.Port 0 65535)) rfl rfl ?_
    refine ⟨m13.keep0, ?_⟩
    have hF14 : F_spec_AddrOk x_a = (F_spec_l1In x_a.Port 0 65535) := by simp only [F_spec_AddrOk, h9, cond_true, cond_false]
    rw [hF14]
    exact rfl
  · have q15 := spec_l1In_f h9
    refine wl_skip rfl rfl rfl (congrArg Value.bool h9) rfl rfl rfl ?_
    refine wl_skip rfl rfl rfl (congrArg Value.bool h9) rfl rfl rfl ?_
    refine wl_skip rfl rfl rfl (congrArg Value.bool h9) rfl rfl rfl ?_
    refine wl_pick_f (.bool false) (want_none rfl) rfl rfl rfl (congrArg Value.bool h9) rfl ?_
    refine wl_mv (.bool false) (want_none rfl) rfl rfl (.inr rfl) rfl ?_
    refine wl_nil ?_
    refine wq_then ?_
    refine wc_ret ?_
    refine ret_1 (.inl rfl) (.bool false) rfl rfl ?_
    refine ⟨m8.keep0, ?_⟩
    have hF16 : F_spec_AddrOk x_a = false := by simp only [F_spec_AddrOk, h9, cond_true, cond_false]
    rw [hF16]
    exact rfl

def F_impl_AddrOk (x_a : PAddr) : (Bool) := bif (F_impl_within x_a.Host 0 4294967295) then ((F_impl_within x_a.Port 0 65535)) else (false)
theorem C_impl_AddrOk (w0 : World) (v_x_a : Value) (x_a : PAddr) (r_x_a : R_49 w0 v_x_a x_a)  : Fn Try.prog 56 #[v_x_a] w0 (fun v w' => Keep w0 w' ∧ O_4 w' w0.heap.size v (F_impl_AddrOk x_a)) := by
  obtain rfl := r_x_a
  refine fn_of (n := 11) (l := [(.agg #[(.int .i64 x_a.Host), (.int .i64 x_a.Port)]), undef, undef, undef, undef, undef, undef, undef, undef, undef, undef]) Try.func56 rfl rfl (by kernel_rfl) rfl ?_
  refine wc_seq ?_
  refine wc_region ?_
  refine wl_box (want_none rfl) [(.int .i64 x_a.Host), (.int .i64 x_a.Port)] rfl rfl rfl rfl ?_
  intro g1 w1 p2 p3 k4 b5
  have m6 := (Ch.base w0).extk k4
  refine wl_mv (.bool false) (want_none rfl) rfl rfl (.inr rfl) rfl ?_
  refine wl_nil ?_
  refine wq_then ?_
  refine wc_seq ?_
  refine wc_region ?_
  refine wl_pure (.pointer (some ⟨g1, 0, none⟩)) (want_none rfl) rfl rfl (by kernel_rfl) ?_
  refine wl_load1 (.int .i64 x_a.Host) (want_none rfl) rfl rfl rfl rfl isAgg_3 b5 rfl ?_
  refine wl_call (want_none rfl) (args := #[(.int .i64 x_a.Host), (.int .i64 0), (.int .i64 4294967295)]) rfl rfl (by kernel_rfl) (C_impl_within w1 x_a.Host 0 4294967295) ?_
  rintro _ w2 ⟨k7, rfl⟩
  have m8 := m6.extk k7
  refine wl_mv (.bool (F_impl_within x_a.Host 0 4294967295)) (want_none rfl) rfl rfl (.inl rfl) rfl ?_
  rcases Bool.eq_false_or_eq_true (F_impl_within x_a.Host 0 4294967295) with h9 | h9
  · have q10 := impl_within_t h9
    refine wl_pure (.pointer (some ⟨g1, 1, none⟩)) (want_some rfl rfl rfl (congrArg Value.bool h9)) rfl rfl (by kernel_rfl) ?_
    have b11 := (b5.kp k7)
    refine wl_load1 (.int .i64 x_a.Port) (want_some rfl rfl rfl (congrArg Value.bool h9)) rfl rfl rfl rfl isAgg_3 b11 rfl ?_
    refine wl_call (want_some rfl rfl rfl (congrArg Value.bool h9)) (args := #[(.int .i64 x_a.Port), (.int .i64 0), (.int .i64 65535)]) rfl rfl (by kernel_rfl) (C_impl_within w2 x_a.Port 0 65535) ?_
    rintro _ w3 ⟨k12, rfl⟩
    have m13 := m8.extk k12
    refine wl_pick_t (.bool (F_impl_within x_a.Port 0 65535)) (want_none rfl) rfl rfl rfl (congrArg Value.bool h9) rfl ?_
    refine wl_mv (.bool (F_impl_within x_a.Port 0 65535)) (want_none rfl) rfl rfl (.inr rfl) rfl ?_
    refine wl_nil ?_
    refine wq_then ?_
    refine wc_ret ?_
    refine ret_1 (.inl rfl) (.bool (F_impl_within x_a.Port 0 65535)) rfl rfl ?_
    refine ⟨m13.keep0, ?_⟩
    have hF14 : F_impl_AddrOk x_a = (F_impl_within x_a.Port 0 65535) := by simp only [F_impl_AddrOk, h9, cond_true, cond_false]
    rw [hF14]
    exact rfl
  · have q15 := impl_within_f h9
    refine wl_skip rfl rfl rfl (congrArg Value.bool h9) rfl rfl rfl ?_
    refine wl_skip rfl rfl rfl (congrArg Value.bool h9) rfl rfl rfl ?_
    refine wl_skip rfl rfl rfl (congrArg Value.bool h9) rfl rfl rfl ?_
    refine wl_pick_f (.bool false) (want_none rfl) rfl rfl rfl (congrArg Value.bool h9) rfl ?_
    refine wl_mv (.bool false) (want_none rfl) rfl rfl (.inr rfl) rfl ?_
    refine wl_nil ?_
    refine wq_then ?_
    refine wc_ret ?_
    refine ret_1 (.inl rfl) (.bool false) rfl rfl ?_
    refine ⟨m8.keep0, ?_⟩
    have hF16 : F_impl_AddrOk x_a = false := by simp only [F_impl_AddrOk, h9, cond_true, cond_false]
    rw [hF16]
    exact rfl

def F_laws_eqAddr (x_a : PAddr) (x_b : PAddr) : (Bool) := bif (decide (x_a.Host = x_b.Host)) then (bif (decide (x_a.Port = x_b.Port)) then (true) else (false)) else (false)
theorem C_laws_eqAddr (w0 : World) (v_x_a : Value) (x_a : PAddr) (r_x_a : R_49 w0 v_x_a x_a) (v_x_b : Value) (x_b : PAddr) (r_x_b : R_49 w0 v_x_b x_b)  : Fn Try.prog 60 #[v_x_a, v_x_b] w0 (fun v w' => Keep w0 w' ∧ O_4 w' w0.heap.size v (F_laws_eqAddr x_a x_b)) := by
  obtain rfl := r_x_a
  obtain rfl := r_x_b
  refine fn_of (n := 15) (l := [(.agg #[(.int .i64 x_a.Host), (.int .i64 x_a.Port)]), (.agg #[(.int .i64 x_b.Host), (.int .i64 x_b.Port)]), undef, undef, undef, undef, undef, undef, undef, undef, undef, undef, undef, undef, undef]) Try.func60 rfl rfl (by kernel_rfl) rfl ?_
  refine wc_seq ?_
  refine wc_region ?_
  refine wl_box (want_none rfl) [(.int .i64 x_a.Host), (.int .i64 x_a.Port)] rfl rfl rfl rfl ?_
  intro g1 w1 p2 p3 k4 b5
  have m6 := (Ch.base w0).extk k4
  refine wl_box (want_none rfl) [(.int .i64 x_b.Host), (.int .i64 x_b.Port)] rfl rfl rfl rfl ?_
  intro g7 w2 p8 p9 k10 b11
  have m12 := m6.extk k10
  refine wl_mv (.bool false) (want_none rfl) rfl rfl (.inr rfl) rfl ?_
  refine wl_nil ?_
  refine wq_then ?_
  refine wc_seq ?_
  refine wc_seq ?_
  refine wc_region ?_
  refine wl_pure (.pointer (some ⟨g1, 0, none⟩)) (want_none rfl) rfl rfl (by kernel_rfl) ?_
  have b13 := (b5.kp k10)
  refine wl_load1 (.int .i64 x_a.Host) (want_none rfl) rfl rfl rfl rfl isAgg_3 b13 rfl ?_
  refine wl_pure (.pointer (some ⟨g7, 0, none⟩)) (want_none rfl) rfl rfl (by kernel_rfl) ?_
  refine wl_load1 (.int .i64 x_b.Host) (want_none rfl) rfl rfl rfl rfl isAgg_3 b11 rfl ?_
  refine wl_pure (.bool (!(decide (x_a.Host = x_b.Host)))) (want_none rfl) rfl rfl (by kernel_rfl) ?_
  refine wl_nil ?_
  refine wq_then ?_
  rcases Bool.eq_false_or_eq_true (decide (x_a.Host = x_b.Host)) with h14 | h14
  · have q15 := of_decide_eq_true h14
    refine wc_false (congrArg (fun b => Value.bool (!b)) h14) ?_
    refine wc_skip ?_
    refine wq_then ?_
    refine wc_seq ?_
    refine wc_seq ?_
    refine wc_region ?_
    refine wl_pure (.pointer (some ⟨g1, 1, none⟩)) (want_none rfl) rfl rfl (by kernel_rfl) ?_
    refine wl_load1 (.int .i64 x_a.Port) (want_none rfl) rfl rfl rfl rfl isAgg_3 b13 rfl ?_
    refine wl_pure (.pointer (some ⟨g7, 1, none⟩)) (want_none rfl) rfl rfl (by kernel_rfl) ?_
    refine wl_load1 (.int .i64 x_b.Port) (want_none rfl) rfl rfl rfl rfl isAgg_3 b11 rfl ?_
    refine wl_pure (.bool (!(decide (x_a.Port = x_b.Port)))) (want_none rfl) rfl rfl (by kernel_rfl) ?_
    refine wl_nil ?_
    refine wq_then ?_
    rcases Bool.eq_false_or_eq_true (decide (x_a.Port = x_b.Port)) with h16 | h16
    · have q17 := of_decide_eq_true h16
      refine wc_false (congrArg (fun b => Value.bool (!b)) h16) ?_
      refine wc_skip ?_
      refine wq_then ?_
      refine wc_seq ?_
      refine wc_region ?_
      refine wl_mv (.bool true) (want_none rfl) rfl rfl (.inr rfl) rfl ?_
      refine wl_nil ?_
      refine wq_then ?_
      refine wc_ret ?_
      refine ret_1 (.inl rfl) (.bool true) rfl rfl ?_
      refine ⟨m12.keep0, ?_⟩
      have hF18 : F_laws_eqAddr x_a x_b = true := by simp only [F_laws_eqAddr, h14, h16, cond_true, cond_false]
      rw [hF18]
      exact rfl
    · have q19 := of_decide_eq_false h16
      refine wc_true (congrArg (fun b => Value.bool (!b)) h16) ?_
      refine wc_seq ?_
      refine wc_region ?_
      refine wl_mv (.bool false) (want_none rfl) rfl rfl (.inr rfl) rfl ?_
      refine wl_nil ?_
      refine wq_then ?_
      refine wc_ret ?_
      refine wq_then_ret ?_
      refine ret_1 (.inl rfl) (.bool false) rfl rfl ?_
      refine ⟨m12.keep0, ?_⟩
      have hF20 : F_laws_eqAddr x_a x_b = false := by simp only [F_laws_eqAddr, h14, h16, cond_true, cond_false]
      rw [hF20]
      exact rfl
  · have q21 := of_decide_eq_false h14
    refine wc_true (congrArg (fun b => Value.bool (!b)) h14) ?_
    refine wc_seq ?_
    refine wc_region ?_
    refine wl_mv (.bool false) (want_none rfl) rfl rfl (.inr rfl) rfl ?_
    refine wl_nil ?_
    refine wq_then ?_
    refine wc_ret ?_
    refine wq_then_ret ?_
    refine ret_1 (.inl rfl) (.bool false) rfl rfl ?_
    refine ⟨m12.keep0, ?_⟩
    have hF22 : F_laws_eqAddr x_a x_b = false := by simp only [F_laws_eqAddr, h14, cond_true, cond_false]
    rw [hF22]
    exact rfl

def R_67 (w : World) (v : Value) (x : (PCredit)) : Prop := v = .agg #[.int .i64 x.A.Host, .int .i64 x.A.Port, .int .i64 x.Got, .int .i64 x.Sent]
def F_laws_eqCredit (x_a : PCredit) (x_b : PCredit) : (Bool) := bif (F_laws_eqAddr x_a.A x_b.A) then (bif (decide (x_a.Got = x_b.Got)) then (bif (decide (x_a.Sent = x_b.Sent)) then (true) else (false)) else (false)) else (false)
theorem C_laws_eqCredit (w0 : World) (v_x_a : Value) (x_a : PCredit) (r_x_a : R_67 w0 v_x_a x_a) (v_x_b : Value) (x_b : PCredit) (r_x_b : R_67 w0 v_x_b x_b)  : Fn Try.prog 58 #[v_x_a, v_x_b] w0 (fun v w' => Keep w0 w' ∧ O_4 w' w0.heap.size v (F_laws_eqCredit x_a x_b)) := by
  obtain rfl := r_x_a
  obtain rfl := r_x_b
  refine fn_of (n := 21) (l := [(.agg #[(.int .i64 x_a.A.Host), (.int .i64 x_a.A.Port), (.int .i64 x_a.Got), (.int .i64 x_a.Sent)]), (.agg #[(.int .i64 x_b.A.Host), (.int .i64 x_b.A.Port), (.int .i64 x_b.Got), (.int .i64 x_b.Sent)]), undef, undef, undef, undef, undef, undef, undef, undef, undef, undef, undef, undef, undef, undef, undef, undef, undef, undef, undef]) Try.func58 rfl rfl (by kernel_rfl) rfl ?_
  refine wc_seq ?_
  refine wc_region ?_
  refine wl_box (want_none rfl) [(.int .i64 x_a.A.Host), (.int .i64 x_a.A.Port), (.int .i64 x_a.Got), (.int .i64 x_a.Sent)] rfl rfl rfl rfl ?_
  intro g1 w1 p2 p3 k4 b5
  have m6 := (Ch.base w0).extk k4
  refine wl_box (want_none rfl) [(.int .i64 x_b.A.Host), (.int .i64 x_b.A.Port), (.int .i64 x_b.Got), (.int .i64 x_b.Sent)] rfl rfl rfl rfl ?_
  intro g7 w2 p8 p9 k10 b11
  have m12 := m6.extk k10
  refine wl_mv (.bool false) (want_none rfl) rfl rfl (.inr rfl) rfl ?_
  refine wl_nil ?_
  refine wq_then ?_
  refine wc_seq ?_
  refine wc_seq ?_
  refine wc_region ?_
  refine wl_pure (.pointer (some ⟨g1, 0, none⟩)) (want_none rfl) rfl rfl (by kernel_rfl) ?_
  have b13 := (b5.kp k10)
  refine wl_loadN [(.int .i64 x_a.A.Host), (.int .i64 x_a.A.Port)] (want_none rfl) rfl rfl rfl rfl isAgg_49 sizeOf_49 b13 rfl ?_
  refine wl_pure (.pointer (some ⟨g7, 0, none⟩)) (want_none rfl) rfl rfl (by kernel_rfl) ?_
  refine wl_loadN [(.int .i64 x_b.A.Host), (.int .i64 x_b.A.Port)] (want_none rfl) rfl rfl rfl rfl isAgg_49 sizeOf_49 b11 rfl ?_
  refine wl_call (want_none rfl) (args := #[(.agg #[(.int .i64 x_a.A.Host), (.int .i64 x_a.A.Port)]), (.agg #[(.int .i64 x_b.A.Host), (.int .i64 x_b.A.Port)])]) rfl rfl (by kernel_rfl) (C_laws_eqAddr w2 (.agg #[(.int .i64 x_a.A.Host), (.int .i64 x_a.A.Port)]) x_a.A (show R_49 w2 (.agg #[(.int .i64 x_a.A.Host), (.int .i64 x_a.A.Port)]) x_a.A from rfl) (.agg #[(.int .i64 x_b.A.Host), (.int .i64 x_b.A.Port)]) x_b.A (show R_49 w2 (.agg #[(.int .i64 x_b.A.Host), (.int .i64 x_b.A.Port)]) x_b.A from rfl)) ?_
  rintro _ w3 ⟨k14, rfl⟩
  have m15 := m12.extk k14
  refine wl_pure (.bool (!(F_laws_eqAddr x_a.A x_b.A))) (want_none rfl) rfl rfl (by kernel_rfl) ?_
  refine wl_nil ?_
  refine wq_then ?_
  rcases Bool.eq_false_or_eq_true (F_laws_eqAddr x_a.A x_b.A) with h16 | h16
  · skip
    refine wc_false (congrArg (fun b => Value.bool (!b)) h16) ?_
    refine wc_skip ?_
    refine wq_then ?_
    refine wc_seq ?_
    refine wc_seq ?_
    refine wc_region ?_
    refine wl_pure (.pointer (some ⟨g1, 2, none⟩)) (want_none rfl) rfl rfl (by kernel_rfl) ?_
    have b18 := (b13.kp k14)
    refine wl_load1 (.int .i64 x_a.Got) (want_none rfl) rfl rfl rfl rfl isAgg_3 b18 rfl ?_
    refine wl_pure (.pointer (some ⟨g7, 2, none⟩)) (want_none rfl) rfl rfl (by kernel_rfl) ?_
    have b19 := (b11.kp k14)
    refine wl_load1 (.int .i64 x_b.Got) (want_none rfl) rfl rfl rfl rfl isAgg_3 b19 rfl ?_
    refine wl_pure (.bool (!(decide (x_a.Got = x_b.Got)))) (want_none rfl) rfl rfl (by kernel_rfl) ?_
    refine wl_nil ?_
    refine wq_then ?_
    rcases Bool.eq_false_or_eq_true (decide (x_a.Got = x_b.Got)) with h20 | h20
    · have q21 := of_decide_eq_true h20
      refine wc_false (congrArg (fun b => Value.bool (!b)) h20) ?_
      refine wc_skip ?_
      refine wq_then ?_
      refine wc_seq ?_
      refine wc_seq ?_
      refine wc_region ?_
      refine wl_pure (.pointer (some ⟨g1, 3, none⟩)) (want_none rfl) rfl rfl (by kernel_rfl) ?_
      refine wl_load1 (.int .i64 x_a.Sent) (want_none rfl) rfl rfl rfl rfl isAgg_3 b18 rfl ?_
      refine wl_pure (.pointer (some ⟨g7, 3, none⟩)) (want_none rfl) rfl rfl (by kernel_rfl) ?_
      refine wl_load1 (.int .i64 x_b.Sent) (want_none rfl) rfl rfl rfl rfl isAgg_3 b19 rfl ?_
      refine wl_pure (.bool (!(decide (x_a.Sent = x_b.Sent)))) (want_none rfl) rfl rfl (by kernel_rfl) ?_
      refine wl_nil ?_
      refine wq_then ?_
      rcases Bool.eq_false_or_eq_true (decide (x_a.Sent = x_b.Sent)) with h22 | h22
      · have q23 := of_decide_eq_true h22
        refine wc_false (congrArg (fun b => Value.bool (!b)) h22) ?_
        refine wc_skip ?_
        refine wq_then ?_
        refine wc_seq ?_
        refine wc_region ?_
        refine wl_mv (.bool true) (want_none rfl) rfl rfl (.inr rfl) rfl ?_
        refine wl_nil ?_
        refine wq_then ?_
        refine wc_ret ?_
        refine ret_1 (.inl rfl) (.bool true) rfl rfl ?_
        refine ⟨m15.keep0, ?_⟩
        have hF24 : F_laws_eqCredit x_a x_b = true := by simp only [F_laws_eqCredit, h16, h20, h22, cond_true, cond_false]
        rw [hF24]
        exact rfl
      · have q25 := of_decide_eq_false h22
        refine wc_true (congrArg (fun b => Value.bool (!b)) h22) ?_
        refine wc_seq ?_
        refine wc_region ?_
        refine wl_mv (.bool false) (want_none rfl) rfl rfl (.inr rfl) rfl ?_
        refine wl_nil ?_
        refine wq_then ?_
        refine wc_ret ?_
        refine wq_then_ret ?_
        refine ret_1 (.inl rfl) (.bool false) rfl rfl ?_
        refine ⟨m15.keep0, ?_⟩
        have hF26 : F_laws_eqCredit x_a x_b = false := by simp only [F_laws_eqCredit, h16, h20, h22, cond_true, cond_false]
        rw [hF26]
        exact rfl
    · have q27 := of_decide_eq_false h20
      refine wc_true (congrArg (fun b => Value.bool (!b)) h20) ?_
      refine wc_seq ?_
      refine wc_region ?_
      refine wl_mv (.bool false) (want_none rfl) rfl rfl (.inr rfl) rfl ?_
      refine wl_nil ?_
      refine wq_then ?_
      refine wc_ret ?_
      refine wq_then_ret ?_
      refine ret_1 (.inl rfl) (.bool false) rfl rfl ?_
      refine ⟨m15.keep0, ?_⟩
      have hF28 : F_laws_eqCredit x_a x_b = false := by simp only [F_laws_eqCredit, h16, h20, cond_true, cond_false]
      rw [hF28]
      exact rfl
  · skip
    refine wc_true (congrArg (fun b => Value.bool (!b)) h16) ?_
    refine wc_seq ?_
    refine wc_region ?_
    refine wl_mv (.bool false) (want_none rfl) rfl rfl (.inr rfl) rfl ?_
    refine wl_nil ?_
    refine wq_then ?_
    refine wc_ret ?_
    refine wq_then_ret ?_
    refine ret_1 (.inl rfl) (.bool false) rfl rfl ?_
    refine ⟨m15.keep0, ?_⟩
    have hF30 : F_laws_eqCredit x_a x_b = false := by simp only [F_laws_eqCredit, h16, cond_true, cond_false]
    rw [hF30]
    exact rfl

theorem C_laws_toByteS (w0 : World) (v_x_a : Value) (x_a : List UInt8) (r_x_a : R_35 w0 v_x_a x_a)  : Fn Try.prog 40 #[v_x_a] w0 (fun v w' => Keep w0 w' ∧ O_35 w' w0.heap.size v (cpB x_a)) := by
  obtain ⟨a1, c2, rfl, r3, s4⟩ := r_x_a
  refine fn_of (n := 22) (l := [(.slice a1 x_a.length c2), undef, undef, undef, undef, undef, undef, undef, undef, undef, undef, undef, undef, undef, undef, undef, undef, undef, undef, undef, undef, undef]) Try.func40 rfl rfl (by kernel_rfl) rfl ?_
  refine wc_seq ?_
  refine wc_region ?_
  refine wl_mv (.slice none 0 0) (want_none rfl) rfl rfl (.inr rfl) rfl ?_
  refine wl_nil ?_
  refine wq_then ?_
  refine wc_seq ?_
  refine wc_region ?_
  refine wl_mv (.slice a1 x_a.length c2) (want_none rfl) rfl rfl (.inl rfl) rfl ?_
  refine wl_len (want_none rfl) rfl rfl rfl slTy_35 rfl r3 ?_
  refine wl_makeB (x_a.length) (want_none rfl) rfl rfl rfl slTy_35 (x_a.length : Int) rfl (by omega) (by (try simp only [List.length_append, List.length_cons, List.length_nil]); omega) (by (try simp only [List.length_append, List.length_cons, List.length_nil]); omega) ?_
  intro a6 c7 w1 k8 o9
  have m10 := (Ch.base w0).extk k8
  refine wl_mv (.slice a6 (List.replicate x_a.length (0 : UInt8)).length c7) (want_none rfl) rfl rfl (.inr rfl) rfl ?_
  refine wl_nil ?_
  refine wq_then ?_
  refine wc_seq ?_
  refine wc_seq ?_
  refine wc_region ?_
  refine wl_mv (.int .i64 0) (want_none rfl) rfl rfl (.inr rfl) rfl ?_
  refine wl_nil ?_
  refine wq_then ?_
  refine wc_block ?_
  refine wc_norm [(.slice a1 x_a.length c2), undef, (.slice none 0 0), (.slice a6 (List.replicate x_a.length (0 : UInt8)).length c7), (.int .i64 0), (.slice a1 x_a.length c2), (.int .i64 (x_a.length : Int)), (.slice a6 (List.replicate x_a.length (0 : UInt8)).length c7), undef, undef, undef, undef, undef, undef, undef, undef, undef, undef, undef, undef, undef, undef] rfl ⟨rfl, rfl, rfl, rfl, rfl, rfl, rfl, rfl, rfl, rfl, rfl, rfl, rfl, rfl, rfl, rfl, rfl, rfl, rfl, rfl, rfl, rfl, trivial⟩ ?_
  refine wc_loop (fun e' w' => ∃ (k : Nat) (u8x u9x u10x u11x u12x u13x u14x u15x u16x u17x u18x u19x u20x : Value), e' = lst [(.slice a1 x_a.length c2), undef, (.slice none 0 0), (.slice a6 (List.replicate x_a.length (0 : UInt8)).length c7), (.int .i64 ((k : Nat) : Int)), (.slice a1 x_a.length c2), (.int .i64 (x_a.length : Int)), (.slice a6 (List.replicate x_a.length (0 : UInt8)).length c7), u8x, u9x, u10x, u11x, u12x, u13x, u14x, u15x, u16x, u17x, u18x, u19x, u20x, undef] ∧ Ch (fun k => w0.heap.size ≤ k) w0 w' ∧ Ch (fun k => w0.heap.size ≤ k) w1 w' ∧ k ≤ x_a.length ∧ World.ownsRow w' w0.heap.size 5 1 (.slice a6 (List.replicate x_a.length (0 : UInt8)).length c7) (List.replicate x_a.length (0 : UInt8)).length ((x_a.take k ++ List.replicate (x_a.length - k) (0 : UInt8)).map bV)) (fun e' _ => x_a.length - ((intOf (e' 4))).toNat) ?_ ?_
  · have hE12 : ((List.replicate x_a.length (0 : UInt8)) : List UInt8) = x_a.take 0 ++ List.replicate (x_a.length - 0) (0 : UInt8) := by first | exact cpB_next (by omega) | simp
    exact ⟨0, undef, undef, undef, undef, undef, undef, undef, undef, undef, undef, undef, undef, undef, (congrArg (fun (x4z : Value) => lst [(.slice a1 x_a.length c2), undef, (.slice none 0 0), (.slice a6 (List.replicate x_a.length (0 : UInt8)).length c7), x4z, (.slice a1 x_a.length c2), (.int .i64 (x_a.length : Int)), (.slice a6 (List.replicate x_a.length (0 : UInt8)).length c7), undef, undef, undef, undef, undef, undef, undef, undef, undef, undef, undef, undef, undef, undef]) (congrArg (Value.int .i64) (show (0 : Int) = ((0 : Nat) : Int) by omega))), m10, (Ch.refl (fun k => w0.heap.size ≤ k) w1), (by omega), (by rw [← hE12]; exact o9)⟩
  · rintro _ w2 ⟨k, u8x, u9x, u10x, u11x, u12x, u13x, u14x, u15x, u16x, u17x, u18x, u19x, u20x, rfl, m13, k14, i15, o16⟩
    refine wc_seq ?_
    refine wc_seq ?_
    refine wc_region ?_
    refine wl_mv (.int .i64 ((k : Nat) : Int)) (want_none rfl) rfl rfl (.inl rfl) rfl ?_
    refine wl_mv (.slice a1 x_a.length c2) (want_none rfl) rfl rfl (.inl rfl) rfl ?_
    refine wl_len (want_none rfl) rfl rfl rfl slTy_35 rfl (r3.from0 m13) ?_
    refine wl_pure (.bool (decide (((k : Nat) : Int) < (x_a.length : Int)))) (want_none rfl) rfl rfl (by kernel_rfl) ?_
    refine wl_nil ?_
    refine wq_then ?_
    rcases Bool.eq_false_or_eq_true (decide (((k : Nat) : Int) < (x_a.length : Int))) with h17 | h17
    · have q18 := of_decide_eq_true h17
      refine wc_true (congrArg Value.bool h17) ?_
      refine wc_skip ?_
      refine wq_then ?_
      refine wc_seq ?_
      refine wc_block ?_
      refine wc_region ?_
      refine wl_mv (.slice a6 (List.replicate x_a.length (0 : UInt8)).length c7) (want_none rfl) rfl rfl (.inl rfl) rfl ?_
      refine wl_mv (.int .i64 ((k : Nat) : Int)) (want_none rfl) rfl rfl (.inl rfl) rfl ?_
      refine wl_mv (.slice a1 x_a.length c2) (want_none rfl) rfl rfl (.inl rfl) rfl ?_
      refine wl_mv (.int .i64 ((k : Nat) : Int)) (want_none rfl) rfl rfl (.inl rfl) rfl ?_
      refine wl_index (want_none rfl) ((k : Nat) : Int) rfl rfl rfl slTy_35 rfl rfl (r3.from0 m13) (by first | omega | (simp only [List.length_cons, List.length_nil, List.length_replicate, List.length_append, List.length_take, List.length_set, List.length_map]; omega)) (by first | omega | (simp only [List.length_cons, List.length_nil, List.length_replicate, List.length_append, List.length_take, List.length_set, List.length_map]; omega)) ?_
      refine wl_loadE (bV (x_a.getD k 0)) (want_none rfl) rfl rfl rfl rfl isAgg_5 (r3.from0 m13) (bget (by simp) (by first | omega | (simp only [List.length_cons, List.length_nil, List.length_replicate, List.length_append, List.length_take, List.length_set, List.length_map]; omega))) ?_
      refine wl_index (want_none rfl) ((k : Nat) : Int) rfl rfl rfl slTy_35 rfl rfl (Rd.of_own o16) (by first | omega | (simp only [List.length_cons, List.length_nil, List.length_replicate, List.length_append, List.length_take, List.length_set, List.length_map]; omega)) (by first | omega | (simp only [List.length_cons, List.length_nil, List.length_replicate, List.length_append, List.length_take, List.length_set, List.length_map]; omega)) ?_
      refine wl_storeB (x_a.take k ++ List.replicate (x_a.length - k) (0 : UInt8)) (k) ((x_a.getD k 0)) (want_none rfl) rfl rfl rfl (by simp) rfl sizeOf_5 o16 (by first | omega | (simp only [List.length_append, List.length_replicate, List.length_take, List.length_set, List.length_map]; omega)) ?_
      intro w3 k19 o20
      have m21 := m13.ext k19 (fun k hk => Nat.le_trans (Nat.le_refl _) (own_lt o9 k hk).1)
      refine wl_nil ?_
      refine wq_blk_normal ?_
      refine wq_then ?_
      refine wc_region ?_
      refine wl_mv (.int .i64 ((k : Nat) : Int)) (want_none rfl) rfl rfl (.inl rfl) rfl ?_
      refine wl_arith (((k : Nat) : Int) + 1) (want_none rfl) rfl rfl (by kernel_rfl) (by omega) (by omega) ?_
      refine wl_mv (.int .i64 (((k : Nat) : Int) + 1)) (want_none rfl) rfl rfl (.inr rfl) rfl ?_
      refine wl_nil ?_
      have hE22 : (((x_a.take k ++ List.replicate (x_a.length - k) (0 : UInt8)).set k (x_a.getD k 0)) : List UInt8) = x_a.take (k + 1) ++ List.replicate (x_a.length - (k + 1)) (0 : UInt8) := by first | exact cpB_next (by omega) | simp
      exact wq_loopN (w0 := w2) [(.slice a1 x_a.length c2), undef, (.slice none 0 0), (.slice a6 (List.replicate x_a.length (0 : UInt8)).length c7), (.int .i64 (((k + 1) : Nat) : Int)), (.slice a1 x_a.length c2), (.int .i64 (x_a.length : Int)), (.slice a6 (List.replicate x_a.length (0 : UInt8)).length c7), (.int .i64 ((k : Nat) : Int)), (.slice a1 x_a.length c2), (.int .i64 (x_a.length : Int)), (.bool (decide (((k : Nat) : Int) < (x_a.length : Int)))), (.int .i64 ((k : Nat) : Int)), (.int .i64 (((k : Nat) : Int) + 1)), (.slice a6 (List.replicate x_a.length (0 : UInt8)).length c7), (.int .i64 ((k : Nat) : Int)), (.slice a1 x_a.length c2), (.int .i64 ((k : Nat) : Int)), (.pointer (some (elA (.slice a1 x_a.length c2) ((((k : Nat) : Int)).toNat * 1)))), (.int .u8 ((x_a.getD k 0).toNat : Int)), (.pointer (some (elA (.slice a6 (List.replicate x_a.length (0 : UInt8)).length c7) ((((k : Nat) : Int)).toNat * 1)))), undef] rfl ⟨rfl, rfl, rfl, rfl, (congrArg (Value.int .i64) (show ((((k : Nat) : Int) + 1) : Int) = (((k + 1) : Nat) : Int) by omega)), rfl, rfl, rfl, rfl, rfl, rfl, rfl, rfl, rfl, rfl, rfl, rfl, rfl, rfl, rfl, rfl, rfl, trivial⟩ ⟨(k + 1), (.int .i64 ((k : Nat) : Int)), (.slice a1 x_a.length c2), (.int .i64 (x_a.length : Int)), (.bool (decide (((k : Nat) : Int) < (x_a.length : Int)))), (.int .i64 ((k : Nat) : Int)), (.int .i64 (((k : Nat) : Int) + 1)), (.slice a6 (List.replicate x_a.length (0 : UInt8)).length c7), (.int .i64 ((k : Nat) : Int)), (.slice a1 x_a.length c2), (.int .i64 ((k : Nat) : Int)), (.pointer (some (elA (.slice a1 x_a.length c2) ((((k : Nat) : Int)).toNat * 1)))), (.int .u8 ((x_a.getD k 0).toNat : Int)), (.pointer (some (elA (.slice a6 (List.replicate x_a.length (0 : UInt8)).length c7) ((((k : Nat) : Int)).toNat * 1)))), rfl, m21, (((Ch.refl (fun k => w0.heap.size ≤ k) w1).ext k14 (fun k hk => Nat.le_trans (Nat.le_refl _) hk)).ext k19 (fun k hk => Nat.le_trans (Nat.le_refl _) (own_lt o9 k hk).1)), (by omega), (by rw [← hE22]; exact o20)⟩ (by show x_a.length - ((((k + 1) : Nat) : Int)).toNat < x_a.length - (((k : Nat) : Int)).toNat; omega)
    · have q23 := of_decide_eq_false h17
      refine wc_false (congrArg Value.bool h17) ?_
      refine wc_exit ?_
      refine wq_then_exit ?_
      refine wq_then_exit ?_
      refine wq_blk_exit ?_
      refine wq_then ?_
      refine wc_seq ?_
      refine wc_region ?_
      refine wl_mv (.slice a6 (List.replicate x_a.length (0 : UInt8)).length c7) (want_none rfl) rfl rfl (.inl rfl) rfl ?_
      refine wl_mv (.slice a6 (List.replicate x_a.length (0 : UInt8)).length c7) (want_none rfl) rfl rfl (.inr rfl) rfl ?_
      refine wl_nil ?_
      refine wq_then ?_
      refine wc_ret ?_
      refine ret_1 (.inl rfl) (.slice a6 (List.replicate x_a.length (0 : UInt8)).length c7) rfl rfl ?_
      refine ⟨m13.keep0, ?_⟩
      have hF24 : cpB x_a = (x_a.take k ++ List.replicate (x_a.length - k) (0 : UInt8)) := by exact cpB_end (by omega)
      rw [hF24]
      have hN25 : (List.replicate x_a.length (0 : UInt8)).length = ((x_a.take k ++ List.replicate (x_a.length - k) (0 : UInt8))).length := by (simp only [List.length_append, List.length_take, List.length_replicate, List.length_set, List.length_map]; omega)
      rw [hN25] at o16 ⊢
      exact ⟨_, _, rfl, o16, (by rw [← hN25]; rw [List.length_replicate]; first | assumption | omega), ⟨trivial, trivial⟩⟩

theorem zero_51 : ∀ w, (zeroValue 51).run Try.prog w = .ok (.agg #[(.int .i64 0), (.int .i64 0), (.int .i64 0), (.slice none 0 0), (.slice none 0 0), (.int .i64 0), (.int .i64 0), (.slice none 0 0), (.slice none 0 0), (.int .i64 0), (.int .i64 0), (.int .i64 0)]) w := fun w => by kernel_rfl
theorem sizeOf_51 : ∀ w, (sizeOf 51).run Try.prog w = .ok 12 w := fun w => by kernel_rfl
theorem isAgg_51 : ∀ w, (isAgg 51).run Try.prog w = .ok true w := fun w => by kernel_rfl
def O_51 (w : World) (lo : Nat) (v : Value) (x : (PNote)) : Prop := ∃ (a1 : Option Addr) (c1 : Nat) (a2 : Option Addr) (c2 : Nat) (a3 : Option Addr) (c3 : Nat) (a4 : Option Addr) (c4 : Nat), v = .agg #[.int .i64 x.Kind, .int .i64 x.Id, .int .i64 x.Role, .slice a1 x.Cn.length c1, .slice a2 x.Sn.length c2, .int .i64 x.Epoch, .int .i64 x.Seq, .slice a3 x.Body.length c3, .slice a4 x.Key.length c4, .int .i64 x.A.Host, .int .i64 x.A.Port, .int .i64 x.Now] ∧ w.ownsRow lo 5 1 (.slice a1 x.Cn.length c1) x.Cn.length (x.Cn.map bV) ∧ x.Cn.length ≤ 1073741824 ∧ w.ownsRow lo 5 1 (.slice a2 x.Sn.length c2) x.Sn.length (x.Sn.map bV) ∧ x.Sn.length ≤ 1073741824 ∧ w.ownsRow lo 5 1 (.slice a3 x.Body.length c3) x.Body.length (x.Body.map bV) ∧ x.Body.length ≤ 1073741824 ∧ w.ownsRow lo 5 1 (.slice a4 x.Key.length c4) x.Key.length (x.Key.map bV) ∧ x.Key.length ≤ 1073741824 ∧ Aps [(a1, c1), (a2, c2), (a3, c3), (a4, c4)]
def F_spec_Made (x_key : List UInt8) (x_in : List UInt8) : (PNote) := { Kind := 15, Id := 0, Role := 0, Cn := [], Sn := [], Epoch := 0, Seq := 0, Body := x_in, Key := x_key, A := { Host := 0, Port := 0 : PAddr }, Now := 0 : PNote }
theorem C_spec_Made (w0 : World) (v_x_key : Value) (x_key : List UInt8) (r_x_key : R_35 w0 v_x_key x_key) (v_x_in : Value) (x_in : List UInt8) (r_x_in : R_35 w0 v_x_in x_in)  : Fn Try.prog 39 #[v_x_key, v_x_in] w0 (fun v w' => Keep w0 w' ∧ O_51 w' w0.heap.size v (F_spec_Made x_key x_in)) := by
  obtain ⟨a1, c2, rfl, r3, s4⟩ := r_x_key
  obtain ⟨a6, c7, rfl, r8, s9⟩ := r_x_in
  refine fn_of (n := 12) (l := [(.slice a1 x_key.length c2), (.slice a6 x_in.length c7), undef, undef, undef, undef, undef, undef, undef, undef, undef, undef]) Try.func39 rfl rfl (by kernel_rfl) rfl ?_
  refine wc_seq ?_
  refine wc_region ?_
  refine wl_alloc (want_none rfl) (.agg #[(.int .i64 0), (.int .i64 0), (.int .i64 0), (.slice none 0 0), (.slice none 0 0), (.int .i64 0), (.int .i64 0), (.slice none 0 0), (.slice none 0 0), (.int .i64 0), (.int .i64 0), (.int .i64 0)]) [(.int .i64 0), (.int .i64 0), (.int .i64 0), (.slice none 0 0), (.slice none 0 0), (.int .i64 0), (.int .i64 0), (.slice none 0 0), (.slice none 0 0), (.int .i64 0), (.int .i64 0), (.int .i64 0)] zero_51 rfl rfl rfl rfl ?_
  intro g11 w1 p12 p13 k14 b15
  have m16 := (Ch.base w0).extk k14
  refine wl_nil ?_
  refine wq_then ?_
  refine wc_seq ?_
  refine wc_region ?_
  refine wl_lit0 (want_none rfl) rfl rfl slTy_35 (fun w => by kernel_rfl) ?_
  intro a17 w2 k18 o19
  have m20 := m16.extk k18
  refine wl_mv (.slice a1 x_key.length c2) (want_none rfl) rfl rfl (.inl rfl) rfl ?_
  refine wl_append0 (want_none rfl) rfl rfl rfl slTy_35 rfl rfl o19 (r3.from0 m20) (all_bV _) (by (try simp only [List.length_append, List.length_cons, List.length_nil]); omega) (by simp only [maxLen]; (try simp only [List.length_append, List.length_cons, List.length_nil]); omega) k18.size ?_
  intro u22 w3 k23 o24 j25
  obtain ⟨a26, c27, rfl⟩ := own_form o24
  have n28 : New w2 a26 c27 := j25 _ _ rfl
  have m29 := m20.extk k23
  refine wl_lit0 (want_none rfl) rfl rfl slTy_35 (fun w => by kernel_rfl) ?_
  intro a31 w4 k32 o33
  have m34 := m29.extk k32
  refine wl_mv (.slice a6 x_in.length c7) (want_none rfl) rfl rfl (.inl rfl) rfl ?_
  refine wl_append0 (want_none rfl) rfl rfl rfl slTy_35 rfl rfl o33 (r8.from0 m34) (all_bV _) (by (try simp only [List.length_append, List.length_cons, List.length_nil]); omega) (by simp only [maxLen]; (try simp only [List.length_append, List.length_cons, List.length_nil]); omega) k32.size ?_
  intro u36 w5 k37 o38 j39
  obtain ⟨a40, c41, rfl⟩ := own_form o38
  have n42 : New w4 a40 c41 := j39 _ _ rfl
  have m43 := m34.extk k37
  refine wl_pure (.agg #[(.int .i64 15), (.int .i64 0), (.int .i64 0), (.slice none 0 0), (.slice none 0 0), (.int .i64 0), (.int .i64 0), (.slice a40 x_in.length c41), (.slice a26 x_key.length c27), (.int .i64 0), (.int .i64 0), (.int .i64 0)]) (want_none rfl) rfl rfl (by kernel_rfl) ?_
  have b45 := ((((b15.kp k18).kp k23).kp k32).kp k37)
  refine wl_store (.agg #[(.int .i64 15), (.int .i64 0), (.int .i64 0), (.slice none 0 0), (.slice none 0 0), (.int .i64 0), (.int .i64 0), (.slice a40 x_in.length c41), (.slice a26 x_key.length c27), (.int .i64 0), (.int .i64 0), (.int .i64 0)]) [(.int .i64 15), (.int .i64 0), (.int .i64 0), (.slice none 0 0), (.slice none 0 0), (.int .i64 0), (.int .i64 0), (.slice a40 x_in.length c41), (.slice a26 x_key.length c27), (.int .i64 0), (.int .i64 0), (.int .i64 0)] [(.int .i64 15), (.int .i64 0), (.int .i64 0), (.slice none 0 0), (.slice none 0 0), (.int .i64 0), (.int .i64 0), (.slice a40 x_in.length c41), (.slice a26 x_key.length c27), (.int .i64 0), (.int .i64 0), (.int .i64 0)] (want_none rfl) rfl rfl rfl rfl rfl (one_cons rfl (one_cons rfl (one_cons rfl (one_cons rfl (one_cons rfl (one_cons rfl (one_cons rfl (one_cons rfl (one_cons rfl (one_cons rfl (one_cons rfl (one_cons rfl one_nil)))))))))))) sizeOf_51 b45 rfl rfl ?_
  intro w6 k46 b47 z48
  have m49 := m43.ext k46 (fun k hk => by subst hk; exact Nat.le_trans (Nat.le_refl _) p12)
  refine wl_nil ?_
  refine wq_then ?_
  refine wc_ret ?_
  have o50 := (own_ch o38 k46 (fun g hg hlt hk => by have h1 := (own_lt o38 g hg).1; have h2 := Nat.lt_of_lt_of_le p13 (Nat.le_trans k18.size k23.size); omega))
  have o51 := (own_ch (own_kp (own_kp o24 k32) k37) k46 (fun g hg hlt hk => by have h1 := (own_lt o24 g hg).1; have h2 := Nat.lt_of_lt_of_le p13 (Nat.le_refl _); omega))
  refine ret_1 (.inl rfl) (.agg #[(.int .i64 15), (.int .i64 0), (.int .i64 0), (.slice none 0 0), (.slice none 0 0), (.int .i64 0), (.int .i64 0), (.slice a40 x_in.length c41), (.slice a26 x_key.length c27), (.int .i64 0), (.int .i64 0), (.int .i64 0)]) rfl (rv_c [(.int .i64 15), (.int .i64 0), (.int .i64 0), (.slice none 0 0), (.slice none 0 0), (.int .i64 0), (.int .i64 0), (.slice a40 x_in.length c41), (.slice a26 x_key.length c27), (.int .i64 0), (.int .i64 0), (.int .i64 0)] rfl b47 isAgg_51 sizeOf_51) ?_
  refine ⟨m49.keep0, ?_⟩
  have hF52 : F_spec_Made x_key x_in = { Kind := 15, Id := 0, Role := 0, Cn := [], Sn := [], Epoch := 0, Seq := 0, Body := x_in, Key := x_key, A := { Host := 0, Port := 0 : PAddr }, Now := 0 : PNote } := by rfl
  rw [hF52]
  exact ⟨_, _, _, _, _, _, _, _, rfl, (own_nil _ _ _ _), (by simp), (own_nil _ _ _ _), (by simp), (own_lo o50 (Nat.le_trans (Nat.le_trans k14.size k18.size) k23.size)), s9, (own_lo o51 k14.size), s4, ⟨⟨(Ap.nl _), ⟨(Ap.nl _), ⟨(Ap.nl _), trivial⟩⟩⟩, ⟨⟨(Ap.nl _), ⟨(Ap.nl _), trivial⟩⟩, ⟨⟨(Ap.new o24 n42 k32.size).symm, trivial⟩, ⟨trivial, trivial⟩⟩⟩⟩⟩

def F_impl_clone (x_b : List UInt8) : (List UInt8) := x_b
theorem C_impl_clone (w0 : World) (v_x_b : Value) (x_b : List UInt8) (r_x_b : R_35 w0 v_x_b x_b)  : Fn Try.prog 59 #[v_x_b] w0 (fun v w' => Keep w0 w' ∧ O_35 w' w0.heap.size v (F_impl_clone x_b)) := by
  obtain ⟨a1, c2, rfl, r3, s4⟩ := r_x_b
  refine fn_of (n := 6) (l := [(.slice a1 x_b.length c2), undef, undef, undef, undef, undef]) Try.func59 rfl rfl (by kernel_rfl) rfl ?_
  refine wc_seq ?_
  refine wc_region ?_
  refine wl_mv (.slice none 0 0) (want_none rfl) rfl rfl (.inr rfl) rfl ?_
  refine wl_nil ?_
  refine wq_then ?_
  refine wc_seq ?_
  refine wc_region ?_
  refine wl_lit0 (want_none rfl) rfl rfl slTy_35 (fun w => by kernel_rfl) ?_
  intro a6 w1 k7 o8
  have m9 := (Ch.base w0).extk k7
  refine wl_mv (.slice a1 x_b.length c2) (want_none rfl) rfl rfl (.inl rfl) rfl ?_
  refine wl_append0 (want_none rfl) rfl rfl rfl slTy_35 rfl rfl o8 (r3.from0 m9) (all_bV _) (by (try simp only [List.length_append, List.length_cons, List.length_nil]); omega) (by simp only [maxLen]; (try simp only [List.length_append, List.length_cons, List.length_nil]); omega) k7.size ?_
  intro u11 w2 k12 o13 j14
  obtain ⟨a15, c16, rfl⟩ := own_form o13
  have n17 : New w1 a15 c16 := j14 _ _ rfl
  have m18 := m9.extk k12
  refine wl_mv (.slice a15 x_b.length c16) (want_none rfl) rfl rfl (.inr rfl) rfl ?_
  refine wl_nil ?_
  refine wq_then ?_
  refine wc_ret ?_
  refine ret_1 (.inl rfl) (.slice a15 x_b.length c16) rfl rfl ?_
  refine ⟨m18.keep0, ?_⟩
  have hF20 : F_impl_clone x_b = x_b := by rfl
  rw [hF20]
  exact ⟨_, _, rfl, o13, s4, ⟨trivial, trivial⟩⟩

def F_impl_Made (x_key : List UInt8) (x_in : List UInt8) : (PNote) := { Kind := 15, Id := 0, Role := 0, Cn := [], Sn := [], Epoch := 0, Seq := 0, Body := (F_impl_clone x_in), Key := (F_impl_clone x_key), A := { Host := 0, Port := 0 : PAddr }, Now := 0 : PNote }
theorem C_impl_Made (w0 : World) (v_x_key : Value) (x_key : List UInt8) (r_x_key : R_35 w0 v_x_key x_key) (v_x_in : Value) (x_in : List UInt8) (r_x_in : R_35 w0 v_x_in x_in)  : Fn Try.prog 41 #[v_x_key, v_x_in] w0 (fun v w' => Keep w0 w' ∧ O_51 w' w0.heap.size v (F_impl_Made x_key x_in)) := by
  obtain ⟨a1, c2, rfl, r3, s4⟩ := r_x_key
  obtain ⟨a6, c7, rfl, r8, s9⟩ := r_x_in
  refine fn_of (n := 10) (l := [(.slice a1 x_key.length c2), (.slice a6 x_in.length c7), undef, undef, undef, undef, undef, undef, undef, undef]) Try.func41 rfl rfl (by kernel_rfl) rfl ?_
  refine wc_seq ?_
  refine wc_region ?_
  refine wl_alloc (want_none rfl) (.agg #[(.int .i64 0), (.int .i64 0), (.int .i64 0), (.slice none 0 0), (.slice none 0 0), (.int .i64 0), (.int .i64 0), (.slice none 0 0), (.slice none 0 0), (.int .i64 0), (.int .i64 0), (.int .i64 0)]) [(.int .i64 0), (.int .i64 0), (.int .i64 0), (.slice none 0 0), (.slice none 0 0), (.int .i64 0), (.int .i64 0), (.slice none 0 0), (.slice none 0 0), (.int .i64 0), (.int .i64 0), (.int .i64 0)] zero_51 rfl rfl rfl rfl ?_
  intro g11 w1 p12 p13 k14 b15
  have m16 := (Ch.base w0).extk k14
  refine wl_nil ?_
  refine wq_then ?_
  refine wc_seq ?_
  refine wc_region ?_
  refine wl_mv (.slice a1 x_key.length c2) (want_none rfl) rfl rfl (.inl rfl) rfl ?_
  refine wl_call (want_none rfl) (args := #[(.slice a1 x_key.length c2)]) rfl rfl (by kernel_rfl) (C_impl_clone w1 (.slice a1 x_key.length c2) x_key (show R_35 w1 (.slice a1 x_key.length c2) x_key from ⟨_, _, rfl, (r3.from0 m16), s4⟩)) ?_
  rintro _ w2 ⟨k17, ⟨a18, c19, rfl, o20, s21, ap23⟩⟩
  have m24 := m16.extk k17
  refine wl_mv (.slice a6 x_in.length c7) (want_none rfl) rfl rfl (.inl rfl) rfl ?_
  refine wl_call (want_none rfl) (args := #[(.slice a6 x_in.length c7)]) rfl rfl (by kernel_rfl) (C_impl_clone w2 (.slice a6 x_in.length c7) x_in (show R_35 w2 (.slice a6 x_in.length c7) x_in from ⟨_, _, rfl, (r8.from0 m24), s9⟩)) ?_
  rintro _ w3 ⟨k25, ⟨a26, c27, rfl, o28, s29, ap31⟩⟩
  have m32 := m24.extk k25
  refine wl_pure (.agg #[(.int .i64 15), (.int .i64 0), (.int .i64 0), (.slice none 0 0), (.slice none 0 0), (.int .i64 0), (.int .i64 0), (.slice a26 (F_impl_clone x_in).length c27), (.slice a18 (F_impl_clone x_key).length c19), (.int .i64 0), (.int .i64 0), (.int .i64 0)]) (want_none rfl) rfl rfl (by kernel_rfl) ?_
  have b33 := ((b15.kp k17).kp k25)
  refine wl_store (.agg #[(.int .i64 15), (.int .i64 0), (.int .i64 0), (.slice none 0 0), (.slice none 0 0), (.int .i64 0), (.int .i64 0), (.slice a26 (F_impl_clone x_in).length c27), (.slice a18 (F_impl_clone x_key).length c19), (.int .i64 0), (.int .i64 0), (.int .i64 0)]) [(.int .i64 15), (.int .i64 0), (.int .i64 0), (.slice none 0 0), (.slice none 0 0), (.int .i64 0), (.int .i64 0), (.slice a26 (F_impl_clone x_in).length c27), (.slice a18 (F_impl_clone x_key).length c19), (.int .i64 0), (.int .i64 0), (.int .i64 0)] [(.int .i64 15), (.int .i64 0), (.int .i64 0), (.slice none 0 0), (.slice none 0 0), (.int .i64 0), (.int .i64 0), (.slice a26 (F_impl_clone x_in).length c27), (.slice a18 (F_impl_clone x_key).length c19), (.int .i64 0), (.int .i64 0), (.int .i64 0)] (want_none rfl) rfl rfl rfl rfl rfl (one_cons rfl (one_cons rfl (one_cons rfl (one_cons rfl (one_cons rfl (one_cons rfl (one_cons rfl (one_cons rfl (one_cons rfl (one_cons rfl (one_cons rfl (one_cons rfl one_nil)))))))))))) sizeOf_51 b33 rfl rfl ?_
  intro w4 k34 b35 z36
  have m37 := m32.ext k34 (fun k hk => by subst hk; exact Nat.le_trans (Nat.le_refl _) p12)
  refine wl_nil ?_
  refine wq_then ?_
  refine wc_ret ?_
  have o38 := (own_ch o28 k34 (fun g hg hlt hk => by have h1 := (own_lt o28 g hg).1; have h2 := Nat.lt_of_lt_of_le p13 k17.size; omega))
  have o39 := (own_ch (own_kp o20 k25) k34 (fun g hg hlt hk => by have h1 := (own_lt o20 g hg).1; have h2 := Nat.lt_of_lt_of_le p13 (Nat.le_refl _); omega))
  refine ret_1 (.inl rfl) (.agg #[(.int .i64 15), (.int .i64 0), (.int .i64 0), (.slice none 0 0), (.slice none 0 0), (.int .i64 0), (.int .i64 0), (.slice a26 (F_impl_clone x_in).length c27), (.slice a18 (F_impl_clone x_key).length c19), (.int .i64 0), (.int .i64 0), (.int .i64 0)]) rfl (rv_c [(.int .i64 15), (.int .i64 0), (.int .i64 0), (.slice none 0 0), (.slice none 0 0), (.int .i64 0), (.int .i64 0), (.slice a26 (F_impl_clone x_in).length c27), (.slice a18 (F_impl_clone x_key).length c19), (.int .i64 0), (.int .i64 0), (.int .i64 0)] rfl b35 isAgg_51 sizeOf_51) ?_
  refine ⟨m37.keep0, ?_⟩
  have hF40 : F_impl_Made x_key x_in = { Kind := 15, Id := 0, Role := 0, Cn := [], Sn := [], Epoch := 0, Seq := 0, Body := (F_impl_clone x_in), Key := (F_impl_clone x_key), A := { Host := 0, Port := 0 : PAddr }, Now := 0 : PNote } := by rfl
  rw [hF40]
  exact ⟨_, _, _, _, _, _, _, _, rfl, (own_nil _ _ _ _), (by simp), (own_nil _ _ _ _), (by simp), (own_lo o38 (Nat.le_trans k14.size k17.size)), s29, (own_lo o39 k14.size), s21, ⟨⟨(Ap.nl _), ⟨(Ap.nl _), ⟨(Ap.nl _), trivial⟩⟩⟩, ⟨⟨(Ap.nl _), ⟨(Ap.nl _), trivial⟩⟩, ⟨⟨(Ap.lt o20 o28 (Nat.le_refl _)).symm, trivial⟩, ⟨trivial, trivial⟩⟩⟩⟩⟩

theorem isAgg_35 : ∀ w, (isAgg 35).run Try.prog w = .ok false w := fun w => by kernel_rfl
def R_51 (w : World) (v : Value) (x : (PNote)) : Prop := ∃ (a1 : Option Addr) (c1 : Nat) (a2 : Option Addr) (c2 : Nat) (a3 : Option Addr) (c3 : Nat) (a4 : Option Addr) (c4 : Nat), v = .agg #[.int .i64 x.Kind, .int .i64 x.Id, .int .i64 x.Role, .slice a1 x.Cn.length c1, .slice a2 x.Sn.length c2, .int .i64 x.Epoch, .int .i64 x.Seq, .slice a3 x.Body.length c3, .slice a4 x.Key.length c4, .int .i64 x.A.Host, .int .i64 x.A.Port, .int .i64 x.Now] ∧ Rd w 1 (.slice a1 x.Cn.length c1) x.Cn.length (x.Cn.map bV) ∧ x.Cn.length ≤ 1073741824 ∧ Rd w 1 (.slice a2 x.Sn.length c2) x.Sn.length (x.Sn.map bV) ∧ x.Sn.length ≤ 1073741824 ∧ Rd w 1 (.slice a3 x.Body.length c3) x.Body.length (x.Body.map bV) ∧ x.Body.length ≤ 1073741824 ∧ Rd w 1 (.slice a4 x.Key.length c4) x.Key.length (x.Key.map bV) ∧ x.Key.length ≤ 1073741824
def F_laws_eqNote (x_a : PNote) (x_b : PNote) : (Bool) := bif (decide (x_a.Kind = x_b.Kind)) then (bif (decide (x_a.Id = x_b.Id)) then (bif (decide (x_a.Role = x_b.Role)) then (bif (eqB x_a.Cn x_b.Cn) then (bif (eqB x_a.Sn x_b.Sn) then (bif (decide (x_a.Epoch = x_b.Epoch)) then (bif (decide (x_a.Seq = x_b.Seq)) then (bif (eqB x_a.Body x_b.Body) then (bif (eqB x_a.Key x_b.Key) then (bif (F_laws_eqAddr x_a.A x_b.A) then (bif (decide (x_a.Now = x_b.Now)) then (true) else (false)) else (false)) else (false)) else (false)) else (false)) else (false)) else (false)) else (false)) else (false)) else (false)) else (false)
theorem C_laws_eqNote (w0 : World) (v_x_a : Value) (x_a : PNote) (r_x_a : R_51 w0 v_x_a x_a) (v_x_b : Value) (x_b : PNote) (r_x_b : R_51 w0 v_x_b x_b)  : Fn Try.prog 42 #[v_x_a, v_x_b] w0 (fun v w' => Keep w0 w' ∧ O_4 w' w0.heap.size v (F_laws_eqNote x_a x_b)) := by
  obtain ⟨a1, c2, a6, c7, a11, c12, a16, c17, rfl, r3, s4, r8, s9, r13, s14, r18, s19⟩ := r_x_a
  obtain ⟨a21, c22, a26, c27, a31, c32, a36, c37, rfl, r23, s24, r28, s29, r33, s34, r38, s39⟩ := r_x_b
  refine fn_of (n := 65) (l := [(.agg #[(.int .i64 x_a.Kind), (.int .i64 x_a.Id), (.int .i64 x_a.Role), (.slice a1 x_a.Cn.length c2), (.slice a6 x_a.Sn.length c7), (.int .i64 x_a.Epoch), (.int .i64 x_a.Seq), (.slice a11 x_a.Body.length c12), (.slice a16 x_a.Key.length c17), (.int .i64 x_a.A.Host), (.int .i64 x_a.A.Port), (.int .i64 x_a.Now)]), (.agg #[(.int .i64 x_b.Kind), (.int .i64 x_b.Id), (.int .i64 x_b.Role), (.slice a21 x_b.Cn.length c22), (.slice a26 x_b.Sn.length c27), (.int .i64 x_b.Epoch), (.int .i64 x_b.Seq), (.slice a31 x_b.Body.length c32), (.slice a36 x_b.Key.length c37), (.int .i64 x_b.A.Host), (.int .i64 x_b.A.Port), (.int .i64 x_b.Now)]), undef, undef, undef, undef, undef, undef, undef, undef, undef, undef, undef, undef, undef, undef, undef, undef, undef, undef, undef, undef, undef, undef, undef, undef, undef, undef, undef, undef, undef, undef, undef, undef, undef, undef, undef, undef, undef, undef, undef, undef, undef, undef, undef, undef, undef, undef, undef, undef, undef, undef, undef, undef, undef, undef, undef, undef, undef, undef, undef, undef, undef, undef, undef]) Try.func42 rfl rfl (by kernel_rfl) rfl ?_
  refine wc_seq ?_
  refine wc_region ?_
  refine wl_box (want_none rfl) [(.int .i64 x_a.Kind), (.int .i64 x_a.Id), (.int .i64 x_a.Role), (.slice a1 x_a.Cn.length c2), (.slice a6 x_a.Sn.length c7), (.int .i64 x_a.Epoch), (.int .i64 x_a.Seq), (.slice a11 x_a.Body.length c12), (.slice a16 x_a.Key.length c17), (.int .i64 x_a.A.Host), (.int .i64 x_a.A.Port), (.int .i64 x_a.Now)] rfl rfl rfl rfl ?_
  intro g41 w1 p42 p43 k44 b45
  have m46 := (Ch.base w0).extk k44
  refine wl_box (want_none rfl) [(.int .i64 x_b.Kind), (.int .i64 x_b.Id), (.int .i64 x_b.Role), (.slice a21 x_b.Cn.length c22), (.slice a26 x_b.Sn.length c27), (.int .i64 x_b.Epoch), (.int .i64 x_b.Seq), (.slice a31 x_b.Body.length c32), (.slice a36 x_b.Key.length c37), (.int .i64 x_b.A.Host), (.int .i64 x_b.A.Port), (.int .i64 x_b.Now)] rfl rfl rfl rfl ?_
  intro g47 w2 p48 p49 k50 b51
  have m52 := m46.extk k50
  refine wl_mv (.bool false) (want_none rfl) rfl rfl (.inr rfl) rfl ?_
  refine wl_nil ?_
  refine wq_then ?_
  refine wc_seq ?_
  refine wc_seq ?_
  refine wc_region ?_
  refine wl_pure (.pointer (some ⟨g41, 0, none⟩)) (want_none rfl) rfl rfl (by kernel_rfl) ?_
  have b53 := (b45.kp k50)
  refine wl_load1 (.int .i64 x_a.Kind) (want_none rfl) rfl rfl rfl rfl isAgg_3 b53 rfl ?_
  refine wl_pure (.pointer (some ⟨g47, 0, none⟩)) (want_none rfl) rfl rfl (by kernel_rfl) ?_
  refine wl_load1 (.int .i64 x_b.Kind) (want_none rfl) rfl rfl rfl rfl isAgg_3 b51 rfl ?_
  refine wl_pure (.bool (!(decide (x_a.Kind = x_b.Kind)))) (want_none rfl) rfl rfl (by kernel_rfl) ?_
  refine wl_nil ?_
  refine wq_then ?_
  rcases Bool.eq_false_or_eq_true (decide (x_a.Kind = x_b.Kind)) with h54 | h54
  · have q55 := of_decide_eq_true h54
    refine wc_false (congrArg (fun b => Value.bool (!b)) h54) ?_
    refine wc_skip ?_
    refine wq_then ?_
    refine wc_seq ?_
    refine wc_seq ?_
    refine wc_region ?_
    refine wl_pure (.pointer (some ⟨g41, 1, none⟩)) (want_none rfl) rfl rfl (by kernel_rfl) ?_
    refine wl_load1 (.int .i64 x_a.Id) (want_none rfl) rfl rfl rfl rfl isAgg_3 b53 rfl ?_
    refine wl_pure (.pointer (some ⟨g47, 1, none⟩)) (want_none rfl) rfl rfl (by kernel_rfl) ?_
    refine wl_load1 (.int .i64 x_b.Id) (want_none rfl) rfl rfl rfl rfl isAgg_3 b51 rfl ?_
    refine wl_pure (.bool (!(decide (x_a.Id = x_b.Id)))) (want_none rfl) rfl rfl (by kernel_rfl) ?_
    refine wl_nil ?_
    refine wq_then ?_
    rcases Bool.eq_false_or_eq_true (decide (x_a.Id = x_b.Id)) with h56 | h56
    · have q57 := of_decide_eq_true h56
      refine wc_false (congrArg (fun b => Value.bool (!b)) h56) ?_
      refine wc_skip ?_
      refine wq_then ?_
      refine wc_seq ?_
      refine wc_seq ?_
      refine wc_region ?_
      refine wl_pure (.pointer (some ⟨g41, 2, none⟩)) (want_none rfl) rfl rfl (by kernel_rfl) ?_
      refine wl_load1 (.int .i64 x_a.Role) (want_none rfl) rfl rfl rfl rfl isAgg_3 b53 rfl ?_
      refine wl_pure (.pointer (some ⟨g47, 2, none⟩)) (want_none rfl) rfl rfl (by kernel_rfl) ?_
      refine wl_load1 (.int .i64 x_b.Role) (want_none rfl) rfl rfl rfl rfl isAgg_3 b51 rfl ?_
      refine wl_pure (.bool (!(decide (x_a.Role = x_b.Role)))) (want_none rfl) rfl rfl (by kernel_rfl) ?_
      refine wl_nil ?_
      refine wq_then ?_
      rcases Bool.eq_false_or_eq_true (decide (x_a.Role = x_b.Role)) with h58 | h58
      · have q59 := of_decide_eq_true h58
        refine wc_false (congrArg (fun b => Value.bool (!b)) h58) ?_
        refine wc_skip ?_
        refine wq_then ?_
        refine wc_seq ?_
        refine wc_seq ?_
        refine wc_region ?_
        refine wl_pure (.pointer (some ⟨g41, 3, none⟩)) (want_none rfl) rfl rfl (by kernel_rfl) ?_
        refine wl_load1 (.slice a1 x_a.Cn.length c2) (want_none rfl) rfl rfl rfl rfl isAgg_35 b53 rfl ?_
        refine wl_pure (.pointer (some ⟨g47, 3, none⟩)) (want_none rfl) rfl rfl (by kernel_rfl) ?_
        refine wl_load1 (.slice a21 x_b.Cn.length c22) (want_none rfl) rfl rfl rfl rfl isAgg_35 b51 rfl ?_
        refine wl_call (want_none rfl) (args := #[(.slice a1 x_a.Cn.length c2), (.slice a21 x_b.Cn.length c22)]) rfl rfl (by kernel_rfl) (C_laws_eqByteS w2 (.slice a1 x_a.Cn.length c2) x_a.Cn (show R_35 w2 (.slice a1 x_a.Cn.length c2) x_a.Cn from ⟨_, _, rfl, (r3.from0 m52), s4⟩) (.slice a21 x_b.Cn.length c22) x_b.Cn (show R_35 w2 (.slice a21 x_b.Cn.length c22) x_b.Cn from ⟨_, _, rfl, (r23.from0 m52), s24⟩)) ?_
        rintro _ w3 ⟨k60, rfl⟩
        have m61 := m52.extk k60
        refine wl_pure (.bool (!(eqB x_a.Cn x_b.Cn))) (want_none rfl) rfl rfl (by kernel_rfl) ?_
        refine wl_nil ?_
        refine wq_then ?_
        rcases Bool.eq_false_or_eq_true (eqB x_a.Cn x_b.Cn) with h62 | h62
        · skip
          refine wc_false (congrArg (fun b => Value.bool (!b)) h62) ?_
          refine wc_skip ?_
          refine wq_then ?_
          refine wc_seq ?_
          refine wc_seq ?_
          refine wc_region ?_
          refine wl_pure (.pointer (some ⟨g41, 4, none⟩)) (want_none rfl) rfl rfl (by kernel_rfl) ?_
          have b64 := (b53.kp k60)
          refine wl_load1 (.slice a6 x_a.Sn.length c7) (want_none rfl) rfl rfl rfl rfl isAgg_35 b64 rfl ?_
          refine wl_pure (.pointer (some ⟨g47, 4, none⟩)) (want_none rfl) rfl rfl (by kernel_rfl) ?_
          have b65 := (b51.kp k60)
          refine wl_load1 (.slice a26 x_b.Sn.length c27) (want_none rfl) rfl rfl rfl rfl isAgg_35 b65 rfl ?_
          refine wl_call (want_none rfl) (args := #[(.slice a6 x_a.Sn.length c7), (.slice a26 x_b.Sn.length c27)]) rfl rfl (by kernel_rfl) (C_laws_eqByteS w3 (.slice a6 x_a.Sn.length c7) x_a.Sn (show R_35 w3 (.slice a6 x_a.Sn.length c7) x_a.Sn from ⟨_, _, rfl, (r8.from0 m61), s9⟩) (.slice a26 x_b.Sn.length c27) x_b.Sn (show R_35 w3 (.slice a26 x_b.Sn.length c27) x_b.Sn from ⟨_, _, rfl, (r28.from0 m61), s29⟩)) ?_
          rintro _ w4 ⟨k66, rfl⟩
          have m67 := m61.extk k66
          refine wl_pure (.bool (!(eqB x_a.Sn x_b.Sn))) (want_none rfl) rfl rfl (by kernel_rfl) ?_
          refine wl_nil ?_
          refine wq_then ?_
          rcases Bool.eq_false_or_eq_true (eqB x_a.Sn x_b.Sn) with h68 | h68
          · skip
            refine wc_false (congrArg (fun b => Value.bool (!b)) h68) ?_
            refine wc_skip ?_
            refine wq_then ?_
            refine wc_seq ?_
            refine wc_seq ?_
            refine wc_region ?_
            refine wl_pure (.pointer (some ⟨g41, 5, none⟩)) (want_none rfl) rfl rfl (by kernel_rfl) ?_
            have b70 := (b64.kp k66)
            refine wl_load1 (.int .i64 x_a.Epoch) (want_none rfl) rfl rfl rfl rfl isAgg_3 b70 rfl ?_
            refine wl_pure (.pointer (some ⟨g47, 5, none⟩)) (want_none rfl) rfl rfl (by kernel_rfl) ?_
            have b71 := (b65.kp k66)
            refine wl_load1 (.int .i64 x_b.Epoch) (want_none rfl) rfl rfl rfl rfl isAgg_3 b71 rfl ?_
            refine wl_pure (.bool (!(decide (x_a.Epoch = x_b.Epoch)))) (want_none rfl) rfl rfl (by kernel_rfl) ?_
            refine wl_nil ?_
            refine wq_then ?_
            rcases Bool.eq_false_or_eq_true (decide (x_a.Epoch = x_b.Epoch)) with h72 | h72
            · have q73 := of_decide_eq_true h72
              refine wc_false (congrArg (fun b => Value.bool (!b)) h72) ?_
              refine wc_skip ?_
              refine wq_then ?_
              refine wc_seq ?_
              refine wc_seq ?_
              refine wc_region ?_
              refine wl_pure (.pointer (some ⟨g41, 6, none⟩)) (want_none rfl) rfl rfl (by kernel_rfl) ?_
              refine wl_load1 (.int .i64 x_a.Seq) (want_none rfl) rfl rfl rfl rfl isAgg_3 b70 rfl ?_
              refine wl_pure (.pointer (some ⟨g47, 6, none⟩)) (want_none rfl) rfl rfl (by kernel_rfl) ?_
              refine wl_load1 (.int .i64 x_b.Seq) (want_none rfl) rfl rfl rfl rfl isAgg_3 b71 rfl ?_
              refine wl_pure (.bool (!(decide (x_a.Seq = x_b.Seq)))) (want_none rfl) rfl rfl (by kernel_rfl) ?_
              refine wl_nil ?_
              refine wq_then ?_
              rcases Bool.eq_false_or_eq_true (decide (x_a.Seq = x_b.Seq)) with h74 | h74
              · have q75 := of_decide_eq_true h74
                refine wc_false (congrArg (fun b => Value.bool (!b)) h74) ?_
                refine wc_skip ?_
                refine wq_then ?_
                refine wc_seq ?_
                refine wc_seq ?_
                refine wc_region ?_
                refine wl_pure (.pointer (some ⟨g41, 7, none⟩)) (want_none rfl) rfl rfl (by kernel_rfl) ?_
                refine wl_load1 (.slice a11 x_a.Body.length c12) (want_none rfl) rfl rfl rfl rfl isAgg_35 b70 rfl ?_
                refine wl_pure (.pointer (some ⟨g47, 7, none⟩)) (want_none rfl) rfl rfl (by kernel_rfl) ?_
                refine wl_load1 (.slice a31 x_b.Body.length c32) (want_none rfl) rfl rfl rfl rfl isAgg_35 b71 rfl ?_
                refine wl_call (want_none rfl) (args := #[(.slice a11 x_a.Body.length c12), (.slice a31 x_b.Body.length c32)]) rfl rfl (by kernel_rfl) (C_laws_eqByteS w4 (.slice a11 x_a.Body.length c12) x_a.Body (show R_35 w4 (.slice a11 x_a.Body.length c12) x_a.Body from ⟨_, _, rfl, (r13.from0 m67), s14⟩) (.slice a31 x_b.Body.length c32) x_b.Body (show R_35 w4 (.slice a31 x_b.Body.length c32) x_b.Body from ⟨_, _, rfl, (r33.from0 m67), s34⟩)) ?_
                rintro _ w5 ⟨k76, rfl⟩
                have m77 := m67.extk k76
                refine wl_pure (.bool (!(eqB x_a.Body x_b.Body))) (want_none rfl) rfl rfl (by kernel_rfl) ?_
                refine wl_nil ?_
                refine wq_then ?_
                rcases Bool.eq_false_or_eq_true (eqB x_a.Body x_b.Body) with h78 | h78
                · skip
                  refine wc_false (congrArg (fun b => Value.bool (!b)) h78) ?_
                  refine wc_skip ?_
                  refine wq_then ?_
                  refine wc_seq ?_
                  refine wc_seq ?_
                  refine wc_region ?_
                  refine wl_pure (.pointer (some ⟨g41, 8, none⟩)) (want_none rfl) rfl rfl (by kernel_rfl) ?_
                  have b80 := (b70.kp k76)
                  refine wl_load1 (.slice a16 x_a.Key.length c17) (want_none rfl) rfl rfl rfl rfl isAgg_35 b80 rfl ?_
                  refine wl_pure (.pointer (some ⟨g47, 8, none⟩)) (want_none rfl) rfl rfl (by kernel_rfl) ?_
                  have b81 := (b71.kp k76)
                  refine wl_load1 (.slice a36 x_b.Key.length c37) (want_none rfl) rfl rfl rfl rfl isAgg_35 b81 rfl ?_
                  refine wl_call (want_none rfl) (args := #[(.slice a16 x_a.Key.length c17), (.slice a36 x_b.Key.length c37)]) rfl rfl (by kernel_rfl) (C_laws_eqByteS w5 (.slice a16 x_a.Key.length c17) x_a.Key (show R_35 w5 (.slice a16 x_a.Key.length c17) x_a.Key from ⟨_, _, rfl, (r18.from0 m77), s19⟩) (.slice a36 x_b.Key.length c37) x_b.Key (show R_35 w5 (.slice a36 x_b.Key.length c37) x_b.Key from ⟨_, _, rfl, (r38.from0 m77), s39⟩)) ?_
                  rintro _ w6 ⟨k82, rfl⟩
                  have m83 := m77.extk k82
                  refine wl_pure (.bool (!(eqB x_a.Key x_b.Key))) (want_none rfl) rfl rfl (by kernel_rfl) ?_
                  refine wl_nil ?_
                  refine wq_then ?_
                  rcases Bool.eq_false_or_eq_true (eqB x_a.Key x_b.Key) with h84 | h84
                  · skip
                    refine wc_false (congrArg (fun b => Value.bool (!b)) h84) ?_
                    refine wc_skip ?_
                    refine wq_then ?_
                    refine wc_seq ?_
                    refine wc_seq ?_
                    refine wc_region ?_
                    refine wl_pure (.pointer (some ⟨g41, 9, none⟩)) (want_none rfl) rfl rfl (by kernel_rfl) ?_
                    have b86 := (b80.kp k82)
                    refine wl_loadN [(.int .i64 x_a.A.Host), (.int .i64 x_a.A.Port)] (want_none rfl) rfl rfl rfl rfl isAgg_49 sizeOf_49 b86 rfl ?_
                    refine wl_pure (.pointer (some ⟨g47, 9, none⟩)) (want_none rfl) rfl rfl (by kernel_rfl) ?_
                    have b87 := (b81.kp k82)
                    refine wl_loadN [(.int .i64 x_b.A.Host), (.int .i64 x_b.A.Port)] (want_none rfl) rfl rfl rfl rfl isAgg_49 sizeOf_49 b87 rfl ?_
                    refine wl_call (want_none rfl) (args := #[(.agg #[(.int .i64 x_a.A.Host), (.int .i64 x_a.A.Port)]), (.agg #[(.int .i64 x_b.A.Host), (.int .i64 x_b.A.Port)])]) rfl rfl (by kernel_rfl) (C_laws_eqAddr w6 (.agg #[(.int .i64 x_a.A.Host), (.int .i64 x_a.A.Port)]) x_a.A (show R_49 w6 (.agg #[(.int .i64 x_a.A.Host), (.int .i64 x_a.A.Port)]) x_a.A from rfl) (.agg #[(.int .i64 x_b.A.Host), (.int .i64 x_b.A.Port)]) x_b.A (show R_49 w6 (.agg #[(.int .i64 x_b.A.Host), (.int .i64 x_b.A.Port)]) x_b.A from rfl)) ?_
                    rintro _ w7 ⟨k88, rfl⟩
                    have m89 := m83.extk k88
                    refine wl_pure (.bool (!(F_laws_eqAddr x_a.A x_b.A))) (want_none rfl) rfl rfl (by kernel_rfl) ?_
                    refine wl_nil ?_
                    refine wq_then ?_
                    rcases Bool.eq_false_or_eq_true (F_laws_eqAddr x_a.A x_b.A) with h90 | h90
                    · skip
                      refine wc_false (congrArg (fun b => Value.bool (!b)) h90) ?_
                      refine wc_skip ?_
                      refine wq_then ?_
                      refine wc_seq ?_
                      refine wc_seq ?_
                      refine wc_region ?_
                      refine wl_pure (.pointer (some ⟨g41, 11, none⟩)) (want_none rfl) rfl rfl (by kernel_rfl) ?_
                      have b92 := (b86.kp k88)
                      refine wl_load1 (.int .i64 x_a.Now) (want_none rfl) rfl rfl rfl rfl isAgg_3 b92 rfl ?_
                      refine wl_pure (.pointer (some ⟨g47, 11, none⟩)) (want_none rfl) rfl rfl (by kernel_rfl) ?_
                      have b93 := (b87.kp k88)
                      refine wl_load1 (.int .i64 x_b.Now) (want_none rfl) rfl rfl rfl rfl isAgg_3 b93 rfl ?_
                      refine wl_pure (.bool (!(decide (x_a.Now = x_b.Now)))) (want_none rfl) rfl rfl (by kernel_rfl) ?_
                      refine wl_nil ?_
                      refine wq_then ?_
                      rcases Bool.eq_false_or_eq_true (decide (x_a.Now = x_b.Now)) with h94 | h94
                      · have q95 := of_decide_eq_true h94
                        refine wc_false (congrArg (fun b => Value.bool (!b)) h94) ?_
                        refine wc_skip ?_
                        refine wq_then ?_
                        refine wc_seq ?_
                        refine wc_region ?_
                        refine wl_mv (.bool true) (want_none rfl) rfl rfl (.inr rfl) rfl ?_
                        refine wl_nil ?_
                        refine wq_then ?_
                        refine wc_ret ?_
                        refine ret_1 (.inl rfl) (.bool true) rfl rfl ?_
                        refine ⟨m89.keep0, ?_⟩
                        have hF96 : F_laws_eqNote x_a x_b = true := by simp only [F_laws_eqNote, h54, h56, h58, h62, h68, h72, h74, h78, h84, h90, h94, cond_true, cond_false]
                        rw [hF96]
                        exact rfl
                      · have q97 := of_decide_eq_false h94
                        refine wc_true (congrArg (fun b => Value.bool (!b)) h94) ?_
                        refine wc_seq ?_
                        refine wc_region ?_
                        refine wl_mv (.bool false) (want_none rfl) rfl rfl (.inr rfl) rfl ?_
                        refine wl_nil ?_
                        refine wq_then ?_
                        refine wc_ret ?_
                        refine wq_then_ret ?_
                        refine ret_1 (.inl rfl) (.bool false) rfl rfl ?_
                        refine ⟨m89.keep0, ?_⟩
                        have hF98 : F_laws_eqNote x_a x_b = false := by simp only [F_laws_eqNote, h54, h56, h58, h62, h68, h72, h74, h78, h84, h90, h94, cond_true, cond_false]
                        rw [hF98]
                        exact rfl
                    · skip
                      refine wc_true (congrArg (fun b => Value.bool (!b)) h90) ?_
                      refine wc_seq ?_
                      refine wc_region ?_
                      refine wl_mv (.bool false) (want_none rfl) rfl rfl (.inr rfl) rfl ?_
                      refine wl_nil ?_
                      refine wq_then ?_
                      refine wc_ret ?_
                      refine wq_then_ret ?_
                      refine ret_1 (.inl rfl) (.bool false) rfl rfl ?_
                      refine ⟨m89.keep0, ?_⟩
                      have hF100 : F_laws_eqNote x_a x_b = false := by simp only [F_laws_eqNote, h54, h56, h58, h62, h68, h72, h74, h78, h84, h90, cond_true, cond_false]
                      rw [hF100]
                      exact rfl
                  · skip
                    refine wc_true (congrArg (fun b => Value.bool (!b)) h84) ?_
                    refine wc_seq ?_
                    refine wc_region ?_
                    refine wl_mv (.bool false) (want_none rfl) rfl rfl (.inr rfl) rfl ?_
                    refine wl_nil ?_
                    refine wq_then ?_
                    refine wc_ret ?_
                    refine wq_then_ret ?_
                    refine ret_1 (.inl rfl) (.bool false) rfl rfl ?_
                    refine ⟨m83.keep0, ?_⟩
                    have hF102 : F_laws_eqNote x_a x_b = false := by simp only [F_laws_eqNote, h54, h56, h58, h62, h68, h72, h74, h78, h84, cond_true, cond_false]
                    rw [hF102]
                    exact rfl
                · skip
                  refine wc_true (congrArg (fun b => Value.bool (!b)) h78) ?_
                  refine wc_seq ?_
                  refine wc_region ?_
                  refine wl_mv (.bool false) (want_none rfl) rfl rfl (.inr rfl) rfl ?_
                  refine wl_nil ?_
                  refine wq_then ?_
                  refine wc_ret ?_
                  refine wq_then_ret ?_
                  refine ret_1 (.inl rfl) (.bool false) rfl rfl ?_
                  refine ⟨m77.keep0, ?_⟩
                  have hF104 : F_laws_eqNote x_a x_b = false := by simp only [F_laws_eqNote, h54, h56, h58, h62, h68, h72, h74, h78, cond_true, cond_false]
                  rw [hF104]
                  exact rfl
              · have q105 := of_decide_eq_false h74
                refine wc_true (congrArg (fun b => Value.bool (!b)) h74) ?_
                refine wc_seq ?_
                refine wc_region ?_
                refine wl_mv (.bool false) (want_none rfl) rfl rfl (.inr rfl) rfl ?_
                refine wl_nil ?_
                refine wq_then ?_
                refine wc_ret ?_
                refine wq_then_ret ?_
                refine ret_1 (.inl rfl) (.bool false) rfl rfl ?_
                refine ⟨m67.keep0, ?_⟩
                have hF106 : F_laws_eqNote x_a x_b = false := by simp only [F_laws_eqNote, h54, h56, h58, h62, h68, h72, h74, cond_true, cond_false]
                rw [hF106]
                exact rfl
            · have q107 := of_decide_eq_false h72
              refine wc_true (congrArg (fun b => Value.bool (!b)) h72) ?_
              refine wc_seq ?_
              refine wc_region ?_
              refine wl_mv (.bool false) (want_none rfl) rfl rfl (.inr rfl) rfl ?_
              refine wl_nil ?_
              refine wq_then ?_
              refine wc_ret ?_
              refine wq_then_ret ?_
              refine ret_1 (.inl rfl) (.bool false) rfl rfl ?_
              refine ⟨m67.keep0, ?_⟩
              have hF108 : F_laws_eqNote x_a x_b = false := by simp only [F_laws_eqNote, h54, h56, h58, h62, h68, h72, cond_true, cond_false]
              rw [hF108]
              exact rfl
          · skip
            refine wc_true (congrArg (fun b => Value.bool (!b)) h68) ?_
            refine wc_seq ?_
            refine wc_region ?_
            refine wl_mv (.bool false) (want_none rfl) rfl rfl (.inr rfl) rfl ?_
            refine wl_nil ?_
            refine wq_then ?_
            refine wc_ret ?_
            refine wq_then_ret ?_
            refine ret_1 (.inl rfl) (.bool false) rfl rfl ?_
            refine ⟨m67.keep0, ?_⟩
            have hF110 : F_laws_eqNote x_a x_b = false := by simp only [F_laws_eqNote, h54, h56, h58, h62, h68, cond_true, cond_false]
            rw [hF110]
            exact rfl
        · skip
          refine wc_true (congrArg (fun b => Value.bool (!b)) h62) ?_
          refine wc_seq ?_
          refine wc_region ?_
          refine wl_mv (.bool false) (want_none rfl) rfl rfl (.inr rfl) rfl ?_
          refine wl_nil ?_
          refine wq_then ?_
          refine wc_ret ?_
          refine wq_then_ret ?_
          refine ret_1 (.inl rfl) (.bool false) rfl rfl ?_
          refine ⟨m61.keep0, ?_⟩
          have hF112 : F_laws_eqNote x_a x_b = false := by simp only [F_laws_eqNote, h54, h56, h58, h62, cond_true, cond_false]
          rw [hF112]
          exact rfl
      · have q113 := of_decide_eq_false h58
        refine wc_true (congrArg (fun b => Value.bool (!b)) h58) ?_
        refine wc_seq ?_
        refine wc_region ?_
        refine wl_mv (.bool false) (want_none rfl) rfl rfl (.inr rfl) rfl ?_
        refine wl_nil ?_
        refine wq_then ?_
        refine wc_ret ?_
        refine wq_then_ret ?_
        refine ret_1 (.inl rfl) (.bool false) rfl rfl ?_
        refine ⟨m52.keep0, ?_⟩
        have hF114 : F_laws_eqNote x_a x_b = false := by simp only [F_laws_eqNote, h54, h56, h58, cond_true, cond_false]
        rw [hF114]
        exact rfl
    · have q115 := of_decide_eq_false h56
      refine wc_true (congrArg (fun b => Value.bool (!b)) h56) ?_
      refine wc_seq ?_
      refine wc_region ?_
      refine wl_mv (.bool false) (want_none rfl) rfl rfl (.inr rfl) rfl ?_
      refine wl_nil ?_
      refine wq_then ?_
      refine wc_ret ?_
      refine wq_then_ret ?_
      refine ret_1 (.inl rfl) (.bool false) rfl rfl ?_
      refine ⟨m52.keep0, ?_⟩
      have hF116 : F_laws_eqNote x_a x_b = false := by simp only [F_laws_eqNote, h54, h56, cond_true, cond_false]
      rw [hF116]
      exact rfl
  · have q117 := of_decide_eq_false h54
    refine wc_true (congrArg (fun b => Value.bool (!b)) h54) ?_
    refine wc_seq ?_
    refine wc_region ?_
    refine wl_mv (.bool false) (want_none rfl) rfl rfl (.inr rfl) rfl ?_
    refine wl_nil ?_
    refine wq_then ?_
    refine wc_ret ?_
    refine wq_then_ret ?_
    refine ret_1 (.inl rfl) (.bool false) rfl rfl ?_
    refine ⟨m52.keep0, ?_⟩
    have hF118 : F_laws_eqNote x_a x_b = false := by simp only [F_laws_eqNote, h54, cond_true, cond_false]
    rw [hF118]
    exact rfl

theorem C_laws_markNote (w0 : World) (a1 : Option Addr) (c1 : Nat) (a2 : Option Addr) (c2 : Nat) (a3 : Option Addr) (c3 : Nat) (a4 : Option Addr) (c4 : Nat) (x : PNote) (k : Int) (h0 : 0 ≤ k) (h1 : k ≤ 8700000000000000000) (s1 : x.Cn.length ≤ 1073741824) (r1 : Rd w0 1 (.slice a1 x.Cn.length c1) x.Cn.length (x.Cn.map bV)) (p1 : Wp w0 5 a1 x.Cn.length c1 (x.Cn.map bV)) (s2 : x.Sn.length ≤ 1073741824) (r2 : Rd w0 1 (.slice a2 x.Sn.length c2) x.Sn.length (x.Sn.map bV)) (p2 : Wp w0 5 a2 x.Sn.length c2 (x.Sn.map bV)) (s3 : x.Body.length ≤ 1073741824) (r3 : Rd w0 1 (.slice a3 x.Body.length c3) x.Body.length (x.Body.map bV)) (p3 : Wp w0 5 a3 x.Body.length c3 (x.Body.map bV)) (s4 : x.Key.length ≤ 1073741824) (r4 : Rd w0 1 (.slice a4 x.Key.length c4) x.Key.length (x.Key.map bV)) (p4 : Wp w0 5 a4 x.Key.length c4 (x.Key.map bV)) (ap : Aps [(a1, c1), (a2, c2), (a3, c3), (a4, c4)]) :
    Fn Try.prog 43 #[(.agg #[(.int .i64 x.Kind), (.int .i64 x.Id), (.int .i64 x.Role), (.slice a1 x.Cn.length c1), (.slice a2 x.Sn.length c2), (.int .i64 x.Epoch), (.int .i64 x.Seq), (.slice a3 x.Body.length c3), (.slice a4 x.Key.length c4), (.int .i64 x.A.Host), (.int .i64 x.A.Port), (.int .i64 x.Now)]), .int .i64 k] w0 (fun v w' => v = .int .i64 ((((k + (x.Cn.length : Int)) + (x.Sn.length : Int)) + (x.Body.length : Int)) + (x.Key.length : Int)) ∧ Ch (MS [(a1, x.Cn.length), (a2, x.Sn.length), (a3, x.Body.length), (a4, x.Key.length)]) w0 w' ∧ Rd w' 1 (.slice a1 x.Cn.length c1) x.Cn.length ((marksB k x.Cn.length).map bV) ∧ Rd w' 1 (.slice a2 x.Sn.length c2) x.Sn.length ((marksB (k + (x.Cn.length : Int)) x.Sn.length).map bV) ∧ Rd w' 1 (.slice a3 x.Body.length c3) x.Body.length ((marksB ((k + (x.Cn.length : Int)) + (x.Sn.length : Int)) x.Body.length).map bV) ∧ Rd w' 1 (.slice a4 x.Key.length c4) x.Key.length ((marksB (((k + (x.Cn.length : Int)) + (x.Sn.length : Int)) + (x.Body.length : Int)) x.Key.length).map bV)) := by
  refine fn_of (n := 22) (l := [(.agg #[(.int .i64 x.Kind), (.int .i64 x.Id), (.int .i64 x.Role), (.slice a1 x.Cn.length c1), (.slice a2 x.Sn.length c2), (.int .i64 x.Epoch), (.int .i64 x.Seq), (.slice a3 x.Body.length c3), (.slice a4 x.Key.length c4), (.int .i64 x.A.Host), (.int .i64 x.A.Port), (.int .i64 x.Now)]), (.int .i64 k), undef, undef, undef, undef, undef, undef, undef, undef, undef, undef, undef, undef, undef, undef, undef, undef, undef, undef, undef, undef]) Try.func43 rfl rfl (by kernel_rfl) rfl ?_
  refine wc_seq ?_
  refine wc_region ?_
  refine wl_box (want_none rfl) [(.int .i64 x.Kind), (.int .i64 x.Id), (.int .i64 x.Role), (.slice a1 x.Cn.length c1), (.slice a2 x.Sn.length c2), (.int .i64 x.Epoch), (.int .i64 x.Seq), (.slice a3 x.Body.length c3), (.slice a4 x.Key.length c4), (.int .i64 x.A.Host), (.int .i64 x.A.Port), (.int .i64 x.Now)] rfl rfl rfl rfl ?_
  intro g201 w1 p202 p203 k204 b205
  refine wl_mv (.int .i64 0) (want_none rfl) rfl rfl (.inr rfl) rfl ?_
  refine wl_nil ?_
  refine wq_then ?_
  refine wc_seq ?_
  refine wc_region ?_
  refine wl_pure (.pointer (some ⟨g201, 3, none⟩)) (want_none rfl) rfl rfl (by kernel_rfl) ?_
  refine wl_load1 (.slice a1 x.Cn.length c1) (want_none rfl) rfl rfl rfl rfl isAgg_35 b205 rfl ?_
  refine wl_mv (.int .i64 k) (want_none rfl) rfl rfl (.inl rfl) rfl ?_
  have r206 := (r1.kp k204)
  have wp207 : Wp w1 5 a1 x.Cn.length c1 _ := (Wp.kp p1 k204)
  refine wl_call (want_none rfl) (args := #[(.slice a1 x.Cn.length c1), (.int .i64 k)]) rfl rfl (by kernel_rfl) (C_laws_markByteS w1 a1 c1 x.Cn k (by omega) (by omega) s1 r206 wp207) ?_
  rintro _ w2 ⟨rfl, k208, r209⟩
  refine wl_mv (.int .i64 (k + (x.Cn.length : Int))) (want_none rfl) rfl rfl (.inr rfl) rfl ?_
  refine wl_nil ?_
  refine wq_then ?_
  refine wc_seq ?_
  refine wc_region ?_
  refine wl_pure (.pointer (some ⟨g201, 4, none⟩)) (want_none rfl) rfl rfl (by kernel_rfl) ?_
  have b210 := (b205.ch k208 (ms_lo (ms_lo_cons (fun hn x hx hb => by have := Wp.lt p1 hn x hx; have := Nat.le_trans (Nat.le_refl _) p202; omega) ms_lo_nil)))
  refine wl_load1 (.slice a2 x.Sn.length c2) (want_none rfl) rfl rfl rfl rfl isAgg_35 b210 rfl ?_
  refine wl_mv (.int .i64 (k + (x.Cn.length : Int))) (want_none rfl) rfl rfl (.inl rfl) rfl ?_
  have r211 := (Rd.ms (l := [(a1, x.Cn.length, c1)]) (r2.kp k204) rfl k208 (ap_cons (rd_cap r206) (ap.1.1) ap_nil))
  have wp212 : Wp w2 5 a2 x.Sn.length c2 _ := (Wp.ms (l := [(a1, x.Cn.length, c1)]) (Wp.kp p2 k204) (rd_cap r211) rfl k208 (ap_cons (rd_cap r206) (ap.1.1) ap_nil))
  refine wl_call (want_none rfl) (args := #[(.slice a2 x.Sn.length c2), (.int .i64 (k + (x.Cn.length : Int)))]) rfl rfl (by kernel_rfl) (C_laws_markByteS w2 a2 c2 x.Sn (k + (x.Cn.length : Int)) (by omega) (by omega) s2 r211 wp212) ?_
  rintro _ w3 ⟨rfl, k213, r214⟩
  refine wl_mv (.int .i64 ((k + (x.Cn.length : Int)) + (x.Sn.length : Int))) (want_none rfl) rfl rfl (.inr rfl) rfl ?_
  refine wl_nil ?_
  refine wq_then ?_
  refine wc_seq ?_
  refine wc_region ?_
  refine wl_pure (.pointer (some ⟨g201, 7, none⟩)) (want_none rfl) rfl rfl (by kernel_rfl) ?_
  have b215 := (b210.ch k213 (ms_lo (ms_lo_cons (fun hn x hx hb => by have := Wp.lt p2 hn x hx; have := Nat.le_trans (Nat.le_refl _) p202; omega) ms_lo_nil)))
  refine wl_load1 (.slice a3 x.Body.length c3) (want_none rfl) rfl rfl rfl rfl isAgg_35 b215 rfl ?_
  refine wl_mv (.int .i64 ((k + (x.Cn.length : Int)) + (x.Sn.length : Int))) (want_none rfl) rfl rfl (.inl rfl) rfl ?_
  have r216 := (Rd.ms (l := [(a2, x.Sn.length, c2)]) (Rd.ms (l := [(a1, x.Cn.length, c1)]) (r3.kp k204) rfl k208 (ap_cons (rd_cap r206) (ap.1.2.1) ap_nil)) rfl k213 (ap_cons (rd_cap r211) (ap.2.1.1) ap_nil))
  have wp217 : Wp w3 5 a3 x.Body.length c3 _ := (Wp.ms (l := [(a2, x.Sn.length, c2)]) (Wp.ms (l := [(a1, x.Cn.length, c1)]) (Wp.kp p3 k204) (rd_cap r216) rfl k208 (ap_cons (rd_cap r206) (ap.1.2.1) ap_nil)) (rd_cap r216) rfl k213 (ap_cons (rd_cap r211) (ap.2.1.1) ap_nil))
  refine wl_call (want_none rfl) (args := #[(.slice a3 x.Body.length c3), (.int .i64 ((k + (x.Cn.length : Int)) + (x.Sn.length : Int)))]) rfl rfl (by kernel_rfl) (C_laws_markByteS w3 a3 c3 x.Body ((k + (x.Cn.length : Int)) + (x.Sn.length : Int)) (by omega) (by omega) s3 r216 wp217) ?_
  rintro _ w4 ⟨rfl, k218, r219⟩
  refine wl_mv (.int .i64 (((k + (x.Cn.length : Int)) + (x.Sn.length : Int)) + (x.Body.length : Int))) (want_none rfl) rfl rfl (.inr rfl) rfl ?_
  refine wl_nil ?_
  refine wq_then ?_
  refine wc_seq ?_
  refine wc_region ?_
  refine wl_pure (.pointer (some ⟨g201, 8, none⟩)) (want_none rfl) rfl rfl (by kernel_rfl) ?_
  have b220 := (b215.ch k218 (ms_lo (ms_lo_cons (fun hn x hx hb => by have := Wp.lt p3 hn x hx; have := Nat.le_trans (Nat.le_refl _) p202; omega) ms_lo_nil)))
  refine wl_load1 (.slice a4 x.Key.length c4) (want_none rfl) rfl rfl rfl rfl isAgg_35 b220 rfl ?_
  refine wl_mv (.int .i64 (((k + (x.Cn.length : Int)) + (x.Sn.length : Int)) + (x.Body.length : Int))) (want_none rfl) rfl rfl (.inl rfl) rfl ?_
  have r221 := (Rd.ms (l := [(a3, x.Body.length, c3)]) (Rd.ms (l := [(a2, x.Sn.length, c2)]) (Rd.ms (l := [(a1, x.Cn.length, c1)]) (r4.kp k204) rfl k208 (ap_cons (rd_cap r206) (ap.1.2.2.1) ap_nil)) rfl k213 (ap_cons (rd_cap r211) (ap.2.1.2.1) ap_nil)) rfl k218 (ap_cons (rd_cap r216) (ap.2.2.1.1) ap_nil))
  have wp222 : Wp w4 5 a4 x.Key.length c4 _ := (Wp.ms (l := [(a3, x.Body.length, c3)]) (Wp.ms (l := [(a2, x.Sn.length, c2)]) (Wp.ms (l := [(a1, x.Cn.length, c1)]) (Wp.kp p4 k204) (rd_cap r221) rfl k208 (ap_cons (rd_cap r206) (ap.1.2.2.1) ap_nil)) (rd_cap r221) rfl k213 (ap_cons (rd_cap r211) (ap.2.1.2.1) ap_nil)) (rd_cap r221) rfl k218 (ap_cons (rd_cap r216) (ap.2.2.1.1) ap_nil))
  refine wl_call (want_none rfl) (args := #[(.slice a4 x.Key.length c4), (.int .i64 (((k + (x.Cn.length : Int)) + (x.Sn.length : Int)) + (x.Body.length : Int)))]) rfl rfl (by kernel_rfl) (C_laws_markByteS w4 a4 c4 x.Key (((k + (x.Cn.length : Int)) + (x.Sn.length : Int)) + (x.Body.length : Int)) (by omega) (by omega) s4 r221 wp222) ?_
  rintro _ w5 ⟨rfl, k223, r224⟩
  refine wl_mv (.int .i64 ((((k + (x.Cn.length : Int)) + (x.Sn.length : Int)) + (x.Body.length : Int)) + (x.Key.length : Int))) (want_none rfl) rfl rfl (.inr rfl) rfl ?_
  refine wl_nil ?_
  refine wq_then ?_
  refine wc_seq ?_
  refine wc_region ?_
  refine wl_mv (.int .i64 ((((k + (x.Cn.length : Int)) + (x.Sn.length : Int)) + (x.Body.length : Int)) + (x.Key.length : Int))) (want_none rfl) rfl rfl (.inl rfl) rfl ?_
  refine wl_mv (.int .i64 ((((k + (x.Cn.length : Int)) + (x.Sn.length : Int)) + (x.Body.length : Int)) + (x.Key.length : Int))) (want_none rfl) rfl rfl (.inr rfl) rfl ?_
  refine wl_nil ?_
  refine wq_then ?_
  refine wc_ret ?_
  have r225 := (Rd.ms (l := [(a4, x.Key.length, c4)]) (Rd.ms (l := [(a3, x.Body.length, c3)]) (Rd.ms (l := [(a2, x.Sn.length, c2)]) r209 rfl k213 (ap_cons (rd_cap r211) (ap.1.1).symm ap_nil)) rfl k218 (ap_cons (rd_cap r216) (ap.1.2.1).symm ap_nil)) rfl k223 (ap_cons (rd_cap r221) (ap.1.2.2.1).symm ap_nil))
  have r226 := (Rd.ms (l := [(a4, x.Key.length, c4)]) (Rd.ms (l := [(a3, x.Body.length, c3)]) r214 rfl k218 (ap_cons (rd_cap r216) (ap.2.1.1).symm ap_nil)) rfl k223 (ap_cons (rd_cap r221) (ap.2.1.2.1).symm ap_nil))
  have r227 := (Rd.ms (l := [(a4, x.Key.length, c4)]) r219 rfl k223 (ap_cons (rd_cap r221) (ap.2.2.1.1).symm ap_nil))
  exact ret_1 (.inl rfl) (.int .i64 ((((k + (x.Cn.length : Int)) + (x.Sn.length : Int)) + (x.Body.length : Int)) + (x.Key.length : Int))) rfl rfl ⟨rfl, ((((((Ch.refl (MS [(a1, x.Cn.length), (a2, x.Sn.length), (a3, x.Body.length), (a4, x.Key.length)]) w0).comp k204 (fun _ _ h => h.elim)).comp k208 (fun _ _ h => ms_sub [] [(a2, x.Sn.length), (a3, x.Body.length), (a4, x.Key.length)] h)).comp k213 (fun _ _ h => ms_sub [(a1, x.Cn.length)] [(a3, x.Body.length), (a4, x.Key.length)] h)).comp k218 (fun _ _ h => ms_sub [(a1, x.Cn.length), (a2, x.Sn.length)] [(a4, x.Key.length)] h)).comp k223 (fun _ _ h => ms_sub [(a1, x.Cn.length), (a2, x.Sn.length), (a3, x.Body.length)] [] h)), r225, r226, r227, r224⟩

def F_laws_heldNote (x_a : PNote) (x_k : Int) : (Int) := bif (decide ((heldB x_a.Cn x_k) < 0)) then ((-1)) else (bif (decide ((heldB x_a.Sn (heldB x_a.Cn x_k)) < 0)) then ((-1)) else (bif (decide ((heldB x_a.Body (heldB x_a.Sn (heldB x_a.Cn x_k))) < 0)) then ((-1)) else (bif (decide ((heldB x_a.Key (heldB x_a.Body (heldB x_a.Sn (heldB x_a.Cn x_k)))) < 0)) then ((-1)) else ((heldB x_a.Key (heldB x_a.Body (heldB x_a.Sn (heldB x_a.Cn x_k))))))))
theorem C_laws_heldNote (w0 : World) (v_x_a : Value) (x_a : PNote) (r_x_a : R_51 w0 v_x_a x_a) (x_k : Int) (pre0 : 0 ≤ x_k) (pre1 : x_k ≤ 8700000000000000000) : Fn Try.prog 44 #[v_x_a, (.int .i64 x_k)] w0 (fun v w' => Keep w0 w' ∧ O_3 w' w0.heap.size v (F_laws_heldNote x_a x_k)) := by
  obtain ⟨a1, c2, a6, c7, a11, c12, a16, c17, rfl, r3, s4, r8, s9, r13, s14, r18, s19⟩ := r_x_a
  refine fn_of (n := 30) (l := [(.agg #[(.int .i64 x_a.Kind), (.int .i64 x_a.Id), (.int .i64 x_a.Role), (.slice a1 x_a.Cn.length c2), (.slice a6 x_a.Sn.length c7), (.int .i64 x_a.Epoch), (.int .i64 x_a.Seq), (.slice a11 x_a.Body.length c12), (.slice a16 x_a.Key.length c17), (.int .i64 x_a.A.Host), (.int .i64 x_a.A.Port), (.int .i64 x_a.Now)]), (.int .i64 x_k), undef, undef, undef, undef, undef, undef, undef, undef, undef, undef, undef, undef, undef, undef, undef, undef, undef, undef, undef, undef, undef, undef, undef, undef, undef, undef, undef, undef]) Try.func44 rfl rfl (by kernel_rfl) rfl ?_
  refine wc_seq ?_
  refine wc_region ?_
  refine wl_box (want_none rfl) [(.int .i64 x_a.Kind), (.int .i64 x_a.Id), (.int .i64 x_a.Role), (.slice a1 x_a.Cn.length c2), (.slice a6 x_a.Sn.length c7), (.int .i64 x_a.Epoch), (.int .i64 x_a.Seq), (.slice a11 x_a.Body.length c12), (.slice a16 x_a.Key.length c17), (.int .i64 x_a.A.Host), (.int .i64 x_a.A.Port), (.int .i64 x_a.Now)] rfl rfl rfl rfl ?_
  intro g21 w1 p22 p23 k24 b25
  have m26 := (Ch.base w0).extk k24
  refine wl_mv (.int .i64 0) (want_none rfl) rfl rfl (.inr rfl) rfl ?_
  refine wl_nil ?_
  refine wq_then ?_
  refine wc_seq ?_
  refine wc_region ?_
  refine wl_pure (.pointer (some ⟨g21, 3, none⟩)) (want_none rfl) rfl rfl (by kernel_rfl) ?_
  refine wl_load1 (.slice a1 x_a.Cn.length c2) (want_none rfl) rfl rfl rfl rfl isAgg_35 b25 rfl ?_
  refine wl_mv (.int .i64 x_k) (want_none rfl) rfl rfl (.inl rfl) rfl ?_
  refine wl_call (want_none rfl) (args := #[(.slice a1 x_a.Cn.length c2), (.int .i64 x_k)]) rfl rfl (by kernel_rfl) (C_laws_heldByteS w1 (.slice a1 x_a.Cn.length c2) x_a.Cn (show R_35 w1 (.slice a1 x_a.Cn.length c2) x_a.Cn from ⟨_, _, rfl, (r3.from0 m26), s4⟩) x_k (by omega) (by omega)) ?_
  rintro _ w2 ⟨k27, rfl⟩
  have m28 := m26.extk k27
  have q29 := heldB_le x_a.Cn x_k
  refine wl_mv (.int .i64 (heldB x_a.Cn x_k)) (want_none rfl) rfl rfl (.inr rfl) rfl ?_
  refine wl_nil ?_
  refine wq_then ?_
  refine wc_seq ?_
  refine wc_seq ?_
  refine wc_region ?_
  refine wl_mv (.int .i64 (heldB x_a.Cn x_k)) (want_none rfl) rfl rfl (.inl rfl) rfl ?_
  refine wl_pure (.bool (decide ((heldB x_a.Cn x_k) < 0))) (want_none rfl) rfl rfl (by kernel_rfl) ?_
  refine wl_nil ?_
  refine wq_then ?_
  rcases Bool.eq_false_or_eq_true (decide ((heldB x_a.Cn x_k) < 0)) with h30 | h30
  · have q31 := of_decide_eq_true h30
    refine wc_true (congrArg Value.bool h30) ?_
    refine wc_seq ?_
    refine wc_region ?_
    refine wl_mv (.int .i64 (-1)) (want_none rfl) rfl rfl (.inr rfl) rfl ?_
    refine wl_nil ?_
    refine wq_then ?_
    refine wc_ret ?_
    refine wq_then_ret ?_
    refine ret_1 (.inl rfl) (.int .i64 (-1)) rfl rfl ?_
    refine ⟨m28.keep0, ?_⟩
    have hF32 : F_laws_heldNote x_a x_k = (-1) := by simp only [F_laws_heldNote, h30, cond_true, cond_false]
    rw [hF32]
    exact rfl
  · have q33 := of_decide_eq_false h30
    refine wc_false (congrArg Value.bool h30) ?_
    refine wc_skip ?_
    refine wq_then ?_
    refine wc_seq ?_
    refine wc_region ?_
    refine wl_pure (.pointer (some ⟨g21, 4, none⟩)) (want_none rfl) rfl rfl (by kernel_rfl) ?_
    have b34 := (b25.kp k27)
    refine wl_load1 (.slice a6 x_a.Sn.length c7) (want_none rfl) rfl rfl rfl rfl isAgg_35 b34 rfl ?_
    refine wl_mv (.int .i64 (heldB x_a.Cn x_k)) (want_none rfl) rfl rfl (.inl rfl) rfl ?_
    refine wl_call (want_none rfl) (args := #[(.slice a6 x_a.Sn.length c7), (.int .i64 (heldB x_a.Cn x_k))]) rfl rfl (by kernel_rfl) (C_laws_heldByteS w2 (.slice a6 x_a.Sn.length c7) x_a.Sn (show R_35 w2 (.slice a6 x_a.Sn.length c7) x_a.Sn from ⟨_, _, rfl, (r8.from0 m28), s9⟩) (heldB x_a.Cn x_k) (by omega) (by omega)) ?_
    rintro _ w3 ⟨k35, rfl⟩
    have m36 := m28.extk k35
    have q37 := heldB_le x_a.Sn (heldB x_a.Cn x_k)
    refine wl_mv (.int .i64 (heldB x_a.Sn (heldB x_a.Cn x_k))) (want_none rfl) rfl rfl (.inr rfl) rfl ?_
    refine wl_nil ?_
    refine wq_then ?_
    refine wc_seq ?_
    refine wc_seq ?_
    refine wc_region ?_
    refine wl_mv (.int .i64 (heldB x_a.Sn (heldB x_a.Cn x_k))) (want_none rfl) rfl rfl (.inl rfl) rfl ?_
    refine wl_pure (.bool (decide ((heldB x_a.Sn (heldB x_a.Cn x_k)) < 0))) (want_none rfl) rfl rfl (by kernel_rfl) ?_
    refine wl_nil ?_
    refine wq_then ?_
    rcases Bool.eq_false_or_eq_true (decide ((heldB x_a.Sn (heldB x_a.Cn x_k)) < 0)) with h38 | h38
    · have q39 := of_decide_eq_true h38
      refine wc_true (congrArg Value.bool h38) ?_
      refine wc_seq ?_
      refine wc_region ?_
      refine wl_mv (.int .i64 (-1)) (want_none rfl) rfl rfl (.inr rfl) rfl ?_
      refine wl_nil ?_
      refine wq_then ?_
      refine wc_ret ?_
      refine wq_then_ret ?_
      refine ret_1 (.inl rfl) (.int .i64 (-1)) rfl rfl ?_
      refine ⟨m36.keep0, ?_⟩
      have hF40 : F_laws_heldNote x_a x_k = (-1) := by simp only [F_laws_heldNote, h30, h38, cond_true, cond_false]
      rw [hF40]
      exact rfl
    · have q41 := of_decide_eq_false h38
      refine wc_false (congrArg Value.bool h38) ?_
      refine wc_skip ?_
      refine wq_then ?_
      refine wc_seq ?_
      refine wc_region ?_
      refine wl_pure (.pointer (some ⟨g21, 7, none⟩)) (want_none rfl) rfl rfl (by kernel_rfl) ?_
      have b42 := (b34.kp k35)
      refine wl_load1 (.slice a11 x_a.Body.length c12) (want_none rfl) rfl rfl rfl rfl isAgg_35 b42 rfl ?_
      refine wl_mv (.int .i64 (heldB x_a.Sn (heldB x_a.Cn x_k))) (want_none rfl) rfl rfl (.inl rfl) rfl ?_
      refine wl_call (want_none rfl) (args := #[(.slice a11 x_a.Body.length c12), (.int .i64 (heldB x_a.Sn (heldB x_a.Cn x_k)))]) rfl rfl (by kernel_rfl) (C_laws_heldByteS w3 (.slice a11 x_a.Body.length c12) x_a.Body (show R_35 w3 (.slice a11 x_a.Body.length c12) x_a.Body from ⟨_, _, rfl, (r13.from0 m36), s14⟩) (heldB x_a.Sn (heldB x_a.Cn x_k)) (by omega) (by omega)) ?_
      rintro _ w4 ⟨k43, rfl⟩
      have m44 := m36.extk k43
      have q45 := heldB_le x_a.Body (heldB x_a.Sn (heldB x_a.Cn x_k))
      refine wl_mv (.int .i64 (heldB x_a.Body (heldB x_a.Sn (heldB x_a.Cn x_k)))) (want_none rfl) rfl rfl (.inr rfl) rfl ?_
      refine wl_nil ?_
      refine wq_then ?_
      refine wc_seq ?_
      refine wc_seq ?_
      refine wc_region ?_
      refine wl_mv (.int .i64 (heldB x_a.Body (heldB x_a.Sn (heldB x_a.Cn x_k)))) (want_none rfl) rfl rfl (.inl rfl) rfl ?_
      refine wl_pure (.bool (decide ((heldB x_a.Body (heldB x_a.Sn (heldB x_a.Cn x_k))) < 0))) (want_none rfl) rfl rfl (by kernel_rfl) ?_
      refine wl_nil ?_
      refine wq_then ?_
      rcases Bool.eq_false_or_eq_true (decide ((heldB x_a.Body (heldB x_a.Sn (heldB x_a.Cn x_k))) < 0)) with h46 | h46
      · have q47 := of_decide_eq_true h46
        refine wc_true (congrArg Value.bool h46) ?_
        refine wc_seq ?_
        refine wc_region ?_
        refine wl_mv (.int .i64 (-1)) (want_none rfl) rfl rfl (.inr rfl) rfl ?_
        refine wl_nil ?_
        refine wq_then ?_
        refine wc_ret ?_
        refine wq_then_ret ?_
        refine ret_1 (.inl rfl) (.int .i64 (-1)) rfl rfl ?_
        refine ⟨m44.keep0, ?_⟩
        have hF48 : F_laws_heldNote x_a x_k = (-1) := by simp only [F_laws_heldNote, h30, h38, h46, cond_true, cond_false]
        rw [hF48]
        exact rfl
      · have q49 := of_decide_eq_false h46
        refine wc_false (congrArg Value.bool h46) ?_
        refine wc_skip ?_
        refine wq_then ?_
        refine wc_seq ?_
        refine wc_region ?_
        refine wl_pure (.pointer (some ⟨g21, 8, none⟩)) (want_none rfl) rfl rfl (by kernel_rfl) ?_
        have b50 := (b42.kp k43)
        refine wl_load1 (.slice a16 x_a.Key.length c17) (want_none rfl) rfl rfl rfl rfl isAgg_35 b50 rfl ?_
        refine wl_mv (.int .i64 (heldB x_a.Body (heldB x_a.Sn (heldB x_a.Cn x_k)))) (want_none rfl) rfl rfl (.inl rfl) rfl ?_
        refine wl_call (want_none rfl) (args := #[(.slice a16 x_a.Key.length c17), (.int .i64 (heldB x_a.Body (heldB x_a.Sn (heldB x_a.Cn x_k))))]) rfl rfl (by kernel_rfl) (C_laws_heldByteS w4 (.slice a16 x_a.Key.length c17) x_a.Key (show R_35 w4 (.slice a16 x_a.Key.length c17) x_a.Key from ⟨_, _, rfl, (r18.from0 m44), s19⟩) (heldB x_a.Body (heldB x_a.Sn (heldB x_a.Cn x_k))) (by omega) (by omega)) ?_
        rintro _ w5 ⟨k51, rfl⟩
        have m52 := m44.extk k51
        have q53 := heldB_le x_a.Key (heldB x_a.Body (heldB x_a.Sn (heldB x_a.Cn x_k)))
        refine wl_mv (.int .i64 (heldB x_a.Key (heldB x_a.Body (heldB x_a.Sn (heldB x_a.Cn x_k))))) (want_none rfl) rfl rfl (.inr rfl) rfl ?_
        refine wl_nil ?_
        refine wq_then ?_
        refine wc_seq ?_
        refine wc_seq ?_
        refine wc_region ?_
        refine wl_mv (.int .i64 (heldB x_a.Key (heldB x_a.Body (heldB x_a.Sn (heldB x_a.Cn x_k))))) (want_none rfl) rfl rfl (.inl rfl) rfl ?_
        refine wl_pure (.bool (decide ((heldB x_a.Key (heldB x_a.Body (heldB x_a.Sn (heldB x_a.Cn x_k)))) < 0))) (want_none rfl) rfl rfl (by kernel_rfl) ?_
        refine wl_nil ?_
        refine wq_then ?_
        rcases Bool.eq_false_or_eq_true (decide ((heldB x_a.Key (heldB x_a.Body (heldB x_a.Sn (heldB x_a.Cn x_k)))) < 0)) with h54 | h54
        · have q55 := of_decide_eq_true h54
          refine wc_true (congrArg Value.bool h54) ?_
          refine wc_seq ?_
          refine wc_region ?_
          refine wl_mv (.int .i64 (-1)) (want_none rfl) rfl rfl (.inr rfl) rfl ?_
          refine wl_nil ?_
          refine wq_then ?_
          refine wc_ret ?_
          refine wq_then_ret ?_
          refine ret_1 (.inl rfl) (.int .i64 (-1)) rfl rfl ?_
          refine ⟨m52.keep0, ?_⟩
          have hF56 : F_laws_heldNote x_a x_k = (-1) := by simp only [F_laws_heldNote, h30, h38, h46, h54, cond_true, cond_false]
          rw [hF56]
          exact rfl
        · have q57 := of_decide_eq_false h54
          refine wc_false (congrArg Value.bool h54) ?_
          refine wc_skip ?_
          refine wq_then ?_
          refine wc_seq ?_
          refine wc_region ?_
          refine wl_mv (.int .i64 (heldB x_a.Key (heldB x_a.Body (heldB x_a.Sn (heldB x_a.Cn x_k))))) (want_none rfl) rfl rfl (.inl rfl) rfl ?_
          refine wl_mv (.int .i64 (heldB x_a.Key (heldB x_a.Body (heldB x_a.Sn (heldB x_a.Cn x_k))))) (want_none rfl) rfl rfl (.inr rfl) rfl ?_
          refine wl_nil ?_
          refine wq_then ?_
          refine wc_ret ?_
          refine ret_1 (.inl rfl) (.int .i64 (heldB x_a.Key (heldB x_a.Body (heldB x_a.Sn (heldB x_a.Cn x_k))))) rfl rfl ?_
          refine ⟨m52.keep0, ?_⟩
          have hF58 : F_laws_heldNote x_a x_k = (heldB x_a.Key (heldB x_a.Body (heldB x_a.Sn (heldB x_a.Cn x_k)))) := by simp only [F_laws_heldNote, h30, h38, h46, h54, cond_true, cond_false]
          rw [hF58]
          exact rfl
theorem laws_heldNote_le (x : PNote) (k : Int) : F_laws_heldNote x k = -1 ∨ F_laws_heldNote x k = k + ((x.Cn.length : Int) + (x.Sn.length : Int) + (x.Body.length : Int) + (x.Key.length : Int)) := by
  have h0 := heldB_le x.Cn k
  have h1 := heldB_le x.Sn (heldB x.Cn k)
  have h2 := heldB_le x.Body (heldB x.Sn (heldB x.Cn k))
  have h3 := heldB_le x.Key (heldB x.Body (heldB x.Sn (heldB x.Cn k)))
  simp only [F_laws_heldNote, cond_eq_ite, decide_eq_true_eq]
  (repeat' split) <;> omega

def Q_35 (w : World) (v : Value) (x : (List UInt8)) : Prop := ∃ (a1 : Option Addr) (c1 : Nat), v = .slice a1 x.length c1 ∧ Rd w 1 (.slice a1 x.length c1) x.length (x.map bV) ∧ x.length ≤ 9223372036854775807
def F_laws_FnExactMade (x_aKey : List UInt8) (x_aIn : List UInt8) : (Bool) := bif (decide (1048576 < (x_aKey.length : Int))) then (true) else (bif (decide (1048576 < (x_aIn.length : Int))) then (true) else (bif (F_laws_eqNote (F_impl_Made (cpB x_aKey) (cpB x_aIn)) (F_spec_Made (cpB x_aKey) (cpB x_aIn))) then (bif (eqB (cpB x_aKey) (cpB x_aKey)) then (bif (eqB (cpB x_aIn) (cpB x_aIn)) then (bif (decide (((1 + ((cpB x_aKey).length : Int)) + ((cpB x_aIn).length : Int)) < 0)) then (false) else (bif (decide ((F_laws_heldNote { Kind := (F_impl_Made (cpB x_aKey) (cpB x_aIn)).Kind, Id := (F_impl_Made (cpB x_aKey) (cpB x_aIn)).Id, Role := (F_impl_Made (cpB x_aKey) (cpB x_aIn)).Role, Cn := (marksB 1 ((F_impl_Made (cpB x_aKey) (cpB x_aIn)).Cn).length), Sn := (marksB (1 + (((F_impl_Made (cpB x_aKey) (cpB x_aIn)).Cn).length : Int)) ((F_impl_Made (cpB x_aKey) (cpB x_aIn)).Sn).length), Epoch := (F_impl_Made (cpB x_aKey) (cpB x_aIn)).Epoch, Seq := (F_impl_Made (cpB x_aKey) (cpB x_aIn)).Seq, Body := (marksB ((1 + (((F_impl_Made (cpB x_aKey) (cpB x_aIn)).Cn).length : Int)) + (((F_impl_Made (cpB x_aKey) (cpB x_aIn)).Sn).length : Int)) ((F_impl_Made (cpB x_aKey) (cpB x_aIn)).Body).length), Key := (marksB (((1 + (((F_impl_Made (cpB x_aKey) (cpB x_aIn)).Cn).length : Int)) + (((F_impl_Made (cpB x_aKey) (cpB x_aIn)).Sn).length : Int)) + (((F_impl_Made (cpB x_aKey) (cpB x_aIn)).Body).length : Int)) ((F_impl_Made (cpB x_aKey) (cpB x_aIn)).Key).length), A := ((F_impl_Made (cpB x_aKey) (cpB x_aIn)).A), Now := (F_impl_Made (cpB x_aKey) (cpB x_aIn)).Now : PNote } 1) < 0)) then (false) else (bif (decide ((F_laws_heldNote { Kind := (F_impl_Made (cpB x_aKey) (cpB x_aIn)).Kind, Id := (F_impl_Made (cpB x_aKey) (cpB x_aIn)).Id, Role := (F_impl_Made (cpB x_aKey) (cpB x_aIn)).Role, Cn := (marksB 1 ((F_impl_Made (cpB x_aKey) (cpB x_aIn)).Cn).length), Sn := (marksB (1 + (((F_impl_Made (cpB x_aKey) (cpB x_aIn)).Cn).length : Int)) ((F_impl_Made (cpB x_aKey) (cpB x_aIn)).Sn).length), Epoch := (F_impl_Made (cpB x_aKey) (cpB x_aIn)).Epoch, Seq := (F_impl_Made (cpB x_aKey) (cpB x_aIn)).Seq, Body := (marksB ((1 + (((F_impl_Made (cpB x_aKey) (cpB x_aIn)).Cn).length : Int)) + (((F_impl_Made (cpB x_aKey) (cpB x_aIn)).Sn).length : Int)) ((F_impl_Made (cpB x_aKey) (cpB x_aIn)).Body).length), Key := (marksB (((1 + (((F_impl_Made (cpB x_aKey) (cpB x_aIn)).Cn).length : Int)) + (((F_impl_Made (cpB x_aKey) (cpB x_aIn)).Sn).length : Int)) + (((F_impl_Made (cpB x_aKey) (cpB x_aIn)).Body).length : Int)) ((F_impl_Made (cpB x_aKey) (cpB x_aIn)).Key).length), A := ((F_impl_Made (cpB x_aKey) (cpB x_aIn)).A), Now := (F_impl_Made (cpB x_aKey) (cpB x_aIn)).Now : PNote } 1) = ((((1 + (((F_impl_Made (cpB x_aKey) (cpB x_aIn)).Cn).length : Int)) + (((F_impl_Made (cpB x_aKey) (cpB x_aIn)).Sn).length : Int)) + (((F_impl_Made (cpB x_aKey) (cpB x_aIn)).Body).length : Int)) + (((F_impl_Made (cpB x_aKey) (cpB x_aIn)).Key).length : Int)))) then (true) else (false)))) else (false)) else (false)) else (false)))
theorem C_laws_FnExactMade (w0 : World) (v_x_aKey : Value) (x_aKey : List UInt8) (r_x_aKey : Q_35 w0 v_x_aKey x_aKey) (v_x_aIn : Value) (x_aIn : List UInt8) (r_x_aIn : Q_35 w0 v_x_aIn x_aIn)  : Fn Try.prog 11 #[v_x_aKey, v_x_aIn] w0 (fun v w' => Keep w0 w' ∧ O_4 w' w0.heap.size v (F_laws_FnExactMade x_aKey x_aIn)) := by
  obtain ⟨a1, c2, rfl, r3, s4⟩ := r_x_aKey
  obtain ⟨a6, c7, rfl, r8, s9⟩ := r_x_aIn
  refine fn_of (n := 87) (l := [(.slice a1 x_aKey.length c2), (.slice a6 x_aIn.length c7), undef, undef, undef, undef, undef, undef, undef, undef, undef, undef, undef, undef, undef, undef, undef, undef, undef, undef, undef, undef, undef, undef, undef, undef, undef, undef, undef, undef, undef, undef, undef, undef, undef, undef, undef, undef, undef, undef, undef, undef, undef, undef, undef, undef, undef, undef, undef, undef, undef, undef, undef, undef, undef, undef, undef, undef, undef, undef, undef, undef, undef, undef, undef, undef, undef, undef, undef, undef, undef, undef, undef, undef, undef, undef, undef, undef, undef, undef, undef, undef, undef, undef, undef, undef, undef]) Try.func11 rfl rfl (by kernel_rfl) rfl ?_
  refine wc_seq ?_
  refine wc_region ?_
  refine wl_mv (.bool false) (want_none rfl) rfl rfl (.inr rfl) rfl ?_
  refine wl_nil ?_
  refine wq_then ?_
  refine wc_seq ?_
  refine wc_seq ?_
  refine wc_region ?_
  refine wl_mv (.slice a1 x_aKey.length c2) (want_none rfl) rfl rfl (.inl rfl) rfl ?_
  refine wl_len (want_none rfl) rfl rfl rfl slTy_35 rfl r3 ?_
  refine wl_pure (.bool (decide (1048576 < (x_aKey.length : Int)))) (want_none rfl) rfl rfl (by kernel_rfl) ?_
  refine wl_nil ?_
  refine wq_then ?_
  rcases Bool.eq_false_or_eq_true (decide (1048576 < (x_aKey.length : Int))) with h11 | h11
  · have q12 := of_decide_eq_true h11
    refine wc_true (congrArg Value.bool h11) ?_
    refine wc_seq ?_
    refine wc_region ?_
    refine wl_mv (.bool true) (want_none rfl) rfl rfl (.inr rfl) rfl ?_
    refine wl_nil ?_
    refine wq_then ?_
    refine wc_ret ?_
    refine wq_then_ret ?_
    refine ret_1 (.inl rfl) (.bool true) rfl rfl ?_
    refine ⟨Ch.refl _ _, ?_⟩
    have hF13 : F_laws_FnExactMade x_aKey x_aIn = true := by simp only [F_laws_FnExactMade, h11, cond_true, cond_false]
    rw [hF13]
    exact rfl
  · have q14 := of_decide_eq_false h11
    refine wc_false (congrArg Value.bool h11) ?_
    refine wc_skip ?_
    refine wq_then ?_
    refine wc_seq ?_
    refine wc_seq ?_
    refine wc_region ?_
    refine wl_mv (.slice a6 x_aIn.length c7) (want_none rfl) rfl rfl (.inl rfl) rfl ?_
    refine wl_len (want_none rfl) rfl rfl rfl slTy_35 rfl r8 ?_
    refine wl_pure (.bool (decide (1048576 < (x_aIn.length : Int)))) (want_none rfl) rfl rfl (by kernel_rfl) ?_
    refine wl_nil ?_
    refine wq_then ?_
    rcases Bool.eq_false_or_eq_true (decide (1048576 < (x_aIn.length : Int))) with h15 | h15
    · have q16 := of_decide_eq_true h15
      refine wc_true (congrArg Value.bool h15) ?_
      refine wc_seq ?_
      refine wc_region ?_
      refine wl_mv (.bool true) (want_none rfl) rfl rfl (.inr rfl) rfl ?_
      refine wl_nil ?_
      refine wq_then ?_
      refine wc_ret ?_
      refine wq_then_ret ?_
      refine ret_1 (.inl rfl) (.bool true) rfl rfl ?_
      refine ⟨Ch.refl _ _, ?_⟩
      have hF17 : F_laws_FnExactMade x_aKey x_aIn = true := by simp only [F_laws_FnExactMade, h11, h15, cond_true, cond_false]
      rw [hF17]
      exact rfl
    · have q18 := of_decide_eq_false h15
      refine wc_false (congrArg Value.bool h15) ?_
      refine wc_skip ?_
      refine wq_then ?_
      refine wc_seq ?_
      refine wc_region ?_
      refine wl_mv (.slice a1 x_aKey.length c2) (want_none rfl) rfl rfl (.inl rfl) rfl ?_
      refine wl_call (want_none rfl) (args := #[(.slice a1 x_aKey.length c2)]) rfl rfl (by kernel_rfl) (C_laws_toByteS w0 (.slice a1 x_aKey.length c2) x_aKey (show R_35 w0 (.slice a1 x_aKey.length c2) x_aKey from ⟨_, _, rfl, r3, (by omega)⟩)) ?_
      rintro _ w1 ⟨k19, ⟨a20, c21, rfl, o22, s23, ap25⟩⟩
      have m26 := (Ch.base w0).extk k19
      refine wl_mv (.slice a6 x_aIn.length c7) (want_none rfl) rfl rfl (.inl rfl) rfl ?_
      refine wl_call (want_none rfl) (args := #[(.slice a6 x_aIn.length c7)]) rfl rfl (by kernel_rfl) (C_laws_toByteS w1 (.slice a6 x_aIn.length c7) x_aIn (show R_35 w1 (.slice a6 x_aIn.length c7) x_aIn from ⟨_, _, rfl, (r8.from0 m26), (by omega)⟩)) ?_
      rintro _ w2 ⟨k27, ⟨a28, c29, rfl, o30, s31, ap33⟩⟩
      have m34 := m26.extk k27
      have o35 := (own_kp o22 k27)
      refine wl_call (want_none rfl) (args := #[(.slice a20 (cpB x_aKey).length c21), (.slice a28 (cpB x_aIn).length c29)]) rfl rfl (by kernel_rfl) (C_spec_Made w2 (.slice a20 (cpB x_aKey).length c21) (cpB x_aKey) (show R_35 w2 (.slice a20 (cpB x_aKey).length c21) (cpB x_aKey) from ⟨_, _, rfl, (Rd.of_own o35), s23⟩) (.slice a28 (cpB x_aIn).length c29) (cpB x_aIn) (show R_35 w2 (.slice a28 (cpB x_aIn).length c29) (cpB x_aIn) from ⟨_, _, rfl, (Rd.of_own o30), s31⟩)) ?_
      rintro _ w3 ⟨k36, ⟨a37, c38, a42, c43, a47, c48, a52, c53, rfl, o39, s40, o44, s45, o49, s50, o54, s55, ap57⟩⟩
      have m58 := m34.extk k36
      refine wl_alloc (want_none rfl) (.agg #[(.int .i64 0), (.int .i64 0), (.int .i64 0), (.slice none 0 0), (.slice none 0 0), (.int .i64 0), (.int .i64 0), (.slice none 0 0), (.slice none 0 0), (.int .i64 0), (.int .i64 0), (.int .i64 0)]) [(.int .i64 0), (.int .i64 0), (.int .i64 0), (.slice none 0 0), (.slice none 0 0), (.int .i64 0), (.int .i64 0), (.slice none 0 0), (.slice none 0 0), (.int .i64 0), (.int .i64 0), (.int .i64 0)] zero_51 rfl rfl rfl rfl ?_
      intro g59 w4 p60 p61 k62 b63
      have m64 := m58.extk k62
      refine wl_store (.agg #[(.int .i64 ((F_spec_Made (cpB x_aKey) (cpB x_aIn)).Kind)), (.int .i64 ((F_spec_Made (cpB x_aKey) (cpB x_aIn)).Id)), (.int .i64 ((F_spec_Made (cpB x_aKey) (cpB x_aIn)).Role)), (.slice a37 ((F_spec_Made (cpB x_aKey) (cpB x_aIn)).Cn).length c38), (.slice a42 ((F_spec_Made (cpB x_aKey) (cpB x_aIn)).Sn).length c43), (.int .i64 ((F_spec_Made (cpB x_aKey) (cpB x_aIn)).Epoch)), (.int .i64 ((F_spec_Made (cpB x_aKey) (cpB x_aIn)).Seq)), (.slice a47 ((F_spec_Made (cpB x_aKey) (cpB x_aIn)).Body).length c48), (.slice a52 ((F_spec_Made (cpB x_aKey) (cpB x_aIn)).Key).length c53), (.int .i64 (((F_spec_Made (cpB x_aKey) (cpB x_aIn)).A).Host)), (.int .i64 (((F_spec_Made (cpB x_aKey) (cpB x_aIn)).A).Port)), (.int .i64 ((F_spec_Made (cpB x_aKey) (cpB x_aIn)).Now))]) [(.int .i64 ((F_spec_Made (cpB x_aKey) (cpB x_aIn)).Kind)), (.int .i64 ((F_spec_Made (cpB x_aKey) (cpB x_aIn)).Id)), (.int .i64 ((F_spec_Made (cpB x_aKey) (cpB x_aIn)).Role)), (.slice a37 ((F_spec_Made (cpB x_aKey) (cpB x_aIn)).Cn).length c38), (.slice a42 ((F_spec_Made (cpB x_aKey) (cpB x_aIn)).Sn).length c43), (.int .i64 ((F_spec_Made (cpB x_aKey) (cpB x_aIn)).Epoch)), (.int .i64 ((F_spec_Made (cpB x_aKey) (cpB x_aIn)).Seq)), (.slice a47 ((F_spec_Made (cpB x_aKey) (cpB x_aIn)).Body).length c48), (.slice a52 ((F_spec_Made (cpB x_aKey) (cpB x_aIn)).Key).length c53), (.int .i64 (((F_spec_Made (cpB x_aKey) (cpB x_aIn)).A).Host)), (.int .i64 (((F_spec_Made (cpB x_aKey) (cpB x_aIn)).A).Port)), (.int .i64 ((F_spec_Made (cpB x_aKey) (cpB x_aIn)).Now))] [(.int .i64 ((F_spec_Made (cpB x_aKey) (cpB x_aIn)).Kind)), (.int .i64 ((F_spec_Made (cpB x_aKey) (cpB x_aIn)).Id)), (.int .i64 ((F_spec_Made (cpB x_aKey) (cpB x_aIn)).Role)), (.slice a37 ((F_spec_Made (cpB x_aKey) (cpB x_aIn)).Cn).length c38), (.slice a42 ((F_spec_Made (cpB x_aKey) (cpB x_aIn)).Sn).length c43), (.int .i64 ((F_spec_Made (cpB x_aKey) (cpB x_aIn)).Epoch)), (.int .i64 ((F_spec_Made (cpB x_aKey) (cpB x_aIn)).Seq)), (.slice a47 ((F_spec_Made (cpB x_aKey) (cpB x_aIn)).Body).length c48), (.slice a52 ((F_spec_Made (cpB x_aKey) (cpB x_aIn)).Key).length c53), (.int .i64 (((F_spec_Made (cpB x_aKey) (cpB x_aIn)).A).Host)), (.int .i64 (((F_spec_Made (cpB x_aKey) (cpB x_aIn)).A).Port)), (.int .i64 ((F_spec_Made (cpB x_aKey) (cpB x_aIn)).Now))] (want_none rfl) rfl rfl rfl rfl rfl (one_cons rfl (one_cons rfl (one_cons rfl (one_cons rfl (one_cons rfl (one_cons rfl (one_cons rfl (one_cons rfl (one_cons rfl (one_cons rfl (one_cons rfl (one_cons rfl one_nil)))))))))))) sizeOf_51 b63 rfl rfl ?_
      intro w5 k65 b66 z67
      have m68 := m64.ext k65 (fun k hk => by subst hk; exact Nat.le_trans (Nat.le_trans (Nat.le_trans k19.size k27.size) k36.size) p60)
      refine wl_nil ?_
      refine wq_then ?_
      refine wc_seq ?_
      refine wc_region ?_
      refine wl_mv (.slice a1 x_aKey.length c2) (want_none rfl) rfl rfl (.inl rfl) rfl ?_
      refine wl_call (want_none rfl) (args := #[(.slice a1 x_aKey.length c2)]) rfl rfl (by kernel_rfl) (C_laws_toByteS w5 (.slice a1 x_aKey.length c2) x_aKey (show R_35 w5 (.slice a1 x_aKey.length c2) x_aKey from ⟨_, _, rfl, (r3.from0 m68), (by omega)⟩)) ?_
      rintro _ w6 ⟨k69, ⟨a70, c71, rfl, o72, s73, ap75⟩⟩
      have m76 := m68.extk k69
      refine wl_mv (.slice a70 (cpB x_aKey).length c71) (want_none rfl) rfl rfl (.inr rfl) rfl ?_
      refine wl_nil ?_
      refine wq_then ?_
      refine wc_seq ?_
      refine wc_region ?_
      refine wl_mv (.slice a6 x_aIn.length c7) (want_none rfl) rfl rfl (.inl rfl) rfl ?_
      refine wl_call (want_none rfl) (args := #[(.slice a6 x_aIn.length c7)]) rfl rfl (by kernel_rfl) (C_laws_toByteS w6 (.slice a6 x_aIn.length c7) x_aIn (show R_35 w6 (.slice a6 x_aIn.length c7) x_aIn from ⟨_, _, rfl, (r8.from0 m76), (by omega)⟩)) ?_
      rintro _ w7 ⟨k77, ⟨a78, c79, rfl, o80, s81, ap83⟩⟩
      have m84 := m76.extk k77
      refine wl_mv (.slice a78 (cpB x_aIn).length c79) (want_none rfl) rfl rfl (.inr rfl) rfl ?_
      refine wl_nil ?_
      refine wq_then ?_
      refine wc_seq ?_
      refine wc_region ?_
      refine wl_mv (.slice a70 (cpB x_aKey).length c71) (want_none rfl) rfl rfl (.inl rfl) rfl ?_
      refine wl_mv (.slice a78 (cpB x_aIn).length c79) (want_none rfl) rfl rfl (.inl rfl) rfl ?_
      have o85 := (own_kp o72 k77)
      refine wl_call (want_none rfl) (args := #[(.slice a70 (cpB x_aKey).length c71), (.slice a78 (cpB x_aIn).length c79)]) rfl rfl (by kernel_rfl) (C_impl_Made w7 (.slice a70 (cpB x_aKey).length c71) (cpB x_aKey) (show R_35 w7 (.slice a70 (cpB x_aKey).length c71) (cpB x_aKey) from ⟨_, _, rfl, (Rd.of_own o85), s73⟩) (.slice a78 (cpB x_aIn).length c79) (cpB x_aIn) (show R_35 w7 (.slice a78 (cpB x_aIn).length c79) (cpB x_aIn) from ⟨_, _, rfl, (Rd.of_own o80), s81⟩)) ?_
      rintro _ w8 ⟨k86, ⟨a87, c88, a92, c93, a97, c98, a102, c103, rfl, o89, s90, o94, s95, o99, s100, o104, s105, ap107⟩⟩
      have m108 := m84.extk k86
      refine wl_alloc (want_none rfl) (.agg #[(.int .i64 0), (.int .i64 0), (.int .i64 0), (.slice none 0 0), (.slice none 0 0), (.int .i64 0), (.int .i64 0), (.slice none 0 0), (.slice none 0 0), (.int .i64 0), (.int .i64 0), (.int .i64 0)]) [(.int .i64 0), (.int .i64 0), (.int .i64 0), (.slice none 0 0), (.slice none 0 0), (.int .i64 0), (.int .i64 0), (.slice none 0 0), (.slice none 0 0), (.int .i64 0), (.int .i64 0), (.int .i64 0)] zero_51 rfl rfl rfl rfl ?_
      intro g109 w9 p110 p111 k112 b113
      have m114 := m108.extk k112
      refine wl_store (.agg #[(.int .i64 ((F_impl_Made (cpB x_aKey) (cpB x_aIn)).Kind)), (.int .i64 ((F_impl_Made (cpB x_aKey) (cpB x_aIn)).Id)), (.int .i64 ((F_impl_Made (cpB x_aKey) (cpB x_aIn)).Role)), (.slice a87 ((F_impl_Made (cpB x_aKey) (cpB x_aIn)).Cn).length c88), (.slice a92 ((F_impl_Made (cpB x_aKey) (cpB x_aIn)).Sn).length c93), (.int .i64 ((F_impl_Made (cpB x_aKey) (cpB x_aIn)).Epoch)), (.int .i64 ((F_impl_Made (cpB x_aKey) (cpB x_aIn)).Seq)), (.slice a97 ((F_impl_Made (cpB x_aKey) (cpB x_aIn)).Body).length c98), (.slice a102 ((F_impl_Made (cpB x_aKey) (cpB x_aIn)).Key).length c103), (.int .i64 (((F_impl_Made (cpB x_aKey) (cpB x_aIn)).A).Host)), (.int .i64 (((F_impl_Made (cpB x_aKey) (cpB x_aIn)).A).Port)), (.int .i64 ((F_impl_Made (cpB x_aKey) (cpB x_aIn)).Now))]) [(.int .i64 ((F_impl_Made (cpB x_aKey) (cpB x_aIn)).Kind)), (.int .i64 ((F_impl_Made (cpB x_aKey) (cpB x_aIn)).Id)), (.int .i64 ((F_impl_Made (cpB x_aKey) (cpB x_aIn)).Role)), (.slice a87 ((F_impl_Made (cpB x_aKey) (cpB x_aIn)).Cn).length c88), (.slice a92 ((F_impl_Made (cpB x_aKey) (cpB x_aIn)).Sn).length c93), (.int .i64 ((F_impl_Made (cpB x_aKey) (cpB x_aIn)).Epoch)), (.int .i64 ((F_impl_Made (cpB x_aKey) (cpB x_aIn)).Seq)), (.slice a97 ((F_impl_Made (cpB x_aKey) (cpB x_aIn)).Body).length c98), (.slice a102 ((F_impl_Made (cpB x_aKey) (cpB x_aIn)).Key).length c103), (.int .i64 (((F_impl_Made (cpB x_aKey) (cpB x_aIn)).A).Host)), (.int .i64 (((F_impl_Made (cpB x_aKey) (cpB x_aIn)).A).Port)), (.int .i64 ((F_impl_Made (cpB x_aKey) (cpB x_aIn)).Now))] [(.int .i64 ((F_impl_Made (cpB x_aKey) (cpB x_aIn)).Kind)), (.int .i64 ((F_impl_Made (cpB x_aKey) (cpB x_aIn)).Id)), (.int .i64 ((F_impl_Made (cpB x_aKey) (cpB x_aIn)).Role)), (.slice a87 ((F_impl_Made (cpB x_aKey) (cpB x_aIn)).Cn).length c88), (.slice a92 ((F_impl_Made (cpB x_aKey) (cpB x_aIn)).Sn).length c93), (.int .i64 ((F_impl_Made (cpB x_aKey) (cpB x_aIn)).Epoch)), (.int .i64 ((F_impl_Made (cpB x_aKey) (cpB x_aIn)).Seq)), (.slice a97 ((F_impl_Made (cpB x_aKey) (cpB x_aIn)).Body).length c98), (.slice a102 ((F_impl_Made (cpB x_aKey) (cpB x_aIn)).Key).length c103), (.int .i64 (((F_impl_Made (cpB x_aKey) (cpB x_aIn)).A).Host)), (.int .i64 (((F_impl_Made (cpB x_aKey) (cpB x_aIn)).A).Port)), (.int .i64 ((F_impl_Made (cpB x_aKey) (cpB x_aIn)).Now))] (want_none rfl) rfl rfl rfl rfl rfl (one_cons rfl (one_cons rfl (one_cons rfl (one_cons rfl (one_cons rfl (one_cons rfl (one_cons rfl (one_cons rfl (one_cons rfl (one_cons rfl (one_cons rfl (one_cons rfl one_nil)))))))))))) sizeOf_51 b113 rfl rfl ?_
      intro w10 k115 b116 z117
      have m118 := m114.ext k115 (fun k hk => by subst hk; exact Nat.le_trans (Nat.le_trans (Nat.le_trans (Nat.le_trans (Nat.le_trans (Nat.le_trans (Nat.le_trans (Nat.le_trans k19.size k27.size) k36.size) k62.size) k65.size) k69.size) k77.size) k86.size) p110)
      refine wl_nil ?_
      refine wq_then ?_
      refine wc_seq ?_
      refine wc_seq ?_
      refine wc_region ?_
      refine wl_loadN [(.int .i64 ((F_impl_Made (cpB x_aKey) (cpB x_aIn)).Kind)), (.int .i64 ((F_impl_Made (cpB x_aKey) (cpB x_aIn)).Id)), (.int .i64 ((F_impl_Made (cpB x_aKey) (cpB x_aIn)).Role)), (.slice a87 ((F_impl_Made (cpB x_aKey) (cpB x_aIn)).Cn).length c88), (.slice a92 ((F_impl_Made (cpB x_aKey) (cpB x_aIn)).Sn).length c93), (.int .i64 ((F_impl_Made (cpB x_aKey) (cpB x_aIn)).Epoch)), (.int .i64 ((F_impl_Made (cpB x_aKey) (cpB x_aIn)).Seq)), (.slice a97 ((F_impl_Made (cpB x_aKey) (cpB x_aIn)).Body).length c98), (.slice a102 ((F_impl_Made (cpB x_aKey) (cpB x_aIn)).Key).length c103), (.int .i64 (((F_impl_Made (cpB x_aKey) (cpB x_aIn)).A).Host)), (.int .i64 (((F_impl_Made (cpB x_aKey) (cpB x_aIn)).A).Port)), (.int .i64 ((F_impl_Made (cpB x_aKey) (cpB x_aIn)).Now))] (want_none rfl) rfl rfl rfl rfl isAgg_51 sizeOf_51 b116 rfl ?_
      have b119 := (((((b66.kp k69).kp k77).kp k86).kp k112).ch k115 (Nat.ne_of_lt (Nat.lt_of_lt_of_le p61 (Nat.le_trans (Nat.le_trans (Nat.le_trans (Nat.le_trans k65.size k69.size) k77.size) k86.size) p110))))
      refine wl_loadN [(.int .i64 ((F_spec_Made (cpB x_aKey) (cpB x_aIn)).Kind)), (.int .i64 ((F_spec_Made (cpB x_aKey) (cpB x_aIn)).Id)), (.int .i64 ((F_spec_Made (cpB x_aKey) (cpB x_aIn)).Role)), (.slice a37 ((F_spec_Made (cpB x_aKey) (cpB x_aIn)).Cn).length c38), (.slice a42 ((F_spec_Made (cpB x_aKey) (cpB x_aIn)).Sn).length c43), (.int .i64 ((F_spec_Made (cpB x_aKey) (cpB x_aIn)).Epoch)), (.int .i64 ((F_spec_Made (cpB x_aKey) (cpB x_aIn)).Seq)), (.slice a47 ((F_spec_Made (cpB x_aKey) (cpB x_aIn)).Body).length c48), (.slice a52 ((F_spec_Made (cpB x_aKey) (cpB x_aIn)).Key).length c53), (.int .i64 (((F_spec_Made (cpB x_aKey) (cpB x_aIn)).A).Host)), (.int .i64 (((F_spec_Made (cpB x_aKey) (cpB x_aIn)).A).Port)), (.int .i64 ((F_spec_Made (cpB x_aKey) (cpB x_aIn)).Now))] (want_none rfl) rfl rfl rfl rfl isAgg_51 sizeOf_51 b119 rfl ?_
      have o120 := (own_ch (own_kp o89 k112) k115 (fun g hg hlt hk => by have h1 := (own_lt o89 g hg).2; have h2 := Nat.le_trans (Nat.le_refl _) p110; omega))
      have o121 := (own_ch (own_kp o94 k112) k115 (fun g hg hlt hk => by have h1 := (own_lt o94 g hg).2; have h2 := Nat.le_trans (Nat.le_refl _) p110; omega))
      have o122 := (own_ch (own_kp o99 k112) k115 (fun g hg hlt hk => by have h1 := (own_lt o99 g hg).2; have h2 := Nat.le_trans (Nat.le_refl _) p110; omega))
      have o123 := (own_ch (own_kp o104 k112) k115 (fun g hg hlt hk => by have h1 := (own_lt o104 g hg).2; have h2 := Nat.le_trans (Nat.le_refl _) p110; omega))
      have o124 := (own_ch (own_kp (own_kp (own_kp (own_kp (own_ch (own_kp o39 k62) k65 (fun g hg hlt hk => by have h1 := (own_lt o39 g hg).2; have h2 := Nat.le_trans (Nat.le_refl _) p60; omega)) k69) k77) k86) k112) k115 (fun g hg hlt hk => by have h1 := (own_lt o39 g hg).2; have h2 := Nat.le_trans (Nat.le_trans (Nat.le_trans (Nat.le_trans (Nat.le_trans k62.size k65.size) k69.size) k77.size) k86.size) p110; omega))
      have o125 := (own_ch (own_kp (own_kp (own_kp (own_kp (own_ch (own_kp o44 k62) k65 (fun g hg hlt hk => by have h1 := (own_lt o44 g hg).2; have h2 := Nat.le_trans (Nat.le_refl _) p60; omega)) k69) k77) k86) k112) k115 (fun g hg hlt hk => by have h1 := (own_lt o44 g hg).2; have h2 := Nat.le_trans (Nat.le_trans (Nat.le_trans (Nat.le_trans (Nat.le_trans k62.size k65.size) k69.size) k77.size) k86.size) p110; omega))
      have o126 := (own_ch (own_kp (own_kp (own_kp (own_kp (own_ch (own_kp o49 k62) k65 (fun g hg hlt hk => by have h1 := (own_lt o49 g hg).2; have h2 := Nat.le_trans (Nat.le_refl _) p60; omega)) k69) k77) k86) k112) k115 (fun g hg hlt hk => by have h1 := (own_lt o49 g hg).2; have h2 := Nat.le_trans (Nat.le_trans (Nat.le_trans (Nat.le_trans (Nat.le_trans k62.size k65.size) k69.size) k77.size) k86.size) p110; omega))
      have o127 := (own_ch (own_kp (own_kp (own_kp (own_kp (own_ch (own_kp o54 k62) k65 (fun g hg hlt hk => by have h1 := (own_lt o54 g hg).2; have h2 := Nat.le_trans (Nat.le_refl _) p60; omega)) k69) k77) k86) k112) k115 (fun g hg hlt hk => by have h1 := (own_lt o54 g hg).2; have h2 := Nat.le_trans (Nat.le_trans (Nat.le_trans (Nat.le_trans (Nat.le_trans k62.size k65.size) k69.size) k77.size) k86.size) p110; omega))
      refine wl_call (want_none rfl) (args := #[(.agg #[(.int .i64 ((F_impl_Made (cpB x_aKey) (cpB x_aIn)).Kind)), (.int .i64 ((F_impl_Made (cpB x_aKey) (cpB x_aIn)).Id)), (.int .i64 ((F_impl_Made (cpB x_aKey) (cpB x_aIn)).Role)), (.slice a87 ((F_impl_Made (cpB x_aKey) (cpB x_aIn)).Cn).length c88), (.slice a92 ((F_impl_Made (cpB x_aKey) (cpB x_aIn)).Sn).length c93), (.int .i64 ((F_impl_Made (cpB x_aKey) (cpB x_aIn)).Epoch)), (.int .i64 ((F_impl_Made (cpB x_aKey) (cpB x_aIn)).Seq)), (.slice a97 ((F_impl_Made (cpB x_aKey) (cpB x_aIn)).Body).length c98), (.slice a102 ((F_impl_Made (cpB x_aKey) (cpB x_aIn)).Key).length c103), (.int .i64 (((F_impl_Made (cpB x_aKey) (cpB x_aIn)).A).Host)), (.int .i64 (((F_impl_Made (cpB x_aKey) (cpB x_aIn)).A).Port)), (.int .i64 ((F_impl_Made (cpB x_aKey) (cpB x_aIn)).Now))]), (.agg #[(.int .i64 ((F_spec_Made (cpB x_aKey) (cpB x_aIn)).Kind)), (.int .i64 ((F_spec_Made (cpB x_aKey) (cpB x_aIn)).Id)), (.int .i64 ((F_spec_Made (cpB x_aKey) (cpB x_aIn)).Role)), (.slice a37 ((F_spec_Made (cpB x_aKey) (cpB x_aIn)).Cn).length c38), (.slice a42 ((F_spec_Made (cpB x_aKey) (cpB x_aIn)).Sn).length c43), (.int .i64 ((F_spec_Made (cpB x_aKey) (cpB x_aIn)).Epoch)), (.int .i64 ((F_spec_Made (cpB x_aKey) (cpB x_aIn)).Seq)), (.slice a47 ((F_spec_Made (cpB x_aKey) (cpB x_aIn)).Body).length c48), (.slice a52 ((F_spec_Made (cpB x_aKey) (cpB x_aIn)).Key).length c53), (.int .i64 (((F_spec_Made (cpB x_aKey) (cpB x_aIn)).A).Host)), (.int .i64 (((F_spec_Made (cpB x_aKey) (cpB x_aIn)).A).Port)), (.int .i64 ((F_spec_Made (cpB x_aKey) (cpB x_aIn)).Now))])]) rfl rfl (by kernel_rfl) (C_laws_eqNote w10 (.agg #[(.int .i64 ((F_impl_Made (cpB x_aKey) (cpB x_aIn)).Kind)), (.int .i64 ((F_impl_Made (cpB x_aKey) (cpB x_aIn)).Id)), (.int .i64 ((F_impl_Made (cpB x_aKey) (cpB x_aIn)).Role)), (.slice a87 ((F_impl_Made (cpB x_aKey) (cpB x_aIn)).Cn).length c88), (.slice a92 ((F_impl_Made (cpB x_aKey) (cpB x_aIn)).Sn).length c93), (.int .i64 ((F_impl_Made (cpB x_aKey) (cpB x_aIn)).Epoch)), (.int .i64 ((F_impl_Made (cpB x_aKey) (cpB x_aIn)).Seq)), (.slice a97 ((F_impl_Made (cpB x_aKey) (cpB x_aIn)).Body).length c98), (.slice a102 ((F_impl_Made (cpB x_aKey) (cpB x_aIn)).Key).length c103), (.int .i64 (((F_impl_Made (cpB x_aKey) (cpB x_aIn)).A).Host)), (.int .i64 (((F_impl_Made (cpB x_aKey) (cpB x_aIn)).A).Port)), (.int .i64 ((F_impl_Made (cpB x_aKey) (cpB x_aIn)).Now))]) (F_impl_Made (cpB x_aKey) (cpB x_aIn)) (show R_51 w10 (.agg #[(.int .i64 ((F_impl_Made (cpB x_aKey) (cpB x_aIn)).Kind)), (.int .i64 ((F_impl_Made (cpB x_aKey) (cpB x_aIn)).Id)), (.int .i64 ((F_impl_Made (cpB x_aKey) (cpB x_aIn)).Role)), (.slice a87 ((F_impl_Made (cpB x_aKey) (cpB x_aIn)).Cn).length c88), (.slice a92 ((F_impl_Made (cpB x_aKey) (cpB x_aIn)).Sn).length c93), (.int .i64 ((F_impl_Made (cpB x_aKey) (cpB x_aIn)).Epoch)), (.int .i64 ((F_impl_Made (cpB x_aKey) (cpB x_aIn)).Seq)), (.slice a97 ((F_impl_Made (cpB x_aKey) (cpB x_aIn)).Body).length c98), (.slice a102 ((F_impl_Made (cpB x_aKey) (cpB x_aIn)).Key).length c103), (.int .i64 (((F_impl_Made (cpB x_aKey) (cpB x_aIn)).A).Host)), (.int .i64 (((F_impl_Made (cpB x_aKey) (cpB x_aIn)).A).Port)), (.int .i64 ((F_impl_Made (cpB x_aKey) (cpB x_aIn)).Now))]) (F_impl_Made (cpB x_aKey) (cpB x_aIn)) from ⟨_, _, _, _, _, _, _, _, rfl, (Rd.of_own o120), s90, (Rd.of_own o121), s95, (Rd.of_own o122), s100, (Rd.of_own o123), s105⟩) (.agg #[(.int .i64 ((F_spec_Made (cpB x_aKey) (cpB x_aIn)).Kind)), (.int .i64 ((F_spec_Made (cpB x_aKey) (cpB x_aIn)).Id)), (.int .i64 ((F_spec_Made (cpB x_aKey) (cpB x_aIn)).Role)), (.slice a37 ((F_spec_Made (cpB x_aKey) (cpB x_aIn)).Cn).length c38), (.slice a42 ((F_spec_Made (cpB x_aKey) (cpB x_aIn)).Sn).length c43), (.int .i64 ((F_spec_Made (cpB x_aKey) (cpB x_aIn)).Epoch)), (.int .i64 ((F_spec_Made (cpB x_aKey) (cpB x_aIn)).Seq)), (.slice a47 ((F_spec_Made (cpB x_aKey) (cpB x_aIn)).Body).length c48), (.slice a52 ((F_spec_Made (cpB x_aKey) (cpB x_aIn)).Key).length c53), (.int .i64 (((F_spec_Made (cpB x_aKey) (cpB x_aIn)).A).Host)), (.int .i64 (((F_spec_Made (cpB x_aKey) (cpB x_aIn)).A).Port)), (.int .i64 ((F_spec_Made (cpB x_aKey) (cpB x_aIn)).Now))]) (F_spec_Made (cpB x_aKey) (cpB x_aIn)) (show R_51 w10 (.agg #[(.int .i64 ((F_spec_Made (cpB x_aKey) (cpB x_aIn)).Kind)), (.int .i64 ((F_spec_Made (cpB x_aKey) (cpB x_aIn)).Id)), (.int .i64 ((F_spec_Made (cpB x_aKey) (cpB x_aIn)).Role)), (.slice a37 ((F_spec_Made (cpB x_aKey) (cpB x_aIn)).Cn).length c38), (.slice a42 ((F_spec_Made (cpB x_aKey) (cpB x_aIn)).Sn).length c43), (.int .i64 ((F_spec_Made (cpB x_aKey) (cpB x_aIn)).Epoch)), (.int .i64 ((F_spec_Made (cpB x_aKey) (cpB x_aIn)).Seq)), (.slice a47 ((F_spec_Made (cpB x_aKey) (cpB x_aIn)).Body).length c48), (.slice a52 ((F_spec_Made (cpB x_aKey) (cpB x_aIn)).Key).length c53), (.int .i64 (((F_spec_Made (cpB x_aKey) (cpB x_aIn)).A).Host)), (.int .i64 (((F_spec_Made (cpB x_aKey) (cpB x_aIn)).A).Port)), (.int .i64 ((F_spec_Made (cpB x_aKey) (cpB x_aIn)).Now))]) (F_spec_Made (cpB x_aKey) (cpB x_aIn)) from ⟨_, _, _, _, _, _, _, _, rfl, (Rd.of_own o124), s40, (Rd.of_own o125), s45, (Rd.of_own o126), s50, (Rd.of_own o127), s55⟩)) ?_
      rintro _ w11 ⟨k128, rfl⟩
      have m129 := m118.extk k128
      refine wl_pure (.bool (!(F_laws_eqNote (F_impl_Made (cpB x_aKey) (cpB x_aIn)) (F_spec_Made (cpB x_aKey) (cpB x_aIn))))) (want_none rfl) rfl rfl (by kernel_rfl) ?_
      refine wl_nil ?_
      refine wq_then ?_
      rcases Bool.eq_false_or_eq_true (F_laws_eqNote (F_impl_Made (cpB x_aKey) (cpB x_aIn)) (F_spec_Made (cpB x_aKey) (cpB x_aIn))) with h130 | h130
      · skip
        refine wc_false (congrArg (fun b => Value.bool (!b)) h130) ?_
        refine wc_skip ?_
        refine wq_then ?_
        refine wc_seq ?_
        refine wc_seq ?_
        refine wc_region ?_
        refine wl_mv (.slice a70 (cpB x_aKey).length c71) (want_none rfl) rfl rfl (.inl rfl) rfl ?_
        refine wl_mv (.slice a1 x_aKey.length c2) (want_none rfl) rfl rfl (.inl rfl) rfl ?_
        refine wl_call (want_none rfl) (args := #[(.slice a1 x_aKey.length c2)]) rfl rfl (by kernel_rfl) (C_laws_toByteS w11 (.slice a1 x_aKey.length c2) x_aKey (show R_35 w11 (.slice a1 x_aKey.length c2) x_aKey from ⟨_, _, rfl, (r3.from0 m129), (by omega)⟩)) ?_
        rintro _ w12 ⟨k132, ⟨a133, c134, rfl, o135, s136, ap138⟩⟩
        have m139 := m129.extk k132
        have o140 := (own_kp (own_kp (own_ch (own_kp (own_kp o85 k86) k112) k115 (fun g hg hlt hk => by have h1 := (own_lt o72 g hg).2; have h2 := Nat.le_trans (Nat.le_trans k77.size k86.size) p110; omega)) k128) k132)
        refine wl_call (want_none rfl) (args := #[(.slice a70 (cpB x_aKey).length c71), (.slice a133 (cpB x_aKey).length c134)]) rfl rfl (by kernel_rfl) (C_laws_eqByteS w12 (.slice a70 (cpB x_aKey).length c71) (cpB x_aKey) (show R_35 w12 (.slice a70 (cpB x_aKey).length c71) (cpB x_aKey) from ⟨_, _, rfl, (Rd.of_own o140), s73⟩) (.slice a133 (cpB x_aKey).length c134) (cpB x_aKey) (show R_35 w12 (.slice a133 (cpB x_aKey).length c134) (cpB x_aKey) from ⟨_, _, rfl, (Rd.of_own o135), s136⟩)) ?_
        rintro _ w13 ⟨k141, rfl⟩
        have m142 := m139.extk k141
        refine wl_pure (.bool (!(eqB (cpB x_aKey) (cpB x_aKey)))) (want_none rfl) rfl rfl (by kernel_rfl) ?_
        refine wl_nil ?_
        refine wq_then ?_
        rcases Bool.eq_false_or_eq_true (eqB (cpB x_aKey) (cpB x_aKey)) with h143 | h143
        · skip
          refine wc_false (congrArg (fun b => Value.bool (!b)) h143) ?_
          refine wc_skip ?_
          refine wq_then ?_
          refine wc_seq ?_
          refine wc_seq ?_
          refine wc_region ?_
          refine wl_mv (.slice a78 (cpB x_aIn).length c79) (want_none rfl) rfl rfl (.inl rfl) rfl ?_
          refine wl_mv (.slice a6 x_aIn.length c7) (want_none rfl) rfl rfl (.inl rfl) rfl ?_
          refine wl_call (want_none rfl) (args := #[(.slice a6 x_aIn.length c7)]) rfl rfl (by kernel_rfl) (C_laws_toByteS w13 (.slice a6 x_aIn.length c7) x_aIn (show R_35 w13 (.slice a6 x_aIn.length c7) x_aIn from ⟨_, _, rfl, (r8.from0 m142), (by omega)⟩)) ?_
          rintro _ w14 ⟨k145, ⟨a146, c147, rfl, o148, s149, ap151⟩⟩
          have m152 := m142.extk k145
          have o153 := (own_kp (own_kp (own_kp (own_kp (own_ch (own_kp (own_kp o80 k86) k112) k115 (fun g hg hlt hk => by have h1 := (own_lt o80 g hg).2; have h2 := Nat.le_trans k86.size p110; omega)) k128) k132) k141) k145)
          refine wl_call (want_none rfl) (args := #[(.slice a78 (cpB x_aIn).length c79), (.slice a146 (cpB x_aIn).length c147)]) rfl rfl (by kernel_rfl) (C_laws_eqByteS w14 (.slice a78 (cpB x_aIn).length c79) (cpB x_aIn) (show R_35 w14 (.slice a78 (cpB x_aIn).length c79) (cpB x_aIn) from ⟨_, _, rfl, (Rd.of_own o153), s81⟩) (.slice a146 (cpB x_aIn).length c147) (cpB x_aIn) (show R_35 w14 (.slice a146 (cpB x_aIn).length c147) (cpB x_aIn) from ⟨_, _, rfl, (Rd.of_own o148), s149⟩)) ?_
          rintro _ w15 ⟨k154, rfl⟩
          have m155 := m152.extk k154
          refine wl_pure (.bool (!(eqB (cpB x_aIn) (cpB x_aIn)))) (want_none rfl) rfl rfl (by kernel_rfl) ?_
          refine wl_nil ?_
          refine wq_then ?_
          rcases Bool.eq_false_or_eq_true (eqB (cpB x_aIn) (cpB x_aIn)) with h156 | h156
          · skip
            refine wc_false (congrArg (fun b => Value.bool (!b)) h156) ?_
            refine wc_skip ?_
            refine wq_then ?_
            refine wc_seq ?_
            refine wc_region ?_
            refine wl_mv (.int .i64 1) (want_none rfl) rfl rfl (.inr rfl) rfl ?_
            refine wl_nil ?_
            refine wq_then ?_
            refine wc_seq ?_
            refine wc_region ?_
            refine wl_mv (.slice a70 (cpB x_aKey).length c71) (want_none rfl) rfl rfl (.inl rfl) rfl ?_
            refine wl_mv (.int .i64 1) (want_none rfl) rfl rfl (.inl rfl) rfl ?_
            have o158 := (own_kp (own_kp (own_kp o140 k141) k145) k154)
            refine wl_call (want_none rfl) (args := #[(.slice a70 (cpB x_aKey).length c71), (.int .i64 1)]) rfl rfl (by kernel_rfl) (C_laws_markByteS w15 a70 c71 (cpB x_aKey) 1 (by omega) (by omega) s73 (Rd.of_own o158) (Wp.of o158)) ?_
            rintro _ w16 ⟨rfl, k159, r160⟩
            have m161 := m155.ext k159 (fun k hk => ms_ge (ms_ge_cons (fun hn x hx => Nat.le_trans (Nat.le_trans (Nat.le_trans (Nat.le_trans (Nat.le_trans k19.size k27.size) k36.size) k62.size) k65.size) (own_lt o72 x.block (by rw [hx]; rfl)).1) ms_ge_nil) hk)
            refine wl_mv (.int .i64 (1 + ((cpB x_aKey).length : Int))) (want_none rfl) rfl rfl (.inr rfl) rfl ?_
            refine wl_nil ?_
            refine wq_then ?_
            refine wc_seq ?_
            refine wc_region ?_
            refine wl_mv (.slice a78 (cpB x_aIn).length c79) (want_none rfl) rfl rfl (.inl rfl) rfl ?_
            refine wl_mv (.int .i64 (1 + ((cpB x_aKey).length : Int))) (want_none rfl) rfl rfl (.inl rfl) rfl ?_
            have r162 := (Rd.ms (l := [(a70, (cpB x_aKey).length, c71)]) ((Rd.of_own o153).kp k154) rfl k159 (ap_cons (rd_cap (Rd.of_own o158)) (Ap.lt o72 o80 (Nat.le_refl _)) ap_nil))
            have wp163 : Wp w16 5 a78 (cpB x_aIn).length c79 _ := (Wp.ms (l := [(a70, (cpB x_aKey).length, c71)]) (Wp.kp (Wp.of o153) k154) (rd_cap r162) rfl k159 (ap_cons (rd_cap (Rd.of_own o158)) (Ap.lt o72 o80 (Nat.le_refl _)) ap_nil))
            refine wl_call (want_none rfl) (args := #[(.slice a78 (cpB x_aIn).length c79), (.int .i64 (1 + ((cpB x_aKey).length : Int)))]) rfl rfl (by kernel_rfl) (C_laws_markByteS w16 a78 c79 (cpB x_aIn) (1 + ((cpB x_aKey).length : Int)) (by omega) (by omega) s81 r162 wp163) ?_
            rintro _ w17 ⟨rfl, k164, r165⟩
            have m166 := m161.ext k164 (fun k hk => ms_ge (ms_ge_cons (fun hn x hx => Nat.le_trans (Nat.le_trans (Nat.le_trans (Nat.le_trans (Nat.le_trans (Nat.le_trans k19.size k27.size) k36.size) k62.size) k65.size) k69.size) (own_lt o80 x.block (by rw [hx]; rfl)).1) ms_ge_nil) hk)
            refine wl_mv (.int .i64 ((1 + ((cpB x_aKey).length : Int)) + ((cpB x_aIn).length : Int))) (want_none rfl) rfl rfl (.inr rfl) rfl ?_
            refine wl_nil ?_
            refine wq_then ?_
            refine wc_seq ?_
            refine wc_seq ?_
            refine wc_region ?_
            refine wl_mv (.int .i64 ((1 + ((cpB x_aKey).length : Int)) + ((cpB x_aIn).length : Int))) (want_none rfl) rfl rfl (.inl rfl) rfl ?_
            refine wl_pure (.bool (decide (((1 + ((cpB x_aKey).length : Int)) + ((cpB x_aIn).length : Int)) < 0))) (want_none rfl) rfl rfl (by kernel_rfl) ?_
            refine wl_mv (.bool (decide (((1 + ((cpB x_aKey).length : Int)) + ((cpB x_aIn).length : Int)) < 0))) (want_none rfl) rfl rfl (.inl rfl) rfl ?_
            rcases Bool.eq_false_or_eq_true (decide (((1 + ((cpB x_aKey).length : Int)) + ((cpB x_aIn).length : Int)) < 0)) with h167 | h167
            · have q168 := of_decide_eq_true h167
              refine wl_skip rfl rfl rfl (congrArg Value.bool h167) rfl rfl rfl ?_
              refine wl_skip rfl rfl rfl (congrArg Value.bool h167) rfl rfl rfl ?_
              refine wl_skip rfl rfl rfl (congrArg Value.bool h167) rfl rfl rfl ?_
              refine wl_skip rfl rfl rfl (congrArg Value.bool h167) rfl rfl rfl ?_
              refine wl_pick_t (.bool true) (want_none rfl) rfl rfl rfl (congrArg Value.bool h167) rfl ?_
              refine wl_nil ?_
              refine wq_then ?_
              refine wc_true rfl ?_
              refine wc_seq ?_
              refine wc_region ?_
              refine wl_mv (.bool false) (want_none rfl) rfl rfl (.inr rfl) rfl ?_
              refine wl_nil ?_
              refine wq_then ?_
              refine wc_ret ?_
              refine wq_then_ret ?_
              refine ret_1 (.inl rfl) (.bool false) rfl rfl ?_
              refine ⟨m166.keep0, ?_⟩
              have hF169 : F_laws_FnExactMade x_aKey x_aIn = false := by simp only [F_laws_FnExactMade, h11, h15, h130, h143, h156, h167, cond_true, cond_false]
              rw [hF169]
              exact rfl
            · have q170 := of_decide_eq_false h167
              have b171 := (((((((b116.kp k128).kp k132).kp k141).kp k145).kp k154).ch k159 (ms_lo (ms_lo_cons (fun hn x hx hb => by have := (own_lt o72 x.block (by rw [hx]; rfl)).2; have := Nat.le_trans (Nat.le_trans k77.size k86.size) p110; omega) ms_lo_nil))).ch k164 (ms_lo (ms_lo_cons (fun hn x hx hb => by have := (own_lt o80 x.block (by rw [hx]; rfl)).2; have := Nat.le_trans k86.size p110; omega) ms_lo_nil)))
              refine wl_loadN [(.int .i64 ((F_impl_Made (cpB x_aKey) (cpB x_aIn)).Kind)), (.int .i64 ((F_impl_Made (cpB x_aKey) (cpB x_aIn)).Id)), (.int .i64 ((F_impl_Made (cpB x_aKey) (cpB x_aIn)).Role)), (.slice a87 ((F_impl_Made (cpB x_aKey) (cpB x_aIn)).Cn).length c88), (.slice a92 ((F_impl_Made (cpB x_aKey) (cpB x_aIn)).Sn).length c93), (.int .i64 ((F_impl_Made (cpB x_aKey) (cpB x_aIn)).Epoch)), (.int .i64 ((F_impl_Made (cpB x_aKey) (cpB x_aIn)).Seq)), (.slice a97 ((F_impl_Made (cpB x_aKey) (cpB x_aIn)).Body).length c98), (.slice a102 ((F_impl_Made (cpB x_aKey) (cpB x_aIn)).Key).length c103), (.int .i64 (((F_impl_Made (cpB x_aKey) (cpB x_aIn)).A).Host)), (.int .i64 (((F_impl_Made (cpB x_aKey) (cpB x_aIn)).A).Port)), (.int .i64 ((F_impl_Made (cpB x_aKey) (cpB x_aIn)).Now))] (want_some rfl rfl rfl (congrArg Value.bool h167)) rfl rfl rfl rfl isAgg_51 sizeOf_51 b171 rfl ?_
              have b172 := (((((((b119.kp k128).kp k132).kp k141).kp k145).kp k154).ch k159 (ms_lo (ms_lo_cons (fun hn x hx hb => by have := (own_lt o72 x.block (by rw [hx]; rfl)).1; have := Nat.lt_of_lt_of_le p61 k65.size; omega) ms_lo_nil))).ch k164 (ms_lo (ms_lo_cons (fun hn x hx hb => by have := (own_lt o80 x.block (by rw [hx]; rfl)).1; have := Nat.lt_of_lt_of_le p61 (Nat.le_trans k65.size k69.size); omega) ms_lo_nil)))
              refine wl_loadN [(.int .i64 ((F_spec_Made (cpB x_aKey) (cpB x_aIn)).Kind)), (.int .i64 ((F_spec_Made (cpB x_aKey) (cpB x_aIn)).Id)), (.int .i64 ((F_spec_Made (cpB x_aKey) (cpB x_aIn)).Role)), (.slice a37 ((F_spec_Made (cpB x_aKey) (cpB x_aIn)).Cn).length c38), (.slice a42 ((F_spec_Made (cpB x_aKey) (cpB x_aIn)).Sn).length c43), (.int .i64 ((F_spec_Made (cpB x_aKey) (cpB x_aIn)).Epoch)), (.int .i64 ((F_spec_Made (cpB x_aKey) (cpB x_aIn)).Seq)), (.slice a47 ((F_spec_Made (cpB x_aKey) (cpB x_aIn)).Body).length c48), (.slice a52 ((F_spec_Made (cpB x_aKey) (cpB x_aIn)).Key).length c53), (.int .i64 (((F_spec_Made (cpB x_aKey) (cpB x_aIn)).A).Host)), (.int .i64 (((F_spec_Made (cpB x_aKey) (cpB x_aIn)).A).Port)), (.int .i64 ((F_spec_Made (cpB x_aKey) (cpB x_aIn)).Now))] (want_some rfl rfl rfl (congrArg Value.bool h167)) rfl rfl rfl rfl isAgg_51 sizeOf_51 b172 rfl ?_
              have r173 := (Rd.ms (l := [(a78, (cpB x_aIn).length, c79)]) (Rd.ms (l := [(a70, (cpB x_aKey).length, c71)]) ((((((Rd.of_own o120).kp k128).kp k132).kp k141).kp k145).kp k154) rfl k159 (ap_cons (rd_cap (Rd.of_own o158)) (Ap.lt o72 o89 k77.size) ap_nil)) rfl k164 (ap_cons (rd_cap r162) (Ap.lt o80 o89 (Nat.le_refl _)) ap_nil))
              have r174 := (Rd.ms (l := [(a78, (cpB x_aIn).length, c79)]) (Rd.ms (l := [(a70, (cpB x_aKey).length, c71)]) ((((((Rd.of_own o121).kp k128).kp k132).kp k141).kp k145).kp k154) rfl k159 (ap_cons (rd_cap (Rd.of_own o158)) (Ap.lt o72 o94 k77.size) ap_nil)) rfl k164 (ap_cons (rd_cap r162) (Ap.lt o80 o94 (Nat.le_refl _)) ap_nil))
              have r175 := (Rd.ms (l := [(a78, (cpB x_aIn).length, c79)]) (Rd.ms (l := [(a70, (cpB x_aKey).length, c71)]) ((((((Rd.of_own o122).kp k128).kp k132).kp k141).kp k145).kp k154) rfl k159 (ap_cons (rd_cap (Rd.of_own o158)) (Ap.lt o72 o99 k77.size) ap_nil)) rfl k164 (ap_cons (rd_cap r162) (Ap.lt o80 o99 (Nat.le_refl _)) ap_nil))
              have r176 := (Rd.ms (l := [(a78, (cpB x_aIn).length, c79)]) (Rd.ms (l := [(a70, (cpB x_aKey).length, c71)]) ((((((Rd.of_own o123).kp k128).kp k132).kp k141).kp k145).kp k154) rfl k159 (ap_cons (rd_cap (Rd.of_own o158)) (Ap.lt o72 o104 k77.size) ap_nil)) rfl k164 (ap_cons (rd_cap r162) (Ap.lt o80 o104 (Nat.le_refl _)) ap_nil))
              have r177 := (Rd.ms (l := [(a78, (cpB x_aIn).length, c79)]) (Rd.ms (l := [(a70, (cpB x_aKey).length, c71)]) ((((((Rd.of_own o124).kp k128).kp k132).kp k141).kp k145).kp k154) rfl k159 (ap_cons (rd_cap (Rd.of_own o158)) (Ap.lt o39 o72 (Nat.le_trans k62.size k65.size)).symm ap_nil)) rfl k164 (ap_cons (rd_cap r162) (Ap.lt o39 o80 (Nat.le_trans (Nat.le_trans k62.size k65.size) k69.size)).symm ap_nil))
              have r178 := (Rd.ms (l := [(a78, (cpB x_aIn).length, c79)]) (Rd.ms (l := [(a70, (cpB x_aKey).length, c71)]) ((((((Rd.of_own o125).kp k128).kp k132).kp k141).kp k145).kp k154) rfl k159 (ap_cons (rd_cap (Rd.of_own o158)) (Ap.lt o44 o72 (Nat.le_trans k62.size k65.size)).symm ap_nil)) rfl k164 (ap_cons (rd_cap r162) (Ap.lt o44 o80 (Nat.le_trans (Nat.le_trans k62.size k65.size) k69.size)).symm ap_nil))
              have r179 := (Rd.ms (l := [(a78, (cpB x_aIn).length, c79)]) (Rd.ms (l := [(a70, (cpB x_aKey).length, c71)]) ((((((Rd.of_own o126).kp k128).kp k132).kp k141).kp k145).kp k154) rfl k159 (ap_cons (rd_cap (Rd.of_own o158)) (Ap.lt o49 o72 (Nat.le_trans k62.size k65.size)).symm ap_nil)) rfl k164 (ap_cons (rd_cap r162) (Ap.lt o49 o80 (Nat.le_trans (Nat.le_trans k62.size k65.size) k69.size)).symm ap_nil))
              have r180 := (Rd.ms (l := [(a78, (cpB x_aIn).length, c79)]) (Rd.ms (l := [(a70, (cpB x_aKey).length, c71)]) ((((((Rd.of_own o127).kp k128).kp k132).kp k141).kp k145).kp k154) rfl k159 (ap_cons (rd_cap (Rd.of_own o158)) (Ap.lt o54 o72 (Nat.le_trans k62.size k65.size)).symm ap_nil)) rfl k164 (ap_cons (rd_cap r162) (Ap.lt o54 o80 (Nat.le_trans (Nat.le_trans k62.size k65.size) k69.size)).symm ap_nil))
              refine wl_call (want_some rfl rfl rfl (congrArg Value.bool h167)) (args := #[(.agg #[(.int .i64 ((F_impl_Made (cpB x_aKey) (cpB x_aIn)).Kind)), (.int .i64 ((F_impl_Made (cpB x_aKey) (cpB x_aIn)).Id)), (.int .i64 ((F_impl_Made (cpB x_aKey) (cpB x_aIn)).Role)), (.slice a87 ((F_impl_Made (cpB x_aKey) (cpB x_aIn)).Cn).length c88), (.slice a92 ((F_impl_Made (cpB x_aKey) (cpB x_aIn)).Sn).length c93), (.int .i64 ((F_impl_Made (cpB x_aKey) (cpB x_aIn)).Epoch)), (.int .i64 ((F_impl_Made (cpB x_aKey) (cpB x_aIn)).Seq)), (.slice a97 ((F_impl_Made (cpB x_aKey) (cpB x_aIn)).Body).length c98), (.slice a102 ((F_impl_Made (cpB x_aKey) (cpB x_aIn)).Key).length c103), (.int .i64 (((F_impl_Made (cpB x_aKey) (cpB x_aIn)).A).Host)), (.int .i64 (((F_impl_Made (cpB x_aKey) (cpB x_aIn)).A).Port)), (.int .i64 ((F_impl_Made (cpB x_aKey) (cpB x_aIn)).Now))]), (.agg #[(.int .i64 ((F_spec_Made (cpB x_aKey) (cpB x_aIn)).Kind)), (.int .i64 ((F_spec_Made (cpB x_aKey) (cpB x_aIn)).Id)), (.int .i64 ((F_spec_Made (cpB x_aKey) (cpB x_aIn)).Role)), (.slice a37 ((F_spec_Made (cpB x_aKey) (cpB x_aIn)).Cn).length c38), (.slice a42 ((F_spec_Made (cpB x_aKey) (cpB x_aIn)).Sn).length c43), (.int .i64 ((F_spec_Made (cpB x_aKey) (cpB x_aIn)).Epoch)), (.int .i64 ((F_spec_Made (cpB x_aKey) (cpB x_aIn)).Seq)), (.slice a47 ((F_spec_Made (cpB x_aKey) (cpB x_aIn)).Body).length c48), (.slice a52 ((F_spec_Made (cpB x_aKey) (cpB x_aIn)).Key).length c53), (.int .i64 (((F_spec_Made (cpB x_aKey) (cpB x_aIn)).A).Host)), (.int .i64 (((F_spec_Made (cpB x_aKey) (cpB x_aIn)).A).Port)), (.int .i64 ((F_spec_Made (cpB x_aKey) (cpB x_aIn)).Now))])]) rfl rfl (by kernel_rfl) (C_laws_eqNote w17 (.agg #[(.int .i64 ((F_impl_Made (cpB x_aKey) (cpB x_aIn)).Kind)), (.int .i64 ((F_impl_Made (cpB x_aKey) (cpB x_aIn)).Id)), (.int .i64 ((F_impl_Made (cpB x_aKey) (cpB x_aIn)).Role)), (.slice a87 ((F_impl_Made (cpB x_aKey) (cpB x_aIn)).Cn).length c88), (.slice a92 ((F_impl_Made (cpB x_aKey) (cpB x_aIn)).Sn).length c93), (.int .i64 ((F_impl_Made (cpB x_aKey) (cpB x_aIn)).Epoch)), (.int .i64 ((F_impl_Made (cpB x_aKey) (cpB x_aIn)).Seq)), (.slice a97 ((F_impl_Made (cpB x_aKey) (cpB x_aIn)).Body).length c98), (.slice a102 ((F_impl_Made (cpB x_aKey) (cpB x_aIn)).Key).length c103), (.int .i64 (((F_impl_Made (cpB x_aKey) (cpB x_aIn)).A).Host)), (.int .i64 (((F_impl_Made (cpB x_aKey) (cpB x_aIn)).A).Port)), (.int .i64 ((F_impl_Made (cpB x_aKey) (cpB x_aIn)).Now))]) (F_impl_Made (cpB x_aKey) (cpB x_aIn)) (show R_51 w17 (.agg #[(.int .i64 ((F_impl_Made (cpB x_aKey) (cpB x_aIn)).Kind)), (.int .i64 ((F_impl_Made (cpB x_aKey) (cpB x_aIn)).Id)), (.int .i64 ((F_impl_Made (cpB x_aKey) (cpB x_aIn)).Role)), (.slice a87 ((F_impl_Made (cpB x_aKey) (cpB x_aIn)).Cn).length c88), (.slice a92 ((F_impl_Made (cpB x_aKey) (cpB x_aIn)).Sn).length c93), (.int .i64 ((F_impl_Made (cpB x_aKey) (cpB x_aIn)).Epoch)), (.int .i64 ((F_impl_Made (cpB x_aKey) (cpB x_aIn)).Seq)), (.slice a97 ((F_impl_Made (cpB x_aKey) (cpB x_aIn)).Body).length c98), (.slice a102 ((F_impl_Made (cpB x_aKey) (cpB x_aIn)).Key).length c103), (.int .i64 (((F_impl_Made (cpB x_aKey) (cpB x_aIn)).A).Host)), (.int .i64 (((F_impl_Made (cpB x_aKey) (cpB x_aIn)).A).Port)), (.int .i64 ((F_impl_Made (cpB x_aKey) (cpB x_aIn)).Now))]) (F_impl_Made (cpB x_aKey) (cpB x_aIn)) from ⟨_, _, _, _, _, _, _, _, rfl, r173, s90, r174, s95, r175, s100, r176, s105⟩) (.agg #[(.int .i64 ((F_spec_Made (cpB x_aKey) (cpB x_aIn)).Kind)), (.int .i64 ((F_spec_Made (cpB x_aKey) (cpB x_aIn)).Id)), (.int .i64 ((F_spec_Made (cpB x_aKey) (cpB x_aIn)).Role)), (.slice a37 ((F_spec_Made (cpB x_aKey) (cpB x_aIn)).Cn).length c38), (.slice a42 ((F_spec_Made (cpB x_aKey) (cpB x_aIn)).Sn).length c43), (.int .i64 ((F_spec_Made (cpB x_aKey) (cpB x_aIn)).Epoch)), (.int .i64 ((F_spec_Made (cpB x_aKey) (cpB x_aIn)).Seq)), (.slice a47 ((F_spec_Made (cpB x_aKey) (cpB x_aIn)).Body).length c48), (.slice a52 ((F_spec_Made (cpB x_aKey) (cpB x_aIn)).Key).length c53), (.int .i64 (((F_spec_Made (cpB x_aKey) (cpB x_aIn)).A).Host)), (.int .i64 (((F_spec_Made (cpB x_aKey) (cpB x_aIn)).A).Port)), (.int .i64 ((F_spec_Made (cpB x_aKey) (cpB x_aIn)).Now))]) (F_spec_Made (cpB x_aKey) (cpB x_aIn)) (show R_51 w17 (.agg #[(.int .i64 ((F_spec_Made (cpB x_aKey) (cpB x_aIn)).Kind)), (.int .i64 ((F_spec_Made (cpB x_aKey) (cpB x_aIn)).Id)), (.int .i64 ((F_spec_Made (cpB x_aKey) (cpB x_aIn)).Role)), (.slice a37 ((F_spec_Made (cpB x_aKey) (cpB x_aIn)).Cn).length c38), (.slice a42 ((F_spec_Made (cpB x_aKey) (cpB x_aIn)).Sn).length c43), (.int .i64 ((F_spec_Made (cpB x_aKey) (cpB x_aIn)).Epoch)), (.int .i64 ((F_spec_Made (cpB x_aKey) (cpB x_aIn)).Seq)), (.slice a47 ((F_spec_Made (cpB x_aKey) (cpB x_aIn)).Body).length c48), (.slice a52 ((F_spec_Made (cpB x_aKey) (cpB x_aIn)).Key).length c53), (.int .i64 (((F_spec_Made (cpB x_aKey) (cpB x_aIn)).A).Host)), (.int .i64 (((F_spec_Made (cpB x_aKey) (cpB x_aIn)).A).Port)), (.int .i64 ((F_spec_Made (cpB x_aKey) (cpB x_aIn)).Now))]) (F_spec_Made (cpB x_aKey) (cpB x_aIn)) from ⟨_, _, _, _, _, _, _, _, rfl, r177, s40, r178, s45, r179, s50, r180, s55⟩)) ?_
              rintro _ w18 ⟨k181, rfl⟩
              have m182 := m166.extk k181
              refine wl_pure (.bool (!(F_laws_eqNote (F_impl_Made (cpB x_aKey) (cpB x_aIn)) (F_spec_Made (cpB x_aKey) (cpB x_aIn))))) (want_some rfl rfl rfl (congrArg Value.bool h167)) rfl rfl (by kernel_rfl) ?_
              refine wl_pick_f (.bool (!(F_laws_eqNote (F_impl_Made (cpB x_aKey) (cpB x_aIn)) (F_spec_Made (cpB x_aKey) (cpB x_aIn))))) (want_none rfl) rfl rfl rfl (congrArg Value.bool h167) rfl ?_
              refine wl_nil ?_
              refine wq_then ?_
              refine wc_false (congrArg (fun b => Value.bool (!b)) h130) ?_
              refine wc_skip ?_
              refine wq_then ?_
              refine wc_seq ?_
              refine wc_region ?_
              refine wl_mv (.int .i64 1) (want_none rfl) rfl rfl (.inr rfl) rfl ?_
              refine wl_nil ?_
              refine wq_then ?_
              refine wc_seq ?_
              refine wc_region ?_
              have b183 := (b171.kp k181)
              refine wl_loadN [(.int .i64 ((F_impl_Made (cpB x_aKey) (cpB x_aIn)).Kind)), (.int .i64 ((F_impl_Made (cpB x_aKey) (cpB x_aIn)).Id)), (.int .i64 ((F_impl_Made (cpB x_aKey) (cpB x_aIn)).Role)), (.slice a87 ((F_impl_Made (cpB x_aKey) (cpB x_aIn)).Cn).length c88), (.slice a92 ((F_impl_Made (cpB x_aKey) (cpB x_aIn)).Sn).length c93), (.int .i64 ((F_impl_Made (cpB x_aKey) (cpB x_aIn)).Epoch)), (.int .i64 ((F_impl_Made (cpB x_aKey) (cpB x_aIn)).Seq)), (.slice a97 ((F_impl_Made (cpB x_aKey) (cpB x_aIn)).Body).length c98), (.slice a102 ((F_impl_Made (cpB x_aKey) (cpB x_aIn)).Key).length c103), (.int .i64 (((F_impl_Made (cpB x_aKey) (cpB x_aIn)).A).Host)), (.int .i64 (((F_impl_Made (cpB x_aKey) (cpB x_aIn)).A).Port)), (.int .i64 ((F_impl_Made (cpB x_aKey) (cpB x_aIn)).Now))] (want_none rfl) rfl rfl rfl rfl isAgg_51 sizeOf_51 b183 rfl ?_
              refine wl_mv (.int .i64 1) (want_none rfl) rfl rfl (.inl rfl) rfl ?_
              have r184 := (r173.kp k181)
              have r185 := (r174.kp k181)
              have r186 := (r175.kp k181)
              have r187 := (r176.kp k181)
              have wp188 : Wp w18 5 a87 ((F_impl_Made (cpB x_aKey) (cpB x_aIn)).Cn).length c88 _ := (Wp.kp (Wp.ms (l := [(a78, (cpB x_aIn).length, c79)]) (Wp.ms (l := [(a70, (cpB x_aKey).length, c71)]) (Wp.kp (Wp.kp (Wp.kp (Wp.kp (Wp.kp (Wp.of o120) k128) k132) k141) k145) k154) (rd_cap r184) rfl k159 (ap_cons (rd_cap (Rd.of_own o158)) (Ap.lt o72 o89 k77.size) ap_nil)) (rd_cap r184) rfl k164 (ap_cons (rd_cap r162) (Ap.lt o80 o89 (Nat.le_refl _)) ap_nil)) k181)
              have wp189 : Wp w18 5 a92 ((F_impl_Made (cpB x_aKey) (cpB x_aIn)).Sn).length c93 _ := (Wp.kp (Wp.ms (l := [(a78, (cpB x_aIn).length, c79)]) (Wp.ms (l := [(a70, (cpB x_aKey).length, c71)]) (Wp.kp (Wp.kp (Wp.kp (Wp.kp (Wp.kp (Wp.of o121) k128) k132) k141) k145) k154) (rd_cap r185) rfl k159 (ap_cons (rd_cap (Rd.of_own o158)) (Ap.lt o72 o94 k77.size) ap_nil)) (rd_cap r185) rfl k164 (ap_cons (rd_cap r162) (Ap.lt o80 o94 (Nat.le_refl _)) ap_nil)) k181)
              have wp190 : Wp w18 5 a97 ((F_impl_Made (cpB x_aKey) (cpB x_aIn)).Body).length c98 _ := (Wp.kp (Wp.ms (l := [(a78, (cpB x_aIn).length, c79)]) (Wp.ms (l := [(a70, (cpB x_aKey).length, c71)]) (Wp.kp (Wp.kp (Wp.kp (Wp.kp (Wp.kp (Wp.of o122) k128) k132) k141) k145) k154) (rd_cap r186) rfl k159 (ap_cons (rd_cap (Rd.of_own o158)) (Ap.lt o72 o99 k77.size) ap_nil)) (rd_cap r186) rfl k164 (ap_cons (rd_cap r162) (Ap.lt o80 o99 (Nat.le_refl _)) ap_nil)) k181)
              have wp191 : Wp w18 5 a102 ((F_impl_Made (cpB x_aKey) (cpB x_aIn)).Key).length c103 _ := (Wp.kp (Wp.ms (l := [(a78, (cpB x_aIn).length, c79)]) (Wp.ms (l := [(a70, (cpB x_aKey).length, c71)]) (Wp.kp (Wp.kp (Wp.kp (Wp.kp (Wp.kp (Wp.of o123) k128) k132) k141) k145) k154) (rd_cap r187) rfl k159 (ap_cons (rd_cap (Rd.of_own o158)) (Ap.lt o72 o104 k77.size) ap_nil)) (rd_cap r187) rfl k164 (ap_cons (rd_cap r162) (Ap.lt o80 o104 (Nat.le_refl _)) ap_nil)) k181)
              refine wl_call (want_none rfl) (args := #[(.agg #[(.int .i64 ((F_impl_Made (cpB x_aKey) (cpB x_aIn)).Kind)), (.int .i64 ((F_impl_Made (cpB x_aKey) (cpB x_aIn)).Id)), (.int .i64 ((F_impl_Made (cpB x_aKey) (cpB x_aIn)).Role)), (.slice a87 ((F_impl_Made (cpB x_aKey) (cpB x_aIn)).Cn).length c88), (.slice a92 ((F_impl_Made (cpB x_aKey) (cpB x_aIn)).Sn).length c93), (.int .i64 ((F_impl_Made (cpB x_aKey) (cpB x_aIn)).Epoch)), (.int .i64 ((F_impl_Made (cpB x_aKey) (cpB x_aIn)).Seq)), (.slice a97 ((F_impl_Made (cpB x_aKey) (cpB x_aIn)).Body).length c98), (.slice a102 ((F_impl_Made (cpB x_aKey) (cpB x_aIn)).Key).length c103), (.int .i64 (((F_impl_Made (cpB x_aKey) (cpB x_aIn)).A).Host)), (.int .i64 (((F_impl_Made (cpB x_aKey) (cpB x_aIn)).A).Port)), (.int .i64 ((F_impl_Made (cpB x_aKey) (cpB x_aIn)).Now))]), (.int .i64 1)]) rfl rfl (by kernel_rfl) (C_laws_markNote w18 a87 c88 a92 c93 a97 c98 a102 c103 (F_impl_Made (cpB x_aKey) (cpB x_aIn)) 1 (by omega) (by omega) s90 r184 wp188 s95 r185 wp189 s100 r186 wp190 s105 r187 wp191 ⟨⟨(ap107.1.1), ⟨(ap107.1.2.1), ⟨(ap107.1.2.2.1), trivial⟩⟩⟩, ⟨⟨(ap107.2.1.1), ⟨(ap107.2.1.2.1), trivial⟩⟩, ⟨⟨(ap107.2.2.1.1), trivial⟩, ⟨trivial, trivial⟩⟩⟩⟩) ?_
              rintro _ w19 ⟨rfl, k192, r193, r194, r195, r196⟩
              have m197 := m182.ext k192 (fun k hk => ms_ge (ms_ge_cons (fun hn x hx => Nat.le_trans (Nat.le_trans (Nat.le_trans (Nat.le_trans (Nat.le_trans (Nat.le_trans (Nat.le_trans k19.size k27.size) k36.size) k62.size) k65.size) k69.size) k77.size) (own_lt o89 x.block (by rw [hx]; rfl)).1) (ms_ge_cons (fun hn x hx => Nat.le_trans (Nat.le_trans (Nat.le_trans (Nat.le_trans (Nat.le_trans (Nat.le_trans (Nat.le_trans k19.size k27.size) k36.size) k62.size) k65.size) k69.size) k77.size) (own_lt o94 x.block (by rw [hx]; rfl)).1) (ms_ge_cons (fun hn x hx => Nat.le_trans (Nat.le_trans (Nat.le_trans (Nat.le_trans (Nat.le_trans (Nat.le_trans (Nat.le_trans k19.size k27.size) k36.size) k62.size) k65.size) k69.size) k77.size) (own_lt o99 x.block (by rw [hx]; rfl)).1) (ms_ge_cons (fun hn x hx => Nat.le_trans (Nat.le_trans (Nat.le_trans (Nat.le_trans (Nat.le_trans (Nat.le_trans (Nat.le_trans k19.size k27.size) k36.size) k62.size) k65.size) k69.size) k77.size) (own_lt o104 x.block (by rw [hx]; rfl)).1) ms_ge_nil)))) hk)
              refine wl_mv (.int .i64 ((((1 + (((F_impl_Made (cpB x_aKey) (cpB x_aIn)).Cn).length : Int)) + (((F_impl_Made (cpB x_aKey) (cpB x_aIn)).Sn).length : Int)) + (((F_impl_Made (cpB x_aKey) (cpB x_aIn)).Body).length : Int)) + (((F_impl_Made (cpB x_aKey) (cpB x_aIn)).Key).length : Int))) (want_none rfl) rfl rfl (.inr rfl) rfl ?_
              refine wl_nil ?_
              refine wq_then ?_
              refine wc_seq ?_
              refine wc_region ?_
              refine wl_mv (.int .i64 1) (want_none rfl) rfl rfl (.inr rfl) rfl ?_
              refine wl_nil ?_
              refine wq_then ?_
              refine wc_seq ?_
              refine wc_region ?_
              have b198 := (b183.ch k192 (ms_lo (ms_lo_cons (fun hn x hx hb => by have := (own_lt o89 x.block (by rw [hx]; rfl)).2; have := Nat.le_trans (Nat.le_refl _) p110; omega) (ms_lo_cons (fun hn x hx hb => by have := (own_lt o94 x.block (by rw [hx]; rfl)).2; have := Nat.le_trans (Nat.le_refl _) p110; omega) (ms_lo_cons (fun hn x hx hb => by have := (own_lt o99 x.block (by rw [hx]; rfl)).2; have := Nat.le_trans (Nat.le_refl _) p110; omega) (ms_lo_cons (fun hn x hx hb => by have := (own_lt o104 x.block (by rw [hx]; rfl)).2; have := Nat.le_trans (Nat.le_refl _) p110; omega) ms_lo_nil))))))
              refine wl_loadN [(.int .i64 ((F_impl_Made (cpB x_aKey) (cpB x_aIn)).Kind)), (.int .i64 ((F_impl_Made (cpB x_aKey) (cpB x_aIn)).Id)), (.int .i64 ((F_impl_Made (cpB x_aKey) (cpB x_aIn)).Role)), (.slice a87 ((F_impl_Made (cpB x_aKey) (cpB x_aIn)).Cn).length c88), (.slice a92 ((F_impl_Made (cpB x_aKey) (cpB x_aIn)).Sn).length c93), (.int .i64 ((F_impl_Made (cpB x_aKey) (cpB x_aIn)).Epoch)), (.int .i64 ((F_impl_Made (cpB x_aKey) (cpB x_aIn)).Seq)), (.slice a97 ((F_impl_Made (cpB x_aKey) (cpB x_aIn)).Body).length c98), (.slice a102 ((F_impl_Made (cpB x_aKey) (cpB x_aIn)).Key).length c103), (.int .i64 (((F_impl_Made (cpB x_aKey) (cpB x_aIn)).A).Host)), (.int .i64 (((F_impl_Made (cpB x_aKey) (cpB x_aIn)).A).Port)), (.int .i64 ((F_impl_Made (cpB x_aKey) (cpB x_aIn)).Now))] (want_none rfl) rfl rfl rfl rfl isAgg_51 sizeOf_51 b198 rfl ?_
              refine wl_mv (.int .i64 1) (want_none rfl) rfl rfl (.inl rfl) rfl ?_
              refine wl_call (want_none rfl) (args := #[(.agg #[(.int .i64 ((F_impl_Made (cpB x_aKey) (cpB x_aIn)).Kind)), (.int .i64 ((F_impl_Made (cpB x_aKey) (cpB x_aIn)).Id)), (.int .i64 ((F_impl_Made (cpB x_aKey) (cpB x_aIn)).Role)), (.slice a87 ((F_impl_Made (cpB x_aKey) (cpB x_aIn)).Cn).length c88), (.slice a92 ((F_impl_Made (cpB x_aKey) (cpB x_aIn)).Sn).length c93), (.int .i64 ((F_impl_Made (cpB x_aKey) (cpB x_aIn)).Epoch)), (.int .i64 ((F_impl_Made (cpB x_aKey) (cpB x_aIn)).Seq)), (.slice a97 ((F_impl_Made (cpB x_aKey) (cpB x_aIn)).Body).length c98), (.slice a102 ((F_impl_Made (cpB x_aKey) (cpB x_aIn)).Key).length c103), (.int .i64 (((F_impl_Made (cpB x_aKey) (cpB x_aIn)).A).Host)), (.int .i64 (((F_impl_Made (cpB x_aKey) (cpB x_aIn)).A).Port)), (.int .i64 ((F_impl_Made (cpB x_aKey) (cpB x_aIn)).Now))]), (.int .i64 1)]) rfl rfl (by kernel_rfl) (C_laws_heldNote w19 (.agg #[(.int .i64 ((F_impl_Made (cpB x_aKey) (cpB x_aIn)).Kind)), (.int .i64 ((F_impl_Made (cpB x_aKey) (cpB x_aIn)).Id)), (.int .i64 ((F_impl_Made (cpB x_aKey) (cpB x_aIn)).Role)), (.slice a87 ((F_impl_Made (cpB x_aKey) (cpB x_aIn)).Cn).length c88), (.slice a92 ((F_impl_Made (cpB x_aKey) (cpB x_aIn)).Sn).length c93), (.int .i64 ((F_impl_Made (cpB x_aKey) (cpB x_aIn)).Epoch)), (.int .i64 ((F_impl_Made (cpB x_aKey) (cpB x_aIn)).Seq)), (.slice a97 ((F_impl_Made (cpB x_aKey) (cpB x_aIn)).Body).length c98), (.slice a102 ((F_impl_Made (cpB x_aKey) (cpB x_aIn)).Key).length c103), (.int .i64 (((F_impl_Made (cpB x_aKey) (cpB x_aIn)).A).Host)), (.int .i64 (((F_impl_Made (cpB x_aKey) (cpB x_aIn)).A).Port)), (.int .i64 ((F_impl_Made (cpB x_aKey) (cpB x_aIn)).Now))]) { Kind := (F_impl_Made (cpB x_aKey) (cpB x_aIn)).Kind, Id := (F_impl_Made (cpB x_aKey) (cpB x_aIn)).Id, Role := (F_impl_Made (cpB x_aKey) (cpB x_aIn)).Role, Cn := (marksB 1 ((F_impl_Made (cpB x_aKey) (cpB x_aIn)).Cn).length), Sn := (marksB (1 + (((F_impl_Made (cpB x_aKey) (cpB x_aIn)).Cn).length : Int)) ((F_impl_Made (cpB x_aKey) (cpB x_aIn)).Sn).length), Epoch := (F_impl_Made (cpB x_aKey) (cpB x_aIn)).Epoch, Seq := (F_impl_Made (cpB x_aKey) (cpB x_aIn)).Seq, Body := (marksB ((1 + (((F_impl_Made (cpB x_aKey) (cpB x_aIn)).Cn).length : Int)) + (((F_impl_Made (cpB x_aKey) (cpB x_aIn)).Sn).length : Int)) ((F_impl_Made (cpB x_aKey) (cpB x_aIn)).Body).length), Key := (marksB (((1 + (((F_impl_Made (cpB x_aKey) (cpB x_aIn)).Cn).length : Int)) + (((F_impl_Made (cpB x_aKey) (cpB x_aIn)).Sn).length : Int)) + (((F_impl_Made (cpB x_aKey) (cpB x_aIn)).Body).length : Int)) ((F_impl_Made (cpB x_aKey) (cpB x_aIn)).Key).length), A := ((F_impl_Made (cpB x_aKey) (cpB x_aIn)).A), Now := (F_impl_Made (cpB x_aKey) (cpB x_aIn)).Now : PNote } (show R_51 w19 (.agg #[(.int .i64 ((F_impl_Made (cpB x_aKey) (cpB x_aIn)).Kind)), (.int .i64 ((F_impl_Made (cpB x_aKey) (cpB x_aIn)).Id)), (.int .i64 ((F_impl_Made (cpB x_aKey) (cpB x_aIn)).Role)), (.slice a87 ((F_impl_Made (cpB x_aKey) (cpB x_aIn)).Cn).length c88), (.slice a92 ((F_impl_Made (cpB x_aKey) (cpB x_aIn)).Sn).length c93), (.int .i64 ((F_impl_Made (cpB x_aKey) (cpB x_aIn)).Epoch)), (.int .i64 ((F_impl_Made (cpB x_aKey) (cpB x_aIn)).Seq)), (.slice a97 ((F_impl_Made (cpB x_aKey) (cpB x_aIn)).Body).length c98), (.slice a102 ((F_impl_Made (cpB x_aKey) (cpB x_aIn)).Key).length c103), (.int .i64 (((F_impl_Made (cpB x_aKey) (cpB x_aIn)).A).Host)), (.int .i64 (((F_impl_Made (cpB x_aKey) (cpB x_aIn)).A).Port)), (.int .i64 ((F_impl_Made (cpB x_aKey) (cpB x_aIn)).Now))]) { Kind := (F_impl_Made (cpB x_aKey) (cpB x_aIn)).Kind, Id := (F_impl_Made (cpB x_aKey) (cpB x_aIn)).Id, Role := (F_impl_Made (cpB x_aKey) (cpB x_aIn)).Role, Cn := (marksB 1 ((F_impl_Made (cpB x_aKey) (cpB x_aIn)).Cn).length), Sn := (marksB (1 + (((F_impl_Made (cpB x_aKey) (cpB x_aIn)).Cn).length : Int)) ((F_impl_Made (cpB x_aKey) (cpB x_aIn)).Sn).length), Epoch := (F_impl_Made (cpB x_aKey) (cpB x_aIn)).Epoch, Seq := (F_impl_Made (cpB x_aKey) (cpB x_aIn)).Seq, Body := (marksB ((1 + (((F_impl_Made (cpB x_aKey) (cpB x_aIn)).Cn).length : Int)) + (((F_impl_Made (cpB x_aKey) (cpB x_aIn)).Sn).length : Int)) ((F_impl_Made (cpB x_aKey) (cpB x_aIn)).Body).length), Key := (marksB (((1 + (((F_impl_Made (cpB x_aKey) (cpB x_aIn)).Cn).length : Int)) + (((F_impl_Made (cpB x_aKey) (cpB x_aIn)).Sn).length : Int)) + (((F_impl_Made (cpB x_aKey) (cpB x_aIn)).Body).length : Int)) ((F_impl_Made (cpB x_aKey) (cpB x_aIn)).Key).length), A := ((F_impl_Made (cpB x_aKey) (cpB x_aIn)).A), Now := (F_impl_Made (cpB x_aKey) (cpB x_aIn)).Now : PNote } from ⟨a87, c88, a92, c93, a97, c98, a102, c103, by simp only [marksB_len, marksI_len], by simpa only [marksB_len, marksI_len] using r193, by simp only [marksB_len, marksI_len]; first | exact s90 | omega, by simpa only [marksB_len, marksI_len] using r194, by simp only [marksB_len, marksI_len]; first | exact s95 | omega, by simpa only [marksB_len, marksI_len] using r195, by simp only [marksB_len, marksI_len]; first | exact s100 | omega, by simpa only [marksB_len, marksI_len] using r196, by simp only [marksB_len, marksI_len]; first | exact s105 | omega⟩) 1 (by omega) (by omega)) ?_
              rintro _ w20 ⟨k199, rfl⟩
              have m200 := m197.extk k199
              have q201 := laws_heldNote_le { Kind := (F_impl_Made (cpB x_aKey) (cpB x_aIn)).Kind, Id := (F_impl_Made (cpB x_aKey) (cpB x_aIn)).Id, Role := (F_impl_Made (cpB x_aKey) (cpB x_aIn)).Role, Cn := (marksB 1 ((F_impl_Made (cpB x_aKey) (cpB x_aIn)).Cn).length), Sn := (marksB (1 + (((F_impl_Made (cpB x_aKey) (cpB x_aIn)).Cn).length : Int)) ((F_impl_Made (cpB x_aKey) (cpB x_aIn)).Sn).length), Epoch := (F_impl_Made (cpB x_aKey) (cpB x_aIn)).Epoch, Seq := (F_impl_Made (cpB x_aKey) (cpB x_aIn)).Seq, Body := (marksB ((1 + (((F_impl_Made (cpB x_aKey) (cpB x_aIn)).Cn).length : Int)) + (((F_impl_Made (cpB x_aKey) (cpB x_aIn)).Sn).length : Int)) ((F_impl_Made (cpB x_aKey) (cpB x_aIn)).Body).length), Key := (marksB (((1 + (((F_impl_Made (cpB x_aKey) (cpB x_aIn)).Cn).length : Int)) + (((F_impl_Made (cpB x_aKey) (cpB x_aIn)).Sn).length : Int)) + (((F_impl_Made (cpB x_aKey) (cpB x_aIn)).Body).length : Int)) ((F_impl_Made (cpB x_aKey) (cpB x_aIn)).Key).length), A := ((F_impl_Made (cpB x_aKey) (cpB x_aIn)).A), Now := (F_impl_Made (cpB x_aKey) (cpB x_aIn)).Now : PNote } 1
              refine wl_mv (.int .i64 (F_laws_heldNote { Kind := (F_impl_Made (cpB x_aKey) (cpB x_aIn)).Kind, Id := (F_impl_Made (cpB x_aKey) (cpB x_aIn)).Id, Role := (F_impl_Made (cpB x_aKey) (cpB x_aIn)).Role, Cn := (marksB 1 ((F_impl_Made (cpB x_aKey) (cpB x_aIn)).Cn).length), Sn := (marksB (1 + (((F_impl_Made (cpB x_aKey) (cpB x_aIn)).Cn).length : Int)) ((F_impl_Made (cpB x_aKey) (cpB x_aIn)).Sn).length), Epoch := (F_impl_Made (cpB x_aKey) (cpB x_aIn)).Epoch, Seq := (F_impl_Made (cpB x_aKey) (cpB x_aIn)).Seq, Body := (marksB ((1 + (((F_impl_Made (cpB x_aKey) (cpB x_aIn)).Cn).length : Int)) + (((F_impl_Made (cpB x_aKey) (cpB x_aIn)).Sn).length : Int)) ((F_impl_Made (cpB x_aKey) (cpB x_aIn)).Body).length), Key := (marksB (((1 + (((F_impl_Made (cpB x_aKey) (cpB x_aIn)).Cn).length : Int)) + (((F_impl_Made (cpB x_aKey) (cpB x_aIn)).Sn).length : Int)) + (((F_impl_Made (cpB x_aKey) (cpB x_aIn)).Body).length : Int)) ((F_impl_Made (cpB x_aKey) (cpB x_aIn)).Key).length), A := ((F_impl_Made (cpB x_aKey) (cpB x_aIn)).A), Now := (F_impl_Made (cpB x_aKey) (cpB x_aIn)).Now : PNote } 1)) (want_none rfl) rfl rfl (.inr rfl) rfl ?_
              refine wl_nil ?_
              refine wq_then ?_
              refine wc_seq ?_
              refine wc_seq ?_
              refine wc_region ?_
              refine wl_mv (.int .i64 (F_laws_heldNote { Kind := (F_impl_Made (cpB x_aKey) (cpB x_aIn)).Kind, Id := (F_impl_Made (cpB x_aKey) (cpB x_aIn)).Id, Role := (F_impl_Made (cpB x_aKey) (cpB x_aIn)).Role, Cn := (marksB 1 ((F_impl_Made (cpB x_aKey) (cpB x_aIn)).Cn).length), Sn := (marksB (1 + (((F_impl_Made (cpB x_aKey) (cpB x_aIn)).Cn).length : Int)) ((F_impl_Made (cpB x_aKey) (cpB x_aIn)).Sn).length), Epoch := (F_impl_Made (cpB x_aKey) (cpB x_aIn)).Epoch, Seq := (F_impl_Made (cpB x_aKey) (cpB x_aIn)).Seq, Body := (marksB ((1 + (((F_impl_Made (cpB x_aKey) (cpB x_aIn)).Cn).length : Int)) + (((F_impl_Made (cpB x_aKey) (cpB x_aIn)).Sn).length : Int)) ((F_impl_Made (cpB x_aKey) (cpB x_aIn)).Body).length), Key := (marksB (((1 + (((F_impl_Made (cpB x_aKey) (cpB x_aIn)).Cn).length : Int)) + (((F_impl_Made (cpB x_aKey) (cpB x_aIn)).Sn).length : Int)) + (((F_impl_Made (cpB x_aKey) (cpB x_aIn)).Body).length : Int)) ((F_impl_Made (cpB x_aKey) (cpB x_aIn)).Key).length), A := ((F_impl_Made (cpB x_aKey) (cpB x_aIn)).A), Now := (F_impl_Made (cpB x_aKey) (cpB x_aIn)).Now : PNote } 1)) (want_none rfl) rfl rfl (.inl rfl) rfl ?_
              refine wl_pure (.bool (decide ((F_laws_heldNote { Kind := (F_impl_Made (cpB x_aKey) (cpB x_aIn)).Kind, Id := (F_impl_Made (cpB x_aKey) (cpB x_aIn)).Id, Role := (F_impl_Made (cpB x_aKey) (cpB x_aIn)).Role, Cn := (marksB 1 ((F_impl_Made (cpB x_aKey) (cpB x_aIn)).Cn).length), Sn := (marksB (1 + (((F_impl_Made (cpB x_aKey) (cpB x_aIn)).Cn).length : Int)) ((F_impl_Made (cpB x_aKey) (cpB x_aIn)).Sn).length), Epoch := (F_impl_Made (cpB x_aKey) (cpB x_aIn)).Epoch, Seq := (F_impl_Made (cpB x_aKey) (cpB x_aIn)).Seq, Body := (marksB ((1 + (((F_impl_Made (cpB x_aKey) (cpB x_aIn)).Cn).length : Int)) + (((F_impl_Made (cpB x_aKey) (cpB x_aIn)).Sn).length : Int)) ((F_impl_Made (cpB x_aKey) (cpB x_aIn)).Body).length), Key := (marksB (((1 + (((F_impl_Made (cpB x_aKey) (cpB x_aIn)).Cn).length : Int)) + (((F_impl_Made (cpB x_aKey) (cpB x_aIn)).Sn).length : Int)) + (((F_impl_Made (cpB x_aKey) (cpB x_aIn)).Body).length : Int)) ((F_impl_Made (cpB x_aKey) (cpB x_aIn)).Key).length), A := ((F_impl_Made (cpB x_aKey) (cpB x_aIn)).A), Now := (F_impl_Made (cpB x_aKey) (cpB x_aIn)).Now : PNote } 1) < 0))) (want_none rfl) rfl rfl (by kernel_rfl) ?_
              refine wl_nil ?_
              refine wq_then ?_
              rcases Bool.eq_false_or_eq_true (decide ((F_laws_heldNote { Kind := (F_impl_Made (cpB x_aKey) (cpB x_aIn)).Kind, Id := (F_impl_Made (cpB x_aKey) (cpB x_aIn)).Id, Role := (F_impl_Made (cpB x_aKey) (cpB x_aIn)).Role, Cn := (marksB 1 ((F_impl_Made (cpB x_aKey) (cpB x_aIn)).Cn).length), Sn := (marksB (1 + (((F_impl_Made (cpB x_aKey) (cpB x_aIn)).Cn).length : Int)) ((F_impl_Made (cpB x_aKey) (cpB x_aIn)).Sn).length), Epoch := (F_impl_Made (cpB x_aKey) (cpB x_aIn)).Epoch, Seq := (F_impl_Made (cpB x_aKey) (cpB x_aIn)).Seq, Body := (marksB ((1 + (((F_impl_Made (cpB x_aKey) (cpB x_aIn)).Cn).length : Int)) + (((F_impl_Made (cpB x_aKey) (cpB x_aIn)).Sn).length : Int)) ((F_impl_Made (cpB x_aKey) (cpB x_aIn)).Body).length), Key := (marksB (((1 + (((F_impl_Made (cpB x_aKey) (cpB x_aIn)).Cn).length : Int)) + (((F_impl_Made (cpB x_aKey) (cpB x_aIn)).Sn).length : Int)) + (((F_impl_Made (cpB x_aKey) (cpB x_aIn)).Body).length : Int)) ((F_impl_Made (cpB x_aKey) (cpB x_aIn)).Key).length), A := ((F_impl_Made (cpB x_aKey) (cpB x_aIn)).A), Now := (F_impl_Made (cpB x_aKey) (cpB x_aIn)).Now : PNote } 1) < 0)) with h202 | h202
              · have q203 := of_decide_eq_true h202
                refine wc_true (congrArg Value.bool h202) ?_
                refine wc_seq ?_
                refine wc_region ?_
                refine wl_mv (.bool false) (want_none rfl) rfl rfl (.inr rfl) rfl ?_
                refine wl_nil ?_
                refine wq_then ?_
                refine wc_ret ?_
                refine wq_then_ret ?_
                refine ret_1 (.inl rfl) (.bool false) rfl rfl ?_
                refine ⟨m200.keep0, ?_⟩
                have hF204 : F_laws_FnExactMade x_aKey x_aIn = false := by simp only [F_laws_FnExactMade, h11, h15, h130, h143, h156, h167, h202, cond_true, cond_false]
                rw [hF204]
                exact rfl
              · have q205 := of_decide_eq_false h202
                refine wc_false (congrArg Value.bool h202) ?_
                refine wc_skip ?_
                refine wq_then ?_
                refine wc_seq ?_
                refine wc_seq ?_
                refine wc_region ?_
                refine wl_mv (.int .i64 (F_laws_heldNote { Kind := (F_impl_Made (cpB x_aKey) (cpB x_aIn)).Kind, Id := (F_impl_Made (cpB x_aKey) (cpB x_aIn)).Id, Role := (F_impl_Made (cpB x_aKey) (cpB x_aIn)).Role, Cn := (marksB 1 ((F_impl_Made (cpB x_aKey) (cpB x_aIn)).Cn).length), Sn := (marksB (1 + (((F_impl_Made (cpB x_aKey) (cpB x_aIn)).Cn).length : Int)) ((F_impl_Made (cpB x_aKey) (cpB x_aIn)).Sn).length), Epoch := (F_impl_Made (cpB x_aKey) (cpB x_aIn)).Epoch, Seq := (F_impl_Made (cpB x_aKey) (cpB x_aIn)).Seq, Body := (marksB ((1 + (((F_impl_Made (cpB x_aKey) (cpB x_aIn)).Cn).length : Int)) + (((F_impl_Made (cpB x_aKey) (cpB x_aIn)).Sn).length : Int)) ((F_impl_Made (cpB x_aKey) (cpB x_aIn)).Body).length), Key := (marksB (((1 + (((F_impl_Made (cpB x_aKey) (cpB x_aIn)).Cn).length : Int)) + (((F_impl_Made (cpB x_aKey) (cpB x_aIn)).Sn).length : Int)) + (((F_impl_Made (cpB x_aKey) (cpB x_aIn)).Body).length : Int)) ((F_impl_Made (cpB x_aKey) (cpB x_aIn)).Key).length), A := ((F_impl_Made (cpB x_aKey) (cpB x_aIn)).A), Now := (F_impl_Made (cpB x_aKey) (cpB x_aIn)).Now : PNote } 1)) (want_none rfl) rfl rfl (.inl rfl) rfl ?_
                refine wl_mv (.int .i64 ((((1 + (((F_impl_Made (cpB x_aKey) (cpB x_aIn)).Cn).length : Int)) + (((F_impl_Made (cpB x_aKey) (cpB x_aIn)).Sn).length : Int)) + (((F_impl_Made (cpB x_aKey) (cpB x_aIn)).Body).length : Int)) + (((F_impl_Made (cpB x_aKey) (cpB x_aIn)).Key).length : Int))) (want_none rfl) rfl rfl (.inl rfl) rfl ?_
                refine wl_pure (.bool (!(decide ((F_laws_heldNote { Kind := (F_impl_Made (cpB x_aKey) (cpB x_aIn)).Kind, Id := (F_impl_Made (cpB x_aKey) (cpB x_aIn)).Id, Role := (F_impl_Made (cpB x_aKey) (cpB x_aIn)).Role, Cn := (marksB 1 ((F_impl_Made (cpB x_aKey) (cpB x_aIn)).Cn).length), Sn := (marksB (1 + (((F_impl_Made (cpB x_aKey) (cpB x_aIn)).Cn).length : Int)) ((F_impl_Made (cpB x_aKey) (cpB x_aIn)).Sn).length), Epoch := (F_impl_Made (cpB x_aKey) (cpB x_aIn)).Epoch, Seq := (F_impl_Made (cpB x_aKey) (cpB x_aIn)).Seq, Body := (marksB ((1 + (((F_impl_Made (cpB x_aKey) (cpB x_aIn)).Cn).length : Int)) + (((F_impl_Made (cpB x_aKey) (cpB x_aIn)).Sn).length : Int)) ((F_impl_Made (cpB x_aKey) (cpB x_aIn)).Body).length), Key := (marksB (((1 + (((F_impl_Made (cpB x_aKey) (cpB x_aIn)).Cn).length : Int)) + (((F_impl_Made (cpB x_aKey) (cpB x_aIn)).Sn).length : Int)) + (((F_impl_Made (cpB x_aKey) (cpB x_aIn)).Body).length : Int)) ((F_impl_Made (cpB x_aKey) (cpB x_aIn)).Key).length), A := ((F_impl_Made (cpB x_aKey) (cpB x_aIn)).A), Now := (F_impl_Made (cpB x_aKey) (cpB x_aIn)).Now : PNote } 1) = ((((1 + (((F_impl_Made (cpB x_aKey) (cpB x_aIn)).Cn).length : Int)) + (((F_impl_Made (cpB x_aKey) (cpB x_aIn)).Sn).length : Int)) + (((F_impl_Made (cpB x_aKey) (cpB x_aIn)).Body).length : Int)) + (((F_impl_Made (cpB x_aKey) (cpB x_aIn)).Key).length : Int)))))) (want_none rfl) rfl rfl (by kernel_rfl) ?_
                refine wl_nil ?_
                refine wq_then ?_
                rcases Bool.eq_false_or_eq_true (decide ((F_laws_heldNote { Kind := (F_impl_Made (cpB x_aKey) (cpB x_aIn)).Kind, Id := (F_impl_Made (cpB x_aKey) (cpB x_aIn)).Id, Role := (F_impl_Made (cpB x_aKey) (cpB x_aIn)).Role, Cn := (marksB 1 ((F_impl_Made (cpB x_aKey) (cpB x_aIn)).Cn).length), Sn := (marksB (1 + (((F_impl_Made (cpB x_aKey) (cpB x_aIn)).Cn).length : Int)) ((F_impl_Made (cpB x_aKey) (cpB x_aIn)).Sn).length), Epoch := (F_impl_Made (cpB x_aKey) (cpB x_aIn)).Epoch, Seq := (F_impl_Made (cpB x_aKey) (cpB x_aIn)).Seq, Body := (marksB ((1 + (((F_impl_Made (cpB x_aKey) (cpB x_aIn)).Cn).length : Int)) + (((F_impl_Made (cpB x_aKey) (cpB x_aIn)).Sn).length : Int)) ((F_impl_Made (cpB x_aKey) (cpB x_aIn)).Body).length), Key := (marksB (((1 + (((F_impl_Made (cpB x_aKey) (cpB x_aIn)).Cn).length : Int)) + (((F_impl_Made (cpB x_aKey) (cpB x_aIn)).Sn).length : Int)) + (((F_impl_Made (cpB x_aKey) (cpB x_aIn)).Body).length : Int)) ((F_impl_Made (cpB x_aKey) (cpB x_aIn)).Key).length), A := ((F_impl_Made (cpB x_aKey) (cpB x_aIn)).A), Now := (F_impl_Made (cpB x_aKey) (cpB x_aIn)).Now : PNote } 1) = ((((1 + (((F_impl_Made (cpB x_aKey) (cpB x_aIn)).Cn).length : Int)) + (((F_impl_Made (cpB x_aKey) (cpB x_aIn)).Sn).length : Int)) + (((F_impl_Made (cpB x_aKey) (cpB x_aIn)).Body).length : Int)) + (((F_impl_Made (cpB x_aKey) (cpB x_aIn)).Key).length : Int)))) with h206 | h206
                · have q207 := of_decide_eq_true h206
                  refine wc_false (congrArg (fun b => Value.bool (!b)) h206) ?_
                  refine wc_skip ?_
                  refine wq_then ?_
                  refine wc_seq ?_
                  refine wc_region ?_
                  refine wl_mv (.slice a1 x_aKey.length c2) (want_none rfl) rfl rfl (.inl rfl) rfl ?_
                  refine wl_call (want_none rfl) (args := #[(.slice a1 x_aKey.length c2)]) rfl rfl (by kernel_rfl) (C_laws_toByteS w20 (.slice a1 x_aKey.length c2) x_aKey (show R_35 w20 (.slice a1 x_aKey.length c2) x_aKey from ⟨_, _, rfl, (r3.from0 m200), (by omega)⟩)) ?_
                  rintro _ w21 ⟨k208, ⟨a209, c210, rfl, o211, s212, ap214⟩⟩
                  have m215 := m200.extk k208
                  refine wl_mv (.slice a6 x_aIn.length c7) (want_none rfl) rfl rfl (.inl rfl) rfl ?_
                  refine wl_call (want_none rfl) (args := #[(.slice a6 x_aIn.length c7)]) rfl rfl (by kernel_rfl) (C_laws_toByteS w21 (.slice a6 x_aIn.length c7) x_aIn (show R_35 w21 (.slice a6 x_aIn.length c7) x_aIn from ⟨_, _, rfl, (r8.from0 m215), (by omega)⟩)) ?_
                  rintro _ w22 ⟨k216, ⟨a217, c218, rfl, o219, s220, ap222⟩⟩
                  have m223 := m215.extk k216
                  have o224 := (own_kp o211 k216)
                  refine wl_call (want_none rfl) (args := #[(.slice a209 (cpB x_aKey).length c210), (.slice a217 (cpB x_aIn).length c218)]) rfl rfl (by kernel_rfl) (C_impl_Made w22 (.slice a209 (cpB x_aKey).length c210) (cpB x_aKey) (show R_35 w22 (.slice a209 (cpB x_aKey).length c210) (cpB x_aKey) from ⟨_, _, rfl, (Rd.of_own o224), s212⟩) (.slice a217 (cpB x_aIn).length c218) (cpB x_aIn) (show R_35 w22 (.slice a217 (cpB x_aIn).length c218) (cpB x_aIn) from ⟨_, _, rfl, (Rd.of_own o219), s220⟩)) ?_
                  rintro _ w23 ⟨k225, ⟨a226, c227, a231, c232, a236, c237, a241, c242, rfl, o228, s229, o233, s234, o238, s239, o243, s244, ap246⟩⟩
                  have m247 := m223.extk k225
                  refine wl_alloc (want_none rfl) (.agg #[(.int .i64 0), (.int .i64 0), (.int .i64 0), (.slice none 0 0), (.slice none 0 0), (.int .i64 0), (.int .i64 0), (.slice none 0 0), (.slice none 0 0), (.int .i64 0), (.int .i64 0), (.int .i64 0)]) [(.int .i64 0), (.int .i64 0), (.int .i64 0), (.slice none 0 0), (.slice none 0 0), (.int .i64 0), (.int .i64 0), (.slice none 0 0), (.slice none 0 0), (.int .i64 0), (.int .i64 0), (.int .i64 0)] zero_51 rfl rfl rfl rfl ?_
                  intro g248 w24 p249 p250 k251 b252
                  have m253 := m247.extk k251
                  refine wl_store (.agg #[(.int .i64 ((F_impl_Made (cpB x_aKey) (cpB x_aIn)).Kind)), (.int .i64 ((F_impl_Made (cpB x_aKey) (cpB x_aIn)).Id)), (.int .i64 ((F_impl_Made (cpB x_aKey) (cpB x_aIn)).Role)), (.slice a226 ((F_impl_Made (cpB x_aKey) (cpB x_aIn)).Cn).length c227), (.slice a231 ((F_impl_Made (cpB x_aKey) (cpB x_aIn)).Sn).length c232), (.int .i64 ((F_impl_Made (cpB x_aKey) (cpB x_aIn)).Epoch)), (.int .i64 ((F_impl_Made (cpB x_aKey) (cpB x_aIn)).Seq)), (.slice a236 ((F_impl_Made (cpB x_aKey) (cpB x_aIn)).Body).length c237), (.slice a241 ((F_impl_Made (cpB x_aKey) (cpB x_aIn)).Key).length c242), (.int .i64 (((F_impl_Made (cpB x_aKey) (cpB x_aIn)).A).Host)), (.int .i64 (((F_impl_Made (cpB x_aKey) (cpB x_aIn)).A).Port)), (.int .i64 ((F_impl_Made (cpB x_aKey) (cpB x_aIn)).Now))]) [(.int .i64 ((F_impl_Made (cpB x_aKey) (cpB x_aIn)).Kind)), (.int .i64 ((F_impl_Made (cpB x_aKey) (cpB x_aIn)).Id)), (.int .i64 ((F_impl_Made (cpB x_aKey) (cpB x_aIn)).Role)), (.slice a226 ((F_impl_Made (cpB x_aKey) (cpB x_aIn)).Cn).length c227), (.slice a231 ((F_impl_Made (cpB x_aKey) (cpB x_aIn)).Sn).length c232), (.int .i64 ((F_impl_Made (cpB x_aKey) (cpB x_aIn)).Epoch)), (.int .i64 ((F_impl_Made (cpB x_aKey) (cpB x_aIn)).Seq)), (.slice a236 ((F_impl_Made (cpB x_aKey) (cpB x_aIn)).Body).length c237), (.slice a241 ((F_impl_Made (cpB x_aKey) (cpB x_aIn)).Key).length c242), (.int .i64 (((F_impl_Made (cpB x_aKey) (cpB x_aIn)).A).Host)), (.int .i64 (((F_impl_Made (cpB x_aKey) (cpB x_aIn)).A).Port)), (.int .i64 ((F_impl_Made (cpB x_aKey) (cpB x_aIn)).Now))] [(.int .i64 ((F_impl_Made (cpB x_aKey) (cpB x_aIn)).Kind)), (.int .i64 ((F_impl_Made (cpB x_aKey) (cpB x_aIn)).Id)), (.int .i64 ((F_impl_Made (cpB x_aKey) (cpB x_aIn)).Role)), (.slice a226 ((F_impl_Made (cpB x_aKey) (cpB x_aIn)).Cn).length c227), (.slice a231 ((F_impl_Made (cpB x_aKey) (cpB x_aIn)).Sn).length c232), (.int .i64 ((F_impl_Made (cpB x_aKey) (cpB x_aIn)).Epoch)), (.int .i64 ((F_impl_Made (cpB x_aKey) (cpB x_aIn)).Seq)), (.slice a236 ((F_impl_Made (cpB x_aKey) (cpB x_aIn)).Body).length c237), (.slice a241 ((F_impl_Made (cpB x_aKey) (cpB x_aIn)).Key).length c242), (.int .i64 (((F_impl_Made (cpB x_aKey) (cpB x_aIn)).A).Host)), (.int .i64 (((F_impl_Made (cpB x_aKey) (cpB x_aIn)).A).Port)), (.int .i64 ((F_impl_Made (cpB x_aKey) (cpB x_aIn)).Now))] (want_none rfl) rfl rfl rfl rfl rfl (one_cons rfl (one_cons rfl (one_cons rfl (one_cons rfl (one_cons rfl (one_cons rfl (one_cons rfl (one_cons rfl (one_cons rfl (one_cons rfl (one_cons rfl (one_cons rfl one_nil)))))))))))) sizeOf_51 b252 rfl rfl ?_
                  intro w25 k254 b255 z256
                  have m257 := m253.ext k254 (fun k hk => by subst hk; exact Nat.le_trans (Nat.le_trans (Nat.le_trans (Nat.le_trans (Nat.le_trans (Nat.le_trans (Nat.le_trans (Nat.le_trans (Nat.le_trans (Nat.le_trans (Nat.le_trans (Nat.le_trans (Nat.le_trans (Nat.le_trans (Nat.le_trans (Nat.le_trans (Nat.le_trans (Nat.le_trans (Nat.le_trans (Nat.le_trans (Nat.le_trans (Nat.le_trans (Nat.le_trans k19.size k27.size) k36.size) k62.size) k65.size) k69.size) k77.size) k86.size) k112.size) k115.size) k128.size) k132.size) k141.size) k145.size) k154.size) k159.size) k164.size) k181.size) k192.size) k199.size) k208.size) k216.size) k225.size) p249)
                  refine wl_nil ?_
                  refine wq_then ?_
                  refine wc_seq ?_
                  refine wc_seq ?_
                  refine wc_region ?_
                  refine wl_loadN [(.int .i64 ((F_impl_Made (cpB x_aKey) (cpB x_aIn)).Kind)), (.int .i64 ((F_impl_Made (cpB x_aKey) (cpB x_aIn)).Id)), (.int .i64 ((F_impl_Made (cpB x_aKey) (cpB x_aIn)).Role)), (.slice a226 ((F_impl_Made (cpB x_aKey) (cpB x_aIn)).Cn).length c227), (.slice a231 ((F_impl_Made (cpB x_aKey) (cpB x_aIn)).Sn).length c232), (.int .i64 ((F_impl_Made (cpB x_aKey) (cpB x_aIn)).Epoch)), (.int .i64 ((F_impl_Made (cpB x_aKey) (cpB x_aIn)).Seq)), (.slice a236 ((F_impl_Made (cpB x_aKey) (cpB x_aIn)).Body).length c237), (.slice a241 ((F_impl_Made (cpB x_aKey) (cpB x_aIn)).Key).length c242), (.int .i64 (((F_impl_Made (cpB x_aKey) (cpB x_aIn)).A).Host)), (.int .i64 (((F_impl_Made (cpB x_aKey) (cpB x_aIn)).A).Port)), (.int .i64 ((F_impl_Made (cpB x_aKey) (cpB x_aIn)).Now))] (want_none rfl) rfl rfl rfl rfl isAgg_51 sizeOf_51 b255 rfl ?_
                  have b258 := ((((((((b172.kp k181).ch k192 (ms_lo (ms_lo_cons (fun hn x hx hb => by have := (own_lt o89 x.block (by rw [hx]; rfl)).1; have := Nat.lt_of_lt_of_le p61 (Nat.le_trans (Nat.le_trans k65.size k69.size) k77.size); omega) (ms_lo_cons (fun hn x hx hb => by have := (own_lt o94 x.block (by rw [hx]; rfl)).1; have := Nat.lt_of_lt_of_le p61 (Nat.le_trans (Nat.le_trans k65.size k69.size) k77.size); omega) (ms_lo_cons (fun hn x hx hb => by have := (own_lt o99 x.block (by rw [hx]; rfl)).1; have := Nat.lt_of_lt_of_le p61 (Nat.le_trans (Nat.le_trans k65.size k69.size) k77.size); omega) (ms_lo_cons (fun hn x hx hb => by have := (own_lt o104 x.block (by rw [hx]; rfl)).1; have := Nat.lt_of_lt_of_le p61 (Nat.le_trans (Nat.le_trans k65.size k69.size) k77.size); omega) ms_lo_nil)))))).kp k199).kp k208).kp k216).kp k225).kp k251).ch k254 (Nat.ne_of_lt (Nat.lt_of_lt_of_le p61 (Nat.le_trans (Nat.le_trans (Nat.le_trans (Nat.le_trans (Nat.le_trans (Nat.le_trans (Nat.le_trans (Nat.le_trans (Nat.le_trans (Nat.le_trans (Nat.le_trans (Nat.le_trans (Nat.le_trans (Nat.le_trans (Nat.le_trans (Nat.le_trans (Nat.le_trans (Nat.le_trans (Nat.le_trans k65.size k69.size) k77.size) k86.size) k112.size) k115.size) k128.size) k132.size) k141.size) k145.size) k154.size) k159.size) k164.size) k181.size) k192.size) k199.size) k208.size) k216.size) k225.size) p249))))
                  refine wl_loadN [(.int .i64 ((F_spec_Made (cpB x_aKey) (cpB x_aIn)).Kind)), (.int .i64 ((F_spec_Made (cpB x_aKey) (cpB x_aIn)).Id)), (.int .i64 ((F_spec_Made (cpB x_aKey) (cpB x_aIn)).Role)), (.slice a37 ((F_spec_Made (cpB x_aKey) (cpB x_aIn)).Cn).length c38), (.slice a42 ((F_spec_Made (cpB x_aKey) (cpB x_aIn)).Sn).length c43), (.int .i64 ((F_spec_Made (cpB x_aKey) (cpB x_aIn)).Epoch)), (.int .i64 ((F_spec_Made (cpB x_aKey) (cpB x_aIn)).Seq)), (.slice a47 ((F_spec_Made (cpB x_aKey) (cpB x_aIn)).Body).length c48), (.slice a52 ((F_spec_Made (cpB x_aKey) (cpB x_aIn)).Key).length c53), (.int .i64 (((F_spec_Made (cpB x_aKey) (cpB x_aIn)).A).Host)), (.int .i64 (((F_spec_Made (cpB x_aKey) (cpB x_aIn)).A).Port)), (.int .i64 ((F_spec_Made (cpB x_aKey) (cpB x_aIn)).Now))] (want_none rfl) rfl rfl rfl rfl isAgg_51 sizeOf_51 b258 rfl ?_
                  have o259 := (own_ch (own_kp o228 k251) k254 (fun g hg hlt hk => by have h1 := (own_lt o228 g hg).2; have h2 := Nat.le_trans (Nat.le_refl _) p249; omega))
                  have o260 := (own_ch (own_kp o233 k251) k254 (fun g hg hlt hk => by have h1 := (own_lt o233 g hg).2; have h2 := Nat.le_trans (Nat.le_refl _) p249; omega))
                  have o261 := (own_ch (own_kp o238 k251) k254 (fun g hg hlt hk => by have h1 := (own_lt o238 g hg).2; have h2 := Nat.le_trans (Nat.le_refl _) p249; omega))
                  have o262 := (own_ch (own_kp o243 k251) k254 (fun g hg hlt hk => by have h1 := (own_lt o243 g hg).2; have h2 := Nat.le_trans (Nat.le_refl _) p249; omega))
                  have r263 := (((((((Rd.ms (l := [(a87, ((F_impl_Made (cpB x_aKey) (cpB x_aIn)).Cn).length, c88), (a92, ((F_impl_Made (cpB x_aKey) (cpB x_aIn)).Sn).length, c93), (a97, ((F_impl_Made (cpB x_aKey) (cpB x_aIn)).Body).length, c98), (a102, ((F_impl_Made (cpB x_aKey) (cpB x_aIn)).Key).length, c103)]) (r177.kp k181) rfl k192 (ap_cons (rd_cap r184) (Ap.lt o39 o89 (Nat.le_trans (Nat.le_trans (Nat.le_trans k62.size k65.size) k69.size) k77.size)).symm (ap_cons (rd_cap r185) (Ap.lt o39 o94 (Nat.le_trans (Nat.le_trans (Nat.le_trans k62.size k65.size) k69.size) k77.size)).symm (ap_cons (rd_cap r186) (Ap.lt o39 o99 (Nat.le_trans (Nat.le_trans (Nat.le_trans k62.size k65.size) k69.size) k77.size)).symm (ap_cons (rd_cap r187) (Ap.lt o39 o104 (Nat.le_trans (Nat.le_trans (Nat.le_trans k62.size k65.size) k69.size) k77.size)).symm ap_nil))))).kp k199).kp k208).kp k216).kp k225).kp k251).ch k254 (fun g hg hlt hk => by have h1 := (own_lt o39 g hg).2; have h2 := Nat.le_trans (Nat.le_trans (Nat.le_trans (Nat.le_trans (Nat.le_trans (Nat.le_trans (Nat.le_trans (Nat.le_trans (Nat.le_trans (Nat.le_trans (Nat.le_trans (Nat.le_trans (Nat.le_trans (Nat.le_trans (Nat.le_trans (Nat.le_trans (Nat.le_trans (Nat.le_trans (Nat.le_trans (Nat.le_trans k62.size k65.size) k69.size) k77.size) k86.size) k112.size) k115.size) k128.size) k132.size) k141.size) k145.size) k154.size) k159.size) k164.size) k181.size) k192.size) k199.size) k208.size) k216.size) k225.size) p249; omega))
                  have r264 := (((((((Rd.ms (l := [(a87, ((F_impl_Made (cpB x_aKey) (cpB x_aIn)).Cn).length, c88), (a92, ((F_impl_Made (cpB x_aKey) (cpB x_aIn)).Sn).length, c93), (a97, ((F_impl_Made (cpB x_aKey) (cpB x_aIn)).Body).length, c98), (a102, ((F_impl_Made (cpB x_aKey) (cpB x_aIn)).Key).length, c103)]) (r178.kp k181) rfl k192 (ap_cons (rd_cap r184) (Ap.lt o44 o89 (Nat.le_trans (Nat.le_trans (Nat.le_trans k62.size k65.size) k69.size) k77.size)).symm (ap_cons (rd_cap r185) (Ap.lt o44 o94 (Nat.le_trans (Nat.le_trans (Nat.le_trans k62.size k65.size) k69.size) k77.size)).symm (ap_cons (rd_cap r186) (Ap.lt o44 o99 (Nat.le_trans (Nat.le_trans (Nat.le_trans k62.size k65.size) k69.size) k77.size)).symm (ap_cons (rd_cap r187) (Ap.lt o44 o104 (Nat.le_trans (Nat.le_trans (Nat.le_trans k62.size k65.size) k69.size) k77.size)).symm ap_nil))))).kp k199).kp k208).kp k216).kp k225).kp k251).ch k254 (fun g hg hlt hk => by have h1 := (own_lt o44 g hg).2; have h2 := Nat.le_trans (Nat.le_trans (Nat.le_trans (Nat.le_trans (Nat.le_trans (Nat.le_trans (Nat.le_trans (Nat.le_trans (Nat.le_trans (Nat.le_trans (Nat.le_trans (Nat.le_trans (Nat.le_trans (Nat.le_trans (Nat.le_trans (Nat.le_trans (Nat.le_trans (Nat.le_trans (Nat.le_trans (Nat.le_trans k62.size k65.size) k69.size) k77.size) k86.size) k112.size) k115.size) k128.size) k132.size) k141.size) k145.size) k154.size) k159.size) k164.size) k181.size) k192.size) k199.size) k208.size) k216.size) k225.size) p249; omega))
                  have r265 := (((((((Rd.ms (l := [(a87, ((F_impl_Made (cpB x_aKey) (cpB x_aIn)).Cn).length, c88), (a92, ((F_impl_Made (cpB x_aKey) (cpB x_aIn)).Sn).length, c93), (a97, ((F_impl_Made (cpB x_aKey) (cpB x_aIn)).Body).length, c98), (a102, ((F_impl_Made (cpB x_aKey) (cpB x_aIn)).Key).length, c103)]) (r179.kp k181) rfl k192 (ap_cons (rd_cap r184) (Ap.lt o49 o89 (Nat.le_trans (Nat.le_trans (Nat.le_trans k62.size k65.size) k69.size) k77.size)).symm (ap_cons (rd_cap r185) (Ap.lt o49 o94 (Nat.le_trans (Nat.le_trans (Nat.le_trans k62.size k65.size) k69.size) k77.size)).symm (ap_cons (rd_cap r186) (Ap.lt o49 o99 (Nat.le_trans (Nat.le_trans (Nat.le_trans k62.size k65.size) k69.size) k77.size)).symm (ap_cons (rd_cap r187) (Ap.lt o49 o104 (Nat.le_trans (Nat.le_trans (Nat.le_trans k62.size k65.size) k69.size) k77.size)).symm ap_nil))))).kp k199).kp k208).kp k216).kp k225).kp k251).ch k254 (fun g hg hlt hk => by have h1 := (own_lt o49 g hg).2; have h2 := Nat.le_trans (Nat.le_trans (Nat.le_trans (Nat.le_trans (Nat.le_trans (Nat.le_trans (Nat.le_trans (Nat.le_trans (Nat.le_trans (Nat.le_trans (Nat.le_trans (Nat.le_trans (Nat.le_trans (Nat.le_trans (Nat.le_trans (Nat.le_trans (Nat.le_trans (Nat.le_trans (Nat.le_trans (Nat.le_trans k62.size k65.size) k69.size) k77.size) k86.size) k112.size) k115.size) k128.size) k132.size) k141.size) k145.size) k154.size) k159.size) k164.size) k181.size) k192.size) k199.size) k208.size) k216.size) k225.size) p249; omega))
                  have r266 := (((((((Rd.ms (l := [(a87, ((F_impl_Made (cpB x_aKey) (cpB x_aIn)).Cn).length, c88), (a92, ((F_impl_Made (cpB x_aKey) (cpB x_aIn)).Sn).length, c93), (a97, ((F_impl_Made (cpB x_aKey) (cpB x_aIn)).Body).length, c98), (a102, ((F_impl_Made (cpB x_aKey) (cpB x_aIn)).Key).length, c103)]) (r180.kp k181) rfl k192 (ap_cons (rd_cap r184) (Ap.lt o54 o89 (Nat.le_trans (Nat.le_trans (Nat.le_trans k62.size k65.size) k69.size) k77.size)).symm (ap_cons (rd_cap r185) (Ap.lt o54 o94 (Nat.le_trans (Nat.le_trans (Nat.le_trans k62.size k65.size) k69.size) k77.size)).symm (ap_cons (rd_cap r186) (Ap.lt o54 o99 (Nat.le_trans (Nat.le_trans (Nat.le_trans k62.size k65.size) k69.size) k77.size)).symm (ap_cons (rd_cap r187) (Ap.lt o54 o104 (Nat.le_trans (Nat.le_trans (Nat.le_trans k62.size k65.size) k69.size) k77.size)).symm ap_nil))))).kp k199).kp k208).kp k216).kp k225).kp k251).ch k254 (fun g hg hlt hk => by have h1 := (own_lt o54 g hg).2; have h2 := Nat.le_trans (Nat.le_trans (Nat.le_trans (Nat.le_trans (Nat.le_trans (Nat.le_trans (Nat.le_trans (Nat.le_trans (Nat.le_trans (Nat.le_trans (Nat.le_trans (Nat.le_trans (Nat.le_trans (Nat.le_trans (Nat.le_trans (Nat.le_trans (Nat.le_trans (Nat.le_trans (Nat.le_trans (Nat.le_trans k62.size k65.size) k69.size) k77.size) k86.size) k112.size) k115.size) k128.size) k132.size) k141.size) k145.size) k154.size) k159.size) k164.size) k181.size) k192.size) k199.size) k208.size) k216.size) k225.size) p249; omega))
                  refine wl_call (want_none rfl) (args := #[(.agg #[(.int .i64 ((F_impl_Made (cpB x_aKey) (cpB x_aIn)).Kind)), (.int .i64 ((F_impl_Made (cpB x_aKey) (cpB x_aIn)).Id)), (.int .i64 ((F_impl_Made (cpB x_aKey) (cpB x_aIn)).Role)), (.slice a226 ((F_impl_Made (cpB x_aKey) (cpB x_aIn)).Cn).length c227), (.slice a231 ((F_impl_Made (cpB x_aKey) (cpB x_aIn)).Sn).length c232), (.int .i64 ((F_impl_Made (cpB x_aKey) (cpB x_aIn)).Epoch)), (.int .i64 ((F_impl_Made (cpB x_aKey) (cpB x_aIn)).Seq)), (.slice a236 ((F_impl_Made (cpB x_aKey) (cpB x_aIn)).Body).length c237), (.slice a241 ((F_impl_Made (cpB x_aKey) (cpB x_aIn)).Key).length c242), (.int .i64 (((F_impl_Made (cpB x_aKey) (cpB x_aIn)).A).Host)), (.int .i64 (((F_impl_Made (cpB x_aKey) (cpB x_aIn)).A).Port)), (.int .i64 ((F_impl_Made (cpB x_aKey) (cpB x_aIn)).Now))]), (.agg #[(.int .i64 ((F_spec_Made (cpB x_aKey) (cpB x_aIn)).Kind)), (.int .i64 ((F_spec_Made (cpB x_aKey) (cpB x_aIn)).Id)), (.int .i64 ((F_spec_Made (cpB x_aKey) (cpB x_aIn)).Role)), (.slice a37 ((F_spec_Made (cpB x_aKey) (cpB x_aIn)).Cn).length c38), (.slice a42 ((F_spec_Made (cpB x_aKey) (cpB x_aIn)).Sn).length c43), (.int .i64 ((F_spec_Made (cpB x_aKey) (cpB x_aIn)).Epoch)), (.int .i64 ((F_spec_Made (cpB x_aKey) (cpB x_aIn)).Seq)), (.slice a47 ((F_spec_Made (cpB x_aKey) (cpB x_aIn)).Body).length c48), (.slice a52 ((F_spec_Made (cpB x_aKey) (cpB x_aIn)).Key).length c53), (.int .i64 (((F_spec_Made (cpB x_aKey) (cpB x_aIn)).A).Host)), (.int .i64 (((F_spec_Made (cpB x_aKey) (cpB x_aIn)).A).Port)), (.int .i64 ((F_spec_Made (cpB x_aKey) (cpB x_aIn)).Now))])]) rfl rfl (by kernel_rfl) (C_laws_eqNote w25 (.agg #[(.int .i64 ((F_impl_Made (cpB x_aKey) (cpB x_aIn)).Kind)), (.int .i64 ((F_impl_Made (cpB x_aKey) (cpB x_aIn)).Id)), (.int .i64 ((F_impl_Made (cpB x_aKey) (cpB x_aIn)).Role)), (.slice a226 ((F_impl_Made (cpB x_aKey) (cpB x_aIn)).Cn).length c227), (.slice a231 ((F_impl_Made (cpB x_aKey) (cpB x_aIn)).Sn).length c232), (.int .i64 ((F_impl_Made (cpB x_aKey) (cpB x_aIn)).Epoch)), (.int .i64 ((F_impl_Made (cpB x_aKey) (cpB x_aIn)).Seq)), (.slice a236 ((F_impl_Made (cpB x_aKey) (cpB x_aIn)).Body).length c237), (.slice a241 ((F_impl_Made (cpB x_aKey) (cpB x_aIn)).Key).length c242), (.int .i64 (((F_impl_Made (cpB x_aKey) (cpB x_aIn)).A).Host)), (.int .i64 (((F_impl_Made (cpB x_aKey) (cpB x_aIn)).A).Port)), (.int .i64 ((F_impl_Made (cpB x_aKey) (cpB x_aIn)).Now))]) (F_impl_Made (cpB x_aKey) (cpB x_aIn)) (show R_51 w25 (.agg #[(.int .i64 ((F_impl_Made (cpB x_aKey) (cpB x_aIn)).Kind)), (.int .i64 ((F_impl_Made (cpB x_aKey) (cpB x_aIn)).Id)), (.int .i64 ((F_impl_Made (cpB x_aKey) (cpB x_aIn)).Role)), (.slice a226 ((F_impl_Made (cpB x_aKey) (cpB x_aIn)).Cn).length c227), (.slice a231 ((F_impl_Made (cpB x_aKey) (cpB x_aIn)).Sn).length c232), (.int .i64 ((F_impl_Made (cpB x_aKey) (cpB x_aIn)).Epoch)), (.int .i64 ((F_impl_Made (cpB x_aKey) (cpB x_aIn)).Seq)), (.slice a236 ((F_impl_Made (cpB x_aKey) (cpB x_aIn)).Body).length c237), (.slice a241 ((F_impl_Made (cpB x_aKey) (cpB x_aIn)).Key).length c242), (.int .i64 (((F_impl_Made (cpB x_aKey) (cpB x_aIn)).A).Host)), (.int .i64 (((F_impl_Made (cpB x_aKey) (cpB x_aIn)).A).Port)), (.int .i64 ((F_impl_Made (cpB x_aKey) (cpB x_aIn)).Now))]) (F_impl_Made (cpB x_aKey) (cpB x_aIn)) from ⟨_, _, _, _, _, _, _, _, rfl, (Rd.of_own o259), s229, (Rd.of_own o260), s234, (Rd.of_own o261), s239, (Rd.of_own o262), s244⟩) (.agg #[(.int .i64 ((F_spec_Made (cpB x_aKey) (cpB x_aIn)).Kind)), (.int .i64 ((F_spec_Made (cpB x_aKey) (cpB x_aIn)).Id)), (.int .i64 ((F_spec_Made (cpB x_aKey) (cpB x_aIn)).Role)), (.slice a37 ((F_spec_Made (cpB x_aKey) (cpB x_aIn)).Cn).length c38), (.slice a42 ((F_spec_Made (cpB x_aKey) (cpB x_aIn)).Sn).length c43), (.int .i64 ((F_spec_Made (cpB x_aKey) (cpB x_aIn)).Epoch)), (.int .i64 ((F_spec_Made (cpB x_aKey) (cpB x_aIn)).Seq)), (.slice a47 ((F_spec_Made (cpB x_aKey) (cpB x_aIn)).Body).length c48), (.slice a52 ((F_spec_Made (cpB x_aKey) (cpB x_aIn)).Key).length c53), (.int .i64 (((F_spec_Made (cpB x_aKey) (cpB x_aIn)).A).Host)), (.int .i64 (((F_spec_Made (cpB x_aKey) (cpB x_aIn)).A).Port)), (.int .i64 ((F_spec_Made (cpB x_aKey) (cpB x_aIn)).Now))]) (F_spec_Made (cpB x_aKey) (cpB x_aIn)) (show R_51 w25 (.agg #[(.int .i64 ((F_spec_Made (cpB x_aKey) (cpB x_aIn)).Kind)), (.int .i64 ((F_spec_Made (cpB x_aKey) (cpB x_aIn)).Id)), (.int .i64 ((F_spec_Made (cpB x_aKey) (cpB x_aIn)).Role)), (.slice a37 ((F_spec_Made (cpB x_aKey) (cpB x_aIn)).Cn).length c38), (.slice a42 ((F_spec_Made (cpB x_aKey) (cpB x_aIn)).Sn).length c43), (.int .i64 ((F_spec_Made (cpB x_aKey) (cpB x_aIn)).Epoch)), (.int .i64 ((F_spec_Made (cpB x_aKey) (cpB x_aIn)).Seq)), (.slice a47 ((F_spec_Made (cpB x_aKey) (cpB x_aIn)).Body).length c48), (.slice a52 ((F_spec_Made (cpB x_aKey) (cpB x_aIn)).Key).length c53), (.int .i64 (((F_spec_Made (cpB x_aKey) (cpB x_aIn)).A).Host)), (.int .i64 (((F_spec_Made (cpB x_aKey) (cpB x_aIn)).A).Port)), (.int .i64 ((F_spec_Made (cpB x_aKey) (cpB x_aIn)).Now))]) (F_spec_Made (cpB x_aKey) (cpB x_aIn)) from ⟨_, _, _, _, _, _, _, _, rfl, r263, s40, r264, s45, r265, s50, r266, s55⟩)) ?_
                  rintro _ w26 ⟨k267, rfl⟩
                  have m268 := m257.extk k267
                  refine wl_pure (.bool (!(F_laws_eqNote (F_impl_Made (cpB x_aKey) (cpB x_aIn)) (F_spec_Made (cpB x_aKey) (cpB x_aIn))))) (want_none rfl) rfl rfl (by kernel_rfl) ?_
                  refine wl_nil ?_
                  refine wq_then ?_
                  refine wc_false (congrArg (fun b => Value.bool (!b)) h130) ?_
                  refine wc_skip ?_
                  refine wq_then ?_
                  refine wc_seq ?_
                  refine wc_region ?_
                  refine wl_mv (.int .i64 1) (want_none rfl) rfl rfl (.inr rfl) rfl ?_
                  refine wl_nil ?_
                  refine wq_then ?_
                  refine wc_seq ?_
                  refine wc_region ?_
                  have b269 := (((((((b198.kp k199).kp k208).kp k216).kp k225).kp k251).ch k254 (Nat.ne_of_lt (Nat.lt_of_lt_of_le p111 (Nat.le_trans (Nat.le_trans (Nat.le_trans (Nat.le_trans (Nat.le_trans (Nat.le_trans (Nat.le_trans (Nat.le_trans (Nat.le_trans (Nat.le_trans (Nat.le_trans (Nat.le_trans (Nat.le_trans (Nat.le_trans k115.size k128.size) k132.size) k141.size) k145.size) k154.size) k159.size) k164.size) k181.size) k192.size) k199.size) k208.size) k216.size) k225.size) p249)))).kp k267)
                  refine wl_loadN [(.int .i64 ((F_impl_Made (cpB x_aKey) (cpB x_aIn)).Kind)), (.int .i64 ((F_impl_Made (cpB x_aKey) (cpB x_aIn)).Id)), (.int .i64 ((F_impl_Made (cpB x_aKey) (cpB x_aIn)).Role)), (.slice a87 ((F_impl_Made (cpB x_aKey) (cpB x_aIn)).Cn).length c88), (.slice a92 ((F_impl_Made (cpB x_aKey) (cpB x_aIn)).Sn).length c93), (.int .i64 ((F_impl_Made (cpB x_aKey) (cpB x_aIn)).Epoch)), (.int .i64 ((F_impl_Made (cpB x_aKey) (cpB x_aIn)).Seq)), (.slice a97 ((F_impl_Made (cpB x_aKey) (cpB x_aIn)).Body).length c98), (.slice a102 ((F_impl_Made (cpB x_aKey) (cpB x_aIn)).Key).length c103), (.int .i64 (((F_impl_Made (cpB x_aKey) (cpB x_aIn)).A).Host)), (.int .i64 (((F_impl_Made (cpB x_aKey) (cpB x_aIn)).A).Port)), (.int .i64 ((F_impl_Made (cpB x_aKey) (cpB x_aIn)).Now))] (want_none rfl) rfl rfl rfl rfl isAgg_51 sizeOf_51 b269 rfl ?_
                  refine wl_mv (.int .i64 1) (want_none rfl) rfl rfl (.inl rfl) rfl ?_
                  have r270 := (((((((r193.kp k199).kp k208).kp k216).kp k225).kp k251).ch k254 (fun g hg hlt hk => by have h1 := (own_lt o89 g hg).2; have h2 := Nat.le_trans (Nat.le_trans (Nat.le_trans (Nat.le_trans (Nat.le_trans (Nat.le_trans (Nat.le_trans (Nat.le_trans (Nat.le_trans (Nat.le_trans (Nat.le_trans (Nat.le_trans (Nat.le_trans (Nat.le_trans (Nat.le_trans k112.size k115.size) k128.size) k132.size) k141.size) k145.size) k154.size) k159.size) k164.size) k181.size) k192.size) k199.size) k208.size) k216.size) k225.size) p249; omega)).kp k267)
                  have r271 := (((((((r194.kp k199).kp k208).kp k216).kp k225).kp k251).ch k254 (fun g hg hlt hk => by have h1 := (own_lt o94 g hg).2; have h2 := Nat.le_trans (Nat.le_trans (Nat.le_trans (Nat.le_trans (Nat.le_trans (Nat.le_trans (Nat.le_trans (Nat.le_trans (Nat.le_trans (Nat.le_trans (Nat.le_trans (Nat.le_trans (Nat.le_trans (Nat.le_trans (Nat.le_trans k112.size k115.size) k128.size) k132.size) k141.size) k145.size) k154.size) k159.size) k164.size) k181.size) k192.size) k199.size) k208.size) k216.size) k225.size) p249; omega)).kp k267)
                  have r272 := (((((((r195.kp k199).kp k208).kp k216).kp k225).kp k251).ch k254 (fun g hg hlt hk => by have h1 := (own_lt o99 g hg).2; have h2 := Nat.le_trans (Nat.le_trans (Nat.le_trans (Nat.le_trans (Nat.le_trans (Nat.le_trans (Nat.le_trans (Nat.le_trans (Nat.le_trans (Nat.le_trans (Nat.le_trans (Nat.le_trans (Nat.le_trans (Nat.le_trans (Nat.le_trans k112.size k115.size) k128.size) k132.size) k141.size) k145.size) k154.size) k159.size) k164.size) k181.size) k192.size) k199.size) k208.size) k216.size) k225.size) p249; omega)).kp k267)
                  have r273 := (((((((r196.kp k199).kp k208).kp k216).kp k225).kp k251).ch k254 (fun g hg hlt hk => by have h1 := (own_lt o104 g hg).2; have h2 := Nat.le_trans (Nat.le_trans (Nat.le_trans (Nat.le_trans (Nat.le_trans (Nat.le_trans (Nat.le_trans (Nat.le_trans (Nat.le_trans (Nat.le_trans (Nat.le_trans (Nat.le_trans (Nat.le_trans (Nat.le_trans (Nat.le_trans k112.size k115.size) k128.size) k132.size) k141.size) k145.size) k154.size) k159.size) k164.size) k181.size) k192.size) k199.size) k208.size) k216.size) k225.size) p249; omega)).kp k267)
                  refine wl_call (want_none rfl) (args := #[(.agg #[(.int .i64 ((F_impl_Made (cpB x_aKey) (cpB x_aIn)).Kind)), (.int .i64 ((F_impl_Made (cpB x_aKey) (cpB x_aIn)).Id)), (.int .i64 ((F_impl_Made (cpB x_aKey) (cpB x_aIn)).Role)), (.slice a87 ((F_impl_Made (cpB x_aKey) (cpB x_aIn)).Cn).length c88), (.slice a92 ((F_impl_Made (cpB x_aKey) (cpB x_aIn)).Sn).length c93), (.int .i64 ((F_impl_Made (cpB x_aKey) (cpB x_aIn)).Epoch)), (.int .i64 ((F_impl_Made (cpB x_aKey) (cpB x_aIn)).Seq)), (.slice a97 ((F_impl_Made (cpB x_aKey) (cpB x_aIn)).Body).length c98), (.slice a102 ((F_impl_Made (cpB x_aKey) (cpB x_aIn)).Key).length c103), (.int .i64 (((F_impl_Made (cpB x_aKey) (cpB x_aIn)).A).Host)), (.int .i64 (((F_impl_Made (cpB x_aKey) (cpB x_aIn)).A).Port)), (.int .i64 ((F_impl_Made (cpB x_aKey) (cpB x_aIn)).Now))]), (.int .i64 1)]) rfl rfl (by kernel_rfl) (C_laws_heldNote w26 (.agg #[(.int .i64 ((F_impl_Made (cpB x_aKey) (cpB x_aIn)).Kind)), (.int .i64 ((F_impl_Made (cpB x_aKey) (cpB x_aIn)).Id)), (.int .i64 ((F_impl_Made (cpB x_aKey) (cpB x_aIn)).Role)), (.slice a87 ((F_impl_Made (cpB x_aKey) (cpB x_aIn)).Cn).length c88), (.slice a92 ((F_impl_Made (cpB x_aKey) (cpB x_aIn)).Sn).length c93), (.int .i64 ((F_impl_Made (cpB x_aKey) (cpB x_aIn)).Epoch)), (.int .i64 ((F_impl_Made (cpB x_aKey) (cpB x_aIn)).Seq)), (.slice a97 ((F_impl_Made (cpB x_aKey) (cpB x_aIn)).Body).length c98), (.slice a102 ((F_impl_Made (cpB x_aKey) (cpB x_aIn)).Key).length c103), (.int .i64 (((F_impl_Made (cpB x_aKey) (cpB x_aIn)).A).Host)), (.int .i64 (((F_impl_Made (cpB x_aKey) (cpB x_aIn)).A).Port)), (.int .i64 ((F_impl_Made (cpB x_aKey) (cpB x_aIn)).Now))]) { Kind := (F_impl_Made (cpB x_aKey) (cpB x_aIn)).Kind, Id := (F_impl_Made (cpB x_aKey) (cpB x_aIn)).Id, Role := (F_impl_Made (cpB x_aKey) (cpB x_aIn)).Role, Cn := (marksB 1 ((F_impl_Made (cpB x_aKey) (cpB x_aIn)).Cn).length), Sn := (marksB (1 + (((F_impl_Made (cpB x_aKey) (cpB x_aIn)).Cn).length : Int)) ((F_impl_Made (cpB x_aKey) (cpB x_aIn)).Sn).length), Epoch := (F_impl_Made (cpB x_aKey) (cpB x_aIn)).Epoch, Seq := (F_impl_Made (cpB x_aKey) (cpB x_aIn)).Seq, Body := (marksB ((1 + (((F_impl_Made (cpB x_aKey) (cpB x_aIn)).Cn).length : Int)) + (((F_impl_Made (cpB x_aKey) (cpB x_aIn)).Sn).length : Int)) ((F_impl_Made (cpB x_aKey) (cpB x_aIn)).Body).length), Key := (marksB (((1 + (((F_impl_Made (cpB x_aKey) (cpB x_aIn)).Cn).length : Int)) + (((F_impl_Made (cpB x_aKey) (cpB x_aIn)).Sn).length : Int)) + (((F_impl_Made (cpB x_aKey) (cpB x_aIn)).Body).length : Int)) ((F_impl_Made (cpB x_aKey) (cpB x_aIn)).Key).length), A := ((F_impl_Made (cpB x_aKey) (cpB x_aIn)).A), Now := (F_impl_Made (cpB x_aKey) (cpB x_aIn)).Now : PNote } (show R_51 w26 (.agg #[(.int .i64 ((F_impl_Made (cpB x_aKey) (cpB x_aIn)).Kind)), (.int .i64 ((F_impl_Made (cpB x_aKey) (cpB x_aIn)).Id)), (.int .i64 ((F_impl_Made (cpB x_aKey) (cpB x_aIn)).Role)), (.slice a87 ((F_impl_Made (cpB x_aKey) (cpB x_aIn)).Cn).length c88), (.slice a92 ((F_impl_Made (cpB x_aKey) (cpB x_aIn)).Sn).length c93), (.int .i64 ((F_impl_Made (cpB x_aKey) (cpB x_aIn)).Epoch)), (.int .i64 ((F_impl_Made (cpB x_aKey) (cpB x_aIn)).Seq)), (.slice a97 ((F_impl_Made (cpB x_aKey) (cpB x_aIn)).Body).length c98), (.slice a102 ((F_impl_Made (cpB x_aKey) (cpB x_aIn)).Key).length c103), (.int .i64 (((F_impl_Made (cpB x_aKey) (cpB x_aIn)).A).Host)), (.int .i64 (((F_impl_Made (cpB x_aKey) (cpB x_aIn)).A).Port)), (.int .i64 ((F_impl_Made (cpB x_aKey) (cpB x_aIn)).Now))]) { Kind := (F_impl_Made (cpB x_aKey) (cpB x_aIn)).Kind, Id := (F_impl_Made (cpB x_aKey) (cpB x_aIn)).Id, Role := (F_impl_Made (cpB x_aKey) (cpB x_aIn)).Role, Cn := (marksB 1 ((F_impl_Made (cpB x_aKey) (cpB x_aIn)).Cn).length), Sn := (marksB (1 + (((F_impl_Made (cpB x_aKey) (cpB x_aIn)).Cn).length : Int)) ((F_impl_Made (cpB x_aKey) (cpB x_aIn)).Sn).length), Epoch := (F_impl_Made (cpB x_aKey) (cpB x_aIn)).Epoch, Seq := (F_impl_Made (cpB x_aKey) (cpB x_aIn)).Seq, Body := (marksB ((1 + (((F_impl_Made (cpB x_aKey) (cpB x_aIn)).Cn).length : Int)) + (((F_impl_Made (cpB x_aKey) (cpB x_aIn)).Sn).length : Int)) ((F_impl_Made (cpB x_aKey) (cpB x_aIn)).Body).length), Key := (marksB (((1 + (((F_impl_Made (cpB x_aKey) (cpB x_aIn)).Cn).length : Int)) + (((F_impl_Made (cpB x_aKey) (cpB x_aIn)).Sn).length : Int)) + (((F_impl_Made (cpB x_aKey) (cpB x_aIn)).Body).length : Int)) ((F_impl_Made (cpB x_aKey) (cpB x_aIn)).Key).length), A := ((F_impl_Made (cpB x_aKey) (cpB x_aIn)).A), Now := (F_impl_Made (cpB x_aKey) (cpB x_aIn)).Now : PNote } from ⟨a87, c88, a92, c93, a97, c98, a102, c103, by simp only [marksB_len, marksI_len], by simpa only [marksB_len, marksI_len] using r270, by simp only [marksB_len, marksI_len]; first | exact s90 | omega, by simpa only [marksB_len, marksI_len] using r271, by simp only [marksB_len, marksI_len]; first | exact s95 | omega, by simpa only [marksB_len, marksI_len] using r272, by simp only [marksB_len, marksI_len]; first | exact s100 | omega, by simpa only [marksB_len, marksI_len] using r273, by simp only [marksB_len, marksI_len]; first | exact s105 | omega⟩) 1 (by omega) (by omega)) ?_
                  rintro _ w27 ⟨k274, rfl⟩
                  have m275 := m268.extk k274
                  have q276 := laws_heldNote_le { Kind := (F_impl_Made (cpB x_aKey) (cpB x_aIn)).Kind, Id := (F_impl_Made (cpB x_aKey) (cpB x_aIn)).Id, Role := (F_impl_Made (cpB x_aKey) (cpB x_aIn)).Role, Cn := (marksB 1 ((F_impl_Made (cpB x_aKey) (cpB x_aIn)).Cn).length), Sn := (marksB (1 + (((F_impl_Made (cpB x_aKey) (cpB x_aIn)).Cn).length : Int)) ((F_impl_Made (cpB x_aKey) (cpB x_aIn)).Sn).length), Epoch := (F_impl_Made (cpB x_aKey) (cpB x_aIn)).Epoch, Seq := (F_impl_Made (cpB x_aKey) (cpB x_aIn)).Seq, Body := (marksB ((1 + (((F_impl_Made (cpB x_aKey) (cpB x_aIn)).Cn).length : Int)) + (((F_impl_Made (cpB x_aKey) (cpB x_aIn)).Sn).length : Int)) ((F_impl_Made (cpB x_aKey) (cpB x_aIn)).Body).length), Key := (marksB (((1 + (((F_impl_Made (cpB x_aKey) (cpB x_aIn)).Cn).length : Int)) + (((F_impl_Made (cpB x_aKey) (cpB x_aIn)).Sn).length : Int)) + (((F_impl_Made (cpB x_aKey) (cpB x_aIn)).Body).length : Int)) ((F_impl_Made (cpB x_aKey) (cpB x_aIn)).Key).length), A := ((F_impl_Made (cpB x_aKey) (cpB x_aIn)).A), Now := (F_impl_Made (cpB x_aKey) (cpB x_aIn)).Now : PNote } 1
                  refine wl_mv (.int .i64 (F_laws_heldNote { Kind := (F_impl_Made (cpB x_aKey) (cpB x_aIn)).Kind, Id := (F_impl_Made (cpB x_aKey) (cpB x_aIn)).Id, Role := (F_impl_Made (cpB x_aKey) (cpB x_aIn)).Role, Cn := (marksB 1 ((F_impl_Made (cpB x_aKey) (cpB x_aIn)).Cn).length), Sn := (marksB (1 + (((F_impl_Made (cpB x_aKey) (cpB x_aIn)).Cn).length : Int)) ((F_impl_Made (cpB x_aKey) (cpB x_aIn)).Sn).length), Epoch := (F_impl_Made (cpB x_aKey) (cpB x_aIn)).Epoch, Seq := (F_impl_Made (cpB x_aKey) (cpB x_aIn)).Seq, Body := (marksB ((1 + (((F_impl_Made (cpB x_aKey) (cpB x_aIn)).Cn).length : Int)) + (((F_impl_Made (cpB x_aKey) (cpB x_aIn)).Sn).length : Int)) ((F_impl_Made (cpB x_aKey) (cpB x_aIn)).Body).length), Key := (marksB (((1 + (((F_impl_Made (cpB x_aKey) (cpB x_aIn)).Cn).length : Int)) + (((F_impl_Made (cpB x_aKey) (cpB x_aIn)).Sn).length : Int)) + (((F_impl_Made (cpB x_aKey) (cpB x_aIn)).Body).length : Int)) ((F_impl_Made (cpB x_aKey) (cpB x_aIn)).Key).length), A := ((F_impl_Made (cpB x_aKey) (cpB x_aIn)).A), Now := (F_impl_Made (cpB x_aKey) (cpB x_aIn)).Now : PNote } 1)) (want_none rfl) rfl rfl (.inr rfl) rfl ?_
                  refine wl_nil ?_
                  refine wq_then ?_
                  refine wc_seq ?_
                  refine wc_seq ?_
                  refine wc_region ?_
                  refine wl_mv (.int .i64 (F_laws_heldNote { Kind := (F_impl_Made (cpB x_aKey) (cpB x_aIn)).Kind, Id := (F_impl_Made (cpB x_aKey) (cpB x_aIn)).Id, Role := (F_impl_Made (cpB x_aKey) (cpB x_aIn)).Role, Cn := (marksB 1 ((F_impl_Made (cpB x_aKey) (cpB x_aIn)).Cn).length), Sn := (marksB (1 + (((F_impl_Made (cpB x_aKey) (cpB x_aIn)).Cn).length : Int)) ((F_impl_Made (cpB x_aKey) (cpB x_aIn)).Sn).length), Epoch := (F_impl_Made (cpB x_aKey) (cpB x_aIn)).Epoch, Seq := (F_impl_Made (cpB x_aKey) (cpB x_aIn)).Seq, Body := (marksB ((1 + (((F_impl_Made (cpB x_aKey) (cpB x_aIn)).Cn).length : Int)) + (((F_impl_Made (cpB x_aKey) (cpB x_aIn)).Sn).length : Int)) ((F_impl_Made (cpB x_aKey) (cpB x_aIn)).Body).length), Key := (marksB (((1 + (((F_impl_Made (cpB x_aKey) (cpB x_aIn)).Cn).length : Int)) + (((F_impl_Made (cpB x_aKey) (cpB x_aIn)).Sn).length : Int)) + (((F_impl_Made (cpB x_aKey) (cpB x_aIn)).Body).length : Int)) ((F_impl_Made (cpB x_aKey) (cpB x_aIn)).Key).length), A := ((F_impl_Made (cpB x_aKey) (cpB x_aIn)).A), Now := (F_impl_Made (cpB x_aKey) (cpB x_aIn)).Now : PNote } 1)) (want_none rfl) rfl rfl (.inl rfl) rfl ?_
                  refine wl_pure (.bool (decide ((F_laws_heldNote { Kind := (F_impl_Made (cpB x_aKey) (cpB x_aIn)).Kind, Id := (F_impl_Made (cpB x_aKey) (cpB x_aIn)).Id, Role := (F_impl_Made (cpB x_aKey) (cpB x_aIn)).Role, Cn := (marksB 1 ((F_impl_Made (cpB x_aKey) (cpB x_aIn)).Cn).length), Sn := (marksB (1 + (((F_impl_Made (cpB x_aKey) (cpB x_aIn)).Cn).length : Int)) ((F_impl_Made (cpB x_aKey) (cpB x_aIn)).Sn).length), Epoch := (F_impl_Made (cpB x_aKey) (cpB x_aIn)).Epoch, Seq := (F_impl_Made (cpB x_aKey) (cpB x_aIn)).Seq, Body := (marksB ((1 + (((F_impl_Made (cpB x_aKey) (cpB x_aIn)).Cn).length : Int)) + (((F_impl_Made (cpB x_aKey) (cpB x_aIn)).Sn).length : Int)) ((F_impl_Made (cpB x_aKey) (cpB x_aIn)).Body).length), Key := (marksB (((1 + (((F_impl_Made (cpB x_aKey) (cpB x_aIn)).Cn).length : Int)) + (((F_impl_Made (cpB x_aKey) (cpB x_aIn)).Sn).length : Int)) + (((F_impl_Made (cpB x_aKey) (cpB x_aIn)).Body).length : Int)) ((F_impl_Made (cpB x_aKey) (cpB x_aIn)).Key).length), A := ((F_impl_Made (cpB x_aKey) (cpB x_aIn)).A), Now := (F_impl_Made (cpB x_aKey) (cpB x_aIn)).Now : PNote } 1) < 0))) (want_none rfl) rfl rfl (by kernel_rfl) ?_
                  refine wl_nil ?_
                  refine wq_then ?_
                  refine wc_false (congrArg Value.bool h202) ?_
                  refine wc_skip ?_
                  refine wq_then ?_
                  refine wc_seq ?_
                  refine wc_seq ?_
                  refine wc_region ?_
                  refine wl_mv (.int .i64 (F_laws_heldNote { Kind := (F_impl_Made (cpB x_aKey) (cpB x_aIn)).Kind, Id := (F_impl_Made (cpB x_aKey) (cpB x_aIn)).Id, Role := (F_impl_Made (cpB x_aKey) (cpB x_aIn)).Role, Cn := (marksB 1 ((F_impl_Made (cpB x_aKey) (cpB x_aIn)).Cn).length), Sn := (marksB (1 + (((F_impl_Made (cpB x_aKey) (cpB x_aIn)).Cn).length : Int)) ((F_impl_Made (cpB x_aKey) (cpB x_aIn)).Sn).length), Epoch := (F_impl_Made (cpB x_aKey) (cpB x_aIn)).Epoch, Seq := (F_impl_Made (cpB x_aKey) (cpB x_aIn)).Seq, Body := (marksB ((1 + (((F_impl_Made (cpB x_aKey) (cpB x_aIn)).Cn).length : Int)) + (((F_impl_Made (cpB x_aKey) (cpB x_aIn)).Sn).length : Int)) ((F_impl_Made (cpB x_aKey) (cpB x_aIn)).Body).length), Key := (marksB (((1 + (((F_impl_Made (cpB x_aKey) (cpB x_aIn)).Cn).length : Int)) + (((F_impl_Made (cpB x_aKey) (cpB x_aIn)).Sn).length : Int)) + (((F_impl_Made (cpB x_aKey) (cpB x_aIn)).Body).length : Int)) ((F_impl_Made (cpB x_aKey) (cpB x_aIn)).Key).length), A := ((F_impl_Made (cpB x_aKey) (cpB x_aIn)).A), Now := (F_impl_Made (cpB x_aKey) (cpB x_aIn)).Now : PNote } 1)) (want_none rfl) rfl rfl (.inl rfl) rfl ?_
                  refine wl_mv (.int .i64 ((((1 + (((F_impl_Made (cpB x_aKey) (cpB x_aIn)).Cn).length : Int)) + (((F_impl_Made (cpB x_aKey) (cpB x_aIn)).Sn).length : Int)) + (((F_impl_Made (cpB x_aKey) (cpB x_aIn)).Body).length : Int)) + (((F_impl_Made (cpB x_aKey) (cpB x_aIn)).Key).length : Int))) (want_none rfl) rfl rfl (.inl rfl) rfl ?_
                  refine wl_pure (.bool (!(decide ((F_laws_heldNote { Kind := (F_impl_Made (cpB x_aKey) (cpB x_aIn)).Kind, Id := (F_impl_Made (cpB x_aKey) (cpB x_aIn)).Id, Role := (F_impl_Made (cpB x_aKey) (cpB x_aIn)).Role, Cn := (marksB 1 ((F_impl_Made (cpB x_aKey) (cpB x_aIn)).Cn).length), Sn := (marksB (1 + (((F_impl_Made (cpB x_aKey) (cpB x_aIn)).Cn).length : Int)) ((F_impl_Made (cpB x_aKey) (cpB x_aIn)).Sn).length), Epoch := (F_impl_Made (cpB x_aKey) (cpB x_aIn)).Epoch, Seq := (F_impl_Made (cpB x_aKey) (cpB x_aIn)).Seq, Body := (marksB ((1 + (((F_impl_Made (cpB x_aKey) (cpB x_aIn)).Cn).length : Int)) + (((F_impl_Made (cpB x_aKey) (cpB x_aIn)).Sn).length : Int)) ((F_impl_Made (cpB x_aKey) (cpB x_aIn)).Body).length), Key := (marksB (((1 + (((F_impl_Made (cpB x_aKey) (cpB x_aIn)).Cn).length : Int)) + (((F_impl_Made (cpB x_aKey) (cpB x_aIn)).Sn).length : Int)) + (((F_impl_Made (cpB x_aKey) (cpB x_aIn)).Body).length : Int)) ((F_impl_Made (cpB x_aKey) (cpB x_aIn)).Key).length), A := ((F_impl_Made (cpB x_aKey) (cpB x_aIn)).A), Now := (F_impl_Made (cpB x_aKey) (cpB x_aIn)).Now : PNote } 1) = ((((1 + (((F_impl_Made (cpB x_aKey) (cpB x_aIn)).Cn).length : Int)) + (((F_impl_Made (cpB x_aKey) (cpB x_aIn)).Sn).length : Int)) + (((F_impl_Made (cpB x_aKey) (cpB x_aIn)).Body).length : Int)) + (((F_impl_Made (cpB x_aKey) (cpB x_aIn)).Key).length : Int)))))) (want_none rfl) rfl rfl (by kernel_rfl) ?_
                  refine wl_nil ?_
                  refine wq_then ?_
                  refine wc_false (congrArg (fun b => Value.bool (!b)) h206) ?_
                  refine wc_skip ?_
                  refine wq_then ?_
                  refine wc_seq ?_
                  refine wc_region ?_
                  refine wl_mv (.bool true) (want_none rfl) rfl rfl (.inr rfl) rfl ?_
                  refine wl_nil ?_
                  refine wq_then ?_
                  refine wc_ret ?_
                  refine ret_1 (.inl rfl) (.bool true) rfl rfl ?_
                  refine ⟨m275.keep0, ?_⟩
                  have hF277 : F_laws_FnExactMade x_aKey x_aIn = true := by simp only [F_laws_FnExactMade, h11, h15, h130, h143, h156, h167, h202, h206, cond_true, cond_false]
                  rw [hF277]
                  exact rfl
                · have q278 := of_decide_eq_false h206
                  refine wc_true (congrArg (fun b => Value.bool (!b)) h206) ?_
                  refine wc_seq ?_
                  refine wc_region ?_
                  refine wl_mv (.bool false) (want_none rfl) rfl rfl (.inr rfl) rfl ?_
                  refine wl_nil ?_
                  refine wq_then ?_
                  refine wc_ret ?_
                  refine wq_then_ret ?_
                  refine ret_1 (.inl rfl) (.bool false) rfl rfl ?_
                  refine ⟨m200.keep0, ?_⟩
                  have hF279 : F_laws_FnExactMade x_aKey x_aIn = false := by simp only [F_laws_FnExactMade, h11, h15, h130, h143, h156, h167, h202, h206, cond_true, cond_false]
                  rw [hF279]
                  exact rfl
          · skip
            refine wc_true (congrArg (fun b => Value.bool (!b)) h156) ?_
            refine wc_seq ?_
            refine wc_region ?_
            refine wl_mv (.bool false) (want_none rfl) rfl rfl (.inr rfl) rfl ?_
            refine wl_nil ?_
            refine wq_then ?_
            refine wc_ret ?_
            refine wq_then_ret ?_
            refine ret_1 (.inl rfl) (.bool false) rfl rfl ?_
            refine ⟨m155.keep0, ?_⟩
            have hF281 : F_laws_FnExactMade x_aKey x_aIn = false := by simp only [F_laws_FnExactMade, h11, h15, h130, h143, h156, cond_true, cond_false]
            rw [hF281]
            exact rfl
        · skip
          refine wc_true (congrArg (fun b => Value.bool (!b)) h143) ?_
          refine wc_seq ?_
          refine wc_region ?_
          refine wl_mv (.bool false) (want_none rfl) rfl rfl (.inr rfl) rfl ?_
          refine wl_nil ?_
          refine wq_then ?_
          refine wc_ret ?_
          refine wq_then_ret ?_
          refine ret_1 (.inl rfl) (.bool false) rfl rfl ?_
          refine ⟨m142.keep0, ?_⟩
          have hF283 : F_laws_FnExactMade x_aKey x_aIn = false := by simp only [F_laws_FnExactMade, h11, h15, h130, h143, cond_true, cond_false]
          rw [hF283]
          exact rfl
      · skip
        refine wc_true (congrArg (fun b => Value.bool (!b)) h130) ?_
        refine wc_seq ?_
        refine wc_region ?_
        refine wl_mv (.bool false) (want_none rfl) rfl rfl (.inr rfl) rfl ?_
        refine wl_nil ?_
        refine wq_then ?_
        refine wc_ret ?_
        refine wq_then_ret ?_
        refine ret_1 (.inl rfl) (.bool false) rfl rfl ?_
        refine ⟨m129.keep0, ?_⟩
        have hF285 : F_laws_FnExactMade x_aKey x_aIn = false := by simp only [F_laws_FnExactMade, h11, h15, h130, cond_true, cond_false]
        rw [hF285]
        exact rfl
end Go.Proofs.Ytacefhmlgneegaa.K
