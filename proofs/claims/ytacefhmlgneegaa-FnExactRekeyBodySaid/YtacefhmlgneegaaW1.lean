import Derived.Test.YtacefhmlgneegaaCore
import Derived.Test.YtacefhmlgneegaaProg
import Derived.Test.YtacefhmlgneegaaHeld
import Derived.Test.YtacefhmlgneegaaFun
namespace Go.Proofs.Ytacefhmlgneegaa.K
open Go.RowKit
set_option linter.unusedVariables false
set_option linter.unusedSimpArgs false
set_option maxRecDepth 100000
def O_4 (w : World) (lo : Nat) (v : Value) (x : (Bool)) : Prop := v = .bool x
def F_spec_l1In (x_x : Int) (x_least : Int) (x_most : Int) : (Bool) := bif (decide (x_least ≤ x_x)) then (decide (x_x ≤ x_most)) else (false)
theorem C_spec_l1In (w0 : World) (x_x : Int) (x_least : Int) (x_most : Int)  : Fn Try.prog 50 #[(.int .i64 x_x), (.int .i64 x_least), (.int .i64 x_most)] w0 (fun v w' => Keep w0 w' ∧ O_4 w' w0.heap.size v (F_spec_l1In x_x x_least x_most)) := by
  refine fn_of (n := 15) (l := [(.int .i64 x_x), (.int .i64 x_least), (.int .i64 x_most), undef, undef, undef, undef, undef, undef, undef, undef, undef, undef, undef, undef]) Try.func50 rfl rfl (by kernel_rfl) rfl ?_
  refine wc_seq ?_
  refine wc_region ?_
  refine wl_mv (.bool false) (want_none rfl) rfl rfl (.inr rfl) rfl ?_
  refine wl_nil ?_
  refine wq_then ?_
  refine wc_seq ?_
  refine wc_region ?_
  refine wl_mv (.int .i64 x_x) (want_none rfl) rfl rfl (.inl rfl) rfl ?_
  refine wl_mv (.int .i64 x_least) (want_none rfl) rfl rfl (.inl rfl) rfl ?_
  refine wl_pure (.bool (decide (x_least ≤ x_x))) (want_none rfl) rfl rfl (by kernel_rfl) ?_
  refine wl_mv (.bool (decide (x_least ≤ x_x))) (want_none rfl) rfl rfl (.inl rfl) rfl ?_
  rcases Bool.eq_false_or_eq_true (decide (x_least ≤ x_x)) with h1 | h1
  · have q2 := of_decide_eq_true h1
    refine wl_mv (.int .i64 x_x) (want_some rfl rfl rfl (congrArg Value.bool h1)) rfl rfl (.inl rfl) rfl ?_
    refine wl_mv (.int .i64 x_most) (want_some rfl rfl rfl (congrArg Value.bool h1)) rfl rfl (.inl rfl) rfl ?_
    refine wl_pure (.bool (decide (x_x ≤ x_most))) (want_some rfl rfl rfl (congrArg Value.bool h1)) rfl rfl (by kernel_rfl) ?_
    refine wl_pick_t (.bool (decide (x_x ≤ x_most))) (want_none rfl) rfl rfl rfl (congrArg Value.bool h1) rfl ?_
    refine wl_mv (.bool (decide (x_x ≤ x_most))) (want_none rfl) rfl rfl (.inr rfl) rfl ?_
    refine wl_nil ?_
    refine wq_then ?_
    refine wc_ret ?_
    refine ret_1 (.inl rfl) (.bool (decide (x_x ≤ x_most))) rfl rfl ?_
    refine ⟨Ch.refl _ _, ?_⟩
    have hF3 : F_spec_l1In x_x x_least x_most = decide (x_x ≤ x_most) := by simp only [F_spec_l1In, h1, cond_true, cond_false]
    rw [hF3]
    exact rfl
  · have q4 := of_decide_eq_false h1
    refine wl_skip rfl rfl rfl (congrArg Value.bool h1) rfl rfl rfl ?_
    refine wl_skip rfl rfl rfl (congrArg Value.bool h1) rfl rfl rfl ?_
    refine wl_skip rfl rfl rfl (congrArg Value.bool h1) rfl rfl rfl ?_
    refine wl_pick_f (.bool false) (want_none rfl) rfl rfl rfl (congrArg Value.bool h1) rfl ?_
    refine wl_mv (.bool false) (want_none rfl) rfl rfl (.inr rfl) rfl ?_
    refine wl_nil ?_
    refine wq_then ?_
    refine wc_ret ?_
    refine ret_1 (.inl rfl) (.bool false) rfl rfl ?_
    refine ⟨Ch.refl _ _, ?_⟩
    have hF5 : F_spec_l1In x_x x_least x_most = false := by simp only [F_spec_l1In, h1, cond_true, cond_false]
    rw [hF5]
    exact rfl
theorem spec_l1In_t {n a b : Int} (h : F_spec_l1In n a b = true) : a ≤ n ∧ n ≤ b := by
  unfold F_spec_l1In at h
  by_cases h1 : a ≤ n <;> simp [h1] at h
  exact ⟨h1, h⟩
theorem spec_l1In_f {n a b : Int} (h : F_spec_l1In n a b = false) : n < a ∨ b < n := by
  unfold F_spec_l1In at h
  by_cases h1 : a ≤ n <;> simp [h1] at h <;> omega

theorem slTy_61 : SlTy Try.prog 61 3 1 8 (.int .i64 0) := slTy Try.underlying61 (by kernel_rfl) rfl rfl
theorem isAgg_3 : ∀ w, (isAgg 3).run Try.prog w = .ok false w := fun w => by kernel_rfl
def O_3 (w : World) (lo : Nat) (v : Value) (x : (Int)) : Prop := v = .int .i64 x
def F_spec_SpanOf (x_n : Int) : (Int) := bif (F_spec_l1In x_n 1 5) then (([1, 3, 7, 15, 23].getD ((x_n - 1)).toNat 0)) else (0)
theorem C_spec_SpanOf (w0 : World) (x_n : Int)  : Fn Try.prog 15 #[(.int .i64 x_n)] w0 (fun v w' => Keep w0 w' ∧ O_3 w' w0.heap.size v (F_spec_SpanOf x_n)) := by
  refine fn_of (n := 13) (l := [(.int .i64 x_n), undef, undef, undef, undef, undef, undef, undef, undef, undef, undef, undef, undef]) Try.func15 rfl rfl (by kernel_rfl) rfl ?_
  refine wc_seq ?_
  refine wc_region ?_
  refine wl_mv (.int .i64 0) (want_none rfl) rfl rfl (.inr rfl) rfl ?_
  refine wl_nil ?_
  refine wq_then ?_
  refine wc_seq ?_
  refine wc_region ?_
  refine wl_lit [(.int .i64 1), (.int .i64 3), (.int .i64 7), (.int .i64 15), (.int .i64 23)] (want_none rfl) rfl rfl slTy_61 (m := 5) rfl (by simp only [maxLen]; omega) (fun w => by kernel_rfl) ?_
  intro u1 w1 k2 o3
  obtain ⟨a4, c5, rfl⟩ := own_form o3
  have m6 := (Ch.base w0).extk k2
  have o8 : w1.ownsRow w0.heap.size 3 1 (.slice a4 ([1, 3, 7, 15, 23] : List Int).length c5) ([1, 3, 7, 15, 23] : List Int).length (([1, 3, 7, 15, 23] : List Int).map iV) := o3
  refine wl_mv (.slice a4 ([1, 3, 7, 15, 23] : List Int).length c5) (want_none rfl) rfl rfl (.inr rfl) rfl ?_
  refine wl_nil ?_
  refine wq_then ?_
  refine wc_seq ?_
  refine wc_seq ?_
  refine wc_region ?_
  refine wl_mv (.int .i64 x_n) (want_none rfl) rfl rfl (.inl rfl) rfl ?_
  refine wl_call (want_none rfl) (args := #[(.int .i64 x_n), (.int .i64 1), (.int .i64 5)]) rfl rfl (by kernel_rfl) (C_spec_l1In w1 x_n 1 5) ?_
  rintro _ w2 ⟨k9, rfl⟩
  have m10 := m6.extk k9
  refine wl_pure (.bool (!(F_spec_l1In x_n 1 5))) (want_none rfl) rfl rfl (by kernel_rfl) ?_
  refine wl_nil ?_
  refine wq_then ?_
  rcases Bool.eq_false_or_eq_true (F_spec_l1In x_n 1 5) with h11 | h11
  · have q12 := spec_l1In_t h11
    refine wc_false (congrArg (fun b => Value.bool (!b)) h11) ?_
    refine wc_skip ?_
    refine wq_then ?_
    refine wc_seq ?_
    refine wc_region ?_
    refine wl_mv (.slice a4 ([1, 3, 7, 15, 23] : List Int).length c5) (want_none rfl) rfl rfl (.inl rfl) rfl ?_
    refine wl_mv (.int .i64 x_n) (want_none rfl) rfl rfl (.inl rfl) rfl ?_
    refine wl_arith (x_n - 1) (want_none rfl) rfl rfl (by kernel_rfl) (by omega) (by omega) ?_
    have o13 := (own_kp o8 k9)
    refine wl_index (want_none rfl) (x_n - 1) rfl rfl rfl slTy_61 rfl rfl (Rd.of_own o13) (by first | omega | (simp only [List.length_cons, List.length_nil, List.length_replicate, List.length_append, List.length_take, List.length_set, List.length_map]; omega)) (by first | omega | (simp only [List.length_cons, List.length_nil, List.length_replicate, List.length_append, List.length_take, List.length_set, List.length_map]; omega)) ?_
    refine wl_loadE (iV ([1, 3, 7, 15, 23].getD ((x_n - 1)).toNat 0)) (want_none rfl) rfl rfl rfl rfl isAgg_3 (Rd.of_own o13) (iget (by simp) (by first | omega | (simp only [List.length_cons, List.length_nil, List.length_replicate, List.length_append, List.length_take, List.length_set, List.length_map]; omega))) ?_
    refine wl_mv (.int .i64 ([1, 3, 7, 15, 23].getD ((x_n - 1)).toNat 0)) (want_none rfl) rfl rfl (.inr rfl) rfl ?_
    refine wl_nil ?_
    refine wq_then ?_
    refine wc_ret ?_
    refine ret_1 (.inl rfl) (.int .i64 ([1, 3, 7, 15, 23].getD ((x_n - 1)).toNat 0)) rfl rfl ?_
    refine ⟨m10.keep0, ?_⟩
    have hF14 : F_spec_SpanOf x_n = ([1, 3, 7, 15, 23].getD ((x_n - 1)).toNat 0) := by simp only [F_spec_SpanOf, h11, cond_true, cond_false]
    rw [hF14]
    exact rfl
  · have q15 := spec_l1In_f h11
    refine wc_true (congrArg (fun b => Value.bool (!b)) h11) ?_
    refine wc_seq ?_
    refine wc_region ?_
    refine wl_mv (.int .i64 0) (want_none rfl) rfl rfl (.inr rfl) rfl ?_
    refine wl_nil ?_
    refine wq_then ?_
    refine wc_ret ?_
    refine wq_then_ret ?_
    refine ret_1 (.inl rfl) (.int .i64 0) rfl rfl ?_
    refine ⟨m10.keep0, ?_⟩
    have hF16 : F_spec_SpanOf x_n = 0 := by simp only [F_spec_SpanOf, h11, cond_true, cond_false]
    rw [hF16]
    exact rfl

def F_impl_within (x_n : Int) (x_low : Int) (x_high : Int) : (Bool) := bif (decide (x_low ≤ x_n)) then (decide (x_n ≤ x_high)) else (false)
theorem C_impl_within (w0 : World) (x_n : Int) (x_low : Int) (x_high : Int)  : Fn Try.prog 51 #[(.int .i64 x_n), (.int .i64 x_low), (.int .i64 x_high)] w0 (fun v w' => Keep w0 w' ∧ O_4 w' w0.heap.size v (F_impl_within x_n x_low x_high)) := by
  refine fn_of (n := 15) (l := [(.int .i64 x_n), (.int .i64 x_low), (.int .i64 x_high), undef, undef, undef, undef, undef, undef, undef, undef, undef, undef, undef, undef]) Try.func51 rfl rfl (by kernel_rfl) rfl ?_
  refine wc_seq ?_
  refine wc_region ?_
  refine wl_mv (.bool false) (want_none rfl) rfl rfl (.inr rfl) rfl ?_
  refine wl_nil ?_
  refine wq_then ?_
  refine wc_seq ?_
  refine wc_region ?_
  refine wl_mv (.int .i64 x_n) (want_none rfl) rfl rfl (.inl rfl) rfl ?_
  refine wl_mv (.int .i64 x_low) (want_none rfl) rfl rfl (.inl rfl) rfl ?_
  refine wl_pure (.bool (decide (x_low ≤ x_n))) (want_none rfl) rfl rfl (by kernel_rfl) ?_
  refine wl_mv (.bool (decide (x_low ≤ x_n))) (want_none rfl) rfl rfl (.inl rfl) rfl ?_
  rcases Bool.eq_false_or_eq_true (decide (x_low ≤ x_n)) with h1 | h1
  · have q2 := of_decide_eq_true h1
    refine wl_mv (.int .i64 x_n) (want_some rfl rfl rfl (congrArg Value.bool h1)) rfl rfl (.inl rfl) rfl ?_
    refine wl_mv (.int .i64 x_high) (want_some rfl rfl rfl (congrArg Value.bool h1)) rfl rfl (.inl rfl) rfl ?_
    refine wl_pure (.bool (decide (x_n ≤ x_high))) (want_some rfl rfl rfl (congrArg Value.bool h1)) rfl rfl (by kernel_rfl) ?_
    refine wl_pick_t (.bool (decide (x_n ≤ x_high))) (want_none rfl) rfl rfl rfl (congrArg Value.bool h1) rfl ?_
    refine wl_mv (.bool (decide (x_n ≤ x_high))) (want_none rfl) rfl rfl (.inr rfl) rfl ?_
    refine wl_nil ?_
    refine wq_then ?_
    refine wc_ret ?_
    refine ret_1 (.inl rfl) (.bool (decide (x_n ≤ x_high))) rfl rfl ?_
    refine ⟨Ch.refl _ _, ?_⟩
    have hF3 : F_impl_within x_n x_low x_high = decide (x_n ≤ x_high) := by simp only [F_impl_within, h1, cond_true, cond_false]
    rw [hF3]
    exact rfl
  · have q4 := of_decide_eq_false h1
    refine wl_skip rfl rfl rfl (congrArg Value.bool h1) rfl rfl rfl ?_
    refine wl_skip rfl rfl rfl (congrArg Value.bool h1) rfl rfl rfl ?_
    refine wl_skip rfl rfl rfl (congrArg Value.bool h1) rfl rfl rfl ?_
    refine wl_pick_f (.bool false) (want_none rfl) rfl rfl rfl (congrArg Value.bool h1) rfl ?_
    refine wl_mv (.bool false) (want_none rfl) rfl rfl (.inr rfl) rfl ?_
    refine wl_nil ?_
    refine wq_then ?_
    refine wc_ret ?_
    refine ret_1 (.inl rfl) (.bool false) rfl rfl ?_
    refine ⟨Ch.refl _ _, ?_⟩
    have hF5 : F_impl_within x_n x_low x_high = false := by simp only [F_impl_within, h1, cond_true, cond_false]
    rw [hF5]
    exact rfl
theorem impl_within_t {n a b : Int} (h : F_impl_within n a b = true) : a ≤ n ∧ n ≤ b := by
  unfold F_impl_within at h
  by_cases h1 : a ≤ n <;> simp [h1] at h
  exact ⟨h1, h⟩
theorem impl_within_f {n a b : Int} (h : F_impl_within n a b = false) : n < a ∨ b < n := by
  unfold F_impl_within at h
  by_cases h1 : a ≤ n <;> simp [h1] at h <;> omega

def F_impl_SpanOf (x_n : Int) : (Int) := bif (F_impl_within x_n 1 5) then (([1, 3, 7, 15, 23].getD ((x_n - 1)).toNat 0)) else (0)
theorem C_impl_SpanOf (w0 : World) (x_n : Int)  : Fn Try.prog 16 #[(.int .i64 x_n)] w0 (fun v w' => Keep w0 w' ∧ O_3 w' w0.heap.size v (F_impl_SpanOf x_n)) := by
  refine fn_of (n := 11) (l := [(.int .i64 x_n), undef, undef, undef, undef, undef, undef, undef, undef, undef, undef]) Try.func16 rfl rfl (by kernel_rfl) rfl ?_
  refine wc_seq ?_
  refine wc_region ?_
  refine wl_mv (.int .i64 0) (want_none rfl) rfl rfl (.inr rfl) rfl ?_
  refine wl_nil ?_
  refine wq_then ?_
  refine wc_seq ?_
  refine wc_seq ?_
  refine wc_region ?_
  refine wl_mv (.int .i64 x_n) (want_none rfl) rfl rfl (.inl rfl) rfl ?_
  refine wl_call (want_none rfl) (args := #[(.int .i64 x_n), (.int .i64 1), (.int .i64 5)]) rfl rfl (by kernel_rfl) (C_impl_within w0 x_n 1 5) ?_
  rintro _ w1 ⟨k1, rfl⟩
  have m2 := (Ch.base w0).extk k1
  refine wl_pure (.bool (!(F_impl_within x_n 1 5))) (want_none rfl) rfl rfl (by kernel_rfl) ?_
  refine wl_nil ?_
  refine wq_then ?_
  rcases Bool.eq_false_or_eq_true (F_impl_within x_n 1 5) with h3 | h3
  · have q4 := impl_within_t h3
    refine wc_false (congrArg (fun b => Value.bool (!b)) h3) ?_
    refine wc_skip ?_
    refine wq_then ?_
    refine wc_seq ?_
    refine wc_region ?_
    refine wl_lit [(.int .i64 1), (.int .i64 3), (.int .i64 7), (.int .i64 15), (.int .i64 23)] (want_none rfl) rfl rfl slTy_61 (m := 5) rfl (by simp only [maxLen]; omega) (fun w => by kernel_rfl) ?_
    intro u5 w2 k6 o7
    obtain ⟨a8, c9, rfl⟩ := own_form o7
    have m10 := m2.extk k6
    have o12 : w2.ownsRow w1.heap.size 3 1 (.slice a8 ([1, 3, 7, 15, 23] : List Int).length c9) ([1, 3, 7, 15, 23] : List Int).length (([1, 3, 7, 15, 23] : List Int).map iV) := o7
    refine wl_mv (.int .i64 x_n) (want_none rfl) rfl rfl (.inl rfl) rfl ?_
    refine wl_arith (x_n - 1) (want_none rfl) rfl rfl (by kernel_rfl) (by omega) (by omega) ?_
    refine wl_index (want_none rfl) (x_n - 1) rfl rfl rfl slTy_61 rfl rfl (Rd.of_own o12) (by first | omega | (simp only [List.length_cons, List.length_nil, List.length_replicate, List.length_append, List.length_take, List.length_set, List.length_map]; omega)) (by first | omega | (simp only [List.length_cons, List.length_nil, List.length_replicate, List.length_append, List.length_take, List.length_set, List.length_map]; omega)) ?_
    refine wl_loadE (iV ([1, 3, 7, 15, 23].getD ((x_n - 1)).toNat 0)) (want_none rfl) rfl rfl rfl rfl isAgg_3 (Rd.of_own o12) (iget (by simp) (by first | omega | (simp only [List.length_cons, List.length_nil, List.length_replicate, List.length_append, List.length_take, List.length_set, List.length_map]; omega))) ?_
    refine wl_mv (.int .i64 ([1, 3, 7, 15, 23].getD ((x_n - 1)).toNat 0)) (want_none rfl) rfl rfl (.inr rfl) rfl ?_
    refine wl_nil ?_
    refine wq_then ?_
    refine wc_ret ?_
    refine ret_1 (.inl rfl) (.int .i64 ([1, 3, 7, 15, 23].getD ((x_n - 1)).toNat 0)) rfl rfl ?_
    refine ⟨m10.keep0, ?_⟩
    have hF13 : F_impl_SpanOf x_n = ([1, 3, 7, 15, 23].getD ((x_n - 1)).toNat 0) := by simp only [F_impl_SpanOf, h3, cond_true, cond_false]
    rw [hF13]
    exact rfl
  · have q14 := impl_within_f h3
    refine wc_true (congrArg (fun b => Value.bool (!b)) h3) ?_
    refine wc_seq ?_
    refine wc_region ?_
    refine wl_mv (.int .i64 0) (want_none rfl) rfl rfl (.inr rfl) rfl ?_
    refine wl_nil ?_
    refine wq_then ?_
    refine wc_ret ?_
    refine wq_then_ret ?_
    refine ret_1 (.inl rfl) (.int .i64 0) rfl rfl ?_
    refine ⟨m2.keep0, ?_⟩
    have hF15 : F_impl_SpanOf x_n = 0 := by simp only [F_impl_SpanOf, h3, cond_true, cond_false]
    rw [hF15]
    exact rfl

def F_laws_FnExactSpanOf (x_aN : Int) : (Bool) := bif (decide ((F_impl_SpanOf x_aN) = (F_spec_SpanOf x_aN))) then (true) else (false)
theorem C_laws_FnExactSpanOf (w0 : World) (x_aN : Int)  : Fn Try.prog 3 #[(.int .i64 x_aN)] w0 (fun v w' => Keep w0 w' ∧ O_4 w' w0.heap.size v (F_laws_FnExactSpanOf x_aN)) := by
  refine fn_of (n := 12) (l := [(.int .i64 x_aN), undef, undef, undef, undef, undef, undef, undef, undef, undef, undef, undef]) Try.func3 rfl rfl (by kernel_rfl) rfl ?_
  refine wc_seq ?_
  refine wc_region ?_
  refine wl_mv (.bool false) (want_none rfl) rfl rfl (.inr rfl) rfl ?_
  refine wl_nil ?_
  refine wq_then ?_
  refine wc_seq ?_
  refine wc_region ?_
  refine wl_mv (.int .i64 x_aN) (want_none rfl) rfl rfl (.inl rfl) rfl ?_
  refine wl_call (want_none rfl) (args := #[(.int .i64 x_aN)]) rfl rfl (by kernel_rfl) (C_spec_SpanOf w0 x_aN) ?_
  rintro _ w1 ⟨k1, rfl⟩
  have m2 := (Ch.base w0).extk k1
  refine wl_mv (.int .i64 (F_spec_SpanOf x_aN)) (want_none rfl) rfl rfl (.inr rfl) rfl ?_
  refine wl_nil ?_
  refine wq_then ?_
  refine wc_seq ?_
  refine wc_region ?_
  refine wl_mv (.int .i64 x_aN) (want_none rfl) rfl rfl (.inl rfl) rfl ?_
  refine wl_call (want_none rfl) (args := #[(.int .i64 x_aN)]) rfl rfl (by kernel_rfl) (C_impl_SpanOf w1 x_aN) ?_
  rintro _ w2 ⟨k3, rfl⟩
  have m4 := m2.extk k3
  refine wl_mv (.int .i64 (F_impl_SpanOf x_aN)) (want_none rfl) rfl rfl (.inr rfl) rfl ?_
  refine wl_nil ?_
  refine wq_then ?_
  refine wc_seq ?_
  refine wc_seq ?_
  refine wc_region ?_
  refine wl_mv (.int .i64 (F_impl_SpanOf x_aN)) (want_none rfl) rfl rfl (.inl rfl) rfl ?_
  refine wl_mv (.int .i64 (F_spec_SpanOf x_aN)) (want_none rfl) rfl rfl (.inl rfl) rfl ?_
  refine wl_pure (.bool (!(decide ((F_impl_SpanOf x_aN) = (F_spec_SpanOf x_aN))))) (want_none rfl) rfl rfl (by kernel_rfl) ?_
  refine wl_nil ?_
  refine wq_then ?_
  rcases Bool.eq_false_or_eq_true (decide ((F_impl_SpanOf x_aN) = (F_spec_SpanOf x_aN))) with h5 | h5
  · have q6 := of_decide_eq_true h5
    refine wc_false (congrArg (fun b => Value.bool (!b)) h5) ?_
    refine wc_skip ?_
    refine wq_then ?_
    refine wc_seq ?_
    refine wc_region ?_
    refine wl_mv (.bool true) (want_none rfl) rfl rfl (.inr rfl) rfl ?_
    refine wl_nil ?_
    refine wq_then ?_
    refine wc_ret ?_
    refine ret_1 (.inl rfl) (.bool true) rfl rfl ?_
    refine ⟨m4.keep0, ?_⟩
    have hF7 : F_laws_FnExactSpanOf x_aN = true := by simp only [F_laws_FnExactSpanOf, h5, cond_true, cond_false]
    rw [hF7]
    exact rfl
  · have q8 := of_decide_eq_false h5
    refine wc_true (congrArg (fun b => Value.bool (!b)) h5) ?_
    refine wc_seq ?_
    refine wc_region ?_
    refine wl_mv (.bool false) (want_none rfl) rfl rfl (.inr rfl) rfl ?_
    refine wl_nil ?_
    refine wq_then ?_
    refine wc_ret ?_
    refine wq_then_ret ?_
    refine ret_1 (.inl rfl) (.bool false) rfl rfl ?_
    refine ⟨m4.keep0, ?_⟩
    have hF9 : F_laws_FnExactSpanOf x_aN = false := by simp only [F_laws_FnExactSpanOf, h5, cond_true, cond_false]
    rw [hF9]
    exact rfl

theorem zero_28 : ∀ w, (zeroValue 28).run Try.prog w = .ok (.agg #[(.bool false), (.int .i64 0), (.int .i64 0), (.int .i64 0)]) w := fun w => by kernel_rfl
theorem isAgg_4 : ∀ w, (isAgg 4).run Try.prog w = .ok false w := fun w => by kernel_rfl
theorem sizeOf_4 : ∀ w, (sizeOf 4).run Try.prog w = .ok 1 w := fun w => by kernel_rfl
theorem sizeOf_3 : ∀ w, (sizeOf 3).run Try.prog w = .ok 1 w := fun w => by kernel_rfl
theorem isAgg_28 : ∀ w, (isAgg 28).run Try.prog w = .ok true w := fun w => by kernel_rfl
theorem sizeOf_28 : ∀ w, (sizeOf 28).run Try.prog w = .ok 4 w := fun w => by kernel_rfl
def O_9 (w : World) (lo : Nat) (v : Value) (x : (ByteArray)) : Prop := v = .string x
def R_26 (w : World) (v : Value) (x : (PTimer)) : Prop := v = .agg #[.bool x.On, .int .i64 x.Due, .int .i64 x.Wait, .int .i64 x.Tries]
def O_28 (w : World) (lo : Nat) (v : Value) (x : (PTimer)) : Prop := v = .agg #[.bool x.On, .int .i64 x.Due, .int .i64 x.Wait, .int .i64 x.Tries]
def F_laws_toTimer (x_a : PTimer) : (PTimer) := x_a
theorem C_laws_toTimer (w0 : World) (v_x_a : Value) (x_a : PTimer) (r_x_a : R_26 w0 v_x_a x_a)  : Fn Try.prog 20 #[v_x_a] w0 (fun v w' => Keep w0 w' ∧ O_28 w' w0.heap.size v (F_laws_toTimer x_a)) := by
  obtain rfl := r_x_a
  refine fn_of (n := 17) (l := [(.agg #[(.bool x_a.On), (.int .i64 x_a.Due), (.int .i64 x_a.Wait), (.int .i64 x_a.Tries)]), undef, undef, undef, undef, undef, undef, undef, undef, undef, undef, undef, undef, undef, undef, undef, undef]) Try.func20 rfl rfl (by kernel_rfl) rfl ?_
  refine wc_seq ?_
  refine wc_region ?_
  refine wl_box (want_none rfl) [(.bool x_a.On), (.int .i64 x_a.Due), (.int .i64 x_a.Wait), (.int .i64 x_a.Tries)] rfl rfl rfl rfl ?_
  intro g1 w1 p2 p3 k4 b5
  have m6 := (Ch.base w0).extk k4
  refine wl_alloc (want_none rfl) (.agg #[(.bool false), (.int .i64 0), (.int .i64 0), (.int .i64 0)]) [(.bool false), (.int .i64 0), (.int .i64 0), (.int .i64 0)] zero_28 rfl rfl rfl rfl ?_
  intro g7 w2 p8 p9 k10 b11
  have m12 := m6.extk k10
  refine wl_nil ?_
  refine wq_then ?_
  refine wc_seq ?_
  refine wc_region ?_
  refine wl_alloc (want_none rfl) (.agg #[(.bool false), (.int .i64 0), (.int .i64 0), (.int .i64 0)]) [(.bool false), (.int .i64 0), (.int .i64 0), (.int .i64 0)] zero_28 rfl rfl rfl rfl ?_
  intro g13 w3 p14 p15 k16 b17
  have m18 := m12.extk k16
  refine wl_nil ?_
  refine wq_then ?_
  refine wc_seq ?_
  refine wc_region ?_
  refine wl_pure (.pointer (some ⟨g1, 0, none⟩)) (want_none rfl) rfl rfl (by kernel_rfl) ?_
  have b19 := ((b5.kp k10).kp k16)
  refine wl_load1 (.bool x_a.On) (want_none rfl) rfl rfl rfl rfl isAgg_4 b19 rfl ?_
  refine wl_pure (.pointer (some ⟨g13, 0, none⟩)) (want_none rfl) rfl rfl (by kernel_rfl) ?_
  refine wl_store (.bool x_a.On) [(.bool x_a.On)] [(.bool x_a.On), (.int .i64 0), (.int .i64 0), (.int .i64 0)] (want_none rfl) rfl rfl rfl rfl rfl (one_cons rfl one_nil) sizeOf_4 b17 rfl rfl ?_
  intro w4 k20 b21 z22
  have m23 := m18.ext k20 (fun k hk => by subst hk; exact Nat.le_trans (Nat.le_trans k4.size k10.size) p14)
  refine wl_nil ?_
  refine wq_then ?_
  refine wc_seq ?_
  refine wc_region ?_
  refine wl_pure (.pointer (some ⟨g1, 1, none⟩)) (want_none rfl) rfl rfl (by kernel_rfl) ?_
  have b24 := (b19.ch k20 (Nat.ne_of_lt (Nat.lt_of_lt_of_le p3 (Nat.le_trans k10.size p14))))
  refine wl_load1 (.int .i64 x_a.Due) (want_none rfl) rfl rfl rfl rfl isAgg_3 b24 rfl ?_
  refine wl_pure (.pointer (some ⟨g13, 1, none⟩)) (want_none rfl) rfl rfl (by kernel_rfl) ?_
  refine wl_store (.int .i64 x_a.Due) [(.int .i64 x_a.Due)] [(.bool x_a.On), (.int .i64 x_a.Due), (.int .i64 0), (.int .i64 0)] (want_none rfl) rfl rfl rfl rfl rfl (one_cons rfl one_nil) sizeOf_3 b21 rfl rfl ?_
  intro w5 k25 b26 z27
  have m28 := m23.ext k25 (fun k hk => by subst hk; exact Nat.le_trans (Nat.le_trans k4.size k10.size) p14)
  refine wl_nil ?_
  refine wq_then ?_
  refine wc_seq ?_
  refine wc_region ?_
  refine wl_pure (.pointer (some ⟨g1, 2, none⟩)) (want_none rfl) rfl rfl (by kernel_rfl) ?_
  have b29 := (b24.ch k25 (Nat.ne_of_lt (Nat.lt_of_lt_of_le p3 (Nat.le_trans k10.size p14))))
  refine wl_load1 (.int .i64 x_a.Wait) (want_none rfl) rfl rfl rfl rfl isAgg_3 b29 rfl ?_
  refine wl_pure (.pointer (some ⟨g13, 2, none⟩)) (want_none rfl) rfl rfl (by kernel_rfl) ?_
  refine wl_store (.int .i64 x_a.Wait) [(.int .i64 x_a.Wait)] [(.bool x_a.On), (.int .i64 x_a.Due), (.int .i64 x_a.Wait), (.int .i64 0)] (want_none rfl) rfl rfl rfl rfl rfl (one_cons rfl one_nil) sizeOf_3 b26 rfl rfl ?_
  intro w6 k30 b31 z32
  have m33 := m28.ext k30 (fun k hk => by subst hk; exact Nat.le_trans (Nat.le_trans k4.size k10.size) p14)
  refine wl_nil ?_
  refine wq_then ?_
  refine wc_seq ?_
  refine wc_region ?_
  refine wl_pure (.pointer (some ⟨g1, 3, none⟩)) (want_none rfl) rfl rfl (by kernel_rfl) ?_
  have b34 := (b29.ch k30 (Nat.ne_of_lt (Nat.lt_of_lt_of_le p3 (Nat.le_trans k10.size p14))))
  refine wl_load1 (.int .i64 x_a.Tries) (want_none rfl) rfl rfl rfl rfl isAgg_3 b34 rfl ?_
  refine wl_pure (.pointer (some ⟨g13, 3, none⟩)) (want_none rfl) rfl rfl (by kernel_rfl) ?_
  refine wl_store (.int .i64 x_a.Tries) [(.int .i64 x_a.Tries)] [(.bool x_a.On), (.int .i64 x_a.Due), (.int .i64 x_a.Wait), (.int .i64 x_a.Tries)] (want_none rfl) rfl rfl rfl rfl rfl (one_cons rfl one_nil) sizeOf_3 b31 rfl rfl ?_
  intro w7 k35 b36 z37
  have m38 := m33.ext k35 (fun k hk => by subst hk; exact Nat.le_trans (Nat.le_trans k4.size k10.size) p14)
  refine wl_nil ?_
  refine wq_then ?_
  refine wc_seq ?_
  refine wc_region ?_
  refine wl_loadN [(.bool x_a.On), (.int .i64 x_a.Due), (.int .i64 x_a.Wait), (.int .i64 x_a.Tries)] (want_none rfl) rfl rfl rfl rfl isAgg_28 sizeOf_28 b36 rfl ?_
  have b39 := (((((b11.kp k16).ch k20 (Nat.ne_of_lt (Nat.lt_of_lt_of_le p9 (Nat.le_trans (Nat.le_refl _) p14)))).ch k25 (Nat.ne_of_lt (Nat.lt_of_lt_of_le p9 (Nat.le_trans (Nat.le_refl _) p14)))).ch k30 (Nat.ne_of_lt (Nat.lt_of_lt_of_le p9 (Nat.le_trans (Nat.le_refl _) p14)))).ch k35 (Nat.ne_of_lt (Nat.lt_of_lt_of_le p9 (Nat.le_trans (Nat.le_refl _) p14))))
  refine wl_store (.agg #[(.bool x_a.On), (.int .i64 x_a.Due), (.int .i64 x_a.Wait), (.int .i64 x_a.Tries)]) [(.bool x_a.On), (.int .i64 x_a.Due), (.int .i64 x_a.Wait), (.int .i64 x_a.Tries)] [(.bool x_a.On), (.int .i64 x_a.Due), (.int .i64 x_a.Wait), (.int .i64 x_a.Tries)] (want_none rfl) rfl rfl rfl rfl rfl (one_cons rfl (one_cons rfl (one_cons rfl (one_cons rfl one_nil)))) sizeOf_28 b39 rfl rfl ?_
  intro w8 k40 b41 z42
  have m43 := m38.ext k40 (fun k hk => by subst hk; exact Nat.le_trans k4.size p8)
  refine wl_nil ?_
  refine wq_then ?_
  refine wc_ret ?_
  refine ret_1 (.inl rfl) (.agg #[(.bool x_a.On), (.int .i64 x_a.Due), (.int .i64 x_a.Wait), (.int .i64 x_a.Tries)]) rfl (rv_c [(.bool x_a.On), (.int .i64 x_a.Due), (.int .i64 x_a.Wait), (.int .i64 x_a.Tries)] rfl b41 isAgg_28 sizeOf_28) ?_
  refine ⟨m43.keep0, ?_⟩
  have hF44 : F_laws_toTimer x_a = x_a := by rfl
  rw [hF44]
  exact rfl

theorem guardt_28 : Try.prog.eqGuardType Try.prog.depth 28 = false := by kernel_rfl
theorem aggeq_28 (x0 y0 : Bool) (x1 y1 : Int) (x2 y2 : Int) (x3 y3 : Int) (w : World) : (Op.equalIn 10000 28 (.agg #[.bool x0, .int .i64 x1, .int .i64 x2, .int .i64 x3]) (.agg #[.bool y0, .int .i64 y1, .int .i64 y2, .int .i64 y3])).run Try.prog w = .ok (((x0 == y0) && (decide (x1 = y1) && (decide (x2 = y2) && decide (x3 = y3))))) w := by
  rw [run_equalIn_struct w 9999 28 _ _ (by kernel_rfl) (by kernel_rfl)]
  simp [Program.fieldsOf, Op.eqFields, go_sem, Try.underlying3, Try.underlying4, Try.underlying28]
  by_cases h0 : x0 = y0 <;> by_cases h1 : x1 = y1 <;> by_cases h2 : x2 = y2 <;> by_cases h3 : x3 = y3 <;> simp [*]
def R_28 (w : World) (v : Value) (x : (PTimer)) : Prop := v = .agg #[.bool x.On, .int .i64 x.Due, .int .i64 x.Wait, .int .i64 x.Tries]
def F_spec_TimerOk (x_t : PTimer) : (Bool) := bif x_t.On then (bif (F_spec_l1In x_t.Due 0 1000008) then (bif (decide (x_t.Wait = 1)) then ((F_spec_l1In x_t.Tries 1 5)) else (bif (decide (x_t.Wait = 2)) then ((F_spec_l1In x_t.Tries 1 5)) else (bif (decide (x_t.Wait = 4)) then ((F_spec_l1In x_t.Tries 1 5)) else (bif (decide (x_t.Wait = 8)) then ((F_spec_l1In x_t.Tries 1 5)) else (false))))) else (false)) else (((x_t.On == false) && (decide (x_t.Due = 0) && (decide (x_t.Wait = 0) && decide (x_t.Tries = 0)))))
theorem C_spec_TimerOk (w0 : World) (v_x_t : Value) (x_t : PTimer) (r_x_t : R_28 w0 v_x_t x_t)  : Fn Try.prog 19 #[v_x_t] w0 (fun v w' => Keep w0 w' ∧ O_4 w' w0.heap.size v (F_spec_TimerOk x_t)) := by
  obtain rfl := r_x_t
  refine fn_of (n := 37) (l := [(.agg #[(.bool x_t.On), (.int .i64 x_t.Due), (.int .i64 x_t.Wait), (.int .i64 x_t.Tries)]), undef, undef, undef, undef, undef, undef, undef, undef, undef, undef, undef, undef, undef, undef, undef, undef, undef, undef, undef, undef, undef, undef, undef, undef, undef, undef, undef, undef, undef, undef, undef, undef, undef, undef, undef, undef]) Try.func19 rfl rfl (by kernel_rfl) rfl ?_
  refine wc_seq ?_
  refine wc_region ?_
  refine wl_box (want_none rfl) [(.bool x_t.On), (.int .i64 x_t.Due), (.int .i64 x_t.Wait), (.int .i64 x_t.Tries)] rfl rfl rfl rfl ?_
  intro g1 w1 p2 p3 k4 b5
  have m6 := (Ch.base w0).extk k4
  refine wl_mv (.bool false) (want_none rfl) rfl rfl (.inr rfl) rfl ?_
  refine wl_nil ?_
  refine wq_then ?_
  refine wc_seq ?_
  refine wc_seq ?_
  refine wc_region ?_
  refine wl_pure (.pointer (some ⟨g1, 0, none⟩)) (want_none rfl) rfl rfl (by kernel_rfl) ?_
  refine wl_load1 (.bool x_t.On) (want_none rfl) rfl rfl rfl rfl isAgg_4 b5 rfl ?_
  refine wl_pure (.bool (!x_t.On)) (want_none rfl) rfl rfl (by kernel_rfl) ?_
  refine wl_nil ?_
  refine wq_then ?_
  rcases Bool.eq_false_or_eq_true x_t.On with h7 | h7
  · skip
    refine wc_false (congrArg (fun b => Value.bool (!b)) h7) ?_
    refine wc_skip ?_
    refine wq_then ?_
    refine wc_seq ?_
    refine wc_region ?_
    refine wl_pure (.pointer (some ⟨g1, 1, none⟩)) (want_none rfl) rfl rfl (by kernel_rfl) ?_
    refine wl_load1 (.int .i64 x_t.Due) (want_none rfl) rfl rfl rfl rfl isAgg_3 b5 rfl ?_
    refine wl_call (want_none rfl) (args := #[(.int .i64 x_t.Due), (.int .i64 0), (.int .i64 1000008)]) rfl rfl (by kernel_rfl) (C_spec_l1In w1 x_t.Due 0 1000008) ?_
    rintro _ w2 ⟨k9, rfl⟩
    have m10 := m6.extk k9
    refine wl_mv (.bool (F_spec_l1In x_t.Due 0 1000008)) (want_none rfl) rfl rfl (.inl rfl) rfl ?_
    rcases Bool.eq_false_or_eq_true (F_spec_l1In x_t.Due 0 1000008) with h11 | h11
    · have q12 := spec_l1In_t h11
      refine wl_pure (.pointer (some ⟨g1, 2, none⟩)) (want_some rfl rfl rfl (congrArg Value.bool h11)) rfl rfl (by kernel_rfl) ?_
      have b13 := (b5.kp k9)
      refine wl_load1 (.int .i64 x_t.Wait) (want_some rfl rfl rfl (congrArg Value.bool h11)) rfl rfl rfl rfl isAgg_3 b13 rfl ?_
      refine wl_pure (.bool (decide (x_t.Wait = 1))) (want_some rfl rfl rfl (congrArg Value.bool h11)) rfl rfl (by kernel_rfl) ?_
      refine wl_mv (.bool (decide (x_t.Wait = 1))) (want_some rfl rfl rfl (congrArg Value.bool h11)) rfl rfl (.inl rfl) rfl ?_
      rcases Bool.eq_false_or_eq_true (decide (x_t.Wait = 1)) with h14 | h14
      · have q15 := of_decide_eq_true h14
        refine wl_skip rfl rfl rfl (congrArg Value.bool h14) rfl rfl rfl ?_
        refine wl_skip rfl rfl rfl (congrArg Value.bool h14) rfl rfl rfl ?_
        refine wl_skip rfl rfl rfl (congrArg Value.bool h14) rfl rfl rfl ?_
        refine wl_pick_t (.bool true) (want_some rfl rfl rfl (congrArg Value.bool h11)) rfl rfl rfl (congrArg Value.bool h14) rfl ?_
        refine wl_mv (.bool true) (want_some rfl rfl rfl (congrArg Value.bool h11)) rfl rfl (.inl rfl) rfl ?_
        refine wl_skip rfl rfl rfl rfl rfl rfl rfl ?_
        refine wl_skip rfl rfl rfl rfl rfl rfl rfl ?_
        refine wl_skip rfl rfl rfl rfl rfl rfl rfl ?_
        refine wl_pick_t (.bool true) (want_some rfl rfl rfl (congrArg Value.bool h11)) rfl rfl rfl rfl rfl ?_
        refine wl_mv (.bool true) (want_some rfl rfl rfl (congrArg Value.bool h11)) rfl rfl (.inl rfl) rfl ?_
        refine wl_skip rfl rfl rfl rfl rfl rfl rfl ?_
        refine wl_skip rfl rfl rfl rfl rfl rfl rfl ?_
        refine wl_skip rfl rfl rfl rfl rfl rfl rfl ?_
        refine wl_pick_t (.bool true) (want_some rfl rfl rfl (congrArg Value.bool h11)) rfl rfl rfl rfl rfl ?_
        refine wl_pick_t (.bool true) (want_none rfl) rfl rfl rfl (congrArg Value.bool h11) rfl ?_
        refine wl_mv (.bool true) (want_none rfl) rfl rfl (.inl rfl) rfl ?_
        refine wl_pure (.pointer (some ⟨g1, 3, none⟩)) (want_some rfl rfl rfl rfl) rfl rfl (by kernel_rfl) ?_
        refine wl_load1 (.int .i64 x_t.Tries) (want_some rfl rfl rfl rfl) rfl rfl rfl rfl isAgg_3 b13 rfl ?_
        refine wl_call (want_some rfl rfl rfl rfl) (args := #[(.int .i64 x_t.Tries), (.int .i64 1), (.int .i64 5)]) rfl rfl (by kernel_rfl) (C_spec_l1In w2 x_t.Tries 1 5) ?_
        rintro _ w3 ⟨k16, rfl⟩
        have m17 := m10.extk k16
        refine wl_pick_t (.bool (F_spec_l1In x_t.Tries 1 5)) (want_none rfl) rfl rfl rfl rfl rfl ?_
        refine wl_mv (.bool (F_spec_l1In x_t.Tries 1 5)) (want_none rfl) rfl rfl (.inr rfl) rfl ?_
        refine wl_nil ?_
        refine wq_then ?_
        refine wc_ret ?_
        refine ret_1 (.inl rfl) (.bool (F_spec_l1In x_t.Tries 1 5)) rfl rfl ?_
        refine ⟨m17.keep0, ?_⟩
        have hF18 : F_spec_TimerOk x_t = (F_spec_l1In x_t.Tries 1 5) := by simp only [F_spec_TimerOk, h7, h11, h14, cond_true, cond_false]
        rw [hF18]
        exact rfl
      · have q19 := of_decide_eq_false h14
        refine wl_pure (.pointer (some ⟨g1, 2, none⟩)) (want_some rfl rfl rfl (congrArg Value.bool h14)) rfl rfl (by kernel_rfl) ?_
        refine wl_load1 (.int .i64 x_t.Wait) (want_some rfl rfl rfl (congrArg Value.bool h14)) rfl rfl rfl rfl isAgg_3 b13 rfl ?_
        refine wl_pure (.bool (decide (x_t.Wait = 2))) (want_some rfl rfl rfl (congrArg Value.bool h14)) rfl rfl (by kernel_rfl) ?_
        refine wl_pick_f (.bool (decide (x_t.Wait = 2))) (want_some rfl rfl rfl (congrArg Value.bool h11)) rfl rfl rfl (congrArg Value.bool h14) rfl ?_
        refine wl_mv (.bool (decide (x_t.Wait = 2))) (want_some rfl rfl rfl (congrArg Value.bool h11)) rfl rfl (.inl rfl) rfl ?_
        rcases Bool.eq_false_or_eq_true (decide (x_t.Wait = 2)) with h20 | h20
        · have q21 := of_decide_eq_true h20
          refine wl_skip rfl rfl rfl (congrArg Value.bool h20) rfl rfl rfl ?_
          refine wl_skip rfl rfl rfl (congrArg Value.bool h20) rfl rfl rfl ?_
          refine wl_skip rfl rfl rfl (congrArg Value.bool h20) rfl rfl rfl ?_
          refine wl_pick_t (.bool true) (want_some rfl rfl rfl (congrArg Value.bool h11)) rfl rfl rfl (congrArg Value.bool h20) rfl ?_
          refine wl_mv (.bool true) (want_some rfl rfl rfl (congrArg Value.bool h11)) rfl rfl (.inl rfl) rfl ?_
          refine wl_skip rfl rfl rfl rfl rfl rfl rfl ?_
          refine wl_skip rfl rfl rfl rfl rfl rfl rfl ?_
          refine wl_skip rfl rfl rfl rfl rfl rfl rfl ?_
          refine wl_pick_t (.bool true) (want_some rfl rfl rfl (congrArg Value.bool h11)) rfl rfl rfl rfl rfl ?_
          refine wl_pick_t (.bool true) (want_none rfl) rfl rfl rfl (congrArg Value.bool h11) rfl ?_
          refine wl_mv (.bool true) (want_none rfl) rfl rfl (.inl rfl) rfl ?_
          refine wl_pure (.pointer (some ⟨g1, 3, none⟩)) (want_some rfl rfl rfl rfl) rfl rfl (by kernel_rfl) ?_
          refine wl_load1 (.int .i64 x_t.Tries) (want_some rfl rfl rfl rfl) rfl rfl rfl rfl isAgg_3 b13 rfl ?_
          refine wl_call (want_some rfl rfl rfl rfl) (args := #[(.int .i64 x_t.Tries), (.int .i64 1), (.int .i64 5)]) rfl rfl (by kernel_rfl) (C_spec_l1In w2 x_t.Tries 1 5) ?_
          rintro _ w3 ⟨k22, rfl⟩
          have m23 := m10.extk k22
          refine wl_pick_t (.bool (F_spec_l1In x_t.Tries 1 5)) (want_none rfl) rfl rfl rfl rfl rfl ?_
          refine wl_mv (.bool (F_spec_l1In x_t.Tries 1 5)) (want_none rfl) rfl rfl (.inr rfl) rfl ?_
          refine wl_nil ?_
          refine wq_then ?_
          refine wc_ret ?_
          refine ret_1 (.inl rfl) (.bool (F_spec_l1In x_t.Tries 1 5)) rfl rfl ?_
          refine ⟨m23.keep0, ?_⟩
          have hF24 : F_spec_TimerOk x_t = (F_spec_l1In x_t.Tries 1 5) := by simp only [F_spec_TimerOk, h7, h11, h14, h20, cond_true, cond_false]
          rw [hF24]
          exact rfl
        · have q25 := of_decide_eq_false h20
          refine wl_pure (.pointer (some ⟨g1, 2, none⟩)) (want_some rfl rfl rfl (congrArg Value.bool h20)) rfl rfl (by kernel_rfl) ?_
          refine wl_load1 (.int .i64 x_t.Wait) (want_some rfl rfl rfl (congrArg Value.bool h20)) rfl rfl rfl rfl isAgg_3 b13 rfl ?_
          refine wl_pure (.bool (decide (x_t.Wait = 4))) (want_some rfl rfl rfl (congrArg Value.bool h20)) rfl rfl (by kernel_rfl) ?_
          refine wl_pick_f (.bool (decide (x_t.Wait = 4))) (want_some rfl rfl rfl (congrArg Value.bool h11)) rfl rfl rfl (congrArg Value.bool h20) rfl ?_
          refine wl_mv (.bool (decide (x_t.Wait = 4))) (want_some rfl rfl rfl (congrArg Value.bool h11)) rfl rfl (.inl rfl) rfl ?_
          rcases Bool.eq_false_or_eq_true (decide (x_t.Wait = 4)) with h26 | h26
          · have q27 := of_decide_eq_true h26
            refine wl_skip rfl rfl rfl (congrArg Value.bool h26) rfl rfl rfl ?_
            refine wl_skip rfl rfl rfl (congrArg Value.bool h26) rfl rfl rfl ?_
            refine wl_skip rfl rfl rfl (congrArg Value.bool h26) rfl rfl rfl ?_
            refine wl_pick_t (.bool true) (want_some rfl rfl rfl (congrArg Value.bool h11)) rfl rfl rfl (congrArg Value.bool h26) rfl ?_
            refine wl_pick_t (.bool true) (want_none rfl) rfl rfl rfl (congrArg Value.bool h11) rfl ?_
            refine wl_mv (.bool true) (want_none rfl) rfl rfl (.inl rfl) rfl ?_
            refine wl_pure (.pointer (some ⟨g1, 3, none⟩)) (want_some rfl rfl rfl rfl) rfl rfl (by kernel_rfl) ?_
            refine wl_load1 (.int .i64 x_t.Tries) (want_some rfl rfl rfl rfl) rfl rfl rfl rfl isAgg_3 b13 rfl ?_
            refine wl_call (want_some rfl rfl rfl rfl) (args := #[(.int .i64 x_t.Tries), (.int .i64 1), (.int .i64 5)]) rfl rfl (by kernel_rfl) (C_spec_l1In w2 x_t.Tries 1 5) ?_
            rintro _ w3 ⟨k28, rfl⟩
            have m29 := m10.extk k28
            refine wl_pick_t (.bool (F_spec_l1In x_t.Tries 1 5)) (want_none rfl) rfl rfl rfl rfl rfl ?_
            refine wl_mv (.bool (F_spec_l1In x_t.Tries 1 5)) (want_none rfl) rfl rfl (.inr rfl) rfl ?_
            refine wl_nil ?_
            refine wq_then ?_
            refine wc_ret ?_
            refine ret_1 (.inl rfl) (.bool (F_spec_l1In x_t.Tries 1 5)) rfl rfl ?_
            refine ⟨m29.keep0, ?_⟩
            have hF30 : F_spec_TimerOk x_t = (F_spec_l1In x_t.Tries 1 5) := by simp only [F_spec_TimerOk, h7, h11, h14, h20, h26, cond_true, cond_false]
            rw [hF30]
            exact rfl
          · have q31 := of_decide_eq_false h26
            refine wl_pure (.pointer (some ⟨g1, 2, none⟩)) (want_some rfl rfl rfl (congrArg Value.bool h26)) rfl rfl (by kernel_rfl) ?_
            refine wl_load1 (.int .i64 x_t.Wait) (want_some rfl rfl rfl (congrArg Value.bool h26)) rfl rfl rfl rfl isAgg_3 b13 rfl ?_
            refine wl_pure (.bool (decide (x_t.Wait = 8))) (want_some rfl rfl rfl (congrArg Value.bool h26)) rfl rfl (by kernel_rfl) ?_
            refine wl_pick_f (.bool (decide (x_t.Wait = 8))) (want_some rfl rfl rfl (congrArg Value.bool h11)) rfl rfl rfl (congrArg Value.bool h26) rfl ?_
            refine wl_pick_t (.bool (decide (x_t.Wait = 8))) (want_none rfl) rfl rfl rfl (congrArg Value.bool h11) rfl ?_
            refine wl_mv (.bool (decide (x_t.Wait = 8))) (want_none rfl) rfl rfl (.inl rfl) rfl ?_
            rcases Bool.eq_false_or_eq_true (decide (x_t.Wait = 8)) with h32 | h32
            · have q33 := of_decide_eq_true h32
              refine wl_pure (.pointer (some ⟨g1, 3, none⟩)) (want_some rfl rfl rfl (congrArg Value.bool h32)) rfl rfl (by kernel_rfl) ?_
              refine wl_load1 (.int .i64 x_t.Tries) (want_some rfl rfl rfl (congrArg Value.bool h32)) rfl rfl rfl rfl isAgg_3 b13 rfl ?_
              refine wl_call (want_some rfl rfl rfl (congrArg Value.bool h32)) (args := #[(.int .i64 x_t.Tries), (.int .i64 1), (.int .i64 5)]) rfl rfl (by kernel_rfl) (C_spec_l1In w2 x_t.Tries 1 5) ?_
              rintro _ w3 ⟨k34, rfl⟩
              have m35 := m10.extk k34
              refine wl_pick_t (.bool (F_spec_l1In x_t.Tries 1 5)) (want_none rfl) rfl rfl rfl (congrArg Value.bool h32) rfl ?_
              refine wl_mv (.bool (F_spec_l1In x_t.Tries 1 5)) (want_none rfl) rfl rfl (.inr rfl) rfl ?_
              refine wl_nil ?_
              refine wq_then ?_
              refine wc_ret ?_
              refine ret_1 (.inl rfl) (.bool (F_spec_l1In x_t.Tries 1 5)) rfl rfl ?_
              refine ⟨m35.keep0, ?_⟩
              have hF36 : F_spec_TimerOk x_t = (F_spec_l1In x_t.Tries 1 5) := by simp only [F_spec_TimerOk, h7, h11, h14, h20, h26, h32, cond_true, cond_false]
              rw [hF36]
              exact rfl
            · have q37 := of_decide_eq_false h32
              refine wl_skip rfl rfl rfl (congrArg Value.bool h32) rfl rfl rfl ?_
              refine wl_skip rfl rfl rfl (congrArg Value.bool h32) rfl rfl rfl ?_
              refine wl_skip rfl rfl rfl (congrArg Value.bool h32) rfl rfl rfl ?_
              refine wl_pick_f (.bool false) (want_none rfl) rfl rfl rfl (congrArg Value.bool h32) rfl ?_
              refine wl_mv (.bool false) (want_none rfl) rfl rfl (.inr rfl) rfl ?_
              refine wl_nil ?_
              refine wq_then ?_
              refine wc_ret ?_
              refine ret_1 (.inl rfl) (.bool false) rfl rfl ?_
              refine ⟨m10.keep0, ?_⟩
              have hF38 : F_spec_TimerOk x_t = false := by simp only [F_spec_TimerOk, h7, h11, h14, h20, h26, h32, cond_true, cond_false]
              rw [hF38]
              exact rfl
    · have q39 := spec_l1In_f h11
      refine wl_skip rfl rfl rfl (congrArg Value.bool h11) rfl rfl rfl ?_
      refine wl_skip rfl rfl rfl (congrArg Value.bool h11) rfl rfl rfl ?_
      refine wl_skip rfl rfl rfl (congrArg Value.bool h11) rfl rfl rfl ?_
      refine wl_skip rfl rfl rfl (congrArg Value.bool h11) rfl rfl rfl ?_
      refine wl_skipu rfl rfl rfl rfl rfl ?_
      refine wl_skipu rfl rfl rfl rfl rfl ?_
      refine wl_skipu rfl rfl rfl rfl rfl ?_
      refine wl_skip rfl rfl rfl (congrArg Value.bool h11) rfl rfl rfl ?_
      refine wl_skip rfl rfl rfl (congrArg Value.bool h11) rfl rfl rfl ?_
      refine wl_skipu rfl rfl rfl rfl rfl ?_
      refine wl_skipu rfl rfl rfl rfl rfl ?_
      refine wl_skipu rfl rfl rfl rfl rfl ?_
      refine wl_skip rfl rfl rfl (congrArg Value.bool h11) rfl rfl rfl ?_
      refine wl_skip rfl rfl rfl (congrArg Value.bool h11) rfl rfl rfl ?_
      refine wl_skipu rfl rfl rfl rfl rfl ?_
      refine wl_skipu rfl rfl rfl rfl rfl ?_
      refine wl_skipu rfl rfl rfl rfl rfl ?_
      refine wl_skip rfl rfl rfl (congrArg Value.bool h11) rfl rfl rfl ?_
      refine wl_pick_f (.bool false) (want_none rfl) rfl rfl rfl (congrArg Value.bool h11) rfl ?_
      refine wl_mv (.bool false) (want_none rfl) rfl rfl (.inl rfl) rfl ?_
      refine wl_skip rfl rfl rfl rfl rfl rfl rfl ?_
      refine wl_skip rfl rfl rfl rfl rfl rfl rfl ?_
      refine wl_skip rfl rfl rfl rfl rfl rfl rfl ?_
      refine wl_pick_f (.bool false) (want_none rfl) rfl rfl rfl rfl rfl ?_
      refine wl_mv (.bool false) (want_none rfl) rfl rfl (.inr rfl) rfl ?_
      refine wl_nil ?_
      refine wq_then ?_
      refine wc_ret ?_
      refine ret_1 (.inl rfl) (.bool false) rfl rfl ?_
      refine ⟨m10.keep0, ?_⟩
      have hF40 : F_spec_TimerOk x_t = false := by simp only [F_spec_TimerOk, h7, h11, cond_true, cond_false]
      rw [hF40]
      exact rfl
  · skip
    refine wc_true (congrArg (fun b => Value.bool (!b)) h7) ?_
    refine wc_seq ?_
    refine wc_region ?_
    refine wl_loadN [(.bool x_t.On), (.int .i64 x_t.Due), (.int .i64 x_t.Wait), (.int .i64 x_t.Tries)] (want_none rfl) rfl rfl rfl rfl isAgg_28 sizeOf_28 b5 rfl ?_
    refine wl_pure (.agg #[(.bool false), (.int .i64 0), (.int .i64 0), (.int .i64 0)]) (want_none rfl) rfl rfl (by kernel_rfl) ?_
    refine wl_aggeq (((x_t.On == false) && (decide (x_t.Due = 0) && (decide (x_t.Wait = 0) && decide (x_t.Tries = 0))))) (want_none rfl) rfl rfl rfl rfl rfl guardt_28 (aggeq_28 x_t.On false x_t.Due 0 x_t.Wait 0 x_t.Tries 0 w1) ?_
    refine wl_mv (.bool ((x_t.On == false) && (decide (x_t.Due = 0) && (decide (x_t.Wait = 0) && decide (x_t.Tries = 0))))) (want_none rfl) rfl rfl (.inr rfl) rfl ?_
    refine wl_nil ?_
    refine wq_then ?_
    refine wc_ret ?_
    refine wq_then_ret ?_
    refine ret_1 (.inl rfl) (.bool ((x_t.On == false) && (decide (x_t.Due = 0) && (decide (x_t.Wait = 0) && decide (x_t.Tries = 0))))) rfl rfl ?_
    refine ⟨m6.keep0, ?_⟩
    have hF42 : F_spec_TimerOk x_t = ((x_t.On == false) && (decide (x_t.Due = 0) && (decide (x_t.Wait = 0) && decide (x_t.Tries = 0)))) := by simp only [F_spec_TimerOk, h7, cond_true, cond_false]
    rw [hF42]
    exact rfl
theorem spec_TimerOk_t {t : PTimer} (h : F_spec_TimerOk t = true) (h0 : t.On = true) : 0 ≤ t.Due ∧ t.Due ≤ 1000008 ∧ 1 ≤ t.Wait ∧ t.Wait ≤ 8 ∧ 1 ≤ t.Tries ∧ t.Tries ≤ 5 := by
  simp only [F_spec_TimerOk, F_spec_l1In, cond_eq_ite] at h
  grind

def F_impl_TimerOk (x_t : PTimer) : (Bool) := bif x_t.On then (bif (decide (x_t.Wait = 1)) then (bif (F_impl_within x_t.Due 0 1000008) then ((F_impl_within x_t.Tries 1 5)) else (false)) else (bif (decide (x_t.Wait = 2)) then (bif (F_impl_within x_t.Due 0 1000008) then ((F_impl_within x_t.Tries 1 5)) else (false)) else (bif (decide (x_t.Wait = 4)) then (bif (F_impl_within x_t.Due 0 1000008) then ((F_impl_within x_t.Tries 1 5)) else (false)) else (bif (F_impl_within x_t.Due 0 1000008) then (bif (decide (x_t.Wait = 8)) then ((F_impl_within x_t.Tries 1 5)) else (false)) else (false))))) else (((x_t.On == false) && (decide (x_t.Due = 0) && (decide (x_t.Wait = 0) && decide (x_t.Tries = 0)))))
theorem C_impl_TimerOk (w0 : World) (v_x_t : Value) (x_t : PTimer) (r_x_t : R_28 w0 v_x_t x_t)  : Fn Try.prog 21 #[v_x_t] w0 (fun v w' => Keep w0 w' ∧ O_4 w' w0.heap.size v (F_impl_TimerOk x_t)) := by
  obtain rfl := r_x_t
  refine fn_of (n := 39) (l := [(.agg #[(.bool x_t.On), (.int .i64 x_t.Due), (.int .i64 x_t.Wait), (.int .i64 x_t.Tries)]), undef, undef, undef, undef, undef, undef, undef, undef, undef, undef, undef, undef, undef, undef, undef, undef, undef, undef, undef, undef, undef, undef, undef, undef, undef, undef, undef, undef, undef, undef, undef, undef, undef, undef, undef, undef, undef, undef]) Try.func21 rfl rfl (by kernel_rfl) rfl ?_
  refine wc_seq ?_
  refine wc_region ?_
  refine wl_box (want_none rfl) [(.bool x_t.On), (.int .i64 x_t.Due), (.int .i64 x_t.Wait), (.int .i64 x_t.Tries)] rfl rfl rfl rfl ?_
  intro g1 w1 p2 p3 k4 b5
  have m6 := (Ch.base w0).extk k4
  refine wl_mv (.bool false) (want_none rfl) rfl rfl (.inr rfl) rfl ?_
  refine wl_nil ?_
  refine wq_then ?_
  refine wc_seq ?_
  refine wc_seq ?_
  refine wc_region ?_
  refine wl_pure (.pointer (some ⟨g1, 0, none⟩)) (want_none rfl) rfl rfl (by kernel_rfl) ?_
  refine wl_load1 (.bool x_t.On) (want_none rfl) rfl rfl rfl rfl isAgg_4 b5 rfl ?_
  refine wl_pure (.bool (!x_t.On)) (want_none rfl) rfl rfl (by kernel_rfl) ?_
  refine wl_nil ?_
  refine wq_then ?_
  rcases Bool.eq_false_or_eq_true x_t.On with h7 | h7
  · skip
    refine wc_false (congrArg (fun b => Value.bool (!b)) h7) ?_
    refine wc_skip ?_
    refine wq_then ?_
    refine wc_seq ?_
    refine wc_region ?_
    refine wl_pure (.pointer (some ⟨g1, 2, none⟩)) (want_none rfl) rfl rfl (by kernel_rfl) ?_
    refine wl_load1 (.int .i64 x_t.Wait) (want_none rfl) rfl rfl rfl rfl isAgg_3 b5 rfl ?_
    refine wl_pure (.bool (decide (x_t.Wait = 1))) (want_none rfl) rfl rfl (by kernel_rfl) ?_
    refine wl_mv (.bool (decide (x_t.Wait = 1))) (want_none rfl) rfl rfl (.inl rfl) rfl ?_
    rcases Bool.eq_false_or_eq_true (decide (x_t.Wait = 1)) with h9 | h9
    · have q10 := of_decide_eq_true h9
      refine wl_skip rfl rfl rfl (congrArg Value.bool h9) rfl rfl rfl ?_
      refine wl_skip rfl rfl rfl (congrArg Value.bool h9) rfl rfl rfl ?_
      refine wl_skip rfl rfl rfl (congrArg Value.bool h9) rfl rfl rfl ?_
      refine wl_pick_t (.bool true) (want_none rfl) rfl rfl rfl (congrArg Value.bool h9) rfl ?_
      refine wl_mv (.bool true) (want_none rfl) rfl rfl (.inl rfl) rfl ?_
      refine wl_skip rfl rfl rfl rfl rfl rfl rfl ?_
      refine wl_skip rfl rfl rfl rfl rfl rfl rfl ?_
      refine wl_skip rfl rfl rfl rfl rfl rfl rfl ?_
      refine wl_pick_t (.bool true) (want_none rfl) rfl rfl rfl rfl rfl ?_
      refine wl_mv (.bool true) (want_none rfl) rfl rfl (.inl rfl) rfl ?_
      refine wl_skip rfl rfl rfl rfl rfl rfl rfl ?_
      refine wl_skip rfl rfl rfl rfl rfl rfl rfl ?_
      refine wl_skip rfl rfl rfl rfl rfl rfl rfl ?_
      refine wl_pick_t (.bool true) (want_none rfl) rfl rfl rfl rfl rfl ?_
      refine wl_mv (.bool true) (want_none rfl) rfl rfl (.inr rfl) rfl ?_
      refine wl_nil ?_
      refine wq_then ?_
      refine wc_seq ?_
      refine wc_region ?_
      refine wl_pure (.pointer (some ⟨g1, 1, none⟩)) (want_none rfl) rfl rfl (by kernel_rfl) ?_
      refine wl_load1 (.int .i64 x_t.Due) (want_none rfl) rfl rfl rfl rfl isAgg_3 b5 rfl ?_
      refine wl_call (want_none rfl) (args := #[(.int .i64 x_t.Due), (.int .i64 0), (.int .i64 1000008)]) rfl rfl (by kernel_rfl) (C_impl_within w1 x_t.Due 0 1000008) ?_
      rintro _ w2 ⟨k11, rfl⟩
      have m12 := m6.extk k11
      refine wl_mv (.bool (F_impl_within x_t.Due 0 1000008)) (want_none rfl) rfl rfl (.inl rfl) rfl ?_
      rcases Bool.eq_false_or_eq_true (F_impl_within x_t.Due 0 1000008) with h13 | h13
      · have q14 := impl_within_t h13
        refine wl_mv (.bool true) (want_some rfl rfl rfl (congrArg Value.bool h13)) rfl rfl (.inl rfl) rfl ?_
        refine wl_pick_t (.bool true) (want_none rfl) rfl rfl rfl (congrArg Value.bool h13) rfl ?_
        refine wl_mv (.bool true) (want_none rfl) rfl rfl (.inl rfl) rfl ?_
        refine wl_pure (.pointer (some ⟨g1, 3, none⟩)) (want_some rfl rfl rfl rfl) rfl rfl (by kernel_rfl) ?_
        have b15 := (b5.kp k11)
        refine wl_load1 (.int .i64 x_t.Tries) (want_some rfl rfl rfl rfl) rfl rfl rfl rfl isAgg_3 b15 rfl ?_
        refine wl_call (want_some rfl rfl rfl rfl) (args := #[(.int .i64 x_t.Tries), (.int .i64 1), (.int .i64 5)]) rfl rfl (by kernel_rfl) (C_impl_within w2 x_t.Tries 1 5) ?_
        rintro _ w3 ⟨k16, rfl⟩
        have m17 := m12.extk k16
        refine wl_pick_t (.bool (F_impl_within x_t.Tries 1 5)) (want_none rfl) rfl rfl rfl rfl rfl ?_
        refine wl_mv (.bool (F_impl_within x_t.Tries 1 5)) (want_none rfl) rfl rfl (.inr rfl) rfl ?_
        refine wl_nil ?_
        refine wq_then ?_
        refine wc_ret ?_
        refine ret_1 (.inl rfl) (.bool (F_impl_within x_t.Tries 1 5)) rfl rfl ?_
        refine ⟨m17.keep0, ?_⟩
        have hF18 : F_impl_TimerOk x_t = (F_impl_within x_t.Tries 1 5) := by simp only [F_impl_TimerOk, h7, h9, h13, cond_true, cond_false]
        rw [hF18]
        exact rfl
      · have q19 := impl_within_f h13
        refine wl_skip rfl rfl rfl (congrArg Value.bool h13) rfl rfl rfl ?_
        refine wl_pick_f (.bool false) (want_none rfl) rfl rfl rfl (congrArg Value.bool h13) rfl ?_
        refine wl_mv (.bool false) (want_none rfl) rfl rfl (.inl rfl) rfl ?_
        refine wl_skip rfl rfl rfl rfl rfl rfl rfl ?_
        refine wl_skip rfl rfl rfl rfl rfl rfl rfl ?_
        refine wl_skip rfl rfl rfl rfl rfl rfl rfl ?_
        refine wl_pick_f (.bool false) (want_none rfl) rfl rfl rfl rfl rfl ?_
        refine wl_mv (.bool false) (want_none rfl) rfl rfl (.inr rfl) rfl ?_
        refine wl_nil ?_
        refine wq_then ?_
        refine wc_ret ?_
        refine ret_1 (.inl rfl) (.bool false) rfl rfl ?_
        refine ⟨m12.keep0, ?_⟩
        have hF20 : F_impl_TimerOk x_t = false := by simp only [F_impl_TimerOk, h7, h9, h13, cond_true, cond_false]
        rw [hF20]
        exact rfl
    · have q21 := of_decide_eq_false h9
      refine wl_pure (.pointer (some ⟨g1, 2, none⟩)) (want_some rfl rfl rfl (congrArg Value.bool h9)) rfl rfl (by kernel_rfl) ?_
      refine wl_load1 (.int .i64 x_t.Wait) (want_some rfl rfl rfl (congrArg Value.bool h9)) rfl rfl rfl rfl isAgg_3 b5 rfl ?_
      refine wl_pure (.bool (decide (x_t.Wait = 2))) (want_some rfl rfl rfl (congrArg Value.bool h9)) rfl rfl (by kernel_rfl) ?_
      refine wl_pick_f (.bool (decide (x_t.Wait = 2))) (want_none rfl) rfl rfl rfl (congrArg Value.bool h9) rfl ?_
      refine wl_mv (.bool (decide (x_t.Wait = 2))) (want_none rfl) rfl rfl (.inl rfl) rfl ?_
      rcases Bool.eq_false_or_eq_true (decide (x_t.Wait = 2)) with h22 | h22
      · have q23 := of_decide_eq_true h22
        refine wl_skip rfl rfl rfl (congrArg Value.bool h22) rfl rfl rfl ?_
        refine wl_skip rfl rfl rfl (congrArg Value.bool h22) rfl rfl rfl ?_
        refine wl_skip rfl rfl rfl (congrArg Value.bool h22) rfl rfl rfl ?_
        refine wl_pick_t (.bool true) (want_none rfl) rfl rfl rfl (congrArg Value.bool h22) rfl ?_
        refine wl_mv (.bool true) (want_none rfl) rfl rfl (.inl rfl) rfl ?_
        refine wl_skip rfl rfl rfl rfl rfl rfl rfl ?_
        refine wl_skip rfl rfl rfl rfl rfl rfl rfl ?_
        refine wl_skip rfl rfl rfl rfl rfl rfl rfl ?_
        refine wl_pick_t (.bool true) (want_none rfl) rfl rfl rfl rfl rfl ?_
        refine wl_mv (.bool true) (want_none rfl) rfl rfl (.inr rfl) rfl ?_
        refine wl_nil ?_
        refine wq_then ?_
        refine wc_seq ?_
        refine wc_region ?_
        refine wl_pure (.pointer (some ⟨g1, 1, none⟩)) (want_none rfl) rfl rfl (by kernel_rfl) ?_
        refine wl_load1 (.int .i64 x_t.Due) (want_none rfl) rfl rfl rfl rfl isAgg_3 b5 rfl ?_
        refine wl_call (want_none rfl) (args := #[(.int .i64 x_t.Due), (.int .i64 0), (.int .i64 1000008)]) rfl rfl (by kernel_rfl) (C_impl_within w1 x_t.Due 0 1000008) ?_
        rintro _ w2 ⟨k24, rfl⟩
        have m25 := m6.extk k24
        refine wl_mv (.bool (F_impl_within x_t.Due 0 1000008)) (want_none rfl) rfl rfl (.inl rfl) rfl ?_
        rcases Bool.eq_false_or_eq_true (F_impl_within x_t.Due 0 1000008) with h26 | h26
        · have q27 := impl_within_t h26
          refine wl_mv (.bool true) (want_some rfl rfl rfl (congrArg Value.bool h26)) rfl rfl (.inl rfl) rfl ?_
          refine wl_pick_t (.bool true) (want_none rfl) rfl rfl rfl (congrArg Value.bool h26) rfl ?_
          refine wl_mv (.bool true) (want_none rfl) rfl rfl (.inl rfl) rfl ?_
          refine wl_pure (.pointer (some ⟨g1, 3, none⟩)) (want_some rfl rfl rfl rfl) rfl rfl (by kernel_rfl) ?_
          have b28 := (b5.kp k24)
          refine wl_load1 (.int .i64 x_t.Tries) (want_some rfl rfl rfl rfl) rfl rfl rfl rfl isAgg_3 b28 rfl ?_
          refine wl_call (want_some rfl rfl rfl rfl) (args := #[(.int .i64 x_t.Tries), (.int .i64 1), (.int .i64 5)]) rfl rfl (by kernel_rfl) (C_impl_within w2 x_t.Tries 1 5) ?_
          rintro _ w3 ⟨k29, rfl⟩
          have m30 := m25.extk k29
          refine wl_pick_t (.bool (F_impl_within x_t.Tries 1 5)) (want_none rfl) rfl rfl rfl rfl rfl ?_
          refine wl_mv (.bool (F_impl_within x_t.Tries 1 5)) (want_none rfl) rfl rfl (.inr rfl) rfl ?_
          refine wl_nil ?_
          refine wq_then ?_
          refine wc_ret ?_
          refine ret_1 (.inl rfl) (.bool (F_impl_within x_t.Tries 1 5)) rfl rfl ?_
          refine ⟨m30.keep0, ?_⟩
          have hF31 : F_impl_TimerOk x_t = (F_impl_within x_t.Tries 1 5) := by simp only [F_impl_TimerOk, h7, h9, h22, h26, cond_true, cond_false]
          rw [hF31]
          exact rfl
        · have q32 := impl_within_f h26
          refine wl_skip rfl rfl rfl (congrArg Value.bool h26) rfl rfl rfl ?_
          refine wl_pick_f (.bool false) (want_none rfl) rfl rfl rfl (congrArg Value.bool h26) rfl ?_
          refine wl_mv (.bool false) (want_none rfl) rfl rfl (.inl rfl) rfl ?_
          refine wl_skip rfl rfl rfl rfl rfl rfl rfl ?_
          refine wl_skip rfl rfl rfl rfl rfl rfl rfl ?_
          refine wl_skip rfl rfl rfl rfl rfl rfl rfl ?_
          refine wl_pick_f (.bool false) (want_none rfl) rfl rfl rfl rfl rfl ?_
          refine wl_mv (.bool false) (want_none rfl) rfl rfl (.inr rfl) rfl ?_
          refine wl_nil ?_
          refine wq_then ?_
          refine wc_ret ?_
          refine ret_1 (.inl rfl) (.bool false) rfl rfl ?_
          refine ⟨m25.keep0, ?_⟩
          have hF33 : F_impl_TimerOk x_t = false := by simp only [F_impl_TimerOk, h7, h9, h22, h26, cond_true, cond_false]
          rw [hF33]
          exact rfl
      · have q34 := of_decide_eq_false h22
        refine wl_pure (.pointer (some ⟨g1, 2, none⟩)) (want_some rfl rfl rfl (congrArg Value.bool h22)) rfl rfl (by kernel_rfl) ?_
        refine wl_load1 (.int .i64 x_t.Wait) (want_some rfl rfl rfl (congrArg Value.bool h22)) rfl rfl rfl rfl isAgg_3 b5 rfl ?_
        refine wl_pure (.bool (decide (x_t.Wait = 4))) (want_some rfl rfl rfl (congrArg Value.bool h22)) rfl rfl (by kernel_rfl) ?_
        refine wl_pick_f (.bool (decide (x_t.Wait = 4))) (want_none rfl) rfl rfl rfl (congrArg Value.bool h22) rfl ?_
        refine wl_mv (.bool (decide (x_t.Wait = 4))) (want_none rfl) rfl rfl (.inl rfl) rfl ?_
        rcases Bool.eq_false_or_eq_true (decide (x_t.Wait = 4)) with h35 | h35
        · have q36 := of_decide_eq_true h35
          refine wl_skip rfl rfl rfl (congrArg Value.bool h35) rfl rfl rfl ?_
          refine wl_skip rfl rfl rfl (congrArg Value.bool h35) rfl rfl rfl ?_
          refine wl_skip rfl rfl rfl (congrArg Value.bool h35) rfl rfl rfl ?_
          refine wl_pick_t (.bool true) (want_none rfl) rfl rfl rfl (congrArg Value.bool h35) rfl ?_
          refine wl_mv (.bool true) (want_none rfl) rfl rfl (.inr rfl) rfl ?_
          refine wl_nil ?_
          refine wq_then ?_
          refine wc_seq ?_
          refine wc_region ?_
          refine wl_pure (.pointer (some ⟨g1, 1, none⟩)) (want_none rfl) rfl rfl (by kernel_rfl) ?_
          refine wl_load1 (.int .i64 x_t.Due) (want_none rfl) rfl rfl rfl rfl isAgg_3 b5 rfl ?_
          refine wl_call (want_none rfl) (args := #[(.int .i64 x_t.Due), (.int .i64 0), (.int .i64 1000008)]) rfl rfl (by kernel_rfl) (C_impl_within w1 x_t.Due 0 1000008) ?_
          rintro _ w2 ⟨k37, rfl⟩
          have m38 := m6.extk k37
          refine wl_mv (.bool (F_impl_within x_t.Due 0 1000008)) (want_none rfl) rfl rfl (.inl rfl) rfl ?_
          rcases Bool.eq_false_or_eq_true (F_impl_within x_t.Due 0 1000008) with h39 | h39
          · have q40 := impl_within_t h39
            refine wl_mv (.bool true) (want_some rfl rfl rfl (congrArg Value.bool h39)) rfl rfl (.inl rfl) rfl ?_
            refine wl_pick_t (.bool true) (want_none rfl) rfl rfl rfl (congrArg Value.bool h39) rfl ?_
            refine wl_mv (.bool true) (want_none rfl) rfl rfl (.inl rfl) rfl ?_
            refine wl_pure (.pointer (some ⟨g1, 3, none⟩)) (want_some rfl rfl rfl rfl) rfl rfl (by kernel_rfl) ?_
            have b41 := (b5.kp k37)
            refine wl_load1 (.int .i64 x_t.Tries) (want_some rfl rfl rfl rfl) rfl rfl rfl rfl isAgg_3 b41 rfl ?_
            refine wl_call (want_some rfl rfl rfl rfl) (args := #[(.int .i64 x_t.Tries), (.int .i64 1), (.int .i64 5)]) rfl rfl (by kernel_rfl) (C_impl_within w2 x_t.Tries 1 5) ?_
            rintro _ w3 ⟨k42, rfl⟩
            have m43 := m38.extk k42
            refine wl_pick_t (.bool (F_impl_within x_t.Tries 1 5)) (want_none rfl) rfl rfl rfl rfl rfl ?_
            refine wl_mv (.bool (F_impl_within x_t.Tries 1 5)) (want_none rfl) rfl rfl (.inr rfl) rfl ?_
            refine wl_nil ?_
            refine wq_then ?_
            refine wc_ret ?_
            refine ret_1 (.inl rfl) (.bool (F_impl_within x_t.Tries 1 5)) rfl rfl ?_
            refine ⟨m43.keep0, ?_⟩
            have hF44 : F_impl_TimerOk x_t = (F_impl_within x_t.Tries 1 5) := by simp only [F_impl_TimerOk, h7, h9, h22, h35, h39, cond_true, cond_false]
            rw [hF44]
            exact rfl
          · have q45 := impl_within_f h39
            refine wl_skip rfl rfl rfl (congrArg Value.bool h39) rfl rfl rfl ?_
            refine wl_pick_f (.bool false) (want_none rfl) rfl rfl rfl (congrArg Value.bool h39) rfl ?_
            refine wl_mv (.bool false) (want_none rfl) rfl rfl (.inl rfl) rfl ?_
            refine wl_skip rfl rfl rfl rfl rfl rfl rfl ?_
            refine wl_skip rfl rfl rfl rfl rfl rfl rfl ?_
            refine wl_skip rfl rfl rfl rfl rfl rfl rfl ?_
            refine wl_pick_f (.bool false) (want_none rfl) rfl rfl rfl rfl rfl ?_
            refine wl_mv (.bool false) (want_none rfl) rfl rfl (.inr rfl) rfl ?_
            refine wl_nil ?_
            refine wq_then ?_
            refine wc_ret ?_
            refine ret_1 (.inl rfl) (.bool false) rfl rfl ?_
            refine ⟨m38.keep0, ?_⟩
            have hF46 : F_impl_TimerOk x_t = false := by simp only [F_impl_TimerOk, h7, h9, h22, h35, h39, cond_true, cond_false]
            rw [hF46]
            exact rfl
        · have q47 := of_decide_eq_false h35
          refine wl_pure (.pointer (some ⟨g1, 2, none⟩)) (want_some rfl rfl rfl (congrArg Value.bool h35)) rfl rfl (by kernel_rfl) ?_
          refine wl_load1 (.int .i64 x_t.Wait) (want_some rfl rfl rfl (congrArg Value.bool h35)) rfl rfl rfl rfl isAgg_3 b5 rfl ?_
          refine wl_pure (.bool (decide (x_t.Wait = 8))) (want_some rfl rfl rfl (congrArg Value.bool h35)) rfl rfl (by kernel_rfl) ?_
          refine wl_pick_f (.bool (decide (x_t.Wait = 8))) (want_none rfl) rfl rfl rfl (congrArg Value.bool h35) rfl ?_
          refine wl_mv (.bool (decide (x_t.Wait = 8))) (want_none rfl) rfl rfl (.inr rfl) rfl ?_
          refine wl_nil ?_
          refine wq_then ?_
          refine wc_seq ?_
          refine wc_region ?_
          refine wl_pure (.pointer (some ⟨g1, 1, none⟩)) (want_none rfl) rfl rfl (by kernel_rfl) ?_
          refine wl_load1 (.int .i64 x_t.Due) (want_none rfl) rfl rfl rfl rfl isAgg_3 b5 rfl ?_
          refine wl_call (want_none rfl) (args := #[(.int .i64 x_t.Due), (.int .i64 0), (.int .i64 1000008)]) rfl rfl (by kernel_rfl) (C_impl_within w1 x_t.Due 0 1000008) ?_
          rintro _ w2 ⟨k48, rfl⟩
          have m49 := m6.extk k48
          refine wl_mv (.bool (F_impl_within x_t.Due 0 1000008)) (want_none rfl) rfl rfl (.inl rfl) rfl ?_
          rcases Bool.eq_false_or_eq_true (F_impl_within x_t.Due 0 1000008) with h50 | h50
          · have q51 := impl_within_t h50
            refine wl_mv (.bool (decide (x_t.Wait = 8))) (want_some rfl rfl rfl (congrArg Value.bool h50)) rfl rfl (.inl rfl) rfl ?_
            refine wl_pick_t (.bool (decide (x_t.Wait = 8))) (want_none rfl) rfl rfl rfl (congrArg Value.bool h50) rfl ?_
            refine wl_mv (.bool (decide (x_t.Wait = 8))) (want_none rfl) rfl rfl (.inl rfl) rfl ?_
            rcases Bool.eq_false_or_eq_true (decide (x_t.Wait = 8)) with h52 | h52
            · have q53 := of_decide_eq_true h52
              refine wl_pure (.pointer (some ⟨g1, 3, none⟩)) (want_some rfl rfl rfl (congrArg Value.bool h52)) rfl rfl (by kernel_rfl) ?_
              have b54 := (b5.kp k48)
              refine wl_load1 (.int .i64 x_t.Tries) (want_some rfl rfl rfl (congrArg Value.bool h52)) rfl rfl rfl rfl isAgg_3 b54 rfl ?_
              refine wl_call (want_some rfl rfl rfl (congrArg Value.bool h52)) (args := #[(.int .i64 x_t.Tries), (.int .i64 1), (.int .i64 5)]) rfl rfl (by kernel_rfl) (C_impl_within w2 x_t.Tries 1 5) ?_
              rintro _ w3 ⟨k55, rfl⟩
              have m56 := m49.extk k55
              refine wl_pick_t (.bool (F_impl_within x_t.Tries 1 5)) (want_none rfl) rfl rfl rfl (congrArg Value.bool h52) rfl ?_
              refine wl_mv (.bool (F_impl_within x_t.Tries 1 5)) (want_none rfl) rfl rfl (.inr rfl) rfl ?_
              refine wl_nil ?_
              refine wq_then ?_
              refine wc_ret ?_
              refine ret_1 (.inl rfl) (.bool (F_impl_within x_t.Tries 1 5)) rfl rfl ?_
              refine ⟨m56.keep0, ?_⟩
              have hF57 : F_impl_TimerOk x_t = (F_impl_within x_t.Tries 1 5) := by simp only [F_impl_TimerOk, h7, h9, h22, h35, h50, h52, cond_true, cond_false]
              rw [hF57]
              exact rfl
            · have q58 := of_decide_eq_false h52
              refine wl_skip rfl rfl rfl (congrArg Value.bool h52) rfl rfl rfl ?_
              refine wl_skip rfl rfl rfl (congrArg Value.bool h52) rfl rfl rfl ?_
              refine wl_skip rfl rfl rfl (congrArg Value.bool h52) rfl rfl rfl ?_
              refine wl_pick_f (.bool false) (want_none rfl) rfl rfl rfl (congrArg Value.bool h52) rfl ?_
              refine wl_mv (.bool false) (want_none rfl) rfl rfl (.inr rfl) rfl ?_
              refine wl_nil ?_
              refine wq_then ?_
              refine wc_ret ?_
              refine ret_1 (.inl rfl) (.bool false) rfl rfl ?_
              refine ⟨m49.keep0, ?_⟩
              have hF59 : F_impl_TimerOk x_t = false := by simp only [F_impl_TimerOk, h7, h9, h22, h35, h50, h52, cond_true, cond_false]
              rw [hF59]
              exact rfl
          · have q60 := impl_within_f h50
            refine wl_skip rfl rfl rfl (congrArg Value.bool h50) rfl rfl rfl ?_
            refine wl_pick_f (.bool false) (want_none rfl) rfl rfl rfl (congrArg Value.bool h50) rfl ?_
            refine wl_mv (.bool false) (want_none rfl) rfl rfl (.inl rfl) rfl ?_
            refine wl_skip rfl rfl rfl rfl rfl rfl rfl ?_
            refine wl_skip rfl rfl rfl rfl rfl rfl rfl ?_
            refine wl_skip rfl rfl rfl rfl rfl rfl rfl ?_
            refine wl_pick_f (.bool false) (want_none rfl) rfl rfl rfl rfl rfl ?_
            refine wl_mv (.bool false) (want_none rfl) rfl rfl (.inr rfl) rfl ?_
            refine wl_nil ?_
            refine wq_then ?_
            refine wc_ret ?_
            refine ret_1 (.inl rfl) (.bool false) rfl rfl ?_
            refine ⟨m49.keep0, ?_⟩
            have hF61 : F_impl_TimerOk x_t = false := by simp only [F_impl_TimerOk, h7, h9, h22, h35, h50, cond_true, cond_false]
            rw [hF61]
            exact rfl
  · skip
    refine wc_true (congrArg (fun b => Value.bool (!b)) h7) ?_
    refine wc_seq ?_
    refine wc_region ?_
    refine wl_loadN [(.bool x_t.On), (.int .i64 x_t.Due), (.int .i64 x_t.Wait), (.int .i64 x_t.Tries)] (want_none rfl) rfl rfl rfl rfl isAgg_28 sizeOf_28 b5 rfl ?_
    refine wl_pure (.agg #[(.bool false), (.int .i64 0), (.int .i64 0), (.int .i64 0)]) (want_none rfl) rfl rfl (by kernel_rfl) ?_
    refine wl_aggeq (((x_t.On == false) && (decide (x_t.Due = 0) && (decide (x_t.Wait = 0) && decide (x_t.Tries = 0))))) (want_none rfl) rfl rfl rfl rfl rfl guardt_28 (aggeq_28 x_t.On false x_t.Due 0 x_t.Wait 0 x_t.Tries 0 w1) ?_
    refine wl_mv (.bool ((x_t.On == false) && (decide (x_t.Due = 0) && (decide (x_t.Wait = 0) && decide (x_t.Tries = 0))))) (want_none rfl) rfl rfl (.inr rfl) rfl ?_
    refine wl_nil ?_
    refine wq_then ?_
    refine wc_ret ?_
    refine wq_then_ret ?_
    refine ret_1 (.inl rfl) (.bool ((x_t.On == false) && (decide (x_t.Due = 0) && (decide (x_t.Wait = 0) && decide (x_t.Tries = 0))))) rfl rfl ?_
    refine ⟨m6.keep0, ?_⟩
    have hF63 : F_impl_TimerOk x_t = ((x_t.On == false) && (decide (x_t.Due = 0) && (decide (x_t.Wait = 0) && decide (x_t.Tries = 0)))) := by simp only [F_impl_TimerOk, h7, cond_true, cond_false]
    rw [hF63]
    exact rfl
theorem impl_TimerOk_t {t : PTimer} (h : F_impl_TimerOk t = true) (h0 : t.On = true) : 0 ≤ t.Due ∧ t.Due ≤ 1000008 ∧ 1 ≤ t.Wait ∧ t.Wait ≤ 8 ∧ 1 ≤ t.Tries ∧ t.Tries ≤ 5 := by
  simp only [F_impl_TimerOk, F_impl_within, cond_eq_ite] at h
  grind

theorem isAgg_26 : ∀ w, (isAgg 26).run Try.prog w = .ok true w := fun w => by kernel_rfl
theorem sizeOf_26 : ∀ w, (sizeOf 26).run Try.prog w = .ok 4 w := fun w => by kernel_rfl
def Q_26 (w : World) (v : Value) (x : (PTimer)) : Prop := v = .agg #[.bool x.On, .int .i64 x.Due, .int .i64 x.Wait, .int .i64 x.Tries]
def F_laws_FnExactTimerOk (x_aT : PTimer) : (Bool) := bif ((F_impl_TimerOk (F_laws_toTimer x_aT)) == (F_spec_TimerOk (F_laws_toTimer x_aT))) then (true) else (false)
theorem C_laws_FnExactTimerOk (w0 : World) (v_x_aT : Value) (x_aT : PTimer) (r_x_aT : Q_26 w0 v_x_aT x_aT)  : Fn Try.prog 5 #[v_x_aT] w0 (fun v w' => Keep w0 w' ∧ O_4 w' w0.heap.size v (F_laws_FnExactTimerOk x_aT)) := by
  obtain rfl := r_x_aT
  refine fn_of (n := 14) (l := [(.agg #[(.bool x_aT.On), (.int .i64 x_aT.Due), (.int .i64 x_aT.Wait), (.int .i64 x_aT.Tries)]), undef, undef, undef, undef, undef, undef, undef, undef, undef, undef, undef, undef, undef]) Try.func5 rfl rfl (by kernel_rfl) rfl ?_
  refine wc_seq ?_
  refine wc_region ?_
  refine wl_box (want_none rfl) [(.bool x_aT.On), (.int .i64 x_aT.Due), (.int .i64 x_aT.Wait), (.int .i64 x_aT.Tries)] rfl rfl rfl rfl ?_
  intro g1 w1 p2 p3 k4 b5
  have m6 := (Ch.base w0).extk k4
  refine wl_mv (.bool false) (want_none rfl) rfl rfl (.inr rfl) rfl ?_
  refine wl_nil ?_
  refine wq_then ?_
  refine wc_seq ?_
  refine wc_region ?_
  refine wl_loadN [(.bool x_aT.On), (.int .i64 x_aT.Due), (.int .i64 x_aT.Wait), (.int .i64 x_aT.Tries)] (want_none rfl) rfl rfl rfl rfl isAgg_26 sizeOf_26 b5 rfl ?_
  refine wl_call (want_none rfl) (args := #[(.agg #[(.bool x_aT.On), (.int .i64 x_aT.Due), (.int .i64 x_aT.Wait), (.int .i64 x_aT.Tries)])]) rfl rfl (by kernel_rfl) (C_laws_toTimer w1 (.agg #[(.bool x_aT.On), (.int .i64 x_aT.Due), (.int .i64 x_aT.Wait), (.int .i64 x_aT.Tries)]) x_aT (show R_26 w1 (.agg #[(.bool x_aT.On), (.int .i64 x_aT.Due), (.int .i64 x_aT.Wait), (.int .i64 x_aT.Tries)]) x_aT from rfl)) ?_
  rintro _ w2 ⟨k7, rfl⟩
  have m8 := m6.extk k7
  refine wl_call (want_none rfl) (args := #[(.agg #[(.bool ((F_laws_toTimer x_aT).On)), (.int .i64 ((F_laws_toTimer x_aT).Due)), (.int .i64 ((F_laws_toTimer x_aT).Wait)), (.int .i64 ((F_laws_toTimer x_aT).Tries))])]) rfl rfl (by kernel_rfl) (C_spec_TimerOk w2 (.agg #[(.bool ((F_laws_toTimer x_aT).On)), (.int .i64 ((F_laws_toTimer x_aT).Due)), (.int .i64 ((F_laws_toTimer x_aT).Wait)), (.int .i64 ((F_laws_toTimer x_aT).Tries))]) (F_laws_toTimer x_aT) (show R_28 w2 (.agg #[(.bool ((F_laws_toTimer x_aT).On)), (.int .i64 ((F_laws_toTimer x_aT).Due)), (.int .i64 ((F_laws_toTimer x_aT).Wait)), (.int .i64 ((F_laws_toTimer x_aT).Tries))]) (F_laws_toTimer x_aT) from rfl)) ?_
  rintro _ w3 ⟨k9, rfl⟩
  have m10 := m8.extk k9
  refine wl_mv (.bool (F_spec_TimerOk (F_laws_toTimer x_aT))) (want_none rfl) rfl rfl (.inr rfl) rfl ?_
  refine wl_nil ?_
  refine wq_then ?_
  refine wc_seq ?_
  refine wc_region ?_
  have b11 := ((b5.kp k7).kp k9)
  refine wl_loadN [(.bool x_aT.On), (.int .i64 x_aT.Due), (.int .i64 x_aT.Wait), (.int .i64 x_aT.Tries)] (want_none rfl) rfl rfl rfl rfl isAgg_26 sizeOf_26 b11 rfl ?_
  refine wl_call (want_none rfl) (args := #[(.agg #[(.bool x_aT.On), (.int .i64 x_aT.Due), (.int .i64 x_aT.Wait), (.int .i64 x_aT.Tries)])]) rfl rfl (by kernel_rfl) (C_laws_toTimer w3 (.agg #[(.bool x_aT.On), (.int .i64 x_aT.Due), (.int .i64 x_aT.Wait), (.int .i64 x_aT.Tries)]) x_aT (show R_26 w3 (.agg #[(.bool x_aT.On), (.int .i64 x_aT.Due), (.int .i64 x_aT.Wait), (.int .i64 x_aT.Tries)]) x_aT from rfl)) ?_
  rintro _ w4 ⟨k12, rfl⟩
  have m13 := m10.extk k12
  refine wl_call (want_none rfl) (args := #[(.agg #[(.bool ((F_laws_toTimer x_aT).On)), (.int .i64 ((F_laws_toTimer x_aT).Due)), (.int .i64 ((F_laws_toTimer x_aT).Wait)), (.int .i64 ((F_laws_toTimer x_aT).Tries))])]) rfl rfl (by kernel_rfl) (C_impl_TimerOk w4 (.agg #[(.bool ((F_laws_toTimer x_aT).On)), (.int .i64 ((F_laws_toTimer x_aT).Due)), (.int .i64 ((F_laws_toTimer x_aT).Wait)), (.int .i64 ((F_laws_toTimer x_aT).Tries))]) (F_laws_toTimer x_aT) (show R_28 w4 (.agg #[(.bool ((F_laws_toTimer x_aT).On)), (.int .i64 ((F_laws_toTimer x_aT).Due)), (.int .i64 ((F_laws_toTimer x_aT).Wait)), (.int .i64 ((F_laws_toTimer x_aT).Tries))]) (F_laws_toTimer x_aT) from rfl)) ?_
  rintro _ w5 ⟨k14, rfl⟩
  have m15 := m13.extk k14
  refine wl_mv (.bool (F_impl_TimerOk (F_laws_toTimer x_aT))) (want_none rfl) rfl rfl (.inr rfl) rfl ?_
  refine wl_nil ?_
  refine wq_then ?_
  refine wc_seq ?_
  refine wc_seq ?_
  refine wc_region ?_
  refine wl_mv (.bool (F_impl_TimerOk (F_laws_toTimer x_aT))) (want_none rfl) rfl rfl (.inl rfl) rfl ?_
  refine wl_mv (.bool (F_spec_TimerOk (F_laws_toTimer x_aT))) (want_none rfl) rfl rfl (.inl rfl) rfl ?_
  refine wl_pure (.bool (!((F_impl_TimerOk (F_laws_toTimer x_aT)) == (F_spec_TimerOk (F_laws_toTimer x_aT))))) (want_none rfl) rfl rfl (by kernel_rfl) ?_
  refine wl_nil ?_
  refine wq_then ?_
  rcases Bool.eq_false_or_eq_true ((F_impl_TimerOk (F_laws_toTimer x_aT)) == (F_spec_TimerOk (F_laws_toTimer x_aT))) with h16 | h16
  · skip
    refine wc_false (congrArg (fun b => Value.bool (!b)) h16) ?_
    refine wc_skip ?_
    refine wq_then ?_
    refine wc_seq ?_
    refine wc_region ?_
    refine wl_mv (.bool true) (want_none rfl) rfl rfl (.inr rfl) rfl ?_
    refine wl_nil ?_
    refine wq_then ?_
    refine wc_ret ?_
    refine ret_1 (.inl rfl) (.bool true) rfl rfl ?_
    refine ⟨m15.keep0, ?_⟩
    have hF18 : F_laws_FnExactTimerOk x_aT = true := by simp only [F_laws_FnExactTimerOk, h16, cond_true, cond_false]
    rw [hF18]
    exact rfl
  · skip
    refine wc_true (congrArg (fun b => Value.bool (!b)) h16) ?_
    refine wc_seq ?_
    refine wc_region ?_
    refine wl_mv (.bool false) (want_none rfl) rfl rfl (.inr rfl) rfl ?_
    refine wl_nil ?_
    refine wq_then ?_
    refine wc_ret ?_
    refine wq_then_ret ?_
    refine ret_1 (.inl rfl) (.bool false) rfl rfl ?_
    refine ⟨m15.keep0, ?_⟩
    have hF20 : F_laws_FnExactTimerOk x_aT = false := by simp only [F_laws_FnExactTimerOk, h16, cond_true, cond_false]
    rw [hF20]
    exact rfl

def F_spec_TimerSet (x_now : Int) : (PTimer) := bif (F_spec_l1In x_now 0 1000000) then ({ On := true, Due := (x_now + 1), Wait := 1, Tries := 1 : PTimer }) else ({ On := false, Due := 0, Wait := 0, Tries := 0 : PTimer })
theorem C_spec_TimerSet (w0 : World) (x_now : Int)  : Fn Try.prog 22 #[(.int .i64 x_now)] w0 (fun v w' => Keep w0 w' ∧ O_28 w' w0.heap.size v (F_spec_TimerSet x_now)) := by
  refine fn_of (n := 10) (l := [(.int .i64 x_now), undef, undef, undef, undef, undef, undef, undef, undef, undef]) Try.func22 rfl rfl (by kernel_rfl) rfl ?_
  refine wc_seq ?_
  refine wc_region ?_
  refine wl_alloc (want_none rfl) (.agg #[(.bool false), (.int .i64 0), (.int .i64 0), (.int .i64 0)]) [(.bool false), (.int .i64 0), (.int .i64 0), (.int .i64 0)] zero_28 rfl rfl rfl rfl ?_
  intro g1 w1 p2 p3 k4 b5
  have m6 := (Ch.base w0).extk k4
  refine wl_nil ?_
  refine wq_then ?_
  refine wc_seq ?_
  refine wc_seq ?_
  refine wc_region ?_
  refine wl_mv (.int .i64 x_now) (want_none rfl) rfl rfl (.inl rfl) rfl ?_
  refine wl_call (want_none rfl) (args := #[(.int .i64 x_now), (.int .i64 0), (.int .i64 1000000)]) rfl rfl (by kernel_rfl) (C_spec_l1In w1 x_now 0 1000000) ?_
  rintro _ w2 ⟨k7, rfl⟩
  have m8 := m6.extk k7
  refine wl_pure (.bool (!(F_spec_l1In x_now 0 1000000))) (want_none rfl) rfl rfl (by kernel_rfl) ?_
  refine wl_nil ?_
  refine wq_then ?_
  rcases Bool.eq_false_or_eq_true (F_spec_l1In x_now 0 1000000) with h9 | h9
  · have q10 := spec_l1In_t h9
    refine wc_false (congrArg (fun b => Value.bool (!b)) h9) ?_
    refine wc_skip ?_
    refine wq_then ?_
    refine wc_seq ?_
    refine wc_region ?_
    refine wl_mv (.int .i64 x_now) (want_none rfl) rfl rfl (.inl rfl) rfl ?_
    refine wl_arith (x_now + 1) (want_none rfl) rfl rfl (by kernel_rfl) (by omega) (by omega) ?_
    refine wl_pure (.agg #[(.bool true), (.int .i64 (x_now + 1)), (.int .i64 1), (.int .i64 1)]) (want_none rfl) rfl rfl (by kernel_rfl) ?_
    have b11 := (b5.kp k7)
    refine wl_store (.agg #[(.bool true), (.int .i64 (x_now + 1)), (.int .i64 1), (.int .i64 1)]) [(.bool true), (.int .i64 (x_now + 1)), (.int .i64 1), (.int .i64 1)] [(.bool true), (.int .i64 (x_now + 1)), (.int .i64 1), (.int .i64 1)] (want_none rfl) rfl rfl rfl rfl rfl (one_cons rfl (one_cons rfl (one_cons rfl (one_cons rfl one_nil)))) sizeOf_28 b11 rfl rfl ?_
    intro w3 k12 b13 z14
    have m15 := m8.ext k12 (fun k hk => by subst hk; exact Nat.le_trans (Nat.le_refl _) p2)
    refine wl_nil ?_
    refine wq_then ?_
    refine wc_ret ?_
    refine ret_1 (.inl rfl) (.agg #[(.bool true), (.int .i64 (x_now + 1)), (.int .i64 1), (.int .i64 1)]) rfl (rv_c [(.bool true), (.int .i64 (x_now + 1)), (.int .i64 1), (.int .i64 1)] rfl b13 isAgg_28 sizeOf_28) ?_
    refine ⟨m15.keep0, ?_⟩
    have hF16 : F_spec_TimerSet x_now = { On := true, Due := (x_now + 1), Wait := 1, Tries := 1 : PTimer } := by simp only [F_spec_TimerSet, h9, cond_true, cond_false]
    rw [hF16]
    exact rfl
  · have q17 := spec_l1In_f h9
    refine wc_true (congrArg (fun b => Value.bool (!b)) h9) ?_
    refine wc_seq ?_
    refine wc_region ?_
    refine wl_pure (.agg #[(.bool false), (.int .i64 0), (.int .i64 0), (.int .i64 0)]) (want_none rfl) rfl rfl (by kernel_rfl) ?_
    have b18 := (b5.kp k7)
    refine wl_store (.agg #[(.bool false), (.int .i64 0), (.int .i64 0), (.int .i64 0)]) [(.bool false), (.int .i64 0), (.int .i64 0), (.int .i64 0)] [(.bool false), (.int .i64 0), (.int .i64 0), (.int .i64 0)] (want_none rfl) rfl rfl rfl rfl rfl (one_cons rfl (one_cons rfl (one_cons rfl (one_cons rfl one_nil)))) sizeOf_28 b18 rfl rfl ?_
    intro w3 k19 b20 z21
    have m22 := m8.ext k19 (fun k hk => by subst hk; exact Nat.le_trans (Nat.le_refl _) p2)
    refine wl_nil ?_
    refine wq_then ?_
    refine wc_ret ?_
    refine wq_then_ret ?_
    refine ret_1 (.inl rfl) (.agg #[(.bool false), (.int .i64 0), (.int .i64 0), (.int .i64 0)]) rfl (rv_c [(.bool false), (.int .i64 0), (.int .i64 0), (.int .i64 0)] rfl b20 isAgg_28 sizeOf_28) ?_
    refine ⟨m22.keep0, ?_⟩
    have hF23 : F_spec_TimerSet x_now = { On := false, Due := 0, Wait := 0, Tries := 0 : PTimer } := by simp only [F_spec_TimerSet, h9, cond_true, cond_false]
    rw [hF23]
    exact rfl

def F_impl_TimerSet (x_now : Int) : (PTimer) := bif (F_impl_within x_now 0 1000000) then ({ On := true, Due := (x_now + 1), Wait := 1, Tries := 1 : PTimer }) else ({ On := false, Due := 0, Wait := 0, Tries := 0 : PTimer })
theorem C_impl_TimerSet (w0 : World) (x_now : Int)  : Fn Try.prog 23 #[(.int .i64 x_now)] w0 (fun v w' => Keep w0 w' ∧ O_28 w' w0.heap.size v (F_impl_TimerSet x_now)) := by
  refine fn_of (n := 10) (l := [(.int .i64 x_now), undef, undef, undef, undef, undef, undef, undef, undef, undef]) Try.func23 rfl rfl (by kernel_rfl) rfl ?_
  refine wc_seq ?_
  refine wc_region ?_
  refine wl_alloc (want_none rfl) (.agg #[(.bool false), (.int .i64 0), (.int .i64 0), (.int .i64 0)]) [(.bool false), (.int .i64 0), (.int .i64 0), (.int .i64 0)] zero_28 rfl rfl rfl rfl ?_
  intro g1 w1 p2 p3 k4 b5
  have m6 := (Ch.base w0).extk k4
  refine wl_nil ?_
  refine wq_then ?_
  refine wc_seq ?_
  refine wc_seq ?_
  refine wc_region ?_
  refine wl_mv (.int .i64 x_now) (want_none rfl) rfl rfl (.inl rfl) rfl ?_
  refine wl_call (want_none rfl) (args := #[(.int .i64 x_now), (.int .i64 0), (.int .i64 1000000)]) rfl rfl (by kernel_rfl) (C_impl_within w1 x_now 0 1000000) ?_
  rintro _ w2 ⟨k7, rfl⟩
  have m8 := m6.extk k7
  refine wl_pure (.bool (!(F_impl_within x_now 0 1000000))) (want_none rfl) rfl rfl (by kernel_rfl) ?_
  refine wl_nil ?_
  refine wq_then ?_
  rcases Bool.eq_false_or_eq_true (F_impl_within x_now 0 1000000) with h9 | h9
  · have q10 := impl_within_t h9
    refine wc_false (congrArg (fun b => Value.bool (!b)) h9) ?_
    refine wc_skip ?_
    refine wq_then ?_
    refine wc_seq ?_
    refine wc_region ?_
    refine wl_mv (.int .i64 x_now) (want_none rfl) rfl rfl (.inl rfl) rfl ?_
    refine wl_arith (x_now + 1) (want_none rfl) rfl rfl (by kernel_rfl) (by omega) (by omega) ?_
    refine wl_pure (.agg #[(.bool true), (.int .i64 (x_now + 1)), (.int .i64 1), (.int .i64 1)]) (want_none rfl) rfl rfl (by kernel_rfl) ?_
    have b11 := (b5.kp k7)
    refine wl_store (.agg #[(.bool true), (.int .i64 (x_now + 1)), (.int .i64 1), (.int .i64 1)]) [(.bool true), (.int .i64 (x_now + 1)), (.int .i64 1), (.int .i64 1)] [(.bool true), (.int .i64 (x_now + 1)), (.int .i64 1), (.int .i64 1)] (want_none rfl) rfl rfl rfl rfl rfl (one_cons rfl (one_cons rfl (one_cons rfl (one_cons rfl one_nil)))) sizeOf_28 b11 rfl rfl ?_
    intro w3 k12 b13 z14
    have m15 := m8.ext k12 (fun k hk => by subst hk; exact Nat.le_trans (Nat.le_refl _) p2)
    refine wl_nil ?_
    refine wq_then ?_
    refine wc_ret ?_
    refine ret_1 (.inl rfl) (.agg #[(.bool true), (.int .i64 (x_now + 1)), (.int .i64 1), (.int .i64 1)]) rfl (rv_c [(.bool true), (.int .i64 (x_now + 1)), (.int .i64 1), (.int .i64 1)] rfl b13 isAgg_28 sizeOf_28) ?_
    refine ⟨m15.keep0, ?_⟩
    have hF16 : F_impl_TimerSet x_now = { On := true, Due := (x_now + 1), Wait := 1, Tries := 1 : PTimer } := by simp only [F_impl_TimerSet, h9, cond_true, cond_false]
    rw [hF16]
    exact rfl
  · have q17 := impl_within_f h9
    refine wc_true (congrArg (fun b => Value.bool (!b)) h9) ?_
    refine wc_seq ?_
    refine wc_region ?_
    refine wl_pure (.agg #[(.bool false), (.int .i64 0), (.int .i64 0), (.int .i64 0)]) (want_none rfl) rfl rfl (by kernel_rfl) ?_
    have b18 := (b5.kp k7)
    refine wl_store (.agg #[(.bool false), (.int .i64 0), (.int .i64 0), (.int .i64 0)]) [(.bool false), (.int .i64 0), (.int .i64 0), (.int .i64 0)] [(.bool false), (.int .i64 0), (.int .i64 0), (.int .i64 0)] (want_none rfl) rfl rfl rfl rfl rfl (one_cons rfl (one_cons rfl (one_cons rfl (one_cons rfl one_nil)))) sizeOf_28 b18 rfl rfl ?_
    intro w3 k19 b20 z21
    have m22 := m8.ext k19 (fun k hk => by subst hk; exact Nat.le_trans (Nat.le_refl _) p2)
    refine wl_nil ?_
    refine wq_then ?_
    refine wc_ret ?_
    refine wq_then_ret ?_
    refine ret_1 (.inl rfl) (.agg #[(.bool false), (.int .i64 0), (.int .i64 0), (.int .i64 0)]) rfl (rv_c [(.bool false), (.int .i64 0), (.int .i64 0), (.int .i64 0)] rfl b20 isAgg_28 sizeOf_28) ?_
    refine ⟨m22.keep0, ?_⟩
    have hF23 : F_impl_TimerSet x_now = { On := false, Due := 0, Wait := 0, Tries := 0 : PTimer } := by simp only [F_impl_TimerSet, h9, cond_true, cond_false]
    rw [hF23]
    exact rfl

def F_laws_eqTimer (x_a : PTimer) (x_b : PTimer) : (Bool) := bif (x_a.On == x_b.On) then (bif (decide (x_a.Due = x_b.Due)) then (bif (decide (x_a.Wait = x_b.Wait)) then (bif (decide (x_a.Tries = x_b.Tries)) then (true) else (false)) else (false)) else (false)) else (false)
theorem C_laws_eqTimer (w0 : World) (v_x_a : Value) (x_a : PTimer) (r_x_a : R_28 w0 v_x_a x_a) (v_x_b : Value) (x_b : PTimer) (r_x_b : R_28 w0 v_x_b x_b)  : Fn Try.prog 24 #[v_x_a, v_x_b] w0 (fun v w' => Keep w0 w' ∧ O_4 w' w0.heap.size v (F_laws_eqTimer x_a x_b)) := by
  obtain rfl := r_x_a
  obtain rfl := r_x_b
  refine fn_of (n := 25) (l := [(.agg #[(.bool x_a.On), (.int .i64 x_a.Due), (.int .i64 x_a.Wait), (.int .i64 x_a.Tries)]), (.agg #[(.bool x_b.On), (.int .i64 x_b.Due), (.int .i64 x_b.Wait), (.int .i64 x_b.Tries)]), undef, undef, undef, undef, undef, undef, undef, undef, undef, undef, undef, undef, undef, undef, undef, undef, undef, undef, undef, undef, undef, undef, undef]) Try.func24 rfl rfl (by kernel_rfl) rfl ?_
  refine wc_seq ?_
  refine wc_region ?_
  refine wl_box (want_none rfl) [(.bool x_a.On), (.int .i64 x_a.Due), (.int .i64 x_a.Wait), (.int .i64 x_a.Tries)] rfl rfl rfl rfl ?_
  intro g1 w1 p2 p3 k4 b5
  have m6 := (Ch.base w0).extk k4
  refine wl_box (want_none rfl) [(.bool x_b.On), (.int .i64 x_b.Due), (.int .i64 x_b.Wait), (.int .i64 x_b.Tries)] rfl rfl rfl rfl ?_
  intro g7 w2 p8 p9 k10 b11
  have m12 := m6.extk k10
  refine wl_mv (.bool false) (want_none rfl) rfl rfl (.inr rfl) rfl ?_
  refine wl_nil ?_
  refine wq_then ?_
  refine wc_seq ?_
  refine wc_seq ?_
  refine wc_region ?_
  refine wl_pure (.pointer (some ⟨g1, 0, none⟩)) (want_none rfl) rfl rfl (by kernel_rfl) ?_
  have b13 := (b5.kp k10)
  refine wl_load1 (.bool x_a.On) (want_none rfl) rfl rfl rfl rfl isAgg_4 b13 rfl ?_
  refine wl_pure (.pointer (some ⟨g7, 0, none⟩)) (want_none rfl) rfl rfl (by kernel_rfl) ?_
  refine wl_load1 (.bool x_b.On) (want_none rfl) rfl rfl rfl rfl isAgg_4 b11 rfl ?_
  refine wl_pure (.bool (!(x_a.On == x_b.On))) (want_none rfl) rfl rfl (by kernel_rfl) ?_
  refine wl_nil ?_
  refine wq_then ?_
  rcases Bool.eq_false_or_eq_true (x_a.On == x_b.On) with h14 | h14
  · skip
    refine wc_false (congrArg (fun b => Value.bool (!b)) h14) ?_
    refine wc_skip ?_
    refine wq_then ?_
    refine wc_seq ?_
    refine wc_seq ?_
    refine wc_region ?_
    refine wl_pure (.pointer (some ⟨g1, 1, none⟩)) (want_none rfl) rfl rfl (by kernel_rfl) ?_
    refine wl_load1 (.int .i64 x_a.Due) (want_none rfl) rfl rfl rfl rfl isAgg_3 b13 rfl ?_
    refine wl_pure (.pointer (some ⟨g7, 1, none⟩)) (want_none rfl) rfl rfl (by kernel_rfl) ?_
    refine wl_load1 (.int .i64 x_b.Due) (want_none rfl) rfl rfl rfl rfl isAgg_3 b11 rfl ?_
    refine wl_pure (.bool (!(decide (x_a.Due = x_b.Due)))) (want_none rfl) rfl rfl (by kernel_rfl) ?_
    refine wl_nil ?_
    refine wq_then ?_
    rcases Bool.eq_false_or_eq_true (decide (x_a.Due = x_b.Due)) with h16 | h16
    · have q17 := of_decide_eq_true h16
      refine wc_false (congrArg (fun b => Value.bool (!b)) h16) ?_
      refine wc_skip ?_
      refine wq_then ?_
      refine wc_seq ?_
      refine wc_seq ?_
      refine wc_region ?_
      refine wl_pure (.pointer (some ⟨g1, 2, none⟩)) (want_none rfl) rfl rfl (by kernel_rfl) ?_
      refine wl_load1 (.int .i64 x_a.Wait) (want_none rfl) rfl rfl rfl rfl isAgg_3 b13 rfl ?_
      refine wl_pure (.pointer (some ⟨g7, 2, none⟩)) (want_none rfl) rfl rfl (by kernel_rfl) ?_
      refine wl_load1 (.int .i64 x_b.Wait) (want_none rfl) rfl rfl rfl rfl isAgg_3 b11 rfl ?_
      refine wl_pure (.bool (!(decide (x_a.Wait = x_b.Wait)))) (want_none rfl) rfl rfl (by kernel_rfl) ?_
      refine wl_nil ?_
      refine wq_then ?_
      rcases Bool.eq_false_or_eq_true (decide (x_a.Wait = x_b.Wait)) with h18 | h18
      · have q19 := of_decide_eq_true h18
        refine wc_false (congrArg (fun b => Value.bool (!b)) h18) ?_
        refine wc_skip ?_
        refine wq_then ?_
        refine wc_seq ?_
        refine wc_seq ?_
        refine wc_region ?_
        refine wl_pure (.pointer (some ⟨g1, 3, none⟩)) (want_none rfl) rfl rfl (by kernel_rfl) ?_
        refine wl_load1 (.int .i64 x_a.Tries) (want_none rfl) rfl rfl rfl rfl isAgg_3 b13 rfl ?_
        refine wl_pure (.pointer (some ⟨g7, 3, none⟩)) (want_none rfl) rfl rfl (by kernel_rfl) ?_
        refine wl_load1 (.int .i64 x_b.Tries) (want_none rfl) rfl rfl rfl rfl isAgg_3 b11 rfl ?_
        refine wl_pure (.bool (!(decide (x_a.Tries = x_b.Tries)))) (want_none rfl) rfl rfl (by kernel_rfl) ?_
        refine wl_nil ?_
        refine wq_then ?_
        rcases Bool.eq_false_or_eq_true (decide (x_a.Tries = x_b.Tries)) with h20 | h20
        · have q21 := of_decide_eq_true h20
          refine wc_false (congrArg (fun b => Value.bool (!b)) h20) ?_
          refine wc_skip ?_
          refine wq_then ?_
          refine wc_seq ?_
          refine wc_region ?_
          refine wl_mv (.bool true) (want_none rfl) rfl rfl (.inr rfl) rfl ?_
          refine wl_nil ?_
          refine wq_then ?_
          refine wc_ret ?_
          refine ret_1 (.inl rfl) (.bool true) rfl rfl ?_
          refine ⟨m12.keep0, ?_⟩
          have hF22 : F_laws_eqTimer x_a x_b = true := by simp only [F_laws_eqTimer, h14, h16, h18, h20, cond_true, cond_false]
          rw [hF22]
          exact rfl
        · have q23 := of_decide_eq_false h20
          refine wc_true (congrArg (fun b => Value.bool (!b)) h20) ?_
          refine wc_seq ?_
          refine wc_region ?_
          refine wl_mv (.bool false) (want_none rfl) rfl rfl (.inr rfl) rfl ?_
          refine wl_nil ?_
          refine wq_then ?_
          refine wc_ret ?_
          refine wq_then_ret ?_
          refine ret_1 (.inl rfl) (.bool false) rfl rfl ?_
          refine ⟨m12.keep0, ?_⟩
          have hF24 : F_laws_eqTimer x_a x_b = false := by simp only [F_laws_eqTimer, h14, h16, h18, h20, cond_true, cond_false]
          rw [hF24]
          exact rfl
      · have q25 := of_decide_eq_false h18
        refine wc_true (congrArg (fun b => Value.bool (!b)) h18) ?_
        refine wc_seq ?_
        refine wc_region ?_
        refine wl_mv (.bool false) (want_none rfl) rfl rfl (.inr rfl) rfl ?_
        refine wl_nil ?_
        refine wq_then ?_
        refine wc_ret ?_
        refine wq_then_ret ?_
        refine ret_1 (.inl rfl) (.bool false) rfl rfl ?_
        refine ⟨m12.keep0, ?_⟩
        have hF26 : F_laws_eqTimer x_a x_b = false := by simp only [F_laws_eqTimer, h14, h16, h18, cond_true, cond_false]
        rw [hF26]
        exact rfl
    · have q27 := of_decide_eq_false h16
      refine wc_true (congrArg (fun b => Value.bool (!b)) h16) ?_
      refine wc_seq ?_
      refine wc_region ?_
      refine wl_mv (.bool false) (want_none rfl) rfl rfl (.inr rfl) rfl ?_
      refine wl_nil ?_
      refine wq_then ?_
      refine wc_ret ?_
      refine wq_then_ret ?_
      refine ret_1 (.inl rfl) (.bool false) rfl rfl ?_
      refine ⟨m12.keep0, ?_⟩
      have hF28 : F_laws_eqTimer x_a x_b = false := by simp only [F_laws_eqTimer, h14, h16, cond_true, cond_false]
      rw [hF28]
      exact rfl
  · skip
    refine wc_true (congrArg (fun b => Value.bool (!b)) h14) ?_
    refine wc_seq ?_
    refine wc_region ?_
    refine wl_mv (.bool false) (want_none rfl) rfl rfl (.inr rfl) rfl ?_
    refine wl_nil ?_
    refine wq_then ?_
    refine wc_ret ?_
    refine wq_then_ret ?_
    refine ret_1 (.inl rfl) (.bool false) rfl rfl ?_
    refine ⟨m12.keep0, ?_⟩
    have hF30 : F_laws_eqTimer x_a x_b = false := by simp only [F_laws_eqTimer, h14, cond_true, cond_false]
    rw [hF30]
    exact rfl

def F_laws_FnExactTimerSet (x_aNow : Int) : (Bool) := bif (F_laws_eqTimer (F_impl_TimerSet x_aNow) (F_spec_TimerSet x_aNow)) then (true) else (false)
theorem C_laws_FnExactTimerSet (w0 : World) (x_aNow : Int)  : Fn Try.prog 6 #[(.int .i64 x_aNow)] w0 (fun v w' => Keep w0 w' ∧ O_4 w' w0.heap.size v (F_laws_FnExactTimerSet x_aNow)) := by
  refine fn_of (n := 13) (l := [(.int .i64 x_aNow), undef, undef, undef, undef, undef, undef, undef, undef, undef, undef, undef, undef]) Try.func6 rfl rfl (by kernel_rfl) rfl ?_
  refine wc_seq ?_
  refine wc_region ?_
  refine wl_mv (.bool false) (want_none rfl) rfl rfl (.inr rfl) rfl ?_
  refine wl_nil ?_
  refine wq_then ?_
  refine wc_seq ?_
  refine wc_region ?_
  refine wl_mv (.int .i64 x_aNow) (want_none rfl) rfl rfl (.inl rfl) rfl ?_
  refine wl_call (want_none rfl) (args := #[(.int .i64 x_aNow)]) rfl rfl (by kernel_rfl) (C_spec_TimerSet w0 x_aNow) ?_
  rintro _ w1 ⟨k1, rfl⟩
  have m2 := (Ch.base w0).extk k1
  refine wl_alloc (want_none rfl) (.agg #[(.bool false), (.int .i64 0), (.int .i64 0), (.int .i64 0)]) [(.bool false), (.int .i64 0), (.int .i64 0), (.int .i64 0)] zero_28 rfl rfl rfl rfl ?_
  intro g3 w2 p4 p5 k6 b7
  have m8 := m2.extk k6
  refine wl_store (.agg #[(.bool ((F_spec_TimerSet x_aNow).On)), (.int .i64 ((F_spec_TimerSet x_aNow).Due)), (.int .i64 ((F_spec_TimerSet x_aNow).Wait)), (.int .i64 ((F_spec_TimerSet x_aNow).Tries))]) [(.bool ((F_spec_TimerSet x_aNow).On)), (.int .i64 ((F_spec_TimerSet x_aNow).Due)), (.int .i64 ((F_spec_TimerSet x_aNow).Wait)), (.int .i64 ((F_spec_TimerSet x_aNow).Tries))] [(.bool ((F_spec_TimerSet x_aNow).On)), (.int .i64 ((F_spec_TimerSet x_aNow).Due)), (.int .i64 ((F_spec_TimerSet x_aNow).Wait)), (.int .i64 ((F_spec_TimerSet x_aNow).Tries))] (want_none rfl) rfl rfl rfl rfl rfl (one_cons rfl (one_cons rfl (one_cons rfl (one_cons rfl one_nil)))) sizeOf_28 b7 rfl rfl ?_
  intro w3 k9 b10 z11
  have m12 := m8.ext k9 (fun k hk => by subst hk; exact Nat.le_trans k1.size p4)
  refine wl_nil ?_
  refine wq_then ?_
  refine wc_seq ?_
  refine wc_region ?_
  refine wl_mv (.int .i64 x_aNow) (want_none rfl) rfl rfl (.inl rfl) rfl ?_
  refine wl_call (want_none rfl) (args := #[(.int .i64 x_aNow)]) rfl rfl (by kernel_rfl) (C_impl_TimerSet w3 x_aNow) ?_
  rintro _ w4 ⟨k13, rfl⟩
  have m14 := m12.extk k13
  refine wl_alloc (want_none rfl) (.agg #[(.bool false), (.int .i64 0), (.int .i64 0), (.int .i64 0)]) [(.bool false), (.int .i64 0), (.int .i64 0), (.int .i64 0)] zero_28 rfl rfl rfl rfl ?_
  intro g15 w5 p16 p17 k18 b19
  have m20 := m14.extk k18
  refine wl_store (.agg #[(.bool ((F_impl_TimerSet x_aNow).On)), (.int .i64 ((F_impl_TimerSet x_aNow).Due)), (.int .i64 ((F_impl_TimerSet x_aNow).Wait)), (.int .i64 ((F_impl_TimerSet x_aNow).Tries))]) [(.bool ((F_impl_TimerSet x_aNow).On)), (.int .i64 ((F_impl_TimerSet x_aNow).Due)), (.int .i64 ((F_impl_TimerSet x_aNow).Wait)), (.int .i64 ((F_impl_TimerSet x_aNow).Tries))] [(.bool ((F_impl_TimerSet x_aNow).On)), (.int .i64 ((F_impl_TimerSet x_aNow).Due)), (.int .i64 ((F_impl_TimerSet x_aNow).Wait)), (.int .i64 ((F_impl_TimerSet x_aNow).Tries))] (want_none rfl) rfl rfl rfl rfl rfl (one_cons rfl (one_cons rfl (one_cons rfl (one_cons rfl one_nil)))) sizeOf_28 b19 rfl rfl ?_
  intro w6 k21 b22 z23
  have m24 := m20.ext k21 (fun k hk => by subst hk; exact Nat.le_trans (Nat.le_trans (Nat.le_trans (Nat.le_trans k1.size k6.size) k9.size) k13.size) p16)
  refine wl_nil ?_
  refine wq_then ?_
  refine wc_seq ?_
  refine wc_seq ?_
  refine wc_region ?_
  refine wl_loadN [(.bool ((F_impl_TimerSet x_aNow).On)), (.int .i64 ((F_impl_TimerSet x_aNow).Due)), (.int .i64 ((F_impl_TimerSet x_aNow).Wait)), (.int .i64 ((F_impl_TimerSet x_aNow).Tries))] (want_none rfl) rfl rfl rfl rfl isAgg_28 sizeOf_28 b22 rfl ?_
  have b25 := (((b10.kp k13).kp k18).ch k21 (Nat.ne_of_lt (Nat.lt_of_lt_of_le p5 (Nat.le_trans (Nat.le_trans k9.size k13.size) p16))))
  refine wl_loadN [(.bool ((F_spec_TimerSet x_aNow).On)), (.int .i64 ((F_spec_TimerSet x_aNow).Due)), (.int .i64 ((F_spec_TimerSet x_aNow).Wait)), (.int .i64 ((F_spec_TimerSet x_aNow).Tries))] (want_none rfl) rfl rfl rfl rfl isAgg_28 sizeOf_28 b25 rfl ?_
  refine wl_call (want_none rfl) (args := #[(.agg #[(.bool ((F_impl_TimerSet x_aNow).On)), (.int .i64 ((F_impl_TimerSet x_aNow).Due)), (.int .i64 ((F_impl_TimerSet x_aNow).Wait)), (.int .i64 ((F_impl_TimerSet x_aNow).Tries))]), (.agg #[(.bool ((F_spec_TimerSet x_aNow).On)), (.int .i64 ((F_spec_TimerSet x_aNow).Due)), (.int .i64 ((F_spec_TimerSet x_aNow).Wait)), (.int .i64 ((F_spec_TimerSet x_aNow).Tries))])]) rfl rfl (by kernel_rfl) (C_laws_eqTimer w6 (.agg #[(.bool ((F_impl_TimerSet x_aNow).On)), (.int .i64 ((F_impl_TimerSet x_aNow).Due)), (.int .i64 ((F_impl_TimerSet x_aNow).Wait)), (.int .i64 ((F_impl_TimerSet x_aNow).Tries))]) (F_impl_TimerSet x_aNow) (show R_28 w6 (.agg #[(.bool ((F_impl_TimerSet x_aNow).On)), (.int .i64 ((F_impl_TimerSet x_aNow).Due)), (.int .i64 ((F_impl_TimerSet x_aNow).Wait)), (.int .i64 ((F_impl_TimerSet x_aNow).Tries))]) (F_impl_TimerSet x_aNow) from rfl) (.agg #[(.bool ((F_spec_TimerSet x_aNow).On)), (.int .i64 ((F_spec_TimerSet x_aNow).Due)), (.int .i64 ((F_spec_TimerSet x_aNow).Wait)), (.int .i64 ((F_spec_TimerSet x_aNow).Tries))]) (F_spec_TimerSet x_aNow) (show R_28 w6 (.agg #[(.bool ((F_spec_TimerSet x_aNow).On)), (.int .i64 ((F_spec_TimerSet x_aNow).Due)), (.int .i64 ((F_spec_TimerSet x_aNow).Wait)), (.int .i64 ((F_spec_TimerSet x_aNow).Tries))]) (F_spec_TimerSet x_aNow) from rfl)) ?_
  rintro _ w7 ⟨k26, rfl⟩
  have m27 := m24.extk k26
  refine wl_pure (.bool (!(F_laws_eqTimer (F_impl_TimerSet x_aNow) (F_spec_TimerSet x_aNow)))) (want_none rfl) rfl rfl (by kernel_rfl) ?_
  refine wl_nil ?_
  refine wq_then ?_
  rcases Bool.eq_false_or_eq_true (F_laws_eqTimer (F_impl_TimerSet x_aNow) (F_spec_TimerSet x_aNow)) with h28 | h28
  · skip
    refine wc_false (congrArg (fun b => Value.bool (!b)) h28) ?_
    refine wc_skip ?_
    refine wq_then ?_
    refine wc_seq ?_
    refine wc_region ?_
    refine wl_mv (.bool true) (want_none rfl) rfl rfl (.inr rfl) rfl ?_
    refine wl_nil ?_
    refine wq_then ?_
    refine wc_ret ?_
    refine ret_1 (.inl rfl) (.bool true) rfl rfl ?_
    refine ⟨m27.keep0, ?_⟩
    have hF30 : F_laws_FnExactTimerSet x_aNow = true := by simp only [F_laws_FnExactTimerSet, h28, cond_true, cond_false]
    rw [hF30]
    exact rfl
  · skip
    refine wc_true (congrArg (fun b => Value.bool (!b)) h28) ?_
    refine wc_seq ?_
    refine wc_region ?_
    refine wl_mv (.bool false) (want_none rfl) rfl rfl (.inr rfl) rfl ?_
    refine wl_nil ?_
    refine wq_then ?_
    refine wc_ret ?_
    refine wq_then_ret ?_
    refine ret_1 (.inl rfl) (.bool false) rfl rfl ?_
    refine ⟨m27.keep0, ?_⟩
    have hF32 : F_laws_FnExactTimerSet x_aNow = false := by simp only [F_laws_FnExactTimerSet, h28, cond_true, cond_false]
    rw [hF32]
    exact rfl

def F_spec_TimerFires (x_t : PTimer) (x_now : Int) : (Bool) := bif (F_spec_TimerOk x_t) then (bif x_t.On then (bif (F_spec_l1In x_now 0 1000000) then (decide (x_t.Due ≤ x_now)) else (false)) else (false)) else (false)
theorem C_spec_TimerFires (w0 : World) (v_x_t : Value) (x_t : PTimer) (r_x_t : R_28 w0 v_x_t x_t) (x_now : Int)  : Fn Try.prog 25 #[v_x_t, (.int .i64 x_now)] w0 (fun v w' => Keep w0 w' ∧ O_4 w' w0.heap.size v (F_spec_TimerFires x_t x_now)) := by
  obtain rfl := r_x_t
  refine fn_of (n := 21) (l := [(.agg #[(.bool x_t.On), (.int .i64 x_t.Due), (.int .i64 x_t.Wait), (.int .i64 x_t.Tries)]), (.int .i64 x_now), undef, undef, undef, undef, undef, undef, undef, undef, undef, undef, undef, undef, undef, undef, undef, undef, undef, undef, undef]) Try.func25 rfl rfl (by kernel_rfl) rfl ?_
  refine wc_seq ?_
  refine wc_region ?_
  refine wl_box (want_none rfl) [(.bool x_t.On), (.int .i64 x_t.Due), (.int .i64 x_t.Wait), (.int .i64 x_t.Tries)] rfl rfl rfl rfl ?_
  intro g1 w1 p2 p3 k4 b5
  have m6 := (Ch.base w0).extk k4
  refine wl_mv (.bool false) (want_none rfl) rfl rfl (.inr rfl) rfl ?_
  refine wl_nil ?_
  refine wq_then ?_
  refine wc_seq ?_
  refine wc_region ?_
  refine wl_loadN [(.bool x_t.On), (.int .i64 x_t.Due), (.int .i64 x_t.Wait), (.int .i64 x_t.Tries)] (want_none rfl) rfl rfl rfl rfl isAgg_28 sizeOf_28 b5 rfl ?_
  refine wl_call (want_none rfl) (args := #[(.agg #[(.bool x_t.On), (.int .i64 x_t.Due), (.int .i64 x_t.Wait), (.int .i64 x_t.Tries)])]) rfl rfl (by kernel_rfl) (C_spec_TimerOk w1 (.agg #[(.bool x_t.On), (.int .i64 x_t.Due), (.int .i64 x_t.Wait), (.int .i64 x_t.Tries)]) x_t (show R_28 w1 (.agg #[(.bool x_t.On), (.int .i64 x_t.Due), (.int .i64 x_t.Wait), (.int .i64 x_t.Tries)]) x_t from rfl)) ?_
  rintro _ w2 ⟨k7, rfl⟩
  have m8 := m6.extk k7
  refine wl_mv (.bool (F_spec_TimerOk x_t)) (want_none rfl) rfl rfl (.inl rfl) rfl ?_
  rcases Bool.eq_false_or_eq_true (F_spec_TimerOk x_t) with h9 | h9
  · skip
    refine wl_pure (.pointer (some ⟨g1, 0, none⟩)) (want_some rfl rfl rfl (congrArg Value.bool h9)) rfl rfl (by kernel_rfl) ?_
    have b11 := (b5.kp k7)
    refine wl_load1 (.bool x_t.On) (want_some rfl rfl rfl (congrArg Value.bool h9)) rfl rfl rfl rfl isAgg_4 b11 rfl ?_
    refine wl_pick_t (.bool x_t.On) (want_none rfl) rfl rfl rfl (congrArg Value.bool h9) rfl ?_
    refine wl_mv (.bool x_t.On) (want_none rfl) rfl rfl (.inl rfl) rfl ?_
    rcases Bool.eq_false_or_eq_true x_t.On with h12 | h12
    · skip
      refine wl_mv (.int .i64 x_now) (want_some rfl rfl rfl (congrArg Value.bool h12)) rfl rfl (.inl rfl) rfl ?_
      refine wl_call (want_some rfl rfl rfl (congrArg Value.bool h12)) (args := #[(.int .i64 x_now), (.int .i64 0), (.int .i64 1000000)]) rfl rfl (by kernel_rfl) (C_spec_l1In w2 x_now 0 1000000) ?_
      rintro _ w3 ⟨k14, rfl⟩
      have m15 := m8.extk k14
      refine wl_pick_t (.bool (F_spec_l1In x_now 0 1000000)) (want_none rfl) rfl rfl rfl (congrArg Value.bool h12) rfl ?_
      refine wl_mv (.bool (F_spec_l1In x_now 0 1000000)) (want_none rfl) rfl rfl (.inl rfl) rfl ?_
      rcases Bool.eq_false_or_eq_true (F_spec_l1In x_now 0 1000000) with h16 | h16
      · have q17 := spec_l1In_t h16
        refine wl_mv (.int .i64 x_now) (want_some rfl rfl rfl (congrArg Value.bool h16)) rfl rfl (.inl rfl) rfl ?_
        refine wl_pure (.pointer (some ⟨g1, 1, none⟩)) (want_some rfl rfl rfl (congrArg Value.bool h16)) rfl rfl (by kernel_rfl) ?_
        have b18 := (b11.kp k14)
        refine wl_load1 (.int .i64 x_t.Due) (want_some rfl rfl rfl (congrArg Value.bool h16)) rfl rfl rfl rfl isAgg_3 b18 rfl ?_
        refine wl_pure (.bool (decide (x_t.Due ≤ x_now))) (want_some rfl rfl rfl (congrArg Value.bool h16)) rfl rfl (by kernel_rfl) ?_
        refine wl_pick_t (.bool (decide (x_t.Due ≤ x_now))) (want_none rfl) rfl rfl rfl (congrArg Value.bool h16) rfl ?_
        refine wl_mv (.bool (decide (x_t.Due ≤ x_now))) (want_none rfl) rfl rfl (.inr rfl) rfl ?_
        refine wl_nil ?_
        refine wq_then ?_
        refine wc_ret ?_
        refine ret_1 (.inl rfl) (.bool (decide (x_t.Due ≤ x_now))) rfl rfl ?_
        refine ⟨m15.keep0, ?_⟩
        have hF19 : F_spec_TimerFires x_t x_now = decide (x_t.Due ≤ x_now) := by simp only [F_spec_TimerFires, h9, h12, h16, cond_true, cond_false]
        rw [hF19]
        exact rfl
      · have q20 := spec_l1In_f h16
        refine wl_skip rfl rfl rfl (congrArg Value.bool h16) rfl rfl rfl ?_
        refine wl_skip rfl rfl rfl (congrArg Value.bool h16) rfl rfl rfl ?_
        refine wl_skip rfl rfl rfl (congrArg Value.bool h16) rfl rfl rfl ?_
        refine wl_skip rfl rfl rfl (congrArg Value.bool h16) rfl rfl rfl ?_
        refine wl_pick_f (.bool false) (want_none rfl) rfl rfl rfl (congrArg Value.bool h16) rfl ?_
        refine wl_mv (.bool false) (want_none rfl) rfl rfl (.inr rfl) rfl ?_
        refine wl_nil ?_
        refine wq_then ?_
        refine wc_ret ?_
        refine ret_1 (.inl rfl) (.bool false) rfl rfl ?_
        refine ⟨m15.keep0, ?_⟩
        have hF21 : F_spec_TimerFires x_t x_now = false := by simp only [F_spec_TimerFires, h9, h12, h16, cond_true, cond_false]
        rw [hF21]
        exact rfl
    · skip
      refine wl_skip rfl rfl rfl (congrArg Value.bool h12) rfl rfl rfl ?_
      refine wl_skip rfl rfl rfl (congrArg Value.bool h12) rfl rfl rfl ?_
      refine wl_pick_f (.bool false) (want_none rfl) rfl rfl rfl (congrArg Value.bool h12) rfl ?_
      refine wl_mv (.bool false) (want_none rfl) rfl rfl (.inl rfl) rfl ?_
      refine wl_skip rfl rfl rfl rfl rfl rfl rfl ?_
      refine wl_skip rfl rfl rfl rfl rfl rfl rfl ?_
      refine wl_skip rfl rfl rfl rfl rfl rfl rfl ?_
      refine wl_skip rfl rfl rfl rfl rfl rfl rfl ?_
      refine wl_pick_f (.bool false) (want_none rfl) rfl rfl rfl rfl rfl ?_
      refine wl_mv (.bool false) (want_none rfl) rfl rfl (.inr rfl) rfl ?_
      refine wl_nil ?_
      refine wq_then ?_
      refine wc_ret ?_
      refine ret_1 (.inl rfl) (.bool false) rfl rfl ?_
      refine ⟨m8.keep0, ?_⟩
      have hF23 : F_spec_TimerFires x_t x_now = false := by simp only [F_spec_TimerFires, h9, h12, cond_true, cond_false]
      rw [hF23]
      exact rfl
  · skip
    refine wl_skip rfl rfl rfl (congrArg Value.bool h9) rfl rfl rfl ?_
    refine wl_skip rfl rfl rfl (congrArg Value.bool h9) rfl rfl rfl ?_
    refine wl_pick_f (.bool false) (want_none rfl) rfl rfl rfl (congrArg Value.bool h9) rfl ?_
    refine wl_mv (.bool false) (want_none rfl) rfl rfl (.inl rfl) rfl ?_
    refine wl_skip rfl rfl rfl rfl rfl rfl rfl ?_
    refine wl_skip rfl rfl rfl rfl rfl rfl rfl ?_
    refine wl_pick_f (.bool false) (want_none rfl) rfl rfl rfl rfl rfl ?_
    refine wl_mv (.bool false) (want_none rfl) rfl rfl (.inl rfl) rfl ?_
    refine wl_skip rfl rfl rfl rfl rfl rfl rfl ?_
    refine wl_skip rfl rfl rfl rfl rfl rfl rfl ?_
    refine wl_skip rfl rfl rfl rfl rfl rfl rfl ?_
    refine wl_skip rfl rfl rfl rfl rfl rfl rfl ?_
    refine wl_pick_f (.bool false) (want_none rfl) rfl rfl rfl rfl rfl ?_
    refine wl_mv (.bool false) (want_none rfl) rfl rfl (.inr rfl) rfl ?_
    refine wl_nil ?_
    refine wq_then ?_
    refine wc_ret ?_
    refine ret_1 (.inl rfl) (.bool false) rfl rfl ?_
    refine ⟨m8.keep0, ?_⟩
    have hF25 : F_spec_TimerFires x_t x_now = false := by simp only [F_spec_TimerFires, h9, cond_true, cond_false]
    rw [hF25]
    exact rfl
theorem spec_TimerFires_t {t : PTimer} {now : Int} (h : F_spec_TimerFires t now = true) : 0 ≤ t.Due ∧ t.Due ≤ 1000008 ∧ 1 ≤ t.Wait ∧ t.Wait ≤ 8 ∧ 1 ≤ t.Tries ∧ t.Tries ≤ 5 ∧ 0 ≤ now ∧ now ≤ 1000000 := by
  have hk := @spec_TimerOk_t t
  simp only [F_spec_TimerFires, F_spec_l1In, cond_eq_ite] at h
  grind

def F_impl_TimerFires (x_t : PTimer) (x_now : Int) : (Bool) := bif (F_impl_TimerOk x_t) then (bif x_t.On then (bif (F_impl_within x_now 0 1000000) then (decide (x_t.Due ≤ x_now)) else (false)) else (false)) else (false)
theorem C_impl_TimerFires (w0 : World) (v_x_t : Value) (x_t : PTimer) (r_x_t : R_28 w0 v_x_t x_t) (x_now : Int)  : Fn Try.prog 26 #[v_x_t, (.int .i64 x_now)] w0 (fun v w' => Keep w0 w' ∧ O_4 w' w0.heap.size v (F_impl_TimerFires x_t x_now)) := by
  obtain rfl := r_x_t
  refine fn_of (n := 21) (l := [(.agg #[(.bool x_t.On), (.int .i64 x_t.Due), (.int .i64 x_t.Wait), (.int .i64 x_t.Tries)]), (.int .i64 x_now), undef, undef, undef, undef, undef, undef, undef, undef, undef, undef, undef, undef, undef, undef, undef, undef, undef, undef, undef]) Try.func26 rfl rfl (by kernel_rfl) rfl ?_
  refine wc_seq ?_
  refine wc_region ?_
  refine wl_box (want_none rfl) [(.bool x_t.On), (.int .i64 x_t.Due), (.int .i64 x_t.Wait), (.int .i64 x_t.Tries)] rfl rfl rfl rfl ?_
  intro g1 w1 p2 p3 k4 b5
  have m6 := (Ch.base w0).extk k4
  refine wl_mv (.bool false) (want_none rfl) rfl rfl (.inr rfl) rfl ?_
  refine wl_nil ?_
  refine wq_then ?_
  refine wc_seq ?_
  refine wc_region ?_
  refine wl_loadN [(.bool x_t.On), (.int .i64 x_t.Due), (.int .i64 x_t.Wait), (.int .i64 x_t.Tries)] (want_none rfl) rfl rfl rfl rfl isAgg_28 sizeOf_28 b5 rfl ?_
  refine wl_call (want_none rfl) (args := #[(.agg #[(.bool x_t.On), (.int .i64 x_t.Due), (.int .i64 x_t.Wait), (.int .i64 x_t.Tries)])]) rfl rfl (by kernel_rfl) (C_impl_TimerOk w1 (.agg #[(.bool x_t.On), (.int .i64 x_t.Due), (.int .i64 x_t.Wait), (.int .i64 x_t.Tries)]) x_t (show R_28 w1 (.agg #[(.bool x_t.On), (.int .i64 x_t.Due), (.int .i64 x_t.Wait), (.int .i64 x_t.Tries)]) x_t from rfl)) ?_
  rintro _ w2 ⟨k7, rfl⟩
  have m8 := m6.extk k7
  refine wl_mv (.bool (F_impl_TimerOk x_t)) (want_none rfl) rfl rfl (.inl rfl) rfl ?_
  rcases Bool.eq_false_or_eq_true (F_impl_TimerOk x_t) with h9 | h9
  · skip
    refine wl_pure (.pointer (some ⟨g1, 0, none⟩)) (want_some rfl rfl rfl (congrArg Value.bool h9)) rfl rfl (by kernel_rfl) ?_
    have b11 := (b5.kp k7)
    refine wl_load1 (.bool x_t.On) (want_some rfl rfl rfl (congrArg Value.bool h9)) rfl rfl rfl rfl isAgg_4 b11 rfl ?_
    refine wl_pick_t (.bool x_t.On) (want_none rfl) rfl rfl rfl (congrArg Value.bool h9) rfl ?_
    refine wl_mv (.bool x_t.On) (want_none rfl) rfl rfl (.inl rfl) rfl ?_
    rcases Bool.eq_false_or_eq_true x_t.On with h12 | h12
    · skip
      refine wl_mv (.int .i64 x_now) (want_some rfl rfl rfl (congrArg Value.bool h12)) rfl rfl (.inl rfl) rfl ?_
      refine wl_call (want_some rfl rfl rfl (congrArg Value.bool h12)) (args := #[(.int .i64 x_now), (.int .i64 0), (.int .i64 1000000)]) rfl rfl (by kernel_rfl) (C_impl_within w2 x_now 0 1000000) ?_
      rintro _ w3 ⟨k14, rfl⟩
      have m15 := m8.extk k14
      refine wl_pick_t (.bool (F_impl_within x_now 0 1000000)) (want_none rfl) rfl rfl rfl (congrArg Value.bool h12) rfl ?_
      refine wl_mv (.bool (F_impl_within x_now 0 1000000)) (want_none rfl) rfl rfl (.inl rfl) rfl ?_
      rcases Bool.eq_false_or_eq_true (F_impl_within x_now 0 1000000) with h16 | h16
      · have q17 := impl_within_t h16
        refine wl_mv (.int .i64 x_now) (want_some rfl rfl rfl (congrArg Value.bool h16)) rfl rfl (.inl rfl) rfl ?_
        refine wl_pure (.pointer (some ⟨g1, 1, none⟩)) (want_some rfl rfl rfl (congrArg Value.bool h16)) rfl rfl (by kernel_rfl) ?_
        have b18 := (b11.kp k14)
        refine wl_load1 (.int .i64 x_t.Due) (want_some rfl rfl rfl (congrArg Value.bool h16)) rfl rfl rfl rfl isAgg_3 b18 rfl ?_
        refine wl_pure (.bool (decide (x_t.Due ≤ x_now))) (want_some rfl rfl rfl (congrArg Value.bool h16)) rfl rfl (by kernel_rfl) ?_
        refine wl_pick_t (.bool (decide (x_t.Due ≤ x_now))) (want_none rfl) rfl rfl rfl (congrArg Value.bool h16) rfl ?_
        refine wl_mv (.bool (decide (x_t.Due ≤ x_now))) (want_none rfl) rfl rfl (.inr rfl) rfl ?_
        refine wl_nil ?_
        refine wq_then ?_
        refine wc_ret ?_
        refine ret_1 (.inl rfl) (.bool (decide (x_t.Due ≤ x_now))) rfl rfl ?_
        refine ⟨m15.keep0, ?_⟩
        have hF19 : F_impl_TimerFires x_t x_now = decide (x_t.Due ≤ x_now) := by simp only [F_impl_TimerFires, h9, h12, h16, cond_true, cond_false]
        rw [hF19]
        exact rfl
      · have q20 := impl_within_f h16
        refine wl_skip rfl rfl rfl (congrArg Value.bool h16) rfl rfl rfl ?_
        refine wl_skip rfl rfl rfl (congrArg Value.bool h16) rfl rfl rfl ?_
        refine wl_skip rfl rfl rfl (congrArg Value.bool h16) rfl rfl rfl ?_
        refine wl_skip rfl rfl rfl (congrArg Value.bool h16) rfl rfl rfl ?_
        refine wl_pick_f (.bool false) (want_none rfl) rfl rfl rfl (congrArg Value.bool h16) rfl ?_
        refine wl_mv (.bool false) (want_none rfl) rfl rfl (.inr rfl) rfl ?_
        refine wl_nil ?_
        refine wq_then ?_
        refine wc_ret ?_
        refine ret_1 (.inl rfl) (.bool false) rfl rfl ?_
        refine ⟨m15.keep0, ?_⟩
        have hF21 : F_impl_TimerFires x_t x_now = false := by simp only [F_impl_TimerFires, h9, h12, h16, cond_true, cond_false]
        rw [hF21]
        exact rfl
    · skip
      refine wl_skip rfl rfl rfl (congrArg Value.bool h12) rfl rfl rfl ?_
      refine wl_skip rfl rfl rfl (congrArg Value.bool h12) rfl rfl rfl ?_
      refine wl_pick_f (.bool false) (want_none rfl) rfl rfl rfl (congrArg Value.bool h12) rfl ?_
      refine wl_mv (.bool false) (want_none rfl) rfl rfl (.inl rfl) rfl ?_
      refine wl_skip rfl rfl rfl rfl rfl rfl rfl ?_
      refine wl_skip rfl rfl rfl rfl rfl rfl rfl ?_
      refine wl_skip rfl rfl rfl rfl rfl rfl rfl ?_
      refine wl_skip rfl rfl rfl rfl rfl rfl rfl ?_
      refine wl_pick_f (.bool false) (want_none rfl) rfl rfl rfl rfl rfl ?_
      refine wl_mv (.bool false) (want_none rfl) rfl rfl (.inr rfl) rfl ?_
      refine wl_nil ?_
      refine wq_then ?_
      refine wc_ret ?_
      refine ret_1 (.inl rfl) (.bool false) rfl rfl ?_
      refine ⟨m8.keep0, ?_⟩
      have hF23 : F_impl_TimerFires x_t x_now = false := by simp only [F_impl_TimerFires, h9, h12, cond_true, cond_false]
      rw [hF23]
      exact rfl
  · skip
    refine wl_skip rfl rfl rfl (congrArg Value.bool h9) rfl rfl rfl ?_
    refine wl_skip rfl rfl rfl (congrArg Value.bool h9) rfl rfl rfl ?_
    refine wl_pick_f (.bool false) (want_none rfl) rfl rfl rfl (congrArg Value.bool h9) rfl ?_
    refine wl_mv (.bool false) (want_none rfl) rfl rfl (.inl rfl) rfl ?_
    refine wl_skip rfl rfl rfl rfl rfl rfl rfl ?_
    refine wl_skip rfl rfl rfl rfl rfl rfl rfl ?_
    refine wl_pick_f (.bool false) (want_none rfl) rfl rfl rfl rfl rfl ?_
    refine wl_mv (.bool false) (want_none rfl) rfl rfl (.inl rfl) rfl ?_
    refine wl_skip rfl rfl rfl rfl rfl rfl rfl ?_
    refine wl_skip rfl rfl rfl rfl rfl rfl rfl ?_
    refine wl_skip rfl rfl rfl rfl rfl rfl rfl ?_
    refine wl_skip rfl rfl rfl rfl rfl rfl rfl ?_
    refine wl_pick_f (.bool false) (want_none rfl) rfl rfl rfl rfl rfl ?_
    refine wl_mv (.bool false) (want_none rfl) rfl rfl (.inr rfl) rfl ?_
    refine wl_nil ?_
    refine wq_then ?_
    refine wc_ret ?_
    refine ret_1 (.inl rfl) (.bool false) rfl rfl ?_
    refine ⟨m8.keep0, ?_⟩
    have hF25 : F_impl_TimerFires x_t x_now = false := by simp only [F_impl_TimerFires, h9, cond_true, cond_false]
    rw [hF25]
    exact rfl
theorem impl_TimerFires_t {t : PTimer} {now : Int} (h : F_impl_TimerFires t now = true) : 0 ≤ t.Due ∧ t.Due ≤ 1000008 ∧ 1 ≤ t.Wait ∧ t.Wait ≤ 8 ∧ 1 ≤ t.Tries ∧ t.Tries ≤ 5 ∧ 0 ≤ now ∧ now ≤ 1000000 := by
  have hk := @impl_TimerOk_t t
  simp only [F_impl_TimerFires, F_impl_within, cond_eq_ite] at h
  grind

def F_laws_FnExactTimerFires (x_aT : PTimer) (x_aNow : Int) : (Bool) := bif ((F_impl_TimerFires (F_laws_toTimer x_aT) x_aNow) == (F_spec_TimerFires (F_laws_toTimer x_aT) x_aNow)) then (true) else (false)
theorem C_laws_FnExactTimerFires (w0 : World) (v_x_aT : Value) (x_aT : PTimer) (r_x_aT : Q_26 w0 v_x_aT x_aT) (x_aNow : Int)  : Fn Try.prog 7 #[v_x_aT, (.int .i64 x_aNow)] w0 (fun v w' => Keep w0 w' ∧ O_4 w' w0.heap.size v (F_laws_FnExactTimerFires x_aT x_aNow)) := by
  obtain rfl := r_x_aT
  refine fn_of (n := 18) (l := [(.agg #[(.bool x_aT.On), (.int .i64 x_aT.Due), (.int .i64 x_aT.Wait), (.int .i64 x_aT.Tries)]), (.int .i64 x_aNow), undef, undef, undef, undef, undef, undef, undef, undef, undef, undef, undef, undef, undef, undef, undef, undef]) Try.func7 rfl rfl (by kernel_rfl) rfl ?_
  refine wc_seq ?_
  refine wc_region ?_
  refine wl_box (want_none rfl) [(.bool x_aT.On), (.int .i64 x_aT.Due), (.int .i64 x_aT.Wait), (.int .i64 x_aT.Tries)] rfl rfl rfl rfl ?_
  intro g1 w1 p2 p3 k4 b5
  have m6 := (Ch.base w0).extk k4
  refine wl_mv (.bool false) (want_none rfl) rfl rfl (.inr rfl) rfl ?_
  refine wl_nil ?_
  refine wq_then ?_
  refine wc_seq ?_
  refine wc_region ?_
  refine wl_loadN [(.bool x_aT.On), (.int .i64 x_aT.Due), (.int .i64 x_aT.Wait), (.int .i64 x_aT.Tries)] (want_none rfl) rfl rfl rfl rfl isAgg_26 sizeOf_26 b5 rfl ?_
  refine wl_call (want_none rfl) (args := #[(.agg #[(.bool x_aT.On), (.int .i64 x_aT.Due), (.int .i64 x_aT.Wait), (.int .i64 x_aT.Tries)])]) rfl rfl (by kernel_rfl) (C_laws_toTimer w1 (.agg #[(.bool x_aT.On), (.int .i64 x_aT.Due), (.int .i64 x_aT.Wait), (.int .i64 x_aT.Tries)]) x_aT (show R_26 w1 (.agg #[(.bool x_aT.On), (.int .i64 x_aT.Due), (.int .i64 x_aT.Wait), (.int .i64 x_aT.Tries)]) x_aT from rfl)) ?_
  rintro _ w2 ⟨k7, rfl⟩
  have m8 := m6.extk k7
  refine wl_mv (.int .i64 x_aNow) (want_none rfl) rfl rfl (.inl rfl) rfl ?_
  refine wl_call (want_none rfl) (args := #[(.agg #[(.bool ((F_laws_toTimer x_aT).On)), (.int .i64 ((F_laws_toTimer x_aT).Due)), (.int .i64 ((F_laws_toTimer x_aT).Wait)), (.int .i64 ((F_laws_toTimer x_aT).Tries))]), (.int .i64 x_aNow)]) rfl rfl (by kernel_rfl) (C_spec_TimerFires w2 (.agg #[(.bool ((F_laws_toTimer x_aT).On)), (.int .i64 ((F_laws_toTimer x_aT).Due)), (.int .i64 ((F_laws_toTimer x_aT).Wait)), (.int .i64 ((F_laws_toTimer x_aT).Tries))]) (F_laws_toTimer x_aT) (show R_28 w2 (.agg #[(.bool ((F_laws_toTimer x_aT).On)), (.int .i64 ((F_laws_toTimer x_aT).Due)), (.int .i64 ((F_laws_toTimer x_aT).Wait)), (.int .i64 ((F_laws_toTimer x_aT).Tries))]) (F_laws_toTimer x_aT) from rfl) x_aNow) ?_
  rintro _ w3 ⟨k9, rfl⟩
  have m10 := m8.extk k9
  refine wl_mv (.bool (F_spec_TimerFires (F_laws_toTimer x_aT) x_aNow)) (want_none rfl) rfl rfl (.inr rfl) rfl ?_
  refine wl_nil ?_
  refine wq_then ?_
  refine wc_seq ?_
  refine wc_region ?_
  have b11 := ((b5.kp k7).kp k9)
  refine wl_loadN [(.bool x_aT.On), (.int .i64 x_aT.Due), (.int .i64 x_aT.Wait), (.int .i64 x_aT.Tries)] (want_none rfl) rfl rfl rfl rfl isAgg_26 sizeOf_26 b11 rfl ?_
  refine wl_call (want_none rfl) (args := #[(.agg #[(.bool x_aT.On), (.int .i64 x_aT.Due), (.int .i64 x_aT.Wait), (.int .i64 x_aT.Tries)])]) rfl rfl (by kernel_rfl) (C_laws_toTimer w3 (.agg #[(.bool x_aT.On), (.int .i64 x_aT.Due), (.int .i64 x_aT.Wait), (.int .i64 x_aT.Tries)]) x_aT (show R_26 w3 (.agg #[(.bool x_aT.On), (.int .i64 x_aT.Due), (.int .i64 x_aT.Wait), (.int .i64 x_aT.Tries)]) x_aT from rfl)) ?_
  rintro _ w4 ⟨k12, rfl⟩
  have m13 := m10.extk k12
  refine wl_mv (.int .i64 x_aNow) (want_none rfl) rfl rfl (.inl rfl) rfl ?_
  refine wl_call (want_none rfl) (args := #[(.agg #[(.bool ((F_laws_toTimer x_aT).On)), (.int .i64 ((F_laws_toTimer x_aT).Due)), (.int .i64 ((F_laws_toTimer x_aT).Wait)), (.int .i64 ((F_laws_toTimer x_aT).Tries))]), (.int .i64 x_aNow)]) rfl rfl (by kernel_rfl) (C_impl_TimerFires w4 (.agg #[(.bool ((F_laws_toTimer x_aT).On)), (.int .i64 ((F_laws_toTimer x_aT).Due)), (.int .i64 ((F_laws_toTimer x_aT).Wait)), (.int .i64 ((F_laws_toTimer x_aT).Tries))]) (F_laws_toTimer x_aT) (show R_28 w4 (.agg #[(.bool ((F_laws_toTimer x_aT).On)), (.int .i64 ((F_laws_toTimer x_aT).Due)), (.int .i64 ((F_laws_toTimer x_aT).Wait)), (.int .i64 ((F_laws_toTimer x_aT).Tries))]) (F_laws_toTimer x_aT) from rfl) x_aNow) ?_
  rintro _ w5 ⟨k14, rfl⟩
  have m15 := m13.extk k14
  refine wl_mv (.bool (F_impl_TimerFires (F_laws_toTimer x_aT) x_aNow)) (want_none rfl) rfl rfl (.inr rfl) rfl ?_
  refine wl_nil ?_
  refine wq_then ?_
  refine wc_seq ?_
  refine wc_seq ?_
  refine wc_region ?_
  refine wl_mv (.bool (F_impl_TimerFires (F_laws_toTimer x_aT) x_aNow)) (want_none rfl) rfl rfl (.inl rfl) rfl ?_
  refine wl_mv (.bool (F_spec_TimerFires (F_laws_toTimer x_aT) x_aNow)) (want_none rfl) rfl rfl (.inl rfl) rfl ?_
  refine wl_pure (.bool (!((F_impl_TimerFires (F_laws_toTimer x_aT) x_aNow) == (F_spec_TimerFires (F_laws_toTimer x_aT) x_aNow)))) (want_none rfl) rfl rfl (by kernel_rfl) ?_
  refine wl_nil ?_
  refine wq_then ?_
  rcases Bool.eq_false_or_eq_true ((F_impl_TimerFires (F_laws_toTimer x_aT) x_aNow) == (F_spec_TimerFires (F_laws_toTimer x_aT) x_aNow)) with h16 | h16
  · skip
    refine wc_false (congrArg (fun b => Value.bool (!b)) h16) ?_
    refine wc_skip ?_
    refine wq_then ?_
    refine wc_seq ?_
    refine wc_region ?_
    refine wl_mv (.bool true) (want_none rfl) rfl rfl (.inr rfl) rfl ?_
    refine wl_nil ?_
    refine wq_then ?_
    refine wc_ret ?_
    refine ret_1 (.inl rfl) (.bool true) rfl rfl ?_
    refine ⟨m15.keep0, ?_⟩
    have hF18 : F_laws_FnExactTimerFires x_aT x_aNow = true := by simp only [F_laws_FnExactTimerFires, h16, cond_true, cond_false]
    rw [hF18]
    exact rfl
  · skip
    refine wc_true (congrArg (fun b => Value.bool (!b)) h16) ?_
    refine wc_seq ?_
    refine wc_region ?_
    refine wl_mv (.bool false) (want_none rfl) rfl rfl (.inr rfl) rfl ?_
    refine wl_nil ?_
    refine wq_then ?_
    refine wc_ret ?_
    refine wq_then_ret ?_
    refine ret_1 (.inl rfl) (.bool false) rfl rfl ?_
    refine ⟨m15.keep0, ?_⟩
    have hF20 : F_laws_FnExactTimerFires x_aT x_aNow = false := by simp only [F_laws_FnExactTimerFires, h16, cond_true, cond_false]
    rw [hF20]
    exact rfl

theorem slTy_35 : SlTy Try.prog 35 5 1 1 (.int .u8 0) := slTy Try.underlying35 (by kernel_rfl) rfl rfl
def R_35 (w : World) (v : Value) (x : (List UInt8)) : Prop := ∃ (a1 : Option Addr) (c1 : Nat), v = .slice a1 x.length c1 ∧ Rd w 1 (.slice a1 x.length c1) x.length (x.map bV) ∧ x.length ≤ 1073741824
def O_35 (w : World) (lo : Nat) (v : Value) (x : (List UInt8)) : Prop := ∃ (a1 : Option Addr) (c1 : Nat), v = .slice a1 x.length c1 ∧ w.ownsRow lo 5 1 (.slice a1 x.length c1) x.length (x.map bV) ∧ x.length ≤ 1073741824 ∧ Aps [(a1, c1)]
theorem C_spec_PutN (w0 : World) (v_x_b : Value) (x_b : List UInt8) (r_x_b : R_35 w0 v_x_b x_b) (x_n : Int) (x_k : Int) (pre0 : x_b.length ≤ 1000000) : Fn Try.prog 52 #[v_x_b, (.int .i64 x_n), (.int .i64 x_k)] w0 (fun v w' => Keep w0 w' ∧ O_35 w' w0.heap.size v (putN x_b x_n x_k)) := by
  obtain ⟨a1, c2, rfl, r3, s4⟩ := r_x_b
  refine fn_of (n := 35) (l := [(.slice a1 x_b.length c2), (.int .i64 x_n), (.int .i64 x_k), undef, undef, undef, undef, undef, undef, undef, undef, undef, undef, undef, undef, undef, undef, undef, undef, undef, undef, undef, undef, undef, undef, undef, undef, undef, undef, undef, undef, undef, undef, undef, undef]) Try.func52 rfl rfl (by kernel_rfl) rfl ?_
  refine wc_seq ?_
  refine wc_region ?_
  refine wl_mv (.slice none 0 0) (want_none rfl) rfl rfl (.inr rfl) rfl ?_
  refine wl_nil ?_
  refine wq_then ?_
  refine wc_seq ?_
  refine wc_region ?_
  refine wl_lit0 (want_none rfl) rfl rfl slTy_35 (fun w => by kernel_rfl) ?_
  intro a6 w1 k7 o8
  have m9 := (Ch.base w0).extk k7
  refine wl_mv (.slice a1 x_b.length c2) (want_none rfl) rfl rfl (.inl rfl) rfl ?_
  refine wl_append0 (want_none rfl) rfl rfl rfl slTy_35 rfl rfl o8 (r3.from0 m9) (all_bV _) (by (try simp only [List.length_append, List.length_cons, List.length_nil]); omega) (by simp only [maxLen]; (try simp only [List.length_append, List.length_cons, List.length_nil]); omega) k7.size ?_
  intro u11 w2 k12 o13 j14
  obtain ⟨a15, c16, rfl⟩ := own_form o13
  have n17 : New w1 a15 c16 := j14 _ _ rfl
  have m18 := m9.extk k12
  refine wl_mv (.slice a15 x_b.length c16) (want_none rfl) rfl rfl (.inr rfl) rfl ?_
  refine wl_nil ?_
  refine wq_then ?_
  refine wc_seq ?_
  refine wc_seq ?_
  refine wc_region ?_
  refine wl_mv (.int .i64 x_k) (want_none rfl) rfl rfl (.inl rfl) rfl ?_
  refine wl_pure (.bool (decide (x_k < 1))) (want_none rfl) rfl rfl (by kernel_rfl) ?_
  refine wl_mv (.bool (decide (x_k < 1))) (want_none rfl) rfl rfl (.inl rfl) rfl ?_
  rcases Bool.eq_false_or_eq_true (decide (x_k < 1)) with h20 | h20
  · have q21 := of_decide_eq_true h20
    refine wl_skip rfl rfl rfl (congrArg Value.bool h20) rfl rfl rfl ?_
    refine wl_skip rfl rfl rfl (congrArg Value.bool h20) rfl rfl rfl ?_
    refine wl_pick_t (.bool true) (want_none rfl) rfl rfl rfl (congrArg Value.bool h20) rfl ?_
    refine wl_nil ?_
    refine wq_then ?_
    refine wc_true rfl ?_
    refine wc_seq ?_
    refine wc_region ?_
    refine wl_mv (.slice a15 x_b.length c16) (want_none rfl) rfl rfl (.inl rfl) rfl ?_
    refine wl_mv (.slice a15 x_b.length c16) (want_none rfl) rfl rfl (.inr rfl) rfl ?_
    refine wl_nil ?_
    refine wq_then ?_
    refine wc_ret ?_
    refine wq_then_ret ?_
    refine ret_1 (.inl rfl) (.slice a15 x_b.length c16) rfl rfl ?_
    refine ⟨m18.keep0, ?_⟩
    have hF22 : putN x_b x_n x_k = x_b := by first | exact putN_out (by omega) | exact putN_end (by omega) (by omega) (by omega)
    rw [hF22]
    exact ⟨_, _, rfl, o13, s4, ⟨trivial, trivial⟩⟩
  · have q23 := of_decide_eq_false h20
    refine wl_mv (.int .i64 x_k) (want_some rfl rfl rfl (congrArg Value.bool h20)) rfl rfl (.inl rfl) rfl ?_
    refine wl_pure (.bool (decide (6 < x_k))) (want_some rfl rfl rfl (congrArg Value.bool h20)) rfl rfl (by kernel_rfl) ?_
    refine wl_pick_f (.bool (decide (6 < x_k))) (want_none rfl) rfl rfl rfl (congrArg Value.bool h20) rfl ?_
    refine wl_nil ?_
    refine wq_then ?_
    rcases Bool.eq_false_or_eq_true (decide (6 < x_k)) with h24 | h24
    · have q25 := of_decide_eq_true h24
      refine wc_true (congrArg Value.bool h24) ?_
      refine wc_seq ?_
      refine wc_region ?_
      refine wl_mv (.slice a15 x_b.length c16) (want_none rfl) rfl rfl (.inl rfl) rfl ?_
      refine wl_mv (.slice a15 x_b.length c16) (want_none rfl) rfl rfl (.inr rfl) rfl ?_
      refine wl_nil ?_
      refine wq_then ?_
      refine wc_ret ?_
      refine wq_then_ret ?_
      refine ret_1 (.inl rfl) (.slice a15 x_b.length c16) rfl rfl ?_
      refine ⟨m18.keep0, ?_⟩
      have hF26 : putN x_b x_n x_k = x_b := by first | exact putN_out (by omega) | exact putN_end (by omega) (by omega) (by omega)
      rw [hF26]
      exact ⟨_, _, rfl, o13, s4, ⟨trivial, trivial⟩⟩
    · have q27 := of_decide_eq_false h24
      refine wc_false (congrArg Value.bool h24) ?_
      refine wc_skip ?_
      refine wq_then ?_
      refine wc_seq ?_
      refine wc_seq ?_
      refine wc_region ?_
      refine wl_mv (.int .i64 x_k) (want_none rfl) rfl rfl (.inl rfl) rfl ?_
      refine wl_arith (x_k - 1) (want_none rfl) rfl rfl (by kernel_rfl) (by omega) (by omega) ?_
      refine wl_mv (.int .i64 (x_k - 1)) (want_none rfl) rfl rfl (.inr rfl) rfl ?_
      refine wl_nil ?_
      refine wq_then ?_
      refine wc_block ?_
      refine wc_norm [(.slice a1 x_b.length c2), (.int .i64 x_n), (.int .i64 x_k), undef, undef, undef, (.slice none 0 0), (.slice a15 x_b.length c16), (.int .i64 (x_k - 1)), (.slice (some a6) 0 0), (.slice a1 x_b.length c2), (.slice a15 x_b.length c16), (.int .i64 x_k), (.bool (decide (x_k < 1))), (.bool (decide (x_k < 1))), (.int .i64 x_k), (.bool (decide (6 < x_k))), (.bool (decide (6 < x_k))), undef, (.int .i64 x_k), (.int .i64 (x_k - 1)), undef, undef, undef, undef, undef, undef, undef, undef, undef, undef, undef, undef, undef, undef] rfl ⟨rfl, rfl, rfl, rfl, rfl, rfl, rfl, rfl, rfl, rfl, rfl, rfl, rfl, rfl, rfl, rfl, rfl, rfl, rfl, rfl, rfl, rfl, rfl, rfl, rfl, rfl, rfl, rfl, rfl, rfl, rfl, rfl, rfl, rfl, rfl, trivial⟩ ?_
      refine wc_loop (fun e' w' => ∃ (j : Nat) (u21x u22x u23x u24x u25x u26x u27x u28x u29x u30x u31x u32x u33x : Value) (a7x : Option Addr) (c7x : Nat), e' = lst [(.slice a1 x_b.length c2), (.int .i64 x_n), (.int .i64 x_k), undef, undef, undef, (.slice none 0 0), (.slice a7x (x_b ++ putK x_n x_k j).length c7x), (.int .i64 (x_k - 1 - ((j : Nat) : Int))), (.slice (some a6) 0 0), (.slice a1 x_b.length c2), (.slice a15 x_b.length c16), (.int .i64 x_k), (.bool (decide (x_k < 1))), (.bool (decide (x_k < 1))), (.int .i64 x_k), (.bool (decide (6 < x_k))), (.bool (decide (6 < x_k))), undef, (.int .i64 x_k), (.int .i64 (x_k - 1)), u21x, u22x, u23x, u24x, u25x, u26x, u27x, u28x, u29x, u30x, u31x, u32x, u33x, undef] ∧ Ch (fun k => w0.heap.size ≤ k) w0 w' ∧ Ch (fun k => w0.heap.size ≤ k) w2 w' ∧ ((j : Nat) : Int) ≤ x_k ∧ World.ownsRow w' w0.heap.size 5 1 (.slice a7x (x_b ++ putK x_n x_k j).length c7x) (x_b ++ putK x_n x_k j).length ((x_b ++ putK x_n x_k j).map bV) ∧ (x_b ++ putK x_n x_k j).length ≤ 1073741824) (fun e' _ => ((intOf (e' 8)) + 1).toNat) ?_ ?_
      · have hE28 : (x_b : List UInt8) = x_b ++ putK x_n x_k 0 := by simp [putK]
        exact ⟨0, undef, undef, undef, undef, undef, undef, undef, undef, undef, undef, undef, undef, undef, a15, c16, (cg2 (fun (x7z : Value) (x8z : Value) => lst [(.slice a1 x_b.length c2), (.int .i64 x_n), (.int .i64 x_k), undef, undef, undef, (.slice none 0 0), x7z, x8z, (.slice (some a6) 0 0), (.slice a1 x_b.length c2), (.slice a15 x_b.length c16), (.int .i64 x_k), (.bool (decide (x_k < 1))), (.bool (decide (x_k < 1))), (.int .i64 x_k), (.bool (decide (6 < x_k))), (.bool (decide (6 < x_k))), undef, (.int .i64 x_k), (.int .i64 (x_k - 1)), undef, undef, undef, undef, undef, undef, undef, undef, undef, undef, undef, undef, undef, undef]) (congrArg (fun l : List UInt8 => Value.slice a15 l.length c16) hE28) (congrArg (Value.int .i64) (show ((x_k - 1) : Int) = (x_k - 1 - ((0 : Nat) : Int)) by omega))), m18, (Ch.refl (fun k => w0.heap.size ≤ k) w2), (by omega), (hE28 ▸ ⟨o13, s4⟩)⟩
      · rintro _ w3 ⟨j, u21x, u22x, u23x, u24x, u25x, u26x, u27x, u28x, u29x, u30x, u31x, u32x, u33x, a7x, c7x, rfl, m29, k30, i31, ⟨o32, s33⟩⟩
        have hpl := putK_len x_n x_k j
        refine wc_seq ?_
        refine wc_seq ?_
        refine wc_region ?_
        refine wl_mv (.int .i64 (x_k - 1 - ((j : Nat) : Int))) (want_none rfl) rfl rfl (.inl rfl) rfl ?_
        refine wl_pure (.bool (decide (0 ≤ (x_k - 1 - ((j : Nat) : Int))))) (want_none rfl) rfl rfl (by kernel_rfl) ?_
        refine wl_nil ?_
        refine wq_then ?_
        rcases Bool.eq_false_or_eq_true (decide (0 ≤ (x_k - 1 - ((j : Nat) : Int)))) with h35 | h35
        · have q36 := of_decide_eq_true h35
          refine wc_true (congrArg Value.bool h35) ?_
          refine wc_skip ?_
          refine wq_then ?_
          refine wc_seq ?_
          refine wc_block ?_
          refine wc_region ?_
          refine wl_mv (.slice a7x (x_b ++ putK x_n x_k j).length c7x) (want_none rfl) rfl rfl (.inl rfl) rfl ?_
          refine wl_mv (.int .i64 x_n) (want_none rfl) rfl rfl (.inl rfl) rfl ?_
          refine wl_mv (.int .i64 (x_k - 1 - ((j : Nat) : Int))) (want_none rfl) rfl rfl (.inl rfl) rfl ?_
          refine wl_arith (8 * (x_k - 1 - ((j : Nat) : Int))) (want_none rfl) rfl rfl (by kernel_rfl) (by omega) (by omega) ?_
          refine wl_shr x_n (8 * (x_k - 1 - ((j : Nat) : Int))) (want_none rfl) rfl rfl rfl rfl rfl (by omega) (by omega) ?_
          refine wl_and (x_n / (2 : Int) ^ ((8 * (x_k - 1 - ((j : Nat) : Int)))).toNat) 255 256 8 (want_none rfl) rfl rfl (by decide) (by decide) (by decide) (by kernel_rfl) ?_
          refine wl_conv8 ((x_n / (2 : Int) ^ ((8 * (x_k - 1 - ((j : Nat) : Int)))).toNat) % 256) (want_none rfl) rfl rfl (by kernel_rfl) ?_
          refine wl_lit [(.int .u8 ((by8 ((x_n / (2 : Int) ^ ((8 * (x_k - 1 - ((j : Nat) : Int)))).toNat) % 256)).toNat : Int))] (want_none rfl) rfl rfl slTy_35 (m := 1) rfl (by simp only [maxLen]; omega) (fun w => by kernel_rfl) ?_
          intro u37 w4 k38 o39
          obtain ⟨a40, c41, rfl⟩ := own_form o39
          have m42 := m29.extk k38
          have o44 : w4.ownsRow w3.heap.size 5 1 (.slice a40 ([(by8 ((x_n / (2 : Int) ^ ((8 * (x_k - 1 - ((j : Nat) : Int)))).toNat) % 256))] : List UInt8).length c41) ([(by8 ((x_n / (2 : Int) ^ ((8 * (x_k - 1 - ((j : Nat) : Int)))).toNat) % 256))] : List UInt8).length (([(by8 ((x_n / (2 : Int) ^ ((8 * (x_k - 1 - ((j : Nat) : Int)))).toNat) % 256))] : List UInt8).map bV) := o39
          have o45 := (own_kp o32 k38)
          refine wl_append (want_none rfl) rfl rfl rfl slTy_35 rfl rfl o45 (Rd.of_own o44) (all_bV _) (by (try simp only [List.length_append, List.length_cons, List.length_nil]); omega) (by simp only [maxLen]; (try simp only [List.length_append, List.length_cons, List.length_nil]); omega) (Nat.le_trans (Nat.le_trans (Nat.le_trans k7.size k12.size) k30.size) k38.size) ?_
          intro u46 w5 k47 o48 j49
          have o52 : w5.ownsRow w0.heap.size 5 1 u46 (((x_b ++ putK x_n x_k j) ++ [(by8 ((x_n / (2 : Int) ^ ((8 * (x_k - 1 - ((j : Nat) : Int)))).toNat) % 256))]) : List UInt8).length ((((x_b ++ putK x_n x_k j) ++ [(by8 ((x_n / (2 : Int) ^ ((8 * (x_k - 1 - ((j : Nat) : Int)))).toNat) % 256))]) : List UInt8).map bV) := by simpa [Nat.add_assoc] using o48
          obtain ⟨a50, c51, rfl⟩ := own_form o52
          have m53 := m42.ext k47 (fun k hk => Nat.le_trans (Nat.le_refl _) (own_lt o32 k hk).1)
          have s55 : ((x_b ++ putK x_n x_k j) ++ [(by8 ((x_n / (2 : Int) ^ ((8 * (x_k - 1 - ((j : Nat) : Int)))).toNat) % 256))]).length ≤ 1073741824 := by first | assumption | ((try simp only [List.length_append, List.length_cons, List.length_nil]); omega)
          refine wl_mv (.slice a50 ((x_b ++ putK x_n x_k j) ++ [(by8 ((x_n / (2 : Int) ^ ((8 * (x_k - 1 - ((j : Nat) : Int)))).toNat) % 256))]).length c51) (want_none rfl) rfl rfl (.inr rfl) rfl ?_
          refine wl_nil ?_
          refine wq_blk_normal ?_
          refine wq_then ?_
          refine wc_region ?_
          refine wl_mv (.int .i64 (x_k - 1 - ((j : Nat) : Int))) (want_none rfl) rfl rfl (.inl rfl) rfl ?_
          refine wl_arith ((x_k - 1 - ((j : Nat) : Int)) - 1) (want_none rfl) rfl rfl (by kernel_rfl) (by omega) (by omega) ?_
          refine wl_mv (.int .i64 ((x_k - 1 - ((j : Nat) : Int)) - 1)) (want_none rfl) rfl rfl (.inr rfl) rfl ?_
          refine wl_nil ?_
          have hE56 : (((x_b ++ putK x_n x_k j) ++ [(by8 ((x_n / (2 : Int) ^ ((8 * (x_k - 1 - ((j : Nat) : Int)))).toNat) % 256))]) : List UInt8) = x_b ++ putK x_n x_k (j + 1) := by simp [putK]
          exact wq_loopN (w0 := w3) [(.slice a1 x_b.length c2), (.int .i64 x_n), (.int .i64 x_k), undef, undef, undef, (.slice none 0 0), (.slice a50 (x_b ++ putK x_n x_k (j + 1)).length c51), (.int .i64 (x_k - 1 - (((j + 1) : Nat) : Int))), (.slice (some a6) 0 0), (.slice a1 x_b.length c2), (.slice a15 x_b.length c16), (.int .i64 x_k), (.bool (decide (x_k < 1))), (.bool (decide (x_k < 1))), (.int .i64 x_k), (.bool (decide (6 < x_k))), (.bool (decide (6 < x_k))), undef, (.int .i64 x_k), (.int .i64 (x_k - 1)), (.int .i64 (x_k - 1 - ((j : Nat) : Int))), (.bool (decide (0 ≤ (x_k - 1 - ((j : Nat) : Int))))), (.int .i64 (x_k - 1 - ((j : Nat) : Int))), (.int .i64 ((x_k - 1 - ((j : Nat) : Int)) - 1)), (.slice a7x (x_b ++ putK x_n x_k j).length c7x), (.int .i64 x_n), (.int .i64 (x_k - 1 - ((j : Nat) : Int))), (.int .i64 (8 * (x_k - 1 - ((j : Nat) : Int)))), (.int .i64 (x_n / (2 : Int) ^ ((8 * (x_k - 1 - ((j : Nat) : Int)))).toNat)), (.int .i64 ((x_n / (2 : Int) ^ ((8 * (x_k - 1 - ((j : Nat) : Int)))).toNat) % 256)), (.int .u8 ((by8 ((x_n / (2 : Int) ^ ((8 * (x_k - 1 - ((j : Nat) : Int)))).toNat) % 256)).toNat : Int)), (.slice a40 ([(by8 ((x_n / (2 : Int) ^ ((8 * (x_k - 1 - ((j : Nat) : Int)))).toNat) % 256))] : List UInt8).length c41), (.slice a50 ((x_b ++ putK x_n x_k j) ++ [(by8 ((x_n / (2 : Int) ^ ((8 * (x_k - 1 - ((j : Nat) : Int)))).toNat) % 256))]).length c51), undef] rfl ⟨rfl, rfl, rfl, rfl, rfl, rfl, rfl, (congrArg (fun l : List UInt8 => Value.slice a50 l.length c51) hE56), (congrArg (Value.int .i64) (show (((x_k - 1 - ((j : Nat) : Int)) - 1) : Int) = (x_k - 1 - (((j + 1) : Nat) : Int)) by omega)), rfl, rfl, rfl, rfl, rfl, rfl, rfl, rfl, rfl, rfl, rfl, rfl, rfl, rfl, rfl, rfl, rfl, rfl, rfl, rfl, rfl, rfl, rfl, rfl, rfl, rfl, trivial⟩ ⟨(j + 1), (.int .i64 (x_k - 1 - ((j : Nat) : Int))), (.bool (decide (0 ≤ (x_k - 1 - ((j : Nat) : Int))))), (.int .i64 (x_k - 1 - ((j : Nat) : Int))), (.int .i64 ((x_k - 1 - ((j : Nat) : Int)) - 1)), (.slice a7x (x_b ++ putK x_n x_k j).length c7x), (.int .i64 x_n), (.int .i64 (x_k - 1 - ((j : Nat) : Int))), (.int .i64 (8 * (x_k - 1 - ((j : Nat) : Int)))), (.int .i64 (x_n / (2 : Int) ^ ((8 * (x_k - 1 - ((j : Nat) : Int)))).toNat)), (.int .i64 ((x_n / (2 : Int) ^ ((8 * (x_k - 1 - ((j : Nat) : Int)))).toNat) % 256)), (.int .u8 ((by8 ((x_n / (2 : Int) ^ ((8 * (x_k - 1 - ((j : Nat) : Int)))).toNat) % 256)).toNat : Int)), (.slice a40 ([(by8 ((x_n / (2 : Int) ^ ((8 * (x_k - 1 - ((j : Nat) : Int)))).toNat) % 256))] : List UInt8).length c41), (.slice a50 ((x_b ++ putK x_n x_k j) ++ [(by8 ((x_n / (2 : Int) ^ ((8 * (x_k - 1 - ((j : Nat) : Int)))).toNat) % 256))]).length c51), a50, c51, rfl, m53, ((((Ch.refl (fun k => w0.heap.size ≤ k) w2).ext k30 (fun k hk => Nat.le_trans (Nat.le_refl _) hk)).extk k38).ext k47 (fun k hk => Nat.le_trans (Nat.le_refl _) (own_lt o32 k hk).1)), (by omega), (hE56 ▸ ⟨o52, s55⟩)⟩ (by show ((x_k - 1 - (((j + 1) : Nat) : Int)) + 1).toNat < ((x_k - 1 - ((j : Nat) : Int)) + 1).toNat; omega)
        · have q57 := of_decide_eq_false h35
          refine wc_false (congrArg Value.bool h35) ?_
          refine wc_exit ?_
          refine wq_then_exit ?_
          refine wq_then_exit ?_
          refine wq_blk_exit ?_
          refine wq_then ?_
          refine wc_seq ?_
          refine wc_region ?_
          refine wl_mv (.slice a7x (x_b ++ putK x_n x_k j).length c7x) (want_none rfl) rfl rfl (.inl rfl) rfl ?_
          refine wl_mv (.slice a7x (x_b ++ putK x_n x_k j).length c7x) (want_none rfl) rfl rfl (.inr rfl) rfl ?_
          refine wl_nil ?_
          refine wq_then ?_
          refine wc_ret ?_
          refine ret_1 (.inl rfl) (.slice a7x (x_b ++ putK x_n x_k j).length c7x) rfl rfl ?_
          refine ⟨m29.keep0, ?_⟩
          have hF58 : putN x_b x_n x_k = (x_b ++ putK x_n x_k j) := by first | exact putN_out (by omega) | exact putN_end (by omega) (by omega) (by omega)
          rw [hF58]
          exact ⟨_, _, rfl, o32, s33, ⟨trivial, trivial⟩⟩

def F_spec_RekeyBody (x_n : Int) : (List UInt8) := bif (F_spec_l1In x_n 0 4294967295) then ((putN [] x_n 4)) else ([])
theorem C_spec_RekeyBody (w0 : World) (x_n : Int)  : Fn Try.prog 27 #[(.int .i64 x_n)] w0 (fun v w' => Keep w0 w' ∧ O_35 w' w0.heap.size v (F_spec_RekeyBody x_n)) := by
  refine fn_of (n := 10) (l := [(.int .i64 x_n), undef, undef, undef, undef, undef, undef, undef, undef, undef]) Try.func27 rfl rfl (by kernel_rfl) rfl ?_
  refine wc_seq ?_
  refine wc_region ?_
  refine wl_mv (.slice none 0 0) (want_none rfl) rfl rfl (.inr rfl) rfl ?_
  refine wl_nil ?_
  refine wq_then ?_
  refine wc_seq ?_
  refine wc_seq ?_
  refine wc_region ?_
  refine wl_mv (.int .i64 x_n) (want_none rfl) rfl rfl (.inl rfl) rfl ?_
  refine wl_call (want_none rfl) (args := #[(.int .i64 x_n), (.int .i64 0), (.int .i64 4294967295)]) rfl rfl (by kernel_rfl) (C_spec_l1In w0 x_n 0 4294967295) ?_
  rintro _ w1 ⟨k1, rfl⟩
  have m2 := (Ch.base w0).extk k1
  refine wl_pure (.bool (!(F_spec_l1In x_n 0 4294967295))) (want_none rfl) rfl rfl (by kernel_rfl) ?_
  refine wl_nil ?_
  refine wq_then ?_
  rcases Bool.eq_false_or_eq_true (F_spec_l1In x_n 0 4294967295) with h3 | h3
  · have q4 := spec_l1In_t h3
    refine wc_false (congrArg (fun b => Value.bool (!b)) h3) ?_
    refine wc_skip ?_
    refine wq_then ?_
    refine wc_seq ?_
    refine wc_region ?_
    refine wl_lit0 (want_none rfl) rfl rfl slTy_35 (fun w => by kernel_rfl) ?_
    intro a5 w2 k6 o7
    have m8 := m2.extk k6
    refine wl_mv (.int .i64 x_n) (want_none rfl) rfl rfl (.inl rfl) rfl ?_
    refine wl_call (want_none rfl) (args := #[(.slice (some a5) 0 0), (.int .i64 x_n), (.int .i64 4)]) rfl rfl (by kernel_rfl) (C_spec_PutN w2 (.slice (some a5) 0 0) [] (show R_35 w2 (.slice (some a5) 0 0) [] from ⟨_, _, rfl, (Rd.of_own o7), (by simp)⟩) x_n 4 (by first | omega | simp)) ?_
    rintro _ w3 ⟨k10, ⟨a11, c12, rfl, o13, s14, ap16⟩⟩
    have m17 := m8.extk k10
    refine wl_mv (.slice a11 (putN [] x_n 4).length c12) (want_none rfl) rfl rfl (.inr rfl) rfl ?_
    refine wl_nil ?_
    refine wq_then ?_
    refine wc_ret ?_
    refine ret_1 (.inl rfl) (.slice a11 (putN [] x_n 4).length c12) rfl rfl ?_
    refine ⟨m17.keep0, ?_⟩
    have hF18 : F_spec_RekeyBody x_n = (putN [] x_n 4) := by simp only [F_spec_RekeyBody, h3, cond_true, cond_false]
    rw [hF18]
    exact ⟨_, _, rfl, (own_lo o13 (Nat.le_trans k1.size k6.size)), s14, ⟨trivial, trivial⟩⟩
  · have q19 := spec_l1In_f h3
    refine wc_true (congrArg (fun b => Value.bool (!b)) h3) ?_
    refine wc_seq ?_
    refine wc_region ?_
    refine wl_lit0 (want_none rfl) rfl rfl slTy_35 (fun w => by kernel_rfl) ?_
    intro a20 w2 k21 o22
    have m23 := m2.extk k21
    refine wl_mv (.slice (some a20) 0 0) (want_none rfl) rfl rfl (.inr rfl) rfl ?_
    refine wl_nil ?_
    refine wq_then ?_
    refine wc_ret ?_
    refine wq_then_ret ?_
    refine ret_1 (.inl rfl) (.slice (some a20) 0 0) rfl rfl ?_
    refine ⟨m23.keep0, ?_⟩
    have hF25 : F_spec_RekeyBody x_n = [] := by simp only [F_spec_RekeyBody, h3, cond_true, cond_false]
    rw [hF25]
    exact ⟨_, _, rfl, (own_lo o22 k1.size), (by simp), ⟨trivial, trivial⟩⟩

theorem C_impl_PutN (w0 : World) (v_x_b : Value) (x_b : List UInt8) (r_x_b : R_35 w0 v_x_b x_b) (x_n : Int) (x_k : Int) (pre0 : x_b.length ≤ 1000000) : Fn Try.prog 53 #[v_x_b, (.int .i64 x_n), (.int .i64 x_k)] w0 (fun v w' => Keep w0 w' ∧ O_35 w' w0.heap.size v (putN x_b x_n x_k)) := by
  obtain ⟨a1, c2, rfl, r3, s4⟩ := r_x_b
  refine fn_of (n := 35) (l := [(.slice a1 x_b.length c2), (.int .i64 x_n), (.int .i64 x_k), undef, undef, undef, undef, undef, undef, undef, undef, undef, undef, undef, undef, undef, undef, undef, undef, undef, undef, undef, undef, undef, undef, undef, undef, undef, undef, undef, undef, undef, undef, undef, undef]) Try.func53 rfl rfl (by kernel_rfl) rfl ?_
  refine wc_seq ?_
  refine wc_region ?_
  refine wl_mv (.slice none 0 0) (want_none rfl) rfl rfl (.inr rfl) rfl ?_
  refine wl_nil ?_
  refine wq_then ?_
  refine wc_seq ?_
  refine wc_region ?_
  refine wl_lit0 (want_none rfl) rfl rfl slTy_35 (fun w => by kernel_rfl) ?_
  intro a6 w1 k7 o8
  have m9 := (Ch.base w0).extk k7
  refine wl_mv (.slice a1 x_b.length c2) (want_none rfl) rfl rfl (.inl rfl) rfl ?_
  refine wl_append0 (want_none rfl) rfl rfl rfl slTy_35 rfl rfl o8 (r3.from0 m9) (all_bV _) (by (try simp only [List.length_append, List.length_cons, List.length_nil]); omega) (by simp only [maxLen]; (try simp only [List.length_append, List.length_cons, List.length_nil]); omega) k7.size ?_
  intro u11 w2 k12 o13 j14
  obtain ⟨a15, c16, rfl⟩ := own_form o13
  have n17 : New w1 a15 c16 := j14 _ _ rfl
  have m18 := m9.extk k12
  refine wl_mv (.slice a15 x_b.length c16) (want_none rfl) rfl rfl (.inr rfl) rfl ?_
  refine wl_nil ?_
  refine wq_then ?_
  refine wc_seq ?_
  refine wc_seq ?_
  refine wc_region ?_
  refine wl_mv (.int .i64 x_k) (want_none rfl) rfl rfl (.inl rfl) rfl ?_
  refine wl_pure (.bool (decide (x_k < 1))) (want_none rfl) rfl rfl (by kernel_rfl) ?_
  refine wl_mv (.bool (decide (x_k < 1))) (want_none rfl) rfl rfl (.inl rfl) rfl ?_
  rcases Bool.eq_false_or_eq_true (decide (x_k < 1)) with h20 | h20
  · have q21 := of_decide_eq_true h20
    refine wl_skip rfl rfl rfl (congrArg Value.bool h20) rfl rfl rfl ?_
    refine wl_skip rfl rfl rfl (congrArg Value.bool h20) rfl rfl rfl ?_
    refine wl_pick_t (.bool true) (want_none rfl) rfl rfl rfl (congrArg Value.bool h20) rfl ?_
    refine wl_nil ?_
    refine wq_then ?_
    refine wc_true rfl ?_
    refine wc_seq ?_
    refine wc_region ?_
    refine wl_mv (.slice a15 x_b.length c16) (want_none rfl) rfl rfl (.inl rfl) rfl ?_
    refine wl_mv (.slice a15 x_b.length c16) (want_none rfl) rfl rfl (.inr rfl) rfl ?_
    refine wl_nil ?_
    refine wq_then ?_
    refine wc_ret ?_
    refine wq_then_ret ?_
    refine ret_1 (.inl rfl) (.slice a15 x_b.length c16) rfl rfl ?_
    refine ⟨m18.keep0, ?_⟩
    have hF22 : putN x_b x_n x_k = x_b := by first | exact putN_out (by omega) | exact putN_end (by omega) (by omega) (by omega)
    rw [hF22]
    exact ⟨_, _, rfl, o13, s4, ⟨trivial, trivial⟩⟩
  · have q23 := of_decide_eq_false h20
    refine wl_mv (.int .i64 x_k) (want_some rfl rfl rfl (congrArg Value.bool h20)) rfl rfl (.inl rfl) rfl ?_
    refine wl_pure (.bool (decide (6 < x_k))) (want_some rfl rfl rfl (congrArg Value.bool h20)) rfl rfl (by kernel_rfl) ?_
    refine wl_pick_f (.bool (decide (6 < x_k))) (want_none rfl) rfl rfl rfl (congrArg Value.bool h20) rfl ?_
    refine wl_nil ?_
    refine wq_then ?_
    rcases Bool.eq_false_or_eq_true (decide (6 < x_k)) with h24 | h24
    · have q25 := of_decide_eq_true h24
      refine wc_true (congrArg Value.bool h24) ?_
      refine wc_seq ?_
      refine wc_region ?_
      refine wl_mv (.slice a15 x_b.length c16) (want_none rfl) rfl rfl (.inl rfl) rfl ?_
      refine wl_mv (.slice a15 x_b.length c16) (want_none rfl) rfl rfl (.inr rfl) rfl ?_
      refine wl_nil ?_
      refine wq_then ?_
      refine wc_ret ?_
      refine wq_then_ret ?_
      refine ret_1 (.inl rfl) (.slice a15 x_b.length c16) rfl rfl ?_
      refine ⟨m18.keep0, ?_⟩
      have hF26 : putN x_b x_n x_k = x_b := by first | exact putN_out (by omega) | exact putN_end (by omega) (by omega) (by omega)
      rw [hF26]
      exact ⟨_, _, rfl, o13, s4, ⟨trivial, trivial⟩⟩
    · have q27 := of_decide_eq_false h24
      refine wc_false (congrArg Value.bool h24) ?_
      refine wc_skip ?_
      refine wq_then ?_
      refine wc_seq ?_
      refine wc_seq ?_
      refine wc_region ?_
      refine wl_mv (.int .i64 x_k) (want_none rfl) rfl rfl (.inl rfl) rfl ?_
      refine wl_arith (x_k - 1) (want_none rfl) rfl rfl (by kernel_rfl) (by omega) (by omega) ?_
      refine wl_mv (.int .i64 (x_k - 1)) (want_none rfl) rfl rfl (.inr rfl) rfl ?_
      refine wl_nil ?_
      refine wq_then ?_
      refine wc_block ?_
      refine wc_norm [(.slice a1 x_b.length c2), (.int .i64 x_n), (.int .i64 x_k), undef, undef, undef, (.slice none 0 0), (.slice a15 x_b.length c16), (.int .i64 (x_k - 1)), (.slice (some a6) 0 0), (.slice a1 x_b.length c2), (.slice a15 x_b.length c16), (.int .i64 x_k), (.bool (decide (x_k < 1))), (.bool (decide (x_k < 1))), (.int .i64 x_k), (.bool (decide (6 < x_k))), (.bool (decide (6 < x_k))), undef, (.int .i64 x_k), (.int .i64 (x_k - 1)), undef, undef, undef, undef, undef, undef, undef, undef, undef, undef, undef, undef, undef, undef] rfl ⟨rfl, rfl, rfl, rfl, rfl, rfl, rfl, rfl, rfl, rfl, rfl, rfl, rfl, rfl, rfl, rfl, rfl, rfl, rfl, rfl, rfl, rfl, rfl, rfl, rfl, rfl, rfl, rfl, rfl, rfl, rfl, rfl, rfl, rfl, rfl, trivial⟩ ?_
      refine wc_loop (fun e' w' => ∃ (j : Nat) (u21x u22x u23x u24x u25x u26x u27x u28x u29x u30x u31x u32x u33x : Value) (a7x : Option Addr) (c7x : Nat), e' = lst [(.slice a1 x_b.length c2), (.int .i64 x_n), (.int .i64 x_k), undef, undef, undef, (.slice none 0 0), (.slice a7x (x_b ++ putK x_n x_k j).length c7x), (.int .i64 (x_k - 1 - ((j : Nat) : Int))), (.slice (some a6) 0 0), (.slice a1 x_b.length c2), (.slice a15 x_b.length c16), (.int .i64 x_k), (.bool (decide (x_k < 1))), (.bool (decide (x_k < 1))), (.int .i64 x_k), (.bool (decide (6 < x_k))), (.bool (decide (6 < x_k))), undef, (.int .i64 x_k), (.int .i64 (x_k - 1)), u21x, u22x, u23x, u24x, u25x, u26x, u27x, u28x, u29x, u30x, u31x, u32x, u33x, undef] ∧ Ch (fun k => w0.heap.size ≤ k) w0 w' ∧ Ch (fun k => w0.heap.size ≤ k) w2 w' ∧ ((j : Nat) : Int) ≤ x_k ∧ World.ownsRow w' w0.heap.size 5 1 (.slice a7x (x_b ++ putK x_n x_k j).length c7x) (x_b ++ putK x_n x_k j).length ((x_b ++ putK x_n x_k j).map bV) ∧ (x_b ++ putK x_n x_k j).length ≤ 1073741824) (fun e' _ => ((intOf (e' 8)) + 1).toNat) ?_ ?_
      · have hE28 : (x_b : List UInt8) = x_b ++ putK x_n x_k 0 := by simp [putK]
        exact ⟨0, undef, undef, undef, undef, undef, undef, undef, undef, undef, undef, undef, undef, undef, a15, c16, (cg2 (fun (x7z : Value) (x8z : Value) => lst [(.slice a1 x_b.length c2), (.int .i64 x_n), (.int .i64 x_k), undef, undef, undef, (.slice none 0 0), x7z, x8z, (.slice (some a6) 0 0), (.slice a1 x_b.length c2), (.slice a15 x_b.length c16), (.int .i64 x_k), (.bool (decide (x_k < 1))), (.bool (decide (x_k < 1))), (.int .i64 x_k), (.bool (decide (6 < x_k))), (.bool (decide (6 < x_k))), undef, (.int .i64 x_k), (.int .i64 (x_k - 1)), undef, undef, undef, undef, undef, undef, undef, undef, undef, undef, undef, undef, undef, undef]) (congrArg (fun l : List UInt8 => Value.slice a15 l.length c16) hE28) (congrArg (Value.int .i64) (show ((x_k - 1) : Int) = (x_k - 1 - ((0 : Nat) : Int)) by omega))), m18, (Ch.refl (fun k => w0.heap.size ≤ k) w2), (by omega), (hE28 ▸ ⟨o13, s4⟩)⟩
      · rintro _ w3 ⟨j, u21x, u22x, u23x, u24x, u25x, u26x, u27x, u28x, u29x, u30x, u31x, u32x, u33x, a7x, c7x, rfl, m29, k30, i31, ⟨o32, s33⟩⟩
        have hpl := putK_len x_n x_k j
        refine wc_seq ?_
        refine wc_seq ?_
        refine wc_region ?_
        refine wl_mv (.int .i64 (x_k - 1 - ((j : Nat) : Int))) (want_none rfl) rfl rfl (.inl rfl) rfl ?_
        refine wl_pure (.bool (decide (0 ≤ (x_k - 1 - ((j : Nat) : Int))))) (want_none rfl) rfl rfl (by kernel_rfl) ?_
        refine wl_nil ?_
        refine wq_then ?_
        rcases Bool.eq_false_or_eq_true (decide (0 ≤ (x_k - 1 - ((j : Nat) : Int)))) with h35 | h35
        · have q36 := of_decide_eq_true h35
          refine wc_true (congrArg Value.bool h35) ?_
          refine wc_skip ?_
          refine wq_then ?_
          refine wc_seq ?_
          refine wc_block ?_
          refine wc_region ?_
          refine wl_mv (.slice a7x (x_b ++ putK x_n x_k j).length c7x) (want_none rfl) rfl rfl (.inl rfl) rfl ?_
          refine wl_mv (.int .i64 x_n) (want_none rfl) rfl rfl (.inl rfl) rfl ?_
          refine wl_mv (.int .i64 (x_k - 1 - ((j : Nat) : Int))) (want_none rfl) rfl rfl (.inl rfl) rfl ?_
          refine wl_arith (8 * (x_k - 1 - ((j : Nat) : Int))) (want_none rfl) rfl rfl (by kernel_rfl) (by omega) (by omega) ?_
          refine wl_shr x_n (8 * (x_k - 1 - ((j : Nat) : Int))) (want_none rfl) rfl rfl rfl rfl rfl (by omega) (by omega) ?_
          refine wl_and (x_n / (2 : Int) ^ ((8 * (x_k - 1 - ((j : Nat) : Int)))).toNat) 255 256 8 (want_none rfl) rfl rfl (by decide) (by decide) (by decide) (by kernel_rfl) ?_
          refine wl_conv8 ((x_n / (2 : Int) ^ ((8 * (x_k - 1 - ((j : Nat) : Int)))).toNat) % 256) (want_none rfl) rfl rfl (by kernel_rfl) ?_
          refine wl_lit [(.int .u8 ((by8 ((x_n / (2 : Int) ^ ((8 * (x_k - 1 - ((j : Nat) : Int)))).toNat) % 256)).toNat : Int))] (want_none rfl) rfl rfl slTy_35 (m := 1) rfl (by simp only [maxLen]; omega) (fun w => by kernel_rfl) ?_
          intro u37 w4 k38 o39
          obtain ⟨a40, c41, rfl⟩ := own_form o39
          have m42 := m29.extk k38
          have o44 : w4.ownsRow w3.heap.size 5 1 (.slice a40 ([(by8 ((x_n / (2 : Int) ^ ((8 * (x_k - 1 - ((j : Nat) : Int)))).toNat) % 256))] : List UInt8).length c41) ([(by8 ((x_n / (2 : Int) ^ ((8 * (x_k - 1 - ((j : Nat) : Int)))).toNat) % 256))] : List UInt8).length (([(by8 ((x_n / (2 : Int) ^ ((8 * (x_k - 1 - ((j : Nat) : Int)))).toNat) % 256))] : List UInt8).map bV) := o39
          have o45 := (own_kp o32 k38)
          refine wl_append (want_none rfl) rfl rfl rfl slTy_35 rfl rfl o45 (Rd.of_own o44) (all_bV _) (by (try simp only [List.length_append, List.length_cons, List.length_nil]); omega) (by simp only [maxLen]; (try simp only [List.length_append, List.length_cons, List.length_nil]); omega) (Nat.le_trans (Nat.le_trans (Nat.le_trans k7.size k12.size) k30.size) k38.size) ?_
          intro u46 w5 k47 o48 j49
          have o52 : w5.ownsRow w0.heap.size 5 1 u46 (((x_b ++ putK x_n x_k j) ++ [(by8 ((x_n / (2 : Int) ^ ((8 * (x_k - 1 - ((j : Nat) : Int)))).toNat) % 256))]) : List UInt8).length ((((x_b ++ putK x_n x_k j) ++ [(by8 ((x_n / (2 : Int) ^ ((8 * (x_k - 1 - ((j : Nat) : Int)))).toNat) % 256))]) : List UInt8).map bV) := by simpa [Nat.add_assoc] using o48
          obtain ⟨a50, c51, rfl⟩ := own_form o52
          have m53 := m42.ext k47 (fun k hk => Nat.le_trans (Nat.le_refl _) (own_lt o32 k hk).1)
          have s55 : ((x_b ++ putK x_n x_k j) ++ [(by8 ((x_n / (2 : Int) ^ ((8 * (x_k - 1 - ((j : Nat) : Int)))).toNat) % 256))]).length ≤ 1073741824 := by first | assumption | ((try simp only [List.length_append, List.length_cons, List.length_nil]); omega)
          refine wl_mv (.slice a50 ((x_b ++ putK x_n x_k j) ++ [(by8 ((x_n / (2 : Int) ^ ((8 * (x_k - 1 - ((j : Nat) : Int)))).toNat) % 256))]).length c51) (want_none rfl) rfl rfl (.inr rfl) rfl ?_
          refine wl_nil ?_
          refine wq_blk_normal ?_
          refine wq_then ?_
          refine wc_region ?_
          refine wl_mv (.int .i64 (x_k - 1 - ((j : Nat) : Int))) (want_none rfl) rfl rfl (.inl rfl) rfl ?_
          refine wl_arith ((x_k - 1 - ((j : Nat) : Int)) - 1) (want_none rfl) rfl rfl (by kernel_rfl) (by omega) (by omega) ?_
          refine wl_mv (.int .i64 ((x_k - 1 - ((j : Nat) : Int)) - 1)) (want_none rfl) rfl rfl (.inr rfl) rfl ?_
          refine wl_nil ?_
          have hE56 : (((x_b ++ putK x_n x_k j) ++ [(by8 ((x_n / (2 : Int) ^ ((8 * (x_k - 1 - ((j : Nat) : Int)))).toNat) % 256))]) : List UInt8) = x_b ++ putK x_n x_k (j + 1) := by simp [putK]
          exact wq_loopN (w0 := w3) [(.slice a1 x_b.length c2), (.int .i64 x_n), (.int .i64 x_k), undef, undef, undef, (.slice none 0 0), (.slice a50 (x_b ++ putK x_n x_k (j + 1)).length c51), (.int .i64 (x_k - 1 - (((j + 1) : Nat) : Int))), (.slice (some a6) 0 0), (.slice a1 x_b.length c2), (.slice a15 x_b.length c16), (.int .i64 x_k), (.bool (decide (x_k < 1))), (.bool (decide (x_k < 1))), (.int .i64 x_k), (.bool (decide (6 < x_k))), (.bool (decide (6 < x_k))), undef, (.int .i64 x_k), (.int .i64 (x_k - 1)), (.int .i64 (x_k - 1 - ((j : Nat) : Int))), (.bool (decide (0 ≤ (x_k - 1 - ((j : Nat) : Int))))), (.int .i64 (x_k - 1 - ((j : Nat) : Int))), (.int .i64 ((x_k - 1 - ((j : Nat) : Int)) - 1)), (.slice a7x (x_b ++ putK x_n x_k j).length c7x), (.int .i64 x_n), (.int .i64 (x_k - 1 - ((j : Nat) : Int))), (.int .i64 (8 * (x_k - 1 - ((j : Nat) : Int)))), (.int .i64 (x_n / (2 : Int) ^ ((8 * (x_k - 1 - ((j : Nat) : Int)))).toNat)), (.int .i64 ((x_n / (2 : Int) ^ ((8 * (x_k - 1 - ((j : Nat) : Int)))).toNat) % 256)), (.int .u8 ((by8 ((x_n / (2 : Int) ^ ((8 * (x_k - 1 - ((j : Nat) : Int)))).toNat) % 256)).toNat : Int)), (.slice a40 ([(by8 ((x_n / (2 : Int) ^ ((8 * (x_k - 1 - ((j : Nat) : Int)))).toNat) % 256))] : List UInt8).length c41), (.slice a50 ((x_b ++ putK x_n x_k j) ++ [(by8 ((x_n / (2 : Int) ^ ((8 * (x_k - 1 - ((j : Nat) : Int)))).toNat) % 256))]).length c51), undef] rfl ⟨rfl, rfl, rfl, rfl, rfl, rfl, rfl, (congrArg (fun l : List UInt8 => Value.slice a50 l.length c51) hE56), (congrArg (Value.int .i64) (show (((x_k - 1 - ((j : Nat) : Int)) - 1) : Int) = (x_k - 1 - (((j + 1) : Nat) : Int)) by omega)), rfl, rfl, rfl, rfl, rfl, rfl, rfl, rfl, rfl, rfl, rfl, rfl, rfl, rfl, rfl, rfl, rfl, rfl, rfl, rfl, rfl, rfl, rfl, rfl, rfl, rfl, trivial⟩ ⟨(j + 1), (.int .i64 (x_k - 1 - ((j : Nat) : Int))), (.bool (decide (0 ≤ (x_k - 1 - ((j : Nat) : Int))))), (.int .i64 (x_k - 1 - ((j : Nat) : Int))), (.int .i64 ((x_k - 1 - ((j : Nat) : Int)) - 1)), (.slice a7x (x_b ++ putK x_n x_k j).length c7x), (.int .i64 x_n), (.int .i64 (x_k - 1 - ((j : Nat) : Int))), (.int .i64 (8 * (x_k - 1 - ((j : Nat) : Int)))), (.int .i64 (x_n / (2 : Int) ^ ((8 * (x_k - 1 - ((j : Nat) : Int)))).toNat)), (.int .i64 ((x_n / (2 : Int) ^ ((8 * (x_k - 1 - ((j : Nat) : Int)))).toNat) % 256)), (.int .u8 ((by8 ((x_n / (2 : Int) ^ ((8 * (x_k - 1 - ((j : Nat) : Int)))).toNat) % 256)).toNat : Int)), (.slice a40 ([(by8 ((x_n / (2 : Int) ^ ((8 * (x_k - 1 - ((j : Nat) : Int)))).toNat) % 256))] : List UInt8).length c41), (.slice a50 ((x_b ++ putK x_n x_k j) ++ [(by8 ((x_n / (2 : Int) ^ ((8 * (x_k - 1 - ((j : Nat) : Int)))).toNat) % 256))]).length c51), a50, c51, rfl, m53, ((((Ch.refl (fun k => w0.heap.size ≤ k) w2).ext k30 (fun k hk => Nat.le_trans (Nat.le_refl _) hk)).extk k38).ext k47 (fun k hk => Nat.le_trans (Nat.le_refl _) (own_lt o32 k hk).1)), (by omega), (hE56 ▸ ⟨o52, s55⟩)⟩ (by show ((x_k - 1 - (((j + 1) : Nat) : Int)) + 1).toNat < ((x_k - 1 - ((j : Nat) : Int)) + 1).toNat; omega)
        · have q57 := of_decide_eq_false h35
          refine wc_false (congrArg Value.bool h35) ?_
          refine wc_exit ?_
          refine wq_then_exit ?_
          refine wq_then_exit ?_
          refine wq_blk_exit ?_
          refine wq_then ?_
          refine wc_seq ?_
          refine wc_region ?_
          refine wl_mv (.slice a7x (x_b ++ putK x_n x_k j).length c7x) (want_none rfl) rfl rfl (.inl rfl) rfl ?_
          refine wl_mv (.slice a7x (x_b ++ putK x_n x_k j).length c7x) (want_none rfl) rfl rfl (.inr rfl) rfl ?_
          refine wl_nil ?_
          refine wq_then ?_
          refine wc_ret ?_
          refine ret_1 (.inl rfl) (.slice a7x (x_b ++ putK x_n x_k j).length c7x) rfl rfl ?_
          refine ⟨m29.keep0, ?_⟩
          have hF58 : putN x_b x_n x_k = (x_b ++ putK x_n x_k j) := by first | exact putN_out (by omega) | exact putN_end (by omega) (by omega) (by omega)
          rw [hF58]
          exact ⟨_, _, rfl, o32, s33, ⟨trivial, trivial⟩⟩

def F_impl_RekeyBody (x_n : Int) : (List UInt8) := bif (F_impl_within x_n 0 4294967295) then ((putN [] x_n 4)) else ([])
theorem C_impl_RekeyBody (w0 : World) (x_n : Int)  : Fn Try.prog 28 #[(.int .i64 x_n)] w0 (fun v w' => Keep w0 w' ∧ O_35 w' w0.heap.size v (F_impl_RekeyBody x_n)) := by
  refine fn_of (n := 8) (l := [(.int .i64 x_n), undef, undef, undef, undef, undef, undef, undef]) Try.func28 rfl rfl (by kernel_rfl) rfl ?_
  refine wc_seq ?_
  refine wc_region ?_
  refine wl_mv (.slice none 0 0) (want_none rfl) rfl rfl (.inr rfl) rfl ?_
  refine wl_nil ?_
  refine wq_then ?_
  refine wc_seq ?_
  refine wc_seq ?_
  refine wc_region ?_
  refine wl_mv (.int .i64 x_n) (want_none rfl) rfl rfl (.inl rfl) rfl ?_
  refine wl_call (want_none rfl) (args := #[(.int .i64 x_n), (.int .i64 0), (.int .i64 4294967295)]) rfl rfl (by kernel_rfl) (C_impl_within w0 x_n 0 4294967295) ?_
  rintro _ w1 ⟨k1, rfl⟩
  have m2 := (Ch.base w0).extk k1
  refine wl_pure (.bool (!(F_impl_within x_n 0 4294967295))) (want_none rfl) rfl rfl (by kernel_rfl) ?_
  refine wl_nil ?_
  refine wq_then ?_
  rcases Bool.eq_false_or_eq_true (F_impl_within x_n 0 4294967295) with h3 | h3
  · have q4 := impl_within_t h3
    refine wc_false (congrArg (fun b => Value.bool (!b)) h3) ?_
    refine wc_skip ?_
    refine wq_then ?_
    refine wc_seq ?_
    refine wc_region ?_
    refine wl_mv (.int .i64 x_n) (want_none rfl) rfl rfl (.inl rfl) rfl ?_
    refine wl_call (want_none rfl) (args := #[(.slice none 0 0), (.int .i64 x_n), (.int .i64 4)]) rfl rfl (by kernel_rfl) (C_impl_PutN w1 (.slice none 0 0) [] (show R_35 w1 (.slice none 0 0) [] from ⟨_, _, rfl, (Rd.nil _ _), (by simp)⟩) x_n 4 (by first | omega | simp)) ?_
    rintro _ w2 ⟨k5, ⟨a6, c7, rfl, o8, s9, ap11⟩⟩
    have m12 := m2.extk k5
    refine wl_mv (.slice a6 (putN [] x_n 4).length c7) (want_none rfl) rfl rfl (.inr rfl) rfl ?_
    refine wl_nil ?_
    refine wq_then ?_
    refine wc_ret ?_
    refine ret_1 (.inl rfl) (.slice a6 (putN [] x_n 4).length c7) rfl rfl ?_
    refine ⟨m12.keep0, ?_⟩
    have hF13 : F_impl_RekeyBody x_n = (putN [] x_n 4) := by simp only [F_impl_RekeyBody, h3, cond_true, cond_false]
    rw [hF13]
    exact ⟨_, _, rfl, (own_lo o8 k1.size), s9, ⟨trivial, trivial⟩⟩
  · have q14 := impl_within_f h3
    refine wc_true (congrArg (fun b => Value.bool (!b)) h3) ?_
    refine wc_seq ?_
    refine wc_region ?_
    refine wl_mv (.slice none 0 0) (want_none rfl) rfl rfl (.inr rfl) rfl ?_
    refine wl_nil ?_
    refine wq_then ?_
    refine wc_ret ?_
    refine wq_then_ret ?_
    refine ret_1 (.inl rfl) (.slice none 0 0) rfl rfl ?_
    refine ⟨m2.keep0, ?_⟩
    have hF15 : F_impl_RekeyBody x_n = [] := by simp only [F_impl_RekeyBody, h3, cond_true, cond_false]
    rw [hF15]
    exact ⟨_, _, rfl, (own_nil _ _ _ _), (by simp), ⟨trivial, trivial⟩⟩

theorem isAgg_5 : ∀ w, (isAgg 5).run Try.prog w = .ok false w := fun w => by kernel_rfl
theorem mixed : Try.prog.follows .mixedOrders = true := by kernel_rfl
theorem C_laws_eqByteS (w0 : World) (v_x_a : Value) (x_a : List UInt8) (r_x_a : R_35 w0 v_x_a x_a) (v_x_b : Value) (x_b : List UInt8) (r_x_b : R_35 w0 v_x_b x_b)  : Fn Try.prog 29 #[v_x_a, v_x_b] w0 (fun v w' => Keep w0 w' ∧ O_4 w' w0.heap.size v (eqB x_a x_b)) := by
  obtain ⟨a1, c2, rfl, r3, s4⟩ := r_x_a
  obtain ⟨a6, c7, rfl, r8, s9⟩ := r_x_b
  refine fn_of (n := 26) (l := [(.slice a1 x_a.length c2), (.slice a6 x_b.length c7), undef, undef, undef, undef, undef, undef, undef, undef, undef, undef, undef, undef, undef, undef, undef, undef, undef, undef, undef, undef, undef, undef, undef, undef]) Try.func29 rfl rfl (by kernel_rfl) rfl ?_
  refine wc_seq ?_
  refine wc_region ?_
  refine wl_mv (.bool false) (want_none rfl) rfl rfl (.inr rfl) rfl ?_
  refine wl_nil ?_
  refine wq_then ?_
  refine wc_seq ?_
  refine wc_seq ?_
  refine wc_region ?_
  refine wl_mv (.slice a1 x_a.length c2) (want_none rfl) rfl rfl (.inl rfl) rfl ?_
  refine wl_len (want_none rfl) rfl rfl rfl slTy_35 rfl r3 ?_
  refine wl_mv (.slice a6 x_b.length c7) (want_none rfl) rfl rfl (.inl rfl) rfl ?_
  refine wl_len (want_none rfl) rfl rfl rfl slTy_35 rfl r8 ?_
  refine wl_pure (.bool (!(decide ((x_a.length : Int) = (x_b.length : Int))))) (want_none rfl) rfl rfl (by kernel_rfl) ?_
  refine wl_nil ?_
  refine wq_then ?_
  rcases Bool.eq_false_or_eq_true (decide ((x_a.length : Int) = (x_b.length : Int))) with h11 | h11
  · have q12 := of_decide_eq_true h11
    refine wc_false (congrArg (fun b => Value.bool (!b)) h11) ?_
    refine wc_skip ?_
    refine wq_then ?_
    refine wc_seq ?_
    refine wc_seq ?_
    refine wc_region ?_
    refine wl_mv (.int .i64 0) (want_none rfl) rfl rfl (.inr rfl) rfl ?_
    refine wl_nil ?_
    refine wq_then ?_
    refine wc_block ?_
    refine wc_norm [(.slice a1 x_a.length c2), (.slice a6 x_b.length c7), undef, undef, (.bool false), (.int .i64 0), (.slice a1 x_a.length c2), (.int .i64 (x_a.length : Int)), (.slice a6 x_b.length c7), (.int .i64 (x_b.length : Int)), (.bool (!(decide ((x_a.length : Int) = (x_b.length : Int))))), undef, undef, undef, undef, undef, undef, undef, undef, undef, undef, undef, undef, undef, undef, undef] rfl ⟨rfl, rfl, rfl, rfl, rfl, rfl, rfl, rfl, rfl, rfl, rfl, rfl, rfl, rfl, rfl, rfl, rfl, rfl, rfl, rfl, rfl, rfl, rfl, rfl, rfl, rfl, trivial⟩ ?_
    refine wc_loop (fun e' w' => ∃ (k : Nat) (u4x u11x u12x u13x u14x u15x u16x u17x u18x u19x u20x u21x u22x u23x u24x u25x : Value), e' = lst [(.slice a1 x_a.length c2), (.slice a6 x_b.length c7), undef, undef, u4x, (.int .i64 ((k : Nat) : Int)), (.slice a1 x_a.length c2), (.int .i64 (x_a.length : Int)), (.slice a6 x_b.length c7), (.int .i64 (x_b.length : Int)), (.bool (!(decide ((x_a.length : Int) = (x_b.length : Int))))), u11x, u12x, u13x, u14x, u15x, u16x, u17x, u18x, u19x, u20x, u21x, u22x, u23x, u24x, u25x] ∧ Ch (fun k => w0.heap.size ≤ k) w0 w' ∧ Ch (fun k => w0.heap.size ≤ k) w0 w' ∧ k ≤ x_a.length ∧ x_a.take k = x_b.take k) (fun e' _ => x_a.length - ((intOf (e' 5))).toNat) ?_ ?_
    · exact ⟨0, (.bool false), undef, undef, undef, undef, undef, undef, undef, undef, undef, undef, undef, undef, undef, undef, undef, (congrArg (fun (x5z : Value) => lst [(.slice a1 x_a.length c2), (.slice a6 x_b.length c7), undef, undef, (.bool false), x5z, (.slice a1 x_a.length c2), (.int .i64 (x_a.length : Int)), (.slice a6 x_b.length c7), (.int .i64 (x_b.length : Int)), (.bool (!(decide ((x_a.length : Int) = (x_b.length : Int))))), undef, undef, undef, undef, undef, undef, undef, undef, undef, undef, undef, undef, undef, undef, undef]) (congrArg (Value.int .i64) (show (0 : Int) = ((0 : Nat) : Int) by omega))), (Ch.base w0), (Ch.refl (fun k => w0.heap.size ≤ k) w0), (by omega), (by first | rfl | exact eqB_next (by assumption) (by omega) (by omega) (by assumption))⟩
    · rintro _ w1 ⟨k, u4x, u11x, u12x, u13x, u14x, u15x, u16x, u17x, u18x, u19x, u20x, u21x, u22x, u23x, u24x, u25x, rfl, m13, k14, i15, i16⟩
      refine wc_seq ?_
      refine wc_seq ?_
      refine wc_region ?_
      refine wl_mv (.int .i64 ((k : Nat) : Int)) (want_none rfl) rfl rfl (.inl rfl) rfl ?_
      refine wl_mv (.slice a1 x_a.length c2) (want_none rfl) rfl rfl (.inl rfl) rfl ?_
      refine wl_len (want_none rfl) rfl rfl rfl slTy_35 rfl (r3.from0 m13) ?_
      refine wl_pure (.bool (decide (((k : Nat) : Int) < (x_a.length : Int)))) (want_none rfl) rfl rfl (by kernel_rfl) ?_
      refine wl_nil ?_
      refine wq_then ?_
      rcases Bool.eq_false_or_eq_true (decide (((k : Nat) : Int) < (x_a.length : Int))) with h17 | h17
      · have q18 := of_decide_eq_true h17
        refine wc_true (congrArg Value.bool h17) ?_
        refine wc_skip ?_
        refine wq_then ?_
        refine wc_seq ?_
        refine wc_block ?_
        refine wc_seq ?_
        refine wc_draw ([(17, [], [], (fun _ v _ => v = (.slice a1 x_a.length c2))), (18, [], [], (fun _ v _ => v = (.int .i64 ((k : Nat) : Int)))), (19, [], [0, 1], (fun _ v _ => v = (.pointer (some (elA (.slice a1 x_a.length c2) ((((k : Nat) : Int)).toNat * 1)))))), (20, [], [0, 1, 2], (fun _ v _ => v = (.int .u8 ((x_a.getD k 0).toNat : Int)))), (21, [], [], (fun _ v _ => v = (.slice a6 x_b.length c7))), (22, [], [], (fun _ v _ => v = (.int .i64 ((k : Nat) : Int)))), (23, [], [4, 5], (fun _ v _ => v = (.pointer (some (elA (.slice a6 x_b.length c7) ((((k : Nat) : Int)).toNat * 1)))))), (24, [], [4, 5, 6], (fun _ v _ => v = (.int .u8 ((x_b.getD k 0).toNat : Int)))), (25, [], [0, 1, 2, 3, 4, 5, 6, 7], (fun _ v _ => v = (.bool (!(decide (((x_a.getD k 0).toNat : Int) = ((x_b.getD k 0).toNat : Int)))))))] : GV) mixed rfl (by kernel_rfl) (by kernel_rfl) ?_ ?_ ?_
        · exact ⟨(fun _ _ _ _ h _ => h), (fun _ _ _ _ _ h => h), ⟨(fun _ _ _ _ h _ => h), (fun _ _ _ _ _ h => h), ⟨(fun _ _ _ _ h _ => h), (fun _ _ _ _ _ h => h), ⟨(fun _ _ _ _ h _ => h), (fun _ _ _ _ _ h => h), ⟨(fun _ _ _ _ h _ => h), (fun _ _ _ _ _ h => h), ⟨(fun _ _ _ _ h _ => h), (fun _ _ _ _ _ h => h), ⟨(fun _ _ _ _ h _ => h), (fun _ _ _ _ _ h => h), ⟨(fun _ _ _ _ h _ => h), (fun _ _ _ _ _ h => h), ⟨(fun _ _ _ _ h _ => h), (fun _ _ _ _ _ h => h), trivial⟩⟩⟩⟩⟩⟩⟩⟩⟩
        · refine ⟨?_, ⟨?_, ⟨?_, ⟨?_, ⟨?_, ⟨?_, ⟨?_, ⟨?_, ⟨?_, trivial⟩⟩⟩⟩⟩⟩⟩⟩⟩
          · intro w2 k19
            have m20 := m13.extk k19
            intro u21
            intro u22
            intro u23
            intro u24
            intro u25
            intro u26
            intro u27
            intro u28
            intro u29
            show WL _ _ _ _ _ _ _
            refine wl_mv (.slice a1 x_a.length c2) (want_none rfl) rfl rfl (.inl rfl) rfl ?_
            exact wl_fin (Ch.refl _ _) rfl
          · intro w2 k30
            have m31 := m13.extk k30
            intro u32
            intro u33
            intro u34
            intro u35
            intro u36
            intro u37
            intro u38
            intro u39
            intro u40
            show WL _ _ _ _ _ _ _
            refine wl_mv (.int .i64 ((k : Nat) : Int)) (want_none rfl) rfl rfl (.inl rfl) rfl ?_
            exact wl_fin (Ch.refl _ _) rfl
          · intro w2 k41
            have m42 := m13.extk k41
            rintro _ rfl
            rintro _ rfl
            intro u43
            intro u44
            intro u45
            intro u46
            intro u47
            intro u48
            intro u49
            show WL _ _ _ _ _ _ _
            refine wl_index (want_none rfl) ((k : Nat) : Int) rfl rfl rfl slTy_35 rfl rfl (r3.from0 m42) (by first | omega | (simp only [List.length_cons, List.length_nil, List.length_replicate, List.length_append, List.length_take, List.length_set, List.length_map]; omega)) (by first | omega | (simp only [List.length_cons, List.length_nil, List.length_replicate, List.length_append, List.length_take, List.length_set, List.length_map]; omega)) ?_
            exact wl_fin (Ch.refl _ _) rfl
          · intro w2 k50
            have m51 := m13.extk k50
            rintro _ rfl
            rintro _ rfl
            rintro _ rfl
            intro u52
            intro u53
            intro u54
            intro u55
            intro u56
            intro u57
            show WL _ _ _ _ _ _ _
            refine wl_loadE (bV (x_a.getD k 0)) (want_none rfl) rfl rfl rfl rfl isAgg_5 (r3.from0 m51) (bget (by simp) (by first | omega | (simp only [List.length_cons, List.length_nil, List.length_replicate, List.length_append, List.length_take, List.length_set, List.length_map]; omega))) ?_
            exact wl_fin (Ch.refl _ _) rfl
          · intro w2 k58
            have m59 := m13.extk k58
            intro u60
            intro u61
            intro u62
            intro u63
            intro u64
            intro u65
            intro u66
            intro u67
            intro u68
            show WL _ _ _ _ _ _ _
            refine wl_mv (.slice a6 x_b.length c7) (want_none rfl) rfl rfl (.inl rfl) rfl ?_
            exact wl_fin (Ch.refl _ _) rfl
          · intro w2 k69
            have m70 := m13.extk k69
            intro u71
            intro u72
            intro u73
            intro u74
            intro u75
            intro u76
            intro u77
            intro u78
            intro u79
            show WL _ _ _ _ _ _ _
            refine wl_mv (.int .i64 ((k : Nat) : Int)) (want_none rfl) rfl rfl (.inl rfl) rfl ?_
            exact wl_fin (Ch.refl _ _) rfl
          · intro w2 k80
            have m81 := m13.extk k80
            intro u82
            intro u83
            intro u84
            intro u85
            rintro _ rfl
            rintro _ rfl
            intro u86
            intro u87
            intro u88
            show WL _ _ _ _ _ _ _
            refine wl_index (want_none rfl) ((k : Nat) : Int) rfl rfl rfl slTy_35 rfl rfl (r8.from0 m81) (by first | omega | (simp only [List.length_cons, List.length_nil, List.length_replicate, List.length_append, List.length_take, List.length_set, List.length_map]; omega)) (by first | omega | (simp only [List.length_cons, List.length_nil, List.length_replicate, List.length_append, List.length_take, List.length_set, List.length_map]; omega)) ?_
            exact wl_fin (Ch.refl _ _) rfl
          · intro w2 k89
            have m90 := m13.extk k89
            intro u91
            intro u92
            intro u93
            intro u94
            rintro _ rfl
            rintro _ rfl
            rintro _ rfl
            intro u95
            intro u96
            show WL _ _ _ _ _ _ _
            refine wl_loadE (bV (x_b.getD k 0)) (want_none rfl) rfl rfl rfl rfl isAgg_5 (r8.from0 m90) (bget (by simp) (by first | omega | (simp only [List.length_cons, List.length_nil, List.length_replicate, List.length_append, List.length_take, List.length_set, List.length_map]; omega))) ?_
            exact wl_fin (Ch.refl _ _) rfl
          · intro w2 k97
            have m98 := m13.extk k97
            rintro _ rfl
            rintro _ rfl
            rintro _ rfl
            rintro _ rfl
            rintro _ rfl
            rintro _ rfl
            rintro _ rfl
            rintro _ rfl
            intro u99
            show WL _ _ _ _ _ _ _
            refine wl_pure (.bool (!(decide (((x_a.getD k 0).toNat : Int) = ((x_b.getD k 0).toNat : Int))))) (want_none rfl) rfl rfl (by kernel_rfl) ?_
            exact wl_fin (Ch.refl _ _) rfl
        · intro w2 k100
          have m101 := m13.extk k100
          rintro _ rfl
          rintro _ rfl
          rintro _ rfl
          rintro _ rfl
          rintro _ rfl
          rintro _ rfl
          rintro _ rfl
          rintro _ rfl
          rintro _ rfl
          show WL _ _ _ _ _ _ _
          refine wl_nil ?_
          refine wq_then ?_
          rcases Bool.eq_false_or_eq_true (decide (((x_a.getD k 0).toNat : Int) = ((x_b.getD k 0).toNat : Int))) with h102 | h102
          · have q103 := of_decide_eq_true h102
            refine wc_false (congrArg (fun b => Value.bool (!b)) h102) ?_
            refine wc_skip ?_
            refine wq_blk_normal ?_
            refine wq_then ?_
            refine wc_region ?_
            refine wl_mv (.int .i64 ((k : Nat) : Int)) (want_none rfl) rfl rfl (.inl rfl) rfl ?_
            refine wl_arith (((k : Nat) : Int) + 1) (want_none rfl) rfl rfl (by kernel_rfl) (by omega) (by omega) ?_
            refine wl_mv (.int .i64 (((k : Nat) : Int) + 1)) (want_none rfl) rfl rfl (.inr rfl) rfl ?_
            refine wl_nil ?_
            exact wq_loopN (w0 := w1) [(.slice a1 x_a.length c2), (.slice a6 x_b.length c7), undef, undef, u4x, (.int .i64 (((k + 1) : Nat) : Int)), (.slice a1 x_a.length c2), (.int .i64 (x_a.length : Int)), (.slice a6 x_b.length c7), (.int .i64 (x_b.length : Int)), (.bool (!(decide ((x_a.length : Int) = (x_b.length : Int))))), (.int .i64 ((k : Nat) : Int)), (.slice a1 x_a.length c2), (.int .i64 (x_a.length : Int)), (.bool (decide (((k : Nat) : Int) < (x_a.length : Int)))), (.int .i64 ((k : Nat) : Int)), (.int .i64 (((k : Nat) : Int) + 1)), (.slice a1 x_a.length c2), (.int .i64 ((k : Nat) : Int)), (.pointer (some (elA (.slice a1 x_a.length c2) ((((k : Nat) : Int)).toNat * 1)))), (.int .u8 ((x_a.getD k 0).toNat : Int)), (.slice a6 x_b.length c7), (.int .i64 ((k : Nat) : Int)), (.pointer (some (elA (.slice a6 x_b.length c7) ((((k : Nat) : Int)).toNat * 1)))), (.int .u8 ((x_b.getD k 0).toNat : Int)), (.bool (!(decide (((x_a.getD k 0).toNat : Int) = ((x_b.getD k 0).toNat : Int)))))] rfl ⟨rfl, rfl, rfl, rfl, rfl, (congrArg (Value.int .i64) (show ((((k : Nat) : Int) + 1) : Int) = (((k + 1) : Nat) : Int) by omega)), rfl, rfl, rfl, rfl, rfl, rfl, rfl, rfl, rfl, rfl, rfl, rfl, rfl, rfl, rfl, rfl, rfl, rfl, rfl, rfl, trivial⟩ ⟨(k + 1), u4x, (.int .i64 ((k : Nat) : Int)), (.slice a1 x_a.length c2), (.int .i64 (x_a.length : Int)), (.bool (decide (((k : Nat) : Int) < (x_a.length : Int)))), (.int .i64 ((k : Nat) : Int)), (.int .i64 (((k : Nat) : Int) + 1)), (.slice a1 x_a.length c2), (.int .i64 ((k : Nat) : Int)), (.pointer (some (elA (.slice a1 x_a.length c2) ((((k : Nat) : Int)).toNat * 1)))), (.int .u8 ((x_a.getD k 0).toNat : Int)), (.slice a6 x_b.length c7), (.int .i64 ((k : Nat) : Int)), (.pointer (some (elA (.slice a6 x_b.length c7) ((((k : Nat) : Int)).toNat * 1)))), (.int .u8 ((x_b.getD k 0).toNat : Int)), (.bool (!(decide (((x_a.getD k 0).toNat : Int) = ((x_b.getD k 0).toNat : Int))))), rfl, m101, (((Ch.refl (fun k => w0.heap.size ≤ k) w0).ext k14 (fun k hk => Nat.le_trans (Nat.le_refl _) hk)).extk k100), (by omega), (by first | rfl | exact eqB_next (by assumption) (by omega) (by omega) (by assumption))⟩ (by show x_a.length - ((((k + 1) : Nat) : Int)).toNat < x_a.length - (((k : Nat) : Int)).toNat; omega)
          · have q104 := of_decide_eq_false h102
            refine wc_true (congrArg (fun b => Value.bool (!b)) h102) ?_
            refine wc_seq ?_
            refine wc_region ?_
            refine wl_mv (.bool false) (want_none rfl) rfl rfl (.inr rfl) rfl ?_
            refine wl_nil ?_
            refine wq_then ?_
            refine wc_ret ?_
            refine wq_blk_ret ?_
            refine wq_then_ret ?_
            refine wq_then_ret ?_
            refine wq_blk_ret ?_
            refine wq_then_ret ?_
            refine ret_1 (.inl rfl) (.bool false) rfl rfl ?_
            refine ⟨m101.keep0, ?_⟩
            have hF105 : eqB x_a x_b = false := by first | exact eqB_len (by assumption) | exact eqB_el (by assumption) | exact eqB_all (by assumption) (by omega) (by omega)
            rw [hF105]
            exact rfl
      · have q106 := of_decide_eq_false h17
        refine wc_false (congrArg Value.bool h17) ?_
        refine wc_exit ?_
        refine wq_then_exit ?_
        refine wq_then_exit ?_
        refine wq_blk_exit ?_
        refine wq_then ?_
        refine wc_seq ?_
        refine wc_region ?_
        refine wl_mv (.bool true) (want_none rfl) rfl rfl (.inr rfl) rfl ?_
        refine wl_nil ?_
        refine wq_then ?_
        refine wc_ret ?_
        refine ret_1 (.inl rfl) (.bool true) rfl rfl ?_
        refine ⟨m13.keep0, ?_⟩
        have hF107 : eqB x_a x_b = true := by first | exact eqB_len (by assumption) | exact eqB_el (by assumption) | exact eqB_all (by assumption) (by omega) (by omega)
        rw [hF107]
        exact rfl
  · have q108 := of_decide_eq_false h11
    refine wc_true (congrArg (fun b => Value.bool (!b)) h11) ?_
    refine wc_seq ?_
    refine wc_region ?_
    refine wl_mv (.bool false) (want_none rfl) rfl rfl (.inr rfl) rfl ?_
    refine wl_nil ?_
    refine wq_then ?_
    refine wc_ret ?_
    refine wq_then_ret ?_
    refine ret_1 (.inl rfl) (.bool false) rfl rfl ?_
    refine ⟨Ch.refl _ _, ?_⟩
    have hF109 : eqB x_a x_b = false := by first | exact eqB_len (by assumption) | exact eqB_el (by assumption) | exact eqB_all (by assumption) (by omega) (by omega)
    rw [hF109]
    exact rfl

theorem sizeOf_5 : ∀ w, (sizeOf 5).run Try.prog w = .ok 1 w := fun w => by kernel_rfl
theorem C_laws_markByteS_own (w0 : World) (a : Option Addr) (c : Nat) (x : List UInt8) (lo : Nat) (k : Int) (h0 : 0 ≤ k) (h1 : k ≤ 9000000000000000000) (hs : x.length ≤ 1073741824) (r : w0.ownsRow lo 5 1 (.slice a x.length c) x.length (x.map bV)) :
    Fn Try.prog 30 #[(.slice a x.length c), .int .i64 k] w0 (fun v w' => v = .int .i64 (k + x.length) ∧ Ch (fun b => (Value.slice a x.length c).ownBlock = some b) w0 w' ∧ w'.ownsRow lo 5 1 (.slice a x.length c) x.length ((marksB k x.length).map bV)) := by
  refine fn_of (n := 20) (l := [(.slice a x.length c), (.int .i64 k), undef, undef, undef, undef, undef, undef, undef, undef, undef, undef, undef, undef, undef, undef, undef, undef, undef, undef]) Try.func30 rfl rfl (by kernel_rfl) rfl ?_
  refine wc_seq ?_
  refine wc_region ?_
  refine wl_mv (.int .i64 0) (want_none rfl) rfl rfl (.inr rfl) rfl ?_
  refine wl_nil ?_
  refine wq_then ?_
  refine wc_seq ?_
  refine wc_seq ?_
  refine wc_region ?_
  refine wl_mv (.int .i64 0) (want_none rfl) rfl rfl (.inr rfl) rfl ?_
  refine wl_nil ?_
  refine wq_then ?_
  refine wc_block ?_
  refine wc_norm [(.slice a x.length c), (.int .i64 k), undef, undef, (.int .i64 0), (.int .i64 0), undef, undef, undef, undef, undef, undef, undef, undef, undef, undef, undef, undef, undef, undef] rfl ⟨rfl, rfl, rfl, rfl, rfl, rfl, rfl, rfl, rfl, rfl, rfl, rfl, rfl, rfl, rfl, rfl, rfl, rfl, rfl, rfl, trivial⟩ ?_
  refine wc_loop (fun e' w' => ∃ (i : Nat) (u6x u7x u8x u9x u10x u11x u12x u13x u14x u15x u16x u17x u18x : Value), e' = lst [(.slice a x.length c), (.int .i64 (k + ((i : Nat) : Int))), undef, undef, (.int .i64 0), (.int .i64 ((i : Nat) : Int)), u6x, u7x, u8x, u9x, u10x, u11x, u12x, u13x, u14x, u15x, u16x, u17x, u18x, undef] ∧ i ≤ x.length ∧ Ch (fun b => (Value.slice a x.length c).ownBlock = some b) w0 w' ∧ w'.ownsRow lo 5 1 (.slice a x.length c) x.length ((marksB k i ++ x.drop i).map bV)) (fun e' _ => x.length - (intOf (e' 5)).toNat) ?_ ?_
  · exact ⟨0, undef, undef, undef, undef, undef, undef, undef, undef, undef, undef, undef, undef, undef, congrArg (fun (p : Value) => lst [(.slice a x.length c), p, undef, undef, (.int .i64 0), (.int .i64 0), undef, undef, undef, undef, undef, undef, undef, undef, undef, undef, undef, undef, undef, undef]) (congrArg (Value.int .i64) (show k = k + ((0 : Nat) : Int) by omega)), Nat.zero_le _, Ch.refl _ _, by simpa [marksB] using r⟩
  · rintro _ w1 ⟨i, u6x, u7x, u8x, u9x, u10x, u11x, u12x, u13x, u14x, u15x, u16x, u17x, u18x, rfl, hi, hc, ho⟩
    refine wc_seq ?_
    refine wc_seq ?_
    refine wc_region ?_
    refine wl_mv (.int .i64 ((i : Nat) : Int)) (want_none rfl) rfl rfl (.inl rfl) rfl ?_
    refine wl_mv (.slice a x.length c) (want_none rfl) rfl rfl (.inl rfl) rfl ?_
    refine wl_len (want_none rfl) rfl rfl rfl slTy_35 rfl (Rd.of_own ho) ?_
    refine wl_pure (.bool (decide (((i : Nat) : Int) < (x.length : Int)))) (want_none rfl) rfl rfl (by kernel_rfl) ?_
    refine wl_nil ?_
    refine wq_then ?_
    rcases Bool.eq_false_or_eq_true (decide (((i : Nat) : Int) < (x.length : Int))) with h101 | h101
    · have q102 := of_decide_eq_true h101
      refine wc_true (congrArg Value.bool h101) ?_
      refine wc_skip ?_
      refine wq_then ?_
      refine wc_seq ?_
      refine wc_block ?_
      refine wc_seq ?_
      refine wc_region ?_
      refine wl_mv (.slice a x.length c) (want_none rfl) rfl rfl (.inl rfl) rfl ?_
      refine wl_mv (.int .i64 ((i : Nat) : Int)) (want_none rfl) rfl rfl (.inl rfl) rfl ?_
      refine wl_mv (.int .i64 (k + ((i : Nat) : Int))) (want_none rfl) rfl rfl (.inl rfl) rfl ?_
      refine wl_conv8 (k + ((i : Nat) : Int)) (want_none rfl) rfl rfl (by kernel_rfl) ?_
      refine wl_index (want_none rfl) ((i : Nat) : Int) rfl rfl rfl slTy_35 rfl rfl (Rd.of_own ho) (by first | omega | (simp only [List.length_cons, List.length_nil, List.length_replicate, List.length_append, List.length_take, List.length_set, List.length_map]; omega)) (by first | omega | (simp only [List.length_cons, List.length_nil, List.length_replicate, List.length_append, List.length_take, List.length_set, List.length_map]; omega)) ?_
      refine wl_storeB ((marksB k i ++ x.drop i)) i ((by8 (k + ((i : Nat) : Int)))) (want_none rfl) rfl rfl rfl (by simp) rfl sizeOf_5 ho (by simp only [List.length_append, List.length_drop, marksB_len]; omega) ?_
      intro w2 k103 o104
      refine wl_nil ?_
      refine wq_then ?_
      refine wc_region ?_
      refine wl_mv (.int .i64 (k + ((i : Nat) : Int))) (want_none rfl) rfl rfl (.inl rfl) rfl ?_
      refine wl_arith ((k + ((i : Nat) : Int)) + 1) (want_none rfl) rfl rfl (by kernel_rfl) (by omega) (by omega) ?_
      refine wl_mv (.int .i64 ((k + ((i : Nat) : Int)) + 1)) (want_none rfl) rfl rfl (.inr rfl) rfl ?_
      refine wl_nil ?_
      refine wq_blk_normal ?_
      refine wq_then ?_
      refine wc_region ?_
      refine wl_mv (.int .i64 ((i : Nat) : Int)) (want_none rfl) rfl rfl (.inl rfl) rfl ?_
      refine wl_arith (((i : Nat) : Int) + 1) (want_none rfl) rfl rfl (by kernel_rfl) (by omega) (by omega) ?_
      refine wl_mv (.int .i64 (((i : Nat) : Int) + 1)) (want_none rfl) rfl rfl (.inr rfl) rfl ?_
      refine wl_nil ?_
      have hE : (((marksB k i ++ x.drop i)).set i ((by8 (k + ((i : Nat) : Int))))) = marksB k (i + 1) ++ x.drop (i + 1) := by
        rw [List.set_append_right _ _ (by rw [marksB_len]; omega), marksB_len, Nat.sub_self, List.drop_eq_getElem_cons (by omega), List.set_cons_zero, marksB_snoc]
        simp
      rw [hE] at o104
      exact wq_loopN (w0 := w1) [(.slice a x.length c), (.int .i64 (k + ((i + 1 : Nat) : Int))), undef, undef, (.int .i64 0), (.int .i64 ((i + 1 : Nat) : Int)), (.int .i64 ((i : Nat) : Int)), (.slice a x.length c), (.int .i64 (x.length : Int)), (.bool (decide (((i : Nat) : Int) < (x.length : Int)))), (.int .i64 ((i : Nat) : Int)), (.int .i64 (((i : Nat) : Int) + 1)), (.slice a x.length c), (.int .i64 ((i : Nat) : Int)), (.int .i64 (k + ((i : Nat) : Int))), (.int .u8 ((by8 (k + ((i : Nat) : Int))).toNat : Int)), (.pointer (some (elA (.slice a x.length c) ((((i : Nat) : Int)).toNat * 1)))), (.int .i64 (k + ((i : Nat) : Int))), (.int .i64 ((k + ((i : Nat) : Int)) + 1)), undef] rfl ⟨rfl, (congrArg (Value.int .i64) (show (((k + ((i : Nat) : Int)) + 1) : Int) = (k + ((i + 1 : Nat) : Int)) by omega)), rfl, rfl, rfl, (congrArg (Value.int .i64) (show ((((i : Nat) : Int) + 1) : Int) = ((i + 1 : Nat) : Int) by omega)), rfl, rfl, rfl, rfl, rfl, rfl, rfl, rfl, rfl, rfl, rfl, rfl, rfl, rfl, trivial⟩ ⟨i + 1, (.int .i64 ((i : Nat) : Int)), (.slice a x.length c), (.int .i64 (x.length : Int)), (.bool (decide (((i : Nat) : Int) < (x.length : Int)))), (.int .i64 ((i : Nat) : Int)), (.int .i64 (((i : Nat) : Int) + 1)), (.slice a x.length c), (.int .i64 ((i : Nat) : Int)), (.int .i64 (k + ((i : Nat) : Int))), (.int .u8 ((by8 (k + ((i : Nat) : Int))).toNat : Int)), (.pointer (some (elA (.slice a x.length c) ((((i : Nat) : Int)).toNat * 1)))), (.int .i64 (k + ((i : Nat) : Int))), (.int .i64 ((k + ((i : Nat) : Int)) + 1)), rfl, by omega, hc.comp k103 (fun _ _ h => h), o104⟩ (by show x.length - (((i + 1 : Nat) : Int)).toNat < x.length - (((i : Nat) : Int)).toNat; omega)
    · have q105 := of_decide_eq_false h101
      refine wc_false (congrArg Value.bool h101) ?_
      refine wc_exit ?_
      refine wq_then_exit ?_
      refine wq_then_exit ?_
      refine wq_blk_exit ?_
      refine wq_then ?_
      refine wc_seq ?_
      refine wc_region ?_
      refine wl_mv (.int .i64 (k + ((i : Nat) : Int))) (want_none rfl) rfl rfl (.inl rfl) rfl ?_
      refine wl_mv (.int .i64 (k + ((i : Nat) : Int))) (want_none rfl) rfl rfl (.inr rfl) rfl ?_
      refine wl_nil ?_
      refine wq_then ?_
      refine wc_ret ?_
      have hI : i = x.length := by omega
      subst hI
      refine ret_1 (.inl rfl) (.int .i64 (k + ((x.length : Nat) : Int))) rfl rfl ⟨rfl, hc, ?_⟩
      simpa using ho
theorem C_laws_markByteS_nil (w0 : World) (a : Option Addr) (c : Nat) (k : Int) (r : Rd w0 1 (.slice a 0 c) 0 []) :
    Fn Try.prog 30 #[.slice a 0 c, .int .i64 k] w0 (fun v w' => v = .int .i64 k ∧ w' = w0) := by
  have hz : decide ((0 : Int) < ((0 : Nat) : Int)) = false := by decide
  refine fn_of (n := 20) (l := [(.slice a 0 c), (.int .i64 k), undef, undef, undef, undef, undef, undef, undef, undef, undef, undef, undef, undef, undef, undef, undef, undef, undef, undef]) Try.func30 rfl rfl (by kernel_rfl) rfl ?_
  refine wc_seq ?_
  refine wc_region ?_
  refine wl_mv (.int .i64 0) (want_none rfl) rfl rfl (.inr rfl) rfl ?_
  refine wl_nil ?_
  refine wq_then ?_
  refine wc_seq ?_
  refine wc_seq ?_
  refine wc_region ?_
  refine wl_mv (.int .i64 0) (want_none rfl) rfl rfl (.inr rfl) rfl ?_
  refine wl_nil ?_
  refine wq_then ?_
  refine wc_block ?_
  refine wc_norm [(.slice a 0 c), (.int .i64 k), undef, undef, (.int .i64 0), (.int .i64 0), undef, undef, undef, undef, undef, undef, undef, undef, undef, undef, undef, undef, undef, undef] rfl ⟨rfl, rfl, rfl, rfl, rfl, rfl, rfl, rfl, rfl, rfl, rfl, rfl, rfl, rfl, rfl, rfl, rfl, rfl, rfl, rfl, trivial⟩ ?_
  refine wc_loop (fun e' w' => e' = lst [(.slice a 0 c), (.int .i64 k), undef, undef, (.int .i64 0), (.int .i64 0), undef, undef, undef, undef, undef, undef, undef, undef, undef, undef, undef, undef, undef, undef] ∧ w' = w0) (fun _ _ => 0) ⟨rfl, rfl⟩ ?_
  rintro _ _ ⟨rfl, rfl⟩
  refine wc_seq ?_
  refine wc_seq ?_
  refine wc_region ?_
  refine wl_mv (.int .i64 0) (want_none rfl) rfl rfl (.inl rfl) rfl ?_
  refine wl_mv (.slice a 0 c) (want_none rfl) rfl rfl (.inl rfl) rfl ?_
  refine wl_len (want_none rfl) rfl rfl rfl slTy_35 rfl r ?_
  refine wl_pure (.bool (decide (0 < ((0 : Nat) : Int)))) (want_none rfl) rfl rfl (by kernel_rfl) ?_
  refine wl_nil ?_
  refine wq_then ?_
  refine wc_false (congrArg Value.bool hz) ?_
  refine wc_exit ?_
  refine wq_then_exit ?_
  refine wq_then_exit ?_
  refine wq_blk_exit ?_
  refine wq_then ?_
  refine wc_seq ?_
  refine wc_region ?_
  refine wl_mv (.int .i64 k) (want_none rfl) rfl rfl (.inl rfl) rfl ?_
  refine wl_mv (.int .i64 k) (want_none rfl) rfl rfl (.inr rfl) rfl ?_
  refine wl_nil ?_
  refine wq_then ?_
  refine wc_ret ?_
  exact ret_1 (.inl rfl) (.int .i64 k) rfl rfl ⟨rfl, rfl⟩
theorem C_laws_markByteS (w0 : World) (a : Option Addr) (c : Nat) (x : List UInt8) (k : Int) (h0 : 0 ≤ k) (h1 : k ≤ 9000000000000000000) (hs : x.length ≤ 1073741824) (r : Rd w0 1 (.slice a x.length c) x.length (x.map bV)) (hw : Wp w0 5 a x.length c (x.map bV)) :
    Fn Try.prog 30 #[.slice a x.length c, .int .i64 k] w0 (fun v w' => v = .int .i64 (k + x.length) ∧ Ch (MS [(a, x.length)]) w0 w' ∧ Rd w' 1 (.slice a x.length c) x.length ((marksB k x.length).map bV)) := by
  rcases Nat.eq_zero_or_pos x.length with hz | hz
  · obtain rfl : x = [] := List.eq_nil_of_length_eq_zero hz
    refine (C_laws_markByteS_nil w0 a c k r).mono ?_
    rintro _ _ ⟨rfl, rfl⟩
    exact ⟨by simp, Ch.refl _ _, r⟩
  · rcases hw with hw | ⟨lo, hw⟩
    · omega
    · refine (C_laws_markByteS_own w0 a c x lo k h0 h1 hs hw).mono ?_
      rintro _ w' ⟨rfl, hc, ho⟩
      refine ⟨rfl, hc.mono fun b _ hb => ?_, Rd.of_own ho⟩
      rcases a with _ | ad
      · cases hb
      · exact .inl ⟨hz, ad, rfl, by simpa [Value.ownBlock] using hb⟩

theorem C_laws_heldByteS (w0 : World) (v_x_a : Value) (x_a : List UInt8) (r_x_a : R_35 w0 v_x_a x_a) (x_k : Int) (pre0 : 0 ≤ x_k) (pre1 : x_k ≤ 9000000000000000000) : Fn Try.prog 31 #[v_x_a, (.int .i64 x_k)] w0 (fun v w' => Keep w0 w' ∧ O_3 w' w0.heap.size v (heldB x_a x_k)) := by
  obtain ⟨a1, c2, rfl, r3, s4⟩ := r_x_a
  refine fn_of (n := 22) (l := [(.slice a1 x_a.length c2), (.int .i64 x_k), undef, undef, undef, undef, undef, undef, undef, undef, undef, undef, undef, undef, undef, undef, undef, undef, undef, undef, undef, undef]) Try.func31 rfl rfl (by kernel_rfl) rfl ?_
  refine wc_seq ?_
  refine wc_region ?_
  refine wl_mv (.int .i64 0) (want_none rfl) rfl rfl (.inr rfl) rfl ?_
  refine wl_nil ?_
  refine wq_then ?_
  refine wc_seq ?_
  refine wc_seq ?_
  refine wc_region ?_
  refine wl_mv (.int .i64 0) (want_none rfl) rfl rfl (.inr rfl) rfl ?_
  refine wl_nil ?_
  refine wq_then ?_
  refine wc_block ?_
  refine wc_norm [(.slice a1 x_a.length c2), (.int .i64 x_k), undef, undef, (.int .i64 0), (.int .i64 0), undef, undef, undef, undef, undef, undef, undef, undef, undef, undef, undef, undef, undef, undef, undef, undef] rfl ⟨rfl, rfl, rfl, rfl, rfl, rfl, rfl, rfl, rfl, rfl, rfl, rfl, rfl, rfl, rfl, rfl, rfl, rfl, rfl, rfl, rfl, rfl, trivial⟩ ?_
  refine wc_loop (fun e' w' => ∃ (i : Nat) (u4x u6x u7x u8x u9x u10x u11x u12x u13x u14x u15x u16x u17x u18x u19x u20x : Value), e' = lst [(.slice a1 x_a.length c2), (.int .i64 (x_k + ((i : Nat) : Int))), undef, undef, u4x, (.int .i64 ((i : Nat) : Int)), u6x, u7x, u8x, u9x, u10x, u11x, u12x, u13x, u14x, u15x, u16x, u17x, u18x, u19x, u20x, undef] ∧ Ch (fun k => w0.heap.size ≤ k) w0 w' ∧ Ch (fun k => w0.heap.size ≤ k) w0 w' ∧ i ≤ x_a.length ∧ heldB x_a x_k = heldB (x_a.drop i) (x_k + ((i : Nat) : Int))) (fun e' _ => x_a.length - ((intOf (e' 5))).toNat) ?_ ?_
  · exact ⟨0, (.int .i64 0), undef, undef, undef, undef, undef, undef, undef, undef, undef, undef, undef, undef, undef, undef, undef, (cg2 (fun (x1z : Value) (x5z : Value) => lst [(.slice a1 x_a.length c2), x1z, undef, undef, (.int .i64 0), x5z, undef, undef, undef, undef, undef, undef, undef, undef, undef, undef, undef, undef, undef, undef, undef, undef]) (congrArg (Value.int .i64) (show (x_k : Int) = (x_k + ((0 : Nat) : Int)) by omega)) (congrArg (Value.int .i64) (show (0 : Int) = ((0 : Nat) : Int) by omega))), (Ch.base w0), (Ch.refl (fun k => w0.heap.size ≤ k) w0), (by omega), (by first | exact heldB_next (by assumption) (by omega) (by assumption) | simp)⟩
  · rintro _ w1 ⟨i, u4x, u6x, u7x, u8x, u9x, u10x, u11x, u12x, u13x, u14x, u15x, u16x, u17x, u18x, u19x, u20x, rfl, m6, k7, i8, i9⟩
    refine wc_seq ?_
    refine wc_seq ?_
    refine wc_region ?_
    refine wl_mv (.int .i64 ((i : Nat) : Int)) (want_none rfl) rfl rfl (.inl rfl) rfl ?_
    refine wl_mv (.slice a1 x_a.length c2) (want_none rfl) rfl rfl (.inl rfl) rfl ?_
    refine wl_len (want_none rfl) rfl rfl rfl slTy_35 rfl (r3.from0 m6) ?_
    refine wl_pure (.bool (decide (((i : Nat) : Int) < (x_a.length : Int)))) (want_none rfl) rfl rfl (by kernel_rfl) ?_
    refine wl_nil ?_
    refine wq_then ?_
    rcases Bool.eq_false_or_eq_true (decide (((i : Nat) : Int) < (x_a.length : Int))) with h10 | h10
    · have q11 := of_decide_eq_true h10
      refine wc_true (congrArg Value.bool h10) ?_
      refine wc_skip ?_
      refine wq_then ?_
      refine wc_seq ?_
      refine wc_block ?_
      refine wc_seq ?_
      refine wc_seq ?_
      refine wc_region ?_
      refine wl_mv (.slice a1 x_a.length c2) (want_none rfl) rfl rfl (.inl rfl) rfl ?_
      refine wl_mv (.int .i64 ((i : Nat) : Int)) (want_none rfl) rfl rfl (.inl rfl) rfl ?_
      refine wl_index (want_none rfl) ((i : Nat) : Int) rfl rfl rfl slTy_35 rfl rfl (r3.from0 m6) (by first | omega | (simp only [List.length_cons, List.length_nil, List.length_replicate, List.length_append, List.length_take, List.length_set, List.length_map]; omega)) (by first | omega | (simp only [List.length_cons, List.length_nil, List.length_replicate, List.length_append, List.length_take, List.length_set, List.length_map]; omega)) ?_
      refine wl_loadE (bV (x_a.getD i 0)) (want_none rfl) rfl rfl rfl rfl isAgg_5 (r3.from0 m6) (bget (by simp) (by first | omega | (simp only [List.length_cons, List.length_nil, List.length_replicate, List.length_append, List.length_take, List.length_set, List.length_map]; omega))) ?_
      refine wl_mv (.int .i64 (x_k + ((i : Nat) : Int))) (want_none rfl) rfl rfl (.inl rfl) rfl ?_
      refine wl_conv8 (x_k + ((i : Nat) : Int)) (want_none rfl) rfl rfl (by kernel_rfl) ?_
      refine wl_pure (.bool (!(decide (((x_a.getD i 0).toNat : Int) = ((by8 (x_k + ((i : Nat) : Int))).toNat : Int))))) (want_none rfl) rfl rfl (by kernel_rfl) ?_
      refine wl_nil ?_
      refine wq_then ?_
      rcases Bool.eq_false_or_eq_true (decide (((x_a.getD i 0).toNat : Int) = ((by8 (x_k + ((i : Nat) : Int))).toNat : Int))) with h12 | h12
      · have q13 := of_decide_eq_true h12
        refine wc_false (congrArg (fun b => Value.bool (!b)) h12) ?_
        refine wc_skip ?_
        refine wq_then ?_
        refine wc_region ?_
        refine wl_mv (.int .i64 (x_k + ((i : Nat) : Int))) (want_none rfl) rfl rfl (.inl rfl) rfl ?_
        refine wl_arith ((x_k + ((i : Nat) : Int)) + 1) (want_none rfl) rfl rfl (by kernel_rfl) (by omega) (by omega) ?_
        refine wl_mv (.int .i64 ((x_k + ((i : Nat) : Int)) + 1)) (want_none rfl) rfl rfl (.inr rfl) rfl ?_
        refine wl_nil ?_
        refine wq_blk_normal ?_
        refine wq_then ?_
        refine wc_region ?_
        refine wl_mv (.int .i64 ((i : Nat) : Int)) (want_none rfl) rfl rfl (.inl rfl) rfl ?_
        refine wl_arith (((i : Nat) : Int) + 1) (want_none rfl) rfl rfl (by kernel_rfl) (by omega) (by omega) ?_
        refine wl_mv (.int .i64 (((i : Nat) : Int) + 1)) (want_none rfl) rfl rfl (.inr rfl) rfl ?_
        refine wl_nil ?_
        exact wq_loopN (w0 := w1) [(.slice a1 x_a.length c2), (.int .i64 (x_k + (((i + 1) : Nat) : Int))), undef, undef, u4x, (.int .i64 (((i + 1) : Nat) : Int)), (.int .i64 ((i : Nat) : Int)), (.slice a1 x_a.length c2), (.int .i64 (x_a.length : Int)), (.bool (decide (((i : Nat) : Int) < (x_a.length : Int)))), (.int .i64 ((i : Nat) : Int)), (.int .i64 (((i : Nat) : Int) + 1)), (.slice a1 x_a.length c2), (.int .i64 ((i : Nat) : Int)), (.pointer (some (elA (.slice a1 x_a.length c2) ((((i : Nat) : Int)).toNat * 1)))), (.int .u8 ((x_a.getD i 0).toNat : Int)), (.int .i64 (x_k + ((i : Nat) : Int))), (.int .u8 ((by8 (x_k + ((i : Nat) : Int))).toNat : Int)), (.bool (!(decide (((x_a.getD i 0).toNat : Int) = ((by8 (x_k + ((i : Nat) : Int))).toNat : Int))))), (.int .i64 (x_k + ((i : Nat) : Int))), (.int .i64 ((x_k + ((i : Nat) : Int)) + 1)), undef] rfl ⟨rfl, (congrArg (Value.int .i64) (show (((x_k + ((i : Nat) : Int)) + 1) : Int) = (x_k + (((i + 1) : Nat) : Int)) by omega)), rfl, rfl, rfl, (congrArg (Value.int .i64) (show ((((i : Nat) : Int) + 1) : Int) = (((i + 1) : Nat) : Int) by omega)), rfl, rfl, rfl, rfl, rfl, rfl, rfl, rfl, rfl, rfl, rfl, rfl, rfl, rfl, rfl, rfl, trivial⟩ ⟨(i + 1), u4x, (.int .i64 ((i : Nat) : Int)), (.slice a1 x_a.length c2), (.int .i64 (x_a.length : Int)), (.bool (decide (((i : Nat) : Int) < (x_a.length : Int)))), (.int .i64 ((i : Nat) : Int)), (.int .i64 (((i : Nat) : Int) + 1)), (.slice a1 x_a.length c2), (.int .i64 ((i : Nat) : Int)), (.pointer (some (elA (.slice a1 x_a.length c2) ((((i : Nat) : Int)).toNat * 1)))), (.int .u8 ((x_a.getD i 0).toNat : Int)), (.int .i64 (x_k + ((i : Nat) : Int))), (.int .u8 ((by8 (x_k + ((i : Nat) : Int))).toNat : Int)), (.bool (!(decide (((x_a.getD i 0).toNat : Int) = ((by8 (x_k + ((i : Nat) : Int))).toNat : Int))))), (.int .i64 (x_k + ((i : Nat) : Int))), (.int .i64 ((x_k + ((i : Nat) : Int)) + 1)), rfl, m6, ((Ch.refl (fun k => w0.heap.size ≤ k) w0).ext k7 (fun k hk => Nat.le_trans (Nat.le_refl _) hk)), (by omega), (by first | exact heldB_next (by assumption) (by omega) (by assumption) | simp)⟩ (by show x_a.length - ((((i + 1) : Nat) : Int)).toNat < x_a.length - (((i : Nat) : Int)).toNat; omega)
      · have q14 := of_decide_eq_false h12
        refine wc_true (congrArg (fun b => Value.bool (!b)) h12) ?_
        refine wc_seq ?_
        refine wc_region ?_
        refine wl_mv (.int .i64 (-1)) (want_none rfl) rfl rfl (.inr rfl) rfl ?_
        refine wl_nil ?_
        refine wq_then ?_
        refine wc_ret ?_
        refine wq_then_ret ?_
        refine wq_blk_ret ?_
        refine wq_then_ret ?_
        refine wq_then_ret ?_
        refine wq_blk_ret ?_
        refine wq_then_ret ?_
        refine ret_1 (.inl rfl) (.int .i64 (-1)) rfl rfl ?_
        refine ⟨m6.keep0, ?_⟩
        have hF15 : heldB x_a x_k = (-1) := by first | exact heldB_ne (by assumption) (by omega) (by assumption) | exact heldB_end (by assumption) (by omega)
        rw [hF15]
        exact rfl
    · have q16 := of_decide_eq_false h10
      refine wc_false (congrArg Value.bool h10) ?_
      refine wc_exit ?_
      refine wq_then_exit ?_
      refine wq_then_exit ?_
      refine wq_blk_exit ?_
      refine wq_then ?_
      refine wc_seq ?_
      refine wc_region ?_
      refine wl_mv (.int .i64 (x_k + ((i : Nat) : Int))) (want_none rfl) rfl rfl (.inl rfl) rfl ?_
      refine wl_mv (.int .i64 (x_k + ((i : Nat) : Int))) (want_none rfl) rfl rfl (.inr rfl) rfl ?_
      refine wl_nil ?_
      refine wq_then ?_
      refine wc_ret ?_
      refine ret_1 (.inl rfl) (.int .i64 (x_k + ((i : Nat) : Int))) rfl rfl ?_
      refine ⟨m6.keep0, ?_⟩
      have hF17 : heldB x_a x_k = (x_k + ((i : Nat) : Int)) := by first | exact heldB_ne (by assumption) (by omega) (by assumption) | exact heldB_end (by assumption) (by omega)
      rw [hF17]
      exact rfl

def F_laws_FnExactRekeyBody (x_aN : Int) : (Bool) := bif (eqB (F_impl_RekeyBody x_aN) (F_spec_RekeyBody x_aN)) then (bif (decide ((heldB (marksB 1 (F_impl_RekeyBody x_aN).length) 1) < 0)) then (false) else (bif (decide ((heldB (marksB 1 (F_impl_RekeyBody x_aN).length) 1) = (1 + ((F_impl_RekeyBody x_aN).length : Int)))) then (true) else (false))) else (false)
theorem C_laws_FnExactRekeyBody (w0 : World) (x_aN : Int)  : Fn Try.prog 8 #[(.int .i64 x_aN)] w0 (fun v w' => Keep w0 w' ∧ O_4 w' w0.heap.size v (F_laws_FnExactRekeyBody x_aN)) := by
  refine fn_of (n := 41) (l := [(.int .i64 x_aN), undef, undef, undef, undef, undef, undef, undef, undef, undef, undef, undef, undef, undef, undef, undef, undef, undef, undef, undef, undef, undef, undef, undef, undef, undef, undef, undef, undef, undef, undef, undef, undef, undef, undef, undef, undef, undef, undef, undef, undef]) Try.func8 rfl rfl (by kernel_rfl) rfl ?_
  refine wc_seq ?_
  refine wc_region ?_
  refine wl_mv (.bool false) (want_none rfl) rfl rfl (.inr rfl) rfl ?_
  refine wl_nil ?_
  refine wq_then ?_
  refine wc_seq ?_
  refine wc_region ?_
  refine wl_mv (.int .i64 x_aN) (want_none rfl) rfl rfl (.inl rfl) rfl ?_
  refine wl_call (want_none rfl) (args := #[(.int .i64 x_aN)]) rfl rfl (by kernel_rfl) (C_spec_RekeyBody w0 x_aN) ?_
  rintro _ w1 ⟨k1, ⟨a2, c3, rfl, o4, s5, ap7⟩⟩
  have m8 := (Ch.base w0).extk k1
  refine wl_mv (.slice a2 (F_spec_RekeyBody x_aN).length c3) (want_none rfl) rfl rfl (.inr rfl) rfl ?_
  refine wl_nil ?_
  refine wq_then ?_
  refine wc_seq ?_
  refine wc_region ?_
  refine wl_mv (.int .i64 x_aN) (want_none rfl) rfl rfl (.inl rfl) rfl ?_
  refine wl_call (want_none rfl) (args := #[(.int .i64 x_aN)]) rfl rfl (by kernel_rfl) (C_impl_RekeyBody w1 x_aN) ?_
  rintro _ w2 ⟨k9, ⟨a10, c11, rfl, o12, s13, ap15⟩⟩
  have m16 := m8.extk k9
  refine wl_mv (.slice a10 (F_impl_RekeyBody x_aN).length c11) (want_none rfl) rfl rfl (.inr rfl) rfl ?_
  refine wl_nil ?_
  refine wq_then ?_
  refine wc_seq ?_
  refine wc_seq ?_
  refine wc_region ?_
  refine wl_mv (.slice a10 (F_impl_RekeyBody x_aN).length c11) (want_none rfl) rfl rfl (.inl rfl) rfl ?_
  refine wl_mv (.slice a2 (F_spec_RekeyBody x_aN).length c3) (want_none rfl) rfl rfl (.inl rfl) rfl ?_
  have o17 := (own_kp o4 k9)
  refine wl_call (want_none rfl) (args := #[(.slice a10 (F_impl_RekeyBody x_aN).length c11), (.slice a2 (F_spec_RekeyBody x_aN).length c3)]) rfl rfl (by kernel_rfl) (C_laws_eqByteS w2 (.slice a10 (F_impl_RekeyBody x_aN).length c11) (F_impl_RekeyBody x_aN) (show R_35 w2 (.slice a10 (F_impl_RekeyBody x_aN).length c11) (F_impl_RekeyBody x_aN) from ⟨_, _, rfl, (Rd.of_own o12), s13⟩) (.slice a2 (F_spec_RekeyBody x_aN).length c3) (F_spec_RekeyBody x_aN) (show R_35 w2 (.slice a2 (F_spec_RekeyBody x_aN).length c3) (F_spec_RekeyBody x_aN) from ⟨_, _, rfl, (Rd.of_own o17), s5⟩)) ?_
  rintro _ w3 ⟨k18, rfl⟩
  have m19 := m16.extk k18
  refine wl_pure (.bool (!(eqB (F_impl_RekeyBody x_aN) (F_spec_RekeyBody x_aN)))) (want_none rfl) rfl rfl (by kernel_rfl) ?_
  refine wl_nil ?_
  refine wq_then ?_
  rcases Bool.eq_false_or_eq_true (eqB (F_impl_RekeyBody x_aN) (F_spec_RekeyBody x_aN)) with h20 | h20
  · skip
    refine wc_false (congrArg (fun b => Value.bool (!b)) h20) ?_
    refine wc_skip ?_
    refine wq_then ?_
    refine wc_seq ?_
    refine wc_region ?_
    refine wl_mv (.int .i64 1) (want_none rfl) rfl rfl (.inr rfl) rfl ?_
    refine wl_nil ?_
    refine wq_then ?_
    refine wc_seq ?_
    refine wc_region ?_
    refine wl_mv (.slice a10 (F_impl_RekeyBody x_aN).length c11) (want_none rfl) rfl rfl (.inl rfl) rfl ?_
    refine wl_mv (.int .i64 1) (want_none rfl) rfl rfl (.inl rfl) rfl ?_
    have o22 := (own_kp o12 k18)
    refine wl_call (want_none rfl) (args := #[(.slice a10 (F_impl_RekeyBody x_aN).length c11), (.int .i64 1)]) rfl rfl (by kernel_rfl) (C_laws_markByteS w3 a10 c11 (F_impl_RekeyBody x_aN) 1 (by omega) (by omega) s13 (Rd.of_own o22) (Wp.of o22)) ?_
    rintro _ w4 ⟨rfl, k23, r24⟩
    have m25 := m19.ext k23 (fun k hk => ms_ge (ms_ge_cons (fun hn x hx => Nat.le_trans k1.size (own_lt o12 x.block (by rw [hx]; rfl)).1) ms_ge_nil) hk)
    refine wl_mv (.int .i64 (1 + ((F_impl_RekeyBody x_aN).length : Int))) (want_none rfl) rfl rfl (.inr rfl) rfl ?_
    refine wl_nil ?_
    refine wq_then ?_
    refine wc_seq ?_
    refine wc_region ?_
    refine wl_mv (.int .i64 1) (want_none rfl) rfl rfl (.inr rfl) rfl ?_
    refine wl_nil ?_
    refine wq_then ?_
    refine wc_seq ?_
    refine wc_region ?_
    refine wl_mv (.slice a10 (F_impl_RekeyBody x_aN).length c11) (want_none rfl) rfl rfl (.inl rfl) rfl ?_
    refine wl_mv (.int .i64 1) (want_none rfl) rfl rfl (.inl rfl) rfl ?_
    refine wl_call (want_none rfl) (args := #[(.slice a10 (F_impl_RekeyBody x_aN).length c11), (.int .i64 1)]) rfl rfl (by kernel_rfl) (C_laws_heldByteS w4 (.slice a10 (F_impl_RekeyBody x_aN).length c11) (marksB 1 (F_impl_RekeyBody x_aN).length) (show R_35 w4 (.slice a10 (F_impl_RekeyBody x_aN).length c11) (marksB 1 (F_impl_RekeyBody x_aN).length) from ⟨a10, c11, by simp only [marksB_len, marksI_len], by simpa only [marksB_len, marksI_len] using r24, by simp only [marksB_len, marksI_len]; first | exact s13 | omega⟩) 1 (by omega) (by omega)) ?_
    rintro _ w5 ⟨k26, rfl⟩
    have m27 := m25.extk k26
    have q28 := heldB_le (marksB 1 (F_impl_RekeyBody x_aN).length) 1
    refine wl_mv (.int .i64 (heldB (marksB 1 (F_impl_RekeyBody x_aN).length) 1)) (want_none rfl) rfl rfl (.inr rfl) rfl ?_
    refine wl_nil ?_
    refine wq_then ?_
    refine wc_seq ?_
    refine wc_seq ?_
    refine wc_region ?_
    refine wl_mv (.int .i64 (heldB (marksB 1 (F_impl_RekeyBody x_aN).length) 1)) (want_none rfl) rfl rfl (.inl rfl) rfl ?_
    refine wl_pure (.bool (decide ((heldB (marksB 1 (F_impl_RekeyBody x_aN).length) 1) < 0))) (want_none rfl) rfl rfl (by kernel_rfl) ?_
    refine wl_nil ?_
    refine wq_then ?_
    rcases Bool.eq_false_or_eq_true (decide ((heldB (marksB 1 (F_impl_RekeyBody x_aN).length) 1) < 0)) with h29 | h29
    · have q30 := of_decide_eq_true h29
      refine wc_true (congrArg Value.bool h29) ?_
      refine wc_seq ?_
      refine wc_region ?_
      refine wl_mv (.bool false) (want_none rfl) rfl rfl (.inr rfl) rfl ?_
      refine wl_nil ?_
      refine wq_then ?_
      refine wc_ret ?_
      refine wq_then_ret ?_
      refine ret_1 (.inl rfl) (.bool false) rfl rfl ?_
      refine ⟨m27.keep0, ?_⟩
      have hF31 : F_laws_FnExactRekeyBody x_aN = false := by simp only [F_laws_FnExactRekeyBody, h20, h29, cond_true, cond_false]
      rw [hF31]
      exact rfl
    · have q32 := of_decide_eq_false h29
      refine wc_false (congrArg Value.bool h29) ?_
      refine wc_skip ?_
      refine wq_then ?_
      refine wc_seq ?_
      refine wc_seq ?_
      refine wc_region ?_
      refine wl_mv (.int .i64 (heldB (marksB 1 (F_impl_RekeyBody x_aN).length) 1)) (want_none rfl) rfl rfl (.inl rfl) rfl ?_
      refine wl_mv (.int .i64 (1 + ((F_impl_RekeyBody x_aN).length : Int))) (want_none rfl) rfl rfl (.inl rfl) rfl ?_
      refine wl_pure (.bool (!(decide ((heldB (marksB 1 (F_impl_RekeyBody x_aN).length) 1) = (1 + ((F_impl_RekeyBody x_aN).length : Int)))))) (want_none rfl) rfl rfl (by kernel_rfl) ?_
      refine wl_nil ?_
      refine wq_then ?_
      rcases Bool.eq_false_or_eq_true (decide ((heldB (marksB 1 (F_impl_RekeyBody x_aN).length) 1) = (1 + ((F_impl_RekeyBody x_aN).length : Int)))) with h33 | h33
      · have q34 := of_decide_eq_true h33
        refine wc_false (congrArg (fun b => Value.bool (!b)) h33) ?_
        refine wc_skip ?_
        refine wq_then ?_
        refine wc_seq ?_
        refine wc_region ?_
        refine wl_mv (.int .i64 x_aN) (want_none rfl) rfl rfl (.inl rfl) rfl ?_
        refine wl_call (want_none rfl) (args := #[(.int .i64 x_aN)]) rfl rfl (by kernel_rfl) (C_impl_RekeyBody w5 x_aN) ?_
        rintro _ w6 ⟨k35, ⟨a36, c37, rfl, o38, s39, ap41⟩⟩
        have m42 := m27.extk k35
        refine wl_mv (.slice a36 (F_impl_RekeyBody x_aN).length c37) (want_none rfl) rfl rfl (.inr rfl) rfl ?_
        refine wl_nil ?_
        refine wq_then ?_
        refine wc_seq ?_
        refine wc_seq ?_
        refine wc_region ?_
        refine wl_mv (.slice a36 (F_impl_RekeyBody x_aN).length c37) (want_none rfl) rfl rfl (.inl rfl) rfl ?_
        refine wl_mv (.slice a2 (F_spec_RekeyBody x_aN).length c3) (want_none rfl) rfl rfl (.inl rfl) rfl ?_
        have r43 := (((Rd.ms (l := [(a10, (F_impl_RekeyBody x_aN).length, c11)]) ((Rd.of_own o17).kp k18) rfl k23 (ap_cons (rd_cap (Rd.of_own o22)) (Ap.lt o4 o12 (Nat.le_refl _)).symm ap_nil)).kp k26).kp k35)
        refine wl_call (want_none rfl) (args := #[(.slice a36 (F_impl_RekeyBody x_aN).length c37), (.slice a2 (F_spec_RekeyBody x_aN).length c3)]) rfl rfl (by kernel_rfl) (C_laws_eqByteS w6 (.slice a36 (F_impl_RekeyBody x_aN).length c37) (F_impl_RekeyBody x_aN) (show R_35 w6 (.slice a36 (F_impl_RekeyBody x_aN).length c37) (F_impl_RekeyBody x_aN) from ⟨_, _, rfl, (Rd.of_own o38), s39⟩) (.slice a2 (F_spec_RekeyBody x_aN).length c3) (F_spec_RekeyBody x_aN) (show R_35 w6 (.slice a2 (F_spec_RekeyBody x_aN).length c3) (F_spec_RekeyBody x_aN) from ⟨_, _, rfl, r43, s5⟩)) ?_
        rintro _ w7 ⟨k44, rfl⟩
        have m45 := m42.extk k44
        refine wl_pure (.bool (!(eqB (F_impl_RekeyBody x_aN) (F_spec_RekeyBody x_aN)))) (want_none rfl) rfl rfl (by kernel_rfl) ?_
        refine wl_nil ?_
        refine wq_then ?_
        refine wc_false (congrArg (fun b => Value.bool (!b)) h20) ?_
        refine wc_skip ?_
        refine wq_then ?_
        refine wc_seq ?_
        refine wc_region ?_
        refine wl_mv (.int .i64 1) (want_none rfl) rfl rfl (.inr rfl) rfl ?_
        refine wl_nil ?_
        refine wq_then ?_
        refine wc_seq ?_
        refine wc_region ?_
        refine wl_mv (.slice a10 (F_impl_RekeyBody x_aN).length c11) (want_none rfl) rfl rfl (.inl rfl) rfl ?_
        refine wl_mv (.int .i64 1) (want_none rfl) rfl rfl (.inl rfl) rfl ?_
        have r46 := (((r24.kp k26).kp k35).kp k44)
        refine wl_call (want_none rfl) (args := #[(.slice a10 (F_impl_RekeyBody x_aN).length c11), (.int .i64 1)]) rfl rfl (by kernel_rfl) (C_laws_heldByteS w7 (.slice a10 (F_impl_RekeyBody x_aN).length c11) (marksB 1 (F_impl_RekeyBody x_aN).length) (show R_35 w7 (.slice a10 (F_impl_RekeyBody x_aN).length c11) (marksB 1 (F_impl_RekeyBody x_aN).length) from ⟨a10, c11, by simp only [marksB_len, marksI_len], by simpa only [marksB_len, marksI_len] using r46, by simp only [marksB_len, marksI_len]; first | exact s13 | omega⟩) 1 (by omega) (by omega)) ?_
        rintro _ w8 ⟨k47, rfl⟩
        have m48 := m45.extk k47
        have q49 := heldB_le (marksB 1 (F_impl_RekeyBody x_aN).length) 1
        refine wl_mv (.int .i64 (heldB (marksB 1 (F_impl_RekeyBody x_aN).length) 1)) (want_none rfl) rfl rfl (.inr rfl) rfl ?_
        refine wl_nil ?_
        refine wq_then ?_
        refine wc_seq ?_
        refine wc_seq ?_
        refine wc_region ?_
        refine wl_mv (.int .i64 (heldB (marksB 1 (F_impl_RekeyBody x_aN).length) 1)) (want_none rfl) rfl rfl (.inl rfl) rfl ?_
        refine wl_pure (.bool (decide ((heldB (marksB 1 (F_impl_RekeyBody x_aN).length) 1) < 0))) (want_none rfl) rfl rfl (by kernel_rfl) ?_
        refine wl_nil ?_
        refine wq_then ?_
        refine wc_false (congrArg Value.bool h29) ?_
        refine wc_skip ?_
        refine wq_then ?_
        refine wc_seq ?_
        refine wc_seq ?_
        refine wc_region ?_
        refine wl_mv (.int .i64 (heldB (marksB 1 (F_impl_RekeyBody x_aN).length) 1)) (want_none rfl) rfl rfl (.inl rfl) rfl ?_
        refine wl_mv (.int .i64 (1 + ((F_impl_RekeyBody x_aN).length : Int))) (want_none rfl) rfl rfl (.inl rfl) rfl ?_
        refine wl_pure (.bool (!(decide ((heldB (marksB 1 (F_impl_RekeyBody x_aN).length) 1) = (1 + ((F_impl_RekeyBody x_aN).length : Int)))))) (want_none rfl) rfl rfl (by kernel_rfl) ?_
        refine wl_nil ?_
        refine wq_then ?_
        refine wc_false (congrArg (fun b => Value.bool (!b)) h33) ?_
        refine wc_skip ?_
        refine wq_then ?_
        refine wc_seq ?_
        refine wc_region ?_
        refine wl_mv (.bool true) (want_none rfl) rfl rfl (.inr rfl) rfl ?_
        refine wl_nil ?_
        refine wq_then ?_
        refine wc_ret ?_
        refine ret_1 (.inl rfl) (.bool true) rfl rfl ?_
        refine ⟨m48.keep0, ?_⟩
        have hF50 : F_laws_FnExactRekeyBody x_aN = true := by simp only [F_laws_FnExactRekeyBody, h20, h29, h33, cond_true, cond_false]
        rw [hF50]
        exact rfl
      · have q51 := of_decide_eq_false h33
        refine wc_true (congrArg (fun b => Value.bool (!b)) h33) ?_
        refine wc_seq ?_
        refine wc_region ?_
        refine wl_mv (.bool false) (want_none rfl) rfl rfl (.inr rfl) rfl ?_
        refine wl_nil ?_
        refine wq_then ?_
        refine wc_ret ?_
        refine wq_then_ret ?_
        refine ret_1 (.inl rfl) (.bool false) rfl rfl ?_
        refine ⟨m27.keep0, ?_⟩
        have hF52 : F_laws_FnExactRekeyBody x_aN = false := by simp only [F_laws_FnExactRekeyBody, h20, h29, h33, cond_true, cond_false]
        rw [hF52]
        exact rfl
  · skip
    refine wc_true (congrArg (fun b => Value.bool (!b)) h20) ?_
    refine wc_seq ?_
    refine wc_region ?_
    refine wl_mv (.bool false) (want_none rfl) rfl rfl (.inr rfl) rfl ?_
    refine wl_nil ?_
    refine wq_then ?_
    refine wc_ret ?_
    refine wq_then_ret ?_
    refine ret_1 (.inl rfl) (.bool false) rfl rfl ?_
    refine ⟨m19.keep0, ?_⟩
    have hF54 : F_laws_FnExactRekeyBody x_aN = false := by simp only [F_laws_FnExactRekeyBody, h20, cond_true, cond_false]
    rw [hF54]
    exact rfl
end Go.Proofs.Ytacefhmlgneegaa.K
