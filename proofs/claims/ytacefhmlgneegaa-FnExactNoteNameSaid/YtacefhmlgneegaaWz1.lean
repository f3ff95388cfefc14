import Derived.Test.YtacefhmlgneegaaCore
import Derived.Test.YtacefhmlgneegaaProg
import Derived.Test.YtacefhmlgneegaaHeld
import Derived.Test.YtacefhmlgneegaaFun
import Derived.Test.YtacefhmlgneegaaFunZ
namespace Go.Proofs.Ytacefhmlgneegaa.K
open Go.RowKit
set_option linter.unusedVariables false
set_option linter.unusedSimpArgs false
set_option maxRecDepth 100000
def O_4 (w : World) (lo : Nat) (v : Value) (x : (Bool)) : Prop := v = .bool x
def F_spec_l1In (x_x : Int) (x_least : Int) (x_most : Int) : (Bool) := bif (decide (x_least ≤ x_x)) then (decide (x_x ≤ x_most)) else (false)
theorem C_spec_l1In (w0 : World) (x_x : Int) (x_least : Int) (x_most : Int)  : Fn Try.prog 50 #[(.int .i64 x_x), (.int .i64 x_least), (.int .i64 x_most)] w0 (fun v w' => Keep w0 w' ∧ O_4 w' w0.heap.size v (F_spec_l1In x_x x_least x_most)) := by
  refine fn_of (n := 15) (l := [(.int .i64 x_x), (.int .i64 x_least), (.int .i64 x_most), undef, undef, undef, undef, undef, undef, undef, undef, undef, undef, undef, undef]) Try.func50 rfl rfl (by kernel_rfl) rfl ?_
  refine wc_seq ?_
  refine wc_region ?_
  refine wl_mv (.bool false) (want_none rfl) rfl rfl (.inr rfl) rfl ?_
  refine wl_nil ?_
  refine wq_then ?_
  refine wc_seq ?_
  refine wc_region ?_
  refine wl_mv (.int .i64 x_x) (want_none rfl) rfl rfl (.inl rfl) rfl ?_
  refine wl_mv (.int .i64 x_least) (want_none rfl) rfl rfl (.inl rfl) rfl ?_
  refine wl_pure (.bool (decide (x_least ≤ x_x))) (want_none rfl) rfl rfl (by kernel_rfl) ?_
  refine wl_mv (.bool (decide (x_least ≤ x_x))) (want_none rfl) rfl rfl (.inl rfl) rfl ?_
  rcases Bool.eq_false_or_eq_true (decide (x_least ≤ x_x)) with h1 | h1
  · have q2 := of_decide_eq_true h1
    refine wl_mv (.int .i64 x_x) (want_some rfl rfl rfl (congrArg Value.bool h1)) rfl rfl (.inl rfl) rfl ?_
    refine wl_mv (.int .i64 x_most) (want_some rfl rfl rfl (congrArg Value.bool h1)) rfl rfl (.inl rfl) rfl ?_
    refine wl_pure (.bool (decide (x_x ≤ x_most))) (want_some rfl rfl rfl (congrArg Value.bool h1)) rfl rfl (by kernel_rfl) ?_
    refine wl_pick_t (.bool (decide (x_x ≤ x_most))) (want_none rfl) rfl rfl rfl (congrArg Value.bool h1) rfl ?_
    refine wl_mv (.bool (decide (x_x ≤ x_most))) (want_none rfl) rfl rfl (.inr rfl) rfl ?_
    refine wl_nil ?_
    refine wq_then ?_
    refine wc_ret ?_
    refine ret_1 (.inl rfl) (.bool (decide (x_x ≤ x_most))) rfl rfl ?_
    refine ⟨Ch.refl _ _, ?_⟩
    have hF3 : F_spec_l1In x_x x_least x_most = decide (x_x ≤ x_most) := by simp only [F_spec_l1In, h1, cond_true, cond_false]
    rw [hF3]
    exact rfl
  · have q4 := of_decide_eq_false h1
    refine wl_skip rfl rfl rfl (congrArg Value.bool h1) rfl rfl rfl ?_
    refine wl_skip rfl rfl rfl (congrArg Value.bool h1) rfl rfl rfl ?_
    refine wl_skip rfl rfl rfl (congrArg Value.bool h1) rfl rfl rfl ?_
    refine wl_pick_f (.bool false) (want_none rfl) rfl rfl rfl (congrArg Value.bool h1) rfl ?_
    refine wl_mv (.bool false) (want_none rfl) rfl rfl (.inr rfl) rfl ?_
    refine wl_nil ?_
    refine wq_then ?_
    refine wc_ret ?_
    refine ret_1 (.inl rfl) (.bool false) rfl rfl ?_
    refine ⟨Ch.refl _ _, ?_⟩
    have hF5 : F_spec_l1In x_x x_least x_most = false := by simp only [F_spec_l1In, h1, cond_true, cond_false]
    rw [hF5]
    exact rfl
theorem spec_l1In_t {n a b : Int} (h : F_spec_l1In n a b = true) : a ≤ n ∧ n ≤ b := by
  unfold F_spec_l1In at h
  by_cases h1 : a ≤ n <;> simp [h1] at h
  exact ⟨h1, h⟩
theorem spec_l1In_f {n a b : Int} (h : F_spec_l1In n a b = false) : n < a ∨ b < n := by
  unfold F_spec_l1In at h
  by_cases h1 : a ≤ n <;> simp [h1] at h <;> omega

theorem slTy_63 : SlTy Try.prog 63 9 1 16 (.string ByteArray.empty) := slTy Try.underlying63 (by kernel_rfl) rfl rfl
theorem isAgg_9 : ∀ w, (isAgg 9).run Try.prog w = .ok false w := fun w => by kernel_rfl
def O_9 (w : World) (lo : Nat) (v : Value) (x : (ByteArray)) : Prop := v = .string x
def F_spec_NoteName (x_kind : Int) : (ByteArray) := bif (F_spec_l1In x_kind 1 17) then (([(ByteArray.mk ([100, 105, 97, 108] : List UInt8).toArray), (ByteArray.mk ([99, 111, 109, 109, 105, 116] : List UInt8).toArray), (ByteArray.mk ([117, 112] : List UInt8).toArray), (ByteArray.mk ([115, 101, 114, 118, 101] : List UInt8).toArray), (ByteArray.mk ([115, 101, 110, 100] : List UInt8).toArray), (ByteArray.mk ([103, 111, 116] : List UInt8).toArray), (ByteArray.mk ([97, 115, 107] : List UInt8).toArray), (ByteArray.mk ([115, 97, 121] : List UInt8).toArray), (ByteArray.mk ([109, 111, 118, 101] : List UInt8).toArray), (ByteArray.mk ([116, 117, 114, 110] : List UInt8).toArray), (ByteArray.mk ([101, 110, 100] : List UInt8).toArray), (ByteArray.mk ([98, 111, 111, 116] : List UInt8).toArray), (ByteArray.mk ([115, 104, 111, 119] : List UInt8).toArray), (ByteArray.mk ([114, 111, 108, 108] : List UInt8).toArray), (ByteArray.mk ([109, 97, 100, 101] : List UInt8).toArray), (ByteArray.mk ([116, 111, 111, 107] : List UInt8).toArray), (ByteArray.mk ([102, 97, 105, 108] : List UInt8).toArray)].getD ((x_kind - 1)).toNat ByteArray.empty)) else ((ByteArray.mk ([] : List UInt8).toArray))
theorem C_spec_NoteName (w0 : World) (x_kind : Int)  : Fn Try.prog 17 #[(.int .i64 x_kind)] w0 (fun v w' => Keep w0 w' ∧ O_9 w' w0.heap.size v (F_spec_NoteName x_kind)) := by
  refine fn_of (n := 13) (l := [(.int .i64 x_kind), undef, undef, undef, undef, undef, undef, undef, undef, undef, undef, undef, undef]) Try.func17 rfl rfl (by kernel_rfl) rfl ?_
  refine wc_seq ?_
  refine wc_region ?_
  refine wl_mv (.string (ByteArray.mk ([] : List UInt8).toArray)) (want_none rfl) rfl rfl (.inr rfl) rfl ?_
  refine wl_nil ?_
  refine wq_then ?_
  refine wc_seq ?_
  refine wc_region ?_
  refine wl_lit [(.string (ByteArray.mk ([100, 105, 97, 108] : List UInt8).toArray)), (.string (ByteArray.mk ([99, 111, 109, 109, 105, 116] : List UInt8).toArray)), (.string (ByteArray.mk ([117, 112] : List UInt8).toArray)), (.string (ByteArray.mk ([115, 101, 114, 118, 101] : List UInt8).toArray)), (.string (ByteArray.mk ([115, 101, 110, 100] : List UInt8).toArray)), (.string (ByteArray.mk ([103, 111, 116] : List UInt8).toArray)), (.string (ByteArray.mk ([97, 115, 107] : List UInt8).toArray)), (.string (ByteArray.mk ([115, 97, 121] : List UInt8).toArray)), (.string (ByteArray.mk ([109, 111, 118, 101] : List UInt8).toArray)), (.string (ByteArray.mk ([116, 117, 114, 110] : List UInt8).toArray)), (.string (ByteArray.mk ([101, 110, 100] : List UInt8).toArray)), (.string (ByteArray.mk ([98, 111, 111, 116] : List UInt8).toArray)), (.string (ByteArray.mk ([115, 104, 111, 119] : List UInt8).toArray)), (.string (ByteArray.mk ([114, 111, 108, 108] : List UInt8).toArray)), (.string (ByteArray.mk ([109, 97, 100, 101] : List UInt8).toArray)), (.string (ByteArray.mk ([116, 111, 111, 107] : List UInt8).toArray)), (.string (ByteArray.mk ([102, 97, 105, 108] : List UInt8).toArray))] (want_none rfl) rfl rfl slTy_63 (m := 17) rfl (by simp only [maxLen]; omega) (fun w => by kernel_rfl) ?_
  intro u1 w1 k2 o3
  obtain ⟨a4, c5, rfl⟩ := own_form o3
  have m6 := (Ch.base w0).extk k2
  have o8 : w1.ownsRow w0.heap.size 9 1 (.slice a4 ([(ByteArray.mk ([100, 105, 97, 108] : List UInt8).toArray), (ByteArray.mk ([99, 111, 109, 109, 105, 116] : List UInt8).toArray), (ByteArray.mk ([117, 112] : List UInt8).toArray), (ByteArray.mk ([115, 101, 114, 118, 101] : List UInt8).toArray), (ByteArray.mk ([115, 101, 110, 100] : List UInt8).toArray), (ByteArray.mk ([103, 111, 116] : List UInt8).toArray), (ByteArray.mk ([97, 115, 107] : List UInt8).toArray), (ByteArray.mk ([115, 97, 121] : List UInt8).toArray), (ByteArray.mk ([109, 111, 118, 101] : List UInt8).toArray), (ByteArray.mk ([116, 117, 114, 110] : List UInt8).toArray), (ByteArray.mk ([101, 110, 100] : List UInt8).toArray), (ByteArray.mk ([98, 111, 111, 116] : List UInt8).toArray), (ByteArray.mk ([115, 104, 111, 119] : List UInt8).toArray), (ByteArray.mk ([114, 111, 108, 108] : List UInt8).toArray), (ByteArray.mk ([109, 97, 100, 101] : List UInt8).toArray), (ByteArray.mk ([116, 111, 111, 107] : List UInt8).toArray), (ByteArray.mk ([102, 97, 105, 108] : List UInt8).toArray)] : List ByteArray).length c5) ([(ByteArray.mk ([100, 105, 97, 108] : List UInt8).toArray), (ByteArray.mk ([99, 111, 109, 109, 105, 116] : List UInt8).toArray), (ByteArray.mk ([117, 112] : List UInt8).toArray), (ByteArray.mk ([115, 101, 114, 118, 101] : List UInt8).toArray), (ByteArray.mk ([115, 101, 110, 100] : List UInt8).toArray), (ByteArray.mk ([103, 111, 116] : List UInt8).toArray), (ByteArray.mk ([97, 115, 107] : List UInt8).toArray), (ByteArray.mk ([115, 97, 121] : List UInt8).toArray), (ByteArray.mk ([109, 111, 118, 101] : List UInt8).toArray), (ByteArray.mk ([116, 117, 114, 110] : List UInt8).toArray), (ByteArray.mk ([101, 110, 100] : List UInt8).toArray), (ByteArray.mk ([98, 111, 111, 116] : List UInt8).toArray), (ByteArray.mk ([115, 104, 111, 119] : List UInt8).toArray), (ByteArray.mk ([114, 111, 108, 108] : List UInt8).toArray), (ByteArray.mk ([109, 97, 100, 101] : List UInt8).toArray), (ByteArray.mk ([116, 111, 111, 107] : List UInt8).toArray), (ByteArray.mk ([102, 97, 105, 108] : List UInt8).toArray)] : List ByteArray).length (([(ByteArray.mk ([100, 105, 97, 108] : List UInt8).toArray), (ByteArray.mk ([99, 111, 109, 109, 105, 116] : List UInt8).toArray), (ByteArray.mk ([117, 112] : List UInt8).toArray), (ByteArray.mk ([115, 101, 114, 118, 101] : List UInt8).toArray), (ByteArray.mk ([115, 101, 110, 100] : List UInt8).toArray), (ByteArray.mk ([103, 111, 116] : List UInt8).toArray), (ByteArray.mk ([97, 115, 107] : List UInt8).toArray), (ByteArray.mk ([115, 97, 121] : List UInt8).toArray), (ByteArray.mk ([109, 111, 118, 101] : List UInt8).toArray), (ByteArray.mk ([116, 117, 114, 110] : List UInt8).toArray), (ByteArray.mk ([101, 110, 100] : List UInt8).toArray), (ByteArray.mk ([98, 111, 111, 116] : List UInt8).toArray), (ByteArray.mk ([115, 104, 111, 119] : List UInt8).toArray), (ByteArray.mk ([114, 111, 108, 108] : List UInt8).toArray), (ByteArray.mk ([109, 97, 100, 101] : List UInt8).toArray), (ByteArray.mk ([116, 111, 111, 107] : List UInt8).toArray), (ByteArray.mk ([102, 97, 105, 108] : List UInt8).toArray)] : List ByteArray).map Value.string) := o3
  refine wl_mv (.slice a4 ([(ByteArray.mk ([100, 105, 97, 108] : List UInt8).toArray), (ByteArray.mk ([99, 111, 109, 109, 105, 116] : List UInt8).toArray), (ByteArray.mk ([117, 112] : List UInt8).toArray), (ByteArray.mk ([115, 101, 114, 118, 101] : List UInt8).toArray), (ByteArray.mk ([115, 101, 110, 100] : List UInt8).toArray), (ByteArray.mk ([103, 111, 116] : List UInt8).toArray), (ByteArray.mk ([97, 115, 107] : List UInt8).toArray), (ByteArray.mk ([115, 97, 121] : List UInt8).toArray), (ByteArray.mk ([109, 111, 118, 101] : List UInt8).toArray), (ByteArray.mk ([116, 117, 114, 110] : List UInt8).toArray), (ByteArray.mk ([101, 110, 100] : List UInt8).toArray), (ByteArray.mk ([98, 111, 111, 116] : List UInt8).toArray), (ByteArray.mk ([115, 104, 111, 119] : List UInt8).toArray), (ByteArray.mk ([114, 111, 108, 108] : List UInt8).toArray), (ByteArray.mk ([109, 97, 100, 101] : List UInt8).toArray), (ByteArray.mk ([116, 111, 111, 107] : List UInt8).toArray), (ByteArray.mk ([102, 97, 105, 108] : List UInt8).toArray)] : List ByteArray).length c5) (want_none rfl) rfl rfl (.inr rfl) rfl ?_
  refine wl_nil ?_
  refine wq_then ?_
  refine wc_seq ?_
  refine wc_seq ?_
  refine wc_region ?_
  refine wl_mv (.int .i64 x_kind) (want_none rfl) rfl rfl (.inl rfl) rfl ?_
  refine wl_call (want_none rfl) (args := #[(.int .i64 x_kind), (.int .i64 1), (.int .i64 17)]) rfl rfl (by kernel_rfl) (C_spec_l1In w1 x_kind 1 17) ?_
  rintro _ w2 ⟨k9, rfl⟩
  have m10 := m6.extk k9
  refine wl_pure (.bool (!(F_spec_l1In x_kind 1 17))) (want_none rfl) rfl rfl (by kernel_rfl) ?_
  refine wl_nil ?_
  refine wq_then ?_
  rcases Bool.eq_false_or_eq_true (F_spec_l1In x_kind 1 17) with h11 | h11
  · have q12 := spec_l1In_t h11
    refine wc_false (congrArg (fun b => Value.bool (!b)) h11) ?_
    refine wc_skip ?_
    refine wq_then ?_
    refine wc_seq ?_
    refine wc_region ?_
    refine wl_mv (.slice a4 ([(ByteArray.mk ([100, 105, 97, 108] : List UInt8).toArray), (ByteArray.mk ([99, 111, 109, 109, 105, 116] : List UInt8).toArray), (ByteArray.mk ([117, 112] : List UInt8).toArray), (ByteArray.mk ([115, 101, 114, 118, 101] : List UInt8).toArray), (ByteArray.mk ([115, 101, 110, 100] : List UInt8).toArray), (ByteArray.mk ([103, 111, 116] : List UInt8).toArray), (ByteArray.mk ([97, 115, 107] : List UInt8).toArray), (ByteArray.mk ([115, 97, 121] : List UInt8).toArray), (ByteArray.mk ([109, 111, 118, 101] : List UInt8).toArray), (ByteArray.mk ([116, 117, 114, 110] : List UInt8).toArray), (ByteArray.mk ([101, 110, 100] : List UInt8).toArray), (ByteArray.mk ([98, 111, 111, 116] : List UInt8).toArray), (ByteArray.mk ([115, 104, 111, 119] : List UInt8).toArray), (ByteArray.mk ([114, 111, 108, 108] : List UInt8).toArray), (ByteArray.mk ([109, 97, 100, 101] : List UInt8).toArray), (ByteArray.mk ([116, 111, 111, 107] : List UInt8).toArray), (ByteArray.mk ([102, 97, 105, 108] : List UInt8).toArray)] : List ByteArray).length c5) (want_none rfl) rfl rfl (.inl rfl) rfl ?_
    refine wl_mv (.int .i64 x_kind) (want_none rfl) rfl rfl (.inl rfl) rfl ?_
    refine wl_arith (x_kind - 1) (want_none rfl) rfl rfl (by kernel_rfl) (by omega) (by omega) ?_
    have o13 := (own_kp o8 k9)
    refine wl_index (want_none rfl) (x_kind - 1) rfl rfl rfl slTy_63 rfl rfl (Rd.of_own o13) (by first | omega | (simp only [List.length_cons, List.length_nil, List.length_replicate, List.length_append, List.length_take, List.length_set, List.length_map]; omega)) (by first | omega | (simp only [List.length_cons, List.length_nil, List.length_replicate, List.length_append, List.length_take, List.length_set, List.length_map]; omega)) ?_
    refine wl_loadE (.string ([(ByteArray.mk ([100, 105, 97, 108] : List UInt8).toArray), (ByteArray.mk ([99, 111, 109, 109, 105, 116] : List UInt8).toArray), (ByteArray.mk ([117, 112] : List UInt8).toArray), (ByteArray.mk ([115, 101, 114, 118, 101] : List UInt8).toArray), (ByteArray.mk ([115, 101, 110, 100] : List UInt8).toArray), (ByteArray.mk ([103, 111, 116] : List UInt8).toArray), (ByteArray.mk ([97, 115, 107] : List UInt8).toArray), (ByteArray.mk ([115, 97, 121] : List UInt8).toArray), (ByteArray.mk ([109, 111, 118, 101] : List UInt8).toArray), (ByteArray.mk ([116, 117, 114, 110] : List UInt8).toArray), (ByteArray.mk ([101, 110, 100] : List UInt8).toArray), (ByteArray.mk ([98, 111, 111, 116] : List UInt8).toArray), (ByteArray.mk ([115, 104, 111, 119] : List UInt8).toArray), (ByteArray.mk ([114, 111, 108, 108] : List UInt8).toArray), (ByteArray.mk ([109, 97, 100, 101] : List UInt8).toArray), (ByteArray.mk ([116, 111, 111, 107] : List UInt8).toArray), (ByteArray.mk ([102, 97, 105, 108] : List UInt8).toArray)].getD ((x_kind - 1)).toNat ByteArray.empty)) (want_none rfl) rfl rfl rfl rfl isAgg_9 (Rd.of_own o13) (zget (by simp) (by first | omega | (simp only [List.length_cons, List.length_nil, List.length_replicate, List.length_append, List.length_take, List.length_set, List.length_map]; omega))) ?_
    refine wl_mv (.string ([(ByteArray.mk ([100, 105, 97, 108] : List UInt8).toArray), (ByteArray.mk ([99, 111, 109, 109, 105, 116] : List UInt8).toArray), (ByteArray.mk ([117, 112] : List UInt8).toArray), (ByteArray.mk ([115, 101, 114, 118, 101] : List UInt8).toArray), (ByteArray.mk ([115, 101, 110, 100] : List UInt8).toArray), (ByteArray.mk ([103, 111, 116] : List UInt8).toArray), (ByteArray.mk ([97, 115, 107] : List UInt8).toArray), (ByteArray.mk ([115, 97, 121] : List UInt8).toArray), (ByteArray.mk ([109, 111, 118, 101] : List UInt8).toArray), (ByteArray.mk ([116, 117, 114, 110] : List UInt8).toArray), (ByteArray.mk ([101, 110, 100] : List UInt8).toArray), (ByteArray.mk ([98, 111, 111, 116] : List UInt8).toArray), (ByteArray.mk ([115, 104, 111, 119] : List UInt8).toArray), (ByteArray.mk ([114, 111, 108, 108] : List UInt8).toArray), (ByteArray.mk ([109, 97, 100, 101] : List UInt8).toArray), (ByteArray.mk ([116, 111, 111, 107] : List UInt8).toArray), (ByteArray.mk ([102, 97, 105, 108] : List UInt8).toArray)].getD ((x_kind - 1)).toNat ByteArray.empty)) (want_none rfl) rfl rfl (.inr rfl) rfl ?_
    refine wl_nil ?_
    refine wq_then ?_
    refine wc_ret ?_
    refine ret_1 (.inl rfl) (.string ([(ByteArray.mk ([100, 105, 97, 108] : List UInt8).toArray), (ByteArray.mk ([99, 111, 109, 109, 105, 116] : List UInt8).toArray), (ByteArray.mk ([117, 112] : List UInt8).toArray), (ByteArray.mk ([115, 101, 114, 118, 101] : List UInt8).toArray), (ByteArray.mk ([115, 101, 110, 100] : List UInt8).toArray), (ByteArray.mk ([103, 111, 116] : List UInt8).toArray), (ByteArray.mk ([97, 115, 107] : List UInt8).toArray), (ByteArray.mk ([115, 97, 121] : List UInt8).toArray), (ByteArray.mk ([109, 111, 118, 101] : List UInt8).toArray), (ByteArray.mk ([116, 117, 114, 110] : List UInt8).toArray), (ByteArray.mk ([101, 110, 100] : List UInt8).toArray), (ByteArray.mk ([98, 111, 111, 116] : List UInt8).toArray), (ByteArray.mk ([115, 104, 111, 119] : List UInt8).toArray), (ByteArray.mk ([114, 111, 108, 108] : List UInt8).toArray), (ByteArray.mk ([109, 97, 100, 101] : List UInt8).toArray), (ByteArray.mk ([116, 111, 111, 107] : List UInt8).toArray), (ByteArray.mk ([102, 97, 105, 108] : List UInt8).toArray)].getD ((x_kind - 1)).toNat ByteArray.empty)) rfl rfl ?_
    refine ⟨m10.keep0, ?_⟩
    have hF14 : F_spec_NoteName x_kind = ([(ByteArray.mk ([100, 105, 97, 108] : List UInt8).toArray), (ByteArray.mk ([99, 111, 109, 109, 105, 116] : List UInt8).toArray), (ByteArray.mk ([117, 112] : List UInt8).toArray), (ByteArray.mk ([115, 101, 114, 118, 101] : List UInt8).toArray), (ByteArray.mk ([115, 101, 110, 100] : List UInt8).toArray), (ByteArray.mk ([103, 111, 116] : List UInt8).toArray), (ByteArray.mk ([97, 115, 107] : List UInt8).toArray), (ByteArray.mk ([115, 97, 121] : List UInt8).toArray), (ByteArray.mk ([109, 111, 118, 101] : List UInt8).toArray), (ByteArray.mk ([116, 117, 114, 110] : List UInt8).toArray), (ByteArray.mk ([101, 110, 100] : List UInt8).toArray), (ByteArray.mk ([98, 111, 111, 116] : List UInt8).toArray), (ByteArray.mk ([115, 104, 111, 119] : List UInt8).toArray), (ByteArray.mk ([114, 111, 108, 108] : List UInt8).toArray), (ByteArray.mk ([109, 97, 100, 101] : List UInt8).toArray), (ByteArray.mk ([116, 111, 111, 107] : List UInt8).toArray), (ByteArray.mk ([102, 97, 105, 108] : List UInt8).toArray)].getD ((x_kind - 1)).toNat ByteArray.empty) := by simp only [F_spec_NoteName, h11, cond_true, cond_false]
    rw [hF14]
    exact rfl
  · have q15 := spec_l1In_f h11
    refine wc_true (congrArg (fun b => Value.bool (!b)) h11) ?_
    refine wc_seq ?_
    refine wc_region ?_
    refine wl_mv (.string (ByteArray.mk ([] : List UInt8).toArray)) (want_none rfl) rfl rfl (.inr rfl) rfl ?_
    refine wl_nil ?_
    refine wq_then ?_
    refine wc_ret ?_
    refine wq_then_ret ?_
    refine ret_1 (.inl rfl) (.string (ByteArray.mk ([] : List UInt8).toArray)) rfl rfl ?_
    refine ⟨m10.keep0, ?_⟩
    have hF16 : F_spec_NoteName x_kind = (ByteArray.mk ([] : List UInt8).toArray) := by simp only [F_spec_NoteName, h11, cond_true, cond_false]
    rw [hF16]
    exact rfl

def F_impl_within (x_n : Int) (x_low : Int) (x_high : Int) : (Bool) := bif (decide (x_low ≤ x_n)) then (decide (x_n ≤ x_high)) else (false)
theorem C_impl_within (w0 : World) (x_n : Int) (x_low : Int) (x_high : Int)  : Fn Try.prog 51 #[(.int .i64 x_n), (.int .i64 x_low), (.int .i64 x_high)] w0 (fun v w' => Keep w0 w' ∧ O_4 w' w0.heap.size v (F_impl_within x_n x_low x_high)) := by
  refine fn_of (n := 15) (l := [(.int .i64 x_n), (.int .i64 x_low), (.int .i64 x_high), undef, undef, undef, undef, undef, undef, undef, undef, undef, undef, undef, undef]) Try.func51 rfl rfl (by kernel_rfl) rfl ?_
  refine wc_seq ?_
  refine wc_region ?_
  refine wl_mv (.bool false) (want_none rfl) rfl rfl (.inr rfl) rfl ?_
  refine wl_nil ?_
  refine wq_then ?_
  refine wc_seq ?_
  refine wc_region ?_
  refine wl_mv (.int .i64 x_n) (want_none rfl) rfl rfl (.inl rfl) rfl ?_
  refine wl_mv (.int .i64 x_low) (want_none rfl) rfl rfl (.inl rfl) rfl ?_
  refine wl_pure (.bool (decide (x_low ≤ x_n))) (want_none rfl) rfl rfl (by kernel_rfl) ?_
  refine wl_mv (.bool (decide (x_low ≤ x_n))) (want_none rfl) rfl rfl (.inl rfl) rfl ?_
  rcases Bool.eq_false_or_eq_true (decide (x_low ≤ x_n)) with h1 | h1
  · have q2 := of_decide_eq_true h1
    refine wl_mv (.int .i64 x_n) (want_some rfl rfl rfl (congrArg Value.bool h1)) rfl rfl (.inl rfl) rfl ?_
    refine wl_mv (.int .i64 x_high) (want_some rfl rfl rfl (congrArg Value.bool h1)) rfl rfl (.inl rfl) rfl ?_
    refine wl_pure (.bool (decide (x_n ≤ x_high))) (want_some rfl rfl rfl (congrArg Value.bool h1)) rfl rfl (by kernel_rfl) ?_
    refine wl_pick_t (.bool (decide (x_n ≤ x_high))) (want_none rfl) rfl rfl rfl (congrArg Value.bool h1) rfl ?_
    refine wl_mv (.bool (decide (x_n ≤ x_high))) (want_none rfl) rfl rfl (.inr rfl) rfl ?_
    refine wl_nil ?_
    refine wq_then ?_
    refine wc_ret ?_
    refine ret_1 (.inl rfl) (.bool (decide (x_n ≤ x_high))) rfl rfl ?_
    refine ⟨Ch.refl _ _, ?_⟩
    have hF3 : F_impl_within x_n x_low x_high = decide (x_n ≤ x_high) := by simp only [F_impl_within, h1, cond_true, cond_false]
    rw [hF3]
    exact rfl
  · have q4 := of_decide_eq_false h1
    refine wl_skip rfl rfl rfl (congrArg Value.bool h1) rfl rfl rfl ?_
    refine wl_skip rfl rfl rfl (congrArg Value.bool h1) rfl rfl rfl ?_
    refine wl_skip rfl rfl rfl (congrArg Value.bool h1) rfl rfl rfl ?_
    refine wl_pick_f (.bool false) (want_none rfl) rfl rfl rfl (congrArg Value.bool h1) rfl ?_
    refine wl_mv (.bool false) (want_none rfl) rfl rfl (.inr rfl) rfl ?_
    refine wl_nil ?_
    refine wq_then ?_
    refine wc_ret ?_
    refine ret_1 (.inl rfl) (.bool false) rfl rfl ?_
    refine ⟨Ch.refl _ _, ?_⟩
    have hF5 : F_impl_within x_n x_low x_high = false := by simp only [F_impl_within, h1, cond_true, cond_false]
    rw [hF5]
    exact rfl
theorem impl_within_t {n a b : Int} (h : F_impl_within n a b = true) : a ≤ n ∧ n ≤ b := by
  unfold F_impl_within at h
  by_cases h1 : a ≤ n <;> simp [h1] at h
  exact ⟨h1, h⟩
theorem impl_within_f {n a b : Int} (h : F_impl_within n a b = false) : n < a ∨ b < n := by
  unfold F_impl_within at h
  by_cases h1 : a ≤ n <;> simp [h1] at h <;> omega

def F_impl_NoteName (x_kind : Int) : (ByteArray) := bif (F_impl_within x_kind 1 17) then (([(ByteArray.mk ([100, 105, 97, 108] : List UInt8).toArray), (ByteArray.mk ([99, 111, 109, 109, 105, 116] : List UInt8).toArray), (ByteArray.mk ([117, 112] : List UInt8).toArray), (ByteArray.mk ([115, 101, 114, 118, 101] : List UInt8).toArray), (ByteArray.mk ([115, 101, 110, 100] : List UInt8).toArray), (ByteArray.mk ([103, 111, 116] : List UInt8).toArray), (ByteArray.mk ([97, 115, 107] : List UInt8).toArray), (ByteArray.mk ([115, 97, 121] : List UInt8).toArray), (ByteArray.mk ([109, 111, 118, 101] : List UInt8).toArray), (ByteArray.mk ([116, 117, 114, 110] : List UInt8).toArray), (ByteArray.mk ([101, 110, 100] : List UInt8).toArray), (ByteArray.mk ([98, 111, 111, 116] : List UInt8).toArray), (ByteArray.mk ([115, 104, 111, 119] : List UInt8).toArray), (ByteArray.mk ([114, 111, 108, 108] : List UInt8).toArray), (ByteArray.mk ([109, 97, 100, 101] : List UInt8).toArray), (ByteArray.mk ([116, 111, 111, 107] : List UInt8).toArray), (ByteArray.mk ([102, 97, 105, 108] : List UInt8).toArray)].getD ((x_kind - 1)).toNat ByteArray.empty)) else ((ByteArray.mk ([] : List UInt8).toArray))
theorem C_impl_NoteName (w0 : World) (x_kind : Int)  : Fn Try.prog 18 #[(.int .i64 x_kind)] w0 (fun v w' => Keep w0 w' ∧ O_9 w' w0.heap.size v (F_impl_NoteName x_kind)) := by
  refine fn_of (n := 13) (l := [(.int .i64 x_kind), undef, undef, undef, undef, undef, undef, undef, undef, undef, undef, undef, undef]) Try.func18 rfl rfl (by kernel_rfl) rfl ?_
  refine wc_seq ?_
  refine wc_region ?_
  refine wl_mv (.string (ByteArray.mk ([] : List UInt8).toArray)) (want_none rfl) rfl rfl (.inr rfl) rfl ?_
  refine wl_nil ?_
  refine wq_then ?_
  refine wc_seq ?_
  refine wc_region ?_
  refine wl_lit [(.string (ByteArray.mk ([100, 105, 97, 108] : List UInt8).toArray)), (.string (ByteArray.mk ([99, 111, 109, 109, 105, 116] : List UInt8).toArray)), (.string (ByteArray.mk ([117, 112] : List UInt8).toArray)), (.string (ByteArray.mk ([115, 101, 114, 118, 101] : List UInt8).toArray)), (.string (ByteArray.mk ([115, 101, 110, 100] : List UInt8).toArray)), (.string (ByteArray.mk ([103, 111, 116] : List UInt8).toArray)), (.string (ByteArray.mk ([97, 115, 107] : List UInt8).toArray)), (.string (ByteArray.mk ([115, 97, 121] : List UInt8).toArray)), (.string (ByteArray.mk ([109, 111, 118, 101] : List UInt8).toArray)), (.string (ByteArray.mk ([116, 117, 114, 110] : List UInt8).toArray)), (.string (ByteArray.mk ([101, 110, 100] : List UInt8).toArray)), (.string (ByteArray.mk ([98, 111, 111, 116] : List UInt8).toArray)), (.string (ByteArray.mk ([115, 104, 111, 119] : List UInt8).toArray)), (.string (ByteArray.mk ([114, 111, 108, 108] : List UInt8).toArray)), (.string (ByteArray.mk ([109, 97, 100, 101] : List UInt8).toArray)), (.string (ByteArray.mk ([116, 111, 111, 107] : List UInt8).toArray)), (.string (ByteArray.mk ([102, 97, 105, 108] : List UInt8).toArray))] (want_none rfl) rfl rfl slTy_63 (m := 17) rfl (by simp only [maxLen]; omega) (fun w => by kernel_rfl) ?_
  intro u1 w1 k2 o3
  obtain ⟨a4, c5, rfl⟩ := own_form o3
  have m6 := (Ch.base w0).extk k2
  have o8 : w1.ownsRow w0.heap.size 9 1 (.slice a4 ([(ByteArray.mk ([100, 105, 97, 108] : List UInt8).toArray), (ByteArray.mk ([99, 111, 109, 109, 105, 116] : List UInt8).toArray), (ByteArray.mk ([117, 112] : List UInt8).toArray), (ByteArray.mk ([115, 101, 114, 118, 101] : List UInt8).toArray), (ByteArray.mk ([115, 101, 110, 100] : List UInt8).toArray), (ByteArray.mk ([103, 111, 116] : List UInt8).toArray), (ByteArray.mk ([97, 115, 107] : List UInt8).toArray), (ByteArray.mk ([115, 97, 121] : List UInt8).toArray), (ByteArray.mk ([109, 111, 118, 101] : List UInt8).toArray), (ByteArray.mk ([116, 117, 114, 110] : List UInt8).toArray), (ByteArray.mk ([101, 110, 100] : List UInt8).toArray), (ByteArray.mk ([98, 111, 111, 116] : List UInt8).toArray), (ByteArray.mk ([115, 104, 111, 119] : List UInt8).toArray), (ByteArray.mk ([114, 111, 108, 108] : List UInt8).toArray), (ByteArray.mk ([109, 97, 100, 101] : List UInt8).toArray), (ByteArray.mk ([116, 111, 111, 107] : List UInt8).toArray), (ByteArray.mk ([102, 97, 105, 108] : List UInt8).toArray)] : List ByteArray).length c5) ([(ByteArray.mk ([100, 105, 97, 108] : List UInt8).toArray), (ByteArray.mk ([99, 111, 109, 109, 105, 116] : List UInt8).toArray), (ByteArray.mk ([117, 112] : List UInt8).toArray), (ByteArray.mk ([115, 101, 114, 118, 101] : List UInt8).toArray), (ByteArray.mk ([115, 101, 110, 100] : List UInt8).toArray), (ByteArray.mk ([103, 111, 116] : List UInt8).toArray), (ByteArray.mk ([97, 115, 107] : List UInt8).toArray), (ByteArray.mk ([115, 97, 121] : List UInt8).toArray), (ByteArray.mk ([109, 111, 118, 101] : List UInt8).toArray), (ByteArray.mk ([116, 117, 114, 110] : List UInt8).toArray), (ByteArray.mk ([101, 110, 100] : List UInt8).toArray), (ByteArray.mk ([98, 111, 111, 116] : List UInt8).toArray), (ByteArray.mk ([115, 104, 111, 119] : List UInt8).toArray), (ByteArray.mk ([114, 111, 108, 108] : List UInt8).toArray), (ByteArray.mk ([109, 97, 100, 101] : List UInt8).toArray), (ByteArray.mk ([116, 111, 111, 107] : List UInt8).toArray), (ByteArray.mk ([102, 97, 105, 108] : List UInt8).toArray)] : List ByteArray).length (([(ByteArray.mk ([100, 105, 97, 108] : List UInt8).toArray), (ByteArray.mk ([99, 111, 109, 109, 105, 116] : List UInt8).toArray), (ByteArray.mk ([117, 112] : List UInt8).toArray), (ByteArray.mk ([115, 101, 114, 118, 101] : List UInt8).toArray), (ByteArray.mk ([115, 101, 110, 100] : List UInt8).toArray), (ByteArray.mk ([103, 111, 116] : List UInt8).toArray), (ByteArray.mk ([97, 115, 107] : List UInt8).toArray), (ByteArray.mk ([115, 97, 121] : List UInt8).toArray), (ByteArray.mk ([109, 111, 118, 101] : List UInt8).toArray), (ByteArray.mk ([116, 117, 114, 110] : List UInt8).toArray), (ByteArray.mk ([101, 110, 100] : List UInt8).toArray), (ByteArray.mk ([98, 111, 111, 116] : List UInt8).toArray), (ByteArray.mk ([115, 104, 111, 119] : List UInt8).toArray), (ByteArray.mk ([114, 111, 108, 108] : List UInt8).toArray), (ByteArray.mk ([109, 97, 100, 101] : List UInt8).toArray), (ByteArray.mk ([116, 111, 111, 107] : List UInt8).toArray), (ByteArray.mk ([102, 97, 105, 108] : List UInt8).toArray)] : List ByteArray).map Value.string) := o3
  refine wl_mv (.slice a4 ([(ByteArray.mk ([100, 105, 97, 108] : List UInt8).toArray), (ByteArray.mk ([99, 111, 109, 109, 105, 116] : List UInt8).toArray), (ByteArray.mk ([117, 112] : List UInt8).toArray), (ByteArray.mk ([115, 101, 114, 118, 101] : List UInt8).toArray), (ByteArray.mk ([115, 101, 110, 100] : List UInt8).toArray), (ByteArray.mk ([103, 111, 116] : List UInt8).toArray), (ByteArray.mk ([97, 115, 107] : List UInt8).toArray), (ByteArray.mk ([115, 97, 121] : List UInt8).toArray), (ByteArray.mk ([109, 111, 118, 101] : List UInt8).toArray), (ByteArray.mk ([116, 117, 114, 110] : List UInt8).toArray), (ByteArray.mk ([101, 110, 100] : List UInt8).toArray), (ByteArray.mk ([98, 111, 111, 116] : List UInt8).toArray), (ByteArray.mk ([115, 104, 111, 119] : List UInt8).toArray), (ByteArray.mk ([114, 111, 108, 108] : List UInt8).toArray), (ByteArray.mk ([109, 97, 100, 101] : List UInt8).toArray), (ByteArray.mk ([116, 111, 111, 107] : List UInt8).toArray), (ByteArray.mk ([102, 97, 105, 108] : List UInt8).toArray)] : List ByteArray).length c5) (want_none rfl) rfl rfl (.inr rfl) rfl ?_
  refine wl_nil ?_
  refine wq_then ?_
  refine wc_seq ?_
  refine wc_seq ?_
  refine wc_region ?_
  refine wl_mv (.int .i64 x_kind) (want_none rfl) rfl rfl (.inl rfl) rfl ?_
  refine wl_call (want_none rfl) (args := #[(.int .i64 x_kind), (.int .i64 1), (.int .i64 17)]) rfl rfl (by kernel_rfl) (C_impl_within w1 x_kind 1 17) ?_
  rintro _ w2 ⟨k9, rfl⟩
  have m10 := m6.extk k9
  refine wl_pure (.bool (!(F_impl_within x_kind 1 17))) (want_none rfl) rfl rfl (by kernel_rfl) ?_
  refine wl_nil ?_
  refine wq_then ?_
  rcases Bool.eq_false_or_eq_true (F_impl_within x_kind 1 17) with h11 | h11
  · have q12 := impl_within_t h11
    refine wc_false (congrArg (fun b => Value.bool (!b)) h11) ?_
    refine wc_skip ?_
    refine wq_then ?_
    refine wc_seq ?_
    refine wc_region ?_
    refine wl_mv (.slice a4 ([(ByteArray.mk ([100, 105, 97, 108] : List UInt8).toArray), (ByteArray.mk ([99, 111, 109, 109, 105, 116] : List UInt8).toArray), (ByteArray.mk ([117, 112] : List UInt8).toArray), (ByteArray.mk ([115, 101, 114, 118, 101] : List UInt8).toArray), (ByteArray.mk ([115, 101, 110, 100] : List UInt8).toArray), (ByteArray.mk ([103, 111, 116] : List UInt8).toArray), (ByteArray.mk ([97, 115, 107] : List UInt8).toArray), (ByteArray.mk ([115, 97, 121] : List UInt8).toArray), (ByteArray.mk ([109, 111, 118, 101] : List UInt8).toArray), (ByteArray.mk ([116, 117, 114, 110] : List UInt8).toArray), (ByteArray.mk ([101, 110, 100] : List UInt8).toArray), (ByteArray.mk ([98, 111, 111, 116] : List UInt8).toArray), (ByteArray.mk ([115, 104, 111, 119] : List UInt8).toArray), (ByteArray.mk ([114, 111, 108, 108] : List UInt8).toArray), (ByteArray.mk ([109, 97, 100, 101] : List UInt8).toArray), (ByteArray.mk ([116, 111, 111, 107] : List UInt8).toArray), (ByteArray.mk ([102, 97, 105, 108] : List UInt8).toArray)] : List ByteArray).length c5) (want_none rfl) rfl rfl (.inl rfl) rfl ?_
    refine wl_mv (.int .i64 x_kind) (want_none rfl) rfl rfl (.inl rfl) rfl ?_
    refine wl_arith (x_kind - 1) (want_none rfl) rfl rfl (by kernel_rfl) (by omega) (by omega) ?_
    have o13 := (own_kp o8 k9)
    refine wl_index (want_none rfl) (x_kind - 1) rfl rfl rfl slTy_63 rfl rfl (Rd.of_own o13) (by first | omega | (simp only [List.length_cons, List.length_nil, List.length_replicate, List.length_append, List.length_take, List.length_set, List.length_map]; omega)) (by first | omega | (simp only [List.length_cons, List.length_nil, List.length_replicate, List.length_append, List.length_take, List.length_set, List.length_map]; omega)) ?_
    refine wl_loadE (.string ([(ByteArray.mk ([100, 105, 97, 108] : List UInt8).toArray), (ByteArray.mk ([99, 111, 109, 109, 105, 116] : List UInt8).toArray), (ByteArray.mk ([117, 112] : List UInt8).toArray), (ByteArray.mk ([115, 101, 114, 118, 101] : List UInt8).toArray), (ByteArray.mk ([115, 101, 110, 100] : List UInt8).toArray), (ByteArray.mk ([103, 111, 116] : List UInt8).toArray), (ByteArray.mk ([97, 115, 107] : List UInt8).toArray), (ByteArray.mk ([115, 97, 121] : List UInt8).toArray), (ByteArray.mk ([109, 111, 118, 101] : List UInt8).toArray), (ByteArray.mk ([116, 117, 114, 110] : List UInt8).toArray), (ByteArray.mk ([101, 110, 100] : List UInt8).toArray), (ByteArray.mk ([98, 111, 111, 116] : List UInt8).toArray), (ByteArray.mk ([115, 104, 111, 119] : List UInt8).toArray), (ByteArray.mk ([114, 111, 108, 108] : List UInt8).toArray), (ByteArray.mk ([109, 97, 100, 101] : List UInt8).toArray), (ByteArray.mk ([116, 111, 111, 107] : List UInt8).toArray), (ByteArray.mk ([102, 97, 105, 108] : List UInt8).toArray)].getD ((x_kind - 1)).toNat ByteArray.empty)) (want_none rfl) rfl rfl rfl rfl isAgg_9 (Rd.of_own o13) (zget (by simp) (by first | omega | (simp only [List.length_cons, List.length_nil, List.length_replicate, List.length_append, List.length_take, List.length_set, List.length_map]; omega))) ?_
    refine wl_mv (.string ([(ByteArray.mk ([100, 105, 97, 108] : List UInt8).toArray), (ByteArray.mk ([99, 111, 109, 109, 105, 116] : List UInt8).toArray), (ByteArray.mk ([117, 112] : List UInt8).toArray), (ByteArray.mk ([115, 101, 114, 118, 101] : List UInt8).toArray), (ByteArray.mk ([115, 101, 110, 100] : List UInt8).toArray), (ByteArray.mk ([103, 111, 116] : List UInt8).toArray), (ByteArray.mk ([97, 115, 107] : List UInt8).toArray), (ByteArray.mk ([115, 97, 121] : List UInt8).toArray), (ByteArray.mk ([109, 111, 118, 101] : List UInt8).toArray), (ByteArray.mk ([116, 117, 114, 110] : List UInt8).toArray), (ByteArray.mk ([101, 110, 100] : List UInt8).toArray), (ByteArray.mk ([98, 111, 111, 116] : List UInt8).toArray), (ByteArray.mk ([115, 104, 111, 119] : List UInt8).toArray), (ByteArray.mk ([114, 111, 108, 108] : List UInt8).toArray), (ByteArray.mk ([109, 97, 100, 101] : List UInt8).toArray), (ByteArray.mk ([116, 111, 111, 107] : List UInt8).toArray), (ByteArray.mk ([102, 97, 105, 108] : List UInt8).toArray)].getD ((x_kind - 1)).toNat ByteArray.empty)) (want_none rfl) rfl rfl (.inr rfl) rfl ?_
    refine wl_nil ?_
    refine wq_then ?_
    refine wc_ret ?_
    refine ret_1 (.inl rfl) (.string ([(ByteArray.mk ([100, 105, 97, 108] : List UInt8).toArray), (ByteArray.mk ([99, 111, 109, 109, 105, 116] : List UInt8).toArray), (ByteArray.mk ([117, 112] : List UInt8).toArray), (ByteArray.mk ([115, 101, 114, 118, 101] : List UInt8).toArray), (ByteArray.mk ([115, 101, 110, 100] : List UInt8).toArray), (ByteArray.mk ([103, 111, 116] : List UInt8).toArray), (ByteArray.mk ([97, 115, 107] : List UInt8).toArray), (ByteArray.mk ([115, 97, 121] : List UInt8).toArray), (ByteArray.mk ([109, 111, 118, 101] : List UInt8).toArray), (ByteArray.mk ([116, 117, 114, 110] : List UInt8).toArray), (ByteArray.mk ([101, 110, 100] : List UInt8).toArray), (ByteArray.mk ([98, 111, 111, 116] : List UInt8).toArray), (ByteArray.mk ([115, 104, 111, 119] : List UInt8).toArray), (ByteArray.mk ([114, 111, 108, 108] : List UInt8).toArray), (ByteArray.mk ([109, 97, 100, 101] : List UInt8).toArray), (ByteArray.mk ([116, 111, 111, 107] : List UInt8).toArray), (ByteArray.mk ([102, 97, 105, 108] : List UInt8).toArray)].getD ((x_kind - 1)).toNat ByteArray.empty)) rfl rfl ?_
    refine ⟨m10.keep0, ?_⟩
    have hF14 : F_impl_NoteName x_kind = ([(ByteArray.mk ([100, 105, 97, 108] : List UInt8).toArray), (ByteArray.mk ([99, 111, 109, 109, 105, 116] : List UInt8).toArray), (ByteArray.mk ([117, 112] : List UInt8).toArray), (ByteArray.mk ([115, 101, 114, 118, 101] : List UInt8).toArray), (ByteArray.mk ([115, 101, 110, 100] : List UInt8).toArray), (ByteArray.mk ([103, 111, 116] : List UInt8).toArray), (ByteArray.mk ([97, 115, 107] : List UInt8).toArray), (ByteArray.mk ([115, 97, 121] : List UInt8).toArray), (ByteArray.mk ([109, 111, 118, 101] : List UInt8).toArray), (ByteArray.mk ([116, 117, 114, 110] : List UInt8).toArray), (ByteArray.mk ([101, 110, 100] : List UInt8).toArray), (ByteArray.mk ([98, 111, 111, 116] : List UInt8).toArray), (ByteArray.mk ([115, 104, 111, 119] : List UInt8).toArray), (ByteArray.mk ([114, 111, 108, 108] : List UInt8).toArray), (ByteArray.mk ([109, 97, 100, 101] : List UInt8).toArray), (ByteArray.mk ([116, 111, 111, 107] : List UInt8).toArray), (ByteArray.mk ([102, 97, 105, 108] : List UInt8).toArray)].getD ((x_kind - 1)).toNat ByteArray.empty) := by simp only [F_impl_NoteName, h11, cond_true, cond_false]
    rw [hF14]
    exact rfl
  · have q15 := impl_within_f h11
    refine wc_true (congrArg (fun b => Value.bool (!b)) h11) ?_
    refine wc_seq ?_
    refine wc_region ?_
    refine wl_mv (.string (ByteArray.mk ([] : List UInt8).toArray)) (want_none rfl) rfl rfl (.inr rfl) rfl ?_
    refine wl_nil ?_
    refine wq_then ?_
    refine wc_ret ?_
    refine wq_then_ret ?_
    refine ret_1 (.inl rfl) (.string (ByteArray.mk ([] : List UInt8).toArray)) rfl rfl ?_
    refine ⟨m10.keep0, ?_⟩
    have hF16 : F_impl_NoteName x_kind = (ByteArray.mk ([] : List UInt8).toArray) := by simp only [F_impl_NoteName, h11, cond_true, cond_false]
    rw [hF16]
    exact rfl

def F_laws_FnExactNoteName (x_aKind : Int) : (Bool) := bif (eqS (F_impl_NoteName x_aKind) (F_spec_NoteName x_aKind)) then (true) else (false)
theorem C_laws_FnExactNoteName (w0 : World) (x_aKind : Int)  : Fn Try.prog 4 #[(.int .i64 x_aKind)] w0 (fun v w' => Keep w0 w' ∧ O_4 w' w0.heap.size v (F_laws_FnExactNoteName x_aKind)) := by
  refine fn_of (n := 12) (l := [(.int .i64 x_aKind), undef, undef, undef, undef, undef, undef, undef, undef, undef, undef, undef]) Try.func4 rfl rfl (by kernel_rfl) rfl ?_
  refine wc_seq ?_
  refine wc_region ?_
  refine wl_mv (.bool false) (want_none rfl) rfl rfl (.inr rfl) rfl ?_
  refine wl_nil ?_
  refine wq_then ?_
  refine wc_seq ?_
  refine wc_region ?_
  refine wl_mv (.int .i64 x_aKind) (want_none rfl) rfl rfl (.inl rfl) rfl ?_
  refine wl_call (want_none rfl) (args := #[(.int .i64 x_aKind)]) rfl rfl (by kernel_rfl) (C_spec_NoteName w0 x_aKind) ?_
  rintro _ w1 ⟨k1, rfl⟩
  have m2 := (Ch.base w0).extk k1
  refine wl_mv (.string (F_spec_NoteName x_aKind)) (want_none rfl) rfl rfl (.inr rfl) rfl ?_
  refine wl_nil ?_
  refine wq_then ?_
  refine wc_seq ?_
  refine wc_region ?_
  refine wl_mv (.int .i64 x_aKind) (want_none rfl) rfl rfl (.inl rfl) rfl ?_
  refine wl_call (want_none rfl) (args := #[(.int .i64 x_aKind)]) rfl rfl (by kernel_rfl) (C_impl_NoteName w1 x_aKind) ?_
  rintro _ w2 ⟨k3, rfl⟩
  have m4 := m2.extk k3
  refine wl_mv (.string (F_impl_NoteName x_aKind)) (want_none rfl) rfl rfl (.inr rfl) rfl ?_
  refine wl_nil ?_
  refine wq_then ?_
  refine wc_seq ?_
  refine wc_seq ?_
  refine wc_region ?_
  refine wl_mv (.string (F_impl_NoteName x_aKind)) (want_none rfl) rfl rfl (.inl rfl) rfl ?_
  refine wl_mv (.string (F_spec_NoteName x_aKind)) (want_none rfl) rfl rfl (.inl rfl) rfl ?_
  refine wl_pure (.bool (!(eqS (F_impl_NoteName x_aKind) (F_spec_NoteName x_aKind)))) (want_none rfl) rfl rfl (by kernel_rfl) ?_
  refine wl_nil ?_
  refine wq_then ?_
  rcases Bool.eq_false_or_eq_true (eqS (F_impl_NoteName x_aKind) (F_spec_NoteName x_aKind)) with h5 | h5
  · skip
    refine wc_false (congrArg (fun b => Value.bool (!b)) h5) ?_
    refine wc_skip ?_
    refine wq_then ?_
    refine wc_seq ?_
    refine wc_region ?_
    refine wl_mv (.bool true) (want_none rfl) rfl rfl (.inr rfl) rfl ?_
    refine wl_nil ?_
    refine wq_then ?_
    refine wc_ret ?_
    refine ret_1 (.inl rfl) (.bool true) rfl rfl ?_
    refine ⟨m4.keep0, ?_⟩
    have hF7 : F_laws_FnExactNoteName x_aKind = true := by simp only [F_laws_FnExactNoteName, h5, cond_true, cond_false]
    rw [hF7]
    exact rfl
  · skip
    refine wc_true (congrArg (fun b => Value.bool (!b)) h5) ?_
    refine wc_seq ?_
    refine wc_region ?_
    refine wl_mv (.bool false) (want_none rfl) rfl rfl (.inr rfl) rfl ?_
    refine wl_nil ?_
    refine wq_then ?_
    refine wc_ret ?_
    refine wq_then_ret ?_
    refine ret_1 (.inl rfl) (.bool false) rfl rfl ?_
    refine ⟨m4.keep0, ?_⟩
    have hF9 : F_laws_FnExactNoteName x_aKind = false := by simp only [F_laws_FnExactNoteName, h5, cond_true, cond_false]
    rw [hF9]
    exact rfl
end Go.Proofs.Ytacefhmlgneegaa.K
