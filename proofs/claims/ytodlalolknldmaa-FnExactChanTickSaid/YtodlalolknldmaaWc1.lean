import Derived.Test.YtodlalolknldmaaCore
import Derived.Test.YtodlalolknldmaaProg
import Derived.Test.YtodlalolknldmaaHeld
import Derived.Test.YtodlalolknldmaaFun
namespace Go.Proofs.Ytodlalolknldmaa.K
open Go.RowKit
set_option linter.unusedVariables false
set_option linter.unusedSimpArgs false
set_option maxRecDepth 100000
theorem slTy_22 : SlTy Try.prog 22 5 1 1 (.int .u8 0) := slTy Try.underlying22 (by kernel_rfl) rfl rfl
def Q_22 (w : World) (v : Value) (x : (List UInt8)) : Prop := ∃ (a1 : Option Addr) (c1 : Nat), v = .slice a1 x.length c1 ∧ Rd w 1 (.slice a1 x.length c1) x.length (x.map bV) ∧ x.length ≤ 9223372036854775807
def O_3 (w : World) (lo : Nat) (v : Value) (x : (Int)) : Prop := v = .int .i64 x
def F_laws_szByteS (x_a : List UInt8) (x_left : Int) : (Int) := bif (decide ((x_left - (x_a.length : Int)) < 0)) then ((-1)) else ((x_left - (x_a.length : Int)))
theorem C_laws_szByteS (w0 : World) (v_x_a : Value) (x_a : List UInt8) (r_x_a : Q_22 w0 v_x_a x_a) (x_left : Int) (pre0 : 0 ≤ x_left) (pre1 : x_left ≤ 1048576) : Fn Try.prog 74 #[v_x_a, (.int .i64 x_left)] w0 (fun v w' => Keep w0 w' ∧ O_3 w' w0.heap.size v (F_laws_szByteS x_a x_left)) := by
  obtain ⟨a1, c2, rfl, r3, s4⟩ := r_x_a
  refine fn_of (n := 12) (l := [(.slice a1 x_a.length c2), (.int .i64 x_left), undef, undef, undef, undef, undef, undef, undef, undef, undef, undef]) Try.func74 rfl rfl (by kernel_rfl) rfl ?_
  refine wc_seq ?_
  refine wc_region ?_
  refine wl_mv (.int .i64 0) (want_none rfl) rfl rfl (.inr rfl) rfl ?_
  refine wl_nil ?_
  refine wq_then ?_
  refine wc_seq ?_
  refine wc_region ?_
  refine wl_mv (.int .i64 x_left) (want_none rfl) rfl rfl (.inl rfl) rfl ?_
  refine wl_mv (.slice a1 x_a.length c2) (want_none rfl) rfl rfl (.inl rfl) rfl ?_
  refine wl_len (want_none rfl) rfl rfl rfl slTy_22 rfl r3 ?_
  refine wl_arith (x_left - (x_a.length : Int)) (want_none rfl) rfl rfl (by kernel_rfl) (by omega) (by omega) ?_
  refine wl_mv (.int .i64 (x_left - (x_a.length : Int))) (want_none rfl) rfl rfl (.inr rfl) rfl ?_
  refine wl_nil ?_
  refine wq_then ?_
  refine wc_seq ?_
  refine wc_seq ?_
  refine wc_region ?_
  refine wl_mv (.int .i64 (x_left - (x_a.length : Int))) (want_none rfl) rfl rfl (.inl rfl) rfl ?_
  refine wl_pure (.bool (decide ((x_left - (x_a.length : Int)) < 0))) (want_none rfl) rfl rfl (by kernel_rfl) ?_
  refine wl_nil ?_
  refine wq_then ?_
  rcases Bool.eq_false_or_eq_true (decide ((x_left - (x_a.length : Int)) < 0)) with h6 | h6
  · have q7 := of_decide_eq_true h6
    refine wc_true (congrArg Value.bool h6) ?_
    refine wc_seq ?_
    refine wc_region ?_
    refine wl_mv (.int .i64 (-1)) (want_none rfl) rfl rfl (.inr rfl) rfl ?_
    refine wl_nil ?_
    refine wq_then ?_
    refine wc_ret ?_
    refine wq_then_ret ?_
    refine ret_1 (.inl rfl) (.int .i64 (-1)) rfl rfl ?_
    refine ⟨Ch.refl _ _, ?_⟩
    have hF8 : F_laws_szByteS x_a x_left = (-1) := by simp only [F_laws_szByteS, h6, cond_true, cond_false]
    rw [hF8]
    exact rfl
  · have q9 := of_decide_eq_false h6
    refine wc_false (congrArg Value.bool h6) ?_
    refine wc_skip ?_
    refine wq_then ?_
    refine wc_seq ?_
    refine wc_region ?_
    refine wl_mv (.int .i64 (x_left - (x_a.length : Int))) (want_none rfl) rfl rfl (.inl rfl) rfl ?_
    refine wl_mv (.int .i64 (x_left - (x_a.length : Int))) (want_none rfl) rfl rfl (.inr rfl) rfl ?_
    refine wl_nil ?_
    refine wq_then ?_
    refine wc_ret ?_
    refine ret_1 (.inl rfl) (.int .i64 (x_left - (x_a.length : Int))) rfl rfl ?_
    refine ⟨Ch.refl _ _, ?_⟩
    have hF10 : F_laws_szByteS x_a x_left = (x_left - (x_a.length : Int)) := by simp only [F_laws_szByteS, h6, cond_true, cond_false]
    rw [hF10]
    exact rfl
theorem laws_szByteS_le (x : List UInt8) (l : Int) : F_laws_szByteS x l = -1 ∨ (F_laws_szByteS x l = l - ((x.length : Int)) ∧ (0 ≤ F_laws_szByteS x l ∨ l < 0 ∨ False)) := by

  simp only [F_laws_szByteS, cond_eq_ite, decide_eq_true_eq]
  (repeat' split) <;> omega

theorem slTy_23 : SlTy Try.prog 23 3 1 8 (.int .i64 0) := slTy Try.underlying23 (by kernel_rfl) rfl rfl
def Q_23 (w : World) (v : Value) (x : (List Int)) : Prop := ∃ (a1 : Option Addr) (c1 : Nat), v = .slice a1 x.length c1 ∧ Rd w 1 (.slice a1 x.length c1) x.length (x.map iV) ∧ x.length ≤ 9223372036854775807
def F_laws_szIntS (x_a : List Int) (x_left : Int) : (Int) := bif (decide ((x_left - (x_a.length : Int)) < 0)) then ((-1)) else ((x_left - (x_a.length : Int)))
theorem C_laws_szIntS (w0 : World) (v_x_a : Value) (x_a : List Int) (r_x_a : Q_23 w0 v_x_a x_a) (x_left : Int) (pre0 : 0 ≤ x_left) (pre1 : x_left ≤ 1048576) : Fn Try.prog 122 #[v_x_a, (.int .i64 x_left)] w0 (fun v w' => Keep w0 w' ∧ O_3 w' w0.heap.size v (F_laws_szIntS x_a x_left)) := by
  obtain ⟨a1, c2, rfl, r3, s4⟩ := r_x_a
  refine fn_of (n := 12) (l := [(.slice a1 x_a.length c2), (.int .i64 x_left), undef, undef, undef, undef, undef, undef, undef, undef, undef, undef]) Try.func122 rfl rfl (by kernel_rfl) rfl ?_
  refine wc_seq ?_
  refine wc_region ?_
  refine wl_mv (.int .i64 0) (want_none rfl) rfl rfl (.inr rfl) rfl ?_
  refine wl_nil ?_
  refine wq_then ?_
  refine wc_seq ?_
  refine wc_region ?_
  refine wl_mv (.int .i64 x_left) (want_none rfl) rfl rfl (.inl rfl) rfl ?_
  refine wl_mv (.slice a1 x_a.length c2) (want_none rfl) rfl rfl (.inl rfl) rfl ?_
  refine wl_len (want_none rfl) rfl rfl rfl slTy_23 rfl r3 ?_
  refine wl_arith (x_left - (x_a.length : Int)) (want_none rfl) rfl rfl (by kernel_rfl) (by omega) (by omega) ?_
  refine wl_mv (.int .i64 (x_left - (x_a.length : Int))) (want_none rfl) rfl rfl (.inr rfl) rfl ?_
  refine wl_nil ?_
  refine wq_then ?_
  refine wc_seq ?_
  refine wc_seq ?_
  refine wc_region ?_
  refine wl_mv (.int .i64 (x_left - (x_a.length : Int))) (want_none rfl) rfl rfl (.inl rfl) rfl ?_
  refine wl_pure (.bool (decide ((x_left - (x_a.length : Int)) < 0))) (want_none rfl) rfl rfl (by kernel_rfl) ?_
  refine wl_nil ?_
  refine wq_then ?_
  rcases Bool.eq_false_or_eq_true (decide ((x_left - (x_a.length : Int)) < 0)) with h6 | h6
  · have q7 := of_decide_eq_true h6
    refine wc_true (congrArg Value.bool h6) ?_
    refine wc_seq ?_
    refine wc_region ?_
    refine wl_mv (.int .i64 (-1)) (want_none rfl) rfl rfl (.inr rfl) rfl ?_
    refine wl_nil ?_
    refine wq_then ?_
    refine wc_ret ?_
    refine wq_then_ret ?_
    refine ret_1 (.inl rfl) (.int .i64 (-1)) rfl rfl ?_
    refine ⟨Ch.refl _ _, ?_⟩
    have hF8 : F_laws_szIntS x_a x_left = (-1) := by simp only [F_laws_szIntS, h6, cond_true, cond_false]
    rw [hF8]
    exact rfl
  · have q9 := of_decide_eq_false h6
    refine wc_false (congrArg Value.bool h6) ?_
    refine wc_skip ?_
    refine wq_then ?_
    refine wc_seq ?_
    refine wc_region ?_
    refine wl_mv (.int .i64 (x_left - (x_a.length : Int))) (want_none rfl) rfl rfl (.inl rfl) rfl ?_
    refine wl_mv (.int .i64 (x_left - (x_a.length : Int))) (want_none rfl) rfl rfl (.inr rfl) rfl ?_
    refine wl_nil ?_
    refine wq_then ?_
    refine wc_ret ?_
    refine ret_1 (.inl rfl) (.int .i64 (x_left - (x_a.length : Int))) rfl rfl ?_
    refine ⟨Ch.refl _ _, ?_⟩
    have hF10 : F_laws_szIntS x_a x_left = (x_left - (x_a.length : Int)) := by simp only [F_laws_szIntS, h6, cond_true, cond_false]
    rw [hF10]
    exact rfl
theorem laws_szIntS_le (x : List Int) (l : Int) : F_laws_szIntS x l = -1 ∨ (F_laws_szIntS x l = l - ((x.length : Int)) ∧ (0 ≤ F_laws_szIntS x l ∨ l < 0 ∨ False)) := by

  simp only [F_laws_szIntS, cond_eq_ite, decide_eq_true_eq]
  (repeat' split) <;> omega

theorem isAgg_23 : ∀ w, (isAgg 23).run Try.prog w = .ok false w := fun w => by kernel_rfl
def Q_37 (w : World) (v : Value) (x : (PWin)) : Prop := ∃ (a1 : Option Addr) (c1 : Nat), v = .agg #[.int .i64 x.Top, .slice a1 x.Bits.length c1] ∧ Rd w 1 (.slice a1 x.Bits.length c1) x.Bits.length (x.Bits.map iV) ∧ x.Bits.length ≤ 9223372036854775807
def F_laws_szWin (x_a : PWin) (x_left : Int) : (Int) := bif (decide ((F_laws_szIntS x_a.Bits x_left) < 0)) then ((-1)) else ((F_laws_szIntS x_a.Bits x_left))
theorem C_laws_szWin (w0 : World) (v_x_a : Value) (x_a : PWin) (r_x_a : Q_37 w0 v_x_a x_a) (x_left : Int) (pre0 : 0 ≤ x_left) (pre1 : x_left ≤ 1048576) : Fn Try.prog 108 #[v_x_a, (.int .i64 x_left)] w0 (fun v w' => Keep w0 w' ∧ O_3 w' w0.heap.size v (F_laws_szWin x_a x_left)) := by
  obtain ⟨a1, c2, rfl, r3, s4⟩ := r_x_a
  refine fn_of (n := 12) (l := [(.agg #[(.int .i64 x_a.Top), (.slice a1 x_a.Bits.length c2)]), (.int .i64 x_left), undef, undef, undef, undef, undef, undef, undef, undef, undef, undef]) Try.func108 rfl rfl (by kernel_rfl) rfl ?_
  refine wc_seq ?_
  refine wc_region ?_
  refine wl_box (want_none rfl) [(.int .i64 x_a.Top), (.slice a1 x_a.Bits.length c2)] rfl rfl rfl rfl ?_
  intro g6 w1 p7 p8 k9 b10
  have m11 := (Ch.base w0).extk k9
  refine wl_mv (.int .i64 0) (want_none rfl) rfl rfl (.inr rfl) rfl ?_
  refine wl_nil ?_
  refine wq_then ?_
  refine wc_seq ?_
  refine wc_region ?_
  refine wl_pure (.pointer (some ⟨g6, 1, none⟩)) (want_none rfl) rfl rfl (by kernel_rfl) ?_
  refine wl_load1 (.slice a1 x_a.Bits.length c2) (want_none rfl) rfl rfl rfl rfl isAgg_23 b10 rfl ?_
  refine wl_mv (.int .i64 x_left) (want_none rfl) rfl rfl (.inl rfl) rfl ?_
  refine wl_call (want_none rfl) (args := #[(.slice a1 x_a.Bits.length c2), (.int .i64 x_left)]) rfl rfl (by kernel_rfl) (C_laws_szIntS w1 (.slice a1 x_a.Bits.length c2) x_a.Bits (show Q_23 w1 (.slice a1 x_a.Bits.length c2) x_a.Bits from ⟨_, _, rfl, (r3.from0 m11), s4⟩) x_left (by omega) (by omega)) ?_
  rintro _ w2 ⟨k12, rfl⟩
  have m13 := m11.extk k12
  have q14 := laws_szIntS_le x_a.Bits x_left
  refine wl_mv (.int .i64 (F_laws_szIntS x_a.Bits x_left)) (want_none rfl) rfl rfl (.inr rfl) rfl ?_
  refine wl_nil ?_
  refine wq_then ?_
  refine wc_seq ?_
  refine wc_seq ?_
  refine wc_region ?_
  refine wl_mv (.int .i64 (F_laws_szIntS x_a.Bits x_left)) (want_none rfl) rfl rfl (.inl rfl) rfl ?_
  refine wl_pure (.bool (decide ((F_laws_szIntS x_a.Bits x_left) < 0))) (want_none rfl) rfl rfl (by kernel_rfl) ?_
  refine wl_nil ?_
  refine wq_then ?_
  rcases Bool.eq_false_or_eq_true (decide ((F_laws_szIntS x_a.Bits x_left) < 0)) with h15 | h15
  · have q16 := of_decide_eq_true h15
    refine wc_true (congrArg Value.bool h15) ?_
    refine wc_seq ?_
    refine wc_region ?_
    refine wl_mv (.int .i64 (-1)) (want_none rfl) rfl rfl (.inr rfl) rfl ?_
    refine wl_nil ?_
    refine wq_then ?_
    refine wc_ret ?_
    refine wq_then_ret ?_
    refine ret_1 (.inl rfl) (.int .i64 (-1)) rfl rfl ?_
    refine ⟨m13.keep0, ?_⟩
    have hF17 : F_laws_szWin x_a x_left = (-1) := by simp only [F_laws_szWin, h15, cond_true, cond_false]
    rw [hF17]
    exact rfl
  · have q18 := of_decide_eq_false h15
    refine wc_false (congrArg Value.bool h15) ?_
    refine wc_skip ?_
    refine wq_then ?_
    refine wc_seq ?_
    refine wc_region ?_
    refine wl_mv (.int .i64 (F_laws_szIntS x_a.Bits x_left)) (want_none rfl) rfl rfl (.inl rfl) rfl ?_
    refine wl_mv (.int .i64 (F_laws_szIntS x_a.Bits x_left)) (want_none rfl) rfl rfl (.inr rfl) rfl ?_
    refine wl_nil ?_
    refine wq_then ?_
    refine wc_ret ?_
    refine ret_1 (.inl rfl) (.int .i64 (F_laws_szIntS x_a.Bits x_left)) rfl rfl ?_
    refine ⟨m13.keep0, ?_⟩
    have hF19 : F_laws_szWin x_a x_left = (F_laws_szIntS x_a.Bits x_left) := by simp only [F_laws_szWin, h15, cond_true, cond_false]
    rw [hF19]
    exact rfl
theorem laws_szWin_le (x : PWin) (l : Int) : F_laws_szWin x l = -1 ∨ (F_laws_szWin x l = l - ((x.Bits.length : Int)) ∧ (0 ≤ F_laws_szWin x l ∨ l < 0 ∨ False)) := by
  have h0 := laws_szIntS_le x.Bits l
  simp only [F_laws_szWin, cond_eq_ite, decide_eq_true_eq]
  (repeat' split) <;> omega

theorem isAgg_22 : ∀ w, (isAgg 22).run Try.prog w = .ok false w := fun w => by kernel_rfl
theorem isAgg_37 : ∀ w, (isAgg 37).run Try.prog w = .ok true w := fun w => by kernel_rfl
theorem sizeOf_37 : ∀ w, (sizeOf 37).run Try.prog w = .ok 2 w := fun w => by kernel_rfl
def Q_39 (w : World) (v : Value) (x : (PEp)) : Prop := ∃ (a1 : Option Addr) (c1 : Nat) (a2 : Option Addr) (c2 : Nat), v = .agg #[.int .i64 x.N, .slice a1 x.Key.length c1, .int .i64 x.Seq, .int .i64 x.Win.Top, .slice a2 x.Win.Bits.length c2] ∧ Rd w 1 (.slice a1 x.Key.length c1) x.Key.length (x.Key.map bV) ∧ x.Key.length ≤ 9223372036854775807 ∧ Rd w 1 (.slice a2 x.Win.Bits.length c2) x.Win.Bits.length (x.Win.Bits.map iV) ∧ x.Win.Bits.length ≤ 9223372036854775807
def F_laws_szEp (x_a : PEp) (x_left : Int) : (Int) := bif (decide ((F_laws_szByteS x_a.Key x_left) < 0)) then ((-1)) else (bif (decide ((F_laws_szWin x_a.Win (F_laws_szByteS x_a.Key x_left)) < 0)) then ((-1)) else ((F_laws_szWin x_a.Win (F_laws_szByteS x_a.Key x_left))))
theorem C_laws_szEp (w0 : World) (v_x_a : Value) (x_a : PEp) (r_x_a : Q_39 w0 v_x_a x_a) (x_left : Int) (pre0 : 0 ≤ x_left) (pre1 : x_left ≤ 1048576) : Fn Try.prog 75 #[v_x_a, (.int .i64 x_left)] w0 (fun v w' => Keep w0 w' ∧ O_3 w' w0.heap.size v (F_laws_szEp x_a x_left)) := by
  obtain ⟨a1, c2, a6, c7, rfl, r3, s4, r8, s9⟩ := r_x_a
  refine fn_of (n := 18) (l := [(.agg #[(.int .i64 x_a.N), (.slice a1 x_a.Key.length c2), (.int .i64 x_a.Seq), (.int .i64 x_a.Win.Top), (.slice a6 x_a.Win.Bits.length c7)]), (.int .i64 x_left), undef, undef, undef, undef, undef, undef, undef, undef, undef, undef, undef, undef, undef, undef, undef, undef]) Try.func75 rfl rfl (by kernel_rfl) rfl ?_
  refine wc_seq ?_
  refine wc_region ?_
  refine wl_box (want_none rfl) [(.int .i64 x_a.N), (.slice a1 x_a.Key.length c2), (.int .i64 x_a.Seq), (.int .i64 x_a.Win.Top), (.slice a6 x_a.Win.Bits.length c7)] rfl rfl rfl rfl ?_
  intro g11 w1 p12 p13 k14 b15
  have m16 := (Ch.base w0).extk k14
  refine wl_mv (.int .i64 0) (want_none rfl) rfl rfl (.inr rfl) rfl ?_
  refine wl_nil ?_
  refine wq_then ?_
  refine wc_seq ?_
  refine wc_region ?_
  refine wl_pure (.pointer (some ⟨g11, 1, none⟩)) (want_none rfl) rfl rfl (by kernel_rfl) ?_
  refine wl_load1 (.slice a1 x_a.Key.length c2) (want_none rfl) rfl rfl rfl rfl isAgg_22 b15 rfl ?_
  refine wl_mv (.int .i64 x_left) (want_none rfl) rfl rfl (.inl rfl) rfl ?_
  refine wl_call (want_none rfl) (args := #[(.slice a1 x_a.Key.length c2), (.int .i64 x_left)]) rfl rfl (by kernel_rfl) (C_laws_szByteS w1 (.slice a1 x_a.Key.length c2) x_a.Key (show Q_22 w1 (.slice a1 x_a.Key.length c2) x_a.Key from ⟨_, _, rfl, (r3.from0 m16), s4⟩) x_left (by omega) (by omega)) ?_
  rintro _ w2 ⟨k17, rfl⟩
  have m18 := m16.extk k17
  have q19 := laws_szByteS_le x_a.Key x_left
  refine wl_mv (.int .i64 (F_laws_szByteS x_a.Key x_left)) (want_none rfl) rfl rfl (.inr rfl) rfl ?_
  refine wl_nil ?_
  refine wq_then ?_
  refine wc_seq ?_
  refine wc_seq ?_
  refine wc_region ?_
  refine wl_mv (.int .i64 (F_laws_szByteS x_a.Key x_left)) (want_none rfl) rfl rfl (.inl rfl) rfl ?_
  refine wl_pure (.bool (decide ((F_laws_szByteS x_a.Key x_left) < 0))) (want_none rfl) rfl rfl (by kernel_rfl) ?_
  refine wl_nil ?_
  refine wq_then ?_
  rcases Bool.eq_false_or_eq_true (decide ((F_laws_szByteS x_a.Key x_left) < 0)) with h20 | h20
  · have q21 := of_decide_eq_true h20
    refine wc_true (congrArg Value.bool h20) ?_
    refine wc_seq ?_
    refine wc_region ?_
    refine wl_mv (.int .i64 (-1)) (want_none rfl) rfl rfl (.inr rfl) rfl ?_
    refine wl_nil ?_
    refine wq_then ?_
    refine wc_ret ?_
    refine wq_then_ret ?_
    refine ret_1 (.inl rfl) (.int .i64 (-1)) rfl rfl ?_
    refine ⟨m18.keep0, ?_⟩
    have hF22 : F_laws_szEp x_a x_left = (-1) := by simp only [F_laws_szEp, h20, cond_true, cond_false]
    rw [hF22]
    exact rfl
  · have q23 := of_decide_eq_false h20
    refine wc_false (congrArg Value.bool h20) ?_
    refine wc_skip ?_
    refine wq_then ?_
    refine wc_seq ?_
    refine wc_region ?_
    refine wl_pure (.pointer (some ⟨g11, 3, none⟩)) (want_none rfl) rfl rfl (by kernel_rfl) ?_
    have b24 := (b15.kp k17)
    refine wl_loadN [(.int .i64 x_a.Win.Top), (.slice a6 x_a.Win.Bits.length c7)] (want_none rfl) rfl rfl rfl rfl isAgg_37 sizeOf_37 b24 rfl ?_
    refine wl_mv (.int .i64 (F_laws_szByteS x_a.Key x_left)) (want_none rfl) rfl rfl (.inl rfl) rfl ?_
    refine wl_call (want_none rfl) (args := #[(.agg #[(.int .i64 x_a.Win.Top), (.slice a6 x_a.Win.Bits.length c7)]), (.int .i64 (F_laws_szByteS x_a.Key x_left))]) rfl rfl (by kernel_rfl) (C_laws_szWin w2 (.agg #[(.int .i64 x_a.Win.Top), (.slice a6 x_a.Win.Bits.length c7)]) x_a.Win (show Q_37 w2 (.agg #[(.int .i64 x_a.Win.Top), (.slice a6 x_a.Win.Bits.length c7)]) x_a.Win from ⟨_, _, rfl, (r8.from0 m18), s9⟩) (F_laws_szByteS x_a.Key x_left) (by omega) (by omega)) ?_
    rintro _ w3 ⟨k25, rfl⟩
    have m26 := m18.extk k25
    have q27 := laws_szWin_le x_a.Win (F_laws_szByteS x_a.Key x_left)
    refine wl_mv (.int .i64 (F_laws_szWin x_a.Win (F_laws_szByteS x_a.Key x_left))) (want_none rfl) rfl rfl (.inr rfl) rfl ?_
    refine wl_nil ?_
    refine wq_then ?_
    refine wc_seq ?_
    refine wc_seq ?_
    refine wc_region ?_
    refine wl_mv (.int .i64 (F_laws_szWin x_a.Win (F_laws_szByteS x_a.Key x_left))) (want_none rfl) rfl rfl (.inl rfl) rfl ?_
    refine wl_pure (.bool (decide ((F_laws_szWin x_a.Win (F_laws_szByteS x_a.Key x_left)) < 0))) (want_none rfl) rfl rfl (by kernel_rfl) ?_
    refine wl_nil ?_
    refine wq_then ?_
    rcases Bool.eq_false_or_eq_true (decide ((F_laws_szWin x_a.Win (F_laws_szByteS x_a.Key x_left)) < 0)) with h28 | h28
    · have q29 := of_decide_eq_true h28
      refine wc_true (congrArg Value.bool h28) ?_
      refine wc_seq ?_
      refine wc_region ?_
      refine wl_mv (.int .i64 (-1)) (want_none rfl) rfl rfl (.inr rfl) rfl ?_
      refine wl_nil ?_
      refine wq_then ?_
      refine wc_ret ?_
      refine wq_then_ret ?_
      refine ret_1 (.inl rfl) (.int .i64 (-1)) rfl rfl ?_
      refine ⟨m26.keep0, ?_⟩
      have hF30 : F_laws_szEp x_a x_left = (-1) := by simp only [F_laws_szEp, h20, h28, cond_true, cond_false]
      rw [hF30]
      exact rfl
    · have q31 := of_decide_eq_false h28
      refine wc_false (congrArg Value.bool h28) ?_
      refine wc_skip ?_
      refine wq_then ?_
      refine wc_seq ?_
      refine wc_region ?_
      refine wl_mv (.int .i64 (F_laws_szWin x_a.Win (F_laws_szByteS x_a.Key x_left))) (want_none rfl) rfl rfl (.inl rfl) rfl ?_
      refine wl_mv (.int .i64 (F_laws_szWin x_a.Win (F_laws_szByteS x_a.Key x_left))) (want_none rfl) rfl rfl (.inr rfl) rfl ?_
      refine wl_nil ?_
      refine wq_then ?_
      refine wc_ret ?_
      refine ret_1 (.inl rfl) (.int .i64 (F_laws_szWin x_a.Win (F_laws_szByteS x_a.Key x_left))) rfl rfl ?_
      refine ⟨m26.keep0, ?_⟩
      have hF32 : F_laws_szEp x_a x_left = (F_laws_szWin x_a.Win (F_laws_szByteS x_a.Key x_left)) := by simp only [F_laws_szEp, h20, h28, cond_true, cond_false]
      rw [hF32]
      exact rfl
theorem laws_szEp_le (x : PEp) (l : Int) : F_laws_szEp x l = -1 ∨ (F_laws_szEp x l = l - ((x.Key.length : Int) + (x.Win.Bits.length : Int)) ∧ (0 ≤ F_laws_szEp x l ∨ l < 0 ∨ False)) := by
  have h0 := laws_szByteS_le x.Key l
  have h1 := laws_szWin_le x.Win (F_laws_szByteS x.Key l)
  simp only [F_laws_szEp, cond_eq_ite, decide_eq_true_eq]
  (repeat' split) <;> omega

theorem isAgg_39 : ∀ w, (isAgg 39).run Try.prog w = .ok true w := fun w => by kernel_rfl
theorem sizeOf_39 : ∀ w, (sizeOf 39).run Try.prog w = .ok 5 w := fun w => by kernel_rfl
def Q_41 (w : World) (v : Value) (x : (PChan)) : Prop := ∃ (a1 : Option Addr) (c1 : Nat) (a2 : Option Addr) (c2 : Nat) (a3 : Option Addr) (c3 : Nat) (a4 : Option Addr) (c4 : Nat) (a5 : Option Addr) (c5 : Nat) (a6 : Option Addr) (c6 : Nat), v = .agg #[.int .i64 x.Role, .slice a1 x.Sn.length c1, .int .i64 x.Cur.N, .slice a2 x.Cur.Key.length c2, .int .i64 x.Cur.Seq, .int .i64 x.Cur.Win.Top, .slice a3 x.Cur.Win.Bits.length c3, .int .i64 x.Old.N, .slice a4 x.Old.Key.length c4, .int .i64 x.Old.Seq, .int .i64 x.Old.Win.Top, .slice a5 x.Old.Win.Bits.length c5, .bool x.HasOld, .int .i64 x.Until, .slice a6 x.Next.length c6] ∧ Rd w 1 (.slice a1 x.Sn.length c1) x.Sn.length (x.Sn.map bV) ∧ x.Sn.length ≤ 9223372036854775807 ∧ Rd w 1 (.slice a2 x.Cur.Key.length c2) x.Cur.Key.length (x.Cur.Key.map bV) ∧ x.Cur.Key.length ≤ 9223372036854775807 ∧ Rd w 1 (.slice a3 x.Cur.Win.Bits.length c3) x.Cur.Win.Bits.length (x.Cur.Win.Bits.map iV) ∧ x.Cur.Win.Bits.length ≤ 9223372036854775807 ∧ Rd w 1 (.slice a4 x.Old.Key.length c4) x.Old.Key.length (x.Old.Key.map bV) ∧ x.Old.Key.length ≤ 9223372036854775807 ∧ Rd w 1 (.slice a5 x.Old.Win.Bits.length c5) x.Old.Win.Bits.length (x.Old.Win.Bits.map iV) ∧ x.Old.Win.Bits.length ≤ 9223372036854775807 ∧ Rd w 1 (.slice a6 x.Next.length c6) x.Next.length (x.Next.map bV) ∧ x.Next.length ≤ 9223372036854775807
def F_laws_szChan (x_a : PChan) (x_left : Int) : (Int) := bif (decide ((F_laws_szByteS x_a.Sn x_left) < 0)) then ((-1)) else (bif (decide ((F_laws_szEp x_a.Cur (F_laws_szByteS x_a.Sn x_left)) < 0)) then ((-1)) else (bif (decide ((F_laws_szEp x_a.Old (F_laws_szEp x_a.Cur (F_laws_szByteS x_a.Sn x_left))) < 0)) then ((-1)) else (bif (decide ((F_laws_szByteS x_a.Next (F_laws_szEp x_a.Old (F_laws_szEp x_a.Cur (F_laws_szByteS x_a.Sn x_left)))) < 0)) then ((-1)) else ((F_laws_szByteS x_a.Next (F_laws_szEp x_a.Old (F_laws_szEp x_a.Cur (F_laws_szByteS x_a.Sn x_left))))))))
theorem C_laws_szChan (w0 : World) (v_x_a : Value) (x_a : PChan) (r_x_a : Q_41 w0 v_x_a x_a) (x_left : Int) (pre0 : 0 ≤ x_left) (pre1 : x_left ≤ 1048576) : Fn Try.prog 23 #[v_x_a, (.int .i64 x_left)] w0 (fun v w' => Keep w0 w' ∧ O_3 w' w0.heap.size v (F_laws_szChan x_a x_left)) := by
  obtain ⟨a1, c2, a6, c7, a11, c12, a16, c17, a21, c22, a26, c27, rfl, r3, s4, r8, s9, r13, s14, r18, s19, r23, s24, r28, s29⟩ := r_x_a
  refine fn_of (n := 30) (l := [(.agg #[(.int .i64 x_a.Role), (.slice a1 x_a.Sn.length c2), (.int .i64 x_a.Cur.N), (.slice a6 x_a.Cur.Key.length c7), (.int .i64 x_a.Cur.Seq), (.int .i64 x_a.Cur.Win.Top), (.slice a11 x_a.Cur.Win.Bits.length c12), (.int .i64 x_a.Old.N), (.slice a16 x_a.Old.Key.length c17), (.int .i64 x_a.Old.Seq), (.int .i64 x_a.Old.Win.Top), (.slice a21 x_a.Old.Win.Bits.length c22), (.bool x_a.HasOld), (.int .i64 x_a.Until), (.slice a26 x_a.Next.length c27)]), (.int .i64 x_left), undef, undef, undef, undef, undef, undef, undef, undef, undef, undef, undef, undef, undef, undef, undef, undef, undef, undef, undef, undef, undef, undef, undef, undef, undef, undef, undef, undef]) Try.func23 rfl rfl (by kernel_rfl) rfl ?_
  refine wc_seq ?_
  refine wc_region ?_
  refine wl_box (want_none rfl) [(.int .i64 x_a.Role), (.slice a1 x_a.Sn.length c2), (.int .i64 x_a.Cur.N), (.slice a6 x_a.Cur.Key.length c7), (.int .i64 x_a.Cur.Seq), (.int .i64 x_a.Cur.Win.Top), (.slice a11 x_a.Cur.Win.Bits.length c12), (.int .i64 x_a.Old.N), (.slice a16 x_a.Old.Key.length c17), (.int .i64 x_a.Old.Seq), (.int .i64 x_a.Old.Win.Top), (.slice a21 x_a.Old.Win.Bits.length c22), (.bool x_a.HasOld), (.int .i64 x_a.Until), (.slice a26 x_a.Next.length c27)] rfl rfl rfl rfl ?_
  intro g31 w1 p32 p33 k34 b35
  have m36 := (Ch.base w0).extk k34
  refine wl_mv (.int .i64 0) (want_none rfl) rfl rfl (.inr rfl) rfl ?_
  refine wl_nil ?_
  refine wq_then ?_
  refine wc_seq ?_
  refine wc_region ?_
  refine wl_pure (.pointer (some ⟨g31, 1, none⟩)) (want_none rfl) rfl rfl (by kernel_rfl) ?_
  refine wl_load1 (.slice a1 x_a.Sn.length c2) (want_none rfl) rfl rfl rfl rfl isAgg_22 b35 rfl ?_
  refine wl_mv (.int .i64 x_left) (want_none rfl) rfl rfl (.inl rfl) rfl ?_
  refine wl_call (want_none rfl) (args := #[(.slice a1 x_a.Sn.length c2), (.int .i64 x_left)]) rfl rfl (by kernel_rfl) (C_laws_szByteS w1 (.slice a1 x_a.Sn.length c2) x_a.Sn (show Q_22 w1 (.slice a1 x_a.Sn.length c2) x_a.Sn from ⟨_, _, rfl, (r3.from0 m36), s4⟩) x_left (by omega) (by omega)) ?_
  rintro _ w2 ⟨k37, rfl⟩
  have m38 := m36.extk k37
  have q39 := laws_szByteS_le x_a.Sn x_left
  refine wl_mv (.int .i64 (F_laws_szByteS x_a.Sn x_left)) (want_none rfl) rfl rfl (.inr rfl) rfl ?_
  refine wl_nil ?_
  refine wq_then ?_
  refine wc_seq ?_
  refine wc_seq ?_
  refine wc_region ?_
  refine wl_mv (.int .i64 (F_laws_szByteS x_a.Sn x_left)) (want_none rfl) rfl rfl (.inl rfl) rfl ?_
  refine wl_pure (.bool (decide ((F_laws_szByteS x_a.Sn x_left) < 0))) (want_none rfl) rfl rfl (by kernel_rfl) ?_
  refine wl_nil ?_
  refine wq_then ?_
  rcases Bool.eq_false_or_eq_true (decide ((F_laws_szByteS x_a.Sn x_left) < 0)) with h40 | h40
  · have q41 := of_decide_eq_true h40
    refine wc_true (congrArg Value.bool h40) ?_
    refine wc_seq ?_
    refine wc_region ?_
    refine wl_mv (.int .i64 (-1)) (want_none rfl) rfl rfl (.inr rfl) rfl ?_
    refine wl_nil ?_
    refine wq_then ?_
    refine wc_ret ?_
    refine wq_then_ret ?_
    refine ret_1 (.inl rfl) (.int .i64 (-1)) rfl rfl ?_
    refine ⟨m38.keep0, ?_⟩
    have hF42 : F_laws_szChan x_a x_left = (-1) := by simp only [F_laws_szChan, h40, cond_true, cond_false]
    rw [hF42]
    exact rfl
  · have q43 := of_decide_eq_false h40
    refine wc_false (congrArg Value.bool h40) ?_
    refine wc_skip ?_
    refine wq_then ?_
    refine wc_seq ?_
    refine wc_region ?_
    refine wl_pure (.pointer (some ⟨g31, 2, none⟩)) (want_none rfl) rfl rfl (by kernel_rfl) ?_
    have b44 := (b35.kp k37)
    refine wl_loadN [(.int .i64 x_a.Cur.N), (.slice a6 x_a.Cur.Key.length c7), (.int .i64 x_a.Cur.Seq), (.int .i64 x_a.Cur.Win.Top), (.slice a11 x_a.Cur.Win.Bits.length c12)] (want_none rfl) rfl rfl rfl rfl isAgg_39 sizeOf_39 b44 rfl ?_
    refine wl_mv (.int .i64 (F_laws_szByteS x_a.Sn x_left)) (want_none rfl) rfl rfl (.inl rfl) rfl ?_
    refine wl_call (want_none rfl) (args := #[(.agg #[(.int .i64 x_a.Cur.N), (.slice a6 x_a.Cur.Key.length c7), (.int .i64 x_a.Cur.Seq), (.int .i64 x_a.Cur.Win.Top), (.slice a11 x_a.Cur.Win.Bits.length c12)]), (.int .i64 (F_laws_szByteS x_a.Sn x_left))]) rfl rfl (by kernel_rfl) (C_laws_szEp w2 (.agg #[(.int .i64 x_a.Cur.N), (.slice a6 x_a.Cur.Key.length c7), (.int .i64 x_a.Cur.Seq), (.int .i64 x_a.Cur.Win.Top), (.slice a11 x_a.Cur.Win.Bits.length c12)]) x_a.Cur (show Q_39 w2 (.agg #[(.int .i64 x_a.Cur.N), (.slice a6 x_a.Cur.Key.length c7), (.int .i64 x_a.Cur.Seq), (.int .i64 x_a.Cur.Win.Top), (.slice a11 x_a.Cur.Win.Bits.length c12)]) x_a.Cur from ⟨_, _, _, _, rfl, (r8.from0 m38), s9, (r13.from0 m38), s14⟩) (F_laws_szByteS x_a.Sn x_left) (by omega) (by omega)) ?_
    rintro _ w3 ⟨k45, rfl⟩
    have m46 := m38.extk k45
    have q47 := laws_szEp_le x_a.Cur (F_laws_szByteS x_a.Sn x_left)
    refine wl_mv (.int .i64 (F_laws_szEp x_a.Cur (F_laws_szByteS x_a.Sn x_left))) (want_none rfl) rfl rfl (.inr rfl) rfl ?_
    refine wl_nil ?_
    refine wq_then ?_
    refine wc_seq ?_
    refine wc_seq ?_
    refine wc_region ?_
    refine wl_mv (.int .i64 (F_laws_szEp x_a.Cur (F_laws_szByteS x_a.Sn x_left))) (want_none rfl) rfl rfl (.inl rfl) rfl ?_
    refine wl_pure (.bool (decide ((F_laws_szEp x_a.Cur (F_laws_szByteS x_a.Sn x_left)) < 0))) (want_none rfl) rfl rfl (by kernel_rfl) ?_
    refine wl_nil ?_
    refine wq_then ?_
    rcases Bool.eq_false_or_eq_true (decide ((F_laws_szEp x_a.Cur (F_laws_szByteS x_a.Sn x_left)) < 0)) with h48 | h48
    · have q49 := of_decide_eq_true h48
      refine wc_true (congrArg Value.bool h48) ?_
      refine wc_seq ?_
      refine wc_region ?_
      refine wl_mv (.int .i64 (-1)) (want_none rfl) rfl rfl (.inr rfl) rfl ?_
      refine wl_nil ?_
      refine wq_then ?_
      refine wc_ret ?_
      refine wq_then_ret ?_
      refine ret_1 (.inl rfl) (.int .i64 (-1)) rfl rfl ?_
      refine ⟨m46.keep0, ?_⟩
      have hF50 : F_laws_szChan x_a x_left = (-1) := by simp only [F_laws_szChan, h40, h48, cond_true, cond_false]
      rw [hF50]
      exact rfl
    · have q51 := of_decide_eq_false h48
      refine wc_false (congrArg Value.bool h48) ?_
      refine wc_skip ?_
      refine wq_then ?_
      refine wc_seq ?_
      refine wc_region ?_
      refine wl_pure (.pointer (some ⟨g31, 7, none⟩)) (want_none rfl) rfl rfl (by kernel_rfl) ?_
      have b52 := (b44.kp k45)
      refine wl_loadN [(.int .i64 x_a.Old.N), (.slice a16 x_a.Old.Key.length c17), (.int .i64 x_a.Old.Seq), (.int .i64 x_a.Old.Win.Top), (.slice a21 x_a.Old.Win.Bits.length c22)] (want_none rfl) rfl rfl rfl rfl isAgg_39 sizeOf_39 b52 rfl ?_
      refine wl_mv (.int .i64 (F_laws_szEp x_a.Cur (F_laws_szByteS x_a.Sn x_left))) (want_none rfl) rfl rfl (.inl rfl) rfl ?_
      refine wl_call (want_none rfl) (args := #[(.agg #[(.int .i64 x_a.Old.N), (.slice a16 x_a.Old.Key.length c17), (.int .i64 x_a.Old.Seq), (.int .i64 x_a.Old.Win.Top), (.slice a21 x_a.Old.Win.Bits.length c22)]), (.int .i64 (F_laws_szEp x_a.Cur (F_laws_szByteS x_a.Sn x_left)))]) rfl rfl (by kernel_rfl) (C_laws_szEp w3 (.agg #[(.int .i64 x_a.Old.N), (.slice a16 x_a.Old.Key.length c17), (.int .i64 x_a.Old.Seq), (.int .i64 x_a.Old.Win.Top), (.slice a21 x_a.Old.Win.Bits.length c22)]) x_a.Old (show Q_39 w3 (.agg #[(.int .i64 x_a.Old.N), (.slice a16 x_a.Old.Key.length c17), (.int .i64 x_a.Old.Seq), (.int .i64 x_a.Old.Win.Top), (.slice a21 x_a.Old.Win.Bits.length c22)]) x_a.Old from ⟨_, _, _, _, rfl, (r18.from0 m46), s19, (r23.from0 m46), s24⟩) (F_laws_szEp x_a.Cur (F_laws_szByteS x_a.Sn x_left)) (by omega) (by omega)) ?_
      rintro _ w4 ⟨k53, rfl⟩
      have m54 := m46.extk k53
      have q55 := laws_szEp_le x_a.Old (F_laws_szEp x_a.Cur (F_laws_szByteS x_a.Sn x_left))
      refine wl_mv (.int .i64 (F_laws_szEp x_a.Old (F_laws_szEp x_a.Cur (F_laws_szByteS x_a.Sn x_left)))) (want_none rfl) rfl rfl (.inr rfl) rfl ?_
      refine wl_nil ?_
      refine wq_then ?_
      refine wc_seq ?_
      refine wc_seq ?_
      refine wc_region ?_
      refine wl_mv (.int .i64 (F_laws_szEp x_a.Old (F_laws_szEp x_a.Cur (F_laws_szByteS x_a.Sn x_left)))) (want_none rfl) rfl rfl (.inl rfl) rfl ?_
      refine wl_pure (.bool (decide ((F_laws_szEp x_a.Old (F_laws_szEp x_a.Cur (F_laws_szByteS x_a.Sn x_left))) < 0))) (want_none rfl) rfl rfl (by kernel_rfl) ?_
      refine wl_nil ?_
      refine wq_then ?_
      rcases Bool.eq_false_or_eq_true (decide ((F_laws_szEp x_a.Old (F_laws_szEp x_a.Cur (F_laws_szByteS x_a.Sn x_left))) < 0)) with h56 | h56
      · have q57 := of_decide_eq_true h56
        refine wc_true (congrArg Value.bool h56) ?_
        refine wc_seq ?_
        refine wc_region ?_
        refine wl_mv (.int .i64 (-1)) (want_none rfl) rfl rfl (.inr rfl) rfl ?_
        refine wl_nil ?_
        refine wq_then ?_
        refine wc_ret ?_
        refine wq_then_ret ?_
        refine ret_1 (.inl rfl) (.int .i64 (-1)) rfl rfl ?_
        refine ⟨m54.keep0, ?_⟩
        have hF58 : F_laws_szChan x_a x_left = (-1) := by simp only [F_laws_szChan, h40, h48, h56, cond_true, cond_false]
        rw [hF58]
        exact rfl
      · have q59 := of_decide_eq_false h56
        refine wc_false (congrArg Value.bool h56) ?_
        refine wc_skip ?_
        refine wq_then ?_
        refine wc_seq ?_
        refine wc_region ?_
        refine wl_pure (.pointer (some ⟨g31, 14, none⟩)) (want_none rfl) rfl rfl (by kernel_rfl) ?_
        have b60 := (b52.kp k53)
        refine wl_load1 (.slice a26 x_a.Next.length c27) (want_none rfl) rfl rfl rfl rfl isAgg_22 b60 rfl ?_
        refine wl_mv (.int .i64 (F_laws_szEp x_a.Old (F_laws_szEp x_a.Cur (F_laws_szByteS x_a.Sn x_left)))) (want_none rfl) rfl rfl (.inl rfl) rfl ?_
        refine wl_call (want_none rfl) (args := #[(.slice a26 x_a.Next.length c27), (.int .i64 (F_laws_szEp x_a.Old (F_laws_szEp x_a.Cur (F_laws_szByteS x_a.Sn x_left))))]) rfl rfl (by kernel_rfl) (C_laws_szByteS w4 (.slice a26 x_a.Next.length c27) x_a.Next (show Q_22 w4 (.slice a26 x_a.Next.length c27) x_a.Next from ⟨_, _, rfl, (r28.from0 m54), s29⟩) (F_laws_szEp x_a.Old (F_laws_szEp x_a.Cur (F_laws_szByteS x_a.Sn x_left))) (by omega) (by omega)) ?_
        rintro _ w5 ⟨k61, rfl⟩
        have m62 := m54.extk k61
        have q63 := laws_szByteS_le x_a.Next (F_laws_szEp x_a.Old (F_laws_szEp x_a.Cur (F_laws_szByteS x_a.Sn x_left)))
        refine wl_mv (.int .i64 (F_laws_szByteS x_a.Next (F_laws_szEp x_a.Old (F_laws_szEp x_a.Cur (F_laws_szByteS x_a.Sn x_left))))) (want_none rfl) rfl rfl (.inr rfl) rfl ?_
        refine wl_nil ?_
        refine wq_then ?_
        refine wc_seq ?_
        refine wc_seq ?_
        refine wc_region ?_
        refine wl_mv (.int .i64 (F_laws_szByteS x_a.Next (F_laws_szEp x_a.Old (F_laws_szEp x_a.Cur (F_laws_szByteS x_a.Sn x_left))))) (want_none rfl) rfl rfl (.inl rfl) rfl ?_
        refine wl_pure (.bool (decide ((F_laws_szByteS x_a.Next (F_laws_szEp x_a.Old (F_laws_szEp x_a.Cur (F_laws_szByteS x_a.Sn x_left)))) < 0))) (want_none rfl) rfl rfl (by kernel_rfl) ?_
        refine wl_nil ?_
        refine wq_then ?_
        rcases Bool.eq_false_or_eq_true (decide ((F_laws_szByteS x_a.Next (F_laws_szEp x_a.Old (F_laws_szEp x_a.Cur (F_laws_szByteS x_a.Sn x_left)))) < 0)) with h64 | h64
        · have q65 := of_decide_eq_true h64
          refine wc_true (congrArg Value.bool h64) ?_
          refine wc_seq ?_
          refine wc_region ?_
          refine wl_mv (.int .i64 (-1)) (want_none rfl) rfl rfl (.inr rfl) rfl ?_
          refine wl_nil ?_
          refine wq_then ?_
          refine wc_ret ?_
          refine wq_then_ret ?_
          refine ret_1 (.inl rfl) (.int .i64 (-1)) rfl rfl ?_
          refine ⟨m62.keep0, ?_⟩
          have hF66 : F_laws_szChan x_a x_left = (-1) := by simp only [F_laws_szChan, h40, h48, h56, h64, cond_true, cond_false]
          rw [hF66]
          exact rfl
        · have q67 := of_decide_eq_false h64
          refine wc_false (congrArg Value.bool h64) ?_
          refine wc_skip ?_
          refine wq_then ?_
          refine wc_seq ?_
          refine wc_region ?_
          refine wl_mv (.int .i64 (F_laws_szByteS x_a.Next (F_laws_szEp x_a.Old (F_laws_szEp x_a.Cur (F_laws_szByteS x_a.Sn x_left))))) (want_none rfl) rfl rfl (.inl rfl) rfl ?_
          refine wl_mv (.int .i64 (F_laws_szByteS x_a.Next (F_laws_szEp x_a.Old (F_laws_szEp x_a.Cur (F_laws_szByteS x_a.Sn x_left))))) (want_none rfl) rfl rfl (.inr rfl) rfl ?_
          refine wl_nil ?_
          refine wq_then ?_
          refine wc_ret ?_
          refine ret_1 (.inl rfl) (.int .i64 (F_laws_szByteS x_a.Next (F_laws_szEp x_a.Old (F_laws_szEp x_a.Cur (F_laws_szByteS x_a.Sn x_left))))) rfl rfl ?_
          refine ⟨m62.keep0, ?_⟩
          have hF68 : F_laws_szChan x_a x_left = (F_laws_szByteS x_a.Next (F_laws_szEp x_a.Old (F_laws_szEp x_a.Cur (F_laws_szByteS x_a.Sn x_left)))) := by simp only [F_laws_szChan, h40, h48, h56, h64, cond_true, cond_false]
          rw [hF68]
          exact rfl
theorem laws_szChan_le (x : PChan) (l : Int) : F_laws_szChan x l = -1 ∨ (F_laws_szChan x l = l - ((x.Sn.length : Int) + (x.Cur.Key.length : Int) + (x.Cur.Win.Bits.length : Int) + (x.Old.Key.length : Int) + (x.Old.Win.Bits.length : Int) + (x.Next.length : Int)) ∧ (0 ≤ F_laws_szChan x l ∨ l < 0 ∨ False)) := by
  have h0 := laws_szByteS_le x.Sn l
  have h1 := laws_szEp_le x.Cur (F_laws_szByteS x.Sn l)
  have h2 := laws_szEp_le x.Old (F_laws_szEp x.Cur (F_laws_szByteS x.Sn l))
  have h3 := laws_szByteS_le x.Next (F_laws_szEp x.Old (F_laws_szEp x.Cur (F_laws_szByteS x.Sn l)))
  simp only [F_laws_szChan, cond_eq_ite, decide_eq_true_eq]
  (repeat' split) <;> omega

theorem isAgg_5 : ∀ w, (isAgg 5).run Try.prog w = .ok false w := fun w => by kernel_rfl
theorem sizeOf_5 : ∀ w, (sizeOf 5).run Try.prog w = .ok 1 w := fun w => by kernel_rfl
def R_22 (w : World) (v : Value) (x : (List UInt8)) : Prop := ∃ (a1 : Option Addr) (c1 : Nat), v = .slice a1 x.length c1 ∧ Rd w 1 (.slice a1 x.length c1) x.length (x.map bV) ∧ x.length ≤ 1073741824
def O_22 (w : World) (lo : Nat) (v : Value) (x : (List UInt8)) : Prop := ∃ (a1 : Option Addr) (c1 : Nat), v = .slice a1 x.length c1 ∧ w.ownsRow lo 5 1 (.slice a1 x.length c1) x.length (x.map bV) ∧ x.length ≤ 1073741824 ∧ Aps [(a1, c1)]
theorem C_laws_toByteS (w0 : World) (v_x_a : Value) (x_a : List UInt8) (r_x_a : R_22 w0 v_x_a x_a)  : Fn Try.prog 16 #[v_x_a] w0 (fun v w' => Keep w0 w' ∧ O_22 w' w0.heap.size v (cpB x_a)) := by
  obtain ⟨a1, c2, rfl, r3, s4⟩ := r_x_a
  refine fn_of (n := 22) (l := [(.slice a1 x_a.length c2), undef, undef, undef, undef, undef, undef, undef, undef, undef, undef, undef, undef, undef, undef, undef, undef, undef, undef, undef, undef, undef]) Try.func16 rfl rfl (by kernel_rfl) rfl ?_
  refine wc_seq ?_
  refine wc_region ?_
  refine wl_mv (.slice none 0 0) (want_none rfl) rfl rfl (.inr rfl) rfl ?_
  refine wl_nil ?_
  refine wq_then ?_
  refine wc_seq ?_
  refine wc_region ?_
  refine wl_mv (.slice a1 x_a.length c2) (want_none rfl) rfl rfl (.inl rfl) rfl ?_
  refine wl_len (want_none rfl) rfl rfl rfl slTy_22 rfl r3 ?_
  refine wl_makeB (x_a.length) (want_none rfl) rfl rfl rfl slTy_22 (x_a.length : Int) rfl (by omega) (by (try simp only [List.length_append, List.length_cons, List.length_nil]); omega) (by (try simp only [List.length_append, List.length_cons, List.length_nil]); omega) ?_
  intro a6 c7 w1 k8 o9
  have m10 := (Ch.base w0).extk k8
  refine wl_mv (.slice a6 (List.replicate x_a.length (0 : UInt8)).length c7) (want_none rfl) rfl rfl (.inr rfl) rfl ?_
  refine wl_nil ?_
  refine wq_then ?_
  refine wc_seq ?_
  refine wc_seq ?_
  refine wc_region ?_
  refine wl_mv (.int .i64 0) (want_none rfl) rfl rfl (.inr rfl) rfl ?_
  refine wl_nil ?_
  refine wq_then ?_
  refine wc_block ?_
  refine wc_norm [(.slice a1 x_a.length c2), undef, (.slice none 0 0), (.slice a6 (List.replicate x_a.length (0 : UInt8)).length c7), (.int .i64 0), (.slice a1 x_a.length c2), (.int .i64 (x_a.length : Int)), (.slice a6 (List.replicate x_a.length (0 : UInt8)).length c7), undef, undef, undef, undef, undef, undef, undef, undef, undef, undef, undef, undef, undef, undef] rfl ⟨rfl, rfl, rfl, rfl, rfl, rfl, rfl, rfl, rfl, rfl, rfl, rfl, rfl, rfl, rfl, rfl, rfl, rfl, rfl, rfl, rfl, rfl, trivial⟩ ?_
  refine wc_loop (fun e' w' => ∃ (k : Nat) (u8x u9x u10x u11x u12x u13x u14x u15x u16x u17x u18x u19x u20x : Value), e' = lst [(.slice a1 x_a.length c2), undef, (.slice none 0 0), (.slice a6 (List.replicate x_a.length (0 : UInt8)).length c7), (.int .i64 ((k : Nat) : Int)), (.slice a1 x_a.length c2), (.int .i64 (x_a.length : Int)), (.slice a6 (List.replicate x_a.length (0 : UInt8)).length c7), u8x, u9x, u10x, u11x, u12x, u13x, u14x, u15x, u16x, u17x, u18x, u19x, u20x, undef] ∧ Ch (fun k => w0.heap.size ≤ k) w0 w' ∧ Ch (fun k => w0.heap.size ≤ k) w1 w' ∧ k ≤ x_a.length ∧ World.ownsRow w' w0.heap.size 5 1 (.slice a6 (List.replicate x_a.length (0 : UInt8)).length c7) (List.replicate x_a.length (0 : UInt8)).length ((x_a.take k ++ List.replicate (x_a.length - k) (0 : UInt8)).map bV)) (fun e' _ => x_a.length - ((intOf (e' 4))).toNat) ?_ ?_
  · have hE12 : ((List.replicate x_a.length (0 : UInt8)) : List UInt8) = x_a.take 0 ++ List.replicate (x_a.length - 0) (0 : UInt8) := by first | exact cpB_next (by omega) | simp
    exact ⟨0, undef, undef, undef, undef, undef, undef, undef, undef, undef, undef, undef, undef, undef, (congrArg (fun (x4z : Value) => lst [(.slice a1 x_a.length c2), undef, (.slice none 0 0), (.slice a6 (List.replicate x_a.length (0 : UInt8)).length c7), x4z, (.slice a1 x_a.length c2), (.int .i64 (x_a.length : Int)), (.slice a6 (List.replicate x_a.length (0 : UInt8)).length c7), undef, undef, undef, undef, undef, undef, undef, undef, undef, undef, undef, undef, undef, undef]) (congrArg (Value.int .i64) (show (0 : Int) = ((0 : Nat) : Int) by omega))), m10, (Ch.refl (fun k => w0.heap.size ≤ k) w1), (by omega), (by rw [← hE12]; exact o9)⟩
  · rintro _ w2 ⟨k, u8x, u9x, u10x, u11x, u12x, u13x, u14x, u15x, u16x, u17x, u18x, u19x, u20x, rfl, m13, k14, i15, o16⟩
    refine wc_seq ?_
    refine wc_seq ?_
    refine wc_region ?_
    refine wl_mv (.int .i64 ((k : Nat) : Int)) (want_none rfl) rfl rfl (.inl rfl) rfl ?_
    refine wl_mv (.slice a1 x_a.length c2) (want_none rfl) rfl rfl (.inl rfl) rfl ?_
    refine wl_len (want_none rfl) rfl rfl rfl slTy_22 rfl (r3.from0 m13) ?_
    refine wl_pure (.bool (decide (((k : Nat) : Int) < (x_a.length : Int)))) (want_none rfl) rfl rfl (by kernel_rfl) ?_
    refine wl_nil ?_
    refine wq_then ?_
    rcases Bool.eq_false_or_eq_true (decide (((k : Nat) : Int) < (x_a.length : Int))) with h17 | h17
    · have q18 := of_decide_eq_true h17
      refine wc_true (congrArg Value.bool h17) ?_
      refine wc_skip ?_
      refine wq_then ?_
      refine wc_seq ?_
      refine wc_block ?_
      refine wc_region ?_
      refine wl_mv (.slice a6 (List.replicate x_a.length (0 : UInt8)).length c7) (want_none rfl) rfl rfl (.inl rfl) rfl ?_
      refine wl_mv (.int .i64 ((k : Nat) : Int)) (want_none rfl) rfl rfl (.inl rfl) rfl ?_
      refine wl_mv (.slice a1 x_a.length c2) (want_none rfl) rfl rfl (.inl rfl) rfl ?_
      refine wl_mv (.int .i64 ((k : Nat) : Int)) (want_none rfl) rfl rfl (.inl rfl) rfl ?_
      refine wl_index (want_none rfl) ((k : Nat) : Int) rfl rfl rfl slTy_22 rfl rfl (r3.from0 m13) (by first | omega | (simp only [List.length_cons, List.length_nil, List.length_replicate, List.length_append, List.length_take, List.length_set, List.length_map]; omega)) (by first | omega | (simp only [List.length_cons, List.length_nil, List.length_replicate, List.length_append, List.length_take, List.length_set, List.length_map]; omega)) ?_
      refine wl_loadE (bV (x_a.getD k 0)) (want_none rfl) rfl rfl rfl rfl isAgg_5 (r3.from0 m13) (bget (by simp) (by first | omega | (simp only [List.length_cons, List.length_nil, List.length_replicate, List.length_append, List.length_take, List.length_set, List.length_map]; omega))) ?_
      refine wl_index (want_none rfl) ((k : Nat) : Int) rfl rfl rfl slTy_22 rfl rfl (Rd.of_own o16) (by first | omega | (simp only [List.length_cons, List.length_nil, List.length_replicate, List.length_append, List.length_take, List.length_set, List.length_map]; omega)) (by first | omega | (simp only [List.length_cons, List.length_nil, List.length_replicate, List.length_append, List.length_take, List.length_set, List.length_map]; omega)) ?_
      refine wl_storeB (x_a.take k ++ List.replicate (x_a.length - k) (0 : UInt8)) (k) ((x_a.getD k 0)) (want_none rfl) rfl rfl rfl (by simp) rfl sizeOf_5 o16 (by first | omega | (simp only [List.length_append, List.length_replicate, List.length_take, List.length_set, List.length_map]; omega)) ?_
      intro w3 k19 o20
      have m21 := m13.ext k19 (fun k hk => Nat.le_trans (Nat.le_refl _) (own_lt o9 k hk).1)
      refine wl_nil ?_
      refine wq_blk_normal ?_
      refine wq_then ?_
      refine wc_region ?_
      refine wl_mv (.int .i64 ((k : Nat) : Int)) (want_none rfl) rfl rfl (.inl rfl) rfl ?_
      refine wl_arith (((k : Nat) : Int) + 1) (want_none rfl) rfl rfl (by kernel_rfl) (by omega) (by omega) ?_
      refine wl_mv (.int .i64 (((k : Nat) : Int) + 1)) (want_none rfl) rfl rfl (.inr rfl) rfl ?_
      refine wl_nil ?_
      have hE22 : (((x_a.take k ++ List.replicate (x_a.length - k) (0 : UInt8)).set k (x_a.getD k 0)) : List UInt8) = x_a.take (k + 1) ++ List.replicate (x_a.length - (k + 1)) (0 : UInt8) := by first | exact cpB_next (by omega) | simp
      exact wq_loopN (w0 := w2) [(.slice a1 x_a.length c2), undef, (.slice none 0 0), (.slice a6 (List.replicate x_a.length (0 : UInt8)).length c7), (.int .i64 (((k + 1) : Nat) : Int)), (.slice a1 x_a.length c2), (.int .i64 (x_a.length : Int)), (.slice a6 (List.replicate x_a.length (0 : UInt8)).length c7), (.int .i64 ((k : Nat) : Int)), (.slice a1 x_a.length c2), (.int .i64 (x_a.length : Int)), (.bool (decide (((k : Nat) : Int) < (x_a.length : Int)))), (.int .i64 ((k : Nat) : Int)), (.int .i64 (((k : Nat) : Int) + 1)), (.slice a6 (List.replicate x_a.length (0 : UInt8)).length c7), (.int .i64 ((k : Nat) : Int)), (.slice a1 x_a.length c2), (.int .i64 ((k : Nat) : Int)), (.pointer (some (elA (.slice a1 x_a.length c2) ((((k : Nat) : Int)).toNat * 1)))), (.int .u8 ((x_a.getD k 0).toNat : Int)), (.pointer (some (elA (.slice a6 (List.replicate x_a.length (0 : UInt8)).length c7) ((((k : Nat) : Int)).toNat * 1)))), undef] rfl ⟨rfl, rfl, rfl, rfl, (congrArg (Value.int .i64) (show ((((k : Nat) : Int) + 1) : Int) = (((k + 1) : Nat) : Int) by omega)), rfl, rfl, rfl, rfl, rfl, rfl, rfl, rfl, rfl, rfl, rfl, rfl, rfl, rfl, rfl, rfl, rfl, trivial⟩ ⟨(k + 1), (.int .i64 ((k : Nat) : Int)), (.slice a1 x_a.length c2), (.int .i64 (x_a.length : Int)), (.bool (decide (((k : Nat) : Int) < (x_a.length : Int)))), (.int .i64 ((k : Nat) : Int)), (.int .i64 (((k : Nat) : Int) + 1)), (.slice a6 (List.replicate x_a.length (0 : UInt8)).length c7), (.int .i64 ((k : Nat) : Int)), (.slice a1 x_a.length c2), (.int .i64 ((k : Nat) : Int)), (.pointer (some (elA (.slice a1 x_a.length c2) ((((k : Nat) : Int)).toNat * 1)))), (.int .u8 ((x_a.getD k 0).toNat : Int)), (.pointer (some (elA (.slice a6 (List.replicate x_a.length (0 : UInt8)).length c7) ((((k : Nat) : Int)).toNat * 1)))), rfl, m21, (((Ch.refl (fun k => w0.heap.size ≤ k) w1).ext k14 (fun k hk => Nat.le_trans (Nat.le_refl _) hk)).ext k19 (fun k hk => Nat.le_trans (Nat.le_refl _) (own_lt o9 k hk).1)), (by omega), (by rw [← hE22]; exact o20)⟩ (by show x_a.length - ((((k + 1) : Nat) : Int)).toNat < x_a.length - (((k : Nat) : Int)).toNat; omega)
    · have q23 := of_decide_eq_false h17
      refine wc_false (congrArg Value.bool h17) ?_
      refine wc_exit ?_
      refine wq_then_exit ?_
      refine wq_then_exit ?_
      refine wq_blk_exit ?_
      refine wq_then ?_
      refine wc_seq ?_
      refine wc_region ?_
      refine wl_mv (.slice a6 (List.replicate x_a.length (0 : UInt8)).length c7) (want_none rfl) rfl rfl (.inl rfl) rfl ?_
      refine wl_mv (.slice a6 (List.replicate x_a.length (0 : UInt8)).length c7) (want_none rfl) rfl rfl (.inr rfl) rfl ?_
      refine wl_nil ?_
      refine wq_then ?_
      refine wc_ret ?_
      refine ret_1 (.inl rfl) (.slice a6 (List.replicate x_a.length (0 : UInt8)).length c7) rfl rfl ?_
      refine ⟨m13.keep0, ?_⟩
      have hF24 : cpB x_a = (x_a.take k ++ List.replicate (x_a.length - k) (0 : UInt8)) := by exact cpB_end (by omega)
      rw [hF24]
      have hN25 : (List.replicate x_a.length (0 : UInt8)).length = ((x_a.take k ++ List.replicate (x_a.length - k) (0 : UInt8))).length := by (simp only [List.length_append, List.length_take, List.length_replicate, List.length_set, List.length_map]; omega)
      rw [hN25] at o16 ⊢
      exact ⟨_, _, rfl, o16, (by rw [← hN25]; rw [List.length_replicate]; first | assumption | omega), ⟨trivial, trivial⟩⟩

theorem isAgg_3 : ∀ w, (isAgg 3).run Try.prog w = .ok false w := fun w => by kernel_rfl
theorem sizeOf_3 : ∀ w, (sizeOf 3).run Try.prog w = .ok 1 w := fun w => by kernel_rfl
def R_23 (w : World) (v : Value) (x : (List Int)) : Prop := ∃ (a1 : Option Addr) (c1 : Nat), v = .slice a1 x.length c1 ∧ Rd w 1 (.slice a1 x.length c1) x.length (x.map iV) ∧ x.length ≤ 1073741824
def O_23 (w : World) (lo : Nat) (v : Value) (x : (List Int)) : Prop := ∃ (a1 : Option Addr) (c1 : Nat), v = .slice a1 x.length c1 ∧ w.ownsRow lo 3 1 (.slice a1 x.length c1) x.length (x.map iV) ∧ x.length ≤ 1073741824 ∧ Aps [(a1, c1)]
theorem C_laws_toIntS (w0 : World) (v_x_a : Value) (x_a : List Int) (r_x_a : R_23 w0 v_x_a x_a)  : Fn Try.prog 124 #[v_x_a] w0 (fun v w' => Keep w0 w' ∧ O_23 w' w0.heap.size v (cpI x_a)) := by
  obtain ⟨a1, c2, rfl, r3, s4⟩ := r_x_a
  refine fn_of (n := 22) (l := [(.slice a1 x_a.length c2), undef, undef, undef, undef, undef, undef, undef, undef, undef, undef, undef, undef, undef, undef, undef, undef, undef, undef, undef, undef, undef]) Try.func124 rfl rfl (by kernel_rfl) rfl ?_
  refine wc_seq ?_
  refine wc_region ?_
  refine wl_mv (.slice none 0 0) (want_none rfl) rfl rfl (.inr rfl) rfl ?_
  refine wl_nil ?_
  refine wq_then ?_
  refine wc_seq ?_
  refine wc_region ?_
  refine wl_mv (.slice a1 x_a.length c2) (want_none rfl) rfl rfl (.inl rfl) rfl ?_
  refine wl_len (want_none rfl) rfl rfl rfl slTy_23 rfl r3 ?_
  refine wl_makeI (x_a.length) (want_none rfl) rfl rfl rfl slTy_23 (x_a.length : Int) rfl (by omega) (by (try simp only [List.length_append, List.length_cons, List.length_nil]); omega) (by (try simp only [List.length_append, List.length_cons, List.length_nil]); omega) ?_
  intro a6 c7 w1 k8 o9
  have m10 := (Ch.base w0).extk k8
  refine wl_mv (.slice a6 (List.replicate x_a.length (0 : Int)).length c7) (want_none rfl) rfl rfl (.inr rfl) rfl ?_
  refine wl_nil ?_
  refine wq_then ?_
  refine wc_seq ?_
  refine wc_seq ?_
  refine wc_region ?_
  refine wl_mv (.int .i64 0) (want_none rfl) rfl rfl (.inr rfl) rfl ?_
  refine wl_nil ?_
  refine wq_then ?_
  refine wc_block ?_
  refine wc_norm [(.slice a1 x_a.length c2), undef, (.slice none 0 0), (.slice a6 (List.replicate x_a.length (0 : Int)).length c7), (.int .i64 0), (.slice a1 x_a.length c2), (.int .i64 (x_a.length : Int)), (.slice a6 (List.replicate x_a.length (0 : Int)).length c7), undef, undef, undef, undef, undef, undef, undef, undef, undef, undef, undef, undef, undef, undef] rfl ⟨rfl, rfl, rfl, rfl, rfl, rfl, rfl, rfl, rfl, rfl, rfl, rfl, rfl, rfl, rfl, rfl, rfl, rfl, rfl, rfl, rfl, rfl, trivial⟩ ?_
  refine wc_loop (fun e' w' => ∃ (k : Nat) (u8x u9x u10x u11x u12x u13x u14x u15x u16x u17x u18x u19x u20x : Value), e' = lst [(.slice a1 x_a.length c2), undef, (.slice none 0 0), (.slice a6 (List.replicate x_a.length (0 : Int)).length c7), (.int .i64 ((k : Nat) : Int)), (.slice a1 x_a.length c2), (.int .i64 (x_a.length : Int)), (.slice a6 (List.replicate x_a.length (0 : Int)).length c7), u8x, u9x, u10x, u11x, u12x, u13x, u14x, u15x, u16x, u17x, u18x, u19x, u20x, undef] ∧ Ch (fun k => w0.heap.size ≤ k) w0 w' ∧ Ch (fun k => w0.heap.size ≤ k) w1 w' ∧ k ≤ x_a.length ∧ World.ownsRow w' w0.heap.size 3 1 (.slice a6 (List.replicate x_a.length (0 : Int)).length c7) (List.replicate x_a.length (0 : Int)).length ((x_a.take k ++ List.replicate (x_a.length - k) (0 : Int)).map iV)) (fun e' _ => x_a.length - ((intOf (e' 4))).toNat) ?_ ?_
  · have hE12 : ((List.replicate x_a.length (0 : Int)) : List Int) = x_a.take 0 ++ List.replicate (x_a.length - 0) (0 : Int) := by first | exact cpI_next (by omega) | simp
    exact ⟨0, undef, undef, undef, undef, undef, undef, undef, undef, undef, undef, undef, undef, undef, (congrArg (fun (x4z : Value) => lst [(.slice a1 x_a.length c2), undef, (.slice none 0 0), (.slice a6 (List.replicate x_a.length (0 : Int)).length c7), x4z, (.slice a1 x_a.length c2), (.int .i64 (x_a.length : Int)), (.slice a6 (List.replicate x_a.length (0 : Int)).length c7), undef, undef, undef, undef, undef, undef, undef, undef, undef, undef, undef, undef, undef, undef]) (congrArg (Value.int .i64) (show (0 : Int) = ((0 : Nat) : Int) by omega))), m10, (Ch.refl (fun k => w0.heap.size ≤ k) w1), (by omega), (by rw [← hE12]; exact o9)⟩
  · rintro _ w2 ⟨k, u8x, u9x, u10x, u11x, u12x, u13x, u14x, u15x, u16x, u17x, u18x, u19x, u20x, rfl, m13, k14, i15, o16⟩
    refine wc_seq ?_
    refine wc_seq ?_
    refine wc_region ?_
    refine wl_mv (.int .i64 ((k : Nat) : Int)) (want_none rfl) rfl rfl (.inl rfl) rfl ?_
    refine wl_mv (.slice a1 x_a.length c2) (want_none rfl) rfl rfl (.inl rfl) rfl ?_
    refine wl_len (want_none rfl) rfl rfl rfl slTy_23 rfl (r3.from0 m13) ?_
    refine wl_pure (.bool (decide (((k : Nat) : Int) < (x_a.length : Int)))) (want_none rfl) rfl rfl (by kernel_rfl) ?_
    refine wl_nil ?_
    refine wq_then ?_
    rcases Bool.eq_false_or_eq_true (decide (((k : Nat) : Int) < (x_a.length : Int))) with h17 | h17
    · have q18 := of_decide_eq_true h17
      refine wc_true (congrArg Value.bool h17) ?_
      refine wc_skip ?_
      refine wq_then ?_
      refine wc_seq ?_
      refine wc_block ?_
      refine wc_region ?_
      refine wl_mv (.slice a6 (List.replicate x_a.length (0 : Int)).length c7) (want_none rfl) rfl rfl (.inl rfl) rfl ?_
      refine wl_mv (.int .i64 ((k : Nat) : Int)) (want_none rfl) rfl rfl (.inl rfl) rfl ?_
      refine wl_mv (.slice a1 x_a.length c2) (want_none rfl) rfl rfl (.inl rfl) rfl ?_
      refine wl_mv (.int .i64 ((k : Nat) : Int)) (want_none rfl) rfl rfl (.inl rfl) rfl ?_
      refine wl_index (want_none rfl) ((k : Nat) : Int) rfl rfl rfl slTy_23 rfl rfl (r3.from0 m13) (by first | omega | (simp only [List.length_cons, List.length_nil, List.length_replicate, List.length_append, List.length_take, List.length_set, List.length_map]; omega)) (by first | omega | (simp only [List.length_cons, List.length_nil, List.length_replicate, List.length_append, List.length_take, List.length_set, List.length_map]; omega)) ?_
      refine wl_loadE (iV (x_a.getD k 0)) (want_none rfl) rfl rfl rfl rfl isAgg_3 (r3.from0 m13) (iget (by simp) (by first | omega | (simp only [List.length_cons, List.length_nil, List.length_replicate, List.length_append, List.length_take, List.length_set, List.length_map]; omega))) ?_
      refine wl_index (want_none rfl) ((k : Nat) : Int) rfl rfl rfl slTy_23 rfl rfl (Rd.of_own o16) (by first | omega | (simp only [List.length_cons, List.length_nil, List.length_replicate, List.length_append, List.length_take, List.length_set, List.length_map]; omega)) (by first | omega | (simp only [List.length_cons, List.length_nil, List.length_replicate, List.length_append, List.length_take, List.length_set, List.length_map]; omega)) ?_
      refine wl_storeI (x_a.take k ++ List.replicate (x_a.length - k) (0 : Int)) (k) ((x_a.getD k 0)) (want_none rfl) rfl rfl rfl (by simp) rfl sizeOf_3 o16 (by first | omega | (simp only [List.length_append, List.length_replicate, List.length_take, List.length_set, List.length_map]; omega)) ?_
      intro w3 k19 o20
      have m21 := m13.ext k19 (fun k hk => Nat.le_trans (Nat.le_refl _) (own_lt o9 k hk).1)
      refine wl_nil ?_
      refine wq_blk_normal ?_
      refine wq_then ?_
      refine wc_region ?_
      refine wl_mv (.int .i64 ((k : Nat) : Int)) (want_none rfl) rfl rfl (.inl rfl) rfl ?_
      refine wl_arith (((k : Nat) : Int) + 1) (want_none rfl) rfl rfl (by kernel_rfl) (by omega) (by omega) ?_
      refine wl_mv (.int .i64 (((k : Nat) : Int) + 1)) (want_none rfl) rfl rfl (.inr rfl) rfl ?_
      refine wl_nil ?_
      have hE22 : (((x_a.take k ++ List.replicate (x_a.length - k) (0 : Int)).set k (x_a.getD k 0)) : List Int) = x_a.take (k + 1) ++ List.replicate (x_a.length - (k + 1)) (0 : Int) := by first | exact cpI_next (by omega) | simp
      exact wq_loopN (w0 := w2) [(.slice a1 x_a.length c2), undef, (.slice none 0 0), (.slice a6 (List.replicate x_a.length (0 : Int)).length c7), (.int .i64 (((k + 1) : Nat) : Int)), (.slice a1 x_a.length c2), (.int .i64 (x_a.length : Int)), (.slice a6 (List.replicate x_a.length (0 : Int)).length c7), (.int .i64 ((k : Nat) : Int)), (.slice a1 x_a.length c2), (.int .i64 (x_a.length : Int)), (.bool (decide (((k : Nat) : Int) < (x_a.length : Int)))), (.int .i64 ((k : Nat) : Int)), (.int .i64 (((k : Nat) : Int) + 1)), (.slice a6 (List.replicate x_a.length (0 : Int)).length c7), (.int .i64 ((k : Nat) : Int)), (.slice a1 x_a.length c2), (.int .i64 ((k : Nat) : Int)), (.pointer (some (elA (.slice a1 x_a.length c2) ((((k : Nat) : Int)).toNat * 1)))), (.int .i64 (x_a.getD k 0)), (.pointer (some (elA (.slice a6 (List.replicate x_a.length (0 : Int)).length c7) ((((k : Nat) : Int)).toNat * 1)))), undef] rfl ⟨rfl, rfl, rfl, rfl, (congrArg (Value.int .i64) (show ((((k : Nat) : Int) + 1) : Int) = (((k + 1) : Nat) : Int) by omega)), rfl, rfl, rfl, rfl, rfl, rfl, rfl, rfl, rfl, rfl, rfl, rfl, rfl, rfl, rfl, rfl, rfl, trivial⟩ ⟨(k + 1), (.int .i64 ((k : Nat) : Int)), (.slice a1 x_a.length c2), (.int .i64 (x_a.length : Int)), (.bool (decide (((k : Nat) : Int) < (x_a.length : Int)))), (.int .i64 ((k : Nat) : Int)), (.int .i64 (((k : Nat) : Int) + 1)), (.slice a6 (List.replicate x_a.length (0 : Int)).length c7), (.int .i64 ((k : Nat) : Int)), (.slice a1 x_a.length c2), (.int .i64 ((k : Nat) : Int)), (.pointer (some (elA (.slice a1 x_a.length c2) ((((k : Nat) : Int)).toNat * 1)))), (.int .i64 (x_a.getD k 0)), (.pointer (some (elA (.slice a6 (List.replicate x_a.length (0 : Int)).length c7) ((((k : Nat) : Int)).toNat * 1)))), rfl, m21, (((Ch.refl (fun k => w0.heap.size ≤ k) w1).ext k14 (fun k hk => Nat.le_trans (Nat.le_refl _) hk)).ext k19 (fun k hk => Nat.le_trans (Nat.le_refl _) (own_lt o9 k hk).1)), (by omega), (by rw [← hE22]; exact o20)⟩ (by show x_a.length - ((((k + 1) : Nat) : Int)).toNat < x_a.length - (((k : Nat) : Int)).toNat; omega)
    · have q23 := of_decide_eq_false h17
      refine wc_false (congrArg Value.bool h17) ?_
      refine wc_exit ?_
      refine wq_then_exit ?_
      refine wq_then_exit ?_
      refine wq_blk_exit ?_
      refine wq_then ?_
      refine wc_seq ?_
      refine wc_region ?_
      refine wl_mv (.slice a6 (List.replicate x_a.length (0 : Int)).length c7) (want_none rfl) rfl rfl (.inl rfl) rfl ?_
      refine wl_mv (.slice a6 (List.replicate x_a.length (0 : Int)).length c7) (want_none rfl) rfl rfl (.inr rfl) rfl ?_
      refine wl_nil ?_
      refine wq_then ?_
      refine wc_ret ?_
      refine ret_1 (.inl rfl) (.slice a6 (List.replicate x_a.length (0 : Int)).length c7) rfl rfl ?_
      refine ⟨m13.keep0, ?_⟩
      have hF24 : cpI x_a = (x_a.take k ++ List.replicate (x_a.length - k) (0 : Int)) := by exact cpI_end (by omega)
      rw [hF24]
      have hN25 : (List.replicate x_a.length (0 : Int)).length = ((x_a.take k ++ List.replicate (x_a.length - k) (0 : Int))).length := by (simp only [List.length_append, List.length_take, List.length_replicate, List.length_set, List.length_map]; omega)
      rw [hN25] at o16 ⊢
      exact ⟨_, _, rfl, o16, (by rw [← hN25]; rw [List.length_replicate]; first | assumption | omega), ⟨trivial, trivial⟩⟩

theorem zero_25 : ∀ w, (zeroValue 25).run Try.prog w = .ok (.agg #[(.int .i64 0), (.slice none 0 0)]) w := fun w => by kernel_rfl
theorem sizeOf_23 : ∀ w, (sizeOf 23).run Try.prog w = .ok 1 w := fun w => by kernel_rfl
theorem isAgg_25 : ∀ w, (isAgg 25).run Try.prog w = .ok true w := fun w => by kernel_rfl
theorem sizeOf_25 : ∀ w, (sizeOf 25).run Try.prog w = .ok 2 w := fun w => by kernel_rfl
def R_37 (w : World) (v : Value) (x : (PWin)) : Prop := ∃ (a1 : Option Addr) (c1 : Nat), v = .agg #[.int .i64 x.Top, .slice a1 x.Bits.length c1] ∧ Rd w 1 (.slice a1 x.Bits.length c1) x.Bits.length (x.Bits.map iV) ∧ x.Bits.length ≤ 1073741824
def O_25 (w : World) (lo : Nat) (v : Value) (x : (PWin)) : Prop := ∃ (a1 : Option Addr) (c1 : Nat), v = .agg #[.int .i64 x.Top, .slice a1 x.Bits.length c1] ∧ w.ownsRow lo 3 1 (.slice a1 x.Bits.length c1) x.Bits.length (x.Bits.map iV) ∧ x.Bits.length ≤ 1073741824 ∧ Aps [(a1, c1)]
def F_laws_toWin (x_a : PWin) : (PWin) := { Top := x_a.Top, Bits := (cpI x_a.Bits) : PWin }
theorem C_laws_toWin (w0 : World) (v_x_a : Value) (x_a : PWin) (r_x_a : R_37 w0 v_x_a x_a)  : Fn Try.prog 110 #[v_x_a] w0 (fun v w' => Keep w0 w' ∧ O_25 w' w0.heap.size v (F_laws_toWin x_a)) := by
  obtain ⟨a1, c2, rfl, r3, s4⟩ := r_x_a
  refine fn_of (n := 12) (l := [(.agg #[(.int .i64 x_a.Top), (.slice a1 x_a.Bits.length c2)]), undef, undef, undef, undef, undef, undef, undef, undef, undef, undef, undef]) Try.func110 rfl rfl (by kernel_rfl) rfl ?_
  refine wc_seq ?_
  refine wc_region ?_
  refine wl_box (want_none rfl) [(.int .i64 x_a.Top), (.slice a1 x_a.Bits.length c2)] rfl rfl rfl rfl ?_
  intro g6 w1 p7 p8 k9 b10
  have m11 := (Ch.base w0).extk k9
  refine wl_alloc (want_none rfl) (.agg #[(.int .i64 0), (.slice none 0 0)]) [(.int .i64 0), (.slice none 0 0)] zero_25 rfl rfl rfl rfl ?_
  intro g12 w2 p13 p14 k15 b16
  have m17 := m11.extk k15
  refine wl_nil ?_
  refine wq_then ?_
  refine wc_seq ?_
  refine wc_region ?_
  refine wl_alloc (want_none rfl) (.agg #[(.int .i64 0), (.slice none 0 0)]) [(.int .i64 0), (.slice none 0 0)] zero_25 rfl rfl rfl rfl ?_
  intro g18 w3 p19 p20 k21 b22
  have m23 := m17.extk k21
  refine wl_nil ?_
  refine wq_then ?_
  refine wc_seq ?_
  refine wc_region ?_
  refine wl_pure (.pointer (some ⟨g6, 0, none⟩)) (want_none rfl) rfl rfl (by kernel_rfl) ?_
  have b24 := ((b10.kp k15).kp k21)
  refine wl_load1 (.int .i64 x_a.Top) (want_none rfl) rfl rfl rfl rfl isAgg_3 b24 rfl ?_
  refine wl_pure (.pointer (some ⟨g18, 0, none⟩)) (want_none rfl) rfl rfl (by kernel_rfl) ?_
  refine wl_store (.int .i64 x_a.Top) [(.int .i64 x_a.Top)] [(.int .i64 x_a.Top), (.slice none 0 0)] (want_none rfl) rfl rfl rfl rfl rfl (one_cons rfl one_nil) sizeOf_3 b22 rfl rfl ?_
  intro w4 k25 b26 z27
  have m28 := m23.ext k25 (fun k hk => by subst hk; exact Nat.le_trans (Nat.le_trans k9.size k15.size) p19)
  refine wl_nil ?_
  refine wq_then ?_
  refine wc_seq ?_
  refine wc_region ?_
  refine wl_pure (.pointer (some ⟨g6, 1, none⟩)) (want_none rfl) rfl rfl (by kernel_rfl) ?_
  have b29 := (b24.ch k25 (Nat.ne_of_lt (Nat.lt_of_lt_of_le p8 (Nat.le_trans k15.size p19))))
  refine wl_load1 (.slice a1 x_a.Bits.length c2) (want_none rfl) rfl rfl rfl rfl isAgg_23 b29 rfl ?_
  refine wl_call (want_none rfl) (args := #[(.slice a1 x_a.Bits.length c2)]) rfl rfl (by kernel_rfl) (C_laws_toIntS w4 (.slice a1 x_a.Bits.length c2) x_a.Bits (show R_23 w4 (.slice a1 x_a.Bits.length c2) x_a.Bits from ⟨_, _, rfl, (r3.from0 m28), s4⟩)) ?_
  rintro _ w5 ⟨k30, ⟨a31, c32, rfl, o33, s34, ap36⟩⟩
  have m37 := m28.extk k30
  refine wl_pure (.pointer (some ⟨g18, 1, none⟩)) (want_none rfl) rfl rfl (by kernel_rfl) ?_
  have b38 := (b26.kp k30)
  refine wl_store (.slice a31 (cpI x_a.Bits).length c32) [(.slice a31 (cpI x_a.Bits).length c32)] [(.int .i64 x_a.Top), (.slice a31 (cpI x_a.Bits).length c32)] (want_none rfl) rfl rfl rfl rfl rfl (one_cons rfl one_nil) sizeOf_23 b38 rfl rfl ?_
  intro w6 k39 b40 z41
  have m42 := m37.ext k39 (fun k hk => by subst hk; exact Nat.le_trans (Nat.le_trans k9.size k15.size) p19)
  refine wl_nil ?_
  refine wq_then ?_
  refine wc_seq ?_
  refine wc_region ?_
  refine wl_loadN [(.int .i64 x_a.Top), (.slice a31 (cpI x_a.Bits).length c32)] (want_none rfl) rfl rfl rfl rfl isAgg_25 sizeOf_25 b40 rfl ?_
  have b43 := ((((b16.kp k21).ch k25 (Nat.ne_of_lt (Nat.lt_of_lt_of_le p14 (Nat.le_trans (Nat.le_refl _) p19)))).kp k30).ch k39 (Nat.ne_of_lt (Nat.lt_of_lt_of_le p14 (Nat.le_trans (Nat.le_refl _) p19))))
  refine wl_store (.agg #[(.int .i64 x_a.Top), (.slice a31 (cpI x_a.Bits).length c32)]) [(.int .i64 x_a.Top), (.slice a31 (cpI x_a.Bits).length c32)] [(.int .i64 x_a.Top), (.slice a31 (cpI x_a.Bits).length c32)] (want_none rfl) rfl rfl rfl rfl rfl (one_cons rfl (one_cons rfl one_nil)) sizeOf_25 b43 rfl rfl ?_
  intro w7 k44 b45 z46
  have m47 := m42.ext k44 (fun k hk => by subst hk; exact Nat.le_trans k9.size p13)
  refine wl_nil ?_
  refine wq_then ?_
  refine wc_ret ?_
  have o48 := (own_ch (own_ch o33 k39 (fun g hg hlt hk => by have h1 := (own_lt o33 g hg).1; have h2 := Nat.lt_of_lt_of_le p20 k25.size; omega)) k44 (fun g hg hlt hk => by have h1 := (own_lt o33 g hg).1; have h2 := Nat.lt_of_lt_of_le p14 (Nat.le_trans k21.size k25.size); omega))
  refine ret_1 (.inl rfl) (.agg #[(.int .i64 x_a.Top), (.slice a31 (cpI x_a.Bits).length c32)]) rfl (rv_c [(.int .i64 x_a.Top), (.slice a31 (cpI x_a.Bits).length c32)] rfl b45 isAgg_25 sizeOf_25) ?_
  refine ⟨m47.keep0, ?_⟩
  have hF49 : F_laws_toWin x_a = { Top := x_a.Top, Bits := (cpI x_a.Bits) : PWin } := by rfl
  rw [hF49]
  exact ⟨_, _, rfl, (own_lo o48 (Nat.le_trans (Nat.le_trans (Nat.le_trans k9.size k15.size) k21.size) k25.size)), s34, ⟨trivial, trivial⟩⟩

theorem zero_27 : ∀ w, (zeroValue 27).run Try.prog w = .ok (.agg #[(.int .i64 0), (.slice none 0 0), (.int .i64 0), (.int .i64 0), (.slice none 0 0)]) w := fun w => by kernel_rfl
theorem sizeOf_22 : ∀ w, (sizeOf 22).run Try.prog w = .ok 1 w := fun w => by kernel_rfl
theorem isAgg_27 : ∀ w, (isAgg 27).run Try.prog w = .ok true w := fun w => by kernel_rfl
theorem sizeOf_27 : ∀ w, (sizeOf 27).run Try.prog w = .ok 5 w := fun w => by kernel_rfl
def R_39 (w : World) (v : Value) (x : (PEp)) : Prop := ∃ (a1 : Option Addr) (c1 : Nat) (a2 : Option Addr) (c2 : Nat), v = .agg #[.int .i64 x.N, .slice a1 x.Key.length c1, .int .i64 x.Seq, .int .i64 x.Win.Top, .slice a2 x.Win.Bits.length c2] ∧ Rd w 1 (.slice a1 x.Key.length c1) x.Key.length (x.Key.map bV) ∧ x.Key.length ≤ 1073741824 ∧ Rd w 1 (.slice a2 x.Win.Bits.length c2) x.Win.Bits.length (x.Win.Bits.map iV) ∧ x.Win.Bits.length ≤ 1073741824
def O_27 (w : World) (lo : Nat) (v : Value) (x : (PEp)) : Prop := ∃ (a1 : Option Addr) (c1 : Nat) (a2 : Option Addr) (c2 : Nat), v = .agg #[.int .i64 x.N, .slice a1 x.Key.length c1, .int .i64 x.Seq, .int .i64 x.Win.Top, .slice a2 x.Win.Bits.length c2] ∧ w.ownsRow lo 5 1 (.slice a1 x.Key.length c1) x.Key.length (x.Key.map bV) ∧ x.Key.length ≤ 1073741824 ∧ w.ownsRow lo 3 1 (.slice a2 x.Win.Bits.length c2) x.Win.Bits.length (x.Win.Bits.map iV) ∧ x.Win.Bits.length ≤ 1073741824 ∧ Aps [(a1, c1), (a2, c2)]
def F_laws_toEp (x_a : PEp) : (PEp) := { N := x_a.N, Key := (cpB x_a.Key), Seq := x_a.Seq, Win := (F_laws_toWin x_a.Win) : PEp }
theorem C_laws_toEp (w0 : World) (v_x_a : Value) (x_a : PEp) (r_x_a : R_39 w0 v_x_a x_a)  : Fn Try.prog 78 #[v_x_a] w0 (fun v w' => Keep w0 w' ∧ O_27 w' w0.heap.size v (F_laws_toEp x_a)) := by
  obtain ⟨a1, c2, a6, c7, rfl, r3, s4, r8, s9⟩ := r_x_a
  refine fn_of (n := 19) (l := [(.agg #[(.int .i64 x_a.N), (.slice a1 x_a.Key.length c2), (.int .i64 x_a.Seq), (.int .i64 x_a.Win.Top), (.slice a6 x_a.Win.Bits.length c7)]), undef, undef, undef, undef, undef, undef, undef, undef, undef, undef, undef, undef, undef, undef, undef, undef, undef, undef]) Try.func78 rfl rfl (by kernel_rfl) rfl ?_
  refine wc_seq ?_
  refine wc_region ?_
  refine wl_box (want_none rfl) [(.int .i64 x_a.N), (.slice a1 x_a.Key.length c2), (.int .i64 x_a.Seq), (.int .i64 x_a.Win.Top), (.slice a6 x_a.Win.Bits.length c7)] rfl rfl rfl rfl ?_
  intro g11 w1 p12 p13 k14 b15
  have m16 := (Ch.base w0).extk k14
  refine wl_alloc (want_none rfl) (.agg #[(.int .i64 0), (.slice none 0 0), (.int .i64 0), (.int .i64 0), (.slice none 0 0)]) [(.int .i64 0), (.slice none 0 0), (.int .i64 0), (.int .i64 0), (.slice none 0 0)] zero_27 rfl rfl rfl rfl ?_
  intro g17 w2 p18 p19 k20 b21
  have m22 := m16.extk k20
  refine wl_nil ?_
  refine wq_then ?_
  refine wc_seq ?_
  refine wc_region ?_
  refine wl_alloc (want_none rfl) (.agg #[(.int .i64 0), (.slice none 0 0), (.int .i64 0), (.int .i64 0), (.slice none 0 0)]) [(.int .i64 0), (.slice none 0 0), (.int .i64 0), (.int .i64 0), (.slice none 0 0)] zero_27 rfl rfl rfl rfl ?_
  intro g23 w3 p24 p25 k26 b27
  have m28 := m22.extk k26
  refine wl_nil ?_
  refine wq_then ?_
  refine wc_seq ?_
  refine wc_region ?_
  refine wl_pure (.pointer (some ⟨g11, 0, none⟩)) (want_none rfl) rfl rfl (by kernel_rfl) ?_
  have b29 := ((b15.kp k20).kp k26)
  refine wl_load1 (.int .i64 x_a.N) (want_none rfl) rfl rfl rfl rfl isAgg_3 b29 rfl ?_
  refine wl_pure (.pointer (some ⟨g23, 0, none⟩)) (want_none rfl) rfl rfl (by kernel_rfl) ?_
  refine wl_store (.int .i64 x_a.N) [(.int .i64 x_a.N)] [(.int .i64 x_a.N), (.slice none 0 0), (.int .i64 0), (.int .i64 0), (.slice none 0 0)] (want_none rfl) rfl rfl rfl rfl rfl (one_cons rfl one_nil) sizeOf_3 b27 rfl rfl ?_
  intro w4 k30 b31 z32
  have m33 := m28.ext k30 (fun k hk => by subst hk; exact Nat.le_trans (Nat.le_trans k14.size k20.size) p24)
  refine wl_nil ?_
  refine wq_then ?_
  refine wc_seq ?_
  refine wc_region ?_
  refine wl_pure (.pointer (some ⟨g11, 1, none⟩)) (want_none rfl) rfl rfl (by kernel_rfl) ?_
  have b34 := (b29.ch k30 (Nat.ne_of_lt (Nat.lt_of_lt_of_le p13 (Nat.le_trans k20.size p24))))
  refine wl_load1 (.slice a1 x_a.Key.length c2) (want_none rfl) rfl rfl rfl rfl isAgg_22 b34 rfl ?_
  refine wl_call (want_none rfl) (args := #[(.slice a1 x_a.Key.length c2)]) rfl rfl (by kernel_rfl) (C_laws_toByteS w4 (.slice a1 x_a.Key.length c2) x_a.Key (show R_22 w4 (.slice a1 x_a.Key.length c2) x_a.Key from ⟨_, _, rfl, (r3.from0 m33), s4⟩)) ?_
  rintro _ w5 ⟨k35, ⟨a36, c37, rfl, o38, s39, ap41⟩⟩
  have m42 := m33.extk k35
  refine wl_pure (.pointer (some ⟨g23, 1, none⟩)) (want_none rfl) rfl rfl (by kernel_rfl) ?_
  have b43 := (b31.kp k35)
  refine wl_store (.slice a36 (cpB x_a.Key).length c37) [(.slice a36 (cpB x_a.Key).length c37)] [(.int .i64 x_a.N), (.slice a36 (cpB x_a.Key).length c37), (.int .i64 0), (.int .i64 0), (.slice none 0 0)] (want_none rfl) rfl rfl rfl rfl rfl (one_cons rfl one_nil) sizeOf_22 b43 rfl rfl ?_
  intro w6 k44 b45 z46
  have m47 := m42.ext k44 (fun k hk => by subst hk; exact Nat.le_trans (Nat.le_trans k14.size k20.size) p24)
  refine wl_nil ?_
  refine wq_then ?_
  refine wc_seq ?_
  refine wc_region ?_
  refine wl_pure (.pointer (some ⟨g11, 2, none⟩)) (want_none rfl) rfl rfl (by kernel_rfl) ?_
  have b48 := ((b34.kp k35).ch k44 (Nat.ne_of_lt (Nat.lt_of_lt_of_le p13 (Nat.le_trans k20.size p24))))
  refine wl_load1 (.int .i64 x_a.Seq) (want_none rfl) rfl rfl rfl rfl isAgg_3 b48 rfl ?_
  refine wl_pure (.pointer (some ⟨g23, 2, none⟩)) (want_none rfl) rfl rfl (by kernel_rfl) ?_
  refine wl_store (.int .i64 x_a.Seq) [(.int .i64 x_a.Seq)] [(.int .i64 x_a.N), (.slice a36 (cpB x_a.Key).length c37), (.int .i64 x_a.Seq), (.int .i64 0), (.slice none 0 0)] (want_none rfl) rfl rfl rfl rfl rfl (one_cons rfl one_nil) sizeOf_3 b45 rfl rfl ?_
  intro w7 k49 b50 z51
  have m52 := m47.ext k49 (fun k hk => by subst hk; exact Nat.le_trans (Nat.le_trans k14.size k20.size) p24)
  refine wl_nil ?_
  refine wq_then ?_
  refine wc_seq ?_
  refine wc_region ?_
  refine wl_pure (.pointer (some ⟨g11, 3, none⟩)) (want_none rfl) rfl rfl (by kernel_rfl) ?_
  have b53 := (b48.ch k49 (Nat.ne_of_lt (Nat.lt_of_lt_of_le p13 (Nat.le_trans k20.size p24))))
  refine wl_loadN [(.int .i64 x_a.Win.Top), (.slice a6 x_a.Win.Bits.length c7)] (want_none rfl) rfl rfl rfl rfl isAgg_37 sizeOf_37 b53 rfl ?_
  refine wl_call (want_none rfl) (args := #[(.agg #[(.int .i64 x_a.Win.Top), (.slice a6 x_a.Win.Bits.length c7)])]) rfl rfl (by kernel_rfl) (C_laws_toWin w7 (.agg #[(.int .i64 x_a.Win.Top), (.slice a6 x_a.Win.Bits.length c7)]) x_a.Win (show R_37 w7 (.agg #[(.int .i64 x_a.Win.Top), (.slice a6 x_a.Win.Bits.length c7)]) x_a.Win from ⟨_, _, rfl, (r8.from0 m52), s9⟩)) ?_
  rintro _ w8 ⟨k54, ⟨a55, c56, rfl, o57, s58, ap60⟩⟩
  have m61 := m52.extk k54
  refine wl_pure (.pointer (some ⟨g23, 3, none⟩)) (want_none rfl) rfl rfl (by kernel_rfl) ?_
  have b62 := (b50.kp k54)
  refine wl_store (.agg #[(.int .i64 ((F_laws_toWin x_a.Win).Top)), (.slice a55 ((F_laws_toWin x_a.Win).Bits).length c56)]) [(.int .i64 ((F_laws_toWin x_a.Win).Top)), (.slice a55 ((F_laws_toWin x_a.Win).Bits).length c56)] [(.int .i64 x_a.N), (.slice a36 (cpB x_a.Key).length c37), (.int .i64 x_a.Seq), (.int .i64 ((F_laws_toWin x_a.Win).Top)), (.slice a55 ((F_laws_toWin x_a.Win).Bits).length c56)] (want_none rfl) rfl rfl rfl rfl rfl (one_cons rfl (one_cons rfl one_nil)) sizeOf_25 b62 rfl rfl ?_
  intro w9 k63 b64 z65
  have m66 := m61.ext k63 (fun k hk => by subst hk; exact Nat.le_trans (Nat.le_trans k14.size k20.size) p24)
  refine wl_nil ?_
  refine wq_then ?_
  refine wc_seq ?_
  refine wc_region ?_
  refine wl_loadN [(.int .i64 x_a.N), (.slice a36 (cpB x_a.Key).length c37), (.int .i64 x_a.Seq), (.int .i64 ((F_laws_toWin x_a.Win).Top)), (.slice a55 ((F_laws_toWin x_a.Win).Bits).length c56)] (want_none rfl) rfl rfl rfl rfl isAgg_27 sizeOf_27 b64 rfl ?_
  have b67 := (((((((b21.kp k26).ch k30 (Nat.ne_of_lt (Nat.lt_of_lt_of_le p19 (Nat.le_trans (Nat.le_refl _) p24)))).kp k35).ch k44 (Nat.ne_of_lt (Nat.lt_of_lt_of_le p19 (Nat.le_trans (Nat.le_refl _) p24)))).ch k49 (Nat.ne_of_lt (Nat.lt_of_lt_of_le p19 (Nat.le_trans (Nat.le_refl _) p24)))).kp k54).ch k63 (Nat.ne_of_lt (Nat.lt_of_lt_of_le p19 (Nat.le_trans (Nat.le_refl _) p24))))
  refine wl_store (.agg #[(.int .i64 x_a.N), (.slice a36 (cpB x_a.Key).length c37), (.int .i64 x_a.Seq), (.int .i64 ((F_laws_toWin x_a.Win).Top)), (.slice a55 ((F_laws_toWin x_a.Win).Bits).length c56)]) [(.int .i64 x_a.N), (.slice a36 (cpB x_a.Key).length c37), (.int .i64 x_a.Seq), (.int .i64 ((F_laws_toWin x_a.Win).Top)), (.slice a55 ((F_laws_toWin x_a.Win).Bits).length c56)] [(.int .i64 x_a.N), (.slice a36 (cpB x_a.Key).length c37), (.int .i64 x_a.Seq), (.int .i64 ((F_laws_toWin x_a.Win).Top)), (.slice a55 ((F_laws_toWin x_a.Win).Bits).length c56)] (want_none rfl) rfl rfl rfl rfl rfl (one_cons rfl (one_cons rfl (one_cons rfl (one_cons rfl (one_cons rfl one_nil))))) sizeOf_27 b67 rfl rfl ?_
  intro w10 k68 b69 z70
  have m71 := m66.ext k68 (fun k hk => by subst hk; exact Nat.le_trans k14.size p18)
  refine wl_nil ?_
  refine wq_then ?_
  refine wc_ret ?_
  have o72 := (own_ch (own_ch (own_kp (own_ch (own_ch o38 k44 (fun g hg hlt hk => by have h1 := (own_lt o38 g hg).1; have h2 := Nat.lt_of_lt_of_le p25 k30.size; omega)) k49 (fun g hg hlt hk => by have h1 := (own_lt o38 g hg).1; have h2 := Nat.lt_of_lt_of_le p25 k30.size; omega)) k54) k63 (fun g hg hlt hk => by have h1 := (own_lt o38 g hg).1; have h2 := Nat.lt_of_lt_of_le p25 k30.size; omega)) k68 (fun g hg hlt hk => by have h1 := (own_lt o38 g hg).1; have h2 := Nat.lt_of_lt_of_le p19 (Nat.le_trans k26.size k30.size); omega))
  have o73 := (own_ch (own_ch o57 k63 (fun g hg hlt hk => by have h1 := (own_lt o57 g hg).1; have h2 := Nat.lt_of_lt_of_le p25 (Nat.le_trans (Nat.le_trans (Nat.le_trans k30.size k35.size) k44.size) k49.size); omega)) k68 (fun g hg hlt hk => by have h1 := (own_lt o57 g hg).1; have h2 := Nat.lt_of_lt_of_le p19 (Nat.le_trans (Nat.le_trans (Nat.le_trans (Nat.le_trans k26.size k30.size) k35.size) k44.size) k49.size); omega))
  refine ret_1 (.inl rfl) (.agg #[(.int .i64 x_a.N), (.slice a36 (cpB x_a.Key).length c37), (.int .i64 x_a.Seq), (.int .i64 ((F_laws_toWin x_a.Win).Top)), (.slice a55 ((F_laws_toWin x_a.Win).Bits).length c56)]) rfl (rv_c [(.int .i64 x_a.N), (.slice a36 (cpB x_a.Key).length c37), (.int .i64 x_a.Seq), (.int .i64 ((F_laws_toWin x_a.Win).Top)), (.slice a55 ((F_laws_toWin x_a.Win).Bits).length c56)] rfl b69 isAgg_27 sizeOf_27) ?_
  refine ⟨m71.keep0, ?_⟩
  have hF74 : F_laws_toEp x_a = { N := x_a.N, Key := (cpB x_a.Key), Seq := x_a.Seq, Win := (F_laws_toWin x_a.Win) : PEp } := by rfl
  rw [hF74]
  exact ⟨_, _, _, _, rfl, (own_lo o72 (Nat.le_trans (Nat.le_trans (Nat.le_trans k14.size k20.size) k26.size) k30.size)), s39, (own_lo o73 (Nat.le_trans (Nat.le_trans (Nat.le_trans (Nat.le_trans (Nat.le_trans (Nat.le_trans k14.size k20.size) k26.size) k30.size) k35.size) k44.size) k49.size)), s58, ⟨⟨(Ap.lt o38 o57 (Nat.le_trans k44.size k49.size)), trivial⟩, ⟨trivial, trivial⟩⟩⟩

theorem zero_29 : ∀ w, (zeroValue 29).run Try.prog w = .ok (.agg #[(.int .i64 0), (.slice none 0 0), (.int .i64 0), (.slice none 0 0), (.int .i64 0), (.int .i64 0), (.slice none 0 0), (.int .i64 0), (.slice none 0 0), (.int .i64 0), (.int .i64 0), (.slice none 0 0), (.bool false), (.int .i64 0), (.slice none 0 0)]) w := fun w => by kernel_rfl
theorem isAgg_4 : ∀ w, (isAgg 4).run Try.prog w = .ok false w := fun w => by kernel_rfl
theorem sizeOf_4 : ∀ w, (sizeOf 4).run Try.prog w = .ok 1 w := fun w => by kernel_rfl
theorem isAgg_29 : ∀ w, (isAgg 29).run Try.prog w = .ok true w := fun w => by kernel_rfl
theorem sizeOf_29 : ∀ w, (sizeOf 29).run Try.prog w = .ok 15 w := fun w => by kernel_rfl
def R_41 (w : World) (v : Value) (x : (PChan)) : Prop := ∃ (a1 : Option Addr) (c1 : Nat) (a2 : Option Addr) (c2 : Nat) (a3 : Option Addr) (c3 : Nat) (a4 : Option Addr) (c4 : Nat) (a5 : Option Addr) (c5 : Nat) (a6 : Option Addr) (c6 : Nat), v = .agg #[.int .i64 x.Role, .slice a1 x.Sn.length c1, .int .i64 x.Cur.N, .slice a2 x.Cur.Key.length c2, .int .i64 x.Cur.Seq, .int .i64 x.Cur.Win.Top, .slice a3 x.Cur.Win.Bits.length c3, .int .i64 x.Old.N, .slice a4 x.Old.Key.length c4, .int .i64 x.Old.Seq, .int .i64 x.Old.Win.Top, .slice a5 x.Old.Win.Bits.length c5, .bool x.HasOld, .int .i64 x.Until, .slice a6 x.Next.length c6] ∧ Rd w 1 (.slice a1 x.Sn.length c1) x.Sn.length (x.Sn.map bV) ∧ x.Sn.length ≤ 1073741824 ∧ Rd w 1 (.slice a2 x.Cur.Key.length c2) x.Cur.Key.length (x.Cur.Key.map bV) ∧ x.Cur.Key.length ≤ 1073741824 ∧ Rd w 1 (.slice a3 x.Cur.Win.Bits.length c3) x.Cur.Win.Bits.length (x.Cur.Win.Bits.map iV) ∧ x.Cur.Win.Bits.length ≤ 1073741824 ∧ Rd w 1 (.slice a4 x.Old.Key.length c4) x.Old.Key.length (x.Old.Key.map bV) ∧ x.Old.Key.length ≤ 1073741824 ∧ Rd w 1 (.slice a5 x.Old.Win.Bits.length c5) x.Old.Win.Bits.length (x.Old.Win.Bits.map iV) ∧ x.Old.Win.Bits.length ≤ 1073741824 ∧ Rd w 1 (.slice a6 x.Next.length c6) x.Next.length (x.Next.map bV) ∧ x.Next.length ≤ 1073741824
def O_29 (w : World) (lo : Nat) (v : Value) (x : (PChan)) : Prop := ∃ (a1 : Option Addr) (c1 : Nat) (a2 : Option Addr) (c2 : Nat) (a3 : Option Addr) (c3 : Nat) (a4 : Option Addr) (c4 : Nat) (a5 : Option Addr) (c5 : Nat) (a6 : Option Addr) (c6 : Nat), v = .agg #[.int .i64 x.Role, .slice a1 x.Sn.length c1, .int .i64 x.Cur.N, .slice a2 x.Cur.Key.length c2, .int .i64 x.Cur.Seq, .int .i64 x.Cur.Win.Top, .slice a3 x.Cur.Win.Bits.length c3, .int .i64 x.Old.N, .slice a4 x.Old.Key.length c4, .int .i64 x.Old.Seq, .int .i64 x.Old.Win.Top, .slice a5 x.Old.Win.Bits.length c5, .bool x.HasOld, .int .i64 x.Until, .slice a6 x.Next.length c6] ∧ w.ownsRow lo 5 1 (.slice a1 x.Sn.length c1) x.Sn.length (x.Sn.map bV) ∧ x.Sn.length ≤ 1073741824 ∧ w.ownsRow lo 5 1 (.slice a2 x.Cur.Key.length c2) x.Cur.Key.length (x.Cur.Key.map bV) ∧ x.Cur.Key.length ≤ 1073741824 ∧ w.ownsRow lo 3 1 (.slice a3 x.Cur.Win.Bits.length c3) x.Cur.Win.Bits.length (x.Cur.Win.Bits.map iV) ∧ x.Cur.Win.Bits.length ≤ 1073741824 ∧ w.ownsRow lo 5 1 (.slice a4 x.Old.Key.length c4) x.Old.Key.length (x.Old.Key.map bV) ∧ x.Old.Key.length ≤ 1073741824 ∧ w.ownsRow lo 3 1 (.slice a5 x.Old.Win.Bits.length c5) x.Old.Win.Bits.length (x.Old.Win.Bits.map iV) ∧ x.Old.Win.Bits.length ≤ 1073741824 ∧ w.ownsRow lo 5 1 (.slice a6 x.Next.length c6) x.Next.length (x.Next.map bV) ∧ x.Next.length ≤ 1073741824 ∧ Aps [(a1, c1), (a2, c2), (a3, c3), (a4, c4), (a5, c5), (a6, c6)]
def F_laws_toChan (x_a : PChan) : (PChan) := { Role := x_a.Role, Sn := (cpB x_a.Sn), Cur := (F_laws_toEp x_a.Cur), Old := (F_laws_toEp x_a.Old), HasOld := x_a.HasOld, Until := x_a.Until, Next := (cpB x_a.Next) : PChan }
theorem C_laws_toChan (w0 : World) (v_x_a : Value) (x_a : PChan) (r_x_a : R_41 w0 v_x_a x_a)  : Fn Try.prog 25 #[v_x_a] w0 (fun v w' => Keep w0 w' ∧ O_29 w' w0.heap.size v (F_laws_toChan x_a)) := by
  obtain ⟨a1, c2, a6, c7, a11, c12, a16, c17, a21, c22, a26, c27, rfl, r3, s4, r8, s9, r13, s14, r18, s19, r23, s24, r28, s29⟩ := r_x_a
  refine fn_of (n := 30) (l := [(.agg #[(.int .i64 x_a.Role), (.slice a1 x_a.Sn.length c2), (.int .i64 x_a.Cur.N), (.slice a6 x_a.Cur.Key.length c7), (.int .i64 x_a.Cur.Seq), (.int .i64 x_a.Cur.Win.Top), (.slice a11 x_a.Cur.Win.Bits.length c12), (.int .i64 x_a.Old.N), (.slice a16 x_a.Old.Key.length c17), (.int .i64 x_a.Old.Seq), (.int .i64 x_a.Old.Win.Top), (.slice a21 x_a.Old.Win.Bits.length c22), (.bool x_a.HasOld), (.int .i64 x_a.Until), (.slice a26 x_a.Next.length c27)]), undef, undef, undef, undef, undef, undef, undef, undef, undef, undef, undef, undef, undef, undef, undef, undef, undef, undef, undef, undef, undef, undef, undef, undef, undef, undef, undef, undef, undef]) Try.func25 rfl rfl (by kernel_rfl) rfl ?_
  refine wc_seq ?_
  refine wc_region ?_
  refine wl_box (want_none rfl) [(.int .i64 x_a.Role), (.slice a1 x_a.Sn.length c2), (.int .i64 x_a.Cur.N), (.slice a6 x_a.Cur.Key.length c7), (.int .i64 x_a.Cur.Seq), (.int .i64 x_a.Cur.Win.Top), (.slice a11 x_a.Cur.Win.Bits.length c12), (.int .i64 x_a.Old.N), (.slice a16 x_a.Old.Key.length c17), (.int .i64 x_a.Old.Seq), (.int .i64 x_a.Old.Win.Top), (.slice a21 x_a.Old.Win.Bits.length c22), (.bool x_a.HasOld), (.int .i64 x_a.Until), (.slice a26 x_a.Next.length c27)] rfl rfl rfl rfl ?_
  intro g31 w1 p32 p33 k34 b35
  have m36 := (Ch.base w0).extk k34
  refine wl_alloc (want_none rfl) (.agg #[(.int .i64 0), (.slice none 0 0), (.int .i64 0), (.slice none 0 0), (.int .i64 0), (.int .i64 0), (.slice none 0 0), (.int .i64 0), (.slice none 0 0), (.int .i64 0), (.int .i64 0), (.slice none 0 0), (.bool false), (.int .i64 0), (.slice none 0 0)]) [(.int .i64 0), (.slice none 0 0), (.int .i64 0), (.slice none 0 0), (.int .i64 0), (.int .i64 0), (.slice none 0 0), (.int .i64 0), (.slice none 0 0), (.int .i64 0), (.int .i64 0), (.slice none 0 0), (.bool false), (.int .i64 0), (.slice none 0 0)] zero_29 rfl rfl rfl rfl ?_
  intro g37 w2 p38 p39 k40 b41
  have m42 := m36.extk k40
  refine wl_nil ?_
  refine wq_then ?_
  refine wc_seq ?_
  refine wc_region ?_
  refine wl_alloc (want_none rfl) (.agg #[(.int .i64 0), (.slice none 0 0), (.int .i64 0), (.slice none 0 0), (.int .i64 0), (.int .i64 0), (.slice none 0 0), (.int .i64 0), (.slice none 0 0), (.int .i64 0), (.int .i64 0), (.slice none 0 0), (.bool false), (.int .i64 0), (.slice none 0 0)]) [(.int .i64 0), (.slice none 0 0), (.int .i64 0), (.slice none 0 0), (.int .i64 0), (.int .i64 0), (.slice none 0 0), (.int .i64 0), (.slice none 0 0), (.int .i64 0), (.int .i64 0), (.slice none 0 0), (.bool false), (.int .i64 0), (.slice none 0 0)] zero_29 rfl rfl rfl rfl ?_
  intro g43 w3 p44 p45 k46 b47
  have m48 := m42.extk k46
  refine wl_nil ?_
  refine wq_then ?_
  refine wc_seq ?_
  refine wc_region ?_
  refine wl_pure (.pointer (some ⟨g31, 0, none⟩)) (want_none rfl) rfl rfl (by kernel_rfl) ?_
  have b49 := ((b35.kp k40).kp k46)
  refine wl_load1 (.int .i64 x_a.Role) (want_none rfl) rfl rfl rfl rfl isAgg_3 b49 rfl ?_
  refine wl_pure (.pointer (some ⟨g43, 0, none⟩)) (want_none rfl) rfl rfl (by kernel_rfl) ?_
  refine wl_store (.int .i64 x_a.Role) [(.int .i64 x_a.Role)] [(.int .i64 x_a.Role), (.slice none 0 0), (.int .i64 0), (.slice none 0 0), (.int .i64 0), (.int .i64 0), (.slice none 0 0), (.int .i64 0), (.slice none 0 0), (.int .i64 0), (.int .i64 0), (.slice none 0 0), (.bool false), (.int .i64 0), (.slice none 0 0)] (want_none rfl) rfl rfl rfl rfl rfl (one_cons rfl one_nil) sizeOf_3 b47 rfl rfl ?_
  intro w4 k50 b51 z52
  have m53 := m48.ext k50 (fun k hk => by subst hk; exact Nat.le_trans (Nat.le_trans k34.size k40.size) p44)
  refine wl_nil ?_
  refine wq_then ?_
  refine wc_seq ?_
  refine wc_region ?_
  refine wl_pure (.pointer (some ⟨g31, 1, none⟩)) (want_none rfl) rfl rfl (by kernel_rfl) ?_
  have b54 := (b49.ch k50 (Nat.ne_of_lt (Nat.lt_of_lt_of_le p33 (Nat.le_trans k40.size p44))))
  refine wl_load1 (.slice a1 x_a.Sn.length c2) (want_none rfl) rfl rfl rfl rfl isAgg_22 b54 rfl ?_
  refine wl_call (want_none rfl) (args := #[(.slice a1 x_a.Sn.length c2)]) rfl rfl (by kernel_rfl) (C_laws_toByteS w4 (.slice a1 x_a.Sn.length c2) x_a.Sn (show R_22 w4 (.slice a1 x_a.Sn.length c2) x_a.Sn from ⟨_, _, rfl, (r3.from0 m53), s4⟩)) ?_
  rintro _ w5 ⟨k55, ⟨a56, c57, rfl, o58, s59, ap61⟩⟩
  have m62 := m53.extk k55
  refine wl_pure (.pointer (some ⟨g43, 1, none⟩)) (want_none rfl) rfl rfl (by kernel_rfl) ?_
  have b63 := (b51.kp k55)
  refine wl_store (.slice a56 (cpB x_a.Sn).length c57) [(.slice a56 (cpB x_a.Sn).length c57)] [(.int .i64 x_a.Role), (.slice a56 (cpB x_a.Sn).length c57), (.int .i64 0), (.slice none 0 0), (.int .i64 0), (.int .i64 0), (.slice none 0 0), (.int .i64 0), (.slice none 0 0), (.int .i64 0), (.int .i64 0), (.slice none 0 0), (.bool false), (.int .i64 0), (.slice none 0 0)] (want_none rfl) rfl rfl rfl rfl rfl (one_cons rfl one_nil) sizeOf_22 b63 rfl rfl ?_
  intro w6 k64 b65 z66
  have m67 := m62.ext k64 (fun k hk => by subst hk; exact Nat.le_trans (Nat.le_trans k34.size k40.size) p44)
  refine wl_nil ?_
  refine wq_then ?_
  refine wc_seq ?_
  refine wc_region ?_
  refine wl_pure (.pointer (some ⟨g31, 2, none⟩)) (want_none rfl) rfl rfl (by kernel_rfl) ?_
  have b68 := ((b54.kp k55).ch k64 (Nat.ne_of_lt (Nat.lt_of_lt_of_le p33 (Nat.le_trans k40.size p44))))
  refine wl_loadN [(.int .i64 x_a.Cur.N), (.slice a6 x_a.Cur.Key.length c7), (.int .i64 x_a.Cur.Seq), (.int .i64 x_a.Cur.Win.Top), (.slice a11 x_a.Cur.Win.Bits.length c12)] (want_none rfl) rfl rfl rfl rfl isAgg_39 sizeOf_39 b68 rfl ?_
  refine wl_call (want_none rfl) (args := #[(.agg #[(.int .i64 x_a.Cur.N), (.slice a6 x_a.Cur.Key.length c7), (.int .i64 x_a.Cur.Seq), (.int .i64 x_a.Cur.Win.Top), (.slice a11 x_a.Cur.Win.Bits.length c12)])]) rfl rfl (by kernel_rfl) (C_laws_toEp w6 (.agg #[(.int .i64 x_a.Cur.N), (.slice a6 x_a.Cur.Key.length c7), (.int .i64 x_a.Cur.Seq), (.int .i64 x_a.Cur.Win.Top), (.slice a11 x_a.Cur.Win.Bits.length c12)]) x_a.Cur (show R_39 w6 (.agg #[(.int .i64 x_a.Cur.N), (.slice a6 x_a.Cur.Key.length c7), (.int .i64 x_a.Cur.Seq), (.int .i64 x_a.Cur.Win.Top), (.slice a11 x_a.Cur.Win.Bits.length c12)]) x_a.Cur from ⟨_, _, _, _, rfl, (r8.from0 m67), s9, (r13.from0 m67), s14⟩)) ?_
  rintro _ w7 ⟨k69, ⟨a70, c71, a75, c76, rfl, o72, s73, o77, s78, ap80⟩⟩
  have m81 := m67.extk k69
  refine wl_pure (.pointer (some ⟨g43, 2, none⟩)) (want_none rfl) rfl rfl (by kernel_rfl) ?_
  have b82 := (b65.kp k69)
  refine wl_store (.agg #[(.int .i64 ((F_laws_toEp x_a.Cur).N)), (.slice a70 ((F_laws_toEp x_a.Cur).Key).length c71), (.int .i64 ((F_laws_toEp x_a.Cur).Seq)), (.int .i64 (((F_laws_toEp x_a.Cur).Win).Top)), (.slice a75 (((F_laws_toEp x_a.Cur).Win).Bits).length c76)]) [(.int .i64 ((F_laws_toEp x_a.Cur).N)), (.slice a70 ((F_laws_toEp x_a.Cur).Key).length c71), (.int .i64 ((F_laws_toEp x_a.Cur).Seq)), (.int .i64 (((F_laws_toEp x_a.Cur).Win).Top)), (.slice a75 (((F_laws_toEp x_a.Cur).Win).Bits).length c76)] [(.int .i64 x_a.Role), (.slice a56 (cpB x_a.Sn).length c57), (.int .i64 ((F_laws_toEp x_a.Cur).N)), (.slice a70 ((F_laws_toEp x_a.Cur).Key).length c71), (.int .i64 ((F_laws_toEp x_a.Cur).Seq)), (.int .i64 (((F_laws_toEp x_a.Cur).Win).Top)), (.slice a75 (((F_laws_toEp x_a.Cur).Win).Bits).length c76), (.int .i64 0), (.slice none 0 0), (.int .i64 0), (.int .i64 0), (.slice none 0 0), (.bool false), (.int .i64 0), (.slice none 0 0)] (want_none rfl) rfl rfl rfl rfl rfl (one_cons rfl (one_cons rfl (one_cons rfl (one_cons rfl (one_cons rfl one_nil))))) sizeOf_27 b82 rfl rfl ?_
  intro w8 k83 b84 z85
  have m86 := m81.ext k83 (fun k hk => by subst hk; exact Nat.le_trans (Nat.le_trans k34.size k40.size) p44)
  refine wl_nil ?_
  refine wq_then ?_
  refine wc_seq ?_
  refine wc_region ?_
  refine wl_pure (.pointer (some ⟨g31, 7, none⟩)) (want_none rfl) rfl rfl (by kernel_rfl) ?_
  have b87 := ((b68.kp k69).ch k83 (Nat.ne_of_lt (Nat.lt_of_lt_of_le p33 (Nat.le_trans k40.size p44))))
  refine wl_loadN [(.int .i64 x_a.Old.N), (.slice a16 x_a.Old.Key.length c17), (.int .i64 x_a.Old.Seq), (.int .i64 x_a.Old.Win.Top), (.slice a21 x_a.Old.Win.Bits.length c22)] (want_none rfl) rfl rfl rfl rfl isAgg_39 sizeOf_39 b87 rfl ?_
  refine wl_call (want_none rfl) (args := #[(.agg #[(.int .i64 x_a.Old.N), (.slice a16 x_a.Old.Key.length c17), (.int .i64 x_a.Old.Seq), (.int .i64 x_a.Old.Win.Top), (.slice a21 x_a.Old.Win.Bits.length c22)])]) rfl rfl (by kernel_rfl) (C_laws_toEp w8 (.agg #[(.int .i64 x_a.Old.N), (.slice a16 x_a.Old.Key.length c17), (.int .i64 x_a.Old.Seq), (.int .i64 x_a.Old.Win.Top), (.slice a21 x_a.Old.Win.Bits.length c22)]) x_a.Old (show R_39 w8 (.agg #[(.int .i64 x_a.Old.N), (.slice a16 x_a.Old.Key.length c17), (.int .i64 x_a.Old.Seq), (.int .i64 x_a.Old.Win.Top), (.slice a21 x_a.Old.Win.Bits.length c22)]) x_a.Old from ⟨_, _, _, _, rfl, (r18.from0 m86), s19, (r23.from0 m86), s24⟩)) ?_
  rintro _ w9 ⟨k88, ⟨a89, c90, a94, c95, rfl, o91, s92, o96, s97, ap99⟩⟩
  have m100 := m86.extk k88
  refine wl_pure (.pointer (some ⟨g43, 7, none⟩)) (want_none rfl) rfl rfl (by kernel_rfl) ?_
  have b101 := (b84.kp k88)
  refine wl_store (.agg #[(.int .i64 ((F_laws_toEp x_a.Old).N)), (.slice a89 ((F_laws_toEp x_a.Old).Key).length c90), (.int .i64 ((F_laws_toEp x_a.Old).Seq)), (.int .i64 (((F_laws_toEp x_a.Old).Win).Top)), (.slice a94 (((F_laws_toEp x_a.Old).Win).Bits).length c95)]) [(.int .i64 ((F_laws_toEp x_a.Old).N)), (.slice a89 ((F_laws_toEp x_a.Old).Key).length c90), (.int .i64 ((F_laws_toEp x_a.Old).Seq)), (.int .i64 (((F_laws_toEp x_a.Old).Win).Top)), (.slice a94 (((F_laws_toEp x_a.Old).Win).Bits).length c95)] [(.int .i64 x_a.Role), (.slice a56 (cpB x_a.Sn).length c57), (.int .i64 ((F_laws_toEp x_a.Cur).N)), (.slice a70 ((F_laws_toEp x_a.Cur).Key).length c71), (.int .i64 ((F_laws_toEp x_a.Cur).Seq)), (.int .i64 (((F_laws_toEp x_a.Cur).Win).Top)), (.slice a75 (((F_laws_toEp x_a.Cur).Win).Bits).length c76), (.int .i64 ((F_laws_toEp x_a.Old).N)), (.slice a89 ((F_laws_toEp x_a.Old).Key).length c90), (.int .i64 ((F_laws_toEp x_a.Old).Seq)), (.int .i64 (((F_laws_toEp x_a.Old).Win).Top)), (.slice a94 (((F_laws_toEp x_a.Old).Win).Bits).length c95), (.bool false), (.int .i64 0), (.slice none 0 0)] (want_none rfl) rfl rfl rfl rfl rfl (one_cons rfl (one_cons rfl (one_cons rfl (one_cons rfl (one_cons rfl one_nil))))) sizeOf_27 b101 rfl rfl ?_
  intro w10 k102 b103 z104
  have m105 := m100.ext k102 (fun k hk => by subst hk; exact Nat.le_trans (Nat.le_trans k34.size k40.size) p44)
  refine wl_nil ?_
  refine wq_then ?_
  refine wc_seq ?_
  refine wc_region ?_
  refine wl_pure (.pointer (some ⟨g31, 12, none⟩)) (want_none rfl) rfl rfl (by kernel_rfl) ?_
  have b106 := ((b87.kp k88).ch k102 (Nat.ne_of_lt (Nat.lt_of_lt_of_le p33 (Nat.le_trans k40.size p44))))
  refine wl_load1 (.bool x_a.HasOld) (want_none rfl) rfl rfl rfl rfl isAgg_4 b106 rfl ?_
  refine wl_pure (.pointer (some ⟨g43, 12, none⟩)) (want_none rfl) rfl rfl (by kernel_rfl) ?_
  refine wl_store (.bool x_a.HasOld) [(.bool x_a.HasOld)] [(.int .i64 x_a.Role), (.slice a56 (cpB x_a.Sn).length c57), (.int .i64 ((F_laws_toEp x_a.Cur).N)), (.slice a70 ((F_laws_toEp x_a.Cur).Key).length c71), (.int .i64 ((F_laws_toEp x_a.Cur).Seq)), (.int .i64 (((F_laws_toEp x_a.Cur).Win).Top)), (.slice a75 (((F_laws_toEp x_a.Cur).Win).Bits).length c76), (.int .i64 ((F_laws_toEp x_a.Old).N)), (.slice a89 ((F_laws_toEp x_a.Old).Key).length c90), (.int .i64 ((F_laws_toEp x_a.Old).Seq)), (.int .i64 (((F_laws_toEp x_a.Old).Win).Top)), (.slice a94 (((F_laws_toEp x_a.Old).Win).Bits).length c95), (.bool x_a.HasOld), (.int .i64 0), (.slice none 0 0)] (want_none rfl) rfl rfl rfl rfl rfl (one_cons rfl one_nil) sizeOf_4 b103 rfl rfl ?_
  intro w11 k107 b108 z109
  have m110 := m105.ext k107 (fun k hk => by subst hk; exact Nat.le_trans (Nat.le_trans k34.size k40.size) p44)
  refine wl_nil ?_
  refine wq_then ?_
  refine wc_seq ?_
  refine wc_region ?_
  refine wl_pure (.pointer (some ⟨g31, 13, none⟩)) (want_none rfl) rfl rfl (by kernel_rfl) ?_
  have b111 := (b106.ch k107 (Nat.ne_of_lt (Nat.lt_of_lt_of_le p33 (Nat.le_trans k40.size p44))))
  refine wl_load1 (.int .i64 x_a.Until) (want_none rfl) rfl rfl rfl rfl isAgg_3 b111 rfl ?_
  refine wl_pure (.pointer (some ⟨g43, 13, none⟩)) (want_none rfl) rfl rfl (by kernel_rfl) ?_
  refine wl_store (.int .i64 x_a.Until) [(.int .i64 x_a.Until)] [(.int .i64 x_a.Role), (.slice a56 (cpB x_a.Sn).length c57), (.int .i64 ((F_laws_toEp x_a.Cur).N)), (.slice a70 ((F_laws_toEp x_a.Cur).Key).length c71), (.int .i64 ((F_laws_toEp x_a.Cur).Seq)), (.int .i64 (((F_laws_toEp x_a.Cur).Win).Top)), (.slice a75 (((F_laws_toEp x_a.Cur).Win).Bits).length c76), (.int .i64 ((F_laws_toEp x_a.Old).N)), (.slice a89 ((F_laws_toEp x_a.Old).Key).length c90), (.int .i64 ((F_laws_toEp x_a.Old).Seq)), (.int .i64 (((F_laws_toEp x_a.Old).Win).Top)), (.slice a94 (((F_laws_toEp x_a.Old).Win).Bits).length c95), (.bool x_a.HasOld), (.int .i64 x_a.Until), (.slice none 0 0)] (want_none rfl) rfl rfl rfl rfl rfl (one_cons rfl one_nil) sizeOf_3 b108 rfl rfl ?_
  intro w12 k112 b113 z114
  have m115 := m110.ext k112 (fun k hk => by subst hk; exact Nat.le_trans (Nat.le_trans k34.size k40.size) p44)
  refine wl_nil ?_
  refine wq_then ?_
  refine wc_seq ?_
  refine wc_region ?_
  refine wl_pure (.pointer (some ⟨g31, 14, none⟩)) (want_none rfl) rfl rfl (by kernel_rfl) ?_
  have b116 := (b111.ch k112 (Nat.ne_of_lt (Nat.lt_of_lt_of_le p33 (Nat.le_trans k40.size p44))))
  refine wl_load1 (.slice a26 x_a.Next.length c27) (want_none rfl) rfl rfl rfl rfl isAgg_22 b116 rfl ?_
  refine wl_call (want_none rfl) (args := #[(.slice a26 x_a.Next.length c27)]) rfl rfl (by kernel_rfl) (C_laws_toByteS w12 (.slice a26 x_a.Next.length c27) x_a.Next (show R_22 w12 (.slice a26 x_a.Next.length c27) x_a.Next from ⟨_, _, rfl, (r28.from0 m115), s29⟩)) ?_
  rintro _ w13 ⟨k117, ⟨a118, c119, rfl, o120, s121, ap123⟩⟩
  have m124 := m115.extk k117
  refine wl_pure (.pointer (some ⟨g43, 14, none⟩)) (want_none rfl) rfl rfl (by kernel_rfl) ?_
  have b125 := (b113.kp k117)
  refine wl_store (.slice a118 (cpB x_a.Next).length c119) [(.slice a118 (cpB x_a.Next).length c119)] [(.int .i64 x_a.Role), (.slice a56 (cpB x_a.Sn).length c57), (.int .i64 ((F_laws_toEp x_a.Cur).N)), (.slice a70 ((F_laws_toEp x_a.Cur).Key).length c71), (.int .i64 ((F_laws_toEp x_a.Cur).Seq)), (.int .i64 (((F_laws_toEp x_a.Cur).Win).Top)), (.slice a75 (((F_laws_toEp x_a.Cur).Win).Bits).length c76), (.int .i64 ((F_laws_toEp x_a.Old).N)), (.slice a89 ((F_laws_toEp x_a.Old).Key).length c90), (.int .i64 ((F_laws_toEp x_a.Old).Seq)), (.int .i64 (((F_laws_toEp x_a.Old).Win).Top)), (.slice a94 (((F_laws_toEp x_a.Old).Win).Bits).length c95), (.bool x_a.HasOld), (.int .i64 x_a.Until), (.slice a118 (cpB x_a.Next).length c119)] (want_none rfl) rfl rfl rfl rfl rfl (one_cons rfl one_nil) sizeOf_22 b125 rfl rfl ?_
  intro w14 k126 b127 z128
  have m129 := m124.ext k126 (fun k hk => by subst hk; exact Nat.le_trans (Nat.le_trans k34.size k40.size) p44)
  refine wl_nil ?_
  refine wq_then ?_
  refine wc_seq ?_
  refine wc_region ?_
  refine wl_loadN [(.int .i64 x_a.Role), (.slice a56 (cpB x_a.Sn).length c57), (.int .i64 ((F_laws_toEp x_a.Cur).N)), (.slice a70 ((F_laws_toEp x_a.Cur).Key).length c71), (.int .i64 ((F_laws_toEp x_a.Cur).Seq)), (.int .i64 (((F_laws_toEp x_a.Cur).Win).Top)), (.slice a75 (((F_laws_toEp x_a.Cur).Win).Bits).length c76), (.int .i64 ((F_laws_toEp x_a.Old).N)), (.slice a89 ((F_laws_toEp x_a.Old).Key).length c90), (.int .i64 ((F_laws_toEp x_a.Old).Seq)), (.int .i64 (((F_laws_toEp x_a.Old).Win).Top)), (.slice a94 (((F_laws_toEp x_a.Old).Win).Bits).length c95), (.bool x_a.HasOld), (.int .i64 x_a.Until), (.slice a118 (cpB x_a.Next).length c119)] (want_none rfl) rfl rfl rfl rfl isAgg_29 sizeOf_29 b127 rfl ?_
  have b130 := ((((((((((((b41.kp k46).ch k50 (Nat.ne_of_lt (Nat.lt_of_lt_of_le p39 (Nat.le_trans (Nat.le_refl _) p44)))).kp k55).ch k64 (Nat.ne_of_lt (Nat.lt_of_lt_of_le p39 (Nat.le_trans (Nat.le_refl _) p44)))).kp k69).ch k83 (Nat.ne_of_lt (Nat.lt_of_lt_of_le p39 (Nat.le_trans (Nat.le_refl _) p44)))).kp k88).ch k102 (Nat.ne_of_lt (Nat.lt_of_lt_of_le p39 (Nat.le_trans (Nat.le_refl _) p44)))).ch k107 (Nat.ne_of_lt (Nat.lt_of_lt_of_le p39 (Nat.le_trans (Nat.le_refl _) p44)))).ch k112 (Nat.ne_of_lt (Nat.lt_of_lt_of_le p39 (Nat.le_trans (Nat.le_refl _) p44)))).kp k117).ch k126 (Nat.ne_of_lt (Nat.lt_of_lt_of_le p39 (Nat.le_trans (Nat.le_refl _) p44))))
  refine wl_store (.agg #[(.int .i64 x_a.Role), (.slice a56 (cpB x_a.Sn).length c57), (.int .i64 ((F_laws_toEp x_a.Cur).N)), (.slice a70 ((F_laws_toEp x_a.Cur).Key).length c71), (.int .i64 ((F_laws_toEp x_a.Cur).Seq)), (.int .i64 (((F_laws_toEp x_a.Cur).Win).Top)), (.slice a75 (((F_laws_toEp x_a.Cur).Win).Bits).length c76), (.int .i64 ((F_laws_toEp x_a.Old).N)), (.slice a89 ((F_laws_toEp x_a.Old).Key).length c90), (.int .i64 ((F_laws_toEp x_a.Old).Seq)), (.int .i64 (((F_laws_toEp x_a.Old).Win).Top)), (.slice a94 (((F_laws_toEp x_a.Old).Win).Bits).length c95), (.bool x_a.HasOld), (.int .i64 x_a.Until), (.slice a118 (cpB x_a.Next).length c119)]) [(.int .i64 x_a.Role), (.slice a56 (cpB x_a.Sn).length c57), (.int .i64 ((F_laws_toEp x_a.Cur).N)), (.slice a70 ((F_laws_toEp x_a.Cur).Key).length c71), (.int .i64 ((F_laws_toEp x_a.Cur).Seq)), (.int .i64 (((F_laws_toEp x_a.Cur).Win).Top)), (.slice a75 (((F_laws_toEp x_a.Cur).Win).Bits).length c76), (.int .i64 ((F_laws_toEp x_a.Old).N)), (.slice a89 ((F_laws_toEp x_a.Old).Key).length c90), (.int .i64 ((F_laws_toEp x_a.Old).Seq)), (.int .i64 (((F_laws_toEp x_a.Old).Win).Top)), (.slice a94 (((F_laws_toEp x_a.Old).Win).Bits).length c95), (.bool x_a.HasOld), (.int .i64 x_a.Until), (.slice a118 (cpB x_a.Next).length c119)] [(.int .i64 x_a.Role), (.slice a56 (cpB x_a.Sn).length c57), (.int .i64 ((F_laws_toEp x_a.Cur).N)), (.slice a70 ((F_laws_toEp x_a.Cur).Key).length c71), (.int .i64 ((F_laws_toEp x_a.Cur).Seq)), (.int .i64 (((F_laws_toEp x_a.Cur).Win).Top)), (.slice a75 (((F_laws_toEp x_a.Cur).Win).Bits).length c76), (.int .i64 ((F_laws_toEp x_a.Old).N)), (.slice a89 ((F_laws_toEp x_a.Old).Key).length c90), (.int .i64 ((F_laws_toEp x_a.Old).Seq)), (.int .i64 (((F_laws_toEp x_a.Old).Win).Top)), (.slice a94 (((F_laws_toEp x_a.Old).Win).Bits).length c95), (.bool x_a.HasOld), (.int .i64 x_a.Until), (.slice a118 (cpB x_a.Next).length c119)] (want_none rfl) rfl rfl rfl rfl rfl (one_cons rfl (one_cons rfl (one_cons rfl (one_cons rfl (one_cons rfl (one_cons rfl (one_cons rfl (one_cons rfl (one_cons rfl (one_cons rfl (one_cons rfl (one_cons rfl (one_cons rfl (one_cons rfl (one_cons rfl one_nil))))))))))))))) sizeOf_29 b130 rfl rfl ?_
  intro w15 k131 b132 z133
  have m134 := m129.ext k131 (fun k hk => by subst hk; exact Nat.le_trans k34.size p38)
  refine wl_nil ?_
  refine wq_then ?_
  refine wc_ret ?_
  have o135 := (own_ch (own_ch (own_kp (own_ch (own_ch (own_ch (own_kp (own_ch (own_kp (own_ch o58 k64 (fun g hg hlt hk => by have h1 := (own_lt o58 g hg).1; have h2 := Nat.lt_of_lt_of_le p45 k50.size; omega)) k69) k83 (fun g hg hlt hk => by have h1 := (own_lt o58 g hg).1; have h2 := Nat.lt_of_lt_of_le p45 k50.size; omega)) k88) k102 (fun g hg hlt hk => by have h1 := (own_lt o58 g hg).1; have h2 := Nat.lt_of_lt_of_le p45 k50.size; omega)) k107 (fun g hg hlt hk => by have h1 := (own_lt o58 g hg).1; have h2 := Nat.lt_of_lt_of_le p45 k50.size; omega)) k112 (fun g hg hlt hk => by have h1 := (own_lt o58 g hg).1; have h2 := Nat.lt_of_lt_of_le p45 k50.size; omega)) k117) k126 (fun g hg hlt hk => by have h1 := (own_lt o58 g hg).1; have h2 := Nat.lt_of_lt_of_le p45 k50.size; omega)) k131 (fun g hg hlt hk => by have h1 := (own_lt o58 g hg).1; have h2 := Nat.lt_of_lt_of_le p39 (Nat.le_trans k46.size k50.size); omega))
  have o136 := (own_ch (own_ch (own_kp (own_ch (own_ch (own_ch (own_kp (own_ch o72 k83 (fun g hg hlt hk => by have h1 := (own_lt o72 g hg).1; have h2 := Nat.lt_of_lt_of_le p45 (Nat.le_trans (Nat.le_trans k50.size k55.size) k64.size); omega)) k88) k102 (fun g hg hlt hk => by have h1 := (own_lt o72 g hg).1; have h2 := Nat.lt_of_lt_of_le p45 (Nat.le_trans (Nat.le_trans k50.size k55.size) k64.size); omega)) k107 (fun g hg hlt hk => by have h1 := (own_lt o72 g hg).1; have h2 := Nat.lt_of_lt_of_le p45 (Nat.le_trans (Nat.le_trans k50.size k55.size) k64.size); omega)) k112 (fun g hg hlt hk => by have h1 := (own_lt o72 g hg).1; have h2 := Nat.lt_of_lt_of_le p45 (Nat.le_trans (Nat.le_trans k50.size k55.size) k64.size); omega)) k117) k126 (fun g hg hlt hk => by have h1 := (own_lt o72 g hg).1; have h2 := Nat.lt_of_lt_of_le p45 (Nat.le_trans (Nat.le_trans k50.size k55.size) k64.size); omega)) k131 (fun g hg hlt hk => by have h1 := (own_lt o72 g hg).1; have h2 := Nat.lt_of_lt_of_le p39 (Nat.le_trans (Nat.le_trans (Nat.le_trans k46.size k50.size) k55.size) k64.size); omega))
  have o137 := (own_ch (own_ch (own_kp (own_ch (own_ch (own_ch (own_kp (own_ch o77 k83 (fun g hg hlt hk => by have h1 := (own_lt o77 g hg).1; have h2 := Nat.lt_of_lt_of_le p45 (Nat.le_trans (Nat.le_trans k50.size k55.size) k64.size); omega)) k88) k102 (fun g hg hlt hk => by have h1 := (own_lt o77 g hg).1; have h2 := Nat.lt_of_lt_of_le p45 (Nat.le_trans (Nat.le_trans k50.size k55.size) k64.size); omega)) k107 (fun g hg hlt hk => by have h1 := (own_lt o77 g hg).1; have h2 := Nat.lt_of_lt_of_le p45 (Nat.le_trans (Nat.le_trans k50.size k55.size) k64.size); omega)) k112 (fun g hg hlt hk => by have h1 := (own_lt o77 g hg).1; have h2 := Nat.lt_of_lt_of_le p45 (Nat.le_trans (Nat.le_trans k50.size k55.size) k64.size); omega)) k117) k126 (fun g hg hlt hk => by have h1 := (own_lt o77 g hg).1; have h2 := Nat.lt_of_lt_of_le p45 (Nat.le_trans (Nat.le_trans k50.size k55.size) k64.size); omega)) k131 (fun g hg hlt hk => by have h1 := (own_lt o77 g hg).1; have h2 := Nat.lt_of_lt_of_le p39 (Nat.le_trans (Nat.le_trans (Nat.le_trans k46.size k50.size) k55.size) k64.size); omega))
  have o138 := (own_ch (own_ch (own_kp (own_ch (own_ch (own_ch o91 k102 (fun g hg hlt hk => by have h1 := (own_lt o91 g hg).1; have h2 := Nat.lt_of_lt_of_le p45 (Nat.le_trans (Nat.le_trans (Nat.le_trans (Nat.le_trans k50.size k55.size) k64.size) k69.size) k83.size); omega)) k107 (fun g hg hlt hk => by have h1 := (own_lt o91 g hg).1; have h2 := Nat.lt_of_lt_of_le p45 (Nat.le_trans (Nat.le_trans (Nat.le_trans (Nat.le_trans k50.size k55.size) k64.size) k69.size) k83.size); omega)) k112 (fun g hg hlt hk => by have h1 := (own_lt o91 g hg).1; have h2 := Nat.lt_of_lt_of_le p45 (Nat.le_trans (Nat.le_trans (Nat.le_trans (Nat.le_trans k50.size k55.size) k64.size) k69.size) k83.size); omega)) k117) k126 (fun g hg hlt hk => by have h1 := (own_lt o91 g hg).1; have h2 := Nat.lt_of_lt_of_le p45 (Nat.le_trans (Nat.le_trans (Nat.le_trans (Nat.le_trans k50.size k55.size) k64.size) k69.size) k83.size); omega)) k131 (fun g hg hlt hk => by have h1 := (own_lt o91 g hg).1; have h2 := Nat.lt_of_lt_of_le p39 (Nat.le_trans (Nat.le_trans (Nat.le_trans (Nat.le_trans (Nat.le_trans k46.size k50.size) k55.size) k64.size) k69.size) k83.size); omega))
  have o139 := (own_ch (own_ch (own_kp (own_ch (own_ch (own_ch o96 k102 (fun g hg hlt hk => by have h1 := (own_lt o96 g hg).1; have h2 := Nat.lt_of_lt_of_le p45 (Nat.le_trans (Nat.le_trans (Nat.le_trans (Nat.le_trans k50.size k55.size) k64.size) k69.size) k83.size); omega)) k107 (fun g hg hlt hk => by have h1 := (own_lt o96 g hg).1; have h2 := Nat.lt_of_lt_of_le p45 (Nat.le_trans (Nat.le_trans (Nat.le_trans (Nat.le_trans k50.size k55.size) k64.size) k69.size) k83.size); omega)) k112 (fun g hg hlt hk => by have h1 := (own_lt o96 g hg).1; have h2 := Nat.lt_of_lt_of_le p45 (Nat.le_trans (Nat.le_trans (Nat.le_trans (Nat.le_trans k50.size k55.size) k64.size) k69.size) k83.size); omega)) k117) k126 (fun g hg hlt hk => by have h1 := (own_lt o96 g hg).1; have h2 := Nat.lt_of_lt_of_le p45 (Nat.le_trans (Nat.le_trans (Nat.le_trans (Nat.le_trans k50.size k55.size) k64.size) k69.size) k83.size); omega)) k131 (fun g hg hlt hk => by have h1 := (own_lt o96 g hg).1; have h2 := Nat.lt_of_lt_of_le p39 (Nat.le_trans (Nat.le_trans (Nat.le_trans (Nat.le_trans (Nat.le_trans k46.size k50.size) k55.size) k64.size) k69.size) k83.size); omega))
  have o140 := (own_ch (own_ch o120 k126 (fun g hg hlt hk => by have h1 := (own_lt o120 g hg).1; have h2 := Nat.lt_of_lt_of_le p45 (Nat.le_trans (Nat.le_trans (Nat.le_trans (Nat.le_trans (Nat.le_trans (Nat.le_trans (Nat.le_trans (Nat.le_trans k50.size k55.size) k64.size) k69.size) k83.size) k88.size) k102.size) k107.size) k112.size); omega)) k131 (fun g hg hlt hk => by have h1 := (own_lt o120 g hg).1; have h2 := Nat.lt_of_lt_of_le p39 (Nat.le_trans (Nat.le_trans (Nat.le_trans (Nat.le_trans (Nat.le_trans (Nat.le_trans (Nat.le_trans (Nat.le_trans (Nat.le_trans k46.size k50.size) k55.size) k64.size) k69.size) k83.size) k88.size) k102.size) k107.size) k112.size); omega))
  refine ret_1 (.inl rfl) (.agg #[(.int .i64 x_a.Role), (.slice a56 (cpB x_a.Sn).length c57), (.int .i64 ((F_laws_toEp x_a.Cur).N)), (.slice a70 ((F_laws_toEp x_a.Cur).Key).length c71), (.int .i64 ((F_laws_toEp x_a.Cur).Seq)), (.int .i64 (((F_laws_toEp x_a.Cur).Win).Top)), (.slice a75 (((F_laws_toEp x_a.Cur).Win).Bits).length c76), (.int .i64 ((F_laws_toEp x_a.Old).N)), (.slice a89 ((F_laws_toEp x_a.Old).Key).length c90), (.int .i64 ((F_laws_toEp x_a.Old).Seq)), (.int .i64 (((F_laws_toEp x_a.Old).Win).Top)), (.slice a94 (((F_laws_toEp x_a.Old).Win).Bits).length c95), (.bool x_a.HasOld), (.int .i64 x_a.Until), (.slice a118 (cpB x_a.Next).length c119)]) rfl (rv_c [(.int .i64 x_a.Role), (.slice a56 (cpB x_a.Sn).length c57), (.int .i64 ((F_laws_toEp x_a.Cur).N)), (.slice a70 ((F_laws_toEp x_a.Cur).Key).length c71), (.int .i64 ((F_laws_toEp x_a.Cur).Seq)), (.int .i64 (((F_laws_toEp x_a.Cur).Win).Top)), (.slice a75 (((F_laws_toEp x_a.Cur).Win).Bits).length c76), (.int .i64 ((F_laws_toEp x_a.Old).N)), (.slice a89 ((F_laws_toEp x_a.Old).Key).length c90), (.int .i64 ((F_laws_toEp x_a.Old).Seq)), (.int .i64 (((F_laws_toEp x_a.Old).Win).Top)), (.slice a94 (((F_laws_toEp x_a.Old).Win).Bits).length c95), (.bool x_a.HasOld), (.int .i64 x_a.Until), (.slice a118 (cpB x_a.Next).length c119)] rfl b132 isAgg_29 sizeOf_29) ?_
  refine ⟨m134.keep0, ?_⟩
  have hF141 : F_laws_toChan x_a = { Role := x_a.Role, Sn := (cpB x_a.Sn), Cur := (F_laws_toEp x_a.Cur), Old := (F_laws_toEp x_a.Old), HasOld := x_a.HasOld, Until := x_a.Until, Next := (cpB x_a.Next) : PChan } := by rfl
  rw [hF141]
  exact ⟨_, _, _, _, _, _, _, _, _, _, _, _, rfl, (own_lo o135 (Nat.le_trans (Nat.le_trans (Nat.le_trans k34.size k40.size) k46.size) k50.size)), s59, (own_lo o136 (Nat.le_trans (Nat.le_trans (Nat.le_trans (Nat.le_trans (Nat.le_trans k34.size k40.size) k46.size) k50.size) k55.size) k64.size)), s73, (own_lo o137 (Nat.le_trans (Nat.le_trans (Nat.le_trans (Nat.le_trans (Nat.le_trans k34.size k40.size) k46.size) k50.size) k55.size) k64.size)), s78, (own_lo o138 (Nat.le_trans (Nat.le_trans (Nat.le_trans (Nat.le_trans (Nat.le_trans (Nat.le_trans (Nat.le_trans k34.size k40.size) k46.size) k50.size) k55.size) k64.size) k69.size) k83.size)), s92, (own_lo o139 (Nat.le_trans (Nat.le_trans (Nat.le_trans (Nat.le_trans (Nat.le_trans (Nat.le_trans (Nat.le_trans k34.size k40.size) k46.size) k50.size) k55.size) k64.size) k69.size) k83.size)), s97, (own_lo o140 (Nat.le_trans (Nat.le_trans (Nat.le_trans (Nat.le_trans (Nat.le_trans (Nat.le_trans (Nat.le_trans (Nat.le_trans (Nat.le_trans (Nat.le_trans (Nat.le_trans k34.size k40.size) k46.size) k50.size) k55.size) k64.size) k69.size) k83.size) k88.size) k102.size) k107.size) k112.size)), s121, ⟨⟨(Ap.lt o58 o72 k64.size), ⟨(Ap.lt o58 o77 k64.size), ⟨(Ap.lt o58 o91 (Nat.le_trans (Nat.le_trans k64.size k69.size) k83.size)), ⟨(Ap.lt o58 o96 (Nat.le_trans (Nat.le_trans k64.size k69.size) k83.size)), ⟨(Ap.lt o58 o120 (Nat.le_trans (Nat.le_trans (Nat.le_trans (Nat.le_trans (Nat.le_trans (Nat.le_trans k64.size k69.size) k83.size) k88.size) k102.size) k107.size) k112.size)), trivial⟩⟩⟩⟩⟩, ⟨⟨(ap80.1.1), ⟨(Ap.lt o72 o91 k83.size), ⟨(Ap.lt o72 o96 k83.size), ⟨(Ap.lt o72 o120 (Nat.le_trans (Nat.le_trans (Nat.le_trans (Nat.le_trans k83.size k88.size) k102.size) k107.size) k112.size)), trivial⟩⟩⟩⟩, ⟨⟨(Ap.lt o77 o91 k83.size), ⟨(Ap.lt o77 o96 k83.size), ⟨(Ap.lt o77 o120 (Nat.le_trans (Nat.le_trans (Nat.le_trans (Nat.le_trans k83.size k88.size) k102.size) k107.size) k112.size)), trivial⟩⟩⟩, ⟨⟨(ap99.1.1), ⟨(Ap.lt o91 o120 (Nat.le_trans (Nat.le_trans k102.size k107.size) k112.size)), trivial⟩⟩, ⟨⟨(Ap.lt o96 o120 (Nat.le_trans (Nat.le_trans k102.size k107.size) k112.size)), trivial⟩, ⟨trivial, trivial⟩⟩⟩⟩⟩⟩⟩

def O_4 (w : World) (lo : Nat) (v : Value) (x : (Bool)) : Prop := v = .bool x
def F_spec_l1In (x_x : Int) (x_least : Int) (x_most : Int) : (Bool) := bif (decide (x_least ≤ x_x)) then (decide (x_x ≤ x_most)) else (false)
theorem C_spec_l1In (w0 : World) (x_x : Int) (x_least : Int) (x_most : Int)  : Fn Try.prog 65 #[(.int .i64 x_x), (.int .i64 x_least), (.int .i64 x_most)] w0 (fun v w' => Keep w0 w' ∧ O_4 w' w0.heap.size v (F_spec_l1In x_x x_least x_most)) := by
  refine fn_of (n := 15) (l := [(.int .i64 x_x), (.int .i64 x_least), (.int .i64 x_most), undef, undef, undef, undef, undef, undef, undef, undef, undef, undef, undef, undef]) Try.func65 rfl rfl (by kernel_rfl) rfl ?_
  refine wc_seq ?_
  refine wc_region ?_
  refine wl_mv (.bool false) (want_none rfl) rfl rfl (.inr rfl) rfl ?_
  refine wl_nil ?_
  refine wq_then ?_
  refine wc_seq ?_
  refine wc_region ?_
  refine wl_mv (.int .i64 x_x) (want_none rfl) rfl rfl (.inl rfl) rfl ?_
  refine wl_mv (.int .i64 x_least) (want_none rfl) rfl rfl (.inl rfl) rfl ?_
  refine wl_pure (.bool (decide (x_least ≤ x_x))) (want_none rfl) rfl rfl (by kernel_rfl) ?_
  refine wl_mv (.bool (decide (x_least ≤ x_x))) (want_none rfl) rfl rfl (.inl rfl) rfl ?_
  rcases Bool.eq_false_or_eq_true (decide (x_least ≤ x_x)) with h1 | h1
  · have q2 := of_decide_eq_true h1
    refine wl_mv (.int .i64 x_x) (want_some rfl rfl rfl (congrArg Value.bool h1)) rfl rfl (.inl rfl) rfl ?_
    refine wl_mv (.int .i64 x_most) (want_some rfl rfl rfl (congrArg Value.bool h1)) rfl rfl (.inl rfl) rfl ?_
    refine wl_pure (.bool (decide (x_x ≤ x_most))) (want_some rfl rfl rfl (congrArg Value.bool h1)) rfl rfl (by kernel_rfl) ?_
    refine wl_pick_t (.bool (decide (x_x ≤ x_most))) (want_none rfl) rfl rfl rfl (congrArg Value.bool h1) rfl ?_
    refine wl_mv (.bool (decide (x_x ≤ x_most))) (want_none rfl) rfl rfl (.inr rfl) rfl ?_
    refine wl_nil ?_
    refine wq_then ?_
    refine wc_ret ?_
    refine ret_1 (.inl rfl) (.bool (decide (x_x ≤ x_most))) rfl rfl ?_
    refine ⟨Ch.refl _ _, ?_⟩
    have hF3 : F_spec_l1In x_x x_least x_most = decide (x_x ≤ x_most) := by simp only [F_spec_l1In, h1, cond_true, cond_false]
    rw [hF3]
    exact rfl
  · have q4 := of_decide_eq_false h1
    refine wl_skip rfl rfl rfl (congrArg Value.bool h1) rfl rfl rfl ?_
    refine wl_skip rfl rfl rfl (congrArg Value.bool h1) rfl rfl rfl ?_
    refine wl_skip rfl rfl rfl (congrArg Value.bool h1) rfl rfl rfl ?_
    refine wl_pick_f (.bool false) (want_none rfl) rfl rfl rfl (congrArg Value.bool h1) rfl ?_
    refine wl_mv (.bool false) (want_none rfl) rfl rfl (.inr rfl) rfl ?_
    refine wl_nil ?_
    refine wq_then ?_
    refine wc_ret ?_
    refine ret_1 (.inl rfl) (.bool false) rfl rfl ?_
    refine ⟨Ch.refl _ _, ?_⟩
    have hF5 : F_spec_l1In x_x x_least x_most = false := by simp only [F_spec_l1In, h1, cond_true, cond_false]
    rw [hF5]
    exact rfl
theorem spec_l1In_t {n a b : Int} (h : F_spec_l1In n a b = true) : a ≤ n ∧ n ≤ b := by
  unfold F_spec_l1In at h
  by_cases h1 : a ≤ n <;> simp [h1] at h
  exact ⟨h1, h⟩
theorem spec_l1In_f {n a b : Int} (h : F_spec_l1In n a b = false) : n < a ∨ b < n := by
  unfold F_spec_l1In at h
  by_cases h1 : a ≤ n <;> simp [h1] at h <;> omega

def R_25 (w : World) (v : Value) (x : (PWin)) : Prop := ∃ (a1 : Option Addr) (c1 : Nat), v = .agg #[.int .i64 x.Top, .slice a1 x.Bits.length c1] ∧ Rd w 1 (.slice a1 x.Bits.length c1) x.Bits.length (x.Bits.map iV) ∧ x.Bits.length ≤ 1073741824
def F_spec_l8Bit (x_w : PWin) (x_n : Int) : (Bool) := decide ((((x_w.Bits.getD (((x_n % 1024) / 32)).toNat 0) / (2 : Int) ^ (((x_n % 1024) % 32)).toNat) % 2) = 1)
theorem C_spec_l8Bit (w0 : World) (v_x_w : Value) (x_w : PWin) (r_x_w : R_25 w0 v_x_w x_w) (x_n : Int) (pre0 : x_w.Bits.length = 32) (pre1 : 0 ≤ x_n) : Fn Try.prog 123 #[v_x_w, (.int .i64 x_n)] w0 (fun v w' => Keep w0 w' ∧ O_4 w' w0.heap.size v (F_spec_l8Bit x_w x_n)) := by
  obtain ⟨a1, c2, rfl, r3, s4⟩ := r_x_w
  refine fn_of (n := 19) (l := [(.agg #[(.int .i64 x_w.Top), (.slice a1 x_w.Bits.length c2)]), (.int .i64 x_n), undef, undef, undef, undef, undef, undef, undef, undef, undef, undef, undef, undef, undef, undef, undef, undef, undef]) Try.func123 rfl rfl (by kernel_rfl) rfl ?_
  refine wc_seq ?_
  refine wc_region ?_
  refine wl_box (want_none rfl) [(.int .i64 x_w.Top), (.slice a1 x_w.Bits.length c2)] rfl rfl rfl rfl ?_
  intro g6 w1 p7 p8 k9 b10
  have m11 := (Ch.base w0).extk k9
  refine wl_mv (.bool false) (want_none rfl) rfl rfl (.inr rfl) rfl ?_
  refine wl_nil ?_
  refine wq_then ?_
  refine wc_seq ?_
  refine wc_region ?_
  refine wl_mv (.int .i64 x_n) (want_none rfl) rfl rfl (.inl rfl) rfl ?_
  refine wl_rem x_n 1024 (want_none rfl) rfl rfl (by kernel_rfl) (by first | omega | assumption) ?_
  refine wl_mv (.int .i64 (x_n % 1024)) (want_none rfl) rfl rfl (.inr rfl) rfl ?_
  refine wl_nil ?_
  refine wq_then ?_
  refine wc_seq ?_
  refine wc_region ?_
  refine wl_pure (.pointer (some ⟨g6, 1, none⟩)) (want_none rfl) rfl rfl (by kernel_rfl) ?_
  refine wl_load1 (.slice a1 x_w.Bits.length c2) (want_none rfl) rfl rfl rfl rfl isAgg_23 b10 rfl ?_
  refine wl_mv (.int .i64 (x_n % 1024)) (want_none rfl) rfl rfl (.inl rfl) rfl ?_
  refine wl_quo (x_n % 1024) 32 (want_none rfl) rfl rfl (by kernel_rfl) (by omega) (by omega) (by omega) ?_
  refine wl_index (want_none rfl) ((x_n % 1024) / 32) rfl rfl rfl slTy_23 rfl rfl (r3.from0 m11) (by first | omega | (simp only [List.length_cons, List.length_nil, List.length_replicate, List.length_append, List.length_take, List.length_set, List.length_map]; omega)) (by first | omega | (simp only [List.length_cons, List.length_nil, List.length_replicate, List.length_append, List.length_take, List.length_set, List.length_map]; omega)) ?_
  refine wl_loadE (iV (x_w.Bits.getD (((x_n % 1024) / 32)).toNat 0)) (want_none rfl) rfl rfl rfl rfl isAgg_3 (r3.from0 m11) (iget (by simp) (by first | omega | (simp only [List.length_cons, List.length_nil, List.length_replicate, List.length_append, List.length_take, List.length_set, List.length_map]; omega))) ?_
  refine wl_mv (.int .i64 (x_n % 1024)) (want_none rfl) rfl rfl (.inl rfl) rfl ?_
  refine wl_rem (x_n % 1024) 32 (want_none rfl) rfl rfl (by kernel_rfl) (by first | omega | assumption) ?_
  refine wl_shr (x_w.Bits.getD (((x_n % 1024) / 32)).toNat 0) ((x_n % 1024) % 32) (want_none rfl) rfl rfl rfl rfl rfl (by omega) (by omega) ?_
  refine wl_and ((x_w.Bits.getD (((x_n % 1024) / 32)).toNat 0) / (2 : Int) ^ (((x_n % 1024) % 32)).toNat) 1 2 1 (want_none rfl) rfl rfl (by decide) (by decide) (by decide) (by kernel_rfl) ?_
  refine wl_pure (.bool (decide ((((x_w.Bits.getD (((x_n % 1024) / 32)).toNat 0) / (2 : Int) ^ (((x_n % 1024) % 32)).toNat) % 2) = 1))) (want_none rfl) rfl rfl (by kernel_rfl) ?_
  refine wl_mv (.bool (decide ((((x_w.Bits.getD (((x_n % 1024) / 32)).toNat 0) / (2 : Int) ^ (((x_n % 1024) % 32)).toNat) % 2) = 1))) (want_none rfl) rfl rfl (.inr rfl) rfl ?_
  refine wl_nil ?_
  refine wq_then ?_
  refine wc_ret ?_
  refine ret_1 (.inl rfl) (.bool (decide ((((x_w.Bits.getD (((x_n % 1024) / 32)).toNat 0) / (2 : Int) ^ (((x_n % 1024) % 32)).toNat) % 2) = 1))) rfl rfl ?_
  refine ⟨m11.keep0, ?_⟩
  have hF12 : F_spec_l8Bit x_w x_n = decide ((((x_w.Bits.getD (((x_n % 1024) / 32)).toNat 0) / (2 : Int) ^ (((x_n % 1024) % 32)).toNat) % 2) = 1) := by rfl
  rw [hF12]
  exact rfl

def sWin (w : PWin) : Bool := bif (decide ((w.Bits.length : Int) = 32)) then (bif F_spec_l1In w.Top (-1) 281474976710655 then (bif allW w.Bits then (bif decide (0 ≤ w.Top) && !(F_spec_l8Bit w w.Top) then false else noneIn (F_spec_l8Bit w) (w.Top + 1) 1024) else false) else false) else false
theorem C_spec_WinOk (w0 : World) (v_x_w : Value) (x_w : PWin) (r_x_w : R_25 w0 v_x_w x_w)  : Fn Try.prog 109 #[v_x_w] w0 (fun v w' => Keep w0 w' ∧ O_4 w' w0.heap.size v (sWin x_w)) := by
  obtain ⟨a1, c2, rfl, r3, s4⟩ := r_x_w
  refine fn_of (n := 46) (l := [(.agg #[(.int .i64 x_w.Top), (.slice a1 x_w.Bits.length c2)]), undef, undef, undef, undef, undef, undef, undef, undef, undef, undef, undef, undef, undef, undef, undef, undef, undef, undef, undef, undef, undef, undef, undef, undef, undef, undef, undef, undef, undef, undef, undef, undef, undef, undef, undef, undef, undef, undef, undef, undef, undef, undef, undef, undef, undef]) Try.func109 rfl rfl (by kernel_rfl) rfl ?_
  refine wc_seq ?_
  refine wc_region ?_
  refine wl_box (want_none rfl) [(.int .i64 x_w.Top), (.slice a1 x_w.Bits.length c2)] rfl rfl rfl rfl ?_
  intro g6 w1 p7 p8 k9 b10
  have m11 := (Ch.base w0).extk k9
  refine wl_mv (.bool false) (want_none rfl) rfl rfl (.inr rfl) rfl ?_
  refine wl_nil ?_
  refine wq_then ?_
  refine wc_seq ?_
  refine wc_seq ?_
  refine wc_region ?_
  refine wl_pure (.pointer (some ⟨g6, 1, none⟩)) (want_none rfl) rfl rfl (by kernel_rfl) ?_
  refine wl_load1 (.slice a1 x_w.Bits.length c2) (want_none rfl) rfl rfl rfl rfl isAgg_23 b10 rfl ?_
  refine wl_len (want_none rfl) rfl rfl rfl slTy_23 rfl (r3.from0 m11) ?_
  refine wl_pure (.bool (!(decide ((x_w.Bits.length : Int) = 32)))) (want_none rfl) rfl rfl (by kernel_rfl) ?_
  refine wl_mv (.bool (!(decide ((x_w.Bits.length : Int) = 32)))) (want_none rfl) rfl rfl (.inl rfl) rfl ?_
  rcases Bool.eq_false_or_eq_true (decide ((x_w.Bits.length : Int) = 32)) with h12 | h12
  · have q13 := of_decide_eq_true h12
    refine wl_pure (.pointer (some ⟨g6, 0, none⟩)) (want_some rfl rfl rfl (congrArg (fun b => Value.bool (!b)) h12)) rfl rfl (by kernel_rfl) ?_
    refine wl_load1 (.int .i64 x_w.Top) (want_some rfl rfl rfl (congrArg (fun b => Value.bool (!b)) h12)) rfl rfl rfl rfl isAgg_3 b10 rfl ?_
    refine wl_call (want_some rfl rfl rfl (congrArg (fun b => Value.bool (!b)) h12)) (args := #[(.int .i64 x_w.Top), (.int .i64 (-1)), (.int .i64 281474976710655)]) rfl rfl (by kernel_rfl) (C_spec_l1In w1 x_w.Top (-1) 281474976710655) ?_
    rintro _ w2 ⟨k14, rfl⟩
    have m15 := m11.extk k14
    refine wl_pure (.bool (!(F_spec_l1In x_w.Top (-1) 281474976710655))) (want_some rfl rfl rfl (congrArg (fun b => Value.bool (!b)) h12)) rfl rfl (by kernel_rfl) ?_
    refine wl_pick_f (.bool (!(F_spec_l1In x_w.Top (-1) 281474976710655))) (want_none rfl) rfl rfl rfl (congrArg (fun b => Value.bool (!b)) h12) rfl ?_
    refine wl_nil ?_
    refine wq_then ?_
    rcases Bool.eq_false_or_eq_true (F_spec_l1In x_w.Top (-1) 281474976710655) with h16 | h16
    · have q17 := spec_l1In_t h16
      refine wc_false (congrArg (fun b => Value.bool (!b)) h16) ?_
      refine wc_skip ?_
      refine wq_then ?_
      refine wc_seq ?_
      refine wc_seq ?_
      refine wc_region ?_
      refine wl_mv (.int .i64 0) (want_none rfl) rfl rfl (.inr rfl) rfl ?_
      refine wl_nil ?_
      refine wq_then ?_
      refine wc_block ?_
      refine wc_norm [(.agg #[(.int .i64 x_w.Top), (.slice a1 x_w.Bits.length c2)]), (.pointer (some ⟨g6, 0, none⟩)), (.bool false), (.int .i64 0), undef, (.pointer (some ⟨g6, 1, none⟩)), (.slice a1 x_w.Bits.length c2), (.int .i64 (x_w.Bits.length : Int)), (.bool (!(decide ((x_w.Bits.length : Int) = 32)))), (.bool (!(decide ((x_w.Bits.length : Int) = 32)))), (.pointer (some ⟨g6, 0, none⟩)), (.int .i64 x_w.Top), (.bool (F_spec_l1In x_w.Top (-1) 281474976710655)), (.bool (!(F_spec_l1In x_w.Top (-1) 281474976710655))), (.bool (!(F_spec_l1In x_w.Top (-1) 281474976710655))), undef, undef, undef, undef, undef, undef, undef, undef, undef, undef, undef, undef, undef, undef, undef, undef, undef, undef, undef, undef, undef, undef, undef, undef, undef, undef, undef, undef, undef, undef, undef] rfl ⟨rfl, rfl, rfl, rfl, rfl, rfl, rfl, rfl, rfl, rfl, rfl, rfl, rfl, rfl, rfl, rfl, rfl, rfl, rfl, rfl, rfl, rfl, rfl, rfl, rfl, rfl, rfl, rfl, rfl, rfl, rfl, rfl, rfl, rfl, rfl, rfl, rfl, rfl, rfl, rfl, rfl, rfl, rfl, rfl, rfl, rfl, trivial⟩ ?_
      refine wc_loop (fun e' w' => ∃ (i : Nat) (u2x u15x u16x u17x u18x u19x u20x u21x u22x u23x u24x u25x : Value), e' = lst [(.agg #[(.int .i64 x_w.Top), (.slice a1 x_w.Bits.length c2)]), (.pointer (some ⟨g6, 0, none⟩)), u2x, (.int .i64 ((i : Nat) : Int)), undef, (.pointer (some ⟨g6, 1, none⟩)), (.slice a1 x_w.Bits.length c2), (.int .i64 (x_w.Bits.length : Int)), (.bool (!(decide ((x_w.Bits.length : Int) = 32)))), (.bool (!(decide ((x_w.Bits.length : Int) = 32)))), (.pointer (some ⟨g6, 0, none⟩)), (.int .i64 x_w.Top), (.bool (F_spec_l1In x_w.Top (-1) 281474976710655)), (.bool (!(F_spec_l1In x_w.Top (-1) 281474976710655))), (.bool (!(F_spec_l1In x_w.Top (-1) 281474976710655))), u15x, u16x, u17x, u18x, u19x, u20x, u21x, u22x, u23x, u24x, u25x, undef, undef, undef, undef, undef, undef, undef, undef, undef, undef, undef, undef, undef, undef, undef, undef, undef, undef, undef, undef] ∧ Ch (fun k => w0.heap.size ≤ k) w0 w' ∧ Ch (fun k => w2.heap.size ≤ k) w2 w' ∧ i ≤ 32 ∧ allW (x_w.Bits.take i) = true) (fun e' _ => (32 - (intOf (e' 3))).toNat) ?_ ?_
      · exact ⟨0, (.bool false), undef, undef, undef, undef, undef, undef, undef, undef, undef, undef, undef, (congrArg (fun (x3z : Value) => lst [(.agg #[(.int .i64 x_w.Top), (.slice a1 x_w.Bits.length c2)]), (.pointer (some ⟨g6, 0, none⟩)), (.bool false), x3z, undef, (.pointer (some ⟨g6, 1, none⟩)), (.slice a1 x_w.Bits.length c2), (.int .i64 (x_w.Bits.length : Int)), (.bool (!(decide ((x_w.Bits.length : Int) = 32)))), (.bool (!(decide ((x_w.Bits.length : Int) = 32)))), (.pointer (some ⟨g6, 0, none⟩)), (.int .i64 x_w.Top), (.bool (F_spec_l1In x_w.Top (-1) 281474976710655)), (.bool (!(F_spec_l1In x_w.Top (-1) 281474976710655))), (.bool (!(F_spec_l1In x_w.Top (-1) 281474976710655))), undef, undef, undef, undef, undef, undef, undef, undef, undef, undef, undef, undef, undef, undef, undef, undef, undef, undef, undef, undef, undef, undef, undef, undef, undef, undef, undef, undef, undef, undef, undef]) (congrArg (Value.int .i64) (show (0 : Int) = ((0 : Nat) : Int) by omega))), m15, (Ch.refl (fun k => w2.heap.size ≤ k) w2), (by omega), (by first | rfl | exact allW_next (by assumption) (by omega) (by assumption))⟩
      · rintro _ w3 ⟨i, u2x, u15x, u16x, u17x, u18x, u19x, u20x, u21x, u22x, u23x, u24x, u25x, rfl, m18, k19, i20, i21⟩
        refine wc_seq ?_
        refine wc_seq ?_
        refine wc_region ?_
        refine wl_mv (.int .i64 ((i : Nat) : Int)) (want_none rfl) rfl rfl (.inl rfl) rfl ?_
        refine wl_pure (.bool (decide (((i : Nat) : Int) < 32))) (want_none rfl) rfl rfl (by kernel_rfl) ?_
        refine wl_nil ?_
        refine wq_then ?_
        rcases Bool.eq_false_or_eq_true (decide (((i : Nat) : Int) < 32)) with h22 | h22
        · have q23 := of_decide_eq_true h22
          refine wc_true (congrArg Value.bool h22) ?_
          refine wc_skip ?_
          refine wq_then ?_
          refine wc_seq ?_
          refine wc_block ?_
          refine wc_seq ?_
          refine wc_region ?_
          refine wl_pure (.pointer (some ⟨g6, 1, none⟩)) (want_none rfl) rfl rfl (by kernel_rfl) ?_
          have b24 := ((b10.kp k14).ch k19 (Nat.not_le.2 (Nat.lt_of_lt_of_le p8 k14.size)))
          refine wl_load1 (.slice a1 x_w.Bits.length c2) (want_none rfl) rfl rfl rfl rfl isAgg_23 b24 rfl ?_
          refine wl_mv (.int .i64 ((i : Nat) : Int)) (want_none rfl) rfl rfl (.inl rfl) rfl ?_
          refine wl_index (want_none rfl) ((i : Nat) : Int) rfl rfl rfl slTy_23 rfl rfl (r3.from0 m18) (by first | omega | (simp only [List.length_cons, List.length_nil, List.length_replicate, List.length_append, List.length_take, List.length_set, List.length_map]; omega)) (by first | omega | (simp only [List.length_cons, List.length_nil, List.length_replicate, List.length_append, List.length_take, List.length_set, List.length_map]; omega)) ?_
          refine wl_loadE (iV (x_w.Bits.getD i 0)) (want_none rfl) rfl rfl rfl rfl isAgg_3 (r3.from0 m18) (iget (by simp) (by first | omega | (simp only [List.length_cons, List.length_nil, List.length_replicate, List.length_append, List.length_take, List.length_set, List.length_map]; omega))) ?_
          refine wl_call (want_none rfl) (args := #[(.int .i64 (x_w.Bits.getD i 0)), (.int .i64 0), (.int .i64 4294967295)]) rfl rfl (by kernel_rfl) (C_spec_l1In w3 (x_w.Bits.getD i 0) 0 4294967295) ?_
          rintro _ w4 ⟨k25, rfl⟩
          have m26 := m18.extk k25
          refine wl_pure (.bool (!(F_spec_l1In (x_w.Bits.getD i 0) 0 4294967295))) (want_none rfl) rfl rfl (by kernel_rfl) ?_
          refine wl_nil ?_
          refine wq_then ?_
          rcases Bool.eq_false_or_eq_true (F_spec_l1In (x_w.Bits.getD i 0) 0 4294967295) with h27 | h27
          · have q28 := spec_l1In_t h27
            refine wc_false (congrArg (fun b => Value.bool (!b)) h27) ?_
            refine wc_skip ?_
            refine wq_blk_normal ?_
            refine wq_then ?_
            refine wc_region ?_
            refine wl_mv (.int .i64 ((i : Nat) : Int)) (want_none rfl) rfl rfl (.inl rfl) rfl ?_
            refine wl_arith (((i : Nat) : Int) + 1) (want_none rfl) rfl rfl (by kernel_rfl) (by omega) (by omega) ?_
            refine wl_mv (.int .i64 (((i : Nat) : Int) + 1)) (want_none rfl) rfl rfl (.inr rfl) rfl ?_
            refine wl_nil ?_
            exact wq_loopN (w0 := w3) [(.agg #[(.int .i64 x_w.Top), (.slice a1 x_w.Bits.length c2)]), (.pointer (some ⟨g6, 0, none⟩)), u2x, (.int .i64 (((i + 1) : Nat) : Int)), undef, (.pointer (some ⟨g6, 1, none⟩)), (.slice a1 x_w.Bits.length c2), (.int .i64 (x_w.Bits.length : Int)), (.bool (!(decide ((x_w.Bits.length : Int) = 32)))), (.bool (!(decide ((x_w.Bits.length : Int) = 32)))), (.pointer (some ⟨g6, 0, none⟩)), (.int .i64 x_w.Top), (.bool (F_spec_l1In x_w.Top (-1) 281474976710655)), (.bool (!(F_spec_l1In x_w.Top (-1) 281474976710655))), (.bool (!(F_spec_l1In x_w.Top (-1) 281474976710655))), (.int .i64 ((i : Nat) : Int)), (.bool (decide (((i : Nat) : Int) < 32))), (.int .i64 ((i : Nat) : Int)), (.int .i64 (((i : Nat) : Int) + 1)), (.pointer (some ⟨g6, 1, none⟩)), (.slice a1 x_w.Bits.length c2), (.int .i64 ((i : Nat) : Int)), (.pointer (some (elA (.slice a1 x_w.Bits.length c2) ((((i : Nat) : Int)).toNat * 1)))), (.int .i64 (x_w.Bits.getD i 0)), (.bool (F_spec_l1In (x_w.Bits.getD i 0) 0 4294967295)), (.bool (!(F_spec_l1In (x_w.Bits.getD i 0) 0 4294967295))), undef, undef, undef, undef, undef, undef, undef, undef, undef, undef, undef, undef, undef, undef, undef, undef, undef, undef, undef, undef] rfl ⟨rfl, rfl, rfl, (congrArg (Value.int .i64) (show ((((i : Nat) : Int) + 1) : Int) = (((i + 1) : Nat) : Int) by omega)), rfl, rfl, rfl, rfl, rfl, rfl, rfl, rfl, rfl, rfl, rfl, rfl, rfl, rfl, rfl, rfl, rfl, rfl, rfl, rfl, rfl, rfl, rfl, rfl, rfl, rfl, rfl, rfl, rfl, rfl, rfl, rfl, rfl, rfl, rfl, rfl, rfl, rfl, rfl, rfl, rfl, rfl, trivial⟩ ⟨(i + 1), u2x, (.int .i64 ((i : Nat) : Int)), (.bool (decide (((i : Nat) : Int) < 32))), (.int .i64 ((i : Nat) : Int)), (.int .i64 (((i : Nat) : Int) + 1)), (.pointer (some ⟨g6, 1, none⟩)), (.slice a1 x_w.Bits.length c2), (.int .i64 ((i : Nat) : Int)), (.pointer (some (elA (.slice a1 x_w.Bits.length c2) ((((i : Nat) : Int)).toNat * 1)))), (.int .i64 (x_w.Bits.getD i 0)), (.bool (F_spec_l1In (x_w.Bits.getD i 0) 0 4294967295)), (.bool (!(F_spec_l1In (x_w.Bits.getD i 0) 0 4294967295))), rfl, m26, (((Ch.refl (fun k => w2.heap.size ≤ k) w2).ext k19 (fun k hk => Nat.le_trans (Nat.le_refl _) hk)).extk k25), (by omega), (by first | rfl | exact allW_next (by assumption) (by omega) (by assumption))⟩ (by show (32 - (((i + 1) : Nat) : Int)).toNat < (32 - ((i : Nat) : Int)).toNat; omega)
          · have q29 := spec_l1In_f h27
            refine wc_true (congrArg (fun b => Value.bool (!b)) h27) ?_
            refine wc_seq ?_
            refine wc_region ?_
            refine wl_mv (.bool false) (want_none rfl) rfl rfl (.inr rfl) rfl ?_
            refine wl_nil ?_
            refine wq_then ?_
            refine wc_ret ?_
            refine wq_blk_ret ?_
            refine wq_then_ret ?_
            refine wq_then_ret ?_
            refine wq_blk_ret ?_
            refine wq_then_ret ?_
            refine ret_1 (.inl rfl) (.bool false) rfl rfl ?_
            refine ⟨m26.keep0, ?_⟩
            have hF30 : sWin x_w = false := by first | (simp [sWin, h12, h16, h22, h27]; done) | (have hz := allW_no (x := x_w.Bits) (k := i) (by omega) (by assumption); simp [sWin, h12, h16, h22, h27, hz]; done) | (have hy := allW_all (x := x_w.Bits) (k := i) (by assumption) (by omega); simp [sWin, h12, h16, h22, h27, hy]; done) | (have hy := allW_all (x := x_w.Bits) (k := i) (by assumption) (by omega); have hz := noneIn_f (f := F_spec_l8Bit x_w) (a := x_w.Top + 1) (b := 1024) (q := q) (by assumption) (by omega) (by omega); simp [sWin, h12, h16, h22, h27, hy, hz]; done) | (have hy := allW_all (x := x_w.Bits) (k := i) (by assumption) (by omega); have hz := noneIn_t (f := F_spec_l8Bit x_w) (a := x_w.Top + 1) (b := 1024) (q := q) (by assumption) (by omega); simp [sWin, h12, h16, h22, h27, hy, hz]; done)
            rw [hF30]
            exact rfl
        · have q31 := of_decide_eq_false h22
          refine wc_false (congrArg Value.bool h22) ?_
          refine wc_exit ?_
          refine wq_then_exit ?_
          refine wq_then_exit ?_
          refine wq_blk_exit ?_
          refine wq_then ?_
          refine wc_seq ?_
          refine wc_seq ?_
          refine wc_region ?_
          refine wl_pure (.pointer (some ⟨g6, 0, none⟩)) (want_none rfl) rfl rfl (by kernel_rfl) ?_
          have b32 := ((b10.kp k14).ch k19 (Nat.not_le.2 (Nat.lt_of_lt_of_le p8 k14.size)))
          refine wl_load1 (.int .i64 x_w.Top) (want_none rfl) rfl rfl rfl rfl isAgg_3 b32 rfl ?_
          refine wl_pure (.bool (decide (0 ≤ x_w.Top))) (want_none rfl) rfl rfl (by kernel_rfl) ?_
          refine wl_mv (.bool (decide (0 ≤ x_w.Top))) (want_none rfl) rfl rfl (.inl rfl) rfl ?_
          rcases Bool.eq_false_or_eq_true (decide (0 ≤ x_w.Top)) with h33 | h33
          · have q34 := of_decide_eq_true h33
            refine wl_loadN [(.int .i64 x_w.Top), (.slice a1 x_w.Bits.length c2)] (want_some rfl rfl rfl (congrArg Value.bool h33)) rfl rfl rfl rfl isAgg_25 sizeOf_25 b32 rfl ?_
            refine wl_pure (.pointer (some ⟨g6, 0, none⟩)) (want_some rfl rfl rfl (congrArg Value.bool h33)) rfl rfl (by kernel_rfl) ?_
            refine wl_load1 (.int .i64 x_w.Top) (want_some rfl rfl rfl (congrArg Value.bool h33)) rfl rfl rfl rfl isAgg_3 b32 rfl ?_
            refine wl_call (want_some rfl rfl rfl (congrArg Value.bool h33)) (args := #[(.agg #[(.int .i64 x_w.Top), (.slice a1 x_w.Bits.length c2)]), (.int .i64 x_w.Top)]) rfl rfl (by kernel_rfl) (C_spec_l8Bit w3 (.agg #[(.int .i64 x_w.Top), (.slice a1 x_w.Bits.length c2)]) x_w (show R_25 w3 (.agg #[(.int .i64 x_w.Top), (.slice a1 x_w.Bits.length c2)]) x_w from ⟨_, _, rfl, (r3.from0 m18), s4⟩) x_w.Top (by first | assumption | omega) (by first | assumption | omega)) ?_
            rintro _ w4 ⟨k35, rfl⟩
            have m36 := m18.extk k35
            refine wl_pure (.bool (!(F_spec_l8Bit x_w x_w.Top))) (want_some rfl rfl rfl (congrArg Value.bool h33)) rfl rfl (by kernel_rfl) ?_
            refine wl_pick_t (.bool (!(F_spec_l8Bit x_w x_w.Top))) (want_none rfl) rfl rfl rfl (congrArg Value.bool h33) rfl ?_
            refine wl_nil ?_
            refine wq_then ?_
            rcases Bool.eq_false_or_eq_true (F_spec_l8Bit x_w x_w.Top) with h37 | h37
            · skip
              refine wc_false (congrArg (fun b => Value.bool (!b)) h37) ?_
              refine wc_skip ?_
              refine wq_then ?_
              refine wc_seq ?_
              refine wc_seq ?_
              refine wc_region ?_
              refine wl_pure (.pointer (some ⟨g6, 0, none⟩)) (want_none rfl) rfl rfl (by kernel_rfl) ?_
              have b39 := (b32.kp k35)
              refine wl_load1 (.int .i64 x_w.Top) (want_none rfl) rfl rfl rfl rfl isAgg_3 b39 rfl ?_
              refine wl_arith (x_w.Top + 1) (want_none rfl) rfl rfl (by kernel_rfl) (by omega) (by omega) ?_
              refine wl_mv (.int .i64 (x_w.Top + 1)) (want_none rfl) rfl rfl (.inr rfl) rfl ?_
              refine wl_nil ?_
              refine wq_then ?_
              refine wc_block ?_
              refine wc_norm [(.agg #[(.int .i64 x_w.Top), (.slice a1 x_w.Bits.length c2)]), (.pointer (some ⟨g6, 0, none⟩)), u2x, (.int .i64 ((i : Nat) : Int)), (.int .i64 (x_w.Top + 1)), (.pointer (some ⟨g6, 1, none⟩)), (.slice a1 x_w.Bits.length c2), (.int .i64 (x_w.Bits.length : Int)), (.bool (!(decide ((x_w.Bits.length : Int) = 32)))), (.bool (!(decide ((x_w.Bits.length : Int) = 32)))), (.pointer (some ⟨g6, 0, none⟩)), (.int .i64 x_w.Top), (.bool (F_spec_l1In x_w.Top (-1) 281474976710655)), (.bool (!(F_spec_l1In x_w.Top (-1) 281474976710655))), (.bool (!(F_spec_l1In x_w.Top (-1) 281474976710655))), (.int .i64 ((i : Nat) : Int)), (.bool (decide (((i : Nat) : Int) < 32))), u17x, u18x, u19x, u20x, u21x, u22x, u23x, u24x, u25x, (.pointer (some ⟨g6, 0, none⟩)), (.int .i64 x_w.Top), (.bool (decide (0 ≤ x_w.Top))), (.bool (decide (0 ≤ x_w.Top))), (.agg #[(.int .i64 x_w.Top), (.slice a1 x_w.Bits.length c2)]), (.pointer (some ⟨g6, 0, none⟩)), (.int .i64 x_w.Top), (.bool (F_spec_l8Bit x_w x_w.Top)), (.bool (!(F_spec_l8Bit x_w x_w.Top))), (.bool (!(F_spec_l8Bit x_w x_w.Top))), (.pointer (some ⟨g6, 0, none⟩)), (.int .i64 x_w.Top), (.int .i64 (x_w.Top + 1)), undef, undef, undef, undef, undef, undef, undef] rfl ⟨rfl, rfl, rfl, rfl, rfl, rfl, rfl, rfl, rfl, rfl, rfl, rfl, rfl, rfl, rfl, rfl, rfl, rfl, rfl, rfl, rfl, rfl, rfl, rfl, rfl, rfl, rfl, rfl, rfl, rfl, rfl, rfl, rfl, rfl, rfl, rfl, rfl, rfl, rfl, rfl, rfl, rfl, rfl, rfl, rfl, rfl, trivial⟩ ?_
              refine wc_loop (fun e' w' => ∃ (q : Int) (u2x u39x u40x u41x u42x u43x u44x u45x : Value), e' = lst [(.agg #[(.int .i64 x_w.Top), (.slice a1 x_w.Bits.length c2)]), (.pointer (some ⟨g6, 0, none⟩)), u2x, (.int .i64 ((i : Nat) : Int)), (.int .i64 q), (.pointer (some ⟨g6, 1, none⟩)), (.slice a1 x_w.Bits.length c2), (.int .i64 (x_w.Bits.length : Int)), (.bool (!(decide ((x_w.Bits.length : Int) = 32)))), (.bool (!(decide ((x_w.Bits.length : Int) = 32)))), (.pointer (some ⟨g6, 0, none⟩)), (.int .i64 x_w.Top), (.bool (F_spec_l1In x_w.Top (-1) 281474976710655)), (.bool (!(F_spec_l1In x_w.Top (-1) 281474976710655))), (.bool (!(F_spec_l1In x_w.Top (-1) 281474976710655))), (.int .i64 ((i : Nat) : Int)), (.bool (decide (((i : Nat) : Int) < 32))), u17x, u18x, u19x, u20x, u21x, u22x, u23x, u24x, u25x, (.pointer (some ⟨g6, 0, none⟩)), (.int .i64 x_w.Top), (.bool (decide (0 ≤ x_w.Top))), (.bool (decide (0 ≤ x_w.Top))), (.agg #[(.int .i64 x_w.Top), (.slice a1 x_w.Bits.length c2)]), (.pointer (some ⟨g6, 0, none⟩)), (.int .i64 x_w.Top), (.bool (F_spec_l8Bit x_w x_w.Top)), (.bool (!(F_spec_l8Bit x_w x_w.Top))), (.bool (!(F_spec_l8Bit x_w x_w.Top))), (.pointer (some ⟨g6, 0, none⟩)), (.int .i64 x_w.Top), (.int .i64 (x_w.Top + 1)), u39x, u40x, u41x, u42x, u43x, u44x, u45x] ∧ Ch (fun k => w0.heap.size ≤ k) w0 w' ∧ Ch (fun k => w4.heap.size ≤ k) w4 w' ∧ x_w.Top + 1 ≤ q ∧ q ≤ 281474976710656 ∧ ∀ m : Int, x_w.Top + 1 ≤ m → m < q → F_spec_l8Bit x_w m = false) (fun e' _ => (1024 - (intOf (e' 4))).toNat) ?_ ?_
              · exact ⟨(x_w.Top + 1), u2x, undef, undef, undef, undef, undef, undef, undef, rfl, m36, (Ch.refl (fun k => w4.heap.size ≤ k) w4), (by omega), (by omega), (by first | (intro m h1 h2; omega) | exact none_next (by assumption) (by assumption))⟩
              · rintro _ w5 ⟨q, u2x, u39x, u40x, u41x, u42x, u43x, u44x, u45x, rfl, m40, k41, i42, i43, i44⟩
                refine wc_seq ?_
                refine wc_seq ?_
                refine wc_region ?_
                refine wl_mv (.int .i64 q) (want_none rfl) rfl rfl (.inl rfl) rfl ?_
                refine wl_pure (.bool (decide (q < 1024))) (want_none rfl) rfl rfl (by kernel_rfl) ?_
                refine wl_nil ?_
                refine wq_then ?_
                rcases Bool.eq_false_or_eq_true (decide (q < 1024)) with h45 | h45
                · have q46 := of_decide_eq_true h45
                  refine wc_true (congrArg Value.bool h45) ?_
                  refine wc_skip ?_
                  refine wq_then ?_
                  refine wc_seq ?_
                  refine wc_block ?_
                  refine wc_seq ?_
                  refine wc_region ?_
                  have b47 := (b39.ch k41 (Nat.not_le.2 (Nat.lt_of_lt_of_le p8 (Nat.le_trans (Nat.le_trans k14.size k19.size) k35.size))))
                  refine wl_loadN [(.int .i64 x_w.Top), (.slice a1 x_w.Bits.length c2)] (want_none rfl) rfl rfl rfl rfl isAgg_25 sizeOf_25 b47 rfl ?_
                  refine wl_mv (.int .i64 q) (want_none rfl) rfl rfl (.inl rfl) rfl ?_
                  refine wl_call (want_none rfl) (args := #[(.agg #[(.int .i64 x_w.Top), (.slice a1 x_w.Bits.length c2)]), (.int .i64 q)]) rfl rfl (by kernel_rfl) (C_spec_l8Bit w5 (.agg #[(.int .i64 x_w.Top), (.slice a1 x_w.Bits.length c2)]) x_w (show R_25 w5 (.agg #[(.int .i64 x_w.Top), (.slice a1 x_w.Bits.length c2)]) x_w from ⟨_, _, rfl, (r3.from0 m40), s4⟩) q (by first | assumption | omega) (by first | assumption | omega)) ?_
                  rintro _ w6 ⟨k48, rfl⟩
                  have m49 := m40.extk k48
                  refine wl_nil ?_
                  refine wq_then ?_
                  rcases Bool.eq_false_or_eq_true (F_spec_l8Bit x_w q) with h50 | h50
                  · skip
                    refine wc_true (congrArg Value.bool h50) ?_
                    refine wc_seq ?_
                    refine wc_region ?_
                    refine wl_mv (.bool false) (want_none rfl) rfl rfl (.inr rfl) rfl ?_
                    refine wl_nil ?_
                    refine wq_then ?_
                    refine wc_ret ?_
                    refine wq_blk_ret ?_
                    refine wq_then_ret ?_
                    refine wq_then_ret ?_
                    refine wq_blk_ret ?_
                    refine wq_then_ret ?_
                    refine ret_1 (.inl rfl) (.bool false) rfl rfl ?_
                    refine ⟨m49.keep0, ?_⟩
                    have hF52 : sWin x_w = false := by first | (simp [sWin, h12, h16, h22, h33, h37, h45, h50]; done) | (have hz := allW_no (x := x_w.Bits) (k := i) (by omega) (by assumption); simp [sWin, h12, h16, h22, h33, h37, h45, h50, hz]; done) | (have hy := allW_all (x := x_w.Bits) (k := i) (by assumption) (by omega); simp [sWin, h12, h16, h22, h33, h37, h45, h50, hy]; done) | (have hy := allW_all (x := x_w.Bits) (k := i) (by assumption) (by omega); have hz := noneIn_f (f := F_spec_l8Bit x_w) (a := x_w.Top + 1) (b := 1024) (q := q) (by assumption) (by omega) (by omega); simp [sWin, h12, h16, h22, h33, h37, h45, h50, hy, hz]; done) | (have hy := allW_all (x := x_w.Bits) (k := i) (by assumption) (by omega); have hz := noneIn_t (f := F_spec_l8Bit x_w) (a := x_w.Top + 1) (b := 1024) (q := q) (by assumption) (by omega); simp [sWin, h12, h16, h22, h33, h37, h45, h50, hy, hz]; done)
                    rw [hF52]
                    exact rfl
                  · skip
                    refine wc_false (congrArg Value.bool h50) ?_
                    refine wc_skip ?_
                    refine wq_blk_normal ?_
                    refine wq_then ?_
                    refine wc_region ?_
                    refine wl_mv (.int .i64 q) (want_none rfl) rfl rfl (.inl rfl) rfl ?_
                    refine wl_arith (q + 1) (want_none rfl) rfl rfl (by kernel_rfl) (by omega) (by omega) ?_
                    refine wl_mv (.int .i64 (q + 1)) (want_none rfl) rfl rfl (.inr rfl) rfl ?_
                    refine wl_nil ?_
                    exact wq_loopN (w0 := w5) [(.agg #[(.int .i64 x_w.Top), (.slice a1 x_w.Bits.length c2)]), (.pointer (some ⟨g6, 0, none⟩)), u2x, (.int .i64 ((i : Nat) : Int)), (.int .i64 (q + 1)), (.pointer (some ⟨g6, 1, none⟩)), (.slice a1 x_w.Bits.length c2), (.int .i64 (x_w.Bits.length : Int)), (.bool (!(decide ((x_w.Bits.length : Int) = 32)))), (.bool (!(decide ((x_w.Bits.length : Int) = 32)))), (.pointer (some ⟨g6, 0, none⟩)), (.int .i64 x_w.Top), (.bool (F_spec_l1In x_w.Top (-1) 281474976710655)), (.bool (!(F_spec_l1In x_w.Top (-1) 281474976710655))), (.bool (!(F_spec_l1In x_w.Top (-1) 281474976710655))), (.int .i64 ((i : Nat) : Int)), (.bool (decide (((i : Nat) : Int) < 32))), u17x, u18x, u19x, u20x, u21x, u22x, u23x, u24x, u25x, (.pointer (some ⟨g6, 0, none⟩)), (.int .i64 x_w.Top), (.bool (decide (0 ≤ x_w.Top))), (.bool (decide (0 ≤ x_w.Top))), (.agg #[(.int .i64 x_w.Top), (.slice a1 x_w.Bits.length c2)]), (.pointer (some ⟨g6, 0, none⟩)), (.int .i64 x_w.Top), (.bool (F_spec_l8Bit x_w x_w.Top)), (.bool (!(F_spec_l8Bit x_w x_w.Top))), (.bool (!(F_spec_l8Bit x_w x_w.Top))), (.pointer (some ⟨g6, 0, none⟩)), (.int .i64 x_w.Top), (.int .i64 (x_w.Top + 1)), (.int .i64 q), (.bool (decide (q < 1024))), (.int .i64 q), (.int .i64 (q + 1)), (.agg #[(.int .i64 x_w.Top), (.slice a1 x_w.Bits.length c2)]), (.int .i64 q), (.bool (F_spec_l8Bit x_w q))] rfl ⟨rfl, rfl, rfl, rfl, rfl, rfl, rfl, rfl, rfl, rfl, rfl, rfl, rfl, rfl, rfl, rfl, rfl, rfl, rfl, rfl, rfl, rfl, rfl, rfl, rfl, rfl, rfl, rfl, rfl, rfl, rfl, rfl, rfl, rfl, rfl, rfl, rfl, rfl, rfl, rfl, rfl, rfl, rfl, rfl, rfl, rfl, trivial⟩ ⟨(q + 1), u2x, (.int .i64 q), (.bool (decide (q < 1024))), (.int .i64 q), (.int .i64 (q + 1)), (.agg #[(.int .i64 x_w.Top), (.slice a1 x_w.Bits.length c2)]), (.int .i64 q), (.bool (F_spec_l8Bit x_w q)), rfl, m49, (((Ch.refl (fun k => w4.heap.size ≤ k) w4).ext k41 (fun k hk => Nat.le_trans (Nat.le_refl _) hk)).extk k48), (by omega), (by omega), (by first | (intro m h1 h2; omega) | exact none_next (by assumption) (by assumption))⟩ (by show (1024 - (q + 1)).toNat < (1024 - q).toNat; omega)
                · have q54 := of_decide_eq_false h45
                  refine wc_false (congrArg Value.bool h45) ?_
                  refine wc_exit ?_
                  refine wq_then_exit ?_
                  refine wq_then_exit ?_
                  refine wq_blk_exit ?_
                  refine wq_then ?_
                  refine wc_seq ?_
                  refine wc_region ?_
                  refine wl_mv (.bool true) (want_none rfl) rfl rfl (.inr rfl) rfl ?_
                  refine wl_nil ?_
                  refine wq_then ?_
                  refine wc_ret ?_
                  refine ret_1 (.inl rfl) (.bool true) rfl rfl ?_
                  refine ⟨m40.keep0, ?_⟩
                  have hF55 : sWin x_w = true := by first | (simp [sWin, h12, h16, h22, h33, h37, h45]; done) | (have hz := allW_no (x := x_w.Bits) (k := i) (by omega) (by assumption); simp [sWin, h12, h16, h22, h33, h37, h45, hz]; done) | (have hy := allW_all (x := x_w.Bits) (k := i) (by assumption) (by omega); simp [sWin, h12, h16, h22, h33, h37, h45, hy]; done) | (have hy := allW_all (x := x_w.Bits) (k := i) (by assumption) (by omega); have hz := noneIn_f (f := F_spec_l8Bit x_w) (a := x_w.Top + 1) (b := 1024) (q := q) (by assumption) (by omega) (by omega); simp [sWin, h12, h16, h22, h33, h37, h45, hy, hz]; done) | (have hy := allW_all (x := x_w.Bits) (k := i) (by assumption) (by omega); have hz := noneIn_t (f := F_spec_l8Bit x_w) (a := x_w.Top + 1) (b := 1024) (q := q) (by assumption) (by omega); simp [sWin, h12, h16, h22, h33, h37, h45, hy, hz]; done)
                  rw [hF55]
                  exact rfl
            · skip
              refine wc_true (congrArg (fun b => Value.bool (!b)) h37) ?_
              refine wc_seq ?_
              refine wc_region ?_
              refine wl_mv (.bool false) (want_none rfl) rfl rfl (.inr rfl) rfl ?_
              refine wl_nil ?_
              refine wq_then ?_
              refine wc_ret ?_
              refine wq_then_ret ?_
              refine ret_1 (.inl rfl) (.bool false) rfl rfl ?_
              refine ⟨m36.keep0, ?_⟩
              have hF57 : sWin x_w = false := by first | (simp [sWin, h12, h16, h22, h33, h37]; done) | (have hz := allW_no (x := x_w.Bits) (k := i) (by omega) (by assumption); simp [sWin, h12, h16, h22, h33, h37, hz]; done) | (have hy := allW_all (x := x_w.Bits) (k := i) (by assumption) (by omega); simp [sWin, h12, h16, h22, h33, h37, hy]; done) | (have hy := allW_all (x := x_w.Bits) (k := i) (by assumption) (by omega); have hz := noneIn_f (f := F_spec_l8Bit x_w) (a := x_w.Top + 1) (b := 1024) (q := q) (by assumption) (by omega) (by omega); simp [sWin, h12, h16, h22, h33, h37, hy, hz]; done) | (have hy := allW_all (x := x_w.Bits) (k := i) (by assumption) (by omega); have hz := noneIn_t (f := F_spec_l8Bit x_w) (a := x_w.Top + 1) (b := 1024) (q := q) (by assumption) (by omega); simp [sWin, h12, h16, h22, h33, h37, hy, hz]; done)
              rw [hF57]
              exact rfl
          · have q58 := of_decide_eq_false h33
            refine wl_skip rfl rfl rfl (congrArg Value.bool h33) rfl rfl rfl ?_
            refine wl_skip rfl rfl rfl (congrArg Value.bool h33) rfl rfl rfl ?_
            refine wl_skip rfl rfl rfl (congrArg Value.bool h33) rfl rfl rfl ?_
            refine wl_skip rfl rfl rfl (congrArg Value.bool h33) rfl rfl rfl ?_
            refine wl_skip rfl rfl rfl (congrArg Value.bool h33) rfl rfl rfl ?_
            refine wl_pick_f (.bool false) (want_none rfl) rfl rfl rfl (congrArg Value.bool h33) rfl ?_
            refine wl_nil ?_
            refine wq_then ?_
            refine wc_false rfl ?_
            refine wc_skip ?_
            refine wq_then ?_
            refine wc_seq ?_
            refine wc_seq ?_
            refine wc_region ?_
            refine wl_pure (.pointer (some ⟨g6, 0, none⟩)) (want_none rfl) rfl rfl (by kernel_rfl) ?_
            refine wl_load1 (.int .i64 x_w.Top) (want_none rfl) rfl rfl rfl rfl isAgg_3 b32 rfl ?_
            refine wl_arith (x_w.Top + 1) (want_none rfl) rfl rfl (by kernel_rfl) (by omega) (by omega) ?_
            refine wl_mv (.int .i64 (x_w.Top + 1)) (want_none rfl) rfl rfl (.inr rfl) rfl ?_
            refine wl_nil ?_
            refine wq_then ?_
            refine wc_block ?_
            refine wc_norm [(.agg #[(.int .i64 x_w.Top), (.slice a1 x_w.Bits.length c2)]), (.pointer (some ⟨g6, 0, none⟩)), u2x, (.int .i64 ((i : Nat) : Int)), (.int .i64 (x_w.Top + 1)), (.pointer (some ⟨g6, 1, none⟩)), (.slice a1 x_w.Bits.length c2), (.int .i64 (x_w.Bits.length : Int)), (.bool (!(decide ((x_w.Bits.length : Int) = 32)))), (.bool (!(decide ((x_w.Bits.length : Int) = 32)))), (.pointer (some ⟨g6, 0, none⟩)), (.int .i64 x_w.Top), (.bool (F_spec_l1In x_w.Top (-1) 281474976710655)), (.bool (!(F_spec_l1In x_w.Top (-1) 281474976710655))), (.bool (!(F_spec_l1In x_w.Top (-1) 281474976710655))), (.int .i64 ((i : Nat) : Int)), (.bool (decide (((i : Nat) : Int) < 32))), u17x, u18x, u19x, u20x, u21x, u22x, u23x, u24x, u25x, (.pointer (some ⟨g6, 0, none⟩)), (.int .i64 x_w.Top), (.bool (decide (0 ≤ x_w.Top))), (.bool (decide (0 ≤ x_w.Top))), undef, undef, undef, undef, undef, (.bool false), (.pointer (some ⟨g6, 0, none⟩)), (.int .i64 x_w.Top), (.int .i64 (x_w.Top + 1)), undef, undef, undef, undef, undef, undef, undef] rfl ⟨rfl, rfl, rfl, rfl, rfl, rfl, rfl, rfl, rfl, rfl, rfl, rfl, rfl, rfl, rfl, rfl, rfl, rfl, rfl, rfl, rfl, rfl, rfl, rfl, rfl, rfl, rfl, rfl, rfl, rfl, rfl, rfl, rfl, rfl, rfl, rfl, rfl, rfl, rfl, rfl, rfl, rfl, rfl, rfl, rfl, rfl, trivial⟩ ?_
            refine wc_loop (fun e' w' => ∃ (q : Int) (u2x u39x u40x u41x u42x u43x u44x u45x : Value), e' = lst [(.agg #[(.int .i64 x_w.Top), (.slice a1 x_w.Bits.length c2)]), (.pointer (some ⟨g6, 0, none⟩)), u2x, (.int .i64 ((i : Nat) : Int)), (.int .i64 q), (.pointer (some ⟨g6, 1, none⟩)), (.slice a1 x_w.Bits.length c2), (.int .i64 (x_w.Bits.length : Int)), (.bool (!(decide ((x_w.Bits.length : Int) = 32)))), (.bool (!(decide ((x_w.Bits.length : Int) = 32)))), (.pointer (some ⟨g6, 0, none⟩)), (.int .i64 x_w.Top), (.bool (F_spec_l1In x_w.Top (-1) 281474976710655)), (.bool (!(F_spec_l1In x_w.Top (-1) 281474976710655))), (.bool (!(F_spec_l1In x_w.Top (-1) 281474976710655))), (.int .i64 ((i : Nat) : Int)), (.bool (decide (((i : Nat) : Int) < 32))), u17x, u18x, u19x, u20x, u21x, u22x, u23x, u24x, u25x, (.pointer (some ⟨g6, 0, none⟩)), (.int .i64 x_w.Top), (.bool (decide (0 ≤ x_w.Top))), (.bool (decide (0 ≤ x_w.Top))), undef, undef, undef, undef, undef, (.bool false), (.pointer (some ⟨g6, 0, none⟩)), (.int .i64 x_w.Top), (.int .i64 (x_w.Top + 1)), u39x, u40x, u41x, u42x, u43x, u44x, u45x] ∧ Ch (fun k => w0.heap.size ≤ k) w0 w' ∧ Ch (fun k => w3.heap.size ≤ k) w3 w' ∧ x_w.Top + 1 ≤ q ∧ q ≤ 281474976710656 ∧ ∀ m : Int, x_w.Top + 1 ≤ m → m < q → F_spec_l8Bit x_w m = false) (fun e' _ => (1024 - (intOf (e' 4))).toNat) ?_ ?_
            · exact ⟨(x_w.Top + 1), u2x, undef, undef, undef, undef, undef, undef, undef, rfl, m18, (Ch.refl (fun k => w3.heap.size ≤ k) w3), (by omega), (by omega), (by first | (intro m h1 h2; omega) | exact none_next (by assumption) (by assumption))⟩
            · rintro _ w4 ⟨q, u2x, u39x, u40x, u41x, u42x, u43x, u44x, u45x, rfl, m59, k60, i61, i62, i63⟩
              refine wc_seq ?_
              refine wc_seq ?_
              refine wc_region ?_
              refine wl_mv (.int .i64 q) (want_none rfl) rfl rfl (.inl rfl) rfl ?_
              refine wl_pure (.bool (decide (q < 1024))) (want_none rfl) rfl rfl (by kernel_rfl) ?_
              refine wl_nil ?_
              refine wq_then ?_
              rcases Bool.eq_false_or_eq_true (decide (q < 1024)) with h64 | h64
              · have q65 := of_decide_eq_true h64
                refine wc_true (congrArg Value.bool h64) ?_
                refine wc_skip ?_
                refine wq_then ?_
                refine wc_seq ?_
                refine wc_block ?_
                refine wc_seq ?_
                refine wc_region ?_
                have b66 := (b32.ch k60 (Nat.not_le.2 (Nat.lt_of_lt_of_le p8 (Nat.le_trans k14.size k19.size))))
                refine wl_loadN [(.int .i64 x_w.Top), (.slice a1 x_w.Bits.length c2)] (want_none rfl) rfl rfl rfl rfl isAgg_25 sizeOf_25 b66 rfl ?_
                refine wl_mv (.int .i64 q) (want_none rfl) rfl rfl (.inl rfl) rfl ?_
                refine wl_call (want_none rfl) (args := #[(.agg #[(.int .i64 x_w.Top), (.slice a1 x_w.Bits.length c2)]), (.int .i64 q)]) rfl rfl (by kernel_rfl) (C_spec_l8Bit w4 (.agg #[(.int .i64 x_w.Top), (.slice a1 x_w.Bits.length c2)]) x_w (show R_25 w4 (.agg #[(.int .i64 x_w.Top), (.slice a1 x_w.Bits.length c2)]) x_w from ⟨_, _, rfl, (r3.from0 m59), s4⟩) q (by first | assumption | omega) (by first | assumption | omega)) ?_
                rintro _ w5 ⟨k67, rfl⟩
                have m68 := m59.extk k67
                refine wl_nil ?_
                refine wq_then ?_
                rcases Bool.eq_false_or_eq_true (F_spec_l8Bit x_w q) with h69 | h69
                · skip
                  refine wc_true (congrArg Value.bool h69) ?_
                  refine wc_seq ?_
                  refine wc_region ?_
                  refine wl_mv (.bool false) (want_none rfl) rfl rfl (.inr rfl) rfl ?_
                  refine wl_nil ?_
                  refine wq_then ?_
                  refine wc_ret ?_
                  refine wq_blk_ret ?_
                  refine wq_then_ret ?_
                  refine wq_then_ret ?_
                  refine wq_blk_ret ?_
                  refine wq_then_ret ?_
                  refine ret_1 (.inl rfl) (.bool false) rfl rfl ?_
                  refine ⟨m68.keep0, ?_⟩
                  have hF71 : sWin x_w = false := by first | (simp [sWin, h12, h16, h22, h33, h64, h69]; done) | (have hz := allW_no (x := x_w.Bits) (k := i) (by omega) (by assumption); simp [sWin, h12, h16, h22, h33, h64, h69, hz]; done) | (have hy := allW_all (x := x_w.Bits) (k := i) (by assumption) (by omega); simp [sWin, h12, h16, h22, h33, h64, h69, hy]; done) | (have hy := allW_all (x := x_w.Bits) (k := i) (by assumption) (by omega); have hz := noneIn_f (f := F_spec_l8Bit x_w) (a := x_w.Top + 1) (b := 1024) (q := q) (by assumption) (by omega) (by omega); simp [sWin, h12, h16, h22, h33, h64, h69, hy, hz]; done) | (have hy := allW_all (x := x_w.Bits) (k := i) (by assumption) (by omega); have hz := noneIn_t (f := F_spec_l8Bit x_w) (a := x_w.Top + 1) (b := 1024) (q := q) (by assumption) (by omega); simp [sWin, h12, h16, h22, h33, h64, h69, hy, hz]; done)
                  rw [hF71]
                  exact rfl
                · skip
                  refine wc_false (congrArg Value.bool h69) ?_
                  refine wc_skip ?_
                  refine wq_blk_normal ?_
                  refine wq_then ?_
                  refine wc_region ?_
                  refine wl_mv (.int .i64 q) (want_none rfl) rfl rfl (.inl rfl) rfl ?_
                  refine wl_arith (q + 1) (want_none rfl) rfl rfl (by kernel_rfl) (by omega) (by omega) ?_
                  refine wl_mv (.int .i64 (q + 1)) (want_none rfl) rfl rfl (.inr rfl) rfl ?_
                  refine wl_nil ?_
                  exact wq_loopN (w0 := w4) [(.agg #[(.int .i64 x_w.Top), (.slice a1 x_w.Bits.length c2)]), (.pointer (some ⟨g6, 0, none⟩)), u2x, (.int .i64 ((i : Nat) : Int)), (.int .i64 (q + 1)), (.pointer (some ⟨g6, 1, none⟩)), (.slice a1 x_w.Bits.length c2), (.int .i64 (x_w.Bits.length : Int)), (.bool (!(decide ((x_w.Bits.length : Int) = 32)))), (.bool (!(decide ((x_w.Bits.length : Int) = 32)))), (.pointer (some ⟨g6, 0, none⟩)), (.int .i64 x_w.Top), (.bool (F_spec_l1In x_w.Top (-1) 281474976710655)), (.bool (!(F_spec_l1In x_w.Top (-1) 281474976710655))), (.bool (!(F_spec_l1In x_w.Top (-1) 281474976710655))), (.int .i64 ((i : Nat) : Int)), (.bool (decide (((i : Nat) : Int) < 32))), u17x, u18x, u19x, u20x, u21x, u22x, u23x, u24x, u25x, (.pointer (some ⟨g6, 0, none⟩)), (.int .i64 x_w.Top), (.bool (decide (0 ≤ x_w.Top))), (.bool (decide (0 ≤ x_w.Top))), undef, undef, undef, undef, undef, (.bool false), (.pointer (some ⟨g6, 0, none⟩)), (.int .i64 x_w.Top), (.int .i64 (x_w.Top + 1)), (.int .i64 q), (.bool (decide (q < 1024))), (.int .i64 q), (.int .i64 (q + 1)), (.agg #[(.int .i64 x_w.Top), (.slice a1 x_w.Bits.length c2)]), (.int .i64 q), (.bool (F_spec_l8Bit x_w q))] rfl ⟨rfl, rfl, rfl, rfl, rfl, rfl, rfl, rfl, rfl, rfl, rfl, rfl, rfl, rfl, rfl, rfl, rfl, rfl, rfl, rfl, rfl, rfl, rfl, rfl, rfl, rfl, rfl, rfl, rfl, rfl, rfl, rfl, rfl, rfl, rfl, rfl, rfl, rfl, rfl, rfl, rfl, rfl, rfl, rfl, rfl, rfl, trivial⟩ ⟨(q + 1), u2x, (.int .i64 q), (.bool (decide (q < 1024))), (.int .i64 q), (.int .i64 (q + 1)), (.agg #[(.int .i64 x_w.Top), (.slice a1 x_w.Bits.length c2)]), (.int .i64 q), (.bool (F_spec_l8Bit x_w q)), rfl, m68, (((Ch.refl (fun k => w3.heap.size ≤ k) w3).ext k60 (fun k hk => Nat.le_trans (Nat.le_refl _) hk)).extk k67), (by omega), (by omega), (by first | (intro m h1 h2; omega) | exact none_next (by assumption) (by assumption))⟩ (by show (1024 - (q + 1)).toNat < (1024 - q).toNat; omega)
              · have q73 := of_decide_eq_false h64
                refine wc_false (congrArg Value.bool h64) ?_
                refine wc_exit ?_
                refine wq_then_exit ?_
                refine wq_then_exit ?_
                refine wq_blk_exit ?_
                refine wq_then ?_
                refine wc_seq ?_
                refine wc_region ?_
                refine wl_mv (.bool true) (want_none rfl) rfl rfl (.inr rfl) rfl ?_
                refine wl_nil ?_
                refine wq_then ?_
                refine wc_ret ?_
                refine ret_1 (.inl rfl) (.bool true) rfl rfl ?_
                refine ⟨m59.keep0, ?_⟩
                have hF74 : sWin x_w = true := by first | (simp [sWin, h12, h16, h22, h33, h64]; done) | (have hz := allW_no (x := x_w.Bits) (k := i) (by omega) (by assumption); simp [sWin, h12, h16, h22, h33, h64, hz]; done) | (have hy := allW_all (x := x_w.Bits) (k := i) (by assumption) (by omega); simp [sWin, h12, h16, h22, h33, h64, hy]; done) | (have hy := allW_all (x := x_w.Bits) (k := i) (by assumption) (by omega); have hz := noneIn_f (f := F_spec_l8Bit x_w) (a := x_w.Top + 1) (b := 1024) (q := q) (by assumption) (by omega) (by omega); simp [sWin, h12, h16, h22, h33, h64, hy, hz]; done) | (have hy := allW_all (x := x_w.Bits) (k := i) (by assumption) (by omega); have hz := noneIn_t (f := F_spec_l8Bit x_w) (a := x_w.Top + 1) (b := 1024) (q := q) (by assumption) (by omega); simp [sWin, h12, h16, h22, h33, h64, hy, hz]; done)
                rw [hF74]
                exact rfl
    · have q75 := spec_l1In_f h16
      refine wc_true (congrArg (fun b => Value.bool (!b)) h16) ?_
      refine wc_seq ?_
      refine wc_region ?_
      refine wl_mv (.bool false) (want_none rfl) rfl rfl (.inr rfl) rfl ?_
      refine wl_nil ?_
      refine wq_then ?_
      refine wc_ret ?_
      refine wq_then_ret ?_
      refine ret_1 (.inl rfl) (.bool false) rfl rfl ?_
      refine ⟨m15.keep0, ?_⟩
      have hF76 : sWin x_w = false := by first | (simp [sWin, h12, h16]; done) | (have hz := allW_no (x := x_w.Bits) (k := i) (by omega) (by assumption); simp [sWin, h12, h16, hz]; done) | (have hy := allW_all (x := x_w.Bits) (k := i) (by assumption) (by omega); simp [sWin, h12, h16, hy]; done) | (have hy := allW_all (x := x_w.Bits) (k := i) (by assumption) (by omega); have hz := noneIn_f (f := F_spec_l8Bit x_w) (a := x_w.Top + 1) (b := 1024) (q := q) (by assumption) (by omega) (by omega); simp [sWin, h12, h16, hy, hz]; done) | (have hy := allW_all (x := x_w.Bits) (k := i) (by assumption) (by omega); have hz := noneIn_t (f := F_spec_l8Bit x_w) (a := x_w.Top + 1) (b := 1024) (q := q) (by assumption) (by omega); simp [sWin, h12, h16, hy, hz]; done)
      rw [hF76]
      exact rfl
  · have q77 := of_decide_eq_false h12
    refine wl_skip rfl rfl rfl (congrArg (fun b => Value.bool (!b)) h12) rfl rfl rfl ?_
    refine wl_skip rfl rfl rfl (congrArg (fun b => Value.bool (!b)) h12) rfl rfl rfl ?_
    refine wl_skip rfl rfl rfl (congrArg (fun b => Value.bool (!b)) h12) rfl rfl rfl ?_
    refine wl_skip rfl rfl rfl (congrArg (fun b => Value.bool (!b)) h12) rfl rfl rfl ?_
    refine wl_pick_t (.bool true) (want_none rfl) rfl rfl rfl (congrArg (fun b => Value.bool (!b)) h12) rfl ?_
    refine wl_nil ?_
    refine wq_then ?_
    refine wc_true rfl ?_
    refine wc_seq ?_
    refine wc_region ?_
    refine wl_mv (.bool false) (want_none rfl) rfl rfl (.inr rfl) rfl ?_
    refine wl_nil ?_
    refine wq_then ?_
    refine wc_ret ?_
    refine wq_then_ret ?_
    refine ret_1 (.inl rfl) (.bool false) rfl rfl ?_
    refine ⟨m11.keep0, ?_⟩
    have hF78 : sWin x_w = false := by first | (simp [sWin, h12]; done) | (have hz := allW_no (x := x_w.Bits) (k := i) (by omega) (by assumption); simp [sWin, h12, hz]; done) | (have hy := allW_all (x := x_w.Bits) (k := i) (by assumption) (by omega); simp [sWin, h12, hy]; done) | (have hy := allW_all (x := x_w.Bits) (k := i) (by assumption) (by omega); have hz := noneIn_f (f := F_spec_l8Bit x_w) (a := x_w.Top + 1) (b := 1024) (q := q) (by assumption) (by omega) (by omega); simp [sWin, h12, hy, hz]; done) | (have hy := allW_all (x := x_w.Bits) (k := i) (by assumption) (by omega); have hz := noneIn_t (f := F_spec_l8Bit x_w) (a := x_w.Top + 1) (b := 1024) (q := q) (by assumption) (by omega); simp [sWin, h12, hy, hz]; done)
    rw [hF78]
    exact rfl

def R_27 (w : World) (v : Value) (x : (PEp)) : Prop := ∃ (a1 : Option Addr) (c1 : Nat) (a2 : Option Addr) (c2 : Nat), v = .agg #[.int .i64 x.N, .slice a1 x.Key.length c1, .int .i64 x.Seq, .int .i64 x.Win.Top, .slice a2 x.Win.Bits.length c2] ∧ Rd w 1 (.slice a1 x.Key.length c1) x.Key.length (x.Key.map bV) ∧ x.Key.length ≤ 1073741824 ∧ Rd w 1 (.slice a2 x.Win.Bits.length c2) x.Win.Bits.length (x.Win.Bits.map iV) ∧ x.Win.Bits.length ≤ 1073741824
def F_spec_EpOk (x_e : PEp) : (Bool) := bif (F_spec_l1In x_e.N 0 4294967295) then (bif (decide ((x_e.Key.length : Int) = 32)) then (bif (F_spec_l1In x_e.Seq 0 281474976710656) then ((sWin x_e.Win)) else (false)) else (false)) else (false)
theorem C_spec_EpOk (w0 : World) (v_x_e : Value) (x_e : PEp) (r_x_e : R_27 w0 v_x_e x_e)  : Fn Try.prog 76 #[v_x_e] w0 (fun v w' => Keep w0 w' ∧ O_4 w' w0.heap.size v (F_spec_EpOk x_e)) := by
  obtain ⟨a1, c2, a6, c7, rfl, r3, s4, r8, s9⟩ := r_x_e
  refine fn_of (n := 22) (l := [(.agg #[(.int .i64 x_e.N), (.slice a1 x_e.Key.length c2), (.int .i64 x_e.Seq), (.int .i64 x_e.Win.Top), (.slice a6 x_e.Win.Bits.length c7)]), undef, undef, undef, undef, undef, undef, undef, undef, undef, undef, undef, undef, undef, undef, undef, undef, undef, undef, undef, undef, undef]) Try.func76 rfl rfl (by kernel_rfl) rfl ?_
  refine wc_seq ?_
  refine wc_region ?_
  refine wl_box (want_none rfl) [(.int .i64 x_e.N), (.slice a1 x_e.Key.length c2), (.int .i64 x_e.Seq), (.int .i64 x_e.Win.Top), (.slice a6 x_e.Win.Bits.length c7)] rfl rfl rfl rfl ?_
  intro g11 w1 p12 p13 k14 b15
  have m16 := (Ch.base w0).extk k14
  refine wl_mv (.bool false) (want_none rfl) rfl rfl (.inr rfl) rfl ?_
  refine wl_nil ?_
  refine wq_then ?_
  refine wc_seq ?_
  refine wc_region ?_
  refine wl_pure (.pointer (some ⟨g11, 0, none⟩)) (want_none rfl) rfl rfl (by kernel_rfl) ?_
  refine wl_load1 (.int .i64 x_e.N) (want_none rfl) rfl rfl rfl rfl isAgg_3 b15 rfl ?_
  refine wl_call (want_none rfl) (args := #[(.int .i64 x_e.N), (.int .i64 0), (.int .i64 4294967295)]) rfl rfl (by kernel_rfl) (C_spec_l1In w1 x_e.N 0 4294967295) ?_
  rintro _ w2 ⟨k17, rfl⟩
  have m18 := m16.extk k17
  refine wl_mv (.bool (F_spec_l1In x_e.N 0 4294967295)) (want_none rfl) rfl rfl (.inl rfl) rfl ?_
  rcases Bool.eq_false_or_eq_true (F_spec_l1In x_e.N 0 4294967295) with h19 | h19
  · have q20 := spec_l1In_t h19
    refine wl_pure (.pointer (some ⟨g11, 1, none⟩)) (want_some rfl rfl rfl (congrArg Value.bool h19)) rfl rfl (by kernel_rfl) ?_
    have b21 := (b15.kp k17)
    refine wl_load1 (.slice a1 x_e.Key.length c2) (want_some rfl rfl rfl (congrArg Value.bool h19)) rfl rfl rfl rfl isAgg_22 b21 rfl ?_
    refine wl_len (want_some rfl rfl rfl (congrArg Value.bool h19)) rfl rfl rfl slTy_22 rfl (r3.from0 m18) ?_
    refine wl_pure (.bool (decide ((x_e.Key.length : Int) = 32))) (want_some rfl rfl rfl (congrArg Value.bool h19)) rfl rfl (by kernel_rfl) ?_
    refine wl_pick_t (.bool (decide ((x_e.Key.length : Int) = 32))) (want_none rfl) rfl rfl rfl (congrArg Value.bool h19) rfl ?_
    refine wl_mv (.bool (decide ((x_e.Key.length : Int) = 32))) (want_none rfl) rfl rfl (.inl rfl) rfl ?_
    rcases Bool.eq_false_or_eq_true (decide ((x_e.Key.length : Int) = 32)) with h22 | h22
    · have q23 := of_decide_eq_true h22
      refine wl_pure (.pointer (some ⟨g11, 2, none⟩)) (want_some rfl rfl rfl (congrArg Value.bool h22)) rfl rfl (by kernel_rfl) ?_
      refine wl_load1 (.int .i64 x_e.Seq) (want_some rfl rfl rfl (congrArg Value.bool h22)) rfl rfl rfl rfl isAgg_3 b21 rfl ?_
      refine wl_call (want_some rfl rfl rfl (congrArg Value.bool h22)) (args := #[(.int .i64 x_e.Seq), (.int .i64 0), (.int .i64 281474976710656)]) rfl rfl (by kernel_rfl) (C_spec_l1In w2 x_e.Seq 0 281474976710656) ?_
      rintro _ w3 ⟨k24, rfl⟩
      have m25 := m18.extk k24
      refine wl_pick_t (.bool (F_spec_l1In x_e.Seq 0 281474976710656)) (want_none rfl) rfl rfl rfl (congrArg Value.bool h22) rfl ?_
      refine wl_mv (.bool (F_spec_l1In x_e.Seq 0 281474976710656)) (want_none rfl) rfl rfl (.inl rfl) rfl ?_
      rcases Bool.eq_false_or_eq_true (F_spec_l1In x_e.Seq 0 281474976710656) with h26 | h26
      · have q27 := spec_l1In_t h26
        refine wl_pure (.pointer (some ⟨g11, 3, none⟩)) (want_some rfl rfl rfl (congrArg Value.bool h26)) rfl rfl (by kernel_rfl) ?_
        have b28 := (b21.kp k24)
        refine wl_loadN [(.int .i64 x_e.Win.Top), (.slice a6 x_e.Win.Bits.length c7)] (want_some rfl rfl rfl (congrArg Value.bool h26)) rfl rfl rfl rfl isAgg_25 sizeOf_25 b28 rfl ?_
        refine wl_call (want_some rfl rfl rfl (congrArg Value.bool h26)) (args := #[(.agg #[(.int .i64 x_e.Win.Top), (.slice a6 x_e.Win.Bits.length c7)])]) rfl rfl (by kernel_rfl) (C_spec_WinOk w3 (.agg #[(.int .i64 x_e.Win.Top), (.slice a6 x_e.Win.Bits.length c7)]) x_e.Win (show R_25 w3 (.agg #[(.int .i64 x_e.Win.Top), (.slice a6 x_e.Win.Bits.length c7)]) x_e.Win from ⟨_, _, rfl, (r8.from0 m25), s9⟩)) ?_
        rintro _ w4 ⟨k29, rfl⟩
        have m30 := m25.extk k29
        refine wl_pick_t (.bool (sWin x_e.Win)) (want_none rfl) rfl rfl rfl (congrArg Value.bool h26) rfl ?_
        refine wl_mv (.bool (sWin x_e.Win)) (want_none rfl) rfl rfl (.inr rfl) rfl ?_
        refine wl_nil ?_
        refine wq_then ?_
        refine wc_ret ?_
        refine ret_1 (.inl rfl) (.bool (sWin x_e.Win)) rfl rfl ?_
        refine ⟨m30.keep0, ?_⟩
        have hF31 : F_spec_EpOk x_e = (sWin x_e.Win) := by simp only [F_spec_EpOk, h19, h22, h26, cond_true, cond_false]
        rw [hF31]
        exact rfl
      · have q32 := spec_l1In_f h26
        refine wl_skip rfl rfl rfl (congrArg Value.bool h26) rfl rfl rfl ?_
        refine wl_skip rfl rfl rfl (congrArg Value.bool h26) rfl rfl rfl ?_
        refine wl_skip rfl rfl rfl (congrArg Value.bool h26) rfl rfl rfl ?_
        refine wl_pick_f (.bool false) (want_none rfl) rfl rfl rfl (congrArg Value.bool h26) rfl ?_
        refine wl_mv (.bool false) (want_none rfl) rfl rfl (.inr rfl) rfl ?_
        refine wl_nil ?_
        refine wq_then ?_
        refine wc_ret ?_
        refine ret_1 (.inl rfl) (.bool false) rfl rfl ?_
        refine ⟨m25.keep0, ?_⟩
        have hF33 : F_spec_EpOk x_e = false := by simp only [F_spec_EpOk, h19, h22, h26, cond_true, cond_false]
        rw [hF33]
        exact rfl
    · have q34 := of_decide_eq_false h22
      refine wl_skip rfl rfl rfl (congrArg Value.bool h22) rfl rfl rfl ?_
      refine wl_skip rfl rfl rfl (congrArg Value.bool h22) rfl rfl rfl ?_
      refine wl_skip rfl rfl rfl (congrArg Value.bool h22) rfl rfl rfl ?_
      refine wl_pick_f (.bool false) (want_none rfl) rfl rfl rfl (congrArg Value.bool h22) rfl ?_
      refine wl_mv (.bool false) (want_none rfl) rfl rfl (.inl rfl) rfl ?_
      refine wl_skip rfl rfl rfl rfl rfl rfl rfl ?_
      refine wl_skip rfl rfl rfl rfl rfl rfl rfl ?_
      refine wl_skip rfl rfl rfl rfl rfl rfl rfl ?_
      refine wl_pick_f (.bool false) (want_none rfl) rfl rfl rfl rfl rfl ?_
      refine wl_mv (.bool false) (want_none rfl) rfl rfl (.inr rfl) rfl ?_
      refine wl_nil ?_
      refine wq_then ?_
      refine wc_ret ?_
      refine ret_1 (.inl rfl) (.bool false) rfl rfl ?_
      refine ⟨m18.keep0, ?_⟩
      have hF35 : F_spec_EpOk x_e = false := by simp only [F_spec_EpOk, h19, h22, cond_true, cond_false]
      rw [hF35]
      exact rfl
  · have q36 := spec_l1In_f h19
    refine wl_skip rfl rfl rfl (congrArg Value.bool h19) rfl rfl rfl ?_
    refine wl_skip rfl rfl rfl (congrArg Value.bool h19) rfl rfl rfl ?_
    refine wl_skip rfl rfl rfl (congrArg Value.bool h19) rfl rfl rfl ?_
    refine wl_skip rfl rfl rfl (congrArg Value.bool h19) rfl rfl rfl ?_
    refine wl_pick_f (.bool false) (want_none rfl) rfl rfl rfl (congrArg Value.bool h19) rfl ?_
    refine wl_mv (.bool false) (want_none rfl) rfl rfl (.inl rfl) rfl ?_
    refine wl_skip rfl rfl rfl rfl rfl rfl rfl ?_
    refine wl_skip rfl rfl rfl rfl rfl rfl rfl ?_
    refine wl_skip rfl rfl rfl rfl rfl rfl rfl ?_
    refine wl_pick_f (.bool false) (want_none rfl) rfl rfl rfl rfl rfl ?_
    refine wl_mv (.bool false) (want_none rfl) rfl rfl (.inl rfl) rfl ?_
    refine wl_skip rfl rfl rfl rfl rfl rfl rfl ?_
    refine wl_skip rfl rfl rfl rfl rfl rfl rfl ?_
    refine wl_skip rfl rfl rfl rfl rfl rfl rfl ?_
    refine wl_pick_f (.bool false) (want_none rfl) rfl rfl rfl rfl rfl ?_
    refine wl_mv (.bool false) (want_none rfl) rfl rfl (.inr rfl) rfl ?_
    refine wl_nil ?_
    refine wq_then ?_
    refine wc_ret ?_
    refine ret_1 (.inl rfl) (.bool false) rfl rfl ?_
    refine ⟨m18.keep0, ?_⟩
    have hF37 : F_spec_EpOk x_e = false := by simp only [F_spec_EpOk, h19, cond_true, cond_false]
    rw [hF37]
    exact rfl
theorem spec_EpOk_t {e : PEp} (h : F_spec_EpOk e = true) : 0 ≤ e.N ∧ e.N ≤ 4294967295 ∧ (e.Key.length : Int) = 32 := by
  cases h1 : F_spec_l1In e.N 0 4294967295 with
  | false => simp [F_spec_EpOk, h1] at h
  | true =>
    have := spec_l1In_t h1
    by_cases h2 : (e.Key.length : Int) = 32
    · exact ⟨this.1, this.2, h2⟩
    · simp [F_spec_EpOk, h1, h2] at h

def F_spec_l14None (x_e : PEp) : (Bool) := bif (decide (x_e.N = 0)) then (bif (decide ((x_e.Key.length : Int) = 0)) then (bif (decide (x_e.Seq = 0)) then (bif (decide (x_e.Win.Top = 0)) then (decide ((x_e.Win.Bits.length : Int) = 0)) else (false)) else (false)) else (false)) else (false)
theorem C_spec_l14None (w0 : World) (v_x_e : Value) (x_e : PEp) (r_x_e : R_27 w0 v_x_e x_e)  : Fn Try.prog 77 #[v_x_e] w0 (fun v w' => Keep w0 w' ∧ O_4 w' w0.heap.size v (F_spec_l14None x_e)) := by
  obtain ⟨a1, c2, a6, c7, rfl, r3, s4, r8, s9⟩ := r_x_e
  refine fn_of (n := 30) (l := [(.agg #[(.int .i64 x_e.N), (.slice a1 x_e.Key.length c2), (.int .i64 x_e.Seq), (.int .i64 x_e.Win.Top), (.slice a6 x_e.Win.Bits.length c7)]), undef, undef, undef, undef, undef, undef, undef, undef, undef, undef, undef, undef, undef, undef, undef, undef, undef, undef, undef, undef, undef, undef, undef, undef, undef, undef, undef, undef, undef]) Try.func77 rfl rfl (by kernel_rfl) rfl ?_
  refine wc_seq ?_
  refine wc_region ?_
  refine wl_box (want_none rfl) [(.int .i64 x_e.N), (.slice a1 x_e.Key.length c2), (.int .i64 x_e.Seq), (.int .i64 x_e.Win.Top), (.slice a6 x_e.Win.Bits.length c7)] rfl rfl rfl rfl ?_
  intro g11 w1 p12 p13 k14 b15
  have m16 := (Ch.base w0).extk k14
  refine wl_mv (.bool false) (want_none rfl) rfl rfl (.inr rfl) rfl ?_
  refine wl_nil ?_
  refine wq_then ?_
  refine wc_seq ?_
  refine wc_region ?_
  refine wl_pure (.pointer (some ⟨g11, 0, none⟩)) (want_none rfl) rfl rfl (by kernel_rfl) ?_
  refine wl_load1 (.int .i64 x_e.N) (want_none rfl) rfl rfl rfl rfl isAgg_3 b15 rfl ?_
  refine wl_pure (.bool (decide (x_e.N = 0))) (want_none rfl) rfl rfl (by kernel_rfl) ?_
  refine wl_mv (.bool (decide (x_e.N = 0))) (want_none rfl) rfl rfl (.inl rfl) rfl ?_
  rcases Bool.eq_false_or_eq_true (decide (x_e.N = 0)) with h17 | h17
  · have q18 := of_decide_eq_true h17
    refine wl_pure (.pointer (some ⟨g11, 1, none⟩)) (want_some rfl rfl rfl (congrArg Value.bool h17)) rfl rfl (by kernel_rfl) ?_
    refine wl_load1 (.slice a1 x_e.Key.length c2) (want_some rfl rfl rfl (congrArg Value.bool h17)) rfl rfl rfl rfl isAgg_22 b15 rfl ?_
    refine wl_len (want_some rfl rfl rfl (congrArg Value.bool h17)) rfl rfl rfl slTy_22 rfl (r3.from0 m16) ?_
    refine wl_pure (.bool (decide ((x_e.Key.length : Int) = 0))) (want_some rfl rfl rfl (congrArg Value.bool h17)) rfl rfl (by kernel_rfl) ?_
    refine wl_pick_t (.bool (decide ((x_e.Key.length : Int) = 0))) (want_none rfl) rfl rfl rfl (congrArg Value.bool h17) rfl ?_
    refine wl_mv (.bool (decide ((x_e.Key.length : Int) = 0))) (want_none rfl) rfl rfl (.inl rfl) rfl ?_
    rcases Bool.eq_false_or_eq_true (decide ((x_e.Key.length : Int) = 0)) with h19 | h19
    · have q20 := of_decide_eq_true h19
      refine wl_pure (.pointer (some ⟨g11, 2, none⟩)) (want_some rfl rfl rfl (congrArg Value.bool h19)) rfl rfl (by kernel_rfl) ?_
      refine wl_load1 (.int .i64 x_e.Seq) (want_some rfl rfl rfl (congrArg Value.bool h19)) rfl rfl rfl rfl isAgg_3 b15 rfl ?_
      refine wl_pure (.bool (decide (x_e.Seq = 0))) (want_some rfl rfl rfl (congrArg Value.bool h19)) rfl rfl (by kernel_rfl) ?_
      refine wl_pick_t (.bool (decide (x_e.Seq = 0))) (want_none rfl) rfl rfl rfl (congrArg Value.bool h19) rfl ?_
      refine wl_mv (.bool (decide (x_e.Seq = 0))) (want_none rfl) rfl rfl (.inl rfl) rfl ?_
      rcases Bool.eq_false_or_eq_true (decide (x_e.Seq = 0)) with h21 | h21
      · have q22 := of_decide_eq_true h21
        refine wl_pure (.pointer (some ⟨g11, 3, none⟩)) (want_some rfl rfl rfl (congrArg Value.bool h21)) rfl rfl (by kernel_rfl) ?_
        refine wl_pure (.pointer (some ⟨g11, 3, none⟩)) (want_some rfl rfl rfl (congrArg Value.bool h21)) rfl rfl (by kernel_rfl) ?_
        refine wl_load1 (.int .i64 x_e.Win.Top) (want_some rfl rfl rfl (congrArg Value.bool h21)) rfl rfl rfl rfl isAgg_3 b15 rfl ?_
        refine wl_pure (.bool (decide (x_e.Win.Top = 0))) (want_some rfl rfl rfl (congrArg Value.bool h21)) rfl rfl (by kernel_rfl) ?_
        refine wl_pick_t (.bool (decide (x_e.Win.Top = 0))) (want_none rfl) rfl rfl rfl (congrArg Value.bool h21) rfl ?_
        refine wl_mv (.bool (decide (x_e.Win.Top = 0))) (want_none rfl) rfl rfl (.inl rfl) rfl ?_
        rcases Bool.eq_false_or_eq_true (decide (x_e.Win.Top = 0)) with h23 | h23
        · have q24 := of_decide_eq_true h23
          refine wl_pure (.pointer (some ⟨g11, 3, none⟩)) (want_some rfl rfl rfl (congrArg Value.bool h23)) rfl rfl (by kernel_rfl) ?_
          refine wl_pure (.pointer (some ⟨g11, 4, none⟩)) (want_some rfl rfl rfl (congrArg Value.bool h23)) rfl rfl (by kernel_rfl) ?_
          refine wl_load1 (.slice a6 x_e.Win.Bits.length c7) (want_some rfl rfl rfl (congrArg Value.bool h23)) rfl rfl rfl rfl isAgg_23 b15 rfl ?_
          refine wl_len (want_some rfl rfl rfl (congrArg Value.bool h23)) rfl rfl rfl slTy_23 rfl (r8.from0 m16) ?_
          refine wl_pure (.bool (decide ((x_e.Win.Bits.length : Int) = 0))) (want_some rfl rfl rfl (congrArg Value.bool h23)) rfl rfl (by kernel_rfl) ?_
          refine wl_pick_t (.bool (decide ((x_e.Win.Bits.length : Int) = 0))) (want_none rfl) rfl rfl rfl (congrArg Value.bool h23) rfl ?_
          refine wl_mv (.bool (decide ((x_e.Win.Bits.length : Int) = 0))) (want_none rfl) rfl rfl (.inr rfl) rfl ?_
          refine wl_nil ?_
          refine wq_then ?_
          refine wc_ret ?_
          refine ret_1 (.inl rfl) (.bool (decide ((x_e.Win.Bits.length : Int) = 0))) rfl rfl ?_
          refine ⟨m16.keep0, ?_⟩
          have hF25 : F_spec_l14None x_e = decide ((x_e.Win.Bits.length : Int) = 0) := by simp only [F_spec_l14None, h17, h19, h21, h23, cond_true, cond_false]
          rw [hF25]
          exact rfl
        · have q26 := of_decide_eq_false h23
          refine wl_skip rfl rfl rfl (congrArg Value.bool h23) rfl rfl rfl ?_
          refine wl_skip rfl rfl rfl (congrArg Value.bool h23) rfl rfl rfl ?_
          refine wl_skip rfl rfl rfl (congrArg Value.bool h23) rfl rfl rfl ?_
          refine wl_skip rfl rfl rfl (congrArg Value.bool h23) rfl rfl rfl ?_
          refine wl_skip rfl rfl rfl (congrArg Value.bool h23) rfl rfl rfl ?_
          refine wl_pick_f (.bool false) (want_none rfl) rfl rfl rfl (congrArg Value.bool h23) rfl ?_
          refine wl_mv (.bool false) (want_none rfl) rfl rfl (.inr rfl) rfl ?_
          refine wl_nil ?_
          refine wq_then ?_
          refine wc_ret ?_
          refine ret_1 (.inl rfl) (.bool false) rfl rfl ?_
          refine ⟨m16.keep0, ?_⟩
          have hF27 : F_spec_l14None x_e = false := by simp only [F_spec_l14None, h17, h19, h21, h23, cond_true, cond_false]
          rw [hF27]
          exact rfl
      · have q28 := of_decide_eq_false h21
        refine wl_skip rfl rfl rfl (congrArg Value.bool h21) rfl rfl rfl ?_
        refine wl_skip rfl rfl rfl (congrArg Value.bool h21) rfl rfl rfl ?_
        refine wl_skip rfl rfl rfl (congrArg Value.bool h21) rfl rfl rfl ?_
        refine wl_skip rfl rfl rfl (congrArg Value.bool h21) rfl rfl rfl ?_
        refine wl_pick_f (.bool false) (want_none rfl) rfl rfl rfl (congrArg Value.bool h21) rfl ?_
        refine wl_mv (.bool false) (want_none rfl) rfl rfl (.inl rfl) rfl ?_
        refine wl_skip rfl rfl rfl rfl rfl rfl rfl ?_
        refine wl_skip rfl rfl rfl rfl rfl rfl rfl ?_
        refine wl_skip rfl rfl rfl rfl rfl rfl rfl ?_
        refine wl_skip rfl rfl rfl rfl rfl rfl rfl ?_
        refine wl_skip rfl rfl rfl rfl rfl rfl rfl ?_
        refine wl_pick_f (.bool false) (want_none rfl) rfl rfl rfl rfl rfl ?_
        refine wl_mv (.bool false) (want_none rfl) rfl rfl (.inr rfl) rfl ?_
        refine wl_nil ?_
        refine wq_then ?_
        refine wc_ret ?_
        refine ret_1 (.inl rfl) (.bool false) rfl rfl ?_
        refine ⟨m16.keep0, ?_⟩
        have hF29 : F_spec_l14None x_e = false := by simp only [F_spec_l14None, h17, h19, h21, cond_true, cond_false]
        rw [hF29]
        exact rfl
    · have q30 := of_decide_eq_false h19
      refine wl_skip rfl rfl rfl (congrArg Value.bool h19) rfl rfl rfl ?_
      refine wl_skip rfl rfl rfl (congrArg Value.bool h19) rfl rfl rfl ?_
      refine wl_skip rfl rfl rfl (congrArg Value.bool h19) rfl rfl rfl ?_
      refine wl_pick_f (.bool false) (want_none rfl) rfl rfl rfl (congrArg Value.bool h19) rfl ?_
      refine wl_mv (.bool false) (want_none rfl) rfl rfl (.inl rfl) rfl ?_
      refine wl_skip rfl rfl rfl rfl rfl rfl rfl ?_
      refine wl_skip rfl rfl rfl rfl rfl rfl rfl ?_
      refine wl_skip rfl rfl rfl rfl rfl rfl rfl ?_
      refine wl_skip rfl rfl rfl rfl rfl rfl rfl ?_
      refine wl_pick_f (.bool false) (want_none rfl) rfl rfl rfl rfl rfl ?_
      refine wl_mv (.bool false) (want_none rfl) rfl rfl (.inl rfl) rfl ?_
      refine wl_skip rfl rfl rfl rfl rfl rfl rfl ?_
      refine wl_skip rfl rfl rfl rfl rfl rfl rfl ?_
      refine wl_skip rfl rfl rfl rfl rfl rfl rfl ?_
      refine wl_skip rfl rfl rfl rfl rfl rfl rfl ?_
      refine wl_skip rfl rfl rfl rfl rfl rfl rfl ?_
      refine wl_pick_f (.bool false) (want_none rfl) rfl rfl rfl rfl rfl ?_
      refine wl_mv (.bool false) (want_none rfl) rfl rfl (.inr rfl) rfl ?_
      refine wl_nil ?_
      refine wq_then ?_
      refine wc_ret ?_
      refine ret_1 (.inl rfl) (.bool false) rfl rfl ?_
      refine ⟨m16.keep0, ?_⟩
      have hF31 : F_spec_l14None x_e = false := by simp only [F_spec_l14None, h17, h19, cond_true, cond_false]
      rw [hF31]
      exact rfl
  · have q32 := of_decide_eq_false h17
    refine wl_skip rfl rfl rfl (congrArg Value.bool h17) rfl rfl rfl ?_
    refine wl_skip rfl rfl rfl (congrArg Value.bool h17) rfl rfl rfl ?_
    refine wl_skip rfl rfl rfl (congrArg Value.bool h17) rfl rfl rfl ?_
    refine wl_skip rfl rfl rfl (congrArg Value.bool h17) rfl rfl rfl ?_
    refine wl_pick_f (.bool false) (want_none rfl) rfl rfl rfl (congrArg Value.bool h17) rfl ?_
    refine wl_mv (.bool false) (want_none rfl) rfl rfl (.inl rfl) rfl ?_
    refine wl_skip rfl rfl rfl rfl rfl rfl rfl ?_
    refine wl_skip rfl rfl rfl rfl rfl rfl rfl ?_
    refine wl_skip rfl rfl rfl rfl rfl rfl rfl ?_
    refine wl_pick_f (.bool false) (want_none rfl) rfl rfl rfl rfl rfl ?_
    refine wl_mv (.bool false) (want_none rfl) rfl rfl (.inl rfl) rfl ?_
    refine wl_skip rfl rfl rfl rfl rfl rfl rfl ?_
    refine wl_skip rfl rfl rfl rfl rfl rfl rfl ?_
    refine wl_skip rfl rfl rfl rfl rfl rfl rfl ?_
    refine wl_skip rfl rfl rfl rfl rfl rfl rfl ?_
    refine wl_pick_f (.bool false) (want_none rfl) rfl rfl rfl rfl rfl ?_
    refine wl_mv (.bool false) (want_none rfl) rfl rfl (.inl rfl) rfl ?_
    refine wl_skip rfl rfl rfl rfl rfl rfl rfl ?_
    refine wl_skip rfl rfl rfl rfl rfl rfl rfl ?_
    refine wl_skip rfl rfl rfl rfl rfl rfl rfl ?_
    refine wl_skip rfl rfl rfl rfl rfl rfl rfl ?_
    refine wl_skip rfl rfl rfl rfl rfl rfl rfl ?_
    refine wl_pick_f (.bool false) (want_none rfl) rfl rfl rfl rfl rfl ?_
    refine wl_mv (.bool false) (want_none rfl) rfl rfl (.inr rfl) rfl ?_
    refine wl_nil ?_
    refine wq_then ?_
    refine wc_ret ?_
    refine ret_1 (.inl rfl) (.bool false) rfl rfl ?_
    refine ⟨m16.keep0, ?_⟩
    have hF33 : F_spec_l14None x_e = false := by simp only [F_spec_l14None, h17, cond_true, cond_false]
    rw [hF33]
    exact rfl

def R_29 (w : World) (v : Value) (x : (PChan)) : Prop := ∃ (a1 : Option Addr) (c1 : Nat) (a2 : Option Addr) (c2 : Nat) (a3 : Option Addr) (c3 : Nat) (a4 : Option Addr) (c4 : Nat) (a5 : Option Addr) (c5 : Nat) (a6 : Option Addr) (c6 : Nat), v = .agg #[.int .i64 x.Role, .slice a1 x.Sn.length c1, .int .i64 x.Cur.N, .slice a2 x.Cur.Key.length c2, .int .i64 x.Cur.Seq, .int .i64 x.Cur.Win.Top, .slice a3 x.Cur.Win.Bits.length c3, .int .i64 x.Old.N, .slice a4 x.Old.Key.length c4, .int .i64 x.Old.Seq, .int .i64 x.Old.Win.Top, .slice a5 x.Old.Win.Bits.length c5, .bool x.HasOld, .int .i64 x.Until, .slice a6 x.Next.length c6] ∧ Rd w 1 (.slice a1 x.Sn.length c1) x.Sn.length (x.Sn.map bV) ∧ x.Sn.length ≤ 1073741824 ∧ Rd w 1 (.slice a2 x.Cur.Key.length c2) x.Cur.Key.length (x.Cur.Key.map bV) ∧ x.Cur.Key.length ≤ 1073741824 ∧ Rd w 1 (.slice a3 x.Cur.Win.Bits.length c3) x.Cur.Win.Bits.length (x.Cur.Win.Bits.map iV) ∧ x.Cur.Win.Bits.length ≤ 1073741824 ∧ Rd w 1 (.slice a4 x.Old.Key.length c4) x.Old.Key.length (x.Old.Key.map bV) ∧ x.Old.Key.length ≤ 1073741824 ∧ Rd w 1 (.slice a5 x.Old.Win.Bits.length c5) x.Old.Win.Bits.length (x.Old.Win.Bits.map iV) ∧ x.Old.Win.Bits.length ≤ 1073741824 ∧ Rd w 1 (.slice a6 x.Next.length c6) x.Next.length (x.Next.map bV) ∧ x.Next.length ≤ 1073741824
def F_spec_ChanOk (x_c : PChan) : (Bool) := bif (F_spec_l1In x_c.Role 0 1) then (bif (decide ((x_c.Sn.length : Int) = 12)) then (bif (F_spec_EpOk x_c.Cur) then (bif x_c.HasOld then (bif (decide (x_c.Role = 0)) then (bif (F_spec_EpOk x_c.Old) then (bif (decide (x_c.Old.N = (x_c.Cur.N - 1))) then (bif (F_spec_l1In x_c.Until 0 1000005) then (bif (decide ((x_c.Next.length : Int) = 0)) then (true) else (bif (decide ((x_c.Next.length : Int) = 32)) then (decide (x_c.Cur.N < 4294967295)) else (false))) else (false)) else (false)) else (false)) else (bif (F_spec_EpOk x_c.Old) then (bif (decide (x_c.Old.N = (x_c.Cur.N - 1))) then (bif (F_spec_l1In x_c.Until (-1) 1000005) then (bif (decide ((x_c.Next.length : Int) = 0)) then (true) else (false)) else (false)) else (false)) else (false))) else (bif (F_spec_l14None x_c.Old) then (bif (decide (x_c.Until = 0)) then (bif (decide ((x_c.Next.length : Int) = 0)) then (true) else (bif (decide (x_c.Role = 0)) then (bif (decide ((x_c.Next.length : Int) = 32)) then (decide (x_c.Cur.N < 4294967295)) else (false)) else (false))) else (false)) else (false))) else (false)) else (false)) else (false)
theorem C_spec_ChanOk (w0 : World) (v_x_c : Value) (x_c : PChan) (r_x_c : R_29 w0 v_x_c x_c)  : Fn Try.prog 24 #[v_x_c] w0 (fun v w' => Keep w0 w' ∧ O_4 w' w0.heap.size v (F_spec_ChanOk x_c)) := by
  obtain ⟨a1, c2, a6, c7, a11, c12, a16, c17, a21, c22, a26, c27, rfl, r3, s4, r8, s9, r13, s14, r18, s19, r23, s24, r28, s29⟩ := r_x_c
  refine fn_of (n := 74) (l := [(.agg #[(.int .i64 x_c.Role), (.slice a1 x_c.Sn.length c2), (.int .i64 x_c.Cur.N), (.slice a6 x_c.Cur.Key.length c7), (.int .i64 x_c.Cur.Seq), (.int .i64 x_c.Cur.Win.Top), (.slice a11 x_c.Cur.Win.Bits.length c12), (.int .i64 x_c.Old.N), (.slice a16 x_c.Old.Key.length c17), (.int .i64 x_c.Old.Seq), (.int .i64 x_c.Old.Win.Top), (.slice a21 x_c.Old.Win.Bits.length c22), (.bool x_c.HasOld), (.int .i64 x_c.Until), (.slice a26 x_c.Next.length c27)]), undef, undef, undef, undef, undef, undef, undef, undef, undef, undef, undef, undef, undef, undef, undef, undef, undef, undef, undef, undef, undef, undef, undef, undef, undef, undef, undef, undef, undef, undef, undef, undef, undef, undef, undef, undef, undef, undef, undef, undef, undef, undef, undef, undef, undef, undef, undef, undef, undef, undef, undef, undef, undef, undef, undef, undef, undef, undef, undef, undef, undef, undef, undef, undef, undef, undef, undef, undef, undef, undef, undef, undef, undef]) Try.func24 rfl rfl (by kernel_rfl) rfl ?_
  refine wc_seq ?_
  refine wc_region ?_
  refine wl_box (want_none rfl) [(.int .i64 x_c.Role), (.slice a1 x_c.Sn.length c2), (.int .i64 x_c.Cur.N), (.slice a6 x_c.Cur.Key.length c7), (.int .i64 x_c.Cur.Seq), (.int .i64 x_c.Cur.Win.Top), (.slice a11 x_c.Cur.Win.Bits.length c12), (.int .i64 x_c.Old.N), (.slice a16 x_c.Old.Key.length c17), (.int .i64 x_c.Old.Seq), (.int .i64 x_c.Old.Win.Top), (.slice a21 x_c.Old.Win.Bits.length c22), (.bool x_c.HasOld), (.int .i64 x_c.Until), (.slice a26 x_c.Next.length c27)] rfl rfl rfl rfl ?_
  intro g31 w1 p32 p33 k34 b35
  have m36 := (Ch.base w0).extk k34
  refine wl_mv (.bool false) (want_none rfl) rfl rfl (.inr rfl) rfl ?_
  refine wl_nil ?_
  refine wq_then ?_
  refine wc_seq ?_
  refine wc_seq ?_
  refine wc_region ?_
  refine wl_pure (.pointer (some ⟨g31, 0, none⟩)) (want_none rfl) rfl rfl (by kernel_rfl) ?_
  refine wl_load1 (.int .i64 x_c.Role) (want_none rfl) rfl rfl rfl rfl isAgg_3 b35 rfl ?_
  refine wl_call (want_none rfl) (args := #[(.int .i64 x_c.Role), (.int .i64 0), (.int .i64 1)]) rfl rfl (by kernel_rfl) (C_spec_l1In w1 x_c.Role 0 1) ?_
  rintro _ w2 ⟨k37, rfl⟩
  have m38 := m36.extk k37
  refine wl_pure (.bool (!(F_spec_l1In x_c.Role 0 1))) (want_none rfl) rfl rfl (by kernel_rfl) ?_
  refine wl_mv (.bool (!(F_spec_l1In x_c.Role 0 1))) (want_none rfl) rfl rfl (.inl rfl) rfl ?_
  rcases Bool.eq_false_or_eq_true (F_spec_l1In x_c.Role 0 1) with h39 | h39
  · have q40 := spec_l1In_t h39
    refine wl_pure (.pointer (some ⟨g31, 1, none⟩)) (want_some rfl rfl rfl (congrArg (fun b => Value.bool (!b)) h39)) rfl rfl (by kernel_rfl) ?_
    have b41 := (b35.kp k37)
    refine wl_load1 (.slice a1 x_c.Sn.length c2) (want_some rfl rfl rfl (congrArg (fun b => Value.bool (!b)) h39)) rfl rfl rfl rfl isAgg_22 b41 rfl ?_
    refine wl_len (want_some rfl rfl rfl (congrArg (fun b => Value.bool (!b)) h39)) rfl rfl rfl slTy_22 rfl (r3.from0 m38) ?_
    refine wl_pure (.bool (!(decide ((x_c.Sn.length : Int) = 12)))) (want_some rfl rfl rfl (congrArg (fun b => Value.bool (!b)) h39)) rfl rfl (by kernel_rfl) ?_
    refine wl_pick_f (.bool (!(decide ((x_c.Sn.length : Int) = 12)))) (want_none rfl) rfl rfl rfl (congrArg (fun b => Value.bool (!b)) h39) rfl ?_
    refine wl_mv (.bool (!(decide ((x_c.Sn.length : Int) = 12)))) (want_none rfl) rfl rfl (.inl rfl) rfl ?_
    rcases Bool.eq_false_or_eq_true (decide ((x_c.Sn.length : Int) = 12)) with h42 | h42
    · have q43 := of_decide_eq_true h42
      refine wl_pure (.pointer (some ⟨g31, 2, none⟩)) (want_some rfl rfl rfl (congrArg (fun b => Value.bool (!b)) h42)) rfl rfl (by kernel_rfl) ?_
      refine wl_loadN [(.int .i64 x_c.Cur.N), (.slice a6 x_c.Cur.Key.length c7), (.int .i64 x_c.Cur.Seq), (.int .i64 x_c.Cur.Win.Top), (.slice a11 x_c.Cur.Win.Bits.length c12)] (want_some rfl rfl rfl (congrArg (fun b => Value.bool (!b)) h42)) rfl rfl rfl rfl isAgg_27 sizeOf_27 b41 rfl ?_
      refine wl_call (want_some rfl rfl rfl (congrArg (fun b => Value.bool (!b)) h42)) (args := #[(.agg #[(.int .i64 x_c.Cur.N), (.slice a6 x_c.Cur.Key.length c7), (.int .i64 x_c.Cur.Seq), (.int .i64 x_c.Cur.Win.Top), (.slice a11 x_c.Cur.Win.Bits.length c12)])]) rfl rfl (by kernel_rfl) (C_spec_EpOk w2 (.agg #[(.int .i64 x_c.Cur.N), (.slice a6 x_c.Cur.Key.length c7), (.int .i64 x_c.Cur.Seq), (.int .i64 x_c.Cur.Win.Top), (.slice a11 x_c.Cur.Win.Bits.length c12)]) x_c.Cur (show R_27 w2 (.agg #[(.int .i64 x_c.Cur.N), (.slice a6 x_c.Cur.Key.length c7), (.int .i64 x_c.Cur.Seq), (.int .i64 x_c.Cur.Win.Top), (.slice a11 x_c.Cur.Win.Bits.length c12)]) x_c.Cur from ⟨_, _, _, _, rfl, (r8.from0 m38), s9, (r13.from0 m38), s14⟩)) ?_
      rintro _ w3 ⟨k44, rfl⟩
      have m45 := m38.extk k44
      refine wl_pure (.bool (!(F_spec_EpOk x_c.Cur))) (want_some rfl rfl rfl (congrArg (fun b => Value.bool (!b)) h42)) rfl rfl (by kernel_rfl) ?_
      refine wl_pick_f (.bool (!(F_spec_EpOk x_c.Cur))) (want_none rfl) rfl rfl rfl (congrArg (fun b => Value.bool (!b)) h42) rfl ?_
      refine wl_nil ?_
      refine wq_then ?_
      rcases Bool.eq_false_or_eq_true (F_spec_EpOk x_c.Cur) with h46 | h46
      · have q47 := spec_EpOk_t h46
        refine wc_false (congrArg (fun b => Value.bool (!b)) h46) ?_
        refine wc_skip ?_
        refine wq_then ?_
        refine wc_seq ?_
        refine wc_seq ?_
        refine wc_region ?_
        refine wl_pure (.pointer (some ⟨g31, 12, none⟩)) (want_none rfl) rfl rfl (by kernel_rfl) ?_
        have b48 := (b41.kp k44)
        refine wl_load1 (.bool x_c.HasOld) (want_none rfl) rfl rfl rfl rfl isAgg_4 b48 rfl ?_
        refine wl_nil ?_
        refine wq_then ?_
        rcases Bool.eq_false_or_eq_true x_c.HasOld with h49 | h49
        · skip
          refine wc_true (congrArg Value.bool h49) ?_
          refine wc_seq ?_
          refine wc_region ?_
          refine wl_mv (.int .i64 (-1)) (want_none rfl) rfl rfl (.inr rfl) rfl ?_
          refine wl_nil ?_
          refine wq_then ?_
          refine wc_seq ?_
          refine wc_seq ?_
          refine wc_region ?_
          refine wl_pure (.pointer (some ⟨g31, 0, none⟩)) (want_none rfl) rfl rfl (by kernel_rfl) ?_
          refine wl_load1 (.int .i64 x_c.Role) (want_none rfl) rfl rfl rfl rfl isAgg_3 b48 rfl ?_
          refine wl_pure (.bool (decide (x_c.Role = 0))) (want_none rfl) rfl rfl (by kernel_rfl) ?_
          refine wl_nil ?_
          refine wq_then ?_
          rcases Bool.eq_false_or_eq_true (decide (x_c.Role = 0)) with h51 | h51
          · have q52 := of_decide_eq_true h51
            refine wc_true (congrArg Value.bool h51) ?_
            refine wc_region ?_
            refine wl_mv (.int .i64 0) (want_none rfl) rfl rfl (.inr rfl) rfl ?_
            refine wl_nil ?_
            refine wq_then ?_
            refine wc_seq ?_
            refine wc_region ?_
            refine wl_pure (.pointer (some ⟨g31, 7, none⟩)) (want_none rfl) rfl rfl (by kernel_rfl) ?_
            refine wl_loadN [(.int .i64 x_c.Old.N), (.slice a16 x_c.Old.Key.length c17), (.int .i64 x_c.Old.Seq), (.int .i64 x_c.Old.Win.Top), (.slice a21 x_c.Old.Win.Bits.length c22)] (want_none rfl) rfl rfl rfl rfl isAgg_27 sizeOf_27 b48 rfl ?_
            refine wl_call (want_none rfl) (args := #[(.agg #[(.int .i64 x_c.Old.N), (.slice a16 x_c.Old.Key.length c17), (.int .i64 x_c.Old.Seq), (.int .i64 x_c.Old.Win.Top), (.slice a21 x_c.Old.Win.Bits.length c22)])]) rfl rfl (by kernel_rfl) (C_spec_EpOk w3 (.agg #[(.int .i64 x_c.Old.N), (.slice a16 x_c.Old.Key.length c17), (.int .i64 x_c.Old.Seq), (.int .i64 x_c.Old.Win.Top), (.slice a21 x_c.Old.Win.Bits.length c22)]) x_c.Old (show R_27 w3 (.agg #[(.int .i64 x_c.Old.N), (.slice a16 x_c.Old.Key.length c17), (.int .i64 x_c.Old.Seq), (.int .i64 x_c.Old.Win.Top), (.slice a21 x_c.Old.Win.Bits.length c22)]) x_c.Old from ⟨_, _, _, _, rfl, (r18.from0 m45), s19, (r23.from0 m45), s24⟩)) ?_
            rintro _ w4 ⟨k53, rfl⟩
            have m54 := m45.extk k53
            refine wl_pure (.bool (!(F_spec_EpOk x_c.Old))) (want_none rfl) rfl rfl (by kernel_rfl) ?_
            refine wl_mv (.bool (!(F_spec_EpOk x_c.Old))) (want_none rfl) rfl rfl (.inl rfl) rfl ?_
            rcases Bool.eq_false_or_eq_true (F_spec_EpOk x_c.Old) with h55 | h55
            · have q56 := spec_EpOk_t h55
              refine wl_pure (.pointer (some ⟨g31, 7, none⟩)) (want_some rfl rfl rfl (congrArg (fun b => Value.bool (!b)) h55)) rfl rfl (by kernel_rfl) ?_
              refine wl_pure (.pointer (some ⟨g31, 7, none⟩)) (want_some rfl rfl rfl (congrArg (fun b => Value.bool (!b)) h55)) rfl rfl (by kernel_rfl) ?_
              have b57 := (b48.kp k53)
              refine wl_load1 (.int .i64 x_c.Old.N) (want_some rfl rfl rfl (congrArg (fun b => Value.bool (!b)) h55)) rfl rfl rfl rfl isAgg_3 b57 rfl ?_
              refine wl_pure (.pointer (some ⟨g31, 2, none⟩)) (want_some rfl rfl rfl (congrArg (fun b => Value.bool (!b)) h55)) rfl rfl (by kernel_rfl) ?_
              refine wl_pure (.pointer (some ⟨g31, 2, none⟩)) (want_some rfl rfl rfl (congrArg (fun b => Value.bool (!b)) h55)) rfl rfl (by kernel_rfl) ?_
              refine wl_load1 (.int .i64 x_c.Cur.N) (want_some rfl rfl rfl (congrArg (fun b => Value.bool (!b)) h55)) rfl rfl rfl rfl isAgg_3 b57 rfl ?_
              refine wl_arith (x_c.Cur.N - 1) (want_some rfl rfl rfl (congrArg (fun b => Value.bool (!b)) h55)) rfl rfl (by kernel_rfl) (by omega) (by omega) ?_
              refine wl_pure (.bool (!(decide (x_c.Old.N = (x_c.Cur.N - 1))))) (want_some rfl rfl rfl (congrArg (fun b => Value.bool (!b)) h55)) rfl rfl (by kernel_rfl) ?_
              refine wl_pick_f (.bool (!(decide (x_c.Old.N = (x_c.Cur.N - 1))))) (want_none rfl) rfl rfl rfl (congrArg (fun b => Value.bool (!b)) h55) rfl ?_
              refine wl_mv (.bool (!(decide (x_c.Old.N = (x_c.Cur.N - 1))))) (want_none rfl) rfl rfl (.inl rfl) rfl ?_
              rcases Bool.eq_false_or_eq_true (decide (x_c.Old.N = (x_c.Cur.N - 1))) with h58 | h58
              · have q59 := of_decide_eq_true h58
                refine wl_pure (.pointer (some ⟨g31, 13, none⟩)) (want_some rfl rfl rfl (congrArg (fun b => Value.bool (!b)) h58)) rfl rfl (by kernel_rfl) ?_
                refine wl_load1 (.int .i64 x_c.Until) (want_some rfl rfl rfl (congrArg (fun b => Value.bool (!b)) h58)) rfl rfl rfl rfl isAgg_3 b57 rfl ?_
                refine wl_mv (.int .i64 0) (want_some rfl rfl rfl (congrArg (fun b => Value.bool (!b)) h58)) rfl rfl (.inl rfl) rfl ?_
                refine wl_call (want_some rfl rfl rfl (congrArg (fun b => Value.bool (!b)) h58)) (args := #[(.int .i64 x_c.Until), (.int .i64 0), (.int .i64 1000005)]) rfl rfl (by kernel_rfl) (C_spec_l1In w4 x_c.Until 0 1000005) ?_
                rintro _ w5 ⟨k60, rfl⟩
                have m61 := m54.extk k60
                refine wl_pure (.bool (!(F_spec_l1In x_c.Until 0 1000005))) (want_some rfl rfl rfl (congrArg (fun b => Value.bool (!b)) h58)) rfl rfl (by kernel_rfl) ?_
                refine wl_pick_f (.bool (!(F_spec_l1In x_c.Until 0 1000005))) (want_none rfl) rfl rfl rfl (congrArg (fun b => Value.bool (!b)) h58) rfl ?_
                refine wl_nil ?_
                refine wq_then ?_
                rcases Bool.eq_false_or_eq_true (F_spec_l1In x_c.Until 0 1000005) with h62 | h62
                · have q63 := spec_l1In_t h62
                  refine wc_false (congrArg (fun b => Value.bool (!b)) h62) ?_
                  refine wc_skip ?_
                  refine wq_then ?_
                  refine wc_seq ?_
                  refine wc_seq ?_
                  refine wc_region ?_
                  refine wl_pure (.pointer (some ⟨g31, 14, none⟩)) (want_none rfl) rfl rfl (by kernel_rfl) ?_
                  have b64 := (b57.kp k60)
                  refine wl_load1 (.slice a26 x_c.Next.length c27) (want_none rfl) rfl rfl rfl rfl isAgg_22 b64 rfl ?_
                  refine wl_len (want_none rfl) rfl rfl rfl slTy_22 rfl (r28.from0 m61) ?_
                  refine wl_pure (.bool (decide ((x_c.Next.length : Int) = 0))) (want_none rfl) rfl rfl (by kernel_rfl) ?_
                  refine wl_nil ?_
                  refine wq_then ?_
                  rcases Bool.eq_false_or_eq_true (decide ((x_c.Next.length : Int) = 0)) with h65 | h65
                  · have q66 := of_decide_eq_true h65
                    refine wc_true (congrArg Value.bool h65) ?_
                    refine wc_seq ?_
                    refine wc_region ?_
                    refine wl_mv (.bool true) (want_none rfl) rfl rfl (.inr rfl) rfl ?_
                    refine wl_nil ?_
                    refine wq_then ?_
                    refine wc_ret ?_
                    refine wq_then_ret ?_
                    refine ret_1 (.inl rfl) (.bool true) rfl rfl ?_
                    refine ⟨m61.keep0, ?_⟩
                    have hF67 : F_spec_ChanOk x_c = true := by simp only [F_spec_ChanOk, h39, h42, h46, h49, h51, h55, h58, h62, h65, cond_true, cond_false]
                    rw [hF67]
                    exact rfl
                  · have q68 := of_decide_eq_false h65
                    refine wc_false (congrArg Value.bool h65) ?_
                    refine wc_skip ?_
                    refine wq_then ?_
                    refine wc_seq ?_
                    refine wc_region ?_
                    refine wl_pure (.pointer (some ⟨g31, 0, none⟩)) (want_none rfl) rfl rfl (by kernel_rfl) ?_
                    refine wl_load1 (.int .i64 x_c.Role) (want_none rfl) rfl rfl rfl rfl isAgg_3 b64 rfl ?_
                    refine wl_pure (.bool (decide (x_c.Role = 0))) (want_none rfl) rfl rfl (by kernel_rfl) ?_
                    refine wl_mv (.bool (decide (x_c.Role = 0))) (want_none rfl) rfl rfl (.inl rfl) rfl ?_
                    refine wl_pure (.pointer (some ⟨g31, 14, none⟩)) (want_some rfl rfl rfl (congrArg Value.bool h51)) rfl rfl (by kernel_rfl) ?_
                    refine wl_load1 (.slice a26 x_c.Next.length c27) (want_some rfl rfl rfl (congrArg Value.bool h51)) rfl rfl rfl rfl isAgg_22 b64 rfl ?_
                    refine wl_len (want_some rfl rfl rfl (congrArg Value.bool h51)) rfl rfl rfl slTy_22 rfl (r28.from0 m61) ?_
                    refine wl_pure (.bool (decide ((x_c.Next.length : Int) = 32))) (want_some rfl rfl rfl (congrArg Value.bool h51)) rfl rfl (by kernel_rfl) ?_
                    refine wl_pick_t (.bool (decide ((x_c.Next.length : Int) = 32))) (want_none rfl) rfl rfl rfl (congrArg Value.bool h51) rfl ?_
                    refine wl_mv (.bool (decide ((x_c.Next.length : Int) = 32))) (want_none rfl) rfl rfl (.inl rfl) rfl ?_
                    rcases Bool.eq_false_or_eq_true (decide ((x_c.Next.length : Int) = 32)) with h69 | h69
                    · have q70 := of_decide_eq_true h69
                      refine wl_pure (.pointer (some ⟨g31, 2, none⟩)) (want_some rfl rfl rfl (congrArg Value.bool h69)) rfl rfl (by kernel_rfl) ?_
                      refine wl_pure (.pointer (some ⟨g31, 2, none⟩)) (want_some rfl rfl rfl (congrArg Value.bool h69)) rfl rfl (by kernel_rfl) ?_
                      refine wl_load1 (.int .i64 x_c.Cur.N) (want_some rfl rfl rfl (congrArg Value.bool h69)) rfl rfl rfl rfl isAgg_3 b64 rfl ?_
                      refine wl_pure (.bool (decide (x_c.Cur.N < 4294967295))) (want_some rfl rfl rfl (congrArg Value.bool h69)) rfl rfl (by kernel_rfl) ?_
                      refine wl_pick_t (.bool (decide (x_c.Cur.N < 4294967295))) (want_none rfl) rfl rfl rfl (congrArg Value.bool h69) rfl ?_
                      refine wl_mv (.bool (decide (x_c.Cur.N < 4294967295))) (want_none rfl) rfl rfl (.inr rfl) rfl ?_
                      refine wl_nil ?_
                      refine wq_then ?_
                      refine wc_ret ?_
                      refine ret_1 (.inl rfl) (.bool (decide (x_c.Cur.N < 4294967295))) rfl rfl ?_
                      refine ⟨m61.keep0, ?_⟩
                      have hF71 : F_spec_ChanOk x_c = decide (x_c.Cur.N < 4294967295) := by simp only [F_spec_ChanOk, h39, h42, h46, h49, h51, h55, h58, h62, h65, h69, cond_true, cond_false]
                      rw [hF71]
                      exact rfl
                    · have q72 := of_decide_eq_false h69
                      refine wl_skip rfl rfl rfl (congrArg Value.bool h69) rfl rfl rfl ?_
                      refine wl_skip rfl rfl rfl (congrArg Value.bool h69) rfl rfl rfl ?_
                      refine wl_skip rfl rfl rfl (congrArg Value.bool h69) rfl rfl rfl ?_
                      refine wl_skip rfl rfl rfl (congrArg Value.bool h69) rfl rfl rfl ?_
                      refine wl_pick_f (.bool false) (want_none rfl) rfl rfl rfl (congrArg Value.bool h69) rfl ?_
                      refine wl_mv (.bool false) (want_none rfl) rfl rfl (.inr rfl) rfl ?_
                      refine wl_nil ?_
                      refine wq_then ?_
                      refine wc_ret ?_
                      refine ret_1 (.inl rfl) (.bool false) rfl rfl ?_
                      refine ⟨m61.keep0, ?_⟩
                      have hF73 : F_spec_ChanOk x_c = false := by simp only [F_spec_ChanOk, h39, h42, h46, h49, h51, h55, h58, h62, h65, h69, cond_true, cond_false]
                      rw [hF73]
                      exact rfl
                · have q74 := spec_l1In_f h62
                  refine wc_true (congrArg (fun b => Value.bool (!b)) h62) ?_
                  refine wc_seq ?_
                  refine wc_region ?_
                  refine wl_mv (.bool false) (want_none rfl) rfl rfl (.inr rfl) rfl ?_
                  refine wl_nil ?_
                  refine wq_then ?_
                  refine wc_ret ?_
                  refine wq_then_ret ?_
                  refine ret_1 (.inl rfl) (.bool false) rfl rfl ?_
                  refine ⟨m61.keep0, ?_⟩
                  have hF75 : F_spec_ChanOk x_c = false := by simp only [F_spec_ChanOk, h39, h42, h46, h49, h51, h55, h58, h62, cond_true, cond_false]
                  rw [hF75]
                  exact rfl
              · have q76 := of_decide_eq_false h58
                refine wl_skip rfl rfl rfl (congrArg (fun b => Value.bool (!b)) h58) rfl rfl rfl ?_
                refine wl_skip rfl rfl rfl (congrArg (fun b => Value.bool (!b)) h58) rfl rfl rfl ?_
                refine wl_skip rfl rfl rfl (congrArg (fun b => Value.bool (!b)) h58) rfl rfl rfl ?_
                refine wl_skip rfl rfl rfl (congrArg (fun b => Value.bool (!b)) h58) rfl rfl rfl ?_
                refine wl_skip rfl rfl rfl (congrArg (fun b => Value.bool (!b)) h58) rfl rfl rfl ?_
                refine wl_pick_t (.bool true) (want_none rfl) rfl rfl rfl (congrArg (fun b => Value.bool (!b)) h58) rfl ?_
                refine wl_nil ?_
                refine wq_then ?_
                refine wc_true rfl ?_
                refine wc_seq ?_
                refine wc_region ?_
                refine wl_mv (.bool false) (want_none rfl) rfl rfl (.inr rfl) rfl ?_
                refine wl_nil ?_
                refine wq_then ?_
                refine wc_ret ?_
                refine wq_then_ret ?_
                refine ret_1 (.inl rfl) (.bool false) rfl rfl ?_
                refine ⟨m54.keep0, ?_⟩
                have hF77 : F_spec_ChanOk x_c = false := by simp only [F_spec_ChanOk, h39, h42, h46, h49, h51, h55, h58, cond_true, cond_false]
                rw [hF77]
                exact rfl
            · skip
              refine wl_skip rfl rfl rfl (congrArg (fun b => Value.bool (!b)) h55) rfl rfl rfl ?_
              refine wl_skip rfl rfl rfl (congrArg (fun b => Value.bool (!b)) h55) rfl rfl rfl ?_
              refine wl_skip rfl rfl rfl (congrArg (fun b => Value.bool (!b)) h55) rfl rfl rfl ?_
              refine wl_skip rfl rfl rfl (congrArg (fun b => Value.bool (!b)) h55) rfl rfl rfl ?_
              refine wl_skip rfl rfl rfl (congrArg (fun b => Value.bool (!b)) h55) rfl rfl rfl ?_
              refine wl_skip rfl rfl rfl (congrArg (fun b => Value.bool (!b)) h55) rfl rfl rfl ?_
              refine wl_skip rfl rfl rfl (congrArg (fun b => Value.bool (!b)) h55) rfl rfl rfl ?_
              refine wl_skip rfl rfl rfl (congrArg (fun b => Value.bool (!b)) h55) rfl rfl rfl ?_
              refine wl_pick_t (.bool true) (want_none rfl) rfl rfl rfl (congrArg (fun b => Value.bool (!b)) h55) rfl ?_
              refine wl_mv (.bool true) (want_none rfl) rfl rfl (.inl rfl) rfl ?_
              refine wl_skip rfl rfl rfl rfl rfl rfl rfl ?_
              refine wl_skip rfl rfl rfl rfl rfl rfl rfl ?_
              refine wl_skip rfl rfl rfl rfl rfl rfl rfl ?_
              refine wl_skip rfl rfl rfl rfl rfl rfl rfl ?_
              refine wl_skip rfl rfl rfl rfl rfl rfl rfl ?_
              refine wl_pick_t (.bool true) (want_none rfl) rfl rfl rfl rfl rfl ?_
              refine wl_nil ?_
              refine wq_then ?_
              refine wc_true rfl ?_
              refine wc_seq ?_
              refine wc_region ?_
              refine wl_mv (.bool false) (want_none rfl) rfl rfl (.inr rfl) rfl ?_
              refine wl_nil ?_
              refine wq_then ?_
              refine wc_ret ?_
              refine wq_then_ret ?_
              refine ret_1 (.inl rfl) (.bool false) rfl rfl ?_
              refine ⟨m54.keep0, ?_⟩
              have hF79 : F_spec_ChanOk x_c = false := by simp only [F_spec_ChanOk, h39, h42, h46, h49, h51, h55, cond_true, cond_false]
              rw [hF79]
              exact rfl
          · have q80 := of_decide_eq_false h51
            refine wc_false (congrArg Value.bool h51) ?_
            refine wc_skip ?_
            refine wq_then ?_
            refine wc_seq ?_
            refine wc_region ?_
            refine wl_pure (.pointer (some ⟨g31, 7, none⟩)) (want_none rfl) rfl rfl (by kernel_rfl) ?_
            refine wl_loadN [(.int .i64 x_c.Old.N), (.slice a16 x_c.Old.Key.length c17), (.int .i64 x_c.Old.Seq), (.int .i64 x_c.Old.Win.Top), (.slice a21 x_c.Old.Win.Bits.length c22)] (want_none rfl) rfl rfl rfl rfl isAgg_27 sizeOf_27 b48 rfl ?_
            refine wl_call (want_none rfl) (args := #[(.agg #[(.int .i64 x_c.Old.N), (.slice a16 x_c.Old.Key.length c17), (.int .i64 x_c.Old.Seq), (.int .i64 x_c.Old.Win.Top), (.slice a21 x_c.Old.Win.Bits.length c22)])]) rfl rfl (by kernel_rfl) (C_spec_EpOk w3 (.agg #[(.int .i64 x_c.Old.N), (.slice a16 x_c.Old.Key.length c17), (.int .i64 x_c.Old.Seq), (.int .i64 x_c.Old.Win.Top), (.slice a21 x_c.Old.Win.Bits.length c22)]) x_c.Old (show R_27 w3 (.agg #[(.int .i64 x_c.Old.N), (.slice a16 x_c.Old.Key.length c17), (.int .i64 x_c.Old.Seq), (.int .i64 x_c.Old.Win.Top), (.slice a21 x_c.Old.Win.Bits.length c22)]) x_c.Old from ⟨_, _, _, _, rfl, (r18.from0 m45), s19, (r23.from0 m45), s24⟩)) ?_
            rintro _ w4 ⟨k81, rfl⟩
            have m82 := m45.extk k81
            refine wl_pure (.bool (!(F_spec_EpOk x_c.Old))) (want_none rfl) rfl rfl (by kernel_rfl) ?_
            refine wl_mv (.bool (!(F_spec_EpOk x_c.Old))) (want_none rfl) rfl rfl (.inl rfl) rfl ?_
            rcases Bool.eq_false_or_eq_true (F_spec_EpOk x_c.Old) with h83 | h83
            · have q84 := spec_EpOk_t h83
              refine wl_pure (.pointer (some ⟨g31, 7, none⟩)) (want_some rfl rfl rfl (congrArg (fun b => Value.bool (!b)) h83)) rfl rfl (by kernel_rfl) ?_
              refine wl_pure (.pointer (some ⟨g31, 7, none⟩)) (want_some rfl rfl rfl (congrArg (fun b => Value.bool (!b)) h83)) rfl rfl (by kernel_rfl) ?_
              have b85 := (b48.kp k81)
              refine wl_load1 (.int .i64 x_c.Old.N) (want_some rfl rfl rfl (congrArg (fun b => Value.bool (!b)) h83)) rfl rfl rfl rfl isAgg_3 b85 rfl ?_
              refine wl_pure (.pointer (some ⟨g31, 2, none⟩)) (want_some rfl rfl rfl (congrArg (fun b => Value.bool (!b)) h83)) rfl rfl (by kernel_rfl) ?_
              refine wl_pure (.pointer (some ⟨g31, 2, none⟩)) (want_some rfl rfl rfl (congrArg (fun b => Value.bool (!b)) h83)) rfl rfl (by kernel_rfl) ?_
              refine wl_load1 (.int .i64 x_c.Cur.N) (want_some rfl rfl rfl (congrArg (fun b => Value.bool (!b)) h83)) rfl rfl rfl rfl isAgg_3 b85 rfl ?_
              refine wl_arith (x_c.Cur.N - 1) (want_some rfl rfl rfl (congrArg (fun b => Value.bool (!b)) h83)) rfl rfl (by kernel_rfl) (by omega) (by omega) ?_
              refine wl_pure (.bool (!(decide (x_c.Old.N = (x_c.Cur.N - 1))))) (want_some rfl rfl rfl (congrArg (fun b => Value.bool (!b)) h83)) rfl rfl (by kernel_rfl) ?_
              refine wl_pick_f (.bool (!(decide (x_c.Old.N = (x_c.Cur.N - 1))))) (want_none rfl) rfl rfl rfl (congrArg (fun b => Value.bool (!b)) h83) rfl ?_
              refine wl_mv (.bool (!(decide (x_c.Old.N = (x_c.Cur.N - 1))))) (want_none rfl) rfl rfl (.inl rfl) rfl ?_
              rcases Bool.eq_false_or_eq_true (decide (x_c.Old.N = (x_c.Cur.N - 1))) with h86 | h86
              · have q87 := of_decide_eq_true h86
                refine wl_pure (.pointer (some ⟨g31, 13, none⟩)) (want_some rfl rfl rfl (congrArg (fun b => Value.bool (!b)) h86)) rfl rfl (by kernel_rfl) ?_
                refine wl_load1 (.int .i64 x_c.Until) (want_some rfl rfl rfl (congrArg (fun b => Value.bool (!b)) h86)) rfl rfl rfl rfl isAgg_3 b85 rfl ?_
                refine wl_mv (.int .i64 (-1)) (want_some rfl rfl rfl (congrArg (fun b => Value.bool (!b)) h86)) rfl rfl (.inl rfl) rfl ?_
                refine wl_call (want_some rfl rfl rfl (congrArg (fun b => Value.bool (!b)) h86)) (args := #[(.int .i64 x_c.Until), (.int .i64 (-1)), (.int .i64 1000005)]) rfl rfl (by kernel_rfl) (C_spec_l1In w4 x_c.Until (-1) 1000005) ?_
                rintro _ w5 ⟨k88, rfl⟩
                have m89 := m82.extk k88
                refine wl_pure (.bool (!(F_spec_l1In x_c.Until (-1) 1000005))) (want_some rfl rfl rfl (congrArg (fun b => Value.bool (!b)) h86)) rfl rfl (by kernel_rfl) ?_
                refine wl_pick_f (.bool (!(F_spec_l1In x_c.Until (-1) 1000005))) (want_none rfl) rfl rfl rfl (congrArg (fun b => Value.bool (!b)) h86) rfl ?_
                refine wl_nil ?_
                refine wq_then ?_
                rcases Bool.eq_false_or_eq_true (F_spec_l1In x_c.Until (-1) 1000005) with h90 | h90
                · have q91 := spec_l1In_t h90
                  refine wc_false (congrArg (fun b => Value.bool (!b)) h90) ?_
                  refine wc_skip ?_
                  refine wq_then ?_
                  refine wc_seq ?_
                  refine wc_seq ?_
                  refine wc_region ?_
                  refine wl_pure (.pointer (some ⟨g31, 14, none⟩)) (want_none rfl) rfl rfl (by kernel_rfl) ?_
                  have b92 := (b85.kp k88)
                  refine wl_load1 (.slice a26 x_c.Next.length c27) (want_none rfl) rfl rfl rfl rfl isAgg_22 b92 rfl ?_
                  refine wl_len (want_none rfl) rfl rfl rfl slTy_22 rfl (r28.from0 m89) ?_
                  refine wl_pure (.bool (decide ((x_c.Next.length : Int) = 0))) (want_none rfl) rfl rfl (by kernel_rfl) ?_
                  refine wl_nil ?_
                  refine wq_then ?_
                  rcases Bool.eq_false_or_eq_true (decide ((x_c.Next.length : Int) = 0)) with h93 | h93
                  · have q94 := of_decide_eq_true h93
                    refine wc_true (congrArg Value.bool h93) ?_
                    refine wc_seq ?_
                    refine wc_region ?_
                    refine wl_mv (.bool true) (want_none rfl) rfl rfl (.inr rfl) rfl ?_
                    refine wl_nil ?_
                    refine wq_then ?_
                    refine wc_ret ?_
                    refine wq_then_ret ?_
                    refine ret_1 (.inl rfl) (.bool true) rfl rfl ?_
                    refine ⟨m89.keep0, ?_⟩
                    have hF95 : F_spec_ChanOk x_c = true := by simp only [F_spec_ChanOk, h39, h42, h46, h49, h51, h83, h86, h90, h93, cond_true, cond_false]
                    rw [hF95]
                    exact rfl
                  · have q96 := of_decide_eq_false h93
                    refine wc_false (congrArg Value.bool h93) ?_
                    refine wc_skip ?_
                    refine wq_then ?_
                    refine wc_seq ?_
                    refine wc_region ?_
                    refine wl_pure (.pointer (some ⟨g31, 0, none⟩)) (want_none rfl) rfl rfl (by kernel_rfl) ?_
                    refine wl_load1 (.int .i64 x_c.Role) (want_none rfl) rfl rfl rfl rfl isAgg_3 b92 rfl ?_
                    refine wl_pure (.bool (decide (x_c.Role = 0))) (want_none rfl) rfl rfl (by kernel_rfl) ?_
                    refine wl_mv (.bool (decide (x_c.Role = 0))) (want_none rfl) rfl rfl (.inl rfl) rfl ?_
                    refine wl_skip rfl rfl rfl (congrArg Value.bool h51) rfl rfl rfl ?_
                    refine wl_skip rfl rfl rfl (congrArg Value.bool h51) rfl rfl rfl ?_
                    refine wl_skip rfl rfl rfl (congrArg Value.bool h51) rfl rfl rfl ?_
                    refine wl_skip rfl rfl rfl (congrArg Value.bool h51) rfl rfl rfl ?_
                    refine wl_pick_f (.bool false) (want_none rfl) rfl rfl rfl (congrArg Value.bool h51) rfl ?_
                    refine wl_mv (.bool false) (want_none rfl) rfl rfl (.inl rfl) rfl ?_
                    refine wl_skip rfl rfl rfl rfl rfl rfl rfl ?_
                    refine wl_skip rfl rfl rfl rfl rfl rfl rfl ?_
                    refine wl_skip rfl rfl rfl rfl rfl rfl rfl ?_
                    refine wl_skip rfl rfl rfl rfl rfl rfl rfl ?_
                    refine wl_pick_f (.bool false) (want_none rfl) rfl rfl rfl rfl rfl ?_
                    refine wl_mv (.bool false) (want_none rfl) rfl rfl (.inr rfl) rfl ?_
                    refine wl_nil ?_
                    refine wq_then ?_
                    refine wc_ret ?_
                    refine ret_1 (.inl rfl) (.bool false) rfl rfl ?_
                    refine ⟨m89.keep0, ?_⟩
                    have hF97 : F_spec_ChanOk x_c = false := by simp only [F_spec_ChanOk, h39, h42, h46, h49, h51, h83, h86, h90, h93, cond_true, cond_false]
                    rw [hF97]
                    exact rfl
                · have q98 := spec_l1In_f h90
                  refine wc_true (congrArg (fun b => Value.bool (!b)) h90) ?_
                  refine wc_seq ?_
                  refine wc_region ?_
                  refine wl_mv (.bool false) (want_none rfl) rfl rfl (.inr rfl) rfl ?_
                  refine wl_nil ?_
                  refine wq_then ?_
                  refine wc_ret ?_
                  refine wq_then_ret ?_
                  refine ret_1 (.inl rfl) (.bool false) rfl rfl ?_
                  refine ⟨m89.keep0, ?_⟩
                  have hF99 : F_spec_ChanOk x_c = false := by simp only [F_spec_ChanOk, h39, h42, h46, h49, h51, h83, h86, h90, cond_true, cond_false]
                  rw [hF99]
                  exact rfl
              · have q100 := of_decide_eq_false h86
                refine wl_skip rfl rfl rfl (congrArg (fun b => Value.bool (!b)) h86) rfl rfl rfl ?_
                refine wl_skip rfl rfl rfl (congrArg (fun b => Value.bool (!b)) h86) rfl rfl rfl ?_
                refine wl_skip rfl rfl rfl (congrArg (fun b => Value.bool (!b)) h86) rfl rfl rfl ?_
                refine wl_skip rfl rfl rfl (congrArg (fun b => Value.bool (!b)) h86) rfl rfl rfl ?_
                refine wl_skip rfl rfl rfl (congrArg (fun b => Value.bool (!b)) h86) rfl rfl rfl ?_
                refine wl_pick_t (.bool true) (want_none rfl) rfl rfl rfl (congrArg (fun b => Value.bool (!b)) h86) rfl ?_
                refine wl_nil ?_
                refine wq_then ?_
                refine wc_true rfl ?_
                refine wc_seq ?_
                refine wc_region ?_
                refine wl_mv (.bool false) (want_none rfl) rfl rfl (.inr rfl) rfl ?_
                refine wl_nil ?_
                refine wq_then ?_
                refine wc_ret ?_
                refine wq_then_ret ?_
                refine ret_1 (.inl rfl) (.bool false) rfl rfl ?_
                refine ⟨m82.keep0, ?_⟩
                have hF101 : F_spec_ChanOk x_c = false := by simp only [F_spec_ChanOk, h39, h42, h46, h49, h51, h83, h86, cond_true, cond_false]
                rw [hF101]
                exact rfl
            · skip
              refine wl_skip rfl rfl rfl (congrArg (fun b => Value.bool (!b)) h83) rfl rfl rfl ?_
              refine wl_skip rfl rfl rfl (congrArg (fun b => Value.bool (!b)) h83) rfl rfl rfl ?_
              refine wl_skip rfl rfl rfl (congrArg (fun b => Value.bool (!b)) h83) rfl rfl rfl ?_
              refine wl_skip rfl rfl rfl (congrArg (fun b => Value.bool (!b)) h83) rfl rfl rfl ?_
              refine wl_skip rfl rfl rfl (congrArg (fun b => Value.bool (!b)) h83) rfl rfl rfl ?_
              refine wl_skip rfl rfl rfl (congrArg (fun b => Value.bool (!b)) h83) rfl rfl rfl ?_
              refine wl_skip rfl rfl rfl (congrArg (fun b => Value.bool (!b)) h83) rfl rfl rfl ?_
              refine wl_skip rfl rfl rfl (congrArg (fun b => Value.bool (!b)) h83) rfl rfl rfl ?_
              refine wl_pick_t (.bool true) (want_none rfl) rfl rfl rfl (congrArg (fun b => Value.bool (!b)) h83) rfl ?_
              refine wl_mv (.bool true) (want_none rfl) rfl rfl (.inl rfl) rfl ?_
              refine wl_skip rfl rfl rfl rfl rfl rfl rfl ?_
              refine wl_skip rfl rfl rfl rfl rfl rfl rfl ?_
              refine wl_skip rfl rfl rfl rfl rfl rfl rfl ?_
              refine wl_skip rfl rfl rfl rfl rfl rfl rfl ?_
              refine wl_skip rfl rfl rfl rfl rfl rfl rfl ?_
              refine wl_pick_t (.bool true) (want_none rfl) rfl rfl rfl rfl rfl ?_
              refine wl_nil ?_
              refine wq_then ?_
              refine wc_true rfl ?_
              refine wc_seq ?_
              refine wc_region ?_
              refine wl_mv (.bool false) (want_none rfl) rfl rfl (.inr rfl) rfl ?_
              refine wl_nil ?_
              refine wq_then ?_
              refine wc_ret ?_
              refine wq_then_ret ?_
              refine ret_1 (.inl rfl) (.bool false) rfl rfl ?_
              refine ⟨m82.keep0, ?_⟩
              have hF103 : F_spec_ChanOk x_c = false := by simp only [F_spec_ChanOk, h39, h42, h46, h49, h51, h83, cond_true, cond_false]
              rw [hF103]
              exact rfl
        · skip
          refine wc_false (congrArg Value.bool h49) ?_
          refine wc_seq ?_
          refine wc_region ?_
          refine wl_pure (.pointer (some ⟨g31, 7, none⟩)) (want_none rfl) rfl rfl (by kernel_rfl) ?_
          refine wl_loadN [(.int .i64 x_c.Old.N), (.slice a16 x_c.Old.Key.length c17), (.int .i64 x_c.Old.Seq), (.int .i64 x_c.Old.Win.Top), (.slice a21 x_c.Old.Win.Bits.length c22)] (want_none rfl) rfl rfl rfl rfl isAgg_27 sizeOf_27 b48 rfl ?_
          refine wl_call (want_none rfl) (args := #[(.agg #[(.int .i64 x_c.Old.N), (.slice a16 x_c.Old.Key.length c17), (.int .i64 x_c.Old.Seq), (.int .i64 x_c.Old.Win.Top), (.slice a21 x_c.Old.Win.Bits.length c22)])]) rfl rfl (by kernel_rfl) (C_spec_l14None w3 (.agg #[(.int .i64 x_c.Old.N), (.slice a16 x_c.Old.Key.length c17), (.int .i64 x_c.Old.Seq), (.int .i64 x_c.Old.Win.Top), (.slice a21 x_c.Old.Win.Bits.length c22)]) x_c.Old (show R_27 w3 (.agg #[(.int .i64 x_c.Old.N), (.slice a16 x_c.Old.Key.length c17), (.int .i64 x_c.Old.Seq), (.int .i64 x_c.Old.Win.Top), (.slice a21 x_c.Old.Win.Bits.length c22)]) x_c.Old from ⟨_, _, _, _, rfl, (r18.from0 m45), s19, (r23.from0 m45), s24⟩)) ?_
          rintro _ w4 ⟨k105, rfl⟩
          have m106 := m45.extk k105
          refine wl_pure (.bool (!(F_spec_l14None x_c.Old))) (want_none rfl) rfl rfl (by kernel_rfl) ?_
          refine wl_mv (.bool (!(F_spec_l14None x_c.Old))) (want_none rfl) rfl rfl (.inl rfl) rfl ?_
          rcases Bool.eq_false_or_eq_true (F_spec_l14None x_c.Old) with h107 | h107
          · skip
            refine wl_pure (.pointer (some ⟨g31, 13, none⟩)) (want_some rfl rfl rfl (congrArg (fun b => Value.bool (!b)) h107)) rfl rfl (by kernel_rfl) ?_
            have b109 := (b48.kp k105)
            refine wl_load1 (.int .i64 x_c.Until) (want_some rfl rfl rfl (congrArg (fun b => Value.bool (!b)) h107)) rfl rfl rfl rfl isAgg_3 b109 rfl ?_
            refine wl_pure (.bool (!(decide (x_c.Until = 0)))) (want_some rfl rfl rfl (congrArg (fun b => Value.bool (!b)) h107)) rfl rfl (by kernel_rfl) ?_
            refine wl_pick_f (.bool (!(decide (x_c.Until = 0)))) (want_none rfl) rfl rfl rfl (congrArg (fun b => Value.bool (!b)) h107) rfl ?_
            refine wl_nil ?_
            refine wq_then ?_
            rcases Bool.eq_false_or_eq_true (decide (x_c.Until = 0)) with h110 | h110
            · have q111 := of_decide_eq_true h110
              refine wc_false (congrArg (fun b => Value.bool (!b)) h110) ?_
              refine wc_skip ?_
              refine wq_then ?_
              refine wc_seq ?_
              refine wc_seq ?_
              refine wc_region ?_
              refine wl_pure (.pointer (some ⟨g31, 14, none⟩)) (want_none rfl) rfl rfl (by kernel_rfl) ?_
              refine wl_load1 (.slice a26 x_c.Next.length c27) (want_none rfl) rfl rfl rfl rfl isAgg_22 b109 rfl ?_
              refine wl_len (want_none rfl) rfl rfl rfl slTy_22 rfl (r28.from0 m106) ?_
              refine wl_pure (.bool (decide ((x_c.Next.length : Int) = 0))) (want_none rfl) rfl rfl (by kernel_rfl) ?_
              refine wl_nil ?_
              refine wq_then ?_
              rcases Bool.eq_false_or_eq_true (decide ((x_c.Next.length : Int) = 0)) with h112 | h112
              · have q113 := of_decide_eq_true h112
                refine wc_true (congrArg Value.bool h112) ?_
                refine wc_seq ?_
                refine wc_region ?_
                refine wl_mv (.bool true) (want_none rfl) rfl rfl (.inr rfl) rfl ?_
                refine wl_nil ?_
                refine wq_then ?_
                refine wc_ret ?_
                refine wq_then_ret ?_
                refine ret_1 (.inl rfl) (.bool true) rfl rfl ?_
                refine ⟨m106.keep0, ?_⟩
                have hF114 : F_spec_ChanOk x_c = true := by simp only [F_spec_ChanOk, h39, h42, h46, h49, h107, h110, h112, cond_true, cond_false]
                rw [hF114]
                exact rfl
              · have q115 := of_decide_eq_false h112
                refine wc_false (congrArg Value.bool h112) ?_
                refine wc_skip ?_
                refine wq_then ?_
                refine wc_seq ?_
                refine wc_region ?_
                refine wl_pure (.pointer (some ⟨g31, 0, none⟩)) (want_none rfl) rfl rfl (by kernel_rfl) ?_
                refine wl_load1 (.int .i64 x_c.Role) (want_none rfl) rfl rfl rfl rfl isAgg_3 b109 rfl ?_
                refine wl_pure (.bool (decide (x_c.Role = 0))) (want_none rfl) rfl rfl (by kernel_rfl) ?_
                refine wl_mv (.bool (decide (x_c.Role = 0))) (want_none rfl) rfl rfl (.inl rfl) rfl ?_
                rcases Bool.eq_false_or_eq_true (decide (x_c.Role = 0)) with h116 | h116
                · have q117 := of_decide_eq_true h116
                  refine wl_pure (.pointer (some ⟨g31, 14, none⟩)) (want_some rfl rfl rfl (congrArg Value.bool h116)) rfl rfl (by kernel_rfl) ?_
                  refine wl_load1 (.slice a26 x_c.Next.length c27) (want_some rfl rfl rfl (congrArg Value.bool h116)) rfl rfl rfl rfl isAgg_22 b109 rfl ?_
                  refine wl_len (want_some rfl rfl rfl (congrArg Value.bool h116)) rfl rfl rfl slTy_22 rfl (r28.from0 m106) ?_
                  refine wl_pure (.bool (decide ((x_c.Next.length : Int) = 32))) (want_some rfl rfl rfl (congrArg Value.bool h116)) rfl rfl (by kernel_rfl) ?_
                  refine wl_pick_t (.bool (decide ((x_c.Next.length : Int) = 32))) (want_none rfl) rfl rfl rfl (congrArg Value.bool h116) rfl ?_
                  refine wl_mv (.bool (decide ((x_c.Next.length : Int) = 32))) (want_none rfl) rfl rfl (.inl rfl) rfl ?_
                  rcases Bool.eq_false_or_eq_true (decide ((x_c.Next.length : Int) = 32)) with h118 | h118
                  · have q119 := of_decide_eq_true h118
                    refine wl_pure (.pointer (some ⟨g31, 2, none⟩)) (want_some rfl rfl rfl (congrArg Value.bool h118)) rfl rfl (by kernel_rfl) ?_
                    refine wl_pure (.pointer (some ⟨g31, 2, none⟩)) (want_some rfl rfl rfl (congrArg Value.bool h118)) rfl rfl (by kernel_rfl) ?_
                    refine wl_load1 (.int .i64 x_c.Cur.N) (want_some rfl rfl rfl (congrArg Value.bool h118)) rfl rfl rfl rfl isAgg_3 b109 rfl ?_
                    refine wl_pure (.bool (decide (x_c.Cur.N < 4294967295))) (want_some rfl rfl rfl (congrArg Value.bool h118)) rfl rfl (by kernel_rfl) ?_
                    refine wl_pick_t (.bool (decide (x_c.Cur.N < 4294967295))) (want_none rfl) rfl rfl rfl (congrArg Value.bool h118) rfl ?_
                    refine wl_mv (.bool (decide (x_c.Cur.N < 4294967295))) (want_none rfl) rfl rfl (.inr rfl) rfl ?_
                    refine wl_nil ?_
                    refine wq_then ?_
                    refine wc_ret ?_
                    refine ret_1 (.inl rfl) (.bool (decide (x_c.Cur.N < 4294967295))) rfl rfl ?_
                    refine ⟨m106.keep0, ?_⟩
                    have hF120 : F_spec_ChanOk x_c = decide (x_c.Cur.N < 4294967295) := by simp only [F_spec_ChanOk, h39, h42, h46, h49, h107, h110, h112, h116, h118, cond_true, cond_false]
                    rw [hF120]
                    exact rfl
                  · have q121 := of_decide_eq_false h118
                    refine wl_skip rfl rfl rfl (congrArg Value.bool h118) rfl rfl rfl ?_
                    refine wl_skip rfl rfl rfl (congrArg Value.bool h118) rfl rfl rfl ?_
                    refine wl_skip rfl rfl rfl (congrArg Value.bool h118) rfl rfl rfl ?_
                    refine wl_skip rfl rfl rfl (congrArg Value.bool h118) rfl rfl rfl ?_
                    refine wl_pick_f (.bool false) (want_none rfl) rfl rfl rfl (congrArg Value.bool h118) rfl ?_
                    refine wl_mv (.bool false) (want_none rfl) rfl rfl (.inr rfl) rfl ?_
                    refine wl_nil ?_
                    refine wq_then ?_
                    refine wc_ret ?_
                    refine ret_1 (.inl rfl) (.bool false) rfl rfl ?_
                    refine ⟨m106.keep0, ?_⟩
                    have hF122 : F_spec_ChanOk x_c = false := by simp only [F_spec_ChanOk, h39, h42, h46, h49, h107, h110, h112, h116, h118, cond_true, cond_false]
                    rw [hF122]
                    exact rfl
                · have q123 := of_decide_eq_false h116
                  refine wl_skip rfl rfl rfl (congrArg Value.bool h116) rfl rfl rfl ?_
                  refine wl_skip rfl rfl rfl (congrArg Value.bool h116) rfl rfl rfl ?_
                  refine wl_skip rfl rfl rfl (congrArg Value.bool h116) rfl rfl rfl ?_
                  refine wl_skip rfl rfl rfl (congrArg Value.bool h116) rfl rfl rfl ?_
                  refine wl_pick_f (.bool false) (want_none rfl) rfl rfl rfl (congrArg Value.bool h116) rfl ?_
                  refine wl_mv (.bool false) (want_none rfl) rfl rfl (.inl rfl) rfl ?_
                  refine wl_skip rfl rfl rfl rfl rfl rfl rfl ?_
                  refine wl_skip rfl rfl rfl rfl rfl rfl rfl ?_
                  refine wl_skip rfl rfl rfl rfl rfl rfl rfl ?_
                  refine wl_skip rfl rfl rfl rfl rfl rfl rfl ?_
                  refine wl_pick_f (.bool false) (want_none rfl) rfl rfl rfl rfl rfl ?_
                  refine wl_mv (.bool false) (want_none rfl) rfl rfl (.inr rfl) rfl ?_
                  refine wl_nil ?_
                  refine wq_then ?_
                  refine wc_ret ?_
                  refine ret_1 (.inl rfl) (.bool false) rfl rfl ?_
                  refine ⟨m106.keep0, ?_⟩
                  have hF124 : F_spec_ChanOk x_c = false := by simp only [F_spec_ChanOk, h39, h42, h46, h49, h107, h110, h112, h116, cond_true, cond_false]
                  rw [hF124]
                  exact rfl
            · have q125 := of_decide_eq_false h110
              refine wc_true (congrArg (fun b => Value.bool (!b)) h110) ?_
              refine wc_seq ?_
              refine wc_region ?_
              refine wl_mv (.bool false) (want_none rfl) rfl rfl (.inr rfl) rfl ?_
              refine wl_nil ?_
              refine wq_then ?_
              refine wc_ret ?_
              refine wq_then_ret ?_
              refine ret_1 (.inl rfl) (.bool false) rfl rfl ?_
              refine ⟨m106.keep0, ?_⟩
              have hF126 : F_spec_ChanOk x_c = false := by simp only [F_spec_ChanOk, h39, h42, h46, h49, h107, h110, cond_true, cond_false]
              rw [hF126]
              exact rfl
          · skip
            refine wl_skip rfl rfl rfl (congrArg (fun b => Value.bool (!b)) h107) rfl rfl rfl ?_
            refine wl_skip rfl rfl rfl (congrArg (fun b => Value.bool (!b)) h107) rfl rfl rfl ?_
            refine wl_skip rfl rfl rfl (congrArg (fun b => Value.bool (!b)) h107) rfl rfl rfl ?_
            refine wl_pick_t (.bool true) (want_none rfl) rfl rfl rfl (congrArg (fun b => Value.bool (!b)) h107) rfl ?_
            refine wl_nil ?_
            refine wq_then ?_
            refine wc_true rfl ?_
            refine wc_seq ?_
            refine wc_region ?_
            refine wl_mv (.bool false) (want_none rfl) rfl rfl (.inr rfl) rfl ?_
            refine wl_nil ?_
            refine wq_then ?_
            refine wc_ret ?_
            refine wq_then_ret ?_
            refine ret_1 (.inl rfl) (.bool false) rfl rfl ?_
            refine ⟨m106.keep0, ?_⟩
            have hF128 : F_spec_ChanOk x_c = false := by simp only [F_spec_ChanOk, h39, h42, h46, h49, h107, cond_true, cond_false]
            rw [hF128]
            exact rfl
      · skip
        refine wc_true (congrArg (fun b => Value.bool (!b)) h46) ?_
        refine wc_seq ?_
        refine wc_region ?_
        refine wl_mv (.bool false) (want_none rfl) rfl rfl (.inr rfl) rfl ?_
        refine wl_nil ?_
        refine wq_then ?_
        refine wc_ret ?_
        refine wq_then_ret ?_
        refine ret_1 (.inl rfl) (.bool false) rfl rfl ?_
        refine ⟨m45.keep0, ?_⟩
        have hF130 : F_spec_ChanOk x_c = false := by simp only [F_spec_ChanOk, h39, h42, h46, cond_true, cond_false]
        rw [hF130]
        exact rfl
    · have q131 := of_decide_eq_false h42
      refine wl_skip rfl rfl rfl (congrArg (fun b => Value.bool (!b)) h42) rfl rfl rfl ?_
      refine wl_skip rfl rfl rfl (congrArg (fun b => Value.bool (!b)) h42) rfl rfl rfl ?_
      refine wl_skip rfl rfl rfl (congrArg (fun b => Value.bool (!b)) h42) rfl rfl rfl ?_
      refine wl_skip rfl rfl rfl (congrArg (fun b => Value.bool (!b)) h42) rfl rfl rfl ?_
      refine wl_pick_t (.bool true) (want_none rfl) rfl rfl rfl (congrArg (fun b => Value.bool (!b)) h42) rfl ?_
      refine wl_nil ?_
      refine wq_then ?_
      refine wc_true rfl ?_
      refine wc_seq ?_
      refine wc_region ?_
      refine wl_mv (.bool false) (want_none rfl) rfl rfl (.inr rfl) rfl ?_
      refine wl_nil ?_
      refine wq_then ?_
      refine wc_ret ?_
      refine wq_then_ret ?_
      refine ret_1 (.inl rfl) (.bool false) rfl rfl ?_
      refine ⟨m38.keep0, ?_⟩
      have hF132 : F_spec_ChanOk x_c = false := by simp only [F_spec_ChanOk, h39, h42, cond_true, cond_false]
      rw [hF132]
      exact rfl
  · have q133 := spec_l1In_f h39
    refine wl_skip rfl rfl rfl (congrArg (fun b => Value.bool (!b)) h39) rfl rfl rfl ?_
    refine wl_skip rfl rfl rfl (congrArg (fun b => Value.bool (!b)) h39) rfl rfl rfl ?_
    refine wl_skip rfl rfl rfl (congrArg (fun b => Value.bool (!b)) h39) rfl rfl rfl ?_
    refine wl_skip rfl rfl rfl (congrArg (fun b => Value.bool (!b)) h39) rfl rfl rfl ?_
    refine wl_pick_t (.bool true) (want_none rfl) rfl rfl rfl (congrArg (fun b => Value.bool (!b)) h39) rfl ?_
    refine wl_mv (.bool true) (want_none rfl) rfl rfl (.inl rfl) rfl ?_
    refine wl_skip rfl rfl rfl rfl rfl rfl rfl ?_
    refine wl_skip rfl rfl rfl rfl rfl rfl rfl ?_
    refine wl_skip rfl rfl rfl rfl rfl rfl rfl ?_
    refine wl_skip rfl rfl rfl rfl rfl rfl rfl ?_
    refine wl_pick_t (.bool true) (want_none rfl) rfl rfl rfl rfl rfl ?_
    refine wl_nil ?_
    refine wq_then ?_
    refine wc_true rfl ?_
    refine wc_seq ?_
    refine wc_region ?_
    refine wl_mv (.bool false) (want_none rfl) rfl rfl (.inr rfl) rfl ?_
    refine wl_nil ?_
    refine wq_then ?_
    refine wc_ret ?_
    refine wq_then_ret ?_
    refine ret_1 (.inl rfl) (.bool false) rfl rfl ?_
    refine ⟨m38.keep0, ?_⟩
    have hF134 : F_spec_ChanOk x_c = false := by simp only [F_spec_ChanOk, h39, cond_true, cond_false]
    rw [hF134]
    exact rfl
theorem spec_ChanOk_t {c : PChan} (h : F_spec_ChanOk c = true) : 0 ≤ c.Cur.N ∧ c.Cur.N ≤ 4294967295 := by
  cases h1 : F_spec_EpOk c.Cur with
  | false => simp [F_spec_ChanOk, h1] at h
  | true => exact ⟨(spec_EpOk_t h1).1, (spec_EpOk_t h1).2.1⟩

def F_impl_isRole (x_role : Int) : (Bool) := bif (decide (x_role = 0)) then (true) else (decide (x_role = 1))
theorem C_impl_isRole (w0 : World) (x_role : Int)  : Fn Try.prog 67 #[(.int .i64 x_role)] w0 (fun v w' => Keep w0 w' ∧ O_4 w' w0.heap.size v (F_impl_isRole x_role)) := by
  refine fn_of (n := 9) (l := [(.int .i64 x_role), undef, undef, undef, undef, undef, undef, undef, undef]) Try.func67 rfl rfl (by kernel_rfl) rfl ?_
  refine wc_seq ?_
  refine wc_region ?_
  refine wl_mv (.bool false) (want_none rfl) rfl rfl (.inr rfl) rfl ?_
  refine wl_nil ?_
  refine wq_then ?_
  refine wc_seq ?_
  refine wc_region ?_
  refine wl_mv (.int .i64 x_role) (want_none rfl) rfl rfl (.inl rfl) rfl ?_
  refine wl_pure (.bool (decide (x_role = 0))) (want_none rfl) rfl rfl (by kernel_rfl) ?_
  refine wl_mv (.bool (decide (x_role = 0))) (want_none rfl) rfl rfl (.inl rfl) rfl ?_
  rcases Bool.eq_false_or_eq_true (decide (x_role = 0)) with h1 | h1
  · have q2 := of_decide_eq_true h1
    refine wl_skip rfl rfl rfl (congrArg Value.bool h1) rfl rfl rfl ?_
    refine wl_skip rfl rfl rfl (congrArg Value.bool h1) rfl rfl rfl ?_
    refine wl_pick_t (.bool true) (want_none rfl) rfl rfl rfl (congrArg Value.bool h1) rfl ?_
    refine wl_mv (.bool true) (want_none rfl) rfl rfl (.inr rfl) rfl ?_
    refine wl_nil ?_
    refine wq_then ?_
    refine wc_ret ?_
    refine ret_1 (.inl rfl) (.bool true) rfl rfl ?_
    refine ⟨Ch.refl _ _, ?_⟩
    have hF3 : F_impl_isRole x_role = true := by simp only [F_impl_isRole, h1, cond_true, cond_false]
    rw [hF3]
    exact rfl
  · have q4 := of_decide_eq_false h1
    refine wl_mv (.int .i64 x_role) (want_some rfl rfl rfl (congrArg Value.bool h1)) rfl rfl (.inl rfl) rfl ?_
    refine wl_pure (.bool (decide (x_role = 1))) (want_some rfl rfl rfl (congrArg Value.bool h1)) rfl rfl (by kernel_rfl) ?_
    refine wl_pick_f (.bool (decide (x_role = 1))) (want_none rfl) rfl rfl rfl (congrArg Value.bool h1) rfl ?_
    refine wl_mv (.bool (decide (x_role = 1))) (want_none rfl) rfl rfl (.inr rfl) rfl ?_
    refine wl_nil ?_
    refine wq_then ?_
    refine wc_ret ?_
    refine ret_1 (.inl rfl) (.bool (decide (x_role = 1))) rfl rfl ?_
    refine ⟨Ch.refl _ _, ?_⟩
    have hF5 : F_impl_isRole x_role = decide (x_role = 1) := by simp only [F_impl_isRole, h1, cond_true, cond_false]
    rw [hF5]
    exact rfl

def F_impl_isNonce (x_b : List UInt8) : (Bool) := decide ((x_b.length : Int) = 12)
theorem C_impl_isNonce (w0 : World) (v_x_b : Value) (x_b : List UInt8) (r_x_b : R_22 w0 v_x_b x_b)  : Fn Try.prog 68 #[v_x_b] w0 (fun v w' => Keep w0 w' ∧ O_4 w' w0.heap.size v (F_impl_isNonce x_b)) := by
  obtain ⟨a1, c2, rfl, r3, s4⟩ := r_x_b
  refine fn_of (n := 6) (l := [(.slice a1 x_b.length c2), undef, undef, undef, undef, undef]) Try.func68 rfl rfl (by kernel_rfl) rfl ?_
  refine wc_seq ?_
  refine wc_region ?_
  refine wl_mv (.bool false) (want_none rfl) rfl rfl (.inr rfl) rfl ?_
  refine wl_nil ?_
  refine wq_then ?_
  refine wc_seq ?_
  refine wc_region ?_
  refine wl_mv (.slice a1 x_b.length c2) (want_none rfl) rfl rfl (.inl rfl) rfl ?_
  refine wl_len (want_none rfl) rfl rfl rfl slTy_22 rfl r3 ?_
  refine wl_pure (.bool (decide ((x_b.length : Int) = 12))) (want_none rfl) rfl rfl (by kernel_rfl) ?_
  refine wl_mv (.bool (decide ((x_b.length : Int) = 12))) (want_none rfl) rfl rfl (.inr rfl) rfl ?_
  refine wl_nil ?_
  refine wq_then ?_
  refine wc_ret ?_
  refine ret_1 (.inl rfl) (.bool (decide ((x_b.length : Int) = 12))) rfl rfl ?_
  refine ⟨Ch.refl _ _, ?_⟩
  have hF6 : F_impl_isNonce x_b = decide ((x_b.length : Int) = 12) := by rfl
  rw [hF6]
  exact rfl

def F_impl_within (x_n : Int) (x_low : Int) (x_high : Int) : (Bool) := bif (decide (x_low ≤ x_n)) then (decide (x_n ≤ x_high)) else (false)
theorem C_impl_within (w0 : World) (x_n : Int) (x_low : Int) (x_high : Int)  : Fn Try.prog 83 #[(.int .i64 x_n), (.int .i64 x_low), (.int .i64 x_high)] w0 (fun v w' => Keep w0 w' ∧ O_4 w' w0.heap.size v (F_impl_within x_n x_low x_high)) := by
  refine fn_of (n := 15) (l := [(.int .i64 x_n), (.int .i64 x_low), (.int .i64 x_high), undef, undef, undef, undef, undef, undef, undef, undef, undef, undef, undef, undef]) Try.func83 rfl rfl (by kernel_rfl) rfl ?_
  refine wc_seq ?_
  refine wc_region ?_
  refine wl_mv (.bool false) (want_none rfl) rfl rfl (.inr rfl) rfl ?_
  refine wl_nil ?_
  refine wq_then ?_
  refine wc_seq ?_
  refine wc_region ?_
  refine wl_mv (.int .i64 x_n) (want_none rfl) rfl rfl (.inl rfl) rfl ?_
  refine wl_mv (.int .i64 x_low) (want_none rfl) rfl rfl (.inl rfl) rfl ?_
  refine wl_pure (.bool (decide (x_low ≤ x_n))) (want_none rfl) rfl rfl (by kernel_rfl) ?_
  refine wl_mv (.bool (decide (x_low ≤ x_n))) (want_none rfl) rfl rfl (.inl rfl) rfl ?_
  rcases Bool.eq_false_or_eq_true (decide (x_low ≤ x_n)) with h1 | h1
  · have q2 := of_decide_eq_true h1
    refine wl_mv (.int .i64 x_n) (want_some rfl rfl rfl (congrArg Value.bool h1)) rfl rfl (.inl rfl) rfl ?_
    refine wl_mv (.int .i64 x_high) (want_some rfl rfl rfl (congrArg Value.bool h1)) rfl rfl (.inl rfl) rfl ?_
    refine wl_pure (.bool (decide (x_n ≤ x_high))) (want_some rfl rfl rfl (congrArg Value.bool h1)) rfl rfl (by kernel_rfl) ?_
    refine wl_pick_t (.bool (decide (x_n ≤ x_high))) (want_none rfl) rfl rfl rfl (congrArg Value.bool h1) rfl ?_
    refine wl_mv (.bool (decide (x_n ≤ x_high))) (want_none rfl) rfl rfl (.inr rfl) rfl ?_
    refine wl_nil ?_
    refine wq_then ?_
    refine wc_ret ?_
    refine ret_1 (.inl rfl) (.bool (decide (x_n ≤ x_high))) rfl rfl ?_
    refine ⟨Ch.refl _ _, ?_⟩
    have hF3 : F_impl_within x_n x_low x_high = decide (x_n ≤ x_high) := by simp only [F_impl_within, h1, cond_true, cond_false]
    rw [hF3]
    exact rfl
  · have q4 := of_decide_eq_false h1
    refine wl_skip rfl rfl rfl (congrArg Value.bool h1) rfl rfl rfl ?_
    refine wl_skip rfl rfl rfl (congrArg Value.bool h1) rfl rfl rfl ?_
    refine wl_skip rfl rfl rfl (congrArg Value.bool h1) rfl rfl rfl ?_
    refine wl_pick_f (.bool false) (want_none rfl) rfl rfl rfl (congrArg Value.bool h1) rfl ?_
    refine wl_mv (.bool false) (want_none rfl) rfl rfl (.inr rfl) rfl ?_
    refine wl_nil ?_
    refine wq_then ?_
    refine wc_ret ?_
    refine ret_1 (.inl rfl) (.bool false) rfl rfl ?_
    refine ⟨Ch.refl _ _, ?_⟩
    have hF5 : F_impl_within x_n x_low x_high = false := by simp only [F_impl_within, h1, cond_true, cond_false]
    rw [hF5]
    exact rfl
theorem impl_within_t {n a b : Int} (h : F_impl_within n a b = true) : a ≤ n ∧ n ≤ b := by
  unfold F_impl_within at h
  by_cases h1 : a ≤ n <;> simp [h1] at h
  exact ⟨h1, h⟩
theorem impl_within_f {n a b : Int} (h : F_impl_within n a b = false) : n < a ∨ b < n := by
  unfold F_impl_within at h
  by_cases h1 : a ≤ n <;> simp [h1] at h <;> omega

theorem C_impl_areWords (w0 : World) (v_x_l : Value) (x_l : List Int) (r_x_l : R_23 w0 v_x_l x_l) (x_n : Int)  : Fn Try.prog 125 #[v_x_l, (.int .i64 x_n)] w0 (fun v w' => Keep w0 w' ∧ O_4 w' w0.heap.size v (areW x_l x_n)) := by
  obtain ⟨a1, c2, rfl, r3, s4⟩ := r_x_l
  refine fn_of (n := 21) (l := [(.slice a1 x_l.length c2), (.int .i64 x_n), undef, undef, undef, undef, undef, undef, undef, undef, undef, undef, undef, undef, undef, undef, undef, undef, undef, undef, undef]) Try.func125 rfl rfl (by kernel_rfl) rfl ?_
  refine wc_seq ?_
  refine wc_region ?_
  refine wl_mv (.bool false) (want_none rfl) rfl rfl (.inr rfl) rfl ?_
  refine wl_nil ?_
  refine wq_then ?_
  refine wc_seq ?_
  refine wc_seq ?_
  refine wc_region ?_
  refine wl_mv (.slice a1 x_l.length c2) (want_none rfl) rfl rfl (.inl rfl) rfl ?_
  refine wl_len (want_none rfl) rfl rfl rfl slTy_23 rfl r3 ?_
  refine wl_mv (.int .i64 0) (want_none rfl) rfl rfl (.inl rfl) rfl ?_
  refine wl_nil ?_
  refine wq_then ?_
  refine wc_block ?_
  refine wc_norm [(.slice a1 x_l.length c2), (.int .i64 x_n), undef, undef, (.bool false), undef, undef, (.slice a1 x_l.length c2), (.int .i64 (x_l.length : Int)), (.int .i64 0), undef, undef, undef, undef, undef, undef, undef, undef, undef, undef, undef] rfl ⟨rfl, rfl, rfl, rfl, rfl, rfl, rfl, rfl, rfl, rfl, rfl, rfl, rfl, rfl, rfl, rfl, rfl, rfl, rfl, rfl, rfl, trivial⟩ ?_
  refine wc_loop (fun e' w' => ∃ (k : Nat) (u4x u6x u10x u11x u12x u13x u14x u15x u16x : Value), e' = lst [(.slice a1 x_l.length c2), (.int .i64 x_n), undef, undef, u4x, undef, u6x, (.slice a1 x_l.length c2), (.int .i64 (x_l.length : Int)), (.int .i64 ((k : Nat) : Int)), u10x, u11x, u12x, u13x, u14x, u15x, u16x, undef, undef, undef, undef] ∧ Ch (fun k => w0.heap.size ≤ k) w0 w' ∧ Ch (fun k => w0.heap.size ≤ k) w0 w' ∧ k ≤ x_l.length ∧ allW (x_l.take k) = true) (fun e' _ => x_l.length - ((intOf (e' 9))).toNat) ?_ ?_
  · exact ⟨0, (.bool false), undef, undef, undef, undef, undef, undef, undef, undef, (congrArg (fun (x9z : Value) => lst [(.slice a1 x_l.length c2), (.int .i64 x_n), undef, undef, (.bool false), undef, undef, (.slice a1 x_l.length c2), (.int .i64 (x_l.length : Int)), x9z, undef, undef, undef, undef, undef, undef, undef, undef, undef, undef, undef]) (congrArg (Value.int .i64) (show (0 : Int) = ((0 : Nat) : Int) by omega))), (Ch.base w0), (Ch.refl (fun k => w0.heap.size ≤ k) w0), (by omega), (by first | rfl | exact allW_next (by assumption) (by omega) (by assumption))⟩
  · rintro _ w1 ⟨k, u4x, u6x, u10x, u11x, u12x, u13x, u14x, u15x, u16x, rfl, m6, k7, i8, i9⟩
    refine wc_seq ?_
    refine wc_region ?_
    refine wl_pure (.bool (decide (((k : Nat) : Int) < (x_l.length : Int)))) (want_none rfl) rfl rfl (by kernel_rfl) ?_
    refine wl_nil ?_
    refine wq_then ?_
    refine wc_seq ?_
    rcases Bool.eq_false_or_eq_true (decide (((k : Nat) : Int) < (x_l.length : Int))) with h10 | h10
    · have q11 := of_decide_eq_true h10
      refine wc_true (congrArg Value.bool h10) ?_
      refine wc_skip ?_
      refine wq_then ?_
      refine wc_seq ?_
      refine wc_block ?_
      refine wc_seq ?_
      refine wc_region ?_
      refine wl_index (want_none rfl) ((k : Nat) : Int) rfl rfl rfl slTy_23 rfl rfl (r3.from0 m6) (by first | omega | (simp only [List.length_cons, List.length_nil, List.length_replicate, List.length_append, List.length_take, List.length_set, List.length_map]; omega)) (by first | omega | (simp only [List.length_cons, List.length_nil, List.length_replicate, List.length_append, List.length_take, List.length_set, List.length_map]; omega)) ?_
      refine wl_loadE (iV (x_l.getD k 0)) (want_none rfl) rfl rfl rfl rfl isAgg_3 (r3.from0 m6) (iget (by simp) (by first | omega | (simp only [List.length_cons, List.length_nil, List.length_replicate, List.length_append, List.length_take, List.length_set, List.length_map]; omega))) ?_
      refine wl_mv (.int .i64 (x_l.getD k 0)) (want_none rfl) rfl rfl (.inr rfl) rfl ?_
      refine wl_nil ?_
      refine wq_then ?_
      refine wc_seq ?_
      refine wc_region ?_
      refine wl_mv (.int .i64 (x_l.getD k 0)) (want_none rfl) rfl rfl (.inl rfl) rfl ?_
      refine wl_call (want_none rfl) (args := #[(.int .i64 (x_l.getD k 0)), (.int .i64 0), (.int .i64 4294967295)]) rfl rfl (by kernel_rfl) (C_impl_within w1 (x_l.getD k 0) 0 4294967295) ?_
      rintro _ w2 ⟨k12, rfl⟩
      have m13 := m6.extk k12
      refine wl_pure (.bool (!(F_impl_within (x_l.getD k 0) 0 4294967295))) (want_none rfl) rfl rfl (by kernel_rfl) ?_
      refine wl_nil ?_
      refine wq_then ?_
      rcases Bool.eq_false_or_eq_true (F_impl_within (x_l.getD k 0) 0 4294967295) with h14 | h14
      · have q15 := impl_within_t h14
        refine wc_false (congrArg (fun b => Value.bool (!b)) h14) ?_
        refine wc_skip ?_
        refine wq_blk_normal ?_
        refine wq_then ?_
        refine wc_region ?_
        refine wl_arith (((k : Nat) : Int) + 1) (want_none rfl) rfl rfl (by kernel_rfl) (by omega) (by omega) ?_
        refine wl_mv (.int .i64 (((k : Nat) : Int) + 1)) (want_none rfl) rfl rfl (.inl rfl) rfl ?_
        refine wl_nil ?_
        exact wq_loopN (w0 := w1) [(.slice a1 x_l.length c2), (.int .i64 x_n), undef, undef, u4x, undef, (.int .i64 (x_l.getD k 0)), (.slice a1 x_l.length c2), (.int .i64 (x_l.length : Int)), (.int .i64 (((k + 1) : Nat) : Int)), (.bool (decide (((k : Nat) : Int) < (x_l.length : Int)))), (.pointer (some (elA (.slice a1 x_l.length c2) ((((k : Nat) : Int)).toNat * 1)))), (.int .i64 (x_l.getD k 0)), (.int .i64 (x_l.getD k 0)), (.bool (F_impl_within (x_l.getD k 0) 0 4294967295)), (.bool (!(F_impl_within (x_l.getD k 0) 0 4294967295))), (.int .i64 (((k : Nat) : Int) + 1)), undef, undef, undef, undef] rfl ⟨rfl, rfl, rfl, rfl, rfl, rfl, rfl, rfl, rfl, (congrArg (Value.int .i64) (show ((((k : Nat) : Int) + 1) : Int) = (((k + 1) : Nat) : Int) by omega)), rfl, rfl, rfl, rfl, rfl, rfl, rfl, rfl, rfl, rfl, rfl, trivial⟩ ⟨(k + 1), u4x, (.int .i64 (x_l.getD k 0)), (.bool (decide (((k : Nat) : Int) < (x_l.length : Int)))), (.pointer (some (elA (.slice a1 x_l.length c2) ((((k : Nat) : Int)).toNat * 1)))), (.int .i64 (x_l.getD k 0)), (.int .i64 (x_l.getD k 0)), (.bool (F_impl_within (x_l.getD k 0) 0 4294967295)), (.bool (!(F_impl_within (x_l.getD k 0) 0 4294967295))), (.int .i64 (((k : Nat) : Int) + 1)), rfl, m13, (((Ch.refl (fun k => w0.heap.size ≤ k) w0).ext k7 (fun k hk => Nat.le_trans (Nat.le_refl _) hk)).extk k12), (by omega), (by first | rfl | exact allW_next (by assumption) (by omega) (by assumption))⟩ (by show x_l.length - ((((k + 1) : Nat) : Int)).toNat < x_l.length - (((k : Nat) : Int)).toNat; omega)
      · have q16 := impl_within_f h14
        refine wc_true (congrArg (fun b => Value.bool (!b)) h14) ?_
        refine wc_seq ?_
        refine wc_region ?_
        refine wl_mv (.bool false) (want_none rfl) rfl rfl (.inr rfl) rfl ?_
        refine wl_nil ?_
        refine wq_then ?_
        refine wc_ret ?_
        refine wq_blk_ret ?_
        refine wq_then_ret ?_
        refine wq_then_ret ?_
        refine wq_blk_ret ?_
        refine wq_then_ret ?_
        refine ret_1 (.inl rfl) (.bool false) rfl rfl ?_
        refine ⟨m13.keep0, ?_⟩
        have hF17 : areW x_l x_n = false := by first | (have hz := allW_no (x := x_l) (k := k) (by omega) (by assumption); simp [areW, hz]) | (have hz := allW_all (x := x_l) (k := k) (by assumption) (by omega); simp [areW, hz])
        rw [hF17]
        exact rfl
    · have q18 := of_decide_eq_false h10
      refine wc_false (congrArg Value.bool h10) ?_
      refine wc_exit ?_
      refine wq_then_exit ?_
      refine wq_then_exit ?_
      refine wq_blk_exit ?_
      refine wq_then ?_
      refine wc_seq ?_
      refine wc_region ?_
      refine wl_mv (.slice a1 x_l.length c2) (want_none rfl) rfl rfl (.inl rfl) rfl ?_
      refine wl_len (want_none rfl) rfl rfl rfl slTy_23 rfl (r3.from0 m6) ?_
      refine wl_mv (.int .i64 x_n) (want_none rfl) rfl rfl (.inl rfl) rfl ?_
      refine wl_pure (.bool (decide ((x_l.length : Int) = x_n))) (want_none rfl) rfl rfl (by kernel_rfl) ?_
      refine wl_mv (.bool (decide ((x_l.length : Int) = x_n))) (want_none rfl) rfl rfl (.inr rfl) rfl ?_
      refine wl_nil ?_
      refine wq_then ?_
      refine wc_ret ?_
      refine ret_1 (.inl rfl) (.bool (decide ((x_l.length : Int) = x_n))) rfl rfl ?_
      refine ⟨m6.keep0, ?_⟩
      have hF19 : areW x_l x_n = decide ((x_l.length : Int) = x_n) := by first | (have hz := allW_no (x := x_l) (k := k) (by omega) (by assumption); simp [areW, hz]) | (have hz := allW_all (x := x_l) (k := k) (by assumption) (by omega); simp [areW, hz])
      rw [hF19]
      exact rfl

def F_impl_hasBit (x_w : PWin) (x_n : Int) : (Bool) := decide ((((x_w.Bits.getD (((x_n % 1024) / 32)).toNat 0) / (2 : Int) ^ ((x_n % 32)).toNat) % 2) = 1)
theorem C_impl_hasBit (w0 : World) (v_x_w : Value) (x_w : PWin) (r_x_w : R_25 w0 v_x_w x_w) (x_n : Int) (pre0 : x_w.Bits.length = 32) (pre1 : 0 ≤ x_n) : Fn Try.prog 126 #[v_x_w, (.int .i64 x_n)] w0 (fun v w' => Keep w0 w' ∧ O_4 w' w0.heap.size v (F_impl_hasBit x_w x_n)) := by
  obtain ⟨a1, c2, rfl, r3, s4⟩ := r_x_w
  refine fn_of (n := 17) (l := [(.agg #[(.int .i64 x_w.Top), (.slice a1 x_w.Bits.length c2)]), (.int .i64 x_n), undef, undef, undef, undef, undef, undef, undef, undef, undef, undef, undef, undef, undef, undef, undef]) Try.func126 rfl rfl (by kernel_rfl) rfl ?_
  refine wc_seq ?_
  refine wc_region ?_
  refine wl_box (want_none rfl) [(.int .i64 x_w.Top), (.slice a1 x_w.Bits.length c2)] rfl rfl rfl rfl ?_
  intro g6 w1 p7 p8 k9 b10
  have m11 := (Ch.base w0).extk k9
  refine wl_mv (.bool false) (want_none rfl) rfl rfl (.inr rfl) rfl ?_
  refine wl_nil ?_
  refine wq_then ?_
  refine wc_seq ?_
  refine wc_region ?_
  refine wl_pure (.pointer (some ⟨g6, 1, none⟩)) (want_none rfl) rfl rfl (by kernel_rfl) ?_
  refine wl_load1 (.slice a1 x_w.Bits.length c2) (want_none rfl) rfl rfl rfl rfl isAgg_23 b10 rfl ?_
  refine wl_mv (.int .i64 x_n) (want_none rfl) rfl rfl (.inl rfl) rfl ?_
  refine wl_rem x_n 1024 (want_none rfl) rfl rfl (by kernel_rfl) (by first | omega | assumption) ?_
  refine wl_quo (x_n % 1024) 32 (want_none rfl) rfl rfl (by kernel_rfl) (by omega) (by omega) (by omega) ?_
  refine wl_index (want_none rfl) ((x_n % 1024) / 32) rfl rfl rfl slTy_23 rfl rfl (r3.from0 m11) (by first | omega | (simp only [List.length_cons, List.length_nil, List.length_replicate, List.length_append, List.length_take, List.length_set, List.length_map]; omega)) (by first | omega | (simp only [List.length_cons, List.length_nil, List.length_replicate, List.length_append, List.length_take, List.length_set, List.length_map]; omega)) ?_
  refine wl_loadE (iV (x_w.Bits.getD (((x_n % 1024) / 32)).toNat 0)) (want_none rfl) rfl rfl rfl rfl isAgg_3 (r3.from0 m11) (iget (by simp) (by first | omega | (simp only [List.length_cons, List.length_nil, List.length_replicate, List.length_append, List.length_take, List.length_set, List.length_map]; omega))) ?_
  refine wl_mv (.int .i64 x_n) (want_none rfl) rfl rfl (.inl rfl) rfl ?_
  refine wl_rem x_n 32 (want_none rfl) rfl rfl (by kernel_rfl) (by first | omega | assumption) ?_
  refine wl_shr (x_w.Bits.getD (((x_n % 1024) / 32)).toNat 0) (x_n % 32) (want_none rfl) rfl rfl rfl rfl rfl (by omega) (by omega) ?_
  refine wl_and ((x_w.Bits.getD (((x_n % 1024) / 32)).toNat 0) / (2 : Int) ^ ((x_n % 32)).toNat) 1 2 1 (want_none rfl) rfl rfl (by decide) (by decide) (by decide) (by kernel_rfl) ?_
  refine wl_pure (.bool (decide ((((x_w.Bits.getD (((x_n % 1024) / 32)).toNat 0) / (2 : Int) ^ ((x_n % 32)).toNat) % 2) = 1))) (want_none rfl) rfl rfl (by kernel_rfl) ?_
  refine wl_mv (.bool (decide ((((x_w.Bits.getD (((x_n % 1024) / 32)).toNat 0) / (2 : Int) ^ ((x_n % 32)).toNat) % 2) = 1))) (want_none rfl) rfl rfl (.inr rfl) rfl ?_
  refine wl_nil ?_
  refine wq_then ?_
  refine wc_ret ?_
  refine ret_1 (.inl rfl) (.bool (decide ((((x_w.Bits.getD (((x_n % 1024) / 32)).toNat 0) / (2 : Int) ^ ((x_n % 32)).toNat) % 2) = 1))) rfl rfl ?_
  refine ⟨m11.keep0, ?_⟩
  have hF12 : F_impl_hasBit x_w x_n = decide ((((x_w.Bits.getD (((x_n % 1024) / 32)).toNat 0) / (2 : Int) ^ ((x_n % 32)).toNat) % 2) = 1) := by rfl
  rw [hF12]
  exact rfl
end Go.Proofs.Ytodlalolknldmaa.K
