import Derived.Test.YtodlalolknldmaaCore
import Derived.Test.YtodlalolknldmaaProg
import Derived.Test.YtodlalolknldmaaHeld
import Derived.Test.YtodlalolknldmaaFun
namespace Go.Proofs.Ytodlalolknldmaa.K
open Go.RowKit
set_option linter.unusedVariables false
set_option linter.unusedSimpArgs false
set_option maxRecDepth 100000
theorem slTy_22 : SlTy Try.prog 22 5 1 1 (.int .u8 0) := slTy Try.underlying22 (by kernel_rfl) rfl rfl
def Q_22 (w : World) (v : Value) (x : (List UInt8)) : Prop := ∃ (a1 : Option Addr) (c1 : Nat), v = .slice a1 x.length c1 ∧ Rd w 1 (.slice a1 x.length c1) x.length (x.map bV) ∧ x.length ≤ 9223372036854775807
def O_3 (w : World) (lo : Nat) (v : Value) (x : (Int)) : Prop := v = .int .i64 x
def F_laws_szByteS (x_a : List UInt8) (x_left : Int) : (Int) := bif (decide ((x_left - (x_a.length : Int)) < 0)) then ((-1)) else ((x_left - (x_a.length : Int)))
theorem C_laws_szByteS (w0 : World) (v_x_a : Value) (x_a : List UInt8) (r_x_a : Q_22 w0 v_x_a x_a) (x_left : Int) (pre0 : 0 ≤ x_left) (pre1 : x_left ≤ 1048576) : Fn Try.prog 74 #[v_x_a, (.int .i64 x_left)] w0 (fun v w' => Keep w0 w' ∧ O_3 w' w0.heap.size v (F_laws_szByteS x_a x_left)) := by
  obtain ⟨a1, c2, rfl, r3, s4⟩ := r_x_a
  refine fn_of (n := 12) (l := [(.slice a1 x_a.length c2), (.int .i64 x_left), undef, undef, undef, undef, undef, undef, undef, undef, undef, undef]) Try.func74 rfl rfl (by kernel_rfl) rfl ?_
  refine wc_seq ?_
  refine wc_region ?_
  refine wl_mv (.int .i64 0) (want_none rfl) rfl rfl (.inr rfl) rfl ?_
  refine wl_nil ?_
  refine wq_then ?_
  refine wc_seq ?_
  refine wc_region ?_
  refine wl_mv (.int .i64 x_left) (want_none rfl) rfl rfl (.inl rfl) rfl ?_
  refine wl_mv (.slice a1 x_a.length c2) (want_none rfl) rfl rfl (.inl rfl) rfl ?_
  refine wl_len (want_none rfl) rfl rfl rfl slTy_22 rfl r3 ?_
  refine wl_arith (x_left - (x_a.length : Int)) (want_none rfl) rfl rfl (by kernel_rfl) (by omega) (by omega) ?_
  refine wl_mv (.int .i64 (x_left - (x_a.length : Int))) (want_none rfl) rfl rfl (.inr rfl) rfl ?_
  refine wl_nil ?_
  refine wq_then ?_
  refine wc_seq ?_
  refine wc_seq ?_
  refine wc_region ?_
  refine wl_mv (.int .i64 (x_left - (x_a.length : Int))) (want_none rfl) rfl rfl (.inl rfl) rfl ?_
  refine wl_pure (.bool (decide ((x_left - (x_a.length : Int)) < 0))) (want_none rfl) rfl rfl (by kernel_rfl) ?_
  refine wl_nil ?_
  refine wq_then ?_
  rcases Bool.eq_false_or_eq_true (decide ((x_left - (x_a.length : Int)) < 0)) with h6 | h6
  · have q7 := of_decide_eq_true h6
    refine wc_true (congrArg Value.bool h6) ?_
    refine wc_seq ?_
    refine wc_region ?_
    refine wl_mv (.int .i64 (-1)) (want_none rfl) rfl rfl (.inr rfl) rfl ?_
    refine wl_nil ?_
    refine wq_then ?_
    refine wc_ret ?_
    refine wq_then_ret ?_
    refine ret_1 (.inl rfl) (.int .i64 (-1)) rfl rfl ?_
    refine ⟨Ch.refl _ _, ?_⟩
    have hF8 : F_laws_szByteS x_a x_left = (-1) := by simp only [F_laws_szByteS, h6, cond_true, cond_false]
    rw [hF8]
    exact rfl
  · have q9 := of_decide_eq_false h6
    refine wc_false (congrArg Value.bool h6) ?_
    refine wc_skip ?_
    refine wq_then ?_
    refine wc_seq ?_
    refine wc_region ?_
    refine wl_mv (.int .i64 (x_left - (x_a.length : Int))) (want_none rfl) rfl rfl (.inl rfl) rfl ?_
    refine wl_mv (.int .i64 (x_left - (x_a.length : Int))) (want_none rfl) rfl rfl (.inr rfl) rfl ?_
    refine wl_nil ?_
    refine wq_then ?_
    refine wc_ret ?_
    refine ret_1 (.inl rfl) (.int .i64 (x_left - (x_a.length : Int))) rfl rfl ?_
    refine ⟨Ch.refl _ _, ?_⟩
    have hF10 : F_laws_szByteS x_a x_left = (x_left - (x_a.length : Int)) := by simp only [F_laws_szByteS, h6, cond_true, cond_false]
    rw [hF10]
    exact rfl
theorem laws_szByteS_le (x : List UInt8) (l : Int) : F_laws_szByteS x l = -1 ∨ (F_laws_szByteS x l = l - ((x.length : Int)) ∧ (0 ≤ F_laws_szByteS x l ∨ l < 0 ∨ False)) := by

  simp only [F_laws_szByteS, cond_eq_ite, decide_eq_true_eq]
  (repeat' split) <;> omega

theorem isAgg_22 : ∀ w, (isAgg 22).run Try.prog w = .ok false w := fun w => by kernel_rfl
def Q_58 (w : World) (v : Value) (x : (PNote)) : Prop := ∃ (a1 : Option Addr) (c1 : Nat) (a2 : Option Addr) (c2 : Nat) (a3 : Option Addr) (c3 : Nat) (a4 : Option Addr) (c4 : Nat), v = .agg #[.int .i64 x.Kind, .int .i64 x.Id, .int .i64 x.Role, .slice a1 x.Cn.length c1, .slice a2 x.Sn.length c2, .int .i64 x.Epoch, .int .i64 x.Seq, .slice a3 x.Body.length c3, .slice a4 x.Key.length c4, .int .i64 x.A.Host, .int .i64 x.A.Port, .int .i64 x.Now] ∧ Rd w 1 (.slice a1 x.Cn.length c1) x.Cn.length (x.Cn.map bV) ∧ x.Cn.length ≤ 9223372036854775807 ∧ Rd w 1 (.slice a2 x.Sn.length c2) x.Sn.length (x.Sn.map bV) ∧ x.Sn.length ≤ 9223372036854775807 ∧ Rd w 1 (.slice a3 x.Body.length c3) x.Body.length (x.Body.map bV) ∧ x.Body.length ≤ 9223372036854775807 ∧ Rd w 1 (.slice a4 x.Key.length c4) x.Key.length (x.Key.map bV) ∧ x.Key.length ≤ 9223372036854775807
def F_laws_szNote (x_a : PNote) (x_left : Int) : (Int) := bif (decide ((F_laws_szByteS x_a.Cn x_left) < 0)) then ((-1)) else (bif (decide ((F_laws_szByteS x_a.Sn (F_laws_szByteS x_a.Cn x_left)) < 0)) then ((-1)) else (bif (decide ((F_laws_szByteS x_a.Body (F_laws_szByteS x_a.Sn (F_laws_szByteS x_a.Cn x_left))) < 0)) then ((-1)) else (bif (decide ((F_laws_szByteS x_a.Key (F_laws_szByteS x_a.Body (F_laws_szByteS x_a.Sn (F_laws_szByteS x_a.Cn x_left)))) < 0)) then ((-1)) else ((F_laws_szByteS x_a.Key (F_laws_szByteS x_a.Body (F_laws_szByteS x_a.Sn (F_laws_szByteS x_a.Cn x_left))))))))
theorem C_laws_szNote (w0 : World) (v_x_a : Value) (x_a : PNote) (r_x_a : Q_58 w0 v_x_a x_a) (x_left : Int) (pre0 : 0 ≤ x_left) (pre1 : x_left ≤ 1048576) : Fn Try.prog 39 #[v_x_a, (.int .i64 x_left)] w0 (fun v w' => Keep w0 w' ∧ O_3 w' w0.heap.size v (F_laws_szNote x_a x_left)) := by
  obtain ⟨a1, c2, a6, c7, a11, c12, a16, c17, rfl, r3, s4, r8, s9, r13, s14, r18, s19⟩ := r_x_a
  refine fn_of (n := 30) (l := [(.agg #[(.int .i64 x_a.Kind), (.int .i64 x_a.Id), (.int .i64 x_a.Role), (.slice a1 x_a.Cn.length c2), (.slice a6 x_a.Sn.length c7), (.int .i64 x_a.Epoch), (.int .i64 x_a.Seq), (.slice a11 x_a.Body.length c12), (.slice a16 x_a.Key.length c17), (.int .i64 x_a.A.Host), (.int .i64 x_a.A.Port), (.int .i64 x_a.Now)]), (.int .i64 x_left), undef, undef, undef, undef, undef, undef, undef, undef, undef, undef, undef, undef, undef, undef, undef, undef, undef, undef, undef, undef, undef, undef, undef, undef, undef, undef, undef, undef]) Try.func39 rfl rfl (by kernel_rfl) rfl ?_
  refine wc_seq ?_
  refine wc_region ?_
  refine wl_box (want_none rfl) [(.int .i64 x_a.Kind), (.int .i64 x_a.Id), (.int .i64 x_a.Role), (.slice a1 x_a.Cn.length c2), (.slice a6 x_a.Sn.length c7), (.int .i64 x_a.Epoch), (.int .i64 x_a.Seq), (.slice a11 x_a.Body.length c12), (.slice a16 x_a.Key.length c17), (.int .i64 x_a.A.Host), (.int .i64 x_a.A.Port), (.int .i64 x_a.Now)] rfl rfl rfl rfl ?_
  intro g21 w1 p22 p23 k24 b25
  have m26 := (Ch.base w0).extk k24
  refine wl_mv (.int .i64 0) (want_none rfl) rfl rfl (.inr rfl) rfl ?_
  refine wl_nil ?_
  refine wq_then ?_
  refine wc_seq ?_
  refine wc_region ?_
  refine wl_pure (.pointer (some ⟨g21, 3, none⟩)) (want_none rfl) rfl rfl (by kernel_rfl) ?_
  refine wl_load1 (.slice a1 x_a.Cn.length c2) (want_none rfl) rfl rfl rfl rfl isAgg_22 b25 rfl ?_
  refine wl_mv (.int .i64 x_left) (want_none rfl) rfl rfl (.inl rfl) rfl ?_
  refine wl_call (want_none rfl) (args := #[(.slice a1 x_a.Cn.length c2), (.int .i64 x_left)]) rfl rfl (by kernel_rfl) (C_laws_szByteS w1 (.slice a1 x_a.Cn.length c2) x_a.Cn (show Q_22 w1 (.slice a1 x_a.Cn.length c2) x_a.Cn from ⟨_, _, rfl, (r3.from0 m26), s4⟩) x_left (by omega) (by omega)) ?_
  rintro _ w2 ⟨k27, rfl⟩
  have m28 := m26.extk k27
  have q29 := laws_szByteS_le x_a.Cn x_left
  refine wl_mv (.int .i64 (F_laws_szByteS x_a.Cn x_left)) (want_none rfl) rfl rfl (.inr rfl) rfl ?_
  refine wl_nil ?_
  refine wq_then ?_
  refine wc_seq ?_
  refine wc_seq ?_
  refine wc_region ?_
  refine wl_mv (.int .i64 (F_laws_szByteS x_a.Cn x_left)) (want_none rfl) rfl rfl (.inl rfl) rfl ?_
  refine wl_pure (.bool (decide ((F_laws_szByteS x_a.Cn x_left) < 0))) (want_none rfl) rfl rfl (by kernel_rfl) ?_
  refine wl_nil ?_
  refine wq_then ?_
  rcases Bool.eq_false_or_eq_true (decide ((F_laws_szByteS x_a.Cn x_left) < 0)) with h30 | h30
  · have q31 := of_decide_eq_true h30
    refine wc_true (congrArg Value.bool h30) ?_
    refine wc_seq ?_
    refine wc_region ?_
    refine wl_mv (.int .i64 (-1)) (want_none rfl) rfl rfl (.inr rfl) rfl ?_
    refine wl_nil ?_
    refine wq_then ?_
    refine wc_ret ?_
    refine wq_then_ret ?_
    refine ret_1 (.inl rfl) (.int .i64 (-1)) rfl rfl ?_
    refine ⟨m28.keep0, ?_⟩
    have hF32 : F_laws_szNote x_a x_left = (-1) := by simp only [F_laws_szNote, h30, cond_true, cond_false]
    rw [hF32]
    exact rfl
  · have q33 := of_decide_eq_false h30
    refine wc_false (congrArg Value.bool h30) ?_
    refine wc_skip ?_
    refine wq_then ?_
    refine wc_seq ?_
    refine wc_region ?_
    refine wl_pure (.pointer (some ⟨g21, 4, none⟩)) (want_none rfl) rfl rfl (by kernel_rfl) ?_
    have b34 := (b25.kp k27)
    refine wl_load1 (.slice a6 x_a.Sn.length c7) (want_none rfl) rfl rfl rfl rfl isAgg_22 b34 rfl ?_
    refine wl_mv (.int .i64 (F_laws_szByteS x_a.Cn x_left)) (want_none rfl) rfl rfl (.inl rfl) rfl ?_
    refine wl_call (want_none rfl) (args := #[(.slice a6 x_a.Sn.length c7), (.int .i64 (F_laws_szByteS x_a.Cn x_left))]) rfl rfl (by kernel_rfl) (C_laws_szByteS w2 (.slice a6 x_a.Sn.length c7) x_a.Sn (show Q_22 w2 (.slice a6 x_a.Sn.length c7) x_a.Sn from ⟨_, _, rfl, (r8.from0 m28), s9⟩) (F_laws_szByteS x_a.Cn x_left) (by omega) (by omega)) ?_
    rintro _ w3 ⟨k35, rfl⟩
    have m36 := m28.extk k35
    have q37 := laws_szByteS_le x_a.Sn (F_laws_szByteS x_a.Cn x_left)
    refine wl_mv (.int .i64 (F_laws_szByteS x_a.Sn (F_laws_szByteS x_a.Cn x_left))) (want_none rfl) rfl rfl (.inr rfl) rfl ?_
    refine wl_nil ?_
    refine wq_then ?_
    refine wc_seq ?_
    refine wc_seq ?_
    refine wc_region ?_
    refine wl_mv (.int .i64 (F_laws_szByteS x_a.Sn (F_laws_szByteS x_a.Cn x_left))) (want_none rfl) rfl rfl (.inl rfl) rfl ?_
    refine wl_pure (.bool (decide ((F_laws_szByteS x_a.Sn (F_laws_szByteS x_a.Cn x_left)) < 0))) (want_none rfl) rfl rfl (by kernel_rfl) ?_
    refine wl_nil ?_
    refine wq_then ?_
    rcases Bool.eq_false_or_eq_true (decide ((F_laws_szByteS x_a.Sn (F_laws_szByteS x_a.Cn x_left)) < 0)) with h38 | h38
    · have q39 := of_decide_eq_true h38
      refine wc_true (congrArg Value.bool h38) ?_
      refine wc_seq ?_
      refine wc_region ?_
      refine wl_mv (.int .i64 (-1)) (want_none rfl) rfl rfl (.inr rfl) rfl ?_
      refine wl_nil ?_
      refine wq_then ?_
      refine wc_ret ?_
      refine wq_then_ret ?_
      refine ret_1 (.inl rfl) (.int .i64 (-1)) rfl rfl ?_
      refine ⟨m36.keep0, ?_⟩
      have hF40 : F_laws_szNote x_a x_left = (-1) := by simp only [F_laws_szNote, h30, h38, cond_true, cond_false]
      rw [hF40]
      exact rfl
    · have q41 := of_decide_eq_false h38
      refine wc_false (congrArg Value.bool h38) ?_
      refine wc_skip ?_
      refine wq_then ?_
      refine wc_seq ?_
      refine wc_region ?_
      refine wl_pure (.pointer (some ⟨g21, 7, none⟩)) (want_none rfl) rfl rfl (by kernel_rfl) ?_
      have b42 := (b34.kp k35)
      refine wl_load1 (.slice a11 x_a.Body.length c12) (want_none rfl) rfl rfl rfl rfl isAgg_22 b42 rfl ?_
      refine wl_mv (.int .i64 (F_laws_szByteS x_a.Sn (F_laws_szByteS x_a.Cn x_left))) (want_none rfl) rfl rfl (.inl rfl) rfl ?_
      refine wl_call (want_none rfl) (args := #[(.slice a11 x_a.Body.length c12), (.int .i64 (F_laws_szByteS x_a.Sn (F_laws_szByteS x_a.Cn x_left)))]) rfl rfl (by kernel_rfl) (C_laws_szByteS w3 (.slice a11 x_a.Body.length c12) x_a.Body (show Q_22 w3 (.slice a11 x_a.Body.length c12) x_a.Body from ⟨_, _, rfl, (r13.from0 m36), s14⟩) (F_laws_szByteS x_a.Sn (F_laws_szByteS x_a.Cn x_left)) (by omega) (by omega)) ?_
      rintro _ w4 ⟨k43, rfl⟩
      have m44 := m36.extk k43
      have q45 := laws_szByteS_le x_a.Body (F_laws_szByteS x_a.Sn (F_laws_szByteS x_a.Cn x_left))
      refine wl_mv (.int .i64 (F_laws_szByteS x_a.Body (F_laws_szByteS x_a.Sn (F_laws_szByteS x_a.Cn x_left)))) (want_none rfl) rfl rfl (.inr rfl) rfl ?_
      refine wl_nil ?_
      refine wq_then ?_
      refine wc_seq ?_
      refine wc_seq ?_
      refine wc_region ?_
      refine wl_mv (.int .i64 (F_laws_szByteS x_a.Body (F_laws_szByteS x_a.Sn (F_laws_szByteS x_a.Cn x_left)))) (want_none rfl) rfl rfl (.inl rfl) rfl ?_
      refine wl_pure (.bool (decide ((F_laws_szByteS x_a.Body (F_laws_szByteS x_a.Sn (F_laws_szByteS x_a.Cn x_left))) < 0))) (want_none rfl) rfl rfl (by kernel_rfl) ?_
      refine wl_nil ?_
      refine wq_then ?_
      rcases Bool.eq_false_or_eq_true (decide ((F_laws_szByteS x_a.Body (F_laws_szByteS x_a.Sn (F_laws_szByteS x_a.Cn x_left))) < 0)) with h46 | h46
      · have q47 := of_decide_eq_true h46
        refine wc_true (congrArg Value.bool h46) ?_
        refine wc_seq ?_
        refine wc_region ?_
        refine wl_mv (.int .i64 (-1)) (want_none rfl) rfl rfl (.inr rfl) rfl ?_
        refine wl_nil ?_
        refine wq_then ?_
        refine wc_ret ?_
        refine wq_then_ret ?_
        refine ret_1 (.inl rfl) (.int .i64 (-1)) rfl rfl ?_
        refine ⟨m44.keep0, ?_⟩
        have hF48 : F_laws_szNote x_a x_left = (-1) := by simp only [F_laws_szNote, h30, h38, h46, cond_true, cond_false]
        rw [hF48]
        exact rfl
      · have q49 := of_decide_eq_false h46
        refine wc_false (congrArg Value.bool h46) ?_
        refine wc_skip ?_
        refine wq_then ?_
        refine wc_seq ?_
        refine wc_region ?_
        refine wl_pure (.pointer (some ⟨g21, 8, none⟩)) (want_none rfl) rfl rfl (by kernel_rfl) ?_
        have b50 := (b42.kp k43)
        refine wl_load1 (.slice a16 x_a.Key.length c17) (want_none rfl) rfl rfl rfl rfl isAgg_22 b50 rfl ?_
        refine wl_mv (.int .i64 (F_laws_szByteS x_a.Body (F_laws_szByteS x_a.Sn (F_laws_szByteS x_a.Cn x_left)))) (want_none rfl) rfl rfl (.inl rfl) rfl ?_
        refine wl_call (want_none rfl) (args := #[(.slice a16 x_a.Key.length c17), (.int .i64 (F_laws_szByteS x_a.Body (F_laws_szByteS x_a.Sn (F_laws_szByteS x_a.Cn x_left))))]) rfl rfl (by kernel_rfl) (C_laws_szByteS w4 (.slice a16 x_a.Key.length c17) x_a.Key (show Q_22 w4 (.slice a16 x_a.Key.length c17) x_a.Key from ⟨_, _, rfl, (r18.from0 m44), s19⟩) (F_laws_szByteS x_a.Body (F_laws_szByteS x_a.Sn (F_laws_szByteS x_a.Cn x_left))) (by omega) (by omega)) ?_
        rintro _ w5 ⟨k51, rfl⟩
        have m52 := m44.extk k51
        have q53 := laws_szByteS_le x_a.Key (F_laws_szByteS x_a.Body (F_laws_szByteS x_a.Sn (F_laws_szByteS x_a.Cn x_left)))
        refine wl_mv (.int .i64 (F_laws_szByteS x_a.Key (F_laws_szByteS x_a.Body (F_laws_szByteS x_a.Sn (F_laws_szByteS x_a.Cn x_left))))) (want_none rfl) rfl rfl (.inr rfl) rfl ?_
        refine wl_nil ?_
        refine wq_then ?_
        refine wc_seq ?_
        refine wc_seq ?_
        refine wc_region ?_
        refine wl_mv (.int .i64 (F_laws_szByteS x_a.Key (F_laws_szByteS x_a.Body (F_laws_szByteS x_a.Sn (F_laws_szByteS x_a.Cn x_left))))) (want_none rfl) rfl rfl (.inl rfl) rfl ?_
        refine wl_pure (.bool (decide ((F_laws_szByteS x_a.Key (F_laws_szByteS x_a.Body (F_laws_szByteS x_a.Sn (F_laws_szByteS x_a.Cn x_left)))) < 0))) (want_none rfl) rfl rfl (by kernel_rfl) ?_
        refine wl_nil ?_
        refine wq_then ?_
        rcases Bool.eq_false_or_eq_true (decide ((F_laws_szByteS x_a.Key (F_laws_szByteS x_a.Body (F_laws_szByteS x_a.Sn (F_laws_szByteS x_a.Cn x_left)))) < 0)) with h54 | h54
        · have q55 := of_decide_eq_true h54
          refine wc_true (congrArg Value.bool h54) ?_
          refine wc_seq ?_
          refine wc_region ?_
          refine wl_mv (.int .i64 (-1)) (want_none rfl) rfl rfl (.inr rfl) rfl ?_
          refine wl_nil ?_
          refine wq_then ?_
          refine wc_ret ?_
          refine wq_then_ret ?_
          refine ret_1 (.inl rfl) (.int .i64 (-1)) rfl rfl ?_
          refine ⟨m52.keep0, ?_⟩
          have hF56 : F_laws_szNote x_a x_left = (-1) := by simp only [F_laws_szNote, h30, h38, h46, h54, cond_true, cond_false]
          rw [hF56]
          exact rfl
        · have q57 := of_decide_eq_false h54
          refine wc_false (congrArg Value.bool h54) ?_
          refine wc_skip ?_
          refine wq_then ?_
          refine wc_seq ?_
          refine wc_region ?_
          refine wl_mv (.int .i64 (F_laws_szByteS x_a.Key (F_laws_szByteS x_a.Body (F_laws_szByteS x_a.Sn (F_laws_szByteS x_a.Cn x_left))))) (want_none rfl) rfl rfl (.inl rfl) rfl ?_
          refine wl_mv (.int .i64 (F_laws_szByteS x_a.Key (F_laws_szByteS x_a.Body (F_laws_szByteS x_a.Sn (F_laws_szByteS x_a.Cn x_left))))) (want_none rfl) rfl rfl (.inr rfl) rfl ?_
          refine wl_nil ?_
          refine wq_then ?_
          refine wc_ret ?_
          refine ret_1 (.inl rfl) (.int .i64 (F_laws_szByteS x_a.Key (F_laws_szByteS x_a.Body (F_laws_szByteS x_a.Sn (F_laws_szByteS x_a.Cn x_left))))) rfl rfl ?_
          refine ⟨m52.keep0, ?_⟩
          have hF58 : F_laws_szNote x_a x_left = (F_laws_szByteS x_a.Key (F_laws_szByteS x_a.Body (F_laws_szByteS x_a.Sn (F_laws_szByteS x_a.Cn x_left)))) := by simp only [F_laws_szNote, h30, h38, h46, h54, cond_true, cond_false]
          rw [hF58]
          exact rfl
theorem laws_szNote_le (x : PNote) (l : Int) : F_laws_szNote x l = -1 ∨ (F_laws_szNote x l = l - ((x.Cn.length : Int) + (x.Sn.length : Int) + (x.Body.length : Int) + (x.Key.length : Int)) ∧ (0 ≤ F_laws_szNote x l ∨ l < 0 ∨ False)) := by
  have h0 := laws_szByteS_le x.Cn l
  have h1 := laws_szByteS_le x.Sn (F_laws_szByteS x.Cn l)
  have h2 := laws_szByteS_le x.Body (F_laws_szByteS x.Sn (F_laws_szByteS x.Cn l))
  have h3 := laws_szByteS_le x.Key (F_laws_szByteS x.Body (F_laws_szByteS x.Sn (F_laws_szByteS x.Cn l)))
  simp only [F_laws_szNote, cond_eq_ite, decide_eq_true_eq]
  (repeat' split) <;> omega

theorem isAgg_5 : ∀ w, (isAgg 5).run Try.prog w = .ok false w := fun w => by kernel_rfl
theorem sizeOf_5 : ∀ w, (sizeOf 5).run Try.prog w = .ok 1 w := fun w => by kernel_rfl
def R_22 (w : World) (v : Value) (x : (List UInt8)) : Prop := ∃ (a1 : Option Addr) (c1 : Nat), v = .slice a1 x.length c1 ∧ Rd w 1 (.slice a1 x.length c1) x.length (x.map bV) ∧ x.length ≤ 1073741824
def O_22 (w : World) (lo : Nat) (v : Value) (x : (List UInt8)) : Prop := ∃ (a1 : Option Addr) (c1 : Nat), v = .slice a1 x.length c1 ∧ w.ownsRow lo 5 1 (.slice a1 x.length c1) x.length (x.map bV) ∧ x.length ≤ 1073741824 ∧ Aps [(a1, c1)]
theorem C_laws_toByteS (w0 : World) (v_x_a : Value) (x_a : List UInt8) (r_x_a : R_22 w0 v_x_a x_a)  : Fn Try.prog 16 #[v_x_a] w0 (fun v w' => Keep w0 w' ∧ O_22 w' w0.heap.size v (cpB x_a)) := by
  obtain ⟨a1, c2, rfl, r3, s4⟩ := r_x_a
  refine fn_of (n := 22) (l := [(.slice a1 x_a.length c2), undef, undef, undef, undef, undef, undef, undef, undef, undef, undef, undef, undef, undef, undef, undef, undef, undef, undef, undef, undef, undef]) Try.func16 rfl rfl (by kernel_rfl) rfl ?_
  refine wc_seq ?_
  refine wc_region ?_
  refine wl_mv (.slice none 0 0) (want_none rfl) rfl rfl (.inr rfl) rfl ?_
  refine wl_nil ?_
  refine wq_then ?_
  refine wc_seq ?_
  refine wc_region ?_
  refine wl_mv (.slice a1 x_a.length c2) (want_none rfl) rfl rfl (.inl rfl) rfl ?_
  refine wl_len (want_none rfl) rfl rfl rfl slTy_22 rfl r3 ?_
  refine wl_makeB (x_a.length) (want_none rfl) rfl rfl rfl slTy_22 (x_a.length : Int) rfl (by omega) (by (try simp only [List.length_append, List.length_cons, List.length_nil]); omega) (by (try simp only [List.length_append, List.length_cons, List.length_nil]); omega) ?_
  intro a6 c7 w1 k8 o9
  have m10 := (Ch.base w0).extk k8
  refine wl_mv (.slice a6 (List.replicate x_a.length (0 : UInt8)).length c7) (want_none rfl) rfl rfl (.inr rfl) rfl ?_
  refine wl_nil ?_
  refine wq_then ?_
  refine wc_seq ?_
  refine wc_seq ?_
  refine wc_region ?_
  refine wl_mv (.int .i64 0) (want_none rfl) rfl rfl (.inr rfl) rfl ?_
  refine wl_nil ?_
  refine wq_then ?_
  refine wc_block ?_
  refine wc_norm [(.slice a1 x_a.length c2), undef, (.slice none 0 0), (.slice a6 (List.replicate x_a.length (0 : UInt8)).length c7), (.int .i64 0), (.slice a1 x_a.length c2), (.int .i64 (x_a.length : Int)), (.slice a6 (List.replicate x_a.length (0 : UInt8)).length c7), undef, undef, undef, undef, undef, undef, undef, undef, undef, undef, undef, undef, undef, undef] rfl ⟨rfl, rfl, rfl, rfl, rfl, rfl, rfl, rfl, rfl, rfl, rfl, rfl, rfl, rfl, rfl, rfl, rfl, rfl, rfl, rfl, rfl, rfl, trivial⟩ ?_
  refine wc_loop (fun e' w' => ∃ (k : Nat) (u8x u9x u10x u11x u12x u13x u14x u15x u16x u17x u18x u19x u20x : Value), e' = lst [(.slice a1 x_a.length c2), undef, (.slice none 0 0), (.slice a6 (List.replicate x_a.length (0 : UInt8)).length c7), (.int .i64 ((k : Nat) : Int)), (.slice a1 x_a.length c2), (.int .i64 (x_a.length : Int)), (.slice a6 (List.replicate x_a.length (0 : UInt8)).length c7), u8x, u9x, u10x, u11x, u12x, u13x, u14x, u15x, u16x, u17x, u18x, u19x, u20x, undef] ∧ Ch (fun k => w0.heap.size ≤ k) w0 w' ∧ Ch (fun k => w0.heap.size ≤ k) w1 w' ∧ k ≤ x_a.length ∧ World.ownsRow w' w0.heap.size 5 1 (.slice a6 (List.replicate x_a.length (0 : UInt8)).length c7) (List.replicate x_a.length (0 : UInt8)).length ((x_a.take k ++ List.replicate (x_a.length - k) (0 : UInt8)).map bV)) (fun e' _ => x_a.length - ((intOf (e' 4))).toNat) ?_ ?_
  · have hE12 : ((List.replicate x_a.length (0 : UInt8)) : List UInt8) = x_a.take 0 ++ List.replicate (x_a.length - 0) (0 : UInt8) := by first | exact cpB_next (by omega) | simp
    exact ⟨0, undef, undef, undef, undef, undef, undef, undef, undef, undef, undef, undef, undef, undef, (congrArg (fun (x4z : Value) => lst [(.slice a1 x_a.length c2), undef, (.slice none 0 0), (.slice a6 (List.replicate x_a.length (0 : UInt8)).length c7), x4z, (.slice a1 x_a.length c2), (.int .i64 (x_a.length : Int)), (.slice a6 (List.replicate x_a.length (0 : UInt8)).length c7), undef, undef, undef, undef, undef, undef, undef, undef, undef, undef, undef, undef, undef, undef]) (congrArg (Value.int .i64) (show (0 : Int) = ((0 : Nat) : Int) by omega))), m10, (Ch.refl (fun k => w0.heap.size ≤ k) w1), (by omega), (by rw [← hE12]; exact o9)⟩
  · rintro _ w2 ⟨k, u8x, u9x, u10x, u11x, u12x, u13x, u14x, u15x, u16x, u17x, u18x, u19x, u20x, rfl, m13, k14, i15, o16⟩
    refine wc_seq ?_
    refine wc_seq ?_
    refine wc_region ?_
    refine wl_mv (.int .i64 ((k : Nat) : Int)) (want_none rfl) rfl rfl (.inl rfl) rfl ?_
    refine wl_mv (.slice a1 x_a.length c2) (want_none rfl) rfl rfl (.inl rfl) rfl ?_
    refine wl_len (want_none rfl) rfl rfl rfl slTy_22 rfl (r3.from0 m13) ?_
    refine wl_pure (.bool (decide (((k : Nat) : Int) < (x_a.length : Int)))) (want_none rfl) rfl rfl (by kernel_rfl) ?_
    refine wl_nil ?_
    refine wq_then ?_
    rcases Bool.eq_false_or_eq_true (decide (((k : Nat) : Int) < (x_a.length : Int))) with h17 | h17
    · have q18 := of_decide_eq_true h17
      refine wc_true (congrArg Value.bool h17) ?_
      refine wc_skip ?_
      refine wq_then ?_
      refine wc_seq ?_
      refine wc_block ?_
      refine wc_region ?_
      refine wl_mv (.slice a6 (List.replicate x_a.length (0 : UInt8)).length c7) (want_none rfl) rfl rfl (.inl rfl) rfl ?_
      refine wl_mv (.int .i64 ((k : Nat) : Int)) (want_none rfl) rfl rfl (.inl rfl) rfl ?_
      refine wl_mv (.slice a1 x_a.length c2) (want_none rfl) rfl rfl (.inl rfl) rfl ?_
      refine wl_mv (.int .i64 ((k : Nat) : Int)) (want_none rfl) rfl rfl (.inl rfl) rfl ?_
      refine wl_index (want_none rfl) ((k : Nat) : Int) rfl rfl rfl slTy_22 rfl rfl (r3.from0 m13) (by first | omega | (simp only [List.length_cons, List.length_nil, List.length_replicate, List.length_append, List.length_take, List.length_set, List.length_map]; omega)) (by first | omega | (simp only [List.length_cons, List.length_nil, List.length_replicate, List.length_append, List.length_take, List.length_set, List.length_map]; omega)) ?_
      refine wl_loadE (bV (x_a.getD k 0)) (want_none rfl) rfl rfl rfl rfl isAgg_5 (r3.from0 m13) (bget (by simp) (by first | omega | (simp only [List.length_cons, List.length_nil, List.length_replicate, List.length_append, List.length_take, List.length_set, List.length_map]; omega))) ?_
      refine wl_index (want_none rfl) ((k : Nat) : Int) rfl rfl rfl slTy_22 rfl rfl (Rd.of_own o16) (by first | omega | (simp only [List.length_cons, List.length_nil, List.length_replicate, List.length_append, List.length_take, List.length_set, List.length_map]; omega)) (by first | omega | (simp only [List.length_cons, List.length_nil, List.length_replicate, List.length_append, List.length_take, List.length_set, List.length_map]; omega)) ?_
      refine wl_storeB (x_a.take k ++ List.replicate (x_a.length - k) (0 : UInt8)) (k) ((x_a.getD k 0)) (want_none rfl) rfl rfl rfl (by simp) rfl sizeOf_5 o16 (by first | omega | (simp only [List.length_append, List.length_replicate, List.length_take, List.length_set, List.length_map]; omega)) ?_
      intro w3 k19 o20
      have m21 := m13.ext k19 (fun k hk => Nat.le_trans (Nat.le_refl _) (own_lt o9 k hk).1)
      refine wl_nil ?_
      refine wq_blk_normal ?_
      refine wq_then ?_
      refine wc_region ?_
      refine wl_mv (.int .i64 ((k : Nat) : Int)) (want_none rfl) rfl rfl (.inl rfl) rfl ?_
      refine wl_arith (((k : Nat) : Int) + 1) (want_none rfl) rfl rfl (by kernel_rfl) (by omega) (by omega) ?_
      refine wl_mv (.int .i64 (((k : Nat) : Int) + 1)) (want_none rfl) rfl rfl (.inr rfl) rfl ?_
      refine wl_nil ?_
      have hE22 : (((x_a.take k ++ List.replicate (x_a.length - k) (0 : UInt8)).set k (x_a.getD k 0)) : List UInt8) = x_a.take (k + 1) ++ List.replicate (x_a.length - (k + 1)) (0 : UInt8) := by first | exact cpB_next (by omega) | simp
      exact wq_loopN (w0 := w2) [(.slice a1 x_a.length c2), undef, (.slice none 0 0), (.slice a6 (List.replicate x_a.length (0 : UInt8)).length c7), (.int .i64 (((k + 1) : Nat) : Int)), (.slice a1 x_a.length c2), (.int .i64 (x_a.length : Int)), (.slice a6 (List.replicate x_a.length (0 : UInt8)).length c7), (.int .i64 ((k : Nat) : Int)), (.slice a1 x_a.length c2), (.int .i64 (x_a.length : Int)), (.bool (decide (((k : Nat) : Int) < (x_a.length : Int)))), (.int .i64 ((k : Nat) : Int)), (.int .i64 (((k : Nat) : Int) + 1)), (.slice a6 (List.replicate x_a.length (0 : UInt8)).length c7), (.int .i64 ((k : Nat) : Int)), (.slice a1 x_a.length c2), (.int .i64 ((k : Nat) : Int)), (.pointer (some (elA (.slice a1 x_a.length c2) ((((k : Nat) : Int)).toNat * 1)))), (.int .u8 ((x_a.getD k 0).toNat : Int)), (.pointer (some (elA (.slice a6 (List.replicate x_a.length (0 : UInt8)).length c7) ((((k : Nat) : Int)).toNat * 1)))), undef] rfl ⟨rfl, rfl, rfl, rfl, (congrArg (Value.int .i64) (show ((((k : Nat) : Int) + 1) : Int) = (((k + 1) : Nat) : Int) by omega)), rfl, rfl, rfl, rfl, rfl, rfl, rfl, rfl, rfl, rfl, rfl, rfl, rfl, rfl, rfl, rfl, rfl, trivial⟩ ⟨(k + 1), (.int .i64 ((k : Nat) : Int)), (.slice a1 x_a.length c2), (.int .i64 (x_a.length : Int)), (.bool (decide (((k : Nat) : Int) < (x_a.length : Int)))), (.int .i64 ((k : Nat) : Int)), (.int .i64 (((k : Nat) : Int) + 1)), (.slice a6 (List.replicate x_a.length (0 : UInt8)).length c7), (.int .i64 ((k : Nat) : Int)), (.slice a1 x_a.length c2), (.int .i64 ((k : Nat) : Int)), (.pointer (some (elA (.slice a1 x_a.length c2) ((((k : Nat) : Int)).toNat * 1)))), (.int .u8 ((x_a.getD k 0).toNat : Int)), (.pointer (some (elA (.slice a6 (List.replicate x_a.length (0 : UInt8)).length c7) ((((k : Nat) : Int)).toNat * 1)))), rfl, m21, (((Ch.refl (fun k => w0.heap.size ≤ k) w1).ext k14 (fun k hk => Nat.le_trans (Nat.le_refl _) hk)).ext k19 (fun k hk => Nat.le_trans (Nat.le_refl _) (own_lt o9 k hk).1)), (by omega), (by rw [← hE22]; exact o20)⟩ (by show x_a.length - ((((k + 1) : Nat) : Int)).toNat < x_a.length - (((k : Nat) : Int)).toNat; omega)
    · have q23 := of_decide_eq_false h17
      refine wc_false (congrArg Value.bool h17) ?_
      refine wc_exit ?_
      refine wq_then_exit ?_
      refine wq_then_exit ?_
      refine wq_blk_exit ?_
      refine wq_then ?_
      refine wc_seq ?_
      refine wc_region ?_
      refine wl_mv (.slice a6 (List.replicate x_a.length (0 : UInt8)).length c7) (want_none rfl) rfl rfl (.inl rfl) rfl ?_
      refine wl_mv (.slice a6 (List.replicate x_a.length (0 : UInt8)).length c7) (want_none rfl) rfl rfl (.inr rfl) rfl ?_
      refine wl_nil ?_
      refine wq_then ?_
      refine wc_ret ?_
      refine ret_1 (.inl rfl) (.slice a6 (List.replicate x_a.length (0 : UInt8)).length c7) rfl rfl ?_
      refine ⟨m13.keep0, ?_⟩
      have hF24 : cpB x_a = (x_a.take k ++ List.replicate (x_a.length - k) (0 : UInt8)) := by exact cpB_end (by omega)
      rw [hF24]
      have hN25 : (List.replicate x_a.length (0 : UInt8)).length = ((x_a.take k ++ List.replicate (x_a.length - k) (0 : UInt8))).length := by (simp only [List.length_append, List.length_take, List.length_replicate, List.length_set, List.length_map]; omega)
      rw [hN25] at o16 ⊢
      exact ⟨_, _, rfl, o16, (by rw [← hN25]; rw [List.length_replicate]; first | assumption | omega), ⟨trivial, trivial⟩⟩

theorem zero_61 : ∀ w, (zeroValue 61).run Try.prog w = .ok (.agg #[(.int .i64 0), (.int .i64 0)]) w := fun w => by kernel_rfl
theorem isAgg_3 : ∀ w, (isAgg 3).run Try.prog w = .ok false w := fun w => by kernel_rfl
theorem sizeOf_3 : ∀ w, (sizeOf 3).run Try.prog w = .ok 1 w := fun w => by kernel_rfl
theorem isAgg_61 : ∀ w, (isAgg 61).run Try.prog w = .ok true w := fun w => by kernel_rfl
theorem sizeOf_61 : ∀ w, (sizeOf 61).run Try.prog w = .ok 2 w := fun w => by kernel_rfl
def R_56 (w : World) (v : Value) (x : (PAddr)) : Prop := v = .agg #[.int .i64 x.Host, .int .i64 x.Port]
def O_61 (w : World) (lo : Nat) (v : Value) (x : (PAddr)) : Prop := v = .agg #[.int .i64 x.Host, .int .i64 x.Port]
def F_laws_toAddr (x_a : PAddr) : (PAddr) := x_a
theorem C_laws_toAddr (w0 : World) (v_x_a : Value) (x_a : PAddr) (r_x_a : R_56 w0 v_x_a x_a)  : Fn Try.prog 54 #[v_x_a] w0 (fun v w' => Keep w0 w' ∧ O_61 w' w0.heap.size v (F_laws_toAddr x_a)) := by
  obtain rfl := r_x_a
  refine fn_of (n := 11) (l := [(.agg #[(.int .i64 x_a.Host), (.int .i64 x_a.Port)]), undef, undef, undef, undef, undef, undef, undef, undef, undef, undef]) Try.func54 rfl rfl (by kernel_rfl) rfl ?_
  refine wc_seq ?_
  refine wc_region ?_
  refine wl_box (want_none rfl) [(.int .i64 x_a.Host), (.int .i64 x_a.Port)] rfl rfl rfl rfl ?_
  intro g1 w1 p2 p3 k4 b5
  have m6 := (Ch.base w0).extk k4
  refine wl_alloc (want_none rfl) (.agg #[(.int .i64 0), (.int .i64 0)]) [(.int .i64 0), (.int .i64 0)] zero_61 rfl rfl rfl rfl ?_
  intro g7 w2 p8 p9 k10 b11
  have m12 := m6.extk k10
  refine wl_nil ?_
  refine wq_then ?_
  refine wc_seq ?_
  refine wc_region ?_
  refine wl_alloc (want_none rfl) (.agg #[(.int .i64 0), (.int .i64 0)]) [(.int .i64 0), (.int .i64 0)] zero_61 rfl rfl rfl rfl ?_
  intro g13 w3 p14 p15 k16 b17
  have m18 := m12.extk k16
  refine wl_nil ?_
  refine wq_then ?_
  refine wc_seq ?_
  refine wc_region ?_
  refine wl_pure (.pointer (some ⟨g1, 0, none⟩)) (want_none rfl) rfl rfl (by kernel_rfl) ?_
  have b19 := ((b5.kp k10).kp k16)
  refine wl_load1 (.int .i64 x_a.Host) (want_none rfl) rfl rfl rfl rfl isAgg_3 b19 rfl ?_
  refine wl_pure (.pointer (some ⟨g13, 0, none⟩)) (want_none rfl) rfl rfl (by kernel_rfl) ?_
  refine wl_store (.int .i64 x_a.Host) [(.int .i64 x_a.Host)] [(.int .i64 x_a.Host), (.int .i64 0)] (want_none rfl) rfl rfl rfl rfl rfl (one_cons rfl one_nil) sizeOf_3 b17 rfl rfl ?_
  intro w4 k20 b21 z22
  have m23 := m18.ext k20 (fun k hk => by subst hk; exact Nat.le_trans (Nat.le_trans k4.size k10.size) p14)
  refine wl_nil ?_
  refine wq_then ?_
  refine wc_seq ?_
  refine wc_region ?_
  refine wl_pure (.pointer (some ⟨g1, 1, none⟩)) (want_none rfl) rfl rfl (by kernel_rfl) ?_
  have b24 := (b19.ch k20 (Nat.ne_of_lt (Nat.lt_of_lt_of_le p3 (Nat.le_trans k10.size p14))))
  refine wl_load1 (.int .i64 x_a.Port) (want_none rfl) rfl rfl rfl rfl isAgg_3 b24 rfl ?_
  refine wl_pure (.pointer (some ⟨g13, 1, none⟩)) (want_none rfl) rfl rfl (by kernel_rfl) ?_
  refine wl_store (.int .i64 x_a.Port) [(.int .i64 x_a.Port)] [(.int .i64 x_a.Host), (.int .i64 x_a.Port)] (want_none rfl) rfl rfl rfl rfl rfl (one_cons rfl one_nil) sizeOf_3 b21 rfl rfl ?_
  intro w5 k25 b26 z27
  have m28 := m23.ext k25 (fun k hk => by subst hk; exact Nat.le_trans (Nat.le_trans k4.size k10.size) p14)
  refine wl_nil ?_
  refine wq_then ?_
  refine wc_seq ?_
  refine wc_region ?_
  refine wl_loadN [(.int .i64 x_a.Host), (.int .i64 x_a.Port)] (want_none rfl) rfl rfl rfl rfl isAgg_61 sizeOf_61 b26 rfl ?_
  have b29 := (((b11.kp k16).ch k20 (Nat.ne_of_lt (Nat.lt_of_lt_of_le p9 (Nat.le_trans (Nat.le_refl _) p14)))).ch k25 (Nat.ne_of_lt (Nat.lt_of_lt_of_le p9 (Nat.le_trans (Nat.le_refl _) p14))))
  refine wl_store (.agg #[(.int .i64 x_a.Host), (.int .i64 x_a.Port)]) [(.int .i64 x_a.Host), (.int .i64 x_a.Port)] [(.int .i64 x_a.Host), (.int .i64 x_a.Port)] (want_none rfl) rfl rfl rfl rfl rfl (one_cons rfl (one_cons rfl one_nil)) sizeOf_61 b29 rfl rfl ?_
  intro w6 k30 b31 z32
  have m33 := m28.ext k30 (fun k hk => by subst hk; exact Nat.le_trans k4.size p8)
  refine wl_nil ?_
  refine wq_then ?_
  refine wc_ret ?_
  refine ret_1 (.inl rfl) (.agg #[(.int .i64 x_a.Host), (.int .i64 x_a.Port)]) rfl (rv_c [(.int .i64 x_a.Host), (.int .i64 x_a.Port)] rfl b31 isAgg_61 sizeOf_61) ?_
  refine ⟨m33.keep0, ?_⟩
  have hF34 : F_laws_toAddr x_a = x_a := by rfl
  rw [hF34]
  exact rfl

theorem zero_63 : ∀ w, (zeroValue 63).run Try.prog w = .ok (.agg #[(.int .i64 0), (.int .i64 0), (.int .i64 0), (.slice none 0 0), (.slice none 0 0), (.int .i64 0), (.int .i64 0), (.slice none 0 0), (.slice none 0 0), (.int .i64 0), (.int .i64 0), (.int .i64 0)]) w := fun w => by kernel_rfl
theorem sizeOf_22 : ∀ w, (sizeOf 22).run Try.prog w = .ok 1 w := fun w => by kernel_rfl
theorem isAgg_56 : ∀ w, (isAgg 56).run Try.prog w = .ok true w := fun w => by kernel_rfl
theorem sizeOf_56 : ∀ w, (sizeOf 56).run Try.prog w = .ok 2 w := fun w => by kernel_rfl
theorem isAgg_63 : ∀ w, (isAgg 63).run Try.prog w = .ok true w := fun w => by kernel_rfl
theorem sizeOf_63 : ∀ w, (sizeOf 63).run Try.prog w = .ok 12 w := fun w => by kernel_rfl
def R_58 (w : World) (v : Value) (x : (PNote)) : Prop := ∃ (a1 : Option Addr) (c1 : Nat) (a2 : Option Addr) (c2 : Nat) (a3 : Option Addr) (c3 : Nat) (a4 : Option Addr) (c4 : Nat), v = .agg #[.int .i64 x.Kind, .int .i64 x.Id, .int .i64 x.Role, .slice a1 x.Cn.length c1, .slice a2 x.Sn.length c2, .int .i64 x.Epoch, .int .i64 x.Seq, .slice a3 x.Body.length c3, .slice a4 x.Key.length c4, .int .i64 x.A.Host, .int .i64 x.A.Port, .int .i64 x.Now] ∧ Rd w 1 (.slice a1 x.Cn.length c1) x.Cn.length (x.Cn.map bV) ∧ x.Cn.length ≤ 1073741824 ∧ Rd w 1 (.slice a2 x.Sn.length c2) x.Sn.length (x.Sn.map bV) ∧ x.Sn.length ≤ 1073741824 ∧ Rd w 1 (.slice a3 x.Body.length c3) x.Body.length (x.Body.map bV) ∧ x.Body.length ≤ 1073741824 ∧ Rd w 1 (.slice a4 x.Key.length c4) x.Key.length (x.Key.map bV) ∧ x.Key.length ≤ 1073741824
def O_63 (w : World) (lo : Nat) (v : Value) (x : (PNote)) : Prop := ∃ (a1 : Option Addr) (c1 : Nat) (a2 : Option Addr) (c2 : Nat) (a3 : Option Addr) (c3 : Nat) (a4 : Option Addr) (c4 : Nat), v = .agg #[.int .i64 x.Kind, .int .i64 x.Id, .int .i64 x.Role, .slice a1 x.Cn.length c1, .slice a2 x.Sn.length c2, .int .i64 x.Epoch, .int .i64 x.Seq, .slice a3 x.Body.length c3, .slice a4 x.Key.length c4, .int .i64 x.A.Host, .int .i64 x.A.Port, .int .i64 x.Now] ∧ w.ownsRow lo 5 1 (.slice a1 x.Cn.length c1) x.Cn.length (x.Cn.map bV) ∧ x.Cn.length ≤ 1073741824 ∧ w.ownsRow lo 5 1 (.slice a2 x.Sn.length c2) x.Sn.length (x.Sn.map bV) ∧ x.Sn.length ≤ 1073741824 ∧ w.ownsRow lo 5 1 (.slice a3 x.Body.length c3) x.Body.length (x.Body.map bV) ∧ x.Body.length ≤ 1073741824 ∧ w.ownsRow lo 5 1 (.slice a4 x.Key.length c4) x.Key.length (x.Key.map bV) ∧ x.Key.length ≤ 1073741824 ∧ Aps [(a1, c1), (a2, c2), (a3, c3), (a4, c4)]
def F_laws_toNote (x_a : PNote) : (PNote) := { Kind := x_a.Kind, Id := x_a.Id, Role := x_a.Role, Cn := (cpB x_a.Cn), Sn := (cpB x_a.Sn), Epoch := x_a.Epoch, Seq := x_a.Seq, Body := (cpB x_a.Body), Key := (cpB x_a.Key), A := (F_laws_toAddr x_a.A), Now := x_a.Now : PNote }
theorem C_laws_toNote (w0 : World) (v_x_a : Value) (x_a : PNote) (r_x_a : R_58 w0 v_x_a x_a)  : Fn Try.prog 41 #[v_x_a] w0 (fun v w' => Keep w0 w' ∧ O_63 w' w0.heap.size v (F_laws_toNote x_a)) := by
  obtain ⟨a1, c2, a6, c7, a11, c12, a16, c17, rfl, r3, s4, r8, s9, r13, s14, r18, s19⟩ := r_x_a
  refine fn_of (n := 43) (l := [(.agg #[(.int .i64 x_a.Kind), (.int .i64 x_a.Id), (.int .i64 x_a.Role), (.slice a1 x_a.Cn.length c2), (.slice a6 x_a.Sn.length c7), (.int .i64 x_a.Epoch), (.int .i64 x_a.Seq), (.slice a11 x_a.Body.length c12), (.slice a16 x_a.Key.length c17), (.int .i64 x_a.A.Host), (.int .i64 x_a.A.Port), (.int .i64 x_a.Now)]), undef, undef, undef, undef, undef, undef, undef, undef, undef, undef, undef, undef, undef, undef, undef, undef, undef, undef, undef, undef, undef, undef, undef, undef, undef, undef, undef, undef, undef, undef, undef, undef, undef, undef, undef, undef, undef, undef, undef, undef, undef, undef]) Try.func41 rfl rfl (by kernel_rfl) rfl ?_
  refine wc_seq ?_
  refine wc_region ?_
  refine wl_box (want_none rfl) [(.int .i64 x_a.Kind), (.int .i64 x_a.Id), (.int .i64 x_a.Role), (.slice a1 x_a.Cn.length c2), (.slice a6 x_a.Sn.length c7), (.int .i64 x_a.Epoch), (.int .i64 x_a.Seq), (.slice a11 x_a.Body.length c12), (.slice a16 x_a.Key.length c17), (.int .i64 x_a.A.Host), (.int .i64 x_a.A.Port), (.int .i64 x_a.Now)] rfl rfl rfl rfl ?_
  intro g21 w1 p22 p23 k24 b25
  have m26 := (Ch.base w0).extk k24
  refine wl_alloc (want_none rfl) (.agg #[(.int .i64 0), (.int .i64 0), (.int .i64 0), (.slice none 0 0), (.slice none 0 0), (.int .i64 0), (.int .i64 0), (.slice none 0 0), (.slice none 0 0), (.int .i64 0), (.int .i64 0), (.int .i64 0)]) [(.int .i64 0), (.int .i64 0), (.int .i64 0), (.slice none 0 0), (.slice none 0 0), (.int .i64 0), (.int .i64 0), (.slice none 0 0), (.slice none 0 0), (.int .i64 0), (.int .i64 0), (.int .i64 0)] zero_63 rfl rfl rfl rfl ?_
  intro g27 w2 p28 p29 k30 b31
  have m32 := m26.extk k30
  refine wl_nil ?_
  refine wq_then ?_
  refine wc_seq ?_
  refine wc_region ?_
  refine wl_alloc (want_none rfl) (.agg #[(.int .i64 0), (.int .i64 0), (.int .i64 0), (.slice none 0 0), (.slice none 0 0), (.int .i64 0), (.int .i64 0), (.slice none 0 0), (.slice none 0 0), (.int .i64 0), (.int .i64 0), (.int .i64 0)]) [(.int .i64 0), (.int .i64 0), (.int .i64 0), (.slice none 0 0), (.slice none 0 0), (.int .i64 0), (.int .i64 0), (.slice none 0 0), (.slice none 0 0), (.int .i64 0), (.int .i64 0), (.int .i64 0)] zero_63 rfl rfl rfl rfl ?_
  intro g33 w3 p34 p35 k36 b37
  have m38 := m32.extk k36
  refine wl_nil ?_
  refine wq_then ?_
  refine wc_seq ?_
  refine wc_region ?_
  refine wl_pure (.pointer (some ⟨g21, 0, none⟩)) (want_none rfl) rfl rfl (by kernel_rfl) ?_
  have b39 := ((b25.kp k30).kp k36)
  refine wl_load1 (.int .i64 x_a.Kind) (want_none rfl) rfl rfl rfl rfl isAgg_3 b39 rfl ?_
  refine wl_pure (.pointer (some ⟨g33, 0, none⟩)) (want_none rfl) rfl rfl (by kernel_rfl) ?_
  refine wl_store (.int .i64 x_a.Kind) [(.int .i64 x_a.Kind)] [(.int .i64 x_a.Kind), (.int .i64 0), (.int .i64 0), (.slice none 0 0), (.slice none 0 0), (.int .i64 0), (.int .i64 0), (.slice none 0 0), (.slice none 0 0), (.int .i64 0), (.int .i64 0), (.int .i64 0)] (want_none rfl) rfl rfl rfl rfl rfl (one_cons rfl one_nil) sizeOf_3 b37 rfl rfl ?_
  intro w4 k40 b41 z42
  have m43 := m38.ext k40 (fun k hk => by subst hk; exact Nat.le_trans (Nat.le_trans k24.size k30.size) p34)
  refine wl_nil ?_
  refine wq_then ?_
  refine wc_seq ?_
  refine wc_region ?_
  refine wl_pure (.pointer (some ⟨g21, 1, none⟩)) (want_none rfl) rfl rfl (by kernel_rfl) ?_
  have b44 := (b39.ch k40 (Nat.ne_of_lt (Nat.lt_of_lt_of_le p23 (Nat.le_trans k30.size p34))))
  refine wl_load1 (.int .i64 x_a.Id) (want_none rfl) rfl rfl rfl rfl isAgg_3 b44 rfl ?_
  refine wl_pure (.pointer (some ⟨g33, 1, none⟩)) (want_none rfl) rfl rfl (by kernel_rfl) ?_
  refine wl_store (.int .i64 x_a.Id) [(.int .i64 x_a.Id)] [(.int .i64 x_a.Kind), (.int .i64 x_a.Id), (.int .i64 0), (.slice none 0 0), (.slice none 0 0), (.int .i64 0), (.int .i64 0), (.slice none 0 0), (.slice none 0 0), (.int .i64 0), (.int .i64 0), (.int .i64 0)] (want_none rfl) rfl rfl rfl rfl rfl (one_cons rfl one_nil) sizeOf_3 b41 rfl rfl ?_
  intro w5 k45 b46 z47
  have m48 := m43.ext k45 (fun k hk => by subst hk; exact Nat.le_trans (Nat.le_trans k24.size k30.size) p34)
  refine wl_nil ?_
  refine wq_then ?_
  refine wc_seq ?_
  refine wc_region ?_
  refine wl_pure (.pointer (some ⟨g21, 2, none⟩)) (want_none rfl) rfl rfl (by kernel_rfl) ?_
  have b49 := (b44.ch k45 (Nat.ne_of_lt (Nat.lt_of_lt_of_le p23 (Nat.le_trans k30.size p34))))
  refine wl_load1 (.int .i64 x_a.Role) (want_none rfl) rfl rfl rfl rfl isAgg_3 b49 rfl ?_
  refine wl_pure (.pointer (some ⟨g33, 2, none⟩)) (want_none rfl) rfl rfl (by kernel_rfl) ?_
  refine wl_store (.int .i64 x_a.Role) [(.int .i64 x_a.Role)] [(.int .i64 x_a.Kind), (.int .i64 x_a.Id), (.int .i64 x_a.Role), (.slice none 0 0), (.slice none 0 0), (.int .i64 0), (.int .i64 0), (.slice none 0 0), (.slice none 0 0), (.int .i64 0), (.int .i64 0), (.int .i64 0)] (want_none rfl) rfl rfl rfl rfl rfl (one_cons rfl one_nil) sizeOf_3 b46 rfl rfl ?_
  intro w6 k50 b51 z52
  have m53 := m48.ext k50 (fun k hk => by subst hk; exact Nat.le_trans (Nat.le_trans k24.size k30.size) p34)
  refine wl_nil ?_
  refine wq_then ?_
  refine wc_seq ?_
  refine wc_region ?_
  refine wl_pure (.pointer (some ⟨g21, 3, none⟩)) (want_none rfl) rfl rfl (by kernel_rfl) ?_
  have b54 := (b49.ch k50 (Nat.ne_of_lt (Nat.lt_of_lt_of_le p23 (Nat.le_trans k30.size p34))))
  refine wl_load1 (.slice a1 x_a.Cn.length c2) (want_none rfl) rfl rfl rfl rfl isAgg_22 b54 rfl ?_
  refine wl_call (want_none rfl) (args := #[(.slice a1 x_a.Cn.length c2)]) rfl rfl (by kernel_rfl) (C_laws_toByteS w6 (.slice a1 x_a.Cn.length c2) x_a.Cn (show R_22 w6 (.slice a1 x_a.Cn.length c2) x_a.Cn from ⟨_, _, rfl, (r3.from0 m53), s4⟩)) ?_
  rintro _ w7 ⟨k55, ⟨a56, c57, rfl, o58, s59, ap61⟩⟩
  have m62 := m53.extk k55
  refine wl_pure (.pointer (some ⟨g33, 3, none⟩)) (want_none rfl) rfl rfl (by kernel_rfl) ?_
  have b63 := (b51.kp k55)
  refine wl_store (.slice a56 (cpB x_a.Cn).length c57) [(.slice a56 (cpB x_a.Cn).length c57)] [(.int .i64 x_a.Kind), (.int .i64 x_a.Id), (.int .i64 x_a.Role), (.slice a56 (cpB x_a.Cn).length c57), (.slice none 0 0), (.int .i64 0), (.int .i64 0), (.slice none 0 0), (.slice none 0 0), (.int .i64 0), (.int .i64 0), (.int .i64 0)] (want_none rfl) rfl rfl rfl rfl rfl (one_cons rfl one_nil) sizeOf_22 b63 rfl rfl ?_
  intro w8 k64 b65 z66
  have m67 := m62.ext k64 (fun k hk => by subst hk; exact Nat.le_trans (Nat.le_trans k24.size k30.size) p34)
  refine wl_nil ?_
  refine wq_then ?_
  refine wc_seq ?_
  refine wc_region ?_
  refine wl_pure (.pointer (some ⟨g21, 4, none⟩)) (want_none rfl) rfl rfl (by kernel_rfl) ?_
  have b68 := ((b54.kp k55).ch k64 (Nat.ne_of_lt (Nat.lt_of_lt_of_le p23 (Nat.le_trans k30.size p34))))
  refine wl_load1 (.slice a6 x_a.Sn.length c7) (want_none rfl) rfl rfl rfl rfl isAgg_22 b68 rfl ?_
  refine wl_call (want_none rfl) (args := #[(.slice a6 x_a.Sn.length c7)]) rfl rfl (by kernel_rfl) (C_laws_toByteS w8 (.slice a6 x_a.Sn.length c7) x_a.Sn (show R_22 w8 (.slice a6 x_a.Sn.length c7) x_a.Sn from ⟨_, _, rfl, (r8.from0 m67), s9⟩)) ?_
  rintro _ w9 ⟨k69, ⟨a70, c71, rfl, o72, s73, ap75⟩⟩
  have m76 := m67.extk k69
  refine wl_pure (.pointer (some ⟨g33, 4, none⟩)) (want_none rfl) rfl rfl (by kernel_rfl) ?_
  have b77 := (b65.kp k69)
  refine wl_store (.slice a70 (cpB x_a.Sn).length c71) [(.slice a70 (cpB x_a.Sn).length c71)] [(.int .i64 x_a.Kind), (.int .i64 x_a.Id), (.int .i64 x_a.Role), (.slice a56 (cpB x_a.Cn).length c57), (.slice a70 (cpB x_a.Sn).length c71), (.int .i64 0), (.int .i64 0), (.slice none 0 0), (.slice none 0 0), (.int .i64 0), (.int .i64 0), (.int .i64 0)] (want_none rfl) rfl rfl rfl rfl rfl (one_cons rfl one_nil) sizeOf_22 b77 rfl rfl ?_
  intro w10 k78 b79 z80
  have m81 := m76.ext k78 (fun k hk => by subst hk; exact Nat.le_trans (Nat.le_trans k24.size k30.size) p34)
  refine wl_nil ?_
  refine wq_then ?_
  refine wc_seq ?_
  refine wc_region ?_
  refine wl_pure (.pointer (some ⟨g21, 5, none⟩)) (want_none rfl) rfl rfl (by kernel_rfl) ?_
  have b82 := ((b68.kp k69).ch k78 (Nat.ne_of_lt (Nat.lt_of_lt_of_le p23 (Nat.le_trans k30.size p34))))
  refine wl_load1 (.int .i64 x_a.Epoch) (want_none rfl) rfl rfl rfl rfl isAgg_3 b82 rfl ?_
  refine wl_pure (.pointer (some ⟨g33, 5, none⟩)) (want_none rfl) rfl rfl (by kernel_rfl) ?_
  refine wl_store (.int .i64 x_a.Epoch) [(.int .i64 x_a.Epoch)] [(.int .i64 x_a.Kind), (.int .i64 x_a.Id), (.int .i64 x_a.Role), (.slice a56 (cpB x_a.Cn).length c57), (.slice a70 (cpB x_a.Sn).length c71), (.int .i64 x_a.Epoch), (.int .i64 0), (.slice none 0 0), (.slice none 0 0), (.int .i64 0), (.int .i64 0), (.int .i64 0)] (want_none rfl) rfl rfl rfl rfl rfl (one_cons rfl one_nil) sizeOf_3 b79 rfl rfl ?_
  intro w11 k83 b84 z85
  have m86 := m81.ext k83 (fun k hk => by subst hk; exact Nat.le_trans (Nat.le_trans k24.size k30.size) p34)
  refine wl_nil ?_
  refine wq_then ?_
  refine wc_seq ?_
  refine wc_region ?_
  refine wl_pure (.pointer (some ⟨g21, 6, none⟩)) (want_none rfl) rfl rfl (by kernel_rfl) ?_
  have b87 := (b82.ch k83 (Nat.ne_of_lt (Nat.lt_of_lt_of_le p23 (Nat.le_trans k30.size p34))))
  refine wl_load1 (.int .i64 x_a.Seq) (want_none rfl) rfl rfl rfl rfl isAgg_3 b87 rfl ?_
  refine wl_pure (.pointer (some ⟨g33, 6, none⟩)) (want_none rfl) rfl rfl (by kernel_rfl) ?_
  refine wl_store (.int .i64 x_a.Seq) [(.int .i64 x_a.Seq)] [(.int .i64 x_a.Kind), (.int .i64 x_a.Id), (.int .i64 x_a.Role), (.slice a56 (cpB x_a.Cn).length c57), (.slice a70 (cpB x_a.Sn).length c71), (.int .i64 x_a.Epoch), (.int .i64 x_a.Seq), (.slice none 0 0), (.slice none 0 0), (.int .i64 0), (.int .i64 0), (.int .i64 0)] (want_none rfl) rfl rfl rfl rfl rfl (one_cons rfl one_nil) sizeOf_3 b84 rfl rfl ?_
  intro w12 k88 b89 z90
  have m91 := m86.ext k88 (fun k hk => by subst hk; exact Nat.le_trans (Nat.le_trans k24.size k30.size) p34)
  refine wl_nil ?_
  refine wq_then ?_
  refine wc_seq ?_
  refine wc_region ?_
  refine wl_pure (.pointer (some ⟨g21, 7, none⟩)) (want_none rfl) rfl rfl (by kernel_rfl) ?_
  have b92 := (b87.ch k88 (Nat.ne_of_lt (Nat.lt_of_lt_of_le p23 (Nat.le_trans k30.size p34))))
  refine wl_load1 (.slice a11 x_a.Body.length c12) (want_none rfl) rfl rfl rfl rfl isAgg_22 b92 rfl ?_
  refine wl_call (want_none rfl) (args := #[(.slice a11 x_a.Body.length c12)]) rfl rfl (by kernel_rfl) (C_laws_toByteS w12 (.slice a11 x_a.Body.length c12) x_a.Body (show R_22 w12 (.slice a11 x_a.Body.length c12) x_a.Body from ⟨_, _, rfl, (r13.from0 m91), s14⟩)) ?_
  rintro _ w13 ⟨k93, ⟨a94, c95, rfl, o96, s97, ap99⟩⟩
  have m100 := m91.extk k93
  refine wl_pure (.pointer (some ⟨g33, 7, none⟩)) (want_none rfl) rfl rfl (by kernel_rfl) ?_
  have b101 := (b89.kp k93)
  refine wl_store (.slice a94 (cpB x_a.Body).length c95) [(.slice a94 (cpB x_a.Body).length c95)] [(.int .i64 x_a.Kind), (.int .i64 x_a.Id), (.int .i64 x_a.Role), (.slice a56 (cpB x_a.Cn).length c57), (.slice a70 (cpB x_a.Sn).length c71), (.int .i64 x_a.Epoch), (.int .i64 x_a.Seq), (.slice a94 (cpB x_a.Body).length c95), (.slice none 0 0), (.int .i64 0), (.int .i64 0), (.int .i64 0)] (want_none rfl) rfl rfl rfl rfl rfl (one_cons rfl one_nil) sizeOf_22 b101 rfl rfl ?_
  intro w14 k102 b103 z104
  have m105 := m100.ext k102 (fun k hk => by subst hk; exact Nat.le_trans (Nat.le_trans k24.size k30.size) p34)
  refine wl_nil ?_
  refine wq_then ?_
  refine wc_seq ?_
  refine wc_region ?_
  refine wl_pure (.pointer (some ⟨g21, 8, none⟩)) (want_none rfl) rfl rfl (by kernel_rfl) ?_
  have b106 := ((b92.kp k93).ch k102 (Nat.ne_of_lt (Nat.lt_of_lt_of_le p23 (Nat.le_trans k30.size p34))))
  refine wl_load1 (.slice a16 x_a.Key.length c17) (want_none rfl) rfl rfl rfl rfl isAgg_22 b106 rfl ?_
  refine wl_call (want_none rfl) (args := #[(.slice a16 x_a.Key.length c17)]) rfl rfl (by kernel_rfl) (C_laws_toByteS w14 (.slice a16 x_a.Key.length c17) x_a.Key (show R_22 w14 (.slice a16 x_a.Key.length c17) x_a.Key from ⟨_, _, rfl, (r18.from0 m105), s19⟩)) ?_
  rintro _ w15 ⟨k107, ⟨a108, c109, rfl, o110, s111, ap113⟩⟩
  have m114 := m105.extk k107
  refine wl_pure (.pointer (some ⟨g33, 8, none⟩)) (want_none rfl) rfl rfl (by kernel_rfl) ?_
  have b115 := (b103.kp k107)
  refine wl_store (.slice a108 (cpB x_a.Key).length c109) [(.slice a108 (cpB x_a.Key).length c109)] [(.int .i64 x_a.Kind), (.int .i64 x_a.Id), (.int .i64 x_a.Role), (.slice a56 (cpB x_a.Cn).length c57), (.slice a70 (cpB x_a.Sn).length c71), (.int .i64 x_a.Epoch), (.int .i64 x_a.Seq), (.slice a94 (cpB x_a.Body).length c95), (.slice a108 (cpB x_a.Key).length c109), (.int .i64 0), (.int .i64 0), (.int .i64 0)] (want_none rfl) rfl rfl rfl rfl rfl (one_cons rfl one_nil) sizeOf_22 b115 rfl rfl ?_
  intro w16 k116 b117 z118
  have m119 := m114.ext k116 (fun k hk => by subst hk; exact Nat.le_trans (Nat.le_trans k24.size k30.size) p34)
  refine wl_nil ?_
  refine wq_then ?_
  refine wc_seq ?_
  refine wc_region ?_
  refine wl_pure (.pointer (some ⟨g21, 9, none⟩)) (want_none rfl) rfl rfl (by kernel_rfl) ?_
  have b120 := ((b106.kp k107).ch k116 (Nat.ne_of_lt (Nat.lt_of_lt_of_le p23 (Nat.le_trans k30.size p34))))
  refine wl_loadN [(.int .i64 x_a.A.Host), (.int .i64 x_a.A.Port)] (want_none rfl) rfl rfl rfl rfl isAgg_56 sizeOf_56 b120 rfl ?_
  refine wl_call (want_none rfl) (args := #[(.agg #[(.int .i64 x_a.A.Host), (.int .i64 x_a.A.Port)])]) rfl rfl (by kernel_rfl) (C_laws_toAddr w16 (.agg #[(.int .i64 x_a.A.Host), (.int .i64 x_a.A.Port)]) x_a.A (show R_56 w16 (.agg #[(.int .i64 x_a.A.Host), (.int .i64 x_a.A.Port)]) x_a.A from rfl)) ?_
  rintro _ w17 ⟨k121, rfl⟩
  have m122 := m119.extk k121
  refine wl_pure (.pointer (some ⟨g33, 9, none⟩)) (want_none rfl) rfl rfl (by kernel_rfl) ?_
  have b123 := (b117.kp k121)
  refine wl_store (.agg #[(.int .i64 ((F_laws_toAddr x_a.A).Host)), (.int .i64 ((F_laws_toAddr x_a.A).Port))]) [(.int .i64 ((F_laws_toAddr x_a.A).Host)), (.int .i64 ((F_laws_toAddr x_a.A).Port))] [(.int .i64 x_a.Kind), (.int .i64 x_a.Id), (.int .i64 x_a.Role), (.slice a56 (cpB x_a.Cn).length c57), (.slice a70 (cpB x_a.Sn).length c71), (.int .i64 x_a.Epoch), (.int .i64 x_a.Seq), (.slice a94 (cpB x_a.Body).length c95), (.slice a108 (cpB x_a.Key).length c109), (.int .i64 ((F_laws_toAddr x_a.A).Host)), (.int .i64 ((F_laws_toAddr x_a.A).Port)), (.int .i64 0)] (want_none rfl) rfl rfl rfl rfl rfl (one_cons rfl (one_cons rfl one_nil)) sizeOf_61 b123 rfl rfl ?_
  intro w18 k124 b125 z126
  have m127 := m122.ext k124 (fun k hk => by subst hk; exact Nat.le_trans (Nat.le_trans k24.size k30.size) p34)
  refine wl_nil ?_
  refine wq_then ?_
  refine wc_seq ?_
  refine wc_region ?_
  refine wl_pure (.pointer (some ⟨g21, 11, none⟩)) (want_none rfl) rfl rfl (by kernel_rfl) ?_
  have b128 := ((b120.kp k121).ch k124 (Nat.ne_of_lt (Nat.lt_of_lt_of_le p23 (Nat.le_trans k30.size p34))))
  refine wl_load1 (.int .i64 x_a.Now) (want_none rfl) rfl rfl rfl rfl isAgg_3 b128 rfl ?_
  refine wl_pure (.pointer (some ⟨g33, 11, none⟩)) (want_none rfl) rfl rfl (by kernel_rfl) ?_
  refine wl_store (.int .i64 x_a.Now) [(.int .i64 x_a.Now)] [(.int .i64 x_a.Kind), (.int .i64 x_a.Id), (.int .i64 x_a.Role), (.slice a56 (cpB x_a.Cn).length c57), (.slice a70 (cpB x_a.Sn).length c71), (.int .i64 x_a.Epoch), (.int .i64 x_a.Seq), (.slice a94 (cpB x_a.Body).length c95), (.slice a108 (cpB x_a.Key).length c109), (.int .i64 ((F_laws_toAddr x_a.A).Host)), (.int .i64 ((F_laws_toAddr x_a.A).Port)), (.int .i64 x_a.Now)] (want_none rfl) rfl rfl rfl rfl rfl (one_cons rfl one_nil) sizeOf_3 b125 rfl rfl ?_
  intro w19 k129 b130 z131
  have m132 := m127.ext k129 (fun k hk => by subst hk; exact Nat.le_trans (Nat.le_trans k24.size k30.size) p34)
  refine wl_nil ?_
  refine wq_then ?_
  refine wc_seq ?_
  refine wc_region ?_
  refine wl_loadN [(.int .i64 x_a.Kind), (.int .i64 x_a.Id), (.int .i64 x_a.Role), (.slice a56 (cpB x_a.Cn).length c57), (.slice a70 (cpB x_a.Sn).length c71), (.int .i64 x_a.Epoch), (.int .i64 x_a.Seq), (.slice a94 (cpB x_a.Body).length c95), (.slice a108 (cpB x_a.Key).length c109), (.int .i64 ((F_laws_toAddr x_a.A).Host)), (.int .i64 ((F_laws_toAddr x_a.A).Port)), (.int .i64 x_a.Now)] (want_none rfl) rfl rfl rfl rfl isAgg_63 sizeOf_63 b130 rfl ?_
  have b133 := (((((((((((((((((b31.kp k36).ch k40 (Nat.ne_of_lt (Nat.lt_of_lt_of_le p29 (Nat.le_trans (Nat.le_refl _) p34)))).ch k45 (Nat.ne_of_lt (Nat.lt_of_lt_of_le p29 (Nat.le_trans (Nat.le_refl _) p34)))).ch k50 (Nat.ne_of_lt (Nat.lt_of_lt_of_le p29 (Nat.le_trans (Nat.le_refl _) p34)))).kp k55).ch k64 (Nat.ne_of_lt (Nat.lt_of_lt_of_le p29 (Nat.le_trans (Nat.le_refl _) p34)))).kp k69).ch k78 (Nat.ne_of_lt (Nat.lt_of_lt_of_le p29 (Nat.le_trans (Nat.le_refl _) p34)))).ch k83 (Nat.ne_of_lt (Nat.lt_of_lt_of_le p29 (Nat.le_trans (Nat.le_refl _) p34)))).ch k88 (Nat.ne_of_lt (Nat.lt_of_lt_of_le p29 (Nat.le_trans (Nat.le_refl _) p34)))).kp k93).ch k102 (Nat.ne_of_lt (Nat.lt_of_lt_of_le p29 (Nat.le_trans (Nat.le_refl _) p34)))).kp k107).ch k116 (Nat.ne_of_lt (Nat.lt_of_lt_of_le p29 (Nat.le_trans (Nat.le_refl _) p34)))).kp k121).ch k124 (Nat.ne_of_lt (Nat.lt_of_lt_of_le p29 (Nat.le_trans (Nat.le_refl _) p34)))).ch k129 (Nat.ne_of_lt (Nat.lt_of_lt_of_le p29 (Nat.le_trans (Nat.le_refl _) p34))))
  refine wl_store (.agg #[(.int .i64 x_a.Kind), (.int .i64 x_a.Id), (.int .i64 x_a.Role), (.slice a56 (cpB x_a.Cn).length c57), (.slice a70 (cpB x_a.Sn).length c71), (.int .i64 x_a.Epoch), (.int .i64 x_a.Seq), (.slice a94 (cpB x_a.Body).length c95), (.slice a108 (cpB x_a.Key).length c109), (.int .i64 ((F_laws_toAddr x_a.A).Host)), (.int .i64 ((F_laws_toAddr x_a.A).Port)), (.int .i64 x_a.Now)]) [(.int .i64 x_a.Kind), (.int .i64 x_a.Id), (.int .i64 x_a.Role), (.slice a56 (cpB x_a.Cn).length c57), (.slice a70 (cpB x_a.Sn).length c71), (.int .i64 x_a.Epoch), (.int .i64 x_a.Seq), (.slice a94 (cpB x_a.Body).length c95), (.slice a108 (cpB x_a.Key).length c109), (.int .i64 ((F_laws_toAddr x_a.A).Host)), (.int .i64 ((F_laws_toAddr x_a.A).Port)), (.int .i64 x_a.Now)] [(.int .i64 x_a.Kind), (.int .i64 x_a.Id), (.int .i64 x_a.Role), (.slice a56 (cpB x_a.Cn).length c57), (.slice a70 (cpB x_a.Sn).length c71), (.int .i64 x_a.Epoch), (.int .i64 x_a.Seq), (.slice a94 (cpB x_a.Body).length c95), (.slice a108 (cpB x_a.Key).length c109), (.int .i64 ((F_laws_toAddr x_a.A).Host)), (.int .i64 ((F_laws_toAddr x_a.A).Port)), (.int .i64 x_a.Now)] (want_none rfl) rfl rfl rfl rfl rfl (one_cons rfl (one_cons rfl (one_cons rfl (one_cons rfl (one_cons rfl (one_cons rfl (one_cons rfl (one_cons rfl (one_cons rfl (one_cons rfl (one_cons rfl (one_cons rfl one_nil)))))))))))) sizeOf_63 b133 rfl rfl ?_
  intro w20 k134 b135 z136
  have m137 := m132.ext k134 (fun k hk => by subst hk; exact Nat.le_trans k24.size p28)
  refine wl_nil ?_
  refine wq_then ?_
  refine wc_ret ?_
  have o138 := (own_ch (own_ch (own_ch (own_kp (own_ch (own_kp (own_ch (own_kp (own_ch (own_ch (own_ch (own_kp (own_ch o58 k64 (fun g hg hlt hk => by have h1 := (own_lt o58 g hg).1; have h2 := Nat.lt_of_lt_of_le p35 (Nat.le_trans (Nat.le_trans k40.size k45.size) k50.size); omega)) k69) k78 (fun g hg hlt hk => by have h1 := (own_lt o58 g hg).1; have h2 := Nat.lt_of_lt_of_le p35 (Nat.le_trans (Nat.le_trans k40.size k45.size) k50.size); omega)) k83 (fun g hg hlt hk => by have h1 := (own_lt o58 g hg).1; have h2 := Nat.lt_of_lt_of_le p35 (Nat.le_trans (Nat.le_trans k40.size k45.size) k50.size); omega)) k88 (fun g hg hlt hk => by have h1 := (own_lt o58 g hg).1; have h2 := Nat.lt_of_lt_of_le p35 (Nat.le_trans (Nat.le_trans k40.size k45.size) k50.size); omega)) k93) k102 (fun g hg hlt hk => by have h1 := (own_lt o58 g hg).1; have h2 := Nat.lt_of_lt_of_le p35 (Nat.le_trans (Nat.le_trans k40.size k45.size) k50.size); omega)) k107) k116 (fun g hg hlt hk => by have h1 := (own_lt o58 g hg).1; have h2 := Nat.lt_of_lt_of_le p35 (Nat.le_trans (Nat.le_trans k40.size k45.size) k50.size); omega)) k121) k124 (fun g hg hlt hk => by have h1 := (own_lt o58 g hg).1; have h2 := Nat.lt_of_lt_of_le p35 (Nat.le_trans (Nat.le_trans k40.size k45.size) k50.size); omega)) k129 (fun g hg hlt hk => by have h1 := (own_lt o58 g hg).1; have h2 := Nat.lt_of_lt_of_le p35 (Nat.le_trans (Nat.le_trans k40.size k45.size) k50.size); omega)) k134 (fun g hg hlt hk => by have h1 := (own_lt o58 g hg).1; have h2 := Nat.lt_of_lt_of_le p29 (Nat.le_trans (Nat.le_trans (Nat.le_trans k36.size k40.size) k45.size) k50.size); omega))
  have o139 := (own_ch (own_ch (own_ch (own_kp (own_ch (own_kp (own_ch (own_kp (own_ch (own_ch (own_ch o72 k78 (fun g hg hlt hk => by have h1 := (own_lt o72 g hg).1; have h2 := Nat.lt_of_lt_of_le p35 (Nat.le_trans (Nat.le_trans (Nat.le_trans (Nat.le_trans k40.size k45.size) k50.size) k55.size) k64.size); omega)) k83 (fun g hg hlt hk => by have h1 := (own_lt o72 g hg).1; have h2 := Nat.lt_of_lt_of_le p35 (Nat.le_trans (Nat.le_trans (Nat.le_trans (Nat.le_trans k40.size k45.size) k50.size) k55.size) k64.size); omega)) k88 (fun g hg hlt hk => by have h1 := (own_lt o72 g hg).1; have h2 := Nat.lt_of_lt_of_le p35 (Nat.le_trans (Nat.le_trans (Nat.le_trans (Nat.le_trans k40.size k45.size) k50.size) k55.size) k64.size); omega)) k93) k102 (fun g hg hlt hk => by have h1 := (own_lt o72 g hg).1; have h2 := Nat.lt_of_lt_of_le p35 (Nat.le_trans (Nat.le_trans (Nat.le_trans (Nat.le_trans k40.size k45.size) k50.size) k55.size) k64.size); omega)) k107) k116 (fun g hg hlt hk => by have h1 := (own_lt o72 g hg).1; have h2 := Nat.lt_of_lt_of_le p35 (Nat.le_trans (Nat.le_trans (Nat.le_trans (Nat.le_trans k40.size k45.size) k50.size) k55.size) k64.size); omega)) k121) k124 (fun g hg hlt hk => by have h1 := (own_lt o72 g hg).1; have h2 := Nat.lt_of_lt_of_le p35 (Nat.le_trans (Nat.le_trans (Nat.le_trans (Nat.le_trans k40.size k45.size) k50.size) k55.size) k64.size); omega)) k129 (fun g hg hlt hk => by have h1 := (own_lt o72 g hg).1; have h2 := Nat.lt_of_lt_of_le p35 (Nat.le_trans (Nat.le_trans (Nat.le_trans (Nat.le_trans k40.size k45.size) k50.size) k55.size) k64.size); omega)) k134 (fun g hg hlt hk => by have h1 := (own_lt o72 g hg).1; have h2 := Nat.lt_of_lt_of_le p29 (Nat.le_trans (Nat.le_trans (Nat.le_trans (Nat.le_trans (Nat.le_trans k36.size k40.size) k45.size) k50.size) k55.size) k64.size); omega))
  have o140 := (own_ch (own_ch (own_ch (own_kp (own_ch (own_kp (own_ch o96 k102 (fun g hg hlt hk => by have h1 := (own_lt o96 g hg).1; have h2 := Nat.lt_of_lt_of_le p35 (Nat.le_trans (Nat.le_trans (Nat.le_trans (Nat.le_trans (Nat.le_trans (Nat.le_trans (Nat.le_trans (Nat.le_trans k40.size k45.size) k50.size) k55.size) k64.size) k69.size) k78.size) k83.size) k88.size); omega)) k107) k116 (fun g hg hlt hk => by have h1 := (own_lt o96 g hg).1; have h2 := Nat.lt_of_lt_of_le p35 (Nat.le_trans (Nat.le_trans (Nat.le_trans (Nat.le_trans (Nat.le_trans (Nat.le_trans (Nat.le_trans (Nat.le_trans k40.size k45.size) k50.size) k55.size) k64.size) k69.size) k78.size) k83.size) k88.size); omega)) k121) k124 (fun g hg hlt hk => by have h1 := (own_lt o96 g hg).1; have h2 := Nat.lt_of_lt_of_le p35 (Nat.le_trans (Nat.le_trans (Nat.le_trans (Nat.le_trans (Nat.le_trans (Nat.le_trans (Nat.le_trans (Nat.le_trans k40.size k45.size) k50.size) k55.size) k64.size) k69.size) k78.size) k83.size) k88.size); omega)) k129 (fun g hg hlt hk => by have h1 := (own_lt o96 g hg).1; have h2 := Nat.lt_of_lt_of_le p35 (Nat.le_trans (Nat.le_trans (Nat.le_trans (Nat.le_trans (Nat.le_trans (Nat.le_trans (Nat.le_trans (Nat.le_trans k40.size k45.size) k50.size) k55.size) k64.size) k69.size) k78.size) k83.size) k88.size); omega)) k134 (fun g hg hlt hk => by have h1 := (own_lt o96 g hg).1; have h2 := Nat.lt_of_lt_of_le p29 (Nat.le_trans (Nat.le_trans (Nat.le_trans (Nat.le_trans (Nat.le_trans (Nat.le_trans (Nat.le_trans (Nat.le_trans (Nat.le_trans k36.size k40.size) k45.size) k50.size) k55.size) k64.size) k69.size) k78.size) k83.size) k88.size); omega))
  have o141 := (own_ch (own_ch (own_ch (own_kp (own_ch o110 k116 (fun g hg hlt hk => by have h1 := (own_lt o110 g hg).1; have h2 := Nat.lt_of_lt_of_le p35 (Nat.le_trans (Nat.le_trans (Nat.le_trans (Nat.le_trans (Nat.le_trans (Nat.le_trans (Nat.le_trans (Nat.le_trans (Nat.le_trans (Nat.le_trans k40.size k45.size) k50.size) k55.size) k64.size) k69.size) k78.size) k83.size) k88.size) k93.size) k102.size); omega)) k121) k124 (fun g hg hlt hk => by have h1 := (own_lt o110 g hg).1; have h2 := Nat.lt_of_lt_of_le p35 (Nat.le_trans (Nat.le_trans (Nat.le_trans (Nat.le_trans (Nat.le_trans (Nat.le_trans (Nat.le_trans (Nat.le_trans (Nat.le_trans (Nat.le_trans k40.size k45.size) k50.size) k55.size) k64.size) k69.size) k78.size) k83.size) k88.size) k93.size) k102.size); omega)) k129 (fun g hg hlt hk => by have h1 := (own_lt o110 g hg).1; have h2 := Nat.lt_of_lt_of_le p35 (Nat.le_trans (Nat.le_trans (Nat.le_trans (Nat.le_trans (Nat.le_trans (Nat.le_trans (Nat.le_trans (Nat.le_trans (Nat.le_trans (Nat.le_trans k40.size k45.size) k50.size) k55.size) k64.size) k69.size) k78.size) k83.size) k88.size) k93.size) k102.size); omega)) k134 (fun g hg hlt hk => by have h1 := (own_lt o110 g hg).1; have h2 := Nat.lt_of_lt_of_le p29 (Nat.le_trans (Nat.le_trans (Nat.le_trans (Nat.le_trans (Nat.le_trans (Nat.le_trans (Nat.le_trans (Nat.le_trans (Nat.le_trans (Nat.le_trans (Nat.le_trans k36.size k40.size) k45.size) k50.size) k55.size) k64.size) k69.size) k78.size) k83.size) k88.size) k93.size) k102.size); omega))
  refine ret_1 (.inl rfl) (.agg #[(.int .i64 x_a.Kind), (.int .i64 x_a.Id), (.int .i64 x_a.Role), (.slice a56 (cpB x_a.Cn).length c57), (.slice a70 (cpB x_a.Sn).length c71), (.int .i64 x_a.Epoch), (.int .i64 x_a.Seq), (.slice a94 (cpB x_a.Body).length c95), (.slice a108 (cpB x_a.Key).length c109), (.int .i64 ((F_laws_toAddr x_a.A).Host)), (.int .i64 ((F_laws_toAddr x_a.A).Port)), (.int .i64 x_a.Now)]) rfl (rv_c [(.int .i64 x_a.Kind), (.int .i64 x_a.Id), (.int .i64 x_a.Role), (.slice a56 (cpB x_a.Cn).length c57), (.slice a70 (cpB x_a.Sn).length c71), (.int .i64 x_a.Epoch), (.int .i64 x_a.Seq), (.slice a94 (cpB x_a.Body).length c95), (.slice a108 (cpB x_a.Key).length c109), (.int .i64 ((F_laws_toAddr x_a.A).Host)), (.int .i64 ((F_laws_toAddr x_a.A).Port)), (.int .i64 x_a.Now)] rfl b135 isAgg_63 sizeOf_63) ?_
  refine ⟨m137.keep0, ?_⟩
  have hF142 : F_laws_toNote x_a = { Kind := x_a.Kind, Id := x_a.Id, Role := x_a.Role, Cn := (cpB x_a.Cn), Sn := (cpB x_a.Sn), Epoch := x_a.Epoch, Seq := x_a.Seq, Body := (cpB x_a.Body), Key := (cpB x_a.Key), A := (F_laws_toAddr x_a.A), Now := x_a.Now : PNote } := by rfl
  rw [hF142]
  exact ⟨_, _, _, _, _, _, _, _, rfl, (own_lo o138 (Nat.le_trans (Nat.le_trans (Nat.le_trans (Nat.le_trans (Nat.le_trans k24.size k30.size) k36.size) k40.size) k45.size) k50.size)), s59, (own_lo o139 (Nat.le_trans (Nat.le_trans (Nat.le_trans (Nat.le_trans (Nat.le_trans (Nat.le_trans (Nat.le_trans k24.size k30.size) k36.size) k40.size) k45.size) k50.size) k55.size) k64.size)), s73, (own_lo o140 (Nat.le_trans (Nat.le_trans (Nat.le_trans (Nat.le_trans (Nat.le_trans (Nat.le_trans (Nat.le_trans (Nat.le_trans (Nat.le_trans (Nat.le_trans (Nat.le_trans k24.size k30.size) k36.size) k40.size) k45.size) k50.size) k55.size) k64.size) k69.size) k78.size) k83.size) k88.size)), s97, (own_lo o141 (Nat.le_trans (Nat.le_trans (Nat.le_trans (Nat.le_trans (Nat.le_trans (Nat.le_trans (Nat.le_trans (Nat.le_trans (Nat.le_trans (Nat.le_trans (Nat.le_trans (Nat.le_trans (Nat.le_trans k24.size k30.size) k36.size) k40.size) k45.size) k50.size) k55.size) k64.size) k69.size) k78.size) k83.size) k88.size) k93.size) k102.size)), s111, ⟨⟨(Ap.lt o58 o72 k64.size), ⟨(Ap.lt o58 o96 (Nat.le_trans (Nat.le_trans (Nat.le_trans (Nat.le_trans k64.size k69.size) k78.size) k83.size) k88.size)), ⟨(Ap.lt o58 o110 (Nat.le_trans (Nat.le_trans (Nat.le_trans (Nat.le_trans (Nat.le_trans (Nat.le_trans k64.size k69.size) k78.size) k83.size) k88.size) k93.size) k102.size)), trivial⟩⟩⟩, ⟨⟨(Ap.lt o72 o96 (Nat.le_trans (Nat.le_trans k78.size k83.size) k88.size)), ⟨(Ap.lt o72 o110 (Nat.le_trans (Nat.le_trans (Nat.le_trans (Nat.le_trans k78.size k83.size) k88.size) k93.size) k102.size)), trivial⟩⟩, ⟨⟨(Ap.lt o96 o110 k102.size), trivial⟩, ⟨trivial, trivial⟩⟩⟩⟩⟩

def O_4 (w : World) (lo : Nat) (v : Value) (x : (Bool)) : Prop := v = .bool x
def F_spec_l1Same (x_a : List UInt8) (x_b : List UInt8) : (Bool) := (eqS (ByteArray.mk x_a.toArray) (ByteArray.mk x_b.toArray))
theorem C_spec_l1Same (w0 : World) (v_x_a : Value) (x_a : List UInt8) (r_x_a : R_22 w0 v_x_a x_a) (v_x_b : Value) (x_b : List UInt8) (r_x_b : R_22 w0 v_x_b x_b)  : Fn Try.prog 84 #[v_x_a, v_x_b] w0 (fun v w' => Keep w0 w' ∧ O_4 w' w0.heap.size v (F_spec_l1Same x_a x_b)) := by
  obtain ⟨a1, c2, rfl, r3, s4⟩ := r_x_a
  obtain ⟨a6, c7, rfl, r8, s9⟩ := r_x_b
  refine fn_of (n := 10) (l := [(.slice a1 x_a.length c2), (.slice a6 x_b.length c7), undef, undef, undef, undef, undef, undef, undef, undef]) Try.func84 rfl rfl (by kernel_rfl) rfl ?_
  refine wc_seq ?_
  refine wc_region ?_
  refine wl_mv (.bool false) (want_none rfl) rfl rfl (.inr rfl) rfl ?_
  refine wl_nil ?_
  refine wq_then ?_
  refine wc_seq ?_
  refine wc_region ?_
  refine wl_mv (.slice a1 x_a.length c2) (want_none rfl) rfl rfl (.inl rfl) rfl ?_
  refine wl_b2s x_a (want_none rfl) rfl rfl rfl rfl Try.underlying22 Try.underlying5 Try.underlying9 r3 ?_
  refine wl_mv (.slice a6 x_b.length c7) (want_none rfl) rfl rfl (.inl rfl) rfl ?_
  refine wl_b2s x_b (want_none rfl) rfl rfl rfl rfl Try.underlying22 Try.underlying5 Try.underlying9 r8 ?_
  refine wl_pure (.bool (eqS (ByteArray.mk x_a.toArray) (ByteArray.mk x_b.toArray))) (want_none rfl) rfl rfl (by kernel_rfl) ?_
  refine wl_mv (.bool (eqS (ByteArray.mk x_a.toArray) (ByteArray.mk x_b.toArray))) (want_none rfl) rfl rfl (.inr rfl) rfl ?_
  refine wl_nil ?_
  refine wq_then ?_
  refine wc_ret ?_
  refine ret_1 (.inl rfl) (.bool (eqS (ByteArray.mk x_a.toArray) (ByteArray.mk x_b.toArray))) rfl rfl ?_
  refine ⟨Ch.refl _ _, ?_⟩
  have hF11 : F_spec_l1Same x_a x_b = (eqS (ByteArray.mk x_a.toArray) (ByteArray.mk x_b.toArray)) := by rfl
  rw [hF11]
  exact rfl

theorem guardt_61 : Try.prog.eqGuardType Try.prog.depth 61 = false := by kernel_rfl
theorem aggeq_61 (x0 y0 : Int) (x1 y1 : Int) (w : World) : (Op.equalIn 10000 61 (.agg #[.int .i64 x0, .int .i64 x1]) (.agg #[.int .i64 y0, .int .i64 y1])).run Try.prog w = .ok ((decide (x0 = y0) && decide (x1 = y1))) w := by
  rw [run_equalIn_struct w 9999 61 _ _ (by kernel_rfl) (by kernel_rfl)]
  simp [Program.fieldsOf, Op.eqFields, go_sem, Try.underlying3, Try.underlying61]
  by_cases h0 : x0 = y0 <;> by_cases h1 : x1 = y1 <;> simp [*]
def R_63 (w : World) (v : Value) (x : (PNote)) : Prop := ∃ (a1 : Option Addr) (c1 : Nat) (a2 : Option Addr) (c2 : Nat) (a3 : Option Addr) (c3 : Nat) (a4 : Option Addr) (c4 : Nat), v = .agg #[.int .i64 x.Kind, .int .i64 x.Id, .int .i64 x.Role, .slice a1 x.Cn.length c1, .slice a2 x.Sn.length c2, .int .i64 x.Epoch, .int .i64 x.Seq, .slice a3 x.Body.length c3, .slice a4 x.Key.length c4, .int .i64 x.A.Host, .int .i64 x.A.Port, .int .i64 x.Now] ∧ Rd w 1 (.slice a1 x.Cn.length c1) x.Cn.length (x.Cn.map bV) ∧ x.Cn.length ≤ 1073741824 ∧ Rd w 1 (.slice a2 x.Sn.length c2) x.Sn.length (x.Sn.map bV) ∧ x.Sn.length ≤ 1073741824 ∧ Rd w 1 (.slice a3 x.Body.length c3) x.Body.length (x.Body.map bV) ∧ x.Body.length ≤ 1073741824 ∧ Rd w 1 (.slice a4 x.Key.length c4) x.Key.length (x.Key.map bV) ∧ x.Key.length ≤ 1073741824
def F_spec_SameNote (x_a : PNote) (x_b : PNote) : (Bool) := bif (decide (x_a.Kind = x_b.Kind)) then (bif (decide (x_a.Id = x_b.Id)) then (bif (decide (x_a.Role = x_b.Role)) then (bif (F_spec_l1Same x_a.Cn x_b.Cn) then (bif (F_spec_l1Same x_a.Sn x_b.Sn) then (bif (decide (x_a.Epoch = x_b.Epoch)) then (bif (decide (x_a.Seq = x_b.Seq)) then (bif (F_spec_l1Same x_a.Body x_b.Body) then (bif (F_spec_l1Same x_a.Key x_b.Key) then (bif (decide (x_a.A.Host = x_b.A.Host) && decide (x_a.A.Port = x_b.A.Port)) then (decide (x_a.Now = x_b.Now)) else (false)) else (false)) else (false)) else (false)) else (false)) else (false)) else (false)) else (false)) else (false)) else (false)
theorem C_spec_SameNote (w0 : World) (v_x_a : Value) (x_a : PNote) (r_x_a : R_63 w0 v_x_a x_a) (v_x_b : Value) (x_b : PNote) (r_x_b : R_63 w0 v_x_b x_b)  : Fn Try.prog 40 #[v_x_a, v_x_b] w0 (fun v w' => Keep w0 w' ∧ O_4 w' w0.heap.size v (F_spec_SameNote x_a x_b)) := by
  obtain ⟨a1, c2, a6, c7, a11, c12, a16, c17, rfl, r3, s4, r8, s9, r13, s14, r18, s19⟩ := r_x_a
  obtain ⟨a21, c22, a26, c27, a31, c32, a36, c37, rfl, r23, s24, r28, s29, r33, s34, r38, s39⟩ := r_x_b
  refine fn_of (n := 80) (l := [(.agg #[(.int .i64 x_a.Kind), (.int .i64 x_a.Id), (.int .i64 x_a.Role), (.slice a1 x_a.Cn.length c2), (.slice a6 x_a.Sn.length c7), (.int .i64 x_a.Epoch), (.int .i64 x_a.Seq), (.slice a11 x_a.Body.length c12), (.slice a16 x_a.Key.length c17), (.int .i64 x_a.A.Host), (.int .i64 x_a.A.Port), (.int .i64 x_a.Now)]), (.agg #[(.int .i64 x_b.Kind), (.int .i64 x_b.Id), (.int .i64 x_b.Role), (.slice a21 x_b.Cn.length c22), (.slice a26 x_b.Sn.length c27), (.int .i64 x_b.Epoch), (.int .i64 x_b.Seq), (.slice a31 x_b.Body.length c32), (.slice a36 x_b.Key.length c37), (.int .i64 x_b.A.Host), (.int .i64 x_b.A.Port), (.int .i64 x_b.Now)]), undef, undef, undef, undef, undef, undef, undef, undef, undef, undef, undef, undef, undef, undef, undef, undef, undef, undef, undef, undef, undef, undef, undef, undef, undef, undef, undef, undef, undef, undef, undef, undef, undef, undef, undef, undef, undef, undef, undef, undef, undef, undef, undef, undef, undef, undef, undef, undef, undef, undef, undef, undef, undef, undef, undef, undef, undef, undef, undef, undef, undef, undef, undef, undef, undef, undef, undef, undef, undef, undef, undef, undef, undef, undef, undef, undef, undef, undef]) Try.func40 rfl rfl (by kernel_rfl) rfl ?_
  refine wc_seq ?_
  refine wc_region ?_
  refine wl_box (want_none rfl) [(.int .i64 x_a.Kind), (.int .i64 x_a.Id), (.int .i64 x_a.Role), (.slice a1 x_a.Cn.length c2), (.slice a6 x_a.Sn.length c7), (.int .i64 x_a.Epoch), (.int .i64 x_a.Seq), (.slice a11 x_a.Body.length c12), (.slice a16 x_a.Key.length c17), (.int .i64 x_a.A.Host), (.int .i64 x_a.A.Port), (.int .i64 x_a.Now)] rfl rfl rfl rfl ?_
  intro g41 w1 p42 p43 k44 b45
  have m46 := (Ch.base w0).extk k44
  refine wl_box (want_none rfl) [(.int .i64 x_b.Kind), (.int .i64 x_b.Id), (.int .i64 x_b.Role), (.slice a21 x_b.Cn.length c22), (.slice a26 x_b.Sn.length c27), (.int .i64 x_b.Epoch), (.int .i64 x_b.Seq), (.slice a31 x_b.Body.length c32), (.slice a36 x_b.Key.length c37), (.int .i64 x_b.A.Host), (.int .i64 x_b.A.Port), (.int .i64 x_b.Now)] rfl rfl rfl rfl ?_
  intro g47 w2 p48 p49 k50 b51
  have m52 := m46.extk k50
  refine wl_mv (.bool false) (want_none rfl) rfl rfl (.inr rfl) rfl ?_
  refine wl_nil ?_
  refine wq_then ?_
  refine wc_seq ?_
  refine wc_region ?_
  refine wl_pure (.pointer (some ⟨g41, 0, none⟩)) (want_none rfl) rfl rfl (by kernel_rfl) ?_
  have b53 := (b45.kp k50)
  refine wl_load1 (.int .i64 x_a.Kind) (want_none rfl) rfl rfl rfl rfl isAgg_3 b53 rfl ?_
  refine wl_pure (.pointer (some ⟨g47, 0, none⟩)) (want_none rfl) rfl rfl (by kernel_rfl) ?_
  refine wl_load1 (.int .i64 x_b.Kind) (want_none rfl) rfl rfl rfl rfl isAgg_3 b51 rfl ?_
  refine wl_pure (.bool (decide (x_a.Kind = x_b.Kind))) (want_none rfl) rfl rfl (by kernel_rfl) ?_
  refine wl_mv (.bool (decide (x_a.Kind = x_b.Kind))) (want_none rfl) rfl rfl (.inl rfl) rfl ?_
  rcases Bool.eq_false_or_eq_true (decide (x_a.Kind = x_b.Kind)) with h54 | h54
  · have q55 := of_decide_eq_true h54
    refine wl_pure (.pointer (some ⟨g41, 1, none⟩)) (want_some rfl rfl rfl (congrArg Value.bool h54)) rfl rfl (by kernel_rfl) ?_
    refine wl_load1 (.int .i64 x_a.Id) (want_some rfl rfl rfl (congrArg Value.bool h54)) rfl rfl rfl rfl isAgg_3 b53 rfl ?_
    refine wl_pure (.pointer (some ⟨g47, 1, none⟩)) (want_some rfl rfl rfl (congrArg Value.bool h54)) rfl rfl (by kernel_rfl) ?_
    refine wl_load1 (.int .i64 x_b.Id) (want_some rfl rfl rfl (congrArg Value.bool h54)) rfl rfl rfl rfl isAgg_3 b51 rfl ?_
    refine wl_pure (.bool (decide (x_a.Id = x_b.Id))) (want_some rfl rfl rfl (congrArg Value.bool h54)) rfl rfl (by kernel_rfl) ?_
    refine wl_pick_t (.bool (decide (x_a.Id = x_b.Id))) (want_none rfl) rfl rfl rfl (congrArg Value.bool h54) rfl ?_
    refine wl_mv (.bool (decide (x_a.Id = x_b.Id))) (want_none rfl) rfl rfl (.inl rfl) rfl ?_
    rcases Bool.eq_false_or_eq_true (decide (x_a.Id = x_b.Id)) with h56 | h56
    · have q57 := of_decide_eq_true h56
      refine wl_pure (.pointer (some ⟨g41, 2, none⟩)) (want_some rfl rfl rfl (congrArg Value.bool h56)) rfl rfl (by kernel_rfl) ?_
      refine wl_load1 (.int .i64 x_a.Role) (want_some rfl rfl rfl (congrArg Value.bool h56)) rfl rfl rfl rfl isAgg_3 b53 rfl ?_
      refine wl_pure (.pointer (some ⟨g47, 2, none⟩)) (want_some rfl rfl rfl (congrArg Value.bool h56)) rfl rfl (by kernel_rfl) ?_
      refine wl_load1 (.int .i64 x_b.Role) (want_some rfl rfl rfl (congrArg Value.bool h56)) rfl rfl rfl rfl isAgg_3 b51 rfl ?_
      refine wl_pure (.bool (decide (x_a.Role = x_b.Role))) (want_some rfl rfl rfl (congrArg Value.bool h56)) rfl rfl (by kernel_rfl) ?_
      refine wl_pick_t (.bool (decide (x_a.Role = x_b.Role))) (want_none rfl) rfl rfl rfl (congrArg Value.bool h56) rfl ?_
      refine wl_mv (.bool (decide (x_a.Role = x_b.Role))) (want_none rfl) rfl rfl (.inl rfl) rfl ?_
      rcases Bool.eq_false_or_eq_true (decide (x_a.Role = x_b.Role)) with h58 | h58
      · have q59 := of_decide_eq_true h58
        refine wl_pure (.pointer (some ⟨g41, 3, none⟩)) (want_some rfl rfl rfl (congrArg Value.bool h58)) rfl rfl (by kernel_rfl) ?_
        refine wl_load1 (.slice a1 x_a.Cn.length c2) (want_some rfl rfl rfl (congrArg Value.bool h58)) rfl rfl rfl rfl isAgg_22 b53 rfl ?_
        refine wl_pure (.pointer (some ⟨g47, 3, none⟩)) (want_some rfl rfl rfl (congrArg Value.bool h58)) rfl rfl (by kernel_rfl) ?_
        refine wl_load1 (.slice a21 x_b.Cn.length c22) (want_some rfl rfl rfl (congrArg Value.bool h58)) rfl rfl rfl rfl isAgg_22 b51 rfl ?_
        refine wl_call (want_some rfl rfl rfl (congrArg Value.bool h58)) (args := #[(.slice a1 x_a.Cn.length c2), (.slice a21 x_b.Cn.length c22)]) rfl rfl (by kernel_rfl) (C_spec_l1Same w2 (.slice a1 x_a.Cn.length c2) x_a.Cn (show R_22 w2 (.slice a1 x_a.Cn.length c2) x_a.Cn from ⟨_, _, rfl, (r3.from0 m52), s4⟩) (.slice a21 x_b.Cn.length c22) x_b.Cn (show R_22 w2 (.slice a21 x_b.Cn.length c22) x_b.Cn from ⟨_, _, rfl, (r23.from0 m52), s24⟩)) ?_
        rintro _ w3 ⟨k60, rfl⟩
        have m61 := m52.extk k60
        refine wl_pick_t (.bool (F_spec_l1Same x_a.Cn x_b.Cn)) (want_none rfl) rfl rfl rfl (congrArg Value.bool h58) rfl ?_
        refine wl_mv (.bool (F_spec_l1Same x_a.Cn x_b.Cn)) (want_none rfl) rfl rfl (.inl rfl) rfl ?_
        rcases Bool.eq_false_or_eq_true (F_spec_l1Same x_a.Cn x_b.Cn) with h62 | h62
        · skip
          refine wl_pure (.pointer (some ⟨g41, 4, none⟩)) (want_some rfl rfl rfl (congrArg Value.bool h62)) rfl rfl (by kernel_rfl) ?_
          have b64 := (b53.kp k60)
          refine wl_load1 (.slice a6 x_a.Sn.length c7) (want_some rfl rfl rfl (congrArg Value.bool h62)) rfl rfl rfl rfl isAgg_22 b64 rfl ?_
          refine wl_pure (.pointer (some ⟨g47, 4, none⟩)) (want_some rfl rfl rfl (congrArg Value.bool h62)) rfl rfl (by kernel_rfl) ?_
          have b65 := (b51.kp k60)
          refine wl_load1 (.slice a26 x_b.Sn.length c27) (want_some rfl rfl rfl (congrArg Value.bool h62)) rfl rfl rfl rfl isAgg_22 b65 rfl ?_
          refine wl_call (want_some rfl rfl rfl (congrArg Value.bool h62)) (args := #[(.slice a6 x_a.Sn.length c7), (.slice a26 x_b.Sn.length c27)]) rfl rfl (by kernel_rfl) (C_spec_l1Same w3 (.slice a6 x_a.Sn.length c7) x_a.Sn (show R_22 w3 (.slice a6 x_a.Sn.length c7) x_a.Sn from ⟨_, _, rfl, (r8.from0 m61), s9⟩) (.slice a26 x_b.Sn.length c27) x_b.Sn (show R_22 w3 (.slice a26 x_b.Sn.length c27) x_b.Sn from ⟨_, _, rfl, (r28.from0 m61), s29⟩)) ?_
          rintro _ w4 ⟨k66, rfl⟩
          have m67 := m61.extk k66
          refine wl_pick_t (.bool (F_spec_l1Same x_a.Sn x_b.Sn)) (want_none rfl) rfl rfl rfl (congrArg Value.bool h62) rfl ?_
          refine wl_mv (.bool (F_spec_l1Same x_a.Sn x_b.Sn)) (want_none rfl) rfl rfl (.inl rfl) rfl ?_
          rcases Bool.eq_false_or_eq_true (F_spec_l1Same x_a.Sn x_b.Sn) with h68 | h68
          · skip
            refine wl_pure (.pointer (some ⟨g41, 5, none⟩)) (want_some rfl rfl rfl (congrArg Value.bool h68)) rfl rfl (by kernel_rfl) ?_
            have b70 := (b64.kp k66)
            refine wl_load1 (.int .i64 x_a.Epoch) (want_some rfl rfl rfl (congrArg Value.bool h68)) rfl rfl rfl rfl isAgg_3 b70 rfl ?_
            refine wl_pure (.pointer (some ⟨g47, 5, none⟩)) (want_some rfl rfl rfl (congrArg Value.bool h68)) rfl rfl (by kernel_rfl) ?_
            have b71 := (b65.kp k66)
            refine wl_load1 (.int .i64 x_b.Epoch) (want_some rfl rfl rfl (congrArg Value.bool h68)) rfl rfl rfl rfl isAgg_3 b71 rfl ?_
            refine wl_pure (.bool (decide (x_a.Epoch = x_b.Epoch))) (want_some rfl rfl rfl (congrArg Value.bool h68)) rfl rfl (by kernel_rfl) ?_
            refine wl_pick_t (.bool (decide (x_a.Epoch = x_b.Epoch))) (want_none rfl) rfl rfl rfl (congrArg Value.bool h68) rfl ?_
            refine wl_mv (.bool (decide (x_a.Epoch = x_b.Epoch))) (want_none rfl) rfl rfl (.inl rfl) rfl ?_
            rcases Bool.eq_false_or_eq_true (decide (x_a.Epoch = x_b.Epoch)) with h72 | h72
            · have q73 := of_decide_eq_true h72
              refine wl_pure (.pointer (some ⟨g41, 6, none⟩)) (want_some rfl rfl rfl (congrArg Value.bool h72)) rfl rfl (by kernel_rfl) ?_
              refine wl_load1 (.int .i64 x_a.Seq) (want_some rfl rfl rfl (congrArg Value.bool h72)) rfl rfl rfl rfl isAgg_3 b70 rfl ?_
              refine wl_pure (.pointer (some ⟨g47, 6, none⟩)) (want_some rfl rfl rfl (congrArg Value.bool h72)) rfl rfl (by kernel_rfl) ?_
              refine wl_load1 (.int .i64 x_b.Seq) (want_some rfl rfl rfl (congrArg Value.bool h72)) rfl rfl rfl rfl isAgg_3 b71 rfl ?_
              refine wl_pure (.bool (decide (x_a.Seq = x_b.Seq))) (want_some rfl rfl rfl (congrArg Value.bool h72)) rfl rfl (by kernel_rfl) ?_
              refine wl_pick_t (.bool (decide (x_a.Seq = x_b.Seq))) (want_none rfl) rfl rfl rfl (congrArg Value.bool h72) rfl ?_
              refine wl_mv (.bool (decide (x_a.Seq = x_b.Seq))) (want_none rfl) rfl rfl (.inl rfl) rfl ?_
              rcases Bool.eq_false_or_eq_true (decide (x_a.Seq = x_b.Seq)) with h74 | h74
              · have q75 := of_decide_eq_true h74
                refine wl_pure (.pointer (some ⟨g41, 7, none⟩)) (want_some rfl rfl rfl (congrArg Value.bool h74)) rfl rfl (by kernel_rfl) ?_
                refine wl_load1 (.slice a11 x_a.Body.length c12) (want_some rfl rfl rfl (congrArg Value.bool h74)) rfl rfl rfl rfl isAgg_22 b70 rfl ?_
                refine wl_pure (.pointer (some ⟨g47, 7, none⟩)) (want_some rfl rfl rfl (congrArg Value.bool h74)) rfl rfl (by kernel_rfl) ?_
                refine wl_load1 (.slice a31 x_b.Body.length c32) (want_some rfl rfl rfl (congrArg Value.bool h74)) rfl rfl rfl rfl isAgg_22 b71 rfl ?_
                refine wl_call (want_some rfl rfl rfl (congrArg Value.bool h74)) (args := #[(.slice a11 x_a.Body.length c12), (.slice a31 x_b.Body.length c32)]) rfl rfl (by kernel_rfl) (C_spec_l1Same w4 (.slice a11 x_a.Body.length c12) x_a.Body (show R_22 w4 (.slice a11 x_a.Body.length c12) x_a.Body from ⟨_, _, rfl, (r13.from0 m67), s14⟩) (.slice a31 x_b.Body.length c32) x_b.Body (show R_22 w4 (.slice a31 x_b.Body.length c32) x_b.Body from ⟨_, _, rfl, (r33.from0 m67), s34⟩)) ?_
                rintro _ w5 ⟨k76, rfl⟩
                have m77 := m67.extk k76
                refine wl_pick_t (.bool (F_spec_l1Same x_a.Body x_b.Body)) (want_none rfl) rfl rfl rfl (congrArg Value.bool h74) rfl ?_
                refine wl_mv (.bool (F_spec_l1Same x_a.Body x_b.Body)) (want_none rfl) rfl rfl (.inl rfl) rfl ?_
                rcases Bool.eq_false_or_eq_true (F_spec_l1Same x_a.Body x_b.Body) with h78 | h78
                · skip
                  refine wl_pure (.pointer (some ⟨g41, 8, none⟩)) (want_some rfl rfl rfl (congrArg Value.bool h78)) rfl rfl (by kernel_rfl) ?_
                  have b80 := (b70.kp k76)
                  refine wl_load1 (.slice a16 x_a.Key.length c17) (want_some rfl rfl rfl (congrArg Value.bool h78)) rfl rfl rfl rfl isAgg_22 b80 rfl ?_
                  refine wl_pure (.pointer (some ⟨g47, 8, none⟩)) (want_some rfl rfl rfl (congrArg Value.bool h78)) rfl rfl (by kernel_rfl) ?_
                  have b81 := (b71.kp k76)
                  refine wl_load1 (.slice a36 x_b.Key.length c37) (want_some rfl rfl rfl (congrArg Value.bool h78)) rfl rfl rfl rfl isAgg_22 b81 rfl ?_
                  refine wl_call (want_some rfl rfl rfl (congrArg Value.bool h78)) (args := #[(.slice a16 x_a.Key.length c17), (.slice a36 x_b.Key.length c37)]) rfl rfl (by kernel_rfl) (C_spec_l1Same w5 (.slice a16 x_a.Key.length c17) x_a.Key (show R_22 w5 (.slice a16 x_a.Key.length c17) x_a.Key from ⟨_, _, rfl, (r18.from0 m77), s19⟩) (.slice a36 x_b.Key.length c37) x_b.Key (show R_22 w5 (.slice a36 x_b.Key.length c37) x_b.Key from ⟨_, _, rfl, (r38.from0 m77), s39⟩)) ?_
                  rintro _ w6 ⟨k82, rfl⟩
                  have m83 := m77.extk k82
                  refine wl_pick_t (.bool (F_spec_l1Same x_a.Key x_b.Key)) (want_none rfl) rfl rfl rfl (congrArg Value.bool h78) rfl ?_
                  refine wl_mv (.bool (F_spec_l1Same x_a.Key x_b.Key)) (want_none rfl) rfl rfl (.inl rfl) rfl ?_
                  rcases Bool.eq_false_or_eq_true (F_spec_l1Same x_a.Key x_b.Key) with h84 | h84
                  · skip
                    refine wl_pure (.pointer (some ⟨g41, 9, none⟩)) (want_some rfl rfl rfl (congrArg Value.bool h84)) rfl rfl (by kernel_rfl) ?_
                    have b86 := (b80.kp k82)
                    refine wl_loadN [(.int .i64 x_a.A.Host), (.int .i64 x_a.A.Port)] (want_some rfl rfl rfl (congrArg Value.bool h84)) rfl rfl rfl rfl isAgg_61 sizeOf_61 b86 rfl ?_
                    refine wl_pure (.pointer (some ⟨g47, 9, none⟩)) (want_some rfl rfl rfl (congrArg Value.bool h84)) rfl rfl (by kernel_rfl) ?_
                    have b87 := (b81.kp k82)
                    refine wl_loadN [(.int .i64 x_b.A.Host), (.int .i64 x_b.A.Port)] (want_some rfl rfl rfl (congrArg Value.bool h84)) rfl rfl rfl rfl isAgg_61 sizeOf_61 b87 rfl ?_
                    refine wl_aggeq ((decide (x_a.A.Host = x_b.A.Host) && decide (x_a.A.Port = x_b.A.Port))) (want_some rfl rfl rfl (congrArg Value.bool h84)) rfl rfl rfl rfl rfl guardt_61 (aggeq_61 x_a.A.Host x_b.A.Host x_a.A.Port x_b.A.Port w6) ?_
                    refine wl_pick_t (.bool (decide (x_a.A.Host = x_b.A.Host) && decide (x_a.A.Port = x_b.A.Port))) (want_none rfl) rfl rfl rfl (congrArg Value.bool h84) rfl ?_
                    refine wl_mv (.bool (decide (x_a.A.Host = x_b.A.Host) && decide (x_a.A.Port = x_b.A.Port))) (want_none rfl) rfl rfl (.inl rfl) rfl ?_
                    rcases Bool.eq_false_or_eq_true (decide (x_a.A.Host = x_b.A.Host) && decide (x_a.A.Port = x_b.A.Port)) with h88 | h88
                    · skip
                      refine wl_pure (.pointer (some ⟨g41, 11, none⟩)) (want_some rfl rfl rfl (congrArg Value.bool h88)) rfl rfl (by kernel_rfl) ?_
                      refine wl_load1 (.int .i64 x_a.Now) (want_some rfl rfl rfl (congrArg Value.bool h88)) rfl rfl rfl rfl isAgg_3 b86 rfl ?_
                      refine wl_pure (.pointer (some ⟨g47, 11, none⟩)) (want_some rfl rfl rfl (congrArg Value.bool h88)) rfl rfl (by kernel_rfl) ?_
                      refine wl_load1 (.int .i64 x_b.Now) (want_some rfl rfl rfl (congrArg Value.bool h88)) rfl rfl rfl rfl isAgg_3 b87 rfl ?_
                      refine wl_pure (.bool (decide (x_a.Now = x_b.Now))) (want_some rfl rfl rfl (congrArg Value.bool h88)) rfl rfl (by kernel_rfl) ?_
                      refine wl_pick_t (.bool (decide (x_a.Now = x_b.Now))) (want_none rfl) rfl rfl rfl (congrArg Value.bool h88) rfl ?_
                      refine wl_mv (.bool (decide (x_a.Now = x_b.Now))) (want_none rfl) rfl rfl (.inr rfl) rfl ?_
                      refine wl_nil ?_
                      refine wq_then ?_
                      refine wc_ret ?_
                      refine ret_1 (.inl rfl) (.bool (decide (x_a.Now = x_b.Now))) rfl rfl ?_
                      refine ⟨m83.keep0, ?_⟩
                      have hF90 : F_spec_SameNote x_a x_b = decide (x_a.Now = x_b.Now) := by simp only [F_spec_SameNote, h54, h56, h58, h62, h68, h72, h74, h78, h84, h88, cond_true, cond_false]
                      rw [hF90]
                      exact rfl
                    · skip
                      refine wl_skip rfl rfl rfl (congrArg Value.bool h88) rfl rfl rfl ?_
                      refine wl_skip rfl rfl rfl (congrArg Value.bool h88) rfl rfl rfl ?_
                      refine wl_skip rfl rfl rfl (congrArg Value.bool h88) rfl rfl rfl ?_
                      refine wl_skip rfl rfl rfl (congrArg Value.bool h88) rfl rfl rfl ?_
                      refine wl_skip rfl rfl rfl (congrArg Value.bool h88) rfl rfl rfl ?_
                      refine wl_pick_f (.bool false) (want_none rfl) rfl rfl rfl (congrArg Value.bool h88) rfl ?_
                      refine wl_mv (.bool false) (want_none rfl) rfl rfl (.inr rfl) rfl ?_
                      refine wl_nil ?_
                      refine wq_then ?_
                      refine wc_ret ?_
                      refine ret_1 (.inl rfl) (.bool false) rfl rfl ?_
                      refine ⟨m83.keep0, ?_⟩
                      have hF92 : F_spec_SameNote x_a x_b = false := by simp only [F_spec_SameNote, h54, h56, h58, h62, h68, h72, h74, h78, h84, h88, cond_true, cond_false]
                      rw [hF92]
                      exact rfl
                  · skip
                    refine wl_skip rfl rfl rfl (congrArg Value.bool h84) rfl rfl rfl ?_
                    refine wl_skip rfl rfl rfl (congrArg Value.bool h84) rfl rfl rfl ?_
                    refine wl_skip rfl rfl rfl (congrArg Value.bool h84) rfl rfl rfl ?_
                    refine wl_skip rfl rfl rfl (congrArg Value.bool h84) rfl rfl rfl ?_
                    refine wl_skip rfl rfl rfl (congrArg Value.bool h84) rfl rfl rfl ?_
                    refine wl_pick_f (.bool false) (want_none rfl) rfl rfl rfl (congrArg Value.bool h84) rfl ?_
                    refine wl_mv (.bool false) (want_none rfl) rfl rfl (.inl rfl) rfl ?_
                    refine wl_skip rfl rfl rfl rfl rfl rfl rfl ?_
                    refine wl_skip rfl rfl rfl rfl rfl rfl rfl ?_
                    refine wl_skip rfl rfl rfl rfl rfl rfl rfl ?_
                    refine wl_skip rfl rfl rfl rfl rfl rfl rfl ?_
                    refine wl_skip rfl rfl rfl rfl rfl rfl rfl ?_
                    refine wl_pick_f (.bool false) (want_none rfl) rfl rfl rfl rfl rfl ?_
                    refine wl_mv (.bool false) (want_none rfl) rfl rfl (.inr rfl) rfl ?_
                    refine wl_nil ?_
                    refine wq_then ?_
                    refine wc_ret ?_
                    refine ret_1 (.inl rfl) (.bool false) rfl rfl ?_
                    refine ⟨m83.keep0, ?_⟩
                    have hF94 : F_spec_SameNote x_a x_b = false := by simp only [F_spec_SameNote, h54, h56, h58, h62, h68, h72, h74, h78, h84, cond_true, cond_false]
                    rw [hF94]
                    exact rfl
                · skip
                  refine wl_skip rfl rfl rfl (congrArg Value.bool h78) rfl rfl rfl ?_
                  refine wl_skip rfl rfl rfl (congrArg Value.bool h78) rfl rfl rfl ?_
                  refine wl_skip rfl rfl rfl (congrArg Value.bool h78) rfl rfl rfl ?_
                  refine wl_skip rfl rfl rfl (congrArg Value.bool h78) rfl rfl rfl ?_
                  refine wl_skip rfl rfl rfl (congrArg Value.bool h78) rfl rfl rfl ?_
                  refine wl_pick_f (.bool false) (want_none rfl) rfl rfl rfl (congrArg Value.bool h78) rfl ?_
                  refine wl_mv (.bool false) (want_none rfl) rfl rfl (.inl rfl) rfl ?_
                  refine wl_skip rfl rfl rfl rfl rfl rfl rfl ?_
                  refine wl_skip rfl rfl rfl rfl rfl rfl rfl ?_
                  refine wl_skip rfl rfl rfl rfl rfl rfl rfl ?_
                  refine wl_skip rfl rfl rfl rfl rfl rfl rfl ?_
                  refine wl_skip rfl rfl rfl rfl rfl rfl rfl ?_
                  refine wl_pick_f (.bool false) (want_none rfl) rfl rfl rfl rfl rfl ?_
                  refine wl_mv (.bool false) (want_none rfl) rfl rfl (.inl rfl) rfl ?_
                  refine wl_skip rfl rfl rfl rfl rfl rfl rfl ?_
                  refine wl_skip rfl rfl rfl rfl rfl rfl rfl ?_
                  refine wl_skip rfl rfl rfl rfl rfl rfl rfl ?_
                  refine wl_skip rfl rfl rfl rfl rfl rfl rfl ?_
                  refine wl_skip rfl rfl rfl rfl rfl rfl rfl ?_
                  refine wl_pick_f (.bool false) (want_none rfl) rfl rfl rfl rfl rfl ?_
                  refine wl_mv (.bool false) (want_none rfl) rfl rfl (.inr rfl) rfl ?_
                  refine wl_nil ?_
                  refine wq_then ?_
                  refine wc_ret ?_
                  refine ret_1 (.inl rfl) (.bool false) rfl rfl ?_
                  refine ⟨m77.keep0, ?_⟩
                  have hF96 : F_spec_SameNote x_a x_b = false := by simp only [F_spec_SameNote, h54, h56, h58, h62, h68, h72, h74, h78, cond_true, cond_false]
                  rw [hF96]
                  exact rfl
              · have q97 := of_decide_eq_false h74
                refine wl_skip rfl rfl rfl (congrArg Value.bool h74) rfl rfl rfl ?_
                refine wl_skip rfl rfl rfl (congrArg Value.bool h74) rfl rfl rfl ?_
                refine wl_skip rfl rfl rfl (congrArg Value.bool h74) rfl rfl rfl ?_
                refine wl_skip rfl rfl rfl (congrArg Value.bool h74) rfl rfl rfl ?_
                refine wl_skip rfl rfl rfl (congrArg Value.bool h74) rfl rfl rfl ?_
                refine wl_pick_f (.bool false) (want_none rfl) rfl rfl rfl (congrArg Value.bool h74) rfl ?_
                refine wl_mv (.bool false) (want_none rfl) rfl rfl (.inl rfl) rfl ?_
                refine wl_skip rfl rfl rfl rfl rfl rfl rfl ?_
                refine wl_skip rfl rfl rfl rfl rfl rfl rfl ?_
                refine wl_skip rfl rfl rfl rfl rfl rfl rfl ?_
                refine wl_skip rfl rfl rfl rfl rfl rfl rfl ?_
                refine wl_skip rfl rfl rfl rfl rfl rfl rfl ?_
                refine wl_pick_f (.bool false) (want_none rfl) rfl rfl rfl rfl rfl ?_
                refine wl_mv (.bool false) (want_none rfl) rfl rfl (.inl rfl) rfl ?_
                refine wl_skip rfl rfl rfl rfl rfl rfl rfl ?_
                refine wl_skip rfl rfl rfl rfl rfl rfl rfl ?_
                refine wl_skip rfl rfl rfl rfl rfl rfl rfl ?_
                refine wl_skip rfl rfl rfl rfl rfl rfl rfl ?_
                refine wl_skip rfl rfl rfl rfl rfl rfl rfl ?_
                refine wl_pick_f (.bool false) (want_none rfl) rfl rfl rfl rfl rfl ?_
                refine wl_mv (.bool false) (want_none rfl) rfl rfl (.inl rfl) rfl ?_
                refine wl_skip rfl rfl rfl rfl rfl rfl rfl ?_
                refine wl_skip rfl rfl rfl rfl rfl rfl rfl ?_
                refine wl_skip rfl rfl rfl rfl rfl rfl rfl ?_
                refine wl_skip rfl rfl rfl rfl rfl rfl rfl ?_
                refine wl_skip rfl rfl rfl rfl rfl rfl rfl ?_
                refine wl_pick_f (.bool false) (want_none rfl) rfl rfl rfl rfl rfl ?_
                refine wl_mv (.bool false) (want_none rfl) rfl rfl (.inr rfl) rfl ?_
                refine wl_nil ?_
                refine wq_then ?_
                refine wc_ret ?_
                refine ret_1 (.inl rfl) (.bool false) rfl rfl ?_
                refine ⟨m67.keep0, ?_⟩
                have hF98 : F_spec_SameNote x_a x_b = false := by simp only [F_spec_SameNote, h54, h56, h58, h62, h68, h72, h74, cond_true, cond_false]
                rw [hF98]
                exact rfl
            · have q99 := of_decide_eq_false h72
              refine wl_skip rfl rfl rfl (congrArg Value.bool h72) rfl rfl rfl ?_
              refine wl_skip rfl rfl rfl (congrArg Value.bool h72) rfl rfl rfl ?_
              refine wl_skip rfl rfl rfl (congrArg Value.bool h72) rfl rfl rfl ?_
              refine wl_skip rfl rfl rfl (congrArg Value.bool h72) rfl rfl rfl ?_
              refine wl_skip rfl rfl rfl (congrArg Value.bool h72) rfl rfl rfl ?_
              refine wl_pick_f (.bool false) (want_none rfl) rfl rfl rfl (congrArg Value.bool h72) rfl ?_
              refine wl_mv (.bool false) (want_none rfl) rfl rfl (.inl rfl) rfl ?_
              refine wl_skip rfl rfl rfl rfl rfl rfl rfl ?_
              refine wl_skip rfl rfl rfl rfl rfl rfl rfl ?_
              refine wl_skip rfl rfl rfl rfl rfl rfl rfl ?_
              refine wl_skip rfl rfl rfl rfl rfl rfl rfl ?_
              refine wl_skip rfl rfl rfl rfl rfl rfl rfl ?_
              refine wl_pick_f (.bool false) (want_none rfl) rfl rfl rfl rfl rfl ?_
              refine wl_mv (.bool false) (want_none rfl) rfl rfl (.inl rfl) rfl ?_
              refine wl_skip rfl rfl rfl rfl rfl rfl rfl ?_
              refine wl_skip rfl rfl rfl rfl rfl rfl rfl ?_
              refine wl_skip rfl rfl rfl rfl rfl rfl rfl ?_
              refine wl_skip rfl rfl rfl rfl rfl rfl rfl ?_
              refine wl_skip rfl rfl rfl rfl rfl rfl rfl ?_
              refine wl_pick_f (.bool false) (want_none rfl) rfl rfl rfl rfl rfl ?_
              refine wl_mv (.bool false) (want_none rfl) rfl rfl (.inl rfl) rfl ?_
              refine wl_skip rfl rfl rfl rfl rfl rfl rfl ?_
              refine wl_skip rfl rfl rfl rfl rfl rfl rfl ?_
              refine wl_skip rfl rfl rfl rfl rfl rfl rfl ?_
              refine wl_skip rfl rfl rfl rfl rfl rfl rfl ?_
              refine wl_skip rfl rfl rfl rfl rfl rfl rfl ?_
              refine wl_pick_f (.bool false) (want_none rfl) rfl rfl rfl rfl rfl ?_
              refine wl_mv (.bool false) (want_none rfl) rfl rfl (.inl rfl) rfl ?_
              refine wl_skip rfl rfl rfl rfl rfl rfl rfl ?_
              refine wl_skip rfl rfl rfl rfl rfl rfl rfl ?_
              refine wl_skip rfl rfl rfl rfl rfl rfl rfl ?_
              refine wl_skip rfl rfl rfl rfl rfl rfl rfl ?_
              refine wl_skip rfl rfl rfl rfl rfl rfl rfl ?_
              refine wl_pick_f (.bool false) (want_none rfl) rfl rfl rfl rfl rfl ?_
              refine wl_mv (.bool false) (want_none rfl) rfl rfl (.inr rfl) rfl ?_
              refine wl_nil ?_
              refine wq_then ?_
              refine wc_ret ?_
              refine ret_1 (.inl rfl) (.bool false) rfl rfl ?_
              refine ⟨m67.keep0, ?_⟩
              have hF100 : F_spec_SameNote x_a x_b = false := by simp only [F_spec_SameNote, h54, h56, h58, h62, h68, h72, cond_true, cond_false]
              rw [hF100]
              exact rfl
          · skip
            refine wl_skip rfl rfl rfl (congrArg Value.bool h68) rfl rfl rfl ?_
            refine wl_skip rfl rfl rfl (congrArg Value.bool h68) rfl rfl rfl ?_
            refine wl_skip rfl rfl rfl (congrArg Value.bool h68) rfl rfl rfl ?_
            refine wl_skip rfl rfl rfl (congrArg Value.bool h68) rfl rfl rfl ?_
            refine wl_skip rfl rfl rfl (congrArg Value.bool h68) rfl rfl rfl ?_
            refine wl_pick_f (.bool false) (want_none rfl) rfl rfl rfl (congrArg Value.bool h68) rfl ?_
            refine wl_mv (.bool false) (want_none rfl) rfl rfl (.inl rfl) rfl ?_
            refine wl_skip rfl rfl rfl rfl rfl rfl rfl ?_
            refine wl_skip rfl rfl rfl rfl rfl rfl rfl ?_
            refine wl_skip rfl rfl rfl rfl rfl rfl rfl ?_
            refine wl_skip rfl rfl rfl rfl rfl rfl rfl ?_
            refine wl_skip rfl rfl rfl rfl rfl rfl rfl ?_
            refine wl_pick_f (.bool false) (want_none rfl) rfl rfl rfl rfl rfl ?_
            refine wl_mv (.bool false) (want_none rfl) rfl rfl (.inl rfl) rfl ?_
            refine wl_skip rfl rfl rfl rfl rfl rfl rfl ?_
            refine wl_skip rfl rfl rfl rfl rfl rfl rfl ?_
            refine wl_skip rfl rfl rfl rfl rfl rfl rfl ?_
            refine wl_skip rfl rfl rfl rfl rfl rfl rfl ?_
            refine wl_skip rfl rfl rfl rfl rfl rfl rfl ?_
            refine wl_pick_f (.bool false) (want_none rfl) rfl rfl rfl rfl rfl ?_
            refine wl_mv (.bool false) (want_none rfl) rfl rfl (.inl rfl) rfl ?_
            refine wl_skip rfl rfl rfl rfl rfl rfl rfl ?_
            refine wl_skip rfl rfl rfl rfl rfl rfl rfl ?_
            refine wl_skip rfl rfl rfl rfl rfl rfl rfl ?_
            refine wl_skip rfl rfl rfl rfl rfl rfl rfl ?_
            refine wl_skip rfl rfl rfl rfl rfl rfl rfl ?_
            refine wl_pick_f (.bool false) (want_none rfl) rfl rfl rfl rfl rfl ?_
            refine wl_mv (.bool false) (want_none rfl) rfl rfl (.inl rfl) rfl ?_
            refine wl_skip rfl rfl rfl rfl rfl rfl rfl ?_
            refine wl_skip rfl rfl rfl rfl rfl rfl rfl ?_
            refine wl_skip rfl rfl rfl rfl rfl rfl rfl ?_
            refine wl_skip rfl rfl rfl rfl rfl rfl rfl ?_
            refine wl_skip rfl rfl rfl rfl rfl rfl rfl ?_
            refine wl_pick_f (.bool false) (want_none rfl) rfl rfl rfl rfl rfl ?_
            refine wl_mv (.bool false) (want_none rfl) rfl rfl (.inl rfl) rfl ?_
            refine wl_skip rfl rfl rfl rfl rfl rfl rfl ?_
            refine wl_skip rfl rfl rfl rfl rfl rfl rfl ?_
            refine wl_skip rfl rfl rfl rfl rfl rfl rfl ?_
            refine wl_skip rfl rfl rfl rfl rfl rfl rfl ?_
            refine wl_skip rfl rfl rfl rfl rfl rfl rfl ?_
            refine wl_pick_f (.bool false) (want_none rfl) rfl rfl rfl rfl rfl ?_
            refine wl_mv (.bool false) (want_none rfl) rfl rfl (.inr rfl) rfl ?_
            refine wl_nil ?_
            refine wq_then ?_
            refine wc_ret ?_
            refine ret_1 (.inl rfl) (.bool false) rfl rfl ?_
            refine ⟨m67.keep0, ?_⟩
            have hF102 : F_spec_SameNote x_a x_b = false := by simp only [F_spec_SameNote, h54, h56, h58, h62, h68, cond_true, cond_false]
            rw [hF102]
            exact rfl
        · skip
          refine wl_skip rfl rfl rfl (congrArg Value.bool h62) rfl rfl rfl ?_
          refine wl_skip rfl rfl rfl (congrArg Value.bool h62) rfl rfl rfl ?_
          refine wl_skip rfl rfl rfl (congrArg Value.bool h62) rfl rfl rfl ?_
          refine wl_skip rfl rfl rfl (congrArg Value.bool h62) rfl rfl rfl ?_
          refine wl_skip rfl rfl rfl (congrArg Value.bool h62) rfl rfl rfl ?_
          refine wl_pick_f (.bool false) (want_none rfl) rfl rfl rfl (congrArg Value.bool h62) rfl ?_
          refine wl_mv (.bool false) (want_none rfl) rfl rfl (.inl rfl) rfl ?_
          refine wl_skip rfl rfl rfl rfl rfl rfl rfl ?_
          refine wl_skip rfl rfl rfl rfl rfl rfl rfl ?_
          refine wl_skip rfl rfl rfl rfl rfl rfl rfl ?_
          refine wl_skip rfl rfl rfl rfl rfl rfl rfl ?_
          refine wl_skip rfl rfl rfl rfl rfl rfl rfl ?_
          refine wl_pick_f (.bool false) (want_none rfl) rfl rfl rfl rfl rfl ?_
          refine wl_mv (.bool false) (want_none rfl) rfl rfl (.inl rfl) rfl ?_
          refine wl_skip rfl rfl rfl rfl rfl rfl rfl ?_
          refine wl_skip rfl rfl rfl rfl rfl rfl rfl ?_
          refine wl_skip rfl rfl rfl rfl rfl rfl rfl ?_
          refine wl_skip rfl rfl rfl rfl rfl rfl rfl ?_
          refine wl_skip rfl rfl rfl rfl rfl rfl rfl ?_
          refine wl_pick_f (.bool false) (want_none rfl) rfl rfl rfl rfl rfl ?_
          refine wl_mv (.bool false) (want_none rfl) rfl rfl (.inl rfl) rfl ?_
          refine wl_skip rfl rfl rfl rfl rfl rfl rfl ?_
          refine wl_skip rfl rfl rfl rfl rfl rfl rfl ?_
          refine wl_skip rfl rfl rfl rfl rfl rfl rfl ?_
          refine wl_skip rfl rfl rfl rfl rfl rfl rfl ?_
          refine wl_skip rfl rfl rfl rfl rfl rfl rfl ?_
          refine wl_pick_f (.bool false) (want_none rfl) rfl rfl rfl rfl rfl ?_
          refine wl_mv (.bool false) (want_none rfl) rfl rfl (.inl rfl) rfl ?_
          refine wl_skip rfl rfl rfl rfl rfl rfl rfl ?_
          refine wl_skip rfl rfl rfl rfl rfl rfl rfl ?_
          refine wl_skip rfl rfl rfl rfl rfl rfl rfl ?_
          refine wl_skip rfl rfl rfl rfl rfl rfl rfl ?_
          refine wl_skip rfl rfl rfl rfl rfl rfl rfl ?_
          refine wl_pick_f (.bool false) (want_none rfl) rfl rfl rfl rfl rfl ?_
          refine wl_mv (.bool false) (want_none rfl) rfl rfl (.inl rfl) rfl ?_
          refine wl_skip rfl rfl rfl rfl rfl rfl rfl ?_
          refine wl_skip rfl rfl rfl rfl rfl rfl rfl ?_
          refine wl_skip rfl rfl rfl rfl rfl rfl rfl ?_
          refine wl_skip rfl rfl rfl rfl rfl rfl rfl ?_
          refine wl_skip rfl rfl rfl rfl rfl rfl rfl ?_
          refine wl_pick_f (.bool false) (want_none rfl) rfl rfl rfl rfl rfl ?_
          refine wl_mv (.bool false) (want_none rfl) rfl rfl (.inl rfl) rfl ?_
          refine wl_skip rfl rfl rfl rfl rfl rfl rfl ?_
          refine wl_skip rfl rfl rfl rfl rfl rfl rfl ?_
          refine wl_skip rfl rfl rfl rfl rfl rfl rfl ?_
          refine wl_skip rfl rfl rfl rfl rfl rfl rfl ?_
          refine wl_skip rfl rfl rfl rfl rfl rfl rfl ?_
          refine wl_pick_f (.bool false) (want_none rfl) rfl rfl rfl rfl rfl ?_
          refine wl_mv (.bool false) (want_none rfl) rfl rfl (.inr rfl) rfl ?_
          refine wl_nil ?_
          refine wq_then ?_
          refine wc_ret ?_
          refine ret_1 (.inl rfl) (.bool false) rfl rfl ?_
          refine ⟨m61.keep0, ?_⟩
          have hF104 : F_spec_SameNote x_a x_b = false := by simp only [F_spec_SameNote, h54, h56, h58, h62, cond_true, cond_false]
          rw [hF104]
          exact rfl
      · have q105 := of_decide_eq_false h58
        refine wl_skip rfl rfl rfl (congrArg Value.bool h58) rfl rfl rfl ?_
        refine wl_skip rfl rfl rfl (congrArg Value.bool h58) rfl rfl rfl ?_
        refine wl_skip rfl rfl rfl (congrArg Value.bool h58) rfl rfl rfl ?_
        refine wl_skip rfl rfl rfl (congrArg Value.bool h58) rfl rfl rfl ?_
        refine wl_skip rfl rfl rfl (congrArg Value.bool h58) rfl rfl rfl ?_
        refine wl_pick_f (.bool false) (want_none rfl) rfl rfl rfl (congrArg Value.bool h58) rfl ?_
        refine wl_mv (.bool false) (want_none rfl) rfl rfl (.inl rfl) rfl ?_
        refine wl_skip rfl rfl rfl rfl rfl rfl rfl ?_
        refine wl_skip rfl rfl rfl rfl rfl rfl rfl ?_
        refine wl_skip rfl rfl rfl rfl rfl rfl rfl ?_
        refine wl_skip rfl rfl rfl rfl rfl rfl rfl ?_
        refine wl_skip rfl rfl rfl rfl rfl rfl rfl ?_
        refine wl_pick_f (.bool false) (want_none rfl) rfl rfl rfl rfl rfl ?_
        refine wl_mv (.bool false) (want_none rfl) rfl rfl (.inl rfl) rfl ?_
        refine wl_skip rfl rfl rfl rfl rfl rfl rfl ?_
        refine wl_skip rfl rfl rfl rfl rfl rfl rfl ?_
        refine wl_skip rfl rfl rfl rfl rfl rfl rfl ?_
        refine wl_skip rfl rfl rfl rfl rfl rfl rfl ?_
        refine wl_skip rfl rfl rfl rfl rfl rfl rfl ?_
        refine wl_pick_f (.bool false) (want_none rfl) rfl rfl rfl rfl rfl ?_
        refine wl_mv (.bool false) (want_none rfl) rfl rfl (.inl rfl) rfl ?_
        refine wl_skip rfl rfl rfl rfl rfl rfl rfl ?_
        refine wl_skip rfl rfl rfl rfl rfl rfl rfl ?_
        refine wl_skip rfl rfl rfl rfl rfl rfl rfl ?_
        refine wl_skip rfl rfl rfl rfl rfl rfl rfl ?_
        refine wl_skip rfl rfl rfl rfl rfl rfl rfl ?_
        refine wl_pick_f (.bool false) (want_none rfl) rfl rfl rfl rfl rfl ?_
        refine wl_mv (.bool false) (want_none rfl) rfl rfl (.inl rfl) rfl ?_
        refine wl_skip rfl rfl rfl rfl rfl rfl rfl ?_
        refine wl_skip rfl rfl rfl rfl rfl rfl rfl ?_
        refine wl_skip rfl rfl rfl rfl rfl rfl rfl ?_
        refine wl_skip rfl rfl rfl rfl rfl rfl rfl ?_
        refine wl_skip rfl rfl rfl rfl rfl rfl rfl ?_
        refine wl_pick_f (.bool false) (want_none rfl) rfl rfl rfl rfl rfl ?_
        refine wl_mv (.bool false) (want_none rfl) rfl rfl (.inl rfl) rfl ?_
        refine wl_skip rfl rfl rfl rfl rfl rfl rfl ?_
        refine wl_skip rfl rfl rfl rfl rfl rfl rfl ?_
        refine wl_skip rfl rfl rfl rfl rfl rfl rfl ?_
        refine wl_skip rfl rfl rfl rfl rfl rfl rfl ?_
        refine wl_skip rfl rfl rfl rfl rfl rfl rfl ?_
        refine wl_pick_f (.bool false) (want_none rfl) rfl rfl rfl rfl rfl ?_
        refine wl_mv (.bool false) (want_none rfl) rfl rfl (.inl rfl) rfl ?_
        refine wl_skip rfl rfl rfl rfl rfl rfl rfl ?_
        refine wl_skip rfl rfl rfl rfl rfl rfl rfl ?_
        refine wl_skip rfl rfl rfl rfl rfl rfl rfl ?_
        refine wl_skip rfl rfl rfl rfl rfl rfl rfl ?_
        refine wl_skip rfl rfl rfl rfl rfl rfl rfl ?_
        refine wl_pick_f (.bool false) (want_none rfl) rfl rfl rfl rfl rfl ?_
        refine wl_mv (.bool false) (want_none rfl) rfl rfl (.inl rfl) rfl ?_
        refine wl_skip rfl rfl rfl rfl rfl rfl rfl ?_
        refine wl_skip rfl rfl rfl rfl rfl rfl rfl ?_
        refine wl_skip rfl rfl rfl rfl rfl rfl rfl ?_
        refine wl_skip rfl rfl rfl rfl rfl rfl rfl ?_
        refine wl_skip rfl rfl rfl rfl rfl rfl rfl ?_
        refine wl_pick_f (.bool false) (want_none rfl) rfl rfl rfl rfl rfl ?_
        refine wl_mv (.bool false) (want_none rfl) rfl rfl (.inr rfl) rfl ?_
        refine wl_nil ?_
        refine wq_then ?_
        refine wc_ret ?_
        refine ret_1 (.inl rfl) (.bool false) rfl rfl ?_
        refine ⟨m52.keep0, ?_⟩
        have hF106 : F_spec_SameNote x_a x_b = false := by simp only [F_spec_SameNote, h54, h56, h58, cond_true, cond_false]
        rw [hF106]
        exact rfl
    · have q107 := of_decide_eq_false h56
      refine wl_skip rfl rfl rfl (congrArg Value.bool h56) rfl rfl rfl ?_
      refine wl_skip rfl rfl rfl (congrArg Value.bool h56) rfl rfl rfl ?_
      refine wl_skip rfl rfl rfl (congrArg Value.bool h56) rfl rfl rfl ?_
      refine wl_skip rfl rfl rfl (congrArg Value.bool h56) rfl rfl rfl ?_
      refine wl_skip rfl rfl rfl (congrArg Value.bool h56) rfl rfl rfl ?_
      refine wl_pick_f (.bool false) (want_none rfl) rfl rfl rfl (congrArg Value.bool h56) rfl ?_
      refine wl_mv (.bool false) (want_none rfl) rfl rfl (.inl rfl) rfl ?_
      refine wl_skip rfl rfl rfl rfl rfl rfl rfl ?_
      refine wl_skip rfl rfl rfl rfl rfl rfl rfl ?_
      refine wl_skip rfl rfl rfl rfl rfl rfl rfl ?_
      refine wl_skip rfl rfl rfl rfl rfl rfl rfl ?_
      refine wl_skip rfl rfl rfl rfl rfl rfl rfl ?_
      refine wl_pick_f (.bool false) (want_none rfl) rfl rfl rfl rfl rfl ?_
      refine wl_mv (.bool false) (want_none rfl) rfl rfl (.inl rfl) rfl ?_
      refine wl_skip rfl rfl rfl rfl rfl rfl rfl ?_
      refine wl_skip rfl rfl rfl rfl rfl rfl rfl ?_
      refine wl_skip rfl rfl rfl rfl rfl rfl rfl ?_
      refine wl_skip rfl rfl rfl rfl rfl rfl rfl ?_
      refine wl_skip rfl rfl rfl rfl rfl rfl rfl ?_
      refine wl_pick_f (.bool false) (want_none rfl) rfl rfl rfl rfl rfl ?_
      refine wl_mv (.bool false) (want_none rfl) rfl rfl (.inl rfl) rfl ?_
      refine wl_skip rfl rfl rfl rfl rfl rfl rfl ?_
      refine wl_skip rfl rfl rfl rfl rfl rfl rfl ?_
      refine wl_skip rfl rfl rfl rfl rfl rfl rfl ?_
      refine wl_skip rfl rfl rfl rfl rfl rfl rfl ?_
      refine wl_skip rfl rfl rfl rfl rfl rfl rfl ?_
      refine wl_pick_f (.bool false) (want_none rfl) rfl rfl rfl rfl rfl ?_
      refine wl_mv (.bool false) (want_none rfl) rfl rfl (.inl rfl) rfl ?_
      refine wl_skip rfl rfl rfl rfl rfl rfl rfl ?_
      refine wl_skip rfl rfl rfl rfl rfl rfl rfl ?_
      refine wl_skip rfl rfl rfl rfl rfl rfl rfl ?_
      refine wl_skip rfl rfl rfl rfl rfl rfl rfl ?_
      refine wl_skip rfl rfl rfl rfl rfl rfl rfl ?_
      refine wl_pick_f (.bool false) (want_none rfl) rfl rfl rfl rfl rfl ?_
      refine wl_mv (.bool false) (want_none rfl) rfl rfl (.inl rfl) rfl ?_
      refine wl_skip rfl rfl rfl rfl rfl rfl rfl ?_
      refine wl_skip rfl rfl rfl rfl rfl rfl rfl ?_
      refine wl_skip rfl rfl rfl rfl rfl rfl rfl ?_
      refine wl_skip rfl rfl rfl rfl rfl rfl rfl ?_
      refine wl_skip rfl rfl rfl rfl rfl rfl rfl ?_
      refine wl_pick_f (.bool false) (want_none rfl) rfl rfl rfl rfl rfl ?_
      refine wl_mv (.bool false) (want_none rfl) rfl rfl (.inl rfl) rfl ?_
      refine wl_skip rfl rfl rfl rfl rfl rfl rfl ?_
      refine wl_skip rfl rfl rfl rfl rfl rfl rfl ?_
      refine wl_skip rfl rfl rfl rfl rfl rfl rfl ?_
      refine wl_skip rfl rfl rfl rfl rfl rfl rfl ?_
      refine wl_skip rfl rfl rfl rfl rfl rfl rfl ?_
      refine wl_pick_f (.bool false) (want_none rfl) rfl rfl rfl rfl rfl ?_
      refine wl_mv (.bool false) (want_none rfl) rfl rfl (.inl rfl) rfl ?_
      refine wl_skip rfl rfl rfl rfl rfl rfl rfl ?_
      refine wl_skip rfl rfl rfl rfl rfl rfl rfl ?_
      refine wl_skip rfl rfl rfl rfl rfl rfl rfl ?_
      refine wl_skip rfl rfl rfl rfl rfl rfl rfl ?_
      refine wl_skip rfl rfl rfl rfl rfl rfl rfl ?_
      refine wl_pick_f (.bool false) (want_none rfl) rfl rfl rfl rfl rfl ?_
      refine wl_mv (.bool false) (want_none rfl) rfl rfl (.inl rfl) rfl ?_
      refine wl_skip rfl rfl rfl rfl rfl rfl rfl ?_
      refine wl_skip rfl rfl rfl rfl rfl rfl rfl ?_
      refine wl_skip rfl rfl rfl rfl rfl rfl rfl ?_
      refine wl_skip rfl rfl rfl rfl rfl rfl rfl ?_
      refine wl_skip rfl rfl rfl rfl rfl rfl rfl ?_
      refine wl_pick_f (.bool false) (want_none rfl) rfl rfl rfl rfl rfl ?_
      refine wl_mv (.bool false) (want_none rfl) rfl rfl (.inr rfl) rfl ?_
      refine wl_nil ?_
      refine wq_then ?_
      refine wc_ret ?_
      refine ret_1 (.inl rfl) (.bool false) rfl rfl ?_
      refine ⟨m52.keep0, ?_⟩
      have hF108 : F_spec_SameNote x_a x_b = false := by simp only [F_spec_SameNote, h54, h56, cond_true, cond_false]
      rw [hF108]
      exact rfl
  · have q109 := of_decide_eq_false h54
    refine wl_skip rfl rfl rfl (congrArg Value.bool h54) rfl rfl rfl ?_
    refine wl_skip rfl rfl rfl (congrArg Value.bool h54) rfl rfl rfl ?_
    refine wl_skip rfl rfl rfl (congrArg Value.bool h54) rfl rfl rfl ?_
    refine wl_skip rfl rfl rfl (congrArg Value.bool h54) rfl rfl rfl ?_
    refine wl_skip rfl rfl rfl (congrArg Value.bool h54) rfl rfl rfl ?_
    refine wl_pick_f (.bool false) (want_none rfl) rfl rfl rfl (congrArg Value.bool h54) rfl ?_
    refine wl_mv (.bool false) (want_none rfl) rfl rfl (.inl rfl) rfl ?_
    refine wl_skip rfl rfl rfl rfl rfl rfl rfl ?_
    refine wl_skip rfl rfl rfl rfl rfl rfl rfl ?_
    refine wl_skip rfl rfl rfl rfl rfl rfl rfl ?_
    refine wl_skip rfl rfl rfl rfl rfl rfl rfl ?_
    refine wl_skip rfl rfl rfl rfl rfl rfl rfl ?_
    refine wl_pick_f (.bool false) (want_none rfl) rfl rfl rfl rfl rfl ?_
    refine wl_mv (.bool false) (want_none rfl) rfl rfl (.inl rfl) rfl ?_
    refine wl_skip rfl rfl rfl rfl rfl rfl rfl ?_
    refine wl_skip rfl rfl rfl rfl rfl rfl rfl ?_
    refine wl_skip rfl rfl rfl rfl rfl rfl rfl ?_
    refine wl_skip rfl rfl rfl rfl rfl rfl rfl ?_
    refine wl_skip rfl rfl rfl rfl rfl rfl rfl ?_
    refine wl_pick_f (.bool false) (want_none rfl) rfl rfl rfl rfl rfl ?_
    refine wl_mv (.bool false) (want_none rfl) rfl rfl (.inl rfl) rfl ?_
    refine wl_skip rfl rfl rfl rfl rfl rfl rfl ?_
    refine wl_skip rfl rfl rfl rfl rfl rfl rfl ?_
    refine wl_skip rfl rfl rfl rfl rfl rfl rfl ?_
    refine wl_skip rfl rfl rfl rfl rfl rfl rfl ?_
    refine wl_skip rfl rfl rfl rfl rfl rfl rfl ?_
    refine wl_pick_f (.bool false) (want_none rfl) rfl rfl rfl rfl rfl ?_
    refine wl_mv (.bool false) (want_none rfl) rfl rfl (.inl rfl) rfl ?_
    refine wl_skip rfl rfl rfl rfl rfl rfl rfl ?_
    refine wl_skip rfl rfl rfl rfl rfl rfl rfl ?_
    refine wl_skip rfl rfl rfl rfl rfl rfl rfl ?_
    refine wl_skip rfl rfl rfl rfl rfl rfl rfl ?_
    refine wl_skip rfl rfl rfl rfl rfl rfl rfl ?_
    refine wl_pick_f (.bool false) (want_none rfl) rfl rfl rfl rfl rfl ?_
    refine wl_mv (.bool false) (want_none rfl) rfl rfl (.inl rfl) rfl ?_
    refine wl_skip rfl rfl rfl rfl rfl rfl rfl ?_
    refine wl_skip rfl rfl rfl rfl rfl rfl rfl ?_
    refine wl_skip rfl rfl rfl rfl rfl rfl rfl ?_
    refine wl_skip rfl rfl rfl rfl rfl rfl rfl ?_
    refine wl_skip rfl rfl rfl rfl rfl rfl rfl ?_
    refine wl_pick_f (.bool false) (want_none rfl) rfl rfl rfl rfl rfl ?_
    refine wl_mv (.bool false) (want_none rfl) rfl rfl (.inl rfl) rfl ?_
    refine wl_skip rfl rfl rfl rfl rfl rfl rfl ?_
    refine wl_skip rfl rfl rfl rfl rfl rfl rfl ?_
    refine wl_skip rfl rfl rfl rfl rfl rfl rfl ?_
    refine wl_skip rfl rfl rfl rfl rfl rfl rfl ?_
    refine wl_skip rfl rfl rfl rfl rfl rfl rfl ?_
    refine wl_pick_f (.bool false) (want_none rfl) rfl rfl rfl rfl rfl ?_
    refine wl_mv (.bool false) (want_none rfl) rfl rfl (.inl rfl) rfl ?_
    refine wl_skip rfl rfl rfl rfl rfl rfl rfl ?_
    refine wl_skip rfl rfl rfl rfl rfl rfl rfl ?_
    refine wl_skip rfl rfl rfl rfl rfl rfl rfl ?_
    refine wl_skip rfl rfl rfl rfl rfl rfl rfl ?_
    refine wl_skip rfl rfl rfl rfl rfl rfl rfl ?_
    refine wl_pick_f (.bool false) (want_none rfl) rfl rfl rfl rfl rfl ?_
    refine wl_mv (.bool false) (want_none rfl) rfl rfl (.inl rfl) rfl ?_
    refine wl_skip rfl rfl rfl rfl rfl rfl rfl ?_
    refine wl_skip rfl rfl rfl rfl rfl rfl rfl ?_
    refine wl_skip rfl rfl rfl rfl rfl rfl rfl ?_
    refine wl_skip rfl rfl rfl rfl rfl rfl rfl ?_
    refine wl_skip rfl rfl rfl rfl rfl rfl rfl ?_
    refine wl_pick_f (.bool false) (want_none rfl) rfl rfl rfl rfl rfl ?_
    refine wl_mv (.bool false) (want_none rfl) rfl rfl (.inl rfl) rfl ?_
    refine wl_skip rfl rfl rfl rfl rfl rfl rfl ?_
    refine wl_skip rfl rfl rfl rfl rfl rfl rfl ?_
    refine wl_skip rfl rfl rfl rfl rfl rfl rfl ?_
    refine wl_skip rfl rfl rfl rfl rfl rfl rfl ?_
    refine wl_skip rfl rfl rfl rfl rfl rfl rfl ?_
    refine wl_pick_f (.bool false) (want_none rfl) rfl rfl rfl rfl rfl ?_
    refine wl_mv (.bool false) (want_none rfl) rfl rfl (.inr rfl) rfl ?_
    refine wl_nil ?_
    refine wq_then ?_
    refine wc_ret ?_
    refine ret_1 (.inl rfl) (.bool false) rfl rfl ?_
    refine ⟨m52.keep0, ?_⟩
    have hF110 : F_spec_SameNote x_a x_b = false := by simp only [F_spec_SameNote, h54, cond_true, cond_false]
    rw [hF110]
    exact rfl

def F_bytes_Equal (x_a : List UInt8) (x_b : List UInt8) : (Bool) := (eqS (ByteArray.mk x_a.toArray) (ByteArray.mk x_b.toArray))
theorem C_bytes_Equal (w0 : World) (v_x_a : Value) (x_a : List UInt8) (r_x_a : R_22 w0 v_x_a x_a) (v_x_b : Value) (x_b : List UInt8) (r_x_b : R_22 w0 v_x_b x_b)  : Fn Try.prog 85 #[v_x_a, v_x_b] w0 (fun v w' => Keep w0 w' ∧ O_4 w' w0.heap.size v (F_bytes_Equal x_a x_b)) := by
  obtain ⟨a1, c2, rfl, r3, s4⟩ := r_x_a
  obtain ⟨a6, c7, rfl, r8, s9⟩ := r_x_b
  refine fn_of (n := 10) (l := [(.slice a1 x_a.length c2), (.slice a6 x_b.length c7), undef, undef, undef, undef, undef, undef, undef, undef]) Try.func85 rfl rfl (by kernel_rfl) rfl ?_
  refine wc_seq ?_
  refine wc_region ?_
  refine wl_mv (.bool false) (want_none rfl) rfl rfl (.inr rfl) rfl ?_
  refine wl_nil ?_
  refine wq_then ?_
  refine wc_seq ?_
  refine wc_region ?_
  refine wl_mv (.slice a1 x_a.length c2) (want_none rfl) rfl rfl (.inl rfl) rfl ?_
  refine wl_b2s x_a (want_none rfl) rfl rfl rfl rfl Try.underlying22 Try.underlying5 Try.underlying9 r3 ?_
  refine wl_mv (.slice a6 x_b.length c7) (want_none rfl) rfl rfl (.inl rfl) rfl ?_
  refine wl_b2s x_b (want_none rfl) rfl rfl rfl rfl Try.underlying22 Try.underlying5 Try.underlying9 r8 ?_
  refine wl_pure (.bool (eqS (ByteArray.mk x_a.toArray) (ByteArray.mk x_b.toArray))) (want_none rfl) rfl rfl (by kernel_rfl) ?_
  refine wl_mv (.bool (eqS (ByteArray.mk x_a.toArray) (ByteArray.mk x_b.toArray))) (want_none rfl) rfl rfl (.inr rfl) rfl ?_
  refine wl_nil ?_
  refine wq_then ?_
  refine wc_ret ?_
  refine ret_1 (.inl rfl) (.bool (eqS (ByteArray.mk x_a.toArray) (ByteArray.mk x_b.toArray))) rfl rfl ?_
  refine ⟨Ch.refl _ _, ?_⟩
  have hF11 : F_bytes_Equal x_a x_b = (eqS (ByteArray.mk x_a.toArray) (ByteArray.mk x_b.toArray)) := by rfl
  rw [hF11]
  exact rfl

def F_impl_SameNote (x_a : PNote) (x_b : PNote) : (Bool) := bif (decide (x_a.Kind = x_b.Kind)) then (bif (decide (x_a.Id = x_b.Id)) then (bif (decide (x_a.Role = x_b.Role)) then (bif (decide (x_a.Epoch = x_b.Epoch)) then (bif (decide (x_a.Seq = x_b.Seq)) then (bif (decide (x_a.A.Host = x_b.A.Host) && decide (x_a.A.Port = x_b.A.Port)) then (bif (decide (x_a.Now = x_b.Now)) then (bif (F_bytes_Equal x_a.Cn x_b.Cn) then (bif (F_bytes_Equal x_a.Sn x_b.Sn) then (bif (F_bytes_Equal x_a.Body x_b.Body) then ((F_bytes_Equal x_a.Key x_b.Key)) else (false)) else (false)) else (false)) else (false)) else (false)) else (false)) else (false)) else (false)) else (false)) else (false)
theorem C_impl_SameNote (w0 : World) (v_x_a : Value) (x_a : PNote) (r_x_a : R_63 w0 v_x_a x_a) (v_x_b : Value) (x_b : PNote) (r_x_b : R_63 w0 v_x_b x_b)  : Fn Try.prog 42 #[v_x_a, v_x_b] w0 (fun v w' => Keep w0 w' ∧ O_4 w' w0.heap.size v (F_impl_SameNote x_a x_b)) := by
  obtain ⟨a1, c2, a6, c7, a11, c12, a16, c17, rfl, r3, s4, r8, s9, r13, s14, r18, s19⟩ := r_x_a
  obtain ⟨a21, c22, a26, c27, a31, c32, a36, c37, rfl, r23, s24, r28, s29, r33, s34, r38, s39⟩ := r_x_b
  refine fn_of (n := 80) (l := [(.agg #[(.int .i64 x_a.Kind), (.int .i64 x_a.Id), (.int .i64 x_a.Role), (.slice a1 x_a.Cn.length c2), (.slice a6 x_a.Sn.length c7), (.int .i64 x_a.Epoch), (.int .i64 x_a.Seq), (.slice a11 x_a.Body.length c12), (.slice a16 x_a.Key.length c17), (.int .i64 x_a.A.Host), (.int .i64 x_a.A.Port), (.int .i64 x_a.Now)]), (.agg #[(.int .i64 x_b.Kind), (.int .i64 x_b.Id), (.int .i64 x_b.Role), (.slice a21 x_b.Cn.length c22), (.slice a26 x_b.Sn.length c27), (.int .i64 x_b.Epoch), (.int .i64 x_b.Seq), (.slice a31 x_b.Body.length c32), (.slice a36 x_b.Key.length c37), (.int .i64 x_b.A.Host), (.int .i64 x_b.A.Port), (.int .i64 x_b.Now)]), undef, undef, undef, undef, undef, undef, undef, undef, undef, undef, undef, undef, undef, undef, undef, undef, undef, undef, undef, undef, undef, undef, undef, undef, undef, undef, undef, undef, undef, undef, undef, undef, undef, undef, undef, undef, undef, undef, undef, undef, undef, undef, undef, undef, undef, undef, undef, undef, undef, undef, undef, undef, undef, undef, undef, undef, undef, undef, undef, undef, undef, undef, undef, undef, undef, undef, undef, undef, undef, undef, undef, undef, undef, undef, undef, undef, undef, undef]) Try.func42 rfl rfl (by kernel_rfl) rfl ?_
  refine wc_seq ?_
  refine wc_region ?_
  refine wl_box (want_none rfl) [(.int .i64 x_a.Kind), (.int .i64 x_a.Id), (.int .i64 x_a.Role), (.slice a1 x_a.Cn.length c2), (.slice a6 x_a.Sn.length c7), (.int .i64 x_a.Epoch), (.int .i64 x_a.Seq), (.slice a11 x_a.Body.length c12), (.slice a16 x_a.Key.length c17), (.int .i64 x_a.A.Host), (.int .i64 x_a.A.Port), (.int .i64 x_a.Now)] rfl rfl rfl rfl ?_
  intro g41 w1 p42 p43 k44 b45
  have m46 := (Ch.base w0).extk k44
  refine wl_box (want_none rfl) [(.int .i64 x_b.Kind), (.int .i64 x_b.Id), (.int .i64 x_b.Role), (.slice a21 x_b.Cn.length c22), (.slice a26 x_b.Sn.length c27), (.int .i64 x_b.Epoch), (.int .i64 x_b.Seq), (.slice a31 x_b.Body.length c32), (.slice a36 x_b.Key.length c37), (.int .i64 x_b.A.Host), (.int .i64 x_b.A.Port), (.int .i64 x_b.Now)] rfl rfl rfl rfl ?_
  intro g47 w2 p48 p49 k50 b51
  have m52 := m46.extk k50
  refine wl_mv (.bool false) (want_none rfl) rfl rfl (.inr rfl) rfl ?_
  refine wl_nil ?_
  refine wq_then ?_
  refine wc_seq ?_
  refine wc_region ?_
  refine wl_pure (.pointer (some ⟨g41, 0, none⟩)) (want_none rfl) rfl rfl (by kernel_rfl) ?_
  have b53 := (b45.kp k50)
  refine wl_load1 (.int .i64 x_a.Kind) (want_none rfl) rfl rfl rfl rfl isAgg_3 b53 rfl ?_
  refine wl_pure (.pointer (some ⟨g47, 0, none⟩)) (want_none rfl) rfl rfl (by kernel_rfl) ?_
  refine wl_load1 (.int .i64 x_b.Kind) (want_none rfl) rfl rfl rfl rfl isAgg_3 b51 rfl ?_
  refine wl_pure (.bool (decide (x_a.Kind = x_b.Kind))) (want_none rfl) rfl rfl (by kernel_rfl) ?_
  refine wl_mv (.bool (decide (x_a.Kind = x_b.Kind))) (want_none rfl) rfl rfl (.inl rfl) rfl ?_
  rcases Bool.eq_false_or_eq_true (decide (x_a.Kind = x_b.Kind)) with h54 | h54
  · have q55 := of_decide_eq_true h54
    refine wl_pure (.pointer (some ⟨g41, 1, none⟩)) (want_some rfl rfl rfl (congrArg Value.bool h54)) rfl rfl (by kernel_rfl) ?_
    refine wl_load1 (.int .i64 x_a.Id) (want_some rfl rfl rfl (congrArg Value.bool h54)) rfl rfl rfl rfl isAgg_3 b53 rfl ?_
    refine wl_pure (.pointer (some ⟨g47, 1, none⟩)) (want_some rfl rfl rfl (congrArg Value.bool h54)) rfl rfl (by kernel_rfl) ?_
    refine wl_load1 (.int .i64 x_b.Id) (want_some rfl rfl rfl (congrArg Value.bool h54)) rfl rfl rfl rfl isAgg_3 b51 rfl ?_
    refine wl_pure (.bool (decide (x_a.Id = x_b.Id))) (want_some rfl rfl rfl (congrArg Value.bool h54)) rfl rfl (by kernel_rfl) ?_
    refine wl_pick_t (.bool (decide (x_a.Id = x_b.Id))) (want_none rfl) rfl rfl rfl (congrArg Value.bool h54) rfl ?_
    refine wl_mv (.bool (decide (x_a.Id = x_b.Id))) (want_none rfl) rfl rfl (.inl rfl) rfl ?_
    rcases Bool.eq_false_or_eq_true (decide (x_a.Id = x_b.Id)) with h56 | h56
    · have q57 := of_decide_eq_true h56
      refine wl_pure (.pointer (some ⟨g41, 2, none⟩)) (want_some rfl rfl rfl (congrArg Value.bool h56)) rfl rfl (by kernel_rfl) ?_
      refine wl_load1 (.int .i64 x_a.Role) (want_some rfl rfl rfl (congrArg Value.bool h56)) rfl rfl rfl rfl isAgg_3 b53 rfl ?_
      refine wl_pure (.pointer (some ⟨g47, 2, none⟩)) (want_some rfl rfl rfl (congrArg Value.bool h56)) rfl rfl (by kernel_rfl) ?_
      refine wl_load1 (.int .i64 x_b.Role) (want_some rfl rfl rfl (congrArg Value.bool h56)) rfl rfl rfl rfl isAgg_3 b51 rfl ?_
      refine wl_pure (.bool (decide (x_a.Role = x_b.Role))) (want_some rfl rfl rfl (congrArg Value.bool h56)) rfl rfl (by kernel_rfl) ?_
      refine wl_pick_t (.bool (decide (x_a.Role = x_b.Role))) (want_none rfl) rfl rfl rfl (congrArg Value.bool h56) rfl ?_
      refine wl_mv (.bool (decide (x_a.Role = x_b.Role))) (want_none rfl) rfl rfl (.inl rfl) rfl ?_
      rcases Bool.eq_false_or_eq_true (decide (x_a.Role = x_b.Role)) with h58 | h58
      · have q59 := of_decide_eq_true h58
        refine wl_pure (.pointer (some ⟨g41, 5, none⟩)) (want_some rfl rfl rfl (congrArg Value.bool h58)) rfl rfl (by kernel_rfl) ?_
        refine wl_load1 (.int .i64 x_a.Epoch) (want_some rfl rfl rfl (congrArg Value.bool h58)) rfl rfl rfl rfl isAgg_3 b53 rfl ?_
        refine wl_pure (.pointer (some ⟨g47, 5, none⟩)) (want_some rfl rfl rfl (congrArg Value.bool h58)) rfl rfl (by kernel_rfl) ?_
        refine wl_load1 (.int .i64 x_b.Epoch) (want_some rfl rfl rfl (congrArg Value.bool h58)) rfl rfl rfl rfl isAgg_3 b51 rfl ?_
        refine wl_pure (.bool (decide (x_a.Epoch = x_b.Epoch))) (want_some rfl rfl rfl (congrArg Value.bool h58)) rfl rfl (by kernel_rfl) ?_
        refine wl_pick_t (.bool (decide (x_a.Epoch = x_b.Epoch))) (want_none rfl) rfl rfl rfl (congrArg Value.bool h58) rfl ?_
        refine wl_mv (.bool (decide (x_a.Epoch = x_b.Epoch))) (want_none rfl) rfl rfl (.inl rfl) rfl ?_
        rcases Bool.eq_false_or_eq_true (decide (x_a.Epoch = x_b.Epoch)) with h60 | h60
        · have q61 := of_decide_eq_true h60
          refine wl_pure (.pointer (some ⟨g41, 6, none⟩)) (want_some rfl rfl rfl (congrArg Value.bool h60)) rfl rfl (by kernel_rfl) ?_
          refine wl_load1 (.int .i64 x_a.Seq) (want_some rfl rfl rfl (congrArg Value.bool h60)) rfl rfl rfl rfl isAgg_3 b53 rfl ?_
          refine wl_pure (.pointer (some ⟨g47, 6, none⟩)) (want_some rfl rfl rfl (congrArg Value.bool h60)) rfl rfl (by kernel_rfl) ?_
          refine wl_load1 (.int .i64 x_b.Seq) (want_some rfl rfl rfl (congrArg Value.bool h60)) rfl rfl rfl rfl isAgg_3 b51 rfl ?_
          refine wl_pure (.bool (decide (x_a.Seq = x_b.Seq))) (want_some rfl rfl rfl (congrArg Value.bool h60)) rfl rfl (by kernel_rfl) ?_
          refine wl_pick_t (.bool (decide (x_a.Seq = x_b.Seq))) (want_none rfl) rfl rfl rfl (congrArg Value.bool h60) rfl ?_
          refine wl_mv (.bool (decide (x_a.Seq = x_b.Seq))) (want_none rfl) rfl rfl (.inl rfl) rfl ?_
          rcases Bool.eq_false_or_eq_true (decide (x_a.Seq = x_b.Seq)) with h62 | h62
          · have q63 := of_decide_eq_true h62
            refine wl_pure (.pointer (some ⟨g41, 9, none⟩)) (want_some rfl rfl rfl (congrArg Value.bool h62)) rfl rfl (by kernel_rfl) ?_
            refine wl_loadN [(.int .i64 x_a.A.Host), (.int .i64 x_a.A.Port)] (want_some rfl rfl rfl (congrArg Value.bool h62)) rfl rfl rfl rfl isAgg_61 sizeOf_61 b53 rfl ?_
            refine wl_pure (.pointer (some ⟨g47, 9, none⟩)) (want_some rfl rfl rfl (congrArg Value.bool h62)) rfl rfl (by kernel_rfl) ?_
            refine wl_loadN [(.int .i64 x_b.A.Host), (.int .i64 x_b.A.Port)] (want_some rfl rfl rfl (congrArg Value.bool h62)) rfl rfl rfl rfl isAgg_61 sizeOf_61 b51 rfl ?_
            refine wl_aggeq ((decide (x_a.A.Host = x_b.A.Host) && decide (x_a.A.Port = x_b.A.Port))) (want_some rfl rfl rfl (congrArg Value.bool h62)) rfl rfl rfl rfl rfl guardt_61 (aggeq_61 x_a.A.Host x_b.A.Host x_a.A.Port x_b.A.Port w2) ?_
            refine wl_pick_t (.bool (decide (x_a.A.Host = x_b.A.Host) && decide (x_a.A.Port = x_b.A.Port))) (want_none rfl) rfl rfl rfl (congrArg Value.bool h62) rfl ?_
            refine wl_mv (.bool (decide (x_a.A.Host = x_b.A.Host) && decide (x_a.A.Port = x_b.A.Port))) (want_none rfl) rfl rfl (.inl rfl) rfl ?_
            rcases Bool.eq_false_or_eq_true (decide (x_a.A.Host = x_b.A.Host) && decide (x_a.A.Port = x_b.A.Port)) with h64 | h64
            · skip
              refine wl_pure (.pointer (some ⟨g41, 11, none⟩)) (want_some rfl rfl rfl (congrArg Value.bool h64)) rfl rfl (by kernel_rfl) ?_
              refine wl_load1 (.int .i64 x_a.Now) (want_some rfl rfl rfl (congrArg Value.bool h64)) rfl rfl rfl rfl isAgg_3 b53 rfl ?_
              refine wl_pure (.pointer (some ⟨g47, 11, none⟩)) (want_some rfl rfl rfl (congrArg Value.bool h64)) rfl rfl (by kernel_rfl) ?_
              refine wl_load1 (.int .i64 x_b.Now) (want_some rfl rfl rfl (congrArg Value.bool h64)) rfl rfl rfl rfl isAgg_3 b51 rfl ?_
              refine wl_pure (.bool (decide (x_a.Now = x_b.Now))) (want_some rfl rfl rfl (congrArg Value.bool h64)) rfl rfl (by kernel_rfl) ?_
              refine wl_pick_t (.bool (decide (x_a.Now = x_b.Now))) (want_none rfl) rfl rfl rfl (congrArg Value.bool h64) rfl ?_
              refine wl_mv (.bool (decide (x_a.Now = x_b.Now))) (want_none rfl) rfl rfl (.inl rfl) rfl ?_
              rcases Bool.eq_false_or_eq_true (decide (x_a.Now = x_b.Now)) with h66 | h66
              · have q67 := of_decide_eq_true h66
                refine wl_pure (.pointer (some ⟨g41, 3, none⟩)) (want_some rfl rfl rfl (congrArg Value.bool h66)) rfl rfl (by kernel_rfl) ?_
                refine wl_load1 (.slice a1 x_a.Cn.length c2) (want_some rfl rfl rfl (congrArg Value.bool h66)) rfl rfl rfl rfl isAgg_22 b53 rfl ?_
                refine wl_pure (.pointer (some ⟨g47, 3, none⟩)) (want_some rfl rfl rfl (congrArg Value.bool h66)) rfl rfl (by kernel_rfl) ?_
                refine wl_load1 (.slice a21 x_b.Cn.length c22) (want_some rfl rfl rfl (congrArg Value.bool h66)) rfl rfl rfl rfl isAgg_22 b51 rfl ?_
                refine wl_call (want_some rfl rfl rfl (congrArg Value.bool h66)) (args := #[(.slice a1 x_a.Cn.length c2), (.slice a21 x_b.Cn.length c22)]) rfl rfl (by kernel_rfl) (C_bytes_Equal w2 (.slice a1 x_a.Cn.length c2) x_a.Cn (show R_22 w2 (.slice a1 x_a.Cn.length c2) x_a.Cn from ⟨_, _, rfl, (r3.from0 m52), s4⟩) (.slice a21 x_b.Cn.length c22) x_b.Cn (show R_22 w2 (.slice a21 x_b.Cn.length c22) x_b.Cn from ⟨_, _, rfl, (r23.from0 m52), s24⟩)) ?_
                rintro _ w3 ⟨k68, rfl⟩
                have m69 := m52.extk k68
                refine wl_pick_t (.bool (F_bytes_Equal x_a.Cn x_b.Cn)) (want_none rfl) rfl rfl rfl (congrArg Value.bool h66) rfl ?_
                refine wl_mv (.bool (F_bytes_Equal x_a.Cn x_b.Cn)) (want_none rfl) rfl rfl (.inl rfl) rfl ?_
                rcases Bool.eq_false_or_eq_true (F_bytes_Equal x_a.Cn x_b.Cn) with h70 | h70
                · skip
                  refine wl_pure (.pointer (some ⟨g41, 4, none⟩)) (want_some rfl rfl rfl (congrArg Value.bool h70)) rfl rfl (by kernel_rfl) ?_
                  have b72 := (b53.kp k68)
                  refine wl_load1 (.slice a6 x_a.Sn.length c7) (want_some rfl rfl rfl (congrArg Value.bool h70)) rfl rfl rfl rfl isAgg_22 b72 rfl ?_
                  refine wl_pure (.pointer (some ⟨g47, 4, none⟩)) (want_some rfl rfl rfl (congrArg Value.bool h70)) rfl rfl (by kernel_rfl) ?_
                  have b73 := (b51.kp k68)
                  refine wl_load1 (.slice a26 x_b.Sn.length c27) (want_some rfl rfl rfl (congrArg Value.bool h70)) rfl rfl rfl rfl isAgg_22 b73 rfl ?_
                  refine wl_call (want_some rfl rfl rfl (congrArg Value.bool h70)) (args := #[(.slice a6 x_a.Sn.length c7), (.slice a26 x_b.Sn.length c27)]) rfl rfl (by kernel_rfl) (C_bytes_Equal w3 (.slice a6 x_a.Sn.length c7) x_a.Sn (show R_22 w3 (.slice a6 x_a.Sn.length c7) x_a.Sn from ⟨_, _, rfl, (r8.from0 m69), s9⟩) (.slice a26 x_b.Sn.length c27) x_b.Sn (show R_22 w3 (.slice a26 x_b.Sn.length c27) x_b.Sn from ⟨_, _, rfl, (r28.from0 m69), s29⟩)) ?_
                  rintro _ w4 ⟨k74, rfl⟩
                  have m75 := m69.extk k74
                  refine wl_pick_t (.bool (F_bytes_Equal x_a.Sn x_b.Sn)) (want_none rfl) rfl rfl rfl (congrArg Value.bool h70) rfl ?_
                  refine wl_mv (.bool (F_bytes_Equal x_a.Sn x_b.Sn)) (want_none rfl) rfl rfl (.inl rfl) rfl ?_
                  rcases Bool.eq_false_or_eq_true (F_bytes_Equal x_a.Sn x_b.Sn) with h76 | h76
                  · skip
                    refine wl_pure (.pointer (some ⟨g41, 7, none⟩)) (want_some rfl rfl rfl (congrArg Value.bool h76)) rfl rfl (by kernel_rfl) ?_
                    have b78 := (b72.kp k74)
                    refine wl_load1 (.slice a11 x_a.Body.length c12) (want_some rfl rfl rfl (congrArg Value.bool h76)) rfl rfl rfl rfl isAgg_22 b78 rfl ?_
                    refine wl_pure (.pointer (some ⟨g47, 7, none⟩)) (want_some rfl rfl rfl (congrArg Value.bool h76)) rfl rfl (by kernel_rfl) ?_
                    have b79 := (b73.kp k74)
                    refine wl_load1 (.slice a31 x_b.Body.length c32) (want_some rfl rfl rfl (congrArg Value.bool h76)) rfl rfl rfl rfl isAgg_22 b79 rfl ?_
                    refine wl_call (want_some rfl rfl rfl (congrArg Value.bool h76)) (args := #[(.slice a11 x_a.Body.length c12), (.slice a31 x_b.Body.length c32)]) rfl rfl (by kernel_rfl) (C_bytes_Equal w4 (.slice a11 x_a.Body.length c12) x_a.Body (show R_22 w4 (.slice a11 x_a.Body.length c12) x_a.Body from ⟨_, _, rfl, (r13.from0 m75), s14⟩) (.slice a31 x_b.Body.length c32) x_b.Body (show R_22 w4 (.slice a31 x_b.Body.length c32) x_b.Body from ⟨_, _, rfl, (r33.from0 m75), s34⟩)) ?_
                    rintro _ w5 ⟨k80, rfl⟩
                    have m81 := m75.extk k80
                    refine wl_pick_t (.bool (F_bytes_Equal x_a.Body x_b.Body)) (want_none rfl) rfl rfl rfl (congrArg Value.bool h76) rfl ?_
                    refine wl_mv (.bool (F_bytes_Equal x_a.Body x_b.Body)) (want_none rfl) rfl rfl (.inl rfl) rfl ?_
                    rcases Bool.eq_false_or_eq_true (F_bytes_Equal x_a.Body x_b.Body) with h82 | h82
                    · skip
                      refine wl_pure (.pointer (some ⟨g41, 8, none⟩)) (want_some rfl rfl rfl (congrArg Value.bool h82)) rfl rfl (by kernel_rfl) ?_
                      have b84 := (b78.kp k80)
                      refine wl_load1 (.slice a16 x_a.Key.length c17) (want_some rfl rfl rfl (congrArg Value.bool h82)) rfl rfl rfl rfl isAgg_22 b84 rfl ?_
                      refine wl_pure (.pointer (some ⟨g47, 8, none⟩)) (want_some rfl rfl rfl (congrArg Value.bool h82)) rfl rfl (by kernel_rfl) ?_
                      have b85 := (b79.kp k80)
                      refine wl_load1 (.slice a36 x_b.Key.length c37) (want_some rfl rfl rfl (congrArg Value.bool h82)) rfl rfl rfl rfl isAgg_22 b85 rfl ?_
                      refine wl_call (want_some rfl rfl rfl (congrArg Value.bool h82)) (args := #[(.slice a16 x_a.Key.length c17), (.slice a36 x_b.Key.length c37)]) rfl rfl (by kernel_rfl) (C_bytes_Equal w5 (.slice a16 x_a.Key.length c17) x_a.Key (show R_22 w5 (.slice a16 x_a.Key.length c17) x_a.Key from ⟨_, _, rfl, (r18.from0 m81), s19⟩) (.slice a36 x_b.Key.length c37) x_b.Key (show R_22 w5 (.slice a36 x_b.Key.length c37) x_b.Key from ⟨_, _, rfl, (r38.from0 m81), s39⟩)) ?_
                      rintro _ w6 ⟨k86, rfl⟩
                      have m87 := m81.extk k86
                      refine wl_pick_t (.bool (F_bytes_Equal x_a.Key x_b.Key)) (want_none rfl) rfl rfl rfl (congrArg Value.bool h82) rfl ?_
                      refine wl_mv (.bool (F_bytes_Equal x_a.Key x_b.Key)) (want_none rfl) rfl rfl (.inr rfl) rfl ?_
                      refine wl_nil ?_
                      refine wq_then ?_
                      refine wc_ret ?_
                      refine ret_1 (.inl rfl) (.bool (F_bytes_Equal x_a.Key x_b.Key)) rfl rfl ?_
                      refine ⟨m87.keep0, ?_⟩
                      have hF88 : F_impl_SameNote x_a x_b = (F_bytes_Equal x_a.Key x_b.Key) := by simp only [F_impl_SameNote, h54, h56, h58, h60, h62, h64, h66, h70, h76, h82, cond_true, cond_false]
                      rw [hF88]
                      exact rfl
                    · skip
                      refine wl_skip rfl rfl rfl (congrArg Value.bool h82) rfl rfl rfl ?_
                      refine wl_skip rfl rfl rfl (congrArg Value.bool h82) rfl rfl rfl ?_
                      refine wl_skip rfl rfl rfl (congrArg Value.bool h82) rfl rfl rfl ?_
                      refine wl_skip rfl rfl rfl (congrArg Value.bool h82) rfl rfl rfl ?_
                      refine wl_skip rfl rfl rfl (congrArg Value.bool h82) rfl rfl rfl ?_
                      refine wl_pick_f (.bool false) (want_none rfl) rfl rfl rfl (congrArg Value.bool h82) rfl ?_
                      refine wl_mv (.bool false) (want_none rfl) rfl rfl (.inr rfl) rfl ?_
                      refine wl_nil ?_
                      refine wq_then ?_
                      refine wc_ret ?_
                      refine ret_1 (.inl rfl) (.bool false) rfl rfl ?_
                      refine ⟨m81.keep0, ?_⟩
                      have hF90 : F_impl_SameNote x_a x_b = false := by simp only [F_impl_SameNote, h54, h56, h58, h60, h62, h64, h66, h70, h76, h82, cond_true, cond_false]
                      rw [hF90]
                      exact rfl
                  · skip
                    refine wl_skip rfl rfl rfl (congrArg Value.bool h76) rfl rfl rfl ?_
                    refine wl_skip rfl rfl rfl (congrArg Value.bool h76) rfl rfl rfl ?_
                    refine wl_skip rfl rfl rfl (congrArg Value.bool h76) rfl rfl rfl ?_
                    refine wl_skip rfl rfl rfl (congrArg Value.bool h76) rfl rfl rfl ?_
                    refine wl_skip rfl rfl rfl (congrArg Value.bool h76) rfl rfl rfl ?_
                    refine wl_pick_f (.bool false) (want_none rfl) rfl rfl rfl (congrArg Value.bool h76) rfl ?_
                    refine wl_mv (.bool false) (want_none rfl) rfl rfl (.inl rfl) rfl ?_
                    refine wl_skip rfl rfl rfl rfl rfl rfl rfl ?_
                    refine wl_skip rfl rfl rfl rfl rfl rfl rfl ?_
                    refine wl_skip rfl rfl rfl rfl rfl rfl rfl ?_
                    refine wl_skip rfl rfl rfl rfl rfl rfl rfl ?_
                    refine wl_skip rfl rfl rfl rfl rfl rfl rfl ?_
                    refine wl_pick_f (.bool false) (want_none rfl) rfl rfl rfl rfl rfl ?_
                    refine wl_mv (.bool false) (want_none rfl) rfl rfl (.inr rfl) rfl ?_
                    refine wl_nil ?_
                    refine wq_then ?_
                    refine wc_ret ?_
                    refine ret_1 (.inl rfl) (.bool false) rfl rfl ?_
                    refine ⟨m75.keep0, ?_⟩
                    have hF92 : F_impl_SameNote x_a x_b = false := by simp only [F_impl_SameNote, h54, h56, h58, h60, h62, h64, h66, h70, h76, cond_true, cond_false]
                    rw [hF92]
                    exact rfl
                · skip
                  refine wl_skip rfl rfl rfl (congrArg Value.bool h70) rfl rfl rfl ?_
                  refine wl_skip rfl rfl rfl (congrArg Value.bool h70) rfl rfl rfl ?_
                  refine wl_skip rfl rfl rfl (congrArg Value.bool h70) rfl rfl rfl ?_
                  refine wl_skip rfl rfl rfl (congrArg Value.bool h70) rfl rfl rfl ?_
                  refine wl_skip rfl rfl rfl (congrArg Value.bool h70) rfl rfl rfl ?_
                  refine wl_pick_f (.bool false) (want_none rfl) rfl rfl rfl (congrArg Value.bool h70) rfl ?_
                  refine wl_mv (.bool false) (want_none rfl) rfl rfl (.inl rfl) rfl ?_
                  refine wl_skip rfl rfl rfl rfl rfl rfl rfl ?_
                  refine wl_skip rfl rfl rfl rfl rfl rfl rfl ?_
                  refine wl_skip rfl rfl rfl rfl rfl rfl rfl ?_
                  refine wl_skip rfl rfl rfl rfl rfl rfl rfl ?_
                  refine wl_skip rfl rfl rfl rfl rfl rfl rfl ?_
                  refine wl_pick_f (.bool false) (want_none rfl) rfl rfl rfl rfl rfl ?_
                  refine wl_mv (.bool false) (want_none rfl) rfl rfl (.inl rfl) rfl ?_
                  refine wl_skip rfl rfl rfl rfl rfl rfl rfl ?_
                  refine wl_skip rfl rfl rfl rfl rfl rfl rfl ?_
                  refine wl_skip rfl rfl rfl rfl rfl rfl rfl ?_
                  refine wl_skip rfl rfl rfl rfl rfl rfl rfl ?_
                  refine wl_skip rfl rfl rfl rfl rfl rfl rfl ?_
                  refine wl_pick_f (.bool false) (want_none rfl) rfl rfl rfl rfl rfl ?_
                  refine wl_mv (.bool false) (want_none rfl) rfl rfl (.inr rfl) rfl ?_
                  refine wl_nil ?_
                  refine wq_then ?_
                  refine wc_ret ?_
                  refine ret_1 (.inl rfl) (.bool false) rfl rfl ?_
                  refine ⟨m69.keep0, ?_⟩
                  have hF94 : F_impl_SameNote x_a x_b = false := by simp only [F_impl_SameNote, h54, h56, h58, h60, h62, h64, h66, h70, cond_true, cond_false]
                  rw [hF94]
                  exact rfl
              · have q95 := of_decide_eq_false h66
                refine wl_skip rfl rfl rfl (congrArg Value.bool h66) rfl rfl rfl ?_
                refine wl_skip rfl rfl rfl (congrArg Value.bool h66) rfl rfl rfl ?_
                refine wl_skip rfl rfl rfl (congrArg Value.bool h66) rfl rfl rfl ?_
                refine wl_skip rfl rfl rfl (congrArg Value.bool h66) rfl rfl rfl ?_
                refine wl_skip rfl rfl rfl (congrArg Value.bool h66) rfl rfl rfl ?_
                refine wl_pick_f (.bool false) (want_none rfl) rfl rfl rfl (congrArg Value.bool h66) rfl ?_
                refine wl_mv (.bool false) (want_none rfl) rfl rfl (.inl rfl) rfl ?_
                refine wl_skip rfl rfl rfl rfl rfl rfl rfl ?_
                refine wl_skip rfl rfl rfl rfl rfl rfl rfl ?_
                refine wl_skip rfl rfl rfl rfl rfl rfl rfl ?_
                refine wl_skip rfl rfl rfl rfl rfl rfl rfl ?_
                refine wl_skip rfl rfl rfl rfl rfl rfl rfl ?_
                refine wl_pick_f (.bool false) (want_none rfl) rfl rfl rfl rfl rfl ?_
                refine wl_mv (.bool false) (want_none rfl) rfl rfl (.inl rfl) rfl ?_
                refine wl_skip rfl rfl rfl rfl rfl rfl rfl ?_
                refine wl_skip rfl rfl rfl rfl rfl rfl rfl ?_
                refine wl_skip rfl rfl rfl rfl rfl rfl rfl ?_
                refine wl_skip rfl rfl rfl rfl rfl rfl rfl ?_
                refine wl_skip rfl rfl rfl rfl rfl rfl rfl ?_
                refine wl_pick_f (.bool false) (want_none rfl) rfl rfl rfl rfl rfl ?_
                refine wl_mv (.bool false) (want_none rfl) rfl rfl (.inl rfl) rfl ?_
                refine wl_skip rfl rfl rfl rfl rfl rfl rfl ?_
                refine wl_skip rfl rfl rfl rfl rfl rfl rfl ?_
                refine wl_skip rfl rfl rfl rfl rfl rfl rfl ?_
                refine wl_skip rfl rfl rfl rfl rfl rfl rfl ?_
                refine wl_skip rfl rfl rfl rfl rfl rfl rfl ?_
                refine wl_pick_f (.bool false) (want_none rfl) rfl rfl rfl rfl rfl ?_
                refine wl_mv (.bool false) (want_none rfl) rfl rfl (.inr rfl) rfl ?_
                refine wl_nil ?_
                refine wq_then ?_
                refine wc_ret ?_
                refine ret_1 (.inl rfl) (.bool false) rfl rfl ?_
                refine ⟨m52.keep0, ?_⟩
                have hF96 : F_impl_SameNote x_a x_b = false := by simp only [F_impl_SameNote, h54, h56, h58, h60, h62, h64, h66, cond_true, cond_false]
                rw [hF96]
                exact rfl
            · skip
              refine wl_skip rfl rfl rfl (congrArg Value.bool h64) rfl rfl rfl ?_
              refine wl_skip rfl rfl rfl (congrArg Value.bool h64) rfl rfl rfl ?_
              refine wl_skip rfl rfl rfl (congrArg Value.bool h64) rfl rfl rfl ?_
              refine wl_skip rfl rfl rfl (congrArg Value.bool h64) rfl rfl rfl ?_
              refine wl_skip rfl rfl rfl (congrArg Value.bool h64) rfl rfl rfl ?_
              refine wl_pick_f (.bool false) (want_none rfl) rfl rfl rfl (congrArg Value.bool h64) rfl ?_
              refine wl_mv (.bool false) (want_none rfl) rfl rfl (.inl rfl) rfl ?_
              refine wl_skip rfl rfl rfl rfl rfl rfl rfl ?_
              refine wl_skip rfl rfl rfl rfl rfl rfl rfl ?_
              refine wl_skip rfl rfl rfl rfl rfl rfl rfl ?_
              refine wl_skip rfl rfl rfl rfl rfl rfl rfl ?_
              refine wl_skip rfl rfl rfl rfl rfl rfl rfl ?_
              refine wl_pick_f (.bool false) (want_none rfl) rfl rfl rfl rfl rfl ?_
              refine wl_mv (.bool false) (want_none rfl) rfl rfl (.inl rfl) rfl ?_
              refine wl_skip rfl rfl rfl rfl rfl rfl rfl ?_
              refine wl_skip rfl rfl rfl rfl rfl rfl rfl ?_
              refine wl_skip rfl rfl rfl rfl rfl rfl rfl ?_
              refine wl_skip rfl rfl rfl rfl rfl rfl rfl ?_
              refine wl_skip rfl rfl rfl rfl rfl rfl rfl ?_
              refine wl_pick_f (.bool false) (want_none rfl) rfl rfl rfl rfl rfl ?_
              refine wl_mv (.bool false) (want_none rfl) rfl rfl (.inl rfl) rfl ?_
              refine wl_skip rfl rfl rfl rfl rfl rfl rfl ?_
              refine wl_skip rfl rfl rfl rfl rfl rfl rfl ?_
              refine wl_skip rfl rfl rfl rfl rfl rfl rfl ?_
              refine wl_skip rfl rfl rfl rfl rfl rfl rfl ?_
              refine wl_skip rfl rfl rfl rfl rfl rfl rfl ?_
              refine wl_pick_f (.bool false) (want_none rfl) rfl rfl rfl rfl rfl ?_
              refine wl_mv (.bool false) (want_none rfl) rfl rfl (.inl rfl) rfl ?_
              refine wl_skip rfl rfl rfl rfl rfl rfl rfl ?_
              refine wl_skip rfl rfl rfl rfl rfl rfl rfl ?_
              refine wl_skip rfl rfl rfl rfl rfl rfl rfl ?_
              refine wl_skip rfl rfl rfl rfl rfl rfl rfl ?_
              refine wl_skip rfl rfl rfl rfl rfl rfl rfl ?_
              refine wl_pick_f (.bool false) (want_none rfl) rfl rfl rfl rfl rfl ?_
              refine wl_mv (.bool false) (want_none rfl) rfl rfl (.inr rfl) rfl ?_
              refine wl_nil ?_
              refine wq_then ?_
              refine wc_ret ?_
              refine ret_1 (.inl rfl) (.bool false) rfl rfl ?_
              refine ⟨m52.keep0, ?_⟩
              have hF98 : F_impl_SameNote x_a x_b = false := by simp only [F_impl_SameNote, h54, h56, h58, h60, h62, h64, cond_true, cond_false]
              rw [hF98]
              exact rfl
          · have q99 := of_decide_eq_false h62
            refine wl_skip rfl rfl rfl (congrArg Value.bool h62) rfl rfl rfl ?_
            refine wl_skip rfl rfl rfl (congrArg Value.bool h62) rfl rfl rfl ?_
            refine wl_skip rfl rfl rfl (congrArg Value.bool h62) rfl rfl rfl ?_
            refine wl_skip rfl rfl rfl (congrArg Value.bool h62) rfl rfl rfl ?_
            refine wl_skip rfl rfl rfl (congrArg Value.bool h62) rfl rfl rfl ?_
            refine wl_pick_f (.bool false) (want_none rfl) rfl rfl rfl (congrArg Value.bool h62) rfl ?_
            refine wl_mv (.bool false) (want_none rfl) rfl rfl (.inl rfl) rfl ?_
            refine wl_skip rfl rfl rfl rfl rfl rfl rfl ?_
            refine wl_skip rfl rfl rfl rfl rfl rfl rfl ?_
            refine wl_skip rfl rfl rfl rfl rfl rfl rfl ?_
            refine wl_skip rfl rfl rfl rfl rfl rfl rfl ?_
            refine wl_skip rfl rfl rfl rfl rfl rfl rfl ?_
            refine wl_pick_f (.bool false) (want_none rfl) rfl rfl rfl rfl rfl ?_
            refine wl_mv (.bool false) (want_none rfl) rfl rfl (.inl rfl) rfl ?_
            refine wl_skip rfl rfl rfl rfl rfl rfl rfl ?_
            refine wl_skip rfl rfl rfl rfl rfl rfl rfl ?_
            refine wl_skip rfl rfl rfl rfl rfl rfl rfl ?_
            refine wl_skip rfl rfl rfl rfl rfl rfl rfl ?_
            refine wl_skip rfl rfl rfl rfl rfl rfl rfl ?_
            refine wl_pick_f (.bool false) (want_none rfl) rfl rfl rfl rfl rfl ?_
            refine wl_mv (.bool false) (want_none rfl) rfl rfl (.inl rfl) rfl ?_
            refine wl_skip rfl rfl rfl rfl rfl rfl rfl ?_
            refine wl_skip rfl rfl rfl rfl rfl rfl rfl ?_
            refine wl_skip rfl rfl rfl rfl rfl rfl rfl ?_
            refine wl_skip rfl rfl rfl rfl rfl rfl rfl ?_
            refine wl_skip rfl rfl rfl rfl rfl rfl rfl ?_
            refine wl_pick_f (.bool false) (want_none rfl) rfl rfl rfl rfl rfl ?_
            refine wl_mv (.bool false) (want_none rfl) rfl rfl (.inl rfl) rfl ?_
            refine wl_skip rfl rfl rfl rfl rfl rfl rfl ?_
            refine wl_skip rfl rfl rfl rfl rfl rfl rfl ?_
            refine wl_skip rfl rfl rfl rfl rfl rfl rfl ?_
            refine wl_skip rfl rfl rfl rfl rfl rfl rfl ?_
            refine wl_skip rfl rfl rfl rfl rfl rfl rfl ?_
            refine wl_pick_f (.bool false) (want_none rfl) rfl rfl rfl rfl rfl ?_
            refine wl_mv (.bool false) (want_none rfl) rfl rfl (.inl rfl) rfl ?_
            refine wl_skip rfl rfl rfl rfl rfl rfl rfl ?_
            refine wl_skip rfl rfl rfl rfl rfl rfl rfl ?_
            refine wl_skip rfl rfl rfl rfl rfl rfl rfl ?_
            refine wl_skip rfl rfl rfl rfl rfl rfl rfl ?_
            refine wl_skip rfl rfl rfl rfl rfl rfl rfl ?_
            refine wl_pick_f (.bool false) (want_none rfl) rfl rfl rfl rfl rfl ?_
            refine wl_mv (.bool false) (want_none rfl) rfl rfl (.inr rfl) rfl ?_
            refine wl_nil ?_
            refine wq_then ?_
            refine wc_ret ?_
            refine ret_1 (.inl rfl) (.bool false) rfl rfl ?_
            refine ⟨m52.keep0, ?_⟩
            have hF100 : F_impl_SameNote x_a x_b = false := by simp only [F_impl_SameNote, h54, h56, h58, h60, h62, cond_true, cond_false]
            rw [hF100]
            exact rfl
        · have q101 := of_decide_eq_false h60
          refine wl_skip rfl rfl rfl (congrArg Value.bool h60) rfl rfl rfl ?_
          refine wl_skip rfl rfl rfl (congrArg Value.bool h60) rfl rfl rfl ?_
          refine wl_skip rfl rfl rfl (congrArg Value.bool h60) rfl rfl rfl ?_
          refine wl_skip rfl rfl rfl (congrArg Value.bool h60) rfl rfl rfl ?_
          refine wl_skip rfl rfl rfl (congrArg Value.bool h60) rfl rfl rfl ?_
          refine wl_pick_f (.bool false) (want_none rfl) rfl rfl rfl (congrArg Value.bool h60) rfl ?_
          refine wl_mv (.bool false) (want_none rfl) rfl rfl (.inl rfl) rfl ?_
          refine wl_skip rfl rfl rfl rfl rfl rfl rfl ?_
          refine wl_skip rfl rfl rfl rfl rfl rfl rfl ?_
          refine wl_skip rfl rfl rfl rfl rfl rfl rfl ?_
          refine wl_skip rfl rfl rfl rfl rfl rfl rfl ?_
          refine wl_skip rfl rfl rfl rfl rfl rfl rfl ?_
          refine wl_pick_f (.bool false) (want_none rfl) rfl rfl rfl rfl rfl ?_
          refine wl_mv (.bool false) (want_none rfl) rfl rfl (.inl rfl) rfl ?_
          refine wl_skip rfl rfl rfl rfl rfl rfl rfl ?_
          refine wl_skip rfl rfl rfl rfl rfl rfl rfl ?_
          refine wl_skip rfl rfl rfl rfl rfl rfl rfl ?_
          refine wl_skip rfl rfl rfl rfl rfl rfl rfl ?_
          refine wl_skip rfl rfl rfl rfl rfl rfl rfl ?_
          refine wl_pick_f (.bool false) (want_none rfl) rfl rfl rfl rfl rfl ?_
          refine wl_mv (.bool false) (want_none rfl) rfl rfl (.inl rfl) rfl ?_
          refine wl_skip rfl rfl rfl rfl rfl rfl rfl ?_
          refine wl_skip rfl rfl rfl rfl rfl rfl rfl ?_
          refine wl_skip rfl rfl rfl rfl rfl rfl rfl ?_
          refine wl_skip rfl rfl rfl rfl rfl rfl rfl ?_
          refine wl_skip rfl rfl rfl rfl rfl rfl rfl ?_
          refine wl_pick_f (.bool false) (want_none rfl) rfl rfl rfl rfl rfl ?_
          refine wl_mv (.bool false) (want_none rfl) rfl rfl (.inl rfl) rfl ?_
          refine wl_skip rfl rfl rfl rfl rfl rfl rfl ?_
          refine wl_skip rfl rfl rfl rfl rfl rfl rfl ?_
          refine wl_skip rfl rfl rfl rfl rfl rfl rfl ?_
          refine wl_skip rfl rfl rfl rfl rfl rfl rfl ?_
          refine wl_skip rfl rfl rfl rfl rfl rfl rfl ?_
          refine wl_pick_f (.bool false) (want_none rfl) rfl rfl rfl rfl rfl ?_
          refine wl_mv (.bool false) (want_none rfl) rfl rfl (.inl rfl) rfl ?_
          refine wl_skip rfl rfl rfl rfl rfl rfl rfl ?_
          refine wl_skip rfl rfl rfl rfl rfl rfl rfl ?_
          refine wl_skip rfl rfl rfl rfl rfl rfl rfl ?_
          refine wl_skip rfl rfl rfl rfl rfl rfl rfl ?_
          refine wl_skip rfl rfl rfl rfl rfl rfl rfl ?_
          refine wl_pick_f (.bool false) (want_none rfl) rfl rfl rfl rfl rfl ?_
          refine wl_mv (.bool false) (want_none rfl) rfl rfl (.inl rfl) rfl ?_
          refine wl_skip rfl rfl rfl rfl rfl rfl rfl ?_
          refine wl_skip rfl rfl rfl rfl rfl rfl rfl ?_
          refine wl_skip rfl rfl rfl rfl rfl rfl rfl ?_
          refine wl_skip rfl rfl rfl rfl rfl rfl rfl ?_
          refine wl_skip rfl rfl rfl rfl rfl rfl rfl ?_
          refine wl_pick_f (.bool false) (want_none rfl) rfl rfl rfl rfl rfl ?_
          refine wl_mv (.bool false) (want_none rfl) rfl rfl (.inr rfl) rfl ?_
          refine wl_nil ?_
          refine wq_then ?_
          refine wc_ret ?_
          refine ret_1 (.inl rfl) (.bool false) rfl rfl ?_
          refine ⟨m52.keep0, ?_⟩
          have hF102 : F_impl_SameNote x_a x_b = false := by simp only [F_impl_SameNote, h54, h56, h58, h60, cond_true, cond_false]
          rw [hF102]
          exact rfl
      · have q103 := of_decide_eq_false h58
        refine wl_skip rfl rfl rfl (congrArg Value.bool h58) rfl rfl rfl ?_
        refine wl_skip rfl rfl rfl (congrArg Value.bool h58) rfl rfl rfl ?_
        refine wl_skip rfl rfl rfl (congrArg Value.bool h58) rfl rfl rfl ?_
        refine wl_skip rfl rfl rfl (congrArg Value.bool h58) rfl rfl rfl ?_
        refine wl_skip rfl rfl rfl (congrArg Value.bool h58) rfl rfl rfl ?_
        refine wl_pick_f (.bool false) (want_none rfl) rfl rfl rfl (congrArg Value.bool h58) rfl ?_
        refine wl_mv (.bool false) (want_none rfl) rfl rfl (.inl rfl) rfl ?_
        refine wl_skip rfl rfl rfl rfl rfl rfl rfl ?_
        refine wl_skip rfl rfl rfl rfl rfl rfl rfl ?_
        refine wl_skip rfl rfl rfl rfl rfl rfl rfl ?_
        refine wl_skip rfl rfl rfl rfl rfl rfl rfl ?_
        refine wl_skip rfl rfl rfl rfl rfl rfl rfl ?_
        refine wl_pick_f (.bool false) (want_none rfl) rfl rfl rfl rfl rfl ?_
        refine wl_mv (.bool false) (want_none rfl) rfl rfl (.inl rfl) rfl ?_
        refine wl_skip rfl rfl rfl rfl rfl rfl rfl ?_
        refine wl_skip rfl rfl rfl rfl rfl rfl rfl ?_
        refine wl_skip rfl rfl rfl rfl rfl rfl rfl ?_
        refine wl_skip rfl rfl rfl rfl rfl rfl rfl ?_
        refine wl_skip rfl rfl rfl rfl rfl rfl rfl ?_
        refine wl_pick_f (.bool false) (want_none rfl) rfl rfl rfl rfl rfl ?_
        refine wl_mv (.bool false) (want_none rfl) rfl rfl (.inl rfl) rfl ?_
        refine wl_skip rfl rfl rfl rfl rfl rfl rfl ?_
        refine wl_skip rfl rfl rfl rfl rfl rfl rfl ?_
        refine wl_skip rfl rfl rfl rfl rfl rfl rfl ?_
        refine wl_skip rfl rfl rfl rfl rfl rfl rfl ?_
        refine wl_skip rfl rfl rfl rfl rfl rfl rfl ?_
        refine wl_pick_f (.bool false) (want_none rfl) rfl rfl rfl rfl rfl ?_
        refine wl_mv (.bool false) (want_none rfl) rfl rfl (.inl rfl) rfl ?_
        refine wl_skip rfl rfl rfl rfl rfl rfl rfl ?_
        refine wl_skip rfl rfl rfl rfl rfl rfl rfl ?_
        refine wl_skip rfl rfl rfl rfl rfl rfl rfl ?_
        refine wl_skip rfl rfl rfl rfl rfl rfl rfl ?_
        refine wl_skip rfl rfl rfl rfl rfl rfl rfl ?_
        refine wl_pick_f (.bool false) (want_none rfl) rfl rfl rfl rfl rfl ?_
        refine wl_mv (.bool false) (want_none rfl) rfl rfl (.inl rfl) rfl ?_
        refine wl_skip rfl rfl rfl rfl rfl rfl rfl ?_
        refine wl_skip rfl rfl rfl rfl rfl rfl rfl ?_
        refine wl_skip rfl rfl rfl rfl rfl rfl rfl ?_
        refine wl_skip rfl rfl rfl rfl rfl rfl rfl ?_
        refine wl_skip rfl rfl rfl rfl rfl rfl rfl ?_
        refine wl_pick_f (.bool false) (want_none rfl) rfl rfl rfl rfl rfl ?_
        refine wl_mv (.bool false) (want_none rfl) rfl rfl (.inl rfl) rfl ?_
        refine wl_skip rfl rfl rfl rfl rfl rfl rfl ?_
        refine wl_skip rfl rfl rfl rfl rfl rfl rfl ?_
        refine wl_skip rfl rfl rfl rfl rfl rfl rfl ?_
        refine wl_skip rfl rfl rfl rfl rfl rfl rfl ?_
        refine wl_skip rfl rfl rfl rfl rfl rfl rfl ?_
        refine wl_pick_f (.bool false) (want_none rfl) rfl rfl rfl rfl rfl ?_
        refine wl_mv (.bool false) (want_none rfl) rfl rfl (.inl rfl) rfl ?_
        refine wl_skip rfl rfl rfl rfl rfl rfl rfl ?_
        refine wl_skip rfl rfl rfl rfl rfl rfl rfl ?_
        refine wl_skip rfl rfl rfl rfl rfl rfl rfl ?_
        refine wl_skip rfl rfl rfl rfl rfl rfl rfl ?_
        refine wl_skip rfl rfl rfl rfl rfl rfl rfl ?_
        refine wl_pick_f (.bool false) (want_none rfl) rfl rfl rfl rfl rfl ?_
        refine wl_mv (.bool false) (want_none rfl) rfl rfl (.inr rfl) rfl ?_
        refine wl_nil ?_
        refine wq_then ?_
        refine wc_ret ?_
        refine ret_1 (.inl rfl) (.bool false) rfl rfl ?_
        refine ⟨m52.keep0, ?_⟩
        have hF104 : F_impl_SameNote x_a x_b = false := by simp only [F_impl_SameNote, h54, h56, h58, cond_true, cond_false]
        rw [hF104]
        exact rfl
    · have q105 := of_decide_eq_false h56
      refine wl_skip rfl rfl rfl (congrArg Value.bool h56) rfl rfl rfl ?_
      refine wl_skip rfl rfl rfl (congrArg Value.bool h56) rfl rfl rfl ?_
      refine wl_skip rfl rfl rfl (congrArg Value.bool h56) rfl rfl rfl ?_
      refine wl_skip rfl rfl rfl (congrArg Value.bool h56) rfl rfl rfl ?_
      refine wl_skip rfl rfl rfl (congrArg Value.bool h56) rfl rfl rfl ?_
      refine wl_pick_f (.bool false) (want_none rfl) rfl rfl rfl (congrArg Value.bool h56) rfl ?_
      refine wl_mv (.bool false) (want_none rfl) rfl rfl (.inl rfl) rfl ?_
      refine wl_skip rfl rfl rfl rfl rfl rfl rfl ?_
      refine wl_skip rfl rfl rfl rfl rfl rfl rfl ?_
      refine wl_skip rfl rfl rfl rfl rfl rfl rfl ?_
      refine wl_skip rfl rfl rfl rfl rfl rfl rfl ?_
      refine wl_skip rfl rfl rfl rfl rfl rfl rfl ?_
      refine wl_pick_f (.bool false) (want_none rfl) rfl rfl rfl rfl rfl ?_
      refine wl_mv (.bool false) (want_none rfl) rfl rfl (.inl rfl) rfl ?_
      refine wl_skip rfl rfl rfl rfl rfl rfl rfl ?_
      refine wl_skip rfl rfl rfl rfl rfl rfl rfl ?_
      refine wl_skip rfl rfl rfl rfl rfl rfl rfl ?_
      refine wl_skip rfl rfl rfl rfl rfl rfl rfl ?_
      refine wl_skip rfl rfl rfl rfl rfl rfl rfl ?_
      refine wl_pick_f (.bool false) (want_none rfl) rfl rfl rfl rfl rfl ?_
      refine wl_mv (.bool false) (want_none rfl) rfl rfl (.inl rfl) rfl ?_
      refine wl_skip rfl rfl rfl rfl rfl rfl rfl ?_
      refine wl_skip rfl rfl rfl rfl rfl rfl rfl ?_
      refine wl_skip rfl rfl rfl rfl rfl rfl rfl ?_
      refine wl_skip rfl rfl rfl rfl rfl rfl rfl ?_
      refine wl_skip rfl rfl rfl rfl rfl rfl rfl ?_
      refine wl_pick_f (.bool false) (want_none rfl) rfl rfl rfl rfl rfl ?_
      refine wl_mv (.bool false) (want_none rfl) rfl rfl (.inl rfl) rfl ?_
      refine wl_skip rfl rfl rfl rfl rfl rfl rfl ?_
      refine wl_skip rfl rfl rfl rfl rfl rfl rfl ?_
      refine wl_skip rfl rfl rfl rfl rfl rfl rfl ?_
      refine wl_skip rfl rfl rfl rfl rfl rfl rfl ?_
      refine wl_skip rfl rfl rfl rfl rfl rfl rfl ?_
      refine wl_pick_f (.bool false) (want_none rfl) rfl rfl rfl rfl rfl ?_
      refine wl_mv (.bool false) (want_none rfl) rfl rfl (.inl rfl) rfl ?_
      refine wl_skip rfl rfl rfl rfl rfl rfl rfl ?_
      refine wl_skip rfl rfl rfl rfl rfl rfl rfl ?_
      refine wl_skip rfl rfl rfl rfl rfl rfl rfl ?_
      refine wl_skip rfl rfl rfl rfl rfl rfl rfl ?_
      refine wl_skip rfl rfl rfl rfl rfl rfl rfl ?_
      refine wl_pick_f (.bool false) (want_none rfl) rfl rfl rfl rfl rfl ?_
      refine wl_mv (.bool false) (want_none rfl) rfl rfl (.inl rfl) rfl ?_
      refine wl_skip rfl rfl rfl rfl rfl rfl rfl ?_
      refine wl_skip rfl rfl rfl rfl rfl rfl rfl ?_
      refine wl_skip rfl rfl rfl rfl rfl rfl rfl ?_
      refine wl_skip rfl rfl rfl rfl rfl rfl rfl ?_
      refine wl_skip rfl rfl rfl rfl rfl rfl rfl ?_
      refine wl_pick_f (.bool false) (want_none rfl) rfl rfl rfl rfl rfl ?_
      refine wl_mv (.bool false) (want_none rfl) rfl rfl (.inl rfl) rfl ?_
      refine wl_skip rfl rfl rfl rfl rfl rfl rfl ?_
      refine wl_skip rfl rfl rfl rfl rfl rfl rfl ?_
      refine wl_skip rfl rfl rfl rfl rfl rfl rfl ?_
      refine wl_skip rfl rfl rfl rfl rfl rfl rfl ?_
      refine wl_skip rfl rfl rfl rfl rfl rfl rfl ?_
      refine wl_pick_f (.bool false) (want_none rfl) rfl rfl rfl rfl rfl ?_
      refine wl_mv (.bool false) (want_none rfl) rfl rfl (.inl rfl) rfl ?_
      refine wl_skip rfl rfl rfl rfl rfl rfl rfl ?_
      refine wl_skip rfl rfl rfl rfl rfl rfl rfl ?_
      refine wl_skip rfl rfl rfl rfl rfl rfl rfl ?_
      refine wl_skip rfl rfl rfl rfl rfl rfl rfl ?_
      refine wl_skip rfl rfl rfl rfl rfl rfl rfl ?_
      refine wl_pick_f (.bool false) (want_none rfl) rfl rfl rfl rfl rfl ?_
      refine wl_mv (.bool false) (want_none rfl) rfl rfl (.inr rfl) rfl ?_
      refine wl_nil ?_
      refine wq_then ?_
      refine wc_ret ?_
      refine ret_1 (.inl rfl) (.bool false) rfl rfl ?_
      refine ⟨m52.keep0, ?_⟩
      have hF106 : F_impl_SameNote x_a x_b = false := by simp only [F_impl_SameNote, h54, h56, cond_true, cond_false]
      rw [hF106]
      exact rfl
  · have q107 := of_decide_eq_false h54
    refine wl_skip rfl rfl rfl (congrArg Value.bool h54) rfl rfl rfl ?_
    refine wl_skip rfl rfl rfl (congrArg Value.bool h54) rfl rfl rfl ?_
    refine wl_skip rfl rfl rfl (congrArg Value.bool h54) rfl rfl rfl ?_
    refine wl_skip rfl rfl rfl (congrArg Value.bool h54) rfl rfl rfl ?_
    refine wl_skip rfl rfl rfl (congrArg Value.bool h54) rfl rfl rfl ?_
    refine wl_pick_f (.bool false) (want_none rfl) rfl rfl rfl (congrArg Value.bool h54) rfl ?_
    refine wl_mv (.bool false) (want_none rfl) rfl rfl (.inl rfl) rfl ?_
    refine wl_skip rfl rfl rfl rfl rfl rfl rfl ?_
    refine wl_skip rfl rfl rfl rfl rfl rfl rfl ?_
    refine wl_skip rfl rfl rfl rfl rfl rfl rfl ?_
    refine wl_skip rfl rfl rfl rfl rfl rfl rfl ?_
    refine wl_skip rfl rfl rfl rfl rfl rfl rfl ?_
    refine wl_pick_f (.bool false) (want_none rfl) rfl rfl rfl rfl rfl ?_
    refine wl_mv (.bool false) (want_none rfl) rfl rfl (.inl rfl) rfl ?_
    refine wl_skip rfl rfl rfl rfl rfl rfl rfl ?_
    refine wl_skip rfl rfl rfl rfl rfl rfl rfl ?_
    refine wl_skip rfl rfl rfl rfl rfl rfl rfl ?_
    refine wl_skip rfl rfl rfl rfl rfl rfl rfl ?_
    refine wl_skip rfl rfl rfl rfl rfl rfl rfl ?_
    refine wl_pick_f (.bool false) (want_none rfl) rfl rfl rfl rfl rfl ?_
    refine wl_mv (.bool false) (want_none rfl) rfl rfl (.inl rfl) rfl ?_
    refine wl_skip rfl rfl rfl rfl rfl rfl rfl ?_
    refine wl_skip rfl rfl rfl rfl rfl rfl rfl ?_
    refine wl_skip rfl rfl rfl rfl rfl rfl rfl ?_
    refine wl_skip rfl rfl rfl rfl rfl rfl rfl ?_
    refine wl_skip rfl rfl rfl rfl rfl rfl rfl ?_
    refine wl_pick_f (.bool false) (want_none rfl) rfl rfl rfl rfl rfl ?_
    refine wl_mv (.bool false) (want_none rfl) rfl rfl (.inl rfl) rfl ?_
    refine wl_skip rfl rfl rfl rfl rfl rfl rfl ?_
    refine wl_skip rfl rfl rfl rfl rfl rfl rfl ?_
    refine wl_skip rfl rfl rfl rfl rfl rfl rfl ?_
    refine wl_skip rfl rfl rfl rfl rfl rfl rfl ?_
    refine wl_skip rfl rfl rfl rfl rfl rfl rfl ?_
    refine wl_pick_f (.bool false) (want_none rfl) rfl rfl rfl rfl rfl ?_
    refine wl_mv (.bool false) (want_none rfl) rfl rfl (.inl rfl) rfl ?_
    refine wl_skip rfl rfl rfl rfl rfl rfl rfl ?_
    refine wl_skip rfl rfl rfl rfl rfl rfl rfl ?_
    refine wl_skip rfl rfl rfl rfl rfl rfl rfl ?_
    refine wl_skip rfl rfl rfl rfl rfl rfl rfl ?_
    refine wl_skip rfl rfl rfl rfl rfl rfl rfl ?_
    refine wl_pick_f (.bool false) (want_none rfl) rfl rfl rfl rfl rfl ?_
    refine wl_mv (.bool false) (want_none rfl) rfl rfl (.inl rfl) rfl ?_
    refine wl_skip rfl rfl rfl rfl rfl rfl rfl ?_
    refine wl_skip rfl rfl rfl rfl rfl rfl rfl ?_
    refine wl_skip rfl rfl rfl rfl rfl rfl rfl ?_
    refine wl_skip rfl rfl rfl rfl rfl rfl rfl ?_
    refine wl_skip rfl rfl rfl rfl rfl rfl rfl ?_
    refine wl_pick_f (.bool false) (want_none rfl) rfl rfl rfl rfl rfl ?_
    refine wl_mv (.bool false) (want_none rfl) rfl rfl (.inl rfl) rfl ?_
    refine wl_skip rfl rfl rfl rfl rfl rfl rfl ?_
    refine wl_skip rfl rfl rfl rfl rfl rfl rfl ?_
    refine wl_skip rfl rfl rfl rfl rfl rfl rfl ?_
    refine wl_skip rfl rfl rfl rfl rfl rfl rfl ?_
    refine wl_skip rfl rfl rfl rfl rfl rfl rfl ?_
    refine wl_pick_f (.bool false) (want_none rfl) rfl rfl rfl rfl rfl ?_
    refine wl_mv (.bool false) (want_none rfl) rfl rfl (.inl rfl) rfl ?_
    refine wl_skip rfl rfl rfl rfl rfl rfl rfl ?_
    refine wl_skip rfl rfl rfl rfl rfl rfl rfl ?_
    refine wl_skip rfl rfl rfl rfl rfl rfl rfl ?_
    refine wl_skip rfl rfl rfl rfl rfl rfl rfl ?_
    refine wl_skip rfl rfl rfl rfl rfl rfl rfl ?_
    refine wl_pick_f (.bool false) (want_none rfl) rfl rfl rfl rfl rfl ?_
    refine wl_mv (.bool false) (want_none rfl) rfl rfl (.inl rfl) rfl ?_
    refine wl_skip rfl rfl rfl rfl rfl rfl rfl ?_
    refine wl_skip rfl rfl rfl rfl rfl rfl rfl ?_
    refine wl_skip rfl rfl rfl rfl rfl rfl rfl ?_
    refine wl_skip rfl rfl rfl rfl rfl rfl rfl ?_
    refine wl_skip rfl rfl rfl rfl rfl rfl rfl ?_
    refine wl_pick_f (.bool false) (want_none rfl) rfl rfl rfl rfl rfl ?_
    refine wl_mv (.bool false) (want_none rfl) rfl rfl (.inr rfl) rfl ?_
    refine wl_nil ?_
    refine wq_then ?_
    refine wc_ret ?_
    refine ret_1 (.inl rfl) (.bool false) rfl rfl ?_
    refine ⟨m52.keep0, ?_⟩
    have hF108 : F_impl_SameNote x_a x_b = false := by simp only [F_impl_SameNote, h54, cond_true, cond_false]
    rw [hF108]
    exact rfl

theorem mixed : Try.prog.follows .mixedOrders = true := by kernel_rfl
theorem C_laws_eqByteS (w0 : World) (v_x_a : Value) (x_a : List UInt8) (r_x_a : R_22 w0 v_x_a x_a) (v_x_b : Value) (x_b : List UInt8) (r_x_b : R_22 w0 v_x_b x_b)  : Fn Try.prog 19 #[v_x_a, v_x_b] w0 (fun v w' => Keep w0 w' ∧ O_4 w' w0.heap.size v (eqB x_a x_b)) := by
  obtain ⟨a1, c2, rfl, r3, s4⟩ := r_x_a
  obtain ⟨a6, c7, rfl, r8, s9⟩ := r_x_b
  refine fn_of (n := 26) (l := [(.slice a1 x_a.length c2), (.slice a6 x_b.length c7), undef, undef, undef, undef, undef, undef, undef, undef, undef, undef, undef, undef, undef, undef, undef, undef, undef, undef, undef, undef, undef, undef, undef, undef]) Try.func19 rfl rfl (by kernel_rfl) rfl ?_
  refine wc_seq ?_
  refine wc_region ?_
  refine wl_mv (.bool false) (want_none rfl) rfl rfl (.inr rfl) rfl ?_
  refine wl_nil ?_
  refine wq_then ?_
  refine wc_seq ?_
  refine wc_seq ?_
  refine wc_region ?_
  refine wl_mv (.slice a1 x_a.length c2) (want_none rfl) rfl rfl (.inl rfl) rfl ?_
  refine wl_len (want_none rfl) rfl rfl rfl slTy_22 rfl r3 ?_
  refine wl_mv (.slice a6 x_b.length c7) (want_none rfl) rfl rfl (.inl rfl) rfl ?_
  refine wl_len (want_none rfl) rfl rfl rfl slTy_22 rfl r8 ?_
  refine wl_pure (.bool (!(decide ((x_a.length : Int) = (x_b.length : Int))))) (want_none rfl) rfl rfl (by kernel_rfl) ?_
  refine wl_nil ?_
  refine wq_then ?_
  rcases Bool.eq_false_or_eq_true (decide ((x_a.length : Int) = (x_b.length : Int))) with h11 | h11
  · have q12 := of_decide_eq_true h11
    refine wc_false (congrArg (fun b => Value.bool (!b)) h11) ?_
    refine wc_skip ?_
    refine wq_then ?_
    refine wc_seq ?_
    refine wc_seq ?_
    refine wc_region ?_
    refine wl_mv (.int .i64 0) (want_none rfl) rfl rfl (.inr rfl) rfl ?_
    refine wl_nil ?_
    refine wq_then ?_
    refine wc_block ?_
    refine wc_norm [(.slice a1 x_a.length c2), (.slice a6 x_b.length c7), undef, undef, (.bool false), (.int .i64 0), (.slice a1 x_a.length c2), (.int .i64 (x_a.length : Int)), (.slice a6 x_b.length c7), (.int .i64 (x_b.length : Int)), (.bool (!(decide ((x_a.length : Int) = (x_b.length : Int))))), undef, undef, undef, undef, undef, undef, undef, undef, undef, undef, undef, undef, undef, undef, undef] rfl ⟨rfl, rfl, rfl, rfl, rfl, rfl, rfl, rfl, rfl, rfl, rfl, rfl, rfl, rfl, rfl, rfl, rfl, rfl, rfl, rfl, rfl, rfl, rfl, rfl, rfl, rfl, trivial⟩ ?_
    refine wc_loop (fun e' w' => ∃ (k : Nat) (u4x u11x u12x u13x u14x u15x u16x u17x u18x u19x u20x u21x u22x u23x u24x u25x : Value), e' = lst [(.slice a1 x_a.length c2), (.slice a6 x_b.length c7), undef, undef, u4x, (.int .i64 ((k : Nat) : Int)), (.slice a1 x_a.length c2), (.int .i64 (x_a.length : Int)), (.slice a6 x_b.length c7), (.int .i64 (x_b.length : Int)), (.bool (!(decide ((x_a.length : Int) = (x_b.length : Int))))), u11x, u12x, u13x, u14x, u15x, u16x, u17x, u18x, u19x, u20x, u21x, u22x, u23x, u24x, u25x] ∧ Ch (fun k => w0.heap.size ≤ k) w0 w' ∧ Ch (fun k => w0.heap.size ≤ k) w0 w' ∧ k ≤ x_a.length ∧ x_a.take k = x_b.take k) (fun e' _ => x_a.length - ((intOf (e' 5))).toNat) ?_ ?_
    · exact ⟨0, (.bool false), undef, undef, undef, undef, undef, undef, undef, undef, undef, undef, undef, undef, undef, undef, undef, (congrArg (fun (x5z : Value) => lst [(.slice a1 x_a.length c2), (.slice a6 x_b.length c7), undef, undef, (.bool false), x5z, (.slice a1 x_a.length c2), (.int .i64 (x_a.length : Int)), (.slice a6 x_b.length c7), (.int .i64 (x_b.length : Int)), (.bool (!(decide ((x_a.length : Int) = (x_b.length : Int))))), undef, undef, undef, undef, undef, undef, undef, undef, undef, undef, undef, undef, undef, undef, undef]) (congrArg (Value.int .i64) (show (0 : Int) = ((0 : Nat) : Int) by omega))), (Ch.base w0), (Ch.refl (fun k => w0.heap.size ≤ k) w0), (by omega), (by first | rfl | exact eqB_next (by assumption) (by omega) (by omega) (by assumption))⟩
    · rintro _ w1 ⟨k, u4x, u11x, u12x, u13x, u14x, u15x, u16x, u17x, u18x, u19x, u20x, u21x, u22x, u23x, u24x, u25x, rfl, m13, k14, i15, i16⟩
      refine wc_seq ?_
      refine wc_seq ?_
      refine wc_region ?_
      refine wl_mv (.int .i64 ((k : Nat) : Int)) (want_none rfl) rfl rfl (.inl rfl) rfl ?_
      refine wl_mv (.slice a1 x_a.length c2) (want_none rfl) rfl rfl (.inl rfl) rfl ?_
      refine wl_len (want_none rfl) rfl rfl rfl slTy_22 rfl (r3.from0 m13) ?_
      refine wl_pure (.bool (decide (((k : Nat) : Int) < (x_a.length : Int)))) (want_none rfl) rfl rfl (by kernel_rfl) ?_
      refine wl_nil ?_
      refine wq_then ?_
      rcases Bool.eq_false_or_eq_true (decide (((k : Nat) : Int) < (x_a.length : Int))) with h17 | h17
      · have q18 := of_decide_eq_true h17
        refine wc_true (congrArg Value.bool h17) ?_
        refine wc_skip ?_
        refine wq_then ?_
        refine wc_seq ?_
        refine wc_block ?_
        refine wc_seq ?_
        refine wc_draw ([(17, [], [], (fun _ v _ => v = (.slice a1 x_a.length c2))), (18, [], [], (fun _ v _ => v = (.int .i64 ((k : Nat) : Int)))), (19, [], [0, 1], (fun _ v _ => v = (.pointer (some (elA (.slice a1 x_a.length c2) ((((k : Nat) : Int)).toNat * 1)))))), (20, [], [0, 1, 2], (fun _ v _ => v = (.int .u8 ((x_a.getD k 0).toNat : Int)))), (21, [], [], (fun _ v _ => v = (.slice a6 x_b.length c7))), (22, [], [], (fun _ v _ => v = (.int .i64 ((k : Nat) : Int)))), (23, [], [4, 5], (fun _ v _ => v = (.pointer (some (elA (.slice a6 x_b.length c7) ((((k : Nat) : Int)).toNat * 1)))))), (24, [], [4, 5, 6], (fun _ v _ => v = (.int .u8 ((x_b.getD k 0).toNat : Int)))), (25, [], [0, 1, 2, 3, 4, 5, 6, 7], (fun _ v _ => v = (.bool (!(decide (((x_a.getD k 0).toNat : Int) = ((x_b.getD k 0).toNat : Int)))))))] : GV) mixed rfl (by kernel_rfl) (by kernel_rfl) ?_ ?_ ?_
        · exact ⟨(fun _ _ _ _ h _ => h), (fun _ _ _ _ _ h => h), ⟨(fun _ _ _ _ h _ => h), (fun _ _ _ _ _ h => h), ⟨(fun _ _ _ _ h _ => h), (fun _ _ _ _ _ h => h), ⟨(fun _ _ _ _ h _ => h), (fun _ _ _ _ _ h => h), ⟨(fun _ _ _ _ h _ => h), (fun _ _ _ _ _ h => h), ⟨(fun _ _ _ _ h _ => h), (fun _ _ _ _ _ h => h), ⟨(fun _ _ _ _ h _ => h), (fun _ _ _ _ _ h => h), ⟨(fun _ _ _ _ h _ => h), (fun _ _ _ _ _ h => h), ⟨(fun _ _ _ _ h _ => h), (fun _ _ _ _ _ h => h), trivial⟩⟩⟩⟩⟩⟩⟩⟩⟩
        · refine ⟨?_, ⟨?_, ⟨?_, ⟨?_, ⟨?_, ⟨?_, ⟨?_, ⟨?_, ⟨?_, trivial⟩⟩⟩⟩⟩⟩⟩⟩⟩
          · intro w2 k19
            have m20 := m13.extk k19
            intro u21
            intro u22
            intro u23
            intro u24
            intro u25
            intro u26
            intro u27
            intro u28
            intro u29
            show WL _ _ _ _ _ _ _
            refine wl_mv (.slice a1 x_a.length c2) (want_none rfl) rfl rfl (.inl rfl) rfl ?_
            exact wl_fin (Ch.refl _ _) rfl
          · intro w2 k30
            have m31 := m13.extk k30
            intro u32
            intro u33
            intro u34
            intro u35
            intro u36
            intro u37
            intro u38
            intro u39
            intro u40
            show WL _ _ _ _ _ _ _
            refine wl_mv (.int .i64 ((k : Nat) : Int)) (want_none rfl) rfl rfl (.inl rfl) rfl ?_
            exact wl_fin (Ch.refl _ _) rfl
          · intro w2 k41
            have m42 := m13.extk k41
            rintro _ rfl
            rintro _ rfl
            intro u43
            intro u44
            intro u45
            intro u46
            intro u47
            intro u48
            intro u49
            show WL _ _ _ _ _ _ _
            refine wl_index (want_none rfl) ((k : Nat) : Int) rfl rfl rfl slTy_22 rfl rfl (r3.from0 m42) (by first | omega | (simp only [List.length_cons, List.length_nil, List.length_replicate, List.length_append, List.length_take, List.length_set, List.length_map]; omega)) (by first | omega | (simp only [List.length_cons, List.length_nil, List.length_replicate, List.length_append, List.length_take, List.length_set, List.length_map]; omega)) ?_
            exact wl_fin (Ch.refl _ _) rfl
          · intro w2 k50
            have m51 := m13.extk k50
            rintro _ rfl
            rintro _ rfl
            rintro _ rfl
            intro u52
            intro u53
            intro u54
            intro u55
            intro u56
            intro u57
            show WL _ _ _ _ _ _ _
            refine wl_loadE (bV (x_a.getD k 0)) (want_none rfl) rfl rfl rfl rfl isAgg_5 (r3.from0 m51) (bget (by simp) (by first | omega | (simp only [List.length_cons, List.length_nil, List.length_replicate, List.length_append, List.length_take, List.length_set, List.length_map]; omega))) ?_
            exact wl_fin (Ch.refl _ _) rfl
          · intro w2 k58
            have m59 := m13.extk k58
            intro u60
            intro u61
            intro u62
            intro u63
            intro u64
            intro u65
            intro u66
            intro u67
            intro u68
            show WL _ _ _ _ _ _ _
            refine wl_mv (.slice a6 x_b.length c7) (want_none rfl) rfl rfl (.inl rfl) rfl ?_
            exact wl_fin (Ch.refl _ _) rfl
          · intro w2 k69
            have m70 := m13.extk k69
            intro u71
            intro u72
            intro u73
            intro u74
            intro u75
            intro u76
            intro u77
            intro u78
            intro u79
            show WL _ _ _ _ _ _ _
            refine wl_mv (.int .i64 ((k : Nat) : Int)) (want_none rfl) rfl rfl (.inl rfl) rfl ?_
            exact wl_fin (Ch.refl _ _) rfl
          · intro w2 k80
            have m81 := m13.extk k80
            intro u82
            intro u83
            intro u84
            intro u85
            rintro _ rfl
            rintro _ rfl
            intro u86
            intro u87
            intro u88
            show WL _ _ _ _ _ _ _
            refine wl_index (want_none rfl) ((k : Nat) : Int) rfl rfl rfl slTy_22 rfl rfl (r8.from0 m81) (by first | omega | (simp only [List.length_cons, List.length_nil, List.length_replicate, List.length_append, List.length_take, List.length_set, List.length_map]; omega)) (by first | omega | (simp only [List.length_cons, List.length_nil, List.length_replicate, List.length_append, List.length_take, List.length_set, List.length_map]; omega)) ?_
            exact wl_fin (Ch.refl _ _) rfl
          · intro w2 k89
            have m90 := m13.extk k89
            intro u91
            intro u92
            intro u93
            intro u94
            rintro _ rfl
            rintro _ rfl
            rintro _ rfl
            intro u95
            intro u96
            show WL _ _ _ _ _ _ _
            refine wl_loadE (bV (x_b.getD k 0)) (want_none rfl) rfl rfl rfl rfl isAgg_5 (r8.from0 m90) (bget (by simp) (by first | omega | (simp only [List.length_cons, List.length_nil, List.length_replicate, List.length_append, List.length_take, List.length_set, List.length_map]; omega))) ?_
            exact wl_fin (Ch.refl _ _) rfl
          · intro w2 k97
            have m98 := m13.extk k97
            rintro _ rfl
            rintro _ rfl
            rintro _ rfl
            rintro _ rfl
            rintro _ rfl
            rintro _ rfl
            rintro _ rfl
            rintro _ rfl
            intro u99
            show WL _ _ _ _ _ _ _
            refine wl_pure (.bool (!(decide (((x_a.getD k 0).toNat : Int) = ((x_b.getD k 0).toNat : Int))))) (want_none rfl) rfl rfl (by kernel_rfl) ?_
            exact wl_fin (Ch.refl _ _) rfl
        · intro w2 k100
          have m101 := m13.extk k100
          rintro _ rfl
          rintro _ rfl
          rintro _ rfl
          rintro _ rfl
          rintro _ rfl
          rintro _ rfl
          rintro _ rfl
          rintro _ rfl
          rintro _ rfl
          show WL _ _ _ _ _ _ _
          refine wl_nil ?_
          refine wq_then ?_
          rcases Bool.eq_false_or_eq_true (decide (((x_a.getD k 0).toNat : Int) = ((x_b.getD k 0).toNat : Int))) with h102 | h102
          · have q103 := of_decide_eq_true h102
            refine wc_false (congrArg (fun b => Value.bool (!b)) h102) ?_
            refine wc_skip ?_
            refine wq_blk_normal ?_
            refine wq_then ?_
            refine wc_region ?_
            refine wl_mv (.int .i64 ((k : Nat) : Int)) (want_none rfl) rfl rfl (.inl rfl) rfl ?_
            refine wl_arith (((k : Nat) : Int) + 1) (want_none rfl) rfl rfl (by kernel_rfl) (by omega) (by omega) ?_
            refine wl_mv (.int .i64 (((k : Nat) : Int) + 1)) (want_none rfl) rfl rfl (.inr rfl) rfl ?_
            refine wl_nil ?_
            exact wq_loopN (w0 := w1) [(.slice a1 x_a.length c2), (.slice a6 x_b.length c7), undef, undef, u4x, (.int .i64 (((k + 1) : Nat) : Int)), (.slice a1 x_a.length c2), (.int .i64 (x_a.length : Int)), (.slice a6 x_b.length c7), (.int .i64 (x_b.length : Int)), (.bool (!(decide ((x_a.length : Int) = (x_b.length : Int))))), (.int .i64 ((k : Nat) : Int)), (.slice a1 x_a.length c2), (.int .i64 (x_a.length : Int)), (.bool (decide (((k : Nat) : Int) < (x_a.length : Int)))), (.int .i64 ((k : Nat) : Int)), (.int .i64 (((k : Nat) : Int) + 1)), (.slice a1 x_a.length c2), (.int .i64 ((k : Nat) : Int)), (.pointer (some (elA (.slice a1 x_a.length c2) ((((k : Nat) : Int)).toNat * 1)))), (.int .u8 ((x_a.getD k 0).toNat : Int)), (.slice a6 x_b.length c7), (.int .i64 ((k : Nat) : Int)), (.pointer (some (elA (.slice a6 x_b.length c7) ((((k : Nat) : Int)).toNat * 1)))), (.int .u8 ((x_b.getD k 0).toNat : Int)), (.bool (!(decide (((x_a.getD k 0).toNat : Int) = ((x_b.getD k 0).toNat : Int)))))] rfl ⟨rfl, rfl, rfl, rfl, rfl, (congrArg (Value.int .i64) (show ((((k : Nat) : Int) + 1) : Int) = (((k + 1) : Nat) : Int) by omega)), rfl, rfl, rfl, rfl, rfl, rfl, rfl, rfl, rfl, rfl, rfl, rfl, rfl, rfl, rfl, rfl, rfl, rfl, rfl, rfl, trivial⟩ ⟨(k + 1), u4x, (.int .i64 ((k : Nat) : Int)), (.slice a1 x_a.length c2), (.int .i64 (x_a.length : Int)), (.bool (decide (((k : Nat) : Int) < (x_a.length : Int)))), (.int .i64 ((k : Nat) : Int)), (.int .i64 (((k : Nat) : Int) + 1)), (.slice a1 x_a.length c2), (.int .i64 ((k : Nat) : Int)), (.pointer (some (elA (.slice a1 x_a.length c2) ((((k : Nat) : Int)).toNat * 1)))), (.int .u8 ((x_a.getD k 0).toNat : Int)), (.slice a6 x_b.length c7), (.int .i64 ((k : Nat) : Int)), (.pointer (some (elA (.slice a6 x_b.length c7) ((((k : Nat) : Int)).toNat * 1)))), (.int .u8 ((x_b.getD k 0).toNat : Int)), (.bool (!(decide (((x_a.getD k 0).toNat : Int) = ((x_b.getD k 0).toNat : Int))))), rfl, m101, (((Ch.refl (fun k => w0.heap.size ≤ k) w0).ext k14 (fun k hk => Nat.le_trans (Nat.le_refl _) hk)).extk k100), (by omega), (by first | rfl | exact eqB_next (by assumption) (by omega) (by omega) (by assumption))⟩ (by show x_a.length - ((((k + 1) : Nat) : Int)).toNat < x_a.length - (((k : Nat) : Int)).toNat; omega)
          · have q104 := of_decide_eq_false h102
            refine wc_true (congrArg (fun b => Value.bool (!b)) h102) ?_
            refine wc_seq ?_
            refine wc_region ?_
            refine wl_mv (.bool false) (want_none rfl) rfl rfl (.inr rfl) rfl ?_
            refine wl_nil ?_
            refine wq_then ?_
            refine wc_ret ?_
            refine wq_blk_ret ?_
            refine wq_then_ret ?_
            refine wq_then_ret ?_
            refine wq_blk_ret ?_
            refine wq_then_ret ?_
            refine ret_1 (.inl rfl) (.bool false) rfl rfl ?_
            refine ⟨m101.keep0, ?_⟩
            have hF105 : eqB x_a x_b = false := by first | exact eqB_len (by assumption) | exact eqB_el (by assumption) | exact eqB_all (by assumption) (by omega) (by omega)
            rw [hF105]
            exact rfl
      · have q106 := of_decide_eq_false h17
        refine wc_false (congrArg Value.bool h17) ?_
        refine wc_exit ?_
        refine wq_then_exit ?_
        refine wq_then_exit ?_
        refine wq_blk_exit ?_
        refine wq_then ?_
        refine wc_seq ?_
        refine wc_region ?_
        refine wl_mv (.bool true) (want_none rfl) rfl rfl (.inr rfl) rfl ?_
        refine wl_nil ?_
        refine wq_then ?_
        refine wc_ret ?_
        refine ret_1 (.inl rfl) (.bool true) rfl rfl ?_
        refine ⟨m13.keep0, ?_⟩
        have hF107 : eqB x_a x_b = true := by first | exact eqB_len (by assumption) | exact eqB_el (by assumption) | exact eqB_all (by assumption) (by omega) (by omega)
        rw [hF107]
        exact rfl
  · have q108 := of_decide_eq_false h11
    refine wc_true (congrArg (fun b => Value.bool (!b)) h11) ?_
    refine wc_seq ?_
    refine wc_region ?_
    refine wl_mv (.bool false) (want_none rfl) rfl rfl (.inr rfl) rfl ?_
    refine wl_nil ?_
    refine wq_then ?_
    refine wc_ret ?_
    refine wq_then_ret ?_
    refine ret_1 (.inl rfl) (.bool false) rfl rfl ?_
    refine ⟨Ch.refl _ _, ?_⟩
    have hF109 : eqB x_a x_b = false := by first | exact eqB_len (by assumption) | exact eqB_el (by assumption) | exact eqB_all (by assumption) (by omega) (by omega)
    rw [hF109]
    exact rfl

def R_61 (w : World) (v : Value) (x : (PAddr)) : Prop := v = .agg #[.int .i64 x.Host, .int .i64 x.Port]
def F_laws_eqAddr (x_a : PAddr) (x_b : PAddr) : (Bool) := bif (decide (x_a.Host = x_b.Host)) then (bif (decide (x_a.Port = x_b.Port)) then (true) else (false)) else (false)
theorem C_laws_eqAddr (w0 : World) (v_x_a : Value) (x_a : PAddr) (r_x_a : R_61 w0 v_x_a x_a) (v_x_b : Value) (x_b : PAddr) (r_x_b : R_61 w0 v_x_b x_b)  : Fn Try.prog 86 #[v_x_a, v_x_b] w0 (fun v w' => Keep w0 w' ∧ O_4 w' w0.heap.size v (F_laws_eqAddr x_a x_b)) := by
  obtain rfl := r_x_a
  obtain rfl := r_x_b
  refine fn_of (n := 15) (l := [(.agg #[(.int .i64 x_a.Host), (.int .i64 x_a.Port)]), (.agg #[(.int .i64 x_b.Host), (.int .i64 x_b.Port)]), undef, undef, undef, undef, undef, undef, undef, undef, undef, undef, undef, undef, undef]) Try.func86 rfl rfl (by kernel_rfl) rfl ?_
  refine wc_seq ?_
  refine wc_region ?_
  refine wl_box (want_none rfl) [(.int .i64 x_a.Host), (.int .i64 x_a.Port)] rfl rfl rfl rfl ?_
  intro g1 w1 p2 p3 k4 b5
  have m6 := (Ch.base w0).extk k4
  refine wl_box (want_none rfl) [(.int .i64 x_b.Host), (.int .i64 x_b.Port)] rfl rfl rfl rfl ?_
  intro g7 w2 p8 p9 k10 b11
  have m12 := m6.extk k10
  refine wl_mv (.bool false) (want_none rfl) rfl rfl (.inr rfl) rfl ?_
  refine wl_nil ?_
  refine wq_then ?_
  refine wc_seq ?_
  refine wc_seq ?_
  refine wc_region ?_
  refine wl_pure (.pointer (some ⟨g1, 0, none⟩)) (want_none rfl) rfl rfl (by kernel_rfl) ?_
  have b13 := (b5.kp k10)
  refine wl_load1 (.int .i64 x_a.Host) (want_none rfl) rfl rfl rfl rfl isAgg_3 b13 rfl ?_
  refine wl_pure (.pointer (some ⟨g7, 0, none⟩)) (want_none rfl) rfl rfl (by kernel_rfl) ?_
  refine wl_load1 (.int .i64 x_b.Host) (want_none rfl) rfl rfl rfl rfl isAgg_3 b11 rfl ?_
  refine wl_pure (.bool (!(decide (x_a.Host = x_b.Host)))) (want_none rfl) rfl rfl (by kernel_rfl) ?_
  refine wl_nil ?_
  refine wq_then ?_
  rcases Bool.eq_false_or_eq_true (decide (x_a.Host = x_b.Host)) with h14 | h14
  · have q15 := of_decide_eq_true h14
    refine wc_false (congrArg (fun b => Value.bool (!b)) h14) ?_
    refine wc_skip ?_
    refine wq_then ?_
    refine wc_seq ?_
    refine wc_seq ?_
    refine wc_region ?_
    refine wl_pure (.pointer (some ⟨g1, 1, none⟩)) (want_none rfl) rfl rfl (by kernel_rfl) ?_
    refine wl_load1 (.int .i64 x_a.Port) (want_none rfl) rfl rfl rfl rfl isAgg_3 b13 rfl ?_
    refine wl_pure (.pointer (some ⟨g7, 1, none⟩)) (want_none rfl) rfl rfl (by kernel_rfl) ?_
    refine wl_load1 (.int .i64 x_b.Port) (want_none rfl) rfl rfl rfl rfl isAgg_3 b11 rfl ?_
    refine wl_pure (.bool (!(decide (x_a.Port = x_b.Port)))) (want_none rfl) rfl rfl (by kernel_rfl) ?_
    refine wl_nil ?_
    refine wq_then ?_
    rcases Bool.eq_false_or_eq_true (decide (x_a.Port = x_b.Port)) with h16 | h16
    · have q17 := of_decide_eq_true h16
      refine wc_false (congrArg (fun b => Value.bool (!b)) h16) ?_
      refine wc_skip ?_
      refine wq_then ?_
      refine wc_seq ?_
      refine wc_region ?_
      refine wl_mv (.bool true) (want_none rfl) rfl rfl (.inr rfl) rfl ?_
      refine wl_nil ?_
      refine wq_then ?_
      refine wc_ret ?_
      refine ret_1 (.inl rfl) (.bool true) rfl rfl ?_
      refine ⟨m12.keep0, ?_⟩
      have hF18 : F_laws_eqAddr x_a x_b = true := by simp only [F_laws_eqAddr, h14, h16, cond_true, cond_false]
      rw [hF18]
      exact rfl
    · have q19 := of_decide_eq_false h16
      refine wc_true (congrArg (fun b => Value.bool (!b)) h16) ?_
      refine wc_seq ?_
      refine wc_region ?_
      refine wl_mv (.bool false) (want_none rfl) rfl rfl (.inr rfl) rfl ?_
      refine wl_nil ?_
      refine wq_then ?_
      refine wc_ret ?_
      refine wq_then_ret ?_
      refine ret_1 (.inl rfl) (.bool false) rfl rfl ?_
      refine ⟨m12.keep0, ?_⟩
      have hF20 : F_laws_eqAddr x_a x_b = false := by simp only [F_laws_eqAddr, h14, h16, cond_true, cond_false]
      rw [hF20]
      exact rfl
  · have q21 := of_decide_eq_false h14
    refine wc_true (congrArg (fun b => Value.bool (!b)) h14) ?_
    refine wc_seq ?_
    refine wc_region ?_
    refine wl_mv (.bool false) (want_none rfl) rfl rfl (.inr rfl) rfl ?_
    refine wl_nil ?_
    refine wq_then ?_
    refine wc_ret ?_
    refine wq_then_ret ?_
    refine ret_1 (.inl rfl) (.bool false) rfl rfl ?_
    refine ⟨m12.keep0, ?_⟩
    have hF22 : F_laws_eqAddr x_a x_b = false := by simp only [F_laws_eqAddr, h14, cond_true, cond_false]
    rw [hF22]
    exact rfl

def F_laws_eqNote (x_a : PNote) (x_b : PNote) : (Bool) := bif (decide (x_a.Kind = x_b.Kind)) then (bif (decide (x_a.Id = x_b.Id)) then (bif (decide (x_a.Role = x_b.Role)) then (bif (eqB x_a.Cn x_b.Cn) then (bif (eqB x_a.Sn x_b.Sn) then (bif (decide (x_a.Epoch = x_b.Epoch)) then (bif (decide (x_a.Seq = x_b.Seq)) then (bif (eqB x_a.Body x_b.Body) then (bif (eqB x_a.Key x_b.Key) then (bif (F_laws_eqAddr x_a.A x_b.A) then (bif (decide (x_a.Now = x_b.Now)) then (true) else (false)) else (false)) else (false)) else (false)) else (false)) else (false)) else (false)) else (false)) else (false)) else (false)) else (false)
theorem C_laws_eqNote (w0 : World) (v_x_a : Value) (x_a : PNote) (r_x_a : R_63 w0 v_x_a x_a) (v_x_b : Value) (x_b : PNote) (r_x_b : R_63 w0 v_x_b x_b)  : Fn Try.prog 43 #[v_x_a, v_x_b] w0 (fun v w' => Keep w0 w' ∧ O_4 w' w0.heap.size v (F_laws_eqNote x_a x_b)) := by
  obtain ⟨a1, c2, a6, c7, a11, c12, a16, c17, rfl, r3, s4, r8, s9, r13, s14, r18, s19⟩ := r_x_a
  obtain ⟨a21, c22, a26, c27, a31, c32, a36, c37, rfl, r23, s24, r28, s29, r33, s34, r38, s39⟩ := r_x_b
  refine fn_of (n := 65) (l := [(.agg #[(.int .i64 x_a.Kind), (.int .i64 x_a.Id), (.int .i64 x_a.Role), (.slice a1 x_a.Cn.length c2), (.slice a6 x_a.Sn.length c7), (.int .i64 x_a.Epoch), (.int .i64 x_a.Seq), (.slice a11 x_a.Body.length c12), (.slice a16 x_a.Key.length c17), (.int .i64 x_a.A.Host), (.int .i64 x_a.A.Port), (.int .i64 x_a.Now)]), (.agg #[(.int .i64 x_b.Kind), (.int .i64 x_b.Id), (.int .i64 x_b.Role), (.slice a21 x_b.Cn.length c22), (.slice a26 x_b.Sn.length c27), (.int .i64 x_b.Epoch), (.int .i64 x_b.Seq), (.slice a31 x_b.Body.length c32), (.slice a36 x_b.Key.length c37), (.int .i64 x_b.A.Host), (.int .i64 x_b.A.Port), (.int .i64 x_b.Now)]), undef, undef, undef, undef, undef, undef, undef, undef, undef, undef, undef, undef, undef, undef, undef, undef, undef, undef, undef, undef, undef, undef, undef, undef, undef, undef, undef, undef, undef, undef, undef, undef, undef, undef, undef, undef, undef, undef, undef, undef, undef, undef, undef, undef, undef, undef, undef, undef, undef, undef, undef, undef, undef, undef, undef, undef, undef, undef, undef, undef, undef, undef, undef]) Try.func43 rfl rfl (by kernel_rfl) rfl ?_
  refine wc_seq ?_
  refine wc_region ?_
  refine wl_box (want_none rfl) [(.int .i64 x_a.Kind), (.int .i64 x_a.Id), (.int .i64 x_a.Role), (.slice a1 x_a.Cn.length c2), (.slice a6 x_a.Sn.length c7), (.int .i64 x_a.Epoch), (.int .i64 x_a.Seq), (.slice a11 x_a.Body.length c12), (.slice a16 x_a.Key.length c17), (.int .i64 x_a.A.Host), (.int .i64 x_a.A.Port), (.int .i64 x_a.Now)] rfl rfl rfl rfl ?_
  intro g41 w1 p42 p43 k44 b45
  have m46 := (Ch.base w0).extk k44
  refine wl_box (want_none rfl) [(.int .i64 x_b.Kind), (.int .i64 x_b.Id), (.int .i64 x_b.Role), (.slice a21 x_b.Cn.length c22), (.slice a26 x_b.Sn.length c27), (.int .i64 x_b.Epoch), (.int .i64 x_b.Seq), (.slice a31 x_b.Body.length c32), (.slice a36 x_b.Key.length c37), (.int .i64 x_b.A.Host), (.int .i64 x_b.A.Port), (.int .i64 x_b.Now)] rfl rfl rfl rfl ?_
  intro g47 w2 p48 p49 k50 b51
  have m52 := m46.extk k50
  refine wl_mv (.bool false) (want_none rfl) rfl rfl (.inr rfl) rfl ?_
  refine wl_nil ?_
  refine wq_then ?_
  refine wc_seq ?_
  refine wc_seq ?_
  refine wc_region ?_
  refine wl_pure (.pointer (some ⟨g41, 0, none⟩)) (want_none rfl) rfl rfl (by kernel_rfl) ?_
  have b53 := (b45.kp k50)
  refine wl_load1 (.int .i64 x_a.Kind) (want_none rfl) rfl rfl rfl rfl isAgg_3 b53 rfl ?_
  refine wl_pure (.pointer (some ⟨g47, 0, none⟩)) (want_none rfl) rfl rfl (by kernel_rfl) ?_
  refine wl_load1 (.int .i64 x_b.Kind) (want_none rfl) rfl rfl rfl rfl isAgg_3 b51 rfl ?_
  refine wl_pure (.bool (!(decide (x_a.Kind = x_b.Kind)))) (want_none rfl) rfl rfl (by kernel_rfl) ?_
  refine wl_nil ?_
  refine wq_then ?_
  rcases Bool.eq_false_or_eq_true (decide (x_a.Kind = x_b.Kind)) with h54 | h54
  · have q55 := of_decide_eq_true h54
    refine wc_false (congrArg (fun b => Value.bool (!b)) h54) ?_
    refine wc_skip ?_
    refine wq_then ?_
    refine wc_seq ?_
    refine wc_seq ?_
    refine wc_region ?_
    refine wl_pure (.pointer (some ⟨g41, 1, none⟩)) (want_none rfl) rfl rfl (by kernel_rfl) ?_
    refine wl_load1 (.int .i64 x_a.Id) (want_none rfl) rfl rfl rfl rfl isAgg_3 b53 rfl ?_
    refine wl_pure (.pointer (some ⟨g47, 1, none⟩)) (want_none rfl) rfl rfl (by kernel_rfl) ?_
    refine wl_load1 (.int .i64 x_b.Id) (want_none rfl) rfl rfl rfl rfl isAgg_3 b51 rfl ?_
    refine wl_pure (.bool (!(decide (x_a.Id = x_b.Id)))) (want_none rfl) rfl rfl (by kernel_rfl) ?_
    refine wl_nil ?_
    refine wq_then ?_
    rcases Bool.eq_false_or_eq_true (decide (x_a.Id = x_b.Id)) with h56 | h56
    · have q57 := of_decide_eq_true h56
      refine wc_false (congrArg (fun b => Value.bool (!b)) h56) ?_
      refine wc_skip ?_
      refine wq_then ?_
      refine wc_seq ?_
      refine wc_seq ?_
      refine wc_region ?_
      refine wl_pure (.pointer (some ⟨g41, 2, none⟩)) (want_none rfl) rfl rfl (by kernel_rfl) ?_
      refine wl_load1 (.int .i64 x_a.Role) (want_none rfl) rfl rfl rfl rfl isAgg_3 b53 rfl ?_
      refine wl_pure (.pointer (some ⟨g47, 2, none⟩)) (want_none rfl) rfl rfl (by kernel_rfl) ?_
      refine wl_load1 (.int .i64 x_b.Role) (want_none rfl) rfl rfl rfl rfl isAgg_3 b51 rfl ?_
      refine wl_pure (.bool (!(decide (x_a.Role = x_b.Role)))) (want_none rfl) rfl rfl (by kernel_rfl) ?_
      refine wl_nil ?_
      refine wq_then ?_
      rcases Bool.eq_false_or_eq_true (decide (x_a.Role = x_b.Role)) with h58 | h58
      · have q59 := of_decide_eq_true h58
        refine wc_false (congrArg (fun b => Value.bool (!b)) h58) ?_
        refine wc_skip ?_
        refine wq_then ?_
        refine wc_seq ?_
        refine wc_seq ?_
        refine wc_region ?_
        refine wl_pure (.pointer (some ⟨g41, 3, none⟩)) (want_none rfl) rfl rfl (by kernel_rfl) ?_
        refine wl_load1 (.slice a1 x_a.Cn.length c2) (want_none rfl) rfl rfl rfl rfl isAgg_22 b53 rfl ?_
        refine wl_pure (.pointer (some ⟨g47, 3, none⟩)) (want_none rfl) rfl rfl (by kernel_rfl) ?_
        refine wl_load1 (.slice a21 x_b.Cn.length c22) (want_none rfl) rfl rfl rfl rfl isAgg_22 b51 rfl ?_
        refine wl_call (want_none rfl) (args := #[(.slice a1 x_a.Cn.length c2), (.slice a21 x_b.Cn.length c22)]) rfl rfl (by kernel_rfl) (C_laws_eqByteS w2 (.slice a1 x_a.Cn.length c2) x_a.Cn (show R_22 w2 (.slice a1 x_a.Cn.length c2) x_a.Cn from ⟨_, _, rfl, (r3.from0 m52), s4⟩) (.slice a21 x_b.Cn.length c22) x_b.Cn (show R_22 w2 (.slice a21 x_b.Cn.length c22) x_b.Cn from ⟨_, _, rfl, (r23.from0 m52), s24⟩)) ?_
        rintro _ w3 ⟨k60, rfl⟩
        have m61 := m52.extk k60
        refine wl_pure (.bool (!(eqB x_a.Cn x_b.Cn))) (want_none rfl) rfl rfl (by kernel_rfl) ?_
        refine wl_nil ?_
        refine wq_then ?_
        rcases Bool.eq_false_or_eq_true (eqB x_a.Cn x_b.Cn) with h62 | h62
        · skip
          refine wc_false (congrArg (fun b => Value.bool (!b)) h62) ?_
          refine wc_skip ?_
          refine wq_then ?_
          refine wc_seq ?_
          refine wc_seq ?_
          refine wc_region ?_
          refine wl_pure (.pointer (some ⟨g41, 4, none⟩)) (want_none rfl) rfl rfl (by kernel_rfl) ?_
          have b64 := (b53.kp k60)
          refine wl_load1 (.slice a6 x_a.Sn.length c7) (want_none rfl) rfl rfl rfl rfl isAgg_22 b64 rfl ?_
          refine wl_pure (.pointer (some ⟨g47, 4, none⟩)) (want_none rfl) rfl rfl (by kernel_rfl) ?_
          have b65 := (b51.kp k60)
          refine wl_load1 (.slice a26 x_b.Sn.length c27) (want_none rfl) rfl rfl rfl rfl isAgg_22 b65 rfl ?_
          refine wl_call (want_none rfl) (args := #[(.slice a6 x_a.Sn.length c7), (.slice a26 x_b.Sn.length c27)]) rfl rfl (by kernel_rfl) (C_laws_eqByteS w3 (.slice a6 x_a.Sn.length c7) x_a.Sn (show R_22 w3 (.slice a6 x_a.Sn.length c7) x_a.Sn from ⟨_, _, rfl, (r8.from0 m61), s9⟩) (.slice a26 x_b.Sn.length c27) x_b.Sn (show R_22 w3 (.slice a26 x_b.Sn.length c27) x_b.Sn from ⟨_, _, rfl, (r28.from0 m61), s29⟩)) ?_
          rintro _ w4 ⟨k66, rfl⟩
          have m67 := m61.extk k66
          refine wl_pure (.bool (!(eqB x_a.Sn x_b.Sn))) (want_none rfl) rfl rfl (by kernel_rfl) ?_
          refine wl_nil ?_
          refine wq_then ?_
          rcases Bool.eq_false_or_eq_true (eqB x_a.Sn x_b.Sn) with h68 | h68
          · skip
            refine wc_false (congrArg (fun b => Value.bool (!b)) h68) ?_
            refine wc_skip ?_
            refine wq_then ?_
            refine wc_seq ?_
            refine wc_seq ?_
            refine wc_region ?_
            refine wl_pure (.pointer (some ⟨g41, 5, none⟩)) (want_none rfl) rfl rfl (by kernel_rfl) ?_
            have b70 := (b64.kp k66)
            refine wl_load1 (.int .i64 x_a.Epoch) (want_none rfl) rfl rfl rfl rfl isAgg_3 b70 rfl ?_
            refine wl_pure (.pointer (some ⟨g47, 5, none⟩)) (want_none rfl) rfl rfl (by kernel_rfl) ?_
            have b71 := (b65.kp k66)
            refine wl_load1 (.int .i64 x_b.Epoch) (want_none rfl) rfl rfl rfl rfl isAgg_3 b71 rfl ?_
            refine wl_pure (.bool (!(decide (x_a.Epoch = x_b.Epoch)))) (want_none rfl) rfl rfl (by kernel_rfl) ?_
            refine wl_nil ?_
            refine wq_then ?_
            rcases Bool.eq_false_or_eq_true (decide (x_a.Epoch = x_b.Epoch)) with h72 | h72
            · have q73 := of_decide_eq_true h72
              refine wc_false (congrArg (fun b => Value.bool (!b)) h72) ?_
              refine wc_skip ?_
              refine wq_then ?_
              refine wc_seq ?_
              refine wc_seq ?_
              refine wc_region ?_
              refine wl_pure (.pointer (some ⟨g41, 6, none⟩)) (want_none rfl) rfl rfl (by kernel_rfl) ?_
              refine wl_load1 (.int .i64 x_a.Seq) (want_none rfl) rfl rfl rfl rfl isAgg_3 b70 rfl ?_
              refine wl_pure (.pointer (some ⟨g47, 6, none⟩)) (want_none rfl) rfl rfl (by kernel_rfl) ?_
              refine wl_load1 (.int .i64 x_b.Seq) (want_none rfl) rfl rfl rfl rfl isAgg_3 b71 rfl ?_
              refine wl_pure (.bool (!(decide (x_a.Seq = x_b.Seq)))) (want_none rfl) rfl rfl (by kernel_rfl) ?_
              refine wl_nil ?_
              refine wq_then ?_
              rcases Bool.eq_false_or_eq_true (decide (x_a.Seq = x_b.Seq)) with h74 | h74
              · have q75 := of_decide_eq_true h74
                refine wc_false (congrArg (fun b => Value.bool (!b)) h74) ?_
                refine wc_skip ?_
                refine wq_then ?_
                refine wc_seq ?_
                refine wc_seq ?_
                refine wc_region ?_
                refine wl_pure (.pointer (some ⟨g41, 7, none⟩)) (want_none rfl) rfl rfl (by kernel_rfl) ?_
                refine wl_load1 (.slice a11 x_a.Body.length c12) (want_none rfl) rfl rfl rfl rfl isAgg_22 b70 rfl ?_
                refine wl_pure (.pointer (some ⟨g47, 7, none⟩)) (want_none rfl) rfl rfl (by kernel_rfl) ?_
                refine wl_load1 (.slice a31 x_b.Body.length c32) (want_none rfl) rfl rfl rfl rfl isAgg_22 b71 rfl ?_
                refine wl_call (want_none rfl) (args := #[(.slice a11 x_a.Body.length c12), (.slice a31 x_b.Body.length c32)]) rfl rfl (by kernel_rfl) (C_laws_eqByteS w4 (.slice a11 x_a.Body.length c12) x_a.Body (show R_22 w4 (.slice a11 x_a.Body.length c12) x_a.Body from ⟨_, _, rfl, (r13.from0 m67), s14⟩) (.slice a31 x_b.Body.length c32) x_b.Body (show R_22 w4 (.slice a31 x_b.Body.length c32) x_b.Body from ⟨_, _, rfl, (r33.from0 m67), s34⟩)) ?_
                rintro _ w5 ⟨k76, rfl⟩
                have m77 := m67.extk k76
                refine wl_pure (.bool (!(eqB x_a.Body x_b.Body))) (want_none rfl) rfl rfl (by kernel_rfl) ?_
                refine wl_nil ?_
                refine wq_then ?_
                rcases Bool.eq_false_or_eq_true (eqB x_a.Body x_b.Body) with h78 | h78
                · skip
                  refine wc_false (congrArg (fun b => Value.bool (!b)) h78) ?_
                  refine wc_skip ?_
                  refine wq_then ?_
                  refine wc_seq ?_
                  refine wc_seq ?_
                  refine wc_region ?_
                  refine wl_pure (.pointer (some ⟨g41, 8, none⟩)) (want_none rfl) rfl rfl (by kernel_rfl) ?_
                  have b80 := (b70.kp k76)
                  refine wl_load1 (.slice a16 x_a.Key.length c17) (want_none rfl) rfl rfl rfl rfl isAgg_22 b80 rfl ?_
                  refine wl_pure (.pointer (some ⟨g47, 8, none⟩)) (want_none rfl) rfl rfl (by kernel_rfl) ?_
                  have b81 := (b71.kp k76)
                  refine wl_load1 (.slice a36 x_b.Key.length c37) (want_none rfl) rfl rfl rfl rfl isAgg_22 b81 rfl ?_
                  refine wl_call (want_none rfl) (args := #[(.slice a16 x_a.Key.length c17), (.slice a36 x_b.Key.length c37)]) rfl rfl (by kernel_rfl) (C_laws_eqByteS w5 (.slice a16 x_a.Key.length c17) x_a.Key (show R_22 w5 (.slice a16 x_a.Key.length c17) x_a.Key from ⟨_, _, rfl, (r18.from0 m77), s19⟩) (.slice a36 x_b.Key.length c37) x_b.Key (show R_22 w5 (.slice a36 x_b.Key.length c37) x_b.Key from ⟨_, _, rfl, (r38.from0 m77), s39⟩)) ?_
                  rintro _ w6 ⟨k82, rfl⟩
                  have m83 := m77.extk k82
                  refine wl_pure (.bool (!(eqB x_a.Key x_b.Key))) (want_none rfl) rfl rfl (by kernel_rfl) ?_
                  refine wl_nil ?_
                  refine wq_then ?_
                  rcases Bool.eq_false_or_eq_true (eqB x_a.Key x_b.Key) with h84 | h84
                  · skip
                    refine wc_false (congrArg (fun b => Value.bool (!b)) h84) ?_
                    refine wc_skip ?_
                    refine wq_then ?_
                    refine wc_seq ?_
                    refine wc_seq ?_
                    refine wc_region ?_
                    refine wl_pure (.pointer (some ⟨g41, 9, none⟩)) (want_none rfl) rfl rfl (by kernel_rfl) ?_
                    have b86 := (b80.kp k82)
                    refine wl_loadN [(.int .i64 x_a.A.Host), (.int .i64 x_a.A.Port)] (want_none rfl) rfl rfl rfl rfl isAgg_61 sizeOf_61 b86 rfl ?_
                    refine wl_pure (.pointer (some ⟨g47, 9, none⟩)) (want_none rfl) rfl rfl (by kernel_rfl) ?_
                    have b87 := (b81.kp k82)
                    refine wl_loadN [(.int .i64 x_b.A.Host), (.int .i64 x_b.A.Port)] (want_none rfl) rfl rfl rfl rfl isAgg_61 sizeOf_61 b87 rfl ?_
                    refine wl_call (want_none rfl) (args := #[(.agg #[(.int .i64 x_a.A.Host), (.int .i64 x_a.A.Port)]), (.agg #[(.int .i64 x_b.A.Host), (.int .i64 x_b.A.Port)])]) rfl rfl (by kernel_rfl) (C_laws_eqAddr w6 (.agg #[(.int .i64 x_a.A.Host), (.int .i64 x_a.A.Port)]) x_a.A (show R_61 w6 (.agg #[(.int .i64 x_a.A.Host), (.int .i64 x_a.A.Port)]) x_a.A from rfl) (.agg #[(.int .i64 x_b.A.Host), (.int .i64 x_b.A.Port)]) x_b.A (show R_61 w6 (.agg #[(.int .i64 x_b.A.Host), (.int .i64 x_b.A.Port)]) x_b.A from rfl)) ?_
                    rintro _ w7 ⟨k88, rfl⟩
                    have m89 := m83.extk k88
                    refine wl_pure (.bool (!(F_laws_eqAddr x_a.A x_b.A))) (want_none rfl) rfl rfl (by kernel_rfl) ?_
                    refine wl_nil ?_
                    refine wq_then ?_
                    rcases Bool.eq_false_or_eq_true (F_laws_eqAddr x_a.A x_b.A) with h90 | h90
                    · skip
                      refine wc_false (congrArg (fun b => Value.bool (!b)) h90) ?_
                      refine wc_skip ?_
                      refine wq_then ?_
                      refine wc_seq ?_
                      refine wc_seq ?_
                      refine wc_region ?_
                      refine wl_pure (.pointer (some ⟨g41, 11, none⟩)) (want_none rfl) rfl rfl (by kernel_rfl) ?_
                      have b92 := (b86.kp k88)
                      refine wl_load1 (.int .i64 x_a.Now) (want_none rfl) rfl rfl rfl rfl isAgg_3 b92 rfl ?_
                      refine wl_pure (.pointer (some ⟨g47, 11, none⟩)) (want_none rfl) rfl rfl (by kernel_rfl) ?_
                      have b93 := (b87.kp k88)
                      refine wl_load1 (.int .i64 x_b.Now) (want_none rfl) rfl rfl rfl rfl isAgg_3 b93 rfl ?_
                      refine wl_pure (.bool (!(decide (x_a.Now = x_b.Now)))) (want_none rfl) rfl rfl (by kernel_rfl) ?_
                      refine wl_nil ?_
                      refine wq_then ?_
                      rcases Bool.eq_false_or_eq_true (decide (x_a.Now = x_b.Now)) with h94 | h94
                      · have q95 := of_decide_eq_true h94
                        refine wc_false (congrArg (fun b => Value.bool (!b)) h94) ?_
                        refine wc_skip ?_
                        refine wq_then ?_
                        refine wc_seq ?_
                        refine wc_region ?_
                        refine wl_mv (.bool true) (want_none rfl) rfl rfl (.inr rfl) rfl ?_
                        refine wl_nil ?_
                        refine wq_then ?_
                        refine wc_ret ?_
                        refine ret_1 (.inl rfl) (.bool true) rfl rfl ?_
                        refine ⟨m89.keep0, ?_⟩
                        have hF96 : F_laws_eqNote x_a x_b = true := by simp only [F_laws_eqNote, h54, h56, h58, h62, h68, h72, h74, h78, h84, h90, h94, cond_true, cond_false]
                        rw [hF96]
                        exact rfl
                      · have q97 := of_decide_eq_false h94
                        refine wc_true (congrArg (fun b => Value.bool (!b)) h94) ?_
                        refine wc_seq ?_
                        refine wc_region ?_
                        refine wl_mv (.bool false) (want_none rfl) rfl rfl (.inr rfl) rfl ?_
                        refine wl_nil ?_
                        refine wq_then ?_
                        refine wc_ret ?_
                        refine wq_then_ret ?_
                        refine ret_1 (.inl rfl) (.bool false) rfl rfl ?_
                        refine ⟨m89.keep0, ?_⟩
                        have hF98 : F_laws_eqNote x_a x_b = false := by simp only [F_laws_eqNote, h54, h56, h58, h62, h68, h72, h74, h78, h84, h90, h94, cond_true, cond_false]
                        rw [hF98]
                        exact rfl
                    · skip
                      refine wc_true (congrArg (fun b => Value.bool (!b)) h90) ?_
                      refine wc_seq ?_
                      refine wc_region ?_
                      refine wl_mv (.bool false) (want_none rfl) rfl rfl (.inr rfl) rfl ?_
                      refine wl_nil ?_
                      refine wq_then ?_
                      refine wc_ret ?_
                      refine wq_then_ret ?_
                      refine ret_1 (.inl rfl) (.bool false) rfl rfl ?_
                      refine ⟨m89.keep0, ?_⟩
                      have hF100 : F_laws_eqNote x_a x_b = false := by simp only [F_laws_eqNote, h54, h56, h58, h62, h68, h72, h74, h78, h84, h90, cond_true, cond_false]
                      rw [hF100]
                      exact rfl
                  · skip
                    refine wc_true (congrArg (fun b => Value.bool (!b)) h84) ?_
                    refine wc_seq ?_
                    refine wc_region ?_
                    refine wl_mv (.bool false) (want_none rfl) rfl rfl (.inr rfl) rfl ?_
                    refine wl_nil ?_
                    refine wq_then ?_
                    refine wc_ret ?_
                    refine wq_then_ret ?_
                    refine ret_1 (.inl rfl) (.bool false) rfl rfl ?_
                    refine ⟨m83.keep0, ?_⟩
                    have hF102 : F_laws_eqNote x_a x_b = false := by simp only [F_laws_eqNote, h54, h56, h58, h62, h68, h72, h74, h78, h84, cond_true, cond_false]
                    rw [hF102]
                    exact rfl
                · skip
                  refine wc_true (congrArg (fun b => Value.bool (!b)) h78) ?_
                  refine wc_seq ?_
                  refine wc_region ?_
                  refine wl_mv (.bool false) (want_none rfl) rfl rfl (.inr rfl) rfl ?_
                  refine wl_nil ?_
                  refine wq_then ?_
                  refine wc_ret ?_
                  refine wq_then_ret ?_
                  refine ret_1 (.inl rfl) (.bool false) rfl rfl ?_
                  refine ⟨m77.keep0, ?_⟩
                  have hF104 : F_laws_eqNote x_a x_b = false := by simp only [F_laws_eqNote, h54, h56, h58, h62, h68, h72, h74, h78, cond_true, cond_false]
                  rw [hF104]
                  exact rfl
              · have q105 := of_decide_eq_false h74
                refine wc_true (congrArg (fun b => Value.bool (!b)) h74) ?_
                refine wc_seq ?_
                refine wc_region ?_
                refine wl_mv (.bool false) (want_none rfl) rfl rfl (.inr rfl) rfl ?_
                refine wl_nil ?_
                refine wq_then ?_
                refine wc_ret ?_
                refine wq_then_ret ?_
                refine ret_1 (.inl rfl) (.bool false) rfl rfl ?_
                refine ⟨m67.keep0, ?_⟩
                have hF106 : F_laws_eqNote x_a x_b = false := by simp only [F_laws_eqNote, h54, h56, h58, h62, h68, h72, h74, cond_true, cond_false]
                rw [hF106]
                exact rfl
            · have q107 := of_decide_eq_false h72
              refine wc_true (congrArg (fun b => Value.bool (!b)) h72) ?_
              refine wc_seq ?_
              refine wc_region ?_
              refine wl_mv (.bool false) (want_none rfl) rfl rfl (.inr rfl) rfl ?_
              refine wl_nil ?_
              refine wq_then ?_
              refine wc_ret ?_
              refine wq_then_ret ?_
              refine ret_1 (.inl rfl) (.bool false) rfl rfl ?_
              refine ⟨m67.keep0, ?_⟩
              have hF108 : F_laws_eqNote x_a x_b = false := by simp only [F_laws_eqNote, h54, h56, h58, h62, h68, h72, cond_true, cond_false]
              rw [hF108]
              exact rfl
          · skip
            refine wc_true (congrArg (fun b => Value.bool (!b)) h68) ?_
            refine wc_seq ?_
            refine wc_region ?_
            refine wl_mv (.bool false) (want_none rfl) rfl rfl (.inr rfl) rfl ?_
            refine wl_nil ?_
            refine wq_then ?_
            refine wc_ret ?_
            refine wq_then_ret ?_
            refine ret_1 (.inl rfl) (.bool false) rfl rfl ?_
            refine ⟨m67.keep0, ?_⟩
            have hF110 : F_laws_eqNote x_a x_b = false := by simp only [F_laws_eqNote, h54, h56, h58, h62, h68, cond_true, cond_false]
            rw [hF110]
            exact rfl
        · skip
          refine wc_true (congrArg (fun b => Value.bool (!b)) h62) ?_
          refine wc_seq ?_
          refine wc_region ?_
          refine wl_mv (.bool false) (want_none rfl) rfl rfl (.inr rfl) rfl ?_
          refine wl_nil ?_
          refine wq_then ?_
          refine wc_ret ?_
          refine wq_then_ret ?_
          refine ret_1 (.inl rfl) (.bool false) rfl rfl ?_
          refine ⟨m61.keep0, ?_⟩
          have hF112 : F_laws_eqNote x_a x_b = false := by simp only [F_laws_eqNote, h54, h56, h58, h62, cond_true, cond_false]
          rw [hF112]
          exact rfl
      · have q113 := of_decide_eq_false h58
        refine wc_true (congrArg (fun b => Value.bool (!b)) h58) ?_
        refine wc_seq ?_
        refine wc_region ?_
        refine wl_mv (.bool false) (want_none rfl) rfl rfl (.inr rfl) rfl ?_
        refine wl_nil ?_
        refine wq_then ?_
        refine wc_ret ?_
        refine wq_then_ret ?_
        refine ret_1 (.inl rfl) (.bool false) rfl rfl ?_
        refine ⟨m52.keep0, ?_⟩
        have hF114 : F_laws_eqNote x_a x_b = false := by simp only [F_laws_eqNote, h54, h56, h58, cond_true, cond_false]
        rw [hF114]
        exact rfl
    · have q115 := of_decide_eq_false h56
      refine wc_true (congrArg (fun b => Value.bool (!b)) h56) ?_
      refine wc_seq ?_
      refine wc_region ?_
      refine wl_mv (.bool false) (want_none rfl) rfl rfl (.inr rfl) rfl ?_
      refine wl_nil ?_
      refine wq_then ?_
      refine wc_ret ?_
      refine wq_then_ret ?_
      refine ret_1 (.inl rfl) (.bool false) rfl rfl ?_
      refine ⟨m52.keep0, ?_⟩
      have hF116 : F_laws_eqNote x_a x_b = false := by simp only [F_laws_eqNote, h54, h56, cond_true, cond_false]
      rw [hF116]
      exact rfl
  · have q117 := of_decide_eq_false h54
    refine wc_true (congrArg (fun b => Value.bool (!b)) h54) ?_
    refine wc_seq ?_
    refine wc_region ?_
    refine wl_mv (.bool false) (want_none rfl) rfl rfl (.inr rfl) rfl ?_
    refine wl_nil ?_
    refine wq_then ?_
    refine wc_ret ?_
    refine wq_then_ret ?_
    refine ret_1 (.inl rfl) (.bool false) rfl rfl ?_
    refine ⟨m52.keep0, ?_⟩
    have hF118 : F_laws_eqNote x_a x_b = false := by simp only [F_laws_eqNote, h54, cond_true, cond_false]
    rw [hF118]
    exact rfl
end Go.Proofs.Ytodlalolknldmaa.K
