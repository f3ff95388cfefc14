import Derived.Test.YtodlalolknldmaaCore
import Derived.Test.YtodlalolknldmaaProg
import Derived.Test.YtodlalolknldmaaHeld
import Derived.Test.YtodlalolknldmaaW1
namespace Go.Proofs.Ytodlalolknldmaa.K
open Go.RowKit
set_option linter.unusedVariables false
set_option linter.unusedSimpArgs false
set_option maxRecDepth 100000
def F_laws_heldChan (x_a : PChan) (x_k : Int) : (Int) := bif (decide ((heldB x_a.Sn x_k) < 0)) then ((-1)) else (bif (decide ((F_laws_heldEp x_a.Cur (heldB x_a.Sn x_k)) < 0)) then ((-1)) else (bif (decide ((F_laws_heldEp x_a.Old (F_laws_heldEp x_a.Cur (heldB x_a.Sn x_k))) < 0)) then ((-1)) else (bif (decide ((heldB x_a.Next (F_laws_heldEp x_a.Old (F_laws_heldEp x_a.Cur (heldB x_a.Sn x_k)))) < 0)) then ((-1)) else ((heldB x_a.Next (F_laws_heldEp x_a.Old (F_laws_heldEp x_a.Cur (heldB x_a.Sn x_k))))))))
theorem C_laws_heldChan (w0 : World) (v_x_a : Value) (x_a : PChan) (r_x_a : R_29 w0 v_x_a x_a) (x_k : Int) (pre0 : 0 ≤ x_k) (pre1 : x_k ≤ 8600000000000000000) : Fn Try.prog 22 #[v_x_a, (.int .i64 x_k)] w0 (fun v w' => Keep w0 w' ∧ O_3 w' w0.heap.size v (F_laws_heldChan x_a x_k)) := by
  obtain ⟨a1, c2, a6, c7, a11, c12, a16, c17, a21, c22, a26, c27, rfl, r3, s4, r8, s9, r13, s14, r18, s19, r23, s24, r28, s29⟩ := r_x_a
  refine fn_of (n := 30) (l := [(.agg #[(.int .i64 x_a.Role), (.slice a1 x_a.Sn.length c2), (.int .i64 x_a.Cur.N), (.slice a6 x_a.Cur.Key.length c7), (.int .i64 x_a.Cur.Seq), (.int .i64 x_a.Cur.Win.Top), (.slice a11 x_a.Cur.Win.Bits.length c12), (.int .i64 x_a.Old.N), (.slice a16 x_a.Old.Key.length c17), (.int .i64 x_a.Old.Seq), (.int .i64 x_a.Old.Win.Top), (.slice a21 x_a.Old.Win.Bits.length c22), (.bool x_a.HasOld), (.int .i64 x_a.Until), (.slice a26 x_a.Next.length c27)]), (.int .i64 x_k), undef, undef, undef, undef, undef, undef, undef, undef, undef, undef, undef, undef, undef, undef, undef, undef, undef, undef, undef, undef, undef, undef, undef, undef, undef, undef, undef, undef]) Try.func22 rfl rfl (by kernel_rfl) rfl ?_
  refine wc_seq ?_
  refine wc_region ?_
  refine wl_box (want_none rfl) [(.int .i64 x_a.Role), (.slice a1 x_a.Sn.length c2), (.int .i64 x_a.Cur.N), (.slice a6 x_a.Cur.Key.length c7), (.int .i64 x_a.Cur.Seq), (.int .i64 x_a.Cur.Win.Top), (.slice a11 x_a.Cur.Win.Bits.length c12), (.int .i64 x_a.Old.N), (.slice a16 x_a.Old.Key.length c17), (.int .i64 x_a.Old.Seq), (.int .i64 x_a.Old.Win.Top), (.slice a21 x_a.Old.Win.Bits.length c22), (.bool x_a.HasOld), (.int .i64 x_a.Until), (.slice a26 x_a.Next.length c27)] rfl rfl rfl rfl ?_
  intro g31 w1 p32 p33 k34 b35
  have m36 := (Ch.base w0).extk k34
  refine wl_mv (.int .i64 0) (want_none rfl) rfl rfl (.inr rfl) rfl ?_
  refine wl_nil ?_
  refine wq_then ?_
  refine wc_seq ?_
  refine wc_region ?_
  refine wl_pure (.pointer (some ⟨g31, 1, none⟩)) (want_none rfl) rfl rfl (by kernel_rfl) ?_
  refine wl_load1 (.slice a1 x_a.Sn.length c2) (want_none rfl) rfl rfl rfl rfl isAgg_22 b35 rfl ?_
  refine wl_mv (.int .i64 x_k) (want_none rfl) rfl rfl (.inl rfl) rfl ?_
  refine wl_call (want_none rfl) (args := #[(.slice a1 x_a.Sn.length c2), (.int .i64 x_k)]) rfl rfl (by kernel_rfl) (C_laws_heldByteS w1 (.slice a1 x_a.Sn.length c2) x_a.Sn (show R_22 w1 (.slice a1 x_a.Sn.length c2) x_a.Sn from ⟨_, _, rfl, (r3.from0 m36), s4⟩) x_k (by omega) (by omega)) ?_
  rintro _ w2 ⟨k37, rfl⟩
  have m38 := m36.extk k37
  have q39 := heldB_le x_a.Sn x_k
  refine wl_mv (.int .i64 (heldB x_a.Sn x_k)) (want_none rfl) rfl rfl (.inr rfl) rfl ?_
  refine wl_nil ?_
  refine wq_then ?_
  refine wc_seq ?_
  refine wc_seq ?_
  refine wc_region ?_
  refine wl_mv (.int .i64 (heldB x_a.Sn x_k)) (want_none rfl) rfl rfl (.inl rfl) rfl ?_
  refine wl_pure (.bool (decide ((heldB x_a.Sn x_k) < 0))) (want_none rfl) rfl rfl (by kernel_rfl) ?_
  refine wl_nil ?_
  refine wq_then ?_
  rcases Bool.eq_false_or_eq_true (decide ((heldB x_a.Sn x_k) < 0)) with h40 | h40
  · have q41 := of_decide_eq_true h40
    refine wc_true (congrArg Value.bool h40) ?_
    refine wc_seq ?_
    refine wc_region ?_
    refine wl_mv (.int .i64 (-1)) (want_none rfl) rfl rfl (.inr rfl) rfl ?_
    refine wl_nil ?_
    refine wq_then ?_
    refine wc_ret ?_
    refine wq_then_ret ?_
    refine ret_1 (.inl rfl) (.int .i64 (-1)) rfl rfl ?_
    refine ⟨m38.keep0, ?_⟩
    have hF42 : F_laws_heldChan x_a x_k = (-1) := by simp only [F_laws_heldChan, h40, cond_true, cond_false]
    rw [hF42]
    exact rfl
  · have q43 := of_decide_eq_false h40
    refine wc_false (congrArg Value.bool h40) ?_
    refine wc_skip ?_
    refine wq_then ?_
    refine wc_seq ?_
    refine wc_region ?_
    refine wl_pure (.pointer (some ⟨g31, 2, none⟩)) (want_none rfl) rfl rfl (by kernel_rfl) ?_
    have b44 := (b35.kp k37)
    refine wl_loadN [(.int .i64 x_a.Cur.N), (.slice a6 x_a.Cur.Key.length c7), (.int .i64 x_a.Cur.Seq), (.int .i64 x_a.Cur.Win.Top), (.slice a11 x_a.Cur.Win.Bits.length c12)] (want_none rfl) rfl rfl rfl rfl isAgg_27 sizeOf_27 b44 rfl ?_
    refine wl_mv (.int .i64 (heldB x_a.Sn x_k)) (want_none rfl) rfl rfl (.inl rfl) rfl ?_
    refine wl_call (want_none rfl) (args := #[(.agg #[(.int .i64 x_a.Cur.N), (.slice a6 x_a.Cur.Key.length c7), (.int .i64 x_a.Cur.Seq), (.int .i64 x_a.Cur.Win.Top), (.slice a11 x_a.Cur.Win.Bits.length c12)]), (.int .i64 (heldB x_a.Sn x_k))]) rfl rfl (by kernel_rfl) (C_laws_heldEp w2 (.agg #[(.int .i64 x_a.Cur.N), (.slice a6 x_a.Cur.Key.length c7), (.int .i64 x_a.Cur.Seq), (.int .i64 x_a.Cur.Win.Top), (.slice a11 x_a.Cur.Win.Bits.length c12)]) x_a.Cur (show R_27 w2 (.agg #[(.int .i64 x_a.Cur.N), (.slice a6 x_a.Cur.Key.length c7), (.int .i64 x_a.Cur.Seq), (.int .i64 x_a.Cur.Win.Top), (.slice a11 x_a.Cur.Win.Bits.length c12)]) x_a.Cur from ⟨_, _, _, _, rfl, (r8.from0 m38), s9, (r13.from0 m38), s14⟩) (heldB x_a.Sn x_k) (by omega) (by omega)) ?_
    rintro _ w3 ⟨k45, rfl⟩
    have m46 := m38.extk k45
    have q47 := laws_heldEp_le x_a.Cur (heldB x_a.Sn x_k)
    refine wl_mv (.int .i64 (F_laws_heldEp x_a.Cur (heldB x_a.Sn x_k))) (want_none rfl) rfl rfl (.inr rfl) rfl ?_
    refine wl_nil ?_
    refine wq_then ?_
    refine wc_seq ?_
    refine wc_seq ?_
    refine wc_region ?_
    refine wl_mv (.int .i64 (F_laws_heldEp x_a.Cur (heldB x_a.Sn x_k))) (want_none rfl) rfl rfl (.inl rfl) rfl ?_
    refine wl_pure (.bool (decide ((F_laws_heldEp x_a.Cur (heldB x_a.Sn x_k)) < 0))) (want_none rfl) rfl rfl (by kernel_rfl) ?_
    refine wl_nil ?_
    refine wq_then ?_
    rcases Bool.eq_false_or_eq_true (decide ((F_laws_heldEp x_a.Cur (heldB x_a.Sn x_k)) < 0)) with h48 | h48
    · have q49 := of_decide_eq_true h48
      refine wc_true (congrArg Value.bool h48) ?_
      refine wc_seq ?_
      refine wc_region ?_
      refine wl_mv (.int .i64 (-1)) (want_none rfl) rfl rfl (.inr rfl) rfl ?_
      refine wl_nil ?_
      refine wq_then ?_
      refine wc_ret ?_
      refine wq_then_ret ?_
      refine ret_1 (.inl rfl) (.int .i64 (-1)) rfl rfl ?_
      refine ⟨m46.keep0, ?_⟩
      have hF50 : F_laws_heldChan x_a x_k = (-1) := by simp only [F_laws_heldChan, h40, h48, cond_true, cond_false]
      rw [hF50]
      exact rfl
    · have q51 := of_decide_eq_false h48
      refine wc_false (congrArg Value.bool h48) ?_
      refine wc_skip ?_
      refine wq_then ?_
      refine wc_seq ?_
      refine wc_region ?_
      refine wl_pure (.pointer (some ⟨g31, 7, none⟩)) (want_none rfl) rfl rfl (by kernel_rfl) ?_
      have b52 := (b44.kp k45)
      refine wl_loadN [(.int .i64 x_a.Old.N), (.slice a16 x_a.Old.Key.length c17), (.int .i64 x_a.Old.Seq), (.int .i64 x_a.Old.Win.Top), (.slice a21 x_a.Old.Win.Bits.length c22)] (want_none rfl) rfl rfl rfl rfl isAgg_27 sizeOf_27 b52 rfl ?_
      refine wl_mv (.int .i64 (F_laws_heldEp x_a.Cur (heldB x_a.Sn x_k))) (want_none rfl) rfl rfl (.inl rfl) rfl ?_
      refine wl_call (want_none rfl) (args := #[(.agg #[(.int .i64 x_a.Old.N), (.slice a16 x_a.Old.Key.length c17), (.int .i64 x_a.Old.Seq), (.int .i64 x_a.Old.Win.Top), (.slice a21 x_a.Old.Win.Bits.length c22)]), (.int .i64 (F_laws_heldEp x_a.Cur (heldB x_a.Sn x_k)))]) rfl rfl (by kernel_rfl) (C_laws_heldEp w3 (.agg #[(.int .i64 x_a.Old.N), (.slice a16 x_a.Old.Key.length c17), (.int .i64 x_a.Old.Seq), (.int .i64 x_a.Old.Win.Top), (.slice a21 x_a.Old.Win.Bits.length c22)]) x_a.Old (show R_27 w3 (.agg #[(.int .i64 x_a.Old.N), (.slice a16 x_a.Old.Key.length c17), (.int .i64 x_a.Old.Seq), (.int .i64 x_a.Old.Win.Top), (.slice a21 x_a.Old.Win.Bits.length c22)]) x_a.Old from ⟨_, _, _, _, rfl, (r18.from0 m46), s19, (r23.from0 m46), s24⟩) (F_laws_heldEp x_a.Cur (heldB x_a.Sn x_k)) (by omega) (by omega)) ?_
      rintro _ w4 ⟨k53, rfl⟩
      have m54 := m46.extk k53
      have q55 := laws_heldEp_le x_a.Old (F_laws_heldEp x_a.Cur (heldB x_a.Sn x_k))
      refine wl_mv (.int .i64 (F_laws_heldEp x_a.Old (F_laws_heldEp x_a.Cur (heldB x_a.Sn x_k)))) (want_none rfl) rfl rfl (.inr rfl) rfl ?_
      refine wl_nil ?_
      refine wq_then ?_
      refine wc_seq ?_
      refine wc_seq ?_
      refine wc_region ?_
      refine wl_mv (.int .i64 (F_laws_heldEp x_a.Old (F_laws_heldEp x_a.Cur (heldB x_a.Sn x_k)))) (want_none rfl) rfl rfl (.inl rfl) rfl ?_
      refine wl_pure (.bool (decide ((F_laws_heldEp x_a.Old (F_laws_heldEp x_a.Cur (heldB x_a.Sn x_k))) < 0))) (want_none rfl) rfl rfl (by kernel_rfl) ?_
      refine wl_nil ?_
      refine wq_then ?_
      rcases Bool.eq_false_or_eq_true (decide ((F_laws_heldEp x_a.Old (F_laws_heldEp x_a.Cur (heldB x_a.Sn x_k))) < 0)) with h56 | h56
      · have q57 := of_decide_eq_true h56
        refine wc_true (congrArg Value.bool h56) ?_
        refine wc_seq ?_
        refine wc_region ?_
        refine wl_mv (.int .i64 (-1)) (want_none rfl) rfl rfl (.inr rfl) rfl ?_
        refine wl_nil ?_
        refine wq_then ?_
        refine wc_ret ?_
        refine wq_then_ret ?_
        refine ret_1 (.inl rfl) (.int .i64 (-1)) rfl rfl ?_
        refine ⟨m54.keep0, ?_⟩
        have hF58 : F_laws_heldChan x_a x_k = (-1) := by simp only [F_laws_heldChan, h40, h48, h56, cond_true, cond_false]
        rw [hF58]
        exact rfl
      · have q59 := of_decide_eq_false h56
        refine wc_false (congrArg Value.bool h56) ?_
        refine wc_skip ?_
        refine wq_then ?_
        refine wc_seq ?_
        refine wc_region ?_
        refine wl_pure (.pointer (some ⟨g31, 14, none⟩)) (want_none rfl) rfl rfl (by kernel_rfl) ?_
        have b60 := (b52.kp k53)
        refine wl_load1 (.slice a26 x_a.Next.length c27) (want_none rfl) rfl rfl rfl rfl isAgg_22 b60 rfl ?_
        refine wl_mv (.int .i64 (F_laws_heldEp x_a.Old (F_laws_heldEp x_a.Cur (heldB x_a.Sn x_k)))) (want_none rfl) rfl rfl (.inl rfl) rfl ?_
        refine wl_call (want_none rfl) (args := #[(.slice a26 x_a.Next.length c27), (.int .i64 (F_laws_heldEp x_a.Old (F_laws_heldEp x_a.Cur (heldB x_a.Sn x_k))))]) rfl rfl (by kernel_rfl) (C_laws_heldByteS w4 (.slice a26 x_a.Next.length c27) x_a.Next (show R_22 w4 (.slice a26 x_a.Next.length c27) x_a.Next from ⟨_, _, rfl, (r28.from0 m54), s29⟩) (F_laws_heldEp x_a.Old (F_laws_heldEp x_a.Cur (heldB x_a.Sn x_k))) (by omega) (by omega)) ?_
        rintro _ w5 ⟨k61, rfl⟩
        have m62 := m54.extk k61
        have q63 := heldB_le x_a.Next (F_laws_heldEp x_a.Old (F_laws_heldEp x_a.Cur (heldB x_a.Sn x_k)))
        refine wl_mv (.int .i64 (heldB x_a.Next (F_laws_heldEp x_a.Old (F_laws_heldEp x_a.Cur (heldB x_a.Sn x_k))))) (want_none rfl) rfl rfl (.inr rfl) rfl ?_
        refine wl_nil ?_
        refine wq_then ?_
        refine wc_seq ?_
        refine wc_seq ?_
        refine wc_region ?_
        refine wl_mv (.int .i64 (heldB x_a.Next (F_laws_heldEp x_a.Old (F_laws_heldEp x_a.Cur (heldB x_a.Sn x_k))))) (want_none rfl) rfl rfl (.inl rfl) rfl ?_
        refine wl_pure (.bool (decide ((heldB x_a.Next (F_laws_heldEp x_a.Old (F_laws_heldEp x_a.Cur (heldB x_a.Sn x_k)))) < 0))) (want_none rfl) rfl rfl (by kernel_rfl) ?_
        refine wl_nil ?_
        refine wq_then ?_
        rcases Bool.eq_false_or_eq_true (decide ((heldB x_a.Next (F_laws_heldEp x_a.Old (F_laws_heldEp x_a.Cur (heldB x_a.Sn x_k)))) < 0)) with h64 | h64
        · have q65 := of_decide_eq_true h64
          refine wc_true (congrArg Value.bool h64) ?_
          refine wc_seq ?_
          refine wc_region ?_
          refine wl_mv (.int .i64 (-1)) (want_none rfl) rfl rfl (.inr rfl) rfl ?_
          refine wl_nil ?_
          refine wq_then ?_
          refine wc_ret ?_
          refine wq_then_ret ?_
          refine ret_1 (.inl rfl) (.int .i64 (-1)) rfl rfl ?_
          refine ⟨m62.keep0, ?_⟩
          have hF66 : F_laws_heldChan x_a x_k = (-1) := by simp only [F_laws_heldChan, h40, h48, h56, h64, cond_true, cond_false]
          rw [hF66]
          exact rfl
        · have q67 := of_decide_eq_false h64
          refine wc_false (congrArg Value.bool h64) ?_
          refine wc_skip ?_
          refine wq_then ?_
          refine wc_seq ?_
          refine wc_region ?_
          refine wl_mv (.int .i64 (heldB x_a.Next (F_laws_heldEp x_a.Old (F_laws_heldEp x_a.Cur (heldB x_a.Sn x_k))))) (want_none rfl) rfl rfl (.inl rfl) rfl ?_
          refine wl_mv (.int .i64 (heldB x_a.Next (F_laws_heldEp x_a.Old (F_laws_heldEp x_a.Cur (heldB x_a.Sn x_k))))) (want_none rfl) rfl rfl (.inr rfl) rfl ?_
          refine wl_nil ?_
          refine wq_then ?_
          refine wc_ret ?_
          refine ret_1 (.inl rfl) (.int .i64 (heldB x_a.Next (F_laws_heldEp x_a.Old (F_laws_heldEp x_a.Cur (heldB x_a.Sn x_k))))) rfl rfl ?_
          refine ⟨m62.keep0, ?_⟩
          have hF68 : F_laws_heldChan x_a x_k = (heldB x_a.Next (F_laws_heldEp x_a.Old (F_laws_heldEp x_a.Cur (heldB x_a.Sn x_k)))) := by simp only [F_laws_heldChan, h40, h48, h56, h64, cond_true, cond_false]
          rw [hF68]
          exact rfl
theorem laws_heldChan_le (x : PChan) (k : Int) : F_laws_heldChan x k = -1 ∨ F_laws_heldChan x k = k + ((x.Sn.length : Int) + (x.Cur.Key.length : Int) + (x.Cur.Win.Bits.length : Int) + (x.Old.Key.length : Int) + (x.Old.Win.Bits.length : Int) + (x.Next.length : Int)) := by
  have h0 := heldB_le x.Sn k
  have h1 := laws_heldEp_le x.Cur (heldB x.Sn k)
  have h2 := laws_heldEp_le x.Old (F_laws_heldEp x.Cur (heldB x.Sn k))
  have h3 := heldB_le x.Next (F_laws_heldEp x.Old (F_laws_heldEp x.Cur (heldB x.Sn k)))
  simp only [F_laws_heldChan, cond_eq_ite, decide_eq_true_eq]
  (repeat' split) <;> omega

def Q_22 (w : World) (v : Value) (x : (List UInt8)) : Prop := ∃ (a1 : Option Addr) (c1 : Nat), v = .slice a1 x.length c1 ∧ Rd w 1 (.slice a1 x.length c1) x.length (x.map bV) ∧ x.length ≤ 9223372036854775807
def F_laws_szByteS (x_a : List UInt8) (x_left : Int) : (Int) := bif (decide ((x_left - (x_a.length : Int)) < 0)) then ((-1)) else ((x_left - (x_a.length : Int)))
theorem C_laws_szByteS (w0 : World) (v_x_a : Value) (x_a : List UInt8) (r_x_a : Q_22 w0 v_x_a x_a) (x_left : Int) (pre0 : 0 ≤ x_left) (pre1 : x_left ≤ 1048576) : Fn Try.prog 74 #[v_x_a, (.int .i64 x_left)] w0 (fun v w' => Keep w0 w' ∧ O_3 w' w0.heap.size v (F_laws_szByteS x_a x_left)) := by
  obtain ⟨a1, c2, rfl, r3, s4⟩ := r_x_a
  refine fn_of (n := 12) (l := [(.slice a1 x_a.length c2), (.int .i64 x_left), undef, undef, undef, undef, undef, undef, undef, undef, undef, undef]) Try.func74 rfl rfl (by kernel_rfl) rfl ?_
  refine wc_seq ?_
  refine wc_region ?_
  refine wl_mv (.int .i64 0) (want_none rfl) rfl rfl (.inr rfl) rfl ?_
  refine wl_nil ?_
  refine wq_then ?_
  refine wc_seq ?_
  refine wc_region ?_
  refine wl_mv (.int .i64 x_left) (want_none rfl) rfl rfl (.inl rfl) rfl ?_
  refine wl_mv (.slice a1 x_a.length c2) (want_none rfl) rfl rfl (.inl rfl) rfl ?_
  refine wl_len (want_none rfl) rfl rfl rfl slTy_22 rfl r3 ?_
  refine wl_arith (x_left - (x_a.length : Int)) (want_none rfl) rfl rfl (by kernel_rfl) (by omega) (by omega) ?_
  refine wl_mv (.int .i64 (x_left - (x_a.length : Int))) (want_none rfl) rfl rfl (.inr rfl) rfl ?_
  refine wl_nil ?_
  refine wq_then ?_
  refine wc_seq ?_
  refine wc_seq ?_
  refine wc_region ?_
  refine wl_mv (.int .i64 (x_left - (x_a.length : Int))) (want_none rfl) rfl rfl (.inl rfl) rfl ?_
  refine wl_pure (.bool (decide ((x_left - (x_a.length : Int)) < 0))) (want_none rfl) rfl rfl (by kernel_rfl) ?_
  refine wl_nil ?_
  refine wq_then ?_
  rcases Bool.eq_false_or_eq_true (decide ((x_left - (x_a.length : Int)) < 0)) with h6 | h6
  · have q7 := of_decide_eq_true h6
    refine wc_true (congrArg Value.bool h6) ?_
    refine wc_seq ?_
    refine wc_region ?_
    refine wl_mv (.int .i64 (-1)) (want_none rfl) rfl rfl (.inr rfl) rfl ?_
    refine wl_nil ?_
    refine wq_then ?_
    refine wc_ret ?_
    refine wq_then_ret ?_
    refine ret_1 (.inl rfl) (.int .i64 (-1)) rfl rfl ?_
    refine ⟨Ch.refl _ _, ?_⟩
    have hF8 : F_laws_szByteS x_a x_left = (-1) := by simp only [F_laws_szByteS, h6, cond_true, cond_false]
    rw [hF8]
    exact rfl
  · have q9 := of_decide_eq_false h6
    refine wc_false (congrArg Value.bool h6) ?_
    refine wc_skip ?_
    refine wq_then ?_
    refine wc_seq ?_
    refine wc_region ?_
    refine wl_mv (.int .i64 (x_left - (x_a.length : Int))) (want_none rfl) rfl rfl (.inl rfl) rfl ?_
    refine wl_mv (.int .i64 (x_left - (x_a.length : Int))) (want_none rfl) rfl rfl (.inr rfl) rfl ?_
    refine wl_nil ?_
    refine wq_then ?_
    refine wc_ret ?_
    refine ret_1 (.inl rfl) (.int .i64 (x_left - (x_a.length : Int))) rfl rfl ?_
    refine ⟨Ch.refl _ _, ?_⟩
    have hF10 : F_laws_szByteS x_a x_left = (x_left - (x_a.length : Int)) := by simp only [F_laws_szByteS, h6, cond_true, cond_false]
    rw [hF10]
    exact rfl
theorem laws_szByteS_le (x : List UInt8) (l : Int) : F_laws_szByteS x l = -1 ∨ (F_laws_szByteS x l = l - ((x.length : Int)) ∧ (0 ≤ F_laws_szByteS x l ∨ l < 0 ∨ False)) := by

  simp only [F_laws_szByteS, cond_eq_ite, decide_eq_true_eq]
  (repeat' split) <;> omega

def Q_23 (w : World) (v : Value) (x : (List Int)) : Prop := ∃ (a1 : Option Addr) (c1 : Nat), v = .slice a1 x.length c1 ∧ Rd w 1 (.slice a1 x.length c1) x.length (x.map iV) ∧ x.length ≤ 9223372036854775807
def F_laws_szIntS (x_a : List Int) (x_left : Int) : (Int) := bif (decide ((x_left - (x_a.length : Int)) < 0)) then ((-1)) else ((x_left - (x_a.length : Int)))
theorem C_laws_szIntS (w0 : World) (v_x_a : Value) (x_a : List Int) (r_x_a : Q_23 w0 v_x_a x_a) (x_left : Int) (pre0 : 0 ≤ x_left) (pre1 : x_left ≤ 1048576) : Fn Try.prog 122 #[v_x_a, (.int .i64 x_left)] w0 (fun v w' => Keep w0 w' ∧ O_3 w' w0.heap.size v (F_laws_szIntS x_a x_left)) := by
  obtain ⟨a1, c2, rfl, r3, s4⟩ := r_x_a
  refine fn_of (n := 12) (l := [(.slice a1 x_a.length c2), (.int .i64 x_left), undef, undef, undef, undef, undef, undef, undef, undef, undef, undef]) Try.func122 rfl rfl (by kernel_rfl) rfl ?_
  refine wc_seq ?_
  refine wc_region ?_
  refine wl_mv (.int .i64 0) (want_none rfl) rfl rfl (.inr rfl) rfl ?_
  refine wl_nil ?_
  refine wq_then ?_
  refine wc_seq ?_
  refine wc_region ?_
  refine wl_mv (.int .i64 x_left) (want_none rfl) rfl rfl (.inl rfl) rfl ?_
  refine wl_mv (.slice a1 x_a.length c2) (want_none rfl) rfl rfl (.inl rfl) rfl ?_
  refine wl_len (want_none rfl) rfl rfl rfl slTy_23 rfl r3 ?_
  refine wl_arith (x_left - (x_a.length : Int)) (want_none rfl) rfl rfl (by kernel_rfl) (by omega) (by omega) ?_
  refine wl_mv (.int .i64 (x_left - (x_a.length : Int))) (want_none rfl) rfl rfl (.inr rfl) rfl ?_
  refine wl_nil ?_
  refine wq_then ?_
  refine wc_seq ?_
  refine wc_seq ?_
  refine wc_region ?_
  refine wl_mv (.int .i64 (x_left - (x_a.length : Int))) (want_none rfl) rfl rfl (.inl rfl) rfl ?_
  refine wl_pure (.bool (decide ((x_left - (x_a.length : Int)) < 0))) (want_none rfl) rfl rfl (by kernel_rfl) ?_
  refine wl_nil ?_
  refine wq_then ?_
  rcases Bool.eq_false_or_eq_true (decide ((x_left - (x_a.length : Int)) < 0)) with h6 | h6
  · have q7 := of_decide_eq_true h6
    refine wc_true (congrArg Value.bool h6) ?_
    refine wc_seq ?_
    refine wc_region ?_
    refine wl_mv (.int .i64 (-1)) (want_none rfl) rfl rfl (.inr rfl) rfl ?_
    refine wl_nil ?_
    refine wq_then ?_
    refine wc_ret ?_
    refine wq_then_ret ?_
    refine ret_1 (.inl rfl) (.int .i64 (-1)) rfl rfl ?_
    refine ⟨Ch.refl _ _, ?_⟩
    have hF8 : F_laws_szIntS x_a x_left = (-1) := by simp only [F_laws_szIntS, h6, cond_true, cond_false]
    rw [hF8]
    exact rfl
  · have q9 := of_decide_eq_false h6
    refine wc_false (congrArg Value.bool h6) ?_
    refine wc_skip ?_
    refine wq_then ?_
    refine wc_seq ?_
    refine wc_region ?_
    refine wl_mv (.int .i64 (x_left - (x_a.length : Int))) (want_none rfl) rfl rfl (.inl rfl) rfl ?_
    refine wl_mv (.int .i64 (x_left - (x_a.length : Int))) (want_none rfl) rfl rfl (.inr rfl) rfl ?_
    refine wl_nil ?_
    refine wq_then ?_
    refine wc_ret ?_
    refine ret_1 (.inl rfl) (.int .i64 (x_left - (x_a.length : Int))) rfl rfl ?_
    refine ⟨Ch.refl _ _, ?_⟩
    have hF10 : F_laws_szIntS x_a x_left = (x_left - (x_a.length : Int)) := by simp only [F_laws_szIntS, h6, cond_true, cond_false]
    rw [hF10]
    exact rfl
theorem laws_szIntS_le (x : List Int) (l : Int) : F_laws_szIntS x l = -1 ∨ (F_laws_szIntS x l = l - ((x.length : Int)) ∧ (0 ≤ F_laws_szIntS x l ∨ l < 0 ∨ False)) := by

  simp only [F_laws_szIntS, cond_eq_ite, decide_eq_true_eq]
  (repeat' split) <;> omega

def Q_37 (w : World) (v : Value) (x : (PWin)) : Prop := ∃ (a1 : Option Addr) (c1 : Nat), v = .agg #[.int .i64 x.Top, .slice a1 x.Bits.length c1] ∧ Rd w 1 (.slice a1 x.Bits.length c1) x.Bits.length (x.Bits.map iV) ∧ x.Bits.length ≤ 9223372036854775807
def F_laws_szWin (x_a : PWin) (x_left : Int) : (Int) := bif (decide ((F_laws_szIntS x_a.Bits x_left) < 0)) then ((-1)) else ((F_laws_szIntS x_a.Bits x_left))
theorem C_laws_szWin (w0 : World) (v_x_a : Value) (x_a : PWin) (r_x_a : Q_37 w0 v_x_a x_a) (x_left : Int) (pre0 : 0 ≤ x_left) (pre1 : x_left ≤ 1048576) : Fn Try.prog 108 #[v_x_a, (.int .i64 x_left)] w0 (fun v w' => Keep w0 w' ∧ O_3 w' w0.heap.size v (F_laws_szWin x_a x_left)) := by
  obtain ⟨a1, c2, rfl, r3, s4⟩ := r_x_a
  refine fn_of (n := 12) (l := [(.agg #[(.int .i64 x_a.Top), (.slice a1 x_a.Bits.length c2)]), (.int .i64 x_left), undef, undef, undef, undef, undef, undef, undef, undef, undef, undef]) Try.func108 rfl rfl (by kernel_rfl) rfl ?_
  refine wc_seq ?_
  refine wc_region ?_
  refine wl_box (want_none rfl) [(.int .i64 x_a.Top), (.slice a1 x_a.Bits.length c2)] rfl rfl rfl rfl ?_
  intro g6 w1 p7 p8 k9 b10
  have m11 := (Ch.base w0).extk k9
  refine wl_mv (.int .i64 0) (want_none rfl) rfl rfl (.inr rfl) rfl ?_
  refine wl_nil ?_
  refine wq_then ?_
  refine wc_seq ?_
  refine wc_region ?_
  refine wl_pure (.pointer (some ⟨g6, 1, none⟩)) (want_none rfl) rfl rfl (by kernel_rfl) ?_
  refine wl_load1 (.slice a1 x_a.Bits.length c2) (want_none rfl) rfl rfl rfl rfl isAgg_23 b10 rfl ?_
  refine wl_mv (.int .i64 x_left) (want_none rfl) rfl rfl (.inl rfl) rfl ?_
  refine wl_call (want_none rfl) (args := #[(.slice a1 x_a.Bits.length c2), (.int .i64 x_left)]) rfl rfl (by kernel_rfl) (C_laws_szIntS w1 (.slice a1 x_a.Bits.length c2) x_a.Bits (show Q_23 w1 (.slice a1 x_a.Bits.length c2) x_a.Bits from ⟨_, _, rfl, (r3.from0 m11), s4⟩) x_left (by omega) (by omega)) ?_
  rintro _ w2 ⟨k12, rfl⟩
  have m13 := m11.extk k12
  have q14 := laws_szIntS_le x_a.Bits x_left
  refine wl_mv (.int .i64 (F_laws_szIntS x_a.Bits x_left)) (want_none rfl) rfl rfl (.inr rfl) rfl ?_
  refine wl_nil ?_
  refine wq_then ?_
  refine wc_seq ?_
  refine wc_seq ?_
  refine wc_region ?_
  refine wl_mv (.int .i64 (F_laws_szIntS x_a.Bits x_left)) (want_none rfl) rfl rfl (.inl rfl) rfl ?_
  refine wl_pure (.bool (decide ((F_laws_szIntS x_a.Bits x_left) < 0))) (want_none rfl) rfl rfl (by kernel_rfl) ?_
  refine wl_nil ?_
  refine wq_then ?_
  rcases Bool.eq_false_or_eq_true (decide ((F_laws_szIntS x_a.Bits x_left) < 0)) with h15 | h15
  · have q16 := of_decide_eq_true h15
    refine wc_true (congrArg Value.bool h15) ?_
    refine wc_seq ?_
    refine wc_region ?_
    refine wl_mv (.int .i64 (-1)) (want_none rfl) rfl rfl (.inr rfl) rfl ?_
    refine wl_nil ?_
    refine wq_then ?_
    refine wc_ret ?_
    refine wq_then_ret ?_
    refine ret_1 (.inl rfl) (.int .i64 (-1)) rfl rfl ?_
    refine ⟨m13.keep0, ?_⟩
    have hF17 : F_laws_szWin x_a x_left = (-1) := by simp only [F_laws_szWin, h15, cond_true, cond_false]
    rw [hF17]
    exact rfl
  · have q18 := of_decide_eq_false h15
    refine wc_false (congrArg Value.bool h15) ?_
    refine wc_skip ?_
    refine wq_then ?_
    refine wc_seq ?_
    refine wc_region ?_
    refine wl_mv (.int .i64 (F_laws_szIntS x_a.Bits x_left)) (want_none rfl) rfl rfl (.inl rfl) rfl ?_
    refine wl_mv (.int .i64 (F_laws_szIntS x_a.Bits x_left)) (want_none rfl) rfl rfl (.inr rfl) rfl ?_
    refine wl_nil ?_
    refine wq_then ?_
    refine wc_ret ?_
    refine ret_1 (.inl rfl) (.int .i64 (F_laws_szIntS x_a.Bits x_left)) rfl rfl ?_
    refine ⟨m13.keep0, ?_⟩
    have hF19 : F_laws_szWin x_a x_left = (F_laws_szIntS x_a.Bits x_left) := by simp only [F_laws_szWin, h15, cond_true, cond_false]
    rw [hF19]
    exact rfl
theorem laws_szWin_le (x : PWin) (l : Int) : F_laws_szWin x l = -1 ∨ (F_laws_szWin x l = l - ((x.Bits.length : Int)) ∧ (0 ≤ F_laws_szWin x l ∨ l < 0 ∨ False)) := by
  have h0 := laws_szIntS_le x.Bits l
  simp only [F_laws_szWin, cond_eq_ite, decide_eq_true_eq]
  (repeat' split) <;> omega

theorem isAgg_37 : ∀ w, (isAgg 37).run Try.prog w = .ok true w := fun w => by kernel_rfl
theorem sizeOf_37 : ∀ w, (sizeOf 37).run Try.prog w = .ok 2 w := fun w => by kernel_rfl
def Q_39 (w : World) (v : Value) (x : (PEp)) : Prop := ∃ (a1 : Option Addr) (c1 : Nat) (a2 : Option Addr) (c2 : Nat), v = .agg #[.int .i64 x.N, .slice a1 x.Key.length c1, .int .i64 x.Seq, .int .i64 x.Win.Top, .slice a2 x.Win.Bits.length c2] ∧ Rd w 1 (.slice a1 x.Key.length c1) x.Key.length (x.Key.map bV) ∧ x.Key.length ≤ 9223372036854775807 ∧ Rd w 1 (.slice a2 x.Win.Bits.length c2) x.Win.Bits.length (x.Win.Bits.map iV) ∧ x.Win.Bits.length ≤ 9223372036854775807
def F_laws_szEp (x_a : PEp) (x_left : Int) : (Int) := bif (decide ((F_laws_szByteS x_a.Key x_left) < 0)) then ((-1)) else (bif (decide ((F_laws_szWin x_a.Win (F_laws_szByteS x_a.Key x_left)) < 0)) then ((-1)) else ((F_laws_szWin x_a.Win (F_laws_szByteS x_a.Key x_left))))
theorem C_laws_szEp (w0 : World) (v_x_a : Value) (x_a : PEp) (r_x_a : Q_39 w0 v_x_a x_a) (x_left : Int) (pre0 : 0 ≤ x_left) (pre1 : x_left ≤ 1048576) : Fn Try.prog 75 #[v_x_a, (.int .i64 x_left)] w0 (fun v w' => Keep w0 w' ∧ O_3 w' w0.heap.size v (F_laws_szEp x_a x_left)) := by
  obtain ⟨a1, c2, a6, c7, rfl, r3, s4, r8, s9⟩ := r_x_a
  refine fn_of (n := 18) (l := [(.agg #[(.int .i64 x_a.N), (.slice a1 x_a.Key.length c2), (.int .i64 x_a.Seq), (.int .i64 x_a.Win.Top), (.slice a6 x_a.Win.Bits.length c7)]), (.int .i64 x_left), undef, undef, undef, undef, undef, undef, undef, undef, undef, undef, undef, undef, undef, undef, undef, undef]) Try.func75 rfl rfl (by kernel_rfl) rfl ?_
  refine wc_seq ?_
  refine wc_region ?_
  refine wl_box (want_none rfl) [(.int .i64 x_a.N), (.slice a1 x_a.Key.length c2), (.int .i64 x_a.Seq), (.int .i64 x_a.Win.Top), (.slice a6 x_a.Win.Bits.length c7)] rfl rfl rfl rfl ?_
  intro g11 w1 p12 p13 k14 b15
  have m16 := (Ch.base w0).extk k14
  refine wl_mv (.int .i64 0) (want_none rfl) rfl rfl (.inr rfl) rfl ?_
  refine wl_nil ?_
  refine wq_then ?_
  refine wc_seq ?_
  refine wc_region ?_
  refine wl_pure (.pointer (some ⟨g11, 1, none⟩)) (want_none rfl) rfl rfl (by kernel_rfl) ?_
  refine wl_load1 (.slice a1 x_a.Key.length c2) (want_none rfl) rfl rfl rfl rfl isAgg_22 b15 rfl ?_
  refine wl_mv (.int .i64 x_left) (want_none rfl) rfl rfl (.inl rfl) rfl ?_
  refine wl_call (want_none rfl) (args := #[(.slice a1 x_a.Key.length c2), (.int .i64 x_left)]) rfl rfl (by kernel_rfl) (C_laws_szByteS w1 (.slice a1 x_a.Key.length c2) x_a.Key (show Q_22 w1 (.slice a1 x_a.Key.length c2) x_a.Key from ⟨_, _, rfl, (r3.from0 m16), s4⟩) x_left (by omega) (by omega)) ?_
  rintro _ w2 ⟨k17, rfl⟩
  have m18 := m16.extk k17
  have q19 := laws_szByteS_le x_a.Key x_left
  refine wl_mv (.int .i64 (F_laws_szByteS x_a.Key x_left)) (want_none rfl) rfl rfl (.inr rfl) rfl ?_
  refine wl_nil ?_
  refine wq_then ?_
  refine wc_seq ?_
  refine wc_seq ?_
  refine wc_region ?_
  refine wl_mv (.int .i64 (F_laws_szByteS x_a.Key x_left)) (want_none rfl) rfl rfl (.inl rfl) rfl ?_
  refine wl_pure (.bool (decide ((F_laws_szByteS x_a.Key x_left) < 0))) (want_none rfl) rfl rfl (by kernel_rfl) ?_
  refine wl_nil ?_
  refine wq_then ?_
  rcases Bool.eq_false_or_eq_true (decide ((F_laws_szByteS x_a.Key x_left) < 0)) with h20 | h20
  · have q21 := of_decide_eq_true h20
    refine wc_true (congrArg Value.bool h20) ?_
    refine wc_seq ?_
    refine wc_region ?_
    refine wl_mv (.int .i64 (-1)) (want_none rfl) rfl rfl (.inr rfl) rfl ?_
    refine wl_nil ?_
    refine wq_then ?_
    refine wc_ret ?_
    refine wq_then_ret ?_
    refine ret_1 (.inl rfl) (.int .i64 (-1)) rfl rfl ?_
    refine ⟨m18.keep0, ?_⟩
    have hF22 : F_laws_szEp x_a x_left = (-1) := by simp only [F_laws_szEp, h20, cond_true, cond_false]
    rw [hF22]
    exact rfl
  · have q23 := of_decide_eq_false h20
    refine wc_false (congrArg Value.bool h20) ?_
    refine wc_skip ?_
    refine wq_then ?_
    refine wc_seq ?_
    refine wc_region ?_
    refine wl_pure (.pointer (some ⟨g11, 3, none⟩)) (want_none rfl) rfl rfl (by kernel_rfl) ?_
    have b24 := (b15.kp k17)
    refine wl_loadN [(.int .i64 x_a.Win.Top), (.slice a6 x_a.Win.Bits.length c7)] (want_none rfl) rfl rfl rfl rfl isAgg_37 sizeOf_37 b24 rfl ?_
    refine wl_mv (.int .i64 (F_laws_szByteS x_a.Key x_left)) (want_none rfl) rfl rfl (.inl rfl) rfl ?_
    refine wl_call (want_none rfl) (args := #[(.agg #[(.int .i64 x_a.Win.Top), (.slice a6 x_a.Win.Bits.length c7)]), (.int .i64 (F_laws_szByteS x_a.Key x_left))]) rfl rfl (by kernel_rfl) (C_laws_szWin w2 (.agg #[(.int .i64 x_a.Win.Top), (.slice a6 x_a.Win.Bits.length c7)]) x_a.Win (show Q_37 w2 (.agg #[(.int .i64 x_a.Win.Top), (.slice a6 x_a.Win.Bits.length c7)]) x_a.Win from ⟨_, _, rfl, (r8.from0 m18), s9⟩) (F_laws_szByteS x_a.Key x_left) (by omega) (by omega)) ?_
    rintro _ w3 ⟨k25, rfl⟩
    have m26 := m18.extk k25
    have q27 := laws_szWin_le x_a.Win (F_laws_szByteS x_a.Key x_left)
    refine wl_mv (.int .i64 (F_laws_szWin x_a.Win (F_laws_szByteS x_a.Key x_left))) (want_none rfl) rfl rfl (.inr rfl) rfl ?_
    refine wl_nil ?_
    refine wq_then ?_
    refine wc_seq ?_
    refine wc_seq ?_
    refine wc_region ?_
    refine wl_mv (.int .i64 (F_laws_szWin x_a.Win (F_laws_szByteS x_a.Key x_left))) (want_none rfl) rfl rfl (.inl rfl) rfl ?_
    refine wl_pure (.bool (decide ((F_laws_szWin x_a.Win (F_laws_szByteS x_a.Key x_left)) < 0))) (want_none rfl) rfl rfl (by kernel_rfl) ?_
    refine wl_nil ?_
    refine wq_then ?_
    rcases Bool.eq_false_or_eq_true (decide ((F_laws_szWin x_a.Win (F_laws_szByteS x_a.Key x_left)) < 0)) with h28 | h28
    · have q29 := of_decide_eq_true h28
      refine wc_true (congrArg Value.bool h28) ?_
      refine wc_seq ?_
      refine wc_region ?_
      refine wl_mv (.int .i64 (-1)) (want_none rfl) rfl rfl (.inr rfl) rfl ?_
      refine wl_nil ?_
      refine wq_then ?_
      refine wc_ret ?_
      refine wq_then_ret ?_
      refine ret_1 (.inl rfl) (.int .i64 (-1)) rfl rfl ?_
      refine ⟨m26.keep0, ?_⟩
      have hF30 : F_laws_szEp x_a x_left = (-1) := by simp only [F_laws_szEp, h20, h28, cond_true, cond_false]
      rw [hF30]
      exact rfl
    · have q31 := of_decide_eq_false h28
      refine wc_false (congrArg Value.bool h28) ?_
      refine wc_skip ?_
      refine wq_then ?_
      refine wc_seq ?_
      refine wc_region ?_
      refine wl_mv (.int .i64 (F_laws_szWin x_a.Win (F_laws_szByteS x_a.Key x_left))) (want_none rfl) rfl rfl (.inl rfl) rfl ?_
      refine wl_mv (.int .i64 (F_laws_szWin x_a.Win (F_laws_szByteS x_a.Key x_left))) (want_none rfl) rfl rfl (.inr rfl) rfl ?_
      refine wl_nil ?_
      refine wq_then ?_
      refine wc_ret ?_
      refine ret_1 (.inl rfl) (.int .i64 (F_laws_szWin x_a.Win (F_laws_szByteS x_a.Key x_left))) rfl rfl ?_
      refine ⟨m26.keep0, ?_⟩
      have hF32 : F_laws_szEp x_a x_left = (F_laws_szWin x_a.Win (F_laws_szByteS x_a.Key x_left)) := by simp only [F_laws_szEp, h20, h28, cond_true, cond_false]
      rw [hF32]
      exact rfl
theorem laws_szEp_le (x : PEp) (l : Int) : F_laws_szEp x l = -1 ∨ (F_laws_szEp x l = l - ((x.Key.length : Int) + (x.Win.Bits.length : Int)) ∧ (0 ≤ F_laws_szEp x l ∨ l < 0 ∨ False)) := by
  have h0 := laws_szByteS_le x.Key l
  have h1 := laws_szWin_le x.Win (F_laws_szByteS x.Key l)
  simp only [F_laws_szEp, cond_eq_ite, decide_eq_true_eq]
  (repeat' split) <;> omega

theorem isAgg_39 : ∀ w, (isAgg 39).run Try.prog w = .ok true w := fun w => by kernel_rfl
theorem sizeOf_39 : ∀ w, (sizeOf 39).run Try.prog w = .ok 5 w := fun w => by kernel_rfl
def Q_41 (w : World) (v : Value) (x : (PChan)) : Prop := ∃ (a1 : Option Addr) (c1 : Nat) (a2 : Option Addr) (c2 : Nat) (a3 : Option Addr) (c3 : Nat) (a4 : Option Addr) (c4 : Nat) (a5 : Option Addr) (c5 : Nat) (a6 : Option Addr) (c6 : Nat), v = .agg #[.int .i64 x.Role, .slice a1 x.Sn.length c1, .int .i64 x.Cur.N, .slice a2 x.Cur.Key.length c2, .int .i64 x.Cur.Seq, .int .i64 x.Cur.Win.Top, .slice a3 x.Cur.Win.Bits.length c3, .int .i64 x.Old.N, .slice a4 x.Old.Key.length c4, .int .i64 x.Old.Seq, .int .i64 x.Old.Win.Top, .slice a5 x.Old.Win.Bits.length c5, .bool x.HasOld, .int .i64 x.Until, .slice a6 x.Next.length c6] ∧ Rd w 1 (.slice a1 x.Sn.length c1) x.Sn.length (x.Sn.map bV) ∧ x.Sn.length ≤ 9223372036854775807 ∧ Rd w 1 (.slice a2 x.Cur.Key.length c2) x.Cur.Key.length (x.Cur.Key.map bV) ∧ x.Cur.Key.length ≤ 9223372036854775807 ∧ Rd w 1 (.slice a3 x.Cur.Win.Bits.length c3) x.Cur.Win.Bits.length (x.Cur.Win.Bits.map iV) ∧ x.Cur.Win.Bits.length ≤ 9223372036854775807 ∧ Rd w 1 (.slice a4 x.Old.Key.length c4) x.Old.Key.length (x.Old.Key.map bV) ∧ x.Old.Key.length ≤ 9223372036854775807 ∧ Rd w 1 (.slice a5 x.Old.Win.Bits.length c5) x.Old.Win.Bits.length (x.Old.Win.Bits.map iV) ∧ x.Old.Win.Bits.length ≤ 9223372036854775807 ∧ Rd w 1 (.slice a6 x.Next.length c6) x.Next.length (x.Next.map bV) ∧ x.Next.length ≤ 9223372036854775807
def F_laws_szChan (x_a : PChan) (x_left : Int) : (Int) := bif (decide ((F_laws_szByteS x_a.Sn x_left) < 0)) then ((-1)) else (bif (decide ((F_laws_szEp x_a.Cur (F_laws_szByteS x_a.Sn x_left)) < 0)) then ((-1)) else (bif (decide ((F_laws_szEp x_a.Old (F_laws_szEp x_a.Cur (F_laws_szByteS x_a.Sn x_left))) < 0)) then ((-1)) else (bif (decide ((F_laws_szByteS x_a.Next (F_laws_szEp x_a.Old (F_laws_szEp x_a.Cur (F_laws_szByteS x_a.Sn x_left)))) < 0)) then ((-1)) else ((F_laws_szByteS x_a.Next (F_laws_szEp x_a.Old (F_laws_szEp x_a.Cur (F_laws_szByteS x_a.Sn x_left))))))))
theorem C_laws_szChan (w0 : World) (v_x_a : Value) (x_a : PChan) (r_x_a : Q_41 w0 v_x_a x_a) (x_left : Int) (pre0 : 0 ≤ x_left) (pre1 : x_left ≤ 1048576) : Fn Try.prog 23 #[v_x_a, (.int .i64 x_left)] w0 (fun v w' => Keep w0 w' ∧ O_3 w' w0.heap.size v (F_laws_szChan x_a x_left)) := by
  obtain ⟨a1, c2, a6, c7, a11, c12, a16, c17, a21, c22, a26, c27, rfl, r3, s4, r8, s9, r13, s14, r18, s19, r23, s24, r28, s29⟩ := r_x_a
  refine fn_of (n := 30) (l := [(.agg #[(.int .i64 x_a.Role), (.slice a1 x_a.Sn.length c2), (.int .i64 x_a.Cur.N), (.slice a6 x_a.Cur.Key.length c7), (.int .i64 x_a.Cur.Seq), (.int .i64 x_a.Cur.Win.Top), (.slice a11 x_a.Cur.Win.Bits.length c12), (.int .i64 x_a.Old.N), (.slice a16 x_a.Old.Key.length c17), (.int .i64 x_a.Old.Seq), (.int .i64 x_a.Old.Win.Top), (.slice a21 x_a.Old.Win.Bits.length c22), (.bool x_a.HasOld), (.int .i64 x_a.Until), (.slice a26 x_a.Next.length c27)]), (.int .i64 x_left), undef, undef, undef, undef, undef, undef, undef, undef, undef, undef, undef, undef, undef, undef, undef, undef, undef, undef, undef, undef, undef, undef, undef, undef, undef, undef, undef, undef]) Try.func23 rfl rfl (by kernel_rfl) rfl ?_
  refine wc_seq ?_
  refine wc_region ?_
  refine wl_box (want_none rfl) [(.int .i64 x_a.Role), (.slice a1 x_a.Sn.length c2), (.int .i64 x_a.Cur.N), (.slice a6 x_a.Cur.Key.length c7), (.int .i64 x_a.Cur.Seq), (.int .i64 x_a.Cur.Win.Top), (.slice a11 x_a.Cur.Win.Bits.length c12), (.int .i64 x_a.Old.N), (.slice a16 x_a.Old.Key.length c17), (.int .i64 x_a.Old.Seq), (.int .i64 x_a.Old.Win.Top), (.slice a21 x_a.Old.Win.Bits.length c22), (.bool x_a.HasOld), (.int .i64 x_a.Until), (.slice a26 x_a.Next.length c27)] rfl rfl rfl rfl ?_
  intro g31 w1 p32 p33 k34 b35
  have m36 := (Ch.base w0).extk k34
  refine wl_mv (.int .i64 0) (want_none rfl) rfl rfl (.inr rfl) rfl ?_
  refine wl_nil ?_
  refine wq_then ?_
  refine wc_seq ?_
  refine wc_region ?_
  refine wl_pure (.pointer (some ⟨g31, 1, none⟩)) (want_none rfl) rfl rfl (by kernel_rfl) ?_
  refine wl_load1 (.slice a1 x_a.Sn.length c2) (want_none rfl) rfl rfl rfl rfl isAgg_22 b35 rfl ?_
  refine wl_mv (.int .i64 x_left) (want_none rfl) rfl rfl (.inl rfl) rfl ?_
  refine wl_call (want_none rfl) (args := #[(.slice a1 x_a.Sn.length c2), (.int .i64 x_left)]) rfl rfl (by kernel_rfl) (C_laws_szByteS w1 (.slice a1 x_a.Sn.length c2) x_a.Sn (show Q_22 w1 (.slice a1 x_a.Sn.length c2) x_a.Sn from ⟨_, _, rfl, (r3.from0 m36), s4⟩) x_left (by omega) (by omega)) ?_
  rintro _ w2 ⟨k37, rfl⟩
  have m38 := m36.extk k37
  have q39 := laws_szByteS_le x_a.Sn x_left
  refine wl_mv (.int .i64 (F_laws_szByteS x_a.Sn x_left)) (want_none rfl) rfl rfl (.inr rfl) rfl ?_
  refine wl_nil ?_
  refine wq_then ?_
  refine wc_seq ?_
  refine wc_seq ?_
  refine wc_region ?_
  refine wl_mv (.int .i64 (F_laws_szByteS x_a.Sn x_left)) (want_none rfl) rfl rfl (.inl rfl) rfl ?_
  refine wl_pure (.bool (decide ((F_laws_szByteS x_a.Sn x_left) < 0))) (want_none rfl) rfl rfl (by kernel_rfl) ?_
  refine wl_nil ?_
  refine wq_then ?_
  rcases Bool.eq_false_or_eq_true (decide ((F_laws_szByteS x_a.Sn x_left) < 0)) with h40 | h40
  · have q41 := of_decide_eq_true h40
    refine wc_true (congrArg Value.bool h40) ?_
    refine wc_seq ?_
    refine wc_region ?_
    refine wl_mv (.int .i64 (-1)) (want_none rfl) rfl rfl (.inr rfl) rfl ?_
    refine wl_nil ?_
    refine wq_then ?_
    refine wc_ret ?_
    refine wq_then_ret ?_
    refine ret_1 (.inl rfl) (.int .i64 (-1)) rfl rfl ?_
    refine ⟨m38.keep0, ?_⟩
    have hF42 : F_laws_szChan x_a x_left = (-1) := by simp only [F_laws_szChan, h40, cond_true, cond_false]
    rw [hF42]
    exact rfl
  · have q43 := of_decide_eq_false h40
    refine wc_false (congrArg Value.bool h40) ?_
    refine wc_skip ?_
    refine wq_then ?_
    refine wc_seq ?_
    refine wc_region ?_
    refine wl_pure (.pointer (some ⟨g31, 2, none⟩)) (want_none rfl) rfl rfl (by kernel_rfl) ?_
    have b44 := (b35.kp k37)
    refine wl_loadN [(.int .i64 x_a.Cur.N), (.slice a6 x_a.Cur.Key.length c7), (.int .i64 x_a.Cur.Seq), (.int .i64 x_a.Cur.Win.Top), (.slice a11 x_a.Cur.Win.Bits.length c12)] (want_none rfl) rfl rfl rfl rfl isAgg_39 sizeOf_39 b44 rfl ?_
    refine wl_mv (.int .i64 (F_laws_szByteS x_a.Sn x_left)) (want_none rfl) rfl rfl (.inl rfl) rfl ?_
    refine wl_call (want_none rfl) (args := #[(.agg #[(.int .i64 x_a.Cur.N), (.slice a6 x_a.Cur.Key.length c7), (.int .i64 x_a.Cur.Seq), (.int .i64 x_a.Cur.Win.Top), (.slice a11 x_a.Cur.Win.Bits.length c12)]), (.int .i64 (F_laws_szByteS x_a.Sn x_left))]) rfl rfl (by kernel_rfl) (C_laws_szEp w2 (.agg #[(.int .i64 x_a.Cur.N), (.slice a6 x_a.Cur.Key.length c7), (.int .i64 x_a.Cur.Seq), (.int .i64 x_a.Cur.Win.Top), (.slice a11 x_a.Cur.Win.Bits.length c12)]) x_a.Cur (show Q_39 w2 (.agg #[(.int .i64 x_a.Cur.N), (.slice a6 x_a.Cur.Key.length c7), (.int .i64 x_a.Cur.Seq), (.int .i64 x_a.Cur.Win.Top), (.slice a11 x_a.Cur.Win.Bits.length c12)]) x_a.Cur from ⟨_, _, _, _, rfl, (r8.from0 m38), s9, (r13.from0 m38), s14⟩) (F_laws_szByteS x_a.Sn x_left) (by omega) (by omega)) ?_
    rintro _ w3 ⟨k45, rfl⟩
    have m46 := m38.extk k45
    have q47 := laws_szEp_le x_a.Cur (F_laws_szByteS x_a.Sn x_left)
    refine wl_mv (.int .i64 (F_laws_szEp x_a.Cur (F_laws_szByteS x_a.Sn x_left))) (want_none rfl) rfl rfl (.inr rfl) rfl ?_
    refine wl_nil ?_
    refine wq_then ?_
    refine wc_seq ?_
    refine wc_seq ?_
    refine wc_region ?_
    refine wl_mv (.int .i64 (F_laws_szEp x_a.Cur (F_laws_szByteS x_a.Sn x_left))) (want_none rfl) rfl rfl (.inl rfl) rfl ?_
    refine wl_pure (.bool (decide ((F_laws_szEp x_a.Cur (F_laws_szByteS x_a.Sn x_left)) < 0))) (want_none rfl) rfl rfl (by kernel_rfl) ?_
    refine wl_nil ?_
    refine wq_then ?_
    rcases Bool.eq_false_or_eq_true (decide ((F_laws_szEp x_a.Cur (F_laws_szByteS x_a.Sn x_left)) < 0)) with h48 | h48
    · have q49 := of_decide_eq_true h48
      refine wc_true (congrArg Value.bool h48) ?_
      refine wc_seq ?_
      refine wc_region ?_
      refine wl_mv (.int .i64 (-1)) (want_none rfl) rfl rfl (.inr rfl) rfl ?_
      refine wl_nil ?_
      refine wq_then ?_
      refine wc_ret ?_
      refine wq_then_ret ?_
      refine ret_1 (.inl rfl) (.int .i64 (-1)) rfl rfl ?_
      refine ⟨m46.keep0, ?_⟩
      have hF50 : F_laws_szChan x_a x_left = (-1) := by simp only [F_laws_szChan, h40, h48, cond_true, cond_false]
      rw [hF50]
      exact rfl
    · have q51 := of_decide_eq_false h48
      refine wc_false (congrArg Value.bool h48) ?_
      refine wc_skip ?_
      refine wq_then ?_
      refine wc_seq ?_
      refine wc_region ?_
      refine wl_pure (.pointer (some ⟨g31, 7, none⟩)) (want_none rfl) rfl rfl (by kernel_rfl) ?_
      have b52 := (b44.kp k45)
      refine wl_loadN [(.int .i64 x_a.Old.N), (.slice a16 x_a.Old.Key.length c17), (.int .i64 x_a.Old.Seq), (.int .i64 x_a.Old.Win.Top), (.slice a21 x_a.Old.Win.Bits.length c22)] (want_none rfl) rfl rfl rfl rfl isAgg_39 sizeOf_39 b52 rfl ?_
      refine wl_mv (.int .i64 (F_laws_szEp x_a.Cur (F_laws_szByteS x_a.Sn x_left))) (want_none rfl) rfl rfl (.inl rfl) rfl ?_
      refine wl_call (want_none rfl) (args := #[(.agg #[(.int .i64 x_a.Old.N), (.slice a16 x_a.Old.Key.length c17), (.int .i64 x_a.Old.Seq), (.int .i64 x_a.Old.Win.Top), (.slice a21 x_a.Old.Win.Bits.length c22)]), (.int .i64 (F_laws_szEp x_a.Cur (F_laws_szByteS x_a.Sn x_left)))]) rfl rfl (by kernel_rfl) (C_laws_szEp w3 (.agg #[(.int .i64 x_a.Old.N), (.slice a16 x_a.Old.Key.length c17), (.int .i64 x_a.Old.Seq), (.int .i64 x_a.Old.Win.Top), (.slice a21 x_a.Old.Win.Bits.length c22)]) x_a.Old (show Q_39 w3 (.agg #[(.int .i64 x_a.Old.N), (.slice a16 x_a.Old.Key.length c17), (.int .i64 x_a.Old.Seq), (.int .i64 x_a.Old.Win.Top), (.slice a21 x_a.Old.Win.Bits.length c22)]) x_a.Old from ⟨_, _, _, _, rfl, (r18.from0 m46), s19, (r23.from0 m46), s24⟩) (F_laws_szEp x_a.Cur (F_laws_szByteS x_a.Sn x_left)) (by omega) (by omega)) ?_
      rintro _ w4 ⟨k53, rfl⟩
      have m54 := m46.extk k53
      have q55 := laws_szEp_le x_a.Old (F_laws_szEp x_a.Cur (F_laws_szByteS x_a.Sn x_left))
      refine wl_mv (.int .i64 (F_laws_szEp x_a.Old (F_laws_szEp x_a.Cur (F_laws_szByteS x_a.Sn x_left)))) (want_none rfl) rfl rfl (.inr rfl) rfl ?_
      refine wl_nil ?_
      refine wq_then ?_
      refine wc_seq ?_
      refine wc_seq ?_
      refine wc_region ?_
      refine wl_mv (.int .i64 (F_laws_szEp x_a.Old (F_laws_szEp x_a.Cur (F_laws_szByteS x_a.Sn x_left)))) (want_none rfl) rfl rfl (.inl rfl) rfl ?_
      refine wl_pure (.bool (decide ((F_laws_szEp x_a.Old (F_laws_szEp x_a.Cur (F_laws_szByteS x_a.Sn x_left))) < 0))) (want_none rfl) rfl rfl (by kernel_rfl) ?_
      refine wl_nil ?_
      refine wq_then ?_
      rcases Bool.eq_false_or_eq_true (decide ((F_laws_szEp x_a.Old (F_laws_szEp x_a.Cur (F_laws_szByteS x_a.Sn x_left))) < 0)) with h56 | h56
      · have q57 := of_decide_eq_true h56
        refine wc_true (congrArg Value.bool h56) ?_
        refine wc_seq ?_
        refine wc_region ?_
        refine wl_mv (.int .i64 (-1)) (want_none rfl) rfl rfl (.inr rfl) rfl ?_
        refine wl_nil ?_
        refine wq_then ?_
        refine wc_ret ?_
        refine wq_then_ret ?_
        refine ret_1 (.inl rfl) (.int .i64 (-1)) rfl rfl ?_
        refine ⟨m54.keep0, ?_⟩
        have hF58 : F_laws_szChan x_a x_left = (-1) := by simp only [F_laws_szChan, h40, h48, h56, cond_true, cond_false]
        rw [hF58]
        exact rfl
      · have q59 := of_decide_eq_false h56
        refine wc_false (congrArg Value.bool h56) ?_
        refine wc_skip ?_
        refine wq_then ?_
        refine wc_seq ?_
        refine wc_region ?_
        refine wl_pure (.pointer (some ⟨g31, 14, none⟩)) (want_none rfl) rfl rfl (by kernel_rfl) ?_
        have b60 := (b52.kp k53)
        refine wl_load1 (.slice a26 x_a.Next.length c27) (want_none rfl) rfl rfl rfl rfl isAgg_22 b60 rfl ?_
        refine wl_mv (.int .i64 (F_laws_szEp x_a.Old (F_laws_szEp x_a.Cur (F_laws_szByteS x_a.Sn x_left)))) (want_none rfl) rfl rfl (.inl rfl) rfl ?_
        refine wl_call (want_none rfl) (args := #[(.slice a26 x_a.Next.length c27), (.int .i64 (F_laws_szEp x_a.Old (F_laws_szEp x_a.Cur (F_laws_szByteS x_a.Sn x_left))))]) rfl rfl (by kernel_rfl) (C_laws_szByteS w4 (.slice a26 x_a.Next.length c27) x_a.Next (show Q_22 w4 (.slice a26 x_a.Next.length c27) x_a.Next from ⟨_, _, rfl, (r28.from0 m54), s29⟩) (F_laws_szEp x_a.Old (F_laws_szEp x_a.Cur (F_laws_szByteS x_a.Sn x_left))) (by omega) (by omega)) ?_
        rintro _ w5 ⟨k61, rfl⟩
        have m62 := m54.extk k61
        have q63 := laws_szByteS_le x_a.Next (F_laws_szEp x_a.Old (F_laws_szEp x_a.Cur (F_laws_szByteS x_a.Sn x_left)))
        refine wl_mv (.int .i64 (F_laws_szByteS x_a.Next (F_laws_szEp x_a.Old (F_laws_szEp x_a.Cur (F_laws_szByteS x_a.Sn x_left))))) (want_none rfl) rfl rfl (.inr rfl) rfl ?_
        refine wl_nil ?_
        refine wq_then ?_
        refine wc_seq ?_
        refine wc_seq ?_
        refine wc_region ?_
        refine wl_mv (.int .i64 (F_laws_szByteS x_a.Next (F_laws_szEp x_a.Old (F_laws_szEp x_a.Cur (F_laws_szByteS x_a.Sn x_left))))) (want_none rfl) rfl rfl (.inl rfl) rfl ?_
        refine wl_pure (.bool (decide ((F_laws_szByteS x_a.Next (F_laws_szEp x_a.Old (F_laws_szEp x_a.Cur (F_laws_szByteS x_a.Sn x_left)))) < 0))) (want_none rfl) rfl rfl (by kernel_rfl) ?_
        refine wl_nil ?_
        refine wq_then ?_
        rcases Bool.eq_false_or_eq_true (decide ((F_laws_szByteS x_a.Next (F_laws_szEp x_a.Old (F_laws_szEp x_a.Cur (F_laws_szByteS x_a.Sn x_left)))) < 0)) with h64 | h64
        · have q65 := of_decide_eq_true h64
          refine wc_true (congrArg Value.bool h64) ?_
          refine wc_seq ?_
          refine wc_region ?_
          refine wl_mv (.int .i64 (-1)) (want_none rfl) rfl rfl (.inr rfl) rfl ?_
          refine wl_nil ?_
          refine wq_then ?_
          refine wc_ret ?_
          refine wq_then_ret ?_
          refine ret_1 (.inl rfl) (.int .i64 (-1)) rfl rfl ?_
          refine ⟨m62.keep0, ?_⟩
          have hF66 : F_laws_szChan x_a x_left = (-1) := by simp only [F_laws_szChan, h40, h48, h56, h64, cond_true, cond_false]
          rw [hF66]
          exact rfl
        · have q67 := of_decide_eq_false h64
          refine wc_false (congrArg Value.bool h64) ?_
          refine wc_skip ?_
          refine wq_then ?_
          refine wc_seq ?_
          refine wc_region ?_
          refine wl_mv (.int .i64 (F_laws_szByteS x_a.Next (F_laws_szEp x_a.Old (F_laws_szEp x_a.Cur (F_laws_szByteS x_a.Sn x_left))))) (want_none rfl) rfl rfl (.inl rfl) rfl ?_
          refine wl_mv (.int .i64 (F_laws_szByteS x_a.Next (F_laws_szEp x_a.Old (F_laws_szEp x_a.Cur (F_laws_szByteS x_a.Sn x_left))))) (want_none rfl) rfl rfl (.inr rfl) rfl ?_
          refine wl_nil ?_
          refine wq_then ?_
          refine wc_ret ?_
          refine ret_1 (.inl rfl) (.int .i64 (F_laws_szByteS x_a.Next (F_laws_szEp x_a.Old (F_laws_szEp x_a.Cur (F_laws_szByteS x_a.Sn x_left))))) rfl rfl ?_
          refine ⟨m62.keep0, ?_⟩
          have hF68 : F_laws_szChan x_a x_left = (F_laws_szByteS x_a.Next (F_laws_szEp x_a.Old (F_laws_szEp x_a.Cur (F_laws_szByteS x_a.Sn x_left)))) := by simp only [F_laws_szChan, h40, h48, h56, h64, cond_true, cond_false]
          rw [hF68]
          exact rfl
theorem laws_szChan_le (x : PChan) (l : Int) : F_laws_szChan x l = -1 ∨ (F_laws_szChan x l = l - ((x.Sn.length : Int) + (x.Cur.Key.length : Int) + (x.Cur.Win.Bits.length : Int) + (x.Old.Key.length : Int) + (x.Old.Win.Bits.length : Int) + (x.Next.length : Int)) ∧ (0 ≤ F_laws_szChan x l ∨ l < 0 ∨ False)) := by
  have h0 := laws_szByteS_le x.Sn l
  have h1 := laws_szEp_le x.Cur (F_laws_szByteS x.Sn l)
  have h2 := laws_szEp_le x.Old (F_laws_szEp x.Cur (F_laws_szByteS x.Sn l))
  have h3 := laws_szByteS_le x.Next (F_laws_szEp x.Old (F_laws_szEp x.Cur (F_laws_szByteS x.Sn l)))
  simp only [F_laws_szChan, cond_eq_ite, decide_eq_true_eq]
  (repeat' split) <;> omega

def O_23 (w : World) (lo : Nat) (v : Value) (x : (List Int)) : Prop := ∃ (a1 : Option Addr) (c1 : Nat), v = .slice a1 x.length c1 ∧ w.ownsRow lo 3 1 (.slice a1 x.length c1) x.length (x.map iV) ∧ x.length ≤ 1073741824 ∧ Aps [(a1, c1)]
theorem C_laws_toIntS (w0 : World) (v_x_a : Value) (x_a : List Int) (r_x_a : R_23 w0 v_x_a x_a)  : Fn Try.prog 124 #[v_x_a] w0 (fun v w' => Keep w0 w' ∧ O_23 w' w0.heap.size v (cpI x_a)) := by
  obtain ⟨a1, c2, rfl, r3, s4⟩ := r_x_a
  refine fn_of (n := 22) (l := [(.slice a1 x_a.length c2), undef, undef, undef, undef, undef, undef, undef, undef, undef, undef, undef, undef, undef, undef, undef, undef, undef, undef, undef, undef, undef]) Try.func124 rfl rfl (by kernel_rfl) rfl ?_
  refine wc_seq ?_
  refine wc_region ?_
  refine wl_mv (.slice none 0 0) (want_none rfl) rfl rfl (.inr rfl) rfl ?_
  refine wl_nil ?_
  refine wq_then ?_
  refine wc_seq ?_
  refine wc_region ?_
  refine wl_mv (.slice a1 x_a.length c2) (want_none rfl) rfl rfl (.inl rfl) rfl ?_
  refine wl_len (want_none rfl) rfl rfl rfl slTy_23 rfl r3 ?_
  refine wl_makeI (x_a.length) (want_none rfl) rfl rfl rfl slTy_23 (x_a.length : Int) rfl (by omega) (by (try simp only [List.length_append, List.length_cons, List.length_nil]); omega) (by (try simp only [List.length_append, List.length_cons, List.length_nil]); omega) ?_
  intro a6 c7 w1 k8 o9
  have m10 := (Ch.base w0).extk k8
  refine wl_mv (.slice a6 (List.replicate x_a.length (0 : Int)).length c7) (want_none rfl) rfl rfl (.inr rfl) rfl ?_
  refine wl_nil ?_
  refine wq_then ?_
  refine wc_seq ?_
  refine wc_seq ?_
  refine wc_region ?_
  refine wl_mv (.int .i64 0) (want_none rfl) rfl rfl (.inr rfl) rfl ?_
  refine wl_nil ?_
  refine wq_then ?_
  refine wc_block ?_
  refine wc_norm [(.slice a1 x_a.length c2), undef, (.slice none 0 0), (.slice a6 (List.replicate x_a.length (0 : Int)).length c7), (.int .i64 0), (.slice a1 x_a.length c2), (.int .i64 (x_a.length : Int)), (.slice a6 (List.replicate x_a.length (0 : Int)).length c7), undef, undef, undef, undef, undef, undef, undef, undef, undef, undef, undef, undef, undef, undef] rfl ⟨rfl, rfl, rfl, rfl, rfl, rfl, rfl, rfl, rfl, rfl, rfl, rfl, rfl, rfl, rfl, rfl, rfl, rfl, rfl, rfl, rfl, rfl, trivial⟩ ?_
  refine wc_loop (fun e' w' => ∃ (k : Nat) (u8x u9x u10x u11x u12x u13x u14x u15x u16x u17x u18x u19x u20x : Value), e' = lst [(.slice a1 x_a.length c2), undef, (.slice none 0 0), (.slice a6 (List.replicate x_a.length (0 : Int)).length c7), (.int .i64 ((k : Nat) : Int)), (.slice a1 x_a.length c2), (.int .i64 (x_a.length : Int)), (.slice a6 (List.replicate x_a.length (0 : Int)).length c7), u8x, u9x, u10x, u11x, u12x, u13x, u14x, u15x, u16x, u17x, u18x, u19x, u20x, undef] ∧ Ch (fun k => w0.heap.size ≤ k) w0 w' ∧ Ch (fun k => w0.heap.size ≤ k) w1 w' ∧ k ≤ x_a.length ∧ World.ownsRow w' w0.heap.size 3 1 (.slice a6 (List.replicate x_a.length (0 : Int)).length c7) (List.replicate x_a.length (0 : Int)).length ((x_a.take k ++ List.replicate (x_a.length - k) (0 : Int)).map iV)) (fun e' _ => x_a.length - ((intOf (e' 4))).toNat) ?_ ?_
  · have hE12 : ((List.replicate x_a.length (0 : Int)) : List Int) = x_a.take 0 ++ List.replicate (x_a.length - 0) (0 : Int) := by first | exact cpI_next (by omega) | simp
    exact ⟨0, undef, undef, undef, undef, undef, undef, undef, undef, undef, undef, undef, undef, undef, (congrArg (fun (x4z : Value) => lst [(.slice a1 x_a.length c2), undef, (.slice none 0 0), (.slice a6 (List.replicate x_a.length (0 : Int)).length c7), x4z, (.slice a1 x_a.length c2), (.int .i64 (x_a.length : Int)), (.slice a6 (List.replicate x_a.length (0 : Int)).length c7), undef, undef, undef, undef, undef, undef, undef, undef, undef, undef, undef, undef, undef, undef]) (congrArg (Value.int .i64) (show (0 : Int) = ((0 : Nat) : Int) by omega))), m10, (Ch.refl (fun k => w0.heap.size ≤ k) w1), (by omega), (by rw [← hE12]; exact o9)⟩
  · rintro _ w2 ⟨k, u8x, u9x, u10x, u11x, u12x, u13x, u14x, u15x, u16x, u17x, u18x, u19x, u20x, rfl, m13, k14, i15, o16⟩
    refine wc_seq ?_
    refine wc_seq ?_
    refine wc_region ?_
    refine wl_mv (.int .i64 ((k : Nat) : Int)) (want_none rfl) rfl rfl (.inl rfl) rfl ?_
    refine wl_mv (.slice a1 x_a.length c2) (want_none rfl) rfl rfl (.inl rfl) rfl ?_
    refine wl_len (want_none rfl) rfl rfl rfl slTy_23 rfl (r3.from0 m13) ?_
    refine wl_pure (.bool (decide (((k : Nat) : Int) < (x_a.length : Int)))) (want_none rfl) rfl rfl (by kernel_rfl) ?_
    refine wl_nil ?_
    refine wq_then ?_
    rcases Bool.eq_false_or_eq_true (decide (((k : Nat) : Int) < (x_a.length : Int))) with h17 | h17
    · have q18 := of_decide_eq_true h17
      refine wc_true (congrArg Value.bool h17) ?_
      refine wc_skip ?_
      refine wq_then ?_
      refine wc_seq ?_
      refine wc_block ?_
      refine wc_region ?_
      refine wl_mv (.slice a6 (List.replicate x_a.length (0 : Int)).length c7) (want_none rfl) rfl rfl (.inl rfl) rfl ?_
      refine wl_mv (.int .i64 ((k : Nat) : Int)) (want_none rfl) rfl rfl (.inl rfl) rfl ?_
      refine wl_mv (.slice a1 x_a.length c2) (want_none rfl) rfl rfl (.inl rfl) rfl ?_
      refine wl_mv (.int .i64 ((k : Nat) : Int)) (want_none rfl) rfl rfl (.inl rfl) rfl ?_
      refine wl_index (want_none rfl) ((k : Nat) : Int) rfl rfl rfl slTy_23 rfl rfl (r3.from0 m13) (by first | omega | (simp only [List.length_cons, List.length_nil, List.length_replicate, List.length_append, List.length_take, List.length_set, List.length_map]; omega)) (by first | omega | (simp only [List.length_cons, List.length_nil, List.length_replicate, List.length_append, List.length_take, List.length_set, List.length_map]; omega)) ?_
      refine wl_loadE (iV (x_a.getD k 0)) (want_none rfl) rfl rfl rfl rfl isAgg_3 (r3.from0 m13) (iget (by simp) (by first | omega | (simp only [List.length_cons, List.length_nil, List.length_replicate, List.length_append, List.length_take, List.length_set, List.length_map]; omega))) ?_
      refine wl_index (want_none rfl) ((k : Nat) : Int) rfl rfl rfl slTy_23 rfl rfl (Rd.of_own o16) (by first | omega | (simp only [List.length_cons, List.length_nil, List.length_replicate, List.length_append, List.length_take, List.length_set, List.length_map]; omega)) (by first | omega | (simp only [List.length_cons, List.length_nil, List.length_replicate, List.length_append, List.length_take, List.length_set, List.length_map]; omega)) ?_
      refine wl_storeI (x_a.take k ++ List.replicate (x_a.length - k) (0 : Int)) (k) ((x_a.getD k 0)) (want_none rfl) rfl rfl rfl (by simp) rfl sizeOf_3 o16 (by first | omega | (simp only [List.length_append, List.length_replicate, List.length_take, List.length_set, List.length_map]; omega)) ?_
      intro w3 k19 o20
      have m21 := m13.ext k19 (fun k hk => Nat.le_trans (Nat.le_refl _) (own_lt o9 k hk).1)
      refine wl_nil ?_
      refine wq_blk_normal ?_
      refine wq_then ?_
      refine wc_region ?_
      refine wl_mv (.int .i64 ((k : Nat) : Int)) (want_none rfl) rfl rfl (.inl rfl) rfl ?_
      refine wl_arith (((k : Nat) : Int) + 1) (want_none rfl) rfl rfl (by kernel_rfl) (by omega) (by omega) ?_
      refine wl_mv (.int .i64 (((k : Nat) : Int) + 1)) (want_none rfl) rfl rfl (.inr rfl) rfl ?_
      refine wl_nil ?_
      have hE22 : (((x_a.take k ++ List.replicate (x_a.length - k) (0 : Int)).set k (x_a.getD k 0)) : List Int) = x_a.take (k + 1) ++ List.replicate (x_a.length - (k + 1)) (0 : Int) := by first | exact cpI_next (by omega) | simp
      exact wq_loopN (w0 := w2) [(.slice a1 x_a.length c2), undef, (.slice none 0 0), (.slice a6 (List.replicate x_a.length (0 : Int)).length c7), (.int .i64 (((k + 1) : Nat) : Int)), (.slice a1 x_a.length c2), (.int .i64 (x_a.length : Int)), (.slice a6 (List.replicate x_a.length (0 : Int)).length c7), (.int .i64 ((k : Nat) : Int)), (.slice a1 x_a.length c2), (.int .i64 (x_a.length : Int)), (.bool (decide (((k : Nat) : Int) < (x_a.length : Int)))), (.int .i64 ((k : Nat) : Int)), (.int .i64 (((k : Nat) : Int) + 1)), (.slice a6 (List.replicate x_a.length (0 : Int)).length c7), (.int .i64 ((k : Nat) : Int)), (.slice a1 x_a.length c2), (.int .i64 ((k : Nat) : Int)), (.pointer (some (elA (.slice a1 x_a.length c2) ((((k : Nat) : Int)).toNat * 1)))), (.int .i64 (x_a.getD k 0)), (.pointer (some (elA (.slice a6 (List.replicate x_a.length (0 : Int)).length c7) ((((k : Nat) : Int)).toNat * 1)))), undef] rfl ⟨rfl, rfl, rfl, rfl, (congrArg (Value.int .i64) (show ((((k : Nat) : Int) + 1) : Int) = (((k + 1) : Nat) : Int) by omega)), rfl, rfl, rfl, rfl, rfl, rfl, rfl, rfl, rfl, rfl, rfl, rfl, rfl, rfl, rfl, rfl, rfl, trivial⟩ ⟨(k + 1), (.int .i64 ((k : Nat) : Int)), (.slice a1 x_a.length c2), (.int .i64 (x_a.length : Int)), (.bool (decide (((k : Nat) : Int) < (x_a.length : Int)))), (.int .i64 ((k : Nat) : Int)), (.int .i64 (((k : Nat) : Int) + 1)), (.slice a6 (List.replicate x_a.length (0 : Int)).length c7), (.int .i64 ((k : Nat) : Int)), (.slice a1 x_a.length c2), (.int .i64 ((k : Nat) : Int)), (.pointer (some (elA (.slice a1 x_a.length c2) ((((k : Nat) : Int)).toNat * 1)))), (.int .i64 (x_a.getD k 0)), (.pointer (some (elA (.slice a6 (List.replicate x_a.length (0 : Int)).length c7) ((((k : Nat) : Int)).toNat * 1)))), rfl, m21, (((Ch.refl (fun k => w0.heap.size ≤ k) w1).ext k14 (fun k hk => Nat.le_trans (Nat.le_refl _) hk)).ext k19 (fun k hk => Nat.le_trans (Nat.le_refl _) (own_lt o9 k hk).1)), (by omega), (by rw [← hE22]; exact o20)⟩ (by show x_a.length - ((((k + 1) : Nat) : Int)).toNat < x_a.length - (((k : Nat) : Int)).toNat; omega)
    · have q23 := of_decide_eq_false h17
      refine wc_false (congrArg Value.bool h17) ?_
      refine wc_exit ?_
      refine wq_then_exit ?_
      refine wq_then_exit ?_
      refine wq_blk_exit ?_
      refine wq_then ?_
      refine wc_seq ?_
      refine wc_region ?_
      refine wl_mv (.slice a6 (List.replicate x_a.length (0 : Int)).length c7) (want_none rfl) rfl rfl (.inl rfl) rfl ?_
      refine wl_mv (.slice a6 (List.replicate x_a.length (0 : Int)).length c7) (want_none rfl) rfl rfl (.inr rfl) rfl ?_
      refine wl_nil ?_
      refine wq_then ?_
      refine wc_ret ?_
      refine ret_1 (.inl rfl) (.slice a6 (List.replicate x_a.length (0 : Int)).length c7) rfl rfl ?_
      refine ⟨m13.keep0, ?_⟩
      have hF24 : cpI x_a = (x_a.take k ++ List.replicate (x_a.length - k) (0 : Int)) := by exact cpI_end (by omega)
      rw [hF24]
      have hN25 : (List.replicate x_a.length (0 : Int)).length = ((x_a.take k ++ List.replicate (x_a.length - k) (0 : Int))).length := by (simp only [List.length_append, List.length_take, List.length_replicate, List.length_set, List.length_map]; omega)
      rw [hN25] at o16 ⊢
      exact ⟨_, _, rfl, o16, (by rw [← hN25]; rw [List.length_replicate]; first | assumption | omega), ⟨trivial, trivial⟩⟩

theorem sizeOf_23 : ∀ w, (sizeOf 23).run Try.prog w = .ok 1 w := fun w => by kernel_rfl
def R_37 (w : World) (v : Value) (x : (PWin)) : Prop := ∃ (a1 : Option Addr) (c1 : Nat), v = .agg #[.int .i64 x.Top, .slice a1 x.Bits.length c1] ∧ Rd w 1 (.slice a1 x.Bits.length c1) x.Bits.length (x.Bits.map iV) ∧ x.Bits.length ≤ 1073741824
def F_laws_toWin (x_a : PWin) : (PWin) := { Top := x_a.Top, Bits := (cpI x_a.Bits) : PWin }
theorem C_laws_toWin (w0 : World) (v_x_a : Value) (x_a : PWin) (r_x_a : R_37 w0 v_x_a x_a)  : Fn Try.prog 110 #[v_x_a] w0 (fun v w' => Keep w0 w' ∧ O_25 w' w0.heap.size v (F_laws_toWin x_a)) := by
  obtain ⟨a1, c2, rfl, r3, s4⟩ := r_x_a
  refine fn_of (n := 12) (l := [(.agg #[(.int .i64 x_a.Top), (.slice a1 x_a.Bits.length c2)]), undef, undef, undef, undef, undef, undef, undef, undef, undef, undef, undef]) Try.func110 rfl rfl (by kernel_rfl) rfl ?_
  refine wc_seq ?_
  refine wc_region ?_
  refine wl_box (want_none rfl) [(.int .i64 x_a.Top), (.slice a1 x_a.Bits.length c2)] rfl rfl rfl rfl ?_
  intro g6 w1 p7 p8 k9 b10
  have m11 := (Ch.base w0).extk k9
  refine wl_alloc (want_none rfl) (.agg #[(.int .i64 0), (.slice none 0 0)]) [(.int .i64 0), (.slice none 0 0)] zero_25 rfl rfl rfl rfl ?_
  intro g12 w2 p13 p14 k15 b16
  have m17 := m11.extk k15
  refine wl_nil ?_
  refine wq_then ?_
  refine wc_seq ?_
  refine wc_region ?_
  refine wl_alloc (want_none rfl) (.agg #[(.int .i64 0), (.slice none 0 0)]) [(.int .i64 0), (.slice none 0 0)] zero_25 rfl rfl rfl rfl ?_
  intro g18 w3 p19 p20 k21 b22
  have m23 := m17.extk k21
  refine wl_nil ?_
  refine wq_then ?_
  refine wc_seq ?_
  refine wc_region ?_
  refine wl_pure (.pointer (some ⟨g6, 0, none⟩)) (want_none rfl) rfl rfl (by kernel_rfl) ?_
  have b24 := ((b10.kp k15).kp k21)
  refine wl_load1 (.int .i64 x_a.Top) (want_none rfl) rfl rfl rfl rfl isAgg_3 b24 rfl ?_
  refine wl_pure (.pointer (some ⟨g18, 0, none⟩)) (want_none rfl) rfl rfl (by kernel_rfl) ?_
  refine wl_store (.int .i64 x_a.Top) [(.int .i64 x_a.Top)] [(.int .i64 x_a.Top), (.slice none 0 0)] (want_none rfl) rfl rfl rfl rfl rfl (one_cons rfl one_nil) sizeOf_3 b22 rfl rfl ?_
  intro w4 k25 b26 z27
  have m28 := m23.ext k25 (fun k hk => by subst hk; exact Nat.le_trans (Nat.le_trans k9.size k15.size) p19)
  refine wl_nil ?_
  refine wq_then ?_
  refine wc_seq ?_
  refine wc_region ?_
  refine wl_pure (.pointer (some ⟨g6, 1, none⟩)) (want_none rfl) rfl rfl (by kernel_rfl) ?_
  have b29 := (b24.ch k25 (Nat.ne_of_lt (Nat.lt_of_lt_of_le p8 (Nat.le_trans k15.size p19))))
  refine wl_load1 (.slice a1 x_a.Bits.length c2) (want_none rfl) rfl rfl rfl rfl isAgg_23 b29 rfl ?_
  refine wl_call (want_none rfl) (args := #[(.slice a1 x_a.Bits.length c2)]) rfl rfl (by kernel_rfl) (C_laws_toIntS w4 (.slice a1 x_a.Bits.length c2) x_a.Bits (show R_23 w4 (.slice a1 x_a.Bits.length c2) x_a.Bits from ⟨_, _, rfl, (r3.from0 m28), s4⟩)) ?_
  rintro _ w5 ⟨k30, ⟨a31, c32, rfl, o33, s34, ap36⟩⟩
  have m37 := m28.extk k30
  refine wl_pure (.pointer (some ⟨g18, 1, none⟩)) (want_none rfl) rfl rfl (by kernel_rfl) ?_
  have b38 := (b26.kp k30)
  refine wl_store (.slice a31 (cpI x_a.Bits).length c32) [(.slice a31 (cpI x_a.Bits).length c32)] [(.int .i64 x_a.Top), (.slice a31 (cpI x_a.Bits).length c32)] (want_none rfl) rfl rfl rfl rfl rfl (one_cons rfl one_nil) sizeOf_23 b38 rfl rfl ?_
  intro w6 k39 b40 z41
  have m42 := m37.ext k39 (fun k hk => by subst hk; exact Nat.le_trans (Nat.le_trans k9.size k15.size) p19)
  refine wl_nil ?_
  refine wq_then ?_
  refine wc_seq ?_
  refine wc_region ?_
  refine wl_loadN [(.int .i64 x_a.Top), (.slice a31 (cpI x_a.Bits).length c32)] (want_none rfl) rfl rfl rfl rfl isAgg_25 sizeOf_25 b40 rfl ?_
  have b43 := ((((b16.kp k21).ch k25 (Nat.ne_of_lt (Nat.lt_of_lt_of_le p14 (Nat.le_trans (Nat.le_refl _) p19)))).kp k30).ch k39 (Nat.ne_of_lt (Nat.lt_of_lt_of_le p14 (Nat.le_trans (Nat.le_refl _) p19))))
  refine wl_store (.agg #[(.int .i64 x_a.Top), (.slice a31 (cpI x_a.Bits).length c32)]) [(.int .i64 x_a.Top), (.slice a31 (cpI x_a.Bits).length c32)] [(.int .i64 x_a.Top), (.slice a31 (cpI x_a.Bits).length c32)] (want_none rfl) rfl rfl rfl rfl rfl (one_cons rfl (one_cons rfl one_nil)) sizeOf_25 b43 rfl rfl ?_
  intro w7 k44 b45 z46
  have m47 := m42.ext k44 (fun k hk => by subst hk; exact Nat.le_trans k9.size p13)
  refine wl_nil ?_
  refine wq_then ?_
  refine wc_ret ?_
  have o48 := (own_ch (own_ch o33 k39 (fun g hg hlt hk => by have h1 := (own_lt o33 g hg).1; have h2 := Nat.lt_of_lt_of_le p20 k25.size; omega)) k44 (fun g hg hlt hk => by have h1 := (own_lt o33 g hg).1; have h2 := Nat.lt_of_lt_of_le p14 (Nat.le_trans k21.size k25.size); omega))
  refine ret_1 (.inl rfl) (.agg #[(.int .i64 x_a.Top), (.slice a31 (cpI x_a.Bits).length c32)]) rfl (rv_c [(.int .i64 x_a.Top), (.slice a31 (cpI x_a.Bits).length c32)] rfl b45 isAgg_25 sizeOf_25) ?_
  refine ⟨m47.keep0, ?_⟩
  have hF49 : F_laws_toWin x_a = { Top := x_a.Top, Bits := (cpI x_a.Bits) : PWin } := by rfl
  rw [hF49]
  exact ⟨_, _, rfl, (own_lo o48 (Nat.le_trans (Nat.le_trans (Nat.le_trans k9.size k15.size) k21.size) k25.size)), s34, ⟨trivial, trivial⟩⟩

theorem sizeOf_22 : ∀ w, (sizeOf 22).run Try.prog w = .ok 1 w := fun w => by kernel_rfl
def R_39 (w : World) (v : Value) (x : (PEp)) : Prop := ∃ (a1 : Option Addr) (c1 : Nat) (a2 : Option Addr) (c2 : Nat), v = .agg #[.int .i64 x.N, .slice a1 x.Key.length c1, .int .i64 x.Seq, .int .i64 x.Win.Top, .slice a2 x.Win.Bits.length c2] ∧ Rd w 1 (.slice a1 x.Key.length c1) x.Key.length (x.Key.map bV) ∧ x.Key.length ≤ 1073741824 ∧ Rd w 1 (.slice a2 x.Win.Bits.length c2) x.Win.Bits.length (x.Win.Bits.map iV) ∧ x.Win.Bits.length ≤ 1073741824
def F_laws_toEp (x_a : PEp) : (PEp) := { N := x_a.N, Key := (cpB x_a.Key), Seq := x_a.Seq, Win := (F_laws_toWin x_a.Win) : PEp }
theorem C_laws_toEp (w0 : World) (v_x_a : Value) (x_a : PEp) (r_x_a : R_39 w0 v_x_a x_a)  : Fn Try.prog 78 #[v_x_a] w0 (fun v w' => Keep w0 w' ∧ O_27 w' w0.heap.size v (F_laws_toEp x_a)) := by
  obtain ⟨a1, c2, a6, c7, rfl, r3, s4, r8, s9⟩ := r_x_a
  refine fn_of (n := 19) (l := [(.agg #[(.int .i64 x_a.N), (.slice a1 x_a.Key.length c2), (.int .i64 x_a.Seq), (.int .i64 x_a.Win.Top), (.slice a6 x_a.Win.Bits.length c7)]), undef, undef, undef, undef, undef, undef, undef, undef, undef, undef, undef, undef, undef, undef, undef, undef, undef, undef]) Try.func78 rfl rfl (by kernel_rfl) rfl ?_
  refine wc_seq ?_
  refine wc_region ?_
  refine wl_box (want_none rfl) [(.int .i64 x_a.N), (.slice a1 x_a.Key.length c2), (.int .i64 x_a.Seq), (.int .i64 x_a.Win.Top), (.slice a6 x_a.Win.Bits.length c7)] rfl rfl rfl rfl ?_
  intro g11 w1 p12 p13 k14 b15
  have m16 := (Ch.base w0).extk k14
  refine wl_alloc (want_none rfl) (.agg #[(.int .i64 0), (.slice none 0 0), (.int .i64 0), (.int .i64 0), (.slice none 0 0)]) [(.int .i64 0), (.slice none 0 0), (.int .i64 0), (.int .i64 0), (.slice none 0 0)] zero_27 rfl rfl rfl rfl ?_
  intro g17 w2 p18 p19 k20 b21
  have m22 := m16.extk k20
  refine wl_nil ?_
  refine wq_then ?_
  refine wc_seq ?_
  refine wc_region ?_
  refine wl_alloc (want_none rfl) (.agg #[(.int .i64 0), (.slice none 0 0), (.int .i64 0), (.int .i64 0), (.slice none 0 0)]) [(.int .i64 0), (.slice none 0 0), (.int .i64 0), (.int .i64 0), (.slice none 0 0)] zero_27 rfl rfl rfl rfl ?_
  intro g23 w3 p24 p25 k26 b27
  have m28 := m22.extk k26
  refine wl_nil ?_
  refine wq_then ?_
  refine wc_seq ?_
  refine wc_region ?_
  refine wl_pure (.pointer (some ⟨g11, 0, none⟩)) (want_none rfl) rfl rfl (by kernel_rfl) ?_
  have b29 := ((b15.kp k20).kp k26)
  refine wl_load1 (.int .i64 x_a.N) (want_none rfl) rfl rfl rfl rfl isAgg_3 b29 rfl ?_
  refine wl_pure (.pointer (some ⟨g23, 0, none⟩)) (want_none rfl) rfl rfl (by kernel_rfl) ?_
  refine wl_store (.int .i64 x_a.N) [(.int .i64 x_a.N)] [(.int .i64 x_a.N), (.slice none 0 0), (.int .i64 0), (.int .i64 0), (.slice none 0 0)] (want_none rfl) rfl rfl rfl rfl rfl (one_cons rfl one_nil) sizeOf_3 b27 rfl rfl ?_
  intro w4 k30 b31 z32
  have m33 := m28.ext k30 (fun k hk => by subst hk; exact Nat.le_trans (Nat.le_trans k14.size k20.size) p24)
  refine wl_nil ?_
  refine wq_then ?_
  refine wc_seq ?_
  refine wc_region ?_
  refine wl_pure (.pointer (some ⟨g11, 1, none⟩)) (want_none rfl) rfl rfl (by kernel_rfl) ?_
  have b34 := (b29.ch k30 (Nat.ne_of_lt (Nat.lt_of_lt_of_le p13 (Nat.le_trans k20.size p24))))
  refine wl_load1 (.slice a1 x_a.Key.length c2) (want_none rfl) rfl rfl rfl rfl isAgg_22 b34 rfl ?_
  refine wl_call (want_none rfl) (args := #[(.slice a1 x_a.Key.length c2)]) rfl rfl (by kernel_rfl) (C_laws_toByteS w4 (.slice a1 x_a.Key.length c2) x_a.Key (show R_22 w4 (.slice a1 x_a.Key.length c2) x_a.Key from ⟨_, _, rfl, (r3.from0 m33), s4⟩)) ?_
  rintro _ w5 ⟨k35, ⟨a36, c37, rfl, o38, s39, ap41⟩⟩
  have m42 := m33.extk k35
  refine wl_pure (.pointer (some ⟨g23, 1, none⟩)) (want_none rfl) rfl rfl (by kernel_rfl) ?_
  have b43 := (b31.kp k35)
  refine wl_store (.slice a36 (cpB x_a.Key).length c37) [(.slice a36 (cpB x_a.Key).length c37)] [(.int .i64 x_a.N), (.slice a36 (cpB x_a.Key).length c37), (.int .i64 0), (.int .i64 0), (.slice none 0 0)] (want_none rfl) rfl rfl rfl rfl rfl (one_cons rfl one_nil) sizeOf_22 b43 rfl rfl ?_
  intro w6 k44 b45 z46
  have m47 := m42.ext k44 (fun k hk => by subst hk; exact Nat.le_trans (Nat.le_trans k14.size k20.size) p24)
  refine wl_nil ?_
  refine wq_then ?_
  refine wc_seq ?_
  refine wc_region ?_
  refine wl_pure (.pointer (some ⟨g11, 2, none⟩)) (want_none rfl) rfl rfl (by kernel_rfl) ?_
  have b48 := ((b34.kp k35).ch k44 (Nat.ne_of_lt (Nat.lt_of_lt_of_le p13 (Nat.le_trans k20.size p24))))
  refine wl_load1 (.int .i64 x_a.Seq) (want_none rfl) rfl rfl rfl rfl isAgg_3 b48 rfl ?_
  refine wl_pure (.pointer (some ⟨g23, 2, none⟩)) (want_none rfl) rfl rfl (by kernel_rfl) ?_
  refine wl_store (.int .i64 x_a.Seq) [(.int .i64 x_a.Seq)] [(.int .i64 x_a.N), (.slice a36 (cpB x_a.Key).length c37), (.int .i64 x_a.Seq), (.int .i64 0), (.slice none 0 0)] (want_none rfl) rfl rfl rfl rfl rfl (one_cons rfl one_nil) sizeOf_3 b45 rfl rfl ?_
  intro w7 k49 b50 z51
  have m52 := m47.ext k49 (fun k hk => by subst hk; exact Nat.le_trans (Nat.le_trans k14.size k20.size) p24)
  refine wl_nil ?_
  refine wq_then ?_
  refine wc_seq ?_
  refine wc_region ?_
  refine wl_pure (.pointer (some ⟨g11, 3, none⟩)) (want_none rfl) rfl rfl (by kernel_rfl) ?_
  have b53 := (b48.ch k49 (Nat.ne_of_lt (Nat.lt_of_lt_of_le p13 (Nat.le_trans k20.size p24))))
  refine wl_loadN [(.int .i64 x_a.Win.Top), (.slice a6 x_a.Win.Bits.length c7)] (want_none rfl) rfl rfl rfl rfl isAgg_37 sizeOf_37 b53 rfl ?_
  refine wl_call (want_none rfl) (args := #[(.agg #[(.int .i64 x_a.Win.Top), (.slice a6 x_a.Win.Bits.length c7)])]) rfl rfl (by kernel_rfl) (C_laws_toWin w7 (.agg #[(.int .i64 x_a.Win.Top), (.slice a6 x_a.Win.Bits.length c7)]) x_a.Win (show R_37 w7 (.agg #[(.int .i64 x_a.Win.Top), (.slice a6 x_a.Win.Bits.length c7)]) x_a.Win from ⟨_, _, rfl, (r8.from0 m52), s9⟩)) ?_
  rintro _ w8 ⟨k54, ⟨a55, c56, rfl, o57, s58, ap60⟩⟩
  have m61 := m52.extk k54
  refine wl_pure (.pointer (some ⟨g23, 3, none⟩)) (want_none rfl) rfl rfl (by kernel_rfl) ?_
  have b62 := (b50.kp k54)
  refine wl_store (.agg #[(.int .i64 ((F_laws_toWin x_a.Win).Top)), (.slice a55 ((F_laws_toWin x_a.Win).Bits).length c56)]) [(.int .i64 ((F_laws_toWin x_a.Win).Top)), (.slice a55 ((F_laws_toWin x_a.Win).Bits).length c56)] [(.int .i64 x_a.N), (.slice a36 (cpB x_a.Key).length c37), (.int .i64 x_a.Seq), (.int .i64 ((F_laws_toWin x_a.Win).Top)), (.slice a55 ((F_laws_toWin x_a.Win).Bits).length c56)] (want_none rfl) rfl rfl rfl rfl rfl (one_cons rfl (one_cons rfl one_nil)) sizeOf_25 b62 rfl rfl ?_
  intro w9 k63 b64 z65
  have m66 := m61.ext k63 (fun k hk => by subst hk; exact Nat.le_trans (Nat.le_trans k14.size k20.size) p24)
  refine wl_nil ?_
  refine wq_then ?_
  refine wc_seq ?_
  refine wc_region ?_
  refine wl_loadN [(.int .i64 x_a.N), (.slice a36 (cpB x_a.Key).length c37), (.int .i64 x_a.Seq), (.int .i64 ((F_laws_toWin x_a.Win).Top)), (.slice a55 ((F_laws_toWin x_a.Win).Bits).length c56)] (want_none rfl) rfl rfl rfl rfl isAgg_27 sizeOf_27 b64 rfl ?_
  have b67 := (((((((b21.kp k26).ch k30 (Nat.ne_of_lt (Nat.lt_of_lt_of_le p19 (Nat.le_trans (Nat.le_refl _) p24)))).kp k35).ch k44 (Nat.ne_of_lt (Nat.lt_of_lt_of_le p19 (Nat.le_trans (Nat.le_refl _) p24)))).ch k49 (Nat.ne_of_lt (Nat.lt_of_lt_of_le p19 (Nat.le_trans (Nat.le_refl _) p24)))).kp k54).ch k63 (Nat.ne_of_lt (Nat.lt_of_lt_of_le p19 (Nat.le_trans (Nat.le_refl _) p24))))
  refine wl_store (.agg #[(.int .i64 x_a.N), (.slice a36 (cpB x_a.Key).length c37), (.int .i64 x_a.Seq), (.int .i64 ((F_laws_toWin x_a.Win).Top)), (.slice a55 ((F_laws_toWin x_a.Win).Bits).length c56)]) [(.int .i64 x_a.N), (.slice a36 (cpB x_a.Key).length c37), (.int .i64 x_a.Seq), (.int .i64 ((F_laws_toWin x_a.Win).Top)), (.slice a55 ((F_laws_toWin x_a.Win).Bits).length c56)] [(.int .i64 x_a.N), (.slice a36 (cpB x_a.Key).length c37), (.int .i64 x_a.Seq), (.int .i64 ((F_laws_toWin x_a.Win).Top)), (.slice a55 ((F_laws_toWin x_a.Win).Bits).length c56)] (want_none rfl) rfl rfl rfl rfl rfl (one_cons rfl (one_cons rfl (one_cons rfl (one_cons rfl (one_cons rfl one_nil))))) sizeOf_27 b67 rfl rfl ?_
  intro w10 k68 b69 z70
  have m71 := m66.ext k68 (fun k hk => by subst hk; exact Nat.le_trans k14.size p18)
  refine wl_nil ?_
  refine wq_then ?_
  refine wc_ret ?_
  have o72 := (own_ch (own_ch (own_kp (own_ch (own_ch o38 k44 (fun g hg hlt hk => by have h1 := (own_lt o38 g hg).1; have h2 := Nat.lt_of_lt_of_le p25 k30.size; omega)) k49 (fun g hg hlt hk => by have h1 := (own_lt o38 g hg).1; have h2 := Nat.lt_of_lt_of_le p25 k30.size; omega)) k54) k63 (fun g hg hlt hk => by have h1 := (own_lt o38 g hg).1; have h2 := Nat.lt_of_lt_of_le p25 k30.size; omega)) k68 (fun g hg hlt hk => by have h1 := (own_lt o38 g hg).1; have h2 := Nat.lt_of_lt_of_le p19 (Nat.le_trans k26.size k30.size); omega))
  have o73 := (own_ch (own_ch o57 k63 (fun g hg hlt hk => by have h1 := (own_lt o57 g hg).1; have h2 := Nat.lt_of_lt_of_le p25 (Nat.le_trans (Nat.le_trans (Nat.le_trans k30.size k35.size) k44.size) k49.size); omega)) k68 (fun g hg hlt hk => by have h1 := (own_lt o57 g hg).1; have h2 := Nat.lt_of_lt_of_le p19 (Nat.le_trans (Nat.le_trans (Nat.le_trans (Nat.le_trans k26.size k30.size) k35.size) k44.size) k49.size); omega))
  refine ret_1 (.inl rfl) (.agg #[(.int .i64 x_a.N), (.slice a36 (cpB x_a.Key).length c37), (.int .i64 x_a.Seq), (.int .i64 ((F_laws_toWin x_a.Win).Top)), (.slice a55 ((F_laws_toWin x_a.Win).Bits).length c56)]) rfl (rv_c [(.int .i64 x_a.N), (.slice a36 (cpB x_a.Key).length c37), (.int .i64 x_a.Seq), (.int .i64 ((F_laws_toWin x_a.Win).Top)), (.slice a55 ((F_laws_toWin x_a.Win).Bits).length c56)] rfl b69 isAgg_27 sizeOf_27) ?_
  refine ⟨m71.keep0, ?_⟩
  have hF74 : F_laws_toEp x_a = { N := x_a.N, Key := (cpB x_a.Key), Seq := x_a.Seq, Win := (F_laws_toWin x_a.Win) : PEp } := by rfl
  rw [hF74]
  exact ⟨_, _, _, _, rfl, (own_lo o72 (Nat.le_trans (Nat.le_trans (Nat.le_trans k14.size k20.size) k26.size) k30.size)), s39, (own_lo o73 (Nat.le_trans (Nat.le_trans (Nat.le_trans (Nat.le_trans (Nat.le_trans (Nat.le_trans k14.size k20.size) k26.size) k30.size) k35.size) k44.size) k49.size)), s58, ⟨⟨(Ap.lt o38 o57 (Nat.le_trans k44.size k49.size)), trivial⟩, ⟨trivial, trivial⟩⟩⟩

theorem sizeOf_4 : ∀ w, (sizeOf 4).run Try.prog w = .ok 1 w := fun w => by kernel_rfl
def R_41 (w : World) (v : Value) (x : (PChan)) : Prop := ∃ (a1 : Option Addr) (c1 : Nat) (a2 : Option Addr) (c2 : Nat) (a3 : Option Addr) (c3 : Nat) (a4 : Option Addr) (c4 : Nat) (a5 : Option Addr) (c5 : Nat) (a6 : Option Addr) (c6 : Nat), v = .agg #[.int .i64 x.Role, .slice a1 x.Sn.length c1, .int .i64 x.Cur.N, .slice a2 x.Cur.Key.length c2, .int .i64 x.Cur.Seq, .int .i64 x.Cur.Win.Top, .slice a3 x.Cur.Win.Bits.length c3, .int .i64 x.Old.N, .slice a4 x.Old.Key.length c4, .int .i64 x.Old.Seq, .int .i64 x.Old.Win.Top, .slice a5 x.Old.Win.Bits.length c5, .bool x.HasOld, .int .i64 x.Until, .slice a6 x.Next.length c6] ∧ Rd w 1 (.slice a1 x.Sn.length c1) x.Sn.length (x.Sn.map bV) ∧ x.Sn.length ≤ 1073741824 ∧ Rd w 1 (.slice a2 x.Cur.Key.length c2) x.Cur.Key.length (x.Cur.Key.map bV) ∧ x.Cur.Key.length ≤ 1073741824 ∧ Rd w 1 (.slice a3 x.Cur.Win.Bits.length c3) x.Cur.Win.Bits.length (x.Cur.Win.Bits.map iV) ∧ x.Cur.Win.Bits.length ≤ 1073741824 ∧ Rd w 1 (.slice a4 x.Old.Key.length c4) x.Old.Key.length (x.Old.Key.map bV) ∧ x.Old.Key.length ≤ 1073741824 ∧ Rd w 1 (.slice a5 x.Old.Win.Bits.length c5) x.Old.Win.Bits.length (x.Old.Win.Bits.map iV) ∧ x.Old.Win.Bits.length ≤ 1073741824 ∧ Rd w 1 (.slice a6 x.Next.length c6) x.Next.length (x.Next.map bV) ∧ x.Next.length ≤ 1073741824
def F_laws_toChan (x_a : PChan) : (PChan) := { Role := x_a.Role, Sn := (cpB x_a.Sn), Cur := (F_laws_toEp x_a.Cur), Old := (F_laws_toEp x_a.Old), HasOld := x_a.HasOld, Until := x_a.Until, Next := (cpB x_a.Next) : PChan }
theorem C_laws_toChan (w0 : World) (v_x_a : Value) (x_a : PChan) (r_x_a : R_41 w0 v_x_a x_a)  : Fn Try.prog 25 #[v_x_a] w0 (fun v w' => Keep w0 w' ∧ O_29 w' w0.heap.size v (F_laws_toChan x_a)) := by
  obtain ⟨a1, c2, a6, c7, a11, c12, a16, c17, a21, c22, a26, c27, rfl, r3, s4, r8, s9, r13, s14, r18, s19, r23, s24, r28, s29⟩ := r_x_a
  refine fn_of (n := 30) (l := [(.agg #[(.int .i64 x_a.Role), (.slice a1 x_a.Sn.length c2), (.int .i64 x_a.Cur.N), (.slice a6 x_a.Cur.Key.length c7), (.int .i64 x_a.Cur.Seq), (.int .i64 x_a.Cur.Win.Top), (.slice a11 x_a.Cur.Win.Bits.length c12), (.int .i64 x_a.Old.N), (.slice a16 x_a.Old.Key.length c17), (.int .i64 x_a.Old.Seq), (.int .i64 x_a.Old.Win.Top), (.slice a21 x_a.Old.Win.Bits.length c22), (.bool x_a.HasOld), (.int .i64 x_a.Until), (.slice a26 x_a.Next.length c27)]), undef, undef, undef, undef, undef, undef, undef, undef, undef, undef, undef, undef, undef, undef, undef, undef, undef, undef, undef, undef, undef, undef, undef, undef, undef, undef, undef, undef, undef]) Try.func25 rfl rfl (by kernel_rfl) rfl ?_
  refine wc_seq ?_
  refine wc_region ?_
  refine wl_box (want_none rfl) [(.int .i64 x_a.Role), (.slice a1 x_a.Sn.length c2), (.int .i64 x_a.Cur.N), (.slice a6 x_a.Cur.Key.length c7), (.int .i64 x_a.Cur.Seq), (.int .i64 x_a.Cur.Win.Top), (.slice a11 x_a.Cur.Win.Bits.length c12), (.int .i64 x_a.Old.N), (.slice a16 x_a.Old.Key.length c17), (.int .i64 x_a.Old.Seq), (.int .i64 x_a.Old.Win.Top), (.slice a21 x_a.Old.Win.Bits.length c22), (.bool x_a.HasOld), (.int .i64 x_a.Until), (.slice a26 x_a.Next.length c27)] rfl rfl rfl rfl ?_
  intro g31 w1 p32 p33 k34 b35
  have m36 := (Ch.base w0).extk k34
  refine wl_alloc (want_none rfl) (.agg #[(.int .i64 0), (.slice none 0 0), (.int .i64 0), (.slice none 0 0), (.int .i64 0), (.int .i64 0), (.slice none 0 0), (.int .i64 0), (.slice none 0 0), (.int .i64 0), (.int .i64 0), (.slice none 0 0), (.bool false), (.int .i64 0), (.slice none 0 0)]) [(.int .i64 0), (.slice none 0 0), (.int .i64 0), (.slice none 0 0), (.int .i64 0), (.int .i64 0), (.slice none 0 0), (.int .i64 0), (.slice none 0 0), (.int .i64 0), (.int .i64 0), (.slice none 0 0), (.bool false), (.int .i64 0), (.slice none 0 0)] zero_29 rfl rfl rfl rfl ?_
  intro g37 w2 p38 p39 k40 b41
  have m42 := m36.extk k40
  refine wl_nil ?_
  refine wq_then ?_
  refine wc_seq ?_
  refine wc_region ?_
  refine wl_alloc (want_none rfl) (.agg #[(.int .i64 0), (.slice none 0 0), (.int .i64 0), (.slice none 0 0), (.int .i64 0), (.int .i64 0), (.slice none 0 0), (.int .i64 0), (.slice none 0 0), (.int .i64 0), (.int .i64 0), (.slice none 0 0), (.bool false), (.int .i64 0), (.slice none 0 0)]) [(.int .i64 0), (.slice none 0 0), (.int .i64 0), (.slice none 0 0), (.int .i64 0), (.int .i64 0), (.slice none 0 0), (.int .i64 0), (.slice none 0 0), (.int .i64 0), (.int .i64 0), (.slice none 0 0), (.bool false), (.int .i64 0), (.slice none 0 0)] zero_29 rfl rfl rfl rfl ?_
  intro g43 w3 p44 p45 k46 b47
  have m48 := m42.extk k46
  refine wl_nil ?_
  refine wq_then ?_
  refine wc_seq ?_
  refine wc_region ?_
  refine wl_pure (.pointer (some ⟨g31, 0, none⟩)) (want_none rfl) rfl rfl (by kernel_rfl) ?_
  have b49 := ((b35.kp k40).kp k46)
  refine wl_load1 (.int .i64 x_a.Role) (want_none rfl) rfl rfl rfl rfl isAgg_3 b49 rfl ?_
  refine wl_pure (.pointer (some ⟨g43, 0, none⟩)) (want_none rfl) rfl rfl (by kernel_rfl) ?_
  refine wl_store (.int .i64 x_a.Role) [(.int .i64 x_a.Role)] [(.int .i64 x_a.Role), (.slice none 0 0), (.int .i64 0), (.slice none 0 0), (.int .i64 0), (.int .i64 0), (.slice none 0 0), (.int .i64 0), (.slice none 0 0), (.int .i64 0), (.int .i64 0), (.slice none 0 0), (.bool false), (.int .i64 0), (.slice none 0 0)] (want_none rfl) rfl rfl rfl rfl rfl (one_cons rfl one_nil) sizeOf_3 b47 rfl rfl ?_
  intro w4 k50 b51 z52
  have m53 := m48.ext k50 (fun k hk => by subst hk; exact Nat.le_trans (Nat.le_trans k34.size k40.size) p44)
  refine wl_nil ?_
  refine wq_then ?_
  refine wc_seq ?_
  refine wc_region ?_
  refine wl_pure (.pointer (some ⟨g31, 1, none⟩)) (want_none rfl) rfl rfl (by kernel_rfl) ?_
  have b54 := (b49.ch k50 (Nat.ne_of_lt (Nat.lt_of_lt_of_le p33 (Nat.le_trans k40.size p44))))
  refine wl_load1 (.slice a1 x_a.Sn.length c2) (want_none rfl) rfl rfl rfl rfl isAgg_22 b54 rfl ?_
  refine wl_call (want_none rfl) (args := #[(.slice a1 x_a.Sn.length c2)]) rfl rfl (by kernel_rfl) (C_laws_toByteS w4 (.slice a1 x_a.Sn.length c2) x_a.Sn (show R_22 w4 (.slice a1 x_a.Sn.length c2) x_a.Sn from ⟨_, _, rfl, (r3.from0 m53), s4⟩)) ?_
  rintro _ w5 ⟨k55, ⟨a56, c57, rfl, o58, s59, ap61⟩⟩
  have m62 := m53.extk k55
  refine wl_pure (.pointer (some ⟨g43, 1, none⟩)) (want_none rfl) rfl rfl (by kernel_rfl) ?_
  have b63 := (b51.kp k55)
  refine wl_store (.slice a56 (cpB x_a.Sn).length c57) [(.slice a56 (cpB x_a.Sn).length c57)] [(.int .i64 x_a.Role), (.slice a56 (cpB x_a.Sn).length c57), (.int .i64 0), (.slice none 0 0), (.int .i64 0), (.int .i64 0), (.slice none 0 0), (.int .i64 0), (.slice none 0 0), (.int .i64 0), (.int .i64 0), (.slice none 0 0), (.bool false), (.int .i64 0), (.slice none 0 0)] (want_none rfl) rfl rfl rfl rfl rfl (one_cons rfl one_nil) sizeOf_22 b63 rfl rfl ?_
  intro w6 k64 b65 z66
  have m67 := m62.ext k64 (fun k hk => by subst hk; exact Nat.le_trans (Nat.le_trans k34.size k40.size) p44)
  refine wl_nil ?_
  refine wq_then ?_
  refine wc_seq ?_
  refine wc_region ?_
  refine wl_pure (.pointer (some ⟨g31, 2, none⟩)) (want_none rfl) rfl rfl (by kernel_rfl) ?_
  have b68 := ((b54.kp k55).ch k64 (Nat.ne_of_lt (Nat.lt_of_lt_of_le p33 (Nat.le_trans k40.size p44))))
  refine wl_loadN [(.int .i64 x_a.Cur.N), (.slice a6 x_a.Cur.Key.length c7), (.int .i64 x_a.Cur.Seq), (.int .i64 x_a.Cur.Win.Top), (.slice a11 x_a.Cur.Win.Bits.length c12)] (want_none rfl) rfl rfl rfl rfl isAgg_39 sizeOf_39 b68 rfl ?_
  refine wl_call (want_none rfl) (args := #[(.agg #[(.int .i64 x_a.Cur.N), (.slice a6 x_a.Cur.Key.length c7), (.int .i64 x_a.Cur.Seq), (.int .i64 x_a.Cur.Win.Top), (.slice a11 x_a.Cur.Win.Bits.length c12)])]) rfl rfl (by kernel_rfl) (C_laws_toEp w6 (.agg #[(.int .i64 x_a.Cur.N), (.slice a6 x_a.Cur.Key.length c7), (.int .i64 x_a.Cur.Seq), (.int .i64 x_a.Cur.Win.Top), (.slice a11 x_a.Cur.Win.Bits.length c12)]) x_a.Cur (show R_39 w6 (.agg #[(.int .i64 x_a.Cur.N), (.slice a6 x_a.Cur.Key.length c7), (.int .i64 x_a.Cur.Seq), (.int .i64 x_a.Cur.Win.Top), (.slice a11 x_a.Cur.Win.Bits.length c12)]) x_a.Cur from ⟨_, _, _, _, rfl, (r8.from0 m67), s9, (r13.from0 m67), s14⟩)) ?_
  rintro _ w7 ⟨k69, ⟨a70, c71, a75, c76, rfl, o72, s73, o77, s78, ap80⟩⟩
  have m81 := m67.extk k69
  refine wl_pure (.pointer (some ⟨g43, 2, none⟩)) (want_none rfl) rfl rfl (by kernel_rfl) ?_
  have b82 := (b65.kp k69)
  refine wl_store (.agg #[(.int .i64 ((F_laws_toEp x_a.Cur).N)), (.slice a70 ((F_laws_toEp x_a.Cur).Key).length c71), (.int .i64 ((F_laws_toEp x_a.Cur).Seq)), (.int .i64 (((F_laws_toEp x_a.Cur).Win).Top)), (.slice a75 (((F_laws_toEp x_a.Cur).Win).Bits).length c76)]) [(.int .i64 ((F_laws_toEp x_a.Cur).N)), (.slice a70 ((F_laws_toEp x_a.Cur).Key).length c71), (.int .i64 ((F_laws_toEp x_a.Cur).Seq)), (.int .i64 (((F_laws_toEp x_a.Cur).Win).Top)), (.slice a75 (((F_laws_toEp x_a.Cur).Win).Bits).length c76)] [(.int .i64 x_a.Role), (.slice a56 (cpB x_a.Sn).length c57), (.int .i64 ((F_laws_toEp x_a.Cur).N)), (.slice a70 ((F_laws_toEp x_a.Cur).Key).length c71), (.int .i64 ((F_laws_toEp x_a.Cur).Seq)), (.int .i64 (((F_laws_toEp x_a.Cur).Win).Top)), (.slice a75 (((F_laws_toEp x_a.Cur).Win).Bits).length c76), (.int .i64 0), (.slice none 0 0), (.int .i64 0), (.int .i64 0), (.slice none 0 0), (.bool false), (.int .i64 0), (.slice none 0 0)] (want_none rfl) rfl rfl rfl rfl rfl (one_cons rfl (one_cons rfl (one_cons rfl (one_cons rfl (one_cons rfl one_nil))))) sizeOf_27 b82 rfl rfl ?_
  intro w8 k83 b84 z85
  have m86 := m81.ext k83 (fun k hk => by subst hk; exact Nat.le_trans (Nat.le_trans k34.size k40.size) p44)
  refine wl_nil ?_
  refine wq_then ?_
  refine wc_seq ?_
  refine wc_region ?_
  refine wl_pure (.pointer (some ⟨g31, 7, none⟩)) (want_none rfl) rfl rfl (by kernel_rfl) ?_
  have b87 := ((b68.kp k69).ch k83 (Nat.ne_of_lt (Nat.lt_of_lt_of_le p33 (Nat.le_trans k40.size p44))))
  refine wl_loadN [(.int .i64 x_a.Old.N), (.slice a16 x_a.Old.Key.length c17), (.int .i64 x_a.Old.Seq), (.int .i64 x_a.Old.Win.Top), (.slice a21 x_a.Old.Win.Bits.length c22)] (want_none rfl) rfl rfl rfl rfl isAgg_39 sizeOf_39 b87 rfl ?_
  refine wl_call (want_none rfl) (args := #[(.agg #[(.int .i64 x_a.Old.N), (.slice a16 x_a.Old.Key.length c17), (.int .i64 x_a.Old.Seq), (.int .i64 x_a.Old.Win.Top), (.slice a21 x_a.Old.Win.Bits.length c22)])]) rfl rfl (by kernel_rfl) (C_laws_toEp w8 (.agg #[(.int .i64 x_a.Old.N), (.slice a16 x_a.Old.Key.length c17), (.int .i64 x_a.Old.Seq), (.int .i64 x_a.Old.Win.Top), (.slice a21 x_a.Old.Win.Bits.length c22)]) x_a.Old (show R_39 w8 (.agg #[(.int .i64 x_a.Old.N), (.slice a16 x_a.Old.Key.length c17), (.int .i64 x_a.Old.Seq), (.int .i64 x_a.Old.Win.Top), (.slice a21 x_a.Old.Win.Bits.length c22)]) x_a.Old from ⟨_, _, _, _, rfl, (r18.from0 m86), s19, (r23.from0 m86), s24⟩)) ?_
  rintro _ w9 ⟨k88, ⟨a89, c90, a94, c95, rfl, o91, s92, o96, s97, ap99⟩⟩
  have m100 := m86.extk k88
  refine wl_pure (.pointer (some ⟨g43, 7, none⟩)) (want_none rfl) rfl rfl (by kernel_rfl) ?_
  have b101 := (b84.kp k88)
  refine wl_store (.agg #[(.int .i64 ((F_laws_toEp x_a.Old).N)), (.slice a89 ((F_laws_toEp x_a.Old).Key).length c90), (.int .i64 ((F_laws_toEp x_a.Old).Seq)), (.int .i64 (((F_laws_toEp x_a.Old).Win).Top)), (.slice a94 (((F_laws_toEp x_a.Old).Win).Bits).length c95)]) [(.int .i64 ((F_laws_toEp x_a.Old).N)), (.slice a89 ((F_laws_toEp x_a.Old).Key).length c90), (.int .i64 ((F_laws_toEp x_a.Old).Seq)), (.int .i64 (((F_laws_toEp x_a.Old).Win).Top)), (.slice a94 (((F_laws_toEp x_a.Old).Win).Bits).length c95)] [(.int .i64 x_a.Role), (.slice a56 (cpB x_a.Sn).length c57), (.int .i64 ((F_laws_toEp x_a.Cur).N)), (.slice a70 ((F_laws_toEp x_a.Cur).Key).length c71), (.int .i64 ((F_laws_toEp x_a.Cur).Seq)), (.int .i64 (((F_laws_toEp x_a.Cur).Win).Top)), (.slice a75 (((F_laws_toEp x_a.Cur).Win).Bits).length c76), (.int .i64 ((F_laws_toEp x_a.Old).N)), (.slice a89 ((F_laws_toEp x_a.Old).Key).length c90), (.int .i64 ((F_laws_toEp x_a.Old).Seq)), (.int .i64 (((F_laws_toEp x_a.Old).Win).Top)), (.slice a94 (((F_laws_toEp x_a.Old).Win).Bits).length c95), (.bool false), (.int .i64 0), (.slice none 0 0)] (want_none rfl) rfl rfl rfl rfl rfl (one_cons rfl (one_cons rfl (one_cons rfl (one_cons rfl (one_cons rfl one_nil))))) sizeOf_27 b101 rfl rfl ?_
  intro w10 k102 b103 z104
  have m105 := m100.ext k102 (fun k hk => by subst hk; exact Nat.le_trans (Nat.le_trans k34.size k40.size) p44)
  refine wl_nil ?_
  refine wq_then ?_
  refine wc_seq ?_
  refine wc_region ?_
  refine wl_pure (.pointer (some ⟨g31, 12, none⟩)) (want_none rfl) rfl rfl (by kernel_rfl) ?_
  have b106 := ((b87.kp k88).ch k102 (Nat.ne_of_lt (Nat.lt_of_lt_of_le p33 (Nat.le_trans k40.size p44))))
  refine wl_load1 (.bool x_a.HasOld) (want_none rfl) rfl rfl rfl rfl isAgg_4 b106 rfl ?_
  refine wl_pure (.pointer (some ⟨g43, 12, none⟩)) (want_none rfl) rfl rfl (by kernel_rfl) ?_
  refine wl_store (.bool x_a.HasOld) [(.bool x_a.HasOld)] [(.int .i64 x_a.Role), (.slice a56 (cpB x_a.Sn).length c57), (.int .i64 ((F_laws_toEp x_a.Cur).N)), (.slice a70 ((F_laws_toEp x_a.Cur).Key).length c71), (.int .i64 ((F_laws_toEp x_a.Cur).Seq)), (.int .i64 (((F_laws_toEp x_a.Cur).Win).Top)), (.slice a75 (((F_laws_toEp x_a.Cur).Win).Bits).length c76), (.int .i64 ((F_laws_toEp x_a.Old).N)), (.slice a89 ((F_laws_toEp x_a.Old).Key).length c90), (.int .i64 ((F_laws_toEp x_a.Old).Seq)), (.int .i64 (((F_laws_toEp x_a.Old).Win).Top)), (.slice a94 (((F_laws_toEp x_a.Old).Win).Bits).length c95), (.bool x_a.HasOld), (.int .i64 0), (.slice none 0 0)] (want_none rfl) rfl rfl rfl rfl rfl (one_cons rfl one_nil) sizeOf_4 b103 rfl rfl ?_
  intro w11 k107 b108 z109
  have m110 := m105.ext k107 (fun k hk => by subst hk; exact Nat.le_trans (Nat.le_trans k34.size k40.size) p44)
  refine wl_nil ?_
  refine wq_then ?_
  refine wc_seq ?_
  refine wc_region ?_
  refine wl_pure (.pointer (some ⟨g31, 13, none⟩)) (want_none rfl) rfl rfl (by kernel_rfl) ?_
  have b111 := (b106.ch k107 (Nat.ne_of_lt (Nat.lt_of_lt_of_le p33 (Nat.le_trans k40.size p44))))
  refine wl_load1 (.int .i64 x_a.Until) (want_none rfl) rfl rfl rfl rfl isAgg_3 b111 rfl ?_
  refine wl_pure (.pointer (some ⟨g43, 13, none⟩)) (want_none rfl) rfl rfl (by kernel_rfl) ?_
  refine wl_store (.int .i64 x_a.Until) [(.int .i64 x_a.Until)] [(.int .i64 x_a.Role), (.slice a56 (cpB x_a.Sn).length c57), (.int .i64 ((F_laws_toEp x_a.Cur).N)), (.slice a70 ((F_laws_toEp x_a.Cur).Key).length c71), (.int .i64 ((F_laws_toEp x_a.Cur).Seq)), (.int .i64 (((F_laws_toEp x_a.Cur).Win).Top)), (.slice a75 (((F_laws_toEp x_a.Cur).Win).Bits).length c76), (.int .i64 ((F_laws_toEp x_a.Old).N)), (.slice a89 ((F_laws_toEp x_a.Old).Key).length c90), (.int .i64 ((F_laws_toEp x_a.Old).Seq)), (.int .i64 (((F_laws_toEp x_a.Old).Win).Top)), (.slice a94 (((F_laws_toEp x_a.Old).Win).Bits).length c95), (.bool x_a.HasOld), (.int .i64 x_a.Until), (.slice none 0 0)] (want_none rfl) rfl rfl rfl rfl rfl (one_cons rfl one_nil) sizeOf_3 b108 rfl rfl ?_
  intro w12 k112 b113 z114
  have m115 := m110.ext k112 (fun k hk => by subst hk; exact Nat.le_trans (Nat.le_trans k34.size k40.size) p44)
  refine wl_nil ?_
  refine wq_then ?_
  refine wc_seq ?_
  refine wc_region ?_
  refine wl_pure (.pointer (some ⟨g31, 14, none⟩)) (want_none rfl) rfl rfl (by kernel_rfl) ?_
  have b116 := (b111.ch k112 (Nat.ne_of_lt (Nat.lt_of_lt_of_le p33 (Nat.le_trans k40.size p44))))
  refine wl_load1 (.slice a26 x_a.Next.length c27) (want_none rfl) rfl rfl rfl rfl isAgg_22 b116 rfl ?_
  refine wl_call (want_none rfl) (args := #[(.slice a26 x_a.Next.length c27)]) rfl rfl (by kernel_rfl) (C_laws_toByteS w12 (.slice a26 x_a.Next.length c27) x_a.Next (show R_22 w12 (.slice a26 x_a.Next.length c27) x_a.Next from ⟨_, _, rfl, (r28.from0 m115), s29⟩)) ?_
  rintro _ w13 ⟨k117, ⟨a118, c119, rfl, o120, s121, ap123⟩⟩
  have m124 := m115.extk k117
  refine wl_pure (.pointer (some ⟨g43, 14, none⟩)) (want_none rfl) rfl rfl (by kernel_rfl) ?_
  have b125 := (b113.kp k117)
  refine wl_store (.slice a118 (cpB x_a.Next).length c119) [(.slice a118 (cpB x_a.Next).length c119)] [(.int .i64 x_a.Role), (.slice a56 (cpB x_a.Sn).length c57), (.int .i64 ((F_laws_toEp x_a.Cur).N)), (.slice a70 ((F_laws_toEp x_a.Cur).Key).length c71), (.int .i64 ((F_laws_toEp x_a.Cur).Seq)), (.int .i64 (((F_laws_toEp x_a.Cur).Win).Top)), (.slice a75 (((F_laws_toEp x_a.Cur).Win).Bits).length c76), (.int .i64 ((F_laws_toEp x_a.Old).N)), (.slice a89 ((F_laws_toEp x_a.Old).Key).length c90), (.int .i64 ((F_laws_toEp x_a.Old).Seq)), (.int .i64 (((F_laws_toEp x_a.Old).Win).Top)), (.slice a94 (((F_laws_toEp x_a.Old).Win).Bits).length c95), (.bool x_a.HasOld), (.int .i64 x_a.Until), (.slice a118 (cpB x_a.Next).length c119)] (want_none rfl) rfl rfl rfl rfl rfl (one_cons rfl one_nil) sizeOf_22 b125 rfl rfl ?_
  intro w14 k126 b127 z128
  have m129 := m124.ext k126 (fun k hk => by subst hk; exact Nat.le_trans (Nat.le_trans k34.size k40.size) p44)
  refine wl_nil ?_
  refine wq_then ?_
  refine wc_seq ?_
  refine wc_region ?_
  refine wl_loadN [(.int .i64 x_a.Role), (.slice a56 (cpB x_a.Sn).length c57), (.int .i64 ((F_laws_toEp x_a.Cur).N)), (.slice a70 ((F_laws_toEp x_a.Cur).Key).length c71), (.int .i64 ((F_laws_toEp x_a.Cur).Seq)), (.int .i64 (((F_laws_toEp x_a.Cur).Win).Top)), (.slice a75 (((F_laws_toEp x_a.Cur).Win).Bits).length c76), (.int .i64 ((F_laws_toEp x_a.Old).N)), (.slice a89 ((F_laws_toEp x_a.Old).Key).length c90), (.int .i64 ((F_laws_toEp x_a.Old).Seq)), (.int .i64 (((F_laws_toEp x_a.Old).Win).Top)), (.slice a94 (((F_laws_toEp x_a.Old).Win).Bits).length c95), (.bool x_a.HasOld), (.int .i64 x_a.Until), (.slice a118 (cpB x_a.Next).length c119)] (want_none rfl) rfl rfl rfl rfl isAgg_29 sizeOf_29 b127 rfl ?_
  have b130 := ((((((((((((b41.kp k46).ch k50 (Nat.ne_of_lt (Nat.lt_of_lt_of_le p39 (Nat.le_trans (Nat.le_refl _) p44)))).kp k55).ch k64 (Nat.ne_of_lt (Nat.lt_of_lt_of_le p39 (Nat.le_trans (Nat.le_refl _) p44)))).kp k69).ch k83 (Nat.ne_of_lt (Nat.lt_of_lt_of_le p39 (Nat.le_trans (Nat.le_refl _) p44)))).kp k88).ch k102 (Nat.ne_of_lt (Nat.lt_of_lt_of_le p39 (Nat.le_trans (Nat.le_refl _) p44)))).ch k107 (Nat.ne_of_lt (Nat.lt_of_lt_of_le p39 (Nat.le_trans (Nat.le_refl _) p44)))).ch k112 (Nat.ne_of_lt (Nat.lt_of_lt_of_le p39 (Nat.le_trans (Nat.le_refl _) p44)))).kp k117).ch k126 (Nat.ne_of_lt (Nat.lt_of_lt_of_le p39 (Nat.le_trans (Nat.le_refl _) p44))))
  refine wl_store (.agg #[(.int .i64 x_a.Role), (.slice a56 (cpB x_a.Sn).length c57), (.int .i64 ((F_laws_toEp x_a.Cur).N)), (.slice a70 ((F_laws_toEp x_a.Cur).Key).length c71), (.int .i64 ((F_laws_toEp x_a.Cur).Seq)), (.int .i64 (((F_laws_toEp x_a.Cur).Win).Top)), (.slice a75 (((F_laws_toEp x_a.Cur).Win).Bits).length c76), (.int .i64 ((F_laws_toEp x_a.Old).N)), (.slice a89 ((F_laws_toEp x_a.Old).Key).length c90), (.int .i64 ((F_laws_toEp x_a.Old).Seq)), (.int .i64 (((F_laws_toEp x_a.Old).Win).Top)), (.slice a94 (((F_laws_toEp x_a.Old).Win).Bits).length c95), (.bool x_a.HasOld), (.int .i64 x_a.Until), (.slice a118 (cpB x_a.Next).length c119)]) [(.int .i64 x_a.Role), (.slice a56 (cpB x_a.Sn).length c57), (.int .i64 ((F_laws_toEp x_a.Cur).N)), (.slice a70 ((F_laws_toEp x_a.Cur).Key).length c71), (.int .i64 ((F_laws_toEp x_a.Cur).Seq)), (.int .i64 (((F_laws_toEp x_a.Cur).Win).Top)), (.slice a75 (((F_laws_toEp x_a.Cur).Win).Bits).length c76), (.int .i64 ((F_laws_toEp x_a.Old).N)), (.slice a89 ((F_laws_toEp x_a.Old).Key).length c90), (.int .i64 ((F_laws_toEp x_a.Old).Seq)), (.int .i64 (((F_laws_toEp x_a.Old).Win).Top)), (.slice a94 (((F_laws_toEp x_a.Old).Win).Bits).length c95), (.bool x_a.HasOld), (.int .i64 x_a.Until), (.slice a118 (cpB x_a.Next).length c119)] [(.int .i64 x_a.Role), (.slice a56 (cpB x_a.Sn).length c57), (.int .i64 ((F_laws_toEp x_a.Cur).N)), (.slice a70 ((F_laws_toEp x_a.Cur).Key).length c71), (.int .i64 ((F_laws_toEp x_a.Cur).Seq)), (.int .i64 (((F_laws_toEp x_a.Cur).Win).Top)), (.slice a75 (((F_laws_toEp x_a.Cur).Win).Bits).length c76), (.int .i64 ((F_laws_toEp x_a.Old).N)), (.slice a89 ((F_laws_toEp x_a.Old).Key).length c90), (.int .i64 ((F_laws_toEp x_a.Old).Seq)), (.int .i64 (((F_laws_toEp x_a.Old).Win).Top)), (.slice a94 (((F_laws_toEp x_a.Old).Win).Bits).length c95), (.bool x_a.HasOld), (.int .i64 x_a.Until), (.slice a118 (cpB x_a.Next).length c119)] (want_none rfl) rfl rfl rfl rfl rfl (one_cons rfl (one_cons rfl (one_cons rfl (one_cons rfl (one_cons rfl (one_cons rfl (one_cons rfl (one_cons rfl (one_cons rfl (one_cons rfl (one_cons rfl (one_cons rfl (one_cons rfl (one_cons rfl (one_cons rfl one_nil))))))))))))))) sizeOf_29 b130 rfl rfl ?_
  intro w15 k131 b132 z133
  have m134 := m129.ext k131 (fun k hk => by subst hk; exact Nat.le_trans k34.size p38)
  refine wl_nil ?_
  refine wq_then ?_
  refine wc_ret ?_
  have o135 := (own_ch (own_ch (own_kp (own_ch (own_ch (own_ch (own_kp (own_ch (own_kp (own_ch o58 k64 (fun g hg hlt hk => by have h1 := (own_lt o58 g hg).1; have h2 := Nat.lt_of_lt_of_le p45 k50.size; omega)) k69) k83 (fun g hg hlt hk => by have h1 := (own_lt o58 g hg).1; have h2 := Nat.lt_of_lt_of_le p45 k50.size; omega)) k88) k102 (fun g hg hlt hk => by have h1 := (own_lt o58 g hg).1; have h2 := Nat.lt_of_lt_of_le p45 k50.size; omega)) k107 (fun g hg hlt hk => by have h1 := (own_lt o58 g hg).1; have h2 := Nat.lt_of_lt_of_le p45 k50.size; omega)) k112 (fun g hg hlt hk => by have h1 := (own_lt o58 g hg).1; have h2 := Nat.lt_of_lt_of_le p45 k50.size; omega)) k117) k126 (fun g hg hlt hk => by have h1 := (own_lt o58 g hg).1; have h2 := Nat.lt_of_lt_of_le p45 k50.size; omega)) k131 (fun g hg hlt hk => by have h1 := (own_lt o58 g hg).1; have h2 := Nat.lt_of_lt_of_le p39 (Nat.le_trans k46.size k50.size); omega))
  have o136 := (own_ch (own_ch (own_kp (own_ch (own_ch (own_ch (own_kp (own_ch o72 k83 (fun g hg hlt hk => by have h1 := (own_lt o72 g hg).1; have h2 := Nat.lt_of_lt_of_le p45 (Nat.le_trans (Nat.le_trans k50.size k55.size) k64.size); omega)) k88) k102 (fun g hg hlt hk => by have h1 := (own_lt o72 g hg).1; have h2 := Nat.lt_of_lt_of_le p45 (Nat.le_trans (Nat.le_trans k50.size k55.size) k64.size); omega)) k107 (fun g hg hlt hk => by have h1 := (own_lt o72 g hg).1; have h2 := Nat.lt_of_lt_of_le p45 (Nat.le_trans (Nat.le_trans k50.size k55.size) k64.size); omega)) k112 (fun g hg hlt hk => by have h1 := (own_lt o72 g hg).1; have h2 := Nat.lt_of_lt_of_le p45 (Nat.le_trans (Nat.le_trans k50.size k55.size) k64.size); omega)) k117) k126 (fun g hg hlt hk => by have h1 := (own_lt o72 g hg).1; have h2 := Nat.lt_of_lt_of_le p45 (Nat.le_trans (Nat.le_trans k50.size k55.size) k64.size); omega)) k131 (fun g hg hlt hk => by have h1 := (own_lt o72 g hg).1; have h2 := Nat.lt_of_lt_of_le p39 (Nat.le_trans (Nat.le_trans (Nat.le_trans k46.size k50.size) k55.size) k64.size); omega))
  have o137 := (own_ch (own_ch (own_kp (own_ch (own_ch (own_ch (own_kp (own_ch o77 k83 (fun g hg hlt hk => by have h1 := (own_lt o77 g hg).1; have h2 := Nat.lt_of_lt_of_le p45 (Nat.le_trans (Nat.le_trans k50.size k55.size) k64.size); omega)) k88) k102 (fun g hg hlt hk => by have h1 := (own_lt o77 g hg).1; have h2 := Nat.lt_of_lt_of_le p45 (Nat.le_trans (Nat.le_trans k50.size k55.size) k64.size); omega)) k107 (fun g hg hlt hk => by have h1 := (own_lt o77 g hg).1; have h2 := Nat.lt_of_lt_of_le p45 (Nat.le_trans (Nat.le_trans k50.size k55.size) k64.size); omega)) k112 (fun g hg hlt hk => by have h1 := (own_lt o77 g hg).1; have h2 := Nat.lt_of_lt_of_le p45 (Nat.le_trans (Nat.le_trans k50.size k55.size) k64.size); omega)) k117) k126 (fun g hg hlt hk => by have h1 := (own_lt o77 g hg).1; have h2 := Nat.lt_of_lt_of_le p45 (Nat.le_trans (Nat.le_trans k50.size k55.size) k64.size); omega)) k131 (fun g hg hlt hk => by have h1 := (own_lt o77 g hg).1; have h2 := Nat.lt_of_lt_of_le p39 (Nat.le_trans (Nat.le_trans (Nat.le_trans k46.size k50.size) k55.size) k64.size); omega))
  have o138 := (own_ch (own_ch (own_kp (own_ch (own_ch (own_ch o91 k102 (fun g hg hlt hk => by have h1 := (own_lt o91 g hg).1; have h2 := Nat.lt_of_lt_of_le p45 (Nat.le_trans (Nat.le_trans (Nat.le_trans (Nat.le_trans k50.size k55.size) k64.size) k69.size) k83.size); omega)) k107 (fun g hg hlt hk => by have h1 := (own_lt o91 g hg).1; have h2 := Nat.lt_of_lt_of_le p45 (Nat.le_trans (Nat.le_trans (Nat.le_trans (Nat.le_trans k50.size k55.size) k64.size) k69.size) k83.size); omega)) k112 (fun g hg hlt hk => by have h1 := (own_lt o91 g hg).1; have h2 := Nat.lt_of_lt_of_le p45 (Nat.le_trans (Nat.le_trans (Nat.le_trans (Nat.le_trans k50.size k55.size) k64.size) k69.size) k83.size); omega)) k117) k126 (fun g hg hlt hk => by have h1 := (own_lt o91 g hg).1; have h2 := Nat.lt_of_lt_of_le p45 (Nat.le_trans (Nat.le_trans (Nat.le_trans (Nat.le_trans k50.size k55.size) k64.size) k69.size) k83.size); omega)) k131 (fun g hg hlt hk => by have h1 := (own_lt o91 g hg).1; have h2 := Nat.lt_of_lt_of_le p39 (Nat.le_trans (Nat.le_trans (Nat.le_trans (Nat.le_trans (Nat.le_trans k46.size k50.size) k55.size) k64.size) k69.size) k83.size); omega))
  have o139 := (own_ch (own_ch (own_kp (own_ch (own_ch (own_ch o96 k102 (fun g hg hlt hk => by have h1 := (own_lt o96 g hg).1; have h2 := Nat.lt_of_lt_of_le p45 (Nat.le_trans (Nat.le_trans (Nat.le_trans (Nat.le_trans k50.size k55.size) k64.size) k69.size) k83.size); omega)) k107 (fun g hg hlt hk => by have h1 := (own_lt o96 g hg).1; have h2 := Nat.lt_of_lt_of_le p45 (Nat.le_trans (Nat.le_trans (Nat.le_trans (Nat.le_trans k50.size k55.size) k64.size) k69.size) k83.size); omega)) k112 (fun g hg hlt hk => by have h1 := (own_lt o96 g hg).1; have h2 := Nat.lt_of_lt_of_le p45 (Nat.le_trans (Nat.le_trans (Nat.le_trans (Nat.le_trans k50.size k55.size) k64.size) k69.size) k83.size); omega)) k117) k126 (fun g hg hlt hk => by have h1 := (own_lt o96 g hg).1; have h2 := Nat.lt_of_lt_of_le p45 (Nat.le_trans (Nat.le_trans (Nat.le_trans (Nat.le_trans k50.size k55.size) k64.size) k69.size) k83.size); omega)) k131 (fun g hg hlt hk => by have h1 := (own_lt o96 g hg).1; have h2 := Nat.lt_of_lt_of_le p39 (Nat.le_trans (Nat.le_trans (Nat.le_trans (Nat.le_trans (Nat.le_trans k46.size k50.size) k55.size) k64.size) k69.size) k83.size); omega))
  have o140 := (own_ch (own_ch o120 k126 (fun g hg hlt hk => by have h1 := (own_lt o120 g hg).1; have h2 := Nat.lt_of_lt_of_le p45 (Nat.le_trans (Nat.le_trans (Nat.le_trans (Nat.le_trans (Nat.le_trans (Nat.le_trans (Nat.le_trans (Nat.le_trans k50.size k55.size) k64.size) k69.size) k83.size) k88.size) k102.size) k107.size) k112.size); omega)) k131 (fun g hg hlt hk => by have h1 := (own_lt o120 g hg).1; have h2 := Nat.lt_of_lt_of_le p39 (Nat.le_trans (Nat.le_trans (Nat.le_trans (Nat.le_trans (Nat.le_trans (Nat.le_trans (Nat.le_trans (Nat.le_trans (Nat.le_trans k46.size k50.size) k55.size) k64.size) k69.size) k83.size) k88.size) k102.size) k107.size) k112.size); omega))
  refine ret_1 (.inl rfl) (.agg #[(.int .i64 x_a.Role), (.slice a56 (cpB x_a.Sn).length c57), (.int .i64 ((F_laws_toEp x_a.Cur).N)), (.slice a70 ((F_laws_toEp x_a.Cur).Key).length c71), (.int .i64 ((F_laws_toEp x_a.Cur).Seq)), (.int .i64 (((F_laws_toEp x_a.Cur).Win).Top)), (.slice a75 (((F_laws_toEp x_a.Cur).Win).Bits).length c76), (.int .i64 ((F_laws_toEp x_a.Old).N)), (.slice a89 ((F_laws_toEp x_a.Old).Key).length c90), (.int .i64 ((F_laws_toEp x_a.Old).Seq)), (.int .i64 (((F_laws_toEp x_a.Old).Win).Top)), (.slice a94 (((F_laws_toEp x_a.Old).Win).Bits).length c95), (.bool x_a.HasOld), (.int .i64 x_a.Until), (.slice a118 (cpB x_a.Next).length c119)]) rfl (rv_c [(.int .i64 x_a.Role), (.slice a56 (cpB x_a.Sn).length c57), (.int .i64 ((F_laws_toEp x_a.Cur).N)), (.slice a70 ((F_laws_toEp x_a.Cur).Key).length c71), (.int .i64 ((F_laws_toEp x_a.Cur).Seq)), (.int .i64 (((F_laws_toEp x_a.Cur).Win).Top)), (.slice a75 (((F_laws_toEp x_a.Cur).Win).Bits).length c76), (.int .i64 ((F_laws_toEp x_a.Old).N)), (.slice a89 ((F_laws_toEp x_a.Old).Key).length c90), (.int .i64 ((F_laws_toEp x_a.Old).Seq)), (.int .i64 (((F_laws_toEp x_a.Old).Win).Top)), (.slice a94 (((F_laws_toEp x_a.Old).Win).Bits).length c95), (.bool x_a.HasOld), (.int .i64 x_a.Until), (.slice a118 (cpB x_a.Next).length c119)] rfl b132 isAgg_29 sizeOf_29) ?_
  refine ⟨m134.keep0, ?_⟩
  have hF141 : F_laws_toChan x_a = { Role := x_a.Role, Sn := (cpB x_a.Sn), Cur := (F_laws_toEp x_a.Cur), Old := (F_laws_toEp x_a.Old), HasOld := x_a.HasOld, Until := x_a.Until, Next := (cpB x_a.Next) : PChan } := by rfl
  rw [hF141]
  exact ⟨_, _, _, _, _, _, _, _, _, _, _, _, rfl, (own_lo o135 (Nat.le_trans (Nat.le_trans (Nat.le_trans k34.size k40.size) k46.size) k50.size)), s59, (own_lo o136 (Nat.le_trans (Nat.le_trans (Nat.le_trans (Nat.le_trans (Nat.le_trans k34.size k40.size) k46.size) k50.size) k55.size) k64.size)), s73, (own_lo o137 (Nat.le_trans (Nat.le_trans (Nat.le_trans (Nat.le_trans (Nat.le_trans k34.size k40.size) k46.size) k50.size) k55.size) k64.size)), s78, (own_lo o138 (Nat.le_trans (Nat.le_trans (Nat.le_trans (Nat.le_trans (Nat.le_trans (Nat.le_trans (Nat.le_trans k34.size k40.size) k46.size) k50.size) k55.size) k64.size) k69.size) k83.size)), s92, (own_lo o139 (Nat.le_trans (Nat.le_trans (Nat.le_trans (Nat.le_trans (Nat.le_trans (Nat.le_trans (Nat.le_trans k34.size k40.size) k46.size) k50.size) k55.size) k64.size) k69.size) k83.size)), s97, (own_lo o140 (Nat.le_trans (Nat.le_trans (Nat.le_trans (Nat.le_trans (Nat.le_trans (Nat.le_trans (Nat.le_trans (Nat.le_trans (Nat.le_trans (Nat.le_trans (Nat.le_trans k34.size k40.size) k46.size) k50.size) k55.size) k64.size) k69.size) k83.size) k88.size) k102.size) k107.size) k112.size)), s121, ⟨⟨(Ap.lt o58 o72 k64.size), ⟨(Ap.lt o58 o77 k64.size), ⟨(Ap.lt o58 o91 (Nat.le_trans (Nat.le_trans k64.size k69.size) k83.size)), ⟨(Ap.lt o58 o96 (Nat.le_trans (Nat.le_trans k64.size k69.size) k83.size)), ⟨(Ap.lt o58 o120 (Nat.le_trans (Nat.le_trans (Nat.le_trans (Nat.le_trans (Nat.le_trans (Nat.le_trans k64.size k69.size) k83.size) k88.size) k102.size) k107.size) k112.size)), trivial⟩⟩⟩⟩⟩, ⟨⟨(ap80.1.1), ⟨(Ap.lt o72 o91 k83.size), ⟨(Ap.lt o72 o96 k83.size), ⟨(Ap.lt o72 o120 (Nat.le_trans (Nat.le_trans (Nat.le_trans (Nat.le_trans k83.size k88.size) k102.size) k107.size) k112.size)), trivial⟩⟩⟩⟩, ⟨⟨(Ap.lt o77 o91 k83.size), ⟨(Ap.lt o77 o96 k83.size), ⟨(Ap.lt o77 o120 (Nat.le_trans (Nat.le_trans (Nat.le_trans (Nat.le_trans k83.size k88.size) k102.size) k107.size) k112.size)), trivial⟩⟩⟩, ⟨⟨(ap99.1.1), ⟨(Ap.lt o91 o120 (Nat.le_trans (Nat.le_trans k102.size k107.size) k112.size)), trivial⟩⟩, ⟨⟨(Ap.lt o96 o120 (Nat.le_trans (Nat.le_trans k102.size k107.size) k112.size)), trivial⟩, ⟨trivial, trivial⟩⟩⟩⟩⟩⟩⟩

def F_spec_l14None (x_e : PEp) : (Bool) := bif (decide (x_e.N = 0)) then (bif (decide ((x_e.Key.length : Int) = 0)) then (bif (decide (x_e.Seq = 0)) then (bif (decide (x_e.Win.Top = 0)) then (decide ((x_e.Win.Bits.length : Int) = 0)) else (false)) else (false)) else (false)) else (false)
theorem C_spec_l14None (w0 : World) (v_x_e : Value) (x_e : PEp) (r_x_e : R_27 w0 v_x_e x_e)  : Fn Try.prog 77 #[v_x_e] w0 (fun v w' => Keep w0 w' ∧ O_4 w' w0.heap.size v (F_spec_l14None x_e)) := by
  obtain ⟨a1, c2, a6, c7, rfl, r3, s4, r8, s9⟩ := r_x_e
  refine fn_of (n := 30) (l := [(.agg #[(.int .i64 x_e.N), (.slice a1 x_e.Key.length c2), (.int .i64 x_e.Seq), (.int .i64 x_e.Win.Top), (.slice a6 x_e.Win.Bits.length c7)]), undef, undef, undef, undef, undef, undef, undef, undef, undef, undef, undef, undef, undef, undef, undef, undef, undef, undef, undef, undef, undef, undef, undef, undef, undef, undef, undef, undef, undef]) Try.func77 rfl rfl (by kernel_rfl) rfl ?_
  refine wc_seq ?_
  refine wc_region ?_
  refine wl_box (want_none rfl) [(.int .i64 x_e.N), (.slice a1 x_e.Key.length c2), (.int .i64 x_e.Seq), (.int .i64 x_e.Win.Top), (.slice a6 x_e.Win.Bits.length c7)] rfl rfl rfl rfl ?_
  intro g11 w1 p12 p13 k14 b15
  have m16 := (Ch.base w0).extk k14
  refine wl_mv (.bool false) (want_none rfl) rfl rfl (.inr rfl) rfl ?_
  refine wl_nil ?_
  refine wq_then ?_
  refine wc_seq ?_
  refine wc_region ?_
  refine wl_pure (.pointer (some ⟨g11, 0, none⟩)) (want_none rfl) rfl rfl (by kernel_rfl) ?_
  refine wl_load1 (.int .i64 x_e.N) (want_none rfl) rfl rfl rfl rfl isAgg_3 b15 rfl ?_
  refine wl_pure (.bool (decide (x_e.N = 0))) (want_none rfl) rfl rfl (by kernel_rfl) ?_
  refine wl_mv (.bool (decide (x_e.N = 0))) (want_none rfl) rfl rfl (.inl rfl) rfl ?_
  rcases Bool.eq_false_or_eq_true (decide (x_e.N = 0)) with h17 | h17
  · have q18 := of_decide_eq_true h17
    refine wl_pure (.pointer (some ⟨g11, 1, none⟩)) (want_some rfl rfl rfl (congrArg Value.bool h17)) rfl rfl (by kernel_rfl) ?_
    refine wl_load1 (.slice a1 x_e.Key.length c2) (want_some rfl rfl rfl (congrArg Value.bool h17)) rfl rfl rfl rfl isAgg_22 b15 rfl ?_
    refine wl_len (want_some rfl rfl rfl (congrArg Value.bool h17)) rfl rfl rfl slTy_22 rfl (r3.from0 m16) ?_
    refine wl_pure (.bool (decide ((x_e.Key.length : Int) = 0))) (want_some rfl rfl rfl (congrArg Value.bool h17)) rfl rfl (by kernel_rfl) ?_
    refine wl_pick_t (.bool (decide ((x_e.Key.length : Int) = 0))) (want_none rfl) rfl rfl rfl (congrArg Value.bool h17) rfl ?_
    refine wl_mv (.bool (decide ((x_e.Key.length : Int) = 0))) (want_none rfl) rfl rfl (.inl rfl) rfl ?_
    rcases Bool.eq_false_or_eq_true (decide ((x_e.Key.length : Int) = 0)) with h19 | h19
    · have q20 := of_decide_eq_true h19
      refine wl_pure (.pointer (some ⟨g11, 2, none⟩)) (want_some rfl rfl rfl (congrArg Value.bool h19)) rfl rfl (by kernel_rfl) ?_
      refine wl_load1 (.int .i64 x_e.Seq) (want_some rfl rfl rfl (congrArg Value.bool h19)) rfl rfl rfl rfl isAgg_3 b15 rfl ?_
      refine wl_pure (.bool (decide (x_e.Seq = 0))) (want_some rfl rfl rfl (congrArg Value.bool h19)) rfl rfl (by kernel_rfl) ?_
      refine wl_pick_t (.bool (decide (x_e.Seq = 0))) (want_none rfl) rfl rfl rfl (congrArg Value.bool h19) rfl ?_
      refine wl_mv (.bool (decide (x_e.Seq = 0))) (want_none rfl) rfl rfl (.inl rfl) rfl ?_
      rcases Bool.eq_false_or_eq_true (decide (x_e.Seq = 0)) with h21 | h21
      · have q22 := of_decide_eq_true h21
        refine wl_pure (.pointer (some ⟨g11, 3, none⟩)) (want_some rfl rfl rfl (congrArg Value.bool h21)) rfl rfl (by kernel_rfl) ?_
        refine wl_pure (.pointer (some ⟨g11, 3, none⟩)) (want_some rfl rfl rfl (congrArg Value.bool h21)) rfl rfl (by kernel_rfl) ?_
        refine wl_load1 (.int .i64 x_e.Win.Top) (want_some rfl rfl rfl (congrArg Value.bool h21)) rfl rfl rfl rfl isAgg_3 b15 rfl ?_
        refine wl_pure (.bool (decide (x_e.Win.Top = 0))) (want_some rfl rfl rfl (congrArg Value.bool h21)) rfl rfl (by kernel_rfl) ?_
        refine wl_pick_t (.bool (decide (x_e.Win.Top = 0))) (want_none rfl) rfl rfl rfl (congrArg Value.bool h21) rfl ?_
        refine wl_mv (.bool (decide (x_e.Win.Top = 0))) (want_none rfl) rfl rfl (.inl rfl) rfl ?_
        rcases Bool.eq_false_or_eq_true (decide (x_e.Win.Top = 0)) with h23 | h23
        · have q24 := of_decide_eq_true h23
          refine wl_pure (.pointer (some ⟨g11, 3, none⟩)) (want_some rfl rfl rfl (congrArg Value.bool h23)) rfl rfl (by kernel_rfl) ?_
          refine wl_pure (.pointer (some ⟨g11, 4, none⟩)) (want_some rfl rfl rfl (congrArg Value.bool h23)) rfl rfl (by kernel_rfl) ?_
          refine wl_load1 (.slice a6 x_e.Win.Bits.length c7) (want_some rfl rfl rfl (congrArg Value.bool h23)) rfl rfl rfl rfl isAgg_23 b15 rfl ?_
          refine wl_len (want_some rfl rfl rfl (congrArg Value.bool h23)) rfl rfl rfl slTy_23 rfl (r8.from0 m16) ?_
          refine wl_pure (.bool (decide ((x_e.Win.Bits.length : Int) = 0))) (want_some rfl rfl rfl (congrArg Value.bool h23)) rfl rfl (by kernel_rfl) ?_
          refine wl_pick_t (.bool (decide ((x_e.Win.Bits.length : Int) = 0))) (want_none rfl) rfl rfl rfl (congrArg Value.bool h23) rfl ?_
          refine wl_mv (.bool (decide ((x_e.Win.Bits.length : Int) = 0))) (want_none rfl) rfl rfl (.inr rfl) rfl ?_
          refine wl_nil ?_
          refine wq_then ?_
          refine wc_ret ?_
          refine ret_1 (.inl rfl) (.bool (decide ((x_e.Win.Bits.length : Int) = 0))) rfl rfl ?_
          refine ⟨m16.keep0, ?_⟩
          have hF25 : F_spec_l14None x_e = decide ((x_e.Win.Bits.length : Int) = 0) := by simp only [F_spec_l14None, h17, h19, h21, h23, cond_true, cond_false]
          rw [hF25]
          exact rfl
        · have q26 := of_decide_eq_false h23
          refine wl_skip rfl rfl rfl (congrArg Value.bool h23) rfl rfl rfl ?_
          refine wl_skip rfl rfl rfl (congrArg Value.bool h23) rfl rfl rfl ?_
          refine wl_skip rfl rfl rfl (congrArg Value.bool h23) rfl rfl rfl ?_
          refine wl_skip rfl rfl rfl (congrArg Value.bool h23) rfl rfl rfl ?_
          refine wl_skip rfl rfl rfl (congrArg Value.bool h23) rfl rfl rfl ?_
          refine wl_pick_f (.bool false) (want_none rfl) rfl rfl rfl (congrArg Value.bool h23) rfl ?_
          refine wl_mv (.bool false) (want_none rfl) rfl rfl (.inr rfl) rfl ?_
          refine wl_nil ?_
          refine wq_then ?_
          refine wc_ret ?_
          refine ret_1 (.inl rfl) (.bool false) rfl rfl ?_
          refine ⟨m16.keep0, ?_⟩
          have hF27 : F_spec_l14None x_e = false := by simp only [F_spec_l14None, h17, h19, h21, h23, cond_true, cond_false]
          rw [hF27]
          exact rfl
      · have q28 := of_decide_eq_false h21
        refine wl_skip rfl rfl rfl (congrArg Value.bool h21) rfl rfl rfl ?_
        refine wl_skip rfl rfl rfl (congrArg Value.bool h21) rfl rfl rfl ?_
        refine wl_skip rfl rfl rfl (congrArg Value.bool h21) rfl rfl rfl ?_
        refine wl_skip rfl rfl rfl (congrArg Value.bool h21) rfl rfl rfl ?_
        refine wl_pick_f (.bool false) (want_none rfl) rfl rfl rfl (congrArg Value.bool h21) rfl ?_
        refine wl_mv (.bool false) (want_none rfl) rfl rfl (.inl rfl) rfl ?_
        refine wl_skip rfl rfl rfl rfl rfl rfl rfl ?_
        refine wl_skip rfl rfl rfl rfl rfl rfl rfl ?_
        refine wl_skip rfl rfl rfl rfl rfl rfl rfl ?_
        refine wl_skip rfl rfl rfl rfl rfl rfl rfl ?_
        refine wl_skip rfl rfl rfl rfl rfl rfl rfl ?_
        refine wl_pick_f (.bool false) (want_none rfl) rfl rfl rfl rfl rfl ?_
        refine wl_mv (.bool false) (want_none rfl) rfl rfl (.inr rfl) rfl ?_
        refine wl_nil ?_
        refine wq_then ?_
        refine wc_ret ?_
        refine ret_1 (.inl rfl) (.bool false) rfl rfl ?_
        refine ⟨m16.keep0, ?_⟩
        have hF29 : F_spec_l14None x_e = false := by simp only [F_spec_l14None, h17, h19, h21, cond_true, cond_false]
        rw [hF29]
        exact rfl
    · have q30 := of_decide_eq_false h19
      refine wl_skip rfl rfl rfl (congrArg Value.bool h19) rfl rfl rfl ?_
      refine wl_skip rfl rfl rfl (congrArg Value.bool h19) rfl rfl rfl ?_
      refine wl_skip rfl rfl rfl (congrArg Value.bool h19) rfl rfl rfl ?_
      refine wl_pick_f (.bool false) (want_none rfl) rfl rfl rfl (congrArg Value.bool h19) rfl ?_
      refine wl_mv (.bool false) (want_none rfl) rfl rfl (.inl rfl) rfl ?_
      refine wl_skip rfl rfl rfl rfl rfl rfl rfl ?_
      refine wl_skip rfl rfl rfl rfl rfl rfl rfl ?_
      refine wl_skip rfl rfl rfl rfl rfl rfl rfl ?_
      refine wl_skip rfl rfl rfl rfl rfl rfl rfl ?_
      refine wl_pick_f (.bool false) (want_none rfl) rfl rfl rfl rfl rfl ?_
      refine wl_mv (.bool false) (want_none rfl) rfl rfl (.inl rfl) rfl ?_
      refine wl_skip rfl rfl rfl rfl rfl rfl rfl ?_
      refine wl_skip rfl rfl rfl rfl rfl rfl rfl ?_
      refine wl_skip rfl rfl rfl rfl rfl rfl rfl ?_
      refine wl_skip rfl rfl rfl rfl rfl rfl rfl ?_
      refine wl_skip rfl rfl rfl rfl rfl rfl rfl ?_
      refine wl_pick_f (.bool false) (want_none rfl) rfl rfl rfl rfl rfl ?_
      refine wl_mv (.bool false) (want_none rfl) rfl rfl (.inr rfl) rfl ?_
      refine wl_nil ?_
      refine wq_then ?_
      refine wc_ret ?_
      refine ret_1 (.inl rfl) (.bool false) rfl rfl ?_
      refine ⟨m16.keep0, ?_⟩
      have hF31 : F_spec_l14None x_e = false := by simp only [F_spec_l14None, h17, h19, cond_true, cond_false]
      rw [hF31]
      exact rfl
  · have q32 := of_decide_eq_false h17
    refine wl_skip rfl rfl rfl (congrArg Value.bool h17) rfl rfl rfl ?_
    refine wl_skip rfl rfl rfl (congrArg Value.bool h17) rfl rfl rfl ?_
    refine wl_skip rfl rfl rfl (congrArg Value.bool h17) rfl rfl rfl ?_
    refine wl_skip rfl rfl rfl (congrArg Value.bool h17) rfl rfl rfl ?_
    refine wl_pick_f (.bool false) (want_none rfl) rfl rfl rfl (congrArg Value.bool h17) rfl ?_
    refine wl_mv (.bool false) (want_none rfl) rfl rfl (.inl rfl) rfl ?_
    refine wl_skip rfl rfl rfl rfl rfl rfl rfl ?_
    refine wl_skip rfl rfl rfl rfl rfl rfl rfl ?_
    refine wl_skip rfl rfl rfl rfl rfl rfl rfl ?_
    refine wl_pick_f (.bool false) (want_none rfl) rfl rfl rfl rfl rfl ?_
    refine wl_mv (.bool false) (want_none rfl) rfl rfl (.inl rfl) rfl ?_
    refine wl_skip rfl rfl rfl rfl rfl rfl rfl ?_
    refine wl_skip rfl rfl rfl rfl rfl rfl rfl ?_
    refine wl_skip rfl rfl rfl rfl rfl rfl rfl ?_
    refine wl_skip rfl rfl rfl rfl rfl rfl rfl ?_
    refine wl_pick_f (.bool false) (want_none rfl) rfl rfl rfl rfl rfl ?_
    refine wl_mv (.bool false) (want_none rfl) rfl rfl (.inl rfl) rfl ?_
    refine wl_skip rfl rfl rfl rfl rfl rfl rfl ?_
    refine wl_skip rfl rfl rfl rfl rfl rfl rfl ?_
    refine wl_skip rfl rfl rfl rfl rfl rfl rfl ?_
    refine wl_skip rfl rfl rfl rfl rfl rfl rfl ?_
    refine wl_skip rfl rfl rfl rfl rfl rfl rfl ?_
    refine wl_pick_f (.bool false) (want_none rfl) rfl rfl rfl rfl rfl ?_
    refine wl_mv (.bool false) (want_none rfl) rfl rfl (.inr rfl) rfl ?_
    refine wl_nil ?_
    refine wq_then ?_
    refine wc_ret ?_
    refine ret_1 (.inl rfl) (.bool false) rfl rfl ?_
    refine ⟨m16.keep0, ?_⟩
    have hF33 : F_spec_l14None x_e = false := by simp only [F_spec_l14None, h17, cond_true, cond_false]
    rw [hF33]
    exact rfl

theorem isAgg_41 : ∀ w, (isAgg 41).run Try.prog w = .ok true w := fun w => by kernel_rfl
theorem sizeOf_41 : ∀ w, (sizeOf 41).run Try.prog w = .ok 15 w := fun w => by kernel_rfl
def O_22_4 (w : World) (lo : Nat) (v : Value) (x : (List UInt8) × (Bool)) : Prop := ∃ (a1 : Option Addr) (c1 : Nat), v = .tuple #[.slice a1 x.1.length c1, .bool x.2] ∧ w.ownsRow lo 5 1 (.slice a1 x.1.length c1) x.1.length (x.1.map bV) ∧ x.1.length ≤ 1073741824 ∧ Aps [(a1, c1)]
def F_spec_l8Copy (x_w : PWin) : (PWin) := x_w
theorem C_spec_l8Copy (w0 : World) (v_x_w : Value) (x_w : PWin) (r_x_w : R_25 w0 v_x_w x_w)  : Fn Try.prog 128 #[v_x_w] w0 (fun v w' => Keep w0 w' ∧ O_25 w' w0.heap.size v (F_spec_l8Copy x_w)) := by
  obtain ⟨a1, c2, rfl, r3, s4⟩ := r_x_w
  refine fn_of (n := 10) (l := [(.agg #[(.int .i64 x_w.Top), (.slice a1 x_w.Bits.length c2)]), undef, undef, undef, undef, undef, undef, undef, undef, undef]) Try.func128 rfl rfl (by kernel_rfl) rfl ?_
  refine wc_seq ?_
  refine wc_region ?_
  refine wl_box (want_none rfl) [(.int .i64 x_w.Top), (.slice a1 x_w.Bits.length c2)] rfl rfl rfl rfl ?_
  intro g6 w1 p7 p8 k9 b10
  have m11 := (Ch.base w0).extk k9
  refine wl_alloc (want_none rfl) (.agg #[(.int .i64 0), (.slice none 0 0)]) [(.int .i64 0), (.slice none 0 0)] zero_25 rfl rfl rfl rfl ?_
  intro g12 w2 p13 p14 k15 b16
  have m17 := m11.extk k15
  refine wl_nil ?_
  refine wq_then ?_
  refine wc_seq ?_
  refine wc_draw ([(3, [], [], (fun _ v _ => v = (.pointer (some ⟨g6, 0, none⟩)))), (4, [], [0], (fun _ v _ => v = (.int .i64 x_w.Top))), (5, [], [], (fun _ v w => ∃ a0 : Addr, v = .slice (some a0) 0 0 ∧ w.ownsRow w2.heap.size 3 1 (.slice (some a0) 0 0) 0 [])), (6, [], [], (fun _ v _ => v = (.pointer (some ⟨g6, 1, none⟩)))), (7, [], [3], (fun _ v _ => v = (.slice a1 x_w.Bits.length c2))), (8, [], [2, 3, 4], (fun _ v w => ∃ (a1 : Option Addr) (c1 : Nat), v = .slice a1 x_w.Bits.length c1 ∧ w.ownsRow w2.heap.size 3 1 (.slice a1 x_w.Bits.length c1) x_w.Bits.length (x_w.Bits.map iV) ∧ x_w.Bits.length ≤ 1073741824 ∧ Aps [(a1, c1)])), (9, [8], [0, 1, 2, 3, 4, 5], (fun e v _ => v = (.agg #[(.int .i64 x_w.Top), (e 8)])))] : GV) mixed rfl (by kernel_rfl) (by kernel_rfl) ?_ ?_ ?_
  · exact ⟨(fun _ _ _ _ h _ => h), (fun _ _ _ _ _ h => h), ⟨(fun _ _ _ _ h _ => h), (fun _ _ _ _ _ h => h), ⟨(fun e v w w1 h hk => by obtain ⟨a0x, he, o0x⟩ := h; exact ⟨a0x, he, own_kp o0x hk⟩), (fun _ _ _ _ _ h => h), ⟨(fun _ _ _ _ h _ => h), (fun _ _ _ _ _ h => h), ⟨(fun _ _ _ _ h _ => h), (fun _ _ _ _ _ h => h), ⟨(fun e v w w1 h hk => by obtain ⟨a0x, c0x, he, o0x, l0x, hap⟩ := h; exact ⟨a0x, c0x, he, own_kp o0x hk, l0x, hap⟩), (fun _ _ _ _ _ h => h), ⟨(fun _ _ _ _ h _ => h), (fun e1 e2 v w hx h => by have h8x := hx 8 (by simp); simp only [h8x] at h; exact h), trivial⟩⟩⟩⟩⟩⟩⟩
  · refine ⟨?_, ⟨?_, ⟨?_, ⟨?_, ⟨?_, ⟨?_, ⟨?_, trivial⟩⟩⟩⟩⟩⟩⟩
    · intro w3 k54
      have m55 := m17.extk k54
      intro u56
      intro u57
      intro u58
      intro u59
      intro u60
      intro u61
      intro u62
      show WL _ _ _ _ _ _ _
      refine wl_pure (.pointer (some ⟨g6, 0, none⟩)) (want_none rfl) rfl rfl (by kernel_rfl) ?_
      exact wl_fin (Ch.refl _ _) rfl
    · intro w3 k63
      have m64 := m17.extk k63
      rintro _ rfl
      intro u65
      intro u66
      intro u67
      intro u68
      intro u69
      intro u70
      show WL _ _ _ _ _ _ _
      have b71 := ((b10.kp k15).kp k63)
      refine wl_load1 (.int .i64 x_w.Top) (want_none rfl) rfl rfl rfl rfl isAgg_3 b71 rfl ?_
      exact wl_fin (Ch.refl _ _) rfl
    · intro w3 k72
      have m73 := m17.extk k72
      intro u74
      intro u75
      intro u76
      intro u77
      intro u78
      intro u79
      intro u80
      show WL _ _ _ _ _ _ _
      refine wl_lit0 (want_none rfl) rfl rfl slTy_23 (fun w => by kernel_rfl) ?_
      intro a81 w4 k82 o83
      have m84 := m73.extk k82
      exact wl_fin k82 ⟨_, rfl, own_lo o83 k72.size⟩
    · intro w3 k86
      have m87 := m17.extk k86
      intro u88
      intro u89
      intro u90
      intro u91
      intro u92
      intro u93
      intro u94
      show WL _ _ _ _ _ _ _
      refine wl_pure (.pointer (some ⟨g6, 1, none⟩)) (want_none rfl) rfl rfl (by kernel_rfl) ?_
      exact wl_fin (Ch.refl _ _) rfl
    · intro w3 k95
      have m96 := m17.extk k95
      intro u97
      intro u98
      intro u99
      rintro _ rfl
      intro u100
      intro u101
      intro u102
      show WL _ _ _ _ _ _ _
      have b103 := ((b10.kp k15).kp k95)
      refine wl_load1 (.slice a1 x_w.Bits.length c2) (want_none rfl) rfl rfl rfl rfl isAgg_23 b103 rfl ?_
      exact wl_fin (Ch.refl _ _) rfl
    · intro w3 k104
      have m105 := m17.extk k104
      intro u106
      intro u107
      rintro _ ⟨a108, rfl, o110⟩
      rintro _ rfl
      rintro _ rfl
      intro u114
      intro u115
      show WL _ _ _ _ _ _ _
      refine wl_append0 (want_none rfl) rfl rfl rfl slTy_23 rfl rfl o110 (r3.from0 m105) (all_iV _) (by (try simp only [List.length_append, List.length_cons, List.length_nil]); omega) (by simp only [maxLen]; (try simp only [List.length_append, List.length_cons, List.length_nil]); omega) k104.size ?_
      intro u116 w4 k117 o118 j119
      obtain ⟨a120, c121, rfl⟩ := own_form o118
      have n122 : New w3 a120 c121 := j119 _ _ rfl
      have m123 := m105.extk k117
      exact wl_fin k117 ⟨_, _, rfl, o118, s4, ⟨trivial, trivial⟩⟩
    · intro w3 k125
      have m126 := m17.extk k125
      rintro _ rfl
      rintro _ rfl
      rintro _ ⟨a128, rfl, o130⟩
      rintro _ rfl
      rintro _ rfl
      rintro _ ⟨a134, c135, rfl, o136, s137, -⟩
      intro u139
      show WL _ _ _ _ _ _ _
      refine wl_pure (.agg #[(.int .i64 x_w.Top), (.slice a134 x_w.Bits.length c135)]) (want_none rfl) rfl rfl (by kernel_rfl) ?_
      exact wl_fin (Ch.refl _ _) rfl
  · intro w3 k140
    have m141 := m17.extk k140
    rintro _ rfl
    rintro _ rfl
    rintro _ ⟨a143, rfl, o145⟩
    rintro _ rfl
    rintro _ rfl
    rintro _ ⟨a149, c150, rfl, o151, s152, -⟩
    rintro _ rfl
    show WL _ _ _ _ _ _ _
    have b154 := (b16.kp k140)
    refine wl_store (.agg #[(.int .i64 x_w.Top), (.slice a149 x_w.Bits.length c150)]) [(.int .i64 x_w.Top), (.slice a149 x_w.Bits.length c150)] [(.int .i64 x_w.Top), (.slice a149 x_w.Bits.length c150)] (want_none rfl) rfl rfl rfl rfl rfl (one_cons rfl (one_cons rfl one_nil)) sizeOf_25 b154 rfl rfl ?_
    intro w4 k155 b156 z157
    have m158 := m141.ext k155 (fun k hk => by subst hk; exact Nat.le_trans k9.size p13)
    refine wl_nil ?_
    refine wq_then ?_
    refine wc_ret ?_
    have o159 := (own_ch o151 k155 (fun g hg hlt hk => by have h1 := (own_lt o151 g hg).1; have h2 := Nat.lt_of_lt_of_le p14 (Nat.le_refl _); omega))
    refine ret_1 (.inl rfl) (.agg #[(.int .i64 x_w.Top), (.slice a149 x_w.Bits.length c150)]) rfl (rv_c [(.int .i64 x_w.Top), (.slice a149 x_w.Bits.length c150)] rfl b156 isAgg_25 sizeOf_25) ?_
    refine ⟨m158.keep0, ?_⟩
    have hF160 : F_spec_l8Copy x_w = x_w := by rfl
    rw [hF160]
    exact ⟨_, _, rfl, (own_lo o159 (Nat.le_trans k9.size k15.size)), s152, ⟨trivial, trivial⟩⟩

def F_spec_l9Copy (x_e : PEp) : (PEp) := { N := x_e.N, Key := x_e.Key, Seq := x_e.Seq, Win := (F_spec_l8Copy x_e.Win) : PEp }
theorem C_spec_l9Copy (w0 : World) (v_x_e : Value) (x_e : PEp) (r_x_e : R_27 w0 v_x_e x_e)  : Fn Try.prog 113 #[v_x_e] w0 (fun v w' => Keep w0 w' ∧ O_27 w' w0.heap.size v (F_spec_l9Copy x_e)) := by
  obtain ⟨a1, c2, a6, c7, rfl, r3, s4, r8, s9⟩ := r_x_e
  refine fn_of (n := 15) (l := [(.agg #[(.int .i64 x_e.N), (.slice a1 x_e.Key.length c2), (.int .i64 x_e.Seq), (.int .i64 x_e.Win.Top), (.slice a6 x_e.Win.Bits.length c7)]), undef, undef, undef, undef, undef, undef, undef, undef, undef, undef, undef, undef, undef, undef]) Try.func113 rfl rfl (by kernel_rfl) rfl ?_
  refine wc_seq ?_
  refine wc_region ?_
  refine wl_box (want_none rfl) [(.int .i64 x_e.N), (.slice a1 x_e.Key.length c2), (.int .i64 x_e.Seq), (.int .i64 x_e.Win.Top), (.slice a6 x_e.Win.Bits.length c7)] rfl rfl rfl rfl ?_
  intro g11 w1 p12 p13 k14 b15
  have m16 := (Ch.base w0).extk k14
  refine wl_alloc (want_none rfl) (.agg #[(.int .i64 0), (.slice none 0 0), (.int .i64 0), (.int .i64 0), (.slice none 0 0)]) [(.int .i64 0), (.slice none 0 0), (.int .i64 0), (.int .i64 0), (.slice none 0 0)] zero_27 rfl rfl rfl rfl ?_
  intro g17 w2 p18 p19 k20 b21
  have m22 := m16.extk k20
  refine wl_nil ?_
  refine wq_then ?_
  refine wc_seq ?_
  refine wc_draw ([(3, [], [], (fun _ v _ => v = (.pointer (some ⟨g11, 0, none⟩)))), (4, [], [0], (fun _ v _ => v = (.int .i64 x_e.N))), (5, [], [], (fun _ v w => ∃ a0 : Addr, v = .slice (some a0) 0 0 ∧ w.ownsRow w2.heap.size 5 1 (.slice (some a0) 0 0) 0 [])), (6, [], [], (fun _ v _ => v = (.pointer (some ⟨g11, 1, none⟩)))), (7, [], [3], (fun _ v _ => v = (.slice a1 x_e.Key.length c2))), (8, [], [2, 3, 4], (fun _ v w => ∃ (a1 : Option Addr) (c1 : Nat), v = .slice a1 x_e.Key.length c1 ∧ w.ownsRow w2.heap.size 5 1 (.slice a1 x_e.Key.length c1) x_e.Key.length (x_e.Key.map bV) ∧ x_e.Key.length ≤ 1073741824 ∧ Aps [(a1, c1)])), (9, [], [], (fun _ v _ => v = (.pointer (some ⟨g11, 2, none⟩)))), (10, [], [6], (fun _ v _ => v = (.int .i64 x_e.Seq))), (11, [], [], (fun _ v _ => v = (.pointer (some ⟨g11, 3, none⟩)))), (12, [], [8], (fun _ v _ => v = (.agg #[(.int .i64 x_e.Win.Top), (.slice a6 x_e.Win.Bits.length c7)]))), (13, [8], [2, 3, 4, 5, 8, 9], (fun e v w => ∃ (a1 : Option Addr) (c1 : Nat), v = .agg #[.int .i64 ((F_spec_l8Copy x_e.Win).Top), .slice a1 ((F_spec_l8Copy x_e.Win).Bits).length c1] ∧ w.ownsRow (w2.heap.size) 3 1 (.slice a1 ((F_spec_l8Copy x_e.Win).Bits).length c1) ((F_spec_l8Copy x_e.Win).Bits).length (((F_spec_l8Copy x_e.Win).Bits).map iV) ∧ ((F_spec_l8Copy x_e.Win).Bits).length ≤ 1073741824 ∧ Aps [(a1, c1)] ∧ Ap (sp (e 8)) (a1, c1))), (14, [8, 13], [0, 1, 2, 3, 4, 5, 6, 7, 8, 9, 10], (fun e v _ => v = (.agg #[(.int .i64 x_e.N), (e 8), (.int .i64 x_e.Seq), (.int .i64 ((F_spec_l8Copy x_e.Win).Top)), (cellAt (e 13) 1)])))] : GV) mixed rfl (by kernel_rfl) (by kernel_rfl) ?_ ?_ ?_
  · exact ⟨(fun _ _ _ _ h _ => h), (fun _ _ _ _ _ h => h), ⟨(fun _ _ _ _ h _ => h), (fun _ _ _ _ _ h => h), ⟨(fun e v w w1 h hk => by obtain ⟨a0x, he, o0x⟩ := h; exact ⟨a0x, he, own_kp o0x hk⟩), (fun _ _ _ _ _ h => h), ⟨(fun _ _ _ _ h _ => h), (fun _ _ _ _ _ h => h), ⟨(fun _ _ _ _ h _ => h), (fun _ _ _ _ _ h => h), ⟨(fun e v w w1 h hk => by obtain ⟨a0x, c0x, he, o0x, l0x, hap⟩ := h; exact ⟨a0x, c0x, he, own_kp o0x hk, l0x, hap⟩), (fun _ _ _ _ _ h => h), ⟨(fun _ _ _ _ h _ => h), (fun _ _ _ _ _ h => h), ⟨(fun _ _ _ _ h _ => h), (fun _ _ _ _ _ h => h), ⟨(fun _ _ _ _ h _ => h), (fun _ _ _ _ _ h => h), ⟨(fun _ _ _ _ h _ => h), (fun _ _ _ _ _ h => h), ⟨(fun e v w w1 h hk => by obtain ⟨a0x, c0x, he, o0x, l0x, hap, hx⟩ := h; exact ⟨a0x, c0x, he, own_kp o0x hk, l0x, hap, hx⟩), (fun e1 e2 v w hx h => by have h8x := hx 8 (by simp); simp only [h8x] at h; exact h), ⟨(fun _ _ _ _ h _ => h), (fun e1 e2 v w hx h => by have h8x := hx 8 (by simp); have h13x := hx 13 (by simp); simp only [h8x, h13x] at h; exact h), trivial⟩⟩⟩⟩⟩⟩⟩⟩⟩⟩⟩⟩
  · refine ⟨?_, ⟨?_, ⟨?_, ⟨?_, ⟨?_, ⟨?_, ⟨?_, ⟨?_, ⟨?_, ⟨?_, ⟨?_, ⟨?_, trivial⟩⟩⟩⟩⟩⟩⟩⟩⟩⟩⟩⟩
    · intro w3 k74
      have m75 := m22.extk k74
      intro u76
      intro u77
      intro u78
      intro u79
      intro u80
      intro u81
      intro u82
      intro u83
      intro u84
      intro u85
      intro u86
      intro u87
      show WL _ _ _ _ _ _ _
      refine wl_pure (.pointer (some ⟨g11, 0, none⟩)) (want_none rfl) rfl rfl (by kernel_rfl) ?_
      exact wl_fin (Ch.refl _ _) rfl
    · intro w3 k88
      have m89 := m22.extk k88
      rintro _ rfl
      intro u90
      intro u91
      intro u92
      intro u93
      intro u94
      intro u95
      intro u96
      intro u97
      intro u98
      intro u99
      intro u100
      show WL _ _ _ _ _ _ _
      have b101 := ((b15.kp k20).kp k88)
      refine wl_load1 (.int .i64 x_e.N) (want_none rfl) rfl rfl rfl rfl isAgg_3 b101 rfl ?_
      exact wl_fin (Ch.refl _ _) rfl
    · intro w3 k102
      have m103 := m22.extk k102
      intro u104
      intro u105
      intro u106
      intro u107
      intro u108
      intro u109
      intro u110
      intro u111
      intro u112
      intro u113
      intro u114
      intro u115
      show WL _ _ _ _ _ _ _
      refine wl_lit0 (want_none rfl) rfl rfl slTy_22 (fun w => by kernel_rfl) ?_
      intro a116 w4 k117 o118
      have m119 := m103.extk k117
      exact wl_fin k117 ⟨_, rfl, own_lo o118 k102.size⟩
    · intro w3 k121
      have m122 := m22.extk k121
      intro u123
      intro u124
      intro u125
      intro u126
      intro u127
      intro u128
      intro u129
      intro u130
      intro u131
      intro u132
      intro u133
      intro u134
      show WL _ _ _ _ _ _ _
      refine wl_pure (.pointer (some ⟨g11, 1, none⟩)) (want_none rfl) rfl rfl (by kernel_rfl) ?_
      exact wl_fin (Ch.refl _ _) rfl
    · intro w3 k135
      have m136 := m22.extk k135
      intro u137
      intro u138
      intro u139
      rintro _ rfl
      intro u140
      intro u141
      intro u142
      intro u143
      intro u144
      intro u145
      intro u146
      intro u147
      show WL _ _ _ _ _ _ _
      have b148 := ((b15.kp k20).kp k135)
      refine wl_load1 (.slice a1 x_e.Key.length c2) (want_none rfl) rfl rfl rfl rfl isAgg_22 b148 rfl ?_
      exact wl_fin (Ch.refl _ _) rfl
    · intro w3 k149
      have m150 := m22.extk k149
      intro u151
      intro u152
      rintro _ ⟨a153, rfl, o155⟩
      rintro _ rfl
      rintro _ rfl
      intro u159
      intro u160
      intro u161
      intro u162
      intro u163
      intro u164
      intro u165
      show WL _ _ _ _ _ _ _
      refine wl_append0 (want_none rfl) rfl rfl rfl slTy_22 rfl rfl o155 (r3.from0 m150) (all_bV _) (by (try simp only [List.length_append, List.length_cons, List.length_nil]); omega) (by simp only [maxLen]; (try simp only [List.length_append, List.length_cons, List.length_nil]); omega) k149.size ?_
      intro u166 w4 k167 o168 j169
      obtain ⟨a170, c171, rfl⟩ := own_form o168
      have n172 : New w3 a170 c171 := j169 _ _ rfl
      have m173 := m150.extk k167
      exact wl_fin k167 ⟨_, _, rfl, o168, s4, ⟨trivial, trivial⟩⟩
    · intro w3 k175
      have m176 := m22.extk k175
      intro u177
      intro u178
      intro u179
      intro u180
      intro u181
      intro u182
      intro u183
      intro u184
      intro u185
      intro u186
      intro u187
      intro u188
      show WL _ _ _ _ _ _ _
      refine wl_pure (.pointer (some ⟨g11, 2, none⟩)) (want_none rfl) rfl rfl (by kernel_rfl) ?_
      exact wl_fin (Ch.refl _ _) rfl
    · intro w3 k189
      have m190 := m22.extk k189
      intro u191
      intro u192
      intro u193
      intro u194
      intro u195
      intro u196
      rintro _ rfl
      intro u197
      intro u198
      intro u199
      intro u200
      intro u201
      show WL _ _ _ _ _ _ _
      have b202 := ((b15.kp k20).kp k189)
      refine wl_load1 (.int .i64 x_e.Seq) (want_none rfl) rfl rfl rfl rfl isAgg_3 b202 rfl ?_
      exact wl_fin (Ch.refl _ _) rfl
    · intro w3 k203
      have m204 := m22.extk k203
      intro u205
      intro u206
      intro u207
      intro u208
      intro u209
      intro u210
      intro u211
      intro u212
      intro u213
      intro u214
      intro u215
      intro u216
      show WL _ _ _ _ _ _ _
      refine wl_pure (.pointer (some ⟨g11, 3, none⟩)) (want_none rfl) rfl rfl (by kernel_rfl) ?_
      exact wl_fin (Ch.refl _ _) rfl
    · intro w3 k217
      have m218 := m22.extk k217
      intro u219
      intro u220
      intro u221
      intro u222
      intro u223
      intro u224
      intro u225
      intro u226
      rintro _ rfl
      intro u227
      intro u228
      intro u229
      show WL _ _ _ _ _ _ _
      have b230 := ((b15.kp k20).kp k217)
      refine wl_loadN [(.int .i64 x_e.Win.Top), (.slice a6 x_e.Win.Bits.length c7)] (want_none rfl) rfl rfl rfl rfl isAgg_25 sizeOf_25 b230 rfl ?_
      exact wl_fin (Ch.refl _ _) rfl
    · intro w3 k231
      have m232 := m22.extk k231
      intro u233
      intro u234
      rintro _ ⟨a235, rfl, o237⟩
      rintro _ rfl
      rintro _ rfl
      rintro _ ⟨a241, c242, rfl, o243, s244, -⟩
      intro u246
      intro u247
      rintro _ rfl
      rintro _ rfl
      intro u249
      intro u250
      show WL _ _ _ _ _ _ _
      refine wl_call (want_none rfl) (args := #[(.agg #[(.int .i64 x_e.Win.Top), (.slice a6 x_e.Win.Bits.length c7)])]) rfl rfl (by kernel_rfl) (C_spec_l8Copy w3 (.agg #[(.int .i64 x_e.Win.Top), (.slice a6 x_e.Win.Bits.length c7)]) x_e.Win (show R_25 w3 (.agg #[(.int .i64 x_e.Win.Top), (.slice a6 x_e.Win.Bits.length c7)]) x_e.Win from ⟨_, _, rfl, (r8.from0 m232), s9⟩)) ?_
      rintro _ w4 ⟨k251, ⟨a252, c253, rfl, o254, s255, ap257⟩⟩
      have m258 := m232.extk k251
      exact wl_fin k251 ⟨_, _, rfl, (own_lo o254 k231.size), s255, ap257, (Ap.lt o243 o254 (Nat.le_refl _))⟩
    · intro w3 k259
      have m260 := m22.extk k259
      rintro _ rfl
      rintro _ rfl
      rintro _ ⟨a262, rfl, o264⟩
      rintro _ rfl
      rintro _ rfl
      rintro _ ⟨a268, c269, rfl, o270, s271, -⟩
      rintro _ rfl
      rintro _ rfl
      rintro _ rfl
      rintro _ rfl
      rintro _ ⟨a275, c276, rfl, o277, s278, ap280, hx281⟩
      intro u282
      show WL _ _ _ _ _ _ _
      refine wl_pure (.agg #[(.int .i64 x_e.N), (.slice a268 x_e.Key.length c269), (.int .i64 x_e.Seq), (.int .i64 ((F_spec_l8Copy x_e.Win).Top)), (.slice a275 ((F_spec_l8Copy x_e.Win).Bits).length c276)]) (want_none rfl) rfl rfl (by kernel_rfl) ?_
      exact wl_fin (Ch.refl _ _) rfl
  · intro w3 k283
    have m284 := m22.extk k283
    rintro _ rfl
    rintro _ rfl
    rintro _ ⟨a286, rfl, o288⟩
    rintro _ rfl
    rintro _ rfl
    rintro _ ⟨a292, c293, rfl, o294, s295, -⟩
    rintro _ rfl
    rintro _ rfl
    rintro _ rfl
    rintro _ rfl
    rintro _ ⟨a299, c300, rfl, o301, s302, ap304, hx305⟩
    rintro _ rfl
    show WL _ _ _ _ _ _ _
    have b306 := (b21.kp k283)
    refine wl_store (.agg #[(.int .i64 x_e.N), (.slice a292 x_e.Key.length c293), (.int .i64 x_e.Seq), (.int .i64 ((F_spec_l8Copy x_e.Win).Top)), (.slice a299 ((F_spec_l8Copy x_e.Win).Bits).length c300)]) [(.int .i64 x_e.N), (.slice a292 x_e.Key.length c293), (.int .i64 x_e.Seq), (.int .i64 ((F_spec_l8Copy x_e.Win).Top)), (.slice a299 ((F_spec_l8Copy x_e.Win).Bits).length c300)] [(.int .i64 x_e.N), (.slice a292 x_e.Key.length c293), (.int .i64 x_e.Seq), (.int .i64 ((F_spec_l8Copy x_e.Win).Top)), (.slice a299 ((F_spec_l8Copy x_e.Win).Bits).length c300)] (want_none rfl) rfl rfl rfl rfl rfl (one_cons rfl (one_cons rfl (one_cons rfl (one_cons rfl (one_cons rfl one_nil))))) sizeOf_27 b306 rfl rfl ?_
    intro w4 k307 b308 z309
    have m310 := m284.ext k307 (fun k hk => by subst hk; exact Nat.le_trans k14.size p18)
    refine wl_nil ?_
    refine wq_then ?_
    refine wc_ret ?_
    have o311 := (own_ch o294 k307 (fun g hg hlt hk => by have h1 := (own_lt o294 g hg).1; have h2 := Nat.lt_of_lt_of_le p19 (Nat.le_refl _); omega))
    have o312 := (own_ch o301 k307 (fun g hg hlt hk => by have h1 := (own_lt o301 g hg).1; have h2 := Nat.lt_of_lt_of_le p19 (Nat.le_refl _); omega))
    refine ret_1 (.inl rfl) (.agg #[(.int .i64 x_e.N), (.slice a292 x_e.Key.length c293), (.int .i64 x_e.Seq), (.int .i64 ((F_spec_l8Copy x_e.Win).Top)), (.slice a299 ((F_spec_l8Copy x_e.Win).Bits).length c300)]) rfl (rv_c [(.int .i64 x_e.N), (.slice a292 x_e.Key.length c293), (.int .i64 x_e.Seq), (.int .i64 ((F_spec_l8Copy x_e.Win).Top)), (.slice a299 ((F_spec_l8Copy x_e.Win).Bits).length c300)] rfl b308 isAgg_27 sizeOf_27) ?_
    refine ⟨m310.keep0, ?_⟩
    have hF313 : F_spec_l9Copy x_e = { N := x_e.N, Key := x_e.Key, Seq := x_e.Seq, Win := (F_spec_l8Copy x_e.Win) : PEp } := by rfl
    rw [hF313]
    exact ⟨_, _, _, _, rfl, (own_lo o311 (Nat.le_trans k14.size k20.size)), s295, (own_lo o312 (Nat.le_trans k14.size k20.size)), s302, ⟨⟨hx305, trivial⟩, ⟨trivial, trivial⟩⟩⟩

def F_spec_l14Ep (x_e : PEp) (x_has : Bool) : (PEp) := bif x_has then ((F_spec_l9Copy x_e)) else (x_e)
theorem C_spec_l14Ep (w0 : World) (v_x_e : Value) (x_e : PEp) (r_x_e : R_27 w0 v_x_e x_e) (x_has : Bool)  : Fn Try.prog 114 #[v_x_e, (.bool x_has)] w0 (fun v w' => Keep w0 w' ∧ O_27 w' w0.heap.size v (F_spec_l14Ep x_e x_has)) := by
  obtain ⟨a1, c2, a6, c7, rfl, r3, s4, r8, s9⟩ := r_x_e
  refine fn_of (n := 27) (l := [(.agg #[(.int .i64 x_e.N), (.slice a1 x_e.Key.length c2), (.int .i64 x_e.Seq), (.int .i64 x_e.Win.Top), (.slice a6 x_e.Win.Bits.length c7)]), (.bool x_has), undef, undef, undef, undef, undef, undef, undef, undef, undef, undef, undef, undef, undef, undef, undef, undef, undef, undef, undef, undef, undef, undef, undef, undef, undef]) Try.func114 rfl rfl (by kernel_rfl) rfl ?_
  refine wc_seq ?_
  refine wc_region ?_
  refine wl_box (want_none rfl) [(.int .i64 x_e.N), (.slice a1 x_e.Key.length c2), (.int .i64 x_e.Seq), (.int .i64 x_e.Win.Top), (.slice a6 x_e.Win.Bits.length c7)] rfl rfl rfl rfl ?_
  intro g11 w1 p12 p13 k14 b15
  have m16 := (Ch.base w0).extk k14
  refine wl_alloc (want_none rfl) (.agg #[(.int .i64 0), (.slice none 0 0), (.int .i64 0), (.int .i64 0), (.slice none 0 0)]) [(.int .i64 0), (.slice none 0 0), (.int .i64 0), (.int .i64 0), (.slice none 0 0)] zero_27 rfl rfl rfl rfl ?_
  intro g17 w2 p18 p19 k20 b21
  have m22 := m16.extk k20
  refine wl_nil ?_
  refine wq_then ?_
  refine wc_seq ?_
  refine wc_seq ?_
  refine wc_region ?_
  refine wl_mv (.bool x_has) (want_none rfl) rfl rfl (.inl rfl) rfl ?_
  refine wl_pure (.bool (!x_has)) (want_none rfl) rfl rfl (by kernel_rfl) ?_
  refine wl_nil ?_
  refine wq_then ?_
  rcases Bool.eq_false_or_eq_true x_has with h23 | h23
  · skip
    refine wc_false (congrArg (fun b => Value.bool (!b)) h23) ?_
    refine wc_skip ?_
    refine wq_then ?_
    refine wc_seq ?_
    refine wc_region ?_
    have b25 := (b15.kp k20)
    refine wl_loadN [(.int .i64 x_e.N), (.slice a1 x_e.Key.length c2), (.int .i64 x_e.Seq), (.int .i64 x_e.Win.Top), (.slice a6 x_e.Win.Bits.length c7)] (want_none rfl) rfl rfl rfl rfl isAgg_27 sizeOf_27 b25 rfl ?_
    refine wl_call (want_none rfl) (args := #[(.agg #[(.int .i64 x_e.N), (.slice a1 x_e.Key.length c2), (.int .i64 x_e.Seq), (.int .i64 x_e.Win.Top), (.slice a6 x_e.Win.Bits.length c7)])]) rfl rfl (by kernel_rfl) (C_spec_l9Copy w2 (.agg #[(.int .i64 x_e.N), (.slice a1 x_e.Key.length c2), (.int .i64 x_e.Seq), (.int .i64 x_e.Win.Top), (.slice a6 x_e.Win.Bits.length c7)]) x_e (show R_27 w2 (.agg #[(.int .i64 x_e.N), (.slice a1 x_e.Key.length c2), (.int .i64 x_e.Seq), (.int .i64 x_e.Win.Top), (.slice a6 x_e.Win.Bits.length c7)]) x_e from ⟨_, _, _, _, rfl, (r3.from0 m22), s4, (r8.from0 m22), s9⟩)) ?_
    rintro _ w3 ⟨k26, ⟨a27, c28, a32, c33, rfl, o29, s30, o34, s35, ap37⟩⟩
    have m38 := m22.extk k26
    have b39 := (b21.kp k26)
    refine wl_store (.agg #[(.int .i64 ((F_spec_l9Copy x_e).N)), (.slice a27 ((F_spec_l9Copy x_e).Key).length c28), (.int .i64 ((F_spec_l9Copy x_e).Seq)), (.int .i64 (((F_spec_l9Copy x_e).Win).Top)), (.slice a32 (((F_spec_l9Copy x_e).Win).Bits).length c33)]) [(.int .i64 ((F_spec_l9Copy x_e).N)), (.slice a27 ((F_spec_l9Copy x_e).Key).length c28), (.int .i64 ((F_spec_l9Copy x_e).Seq)), (.int .i64 (((F_spec_l9Copy x_e).Win).Top)), (.slice a32 (((F_spec_l9Copy x_e).Win).Bits).length c33)] [(.int .i64 ((F_spec_l9Copy x_e).N)), (.slice a27 ((F_spec_l9Copy x_e).Key).length c28), (.int .i64 ((F_spec_l9Copy x_e).Seq)), (.int .i64 (((F_spec_l9Copy x_e).Win).Top)), (.slice a32 (((F_spec_l9Copy x_e).Win).Bits).length c33)] (want_none rfl) rfl rfl rfl rfl rfl (one_cons rfl (one_cons rfl (one_cons rfl (one_cons rfl (one_cons rfl one_nil))))) sizeOf_27 b39 rfl rfl ?_
    intro w4 k40 b41 z42
    have m43 := m38.ext k40 (fun k hk => by subst hk; exact Nat.le_trans k14.size p18)
    refine wl_nil ?_
    refine wq_then ?_
    refine wc_ret ?_
    have o44 := (own_ch o29 k40 (fun g hg hlt hk => by have h1 := (own_lt o29 g hg).1; have h2 := Nat.lt_of_lt_of_le p19 (Nat.le_refl _); omega))
    have o45 := (own_ch o34 k40 (fun g hg hlt hk => by have h1 := (own_lt o34 g hg).1; have h2 := Nat.lt_of_lt_of_le p19 (Nat.le_refl _); omega))
    refine ret_1 (.inl rfl) (.agg #[(.int .i64 ((F_spec_l9Copy x_e).N)), (.slice a27 ((F_spec_l9Copy x_e).Key).length c28), (.int .i64 ((F_spec_l9Copy x_e).Seq)), (.int .i64 (((F_spec_l9Copy x_e).Win).Top)), (.slice a32 (((F_spec_l9Copy x_e).Win).Bits).length c33)]) rfl (rv_c [(.int .i64 ((F_spec_l9Copy x_e).N)), (.slice a27 ((F_spec_l9Copy x_e).Key).length c28), (.int .i64 ((F_spec_l9Copy x_e).Seq)), (.int .i64 (((F_spec_l9Copy x_e).Win).Top)), (.slice a32 (((F_spec_l9Copy x_e).Win).Bits).length c33)] rfl b41 isAgg_27 sizeOf_27) ?_
    refine ⟨m43.keep0, ?_⟩
    have hF46 : F_spec_l14Ep x_e x_has = (F_spec_l9Copy x_e) := by simp only [F_spec_l14Ep, h23, cond_true, cond_false]
    rw [hF46]
    exact ⟨_, _, _, _, rfl, (own_lo o44 (Nat.le_trans k14.size k20.size)), s30, (own_lo o45 (Nat.le_trans k14.size k20.size)), s35, ⟨⟨(ap37.1.1), trivial⟩, ⟨trivial, trivial⟩⟩⟩
  · skip
    refine wc_true (congrArg (fun b => Value.bool (!b)) h23) ?_
    refine wc_seq ?_
    refine wc_draw ([(7, [], [], (fun _ v _ => v = (.pointer (some ⟨g11, 0, none⟩)))), (8, [], [0], (fun _ v _ => v = (.int .i64 x_e.N))), (9, [], [], (fun _ v w => ∃ a0 : Addr, v = .slice (some a0) 0 0 ∧ w.ownsRow w2.heap.size 5 1 (.slice (some a0) 0 0) 0 [])), (10, [], [], (fun _ v _ => v = (.pointer (some ⟨g11, 1, none⟩)))), (11, [], [3], (fun _ v _ => v = (.slice a1 x_e.Key.length c2))), (12, [], [2, 3, 4], (fun _ v w => ∃ (a1 : Option Addr) (c1 : Nat), v = .slice a1 x_e.Key.length c1 ∧ w.ownsRow w2.heap.size 5 1 (.slice a1 x_e.Key.length c1) x_e.Key.length (x_e.Key.map bV) ∧ x_e.Key.length ≤ 1073741824 ∧ Aps [(a1, c1)])), (13, [], [], (fun _ v _ => v = (.pointer (some ⟨g11, 2, none⟩)))), (14, [], [6], (fun _ v _ => v = (.int .i64 x_e.Seq))), (15, [], [], (fun _ v _ => v = (.pointer (some ⟨g11, 3, none⟩)))), (16, [], [8], (fun _ v _ => v = (.pointer (some ⟨g11, 3, none⟩)))), (17, [], [8, 9], (fun _ v _ => v = (.int .i64 x_e.Win.Top))), (18, [], [], (fun _ v w => ∃ a0 : Addr, v = .slice (some a0) 0 0 ∧ w.ownsRow w2.heap.size 3 1 (.slice (some a0) 0 0) 0 [])), (19, [], [], (fun _ v _ => v = (.pointer (some ⟨g11, 3, none⟩)))), (20, [], [12], (fun _ v _ => v = (.pointer (some ⟨g11, 4, none⟩)))), (21, [], [12, 13], (fun _ v _ => v = (.slice a6 x_e.Win.Bits.length c7))), (22, [12], [2, 3, 4, 5, 11, 12, 13, 14], (fun e v w => ∃ (a1 : Option Addr) (c1 : Nat), v = .slice a1 x_e.Win.Bits.length c1 ∧ w.ownsRow w2.heap.size 3 1 (.slice a1 x_e.Win.Bits.length c1) x_e.Win.Bits.length (x_e.Win.Bits.map iV) ∧ x_e.Win.Bits.length ≤ 1073741824 ∧ Aps [(a1, c1)] ∧ Ap (sp (e 12)) (a1, c1))), (23, [22], [2, 3, 4, 5, 8, 9, 10, 11, 12, 13, 14, 15], (fun e v _ => v = (.agg #[(.int .i64 x_e.Win.Top), (e 22)]))), (24, [12, 22], [0, 1, 2, 3, 4, 5, 6, 7, 8, 9, 10, 11, 12, 13, 14, 15, 16], (fun e v _ => v = (.agg #[(.int .i64 x_e.N), (e 12), (.int .i64 x_e.Seq), (.int .i64 x_e.Win.Top), (e 22)])))] : GV) mixed rfl (by kernel_rfl) (by kernel_rfl) ?_ ?_ ?_
    · exact ⟨(fun _ _ _ _ h _ => h), (fun _ _ _ _ _ h => h), ⟨(fun _ _ _ _ h _ => h), (fun _ _ _ _ _ h => h), ⟨(fun e v w w1 h hk => by obtain ⟨a0x, he, o0x⟩ := h; exact ⟨a0x, he, own_kp o0x hk⟩), (fun _ _ _ _ _ h => h), ⟨(fun _ _ _ _ h _ => h), (fun _ _ _ _ _ h => h), ⟨(fun _ _ _ _ h _ => h), (fun _ _ _ _ _ h => h), ⟨(fun e v w w1 h hk => by obtain ⟨a0x, c0x, he, o0x, l0x, hap⟩ := h; exact ⟨a0x, c0x, he, own_kp o0x hk, l0x, hap⟩), (fun _ _ _ _ _ h => h), ⟨(fun _ _ _ _ h _ => h), (fun _ _ _ _ _ h => h), ⟨(fun _ _ _ _ h _ => h), (fun _ _ _ _ _ h => h), ⟨(fun _ _ _ _ h _ => h), (fun _ _ _ _ _ h => h), ⟨(fun _ _ _ _ h _ => h), (fun _ _ _ _ _ h => h), ⟨(fun _ _ _ _ h _ => h), (fun _ _ _ _ _ h => h), ⟨(fun e v w w1 h hk => by obtain ⟨a0x, he, o0x⟩ := h; exact ⟨a0x, he, own_kp o0x hk⟩), (fun _ _ _ _ _ h => h), ⟨(fun _ _ _ _ h _ => h), (fun _ _ _ _ _ h => h), ⟨(fun _ _ _ _ h _ => h), (fun _ _ _ _ _ h => h), ⟨(fun _ _ _ _ h _ => h), (fun _ _ _ _ _ h => h), ⟨(fun e v w w1 h hk => by obtain ⟨a0x, c0x, he, o0x, l0x, hap, hx⟩ := h; exact ⟨a0x, c0x, he, own_kp o0x hk, l0x, hap, hx⟩), (fun e1 e2 v w hx h => by have h12x := hx 12 (by simp); simp only [h12x] at h; exact h), ⟨(fun _ _ _ _ h _ => h), (fun e1 e2 v w hx h => by have h22x := hx 22 (by simp); simp only [h22x] at h; exact h), ⟨(fun _ _ _ _ h _ => h), (fun e1 e2 v w hx h => by have h12x := hx 12 (by simp); have h22x := hx 22 (by simp); simp only [h12x, h22x] at h; exact h), trivial⟩⟩⟩⟩⟩⟩⟩⟩⟩⟩⟩⟩⟩⟩⟩⟩⟩⟩
    · refine ⟨?_, ⟨?_, ⟨?_, ⟨?_, ⟨?_, ⟨?_, ⟨?_, ⟨?_, ⟨?_, ⟨?_, ⟨?_, ⟨?_, ⟨?_, ⟨?_, ⟨?_, ⟨?_, ⟨?_, ⟨?_, trivial⟩⟩⟩⟩⟩⟩⟩⟩⟩⟩⟩⟩⟩⟩⟩⟩⟩⟩
      · intro w3 k114
        have m115 := m22.extk k114
        intro u116
        intro u117
        intro u118
        intro u119
        intro u120
        intro u121
        intro u122
        intro u123
        intro u124
        intro u125
        intro u126
        intro u127
        intro u128
        intro u129
        intro u130
        intro u131
        intro u132
        intro u133
        show WL _ _ _ _ _ _ _
        refine wl_pure (.pointer (some ⟨g11, 0, none⟩)) (want_none rfl) rfl rfl (by kernel_rfl) ?_
        exact wl_fin (Ch.refl _ _) rfl
      · intro w3 k134
        have m135 := m22.extk k134
        rintro _ rfl
        intro u136
        intro u137
        intro u138
        intro u139
        intro u140
        intro u141
        intro u142
        intro u143
        intro u144
        intro u145
        intro u146
        intro u147
        intro u148
        intro u149
        intro u150
        intro u151
        intro u152
        show WL _ _ _ _ _ _ _
        have b153 := ((b15.kp k20).kp k134)
        refine wl_load1 (.int .i64 x_e.N) (want_none rfl) rfl rfl rfl rfl isAgg_3 b153 rfl ?_
        exact wl_fin (Ch.refl _ _) rfl
      · intro w3 k154
        have m155 := m22.extk k154
        intro u156
        intro u157
        intro u158
        intro u159
        intro u160
        intro u161
        intro u162
        intro u163
        intro u164
        intro u165
        intro u166
        intro u167
        intro u168
        intro u169
        intro u170
        intro u171
        intro u172
        intro u173
        show WL _ _ _ _ _ _ _
        refine wl_lit0 (want_none rfl) rfl rfl slTy_22 (fun w => by kernel_rfl) ?_
        intro a174 w4 k175 o176
        have m177 := m155.extk k175
        exact wl_fin k175 ⟨_, rfl, own_lo o176 k154.size⟩
      · intro w3 k179
        have m180 := m22.extk k179
        intro u181
        intro u182
        intro u183
        intro u184
        intro u185
        intro u186
        intro u187
        intro u188
        intro u189
        intro u190
        intro u191
        intro u192
        intro u193
        intro u194
        intro u195
        intro u196
        intro u197
        intro u198
        show WL _ _ _ _ _ _ _
        refine wl_pure (.pointer (some ⟨g11, 1, none⟩)) (want_none rfl) rfl rfl (by kernel_rfl) ?_
        exact wl_fin (Ch.refl _ _) rfl
      · intro w3 k199
        have m200 := m22.extk k199
        intro u201
        intro u202
        intro u203
        rintro _ rfl
        intro u204
        intro u205
        intro u206
        intro u207
        intro u208
        intro u209
        intro u210
        intro u211
        intro u212
        intro u213
        intro u214
        intro u215
        intro u216
        intro u217
        show WL _ _ _ _ _ _ _
        have b218 := ((b15.kp k20).kp k199)
        refine wl_load1 (.slice a1 x_e.Key.length c2) (want_none rfl) rfl rfl rfl rfl isAgg_22 b218 rfl ?_
        exact wl_fin (Ch.refl _ _) rfl
      · intro w3 k219
        have m220 := m22.extk k219
        intro u221
        intro u222
        rintro _ ⟨a223, rfl, o225⟩
        rintro _ rfl
        rintro _ rfl
        intro u229
        intro u230
        intro u231
        intro u232
        intro u233
        intro u234
        intro u235
        intro u236
        intro u237
        intro u238
        intro u239
        intro u240
        intro u241
        show WL _ _ _ _ _ _ _
        refine wl_append0 (want_none rfl) rfl rfl rfl slTy_22 rfl rfl o225 (r3.from0 m220) (all_bV _) (by (try simp only [List.length_append, List.length_cons, List.length_nil]); omega) (by simp only [maxLen]; (try simp only [List.length_append, List.length_cons, List.length_nil]); omega) k219.size ?_
        intro u242 w4 k243 o244 j245
        obtain ⟨a246, c247, rfl⟩ := own_form o244
        have n248 : New w3 a246 c247 := j245 _ _ rfl
        have m249 := m220.extk k243
        exact wl_fin k243 ⟨_, _, rfl, o244, s4, ⟨trivial, trivial⟩⟩
      · intro w3 k251
        have m252 := m22.extk k251
        intro u253
        intro u254
        intro u255
        intro u256
        intro u257
        intro u258
        intro u259
        intro u260
        intro u261
        intro u262
        intro u263
        intro u264
        intro u265
        intro u266
        intro u267
        intro u268
        intro u269
        intro u270
        show WL _ _ _ _ _ _ _
        refine wl_pure (.pointer (some ⟨g11, 2, none⟩)) (want_none rfl) rfl rfl (by kernel_rfl) ?_
        exact wl_fin (Ch.refl _ _) rfl
      · intro w3 k271
        have m272 := m22.extk k271
        intro u273
        intro u274
        intro u275
        intro u276
        intro u277
        intro u278
        rintro _ rfl
        intro u279
        intro u280
        intro u281
        intro u282
        intro u283
        intro u284
        intro u285
        intro u286
        intro u287
        intro u288
        intro u289
        show WL _ _ _ _ _ _ _
        have b290 := ((b15.kp k20).kp k271)
        refine wl_load1 (.int .i64 x_e.Seq) (want_none rfl) rfl rfl rfl rfl isAgg_3 b290 rfl ?_
        exact wl_fin (Ch.refl _ _) rfl
      · intro w3 k291
        have m292 := m22.extk k291
        intro u293
        intro u294
        intro u295
        intro u296
        intro u297
        intro u298
        intro u299
        intro u300
        intro u301
        intro u302
        intro u303
        intro u304
        intro u305
        intro u306
        intro u307
        intro u308
        intro u309
        intro u310
        show WL _ _ _ _ _ _ _
        refine wl_pure (.pointer (some ⟨g11, 3, none⟩)) (want_none rfl) rfl rfl (by kernel_rfl) ?_
        exact wl_fin (Ch.refl _ _) rfl
      · intro w3 k311
        have m312 := m22.extk k311
        intro u313
        intro u314
        intro u315
        intro u316
        intro u317
        intro u318
        intro u319
        intro u320
        rintro _ rfl
        intro u321
        intro u322
        intro u323
        intro u324
        intro u325
        intro u326
        intro u327
        intro u328
        intro u329
        show WL _ _ _ _ _ _ _
        refine wl_pure (.pointer (some ⟨g11, 3, none⟩)) (want_none rfl) rfl rfl (by kernel_rfl) ?_
        exact wl_fin (Ch.refl _ _) rfl
      · intro w3 k330
        have m331 := m22.extk k330
        intro u332
        intro u333
        intro u334
        intro u335
        intro u336
        intro u337
        intro u338
        intro u339
        rintro _ rfl
        rintro _ rfl
        intro u340
        intro u341
        intro u342
        intro u343
        intro u344
        intro u345
        intro u346
        intro u347
        show WL _ _ _ _ _ _ _
        have b348 := ((b15.kp k20).kp k330)
        refine wl_load1 (.int .i64 x_e.Win.Top) (want_none rfl) rfl rfl rfl rfl isAgg_3 b348 rfl ?_
        exact wl_fin (Ch.refl _ _) rfl
      · intro w3 k349
        have m350 := m22.extk k349
        intro u351
        intro u352
        intro u353
        intro u354
        intro u355
        intro u356
        intro u357
        intro u358
        intro u359
        intro u360
        intro u361
        intro u362
        intro u363
        intro u364
        intro u365
        intro u366
        intro u367
        intro u368
        show WL _ _ _ _ _ _ _
        refine wl_lit0 (want_none rfl) rfl rfl slTy_23 (fun w => by kernel_rfl) ?_
        intro a369 w4 k370 o371
        have m372 := m350.extk k370
        exact wl_fin k370 ⟨_, rfl, own_lo o371 k349.size⟩
      · intro w3 k374
        have m375 := m22.extk k374
        intro u376
        intro u377
        intro u378
        intro u379
        intro u380
        intro u381
        intro u382
        intro u383
        intro u384
        intro u385
        intro u386
        intro u387
        intro u388
        intro u389
        intro u390
        intro u391
        intro u392
        intro u393
        show WL _ _ _ _ _ _ _
        refine wl_pure (.pointer (some ⟨g11, 3, none⟩)) (want_none rfl) rfl rfl (by kernel_rfl) ?_
        exact wl_fin (Ch.refl _ _) rfl
      · intro w3 k394
        have m395 := m22.extk k394
        intro u396
        intro u397
        intro u398
        intro u399
        intro u400
        intro u401
        intro u402
        intro u403
        intro u404
        intro u405
        intro u406
        intro u407
        rintro _ rfl
        intro u408
        intro u409
        intro u410
        intro u411
        intro u412
        show WL _ _ _ _ _ _ _
        refine wl_pure (.pointer (some ⟨g11, 4, none⟩)) (want_none rfl) rfl rfl (by kernel_rfl) ?_
        exact wl_fin (Ch.refl _ _) rfl
      · intro w3 k413
        have m414 := m22.extk k413
        intro u415
        intro u416
        intro u417
        intro u418
        intro u419
        intro u420
        intro u421
        intro u422
        intro u423
        intro u424
        intro u425
        intro u426
        rintro _ rfl
        rintro _ rfl
        intro u427
        intro u428
        intro u429
        intro u430
        show WL _ _ _ _ _ _ _
        have b431 := ((b15.kp k20).kp k413)
        refine wl_load1 (.slice a6 x_e.Win.Bits.length c7) (want_none rfl) rfl rfl rfl rfl isAgg_23 b431 rfl ?_
        exact wl_fin (Ch.refl _ _) rfl
      · intro w3 k432
        have m433 := m22.extk k432
        intro u434
        intro u435
        rintro _ ⟨a436, rfl, o438⟩
        rintro _ rfl
        rintro _ rfl
        rintro _ ⟨a442, c443, rfl, o444, s445, -⟩
        intro u447
        intro u448
        intro u449
        intro u450
        intro u451
        rintro _ ⟨a452, rfl, o454⟩
        rintro _ rfl
        rintro _ rfl
        rintro _ rfl
        intro u458
        intro u459
        intro u460
        show WL _ _ _ _ _ _ _
        refine wl_append0 (want_none rfl) rfl rfl rfl slTy_23 rfl rfl o454 (r8.from0 m433) (all_iV _) (by (try simp only [List.length_append, List.length_cons, List.length_nil]); omega) (by simp only [maxLen]; (try simp only [List.length_append, List.length_cons, List.length_nil]); omega) k432.size ?_
        intro u461 w4 k462 o463 j464
        obtain ⟨a465, c466, rfl⟩ := own_form o463
        have n467 : New w3 a465 c466 := j464 _ _ rfl
        have m468 := m433.extk k462
        exact wl_fin k462 ⟨_, _, rfl, o463, s9, ⟨trivial, trivial⟩, (Ap.new o444 n467 (Nat.le_refl _))⟩
      · intro w3 k470
        have m471 := m22.extk k470
        intro u472
        intro u473
        rintro _ ⟨a474, rfl, o476⟩
        rintro _ rfl
        rintro _ rfl
        rintro _ ⟨a480, c481, rfl, o482, s483, -⟩
        intro u485
        intro u486
        rintro _ rfl
        rintro _ rfl
        rintro _ rfl
        rintro _ ⟨a488, rfl, o490⟩
        rintro _ rfl
        rintro _ rfl
        rintro _ rfl
        rintro _ ⟨a494, c495, rfl, o496, s497, -, hx499⟩
        intro u500
        intro u501
        show WL _ _ _ _ _ _ _
        refine wl_pure (.agg #[(.int .i64 x_e.Win.Top), (.slice a494 x_e.Win.Bits.length c495)]) (want_none rfl) rfl rfl (by kernel_rfl) ?_
        exact wl_fin (Ch.refl _ _) rfl
      · intro w3 k502
        have m503 := m22.extk k502
        rintro _ rfl
        rintro _ rfl
        rintro _ ⟨a505, rfl, o507⟩
        rintro _ rfl
        rintro _ rfl
        rintro _ ⟨a511, c512, rfl, o513, s514, -⟩
        rintro _ rfl
        rintro _ rfl
        rintro _ rfl
        rintro _ rfl
        rintro _ rfl
        rintro _ ⟨a518, rfl, o520⟩
        rintro _ rfl
        rintro _ rfl
        rintro _ rfl
        rintro _ ⟨a524, c525, rfl, o526, s527, -, hx529⟩
        rintro _ rfl
        intro u530
        show WL _ _ _ _ _ _ _
        refine wl_pure (.agg #[(.int .i64 x_e.N), (.slice a511 x_e.Key.length c512), (.int .i64 x_e.Seq), (.int .i64 x_e.Win.Top), (.slice a524 x_e.Win.Bits.length c525)]) (want_none rfl) rfl rfl (by kernel_rfl) ?_
        exact wl_fin (Ch.refl _ _) rfl
    · intro w3 k531
      have m532 := m22.extk k531
      rintro _ rfl
      rintro _ rfl
      rintro _ ⟨a534, rfl, o536⟩
      rintro _ rfl
      rintro _ rfl
      rintro _ ⟨a540, c541, rfl, o542, s543, -⟩
      rintro _ rfl
      rintro _ rfl
      rintro _ rfl
      rintro _ rfl
      rintro _ rfl
      rintro _ ⟨a547, rfl, o549⟩
      rintro _ rfl
      rintro _ rfl
      rintro _ rfl
      rintro _ ⟨a553, c554, rfl, o555, s556, -, hx558⟩
      rintro _ rfl
      rintro _ rfl
      show WL _ _ _ _ _ _ _
      have b559 := (b21.kp k531)
      refine wl_store (.agg #[(.int .i64 x_e.N), (.slice a540 x_e.Key.length c541), (.int .i64 x_e.Seq), (.int .i64 x_e.Win.Top), (.slice a553 x_e.Win.Bits.length c554)]) [(.int .i64 x_e.N), (.slice a540 x_e.Key.length c541), (.int .i64 x_e.Seq), (.int .i64 x_e.Win.Top), (.slice a553 x_e.Win.Bits.length c554)] [(.int .i64 x_e.N), (.slice a540 x_e.Key.length c541), (.int .i64 x_e.Seq), (.int .i64 x_e.Win.Top), (.slice a553 x_e.Win.Bits.length c554)] (want_none rfl) rfl rfl rfl rfl rfl (one_cons rfl (one_cons rfl (one_cons rfl (one_cons rfl (one_cons rfl one_nil))))) sizeOf_27 b559 rfl rfl ?_
      intro w4 k560 b561 z562
      have m563 := m532.ext k560 (fun k hk => by subst hk; exact Nat.le_trans k14.size p18)
      refine wl_nil ?_
      refine wq_then ?_
      refine wc_ret ?_
      refine wq_then_ret ?_
      have o564 := (own_ch o542 k560 (fun g hg hlt hk => by have h1 := (own_lt o542 g hg).1; have h2 := Nat.lt_of_lt_of_le p19 (Nat.le_refl _); omega))
      have o565 := (own_ch o555 k560 (fun g hg hlt hk => by have h1 := (own_lt o555 g hg).1; have h2 := Nat.lt_of_lt_of_le p19 (Nat.le_refl _); omega))
      refine ret_1 (.inl rfl) (.agg #[(.int .i64 x_e.N), (.slice a540 x_e.Key.length c541), (.int .i64 x_e.Seq), (.int .i64 x_e.Win.Top), (.slice a553 x_e.Win.Bits.length c554)]) rfl (rv_c [(.int .i64 x_e.N), (.slice a540 x_e.Key.length c541), (.int .i64 x_e.Seq), (.int .i64 x_e.Win.Top), (.slice a553 x_e.Win.Bits.length c554)] rfl b561 isAgg_27 sizeOf_27) ?_
      refine ⟨m563.keep0, ?_⟩
      have hF566 : F_spec_l14Ep x_e x_has = x_e := by simp only [F_spec_l14Ep, h23, cond_true, cond_false]
      rw [hF566]
      exact ⟨_, _, _, _, rfl, (own_lo o564 (Nat.le_trans k14.size k20.size)), s543, (own_lo o565 (Nat.le_trans k14.size k20.size)), s556, ⟨⟨hx558, trivial⟩, ⟨trivial, trivial⟩⟩⟩

def F_spec_l14Copy (x_c : PChan) : (PChan) := { Role := x_c.Role, Sn := x_c.Sn, Cur := (F_spec_l9Copy x_c.Cur), Old := (F_spec_l14Ep x_c.Old x_c.HasOld), HasOld := x_c.HasOld, Until := x_c.Until, Next := x_c.Next : PChan }
theorem C_spec_l14Copy (w0 : World) (v_x_c : Value) (x_c : PChan) (r_x_c : R_29 w0 v_x_c x_c)  : Fn Try.prog 81 #[v_x_c] w0 (fun v w' => Keep w0 w' ∧ O_29 w' w0.heap.size v (F_spec_l14Copy x_c)) := by
  obtain ⟨a1, c2, a6, c7, a11, c12, a16, c17, a21, c22, a26, c27, rfl, r3, s4, r8, s9, r13, s14, r18, s19, r23, s24, r28, s29⟩ := r_x_c
  refine fn_of (n := 26) (l := [(.agg #[(.int .i64 x_c.Role), (.slice a1 x_c.Sn.length c2), (.int .i64 x_c.Cur.N), (.slice a6 x_c.Cur.Key.length c7), (.int .i64 x_c.Cur.Seq), (.int .i64 x_c.Cur.Win.Top), (.slice a11 x_c.Cur.Win.Bits.length c12), (.int .i64 x_c.Old.N), (.slice a16 x_c.Old.Key.length c17), (.int .i64 x_c.Old.Seq), (.int .i64 x_c.Old.Win.Top), (.slice a21 x_c.Old.Win.Bits.length c22), (.bool x_c.HasOld), (.int .i64 x_c.Until), (.slice a26 x_c.Next.length c27)]), undef, undef, undef, undef, undef, undef, undef, undef, undef, undef, undef, undef, undef, undef, undef, undef, undef, undef, undef, undef, undef, undef, undef, undef, undef]) Try.func81 rfl rfl (by kernel_rfl) rfl ?_
  refine wc_seq ?_
  refine wc_region ?_
  refine wl_box (want_none rfl) [(.int .i64 x_c.Role), (.slice a1 x_c.Sn.length c2), (.int .i64 x_c.Cur.N), (.slice a6 x_c.Cur.Key.length c7), (.int .i64 x_c.Cur.Seq), (.int .i64 x_c.Cur.Win.Top), (.slice a11 x_c.Cur.Win.Bits.length c12), (.int .i64 x_c.Old.N), (.slice a16 x_c.Old.Key.length c17), (.int .i64 x_c.Old.Seq), (.int .i64 x_c.Old.Win.Top), (.slice a21 x_c.Old.Win.Bits.length c22), (.bool x_c.HasOld), (.int .i64 x_c.Until), (.slice a26 x_c.Next.length c27)] rfl rfl rfl rfl ?_
  intro g31 w1 p32 p33 k34 b35
  have m36 := (Ch.base w0).extk k34
  refine wl_alloc (want_none rfl) (.agg #[(.int .i64 0), (.slice none 0 0), (.int .i64 0), (.slice none 0 0), (.int .i64 0), (.int .i64 0), (.slice none 0 0), (.int .i64 0), (.slice none 0 0), (.int .i64 0), (.int .i64 0), (.slice none 0 0), (.bool false), (.int .i64 0), (.slice none 0 0)]) [(.int .i64 0), (.slice none 0 0), (.int .i64 0), (.slice none 0 0), (.int .i64 0), (.int .i64 0), (.slice none 0 0), (.int .i64 0), (.slice none 0 0), (.int .i64 0), (.int .i64 0), (.slice none 0 0), (.bool false), (.int .i64 0), (.slice none 0 0)] zero_29 rfl rfl rfl rfl ?_
  intro g37 w2 p38 p39 k40 b41
  have m42 := m36.extk k40
  refine wl_nil ?_
  refine wq_then ?_
  refine wc_seq ?_
  refine wc_draw ([(3, [], [], (fun _ v _ => v = (.pointer (some ⟨g31, 0, none⟩)))), (4, [], [0], (fun _ v _ => v = (.int .i64 x_c.Role))), (5, [], [], (fun _ v w => ∃ a0 : Addr, v = .slice (some a0) 0 0 ∧ w.ownsRow w2.heap.size 5 1 (.slice (some a0) 0 0) 0 [])), (6, [], [], (fun _ v _ => v = (.pointer (some ⟨g31, 1, none⟩)))), (7, [], [3], (fun _ v _ => v = (.slice a1 x_c.Sn.length c2))), (8, [], [2, 3, 4], (fun _ v w => ∃ (a1 : Option Addr) (c1 : Nat), v = .slice a1 x_c.Sn.length c1 ∧ w.ownsRow w2.heap.size 5 1 (.slice a1 x_c.Sn.length c1) x_c.Sn.length (x_c.Sn.map bV) ∧ x_c.Sn.length ≤ 1073741824 ∧ Aps [(a1, c1)])), (9, [], [], (fun _ v _ => v = (.pointer (some ⟨g31, 2, none⟩)))), (10, [], [6], (fun _ v _ => v = (.agg #[(.int .i64 x_c.Cur.N), (.slice a6 x_c.Cur.Key.length c7), (.int .i64 x_c.Cur.Seq), (.int .i64 x_c.Cur.Win.Top), (.slice a11 x_c.Cur.Win.Bits.length c12)]))), (11, [8], [2, 3, 4, 5, 6, 7], (fun e v w => ∃ (a1 : Option Addr) (c1 : Nat) (a2 : Option Addr) (c2 : Nat), v = .agg #[.int .i64 ((F_spec_l9Copy x_c.Cur).N), .slice a1 ((F_spec_l9Copy x_c.Cur).Key).length c1, .int .i64 ((F_spec_l9Copy x_c.Cur).Seq), .int .i64 (((F_spec_l9Copy x_c.Cur).Win).Top), .slice a2 (((F_spec_l9Copy x_c.Cur).Win).Bits).length c2] ∧ w.ownsRow (w2.heap.size) 5 1 (.slice a1 ((F_spec_l9Copy x_c.Cur).Key).length c1) ((F_spec_l9Copy x_c.Cur).Key).length (((F_spec_l9Copy x_c.Cur).Key).map bV) ∧ ((F_spec_l9Copy x_c.Cur).Key).length ≤ 1073741824 ∧ w.ownsRow (w2.heap.size) 3 1 (.slice a2 (((F_spec_l9Copy x_c.Cur).Win).Bits).length c2) (((F_spec_l9Copy x_c.Cur).Win).Bits).length ((((F_spec_l9Copy x_c.Cur).Win).Bits).map iV) ∧ (((F_spec_l9Copy x_c.Cur).Win).Bits).length ≤ 1073741824 ∧ Aps [(a1, c1), (a2, c2)] ∧ Ap (sp (e 8)) (a1, c1) ∧ Ap (sp (e 8)) (a2, c2))), (12, [], [], (fun _ v _ => v = (.pointer (some ⟨g31, 7, none⟩)))), (13, [], [9], (fun _ v _ => v = (.agg #[(.int .i64 x_c.Old.N), (.slice a16 x_c.Old.Key.length c17), (.int .i64 x_c.Old.Seq), (.int .i64 x_c.Old.Win.Top), (.slice a21 x_c.Old.Win.Bits.length c22)]))), (14, [], [], (fun _ v _ => v = (.pointer (some ⟨g31, 12, none⟩)))), (15, [], [11], (fun _ v _ => v = (.bool x_c.HasOld))), (16, [8, 11], [2, 3, 4, 5, 6, 7, 8, 9, 10, 11, 12], (fun e v w => ∃ (a1 : Option Addr) (c1 : Nat) (a2 : Option Addr) (c2 : Nat), v = .agg #[.int .i64 ((F_spec_l14Ep x_c.Old x_c.HasOld).N), .slice a1 ((F_spec_l14Ep x_c.Old x_c.HasOld).Key).length c1, .int .i64 ((F_spec_l14Ep x_c.Old x_c.HasOld).Seq), .int .i64 (((F_spec_l14Ep x_c.Old x_c.HasOld).Win).Top), .slice a2 (((F_spec_l14Ep x_c.Old x_c.HasOld).Win).Bits).length c2] ∧ w.ownsRow (w2.heap.size) 5 1 (.slice a1 ((F_spec_l14Ep x_c.Old x_c.HasOld).Key).length c1) ((F_spec_l14Ep x_c.Old x_c.HasOld).Key).length (((F_spec_l14Ep x_c.Old x_c.HasOld).Key).map bV) ∧ ((F_spec_l14Ep x_c.Old x_c.HasOld).Key).length ≤ 1073741824 ∧ w.ownsRow (w2.heap.size) 3 1 (.slice a2 (((F_spec_l14Ep x_c.Old x_c.HasOld).Win).Bits).length c2) (((F_spec_l14Ep x_c.Old x_c.HasOld).Win).Bits).length ((((F_spec_l14Ep x_c.Old x_c.HasOld).Win).Bits).map iV) ∧ (((F_spec_l14Ep x_c.Old x_c.HasOld).Win).Bits).length ≤ 1073741824 ∧ Aps [(a1, c1), (a2, c2)] ∧ Ap (sp (e 8)) (a1, c1) ∧ Ap (sp (e 8)) (a2, c2) ∧ Ap (sp (cellAt (e 11) 1)) (a1, c1) ∧ Ap (sp (cellAt (e 11) 1)) (a2, c2) ∧ Ap (sp (cellAt (e 11) 4)) (a1, c1) ∧ Ap (sp (cellAt (e 11) 4)) (a2, c2))), (17, [], [], (fun _ v _ => v = (.pointer (some ⟨g31, 12, none⟩)))), (18, [], [14], (fun _ v _ => v = (.bool x_c.HasOld))), (19, [], [], (fun _ v _ => v = (.pointer (some ⟨g31, 13, none⟩)))), (20, [], [16], (fun _ v _ => v = (.int .i64 x_c.Until))), (21, [], [], (fun _ v w => ∃ a0 : Addr, v = .slice (some a0) 0 0 ∧ w.ownsRow w2.heap.size 5 1 (.slice (some a0) 0 0) 0 [])), (22, [], [], (fun _ v _ => v = (.pointer (some ⟨g31, 14, none⟩)))), (23, [], [19], (fun _ v _ => v = (.slice a26 x_c.Next.length c27))), (24, [8, 11, 16], [2, 3, 4, 5, 6, 7, 8, 9, 10, 11, 12, 13, 18, 19, 20], (fun e v w => ∃ (a1 : Option Addr) (c1 : Nat), v = .slice a1 x_c.Next.length c1 ∧ w.ownsRow w2.heap.size 5 1 (.slice a1 x_c.Next.length c1) x_c.Next.length (x_c.Next.map bV) ∧ x_c.Next.length ≤ 1073741824 ∧ Aps [(a1, c1)] ∧ Ap (sp (e 8)) (a1, c1) ∧ Ap (sp (cellAt (e 11) 1)) (a1, c1) ∧ Ap (sp (cellAt (e 11) 4)) (a1, c1) ∧ Ap (sp (cellAt (e 16) 1)) (a1, c1) ∧ Ap (sp (cellAt (e 16) 4)) (a1, c1))), (25, [8, 11, 16, 24], [0, 1, 2, 3, 4, 5, 6, 7, 8, 9, 10, 11, 12, 13, 14, 15, 16, 17, 18, 19, 20, 21], (fun e v _ => v = (.agg #[(.int .i64 x_c.Role), (e 8), (.int .i64 ((F_spec_l9Copy x_c.Cur).N)), (cellAt (e 11) 1), (.int .i64 ((F_spec_l9Copy x_c.Cur).Seq)), (.int .i64 (((F_spec_l9Copy x_c.Cur).Win).Top)), (cellAt (e 11) 4), (.int .i64 ((F_spec_l14Ep x_c.Old x_c.HasOld).N)), (cellAt (e 16) 1), (.int .i64 ((F_spec_l14Ep x_c.Old x_c.HasOld).Seq)), (.int .i64 (((F_spec_l14Ep x_c.Old x_c.HasOld).Win).Top)), (cellAt (e 16) 4), (.bool x_c.HasOld), (.int .i64 x_c.Until), (e 24)])))] : GV) mixed rfl (by kernel_rfl) (by kernel_rfl) ?_ ?_ ?_
  · exact ⟨(fun _ _ _ _ h _ => h), (fun _ _ _ _ _ h => h), ⟨(fun _ _ _ _ h _ => h), (fun _ _ _ _ _ h => h), ⟨(fun e v w w1 h hk => by obtain ⟨a0x, he, o0x⟩ := h; exact ⟨a0x, he, own_kp o0x hk⟩), (fun _ _ _ _ _ h => h), ⟨(fun _ _ _ _ h _ => h), (fun _ _ _ _ _ h => h), ⟨(fun _ _ _ _ h _ => h), (fun _ _ _ _ _ h => h), ⟨(fun e v w w1 h hk => by obtain ⟨a0x, c0x, he, o0x, l0x, hap⟩ := h; exact ⟨a0x, c0x, he, own_kp o0x hk, l0x, hap⟩), (fun _ _ _ _ _ h => h), ⟨(fun _ _ _ _ h _ => h), (fun _ _ _ _ _ h => h), ⟨(fun _ _ _ _ h _ => h), (fun _ _ _ _ _ h => h), ⟨(fun e v w w1 h hk => by obtain ⟨a0x, c0x, a1x, c1x, he, o0x, l0x, o1x, l1x, hap, hx⟩ := h; exact ⟨a0x, c0x, a1x, c1x, he, own_kp o0x hk, l0x, own_kp o1x hk, l1x, hap, hx⟩), (fun e1 e2 v w hx h => by have h8x := hx 8 (by simp); simp only [h8x] at h; exact h), ⟨(fun _ _ _ _ h _ => h), (fun _ _ _ _ _ h => h), ⟨(fun _ _ _ _ h _ => h), (fun _ _ _ _ _ h => h), ⟨(fun _ _ _ _ h _ => h), (fun _ _ _ _ _ h => h), ⟨(fun _ _ _ _ h _ => h), (fun _ _ _ _ _ h => h), ⟨(fun e v w w1 h hk => by obtain ⟨a0x, c0x, a1x, c1x, he, o0x, l0x, o1x, l1x, hap, hx⟩ := h; exact ⟨a0x, c0x, a1x, c1x, he, own_kp o0x hk, l0x, own_kp o1x hk, l1x, hap, hx⟩), (fun e1 e2 v w hx h => by have h8x := hx 8 (by simp); have h11x := hx 11 (by simp); simp only [h8x, h11x] at h; exact h), ⟨(fun _ _ _ _ h _ => h), (fun _ _ _ _ _ h => h), ⟨(fun _ _ _ _ h _ => h), (fun _ _ _ _ _ h => h), ⟨(fun _ _ _ _ h _ => h), (fun _ _ _ _ _ h => h), ⟨(fun _ _ _ _ h _ => h), (fun _ _ _ _ _ h => h), ⟨(fun e v w w1 h hk => by obtain ⟨a0x, he, o0x⟩ := h; exact ⟨a0x, he, own_kp o0x hk⟩), (fun _ _ _ _ _ h => h), ⟨(fun _ _ _ _ h _ => h), (fun _ _ _ _ _ h => h), ⟨(fun _ _ _ _ h _ => h), (fun _ _ _ _ _ h => h), ⟨(fun e v w w1 h hk => by obtain ⟨a0x, c0x, he, o0x, l0x, hap, hx⟩ := h; exact ⟨a0x, c0x, he, own_kp o0x hk, l0x, hap, hx⟩), (fun e1 e2 v w hx h => by have h8x := hx 8 (by simp); have h11x := hx 11 (by simp); have h16x := hx 16 (by simp); simp only [h8x, h11x, h16x] at h; exact h), ⟨(fun _ _ _ _ h _ => h), (fun e1 e2 v w hx h => by have h8x := hx 8 (by simp); have h11x := hx 11 (by simp); have h16x := hx 16 (by simp); have h24x := hx 24 (by simp); simp only [h8x, h11x, h16x, h24x] at h; exact h), trivial⟩⟩⟩⟩⟩⟩⟩⟩⟩⟩⟩⟩⟩⟩⟩⟩⟩⟩⟩⟩⟩⟩⟩
  · refine ⟨?_, ⟨?_, ⟨?_, ⟨?_, ⟨?_, ⟨?_, ⟨?_, ⟨?_, ⟨?_, ⟨?_, ⟨?_, ⟨?_, ⟨?_, ⟨?_, ⟨?_, ⟨?_, ⟨?_, ⟨?_, ⟨?_, ⟨?_, ⟨?_, ⟨?_, ⟨?_, trivial⟩⟩⟩⟩⟩⟩⟩⟩⟩⟩⟩⟩⟩⟩⟩⟩⟩⟩⟩⟩⟩⟩⟩
    · intro w3 k159
      have m160 := m42.extk k159
      intro u161
      intro u162
      intro u163
      intro u164
      intro u165
      intro u166
      intro u167
      intro u168
      intro u169
      intro u170
      intro u171
      intro u172
      intro u173
      intro u174
      intro u175
      intro u176
      intro u177
      intro u178
      intro u179
      intro u180
      intro u181
      intro u182
      intro u183
      show WL _ _ _ _ _ _ _
      refine wl_pure (.pointer (some ⟨g31, 0, none⟩)) (want_none rfl) rfl rfl (by kernel_rfl) ?_
      exact wl_fin (Ch.refl _ _) rfl
    · intro w3 k184
      have m185 := m42.extk k184
      rintro _ rfl
      intro u186
      intro u187
      intro u188
      intro u189
      intro u190
      intro u191
      intro u192
      intro u193
      intro u194
      intro u195
      intro u196
      intro u197
      intro u198
      intro u199
      intro u200
      intro u201
      intro u202
      intro u203
      intro u204
      intro u205
      intro u206
      intro u207
      show WL _ _ _ _ _ _ _
      have b208 := ((b35.kp k40).kp k184)
      refine wl_load1 (.int .i64 x_c.Role) (want_none rfl) rfl rfl rfl rfl isAgg_3 b208 rfl ?_
      exact wl_fin (Ch.refl _ _) rfl
    · intro w3 k209
      have m210 := m42.extk k209
      intro u211
      intro u212
      intro u213
      intro u214
      intro u215
      intro u216
      intro u217
      intro u218
      intro u219
      intro u220
      intro u221
      intro u222
      intro u223
      intro u224
      intro u225
      intro u226
      intro u227
      intro u228
      intro u229
      intro u230
      intro u231
      intro u232
      intro u233
      show WL _ _ _ _ _ _ _
      refine wl_lit0 (want_none rfl) rfl rfl slTy_22 (fun w => by kernel_rfl) ?_
      intro a234 w4 k235 o236
      have m237 := m210.extk k235
      exact wl_fin k235 ⟨_, rfl, own_lo o236 k209.size⟩
    · intro w3 k239
      have m240 := m42.extk k239
      intro u241
      intro u242
      intro u243
      intro u244
      intro u245
      intro u246
      intro u247
      intro u248
      intro u249
      intro u250
      intro u251
      intro u252
      intro u253
      intro u254
      intro u255
      intro u256
      intro u257
      intro u258
      intro u259
      intro u260
      intro u261
      intro u262
      intro u263
      show WL _ _ _ _ _ _ _
      refine wl_pure (.pointer (some ⟨g31, 1, none⟩)) (want_none rfl) rfl rfl (by kernel_rfl) ?_
      exact wl_fin (Ch.refl _ _) rfl
    · intro w3 k264
      have m265 := m42.extk k264
      intro u266
      intro u267
      intro u268
      rintro _ rfl
      intro u269
      intro u270
      intro u271
      intro u272
      intro u273
      intro u274
      intro u275
      intro u276
      intro u277
      intro u278
      intro u279
      intro u280
      intro u281
      intro u282
      intro u283
      intro u284
      intro u285
      intro u286
      intro u287
      show WL _ _ _ _ _ _ _
      have b288 := ((b35.kp k40).kp k264)
      refine wl_load1 (.slice a1 x_c.Sn.length c2) (want_none rfl) rfl rfl rfl rfl isAgg_22 b288 rfl ?_
      exact wl_fin (Ch.refl _ _) rfl
    · intro w3 k289
      have m290 := m42.extk k289
      intro u291
      intro u292
      rintro _ ⟨a293, rfl, o295⟩
      rintro _ rfl
      rintro _ rfl
      intro u299
      intro u300
      intro u301
      intro u302
      intro u303
      intro u304
      intro u305
      intro u306
      intro u307
      intro u308
      intro u309
      intro u310
      intro u311
      intro u312
      intro u313
      intro u314
      intro u315
      intro u316
      show WL _ _ _ _ _ _ _
      refine wl_append0 (want_none rfl) rfl rfl rfl slTy_22 rfl rfl o295 (r3.from0 m290) (all_bV _) (by (try simp only [List.length_append, List.length_cons, List.length_nil]); omega) (by simp only [maxLen]; (try simp only [List.length_append, List.length_cons, List.length_nil]); omega) k289.size ?_
      intro u317 w4 k318 o319 j320
      obtain ⟨a321, c322, rfl⟩ := own_form o319
      have n323 : New w3 a321 c322 := j320 _ _ rfl
      have m324 := m290.extk k318
      exact wl_fin k318 ⟨_, _, rfl, o319, s4, ⟨trivial, trivial⟩⟩
    · intro w3 k326
      have m327 := m42.extk k326
      intro u328
      intro u329
      intro u330
      intro u331
      intro u332
      intro u333
      intro u334
      intro u335
      intro u336
      intro u337
      intro u338
      intro u339
      intro u340
      intro u341
      intro u342
      intro u343
      intro u344
      intro u345
      intro u346
      intro u347
      intro u348
      intro u349
      intro u350
      show WL _ _ _ _ _ _ _
      refine wl_pure (.pointer (some ⟨g31, 2, none⟩)) (want_none rfl) rfl rfl (by kernel_rfl) ?_
      exact wl_fin (Ch.refl _ _) rfl
    · intro w3 k351
      have m352 := m42.extk k351
      intro u353
      intro u354
      intro u355
      intro u356
      intro u357
      intro u358
      rintro _ rfl
      intro u359
      intro u360
      intro u361
      intro u362
      intro u363
      intro u364
      intro u365
      intro u366
      intro u367
      intro u368
      intro u369
      intro u370
      intro u371
      intro u372
      intro u373
      intro u374
      show WL _ _ _ _ _ _ _
      have b375 := ((b35.kp k40).kp k351)
      refine wl_loadN [(.int .i64 x_c.Cur.N), (.slice a6 x_c.Cur.Key.length c7), (.int .i64 x_c.Cur.Seq), (.int .i64 x_c.Cur.Win.Top), (.slice a11 x_c.Cur.Win.Bits.length c12)] (want_none rfl) rfl rfl rfl rfl isAgg_27 sizeOf_27 b375 rfl ?_
      exact wl_fin (Ch.refl _ _) rfl
    · intro w3 k376
      have m377 := m42.extk k376
      intro u378
      intro u379
      rintro _ ⟨a380, rfl, o382⟩
      rintro _ rfl
      rintro _ rfl
      rintro _ ⟨a386, c387, rfl, o388, s389, -⟩
      rintro _ rfl
      rintro _ rfl
      intro u392
      intro u393
      intro u394
      intro u395
      intro u396
      intro u397
      intro u398
      intro u399
      intro u400
      intro u401
      intro u402
      intro u403
      intro u404
      intro u405
      intro u406
      show WL _ _ _ _ _ _ _
      refine wl_call (want_none rfl) (args := #[(.agg #[(.int .i64 x_c.Cur.N), (.slice a6 x_c.Cur.Key.length c7), (.int .i64 x_c.Cur.Seq), (.int .i64 x_c.Cur.Win.Top), (.slice a11 x_c.Cur.Win.Bits.length c12)])]) rfl rfl (by kernel_rfl) (C_spec_l9Copy w3 (.agg #[(.int .i64 x_c.Cur.N), (.slice a6 x_c.Cur.Key.length c7), (.int .i64 x_c.Cur.Seq), (.int .i64 x_c.Cur.Win.Top), (.slice a11 x_c.Cur.Win.Bits.length c12)]) x_c.Cur (show R_27 w3 (.agg #[(.int .i64 x_c.Cur.N), (.slice a6 x_c.Cur.Key.length c7), (.int .i64 x_c.Cur.Seq), (.int .i64 x_c.Cur.Win.Top), (.slice a11 x_c.Cur.Win.Bits.length c12)]) x_c.Cur from ⟨_, _, _, _, rfl, (r8.from0 m377), s9, (r13.from0 m377), s14⟩)) ?_
      rintro _ w4 ⟨k407, ⟨a408, c409, a413, c414, rfl, o410, s411, o415, s416, ap418⟩⟩
      have m419 := m377.extk k407
      exact wl_fin k407 ⟨_, _, _, _, rfl, (own_lo o410 k376.size), s411, (own_lo o415 k376.size), s416, ap418, ⟨(Ap.lt o388 o410 (Nat.le_refl _)), (Ap.lt o388 o415 (Nat.le_refl _))⟩⟩
    · intro w3 k420
      have m421 := m42.extk k420
      intro u422
      intro u423
      intro u424
      intro u425
      intro u426
      intro u427
      intro u428
      intro u429
      intro u430
      intro u431
      intro u432
      intro u433
      intro u434
      intro u435
      intro u436
      intro u437
      intro u438
      intro u439
      intro u440
      intro u441
      intro u442
      intro u443
      intro u444
      show WL _ _ _ _ _ _ _
      refine wl_pure (.pointer (some ⟨g31, 7, none⟩)) (want_none rfl) rfl rfl (by kernel_rfl) ?_
      exact wl_fin (Ch.refl _ _) rfl
    · intro w3 k445
      have m446 := m42.extk k445
      intro u447
      intro u448
      intro u449
      intro u450
      intro u451
      intro u452
      intro u453
      intro u454
      intro u455
      rintro _ rfl
      intro u456
      intro u457
      intro u458
      intro u459
      intro u460
      intro u461
      intro u462
      intro u463
      intro u464
      intro u465
      intro u466
      intro u467
      intro u468
      show WL _ _ _ _ _ _ _
      have b469 := ((b35.kp k40).kp k445)
      refine wl_loadN [(.int .i64 x_c.Old.N), (.slice a16 x_c.Old.Key.length c17), (.int .i64 x_c.Old.Seq), (.int .i64 x_c.Old.Win.Top), (.slice a21 x_c.Old.Win.Bits.length c22)] (want_none rfl) rfl rfl rfl rfl isAgg_27 sizeOf_27 b469 rfl ?_
      exact wl_fin (Ch.refl _ _) rfl
    · intro w3 k470
      have m471 := m42.extk k470
      intro u472
      intro u473
      intro u474
      intro u475
      intro u476
      intro u477
      intro u478
      intro u479
      intro u480
      intro u481
      intro u482
      intro u483
      intro u484
      intro u485
      intro u486
      intro u487
      intro u488
      intro u489
      intro u490
      intro u491
      intro u492
      intro u493
      intro u494
      show WL _ _ _ _ _ _ _
      refine wl_pure (.pointer (some ⟨g31, 12, none⟩)) (want_none rfl) rfl rfl (by kernel_rfl) ?_
      exact wl_fin (Ch.refl _ _) rfl
    · intro w3 k495
      have m496 := m42.extk k495
      intro u497
      intro u498
      intro u499
      intro u500
      intro u501
      intro u502
      intro u503
      intro u504
      intro u505
      intro u506
      intro u507
      rintro _ rfl
      intro u508
      intro u509
      intro u510
      intro u511
      intro u512
      intro u513
      intro u514
      intro u515
      intro u516
      intro u517
      intro u518
      show WL _ _ _ _ _ _ _
      have b519 := ((b35.kp k40).kp k495)
      refine wl_load1 (.bool x_c.HasOld) (want_none rfl) rfl rfl rfl rfl isAgg_4 b519 rfl ?_
      exact wl_fin (Ch.refl _ _) rfl
    · intro w3 k520
      have m521 := m42.extk k520
      intro u522
      intro u523
      rintro _ ⟨a524, rfl, o526⟩
      rintro _ rfl
      rintro _ rfl
      rintro _ ⟨a530, c531, rfl, o532, s533, -⟩
      rintro _ rfl
      rintro _ rfl
      rintro _ ⟨a536, c537, a541, c542, rfl, o538, s539, o543, s544, ap546, hx547⟩
      rintro _ rfl
      rintro _ rfl
      rintro _ rfl
      rintro _ rfl
      intro u550
      intro u551
      intro u552
      intro u553
      intro u554
      intro u555
      intro u556
      intro u557
      intro u558
      intro u559
      show WL _ _ _ _ _ _ _
      refine wl_call (want_none rfl) (args := #[(.agg #[(.int .i64 x_c.Old.N), (.slice a16 x_c.Old.Key.length c17), (.int .i64 x_c.Old.Seq), (.int .i64 x_c.Old.Win.Top), (.slice a21 x_c.Old.Win.Bits.length c22)]), (.bool x_c.HasOld)]) rfl rfl (by kernel_rfl) (C_spec_l14Ep w3 (.agg #[(.int .i64 x_c.Old.N), (.slice a16 x_c.Old.Key.length c17), (.int .i64 x_c.Old.Seq), (.int .i64 x_c.Old.Win.Top), (.slice a21 x_c.Old.Win.Bits.length c22)]) x_c.Old (show R_27 w3 (.agg #[(.int .i64 x_c.Old.N), (.slice a16 x_c.Old.Key.length c17), (.int .i64 x_c.Old.Seq), (.int .i64 x_c.Old.Win.Top), (.slice a21 x_c.Old.Win.Bits.length c22)]) x_c.Old from ⟨_, _, _, _, rfl, (r18.from0 m521), s19, (r23.from0 m521), s24⟩) x_c.HasOld) ?_
      rintro _ w4 ⟨k560, ⟨a561, c562, a566, c567, rfl, o563, s564, o568, s569, ap571⟩⟩
      have m572 := m521.extk k560
      exact wl_fin k560 ⟨_, _, _, _, rfl, (own_lo o563 k520.size), s564, (own_lo o568 k520.size), s569, ap571, ⟨(Ap.lt o532 o563 (Nat.le_refl _)), (Ap.lt o532 o568 (Nat.le_refl _)), (Ap.lt o538 o563 (Nat.le_refl _)), (Ap.lt o538 o568 (Nat.le_refl _)), (Ap.lt o543 o563 (Nat.le_refl _)), (Ap.lt o543 o568 (Nat.le_refl _))⟩⟩
    · intro w3 k573
      have m574 := m42.extk k573
      intro u575
      intro u576
      intro u577
      intro u578
      intro u579
      intro u580
      intro u581
      intro u582
      intro u583
      intro u584
      intro u585
      intro u586
      intro u587
      intro u588
      intro u589
      intro u590
      intro u591
      intro u592
      intro u593
      intro u594
      intro u595
      intro u596
      intro u597
      show WL _ _ _ _ _ _ _
      refine wl_pure (.pointer (some ⟨g31, 12, none⟩)) (want_none rfl) rfl rfl (by kernel_rfl) ?_
      exact wl_fin (Ch.refl _ _) rfl
    · intro w3 k598
      have m599 := m42.extk k598
      intro u600
      intro u601
      intro u602
      intro u603
      intro u604
      intro u605
      intro u606
      intro u607
      intro u608
      intro u609
      intro u610
      intro u611
      intro u612
      intro u613
      rintro _ rfl
      intro u614
      intro u615
      intro u616
      intro u617
      intro u618
      intro u619
      intro u620
      intro u621
      show WL _ _ _ _ _ _ _
      have b622 := ((b35.kp k40).kp k598)
      refine wl_load1 (.bool x_c.HasOld) (want_none rfl) rfl rfl rfl rfl isAgg_4 b622 rfl ?_
      exact wl_fin (Ch.refl _ _) rfl
    · intro w3 k623
      have m624 := m42.extk k623
      intro u625
      intro u626
      intro u627
      intro u628
      intro u629
      intro u630
      intro u631
      intro u632
      intro u633
      intro u634
      intro u635
      intro u636
      intro u637
      intro u638
      intro u639
      intro u640
      intro u641
      intro u642
      intro u643
      intro u644
      intro u645
      intro u646
      intro u647
      show WL _ _ _ _ _ _ _
      refine wl_pure (.pointer (some ⟨g31, 13, none⟩)) (want_none rfl) rfl rfl (by kernel_rfl) ?_
      exact wl_fin (Ch.refl _ _) rfl
    · intro w3 k648
      have m649 := m42.extk k648
      intro u650
      intro u651
      intro u652
      intro u653
      intro u654
      intro u655
      intro u656
      intro u657
      intro u658
      intro u659
      intro u660
      intro u661
      intro u662
      intro u663
      intro u664
      intro u665
      rintro _ rfl
      intro u666
      intro u667
      intro u668
      intro u669
      intro u670
      intro u671
      show WL _ _ _ _ _ _ _
      have b672 := ((b35.kp k40).kp k648)
      refine wl_load1 (.int .i64 x_c.Until) (want_none rfl) rfl rfl rfl rfl isAgg_3 b672 rfl ?_
      exact wl_fin (Ch.refl _ _) rfl
    · intro w3 k673
      have m674 := m42.extk k673
      intro u675
      intro u676
      intro u677
      intro u678
      intro u679
      intro u680
      intro u681
      intro u682
      intro u683
      intro u684
      intro u685
      intro u686
      intro u687
      intro u688
      intro u689
      intro u690
      intro u691
      intro u692
      intro u693
      intro u694
      intro u695
      intro u696
      intro u697
      show WL _ _ _ _ _ _ _
      refine wl_lit0 (want_none rfl) rfl rfl slTy_22 (fun w => by kernel_rfl) ?_
      intro a698 w4 k699 o700
      have m701 := m674.extk k699
      exact wl_fin k699 ⟨_, rfl, own_lo o700 k673.size⟩
    · intro w3 k703
      have m704 := m42.extk k703
      intro u705
      intro u706
      intro u707
      intro u708
      intro u709
      intro u710
      intro u711
      intro u712
      intro u713
      intro u714
      intro u715
      intro u716
      intro u717
      intro u718
      intro u719
      intro u720
      intro u721
      intro u722
      intro u723
      intro u724
      intro u725
      intro u726
      intro u727
      show WL _ _ _ _ _ _ _
      refine wl_pure (.pointer (some ⟨g31, 14, none⟩)) (want_none rfl) rfl rfl (by kernel_rfl) ?_
      exact wl_fin (Ch.refl _ _) rfl
    · intro w3 k728
      have m729 := m42.extk k728
      intro u730
      intro u731
      intro u732
      intro u733
      intro u734
      intro u735
      intro u736
      intro u737
      intro u738
      intro u739
      intro u740
      intro u741
      intro u742
      intro u743
      intro u744
      intro u745
      intro u746
      intro u747
      intro u748
      rintro _ rfl
      intro u749
      intro u750
      intro u751
      show WL _ _ _ _ _ _ _
      have b752 := ((b35.kp k40).kp k728)
      refine wl_load1 (.slice a26 x_c.Next.length c27) (want_none rfl) rfl rfl rfl rfl isAgg_22 b752 rfl ?_
      exact wl_fin (Ch.refl _ _) rfl
    · intro w3 k753
      have m754 := m42.extk k753
      intro u755
      intro u756
      rintro _ ⟨a757, rfl, o759⟩
      rintro _ rfl
      rintro _ rfl
      rintro _ ⟨a763, c764, rfl, o765, s766, -⟩
      rintro _ rfl
      rintro _ rfl
      rintro _ ⟨a769, c770, a774, c775, rfl, o771, s772, o776, s777, ap779, hx780⟩
      rintro _ rfl
      rintro _ rfl
      rintro _ rfl
      rintro _ rfl
      rintro _ ⟨a783, c784, a788, c789, rfl, o785, s786, o790, s791, ap793, hx794⟩
      intro u795
      intro u796
      intro u797
      intro u798
      rintro _ ⟨a799, rfl, o801⟩
      rintro _ rfl
      rintro _ rfl
      intro u805
      intro u806
      show WL _ _ _ _ _ _ _
      refine wl_append0 (want_none rfl) rfl rfl rfl slTy_22 rfl rfl o801 (r28.from0 m754) (all_bV _) (by (try simp only [List.length_append, List.length_cons, List.length_nil]); omega) (by simp only [maxLen]; (try simp only [List.length_append, List.length_cons, List.length_nil]); omega) k753.size ?_
      intro u807 w4 k808 o809 j810
      obtain ⟨a811, c812, rfl⟩ := own_form o809
      have n813 : New w3 a811 c812 := j810 _ _ rfl
      have m814 := m754.extk k808
      exact wl_fin k808 ⟨_, _, rfl, o809, s29, ⟨trivial, trivial⟩, ⟨(Ap.new o765 n813 (Nat.le_refl _)), (Ap.new o771 n813 (Nat.le_refl _)), (Ap.new o776 n813 (Nat.le_refl _)), (Ap.new o785 n813 (Nat.le_refl _)), (Ap.new o790 n813 (Nat.le_refl _))⟩⟩
    · intro w3 k816
      have m817 := m42.extk k816
      rintro _ rfl
      rintro _ rfl
      rintro _ ⟨a819, rfl, o821⟩
      rintro _ rfl
      rintro _ rfl
      rintro _ ⟨a825, c826, rfl, o827, s828, -⟩
      rintro _ rfl
      rintro _ rfl
      rintro _ ⟨a831, c832, a836, c837, rfl, o833, s834, o838, s839, ap841, hx842⟩
      rintro _ rfl
      rintro _ rfl
      rintro _ rfl
      rintro _ rfl
      rintro _ ⟨a845, c846, a850, c851, rfl, o847, s848, o852, s853, ap855, hx856⟩
      rintro _ rfl
      rintro _ rfl
      rintro _ rfl
      rintro _ rfl
      rintro _ ⟨a859, rfl, o861⟩
      rintro _ rfl
      rintro _ rfl
      rintro _ ⟨a865, c866, rfl, o867, s868, -, hx870⟩
      intro u871
      show WL _ _ _ _ _ _ _
      refine wl_pure (.agg #[(.int .i64 x_c.Role), (.slice a825 x_c.Sn.length c826), (.int .i64 ((F_spec_l9Copy x_c.Cur).N)), (.slice a831 ((F_spec_l9Copy x_c.Cur).Key).length c832), (.int .i64 ((F_spec_l9Copy x_c.Cur).Seq)), (.int .i64 (((F_spec_l9Copy x_c.Cur).Win).Top)), (.slice a836 (((F_spec_l9Copy x_c.Cur).Win).Bits).length c837), (.int .i64 ((F_spec_l14Ep x_c.Old x_c.HasOld).N)), (.slice a845 ((F_spec_l14Ep x_c.Old x_c.HasOld).Key).length c846), (.int .i64 ((F_spec_l14Ep x_c.Old x_c.HasOld).Seq)), (.int .i64 (((F_spec_l14Ep x_c.Old x_c.HasOld).Win).Top)), (.slice a850 (((F_spec_l14Ep x_c.Old x_c.HasOld).Win).Bits).length c851), (.bool x_c.HasOld), (.int .i64 x_c.Until), (.slice a865 x_c.Next.length c866)]) (want_none rfl) rfl rfl (by kernel_rfl) ?_
      exact wl_fin (Ch.refl _ _) rfl
  · intro w3 k872
    have m873 := m42.extk k872
    rintro _ rfl
    rintro _ rfl
    rintro _ ⟨a875, rfl, o877⟩
    rintro _ rfl
    rintro _ rfl
    rintro _ ⟨a881, c882, rfl, o883, s884, -⟩
    rintro _ rfl
    rintro _ rfl
    rintro _ ⟨a887, c888, a892, c893, rfl, o889, s890, o894, s895, ap897, hx898⟩
    rintro _ rfl
    rintro _ rfl
    rintro _ rfl
    rintro _ rfl
    rintro _ ⟨a901, c902, a906, c907, rfl, o903, s904, o908, s909, ap911, hx912⟩
    rintro _ rfl
    rintro _ rfl
    rintro _ rfl
    rintro _ rfl
    rintro _ ⟨a915, rfl, o917⟩
    rintro _ rfl
    rintro _ rfl
    rintro _ ⟨a921, c922, rfl, o923, s924, -, hx926⟩
    rintro _ rfl
    show WL _ _ _ _ _ _ _
    have b927 := (b41.kp k872)
    refine wl_store (.agg #[(.int .i64 x_c.Role), (.slice a881 x_c.Sn.length c882), (.int .i64 ((F_spec_l9Copy x_c.Cur).N)), (.slice a887 ((F_spec_l9Copy x_c.Cur).Key).length c888), (.int .i64 ((F_spec_l9Copy x_c.Cur).Seq)), (.int .i64 (((F_spec_l9Copy x_c.Cur).Win).Top)), (.slice a892 (((F_spec_l9Copy x_c.Cur).Win).Bits).length c893), (.int .i64 ((F_spec_l14Ep x_c.Old x_c.HasOld).N)), (.slice a901 ((F_spec_l14Ep x_c.Old x_c.HasOld).Key).length c902), (.int .i64 ((F_spec_l14Ep x_c.Old x_c.HasOld).Seq)), (.int .i64 (((F_spec_l14Ep x_c.Old x_c.HasOld).Win).Top)), (.slice a906 (((F_spec_l14Ep x_c.Old x_c.HasOld).Win).Bits).length c907), (.bool x_c.HasOld), (.int .i64 x_c.Until), (.slice a921 x_c.Next.length c922)]) [(.int .i64 x_c.Role), (.slice a881 x_c.Sn.length c882), (.int .i64 ((F_spec_l9Copy x_c.Cur).N)), (.slice a887 ((F_spec_l9Copy x_c.Cur).Key).length c888), (.int .i64 ((F_spec_l9Copy x_c.Cur).Seq)), (.int .i64 (((F_spec_l9Copy x_c.Cur).Win).Top)), (.slice a892 (((F_spec_l9Copy x_c.Cur).Win).Bits).length c893), (.int .i64 ((F_spec_l14Ep x_c.Old x_c.HasOld).N)), (.slice a901 ((F_spec_l14Ep x_c.Old x_c.HasOld).Key).length c902), (.int .i64 ((F_spec_l14Ep x_c.Old x_c.HasOld).Seq)), (.int .i64 (((F_spec_l14Ep x_c.Old x_c.HasOld).Win).Top)), (.slice a906 (((F_spec_l14Ep x_c.Old x_c.HasOld).Win).Bits).length c907), (.bool x_c.HasOld), (.int .i64 x_c.Until), (.slice a921 x_c.Next.length c922)] [(.int .i64 x_c.Role), (.slice a881 x_c.Sn.length c882), (.int .i64 ((F_spec_l9Copy x_c.Cur).N)), (.slice a887 ((F_spec_l9Copy x_c.Cur).Key).length c888), (.int .i64 ((F_spec_l9Copy x_c.Cur).Seq)), (.int .i64 (((F_spec_l9Copy x_c.Cur).Win).Top)), (.slice a892 (((F_spec_l9Copy x_c.Cur).Win).Bits).length c893), (.int .i64 ((F_spec_l14Ep x_c.Old x_c.HasOld).N)), (.slice a901 ((F_spec_l14Ep x_c.Old x_c.HasOld).Key).length c902), (.int .i64 ((F_spec_l14Ep x_c.Old x_c.HasOld).Seq)), (.int .i64 (((F_spec_l14Ep x_c.Old x_c.HasOld).Win).Top)), (.slice a906 (((F_spec_l14Ep x_c.Old x_c.HasOld).Win).Bits).length c907), (.bool x_c.HasOld), (.int .i64 x_c.Until), (.slice a921 x_c.Next.length c922)] (want_none rfl) rfl rfl rfl rfl rfl (one_cons rfl (one_cons rfl (one_cons rfl (one_cons rfl (one_cons rfl (one_cons rfl (one_cons rfl (one_cons rfl (one_cons rfl (one_cons rfl (one_cons rfl (one_cons rfl (one_cons rfl (one_cons rfl (one_cons rfl one_nil))))))))))))))) sizeOf_29 b927 rfl rfl ?_
    intro w4 k928 b929 z930
    have m931 := m873.ext k928 (fun k hk => by subst hk; exact Nat.le_trans k34.size p38)
    refine wl_nil ?_
    refine wq_then ?_
    refine wc_ret ?_
    have o932 := (own_ch o883 k928 (fun g hg hlt hk => by have h1 := (own_lt o883 g hg).1; have h2 := Nat.lt_of_lt_of_le p39 (Nat.le_refl _); omega))
    have o933 := (own_ch o889 k928 (fun g hg hlt hk => by have h1 := (own_lt o889 g hg).1; have h2 := Nat.lt_of_lt_of_le p39 (Nat.le_refl _); omega))
    have o934 := (own_ch o894 k928 (fun g hg hlt hk => by have h1 := (own_lt o894 g hg).1; have h2 := Nat.lt_of_lt_of_le p39 (Nat.le_refl _); omega))
    have o935 := (own_ch o903 k928 (fun g hg hlt hk => by have h1 := (own_lt o903 g hg).1; have h2 := Nat.lt_of_lt_of_le p39 (Nat.le_refl _); omega))
    have o936 := (own_ch o908 k928 (fun g hg hlt hk => by have h1 := (own_lt o908 g hg).1; have h2 := Nat.lt_of_lt_of_le p39 (Nat.le_refl _); omega))
    have o937 := (own_ch o923 k928 (fun g hg hlt hk => by have h1 := (own_lt o923 g hg).1; have h2 := Nat.lt_of_lt_of_le p39 (Nat.le_refl _); omega))
    refine ret_1 (.inl rfl) (.agg #[(.int .i64 x_c.Role), (.slice a881 x_c.Sn.length c882), (.int .i64 ((F_spec_l9Copy x_c.Cur).N)), (.slice a887 ((F_spec_l9Copy x_c.Cur).Key).length c888), (.int .i64 ((F_spec_l9Copy x_c.Cur).Seq)), (.int .i64 (((F_spec_l9Copy x_c.Cur).Win).Top)), (.slice a892 (((F_spec_l9Copy x_c.Cur).Win).Bits).length c893), (.int .i64 ((F_spec_l14Ep x_c.Old x_c.HasOld).N)), (.slice a901 ((F_spec_l14Ep x_c.Old x_c.HasOld).Key).length c902), (.int .i64 ((F_spec_l14Ep x_c.Old x_c.HasOld).Seq)), (.int .i64 (((F_spec_l14Ep x_c.Old x_c.HasOld).Win).Top)), (.slice a906 (((F_spec_l14Ep x_c.Old x_c.HasOld).Win).Bits).length c907), (.bool x_c.HasOld), (.int .i64 x_c.Until), (.slice a921 x_c.Next.length c922)]) rfl (rv_c [(.int .i64 x_c.Role), (.slice a881 x_c.Sn.length c882), (.int .i64 ((F_spec_l9Copy x_c.Cur).N)), (.slice a887 ((F_spec_l9Copy x_c.Cur).Key).length c888), (.int .i64 ((F_spec_l9Copy x_c.Cur).Seq)), (.int .i64 (((F_spec_l9Copy x_c.Cur).Win).Top)), (.slice a892 (((F_spec_l9Copy x_c.Cur).Win).Bits).length c893), (.int .i64 ((F_spec_l14Ep x_c.Old x_c.HasOld).N)), (.slice a901 ((F_spec_l14Ep x_c.Old x_c.HasOld).Key).length c902), (.int .i64 ((F_spec_l14Ep x_c.Old x_c.HasOld).Seq)), (.int .i64 (((F_spec_l14Ep x_c.Old x_c.HasOld).Win).Top)), (.slice a906 (((F_spec_l14Ep x_c.Old x_c.HasOld).Win).Bits).length c907), (.bool x_c.HasOld), (.int .i64 x_c.Until), (.slice a921 x_c.Next.length c922)] rfl b929 isAgg_29 sizeOf_29) ?_
    refine ⟨m931.keep0, ?_⟩
    have hF938 : F_spec_l14Copy x_c = { Role := x_c.Role, Sn := x_c.Sn, Cur := (F_spec_l9Copy x_c.Cur), Old := (F_spec_l14Ep x_c.Old x_c.HasOld), HasOld := x_c.HasOld, Until := x_c.Until, Next := x_c.Next : PChan } := by rfl
    rw [hF938]
    exact ⟨_, _, _, _, _, _, _, _, _, _, _, _, rfl, (own_lo o932 (Nat.le_trans k34.size k40.size)), s884, (own_lo o933 (Nat.le_trans k34.size k40.size)), s890, (own_lo o934 (Nat.le_trans k34.size k40.size)), s895, (own_lo o935 (Nat.le_trans k34.size k40.size)), s904, (own_lo o936 (Nat.le_trans k34.size k40.size)), s909, (own_lo o937 (Nat.le_trans k34.size k40.size)), s924, ⟨⟨(hx898.1), ⟨(hx898.2), ⟨(hx912.1), ⟨(hx912.2.1), ⟨(hx926.1), trivial⟩⟩⟩⟩⟩, ⟨⟨(ap897.1.1), ⟨(hx912.2.2.1), ⟨(hx912.2.2.2.1), ⟨(hx926.2.1), trivial⟩⟩⟩⟩, ⟨⟨(hx912.2.2.2.2.1), ⟨(hx912.2.2.2.2.2), ⟨(hx926.2.2.1), trivial⟩⟩⟩, ⟨⟨(ap911.1.1), ⟨(hx926.2.2.2.1), trivial⟩⟩, ⟨⟨(hx926.2.2.2.2), trivial⟩, ⟨trivial, trivial⟩⟩⟩⟩⟩⟩⟩

def F_impl_copyWin (x_w : PWin) : (PWin) := x_w
theorem C_impl_copyWin (w0 : World) (v_x_w : Value) (x_w : PWin) (r_x_w : R_25 w0 v_x_w x_w)  : Fn Try.prog 129 #[v_x_w] w0 (fun v w' => Keep w0 w' ∧ O_25 w' w0.heap.size v (F_impl_copyWin x_w)) := by
  obtain ⟨a1, c2, rfl, r3, s4⟩ := r_x_w
  refine fn_of (n := 10) (l := [(.agg #[(.int .i64 x_w.Top), (.slice a1 x_w.Bits.length c2)]), undef, undef, undef, undef, undef, undef, undef, undef, undef]) Try.func129 rfl rfl (by kernel_rfl) rfl ?_
  refine wc_seq ?_
  refine wc_region ?_
  refine wl_box (want_none rfl) [(.int .i64 x_w.Top), (.slice a1 x_w.Bits.length c2)] rfl rfl rfl rfl ?_
  intro g6 w1 p7 p8 k9 b10
  have m11 := (Ch.base w0).extk k9
  refine wl_alloc (want_none rfl) (.agg #[(.int .i64 0), (.slice none 0 0)]) [(.int .i64 0), (.slice none 0 0)] zero_25 rfl rfl rfl rfl ?_
  intro g12 w2 p13 p14 k15 b16
  have m17 := m11.extk k15
  refine wl_nil ?_
  refine wq_then ?_
  refine wc_seq ?_
  refine wc_draw ([(3, [], [], (fun _ v _ => v = (.pointer (some ⟨g6, 0, none⟩)))), (4, [], [0], (fun _ v _ => v = (.int .i64 x_w.Top))), (5, [], [], (fun _ v w => ∃ a0 : Addr, v = .slice (some a0) 0 0 ∧ w.ownsRow w2.heap.size 3 1 (.slice (some a0) 0 0) 0 [])), (6, [], [], (fun _ v _ => v = (.pointer (some ⟨g6, 1, none⟩)))), (7, [], [3], (fun _ v _ => v = (.slice a1 x_w.Bits.length c2))), (8, [], [2, 3, 4], (fun _ v w => ∃ (a1 : Option Addr) (c1 : Nat), v = .slice a1 x_w.Bits.length c1 ∧ w.ownsRow w2.heap.size 3 1 (.slice a1 x_w.Bits.length c1) x_w.Bits.length (x_w.Bits.map iV) ∧ x_w.Bits.length ≤ 1073741824 ∧ Aps [(a1, c1)])), (9, [8], [0, 1, 2, 3, 4, 5], (fun e v _ => v = (.agg #[(.int .i64 x_w.Top), (e 8)])))] : GV) mixed rfl (by kernel_rfl) (by kernel_rfl) ?_ ?_ ?_
  · exact ⟨(fun _ _ _ _ h _ => h), (fun _ _ _ _ _ h => h), ⟨(fun _ _ _ _ h _ => h), (fun _ _ _ _ _ h => h), ⟨(fun e v w w1 h hk => by obtain ⟨a0x, he, o0x⟩ := h; exact ⟨a0x, he, own_kp o0x hk⟩), (fun _ _ _ _ _ h => h), ⟨(fun _ _ _ _ h _ => h), (fun _ _ _ _ _ h => h), ⟨(fun _ _ _ _ h _ => h), (fun _ _ _ _ _ h => h), ⟨(fun e v w w1 h hk => by obtain ⟨a0x, c0x, he, o0x, l0x, hap⟩ := h; exact ⟨a0x, c0x, he, own_kp o0x hk, l0x, hap⟩), (fun _ _ _ _ _ h => h), ⟨(fun _ _ _ _ h _ => h), (fun e1 e2 v w hx h => by have h8x := hx 8 (by simp); simp only [h8x] at h; exact h), trivial⟩⟩⟩⟩⟩⟩⟩
  · refine ⟨?_, ⟨?_, ⟨?_, ⟨?_, ⟨?_, ⟨?_, ⟨?_, trivial⟩⟩⟩⟩⟩⟩⟩
    · intro w3 k54
      have m55 := m17.extk k54
      intro u56
      intro u57
      intro u58
      intro u59
      intro u60
      intro u61
      intro u62
      show WL _ _ _ _ _ _ _
      refine wl_pure (.pointer (some ⟨g6, 0, none⟩)) (want_none rfl) rfl rfl (by kernel_rfl) ?_
      exact wl_fin (Ch.refl _ _) rfl
    · intro w3 k63
      have m64 := m17.extk k63
      rintro _ rfl
      intro u65
      intro u66
      intro u67
      intro u68
      intro u69
      intro u70
      show WL _ _ _ _ _ _ _
      have b71 := ((b10.kp k15).kp k63)
      refine wl_load1 (.int .i64 x_w.Top) (want_none rfl) rfl rfl rfl rfl isAgg_3 b71 rfl ?_
      exact wl_fin (Ch.refl _ _) rfl
    · intro w3 k72
      have m73 := m17.extk k72
      intro u74
      intro u75
      intro u76
      intro u77
      intro u78
      intro u79
      intro u80
      show WL _ _ _ _ _ _ _
      refine wl_lit0 (want_none rfl) rfl rfl slTy_23 (fun w => by kernel_rfl) ?_
      intro a81 w4 k82 o83
      have m84 := m73.extk k82
      exact wl_fin k82 ⟨_, rfl, own_lo o83 k72.size⟩
    · intro w3 k86
      have m87 := m17.extk k86
      intro u88
      intro u89
      intro u90
      intro u91
      intro u92
      intro u93
      intro u94
      show WL _ _ _ _ _ _ _
      refine wl_pure (.pointer (some ⟨g6, 1, none⟩)) (want_none rfl) rfl rfl (by kernel_rfl) ?_
      exact wl_fin (Ch.refl _ _) rfl
    · intro w3 k95
      have m96 := m17.extk k95
      intro u97
      intro u98
      intro u99
      rintro _ rfl
      intro u100
      intro u101
      intro u102
      show WL _ _ _ _ _ _ _
      have b103 := ((b10.kp k15).kp k95)
      refine wl_load1 (.slice a1 x_w.Bits.length c2) (want_none rfl) rfl rfl rfl rfl isAgg_23 b103 rfl ?_
      exact wl_fin (Ch.refl _ _) rfl
    · intro w3 k104
      have m105 := m17.extk k104
      intro u106
      intro u107
      rintro _ ⟨a108, rfl, o110⟩
      rintro _ rfl
      rintro _ rfl
      intro u114
      intro u115
      show WL _ _ _ _ _ _ _
      refine wl_append0 (want_none rfl) rfl rfl rfl slTy_23 rfl rfl o110 (r3.from0 m105) (all_iV _) (by (try simp only [List.length_append, List.length_cons, List.length_nil]); omega) (by simp only [maxLen]; (try simp only [List.length_append, List.length_cons, List.length_nil]); omega) k104.size ?_
      intro u116 w4 k117 o118 j119
      obtain ⟨a120, c121, rfl⟩ := own_form o118
      have n122 : New w3 a120 c121 := j119 _ _ rfl
      have m123 := m105.extk k117
      exact wl_fin k117 ⟨_, _, rfl, o118, s4, ⟨trivial, trivial⟩⟩
    · intro w3 k125
      have m126 := m17.extk k125
      rintro _ rfl
      rintro _ rfl
      rintro _ ⟨a128, rfl, o130⟩
      rintro _ rfl
      rintro _ rfl
      rintro _ ⟨a134, c135, rfl, o136, s137, -⟩
      intro u139
      show WL _ _ _ _ _ _ _
      refine wl_pure (.agg #[(.int .i64 x_w.Top), (.slice a134 x_w.Bits.length c135)]) (want_none rfl) rfl rfl (by kernel_rfl) ?_
      exact wl_fin (Ch.refl _ _) rfl
  · intro w3 k140
    have m141 := m17.extk k140
    rintro _ rfl
    rintro _ rfl
    rintro _ ⟨a143, rfl, o145⟩
    rintro _ rfl
    rintro _ rfl
    rintro _ ⟨a149, c150, rfl, o151, s152, -⟩
    rintro _ rfl
    show WL _ _ _ _ _ _ _
    have b154 := (b16.kp k140)
    refine wl_store (.agg #[(.int .i64 x_w.Top), (.slice a149 x_w.Bits.length c150)]) [(.int .i64 x_w.Top), (.slice a149 x_w.Bits.length c150)] [(.int .i64 x_w.Top), (.slice a149 x_w.Bits.length c150)] (want_none rfl) rfl rfl rfl rfl rfl (one_cons rfl (one_cons rfl one_nil)) sizeOf_25 b154 rfl rfl ?_
    intro w4 k155 b156 z157
    have m158 := m141.ext k155 (fun k hk => by subst hk; exact Nat.le_trans k9.size p13)
    refine wl_nil ?_
    refine wq_then ?_
    refine wc_ret ?_
    have o159 := (own_ch o151 k155 (fun g hg hlt hk => by have h1 := (own_lt o151 g hg).1; have h2 := Nat.lt_of_lt_of_le p14 (Nat.le_refl _); omega))
    refine ret_1 (.inl rfl) (.agg #[(.int .i64 x_w.Top), (.slice a149 x_w.Bits.length c150)]) rfl (rv_c [(.int .i64 x_w.Top), (.slice a149 x_w.Bits.length c150)] rfl b156 isAgg_25 sizeOf_25) ?_
    refine ⟨m158.keep0, ?_⟩
    have hF160 : F_impl_copyWin x_w = x_w := by rfl
    rw [hF160]
    exact ⟨_, _, rfl, (own_lo o159 (Nat.le_trans k9.size k15.size)), s152, ⟨trivial, trivial⟩⟩
end Go.Proofs.Ytodlalolknldmaa.K
