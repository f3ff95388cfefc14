import Derived.Test.YtacefhmlgneegaaCore
import Derived.Test.YtacefhmlgneegaaProg
import Derived.Test.YtacefhmlgneegaaHeld
import Derived.Test.YtacefhmlgneegaaFun
import Derived.Test.YtacefhmlgneegaaFunZ
import Derived.Test.YtacefhmlgneegaaMark
import Derived.Test.YtacefhmlgneegaaCur
import Derived.Test.YtacefhmlgneegaaWt1
namespace Go.Proofs.Ytacefhmlgneegaa.K
open Go.RowKit
set_option linter.unusedVariables false
set_option linter.unusedSimpArgs false
set_option maxRecDepth 100000
set_option maxHeartbeats 4000000
def F_spec_l1In (x_x : Int) (x_least : Int) (x_most : Int) : (Bool) := bif (decide (x_least ≤ x_x)) then (decide (x_x ≤ x_most)) else (false)
theorem C_spec_l1In (w0 : World) (x_x : Int) (x_least : Int) (x_most : Int)  : Fn Try.prog 50 #[(vi x_x), (vi x_least), (vi x_most)] w0 (fun v w' => Keep w0 w' ∧ O_4 w' w0.heap.size v (F_spec_l1In x_x x_least x_most)) := by
 refine fn_of (n := 15) (l := [(vi x_x), (vi x_least), (vi x_most), U, U, U, U, U, U, U, U, U, U, U, U]) Try.func50 rfl rfl (by kernel_rfl) rfl ?_
 refine sr ?_
 refine ag (vb false) wN ?_
 refine nx ?_
 refine mv (vi x_x) wN ?_
 refine mv (vi x_least) wN ?_
 refine pu (vb (decide (x_least ≤ x_x))) wN ?_
 refine mv (vb (decide (x_least ≤ x_x))) wN ?_
 rcases bf (decide (x_least ≤ x_x)) with h1 | h1
 ·have q4 := of_decide_eq_false h1
  refine sk h1 ?_
  refine sk h1 ?_
  refine sk h1 ?_
  refine pf (vb false) wN h1 ?_
  refine ag (vb false) wN ?_
  refine wl_nil <| wq_then <| wc_ret ?_
  refine ret_1 (.inl rfl) (vb false) rfl rfl ?_
  refine ⟨Ch.refl _ _, ?_⟩
  have hF5 : F_spec_l1In x_x x_least x_most = false := by simp only [F_spec_l1In, h1, cond_true, cond_false]
  rw [hF5]
  exact rfl
 have q2 := of_decide_eq_true h1
 refine mv (vi x_x) (wS h1) ?_
 refine mv (vi x_most) (wS h1) ?_
 refine pu (vb (decide (x_x ≤ x_most))) (wS h1) ?_
 refine pk (vb (decide (x_x ≤ x_most))) wN h1 ?_
 refine ag (vb (decide (x_x ≤ x_most))) wN ?_
 refine wl_nil <| wq_then <| wc_ret ?_
 refine ret_1 (.inl rfl) (vb (decide (x_x ≤ x_most))) rfl rfl ?_
 refine ⟨Ch.refl _ _, ?_⟩
 have hF3 : F_spec_l1In x_x x_least x_most = decide (x_x ≤ x_most) := by simp only [F_spec_l1In, h1, cond_true, cond_false]
 rw [hF3]
 exact rfl
theorem spec_l1In_t {n a b : Int} (h : F_spec_l1In n a b = true) : a ≤ n ∧ n ≤ b := by
  unfold F_spec_l1In at h
  by_cases h1 : a ≤ n <;> simp [h1] at h
  exact ⟨h1, h⟩
theorem spec_l1In_f {n a b : Int} (h : F_spec_l1In n a b = false) : n < a ∨ b < n := by
  unfold F_spec_l1In at h
  by_cases h1 : a ≤ n <;> simp [h1] at h <;> omega

def O_28 (w : World) (lo : Nat) (v : Value) (x : (PTimer)) : Prop := v = .agg #[.bool x.On, .int .i64 x.Due, .int .i64 x.Wait, .int .i64 x.Tries]
def F_spec_TimerSet (x_now : Int) : (PTimer) := bif (F_spec_l1In x_now 0 1000000) then ({ On := true, Due := (x_now + 1), Wait := 1, Tries := 1 : PTimer }) else ({ On := false, Due := 0, Wait := 0, Tries := 0 : PTimer })
theorem C_spec_TimerSet (w0 : World) (x_now : Int)  : Fn Try.prog 22 #[(vi x_now)] w0 (fun v w' => Keep w0 w' ∧ O_28 w' w0.heap.size v (F_spec_TimerSet x_now)) := by
 refine fn_of (n := 10) (l := [(vi x_now), U, U, U, U, U, U, U, U, U]) Try.func22 rfl rfl (by kernel_rfl) rfl ?_
 refine sr ?_
 refine al [(vb false), (vi 0), (vi 0), (vi 0)] wN zero_28 ?_
 intro g1 w1 p2 p3 k4 b5
 have m6 := (Ch.base w0).extk k4
 refine wl_nil <| wq_then <| wc_seq <| sr ?_
 refine mv (vi x_now) wN ?_
 refine cl wN (C_spec_l1In w1 x_now 0 1000000) ?_
 rintro _ w2 ⟨k7, rfl⟩
 have m8 := m6.extk k7
 refine pu (vb (!(F_spec_l1In x_now 0 1000000))) wN ?_
 refine wl_nil <| wq_then ?_
 rcases bf (F_spec_l1In x_now 0 1000000) with h9 | h9
 ·have q17 := spec_l1In_f h9
  refine ct (congrArg not h9) ?_
  refine sr ?_
  refine pu (va [(vb false), (vi 0), (vi 0), (vi 0)]) wN ?_
  have b18 := (b5.kp k7)
  refine st (va [(vb false), (vi 0), (vi 0), (vi 0)]) [(vb false), (vi 0), (vi 0), (vi 0)] [(vb false), (vi 0), (vi 0), (vi 0)] wN sizeOf_28 b18 ?_
  intro w3 k19 b20 z21
  have m22 := m8.ext k19 (fun k hk => by subst hk; exact Nat.le_trans (Nat.le_refl w0.heap.size) p2)
  refine wl_nil <| wq_then <| wc_ret <| wq_then_ret ?_
  refine ret_1 (.inl rfl) (va [(vb false), (vi 0), (vi 0), (vi 0)]) rfl (rv_c [(vb false), (vi 0), (vi 0), (vi 0)] rfl b20 isAgg_28 sizeOf_28) ?_
  refine ⟨m22.keep0, ?_⟩
  have hF23 : F_spec_TimerSet x_now = { On := false, Due := 0, Wait := 0, Tries := 0 : PTimer } := by simp only [F_spec_TimerSet, h9, cond_true, cond_false]
  rw [hF23]
  exact rfl
 have q10 := spec_l1In_t h9
 refine cf (congrArg not h9) ?_
 refine wc_skip <| wq_then <| sr ?_
 refine mv (vi x_now) wN ?_
 refine ar (x_now + 1) wN ?_
 refine pu (va [(vb true), (vi (x_now + 1)), (vi 1), (vi 1)]) wN ?_
 have b11 := (b5.kp k7)
 refine st (va [(vb true), (vi (x_now + 1)), (vi 1), (vi 1)]) [(vb true), (vi (x_now + 1)), (vi 1), (vi 1)] [(vb true), (vi (x_now + 1)), (vi 1), (vi 1)] wN sizeOf_28 b11 ?_
 intro w3 k12 b13 z14
 have m15 := m8.ext k12 (fun k hk => by subst hk; exact Nat.le_trans (Nat.le_refl w0.heap.size) p2)
 refine wl_nil <| wq_then <| wc_ret ?_
 refine ret_1 (.inl rfl) (va [(vb true), (vi (x_now + 1)), (vi 1), (vi 1)]) rfl (rv_c [(vb true), (vi (x_now + 1)), (vi 1), (vi 1)] rfl b13 isAgg_28 sizeOf_28) ?_
 refine ⟨m15.keep0, ?_⟩
 have hF16 : F_spec_TimerSet x_now = { On := true, Due := (x_now + 1), Wait := 1, Tries := 1 : PTimer } := by simp only [F_spec_TimerSet, h9, cond_true, cond_false]
 rw [hF16]
 exact rfl

def F_spec_TimerOk (x_t : PTimer) : (Bool) := bif x_t.On then (bif (F_spec_l1In x_t.Due 0 1000008) then (bif (decide (x_t.Wait = 1)) then ((F_spec_l1In x_t.Tries 1 5)) else (bif (decide (x_t.Wait = 2)) then ((F_spec_l1In x_t.Tries 1 5)) else (bif (decide (x_t.Wait = 4)) then ((F_spec_l1In x_t.Tries 1 5)) else (bif (decide (x_t.Wait = 8)) then ((F_spec_l1In x_t.Tries 1 5)) else (false))))) else (false)) else (((x_t.On == false) && (decide (x_t.Due = 0) && (decide (x_t.Wait = 0) && decide (x_t.Tries = 0)))))
theorem C_spec_TimerOk (w0 : World) (v_x_t : Value) (x_t : PTimer) (r_x_t : R_28 w0 v_x_t x_t)  : Fn Try.prog 19 #[v_x_t] w0 (fun v w' => Keep w0 w' ∧ O_4 w' w0.heap.size v (F_spec_TimerOk x_t)) := by
 obtain rfl := r_x_t
 refine fn_of (n := 37) (l := [(va (L_28 x_t)), U, U, U, U, U, U, U, U, U, U, U, U, U, U, U, U, U, U, U, U, U, U, U, U, U, U, U, U, U, U, U, U, U, U, U, U]) Try.func19 rfl rfl (by kernel_rfl) rfl ?_
 refine sr ?_
 refine bx (L_28 x_t) wN ?_
 intro g1 w1 p2 p3 k4 b5
 have m6 := (Ch.base w0).extk k4
 refine ag (vb false) wN ?_
 refine wl_nil <| wq_then <| wc_seq <| sr ?_
 refine pu (vp g1 0) wN ?_
 refine ld (vb x_t.On) wN isAgg_4 b5 ?_
 refine pu (vb (!x_t.On)) wN ?_
 refine wl_nil <| wq_then ?_
 rcases bf x_t.On with h7 | h7
 ·refine ct (congrArg not h7) ?_
  refine sr ?_
  refine lN (L_28 x_t) wN isAgg_28 sizeOf_28 b5 ?_
  refine pu (va [(vb false), (vi 0), (vi 0), (vi 0)]) wN ?_
  refine wl_aggeq (((x_t.On == false) && (decide (x_t.Due = 0) && (decide (x_t.Wait = 0) && decide (x_t.Tries = 0))))) wN rfl rfl rfl rfl rfl guardt_28 (aggeq_28 x_t.On false x_t.Due 0 x_t.Wait 0 x_t.Tries 0 w1) ?_
  refine ag (vb ((x_t.On == false) && (decide (x_t.Due = 0) && (decide (x_t.Wait = 0) && decide (x_t.Tries = 0))))) wN ?_
  refine wl_nil <| wq_then <| wc_ret <| wq_then_ret ?_
  refine ret_1 (.inl rfl) (vb ((x_t.On == false) && (decide (x_t.Due = 0) && (decide (x_t.Wait = 0) && decide (x_t.Tries = 0))))) rfl rfl ?_
  refine ⟨m6.keep0, ?_⟩
  have hF42 : F_spec_TimerOk x_t = ((x_t.On == false) && (decide (x_t.Due = 0) && (decide (x_t.Wait = 0) && decide (x_t.Tries = 0)))) := by simp only [F_spec_TimerOk, h7, cond_true, cond_false]
  rw [hF42]
  exact rfl
 refine cf (congrArg not h7) ?_
 refine wc_skip <| wq_then <| sr ?_
 refine pu (vp g1 1) wN ?_
 refine ld (vi x_t.Due) wN isAgg_3 b5 ?_
 refine cl wN (C_spec_l1In w1 x_t.Due 0 1000008) ?_
 rintro _ w2 ⟨k9, rfl⟩
 have m10 := m6.extk k9
 refine mv (vb (F_spec_l1In x_t.Due 0 1000008)) wN ?_
 rcases bf (F_spec_l1In x_t.Due 0 1000008) with h11 | h11
 ·have q39 := spec_l1In_f h11
  refine sk h11 ?_
  refine sk h11 ?_
  refine sk h11 ?_
  refine sk h11 ?_
  refine su ?_
  refine su ?_
  refine su ?_
  refine sk h11 ?_
  refine sk h11 ?_
  refine su ?_
  refine su ?_
  refine su ?_
  refine sk h11 ?_
  refine sk h11 ?_
  refine su ?_
  refine su ?_
  refine su ?_
  refine sk h11 ?_
  refine pf (vb false) wN h11 ?_
  refine mv (vb false) wN ?_
  refine sk (Eq.refl false) ?_
  refine sk (Eq.refl false) ?_
  refine sk (Eq.refl false) ?_
  refine pf (vb false) wN (Eq.refl false) ?_
  refine ag (vb false) wN ?_
  refine wl_nil <| wq_then <| wc_ret ?_
  refine ret_1 (.inl rfl) (vb false) rfl rfl ?_
  refine ⟨m10.keep0, ?_⟩
  have hF40 : F_spec_TimerOk x_t = false := by simp only [F_spec_TimerOk, h7, h11, cond_true, cond_false]
  rw [hF40]
  exact rfl
 have q12 := spec_l1In_t h11
 refine pu (vp g1 2) (wS h11) ?_
 have b13 := (b5.kp k9)
 refine ld (vi x_t.Wait) (wS h11) isAgg_3 b13 ?_
 refine pu (vb (decide (x_t.Wait = 1))) (wS h11) ?_
 refine mv (vb (decide (x_t.Wait = 1))) (wS h11) ?_
 rcases bt (decide (x_t.Wait = 1)) with h14 | h14
 ·have q15 := of_decide_eq_true h14
  refine sk h14 ?_
  refine sk h14 ?_
  refine sk h14 ?_
  refine pk (vb true) (wS h11) h14 ?_
  refine mv (vb true) (wS h11) ?_
  refine sk (Eq.refl true) ?_
  refine sk (Eq.refl true) ?_
  refine sk (Eq.refl true) ?_
  refine pk (vb true) (wS h11) (Eq.refl true) ?_
  refine mv (vb true) (wS h11) ?_
  refine sk (Eq.refl true) ?_
  refine sk (Eq.refl true) ?_
  refine sk (Eq.refl true) ?_
  refine pk (vb true) (wS h11) (Eq.refl true) ?_
  refine pk (vb true) wN h11 ?_
  refine mv (vb true) wN ?_
  refine pu (vp g1 3) (wS (Eq.refl true)) ?_
  refine ld (vi x_t.Tries) (wS (Eq.refl true)) isAgg_3 b13 ?_
  refine cl (wS (Eq.refl true)) (C_spec_l1In w2 x_t.Tries 1 5) ?_
  rintro _ w3 ⟨k16, rfl⟩
  have m17 := m10.extk k16
  refine pk (vb (F_spec_l1In x_t.Tries 1 5)) wN (Eq.refl true) ?_
  refine ag (vb (F_spec_l1In x_t.Tries 1 5)) wN ?_
  refine wl_nil <| wq_then <| wc_ret ?_
  refine ret_1 (.inl rfl) (vb (F_spec_l1In x_t.Tries 1 5)) rfl rfl ?_
  refine ⟨m17.keep0, ?_⟩
  have hF18 : F_spec_TimerOk x_t = (F_spec_l1In x_t.Tries 1 5) := by simp only [F_spec_TimerOk, h7, h11, h14, cond_true, cond_false]
  rw [hF18]
  exact rfl
 have q19 := of_decide_eq_false h14
 refine pu (vp g1 2) (wS h14) ?_
 refine ld (vi x_t.Wait) (wS h14) isAgg_3 b13 ?_
 refine pu (vb (decide (x_t.Wait = 2))) (wS h14) ?_
 refine pf (vb (decide (x_t.Wait = 2))) (wS h11) h14 ?_
 refine mv (vb (decide (x_t.Wait = 2))) (wS h11) ?_
 rcases bt (decide (x_t.Wait = 2)) with h20 | h20
 ·have q21 := of_decide_eq_true h20
  refine sk h20 ?_
  refine sk h20 ?_
  refine sk h20 ?_
  refine pk (vb true) (wS h11) h20 ?_
  refine mv (vb true) (wS h11) ?_
  refine sk (Eq.refl true) ?_
  refine sk (Eq.refl true) ?_
  refine sk (Eq.refl true) ?_
  refine pk (vb true) (wS h11) (Eq.refl true) ?_
  refine pk (vb true) wN h11 ?_
  refine mv (vb true) wN ?_
  refine pu (vp g1 3) (wS (Eq.refl true)) ?_
  refine ld (vi x_t.Tries) (wS (Eq.refl true)) isAgg_3 b13 ?_
  refine cl (wS (Eq.refl true)) (C_spec_l1In w2 x_t.Tries 1 5) ?_
  rintro _ w3 ⟨k22, rfl⟩
  have m23 := m10.extk k22
  refine pk (vb (F_spec_l1In x_t.Tries 1 5)) wN (Eq.refl true) ?_
  refine ag (vb (F_spec_l1In x_t.Tries 1 5)) wN ?_
  refine wl_nil <| wq_then <| wc_ret ?_
  refine ret_1 (.inl rfl) (vb (F_spec_l1In x_t.Tries 1 5)) rfl rfl ?_
  refine ⟨m23.keep0, ?_⟩
  have hF24 : F_spec_TimerOk x_t = (F_spec_l1In x_t.Tries 1 5) := by simp only [F_spec_TimerOk, h7, h11, h14, h20, cond_true, cond_false]
  rw [hF24]
  exact rfl
 have q25 := of_decide_eq_false h20
 refine pu (vp g1 2) (wS h20) ?_
 refine ld (vi x_t.Wait) (wS h20) isAgg_3 b13 ?_
 refine pu (vb (decide (x_t.Wait = 4))) (wS h20) ?_
 refine pf (vb (decide (x_t.Wait = 4))) (wS h11) h20 ?_
 refine mv (vb (decide (x_t.Wait = 4))) (wS h11) ?_
 rcases bt (decide (x_t.Wait = 4)) with h26 | h26
 ·have q27 := of_decide_eq_true h26
  refine sk h26 ?_
  refine sk h26 ?_
  refine sk h26 ?_
  refine pk (vb true) (wS h11) h26 ?_
  refine pk (vb true) wN h11 ?_
  refine mv (vb true) wN ?_
  refine pu (vp g1 3) (wS (Eq.refl true)) ?_
  refine ld (vi x_t.Tries) (wS (Eq.refl true)) isAgg_3 b13 ?_
  refine cl (wS (Eq.refl true)) (C_spec_l1In w2 x_t.Tries 1 5) ?_
  rintro _ w3 ⟨k28, rfl⟩
  have m29 := m10.extk k28
  refine pk (vb (F_spec_l1In x_t.Tries 1 5)) wN (Eq.refl true) ?_
  refine ag (vb (F_spec_l1In x_t.Tries 1 5)) wN ?_
  refine wl_nil <| wq_then <| wc_ret ?_
  refine ret_1 (.inl rfl) (vb (F_spec_l1In x_t.Tries 1 5)) rfl rfl ?_
  refine ⟨m29.keep0, ?_⟩
  have hF30 : F_spec_TimerOk x_t = (F_spec_l1In x_t.Tries 1 5) := by simp only [F_spec_TimerOk, h7, h11, h14, h20, h26, cond_true, cond_false]
  rw [hF30]
  exact rfl
 have q31 := of_decide_eq_false h26
 refine pu (vp g1 2) (wS h26) ?_
 refine ld (vi x_t.Wait) (wS h26) isAgg_3 b13 ?_
 refine pu (vb (decide (x_t.Wait = 8))) (wS h26) ?_
 refine pf (vb (decide (x_t.Wait = 8))) (wS h11) h26 ?_
 refine pk (vb (decide (x_t.Wait = 8))) wN h11 ?_
 refine mv (vb (decide (x_t.Wait = 8))) wN ?_
 rcases bf (decide (x_t.Wait = 8)) with h32 | h32
 ·have q37 := of_decide_eq_false h32
  refine sk h32 ?_
  refine sk h32 ?_
  refine sk h32 ?_
  refine pf (vb false) wN h32 ?_
  refine ag (vb false) wN ?_
  refine wl_nil <| wq_then <| wc_ret ?_
  refine ret_1 (.inl rfl) (vb false) rfl rfl ?_
  refine ⟨m10.keep0, ?_⟩
  have hF38 : F_spec_TimerOk x_t = false := by simp only [F_spec_TimerOk, h7, h11, h14, h20, h26, h32, cond_true, cond_false]
  rw [hF38]
  exact rfl
 have q33 := of_decide_eq_true h32
 refine pu (vp g1 3) (wS h32) ?_
 refine ld (vi x_t.Tries) (wS h32) isAgg_3 b13 ?_
 refine cl (wS h32) (C_spec_l1In w2 x_t.Tries 1 5) ?_
 rintro _ w3 ⟨k34, rfl⟩
 have m35 := m10.extk k34
 refine pk (vb (F_spec_l1In x_t.Tries 1 5)) wN h32 ?_
 refine ag (vb (F_spec_l1In x_t.Tries 1 5)) wN ?_
 refine wl_nil <| wq_then <| wc_ret ?_
 refine ret_1 (.inl rfl) (vb (F_spec_l1In x_t.Tries 1 5)) rfl rfl ?_
 refine ⟨m35.keep0, ?_⟩
 have hF36 : F_spec_TimerOk x_t = (F_spec_l1In x_t.Tries 1 5) := by simp only [F_spec_TimerOk, h7, h11, h14, h20, h26, h32, cond_true, cond_false]
 rw [hF36]
 exact rfl
theorem spec_TimerOk_t {t : PTimer} (h : F_spec_TimerOk t = true) (h0 : t.On = true) : 0 ≤ t.Due ∧ t.Due ≤ 1000008 ∧ 1 ≤ t.Wait ∧ t.Wait ≤ 8 ∧ 1 ≤ t.Tries ∧ t.Tries ≤ 5 := by
  simp only [F_spec_TimerOk, F_spec_l1In, cond_eq_ite] at h
  grind

def F_spec_TimerFires (x_t : PTimer) (x_now : Int) : (Bool) := bif (F_spec_TimerOk x_t) then (bif x_t.On then (bif (F_spec_l1In x_now 0 1000000) then (decide (x_t.Due ≤ x_now)) else (false)) else (false)) else (false)
theorem C_spec_TimerFires (w0 : World) (v_x_t : Value) (x_t : PTimer) (r_x_t : R_28 w0 v_x_t x_t) (x_now : Int)  : Fn Try.prog 25 #[v_x_t, (vi x_now)] w0 (fun v w' => Keep w0 w' ∧ O_4 w' w0.heap.size v (F_spec_TimerFires x_t x_now)) := by
 obtain rfl := r_x_t
 refine fn_of (n := 21) (l := [(va (L_28 x_t)), (vi x_now), U, U, U, U, U, U, U, U, U, U, U, U, U, U, U, U, U, U, U]) Try.func25 rfl rfl (by kernel_rfl) rfl ?_
 refine sr ?_
 refine bx (L_28 x_t) wN ?_
 intro g1 w1 p2 p3 k4 b5
 have m6 := (Ch.base w0).extk k4
 refine ag (vb false) wN ?_
 refine nx ?_
 refine lN (L_28 x_t) wN isAgg_28 sizeOf_28 b5 ?_
 refine cl wN (C_spec_TimerOk w1 _ x_t (mR_28)) ?_
 rintro _ w2 ⟨k7, rfl⟩
 have m8 := m6.extk k7
 refine mv (vb (F_spec_TimerOk x_t)) wN ?_
 rcases bf (F_spec_TimerOk x_t) with h9 | h9
 ·refine sk h9 ?_
  refine sk h9 ?_
  refine pf (vb false) wN h9 ?_
  refine mv (vb false) wN ?_
  refine sk (Eq.refl false) ?_
  refine sk (Eq.refl false) ?_
  refine pf (vb false) wN (Eq.refl false) ?_
  refine mv (vb false) wN ?_
  refine sk (Eq.refl false) ?_
  refine sk (Eq.refl false) ?_
  refine sk (Eq.refl false) ?_
  refine sk (Eq.refl false) ?_
  refine pf (vb false) wN (Eq.refl false) ?_
  refine ag (vb false) wN ?_
  refine wl_nil <| wq_then <| wc_ret ?_
  refine ret_1 (.inl rfl) (vb false) rfl rfl ?_
  refine ⟨m8.keep0, ?_⟩
  have hF25 : F_spec_TimerFires x_t x_now = false := by simp only [F_spec_TimerFires, h9, cond_true, cond_false]
  rw [hF25]
  exact rfl
 refine pu (vp g1 0) (wS h9) ?_
 have b11 := (b5.kp k7)
 refine ld (vb x_t.On) (wS h9) isAgg_4 b11 ?_
 refine pk (vb x_t.On) wN h9 ?_
 refine mv (vb x_t.On) wN ?_
 rcases bf x_t.On with h12 | h12
 ·refine sk h12 ?_
  refine sk h12 ?_
  refine pf (vb false) wN h12 ?_
  refine mv (vb false) wN ?_
  refine sk (Eq.refl false) ?_
  refine sk (Eq.refl false) ?_
  refine sk (Eq.refl false) ?_
  refine sk (Eq.refl false) ?_
  refine pf (vb false) wN (Eq.refl false) ?_
  refine ag (vb false) wN ?_
  refine wl_nil <| wq_then <| wc_ret ?_
  refine ret_1 (.inl rfl) (vb false) rfl rfl ?_
  refine ⟨m8.keep0, ?_⟩
  have hF23 : F_spec_TimerFires x_t x_now = false := by simp only [F_spec_TimerFires, h9, h12, cond_true, cond_false]
  rw [hF23]
  exact rfl
 refine mv (vi x_now) (wS h12) ?_
 refine cl (wS h12) (C_spec_l1In w2 x_now 0 1000000) ?_
 rintro _ w3 ⟨k14, rfl⟩
 have m15 := m8.extk k14
 refine pk (vb (F_spec_l1In x_now 0 1000000)) wN h12 ?_
 refine mv (vb (F_spec_l1In x_now 0 1000000)) wN ?_
 rcases bf (F_spec_l1In x_now 0 1000000) with h16 | h16
 ·have q20 := spec_l1In_f h16
  refine sk h16 ?_
  refine sk h16 ?_
  refine sk h16 ?_
  refine sk h16 ?_
  refine pf (vb false) wN h16 ?_
  refine ag (vb false) wN ?_
  refine wl_nil <| wq_then <| wc_ret ?_
  refine ret_1 (.inl rfl) (vb false) rfl rfl ?_
  refine ⟨m15.keep0, ?_⟩
  have hF21 : F_spec_TimerFires x_t x_now = false := by simp only [F_spec_TimerFires, h9, h12, h16, cond_true, cond_false]
  rw [hF21]
  exact rfl
 have q17 := spec_l1In_t h16
 refine mv (vi x_now) (wS h16) ?_
 refine pu (vp g1 1) (wS h16) ?_
 have b18 := (b11.kp k14)
 refine ld (vi x_t.Due) (wS h16) isAgg_3 b18 ?_
 refine pu (vb (decide (x_t.Due ≤ x_now))) (wS h16) ?_
 refine pk (vb (decide (x_t.Due ≤ x_now))) wN h16 ?_
 refine ag (vb (decide (x_t.Due ≤ x_now))) wN ?_
 refine wl_nil <| wq_then <| wc_ret ?_
 refine ret_1 (.inl rfl) (vb (decide (x_t.Due ≤ x_now))) rfl rfl ?_
 refine ⟨m15.keep0, ?_⟩
 have hF19 : F_spec_TimerFires x_t x_now = decide (x_t.Due ≤ x_now) := by simp only [F_spec_TimerFires, h9, h12, h16, cond_true, cond_false]
 rw [hF19]
 exact rfl
theorem spec_TimerFires_t {t : PTimer} {now : Int} (h : F_spec_TimerFires t now = true) : 0 ≤ t.Due ∧ t.Due ≤ 1000008 ∧ 1 ≤ t.Wait ∧ t.Wait ≤ 8 ∧ 1 ≤ t.Tries ∧ t.Tries ≤ 5 ∧ 0 ≤ now ∧ now ≤ 1000000 := by
  have hk := @spec_TimerOk_t t
  simp only [F_spec_TimerFires, F_spec_l1In, cond_eq_ite] at h
  grind

def F_spec_TimerNext (x_t : PTimer) (x_now : Int) : (PTimer) × (Int) := bif (F_spec_TimerFires x_t x_now) then (bif (decide (x_t.Tries = 5)) then (({ On := false, Due := 0, Wait := 0, Tries := 0 : PTimer }, 2)) else (bif (decide (8 < (2 * x_t.Wait))) then (({ On := true, Due := (x_now + 8), Wait := 8, Tries := (x_t.Tries + 1) : PTimer }, 1)) else (({ On := true, Due := (x_now + (2 * x_t.Wait)), Wait := (2 * x_t.Wait), Tries := (x_t.Tries + 1) : PTimer }, 1)))) else ((x_t, 0))
theorem C_spec_TimerNext (w0 : World) (v_x_t : Value) (x_t : PTimer) (r_x_t : R_28 w0 v_x_t x_t) (x_now : Int)  : Fn Try.prog 32 #[v_x_t, (vi x_now)] w0 (fun v w' => Keep w0 w' ∧ O_28_3 w' w0.heap.size v (F_spec_TimerNext x_t x_now)) := by
 obtain rfl := r_x_t
 refine fn_of (n := 29) (l := [(va (L_28 x_t)), (vi x_now), U, U, U, U, U, U, U, U, U, U, U, U, U, U, U, U, U, U, U, U, U, U, U, U, U, U, U]) Try.func32 rfl rfl (by kernel_rfl) rfl ?_
 refine sr ?_
 refine bx (L_28 x_t) wN ?_
 intro g1 w1 p2 p3 k4 b5
 have m6 := (Ch.base w0).extk k4
 refine al [(vb false), (vi 0), (vi 0), (vi 0)] wN zero_28 ?_
 intro g7 w2 p8 p9 k10 b11
 have m12 := m6.extk k10
 refine ag (vi 0) wN ?_
 refine wl_nil <| wq_then <| wc_seq <| sr ?_
 have b13 := (b5.kp k10)
 refine lN (L_28 x_t) wN isAgg_28 sizeOf_28 b13 ?_
 refine mv (vi x_now) wN ?_
 refine cl wN (C_spec_TimerFires w2 _ x_t (mR_28) x_now) ?_
 rintro _ w3 ⟨k14, rfl⟩
 have m15 := m12.extk k14
 refine pu (vb (!(F_spec_TimerFires x_t x_now))) wN ?_
 refine wl_nil <| wq_then ?_
 rcases bf (F_spec_TimerFires x_t x_now) with h16 | h16
 ·refine ct (congrArg not h16) ?_
  refine sr ?_
  have b44 := (b13.kp k14)
  refine lN (L_28 x_t) wN isAgg_28 sizeOf_28 b44 ?_
  have b45 := (b11.kp k14)
  refine st (va (L_28 x_t)) (L_28 x_t) (L_28 x_t) wN sizeOf_28 b45 ?_
  intro w4 k46 b47 z48
  have m49 := m15.ext k46 (fun k hk => by subst hk; exact Nat.le_trans k4.size p8)
  refine ag (vi 0) wN ?_
  refine wl_nil <| wq_then <| wc_ret <| wq_then_ret ?_
  refine ret_2 (.inl rfl) (va (L_28 x_t)) (vi 0) rfl (rv_c [(vb x_t.On), (vi x_t.Due), (vi x_t.Wait), (vi x_t.Tries)] rfl b47 isAgg_28 sizeOf_28) rfl ?_
  refine ⟨m49.keep0, ?_⟩
  have hF50 : F_spec_TimerNext x_t x_now = (x_t, 0) := by simp only [F_spec_TimerNext, h16, cond_true, cond_false]
  rw [hF50]
  exact rfl
 have q17 := spec_TimerFires_t h16
 refine cf (congrArg not h16) ?_
 refine wc_skip <| wq_then <| wc_seq <| sr ?_
 refine pu (vp g1 3) wN ?_
 have b18 := (b13.kp k14)
 refine ld (vi x_t.Tries) wN isAgg_3 b18 ?_
 refine pu (vb (decide (x_t.Tries = 5))) wN ?_
 refine wl_nil <| wq_then ?_
 rcases bt (decide (x_t.Tries = 5)) with h19 | h19
 ·have q20 := of_decide_eq_true h19
  refine ct h19 ?_
  refine sr ?_
  refine pu (va [(vb false), (vi 0), (vi 0), (vi 0)]) wN ?_
  have b21 := (b11.kp k14)
  refine st (va [(vb false), (vi 0), (vi 0), (vi 0)]) [(vb false), (vi 0), (vi 0), (vi 0)] [(vb false), (vi 0), (vi 0), (vi 0)] wN sizeOf_28 b21 ?_
  intro w4 k22 b23 z24
  have m25 := m15.ext k22 (fun k hk => by subst hk; exact Nat.le_trans k4.size p8)
  refine ag (vi 2) wN ?_
  refine wl_nil <| wq_then <| wc_ret <| wq_then_ret ?_
  refine ret_2 (.inl rfl) (va [(vb false), (vi 0), (vi 0), (vi 0)]) (vi 2) rfl (rv_c [(vb false), (vi 0), (vi 0), (vi 0)] rfl b23 isAgg_28 sizeOf_28) rfl ?_
  refine ⟨m25.keep0, ?_⟩
  have hF26 : F_spec_TimerNext x_t x_now = ({ On := false, Due := 0, Wait := 0, Tries := 0 : PTimer }, 2) := by simp only [F_spec_TimerNext, h16, h19, cond_true, cond_false]
  rw [hF26]
  exact rfl
 have q27 := of_decide_eq_false h19
 refine cf h19 ?_
 refine wc_skip <| wq_then <| sr ?_
 refine pu (vp g1 2) wN ?_
 refine ld (vi x_t.Wait) wN isAgg_3 b18 ?_
 refine ar (2 * x_t.Wait) wN ?_
 refine ag (vi (2 * x_t.Wait)) wN ?_
 refine wl_nil <| wq_then <| wc_seq <| sr ?_
 refine mv (vi (2 * x_t.Wait)) wN ?_
 refine pu (vb (decide (8 < (2 * x_t.Wait)))) wN ?_
 refine wl_nil <| wq_then ?_
 rcases bt (decide (8 < (2 * x_t.Wait))) with h28 | h28
 ·have q29 := of_decide_eq_true h28
  refine ct h28 ?_
  refine wc_region ?_
  refine ag (vi 8) wN ?_
  refine nx ?_
  refine mv (vi x_now) wN ?_
  refine mv (vi 8) wN ?_
  refine ar (x_now + 8) wN ?_
  refine mv (vi 8) wN ?_
  refine pu (vp g1 3) wN ?_
  refine ld (vi x_t.Tries) wN isAgg_3 b18 ?_
  refine ar (x_t.Tries + 1) wN ?_
  refine pu (va [(vb true), (vi (x_now + 8)), (vi 8), (vi (x_t.Tries + 1))]) wN ?_
  have b30 := (b11.kp k14)
  refine st (va [(vb true), (vi (x_now + 8)), (vi 8), (vi (x_t.Tries + 1))]) [(vb true), (vi (x_now + 8)), (vi 8), (vi (x_t.Tries + 1))] [(vb true), (vi (x_now + 8)), (vi 8), (vi (x_t.Tries + 1))] wN sizeOf_28 b30 ?_
  intro w4 k31 b32 z33
  have m34 := m15.ext k31 (fun k hk => by subst hk; exact Nat.le_trans k4.size p8)
  refine ag (vi 1) wN ?_
  refine wl_nil <| wq_then <| wc_ret ?_
  refine ret_2 (.inl rfl) (va [(vb true), (vi (x_now + 8)), (vi 8), (vi (x_t.Tries + 1))]) (vi 1) rfl (rv_c [(vb true), (vi (x_now + 8)), (vi 8), (vi (x_t.Tries + 1))] rfl b32 isAgg_28 sizeOf_28) rfl ?_
  refine ⟨m34.keep0, ?_⟩
  have hF35 : F_spec_TimerNext x_t x_now = ({ On := true, Due := (x_now + 8), Wait := 8, Tries := (x_t.Tries + 1) : PTimer }, 1) := by simp only [F_spec_TimerNext, h16, h19, h28, cond_true, cond_false]
  rw [hF35]
  exact rfl
 have q36 := of_decide_eq_false h28
 refine cf h28 ?_
 refine wc_skip <| wq_then <| sr ?_
 refine mv (vi x_now) wN ?_
 refine mv (vi (2 * x_t.Wait)) wN ?_
 refine ar (x_now + (2 * x_t.Wait)) wN ?_
 refine mv (vi (2 * x_t.Wait)) wN ?_
 refine pu (vp g1 3) wN ?_
 refine ld (vi x_t.Tries) wN isAgg_3 b18 ?_
 refine ar (x_t.Tries + 1) wN ?_
 refine pu (va [(vb true), (vi (x_now + (2 * x_t.Wait))), (vi (2 * x_t.Wait)), (vi (x_t.Tries + 1))]) wN ?_
 have b37 := (b11.kp k14)
 refine st (va [(vb true), (vi (x_now + (2 * x_t.Wait))), (vi (2 * x_t.Wait)), (vi (x_t.Tries + 1))]) [(vb true), (vi (x_now + (2 * x_t.Wait))), (vi (2 * x_t.Wait)), (vi (x_t.Tries + 1))] [(vb true), (vi (x_now + (2 * x_t.Wait))), (vi (2 * x_t.Wait)), (vi (x_t.Tries + 1))] wN sizeOf_28 b37 ?_
 intro w4 k38 b39 z40
 have m41 := m15.ext k38 (fun k hk => by subst hk; exact Nat.le_trans k4.size p8)
 refine ag (vi 1) wN ?_
 refine wl_nil <| wq_then <| wc_ret ?_
 refine ret_2 (.inl rfl) (va [(vb true), (vi (x_now + (2 * x_t.Wait))), (vi (2 * x_t.Wait)), (vi (x_t.Tries + 1))]) (vi 1) rfl (rv_c [(vb true), (vi (x_now + (2 * x_t.Wait))), (vi (2 * x_t.Wait)), (vi (x_t.Tries + 1))] rfl b39 isAgg_28 sizeOf_28) rfl ?_
 refine ⟨m41.keep0, ?_⟩
 have hF42 : F_spec_TimerNext x_t x_now = ({ On := true, Due := (x_now + (2 * x_t.Wait)), Wait := (2 * x_t.Wait), Tries := (x_t.Tries + 1) : PTimer }, 1) := by simp only [F_spec_TimerNext, h16, h19, h28, cond_true, cond_false]
 rw [hF42]
 exact rfl

theorem C_spec_l13Draw (w0 : World) (g : Nat) (ca : Option Addr) (cc : Nat) (cb : List UInt8) (r_c : CurX w0 g 81 ca cc cb) (x_now : Int)  : Fn Try.prog 66 #[(vp g 0), (vi x_now)] w0 (fun v w' => ∃ x : (PTimer), Ch (fun k => k = g) w0 w' ∧ CurX w' g 81 ca cc cb ∧ O_28 w' w0.heap.size v x ∧ (True)) := by
 obtain ⟨ci, chh, hcb, hcr, hcl, hci, hcn⟩ := r_c
 have hgl := Blk.lt hcb
 refine fn_of (n := 23) (l := [(vp g 0), (vi x_now), U, U, U, U, U, U, U, U, U, U, U, U, U, U, U, U, U, U, U, U, U]) Try.func66 rfl rfl (by kernel_rfl) rfl ?_
 refine sr ?_
 refine al [(vb false), (vi 0), (vi 0), (vi 0)] wN zero_28 ?_
 intro g1 w1 p2 p3 k4 b5
 have m6 := ChG.extk (Ch.refl (fun k => k = g) w0) k4
 refine nx ?_
 refine mv (vi x_now) wN ?_
 refine cl wN (C_spec_TimerSet w1 x_now) ?_
 rintro _ w2 ⟨k7, rfl⟩
 have m8 := ChG.extk m6 k7
 refine al [(vb false), (vi 0), (vi 0), (vi 0)] wN zero_28 ?_
 intro g9 w3 p10 p11 k12 b13
 have m14 := ChG.extk m8 k12
 refine st (va (L_28 (F_spec_TimerSet x_now))) (L_28 (F_spec_TimerSet x_now)) (L_28 (F_spec_TimerSet x_now)) wN sizeOf_28 b13 ?_
 intro w4 k15 b16 z17
 have m18 := ChG.ext m14 k15 (fun k hk => .inr (by subst hk; exact Nat.le_trans (Nat.le_trans k4.size k7.size) p10))
 refine wl_nil <| wq_then <| wc_seq <| sr ?_
 refine mv (vp g 0) wN ?_
 have b19 := ((((hcb.kp k4).kp k7).kp k12).ch k15 (Nat.ne_of_lt (Nat.lt_of_lt_of_le hgl (Nat.le_trans (Nat.le_trans k4.size k7.size) p10))))
 refine cl wN (C_spec_l1Below w4 g ca cc cb ⟨_, _, b19, (Rd.chP hcr m18 hcn), hcl, (by omega), hcn⟩ 6) ?_
 rintro _ w5 ⟨x21, k20, ⟨i23, h24, b25, r26, l27, p28, n29⟩, rfl, q22⟩
 have m30 := ChG.ext m18 k20 (fun k hk => .inl hk)
 refine ag (vi (x21)) wN ?_
 refine wl_nil <| wq_then <| wc_block ?_
 have b32 := (b16.ch k20 (Ne.symm (Nat.ne_of_lt (Nat.lt_of_lt_of_le hgl (Nat.le_trans (Nat.le_trans k4.size k7.size) p10)))))
 refine wc_loopQ (fun e => [e 0, e 1, e 2, e 3, (vp g1 0), (vp g9 0), (vi (x21)), e 7, e 8, e 9, e 10, e 11, e 12, e 13, e 14, e 15, e 16, e 17, e 18, e 19, e 20, e 21, U]) rfl ⟨rfl, rfl, rfl, rfl, rfl, rfl, rfl, rfl, rfl, rfl, rfl, rfl, rfl, rfl, rfl, rfl, rfl, rfl, rfl, rfl, rfl, rfl, rfl, trivial⟩ (fun e' w' => ∃ (t : PTimer) (q : Int) (u31 : Nat → Value), e' = lst [(u31 0), (u31 1), (u31 2), (u31 3), (vp g1 0), (vp g9 0), (vi q), (u31 4), (u31 5), (u31 6), (u31 7), (u31 8), (u31 9), (u31 10), (u31 11), (u31 12), (u31 13), (u31 14), (u31 15), (u31 16), (u31 17), (u31 18), U] ∧ Ch (fun k => k = g) w0 w' ∧ Ch (fun k => k = g ∨ w2.heap.size ≤ k) w5 w' ∧ q ≤ 6 ∧ 0 ≤ q ∧ Blk w' g9 28 [(vb t.On), (vi t.Due), (vi t.Wait), (vi t.Tries)] ∧ CurX w' g 81 ca cc cb) (fun e' _ => ((intOf (e' 6))).toNat) ?_ ?_
 ·exact fun u => ⟨(F_spec_TimerSet x_now), (x21), (unL [u 0, u 1, u 2, u 3, u 7, u 8, u 9, u 10, u 11, u 12, u 13, u 14, u 15, u 16, u 17, u 18, u 19, u 20, u 21]), rfl, m30, (Ch.refl (fun k => k = g ∨ w2.heap.size ≤ k) w5), (by omega), (by omega), b32, ⟨_, _, b25, (Rd.chP hcr m30 hcn), hcl, (by omega), hcn⟩⟩
 ·rintro _ w6 ⟨t, q, u31, rfl, m33, k34, i35, i36, hbx5, ⟨i37, h38, b39, r40, l41, p42, n43⟩⟩
  refine wc_seq <| sr ?_
  refine mv (vi q) wN ?_
  refine pu (vb (decide (0 < q))) wN ?_
  refine wl_nil <| wq_then ?_
  rcases bf (decide (0 < q)) with h44 | h44
  ·have q54 := of_decide_eq_false h44
   refine cf h44 ?_
   refine wc_exit <| wq_then_exit <| wq_then_exit <| wq_blk_exit <| wq_then <| sr ?_
   refine lN (L_28 t) wN isAgg_28 sizeOf_28 hbx5 ?_
   have b55 := (((((b5.kp k7).kp k12).ch k15 (Nat.ne_of_lt (Nat.lt_of_lt_of_le p3 (Nat.le_trans k7.size p10)))).ch k20 (Ne.symm (Nat.ne_of_lt (Nat.lt_of_lt_of_le hgl (Nat.le_trans (Nat.le_refl w0.heap.size) p2))))).ch k34 (fun h => Or.elim h (Ne.symm (Nat.ne_of_lt (Nat.lt_of_lt_of_le hgl (Nat.le_trans (Nat.le_refl w0.heap.size) p2)))) (Nat.not_le.2 (Nat.lt_of_lt_of_le p3 k7.size))))
   refine st (va (L_28 t)) (L_28 t) (L_28 t) wN sizeOf_28 b55 ?_
   intro w7 k56 b57 z58
   have m59 := ChG.ext m33 k56 (fun k hk => .inr (by subst hk; exact Nat.le_trans (Nat.le_refl w0.heap.size) p2))
   refine wl_nil <| wq_then <| wc_ret ?_
   refine ret_1 (.inl rfl) (va (L_28 t)) rfl (rv_c [(vb t.On), (vi t.Due), (vi t.Wait), (vi t.Tries)] rfl b57 isAgg_28 sizeOf_28) ?_
   have b60 := (b39.ch k56 (Nat.ne_of_lt (Nat.lt_of_lt_of_le hgl (Nat.le_trans (Nat.le_refl w0.heap.size) p2))))
   exact ⟨t, m59, ⟨_, _, b60, (Rd.chP hcr m59 hcn), hcl, (by omega), hcn⟩, rfl, trivial⟩
  have q45 := of_decide_eq_true h44
  refine ct h44 ?_
  refine wc_skip <| wq_then <| wc_seq <| wc_block <| wc_region ?_
  refine lN (L_28 t) wN isAgg_28 sizeOf_28 hbx5 ?_
  refine pu (vp g9 1) wN ?_
  refine ld (vi t.Due) wN isAgg_3 hbx5 ?_
  refine cl wN (C_spec_TimerNext w6 _ t (mR_28) t.Due) ?_
  rintro _ w7 ⟨k46, rfl⟩
  have m47 := ChG.extk m33 k46
  refine mv (.tuple #[(va (L_28 ((F_spec_TimerNext t t.Due).1))), (vi ((F_spec_TimerNext t t.Due).2))]) wN ?_
  refine pu (va (L_28 ((F_spec_TimerNext t t.Due).1))) wN ?_
  refine pu (vi ((F_spec_TimerNext t t.Due).2)) wN ?_
  have b48 := (hbx5.kp k46)
  refine st (va (L_28 ((F_spec_TimerNext t t.Due).1))) (L_28 ((F_spec_TimerNext t t.Due).1)) (L_28 ((F_spec_TimerNext t t.Due).1)) wN sizeOf_28 b48 ?_
  intro w8 k49 b50 z51
  have m52 := ChG.ext m47 k49 (fun k hk => .inr (by subst hk; exact Nat.le_trans (Nat.le_trans k4.size k7.size) p10))
  refine wl_nil <| wq_blk_normal <| wq_then <| wc_region ?_
  refine mv (vi q) wN ?_
  refine ar (q - 1) wN ?_
  refine ag (vi (q - 1)) wN ?_
  refine wl_nil ?_
  have b53 := ((b39.kp k46).ch k49 (Nat.ne_of_lt (Nat.lt_of_lt_of_le hgl (Nat.le_trans (Nat.le_trans k4.size k7.size) p10))))
  refine wq_loopQ (w0 := w6) (fun e => [e 0, e 1, e 2, e 3, (vp g1 0), (vp g9 0), (vi (q - 1)), e 7, e 8, e 9, e 10, e 11, e 12, e 13, e 14, e 15, e 16, e 17, e 18, e 19, e 20, e 21, U]) rfl ?_ ?_ ?_
  · exact ⟨rfl, rfl, rfl, rfl, rfl, rfl, rfl, rfl, rfl, rfl, rfl, rfl, rfl, rfl, rfl, rfl, rfl, rfl, rfl, rfl, rfl, rfl, rfl, trivial⟩
  · exact fun u => ⟨((F_spec_TimerNext t t.Due).1), (q - 1), (unL [u 0, u 1, u 2, u 3, u 7, u 8, u 9, u 10, u 11, u 12, u 13, u 14, u 15, u 16, u 17, u 18, u 19, u 20, u 21]), rfl, m52, (ChO.ext (ChO.extk (ChO.ext (Ch.refl (fun k => k = g ∨ w2.heap.size ≤ k) w5) k34 (fun k hk => hk.elim .inl (fun hk => .inr (Nat.le_trans (Nat.le_refl w2.heap.size) hk)))) k46) k49 (fun k hk => .inr (by subst hk; exact Nat.le_trans (Nat.le_refl w2.heap.size) p10))), (by omega), (by omega), b50, ⟨_, _, b53, (Rd.chP hcr m52 hcn), hcl, (by omega), hcn⟩⟩
  · show ((q - 1)).toNat < (q).toNat; omega

theorem sizeOf_4 : ∀ w, (sizeOf 4).run Try.prog w = .ok 1 w := fun w => by kernel_rfl
def R_61 (w : World) (v : Value) (x : (List Int)) : Prop := ∃ (a1 : Option Addr) (c1 : Nat), v = .slice a1 x.length c1 ∧ Rd w 1 (.slice a1 x.length c1) x.length (x.map iV) ∧ x.length ≤ 1073741824
theorem C_spec_l13Any (w0 : World) (g : Nat) (ca : Option Addr) (cc : Nat) (cb : List UInt8) (r_c : CurX w0 g 81 ca cc cb)  : Fn Try.prog 63 #[(vp g 0)] w0 (fun v w' => ∃ x : (PTimer), Ch (fun k => k = g) w0 w' ∧ CurX w' g 81 ca cc cb ∧ O_28 w' w0.heap.size v x ∧ (True)) := by
 obtain ⟨ci, chh, hcb, hcr, hcl, hci, hcn⟩ := r_c
 have hgl := Blk.lt hcb
 refine fn_of (n := 36) (l := [(vp g 0), U, U, U, U, U, U, U, U, U, U, U, U, U, U, U, U, U, U, U, U, U, U, U, U, U, U, U, U, U, U, U, U, U, U, U]) Try.func63 rfl rfl (by kernel_rfl) rfl ?_
 refine sr ?_
 refine al [(vb false), (vi 0), (vi 0), (vi 0)] wN zero_28 ?_
 intro g1 w1 p2 p3 k4 b5
 have m6 := ChG.extk (Ch.refl (fun k => k = g) w0) k4
 refine nx ?_
 refine mv (vp g 0) wN ?_
 refine mv (vp g 0) wN ?_
 refine wl_lit [(vi 0), (vi 5), (vi 999990), (vi 1000000)] wN rfl rfl slTy_61 (m := 4) rfl (by simp only [maxLen]; omega) (fun w => by kernel_rfl) ?_
 intro u7 w2 k8 o9
 obtain ⟨a10, c11, rfl⟩ := own_form o9
 have m12 := ChG.extk m6 k8
 have o14 : w2.ownsRow w1.heap.size 3 1 (.slice a10 (([0, 5, 999990, 1000000] : List Int) : List Int).length c11) (([0, 5, 999990, 1000000] : List Int) : List Int).length ((([0, 5, 999990, 1000000] : List Int) : List Int).map iV) := o9
 have b15 := ((hcb.kp k4).kp k8)
 refine cl wN (C_spec_l1Int w2 g ca cc cb ⟨_, _, b15, (Rd.chP hcr m12 hcn), hcl, (by omega), hcn⟩ _ ([0, 5, 999990, 1000000] : List Int) ⟨_, _, rfl, (Rd.of_own o14), (by simp), (fun _ z hz => by have h1 := (own_lt o14 z.block (by rw [hz]; rfl)).1; have h2 := Nat.lt_of_lt_of_le hgl k4.size; omega)⟩ (by simp)) ?_
 rintro _ w3 ⟨x17, k16, ⟨i19, h20, b21, r22, l23, p24, n25⟩, rfl, q18⟩
 have m26 := ChG.ext m12 k16 (fun k hk => .inl hk)
 have q18m : x17 = 0 ∨ x17 = 5 ∨ x17 = 999990 ∨ x17 = 1000000 := by simpa only [List.mem_cons, List.not_mem_nil, or_false] using q18
 refine cl wN (C_spec_l13Draw w3 g ca cc cb ⟨_, _, b21, (Rd.chP hcr m26 hcn), hcl, (by omega), hcn⟩ (x17)) ?_
 rintro _ w4 ⟨x28, k27, ⟨i30, h31, b32, r33, l34, p35, n36⟩, rfl, q29⟩
 have m37 := ChG.ext m26 k27 (fun k hk => .inl hk)
 refine al [(vb false), (vi 0), (vi 0), (vi 0)] wN zero_28 ?_
 intro g38 w5 p39 p40 k41 b42
 have m43 := ChG.extk m37 k41
 refine st (va (L_28 (x28))) (L_28 (x28)) (L_28 (x28)) wN sizeOf_28 b42 ?_
 intro w6 k44 b45 z46
 have m47 := ChG.ext m43 k44 (fun k hk => .inr (by subst hk; exact Nat.le_trans (t4 k4.size k8.size k16.size k27.size) p39))
 refine wl_nil <| wq_then <| wc_seq <| sr ?_
 refine mv (vp g 0) wN ?_
 have b48 := ((b32.kp k41).ch k44 (Nat.ne_of_lt (Nat.lt_of_lt_of_le hgl (Nat.le_trans (t4 k4.size k8.size k16.size k27.size) p39))))
 refine cl wN (C_spec_l1Below w6 g ca cc cb ⟨_, _, b48, (Rd.chP hcr m47 hcn), hcl, (by omega), hcn⟩ 10) ?_
 rintro _ w7 ⟨x50, k49, ⟨i52, h53, b54, r55, l56, p57, n58⟩, rfl, q51⟩
 have m59 := ChG.ext m47 k49 (fun k hk => .inl hk)
 refine wl_nil <| wq_then <| wc_block <| sr ?_
 refine pu (vb (decide ((x50) = 0))) wN ?_
 refine ag (vb (decide ((x50) = 0))) wN ?_
 refine wl_nil <| wq_then ?_
 rcases bt (decide ((x50) = 0)) with h60 | h60
 ·have q61 := of_decide_eq_true h60
  refine ct h60 ?_
  refine wc_region ?_
  refine mv (vp g 0) wN ?_
  refine wl_lit [(vi (-1)), (vi 1000008), (vi 1000009)] wN rfl rfl slTy_61 (m := 3) rfl (by simp only [maxLen]; omega) (fun w => by kernel_rfl) ?_
  intro u62 w8 k63 o64
  obtain ⟨a65, c66, rfl⟩ := own_form o64
  have m67 := ChG.extk m59 k63
  have o69 : w8.ownsRow w7.heap.size 3 1 (.slice a65 (([(-1), 1000008, 1000009] : List Int) : List Int).length c66) (([(-1), 1000008, 1000009] : List Int) : List Int).length ((([(-1), 1000008, 1000009] : List Int) : List Int).map iV) := o64
  have b70 := (b54.kp k63)
  refine cl wN (C_spec_l1Int w8 g ca cc cb ⟨_, _, b70, (Rd.chP hcr m67 hcn), hcl, (by omega), hcn⟩ _ ([(-1), 1000008, 1000009] : List Int) ⟨_, _, rfl, (Rd.of_own o69), (by simp), (fun _ z hz => by have h1 := (own_lt o69 z.block (by rw [hz]; rfl)).1; have h2 := Nat.lt_of_lt_of_le hgl (t7 k4.size k8.size k16.size k27.size k41.size k44.size k49.size); omega)⟩ (by simp)) ?_
  rintro _ w9 ⟨x72, k71, ⟨i74, h75, b76, r77, l78, p79, n80⟩, rfl, q73⟩
  have m81 := ChG.ext m67 k71 (fun k hk => .inl hk)
  have q73m : x72 = (-1) ∨ x72 = 1000008 ∨ x72 = 1000009 := by simpa only [List.mem_cons, List.not_mem_nil, or_false] using q73
  refine pu (vp g38 1) wN ?_
  have b82 := (((b45.ch k49 (Ne.symm (Nat.ne_of_lt (Nat.lt_of_lt_of_le hgl (Nat.le_trans (t4 k4.size k8.size k16.size k27.size) p39))))).kp k63).ch k71 (Ne.symm (Nat.ne_of_lt (Nat.lt_of_lt_of_le hgl (Nat.le_trans (t4 k4.size k8.size k16.size k27.size) p39)))))
  refine st (vi (x72)) [(vi (x72))] [(vb ((x28).On)), (vi (x72)), (vi ((x28).Wait)), (vi ((x28).Tries))] wN sizeOf_3 b82 ?_
  intro w10 k83 b84 z85
  have m86 := ChG.ext m81 k83 (fun k hk => .inr (by subst hk; exact Nat.le_trans (t4 k4.size k8.size k16.size k27.size) p39))
  refine wl_nil <| wq_blk_normal <| wq_then <| sr ?_
  refine lN [(vb ((x28).On)), (vi (x72)), (vi ((x28).Wait)), (vi ((x28).Tries))] wN isAgg_28 sizeOf_28 b84 ?_
  have b87 := (((((((((b5.kp k8).ch k16 (Ne.symm (Nat.ne_of_lt (Nat.lt_of_lt_of_le hgl (Nat.le_trans (Nat.le_refl w0.heap.size) p2))))).ch k27 (Ne.symm (Nat.ne_of_lt (Nat.lt_of_lt_of_le hgl (Nat.le_trans (Nat.le_refl w0.heap.size) p2))))).kp k41).ch k44 (Nat.ne_of_lt (Nat.lt_of_lt_of_le p3 (Nat.le_trans (t3 k8.size k16.size k27.size) p39)))).ch k49 (Ne.symm (Nat.ne_of_lt (Nat.lt_of_lt_of_le hgl (Nat.le_trans (Nat.le_refl w0.heap.size) p2))))).kp k63).ch k71 (Ne.symm (Nat.ne_of_lt (Nat.lt_of_lt_of_le hgl (Nat.le_trans (Nat.le_refl w0.heap.size) p2))))).ch k83 (Nat.ne_of_lt (Nat.lt_of_lt_of_le p3 (Nat.le_trans (t3 k8.size k16.size k27.size) p39))))
  refine st (va [(vb ((x28).On)), (vi (x72)), (vi ((x28).Wait)), (vi ((x28).Tries))]) [(vb ((x28).On)), (vi (x72)), (vi ((x28).Wait)), (vi ((x28).Tries))] [(vb ((x28).On)), (vi (x72)), (vi ((x28).Wait)), (vi ((x28).Tries))] wN sizeOf_28 b87 ?_
  intro w11 k88 b89 z90
  have m91 := ChG.ext m86 k88 (fun k hk => .inr (by subst hk; exact Nat.le_trans (Nat.le_refl w0.heap.size) p2))
  refine wl_nil <| wq_then <| wc_ret ?_
  refine ret_1 (.inl rfl) (va [(vb ((x28).On)), (vi (x72)), (vi ((x28).Wait)), (vi ((x28).Tries))]) rfl (rv_c [(vb ((x28).On)), (vi (x72)), (vi ((x28).Wait)), (vi ((x28).Tries))] rfl b89 isAgg_28 sizeOf_28) ?_
  have b92 := ((b76.ch k83 (Nat.ne_of_lt (Nat.lt_of_lt_of_le hgl (Nat.le_trans (t4 k4.size k8.size k16.size k27.size) p39)))).ch k88 (Nat.ne_of_lt (Nat.lt_of_lt_of_le hgl (Nat.le_trans (Nat.le_refl w0.heap.size) p2))))
  exact ⟨{ On := (x28).On, Due := (x72), Wait := (x28).Wait, Tries := (x28).Tries : PTimer }, m91, ⟨_, _, b92, (Rd.chP hcr m91 hcn), hcl, (by omega), hcn⟩, rfl, trivial⟩
 have q93 := of_decide_eq_false h60
 refine cf h60 ?_
 refine sr ?_
 refine pu (vb (decide ((x50) = 1))) wN ?_
 refine ag (vb (decide ((x50) = 1))) wN ?_
 refine wl_nil <| wq_then ?_
 rcases bt (decide ((x50) = 1)) with h94 | h94
 ·have q95 := of_decide_eq_true h94
  refine ct h94 ?_
  refine wc_region ?_
  refine mv (vp g 0) wN ?_
  refine wl_lit [(vi 0), (vi 1), (vi 3), (vi 8), (vi 16)] wN rfl rfl slTy_61 (m := 5) rfl (by simp only [maxLen]; omega) (fun w => by kernel_rfl) ?_
  intro u96 w8 k97 o98
  obtain ⟨a99, c100, rfl⟩ := own_form o98
  have m101 := ChG.extk m59 k97
  have o103 : w8.ownsRow w7.heap.size 3 1 (.slice a99 (([0, 1, 3, 8, 16] : List Int) : List Int).length c100) (([0, 1, 3, 8, 16] : List Int) : List Int).length ((([0, 1, 3, 8, 16] : List Int) : List Int).map iV) := o98
  have b104 := (b54.kp k97)
  refine cl wN (C_spec_l1Int w8 g ca cc cb ⟨_, _, b104, (Rd.chP hcr m101 hcn), hcl, (by omega), hcn⟩ _ ([0, 1, 3, 8, 16] : List Int) ⟨_, _, rfl, (Rd.of_own o103), (by simp), (fun _ z hz => by have h1 := (own_lt o103 z.block (by rw [hz]; rfl)).1; have h2 := Nat.lt_of_lt_of_le hgl (t7 k4.size k8.size k16.size k27.size k41.size k44.size k49.size); omega)⟩ (by simp)) ?_
  rintro _ w9 ⟨x106, k105, ⟨i108, h109, b110, r111, l112, p113, n114⟩, rfl, q107⟩
  have m115 := ChG.ext m101 k105 (fun k hk => .inl hk)
  have q107m : x106 = 0 ∨ x106 = 1 ∨ x106 = 3 ∨ x106 = 8 ∨ x106 = 16 := by simpa only [List.mem_cons, List.not_mem_nil, or_false] using q107
  refine pu (vp g38 2) wN ?_
  have b116 := (((b45.ch k49 (Ne.symm (Nat.ne_of_lt (Nat.lt_of_lt_of_le hgl (Nat.le_trans (t4 k4.size k8.size k16.size k27.size) p39))))).kp k97).ch k105 (Ne.symm (Nat.ne_of_lt (Nat.lt_of_lt_of_le hgl (Nat.le_trans (t4 k4.size k8.size k16.size k27.size) p39)))))
  refine st (vi (x106)) [(vi (x106))] [(vb ((x28).On)), (vi ((x28).Due)), (vi (x106)), (vi ((x28).Tries))] wN sizeOf_3 b116 ?_
  intro w10 k117 b118 z119
  have m120 := ChG.ext m115 k117 (fun k hk => .inr (by subst hk; exact Nat.le_trans (t4 k4.size k8.size k16.size k27.size) p39))
  refine wl_nil <| wq_blk_normal <| wq_then <| sr ?_
  refine lN [(vb ((x28).On)), (vi ((x28).Due)), (vi (x106)), (vi ((x28).Tries))] wN isAgg_28 sizeOf_28 b118 ?_
  have b121 := (((((((((b5.kp k8).ch k16 (Ne.symm (Nat.ne_of_lt (Nat.lt_of_lt_of_le hgl (Nat.le_trans (Nat.le_refl w0.heap.size) p2))))).ch k27 (Ne.symm (Nat.ne_of_lt (Nat.lt_of_lt_of_le hgl (Nat.le_trans (Nat.le_refl w0.heap.size) p2))))).kp k41).ch k44 (Nat.ne_of_lt (Nat.lt_of_lt_of_le p3 (Nat.le_trans (t3 k8.size k16.size k27.size) p39)))).ch k49 (Ne.symm (Nat.ne_of_lt (Nat.lt_of_lt_of_le hgl (Nat.le_trans (Nat.le_refl w0.heap.size) p2))))).kp k97).ch k105 (Ne.symm (Nat.ne_of_lt (Nat.lt_of_lt_of_le hgl (Nat.le_trans (Nat.le_refl w0.heap.size) p2))))).ch k117 (Nat.ne_of_lt (Nat.lt_of_lt_of_le p3 (Nat.le_trans (t3 k8.size k16.size k27.size) p39))))
  refine st (va [(vb ((x28).On)), (vi ((x28).Due)), (vi (x106)), (vi ((x28).Tries))]) [(vb ((x28).On)), (vi ((x28).Due)), (vi (x106)), (vi ((x28).Tries))] [(vb ((x28).On)), (vi ((x28).Due)), (vi (x106)), (vi ((x28).Tries))] wN sizeOf_28 b121 ?_
  intro w11 k122 b123 z124
  have m125 := ChG.ext m120 k122 (fun k hk => .inr (by subst hk; exact Nat.le_trans (Nat.le_refl w0.heap.size) p2))
  refine wl_nil <| wq_then <| wc_ret ?_
  refine ret_1 (.inl rfl) (va [(vb ((x28).On)), (vi ((x28).Due)), (vi (x106)), (vi ((x28).Tries))]) rfl (rv_c [(vb ((x28).On)), (vi ((x28).Due)), (vi (x106)), (vi ((x28).Tries))] rfl b123 isAgg_28 sizeOf_28) ?_
  have b126 := ((b110.ch k117 (Nat.ne_of_lt (Nat.lt_of_lt_of_le hgl (Nat.le_trans (t4 k4.size k8.size k16.size k27.size) p39)))).ch k122 (Nat.ne_of_lt (Nat.lt_of_lt_of_le hgl (Nat.le_trans (Nat.le_refl w0.heap.size) p2))))
  exact ⟨{ On := (x28).On, Due := (x28).Due, Wait := (x106), Tries := (x28).Tries : PTimer }, m125, ⟨_, _, b126, (Rd.chP hcr m125 hcn), hcl, (by omega), hcn⟩, rfl, trivial⟩
 have q127 := of_decide_eq_false h94
 refine cf h94 ?_
 refine sr ?_
 refine pu (vb (decide ((x50) = 2))) wN ?_
 refine ag (vb (decide ((x50) = 2))) wN ?_
 refine wl_nil <| wq_then ?_
 rcases bt (decide ((x50) = 2)) with h128 | h128
 ·have q129 := of_decide_eq_true h128
  refine ct h128 ?_
  refine wc_region ?_
  refine mv (vp g 0) wN ?_
  refine wl_lit [(vi 0), (vi 1), (vi 5), (vi 6)] wN rfl rfl slTy_61 (m := 4) rfl (by simp only [maxLen]; omega) (fun w => by kernel_rfl) ?_
  intro u130 w8 k131 o132
  obtain ⟨a133, c134, rfl⟩ := own_form o132
  have m135 := ChG.extk m59 k131
  have o137 : w8.ownsRow w7.heap.size 3 1 (.slice a133 (([0, 1, 5, 6] : List Int) : List Int).length c134) (([0, 1, 5, 6] : List Int) : List Int).length ((([0, 1, 5, 6] : List Int) : List Int).map iV) := o132
  have b138 := (b54.kp k131)
  refine cl wN (C_spec_l1Int w8 g ca cc cb ⟨_, _, b138, (Rd.chP hcr m135 hcn), hcl, (by omega), hcn⟩ _ ([0, 1, 5, 6] : List Int) ⟨_, _, rfl, (Rd.of_own o137), (by simp), (fun _ z hz => by have h1 := (own_lt o137 z.block (by rw [hz]; rfl)).1; have h2 := Nat.lt_of_lt_of_le hgl (t7 k4.size k8.size k16.size k27.size k41.size k44.size k49.size); omega)⟩ (by simp)) ?_
  rintro _ w9 ⟨x140, k139, ⟨i142, h143, b144, r145, l146, p147, n148⟩, rfl, q141⟩
  have m149 := ChG.ext m135 k139 (fun k hk => .inl hk)
  have q141m : x140 = 0 ∨ x140 = 1 ∨ x140 = 5 ∨ x140 = 6 := by simpa only [List.mem_cons, List.not_mem_nil, or_false] using q141
  refine pu (vp g38 3) wN ?_
  have b150 := (((b45.ch k49 (Ne.symm (Nat.ne_of_lt (Nat.lt_of_lt_of_le hgl (Nat.le_trans (t4 k4.size k8.size k16.size k27.size) p39))))).kp k131).ch k139 (Ne.symm (Nat.ne_of_lt (Nat.lt_of_lt_of_le hgl (Nat.le_trans (t4 k4.size k8.size k16.size k27.size) p39)))))
  refine st (vi (x140)) [(vi (x140))] [(vb ((x28).On)), (vi ((x28).Due)), (vi ((x28).Wait)), (vi (x140))] wN sizeOf_3 b150 ?_
  intro w10 k151 b152 z153
  have m154 := ChG.ext m149 k151 (fun k hk => .inr (by subst hk; exact Nat.le_trans (t4 k4.size k8.size k16.size k27.size) p39))
  refine wl_nil <| wq_blk_normal <| wq_then <| sr ?_
  refine lN [(vb ((x28).On)), (vi ((x28).Due)), (vi ((x28).Wait)), (vi (x140))] wN isAgg_28 sizeOf_28 b152 ?_
  have b155 := (((((((((b5.kp k8).ch k16 (Ne.symm (Nat.ne_of_lt (Nat.lt_of_lt_of_le hgl (Nat.le_trans (Nat.le_refl w0.heap.size) p2))))).ch k27 (Ne.symm (Nat.ne_of_lt (Nat.lt_of_lt_of_le hgl (Nat.le_trans (Nat.le_refl w0.heap.size) p2))))).kp k41).ch k44 (Nat.ne_of_lt (Nat.lt_of_lt_of_le p3 (Nat.le_trans (t3 k8.size k16.size k27.size) p39)))).ch k49 (Ne.symm (Nat.ne_of_lt (Nat.lt_of_lt_of_le hgl (Nat.le_trans (Nat.le_refl w0.heap.size) p2))))).kp k131).ch k139 (Ne.symm (Nat.ne_of_lt (Nat.lt_of_lt_of_le hgl (Nat.le_trans (Nat.le_refl w0.heap.size) p2))))).ch k151 (Nat.ne_of_lt (Nat.lt_of_lt_of_le p3 (Nat.le_trans (t3 k8.size k16.size k27.size) p39))))
  refine st (va [(vb ((x28).On)), (vi ((x28).Due)), (vi ((x28).Wait)), (vi (x140))]) [(vb ((x28).On)), (vi ((x28).Due)), (vi ((x28).Wait)), (vi (x140))] [(vb ((x28).On)), (vi ((x28).Due)), (vi ((x28).Wait)), (vi (x140))] wN sizeOf_28 b155 ?_
  intro w11 k156 b157 z158
  have m159 := ChG.ext m154 k156 (fun k hk => .inr (by subst hk; exact Nat.le_trans (Nat.le_refl w0.heap.size) p2))
  refine wl_nil <| wq_then <| wc_ret ?_
  refine ret_1 (.inl rfl) (va [(vb ((x28).On)), (vi ((x28).Due)), (vi ((x28).Wait)), (vi (x140))]) rfl (rv_c [(vb ((x28).On)), (vi ((x28).Due)), (vi ((x28).Wait)), (vi (x140))] rfl b157 isAgg_28 sizeOf_28) ?_
  have b160 := ((b144.ch k151 (Nat.ne_of_lt (Nat.lt_of_lt_of_le hgl (Nat.le_trans (t4 k4.size k8.size k16.size k27.size) p39)))).ch k156 (Nat.ne_of_lt (Nat.lt_of_lt_of_le hgl (Nat.le_trans (Nat.le_refl w0.heap.size) p2))))
  exact ⟨{ On := (x28).On, Due := (x28).Due, Wait := (x28).Wait, Tries := (x140) : PTimer }, m159, ⟨_, _, b160, (Rd.chP hcr m159 hcn), hcl, (by omega), hcn⟩, rfl, trivial⟩
 have q161 := of_decide_eq_false h128
 refine cf h128 ?_
 refine sr ?_
 refine pu (vb (decide ((x50) = 3))) wN ?_
 refine ag (vb (decide ((x50) = 3))) wN ?_
 refine wl_nil <| wq_then ?_
 rcases bf (decide ((x50) = 3)) with h162 | h162
 ·have q175 := of_decide_eq_false h162
  refine cf h162 ?_
  refine wc_skip <| wq_blk_normal <| wq_then <| sr ?_
  have b176 := (b45.ch k49 (Ne.symm (Nat.ne_of_lt (Nat.lt_of_lt_of_le hgl (Nat.le_trans (t4 k4.size k8.size k16.size k27.size) p39)))))
  refine lN (L_28 (x28)) wN isAgg_28 sizeOf_28 b176 ?_
  have b177 := ((((((b5.kp k8).ch k16 (Ne.symm (Nat.ne_of_lt (Nat.lt_of_lt_of_le hgl (Nat.le_trans (Nat.le_refl w0.heap.size) p2))))).ch k27 (Ne.symm (Nat.ne_of_lt (Nat.lt_of_lt_of_le hgl (Nat.le_trans (Nat.le_refl w0.heap.size) p2))))).kp k41).ch k44 (Nat.ne_of_lt (Nat.lt_of_lt_of_le p3 (Nat.le_trans (t3 k8.size k16.size k27.size) p39)))).ch k49 (Ne.symm (Nat.ne_of_lt (Nat.lt_of_lt_of_le hgl (Nat.le_trans (Nat.le_refl w0.heap.size) p2)))))
  refine st (va (L_28 (x28))) (L_28 (x28)) (L_28 (x28)) wN sizeOf_28 b177 ?_
  intro w8 k178 b179 z180
  have m181 := ChG.ext m59 k178 (fun k hk => .inr (by subst hk; exact Nat.le_trans (Nat.le_refl w0.heap.size) p2))
  refine wl_nil <| wq_then <| wc_ret ?_
  refine ret_1 (.inl rfl) (va (L_28 (x28))) rfl (rv_c [(vb ((x28).On)), (vi ((x28).Due)), (vi ((x28).Wait)), (vi ((x28).Tries))] rfl b179 isAgg_28 sizeOf_28) ?_
  have b182 := (b54.ch k178 (Nat.ne_of_lt (Nat.lt_of_lt_of_le hgl (Nat.le_trans (Nat.le_refl w0.heap.size) p2))))
  exact ⟨(x28), m181, ⟨_, _, b182, (Rd.chP hcr m181 hcn), hcl, (by omega), hcn⟩, rfl, trivial⟩
 have q163 := of_decide_eq_true h162
 refine ct h162 ?_
 refine wc_region ?_
 refine pu (vp g38 0) wN ?_
 have b164 := (b45.ch k49 (Ne.symm (Nat.ne_of_lt (Nat.lt_of_lt_of_le hgl (Nat.le_trans (t4 k4.size k8.size k16.size k27.size) p39)))))
 refine ld (vb ((x28).On)) wN isAgg_4 b164 ?_
 refine pu (vb (!((x28).On))) wN ?_
 refine pu (vp g38 0) wN ?_
 refine st (vb (!((x28).On))) [(vb (!((x28).On)))] [(vb (!((x28).On))), (vi ((x28).Due)), (vi ((x28).Wait)), (vi ((x28).Tries))] wN sizeOf_4 b164 ?_
 intro w8 k165 b166 z167
 have m168 := ChG.ext m59 k165 (fun k hk => .inr (by subst hk; exact Nat.le_trans (t4 k4.size k8.size k16.size k27.size) p39))
 refine wl_nil <| wq_blk_normal <| wq_then <| sr ?_
 refine lN [(vb (!((x28).On))), (vi ((x28).Due)), (vi ((x28).Wait)), (vi ((x28).Tries))] wN isAgg_28 sizeOf_28 b166 ?_
 have b169 := (((((((b5.kp k8).ch k16 (Ne.symm (Nat.ne_of_lt (Nat.lt_of_lt_of_le hgl (Nat.le_trans (Nat.le_refl w0.heap.size) p2))))).ch k27 (Ne.symm (Nat.ne_of_lt (Nat.lt_of_lt_of_le hgl (Nat.le_trans (Nat.le_refl w0.heap.size) p2))))).kp k41).ch k44 (Nat.ne_of_lt (Nat.lt_of_lt_of_le p3 (Nat.le_trans (t3 k8.size k16.size k27.size) p39)))).ch k49 (Ne.symm (Nat.ne_of_lt (Nat.lt_of_lt_of_le hgl (Nat.le_trans (Nat.le_refl w0.heap.size) p2))))).ch k165 (Nat.ne_of_lt (Nat.lt_of_lt_of_le p3 (Nat.le_trans (t3 k8.size k16.size k27.size) p39))))
 refine st (va [(vb (!((x28).On))), (vi ((x28).Due)), (vi ((x28).Wait)), (vi ((x28).Tries))]) [(vb (!((x28).On))), (vi ((x28).Due)), (vi ((x28).Wait)), (vi ((x28).Tries))] [(vb (!((x28).On))), (vi ((x28).Due)), (vi ((x28).Wait)), (vi ((x28).Tries))] wN sizeOf_28 b169 ?_
 intro w9 k170 b171 z172
 have m173 := ChG.ext m168 k170 (fun k hk => .inr (by subst hk; exact Nat.le_trans (Nat.le_refl w0.heap.size) p2))
 refine wl_nil <| wq_then <| wc_ret ?_
 refine ret_1 (.inl rfl) (va [(vb (!((x28).On))), (vi ((x28).Due)), (vi ((x28).Wait)), (vi ((x28).Tries))]) rfl (rv_c [(vb (!((x28).On))), (vi ((x28).Due)), (vi ((x28).Wait)), (vi ((x28).Tries))] rfl b171 isAgg_28 sizeOf_28) ?_
 have b174 := ((b54.ch k165 (Nat.ne_of_lt (Nat.lt_of_lt_of_le hgl (Nat.le_trans (t4 k4.size k8.size k16.size k27.size) p39)))).ch k170 (Nat.ne_of_lt (Nat.lt_of_lt_of_le hgl (Nat.le_trans (Nat.le_refl w0.heap.size) p2))))
 exact ⟨{ On := !((x28).On), Due := (x28).Due, Wait := (x28).Wait, Tries := (x28).Tries : PTimer }, m173, ⟨_, _, b174, (Rd.chP hcr m173 hcn), hcl, (by omega), hcn⟩, rfl, trivial⟩

theorem mR_35 {w : World} {x : List UInt8} {a1 : Option Addr} {c1 : Nat} (h1 : Rd w 1 (.slice a1 x.length c1) x.length (x.map bV)) (l1 : x.length ≤ 1073741824) : R_35 w (vs a1 x.length c1) x := ⟨_, _, rfl, h1, l1⟩
theorem C_spec_DrawTimerNext (w0 : World) (v_x_code : Value) (x_code : List UInt8) (r_x_code : R_35 w0 v_x_code x_code)  : Fn Try.prog 49 #[v_x_code] w0 (fun v w' => ∃ x : (PTimer) × (Int), Keep w0 w' ∧ O_28_3 w' w0.heap.size v x ∧ (True)) := by
 obtain ⟨a1, c2, rfl, r3, s4⟩ := r_x_code
 refine fn_of (n := 17) (l := [(vs a1 x_code.length c2), U, U, U, U, U, U, U, U, U, U, U, U, U, U, U, U]) Try.func49 rfl rfl (by kernel_rfl) rfl ?_
 refine sr ?_
 refine al [(vb false), (vi 0), (vi 0), (vi 0)] wN zero_28 ?_
 intro g6 w1 p7 p8 k9 b10
 have m11 := (Ch.base w0).extk k9
 refine ag (vi 0) wN ?_
 refine nx ?_
 refine mv (vs a1 x_code.length c2) wN ?_
 refine cl wN (C_spec_l1New w1 _ x_code (mR_35 (r3.from0 m11) s4)) ?_
 rintro _ w2 ⟨g13, k12, p14, rfl, hc22⟩
 obtain ⟨i15, h16, b17, r18, l19, p20, n21⟩ := hc22 _ _ rfl
 have m23 := m11.extk k12
 refine ag (vp g13 0) wN ?_
 refine nx ?_
 refine mv (vp g13 0) wN ?_
 refine cl wN (C_spec_l13Any w2 g13 a1 c2 x_code ⟨_, _, b17, (r3.from0 m23), s4, (by omega), (fun h0 z hz => Nat.ne_of_lt (Nat.lt_of_lt_of_le (rd_posB r3 h0 z hz) (Nat.le_trans k9.size p14)))⟩) ?_
 rintro _ w3 ⟨x25, k24, ⟨i27, h28, b29, r30, l31, p32, n33⟩, rfl, q26⟩
 have m34 := m23.ext k24 (fun k hk => by subst hk; exact Nat.le_trans k9.size p14)
 refine al [(vb false), (vi 0), (vi 0), (vi 0)] wN zero_28 ?_
 intro g35 w4 p36 p37 k38 b39
 have m40 := m34.extk k38
 refine st (va (L_28 (x25))) (L_28 (x25)) (L_28 (x25)) wN sizeOf_28 b39 ?_
 intro w5 k41 b42 z43
 have m44 := m40.ext k41 (fun k hk => by subst hk; exact Nat.le_trans (t3 k9.size k12.size k24.size) p36)
 refine wl_nil <| wq_then <| wc_seq ?_
 have b81 := ((((b10.kp k12).ch k24 (Nat.ne_of_lt (Nat.lt_of_lt_of_le p8 (Nat.le_trans (Nat.le_refl w1.heap.size) p14)))).kp k38).ch k41 (Nat.ne_of_lt (Nat.lt_of_lt_of_le p8 (Nat.le_trans (Nat.le_trans k12.size k24.size) p36))))
 have b82 := ((b29.kp k38).ch k41 (Nat.ne_of_lt (Nat.lt_of_lt_of_le (Blk.lt b17) (Nat.le_trans k24.size p36))))
 refine wc_drawT ([(10, [], [], (fun _ v _ => v = (.agg #[(vb ((x25).On)), (vi ((x25).Due)), (vi ((x25).Wait)), (vi ((x25).Tries))]))), (11, [], [], (fun _ v _ => v = (vp g35 1))), (12, [], [1], (fun _ v _ => v = (vi ((x25).Due)))), (13, [], [], (fun _ v _ => v = (vp g13 0))), (14, [], [], (fun _ v w => ∃ (a1 : Option Addr) (c1 : Nat), v = .slice a1 ([0, 1, 0, 2, (-1), 100] : List Int).length c1 ∧ w.ownsRow w5.heap.size 3 1 (.slice a1 ([0, 1, 0, 2, (-1), 100] : List Int).length c1) ([0, 1, 0, 2, (-1), 100] : List Int).length (([0, 1, 0, 2, (-1), 100] : List Int).map iV) ∧ ([0, 1, 0, 2, (-1), 100] : List Int).length ≤ 1073741824 ∧ Aps [(a1, c1)])), (15, [], [3, 4], (fun _ v _ => ∃ x79 : Int, v = vi x79 ∧ x79 ∈ ([0, 1, 0, 2, (-1), 100] : List Int))), (16, [], [1, 2, 3, 4, 5], (fun _ v _ => ∃ z : Int, v = vi z)), (24, [], [0, 3, 4, 5], (fun _ _ w => ∃ xg6_0 xg6_1 xg6_2 xg6_3 : Value, Blk w g6 28 [xg6_0, xg6_1, xg6_2, xg6_3] ∧ xg6_0 = (vb ((x25).On)) ∧ xg6_1 = (vi ((x25).Due)) ∧ xg6_2 = (vi ((x25).Wait)) ∧ xg6_3 = (vi ((x25).Tries))))] : GV) (fun lf w' => Ch (fun k => k = g6 ∨ k = g13) w5 w' ∧ (∃ xg6_0 xg6_1 xg6_2 xg6_3 : Value, Blk w' g6 28 [xg6_0, xg6_1, xg6_2, xg6_3] ∧ (lf 7 = false → xg6_0 = (vb false)) ∧ (lf 7 = false → xg6_1 = (vi 0)) ∧ (lf 7 = false → xg6_2 = (vi 0)) ∧ (lf 7 = false → xg6_3 = (vi 0))) ∧ CurX w' g13 81 a1 c2 x_code) [(5, fun w w' => Ch (fun k => k = g13) w w' ∧ (CurX w g13 81 a1 c2 x_code → CurX w' g13 81 a1 c2 x_code)), (7, fun w w' => Ch (fun k => k = g6) w w' ∧ ∀ xg6_0 xg6_1 xg6_2 xg6_3 : Value, Blk w g6 28 [xg6_0, xg6_1, xg6_2, xg6_3] → ∃ y0 y1 y2 y3 : Value, Blk w' g6 28 [y0, y1, y2, y3])] mixed rfl (by kernel_rfl) (by kernel_rfl) ?_ (fun _ _ h => ⟨h.to _, ⟨_, _, _, _, b81.kp h, fun _ => rfl, fun _ => rfl, fun _ => rfl, fun _ => rfl⟩, CurX.kp ⟨_, _, b82, (r3.from0 m44), s4, (by omega), (fun h0 z hz => Nat.ne_of_lt (Nat.lt_of_lt_of_le (rd_posB r3 h0 z hz) (Nat.le_trans k9.size p14)))⟩ h⟩) (fun _ _ _ _ h mo k => by obtain ⟨hc, ⟨xg6_0, xg6_1, xg6_2, xg6_3, hbg6, heg6_0, heg6_1, heg6_2, heg6_3⟩, hcur⟩ := h; exact ⟨hc.comp k (fun _ _ q => q.elim), ⟨_, _, _, _, hbg6.kp k, fun q => heg6_0 (mo _ q), fun q => heg6_1 (mo _ q), fun q => heg6_2 (mo _ q), fun q => heg6_3 (mo _ q)⟩, hcur.kp k⟩) ⟨(fun _ _ w w' h mo hj t => by obtain ⟨hc, ⟨xg6_0, xg6_1, xg6_2, xg6_3, hbg6, heg6_0, heg6_1, heg6_2, heg6_3⟩, hcur⟩ := h; exact ⟨hc.comp t.1 (fun _ _ q => (.inr q)), ⟨_, _, _, _, hbg6.ch t.1 (Nat.ne_of_lt (Nat.lt_of_lt_of_le p8 (Nat.le_trans (Nat.le_refl w1.heap.size) p14))), fun q => heg6_0 (mo _ q), fun q => heg6_1 (mo _ q), fun q => heg6_2 (mo _ q), fun q => heg6_3 (mo _ q)⟩, t.2 hcur⟩), ⟨(fun _ _ w w' h mo hj t => by obtain ⟨hc, ⟨xg6_0, xg6_1, xg6_2, xg6_3, hbg6, heg6_0, heg6_1, heg6_2, heg6_3⟩, hcur⟩ := h; obtain ⟨z0, z1, z2, z3, hz⟩ := t.2 _ _ _ _ hbg6; exact ⟨hc.comp t.1 (fun _ _ q => (.inl q)), ⟨_, _, _, _, hz, (fun q => by rw [hj] at q; cases q), (fun q => by rw [hj] at q; cases q), (fun q => by rw [hj] at q; cases q), (fun q => by rw [hj] at q; cases q)⟩, hcur.ch t.1 (Ne.symm (Nat.ne_of_lt (Nat.lt_of_lt_of_le p8 (Nat.le_trans (Nat.le_refl w1.heap.size) p14)))) (fun h0 z hz => Nat.ne_of_lt (Nat.lt_of_lt_of_le (rd_posB r3 h0 z hz) (Nat.le_trans (Nat.le_refl w0.heap.size) p7)))⟩), trivial⟩⟩ ?_ ?_ ?_
 ·exact ⟨(fun _ _ _ _ h _ => h), (fun _ _ _ _ _ h => h), ⟨(fun _ _ _ _ h _ => h), (fun _ _ _ _ _ h => h), ⟨(fun _ _ _ _ h _ => h), (fun _ _ _ _ _ h => h), ⟨(fun _ _ _ _ h _ => h), (fun _ _ _ _ _ h => h), ⟨(fun e v w w1 h hk => by obtain ⟨a0x, c0x, he, o0x, l0x, hap⟩ := h; exact ⟨a0x, c0x, he, own_kp o0x hk, l0x, hap⟩), (fun _ _ _ _ _ h => h), ⟨(fun _ _ _ _ h _ => h), (fun _ _ _ _ _ h => h), ⟨(fun _ _ _ _ h _ => h), (fun _ _ _ _ _ h => h), ⟨(fun e v w w1 h hk => by obtain ⟨xg6_0, xg6_1, xg6_2, xg6_3, hb, he⟩ := h; exact ⟨_, _, _, _, hb.kp hk, he⟩), (fun _ _ _ _ _ h => h), trivial⟩⟩⟩⟩⟩⟩⟩⟩
 ·exact ⟨⟨.inr (fun _ _ _ _ h _ => h), ⟨.inr (fun _ _ _ _ h _ => h), ⟨.inr (fun _ _ _ _ h _ => h), ⟨.inr (fun _ _ _ _ h _ => h), ⟨.inr (fun e v wX wY h ht => by obtain ⟨a0x, c0x, he, o0x, l0x, hap⟩ := h; exact ⟨a0x, c0x, he, own_ch o0x ht.1 (fun g hg _ hk => by have h1 := (own_lt o0x g hg).1; have h3 : g = g13 := hk; have h4 := (Nat.lt_of_lt_of_le (Blk.lt b17) (t3 k24.size k38.size k41.size)); omega), l0x, hap⟩), ⟨.inl rfl, ⟨.inr (fun _ _ _ _ h _ => h), ⟨.inr (fun e v wX wY h ht => by obtain ⟨xg6_0, xg6_1, xg6_2, xg6_3, hb, he⟩ := h; exact ⟨_, _, _, _, hb.ch ht.1 (Nat.ne_of_lt (Nat.lt_of_lt_of_le p8 (Nat.le_trans (Nat.le_refl w1.heap.size) p14))), he⟩), trivial⟩⟩⟩⟩⟩⟩⟩⟩, ⟨⟨.inr (fun _ _ _ _ h _ => h), ⟨.inr (fun _ _ _ _ h _ => h), ⟨.inr (fun _ _ _ _ h _ => h), ⟨.inr (fun _ _ _ _ h _ => h), ⟨.inr (fun e v wX wY h ht => by obtain ⟨a0x, c0x, he, o0x, l0x, hap⟩ := h; exact ⟨a0x, c0x, he, own_ch o0x ht.1 (fun g hg _ hk => by have h1 := (own_lt o0x g hg).1; have h3 : g = g6 := hk; have h4 := (Nat.lt_of_lt_of_le p8 (t4 k12.size k24.size k38.size k41.size)); omega), l0x, hap⟩), ⟨.inr (fun _ _ _ _ h _ => h), ⟨.inr (fun _ _ _ _ h _ => h), ⟨.inl rfl, trivial⟩⟩⟩⟩⟩⟩⟩⟩, trivial⟩⟩
 ·refine ⟨?_, ⟨?_, ⟨?_, ⟨?_, ⟨?_, ⟨?_, ⟨?_, ⟨?_, trivial⟩⟩⟩⟩⟩⟩⟩⟩
  ·rintro lf w6 ⟨k83, ⟨xg6_0, xg6_1, xg6_2, xg6_3, b84, p85, p86, p87, p88⟩, ⟨i91, h92, b93, r94, l95, p96, n97⟩⟩ ⟨n89, n90, -⟩
   have m98 := m44.ext k83 (fun k hk => (fun hk => Or.elim hk (fun hk => by subst hk; exact Nat.le_trans (Nat.le_refl w0.heap.size) p7) (fun hk => by subst hk; exact Nat.le_trans k9.size p14)) hk)
   obtain rfl : xg6_0 = (vb false) := p85 (n90.resolve_left (fun h => Bool.noConfusion (show true = false from h)))
   obtain rfl : xg6_1 = (vi 0) := p86 (n90.resolve_left (fun h => Bool.noConfusion (show true = false from h)))
   obtain rfl : xg6_2 = (vi 0) := p87 (n90.resolve_left (fun h => Bool.noConfusion (show true = false from h)))
   obtain rfl : xg6_3 = (vi 0) := p88 (n90.resolve_left (fun h => Bool.noConfusion (show true = false from h)))
   rintro _ _ _ _ _ _ _ _
   show WL _ _ _ _ _ _ _
   have b99 := (b42.ch k83 (fun h => Or.elim h (Ne.symm (Nat.ne_of_lt (Nat.lt_of_lt_of_le p8 (Nat.le_trans (Nat.le_trans k12.size k24.size) p36)))) (Ne.symm (Nat.ne_of_lt (Nat.lt_of_lt_of_le (Blk.lt b17) (Nat.le_trans k24.size p36))))))
   refine lN (L_28 (x25)) wN isAgg_28 sizeOf_28 b99 ?_
   exact wl_finT (Ch.refl _ _) rfl
  ·rintro lf w6 ⟨k100, ⟨xg6_0, xg6_1, xg6_2, xg6_3, b101, p102, p103, p104, p105⟩, ⟨i108, h109, b110, r111, l112, p113, n114⟩⟩ ⟨n106, n107, -⟩
   have m115 := m44.ext k100 (fun k hk => (fun hk => Or.elim hk (fun hk => by subst hk; exact Nat.le_trans (Nat.le_refl w0.heap.size) p7) (fun hk => by subst hk; exact Nat.le_trans k9.size p14)) hk)
   rintro _ _ _ _ _ _ _ _
   show WL _ _ _ _ _ _ _
   refine pu (vp g35 1) wN ?_
   exact wl_finT (Ch.refl _ _) rfl
  ·rintro lf w6 ⟨k116, ⟨xg6_0, xg6_1, xg6_2, xg6_3, b117, p118, p119, p120, p121⟩, ⟨i124, h125, b126, r127, l128, p129, n130⟩⟩ ⟨n122, n123, -⟩
   have m131 := m44.ext k116 (fun k hk => (fun hk => Or.elim hk (fun hk => by subst hk; exact Nat.le_trans (Nat.le_refl w0.heap.size) p7) (fun hk => by subst hk; exact Nat.le_trans k9.size p14)) hk)
   rintro _ _ rfl _ _ _ _ _ _
   show WL _ _ _ _ _ _ _
   have b132 := (b42.ch k116 (fun h => Or.elim h (Ne.symm (Nat.ne_of_lt (Nat.lt_of_lt_of_le p8 (Nat.le_trans (Nat.le_trans k12.size k24.size) p36)))) (Ne.symm (Nat.ne_of_lt (Nat.lt_of_lt_of_le (Blk.lt b17) (Nat.le_trans k24.size p36))))))
   refine ld (vi ((x25).Due)) wN isAgg_3 b132 ?_
   exact wl_finT (Ch.refl _ _) rfl
  ·rintro lf w6 ⟨k133, ⟨xg6_0, xg6_1, xg6_2, xg6_3, b134, p135, p136, p137, p138⟩, ⟨i141, h142, b143, r144, l145, p146, n147⟩⟩ ⟨n139, n140, -⟩
   have m148 := m44.ext k133 (fun k hk => (fun hk => Or.elim hk (fun hk => by subst hk; exact Nat.le_trans (Nat.le_refl w0.heap.size) p7) (fun hk => by subst hk; exact Nat.le_trans k9.size p14)) hk)
   obtain rfl : xg6_0 = (vb false) := p135 (n140.resolve_left (fun h => Bool.noConfusion (show true = false from h)))
   obtain rfl : xg6_1 = (vi 0) := p136 (n140.resolve_left (fun h => Bool.noConfusion (show true = false from h)))
   obtain rfl : xg6_2 = (vi 0) := p137 (n140.resolve_left (fun h => Bool.noConfusion (show true = false from h)))
   obtain rfl : xg6_3 = (vi 0) := p138 (n140.resolve_left (fun h => Bool.noConfusion (show true = false from h)))
   rintro _ _ _ _ _ _ _ _
   show WL _ _ _ _ _ _ _
   refine mv (vp g13 0) wN ?_
   exact wl_finT (Ch.refl _ _) rfl
  ·rintro lf w6 ⟨k149, ⟨xg6_0, xg6_1, xg6_2, xg6_3, b150, p151, p152, p153, p154⟩, ⟨i157, h158, b159, r160, l161, p162, n163⟩⟩ ⟨n155, n156, -⟩
   have m164 := m44.ext k149 (fun k hk => (fun hk => Or.elim hk (fun hk => by subst hk; exact Nat.le_trans (Nat.le_refl w0.heap.size) p7) (fun hk => by subst hk; exact Nat.le_trans k9.size p14)) hk)
   obtain rfl : xg6_0 = (vb false) := p151 (n156.resolve_left (fun h => Bool.noConfusion (show true = false from h)))
   obtain rfl : xg6_1 = (vi 0) := p152 (n156.resolve_left (fun h => Bool.noConfusion (show true = false from h)))
   obtain rfl : xg6_2 = (vi 0) := p153 (n156.resolve_left (fun h => Bool.noConfusion (show true = false from h)))
   obtain rfl : xg6_3 = (vi 0) := p154 (n156.resolve_left (fun h => Bool.noConfusion (show true = false from h)))
   rintro _ _ _ _ _ _ _ _
   show WL _ _ _ _ _ _ _
   refine wl_lit [(vi 0), (vi 1), (vi 0), (vi 2), (vi (-1)), (vi 100)] wN rfl rfl slTy_61 (m := 6) rfl (by simp only [maxLen]; omega) (fun w => by kernel_rfl) ?_
   intro u165 w7 k166 o167
   obtain ⟨a168, c169, rfl⟩ := own_form o167
   have m170 := m164.extk k166
   have o172 : w7.ownsRow w6.heap.size 3 1 (.slice a168 (([0, 1, 0, 2, (-1), 100] : List Int) : List Int).length c169) (([0, 1, 0, 2, (-1), 100] : List Int) : List Int).length ((([0, 1, 0, 2, (-1), 100] : List Int) : List Int).map iV) := o167
   exact wl_finT k166 ⟨_, _, rfl, (own_lo o172 k149.size), (by simp), ⟨trivial, trivial⟩⟩
  ·rintro lf w6 ⟨k173, ⟨xg6_0, xg6_1, xg6_2, xg6_3, b174, p175, p176, p177, p178⟩, ⟨i181, h182, b183, r184, l185, p186, n187⟩⟩ ⟨n179, n180, -⟩
   have m188 := m44.ext k173 (fun k hk => (fun hk => Or.elim hk (fun hk => by subst hk; exact Nat.le_trans (Nat.le_refl w0.heap.size) p7) (fun hk => by subst hk; exact Nat.le_trans k9.size p14)) hk)
   obtain rfl : xg6_0 = (vb false) := p175 (n180.resolve_left (fun h => Bool.noConfusion (show true = false from h)))
   obtain rfl : xg6_1 = (vi 0) := p176 (n180.resolve_left (fun h => Bool.noConfusion (show true = false from h)))
   obtain rfl : xg6_2 = (vi 0) := p177 (n180.resolve_left (fun h => Bool.noConfusion (show true = false from h)))
   obtain rfl : xg6_3 = (vi 0) := p178 (n180.resolve_left (fun h => Bool.noConfusion (show true = false from h)))
   rintro _ _ _ _ rfl _ ⟨a189, c190, rfl, o191, s192, -⟩ _ _ _
   show WL _ _ _ _ _ _ _
   refine cl wN (C_spec_l1Int w6 g13 a1 c2 x_code ⟨_, _, b183, (r3.from0 m188), s4, (by omega), (fun h0 z hz => Nat.ne_of_lt (Nat.lt_of_lt_of_le (rd_posB r3 h0 z hz) (Nat.le_trans k9.size p14)))⟩ _ ([0, 1, 0, 2, (-1), 100] : List Int) ⟨_, _, rfl, (Rd.of_own o191), s192, (fun _ z hz => by have h1 := (own_lt o191 z.block (by rw [hz]; rfl)).1; have h2 := Nat.lt_of_lt_of_le (Blk.lt b17) (t3 k24.size k38.size k41.size); omega)⟩ (by simp)) ?_
   rintro _ w7 ⟨x195, k194, ⟨i197, h198, b199, r200, l201, p202, n203⟩, rfl, q196⟩
   have m204 := m188.ext k194 (fun k hk => by subst hk; exact Nat.le_trans k9.size p14)
   have q196m : x195 = 0 ∨ x195 = 1 ∨ x195 = 0 ∨ x195 = 2 ∨ x195 = (-1) ∨ x195 = 100 := by simpa only [List.mem_cons, List.not_mem_nil, or_false] using q196
   exact wl_finT ⟨k194, fun _ => ⟨_, _, b199, (r3.from0 m204), s4, (by omega), (fun h0 z hz => Nat.ne_of_lt (Nat.lt_of_lt_of_le (rd_posB r3 h0 z hz) (Nat.le_trans k9.size p14)))⟩⟩ ⟨_, rfl, q196⟩
  ·rintro lf w6 ⟨k205, ⟨xg6_0, xg6_1, xg6_2, xg6_3, b206, p207, p208, p209, p210⟩, ⟨i213, h214, b215, r216, l217, p218, n219⟩⟩ ⟨n211, n212, -⟩
   have m220 := m44.ext k205 (fun k hk => (fun hk => Or.elim hk (fun hk => by subst hk; exact Nat.le_trans (Nat.le_refl w0.heap.size) p7) (fun hk => by subst hk; exact Nat.le_trans k9.size p14)) hk)
   rintro _ _ rfl _ rfl _ rfl _ ⟨a222, c223, rfl, o224, s225, -⟩ _ ⟨x79, rfl, q227⟩
   have q227m : x79 = 0 ∨ x79 = 1 ∨ x79 = 0 ∨ x79 = 2 ∨ x79 = (-1) ∨ x79 = 100 := by simpa only [List.mem_cons, List.not_mem_nil, or_false] using q227
   rintro _ _
   show WL _ _ _ _ _ _ _
   refine wl_arb (IntKind.i64.wrap (((x25).Due) + x79)) wN rfl rfl (by kernel_rfl) ?_
   intro ab228
   exact wl_finT (Ch.refl _ _) ⟨_, rfl⟩
  ·rintro lf w6 ⟨k229, ⟨xg6_0, xg6_1, xg6_2, xg6_3, b230, p231, p232, p233, p234⟩, ⟨i237, h238, b239, r240, l241, p242, n243⟩⟩ ⟨n235, n236, -⟩
   have m244 := m44.ext k229 (fun k hk => (fun hk => Or.elim hk (fun hk => by subst hk; exact Nat.le_trans (Nat.le_refl w0.heap.size) p7) (fun hk => by subst hk; exact Nat.le_trans k9.size p14)) hk)
   rintro _ rfl _ _ _ rfl _ ⟨a246, c247, rfl, o248, s249, -⟩ _ ⟨x79, rfl, q251⟩
   have q251m : x79 = 0 ∨ x79 = 1 ∨ x79 = 0 ∨ x79 = 2 ∨ x79 = (-1) ∨ x79 = 100 := by simpa only [List.mem_cons, List.not_mem_nil, or_false] using q251
   rintro _ _
   show WL _ _ _ _ _ _ _
   refine st (va (L_28 (x25))) (L_28 (x25)) (L_28 (x25)) wN sizeOf_28 b230 ?_
   intro w7 k252 b253 z254
   have m255 := m244.ext k252 (fun k hk => by subst hk; exact Nat.le_trans (Nat.le_refl w0.heap.size) p7)
   exact wl_finS (by decide) ⟨k252, fun yg6_0 yg6_1 yg6_2 yg6_3 hb => by have hq := Blk.inj b230 hb;   exact ⟨_, _, _, _, b253⟩⟩ ⟨_, _, _, _, b253, ⟨rfl, rfl, rfl, rfl⟩⟩
 ·rintro lf w6 ⟨k256, ⟨xg6_0, xg6_1, xg6_2, xg6_3, b257, p258, p259, p260, p261⟩, ⟨i264, h265, b266, r267, l268, p269, n270⟩⟩
  have m271 := m44.ext k256 (fun k hk => (fun hk => Or.elim hk (fun hk => by subst hk; exact Nat.le_trans (Nat.le_refl w0.heap.size) p7) (fun hk => by subst hk; exact Nat.le_trans k9.size p14)) hk)
  rintro _ rfl _ rfl _ rfl _ rfl _ ⟨a274, c275, rfl, o276, s277, -⟩ _ ⟨x79, rfl, q279⟩
  have q279m : x79 = 0 ∨ x79 = 1 ∨ x79 = 0 ∨ x79 = 2 ∨ x79 = (-1) ∨ x79 = 100 := by simpa only [List.mem_cons, List.not_mem_nil, or_false] using q279
  rintro _ ⟨ab80, rfl⟩ _ ⟨y281, y282, y283, y284, b280, ⟨rfl, rfl, rfl, rfl⟩⟩
  obtain rfl : xg6_0 = (vb ((x25).On)) := congrArg (fun l => List.getD l 0 U) (Blk.inj b257 b280)
  obtain rfl : xg6_1 = (vi ((x25).Due)) := congrArg (fun l => List.getD l 1 U) (Blk.inj b257 b280)
  obtain rfl : xg6_2 = (vi ((x25).Wait)) := congrArg (fun l => List.getD l 2 U) (Blk.inj b257 b280)
  obtain rfl : xg6_3 = (vi ((x25).Tries)) := congrArg (fun l => List.getD l 3 U) (Blk.inj b257 b280)
  show WL _ _ _ _ _ _ _
  refine ag (vi ab80) wN ?_
  refine wl_nil <| wq_then <| wc_ret ?_
  refine ret_2 (.inl rfl) (va (L_28 (x25))) (vi ab80) rfl (rv_c [(vb ((x25).On)), (vi ((x25).Due)), (vi ((x25).Wait)), (vi ((x25).Tries))] rfl b257 isAgg_28 sizeOf_28) rfl ?_
  exact ⟨((x25), ab80), m271.keep0, rfl, trivial⟩

theorem mQ_35 {w : World} {x : List UInt8} {a1 : Option Addr} {c1 : Nat} (h1 : Rd w 1 (.slice a1 x.length c1) x.length (x.map bV)) (l1 : x.length ≤ 9223372036854775807) : Q_35 w (vs a1 x.length c1) x := ⟨_, _, rfl, h1, l1⟩
def F_laws_FnTimersBent (x_code : List UInt8) (d0 : (PTimer) × (Int)) : (Bool) := bif (F_laws_big x_code) then (true) else (bif (((((F_impl_TimerNext ((d0).1) ((d0).2)).1).On) == (((F_spec_TimerNext ((d0).1) ((d0).2)).1).On)) && (decide ((((F_impl_TimerNext ((d0).1) ((d0).2)).1).Due) = (((F_spec_TimerNext ((d0).1) ((d0).2)).1).Due)) && (decide ((((F_impl_TimerNext ((d0).1) ((d0).2)).1).Wait) = (((F_spec_TimerNext ((d0).1) ((d0).2)).1).Wait)) && decide ((((F_impl_TimerNext ((d0).1) ((d0).2)).1).Tries) = (((F_spec_TimerNext ((d0).1) ((d0).2)).1).Tries))))) then (bif (decide ((F_impl_TimerNext ((d0).1) ((d0).2)).2 = (F_spec_TimerNext ((d0).1) ((d0).2)).2)) then (bif ((decide ((F_impl_TimerNext ((d0).1) ((d0).2)).2 = 0)) == (!(F_impl_TimerFires ((d0).1) ((d0).2)))) then (bif (decide ((F_impl_TimerNext ((d0).1) ((d0).2)).2 = 0)) then (bif (((((F_impl_TimerNext ((d0).1) ((d0).2)).1).On) == (((d0).1).On)) && (decide ((((F_impl_TimerNext ((d0).1) ((d0).2)).1).Due) = (((d0).1).Due)) && (decide ((((F_impl_TimerNext ((d0).1) ((d0).2)).1).Wait) = (((d0).1).Wait)) && decide ((((F_impl_TimerNext ((d0).1) ((d0).2)).1).Tries) = (((d0).1).Tries))))) then (bif (decide ((F_impl_TimerNext ((d0).1) ((d0).2)).2 = 2)) then (!(((F_impl_TimerNext ((d0).1) ((d0).2)).1).On)) else (true)) else (false)) else (bif (decide ((F_impl_TimerNext ((d0).1) ((d0).2)).2 = 2)) then (!(((F_impl_TimerNext ((d0).1) ((d0).2)).1).On)) else (true))) else (false)) else (false)) else (false))
theorem C_laws_FnTimersBent (w0 : World) (v_x_code : Value) (x_code : List UInt8) (r_x_code : Q_35 w0 v_x_code x_code)  : Fn Try.prog 14 #[v_x_code] w0 (fun v w' => ∃ (d0 : (PTimer) × (Int)), Keep w0 w' ∧ (True) ∧ v = vb (F_laws_FnTimersBent x_code d0)) := by
 obtain ⟨a1, c2, rfl, r3, s4⟩ := r_x_code
 refine fn_of (n := 63) (l := [(vs a1 x_code.length c2), U, U, U, U, U, U, U, U, U, U, U, U, U, U, U, U, U, U, U, U, U, U, U, U, U, U, U, U, U, U, U, U, U, U, U, U, U, U, U, U, U, U, U, U, U, U, U, U, U, U, U, U, U, U, U, U, U, U, U, U, U, U]) Try.func14 rfl rfl (by kernel_rfl) rfl ?_
 refine sr ?_
 refine ag (vb false) wN ?_
 refine wl_nil <| wq_then <| wc_seq <| sr ?_
 refine mv (vs a1 x_code.length c2) wN ?_
 refine cl wN (C_laws_big w0 _ x_code (mQ_35 r3 s4)) ?_
 rintro _ w1 ⟨k6, rfl⟩
 have m7 := (Ch.base w0).extk k6
 refine wl_nil <| wq_then ?_
 rcases bt (F_laws_big x_code) with h8 | h8
 ·refine ct h8 ?_
  refine sr ?_
  refine ag (vb true) wN ?_
  refine wl_nil <| wq_then <| wc_ret <| wq_then_ret ?_
  refine ret_1 (.inl rfl) (vb true) rfl rfl ?_
  have hF10 : F_laws_FnTimersBent x_code (({ On := false, Due := 0, Wait := 0, Tries := 0 : PTimer }, 0)) = true := by first | (simp only [F_laws_FnTimersBent, h8, cond_true, cond_false]; done) | (unfold F_laws_FnTimersBent; try simp only [h8, cond_true, cond_false])
  exact ⟨(({ On := false, Due := 0, Wait := 0, Tries := 0 : PTimer }, 0)), m7.keep0, (by first | trivial | decide | (simp; done)), by rw [hF10]⟩
 have q11 := big_f h8
 refine cf h8 ?_
 refine wc_skip <| wq_then <| sr ?_
 refine mv (vs a1 x_code.length c2) wN ?_
 refine cl wN (C_spec_DrawTimerNext w1 _ x_code (mR_35 (r3.from0 m7) (by omega))) ?_
 rintro _ w2 ⟨d0, k12, rfl, q13⟩
 have m14 := m7.extk k12
 refine mv (.tuple #[(va (L_28 ((d0).1))), (vi ((d0).2))]) wN ?_
 refine pu (va (L_28 ((d0).1))) wN ?_
 refine pu (vi ((d0).2)) wN ?_
 refine al [(vb false), (vi 0), (vi 0), (vi 0)] wN zero_28 ?_
 intro g15 w3 p16 p17 k18 b19
 have m20 := m14.extk k18
 refine st (va (L_28 ((d0).1))) (L_28 ((d0).1)) (L_28 ((d0).1)) wN sizeOf_28 b19 ?_
 intro w4 k21 b22 z23
 have m24 := m20.ext k21 (fun k hk => by subst hk; exact Nat.le_trans (Nat.le_trans k6.size k12.size) p16)
 refine ag (vi ((d0).2)) wN ?_
 refine nx ?_
 refine lN (L_28 ((d0).1)) wN isAgg_28 sizeOf_28 b22 ?_
 refine mv (vi ((d0).2)) wN ?_
 refine cl wN (C_impl_TimerNext w4 _ ((d0).1) (mR_28) ((d0).2)) ?_
 rintro _ w5 ⟨k25, rfl⟩
 have m26 := m24.extk k25
 refine mv (.tuple #[(va (L_28 ((F_impl_TimerNext ((d0).1) ((d0).2)).1))), (vi ((F_impl_TimerNext ((d0).1) ((d0).2)).2))]) wN ?_
 refine pu (va (L_28 ((F_impl_TimerNext ((d0).1) ((d0).2)).1))) wN ?_
 refine pu (vi ((F_impl_TimerNext ((d0).1) ((d0).2)).2)) wN ?_
 refine al [(vb false), (vi 0), (vi 0), (vi 0)] wN zero_28 ?_
 intro g27 w6 p28 p29 k30 b31
 have m32 := m26.extk k30
 refine st (va (L_28 ((F_impl_TimerNext ((d0).1) ((d0).2)).1))) (L_28 ((F_impl_TimerNext ((d0).1) ((d0).2)).1)) (L_28 ((F_impl_TimerNext ((d0).1) ((d0).2)).1)) wN sizeOf_28 b31 ?_
 intro w7 k33 b34 z35
 have m36 := m32.ext k33 (fun k hk => by subst hk; exact Nat.le_trans (t5 k6.size k12.size k18.size k21.size k25.size) p28)
 refine ag (vi ((F_impl_TimerNext ((d0).1) ((d0).2)).2)) wN ?_
 refine nx ?_
 have b37 := (((b22.kp k25).kp k30).ch k33 (Nat.ne_of_lt (Nat.lt_of_lt_of_le p17 (Nat.le_trans (Nat.le_trans k21.size k25.size) p28))))
 refine lN (L_28 ((d0).1)) wN isAgg_28 sizeOf_28 b37 ?_
 refine mv (vi ((d0).2)) wN ?_
 refine cl wN (C_spec_TimerNext w7 _ ((d0).1) (mR_28) ((d0).2)) ?_
 rintro _ w8 ⟨k38, rfl⟩
 have m39 := m36.extk k38
 refine mv (.tuple #[(va (L_28 ((F_spec_TimerNext ((d0).1) ((d0).2)).1))), (vi ((F_spec_TimerNext ((d0).1) ((d0).2)).2))]) wN ?_
 refine pu (va (L_28 ((F_spec_TimerNext ((d0).1) ((d0).2)).1))) wN ?_
 refine pu (vi ((F_spec_TimerNext ((d0).1) ((d0).2)).2)) wN ?_
 refine al [(vb false), (vi 0), (vi 0), (vi 0)] wN zero_28 ?_
 intro g40 w9 p41 p42 k43 b44
 have m45 := m39.extk k43
 refine st (va (L_28 ((F_spec_TimerNext ((d0).1) ((d0).2)).1))) (L_28 ((F_spec_TimerNext ((d0).1) ((d0).2)).1)) (L_28 ((F_spec_TimerNext ((d0).1) ((d0).2)).1)) wN sizeOf_28 b44 ?_
 intro w10 k46 b47 z48
 have m49 := m45.ext k46 (fun k hk => by subst hk; exact Nat.le_trans (t8 k6.size k12.size k18.size k21.size k25.size k30.size k33.size k38.size) p41)
 refine ag (vi ((F_spec_TimerNext ((d0).1) ((d0).2)).2)) wN ?_
 refine nx ?_
 have b50 := (((b34.kp k38).kp k43).ch k46 (Nat.ne_of_lt (Nat.lt_of_lt_of_le p29 (Nat.le_trans (Nat.le_trans k33.size k38.size) p41))))
 refine lN (L_28 ((F_impl_TimerNext ((d0).1) ((d0).2)).1)) wN isAgg_28 sizeOf_28 b50 ?_
 refine lN (L_28 ((F_spec_TimerNext ((d0).1) ((d0).2)).1)) wN isAgg_28 sizeOf_28 b47 ?_
 refine wl_aggeq ((((((F_impl_TimerNext ((d0).1) ((d0).2)).1).On) == (((F_spec_TimerNext ((d0).1) ((d0).2)).1).On)) && (decide ((((F_impl_TimerNext ((d0).1) ((d0).2)).1).Due) = (((F_spec_TimerNext ((d0).1) ((d0).2)).1).Due)) && (decide ((((F_impl_TimerNext ((d0).1) ((d0).2)).1).Wait) = (((F_spec_TimerNext ((d0).1) ((d0).2)).1).Wait)) && decide ((((F_impl_TimerNext ((d0).1) ((d0).2)).1).Tries) = (((F_spec_TimerNext ((d0).1) ((d0).2)).1).Tries)))))) wN rfl rfl rfl rfl rfl guardt_28 (aggeq_28 (((F_impl_TimerNext ((d0).1) ((d0).2)).1).On) (((F_spec_TimerNext ((d0).1) ((d0).2)).1).On) (((F_impl_TimerNext ((d0).1) ((d0).2)).1).Due) (((F_spec_TimerNext ((d0).1) ((d0).2)).1).Due) (((F_impl_TimerNext ((d0).1) ((d0).2)).1).Wait) (((F_spec_TimerNext ((d0).1) ((d0).2)).1).Wait) (((F_impl_TimerNext ((d0).1) ((d0).2)).1).Tries) (((F_spec_TimerNext ((d0).1) ((d0).2)).1).Tries) w10) ?_
 refine mv (vb (((((F_impl_TimerNext ((d0).1) ((d0).2)).1).On) == (((F_spec_TimerNext ((d0).1) ((d0).2)).1).On)) && (decide ((((F_impl_TimerNext ((d0).1) ((d0).2)).1).Due) = (((F_spec_TimerNext ((d0).1) ((d0).2)).1).Due)) && (decide ((((F_impl_TimerNext ((d0).1) ((d0).2)).1).Wait) = (((F_spec_TimerNext ((d0).1) ((d0).2)).1).Wait)) && decide ((((F_impl_TimerNext ((d0).1) ((d0).2)).1).Tries) = (((F_spec_TimerNext ((d0).1) ((d0).2)).1).Tries)))))) wN ?_
 rcases bf (((((F_impl_TimerNext ((d0).1) ((d0).2)).1).On) == (((F_spec_TimerNext ((d0).1) ((d0).2)).1).On)) && (decide ((((F_impl_TimerNext ((d0).1) ((d0).2)).1).Due) = (((F_spec_TimerNext ((d0).1) ((d0).2)).1).Due)) && (decide ((((F_impl_TimerNext ((d0).1) ((d0).2)).1).Wait) = (((F_spec_TimerNext ((d0).1) ((d0).2)).1).Wait)) && decide ((((F_impl_TimerNext ((d0).1) ((d0).2)).1).Tries) = (((F_spec_TimerNext ((d0).1) ((d0).2)).1).Tries))))) with h51 | h51
 ·refine sk h51 ?_
  refine sk h51 ?_
  refine sk h51 ?_
  refine pf (vb false) wN h51 ?_
  refine mv (vb false) wN ?_
  refine sk (Eq.refl false) ?_
  refine sk (Eq.refl false) ?_
  refine sk (Eq.refl false) ?_
  refine sk (Eq.refl false) ?_
  refine sk (Eq.refl false) ?_
  refine sk (Eq.refl false) ?_
  refine sk (Eq.refl false) ?_
  refine pf (vb false) wN (Eq.refl false) ?_
  refine mv (vb false) wN ?_
  refine sk (Eq.refl false) ?_
  refine sk (Eq.refl false) ?_
  refine sk (Eq.refl false) ?_
  refine su ?_
  refine su ?_
  refine su ?_
  refine sk (Eq.refl false) ?_
  refine pf (vb false) wN (Eq.refl false) ?_
  refine mv (vb false) wN ?_
  refine sk (Eq.refl false) ?_
  refine sk (Eq.refl false) ?_
  refine sk (Eq.refl false) ?_
  refine su ?_
  refine su ?_
  refine su ?_
  refine sk (Eq.refl false) ?_
  refine pf (vb false) wN (Eq.refl false) ?_
  refine ag (vb false) wN ?_
  refine wl_nil <| wq_then <| wc_ret ?_
  refine ret_1 (.inl rfl) (vb false) rfl rfl ?_
  have hF85 : F_laws_FnTimersBent x_code d0 = false := by first | (simp only [F_laws_FnTimersBent, h8, h51, cond_true, cond_false]; done) | (unfold F_laws_FnTimersBent; try simp only [h8, cond_true, cond_false]; try simp only [h51, cond_true, cond_false])
  exact ⟨d0, m49.keep0, q13, by rw [hF85]⟩
 refine mv (vi ((F_impl_TimerNext ((d0).1) ((d0).2)).2)) (wS h51) ?_
 refine mv (vi ((F_spec_TimerNext ((d0).1) ((d0).2)).2)) (wS h51) ?_
 refine pu (vb (decide ((F_impl_TimerNext ((d0).1) ((d0).2)).2 = (F_spec_TimerNext ((d0).1) ((d0).2)).2))) (wS h51) ?_
 refine pk (vb (decide ((F_impl_TimerNext ((d0).1) ((d0).2)).2 = (F_spec_TimerNext ((d0).1) ((d0).2)).2))) wN h51 ?_
 refine mv (vb (decide ((F_impl_TimerNext ((d0).1) ((d0).2)).2 = (F_spec_TimerNext ((d0).1) ((d0).2)).2))) wN ?_
 rcases bf (decide ((F_impl_TimerNext ((d0).1) ((d0).2)).2 = (F_spec_TimerNext ((d0).1) ((d0).2)).2)) with h53 | h53
 ·have q82 := of_decide_eq_false h53
  refine sk h53 ?_
  refine sk h53 ?_
  refine sk h53 ?_
  refine sk h53 ?_
  refine sk h53 ?_
  refine sk h53 ?_
  refine sk h53 ?_
  refine pf (vb false) wN h53 ?_
  refine mv (vb false) wN ?_
  refine sk (Eq.refl false) ?_
  refine sk (Eq.refl false) ?_
  refine sk (Eq.refl false) ?_
  refine su ?_
  refine su ?_
  refine su ?_
  refine sk (Eq.refl false) ?_
  refine pf (vb false) wN (Eq.refl false) ?_
  refine mv (vb false) wN ?_
  refine sk (Eq.refl false) ?_
  refine sk (Eq.refl false) ?_
  refine sk (Eq.refl false) ?_
  refine su ?_
  refine su ?_
  refine su ?_
  refine sk (Eq.refl false) ?_
  refine pf (vb false) wN (Eq.refl false) ?_
  refine ag (vb false) wN ?_
  refine wl_nil <| wq_then <| wc_ret ?_
  refine ret_1 (.inl rfl) (vb false) rfl rfl ?_
  have hF83 : F_laws_FnTimersBent x_code d0 = false := by first | (simp only [F_laws_FnTimersBent, h8, h51, h53, cond_true, cond_false]; done) | (unfold F_laws_FnTimersBent; try simp only [h8, cond_true, cond_false]; try simp only [h51, cond_true, cond_false]; try simp only [h53, cond_true, cond_false])
  exact ⟨d0, m49.keep0, q13, by rw [hF83]⟩
 have q54 := of_decide_eq_true h53
 refine mv (vi ((F_impl_TimerNext ((d0).1) ((d0).2)).2)) (wS h53) ?_
 refine pu (vb (decide ((F_impl_TimerNext ((d0).1) ((d0).2)).2 = 0))) (wS h53) ?_
 have b55 := (((b37.kp k38).kp k43).ch k46 (Nat.ne_of_lt (Nat.lt_of_lt_of_le p17 (Nat.le_trans (t5 k21.size k25.size k30.size k33.size k38.size) p41))))
 refine lN (L_28 ((d0).1)) (wS h53) isAgg_28 sizeOf_28 b55 ?_
 refine mv (vi ((d0).2)) (wS h53) ?_
 refine cl (wS h53) (C_impl_TimerFires w10 _ ((d0).1) (mR_28) ((d0).2)) ?_
 rintro _ w11 ⟨k56, rfl⟩
 have m57 := m49.extk k56
 refine pu (vb (!(F_impl_TimerFires ((d0).1) ((d0).2)))) (wS h53) ?_
 refine pu (vb ((decide ((F_impl_TimerNext ((d0).1) ((d0).2)).2 = 0)) == (!(F_impl_TimerFires ((d0).1) ((d0).2))))) (wS h53) ?_
 refine pk (vb ((decide ((F_impl_TimerNext ((d0).1) ((d0).2)).2 = 0)) == (!(F_impl_TimerFires ((d0).1) ((d0).2))))) wN h53 ?_
 refine mv (vb ((decide ((F_impl_TimerNext ((d0).1) ((d0).2)).2 = 0)) == (!(F_impl_TimerFires ((d0).1) ((d0).2))))) wN ?_
 rcases bf ((decide ((F_impl_TimerNext ((d0).1) ((d0).2)).2 = 0)) == (!(F_impl_TimerFires ((d0).1) ((d0).2)))) with h58 | h58
 ·refine sk h58 ?_
  refine sk h58 ?_
  refine sk h58 ?_
  refine su ?_
  refine su ?_
  refine su ?_
  refine sk h58 ?_
  refine pf (vb false) wN h58 ?_
  refine mv (vb false) wN ?_
  refine sk (Eq.refl false) ?_
  refine sk (Eq.refl false) ?_
  refine sk (Eq.refl false) ?_
  refine su ?_
  refine su ?_
  refine su ?_
  refine sk (Eq.refl false) ?_
  refine pf (vb false) wN (Eq.refl false) ?_
  refine ag (vb false) wN ?_
  refine wl_nil <| wq_then <| wc_ret ?_
  refine ret_1 (.inl rfl) (vb false) rfl rfl ?_
  have hF81 : F_laws_FnTimersBent x_code d0 = false := by first | (simp only [F_laws_FnTimersBent, h8, h51, h53, h58, cond_true, cond_false]; done) | (unfold F_laws_FnTimersBent; try simp only [h8, cond_true, cond_false]; try simp only [h51, cond_true, cond_false]; try simp only [h53, cond_true, cond_false]; try simp only [h58, cond_true, cond_false])
  exact ⟨d0, m57.keep0, q13, by rw [hF81]⟩
 refine mv (vi ((F_impl_TimerNext ((d0).1) ((d0).2)).2)) (wS h58) ?_
 refine pu (vb (!(decide ((F_impl_TimerNext ((d0).1) ((d0).2)).2 = 0)))) (wS h58) ?_
 refine mv (vb (!(decide ((F_impl_TimerNext ((d0).1) ((d0).2)).2 = 0)))) (wS h58) ?_
 rcases bf (decide ((F_impl_TimerNext ((d0).1) ((d0).2)).2 = 0)) with h60 | h60
 ·have q73 := of_decide_eq_false h60
  refine sk (congrArg not h60) ?_
  refine sk (congrArg not h60) ?_
  refine sk (congrArg not h60) ?_
  refine pk (vb true) (wS h58) (congrArg not h60) ?_
  refine pk (vb true) wN h58 ?_
  refine mv (vb true) wN ?_
  refine mv (vi ((F_impl_TimerNext ((d0).1) ((d0).2)).2)) (wS (Eq.refl true)) ?_
  refine pu (vb (!(decide ((F_impl_TimerNext ((d0).1) ((d0).2)).2 = 2)))) (wS (Eq.refl true)) ?_
  refine mv (vb (!(decide ((F_impl_TimerNext ((d0).1) ((d0).2)).2 = 2)))) (wS (Eq.refl true)) ?_
  rcases bf (decide ((F_impl_TimerNext ((d0).1) ((d0).2)).2 = 2)) with h74 | h74
  ·have q78 := of_decide_eq_false h74
   refine sk (congrArg not h74) ?_
   refine sk (congrArg not h74) ?_
   refine sk (congrArg not h74) ?_
   refine pk (vb true) (wS (Eq.refl true)) (congrArg not h74) ?_
   refine pk (vb true) wN (Eq.refl true) ?_
   refine ag (vb true) wN ?_
   refine wl_nil <| wq_then <| wc_ret ?_
   refine ret_1 (.inl rfl) (vb true) rfl rfl ?_
   have hF79 : F_laws_FnTimersBent x_code d0 = true := by first | (simp only [F_laws_FnTimersBent, h8, h51, h53, h58, h60, h74, cond_true, cond_false]; done) | (unfold F_laws_FnTimersBent; try simp only [h8, cond_true, cond_false]; try simp only [h51, cond_true, cond_false]; try simp only [h53, cond_true, cond_false]; try simp only [h58, cond_true, cond_false]; try simp only [h60, cond_true, cond_false]; try simp only [h74, cond_true, cond_false])
   exact ⟨d0, m57.keep0, q13, by rw [hF79]⟩
  have q75 := of_decide_eq_true h74
  refine pu (vp g27 0) (wS (congrArg not h74)) ?_
  have b76 := (b50.kp k56)
  refine ld (vb (((F_impl_TimerNext ((d0).1) ((d0).2)).1).On)) (wS (congrArg not h74)) isAgg_4 b76 ?_
  refine pu (vb (!(((F_impl_TimerNext ((d0).1) ((d0).2)).1).On))) (wS (congrArg not h74)) ?_
  refine pf (vb (!(((F_impl_TimerNext ((d0).1) ((d0).2)).1).On))) (wS (Eq.refl true)) (congrArg not h74) ?_
  refine pk (vb (!(((F_impl_TimerNext ((d0).1) ((d0).2)).1).On))) wN (Eq.refl true) ?_
  refine ag (vb (!(((F_impl_TimerNext ((d0).1) ((d0).2)).1).On))) wN ?_
  refine wl_nil <| wq_then <| wc_ret ?_
  refine ret_1 (.inl rfl) (vb (!(((F_impl_TimerNext ((d0).1) ((d0).2)).1).On))) rfl rfl ?_
  have hF77 : F_laws_FnTimersBent x_code d0 = !(((F_impl_TimerNext ((d0).1) ((d0).2)).1).On) := by first | (simp only [F_laws_FnTimersBent, h8, h51, h53, h58, h60, h74, cond_true, cond_false]; done) | (unfold F_laws_FnTimersBent; try simp only [h8, cond_true, cond_false]; try simp only [h51, cond_true, cond_false]; try simp only [h53, cond_true, cond_false]; try simp only [h58, cond_true, cond_false]; try simp only [h60, cond_true, cond_false]; try simp only [h74, cond_true, cond_false])
  exact ⟨d0, m57.keep0, q13, by rw [hF77]⟩
 have q61 := of_decide_eq_true h60
 have b62 := (b50.kp k56)
 refine lN (L_28 ((F_impl_TimerNext ((d0).1) ((d0).2)).1)) (wS (congrArg not h60)) isAgg_28 sizeOf_28 b62 ?_
 have b63 := (b55.kp k56)
 refine lN (L_28 ((d0).1)) (wS (congrArg not h60)) isAgg_28 sizeOf_28 b63 ?_
 refine wl_aggeq ((((((F_impl_TimerNext ((d0).1) ((d0).2)).1).On) == (((d0).1).On)) && (decide ((((F_impl_TimerNext ((d0).1) ((d0).2)).1).Due) = (((d0).1).Due)) && (decide ((((F_impl_TimerNext ((d0).1) ((d0).2)).1).Wait) = (((d0).1).Wait)) && decide ((((F_impl_TimerNext ((d0).1) ((d0).2)).1).Tries) = (((d0).1).Tries)))))) (wS (congrArg not h60)) rfl rfl rfl rfl rfl guardt_28 (aggeq_28 (((F_impl_TimerNext ((d0).1) ((d0).2)).1).On) (((d0).1).On) (((F_impl_TimerNext ((d0).1) ((d0).2)).1).Due) (((d0).1).Due) (((F_impl_TimerNext ((d0).1) ((d0).2)).1).Wait) (((d0).1).Wait) (((F_impl_TimerNext ((d0).1) ((d0).2)).1).Tries) (((d0).1).Tries) w11) ?_
 refine pf (vb (((((F_impl_TimerNext ((d0).1) ((d0).2)).1).On) == (((d0).1).On)) && (decide ((((F_impl_TimerNext ((d0).1) ((d0).2)).1).Due) = (((d0).1).Due)) && (decide ((((F_impl_TimerNext ((d0).1) ((d0).2)).1).Wait) = (((d0).1).Wait)) && decide ((((F_impl_TimerNext ((d0).1) ((d0).2)).1).Tries) = (((d0).1).Tries)))))) (wS h58) (congrArg not h60) ?_
 refine pk (vb (((((F_impl_TimerNext ((d0).1) ((d0).2)).1).On) == (((d0).1).On)) && (decide ((((F_impl_TimerNext ((d0).1) ((d0).2)).1).Due) = (((d0).1).Due)) && (decide ((((F_impl_TimerNext ((d0).1) ((d0).2)).1).Wait) = (((d0).1).Wait)) && decide ((((F_impl_TimerNext ((d0).1) ((d0).2)).1).Tries) = (((d0).1).Tries)))))) wN h58 ?_
 refine mv (vb (((((F_impl_TimerNext ((d0).1) ((d0).2)).1).On) == (((d0).1).On)) && (decide ((((F_impl_TimerNext ((d0).1) ((d0).2)).1).Due) = (((d0).1).Due)) && (decide ((((F_impl_TimerNext ((d0).1) ((d0).2)).1).Wait) = (((d0).1).Wait)) && decide ((((F_impl_TimerNext ((d0).1) ((d0).2)).1).Tries) = (((d0).1).Tries)))))) wN ?_
 rcases bf (((((F_impl_TimerNext ((d0).1) ((d0).2)).1).On) == (((d0).1).On)) && (decide ((((F_impl_TimerNext ((d0).1) ((d0).2)).1).Due) = (((d0).1).Due)) && (decide ((((F_impl_TimerNext ((d0).1) ((d0).2)).1).Wait) = (((d0).1).Wait)) && decide ((((F_impl_TimerNext ((d0).1) ((d0).2)).1).Tries) = (((d0).1).Tries))))) with h64 | h64
 ·refine sk h64 ?_
  refine sk h64 ?_
  refine sk h64 ?_
  refine su ?_
  refine su ?_
  refine su ?_
  refine sk h64 ?_
  refine pf (vb false) wN h64 ?_
  refine ag (vb false) wN ?_
  refine wl_nil <| wq_then <| wc_ret ?_
  refine ret_1 (.inl rfl) (vb false) rfl rfl ?_
  have hF72 : F_laws_FnTimersBent x_code d0 = false := by first | (simp only [F_laws_FnTimersBent, h8, h51, h53, h58, h60, h64, cond_true, cond_false]; done) | (unfold F_laws_FnTimersBent; try simp only [h8, cond_true, cond_false]; try simp only [h51, cond_true, cond_false]; try simp only [h53, cond_true, cond_false]; try simp only [h58, cond_true, cond_false]; try simp only [h60, cond_true, cond_false]; try simp only [h64, cond_true, cond_false])
  exact ⟨d0, m57.keep0, q13, by rw [hF72]⟩
 refine mv (vi ((F_impl_TimerNext ((d0).1) ((d0).2)).2)) (wS h64) ?_
 refine pu (vb (!(decide ((F_impl_TimerNext ((d0).1) ((d0).2)).2 = 2)))) (wS h64) ?_
 refine mv (vb (!(decide ((F_impl_TimerNext ((d0).1) ((d0).2)).2 = 2)))) (wS h64) ?_
 rcases bf (decide ((F_impl_TimerNext ((d0).1) ((d0).2)).2 = 2)) with h66 | h66
 ·have q69 := of_decide_eq_false h66
  refine sk (congrArg not h66) ?_
  refine sk (congrArg not h66) ?_
  refine sk (congrArg not h66) ?_
  refine pk (vb true) (wS h64) (congrArg not h66) ?_
  refine pk (vb true) wN h64 ?_
  refine ag (vb true) wN ?_
  refine wl_nil <| wq_then <| wc_ret ?_
  refine ret_1 (.inl rfl) (vb true) rfl rfl ?_
  have hF70 : F_laws_FnTimersBent x_code d0 = true := by first | (simp only [F_laws_FnTimersBent, h8, h51, h53, h58, h60, h64, h66, cond_true, cond_false]; done) | (unfold F_laws_FnTimersBent; try simp only [h8, cond_true, cond_false]; try simp only [h51, cond_true, cond_false]; try simp only [h53, cond_true, cond_false]; try simp only [h58, cond_true, cond_false]; try simp only [h60, cond_true, cond_false]; try simp only [h64, cond_true, cond_false]; try simp only [h66, cond_true, cond_false])
  exact ⟨d0, m57.keep0, q13, by rw [hF70]⟩
 have q67 := of_decide_eq_true h66
 refine pu (vp g27 0) (wS (congrArg not h66)) ?_
 refine ld (vb (((F_impl_TimerNext ((d0).1) ((d0).2)).1).On)) (wS (congrArg not h66)) isAgg_4 b62 ?_
 refine pu (vb (!(((F_impl_TimerNext ((d0).1) ((d0).2)).1).On))) (wS (congrArg not h66)) ?_
 refine pf (vb (!(((F_impl_TimerNext ((d0).1) ((d0).2)).1).On))) (wS h64) (congrArg not h66) ?_
 refine pk (vb (!(((F_impl_TimerNext ((d0).1) ((d0).2)).1).On))) wN h64 ?_
 refine ag (vb (!(((F_impl_TimerNext ((d0).1) ((d0).2)).1).On))) wN ?_
 refine wl_nil <| wq_then <| wc_ret ?_
 refine ret_1 (.inl rfl) (vb (!(((F_impl_TimerNext ((d0).1) ((d0).2)).1).On))) rfl rfl ?_
 have hF68 : F_laws_FnTimersBent x_code d0 = !(((F_impl_TimerNext ((d0).1) ((d0).2)).1).On) := by first | (simp only [F_laws_FnTimersBent, h8, h51, h53, h58, h60, h64, h66, cond_true, cond_false]; done) | (unfold F_laws_FnTimersBent; try simp only [h8, cond_true, cond_false]; try simp only [h51, cond_true, cond_false]; try simp only [h53, cond_true, cond_false]; try simp only [h58, cond_true, cond_false]; try simp only [h60, cond_true, cond_false]; try simp only [h64, cond_true, cond_false]; try simp only [h66, cond_true, cond_false])
 exact ⟨d0, m57.keep0, q13, by rw [hF68]⟩
end Go.Proofs.Ytacefhmlgneegaa.K
