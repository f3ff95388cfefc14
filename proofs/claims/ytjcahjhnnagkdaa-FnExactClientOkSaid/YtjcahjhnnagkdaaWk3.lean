import Derived.Test.YtjcahjhnnagkdaaCore
import Derived.Test.YtjcahjhnnagkdaaProg
import Derived.Test.YtjcahjhnnagkdaaHeld
import Derived.Test.YtjcahjhnnagkdaaFun
import Derived.Test.YtjcahjhnnagkdaaFunZ
import Derived.Test.YtjcahjhnnagkdaaDraw
import Derived.Test.YtjcahjhnnagkdaaWk2
namespace Go.Proofs.Ytjcahjhnnagkdaa.K
open Go.RowKit
set_option linter.unusedVariables false
set_option linter.unusedSimpArgs false
set_option maxRecDepth 100000
def F_impl_sameEp (x_a : PEp) (x_b : PEp) : (Bool) := bif (decide (x_a.N = x_b.N)) then (bif (F_bytes_Equal x_a.Key x_b.Key) then (bif (decide (x_a.Seq = x_b.Seq)) then (bif (decide (x_a.Win.Top = x_b.Win.Top)) then ((eqI x_a.Win.Bits x_b.Win.Bits)) else (false)) else (false)) else (false)) else (false)
theorem C_impl_sameEp (w0 : World) (v_x_a : Value) (x_a : PEp) (r_x_a : R_92 w0 v_x_a x_a) (v_x_b : Value) (x_b : PEp) (r_x_b : R_92 w0 v_x_b x_b)  : Fn Try.prog 159 #[v_x_a, v_x_b] w0 (fun v w' => Keep w0 w' ∧ O_4 w' w0.heap.size v (F_impl_sameEp x_a x_b)) := by
 obtain ⟨a1, c2, a6, c7, rfl, r3, s4, r8, s9⟩ := r_x_a
 obtain ⟨a11, c12, a16, c17, rfl, r13, s14, r18, s19⟩ := r_x_b
 refine fn_of (n := 42) (l := [(va (L_92 x_a a1 c2 a6 c7)), (va (L_92 x_b a11 c12 a16 c17)), U, U, U, U, U, U, U, U, U, U, U, U, U, U, U, U, U, U, U, U, U, U, U, U, U, U, U, U, U, U, U, U, U, U, U, U, U, U, U, U]) Try.func159 rfl rfl (by kernel_rfl) rfl ?_
 refine sr ?_
 refine bx (L_92 x_a a1 c2 a6 c7) wN ?_
 intro g21 w1 p22 p23 k24 b25
 have m26 := (Ch.base w0).extk k24
 refine bx (L_92 x_b a11 c12 a16 c17) wN ?_
 intro g27 w2 p28 p29 k30 b31
 have m32 := m26.extk k30
 refine ag (vb false) wN ?_
 refine nx ?_
 refine pu (vp g21 0) wN ?_
 have b33 := (b25.kp k30)
 refine ld (vi x_a.N) wN isAgg_3 b33 ?_
 refine pu (vp g27 0) wN ?_
 refine ld (vi x_b.N) wN isAgg_3 b31 ?_
 refine pu (vb (decide (x_a.N = x_b.N))) wN ?_
 refine mv (vb (decide (x_a.N = x_b.N))) wN ?_
 rcases bf (decide (x_a.N = x_b.N)) with h34 | h34
 ·have q55 := of_decide_eq_false h34
  refine sk h34 ?_
  refine sk h34 ?_
  refine sk h34 ?_
  refine sk h34 ?_
  refine sk h34 ?_
  refine pf (vb false) wN h34 ?_
  refine mv (vb false) wN ?_
  refine sk (Eq.refl false) ?_
  refine sk (Eq.refl false) ?_
  refine sk (Eq.refl false) ?_
  refine sk (Eq.refl false) ?_
  refine sk (Eq.refl false) ?_
  refine pf (vb false) wN (Eq.refl false) ?_
  refine mv (vb false) wN ?_
  refine sk (Eq.refl false) ?_
  refine sk (Eq.refl false) ?_
  refine sk (Eq.refl false) ?_
  refine sk (Eq.refl false) ?_
  refine sk (Eq.refl false) ?_
  refine sk (Eq.refl false) ?_
  refine sk (Eq.refl false) ?_
  refine pf (vb false) wN (Eq.refl false) ?_
  refine mv (vb false) wN ?_
  refine sk (Eq.refl false) ?_
  refine sk (Eq.refl false) ?_
  refine sk (Eq.refl false) ?_
  refine sk (Eq.refl false) ?_
  refine sk (Eq.refl false) ?_
  refine sk (Eq.refl false) ?_
  refine sk (Eq.refl false) ?_
  refine pf (vb false) wN (Eq.refl false) ?_
  refine ag (vb false) wN ?_
  refine wl_nil <| wq_then <| wc_ret ?_
  refine ret_1 (.inl rfl) (vb false) rfl rfl ?_
  refine ⟨m32.keep0, ?_⟩
  have hF56 : F_impl_sameEp x_a x_b = false := by simp only [F_impl_sameEp, h34, cond_true, cond_false]
  rw [hF56]
  exact rfl
 have q35 := of_decide_eq_true h34
 refine pu (vp g21 1) (wS h34) ?_
 refine ld (vs a1 x_a.Key.length c2) (wS h34) isAgg_22 b33 ?_
 refine pu (vp g27 1) (wS h34) ?_
 refine ld (vs a11 x_b.Key.length c12) (wS h34) isAgg_22 b31 ?_
 refine cl (wS h34) (C_bytes_Equal w2 _ x_a.Key (mR_22 (r3.from0 m32) s4) _ x_b.Key (mR_22 (r13.from0 m32) s14)) ?_
 rintro _ w3 ⟨k36, rfl⟩
 have m37 := m32.extk k36
 refine pk (vb (F_bytes_Equal x_a.Key x_b.Key)) wN h34 ?_
 refine mv (vb (F_bytes_Equal x_a.Key x_b.Key)) wN ?_
 rcases bf (F_bytes_Equal x_a.Key x_b.Key) with h38 | h38
 ·refine sk h38 ?_
  refine sk h38 ?_
  refine sk h38 ?_
  refine sk h38 ?_
  refine sk h38 ?_
  refine pf (vb false) wN h38 ?_
  refine mv (vb false) wN ?_
  refine sk (Eq.refl false) ?_
  refine sk (Eq.refl false) ?_
  refine sk (Eq.refl false) ?_
  refine sk (Eq.refl false) ?_
  refine sk (Eq.refl false) ?_
  refine sk (Eq.refl false) ?_
  refine sk (Eq.refl false) ?_
  refine pf (vb false) wN (Eq.refl false) ?_
  refine mv (vb false) wN ?_
  refine sk (Eq.refl false) ?_
  refine sk (Eq.refl false) ?_
  refine sk (Eq.refl false) ?_
  refine sk (Eq.refl false) ?_
  refine sk (Eq.refl false) ?_
  refine sk (Eq.refl false) ?_
  refine sk (Eq.refl false) ?_
  refine pf (vb false) wN (Eq.refl false) ?_
  refine ag (vb false) wN ?_
  refine wl_nil <| wq_then <| wc_ret ?_
  refine ret_1 (.inl rfl) (vb false) rfl rfl ?_
  refine ⟨m37.keep0, ?_⟩
  have hF54 : F_impl_sameEp x_a x_b = false := by simp only [F_impl_sameEp, h34, h38, cond_true, cond_false]
  rw [hF54]
  exact rfl
 refine pu (vp g21 2) (wS h38) ?_
 have b40 := (b33.kp k36)
 refine ld (vi x_a.Seq) (wS h38) isAgg_3 b40 ?_
 refine pu (vp g27 2) (wS h38) ?_
 have b41 := (b31.kp k36)
 refine ld (vi x_b.Seq) (wS h38) isAgg_3 b41 ?_
 refine pu (vb (decide (x_a.Seq = x_b.Seq))) (wS h38) ?_
 refine pk (vb (decide (x_a.Seq = x_b.Seq))) wN h38 ?_
 refine mv (vb (decide (x_a.Seq = x_b.Seq))) wN ?_
 rcases bf (decide (x_a.Seq = x_b.Seq)) with h42 | h42
 ·have q51 := of_decide_eq_false h42
  refine sk h42 ?_
  refine sk h42 ?_
  refine sk h42 ?_
  refine sk h42 ?_
  refine sk h42 ?_
  refine sk h42 ?_
  refine sk h42 ?_
  refine pf (vb false) wN h42 ?_
  refine mv (vb false) wN ?_
  refine sk (Eq.refl false) ?_
  refine sk (Eq.refl false) ?_
  refine sk (Eq.refl false) ?_
  refine sk (Eq.refl false) ?_
  refine sk (Eq.refl false) ?_
  refine sk (Eq.refl false) ?_
  refine sk (Eq.refl false) ?_
  refine pf (vb false) wN (Eq.refl false) ?_
  refine ag (vb false) wN ?_
  refine wl_nil <| wq_then <| wc_ret ?_
  refine ret_1 (.inl rfl) (vb false) rfl rfl ?_
  refine ⟨m37.keep0, ?_⟩
  have hF52 : F_impl_sameEp x_a x_b = false := by simp only [F_impl_sameEp, h34, h38, h42, cond_true, cond_false]
  rw [hF52]
  exact rfl
 have q43 := of_decide_eq_true h42
 refine pu (vp g21 3) (wS h42) ?_
 refine pu (vp g21 3) (wS h42) ?_
 refine ld (vi x_a.Win.Top) (wS h42) isAgg_3 b40 ?_
 refine pu (vp g27 3) (wS h42) ?_
 refine pu (vp g27 3) (wS h42) ?_
 refine ld (vi x_b.Win.Top) (wS h42) isAgg_3 b41 ?_
 refine pu (vb (decide (x_a.Win.Top = x_b.Win.Top))) (wS h42) ?_
 refine pk (vb (decide (x_a.Win.Top = x_b.Win.Top))) wN h42 ?_
 refine mv (vb (decide (x_a.Win.Top = x_b.Win.Top))) wN ?_
 rcases bf (decide (x_a.Win.Top = x_b.Win.Top)) with h44 | h44
 ·have q49 := of_decide_eq_false h44
  refine sk h44 ?_
  refine sk h44 ?_
  refine sk h44 ?_
  refine sk h44 ?_
  refine sk h44 ?_
  refine sk h44 ?_
  refine sk h44 ?_
  refine pf (vb false) wN h44 ?_
  refine ag (vb false) wN ?_
  refine wl_nil <| wq_then <| wc_ret ?_
  refine ret_1 (.inl rfl) (vb false) rfl rfl ?_
  refine ⟨m37.keep0, ?_⟩
  have hF50 : F_impl_sameEp x_a x_b = false := by simp only [F_impl_sameEp, h34, h38, h42, h44, cond_true, cond_false]
  rw [hF50]
  exact rfl
 have q45 := of_decide_eq_true h44
 refine pu (vp g21 3) (wS h44) ?_
 refine pu (vp g21 4) (wS h44) ?_
 refine ld (vs a6 x_a.Win.Bits.length c7) (wS h44) isAgg_88 b40 ?_
 refine pu (vp g27 3) (wS h44) ?_
 refine pu (vp g27 4) (wS h44) ?_
 refine ld (vs a16 x_b.Win.Bits.length c17) (wS h44) isAgg_88 b41 ?_
 refine cl (wS h44) (C_impl_sameInts w3 _ x_a.Win.Bits (mR_88 (r8.from0 m37) s9) _ x_b.Win.Bits (mR_88 (r18.from0 m37) s19)) ?_
 rintro _ w4 ⟨k46, rfl⟩
 have m47 := m37.extk k46
 refine pk (vb (eqI x_a.Win.Bits x_b.Win.Bits)) wN h44 ?_
 refine ag (vb (eqI x_a.Win.Bits x_b.Win.Bits)) wN ?_
 refine wl_nil <| wq_then <| wc_ret ?_
 refine ret_1 (.inl rfl) (vb (eqI x_a.Win.Bits x_b.Win.Bits)) rfl rfl ?_
 refine ⟨m47.keep0, ?_⟩
 have hF48 : F_impl_sameEp x_a x_b = (eqI x_a.Win.Bits x_b.Win.Bits) := by simp only [F_impl_sameEp, h34, h38, h42, h44, cond_true, cond_false]
 rw [hF48]
 exact rfl

def F_impl_isZeroChan (x_c : PChan) : (Bool) := bif (decide (x_c.Role = 0)) then (bif (decide ((x_c.Sn.length : Int) = 0)) then (bif (F_impl_sameEp x_c.Cur { N := 0, Key := [], Seq := 0, Win := { Top := 0, Bits := [] : PWin } : PEp }) then (bif (F_impl_sameEp x_c.Old { N := 0, Key := [], Seq := 0, Win := { Top := 0, Bits := [] : PWin } : PEp }) then (bif x_c.HasOld then (false) else (bif (decide (x_c.Until = 0)) then (decide ((x_c.Next.length : Int) = 0)) else (false))) else (false)) else (false)) else (false)) else (false)
theorem C_impl_isZeroChan (w0 : World) (v_x_c : Value) (x_c : PChan) (r_x_c : R_94 w0 v_x_c x_c)  : Fn Try.prog 138 #[v_x_c] w0 (fun v w' => Keep w0 w' ∧ O_4 w' w0.heap.size v (F_impl_isZeroChan x_c)) := by
 obtain ⟨a1, c2, a6, c7, a11, c12, a16, c17, a21, c22, a26, c27, rfl, r3, s4, r8, s9, r13, s14, r18, s19, r23, s24, r28, s29⟩ := r_x_c
 refine fn_of (n := 40) (l := [(va (L_94 x_c a1 c2 a6 c7 a11 c12 a16 c17 a21 c22 a26 c27)), U, U, U, U, U, U, U, U, U, U, U, U, U, U, U, U, U, U, U, U, U, U, U, U, U, U, U, U, U, U, U, U, U, U, U, U, U, U, U]) Try.func138 rfl rfl (by kernel_rfl) rfl ?_
 refine sr ?_
 refine bx (L_94 x_c a1 c2 a6 c7 a11 c12 a16 c17 a21 c22 a26 c27) wN ?_
 intro g31 w1 p32 p33 k34 b35
 have m36 := (Ch.base w0).extk k34
 refine ag (vb false) wN ?_
 refine nx ?_
 refine pu (vp g31 0) wN ?_
 refine ld (vi x_c.Role) wN isAgg_3 b35 ?_
 refine pu (vb (decide (x_c.Role = 0))) wN ?_
 refine mv (vb (decide (x_c.Role = 0))) wN ?_
 rcases bf (decide (x_c.Role = 0)) with h37 | h37
 ·have q66 := of_decide_eq_false h37
  refine sk h37 ?_
  refine sk h37 ?_
  refine sk h37 ?_
  refine sk h37 ?_
  refine pf (vb false) wN h37 ?_
  refine mv (vb false) wN ?_
  refine sk (Eq.refl false) ?_
  refine sk (Eq.refl false) ?_
  refine sk (Eq.refl false) ?_
  refine sk (Eq.refl false) ?_
  refine pf (vb false) wN (Eq.refl false) ?_
  refine mv (vb false) wN ?_
  refine sk (Eq.refl false) ?_
  refine sk (Eq.refl false) ?_
  refine sk (Eq.refl false) ?_
  refine sk (Eq.refl false) ?_
  refine pf (vb false) wN (Eq.refl false) ?_
  refine mv (vb false) wN ?_
  refine sk (Eq.refl false) ?_
  refine sk (Eq.refl false) ?_
  refine sk (Eq.refl false) ?_
  refine pf (vb false) wN (Eq.refl false) ?_
  refine mv (vb false) wN ?_
  refine sk (Eq.refl false) ?_
  refine sk (Eq.refl false) ?_
  refine sk (Eq.refl false) ?_
  refine pf (vb false) wN (Eq.refl false) ?_
  refine mv (vb false) wN ?_
  refine sk (Eq.refl false) ?_
  refine sk (Eq.refl false) ?_
  refine sk (Eq.refl false) ?_
  refine sk (Eq.refl false) ?_
  refine pf (vb false) wN (Eq.refl false) ?_
  refine ag (vb false) wN ?_
  refine wl_nil <| wq_then <| wc_ret ?_
  refine ret_1 (.inl rfl) (vb false) rfl rfl ?_
  refine ⟨m36.keep0, ?_⟩
  have hF67 : F_impl_isZeroChan x_c = false := by simp only [F_impl_isZeroChan, h37, cond_true, cond_false]
  rw [hF67]
  exact rfl
 have q38 := of_decide_eq_true h37
 refine pu (vp g31 1) (wS h37) ?_
 refine ld (vs a1 x_c.Sn.length c2) (wS h37) isAgg_22 b35 ?_
 refine ln (wS h37) slTy_22 (r3.from0 m36) ?_
 refine pu (vb (decide ((x_c.Sn.length : Int) = 0))) (wS h37) ?_
 refine pk (vb (decide ((x_c.Sn.length : Int) = 0))) wN h37 ?_
 refine mv (vb (decide ((x_c.Sn.length : Int) = 0))) wN ?_
 rcases bf (decide ((x_c.Sn.length : Int) = 0)) with h39 | h39
 ·have q64 := of_decide_eq_false h39
  refine sk h39 ?_
  refine sk h39 ?_
  refine sk h39 ?_
  refine sk h39 ?_
  refine pf (vb false) wN h39 ?_
  refine mv (vb false) wN ?_
  refine sk (Eq.refl false) ?_
  refine sk (Eq.refl false) ?_
  refine sk (Eq.refl false) ?_
  refine sk (Eq.refl false) ?_
  refine pf (vb false) wN (Eq.refl false) ?_
  refine mv (vb false) wN ?_
  refine sk (Eq.refl false) ?_
  refine sk (Eq.refl false) ?_
  refine sk (Eq.refl false) ?_
  refine pf (vb false) wN (Eq.refl false) ?_
  refine mv (vb false) wN ?_
  refine sk (Eq.refl false) ?_
  refine sk (Eq.refl false) ?_
  refine sk (Eq.refl false) ?_
  refine pf (vb false) wN (Eq.refl false) ?_
  refine mv (vb false) wN ?_
  refine sk (Eq.refl false) ?_
  refine sk (Eq.refl false) ?_
  refine sk (Eq.refl false) ?_
  refine sk (Eq.refl false) ?_
  refine pf (vb false) wN (Eq.refl false) ?_
  refine ag (vb false) wN ?_
  refine wl_nil <| wq_then <| wc_ret ?_
  refine ret_1 (.inl rfl) (vb false) rfl rfl ?_
  refine ⟨m36.keep0, ?_⟩
  have hF65 : F_impl_isZeroChan x_c = false := by simp only [F_impl_isZeroChan, h37, h39, cond_true, cond_false]
  rw [hF65]
  exact rfl
 have q40 := of_decide_eq_true h39
 refine pu (vp g31 2) (wS h39) ?_
 refine lN (L_92 x_c.Cur a6 c7 a11 c12) (wS h39) isAgg_92 sizeOf_92 b35 ?_
 refine pu (va [(vi 0), (vs none 0 0), (vi 0), (vi 0), (vs none 0 0)]) (wS h39) ?_
 refine cl (wS h39) (C_impl_sameEp w1 _ x_c.Cur (mR_92 (r8.from0 m36) s9 (r13.from0 m36) s14) (va [(vi 0), (vs none 0 0), (vi 0), (vi 0), (vs none 0 0)]) { N := 0, Key := [], Seq := 0, Win := { Top := 0, Bits := [] : PWin } : PEp } (show R_92 w1 (va [(vi 0), (vs none 0 0), (vi 0), (vi 0), (vs none 0 0)]) { N := 0, Key := [], Seq := 0, Win := { Top := 0, Bits := [] : PWin } : PEp } from ⟨_, _, _, _, rfl, (Rd.nil _ _), (by simp), (Rd.nil _ _), (by simp)⟩)) ?_
 rintro _ w2 ⟨k41, rfl⟩
 have m42 := m36.extk k41
 refine pk (vb (F_impl_sameEp x_c.Cur { N := 0, Key := [], Seq := 0, Win := { Top := 0, Bits := [] : PWin } : PEp })) wN h39 ?_
 refine mv (vb (F_impl_sameEp x_c.Cur { N := 0, Key := [], Seq := 0, Win := { Top := 0, Bits := [] : PWin } : PEp })) wN ?_
 rcases bf (F_impl_sameEp x_c.Cur { N := 0, Key := [], Seq := 0, Win := { Top := 0, Bits := [] : PWin } : PEp }) with h43 | h43
 ·refine sk h43 ?_
  refine sk h43 ?_
  refine sk h43 ?_
  refine sk h43 ?_
  refine pf (vb false) wN h43 ?_
  refine mv (vb false) wN ?_
  refine sk (Eq.refl false) ?_
  refine sk (Eq.refl false) ?_
  refine sk (Eq.refl false) ?_
  refine pf (vb false) wN (Eq.refl false) ?_
  refine mv (vb false) wN ?_
  refine sk (Eq.refl false) ?_
  refine sk (Eq.refl false) ?_
  refine sk (Eq.refl false) ?_
  refine pf (vb false) wN (Eq.refl false) ?_
  refine mv (vb false) wN ?_
  refine sk (Eq.refl false) ?_
  refine sk (Eq.refl false) ?_
  refine sk (Eq.refl false) ?_
  refine sk (Eq.refl false) ?_
  refine pf (vb false) wN (Eq.refl false) ?_
  refine ag (vb false) wN ?_
  refine wl_nil <| wq_then <| wc_ret ?_
  refine ret_1 (.inl rfl) (vb false) rfl rfl ?_
  refine ⟨m42.keep0, ?_⟩
  have hF63 : F_impl_isZeroChan x_c = false := by simp only [F_impl_isZeroChan, h37, h39, h43, cond_true, cond_false]
  rw [hF63]
  exact rfl
 refine pu (vp g31 7) (wS h43) ?_
 have b45 := (b35.kp k41)
 refine lN (L_92 x_c.Old a16 c17 a21 c22) (wS h43) isAgg_92 sizeOf_92 b45 ?_
 refine pu (va [(vi 0), (vs none 0 0), (vi 0), (vi 0), (vs none 0 0)]) (wS h43) ?_
 refine cl (wS h43) (C_impl_sameEp w2 _ x_c.Old (mR_92 (r18.from0 m42) s19 (r23.from0 m42) s24) (va [(vi 0), (vs none 0 0), (vi 0), (vi 0), (vs none 0 0)]) { N := 0, Key := [], Seq := 0, Win := { Top := 0, Bits := [] : PWin } : PEp } (show R_92 w2 (va [(vi 0), (vs none 0 0), (vi 0), (vi 0), (vs none 0 0)]) { N := 0, Key := [], Seq := 0, Win := { Top := 0, Bits := [] : PWin } : PEp } from ⟨_, _, _, _, rfl, (Rd.nil _ _), (by simp), (Rd.nil _ _), (by simp)⟩)) ?_
 rintro _ w3 ⟨k46, rfl⟩
 have m47 := m42.extk k46
 refine pk (vb (F_impl_sameEp x_c.Old { N := 0, Key := [], Seq := 0, Win := { Top := 0, Bits := [] : PWin } : PEp })) wN h43 ?_
 refine mv (vb (F_impl_sameEp x_c.Old { N := 0, Key := [], Seq := 0, Win := { Top := 0, Bits := [] : PWin } : PEp })) wN ?_
 rcases bf (F_impl_sameEp x_c.Old { N := 0, Key := [], Seq := 0, Win := { Top := 0, Bits := [] : PWin } : PEp }) with h48 | h48
 ·refine sk h48 ?_
  refine sk h48 ?_
  refine sk h48 ?_
  refine pf (vb false) wN h48 ?_
  refine mv (vb false) wN ?_
  refine sk (Eq.refl false) ?_
  refine sk (Eq.refl false) ?_
  refine sk (Eq.refl false) ?_
  refine pf (vb false) wN (Eq.refl false) ?_
  refine mv (vb false) wN ?_
  refine sk (Eq.refl false) ?_
  refine sk (Eq.refl false) ?_
  refine sk (Eq.refl false) ?_
  refine sk (Eq.refl false) ?_
  refine pf (vb false) wN (Eq.refl false) ?_
  refine ag (vb false) wN ?_
  refine wl_nil <| wq_then <| wc_ret ?_
  refine ret_1 (.inl rfl) (vb false) rfl rfl ?_
  refine ⟨m47.keep0, ?_⟩
  have hF61 : F_impl_isZeroChan x_c = false := by simp only [F_impl_isZeroChan, h37, h39, h43, h48, cond_true, cond_false]
  rw [hF61]
  exact rfl
 refine pu (vp g31 12) (wS h48) ?_
 have b50 := (b45.kp k46)
 refine ld (vb x_c.HasOld) (wS h48) isAgg_4 b50 ?_
 refine pu (vb (!x_c.HasOld)) (wS h48) ?_
 refine pk (vb (!x_c.HasOld)) wN h48 ?_
 refine mv (vb (!x_c.HasOld)) wN ?_
 rcases bt x_c.HasOld with h51 | h51
 ·refine sk (congrArg not h51) ?_
  refine sk (congrArg not h51) ?_
  refine sk (congrArg not h51) ?_
  refine pf (vb false) wN (congrArg not h51) ?_
  refine mv (vb false) wN ?_
  refine sk (Eq.refl false) ?_
  refine sk (Eq.refl false) ?_
  refine sk (Eq.refl false) ?_
  refine sk (Eq.refl false) ?_
  refine pf (vb false) wN (Eq.refl false) ?_
  refine ag (vb false) wN ?_
  refine wl_nil <| wq_then <| wc_ret ?_
  refine ret_1 (.inl rfl) (vb false) rfl rfl ?_
  refine ⟨m47.keep0, ?_⟩
  have hF53 : F_impl_isZeroChan x_c = false := by simp only [F_impl_isZeroChan, h37, h39, h43, h48, h51, cond_true, cond_false]
  rw [hF53]
  exact rfl
 refine pu (vp g31 13) (wS (congrArg not h51)) ?_
 refine ld (vi x_c.Until) (wS (congrArg not h51)) isAgg_3 b50 ?_
 refine pu (vb (decide (x_c.Until = 0))) (wS (congrArg not h51)) ?_
 refine pk (vb (decide (x_c.Until = 0))) wN (congrArg not h51) ?_
 refine mv (vb (decide (x_c.Until = 0))) wN ?_
 rcases bf (decide (x_c.Until = 0)) with h55 | h55
 ·have q58 := of_decide_eq_false h55
  refine sk h55 ?_
  refine sk h55 ?_
  refine sk h55 ?_
  refine sk h55 ?_
  refine pf (vb false) wN h55 ?_
  refine ag (vb false) wN ?_
  refine wl_nil <| wq_then <| wc_ret ?_
  refine ret_1 (.inl rfl) (vb false) rfl rfl ?_
  refine ⟨m47.keep0, ?_⟩
  have hF59 : F_impl_isZeroChan x_c = false := by simp only [F_impl_isZeroChan, h37, h39, h43, h48, h51, h55, cond_true, cond_false]
  rw [hF59]
  exact rfl
 have q56 := of_decide_eq_true h55
 refine pu (vp g31 14) (wS h55) ?_
 refine ld (vs a26 x_c.Next.length c27) (wS h55) isAgg_22 b50 ?_
 refine ln (wS h55) slTy_22 (r28.from0 m47) ?_
 refine pu (vb (decide ((x_c.Next.length : Int) = 0))) (wS h55) ?_
 refine pk (vb (decide ((x_c.Next.length : Int) = 0))) wN h55 ?_
 refine ag (vb (decide ((x_c.Next.length : Int) = 0))) wN ?_
 refine wl_nil <| wq_then <| wc_ret ?_
 refine ret_1 (.inl rfl) (vb (decide ((x_c.Next.length : Int) = 0))) rfl rfl ?_
 refine ⟨m47.keep0, ?_⟩
 have hF57 : F_impl_isZeroChan x_c = decide ((x_c.Next.length : Int) = 0) := by simp only [F_impl_isZeroChan, h37, h39, h43, h48, h51, h55, cond_true, cond_false]
 rw [hF57]
 exact rfl

def F_impl_isNonce (x_b : List UInt8) : (Bool) := decide ((x_b.length : Int) = 12)
theorem C_impl_isNonce (w0 : World) (v_x_b : Value) (x_b : List UInt8) (r_x_b : R_22 w0 v_x_b x_b)  : Fn Try.prog 108 #[v_x_b] w0 (fun v w' => Keep w0 w' ∧ O_4 w' w0.heap.size v (F_impl_isNonce x_b)) := by
 obtain ⟨a1, c2, rfl, r3, s4⟩ := r_x_b
 refine fn_of (n := 6) (l := [(vs a1 x_b.length c2), U, U, U, U, U]) Try.func108 rfl rfl (by kernel_rfl) rfl ?_
 refine sr ?_
 refine ag (vb false) wN ?_
 refine nx ?_
 refine mv (vs a1 x_b.length c2) wN ?_
 refine ln wN slTy_22 r3 ?_
 refine pu (vb (decide ((x_b.length : Int) = 12))) wN ?_
 refine ag (vb (decide ((x_b.length : Int) = 12))) wN ?_
 refine wl_nil <| wq_then <| wc_ret ?_
 refine ret_1 (.inl rfl) (vb (decide ((x_b.length : Int) = 12))) rfl rfl ?_
 refine ⟨Ch.refl _ _, ?_⟩
 have hF6 : F_impl_isNonce x_b = decide ((x_b.length : Int) = 12) := by rfl
 rw [hF6]
 exact rfl

def F_impl_TimerOk (x_t : PTimer) : (Bool) := bif x_t.On then (bif (decide (x_t.Wait = 1)) then (bif (F_impl_within x_t.Due 0 1000008) then ((F_impl_within x_t.Tries 1 5)) else (false)) else (bif (decide (x_t.Wait = 2)) then (bif (F_impl_within x_t.Due 0 1000008) then ((F_impl_within x_t.Tries 1 5)) else (false)) else (bif (decide (x_t.Wait = 4)) then (bif (F_impl_within x_t.Due 0 1000008) then ((F_impl_within x_t.Tries 1 5)) else (false)) else (bif (F_impl_within x_t.Due 0 1000008) then (bif (decide (x_t.Wait = 8)) then ((F_impl_within x_t.Tries 1 5)) else (false)) else (false))))) else (((x_t.On == false) && (decide (x_t.Due = 0) && (decide (x_t.Wait = 0) && decide (x_t.Tries = 0)))))
theorem C_impl_TimerOk (w0 : World) (v_x_t : Value) (x_t : PTimer) (r_x_t : R_96 w0 v_x_t x_t)  : Fn Try.prog 139 #[v_x_t] w0 (fun v w' => Keep w0 w' ∧ O_4 w' w0.heap.size v (F_impl_TimerOk x_t)) := by
 obtain rfl := r_x_t
 refine fn_of (n := 39) (l := [(va (L_96 x_t)), U, U, U, U, U, U, U, U, U, U, U, U, U, U, U, U, U, U, U, U, U, U, U, U, U, U, U, U, U, U, U, U, U, U, U, U, U, U]) Try.func139 rfl rfl (by kernel_rfl) rfl ?_
 refine sr ?_
 refine bx (L_96 x_t) wN ?_
 intro g1 w1 p2 p3 k4 b5
 have m6 := (Ch.base w0).extk k4
 refine ag (vb false) wN ?_
 refine wl_nil <| wq_then <| wc_seq <| sr ?_
 refine pu (vp g1 0) wN ?_
 refine ld (vb x_t.On) wN isAgg_4 b5 ?_
 refine pu (vb (!x_t.On)) wN ?_
 refine wl_nil <| wq_then ?_
 rcases bf x_t.On with h7 | h7
 ·refine ct (congrArg not h7) ?_
  refine sr ?_
  refine lN (L_96 x_t) wN isAgg_96 sizeOf_96 b5 ?_
  refine pu (va [(vb false), (vi 0), (vi 0), (vi 0)]) wN ?_
  refine wl_aggeq (((x_t.On == false) && (decide (x_t.Due = 0) && (decide (x_t.Wait = 0) && decide (x_t.Tries = 0))))) wN rfl rfl rfl rfl rfl guardt_96 (aggeq_96 x_t.On false x_t.Due 0 x_t.Wait 0 x_t.Tries 0 w1) ?_
  refine ag (vb ((x_t.On == false) && (decide (x_t.Due = 0) && (decide (x_t.Wait = 0) && decide (x_t.Tries = 0))))) wN ?_
  refine wl_nil <| wq_then <| wc_ret <| wq_then_ret ?_
  refine ret_1 (.inl rfl) (vb ((x_t.On == false) && (decide (x_t.Due = 0) && (decide (x_t.Wait = 0) && decide (x_t.Tries = 0))))) rfl rfl ?_
  refine ⟨m6.keep0, ?_⟩
  have hF63 : F_impl_TimerOk x_t = ((x_t.On == false) && (decide (x_t.Due = 0) && (decide (x_t.Wait = 0) && decide (x_t.Tries = 0)))) := by simp only [F_impl_TimerOk, h7, cond_true, cond_false]
  rw [hF63]
  exact rfl
 refine cf (congrArg not h7) ?_
 refine wc_skip <| wq_then <| sr ?_
 refine pu (vp g1 2) wN ?_
 refine ld (vi x_t.Wait) wN isAgg_3 b5 ?_
 refine pu (vb (decide (x_t.Wait = 1))) wN ?_
 refine mv (vb (decide (x_t.Wait = 1))) wN ?_
 rcases bt (decide (x_t.Wait = 1)) with h9 | h9
 ·have q10 := of_decide_eq_true h9
  refine sk h9 ?_
  refine sk h9 ?_
  refine sk h9 ?_
  refine pk (vb true) wN h9 ?_
  refine mv (vb true) wN ?_
  refine sk (Eq.refl true) ?_
  refine sk (Eq.refl true) ?_
  refine sk (Eq.refl true) ?_
  refine pk (vb true) wN (Eq.refl true) ?_
  refine mv (vb true) wN ?_
  refine sk (Eq.refl true) ?_
  refine sk (Eq.refl true) ?_
  refine sk (Eq.refl true) ?_
  refine pk (vb true) wN (Eq.refl true) ?_
  refine ag (vb true) wN ?_
  refine nx ?_
  refine pu (vp g1 1) wN ?_
  refine ld (vi x_t.Due) wN isAgg_3 b5 ?_
  refine cl wN (C_impl_within w1 x_t.Due 0 1000008) ?_
  rintro _ w2 ⟨k11, rfl⟩
  have m12 := m6.extk k11
  refine mv (vb (F_impl_within x_t.Due 0 1000008)) wN ?_
  rcases bf (F_impl_within x_t.Due 0 1000008) with h13 | h13
  ·have q19 := impl_within_f h13
   refine sk h13 ?_
   refine pf (vb false) wN h13 ?_
   refine mv (vb false) wN ?_
   refine sk (Eq.refl false) ?_
   refine sk (Eq.refl false) ?_
   refine sk (Eq.refl false) ?_
   refine pf (vb false) wN (Eq.refl false) ?_
   refine ag (vb false) wN ?_
   refine wl_nil <| wq_then <| wc_ret ?_
   refine ret_1 (.inl rfl) (vb false) rfl rfl ?_
   refine ⟨m12.keep0, ?_⟩
   have hF20 : F_impl_TimerOk x_t = false := by simp only [F_impl_TimerOk, h7, h9, h13, cond_true, cond_false]
   rw [hF20]
   exact rfl
  have q14 := impl_within_t h13
  refine mv (vb true) (wS h13) ?_
  refine pk (vb true) wN h13 ?_
  refine mv (vb true) wN ?_
  refine pu (vp g1 3) (wS (Eq.refl true)) ?_
  have b15 := (b5.kp k11)
  refine ld (vi x_t.Tries) (wS (Eq.refl true)) isAgg_3 b15 ?_
  refine cl (wS (Eq.refl true)) (C_impl_within w2 x_t.Tries 1 5) ?_
  rintro _ w3 ⟨k16, rfl⟩
  have m17 := m12.extk k16
  refine pk (vb (F_impl_within x_t.Tries 1 5)) wN (Eq.refl true) ?_
  refine ag (vb (F_impl_within x_t.Tries 1 5)) wN ?_
  refine wl_nil <| wq_then <| wc_ret ?_
  refine ret_1 (.inl rfl) (vb (F_impl_within x_t.Tries 1 5)) rfl rfl ?_
  refine ⟨m17.keep0, ?_⟩
  have hF18 : F_impl_TimerOk x_t = (F_impl_within x_t.Tries 1 5) := by simp only [F_impl_TimerOk, h7, h9, h13, cond_true, cond_false]
  rw [hF18]
  exact rfl
 have q21 := of_decide_eq_false h9
 refine pu (vp g1 2) (wS h9) ?_
 refine ld (vi x_t.Wait) (wS h9) isAgg_3 b5 ?_
 refine pu (vb (decide (x_t.Wait = 2))) (wS h9) ?_
 refine pf (vb (decide (x_t.Wait = 2))) wN h9 ?_
 refine mv (vb (decide (x_t.Wait = 2))) wN ?_
 rcases bt (decide (x_t.Wait = 2)) with h22 | h22
 ·have q23 := of_decide_eq_true h22
  refine sk h22 ?_
  refine sk h22 ?_
  refine sk h22 ?_
  refine pk (vb true) wN h22 ?_
  refine mv (vb true) wN ?_
  refine sk (Eq.refl true) ?_
  refine sk (Eq.refl true) ?_
  refine sk (Eq.refl true) ?_
  refine pk (vb true) wN (Eq.refl true) ?_
  refine ag (vb true) wN ?_
  refine nx ?_
  refine pu (vp g1 1) wN ?_
  refine ld (vi x_t.Due) wN isAgg_3 b5 ?_
  refine cl wN (C_impl_within w1 x_t.Due 0 1000008) ?_
  rintro _ w2 ⟨k24, rfl⟩
  have m25 := m6.extk k24
  refine mv (vb (F_impl_within x_t.Due 0 1000008)) wN ?_
  rcases bf (F_impl_within x_t.Due 0 1000008) with h26 | h26
  ·have q32 := impl_within_f h26
   refine sk h26 ?_
   refine pf (vb false) wN h26 ?_
   refine mv (vb false) wN ?_
   refine sk (Eq.refl false) ?_
   refine sk (Eq.refl false) ?_
   refine sk (Eq.refl false) ?_
   refine pf (vb false) wN (Eq.refl false) ?_
   refine ag (vb false) wN ?_
   refine wl_nil <| wq_then <| wc_ret ?_
   refine ret_1 (.inl rfl) (vb false) rfl rfl ?_
   refine ⟨m25.keep0, ?_⟩
   have hF33 : F_impl_TimerOk x_t = false := by simp only [F_impl_TimerOk, h7, h9, h22, h26, cond_true, cond_false]
   rw [hF33]
   exact rfl
  have q27 := impl_within_t h26
  refine mv (vb true) (wS h26) ?_
  refine pk (vb true) wN h26 ?_
  refine mv (vb true) wN ?_
  refine pu (vp g1 3) (wS (Eq.refl true)) ?_
  have b28 := (b5.kp k24)
  refine ld (vi x_t.Tries) (wS (Eq.refl true)) isAgg_3 b28 ?_
  refine cl (wS (Eq.refl true)) (C_impl_within w2 x_t.Tries 1 5) ?_
  rintro _ w3 ⟨k29, rfl⟩
  have m30 := m25.extk k29
  refine pk (vb (F_impl_within x_t.Tries 1 5)) wN (Eq.refl true) ?_
  refine ag (vb (F_impl_within x_t.Tries 1 5)) wN ?_
  refine wl_nil <| wq_then <| wc_ret ?_
  refine ret_1 (.inl rfl) (vb (F_impl_within x_t.Tries 1 5)) rfl rfl ?_
  refine ⟨m30.keep0, ?_⟩
  have hF31 : F_impl_TimerOk x_t = (F_impl_within x_t.Tries 1 5) := by simp only [F_impl_TimerOk, h7, h9, h22, h26, cond_true, cond_false]
  rw [hF31]
  exact rfl
 have q34 := of_decide_eq_false h22
 refine pu (vp g1 2) (wS h22) ?_
 refine ld (vi x_t.Wait) (wS h22) isAgg_3 b5 ?_
 refine pu (vb (decide (x_t.Wait = 4))) (wS h22) ?_
 refine pf (vb (decide (x_t.Wait = 4))) wN h22 ?_
 refine mv (vb (decide (x_t.Wait = 4))) wN ?_
 rcases bt (decide (x_t.Wait = 4)) with h35 | h35
 ·have q36 := of_decide_eq_true h35
  refine sk h35 ?_
  refine sk h35 ?_
  refine sk h35 ?_
  refine pk (vb true) wN h35 ?_
  refine ag (vb true) wN ?_
  refine nx ?_
  refine pu (vp g1 1) wN ?_
  refine ld (vi x_t.Due) wN isAgg_3 b5 ?_
  refine cl wN (C_impl_within w1 x_t.Due 0 1000008) ?_
  rintro _ w2 ⟨k37, rfl⟩
  have m38 := m6.extk k37
  refine mv (vb (F_impl_within x_t.Due 0 1000008)) wN ?_
  rcases bf (F_impl_within x_t.Due 0 1000008) with h39 | h39
  ·have q45 := impl_within_f h39
   refine sk h39 ?_
   refine pf (vb false) wN h39 ?_
   refine mv (vb false) wN ?_
   refine sk (Eq.refl false) ?_
   refine sk (Eq.refl false) ?_
   refine sk (Eq.refl false) ?_
   refine pf (vb false) wN (Eq.refl false) ?_
   refine ag (vb false) wN ?_
   refine wl_nil <| wq_then <| wc_ret ?_
   refine ret_1 (.inl rfl) (vb false) rfl rfl ?_
   refine ⟨m38.keep0, ?_⟩
   have hF46 : F_impl_TimerOk x_t = false := by simp only [F_impl_TimerOk, h7, h9, h22, h35, h39, cond_true, cond_false]
   rw [hF46]
   exact rfl
  have q40 := impl_within_t h39
  refine mv (vb true) (wS h39) ?_
  refine pk (vb true) wN h39 ?_
  refine mv (vb true) wN ?_
  refine pu (vp g1 3) (wS (Eq.refl true)) ?_
  have b41 := (b5.kp k37)
  refine ld (vi x_t.Tries) (wS (Eq.refl true)) isAgg_3 b41 ?_
  refine cl (wS (Eq.refl true)) (C_impl_within w2 x_t.Tries 1 5) ?_
  rintro _ w3 ⟨k42, rfl⟩
  have m43 := m38.extk k42
  refine pk (vb (F_impl_within x_t.Tries 1 5)) wN (Eq.refl true) ?_
  refine ag (vb (F_impl_within x_t.Tries 1 5)) wN ?_
  refine wl_nil <| wq_then <| wc_ret ?_
  refine ret_1 (.inl rfl) (vb (F_impl_within x_t.Tries 1 5)) rfl rfl ?_
  refine ⟨m43.keep0, ?_⟩
  have hF44 : F_impl_TimerOk x_t = (F_impl_within x_t.Tries 1 5) := by simp only [F_impl_TimerOk, h7, h9, h22, h35, h39, cond_true, cond_false]
  rw [hF44]
  exact rfl
 have q47 := of_decide_eq_false h35
 refine pu (vp g1 2) (wS h35) ?_
 refine ld (vi x_t.Wait) (wS h35) isAgg_3 b5 ?_
 refine pu (vb (decide (x_t.Wait = 8))) (wS h35) ?_
 refine pf (vb (decide (x_t.Wait = 8))) wN h35 ?_
 refine ag (vb (decide (x_t.Wait = 8))) wN ?_
 refine nx ?_
 refine pu (vp g1 1) wN ?_
 refine ld (vi x_t.Due) wN isAgg_3 b5 ?_
 refine cl wN (C_impl_within w1 x_t.Due 0 1000008) ?_
 rintro _ w2 ⟨k48, rfl⟩
 have m49 := m6.extk k48
 refine mv (vb (F_impl_within x_t.Due 0 1000008)) wN ?_
 rcases bf (F_impl_within x_t.Due 0 1000008) with h50 | h50
 ·have q60 := impl_within_f h50
  refine sk h50 ?_
  refine pf (vb false) wN h50 ?_
  refine mv (vb false) wN ?_
  refine sk (Eq.refl false) ?_
  refine sk (Eq.refl false) ?_
  refine sk (Eq.refl false) ?_
  refine pf (vb false) wN (Eq.refl false) ?_
  refine ag (vb false) wN ?_
  refine wl_nil <| wq_then <| wc_ret ?_
  refine ret_1 (.inl rfl) (vb false) rfl rfl ?_
  refine ⟨m49.keep0, ?_⟩
  have hF61 : F_impl_TimerOk x_t = false := by simp only [F_impl_TimerOk, h7, h9, h22, h35, h50, cond_true, cond_false]
  rw [hF61]
  exact rfl
 have q51 := impl_within_t h50
 refine mv (vb (decide (x_t.Wait = 8))) (wS h50) ?_
 refine pk (vb (decide (x_t.Wait = 8))) wN h50 ?_
 refine mv (vb (decide (x_t.Wait = 8))) wN ?_
 rcases bf (decide (x_t.Wait = 8)) with h52 | h52
 ·have q58 := of_decide_eq_false h52
  refine sk h52 ?_
  refine sk h52 ?_
  refine sk h52 ?_
  refine pf (vb false) wN h52 ?_
  refine ag (vb false) wN ?_
  refine wl_nil <| wq_then <| wc_ret ?_
  refine ret_1 (.inl rfl) (vb false) rfl rfl ?_
  refine ⟨m49.keep0, ?_⟩
  have hF59 : F_impl_TimerOk x_t = false := by simp only [F_impl_TimerOk, h7, h9, h22, h35, h50, h52, cond_true, cond_false]
  rw [hF59]
  exact rfl
 have q53 := of_decide_eq_true h52
 refine pu (vp g1 3) (wS h52) ?_
 have b54 := (b5.kp k48)
 refine ld (vi x_t.Tries) (wS h52) isAgg_3 b54 ?_
 refine cl (wS h52) (C_impl_within w2 x_t.Tries 1 5) ?_
 rintro _ w3 ⟨k55, rfl⟩
 have m56 := m49.extk k55
 refine pk (vb (F_impl_within x_t.Tries 1 5)) wN h52 ?_
 refine ag (vb (F_impl_within x_t.Tries 1 5)) wN ?_
 refine wl_nil <| wq_then <| wc_ret ?_
 refine ret_1 (.inl rfl) (vb (F_impl_within x_t.Tries 1 5)) rfl rfl ?_
 refine ⟨m56.keep0, ?_⟩
 have hF57 : F_impl_TimerOk x_t = (F_impl_within x_t.Tries 1 5) := by simp only [F_impl_TimerOk, h7, h9, h22, h35, h50, h52, cond_true, cond_false]
 rw [hF57]
 exact rfl
theorem impl_TimerOk_t {t : PTimer} (h : F_impl_TimerOk t = true) (h0 : t.On = true) : 0 ≤ t.Due ∧ t.Due ≤ 1000008 ∧ 1 ≤ t.Wait ∧ t.Wait ≤ 8 ∧ 1 ≤ t.Tries ∧ t.Tries ≤ 5 := by
  simp only [F_impl_TimerOk, F_impl_within, cond_eq_ite] at h
  grind

def F_impl_Sealed (x_kind : Int) : (Bool) := (F_impl_within x_kind 4 8)
theorem C_impl_Sealed (w0 : World) (x_kind : Int)  : Fn Try.prog 175 #[(vi x_kind)] w0 (fun v w' => Keep w0 w' ∧ O_4 w' w0.heap.size v (F_impl_Sealed x_kind)) := by
 refine fn_of (n := 5) (l := [(vi x_kind), U, U, U, U]) Try.func175 rfl rfl (by kernel_rfl) rfl ?_
 refine sr ?_
 refine ag (vb false) wN ?_
 refine nx ?_
 refine mv (vi x_kind) wN ?_
 refine cl wN (C_impl_within w0 x_kind 4 8) ?_
 rintro _ w1 ⟨k1, rfl⟩
 have m2 := (Ch.base w0).extk k1
 refine ag (vb (F_impl_within x_kind 4 8)) wN ?_
 refine wl_nil <| wq_then <| wc_ret ?_
 refine ret_1 (.inl rfl) (vb (F_impl_within x_kind 4 8)) rfl rfl ?_
 refine ⟨m2.keep0, ?_⟩
 have hF3 : F_impl_Sealed x_kind = (F_impl_within x_kind 4 8) := by rfl
 rw [hF3]
 exact rfl

def F_impl_bodyOk (x_kind : Int) (x_n : Int) : (Bool) := bif (decide (x_kind = 4)) then (decide (x_n ≤ 40)) else (bif (decide (x_kind = 5)) then (decide (x_n = 12)) else (bif (decide (x_kind = 6)) then (decide (x_n = 12)) else (decide (x_n = 4))))
theorem C_impl_bodyOk (w0 : World) (x_kind : Int) (x_n : Int)  : Fn Try.prog 176 #[(vi x_kind), (vi x_n)] w0 (fun v w' => Keep w0 w' ∧ O_4 w' w0.heap.size v (F_impl_bodyOk x_kind x_n)) := by
 refine fn_of (n := 17) (l := [(vi x_kind), (vi x_n), U, U, U, U, U, U, U, U, U, U, U, U, U, U, U]) Try.func176 rfl rfl (by kernel_rfl) rfl ?_
 refine sr ?_
 refine ag (vb false) wN ?_
 refine wl_nil <| wq_then <| wc_seq <| sr ?_
 refine mv (vi x_kind) wN ?_
 refine wl_nil <| wq_then <| wc_block <| sr ?_
 refine pu (vb (decide (x_kind = 4))) wN ?_
 refine ag (vb (decide (x_kind = 4))) wN ?_
 refine wl_nil <| wq_then ?_
 rcases bt (decide (x_kind = 4)) with h1 | h1
 ·have q2 := of_decide_eq_true h1
  refine ct h1 ?_
  refine sr ?_
  refine mv (vi x_n) wN ?_
  refine pu (vb (decide (x_n ≤ 40))) wN ?_
  refine ag (vb (decide (x_n ≤ 40))) wN ?_
  refine wl_nil <| wq_then <| wc_ret <| wq_blk_ret <| wq_then_ret ?_
  refine ret_1 (.inl rfl) (vb (decide (x_n ≤ 40))) rfl rfl ?_
  refine ⟨Ch.refl _ _, ?_⟩
  have hF3 : F_impl_bodyOk x_kind x_n = decide (x_n ≤ 40) := by simp only [F_impl_bodyOk, h1, cond_true, cond_false]
  rw [hF3]
  exact rfl
 have q4 := of_decide_eq_false h1
 refine cf h1 ?_
 refine wc_seq <| sr ?_
 refine pu (vb (decide (x_kind = 5))) wN ?_
 refine ag (vb (decide (x_kind = 5))) wN ?_
 refine wl_nil <| wq_then ?_
 rcases bt (decide (x_kind = 5)) with h5 | h5
 ·have q6 := of_decide_eq_true h5
  refine ct h5 ?_
  refine wc_skip <| wq_then ?_
  refine ct h5 ?_
  refine sr ?_
  refine mv (vi x_n) wN ?_
  refine pu (vb (decide (x_n = 12))) wN ?_
  refine ag (vb (decide (x_n = 12))) wN ?_
  refine wl_nil <| wq_then <| wc_ret <| wq_blk_ret <| wq_then_ret ?_
  refine ret_1 (.inl rfl) (vb (decide (x_n = 12))) rfl rfl ?_
  refine ⟨Ch.refl _ _, ?_⟩
  have hF7 : F_impl_bodyOk x_kind x_n = decide (x_n = 12) := by simp only [F_impl_bodyOk, h1, h5, cond_true, cond_false]
  rw [hF7]
  exact rfl
 have q8 := of_decide_eq_false h5
 refine cf h5 ?_
 refine wc_region ?_
 refine pu (vb (decide (x_kind = 6))) wN ?_
 refine ag (vb (decide (x_kind = 6))) wN ?_
 refine wl_nil <| wq_then ?_
 rcases bt (decide (x_kind = 6)) with h9 | h9
 ·have q10 := of_decide_eq_true h9
  refine ct h9 ?_
  refine sr ?_
  refine mv (vi x_n) wN ?_
  refine pu (vb (decide (x_n = 12))) wN ?_
  refine ag (vb (decide (x_n = 12))) wN ?_
  refine wl_nil <| wq_then <| wc_ret <| wq_blk_ret <| wq_then_ret ?_
  refine ret_1 (.inl rfl) (vb (decide (x_n = 12))) rfl rfl ?_
  refine ⟨Ch.refl _ _, ?_⟩
  have hF11 : F_impl_bodyOk x_kind x_n = decide (x_n = 12) := by simp only [F_impl_bodyOk, h1, h5, h9, cond_true, cond_false]
  rw [hF11]
  exact rfl
 have q12 := of_decide_eq_false h9
 refine cf h9 ?_
 refine wc_skip <| wq_blk_normal <| wq_then <| sr ?_
 refine mv (vi x_n) wN ?_
 refine pu (vb (decide (x_n = 4))) wN ?_
 refine ag (vb (decide (x_n = 4))) wN ?_
 refine wl_nil <| wq_then <| wc_ret ?_
 refine ret_1 (.inl rfl) (vb (decide (x_n = 4))) rfl rfl ?_
 refine ⟨Ch.refl _ _, ?_⟩
 have hF13 : F_impl_bodyOk x_kind x_n = decide (x_n = 4) := by simp only [F_impl_bodyOk, h1, h5, h9, cond_true, cond_false]
 rw [hF13]
 exact rfl

theorem mixed : Try.prog.follows .mixedOrders = true := by kernel_rfl
def F_impl_FrameOk (x_f : PFrame) : (Bool) := bif (decide (x_f.Kind = 1)) then (bif (F_impl_within x_f.Id 1 9) then (bif (F_impl_isNonce x_f.Cn) then ((F_impl_sameFrame x_f { Kind := x_f.Kind, Id := x_f.Id, Cn := x_f.Cn, Sn := [], Tick := 0, Cookie := [], Proof := [], Epoch := 0, Seq := 0, Body := [], Tag := [] : PFrame })) else (false)) else (false)) else (bif (decide (x_f.Kind = 2)) then (bif (F_impl_isNonce x_f.Cn) then (bif (F_impl_isNonce x_f.Sn) then (bif (F_impl_within x_f.Tick 0 1000000) then (bif (decide ((x_f.Cookie.length : Int) = 16)) then ((F_impl_sameFrame x_f { Kind := x_f.Kind, Id := 0, Cn := x_f.Cn, Sn := x_f.Sn, Tick := x_f.Tick, Cookie := x_f.Cookie, Proof := [], Epoch := 0, Seq := 0, Body := [], Tag := [] : PFrame })) else (false)) else (false)) else (false)) else (false)) else (bif (decide (x_f.Kind = 3)) then (bif (F_impl_within x_f.Id 1 9) then (bif (F_impl_isNonce x_f.Cn) then (bif (F_impl_isNonce x_f.Sn) then (bif (F_impl_within x_f.Tick 0 1000000) then (bif (decide ((x_f.Cookie.length : Int) = 16)) then (bif (decide ((x_f.Proof.length : Int) = 16)) then ((F_impl_sameFrame x_f { Kind := x_f.Kind, Id := x_f.Id, Cn := x_f.Cn, Sn := x_f.Sn, Tick := x_f.Tick, Cookie := x_f.Cookie, Proof := x_f.Proof, Epoch := 0, Seq := 0, Body := [], Tag := [] : PFrame })) else (false)) else (false)) else (false)) else (false)) else (false)) else (false)) else (bif (F_impl_Sealed x_f.Kind) then (bif (F_impl_isNonce x_f.Sn) then (bif (F_impl_within x_f.Epoch 0 4294967295) then (bif (F_impl_within x_f.Seq 0 281474976710655) then (bif (decide ((x_f.Tag.length : Int) = 16)) then (bif (F_impl_bodyOk x_f.Kind (x_f.Body.length : Int)) then ((F_impl_sameFrame x_f { Kind := x_f.Kind, Id := 0, Cn := [], Sn := x_f.Sn, Tick := 0, Cookie := [], Proof := [], Epoch := x_f.Epoch, Seq := x_f.Seq, Body := x_f.Body, Tag := x_f.Tag : PFrame })) else (false)) else (false)) else (false)) else (false)) else (false)) else (false))))
theorem C_impl_FrameOk (w0 : World) (v_x_f : Value) (x_f : PFrame) (r_x_f : R_87 w0 v_x_f x_f)  : Fn Try.prog 160 #[v_x_f] w0 (fun v w' => Keep w0 w' ∧ O_4 w' w0.heap.size v (F_impl_FrameOk x_f)) := by
 obtain ⟨a1, c2, a6, c7, a11, c12, a16, c17, a21, c22, a26, c27, rfl, r3, s4, r8, s9, r13, s14, r18, s19, r23, s24, r28, s29⟩ := r_x_f
 refine fn_of (n := 165) (l := [(va (L_87 x_f a1 c2 a6 c7 a11 c12 a16 c17 a21 c22 a26 c27)), U, U, U, U, U, U, U, U, U, U, U, U, U, U, U, U, U, U, U, U, U, U, U, U, U, U, U, U, U, U, U, U, U, U, U, U, U, U, U, U, U, U, U, U, U, U, U, U, U, U, U, U, U, U, U, U, U, U, U, U, U, U, U, U, U, U, U, U, U, U, U, U, U, U, U, U, U, U, U, U, U, U, U, U, U, U, U, U, U, U, U, U, U, U, U, U, U, U, U, U, U, U, U, U, U, U, U, U, U, U, U, U, U, U, U, U, U, U, U, U, U, U, U, U, U, U, U, U, U, U, U, U, U, U, U, U, U, U, U, U, U, U, U, U, U, U, U, U, U, U, U, U, U, U, U, U, U, U, U, U, U, U, U, U]) Try.func160 rfl rfl (by kernel_rfl) rfl ?_
 refine sr ?_
 refine bx (L_87 x_f a1 c2 a6 c7 a11 c12 a16 c17 a21 c22 a26 c27) wN ?_
 intro g31 w1 p32 p33 k34 b35
 have m36 := (Ch.base w0).extk k34
 refine ag (vb false) wN ?_
 refine nx ?_
 refine pu (vp g31 0) wN ?_
 refine ld (vi x_f.Kind) wN isAgg_3 b35 ?_
 refine pu (va [(vi x_f.Kind), (vi 0), (vs none 0 0), (vs none 0 0), (vi 0), (vs none 0 0), (vs none 0 0), (vi 0), (vi 0), (vs none 0 0), (vs none 0 0)]) wN ?_
 refine al [(vi 0), (vi 0), (vs none 0 0), (vs none 0 0), (vi 0), (vs none 0 0), (vs none 0 0), (vi 0), (vi 0), (vs none 0 0), (vs none 0 0)] wN zero_87 ?_
 intro g37 w2 p38 p39 k40 b41
 have m42 := m36.extk k40
 refine st (va [(vi x_f.Kind), (vi 0), (vs none 0 0), (vs none 0 0), (vi 0), (vs none 0 0), (vs none 0 0), (vi 0), (vi 0), (vs none 0 0), (vs none 0 0)]) [(vi x_f.Kind), (vi 0), (vs none 0 0), (vs none 0 0), (vi 0), (vs none 0 0), (vs none 0 0), (vi 0), (vi 0), (vs none 0 0), (vs none 0 0)] [(vi x_f.Kind), (vi 0), (vs none 0 0), (vs none 0 0), (vi 0), (vs none 0 0), (vs none 0 0), (vi 0), (vi 0), (vs none 0 0), (vs none 0 0)] wN sizeOf_87 b41 ?_
 intro w3 k43 b44 z45
 have m46 := m42.ext k43 (fun k hk => by subst hk; exact Nat.le_trans k34.size p38)
 refine nx ?_
 refine ag (vb false) wN ?_
 refine wl_nil <| wq_then <| wc_seq <| wc_block <| sr ?_
 refine pu (vp g31 0) wN ?_
 have b47 := ((b35.kp k40).ch k43 (Nat.ne_of_lt (Nat.lt_of_lt_of_le p33 (Nat.le_trans (Nat.le_refl _) p38))))
 refine ld (vi x_f.Kind) wN isAgg_3 b47 ?_
 refine pu (vb (decide (x_f.Kind = 1))) wN ?_
 refine ag (vb (decide (x_f.Kind = 1))) wN ?_
 refine wl_nil <| wq_then ?_
 rcases bt (decide (x_f.Kind = 1)) with h48 | h48
 ·have q49 := of_decide_eq_true h48
  refine ct h48 ?_
  refine wc_seq ?_
  refine wc_drawT ([(12, [], [], (fun _ v _ => v = (vp g31 1))), (13, [], [0], (fun _ v _ => v = (vi x_f.Id))), (14, [], [], (fun _ v _ => v = (vp g31 2))), (15, [], [2], (fun _ v _ => v = (vs a1 x_f.Cn.length c2))), (16, [], [0, 1], (fun _ v _ => v = (vp g37 1))), (170, [], [0, 1, 4], (fun _ _ w => ∃ xg37_1 : Value, Blk w g37 87 [(vi x_f.Kind), xg37_1, (vs none 0 0), (vs none 0 0), (vi 0), (vs none 0 0), (vs none 0 0), (vi 0), (vi 0), (vs none 0 0), (vs none 0 0)] ∧ xg37_1 = (vi x_f.Id)))] : GV) (fun lf w' => Ch (fun k => k = g37) w3 w' ∧ (∃ xg37_1 : Value, Blk w' g37 87 [(vi x_f.Kind), xg37_1, (vs none 0 0), (vs none 0 0), (vi 0), (vs none 0 0), (vs none 0 0), (vi 0), (vi 0), (vs none 0 0), (vs none 0 0)] ∧ (lf 5 = false → xg37_1 = (vi 0)))) [(5, fun w w' => Ch (fun k => k = g37) w w' ∧ ∀ xg37_1 : Value, Blk w g37 87 [(vi x_f.Kind), xg37_1, (vs none 0 0), (vs none 0 0), (vi 0), (vs none 0 0), (vs none 0 0), (vi 0), (vi 0), (vs none 0 0), (vs none 0 0)] → ∃ y1 : Value, Blk w' g37 87 [(vi x_f.Kind), y1, (vs none 0 0), (vs none 0 0), (vi 0), (vs none 0 0), (vs none 0 0), (vi 0), (vi 0), (vs none 0 0), (vs none 0 0)])] mixed rfl (by kernel_rfl) (by kernel_rfl) ?_ (fun _ _ h => ⟨h.to _, ⟨_, b44.kp h, fun _ => rfl⟩⟩) (fun _ _ _ _ h mo k => by obtain ⟨hc, ⟨xg37_1, hbg37, heg37_1⟩⟩ := h; exact ⟨hc.comp k (fun _ _ q => q.elim), ⟨_, hbg37.kp k, fun q => heg37_1 (mo _ q)⟩⟩) ⟨(fun _ _ w w' h mo hj t => by obtain ⟨hc, ⟨xg37_1, hbg37, heg37_1⟩⟩ := h; obtain ⟨z0, hz⟩ := t.2 _ hbg37; exact ⟨hc.comp t.1 (fun _ _ q => q), ⟨_, hz, (fun q => by rw [hj] at q; cases q)⟩⟩), trivial⟩ ?_ ?_ ?_
  ·exact ⟨(fun _ _ _ _ h _ => h), (fun _ _ _ _ _ h => h), ⟨(fun _ _ _ _ h _ => h), (fun _ _ _ _ _ h => h), ⟨(fun _ _ _ _ h _ => h), (fun _ _ _ _ _ h => h), ⟨(fun _ _ _ _ h _ => h), (fun _ _ _ _ _ h => h), ⟨(fun _ _ _ _ h _ => h), (fun _ _ _ _ _ h => h), ⟨(fun e v w w1 h hk => by obtain ⟨xg37_1, hb, he⟩ := h; exact ⟨_, hb.kp hk, he⟩), (fun _ _ _ _ _ h => h), trivial⟩⟩⟩⟩⟩⟩
  ·exact ⟨⟨.inr (fun _ _ _ _ h _ => h), ⟨.inr (fun _ _ _ _ h _ => h), ⟨.inr (fun _ _ _ _ h _ => h), ⟨.inr (fun _ _ _ _ h _ => h), ⟨.inr (fun _ _ _ _ h _ => h), ⟨.inl rfl, trivial⟩⟩⟩⟩⟩⟩, trivial⟩
  ·refine ⟨?_, ⟨?_, ⟨?_, ⟨?_, ⟨?_, ⟨?_, trivial⟩⟩⟩⟩⟩⟩
   ·rintro lf w4 ⟨k58, ⟨xg37_1, b59, p60⟩⟩ ⟨n61, -⟩
    have m62 := m46.ext k58 (fun k hk => by subst hk; exact Nat.le_trans k34.size p38)
    obtain rfl : xg37_1 = (vi 0) := p60 (n61.resolve_left (fun h => Bool.noConfusion (show true = false from h)))
    rintro _ _ _ _ _ _
    show WL _ _ _ _ _ _ _
    refine pu (vp g31 1) wN ?_
    exact wl_finT (Ch.refl _ _) rfl
   ·rintro lf w4 ⟨k63, ⟨xg37_1, b64, p65⟩⟩ ⟨n66, -⟩
    have m67 := m46.ext k63 (fun k hk => by subst hk; exact Nat.le_trans k34.size p38)
    obtain rfl : xg37_1 = (vi 0) := p65 (n66.resolve_left (fun h => Bool.noConfusion (show true = false from h)))
    rintro _ rfl _ _ _ _ _
    show WL _ _ _ _ _ _ _
    have b68 := (b47.ch k63 (Nat.ne_of_lt (Nat.lt_of_lt_of_le p33 (Nat.le_trans (Nat.le_refl _) p38))))
    refine ld (vi x_f.Id) wN isAgg_3 b68 ?_
    exact wl_finT (Ch.refl _ _) rfl
   ·rintro lf w4 ⟨k69, ⟨xg37_1, b70, p71⟩⟩ ⟨n72, -⟩
    have m73 := m46.ext k69 (fun k hk => by subst hk; exact Nat.le_trans k34.size p38)
    rintro _ _ _ _ _ _
    show WL _ _ _ _ _ _ _
    refine pu (vp g31 2) wN ?_
    exact wl_finT (Ch.refl _ _) rfl
   ·rintro lf w4 ⟨k74, ⟨xg37_1, b75, p76⟩⟩ ⟨n77, -⟩
    have m78 := m46.ext k74 (fun k hk => by subst hk; exact Nat.le_trans k34.size p38)
    rintro _ _ _ rfl _ _ _
    show WL _ _ _ _ _ _ _
    have b79 := (b47.ch k74 (Nat.ne_of_lt (Nat.lt_of_lt_of_le p33 (Nat.le_trans (Nat.le_refl _) p38))))
    refine ld (vs a1 x_f.Cn.length c2) wN isAgg_22 b79 ?_
    exact wl_finT (Ch.refl _ _) rfl
   ·rintro lf w4 ⟨k80, ⟨xg37_1, b81, p82⟩⟩ ⟨n83, -⟩
    have m84 := m46.ext k80 (fun k hk => by subst hk; exact Nat.le_trans k34.size p38)
    obtain rfl : xg37_1 = (vi 0) := p82 (n83.resolve_left (fun h => Bool.noConfusion (show true = false from h)))
    rintro _ rfl _ rfl _ _ _ _
    show WL _ _ _ _ _ _ _
    refine pu (vp g37 1) wN ?_
    exact wl_finT (Ch.refl _ _) rfl
   ·rintro lf w4 ⟨k86, ⟨xg37_1, b87, p88⟩⟩ ⟨n89, -⟩
    have m90 := m46.ext k86 (fun k hk => by subst hk; exact Nat.le_trans k34.size p38)
    rintro _ rfl _ rfl _ _ _ rfl _
    show WL _ _ _ _ _ _ _
    refine st (vi x_f.Id) [(vi x_f.Id)] [(vi x_f.Kind), (vi x_f.Id), (vs none 0 0), (vs none 0 0), (vi 0), (vs none 0 0), (vs none 0 0), (vi 0), (vi 0), (vs none 0 0), (vs none 0 0)] wN sizeOf_3 b87 ?_
    intro w5 k92 b93 z94
    have m95 := m90.ext k92 (fun k hk => by subst hk; exact Nat.le_trans k34.size p38)
    exact wl_finS (by decide) ⟨k92, fun yg37_1 hb => by have hq := Blk.inj b87 hb;   exact ⟨_, b93⟩⟩ ⟨_, b93, rfl⟩
  ·rintro lf w4 ⟨k96, ⟨xg37_1, b97, p98⟩⟩
   have m100 := m46.ext k96 (fun k hk => by subst hk; exact Nat.le_trans k34.size p38)
   rintro _ rfl _ rfl _ rfl _ rfl _ rfl _ ⟨y104, b103, rfl⟩
   obtain rfl : xg37_1 = (vi x_f.Id) := congrArg (fun l => List.getD l 1 U) (Blk.inj b97 b103)
   show WL _ _ _ _ _ _ _
   refine pu (vp g37 2) wN ?_
   refine st (vs a1 x_f.Cn.length c2) [(vs a1 x_f.Cn.length c2)] [(vi x_f.Kind), (vi x_f.Id), (vs a1 x_f.Cn.length c2), (vs none 0 0), (vi 0), (vs none 0 0), (vs none 0 0), (vi 0), (vi 0), (vs none 0 0), (vs none 0 0)] wN sizeOf_22 b97 ?_
   intro w5 k105 b106 z107
   have m108 := m100.ext k105 (fun k hk => by subst hk; exact Nat.le_trans k34.size p38)
   refine wl_nil <| wq_then <| wc_region ?_
   refine pu (vp g31 1) wN ?_
   have b109 := ((b47.ch k96 (Nat.ne_of_lt (Nat.lt_of_lt_of_le p33 (Nat.le_trans (Nat.le_refl _) p38)))).ch k105 (Nat.ne_of_lt (Nat.lt_of_lt_of_le p33 (Nat.le_trans (Nat.le_refl _) p38))))
   refine ld (vi x_f.Id) wN isAgg_3 b109 ?_
   refine cl wN (C_impl_within w5 x_f.Id 1 9) ?_
   rintro _ w6 ⟨k110, rfl⟩
   have m111 := m108.extk k110
   refine mv (vb (F_impl_within x_f.Id 1 9)) wN ?_
   rcases bf (F_impl_within x_f.Id 1 9) with h112 | h112
   ·have q126 := impl_within_f h112
    refine sk h112 ?_
    refine sk h112 ?_
    refine sk h112 ?_
    refine pf (vb false) wN h112 ?_
    refine ag (vb false) wN ?_
    refine wl_nil <| wq_blk_normal <| wq_then <| sr ?_
    refine mv (vb false) wN ?_
    refine mv (vb false) wN ?_
    refine sk (Eq.refl false) ?_
    refine sk (Eq.refl false) ?_
    refine sk (Eq.refl false) ?_
    refine pf (vb false) wN (Eq.refl false) ?_
    refine ag (vb false) wN ?_
    refine wl_nil <| wq_then <| wc_ret ?_
    refine ret_1 (.inl rfl) (vb false) rfl rfl ?_
    refine ⟨m111.keep0, ?_⟩
    have hF127 : F_impl_FrameOk x_f = false := by simp only [F_impl_FrameOk, h48, h112, cond_true, cond_false]
    rw [hF127]
    exact rfl
   have q113 := impl_within_t h112
   refine pu (vp g31 2) (wS h112) ?_
   have b114 := (b109.kp k110)
   refine ld (vs a1 x_f.Cn.length c2) (wS h112) isAgg_22 b114 ?_
   refine cl (wS h112) (C_impl_isNonce w6 _ x_f.Cn (mR_22 (r3.from0 m111) s4)) ?_
   rintro _ w7 ⟨k115, rfl⟩
   have m116 := m111.extk k115
   refine pk (vb (F_impl_isNonce x_f.Cn)) wN h112 ?_
   refine ag (vb (F_impl_isNonce x_f.Cn)) wN ?_
   refine wl_nil <| wq_blk_normal <| wq_then <| sr ?_
   refine mv (vb (F_impl_isNonce x_f.Cn)) wN ?_
   refine mv (vb (F_impl_isNonce x_f.Cn)) wN ?_
   rcases bf (F_impl_isNonce x_f.Cn) with h117 | h117
   ·refine sk h117 ?_
    refine sk h117 ?_
    refine sk h117 ?_
    refine pf (vb false) wN h117 ?_
    refine ag (vb false) wN ?_
    refine wl_nil <| wq_then <| wc_ret ?_
    refine ret_1 (.inl rfl) (vb false) rfl rfl ?_
    refine ⟨m116.keep0, ?_⟩
    have hF125 : F_impl_FrameOk x_f = false := by simp only [F_impl_FrameOk, h48, h112, h117, cond_true, cond_false]
    rw [hF125]
    exact rfl
   have b119 := (b114.kp k115)
   refine lN (L_87 x_f a1 c2 a6 c7 a11 c12 a16 c17 a21 c22 a26 c27) (wS h117) isAgg_87 sizeOf_87 b119 ?_
   have b120 := ((b106.kp k110).kp k115)
   refine lN [(vi x_f.Kind), (vi x_f.Id), (vs a1 x_f.Cn.length c2), (vs none 0 0), (vi 0), (vs none 0 0), (vs none 0 0), (vi 0), (vi 0), (vs none 0 0), (vs none 0 0)] (wS h117) isAgg_87 sizeOf_87 b120 ?_
   refine cl (wS h117) (C_impl_sameFrame w7 _ x_f (mR_87 (r3.from0 m116) s4 (r8.from0 m116) s9 (r13.from0 m116) s14 (r18.from0 m116) s19 (r23.from0 m116) s24 (r28.from0 m116) s29) (va [(vi x_f.Kind), (vi x_f.Id), (vs a1 x_f.Cn.length c2), (vs none 0 0), (vi 0), (vs none 0 0), (vs none 0 0), (vi 0), (vi 0), (vs none 0 0), (vs none 0 0)]) { Kind := x_f.Kind, Id := x_f.Id, Cn := x_f.Cn, Sn := [], Tick := 0, Cookie := [], Proof := [], Epoch := 0, Seq := 0, Body := [], Tag := [] : PFrame } (show R_87 w7 (va [(vi x_f.Kind), (vi x_f.Id), (vs a1 x_f.Cn.length c2), (vs none 0 0), (vi 0), (vs none 0 0), (vs none 0 0), (vi 0), (vi 0), (vs none 0 0), (vs none 0 0)]) { Kind := x_f.Kind, Id := x_f.Id, Cn := x_f.Cn, Sn := [], Tick := 0, Cookie := [], Proof := [], Epoch := 0, Seq := 0, Body := [], Tag := [] : PFrame } from ⟨_, _, _, _, _, _, _, _, _, _, _, _, rfl, (r3.from0 m116), s4, (Rd.nil _ _), (by simp), (Rd.nil _ _), (by simp), (Rd.nil _ _), (by simp), (Rd.nil _ _), (by simp), (Rd.nil _ _), (by simp)⟩)) ?_
   rintro _ w8 ⟨k121, rfl⟩
   have m122 := m116.extk k121
   refine pk (vb (F_impl_sameFrame x_f { Kind := x_f.Kind, Id := x_f.Id, Cn := x_f.Cn, Sn := [], Tick := 0, Cookie := [], Proof := [], Epoch := 0, Seq := 0, Body := [], Tag := [] : PFrame })) wN h117 ?_
   refine ag (vb (F_impl_sameFrame x_f { Kind := x_f.Kind, Id := x_f.Id, Cn := x_f.Cn, Sn := [], Tick := 0, Cookie := [], Proof := [], Epoch := 0, Seq := 0, Body := [], Tag := [] : PFrame })) wN ?_
   refine wl_nil <| wq_then <| wc_ret ?_
   refine ret_1 (.inl rfl) (vb (F_impl_sameFrame x_f { Kind := x_f.Kind, Id := x_f.Id, Cn := x_f.Cn, Sn := [], Tick := 0, Cookie := [], Proof := [], Epoch := 0, Seq := 0, Body := [], Tag := [] : PFrame })) rfl rfl ?_
   refine ⟨m122.keep0, ?_⟩
   have hF123 : F_impl_FrameOk x_f = (F_impl_sameFrame x_f { Kind := x_f.Kind, Id := x_f.Id, Cn := x_f.Cn, Sn := [], Tick := 0, Cookie := [], Proof := [], Epoch := 0, Seq := 0, Body := [], Tag := [] : PFrame }) := by simp only [F_impl_FrameOk, h48, h112, h117, cond_true, cond_false]
   rw [hF123]
   exact rfl
 have q128 := of_decide_eq_false h48
 refine cf h48 ?_
 refine sr ?_
 refine pu (vp g31 0) wN ?_
 refine ld (vi x_f.Kind) wN isAgg_3 b47 ?_
 refine pu (vb (decide (x_f.Kind = 2))) wN ?_
 refine ag (vb (decide (x_f.Kind = 2))) wN ?_
 refine wl_nil <| wq_then ?_
 rcases bt (decide (x_f.Kind = 2)) with h129 | h129
 ·have q130 := of_decide_eq_true h129
  refine ct h129 ?_
  refine wc_seq ?_
  refine wc_drawT ([(30, [], [], (fun _ v _ => v = (vp g31 2))), (31, [], [0], (fun _ v _ => v = (vs a1 x_f.Cn.length c2))), (32, [], [], (fun _ v _ => v = (vp g31 3))), (33, [], [2], (fun _ v _ => v = (vs a6 x_f.Sn.length c7))), (34, [], [], (fun _ v _ => v = (vp g31 4))), (35, [], [4], (fun _ v _ => v = (vi x_f.Tick))), (36, [], [], (fun _ v _ => v = (vp g31 5))), (37, [], [6], (fun _ v _ => v = (vs a11 x_f.Cookie.length c12))), (38, [], [0, 1], (fun _ v _ => v = (vp g37 2))), (174, [], [0, 1, 8], (fun _ _ w => ∃ xg37_2 xg37_3 xg37_4 : Value, Blk w g37 87 [(vi x_f.Kind), (vi 0), xg37_2, xg37_3, xg37_4, (vs none 0 0), (vs none 0 0), (vi 0), (vi 0), (vs none 0 0), (vs none 0 0)] ∧ xg37_2 = (vs a1 x_f.Cn.length c2))), (39, [], [0, 1, 2, 3, 8, 9], (fun _ v _ => v = (vp g37 3))), (176, [], [0, 1, 2, 3, 8, 9, 10], (fun _ _ w => ∃ xg37_2 xg37_3 xg37_4 : Value, Blk w g37 87 [(vi x_f.Kind), (vi 0), xg37_2, xg37_3, xg37_4, (vs none 0 0), (vs none 0 0), (vi 0), (vi 0), (vs none 0 0), (vs none 0 0)] ∧ xg37_3 = (vs a6 x_f.Sn.length c7))), (40, [], [0, 1, 2, 3, 4, 5, 8, 9, 10, 11], (fun _ v _ => v = (vp g37 4))), (178, [], [0, 1, 2, 3, 4, 5, 8, 9, 10, 11, 12], (fun _ _ w => ∃ xg37_2 xg37_3 xg37_4 : Value, Blk w g37 87 [(vi x_f.Kind), (vi 0), xg37_2, xg37_3, xg37_4, (vs none 0 0), (vs none 0 0), (vi 0), (vi 0), (vs none 0 0), (vs none 0 0)] ∧ xg37_4 = (vi x_f.Tick)))] : GV) (fun lf w' => Ch (fun k => k = g37) w3 w' ∧ (∃ xg37_2 xg37_3 xg37_4 : Value, Blk w' g37 87 [(vi x_f.Kind), (vi 0), xg37_2, xg37_3, xg37_4, (vs none 0 0), (vs none 0 0), (vi 0), (vi 0), (vs none 0 0), (vs none 0 0)] ∧ (lf 9 = false → xg37_2 = (vs none 0 0)) ∧ (lf 11 = false → xg37_3 = (vs none 0 0)) ∧ (lf 13 = false → xg37_4 = (vi 0)))) [(9, fun w w' => Ch (fun k => k = g37) w w' ∧ ∀ xg37_2 xg37_3 xg37_4 : Value, Blk w g37 87 [(vi x_f.Kind), (vi 0), xg37_2, xg37_3, xg37_4, (vs none 0 0), (vs none 0 0), (vi 0), (vi 0), (vs none 0 0), (vs none 0 0)] → ∃ y2 : Value, Blk w' g37 87 [(vi x_f.Kind), (vi 0), y2, xg37_3, xg37_4, (vs none 0 0), (vs none 0 0), (vi 0), (vi 0), (vs none 0 0), (vs none 0 0)]), (11, fun w w' => Ch (fun k => k = g37) w w' ∧ ∀ xg37_2 xg37_3 xg37_4 : Value, Blk w g37 87 [(vi x_f.Kind), (vi 0), xg37_2, xg37_3, xg37_4, (vs none 0 0), (vs none 0 0), (vi 0), (vi 0), (vs none 0 0), (vs none 0 0)] → ∃ y3 : Value, Blk w' g37 87 [(vi x_f.Kind), (vi 0), xg37_2, y3, xg37_4, (vs none 0 0), (vs none 0 0), (vi 0), (vi 0), (vs none 0 0), (vs none 0 0)]), (13, fun w w' => Ch (fun k => k = g37) w w' ∧ ∀ xg37_2 xg37_3 xg37_4 : Value, Blk w g37 87 [(vi x_f.Kind), (vi 0), xg37_2, xg37_3, xg37_4, (vs none 0 0), (vs none 0 0), (vi 0), (vi 0), (vs none 0 0), (vs none 0 0)] → ∃ y4 : Value, Blk w' g37 87 [(vi x_f.Kind), (vi 0), xg37_2, xg37_3, y4, (vs none 0 0), (vs none 0 0), (vi 0), (vi 0), (vs none 0 0), (vs none 0 0)])] mixed rfl (by kernel_rfl) (by kernel_rfl) ?_ (fun _ _ h => ⟨h.to _, ⟨_, _, _, b44.kp h, fun _ => rfl, fun _ => rfl, fun _ => rfl⟩⟩) (fun _ _ _ _ h mo k => by obtain ⟨hc, ⟨xg37_2, xg37_3, xg37_4, hbg37, heg37_2, heg37_3, heg37_4⟩⟩ := h; exact ⟨hc.comp k (fun _ _ q => q.elim), ⟨_, _, _, hbg37.kp k, fun q => heg37_2 (mo _ q), fun q => heg37_3 (mo _ q), fun q => heg37_4 (mo _ q)⟩⟩) ⟨(fun _ _ w w' h mo hj t => by obtain ⟨hc, ⟨xg37_2, xg37_3, xg37_4, hbg37, heg37_2, heg37_3, heg37_4⟩⟩ := h; obtain ⟨z0, hz⟩ := t.2 _ _ _ hbg37; exact ⟨hc.comp t.1 (fun _ _ q => q), ⟨_, _, _, hz, (fun q => by rw [hj] at q; cases q), fun q => heg37_3 (mo _ q), fun q => heg37_4 (mo _ q)⟩⟩), ⟨(fun _ _ w w' h mo hj t => by obtain ⟨hc, ⟨xg37_2, xg37_3, xg37_4, hbg37, heg37_2, heg37_3, heg37_4⟩⟩ := h; obtain ⟨z0, hz⟩ := t.2 _ _ _ hbg37; exact ⟨hc.comp t.1 (fun _ _ q => q), ⟨_, _, _, hz, fun q => heg37_2 (mo _ q), (fun q => by rw [hj] at q; cases q), fun q => heg37_4 (mo _ q)⟩⟩), ⟨(fun _ _ w w' h mo hj t => by obtain ⟨hc, ⟨xg37_2, xg37_3, xg37_4, hbg37, heg37_2, heg37_3, heg37_4⟩⟩ := h; obtain ⟨z0, hz⟩ := t.2 _ _ _ hbg37; exact ⟨hc.comp t.1 (fun _ _ q => q), ⟨_, _, _, hz, fun q => heg37_2 (mo _ q), fun q => heg37_3 (mo _ q), (fun q => by rw [hj] at q; cases q)⟩⟩), trivial⟩⟩⟩ ?_ ?_ ?_
  ·exact ⟨(fun _ _ _ _ h _ => h), (fun _ _ _ _ _ h => h), ⟨(fun _ _ _ _ h _ => h), (fun _ _ _ _ _ h => h), ⟨(fun _ _ _ _ h _ => h), (fun _ _ _ _ _ h => h), ⟨(fun _ _ _ _ h _ => h), (fun _ _ _ _ _ h => h), ⟨(fun _ _ _ _ h _ => h), (fun _ _ _ _ _ h => h), ⟨(fun _ _ _ _ h _ => h), (fun _ _ _ _ _ h => h), ⟨(fun _ _ _ _ h _ => h), (fun _ _ _ _ _ h => h), ⟨(fun _ _ _ _ h _ => h), (fun _ _ _ _ _ h => h), ⟨(fun _ _ _ _ h _ => h), (fun _ _ _ _ _ h => h), ⟨(fun e v w w1 h hk => by obtain ⟨xg37_2, xg37_3, xg37_4, hb, he⟩ := h; exact ⟨_, _, _, hb.kp hk, he⟩), (fun _ _ _ _ _ h => h), ⟨(fun _ _ _ _ h _ => h), (fun _ _ _ _ _ h => h), ⟨(fun e v w w1 h hk => by obtain ⟨xg37_2, xg37_3, xg37_4, hb, he⟩ := h; exact ⟨_, _, _, hb.kp hk, he⟩), (fun _ _ _ _ _ h => h), ⟨(fun _ _ _ _ h _ => h), (fun _ _ _ _ _ h => h), ⟨(fun e v w w1 h hk => by obtain ⟨xg37_2, xg37_3, xg37_4, hb, he⟩ := h; exact ⟨_, _, _, hb.kp hk, he⟩), (fun _ _ _ _ _ h => h), trivial⟩⟩⟩⟩⟩⟩⟩⟩⟩⟩⟩⟩⟩⟩
  ·exact ⟨⟨.inr (fun _ _ _ _ h _ => h), ⟨.inr (fun _ _ _ _ h _ => h), ⟨.inr (fun _ _ _ _ h _ => h), ⟨.inr (fun _ _ _ _ h _ => h), ⟨.inr (fun _ _ _ _ h _ => h), ⟨.inr (fun _ _ _ _ h _ => h), ⟨.inr (fun _ _ _ _ h _ => h), ⟨.inr (fun _ _ _ _ h _ => h), ⟨.inr (fun _ _ _ _ h _ => h), ⟨.inl rfl, ⟨.inr (fun _ _ _ _ h _ => h), ⟨.inr (fun e v w w1 h ht => by obtain ⟨xg37_2, xg37_3, xg37_4, hb, he⟩ := h; obtain ⟨z0, hz⟩ := ht.2 _ _ _ hb; exact ⟨_, _, _, hz, he⟩), ⟨.inr (fun _ _ _ _ h _ => h), ⟨.inr (fun e v w w1 h ht => by obtain ⟨xg37_2, xg37_3, xg37_4, hb, he⟩ := h; obtain ⟨z0, hz⟩ := ht.2 _ _ _ hb; exact ⟨_, _, _, hz, he⟩), trivial⟩⟩⟩⟩⟩⟩⟩⟩⟩⟩⟩⟩⟩⟩, ⟨⟨.inr (fun _ _ _ _ h _ => h), ⟨.inr (fun _ _ _ _ h _ => h), ⟨.inr (fun _ _ _ _ h _ => h), ⟨.inr (fun _ _ _ _ h _ => h), ⟨.inr (fun _ _ _ _ h _ => h), ⟨.inr (fun _ _ _ _ h _ => h), ⟨.inr (fun _ _ _ _ h _ => h), ⟨.inr (fun _ _ _ _ h _ => h), ⟨.inr (fun _ _ _ _ h _ => h), ⟨.inr (fun e v w w1 h ht => by obtain ⟨xg37_2, xg37_3, xg37_4, hb, he⟩ := h; obtain ⟨z0, hz⟩ := ht.2 _ _ _ hb; exact ⟨_, _, _, hz, he⟩), ⟨.inr (fun _ _ _ _ h _ => h), ⟨.inl rfl, ⟨.inr (fun _ _ _ _ h _ => h), ⟨.inr (fun e v w w1 h ht => by obtain ⟨xg37_2, xg37_3, xg37_4, hb, he⟩ := h; obtain ⟨z0, hz⟩ := ht.2 _ _ _ hb; exact ⟨_, _, _, hz, he⟩), trivial⟩⟩⟩⟩⟩⟩⟩⟩⟩⟩⟩⟩⟩⟩, ⟨⟨.inr (fun _ _ _ _ h _ => h), ⟨.inr (fun _ _ _ _ h _ => h), ⟨.inr (fun _ _ _ _ h _ => h), ⟨.inr (fun _ _ _ _ h _ => h), ⟨.inr (fun _ _ _ _ h _ => h), ⟨.inr (fun _ _ _ _ h _ => h), ⟨.inr (fun _ _ _ _ h _ => h), ⟨.inr (fun _ _ _ _ h _ => h), ⟨.inr (fun _ _ _ _ h _ => h), ⟨.inr (fun e v w w1 h ht => by obtain ⟨xg37_2, xg37_3, xg37_4, hb, he⟩ := h; obtain ⟨z0, hz⟩ := ht.2 _ _ _ hb; exact ⟨_, _, _, hz, he⟩), ⟨.inr (fun _ _ _ _ h _ => h), ⟨.inr (fun e v w w1 h ht => by obtain ⟨xg37_2, xg37_3, xg37_4, hb, he⟩ := h; obtain ⟨z0, hz⟩ := ht.2 _ _ _ hb; exact ⟨_, _, _, hz, he⟩), ⟨.inr (fun _ _ _ _ h _ => h), ⟨.inl rfl, trivial⟩⟩⟩⟩⟩⟩⟩⟩⟩⟩⟩⟩⟩⟩, trivial⟩⟩⟩
  ·refine ⟨?_, ⟨?_, ⟨?_, ⟨?_, ⟨?_, ⟨?_, ⟨?_, ⟨?_, ⟨?_, ⟨?_, ⟨?_, ⟨?_, ⟨?_, ⟨?_, trivial⟩⟩⟩⟩⟩⟩⟩⟩⟩⟩⟩⟩⟩⟩
   ·rintro lf w4 ⟨k147, ⟨xg37_2, xg37_3, xg37_4, b148, p149, p150, p151⟩⟩ ⟨n152, n153, n154, -⟩
    have m155 := m46.ext k147 (fun k hk => by subst hk; exact Nat.le_trans k34.size p38)
    obtain rfl : xg37_2 = (vs none 0 0) := p149 (n152.resolve_left (fun h => Bool.noConfusion (show true = false from h)))
    obtain rfl : xg37_3 = (vs none 0 0) := p150 (n153.resolve_left (fun h => Bool.noConfusion (show true = false from h)))
    obtain rfl : xg37_4 = (vi 0) := p151 (n154.resolve_left (fun h => Bool.noConfusion (show true = false from h)))
    rintro _ _ _ _ _ _ _ _ _ _ _ _ _ _
    show WL _ _ _ _ _ _ _
    refine pu (vp g31 2) wN ?_
    exact wl_finT (Ch.refl _ _) rfl
   ·rintro lf w4 ⟨k156, ⟨xg37_2, xg37_3, xg37_4, b157, p158, p159, p160⟩⟩ ⟨n161, n162, n163, -⟩
    have m164 := m46.ext k156 (fun k hk => by subst hk; exact Nat.le_trans k34.size p38)
    obtain rfl : xg37_2 = (vs none 0 0) := p158 (n161.resolve_left (fun h => Bool.noConfusion (show true = false from h)))
    obtain rfl : xg37_3 = (vs none 0 0) := p159 (n162.resolve_left (fun h => Bool.noConfusion (show true = false from h)))
    obtain rfl : xg37_4 = (vi 0) := p160 (n163.resolve_left (fun h => Bool.noConfusion (show true = false from h)))
    rintro _ rfl _ _ _ _ _ _ _ _ _ _ _ _ _
    show WL _ _ _ _ _ _ _
    have b165 := (b47.ch k156 (Nat.ne_of_lt (Nat.lt_of_lt_of_le p33 (Nat.le_trans (Nat.le_refl _) p38))))
    refine ld (vs a1 x_f.Cn.length c2) wN isAgg_22 b165 ?_
    exact wl_finT (Ch.refl _ _) rfl
   ·rintro lf w4 ⟨k166, ⟨xg37_2, xg37_3, xg37_4, b167, p168, p169, p170⟩⟩ ⟨n171, n172, n173, -⟩
    have m174 := m46.ext k166 (fun k hk => by subst hk; exact Nat.le_trans k34.size p38)
    obtain rfl : xg37_3 = (vs none 0 0) := p169 (n172.resolve_left (fun h => Bool.noConfusion (show true = false from h)))
    obtain rfl : xg37_4 = (vi 0) := p170 (n173.resolve_left (fun h => Bool.noConfusion (show true = false from h)))
    rintro _ _ _ _ _ _ _ _ _ _ _ _ _ _
    show WL _ _ _ _ _ _ _
    refine pu (vp g31 3) wN ?_
    exact wl_finT (Ch.refl _ _) rfl
   ·rintro lf w4 ⟨k175, ⟨xg37_2, xg37_3, xg37_4, b176, p177, p178, p179⟩⟩ ⟨n180, n181, n182, -⟩
    have m183 := m46.ext k175 (fun k hk => by subst hk; exact Nat.le_trans k34.size p38)
    obtain rfl : xg37_3 = (vs none 0 0) := p178 (n181.resolve_left (fun h => Bool.noConfusion (show true = false from h)))
    obtain rfl : xg37_4 = (vi 0) := p179 (n182.resolve_left (fun h => Bool.noConfusion (show true = false from h)))
    rintro _ _ _ rfl _ _ _ _ _ _ _ _ _ _ _
    show WL _ _ _ _ _ _ _
    have b184 := (b47.ch k175 (Nat.ne_of_lt (Nat.lt_of_lt_of_le p33 (Nat.le_trans (Nat.le_refl _) p38))))
    refine ld (vs a6 x_f.Sn.length c7) wN isAgg_22 b184 ?_
    exact wl_finT (Ch.refl _ _) rfl
   ·rintro lf w4 ⟨k185, ⟨xg37_2, xg37_3, xg37_4, b186, p187, p188, p189⟩⟩ ⟨n190, n191, n192, -⟩
    have m193 := m46.ext k185 (fun k hk => by subst hk; exact Nat.le_trans k34.size p38)
    obtain rfl : xg37_4 = (vi 0) := p189 (n192.resolve_left (fun h => Bool.noConfusion (show true = false from h)))
    rintro _ _ _ _ _ _ _ _ _ _ _ _ _ _
    show WL _ _ _ _ _ _ _
    refine pu (vp g31 4) wN ?_
    exact wl_finT (Ch.refl _ _) rfl
   ·rintro lf w4 ⟨k194, ⟨xg37_2, xg37_3, xg37_4, b195, p196, p197, p198⟩⟩ ⟨n199, n200, n201, -⟩
    have m202 := m46.ext k194 (fun k hk => by subst hk; exact Nat.le_trans k34.size p38)
    obtain rfl : xg37_4 = (vi 0) := p198 (n201.resolve_left (fun h => Bool.noConfusion (show true = false from h)))
    rintro _ _ _ _ _ rfl _ _ _ _ _ _ _ _ _
    show WL _ _ _ _ _ _ _
    have b203 := (b47.ch k194 (Nat.ne_of_lt (Nat.lt_of_lt_of_le p33 (Nat.le_trans (Nat.le_refl _) p38))))
    refine ld (vi x_f.Tick) wN isAgg_3 b203 ?_
    exact wl_finT (Ch.refl _ _) rfl
   ·rintro lf w4 ⟨k204, ⟨xg37_2, xg37_3, xg37_4, b205, p206, p207, p208⟩⟩ ⟨n209, n210, n211, -⟩
    have m212 := m46.ext k204 (fun k hk => by subst hk; exact Nat.le_trans k34.size p38)
    rintro _ _ _ _ _ _ _ _ _ _ _ _ _ _
    show WL _ _ _ _ _ _ _
    refine pu (vp g31 5) wN ?_
    exact wl_finT (Ch.refl _ _) rfl
   ·rintro lf w4 ⟨k213, ⟨xg37_2, xg37_3, xg37_4, b214, p215, p216, p217⟩⟩ ⟨n218, n219, n220, -⟩
    have m221 := m46.ext k213 (fun k hk => by subst hk; exact Nat.le_trans k34.size p38)
    rintro _ _ _ _ _ _ _ rfl _ _ _ _ _ _ _
    show WL _ _ _ _ _ _ _
    have b222 := (b47.ch k213 (Nat.ne_of_lt (Nat.lt_of_lt_of_le p33 (Nat.le_trans (Nat.le_refl _) p38))))
    refine ld (vs a11 x_f.Cookie.length c12) wN isAgg_22 b222 ?_
    exact wl_finT (Ch.refl _ _) rfl
   ·rintro lf w4 ⟨k223, ⟨xg37_2, xg37_3, xg37_4, b224, p225, p226, p227⟩⟩ ⟨n228, n229, n230, -⟩
    have m231 := m46.ext k223 (fun k hk => by subst hk; exact Nat.le_trans k34.size p38)
    obtain rfl : xg37_2 = (vs none 0 0) := p225 (n228.resolve_left (fun h => Bool.noConfusion (show true = false from h)))
    obtain rfl : xg37_3 = (vs none 0 0) := p226 (n229.resolve_left (fun h => Bool.noConfusion (show true = false from h)))
    obtain rfl : xg37_4 = (vi 0) := p227 (n230.resolve_left (fun h => Bool.noConfusion (show true = false from h)))
    rintro _ rfl _ rfl _ _ _ _ _ _ _ _ _ _ _ _
    show WL _ _ _ _ _ _ _
    refine pu (vp g37 2) wN ?_
    exact wl_finT (Ch.refl _ _) rfl
   ·rintro lf w4 ⟨k233, ⟨xg37_2, xg37_3, xg37_4, b234, p235, p236, p237⟩⟩ ⟨n238, n239, n240, -⟩
    have m241 := m46.ext k233 (fun k hk => by subst hk; exact Nat.le_trans k34.size p38)
    obtain rfl : xg37_3 = (vs none 0 0) := p236 (n239.resolve_left (fun h => Bool.noConfusion (show true = false from h)))
    obtain rfl : xg37_4 = (vi 0) := p237 (n240.resolve_left (fun h => Bool.noConfusion (show true = false from h)))
    rintro _ rfl _ rfl _ _ _ _ _ _ _ rfl _ _ _ _ _
    show WL _ _ _ _ _ _ _
    refine st (vs a1 x_f.Cn.length c2) [(vs a1 x_f.Cn.length c2)] [(vi x_f.Kind), (vi 0), (vs a1 x_f.Cn.length c2), (vs none 0 0), (vi 0), (vs none 0 0), (vs none 0 0), (vi 0), (vi 0), (vs none 0 0), (vs none 0 0)] wN sizeOf_22 b234 ?_
    intro w5 k243 b244 z245
    have m246 := m241.ext k243 (fun k hk => by subst hk; exact Nat.le_trans k34.size p38)
    exact wl_finS (by decide) ⟨k243, fun yg37_2 yg37_3 yg37_4 hb => by have hq := Blk.inj b234 hb;  have hr3 : (vs none 0 0) = yg37_3 := congrArg (fun l => List.getD l 3 U) hq; rw [← hr3]; have hr4 : (vi 0) = yg37_4 := congrArg (fun l => List.getD l 4 U) hq; rw [← hr4]; exact ⟨_, b244⟩⟩ ⟨_, _, _, b244, rfl⟩
   ·rintro lf w4 ⟨k247, ⟨xg37_2, xg37_3, xg37_4, b248, p249, p250, p251⟩⟩ ⟨n252, n253, n254, -⟩
    have m255 := m46.ext k247 (fun k hk => by subst hk; exact Nat.le_trans k34.size p38)
    obtain rfl : xg37_3 = (vs none 0 0) := p250 (n253.resolve_left (fun h => Bool.noConfusion (show true = false from h)))
    obtain rfl : xg37_4 = (vi 0) := p251 (n254.resolve_left (fun h => Bool.noConfusion (show true = false from h)))
    rintro _ rfl _ rfl _ rfl _ rfl _ _ _ _ _ rfl _ ⟨y259, y260, y261, b258, rfl⟩
    obtain rfl : xg37_2 = (vs a1 x_f.Cn.length c2) := congrArg (fun l => List.getD l 2 U) (Blk.inj b248 b258)
    rintro _ _ _ _
    show WL _ _ _ _ _ _ _
    refine pu (vp g37 3) wN ?_
    exact wl_finT (Ch.refl _ _) rfl
   ·rintro lf w4 ⟨k262, ⟨xg37_2, xg37_3, xg37_4, b263, p264, p265, p266⟩⟩ ⟨n267, n268, n269, -⟩
    have m270 := m46.ext k262 (fun k hk => by subst hk; exact Nat.le_trans k34.size p38)
    obtain rfl : xg37_4 = (vi 0) := p266 (n269.resolve_left (fun h => Bool.noConfusion (show true = false from h)))
    rintro _ rfl _ rfl _ rfl _ rfl _ _ _ _ _ rfl _ ⟨y274, y275, y276, b273, rfl⟩
    obtain rfl : xg37_2 = (vs a1 x_f.Cn.length c2) := congrArg (fun l => List.getD l 2 U) (Blk.inj b263 b273)
    rintro _ rfl _ _ _
    show WL _ _ _ _ _ _ _
    refine st (vs a6 x_f.Sn.length c7) [(vs a6 x_f.Sn.length c7)] [(vi x_f.Kind), (vi 0), (vs a1 x_f.Cn.length c2), (vs a6 x_f.Sn.length c7), (vi 0), (vs none 0 0), (vs none 0 0), (vi 0), (vi 0), (vs none 0 0), (vs none 0 0)] wN sizeOf_22 b263 ?_
    intro w5 k277 b278 z279
    have m280 := m270.ext k277 (fun k hk => by subst hk; exact Nat.le_trans k34.size p38)
    exact wl_finS (by decide) ⟨k277, fun yg37_2 yg37_3 yg37_4 hb => by have hq := Blk.inj b263 hb;  have hr2 : (vs a1 x_f.Cn.length c2) = yg37_2 := congrArg (fun l => List.getD l 2 U) hq; rw [← hr2]; have hr4 : (vi 0) = yg37_4 := congrArg (fun l => List.getD l 4 U) hq; rw [← hr4]; exact ⟨_, b278⟩⟩ ⟨_, _, _, b278, rfl⟩
   ·rintro lf w4 ⟨k281, ⟨xg37_2, xg37_3, xg37_4, b282, p283, p284, p285⟩⟩ ⟨n286, n287, n288, -⟩
    have m289 := m46.ext k281 (fun k hk => by subst hk; exact Nat.le_trans k34.size p38)
    obtain rfl : xg37_4 = (vi 0) := p285 (n288.resolve_left (fun h => Bool.noConfusion (show true = false from h)))
    rintro _ rfl _ rfl _ rfl _ rfl _ rfl _ rfl _ _ _ rfl _ ⟨y294, y295, y296, b293, rfl⟩
    obtain rfl : xg37_2 = (vs a1 x_f.Cn.length c2) := congrArg (fun l => List.getD l 2 U) (Blk.inj b282 b293)
    rintro _ rfl _ ⟨y298, y299, y300, b297, rfl⟩
    obtain rfl : xg37_3 = (vs a6 x_f.Sn.length c7) := congrArg (fun l => List.getD l 3 U) (Blk.inj b282 b297)
    rintro _ _
    show WL _ _ _ _ _ _ _
    refine pu (vp g37 4) wN ?_
    exact wl_finT (Ch.refl _ _) rfl
   ·rintro lf w4 ⟨k301, ⟨xg37_2, xg37_3, xg37_4, b302, p303, p304, p305⟩⟩ ⟨n306, n307, n308, -⟩
    have m309 := m46.ext k301 (fun k hk => by subst hk; exact Nat.le_trans k34.size p38)
    rintro _ rfl _ rfl _ rfl _ rfl _ rfl _ rfl _ _ _ rfl _ ⟨y314, y315, y316, b313, rfl⟩
    obtain rfl : xg37_2 = (vs a1 x_f.Cn.length c2) := congrArg (fun l => List.getD l 2 U) (Blk.inj b302 b313)
    rintro _ rfl _ ⟨y318, y319, y320, b317, rfl⟩
    obtain rfl : xg37_3 = (vs a6 x_f.Sn.length c7) := congrArg (fun l => List.getD l 3 U) (Blk.inj b302 b317)
    rintro _ rfl _
    show WL _ _ _ _ _ _ _
    refine st (vi x_f.Tick) [(vi x_f.Tick)] [(vi x_f.Kind), (vi 0), (vs a1 x_f.Cn.length c2), (vs a6 x_f.Sn.length c7), (vi x_f.Tick), (vs none 0 0), (vs none 0 0), (vi 0), (vi 0), (vs none 0 0), (vs none 0 0)] wN sizeOf_3 b302 ?_
    intro w5 k321 b322 z323
    have m324 := m309.ext k321 (fun k hk => by subst hk; exact Nat.le_trans k34.size p38)
    exact wl_finS (by decide) ⟨k321, fun yg37_2 yg37_3 yg37_4 hb => by have hq := Blk.inj b302 hb;  have hr2 : (vs a1 x_f.Cn.length c2) = yg37_2 := congrArg (fun l => List.getD l 2 U) hq; rw [← hr2]; have hr3 : (vs a6 x_f.Sn.length c7) = yg37_3 := congrArg (fun l => List.getD l 3 U) hq; rw [← hr3]; exact ⟨_, b322⟩⟩ ⟨_, _, _, b322, rfl⟩
  ·rintro lf w4 ⟨k325, ⟨xg37_2, xg37_3, xg37_4, b326, p327, p328, p329⟩⟩
   have m333 := m46.ext k325 (fun k hk => by subst hk; exact Nat.le_trans k34.size p38)
   rintro _ rfl _ rfl _ rfl _ rfl _ rfl _ rfl _ rfl _ rfl _ rfl _ ⟨y339, y340, y341, b338, rfl⟩
   obtain rfl : xg37_2 = (vs a1 x_f.Cn.length c2) := congrArg (fun l => List.getD l 2 U) (Blk.inj b326 b338)
   rintro _ rfl _ ⟨y343, y344, y345, b342, rfl⟩
   obtain rfl : xg37_3 = (vs a6 x_f.Sn.length c7) := congrArg (fun l => List.getD l 3 U) (Blk.inj b326 b342)
   rintro _ rfl _ ⟨y347, y348, y349, b346, rfl⟩
   obtain rfl : xg37_4 = (vi x_f.Tick) := congrArg (fun l => List.getD l 4 U) (Blk.inj b326 b346)
   show WL _ _ _ _ _ _ _
   refine pu (vp g37 5) wN ?_
   refine st (vs a11 x_f.Cookie.length c12) [(vs a11 x_f.Cookie.length c12)] [(vi x_f.Kind), (vi 0), (vs a1 x_f.Cn.length c2), (vs a6 x_f.Sn.length c7), (vi x_f.Tick), (vs a11 x_f.Cookie.length c12), (vs none 0 0), (vi 0), (vi 0), (vs none 0 0), (vs none 0 0)] wN sizeOf_22 b326 ?_
   intro w5 k350 b351 z352
   have m353 := m333.ext k350 (fun k hk => by subst hk; exact Nat.le_trans k34.size p38)
   refine wl_nil <| wq_then <| wc_region ?_
   refine pu (vp g31 2) wN ?_
   have b354 := ((b47.ch k325 (Nat.ne_of_lt (Nat.lt_of_lt_of_le p33 (Nat.le_trans (Nat.le_refl _) p38)))).ch k350 (Nat.ne_of_lt (Nat.lt_of_lt_of_le p33 (Nat.le_trans (Nat.le_refl _) p38))))
   refine ld (vs a1 x_f.Cn.length c2) wN isAgg_22 b354 ?_
   refine cl wN (C_impl_isNonce w5 _ x_f.Cn (mR_22 (r3.from0 m353) s4)) ?_
   rintro _ w6 ⟨k355, rfl⟩
   have m356 := m353.extk k355
   refine mv (vb (F_impl_isNonce x_f.Cn)) wN ?_
   rcases bf (F_impl_isNonce x_f.Cn) with h357 | h357
   ·refine sk h357 ?_
    refine sk h357 ?_
    refine sk h357 ?_
    refine pf (vb false) wN h357 ?_
    refine mv (vb false) wN ?_
    refine sk (Eq.refl false) ?_
    refine sk (Eq.refl false) ?_
    refine sk (Eq.refl false) ?_
    refine pf (vb false) wN (Eq.refl false) ?_
    refine mv (vb false) wN ?_
    refine sk (Eq.refl false) ?_
    refine sk (Eq.refl false) ?_
    refine sk (Eq.refl false) ?_
    refine sk (Eq.refl false) ?_
    refine pf (vb false) wN (Eq.refl false) ?_
    refine ag (vb false) wN ?_
    refine wl_nil <| wq_blk_normal <| wq_then <| sr ?_
    refine mv (vb false) wN ?_
    refine mv (vb false) wN ?_
    refine sk (Eq.refl false) ?_
    refine sk (Eq.refl false) ?_
    refine sk (Eq.refl false) ?_
    refine pf (vb false) wN (Eq.refl false) ?_
    refine ag (vb false) wN ?_
    refine wl_nil <| wq_then <| wc_ret ?_
    refine ret_1 (.inl rfl) (vb false) rfl rfl ?_
    refine ⟨m356.keep0, ?_⟩
    have hF383 : F_impl_FrameOk x_f = false := by simp only [F_impl_FrameOk, h48, h129, h357, cond_true, cond_false]
    rw [hF383]
    exact rfl
   refine pu (vp g31 3) (wS h357) ?_
   have b359 := (b354.kp k355)
   refine ld (vs a6 x_f.Sn.length c7) (wS h357) isAgg_22 b359 ?_
   refine cl (wS h357) (C_impl_isNonce w6 _ x_f.Sn (mR_22 (r8.from0 m356) s9)) ?_
   rintro _ w7 ⟨k360, rfl⟩
   have m361 := m356.extk k360
   refine pk (vb (F_impl_isNonce x_f.Sn)) wN h357 ?_
   refine mv (vb (F_impl_isNonce x_f.Sn)) wN ?_
   rcases bf (F_impl_isNonce x_f.Sn) with h362 | h362
   ·refine sk h362 ?_
    refine sk h362 ?_
    refine sk h362 ?_
    refine pf (vb false) wN h362 ?_
    refine mv (vb false) wN ?_
    refine sk (Eq.refl false) ?_
    refine sk (Eq.refl false) ?_
    refine sk (Eq.refl false) ?_
    refine sk (Eq.refl false) ?_
    refine pf (vb false) wN (Eq.refl false) ?_
    refine ag (vb false) wN ?_
    refine wl_nil <| wq_blk_normal <| wq_then <| sr ?_
    refine mv (vb false) wN ?_
    refine mv (vb false) wN ?_
    refine sk (Eq.refl false) ?_
    refine sk (Eq.refl false) ?_
    refine sk (Eq.refl false) ?_
    refine pf (vb false) wN (Eq.refl false) ?_
    refine ag (vb false) wN ?_
    refine wl_nil <| wq_then <| wc_ret ?_
    refine ret_1 (.inl rfl) (vb false) rfl rfl ?_
    refine ⟨m361.keep0, ?_⟩
    have hF381 : F_impl_FrameOk x_f = false := by simp only [F_impl_FrameOk, h48, h129, h357, h362, cond_true, cond_false]
    rw [hF381]
    exact rfl
   refine pu (vp g31 4) (wS h362) ?_
   have b364 := (b359.kp k360)
   refine ld (vi x_f.Tick) (wS h362) isAgg_3 b364 ?_
   refine cl (wS h362) (C_impl_within w7 x_f.Tick 0 1000000) ?_
   rintro _ w8 ⟨k365, rfl⟩
   have m366 := m361.extk k365
   refine pk (vb (F_impl_within x_f.Tick 0 1000000)) wN h362 ?_
   refine mv (vb (F_impl_within x_f.Tick 0 1000000)) wN ?_
   rcases bf (F_impl_within x_f.Tick 0 1000000) with h367 | h367
   ·have q378 := impl_within_f h367
    refine sk h367 ?_
    refine sk h367 ?_
    refine sk h367 ?_
    refine sk h367 ?_
    refine pf (vb false) wN h367 ?_
    refine ag (vb false) wN ?_
    refine wl_nil <| wq_blk_normal <| wq_then <| sr ?_
    refine mv (vb false) wN ?_
    refine mv (vb false) wN ?_
    refine sk (Eq.refl false) ?_
    refine sk (Eq.refl false) ?_
    refine sk (Eq.refl false) ?_
    refine pf (vb false) wN (Eq.refl false) ?_
    refine ag (vb false) wN ?_
    refine wl_nil <| wq_then <| wc_ret ?_
    refine ret_1 (.inl rfl) (vb false) rfl rfl ?_
    refine ⟨m366.keep0, ?_⟩
    have hF379 : F_impl_FrameOk x_f = false := by simp only [F_impl_FrameOk, h48, h129, h357, h362, h367, cond_true, cond_false]
    rw [hF379]
    exact rfl
   have q368 := impl_within_t h367
   refine pu (vp g31 5) (wS h367) ?_
   have b369 := (b364.kp k365)
   refine ld (vs a11 x_f.Cookie.length c12) (wS h367) isAgg_22 b369 ?_
   refine ln (wS h367) slTy_22 (r13.from0 m366) ?_
   refine pu (vb (decide ((x_f.Cookie.length : Int) = 16))) (wS h367) ?_
   refine pk (vb (decide ((x_f.Cookie.length : Int) = 16))) wN h367 ?_
   refine ag (vb (decide ((x_f.Cookie.length : Int) = 16))) wN ?_
   refine wl_nil <| wq_blk_normal <| wq_then <| sr ?_
   refine mv (vb (decide ((x_f.Cookie.length : Int) = 16))) wN ?_
   refine mv (vb (decide ((x_f.Cookie.length : Int) = 16))) wN ?_
   rcases bf (decide ((x_f.Cookie.length : Int) = 16)) with h370 | h370
   ·have q376 := of_decide_eq_false h370
    refine sk h370 ?_
    refine sk h370 ?_
    refine sk h370 ?_
    refine pf (vb false) wN h370 ?_
    refine ag (vb false) wN ?_
    refine wl_nil <| wq_then <| wc_ret ?_
    refine ret_1 (.inl rfl) (vb false) rfl rfl ?_
    refine ⟨m366.keep0, ?_⟩
    have hF377 : F_impl_FrameOk x_f = false := by simp only [F_impl_FrameOk, h48, h129, h357, h362, h367, h370, cond_true, cond_false]
    rw [hF377]
    exact rfl
   have q371 := of_decide_eq_true h370
   refine lN (L_87 x_f a1 c2 a6 c7 a11 c12 a16 c17 a21 c22 a26 c27) (wS h370) isAgg_87 sizeOf_87 b369 ?_
   have b372 := (((b351.kp k355).kp k360).kp k365)
   refine lN [(vi x_f.Kind), (vi 0), (vs a1 x_f.Cn.length c2), (vs a6 x_f.Sn.length c7), (vi x_f.Tick), (vs a11 x_f.Cookie.length c12), (vs none 0 0), (vi 0), (vi 0), (vs none 0 0), (vs none 0 0)] (wS h370) isAgg_87 sizeOf_87 b372 ?_
   refine cl (wS h370) (C_impl_sameFrame w8 _ x_f (mR_87 (r3.from0 m366) s4 (r8.from0 m366) s9 (r13.from0 m366) s14 (r18.from0 m366) s19 (r23.from0 m366) s24 (r28.from0 m366) s29) (va [(vi x_f.Kind), (vi 0), (vs a1 x_f.Cn.length c2), (vs a6 x_f.Sn.length c7), (vi x_f.Tick), (vs a11 x_f.Cookie.length c12), (vs none 0 0), (vi 0), (vi 0), (vs none 0 0), (vs none 0 0)]) { Kind := x_f.Kind, Id := 0, Cn := x_f.Cn, Sn := x_f.Sn, Tick := x_f.Tick, Cookie := x_f.Cookie, Proof := [], Epoch := 0, Seq := 0, Body := [], Tag := [] : PFrame } (show R_87 w8 (va [(vi x_f.Kind), (vi 0), (vs a1 x_f.Cn.length c2), (vs a6 x_f.Sn.length c7), (vi x_f.Tick), (vs a11 x_f.Cookie.length c12), (vs none 0 0), (vi 0), (vi 0), (vs none 0 0), (vs none 0 0)]) { Kind := x_f.Kind, Id := 0, Cn := x_f.Cn, Sn := x_f.Sn, Tick := x_f.Tick, Cookie := x_f.Cookie, Proof := [], Epoch := 0, Seq := 0, Body := [], Tag := [] : PFrame } from ⟨_, _, _, _, _, _, _, _, _, _, _, _, rfl, (r3.from0 m366), s4, (r8.from0 m366), s9, (r13.from0 m366), s14, (Rd.nil _ _), (by simp), (Rd.nil _ _), (by simp), (Rd.nil _ _), (by simp)⟩)) ?_
   rintro _ w9 ⟨k373, rfl⟩
   have m374 := m366.extk k373
   refine pk (vb (F_impl_sameFrame x_f { Kind := x_f.Kind, Id := 0, Cn := x_f.Cn, Sn := x_f.Sn, Tick := x_f.Tick, Cookie := x_f.Cookie, Proof := [], Epoch := 0, Seq := 0, Body := [], Tag := [] : PFrame })) wN h370 ?_
   refine ag (vb (F_impl_sameFrame x_f { Kind := x_f.Kind, Id := 0, Cn := x_f.Cn, Sn := x_f.Sn, Tick := x_f.Tick, Cookie := x_f.Cookie, Proof := [], Epoch := 0, Seq := 0, Body := [], Tag := [] : PFrame })) wN ?_
   refine wl_nil <| wq_then <| wc_ret ?_
   refine ret_1 (.inl rfl) (vb (F_impl_sameFrame x_f { Kind := x_f.Kind, Id := 0, Cn := x_f.Cn, Sn := x_f.Sn, Tick := x_f.Tick, Cookie := x_f.Cookie, Proof := [], Epoch := 0, Seq := 0, Body := [], Tag := [] : PFrame })) rfl rfl ?_
   refine ⟨m374.keep0, ?_⟩
   have hF375 : F_impl_FrameOk x_f = (F_impl_sameFrame x_f { Kind := x_f.Kind, Id := 0, Cn := x_f.Cn, Sn := x_f.Sn, Tick := x_f.Tick, Cookie := x_f.Cookie, Proof := [], Epoch := 0, Seq := 0, Body := [], Tag := [] : PFrame }) := by simp only [F_impl_FrameOk, h48, h129, h357, h362, h367, h370, cond_true, cond_false]
   rw [hF375]
   exact rfl
 have q384 := of_decide_eq_false h129
 refine cf h129 ?_
 refine sr ?_
 refine pu (vp g31 0) wN ?_
 refine ld (vi x_f.Kind) wN isAgg_3 b47 ?_
 refine pu (vb (decide (x_f.Kind = 3))) wN ?_
 refine ag (vb (decide (x_f.Kind = 3))) wN ?_
 refine wl_nil <| wq_then ?_
 rcases bf (decide (x_f.Kind = 3)) with h385 | h385
 ·have q967 := of_decide_eq_false h385
  refine cf h385 ?_
  refine sr ?_
  refine pu (vp g31 0) wN ?_
  refine ld (vi x_f.Kind) wN isAgg_3 b47 ?_
  refine cl wN (C_impl_Sealed w3 x_f.Kind) ?_
  rintro _ w4 ⟨k968, rfl⟩
  have m969 := m46.extk k968
  refine ag (vb (F_impl_Sealed x_f.Kind)) wN ?_
  refine wl_nil <| wq_then ?_
  rcases bf (F_impl_Sealed x_f.Kind) with h970 | h970
  ·refine cf h970 ?_
   refine wc_skip <| wq_blk_normal <| wq_then <| sr ?_
   refine mv (vb false) wN ?_
   refine mv (vb false) wN ?_
   refine sk (Eq.refl false) ?_
   refine sk (Eq.refl false) ?_
   refine sk (Eq.refl false) ?_
   refine pf (vb false) wN (Eq.refl false) ?_
   refine ag (vb false) wN ?_
   refine wl_nil <| wq_then <| wc_ret ?_
   refine ret_1 (.inl rfl) (vb false) rfl rfl ?_
   refine ⟨m969.keep0, ?_⟩
   have hF1373 : F_impl_FrameOk x_f = false := by simp only [F_impl_FrameOk, h48, h129, h385, h970, cond_true, cond_false]
   rw [hF1373]
   exact rfl
  refine ct h970 ?_
  refine wc_seq ?_
  have b995 := (b44.kp k968)
  refine wc_drawT ([(117, [], [], (fun _ v _ => v = (vp g31 3))), (118, [], [0], (fun _ v _ => v = (vs a6 x_f.Sn.length c7))), (119, [], [], (fun _ v _ => v = (vp g31 7))), (120, [], [2], (fun _ v _ => v = (vi x_f.Epoch))), (121, [], [], (fun _ v _ => v = (vp g31 8))), (122, [], [4], (fun _ v _ => v = (vi x_f.Seq))), (123, [], [], (fun _ v _ => v = (vp g31 9))), (124, [], [6], (fun _ v _ => v = (vs a21 x_f.Body.length c22))), (125, [], [], (fun _ v _ => v = (vp g31 10))), (126, [], [8], (fun _ v _ => v = (vs a26 x_f.Tag.length c27))), (127, [], [0, 1], (fun _ v _ => v = (vp g37 3))), (176, [], [0, 1, 10], (fun _ _ w => ∃ xg37_3 xg37_7 xg37_8 xg37_9 : Value, Blk w g37 87 [(vi x_f.Kind), (vi 0), (vs none 0 0), xg37_3, (vi 0), (vs none 0 0), (vs none 0 0), xg37_7, xg37_8, xg37_9, (vs none 0 0)] ∧ xg37_3 = (vs a6 x_f.Sn.length c7))), (128, [], [0, 1, 2, 3, 10, 11], (fun _ v _ => v = (vp g37 7))), (178, [], [0, 1, 2, 3, 10, 11, 12], (fun _ _ w => ∃ xg37_3 xg37_7 xg37_8 xg37_9 : Value, Blk w g37 87 [(vi x_f.Kind), (vi 0), (vs none 0 0), xg37_3, (vi 0), (vs none 0 0), (vs none 0 0), xg37_7, xg37_8, xg37_9, (vs none 0 0)] ∧ xg37_7 = (vi x_f.Epoch))), (129, [], [0, 1, 2, 3, 4, 5, 10, 11, 12, 13], (fun _ v _ => v = (vp g37 8))), (180, [], [0, 1, 2, 3, 4, 5, 10, 11, 12, 13, 14], (fun _ _ w => ∃ xg37_3 xg37_7 xg37_8 xg37_9 : Value, Blk w g37 87 [(vi x_f.Kind), (vi 0), (vs none 0 0), xg37_3, (vi 0), (vs none 0 0), (vs none 0 0), xg37_7, xg37_8, xg37_9, (vs none 0 0)] ∧ xg37_8 = (vi x_f.Seq))), (130, [], [0, 1, 2, 3, 4, 5, 6, 7, 10, 11, 12, 13, 14, 15], (fun _ v _ => v = (vp g37 9))), (182, [], [0, 1, 2, 3, 4, 5, 6, 7, 10, 11, 12, 13, 14, 15, 16], (fun _ _ w => ∃ xg37_3 xg37_7 xg37_8 xg37_9 : Value, Blk w g37 87 [(vi x_f.Kind), (vi 0), (vs none 0 0), xg37_3, (vi 0), (vs none 0 0), (vs none 0 0), xg37_7, xg37_8, xg37_9, (vs none 0 0)] ∧ xg37_9 = (vs a21 x_f.Body.length c22)))] : GV) (fun lf w' => Ch (fun k => k = g37) w4 w' ∧ (∃ xg37_3 xg37_7 xg37_8 xg37_9 : Value, Blk w' g37 87 [(vi x_f.Kind), (vi 0), (vs none 0 0), xg37_3, (vi 0), (vs none 0 0), (vs none 0 0), xg37_7, xg37_8, xg37_9, (vs none 0 0)] ∧ (lf 11 = false → xg37_3 = (vs none 0 0)) ∧ (lf 13 = false → xg37_7 = (vi 0)) ∧ (lf 15 = false → xg37_8 = (vi 0)) ∧ (lf 17 = false → xg37_9 = (vs none 0 0)))) [(11, fun w w' => Ch (fun k => k = g37) w w' ∧ ∀ xg37_3 xg37_7 xg37_8 xg37_9 : Value, Blk w g37 87 [(vi x_f.Kind), (vi 0), (vs none 0 0), xg37_3, (vi 0), (vs none 0 0), (vs none 0 0), xg37_7, xg37_8, xg37_9, (vs none 0 0)] → ∃ y3 : Value, Blk w' g37 87 [(vi x_f.Kind), (vi 0), (vs none 0 0), y3, (vi 0), (vs none 0 0), (vs none 0 0), xg37_7, xg37_8, xg37_9, (vs none 0 0)]), (13, fun w w' => Ch (fun k => k = g37) w w' ∧ ∀ xg37_3 xg37_7 xg37_8 xg37_9 : Value, Blk w g37 87 [(vi x_f.Kind), (vi 0), (vs none 0 0), xg37_3, (vi 0), (vs none 0 0), (vs none 0 0), xg37_7, xg37_8, xg37_9, (vs none 0 0)] → ∃ y7 : Value, Blk w' g37 87 [(vi x_f.Kind), (vi 0), (vs none 0 0), xg37_3, (vi 0), (vs none 0 0), (vs none 0 0), y7, xg37_8, xg37_9, (vs none 0 0)]), (15, fun w w' => Ch (fun k => k = g37) w w' ∧ ∀ xg37_3 xg37_7 xg37_8 xg37_9 : Value, Blk w g37 87 [(vi x_f.Kind), (vi 0), (vs none 0 0), xg37_3, (vi 0), (vs none 0 0), (vs none 0 0), xg37_7, xg37_8, xg37_9, (vs none 0 0)] → ∃ y8 : Value, Blk w' g37 87 [(vi x_f.Kind), (vi 0), (vs none 0 0), xg37_3, (vi 0), (vs none 0 0), (vs none 0 0), xg37_7, y8, xg37_9, (vs none 0 0)]), (17, fun w w' => Ch (fun k => k = g37) w w' ∧ ∀ xg37_3 xg37_7 xg37_8 xg37_9 : Value, Blk w g37 87 [(vi x_f.Kind), (vi 0), (vs none 0 0), xg37_3, (vi 0), (vs none 0 0), (vs none 0 0), xg37_7, xg37_8, xg37_9, (vs none 0 0)] → ∃ y9 : Value, Blk w' g37 87 [(vi x_f.Kind), (vi 0), (vs none 0 0), xg37_3, (vi 0), (vs none 0 0), (vs none 0 0), xg37_7, xg37_8, y9, (vs none 0 0)])] mixed rfl (by kernel_rfl) (by kernel_rfl) ?_ (fun _ _ h => ⟨h.to _, ⟨_, _, _, _, b995.kp h, fun _ => rfl, fun _ => rfl, fun _ => rfl, fun _ => rfl⟩⟩) (fun _ _ _ _ h mo k => by obtain ⟨hc, ⟨xg37_3, xg37_7, xg37_8, xg37_9, hbg37, heg37_3, heg37_7, heg37_8, heg37_9⟩⟩ := h; exact ⟨hc.comp k (fun _ _ q => q.elim), ⟨_, _, _, _, hbg37.kp k, fun q => heg37_3 (mo _ q), fun q => heg37_7 (mo _ q), fun q => heg37_8 (mo _ q), fun q => heg37_9 (mo _ q)⟩⟩) ⟨(fun _ _ w w' h mo hj t => by obtain ⟨hc, ⟨xg37_3, xg37_7, xg37_8, xg37_9, hbg37, heg37_3, heg37_7, heg37_8, heg37_9⟩⟩ := h; obtain ⟨z0, hz⟩ := t.2 _ _ _ _ hbg37; exact ⟨hc.comp t.1 (fun _ _ q => q), ⟨_, _, _, _, hz, (fun q => by rw [hj] at q; cases q), fun q => heg37_7 (mo _ q), fun q => heg37_8 (mo _ q), fun q => heg37_9 (mo _ q)⟩⟩), ⟨(fun _ _ w w' h mo hj t => by obtain ⟨hc, ⟨xg37_3, xg37_7, xg37_8, xg37_9, hbg37, heg37_3, heg37_7, heg37_8, heg37_9⟩⟩ := h; obtain ⟨z0, hz⟩ := t.2 _ _ _ _ hbg37; exact ⟨hc.comp t.1 (fun _ _ q => q), ⟨_, _, _, _, hz, fun q => heg37_3 (mo _ q), (fun q => by rw [hj] at q; cases q), fun q => heg37_8 (mo _ q), fun q => heg37_9 (mo _ q)⟩⟩), ⟨(fun _ _ w w' h mo hj t => by obtain ⟨hc, ⟨xg37_3, xg37_7, xg37_8, xg37_9, hbg37, heg37_3, heg37_7, heg37_8, heg37_9⟩⟩ := h; obtain ⟨z0, hz⟩ := t.2 _ _ _ _ hbg37; exact ⟨hc.comp t.1 (fun _ _ q => q), ⟨_, _, _, _, hz, fun q => heg37_3 (mo _ q), fun q => heg37_7 (mo _ q), (fun q => by rw [hj] at q; cases q), fun q => heg37_9 (mo _ q)⟩⟩), ⟨(fun _ _ w w' h mo hj t => by obtain ⟨hc, ⟨xg37_3, xg37_7, xg37_8, xg37_9, hbg37, heg37_3, heg37_7, heg37_8, heg37_9⟩⟩ := h; obtain ⟨z0, hz⟩ := t.2 _ _ _ _ hbg37; exact ⟨hc.comp t.1 (fun _ _ q => q), ⟨_, _, _, _, hz, fun q => heg37_3 (mo _ q), fun q => heg37_7 (mo _ q), fun q => heg37_8 (mo _ q), (fun q => by rw [hj] at q; cases q)⟩⟩), trivial⟩⟩⟩⟩ ?_ ?_ ?_
  ·exact ⟨(fun _ _ _ _ h _ => h), (fun _ _ _ _ _ h => h), ⟨(fun _ _ _ _ h _ => h), (fun _ _ _ _ _ h => h), ⟨(fun _ _ _ _ h _ => h), (fun _ _ _ _ _ h => h), ⟨(fun _ _ _ _ h _ => h), (fun _ _ _ _ _ h => h), ⟨(fun _ _ _ _ h _ => h), (fun _ _ _ _ _ h => h), ⟨(fun _ _ _ _ h _ => h), (fun _ _ _ _ _ h => h), ⟨(fun _ _ _ _ h _ => h), (fun _ _ _ _ _ h => h), ⟨(fun _ _ _ _ h _ => h), (fun _ _ _ _ _ h => h), ⟨(fun _ _ _ _ h _ => h), (fun _ _ _ _ _ h => h), ⟨(fun _ _ _ _ h _ => h), (fun _ _ _ _ _ h => h), ⟨(fun _ _ _ _ h _ => h), (fun _ _ _ _ _ h => h), ⟨(fun e v w w1 h hk => by obtain ⟨xg37_3, xg37_7, xg37_8, xg37_9, hb, he⟩ := h; exact ⟨_, _, _, _, hb.kp hk, he⟩), (fun _ _ _ _ _ h => h), ⟨(fun _ _ _ _ h _ => h), (fun _ _ _ _ _ h => h), ⟨(fun e v w w1 h hk => by obtain ⟨xg37_3, xg37_7, xg37_8, xg37_9, hb, he⟩ := h; exact ⟨_, _, _, _, hb.kp hk, he⟩), (fun _ _ _ _ _ h => h), ⟨(fun _ _ _ _ h _ => h), (fun _ _ _ _ _ h => h), ⟨(fun e v w w1 h hk => by obtain ⟨xg37_3, xg37_7, xg37_8, xg37_9, hb, he⟩ := h; exact ⟨_, _, _, _, hb.kp hk, he⟩), (fun _ _ _ _ _ h => h), ⟨(fun _ _ _ _ h _ => h), (fun _ _ _ _ _ h => h), ⟨(fun e v w w1 h hk => by obtain ⟨xg37_3, xg37_7, xg37_8, xg37_9, hb, he⟩ := h; exact ⟨_, _, _, _, hb.kp hk, he⟩), (fun _ _ _ _ _ h => h), trivial⟩⟩⟩⟩⟩⟩⟩⟩⟩⟩⟩⟩⟩⟩⟩⟩⟩⟩
  ·exact ⟨⟨.inr (fun _ _ _ _ h _ => h), ⟨.inr (fun _ _ _ _ h _ => h), ⟨.inr (fun _ _ _ _ h _ => h), ⟨.inr (fun _ _ _ _ h _ => h), ⟨.inr (fun _ _ _ _ h _ => h), ⟨.inr (fun _ _ _ _ h _ => h), ⟨.inr (fun _ _ _ _ h _ => h), ⟨.inr (fun _ _ _ _ h _ => h), ⟨.inr (fun _ _ _ _ h _ => h), ⟨.inr (fun _ _ _ _ h _ => h), ⟨.inr (fun _ _ _ _ h _ => h), ⟨.inl rfl, ⟨.inr (fun _ _ _ _ h _ => h), ⟨.inr (fun e v w w1 h ht => by obtain ⟨xg37_3, xg37_7, xg37_8, xg37_9, hb, he⟩ := h; obtain ⟨z0, hz⟩ := ht.2 _ _ _ _ hb; exact ⟨_, _, _, _, hz, he⟩), ⟨.inr (fun _ _ _ _ h _ => h), ⟨.inr (fun e v w w1 h ht => by obtain ⟨xg37_3, xg37_7, xg37_8, xg37_9, hb, he⟩ := h; obtain ⟨z0, hz⟩ := ht.2 _ _ _ _ hb; exact ⟨_, _, _, _, hz, he⟩), ⟨.inr (fun _ _ _ _ h _ => h), ⟨.inr (fun e v w w1 h ht => by obtain ⟨xg37_3, xg37_7, xg37_8, xg37_9, hb, he⟩ := h; obtain ⟨z0, hz⟩ := ht.2 _ _ _ _ hb; exact ⟨_, _, _, _, hz, he⟩), trivial⟩⟩⟩⟩⟩⟩⟩⟩⟩⟩⟩⟩⟩⟩⟩⟩⟩⟩, ⟨⟨.inr (fun _ _ _ _ h _ => h), ⟨.inr (fun _ _ _ _ h _ => h), ⟨.inr (fun _ _ _ _ h _ => h), ⟨.inr (fun _ _ _ _ h _ => h), ⟨.inr (fun _ _ _ _ h _ => h), ⟨.inr (fun _ _ _ _ h _ => h), ⟨.inr (fun _ _ _ _ h _ => h), ⟨.inr (fun _ _ _ _ h _ => h), ⟨.inr (fun _ _ _ _ h _ => h), ⟨.inr (fun _ _ _ _ h _ => h), ⟨.inr (fun _ _ _ _ h _ => h), ⟨.inr (fun e v w w1 h ht => by obtain ⟨xg37_3, xg37_7, xg37_8, xg37_9, hb, he⟩ := h; obtain ⟨z0, hz⟩ := ht.2 _ _ _ _ hb; exact ⟨_, _, _, _, hz, he⟩), ⟨.inr (fun _ _ _ _ h _ => h), ⟨.inl rfl, ⟨.inr (fun _ _ _ _ h _ => h), ⟨.inr (fun e v w w1 h ht => by obtain ⟨xg37_3, xg37_7, xg37_8, xg37_9, hb, he⟩ := h; obtain ⟨z0, hz⟩ := ht.2 _ _ _ _ hb; exact ⟨_, _, _, _, hz, he⟩), ⟨.inr (fun _ _ _ _ h _ => h), ⟨.inr (fun e v w w1 h ht => by obtain ⟨xg37_3, xg37_7, xg37_8, xg37_9, hb, he⟩ := h; obtain ⟨z0, hz⟩ := ht.2 _ _ _ _ hb; exact ⟨_, _, _, _, hz, he⟩), trivial⟩⟩⟩⟩⟩⟩⟩⟩⟩⟩⟩⟩⟩⟩⟩⟩⟩⟩, ⟨⟨.inr (fun _ _ _ _ h _ => h), ⟨.inr (fun _ _ _ _ h _ => h), ⟨.inr (fun _ _ _ _ h _ => h), ⟨.inr (fun _ _ _ _ h _ => h), ⟨.inr (fun _ _ _ _ h _ => h), ⟨.inr (fun _ _ _ _ h _ => h), ⟨.inr (fun _ _ _ _ h _ => h), ⟨.inr (fun _ _ _ _ h _ => h), ⟨.inr (fun _ _ _ _ h _ => h), ⟨.inr (fun _ _ _ _ h _ => h), ⟨.inr (fun _ _ _ _ h _ => h), ⟨.inr (fun e v w w1 h ht => by obtain ⟨xg37_3, xg37_7, xg37_8, xg37_9, hb, he⟩ := h; obtain ⟨z0, hz⟩ := ht.2 _ _ _ _ hb; exact ⟨_, _, _, _, hz, he⟩), ⟨.inr (fun _ _ _ _ h _ => h), ⟨.inr (fun e v w w1 h ht => by obtain ⟨xg37_3, xg37_7, xg37_8, xg37_9, hb, he⟩ := h; obtain ⟨z0, hz⟩ := ht.2 _ _ _ _ hb; exact ⟨_, _, _, _, hz, he⟩), ⟨.inr (fun _ _ _ _ h _ => h), ⟨.inl rfl, ⟨.inr (fun _ _ _ _ h _ => h), ⟨.inr (fun e v w w1 h ht => by obtain ⟨xg37_3, xg37_7, xg37_8, xg37_9, hb, he⟩ := h; obtain ⟨z0, hz⟩ := ht.2 _ _ _ _ hb; exact ⟨_, _, _, _, hz, he⟩), trivial⟩⟩⟩⟩⟩⟩⟩⟩⟩⟩⟩⟩⟩⟩⟩⟩⟩⟩, ⟨⟨.inr (fun _ _ _ _ h _ => h), ⟨.inr (fun _ _ _ _ h _ => h), ⟨.inr (fun _ _ _ _ h _ => h), ⟨.inr (fun _ _ _ _ h _ => h), ⟨.inr (fun _ _ _ _ h _ => h), ⟨.inr (fun _ _ _ _ h _ => h), ⟨.inr (fun _ _ _ _ h _ => h), ⟨.inr (fun _ _ _ _ h _ => h), ⟨.inr (fun _ _ _ _ h _ => h), ⟨.inr (fun _ _ _ _ h _ => h), ⟨.inr (fun _ _ _ _ h _ => h), ⟨.inr (fun e v w w1 h ht => by obtain ⟨xg37_3, xg37_7, xg37_8, xg37_9, hb, he⟩ := h; obtain ⟨z0, hz⟩ := ht.2 _ _ _ _ hb; exact ⟨_, _, _, _, hz, he⟩), ⟨.inr (fun _ _ _ _ h _ => h), ⟨.inr (fun e v w w1 h ht => by obtain ⟨xg37_3, xg37_7, xg37_8, xg37_9, hb, he⟩ := h; obtain ⟨z0, hz⟩ := ht.2 _ _ _ _ hb; exact ⟨_, _, _, _, hz, he⟩), ⟨.inr (fun _ _ _ _ h _ => h), ⟨.inr (fun e v w w1 h ht => by obtain ⟨xg37_3, xg37_7, xg37_8, xg37_9, hb, he⟩ := h; obtain ⟨z0, hz⟩ := ht.2 _ _ _ _ hb; exact ⟨_, _, _, _, hz, he⟩), ⟨.inr (fun _ _ _ _ h _ => h), ⟨.inl rfl, trivial⟩⟩⟩⟩⟩⟩⟩⟩⟩⟩⟩⟩⟩⟩⟩⟩⟩⟩, trivial⟩⟩⟩⟩
  ·refine ⟨?_, ⟨?_, ⟨?_, ⟨?_, ⟨?_, ⟨?_, ⟨?_, ⟨?_, ⟨?_, ⟨?_, ⟨?_, ⟨?_, ⟨?_, ⟨?_, ⟨?_, ⟨?_, ⟨?_, ⟨?_, trivial⟩⟩⟩⟩⟩⟩⟩⟩⟩⟩⟩⟩⟩⟩⟩⟩⟩⟩
   ·rintro lf w5 ⟨k996, ⟨xg37_3, xg37_7, xg37_8, xg37_9, b997, p998, p999, p1000, p1001⟩⟩ ⟨n1002, n1003, n1004, n1005, -⟩
    have m1006 := m969.ext k996 (fun k hk => by subst hk; exact Nat.le_trans k34.size p38)
    obtain rfl : xg37_3 = (vs none 0 0) := p998 (n1002.resolve_left (fun h => Bool.noConfusion (show true = false from h)))
    obtain rfl : xg37_7 = (vi 0) := p999 (n1003.resolve_left (fun h => Bool.noConfusion (show true = false from h)))
    obtain rfl : xg37_8 = (vi 0) := p1000 (n1004.resolve_left (fun h => Bool.noConfusion (show true = false from h)))
    obtain rfl : xg37_9 = (vs none 0 0) := p1001 (n1005.resolve_left (fun h => Bool.noConfusion (show true = false from h)))
    rintro _ _ _ _ _ _ _ _ _ _ _ _ _ _ _ _ _ _
    show WL _ _ _ _ _ _ _
    refine pu (vp g31 3) wN ?_
    exact wl_finT (Ch.refl _ _) rfl
   ·rintro lf w5 ⟨k1007, ⟨xg37_3, xg37_7, xg37_8, xg37_9, b1008, p1009, p1010, p1011, p1012⟩⟩ ⟨n1013, n1014, n1015, n1016, -⟩
    have m1017 := m969.ext k1007 (fun k hk => by subst hk; exact Nat.le_trans k34.size p38)
    obtain rfl : xg37_3 = (vs none 0 0) := p1009 (n1013.resolve_left (fun h => Bool.noConfusion (show true = false from h)))
    obtain rfl : xg37_7 = (vi 0) := p1010 (n1014.resolve_left (fun h => Bool.noConfusion (show true = false from h)))
    obtain rfl : xg37_8 = (vi 0) := p1011 (n1015.resolve_left (fun h => Bool.noConfusion (show true = false from h)))
    obtain rfl : xg37_9 = (vs none 0 0) := p1012 (n1016.resolve_left (fun h => Bool.noConfusion (show true = false from h)))
    rintro _ rfl _ _ _ _ _ _ _ _ _ _ _ _ _ _ _ _ _
    show WL _ _ _ _ _ _ _
    have b1018 := ((b47.kp k968).ch k1007 (Nat.ne_of_lt (Nat.lt_of_lt_of_le p33 (Nat.le_trans (Nat.le_refl _) p38))))
    refine ld (vs a6 x_f.Sn.length c7) wN isAgg_22 b1018 ?_
    exact wl_finT (Ch.refl _ _) rfl
   ·rintro lf w5 ⟨k1019, ⟨xg37_3, xg37_7, xg37_8, xg37_9, b1020, p1021, p1022, p1023, p1024⟩⟩ ⟨n1025, n1026, n1027, n1028, -⟩
    have m1029 := m969.ext k1019 (fun k hk => by subst hk; exact Nat.le_trans k34.size p38)
    obtain rfl : xg37_7 = (vi 0) := p1022 (n1026.resolve_left (fun h => Bool.noConfusion (show true = false from h)))
    obtain rfl : xg37_8 = (vi 0) := p1023 (n1027.resolve_left (fun h => Bool.noConfusion (show true = false from h)))
    obtain rfl : xg37_9 = (vs none 0 0) := p1024 (n1028.resolve_left (fun h => Bool.noConfusion (show true = false from h)))
    rintro _ _ _ _ _ _ _ _ _ _ _ _ _ _ _ _ _ _
    show WL _ _ _ _ _ _ _
    refine pu (vp g31 7) wN ?_
    exact wl_finT (Ch.refl _ _) rfl
   ·rintro lf w5 ⟨k1030, ⟨xg37_3, xg37_7, xg37_8, xg37_9, b1031, p1032, p1033, p1034, p1035⟩⟩ ⟨n1036, n1037, n1038, n1039, -⟩
    have m1040 := m969.ext k1030 (fun k hk => by subst hk; exact Nat.le_trans k34.size p38)
    obtain rfl : xg37_7 = (vi 0) := p1033 (n1037.resolve_left (fun h => Bool.noConfusion (show true = false from h)))
    obtain rfl : xg37_8 = (vi 0) := p1034 (n1038.resolve_left (fun h => Bool.noConfusion (show true = false from h)))
    obtain rfl : xg37_9 = (vs none 0 0) := p1035 (n1039.resolve_left (fun h => Bool.noConfusion (show true = false from h)))
    rintro _ _ _ rfl _ _ _ _ _ _ _ _ _ _ _ _ _ _ _
    show WL _ _ _ _ _ _ _
    have b1041 := ((b47.kp k968).ch k1030 (Nat.ne_of_lt (Nat.lt_of_lt_of_le p33 (Nat.le_trans (Nat.le_refl _) p38))))
    refine ld (vi x_f.Epoch) wN isAgg_3 b1041 ?_
    exact wl_finT (Ch.refl _ _) rfl
   ·rintro lf w5 ⟨k1042, ⟨xg37_3, xg37_7, xg37_8, xg37_9, b1043, p1044, p1045, p1046, p1047⟩⟩ ⟨n1048, n1049, n1050, n1051, -⟩
    have m1052 := m969.ext k1042 (fun k hk => by subst hk; exact Nat.le_trans k34.size p38)
    obtain rfl : xg37_8 = (vi 0) := p1046 (n1050.resolve_left (fun h => Bool.noConfusion (show true = false from h)))
    obtain rfl : xg37_9 = (vs none 0 0) := p1047 (n1051.resolve_left (fun h => Bool.noConfusion (show true = false from h)))
    rintro _ _ _ _ _ _ _ _ _ _ _ _ _ _ _ _ _ _
    show WL _ _ _ _ _ _ _
    refine pu (vp g31 8) wN ?_
    exact wl_finT (Ch.refl _ _) rfl
   ·rintro lf w5 ⟨k1053, ⟨xg37_3, xg37_7, xg37_8, xg37_9, b1054, p1055, p1056, p1057, p1058⟩⟩ ⟨n1059, n1060, n1061, n1062, -⟩
    have m1063 := m969.ext k1053 (fun k hk => by subst hk; exact Nat.le_trans k34.size p38)
    obtain rfl : xg37_8 = (vi 0) := p1057 (n1061.resolve_left (fun h => Bool.noConfusion (show true = false from h)))
    obtain rfl : xg37_9 = (vs none 0 0) := p1058 (n1062.resolve_left (fun h => Bool.noConfusion (show true = false from h)))
    rintro _ _ _ _ _ rfl _ _ _ _ _ _ _ _ _ _ _ _ _
    show WL _ _ _ _ _ _ _
    have b1064 := ((b47.kp k968).ch k1053 (Nat.ne_of_lt (Nat.lt_of_lt_of_le p33 (Nat.le_trans (Nat.le_refl _) p38))))
    refine ld (vi x_f.Seq) wN isAgg_3 b1064 ?_
    exact wl_finT (Ch.refl _ _) rfl
   ·rintro lf w5 ⟨k1065, ⟨xg37_3, xg37_7, xg37_8, xg37_9, b1066, p1067, p1068, p1069, p1070⟩⟩ ⟨n1071, n1072, n1073, n1074, -⟩
    have m1075 := m969.ext k1065 (fun k hk => by subst hk; exact Nat.le_trans k34.size p38)
    obtain rfl : xg37_9 = (vs none 0 0) := p1070 (n1074.resolve_left (fun h => Bool.noConfusion (show true = false from h)))
    rintro _ _ _ _ _ _ _ _ _ _ _ _ _ _ _ _ _ _
    show WL _ _ _ _ _ _ _
    refine pu (vp g31 9) wN ?_
    exact wl_finT (Ch.refl _ _) rfl
   ·rintro lf w5 ⟨k1076, ⟨xg37_3, xg37_7, xg37_8, xg37_9, b1077, p1078, p1079, p1080, p1081⟩⟩ ⟨n1082, n1083, n1084, n1085, -⟩
    have m1086 := m969.ext k1076 (fun k hk => by subst hk; exact Nat.le_trans k34.size p38)
    obtain rfl : xg37_9 = (vs none 0 0) := p1081 (n1085.resolve_left (fun h => Bool.noConfusion (show true = false from h)))
    rintro _ _ _ _ _ _ _ rfl _ _ _ _ _ _ _ _ _ _ _
    show WL _ _ _ _ _ _ _
    have b1087 := ((b47.kp k968).ch k1076 (Nat.ne_of_lt (Nat.lt_of_lt_of_le p33 (Nat.le_trans (Nat.le_refl _) p38))))
    refine ld (vs a21 x_f.Body.length c22) wN isAgg_22 b1087 ?_
    exact wl_finT (Ch.refl _ _) rfl
   ·rintro lf w5 ⟨k1088, ⟨xg37_3, xg37_7, xg37_8, xg37_9, b1089, p1090, p1091, p1092, p1093⟩⟩ ⟨n1094, n1095, n1096, n1097, -⟩
    have m1098 := m969.ext k1088 (fun k hk => by subst hk; exact Nat.le_trans k34.size p38)
    rintro _ _ _ _ _ _ _ _ _ _ _ _ _ _ _ _ _ _
    show WL _ _ _ _ _ _ _
    refine pu (vp g31 10) wN ?_
    exact wl_finT (Ch.refl _ _) rfl
   ·rintro lf w5 ⟨k1099, ⟨xg37_3, xg37_7, xg37_8, xg37_9, b1100, p1101, p1102, p1103, p1104⟩⟩ ⟨n1105, n1106, n1107, n1108, -⟩
    have m1109 := m969.ext k1099 (fun k hk => by subst hk; exact Nat.le_trans k34.size p38)
    rintro _ _ _ _ _ _ _ _ _ rfl _ _ _ _ _ _ _ _ _
    show WL _ _ _ _ _ _ _
    have b1110 := ((b47.kp k968).ch k1099 (Nat.ne_of_lt (Nat.lt_of_lt_of_le p33 (Nat.le_trans (Nat.le_refl _) p38))))
    refine ld (vs a26 x_f.Tag.length c27) wN isAgg_22 b1110 ?_
    exact wl_finT (Ch.refl _ _) rfl
   ·rintro lf w5 ⟨k1111, ⟨xg37_3, xg37_7, xg37_8, xg37_9, b1112, p1113, p1114, p1115, p1116⟩⟩ ⟨n1117, n1118, n1119, n1120, -⟩
    have m1121 := m969.ext k1111 (fun k hk => by subst hk; exact Nat.le_trans k34.size p38)
    obtain rfl : xg37_3 = (vs none 0 0) := p1113 (n1117.resolve_left (fun h => Bool.noConfusion (show true = false from h)))
    obtain rfl : xg37_7 = (vi 0) := p1114 (n1118.resolve_left (fun h => Bool.noConfusion (show true = false from h)))
    obtain rfl : xg37_8 = (vi 0) := p1115 (n1119.resolve_left (fun h => Bool.noConfusion (show true = false from h)))
    obtain rfl : xg37_9 = (vs none 0 0) := p1116 (n1120.resolve_left (fun h => Bool.noConfusion (show true = false from h)))
    rintro _ rfl _ rfl _ _ _ _ _ _ _ _ _ _ _ _ _ _ _ _
    show WL _ _ _ _ _ _ _
    refine pu (vp g37 3) wN ?_
    exact wl_finT (Ch.refl _ _) rfl
   ·rintro lf w5 ⟨k1123, ⟨xg37_3, xg37_7, xg37_8, xg37_9, b1124, p1125, p1126, p1127, p1128⟩⟩ ⟨n1129, n1130, n1131, n1132, -⟩
    have m1133 := m969.ext k1123 (fun k hk => by subst hk; exact Nat.le_trans k34.size p38)
    obtain rfl : xg37_7 = (vi 0) := p1126 (n1130.resolve_left (fun h => Bool.noConfusion (show true = false from h)))
    obtain rfl : xg37_8 = (vi 0) := p1127 (n1131.resolve_left (fun h => Bool.noConfusion (show true = false from h)))
    obtain rfl : xg37_9 = (vs none 0 0) := p1128 (n1132.resolve_left (fun h => Bool.noConfusion (show true = false from h)))
    rintro _ rfl _ rfl _ _ _ _ _ _ _ _ _ rfl _ _ _ _ _ _ _
    show WL _ _ _ _ _ _ _
    refine st (vs a6 x_f.Sn.length c7) [(vs a6 x_f.Sn.length c7)] [(vi x_f.Kind), (vi 0), (vs none 0 0), (vs a6 x_f.Sn.length c7), (vi 0), (vs none 0 0), (vs none 0 0), (vi 0), (vi 0), (vs none 0 0), (vs none 0 0)] wN sizeOf_22 b1124 ?_
    intro w6 k1135 b1136 z1137
    have m1138 := m1133.ext k1135 (fun k hk => by subst hk; exact Nat.le_trans k34.size p38)
    exact wl_finS (by decide) ⟨k1135, fun yg37_3 yg37_7 yg37_8 yg37_9 hb => by have hq := Blk.inj b1124 hb;  have hr7 : (vi 0) = yg37_7 := congrArg (fun l => List.getD l 7 U) hq; rw [← hr7]; have hr8 : (vi 0) = yg37_8 := congrArg (fun l => List.getD l 8 U) hq; rw [← hr8]; have hr9 : (vs none 0 0) = yg37_9 := congrArg (fun l => List.getD l 9 U) hq; rw [← hr9]; exact ⟨_, b1136⟩⟩ ⟨_, _, _, _, b1136, rfl⟩
   ·rintro lf w5 ⟨k1139, ⟨xg37_3, xg37_7, xg37_8, xg37_9, b1140, p1141, p1142, p1143, p1144⟩⟩ ⟨n1145, n1146, n1147, n1148, -⟩
    have m1149 := m969.ext k1139 (fun k hk => by subst hk; exact Nat.le_trans k34.size p38)
    obtain rfl : xg37_7 = (vi 0) := p1142 (n1146.resolve_left (fun h => Bool.noConfusion (show true = false from h)))
    obtain rfl : xg37_8 = (vi 0) := p1143 (n1147.resolve_left (fun h => Bool.noConfusion (show true = false from h)))
    obtain rfl : xg37_9 = (vs none 0 0) := p1144 (n1148.resolve_left (fun h => Bool.noConfusion (show true = false from h)))
    rintro _ rfl _ rfl _ rfl _ rfl _ _ _ _ _ _ _ rfl _ ⟨y1153, y1154, y1155, y1156, b1152, rfl⟩
    obtain rfl : xg37_3 = (vs a6 x_f.Sn.length c7) := congrArg (fun l => List.getD l 3 U) (Blk.inj b1140 b1152)
    rintro _ _ _ _ _ _
    show WL _ _ _ _ _ _ _
    refine pu (vp g37 7) wN ?_
    exact wl_finT (Ch.refl _ _) rfl
   ·rintro lf w5 ⟨k1157, ⟨xg37_3, xg37_7, xg37_8, xg37_9, b1158, p1159, p1160, p1161, p1162⟩⟩ ⟨n1163, n1164, n1165, n1166, -⟩
    have m1167 := m969.ext k1157 (fun k hk => by subst hk; exact Nat.le_trans k34.size p38)
    obtain rfl : xg37_8 = (vi 0) := p1161 (n1165.resolve_left (fun h => Bool.noConfusion (show true = false from h)))
    obtain rfl : xg37_9 = (vs none 0 0) := p1162 (n1166.resolve_left (fun h => Bool.noConfusion (show true = false from h)))
    rintro _ rfl _ rfl _ rfl _ rfl _ _ _ _ _ _ _ rfl _ ⟨y1171, y1172, y1173, y1174, b1170, rfl⟩
    obtain rfl : xg37_3 = (vs a6 x_f.Sn.length c7) := congrArg (fun l => List.getD l 3 U) (Blk.inj b1158 b1170)
    rintro _ rfl _ _ _ _ _
    show WL _ _ _ _ _ _ _
    refine st (vi x_f.Epoch) [(vi x_f.Epoch)] [(vi x_f.Kind), (vi 0), (vs none 0 0), (vs a6 x_f.Sn.length c7), (vi 0), (vs none 0 0), (vs none 0 0), (vi x_f.Epoch), (vi 0), (vs none 0 0), (vs none 0 0)] wN sizeOf_3 b1158 ?_
    intro w6 k1175 b1176 z1177
    have m1178 := m1167.ext k1175 (fun k hk => by subst hk; exact Nat.le_trans k34.size p38)
    exact wl_finS (by decide) ⟨k1175, fun yg37_3 yg37_7 yg37_8 yg37_9 hb => by have hq := Blk.inj b1158 hb;  have hr3 : (vs a6 x_f.Sn.length c7) = yg37_3 := congrArg (fun l => List.getD l 3 U) hq; rw [← hr3]; have hr8 : (vi 0) = yg37_8 := congrArg (fun l => List.getD l 8 U) hq; rw [← hr8]; have hr9 : (vs none 0 0) = yg37_9 := congrArg (fun l => List.getD l 9 U) hq; rw [← hr9]; exact ⟨_, b1176⟩⟩ ⟨_, _, _, _, b1176, rfl⟩
   ·rintro lf w5 ⟨k1179, ⟨xg37_3, xg37_7, xg37_8, xg37_9, b1180, p1181, p1182, p1183, p1184⟩⟩ ⟨n1185, n1186, n1187, n1188, -⟩
    have m1189 := m969.ext k1179 (fun k hk => by subst hk; exact Nat.le_trans k34.size p38)
    obtain rfl : xg37_8 = (vi 0) := p1183 (n1187.resolve_left (fun h => Bool.noConfusion (show true = false from h)))
    obtain rfl : xg37_9 = (vs none 0 0) := p1184 (n1188.resolve_left (fun h => Bool.noConfusion (show true = false from h)))
    rintro _ rfl _ rfl _ rfl _ rfl _ rfl _ rfl _ _ _ _ _ rfl _ ⟨y1194, y1195, y1196, y1197, b1193, rfl⟩
    obtain rfl : xg37_3 = (vs a6 x_f.Sn.length c7) := congrArg (fun l => List.getD l 3 U) (Blk.inj b1180 b1193)
    rintro _ rfl _ ⟨y1199, y1200, y1201, y1202, b1198, rfl⟩
    obtain rfl : xg37_7 = (vi x_f.Epoch) := congrArg (fun l => List.getD l 7 U) (Blk.inj b1180 b1198)
    rintro _ _ _ _
    show WL _ _ _ _ _ _ _
    refine pu (vp g37 8) wN ?_
    exact wl_finT (Ch.refl _ _) rfl
   ·rintro lf w5 ⟨k1203, ⟨xg37_3, xg37_7, xg37_8, xg37_9, b1204, p1205, p1206, p1207, p1208⟩⟩ ⟨n1209, n1210, n1211, n1212, -⟩
    have m1213 := m969.ext k1203 (fun k hk => by subst hk; exact Nat.le_trans k34.size p38)
    obtain rfl : xg37_9 = (vs none 0 0) := p1208 (n1212.resolve_left (fun h => Bool.noConfusion (show true = false from h)))
    rintro _ rfl _ rfl _ rfl _ rfl _ rfl _ rfl _ _ _ _ _ rfl _ ⟨y1218, y1219, y1220, y1221, b1217, rfl⟩
    obtain rfl : xg37_3 = (vs a6 x_f.Sn.length c7) := congrArg (fun l => List.getD l 3 U) (Blk.inj b1204 b1217)
    rintro _ rfl _ ⟨y1223, y1224, y1225, y1226, b1222, rfl⟩
    obtain rfl : xg37_7 = (vi x_f.Epoch) := congrArg (fun l => List.getD l 7 U) (Blk.inj b1204 b1222)
    rintro _ rfl _ _ _
    show WL _ _ _ _ _ _ _
    refine st (vi x_f.Seq) [(vi x_f.Seq)] [(vi x_f.Kind), (vi 0), (vs none 0 0), (vs a6 x_f.Sn.length c7), (vi 0), (vs none 0 0), (vs none 0 0), (vi x_f.Epoch), (vi x_f.Seq), (vs none 0 0), (vs none 0 0)] wN sizeOf_3 b1204 ?_
    intro w6 k1227 b1228 z1229
    have m1230 := m1213.ext k1227 (fun k hk => by subst hk; exact Nat.le_trans k34.size p38)
    exact wl_finS (by decide) ⟨k1227, fun yg37_3 yg37_7 yg37_8 yg37_9 hb => by have hq := Blk.inj b1204 hb;  have hr3 : (vs a6 x_f.Sn.length c7) = yg37_3 := congrArg (fun l => List.getD l 3 U) hq; rw [← hr3]; have hr7 : (vi x_f.Epoch) = yg37_7 := congrArg (fun l => List.getD l 7 U) hq; rw [← hr7]; have hr9 : (vs none 0 0) = yg37_9 := congrArg (fun l => List.getD l 9 U) hq; rw [← hr9]; exact ⟨_, b1228⟩⟩ ⟨_, _, _, _, b1228, rfl⟩
   ·rintro lf w5 ⟨k1231, ⟨xg37_3, xg37_7, xg37_8, xg37_9, b1232, p1233, p1234, p1235, p1236⟩⟩ ⟨n1237, n1238, n1239, n1240, -⟩
    have m1241 := m969.ext k1231 (fun k hk => by subst hk; exact Nat.le_trans k34.size p38)
    obtain rfl : xg37_9 = (vs none 0 0) := p1236 (n1240.resolve_left (fun h => Bool.noConfusion (show true = false from h)))
    rintro _ rfl _ rfl _ rfl _ rfl _ rfl _ rfl _ rfl _ rfl _ _ _ rfl _ ⟨y1247, y1248, y1249, y1250, b1246, rfl⟩
    obtain rfl : xg37_3 = (vs a6 x_f.Sn.length c7) := congrArg (fun l => List.getD l 3 U) (Blk.inj b1232 b1246)
    rintro _ rfl _ ⟨y1252, y1253, y1254, y1255, b1251, rfl⟩
    obtain rfl : xg37_7 = (vi x_f.Epoch) := congrArg (fun l => List.getD l 7 U) (Blk.inj b1232 b1251)
    rintro _ rfl _ ⟨y1257, y1258, y1259, y1260, b1256, rfl⟩
    obtain rfl : xg37_8 = (vi x_f.Seq) := congrArg (fun l => List.getD l 8 U) (Blk.inj b1232 b1256)
    rintro _ _
    show WL _ _ _ _ _ _ _
    refine pu (vp g37 9) wN ?_
    exact wl_finT (Ch.refl _ _) rfl
   ·rintro lf w5 ⟨k1261, ⟨xg37_3, xg37_7, xg37_8, xg37_9, b1262, p1263, p1264, p1265, p1266⟩⟩ ⟨n1267, n1268, n1269, n1270, -⟩
    have m1271 := m969.ext k1261 (fun k hk => by subst hk; exact Nat.le_trans k34.size p38)
    rintro _ rfl _ rfl _ rfl _ rfl _ rfl _ rfl _ rfl _ rfl _ _ _ rfl _ ⟨y1277, y1278, y1279, y1280, b1276, rfl⟩
    obtain rfl : xg37_3 = (vs a6 x_f.Sn.length c7) := congrArg (fun l => List.getD l 3 U) (Blk.inj b1262 b1276)
    rintro _ rfl _ ⟨y1282, y1283, y1284, y1285, b1281, rfl⟩
    obtain rfl : xg37_7 = (vi x_f.Epoch) := congrArg (fun l => List.getD l 7 U) (Blk.inj b1262 b1281)
    rintro _ rfl _ ⟨y1287, y1288, y1289, y1290, b1286, rfl⟩
    obtain rfl : xg37_8 = (vi x_f.Seq) := congrArg (fun l => List.getD l 8 U) (Blk.inj b1262 b1286)
    rintro _ rfl _
    show WL _ _ _ _ _ _ _
    refine st (vs a21 x_f.Body.length c22) [(vs a21 x_f.Body.length c22)] [(vi x_f.Kind), (vi 0), (vs none 0 0), (vs a6 x_f.Sn.length c7), (vi 0), (vs none 0 0), (vs none 0 0), (vi x_f.Epoch), (vi x_f.Seq), (vs a21 x_f.Body.length c22), (vs none 0 0)] wN sizeOf_22 b1262 ?_
    intro w6 k1291 b1292 z1293
    have m1294 := m1271.ext k1291 (fun k hk => by subst hk; exact Nat.le_trans k34.size p38)
    exact wl_finS (by decide) ⟨k1291, fun yg37_3 yg37_7 yg37_8 yg37_9 hb => by have hq := Blk.inj b1262 hb;  have hr3 : (vs a6 x_f.Sn.length c7) = yg37_3 := congrArg (fun l => List.getD l 3 U) hq; rw [← hr3]; have hr7 : (vi x_f.Epoch) = yg37_7 := congrArg (fun l => List.getD l 7 U) hq; rw [← hr7]; have hr8 : (vi x_f.Seq) = yg37_8 := congrArg (fun l => List.getD l 8 U) hq; rw [← hr8]; exact ⟨_, b1292⟩⟩ ⟨_, _, _, _, b1292, rfl⟩
  ·rintro lf w5 ⟨k1295, ⟨xg37_3, xg37_7, xg37_8, xg37_9, b1296, p1297, p1298, p1299, p1300⟩⟩
   have m1305 := m969.ext k1295 (fun k hk => by subst hk; exact Nat.le_trans k34.size p38)
   rintro _ rfl _ rfl _ rfl _ rfl _ rfl _ rfl _ rfl _ rfl _ rfl _ rfl _ rfl _ ⟨y1312, y1313, y1314, y1315, b1311, rfl⟩
   obtain rfl : xg37_3 = (vs a6 x_f.Sn.length c7) := congrArg (fun l => List.getD l 3 U) (Blk.inj b1296 b1311)
   rintro _ rfl _ ⟨y1317, y1318, y1319, y1320, b1316, rfl⟩
   obtain rfl : xg37_7 = (vi x_f.Epoch) := congrArg (fun l => List.getD l 7 U) (Blk.inj b1296 b1316)
   rintro _ rfl _ ⟨y1322, y1323, y1324, y1325, b1321, rfl⟩
   obtain rfl : xg37_8 = (vi x_f.Seq) := congrArg (fun l => List.getD l 8 U) (Blk.inj b1296 b1321)
   rintro _ rfl _ ⟨y1327, y1328, y1329, y1330, b1326, rfl⟩
   obtain rfl : xg37_9 = (vs a21 x_f.Body.length c22) := congrArg (fun l => List.getD l 9 U) (Blk.inj b1296 b1326)
   show WL _ _ _ _ _ _ _
   refine pu (vp g37 10) wN ?_
   refine st (vs a26 x_f.Tag.length c27) [(vs a26 x_f.Tag.length c27)] [(vi x_f.Kind), (vi 0), (vs none 0 0), (vs a6 x_f.Sn.length c7), (vi 0), (vs none 0 0), (vs none 0 0), (vi x_f.Epoch), (vi x_f.Seq), (vs a21 x_f.Body.length c22), (vs a26 x_f.Tag.length c27)] wN sizeOf_22 b1296 ?_
   intro w6 k1331 b1332 z1333
   have m1334 := m1305.ext k1331 (fun k hk => by subst hk; exact Nat.le_trans k34.size p38)
   refine wl_nil <| wq_then <| wc_region ?_
   refine pu (vp g31 3) wN ?_
   have b1335 := (((b47.kp k968).ch k1295 (Nat.ne_of_lt (Nat.lt_of_lt_of_le p33 (Nat.le_trans (Nat.le_refl _) p38)))).ch k1331 (Nat.ne_of_lt (Nat.lt_of_lt_of_le p33 (Nat.le_trans (Nat.le_refl _) p38))))
   refine ld (vs a6 x_f.Sn.length c7) wN isAgg_22 b1335 ?_
   refine cl wN (C_impl_isNonce w6 _ x_f.Sn (mR_22 (r8.from0 m1334) s9)) ?_
   rintro _ w7 ⟨k1336, rfl⟩
   have m1337 := m1334.extk k1336
   refine mv (vb (F_impl_isNonce x_f.Sn)) wN ?_
   rcases bf (F_impl_isNonce x_f.Sn) with h1338 | h1338
   ·refine sk h1338 ?_
    refine sk h1338 ?_
    refine sk h1338 ?_
    refine pf (vb false) wN h1338 ?_
    refine mv (vb false) wN ?_
    refine sk (Eq.refl false) ?_
    refine sk (Eq.refl false) ?_
    refine sk (Eq.refl false) ?_
    refine pf (vb false) wN (Eq.refl false) ?_
    refine mv (vb false) wN ?_
    refine sk (Eq.refl false) ?_
    refine sk (Eq.refl false) ?_
    refine sk (Eq.refl false) ?_
    refine sk (Eq.refl false) ?_
    refine pf (vb false) wN (Eq.refl false) ?_
    refine mv (vb false) wN ?_
    refine sk (Eq.refl false) ?_
    refine sk (Eq.refl false) ?_
    refine sk (Eq.refl false) ?_
    refine sk (Eq.refl false) ?_
    refine sk (Eq.refl false) ?_
    refine sk (Eq.refl false) ?_
    refine pf (vb false) wN (Eq.refl false) ?_
    refine ag (vb false) wN ?_
    refine wl_nil <| wq_blk_normal <| wq_then <| sr ?_
    refine mv (vb false) wN ?_
    refine mv (vb false) wN ?_
    refine sk (Eq.refl false) ?_
    refine sk (Eq.refl false) ?_
    refine sk (Eq.refl false) ?_
    refine pf (vb false) wN (Eq.refl false) ?_
    refine ag (vb false) wN ?_
    refine wl_nil <| wq_then <| wc_ret ?_
    refine ret_1 (.inl rfl) (vb false) rfl rfl ?_
    refine ⟨m1337.keep0, ?_⟩
    have hF1371 : F_impl_FrameOk x_f = false := by simp only [F_impl_FrameOk, h48, h129, h385, h970, h1338, cond_true, cond_false]
    rw [hF1371]
    exact rfl
   refine pu (vp g31 7) (wS h1338) ?_
   have b1340 := (b1335.kp k1336)
   refine ld (vi x_f.Epoch) (wS h1338) isAgg_3 b1340 ?_
   refine cl (wS h1338) (C_impl_within w7 x_f.Epoch 0 4294967295) ?_
   rintro _ w8 ⟨k1341, rfl⟩
   have m1342 := m1337.extk k1341
   refine pk (vb (F_impl_within x_f.Epoch 0 4294967295)) wN h1338 ?_
   refine mv (vb (F_impl_within x_f.Epoch 0 4294967295)) wN ?_
   rcases bf (F_impl_within x_f.Epoch 0 4294967295) with h1343 | h1343
   ·have q1368 := impl_within_f h1343
    refine sk h1343 ?_
    refine sk h1343 ?_
    refine sk h1343 ?_
    refine pf (vb false) wN h1343 ?_
    refine mv (vb false) wN ?_
    refine sk (Eq.refl false) ?_
    refine sk (Eq.refl false) ?_
    refine sk (Eq.refl false) ?_
    refine sk (Eq.refl false) ?_
    refine pf (vb false) wN (Eq.refl false) ?_
    refine mv (vb false) wN ?_
    refine sk (Eq.refl false) ?_
    refine sk (Eq.refl false) ?_
    refine sk (Eq.refl false) ?_
    refine sk (Eq.refl false) ?_
    refine sk (Eq.refl false) ?_
    refine sk (Eq.refl false) ?_
    refine pf (vb false) wN (Eq.refl false) ?_
    refine ag (vb false) wN ?_
    refine wl_nil <| wq_blk_normal <| wq_then <| sr ?_
    refine mv (vb false) wN ?_
    refine mv (vb false) wN ?_
    refine sk (Eq.refl false) ?_
    refine sk (Eq.refl false) ?_
    refine sk (Eq.refl false) ?_
    refine pf (vb false) wN (Eq.refl false) ?_
    refine ag (vb false) wN ?_
    refine wl_nil <| wq_then <| wc_ret ?_
    refine ret_1 (.inl rfl) (vb false) rfl rfl ?_
    refine ⟨m1342.keep0, ?_⟩
    have hF1369 : F_impl_FrameOk x_f = false := by simp only [F_impl_FrameOk, h48, h129, h385, h970, h1338, h1343, cond_true, cond_false]
    rw [hF1369]
    exact rfl
   have q1344 := impl_within_t h1343
   refine pu (vp g31 8) (wS h1343) ?_
   have b1345 := (b1340.kp k1341)
   refine ld (vi x_f.Seq) (wS h1343) isAgg_3 b1345 ?_
   refine cl (wS h1343) (C_impl_within w8 x_f.Seq 0 281474976710655) ?_
   rintro _ w9 ⟨k1346, rfl⟩
   have m1347 := m1342.extk k1346
   refine pk (vb (F_impl_within x_f.Seq 0 281474976710655)) wN h1343 ?_
   refine mv (vb (F_impl_within x_f.Seq 0 281474976710655)) wN ?_
   rcases bf (F_impl_within x_f.Seq 0 281474976710655) with h1348 | h1348
   ·have q1366 := impl_within_f h1348
    refine sk h1348 ?_
    refine sk h1348 ?_
    refine sk h1348 ?_
    refine sk h1348 ?_
    refine pf (vb false) wN h1348 ?_
    refine mv (vb false) wN ?_
    refine sk (Eq.refl false) ?_
    refine sk (Eq.refl false) ?_
    refine sk (Eq.refl false) ?_
    refine sk (Eq.refl false) ?_
    refine sk (Eq.refl false) ?_
    refine sk (Eq.refl false) ?_
    refine pf (vb false) wN (Eq.refl false) ?_
    refine ag (vb false) wN ?_
    refine wl_nil <| wq_blk_normal <| wq_then <| sr ?_
    refine mv (vb false) wN ?_
    refine mv (vb false) wN ?_
    refine sk (Eq.refl false) ?_
    refine sk (Eq.refl false) ?_
    refine sk (Eq.refl false) ?_
    refine pf (vb false) wN (Eq.refl false) ?_
    refine ag (vb false) wN ?_
    refine wl_nil <| wq_then <| wc_ret ?_
    refine ret_1 (.inl rfl) (vb false) rfl rfl ?_
    refine ⟨m1347.keep0, ?_⟩
    have hF1367 : F_impl_FrameOk x_f = false := by simp only [F_impl_FrameOk, h48, h129, h385, h970, h1338, h1343, h1348, cond_true, cond_false]
    rw [hF1367]
    exact rfl
   have q1349 := impl_within_t h1348
   refine pu (vp g31 10) (wS h1348) ?_
   have b1350 := (b1345.kp k1346)
   refine ld (vs a26 x_f.Tag.length c27) (wS h1348) isAgg_22 b1350 ?_
   refine ln (wS h1348) slTy_22 (r28.from0 m1347) ?_
   refine pu (vb (decide ((x_f.Tag.length : Int) = 16))) (wS h1348) ?_
   refine pk (vb (decide ((x_f.Tag.length : Int) = 16))) wN h1348 ?_
   refine mv (vb (decide ((x_f.Tag.length : Int) = 16))) wN ?_
   rcases bf (decide ((x_f.Tag.length : Int) = 16)) with h1351 | h1351
   ·have q1364 := of_decide_eq_false h1351
    refine sk h1351 ?_
    refine sk h1351 ?_
    refine sk h1351 ?_
    refine sk h1351 ?_
    refine sk h1351 ?_
    refine sk h1351 ?_
    refine pf (vb false) wN h1351 ?_
    refine ag (vb false) wN ?_
    refine wl_nil <| wq_blk_normal <| wq_then <| sr ?_
    refine mv (vb false) wN ?_
    refine mv (vb false) wN ?_
    refine sk (Eq.refl false) ?_
    refine sk (Eq.refl false) ?_
    refine sk (Eq.refl false) ?_
    refine pf (vb false) wN (Eq.refl false) ?_
    refine ag (vb false) wN ?_
    refine wl_nil <| wq_then <| wc_ret ?_
    refine ret_1 (.inl rfl) (vb false) rfl rfl ?_
    refine ⟨m1347.keep0, ?_⟩
    have hF1365 : F_impl_FrameOk x_f = false := by simp only [F_impl_FrameOk, h48, h129, h385, h970, h1338, h1343, h1348, h1351, cond_true, cond_false]
    rw [hF1365]
    exact rfl
   have q1352 := of_decide_eq_true h1351
   refine pu (vp g31 0) (wS h1351) ?_
   refine ld (vi x_f.Kind) (wS h1351) isAgg_3 b1350 ?_
   refine pu (vp g31 9) (wS h1351) ?_
   refine ld (vs a21 x_f.Body.length c22) (wS h1351) isAgg_22 b1350 ?_
   refine ln (wS h1351) slTy_22 (r23.from0 m1347) ?_
   refine cl (wS h1351) (C_impl_bodyOk w9 x_f.Kind (x_f.Body.length : Int)) ?_
   rintro _ w10 ⟨k1353, rfl⟩
   have m1354 := m1347.extk k1353
   refine pk (vb (F_impl_bodyOk x_f.Kind (x_f.Body.length : Int))) wN h1351 ?_
   refine ag (vb (F_impl_bodyOk x_f.Kind (x_f.Body.length : Int))) wN ?_
   refine wl_nil <| wq_blk_normal <| wq_then <| sr ?_
   refine mv (vb (F_impl_bodyOk x_f.Kind (x_f.Body.length : Int))) wN ?_
   refine mv (vb (F_impl_bodyOk x_f.Kind (x_f.Body.length : Int))) wN ?_
   rcases bf (F_impl_bodyOk x_f.Kind (x_f.Body.length : Int)) with h1355 | h1355
   ·refine sk h1355 ?_
    refine sk h1355 ?_
    refine sk h1355 ?_
    refine pf (vb false) wN h1355 ?_
    refine ag (vb false) wN ?_
    refine wl_nil <| wq_then <| wc_ret ?_
    refine ret_1 (.inl rfl) (vb false) rfl rfl ?_
    refine ⟨m1354.keep0, ?_⟩
    have hF1363 : F_impl_FrameOk x_f = false := by simp only [F_impl_FrameOk, h48, h129, h385, h970, h1338, h1343, h1348, h1351, h1355, cond_true, cond_false]
    rw [hF1363]
    exact rfl
   have b1357 := (b1350.kp k1353)
   refine lN (L_87 x_f a1 c2 a6 c7 a11 c12 a16 c17 a21 c22 a26 c27) (wS h1355) isAgg_87 sizeOf_87 b1357 ?_
   have b1358 := ((((b1332.kp k1336).kp k1341).kp k1346).kp k1353)
   refine lN [(vi x_f.Kind), (vi 0), (vs none 0 0), (vs a6 x_f.Sn.length c7), (vi 0), (vs none 0 0), (vs none 0 0), (vi x_f.Epoch), (vi x_f.Seq), (vs a21 x_f.Body.length c22), (vs a26 x_f.Tag.length c27)] (wS h1355) isAgg_87 sizeOf_87 b1358 ?_
   refine cl (wS h1355) (C_impl_sameFrame w10 _ x_f (mR_87 (r3.from0 m1354) s4 (r8.from0 m1354) s9 (r13.from0 m1354) s14 (r18.from0 m1354) s19 (r23.from0 m1354) s24 (r28.from0 m1354) s29) (va [(vi x_f.Kind), (vi 0), (vs none 0 0), (vs a6 x_f.Sn.length c7), (vi 0), (vs none 0 0), (vs none 0 0), (vi x_f.Epoch), (vi x_f.Seq), (vs a21 x_f.Body.length c22), (vs a26 x_f.Tag.length c27)]) { Kind := x_f.Kind, Id := 0, Cn := [], Sn := x_f.Sn, Tick := 0, Cookie := [], Proof := [], Epoch := x_f.Epoch, Seq := x_f.Seq, Body := x_f.Body, Tag := x_f.Tag : PFrame } (show R_87 w10 (va [(vi x_f.Kind), (vi 0), (vs none 0 0), (vs a6 x_f.Sn.length c7), (vi 0), (vs none 0 0), (vs none 0 0), (vi x_f.Epoch), (vi x_f.Seq), (vs a21 x_f.Body.length c22), (vs a26 x_f.Tag.length c27)]) { Kind := x_f.Kind, Id := 0, Cn := [], Sn := x_f.Sn, Tick := 0, Cookie := [], Proof := [], Epoch := x_f.Epoch, Seq := x_f.Seq, Body := x_f.Body, Tag := x_f.Tag : PFrame } from ⟨_, _, _, _, _, _, _, _, _, _, _, _, rfl, (Rd.nil _ _), (by simp), (r8.from0 m1354), s9, (Rd.nil _ _), (by simp), (Rd.nil _ _), (by simp), (r23.from0 m1354), s24, (r28.from0 m1354), s29⟩)) ?_
   rintro _ w11 ⟨k1359, rfl⟩
   have m1360 := m1354.extk k1359
   refine pk (vb (F_impl_sameFrame x_f { Kind := x_f.Kind, Id := 0, Cn := [], Sn := x_f.Sn, Tick := 0, Cookie := [], Proof := [], Epoch := x_f.Epoch, Seq := x_f.Seq, Body := x_f.Body, Tag := x_f.Tag : PFrame })) wN h1355 ?_
   refine ag (vb (F_impl_sameFrame x_f { Kind := x_f.Kind, Id := 0, Cn := [], Sn := x_f.Sn, Tick := 0, Cookie := [], Proof := [], Epoch := x_f.Epoch, Seq := x_f.Seq, Body := x_f.Body, Tag := x_f.Tag : PFrame })) wN ?_
   refine wl_nil <| wq_then <| wc_ret ?_
   refine ret_1 (.inl rfl) (vb (F_impl_sameFrame x_f { Kind := x_f.Kind, Id := 0, Cn := [], Sn := x_f.Sn, Tick := 0, Cookie := [], Proof := [], Epoch := x_f.Epoch, Seq := x_f.Seq, Body := x_f.Body, Tag := x_f.Tag : PFrame })) rfl rfl ?_
   refine ⟨m1360.keep0, ?_⟩
   have hF1361 : F_impl_FrameOk x_f = (F_impl_sameFrame x_f { Kind := x_f.Kind, Id := 0, Cn := [], Sn := x_f.Sn, Tick := 0, Cookie := [], Proof := [], Epoch := x_f.Epoch, Seq := x_f.Seq, Body := x_f.Body, Tag := x_f.Tag : PFrame }) := by simp only [F_impl_FrameOk, h48, h129, h385, h970, h1338, h1343, h1348, h1351, h1355, cond_true, cond_false]
   rw [hF1361]
   exact rfl
 have q386 := of_decide_eq_true h385
 refine ct h385 ?_
 refine wc_seq ?_
 refine wc_drawT ([(65, [], [], (fun _ v _ => v = (vp g31 1))), (66, [], [0], (fun _ v _ => v = (vi x_f.Id))), (67, [], [], (fun _ v _ => v = (vp g31 2))), (68, [], [2], (fun _ v _ => v = (vs a1 x_f.Cn.length c2))), (69, [], [], (fun _ v _ => v = (vp g31 3))), (70, [], [4], (fun _ v _ => v = (vs a6 x_f.Sn.length c7))), (71, [], [], (fun _ v _ => v = (vp g31 4))), (72, [], [6], (fun _ v _ => v = (vi x_f.Tick))), (73, [], [], (fun _ v _ => v = (vp g31 5))), (74, [], [8], (fun _ v _ => v = (vs a11 x_f.Cookie.length c12))), (75, [], [], (fun _ v _ => v = (vp g31 6))), (76, [], [10], (fun _ v _ => v = (vs a16 x_f.Proof.length c17))), (77, [], [0, 1], (fun _ v _ => v = (vp g37 1))), (178, [], [0, 1, 12], (fun _ _ w => ∃ xg37_1 xg37_2 xg37_3 xg37_4 xg37_5 : Value, Blk w g37 87 [(vi x_f.Kind), xg37_1, xg37_2, xg37_3, xg37_4, xg37_5, (vs none 0 0), (vi 0), (vi 0), (vs none 0 0), (vs none 0 0)] ∧ xg37_1 = (vi x_f.Id))), (78, [], [0, 1, 2, 3, 12, 13], (fun _ v _ => v = (vp g37 2))), (180, [], [0, 1, 2, 3, 12, 13, 14], (fun _ _ w => ∃ xg37_1 xg37_2 xg37_3 xg37_4 xg37_5 : Value, Blk w g37 87 [(vi x_f.Kind), xg37_1, xg37_2, xg37_3, xg37_4, xg37_5, (vs none 0 0), (vi 0), (vi 0), (vs none 0 0), (vs none 0 0)] ∧ xg37_2 = (vs a1 x_f.Cn.length c2))), (79, [], [0, 1, 2, 3, 4, 5, 12, 13, 14, 15], (fun _ v _ => v = (vp g37 3))), (182, [], [0, 1, 2, 3, 4, 5, 12, 13, 14, 15, 16], (fun _ _ w => ∃ xg37_1 xg37_2 xg37_3 xg37_4 xg37_5 : Value, Blk w g37 87 [(vi x_f.Kind), xg37_1, xg37_2, xg37_3, xg37_4, xg37_5, (vs none 0 0), (vi 0), (vi 0), (vs none 0 0), (vs none 0 0)] ∧ xg37_3 = (vs a6 x_f.Sn.length c7))), (80, [], [0, 1, 2, 3, 4, 5, 6, 7, 12, 13, 14, 15, 16, 17], (fun _ v _ => v = (vp g37 4))), (184, [], [0, 1, 2, 3, 4, 5, 6, 7, 12, 13, 14, 15, 16, 17, 18], (fun _ _ w => ∃ xg37_1 xg37_2 xg37_3 xg37_4 xg37_5 : Value, Blk w g37 87 [(vi x_f.Kind), xg37_1, xg37_2, xg37_3, xg37_4, xg37_5, (vs none 0 0), (vi 0), (vi 0), (vs none 0 0), (vs none 0 0)] ∧ xg37_4 = (vi x_f.Tick))), (81, [], [0, 1, 2, 3, 4, 5, 6, 7, 8, 9, 12, 13, 14, 15, 16, 17, 18, 19], (fun _ v _ => v = (vp g37 5))), (186, [], [0, 1, 2, 3, 4, 5, 6, 7, 8, 9, 12, 13, 14, 15, 16, 17, 18, 19, 20], (fun _ _ w => ∃ xg37_1 xg37_2 xg37_3 xg37_4 xg37_5 : Value, Blk w g37 87 [(vi x_f.Kind), xg37_1, xg37_2, xg37_3, xg37_4, xg37_5, (vs none 0 0), (vi 0), (vi 0), (vs none 0 0), (vs none 0 0)] ∧ xg37_5 = (vs a11 x_f.Cookie.length c12)))] : GV) (fun lf w' => Ch (fun k => k = g37) w3 w' ∧ (∃ xg37_1 xg37_2 xg37_3 xg37_4 xg37_5 : Value, Blk w' g37 87 [(vi x_f.Kind), xg37_1, xg37_2, xg37_3, xg37_4, xg37_5, (vs none 0 0), (vi 0), (vi 0), (vs none 0 0), (vs none 0 0)] ∧ (lf 13 = false → xg37_1 = (vi 0)) ∧ (lf 15 = false → xg37_2 = (vs none 0 0)) ∧ (lf 17 = false → xg37_3 = (vs none 0 0)) ∧ (lf 19 = false → xg37_4 = (vi 0)) ∧ (lf 21 = false → xg37_5 = (vs none 0 0)))) [(13, fun w w' => Ch (fun k => k = g37) w w' ∧ ∀ xg37_1 xg37_2 xg37_3 xg37_4 xg37_5 : Value, Blk w g37 87 [(vi x_f.Kind), xg37_1, xg37_2, xg37_3, xg37_4, xg37_5, (vs none 0 0), (vi 0), (vi 0), (vs none 0 0), (vs none 0 0)] → ∃ y1 : Value, Blk w' g37 87 [(vi x_f.Kind), y1, xg37_2, xg37_3, xg37_4, xg37_5, (vs none 0 0), (vi 0), (vi 0), (vs none 0 0), (vs none 0 0)]), (15, fun w w' => Ch (fun k => k = g37) w w' ∧ ∀ xg37_1 xg37_2 xg37_3 xg37_4 xg37_5 : Value, Blk w g37 87 [(vi x_f.Kind), xg37_1, xg37_2, xg37_3, xg37_4, xg37_5, (vs none 0 0), (vi 0), (vi 0), (vs none 0 0), (vs none 0 0)] → ∃ y2 : Value, Blk w' g37 87 [(vi x_f.Kind), xg37_1, y2, xg37_3, xg37_4, xg37_5, (vs none 0 0), (vi 0), (vi 0), (vs none 0 0), (vs none 0 0)]), (17, fun w w' => Ch (fun k => k = g37) w w' ∧ ∀ xg37_1 xg37_2 xg37_3 xg37_4 xg37_5 : Value, Blk w g37 87 [(vi x_f.Kind), xg37_1, xg37_2, xg37_3, xg37_4, xg37_5, (vs none 0 0), (vi 0), (vi 0), (vs none 0 0), (vs none 0 0)] → ∃ y3 : Value, Blk w' g37 87 [(vi x_f.Kind), xg37_1, xg37_2, y3, xg37_4, xg37_5, (vs none 0 0), (vi 0), (vi 0), (vs none 0 0), (vs none 0 0)]), (19, fun w w' => Ch (fun k => k = g37) w w' ∧ ∀ xg37_1 xg37_2 xg37_3 xg37_4 xg37_5 : Value, Blk w g37 87 [(vi x_f.Kind), xg37_1, xg37_2, xg37_3, xg37_4, xg37_5, (vs none 0 0), (vi 0), (vi 0), (vs none 0 0), (vs none 0 0)] → ∃ y4 : Value, Blk w' g37 87 [(vi x_f.Kind), xg37_1, xg37_2, xg37_3, y4, xg37_5, (vs none 0 0), (vi 0), (vi 0), (vs none 0 0), (vs none 0 0)]), (21, fun w w' => Ch (fun k => k = g37) w w' ∧ ∀ xg37_1 xg37_2 xg37_3 xg37_4 xg37_5 : Value, Blk w g37 87 [(vi x_f.Kind), xg37_1, xg37_2, xg37_3, xg37_4, xg37_5, (vs none 0 0), (vi 0), (vi 0), (vs none 0 0), (vs none 0 0)] → ∃ y5 : Value, Blk w' g37 87 [(vi x_f.Kind), xg37_1, xg37_2, xg37_3, xg37_4, y5, (vs none 0 0), (vi 0), (vi 0), (vs none 0 0), (vs none 0 0)])] mixed rfl (by kernel_rfl) (by kernel_rfl) ?_ (fun _ _ h => ⟨h.to _, ⟨_, _, _, _, _, b44.kp h, fun _ => rfl, fun _ => rfl, fun _ => rfl, fun _ => rfl, fun _ => rfl⟩⟩) (fun _ _ _ _ h mo k => by obtain ⟨hc, ⟨xg37_1, xg37_2, xg37_3, xg37_4, xg37_5, hbg37, heg37_1, heg37_2, heg37_3, heg37_4, heg37_5⟩⟩ := h; exact ⟨hc.comp k (fun _ _ q => q.elim), ⟨_, _, _, _, _, hbg37.kp k, fun q => heg37_1 (mo _ q), fun q => heg37_2 (mo _ q), fun q => heg37_3 (mo _ q), fun q => heg37_4 (mo _ q), fun q => heg37_5 (mo _ q)⟩⟩) ⟨(fun _ _ w w' h mo hj t => by obtain ⟨hc, ⟨xg37_1, xg37_2, xg37_3, xg37_4, xg37_5, hbg37, heg37_1, heg37_2, heg37_3, heg37_4, heg37_5⟩⟩ := h; obtain ⟨z0, hz⟩ := t.2 _ _ _ _ _ hbg37; exact ⟨hc.comp t.1 (fun _ _ q => q), ⟨_, _, _, _, _, hz, (fun q => by rw [hj] at q; cases q), fun q => heg37_2 (mo _ q), fun q => heg37_3 (mo _ q), fun q => heg37_4 (mo _ q), fun q => heg37_5 (mo _ q)⟩⟩), ⟨(fun _ _ w w' h mo hj t => by obtain ⟨hc, ⟨xg37_1, xg37_2, xg37_3, xg37_4, xg37_5, hbg37, heg37_1, heg37_2, heg37_3, heg37_4, heg37_5⟩⟩ := h; obtain ⟨z0, hz⟩ := t.2 _ _ _ _ _ hbg37; exact ⟨hc.comp t.1 (fun _ _ q => q), ⟨_, _, _, _, _, hz, fun q => heg37_1 (mo _ q), (fun q => by rw [hj] at q; cases q), fun q => heg37_3 (mo _ q), fun q => heg37_4 (mo _ q), fun q => heg37_5 (mo _ q)⟩⟩), ⟨(fun _ _ w w' h mo hj t => by obtain ⟨hc, ⟨xg37_1, xg37_2, xg37_3, xg37_4, xg37_5, hbg37, heg37_1, heg37_2, heg37_3, heg37_4, heg37_5⟩⟩ := h; obtain ⟨z0, hz⟩ := t.2 _ _ _ _ _ hbg37; exact ⟨hc.comp t.1 (fun _ _ q => q), ⟨_, _, _, _, _, hz, fun q => heg37_1 (mo _ q), fun q => heg37_2 (mo _ q), (fun q => by rw [hj] at q; cases q), fun q => heg37_4 (mo _ q), fun q => heg37_5 (mo _ q)⟩⟩), ⟨(fun _ _ w w' h mo hj t => by obtain ⟨hc, ⟨xg37_1, xg37_2, xg37_3, xg37_4, xg37_5, hbg37, heg37_1, heg37_2, heg37_3, heg37_4, heg37_5⟩⟩ := h; obtain ⟨z0, hz⟩ := t.2 _ _ _ _ _ hbg37; exact ⟨hc.comp t.1 (fun _ _ q => q), ⟨_, _, _, _, _, hz, fun q => heg37_1 (mo _ q), fun q => heg37_2 (mo _ q), fun q => heg37_3 (mo _ q), (fun q => by rw [hj] at q; cases q), fun q => heg37_5 (mo _ q)⟩⟩), ⟨(fun _ _ w w' h mo hj t => by obtain ⟨hc, ⟨xg37_1, xg37_2, xg37_3, xg37_4, xg37_5, hbg37, heg37_1, heg37_2, heg37_3, heg37_4, heg37_5⟩⟩ := h; obtain ⟨z0, hz⟩ := t.2 _ _ _ _ _ hbg37; exact ⟨hc.comp t.1 (fun _ _ q => q), ⟨_, _, _, _, _, hz, fun q => heg37_1 (mo _ q), fun q => heg37_2 (mo _ q), fun q => heg37_3 (mo _ q), fun q => heg37_4 (mo _ q), (fun q => by rw [hj] at q; cases q)⟩⟩), trivial⟩⟩⟩⟩⟩ ?_ ?_ ?_
 ·exact ⟨(fun _ _ _ _ h _ => h), (fun _ _ _ _ _ h => h), ⟨(fun _ _ _ _ h _ => h), (fun _ _ _ _ _ h => h), ⟨(fun _ _ _ _ h _ => h), (fun _ _ _ _ _ h => h), ⟨(fun _ _ _ _ h _ => h), (fun _ _ _ _ _ h => h), ⟨(fun _ _ _ _ h _ => h), (fun _ _ _ _ _ h => h), ⟨(fun _ _ _ _ h _ => h), (fun _ _ _ _ _ h => h), ⟨(fun _ _ _ _ h _ => h), (fun _ _ _ _ _ h => h), ⟨(fun _ _ _ _ h _ => h), (fun _ _ _ _ _ h => h), ⟨(fun _ _ _ _ h _ => h), (fun _ _ _ _ _ h => h), ⟨(fun _ _ _ _ h _ => h), (fun _ _ _ _ _ h => h), ⟨(fun _ _ _ _ h _ => h), (fun _ _ _ _ _ h => h), ⟨(fun _ _ _ _ h _ => h), (fun _ _ _ _ _ h => h), ⟨(fun _ _ _ _ h _ => h), (fun _ _ _ _ _ h => h), ⟨(fun e v w w1 h hk => by obtain ⟨xg37_1, xg37_2, xg37_3, xg37_4, xg37_5, hb, he⟩ := h; exact ⟨_, _, _, _, _, hb.kp hk, he⟩), (fun _ _ _ _ _ h => h), ⟨(fun _ _ _ _ h _ => h), (fun _ _ _ _ _ h => h), ⟨(fun e v w w1 h hk => by obtain ⟨xg37_1, xg37_2, xg37_3, xg37_4, xg37_5, hb, he⟩ := h; exact ⟨_, _, _, _, _, hb.kp hk, he⟩), (fun _ _ _ _ _ h => h), ⟨(fun _ _ _ _ h _ => h), (fun _ _ _ _ _ h => h), ⟨(fun e v w w1 h hk => by obtain ⟨xg37_1, xg37_2, xg37_3, xg37_4, xg37_5, hb, he⟩ := h; exact ⟨_, _, _, _, _, hb.kp hk, he⟩), (fun _ _ _ _ _ h => h), ⟨(fun _ _ _ _ h _ => h), (fun _ _ _ _ _ h => h), ⟨(fun e v w w1 h hk => by obtain ⟨xg37_1, xg37_2, xg37_3, xg37_4, xg37_5, hb, he⟩ := h; exact ⟨_, _, _, _, _, hb.kp hk, he⟩), (fun _ _ _ _ _ h => h), ⟨(fun _ _ _ _ h _ => h), (fun _ _ _ _ _ h => h), ⟨(fun e v w w1 h hk => by obtain ⟨xg37_1, xg37_2, xg37_3, xg37_4, xg37_5, hb, he⟩ := h; exact ⟨_, _, _, _, _, hb.kp hk, he⟩), (fun _ _ _ _ _ h => h), trivial⟩⟩⟩⟩⟩⟩⟩⟩⟩⟩⟩⟩⟩⟩⟩⟩⟩⟩⟩⟩⟩⟩
 ·exact ⟨⟨.inr (fun _ _ _ _ h _ => h), ⟨.inr (fun _ _ _ _ h _ => h), ⟨.inr (fun _ _ _ _ h _ => h), ⟨.inr (fun _ _ _ _ h _ => h), ⟨.inr (fun _ _ _ _ h _ => h), ⟨.inr (fun _ _ _ _ h _ => h), ⟨.inr (fun _ _ _ _ h _ => h), ⟨.inr (fun _ _ _ _ h _ => h), ⟨.inr (fun _ _ _ _ h _ => h), ⟨.inr (fun _ _ _ _ h _ => h), ⟨.inr (fun _ _ _ _ h _ => h), ⟨.inr (fun _ _ _ _ h _ => h), ⟨.inr (fun _ _ _ _ h _ => h), ⟨.inl rfl, ⟨.inr (fun _ _ _ _ h _ => h), ⟨.inr (fun e v w w1 h ht => by obtain ⟨xg37_1, xg37_2, xg37_3, xg37_4, xg37_5, hb, he⟩ := h; obtain ⟨z0, hz⟩ := ht.2 _ _ _ _ _ hb; exact ⟨_, _, _, _, _, hz, he⟩), ⟨.inr (fun _ _ _ _ h _ => h), ⟨.inr (fun e v w w1 h ht => by obtain ⟨xg37_1, xg37_2, xg37_3, xg37_4, xg37_5, hb, he⟩ := h; obtain ⟨z0, hz⟩ := ht.2 _ _ _ _ _ hb; exact ⟨_, _, _, _, _, hz, he⟩), ⟨.inr (fun _ _ _ _ h _ => h), ⟨.inr (fun e v w w1 h ht => by obtain ⟨xg37_1, xg37_2, xg37_3, xg37_4, xg37_5, hb, he⟩ := h; obtain ⟨z0, hz⟩ := ht.2 _ _ _ _ _ hb; exact ⟨_, _, _, _, _, hz, he⟩), ⟨.inr (fun _ _ _ _ h _ => h), ⟨.inr (fun e v w w1 h ht => by obtain ⟨xg37_1, xg37_2, xg37_3, xg37_4, xg37_5, hb, he⟩ := h; obtain ⟨z0, hz⟩ := ht.2 _ _ _ _ _ hb; exact ⟨_, _, _, _, _, hz, he⟩), trivial⟩⟩⟩⟩⟩⟩⟩⟩⟩⟩⟩⟩⟩⟩⟩⟩⟩⟩⟩⟩⟩⟩, ⟨⟨.inr (fun _ _ _ _ h _ => h), ⟨.inr (fun _ _ _ _ h _ => h), ⟨.inr (fun _ _ _ _ h _ => h), ⟨.inr (fun _ _ _ _ h _ => h), ⟨.inr (fun _ _ _ _ h _ => h), ⟨.inr (fun _ _ _ _ h _ => h), ⟨.inr (fun _ _ _ _ h _ => h), ⟨.inr (fun _ _ _ _ h _ => h), ⟨.inr (fun _ _ _ _ h _ => h), ⟨.inr (fun _ _ _ _ h _ => h), ⟨.inr (fun _ _ _ _ h _ => h), ⟨.inr (fun _ _ _ _ h _ => h), ⟨.inr (fun _ _ _ _ h _ => h), ⟨.inr (fun e v w w1 h ht => by obtain ⟨xg37_1, xg37_2, xg37_3, xg37_4, xg37_5, hb, he⟩ := h; obtain ⟨z0, hz⟩ := ht.2 _ _ _ _ _ hb; exact ⟨_, _, _, _, _, hz, he⟩), ⟨.inr (fun _ _ _ _ h _ => h), ⟨.inl rfl, ⟨.inr (fun _ _ _ _ h _ => h), ⟨.inr (fun e v w w1 h ht => by obtain ⟨xg37_1, xg37_2, xg37_3, xg37_4, xg37_5, hb, he⟩ := h; obtain ⟨z0, hz⟩ := ht.2 _ _ _ _ _ hb; exact ⟨_, _, _, _, _, hz, he⟩), ⟨.inr (fun _ _ _ _ h _ => h), ⟨.inr (fun e v w w1 h ht => by obtain ⟨xg37_1, xg37_2, xg37_3, xg37_4, xg37_5, hb, he⟩ := h; obtain ⟨z0, hz⟩ := ht.2 _ _ _ _ _ hb; exact ⟨_, _, _, _, _, hz, he⟩), ⟨.inr (fun _ _ _ _ h _ => h), ⟨.inr (fun e v w w1 h ht => by obtain ⟨xg37_1, xg37_2, xg37_3, xg37_4, xg37_5, hb, he⟩ := h; obtain ⟨z0, hz⟩ := ht.2 _ _ _ _ _ hb; exact ⟨_, _, _, _, _, hz, he⟩), trivial⟩⟩⟩⟩⟩⟩⟩⟩⟩⟩⟩⟩⟩⟩⟩⟩⟩⟩⟩⟩⟩⟩, ⟨⟨.inr (fun _ _ _ _ h _ => h), ⟨.inr (fun _ _ _ _ h _ => h), ⟨.inr (fun _ _ _ _ h _ => h), ⟨.inr (fun _ _ _ _ h _ => h), ⟨.inr (fun _ _ _ _ h _ => h), ⟨.inr (fun _ _ _ _ h _ => h), ⟨.inr (fun _ _ _ _ h _ => h), ⟨.inr (fun _ _ _ _ h _ => h), ⟨.inr (fun _ _ _ _ h _ => h), ⟨.inr (fun _ _ _ _ h _ => h), ⟨.inr (fun _ _ _ _ h _ => h), ⟨.inr (fun _ _ _ _ h _ => h), ⟨.inr (fun _ _ _ _ h _ => h), ⟨.inr (fun e v w w1 h ht => by obtain ⟨xg37_1, xg37_2, xg37_3, xg37_4, xg37_5, hb, he⟩ := h; obtain ⟨z0, hz⟩ := ht.2 _ _ _ _ _ hb; exact ⟨_, _, _, _, _, hz, he⟩), ⟨.inr (fun _ _ _ _ h _ => h), ⟨.inr (fun e v w w1 h ht => by obtain ⟨xg37_1, xg37_2, xg37_3, xg37_4, xg37_5, hb, he⟩ := h; obtain ⟨z0, hz⟩ := ht.2 _ _ _ _ _ hb; exact ⟨_, _, _, _, _, hz, he⟩), ⟨.inr (fun _ _ _ _ h _ => h), ⟨.inl rfl, ⟨.inr (fun _ _ _ _ h _ => h), ⟨.inr (fun e v w w1 h ht => by obtain ⟨xg37_1, xg37_2, xg37_3, xg37_4, xg37_5, hb, he⟩ := h; obtain ⟨z0, hz⟩ := ht.2 _ _ _ _ _ hb; exact ⟨_, _, _, _, _, hz, he⟩), ⟨.inr (fun _ _ _ _ h _ => h), ⟨.inr (fun e v w w1 h ht => by obtain ⟨xg37_1, xg37_2, xg37_3, xg37_4, xg37_5, hb, he⟩ := h; obtain ⟨z0, hz⟩ := ht.2 _ _ _ _ _ hb; exact ⟨_, _, _, _, _, hz, he⟩), trivial⟩⟩⟩⟩⟩⟩⟩⟩⟩⟩⟩⟩⟩⟩⟩⟩⟩⟩⟩⟩⟩⟩, ⟨⟨.inr (fun _ _ _ _ h _ => h), ⟨.inr (fun _ _ _ _ h _ => h), ⟨.inr (fun _ _ _ _ h _ => h), ⟨.inr (fun _ _ _ _ h _ => h), ⟨.inr (fun _ _ _ _ h _ => h), ⟨.inr (fun _ _ _ _ h _ => h), ⟨.inr (fun _ _ _ _ h _ => h), ⟨.inr (fun _ _ _ _ h _ => h), ⟨.inr (fun _ _ _ _ h _ => h), ⟨.inr (fun _ _ _ _ h _ => h), ⟨.inr (fun _ _ _ _ h _ => h), ⟨.inr (fun _ _ _ _ h _ => h), ⟨.inr (fun _ _ _ _ h _ => h), ⟨.inr (fun e v w w1 h ht => by obtain ⟨xg37_1, xg37_2, xg37_3, xg37_4, xg37_5, hb, he⟩ := h; obtain ⟨z0, hz⟩ := ht.2 _ _ _ _ _ hb; exact ⟨_, _, _, _, _, hz, he⟩), ⟨.inr (fun _ _ _ _ h _ => h), ⟨.inr (fun e v w w1 h ht => by obtain ⟨xg37_1, xg37_2, xg37_3, xg37_4, xg37_5, hb, he⟩ := h; obtain ⟨z0, hz⟩ := ht.2 _ _ _ _ _ hb; exact ⟨_, _, _, _, _, hz, he⟩), ⟨.inr (fun _ _ _ _ h _ => h), ⟨.inr (fun e v w w1 h ht => by obtain ⟨xg37_1, xg37_2, xg37_3, xg37_4, xg37_5, hb, he⟩ := h; obtain ⟨z0, hz⟩ := ht.2 _ _ _ _ _ hb; exact ⟨_, _, _, _, _, hz, he⟩), ⟨.inr (fun _ _ _ _ h _ => h), ⟨.inl rfl, ⟨.inr (fun _ _ _ _ h _ => h), ⟨.inr (fun e v w w1 h ht => by obtain ⟨xg37_1, xg37_2, xg37_3, xg37_4, xg37_5, hb, he⟩ := h; obtain ⟨z0, hz⟩ := ht.2 _ _ _ _ _ hb; exact ⟨_, _, _, _, _, hz, he⟩), trivial⟩⟩⟩⟩⟩⟩⟩⟩⟩⟩⟩⟩⟩⟩⟩⟩⟩⟩⟩⟩⟩⟩, ⟨⟨.inr (fun _ _ _ _ h _ => h), ⟨.inr (fun _ _ _ _ h _ => h), ⟨.inr (fun _ _ _ _ h _ => h), ⟨.inr (fun _ _ _ _ h _ => h), ⟨.inr (fun _ _ _ _ h _ => h), ⟨.inr (fun _ _ _ _ h _ => h), ⟨.inr (fun _ _ _ _ h _ => h), ⟨.inr (fun _ _ _ _ h _ => h), ⟨.inr (fun _ _ _ _ h _ => h), ⟨.inr (fun _ _ _ _ h _ => h), ⟨.inr (fun _ _ _ _ h _ => h), ⟨.inr (fun _ _ _ _ h _ => h), ⟨.inr (fun _ _ _ _ h _ => h), ⟨.inr (fun e v w w1 h ht => by obtain ⟨xg37_1, xg37_2, xg37_3, xg37_4, xg37_5, hb, he⟩ := h; obtain ⟨z0, hz⟩ := ht.2 _ _ _ _ _ hb; exact ⟨_, _, _, _, _, hz, he⟩), ⟨.inr (fun _ _ _ _ h _ => h), ⟨.inr (fun e v w w1 h ht => by obtain ⟨xg37_1, xg37_2, xg37_3, xg37_4, xg37_5, hb, he⟩ := h; obtain ⟨z0, hz⟩ := ht.2 _ _ _ _ _ hb; exact ⟨_, _, _, _, _, hz, he⟩), ⟨.inr (fun _ _ _ _ h _ => h), ⟨.inr (fun e v w w1 h ht => by obtain ⟨xg37_1, xg37_2, xg37_3, xg37_4, xg37_5, hb, he⟩ := h; obtain ⟨z0, hz⟩ := ht.2 _ _ _ _ _ hb; exact ⟨_, _, _, _, _, hz, he⟩), ⟨.inr (fun _ _ _ _ h _ => h), ⟨.inr (fun e v w w1 h ht => by obtain ⟨xg37_1, xg37_2, xg37_3, xg37_4, xg37_5, hb, he⟩ := h; obtain ⟨z0, hz⟩ := ht.2 _ _ _ _ _ hb; exact ⟨_, _, _, _, _, hz, he⟩), ⟨.inr (fun _ _ _ _ h _ => h), ⟨.inl rfl, trivial⟩⟩⟩⟩⟩⟩⟩⟩⟩⟩⟩⟩⟩⟩⟩⟩⟩⟩⟩⟩⟩⟩, trivial⟩⟩⟩⟩⟩
 ·refine ⟨?_, ⟨?_, ⟨?_, ⟨?_, ⟨?_, ⟨?_, ⟨?_, ⟨?_, ⟨?_, ⟨?_, ⟨?_, ⟨?_, ⟨?_, ⟨?_, ⟨?_, ⟨?_, ⟨?_, ⟨?_, ⟨?_, ⟨?_, ⟨?_, ⟨?_, trivial⟩⟩⟩⟩⟩⟩⟩⟩⟩⟩⟩⟩⟩⟩⟩⟩⟩⟩⟩⟩⟩⟩
  ·rintro lf w4 ⟨k411, ⟨xg37_1, xg37_2, xg37_3, xg37_4, xg37_5, b412, p413, p414, p415, p416, p417⟩⟩ ⟨n418, n419, n420, n421, n422, -⟩
   have m423 := m46.ext k411 (fun k hk => by subst hk; exact Nat.le_trans k34.size p38)
   obtain rfl : xg37_1 = (vi 0) := p413 (n418.resolve_left (fun h => Bool.noConfusion (show true = false from h)))
   obtain rfl : xg37_2 = (vs none 0 0) := p414 (n419.resolve_left (fun h => Bool.noConfusion (show true = false from h)))
   obtain rfl : xg37_3 = (vs none 0 0) := p415 (n420.resolve_left (fun h => Bool.noConfusion (show true = false from h)))
   obtain rfl : xg37_4 = (vi 0) := p416 (n421.resolve_left (fun h => Bool.noConfusion (show true = false from h)))
   obtain rfl : xg37_5 = (vs none 0 0) := p417 (n422.resolve_left (fun h => Bool.noConfusion (show true = false from h)))
   rintro _ _ _ _ _ _ _ _ _ _ _ _ _ _ _ _ _ _ _ _ _ _
   show WL _ _ _ _ _ _ _
   refine pu (vp g31 1) wN ?_
   exact wl_finT (Ch.refl _ _) rfl
  ·rintro lf w4 ⟨k424, ⟨xg37_1, xg37_2, xg37_3, xg37_4, xg37_5, b425, p426, p427, p428, p429, p430⟩⟩ ⟨n431, n432, n433, n434, n435, -⟩
   have m436 := m46.ext k424 (fun k hk => by subst hk; exact Nat.le_trans k34.size p38)
   obtain rfl : xg37_1 = (vi 0) := p426 (n431.resolve_left (fun h => Bool.noConfusion (show true = false from h)))
   obtain rfl : xg37_2 = (vs none 0 0) := p427 (n432.resolve_left (fun h => Bool.noConfusion (show true = false from h)))
   obtain rfl : xg37_3 = (vs none 0 0) := p428 (n433.resolve_left (fun h => Bool.noConfusion (show true = false from h)))
   obtain rfl : xg37_4 = (vi 0) := p429 (n434.resolve_left (fun h => Bool.noConfusion (show true = false from h)))
   obtain rfl : xg37_5 = (vs none 0 0) := p430 (n435.resolve_left (fun h => Bool.noConfusion (show true = false from h)))
   rintro _ rfl _ _ _ _ _ _ _ _ _ _ _ _ _ _ _ _ _ _ _ _ _
   show WL _ _ _ _ _ _ _
   have b437 := (b47.ch k424 (Nat.ne_of_lt (Nat.lt_of_lt_of_le p33 (Nat.le_trans (Nat.le_refl _) p38))))
   refine ld (vi x_f.Id) wN isAgg_3 b437 ?_
   exact wl_finT (Ch.refl _ _) rfl
  ·rintro lf w4 ⟨k438, ⟨xg37_1, xg37_2, xg37_3, xg37_4, xg37_5, b439, p440, p441, p442, p443, p444⟩⟩ ⟨n445, n446, n447, n448, n449, -⟩
   have m450 := m46.ext k438 (fun k hk => by subst hk; exact Nat.le_trans k34.size p38)
   obtain rfl : xg37_2 = (vs none 0 0) := p441 (n446.resolve_left (fun h => Bool.noConfusion (show true = false from h)))
   obtain rfl : xg37_3 = (vs none 0 0) := p442 (n447.resolve_left (fun h => Bool.noConfusion (show true = false from h)))
   obtain rfl : xg37_4 = (vi 0) := p443 (n448.resolve_left (fun h => Bool.noConfusion (show true = false from h)))
   obtain rfl : xg37_5 = (vs none 0 0) := p444 (n449.resolve_left (fun h => Bool.noConfusion (show true = false from h)))
   rintro _ _ _ _ _ _ _ _ _ _ _ _ _ _ _ _ _ _ _ _ _ _
   show WL _ _ _ _ _ _ _
   refine pu (vp g31 2) wN ?_
   exact wl_finT (Ch.refl _ _) rfl
  ·rintro lf w4 ⟨k451, ⟨xg37_1, xg37_2, xg37_3, xg37_4, xg37_5, b452, p453, p454, p455, p456, p457⟩⟩ ⟨n458, n459, n460, n461, n462, -⟩
   have m463 := m46.ext k451 (fun k hk => by subst hk; exact Nat.le_trans k34.size p38)
   obtain rfl : xg37_2 = (vs none 0 0) := p454 (n459.resolve_left (fun h => Bool.noConfusion (show true = false from h)))
   obtain rfl : xg37_3 = (vs none 0 0) := p455 (n460.resolve_left (fun h => Bool.noConfusion (show true = false from h)))
   obtain rfl : xg37_4 = (vi 0) := p456 (n461.resolve_left (fun h => Bool.noConfusion (show true = false from h)))
   obtain rfl : xg37_5 = (vs none 0 0) := p457 (n462.resolve_left (fun h => Bool.noConfusion (show true = false from h)))
   rintro _ _ _ rfl _ _ _ _ _ _ _ _ _ _ _ _ _ _ _ _ _ _ _
   show WL _ _ _ _ _ _ _
   have b464 := (b47.ch k451 (Nat.ne_of_lt (Nat.lt_of_lt_of_le p33 (Nat.le_trans (Nat.le_refl _) p38))))
   refine ld (vs a1 x_f.Cn.length c2) wN isAgg_22 b464 ?_
   exact wl_finT (Ch.refl _ _) rfl
  ·rintro lf w4 ⟨k465, ⟨xg37_1, xg37_2, xg37_3, xg37_4, xg37_5, b466, p467, p468, p469, p470, p471⟩⟩ ⟨n472, n473, n474, n475, n476, -⟩
   have m477 := m46.ext k465 (fun k hk => by subst hk; exact Nat.le_trans k34.size p38)
   obtain rfl : xg37_3 = (vs none 0 0) := p469 (n474.resolve_left (fun h => Bool.noConfusion (show true = false from h)))
   obtain rfl : xg37_4 = (vi 0) := p470 (n475.resolve_left (fun h => Bool.noConfusion (show true = false from h)))
   obtain rfl : xg37_5 = (vs none 0 0) := p471 (n476.resolve_left (fun h => Bool.noConfusion (show true = false from h)))
   rintro _ _ _ _ _ _ _ _ _ _ _ _ _ _ _ _ _ _ _ _ _ _
   show WL _ _ _ _ _ _ _
   refine pu (vp g31 3) wN ?_
   exact wl_finT (Ch.refl _ _) rfl
  ·rintro lf w4 ⟨k478, ⟨xg37_1, xg37_2, xg37_3, xg37_4, xg37_5, b479, p480, p481, p482, p483, p484⟩⟩ ⟨n485, n486, n487, n488, n489, -⟩
   have m490 := m46.ext k478 (fun k hk => by subst hk; exact Nat.le_trans k34.size p38)
   obtain rfl : xg37_3 = (vs none 0 0) := p482 (n487.resolve_left (fun h => Bool.noConfusion (show true = false from h)))
   obtain rfl : xg37_4 = (vi 0) := p483 (n488.resolve_left (fun h => Bool.noConfusion (show true = false from h)))
   obtain rfl : xg37_5 = (vs none 0 0) := p484 (n489.resolve_left (fun h => Bool.noConfusion (show true = false from h)))
   rintro _ _ _ _ _ rfl _ _ _ _ _ _ _ _ _ _ _ _ _ _ _ _ _
   show WL _ _ _ _ _ _ _
   have b491 := (b47.ch k478 (Nat.ne_of_lt (Nat.lt_of_lt_of_le p33 (Nat.le_trans (Nat.le_refl _) p38))))
   refine ld (vs a6 x_f.Sn.length c7) wN isAgg_22 b491 ?_
   exact wl_finT (Ch.refl _ _) rfl
  ·rintro lf w4 ⟨k492, ⟨xg37_1, xg37_2, xg37_3, xg37_4, xg37_5, b493, p494, p495, p496, p497, p498⟩⟩ ⟨n499, n500, n501, n502, n503, -⟩
   have m504 := m46.ext k492 (fun k hk => by subst hk; exact Nat.le_trans k34.size p38)
   obtain rfl : xg37_4 = (vi 0) := p497 (n502.resolve_left (fun h => Bool.noConfusion (show true = false from h)))
   obtain rfl : xg37_5 = (vs none 0 0) := p498 (n503.resolve_left (fun h => Bool.noConfusion (show true = false from h)))
   rintro _ _ _ _ _ _ _ _ _ _ _ _ _ _ _ _ _ _ _ _ _ _
   show WL _ _ _ _ _ _ _
   refine pu (vp g31 4) wN ?_
   exact wl_finT (Ch.refl _ _) rfl
  ·rintro lf w4 ⟨k505, ⟨xg37_1, xg37_2, xg37_3, xg37_4, xg37_5, b506, p507, p508, p509, p510, p511⟩⟩ ⟨n512, n513, n514, n515, n516, -⟩
   have m517 := m46.ext k505 (fun k hk => by subst hk; exact Nat.le_trans k34.size p38)
   obtain rfl : xg37_4 = (vi 0) := p510 (n515.resolve_left (fun h => Bool.noConfusion (show true = false from h)))
   obtain rfl : xg37_5 = (vs none 0 0) := p511 (n516.resolve_left (fun h => Bool.noConfusion (show true = false from h)))
   rintro _ _ _ _ _ _ _ rfl _ _ _ _ _ _ _ _ _ _ _ _ _ _ _
   show WL _ _ _ _ _ _ _
   have b518 := (b47.ch k505 (Nat.ne_of_lt (Nat.lt_of_lt_of_le p33 (Nat.le_trans (Nat.le_refl _) p38))))
   refine ld (vi x_f.Tick) wN isAgg_3 b518 ?_
   exact wl_finT (Ch.refl _ _) rfl
  ·rintro lf w4 ⟨k519, ⟨xg37_1, xg37_2, xg37_3, xg37_4, xg37_5, b520, p521, p522, p523, p524, p525⟩⟩ ⟨n526, n527, n528, n529, n530, -⟩
   have m531 := m46.ext k519 (fun k hk => by subst hk; exact Nat.le_trans k34.size p38)
   obtain rfl : xg37_5 = (vs none 0 0) := p525 (n530.resolve_left (fun h => Bool.noConfusion (show true = false from h)))
   rintro _ _ _ _ _ _ _ _ _ _ _ _ _ _ _ _ _ _ _ _ _ _
   show WL _ _ _ _ _ _ _
   refine pu (vp g31 5) wN ?_
   exact wl_finT (Ch.refl _ _) rfl
  ·rintro lf w4 ⟨k532, ⟨xg37_1, xg37_2, xg37_3, xg37_4, xg37_5, b533, p534, p535, p536, p537, p538⟩⟩ ⟨n539, n540, n541, n542, n543, -⟩
   have m544 := m46.ext k532 (fun k hk => by subst hk; exact Nat.le_trans k34.size p38)
   obtain rfl : xg37_5 = (vs none 0 0) := p538 (n543.resolve_left (fun h => Bool.noConfusion (show true = false from h)))
   rintro _ _ _ _ _ _ _ _ _ rfl _ _ _ _ _ _ _ _ _ _ _ _ _
   show WL _ _ _ _ _ _ _
   have b545 := (b47.ch k532 (Nat.ne_of_lt (Nat.lt_of_lt_of_le p33 (Nat.le_trans (Nat.le_refl _) p38))))
   refine ld (vs a11 x_f.Cookie.length c12) wN isAgg_22 b545 ?_
   exact wl_finT (Ch.refl _ _) rfl
  ·rintro lf w4 ⟨k546, ⟨xg37_1, xg37_2, xg37_3, xg37_4, xg37_5, b547, p548, p549, p550, p551, p552⟩⟩ ⟨n553, n554, n555, n556, n557, -⟩
   have m558 := m46.ext k546 (fun k hk => by subst hk; exact Nat.le_trans k34.size p38)
   rintro _ _ _ _ _ _ _ _ _ _ _ _ _ _ _ _ _ _ _ _ _ _
   show WL _ _ _ _ _ _ _
   refine pu (vp g31 6) wN ?_
   exact wl_finT (Ch.refl _ _) rfl
  ·rintro lf w4 ⟨k559, ⟨xg37_1, xg37_2, xg37_3, xg37_4, xg37_5, b560, p561, p562, p563, p564, p565⟩⟩ ⟨n566, n567, n568, n569, n570, -⟩
   have m571 := m46.ext k559 (fun k hk => by subst hk; exact Nat.le_trans k34.size p38)
   rintro _ _ _ _ _ _ _ _ _ _ _ rfl _ _ _ _ _ _ _ _ _ _ _
   show WL _ _ _ _ _ _ _
   have b572 := (b47.ch k559 (Nat.ne_of_lt (Nat.lt_of_lt_of_le p33 (Nat.le_trans (Nat.le_refl _) p38))))
   refine ld (vs a16 x_f.Proof.length c17) wN isAgg_22 b572 ?_
   exact wl_finT (Ch.refl _ _) rfl
  ·rintro lf w4 ⟨k573, ⟨xg37_1, xg37_2, xg37_3, xg37_4, xg37_5, b574, p575, p576, p577, p578, p579⟩⟩ ⟨n580, n581, n582, n583, n584, -⟩
   have m585 := m46.ext k573 (fun k hk => by subst hk; exact Nat.le_trans k34.size p38)
   obtain rfl : xg37_1 = (vi 0) := p575 (n580.resolve_left (fun h => Bool.noConfusion (show true = false from h)))
   obtain rfl : xg37_2 = (vs none 0 0) := p576 (n581.resolve_left (fun h => Bool.noConfusion (show true = false from h)))
   obtain rfl : xg37_3 = (vs none 0 0) := p577 (n582.resolve_left (fun h => Bool.noConfusion (show true = false from h)))
   obtain rfl : xg37_4 = (vi 0) := p578 (n583.resolve_left (fun h => Bool.noConfusion (show true = false from h)))
   obtain rfl : xg37_5 = (vs none 0 0) := p579 (n584.resolve_left (fun h => Bool.noConfusion (show true = false from h)))
   rintro _ rfl _ rfl _ _ _ _ _ _ _ _ _ _ _ _ _ _ _ _ _ _ _ _
   show WL _ _ _ _ _ _ _
   refine pu (vp g37 1) wN ?_
   exact wl_finT (Ch.refl _ _) rfl
  ·rintro lf w4 ⟨k587, ⟨xg37_1, xg37_2, xg37_3, xg37_4, xg37_5, b588, p589, p590, p591, p592, p593⟩⟩ ⟨n594, n595, n596, n597, n598, -⟩
   have m599 := m46.ext k587 (fun k hk => by subst hk; exact Nat.le_trans k34.size p38)
   obtain rfl : xg37_2 = (vs none 0 0) := p590 (n595.resolve_left (fun h => Bool.noConfusion (show true = false from h)))
   obtain rfl : xg37_3 = (vs none 0 0) := p591 (n596.resolve_left (fun h => Bool.noConfusion (show true = false from h)))
   obtain rfl : xg37_4 = (vi 0) := p592 (n597.resolve_left (fun h => Bool.noConfusion (show true = false from h)))
   obtain rfl : xg37_5 = (vs none 0 0) := p593 (n598.resolve_left (fun h => Bool.noConfusion (show true = false from h)))
   rintro _ rfl _ rfl _ _ _ _ _ _ _ _ _ _ _ rfl _ _ _ _ _ _ _ _ _
   show WL _ _ _ _ _ _ _
   refine st (vi x_f.Id) [(vi x_f.Id)] [(vi x_f.Kind), (vi x_f.Id), (vs none 0 0), (vs none 0 0), (vi 0), (vs none 0 0), (vs none 0 0), (vi 0), (vi 0), (vs none 0 0), (vs none 0 0)] wN sizeOf_3 b588 ?_
   intro w5 k601 b602 z603
   have m604 := m599.ext k601 (fun k hk => by subst hk; exact Nat.le_trans k34.size p38)
   exact wl_finS (by decide) ⟨k601, fun yg37_1 yg37_2 yg37_3 yg37_4 yg37_5 hb => by have hq := Blk.inj b588 hb;  have hr2 : (vs none 0 0) = yg37_2 := congrArg (fun l => List.getD l 2 U) hq; rw [← hr2]; have hr3 : (vs none 0 0) = yg37_3 := congrArg (fun l => List.getD l 3 U) hq; rw [← hr3]; have hr4 : (vi 0) = yg37_4 := congrArg (fun l => List.getD l 4 U) hq; rw [← hr4]; have hr5 : (vs none 0 0) = yg37_5 := congrArg (fun l => List.getD l 5 U) hq; rw [← hr5]; exact ⟨_, b602⟩⟩ ⟨_, _, _, _, _, b602, rfl⟩
  ·rintro lf w4 ⟨k605, ⟨xg37_1, xg37_2, xg37_3, xg37_4, xg37_5, b606, p607, p608, p609, p610, p611⟩⟩ ⟨n612, n613, n614, n615, n616, -⟩
   have m617 := m46.ext k605 (fun k hk => by subst hk; exact Nat.le_trans k34.size p38)
   obtain rfl : xg37_2 = (vs none 0 0) := p608 (n613.resolve_left (fun h => Bool.noConfusion (show true = false from h)))
   obtain rfl : xg37_3 = (vs none 0 0) := p609 (n614.resolve_left (fun h => Bool.noConfusion (show true = false from h)))
   obtain rfl : xg37_4 = (vi 0) := p610 (n615.resolve_left (fun h => Bool.noConfusion (show true = false from h)))
   obtain rfl : xg37_5 = (vs none 0 0) := p611 (n616.resolve_left (fun h => Bool.noConfusion (show true = false from h)))
   rintro _ rfl _ rfl _ rfl _ rfl _ _ _ _ _ _ _ _ _ rfl _ ⟨y621, y622, y623, y624, y625, b620, rfl⟩
   obtain rfl : xg37_1 = (vi x_f.Id) := congrArg (fun l => List.getD l 1 U) (Blk.inj b606 b620)
   rintro _ _ _ _ _ _ _ _
   show WL _ _ _ _ _ _ _
   refine pu (vp g37 2) wN ?_
   exact wl_finT (Ch.refl _ _) rfl
  ·rintro lf w4 ⟨k626, ⟨xg37_1, xg37_2, xg37_3, xg37_4, xg37_5, b627, p628, p629, p630, p631, p632⟩⟩ ⟨n633, n634, n635, n636, n637, -⟩
   have m638 := m46.ext k626 (fun k hk => by subst hk; exact Nat.le_trans k34.size p38)
   obtain rfl : xg37_3 = (vs none 0 0) := p630 (n635.resolve_left (fun h => Bool.noConfusion (show true = false from h)))
   obtain rfl : xg37_4 = (vi 0) := p631 (n636.resolve_left (fun h => Bool.noConfusion (show true = false from h)))
   obtain rfl : xg37_5 = (vs none 0 0) := p632 (n637.resolve_left (fun h => Bool.noConfusion (show true = false from h)))
   rintro _ rfl _ rfl _ rfl _ rfl _ _ _ _ _ _ _ _ _ rfl _ ⟨y642, y643, y644, y645, y646, b641, rfl⟩
   obtain rfl : xg37_1 = (vi x_f.Id) := congrArg (fun l => List.getD l 1 U) (Blk.inj b627 b641)
   rintro _ rfl _ _ _ _ _ _ _
   show WL _ _ _ _ _ _ _
   refine st (vs a1 x_f.Cn.length c2) [(vs a1 x_f.Cn.length c2)] [(vi x_f.Kind), (vi x_f.Id), (vs a1 x_f.Cn.length c2), (vs none 0 0), (vi 0), (vs none 0 0), (vs none 0 0), (vi 0), (vi 0), (vs none 0 0), (vs none 0 0)] wN sizeOf_22 b627 ?_
   intro w5 k647 b648 z649
   have m650 := m638.ext k647 (fun k hk => by subst hk; exact Nat.le_trans k34.size p38)
   exact wl_finS (by decide) ⟨k647, fun yg37_1 yg37_2 yg37_3 yg37_4 yg37_5 hb => by have hq := Blk.inj b627 hb;  have hr1 : (vi x_f.Id) = yg37_1 := congrArg (fun l => List.getD l 1 U) hq; rw [← hr1]; have hr3 : (vs none 0 0) = yg37_3 := congrArg (fun l => List.getD l 3 U) hq; rw [← hr3]; have hr4 : (vi 0) = yg37_4 := congrArg (fun l => List.getD l 4 U) hq; rw [← hr4]; have hr5 : (vs none 0 0) = yg37_5 := congrArg (fun l => List.getD l 5 U) hq; rw [← hr5]; exact ⟨_, b648⟩⟩ ⟨_, _, _, _, _, b648, rfl⟩
  ·rintro lf w4 ⟨k651, ⟨xg37_1, xg37_2, xg37_3, xg37_4, xg37_5, b652, p653, p654, p655, p656, p657⟩⟩ ⟨n658, n659, n660, n661, n662, -⟩
   have m663 := m46.ext k651 (fun k hk => by subst hk; exact Nat.le_trans k34.size p38)
   obtain rfl : xg37_3 = (vs none 0 0) := p655 (n660.resolve_left (fun h => Bool.noConfusion (show true = false from h)))
   obtain rfl : xg37_4 = (vi 0) := p656 (n661.resolve_left (fun h => Bool.noConfusion (show true = false from h)))
   obtain rfl : xg37_5 = (vs none 0 0) := p657 (n662.resolve_left (fun h => Bool.noConfusion (show true = false from h)))
   rintro _ rfl _ rfl _ rfl _ rfl _ rfl _ rfl _ _ _ _ _ _ _ rfl _ ⟨y668, y669, y670, y671, y672, b667, rfl⟩
   obtain rfl : xg37_1 = (vi x_f.Id) := congrArg (fun l => List.getD l 1 U) (Blk.inj b652 b667)
   rintro _ rfl _ ⟨y674, y675, y676, y677, y678, b673, rfl⟩
   obtain rfl : xg37_2 = (vs a1 x_f.Cn.length c2) := congrArg (fun l => List.getD l 2 U) (Blk.inj b652 b673)
   rintro _ _ _ _ _ _
   show WL _ _ _ _ _ _ _
   refine pu (vp g37 3) wN ?_
   exact wl_finT (Ch.refl _ _) rfl
  ·rintro lf w4 ⟨k679, ⟨xg37_1, xg37_2, xg37_3, xg37_4, xg37_5, b680, p681, p682, p683, p684, p685⟩⟩ ⟨n686, n687, n688, n689, n690, -⟩
   have m691 := m46.ext k679 (fun k hk => by subst hk; exact Nat.le_trans k34.size p38)
   obtain rfl : xg37_4 = (vi 0) := p684 (n689.resolve_left (fun h => Bool.noConfusion (show true = false from h)))
   obtain rfl : xg37_5 = (vs none 0 0) := p685 (n690.resolve_left (fun h => Bool.noConfusion (show true = false from h)))
   rintro _ rfl _ rfl _ rfl _ rfl _ rfl _ rfl _ _ _ _ _ _ _ rfl _ ⟨y696, y697, y698, y699, y700, b695, rfl⟩
   obtain rfl : xg37_1 = (vi x_f.Id) := congrArg (fun l => List.getD l 1 U) (Blk.inj b680 b695)
   rintro _ rfl _ ⟨y702, y703, y704, y705, y706, b701, rfl⟩
   obtain rfl : xg37_2 = (vs a1 x_f.Cn.length c2) := congrArg (fun l => List.getD l 2 U) (Blk.inj b680 b701)
   rintro _ rfl _ _ _ _ _
   show WL _ _ _ _ _ _ _
   refine st (vs a6 x_f.Sn.length c7) [(vs a6 x_f.Sn.length c7)] [(vi x_f.Kind), (vi x_f.Id), (vs a1 x_f.Cn.length c2), (vs a6 x_f.Sn.length c7), (vi 0), (vs none 0 0), (vs none 0 0), (vi 0), (vi 0), (vs none 0 0), (vs none 0 0)] wN sizeOf_22 b680 ?_
   intro w5 k707 b708 z709
   have m710 := m691.ext k707 (fun k hk => by subst hk; exact Nat.le_trans k34.size p38)
   exact wl_finS (by decide) ⟨k707, fun yg37_1 yg37_2 yg37_3 yg37_4 yg37_5 hb => by have hq := Blk.inj b680 hb;  have hr1 : (vi x_f.Id) = yg37_1 := congrArg (fun l => List.getD l 1 U) hq; rw [← hr1]; have hr2 : (vs a1 x_f.Cn.length c2) = yg37_2 := congrArg (fun l => List.getD l 2 U) hq; rw [← hr2]; have hr4 : (vi 0) = yg37_4 := congrArg (fun l => List.getD l 4 U) hq; rw [← hr4]; have hr5 : (vs none 0 0) = yg37_5 := congrArg (fun l => List.getD l 5 U) hq; rw [← hr5]; exact ⟨_, b708⟩⟩ ⟨_, _, _, _, _, b708, rfl⟩
  ·rintro lf w4 ⟨k711, ⟨xg37_1, xg37_2, xg37_3, xg37_4, xg37_5, b712, p713, p714, p715, p716, p717⟩⟩ ⟨n718, n719, n720, n721, n722, -⟩
   have m723 := m46.ext k711 (fun k hk => by subst hk; exact Nat.le_trans k34.size p38)
   obtain rfl : xg37_4 = (vi 0) := p716 (n721.resolve_left (fun h => Bool.noConfusion (show true = false from h)))
   obtain rfl : xg37_5 = (vs none 0 0) := p717 (n722.resolve_left (fun h => Bool.noConfusion (show true = false from h)))
   rintro _ rfl _ rfl _ rfl _ rfl _ rfl _ rfl _ rfl _ rfl _ _ _ _ _ rfl _ ⟨y729, y730, y731, y732, y733, b728, rfl⟩
   obtain rfl : xg37_1 = (vi x_f.Id) := congrArg (fun l => List.getD l 1 U) (Blk.inj b712 b728)
   rintro _ rfl _ ⟨y735, y736, y737, y738, y739, b734, rfl⟩
   obtain rfl : xg37_2 = (vs a1 x_f.Cn.length c2) := congrArg (fun l => List.getD l 2 U) (Blk.inj b712 b734)
   rintro _ rfl _ ⟨y741, y742, y743, y744, y745, b740, rfl⟩
   obtain rfl : xg37_3 = (vs a6 x_f.Sn.length c7) := congrArg (fun l => List.getD l 3 U) (Blk.inj b712 b740)
   rintro _ _ _ _
   show WL _ _ _ _ _ _ _
   refine pu (vp g37 4) wN ?_
   exact wl_finT (Ch.refl _ _) rfl
  ·rintro lf w4 ⟨k746, ⟨xg37_1, xg37_2, xg37_3, xg37_4, xg37_5, b747, p748, p749, p750, p751, p752⟩⟩ ⟨n753, n754, n755, n756, n757, -⟩
   have m758 := m46.ext k746 (fun k hk => by subst hk; exact Nat.le_trans k34.size p38)
   obtain rfl : xg37_5 = (vs none 0 0) := p752 (n757.resolve_left (fun h => Bool.noConfusion (show true = false from h)))
   rintro _ rfl _ rfl _ rfl _ rfl _ rfl _ rfl _ rfl _ rfl _ _ _ _ _ rfl _ ⟨y764, y765, y766, y767, y768, b763, rfl⟩
   obtain rfl : xg37_1 = (vi x_f.Id) := congrArg (fun l => List.getD l 1 U) (Blk.inj b747 b763)
   rintro _ rfl _ ⟨y770, y771, y772, y773, y774, b769, rfl⟩
   obtain rfl : xg37_2 = (vs a1 x_f.Cn.length c2) := congrArg (fun l => List.getD l 2 U) (Blk.inj b747 b769)
   rintro _ rfl _ ⟨y776, y777, y778, y779, y780, b775, rfl⟩
   obtain rfl : xg37_3 = (vs a6 x_f.Sn.length c7) := congrArg (fun l => List.getD l 3 U) (Blk.inj b747 b775)
   rintro _ rfl _ _ _
   show WL _ _ _ _ _ _ _
   refine st (vi x_f.Tick) [(vi x_f.Tick)] [(vi x_f.Kind), (vi x_f.Id), (vs a1 x_f.Cn.length c2), (vs a6 x_f.Sn.length c7), (vi x_f.Tick), (vs none 0 0), (vs none 0 0), (vi 0), (vi 0), (vs none 0 0), (vs none 0 0)] wN sizeOf_3 b747 ?_
   intro w5 k781 b782 z783
   have m784 := m758.ext k781 (fun k hk => by subst hk; exact Nat.le_trans k34.size p38)
   exact wl_finS (by decide) ⟨k781, fun yg37_1 yg37_2 yg37_3 yg37_4 yg37_5 hb => by have hq := Blk.inj b747 hb;  have hr1 : (vi x_f.Id) = yg37_1 := congrArg (fun l => List.getD l 1 U) hq; rw [← hr1]; have hr2 : (vs a1 x_f.Cn.length c2) = yg37_2 := congrArg (fun l => List.getD l 2 U) hq; rw [← hr2]; have hr3 : (vs a6 x_f.Sn.length c7) = yg37_3 := congrArg (fun l => List.getD l 3 U) hq; rw [← hr3]; have hr5 : (vs none 0 0) = yg37_5 := congrArg (fun l => List.getD l 5 U) hq; rw [← hr5]; exact ⟨_, b782⟩⟩ ⟨_, _, _, _, _, b782, rfl⟩
  ·rintro lf w4 ⟨k785, ⟨xg37_1, xg37_2, xg37_3, xg37_4, xg37_5, b786, p787, p788, p789, p790, p791⟩⟩ ⟨n792, n793, n794, n795, n796, -⟩
   have m797 := m46.ext k785 (fun k hk => by subst hk; exact Nat.le_trans k34.size p38)
   obtain rfl : xg37_5 = (vs none 0 0) := p791 (n796.resolve_left (fun h => Bool.noConfusion (show true = false from h)))
   rintro _ rfl _ rfl _ rfl _ rfl _ rfl _ rfl _ rfl _ rfl _ rfl _ rfl _ _ _ rfl _ ⟨y804, y805, y806, y807, y808, b803, rfl⟩
   obtain rfl : xg37_1 = (vi x_f.Id) := congrArg (fun l => List.getD l 1 U) (Blk.inj b786 b803)
   rintro _ rfl _ ⟨y810, y811, y812, y813, y814, b809, rfl⟩
   obtain rfl : xg37_2 = (vs a1 x_f.Cn.length c2) := congrArg (fun l => List.getD l 2 U) (Blk.inj b786 b809)
   rintro _ rfl _ ⟨y816, y817, y818, y819, y820, b815, rfl⟩
   obtain rfl : xg37_3 = (vs a6 x_f.Sn.length c7) := congrArg (fun l => List.getD l 3 U) (Blk.inj b786 b815)
   rintro _ rfl _ ⟨y822, y823, y824, y825, y826, b821, rfl⟩
   obtain rfl : xg37_4 = (vi x_f.Tick) := congrArg (fun l => List.getD l 4 U) (Blk.inj b786 b821)
   rintro _ _
   show WL _ _ _ _ _ _ _
   refine pu (vp g37 5) wN ?_
   exact wl_finT (Ch.refl _ _) rfl
  ·rintro lf w4 ⟨k827, ⟨xg37_1, xg37_2, xg37_3, xg37_4, xg37_5, b828, p829, p830, p831, p832, p833⟩⟩ ⟨n834, n835, n836, n837, n838, -⟩
   have m839 := m46.ext k827 (fun k hk => by subst hk; exact Nat.le_trans k34.size p38)
   rintro _ rfl _ rfl _ rfl _ rfl _ rfl _ rfl _ rfl _ rfl _ rfl _ rfl _ _ _ rfl _ ⟨y846, y847, y848, y849, y850, b845, rfl⟩
   obtain rfl : xg37_1 = (vi x_f.Id) := congrArg (fun l => List.getD l 1 U) (Blk.inj b828 b845)
   rintro _ rfl _ ⟨y852, y853, y854, y855, y856, b851, rfl⟩
   obtain rfl : xg37_2 = (vs a1 x_f.Cn.length c2) := congrArg (fun l => List.getD l 2 U) (Blk.inj b828 b851)
   rintro _ rfl _ ⟨y858, y859, y860, y861, y862, b857, rfl⟩
   obtain rfl : xg37_3 = (vs a6 x_f.Sn.length c7) := congrArg (fun l => List.getD l 3 U) (Blk.inj b828 b857)
   rintro _ rfl _ ⟨y864, y865, y866, y867, y868, b863, rfl⟩
   obtain rfl : xg37_4 = (vi x_f.Tick) := congrArg (fun l => List.getD l 4 U) (Blk.inj b828 b863)
   rintro _ rfl _
   show WL _ _ _ _ _ _ _
   refine st (vs a11 x_f.Cookie.length c12) [(vs a11 x_f.Cookie.length c12)] [(vi x_f.Kind), (vi x_f.Id), (vs a1 x_f.Cn.length c2), (vs a6 x_f.Sn.length c7), (vi x_f.Tick), (vs a11 x_f.Cookie.length c12), (vs none 0 0), (vi 0), (vi 0), (vs none 0 0), (vs none 0 0)] wN sizeOf_22 b828 ?_
   intro w5 k869 b870 z871
   have m872 := m839.ext k869 (fun k hk => by subst hk; exact Nat.le_trans k34.size p38)
   exact wl_finS (by decide) ⟨k869, fun yg37_1 yg37_2 yg37_3 yg37_4 yg37_5 hb => by have hq := Blk.inj b828 hb;  have hr1 : (vi x_f.Id) = yg37_1 := congrArg (fun l => List.getD l 1 U) hq; rw [← hr1]; have hr2 : (vs a1 x_f.Cn.length c2) = yg37_2 := congrArg (fun l => List.getD l 2 U) hq; rw [← hr2]; have hr3 : (vs a6 x_f.Sn.length c7) = yg37_3 := congrArg (fun l => List.getD l 3 U) hq; rw [← hr3]; have hr4 : (vi x_f.Tick) = yg37_4 := congrArg (fun l => List.getD l 4 U) hq; rw [← hr4]; exact ⟨_, b870⟩⟩ ⟨_, _, _, _, _, b870, rfl⟩
 ·rintro lf w4 ⟨k873, ⟨xg37_1, xg37_2, xg37_3, xg37_4, xg37_5, b874, p875, p876, p877, p878, p879⟩⟩
  have m885 := m46.ext k873 (fun k hk => by subst hk; exact Nat.le_trans k34.size p38)
  rintro _ rfl _ rfl _ rfl _ rfl _ rfl _ rfl _ rfl _ rfl _ rfl _ rfl _ rfl _ rfl _ rfl _ ⟨y893, y894, y895, y896, y897, b892, rfl⟩
  obtain rfl : xg37_1 = (vi x_f.Id) := congrArg (fun l => List.getD l 1 U) (Blk.inj b874 b892)
  rintro _ rfl _ ⟨y899, y900, y901, y902, y903, b898, rfl⟩
  obtain rfl : xg37_2 = (vs a1 x_f.Cn.length c2) := congrArg (fun l => List.getD l 2 U) (Blk.inj b874 b898)
  rintro _ rfl _ ⟨y905, y906, y907, y908, y909, b904, rfl⟩
  obtain rfl : xg37_3 = (vs a6 x_f.Sn.length c7) := congrArg (fun l => List.getD l 3 U) (Blk.inj b874 b904)
  rintro _ rfl _ ⟨y911, y912, y913, y914, y915, b910, rfl⟩
  obtain rfl : xg37_4 = (vi x_f.Tick) := congrArg (fun l => List.getD l 4 U) (Blk.inj b874 b910)
  rintro _ rfl _ ⟨y917, y918, y919, y920, y921, b916, rfl⟩
  obtain rfl : xg37_5 = (vs a11 x_f.Cookie.length c12) := congrArg (fun l => List.getD l 5 U) (Blk.inj b874 b916)
  show WL _ _ _ _ _ _ _
  refine pu (vp g37 6) wN ?_
  refine st (vs a16 x_f.Proof.length c17) [(vs a16 x_f.Proof.length c17)] [(vi x_f.Kind), (vi x_f.Id), (vs a1 x_f.Cn.length c2), (vs a6 x_f.Sn.length c7), (vi x_f.Tick), (vs a11 x_f.Cookie.length c12), (vs a16 x_f.Proof.length c17), (vi 0), (vi 0), (vs none 0 0), (vs none 0 0)] wN sizeOf_22 b874 ?_
  intro w5 k922 b923 z924
  have m925 := m885.ext k922 (fun k hk => by subst hk; exact Nat.le_trans k34.size p38)
  refine wl_nil <| wq_then <| wc_region ?_
  refine pu (vp g31 1) wN ?_
  have b926 := ((b47.ch k873 (Nat.ne_of_lt (Nat.lt_of_lt_of_le p33 (Nat.le_trans (Nat.le_refl _) p38)))).ch k922 (Nat.ne_of_lt (Nat.lt_of_lt_of_le p33 (Nat.le_trans (Nat.le_refl _) p38))))
  refine ld (vi x_f.Id) wN isAgg_3 b926 ?_
  refine cl wN (C_impl_within w5 x_f.Id 1 9) ?_
  rintro _ w6 ⟨k927, rfl⟩
  have m928 := m925.extk k927
  refine mv (vb (F_impl_within x_f.Id 1 9)) wN ?_
  rcases bf (F_impl_within x_f.Id 1 9) with h929 | h929
  ·have q965 := impl_within_f h929
   refine sk h929 ?_
   refine sk h929 ?_
   refine sk h929 ?_
   refine pf (vb false) wN h929 ?_
   refine mv (vb false) wN ?_
   refine sk (Eq.refl false) ?_
   refine sk (Eq.refl false) ?_
   refine sk (Eq.refl false) ?_
   refine pf (vb false) wN (Eq.refl false) ?_
   refine mv (vb false) wN ?_
   refine sk (Eq.refl false) ?_
   refine sk (Eq.refl false) ?_
   refine sk (Eq.refl false) ?_
   refine pf (vb false) wN (Eq.refl false) ?_
   refine mv (vb false) wN ?_
   refine sk (Eq.refl false) ?_
   refine sk (Eq.refl false) ?_
   refine sk (Eq.refl false) ?_
   refine sk (Eq.refl false) ?_
   refine pf (vb false) wN (Eq.refl false) ?_
   refine mv (vb false) wN ?_
   refine sk (Eq.refl false) ?_
   refine sk (Eq.refl false) ?_
   refine sk (Eq.refl false) ?_
   refine sk (Eq.refl false) ?_
   refine pf (vb false) wN (Eq.refl false) ?_
   refine ag (vb false) wN ?_
   refine wl_nil <| wq_blk_normal <| wq_then <| sr ?_
   refine mv (vb false) wN ?_
   refine mv (vb false) wN ?_
   refine sk (Eq.refl false) ?_
   refine sk (Eq.refl false) ?_
   refine sk (Eq.refl false) ?_
   refine pf (vb false) wN (Eq.refl false) ?_
   refine ag (vb false) wN ?_
   refine wl_nil <| wq_then <| wc_ret ?_
   refine ret_1 (.inl rfl) (vb false) rfl rfl ?_
   refine ⟨m928.keep0, ?_⟩
   have hF966 : F_impl_FrameOk x_f = false := by simp only [F_impl_FrameOk, h48, h129, h385, h929, cond_true, cond_false]
   rw [hF966]
   exact rfl
  have q930 := impl_within_t h929
  refine pu (vp g31 2) (wS h929) ?_
  have b931 := (b926.kp k927)
  refine ld (vs a1 x_f.Cn.length c2) (wS h929) isAgg_22 b931 ?_
  refine cl (wS h929) (C_impl_isNonce w6 _ x_f.Cn (mR_22 (r3.from0 m928) s4)) ?_
  rintro _ w7 ⟨k932, rfl⟩
  have m933 := m928.extk k932
  refine pk (vb (F_impl_isNonce x_f.Cn)) wN h929 ?_
  refine mv (vb (F_impl_isNonce x_f.Cn)) wN ?_
  rcases bf (F_impl_isNonce x_f.Cn) with h934 | h934
  ·refine sk h934 ?_
   refine sk h934 ?_
   refine sk h934 ?_
   refine pf (vb false) wN h934 ?_
   refine mv (vb false) wN ?_
   refine sk (Eq.refl false) ?_
   refine sk (Eq.refl false) ?_
   refine sk (Eq.refl false) ?_
   refine pf (vb false) wN (Eq.refl false) ?_
   refine mv (vb false) wN ?_
   refine sk (Eq.refl false) ?_
   refine sk (Eq.refl false) ?_
   refine sk (Eq.refl false) ?_
   refine sk (Eq.refl false) ?_
   refine pf (vb false) wN (Eq.refl false) ?_
   refine mv (vb false) wN ?_
   refine sk (Eq.refl false) ?_
   refine sk (Eq.refl false) ?_
   refine sk (Eq.refl false) ?_
   refine sk (Eq.refl false) ?_
   refine pf (vb false) wN (Eq.refl false) ?_
   refine ag (vb false) wN ?_
   refine wl_nil <| wq_blk_normal <| wq_then <| sr ?_
   refine mv (vb false) wN ?_
   refine mv (vb false) wN ?_
   refine sk (Eq.refl false) ?_
   refine sk (Eq.refl false) ?_
   refine sk (Eq.refl false) ?_
   refine pf (vb false) wN (Eq.refl false) ?_
   refine ag (vb false) wN ?_
   refine wl_nil <| wq_then <| wc_ret ?_
   refine ret_1 (.inl rfl) (vb false) rfl rfl ?_
   refine ⟨m933.keep0, ?_⟩
   have hF964 : F_impl_FrameOk x_f = false := by simp only [F_impl_FrameOk, h48, h129, h385, h929, h934, cond_true, cond_false]
   rw [hF964]
   exact rfl
  refine pu (vp g31 3) (wS h934) ?_
  have b936 := (b931.kp k932)
  refine ld (vs a6 x_f.Sn.length c7) (wS h934) isAgg_22 b936 ?_
  refine cl (wS h934) (C_impl_isNonce w7 _ x_f.Sn (mR_22 (r8.from0 m933) s9)) ?_
  rintro _ w8 ⟨k937, rfl⟩
  have m938 := m933.extk k937
  refine pk (vb (F_impl_isNonce x_f.Sn)) wN h934 ?_
  refine mv (vb (F_impl_isNonce x_f.Sn)) wN ?_
  rcases bf (F_impl_isNonce x_f.Sn) with h939 | h939
  ·refine sk h939 ?_
   refine sk h939 ?_
   refine sk h939 ?_
   refine pf (vb false) wN h939 ?_
   refine mv (vb false) wN ?_
   refine sk (Eq.refl false) ?_
   refine sk (Eq.refl false) ?_
   refine sk (Eq.refl false) ?_
   refine sk (Eq.refl false) ?_
   refine pf (vb false) wN (Eq.refl false) ?_
   refine mv (vb false) wN ?_
   refine sk (Eq.refl false) ?_
   refine sk (Eq.refl false) ?_
   refine sk (Eq.refl false) ?_
   refine sk (Eq.refl false) ?_
   refine pf (vb false) wN (Eq.refl false) ?_
   refine ag (vb false) wN ?_
   refine wl_nil <| wq_blk_normal <| wq_then <| sr ?_
   refine mv (vb false) wN ?_
   refine mv (vb false) wN ?_
   refine sk (Eq.refl false) ?_
   refine sk (Eq.refl false) ?_
   refine sk (Eq.refl false) ?_
   refine pf (vb false) wN (Eq.refl false) ?_
   refine ag (vb false) wN ?_
   refine wl_nil <| wq_then <| wc_ret ?_
   refine ret_1 (.inl rfl) (vb false) rfl rfl ?_
   refine ⟨m938.keep0, ?_⟩
   have hF962 : F_impl_FrameOk x_f = false := by simp only [F_impl_FrameOk, h48, h129, h385, h929, h934, h939, cond_true, cond_false]
   rw [hF962]
   exact rfl
  refine pu (vp g31 4) (wS h939) ?_
  have b941 := (b936.kp k937)
  refine ld (vi x_f.Tick) (wS h939) isAgg_3 b941 ?_
  refine cl (wS h939) (C_impl_within w8 x_f.Tick 0 1000000) ?_
  rintro _ w9 ⟨k942, rfl⟩
  have m943 := m938.extk k942
  refine pk (vb (F_impl_within x_f.Tick 0 1000000)) wN h939 ?_
  refine mv (vb (F_impl_within x_f.Tick 0 1000000)) wN ?_
  rcases bf (F_impl_within x_f.Tick 0 1000000) with h944 | h944
  ·have q959 := impl_within_f h944
   refine sk h944 ?_
   refine sk h944 ?_
   refine sk h944 ?_
   refine sk h944 ?_
   refine pf (vb false) wN h944 ?_
   refine mv (vb false) wN ?_
   refine sk (Eq.refl false) ?_
   refine sk (Eq.refl false) ?_
   refine sk (Eq.refl false) ?_
   refine sk (Eq.refl false) ?_
   refine pf (vb false) wN (Eq.refl false) ?_
   refine ag (vb false) wN ?_
   refine wl_nil <| wq_blk_normal <| wq_then <| sr ?_
   refine mv (vb false) wN ?_
   refine mv (vb false) wN ?_
   refine sk (Eq.refl false) ?_
   refine sk (Eq.refl false) ?_
   refine sk (Eq.refl false) ?_
   refine pf (vb false) wN (Eq.refl false) ?_
   refine ag (vb false) wN ?_
   refine wl_nil <| wq_then <| wc_ret ?_
   refine ret_1 (.inl rfl) (vb false) rfl rfl ?_
   refine ⟨m943.keep0, ?_⟩
   have hF960 : F_impl_FrameOk x_f = false := by simp only [F_impl_FrameOk, h48, h129, h385, h929, h934, h939, h944, cond_true, cond_false]
   rw [hF960]
   exact rfl
  have q945 := impl_within_t h944
  refine pu (vp g31 5) (wS h944) ?_
  have b946 := (b941.kp k942)
  refine ld (vs a11 x_f.Cookie.length c12) (wS h944) isAgg_22 b946 ?_
  refine ln (wS h944) slTy_22 (r13.from0 m943) ?_
  refine pu (vb (decide ((x_f.Cookie.length : Int) = 16))) (wS h944) ?_
  refine pk (vb (decide ((x_f.Cookie.length : Int) = 16))) wN h944 ?_
  refine mv (vb (decide ((x_f.Cookie.length : Int) = 16))) wN ?_
  rcases bf (decide ((x_f.Cookie.length : Int) = 16)) with h947 | h947
  ·have q957 := of_decide_eq_false h947
   refine sk h947 ?_
   refine sk h947 ?_
   refine sk h947 ?_
   refine sk h947 ?_
   refine pf (vb false) wN h947 ?_
   refine ag (vb false) wN ?_
   refine wl_nil <| wq_blk_normal <| wq_then <| sr ?_
   refine mv (vb false) wN ?_
   refine mv (vb false) wN ?_
   refine sk (Eq.refl false) ?_
   refine sk (Eq.refl false) ?_
   refine sk (Eq.refl false) ?_
   refine pf (vb false) wN (Eq.refl false) ?_
   refine ag (vb false) wN ?_
   refine wl_nil <| wq_then <| wc_ret ?_
   refine ret_1 (.inl rfl) (vb false) rfl rfl ?_
   refine ⟨m943.keep0, ?_⟩
   have hF958 : F_impl_FrameOk x_f = false := by simp only [F_impl_FrameOk, h48, h129, h385, h929, h934, h939, h944, h947, cond_true, cond_false]
   rw [hF958]
   exact rfl
  have q948 := of_decide_eq_true h947
  refine pu (vp g31 6) (wS h947) ?_
  refine ld (vs a16 x_f.Proof.length c17) (wS h947) isAgg_22 b946 ?_
  refine ln (wS h947) slTy_22 (r18.from0 m943) ?_
  refine pu (vb (decide ((x_f.Proof.length : Int) = 16))) (wS h947) ?_
  refine pk (vb (decide ((x_f.Proof.length : Int) = 16))) wN h947 ?_
  refine ag (vb (decide ((x_f.Proof.length : Int) = 16))) wN ?_
  refine wl_nil <| wq_blk_normal <| wq_then <| sr ?_
  refine mv (vb (decide ((x_f.Proof.length : Int) = 16))) wN ?_
  refine mv (vb (decide ((x_f.Proof.length : Int) = 16))) wN ?_
  rcases bf (decide ((x_f.Proof.length : Int) = 16)) with h949 | h949
  ·have q955 := of_decide_eq_false h949
   refine sk h949 ?_
   refine sk h949 ?_
   refine sk h949 ?_
   refine pf (vb false) wN h949 ?_
   refine ag (vb false) wN ?_
   refine wl_nil <| wq_then <| wc_ret ?_
   refine ret_1 (.inl rfl) (vb false) rfl rfl ?_
   refine ⟨m943.keep0, ?_⟩
   have hF956 : F_impl_FrameOk x_f = false := by simp only [F_impl_FrameOk, h48, h129, h385, h929, h934, h939, h944, h947, h949, cond_true, cond_false]
   rw [hF956]
   exact rfl
  have q950 := of_decide_eq_true h949
  refine lN (L_87 x_f a1 c2 a6 c7 a11 c12 a16 c17 a21 c22 a26 c27) (wS h949) isAgg_87 sizeOf_87 b946 ?_
  have b951 := ((((b923.kp k927).kp k932).kp k937).kp k942)
  refine lN [(vi x_f.Kind), (vi x_f.Id), (vs a1 x_f.Cn.length c2), (vs a6 x_f.Sn.length c7), (vi x_f.Tick), (vs a11 x_f.Cookie.length c12), (vs a16 x_f.Proof.length c17), (vi 0), (vi 0), (vs none 0 0), (vs none 0 0)] (wS h949) isAgg_87 sizeOf_87 b951 ?_
  refine cl (wS h949) (C_impl_sameFrame w9 _ x_f (mR_87 (r3.from0 m943) s4 (r8.from0 m943) s9 (r13.from0 m943) s14 (r18.from0 m943) s19 (r23.from0 m943) s24 (r28.from0 m943) s29) (va [(vi x_f.Kind), (vi x_f.Id), (vs a1 x_f.Cn.length c2), (vs a6 x_f.Sn.length c7), (vi x_f.Tick), (vs a11 x_f.Cookie.length c12), (vs a16 x_f.Proof.length c17), (vi 0), (vi 0), (vs none 0 0), (vs none 0 0)]) { Kind := x_f.Kind, Id := x_f.Id, Cn := x_f.Cn, Sn := x_f.Sn, Tick := x_f.Tick, Cookie := x_f.Cookie, Proof := x_f.Proof, Epoch := 0, Seq := 0, Body := [], Tag := [] : PFrame } (show R_87 w9 (va [(vi x_f.Kind), (vi x_f.Id), (vs a1 x_f.Cn.length c2), (vs a6 x_f.Sn.length c7), (vi x_f.Tick), (vs a11 x_f.Cookie.length c12), (vs a16 x_f.Proof.length c17), (vi 0), (vi 0), (vs none 0 0), (vs none 0 0)]) { Kind := x_f.Kind, Id := x_f.Id, Cn := x_f.Cn, Sn := x_f.Sn, Tick := x_f.Tick, Cookie := x_f.Cookie, Proof := x_f.Proof, Epoch := 0, Seq := 0, Body := [], Tag := [] : PFrame } from ⟨_, _, _, _, _, _, _, _, _, _, _, _, rfl, (r3.from0 m943), s4, (r8.from0 m943), s9, (r13.from0 m943), s14, (r18.from0 m943), s19, (Rd.nil _ _), (by simp), (Rd.nil _ _), (by simp)⟩)) ?_
  rintro _ w10 ⟨k952, rfl⟩
  have m953 := m943.extk k952
  refine pk (vb (F_impl_sameFrame x_f { Kind := x_f.Kind, Id := x_f.Id, Cn := x_f.Cn, Sn := x_f.Sn, Tick := x_f.Tick, Cookie := x_f.Cookie, Proof := x_f.Proof, Epoch := 0, Seq := 0, Body := [], Tag := [] : PFrame })) wN h949 ?_
  refine ag (vb (F_impl_sameFrame x_f { Kind := x_f.Kind, Id := x_f.Id, Cn := x_f.Cn, Sn := x_f.Sn, Tick := x_f.Tick, Cookie := x_f.Cookie, Proof := x_f.Proof, Epoch := 0, Seq := 0, Body := [], Tag := [] : PFrame })) wN ?_
  refine wl_nil <| wq_then <| wc_ret ?_
  refine ret_1 (.inl rfl) (vb (F_impl_sameFrame x_f { Kind := x_f.Kind, Id := x_f.Id, Cn := x_f.Cn, Sn := x_f.Sn, Tick := x_f.Tick, Cookie := x_f.Cookie, Proof := x_f.Proof, Epoch := 0, Seq := 0, Body := [], Tag := [] : PFrame })) rfl rfl ?_
  refine ⟨m953.keep0, ?_⟩
  have hF954 : F_impl_FrameOk x_f = (F_impl_sameFrame x_f { Kind := x_f.Kind, Id := x_f.Id, Cn := x_f.Cn, Sn := x_f.Sn, Tick := x_f.Tick, Cookie := x_f.Cookie, Proof := x_f.Proof, Epoch := 0, Seq := 0, Body := [], Tag := [] : PFrame }) := by simp only [F_impl_FrameOk, h48, h129, h385, h929, h934, h939, h944, h947, h949, cond_true, cond_false]
  rw [hF954]
  exact rfl

def F_impl_isRole (x_role : Int) : (Bool) := bif (decide (x_role = 0)) then (true) else (decide (x_role = 1))
theorem C_impl_isRole (w0 : World) (x_role : Int)  : Fn Try.prog 161 #[(vi x_role)] w0 (fun v w' => Keep w0 w' ∧ O_4 w' w0.heap.size v (F_impl_isRole x_role)) := by
 refine fn_of (n := 9) (l := [(vi x_role), U, U, U, U, U, U, U, U]) Try.func161 rfl rfl (by kernel_rfl) rfl ?_
 refine sr ?_
 refine ag (vb false) wN ?_
 refine nx ?_
 refine mv (vi x_role) wN ?_
 refine pu (vb (decide (x_role = 0))) wN ?_
 refine mv (vb (decide (x_role = 0))) wN ?_
 rcases bt (decide (x_role = 0)) with h1 | h1
 ·have q2 := of_decide_eq_true h1
  refine sk h1 ?_
  refine sk h1 ?_
  refine pk (vb true) wN h1 ?_
  refine ag (vb true) wN ?_
  refine wl_nil <| wq_then <| wc_ret ?_
  refine ret_1 (.inl rfl) (vb true) rfl rfl ?_
  refine ⟨Ch.refl _ _, ?_⟩
  have hF3 : F_impl_isRole x_role = true := by simp only [F_impl_isRole, h1, cond_true, cond_false]
  rw [hF3]
  exact rfl
 have q4 := of_decide_eq_false h1
 refine mv (vi x_role) (wS h1) ?_
 refine pu (vb (decide (x_role = 1))) (wS h1) ?_
 refine pf (vb (decide (x_role = 1))) wN h1 ?_
 refine ag (vb (decide (x_role = 1))) wN ?_
 refine wl_nil <| wq_then <| wc_ret ?_
 refine ret_1 (.inl rfl) (vb (decide (x_role = 1))) rfl rfl ?_
 refine ⟨Ch.refl _ _, ?_⟩
 have hF5 : F_impl_isRole x_role = decide (x_role = 1) := by simp only [F_impl_isRole, h1, cond_true, cond_false]
 rw [hF5]
 exact rfl

theorem C_impl_areWords (w0 : World) (v_x_l : Value) (x_l : List Int) (r_x_l : R_88 w0 v_x_l x_l) (x_n : Int)  : Fn Try.prog 185 #[v_x_l, (vi x_n)] w0 (fun v w' => Keep w0 w' ∧ O_4 w' w0.heap.size v (areW x_l x_n)) := by
 obtain ⟨a1, c2, rfl, r3, s4⟩ := r_x_l
 refine fn_of (n := 21) (l := [(vs a1 x_l.length c2), (vi x_n), U, U, U, U, U, U, U, U, U, U, U, U, U, U, U, U, U, U, U]) Try.func185 rfl rfl (by kernel_rfl) rfl ?_
 refine sr ?_
 refine ag (vb false) wN ?_
 refine wl_nil <| wq_then <| wc_seq <| sr ?_
 refine mv (vs a1 x_l.length c2) wN ?_
 refine ln wN slTy_88 r3 ?_
 refine mv (vi 0) wN ?_
 refine wl_nil <| wq_then <| wc_block ?_
 refine wc_norm [(vs a1 x_l.length c2), (vi x_n), U, U, (vb false), U, U, (vs a1 x_l.length c2), (vi (x_l.length : Int)), (vi 0), U, U, U, U, U, U, U, U, U, U, U] rfl ⟨rfl, rfl, rfl, rfl, rfl, rfl, rfl, rfl, rfl, rfl, rfl, rfl, rfl, rfl, rfl, rfl, rfl, rfl, rfl, rfl, rfl, trivial⟩ ?_
 refine wc_loop (fun e' w' => ∃ (k : Nat) (u4x u6x u10x u11x u12x u13x u14x u15x u16x : Value), e' = lst [(vs a1 x_l.length c2), (vi x_n), U, U, u4x, U, u6x, (vs a1 x_l.length c2), (vi (x_l.length : Int)), (vi ((k : Nat) : Int)), u10x, u11x, u12x, u13x, u14x, u15x, u16x, U, U, U, U] ∧ Ch (fun k => w0.heap.size ≤ k) w0 w' ∧ Ch (fun k => w0.heap.size ≤ k) w0 w' ∧ k ≤ x_l.length ∧ allW (x_l.take k) = true) (fun e' _ => x_l.length - ((intOf (e' 9))).toNat) ?_ ?_
 ·exact ⟨0, (vb false), U, U, U, U, U, U, U, U, (congrArg (fun (x9z : Value) => lst [(vs a1 x_l.length c2), (vi x_n), U, U, (vb false), U, U, (vs a1 x_l.length c2), (vi (x_l.length : Int)), x9z, U, U, U, U, U, U, U, U, U, U, U]) (congrArg (Value.int .i64) (show (0 : Int) = ((0 : Nat) : Int) by omega))), (Ch.base w0), (Ch.refl (fun k => w0.heap.size ≤ k) w0), (by omega), (by first | rfl | exact allW_next (by assumption) (by omega) (by assumption))⟩
 ·rintro _ w1 ⟨k, u4x, u6x, u10x, u11x, u12x, u13x, u14x, u15x, u16x, rfl, m6, k7, i8, i9⟩
  refine sr ?_
  refine pu (vb (decide (((k : Nat) : Int) < (x_l.length : Int)))) wN ?_
  refine wl_nil <| wq_then <| wc_seq ?_
  rcases bf (decide (((k : Nat) : Int) < (x_l.length : Int))) with h10 | h10
  ·have q18 := of_decide_eq_false h10
   refine cf h10 ?_
   refine wc_exit <| wq_then_exit <| wq_then_exit <| wq_blk_exit <| wq_then <| sr ?_
   refine mv (vs a1 x_l.length c2) wN ?_
   refine ln wN slTy_88 (r3.from0 m6) ?_
   refine mv (vi x_n) wN ?_
   refine pu (vb (decide ((x_l.length : Int) = x_n))) wN ?_
   refine ag (vb (decide ((x_l.length : Int) = x_n))) wN ?_
   refine wl_nil <| wq_then <| wc_ret ?_
   refine ret_1 (.inl rfl) (vb (decide ((x_l.length : Int) = x_n))) rfl rfl ?_
   refine ⟨m6.keep0, ?_⟩
   have hF19 : areW x_l x_n = decide ((x_l.length : Int) = x_n) := by first | (have hz := allW_no (x := x_l) (k := k) (by omega) (by assumption); simp [areW, hz]) | (have hz := allW_all (x := x_l) (k := k) (by assumption) (by omega); simp [areW, hz])
   rw [hF19]
   exact rfl
  have q11 := of_decide_eq_true h10
  refine ct h10 ?_
  refine wc_skip <| wq_then <| wc_seq <| wc_block <| sr ?_
  refine wl_index wN ((k : Nat) : Int) rfl rfl rfl slTy_88 rfl rfl (r3.from0 m6) (by first | omega | (simp only [List.length_cons, List.length_nil, List.length_replicate, List.length_append, List.length_take, List.length_set, List.length_map]; omega)) (by first | omega | (simp only [List.length_cons, List.length_nil, List.length_replicate, List.length_append, List.length_take, List.length_set, List.length_map]; omega)) ?_
  refine wl_loadE (iV (x_l.getD k 0)) wN rfl rfl rfl rfl isAgg_3 (r3.from0 m6) (iget (by simp) (by first | omega | (simp only [List.length_cons, List.length_nil, List.length_replicate, List.length_append, List.length_take, List.length_set, List.length_map]; omega))) ?_
  refine ag (vi (x_l.getD k 0)) wN ?_
  refine nx ?_
  refine mv (vi (x_l.getD k 0)) wN ?_
  refine cl wN (C_impl_within w1 (x_l.getD k 0) 0 4294967295) ?_
  rintro _ w2 ⟨k12, rfl⟩
  have m13 := m6.extk k12
  refine pu (vb (!(F_impl_within (x_l.getD k 0) 0 4294967295))) wN ?_
  refine wl_nil <| wq_then ?_
  rcases bf (F_impl_within (x_l.getD k 0) 0 4294967295) with h14 | h14
  ·have q16 := impl_within_f h14
   refine ct (congrArg not h14) ?_
   refine sr ?_
   refine ag (vb false) wN ?_
   refine wl_nil <| wq_then <| wc_ret <| wq_blk_ret <| wq_then_ret <| wq_then_ret <| wq_blk_ret <| wq_then_ret ?_
   refine ret_1 (.inl rfl) (vb false) rfl rfl ?_
   refine ⟨m13.keep0, ?_⟩
   have hF17 : areW x_l x_n = false := by first | (have hz := allW_no (x := x_l) (k := k) (by omega) (by assumption); simp [areW, hz]) | (have hz := allW_all (x := x_l) (k := k) (by assumption) (by omega); simp [areW, hz])
   rw [hF17]
   exact rfl
  have q15 := impl_within_t h14
  refine cf (congrArg not h14) ?_
  refine wc_skip <| wq_blk_normal <| wq_then <| wc_region ?_
  refine ar (((k : Nat) : Int) + 1) wN ?_
  refine mv (vi (((k : Nat) : Int) + 1)) wN ?_
  refine wl_nil ?_
  refine wq_loopN (w0 := w1) [(vs a1 x_l.length c2), (vi x_n), U, U, u4x, U, (vi (x_l.getD k 0)), (vs a1 x_l.length c2), (vi (x_l.length : Int)), (vi (((k + 1) : Nat) : Int)), (vb (decide (((k : Nat) : Int) < (x_l.length : Int)))), (ve (vs a1 x_l.length c2) ((((k : Nat) : Int)).toNat * 1)), (vi (x_l.getD k 0)), (vi (x_l.getD k 0)), (vb (F_impl_within (x_l.getD k 0) 0 4294967295)), (vb (!(F_impl_within (x_l.getD k 0) 0 4294967295))), (vi (((k : Nat) : Int) + 1)), U, U, U, U] rfl ?_ ?_ ?_
  · exact ⟨rfl, rfl, rfl, rfl, rfl, rfl, rfl, rfl, rfl, (congrArg (Value.int .i64) (show ((((k : Nat) : Int) + 1) : Int) = (((k + 1) : Nat) : Int) by omega)), rfl, rfl, rfl, rfl, rfl, rfl, rfl, rfl, rfl, rfl, rfl, trivial⟩
  · exact ⟨(k + 1), u4x, (vi (x_l.getD k 0)), (vb (decide (((k : Nat) : Int) < (x_l.length : Int)))), (ve (vs a1 x_l.length c2) ((((k : Nat) : Int)).toNat * 1)), (vi (x_l.getD k 0)), (vi (x_l.getD k 0)), (vb (F_impl_within (x_l.getD k 0) 0 4294967295)), (vb (!(F_impl_within (x_l.getD k 0) 0 4294967295))), (vi (((k : Nat) : Int) + 1)), rfl, m13, (((Ch.refl (fun k => w0.heap.size ≤ k) w0).ext k7 (fun k hk => Nat.le_trans (Nat.le_refl _) hk)).extk k12), (by omega), (by first | rfl | exact allW_next (by assumption) (by omega) (by assumption))⟩
  · show x_l.length - ((((k + 1) : Nat) : Int)).toNat < x_l.length - (((k : Nat) : Int)).toNat; omega

def F_impl_hasBit (x_w : PWin) (x_n : Int) : (Bool) := decide ((((x_w.Bits.getD (((x_n % 1024) / 32)).toNat 0) / (2 : Int) ^ ((x_n % 32)).toNat) % 2) = 1)
theorem C_impl_hasBit (w0 : World) (v_x_w : Value) (x_w : PWin) (r_x_w : R_90 w0 v_x_w x_w) (x_n : Int) (pre0 : x_w.Bits.length = 32) (pre1 : 0 ≤ x_n) : Fn Try.prog 186 #[v_x_w, (vi x_n)] w0 (fun v w' => Keep w0 w' ∧ O_4 w' w0.heap.size v (F_impl_hasBit x_w x_n)) := by
 obtain ⟨a1, c2, rfl, r3, s4⟩ := r_x_w
 refine fn_of (n := 17) (l := [(va (L_90 x_w a1 c2)), (vi x_n), U, U, U, U, U, U, U, U, U, U, U, U, U, U, U]) Try.func186 rfl rfl (by kernel_rfl) rfl ?_
 refine sr ?_
 refine bx (L_90 x_w a1 c2) wN ?_
 intro g6 w1 p7 p8 k9 b10
 have m11 := (Ch.base w0).extk k9
 refine ag (vb false) wN ?_
 refine nx ?_
 refine pu (vp g6 1) wN ?_
 refine ld (vs a1 x_w.Bits.length c2) wN isAgg_88 b10 ?_
 refine mv (vi x_n) wN ?_
 refine wl_rem x_n 1024 wN rfl rfl (by kernel_rfl) (by first | omega | assumption) ?_
 refine wl_quo (x_n % 1024) 32 wN rfl rfl (by kernel_rfl) (by omega) (by omega) (by omega) ?_
 refine wl_index wN ((x_n % 1024) / 32) rfl rfl rfl slTy_88 rfl rfl (r3.from0 m11) (by first | omega | (simp only [List.length_cons, List.length_nil, List.length_replicate, List.length_append, List.length_take, List.length_set, List.length_map]; omega)) (by first | omega | (simp only [List.length_cons, List.length_nil, List.length_replicate, List.length_append, List.length_take, List.length_set, List.length_map]; omega)) ?_
 refine wl_loadE (iV (x_w.Bits.getD (((x_n % 1024) / 32)).toNat 0)) wN rfl rfl rfl rfl isAgg_3 (r3.from0 m11) (iget (by simp) (by first | omega | (simp only [List.length_cons, List.length_nil, List.length_replicate, List.length_append, List.length_take, List.length_set, List.length_map]; omega))) ?_
 refine mv (vi x_n) wN ?_
 refine wl_rem x_n 32 wN rfl rfl (by kernel_rfl) (by first | omega | assumption) ?_
 refine wl_shr (x_w.Bits.getD (((x_n % 1024) / 32)).toNat 0) (x_n % 32) wN rfl rfl rfl rfl rfl (by omega) (by omega) ?_
 refine wl_and ((x_w.Bits.getD (((x_n % 1024) / 32)).toNat 0) / (2 : Int) ^ ((x_n % 32)).toNat) 1 2 1 wN rfl rfl (by decide) (by decide) (by decide) (by kernel_rfl) ?_
 refine pu (vb (decide ((((x_w.Bits.getD (((x_n % 1024) / 32)).toNat 0) / (2 : Int) ^ ((x_n % 32)).toNat) % 2) = 1))) wN ?_
 refine ag (vb (decide ((((x_w.Bits.getD (((x_n % 1024) / 32)).toNat 0) / (2 : Int) ^ ((x_n % 32)).toNat) % 2) = 1))) wN ?_
 refine wl_nil <| wq_then <| wc_ret ?_
 refine ret_1 (.inl rfl) (vb (decide ((((x_w.Bits.getD (((x_n % 1024) / 32)).toNat 0) / (2 : Int) ^ ((x_n % 32)).toNat) % 2) = 1))) rfl rfl ?_
 refine ⟨m11.keep0, ?_⟩
 have hF12 : F_impl_hasBit x_w x_n = decide ((((x_w.Bits.getD (((x_n % 1024) / 32)).toNat 0) / (2 : Int) ^ ((x_n % 32)).toNat) % 2) = 1) := by rfl
 rw [hF12]
 exact rfl

def iWin (w : PWin) : Bool := bif F_impl_within w.Top (-1) 281474976710655 then (bif areW w.Bits 32 then (bif noneIn (F_impl_hasBit w) (w.Top + 1) 1024 then (decide (w.Top = -1) || F_impl_hasBit w w.Top) else false) else false) else false
theorem C_impl_WinOk (w0 : World) (v_x_w : Value) (x_w : PWin) (r_x_w : R_90 w0 v_x_w x_w)  : Fn Try.prog 177 #[v_x_w] w0 (fun v w' => Keep w0 w' ∧ O_4 w' w0.heap.size v (iWin x_w)) := by
 obtain ⟨a1, c2, rfl, r3, s4⟩ := r_x_w
 refine fn_of (n := 33) (l := [(va (L_90 x_w a1 c2)), U, U, U, U, U, U, U, U, U, U, U, U, U, U, U, U, U, U, U, U, U, U, U, U, U, U, U, U, U, U, U, U]) Try.func177 rfl rfl (by kernel_rfl) rfl ?_
 refine sr ?_
 refine bx (L_90 x_w a1 c2) wN ?_
 intro g6 w1 p7 p8 k9 b10
 have m11 := (Ch.base w0).extk k9
 refine ag (vb false) wN ?_
 refine wl_nil <| wq_then <| wc_seq <| sr ?_
 refine pu (vp g6 0) wN ?_
 refine ld (vi x_w.Top) wN isAgg_3 b10 ?_
 refine cl wN (C_impl_within w1 x_w.Top (-1) 281474976710655) ?_
 rintro _ w2 ⟨k12, rfl⟩
 have m13 := m11.extk k12
 refine pu (vb (!(F_impl_within x_w.Top (-1) 281474976710655))) wN ?_
 refine mv (vb (!(F_impl_within x_w.Top (-1) 281474976710655))) wN ?_
 rcases bf (F_impl_within x_w.Top (-1) 281474976710655) with h14 | h14
 ·have q47 := impl_within_f h14
  refine sk (congrArg not h14) ?_
  refine sk (congrArg not h14) ?_
  refine sk (congrArg not h14) ?_
  refine sk (congrArg not h14) ?_
  refine pk (vb true) wN (congrArg not h14) ?_
  refine wl_nil <| wq_then ?_
  refine ct (Eq.refl true) ?_
  refine sr ?_
  refine ag (vb false) wN ?_
  refine wl_nil <| wq_then <| wc_ret <| wq_then_ret ?_
  refine ret_1 (.inl rfl) (vb false) rfl rfl ?_
  refine ⟨m13.keep0, ?_⟩
  have hF48 : iWin x_w = false := by first | (simp [iWin, h14]; done) | (have hz := noneIn_f (f := F_impl_hasBit x_w) (a := x_w.Top + 1) (b := 1024) (q := q) (by assumption) (by omega) (by omega); simp [iWin, h14, hz]; done) | (have hz := noneIn_t (f := F_impl_hasBit x_w) (a := x_w.Top + 1) (b := 1024) (q := q) (by assumption) (by omega); simp [iWin, h14, hz]; done)
  rw [hF48]
  exact rfl
 have q15 := impl_within_t h14
 refine pu (vp g6 1) (wS (congrArg not h14)) ?_
 have b16 := (b10.kp k12)
 refine ld (vs a1 x_w.Bits.length c2) (wS (congrArg not h14)) isAgg_88 b16 ?_
 refine cl (wS (congrArg not h14)) (C_impl_areWords w2 _ x_w.Bits (mR_88 (r3.from0 m13) s4) 32) ?_
 rintro _ w3 ⟨k17, rfl⟩
 have m18 := m13.extk k17
 refine pu (vb (!(areW x_w.Bits 32))) (wS (congrArg not h14)) ?_
 refine pf (vb (!(areW x_w.Bits 32))) wN (congrArg not h14) ?_
 refine wl_nil <| wq_then ?_
 rcases bf (areW x_w.Bits 32) with h19 | h19
 ·refine ct (congrArg not h19) ?_
  refine sr ?_
  refine ag (vb false) wN ?_
  refine wl_nil <| wq_then <| wc_ret <| wq_then_ret ?_
  refine ret_1 (.inl rfl) (vb false) rfl rfl ?_
  refine ⟨m18.keep0, ?_⟩
  have hF46 : iWin x_w = false := by first | (simp [iWin, h14, h19]; done) | (have hz := noneIn_f (f := F_impl_hasBit x_w) (a := x_w.Top + 1) (b := 1024) (q := q) (by assumption) (by omega) (by omega); simp [iWin, h14, h19, hz]; done) | (have hz := noneIn_t (f := F_impl_hasBit x_w) (a := x_w.Top + 1) (b := 1024) (q := q) (by assumption) (by omega); simp [iWin, h14, h19, hz]; done)
  rw [hF46]
  exact rfl
 have q20 := areW_t h19
 refine cf (congrArg not h19) ?_
 refine wc_skip <| wq_then <| wc_seq <| sr ?_
 refine pu (vp g6 0) wN ?_
 have b21 := (b16.kp k17)
 refine ld (vi x_w.Top) wN isAgg_3 b21 ?_
 refine ar (x_w.Top + 1) wN ?_
 refine ag (vi (x_w.Top + 1)) wN ?_
 refine wl_nil <| wq_then <| wc_block ?_
 refine wc_norm [(va (L_90 x_w a1 c2)), (vp g6 0), (vb false), (vi (x_w.Top + 1)), (vp g6 0), (vi x_w.Top), (vb (F_impl_within x_w.Top (-1) 281474976710655)), (vb (!(F_impl_within x_w.Top (-1) 281474976710655))), (vb (!(F_impl_within x_w.Top (-1) 281474976710655))), (vp g6 1), (vs a1 x_w.Bits.length c2), (vb (areW x_w.Bits 32)), (vb (!(areW x_w.Bits 32))), (vb (!(areW x_w.Bits 32))), (vp g6 0), (vi x_w.Top), (vi (x_w.Top + 1)), U, U, U, U, U, U, U, U, U, U, U, U, U, U, U, U] rfl ⟨rfl, rfl, rfl, rfl, rfl, rfl, rfl, rfl, rfl, rfl, rfl, rfl, rfl, rfl, rfl, rfl, rfl, rfl, rfl, rfl, rfl, rfl, rfl, rfl, rfl, rfl, rfl, rfl, rfl, rfl, rfl, rfl, rfl, trivial⟩ ?_
 refine wc_loop (fun e' w' => ∃ (q : Int) (u2x u17x u18x u19x u20x u21x u22x u23x : Value), e' = lst [(va (L_90 x_w a1 c2)), (vp g6 0), u2x, (vi q), (vp g6 0), (vi x_w.Top), (vb (F_impl_within x_w.Top (-1) 281474976710655)), (vb (!(F_impl_within x_w.Top (-1) 281474976710655))), (vb (!(F_impl_within x_w.Top (-1) 281474976710655))), (vp g6 1), (vs a1 x_w.Bits.length c2), (vb (areW x_w.Bits 32)), (vb (!(areW x_w.Bits 32))), (vb (!(areW x_w.Bits 32))), (vp g6 0), (vi x_w.Top), (vi (x_w.Top + 1)), u17x, u18x, u19x, u20x, u21x, u22x, u23x, U, U, U, U, U, U, U, U, U] ∧ Ch (fun k => w0.heap.size ≤ k) w0 w' ∧ Ch (fun k => w3.heap.size ≤ k) w3 w' ∧ x_w.Top + 1 ≤ q ∧ q ≤ 281474976710656 ∧ ∀ m : Int, x_w.Top + 1 ≤ m → m < q → F_impl_hasBit x_w m = false) (fun e' _ => (1024 - (intOf (e' 3))).toNat) ?_ ?_
 ·exact ⟨(x_w.Top + 1), (vb false), U, U, U, U, U, U, U, rfl, m18, (Ch.refl (fun k => w3.heap.size ≤ k) w3), (by omega), (by omega), (by first | (intro m h1 h2; omega) | exact none_next (by assumption) (by assumption))⟩
 ·rintro _ w4 ⟨q, u2x, u17x, u18x, u19x, u20x, u21x, u22x, u23x, rfl, m22, k23, i24, i25, i26⟩
  refine wc_seq <| sr ?_
  refine mv (vi q) wN ?_
  refine pu (vb (decide (q < 1024))) wN ?_
  refine wl_nil <| wq_then ?_
  rcases bf (decide (q < 1024)) with h27 | h27
  ·have q36 := of_decide_eq_false h27
   refine cf h27 ?_
   refine wc_exit <| wq_then_exit <| wq_then_exit <| wq_blk_exit <| wq_then <| sr ?_
   refine pu (vp g6 0) wN ?_
   have b37 := (b21.ch k23 (Nat.not_le.2 (Nat.lt_of_lt_of_le p8 (Nat.le_trans k12.size k17.size))))
   refine ld (vi x_w.Top) wN isAgg_3 b37 ?_
   refine pu (vb (decide (x_w.Top = (-1)))) wN ?_
   refine mv (vb (decide (x_w.Top = (-1)))) wN ?_
   rcases bt (decide (x_w.Top = (-1))) with h38 | h38
   ·have q39 := of_decide_eq_true h38
    refine sk h38 ?_
    refine sk h38 ?_
    refine sk h38 ?_
    refine sk h38 ?_
    refine pk (vb true) wN h38 ?_
    refine ag (vb true) wN ?_
    refine wl_nil <| wq_then <| wc_ret ?_
    refine ret_1 (.inl rfl) (vb true) rfl rfl ?_
    refine ⟨m22.keep0, ?_⟩
    have hF40 : iWin x_w = true := by first | (simp [iWin, h14, h19, h27, h38]; done) | (have hz := noneIn_f (f := F_impl_hasBit x_w) (a := x_w.Top + 1) (b := 1024) (q := q) (by assumption) (by omega) (by omega); simp [iWin, h14, h19, h27, h38, hz]; done) | (have hz := noneIn_t (f := F_impl_hasBit x_w) (a := x_w.Top + 1) (b := 1024) (q := q) (by assumption) (by omega); simp [iWin, h14, h19, h27, h38, hz]; done)
    rw [hF40]
    exact rfl
   have q41 := of_decide_eq_false h38
   refine lN (L_90 x_w a1 c2) (wS h38) isAgg_90 sizeOf_90 b37 ?_
   refine pu (vp g6 0) (wS h38) ?_
   refine ld (vi x_w.Top) (wS h38) isAgg_3 b37 ?_
   refine cl (wS h38) (C_impl_hasBit w4 _ x_w (mR_90 (r3.from0 m22) s4) x_w.Top (by first | assumption | omega) (by first | assumption | omega)) ?_
   rintro _ w5 ⟨k42, rfl⟩
   have m43 := m22.extk k42
   refine pf (vb (F_impl_hasBit x_w x_w.Top)) wN h38 ?_
   refine ag (vb (F_impl_hasBit x_w x_w.Top)) wN ?_
   refine wl_nil <| wq_then <| wc_ret ?_
   refine ret_1 (.inl rfl) (vb (F_impl_hasBit x_w x_w.Top)) rfl rfl ?_
   refine ⟨m43.keep0, ?_⟩
   have hF44 : iWin x_w = (F_impl_hasBit x_w x_w.Top) := by first | (simp [iWin, h14, h19, h27, h38]; done) | (have hz := noneIn_f (f := F_impl_hasBit x_w) (a := x_w.Top + 1) (b := 1024) (q := q) (by assumption) (by omega) (by omega); simp [iWin, h14, h19, h27, h38, hz]; done) | (have hz := noneIn_t (f := F_impl_hasBit x_w) (a := x_w.Top + 1) (b := 1024) (q := q) (by assumption) (by omega); simp [iWin, h14, h19, h27, h38, hz]; done)
   rw [hF44]
   exact rfl
  have q28 := of_decide_eq_true h27
  refine ct h27 ?_
  refine wc_skip <| wq_then <| wc_seq <| wc_block <| sr ?_
  have b29 := (b21.ch k23 (Nat.not_le.2 (Nat.lt_of_lt_of_le p8 (Nat.le_trans k12.size k17.size))))
  refine lN (L_90 x_w a1 c2) wN isAgg_90 sizeOf_90 b29 ?_
  refine mv (vi q) wN ?_
  refine cl wN (C_impl_hasBit w4 _ x_w (mR_90 (r3.from0 m22) s4) q (by first | assumption | omega) (by first | assumption | omega)) ?_
  rintro _ w5 ⟨k30, rfl⟩
  have m31 := m22.extk k30
  refine wl_nil <| wq_then ?_
  rcases bt (F_impl_hasBit x_w q) with h32 | h32
  ·refine ct h32 ?_
   refine sr ?_
   refine ag (vb false) wN ?_
   refine wl_nil <| wq_then <| wc_ret <| wq_blk_ret <| wq_then_ret <| wq_then_ret <| wq_blk_ret <| wq_then_ret ?_
   refine ret_1 (.inl rfl) (vb false) rfl rfl ?_
   refine ⟨m31.keep0, ?_⟩
   have hF34 : iWin x_w = false := by first | (simp [iWin, h14, h19, h27, h32]; done) | (have hz := noneIn_f (f := F_impl_hasBit x_w) (a := x_w.Top + 1) (b := 1024) (q := q) (by assumption) (by omega) (by omega); simp [iWin, h14, h19, h27, h32, hz]; done) | (have hz := noneIn_t (f := F_impl_hasBit x_w) (a := x_w.Top + 1) (b := 1024) (q := q) (by assumption) (by omega); simp [iWin, h14, h19, h27, h32, hz]; done)
   rw [hF34]
   exact rfl
  refine cf h32 ?_
  refine wc_skip <| wq_blk_normal <| wq_then <| wc_region ?_
  refine mv (vi q) wN ?_
  refine ar (q + 1) wN ?_
  refine ag (vi (q + 1)) wN ?_
  refine wl_nil ?_
  refine wq_loopN (w0 := w4) [(va (L_90 x_w a1 c2)), (vp g6 0), u2x, (vi (q + 1)), (vp g6 0), (vi x_w.Top), (vb (F_impl_within x_w.Top (-1) 281474976710655)), (vb (!(F_impl_within x_w.Top (-1) 281474976710655))), (vb (!(F_impl_within x_w.Top (-1) 281474976710655))), (vp g6 1), (vs a1 x_w.Bits.length c2), (vb (areW x_w.Bits 32)), (vb (!(areW x_w.Bits 32))), (vb (!(areW x_w.Bits 32))), (vp g6 0), (vi x_w.Top), (vi (x_w.Top + 1)), (vi q), (vb (decide (q < 1024))), (vi q), (vi (q + 1)), (va (L_90 x_w a1 c2)), (vi q), (vb (F_impl_hasBit x_w q)), U, U, U, U, U, U, U, U, U] rfl ?_ ?_ ?_
  · exact ⟨rfl, rfl, rfl, rfl, rfl, rfl, rfl, rfl, rfl, rfl, rfl, rfl, rfl, rfl, rfl, rfl, rfl, rfl, rfl, rfl, rfl, rfl, rfl, rfl, rfl, rfl, rfl, rfl, rfl, rfl, rfl, rfl, rfl, trivial⟩
  · exact ⟨(q + 1), u2x, (vi q), (vb (decide (q < 1024))), (vi q), (vi (q + 1)), (va (L_90 x_w a1 c2)), (vi q), (vb (F_impl_hasBit x_w q)), rfl, m31, (((Ch.refl (fun k => w3.heap.size ≤ k) w3).ext k23 (fun k hk => Nat.le_trans (Nat.le_refl _) hk)).extk k30), (by omega), (by omega), (by first | (intro m h1 h2; omega) | exact none_next (by assumption) (by assumption))⟩
  · show (1024 - (q + 1)).toNat < (1024 - q).toNat; omega

def F_impl_EpOk (x_e : PEp) : (Bool) := bif (F_impl_within x_e.N 0 4294967295) then (bif (decide ((x_e.Key.length : Int) = 32)) then (bif (F_impl_within x_e.Seq 0 281474976710656) then ((iWin x_e.Win)) else (false)) else (false)) else (false)
theorem C_impl_EpOk (w0 : World) (v_x_e : Value) (x_e : PEp) (r_x_e : R_92 w0 v_x_e x_e)  : Fn Try.prog 162 #[v_x_e] w0 (fun v w' => Keep w0 w' ∧ O_4 w' w0.heap.size v (F_impl_EpOk x_e)) := by
 obtain ⟨a1, c2, a6, c7, rfl, r3, s4, r8, s9⟩ := r_x_e
 refine fn_of (n := 22) (l := [(va (L_92 x_e a1 c2 a6 c7)), U, U, U, U, U, U, U, U, U, U, U, U, U, U, U, U, U, U, U, U, U]) Try.func162 rfl rfl (by kernel_rfl) rfl ?_
 refine sr ?_
 refine bx (L_92 x_e a1 c2 a6 c7) wN ?_
 intro g11 w1 p12 p13 k14 b15
 have m16 := (Ch.base w0).extk k14
 refine ag (vb false) wN ?_
 refine nx ?_
 refine pu (vp g11 0) wN ?_
 refine ld (vi x_e.N) wN isAgg_3 b15 ?_
 refine cl wN (C_impl_within w1 x_e.N 0 4294967295) ?_
 rintro _ w2 ⟨k17, rfl⟩
 have m18 := m16.extk k17
 refine mv (vb (F_impl_within x_e.N 0 4294967295)) wN ?_
 rcases bf (F_impl_within x_e.N 0 4294967295) with h19 | h19
 ·have q36 := impl_within_f h19
  refine sk h19 ?_
  refine sk h19 ?_
  refine sk h19 ?_
  refine sk h19 ?_
  refine pf (vb false) wN h19 ?_
  refine mv (vb false) wN ?_
  refine sk (Eq.refl false) ?_
  refine sk (Eq.refl false) ?_
  refine sk (Eq.refl false) ?_
  refine pf (vb false) wN (Eq.refl false) ?_
  refine mv (vb false) wN ?_
  refine sk (Eq.refl false) ?_
  refine sk (Eq.refl false) ?_
  refine sk (Eq.refl false) ?_
  refine pf (vb false) wN (Eq.refl false) ?_
  refine ag (vb false) wN ?_
  refine wl_nil <| wq_then <| wc_ret ?_
  refine ret_1 (.inl rfl) (vb false) rfl rfl ?_
  refine ⟨m18.keep0, ?_⟩
  have hF37 : F_impl_EpOk x_e = false := by simp only [F_impl_EpOk, h19, cond_true, cond_false]
  rw [hF37]
  exact rfl
 have q20 := impl_within_t h19
 refine pu (vp g11 1) (wS h19) ?_
 have b21 := (b15.kp k17)
 refine ld (vs a1 x_e.Key.length c2) (wS h19) isAgg_22 b21 ?_
 refine ln (wS h19) slTy_22 (r3.from0 m18) ?_
 refine pu (vb (decide ((x_e.Key.length : Int) = 32))) (wS h19) ?_
 refine pk (vb (decide ((x_e.Key.length : Int) = 32))) wN h19 ?_
 refine mv (vb (decide ((x_e.Key.length : Int) = 32))) wN ?_
 rcases bf (decide ((x_e.Key.length : Int) = 32)) with h22 | h22
 ·have q34 := of_decide_eq_false h22
  refine sk h22 ?_
  refine sk h22 ?_
  refine sk h22 ?_
  refine pf (vb false) wN h22 ?_
  refine mv (vb false) wN ?_
  refine sk (Eq.refl false) ?_
  refine sk (Eq.refl false) ?_
  refine sk (Eq.refl false) ?_
  refine pf (vb false) wN (Eq.refl false) ?_
  refine ag (vb false) wN ?_
  refine wl_nil <| wq_then <| wc_ret ?_
  refine ret_1 (.inl rfl) (vb false) rfl rfl ?_
  refine ⟨m18.keep0, ?_⟩
  have hF35 : F_impl_EpOk x_e = false := by simp only [F_impl_EpOk, h19, h22, cond_true, cond_false]
  rw [hF35]
  exact rfl
 have q23 := of_decide_eq_true h22
 refine pu (vp g11 2) (wS h22) ?_
 refine ld (vi x_e.Seq) (wS h22) isAgg_3 b21 ?_
 refine cl (wS h22) (C_impl_within w2 x_e.Seq 0 281474976710656) ?_
 rintro _ w3 ⟨k24, rfl⟩
 have m25 := m18.extk k24
 refine pk (vb (F_impl_within x_e.Seq 0 281474976710656)) wN h22 ?_
 refine mv (vb (F_impl_within x_e.Seq 0 281474976710656)) wN ?_
 rcases bf (F_impl_within x_e.Seq 0 281474976710656) with h26 | h26
 ·have q32 := impl_within_f h26
  refine sk h26 ?_
  refine sk h26 ?_
  refine sk h26 ?_
  refine pf (vb false) wN h26 ?_
  refine ag (vb false) wN ?_
  refine wl_nil <| wq_then <| wc_ret ?_
  refine ret_1 (.inl rfl) (vb false) rfl rfl ?_
  refine ⟨m25.keep0, ?_⟩
  have hF33 : F_impl_EpOk x_e = false := by simp only [F_impl_EpOk, h19, h22, h26, cond_true, cond_false]
  rw [hF33]
  exact rfl
 have q27 := impl_within_t h26
 refine pu (vp g11 3) (wS h26) ?_
 have b28 := (b21.kp k24)
 refine lN (L_90 x_e.Win a6 c7) (wS h26) isAgg_90 sizeOf_90 b28 ?_
 refine cl (wS h26) (C_impl_WinOk w3 _ x_e.Win (mR_90 (r8.from0 m25) s9)) ?_
 rintro _ w4 ⟨k29, rfl⟩
 have m30 := m25.extk k29
 refine pk (vb (iWin x_e.Win)) wN h26 ?_
 refine ag (vb (iWin x_e.Win)) wN ?_
 refine wl_nil <| wq_then <| wc_ret ?_
 refine ret_1 (.inl rfl) (vb (iWin x_e.Win)) rfl rfl ?_
 refine ⟨m30.keep0, ?_⟩
 have hF31 : F_impl_EpOk x_e = (iWin x_e.Win) := by simp only [F_impl_EpOk, h19, h22, h26, cond_true, cond_false]
 rw [hF31]
 exact rfl
theorem impl_EpOk_t {e : PEp} (h : F_impl_EpOk e = true) : 0 ≤ e.N ∧ e.N ≤ 4294967295 ∧ (e.Key.length : Int) = 32 := by
  cases h1 : F_impl_within e.N 0 4294967295 with
  | false => simp [F_impl_EpOk, h1] at h
  | true =>
    have := impl_within_t h1
    by_cases h2 : (e.Key.length : Int) = 32
    · exact ⟨this.1, this.2, h2⟩
    · simp [F_impl_EpOk, h1, h2] at h

def F_impl_oldOk (x_c : PChan) : (Bool) := bif x_c.HasOld then (bif (F_impl_EpOk x_c.Old) then (bif (decide (x_c.Old.N = (x_c.Cur.N - 1))) then (bif (F_impl_within x_c.Until 0 1000005) then (true) else (bif (decide (x_c.Until = (-1))) then (decide (x_c.Role = 1)) else (false))) else (false)) else (false)) else (bif (F_impl_sameEp x_c.Old { N := 0, Key := [], Seq := 0, Win := { Top := 0, Bits := [] : PWin } : PEp }) then (decide (x_c.Until = 0)) else (false))
theorem C_impl_oldOk (w0 : World) (v_x_c : Value) (x_c : PChan) (r_x_c : R_94 w0 v_x_c x_c) (pre0 : 0 ≤ x_c.Cur.N) (pre1 : x_c.Cur.N ≤ 4294967295) : Fn Try.prog 163 #[v_x_c] w0 (fun v w' => Keep w0 w' ∧ O_4 w' w0.heap.size v (F_impl_oldOk x_c)) := by
 obtain ⟨a1, c2, a6, c7, a11, c12, a16, c17, a21, c22, a26, c27, rfl, r3, s4, r8, s9, r13, s14, r18, s19, r23, s24, r28, s29⟩ := r_x_c
 refine fn_of (n := 42) (l := [(va (L_94 x_c a1 c2 a6 c7 a11 c12 a16 c17 a21 c22 a26 c27)), U, U, U, U, U, U, U, U, U, U, U, U, U, U, U, U, U, U, U, U, U, U, U, U, U, U, U, U, U, U, U, U, U, U, U, U, U, U, U, U, U]) Try.func163 rfl rfl (by kernel_rfl) rfl ?_
 refine sr ?_
 refine bx (L_94 x_c a1 c2 a6 c7 a11 c12 a16 c17 a21 c22 a26 c27) wN ?_
 intro g31 w1 p32 p33 k34 b35
 have m36 := (Ch.base w0).extk k34
 refine ag (vb false) wN ?_
 refine wl_nil <| wq_then <| wc_seq <| sr ?_
 refine pu (vp g31 12) wN ?_
 refine ld (vb x_c.HasOld) wN isAgg_4 b35 ?_
 refine pu (vb (!x_c.HasOld)) wN ?_
 refine wl_nil <| wq_then ?_
 rcases bf x_c.HasOld with h37 | h37
 ·refine ct (congrArg not h37) ?_
  refine sr ?_
  refine pu (vp g31 7) wN ?_
  refine lN (L_92 x_c.Old a16 c17 a21 c22) wN isAgg_92 sizeOf_92 b35 ?_
  refine pu (va [(vi 0), (vs none 0 0), (vi 0), (vi 0), (vs none 0 0)]) wN ?_
  refine cl wN (C_impl_sameEp w1 _ x_c.Old (mR_92 (r18.from0 m36) s19 (r23.from0 m36) s24) (va [(vi 0), (vs none 0 0), (vi 0), (vi 0), (vs none 0 0)]) { N := 0, Key := [], Seq := 0, Win := { Top := 0, Bits := [] : PWin } : PEp } (show R_92 w1 (va [(vi 0), (vs none 0 0), (vi 0), (vi 0), (vs none 0 0)]) { N := 0, Key := [], Seq := 0, Win := { Top := 0, Bits := [] : PWin } : PEp } from ⟨_, _, _, _, rfl, (Rd.nil _ _), (by simp), (Rd.nil _ _), (by simp)⟩)) ?_
  rintro _ w2 ⟨k63, rfl⟩
  have m64 := m36.extk k63
  refine mv (vb (F_impl_sameEp x_c.Old { N := 0, Key := [], Seq := 0, Win := { Top := 0, Bits := [] : PWin } : PEp })) wN ?_
  rcases bf (F_impl_sameEp x_c.Old { N := 0, Key := [], Seq := 0, Win := { Top := 0, Bits := [] : PWin } : PEp }) with h65 | h65
  ·refine sk h65 ?_
   refine sk h65 ?_
   refine sk h65 ?_
   refine pf (vb false) wN h65 ?_
   refine ag (vb false) wN ?_
   refine wl_nil <| wq_then <| wc_ret <| wq_then_ret ?_
   refine ret_1 (.inl rfl) (vb false) rfl rfl ?_
   refine ⟨m64.keep0, ?_⟩
   have hF70 : F_impl_oldOk x_c = false := by simp only [F_impl_oldOk, h37, h65, cond_true, cond_false]
   rw [hF70]
   exact rfl
  refine pu (vp g31 13) (wS h65) ?_
  have b67 := (b35.kp k63)
  refine ld (vi x_c.Until) (wS h65) isAgg_3 b67 ?_
  refine pu (vb (decide (x_c.Until = 0))) (wS h65) ?_
  refine pk (vb (decide (x_c.Until = 0))) wN h65 ?_
  refine ag (vb (decide (x_c.Until = 0))) wN ?_
  refine wl_nil <| wq_then <| wc_ret <| wq_then_ret ?_
  refine ret_1 (.inl rfl) (vb (decide (x_c.Until = 0))) rfl rfl ?_
  refine ⟨m64.keep0, ?_⟩
  have hF68 : F_impl_oldOk x_c = decide (x_c.Until = 0) := by simp only [F_impl_oldOk, h37, h65, cond_true, cond_false]
  rw [hF68]
  exact rfl
 refine cf (congrArg not h37) ?_
 refine wc_skip <| wq_then <| wc_seq <| sr ?_
 refine pu (vp g31 7) wN ?_
 refine lN (L_92 x_c.Old a16 c17 a21 c22) wN isAgg_92 sizeOf_92 b35 ?_
 refine cl wN (C_impl_EpOk w1 _ x_c.Old (mR_92 (r18.from0 m36) s19 (r23.from0 m36) s24)) ?_
 rintro _ w2 ⟨k39, rfl⟩
 have m40 := m36.extk k39
 refine pu (vb (!(F_impl_EpOk x_c.Old))) wN ?_
 refine mv (vb (!(F_impl_EpOk x_c.Old))) wN ?_
 rcases bf (F_impl_EpOk x_c.Old) with h41 | h41
 ·refine sk (congrArg not h41) ?_
  refine sk (congrArg not h41) ?_
  refine sk (congrArg not h41) ?_
  refine sk (congrArg not h41) ?_
  refine sk (congrArg not h41) ?_
  refine sk (congrArg not h41) ?_
  refine sk (congrArg not h41) ?_
  refine sk (congrArg not h41) ?_
  refine pk (vb true) wN (congrArg not h41) ?_
  refine wl_nil <| wq_then ?_
  refine ct (Eq.refl true) ?_
  refine sr ?_
  refine ag (vb false) wN ?_
  refine wl_nil <| wq_then <| wc_ret <| wq_then_ret ?_
  refine ret_1 (.inl rfl) (vb false) rfl rfl ?_
  refine ⟨m40.keep0, ?_⟩
  have hF61 : F_impl_oldOk x_c = false := by simp only [F_impl_oldOk, h37, h41, cond_true, cond_false]
  rw [hF61]
  exact rfl
 have q42 := impl_EpOk_t h41
 refine pu (vp g31 7) (wS (congrArg not h41)) ?_
 refine pu (vp g31 7) (wS (congrArg not h41)) ?_
 have b43 := (b35.kp k39)
 refine ld (vi x_c.Old.N) (wS (congrArg not h41)) isAgg_3 b43 ?_
 refine pu (vp g31 2) (wS (congrArg not h41)) ?_
 refine pu (vp g31 2) (wS (congrArg not h41)) ?_
 refine ld (vi x_c.Cur.N) (wS (congrArg not h41)) isAgg_3 b43 ?_
 refine ar (x_c.Cur.N - 1) (wS (congrArg not h41)) ?_
 refine pu (vb (!(decide (x_c.Old.N = (x_c.Cur.N - 1))))) (wS (congrArg not h41)) ?_
 refine pf (vb (!(decide (x_c.Old.N = (x_c.Cur.N - 1))))) wN (congrArg not h41) ?_
 refine wl_nil <| wq_then ?_
 rcases bf (decide (x_c.Old.N = (x_c.Cur.N - 1))) with h44 | h44
 ·have q58 := of_decide_eq_false h44
  refine ct (congrArg not h44) ?_
  refine sr ?_
  refine ag (vb false) wN ?_
  refine wl_nil <| wq_then <| wc_ret <| wq_then_ret ?_
  refine ret_1 (.inl rfl) (vb false) rfl rfl ?_
  refine ⟨m40.keep0, ?_⟩
  have hF59 : F_impl_oldOk x_c = false := by simp only [F_impl_oldOk, h37, h41, h44, cond_true, cond_false]
  rw [hF59]
  exact rfl
 have q45 := of_decide_eq_true h44
 refine cf (congrArg not h44) ?_
 refine wc_skip <| wq_then <| sr ?_
 refine pu (vp g31 13) wN ?_
 refine ld (vi x_c.Until) wN isAgg_3 b43 ?_
 refine cl wN (C_impl_within w2 x_c.Until 0 1000005) ?_
 rintro _ w3 ⟨k46, rfl⟩
 have m47 := m40.extk k46
 refine mv (vb (F_impl_within x_c.Until 0 1000005)) wN ?_
 rcases bt (F_impl_within x_c.Until 0 1000005) with h48 | h48
 ·have q49 := impl_within_t h48
  refine sk h48 ?_
  refine sk h48 ?_
  refine sk h48 ?_
  refine sk h48 ?_
  refine su ?_
  refine su ?_
  refine su ?_
  refine sk h48 ?_
  refine pk (vb true) wN h48 ?_
  refine ag (vb true) wN ?_
  refine wl_nil <| wq_then <| wc_ret ?_
  refine ret_1 (.inl rfl) (vb true) rfl rfl ?_
  refine ⟨m47.keep0, ?_⟩
  have hF50 : F_impl_oldOk x_c = true := by simp only [F_impl_oldOk, h37, h41, h44, h48, cond_true, cond_false]
  rw [hF50]
  exact rfl
 have q51 := impl_within_f h48
 refine pu (vp g31 13) (wS h48) ?_
 have b52 := (b43.kp k46)
 refine ld (vi x_c.Until) (wS h48) isAgg_3 b52 ?_
 refine pu (vb (decide (x_c.Until = (-1)))) (wS h48) ?_
 refine mv (vb (decide (x_c.Until = (-1)))) (wS h48) ?_
 rcases bf (decide (x_c.Until = (-1))) with h53 | h53
 ·have q56 := of_decide_eq_false h53
  refine sk h53 ?_
  refine sk h53 ?_
  refine sk h53 ?_
  refine pf (vb false) (wS h48) h53 ?_
  refine pf (vb false) wN h48 ?_
  refine ag (vb false) wN ?_
  refine wl_nil <| wq_then <| wc_ret ?_
  refine ret_1 (.inl rfl) (vb false) rfl rfl ?_
  refine ⟨m47.keep0, ?_⟩
  have hF57 : F_impl_oldOk x_c = false := by simp only [F_impl_oldOk, h37, h41, h44, h48, h53, cond_true, cond_false]
  rw [hF57]
  exact rfl
 have q54 := of_decide_eq_true h53
 refine pu (vp g31 0) (wS h53) ?_
 refine ld (vi x_c.Role) (wS h53) isAgg_3 b52 ?_
 refine pu (vb (decide (x_c.Role = 1))) (wS h53) ?_
 refine pk (vb (decide (x_c.Role = 1))) (wS h48) h53 ?_
 refine pf (vb (decide (x_c.Role = 1))) wN h48 ?_
 refine ag (vb (decide (x_c.Role = 1))) wN ?_
 refine wl_nil <| wq_then <| wc_ret ?_
 refine ret_1 (.inl rfl) (vb (decide (x_c.Role = 1))) rfl rfl ?_
 refine ⟨m47.keep0, ?_⟩
 have hF55 : F_impl_oldOk x_c = decide (x_c.Role = 1) := by simp only [F_impl_oldOk, h37, h41, h44, h48, h53, cond_true, cond_false]
 rw [hF55]
 exact rfl

def F_impl_ChanOk (x_c : PChan) : (Bool) := bif (F_impl_isRole x_c.Role) then (bif (F_impl_isNonce x_c.Sn) then (bif (F_impl_EpOk x_c.Cur) then (bif (F_impl_oldOk x_c) then (bif (decide ((x_c.Next.length : Int) = 0)) then (true) else (bif (decide (x_c.Role = 0)) then (bif (decide ((x_c.Next.length : Int) = 32)) then (decide (x_c.Cur.N < 4294967295)) else (false)) else (false))) else (false)) else (false)) else (false)) else (false)
theorem C_impl_ChanOk (w0 : World) (v_x_c : Value) (x_c : PChan) (r_x_c : R_94 w0 v_x_c x_c)  : Fn Try.prog 141 #[v_x_c] w0 (fun v w' => Keep w0 w' ∧ O_4 w' w0.heap.size v (F_impl_ChanOk x_c)) := by
 obtain ⟨a1, c2, a6, c7, a11, c12, a16, c17, a21, c22, a26, c27, rfl, r3, s4, r8, s9, r13, s14, r18, s19, r23, s24, r28, s29⟩ := r_x_c
 refine fn_of (n := 45) (l := [(va (L_94 x_c a1 c2 a6 c7 a11 c12 a16 c17 a21 c22 a26 c27)), U, U, U, U, U, U, U, U, U, U, U, U, U, U, U, U, U, U, U, U, U, U, U, U, U, U, U, U, U, U, U, U, U, U, U, U, U, U, U, U, U, U, U, U]) Try.func141 rfl rfl (by kernel_rfl) rfl ?_
 refine sr ?_
 refine bx (L_94 x_c a1 c2 a6 c7 a11 c12 a16 c17 a21 c22 a26 c27) wN ?_
 intro g31 w1 p32 p33 k34 b35
 have m36 := (Ch.base w0).extk k34
 refine ag (vb false) wN ?_
 refine wl_nil <| wq_then <| wc_seq <| sr ?_
 refine pu (vp g31 0) wN ?_
 refine ld (vi x_c.Role) wN isAgg_3 b35 ?_
 refine cl wN (C_impl_isRole w1 x_c.Role) ?_
 rintro _ w2 ⟨k37, rfl⟩
 have m38 := m36.extk k37
 refine pu (vb (!(F_impl_isRole x_c.Role))) wN ?_
 refine mv (vb (!(F_impl_isRole x_c.Role))) wN ?_
 rcases bf (F_impl_isRole x_c.Role) with h39 | h39
 ·refine sk (congrArg not h39) ?_
  refine sk (congrArg not h39) ?_
  refine sk (congrArg not h39) ?_
  refine sk (congrArg not h39) ?_
  refine pk (vb true) wN (congrArg not h39) ?_
  refine mv (vb true) wN ?_
  refine sk (Eq.refl true) ?_
  refine sk (Eq.refl true) ?_
  refine sk (Eq.refl true) ?_
  refine sk (Eq.refl true) ?_
  refine pk (vb true) wN (Eq.refl true) ?_
  refine mv (vb true) wN ?_
  refine sk (Eq.refl true) ?_
  refine sk (Eq.refl true) ?_
  refine sk (Eq.refl true) ?_
  refine pk (vb true) wN (Eq.refl true) ?_
  refine wl_nil <| wq_then ?_
  refine ct (Eq.refl true) ?_
  refine sr ?_
  refine ag (vb false) wN ?_
  refine wl_nil <| wq_then <| wc_ret <| wq_then_ret ?_
  refine ret_1 (.inl rfl) (vb false) rfl rfl ?_
  refine ⟨m38.keep0, ?_⟩
  have hF77 : F_impl_ChanOk x_c = false := by simp only [F_impl_ChanOk, h39, cond_true, cond_false]
  rw [hF77]
  exact rfl
 refine pu (vp g31 1) (wS (congrArg not h39)) ?_
 have b41 := (b35.kp k37)
 refine ld (vs a1 x_c.Sn.length c2) (wS (congrArg not h39)) isAgg_22 b41 ?_
 refine cl (wS (congrArg not h39)) (C_impl_isNonce w2 _ x_c.Sn (mR_22 (r3.from0 m38) s4)) ?_
 rintro _ w3 ⟨k42, rfl⟩
 have m43 := m38.extk k42
 refine pu (vb (!(F_impl_isNonce x_c.Sn))) (wS (congrArg not h39)) ?_
 refine pf (vb (!(F_impl_isNonce x_c.Sn))) wN (congrArg not h39) ?_
 refine mv (vb (!(F_impl_isNonce x_c.Sn))) wN ?_
 rcases bf (F_impl_isNonce x_c.Sn) with h44 | h44
 ·refine sk (congrArg not h44) ?_
  refine sk (congrArg not h44) ?_
  refine sk (congrArg not h44) ?_
  refine sk (congrArg not h44) ?_
  refine pk (vb true) wN (congrArg not h44) ?_
  refine mv (vb true) wN ?_
  refine sk (Eq.refl true) ?_
  refine sk (Eq.refl true) ?_
  refine sk (Eq.refl true) ?_
  refine pk (vb true) wN (Eq.refl true) ?_
  refine wl_nil <| wq_then ?_
  refine ct (Eq.refl true) ?_
  refine sr ?_
  refine ag (vb false) wN ?_
  refine wl_nil <| wq_then <| wc_ret <| wq_then_ret ?_
  refine ret_1 (.inl rfl) (vb false) rfl rfl ?_
  refine ⟨m43.keep0, ?_⟩
  have hF75 : F_impl_ChanOk x_c = false := by simp only [F_impl_ChanOk, h39, h44, cond_true, cond_false]
  rw [hF75]
  exact rfl
 refine pu (vp g31 2) (wS (congrArg not h44)) ?_
 have b46 := (b41.kp k42)
 refine lN (L_92 x_c.Cur a6 c7 a11 c12) (wS (congrArg not h44)) isAgg_92 sizeOf_92 b46 ?_
 refine cl (wS (congrArg not h44)) (C_impl_EpOk w3 _ x_c.Cur (mR_92 (r8.from0 m43) s9 (r13.from0 m43) s14)) ?_
 rintro _ w4 ⟨k47, rfl⟩
 have m48 := m43.extk k47
 refine pu (vb (!(F_impl_EpOk x_c.Cur))) (wS (congrArg not h44)) ?_
 refine pf (vb (!(F_impl_EpOk x_c.Cur))) wN (congrArg not h44) ?_
 refine mv (vb (!(F_impl_EpOk x_c.Cur))) wN ?_
 rcases bf (F_impl_EpOk x_c.Cur) with h49 | h49
 ·refine sk (congrArg not h49) ?_
  refine sk (congrArg not h49) ?_
  refine sk (congrArg not h49) ?_
  refine pk (vb true) wN (congrArg not h49) ?_
  refine wl_nil <| wq_then ?_
  refine ct (Eq.refl true) ?_
  refine sr ?_
  refine ag (vb false) wN ?_
  refine wl_nil <| wq_then <| wc_ret <| wq_then_ret ?_
  refine ret_1 (.inl rfl) (vb false) rfl rfl ?_
  refine ⟨m48.keep0, ?_⟩
  have hF73 : F_impl_ChanOk x_c = false := by simp only [F_impl_ChanOk, h39, h44, h49, cond_true, cond_false]
  rw [hF73]
  exact rfl
 have q50 := impl_EpOk_t h49
 have b51 := (b46.kp k47)
 refine lN (L_94 x_c a1 c2 a6 c7 a11 c12 a16 c17 a21 c22 a26 c27) (wS (congrArg not h49)) isAgg_94 sizeOf_94 b51 ?_
 refine cl (wS (congrArg not h49)) (C_impl_oldOk w4 _ x_c (mR_94 (r3.from0 m48) s4 (r8.from0 m48) s9 (r13.from0 m48) s14 (r18.from0 m48) s19 (r23.from0 m48) s24 (r28.from0 m48) s29) (by omega) (by omega)) ?_
 rintro _ w5 ⟨k52, rfl⟩
 have m53 := m48.extk k52
 refine pu (vb (!(F_impl_oldOk x_c))) (wS (congrArg not h49)) ?_
 refine pf (vb (!(F_impl_oldOk x_c))) wN (congrArg not h49) ?_
 refine wl_nil <| wq_then ?_
 rcases bf (F_impl_oldOk x_c) with h54 | h54
 ·refine ct (congrArg not h54) ?_
  refine sr ?_
  refine ag (vb false) wN ?_
  refine wl_nil <| wq_then <| wc_ret <| wq_then_ret ?_
  refine ret_1 (.inl rfl) (vb false) rfl rfl ?_
  refine ⟨m53.keep0, ?_⟩
  have hF71 : F_impl_ChanOk x_c = false := by simp only [F_impl_ChanOk, h39, h44, h49, h54, cond_true, cond_false]
  rw [hF71]
  exact rfl
 refine cf (congrArg not h54) ?_
 refine wc_skip <| wq_then <| sr ?_
 refine pu (vp g31 14) wN ?_
 have b56 := (b51.kp k52)
 refine ld (vs a26 x_c.Next.length c27) wN isAgg_22 b56 ?_
 refine ln wN slTy_22 (r28.from0 m53) ?_
 refine pu (vb (decide ((x_c.Next.length : Int) = 0))) wN ?_
 refine mv (vb (decide ((x_c.Next.length : Int) = 0))) wN ?_
 rcases bt (decide ((x_c.Next.length : Int) = 0)) with h57 | h57
 ·have q58 := of_decide_eq_true h57
  refine sk h57 ?_
  refine sk h57 ?_
  refine sk h57 ?_
  refine sk h57 ?_
  refine su ?_
  refine su ?_
  refine su ?_
  refine su ?_
  refine sk h57 ?_
  refine sk h57 ?_
  refine su ?_
  refine su ?_
  refine su ?_
  refine su ?_
  refine sk h57 ?_
  refine pk (vb true) wN h57 ?_
  refine ag (vb true) wN ?_
  refine wl_nil <| wq_then <| wc_ret ?_
  refine ret_1 (.inl rfl) (vb true) rfl rfl ?_
  refine ⟨m53.keep0, ?_⟩
  have hF59 : F_impl_ChanOk x_c = true := by simp only [F_impl_ChanOk, h39, h44, h49, h54, h57, cond_true, cond_false]
  rw [hF59]
  exact rfl
 have q60 := of_decide_eq_false h57
 refine pu (vp g31 0) (wS h57) ?_
 refine ld (vi x_c.Role) (wS h57) isAgg_3 b56 ?_
 refine pu (vb (decide (x_c.Role = 0))) (wS h57) ?_
 refine mv (vb (decide (x_c.Role = 0))) (wS h57) ?_
 rcases bf (decide (x_c.Role = 0)) with h61 | h61
 ·have q68 := of_decide_eq_false h61
  refine sk h61 ?_
  refine sk h61 ?_
  refine sk h61 ?_
  refine sk h61 ?_
  refine pf (vb false) (wS h57) h61 ?_
  refine mv (vb false) (wS h57) ?_
  refine sk (Eq.refl false) ?_
  refine sk (Eq.refl false) ?_
  refine sk (Eq.refl false) ?_
  refine sk (Eq.refl false) ?_
  refine pf (vb false) (wS h57) (Eq.refl false) ?_
  refine pf (vb false) wN h57 ?_
  refine ag (vb false) wN ?_
  refine wl_nil <| wq_then <| wc_ret ?_
  refine ret_1 (.inl rfl) (vb false) rfl rfl ?_
  refine ⟨m53.keep0, ?_⟩
  have hF69 : F_impl_ChanOk x_c = false := by simp only [F_impl_ChanOk, h39, h44, h49, h54, h57, h61, cond_true, cond_false]
  rw [hF69]
  exact rfl
 have q62 := of_decide_eq_true h61
 refine pu (vp g31 14) (wS h61) ?_
 refine ld (vs a26 x_c.Next.length c27) (wS h61) isAgg_22 b56 ?_
 refine ln (wS h61) slTy_22 (r28.from0 m53) ?_
 refine pu (vb (decide ((x_c.Next.length : Int) = 32))) (wS h61) ?_
 refine pk (vb (decide ((x_c.Next.length : Int) = 32))) (wS h57) h61 ?_
 refine mv (vb (decide ((x_c.Next.length : Int) = 32))) (wS h57) ?_
 rcases bf (decide ((x_c.Next.length : Int) = 32)) with h63 | h63
 ·have q66 := of_decide_eq_false h63
  refine sk h63 ?_
  refine sk h63 ?_
  refine sk h63 ?_
  refine sk h63 ?_
  refine pf (vb false) (wS h57) h63 ?_
  refine pf (vb false) wN h57 ?_
  refine ag (vb false) wN ?_
  refine wl_nil <| wq_then <| wc_ret ?_
  refine ret_1 (.inl rfl) (vb false) rfl rfl ?_
  refine ⟨m53.keep0, ?_⟩
  have hF67 : F_impl_ChanOk x_c = false := by simp only [F_impl_ChanOk, h39, h44, h49, h54, h57, h61, h63, cond_true, cond_false]
  rw [hF67]
  exact rfl
 have q64 := of_decide_eq_true h63
 refine pu (vp g31 2) (wS h63) ?_
 refine pu (vp g31 2) (wS h63) ?_
 refine ld (vi x_c.Cur.N) (wS h63) isAgg_3 b56 ?_
 refine pu (vb (decide (x_c.Cur.N < 4294967295))) (wS h63) ?_
 refine pk (vb (decide (x_c.Cur.N < 4294967295))) (wS h57) h63 ?_
 refine pf (vb (decide (x_c.Cur.N < 4294967295))) wN h57 ?_
 refine ag (vb (decide (x_c.Cur.N < 4294967295))) wN ?_
 refine wl_nil <| wq_then <| wc_ret ?_
 refine ret_1 (.inl rfl) (vb (decide (x_c.Cur.N < 4294967295))) rfl rfl ?_
 refine ⟨m53.keep0, ?_⟩
 have hF65 : F_impl_ChanOk x_c = decide (x_c.Cur.N < 4294967295) := by simp only [F_impl_ChanOk, h39, h44, h49, h54, h57, h61, h63, cond_true, cond_false]
 rw [hF65]
 exact rfl
theorem impl_ChanOk_t {c : PChan} (h : F_impl_ChanOk c = true) : 0 ≤ c.Cur.N ∧ c.Cur.N ≤ 4294967295 := by
  cases h1 : F_impl_EpOk c.Cur with
  | false => simp [F_impl_ChanOk, h1] at h
  | true => exact ⟨(impl_EpOk_t h1).1, (impl_EpOk_t h1).2.1⟩

def F_impl_finishOk (x_c : PClient) : (Bool) := bif (F_impl_isNonce x_c.Cn) then (bif (decide (x_c.Fin.Kind = 3)) then (bif (F_impl_FrameOk x_c.Fin) then (bif (decide (x_c.Fin.Id = x_c.Id)) then (bif (F_bytes_Equal x_c.Fin.Cn x_c.Cn) then (bif (F_impl_ChanOk x_c.C) then (bif (decide (x_c.C.Role = 0)) then (bif (F_bytes_Equal x_c.C.Sn x_c.Fin.Sn) then (bif (decide (x_c.C.Cur.N = 0)) then (bif x_c.C.HasOld then (false) else (decide ((x_c.C.Next.length : Int) = 0))) else (false)) else (false)) else (false)) else (false)) else (false)) else (false)) else (false)) else (false)) else (false)
theorem C_impl_finishOk (w0 : World) (v_x_c : Value) (x_c : PClient) (r_x_c : R_98 w0 v_x_c x_c)  : Fn Try.prog 140 #[v_x_c] w0 (fun v w' => Keep w0 w' ∧ O_4 w' w0.heap.size v (F_impl_finishOk x_c)) := by
 obtain ⟨a1, c2, a6, c7, a11, c12, a16, c17, a21, c22, a26, c27, a31, c32, a36, c37, a41, c42, a46, c47, a51, c52, a56, c57, a61, c62, a66, c67, rfl, r3, s4, r8, s9, r13, s14, r18, s19, r23, s24, r28, s29, r33, s34, r38, s39, r43, s44, r48, s49, r53, s54, r58, s59, r63, s64, r68, s69⟩ := r_x_c
 refine fn_of (n := 74) (l := [(va (L_98 x_c a1 c2 a6 c7 a11 c12 a16 c17 a21 c22 a26 c27 a31 c32 a36 c37 a41 c42 a46 c47 a51 c52 a56 c57 a61 c62 a66 c67)), U, U, U, U, U, U, U, U, U, U, U, U, U, U, U, U, U, U, U, U, U, U, U, U, U, U, U, U, U, U, U, U, U, U, U, U, U, U, U, U, U, U, U, U, U, U, U, U, U, U, U, U, U, U, U, U, U, U, U, U, U, U, U, U, U, U, U, U, U, U, U, U, U]) Try.func140 rfl rfl (by kernel_rfl) rfl ?_
 refine sr ?_
 refine bx (L_98 x_c a1 c2 a6 c7 a11 c12 a16 c17 a21 c22 a26 c27 a31 c32 a36 c37 a41 c42 a46 c47 a51 c52 a56 c57 a61 c62 a66 c67) wN ?_
 intro g71 w1 p72 p73 k74 b75
 have m76 := (Ch.base w0).extk k74
 refine ag (vb false) wN ?_
 refine wl_nil <| wq_then <| wc_seq <| sr ?_
 refine pu (vp g71 5) wN ?_
 refine ld (vs a6 x_c.Cn.length c7) wN isAgg_22 b75 ?_
 refine cl wN (C_impl_isNonce w1 _ x_c.Cn (mR_22 (r8.from0 m76) s9)) ?_
 rintro _ w2 ⟨k77, rfl⟩
 have m78 := m76.extk k77
 refine pu (vb (!(F_impl_isNonce x_c.Cn))) wN ?_
 refine mv (vb (!(F_impl_isNonce x_c.Cn))) wN ?_
 rcases bf (F_impl_isNonce x_c.Cn) with h79 | h79
 ·refine sk (congrArg not h79) ?_
  refine sk (congrArg not h79) ?_
  refine sk (congrArg not h79) ?_
  refine sk (congrArg not h79) ?_
  refine pk (vb true) wN (congrArg not h79) ?_
  refine mv (vb true) wN ?_
  refine sk (Eq.refl true) ?_
  refine sk (Eq.refl true) ?_
  refine sk (Eq.refl true) ?_
  refine sk (Eq.refl true) ?_
  refine pk (vb true) wN (Eq.refl true) ?_
  refine mv (vb true) wN ?_
  refine sk (Eq.refl true) ?_
  refine sk (Eq.refl true) ?_
  refine sk (Eq.refl true) ?_
  refine sk (Eq.refl true) ?_
  refine sk (Eq.refl true) ?_
  refine sk (Eq.refl true) ?_
  refine pk (vb true) wN (Eq.refl true) ?_
  refine mv (vb true) wN ?_
  refine sk (Eq.refl true) ?_
  refine sk (Eq.refl true) ?_
  refine sk (Eq.refl true) ?_
  refine sk (Eq.refl true) ?_
  refine sk (Eq.refl true) ?_
  refine sk (Eq.refl true) ?_
  refine sk (Eq.refl true) ?_
  refine pk (vb true) wN (Eq.refl true) ?_
  refine wl_nil <| wq_then ?_
  refine ct (Eq.refl true) ?_
  refine sr ?_
  refine ag (vb false) wN ?_
  refine wl_nil <| wq_then <| wc_ret <| wq_then_ret ?_
  refine ret_1 (.inl rfl) (vb false) rfl rfl ?_
  refine ⟨m78.keep0, ?_⟩
  have hF132 : F_impl_finishOk x_c = false := by simp only [F_impl_finishOk, h79, cond_true, cond_false]
  rw [hF132]
  exact rfl
 refine pu (vp g71 6) (wS (congrArg not h79)) ?_
 refine pu (vp g71 6) (wS (congrArg not h79)) ?_
 have b81 := (b75.kp k77)
 refine ld (vi x_c.Fin.Kind) (wS (congrArg not h79)) isAgg_3 b81 ?_
 refine pu (vb (!(decide (x_c.Fin.Kind = 3)))) (wS (congrArg not h79)) ?_
 refine pf (vb (!(decide (x_c.Fin.Kind = 3)))) wN (congrArg not h79) ?_
 refine mv (vb (!(decide (x_c.Fin.Kind = 3)))) wN ?_
 rcases bf (decide (x_c.Fin.Kind = 3)) with h82 | h82
 ·have q129 := of_decide_eq_false h82
  refine sk (congrArg not h82) ?_
  refine sk (congrArg not h82) ?_
  refine sk (congrArg not h82) ?_
  refine sk (congrArg not h82) ?_
  refine pk (vb true) wN (congrArg not h82) ?_
  refine mv (vb true) wN ?_
  refine sk (Eq.refl true) ?_
  refine sk (Eq.refl true) ?_
  refine sk (Eq.refl true) ?_
  refine sk (Eq.refl true) ?_
  refine sk (Eq.refl true) ?_
  refine sk (Eq.refl true) ?_
  refine pk (vb true) wN (Eq.refl true) ?_
  refine mv (vb true) wN ?_
  refine sk (Eq.refl true) ?_
  refine sk (Eq.refl true) ?_
  refine sk (Eq.refl true) ?_
  refine sk (Eq.refl true) ?_
  refine sk (Eq.refl true) ?_
  refine sk (Eq.refl true) ?_
  refine sk (Eq.refl true) ?_
  refine pk (vb true) wN (Eq.refl true) ?_
  refine wl_nil <| wq_then ?_
  refine ct (Eq.refl true) ?_
  refine sr ?_
  refine ag (vb false) wN ?_
  refine wl_nil <| wq_then <| wc_ret <| wq_then_ret ?_
  refine ret_1 (.inl rfl) (vb false) rfl rfl ?_
  refine ⟨m78.keep0, ?_⟩
  have hF130 : F_impl_finishOk x_c = false := by simp only [F_impl_finishOk, h79, h82, cond_true, cond_false]
  rw [hF130]
  exact rfl
 have q83 := of_decide_eq_true h82
 refine pu (vp g71 6) (wS (congrArg not h82)) ?_
 refine lN (L_87 x_c.Fin a11 c12 a16 c17 a21 c22 a26 c27 a31 c32 a36 c37) (wS (congrArg not h82)) isAgg_87 sizeOf_87 b81 ?_
 refine cl (wS (congrArg not h82)) (C_impl_FrameOk w2 _ x_c.Fin (mR_87 (r13.from0 m78) s14 (r18.from0 m78) s19 (r23.from0 m78) s24 (r28.from0 m78) s29 (r33.from0 m78) s34 (r38.from0 m78) s39)) ?_
 rintro _ w3 ⟨k84, rfl⟩
 have m85 := m78.extk k84
 refine pu (vb (!(F_impl_FrameOk x_c.Fin))) (wS (congrArg not h82)) ?_
 refine pf (vb (!(F_impl_FrameOk x_c.Fin))) wN (congrArg not h82) ?_
 refine mv (vb (!(F_impl_FrameOk x_c.Fin))) wN ?_
 rcases bf (F_impl_FrameOk x_c.Fin) with h86 | h86
 ·refine sk (congrArg not h86) ?_
  refine sk (congrArg not h86) ?_
  refine sk (congrArg not h86) ?_
  refine sk (congrArg not h86) ?_
  refine sk (congrArg not h86) ?_
  refine sk (congrArg not h86) ?_
  refine pk (vb true) wN (congrArg not h86) ?_
  refine mv (vb true) wN ?_
  refine sk (Eq.refl true) ?_
  refine sk (Eq.refl true) ?_
  refine sk (Eq.refl true) ?_
  refine sk (Eq.refl true) ?_
  refine sk (Eq.refl true) ?_
  refine sk (Eq.refl true) ?_
  refine sk (Eq.refl true) ?_
  refine pk (vb true) wN (Eq.refl true) ?_
  refine wl_nil <| wq_then ?_
  refine ct (Eq.refl true) ?_
  refine sr ?_
  refine ag (vb false) wN ?_
  refine wl_nil <| wq_then <| wc_ret <| wq_then_ret ?_
  refine ret_1 (.inl rfl) (vb false) rfl rfl ?_
  refine ⟨m85.keep0, ?_⟩
  have hF128 : F_impl_finishOk x_c = false := by simp only [F_impl_finishOk, h79, h82, h86, cond_true, cond_false]
  rw [hF128]
  exact rfl
 refine pu (vp g71 6) (wS (congrArg not h86)) ?_
 refine pu (vp g71 7) (wS (congrArg not h86)) ?_
 have b88 := (b81.kp k84)
 refine ld (vi x_c.Fin.Id) (wS (congrArg not h86)) isAgg_3 b88 ?_
 refine pu (vp g71 0) (wS (congrArg not h86)) ?_
 refine ld (vi x_c.Id) (wS (congrArg not h86)) isAgg_3 b88 ?_
 refine pu (vb (!(decide (x_c.Fin.Id = x_c.Id)))) (wS (congrArg not h86)) ?_
 refine pf (vb (!(decide (x_c.Fin.Id = x_c.Id)))) wN (congrArg not h86) ?_
 refine mv (vb (!(decide (x_c.Fin.Id = x_c.Id)))) wN ?_
 rcases bf (decide (x_c.Fin.Id = x_c.Id)) with h89 | h89
 ·have q125 := of_decide_eq_false h89
  refine sk (congrArg not h89) ?_
  refine sk (congrArg not h89) ?_
  refine sk (congrArg not h89) ?_
  refine sk (congrArg not h89) ?_
  refine sk (congrArg not h89) ?_
  refine sk (congrArg not h89) ?_
  refine sk (congrArg not h89) ?_
  refine pk (vb true) wN (congrArg not h89) ?_
  refine wl_nil <| wq_then ?_
  refine ct (Eq.refl true) ?_
  refine sr ?_
  refine ag (vb false) wN ?_
  refine wl_nil <| wq_then <| wc_ret <| wq_then_ret ?_
  refine ret_1 (.inl rfl) (vb false) rfl rfl ?_
  refine ⟨m85.keep0, ?_⟩
  have hF126 : F_impl_finishOk x_c = false := by simp only [F_impl_finishOk, h79, h82, h86, h89, cond_true, cond_false]
  rw [hF126]
  exact rfl
 have q90 := of_decide_eq_true h89
 refine pu (vp g71 6) (wS (congrArg not h89)) ?_
 refine pu (vp g71 8) (wS (congrArg not h89)) ?_
 refine ld (vs a11 x_c.Fin.Cn.length c12) (wS (congrArg not h89)) isAgg_22 b88 ?_
 refine pu (vp g71 5) (wS (congrArg not h89)) ?_
 refine ld (vs a6 x_c.Cn.length c7) (wS (congrArg not h89)) isAgg_22 b88 ?_
 refine cl (wS (congrArg not h89)) (C_bytes_Equal w3 _ x_c.Fin.Cn (mR_22 (r13.from0 m85) s14) _ x_c.Cn (mR_22 (r8.from0 m85) s9)) ?_
 rintro _ w4 ⟨k91, rfl⟩
 have m92 := m85.extk k91
 refine pu (vb (!(F_bytes_Equal x_c.Fin.Cn x_c.Cn))) (wS (congrArg not h89)) ?_
 refine pf (vb (!(F_bytes_Equal x_c.Fin.Cn x_c.Cn))) wN (congrArg not h89) ?_
 refine wl_nil <| wq_then ?_
 rcases bf (F_bytes_Equal x_c.Fin.Cn x_c.Cn) with h93 | h93
 ·refine ct (congrArg not h93) ?_
  refine sr ?_
  refine ag (vb false) wN ?_
  refine wl_nil <| wq_then <| wc_ret <| wq_then_ret ?_
  refine ret_1 (.inl rfl) (vb false) rfl rfl ?_
  refine ⟨m92.keep0, ?_⟩
  have hF124 : F_impl_finishOk x_c = false := by simp only [F_impl_finishOk, h79, h82, h86, h89, h93, cond_true, cond_false]
  rw [hF124]
  exact rfl
 refine cf (congrArg not h93) ?_
 refine wc_skip <| wq_then <| sr ?_
 refine pu (vp g71 17) wN ?_
 have b95 := (b88.kp k91)
 refine lN (L_94 x_c.C a41 c42 a46 c47 a51 c52 a56 c57 a61 c62 a66 c67) wN isAgg_94 sizeOf_94 b95 ?_
 refine cl wN (C_impl_ChanOk w4 _ x_c.C (mR_94 (r43.from0 m92) s44 (r48.from0 m92) s49 (r53.from0 m92) s54 (r58.from0 m92) s59 (r63.from0 m92) s64 (r68.from0 m92) s69)) ?_
 rintro _ w5 ⟨k96, rfl⟩
 have m97 := m92.extk k96
 refine mv (vb (F_impl_ChanOk x_c.C)) wN ?_
 rcases bf (F_impl_ChanOk x_c.C) with h98 | h98
 ·refine sk h98 ?_
  refine sk h98 ?_
  refine sk h98 ?_
  refine sk h98 ?_
  refine pf (vb false) wN h98 ?_
  refine mv (vb false) wN ?_
  refine sk (Eq.refl false) ?_
  refine sk (Eq.refl false) ?_
  refine sk (Eq.refl false) ?_
  refine sk (Eq.refl false) ?_
  refine sk (Eq.refl false) ?_
  refine sk (Eq.refl false) ?_
  refine sk (Eq.refl false) ?_
  refine pf (vb false) wN (Eq.refl false) ?_
  refine mv (vb false) wN ?_
  refine sk (Eq.refl false) ?_
  refine sk (Eq.refl false) ?_
  refine sk (Eq.refl false) ?_
  refine sk (Eq.refl false) ?_
  refine sk (Eq.refl false) ?_
  refine pf (vb false) wN (Eq.refl false) ?_
  refine mv (vb false) wN ?_
  refine sk (Eq.refl false) ?_
  refine sk (Eq.refl false) ?_
  refine sk (Eq.refl false) ?_
  refine sk (Eq.refl false) ?_
  refine pf (vb false) wN (Eq.refl false) ?_
  refine mv (vb false) wN ?_
  refine sk (Eq.refl false) ?_
  refine sk (Eq.refl false) ?_
  refine sk (Eq.refl false) ?_
  refine sk (Eq.refl false) ?_
  refine sk (Eq.refl false) ?_
  refine pf (vb false) wN (Eq.refl false) ?_
  refine ag (vb false) wN ?_
  refine wl_nil <| wq_then <| wc_ret ?_
  refine ret_1 (.inl rfl) (vb false) rfl rfl ?_
  refine ⟨m97.keep0, ?_⟩
  have hF122 : F_impl_finishOk x_c = false := by simp only [F_impl_finishOk, h79, h82, h86, h89, h93, h98, cond_true, cond_false]
  rw [hF122]
  exact rfl
 have q99 := impl_ChanOk_t h98
 refine pu (vp g71 17) (wS h98) ?_
 refine pu (vp g71 17) (wS h98) ?_
 have b100 := (b95.kp k96)
 refine ld (vi x_c.C.Role) (wS h98) isAgg_3 b100 ?_
 refine pu (vb (decide (x_c.C.Role = 0))) (wS h98) ?_
 refine pk (vb (decide (x_c.C.Role = 0))) wN h98 ?_
 refine mv (vb (decide (x_c.C.Role = 0))) wN ?_
 rcases bf (decide (x_c.C.Role = 0)) with h101 | h101
 ·have q119 := of_decide_eq_false h101
  refine sk h101 ?_
  refine sk h101 ?_
  refine sk h101 ?_
  refine sk h101 ?_
  refine sk h101 ?_
  refine sk h101 ?_
  refine sk h101 ?_
  refine pf (vb false) wN h101 ?_
  refine mv (vb false) wN ?_
  refine sk (Eq.refl false) ?_
  refine sk (Eq.refl false) ?_
  refine sk (Eq.refl false) ?_
  refine sk (Eq.refl false) ?_
  refine sk (Eq.refl false) ?_
  refine pf (vb false) wN (Eq.refl false) ?_
  refine mv (vb false) wN ?_
  refine sk (Eq.refl false) ?_
  refine sk (Eq.refl false) ?_
  refine sk (Eq.refl false) ?_
  refine sk (Eq.refl false) ?_
  refine pf (vb false) wN (Eq.refl false) ?_
  refine mv (vb false) wN ?_
  refine sk (Eq.refl false) ?_
  refine sk (Eq.refl false) ?_
  refine sk (Eq.refl false) ?_
  refine sk (Eq.refl false) ?_
  refine sk (Eq.refl false) ?_
  refine pf (vb false) wN (Eq.refl false) ?_
  refine ag (vb false) wN ?_
  refine wl_nil <| wq_then <| wc_ret ?_
  refine ret_1 (.inl rfl) (vb false) rfl rfl ?_
  refine ⟨m97.keep0, ?_⟩
  have hF120 : F_impl_finishOk x_c = false := by simp only [F_impl_finishOk, h79, h82, h86, h89, h93, h98, h101, cond_true, cond_false]
  rw [hF120]
  exact rfl
 have q102 := of_decide_eq_true h101
 refine pu (vp g71 17) (wS h101) ?_
 refine pu (vp g71 18) (wS h101) ?_
 refine ld (vs a41 x_c.C.Sn.length c42) (wS h101) isAgg_22 b100 ?_
 refine pu (vp g71 6) (wS h101) ?_
 refine pu (vp g71 9) (wS h101) ?_
 refine ld (vs a16 x_c.Fin.Sn.length c17) (wS h101) isAgg_22 b100 ?_
 refine cl (wS h101) (C_bytes_Equal w5 _ x_c.C.Sn (mR_22 (r43.from0 m97) s44) _ x_c.Fin.Sn (mR_22 (r18.from0 m97) s19)) ?_
 rintro _ w6 ⟨k103, rfl⟩
 have m104 := m97.extk k103
 refine pk (vb (F_bytes_Equal x_c.C.Sn x_c.Fin.Sn)) wN h101 ?_
 refine mv (vb (F_bytes_Equal x_c.C.Sn x_c.Fin.Sn)) wN ?_
 rcases bf (F_bytes_Equal x_c.C.Sn x_c.Fin.Sn) with h105 | h105
 ·refine sk h105 ?_
  refine sk h105 ?_
  refine sk h105 ?_
  refine sk h105 ?_
  refine sk h105 ?_
  refine pf (vb false) wN h105 ?_
  refine mv (vb false) wN ?_
  refine sk (Eq.refl false) ?_
  refine sk (Eq.refl false) ?_
  refine sk (Eq.refl false) ?_
  refine sk (Eq.refl false) ?_
  refine pf (vb false) wN (Eq.refl false) ?_
  refine mv (vb false) wN ?_
  refine sk (Eq.refl false) ?_
  refine sk (Eq.refl false) ?_
  refine sk (Eq.refl false) ?_
  refine sk (Eq.refl false) ?_
  refine sk (Eq.refl false) ?_
  refine pf (vb false) wN (Eq.refl false) ?_
  refine ag (vb false) wN ?_
  refine wl_nil <| wq_then <| wc_ret ?_
  refine ret_1 (.inl rfl) (vb false) rfl rfl ?_
  refine ⟨m104.keep0, ?_⟩
  have hF118 : F_impl_finishOk x_c = false := by simp only [F_impl_finishOk, h79, h82, h86, h89, h93, h98, h101, h105, cond_true, cond_false]
  rw [hF118]
  exact rfl
 refine pu (vp g71 17) (wS h105) ?_
 refine pu (vp g71 19) (wS h105) ?_
 refine pu (vp g71 19) (wS h105) ?_
 have b107 := (b100.kp k103)
 refine ld (vi x_c.C.Cur.N) (wS h105) isAgg_3 b107 ?_
 refine pu (vb (decide (x_c.C.Cur.N = 0))) (wS h105) ?_
 refine pk (vb (decide (x_c.C.Cur.N = 0))) wN h105 ?_
 refine mv (vb (decide (x_c.C.Cur.N = 0))) wN ?_
 rcases bf (decide (x_c.C.Cur.N = 0)) with h108 | h108
 ·have q115 := of_decide_eq_false h108
  refine sk h108 ?_
  refine sk h108 ?_
  refine sk h108 ?_
  refine sk h108 ?_
  refine pf (vb false) wN h108 ?_
  refine mv (vb false) wN ?_
  refine sk (Eq.refl false) ?_
  refine sk (Eq.refl false) ?_
  refine sk (Eq.refl false) ?_
  refine sk (Eq.refl false) ?_
  refine sk (Eq.refl false) ?_
  refine pf (vb false) wN (Eq.refl false) ?_
  refine ag (vb false) wN ?_
  refine wl_nil <| wq_then <| wc_ret ?_
  refine ret_1 (.inl rfl) (vb false) rfl rfl ?_
  refine ⟨m104.keep0, ?_⟩
  have hF116 : F_impl_finishOk x_c = false := by simp only [F_impl_finishOk, h79, h82, h86, h89, h93, h98, h101, h105, h108, cond_true, cond_false]
  rw [hF116]
  exact rfl
 have q109 := of_decide_eq_true h108
 refine pu (vp g71 17) (wS h108) ?_
 refine pu (vp g71 29) (wS h108) ?_
 refine ld (vb x_c.C.HasOld) (wS h108) isAgg_4 b107 ?_
 refine pu (vb (!x_c.C.HasOld)) (wS h108) ?_
 refine pk (vb (!x_c.C.HasOld)) wN h108 ?_
 refine mv (vb (!x_c.C.HasOld)) wN ?_
 rcases bt x_c.C.HasOld with h110 | h110
 ·refine sk (congrArg not h110) ?_
  refine sk (congrArg not h110) ?_
  refine sk (congrArg not h110) ?_
  refine sk (congrArg not h110) ?_
  refine sk (congrArg not h110) ?_
  refine pf (vb false) wN (congrArg not h110) ?_
  refine ag (vb false) wN ?_
  refine wl_nil <| wq_then <| wc_ret ?_
  refine ret_1 (.inl rfl) (vb false) rfl rfl ?_
  refine ⟨m104.keep0, ?_⟩
  have hF112 : F_impl_finishOk x_c = false := by simp only [F_impl_finishOk, h79, h82, h86, h89, h93, h98, h101, h105, h108, h110, cond_true, cond_false]
  rw [hF112]
  exact rfl
 refine pu (vp g71 17) (wS (congrArg not h110)) ?_
 refine pu (vp g71 31) (wS (congrArg not h110)) ?_
 refine ld (vs a66 x_c.C.Next.length c67) (wS (congrArg not h110)) isAgg_22 b107 ?_
 refine ln (wS (congrArg not h110)) slTy_22 (r68.from0 m104) ?_
 refine pu (vb (decide ((x_c.C.Next.length : Int) = 0))) (wS (congrArg not h110)) ?_
 refine pk (vb (decide ((x_c.C.Next.length : Int) = 0))) wN (congrArg not h110) ?_
 refine ag (vb (decide ((x_c.C.Next.length : Int) = 0))) wN ?_
 refine wl_nil <| wq_then <| wc_ret ?_
 refine ret_1 (.inl rfl) (vb (decide ((x_c.C.Next.length : Int) = 0))) rfl rfl ?_
 refine ⟨m104.keep0, ?_⟩
 have hF114 : F_impl_finishOk x_c = decide ((x_c.C.Next.length : Int) = 0) := by simp only [F_impl_finishOk, h79, h82, h86, h89, h93, h98, h101, h105, h108, h110, cond_true, cond_false]
 rw [hF114]
 exact rfl
end Go.Proofs.Ytjcahjhnnagkdaa.K
