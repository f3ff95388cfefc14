import Derived.Test.YtjcahjhnnagkdaaCore
import Derived.Test.YtjcahjhnnagkdaaProg
import Derived.Test.YtjcahjhnnagkdaaHeld
import Derived.Test.YtjcahjhnnagkdaaFun
import Derived.Test.YtjcahjhnnagkdaaFunZ
import Derived.Test.YtjcahjhnnagkdaaDraw
import Derived.Test.YtjcahjhnnagkdaaWk1
namespace Go.Proofs.Ytjcahjhnnagkdaa.K
open Go.RowKit
set_option linter.unusedVariables false
set_option linter.unusedSimpArgs false
set_option maxRecDepth 100000
def R_87 (w : World) (v : Value) (x : (PFrame)) : Prop := ∃ (a1 : Option Addr) (c1 : Nat) (a2 : Option Addr) (c2 : Nat) (a3 : Option Addr) (c3 : Nat) (a4 : Option Addr) (c4 : Nat) (a5 : Option Addr) (c5 : Nat) (a6 : Option Addr) (c6 : Nat), v = .agg #[.int .i64 x.Kind, .int .i64 x.Id, .slice a1 x.Cn.length c1, .slice a2 x.Sn.length c2, .int .i64 x.Tick, .slice a3 x.Cookie.length c3, .slice a4 x.Proof.length c4, .int .i64 x.Epoch, .int .i64 x.Seq, .slice a5 x.Body.length c5, .slice a6 x.Tag.length c6] ∧ Rd w 1 (.slice a1 x.Cn.length c1) x.Cn.length (x.Cn.map bV) ∧ x.Cn.length ≤ 1073741824 ∧ Rd w 1 (.slice a2 x.Sn.length c2) x.Sn.length (x.Sn.map bV) ∧ x.Sn.length ≤ 1073741824 ∧ Rd w 1 (.slice a3 x.Cookie.length c3) x.Cookie.length (x.Cookie.map bV) ∧ x.Cookie.length ≤ 1073741824 ∧ Rd w 1 (.slice a4 x.Proof.length c4) x.Proof.length (x.Proof.map bV) ∧ x.Proof.length ≤ 1073741824 ∧ Rd w 1 (.slice a5 x.Body.length c5) x.Body.length (x.Body.map bV) ∧ x.Body.length ≤ 1073741824 ∧ Rd w 1 (.slice a6 x.Tag.length c6) x.Tag.length (x.Tag.map bV) ∧ x.Tag.length ≤ 1073741824
def F_spec_l19NoFrame (x_f : PFrame) : (Bool) := bif (decide (x_f.Kind = 0)) then (bif (decide (x_f.Id = 0)) then (bif (decide ((x_f.Cn.length : Int) = 0)) then (bif (decide ((x_f.Sn.length : Int) = 0)) then (bif (decide (x_f.Tick = 0)) then (bif (decide ((x_f.Cookie.length : Int) = 0)) then (bif (decide ((x_f.Proof.length : Int) = 0)) then (bif (decide (x_f.Epoch = 0)) then (bif (decide (x_f.Seq = 0)) then (bif (decide ((x_f.Body.length : Int) = 0)) then (decide ((x_f.Tag.length : Int) = 0)) else (false)) else (false)) else (false)) else (false)) else (false)) else (false)) else (false)) else (false)) else (false)) else (false)
theorem C_spec_l19NoFrame (w0 : World) (v_x_f : Value) (x_f : PFrame) (r_x_f : R_87 w0 v_x_f x_f)  : Fn Try.prog 129 #[v_x_f] w0 (fun v w' => Keep w0 w' ∧ O_4 w' w0.heap.size v (F_spec_l19NoFrame x_f)) := by
 obtain ⟨a1, c2, a6, c7, a11, c12, a16, c17, a21, c22, a26, c27, rfl, r3, s4, r8, s9, r13, s14, r18, s19, r23, s24, r28, s29⟩ := r_x_f
 refine fn_of (n := 62) (l := [(va (L_87 x_f a1 c2 a6 c7 a11 c12 a16 c17 a21 c22 a26 c27)), U, U, U, U, U, U, U, U, U, U, U, U, U, U, U, U, U, U, U, U, U, U, U, U, U, U, U, U, U, U, U, U, U, U, U, U, U, U, U, U, U, U, U, U, U, U, U, U, U, U, U, U, U, U, U, U, U, U, U, U, U]) Try.func129 rfl rfl (by kernel_rfl) rfl ?_
 refine sr ?_
 refine bx (L_87 x_f a1 c2 a6 c7 a11 c12 a16 c17 a21 c22 a26 c27) wN ?_
 intro g31 w1 p32 p33 k34 b35
 have m36 := (Ch.base w0).extk k34
 refine ag (vb false) wN ?_
 refine nx ?_
 refine pu (vp g31 0) wN ?_
 refine ld (vi x_f.Kind) wN isAgg_3 b35 ?_
 refine pu (vb (decide (x_f.Kind = 0))) wN ?_
 refine mv (vb (decide (x_f.Kind = 0))) wN ?_
 rcases bf (decide (x_f.Kind = 0)) with h37 | h37
 ·have q76 := of_decide_eq_false h37
  refine sk h37 ?_
  refine sk h37 ?_
  refine sk h37 ?_
  refine pf (vb false) wN h37 ?_
  refine mv (vb false) wN ?_
  refine sk (Eq.refl false) ?_
  refine sk (Eq.refl false) ?_
  refine sk (Eq.refl false) ?_
  refine sk (Eq.refl false) ?_
  refine pf (vb false) wN (Eq.refl false) ?_
  refine mv (vb false) wN ?_
  refine sk (Eq.refl false) ?_
  refine sk (Eq.refl false) ?_
  refine sk (Eq.refl false) ?_
  refine sk (Eq.refl false) ?_
  refine pf (vb false) wN (Eq.refl false) ?_
  refine mv (vb false) wN ?_
  refine sk (Eq.refl false) ?_
  refine sk (Eq.refl false) ?_
  refine sk (Eq.refl false) ?_
  refine pf (vb false) wN (Eq.refl false) ?_
  refine mv (vb false) wN ?_
  refine sk (Eq.refl false) ?_
  refine sk (Eq.refl false) ?_
  refine sk (Eq.refl false) ?_
  refine sk (Eq.refl false) ?_
  refine pf (vb false) wN (Eq.refl false) ?_
  refine mv (vb false) wN ?_
  refine sk (Eq.refl false) ?_
  refine sk (Eq.refl false) ?_
  refine sk (Eq.refl false) ?_
  refine sk (Eq.refl false) ?_
  refine pf (vb false) wN (Eq.refl false) ?_
  refine mv (vb false) wN ?_
  refine sk (Eq.refl false) ?_
  refine sk (Eq.refl false) ?_
  refine sk (Eq.refl false) ?_
  refine pf (vb false) wN (Eq.refl false) ?_
  refine mv (vb false) wN ?_
  refine sk (Eq.refl false) ?_
  refine sk (Eq.refl false) ?_
  refine sk (Eq.refl false) ?_
  refine pf (vb false) wN (Eq.refl false) ?_
  refine mv (vb false) wN ?_
  refine sk (Eq.refl false) ?_
  refine sk (Eq.refl false) ?_
  refine sk (Eq.refl false) ?_
  refine sk (Eq.refl false) ?_
  refine pf (vb false) wN (Eq.refl false) ?_
  refine mv (vb false) wN ?_
  refine sk (Eq.refl false) ?_
  refine sk (Eq.refl false) ?_
  refine sk (Eq.refl false) ?_
  refine sk (Eq.refl false) ?_
  refine pf (vb false) wN (Eq.refl false) ?_
  refine ag (vb false) wN ?_
  refine wl_nil <| wq_then <| wc_ret ?_
  refine ret_1 (.inl rfl) (vb false) rfl rfl ?_
  refine ⟨m36.keep0, ?_⟩
  have hF77 : F_spec_l19NoFrame x_f = false := by simp only [F_spec_l19NoFrame, h37, cond_true, cond_false]
  rw [hF77]
  exact rfl
 have q38 := of_decide_eq_true h37
 refine pu (vp g31 1) (wS h37) ?_
 refine ld (vi x_f.Id) (wS h37) isAgg_3 b35 ?_
 refine pu (vb (decide (x_f.Id = 0))) (wS h37) ?_
 refine pk (vb (decide (x_f.Id = 0))) wN h37 ?_
 refine mv (vb (decide (x_f.Id = 0))) wN ?_
 rcases bf (decide (x_f.Id = 0)) with h39 | h39
 ·have q74 := of_decide_eq_false h39
  refine sk h39 ?_
  refine sk h39 ?_
  refine sk h39 ?_
  refine sk h39 ?_
  refine pf (vb false) wN h39 ?_
  refine mv (vb false) wN ?_
  refine sk (Eq.refl false) ?_
  refine sk (Eq.refl false) ?_
  refine sk (Eq.refl false) ?_
  refine sk (Eq.refl false) ?_
  refine pf (vb false) wN (Eq.refl false) ?_
  refine mv (vb false) wN ?_
  refine sk (Eq.refl false) ?_
  refine sk (Eq.refl false) ?_
  refine sk (Eq.refl false) ?_
  refine pf (vb false) wN (Eq.refl false) ?_
  refine mv (vb false) wN ?_
  refine sk (Eq.refl false) ?_
  refine sk (Eq.refl false) ?_
  refine sk (Eq.refl false) ?_
  refine sk (Eq.refl false) ?_
  refine pf (vb false) wN (Eq.refl false) ?_
  refine mv (vb false) wN ?_
  refine sk (Eq.refl false) ?_
  refine sk (Eq.refl false) ?_
  refine sk (Eq.refl false) ?_
  refine sk (Eq.refl false) ?_
  refine pf (vb false) wN (Eq.refl false) ?_
  refine mv (vb false) wN ?_
  refine sk (Eq.refl false) ?_
  refine sk (Eq.refl false) ?_
  refine sk (Eq.refl false) ?_
  refine pf (vb false) wN (Eq.refl false) ?_
  refine mv (vb false) wN ?_
  refine sk (Eq.refl false) ?_
  refine sk (Eq.refl false) ?_
  refine sk (Eq.refl false) ?_
  refine pf (vb false) wN (Eq.refl false) ?_
  refine mv (vb false) wN ?_
  refine sk (Eq.refl false) ?_
  refine sk (Eq.refl false) ?_
  refine sk (Eq.refl false) ?_
  refine sk (Eq.refl false) ?_
  refine pf (vb false) wN (Eq.refl false) ?_
  refine mv (vb false) wN ?_
  refine sk (Eq.refl false) ?_
  refine sk (Eq.refl false) ?_
  refine sk (Eq.refl false) ?_
  refine sk (Eq.refl false) ?_
  refine pf (vb false) wN (Eq.refl false) ?_
  refine ag (vb false) wN ?_
  refine wl_nil <| wq_then <| wc_ret ?_
  refine ret_1 (.inl rfl) (vb false) rfl rfl ?_
  refine ⟨m36.keep0, ?_⟩
  have hF75 : F_spec_l19NoFrame x_f = false := by simp only [F_spec_l19NoFrame, h37, h39, cond_true, cond_false]
  rw [hF75]
  exact rfl
 have q40 := of_decide_eq_true h39
 refine pu (vp g31 2) (wS h39) ?_
 refine ld (vs a1 x_f.Cn.length c2) (wS h39) isAgg_22 b35 ?_
 refine ln (wS h39) slTy_22 (r3.from0 m36) ?_
 refine pu (vb (decide ((x_f.Cn.length : Int) = 0))) (wS h39) ?_
 refine pk (vb (decide ((x_f.Cn.length : Int) = 0))) wN h39 ?_
 refine mv (vb (decide ((x_f.Cn.length : Int) = 0))) wN ?_
 rcases bf (decide ((x_f.Cn.length : Int) = 0)) with h41 | h41
 ·have q72 := of_decide_eq_false h41
  refine sk h41 ?_
  refine sk h41 ?_
  refine sk h41 ?_
  refine sk h41 ?_
  refine pf (vb false) wN h41 ?_
  refine mv (vb false) wN ?_
  refine sk (Eq.refl false) ?_
  refine sk (Eq.refl false) ?_
  refine sk (Eq.refl false) ?_
  refine pf (vb false) wN (Eq.refl false) ?_
  refine mv (vb false) wN ?_
  refine sk (Eq.refl false) ?_
  refine sk (Eq.refl false) ?_
  refine sk (Eq.refl false) ?_
  refine sk (Eq.refl false) ?_
  refine pf (vb false) wN (Eq.refl false) ?_
  refine mv (vb false) wN ?_
  refine sk (Eq.refl false) ?_
  refine sk (Eq.refl false) ?_
  refine sk (Eq.refl false) ?_
  refine sk (Eq.refl false) ?_
  refine pf (vb false) wN (Eq.refl false) ?_
  refine mv (vb false) wN ?_
  refine sk (Eq.refl false) ?_
  refine sk (Eq.refl false) ?_
  refine sk (Eq.refl false) ?_
  refine pf (vb false) wN (Eq.refl false) ?_
  refine mv (vb false) wN ?_
  refine sk (Eq.refl false) ?_
  refine sk (Eq.refl false) ?_
  refine sk (Eq.refl false) ?_
  refine pf (vb false) wN (Eq.refl false) ?_
  refine mv (vb false) wN ?_
  refine sk (Eq.refl false) ?_
  refine sk (Eq.refl false) ?_
  refine sk (Eq.refl false) ?_
  refine sk (Eq.refl false) ?_
  refine pf (vb false) wN (Eq.refl false) ?_
  refine mv (vb false) wN ?_
  refine sk (Eq.refl false) ?_
  refine sk (Eq.refl false) ?_
  refine sk (Eq.refl false) ?_
  refine sk (Eq.refl false) ?_
  refine pf (vb false) wN (Eq.refl false) ?_
  refine ag (vb false) wN ?_
  refine wl_nil <| wq_then <| wc_ret ?_
  refine ret_1 (.inl rfl) (vb false) rfl rfl ?_
  refine ⟨m36.keep0, ?_⟩
  have hF73 : F_spec_l19NoFrame x_f = false := by simp only [F_spec_l19NoFrame, h37, h39, h41, cond_true, cond_false]
  rw [hF73]
  exact rfl
 have q42 := of_decide_eq_true h41
 refine pu (vp g31 3) (wS h41) ?_
 refine ld (vs a6 x_f.Sn.length c7) (wS h41) isAgg_22 b35 ?_
 refine ln (wS h41) slTy_22 (r8.from0 m36) ?_
 refine pu (vb (decide ((x_f.Sn.length : Int) = 0))) (wS h41) ?_
 refine pk (vb (decide ((x_f.Sn.length : Int) = 0))) wN h41 ?_
 refine mv (vb (decide ((x_f.Sn.length : Int) = 0))) wN ?_
 rcases bf (decide ((x_f.Sn.length : Int) = 0)) with h43 | h43
 ·have q70 := of_decide_eq_false h43
  refine sk h43 ?_
  refine sk h43 ?_
  refine sk h43 ?_
  refine pf (vb false) wN h43 ?_
  refine mv (vb false) wN ?_
  refine sk (Eq.refl false) ?_
  refine sk (Eq.refl false) ?_
  refine sk (Eq.refl false) ?_
  refine sk (Eq.refl false) ?_
  refine pf (vb false) wN (Eq.refl false) ?_
  refine mv (vb false) wN ?_
  refine sk (Eq.refl false) ?_
  refine sk (Eq.refl false) ?_
  refine sk (Eq.refl false) ?_
  refine sk (Eq.refl false) ?_
  refine pf (vb false) wN (Eq.refl false) ?_
  refine mv (vb false) wN ?_
  refine sk (Eq.refl false) ?_
  refine sk (Eq.refl false) ?_
  refine sk (Eq.refl false) ?_
  refine pf (vb false) wN (Eq.refl false) ?_
  refine mv (vb false) wN ?_
  refine sk (Eq.refl false) ?_
  refine sk (Eq.refl false) ?_
  refine sk (Eq.refl false) ?_
  refine pf (vb false) wN (Eq.refl false) ?_
  refine mv (vb false) wN ?_
  refine sk (Eq.refl false) ?_
  refine sk (Eq.refl false) ?_
  refine sk (Eq.refl false) ?_
  refine sk (Eq.refl false) ?_
  refine pf (vb false) wN (Eq.refl false) ?_
  refine mv (vb false) wN ?_
  refine sk (Eq.refl false) ?_
  refine sk (Eq.refl false) ?_
  refine sk (Eq.refl false) ?_
  refine sk (Eq.refl false) ?_
  refine pf (vb false) wN (Eq.refl false) ?_
  refine ag (vb false) wN ?_
  refine wl_nil <| wq_then <| wc_ret ?_
  refine ret_1 (.inl rfl) (vb false) rfl rfl ?_
  refine ⟨m36.keep0, ?_⟩
  have hF71 : F_spec_l19NoFrame x_f = false := by simp only [F_spec_l19NoFrame, h37, h39, h41, h43, cond_true, cond_false]
  rw [hF71]
  exact rfl
 have q44 := of_decide_eq_true h43
 refine pu (vp g31 4) (wS h43) ?_
 refine ld (vi x_f.Tick) (wS h43) isAgg_3 b35 ?_
 refine pu (vb (decide (x_f.Tick = 0))) (wS h43) ?_
 refine pk (vb (decide (x_f.Tick = 0))) wN h43 ?_
 refine mv (vb (decide (x_f.Tick = 0))) wN ?_
 rcases bf (decide (x_f.Tick = 0)) with h45 | h45
 ·have q68 := of_decide_eq_false h45
  refine sk h45 ?_
  refine sk h45 ?_
  refine sk h45 ?_
  refine sk h45 ?_
  refine pf (vb false) wN h45 ?_
  refine mv (vb false) wN ?_
  refine sk (Eq.refl false) ?_
  refine sk (Eq.refl false) ?_
  refine sk (Eq.refl false) ?_
  refine sk (Eq.refl false) ?_
  refine pf (vb false) wN (Eq.refl false) ?_
  refine mv (vb false) wN ?_
  refine sk (Eq.refl false) ?_
  refine sk (Eq.refl false) ?_
  refine sk (Eq.refl false) ?_
  refine pf (vb false) wN (Eq.refl false) ?_
  refine mv (vb false) wN ?_
  refine sk (Eq.refl false) ?_
  refine sk (Eq.refl false) ?_
  refine sk (Eq.refl false) ?_
  refine pf (vb false) wN (Eq.refl false) ?_
  refine mv (vb false) wN ?_
  refine sk (Eq.refl false) ?_
  refine sk (Eq.refl false) ?_
  refine sk (Eq.refl false) ?_
  refine sk (Eq.refl false) ?_
  refine pf (vb false) wN (Eq.refl false) ?_
  refine mv (vb false) wN ?_
  refine sk (Eq.refl false) ?_
  refine sk (Eq.refl false) ?_
  refine sk (Eq.refl false) ?_
  refine sk (Eq.refl false) ?_
  refine pf (vb false) wN (Eq.refl false) ?_
  refine ag (vb false) wN ?_
  refine wl_nil <| wq_then <| wc_ret ?_
  refine ret_1 (.inl rfl) (vb false) rfl rfl ?_
  refine ⟨m36.keep0, ?_⟩
  have hF69 : F_spec_l19NoFrame x_f = false := by simp only [F_spec_l19NoFrame, h37, h39, h41, h43, h45, cond_true, cond_false]
  rw [hF69]
  exact rfl
 have q46 := of_decide_eq_true h45
 refine pu (vp g31 5) (wS h45) ?_
 refine ld (vs a11 x_f.Cookie.length c12) (wS h45) isAgg_22 b35 ?_
 refine ln (wS h45) slTy_22 (r13.from0 m36) ?_
 refine pu (vb (decide ((x_f.Cookie.length : Int) = 0))) (wS h45) ?_
 refine pk (vb (decide ((x_f.Cookie.length : Int) = 0))) wN h45 ?_
 refine mv (vb (decide ((x_f.Cookie.length : Int) = 0))) wN ?_
 rcases bf (decide ((x_f.Cookie.length : Int) = 0)) with h47 | h47
 ·have q66 := of_decide_eq_false h47
  refine sk h47 ?_
  refine sk h47 ?_
  refine sk h47 ?_
  refine sk h47 ?_
  refine pf (vb false) wN h47 ?_
  refine mv (vb false) wN ?_
  refine sk (Eq.refl false) ?_
  refine sk (Eq.refl false) ?_
  refine sk (Eq.refl false) ?_
  refine pf (vb false) wN (Eq.refl false) ?_
  refine mv (vb false) wN ?_
  refine sk (Eq.refl false) ?_
  refine sk (Eq.refl false) ?_
  refine sk (Eq.refl false) ?_
  refine pf (vb false) wN (Eq.refl false) ?_
  refine mv (vb false) wN ?_
  refine sk (Eq.refl false) ?_
  refine sk (Eq.refl false) ?_
  refine sk (Eq.refl false) ?_
  refine sk (Eq.refl false) ?_
  refine pf (vb false) wN (Eq.refl false) ?_
  refine mv (vb false) wN ?_
  refine sk (Eq.refl false) ?_
  refine sk (Eq.refl false) ?_
  refine sk (Eq.refl false) ?_
  refine sk (Eq.refl false) ?_
  refine pf (vb false) wN (Eq.refl false) ?_
  refine ag (vb false) wN ?_
  refine wl_nil <| wq_then <| wc_ret ?_
  refine ret_1 (.inl rfl) (vb false) rfl rfl ?_
  refine ⟨m36.keep0, ?_⟩
  have hF67 : F_spec_l19NoFrame x_f = false := by simp only [F_spec_l19NoFrame, h37, h39, h41, h43, h45, h47, cond_true, cond_false]
  rw [hF67]
  exact rfl
 have q48 := of_decide_eq_true h47
 refine pu (vp g31 6) (wS h47) ?_
 refine ld (vs a16 x_f.Proof.length c17) (wS h47) isAgg_22 b35 ?_
 refine ln (wS h47) slTy_22 (r18.from0 m36) ?_
 refine pu (vb (decide ((x_f.Proof.length : Int) = 0))) (wS h47) ?_
 refine pk (vb (decide ((x_f.Proof.length : Int) = 0))) wN h47 ?_
 refine mv (vb (decide ((x_f.Proof.length : Int) = 0))) wN ?_
 rcases bf (decide ((x_f.Proof.length : Int) = 0)) with h49 | h49
 ·have q64 := of_decide_eq_false h49
  refine sk h49 ?_
  refine sk h49 ?_
  refine sk h49 ?_
  refine pf (vb false) wN h49 ?_
  refine mv (vb false) wN ?_
  refine sk (Eq.refl false) ?_
  refine sk (Eq.refl false) ?_
  refine sk (Eq.refl false) ?_
  refine pf (vb false) wN (Eq.refl false) ?_
  refine mv (vb false) wN ?_
  refine sk (Eq.refl false) ?_
  refine sk (Eq.refl false) ?_
  refine sk (Eq.refl false) ?_
  refine sk (Eq.refl false) ?_
  refine pf (vb false) wN (Eq.refl false) ?_
  refine mv (vb false) wN ?_
  refine sk (Eq.refl false) ?_
  refine sk (Eq.refl false) ?_
  refine sk (Eq.refl false) ?_
  refine sk (Eq.refl false) ?_
  refine pf (vb false) wN (Eq.refl false) ?_
  refine ag (vb false) wN ?_
  refine wl_nil <| wq_then <| wc_ret ?_
  refine ret_1 (.inl rfl) (vb false) rfl rfl ?_
  refine ⟨m36.keep0, ?_⟩
  have hF65 : F_spec_l19NoFrame x_f = false := by simp only [F_spec_l19NoFrame, h37, h39, h41, h43, h45, h47, h49, cond_true, cond_false]
  rw [hF65]
  exact rfl
 have q50 := of_decide_eq_true h49
 refine pu (vp g31 7) (wS h49) ?_
 refine ld (vi x_f.Epoch) (wS h49) isAgg_3 b35 ?_
 refine pu (vb (decide (x_f.Epoch = 0))) (wS h49) ?_
 refine pk (vb (decide (x_f.Epoch = 0))) wN h49 ?_
 refine mv (vb (decide (x_f.Epoch = 0))) wN ?_
 rcases bf (decide (x_f.Epoch = 0)) with h51 | h51
 ·have q62 := of_decide_eq_false h51
  refine sk h51 ?_
  refine sk h51 ?_
  refine sk h51 ?_
  refine pf (vb false) wN h51 ?_
  refine mv (vb false) wN ?_
  refine sk (Eq.refl false) ?_
  refine sk (Eq.refl false) ?_
  refine sk (Eq.refl false) ?_
  refine sk (Eq.refl false) ?_
  refine pf (vb false) wN (Eq.refl false) ?_
  refine mv (vb false) wN ?_
  refine sk (Eq.refl false) ?_
  refine sk (Eq.refl false) ?_
  refine sk (Eq.refl false) ?_
  refine sk (Eq.refl false) ?_
  refine pf (vb false) wN (Eq.refl false) ?_
  refine ag (vb false) wN ?_
  refine wl_nil <| wq_then <| wc_ret ?_
  refine ret_1 (.inl rfl) (vb false) rfl rfl ?_
  refine ⟨m36.keep0, ?_⟩
  have hF63 : F_spec_l19NoFrame x_f = false := by simp only [F_spec_l19NoFrame, h37, h39, h41, h43, h45, h47, h49, h51, cond_true, cond_false]
  rw [hF63]
  exact rfl
 have q52 := of_decide_eq_true h51
 refine pu (vp g31 8) (wS h51) ?_
 refine ld (vi x_f.Seq) (wS h51) isAgg_3 b35 ?_
 refine pu (vb (decide (x_f.Seq = 0))) (wS h51) ?_
 refine pk (vb (decide (x_f.Seq = 0))) wN h51 ?_
 refine mv (vb (decide (x_f.Seq = 0))) wN ?_
 rcases bf (decide (x_f.Seq = 0)) with h53 | h53
 ·have q60 := of_decide_eq_false h53
  refine sk h53 ?_
  refine sk h53 ?_
  refine sk h53 ?_
  refine sk h53 ?_
  refine pf (vb false) wN h53 ?_
  refine mv (vb false) wN ?_
  refine sk (Eq.refl false) ?_
  refine sk (Eq.refl false) ?_
  refine sk (Eq.refl false) ?_
  refine sk (Eq.refl false) ?_
  refine pf (vb false) wN (Eq.refl false) ?_
  refine ag (vb false) wN ?_
  refine wl_nil <| wq_then <| wc_ret ?_
  refine ret_1 (.inl rfl) (vb false) rfl rfl ?_
  refine ⟨m36.keep0, ?_⟩
  have hF61 : F_spec_l19NoFrame x_f = false := by simp only [F_spec_l19NoFrame, h37, h39, h41, h43, h45, h47, h49, h51, h53, cond_true, cond_false]
  rw [hF61]
  exact rfl
 have q54 := of_decide_eq_true h53
 refine pu (vp g31 9) (wS h53) ?_
 refine ld (vs a21 x_f.Body.length c22) (wS h53) isAgg_22 b35 ?_
 refine ln (wS h53) slTy_22 (r23.from0 m36) ?_
 refine pu (vb (decide ((x_f.Body.length : Int) = 0))) (wS h53) ?_
 refine pk (vb (decide ((x_f.Body.length : Int) = 0))) wN h53 ?_
 refine mv (vb (decide ((x_f.Body.length : Int) = 0))) wN ?_
 rcases bf (decide ((x_f.Body.length : Int) = 0)) with h55 | h55
 ·have q58 := of_decide_eq_false h55
  refine sk h55 ?_
  refine sk h55 ?_
  refine sk h55 ?_
  refine sk h55 ?_
  refine pf (vb false) wN h55 ?_
  refine ag (vb false) wN ?_
  refine wl_nil <| wq_then <| wc_ret ?_
  refine ret_1 (.inl rfl) (vb false) rfl rfl ?_
  refine ⟨m36.keep0, ?_⟩
  have hF59 : F_spec_l19NoFrame x_f = false := by simp only [F_spec_l19NoFrame, h37, h39, h41, h43, h45, h47, h49, h51, h53, h55, cond_true, cond_false]
  rw [hF59]
  exact rfl
 have q56 := of_decide_eq_true h55
 refine pu (vp g31 10) (wS h55) ?_
 refine ld (vs a26 x_f.Tag.length c27) (wS h55) isAgg_22 b35 ?_
 refine ln (wS h55) slTy_22 (r28.from0 m36) ?_
 refine pu (vb (decide ((x_f.Tag.length : Int) = 0))) (wS h55) ?_
 refine pk (vb (decide ((x_f.Tag.length : Int) = 0))) wN h55 ?_
 refine ag (vb (decide ((x_f.Tag.length : Int) = 0))) wN ?_
 refine wl_nil <| wq_then <| wc_ret ?_
 refine ret_1 (.inl rfl) (vb (decide ((x_f.Tag.length : Int) = 0))) rfl rfl ?_
 refine ⟨m36.keep0, ?_⟩
 have hF57 : F_spec_l19NoFrame x_f = decide ((x_f.Tag.length : Int) = 0) := by simp only [F_spec_l19NoFrame, h37, h39, h41, h43, h45, h47, h49, h51, h53, h55, cond_true, cond_false]
 rw [hF57]
 exact rfl

def R_92 (w : World) (v : Value) (x : (PEp)) : Prop := ∃ (a1 : Option Addr) (c1 : Nat) (a2 : Option Addr) (c2 : Nat), v = .agg #[.int .i64 x.N, .slice a1 x.Key.length c1, .int .i64 x.Seq, .int .i64 x.Win.Top, .slice a2 x.Win.Bits.length c2] ∧ Rd w 1 (.slice a1 x.Key.length c1) x.Key.length (x.Key.map bV) ∧ x.Key.length ≤ 1073741824 ∧ Rd w 1 (.slice a2 x.Win.Bits.length c2) x.Win.Bits.length (x.Win.Bits.map iV) ∧ x.Win.Bits.length ≤ 1073741824
def F_spec_l14None (x_e : PEp) : (Bool) := bif (decide (x_e.N = 0)) then (bif (decide ((x_e.Key.length : Int) = 0)) then (bif (decide (x_e.Seq = 0)) then (bif (decide (x_e.Win.Top = 0)) then (decide ((x_e.Win.Bits.length : Int) = 0)) else (false)) else (false)) else (false)) else (false)
theorem C_spec_l14None (w0 : World) (v_x_e : Value) (x_e : PEp) (r_x_e : R_92 w0 v_x_e x_e)  : Fn Try.prog 154 #[v_x_e] w0 (fun v w' => Keep w0 w' ∧ O_4 w' w0.heap.size v (F_spec_l14None x_e)) := by
 obtain ⟨a1, c2, a6, c7, rfl, r3, s4, r8, s9⟩ := r_x_e
 refine fn_of (n := 30) (l := [(va (L_92 x_e a1 c2 a6 c7)), U, U, U, U, U, U, U, U, U, U, U, U, U, U, U, U, U, U, U, U, U, U, U, U, U, U, U, U, U]) Try.func154 rfl rfl (by kernel_rfl) rfl ?_
 refine sr ?_
 refine bx (L_92 x_e a1 c2 a6 c7) wN ?_
 intro g11 w1 p12 p13 k14 b15
 have m16 := (Ch.base w0).extk k14
 refine ag (vb false) wN ?_
 refine nx ?_
 refine pu (vp g11 0) wN ?_
 refine ld (vi x_e.N) wN isAgg_3 b15 ?_
 refine pu (vb (decide (x_e.N = 0))) wN ?_
 refine mv (vb (decide (x_e.N = 0))) wN ?_
 rcases bf (decide (x_e.N = 0)) with h17 | h17
 ·have q32 := of_decide_eq_false h17
  refine sk h17 ?_
  refine sk h17 ?_
  refine sk h17 ?_
  refine sk h17 ?_
  refine pf (vb false) wN h17 ?_
  refine mv (vb false) wN ?_
  refine sk (Eq.refl false) ?_
  refine sk (Eq.refl false) ?_
  refine sk (Eq.refl false) ?_
  refine pf (vb false) wN (Eq.refl false) ?_
  refine mv (vb false) wN ?_
  refine sk (Eq.refl false) ?_
  refine sk (Eq.refl false) ?_
  refine sk (Eq.refl false) ?_
  refine sk (Eq.refl false) ?_
  refine pf (vb false) wN (Eq.refl false) ?_
  refine mv (vb false) wN ?_
  refine sk (Eq.refl false) ?_
  refine sk (Eq.refl false) ?_
  refine sk (Eq.refl false) ?_
  refine sk (Eq.refl false) ?_
  refine sk (Eq.refl false) ?_
  refine pf (vb false) wN (Eq.refl false) ?_
  refine ag (vb false) wN ?_
  refine wl_nil <| wq_then <| wc_ret ?_
  refine ret_1 (.inl rfl) (vb false) rfl rfl ?_
  refine ⟨m16.keep0, ?_⟩
  have hF33 : F_spec_l14None x_e = false := by simp only [F_spec_l14None, h17, cond_true, cond_false]
  rw [hF33]
  exact rfl
 have q18 := of_decide_eq_true h17
 refine pu (vp g11 1) (wS h17) ?_
 refine ld (vs a1 x_e.Key.length c2) (wS h17) isAgg_22 b15 ?_
 refine ln (wS h17) slTy_22 (r3.from0 m16) ?_
 refine pu (vb (decide ((x_e.Key.length : Int) = 0))) (wS h17) ?_
 refine pk (vb (decide ((x_e.Key.length : Int) = 0))) wN h17 ?_
 refine mv (vb (decide ((x_e.Key.length : Int) = 0))) wN ?_
 rcases bf (decide ((x_e.Key.length : Int) = 0)) with h19 | h19
 ·have q30 := of_decide_eq_false h19
  refine sk h19 ?_
  refine sk h19 ?_
  refine sk h19 ?_
  refine pf (vb false) wN h19 ?_
  refine mv (vb false) wN ?_
  refine sk (Eq.refl false) ?_
  refine sk (Eq.refl false) ?_
  refine sk (Eq.refl false) ?_
  refine sk (Eq.refl false) ?_
  refine pf (vb false) wN (Eq.refl false) ?_
  refine mv (vb false) wN ?_
  refine sk (Eq.refl false) ?_
  refine sk (Eq.refl false) ?_
  refine sk (Eq.refl false) ?_
  refine sk (Eq.refl false) ?_
  refine sk (Eq.refl false) ?_
  refine pf (vb false) wN (Eq.refl false) ?_
  refine ag (vb false) wN ?_
  refine wl_nil <| wq_then <| wc_ret ?_
  refine ret_1 (.inl rfl) (vb false) rfl rfl ?_
  refine ⟨m16.keep0, ?_⟩
  have hF31 : F_spec_l14None x_e = false := by simp only [F_spec_l14None, h17, h19, cond_true, cond_false]
  rw [hF31]
  exact rfl
 have q20 := of_decide_eq_true h19
 refine pu (vp g11 2) (wS h19) ?_
 refine ld (vi x_e.Seq) (wS h19) isAgg_3 b15 ?_
 refine pu (vb (decide (x_e.Seq = 0))) (wS h19) ?_
 refine pk (vb (decide (x_e.Seq = 0))) wN h19 ?_
 refine mv (vb (decide (x_e.Seq = 0))) wN ?_
 rcases bf (decide (x_e.Seq = 0)) with h21 | h21
 ·have q28 := of_decide_eq_false h21
  refine sk h21 ?_
  refine sk h21 ?_
  refine sk h21 ?_
  refine sk h21 ?_
  refine pf (vb false) wN h21 ?_
  refine mv (vb false) wN ?_
  refine sk (Eq.refl false) ?_
  refine sk (Eq.refl false) ?_
  refine sk (Eq.refl false) ?_
  refine sk (Eq.refl false) ?_
  refine sk (Eq.refl false) ?_
  refine pf (vb false) wN (Eq.refl false) ?_
  refine ag (vb false) wN ?_
  refine wl_nil <| wq_then <| wc_ret ?_
  refine ret_1 (.inl rfl) (vb false) rfl rfl ?_
  refine ⟨m16.keep0, ?_⟩
  have hF29 : F_spec_l14None x_e = false := by simp only [F_spec_l14None, h17, h19, h21, cond_true, cond_false]
  rw [hF29]
  exact rfl
 have q22 := of_decide_eq_true h21
 refine pu (vp g11 3) (wS h21) ?_
 refine pu (vp g11 3) (wS h21) ?_
 refine ld (vi x_e.Win.Top) (wS h21) isAgg_3 b15 ?_
 refine pu (vb (decide (x_e.Win.Top = 0))) (wS h21) ?_
 refine pk (vb (decide (x_e.Win.Top = 0))) wN h21 ?_
 refine mv (vb (decide (x_e.Win.Top = 0))) wN ?_
 rcases bf (decide (x_e.Win.Top = 0)) with h23 | h23
 ·have q26 := of_decide_eq_false h23
  refine sk h23 ?_
  refine sk h23 ?_
  refine sk h23 ?_
  refine sk h23 ?_
  refine sk h23 ?_
  refine pf (vb false) wN h23 ?_
  refine ag (vb false) wN ?_
  refine wl_nil <| wq_then <| wc_ret ?_
  refine ret_1 (.inl rfl) (vb false) rfl rfl ?_
  refine ⟨m16.keep0, ?_⟩
  have hF27 : F_spec_l14None x_e = false := by simp only [F_spec_l14None, h17, h19, h21, h23, cond_true, cond_false]
  rw [hF27]
  exact rfl
 have q24 := of_decide_eq_true h23
 refine pu (vp g11 3) (wS h23) ?_
 refine pu (vp g11 4) (wS h23) ?_
 refine ld (vs a6 x_e.Win.Bits.length c7) (wS h23) isAgg_88 b15 ?_
 refine ln (wS h23) slTy_88 (r8.from0 m16) ?_
 refine pu (vb (decide ((x_e.Win.Bits.length : Int) = 0))) (wS h23) ?_
 refine pk (vb (decide ((x_e.Win.Bits.length : Int) = 0))) wN h23 ?_
 refine ag (vb (decide ((x_e.Win.Bits.length : Int) = 0))) wN ?_
 refine wl_nil <| wq_then <| wc_ret ?_
 refine ret_1 (.inl rfl) (vb (decide ((x_e.Win.Bits.length : Int) = 0))) rfl rfl ?_
 refine ⟨m16.keep0, ?_⟩
 have hF25 : F_spec_l14None x_e = decide ((x_e.Win.Bits.length : Int) = 0) := by simp only [F_spec_l14None, h17, h19, h21, h23, cond_true, cond_false]
 rw [hF25]
 exact rfl

def R_94 (w : World) (v : Value) (x : (PChan)) : Prop := ∃ (a1 : Option Addr) (c1 : Nat) (a2 : Option Addr) (c2 : Nat) (a3 : Option Addr) (c3 : Nat) (a4 : Option Addr) (c4 : Nat) (a5 : Option Addr) (c5 : Nat) (a6 : Option Addr) (c6 : Nat), v = .agg #[.int .i64 x.Role, .slice a1 x.Sn.length c1, .int .i64 x.Cur.N, .slice a2 x.Cur.Key.length c2, .int .i64 x.Cur.Seq, .int .i64 x.Cur.Win.Top, .slice a3 x.Cur.Win.Bits.length c3, .int .i64 x.Old.N, .slice a4 x.Old.Key.length c4, .int .i64 x.Old.Seq, .int .i64 x.Old.Win.Top, .slice a5 x.Old.Win.Bits.length c5, .bool x.HasOld, .int .i64 x.Until, .slice a6 x.Next.length c6] ∧ Rd w 1 (.slice a1 x.Sn.length c1) x.Sn.length (x.Sn.map bV) ∧ x.Sn.length ≤ 1073741824 ∧ Rd w 1 (.slice a2 x.Cur.Key.length c2) x.Cur.Key.length (x.Cur.Key.map bV) ∧ x.Cur.Key.length ≤ 1073741824 ∧ Rd w 1 (.slice a3 x.Cur.Win.Bits.length c3) x.Cur.Win.Bits.length (x.Cur.Win.Bits.map iV) ∧ x.Cur.Win.Bits.length ≤ 1073741824 ∧ Rd w 1 (.slice a4 x.Old.Key.length c4) x.Old.Key.length (x.Old.Key.map bV) ∧ x.Old.Key.length ≤ 1073741824 ∧ Rd w 1 (.slice a5 x.Old.Win.Bits.length c5) x.Old.Win.Bits.length (x.Old.Win.Bits.map iV) ∧ x.Old.Win.Bits.length ≤ 1073741824 ∧ Rd w 1 (.slice a6 x.Next.length c6) x.Next.length (x.Next.map bV) ∧ x.Next.length ≤ 1073741824
theorem mR_92 {w : World} {x : PEp} {a1 : Option Addr} {c1 : Nat} {a2 : Option Addr} {c2 : Nat} (h1 : Rd w 1 (.slice a1 x.Key.length c1) x.Key.length (x.Key.map bV)) (l1 : x.Key.length ≤ 1073741824) (h2 : Rd w 1 (.slice a2 x.Win.Bits.length c2) x.Win.Bits.length (x.Win.Bits.map iV)) (l2 : x.Win.Bits.length ≤ 1073741824) : R_92 w (va (L_92 x a1 c1 a2 c2)) x := ⟨_, _, _, _, rfl, h1, l1, h2, l2⟩
def F_spec_l19NoChan (x_c : PChan) : (Bool) := bif (decide (x_c.Role = 0)) then (bif (decide ((x_c.Sn.length : Int) = 0)) then (bif (F_spec_l14None x_c.Cur) then (bif (F_spec_l14None x_c.Old) then (bif x_c.HasOld then (false) else (bif (decide (x_c.Until = 0)) then (decide ((x_c.Next.length : Int) = 0)) else (false))) else (false)) else (false)) else (false)) else (false)
theorem C_spec_l19NoChan (w0 : World) (v_x_c : Value) (x_c : PChan) (r_x_c : R_94 w0 v_x_c x_c)  : Fn Try.prog 130 #[v_x_c] w0 (fun v w' => Keep w0 w' ∧ O_4 w' w0.heap.size v (F_spec_l19NoChan x_c)) := by
 obtain ⟨a1, c2, a6, c7, a11, c12, a16, c17, a21, c22, a26, c27, rfl, r3, s4, r8, s9, r13, s14, r18, s19, r23, s24, r28, s29⟩ := r_x_c
 refine fn_of (n := 38) (l := [(va (L_94 x_c a1 c2 a6 c7 a11 c12 a16 c17 a21 c22 a26 c27)), U, U, U, U, U, U, U, U, U, U, U, U, U, U, U, U, U, U, U, U, U, U, U, U, U, U, U, U, U, U, U, U, U, U, U, U, U]) Try.func130 rfl rfl (by kernel_rfl) rfl ?_
 refine sr ?_
 refine bx (L_94 x_c a1 c2 a6 c7 a11 c12 a16 c17 a21 c22 a26 c27) wN ?_
 intro g31 w1 p32 p33 k34 b35
 have m36 := (Ch.base w0).extk k34
 refine ag (vb false) wN ?_
 refine nx ?_
 refine pu (vp g31 0) wN ?_
 refine ld (vi x_c.Role) wN isAgg_3 b35 ?_
 refine pu (vb (decide (x_c.Role = 0))) wN ?_
 refine mv (vb (decide (x_c.Role = 0))) wN ?_
 rcases bf (decide (x_c.Role = 0)) with h37 | h37
 ·have q66 := of_decide_eq_false h37
  refine sk h37 ?_
  refine sk h37 ?_
  refine sk h37 ?_
  refine sk h37 ?_
  refine pf (vb false) wN h37 ?_
  refine mv (vb false) wN ?_
  refine sk (Eq.refl false) ?_
  refine sk (Eq.refl false) ?_
  refine sk (Eq.refl false) ?_
  refine pf (vb false) wN (Eq.refl false) ?_
  refine mv (vb false) wN ?_
  refine sk (Eq.refl false) ?_
  refine sk (Eq.refl false) ?_
  refine sk (Eq.refl false) ?_
  refine pf (vb false) wN (Eq.refl false) ?_
  refine mv (vb false) wN ?_
  refine sk (Eq.refl false) ?_
  refine sk (Eq.refl false) ?_
  refine sk (Eq.refl false) ?_
  refine pf (vb false) wN (Eq.refl false) ?_
  refine mv (vb false) wN ?_
  refine sk (Eq.refl false) ?_
  refine sk (Eq.refl false) ?_
  refine sk (Eq.refl false) ?_
  refine pf (vb false) wN (Eq.refl false) ?_
  refine mv (vb false) wN ?_
  refine sk (Eq.refl false) ?_
  refine sk (Eq.refl false) ?_
  refine sk (Eq.refl false) ?_
  refine sk (Eq.refl false) ?_
  refine pf (vb false) wN (Eq.refl false) ?_
  refine ag (vb false) wN ?_
  refine wl_nil <| wq_then <| wc_ret ?_
  refine ret_1 (.inl rfl) (vb false) rfl rfl ?_
  refine ⟨m36.keep0, ?_⟩
  have hF67 : F_spec_l19NoChan x_c = false := by simp only [F_spec_l19NoChan, h37, cond_true, cond_false]
  rw [hF67]
  exact rfl
 have q38 := of_decide_eq_true h37
 refine pu (vp g31 1) (wS h37) ?_
 refine ld (vs a1 x_c.Sn.length c2) (wS h37) isAgg_22 b35 ?_
 refine ln (wS h37) slTy_22 (r3.from0 m36) ?_
 refine pu (vb (decide ((x_c.Sn.length : Int) = 0))) (wS h37) ?_
 refine pk (vb (decide ((x_c.Sn.length : Int) = 0))) wN h37 ?_
 refine mv (vb (decide ((x_c.Sn.length : Int) = 0))) wN ?_
 rcases bf (decide ((x_c.Sn.length : Int) = 0)) with h39 | h39
 ·have q64 := of_decide_eq_false h39
  refine sk h39 ?_
  refine sk h39 ?_
  refine sk h39 ?_
  refine pf (vb false) wN h39 ?_
  refine mv (vb false) wN ?_
  refine sk (Eq.refl false) ?_
  refine sk (Eq.refl false) ?_
  refine sk (Eq.refl false) ?_
  refine pf (vb false) wN (Eq.refl false) ?_
  refine mv (vb false) wN ?_
  refine sk (Eq.refl false) ?_
  refine sk (Eq.refl false) ?_
  refine sk (Eq.refl false) ?_
  refine pf (vb false) wN (Eq.refl false) ?_
  refine mv (vb false) wN ?_
  refine sk (Eq.refl false) ?_
  refine sk (Eq.refl false) ?_
  refine sk (Eq.refl false) ?_
  refine pf (vb false) wN (Eq.refl false) ?_
  refine mv (vb false) wN ?_
  refine sk (Eq.refl false) ?_
  refine sk (Eq.refl false) ?_
  refine sk (Eq.refl false) ?_
  refine sk (Eq.refl false) ?_
  refine pf (vb false) wN (Eq.refl false) ?_
  refine ag (vb false) wN ?_
  refine wl_nil <| wq_then <| wc_ret ?_
  refine ret_1 (.inl rfl) (vb false) rfl rfl ?_
  refine ⟨m36.keep0, ?_⟩
  have hF65 : F_spec_l19NoChan x_c = false := by simp only [F_spec_l19NoChan, h37, h39, cond_true, cond_false]
  rw [hF65]
  exact rfl
 have q40 := of_decide_eq_true h39
 refine pu (vp g31 2) (wS h39) ?_
 refine lN (L_92 x_c.Cur a6 c7 a11 c12) (wS h39) isAgg_92 sizeOf_92 b35 ?_
 refine cl (wS h39) (C_spec_l14None w1 _ x_c.Cur (mR_92 (r8.from0 m36) s9 (r13.from0 m36) s14)) ?_
 rintro _ w2 ⟨k41, rfl⟩
 have m42 := m36.extk k41
 refine pk (vb (F_spec_l14None x_c.Cur)) wN h39 ?_
 refine mv (vb (F_spec_l14None x_c.Cur)) wN ?_
 rcases bf (F_spec_l14None x_c.Cur) with h43 | h43
 ·refine sk h43 ?_
  refine sk h43 ?_
  refine sk h43 ?_
  refine pf (vb false) wN h43 ?_
  refine mv (vb false) wN ?_
  refine sk (Eq.refl false) ?_
  refine sk (Eq.refl false) ?_
  refine sk (Eq.refl false) ?_
  refine pf (vb false) wN (Eq.refl false) ?_
  refine mv (vb false) wN ?_
  refine sk (Eq.refl false) ?_
  refine sk (Eq.refl false) ?_
  refine sk (Eq.refl false) ?_
  refine pf (vb false) wN (Eq.refl false) ?_
  refine mv (vb false) wN ?_
  refine sk (Eq.refl false) ?_
  refine sk (Eq.refl false) ?_
  refine sk (Eq.refl false) ?_
  refine sk (Eq.refl false) ?_
  refine pf (vb false) wN (Eq.refl false) ?_
  refine ag (vb false) wN ?_
  refine wl_nil <| wq_then <| wc_ret ?_
  refine ret_1 (.inl rfl) (vb false) rfl rfl ?_
  refine ⟨m42.keep0, ?_⟩
  have hF63 : F_spec_l19NoChan x_c = false := by simp only [F_spec_l19NoChan, h37, h39, h43, cond_true, cond_false]
  rw [hF63]
  exact rfl
 refine pu (vp g31 7) (wS h43) ?_
 have b45 := (b35.kp k41)
 refine lN (L_92 x_c.Old a16 c17 a21 c22) (wS h43) isAgg_92 sizeOf_92 b45 ?_
 refine cl (wS h43) (C_spec_l14None w2 _ x_c.Old (mR_92 (r18.from0 m42) s19 (r23.from0 m42) s24)) ?_
 rintro _ w3 ⟨k46, rfl⟩
 have m47 := m42.extk k46
 refine pk (vb (F_spec_l14None x_c.Old)) wN h43 ?_
 refine mv (vb (F_spec_l14None x_c.Old)) wN ?_
 rcases bf (F_spec_l14None x_c.Old) with h48 | h48
 ·refine sk h48 ?_
  refine sk h48 ?_
  refine sk h48 ?_
  refine pf (vb false) wN h48 ?_
  refine mv (vb false) wN ?_
  refine sk (Eq.refl false) ?_
  refine sk (Eq.refl false) ?_
  refine sk (Eq.refl false) ?_
  refine pf (vb false) wN (Eq.refl false) ?_
  refine mv (vb false) wN ?_
  refine sk (Eq.refl false) ?_
  refine sk (Eq.refl false) ?_
  refine sk (Eq.refl false) ?_
  refine sk (Eq.refl false) ?_
  refine pf (vb false) wN (Eq.refl false) ?_
  refine ag (vb false) wN ?_
  refine wl_nil <| wq_then <| wc_ret ?_
  refine ret_1 (.inl rfl) (vb false) rfl rfl ?_
  refine ⟨m47.keep0, ?_⟩
  have hF61 : F_spec_l19NoChan x_c = false := by simp only [F_spec_l19NoChan, h37, h39, h43, h48, cond_true, cond_false]
  rw [hF61]
  exact rfl
 refine pu (vp g31 12) (wS h48) ?_
 have b50 := (b45.kp k46)
 refine ld (vb x_c.HasOld) (wS h48) isAgg_4 b50 ?_
 refine pu (vb (!x_c.HasOld)) (wS h48) ?_
 refine pk (vb (!x_c.HasOld)) wN h48 ?_
 refine mv (vb (!x_c.HasOld)) wN ?_
 rcases bt x_c.HasOld with h51 | h51
 ·refine sk (congrArg not h51) ?_
  refine sk (congrArg not h51) ?_
  refine sk (congrArg not h51) ?_
  refine pf (vb false) wN (congrArg not h51) ?_
  refine mv (vb false) wN ?_
  refine sk (Eq.refl false) ?_
  refine sk (Eq.refl false) ?_
  refine sk (Eq.refl false) ?_
  refine sk (Eq.refl false) ?_
  refine pf (vb false) wN (Eq.refl false) ?_
  refine ag (vb false) wN ?_
  refine wl_nil <| wq_then <| wc_ret ?_
  refine ret_1 (.inl rfl) (vb false) rfl rfl ?_
  refine ⟨m47.keep0, ?_⟩
  have hF53 : F_spec_l19NoChan x_c = false := by simp only [F_spec_l19NoChan, h37, h39, h43, h48, h51, cond_true, cond_false]
  rw [hF53]
  exact rfl
 refine pu (vp g31 13) (wS (congrArg not h51)) ?_
 refine ld (vi x_c.Until) (wS (congrArg not h51)) isAgg_3 b50 ?_
 refine pu (vb (decide (x_c.Until = 0))) (wS (congrArg not h51)) ?_
 refine pk (vb (decide (x_c.Until = 0))) wN (congrArg not h51) ?_
 refine mv (vb (decide (x_c.Until = 0))) wN ?_
 rcases bf (decide (x_c.Until = 0)) with h55 | h55
 ·have q58 := of_decide_eq_false h55
  refine sk h55 ?_
  refine sk h55 ?_
  refine sk h55 ?_
  refine sk h55 ?_
  refine pf (vb false) wN h55 ?_
  refine ag (vb false) wN ?_
  refine wl_nil <| wq_then <| wc_ret ?_
  refine ret_1 (.inl rfl) (vb false) rfl rfl ?_
  refine ⟨m47.keep0, ?_⟩
  have hF59 : F_spec_l19NoChan x_c = false := by simp only [F_spec_l19NoChan, h37, h39, h43, h48, h51, h55, cond_true, cond_false]
  rw [hF59]
  exact rfl
 have q56 := of_decide_eq_true h55
 refine pu (vp g31 14) (wS h55) ?_
 refine ld (vs a26 x_c.Next.length c27) (wS h55) isAgg_22 b50 ?_
 refine ln (wS h55) slTy_22 (r28.from0 m47) ?_
 refine pu (vb (decide ((x_c.Next.length : Int) = 0))) (wS h55) ?_
 refine pk (vb (decide ((x_c.Next.length : Int) = 0))) wN h55 ?_
 refine ag (vb (decide ((x_c.Next.length : Int) = 0))) wN ?_
 refine wl_nil <| wq_then <| wc_ret ?_
 refine ret_1 (.inl rfl) (vb (decide ((x_c.Next.length : Int) = 0))) rfl rfl ?_
 refine ⟨m47.keep0, ?_⟩
 have hF57 : F_spec_l19NoChan x_c = decide ((x_c.Next.length : Int) = 0) := by simp only [F_spec_l19NoChan, h37, h39, h43, h48, h51, h55, cond_true, cond_false]
 rw [hF57]
 exact rfl

def R_90 (w : World) (v : Value) (x : (PWin)) : Prop := ∃ (a1 : Option Addr) (c1 : Nat), v = .agg #[.int .i64 x.Top, .slice a1 x.Bits.length c1] ∧ Rd w 1 (.slice a1 x.Bits.length c1) x.Bits.length (x.Bits.map iV) ∧ x.Bits.length ≤ 1073741824
def F_spec_l8Bit (x_w : PWin) (x_n : Int) : (Bool) := decide ((((x_w.Bits.getD (((x_n % 1024) / 32)).toNat 0) / (2 : Int) ^ (((x_n % 1024) % 32)).toNat) % 2) = 1)
theorem C_spec_l8Bit (w0 : World) (v_x_w : Value) (x_w : PWin) (r_x_w : R_90 w0 v_x_w x_w) (x_n : Int) (pre0 : x_w.Bits.length = 32) (pre1 : 0 ≤ x_n) : Fn Try.prog 183 #[v_x_w, (vi x_n)] w0 (fun v w' => Keep w0 w' ∧ O_4 w' w0.heap.size v (F_spec_l8Bit x_w x_n)) := by
 obtain ⟨a1, c2, rfl, r3, s4⟩ := r_x_w
 refine fn_of (n := 19) (l := [(va (L_90 x_w a1 c2)), (vi x_n), U, U, U, U, U, U, U, U, U, U, U, U, U, U, U, U, U]) Try.func183 rfl rfl (by kernel_rfl) rfl ?_
 refine sr ?_
 refine bx (L_90 x_w a1 c2) wN ?_
 intro g6 w1 p7 p8 k9 b10
 have m11 := (Ch.base w0).extk k9
 refine ag (vb false) wN ?_
 refine nx ?_
 refine mv (vi x_n) wN ?_
 refine wl_rem x_n 1024 wN rfl rfl (by kernel_rfl) (by first | omega | assumption) ?_
 refine ag (vi (x_n % 1024)) wN ?_
 refine nx ?_
 refine pu (vp g6 1) wN ?_
 refine ld (vs a1 x_w.Bits.length c2) wN isAgg_88 b10 ?_
 refine mv (vi (x_n % 1024)) wN ?_
 refine wl_quo (x_n % 1024) 32 wN rfl rfl (by kernel_rfl) (by omega) (by omega) (by omega) ?_
 refine wl_index wN ((x_n % 1024) / 32) rfl rfl rfl slTy_88 rfl rfl (r3.from0 m11) (by first | omega | (simp only [List.length_cons, List.length_nil, List.length_replicate, List.length_append, List.length_take, List.length_set, List.length_map]; omega)) (by first | omega | (simp only [List.length_cons, List.length_nil, List.length_replicate, List.length_append, List.length_take, List.length_set, List.length_map]; omega)) ?_
 refine wl_loadE (iV (x_w.Bits.getD (((x_n % 1024) / 32)).toNat 0)) wN rfl rfl rfl rfl isAgg_3 (r3.from0 m11) (iget (by simp) (by first | omega | (simp only [List.length_cons, List.length_nil, List.length_replicate, List.length_append, List.length_take, List.length_set, List.length_map]; omega))) ?_
 refine mv (vi (x_n % 1024)) wN ?_
 refine wl_rem (x_n % 1024) 32 wN rfl rfl (by kernel_rfl) (by first | omega | assumption) ?_
 refine wl_shr (x_w.Bits.getD (((x_n % 1024) / 32)).toNat 0) ((x_n % 1024) % 32) wN rfl rfl rfl rfl rfl (by omega) (by omega) ?_
 refine wl_and ((x_w.Bits.getD (((x_n % 1024) / 32)).toNat 0) / (2 : Int) ^ (((x_n % 1024) % 32)).toNat) 1 2 1 wN rfl rfl (by decide) (by decide) (by decide) (by kernel_rfl) ?_
 refine pu (vb (decide ((((x_w.Bits.getD (((x_n % 1024) / 32)).toNat 0) / (2 : Int) ^ (((x_n % 1024) % 32)).toNat) % 2) = 1))) wN ?_
 refine ag (vb (decide ((((x_w.Bits.getD (((x_n % 1024) / 32)).toNat 0) / (2 : Int) ^ (((x_n % 1024) % 32)).toNat) % 2) = 1))) wN ?_
 refine wl_nil <| wq_then <| wc_ret ?_
 refine ret_1 (.inl rfl) (vb (decide ((((x_w.Bits.getD (((x_n % 1024) / 32)).toNat 0) / (2 : Int) ^ (((x_n % 1024) % 32)).toNat) % 2) = 1))) rfl rfl ?_
 refine ⟨m11.keep0, ?_⟩
 have hF12 : F_spec_l8Bit x_w x_n = decide ((((x_w.Bits.getD (((x_n % 1024) / 32)).toNat 0) / (2 : Int) ^ (((x_n % 1024) % 32)).toNat) % 2) = 1) := by rfl
 rw [hF12]
 exact rfl

theorem mR_90 {w : World} {x : PWin} {a1 : Option Addr} {c1 : Nat} (h1 : Rd w 1 (.slice a1 x.Bits.length c1) x.Bits.length (x.Bits.map iV)) (l1 : x.Bits.length ≤ 1073741824) : R_90 w (va (L_90 x a1 c1)) x := ⟨_, _, rfl, h1, l1⟩
def sWin (w : PWin) : Bool := bif (decide ((w.Bits.length : Int) = 32)) then (bif F_spec_l1In w.Top (-1) 281474976710655 then (bif allW w.Bits then (bif decide (0 ≤ w.Top) && !(F_spec_l8Bit w w.Top) then false else noneIn (F_spec_l8Bit w) (w.Top + 1) 1024) else false) else false) else false
theorem C_spec_WinOk (w0 : World) (v_x_w : Value) (x_w : PWin) (r_x_w : R_90 w0 v_x_w x_w)  : Fn Try.prog 172 #[v_x_w] w0 (fun v w' => Keep w0 w' ∧ O_4 w' w0.heap.size v (sWin x_w)) := by
 obtain ⟨a1, c2, rfl, r3, s4⟩ := r_x_w
 refine fn_of (n := 46) (l := [(va (L_90 x_w a1 c2)), U, U, U, U, U, U, U, U, U, U, U, U, U, U, U, U, U, U, U, U, U, U, U, U, U, U, U, U, U, U, U, U, U, U, U, U, U, U, U, U, U, U, U, U, U]) Try.func172 rfl rfl (by kernel_rfl) rfl ?_
 refine sr ?_
 refine bx (L_90 x_w a1 c2) wN ?_
 intro g6 w1 p7 p8 k9 b10
 have m11 := (Ch.base w0).extk k9
 refine ag (vb false) wN ?_
 refine wl_nil <| wq_then <| wc_seq <| sr ?_
 refine pu (vp g6 1) wN ?_
 refine ld (vs a1 x_w.Bits.length c2) wN isAgg_88 b10 ?_
 refine ln wN slTy_88 (r3.from0 m11) ?_
 refine pu (vb (!(decide ((x_w.Bits.length : Int) = 32)))) wN ?_
 refine mv (vb (!(decide ((x_w.Bits.length : Int) = 32)))) wN ?_
 rcases bf (decide ((x_w.Bits.length : Int) = 32)) with h12 | h12
 ·have q77 := of_decide_eq_false h12
  refine sk (congrArg not h12) ?_
  refine sk (congrArg not h12) ?_
  refine sk (congrArg not h12) ?_
  refine sk (congrArg not h12) ?_
  refine pk (vb true) wN (congrArg not h12) ?_
  refine wl_nil <| wq_then ?_
  refine ct (Eq.refl true) ?_
  refine sr ?_
  refine ag (vb false) wN ?_
  refine wl_nil <| wq_then <| wc_ret <| wq_then_ret ?_
  refine ret_1 (.inl rfl) (vb false) rfl rfl ?_
  refine ⟨m11.keep0, ?_⟩
  have hF78 : sWin x_w = false := by first | (simp [sWin, h12]; done) | (have hz := allW_no (x := x_w.Bits) (k := i) (by omega) (by assumption); simp [sWin, h12, hz]; done) | (have hy := allW_all (x := x_w.Bits) (k := i) (by assumption) (by omega); simp [sWin, h12, hy]; done) | (have hy := allW_all (x := x_w.Bits) (k := i) (by assumption) (by omega); have hz := noneIn_f (f := F_spec_l8Bit x_w) (a := x_w.Top + 1) (b := 1024) (q := q) (by assumption) (by omega) (by omega); simp [sWin, h12, hy, hz]; done) | (have hy := allW_all (x := x_w.Bits) (k := i) (by assumption) (by omega); have hz := noneIn_t (f := F_spec_l8Bit x_w) (a := x_w.Top + 1) (b := 1024) (q := q) (by assumption) (by omega); simp [sWin, h12, hy, hz]; done)
  rw [hF78]
  exact rfl
 have q13 := of_decide_eq_true h12
 refine pu (vp g6 0) (wS (congrArg not h12)) ?_
 refine ld (vi x_w.Top) (wS (congrArg not h12)) isAgg_3 b10 ?_
 refine cl (wS (congrArg not h12)) (C_spec_l1In w1 x_w.Top (-1) 281474976710655) ?_
 rintro _ w2 ⟨k14, rfl⟩
 have m15 := m11.extk k14
 refine pu (vb (!(F_spec_l1In x_w.Top (-1) 281474976710655))) (wS (congrArg not h12)) ?_
 refine pf (vb (!(F_spec_l1In x_w.Top (-1) 281474976710655))) wN (congrArg not h12) ?_
 refine wl_nil <| wq_then ?_
 rcases bf (F_spec_l1In x_w.Top (-1) 281474976710655) with h16 | h16
 ·have q75 := spec_l1In_f h16
  refine ct (congrArg not h16) ?_
  refine sr ?_
  refine ag (vb false) wN ?_
  refine wl_nil <| wq_then <| wc_ret <| wq_then_ret ?_
  refine ret_1 (.inl rfl) (vb false) rfl rfl ?_
  refine ⟨m15.keep0, ?_⟩
  have hF76 : sWin x_w = false := by first | (simp [sWin, h12, h16]; done) | (have hz := allW_no (x := x_w.Bits) (k := i) (by omega) (by assumption); simp [sWin, h12, h16, hz]; done) | (have hy := allW_all (x := x_w.Bits) (k := i) (by assumption) (by omega); simp [sWin, h12, h16, hy]; done) | (have hy := allW_all (x := x_w.Bits) (k := i) (by assumption) (by omega); have hz := noneIn_f (f := F_spec_l8Bit x_w) (a := x_w.Top + 1) (b := 1024) (q := q) (by assumption) (by omega) (by omega); simp [sWin, h12, h16, hy, hz]; done) | (have hy := allW_all (x := x_w.Bits) (k := i) (by assumption) (by omega); have hz := noneIn_t (f := F_spec_l8Bit x_w) (a := x_w.Top + 1) (b := 1024) (q := q) (by assumption) (by omega); simp [sWin, h12, h16, hy, hz]; done)
  rw [hF76]
  exact rfl
 have q17 := spec_l1In_t h16
 refine cf (congrArg not h16) ?_
 refine wc_skip <| wq_then <| wc_seq <| sr ?_
 refine ag (vi 0) wN ?_
 refine wl_nil <| wq_then <| wc_block ?_
 refine wc_norm [(va (L_90 x_w a1 c2)), (vp g6 0), (vb false), (vi 0), U, (vp g6 1), (vs a1 x_w.Bits.length c2), (vi (x_w.Bits.length : Int)), (vb (!(decide ((x_w.Bits.length : Int) = 32)))), (vb (!(decide ((x_w.Bits.length : Int) = 32)))), (vp g6 0), (vi x_w.Top), (vb (F_spec_l1In x_w.Top (-1) 281474976710655)), (vb (!(F_spec_l1In x_w.Top (-1) 281474976710655))), (vb (!(F_spec_l1In x_w.Top (-1) 281474976710655))), U, U, U, U, U, U, U, U, U, U, U, U, U, U, U, U, U, U, U, U, U, U, U, U, U, U, U, U, U, U, U] rfl ⟨rfl, rfl, rfl, rfl, rfl, rfl, rfl, rfl, rfl, rfl, rfl, rfl, rfl, rfl, rfl, rfl, rfl, rfl, rfl, rfl, rfl, rfl, rfl, rfl, rfl, rfl, rfl, rfl, rfl, rfl, rfl, rfl, rfl, rfl, rfl, rfl, rfl, rfl, rfl, rfl, rfl, rfl, rfl, rfl, rfl, rfl, trivial⟩ ?_
 refine wc_loop (fun e' w' => ∃ (i : Nat) (u2x u15x u16x u17x u18x u19x u20x u21x u22x u23x u24x u25x : Value), e' = lst [(va (L_90 x_w a1 c2)), (vp g6 0), u2x, (vi ((i : Nat) : Int)), U, (vp g6 1), (vs a1 x_w.Bits.length c2), (vi (x_w.Bits.length : Int)), (vb (!(decide ((x_w.Bits.length : Int) = 32)))), (vb (!(decide ((x_w.Bits.length : Int) = 32)))), (vp g6 0), (vi x_w.Top), (vb (F_spec_l1In x_w.Top (-1) 281474976710655)), (vb (!(F_spec_l1In x_w.Top (-1) 281474976710655))), (vb (!(F_spec_l1In x_w.Top (-1) 281474976710655))), u15x, u16x, u17x, u18x, u19x, u20x, u21x, u22x, u23x, u24x, u25x, U, U, U, U, U, U, U, U, U, U, U, U, U, U, U, U, U, U, U, U] ∧ Ch (fun k => w0.heap.size ≤ k) w0 w' ∧ Ch (fun k => w2.heap.size ≤ k) w2 w' ∧ i ≤ 32 ∧ allW (x_w.Bits.take i) = true) (fun e' _ => (32 - (intOf (e' 3))).toNat) ?_ ?_
 ·exact ⟨0, (vb false), U, U, U, U, U, U, U, U, U, U, U, (congrArg (fun (x3z : Value) => lst [(va (L_90 x_w a1 c2)), (vp g6 0), (vb false), x3z, U, (vp g6 1), (vs a1 x_w.Bits.length c2), (vi (x_w.Bits.length : Int)), (vb (!(decide ((x_w.Bits.length : Int) = 32)))), (vb (!(decide ((x_w.Bits.length : Int) = 32)))), (vp g6 0), (vi x_w.Top), (vb (F_spec_l1In x_w.Top (-1) 281474976710655)), (vb (!(F_spec_l1In x_w.Top (-1) 281474976710655))), (vb (!(F_spec_l1In x_w.Top (-1) 281474976710655))), U, U, U, U, U, U, U, U, U, U, U, U, U, U, U, U, U, U, U, U, U, U, U, U, U, U, U, U, U, U, U]) (congrArg (Value.int .i64) (show (0 : Int) = ((0 : Nat) : Int) by omega))), m15, (Ch.refl (fun k => w2.heap.size ≤ k) w2), (by omega), (by first | rfl | exact allW_next (by assumption) (by omega) (by assumption))⟩
 ·rintro _ w3 ⟨i, u2x, u15x, u16x, u17x, u18x, u19x, u20x, u21x, u22x, u23x, u24x, u25x, rfl, m18, k19, i20, i21⟩
  refine wc_seq <| sr ?_
  refine mv (vi ((i : Nat) : Int)) wN ?_
  refine pu (vb (decide (((i : Nat) : Int) < 32))) wN ?_
  refine wl_nil <| wq_then ?_
  rcases bt (decide (((i : Nat) : Int) < 32)) with h22 | h22
  ·have q23 := of_decide_eq_true h22
   refine ct h22 ?_
   refine wc_skip <| wq_then <| wc_seq <| wc_block <| sr ?_
   refine pu (vp g6 1) wN ?_
   have b24 := ((b10.kp k14).ch k19 (Nat.not_le.2 (Nat.lt_of_lt_of_le p8 k14.size)))
   refine ld (vs a1 x_w.Bits.length c2) wN isAgg_88 b24 ?_
   refine mv (vi ((i : Nat) : Int)) wN ?_
   refine wl_index wN ((i : Nat) : Int) rfl rfl rfl slTy_88 rfl rfl (r3.from0 m18) (by first | omega | (simp only [List.length_cons, List.length_nil, List.length_replicate, List.length_append, List.length_take, List.length_set, List.length_map]; omega)) (by first | omega | (simp only [List.length_cons, List.length_nil, List.length_replicate, List.length_append, List.length_take, List.length_set, List.length_map]; omega)) ?_
   refine wl_loadE (iV (x_w.Bits.getD i 0)) wN rfl rfl rfl rfl isAgg_3 (r3.from0 m18) (iget (by simp) (by first | omega | (simp only [List.length_cons, List.length_nil, List.length_replicate, List.length_append, List.length_take, List.length_set, List.length_map]; omega))) ?_
   refine cl wN (C_spec_l1In w3 (x_w.Bits.getD i 0) 0 4294967295) ?_
   rintro _ w4 ⟨k25, rfl⟩
   have m26 := m18.extk k25
   refine pu (vb (!(F_spec_l1In (x_w.Bits.getD i 0) 0 4294967295))) wN ?_
   refine wl_nil <| wq_then ?_
   rcases bf (F_spec_l1In (x_w.Bits.getD i 0) 0 4294967295) with h27 | h27
   ·have q29 := spec_l1In_f h27
    refine ct (congrArg not h27) ?_
    refine sr ?_
    refine ag (vb false) wN ?_
    refine wl_nil <| wq_then <| wc_ret <| wq_blk_ret <| wq_then_ret <| wq_then_ret <| wq_blk_ret <| wq_then_ret ?_
    refine ret_1 (.inl rfl) (vb false) rfl rfl ?_
    refine ⟨m26.keep0, ?_⟩
    have hF30 : sWin x_w = false := by first | (simp [sWin, h12, h16, h22, h27]; done) | (have hz := allW_no (x := x_w.Bits) (k := i) (by omega) (by assumption); simp [sWin, h12, h16, h22, h27, hz]; done) | (have hy := allW_all (x := x_w.Bits) (k := i) (by assumption) (by omega); simp [sWin, h12, h16, h22, h27, hy]; done) | (have hy := allW_all (x := x_w.Bits) (k := i) (by assumption) (by omega); have hz := noneIn_f (f := F_spec_l8Bit x_w) (a := x_w.Top + 1) (b := 1024) (q := q) (by assumption) (by omega) (by omega); simp [sWin, h12, h16, h22, h27, hy, hz]; done) | (have hy := allW_all (x := x_w.Bits) (k := i) (by assumption) (by omega); have hz := noneIn_t (f := F_spec_l8Bit x_w) (a := x_w.Top + 1) (b := 1024) (q := q) (by assumption) (by omega); simp [sWin, h12, h16, h22, h27, hy, hz]; done)
    rw [hF30]
    exact rfl
   have q28 := spec_l1In_t h27
   refine cf (congrArg not h27) ?_
   refine wc_skip <| wq_blk_normal <| wq_then <| wc_region ?_
   refine mv (vi ((i : Nat) : Int)) wN ?_
   refine ar (((i : Nat) : Int) + 1) wN ?_
   refine ag (vi (((i : Nat) : Int) + 1)) wN ?_
   refine wl_nil ?_
   refine wq_loopN (w0 := w3) [(va (L_90 x_w a1 c2)), (vp g6 0), u2x, (vi (((i + 1) : Nat) : Int)), U, (vp g6 1), (vs a1 x_w.Bits.length c2), (vi (x_w.Bits.length : Int)), (vb (!(decide ((x_w.Bits.length : Int) = 32)))), (vb (!(decide ((x_w.Bits.length : Int) = 32)))), (vp g6 0), (vi x_w.Top), (vb (F_spec_l1In x_w.Top (-1) 281474976710655)), (vb (!(F_spec_l1In x_w.Top (-1) 281474976710655))), (vb (!(F_spec_l1In x_w.Top (-1) 281474976710655))), (vi ((i : Nat) : Int)), (vb (decide (((i : Nat) : Int) < 32))), (vi ((i : Nat) : Int)), (vi (((i : Nat) : Int) + 1)), (vp g6 1), (vs a1 x_w.Bits.length c2), (vi ((i : Nat) : Int)), (ve (vs a1 x_w.Bits.length c2) ((((i : Nat) : Int)).toNat * 1)), (vi (x_w.Bits.getD i 0)), (vb (F_spec_l1In (x_w.Bits.getD i 0) 0 4294967295)), (vb (!(F_spec_l1In (x_w.Bits.getD i 0) 0 4294967295))), U, U, U, U, U, U, U, U, U, U, U, U, U, U, U, U, U, U, U, U] rfl ?_ ?_ ?_
   · exact ⟨rfl, rfl, rfl, (congrArg (Value.int .i64) (show ((((i : Nat) : Int) + 1) : Int) = (((i + 1) : Nat) : Int) by omega)), rfl, rfl, rfl, rfl, rfl, rfl, rfl, rfl, rfl, rfl, rfl, rfl, rfl, rfl, rfl, rfl, rfl, rfl, rfl, rfl, rfl, rfl, rfl, rfl, rfl, rfl, rfl, rfl, rfl, rfl, rfl, rfl, rfl, rfl, rfl, rfl, rfl, rfl, rfl, rfl, rfl, rfl, trivial⟩
   · exact ⟨(i + 1), u2x, (vi ((i : Nat) : Int)), (vb (decide (((i : Nat) : Int) < 32))), (vi ((i : Nat) : Int)), (vi (((i : Nat) : Int) + 1)), (vp g6 1), (vs a1 x_w.Bits.length c2), (vi ((i : Nat) : Int)), (ve (vs a1 x_w.Bits.length c2) ((((i : Nat) : Int)).toNat * 1)), (vi (x_w.Bits.getD i 0)), (vb (F_spec_l1In (x_w.Bits.getD i 0) 0 4294967295)), (vb (!(F_spec_l1In (x_w.Bits.getD i 0) 0 4294967295))), rfl, m26, (((Ch.refl (fun k => w2.heap.size ≤ k) w2).ext k19 (fun k hk => Nat.le_trans (Nat.le_refl _) hk)).extk k25), (by omega), (by first | rfl | exact allW_next (by assumption) (by omega) (by assumption))⟩
   · show (32 - (((i + 1) : Nat) : Int)).toNat < (32 - ((i : Nat) : Int)).toNat; omega
  have q31 := of_decide_eq_false h22
  refine cf h22 ?_
  refine wc_exit <| wq_then_exit <| wq_then_exit <| wq_blk_exit <| wq_then <| wc_seq <| sr ?_
  refine pu (vp g6 0) wN ?_
  have b32 := ((b10.kp k14).ch k19 (Nat.not_le.2 (Nat.lt_of_lt_of_le p8 k14.size)))
  refine ld (vi x_w.Top) wN isAgg_3 b32 ?_
  refine pu (vb (decide (0 ≤ x_w.Top))) wN ?_
  refine mv (vb (decide (0 ≤ x_w.Top))) wN ?_
  rcases bf (decide (0 ≤ x_w.Top)) with h33 | h33
  ·have q58 := of_decide_eq_false h33
   refine sk h33 ?_
   refine sk h33 ?_
   refine sk h33 ?_
   refine sk h33 ?_
   refine sk h33 ?_
   refine pf (vb false) wN h33 ?_
   refine wl_nil <| wq_then ?_
   refine cf (Eq.refl false) ?_
   refine wc_skip <| wq_then <| wc_seq <| sr ?_
   refine pu (vp g6 0) wN ?_
   refine ld (vi x_w.Top) wN isAgg_3 b32 ?_
   refine ar (x_w.Top + 1) wN ?_
   refine ag (vi (x_w.Top + 1)) wN ?_
   refine wl_nil <| wq_then <| wc_block ?_
   refine wc_norm [(va (L_90 x_w a1 c2)), (vp g6 0), u2x, (vi ((i : Nat) : Int)), (vi (x_w.Top + 1)), (vp g6 1), (vs a1 x_w.Bits.length c2), (vi (x_w.Bits.length : Int)), (vb (!(decide ((x_w.Bits.length : Int) = 32)))), (vb (!(decide ((x_w.Bits.length : Int) = 32)))), (vp g6 0), (vi x_w.Top), (vb (F_spec_l1In x_w.Top (-1) 281474976710655)), (vb (!(F_spec_l1In x_w.Top (-1) 281474976710655))), (vb (!(F_spec_l1In x_w.Top (-1) 281474976710655))), (vi ((i : Nat) : Int)), (vb (decide (((i : Nat) : Int) < 32))), u17x, u18x, u19x, u20x, u21x, u22x, u23x, u24x, u25x, (vp g6 0), (vi x_w.Top), (vb (decide (0 ≤ x_w.Top))), (vb (decide (0 ≤ x_w.Top))), U, U, U, U, U, (vb false), (vp g6 0), (vi x_w.Top), (vi (x_w.Top + 1)), U, U, U, U, U, U, U] rfl ⟨rfl, rfl, rfl, rfl, rfl, rfl, rfl, rfl, rfl, rfl, rfl, rfl, rfl, rfl, rfl, rfl, rfl, rfl, rfl, rfl, rfl, rfl, rfl, rfl, rfl, rfl, rfl, rfl, rfl, rfl, rfl, rfl, rfl, rfl, rfl, rfl, rfl, rfl, rfl, rfl, rfl, rfl, rfl, rfl, rfl, rfl, trivial⟩ ?_
   refine wc_loop (fun e' w' => ∃ (q : Int) (u2x u39x u40x u41x u42x u43x u44x u45x : Value), e' = lst [(va (L_90 x_w a1 c2)), (vp g6 0), u2x, (vi ((i : Nat) : Int)), (vi q), (vp g6 1), (vs a1 x_w.Bits.length c2), (vi (x_w.Bits.length : Int)), (vb (!(decide ((x_w.Bits.length : Int) = 32)))), (vb (!(decide ((x_w.Bits.length : Int) = 32)))), (vp g6 0), (vi x_w.Top), (vb (F_spec_l1In x_w.Top (-1) 281474976710655)), (vb (!(F_spec_l1In x_w.Top (-1) 281474976710655))), (vb (!(F_spec_l1In x_w.Top (-1) 281474976710655))), (vi ((i : Nat) : Int)), (vb (decide (((i : Nat) : Int) < 32))), u17x, u18x, u19x, u20x, u21x, u22x, u23x, u24x, u25x, (vp g6 0), (vi x_w.Top), (vb (decide (0 ≤ x_w.Top))), (vb (decide (0 ≤ x_w.Top))), U, U, U, U, U, (vb false), (vp g6 0), (vi x_w.Top), (vi (x_w.Top + 1)), u39x, u40x, u41x, u42x, u43x, u44x, u45x] ∧ Ch (fun k => w0.heap.size ≤ k) w0 w' ∧ Ch (fun k => w3.heap.size ≤ k) w3 w' ∧ x_w.Top + 1 ≤ q ∧ q ≤ 281474976710656 ∧ ∀ m : Int, x_w.Top + 1 ≤ m → m < q → F_spec_l8Bit x_w m = false) (fun e' _ => (1024 - (intOf (e' 4))).toNat) ?_ ?_
   ·exact ⟨(x_w.Top + 1), u2x, U, U, U, U, U, U, U, rfl, m18, (Ch.refl (fun k => w3.heap.size ≤ k) w3), (by omega), (by omega), (by first | (intro m h1 h2; omega) | exact none_next (by assumption) (by assumption))⟩
   ·rintro _ w4 ⟨q, u2x, u39x, u40x, u41x, u42x, u43x, u44x, u45x, rfl, m59, k60, i61, i62, i63⟩
    refine wc_seq <| sr ?_
    refine mv (vi q) wN ?_
    refine pu (vb (decide (q < 1024))) wN ?_
    refine wl_nil <| wq_then ?_
    rcases bf (decide (q < 1024)) with h64 | h64
    ·have q73 := of_decide_eq_false h64
     refine cf h64 ?_
     refine wc_exit <| wq_then_exit <| wq_then_exit <| wq_blk_exit <| wq_then <| sr ?_
     refine ag (vb true) wN ?_
     refine wl_nil <| wq_then <| wc_ret ?_
     refine ret_1 (.inl rfl) (vb true) rfl rfl ?_
     refine ⟨m59.keep0, ?_⟩
     have hF74 : sWin x_w = true := by first | (simp [sWin, h12, h16, h22, h33, h64]; done) | (have hz := allW_no (x := x_w.Bits) (k := i) (by omega) (by assumption); simp [sWin, h12, h16, h22, h33, h64, hz]; done) | (have hy := allW_all (x := x_w.Bits) (k := i) (by assumption) (by omega); simp [sWin, h12, h16, h22, h33, h64, hy]; done) | (have hy := allW_all (x := x_w.Bits) (k := i) (by assumption) (by omega); have hz := noneIn_f (f := F_spec_l8Bit x_w) (a := x_w.Top + 1) (b := 1024) (q := q) (by assumption) (by omega) (by omega); simp [sWin, h12, h16, h22, h33, h64, hy, hz]; done) | (have hy := allW_all (x := x_w.Bits) (k := i) (by assumption) (by omega); have hz := noneIn_t (f := F_spec_l8Bit x_w) (a := x_w.Top + 1) (b := 1024) (q := q) (by assumption) (by omega); simp [sWin, h12, h16, h22, h33, h64, hy, hz]; done)
     rw [hF74]
     exact rfl
    have q65 := of_decide_eq_true h64
    refine ct h64 ?_
    refine wc_skip <| wq_then <| wc_seq <| wc_block <| sr ?_
    have b66 := (b32.ch k60 (Nat.not_le.2 (Nat.lt_of_lt_of_le p8 (Nat.le_trans k14.size k19.size))))
    refine lN (L_90 x_w a1 c2) wN isAgg_90 sizeOf_90 b66 ?_
    refine mv (vi q) wN ?_
    refine cl wN (C_spec_l8Bit w4 _ x_w (mR_90 (r3.from0 m59) s4) q (by first | assumption | omega) (by first | assumption | omega)) ?_
    rintro _ w5 ⟨k67, rfl⟩
    have m68 := m59.extk k67
    refine wl_nil <| wq_then ?_
    rcases bt (F_spec_l8Bit x_w q) with h69 | h69
    ·refine ct h69 ?_
     refine sr ?_
     refine ag (vb false) wN ?_
     refine wl_nil <| wq_then <| wc_ret <| wq_blk_ret <| wq_then_ret <| wq_then_ret <| wq_blk_ret <| wq_then_ret ?_
     refine ret_1 (.inl rfl) (vb false) rfl rfl ?_
     refine ⟨m68.keep0, ?_⟩
     have hF71 : sWin x_w = false := by first | (simp [sWin, h12, h16, h22, h33, h64, h69]; done) | (have hz := allW_no (x := x_w.Bits) (k := i) (by omega) (by assumption); simp [sWin, h12, h16, h22, h33, h64, h69, hz]; done) | (have hy := allW_all (x := x_w.Bits) (k := i) (by assumption) (by omega); simp [sWin, h12, h16, h22, h33, h64, h69, hy]; done) | (have hy := allW_all (x := x_w.Bits) (k := i) (by assumption) (by omega); have hz := noneIn_f (f := F_spec_l8Bit x_w) (a := x_w.Top + 1) (b := 1024) (q := q) (by assumption) (by omega) (by omega); simp [sWin, h12, h16, h22, h33, h64, h69, hy, hz]; done) | (have hy := allW_all (x := x_w.Bits) (k := i) (by assumption) (by omega); have hz := noneIn_t (f := F_spec_l8Bit x_w) (a := x_w.Top + 1) (b := 1024) (q := q) (by assumption) (by omega); simp [sWin, h12, h16, h22, h33, h64, h69, hy, hz]; done)
     rw [hF71]
     exact rfl
    refine cf h69 ?_
    refine wc_skip <| wq_blk_normal <| wq_then <| wc_region ?_
    refine mv (vi q) wN ?_
    refine ar (q + 1) wN ?_
    refine ag (vi (q + 1)) wN ?_
    refine wl_nil ?_
    refine wq_loopN (w0 := w4) [(va (L_90 x_w a1 c2)), (vp g6 0), u2x, (vi ((i : Nat) : Int)), (vi (q + 1)), (vp g6 1), (vs a1 x_w.Bits.length c2), (vi (x_w.Bits.length : Int)), (vb (!(decide ((x_w.Bits.length : Int) = 32)))), (vb (!(decide ((x_w.Bits.length : Int) = 32)))), (vp g6 0), (vi x_w.Top), (vb (F_spec_l1In x_w.Top (-1) 281474976710655)), (vb (!(F_spec_l1In x_w.Top (-1) 281474976710655))), (vb (!(F_spec_l1In x_w.Top (-1) 281474976710655))), (vi ((i : Nat) : Int)), (vb (decide (((i : Nat) : Int) < 32))), u17x, u18x, u19x, u20x, u21x, u22x, u23x, u24x, u25x, (vp g6 0), (vi x_w.Top), (vb (decide (0 ≤ x_w.Top))), (vb (decide (0 ≤ x_w.Top))), U, U, U, U, U, (vb false), (vp g6 0), (vi x_w.Top), (vi (x_w.Top + 1)), (vi q), (vb (decide (q < 1024))), (vi q), (vi (q + 1)), (va (L_90 x_w a1 c2)), (vi q), (vb (F_spec_l8Bit x_w q))] rfl ?_ ?_ ?_
    · exact ⟨rfl, rfl, rfl, rfl, rfl, rfl, rfl, rfl, rfl, rfl, rfl, rfl, rfl, rfl, rfl, rfl, rfl, rfl, rfl, rfl, rfl, rfl, rfl, rfl, rfl, rfl, rfl, rfl, rfl, rfl, rfl, rfl, rfl, rfl, rfl, rfl, rfl, rfl, rfl, rfl, rfl, rfl, rfl, rfl, rfl, rfl, trivial⟩
    · exact ⟨(q + 1), u2x, (vi q), (vb (decide (q < 1024))), (vi q), (vi (q + 1)), (va (L_90 x_w a1 c2)), (vi q), (vb (F_spec_l8Bit x_w q)), rfl, m68, (((Ch.refl (fun k => w3.heap.size ≤ k) w3).ext k60 (fun k hk => Nat.le_trans (Nat.le_refl _) hk)).extk k67), (by omega), (by omega), (by first | (intro m h1 h2; omega) | exact none_next (by assumption) (by assumption))⟩
    · show (1024 - (q + 1)).toNat < (1024 - q).toNat; omega
  have q34 := of_decide_eq_true h33
  refine lN (L_90 x_w a1 c2) (wS h33) isAgg_90 sizeOf_90 b32 ?_
  refine pu (vp g6 0) (wS h33) ?_
  refine ld (vi x_w.Top) (wS h33) isAgg_3 b32 ?_
  refine cl (wS h33) (C_spec_l8Bit w3 _ x_w (mR_90 (r3.from0 m18) s4) x_w.Top (by first | assumption | omega) (by first | assumption | omega)) ?_
  rintro _ w4 ⟨k35, rfl⟩
  have m36 := m18.extk k35
  refine pu (vb (!(F_spec_l8Bit x_w x_w.Top))) (wS h33) ?_
  refine pk (vb (!(F_spec_l8Bit x_w x_w.Top))) wN h33 ?_
  refine wl_nil <| wq_then ?_
  rcases bf (F_spec_l8Bit x_w x_w.Top) with h37 | h37
  ·refine ct (congrArg not h37) ?_
   refine sr ?_
   refine ag (vb false) wN ?_
   refine wl_nil <| wq_then <| wc_ret <| wq_then_ret ?_
   refine ret_1 (.inl rfl) (vb false) rfl rfl ?_
   refine ⟨m36.keep0, ?_⟩
   have hF57 : sWin x_w = false := by first | (simp [sWin, h12, h16, h22, h33, h37]; done) | (have hz := allW_no (x := x_w.Bits) (k := i) (by omega) (by assumption); simp [sWin, h12, h16, h22, h33, h37, hz]; done) | (have hy := allW_all (x := x_w.Bits) (k := i) (by assumption) (by omega); simp [sWin, h12, h16, h22, h33, h37, hy]; done) | (have hy := allW_all (x := x_w.Bits) (k := i) (by assumption) (by omega); have hz := noneIn_f (f := F_spec_l8Bit x_w) (a := x_w.Top + 1) (b := 1024) (q := q) (by assumption) (by omega) (by omega); simp [sWin, h12, h16, h22, h33, h37, hy, hz]; done) | (have hy := allW_all (x := x_w.Bits) (k := i) (by assumption) (by omega); have hz := noneIn_t (f := F_spec_l8Bit x_w) (a := x_w.Top + 1) (b := 1024) (q := q) (by assumption) (by omega); simp [sWin, h12, h16, h22, h33, h37, hy, hz]; done)
   rw [hF57]
   exact rfl
  refine cf (congrArg not h37) ?_
  refine wc_skip <| wq_then <| wc_seq <| sr ?_
  refine pu (vp g6 0) wN ?_
  have b39 := (b32.kp k35)
  refine ld (vi x_w.Top) wN isAgg_3 b39 ?_
  refine ar (x_w.Top + 1) wN ?_
  refine ag (vi (x_w.Top + 1)) wN ?_
  refine wl_nil <| wq_then <| wc_block ?_
  refine wc_norm [(va (L_90 x_w a1 c2)), (vp g6 0), u2x, (vi ((i : Nat) : Int)), (vi (x_w.Top + 1)), (vp g6 1), (vs a1 x_w.Bits.length c2), (vi (x_w.Bits.length : Int)), (vb (!(decide ((x_w.Bits.length : Int) = 32)))), (vb (!(decide ((x_w.Bits.length : Int) = 32)))), (vp g6 0), (vi x_w.Top), (vb (F_spec_l1In x_w.Top (-1) 281474976710655)), (vb (!(F_spec_l1In x_w.Top (-1) 281474976710655))), (vb (!(F_spec_l1In x_w.Top (-1) 281474976710655))), (vi ((i : Nat) : Int)), (vb (decide (((i : Nat) : Int) < 32))), u17x, u18x, u19x, u20x, u21x, u22x, u23x, u24x, u25x, (vp g6 0), (vi x_w.Top), (vb (decide (0 ≤ x_w.Top))), (vb (decide (0 ≤ x_w.Top))), (va (L_90 x_w a1 c2)), (vp g6 0), (vi x_w.Top), (vb (F_spec_l8Bit x_w x_w.Top)), (vb (!(F_spec_l8Bit x_w x_w.Top))), (vb (!(F_spec_l8Bit x_w x_w.Top))), (vp g6 0), (vi x_w.Top), (vi (x_w.Top + 1)), U, U, U, U, U, U, U] rfl ⟨rfl, rfl, rfl, rfl, rfl, rfl, rfl, rfl, rfl, rfl, rfl, rfl, rfl, rfl, rfl, rfl, rfl, rfl, rfl, rfl, rfl, rfl, rfl, rfl, rfl, rfl, rfl, rfl, rfl, rfl, rfl, rfl, rfl, rfl, rfl, rfl, rfl, rfl, rfl, rfl, rfl, rfl, rfl, rfl, rfl, rfl, trivial⟩ ?_
  refine wc_loop (fun e' w' => ∃ (q : Int) (u2x u39x u40x u41x u42x u43x u44x u45x : Value), e' = lst [(va (L_90 x_w a1 c2)), (vp g6 0), u2x, (vi ((i : Nat) : Int)), (vi q), (vp g6 1), (vs a1 x_w.Bits.length c2), (vi (x_w.Bits.length : Int)), (vb (!(decide ((x_w.Bits.length : Int) = 32)))), (vb (!(decide ((x_w.Bits.length : Int) = 32)))), (vp g6 0), (vi x_w.Top), (vb (F_spec_l1In x_w.Top (-1) 281474976710655)), (vb (!(F_spec_l1In x_w.Top (-1) 281474976710655))), (vb (!(F_spec_l1In x_w.Top (-1) 281474976710655))), (vi ((i : Nat) : Int)), (vb (decide (((i : Nat) : Int) < 32))), u17x, u18x, u19x, u20x, u21x, u22x, u23x, u24x, u25x, (vp g6 0), (vi x_w.Top), (vb (decide (0 ≤ x_w.Top))), (vb (decide (0 ≤ x_w.Top))), (va (L_90 x_w a1 c2)), (vp g6 0), (vi x_w.Top), (vb (F_spec_l8Bit x_w x_w.Top)), (vb (!(F_spec_l8Bit x_w x_w.Top))), (vb (!(F_spec_l8Bit x_w x_w.Top))), (vp g6 0), (vi x_w.Top), (vi (x_w.Top + 1)), u39x, u40x, u41x, u42x, u43x, u44x, u45x] ∧ Ch (fun k => w0.heap.size ≤ k) w0 w' ∧ Ch (fun k => w4.heap.size ≤ k) w4 w' ∧ x_w.Top + 1 ≤ q ∧ q ≤ 281474976710656 ∧ ∀ m : Int, x_w.Top + 1 ≤ m → m < q → F_spec_l8Bit x_w m = false) (fun e' _ => (1024 - (intOf (e' 4))).toNat) ?_ ?_
  ·exact ⟨(x_w.Top + 1), u2x, U, U, U, U, U, U, U, rfl, m36, (Ch.refl (fun k => w4.heap.size ≤ k) w4), (by omega), (by omega), (by first | (intro m h1 h2; omega) | exact none_next (by assumption) (by assumption))⟩
  ·rintro _ w5 ⟨q, u2x, u39x, u40x, u41x, u42x, u43x, u44x, u45x, rfl, m40, k41, i42, i43, i44⟩
   refine wc_seq <| sr ?_
   refine mv (vi q) wN ?_
   refine pu (vb (decide (q < 1024))) wN ?_
   refine wl_nil <| wq_then ?_
   rcases bf (decide (q < 1024)) with h45 | h45
   ·have q54 := of_decide_eq_false h45
    refine cf h45 ?_
    refine wc_exit <| wq_then_exit <| wq_then_exit <| wq_blk_exit <| wq_then <| sr ?_
    refine ag (vb true) wN ?_
    refine wl_nil <| wq_then <| wc_ret ?_
    refine ret_1 (.inl rfl) (vb true) rfl rfl ?_
    refine ⟨m40.keep0, ?_⟩
    have hF55 : sWin x_w = true := by first | (simp [sWin, h12, h16, h22, h33, h37, h45]; done) | (have hz := allW_no (x := x_w.Bits) (k := i) (by omega) (by assumption); simp [sWin, h12, h16, h22, h33, h37, h45, hz]; done) | (have hy := allW_all (x := x_w.Bits) (k := i) (by assumption) (by omega); simp [sWin, h12, h16, h22, h33, h37, h45, hy]; done) | (have hy := allW_all (x := x_w.Bits) (k := i) (by assumption) (by omega); have hz := noneIn_f (f := F_spec_l8Bit x_w) (a := x_w.Top + 1) (b := 1024) (q := q) (by assumption) (by omega) (by omega); simp [sWin, h12, h16, h22, h33, h37, h45, hy, hz]; done) | (have hy := allW_all (x := x_w.Bits) (k := i) (by assumption) (by omega); have hz := noneIn_t (f := F_spec_l8Bit x_w) (a := x_w.Top + 1) (b := 1024) (q := q) (by assumption) (by omega); simp [sWin, h12, h16, h22, h33, h37, h45, hy, hz]; done)
    rw [hF55]
    exact rfl
   have q46 := of_decide_eq_true h45
   refine ct h45 ?_
   refine wc_skip <| wq_then <| wc_seq <| wc_block <| sr ?_
   have b47 := (b39.ch k41 (Nat.not_le.2 (Nat.lt_of_lt_of_le p8 (Nat.le_trans (Nat.le_trans k14.size k19.size) k35.size))))
   refine lN (L_90 x_w a1 c2) wN isAgg_90 sizeOf_90 b47 ?_
   refine mv (vi q) wN ?_
   refine cl wN (C_spec_l8Bit w5 _ x_w (mR_90 (r3.from0 m40) s4) q (by first | assumption | omega) (by first | assumption | omega)) ?_
   rintro _ w6 ⟨k48, rfl⟩
   have m49 := m40.extk k48
   refine wl_nil <| wq_then ?_
   rcases bt (F_spec_l8Bit x_w q) with h50 | h50
   ·refine ct h50 ?_
    refine sr ?_
    refine ag (vb false) wN ?_
    refine wl_nil <| wq_then <| wc_ret <| wq_blk_ret <| wq_then_ret <| wq_then_ret <| wq_blk_ret <| wq_then_ret ?_
    refine ret_1 (.inl rfl) (vb false) rfl rfl ?_
    refine ⟨m49.keep0, ?_⟩
    have hF52 : sWin x_w = false := by first | (simp [sWin, h12, h16, h22, h33, h37, h45, h50]; done) | (have hz := allW_no (x := x_w.Bits) (k := i) (by omega) (by assumption); simp [sWin, h12, h16, h22, h33, h37, h45, h50, hz]; done) | (have hy := allW_all (x := x_w.Bits) (k := i) (by assumption) (by omega); simp [sWin, h12, h16, h22, h33, h37, h45, h50, hy]; done) | (have hy := allW_all (x := x_w.Bits) (k := i) (by assumption) (by omega); have hz := noneIn_f (f := F_spec_l8Bit x_w) (a := x_w.Top + 1) (b := 1024) (q := q) (by assumption) (by omega) (by omega); simp [sWin, h12, h16, h22, h33, h37, h45, h50, hy, hz]; done) | (have hy := allW_all (x := x_w.Bits) (k := i) (by assumption) (by omega); have hz := noneIn_t (f := F_spec_l8Bit x_w) (a := x_w.Top + 1) (b := 1024) (q := q) (by assumption) (by omega); simp [sWin, h12, h16, h22, h33, h37, h45, h50, hy, hz]; done)
    rw [hF52]
    exact rfl
   refine cf h50 ?_
   refine wc_skip <| wq_blk_normal <| wq_then <| wc_region ?_
   refine mv (vi q) wN ?_
   refine ar (q + 1) wN ?_
   refine ag (vi (q + 1)) wN ?_
   refine wl_nil ?_
   refine wq_loopN (w0 := w5) [(va (L_90 x_w a1 c2)), (vp g6 0), u2x, (vi ((i : Nat) : Int)), (vi (q + 1)), (vp g6 1), (vs a1 x_w.Bits.length c2), (vi (x_w.Bits.length : Int)), (vb (!(decide ((x_w.Bits.length : Int) = 32)))), (vb (!(decide ((x_w.Bits.length : Int) = 32)))), (vp g6 0), (vi x_w.Top), (vb (F_spec_l1In x_w.Top (-1) 281474976710655)), (vb (!(F_spec_l1In x_w.Top (-1) 281474976710655))), (vb (!(F_spec_l1In x_w.Top (-1) 281474976710655))), (vi ((i : Nat) : Int)), (vb (decide (((i : Nat) : Int) < 32))), u17x, u18x, u19x, u20x, u21x, u22x, u23x, u24x, u25x, (vp g6 0), (vi x_w.Top), (vb (decide (0 ≤ x_w.Top))), (vb (decide (0 ≤ x_w.Top))), (va (L_90 x_w a1 c2)), (vp g6 0), (vi x_w.Top), (vb (F_spec_l8Bit x_w x_w.Top)), (vb (!(F_spec_l8Bit x_w x_w.Top))), (vb (!(F_spec_l8Bit x_w x_w.Top))), (vp g6 0), (vi x_w.Top), (vi (x_w.Top + 1)), (vi q), (vb (decide (q < 1024))), (vi q), (vi (q + 1)), (va (L_90 x_w a1 c2)), (vi q), (vb (F_spec_l8Bit x_w q))] rfl ?_ ?_ ?_
   · exact ⟨rfl, rfl, rfl, rfl, rfl, rfl, rfl, rfl, rfl, rfl, rfl, rfl, rfl, rfl, rfl, rfl, rfl, rfl, rfl, rfl, rfl, rfl, rfl, rfl, rfl, rfl, rfl, rfl, rfl, rfl, rfl, rfl, rfl, rfl, rfl, rfl, rfl, rfl, rfl, rfl, rfl, rfl, rfl, rfl, rfl, rfl, trivial⟩
   · exact ⟨(q + 1), u2x, (vi q), (vb (decide (q < 1024))), (vi q), (vi (q + 1)), (va (L_90 x_w a1 c2)), (vi q), (vb (F_spec_l8Bit x_w q)), rfl, m49, (((Ch.refl (fun k => w4.heap.size ≤ k) w4).ext k41 (fun k hk => Nat.le_trans (Nat.le_refl _) hk)).extk k48), (by omega), (by omega), (by first | (intro m h1 h2; omega) | exact none_next (by assumption) (by assumption))⟩
   · show (1024 - (q + 1)).toNat < (1024 - q).toNat; omega

def F_spec_EpOk (x_e : PEp) : (Bool) := bif (F_spec_l1In x_e.N 0 4294967295) then (bif (decide ((x_e.Key.length : Int) = 32)) then (bif (F_spec_l1In x_e.Seq 0 281474976710656) then ((sWin x_e.Win)) else (false)) else (false)) else (false)
theorem C_spec_EpOk (w0 : World) (v_x_e : Value) (x_e : PEp) (r_x_e : R_92 w0 v_x_e x_e)  : Fn Try.prog 155 #[v_x_e] w0 (fun v w' => Keep w0 w' ∧ O_4 w' w0.heap.size v (F_spec_EpOk x_e)) := by
 obtain ⟨a1, c2, a6, c7, rfl, r3, s4, r8, s9⟩ := r_x_e
 refine fn_of (n := 22) (l := [(va (L_92 x_e a1 c2 a6 c7)), U, U, U, U, U, U, U, U, U, U, U, U, U, U, U, U, U, U, U, U, U]) Try.func155 rfl rfl (by kernel_rfl) rfl ?_
 refine sr ?_
 refine bx (L_92 x_e a1 c2 a6 c7) wN ?_
 intro g11 w1 p12 p13 k14 b15
 have m16 := (Ch.base w0).extk k14
 refine ag (vb false) wN ?_
 refine nx ?_
 refine pu (vp g11 0) wN ?_
 refine ld (vi x_e.N) wN isAgg_3 b15 ?_
 refine cl wN (C_spec_l1In w1 x_e.N 0 4294967295) ?_
 rintro _ w2 ⟨k17, rfl⟩
 have m18 := m16.extk k17
 refine mv (vb (F_spec_l1In x_e.N 0 4294967295)) wN ?_
 rcases bf (F_spec_l1In x_e.N 0 4294967295) with h19 | h19
 ·have q36 := spec_l1In_f h19
  refine sk h19 ?_
  refine sk h19 ?_
  refine sk h19 ?_
  refine sk h19 ?_
  refine pf (vb false) wN h19 ?_
  refine mv (vb false) wN ?_
  refine sk (Eq.refl false) ?_
  refine sk (Eq.refl false) ?_
  refine sk (Eq.refl false) ?_
  refine pf (vb false) wN (Eq.refl false) ?_
  refine mv (vb false) wN ?_
  refine sk (Eq.refl false) ?_
  refine sk (Eq.refl false) ?_
  refine sk (Eq.refl false) ?_
  refine pf (vb false) wN (Eq.refl false) ?_
  refine ag (vb false) wN ?_
  refine wl_nil <| wq_then <| wc_ret ?_
  refine ret_1 (.inl rfl) (vb false) rfl rfl ?_
  refine ⟨m18.keep0, ?_⟩
  have hF37 : F_spec_EpOk x_e = false := by simp only [F_spec_EpOk, h19, cond_true, cond_false]
  rw [hF37]
  exact rfl
 have q20 := spec_l1In_t h19
 refine pu (vp g11 1) (wS h19) ?_
 have b21 := (b15.kp k17)
 refine ld (vs a1 x_e.Key.length c2) (wS h19) isAgg_22 b21 ?_
 refine ln (wS h19) slTy_22 (r3.from0 m18) ?_
 refine pu (vb (decide ((x_e.Key.length : Int) = 32))) (wS h19) ?_
 refine pk (vb (decide ((x_e.Key.length : Int) = 32))) wN h19 ?_
 refine mv (vb (decide ((x_e.Key.length : Int) = 32))) wN ?_
 rcases bf (decide ((x_e.Key.length : Int) = 32)) with h22 | h22
 ·have q34 := of_decide_eq_false h22
  refine sk h22 ?_
  refine sk h22 ?_
  refine sk h22 ?_
  refine pf (vb false) wN h22 ?_
  refine mv (vb false) wN ?_
  refine sk (Eq.refl false) ?_
  refine sk (Eq.refl false) ?_
  refine sk (Eq.refl false) ?_
  refine pf (vb false) wN (Eq.refl false) ?_
  refine ag (vb false) wN ?_
  refine wl_nil <| wq_then <| wc_ret ?_
  refine ret_1 (.inl rfl) (vb false) rfl rfl ?_
  refine ⟨m18.keep0, ?_⟩
  have hF35 : F_spec_EpOk x_e = false := by simp only [F_spec_EpOk, h19, h22, cond_true, cond_false]
  rw [hF35]
  exact rfl
 have q23 := of_decide_eq_true h22
 refine pu (vp g11 2) (wS h22) ?_
 refine ld (vi x_e.Seq) (wS h22) isAgg_3 b21 ?_
 refine cl (wS h22) (C_spec_l1In w2 x_e.Seq 0 281474976710656) ?_
 rintro _ w3 ⟨k24, rfl⟩
 have m25 := m18.extk k24
 refine pk (vb (F_spec_l1In x_e.Seq 0 281474976710656)) wN h22 ?_
 refine mv (vb (F_spec_l1In x_e.Seq 0 281474976710656)) wN ?_
 rcases bf (F_spec_l1In x_e.Seq 0 281474976710656) with h26 | h26
 ·have q32 := spec_l1In_f h26
  refine sk h26 ?_
  refine sk h26 ?_
  refine sk h26 ?_
  refine pf (vb false) wN h26 ?_
  refine ag (vb false) wN ?_
  refine wl_nil <| wq_then <| wc_ret ?_
  refine ret_1 (.inl rfl) (vb false) rfl rfl ?_
  refine ⟨m25.keep0, ?_⟩
  have hF33 : F_spec_EpOk x_e = false := by simp only [F_spec_EpOk, h19, h22, h26, cond_true, cond_false]
  rw [hF33]
  exact rfl
 have q27 := spec_l1In_t h26
 refine pu (vp g11 3) (wS h26) ?_
 have b28 := (b21.kp k24)
 refine lN (L_90 x_e.Win a6 c7) (wS h26) isAgg_90 sizeOf_90 b28 ?_
 refine cl (wS h26) (C_spec_WinOk w3 _ x_e.Win (mR_90 (r8.from0 m25) s9)) ?_
 rintro _ w4 ⟨k29, rfl⟩
 have m30 := m25.extk k29
 refine pk (vb (sWin x_e.Win)) wN h26 ?_
 refine ag (vb (sWin x_e.Win)) wN ?_
 refine wl_nil <| wq_then <| wc_ret ?_
 refine ret_1 (.inl rfl) (vb (sWin x_e.Win)) rfl rfl ?_
 refine ⟨m30.keep0, ?_⟩
 have hF31 : F_spec_EpOk x_e = (sWin x_e.Win) := by simp only [F_spec_EpOk, h19, h22, h26, cond_true, cond_false]
 rw [hF31]
 exact rfl
theorem spec_EpOk_t {e : PEp} (h : F_spec_EpOk e = true) : 0 ≤ e.N ∧ e.N ≤ 4294967295 ∧ (e.Key.length : Int) = 32 := by
  cases h1 : F_spec_l1In e.N 0 4294967295 with
  | false => simp [F_spec_EpOk, h1] at h
  | true =>
    have := spec_l1In_t h1
    by_cases h2 : (e.Key.length : Int) = 32
    · exact ⟨this.1, this.2, h2⟩
    · simp [F_spec_EpOk, h1, h2] at h

def F_spec_ChanOk (x_c : PChan) : (Bool) := bif (F_spec_l1In x_c.Role 0 1) then (bif (decide ((x_c.Sn.length : Int) = 12)) then (bif (F_spec_EpOk x_c.Cur) then (bif x_c.HasOld then (bif (decide (x_c.Role = 0)) then (bif (F_spec_EpOk x_c.Old) then (bif (decide (x_c.Old.N = (x_c.Cur.N - 1))) then (bif (F_spec_l1In x_c.Until 0 1000005) then (bif (decide ((x_c.Next.length : Int) = 0)) then (true) else (bif (decide ((x_c.Next.length : Int) = 32)) then (decide (x_c.Cur.N < 4294967295)) else (false))) else (false)) else (false)) else (false)) else (bif (F_spec_EpOk x_c.Old) then (bif (decide (x_c.Old.N = (x_c.Cur.N - 1))) then (bif (F_spec_l1In x_c.Until (-1) 1000005) then (bif (decide ((x_c.Next.length : Int) = 0)) then (true) else (false)) else (false)) else (false)) else (false))) else (bif (F_spec_l14None x_c.Old) then (bif (decide (x_c.Until = 0)) then (bif (decide ((x_c.Next.length : Int) = 0)) then (true) else (bif (decide (x_c.Role = 0)) then (bif (decide ((x_c.Next.length : Int) = 32)) then (decide (x_c.Cur.N < 4294967295)) else (false)) else (false))) else (false)) else (false))) else (false)) else (false)) else (false)
theorem C_spec_ChanOk (w0 : World) (v_x_c : Value) (x_c : PChan) (r_x_c : R_94 w0 v_x_c x_c)  : Fn Try.prog 131 #[v_x_c] w0 (fun v w' => Keep w0 w' ∧ O_4 w' w0.heap.size v (F_spec_ChanOk x_c)) := by
 obtain ⟨a1, c2, a6, c7, a11, c12, a16, c17, a21, c22, a26, c27, rfl, r3, s4, r8, s9, r13, s14, r18, s19, r23, s24, r28, s29⟩ := r_x_c
 refine fn_of (n := 74) (l := [(va (L_94 x_c a1 c2 a6 c7 a11 c12 a16 c17 a21 c22 a26 c27)), U, U, U, U, U, U, U, U, U, U, U, U, U, U, U, U, U, U, U, U, U, U, U, U, U, U, U, U, U, U, U, U, U, U, U, U, U, U, U, U, U, U, U, U, U, U, U, U, U, U, U, U, U, U, U, U, U, U, U, U, U, U, U, U, U, U, U, U, U, U, U, U, U]) Try.func131 rfl rfl (by kernel_rfl) rfl ?_
 refine sr ?_
 refine bx (L_94 x_c a1 c2 a6 c7 a11 c12 a16 c17 a21 c22 a26 c27) wN ?_
 intro g31 w1 p32 p33 k34 b35
 have m36 := (Ch.base w0).extk k34
 refine ag (vb false) wN ?_
 refine wl_nil <| wq_then <| wc_seq <| sr ?_
 refine pu (vp g31 0) wN ?_
 refine ld (vi x_c.Role) wN isAgg_3 b35 ?_
 refine cl wN (C_spec_l1In w1 x_c.Role 0 1) ?_
 rintro _ w2 ⟨k37, rfl⟩
 have m38 := m36.extk k37
 refine pu (vb (!(F_spec_l1In x_c.Role 0 1))) wN ?_
 refine mv (vb (!(F_spec_l1In x_c.Role 0 1))) wN ?_
 rcases bf (F_spec_l1In x_c.Role 0 1) with h39 | h39
 ·have q133 := spec_l1In_f h39
  refine sk (congrArg not h39) ?_
  refine sk (congrArg not h39) ?_
  refine sk (congrArg not h39) ?_
  refine sk (congrArg not h39) ?_
  refine pk (vb true) wN (congrArg not h39) ?_
  refine mv (vb true) wN ?_
  refine sk (Eq.refl true) ?_
  refine sk (Eq.refl true) ?_
  refine sk (Eq.refl true) ?_
  refine sk (Eq.refl true) ?_
  refine pk (vb true) wN (Eq.refl true) ?_
  refine wl_nil <| wq_then ?_
  refine ct (Eq.refl true) ?_
  refine sr ?_
  refine ag (vb false) wN ?_
  refine wl_nil <| wq_then <| wc_ret <| wq_then_ret ?_
  refine ret_1 (.inl rfl) (vb false) rfl rfl ?_
  refine ⟨m38.keep0, ?_⟩
  have hF134 : F_spec_ChanOk x_c = false := by simp only [F_spec_ChanOk, h39, cond_true, cond_false]
  rw [hF134]
  exact rfl
 have q40 := spec_l1In_t h39
 refine pu (vp g31 1) (wS (congrArg not h39)) ?_
 have b41 := (b35.kp k37)
 refine ld (vs a1 x_c.Sn.length c2) (wS (congrArg not h39)) isAgg_22 b41 ?_
 refine ln (wS (congrArg not h39)) slTy_22 (r3.from0 m38) ?_
 refine pu (vb (!(decide ((x_c.Sn.length : Int) = 12)))) (wS (congrArg not h39)) ?_
 refine pf (vb (!(decide ((x_c.Sn.length : Int) = 12)))) wN (congrArg not h39) ?_
 refine mv (vb (!(decide ((x_c.Sn.length : Int) = 12)))) wN ?_
 rcases bf (decide ((x_c.Sn.length : Int) = 12)) with h42 | h42
 ·have q131 := of_decide_eq_false h42
  refine sk (congrArg not h42) ?_
  refine sk (congrArg not h42) ?_
  refine sk (congrArg not h42) ?_
  refine sk (congrArg not h42) ?_
  refine pk (vb true) wN (congrArg not h42) ?_
  refine wl_nil <| wq_then ?_
  refine ct (Eq.refl true) ?_
  refine sr ?_
  refine ag (vb false) wN ?_
  refine wl_nil <| wq_then <| wc_ret <| wq_then_ret ?_
  refine ret_1 (.inl rfl) (vb false) rfl rfl ?_
  refine ⟨m38.keep0, ?_⟩
  have hF132 : F_spec_ChanOk x_c = false := by simp only [F_spec_ChanOk, h39, h42, cond_true, cond_false]
  rw [hF132]
  exact rfl
 have q43 := of_decide_eq_true h42
 refine pu (vp g31 2) (wS (congrArg not h42)) ?_
 refine lN (L_92 x_c.Cur a6 c7 a11 c12) (wS (congrArg not h42)) isAgg_92 sizeOf_92 b41 ?_
 refine cl (wS (congrArg not h42)) (C_spec_EpOk w2 _ x_c.Cur (mR_92 (r8.from0 m38) s9 (r13.from0 m38) s14)) ?_
 rintro _ w3 ⟨k44, rfl⟩
 have m45 := m38.extk k44
 refine pu (vb (!(F_spec_EpOk x_c.Cur))) (wS (congrArg not h42)) ?_
 refine pf (vb (!(F_spec_EpOk x_c.Cur))) wN (congrArg not h42) ?_
 refine wl_nil <| wq_then ?_
 rcases bf (F_spec_EpOk x_c.Cur) with h46 | h46
 ·refine ct (congrArg not h46) ?_
  refine sr ?_
  refine ag (vb false) wN ?_
  refine wl_nil <| wq_then <| wc_ret <| wq_then_ret ?_
  refine ret_1 (.inl rfl) (vb false) rfl rfl ?_
  refine ⟨m45.keep0, ?_⟩
  have hF130 : F_spec_ChanOk x_c = false := by simp only [F_spec_ChanOk, h39, h42, h46, cond_true, cond_false]
  rw [hF130]
  exact rfl
 have q47 := spec_EpOk_t h46
 refine cf (congrArg not h46) ?_
 refine wc_skip <| wq_then <| wc_seq <| sr ?_
 refine pu (vp g31 12) wN ?_
 have b48 := (b41.kp k44)
 refine ld (vb x_c.HasOld) wN isAgg_4 b48 ?_
 refine wl_nil <| wq_then ?_
 rcases bf x_c.HasOld with h49 | h49
 ·refine cf h49 ?_
  refine sr ?_
  refine pu (vp g31 7) wN ?_
  refine lN (L_92 x_c.Old a16 c17 a21 c22) wN isAgg_92 sizeOf_92 b48 ?_
  refine cl wN (C_spec_l14None w3 _ x_c.Old (mR_92 (r18.from0 m45) s19 (r23.from0 m45) s24)) ?_
  rintro _ w4 ⟨k105, rfl⟩
  have m106 := m45.extk k105
  refine pu (vb (!(F_spec_l14None x_c.Old))) wN ?_
  refine mv (vb (!(F_spec_l14None x_c.Old))) wN ?_
  rcases bf (F_spec_l14None x_c.Old) with h107 | h107
  ·refine sk (congrArg not h107) ?_
   refine sk (congrArg not h107) ?_
   refine sk (congrArg not h107) ?_
   refine pk (vb true) wN (congrArg not h107) ?_
   refine wl_nil <| wq_then ?_
   refine ct (Eq.refl true) ?_
   refine sr ?_
   refine ag (vb false) wN ?_
   refine wl_nil <| wq_then <| wc_ret <| wq_then_ret ?_
   refine ret_1 (.inl rfl) (vb false) rfl rfl ?_
   refine ⟨m106.keep0, ?_⟩
   have hF128 : F_spec_ChanOk x_c = false := by simp only [F_spec_ChanOk, h39, h42, h46, h49, h107, cond_true, cond_false]
   rw [hF128]
   exact rfl
  refine pu (vp g31 13) (wS (congrArg not h107)) ?_
  have b109 := (b48.kp k105)
  refine ld (vi x_c.Until) (wS (congrArg not h107)) isAgg_3 b109 ?_
  refine pu (vb (!(decide (x_c.Until = 0)))) (wS (congrArg not h107)) ?_
  refine pf (vb (!(decide (x_c.Until = 0)))) wN (congrArg not h107) ?_
  refine wl_nil <| wq_then ?_
  rcases bf (decide (x_c.Until = 0)) with h110 | h110
  ·have q125 := of_decide_eq_false h110
   refine ct (congrArg not h110) ?_
   refine sr ?_
   refine ag (vb false) wN ?_
   refine wl_nil <| wq_then <| wc_ret <| wq_then_ret ?_
   refine ret_1 (.inl rfl) (vb false) rfl rfl ?_
   refine ⟨m106.keep0, ?_⟩
   have hF126 : F_spec_ChanOk x_c = false := by simp only [F_spec_ChanOk, h39, h42, h46, h49, h107, h110, cond_true, cond_false]
   rw [hF126]
   exact rfl
  have q111 := of_decide_eq_true h110
  refine cf (congrArg not h110) ?_
  refine wc_skip <| wq_then <| wc_seq <| sr ?_
  refine pu (vp g31 14) wN ?_
  refine ld (vs a26 x_c.Next.length c27) wN isAgg_22 b109 ?_
  refine ln wN slTy_22 (r28.from0 m106) ?_
  refine pu (vb (decide ((x_c.Next.length : Int) = 0))) wN ?_
  refine wl_nil <| wq_then ?_
  rcases bt (decide ((x_c.Next.length : Int) = 0)) with h112 | h112
  ·have q113 := of_decide_eq_true h112
   refine ct h112 ?_
   refine sr ?_
   refine ag (vb true) wN ?_
   refine wl_nil <| wq_then <| wc_ret <| wq_then_ret ?_
   refine ret_1 (.inl rfl) (vb true) rfl rfl ?_
   refine ⟨m106.keep0, ?_⟩
   have hF114 : F_spec_ChanOk x_c = true := by simp only [F_spec_ChanOk, h39, h42, h46, h49, h107, h110, h112, cond_true, cond_false]
   rw [hF114]
   exact rfl
  have q115 := of_decide_eq_false h112
  refine cf h112 ?_
  refine wc_skip <| wq_then <| sr ?_
  refine pu (vp g31 0) wN ?_
  refine ld (vi x_c.Role) wN isAgg_3 b109 ?_
  refine pu (vb (decide (x_c.Role = 0))) wN ?_
  refine mv (vb (decide (x_c.Role = 0))) wN ?_
  rcases bf (decide (x_c.Role = 0)) with h116 | h116
  ·have q123 := of_decide_eq_false h116
   refine sk h116 ?_
   refine sk h116 ?_
   refine sk h116 ?_
   refine sk h116 ?_
   refine pf (vb false) wN h116 ?_
   refine mv (vb false) wN ?_
   refine sk (Eq.refl false) ?_
   refine sk (Eq.refl false) ?_
   refine sk (Eq.refl false) ?_
   refine sk (Eq.refl false) ?_
   refine pf (vb false) wN (Eq.refl false) ?_
   refine ag (vb false) wN ?_
   refine wl_nil <| wq_then <| wc_ret ?_
   refine ret_1 (.inl rfl) (vb false) rfl rfl ?_
   refine ⟨m106.keep0, ?_⟩
   have hF124 : F_spec_ChanOk x_c = false := by simp only [F_spec_ChanOk, h39, h42, h46, h49, h107, h110, h112, h116, cond_true, cond_false]
   rw [hF124]
   exact rfl
  have q117 := of_decide_eq_true h116
  refine pu (vp g31 14) (wS h116) ?_
  refine ld (vs a26 x_c.Next.length c27) (wS h116) isAgg_22 b109 ?_
  refine ln (wS h116) slTy_22 (r28.from0 m106) ?_
  refine pu (vb (decide ((x_c.Next.length : Int) = 32))) (wS h116) ?_
  refine pk (vb (decide ((x_c.Next.length : Int) = 32))) wN h116 ?_
  refine mv (vb (decide ((x_c.Next.length : Int) = 32))) wN ?_
  rcases bf (decide ((x_c.Next.length : Int) = 32)) with h118 | h118
  ·have q121 := of_decide_eq_false h118
   refine sk h118 ?_
   refine sk h118 ?_
   refine sk h118 ?_
   refine sk h118 ?_
   refine pf (vb false) wN h118 ?_
   refine ag (vb false) wN ?_
   refine wl_nil <| wq_then <| wc_ret ?_
   refine ret_1 (.inl rfl) (vb false) rfl rfl ?_
   refine ⟨m106.keep0, ?_⟩
   have hF122 : F_spec_ChanOk x_c = false := by simp only [F_spec_ChanOk, h39, h42, h46, h49, h107, h110, h112, h116, h118, cond_true, cond_false]
   rw [hF122]
   exact rfl
  have q119 := of_decide_eq_true h118
  refine pu (vp g31 2) (wS h118) ?_
  refine pu (vp g31 2) (wS h118) ?_
  refine ld (vi x_c.Cur.N) (wS h118) isAgg_3 b109 ?_
  refine pu (vb (decide (x_c.Cur.N < 4294967295))) (wS h118) ?_
  refine pk (vb (decide (x_c.Cur.N < 4294967295))) wN h118 ?_
  refine ag (vb (decide (x_c.Cur.N < 4294967295))) wN ?_
  refine wl_nil <| wq_then <| wc_ret ?_
  refine ret_1 (.inl rfl) (vb (decide (x_c.Cur.N < 4294967295))) rfl rfl ?_
  refine ⟨m106.keep0, ?_⟩
  have hF120 : F_spec_ChanOk x_c = decide (x_c.Cur.N < 4294967295) := by simp only [F_spec_ChanOk, h39, h42, h46, h49, h107, h110, h112, h116, h118, cond_true, cond_false]
  rw [hF120]
  exact rfl
 refine ct h49 ?_
 refine sr ?_
 refine ag (vi (-1)) wN ?_
 refine wl_nil <| wq_then <| wc_seq <| sr ?_
 refine pu (vp g31 0) wN ?_
 refine ld (vi x_c.Role) wN isAgg_3 b48 ?_
 refine pu (vb (decide (x_c.Role = 0))) wN ?_
 refine wl_nil <| wq_then ?_
 rcases bf (decide (x_c.Role = 0)) with h51 | h51
 ·have q80 := of_decide_eq_false h51
  refine cf h51 ?_
  refine wc_skip <| wq_then <| sr ?_
  refine pu (vp g31 7) wN ?_
  refine lN (L_92 x_c.Old a16 c17 a21 c22) wN isAgg_92 sizeOf_92 b48 ?_
  refine cl wN (C_spec_EpOk w3 _ x_c.Old (mR_92 (r18.from0 m45) s19 (r23.from0 m45) s24)) ?_
  rintro _ w4 ⟨k81, rfl⟩
  have m82 := m45.extk k81
  refine pu (vb (!(F_spec_EpOk x_c.Old))) wN ?_
  refine mv (vb (!(F_spec_EpOk x_c.Old))) wN ?_
  rcases bf (F_spec_EpOk x_c.Old) with h83 | h83
  ·refine sk (congrArg not h83) ?_
   refine sk (congrArg not h83) ?_
   refine sk (congrArg not h83) ?_
   refine sk (congrArg not h83) ?_
   refine sk (congrArg not h83) ?_
   refine sk (congrArg not h83) ?_
   refine sk (congrArg not h83) ?_
   refine sk (congrArg not h83) ?_
   refine pk (vb true) wN (congrArg not h83) ?_
   refine mv (vb true) wN ?_
   refine sk (Eq.refl true) ?_
   refine sk (Eq.refl true) ?_
   refine sk (Eq.refl true) ?_
   refine sk (Eq.refl true) ?_
   refine sk (Eq.refl true) ?_
   refine pk (vb true) wN (Eq.refl true) ?_
   refine wl_nil <| wq_then ?_
   refine ct (Eq.refl true) ?_
   refine sr ?_
   refine ag (vb false) wN ?_
   refine wl_nil <| wq_then <| wc_ret <| wq_then_ret ?_
   refine ret_1 (.inl rfl) (vb false) rfl rfl ?_
   refine ⟨m82.keep0, ?_⟩
   have hF103 : F_spec_ChanOk x_c = false := by simp only [F_spec_ChanOk, h39, h42, h46, h49, h51, h83, cond_true, cond_false]
   rw [hF103]
   exact rfl
  have q84 := spec_EpOk_t h83
  refine pu (vp g31 7) (wS (congrArg not h83)) ?_
  refine pu (vp g31 7) (wS (congrArg not h83)) ?_
  have b85 := (b48.kp k81)
  refine ld (vi x_c.Old.N) (wS (congrArg not h83)) isAgg_3 b85 ?_
  refine pu (vp g31 2) (wS (congrArg not h83)) ?_
  refine pu (vp g31 2) (wS (congrArg not h83)) ?_
  refine ld (vi x_c.Cur.N) (wS (congrArg not h83)) isAgg_3 b85 ?_
  refine ar (x_c.Cur.N - 1) (wS (congrArg not h83)) ?_
  refine pu (vb (!(decide (x_c.Old.N = (x_c.Cur.N - 1))))) (wS (congrArg not h83)) ?_
  refine pf (vb (!(decide (x_c.Old.N = (x_c.Cur.N - 1))))) wN (congrArg not h83) ?_
  refine mv (vb (!(decide (x_c.Old.N = (x_c.Cur.N - 1))))) wN ?_
  rcases bf (decide (x_c.Old.N = (x_c.Cur.N - 1))) with h86 | h86
  ·have q100 := of_decide_eq_false h86
   refine sk (congrArg not h86) ?_
   refine sk (congrArg not h86) ?_
   refine sk (congrArg not h86) ?_
   refine sk (congrArg not h86) ?_
   refine sk (congrArg not h86) ?_
   refine pk (vb true) wN (congrArg not h86) ?_
   refine wl_nil <| wq_then ?_
   refine ct (Eq.refl true) ?_
   refine sr ?_
   refine ag (vb false) wN ?_
   refine wl_nil <| wq_then <| wc_ret <| wq_then_ret ?_
   refine ret_1 (.inl rfl) (vb false) rfl rfl ?_
   refine ⟨m82.keep0, ?_⟩
   have hF101 : F_spec_ChanOk x_c = false := by simp only [F_spec_ChanOk, h39, h42, h46, h49, h51, h83, h86, cond_true, cond_false]
   rw [hF101]
   exact rfl
  have q87 := of_decide_eq_true h86
  refine pu (vp g31 13) (wS (congrArg not h86)) ?_
  refine ld (vi x_c.Until) (wS (congrArg not h86)) isAgg_3 b85 ?_
  refine mv (vi (-1)) (wS (congrArg not h86)) ?_
  refine cl (wS (congrArg not h86)) (C_spec_l1In w4 x_c.Until (-1) 1000005) ?_
  rintro _ w5 ⟨k88, rfl⟩
  have m89 := m82.extk k88
  refine pu (vb (!(F_spec_l1In x_c.Until (-1) 1000005))) (wS (congrArg not h86)) ?_
  refine pf (vb (!(F_spec_l1In x_c.Until (-1) 1000005))) wN (congrArg not h86) ?_
  refine wl_nil <| wq_then ?_
  rcases bf (F_spec_l1In x_c.Until (-1) 1000005) with h90 | h90
  ·have q98 := spec_l1In_f h90
   refine ct (congrArg not h90) ?_
   refine sr ?_
   refine ag (vb false) wN ?_
   refine wl_nil <| wq_then <| wc_ret <| wq_then_ret ?_
   refine ret_1 (.inl rfl) (vb false) rfl rfl ?_
   refine ⟨m89.keep0, ?_⟩
   have hF99 : F_spec_ChanOk x_c = false := by simp only [F_spec_ChanOk, h39, h42, h46, h49, h51, h83, h86, h90, cond_true, cond_false]
   rw [hF99]
   exact rfl
  have q91 := spec_l1In_t h90
  refine cf (congrArg not h90) ?_
  refine wc_skip <| wq_then <| wc_seq <| sr ?_
  refine pu (vp g31 14) wN ?_
  have b92 := (b85.kp k88)
  refine ld (vs a26 x_c.Next.length c27) wN isAgg_22 b92 ?_
  refine ln wN slTy_22 (r28.from0 m89) ?_
  refine pu (vb (decide ((x_c.Next.length : Int) = 0))) wN ?_
  refine wl_nil <| wq_then ?_
  rcases bt (decide ((x_c.Next.length : Int) = 0)) with h93 | h93
  ·have q94 := of_decide_eq_true h93
   refine ct h93 ?_
   refine sr ?_
   refine ag (vb true) wN ?_
   refine wl_nil <| wq_then <| wc_ret <| wq_then_ret ?_
   refine ret_1 (.inl rfl) (vb true) rfl rfl ?_
   refine ⟨m89.keep0, ?_⟩
   have hF95 : F_spec_ChanOk x_c = true := by simp only [F_spec_ChanOk, h39, h42, h46, h49, h51, h83, h86, h90, h93, cond_true, cond_false]
   rw [hF95]
   exact rfl
  have q96 := of_decide_eq_false h93
  refine cf h93 ?_
  refine wc_skip <| wq_then <| sr ?_
  refine pu (vp g31 0) wN ?_
  refine ld (vi x_c.Role) wN isAgg_3 b92 ?_
  refine pu (vb (decide (x_c.Role = 0))) wN ?_
  refine mv (vb (decide (x_c.Role = 0))) wN ?_
  refine sk h51 ?_
  refine sk h51 ?_
  refine sk h51 ?_
  refine sk h51 ?_
  refine pf (vb false) wN h51 ?_
  refine mv (vb false) wN ?_
  refine sk (Eq.refl false) ?_
  refine sk (Eq.refl false) ?_
  refine sk (Eq.refl false) ?_
  refine sk (Eq.refl false) ?_
  refine pf (vb false) wN (Eq.refl false) ?_
  refine ag (vb false) wN ?_
  refine wl_nil <| wq_then <| wc_ret ?_
  refine ret_1 (.inl rfl) (vb false) rfl rfl ?_
  refine ⟨m89.keep0, ?_⟩
  have hF97 : F_spec_ChanOk x_c = false := by simp only [F_spec_ChanOk, h39, h42, h46, h49, h51, h83, h86, h90, h93, cond_true, cond_false]
  rw [hF97]
  exact rfl
 have q52 := of_decide_eq_true h51
 refine ct h51 ?_
 refine wc_region ?_
 refine ag (vi 0) wN ?_
 refine nx ?_
 refine pu (vp g31 7) wN ?_
 refine lN (L_92 x_c.Old a16 c17 a21 c22) wN isAgg_92 sizeOf_92 b48 ?_
 refine cl wN (C_spec_EpOk w3 _ x_c.Old (mR_92 (r18.from0 m45) s19 (r23.from0 m45) s24)) ?_
 rintro _ w4 ⟨k53, rfl⟩
 have m54 := m45.extk k53
 refine pu (vb (!(F_spec_EpOk x_c.Old))) wN ?_
 refine mv (vb (!(F_spec_EpOk x_c.Old))) wN ?_
 rcases bf (F_spec_EpOk x_c.Old) with h55 | h55
 ·refine sk (congrArg not h55) ?_
  refine sk (congrArg not h55) ?_
  refine sk (congrArg not h55) ?_
  refine sk (congrArg not h55) ?_
  refine sk (congrArg not h55) ?_
  refine sk (congrArg not h55) ?_
  refine sk (congrArg not h55) ?_
  refine sk (congrArg not h55) ?_
  refine pk (vb true) wN (congrArg not h55) ?_
  refine mv (vb true) wN ?_
  refine sk (Eq.refl true) ?_
  refine sk (Eq.refl true) ?_
  refine sk (Eq.refl true) ?_
  refine sk (Eq.refl true) ?_
  refine sk (Eq.refl true) ?_
  refine pk (vb true) wN (Eq.refl true) ?_
  refine wl_nil <| wq_then ?_
  refine ct (Eq.refl true) ?_
  refine sr ?_
  refine ag (vb false) wN ?_
  refine wl_nil <| wq_then <| wc_ret <| wq_then_ret ?_
  refine ret_1 (.inl rfl) (vb false) rfl rfl ?_
  refine ⟨m54.keep0, ?_⟩
  have hF79 : F_spec_ChanOk x_c = false := by simp only [F_spec_ChanOk, h39, h42, h46, h49, h51, h55, cond_true, cond_false]
  rw [hF79]
  exact rfl
 have q56 := spec_EpOk_t h55
 refine pu (vp g31 7) (wS (congrArg not h55)) ?_
 refine pu (vp g31 7) (wS (congrArg not h55)) ?_
 have b57 := (b48.kp k53)
 refine ld (vi x_c.Old.N) (wS (congrArg not h55)) isAgg_3 b57 ?_
 refine pu (vp g31 2) (wS (congrArg not h55)) ?_
 refine pu (vp g31 2) (wS (congrArg not h55)) ?_
 refine ld (vi x_c.Cur.N) (wS (congrArg not h55)) isAgg_3 b57 ?_
 refine ar (x_c.Cur.N - 1) (wS (congrArg not h55)) ?_
 refine pu (vb (!(decide (x_c.Old.N = (x_c.Cur.N - 1))))) (wS (congrArg not h55)) ?_
 refine pf (vb (!(decide (x_c.Old.N = (x_c.Cur.N - 1))))) wN (congrArg not h55) ?_
 refine mv (vb (!(decide (x_c.Old.N = (x_c.Cur.N - 1))))) wN ?_
 rcases bf (decide (x_c.Old.N = (x_c.Cur.N - 1))) with h58 | h58
 ·have q76 := of_decide_eq_false h58
  refine sk (congrArg not h58) ?_
  refine sk (congrArg not h58) ?_
  refine sk (congrArg not h58) ?_
  refine sk (congrArg not h58) ?_
  refine sk (congrArg not h58) ?_
  refine pk (vb true) wN (congrArg not h58) ?_
  refine wl_nil <| wq_then ?_
  refine ct (Eq.refl true) ?_
  refine sr ?_
  refine ag (vb false) wN ?_
  refine wl_nil <| wq_then <| wc_ret <| wq_then_ret ?_
  refine ret_1 (.inl rfl) (vb false) rfl rfl ?_
  refine ⟨m54.keep0, ?_⟩
  have hF77 : F_spec_ChanOk x_c = false := by simp only [F_spec_ChanOk, h39, h42, h46, h49, h51, h55, h58, cond_true, cond_false]
  rw [hF77]
  exact rfl
 have q59 := of_decide_eq_true h58
 refine pu (vp g31 13) (wS (congrArg not h58)) ?_
 refine ld (vi x_c.Until) (wS (congrArg not h58)) isAgg_3 b57 ?_
 refine mv (vi 0) (wS (congrArg not h58)) ?_
 refine cl (wS (congrArg not h58)) (C_spec_l1In w4 x_c.Until 0 1000005) ?_
 rintro _ w5 ⟨k60, rfl⟩
 have m61 := m54.extk k60
 refine pu (vb (!(F_spec_l1In x_c.Until 0 1000005))) (wS (congrArg not h58)) ?_
 refine pf (vb (!(F_spec_l1In x_c.Until 0 1000005))) wN (congrArg not h58) ?_
 refine wl_nil <| wq_then ?_
 rcases bf (F_spec_l1In x_c.Until 0 1000005) with h62 | h62
 ·have q74 := spec_l1In_f h62
  refine ct (congrArg not h62) ?_
  refine sr ?_
  refine ag (vb false) wN ?_
  refine wl_nil <| wq_then <| wc_ret <| wq_then_ret ?_
  refine ret_1 (.inl rfl) (vb false) rfl rfl ?_
  refine ⟨m61.keep0, ?_⟩
  have hF75 : F_spec_ChanOk x_c = false := by simp only [F_spec_ChanOk, h39, h42, h46, h49, h51, h55, h58, h62, cond_true, cond_false]
  rw [hF75]
  exact rfl
 have q63 := spec_l1In_t h62
 refine cf (congrArg not h62) ?_
 refine wc_skip <| wq_then <| wc_seq <| sr ?_
 refine pu (vp g31 14) wN ?_
 have b64 := (b57.kp k60)
 refine ld (vs a26 x_c.Next.length c27) wN isAgg_22 b64 ?_
 refine ln wN slTy_22 (r28.from0 m61) ?_
 refine pu (vb (decide ((x_c.Next.length : Int) = 0))) wN ?_
 refine wl_nil <| wq_then ?_
 rcases bt (decide ((x_c.Next.length : Int) = 0)) with h65 | h65
 ·have q66 := of_decide_eq_true h65
  refine ct h65 ?_
  refine sr ?_
  refine ag (vb true) wN ?_
  refine wl_nil <| wq_then <| wc_ret <| wq_then_ret ?_
  refine ret_1 (.inl rfl) (vb true) rfl rfl ?_
  refine ⟨m61.keep0, ?_⟩
  have hF67 : F_spec_ChanOk x_c = true := by simp only [F_spec_ChanOk, h39, h42, h46, h49, h51, h55, h58, h62, h65, cond_true, cond_false]
  rw [hF67]
  exact rfl
 have q68 := of_decide_eq_false h65
 refine cf h65 ?_
 refine wc_skip <| wq_then <| sr ?_
 refine pu (vp g31 0) wN ?_
 refine ld (vi x_c.Role) wN isAgg_3 b64 ?_
 refine pu (vb (decide (x_c.Role = 0))) wN ?_
 refine mv (vb (decide (x_c.Role = 0))) wN ?_
 refine pu (vp g31 14) (wS h51) ?_
 refine ld (vs a26 x_c.Next.length c27) (wS h51) isAgg_22 b64 ?_
 refine ln (wS h51) slTy_22 (r28.from0 m61) ?_
 refine pu (vb (decide ((x_c.Next.length : Int) = 32))) (wS h51) ?_
 refine pk (vb (decide ((x_c.Next.length : Int) = 32))) wN h51 ?_
 refine mv (vb (decide ((x_c.Next.length : Int) = 32))) wN ?_
 rcases bf (decide ((x_c.Next.length : Int) = 32)) with h69 | h69
 ·have q72 := of_decide_eq_false h69
  refine sk h69 ?_
  refine sk h69 ?_
  refine sk h69 ?_
  refine sk h69 ?_
  refine pf (vb false) wN h69 ?_
  refine ag (vb false) wN ?_
  refine wl_nil <| wq_then <| wc_ret ?_
  refine ret_1 (.inl rfl) (vb false) rfl rfl ?_
  refine ⟨m61.keep0, ?_⟩
  have hF73 : F_spec_ChanOk x_c = false := by simp only [F_spec_ChanOk, h39, h42, h46, h49, h51, h55, h58, h62, h65, h69, cond_true, cond_false]
  rw [hF73]
  exact rfl
 have q70 := of_decide_eq_true h69
 refine pu (vp g31 2) (wS h69) ?_
 refine pu (vp g31 2) (wS h69) ?_
 refine ld (vi x_c.Cur.N) (wS h69) isAgg_3 b64 ?_
 refine pu (vb (decide (x_c.Cur.N < 4294967295))) (wS h69) ?_
 refine pk (vb (decide (x_c.Cur.N < 4294967295))) wN h69 ?_
 refine ag (vb (decide (x_c.Cur.N < 4294967295))) wN ?_
 refine wl_nil <| wq_then <| wc_ret ?_
 refine ret_1 (.inl rfl) (vb (decide (x_c.Cur.N < 4294967295))) rfl rfl ?_
 refine ⟨m61.keep0, ?_⟩
 have hF71 : F_spec_ChanOk x_c = decide (x_c.Cur.N < 4294967295) := by simp only [F_spec_ChanOk, h39, h42, h46, h49, h51, h55, h58, h62, h65, h69, cond_true, cond_false]
 rw [hF71]
 exact rfl
theorem spec_ChanOk_t {c : PChan} (h : F_spec_ChanOk c = true) : 0 ≤ c.Cur.N ∧ c.Cur.N ≤ 4294967295 := by
  cases h1 : F_spec_EpOk c.Cur with
  | false => simp [F_spec_ChanOk, h1] at h
  | true => exact ⟨(spec_EpOk_t h1).1, (spec_EpOk_t h1).2.1⟩

def F_spec_Sealed (x_kind : Int) : (Bool) := (F_spec_l1In x_kind 4 8)
theorem C_spec_Sealed (w0 : World) (x_kind : Int)  : Fn Try.prog 156 #[(vi x_kind)] w0 (fun v w' => Keep w0 w' ∧ O_4 w' w0.heap.size v (F_spec_Sealed x_kind)) := by
 refine fn_of (n := 5) (l := [(vi x_kind), U, U, U, U]) Try.func156 rfl rfl (by kernel_rfl) rfl ?_
 refine sr ?_
 refine ag (vb false) wN ?_
 refine nx ?_
 refine mv (vi x_kind) wN ?_
 refine cl wN (C_spec_l1In w0 x_kind 4 8) ?_
 rintro _ w1 ⟨k1, rfl⟩
 have m2 := (Ch.base w0).extk k1
 refine ag (vb (F_spec_l1In x_kind 4 8)) wN ?_
 refine wl_nil <| wq_then <| wc_ret ?_
 refine ret_1 (.inl rfl) (vb (F_spec_l1In x_kind 4 8)) rfl rfl ?_
 refine ⟨m2.keep0, ?_⟩
 have hF3 : F_spec_Sealed x_kind = (F_spec_l1In x_kind 4 8) := by rfl
 rw [hF3]
 exact rfl

def F_spec_l7Body (x_kind : Int) (x_n : Int) : (Bool) := bif (decide (x_kind = 4)) then (decide (x_n ≤ 40)) else (bif (decide (x_kind = 5)) then (decide (x_n = 12)) else (bif (decide (x_kind = 6)) then (decide (x_n = 12)) else (decide (x_n = 4))))
theorem C_spec_l7Body (w0 : World) (x_kind : Int) (x_n : Int)  : Fn Try.prog 157 #[(vi x_kind), (vi x_n)] w0 (fun v w' => Keep w0 w' ∧ O_4 w' w0.heap.size v (F_spec_l7Body x_kind x_n)) := by
 refine fn_of (n := 19) (l := [(vi x_kind), (vi x_n), U, U, U, U, U, U, U, U, U, U, U, U, U, U, U, U, U]) Try.func157 rfl rfl (by kernel_rfl) rfl ?_
 refine sr ?_
 refine ag (vb false) wN ?_
 refine wl_nil <| wq_then <| wc_seq <| sr ?_
 refine mv (vi x_kind) wN ?_
 refine pu (vb (decide (x_kind = 4))) wN ?_
 refine wl_nil <| wq_then ?_
 rcases bt (decide (x_kind = 4)) with h1 | h1
 ·have q2 := of_decide_eq_true h1
  refine ct h1 ?_
  refine sr ?_
  refine mv (vi x_n) wN ?_
  refine pu (vb (decide (x_n ≤ 40))) wN ?_
  refine ag (vb (decide (x_n ≤ 40))) wN ?_
  refine wl_nil <| wq_then <| wc_ret <| wq_then_ret ?_
  refine ret_1 (.inl rfl) (vb (decide (x_n ≤ 40))) rfl rfl ?_
  refine ⟨Ch.refl _ _, ?_⟩
  have hF3 : F_spec_l7Body x_kind x_n = decide (x_n ≤ 40) := by simp only [F_spec_l7Body, h1, cond_true, cond_false]
  rw [hF3]
  exact rfl
 have q4 := of_decide_eq_false h1
 refine cf h1 ?_
 refine wc_skip <| wq_then <| wc_seq <| sr ?_
 refine mv (vi x_kind) wN ?_
 refine pu (vb (decide (x_kind = 5))) wN ?_
 refine mv (vb (decide (x_kind = 5))) wN ?_
 rcases bt (decide (x_kind = 5)) with h5 | h5
 ·have q6 := of_decide_eq_true h5
  refine sk h5 ?_
  refine sk h5 ?_
  refine pk (vb true) wN h5 ?_
  refine wl_nil <| wq_then ?_
  refine ct (Eq.refl true) ?_
  refine sr ?_
  refine mv (vi x_n) wN ?_
  refine pu (vb (decide (x_n = 12))) wN ?_
  refine ag (vb (decide (x_n = 12))) wN ?_
  refine wl_nil <| wq_then <| wc_ret <| wq_then_ret ?_
  refine ret_1 (.inl rfl) (vb (decide (x_n = 12))) rfl rfl ?_
  refine ⟨Ch.refl _ _, ?_⟩
  have hF7 : F_spec_l7Body x_kind x_n = decide (x_n = 12) := by simp only [F_spec_l7Body, h1, h5, cond_true, cond_false]
  rw [hF7]
  exact rfl
 have q8 := of_decide_eq_false h5
 refine mv (vi x_kind) (wS h5) ?_
 refine pu (vb (decide (x_kind = 6))) (wS h5) ?_
 refine pf (vb (decide (x_kind = 6))) wN h5 ?_
 refine wl_nil <| wq_then ?_
 rcases bt (decide (x_kind = 6)) with h9 | h9
 ·have q10 := of_decide_eq_true h9
  refine ct h9 ?_
  refine sr ?_
  refine mv (vi x_n) wN ?_
  refine pu (vb (decide (x_n = 12))) wN ?_
  refine ag (vb (decide (x_n = 12))) wN ?_
  refine wl_nil <| wq_then <| wc_ret <| wq_then_ret ?_
  refine ret_1 (.inl rfl) (vb (decide (x_n = 12))) rfl rfl ?_
  refine ⟨Ch.refl _ _, ?_⟩
  have hF11 : F_spec_l7Body x_kind x_n = decide (x_n = 12) := by simp only [F_spec_l7Body, h1, h5, h9, cond_true, cond_false]
  rw [hF11]
  exact rfl
 have q12 := of_decide_eq_false h9
 refine cf h9 ?_
 refine wc_skip <| wq_then <| sr ?_
 refine mv (vi x_n) wN ?_
 refine pu (vb (decide (x_n = 4))) wN ?_
 refine ag (vb (decide (x_n = 4))) wN ?_
 refine wl_nil <| wq_then <| wc_ret ?_
 refine ret_1 (.inl rfl) (vb (decide (x_n = 4))) rfl rfl ?_
 refine ⟨Ch.refl _ _, ?_⟩
 have hF13 : F_spec_l7Body x_kind x_n = decide (x_n = 4) := by simp only [F_spec_l7Body, h1, h5, h9, cond_true, cond_false]
 rw [hF13]
 exact rfl

def F_spec_FrameOk (x_f : PFrame) : (Bool) := bif (F_spec_Sealed x_f.Kind) then (bif (decide (x_f.Id = 0)) then (bif (decide ((x_f.Cn.length : Int) = 0)) then (bif (decide ((x_f.Sn.length : Int) = 12)) then (bif (decide (x_f.Tick = 0)) then (bif (decide ((x_f.Cookie.length : Int) = 0)) then (bif (decide ((x_f.Proof.length : Int) = 0)) then (bif (F_spec_l1In x_f.Epoch 0 4294967295) then (bif (F_spec_l1In x_f.Seq 0 281474976710655) then (bif (F_spec_l7Body x_f.Kind (x_f.Body.length : Int)) then (decide ((x_f.Tag.length : Int) = 16)) else (false)) else (false)) else (false)) else (false)) else (false)) else (false)) else (false)) else (false)) else (false)) else (bif (decide (x_f.Epoch = 0)) then (bif (decide (x_f.Seq = 0)) then (bif (decide ((x_f.Body.length : Int) = 0)) then (bif (decide ((x_f.Tag.length : Int) = 0)) then (bif (decide ((x_f.Cn.length : Int) = 12)) then (bif (decide (x_f.Kind = 1)) then (bif (F_spec_l1In x_f.Id 1 9) then (bif (decide ((x_f.Sn.length : Int) = 0)) then (bif (decide (x_f.Tick = 0)) then (bif (decide ((x_f.Cookie.length : Int) = 0)) then (decide ((x_f.Proof.length : Int) = 0)) else (false)) else (false)) else (false)) else (false)) else (bif (decide (x_f.Kind = 2)) then (bif (decide (x_f.Id = 0)) then (bif (decide ((x_f.Sn.length : Int) = 12)) then (bif (F_spec_l1In x_f.Tick 0 1000000) then (bif (decide ((x_f.Cookie.length : Int) = 16)) then (decide ((x_f.Proof.length : Int) = 0)) else (false)) else (false)) else (false)) else (false)) else (bif (decide (x_f.Kind = 3)) then (bif (F_spec_l1In x_f.Id 1 9) then (bif (decide ((x_f.Sn.length : Int) = 12)) then (bif (F_spec_l1In x_f.Tick 0 1000000) then (bif (decide ((x_f.Cookie.length : Int) = 16)) then (decide ((x_f.Proof.length : Int) = 16)) else (false)) else (false)) else (false)) else (false)) else (false)))) else (false)) else (false)) else (false)) else (false)) else (false))
theorem C_spec_FrameOk (w0 : World) (v_x_f : Value) (x_f : PFrame) (r_x_f : R_87 w0 v_x_f x_f)  : Fn Try.prog 132 #[v_x_f] w0 (fun v w' => Keep w0 w' ∧ O_4 w' w0.heap.size v (F_spec_FrameOk x_f)) := by
 obtain ⟨a1, c2, a6, c7, a11, c12, a16, c17, a21, c22, a26, c27, rfl, r3, s4, r8, s9, r13, s14, r18, s19, r23, s24, r28, s29⟩ := r_x_f
 refine fn_of (n := 174) (l := [(va (L_87 x_f a1 c2 a6 c7 a11 c12 a16 c17 a21 c22 a26 c27)), U, U, U, U, U, U, U, U, U, U, U, U, U, U, U, U, U, U, U, U, U, U, U, U, U, U, U, U, U, U, U, U, U, U, U, U, U, U, U, U, U, U, U, U, U, U, U, U, U, U, U, U, U, U, U, U, U, U, U, U, U, U, U, U, U, U, U, U, U, U, U, U, U, U, U, U, U, U, U, U, U, U, U, U, U, U, U, U, U, U, U, U, U, U, U, U, U, U, U, U, U, U, U, U, U, U, U, U, U, U, U, U, U, U, U, U, U, U, U, U, U, U, U, U, U, U, U, U, U, U, U, U, U, U, U, U, U, U, U, U, U, U, U, U, U, U, U, U, U, U, U, U, U, U, U, U, U, U, U, U, U, U, U, U, U, U, U, U, U, U, U, U, U]) Try.func132 rfl rfl (by kernel_rfl) rfl ?_
 refine sr ?_
 refine bx (L_87 x_f a1 c2 a6 c7 a11 c12 a16 c17 a21 c22 a26 c27) wN ?_
 intro g31 w1 p32 p33 k34 b35
 have m36 := (Ch.base w0).extk k34
 refine ag (vb false) wN ?_
 refine wl_nil <| wq_then <| wc_seq <| sr ?_
 refine pu (vp g31 0) wN ?_
 refine ld (vi x_f.Kind) wN isAgg_3 b35 ?_
 refine cl wN (C_spec_Sealed w1 x_f.Kind) ?_
 rintro _ w2 ⟨k37, rfl⟩
 have m38 := m36.extk k37
 refine wl_nil <| wq_then ?_
 rcases bt (F_spec_Sealed x_f.Kind) with h39 | h39
 ·refine ct h39 ?_
  refine sr ?_
  refine pu (vp g31 1) wN ?_
  have b41 := (b35.kp k37)
  refine ld (vi x_f.Id) wN isAgg_3 b41 ?_
  refine pu (vb (decide (x_f.Id = 0))) wN ?_
  refine mv (vb (decide (x_f.Id = 0))) wN ?_
  rcases bf (decide (x_f.Id = 0)) with h42 | h42
  ·have q86 := of_decide_eq_false h42
   refine sk h42 ?_
   refine sk h42 ?_
   refine sk h42 ?_
   refine sk h42 ?_
   refine pf (vb false) wN h42 ?_
   refine mv (vb false) wN ?_
   refine sk (Eq.refl false) ?_
   refine sk (Eq.refl false) ?_
   refine sk (Eq.refl false) ?_
   refine sk (Eq.refl false) ?_
   refine pf (vb false) wN (Eq.refl false) ?_
   refine mv (vb false) wN ?_
   refine sk (Eq.refl false) ?_
   refine sk (Eq.refl false) ?_
   refine sk (Eq.refl false) ?_
   refine pf (vb false) wN (Eq.refl false) ?_
   refine mv (vb false) wN ?_
   refine sk (Eq.refl false) ?_
   refine sk (Eq.refl false) ?_
   refine sk (Eq.refl false) ?_
   refine sk (Eq.refl false) ?_
   refine pf (vb false) wN (Eq.refl false) ?_
   refine mv (vb false) wN ?_
   refine sk (Eq.refl false) ?_
   refine sk (Eq.refl false) ?_
   refine sk (Eq.refl false) ?_
   refine sk (Eq.refl false) ?_
   refine pf (vb false) wN (Eq.refl false) ?_
   refine mv (vb false) wN ?_
   refine sk (Eq.refl false) ?_
   refine sk (Eq.refl false) ?_
   refine sk (Eq.refl false) ?_
   refine pf (vb false) wN (Eq.refl false) ?_
   refine mv (vb false) wN ?_
   refine sk (Eq.refl false) ?_
   refine sk (Eq.refl false) ?_
   refine sk (Eq.refl false) ?_
   refine pf (vb false) wN (Eq.refl false) ?_
   refine mv (vb false) wN ?_
   refine sk (Eq.refl false) ?_
   refine sk (Eq.refl false) ?_
   refine sk (Eq.refl false) ?_
   refine sk (Eq.refl false) ?_
   refine sk (Eq.refl false) ?_
   refine sk (Eq.refl false) ?_
   refine pf (vb false) wN (Eq.refl false) ?_
   refine mv (vb false) wN ?_
   refine sk (Eq.refl false) ?_
   refine sk (Eq.refl false) ?_
   refine sk (Eq.refl false) ?_
   refine sk (Eq.refl false) ?_
   refine pf (vb false) wN (Eq.refl false) ?_
   refine ag (vb false) wN ?_
   refine wl_nil <| wq_then <| wc_ret <| wq_then_ret ?_
   refine ret_1 (.inl rfl) (vb false) rfl rfl ?_
   refine ⟨m38.keep0, ?_⟩
   have hF87 : F_spec_FrameOk x_f = false := by simp only [F_spec_FrameOk, h39, h42, cond_true, cond_false]
   rw [hF87]
   exact rfl
  have q43 := of_decide_eq_true h42
  refine pu (vp g31 2) (wS h42) ?_
  refine ld (vs a1 x_f.Cn.length c2) (wS h42) isAgg_22 b41 ?_
  refine ln (wS h42) slTy_22 (r3.from0 m38) ?_
  refine pu (vb (decide ((x_f.Cn.length : Int) = 0))) (wS h42) ?_
  refine pk (vb (decide ((x_f.Cn.length : Int) = 0))) wN h42 ?_
  refine mv (vb (decide ((x_f.Cn.length : Int) = 0))) wN ?_
  rcases bf (decide ((x_f.Cn.length : Int) = 0)) with h44 | h44
  ·have q84 := of_decide_eq_false h44
   refine sk h44 ?_
   refine sk h44 ?_
   refine sk h44 ?_
   refine sk h44 ?_
   refine pf (vb false) wN h44 ?_
   refine mv (vb false) wN ?_
   refine sk (Eq.refl false) ?_
   refine sk (Eq.refl false) ?_
   refine sk (Eq.refl false) ?_
   refine pf (vb false) wN (Eq.refl false) ?_
   refine mv (vb false) wN ?_
   refine sk (Eq.refl false) ?_
   refine sk (Eq.refl false) ?_
   refine sk (Eq.refl false) ?_
   refine sk (Eq.refl false) ?_
   refine pf (vb false) wN (Eq.refl false) ?_
   refine mv (vb false) wN ?_
   refine sk (Eq.refl false) ?_
   refine sk (Eq.refl false) ?_
   refine sk (Eq.refl false) ?_
   refine sk (Eq.refl false) ?_
   refine pf (vb false) wN (Eq.refl false) ?_
   refine mv (vb false) wN ?_
   refine sk (Eq.refl false) ?_
   refine sk (Eq.refl false) ?_
   refine sk (Eq.refl false) ?_
   refine pf (vb false) wN (Eq.refl false) ?_
   refine mv (vb false) wN ?_
   refine sk (Eq.refl false) ?_
   refine sk (Eq.refl false) ?_
   refine sk (Eq.refl false) ?_
   refine pf (vb false) wN (Eq.refl false) ?_
   refine mv (vb false) wN ?_
   refine sk (Eq.refl false) ?_
   refine sk (Eq.refl false) ?_
   refine sk (Eq.refl false) ?_
   refine sk (Eq.refl false) ?_
   refine sk (Eq.refl false) ?_
   refine sk (Eq.refl false) ?_
   refine pf (vb false) wN (Eq.refl false) ?_
   refine mv (vb false) wN ?_
   refine sk (Eq.refl false) ?_
   refine sk (Eq.refl false) ?_
   refine sk (Eq.refl false) ?_
   refine sk (Eq.refl false) ?_
   refine pf (vb false) wN (Eq.refl false) ?_
   refine ag (vb false) wN ?_
   refine wl_nil <| wq_then <| wc_ret <| wq_then_ret ?_
   refine ret_1 (.inl rfl) (vb false) rfl rfl ?_
   refine ⟨m38.keep0, ?_⟩
   have hF85 : F_spec_FrameOk x_f = false := by simp only [F_spec_FrameOk, h39, h42, h44, cond_true, cond_false]
   rw [hF85]
   exact rfl
  have q45 := of_decide_eq_true h44
  refine pu (vp g31 3) (wS h44) ?_
  refine ld (vs a6 x_f.Sn.length c7) (wS h44) isAgg_22 b41 ?_
  refine ln (wS h44) slTy_22 (r8.from0 m38) ?_
  refine pu (vb (decide ((x_f.Sn.length : Int) = 12))) (wS h44) ?_
  refine pk (vb (decide ((x_f.Sn.length : Int) = 12))) wN h44 ?_
  refine mv (vb (decide ((x_f.Sn.length : Int) = 12))) wN ?_
  rcases bf (decide ((x_f.Sn.length : Int) = 12)) with h46 | h46
  ·have q82 := of_decide_eq_false h46
   refine sk h46 ?_
   refine sk h46 ?_
   refine sk h46 ?_
   refine pf (vb false) wN h46 ?_
   refine mv (vb false) wN ?_
   refine sk (Eq.refl false) ?_
   refine sk (Eq.refl false) ?_
   refine sk (Eq.refl false) ?_
   refine sk (Eq.refl false) ?_
   refine pf (vb false) wN (Eq.refl false) ?_
   refine mv (vb false) wN ?_
   refine sk (Eq.refl false) ?_
   refine sk (Eq.refl false) ?_
   refine sk (Eq.refl false) ?_
   refine sk (Eq.refl false) ?_
   refine pf (vb false) wN (Eq.refl false) ?_
   refine mv (vb false) wN ?_
   refine sk (Eq.refl false) ?_
   refine sk (Eq.refl false) ?_
   refine sk (Eq.refl false) ?_
   refine pf (vb false) wN (Eq.refl false) ?_
   refine mv (vb false) wN ?_
   refine sk (Eq.refl false) ?_
   refine sk (Eq.refl false) ?_
   refine sk (Eq.refl false) ?_
   refine pf (vb false) wN (Eq.refl false) ?_
   refine mv (vb false) wN ?_
   refine sk (Eq.refl false) ?_
   refine sk (Eq.refl false) ?_
   refine sk (Eq.refl false) ?_
   refine sk (Eq.refl false) ?_
   refine sk (Eq.refl false) ?_
   refine sk (Eq.refl false) ?_
   refine pf (vb false) wN (Eq.refl false) ?_
   refine mv (vb false) wN ?_
   refine sk (Eq.refl false) ?_
   refine sk (Eq.refl false) ?_
   refine sk (Eq.refl false) ?_
   refine sk (Eq.refl false) ?_
   refine pf (vb false) wN (Eq.refl false) ?_
   refine ag (vb false) wN ?_
   refine wl_nil <| wq_then <| wc_ret <| wq_then_ret ?_
   refine ret_1 (.inl rfl) (vb false) rfl rfl ?_
   refine ⟨m38.keep0, ?_⟩
   have hF83 : F_spec_FrameOk x_f = false := by simp only [F_spec_FrameOk, h39, h42, h44, h46, cond_true, cond_false]
   rw [hF83]
   exact rfl
  have q47 := of_decide_eq_true h46
  refine pu (vp g31 4) (wS h46) ?_
  refine ld (vi x_f.Tick) (wS h46) isAgg_3 b41 ?_
  refine pu (vb (decide (x_f.Tick = 0))) (wS h46) ?_
  refine pk (vb (decide (x_f.Tick = 0))) wN h46 ?_
  refine mv (vb (decide (x_f.Tick = 0))) wN ?_
  rcases bf (decide (x_f.Tick = 0)) with h48 | h48
  ·have q80 := of_decide_eq_false h48
   refine sk h48 ?_
   refine sk h48 ?_
   refine sk h48 ?_
   refine sk h48 ?_
   refine pf (vb false) wN h48 ?_
   refine mv (vb false) wN ?_
   refine sk (Eq.refl false) ?_
   refine sk (Eq.refl false) ?_
   refine sk (Eq.refl false) ?_
   refine sk (Eq.refl false) ?_
   refine pf (vb false) wN (Eq.refl false) ?_
   refine mv (vb false) wN ?_
   refine sk (Eq.refl false) ?_
   refine sk (Eq.refl false) ?_
   refine sk (Eq.refl false) ?_
   refine pf (vb false) wN (Eq.refl false) ?_
   refine mv (vb false) wN ?_
   refine sk (Eq.refl false) ?_
   refine sk (Eq.refl false) ?_
   refine sk (Eq.refl false) ?_
   refine pf (vb false) wN (Eq.refl false) ?_
   refine mv (vb false) wN ?_
   refine sk (Eq.refl false) ?_
   refine sk (Eq.refl false) ?_
   refine sk (Eq.refl false) ?_
   refine sk (Eq.refl false) ?_
   refine sk (Eq.refl false) ?_
   refine sk (Eq.refl false) ?_
   refine pf (vb false) wN (Eq.refl false) ?_
   refine mv (vb false) wN ?_
   refine sk (Eq.refl false) ?_
   refine sk (Eq.refl false) ?_
   refine sk (Eq.refl false) ?_
   refine sk (Eq.refl false) ?_
   refine pf (vb false) wN (Eq.refl false) ?_
   refine ag (vb false) wN ?_
   refine wl_nil <| wq_then <| wc_ret <| wq_then_ret ?_
   refine ret_1 (.inl rfl) (vb false) rfl rfl ?_
   refine ⟨m38.keep0, ?_⟩
   have hF81 : F_spec_FrameOk x_f = false := by simp only [F_spec_FrameOk, h39, h42, h44, h46, h48, cond_true, cond_false]
   rw [hF81]
   exact rfl
  have q49 := of_decide_eq_true h48
  refine pu (vp g31 5) (wS h48) ?_
  refine ld (vs a11 x_f.Cookie.length c12) (wS h48) isAgg_22 b41 ?_
  refine ln (wS h48) slTy_22 (r13.from0 m38) ?_
  refine pu (vb (decide ((x_f.Cookie.length : Int) = 0))) (wS h48) ?_
  refine pk (vb (decide ((x_f.Cookie.length : Int) = 0))) wN h48 ?_
  refine mv (vb (decide ((x_f.Cookie.length : Int) = 0))) wN ?_
  rcases bf (decide ((x_f.Cookie.length : Int) = 0)) with h50 | h50
  ·have q78 := of_decide_eq_false h50
   refine sk h50 ?_
   refine sk h50 ?_
   refine sk h50 ?_
   refine sk h50 ?_
   refine pf (vb false) wN h50 ?_
   refine mv (vb false) wN ?_
   refine sk (Eq.refl false) ?_
   refine sk (Eq.refl false) ?_
   refine sk (Eq.refl false) ?_
   refine pf (vb false) wN (Eq.refl false) ?_
   refine mv (vb false) wN ?_
   refine sk (Eq.refl false) ?_
   refine sk (Eq.refl false) ?_
   refine sk (Eq.refl false) ?_
   refine pf (vb false) wN (Eq.refl false) ?_
   refine mv (vb false) wN ?_
   refine sk (Eq.refl false) ?_
   refine sk (Eq.refl false) ?_
   refine sk (Eq.refl false) ?_
   refine sk (Eq.refl false) ?_
   refine sk (Eq.refl false) ?_
   refine sk (Eq.refl false) ?_
   refine pf (vb false) wN (Eq.refl false) ?_
   refine mv (vb false) wN ?_
   refine sk (Eq.refl false) ?_
   refine sk (Eq.refl false) ?_
   refine sk (Eq.refl false) ?_
   refine sk (Eq.refl false) ?_
   refine pf (vb false) wN (Eq.refl false) ?_
   refine ag (vb false) wN ?_
   refine wl_nil <| wq_then <| wc_ret <| wq_then_ret ?_
   refine ret_1 (.inl rfl) (vb false) rfl rfl ?_
   refine ⟨m38.keep0, ?_⟩
   have hF79 : F_spec_FrameOk x_f = false := by simp only [F_spec_FrameOk, h39, h42, h44, h46, h48, h50, cond_true, cond_false]
   rw [hF79]
   exact rfl
  have q51 := of_decide_eq_true h50
  refine pu (vp g31 6) (wS h50) ?_
  refine ld (vs a16 x_f.Proof.length c17) (wS h50) isAgg_22 b41 ?_
  refine ln (wS h50) slTy_22 (r18.from0 m38) ?_
  refine pu (vb (decide ((x_f.Proof.length : Int) = 0))) (wS h50) ?_
  refine pk (vb (decide ((x_f.Proof.length : Int) = 0))) wN h50 ?_
  refine mv (vb (decide ((x_f.Proof.length : Int) = 0))) wN ?_
  rcases bf (decide ((x_f.Proof.length : Int) = 0)) with h52 | h52
  ·have q76 := of_decide_eq_false h52
   refine sk h52 ?_
   refine sk h52 ?_
   refine sk h52 ?_
   refine pf (vb false) wN h52 ?_
   refine mv (vb false) wN ?_
   refine sk (Eq.refl false) ?_
   refine sk (Eq.refl false) ?_
   refine sk (Eq.refl false) ?_
   refine pf (vb false) wN (Eq.refl false) ?_
   refine mv (vb false) wN ?_
   refine sk (Eq.refl false) ?_
   refine sk (Eq.refl false) ?_
   refine sk (Eq.refl false) ?_
   refine sk (Eq.refl false) ?_
   refine sk (Eq.refl false) ?_
   refine sk (Eq.refl false) ?_
   refine pf (vb false) wN (Eq.refl false) ?_
   refine mv (vb false) wN ?_
   refine sk (Eq.refl false) ?_
   refine sk (Eq.refl false) ?_
   refine sk (Eq.refl false) ?_
   refine sk (Eq.refl false) ?_
   refine pf (vb false) wN (Eq.refl false) ?_
   refine ag (vb false) wN ?_
   refine wl_nil <| wq_then <| wc_ret <| wq_then_ret ?_
   refine ret_1 (.inl rfl) (vb false) rfl rfl ?_
   refine ⟨m38.keep0, ?_⟩
   have hF77 : F_spec_FrameOk x_f = false := by simp only [F_spec_FrameOk, h39, h42, h44, h46, h48, h50, h52, cond_true, cond_false]
   rw [hF77]
   exact rfl
  have q53 := of_decide_eq_true h52
  refine pu (vp g31 7) (wS h52) ?_
  refine ld (vi x_f.Epoch) (wS h52) isAgg_3 b41 ?_
  refine cl (wS h52) (C_spec_l1In w2 x_f.Epoch 0 4294967295) ?_
  rintro _ w3 ⟨k54, rfl⟩
  have m55 := m38.extk k54
  refine pk (vb (F_spec_l1In x_f.Epoch 0 4294967295)) wN h52 ?_
  refine mv (vb (F_spec_l1In x_f.Epoch 0 4294967295)) wN ?_
  rcases bf (F_spec_l1In x_f.Epoch 0 4294967295) with h56 | h56
  ·have q74 := spec_l1In_f h56
   refine sk h56 ?_
   refine sk h56 ?_
   refine sk h56 ?_
   refine pf (vb false) wN h56 ?_
   refine mv (vb false) wN ?_
   refine sk (Eq.refl false) ?_
   refine sk (Eq.refl false) ?_
   refine sk (Eq.refl false) ?_
   refine sk (Eq.refl false) ?_
   refine sk (Eq.refl false) ?_
   refine sk (Eq.refl false) ?_
   refine pf (vb false) wN (Eq.refl false) ?_
   refine mv (vb false) wN ?_
   refine sk (Eq.refl false) ?_
   refine sk (Eq.refl false) ?_
   refine sk (Eq.refl false) ?_
   refine sk (Eq.refl false) ?_
   refine pf (vb false) wN (Eq.refl false) ?_
   refine ag (vb false) wN ?_
   refine wl_nil <| wq_then <| wc_ret <| wq_then_ret ?_
   refine ret_1 (.inl rfl) (vb false) rfl rfl ?_
   refine ⟨m55.keep0, ?_⟩
   have hF75 : F_spec_FrameOk x_f = false := by simp only [F_spec_FrameOk, h39, h42, h44, h46, h48, h50, h52, h56, cond_true, cond_false]
   rw [hF75]
   exact rfl
  have q57 := spec_l1In_t h56
  refine pu (vp g31 8) (wS h56) ?_
  have b58 := (b41.kp k54)
  refine ld (vi x_f.Seq) (wS h56) isAgg_3 b58 ?_
  refine cl (wS h56) (C_spec_l1In w3 x_f.Seq 0 281474976710655) ?_
  rintro _ w4 ⟨k59, rfl⟩
  have m60 := m55.extk k59
  refine pk (vb (F_spec_l1In x_f.Seq 0 281474976710655)) wN h56 ?_
  refine mv (vb (F_spec_l1In x_f.Seq 0 281474976710655)) wN ?_
  rcases bf (F_spec_l1In x_f.Seq 0 281474976710655) with h61 | h61
  ·have q72 := spec_l1In_f h61
   refine sk h61 ?_
   refine sk h61 ?_
   refine sk h61 ?_
   refine sk h61 ?_
   refine sk h61 ?_
   refine sk h61 ?_
   refine pf (vb false) wN h61 ?_
   refine mv (vb false) wN ?_
   refine sk (Eq.refl false) ?_
   refine sk (Eq.refl false) ?_
   refine sk (Eq.refl false) ?_
   refine sk (Eq.refl false) ?_
   refine pf (vb false) wN (Eq.refl false) ?_
   refine ag (vb false) wN ?_
   refine wl_nil <| wq_then <| wc_ret <| wq_then_ret ?_
   refine ret_1 (.inl rfl) (vb false) rfl rfl ?_
   refine ⟨m60.keep0, ?_⟩
   have hF73 : F_spec_FrameOk x_f = false := by simp only [F_spec_FrameOk, h39, h42, h44, h46, h48, h50, h52, h56, h61, cond_true, cond_false]
   rw [hF73]
   exact rfl
  have q62 := spec_l1In_t h61
  refine pu (vp g31 0) (wS h61) ?_
  have b63 := (b58.kp k59)
  refine ld (vi x_f.Kind) (wS h61) isAgg_3 b63 ?_
  refine pu (vp g31 9) (wS h61) ?_
  refine ld (vs a21 x_f.Body.length c22) (wS h61) isAgg_22 b63 ?_
  refine ln (wS h61) slTy_22 (r23.from0 m60) ?_
  refine cl (wS h61) (C_spec_l7Body w4 x_f.Kind (x_f.Body.length : Int)) ?_
  rintro _ w5 ⟨k64, rfl⟩
  have m65 := m60.extk k64
  refine pk (vb (F_spec_l7Body x_f.Kind (x_f.Body.length : Int))) wN h61 ?_
  refine mv (vb (F_spec_l7Body x_f.Kind (x_f.Body.length : Int))) wN ?_
  rcases bf (F_spec_l7Body x_f.Kind (x_f.Body.length : Int)) with h66 | h66
  ·refine sk h66 ?_
   refine sk h66 ?_
   refine sk h66 ?_
   refine sk h66 ?_
   refine pf (vb false) wN h66 ?_
   refine ag (vb false) wN ?_
   refine wl_nil <| wq_then <| wc_ret <| wq_then_ret ?_
   refine ret_1 (.inl rfl) (vb false) rfl rfl ?_
   refine ⟨m65.keep0, ?_⟩
   have hF71 : F_spec_FrameOk x_f = false := by simp only [F_spec_FrameOk, h39, h42, h44, h46, h48, h50, h52, h56, h61, h66, cond_true, cond_false]
   rw [hF71]
   exact rfl
  refine pu (vp g31 10) (wS h66) ?_
  have b68 := (b63.kp k64)
  refine ld (vs a26 x_f.Tag.length c27) (wS h66) isAgg_22 b68 ?_
  refine ln (wS h66) slTy_22 (r28.from0 m65) ?_
  refine pu (vb (decide ((x_f.Tag.length : Int) = 16))) (wS h66) ?_
  refine pk (vb (decide ((x_f.Tag.length : Int) = 16))) wN h66 ?_
  refine ag (vb (decide ((x_f.Tag.length : Int) = 16))) wN ?_
  refine wl_nil <| wq_then <| wc_ret <| wq_then_ret ?_
  refine ret_1 (.inl rfl) (vb (decide ((x_f.Tag.length : Int) = 16))) rfl rfl ?_
  refine ⟨m65.keep0, ?_⟩
  have hF69 : F_spec_FrameOk x_f = decide ((x_f.Tag.length : Int) = 16) := by simp only [F_spec_FrameOk, h39, h42, h44, h46, h48, h50, h52, h56, h61, h66, cond_true, cond_false]
  rw [hF69]
  exact rfl
 refine cf h39 ?_
 refine wc_skip <| wq_then <| wc_seq <| sr ?_
 refine pu (vp g31 7) wN ?_
 have b89 := (b35.kp k37)
 refine ld (vi x_f.Epoch) wN isAgg_3 b89 ?_
 refine pu (vb (!(decide (x_f.Epoch = 0)))) wN ?_
 refine mv (vb (!(decide (x_f.Epoch = 0)))) wN ?_
 rcases bf (decide (x_f.Epoch = 0)) with h90 | h90
 ·have q181 := of_decide_eq_false h90
  refine sk (congrArg not h90) ?_
  refine sk (congrArg not h90) ?_
  refine sk (congrArg not h90) ?_
  refine pk (vb true) wN (congrArg not h90) ?_
  refine mv (vb true) wN ?_
  refine sk (Eq.refl true) ?_
  refine sk (Eq.refl true) ?_
  refine sk (Eq.refl true) ?_
  refine sk (Eq.refl true) ?_
  refine pk (vb true) wN (Eq.refl true) ?_
  refine mv (vb true) wN ?_
  refine sk (Eq.refl true) ?_
  refine sk (Eq.refl true) ?_
  refine sk (Eq.refl true) ?_
  refine sk (Eq.refl true) ?_
  refine pk (vb true) wN (Eq.refl true) ?_
  refine mv (vb true) wN ?_
  refine sk (Eq.refl true) ?_
  refine sk (Eq.refl true) ?_
  refine sk (Eq.refl true) ?_
  refine sk (Eq.refl true) ?_
  refine pk (vb true) wN (Eq.refl true) ?_
  refine wl_nil <| wq_then ?_
  refine ct (Eq.refl true) ?_
  refine sr ?_
  refine ag (vb false) wN ?_
  refine wl_nil <| wq_then <| wc_ret <| wq_then_ret ?_
  refine ret_1 (.inl rfl) (vb false) rfl rfl ?_
  refine ⟨m38.keep0, ?_⟩
  have hF182 : F_spec_FrameOk x_f = false := by simp only [F_spec_FrameOk, h39, h90, cond_true, cond_false]
  rw [hF182]
  exact rfl
 have q91 := of_decide_eq_true h90
 refine pu (vp g31 8) (wS (congrArg not h90)) ?_
 refine ld (vi x_f.Seq) (wS (congrArg not h90)) isAgg_3 b89 ?_
 refine pu (vb (!(decide (x_f.Seq = 0)))) (wS (congrArg not h90)) ?_
 refine pf (vb (!(decide (x_f.Seq = 0)))) wN (congrArg not h90) ?_
 refine mv (vb (!(decide (x_f.Seq = 0)))) wN ?_
 rcases bf (decide (x_f.Seq = 0)) with h92 | h92
 ·have q179 := of_decide_eq_false h92
  refine sk (congrArg not h92) ?_
  refine sk (congrArg not h92) ?_
  refine sk (congrArg not h92) ?_
  refine sk (congrArg not h92) ?_
  refine pk (vb true) wN (congrArg not h92) ?_
  refine mv (vb true) wN ?_
  refine sk (Eq.refl true) ?_
  refine sk (Eq.refl true) ?_
  refine sk (Eq.refl true) ?_
  refine sk (Eq.refl true) ?_
  refine pk (vb true) wN (Eq.refl true) ?_
  refine mv (vb true) wN ?_
  refine sk (Eq.refl true) ?_
  refine sk (Eq.refl true) ?_
  refine sk (Eq.refl true) ?_
  refine sk (Eq.refl true) ?_
  refine pk (vb true) wN (Eq.refl true) ?_
  refine wl_nil <| wq_then ?_
  refine ct (Eq.refl true) ?_
  refine sr ?_
  refine ag (vb false) wN ?_
  refine wl_nil <| wq_then <| wc_ret <| wq_then_ret ?_
  refine ret_1 (.inl rfl) (vb false) rfl rfl ?_
  refine ⟨m38.keep0, ?_⟩
  have hF180 : F_spec_FrameOk x_f = false := by simp only [F_spec_FrameOk, h39, h90, h92, cond_true, cond_false]
  rw [hF180]
  exact rfl
 have q93 := of_decide_eq_true h92
 refine pu (vp g31 9) (wS (congrArg not h92)) ?_
 refine ld (vs a21 x_f.Body.length c22) (wS (congrArg not h92)) isAgg_22 b89 ?_
 refine ln (wS (congrArg not h92)) slTy_22 (r23.from0 m38) ?_
 refine pu (vb (!(decide ((x_f.Body.length : Int) = 0)))) (wS (congrArg not h92)) ?_
 refine pf (vb (!(decide ((x_f.Body.length : Int) = 0)))) wN (congrArg not h92) ?_
 refine mv (vb (!(decide ((x_f.Body.length : Int) = 0)))) wN ?_
 rcases bf (decide ((x_f.Body.length : Int) = 0)) with h94 | h94
 ·have q177 := of_decide_eq_false h94
  refine sk (congrArg not h94) ?_
  refine sk (congrArg not h94) ?_
  refine sk (congrArg not h94) ?_
  refine sk (congrArg not h94) ?_
  refine pk (vb true) wN (congrArg not h94) ?_
  refine mv (vb true) wN ?_
  refine sk (Eq.refl true) ?_
  refine sk (Eq.refl true) ?_
  refine sk (Eq.refl true) ?_
  refine sk (Eq.refl true) ?_
  refine pk (vb true) wN (Eq.refl true) ?_
  refine wl_nil <| wq_then ?_
  refine ct (Eq.refl true) ?_
  refine sr ?_
  refine ag (vb false) wN ?_
  refine wl_nil <| wq_then <| wc_ret <| wq_then_ret ?_
  refine ret_1 (.inl rfl) (vb false) rfl rfl ?_
  refine ⟨m38.keep0, ?_⟩
  have hF178 : F_spec_FrameOk x_f = false := by simp only [F_spec_FrameOk, h39, h90, h92, h94, cond_true, cond_false]
  rw [hF178]
  exact rfl
 have q95 := of_decide_eq_true h94
 refine pu (vp g31 10) (wS (congrArg not h94)) ?_
 refine ld (vs a26 x_f.Tag.length c27) (wS (congrArg not h94)) isAgg_22 b89 ?_
 refine ln (wS (congrArg not h94)) slTy_22 (r28.from0 m38) ?_
 refine pu (vb (!(decide ((x_f.Tag.length : Int) = 0)))) (wS (congrArg not h94)) ?_
 refine pf (vb (!(decide ((x_f.Tag.length : Int) = 0)))) wN (congrArg not h94) ?_
 refine mv (vb (!(decide ((x_f.Tag.length : Int) = 0)))) wN ?_
 rcases bf (decide ((x_f.Tag.length : Int) = 0)) with h96 | h96
 ·have q175 := of_decide_eq_false h96
  refine sk (congrArg not h96) ?_
  refine sk (congrArg not h96) ?_
  refine sk (congrArg not h96) ?_
  refine sk (congrArg not h96) ?_
  refine pk (vb true) wN (congrArg not h96) ?_
  refine wl_nil <| wq_then ?_
  refine ct (Eq.refl true) ?_
  refine sr ?_
  refine ag (vb false) wN ?_
  refine wl_nil <| wq_then <| wc_ret <| wq_then_ret ?_
  refine ret_1 (.inl rfl) (vb false) rfl rfl ?_
  refine ⟨m38.keep0, ?_⟩
  have hF176 : F_spec_FrameOk x_f = false := by simp only [F_spec_FrameOk, h39, h90, h92, h94, h96, cond_true, cond_false]
  rw [hF176]
  exact rfl
 have q97 := of_decide_eq_true h96
 refine pu (vp g31 2) (wS (congrArg not h96)) ?_
 refine ld (vs a1 x_f.Cn.length c2) (wS (congrArg not h96)) isAgg_22 b89 ?_
 refine ln (wS (congrArg not h96)) slTy_22 (r3.from0 m38) ?_
 refine pu (vb (!(decide ((x_f.Cn.length : Int) = 12)))) (wS (congrArg not h96)) ?_
 refine pf (vb (!(decide ((x_f.Cn.length : Int) = 12)))) wN (congrArg not h96) ?_
 refine wl_nil <| wq_then ?_
 rcases bf (decide ((x_f.Cn.length : Int) = 12)) with h98 | h98
 ·have q173 := of_decide_eq_false h98
  refine ct (congrArg not h98) ?_
  refine sr ?_
  refine ag (vb false) wN ?_
  refine wl_nil <| wq_then <| wc_ret <| wq_then_ret ?_
  refine ret_1 (.inl rfl) (vb false) rfl rfl ?_
  refine ⟨m38.keep0, ?_⟩
  have hF174 : F_spec_FrameOk x_f = false := by simp only [F_spec_FrameOk, h39, h90, h92, h94, h96, h98, cond_true, cond_false]
  rw [hF174]
  exact rfl
 have q99 := of_decide_eq_true h98
 refine cf (congrArg not h98) ?_
 refine wc_skip <| wq_then <| wc_seq <| sr ?_
 refine pu (vp g31 0) wN ?_
 refine ld (vi x_f.Kind) wN isAgg_3 b89 ?_
 refine wl_nil <| wq_then <| wc_block <| sr ?_
 refine pu (vb (decide (x_f.Kind = 1))) wN ?_
 refine ag (vb (decide (x_f.Kind = 1))) wN ?_
 refine wl_nil <| wq_then ?_
 rcases bt (decide (x_f.Kind = 1)) with h100 | h100
 ·have q101 := of_decide_eq_true h100
  refine ct h100 ?_
  refine sr ?_
  refine pu (vp g31 1) wN ?_
  refine ld (vi x_f.Id) wN isAgg_3 b89 ?_
  refine cl wN (C_spec_l1In w2 x_f.Id 1 9) ?_
  rintro _ w3 ⟨k102, rfl⟩
  have m103 := m38.extk k102
  refine mv (vb (F_spec_l1In x_f.Id 1 9)) wN ?_
  rcases bf (F_spec_l1In x_f.Id 1 9) with h104 | h104
  ·have q120 := spec_l1In_f h104
   refine sk h104 ?_
   refine sk h104 ?_
   refine sk h104 ?_
   refine sk h104 ?_
   refine pf (vb false) wN h104 ?_
   refine mv (vb false) wN ?_
   refine sk (Eq.refl false) ?_
   refine sk (Eq.refl false) ?_
   refine sk (Eq.refl false) ?_
   refine pf (vb false) wN (Eq.refl false) ?_
   refine mv (vb false) wN ?_
   refine sk (Eq.refl false) ?_
   refine sk (Eq.refl false) ?_
   refine sk (Eq.refl false) ?_
   refine sk (Eq.refl false) ?_
   refine pf (vb false) wN (Eq.refl false) ?_
   refine mv (vb false) wN ?_
   refine sk (Eq.refl false) ?_
   refine sk (Eq.refl false) ?_
   refine sk (Eq.refl false) ?_
   refine sk (Eq.refl false) ?_
   refine pf (vb false) wN (Eq.refl false) ?_
   refine ag (vb false) wN ?_
   refine wl_nil <| wq_then <| wc_ret <| wq_blk_ret <| wq_then_ret ?_
   refine ret_1 (.inl rfl) (vb false) rfl rfl ?_
   refine ⟨m103.keep0, ?_⟩
   have hF121 : F_spec_FrameOk x_f = false := by simp only [F_spec_FrameOk, h39, h90, h92, h94, h96, h98, h100, h104, cond_true, cond_false]
   rw [hF121]
   exact rfl
  have q105 := spec_l1In_t h104
  refine pu (vp g31 3) (wS h104) ?_
  have b106 := (b89.kp k102)
  refine ld (vs a6 x_f.Sn.length c7) (wS h104) isAgg_22 b106 ?_
  refine ln (wS h104) slTy_22 (r8.from0 m103) ?_
  refine pu (vb (decide ((x_f.Sn.length : Int) = 0))) (wS h104) ?_
  refine pk (vb (decide ((x_f.Sn.length : Int) = 0))) wN h104 ?_
  refine mv (vb (decide ((x_f.Sn.length : Int) = 0))) wN ?_
  rcases bf (decide ((x_f.Sn.length : Int) = 0)) with h107 | h107
  ·have q118 := of_decide_eq_false h107
   refine sk h107 ?_
   refine sk h107 ?_
   refine sk h107 ?_
   refine pf (vb false) wN h107 ?_
   refine mv (vb false) wN ?_
   refine sk (Eq.refl false) ?_
   refine sk (Eq.refl false) ?_
   refine sk (Eq.refl false) ?_
   refine sk (Eq.refl false) ?_
   refine pf (vb false) wN (Eq.refl false) ?_
   refine mv (vb false) wN ?_
   refine sk (Eq.refl false) ?_
   refine sk (Eq.refl false) ?_
   refine sk (Eq.refl false) ?_
   refine sk (Eq.refl false) ?_
   refine pf (vb false) wN (Eq.refl false) ?_
   refine ag (vb false) wN ?_
   refine wl_nil <| wq_then <| wc_ret <| wq_blk_ret <| wq_then_ret ?_
   refine ret_1 (.inl rfl) (vb false) rfl rfl ?_
   refine ⟨m103.keep0, ?_⟩
   have hF119 : F_spec_FrameOk x_f = false := by simp only [F_spec_FrameOk, h39, h90, h92, h94, h96, h98, h100, h104, h107, cond_true, cond_false]
   rw [hF119]
   exact rfl
  have q108 := of_decide_eq_true h107
  refine pu (vp g31 4) (wS h107) ?_
  refine ld (vi x_f.Tick) (wS h107) isAgg_3 b106 ?_
  refine pu (vb (decide (x_f.Tick = 0))) (wS h107) ?_
  refine pk (vb (decide (x_f.Tick = 0))) wN h107 ?_
  refine mv (vb (decide (x_f.Tick = 0))) wN ?_
  rcases bf (decide (x_f.Tick = 0)) with h109 | h109
  ·have q116 := of_decide_eq_false h109
   refine sk h109 ?_
   refine sk h109 ?_
   refine sk h109 ?_
   refine sk h109 ?_
   refine pf (vb false) wN h109 ?_
   refine mv (vb false) wN ?_
   refine sk (Eq.refl false) ?_
   refine sk (Eq.refl false) ?_
   refine sk (Eq.refl false) ?_
   refine sk (Eq.refl false) ?_
   refine pf (vb false) wN (Eq.refl false) ?_
   refine ag (vb false) wN ?_
   refine wl_nil <| wq_then <| wc_ret <| wq_blk_ret <| wq_then_ret ?_
   refine ret_1 (.inl rfl) (vb false) rfl rfl ?_
   refine ⟨m103.keep0, ?_⟩
   have hF117 : F_spec_FrameOk x_f = false := by simp only [F_spec_FrameOk, h39, h90, h92, h94, h96, h98, h100, h104, h107, h109, cond_true, cond_false]
   rw [hF117]
   exact rfl
  have q110 := of_decide_eq_true h109
  refine pu (vp g31 5) (wS h109) ?_
  refine ld (vs a11 x_f.Cookie.length c12) (wS h109) isAgg_22 b106 ?_
  refine ln (wS h109) slTy_22 (r13.from0 m103) ?_
  refine pu (vb (decide ((x_f.Cookie.length : Int) = 0))) (wS h109) ?_
  refine pk (vb (decide ((x_f.Cookie.length : Int) = 0))) wN h109 ?_
  refine mv (vb (decide ((x_f.Cookie.length : Int) = 0))) wN ?_
  rcases bf (decide ((x_f.Cookie.length : Int) = 0)) with h111 | h111
  ·have q114 := of_decide_eq_false h111
   refine sk h111 ?_
   refine sk h111 ?_
   refine sk h111 ?_
   refine sk h111 ?_
   refine pf (vb false) wN h111 ?_
   refine ag (vb false) wN ?_
   refine wl_nil <| wq_then <| wc_ret <| wq_blk_ret <| wq_then_ret ?_
   refine ret_1 (.inl rfl) (vb false) rfl rfl ?_
   refine ⟨m103.keep0, ?_⟩
   have hF115 : F_spec_FrameOk x_f = false := by simp only [F_spec_FrameOk, h39, h90, h92, h94, h96, h98, h100, h104, h107, h109, h111, cond_true, cond_false]
   rw [hF115]
   exact rfl
  have q112 := of_decide_eq_true h111
  refine pu (vp g31 6) (wS h111) ?_
  refine ld (vs a16 x_f.Proof.length c17) (wS h111) isAgg_22 b106 ?_
  refine ln (wS h111) slTy_22 (r18.from0 m103) ?_
  refine pu (vb (decide ((x_f.Proof.length : Int) = 0))) (wS h111) ?_
  refine pk (vb (decide ((x_f.Proof.length : Int) = 0))) wN h111 ?_
  refine ag (vb (decide ((x_f.Proof.length : Int) = 0))) wN ?_
  refine wl_nil <| wq_then <| wc_ret <| wq_blk_ret <| wq_then_ret ?_
  refine ret_1 (.inl rfl) (vb (decide ((x_f.Proof.length : Int) = 0))) rfl rfl ?_
  refine ⟨m103.keep0, ?_⟩
  have hF113 : F_spec_FrameOk x_f = decide ((x_f.Proof.length : Int) = 0) := by simp only [F_spec_FrameOk, h39, h90, h92, h94, h96, h98, h100, h104, h107, h109, h111, cond_true, cond_false]
  rw [hF113]
  exact rfl
 have q122 := of_decide_eq_false h100
 refine cf h100 ?_
 refine sr ?_
 refine pu (vb (decide (x_f.Kind = 2))) wN ?_
 refine ag (vb (decide (x_f.Kind = 2))) wN ?_
 refine wl_nil <| wq_then ?_
 rcases bt (decide (x_f.Kind = 2)) with h123 | h123
 ·have q124 := of_decide_eq_true h123
  refine ct h123 ?_
  refine sr ?_
  refine pu (vp g31 1) wN ?_
  refine ld (vi x_f.Id) wN isAgg_3 b89 ?_
  refine pu (vb (decide (x_f.Id = 0))) wN ?_
  refine mv (vb (decide (x_f.Id = 0))) wN ?_
  rcases bf (decide (x_f.Id = 0)) with h125 | h125
  ·have q143 := of_decide_eq_false h125
   refine sk h125 ?_
   refine sk h125 ?_
   refine sk h125 ?_
   refine sk h125 ?_
   refine pf (vb false) wN h125 ?_
   refine mv (vb false) wN ?_
   refine sk (Eq.refl false) ?_
   refine sk (Eq.refl false) ?_
   refine sk (Eq.refl false) ?_
   refine pf (vb false) wN (Eq.refl false) ?_
   refine mv (vb false) wN ?_
   refine sk (Eq.refl false) ?_
   refine sk (Eq.refl false) ?_
   refine sk (Eq.refl false) ?_
   refine sk (Eq.refl false) ?_
   refine pf (vb false) wN (Eq.refl false) ?_
   refine mv (vb false) wN ?_
   refine sk (Eq.refl false) ?_
   refine sk (Eq.refl false) ?_
   refine sk (Eq.refl false) ?_
   refine sk (Eq.refl false) ?_
   refine pf (vb false) wN (Eq.refl false) ?_
   refine ag (vb false) wN ?_
   refine wl_nil <| wq_then <| wc_ret <| wq_blk_ret <| wq_then_ret ?_
   refine ret_1 (.inl rfl) (vb false) rfl rfl ?_
   refine ⟨m38.keep0, ?_⟩
   have hF144 : F_spec_FrameOk x_f = false := by simp only [F_spec_FrameOk, h39, h90, h92, h94, h96, h98, h100, h123, h125, cond_true, cond_false]
   rw [hF144]
   exact rfl
  have q126 := of_decide_eq_true h125
  refine pu (vp g31 3) (wS h125) ?_
  refine ld (vs a6 x_f.Sn.length c7) (wS h125) isAgg_22 b89 ?_
  refine ln (wS h125) slTy_22 (r8.from0 m38) ?_
  refine pu (vb (decide ((x_f.Sn.length : Int) = 12))) (wS h125) ?_
  refine pk (vb (decide ((x_f.Sn.length : Int) = 12))) wN h125 ?_
  refine mv (vb (decide ((x_f.Sn.length : Int) = 12))) wN ?_
  rcases bf (decide ((x_f.Sn.length : Int) = 12)) with h127 | h127
  ·have q141 := of_decide_eq_false h127
   refine sk h127 ?_
   refine sk h127 ?_
   refine sk h127 ?_
   refine pf (vb false) wN h127 ?_
   refine mv (vb false) wN ?_
   refine sk (Eq.refl false) ?_
   refine sk (Eq.refl false) ?_
   refine sk (Eq.refl false) ?_
   refine sk (Eq.refl false) ?_
   refine pf (vb false) wN (Eq.refl false) ?_
   refine mv (vb false) wN ?_
   refine sk (Eq.refl false) ?_
   refine sk (Eq.refl false) ?_
   refine sk (Eq.refl false) ?_
   refine sk (Eq.refl false) ?_
   refine pf (vb false) wN (Eq.refl false) ?_
   refine ag (vb false) wN ?_
   refine wl_nil <| wq_then <| wc_ret <| wq_blk_ret <| wq_then_ret ?_
   refine ret_1 (.inl rfl) (vb false) rfl rfl ?_
   refine ⟨m38.keep0, ?_⟩
   have hF142 : F_spec_FrameOk x_f = false := by simp only [F_spec_FrameOk, h39, h90, h92, h94, h96, h98, h100, h123, h125, h127, cond_true, cond_false]
   rw [hF142]
   exact rfl
  have q128 := of_decide_eq_true h127
  refine pu (vp g31 4) (wS h127) ?_
  refine ld (vi x_f.Tick) (wS h127) isAgg_3 b89 ?_
  refine cl (wS h127) (C_spec_l1In w2 x_f.Tick 0 1000000) ?_
  rintro _ w3 ⟨k129, rfl⟩
  have m130 := m38.extk k129
  refine pk (vb (F_spec_l1In x_f.Tick 0 1000000)) wN h127 ?_
  refine mv (vb (F_spec_l1In x_f.Tick 0 1000000)) wN ?_
  rcases bf (F_spec_l1In x_f.Tick 0 1000000) with h131 | h131
  ·have q139 := spec_l1In_f h131
   refine sk h131 ?_
   refine sk h131 ?_
   refine sk h131 ?_
   refine sk h131 ?_
   refine pf (vb false) wN h131 ?_
   refine mv (vb false) wN ?_
   refine sk (Eq.refl false) ?_
   refine sk (Eq.refl false) ?_
   refine sk (Eq.refl false) ?_
   refine sk (Eq.refl false) ?_
   refine pf (vb false) wN (Eq.refl false) ?_
   refine ag (vb false) wN ?_
   refine wl_nil <| wq_then <| wc_ret <| wq_blk_ret <| wq_then_ret ?_
   refine ret_1 (.inl rfl) (vb false) rfl rfl ?_
   refine ⟨m130.keep0, ?_⟩
   have hF140 : F_spec_FrameOk x_f = false := by simp only [F_spec_FrameOk, h39, h90, h92, h94, h96, h98, h100, h123, h125, h127, h131, cond_true, cond_false]
   rw [hF140]
   exact rfl
  have q132 := spec_l1In_t h131
  refine pu (vp g31 5) (wS h131) ?_
  have b133 := (b89.kp k129)
  refine ld (vs a11 x_f.Cookie.length c12) (wS h131) isAgg_22 b133 ?_
  refine ln (wS h131) slTy_22 (r13.from0 m130) ?_
  refine pu (vb (decide ((x_f.Cookie.length : Int) = 16))) (wS h131) ?_
  refine pk (vb (decide ((x_f.Cookie.length : Int) = 16))) wN h131 ?_
  refine mv (vb (decide ((x_f.Cookie.length : Int) = 16))) wN ?_
  rcases bf (decide ((x_f.Cookie.length : Int) = 16)) with h134 | h134
  ·have q137 := of_decide_eq_false h134
   refine sk h134 ?_
   refine sk h134 ?_
   refine sk h134 ?_
   refine sk h134 ?_
   refine pf (vb false) wN h134 ?_
   refine ag (vb false) wN ?_
   refine wl_nil <| wq_then <| wc_ret <| wq_blk_ret <| wq_then_ret ?_
   refine ret_1 (.inl rfl) (vb false) rfl rfl ?_
   refine ⟨m130.keep0, ?_⟩
   have hF138 : F_spec_FrameOk x_f = false := by simp only [F_spec_FrameOk, h39, h90, h92, h94, h96, h98, h100, h123, h125, h127, h131, h134, cond_true, cond_false]
   rw [hF138]
   exact rfl
  have q135 := of_decide_eq_true h134
  refine pu (vp g31 6) (wS h134) ?_
  refine ld (vs a16 x_f.Proof.length c17) (wS h134) isAgg_22 b133 ?_
  refine ln (wS h134) slTy_22 (r18.from0 m130) ?_
  refine pu (vb (decide ((x_f.Proof.length : Int) = 0))) (wS h134) ?_
  refine pk (vb (decide ((x_f.Proof.length : Int) = 0))) wN h134 ?_
  refine ag (vb (decide ((x_f.Proof.length : Int) = 0))) wN ?_
  refine wl_nil <| wq_then <| wc_ret <| wq_blk_ret <| wq_then_ret ?_
  refine ret_1 (.inl rfl) (vb (decide ((x_f.Proof.length : Int) = 0))) rfl rfl ?_
  refine ⟨m130.keep0, ?_⟩
  have hF136 : F_spec_FrameOk x_f = decide ((x_f.Proof.length : Int) = 0) := by simp only [F_spec_FrameOk, h39, h90, h92, h94, h96, h98, h100, h123, h125, h127, h131, h134, cond_true, cond_false]
  rw [hF136]
  exact rfl
 have q145 := of_decide_eq_false h123
 refine cf h123 ?_
 refine sr ?_
 refine pu (vb (decide (x_f.Kind = 3))) wN ?_
 refine ag (vb (decide (x_f.Kind = 3))) wN ?_
 refine wl_nil <| wq_then ?_
 rcases bf (decide (x_f.Kind = 3)) with h146 | h146
 ·have q171 := of_decide_eq_false h146
  refine cf h146 ?_
  refine wc_skip <| wq_blk_normal <| wq_then <| sr ?_
  refine ag (vb false) wN ?_
  refine wl_nil <| wq_then <| wc_ret ?_
  refine ret_1 (.inl rfl) (vb false) rfl rfl ?_
  refine ⟨m38.keep0, ?_⟩
  have hF172 : F_spec_FrameOk x_f = false := by simp only [F_spec_FrameOk, h39, h90, h92, h94, h96, h98, h100, h123, h146, cond_true, cond_false]
  rw [hF172]
  exact rfl
 have q147 := of_decide_eq_true h146
 refine ct h146 ?_
 refine sr ?_
 refine pu (vp g31 1) wN ?_
 refine ld (vi x_f.Id) wN isAgg_3 b89 ?_
 refine cl wN (C_spec_l1In w2 x_f.Id 1 9) ?_
 rintro _ w3 ⟨k148, rfl⟩
 have m149 := m38.extk k148
 refine mv (vb (F_spec_l1In x_f.Id 1 9)) wN ?_
 rcases bf (F_spec_l1In x_f.Id 1 9) with h150 | h150
 ·have q169 := spec_l1In_f h150
  refine sk h150 ?_
  refine sk h150 ?_
  refine sk h150 ?_
  refine sk h150 ?_
  refine pf (vb false) wN h150 ?_
  refine mv (vb false) wN ?_
  refine sk (Eq.refl false) ?_
  refine sk (Eq.refl false) ?_
  refine sk (Eq.refl false) ?_
  refine pf (vb false) wN (Eq.refl false) ?_
  refine mv (vb false) wN ?_
  refine sk (Eq.refl false) ?_
  refine sk (Eq.refl false) ?_
  refine sk (Eq.refl false) ?_
  refine sk (Eq.refl false) ?_
  refine pf (vb false) wN (Eq.refl false) ?_
  refine mv (vb false) wN ?_
  refine sk (Eq.refl false) ?_
  refine sk (Eq.refl false) ?_
  refine sk (Eq.refl false) ?_
  refine sk (Eq.refl false) ?_
  refine pf (vb false) wN (Eq.refl false) ?_
  refine ag (vb false) wN ?_
  refine wl_nil <| wq_then <| wc_ret <| wq_blk_ret <| wq_then_ret ?_
  refine ret_1 (.inl rfl) (vb false) rfl rfl ?_
  refine ⟨m149.keep0, ?_⟩
  have hF170 : F_spec_FrameOk x_f = false := by simp only [F_spec_FrameOk, h39, h90, h92, h94, h96, h98, h100, h123, h146, h150, cond_true, cond_false]
  rw [hF170]
  exact rfl
 have q151 := spec_l1In_t h150
 refine pu (vp g31 3) (wS h150) ?_
 have b152 := (b89.kp k148)
 refine ld (vs a6 x_f.Sn.length c7) (wS h150) isAgg_22 b152 ?_
 refine ln (wS h150) slTy_22 (r8.from0 m149) ?_
 refine pu (vb (decide ((x_f.Sn.length : Int) = 12))) (wS h150) ?_
 refine pk (vb (decide ((x_f.Sn.length : Int) = 12))) wN h150 ?_
 refine mv (vb (decide ((x_f.Sn.length : Int) = 12))) wN ?_
 rcases bf (decide ((x_f.Sn.length : Int) = 12)) with h153 | h153
 ·have q167 := of_decide_eq_false h153
  refine sk h153 ?_
  refine sk h153 ?_
  refine sk h153 ?_
  refine pf (vb false) wN h153 ?_
  refine mv (vb false) wN ?_
  refine sk (Eq.refl false) ?_
  refine sk (Eq.refl false) ?_
  refine sk (Eq.refl false) ?_
  refine sk (Eq.refl false) ?_
  refine pf (vb false) wN (Eq.refl false) ?_
  refine mv (vb false) wN ?_
  refine sk (Eq.refl false) ?_
  refine sk (Eq.refl false) ?_
  refine sk (Eq.refl false) ?_
  refine sk (Eq.refl false) ?_
  refine pf (vb false) wN (Eq.refl false) ?_
  refine ag (vb false) wN ?_
  refine wl_nil <| wq_then <| wc_ret <| wq_blk_ret <| wq_then_ret ?_
  refine ret_1 (.inl rfl) (vb false) rfl rfl ?_
  refine ⟨m149.keep0, ?_⟩
  have hF168 : F_spec_FrameOk x_f = false := by simp only [F_spec_FrameOk, h39, h90, h92, h94, h96, h98, h100, h123, h146, h150, h153, cond_true, cond_false]
  rw [hF168]
  exact rfl
 have q154 := of_decide_eq_true h153
 refine pu (vp g31 4) (wS h153) ?_
 refine ld (vi x_f.Tick) (wS h153) isAgg_3 b152 ?_
 refine cl (wS h153) (C_spec_l1In w3 x_f.Tick 0 1000000) ?_
 rintro _ w4 ⟨k155, rfl⟩
 have m156 := m149.extk k155
 refine pk (vb (F_spec_l1In x_f.Tick 0 1000000)) wN h153 ?_
 refine mv (vb (F_spec_l1In x_f.Tick 0 1000000)) wN ?_
 rcases bf (F_spec_l1In x_f.Tick 0 1000000) with h157 | h157
 ·have q165 := spec_l1In_f h157
  refine sk h157 ?_
  refine sk h157 ?_
  refine sk h157 ?_
  refine sk h157 ?_
  refine pf (vb false) wN h157 ?_
  refine mv (vb false) wN ?_
  refine sk (Eq.refl false) ?_
  refine sk (Eq.refl false) ?_
  refine sk (Eq.refl false) ?_
  refine sk (Eq.refl false) ?_
  refine pf (vb false) wN (Eq.refl false) ?_
  refine ag (vb false) wN ?_
  refine wl_nil <| wq_then <| wc_ret <| wq_blk_ret <| wq_then_ret ?_
  refine ret_1 (.inl rfl) (vb false) rfl rfl ?_
  refine ⟨m156.keep0, ?_⟩
  have hF166 : F_spec_FrameOk x_f = false := by simp only [F_spec_FrameOk, h39, h90, h92, h94, h96, h98, h100, h123, h146, h150, h153, h157, cond_true, cond_false]
  rw [hF166]
  exact rfl
 have q158 := spec_l1In_t h157
 refine pu (vp g31 5) (wS h157) ?_
 have b159 := (b152.kp k155)
 refine ld (vs a11 x_f.Cookie.length c12) (wS h157) isAgg_22 b159 ?_
 refine ln (wS h157) slTy_22 (r13.from0 m156) ?_
 refine pu (vb (decide ((x_f.Cookie.length : Int) = 16))) (wS h157) ?_
 refine pk (vb (decide ((x_f.Cookie.length : Int) = 16))) wN h157 ?_
 refine mv (vb (decide ((x_f.Cookie.length : Int) = 16))) wN ?_
 rcases bf (decide ((x_f.Cookie.length : Int) = 16)) with h160 | h160
 ·have q163 := of_decide_eq_false h160
  refine sk h160 ?_
  refine sk h160 ?_
  refine sk h160 ?_
  refine sk h160 ?_
  refine pf (vb false) wN h160 ?_
  refine ag (vb false) wN ?_
  refine wl_nil <| wq_then <| wc_ret <| wq_blk_ret <| wq_then_ret ?_
  refine ret_1 (.inl rfl) (vb false) rfl rfl ?_
  refine ⟨m156.keep0, ?_⟩
  have hF164 : F_spec_FrameOk x_f = false := by simp only [F_spec_FrameOk, h39, h90, h92, h94, h96, h98, h100, h123, h146, h150, h153, h157, h160, cond_true, cond_false]
  rw [hF164]
  exact rfl
 have q161 := of_decide_eq_true h160
 refine pu (vp g31 6) (wS h160) ?_
 refine ld (vs a16 x_f.Proof.length c17) (wS h160) isAgg_22 b159 ?_
 refine ln (wS h160) slTy_22 (r18.from0 m156) ?_
 refine pu (vb (decide ((x_f.Proof.length : Int) = 16))) (wS h160) ?_
 refine pk (vb (decide ((x_f.Proof.length : Int) = 16))) wN h160 ?_
 refine ag (vb (decide ((x_f.Proof.length : Int) = 16))) wN ?_
 refine wl_nil <| wq_then <| wc_ret <| wq_blk_ret <| wq_then_ret ?_
 refine ret_1 (.inl rfl) (vb (decide ((x_f.Proof.length : Int) = 16))) rfl rfl ?_
 refine ⟨m156.keep0, ?_⟩
 have hF162 : F_spec_FrameOk x_f = decide ((x_f.Proof.length : Int) = 16) := by simp only [F_spec_FrameOk, h39, h90, h92, h94, h96, h98, h100, h123, h146, h150, h153, h157, h160, cond_true, cond_false]
 rw [hF162]
 exact rfl

def F_spec_l1Same (x_a : List UInt8) (x_b : List UInt8) : (Bool) := (eqS (ByteArray.mk x_a.toArray) (ByteArray.mk x_b.toArray))
theorem C_spec_l1Same (w0 : World) (v_x_a : Value) (x_a : List UInt8) (r_x_a : R_22 w0 v_x_a x_a) (v_x_b : Value) (x_b : List UInt8) (r_x_b : R_22 w0 v_x_b x_b)  : Fn Try.prog 94 #[v_x_a, v_x_b] w0 (fun v w' => Keep w0 w' ∧ O_4 w' w0.heap.size v (F_spec_l1Same x_a x_b)) := by
 obtain ⟨a1, c2, rfl, r3, s4⟩ := r_x_a
 obtain ⟨a6, c7, rfl, r8, s9⟩ := r_x_b
 refine fn_of (n := 10) (l := [(vs a1 x_a.length c2), (vs a6 x_b.length c7), U, U, U, U, U, U, U, U]) Try.func94 rfl rfl (by kernel_rfl) rfl ?_
 refine sr ?_
 refine ag (vb false) wN ?_
 refine nx ?_
 refine mv (vs a1 x_a.length c2) wN ?_
 refine wl_b2s x_a wN rfl rfl rfl rfl Try.underlying22 Try.underlying5 Try.underlying9 r3 ?_
 refine mv (vs a6 x_b.length c7) wN ?_
 refine wl_b2s x_b wN rfl rfl rfl rfl Try.underlying22 Try.underlying5 Try.underlying9 r8 ?_
 refine pu (vb (eqS (ByteArray.mk x_a.toArray) (ByteArray.mk x_b.toArray))) wN ?_
 refine ag (vb (eqS (ByteArray.mk x_a.toArray) (ByteArray.mk x_b.toArray))) wN ?_
 refine wl_nil <| wq_then <| wc_ret ?_
 refine ret_1 (.inl rfl) (vb (eqS (ByteArray.mk x_a.toArray) (ByteArray.mk x_b.toArray))) rfl rfl ?_
 refine ⟨Ch.refl _ _, ?_⟩
 have hF11 : F_spec_l1Same x_a x_b = (eqS (ByteArray.mk x_a.toArray) (ByteArray.mk x_b.toArray)) := by rfl
 rw [hF11]
 exact rfl

def R_98 (w : World) (v : Value) (x : (PClient)) : Prop := ∃ (a1 : Option Addr) (c1 : Nat) (a2 : Option Addr) (c2 : Nat) (a3 : Option Addr) (c3 : Nat) (a4 : Option Addr) (c4 : Nat) (a5 : Option Addr) (c5 : Nat) (a6 : Option Addr) (c6 : Nat) (a7 : Option Addr) (c7 : Nat) (a8 : Option Addr) (c8 : Nat) (a9 : Option Addr) (c9 : Nat) (a10 : Option Addr) (c10 : Nat) (a11 : Option Addr) (c11 : Nat) (a12 : Option Addr) (c12 : Nat) (a13 : Option Addr) (c13 : Nat) (a14 : Option Addr) (c14 : Nat), v = .agg #[.int .i64 x.Id, .slice a1 x.Psk.length c1, .int .i64 x.At.Host, .int .i64 x.At.Port, .int .i64 x.St, .slice a2 x.Cn.length c2, .int .i64 x.Fin.Kind, .int .i64 x.Fin.Id, .slice a3 x.Fin.Cn.length c3, .slice a4 x.Fin.Sn.length c4, .int .i64 x.Fin.Tick, .slice a5 x.Fin.Cookie.length c5, .slice a6 x.Fin.Proof.length c6, .int .i64 x.Fin.Epoch, .int .i64 x.Fin.Seq, .slice a7 x.Fin.Body.length c7, .slice a8 x.Fin.Tag.length c8, .int .i64 x.C.Role, .slice a9 x.C.Sn.length c9, .int .i64 x.C.Cur.N, .slice a10 x.C.Cur.Key.length c10, .int .i64 x.C.Cur.Seq, .int .i64 x.C.Cur.Win.Top, .slice a11 x.C.Cur.Win.Bits.length c11, .int .i64 x.C.Old.N, .slice a12 x.C.Old.Key.length c12, .int .i64 x.C.Old.Seq, .int .i64 x.C.Old.Win.Top, .slice a13 x.C.Old.Win.Bits.length c13, .bool x.C.HasOld, .int .i64 x.C.Until, .slice a14 x.C.Next.length c14, .bool x.T.On, .int .i64 x.T.Due, .int .i64 x.T.Wait, .int .i64 x.T.Tries, .bool x.R.On, .int .i64 x.R.Due, .int .i64 x.R.Wait, .int .i64 x.R.Tries, .int .i64 x.Last] ∧ Rd w 1 (.slice a1 x.Psk.length c1) x.Psk.length (x.Psk.map bV) ∧ x.Psk.length ≤ 1073741824 ∧ Rd w 1 (.slice a2 x.Cn.length c2) x.Cn.length (x.Cn.map bV) ∧ x.Cn.length ≤ 1073741824 ∧ Rd w 1 (.slice a3 x.Fin.Cn.length c3) x.Fin.Cn.length (x.Fin.Cn.map bV) ∧ x.Fin.Cn.length ≤ 1073741824 ∧ Rd w 1 (.slice a4 x.Fin.Sn.length c4) x.Fin.Sn.length (x.Fin.Sn.map bV) ∧ x.Fin.Sn.length ≤ 1073741824 ∧ Rd w 1 (.slice a5 x.Fin.Cookie.length c5) x.Fin.Cookie.length (x.Fin.Cookie.map bV) ∧ x.Fin.Cookie.length ≤ 1073741824 ∧ Rd w 1 (.slice a6 x.Fin.Proof.length c6) x.Fin.Proof.length (x.Fin.Proof.map bV) ∧ x.Fin.Proof.length ≤ 1073741824 ∧ Rd w 1 (.slice a7 x.Fin.Body.length c7) x.Fin.Body.length (x.Fin.Body.map bV) ∧ x.Fin.Body.length ≤ 1073741824 ∧ Rd w 1 (.slice a8 x.Fin.Tag.length c8) x.Fin.Tag.length (x.Fin.Tag.map bV) ∧ x.Fin.Tag.length ≤ 1073741824 ∧ Rd w 1 (.slice a9 x.C.Sn.length c9) x.C.Sn.length (x.C.Sn.map bV) ∧ x.C.Sn.length ≤ 1073741824 ∧ Rd w 1 (.slice a10 x.C.Cur.Key.length c10) x.C.Cur.Key.length (x.C.Cur.Key.map bV) ∧ x.C.Cur.Key.length ≤ 1073741824 ∧ Rd w 1 (.slice a11 x.C.Cur.Win.Bits.length c11) x.C.Cur.Win.Bits.length (x.C.Cur.Win.Bits.map iV) ∧ x.C.Cur.Win.Bits.length ≤ 1073741824 ∧ Rd w 1 (.slice a12 x.C.Old.Key.length c12) x.C.Old.Key.length (x.C.Old.Key.map bV) ∧ x.C.Old.Key.length ≤ 1073741824 ∧ Rd w 1 (.slice a13 x.C.Old.Win.Bits.length c13) x.C.Old.Win.Bits.length (x.C.Old.Win.Bits.map iV) ∧ x.C.Old.Win.Bits.length ≤ 1073741824 ∧ Rd w 1 (.slice a14 x.C.Next.length c14) x.C.Next.length (x.C.Next.map bV) ∧ x.C.Next.length ≤ 1073741824
theorem mR_26 {w : World} {x : PAddr} : R_26 w (va (L_26 x)) x := rfl
theorem mR_96 {w : World} {x : PTimer} : R_96 w (va (L_96 x)) x := rfl
theorem mR_87 {w : World} {x : PFrame} {a1 : Option Addr} {c1 : Nat} {a2 : Option Addr} {c2 : Nat} {a3 : Option Addr} {c3 : Nat} {a4 : Option Addr} {c4 : Nat} {a5 : Option Addr} {c5 : Nat} {a6 : Option Addr} {c6 : Nat} (h1 : Rd w 1 (.slice a1 x.Cn.length c1) x.Cn.length (x.Cn.map bV)) (l1 : x.Cn.length ≤ 1073741824) (h2 : Rd w 1 (.slice a2 x.Sn.length c2) x.Sn.length (x.Sn.map bV)) (l2 : x.Sn.length ≤ 1073741824) (h3 : Rd w 1 (.slice a3 x.Cookie.length c3) x.Cookie.length (x.Cookie.map bV)) (l3 : x.Cookie.length ≤ 1073741824) (h4 : Rd w 1 (.slice a4 x.Proof.length c4) x.Proof.length (x.Proof.map bV)) (l4 : x.Proof.length ≤ 1073741824) (h5 : Rd w 1 (.slice a5 x.Body.length c5) x.Body.length (x.Body.map bV)) (l5 : x.Body.length ≤ 1073741824) (h6 : Rd w 1 (.slice a6 x.Tag.length c6) x.Tag.length (x.Tag.map bV)) (l6 : x.Tag.length ≤ 1073741824) : R_87 w (va (L_87 x a1 c1 a2 c2 a3 c3 a4 c4 a5 c5 a6 c6)) x := ⟨_, _, _, _, _, _, _, _, _, _, _, _, rfl, h1, l1, h2, l2, h3, l3, h4, l4, h5, l5, h6, l6⟩
theorem mR_94 {w : World} {x : PChan} {a1 : Option Addr} {c1 : Nat} {a2 : Option Addr} {c2 : Nat} {a3 : Option Addr} {c3 : Nat} {a4 : Option Addr} {c4 : Nat} {a5 : Option Addr} {c5 : Nat} {a6 : Option Addr} {c6 : Nat} (h1 : Rd w 1 (.slice a1 x.Sn.length c1) x.Sn.length (x.Sn.map bV)) (l1 : x.Sn.length ≤ 1073741824) (h2 : Rd w 1 (.slice a2 x.Cur.Key.length c2) x.Cur.Key.length (x.Cur.Key.map bV)) (l2 : x.Cur.Key.length ≤ 1073741824) (h3 : Rd w 1 (.slice a3 x.Cur.Win.Bits.length c3) x.Cur.Win.Bits.length (x.Cur.Win.Bits.map iV)) (l3 : x.Cur.Win.Bits.length ≤ 1073741824) (h4 : Rd w 1 (.slice a4 x.Old.Key.length c4) x.Old.Key.length (x.Old.Key.map bV)) (l4 : x.Old.Key.length ≤ 1073741824) (h5 : Rd w 1 (.slice a5 x.Old.Win.Bits.length c5) x.Old.Win.Bits.length (x.Old.Win.Bits.map iV)) (l5 : x.Old.Win.Bits.length ≤ 1073741824) (h6 : Rd w 1 (.slice a6 x.Next.length c6) x.Next.length (x.Next.map bV)) (l6 : x.Next.length ≤ 1073741824) : R_94 w (va (L_94 x a1 c1 a2 c2 a3 c3 a4 c4 a5 c5 a6 c6)) x := ⟨_, _, _, _, _, _, _, _, _, _, _, _, rfl, h1, l1, h2, l2, h3, l3, h4, l4, h5, l5, h6, l6⟩
def F_spec_ClientOk (x_c : PClient) : (Bool) := bif (F_spec_l1In x_c.Id 1 9) then (bif (F_spec_PskOk x_c.Psk) then (bif (F_spec_AddrOk x_c.At) then (bif (F_spec_TimerOk x_c.T) then (bif (F_spec_TimerOk x_c.R) then (bif (F_spec_l1In x_c.Last 0 1000000) then (bif (decide (x_c.St = 0)) then (bif (decide ((x_c.Cn.length : Int) = 0)) then (bif (F_spec_l19NoFrame x_c.Fin) then (bif (F_spec_l19NoChan x_c.C) then (bif x_c.T.On then (false) else (bif x_c.R.On then (false) else (decide (x_c.Last = 0)))) else (false)) else (false)) else (false)) else (bif (decide ((x_c.Cn.length : Int) = 12)) then (bif (decide (x_c.St = 3)) then (bif (F_spec_l19NoFrame x_c.Fin) then (bif (F_spec_ChanOk x_c.C) then (bif (decide (x_c.C.Role = 0)) then (bif x_c.T.On then (false) else ((x_c.R.On == (decide (0 < (x_c.C.Next.length : Int)))))) else (false)) else (false)) else (false)) else (bif x_c.T.On then (bif x_c.R.On then (false) else (bif (decide (x_c.Last = 0)) then (bif (decide (x_c.St = 1)) then (bif (F_spec_l19NoFrame x_c.Fin) then ((F_spec_l19NoChan x_c.C)) else (false)) else (bif (decide (x_c.St = 2)) then (bif (F_spec_FrameOk x_c.Fin) then (bif (decide (x_c.Fin.Kind = 3)) then (bif (decide (x_c.Fin.Id = x_c.Id)) then (bif (F_spec_l1Same x_c.Fin.Cn x_c.Cn) then (bif (F_spec_ChanOk x_c.C) then (bif (decide (x_c.C.Role = 0)) then (bif (F_spec_l1Same x_c.C.Sn x_c.Fin.Sn) then (bif (decide (x_c.C.Cur.N = 0)) then (bif x_c.C.HasOld then (false) else (decide ((x_c.C.Next.length : Int) = 0))) else (false)) else (false)) else (false)) else (false)) else (false)) else (false)) else (false)) else (false)) else (false))) else (false))) else (false))) else (false))) else (false)) else (false)) else (false)) else (false)) else (false)) else (false)
theorem C_spec_ClientOk (w0 : World) (v_x_c : Value) (x_c : PClient) (r_x_c : R_98 w0 v_x_c x_c)  : Fn Try.prog 70 #[v_x_c] w0 (fun v w' => Keep w0 w' ∧ O_4 w' w0.heap.size v (F_spec_ClientOk x_c)) := by
 obtain ⟨a1, c2, a6, c7, a11, c12, a16, c17, a21, c22, a26, c27, a31, c32, a36, c37, a41, c42, a46, c47, a51, c52, a56, c57, a61, c62, a66, c67, rfl, r3, s4, r8, s9, r13, s14, r18, s19, r23, s24, r28, s29, r33, s34, r38, s39, r43, s44, r48, s49, r53, s54, r58, s59, r63, s64, r68, s69⟩ := r_x_c
 refine fn_of (n := 204) (l := [(va (L_98 x_c a1 c2 a6 c7 a11 c12 a16 c17 a21 c22 a26 c27 a31 c32 a36 c37 a41 c42 a46 c47 a51 c52 a56 c57 a61 c62 a66 c67)), U, U, U, U, U, U, U, U, U, U, U, U, U, U, U, U, U, U, U, U, U, U, U, U, U, U, U, U, U, U, U, U, U, U, U, U, U, U, U, U, U, U, U, U, U, U, U, U, U, U, U, U, U, U, U, U, U, U, U, U, U, U, U, U, U, U, U, U, U, U, U, U, U, U, U, U, U, U, U, U, U, U, U, U, U, U, U, U, U, U, U, U, U, U, U, U, U, U, U, U, U, U, U, U, U, U, U, U, U, U, U, U, U, U, U, U, U, U, U, U, U, U, U, U, U, U, U, U, U, U, U, U, U, U, U, U, U, U, U, U, U, U, U, U, U, U, U, U, U, U, U, U, U, U, U, U, U, U, U, U, U, U, U, U, U, U, U, U, U, U, U, U, U, U, U, U, U, U, U, U, U, U, U, U, U, U, U, U, U, U, U, U, U, U, U, U, U, U, U, U, U, U, U]) Try.func70 rfl rfl (by kernel_rfl) rfl ?_
 refine sr ?_
 refine bx (L_98 x_c a1 c2 a6 c7 a11 c12 a16 c17 a21 c22 a26 c27 a31 c32 a36 c37 a41 c42 a46 c47 a51 c52 a56 c57 a61 c62 a66 c67) wN ?_
 intro g71 w1 p72 p73 k74 b75
 have m76 := (Ch.base w0).extk k74
 refine ag (vb false) wN ?_
 refine wl_nil <| wq_then <| wc_seq <| sr ?_
 refine pu (vp g71 0) wN ?_
 refine ld (vi x_c.Id) wN isAgg_3 b75 ?_
 refine cl wN (C_spec_l1In w1 x_c.Id 1 9) ?_
 rintro _ w2 ⟨k77, rfl⟩
 have m78 := m76.extk k77
 refine pu (vb (!(F_spec_l1In x_c.Id 1 9))) wN ?_
 refine mv (vb (!(F_spec_l1In x_c.Id 1 9))) wN ?_
 rcases bf (F_spec_l1In x_c.Id 1 9) with h79 | h79
 ·have q255 := spec_l1In_f h79
  refine sk (congrArg not h79) ?_
  refine sk (congrArg not h79) ?_
  refine sk (congrArg not h79) ?_
  refine sk (congrArg not h79) ?_
  refine pk (vb true) wN (congrArg not h79) ?_
  refine mv (vb true) wN ?_
  refine sk (Eq.refl true) ?_
  refine sk (Eq.refl true) ?_
  refine sk (Eq.refl true) ?_
  refine sk (Eq.refl true) ?_
  refine pk (vb true) wN (Eq.refl true) ?_
  refine mv (vb true) wN ?_
  refine sk (Eq.refl true) ?_
  refine sk (Eq.refl true) ?_
  refine sk (Eq.refl true) ?_
  refine sk (Eq.refl true) ?_
  refine pk (vb true) wN (Eq.refl true) ?_
  refine mv (vb true) wN ?_
  refine sk (Eq.refl true) ?_
  refine sk (Eq.refl true) ?_
  refine sk (Eq.refl true) ?_
  refine sk (Eq.refl true) ?_
  refine pk (vb true) wN (Eq.refl true) ?_
  refine mv (vb true) wN ?_
  refine sk (Eq.refl true) ?_
  refine sk (Eq.refl true) ?_
  refine sk (Eq.refl true) ?_
  refine sk (Eq.refl true) ?_
  refine pk (vb true) wN (Eq.refl true) ?_
  refine wl_nil <| wq_then ?_
  refine ct (Eq.refl true) ?_
  refine sr ?_
  refine ag (vb false) wN ?_
  refine wl_nil <| wq_then <| wc_ret <| wq_then_ret ?_
  refine ret_1 (.inl rfl) (vb false) rfl rfl ?_
  refine ⟨m78.keep0, ?_⟩
  have hF256 : F_spec_ClientOk x_c = false := by simp only [F_spec_ClientOk, h79, cond_true, cond_false]
  rw [hF256]
  exact rfl
 have q80 := spec_l1In_t h79
 refine pu (vp g71 1) (wS (congrArg not h79)) ?_
 have b81 := (b75.kp k77)
 refine ld (vs a1 x_c.Psk.length c2) (wS (congrArg not h79)) isAgg_22 b81 ?_
 refine cl (wS (congrArg not h79)) (C_spec_PskOk w2 _ x_c.Psk (mR_22 (r3.from0 m78) s4)) ?_
 rintro _ w3 ⟨k82, rfl⟩
 have m83 := m78.extk k82
 refine pu (vb (!(F_spec_PskOk x_c.Psk))) (wS (congrArg not h79)) ?_
 refine pf (vb (!(F_spec_PskOk x_c.Psk))) wN (congrArg not h79) ?_
 refine mv (vb (!(F_spec_PskOk x_c.Psk))) wN ?_
 rcases bf (F_spec_PskOk x_c.Psk) with h84 | h84
 ·refine sk (congrArg not h84) ?_
  refine sk (congrArg not h84) ?_
  refine sk (congrArg not h84) ?_
  refine sk (congrArg not h84) ?_
  refine pk (vb true) wN (congrArg not h84) ?_
  refine mv (vb true) wN ?_
  refine sk (Eq.refl true) ?_
  refine sk (Eq.refl true) ?_
  refine sk (Eq.refl true) ?_
  refine sk (Eq.refl true) ?_
  refine pk (vb true) wN (Eq.refl true) ?_
  refine mv (vb true) wN ?_
  refine sk (Eq.refl true) ?_
  refine sk (Eq.refl true) ?_
  refine sk (Eq.refl true) ?_
  refine sk (Eq.refl true) ?_
  refine pk (vb true) wN (Eq.refl true) ?_
  refine mv (vb true) wN ?_
  refine sk (Eq.refl true) ?_
  refine sk (Eq.refl true) ?_
  refine sk (Eq.refl true) ?_
  refine sk (Eq.refl true) ?_
  refine pk (vb true) wN (Eq.refl true) ?_
  refine wl_nil <| wq_then ?_
  refine ct (Eq.refl true) ?_
  refine sr ?_
  refine ag (vb false) wN ?_
  refine wl_nil <| wq_then <| wc_ret <| wq_then_ret ?_
  refine ret_1 (.inl rfl) (vb false) rfl rfl ?_
  refine ⟨m83.keep0, ?_⟩
  have hF254 : F_spec_ClientOk x_c = false := by simp only [F_spec_ClientOk, h79, h84, cond_true, cond_false]
  rw [hF254]
  exact rfl
 refine pu (vp g71 2) (wS (congrArg not h84)) ?_
 have b86 := (b81.kp k82)
 refine lN (L_26 x_c.At) (wS (congrArg not h84)) isAgg_26 sizeOf_26 b86 ?_
 refine cl (wS (congrArg not h84)) (C_spec_AddrOk w3 _ x_c.At (mR_26)) ?_
 rintro _ w4 ⟨k87, rfl⟩
 have m88 := m83.extk k87
 refine pu (vb (!(F_spec_AddrOk x_c.At))) (wS (congrArg not h84)) ?_
 refine pf (vb (!(F_spec_AddrOk x_c.At))) wN (congrArg not h84) ?_
 refine mv (vb (!(F_spec_AddrOk x_c.At))) wN ?_
 rcases bf (F_spec_AddrOk x_c.At) with h89 | h89
 ·refine sk (congrArg not h89) ?_
  refine sk (congrArg not h89) ?_
  refine sk (congrArg not h89) ?_
  refine sk (congrArg not h89) ?_
  refine pk (vb true) wN (congrArg not h89) ?_
  refine mv (vb true) wN ?_
  refine sk (Eq.refl true) ?_
  refine sk (Eq.refl true) ?_
  refine sk (Eq.refl true) ?_
  refine sk (Eq.refl true) ?_
  refine pk (vb true) wN (Eq.refl true) ?_
  refine mv (vb true) wN ?_
  refine sk (Eq.refl true) ?_
  refine sk (Eq.refl true) ?_
  refine sk (Eq.refl true) ?_
  refine sk (Eq.refl true) ?_
  refine pk (vb true) wN (Eq.refl true) ?_
  refine wl_nil <| wq_then ?_
  refine ct (Eq.refl true) ?_
  refine sr ?_
  refine ag (vb false) wN ?_
  refine wl_nil <| wq_then <| wc_ret <| wq_then_ret ?_
  refine ret_1 (.inl rfl) (vb false) rfl rfl ?_
  refine ⟨m88.keep0, ?_⟩
  have hF252 : F_spec_ClientOk x_c = false := by simp only [F_spec_ClientOk, h79, h84, h89, cond_true, cond_false]
  rw [hF252]
  exact rfl
 refine pu (vp g71 32) (wS (congrArg not h89)) ?_
 have b91 := (b86.kp k87)
 refine lN (L_96 x_c.T) (wS (congrArg not h89)) isAgg_96 sizeOf_96 b91 ?_
 refine cl (wS (congrArg not h89)) (C_spec_TimerOk w4 _ x_c.T (mR_96)) ?_
 rintro _ w5 ⟨k92, rfl⟩
 have m93 := m88.extk k92
 refine pu (vb (!(F_spec_TimerOk x_c.T))) (wS (congrArg not h89)) ?_
 refine pf (vb (!(F_spec_TimerOk x_c.T))) wN (congrArg not h89) ?_
 refine mv (vb (!(F_spec_TimerOk x_c.T))) wN ?_
 rcases bf (F_spec_TimerOk x_c.T) with h94 | h94
 ·refine sk (congrArg not h94) ?_
  refine sk (congrArg not h94) ?_
  refine sk (congrArg not h94) ?_
  refine sk (congrArg not h94) ?_
  refine pk (vb true) wN (congrArg not h94) ?_
  refine mv (vb true) wN ?_
  refine sk (Eq.refl true) ?_
  refine sk (Eq.refl true) ?_
  refine sk (Eq.refl true) ?_
  refine sk (Eq.refl true) ?_
  refine pk (vb true) wN (Eq.refl true) ?_
  refine wl_nil <| wq_then ?_
  refine ct (Eq.refl true) ?_
  refine sr ?_
  refine ag (vb false) wN ?_
  refine wl_nil <| wq_then <| wc_ret <| wq_then_ret ?_
  refine ret_1 (.inl rfl) (vb false) rfl rfl ?_
  refine ⟨m93.keep0, ?_⟩
  have hF250 : F_spec_ClientOk x_c = false := by simp only [F_spec_ClientOk, h79, h84, h89, h94, cond_true, cond_false]
  rw [hF250]
  exact rfl
 refine pu (vp g71 36) (wS (congrArg not h94)) ?_
 have b96 := (b91.kp k92)
 refine lN (L_96 x_c.R) (wS (congrArg not h94)) isAgg_96 sizeOf_96 b96 ?_
 refine cl (wS (congrArg not h94)) (C_spec_TimerOk w5 _ x_c.R (mR_96)) ?_
 rintro _ w6 ⟨k97, rfl⟩
 have m98 := m93.extk k97
 refine pu (vb (!(F_spec_TimerOk x_c.R))) (wS (congrArg not h94)) ?_
 refine pf (vb (!(F_spec_TimerOk x_c.R))) wN (congrArg not h94) ?_
 refine mv (vb (!(F_spec_TimerOk x_c.R))) wN ?_
 rcases bf (F_spec_TimerOk x_c.R) with h99 | h99
 ·refine sk (congrArg not h99) ?_
  refine sk (congrArg not h99) ?_
  refine sk (congrArg not h99) ?_
  refine sk (congrArg not h99) ?_
  refine pk (vb true) wN (congrArg not h99) ?_
  refine wl_nil <| wq_then ?_
  refine ct (Eq.refl true) ?_
  refine sr ?_
  refine ag (vb false) wN ?_
  refine wl_nil <| wq_then <| wc_ret <| wq_then_ret ?_
  refine ret_1 (.inl rfl) (vb false) rfl rfl ?_
  refine ⟨m98.keep0, ?_⟩
  have hF248 : F_spec_ClientOk x_c = false := by simp only [F_spec_ClientOk, h79, h84, h89, h94, h99, cond_true, cond_false]
  rw [hF248]
  exact rfl
 refine pu (vp g71 40) (wS (congrArg not h99)) ?_
 have b101 := (b96.kp k97)
 refine ld (vi x_c.Last) (wS (congrArg not h99)) isAgg_3 b101 ?_
 refine cl (wS (congrArg not h99)) (C_spec_l1In w6 x_c.Last 0 1000000) ?_
 rintro _ w7 ⟨k102, rfl⟩
 have m103 := m98.extk k102
 refine pu (vb (!(F_spec_l1In x_c.Last 0 1000000))) (wS (congrArg not h99)) ?_
 refine pf (vb (!(F_spec_l1In x_c.Last 0 1000000))) wN (congrArg not h99) ?_
 refine wl_nil <| wq_then ?_
 rcases bf (F_spec_l1In x_c.Last 0 1000000) with h104 | h104
 ·have q245 := spec_l1In_f h104
  refine ct (congrArg not h104) ?_
  refine sr ?_
  refine ag (vb false) wN ?_
  refine wl_nil <| wq_then <| wc_ret <| wq_then_ret ?_
  refine ret_1 (.inl rfl) (vb false) rfl rfl ?_
  refine ⟨m103.keep0, ?_⟩
  have hF246 : F_spec_ClientOk x_c = false := by simp only [F_spec_ClientOk, h79, h84, h89, h94, h99, h104, cond_true, cond_false]
  rw [hF246]
  exact rfl
 have q105 := spec_l1In_t h104
 refine cf (congrArg not h104) ?_
 refine wc_skip <| wq_then <| wc_seq <| sr ?_
 refine pu (vp g71 4) wN ?_
 have b106 := (b101.kp k102)
 refine ld (vi x_c.St) wN isAgg_3 b106 ?_
 refine pu (vb (decide (x_c.St = 0))) wN ?_
 refine wl_nil <| wq_then ?_
 rcases bt (decide (x_c.St = 0)) with h107 | h107
 ·have q108 := of_decide_eq_true h107
  refine ct h107 ?_
  refine sr ?_
  refine pu (vp g71 5) wN ?_
  refine ld (vs a6 x_c.Cn.length c7) wN isAgg_22 b106 ?_
  refine ln wN slTy_22 (r8.from0 m103) ?_
  refine pu (vb (decide ((x_c.Cn.length : Int) = 0))) wN ?_
  refine mv (vb (decide ((x_c.Cn.length : Int) = 0))) wN ?_
  rcases bf (decide ((x_c.Cn.length : Int) = 0)) with h109 | h109
  ·have q134 := of_decide_eq_false h109
   refine sk h109 ?_
   refine sk h109 ?_
   refine sk h109 ?_
   refine pf (vb false) wN h109 ?_
   refine mv (vb false) wN ?_
   refine sk (Eq.refl false) ?_
   refine sk (Eq.refl false) ?_
   refine sk (Eq.refl false) ?_
   refine pf (vb false) wN (Eq.refl false) ?_
   refine mv (vb false) wN ?_
   refine sk (Eq.refl false) ?_
   refine sk (Eq.refl false) ?_
   refine sk (Eq.refl false) ?_
   refine sk (Eq.refl false) ?_
   refine pf (vb false) wN (Eq.refl false) ?_
   refine mv (vb false) wN ?_
   refine sk (Eq.refl false) ?_
   refine sk (Eq.refl false) ?_
   refine sk (Eq.refl false) ?_
   refine sk (Eq.refl false) ?_
   refine pf (vb false) wN (Eq.refl false) ?_
   refine mv (vb false) wN ?_
   refine sk (Eq.refl false) ?_
   refine sk (Eq.refl false) ?_
   refine sk (Eq.refl false) ?_
   refine pf (vb false) wN (Eq.refl false) ?_
   refine ag (vb false) wN ?_
   refine wl_nil <| wq_then <| wc_ret <| wq_then_ret ?_
   refine ret_1 (.inl rfl) (vb false) rfl rfl ?_
   refine ⟨m103.keep0, ?_⟩
   have hF135 : F_spec_ClientOk x_c = false := by simp only [F_spec_ClientOk, h79, h84, h89, h94, h99, h104, h107, h109, cond_true, cond_false]
   rw [hF135]
   exact rfl
  have q110 := of_decide_eq_true h109
  refine pu (vp g71 6) (wS h109) ?_
  refine lN (L_87 x_c.Fin a11 c12 a16 c17 a21 c22 a26 c27 a31 c32 a36 c37) (wS h109) isAgg_87 sizeOf_87 b106 ?_
  refine cl (wS h109) (C_spec_l19NoFrame w7 _ x_c.Fin (mR_87 (r13.from0 m103) s14 (r18.from0 m103) s19 (r23.from0 m103) s24 (r28.from0 m103) s29 (r33.from0 m103) s34 (r38.from0 m103) s39)) ?_
  rintro _ w8 ⟨k111, rfl⟩
  have m112 := m103.extk k111
  refine pk (vb (F_spec_l19NoFrame x_c.Fin)) wN h109 ?_
  refine mv (vb (F_spec_l19NoFrame x_c.Fin)) wN ?_
  rcases bf (F_spec_l19NoFrame x_c.Fin) with h113 | h113
  ·refine sk h113 ?_
   refine sk h113 ?_
   refine sk h113 ?_
   refine pf (vb false) wN h113 ?_
   refine mv (vb false) wN ?_
   refine sk (Eq.refl false) ?_
   refine sk (Eq.refl false) ?_
   refine sk (Eq.refl false) ?_
   refine sk (Eq.refl false) ?_
   refine pf (vb false) wN (Eq.refl false) ?_
   refine mv (vb false) wN ?_
   refine sk (Eq.refl false) ?_
   refine sk (Eq.refl false) ?_
   refine sk (Eq.refl false) ?_
   refine sk (Eq.refl false) ?_
   refine pf (vb false) wN (Eq.refl false) ?_
   refine mv (vb false) wN ?_
   refine sk (Eq.refl false) ?_
   refine sk (Eq.refl false) ?_
   refine sk (Eq.refl false) ?_
   refine pf (vb false) wN (Eq.refl false) ?_
   refine ag (vb false) wN ?_
   refine wl_nil <| wq_then <| wc_ret <| wq_then_ret ?_
   refine ret_1 (.inl rfl) (vb false) rfl rfl ?_
   refine ⟨m112.keep0, ?_⟩
   have hF133 : F_spec_ClientOk x_c = false := by simp only [F_spec_ClientOk, h79, h84, h89, h94, h99, h104, h107, h109, h113, cond_true, cond_false]
   rw [hF133]
   exact rfl
  refine pu (vp g71 17) (wS h113) ?_
  have b115 := (b106.kp k111)
  refine lN (L_94 x_c.C a41 c42 a46 c47 a51 c52 a56 c57 a61 c62 a66 c67) (wS h113) isAgg_94 sizeOf_94 b115 ?_
  refine cl (wS h113) (C_spec_l19NoChan w8 _ x_c.C (mR_94 (r43.from0 m112) s44 (r48.from0 m112) s49 (r53.from0 m112) s54 (r58.from0 m112) s59 (r63.from0 m112) s64 (r68.from0 m112) s69)) ?_
  rintro _ w9 ⟨k116, rfl⟩
  have m117 := m112.extk k116
  refine pk (vb (F_spec_l19NoChan x_c.C)) wN h113 ?_
  refine mv (vb (F_spec_l19NoChan x_c.C)) wN ?_
  rcases bf (F_spec_l19NoChan x_c.C) with h118 | h118
  ·refine sk h118 ?_
   refine sk h118 ?_
   refine sk h118 ?_
   refine sk h118 ?_
   refine pf (vb false) wN h118 ?_
   refine mv (vb false) wN ?_
   refine sk (Eq.refl false) ?_
   refine sk (Eq.refl false) ?_
   refine sk (Eq.refl false) ?_
   refine sk (Eq.refl false) ?_
   refine pf (vb false) wN (Eq.refl false) ?_
   refine mv (vb false) wN ?_
   refine sk (Eq.refl false) ?_
   refine sk (Eq.refl false) ?_
   refine sk (Eq.refl false) ?_
   refine pf (vb false) wN (Eq.refl false) ?_
   refine ag (vb false) wN ?_
   refine wl_nil <| wq_then <| wc_ret <| wq_then_ret ?_
   refine ret_1 (.inl rfl) (vb false) rfl rfl ?_
   refine ⟨m117.keep0, ?_⟩
   have hF131 : F_spec_ClientOk x_c = false := by simp only [F_spec_ClientOk, h79, h84, h89, h94, h99, h104, h107, h109, h113, h118, cond_true, cond_false]
   rw [hF131]
   exact rfl
  refine pu (vp g71 32) (wS h118) ?_
  refine pu (vp g71 32) (wS h118) ?_
  have b120 := (b115.kp k116)
  refine ld (vb x_c.T.On) (wS h118) isAgg_4 b120 ?_
  refine pu (vb (!x_c.T.On)) (wS h118) ?_
  refine pk (vb (!x_c.T.On)) wN h118 ?_
  refine mv (vb (!x_c.T.On)) wN ?_
  rcases bt x_c.T.On with h121 | h121
  ·refine sk (congrArg not h121) ?_
   refine sk (congrArg not h121) ?_
   refine sk (congrArg not h121) ?_
   refine sk (congrArg not h121) ?_
   refine pf (vb false) wN (congrArg not h121) ?_
   refine mv (vb false) wN ?_
   refine sk (Eq.refl false) ?_
   refine sk (Eq.refl false) ?_
   refine sk (Eq.refl false) ?_
   refine pf (vb false) wN (Eq.refl false) ?_
   refine ag (vb false) wN ?_
   refine wl_nil <| wq_then <| wc_ret <| wq_then_ret ?_
   refine ret_1 (.inl rfl) (vb false) rfl rfl ?_
   refine ⟨m117.keep0, ?_⟩
   have hF123 : F_spec_ClientOk x_c = false := by simp only [F_spec_ClientOk, h79, h84, h89, h94, h99, h104, h107, h109, h113, h118, h121, cond_true, cond_false]
   rw [hF123]
   exact rfl
  refine pu (vp g71 36) (wS (congrArg not h121)) ?_
  refine pu (vp g71 36) (wS (congrArg not h121)) ?_
  refine ld (vb x_c.R.On) (wS (congrArg not h121)) isAgg_4 b120 ?_
  refine pu (vb (!x_c.R.On)) (wS (congrArg not h121)) ?_
  refine pk (vb (!x_c.R.On)) wN (congrArg not h121) ?_
  refine mv (vb (!x_c.R.On)) wN ?_
  rcases bt x_c.R.On with h125 | h125
  ·refine sk (congrArg not h125) ?_
   refine sk (congrArg not h125) ?_
   refine sk (congrArg not h125) ?_
   refine pf (vb false) wN (congrArg not h125) ?_
   refine ag (vb false) wN ?_
   refine wl_nil <| wq_then <| wc_ret <| wq_then_ret ?_
   refine ret_1 (.inl rfl) (vb false) rfl rfl ?_
   refine ⟨m117.keep0, ?_⟩
   have hF127 : F_spec_ClientOk x_c = false := by simp only [F_spec_ClientOk, h79, h84, h89, h94, h99, h104, h107, h109, h113, h118, h121, h125, cond_true, cond_false]
   rw [hF127]
   exact rfl
  refine pu (vp g71 40) (wS (congrArg not h125)) ?_
  refine ld (vi x_c.Last) (wS (congrArg not h125)) isAgg_3 b120 ?_
  refine pu (vb (decide (x_c.Last = 0))) (wS (congrArg not h125)) ?_
  refine pk (vb (decide (x_c.Last = 0))) wN (congrArg not h125) ?_
  refine ag (vb (decide (x_c.Last = 0))) wN ?_
  refine wl_nil <| wq_then <| wc_ret <| wq_then_ret ?_
  refine ret_1 (.inl rfl) (vb (decide (x_c.Last = 0))) rfl rfl ?_
  refine ⟨m117.keep0, ?_⟩
  have hF129 : F_spec_ClientOk x_c = decide (x_c.Last = 0) := by simp only [F_spec_ClientOk, h79, h84, h89, h94, h99, h104, h107, h109, h113, h118, h121, h125, cond_true, cond_false]
  rw [hF129]
  exact rfl
 have q136 := of_decide_eq_false h107
 refine cf h107 ?_
 refine wc_skip <| wq_then <| wc_seq <| sr ?_
 refine pu (vp g71 5) wN ?_
 refine ld (vs a6 x_c.Cn.length c7) wN isAgg_22 b106 ?_
 refine ln wN slTy_22 (r8.from0 m103) ?_
 refine pu (vb (!(decide ((x_c.Cn.length : Int) = 12)))) wN ?_
 refine wl_nil <| wq_then ?_
 rcases bf (decide ((x_c.Cn.length : Int) = 12)) with h137 | h137
 ·have q243 := of_decide_eq_false h137
  refine ct (congrArg not h137) ?_
  refine sr ?_
  refine ag (vb false) wN ?_
  refine wl_nil <| wq_then <| wc_ret <| wq_then_ret ?_
  refine ret_1 (.inl rfl) (vb false) rfl rfl ?_
  refine ⟨m103.keep0, ?_⟩
  have hF244 : F_spec_ClientOk x_c = false := by simp only [F_spec_ClientOk, h79, h84, h89, h94, h99, h104, h107, h137, cond_true, cond_false]
  rw [hF244]
  exact rfl
 have q138 := of_decide_eq_true h137
 refine cf (congrArg not h137) ?_
 refine wc_skip <| wq_then <| wc_seq <| sr ?_
 refine pu (vp g71 4) wN ?_
 refine ld (vi x_c.St) wN isAgg_3 b106 ?_
 refine pu (vb (decide (x_c.St = 3))) wN ?_
 refine wl_nil <| wq_then ?_
 rcases bt (decide (x_c.St = 3)) with h139 | h139
 ·have q140 := of_decide_eq_true h139
  refine ct h139 ?_
  refine sr ?_
  refine pu (vp g71 6) wN ?_
  refine lN (L_87 x_c.Fin a11 c12 a16 c17 a21 c22 a26 c27 a31 c32 a36 c37) wN isAgg_87 sizeOf_87 b106 ?_
  refine cl wN (C_spec_l19NoFrame w7 _ x_c.Fin (mR_87 (r13.from0 m103) s14 (r18.from0 m103) s19 (r23.from0 m103) s24 (r28.from0 m103) s29 (r33.from0 m103) s34 (r38.from0 m103) s39)) ?_
  rintro _ w8 ⟨k141, rfl⟩
  have m142 := m103.extk k141
  refine mv (vb (F_spec_l19NoFrame x_c.Fin)) wN ?_
  rcases bf (F_spec_l19NoFrame x_c.Fin) with h143 | h143
  ·refine sk h143 ?_
   refine sk h143 ?_
   refine sk h143 ?_
   refine pf (vb false) wN h143 ?_
   refine mv (vb false) wN ?_
   refine sk (Eq.refl false) ?_
   refine sk (Eq.refl false) ?_
   refine sk (Eq.refl false) ?_
   refine sk (Eq.refl false) ?_
   refine pf (vb false) wN (Eq.refl false) ?_
   refine mv (vb false) wN ?_
   refine sk (Eq.refl false) ?_
   refine sk (Eq.refl false) ?_
   refine sk (Eq.refl false) ?_
   refine sk (Eq.refl false) ?_
   refine pf (vb false) wN (Eq.refl false) ?_
   refine mv (vb false) wN ?_
   refine sk (Eq.refl false) ?_
   refine sk (Eq.refl false) ?_
   refine sk (Eq.refl false) ?_
   refine sk (Eq.refl false) ?_
   refine sk (Eq.refl false) ?_
   refine sk (Eq.refl false) ?_
   refine sk (Eq.refl false) ?_
   refine sk (Eq.refl false) ?_
   refine sk (Eq.refl false) ?_
   refine pf (vb false) wN (Eq.refl false) ?_
   refine ag (vb false) wN ?_
   refine wl_nil <| wq_then <| wc_ret <| wq_then_ret ?_
   refine ret_1 (.inl rfl) (vb false) rfl rfl ?_
   refine ⟨m142.keep0, ?_⟩
   have hF163 : F_spec_ClientOk x_c = false := by simp only [F_spec_ClientOk, h79, h84, h89, h94, h99, h104, h107, h137, h139, h143, cond_true, cond_false]
   rw [hF163]
   exact rfl
  refine pu (vp g71 17) (wS h143) ?_
  have b145 := (b106.kp k141)
  refine lN (L_94 x_c.C a41 c42 a46 c47 a51 c52 a56 c57 a61 c62 a66 c67) (wS h143) isAgg_94 sizeOf_94 b145 ?_
  refine cl (wS h143) (C_spec_ChanOk w8 _ x_c.C (mR_94 (r43.from0 m142) s44 (r48.from0 m142) s49 (r53.from0 m142) s54 (r58.from0 m142) s59 (r63.from0 m142) s64 (r68.from0 m142) s69)) ?_
  rintro _ w9 ⟨k146, rfl⟩
  have m147 := m142.extk k146
  refine pk (vb (F_spec_ChanOk x_c.C)) wN h143 ?_
  refine mv (vb (F_spec_ChanOk x_c.C)) wN ?_
  rcases bf (F_spec_ChanOk x_c.C) with h148 | h148
  ·refine sk h148 ?_
   refine sk h148 ?_
   refine sk h148 ?_
   refine sk h148 ?_
   refine pf (vb false) wN h148 ?_
   refine mv (vb false) wN ?_
   refine sk (Eq.refl false) ?_
   refine sk (Eq.refl false) ?_
   refine sk (Eq.refl false) ?_
   refine sk (Eq.refl false) ?_
   refine pf (vb false) wN (Eq.refl false) ?_
   refine mv (vb false) wN ?_
   refine sk (Eq.refl false) ?_
   refine sk (Eq.refl false) ?_
   refine sk (Eq.refl false) ?_
   refine sk (Eq.refl false) ?_
   refine sk (Eq.refl false) ?_
   refine sk (Eq.refl false) ?_
   refine sk (Eq.refl false) ?_
   refine sk (Eq.refl false) ?_
   refine sk (Eq.refl false) ?_
   refine pf (vb false) wN (Eq.refl false) ?_
   refine ag (vb false) wN ?_
   refine wl_nil <| wq_then <| wc_ret <| wq_then_ret ?_
   refine ret_1 (.inl rfl) (vb false) rfl rfl ?_
   refine ⟨m147.keep0, ?_⟩
   have hF161 : F_spec_ClientOk x_c = false := by simp only [F_spec_ClientOk, h79, h84, h89, h94, h99, h104, h107, h137, h139, h143, h148, cond_true, cond_false]
   rw [hF161]
   exact rfl
  have q149 := spec_ChanOk_t h148
  refine pu (vp g71 17) (wS h148) ?_
  refine pu (vp g71 17) (wS h148) ?_
  have b150 := (b145.kp k146)
  refine ld (vi x_c.C.Role) (wS h148) isAgg_3 b150 ?_
  refine pu (vb (decide (x_c.C.Role = 0))) (wS h148) ?_
  refine pk (vb (decide (x_c.C.Role = 0))) wN h148 ?_
  refine mv (vb (decide (x_c.C.Role = 0))) wN ?_
  rcases bf (decide (x_c.C.Role = 0)) with h151 | h151
  ·have q158 := of_decide_eq_false h151
   refine sk h151 ?_
   refine sk h151 ?_
   refine sk h151 ?_
   refine sk h151 ?_
   refine pf (vb false) wN h151 ?_
   refine mv (vb false) wN ?_
   refine sk (Eq.refl false) ?_
   refine sk (Eq.refl false) ?_
   refine sk (Eq.refl false) ?_
   refine sk (Eq.refl false) ?_
   refine sk (Eq.refl false) ?_
   refine sk (Eq.refl false) ?_
   refine sk (Eq.refl false) ?_
   refine sk (Eq.refl false) ?_
   refine sk (Eq.refl false) ?_
   refine pf (vb false) wN (Eq.refl false) ?_
   refine ag (vb false) wN ?_
   refine wl_nil <| wq_then <| wc_ret <| wq_then_ret ?_
   refine ret_1 (.inl rfl) (vb false) rfl rfl ?_
   refine ⟨m147.keep0, ?_⟩
   have hF159 : F_spec_ClientOk x_c = false := by simp only [F_spec_ClientOk, h79, h84, h89, h94, h99, h104, h107, h137, h139, h143, h148, h151, cond_true, cond_false]
   rw [hF159]
   exact rfl
  have q152 := of_decide_eq_true h151
  refine pu (vp g71 32) (wS h151) ?_
  refine pu (vp g71 32) (wS h151) ?_
  refine ld (vb x_c.T.On) (wS h151) isAgg_4 b150 ?_
  refine pu (vb (!x_c.T.On)) (wS h151) ?_
  refine pk (vb (!x_c.T.On)) wN h151 ?_
  refine mv (vb (!x_c.T.On)) wN ?_
  rcases bt x_c.T.On with h153 | h153
  ·refine sk (congrArg not h153) ?_
   refine sk (congrArg not h153) ?_
   refine sk (congrArg not h153) ?_
   refine sk (congrArg not h153) ?_
   refine sk (congrArg not h153) ?_
   refine sk (congrArg not h153) ?_
   refine sk (congrArg not h153) ?_
   refine sk (congrArg not h153) ?_
   refine sk (congrArg not h153) ?_
   refine pf (vb false) wN (congrArg not h153) ?_
   refine ag (vb false) wN ?_
   refine wl_nil <| wq_then <| wc_ret <| wq_then_ret ?_
   refine ret_1 (.inl rfl) (vb false) rfl rfl ?_
   refine ⟨m147.keep0, ?_⟩
   have hF155 : F_spec_ClientOk x_c = false := by simp only [F_spec_ClientOk, h79, h84, h89, h94, h99, h104, h107, h137, h139, h143, h148, h151, h153, cond_true, cond_false]
   rw [hF155]
   exact rfl
  refine pu (vp g71 36) (wS (congrArg not h153)) ?_
  refine pu (vp g71 36) (wS (congrArg not h153)) ?_
  refine ld (vb x_c.R.On) (wS (congrArg not h153)) isAgg_4 b150 ?_
  refine pu (vp g71 17) (wS (congrArg not h153)) ?_
  refine pu (vp g71 31) (wS (congrArg not h153)) ?_
  refine ld (vs a66 x_c.C.Next.length c67) (wS (congrArg not h153)) isAgg_22 b150 ?_
  refine ln (wS (congrArg not h153)) slTy_22 (r68.from0 m147) ?_
  refine pu (vb (decide (0 < (x_c.C.Next.length : Int)))) (wS (congrArg not h153)) ?_
  refine pu (vb (x_c.R.On == (decide (0 < (x_c.C.Next.length : Int))))) (wS (congrArg not h153)) ?_
  refine pk (vb (x_c.R.On == (decide (0 < (x_c.C.Next.length : Int))))) wN (congrArg not h153) ?_
  refine ag (vb (x_c.R.On == (decide (0 < (x_c.C.Next.length : Int))))) wN ?_
  refine wl_nil <| wq_then <| wc_ret <| wq_then_ret ?_
  refine ret_1 (.inl rfl) (vb (x_c.R.On == (decide (0 < (x_c.C.Next.length : Int))))) rfl rfl ?_
  refine ⟨m147.keep0, ?_⟩
  have hF157 : F_spec_ClientOk x_c = (x_c.R.On == (decide (0 < (x_c.C.Next.length : Int)))) := by simp only [F_spec_ClientOk, h79, h84, h89, h94, h99, h104, h107, h137, h139, h143, h148, h151, h153, cond_true, cond_false]
  rw [hF157]
  exact rfl
 have q164 := of_decide_eq_false h139
 refine cf h139 ?_
 refine wc_skip <| wq_then <| wc_seq <| sr ?_
 refine pu (vp g71 32) wN ?_
 refine pu (vp g71 32) wN ?_
 refine ld (vb x_c.T.On) wN isAgg_4 b106 ?_
 refine pu (vb (!x_c.T.On)) wN ?_
 refine mv (vb (!x_c.T.On)) wN ?_
 rcases bf x_c.T.On with h165 | h165
 ·refine sk (congrArg not h165) ?_
  refine sk (congrArg not h165) ?_
  refine sk (congrArg not h165) ?_
  refine pk (vb true) wN (congrArg not h165) ?_
  refine mv (vb true) wN ?_
  refine sk (Eq.refl true) ?_
  refine sk (Eq.refl true) ?_
  refine sk (Eq.refl true) ?_
  refine pk (vb true) wN (Eq.refl true) ?_
  refine wl_nil <| wq_then ?_
  refine ct (Eq.refl true) ?_
  refine sr ?_
  refine ag (vb false) wN ?_
  refine wl_nil <| wq_then <| wc_ret <| wq_then_ret ?_
  refine ret_1 (.inl rfl) (vb false) rfl rfl ?_
  refine ⟨m103.keep0, ?_⟩
  have hF242 : F_spec_ClientOk x_c = false := by simp only [F_spec_ClientOk, h79, h84, h89, h94, h99, h104, h107, h137, h139, h165, cond_true, cond_false]
  rw [hF242]
  exact rfl
 refine pu (vp g71 36) (wS (congrArg not h165)) ?_
 refine pu (vp g71 36) (wS (congrArg not h165)) ?_
 refine ld (vb x_c.R.On) (wS (congrArg not h165)) isAgg_4 b106 ?_
 refine pf (vb x_c.R.On) wN (congrArg not h165) ?_
 refine mv (vb x_c.R.On) wN ?_
 rcases bt x_c.R.On with h167 | h167
 ·refine sk h167 ?_
  refine sk h167 ?_
  refine sk h167 ?_
  refine pk (vb true) wN h167 ?_
  refine wl_nil <| wq_then ?_
  refine ct (Eq.refl true) ?_
  refine sr ?_
  refine ag (vb false) wN ?_
  refine wl_nil <| wq_then <| wc_ret <| wq_then_ret ?_
  refine ret_1 (.inl rfl) (vb false) rfl rfl ?_
  refine ⟨m103.keep0, ?_⟩
  have hF169 : F_spec_ClientOk x_c = false := by simp only [F_spec_ClientOk, h79, h84, h89, h94, h99, h104, h107, h137, h139, h165, h167, cond_true, cond_false]
  rw [hF169]
  exact rfl
 refine pu (vp g71 40) (wS h167) ?_
 refine ld (vi x_c.Last) (wS h167) isAgg_3 b106 ?_
 refine pu (vb (!(decide (x_c.Last = 0)))) (wS h167) ?_
 refine pf (vb (!(decide (x_c.Last = 0)))) wN h167 ?_
 refine wl_nil <| wq_then ?_
 rcases bf (decide (x_c.Last = 0)) with h171 | h171
 ·have q239 := of_decide_eq_false h171
  refine ct (congrArg not h171) ?_
  refine sr ?_
  refine ag (vb false) wN ?_
  refine wl_nil <| wq_then <| wc_ret <| wq_then_ret ?_
  refine ret_1 (.inl rfl) (vb false) rfl rfl ?_
  refine ⟨m103.keep0, ?_⟩
  have hF240 : F_spec_ClientOk x_c = false := by simp only [F_spec_ClientOk, h79, h84, h89, h94, h99, h104, h107, h137, h139, h165, h167, h171, cond_true, cond_false]
  rw [hF240]
  exact rfl
 have q172 := of_decide_eq_true h171
 refine cf (congrArg not h171) ?_
 refine wc_skip <| wq_then <| wc_seq <| sr ?_
 refine pu (vp g71 4) wN ?_
 refine ld (vi x_c.St) wN isAgg_3 b106 ?_
 refine pu (vb (decide (x_c.St = 1))) wN ?_
 refine wl_nil <| wq_then ?_
 rcases bt (decide (x_c.St = 1)) with h173 | h173
 ·have q174 := of_decide_eq_true h173
  refine ct h173 ?_
  refine sr ?_
  refine pu (vp g71 6) wN ?_
  refine lN (L_87 x_c.Fin a11 c12 a16 c17 a21 c22 a26 c27 a31 c32 a36 c37) wN isAgg_87 sizeOf_87 b106 ?_
  refine cl wN (C_spec_l19NoFrame w7 _ x_c.Fin (mR_87 (r13.from0 m103) s14 (r18.from0 m103) s19 (r23.from0 m103) s24 (r28.from0 m103) s29 (r33.from0 m103) s34 (r38.from0 m103) s39)) ?_
  rintro _ w8 ⟨k175, rfl⟩
  have m176 := m103.extk k175
  refine mv (vb (F_spec_l19NoFrame x_c.Fin)) wN ?_
  rcases bf (F_spec_l19NoFrame x_c.Fin) with h177 | h177
  ·refine sk h177 ?_
   refine sk h177 ?_
   refine sk h177 ?_
   refine pf (vb false) wN h177 ?_
   refine ag (vb false) wN ?_
   refine wl_nil <| wq_then <| wc_ret <| wq_then_ret ?_
   refine ret_1 (.inl rfl) (vb false) rfl rfl ?_
   refine ⟨m176.keep0, ?_⟩
   have hF184 : F_spec_ClientOk x_c = false := by simp only [F_spec_ClientOk, h79, h84, h89, h94, h99, h104, h107, h137, h139, h165, h167, h171, h173, h177, cond_true, cond_false]
   rw [hF184]
   exact rfl
  refine pu (vp g71 17) (wS h177) ?_
  have b179 := (b106.kp k175)
  refine lN (L_94 x_c.C a41 c42 a46 c47 a51 c52 a56 c57 a61 c62 a66 c67) (wS h177) isAgg_94 sizeOf_94 b179 ?_
  refine cl (wS h177) (C_spec_l19NoChan w8 _ x_c.C (mR_94 (r43.from0 m176) s44 (r48.from0 m176) s49 (r53.from0 m176) s54 (r58.from0 m176) s59 (r63.from0 m176) s64 (r68.from0 m176) s69)) ?_
  rintro _ w9 ⟨k180, rfl⟩
  have m181 := m176.extk k180
  refine pk (vb (F_spec_l19NoChan x_c.C)) wN h177 ?_
  refine ag (vb (F_spec_l19NoChan x_c.C)) wN ?_
  refine wl_nil <| wq_then <| wc_ret <| wq_then_ret ?_
  refine ret_1 (.inl rfl) (vb (F_spec_l19NoChan x_c.C)) rfl rfl ?_
  refine ⟨m181.keep0, ?_⟩
  have hF182 : F_spec_ClientOk x_c = (F_spec_l19NoChan x_c.C) := by simp only [F_spec_ClientOk, h79, h84, h89, h94, h99, h104, h107, h137, h139, h165, h167, h171, h173, h177, cond_true, cond_false]
  rw [hF182]
  exact rfl
 have q185 := of_decide_eq_false h173
 refine cf h173 ?_
 refine wc_skip <| wq_then <| sr ?_
 refine pu (vp g71 4) wN ?_
 refine ld (vi x_c.St) wN isAgg_3 b106 ?_
 refine pu (vb (decide (x_c.St = 2))) wN ?_
 refine mv (vb (decide (x_c.St = 2))) wN ?_
 rcases bf (decide (x_c.St = 2)) with h186 | h186
 ·have q237 := of_decide_eq_false h186
  refine sk h186 ?_
  refine sk h186 ?_
  refine sk h186 ?_
  refine pf (vb false) wN h186 ?_
  refine mv (vb false) wN ?_
  refine sk (Eq.refl false) ?_
  refine sk (Eq.refl false) ?_
  refine sk (Eq.refl false) ?_
  refine sk (Eq.refl false) ?_
  refine pf (vb false) wN (Eq.refl false) ?_
  refine mv (vb false) wN ?_
  refine sk (Eq.refl false) ?_
  refine sk (Eq.refl false) ?_
  refine sk (Eq.refl false) ?_
  refine sk (Eq.refl false) ?_
  refine sk (Eq.refl false) ?_
  refine sk (Eq.refl false) ?_
  refine pf (vb false) wN (Eq.refl false) ?_
  refine mv (vb false) wN ?_
  refine sk (Eq.refl false) ?_
  refine sk (Eq.refl false) ?_
  refine sk (Eq.refl false) ?_
  refine sk (Eq.refl false) ?_
  refine sk (Eq.refl false) ?_
  refine sk (Eq.refl false) ?_
  refine pf (vb false) wN (Eq.refl false) ?_
  refine mv (vb false) wN ?_
  refine sk (Eq.refl false) ?_
  refine sk (Eq.refl false) ?_
  refine sk (Eq.refl false) ?_
  refine pf (vb false) wN (Eq.refl false) ?_
  refine mv (vb false) wN ?_
  refine sk (Eq.refl false) ?_
  refine sk (Eq.refl false) ?_
  refine sk (Eq.refl false) ?_
  refine sk (Eq.refl false) ?_
  refine pf (vb false) wN (Eq.refl false) ?_
  refine mv (vb false) wN ?_
  refine sk (Eq.refl false) ?_
  refine sk (Eq.refl false) ?_
  refine sk (Eq.refl false) ?_
  refine sk (Eq.refl false) ?_
  refine sk (Eq.refl false) ?_
  refine sk (Eq.refl false) ?_
  refine sk (Eq.refl false) ?_
  refine pf (vb false) wN (Eq.refl false) ?_
  refine mv (vb false) wN ?_
  refine sk (Eq.refl false) ?_
  refine sk (Eq.refl false) ?_
  refine sk (Eq.refl false) ?_
  refine sk (Eq.refl false) ?_
  refine sk (Eq.refl false) ?_
  refine pf (vb false) wN (Eq.refl false) ?_
  refine mv (vb false) wN ?_
  refine sk (Eq.refl false) ?_
  refine sk (Eq.refl false) ?_
  refine sk (Eq.refl false) ?_
  refine sk (Eq.refl false) ?_
  refine pf (vb false) wN (Eq.refl false) ?_
  refine mv (vb false) wN ?_
  refine sk (Eq.refl false) ?_
  refine sk (Eq.refl false) ?_
  refine sk (Eq.refl false) ?_
  refine sk (Eq.refl false) ?_
  refine sk (Eq.refl false) ?_
  refine pf (vb false) wN (Eq.refl false) ?_
  refine ag (vb false) wN ?_
  refine wl_nil <| wq_then <| wc_ret ?_
  refine ret_1 (.inl rfl) (vb false) rfl rfl ?_
  refine ⟨m103.keep0, ?_⟩
  have hF238 : F_spec_ClientOk x_c = false := by simp only [F_spec_ClientOk, h79, h84, h89, h94, h99, h104, h107, h137, h139, h165, h167, h171, h173, h186, cond_true, cond_false]
  rw [hF238]
  exact rfl
 have q187 := of_decide_eq_true h186
 refine pu (vp g71 6) (wS h186) ?_
 refine lN (L_87 x_c.Fin a11 c12 a16 c17 a21 c22 a26 c27 a31 c32 a36 c37) (wS h186) isAgg_87 sizeOf_87 b106 ?_
 refine cl (wS h186) (C_spec_FrameOk w7 _ x_c.Fin (mR_87 (r13.from0 m103) s14 (r18.from0 m103) s19 (r23.from0 m103) s24 (r28.from0 m103) s29 (r33.from0 m103) s34 (r38.from0 m103) s39)) ?_
 rintro _ w8 ⟨k188, rfl⟩
 have m189 := m103.extk k188
 refine pk (vb (F_spec_FrameOk x_c.Fin)) wN h186 ?_
 refine mv (vb (F_spec_FrameOk x_c.Fin)) wN ?_
 rcases bf (F_spec_FrameOk x_c.Fin) with h190 | h190
 ·refine sk h190 ?_
  refine sk h190 ?_
  refine sk h190 ?_
  refine sk h190 ?_
  refine pf (vb false) wN h190 ?_
  refine mv (vb false) wN ?_
  refine sk (Eq.refl false) ?_
  refine sk (Eq.refl false) ?_
  refine sk (Eq.refl false) ?_
  refine sk (Eq.refl false) ?_
  refine sk (Eq.refl false) ?_
  refine sk (Eq.refl false) ?_
  refine pf (vb false) wN (Eq.refl false) ?_
  refine mv (vb false) wN ?_
  refine sk (Eq.refl false) ?_
  refine sk (Eq.refl false) ?_
  refine sk (Eq.refl false) ?_
  refine sk (Eq.refl false) ?_
  refine sk (Eq.refl false) ?_
  refine sk (Eq.refl false) ?_
  refine pf (vb false) wN (Eq.refl false) ?_
  refine mv (vb false) wN ?_
  refine sk (Eq.refl false) ?_
  refine sk (Eq.refl false) ?_
  refine sk (Eq.refl false) ?_
  refine pf (vb false) wN (Eq.refl false) ?_
  refine mv (vb false) wN ?_
  refine sk (Eq.refl false) ?_
  refine sk (Eq.refl false) ?_
  refine sk (Eq.refl false) ?_
  refine sk (Eq.refl false) ?_
  refine pf (vb false) wN (Eq.refl false) ?_
  refine mv (vb false) wN ?_
  refine sk (Eq.refl false) ?_
  refine sk (Eq.refl false) ?_
  refine sk (Eq.refl false) ?_
  refine sk (Eq.refl false) ?_
  refine sk (Eq.refl false) ?_
  refine sk (Eq.refl false) ?_
  refine sk (Eq.refl false) ?_
  refine pf (vb false) wN (Eq.refl false) ?_
  refine mv (vb false) wN ?_
  refine sk (Eq.refl false) ?_
  refine sk (Eq.refl false) ?_
  refine sk (Eq.refl false) ?_
  refine sk (Eq.refl false) ?_
  refine sk (Eq.refl false) ?_
  refine pf (vb false) wN (Eq.refl false) ?_
  refine mv (vb false) wN ?_
  refine sk (Eq.refl false) ?_
  refine sk (Eq.refl false) ?_
  refine sk (Eq.refl false) ?_
  refine sk (Eq.refl false) ?_
  refine pf (vb false) wN (Eq.refl false) ?_
  refine mv (vb false) wN ?_
  refine sk (Eq.refl false) ?_
  refine sk (Eq.refl false) ?_
  refine sk (Eq.refl false) ?_
  refine sk (Eq.refl false) ?_
  refine sk (Eq.refl false) ?_
  refine pf (vb false) wN (Eq.refl false) ?_
  refine ag (vb false) wN ?_
  refine wl_nil <| wq_then <| wc_ret ?_
  refine ret_1 (.inl rfl) (vb false) rfl rfl ?_
  refine ⟨m189.keep0, ?_⟩
  have hF236 : F_spec_ClientOk x_c = false := by simp only [F_spec_ClientOk, h79, h84, h89, h94, h99, h104, h107, h137, h139, h165, h167, h171, h173, h186, h190, cond_true, cond_false]
  rw [hF236]
  exact rfl
 refine pu (vp g71 6) (wS h190) ?_
 refine pu (vp g71 6) (wS h190) ?_
 have b192 := (b106.kp k188)
 refine ld (vi x_c.Fin.Kind) (wS h190) isAgg_3 b192 ?_
 refine pu (vb (decide (x_c.Fin.Kind = 3))) (wS h190) ?_
 refine pk (vb (decide (x_c.Fin.Kind = 3))) wN h190 ?_
 refine mv (vb (decide (x_c.Fin.Kind = 3))) wN ?_
 rcases bf (decide (x_c.Fin.Kind = 3)) with h193 | h193
 ·have q233 := of_decide_eq_false h193
  refine sk h193 ?_
  refine sk h193 ?_
  refine sk h193 ?_
  refine sk h193 ?_
  refine sk h193 ?_
  refine sk h193 ?_
  refine pf (vb false) wN h193 ?_
  refine mv (vb false) wN ?_
  refine sk (Eq.refl false) ?_
  refine sk (Eq.refl false) ?_
  refine sk (Eq.refl false) ?_
  refine sk (Eq.refl false) ?_
  refine sk (Eq.refl false) ?_
  refine sk (Eq.refl false) ?_
  refine pf (vb false) wN (Eq.refl false) ?_
  refine mv (vb false) wN ?_
  refine sk (Eq.refl false) ?_
  refine sk (Eq.refl false) ?_
  refine sk (Eq.refl false) ?_
  refine pf (vb false) wN (Eq.refl false) ?_
  refine mv (vb false) wN ?_
  refine sk (Eq.refl false) ?_
  refine sk (Eq.refl false) ?_
  refine sk (Eq.refl false) ?_
  refine sk (Eq.refl false) ?_
  refine pf (vb false) wN (Eq.refl false) ?_
  refine mv (vb false) wN ?_
  refine sk (Eq.refl false) ?_
  refine sk (Eq.refl false) ?_
  refine sk (Eq.refl false) ?_
  refine sk (Eq.refl false) ?_
  refine sk (Eq.refl false) ?_
  refine sk (Eq.refl false) ?_
  refine sk (Eq.refl false) ?_
  refine pf (vb false) wN (Eq.refl false) ?_
  refine mv (vb false) wN ?_
  refine sk (Eq.refl false) ?_
  refine sk (Eq.refl false) ?_
  refine sk (Eq.refl false) ?_
  refine sk (Eq.refl false) ?_
  refine sk (Eq.refl false) ?_
  refine pf (vb false) wN (Eq.refl false) ?_
  refine mv (vb false) wN ?_
  refine sk (Eq.refl false) ?_
  refine sk (Eq.refl false) ?_
  refine sk (Eq.refl false) ?_
  refine sk (Eq.refl false) ?_
  refine pf (vb false) wN (Eq.refl false) ?_
  refine mv (vb false) wN ?_
  refine sk (Eq.refl false) ?_
  refine sk (Eq.refl false) ?_
  refine sk (Eq.refl false) ?_
  refine sk (Eq.refl false) ?_
  refine sk (Eq.refl false) ?_
  refine pf (vb false) wN (Eq.refl false) ?_
  refine ag (vb false) wN ?_
  refine wl_nil <| wq_then <| wc_ret ?_
  refine ret_1 (.inl rfl) (vb false) rfl rfl ?_
  refine ⟨m189.keep0, ?_⟩
  have hF234 : F_spec_ClientOk x_c = false := by simp only [F_spec_ClientOk, h79, h84, h89, h94, h99, h104, h107, h137, h139, h165, h167, h171, h173, h186, h190, h193, cond_true, cond_false]
  rw [hF234]
  exact rfl
 have q194 := of_decide_eq_true h193
 refine pu (vp g71 6) (wS h193) ?_
 refine pu (vp g71 7) (wS h193) ?_
 refine ld (vi x_c.Fin.Id) (wS h193) isAgg_3 b192 ?_
 refine pu (vp g71 0) (wS h193) ?_
 refine ld (vi x_c.Id) (wS h193) isAgg_3 b192 ?_
 refine pu (vb (decide (x_c.Fin.Id = x_c.Id))) (wS h193) ?_
 refine pk (vb (decide (x_c.Fin.Id = x_c.Id))) wN h193 ?_
 refine mv (vb (decide (x_c.Fin.Id = x_c.Id))) wN ?_
 rcases bf (decide (x_c.Fin.Id = x_c.Id)) with h195 | h195
 ·have q231 := of_decide_eq_false h195
  refine sk h195 ?_
  refine sk h195 ?_
  refine sk h195 ?_
  refine sk h195 ?_
  refine sk h195 ?_
  refine sk h195 ?_
  refine pf (vb false) wN h195 ?_
  refine mv (vb false) wN ?_
  refine sk (Eq.refl false) ?_
  refine sk (Eq.refl false) ?_
  refine sk (Eq.refl false) ?_
  refine pf (vb false) wN (Eq.refl false) ?_
  refine mv (vb false) wN ?_
  refine sk (Eq.refl false) ?_
  refine sk (Eq.refl false) ?_
  refine sk (Eq.refl false) ?_
  refine sk (Eq.refl false) ?_
  refine pf (vb false) wN (Eq.refl false) ?_
  refine mv (vb false) wN ?_
  refine sk (Eq.refl false) ?_
  refine sk (Eq.refl false) ?_
  refine sk (Eq.refl false) ?_
  refine sk (Eq.refl false) ?_
  refine sk (Eq.refl false) ?_
  refine sk (Eq.refl false) ?_
  refine sk (Eq.refl false) ?_
  refine pf (vb false) wN (Eq.refl false) ?_
  refine mv (vb false) wN ?_
  refine sk (Eq.refl false) ?_
  refine sk (Eq.refl false) ?_
  refine sk (Eq.refl false) ?_
  refine sk (Eq.refl false) ?_
  refine sk (Eq.refl false) ?_
  refine pf (vb false) wN (Eq.refl false) ?_
  refine mv (vb false) wN ?_
  refine sk (Eq.refl false) ?_
  refine sk (Eq.refl false) ?_
  refine sk (Eq.refl false) ?_
  refine sk (Eq.refl false) ?_
  refine pf (vb false) wN (Eq.refl false) ?_
  refine mv (vb false) wN ?_
  refine sk (Eq.refl false) ?_
  refine sk (Eq.refl false) ?_
  refine sk (Eq.refl false) ?_
  refine sk (Eq.refl false) ?_
  refine sk (Eq.refl false) ?_
  refine pf (vb false) wN (Eq.refl false) ?_
  refine ag (vb false) wN ?_
  refine wl_nil <| wq_then <| wc_ret ?_
  refine ret_1 (.inl rfl) (vb false) rfl rfl ?_
  refine ⟨m189.keep0, ?_⟩
  have hF232 : F_spec_ClientOk x_c = false := by simp only [F_spec_ClientOk, h79, h84, h89, h94, h99, h104, h107, h137, h139, h165, h167, h171, h173, h186, h190, h193, h195, cond_true, cond_false]
  rw [hF232]
  exact rfl
 have q196 := of_decide_eq_true h195
 refine pu (vp g71 6) (wS h195) ?_
 refine pu (vp g71 8) (wS h195) ?_
 refine ld (vs a11 x_c.Fin.Cn.length c12) (wS h195) isAgg_22 b192 ?_
 refine pu (vp g71 5) (wS h195) ?_
 refine ld (vs a6 x_c.Cn.length c7) (wS h195) isAgg_22 b192 ?_
 refine cl (wS h195) (C_spec_l1Same w8 _ x_c.Fin.Cn (mR_22 (r13.from0 m189) s14) _ x_c.Cn (mR_22 (r8.from0 m189) s9)) ?_
 rintro _ w9 ⟨k197, rfl⟩
 have m198 := m189.extk k197
 refine pk (vb (F_spec_l1Same x_c.Fin.Cn x_c.Cn)) wN h195 ?_
 refine mv (vb (F_spec_l1Same x_c.Fin.Cn x_c.Cn)) wN ?_
 rcases bf (F_spec_l1Same x_c.Fin.Cn x_c.Cn) with h199 | h199
 ·refine sk h199 ?_
  refine sk h199 ?_
  refine sk h199 ?_
  refine pf (vb false) wN h199 ?_
  refine mv (vb false) wN ?_
  refine sk (Eq.refl false) ?_
  refine sk (Eq.refl false) ?_
  refine sk (Eq.refl false) ?_
  refine sk (Eq.refl false) ?_
  refine pf (vb false) wN (Eq.refl false) ?_
  refine mv (vb false) wN ?_
  refine sk (Eq.refl false) ?_
  refine sk (Eq.refl false) ?_
  refine sk (Eq.refl false) ?_
  refine sk (Eq.refl false) ?_
  refine sk (Eq.refl false) ?_
  refine sk (Eq.refl false) ?_
  refine sk (Eq.refl false) ?_
  refine pf (vb false) wN (Eq.refl false) ?_
  refine mv (vb false) wN ?_
  refine sk (Eq.refl false) ?_
  refine sk (Eq.refl false) ?_
  refine sk (Eq.refl false) ?_
  refine sk (Eq.refl false) ?_
  refine sk (Eq.refl false) ?_
  refine pf (vb false) wN (Eq.refl false) ?_
  refine mv (vb false) wN ?_
  refine sk (Eq.refl false) ?_
  refine sk (Eq.refl false) ?_
  refine sk (Eq.refl false) ?_
  refine sk (Eq.refl false) ?_
  refine pf (vb false) wN (Eq.refl false) ?_
  refine mv (vb false) wN ?_
  refine sk (Eq.refl false) ?_
  refine sk (Eq.refl false) ?_
  refine sk (Eq.refl false) ?_
  refine sk (Eq.refl false) ?_
  refine sk (Eq.refl false) ?_
  refine pf (vb false) wN (Eq.refl false) ?_
  refine ag (vb false) wN ?_
  refine wl_nil <| wq_then <| wc_ret ?_
  refine ret_1 (.inl rfl) (vb false) rfl rfl ?_
  refine ⟨m198.keep0, ?_⟩
  have hF230 : F_spec_ClientOk x_c = false := by simp only [F_spec_ClientOk, h79, h84, h89, h94, h99, h104, h107, h137, h139, h165, h167, h171, h173, h186, h190, h193, h195, h199, cond_true, cond_false]
  rw [hF230]
  exact rfl
 refine pu (vp g71 17) (wS h199) ?_
 have b201 := (b192.kp k197)
 refine lN (L_94 x_c.C a41 c42 a46 c47 a51 c52 a56 c57 a61 c62 a66 c67) (wS h199) isAgg_94 sizeOf_94 b201 ?_
 refine cl (wS h199) (C_spec_ChanOk w9 _ x_c.C (mR_94 (r43.from0 m198) s44 (r48.from0 m198) s49 (r53.from0 m198) s54 (r58.from0 m198) s59 (r63.from0 m198) s64 (r68.from0 m198) s69)) ?_
 rintro _ w10 ⟨k202, rfl⟩
 have m203 := m198.extk k202
 refine pk (vb (F_spec_ChanOk x_c.C)) wN h199 ?_
 refine mv (vb (F_spec_ChanOk x_c.C)) wN ?_
 rcases bf (F_spec_ChanOk x_c.C) with h204 | h204
 ·refine sk h204 ?_
  refine sk h204 ?_
  refine sk h204 ?_
  refine sk h204 ?_
  refine pf (vb false) wN h204 ?_
  refine mv (vb false) wN ?_
  refine sk (Eq.refl false) ?_
  refine sk (Eq.refl false) ?_
  refine sk (Eq.refl false) ?_
  refine sk (Eq.refl false) ?_
  refine sk (Eq.refl false) ?_
  refine sk (Eq.refl false) ?_
  refine sk (Eq.refl false) ?_
  refine pf (vb false) wN (Eq.refl false) ?_
  refine mv (vb false) wN ?_
  refine sk (Eq.refl false) ?_
  refine sk (Eq.refl false) ?_
  refine sk (Eq.refl false) ?_
  refine sk (Eq.refl false) ?_
  refine sk (Eq.refl false) ?_
  refine pf (vb false) wN (Eq.refl false) ?_
  refine mv (vb false) wN ?_
  refine sk (Eq.refl false) ?_
  refine sk (Eq.refl false) ?_
  refine sk (Eq.refl false) ?_
  refine sk (Eq.refl false) ?_
  refine pf (vb false) wN (Eq.refl false) ?_
  refine mv (vb false) wN ?_
  refine sk (Eq.refl false) ?_
  refine sk (Eq.refl false) ?_
  refine sk (Eq.refl false) ?_
  refine sk (Eq.refl false) ?_
  refine sk (Eq.refl false) ?_
  refine pf (vb false) wN (Eq.refl false) ?_
  refine ag (vb false) wN ?_
  refine wl_nil <| wq_then <| wc_ret ?_
  refine ret_1 (.inl rfl) (vb false) rfl rfl ?_
  refine ⟨m203.keep0, ?_⟩
  have hF228 : F_spec_ClientOk x_c = false := by simp only [F_spec_ClientOk, h79, h84, h89, h94, h99, h104, h107, h137, h139, h165, h167, h171, h173, h186, h190, h193, h195, h199, h204, cond_true, cond_false]
  rw [hF228]
  exact rfl
 have q205 := spec_ChanOk_t h204
 refine pu (vp g71 17) (wS h204) ?_
 refine pu (vp g71 17) (wS h204) ?_
 have b206 := (b201.kp k202)
 refine ld (vi x_c.C.Role) (wS h204) isAgg_3 b206 ?_
 refine pu (vb (decide (x_c.C.Role = 0))) (wS h204) ?_
 refine pk (vb (decide (x_c.C.Role = 0))) wN h204 ?_
 refine mv (vb (decide (x_c.C.Role = 0))) wN ?_
 rcases bf (decide (x_c.C.Role = 0)) with h207 | h207
 ·have q225 := of_decide_eq_false h207
  refine sk h207 ?_
  refine sk h207 ?_
  refine sk h207 ?_
  refine sk h207 ?_
  refine sk h207 ?_
  refine sk h207 ?_
  refine sk h207 ?_
  refine pf (vb false) wN h207 ?_
  refine mv (vb false) wN ?_
  refine sk (Eq.refl false) ?_
  refine sk (Eq.refl false) ?_
  refine sk (Eq.refl false) ?_
  refine sk (Eq.refl false) ?_
  refine sk (Eq.refl false) ?_
  refine pf (vb false) wN (Eq.refl false) ?_
  refine mv (vb false) wN ?_
  refine sk (Eq.refl false) ?_
  refine sk (Eq.refl false) ?_
  refine sk (Eq.refl false) ?_
  refine sk (Eq.refl false) ?_
  refine pf (vb false) wN (Eq.refl false) ?_
  refine mv (vb false) wN ?_
  refine sk (Eq.refl false) ?_
  refine sk (Eq.refl false) ?_
  refine sk (Eq.refl false) ?_
  refine sk (Eq.refl false) ?_
  refine sk (Eq.refl false) ?_
  refine pf (vb false) wN (Eq.refl false) ?_
  refine ag (vb false) wN ?_
  refine wl_nil <| wq_then <| wc_ret ?_
  refine ret_1 (.inl rfl) (vb false) rfl rfl ?_
  refine ⟨m203.keep0, ?_⟩
  have hF226 : F_spec_ClientOk x_c = false := by simp only [F_spec_ClientOk, h79, h84, h89, h94, h99, h104, h107, h137, h139, h165, h167, h171, h173, h186, h190, h193, h195, h199, h204, h207, cond_true, cond_false]
  rw [hF226]
  exact rfl
 have q208 := of_decide_eq_true h207
 refine pu (vp g71 17) (wS h207) ?_
 refine pu (vp g71 18) (wS h207) ?_
 refine ld (vs a41 x_c.C.Sn.length c42) (wS h207) isAgg_22 b206 ?_
 refine pu (vp g71 6) (wS h207) ?_
 refine pu (vp g71 9) (wS h207) ?_
 refine ld (vs a16 x_c.Fin.Sn.length c17) (wS h207) isAgg_22 b206 ?_
 refine cl (wS h207) (C_spec_l1Same w10 _ x_c.C.Sn (mR_22 (r43.from0 m203) s44) _ x_c.Fin.Sn (mR_22 (r18.from0 m203) s19)) ?_
 rintro _ w11 ⟨k209, rfl⟩
 have m210 := m203.extk k209
 refine pk (vb (F_spec_l1Same x_c.C.Sn x_c.Fin.Sn)) wN h207 ?_
 refine mv (vb (F_spec_l1Same x_c.C.Sn x_c.Fin.Sn)) wN ?_
 rcases bf (F_spec_l1Same x_c.C.Sn x_c.Fin.Sn) with h211 | h211
 ·refine sk h211 ?_
  refine sk h211 ?_
  refine sk h211 ?_
  refine sk h211 ?_
  refine sk h211 ?_
  refine pf (vb false) wN h211 ?_
  refine mv (vb false) wN ?_
  refine sk (Eq.refl false) ?_
  refine sk (Eq.refl false) ?_
  refine sk (Eq.refl false) ?_
  refine sk (Eq.refl false) ?_
  refine pf (vb false) wN (Eq.refl false) ?_
  refine mv (vb false) wN ?_
  refine sk (Eq.refl false) ?_
  refine sk (Eq.refl false) ?_
  refine sk (Eq.refl false) ?_
  refine sk (Eq.refl false) ?_
  refine sk (Eq.refl false) ?_
  refine pf (vb false) wN (Eq.refl false) ?_
  refine ag (vb false) wN ?_
  refine wl_nil <| wq_then <| wc_ret ?_
  refine ret_1 (.inl rfl) (vb false) rfl rfl ?_
  refine ⟨m210.keep0, ?_⟩
  have hF224 : F_spec_ClientOk x_c = false := by simp only [F_spec_ClientOk, h79, h84, h89, h94, h99, h104, h107, h137, h139, h165, h167, h171, h173, h186, h190, h193, h195, h199, h204, h207, h211, cond_true, cond_false]
  rw [hF224]
  exact rfl
 refine pu (vp g71 17) (wS h211) ?_
 refine pu (vp g71 19) (wS h211) ?_
 refine pu (vp g71 19) (wS h211) ?_
 have b213 := (b206.kp k209)
 refine ld (vi x_c.C.Cur.N) (wS h211) isAgg_3 b213 ?_
 refine pu (vb (decide (x_c.C.Cur.N = 0))) (wS h211) ?_
 refine pk (vb (decide (x_c.C.Cur.N = 0))) wN h211 ?_
 refine mv (vb (decide (x_c.C.Cur.N = 0))) wN ?_
 rcases bf (decide (x_c.C.Cur.N = 0)) with h214 | h214
 ·have q221 := of_decide_eq_false h214
  refine sk h214 ?_
  refine sk h214 ?_
  refine sk h214 ?_
  refine sk h214 ?_
  refine pf (vb false) wN h214 ?_
  refine mv (vb false) wN ?_
  refine sk (Eq.refl false) ?_
  refine sk (Eq.refl false) ?_
  refine sk (Eq.refl false) ?_
  refine sk (Eq.refl false) ?_
  refine sk (Eq.refl false) ?_
  refine pf (vb false) wN (Eq.refl false) ?_
  refine ag (vb false) wN ?_
  refine wl_nil <| wq_then <| wc_ret ?_
  refine ret_1 (.inl rfl) (vb false) rfl rfl ?_
  refine ⟨m210.keep0, ?_⟩
  have hF222 : F_spec_ClientOk x_c = false := by simp only [F_spec_ClientOk, h79, h84, h89, h94, h99, h104, h107, h137, h139, h165, h167, h171, h173, h186, h190, h193, h195, h199, h204, h207, h211, h214, cond_true, cond_false]
  rw [hF222]
  exact rfl
 have q215 := of_decide_eq_true h214
 refine pu (vp g71 17) (wS h214) ?_
 refine pu (vp g71 29) (wS h214) ?_
 refine ld (vb x_c.C.HasOld) (wS h214) isAgg_4 b213 ?_
 refine pu (vb (!x_c.C.HasOld)) (wS h214) ?_
 refine pk (vb (!x_c.C.HasOld)) wN h214 ?_
 refine mv (vb (!x_c.C.HasOld)) wN ?_
 rcases bt x_c.C.HasOld with h216 | h216
 ·refine sk (congrArg not h216) ?_
  refine sk (congrArg not h216) ?_
  refine sk (congrArg not h216) ?_
  refine sk (congrArg not h216) ?_
  refine sk (congrArg not h216) ?_
  refine pf (vb false) wN (congrArg not h216) ?_
  refine ag (vb false) wN ?_
  refine wl_nil <| wq_then <| wc_ret ?_
  refine ret_1 (.inl rfl) (vb false) rfl rfl ?_
  refine ⟨m210.keep0, ?_⟩
  have hF218 : F_spec_ClientOk x_c = false := by simp only [F_spec_ClientOk, h79, h84, h89, h94, h99, h104, h107, h137, h139, h165, h167, h171, h173, h186, h190, h193, h195, h199, h204, h207, h211, h214, h216, cond_true, cond_false]
  rw [hF218]
  exact rfl
 refine pu (vp g71 17) (wS (congrArg not h216)) ?_
 refine pu (vp g71 31) (wS (congrArg not h216)) ?_
 refine ld (vs a66 x_c.C.Next.length c67) (wS (congrArg not h216)) isAgg_22 b213 ?_
 refine ln (wS (congrArg not h216)) slTy_22 (r68.from0 m210) ?_
 refine pu (vb (decide ((x_c.C.Next.length : Int) = 0))) (wS (congrArg not h216)) ?_
 refine pk (vb (decide ((x_c.C.Next.length : Int) = 0))) wN (congrArg not h216) ?_
 refine ag (vb (decide ((x_c.C.Next.length : Int) = 0))) wN ?_
 refine wl_nil <| wq_then <| wc_ret ?_
 refine ret_1 (.inl rfl) (vb (decide ((x_c.C.Next.length : Int) = 0))) rfl rfl ?_
 refine ⟨m210.keep0, ?_⟩
 have hF220 : F_spec_ClientOk x_c = decide ((x_c.C.Next.length : Int) = 0) := by simp only [F_spec_ClientOk, h79, h84, h89, h94, h99, h104, h107, h137, h139, h165, h167, h171, h173, h186, h190, h193, h195, h199, h204, h207, h211, h214, h216, cond_true, cond_false]
 rw [hF220]
 exact rfl

def F_impl_within (x_n : Int) (x_low : Int) (x_high : Int) : (Bool) := bif (decide (x_low ≤ x_n)) then (decide (x_n ≤ x_high)) else (false)
theorem C_impl_within (w0 : World) (x_n : Int) (x_low : Int) (x_high : Int)  : Fn Try.prog 82 #[(vi x_n), (vi x_low), (vi x_high)] w0 (fun v w' => Keep w0 w' ∧ O_4 w' w0.heap.size v (F_impl_within x_n x_low x_high)) := by
 refine fn_of (n := 15) (l := [(vi x_n), (vi x_low), (vi x_high), U, U, U, U, U, U, U, U, U, U, U, U]) Try.func82 rfl rfl (by kernel_rfl) rfl ?_
 refine sr ?_
 refine ag (vb false) wN ?_
 refine nx ?_
 refine mv (vi x_n) wN ?_
 refine mv (vi x_low) wN ?_
 refine pu (vb (decide (x_low ≤ x_n))) wN ?_
 refine mv (vb (decide (x_low ≤ x_n))) wN ?_
 rcases bf (decide (x_low ≤ x_n)) with h1 | h1
 ·have q4 := of_decide_eq_false h1
  refine sk h1 ?_
  refine sk h1 ?_
  refine sk h1 ?_
  refine pf (vb false) wN h1 ?_
  refine ag (vb false) wN ?_
  refine wl_nil <| wq_then <| wc_ret ?_
  refine ret_1 (.inl rfl) (vb false) rfl rfl ?_
  refine ⟨Ch.refl _ _, ?_⟩
  have hF5 : F_impl_within x_n x_low x_high = false := by simp only [F_impl_within, h1, cond_true, cond_false]
  rw [hF5]
  exact rfl
 have q2 := of_decide_eq_true h1
 refine mv (vi x_n) (wS h1) ?_
 refine mv (vi x_high) (wS h1) ?_
 refine pu (vb (decide (x_n ≤ x_high))) (wS h1) ?_
 refine pk (vb (decide (x_n ≤ x_high))) wN h1 ?_
 refine ag (vb (decide (x_n ≤ x_high))) wN ?_
 refine wl_nil <| wq_then <| wc_ret ?_
 refine ret_1 (.inl rfl) (vb (decide (x_n ≤ x_high))) rfl rfl ?_
 refine ⟨Ch.refl _ _, ?_⟩
 have hF3 : F_impl_within x_n x_low x_high = decide (x_n ≤ x_high) := by simp only [F_impl_within, h1, cond_true, cond_false]
 rw [hF3]
 exact rfl
theorem impl_within_t {n a b : Int} (h : F_impl_within n a b = true) : a ≤ n ∧ n ≤ b := by
  unfold F_impl_within at h
  by_cases h1 : a ≤ n <;> simp [h1] at h
  exact ⟨h1, h⟩
theorem impl_within_f {n a b : Int} (h : F_impl_within n a b = false) : n < a ∨ b < n := by
  unfold F_impl_within at h
  by_cases h1 : a ≤ n <;> simp [h1] at h <;> omega

def F_impl_PskOk (x_psk : List UInt8) : (Bool) := (F_impl_within (x_psk.length : Int) 1 32)
theorem C_impl_PskOk (w0 : World) (v_x_psk : Value) (x_psk : List UInt8) (r_x_psk : R_22 w0 v_x_psk x_psk)  : Fn Try.prog 136 #[v_x_psk] w0 (fun v w' => Keep w0 w' ∧ O_4 w' w0.heap.size v (F_impl_PskOk x_psk)) := by
 obtain ⟨a1, c2, rfl, r3, s4⟩ := r_x_psk
 refine fn_of (n := 6) (l := [(vs a1 x_psk.length c2), U, U, U, U, U]) Try.func136 rfl rfl (by kernel_rfl) rfl ?_
 refine sr ?_
 refine ag (vb false) wN ?_
 refine nx ?_
 refine mv (vs a1 x_psk.length c2) wN ?_
 refine ln wN slTy_22 r3 ?_
 refine cl wN (C_impl_within w0 (x_psk.length : Int) 1 32) ?_
 rintro _ w1 ⟨k6, rfl⟩
 have m7 := (Ch.base w0).extk k6
 refine ag (vb (F_impl_within (x_psk.length : Int) 1 32)) wN ?_
 refine wl_nil <| wq_then <| wc_ret ?_
 refine ret_1 (.inl rfl) (vb (F_impl_within (x_psk.length : Int) 1 32)) rfl rfl ?_
 refine ⟨m7.keep0, ?_⟩
 have hF8 : F_impl_PskOk x_psk = (F_impl_within (x_psk.length : Int) 1 32) := by rfl
 rw [hF8]
 exact rfl

def F_impl_AddrOk (x_a : PAddr) : (Bool) := bif (F_impl_within x_a.Host 0 4294967295) then ((F_impl_within x_a.Port 0 65535)) else (false)
theorem C_impl_AddrOk (w0 : World) (v_x_a : Value) (x_a : PAddr) (r_x_a : R_26 w0 v_x_a x_a)  : Fn Try.prog 81 #[v_x_a] w0 (fun v w' => Keep w0 w' ∧ O_4 w' w0.heap.size v (F_impl_AddrOk x_a)) := by
 obtain rfl := r_x_a
 refine fn_of (n := 11) (l := [(va (L_26 x_a)), U, U, U, U, U, U, U, U, U, U]) Try.func81 rfl rfl (by kernel_rfl) rfl ?_
 refine sr ?_
 refine bx (L_26 x_a) wN ?_
 intro g1 w1 p2 p3 k4 b5
 have m6 := (Ch.base w0).extk k4
 refine ag (vb false) wN ?_
 refine nx ?_
 refine pu (vp g1 0) wN ?_
 refine ld (vi x_a.Host) wN isAgg_3 b5 ?_
 refine cl wN (C_impl_within w1 x_a.Host 0 4294967295) ?_
 rintro _ w2 ⟨k7, rfl⟩
 have m8 := m6.extk k7
 refine mv (vb (F_impl_within x_a.Host 0 4294967295)) wN ?_
 rcases bf (F_impl_within x_a.Host 0 4294967295) with h9 | h9
 ·have q15 := impl_within_f h9
  refine sk h9 ?_
  refine sk h9 ?_
  refine sk h9 ?_
  refine pf (vb false) wN h9 ?_
  refine ag (vb false) wN ?_
  refine wl_nil <| wq_then <| wc_ret ?_
  refine ret_1 (.inl rfl) (vb false) rfl rfl ?_
  refine ⟨m8.keep0, ?_⟩
  have hF16 : F_impl_AddrOk x_a = false := by simp only [F_impl_AddrOk, h9, cond_true, cond_false]
  rw [hF16]
  exact rfl
 have q10 := impl_within_t h9
 refine pu (vp g1 1) (wS h9) ?_
 have b11 := (b5.kp k7)
 refine ld (vi x_a.Port) (wS h9) isAgg_3 b11 ?_
 refine cl (wS h9) (C_impl_within w2 x_a.Port 0 65535) ?_
 rintro _ w3 ⟨k12, rfl⟩
 have m13 := m8.extk k12
 refine pk (vb (F_impl_within x_a.Port 0 65535)) wN h9 ?_
 refine ag (vb (F_impl_within x_a.Port 0 65535)) wN ?_
 refine wl_nil <| wq_then <| wc_ret ?_
 refine ret_1 (.inl rfl) (vb (F_impl_within x_a.Port 0 65535)) rfl rfl ?_
 refine ⟨m13.keep0, ?_⟩
 have hF14 : F_impl_AddrOk x_a = (F_impl_within x_a.Port 0 65535) := by simp only [F_impl_AddrOk, h9, cond_true, cond_false]
 rw [hF14]
 exact rfl

def F_bytes_Equal (x_a : List UInt8) (x_b : List UInt8) : (Bool) := (eqS (ByteArray.mk x_a.toArray) (ByteArray.mk x_b.toArray))
theorem C_bytes_Equal (w0 : World) (v_x_a : Value) (x_a : List UInt8) (r_x_a : R_22 w0 v_x_a x_a) (v_x_b : Value) (x_b : List UInt8) (r_x_b : R_22 w0 v_x_b x_b)  : Fn Try.prog 93 #[v_x_a, v_x_b] w0 (fun v w' => Keep w0 w' ∧ O_4 w' w0.heap.size v (F_bytes_Equal x_a x_b)) := by
 obtain ⟨a1, c2, rfl, r3, s4⟩ := r_x_a
 obtain ⟨a6, c7, rfl, r8, s9⟩ := r_x_b
 refine fn_of (n := 10) (l := [(vs a1 x_a.length c2), (vs a6 x_b.length c7), U, U, U, U, U, U, U, U]) Try.func93 rfl rfl (by kernel_rfl) rfl ?_
 refine sr ?_
 refine ag (vb false) wN ?_
 refine nx ?_
 refine mv (vs a1 x_a.length c2) wN ?_
 refine wl_b2s x_a wN rfl rfl rfl rfl Try.underlying22 Try.underlying5 Try.underlying9 r3 ?_
 refine mv (vs a6 x_b.length c7) wN ?_
 refine wl_b2s x_b wN rfl rfl rfl rfl Try.underlying22 Try.underlying5 Try.underlying9 r8 ?_
 refine pu (vb (eqS (ByteArray.mk x_a.toArray) (ByteArray.mk x_b.toArray))) wN ?_
 refine ag (vb (eqS (ByteArray.mk x_a.toArray) (ByteArray.mk x_b.toArray))) wN ?_
 refine wl_nil <| wq_then <| wc_ret ?_
 refine ret_1 (.inl rfl) (vb (eqS (ByteArray.mk x_a.toArray) (ByteArray.mk x_b.toArray))) rfl rfl ?_
 refine ⟨Ch.refl _ _, ?_⟩
 have hF11 : F_bytes_Equal x_a x_b = (eqS (ByteArray.mk x_a.toArray) (ByteArray.mk x_b.toArray)) := by rfl
 rw [hF11]
 exact rfl

def F_impl_sameFrame (x_f : PFrame) (x_g : PFrame) : (Bool) := bif (decide (x_f.Kind = x_g.Kind)) then (bif (decide (x_f.Id = x_g.Id)) then (bif (decide (x_f.Tick = x_g.Tick)) then (bif (decide (x_f.Epoch = x_g.Epoch)) then (bif (decide (x_f.Seq = x_g.Seq)) then (bif (F_bytes_Equal x_f.Cn x_g.Cn) then (bif (F_bytes_Equal x_f.Sn x_g.Sn) then (bif (F_bytes_Equal x_f.Cookie x_g.Cookie) then (bif (F_bytes_Equal x_f.Proof x_g.Proof) then (bif (F_bytes_Equal x_f.Body x_g.Body) then ((F_bytes_Equal x_f.Tag x_g.Tag)) else (false)) else (false)) else (false)) else (false)) else (false)) else (false)) else (false)) else (false)) else (false)) else (false)
theorem C_impl_sameFrame (w0 : World) (v_x_f : Value) (x_f : PFrame) (r_x_f : R_87 w0 v_x_f x_f) (v_x_g : Value) (x_g : PFrame) (r_x_g : R_87 w0 v_x_g x_g)  : Fn Try.prog 137 #[v_x_f, v_x_g] w0 (fun v w' => Keep w0 w' ∧ O_4 w' w0.heap.size v (F_impl_sameFrame x_f x_g)) := by
 obtain ⟨a1, c2, a6, c7, a11, c12, a16, c17, a21, c22, a26, c27, rfl, r3, s4, r8, s9, r13, s14, r18, s19, r23, s24, r28, s29⟩ := r_x_f
 obtain ⟨a31, c32, a36, c37, a41, c42, a46, c47, a51, c52, a56, c57, rfl, r33, s34, r38, s39, r43, s44, r48, s49, r53, s54, r58, s59⟩ := r_x_g
 refine fn_of (n := 80) (l := [(va (L_87 x_f a1 c2 a6 c7 a11 c12 a16 c17 a21 c22 a26 c27)), (va (L_87 x_g a31 c32 a36 c37 a41 c42 a46 c47 a51 c52 a56 c57)), U, U, U, U, U, U, U, U, U, U, U, U, U, U, U, U, U, U, U, U, U, U, U, U, U, U, U, U, U, U, U, U, U, U, U, U, U, U, U, U, U, U, U, U, U, U, U, U, U, U, U, U, U, U, U, U, U, U, U, U, U, U, U, U, U, U, U, U, U, U, U, U, U, U, U, U, U, U]) Try.func137 rfl rfl (by kernel_rfl) rfl ?_
 refine sr ?_
 refine bx (L_87 x_f a1 c2 a6 c7 a11 c12 a16 c17 a21 c22 a26 c27) wN ?_
 intro g61 w1 p62 p63 k64 b65
 have m66 := (Ch.base w0).extk k64
 refine bx (L_87 x_g a31 c32 a36 c37 a41 c42 a46 c47 a51 c52 a56 c57) wN ?_
 intro g67 w2 p68 p69 k70 b71
 have m72 := m66.extk k70
 refine ag (vb false) wN ?_
 refine nx ?_
 refine pu (vp g61 0) wN ?_
 have b73 := (b65.kp k70)
 refine ld (vi x_f.Kind) wN isAgg_3 b73 ?_
 refine pu (vp g67 0) wN ?_
 refine ld (vi x_g.Kind) wN isAgg_3 b71 ?_
 refine pu (vb (decide (x_f.Kind = x_g.Kind))) wN ?_
 refine mv (vb (decide (x_f.Kind = x_g.Kind))) wN ?_
 rcases bf (decide (x_f.Kind = x_g.Kind)) with h74 | h74
 ·have q135 := of_decide_eq_false h74
  refine sk h74 ?_
  refine sk h74 ?_
  refine sk h74 ?_
  refine sk h74 ?_
  refine sk h74 ?_
  refine pf (vb false) wN h74 ?_
  refine mv (vb false) wN ?_
  refine sk (Eq.refl false) ?_
  refine sk (Eq.refl false) ?_
  refine sk (Eq.refl false) ?_
  refine sk (Eq.refl false) ?_
  refine sk (Eq.refl false) ?_
  refine pf (vb false) wN (Eq.refl false) ?_
  refine mv (vb false) wN ?_
  refine sk (Eq.refl false) ?_
  refine sk (Eq.refl false) ?_
  refine sk (Eq.refl false) ?_
  refine sk (Eq.refl false) ?_
  refine sk (Eq.refl false) ?_
  refine pf (vb false) wN (Eq.refl false) ?_
  refine mv (vb false) wN ?_
  refine sk (Eq.refl false) ?_
  refine sk (Eq.refl false) ?_
  refine sk (Eq.refl false) ?_
  refine sk (Eq.refl false) ?_
  refine sk (Eq.refl false) ?_
  refine pf (vb false) wN (Eq.refl false) ?_
  refine mv (vb false) wN ?_
  refine sk (Eq.refl false) ?_
  refine sk (Eq.refl false) ?_
  refine sk (Eq.refl false) ?_
  refine sk (Eq.refl false) ?_
  refine sk (Eq.refl false) ?_
  refine pf (vb false) wN (Eq.refl false) ?_
  refine mv (vb false) wN ?_
  refine sk (Eq.refl false) ?_
  refine sk (Eq.refl false) ?_
  refine sk (Eq.refl false) ?_
  refine sk (Eq.refl false) ?_
  refine sk (Eq.refl false) ?_
  refine pf (vb false) wN (Eq.refl false) ?_
  refine mv (vb false) wN ?_
  refine sk (Eq.refl false) ?_
  refine sk (Eq.refl false) ?_
  refine sk (Eq.refl false) ?_
  refine sk (Eq.refl false) ?_
  refine sk (Eq.refl false) ?_
  refine pf (vb false) wN (Eq.refl false) ?_
  refine mv (vb false) wN ?_
  refine sk (Eq.refl false) ?_
  refine sk (Eq.refl false) ?_
  refine sk (Eq.refl false) ?_
  refine sk (Eq.refl false) ?_
  refine sk (Eq.refl false) ?_
  refine pf (vb false) wN (Eq.refl false) ?_
  refine mv (vb false) wN ?_
  refine sk (Eq.refl false) ?_
  refine sk (Eq.refl false) ?_
  refine sk (Eq.refl false) ?_
  refine sk (Eq.refl false) ?_
  refine sk (Eq.refl false) ?_
  refine pf (vb false) wN (Eq.refl false) ?_
  refine mv (vb false) wN ?_
  refine sk (Eq.refl false) ?_
  refine sk (Eq.refl false) ?_
  refine sk (Eq.refl false) ?_
  refine sk (Eq.refl false) ?_
  refine sk (Eq.refl false) ?_
  refine pf (vb false) wN (Eq.refl false) ?_
  refine ag (vb false) wN ?_
  refine wl_nil <| wq_then <| wc_ret ?_
  refine ret_1 (.inl rfl) (vb false) rfl rfl ?_
  refine ⟨m72.keep0, ?_⟩
  have hF136 : F_impl_sameFrame x_f x_g = false := by simp only [F_impl_sameFrame, h74, cond_true, cond_false]
  rw [hF136]
  exact rfl
 have q75 := of_decide_eq_true h74
 refine pu (vp g61 1) (wS h74) ?_
 refine ld (vi x_f.Id) (wS h74) isAgg_3 b73 ?_
 refine pu (vp g67 1) (wS h74) ?_
 refine ld (vi x_g.Id) (wS h74) isAgg_3 b71 ?_
 refine pu (vb (decide (x_f.Id = x_g.Id))) (wS h74) ?_
 refine pk (vb (decide (x_f.Id = x_g.Id))) wN h74 ?_
 refine mv (vb (decide (x_f.Id = x_g.Id))) wN ?_
 rcases bf (decide (x_f.Id = x_g.Id)) with h76 | h76
 ·have q133 := of_decide_eq_false h76
  refine sk h76 ?_
  refine sk h76 ?_
  refine sk h76 ?_
  refine sk h76 ?_
  refine sk h76 ?_
  refine pf (vb false) wN h76 ?_
  refine mv (vb false) wN ?_
  refine sk (Eq.refl false) ?_
  refine sk (Eq.refl false) ?_
  refine sk (Eq.refl false) ?_
  refine sk (Eq.refl false) ?_
  refine sk (Eq.refl false) ?_
  refine pf (vb false) wN (Eq.refl false) ?_
  refine mv (vb false) wN ?_
  refine sk (Eq.refl false) ?_
  refine sk (Eq.refl false) ?_
  refine sk (Eq.refl false) ?_
  refine sk (Eq.refl false) ?_
  refine sk (Eq.refl false) ?_
  refine pf (vb false) wN (Eq.refl false) ?_
  refine mv (vb false) wN ?_
  refine sk (Eq.refl false) ?_
  refine sk (Eq.refl false) ?_
  refine sk (Eq.refl false) ?_
  refine sk (Eq.refl false) ?_
  refine sk (Eq.refl false) ?_
  refine pf (vb false) wN (Eq.refl false) ?_
  refine mv (vb false) wN ?_
  refine sk (Eq.refl false) ?_
  refine sk (Eq.refl false) ?_
  refine sk (Eq.refl false) ?_
  refine sk (Eq.refl false) ?_
  refine sk (Eq.refl false) ?_
  refine pf (vb false) wN (Eq.refl false) ?_
  refine mv (vb false) wN ?_
  refine sk (Eq.refl false) ?_
  refine sk (Eq.refl false) ?_
  refine sk (Eq.refl false) ?_
  refine sk (Eq.refl false) ?_
  refine sk (Eq.refl false) ?_
  refine pf (vb false) wN (Eq.refl false) ?_
  refine mv (vb false) wN ?_
  refine sk (Eq.refl false) ?_
  refine sk (Eq.refl false) ?_
  refine sk (Eq.refl false) ?_
  refine sk (Eq.refl false) ?_
  refine sk (Eq.refl false) ?_
  refine pf (vb false) wN (Eq.refl false) ?_
  refine mv (vb false) wN ?_
  refine sk (Eq.refl false) ?_
  refine sk (Eq.refl false) ?_
  refine sk (Eq.refl false) ?_
  refine sk (Eq.refl false) ?_
  refine sk (Eq.refl false) ?_
  refine pf (vb false) wN (Eq.refl false) ?_
  refine mv (vb false) wN ?_
  refine sk (Eq.refl false) ?_
  refine sk (Eq.refl false) ?_
  refine sk (Eq.refl false) ?_
  refine sk (Eq.refl false) ?_
  refine sk (Eq.refl false) ?_
  refine pf (vb false) wN (Eq.refl false) ?_
  refine ag (vb false) wN ?_
  refine wl_nil <| wq_then <| wc_ret ?_
  refine ret_1 (.inl rfl) (vb false) rfl rfl ?_
  refine ⟨m72.keep0, ?_⟩
  have hF134 : F_impl_sameFrame x_f x_g = false := by simp only [F_impl_sameFrame, h74, h76, cond_true, cond_false]
  rw [hF134]
  exact rfl
 have q77 := of_decide_eq_true h76
 refine pu (vp g61 4) (wS h76) ?_
 refine ld (vi x_f.Tick) (wS h76) isAgg_3 b73 ?_
 refine pu (vp g67 4) (wS h76) ?_
 refine ld (vi x_g.Tick) (wS h76) isAgg_3 b71 ?_
 refine pu (vb (decide (x_f.Tick = x_g.Tick))) (wS h76) ?_
 refine pk (vb (decide (x_f.Tick = x_g.Tick))) wN h76 ?_
 refine mv (vb (decide (x_f.Tick = x_g.Tick))) wN ?_
 rcases bf (decide (x_f.Tick = x_g.Tick)) with h78 | h78
 ·have q131 := of_decide_eq_false h78
  refine sk h78 ?_
  refine sk h78 ?_
  refine sk h78 ?_
  refine sk h78 ?_
  refine sk h78 ?_
  refine pf (vb false) wN h78 ?_
  refine mv (vb false) wN ?_
  refine sk (Eq.refl false) ?_
  refine sk (Eq.refl false) ?_
  refine sk (Eq.refl false) ?_
  refine sk (Eq.refl false) ?_
  refine sk (Eq.refl false) ?_
  refine pf (vb false) wN (Eq.refl false) ?_
  refine mv (vb false) wN ?_
  refine sk (Eq.refl false) ?_
  refine sk (Eq.refl false) ?_
  refine sk (Eq.refl false) ?_
  refine sk (Eq.refl false) ?_
  refine sk (Eq.refl false) ?_
  refine pf (vb false) wN (Eq.refl false) ?_
  refine mv (vb false) wN ?_
  refine sk (Eq.refl false) ?_
  refine sk (Eq.refl false) ?_
  refine sk (Eq.refl false) ?_
  refine sk (Eq.refl false) ?_
  refine sk (Eq.refl false) ?_
  refine pf (vb false) wN (Eq.refl false) ?_
  refine mv (vb false) wN ?_
  refine sk (Eq.refl false) ?_
  refine sk (Eq.refl false) ?_
  refine sk (Eq.refl false) ?_
  refine sk (Eq.refl false) ?_
  refine sk (Eq.refl false) ?_
  refine pf (vb false) wN (Eq.refl false) ?_
  refine mv (vb false) wN ?_
  refine sk (Eq.refl false) ?_
  refine sk (Eq.refl false) ?_
  refine sk (Eq.refl false) ?_
  refine sk (Eq.refl false) ?_
  refine sk (Eq.refl false) ?_
  refine pf (vb false) wN (Eq.refl false) ?_
  refine mv (vb false) wN ?_
  refine sk (Eq.refl false) ?_
  refine sk (Eq.refl false) ?_
  refine sk (Eq.refl false) ?_
  refine sk (Eq.refl false) ?_
  refine sk (Eq.refl false) ?_
  refine pf (vb false) wN (Eq.refl false) ?_
  refine mv (vb false) wN ?_
  refine sk (Eq.refl false) ?_
  refine sk (Eq.refl false) ?_
  refine sk (Eq.refl false) ?_
  refine sk (Eq.refl false) ?_
  refine sk (Eq.refl false) ?_
  refine pf (vb false) wN (Eq.refl false) ?_
  refine ag (vb false) wN ?_
  refine wl_nil <| wq_then <| wc_ret ?_
  refine ret_1 (.inl rfl) (vb false) rfl rfl ?_
  refine ⟨m72.keep0, ?_⟩
  have hF132 : F_impl_sameFrame x_f x_g = false := by simp only [F_impl_sameFrame, h74, h76, h78, cond_true, cond_false]
  rw [hF132]
  exact rfl
 have q79 := of_decide_eq_true h78
 refine pu (vp g61 7) (wS h78) ?_
 refine ld (vi x_f.Epoch) (wS h78) isAgg_3 b73 ?_
 refine pu (vp g67 7) (wS h78) ?_
 refine ld (vi x_g.Epoch) (wS h78) isAgg_3 b71 ?_
 refine pu (vb (decide (x_f.Epoch = x_g.Epoch))) (wS h78) ?_
 refine pk (vb (decide (x_f.Epoch = x_g.Epoch))) wN h78 ?_
 refine mv (vb (decide (x_f.Epoch = x_g.Epoch))) wN ?_
 rcases bf (decide (x_f.Epoch = x_g.Epoch)) with h80 | h80
 ·have q129 := of_decide_eq_false h80
  refine sk h80 ?_
  refine sk h80 ?_
  refine sk h80 ?_
  refine sk h80 ?_
  refine sk h80 ?_
  refine pf (vb false) wN h80 ?_
  refine mv (vb false) wN ?_
  refine sk (Eq.refl false) ?_
  refine sk (Eq.refl false) ?_
  refine sk (Eq.refl false) ?_
  refine sk (Eq.refl false) ?_
  refine sk (Eq.refl false) ?_
  refine pf (vb false) wN (Eq.refl false) ?_
  refine mv (vb false) wN ?_
  refine sk (Eq.refl false) ?_
  refine sk (Eq.refl false) ?_
  refine sk (Eq.refl false) ?_
  refine sk (Eq.refl false) ?_
  refine sk (Eq.refl false) ?_
  refine pf (vb false) wN (Eq.refl false) ?_
  refine mv (vb false) wN ?_
  refine sk (Eq.refl false) ?_
  refine sk (Eq.refl false) ?_
  refine sk (Eq.refl false) ?_
  refine sk (Eq.refl false) ?_
  refine sk (Eq.refl false) ?_
  refine pf (vb false) wN (Eq.refl false) ?_
  refine mv (vb false) wN ?_
  refine sk (Eq.refl false) ?_
  refine sk (Eq.refl false) ?_
  refine sk (Eq.refl false) ?_
  refine sk (Eq.refl false) ?_
  refine sk (Eq.refl false) ?_
  refine pf (vb false) wN (Eq.refl false) ?_
  refine mv (vb false) wN ?_
  refine sk (Eq.refl false) ?_
  refine sk (Eq.refl false) ?_
  refine sk (Eq.refl false) ?_
  refine sk (Eq.refl false) ?_
  refine sk (Eq.refl false) ?_
  refine pf (vb false) wN (Eq.refl false) ?_
  refine mv (vb false) wN ?_
  refine sk (Eq.refl false) ?_
  refine sk (Eq.refl false) ?_
  refine sk (Eq.refl false) ?_
  refine sk (Eq.refl false) ?_
  refine sk (Eq.refl false) ?_
  refine pf (vb false) wN (Eq.refl false) ?_
  refine ag (vb false) wN ?_
  refine wl_nil <| wq_then <| wc_ret ?_
  refine ret_1 (.inl rfl) (vb false) rfl rfl ?_
  refine ⟨m72.keep0, ?_⟩
  have hF130 : F_impl_sameFrame x_f x_g = false := by simp only [F_impl_sameFrame, h74, h76, h78, h80, cond_true, cond_false]
  rw [hF130]
  exact rfl
 have q81 := of_decide_eq_true h80
 refine pu (vp g61 8) (wS h80) ?_
 refine ld (vi x_f.Seq) (wS h80) isAgg_3 b73 ?_
 refine pu (vp g67 8) (wS h80) ?_
 refine ld (vi x_g.Seq) (wS h80) isAgg_3 b71 ?_
 refine pu (vb (decide (x_f.Seq = x_g.Seq))) (wS h80) ?_
 refine pk (vb (decide (x_f.Seq = x_g.Seq))) wN h80 ?_
 refine mv (vb (decide (x_f.Seq = x_g.Seq))) wN ?_
 rcases bf (decide (x_f.Seq = x_g.Seq)) with h82 | h82
 ·have q127 := of_decide_eq_false h82
  refine sk h82 ?_
  refine sk h82 ?_
  refine sk h82 ?_
  refine sk h82 ?_
  refine sk h82 ?_
  refine pf (vb false) wN h82 ?_
  refine mv (vb false) wN ?_
  refine sk (Eq.refl false) ?_
  refine sk (Eq.refl false) ?_
  refine sk (Eq.refl false) ?_
  refine sk (Eq.refl false) ?_
  refine sk (Eq.refl false) ?_
  refine pf (vb false) wN (Eq.refl false) ?_
  refine mv (vb false) wN ?_
  refine sk (Eq.refl false) ?_
  refine sk (Eq.refl false) ?_
  refine sk (Eq.refl false) ?_
  refine sk (Eq.refl false) ?_
  refine sk (Eq.refl false) ?_
  refine pf (vb false) wN (Eq.refl false) ?_
  refine mv (vb false) wN ?_
  refine sk (Eq.refl false) ?_
  refine sk (Eq.refl false) ?_
  refine sk (Eq.refl false) ?_
  refine sk (Eq.refl false) ?_
  refine sk (Eq.refl false) ?_
  refine pf (vb false) wN (Eq.refl false) ?_
  refine mv (vb false) wN ?_
  refine sk (Eq.refl false) ?_
  refine sk (Eq.refl false) ?_
  refine sk (Eq.refl false) ?_
  refine sk (Eq.refl false) ?_
  refine sk (Eq.refl false) ?_
  refine pf (vb false) wN (Eq.refl false) ?_
  refine mv (vb false) wN ?_
  refine sk (Eq.refl false) ?_
  refine sk (Eq.refl false) ?_
  refine sk (Eq.refl false) ?_
  refine sk (Eq.refl false) ?_
  refine sk (Eq.refl false) ?_
  refine pf (vb false) wN (Eq.refl false) ?_
  refine ag (vb false) wN ?_
  refine wl_nil <| wq_then <| wc_ret ?_
  refine ret_1 (.inl rfl) (vb false) rfl rfl ?_
  refine ⟨m72.keep0, ?_⟩
  have hF128 : F_impl_sameFrame x_f x_g = false := by simp only [F_impl_sameFrame, h74, h76, h78, h80, h82, cond_true, cond_false]
  rw [hF128]
  exact rfl
 have q83 := of_decide_eq_true h82
 refine pu (vp g61 2) (wS h82) ?_
 refine ld (vs a1 x_f.Cn.length c2) (wS h82) isAgg_22 b73 ?_
 refine pu (vp g67 2) (wS h82) ?_
 refine ld (vs a31 x_g.Cn.length c32) (wS h82) isAgg_22 b71 ?_
 refine cl (wS h82) (C_bytes_Equal w2 _ x_f.Cn (mR_22 (r3.from0 m72) s4) _ x_g.Cn (mR_22 (r33.from0 m72) s34)) ?_
 rintro _ w3 ⟨k84, rfl⟩
 have m85 := m72.extk k84
 refine pk (vb (F_bytes_Equal x_f.Cn x_g.Cn)) wN h82 ?_
 refine mv (vb (F_bytes_Equal x_f.Cn x_g.Cn)) wN ?_
 rcases bf (F_bytes_Equal x_f.Cn x_g.Cn) with h86 | h86
 ·refine sk h86 ?_
  refine sk h86 ?_
  refine sk h86 ?_
  refine sk h86 ?_
  refine sk h86 ?_
  refine pf (vb false) wN h86 ?_
  refine mv (vb false) wN ?_
  refine sk (Eq.refl false) ?_
  refine sk (Eq.refl false) ?_
  refine sk (Eq.refl false) ?_
  refine sk (Eq.refl false) ?_
  refine sk (Eq.refl false) ?_
  refine pf (vb false) wN (Eq.refl false) ?_
  refine mv (vb false) wN ?_
  refine sk (Eq.refl false) ?_
  refine sk (Eq.refl false) ?_
  refine sk (Eq.refl false) ?_
  refine sk (Eq.refl false) ?_
  refine sk (Eq.refl false) ?_
  refine pf (vb false) wN (Eq.refl false) ?_
  refine mv (vb false) wN ?_
  refine sk (Eq.refl false) ?_
  refine sk (Eq.refl false) ?_
  refine sk (Eq.refl false) ?_
  refine sk (Eq.refl false) ?_
  refine sk (Eq.refl false) ?_
  refine pf (vb false) wN (Eq.refl false) ?_
  refine mv (vb false) wN ?_
  refine sk (Eq.refl false) ?_
  refine sk (Eq.refl false) ?_
  refine sk (Eq.refl false) ?_
  refine sk (Eq.refl false) ?_
  refine sk (Eq.refl false) ?_
  refine pf (vb false) wN (Eq.refl false) ?_
  refine ag (vb false) wN ?_
  refine wl_nil <| wq_then <| wc_ret ?_
  refine ret_1 (.inl rfl) (vb false) rfl rfl ?_
  refine ⟨m85.keep0, ?_⟩
  have hF126 : F_impl_sameFrame x_f x_g = false := by simp only [F_impl_sameFrame, h74, h76, h78, h80, h82, h86, cond_true, cond_false]
  rw [hF126]
  exact rfl
 refine pu (vp g61 3) (wS h86) ?_
 have b88 := (b73.kp k84)
 refine ld (vs a6 x_f.Sn.length c7) (wS h86) isAgg_22 b88 ?_
 refine pu (vp g67 3) (wS h86) ?_
 have b89 := (b71.kp k84)
 refine ld (vs a36 x_g.Sn.length c37) (wS h86) isAgg_22 b89 ?_
 refine cl (wS h86) (C_bytes_Equal w3 _ x_f.Sn (mR_22 (r8.from0 m85) s9) _ x_g.Sn (mR_22 (r38.from0 m85) s39)) ?_
 rintro _ w4 ⟨k90, rfl⟩
 have m91 := m85.extk k90
 refine pk (vb (F_bytes_Equal x_f.Sn x_g.Sn)) wN h86 ?_
 refine mv (vb (F_bytes_Equal x_f.Sn x_g.Sn)) wN ?_
 rcases bf (F_bytes_Equal x_f.Sn x_g.Sn) with h92 | h92
 ·refine sk h92 ?_
  refine sk h92 ?_
  refine sk h92 ?_
  refine sk h92 ?_
  refine sk h92 ?_
  refine pf (vb false) wN h92 ?_
  refine mv (vb false) wN ?_
  refine sk (Eq.refl false) ?_
  refine sk (Eq.refl false) ?_
  refine sk (Eq.refl false) ?_
  refine sk (Eq.refl false) ?_
  refine sk (Eq.refl false) ?_
  refine pf (vb false) wN (Eq.refl false) ?_
  refine mv (vb false) wN ?_
  refine sk (Eq.refl false) ?_
  refine sk (Eq.refl false) ?_
  refine sk (Eq.refl false) ?_
  refine sk (Eq.refl false) ?_
  refine sk (Eq.refl false) ?_
  refine pf (vb false) wN (Eq.refl false) ?_
  refine mv (vb false) wN ?_
  refine sk (Eq.refl false) ?_
  refine sk (Eq.refl false) ?_
  refine sk (Eq.refl false) ?_
  refine sk (Eq.refl false) ?_
  refine sk (Eq.refl false) ?_
  refine pf (vb false) wN (Eq.refl false) ?_
  refine ag (vb false) wN ?_
  refine wl_nil <| wq_then <| wc_ret ?_
  refine ret_1 (.inl rfl) (vb false) rfl rfl ?_
  refine ⟨m91.keep0, ?_⟩
  have hF124 : F_impl_sameFrame x_f x_g = false := by simp only [F_impl_sameFrame, h74, h76, h78, h80, h82, h86, h92, cond_true, cond_false]
  rw [hF124]
  exact rfl
 refine pu (vp g61 5) (wS h92) ?_
 have b94 := (b88.kp k90)
 refine ld (vs a11 x_f.Cookie.length c12) (wS h92) isAgg_22 b94 ?_
 refine pu (vp g67 5) (wS h92) ?_
 have b95 := (b89.kp k90)
 refine ld (vs a41 x_g.Cookie.length c42) (wS h92) isAgg_22 b95 ?_
 refine cl (wS h92) (C_bytes_Equal w4 _ x_f.Cookie (mR_22 (r13.from0 m91) s14) _ x_g.Cookie (mR_22 (r43.from0 m91) s44)) ?_
 rintro _ w5 ⟨k96, rfl⟩
 have m97 := m91.extk k96
 refine pk (vb (F_bytes_Equal x_f.Cookie x_g.Cookie)) wN h92 ?_
 refine mv (vb (F_bytes_Equal x_f.Cookie x_g.Cookie)) wN ?_
 rcases bf (F_bytes_Equal x_f.Cookie x_g.Cookie) with h98 | h98
 ·refine sk h98 ?_
  refine sk h98 ?_
  refine sk h98 ?_
  refine sk h98 ?_
  refine sk h98 ?_
  refine pf (vb false) wN h98 ?_
  refine mv (vb false) wN ?_
  refine sk (Eq.refl false) ?_
  refine sk (Eq.refl false) ?_
  refine sk (Eq.refl false) ?_
  refine sk (Eq.refl false) ?_
  refine sk (Eq.refl false) ?_
  refine pf (vb false) wN (Eq.refl false) ?_
  refine mv (vb false) wN ?_
  refine sk (Eq.refl false) ?_
  refine sk (Eq.refl false) ?_
  refine sk (Eq.refl false) ?_
  refine sk (Eq.refl false) ?_
  refine sk (Eq.refl false) ?_
  refine pf (vb false) wN (Eq.refl false) ?_
  refine ag (vb false) wN ?_
  refine wl_nil <| wq_then <| wc_ret ?_
  refine ret_1 (.inl rfl) (vb false) rfl rfl ?_
  refine ⟨m97.keep0, ?_⟩
  have hF122 : F_impl_sameFrame x_f x_g = false := by simp only [F_impl_sameFrame, h74, h76, h78, h80, h82, h86, h92, h98, cond_true, cond_false]
  rw [hF122]
  exact rfl
 refine pu (vp g61 6) (wS h98) ?_
 have b100 := (b94.kp k96)
 refine ld (vs a16 x_f.Proof.length c17) (wS h98) isAgg_22 b100 ?_
 refine pu (vp g67 6) (wS h98) ?_
 have b101 := (b95.kp k96)
 refine ld (vs a46 x_g.Proof.length c47) (wS h98) isAgg_22 b101 ?_
 refine cl (wS h98) (C_bytes_Equal w5 _ x_f.Proof (mR_22 (r18.from0 m97) s19) _ x_g.Proof (mR_22 (r48.from0 m97) s49)) ?_
 rintro _ w6 ⟨k102, rfl⟩
 have m103 := m97.extk k102
 refine pk (vb (F_bytes_Equal x_f.Proof x_g.Proof)) wN h98 ?_
 refine mv (vb (F_bytes_Equal x_f.Proof x_g.Proof)) wN ?_
 rcases bf (F_bytes_Equal x_f.Proof x_g.Proof) with h104 | h104
 ·refine sk h104 ?_
  refine sk h104 ?_
  refine sk h104 ?_
  refine sk h104 ?_
  refine sk h104 ?_
  refine pf (vb false) wN h104 ?_
  refine mv (vb false) wN ?_
  refine sk (Eq.refl false) ?_
  refine sk (Eq.refl false) ?_
  refine sk (Eq.refl false) ?_
  refine sk (Eq.refl false) ?_
  refine sk (Eq.refl false) ?_
  refine pf (vb false) wN (Eq.refl false) ?_
  refine ag (vb false) wN ?_
  refine wl_nil <| wq_then <| wc_ret ?_
  refine ret_1 (.inl rfl) (vb false) rfl rfl ?_
  refine ⟨m103.keep0, ?_⟩
  have hF120 : F_impl_sameFrame x_f x_g = false := by simp only [F_impl_sameFrame, h74, h76, h78, h80, h82, h86, h92, h98, h104, cond_true, cond_false]
  rw [hF120]
  exact rfl
 refine pu (vp g61 9) (wS h104) ?_
 have b106 := (b100.kp k102)
 refine ld (vs a21 x_f.Body.length c22) (wS h104) isAgg_22 b106 ?_
 refine pu (vp g67 9) (wS h104) ?_
 have b107 := (b101.kp k102)
 refine ld (vs a51 x_g.Body.length c52) (wS h104) isAgg_22 b107 ?_
 refine cl (wS h104) (C_bytes_Equal w6 _ x_f.Body (mR_22 (r23.from0 m103) s24) _ x_g.Body (mR_22 (r53.from0 m103) s54)) ?_
 rintro _ w7 ⟨k108, rfl⟩
 have m109 := m103.extk k108
 refine pk (vb (F_bytes_Equal x_f.Body x_g.Body)) wN h104 ?_
 refine mv (vb (F_bytes_Equal x_f.Body x_g.Body)) wN ?_
 rcases bf (F_bytes_Equal x_f.Body x_g.Body) with h110 | h110
 ·refine sk h110 ?_
  refine sk h110 ?_
  refine sk h110 ?_
  refine sk h110 ?_
  refine sk h110 ?_
  refine pf (vb false) wN h110 ?_
  refine ag (vb false) wN ?_
  refine wl_nil <| wq_then <| wc_ret ?_
  refine ret_1 (.inl rfl) (vb false) rfl rfl ?_
  refine ⟨m109.keep0, ?_⟩
  have hF118 : F_impl_sameFrame x_f x_g = false := by simp only [F_impl_sameFrame, h74, h76, h78, h80, h82, h86, h92, h98, h104, h110, cond_true, cond_false]
  rw [hF118]
  exact rfl
 refine pu (vp g61 10) (wS h110) ?_
 have b112 := (b106.kp k108)
 refine ld (vs a26 x_f.Tag.length c27) (wS h110) isAgg_22 b112 ?_
 refine pu (vp g67 10) (wS h110) ?_
 have b113 := (b107.kp k108)
 refine ld (vs a56 x_g.Tag.length c57) (wS h110) isAgg_22 b113 ?_
 refine cl (wS h110) (C_bytes_Equal w7 _ x_f.Tag (mR_22 (r28.from0 m109) s29) _ x_g.Tag (mR_22 (r58.from0 m109) s59)) ?_
 rintro _ w8 ⟨k114, rfl⟩
 have m115 := m109.extk k114
 refine pk (vb (F_bytes_Equal x_f.Tag x_g.Tag)) wN h110 ?_
 refine ag (vb (F_bytes_Equal x_f.Tag x_g.Tag)) wN ?_
 refine wl_nil <| wq_then <| wc_ret ?_
 refine ret_1 (.inl rfl) (vb (F_bytes_Equal x_f.Tag x_g.Tag)) rfl rfl ?_
 refine ⟨m115.keep0, ?_⟩
 have hF116 : F_impl_sameFrame x_f x_g = (F_bytes_Equal x_f.Tag x_g.Tag) := by simp only [F_impl_sameFrame, h74, h76, h78, h80, h82, h86, h92, h98, h104, h110, cond_true, cond_false]
 rw [hF116]
 exact rfl

theorem C_impl_sameInts (w0 : World) (v_x_a : Value) (x_a : List Int) (r_x_a : R_88 w0 v_x_a x_a) (v_x_b : Value) (x_b : List Int) (r_x_b : R_88 w0 v_x_b x_b)  : Fn Try.prog 174 #[v_x_a, v_x_b] w0 (fun v w' => Keep w0 w' ∧ O_4 w' w0.heap.size v (eqI x_a x_b)) := by
 obtain ⟨a1, c2, rfl, r3, s4⟩ := r_x_a
 obtain ⟨a6, c7, rfl, r8, s9⟩ := r_x_b
 refine fn_of (n := 26) (l := [(vs a1 x_a.length c2), (vs a6 x_b.length c7), U, U, U, U, U, U, U, U, U, U, U, U, U, U, U, U, U, U, U, U, U, U, U, U]) Try.func174 rfl rfl (by kernel_rfl) rfl ?_
 refine sr ?_
 refine ag (vb false) wN ?_
 refine wl_nil <| wq_then <| wc_seq <| sr ?_
 refine mv (vs a1 x_a.length c2) wN ?_
 refine ln wN slTy_88 r3 ?_
 refine mv (vs a6 x_b.length c7) wN ?_
 refine ln wN slTy_88 r8 ?_
 refine pu (vb (!(decide ((x_a.length : Int) = (x_b.length : Int))))) wN ?_
 refine wl_nil <| wq_then ?_
 rcases bf (decide ((x_a.length : Int) = (x_b.length : Int))) with h11 | h11
 ·have q25 := of_decide_eq_false h11
  refine ct (congrArg not h11) ?_
  refine sr ?_
  refine ag (vb false) wN ?_
  refine wl_nil <| wq_then <| wc_ret <| wq_then_ret ?_
  refine ret_1 (.inl rfl) (vb false) rfl rfl ?_
  refine ⟨Ch.refl _ _, ?_⟩
  have hF26 : eqI x_a x_b = false := by first | exact eqI_len (by assumption) | exact eqI_el (by assumption) | exact eqI_all (by assumption) (by omega) (by omega)
  rw [hF26]
  exact rfl
 have q12 := of_decide_eq_true h11
 refine cf (congrArg not h11) ?_
 refine wc_skip <| wq_then <| wc_seq <| sr ?_
 refine mv (vs a1 x_a.length c2) wN ?_
 refine ln wN slTy_88 r3 ?_
 refine mv (vi 0) wN ?_
 refine wl_nil <| wq_then <| wc_block ?_
 refine wc_norm [(vs a1 x_a.length c2), (vs a6 x_b.length c7), U, U, (vb false), U, U, (vs a1 x_a.length c2), (vi (x_a.length : Int)), (vs a6 x_b.length c7), (vi (x_b.length : Int)), (vb (!(decide ((x_a.length : Int) = (x_b.length : Int))))), (vs a1 x_a.length c2), (vi (x_a.length : Int)), (vi 0), U, U, U, U, U, U, U, U, U, U, U] rfl ⟨rfl, rfl, rfl, rfl, rfl, rfl, rfl, rfl, rfl, rfl, rfl, rfl, rfl, rfl, rfl, rfl, rfl, rfl, rfl, rfl, rfl, rfl, rfl, rfl, rfl, rfl, trivial⟩ ?_
 refine wc_loop (fun e' w' => ∃ (k : Nat) (u4x u5x u6x u15x u16x u17x u18x u19x u20x u21x u22x u23x u24x u25x : Value), e' = lst [(vs a1 x_a.length c2), (vs a6 x_b.length c7), U, U, u4x, u5x, u6x, (vs a1 x_a.length c2), (vi (x_a.length : Int)), (vs a6 x_b.length c7), (vi (x_b.length : Int)), (vb (!(decide ((x_a.length : Int) = (x_b.length : Int))))), (vs a1 x_a.length c2), (vi (x_a.length : Int)), (vi ((k : Nat) : Int)), u15x, u16x, u17x, u18x, u19x, u20x, u21x, u22x, u23x, u24x, u25x] ∧ Ch (fun k => w0.heap.size ≤ k) w0 w' ∧ Ch (fun k => w0.heap.size ≤ k) w0 w' ∧ k ≤ x_a.length ∧ x_a.take k = x_b.take k) (fun e' _ => x_a.length - ((intOf (e' 14))).toNat) ?_ ?_
 ·exact ⟨0, (vb false), U, U, U, U, U, U, U, U, U, U, U, U, U, (congrArg (fun (x14z : Value) => lst [(vs a1 x_a.length c2), (vs a6 x_b.length c7), U, U, (vb false), U, U, (vs a1 x_a.length c2), (vi (x_a.length : Int)), (vs a6 x_b.length c7), (vi (x_b.length : Int)), (vb (!(decide ((x_a.length : Int) = (x_b.length : Int))))), (vs a1 x_a.length c2), (vi (x_a.length : Int)), x14z, U, U, U, U, U, U, U, U, U, U, U]) (congrArg (Value.int .i64) (show (0 : Int) = ((0 : Nat) : Int) by omega))), (Ch.base w0), (Ch.refl (fun k => w0.heap.size ≤ k) w0), (by omega), (by first | rfl | exact eqI_next (by assumption) (by omega) (by omega) (by assumption))⟩
 ·rintro _ w1 ⟨k, u4x, u5x, u6x, u15x, u16x, u17x, u18x, u19x, u20x, u21x, u22x, u23x, u24x, u25x, rfl, m13, k14, i15, i16⟩
  refine sr ?_
  refine pu (vb (decide (((k : Nat) : Int) < (x_a.length : Int)))) wN ?_
  refine wl_nil <| wq_then <| wc_seq ?_
  rcases bf (decide (((k : Nat) : Int) < (x_a.length : Int))) with h17 | h17
  ·have q23 := of_decide_eq_false h17
   refine cf h17 ?_
   refine wc_exit <| wq_then_exit <| wq_then_exit <| wq_blk_exit <| wq_then <| sr ?_
   refine ag (vb true) wN ?_
   refine wl_nil <| wq_then <| wc_ret ?_
   refine ret_1 (.inl rfl) (vb true) rfl rfl ?_
   refine ⟨m13.keep0, ?_⟩
   have hF24 : eqI x_a x_b = true := by first | exact eqI_len (by assumption) | exact eqI_el (by assumption) | exact eqI_all (by assumption) (by omega) (by omega)
   rw [hF24]
   exact rfl
  have q18 := of_decide_eq_true h17
  refine ct h17 ?_
  refine wc_skip <| wq_then <| wc_seq <| wc_block <| sr ?_
  refine mv (vi ((k : Nat) : Int)) wN ?_
  refine wl_index wN ((k : Nat) : Int) rfl rfl rfl slTy_88 rfl rfl (r3.from0 m13) (by first | omega | (simp only [List.length_cons, List.length_nil, List.length_replicate, List.length_append, List.length_take, List.length_set, List.length_map]; omega)) (by first | omega | (simp only [List.length_cons, List.length_nil, List.length_replicate, List.length_append, List.length_take, List.length_set, List.length_map]; omega)) ?_
  refine wl_loadE (iV (x_a.getD k 0)) wN rfl rfl rfl rfl isAgg_3 (r3.from0 m13) (iget (by simp) (by first | omega | (simp only [List.length_cons, List.length_nil, List.length_replicate, List.length_append, List.length_take, List.length_set, List.length_map]; omega))) ?_
  refine ag (vi ((k : Nat) : Int)) wN ?_
  refine ag (vi (x_a.getD k 0)) wN ?_
  refine nx ?_
  refine mv (vi (x_a.getD k 0)) wN ?_
  refine mv (vs a6 x_b.length c7) wN ?_
  refine mv (vi ((k : Nat) : Int)) wN ?_
  refine wl_index wN ((k : Nat) : Int) rfl rfl rfl slTy_88 rfl rfl (r8.from0 m13) (by first | omega | (simp only [List.length_cons, List.length_nil, List.length_replicate, List.length_append, List.length_take, List.length_set, List.length_map]; omega)) (by first | omega | (simp only [List.length_cons, List.length_nil, List.length_replicate, List.length_append, List.length_take, List.length_set, List.length_map]; omega)) ?_
  refine wl_loadE (iV (x_b.getD k 0)) wN rfl rfl rfl rfl isAgg_3 (r8.from0 m13) (iget (by simp) (by first | omega | (simp only [List.length_cons, List.length_nil, List.length_replicate, List.length_append, List.length_take, List.length_set, List.length_map]; omega))) ?_
  refine pu (vb (!(decide ((x_a.getD k 0) = (x_b.getD k 0))))) wN ?_
  refine wl_nil <| wq_then ?_
  rcases bf (decide ((x_a.getD k 0) = (x_b.getD k 0))) with h19 | h19
  ·have q21 := of_decide_eq_false h19
   refine ct (congrArg not h19) ?_
   refine sr ?_
   refine ag (vb false) wN ?_
   refine wl_nil <| wq_then <| wc_ret <| wq_blk_ret <| wq_then_ret <| wq_then_ret <| wq_blk_ret <| wq_then_ret ?_
   refine ret_1 (.inl rfl) (vb false) rfl rfl ?_
   refine ⟨m13.keep0, ?_⟩
   have hF22 : eqI x_a x_b = false := by first | exact eqI_len (by assumption) | exact eqI_el (by assumption) | exact eqI_all (by assumption) (by omega) (by omega)
   rw [hF22]
   exact rfl
  have q20 := of_decide_eq_true h19
  refine cf (congrArg not h19) ?_
  refine wc_skip <| wq_blk_normal <| wq_then <| wc_region ?_
  refine ar (((k : Nat) : Int) + 1) wN ?_
  refine mv (vi (((k : Nat) : Int) + 1)) wN ?_
  refine wl_nil ?_
  refine wq_loopN (w0 := w1) [(vs a1 x_a.length c2), (vs a6 x_b.length c7), U, U, u4x, (vi ((k : Nat) : Int)), (vi (x_a.getD k 0)), (vs a1 x_a.length c2), (vi (x_a.length : Int)), (vs a6 x_b.length c7), (vi (x_b.length : Int)), (vb (!(decide ((x_a.length : Int) = (x_b.length : Int))))), (vs a1 x_a.length c2), (vi (x_a.length : Int)), (vi (((k + 1) : Nat) : Int)), (vb (decide (((k : Nat) : Int) < (x_a.length : Int)))), (vi ((k : Nat) : Int)), (ve (vs a1 x_a.length c2) ((((k : Nat) : Int)).toNat * 1)), (vi (x_a.getD k 0)), (vi (x_a.getD k 0)), (vs a6 x_b.length c7), (vi ((k : Nat) : Int)), (ve (vs a6 x_b.length c7) ((((k : Nat) : Int)).toNat * 1)), (vi (x_b.getD k 0)), (vb (!(decide ((x_a.getD k 0) = (x_b.getD k 0))))), (vi (((k : Nat) : Int) + 1))] rfl ?_ ?_ ?_
  · exact ⟨rfl, rfl, rfl, rfl, rfl, rfl, rfl, rfl, rfl, rfl, rfl, rfl, rfl, rfl, (congrArg (Value.int .i64) (show ((((k : Nat) : Int) + 1) : Int) = (((k + 1) : Nat) : Int) by omega)), rfl, rfl, rfl, rfl, rfl, rfl, rfl, rfl, rfl, rfl, rfl, trivial⟩
  · exact ⟨(k + 1), u4x, (vi ((k : Nat) : Int)), (vi (x_a.getD k 0)), (vb (decide (((k : Nat) : Int) < (x_a.length : Int)))), (vi ((k : Nat) : Int)), (ve (vs a1 x_a.length c2) ((((k : Nat) : Int)).toNat * 1)), (vi (x_a.getD k 0)), (vi (x_a.getD k 0)), (vs a6 x_b.length c7), (vi ((k : Nat) : Int)), (ve (vs a6 x_b.length c7) ((((k : Nat) : Int)).toNat * 1)), (vi (x_b.getD k 0)), (vb (!(decide ((x_a.getD k 0) = (x_b.getD k 0))))), (vi (((k : Nat) : Int) + 1)), rfl, m13, ((Ch.refl (fun k => w0.heap.size ≤ k) w0).ext k14 (fun k hk => Nat.le_trans (Nat.le_refl _) hk)), (by omega), (by first | rfl | exact eqI_next (by assumption) (by omega) (by omega) (by assumption))⟩
  · show x_a.length - ((((k + 1) : Nat) : Int)).toNat < x_a.length - (((k : Nat) : Int)).toNat; omega
end Go.Proofs.Ytjcahjhnnagkdaa.K
