import Derived.Test.YtodlalolknldmaaCore
import Derived.Test.YtodlalolknldmaaProg
import Derived.Test.YtodlalolknldmaaHeld
import Derived.Test.YtodlalolknldmaaFun
import Derived.Test.YtodlalolknldmaaFunZ
import Derived.Test.YtodlalolknldmaaList
import Derived.Test.YtodlalolknldmaaWg1
namespace Go.Proofs.Ytodlalolknldmaa.K
open Go.RowKit
set_option linter.unusedVariables false
set_option linter.unusedSimpArgs false
set_option maxRecDepth 100000
def hC_PCredit (a : PCredit) (k : Int) : Int := bif decide (a.A.Host = k) then (bif decide (a.A.Port = (k + 1)) then (bif decide (a.Got = ((k + 1) + 1)) then (bif decide (a.Sent = (((k + 1) + 1) + 1)) then (((((k + 1) + 1) + 1) + 1)) else (-1)) else (-1)) else (-1)) else (-1)
theorem hC_PCredit_le (a : PCredit) (k : Int) : hC_PCredit a k = -1 ∨ hC_PCredit a k = k + 4 := by
  simp only [hC_PCredit, cond_eq_ite, decide_eq_true_eq]
  (repeat' split) <;> omega
theorem hL_PCredit_le (x : List PCredit) (k : Int) (hk : 0 ≤ k) : heldL hC_PCredit x k = -1 ∨ heldL hC_PCredit x k = k + 4 * x.length := heldL_le (fun a k _ => hC_PCredit_le a k) (by omega) x k hk
theorem C_laws_heldCreditS (w0 : World) (v_x_a : Value) (x_a : List PCredit) (r_x_a : R_81 w0 v_x_a x_a) (x_k : Int) (pre0 : 0 ≤ x_k) (pre1 : x_k ≤ 4000000000000000000) : Fn Try.prog 58 #[v_x_a, (vi x_k)] w0 (fun v w' => Keep w0 w' ∧ O_3 w' w0.heap.size v (heldL hC_PCredit x_a x_k)) := by
 obtain ⟨a1, c2, rfl, r3, s4⟩ := r_x_a
 refine fn_of (n := 51) (l := [(vs a1 x_a.length c2), (vi x_k), U, U, U, U, U, U, U, U, U, U, U, U, U, U, U, U, U, U, U, U, U, U, U, U, U, U, U, U, U, U, U, U, U, U, U, U, U, U, U, U, U, U, U, U, U, U, U, U, U]) Try.func58 rfl rfl (by kernel_rfl) rfl ?_
 refine sr ?_
 refine ag (vi 0) wN ?_
 refine wl_nil <| wq_then <| wc_seq <| sr ?_
 refine ag (vi 0) wN ?_
 refine wl_nil <| wq_then <| wc_block ?_
 refine wc_norm [(vs a1 x_a.length c2), (vi x_k), U, U, (vi 0), (vi 0), U, U, U, U, U, U, U, U, U, U, U, U, U, U, U, U, U, U, U, U, U, U, U, U, U, U, U, U, U, U, U, U, U, U, U, U, U, U, U, U, U, U, U, U, U] rfl ⟨rfl, rfl, rfl, rfl, rfl, rfl, rfl, rfl, rfl, rfl, rfl, rfl, rfl, rfl, rfl, rfl, rfl, rfl, rfl, rfl, rfl, rfl, rfl, rfl, rfl, rfl, rfl, rfl, rfl, rfl, rfl, rfl, rfl, rfl, rfl, rfl, rfl, rfl, rfl, rfl, rfl, rfl, rfl, rfl, rfl, rfl, rfl, rfl, rfl, rfl, rfl, trivial⟩ ?_
 refine wc_loop (fun e' w' => ∃ (i : Nat) (q : Int) (u4x u6x u7x u8x u9x u10x u11x u12x u13x u14x u15x u16x u17x u18x u19x u20x u21x u22x u23x u24x u25x u26x u27x u28x u29x u30x u31x u32x u33x u34x u35x u36x u37x u38x u39x u40x u41x u42x u43x u44x u45x u46x u47x u48x u49x : Value), e' = lst [(vs a1 x_a.length c2), (vi q), U, U, u4x, (vi ((i : Nat) : Int)), u6x, u7x, u8x, u9x, u10x, u11x, u12x, u13x, u14x, u15x, u16x, u17x, u18x, u19x, u20x, u21x, u22x, u23x, u24x, u25x, u26x, u27x, u28x, u29x, u30x, u31x, u32x, u33x, u34x, u35x, u36x, u37x, u38x, u39x, u40x, u41x, u42x, u43x, u44x, u45x, u46x, u47x, u48x, u49x, U] ∧ Ch (fun k => w0.heap.size ≤ k) w0 w' ∧ Ch (fun k => w0.heap.size ≤ k) w0 w' ∧ i ≤ x_a.length ∧ heldL hC_PCredit x_a x_k = heldL hC_PCredit (x_a.drop i) q ∧ x_k ≤ q ∧ q ≤ x_k + 4 * ((i : Nat) : Int)) (fun e' _ => x_a.length - ((intOf (e' 5))).toNat) ?_ ?_
 ·exact ⟨0, x_k, (vi 0), U, U, U, U, U, U, U, U, U, U, U, U, U, U, U, U, U, U, U, U, U, U, U, U, U, U, U, U, U, U, U, U, U, U, U, U, U, U, U, U, U, U, U, U, (congrArg (fun (x5z : Value) => lst [(vs a1 x_a.length c2), (vi x_k), U, U, (vi 0), x5z, U, U, U, U, U, U, U, U, U, U, U, U, U, U, U, U, U, U, U, U, U, U, U, U, U, U, U, U, U, U, U, U, U, U, U, U, U, U, U, U, U, U, U, U, U]) (congrArg (Value.int .i64) (show (0 : Int) = ((0 : Nat) : Int) by omega))), (Ch.base w0), (Ch.refl (fun k => w0.heap.size ≤ k) w0), (by omega), (by first | (simp; done) | exact heldL_next (z := z_PCredit) (by assumption) (by omega) (by simp only [hC_PCredit, ]; simp) (by omega)), (by omega), (by omega)⟩
 ·rintro _ w1 ⟨i, q, u4x, u6x, u7x, u8x, u9x, u10x, u11x, u12x, u13x, u14x, u15x, u16x, u17x, u18x, u19x, u20x, u21x, u22x, u23x, u24x, u25x, u26x, u27x, u28x, u29x, u30x, u31x, u32x, u33x, u34x, u35x, u36x, u37x, u38x, u39x, u40x, u41x, u42x, u43x, u44x, u45x, u46x, u47x, u48x, u49x, rfl, m6, k7, i8, i9, i10, i11⟩
  refine wc_seq <| sr ?_
  refine mv (vi ((i : Nat) : Int)) wN ?_
  refine mv (vs a1 x_a.length c2) wN ?_
  refine ln wN slTy_81 (r3.from0 m6) ?_
  refine pu (vb (decide (((i : Nat) : Int) < (x_a.length : Int)))) wN ?_
  refine wl_nil <| wq_then ?_
  rcases bf (decide (((i : Nat) : Int) < (x_a.length : Int))) with h12 | h12
  ·have q30 := of_decide_eq_false h12
   refine cf h12 ?_
   refine wc_exit <| wq_then_exit <| wq_then_exit <| wq_blk_exit <| wq_then <| sr ?_
   refine mv (vi q) wN ?_
   refine ag (vi q) wN ?_
   refine wl_nil <| wq_then <| wc_ret ?_
   refine ret_1 (.inl rfl) (vi q) rfl rfl ?_
   refine ⟨m6.keep0, ?_⟩
   have hF31 : heldL hC_PCredit x_a x_k = q := by first | exact heldL_ne (z := z_PCredit) (by assumption) (by omega) (by simp only [hC_PCredit, h12]; simp) | exact heldL_end (by assumption) (by omega)
   rw [hF31]
   exact rfl
  have q13 := of_decide_eq_true h12
  refine ct h12 ?_
  refine wc_skip <| wq_then <| wc_seq <| wc_block <| wc_seq <| sr ?_
  refine mv (vs a1 x_a.length c2) wN ?_
  refine mv (vi ((i : Nat) : Int)) wN ?_
  refine wl_index wN ((i : Nat) : Int) rfl rfl rfl slTy_81 rfl rfl (r3.from0 m6) (by first | omega | (simp only [List.length_cons, List.length_nil, List.length_replicate, List.length_append, List.length_take, List.length_set, List.length_map]; omega)) (by first | omega | (simp only [List.length_cons, List.length_nil, List.length_replicate, List.length_append, List.length_take, List.length_set, List.length_map]; omega)) ?_
  refine wl_fieldE wN rfl rfl rfl fieldAt_114_0 rfl (r3.from0 m6) (by omega) ?_
  refine wl_fieldE wN rfl rfl rfl fieldAt_61_0 rfl (r3.from0 m6) (by omega) ?_
  refine wl_loadE (vi (((x_a.getD i z_PCredit).A).Host)) wN rfl rfl rfl rfl isAgg_3 (r3.from0 m6) ((rows_get (i := 0) enc_PCredit_len z_PCredit (by first | rfl | simp | omega) (by decide) (by first | omega | (simp only [List.length_cons, List.length_nil, List.length_replicate, List.length_append, List.length_take, List.length_set, List.length_map]; omega))).trans rfl) ?_
  refine mv (vi q) wN ?_
  refine pu (vb (!(decide (((x_a.getD i z_PCredit).A).Host = q)))) wN ?_
  refine wl_nil <| wq_then ?_
  rcases bf (decide (((x_a.getD i z_PCredit).A).Host = q)) with h14 | h14
  ·have q28 := of_decide_eq_false h14
   refine ct (congrArg not h14) ?_
   refine sr ?_
   refine ag (vi (-1)) wN ?_
   refine wl_nil <| wq_then <| wc_ret <| wq_then_ret <| wq_blk_ret <| wq_then_ret <| wq_then_ret <| wq_blk_ret <| wq_then_ret ?_
   refine ret_1 (.inl rfl) (vi (-1)) rfl rfl ?_
   refine ⟨m6.keep0, ?_⟩
   have hF29 : heldL hC_PCredit x_a x_k = (-1) := by first | exact heldL_ne (z := z_PCredit) (by assumption) (by omega) (by simp only [hC_PCredit, h12, h14]; simp) | exact heldL_end (by assumption) (by omega)
   rw [hF29]
   exact rfl
  have q15 := of_decide_eq_true h14
  refine cf (congrArg not h14) ?_
  refine wc_skip <| wq_then <| sr ?_
  refine mv (vi q) wN ?_
  refine ar (q + 1) wN ?_
  refine ag (vi (q + 1)) wN ?_
  refine wl_nil <| wq_then <| wc_seq <| sr ?_
  refine mv (vs a1 x_a.length c2) wN ?_
  refine mv (vi ((i : Nat) : Int)) wN ?_
  refine wl_index wN ((i : Nat) : Int) rfl rfl rfl slTy_81 rfl rfl (r3.from0 m6) (by first | omega | (simp only [List.length_cons, List.length_nil, List.length_replicate, List.length_append, List.length_take, List.length_set, List.length_map]; omega)) (by first | omega | (simp only [List.length_cons, List.length_nil, List.length_replicate, List.length_append, List.length_take, List.length_set, List.length_map]; omega)) ?_
  refine wl_fieldE wN rfl rfl rfl fieldAt_114_0 rfl (r3.from0 m6) (by omega) ?_
  refine wl_fieldE wN rfl rfl rfl fieldAt_61_1 rfl (r3.from0 m6) (by omega) ?_
  refine wl_loadE (vi (((x_a.getD i z_PCredit).A).Port)) wN rfl rfl rfl rfl isAgg_3 (r3.from0 m6) ((rows_get (i := 1) enc_PCredit_len z_PCredit (by first | rfl | simp | omega) (by decide) (by first | omega | (simp only [List.length_cons, List.length_nil, List.length_replicate, List.length_append, List.length_take, List.length_set, List.length_map]; omega))).trans rfl) ?_
  refine mv (vi (q + 1)) wN ?_
  refine pu (vb (!(decide (((x_a.getD i z_PCredit).A).Port = (q + 1))))) wN ?_
  refine wl_nil <| wq_then ?_
  rcases bf (decide (((x_a.getD i z_PCredit).A).Port = (q + 1))) with h16 | h16
  ·have q26 := of_decide_eq_false h16
   refine ct (congrArg not h16) ?_
   refine sr ?_
   refine ag (vi (-1)) wN ?_
   refine wl_nil <| wq_then <| wc_ret <| wq_then_ret <| wq_blk_ret <| wq_then_ret <| wq_then_ret <| wq_blk_ret <| wq_then_ret ?_
   refine ret_1 (.inl rfl) (vi (-1)) rfl rfl ?_
   refine ⟨m6.keep0, ?_⟩
   have hF27 : heldL hC_PCredit x_a x_k = (-1) := by first | exact heldL_ne (z := z_PCredit) (by assumption) (by omega) (by simp only [hC_PCredit, h12, h14, h16]; simp) | exact heldL_end (by assumption) (by omega)
   rw [hF27]
   exact rfl
  have q17 := of_decide_eq_true h16
  refine cf (congrArg not h16) ?_
  refine wc_skip <| wq_then <| sr ?_
  refine mv (vi (q + 1)) wN ?_
  refine ar ((q + 1) + 1) wN ?_
  refine ag (vi ((q + 1) + 1)) wN ?_
  refine wl_nil <| wq_then <| wc_seq <| sr ?_
  refine mv (vs a1 x_a.length c2) wN ?_
  refine mv (vi ((i : Nat) : Int)) wN ?_
  refine wl_index wN ((i : Nat) : Int) rfl rfl rfl slTy_81 rfl rfl (r3.from0 m6) (by first | omega | (simp only [List.length_cons, List.length_nil, List.length_replicate, List.length_append, List.length_take, List.length_set, List.length_map]; omega)) (by first | omega | (simp only [List.length_cons, List.length_nil, List.length_replicate, List.length_append, List.length_take, List.length_set, List.length_map]; omega)) ?_
  refine wl_fieldE wN rfl rfl rfl fieldAt_114_1 rfl (r3.from0 m6) (by omega) ?_
  refine wl_loadE (vi ((x_a.getD i z_PCredit).Got)) wN rfl rfl rfl rfl isAgg_3 (r3.from0 m6) ((rows_get (i := 2) enc_PCredit_len z_PCredit (by first | rfl | simp | omega) (by decide) (by first | omega | (simp only [List.length_cons, List.length_nil, List.length_replicate, List.length_append, List.length_take, List.length_set, List.length_map]; omega))).trans rfl) ?_
  refine mv (vi ((q + 1) + 1)) wN ?_
  refine pu (vb (!(decide ((x_a.getD i z_PCredit).Got = ((q + 1) + 1))))) wN ?_
  refine wl_nil <| wq_then ?_
  rcases bf (decide ((x_a.getD i z_PCredit).Got = ((q + 1) + 1))) with h18 | h18
  ·have q24 := of_decide_eq_false h18
   refine ct (congrArg not h18) ?_
   refine sr ?_
   refine ag (vi (-1)) wN ?_
   refine wl_nil <| wq_then <| wc_ret <| wq_then_ret <| wq_blk_ret <| wq_then_ret <| wq_then_ret <| wq_blk_ret <| wq_then_ret ?_
   refine ret_1 (.inl rfl) (vi (-1)) rfl rfl ?_
   refine ⟨m6.keep0, ?_⟩
   have hF25 : heldL hC_PCredit x_a x_k = (-1) := by first | exact heldL_ne (z := z_PCredit) (by assumption) (by omega) (by simp only [hC_PCredit, h12, h14, h16, h18]; simp) | exact heldL_end (by assumption) (by omega)
   rw [hF25]
   exact rfl
  have q19 := of_decide_eq_true h18
  refine cf (congrArg not h18) ?_
  refine wc_skip <| wq_then <| sr ?_
  refine mv (vi ((q + 1) + 1)) wN ?_
  refine ar (((q + 1) + 1) + 1) wN ?_
  refine ag (vi (((q + 1) + 1) + 1)) wN ?_
  refine wl_nil <| wq_then <| wc_seq <| sr ?_
  refine mv (vs a1 x_a.length c2) wN ?_
  refine mv (vi ((i : Nat) : Int)) wN ?_
  refine wl_index wN ((i : Nat) : Int) rfl rfl rfl slTy_81 rfl rfl (r3.from0 m6) (by first | omega | (simp only [List.length_cons, List.length_nil, List.length_replicate, List.length_append, List.length_take, List.length_set, List.length_map]; omega)) (by first | omega | (simp only [List.length_cons, List.length_nil, List.length_replicate, List.length_append, List.length_take, List.length_set, List.length_map]; omega)) ?_
  refine wl_fieldE wN rfl rfl rfl fieldAt_114_2 rfl (r3.from0 m6) (by omega) ?_
  refine wl_loadE (vi ((x_a.getD i z_PCredit).Sent)) wN rfl rfl rfl rfl isAgg_3 (r3.from0 m6) ((rows_get (i := 3) enc_PCredit_len z_PCredit (by first | rfl | simp | omega) (by decide) (by first | omega | (simp only [List.length_cons, List.length_nil, List.length_replicate, List.length_append, List.length_take, List.length_set, List.length_map]; omega))).trans rfl) ?_
  refine mv (vi (((q + 1) + 1) + 1)) wN ?_
  refine pu (vb (!(decide ((x_a.getD i z_PCredit).Sent = (((q + 1) + 1) + 1))))) wN ?_
  refine wl_nil <| wq_then ?_
  rcases bf (decide ((x_a.getD i z_PCredit).Sent = (((q + 1) + 1) + 1))) with h20 | h20
  ·have q22 := of_decide_eq_false h20
   refine ct (congrArg not h20) ?_
   refine sr ?_
   refine ag (vi (-1)) wN ?_
   refine wl_nil <| wq_then <| wc_ret <| wq_then_ret <| wq_blk_ret <| wq_then_ret <| wq_then_ret <| wq_blk_ret <| wq_then_ret ?_
   refine ret_1 (.inl rfl) (vi (-1)) rfl rfl ?_
   refine ⟨m6.keep0, ?_⟩
   have hF23 : heldL hC_PCredit x_a x_k = (-1) := by first | exact heldL_ne (z := z_PCredit) (by assumption) (by omega) (by simp only [hC_PCredit, h12, h14, h16, h18, h20]; simp) | exact heldL_end (by assumption) (by omega)
   rw [hF23]
   exact rfl
  have q21 := of_decide_eq_true h20
  refine cf (congrArg not h20) ?_
  refine wc_skip <| wq_then <| wc_region ?_
  refine mv (vi (((q + 1) + 1) + 1)) wN ?_
  refine ar ((((q + 1) + 1) + 1) + 1) wN ?_
  refine ag (vi ((((q + 1) + 1) + 1) + 1)) wN ?_
  refine wl_nil <| wq_blk_normal <| wq_then <| wc_region ?_
  refine mv (vi ((i : Nat) : Int)) wN ?_
  refine ar (((i : Nat) : Int) + 1) wN ?_
  refine ag (vi (((i : Nat) : Int) + 1)) wN ?_
  refine wl_nil ?_
  refine wq_loopN (w0 := w1) [(vs a1 x_a.length c2), (vi ((((q + 1) + 1) + 1) + 1)), U, U, u4x, (vi (((i + 1) : Nat) : Int)), (vi ((i : Nat) : Int)), (vs a1 x_a.length c2), (vi (x_a.length : Int)), (vb (decide (((i : Nat) : Int) < (x_a.length : Int)))), (vi ((i : Nat) : Int)), (vi (((i : Nat) : Int) + 1)), (vs a1 x_a.length c2), (vi ((i : Nat) : Int)), (ve (vs a1 x_a.length c2) ((((i : Nat) : Int)).toNat * 4)), (ve (vs a1 x_a.length c2) ((((i : Nat) : Int)).toNat * 4 + 0)), (ve (vs a1 x_a.length c2) ((((i : Nat) : Int)).toNat * 4 + 0 + 0)), (vi (((x_a.getD i z_PCredit).A).Host)), (vi q), (vb (!(decide (((x_a.getD i z_PCredit).A).Host = q)))), (vi q), (vi (q + 1)), (vs a1 x_a.length c2), (vi ((i : Nat) : Int)), (ve (vs a1 x_a.length c2) ((((i : Nat) : Int)).toNat * 4)), (ve (vs a1 x_a.length c2) ((((i : Nat) : Int)).toNat * 4 + 0)), (ve (vs a1 x_a.length c2) ((((i : Nat) : Int)).toNat * 4 + 0 + 1)), (vi (((x_a.getD i z_PCredit).A).Port)), (vi (q + 1)), (vb (!(decide (((x_a.getD i z_PCredit).A).Port = (q + 1))))), (vi (q + 1)), (vi ((q + 1) + 1)), (vs a1 x_a.length c2), (vi ((i : Nat) : Int)), (ve (vs a1 x_a.length c2) ((((i : Nat) : Int)).toNat * 4)), (ve (vs a1 x_a.length c2) ((((i : Nat) : Int)).toNat * 4 + 2)), (vi ((x_a.getD i z_PCredit).Got)), (vi ((q + 1) + 1)), (vb (!(decide ((x_a.getD i z_PCredit).Got = ((q + 1) + 1))))), (vi ((q + 1) + 1)), (vi (((q + 1) + 1) + 1)), (vs a1 x_a.length c2), (vi ((i : Nat) : Int)), (ve (vs a1 x_a.length c2) ((((i : Nat) : Int)).toNat * 4)), (ve (vs a1 x_a.length c2) ((((i : Nat) : Int)).toNat * 4 + 3)), (vi ((x_a.getD i z_PCredit).Sent)), (vi (((q + 1) + 1) + 1)), (vb (!(decide ((x_a.getD i z_PCredit).Sent = (((q + 1) + 1) + 1))))), (vi (((q + 1) + 1) + 1)), (vi ((((q + 1) + 1) + 1) + 1)), U] rfl ?_ ?_ ?_
  · exact ⟨rfl, rfl, rfl, rfl, rfl, (congrArg (Value.int .i64) (show ((((i : Nat) : Int) + 1) : Int) = (((i + 1) : Nat) : Int) by omega)), rfl, rfl, rfl, rfl, rfl, rfl, rfl, rfl, rfl, rfl, rfl, rfl, rfl, rfl, rfl, rfl, rfl, rfl, rfl, rfl, rfl, rfl, rfl, rfl, rfl, rfl, rfl, rfl, rfl, rfl, rfl, rfl, rfl, rfl, rfl, rfl, rfl, rfl, rfl, rfl, rfl, rfl, rfl, rfl, rfl, trivial⟩
  · exact ⟨(i + 1), ((((q + 1) + 1) + 1) + 1), u4x, (vi ((i : Nat) : Int)), (vs a1 x_a.length c2), (vi (x_a.length : Int)), (vb (decide (((i : Nat) : Int) < (x_a.length : Int)))), (vi ((i : Nat) : Int)), (vi (((i : Nat) : Int) + 1)), (vs a1 x_a.length c2), (vi ((i : Nat) : Int)), (ve (vs a1 x_a.length c2) ((((i : Nat) : Int)).toNat * 4)), (ve (vs a1 x_a.length c2) ((((i : Nat) : Int)).toNat * 4 + 0)), (ve (vs a1 x_a.length c2) ((((i : Nat) : Int)).toNat * 4 + 0 + 0)), (vi (((x_a.getD i z_PCredit).A).Host)), (vi q), (vb (!(decide (((x_a.getD i z_PCredit).A).Host = q)))), (vi q), (vi (q + 1)), (vs a1 x_a.length c2), (vi ((i : Nat) : Int)), (ve (vs a1 x_a.length c2) ((((i : Nat) : Int)).toNat * 4)), (ve (vs a1 x_a.length c2) ((((i : Nat) : Int)).toNat * 4 + 0)), (ve (vs a1 x_a.length c2) ((((i : Nat) : Int)).toNat * 4 + 0 + 1)), (vi (((x_a.getD i z_PCredit).A).Port)), (vi (q + 1)), (vb (!(decide (((x_a.getD i z_PCredit).A).Port = (q + 1))))), (vi (q + 1)), (vi ((q + 1) + 1)), (vs a1 x_a.length c2), (vi ((i : Nat) : Int)), (ve (vs a1 x_a.length c2) ((((i : Nat) : Int)).toNat * 4)), (ve (vs a1 x_a.length c2) ((((i : Nat) : Int)).toNat * 4 + 2)), (vi ((x_a.getD i z_PCredit).Got)), (vi ((q + 1) + 1)), (vb (!(decide ((x_a.getD i z_PCredit).Got = ((q + 1) + 1))))), (vi ((q + 1) + 1)), (vi (((q + 1) + 1) + 1)), (vs a1 x_a.length c2), (vi ((i : Nat) : Int)), (ve (vs a1 x_a.length c2) ((((i : Nat) : Int)).toNat * 4)), (ve (vs a1 x_a.length c2) ((((i : Nat) : Int)).toNat * 4 + 3)), (vi ((x_a.getD i z_PCredit).Sent)), (vi (((q + 1) + 1) + 1)), (vb (!(decide ((x_a.getD i z_PCredit).Sent = (((q + 1) + 1) + 1))))), (vi (((q + 1) + 1) + 1)), (vi ((((q + 1) + 1) + 1) + 1)), rfl, m6, ((Ch.refl (fun k => w0.heap.size ≤ k) w0).ext k7 (fun k hk => Nat.le_trans (Nat.le_refl _) hk)), (by omega), (by first | (simp; done) | exact heldL_next (z := z_PCredit) (by assumption) (by omega) (by simp only [hC_PCredit, h12, h14, h16, h18, h20]; simp) (by omega)), (by omega), (by omega)⟩
  · show x_a.length - ((((i + 1) : Nat) : Int)).toNat < x_a.length - (((i : Nat) : Int)).toNat; omega

def Q_56 (w : World) (v : Value) (x : (PAddr)) : Prop := v = .agg #[.int .i64 x.Host, .int .i64 x.Port]
theorem mQ_79 {w : World} {x : List PCredit} {a1 : Option Addr} {c1 : Nat} (h1 : Rd w 4 (.slice a1 x.length c1) x.length (x.flatMap enc_PCredit)) (l1 : x.length ≤ 9223372036854775807) : Q_79 w (vs a1 x.length c1) x := ⟨_, _, rfl, h1, l1⟩
theorem mR_79 {w : World} {x : List PCredit} {a1 : Option Addr} {c1 : Nat} (h1 : Rd w 4 (.slice a1 x.length c1) x.length (x.flatMap enc_PCredit)) (l1 : x.length ≤ 1073741824) : R_79 w (vs a1 x.length c1) x := ⟨_, _, rfl, h1, l1⟩
def F_laws_FnExactGain (x_aL : List PCredit) (x_aA : PAddr) (x_aN : Int) : (Bool) := bif (decide ((F_laws_szCreditS x_aL 1048576) < 0)) then (true) else (bif (eqF_PCredit (F_impl_Gain (cpL x_aL) (F_laws_toAddr x_aA) x_aN) (F_spec_Gain (cpL x_aL) (F_laws_toAddr x_aA) x_aN)) then (bif (eqF_PCredit (cpL x_aL) (cpL x_aL)) then (bif (decide ((1 + 4 * ((cpL x_aL).length : Int)) < 0)) then (false) else (bif (decide ((heldL hC_PCredit (marksL mk_PCredit 4 1 (F_impl_Gain (cpL x_aL) (F_laws_toAddr x_aA) x_aN).length) 1) < 0)) then (false) else (bif (decide ((heldL hC_PCredit (marksL mk_PCredit 4 1 (F_impl_Gain (cpL x_aL) (F_laws_toAddr x_aA) x_aN).length) 1) = (1 + 4 * ((F_impl_Gain (cpL x_aL) (F_laws_toAddr x_aA) x_aN).length : Int)))) then (true) else (false)))) else (false)) else (false))
theorem C_laws_FnExactGain (w0 : World) (v_x_aL : Value) (x_aL : List PCredit) (r_x_aL : Q_79 w0 v_x_aL x_aL) (v_x_aA : Value) (x_aA : PAddr) (r_x_aA : Q_56 w0 v_x_aA x_aA) (x_aN : Int)  : Fn Try.prog 12 #[v_x_aL, v_x_aA, (vi x_aN)] w0 (fun v w' => Keep w0 w' ∧ O_4 w' w0.heap.size v (F_laws_FnExactGain x_aL x_aA x_aN)) := by
 obtain ⟨a1, c2, rfl, r3, s4⟩ := r_x_aL
 obtain rfl := r_x_aA
 refine fn_of (n := 82) (l := [(vs a1 x_aL.length c2), (va (L_61 x_aA)), (vi x_aN), U, U, U, U, U, U, U, U, U, U, U, U, U, U, U, U, U, U, U, U, U, U, U, U, U, U, U, U, U, U, U, U, U, U, U, U, U, U, U, U, U, U, U, U, U, U, U, U, U, U, U, U, U, U, U, U, U, U, U, U, U, U, U, U, U, U, U, U, U, U, U, U, U, U, U, U, U, U, U]) Try.func12 rfl rfl (by kernel_rfl) rfl ?_
 refine sr ?_
 refine bx (L_61 x_aA) wN ?_
 intro g6 w1 p7 p8 k9 b10
 have m11 := (Ch.base w0).extk k9
 refine ag (vb false) wN ?_
 refine nx ?_
 refine ag (vi 1048576) wN ?_
 refine nx ?_
 refine mv (vs a1 x_aL.length c2) wN ?_
 refine mv (vi 1048576) wN ?_
 refine cl wN (C_laws_szCreditS w1 _ x_aL (mQ_79 (r3.from0 m11) s4) 1048576 (by omega) (by omega)) ?_
 rintro _ w2 ⟨k12, rfl⟩
 have m13 := m11.extk k12
 have q14 := laws_szCreditS_le x_aL 1048576
 refine ag (vi (F_laws_szCreditS x_aL 1048576)) wN ?_
 refine wl_nil <| wq_then <| wc_seq <| sr ?_
 refine mv (vi (F_laws_szCreditS x_aL 1048576)) wN ?_
 refine pu (vb (decide ((F_laws_szCreditS x_aL 1048576) < 0))) wN ?_
 refine wl_nil <| wq_then ?_
 rcases bt (decide ((F_laws_szCreditS x_aL 1048576) < 0)) with h15 | h15
 ·have q16 := of_decide_eq_true h15
  refine ct h15 ?_
  refine sr ?_
  refine ag (vb true) wN ?_
  refine wl_nil <| wq_then <| wc_ret <| wq_then_ret ?_
  refine ret_1 (.inl rfl) (vb true) rfl rfl ?_
  refine ⟨m13.keep0, ?_⟩
  have hF17 : F_laws_FnExactGain x_aL x_aA x_aN = true := by simp only [F_laws_FnExactGain, h15, cond_true, cond_false]
  rw [hF17]
  exact rfl
 have q18 := of_decide_eq_false h15
 refine cf h15 ?_
 refine wc_skip <| wq_then <| wc_seq ?_
 refine wc_draw ([(20, [], [], (fun _ v _ => v = (vs a1 x_aL.length c2))), (21, [], [0], (fun _ v w => ∃ (a1 : Option Addr) (c1 : Nat), v = .slice a1 (cpL x_aL).length c1 ∧ w.ownsRow (w2.heap.size) 114 4 (.slice a1 (cpL x_aL).length c1) (cpL x_aL).length ((cpL x_aL).flatMap enc_PCredit) ∧ (cpL x_aL).length ≤ 1073741824 ∧ Aps [(a1, c1)])), (22, [], [], (fun _ v _ => v = (.agg #[(vi x_aA.Host), (vi x_aA.Port)]))), (23, [], [0, 1, 2], (fun _ v w => v = .agg #[.int .i64 ((F_laws_toAddr x_aA).Host), .int .i64 ((F_laws_toAddr x_aA).Port)])), (24, [], [], (fun _ v _ => v = (vi x_aN))), (25, [21], [0, 1, 2, 3, 4], (fun e v w => ∃ (a1 : Option Addr) (c1 : Nat), v = .slice a1 (F_spec_Gain (cpL x_aL) (F_laws_toAddr x_aA) x_aN).length c1 ∧ w.ownsRow (w2.heap.size) 114 4 (.slice a1 (F_spec_Gain (cpL x_aL) (F_laws_toAddr x_aA) x_aN).length c1) (F_spec_Gain (cpL x_aL) (F_laws_toAddr x_aA) x_aN).length ((F_spec_Gain (cpL x_aL) (F_laws_toAddr x_aA) x_aN).flatMap enc_PCredit) ∧ (F_spec_Gain (cpL x_aL) (F_laws_toAddr x_aA) x_aN).length ≤ 1073741824 ∧ Aps [(a1, c1)] ∧ Ap (sp (e 21)) (a1, c1)))] : GV) mixed rfl (by kernel_rfl) (by kernel_rfl) ?_ ?_ ?_
 · exact ⟨(fun _ _ _ _ h _ => h), (fun _ _ _ _ _ h => h), ⟨(fun e v w w1 h hk => by obtain ⟨a0x, c0x, he, o0x, l0x, hap⟩ := h; exact ⟨a0x, c0x, he, own_kp o0x hk, l0x, hap⟩), (fun _ _ _ _ _ h => h), ⟨(fun _ _ _ _ h _ => h), (fun _ _ _ _ _ h => h), ⟨(fun _ _ _ _ h _ => h), (fun _ _ _ _ _ h => h), ⟨(fun _ _ _ _ h _ => h), (fun _ _ _ _ _ h => h), ⟨(fun e v w w1 h hk => by obtain ⟨a0x, c0x, he, o0x, l0x, hap, hx⟩ := h; exact ⟨a0x, c0x, he, own_kp o0x hk, l0x, hap, hx⟩), (fun e1 e2 v w hx h => by have h21x := hx 21 (by simp); simp only [h21x] at h; exact h), trivial⟩⟩⟩⟩⟩⟩
 ·refine ⟨?_, ⟨?_, ⟨?_, ⟨?_, ⟨?_, ⟨?_, trivial⟩⟩⟩⟩⟩⟩
  ·intro w3 k52
   have m53 := m13.extk k52
   rintro _ _ _ _ _ _
   show WL _ _ _ _ _ _ _
   refine mv (vs a1 x_aL.length c2) wN ?_
   exact wl_fin (Ch.refl _ _) rfl
  ·intro w3 k54
   have m55 := m13.extk k54
   rintro _ rfl _ _ _ _ _
   show WL _ _ _ _ _ _ _
   refine cl wN (C_laws_toCreditS w3 _ x_aL (mR_79 (r3.from0 m55) (by omega))) ?_
   rintro _ w4 ⟨k56, ⟨a57, c58, rfl, o59, s60, ap62⟩⟩
   have m63 := m55.extk k56
   exact wl_fin k56 ⟨_, _, rfl, (own_lo o59 k54.size), s60, ap62⟩
  ·intro w3 k64
   have m65 := m13.extk k64
   rintro _ _ _ _ _ _
   show WL _ _ _ _ _ _ _
   have b66 := ((b10.kp k12).kp k64)
   refine lN (L_61 x_aA) wN isAgg_56 sizeOf_56 b66 ?_
   exact wl_fin (Ch.refl _ _) rfl
  ·intro w3 k67
   have m68 := m13.extk k67
   rintro _ rfl _ ⟨a69, c70, rfl, o71, s72, ap74⟩ _ rfl _ _ _
   show WL _ _ _ _ _ _ _
   refine cl wN (C_laws_toAddr w3 _ x_aA (mR_56)) ?_
   rintro _ w4 ⟨k76, rfl⟩
   have m77 := m68.extk k76
   exact wl_fin k76 rfl
  ·intro w3 k78
   have m79 := m13.extk k78
   rintro _ _ _ _ _ _
   show WL _ _ _ _ _ _ _
   refine mv (vi x_aN) wN ?_
   exact wl_fin (Ch.refl _ _) rfl
  ·intro w3 k80
   have m81 := m13.extk k80
   rintro _ rfl _ ⟨a82, c83, rfl, o84, s85, ap87⟩ _ rfl _ rfl _ rfl _
   show WL _ _ _ _ _ _ _
   refine cl wN (C_spec_Gain w3 _ (cpL x_aL) (mR_81 (Rd.of_own o84) s85) _ (F_laws_toAddr x_aA) (mR_61) x_aN) ?_
   rintro _ w4 ⟨k89, ⟨a90, c91, rfl, o92, s93, ap95⟩⟩
   have m96 := m81.extk k89
   exact wl_fin k89 ⟨_, _, rfl, (own_lo o92 k80.size), s93, ap95, (Ap.lt o84 o92 (Nat.le_refl _))⟩
 ·intro w3 k97
  have m98 := m13.extk k97
  rintro _ rfl _ ⟨a99, c100, rfl, o101, s102, ap104⟩ _ rfl _ rfl _ rfl _ ⟨a106, c107, rfl, o108, s109, ap111, hx112⟩
  show WL _ _ _ _ _ _ _
  refine ag (vs a106 (F_spec_Gain (cpL x_aL) (F_laws_toAddr x_aA) x_aN).length c107) wN ?_
  refine nx ?_
  refine mv (vs a1 x_aL.length c2) wN ?_
  refine cl wN (C_laws_toCreditS w3 _ x_aL (mR_79 (r3.from0 m98) (by omega))) ?_
  rintro _ w4 ⟨k113, ⟨a114, c115, rfl, o116, s117, ap119⟩⟩
  have m120 := m98.extk k113
  refine ag (vs a114 (cpL x_aL).length c115) wN ?_
  refine nx ?_
  refine mv (vs a114 (cpL x_aL).length c115) wN ?_
  have b121 := (((b10.kp k12).kp k97).kp k113)
  refine lN (L_61 x_aA) wN isAgg_56 sizeOf_56 b121 ?_
  refine cl wN (C_laws_toAddr w4 _ x_aA (mR_56)) ?_
  rintro _ w5 ⟨k122, rfl⟩
  have m123 := m120.extk k122
  refine mv (vi x_aN) wN ?_
  have o124 := (own_kp o116 k122)
  refine cl wN (C_impl_Gain w5 _ (cpL x_aL) (mR_81 (Rd.of_own o124) s117) _ (F_laws_toAddr x_aA) (mR_61) x_aN) ?_
  rintro _ w6 ⟨k125, ⟨a126, c127, rfl, o128, s129, ap131⟩⟩
  have m132 := m123.extk k125
  refine ag (vs a126 (F_impl_Gain (cpL x_aL) (F_laws_toAddr x_aA) x_aN).length c127) wN ?_
  refine wl_nil <| wq_then <| wc_seq <| sr ?_
  refine mv (vs a126 (F_impl_Gain (cpL x_aL) (F_laws_toAddr x_aA) x_aN).length c127) wN ?_
  refine mv (vs a106 (F_spec_Gain (cpL x_aL) (F_laws_toAddr x_aA) x_aN).length c107) wN ?_
  have o133 := (own_kp (own_kp (own_kp o108 k113) k122) k125)
  refine cl wN (C_laws_eqCreditS w6 _ (F_impl_Gain (cpL x_aL) (F_laws_toAddr x_aA) x_aN) (mR_81 (Rd.of_own o128) s129) _ (F_spec_Gain (cpL x_aL) (F_laws_toAddr x_aA) x_aN) (mR_81 (Rd.of_own o133) s109)) ?_
  rintro _ w7 ⟨k134, rfl⟩
  have m135 := m132.extk k134
  refine pu (vb (!(eqF_PCredit (F_impl_Gain (cpL x_aL) (F_laws_toAddr x_aA) x_aN) (F_spec_Gain (cpL x_aL) (F_laws_toAddr x_aA) x_aN)))) wN ?_
  refine wl_nil <| wq_then ?_
  rcases bf (eqF_PCredit (F_impl_Gain (cpL x_aL) (F_laws_toAddr x_aA) x_aN) (F_spec_Gain (cpL x_aL) (F_laws_toAddr x_aA) x_aN)) with h136 | h136
  ·refine ct (congrArg not h136) ?_
   refine sr ?_
   refine ag (vb false) wN ?_
   refine wl_nil <| wq_then <| wc_ret <| wq_then_ret ?_
   refine ret_1 (.inl rfl) (vb false) rfl rfl ?_
   refine ⟨m135.keep0, ?_⟩
   have hF284 : F_laws_FnExactGain x_aL x_aA x_aN = false := by simp only [F_laws_FnExactGain, h15, h136, cond_true, cond_false]
   rw [hF284]
   exact rfl
  refine cf (congrArg not h136) ?_
  refine wc_skip <| wq_then <| wc_seq <| sr ?_
  refine mv (vs a114 (cpL x_aL).length c115) wN ?_
  refine mv (vs a1 x_aL.length c2) wN ?_
  refine cl wN (C_laws_toCreditS w7 _ x_aL (mR_79 (r3.from0 m135) (by omega))) ?_
  rintro _ w8 ⟨k138, ⟨a139, c140, rfl, o141, s142, ap144⟩⟩
  have m145 := m135.extk k138
  have o146 := (own_kp (own_kp (own_kp o124 k125) k134) k138)
  refine cl wN (C_laws_eqCreditS w8 _ (cpL x_aL) (mR_81 (Rd.of_own o146) s117) _ (cpL x_aL) (mR_81 (Rd.of_own o141) s142)) ?_
  rintro _ w9 ⟨k147, rfl⟩
  have m148 := m145.extk k147
  refine pu (vb (!(eqF_PCredit (cpL x_aL) (cpL x_aL)))) wN ?_
  refine wl_nil <| wq_then ?_
  rcases bf (eqF_PCredit (cpL x_aL) (cpL x_aL)) with h149 | h149
  ·refine ct (congrArg not h149) ?_
   refine sr ?_
   refine ag (vb false) wN ?_
   refine wl_nil <| wq_then <| wc_ret <| wq_then_ret ?_
   refine ret_1 (.inl rfl) (vb false) rfl rfl ?_
   refine ⟨m148.keep0, ?_⟩
   have hF282 : F_laws_FnExactGain x_aL x_aA x_aN = false := by simp only [F_laws_FnExactGain, h15, h136, h149, cond_true, cond_false]
   rw [hF282]
   exact rfl
  refine cf (congrArg not h149) ?_
  refine wc_skip <| wq_then <| sr ?_
  refine ag (vi 1) wN ?_
  refine nx ?_
  refine mv (vs a114 (cpL x_aL).length c115) wN ?_
  refine mv (vi 1) wN ?_
  have o151 := (own_kp o146 k147)
  refine cl wN (C_laws_markCreditS w9 a114 c115 (cpL x_aL) 1 (by omega) (by omega) s117 (Rd.of_own o151) (Wp.of o151)) ?_
  rintro _ w10 ⟨rfl, k152, r153⟩
  have m154 := m148.ext k152 (fun k hk => ms_ge (ms_ge_cons (fun hn x hx => Nat.le_trans (Nat.le_trans (Nat.le_trans k9.size k12.size) k97.size) (own_lt o116 x.block (by rw [hx]; rfl)).1) ms_ge_nil) hk)
  refine ag (vi (1 + 4 * ((cpL x_aL).length : Int))) wN ?_
  refine wl_nil <| wq_then <| wc_seq <| sr ?_
  refine mv (vi (1 + 4 * ((cpL x_aL).length : Int))) wN ?_
  refine pu (vb (decide ((1 + 4 * ((cpL x_aL).length : Int)) < 0))) wN ?_
  refine mv (vb (decide ((1 + 4 * ((cpL x_aL).length : Int)) < 0))) wN ?_
  rcases bt (decide ((1 + 4 * ((cpL x_aL).length : Int)) < 0)) with h155 | h155
  ·have q156 := of_decide_eq_true h155
   refine sk h155 ?_
   refine sk h155 ?_
   refine sk h155 ?_
   refine sk h155 ?_
   refine pk (vb true) wN h155 ?_
   refine wl_nil <| wq_then ?_
   refine ct (Eq.refl true) ?_
   refine sr ?_
   refine ag (vb false) wN ?_
   refine wl_nil <| wq_then <| wc_ret <| wq_then_ret ?_
   refine ret_1 (.inl rfl) (vb false) rfl rfl ?_
   refine ⟨m154.keep0, ?_⟩
   have hF157 : F_laws_FnExactGain x_aL x_aA x_aN = false := by simp only [F_laws_FnExactGain, h15, h136, h149, h155, cond_true, cond_false]
   rw [hF157]
   exact rfl
  have q158 := of_decide_eq_false h155
  refine mv (vs a126 (F_impl_Gain (cpL x_aL) (F_laws_toAddr x_aA) x_aN).length c127) (wS h155) ?_
  refine mv (vs a106 (F_spec_Gain (cpL x_aL) (F_laws_toAddr x_aA) x_aN).length c107) (wS h155) ?_
  have r159 := (Rd.ms (l := [(a114, (cpL x_aL).length, c115)]) ((((Rd.of_own o128).kp k134).kp k138).kp k147) rfl k152 (ap_cons (rd_cap (Rd.of_own o151)) (Ap.lt o116 o128 k122.size) ap_nil))
  have r160 := (Rd.ms (l := [(a114, (cpL x_aL).length, c115)]) ((((Rd.of_own o133).kp k134).kp k138).kp k147) rfl k152 (ap_cons (rd_cap (Rd.of_own o151)) (Ap.lt o108 o116 (Nat.le_refl _)).symm ap_nil))
  refine cl (wS h155) (C_laws_eqCreditS w10 _ (F_impl_Gain (cpL x_aL) (F_laws_toAddr x_aA) x_aN) (mR_81 r159 s129) _ (F_spec_Gain (cpL x_aL) (F_laws_toAddr x_aA) x_aN) (mR_81 r160 s109)) ?_
  rintro _ w11 ⟨k161, rfl⟩
  have m162 := m154.extk k161
  refine pu (vb (!(eqF_PCredit (F_impl_Gain (cpL x_aL) (F_laws_toAddr x_aA) x_aN) (F_spec_Gain (cpL x_aL) (F_laws_toAddr x_aA) x_aN)))) (wS h155) ?_
  refine pf (vb (!(eqF_PCredit (F_impl_Gain (cpL x_aL) (F_laws_toAddr x_aA) x_aN) (F_spec_Gain (cpL x_aL) (F_laws_toAddr x_aA) x_aN)))) wN h155 ?_
  refine wl_nil <| wq_then ?_
  refine cf (congrArg not h136) ?_
  refine wc_skip <| wq_then <| sr ?_
  refine ag (vi 1) wN ?_
  refine nx ?_
  refine mv (vs a126 (F_impl_Gain (cpL x_aL) (F_laws_toAddr x_aA) x_aN).length c127) wN ?_
  refine mv (vi 1) wN ?_
  have r163 := (r159.kp k161)
  have wp164 : Wp w11 114 a126 (F_impl_Gain (cpL x_aL) (F_laws_toAddr x_aA) x_aN).length c127 _ 4 := (Wp.kp (Wp.ms (l := [(a114, (cpL x_aL).length, c115)]) (Wp.kp (Wp.kp (Wp.kp (Wp.of o128) k134) k138) k147) (rd_cap r163) rfl k152 (ap_cons (rd_cap (Rd.of_own o151)) (Ap.lt o116 o128 k122.size) ap_nil)) k161)
  refine cl wN (C_laws_markCreditS w11 a126 c127 (F_impl_Gain (cpL x_aL) (F_laws_toAddr x_aA) x_aN) 1 (by omega) (by omega) s129 r163 wp164) ?_
  rintro _ w12 ⟨rfl, k165, r166⟩
  have m167 := m162.ext k165 (fun k hk => ms_ge (ms_ge_cons (fun hn x hx => Nat.le_trans (Nat.le_trans (Nat.le_trans (Nat.le_trans (Nat.le_trans k9.size k12.size) k97.size) k113.size) k122.size) (own_lt o128 x.block (by rw [hx]; rfl)).1) ms_ge_nil) hk)
  refine ag (vi (1 + 4 * ((F_impl_Gain (cpL x_aL) (F_laws_toAddr x_aA) x_aN).length : Int))) wN ?_
  refine nx ?_
  refine ag (vi 1) wN ?_
  refine nx ?_
  refine mv (vs a126 (F_impl_Gain (cpL x_aL) (F_laws_toAddr x_aA) x_aN).length c127) wN ?_
  refine mv (vi 1) wN ?_
  refine cl wN (C_laws_heldCreditS w12 (vs a126 (F_impl_Gain (cpL x_aL) (F_laws_toAddr x_aA) x_aN).length c127) (marksL mk_PCredit 4 1 (F_impl_Gain (cpL x_aL) (F_laws_toAddr x_aA) x_aN).length) (show R_81 w12 (vs a126 (F_impl_Gain (cpL x_aL) (F_laws_toAddr x_aA) x_aN).length c127) (marksL mk_PCredit 4 1 (F_impl_Gain (cpL x_aL) (F_laws_toAddr x_aA) x_aN).length) from ⟨a126, c127, by simp only [marksB_len, marksI_len, marksL_len], by simpa only [marksB_len, marksI_len, marksL_len] using r166, by simp only [marksB_len, marksI_len, marksL_len]; first | exact s129 | omega⟩) 1 (by omega) (by omega)) ?_
  rintro _ w13 ⟨k168, rfl⟩
  have m169 := m167.extk k168
  have q170 := hL_PCredit_le (marksL mk_PCredit 4 1 (F_impl_Gain (cpL x_aL) (F_laws_toAddr x_aA) x_aN).length) 1 (by omega)
  refine ag (vi (heldL hC_PCredit (marksL mk_PCredit 4 1 (F_impl_Gain (cpL x_aL) (F_laws_toAddr x_aA) x_aN).length) 1)) wN ?_
  refine wl_nil <| wq_then <| wc_seq <| sr ?_
  refine mv (vi (heldL hC_PCredit (marksL mk_PCredit 4 1 (F_impl_Gain (cpL x_aL) (F_laws_toAddr x_aA) x_aN).length) 1)) wN ?_
  refine pu (vb (decide ((heldL hC_PCredit (marksL mk_PCredit 4 1 (F_impl_Gain (cpL x_aL) (F_laws_toAddr x_aA) x_aN).length) 1) < 0))) wN ?_
  refine wl_nil <| wq_then ?_
  rcases bt (decide ((heldL hC_PCredit (marksL mk_PCredit 4 1 (F_impl_Gain (cpL x_aL) (F_laws_toAddr x_aA) x_aN).length) 1) < 0)) with h171 | h171
  ·have q172 := of_decide_eq_true h171
   refine ct h171 ?_
   refine sr ?_
   refine ag (vb false) wN ?_
   refine wl_nil <| wq_then <| wc_ret <| wq_then_ret ?_
   refine ret_1 (.inl rfl) (vb false) rfl rfl ?_
   refine ⟨m169.keep0, ?_⟩
   have hF173 : F_laws_FnExactGain x_aL x_aA x_aN = false := by simp only [F_laws_FnExactGain, h15, h136, h149, h155, h171, cond_true, cond_false]
   rw [hF173]
   exact rfl
  have q174 := of_decide_eq_false h171
  refine cf h171 ?_
  refine wc_skip <| wq_then <| wc_seq <| sr ?_
  refine mv (vi (heldL hC_PCredit (marksL mk_PCredit 4 1 (F_impl_Gain (cpL x_aL) (F_laws_toAddr x_aA) x_aN).length) 1)) wN ?_
  refine mv (vi (1 + 4 * ((F_impl_Gain (cpL x_aL) (F_laws_toAddr x_aA) x_aN).length : Int))) wN ?_
  refine pu (vb (!(decide ((heldL hC_PCredit (marksL mk_PCredit 4 1 (F_impl_Gain (cpL x_aL) (F_laws_toAddr x_aA) x_aN).length) 1) = (1 + 4 * ((F_impl_Gain (cpL x_aL) (F_laws_toAddr x_aA) x_aN).length : Int)))))) wN ?_
  refine wl_nil <| wq_then ?_
  rcases bf (decide ((heldL hC_PCredit (marksL mk_PCredit 4 1 (F_impl_Gain (cpL x_aL) (F_laws_toAddr x_aA) x_aN).length) 1) = (1 + 4 * ((F_impl_Gain (cpL x_aL) (F_laws_toAddr x_aA) x_aN).length : Int)))) with h175 | h175
  ·have q279 := of_decide_eq_false h175
   refine ct (congrArg not h175) ?_
   refine sr ?_
   refine ag (vb false) wN ?_
   refine wl_nil <| wq_then <| wc_ret <| wq_then_ret ?_
   refine ret_1 (.inl rfl) (vb false) rfl rfl ?_
   refine ⟨m169.keep0, ?_⟩
   have hF280 : F_laws_FnExactGain x_aL x_aA x_aN = false := by simp only [F_laws_FnExactGain, h15, h136, h149, h155, h171, h175, cond_true, cond_false]
   rw [hF280]
   exact rfl
  have q176 := of_decide_eq_true h175
  refine cf (congrArg not h175) ?_
  refine wc_skip <| wq_then <| wc_seq ?_
  refine wc_draw ([(64, [], [], (fun _ v _ => v = (vs a1 x_aL.length c2))), (65, [], [0], (fun _ v w => ∃ (a1 : Option Addr) (c1 : Nat), v = .slice a1 (cpL x_aL).length c1 ∧ w.ownsRow (w13.heap.size) 114 4 (.slice a1 (cpL x_aL).length c1) (cpL x_aL).length ((cpL x_aL).flatMap enc_PCredit) ∧ (cpL x_aL).length ≤ 1073741824 ∧ Aps [(a1, c1)])), (66, [], [], (fun _ v _ => v = (.agg #[(vi x_aA.Host), (vi x_aA.Port)]))), (67, [], [0, 1, 2], (fun _ v w => v = .agg #[.int .i64 ((F_laws_toAddr x_aA).Host), .int .i64 ((F_laws_toAddr x_aA).Port)])), (68, [], [], (fun _ v _ => v = (vi x_aN))), (69, [65], [0, 1, 2, 3, 4], (fun e v w => ∃ (a1 : Option Addr) (c1 : Nat), v = .slice a1 (F_impl_Gain (cpL x_aL) (F_laws_toAddr x_aA) x_aN).length c1 ∧ w.ownsRow (w13.heap.size) 114 4 (.slice a1 (F_impl_Gain (cpL x_aL) (F_laws_toAddr x_aA) x_aN).length c1) (F_impl_Gain (cpL x_aL) (F_laws_toAddr x_aA) x_aN).length ((F_impl_Gain (cpL x_aL) (F_laws_toAddr x_aA) x_aN).flatMap enc_PCredit) ∧ (F_impl_Gain (cpL x_aL) (F_laws_toAddr x_aA) x_aN).length ≤ 1073741824 ∧ Aps [(a1, c1)] ∧ Ap (sp (e 65)) (a1, c1)))] : GV) mixed rfl (by kernel_rfl) (by kernel_rfl) ?_ ?_ ?_
  · exact ⟨(fun _ _ _ _ h _ => h), (fun _ _ _ _ _ h => h), ⟨(fun e v w w1 h hk => by obtain ⟨a0x, c0x, he, o0x, l0x, hap⟩ := h; exact ⟨a0x, c0x, he, own_kp o0x hk, l0x, hap⟩), (fun _ _ _ _ _ h => h), ⟨(fun _ _ _ _ h _ => h), (fun _ _ _ _ _ h => h), ⟨(fun _ _ _ _ h _ => h), (fun _ _ _ _ _ h => h), ⟨(fun _ _ _ _ h _ => h), (fun _ _ _ _ _ h => h), ⟨(fun e v w w1 h hk => by obtain ⟨a0x, c0x, he, o0x, l0x, hap, hx⟩ := h; exact ⟨a0x, c0x, he, own_kp o0x hk, l0x, hap, hx⟩), (fun e1 e2 v w hx h => by have h65x := hx 65 (by simp); simp only [h65x] at h; exact h), trivial⟩⟩⟩⟩⟩⟩
  ·refine ⟨?_, ⟨?_, ⟨?_, ⟨?_, ⟨?_, ⟨?_, trivial⟩⟩⟩⟩⟩⟩
   ·intro w14 k210
    have m211 := m169.extk k210
    rintro _ _ _ _ _ _
    show WL _ _ _ _ _ _ _
    refine mv (vs a1 x_aL.length c2) wN ?_
    exact wl_fin (Ch.refl _ _) rfl
   ·intro w14 k212
    have m213 := m169.extk k212
    rintro _ rfl _ _ _ _ _
    show WL _ _ _ _ _ _ _
    refine cl wN (C_laws_toCreditS w14 _ x_aL (mR_79 (r3.from0 m213) (by omega))) ?_
    rintro _ w15 ⟨k214, ⟨a215, c216, rfl, o217, s218, ap220⟩⟩
    have m221 := m213.extk k214
    exact wl_fin k214 ⟨_, _, rfl, (own_lo o217 k212.size), s218, ap220⟩
   ·intro w14 k222
    have m223 := m169.extk k222
    rintro _ _ _ _ _ _
    show WL _ _ _ _ _ _ _
    have b224 := ((((((((((b121.kp k122).kp k125).kp k134).kp k138).kp k147).ch k152 (ms_lo (ms_lo_cons (fun hn x hx hb => by have := (own_lt o116 x.block (by rw [hx]; rfl)).1; have := Nat.lt_of_lt_of_le p8 (Nat.le_trans k12.size k97.size); omega) ms_lo_nil))).kp k161).ch k165 (ms_lo (ms_lo_cons (fun hn x hx hb => by have := (own_lt o128 x.block (by rw [hx]; rfl)).1; have := Nat.lt_of_lt_of_le p8 (Nat.le_trans (Nat.le_trans (Nat.le_trans k12.size k97.size) k113.size) k122.size); omega) ms_lo_nil))).kp k168).kp k222)
    refine lN (L_61 x_aA) wN isAgg_56 sizeOf_56 b224 ?_
    exact wl_fin (Ch.refl _ _) rfl
   ·intro w14 k225
    have m226 := m169.extk k225
    rintro _ rfl _ ⟨a227, c228, rfl, o229, s230, ap232⟩ _ rfl _ _ _
    show WL _ _ _ _ _ _ _
    refine cl wN (C_laws_toAddr w14 _ x_aA (mR_56)) ?_
    rintro _ w15 ⟨k234, rfl⟩
    have m235 := m226.extk k234
    exact wl_fin k234 rfl
   ·intro w14 k236
    have m237 := m169.extk k236
    rintro _ _ _ _ _ _
    show WL _ _ _ _ _ _ _
    refine mv (vi x_aN) wN ?_
    exact wl_fin (Ch.refl _ _) rfl
   ·intro w14 k238
    have m239 := m169.extk k238
    rintro _ rfl _ ⟨a240, c241, rfl, o242, s243, ap245⟩ _ rfl _ rfl _ rfl _
    show WL _ _ _ _ _ _ _
    refine cl wN (C_impl_Gain w14 _ (cpL x_aL) (mR_81 (Rd.of_own o242) s243) _ (F_laws_toAddr x_aA) (mR_61) x_aN) ?_
    rintro _ w15 ⟨k247, ⟨a248, c249, rfl, o250, s251, ap253⟩⟩
    have m254 := m239.extk k247
    exact wl_fin k247 ⟨_, _, rfl, (own_lo o250 k238.size), s251, ap253, (Ap.lt o242 o250 (Nat.le_refl _))⟩
  ·intro w14 k255
   have m256 := m169.extk k255
   rintro _ rfl _ ⟨a257, c258, rfl, o259, s260, ap262⟩ _ rfl _ rfl _ rfl _ ⟨a264, c265, rfl, o266, s267, ap269, hx270⟩
   show WL _ _ _ _ _ _ _
   refine ag (vs a264 (F_impl_Gain (cpL x_aL) (F_laws_toAddr x_aA) x_aN).length c265) wN ?_
   refine wl_nil <| wq_then <| wc_seq <| sr ?_
   refine mv (vs a264 (F_impl_Gain (cpL x_aL) (F_laws_toAddr x_aA) x_aN).length c265) wN ?_
   refine mv (vs a106 (F_spec_Gain (cpL x_aL) (F_laws_toAddr x_aA) x_aN).length c107) wN ?_
   have r271 := (((Rd.ms (l := [(a126, (F_impl_Gain (cpL x_aL) (F_laws_toAddr x_aA) x_aN).length, c127)]) (r160.kp k161) rfl k165 (ap_cons (rd_cap r163) (Ap.lt o108 o128 (Nat.le_trans k113.size k122.size)).symm ap_nil)).kp k168).kp k255)
   refine cl wN (C_laws_eqCreditS w14 _ (F_impl_Gain (cpL x_aL) (F_laws_toAddr x_aA) x_aN) (mR_81 (Rd.of_own o266) s267) _ (F_spec_Gain (cpL x_aL) (F_laws_toAddr x_aA) x_aN) (mR_81 r271 s109)) ?_
   rintro _ w15 ⟨k272, rfl⟩
   have m273 := m256.extk k272
   refine pu (vb (!(eqF_PCredit (F_impl_Gain (cpL x_aL) (F_laws_toAddr x_aA) x_aN) (F_spec_Gain (cpL x_aL) (F_laws_toAddr x_aA) x_aN)))) wN ?_
   refine wl_nil <| wq_then ?_
   refine cf (congrArg not h136) ?_
   refine wc_skip <| wq_then <| sr ?_
   refine ag (vi 1) wN ?_
   refine nx ?_
   refine mv (vs a126 (F_impl_Gain (cpL x_aL) (F_laws_toAddr x_aA) x_aN).length c127) wN ?_
   refine mv (vi 1) wN ?_
   have r274 := (((r166.kp k168).kp k255).kp k272)
   refine cl wN (C_laws_heldCreditS w15 (vs a126 (F_impl_Gain (cpL x_aL) (F_laws_toAddr x_aA) x_aN).length c127) (marksL mk_PCredit 4 1 (F_impl_Gain (cpL x_aL) (F_laws_toAddr x_aA) x_aN).length) (show R_81 w15 (vs a126 (F_impl_Gain (cpL x_aL) (F_laws_toAddr x_aA) x_aN).length c127) (marksL mk_PCredit 4 1 (F_impl_Gain (cpL x_aL) (F_laws_toAddr x_aA) x_aN).length) from ⟨a126, c127, by simp only [marksB_len, marksI_len, marksL_len], by simpa only [marksB_len, marksI_len, marksL_len] using r274, by simp only [marksB_len, marksI_len, marksL_len]; first | exact s129 | omega⟩) 1 (by omega) (by omega)) ?_
   rintro _ w16 ⟨k275, rfl⟩
   have m276 := m273.extk k275
   have q277 := hL_PCredit_le (marksL mk_PCredit 4 1 (F_impl_Gain (cpL x_aL) (F_laws_toAddr x_aA) x_aN).length) 1 (by omega)
   refine ag (vi (heldL hC_PCredit (marksL mk_PCredit 4 1 (F_impl_Gain (cpL x_aL) (F_laws_toAddr x_aA) x_aN).length) 1)) wN ?_
   refine wl_nil <| wq_then <| wc_seq <| sr ?_
   refine mv (vi (heldL hC_PCredit (marksL mk_PCredit 4 1 (F_impl_Gain (cpL x_aL) (F_laws_toAddr x_aA) x_aN).length) 1)) wN ?_
   refine pu (vb (decide ((heldL hC_PCredit (marksL mk_PCredit 4 1 (F_impl_Gain (cpL x_aL) (F_laws_toAddr x_aA) x_aN).length) 1) < 0))) wN ?_
   refine wl_nil <| wq_then ?_
   refine cf h171 ?_
   refine wc_skip <| wq_then <| wc_seq <| sr ?_
   refine mv (vi (heldL hC_PCredit (marksL mk_PCredit 4 1 (F_impl_Gain (cpL x_aL) (F_laws_toAddr x_aA) x_aN).length) 1)) wN ?_
   refine mv (vi (1 + 4 * ((F_impl_Gain (cpL x_aL) (F_laws_toAddr x_aA) x_aN).length : Int))) wN ?_
   refine pu (vb (!(decide ((heldL hC_PCredit (marksL mk_PCredit 4 1 (F_impl_Gain (cpL x_aL) (F_laws_toAddr x_aA) x_aN).length) 1) = (1 + 4 * ((F_impl_Gain (cpL x_aL) (F_laws_toAddr x_aA) x_aN).length : Int)))))) wN ?_
   refine wl_nil <| wq_then ?_
   refine cf (congrArg not h175) ?_
   refine wc_skip <| wq_then <| sr ?_
   refine ag (vb true) wN ?_
   refine wl_nil <| wq_then <| wc_ret ?_
   refine ret_1 (.inl rfl) (vb true) rfl rfl ?_
   refine ⟨m276.keep0, ?_⟩
   have hF278 : F_laws_FnExactGain x_aL x_aA x_aN = true := by simp only [F_laws_FnExactGain, h15, h136, h149, h155, h171, h175, cond_true, cond_false]
   rw [hF278]
   exact rfl

def F_spec_RoomFor (x_l : List PCredit) (x_a : PAddr) : (Int) := bif (sCr x_l) then (bif (decide ((creditAt x_l x_a) < 0)) then (0) else (((3 * ((x_l.getD ((creditAt x_l x_a)).toNat z_PCredit).Got)) - ((x_l.getD ((creditAt x_l x_a)).toNat z_PCredit).Sent)))) else (0)
theorem C_spec_RoomFor (w0 : World) (v_x_l : Value) (x_l : List PCredit) (r_x_l : R_81 w0 v_x_l x_l) (v_x_a : Value) (x_a : PAddr) (r_x_a : R_61 w0 v_x_a x_a)  : Fn Try.prog 59 #[v_x_l, v_x_a] w0 (fun v w' => Keep w0 w' ∧ O_3 w' w0.heap.size v (F_spec_RoomFor x_l x_a)) := by
 obtain ⟨a1, c2, rfl, r3, s4⟩ := r_x_l
 obtain rfl := r_x_a
 refine fn_of (n := 28) (l := [(vs a1 x_l.length c2), (va (L_61 x_a)), U, U, U, U, U, U, U, U, U, U, U, U, U, U, U, U, U, U, U, U, U, U, U, U, U, U]) Try.func59 rfl rfl (by kernel_rfl) rfl ?_
 refine sr ?_
 refine bx (L_61 x_a) wN ?_
 intro g6 w1 p7 p8 k9 b10
 have m11 := (Ch.base w0).extk k9
 refine ag (vi 0) wN ?_
 refine nx ?_
 refine mv (vs a1 x_l.length c2) wN ?_
 refine lN (L_61 x_a) wN isAgg_61 sizeOf_61 b10 ?_
 refine cl wN (C_spec_l17At w1 _ x_l (mR_81 (r3.from0 m11) s4) _ x_a (mR_61)) ?_
 rintro _ w2 ⟨k12, rfl⟩
 have m13 := m11.extk k12
 have q14 := creditAt_range x_l x_a
 have q15 := sCr_got x_l x_a
 refine ag (vi (creditAt x_l x_a)) wN ?_
 refine wl_nil <| wq_then <| wc_seq <| sr ?_
 refine mv (vs a1 x_l.length c2) wN ?_
 refine cl wN (C_spec_CreditsOk w2 _ x_l (mR_81 (r3.from0 m13) s4)) ?_
 rintro _ w3 ⟨k16, rfl⟩
 have m17 := m13.extk k16
 refine pu (vb (!(sCr x_l))) wN ?_
 refine mv (vb (!(sCr x_l))) wN ?_
 rcases bf (sCr x_l) with h18 | h18
 ·refine sk (congrArg not h18) ?_
  refine sk (congrArg not h18) ?_
  refine pk (vb true) wN (congrArg not h18) ?_
  refine wl_nil <| wq_then ?_
  refine ct (Eq.refl true) ?_
  refine sr ?_
  refine ag (vi 0) wN ?_
  refine wl_nil <| wq_then <| wc_ret <| wq_then_ret ?_
  refine ret_1 (.inl rfl) (vi 0) rfl rfl ?_
  refine ⟨m17.keep0, ?_⟩
  have hF52 : F_spec_RoomFor x_l x_a = 0 := by simp only [F_spec_RoomFor, h18, cond_true, cond_false]
  rw [hF52]
  exact rfl
 have q19 := sCr_t h18
 refine mv (vi (creditAt x_l x_a)) (wS (congrArg not h18)) ?_
 refine pu (vb (decide ((creditAt x_l x_a) < 0))) (wS (congrArg not h18)) ?_
 refine pf (vb (decide ((creditAt x_l x_a) < 0))) wN (congrArg not h18) ?_
 refine wl_nil <| wq_then ?_
 rcases bt (decide ((creditAt x_l x_a) < 0)) with h20 | h20
 ·have q21 := of_decide_eq_true h20
  refine ct h20 ?_
  refine sr ?_
  refine ag (vi 0) wN ?_
  refine wl_nil <| wq_then <| wc_ret <| wq_then_ret ?_
  refine ret_1 (.inl rfl) (vi 0) rfl rfl ?_
  refine ⟨m17.keep0, ?_⟩
  have hF22 : F_spec_RoomFor x_l x_a = 0 := by simp only [F_spec_RoomFor, h18, h20, cond_true, cond_false]
  rw [hF22]
  exact rfl
 have q23 := of_decide_eq_false h20
 refine cf h20 ?_
 refine wc_skip <| wq_then <| wc_seq ?_
 refine wc_draw ([(16, [], [], (fun _ v _ => v = (vs a1 x_l.length c2))), (17, [], [], (fun _ v _ => v = (vi (creditAt x_l x_a)))), (18, [], [0, 1], (fun _ v _ => v = (ve (vs a1 x_l.length c2) (((creditAt x_l x_a)).toNat * 4)))), (19, [], [0, 1, 2], (fun _ v _ => v = (ve (vs a1 x_l.length c2) (((creditAt x_l x_a)).toNat * 4 + 2)))), (20, [], [0, 1, 2, 3], (fun _ v _ => v = (vi ((x_l.getD ((creditAt x_l x_a)).toNat z_PCredit).Got)))), (21, [], [0, 1, 2, 3, 4], (fun _ v _ => v = (vi (3 * ((x_l.getD ((creditAt x_l x_a)).toNat z_PCredit).Got))))), (22, [], [], (fun _ v _ => v = (vs a1 x_l.length c2))), (23, [], [], (fun _ v _ => v = (vi (creditAt x_l x_a)))), (24, [], [6, 7], (fun _ v _ => v = (ve (vs a1 x_l.length c2) (((creditAt x_l x_a)).toNat * 4)))), (25, [], [6, 7, 8], (fun _ v _ => v = (ve (vs a1 x_l.length c2) (((creditAt x_l x_a)).toNat * 4 + 3)))), (26, [], [6, 7, 8, 9], (fun _ v _ => v = (vi ((x_l.getD ((creditAt x_l x_a)).toNat z_PCredit).Sent)))), (27, [], [0, 1, 2, 3, 4, 5, 6, 7, 8, 9, 10], (fun _ v _ => v = (vi ((3 * ((x_l.getD ((creditAt x_l x_a)).toNat z_PCredit).Got)) - ((x_l.getD ((creditAt x_l x_a)).toNat z_PCredit).Sent)))))] : GV) mixed rfl (by kernel_rfl) (by kernel_rfl) ?_ ?_ ?_
 · exact ⟨(fun _ _ _ _ h _ => h), (fun _ _ _ _ _ h => h), ⟨(fun _ _ _ _ h _ => h), (fun _ _ _ _ _ h => h), ⟨(fun _ _ _ _ h _ => h), (fun _ _ _ _ _ h => h), ⟨(fun _ _ _ _ h _ => h), (fun _ _ _ _ _ h => h), ⟨(fun _ _ _ _ h _ => h), (fun _ _ _ _ _ h => h), ⟨(fun _ _ _ _ h _ => h), (fun _ _ _ _ _ h => h), ⟨(fun _ _ _ _ h _ => h), (fun _ _ _ _ _ h => h), ⟨(fun _ _ _ _ h _ => h), (fun _ _ _ _ _ h => h), ⟨(fun _ _ _ _ h _ => h), (fun _ _ _ _ _ h => h), ⟨(fun _ _ _ _ h _ => h), (fun _ _ _ _ _ h => h), ⟨(fun _ _ _ _ h _ => h), (fun _ _ _ _ _ h => h), ⟨(fun _ _ _ _ h _ => h), (fun _ _ _ _ _ h => h), trivial⟩⟩⟩⟩⟩⟩⟩⟩⟩⟩⟩⟩
 ·refine ⟨?_, ⟨?_, ⟨?_, ⟨?_, ⟨?_, ⟨?_, ⟨?_, ⟨?_, ⟨?_, ⟨?_, ⟨?_, ⟨?_, trivial⟩⟩⟩⟩⟩⟩⟩⟩⟩⟩⟩⟩
  ·intro w4 k24
   have m25 := m17.extk k24
   rintro _ _ _ _ _ _ _ _ _ _ _ _
   show WL _ _ _ _ _ _ _
   refine mv (vs a1 x_l.length c2) wN ?_
   exact wl_fin (Ch.refl _ _) rfl
  ·intro w4 k26
   have m27 := m17.extk k26
   rintro _ _ _ _ _ _ _ _ _ _ _ _
   show WL _ _ _ _ _ _ _
   refine mv (vi (creditAt x_l x_a)) wN ?_
   exact wl_fin (Ch.refl _ _) rfl
  ·intro w4 k28
   have m29 := m17.extk k28
   rintro _ rfl _ rfl _ _ _ _ _ _ _ _ _ _
   show WL _ _ _ _ _ _ _
   refine wl_index wN (creditAt x_l x_a) rfl rfl rfl slTy_81 rfl rfl (r3.from0 m29) (by first | omega | (simp only [List.length_cons, List.length_nil, List.length_replicate, List.length_append, List.length_take, List.length_set, List.length_map]; omega)) (by first | omega | (simp only [List.length_cons, List.length_nil, List.length_replicate, List.length_append, List.length_take, List.length_set, List.length_map]; omega)) ?_
   exact wl_fin (Ch.refl _ _) rfl
  ·intro w4 k30
   have m31 := m17.extk k30
   rintro _ rfl _ rfl _ rfl _ _ _ _ _ _ _ _ _
   show WL _ _ _ _ _ _ _
   refine wl_fieldE wN rfl rfl rfl fieldAt_114_1 rfl (r3.from0 m31) (by omega) ?_
   exact wl_fin (Ch.refl _ _) rfl
  ·intro w4 k32
   have m33 := m17.extk k32
   rintro _ rfl _ rfl _ rfl _ rfl _ _ _ _ _ _ _ _
   show WL _ _ _ _ _ _ _
   refine wl_loadE (vi ((x_l.getD ((creditAt x_l x_a)).toNat z_PCredit).Got)) wN rfl rfl rfl rfl isAgg_3 (r3.from0 m33) ((rows_get (i := 2) enc_PCredit_len z_PCredit (by first | rfl | simp | omega) (by decide) (by first | omega | (simp only [List.length_cons, List.length_nil, List.length_replicate, List.length_append, List.length_take, List.length_set, List.length_map]; omega))).trans rfl) ?_
   exact wl_fin (Ch.refl _ _) rfl
  ·intro w4 k34
   have m35 := m17.extk k34
   rintro _ rfl _ rfl _ rfl _ rfl _ rfl _ _ _ _ _ _ _
   show WL _ _ _ _ _ _ _
   refine ar (3 * ((x_l.getD ((creditAt x_l x_a)).toNat z_PCredit).Got)) wN ?_
   exact wl_fin (Ch.refl _ _) rfl
  ·intro w4 k36
   have m37 := m17.extk k36
   rintro _ _ _ _ _ _ _ _ _ _ _ _
   show WL _ _ _ _ _ _ _
   refine mv (vs a1 x_l.length c2) wN ?_
   exact wl_fin (Ch.refl _ _) rfl
  ·intro w4 k38
   have m39 := m17.extk k38
   rintro _ _ _ _ _ _ _ _ _ _ _ _
   show WL _ _ _ _ _ _ _
   refine mv (vi (creditAt x_l x_a)) wN ?_
   exact wl_fin (Ch.refl _ _) rfl
  ·intro w4 k40
   have m41 := m17.extk k40
   rintro _ _ _ _ _ _ _ rfl _ rfl _ _ _ _
   show WL _ _ _ _ _ _ _
   refine wl_index wN (creditAt x_l x_a) rfl rfl rfl slTy_81 rfl rfl (r3.from0 m41) (by first | omega | (simp only [List.length_cons, List.length_nil, List.length_replicate, List.length_append, List.length_take, List.length_set, List.length_map]; omega)) (by first | omega | (simp only [List.length_cons, List.length_nil, List.length_replicate, List.length_append, List.length_take, List.length_set, List.length_map]; omega)) ?_
   exact wl_fin (Ch.refl _ _) rfl
  ·intro w4 k42
   have m43 := m17.extk k42
   rintro _ _ _ _ _ _ _ rfl _ rfl _ rfl _ _ _
   show WL _ _ _ _ _ _ _
   refine wl_fieldE wN rfl rfl rfl fieldAt_114_2 rfl (r3.from0 m43) (by omega) ?_
   exact wl_fin (Ch.refl _ _) rfl
  ·intro w4 k44
   have m45 := m17.extk k44
   rintro _ _ _ _ _ _ _ rfl _ rfl _ rfl _ rfl _ _
   show WL _ _ _ _ _ _ _
   refine wl_loadE (vi ((x_l.getD ((creditAt x_l x_a)).toNat z_PCredit).Sent)) wN rfl rfl rfl rfl isAgg_3 (r3.from0 m45) ((rows_get (i := 3) enc_PCredit_len z_PCredit (by first | rfl | simp | omega) (by decide) (by first | omega | (simp only [List.length_cons, List.length_nil, List.length_replicate, List.length_append, List.length_take, List.length_set, List.length_map]; omega))).trans rfl) ?_
   exact wl_fin (Ch.refl _ _) rfl
  ·intro w4 k46
   have m47 := m17.extk k46
   rintro _ rfl _ rfl _ rfl _ rfl _ rfl _ rfl _ rfl _ rfl _ rfl _ rfl _ rfl _
   show WL _ _ _ _ _ _ _
   refine ar ((3 * ((x_l.getD ((creditAt x_l x_a)).toNat z_PCredit).Got)) - ((x_l.getD ((creditAt x_l x_a)).toNat z_PCredit).Sent)) wN ?_
   exact wl_fin (Ch.refl _ _) rfl
 ·intro w4 k48
  have m49 := m17.extk k48
  rintro _ rfl _ rfl _ rfl _ rfl _ rfl _ rfl _ rfl _ rfl _ rfl _ rfl _ rfl _ rfl
  show WL _ _ _ _ _ _ _
  refine ag (vi ((3 * ((x_l.getD ((creditAt x_l x_a)).toNat z_PCredit).Got)) - ((x_l.getD ((creditAt x_l x_a)).toNat z_PCredit).Sent))) wN ?_
  refine wl_nil <| wq_then <| wc_ret ?_
  refine ret_1 (.inl rfl) (vi ((3 * ((x_l.getD ((creditAt x_l x_a)).toNat z_PCredit).Got)) - ((x_l.getD ((creditAt x_l x_a)).toNat z_PCredit).Sent))) rfl rfl ?_
  refine ⟨m49.keep0, ?_⟩
  have hF50 : F_spec_RoomFor x_l x_a = ((3 * ((x_l.getD ((creditAt x_l x_a)).toNat z_PCredit).Got)) - ((x_l.getD ((creditAt x_l x_a)).toNat z_PCredit).Sent)) := by simp only [F_spec_RoomFor, h18, h20, cond_true, cond_false]
  rw [hF50]
  exact rfl

def F_impl_RoomFor (x_l : List PCredit) (x_a : PAddr) : (Int) := bif (iCr x_l) then (bif (decide ((creditAt x_l x_a) < 0)) then (0) else (((3 * ((x_l.getD ((creditAt x_l x_a)).toNat z_PCredit).Got)) - ((x_l.getD ((creditAt x_l x_a)).toNat z_PCredit).Sent)))) else (0)
theorem C_impl_RoomFor (w0 : World) (v_x_l : Value) (x_l : List PCredit) (r_x_l : R_81 w0 v_x_l x_l) (v_x_a : Value) (x_a : PAddr) (r_x_a : R_61 w0 v_x_a x_a)  : Fn Try.prog 60 #[v_x_l, v_x_a] w0 (fun v w' => Keep w0 w' ∧ O_3 w' w0.heap.size v (F_impl_RoomFor x_l x_a)) := by
 obtain ⟨a1, c2, rfl, r3, s4⟩ := r_x_l
 obtain rfl := r_x_a
 refine fn_of (n := 28) (l := [(vs a1 x_l.length c2), (va (L_61 x_a)), U, U, U, U, U, U, U, U, U, U, U, U, U, U, U, U, U, U, U, U, U, U, U, U, U, U]) Try.func60 rfl rfl (by kernel_rfl) rfl ?_
 refine sr ?_
 refine bx (L_61 x_a) wN ?_
 intro g6 w1 p7 p8 k9 b10
 have m11 := (Ch.base w0).extk k9
 refine ag (vi 0) wN ?_
 refine nx ?_
 refine mv (vs a1 x_l.length c2) wN ?_
 refine lN (L_61 x_a) wN isAgg_61 sizeOf_61 b10 ?_
 refine cl wN (C_impl_creditAt w1 _ x_l (mR_81 (r3.from0 m11) s4) _ x_a (mR_61)) ?_
 rintro _ w2 ⟨k12, rfl⟩
 have m13 := m11.extk k12
 have q14 := creditAt_range x_l x_a
 have q15 := iCr_got x_l x_a
 refine ag (vi (creditAt x_l x_a)) wN ?_
 refine wl_nil <| wq_then <| wc_seq <| sr ?_
 refine mv (vs a1 x_l.length c2) wN ?_
 refine cl wN (C_impl_CreditsOk w2 _ x_l (mR_81 (r3.from0 m13) s4)) ?_
 rintro _ w3 ⟨k16, rfl⟩
 have m17 := m13.extk k16
 refine pu (vb (!(iCr x_l))) wN ?_
 refine mv (vb (!(iCr x_l))) wN ?_
 rcases bf (iCr x_l) with h18 | h18
 ·refine sk (congrArg not h18) ?_
  refine sk (congrArg not h18) ?_
  refine pk (vb true) wN (congrArg not h18) ?_
  refine wl_nil <| wq_then ?_
  refine ct (Eq.refl true) ?_
  refine sr ?_
  refine ag (vi 0) wN ?_
  refine wl_nil <| wq_then <| wc_ret <| wq_then_ret ?_
  refine ret_1 (.inl rfl) (vi 0) rfl rfl ?_
  refine ⟨m17.keep0, ?_⟩
  have hF52 : F_impl_RoomFor x_l x_a = 0 := by simp only [F_impl_RoomFor, h18, cond_true, cond_false]
  rw [hF52]
  exact rfl
 have q19 := iCr_t h18
 refine mv (vi (creditAt x_l x_a)) (wS (congrArg not h18)) ?_
 refine pu (vb (decide ((creditAt x_l x_a) < 0))) (wS (congrArg not h18)) ?_
 refine pf (vb (decide ((creditAt x_l x_a) < 0))) wN (congrArg not h18) ?_
 refine wl_nil <| wq_then ?_
 rcases bt (decide ((creditAt x_l x_a) < 0)) with h20 | h20
 ·have q21 := of_decide_eq_true h20
  refine ct h20 ?_
  refine sr ?_
  refine ag (vi 0) wN ?_
  refine wl_nil <| wq_then <| wc_ret <| wq_then_ret ?_
  refine ret_1 (.inl rfl) (vi 0) rfl rfl ?_
  refine ⟨m17.keep0, ?_⟩
  have hF22 : F_impl_RoomFor x_l x_a = 0 := by simp only [F_impl_RoomFor, h18, h20, cond_true, cond_false]
  rw [hF22]
  exact rfl
 have q23 := of_decide_eq_false h20
 refine cf h20 ?_
 refine wc_skip <| wq_then <| wc_seq ?_
 refine wc_draw ([(16, [], [], (fun _ v _ => v = (vs a1 x_l.length c2))), (17, [], [], (fun _ v _ => v = (vi (creditAt x_l x_a)))), (18, [], [0, 1], (fun _ v _ => v = (ve (vs a1 x_l.length c2) (((creditAt x_l x_a)).toNat * 4)))), (19, [], [0, 1, 2], (fun _ v _ => v = (ve (vs a1 x_l.length c2) (((creditAt x_l x_a)).toNat * 4 + 2)))), (20, [], [0, 1, 2, 3], (fun _ v _ => v = (vi ((x_l.getD ((creditAt x_l x_a)).toNat z_PCredit).Got)))), (21, [], [0, 1, 2, 3, 4], (fun _ v _ => v = (vi (3 * ((x_l.getD ((creditAt x_l x_a)).toNat z_PCredit).Got))))), (22, [], [], (fun _ v _ => v = (vs a1 x_l.length c2))), (23, [], [], (fun _ v _ => v = (vi (creditAt x_l x_a)))), (24, [], [6, 7], (fun _ v _ => v = (ve (vs a1 x_l.length c2) (((creditAt x_l x_a)).toNat * 4)))), (25, [], [6, 7, 8], (fun _ v _ => v = (ve (vs a1 x_l.length c2) (((creditAt x_l x_a)).toNat * 4 + 3)))), (26, [], [6, 7, 8, 9], (fun _ v _ => v = (vi ((x_l.getD ((creditAt x_l x_a)).toNat z_PCredit).Sent)))), (27, [], [0, 1, 2, 3, 4, 5, 6, 7, 8, 9, 10], (fun _ v _ => v = (vi ((3 * ((x_l.getD ((creditAt x_l x_a)).toNat z_PCredit).Got)) - ((x_l.getD ((creditAt x_l x_a)).toNat z_PCredit).Sent)))))] : GV) mixed rfl (by kernel_rfl) (by kernel_rfl) ?_ ?_ ?_
 · exact ⟨(fun _ _ _ _ h _ => h), (fun _ _ _ _ _ h => h), ⟨(fun _ _ _ _ h _ => h), (fun _ _ _ _ _ h => h), ⟨(fun _ _ _ _ h _ => h), (fun _ _ _ _ _ h => h), ⟨(fun _ _ _ _ h _ => h), (fun _ _ _ _ _ h => h), ⟨(fun _ _ _ _ h _ => h), (fun _ _ _ _ _ h => h), ⟨(fun _ _ _ _ h _ => h), (fun _ _ _ _ _ h => h), ⟨(fun _ _ _ _ h _ => h), (fun _ _ _ _ _ h => h), ⟨(fun _ _ _ _ h _ => h), (fun _ _ _ _ _ h => h), ⟨(fun _ _ _ _ h _ => h), (fun _ _ _ _ _ h => h), ⟨(fun _ _ _ _ h _ => h), (fun _ _ _ _ _ h => h), ⟨(fun _ _ _ _ h _ => h), (fun _ _ _ _ _ h => h), ⟨(fun _ _ _ _ h _ => h), (fun _ _ _ _ _ h => h), trivial⟩⟩⟩⟩⟩⟩⟩⟩⟩⟩⟩⟩
 ·refine ⟨?_, ⟨?_, ⟨?_, ⟨?_, ⟨?_, ⟨?_, ⟨?_, ⟨?_, ⟨?_, ⟨?_, ⟨?_, ⟨?_, trivial⟩⟩⟩⟩⟩⟩⟩⟩⟩⟩⟩⟩
  ·intro w4 k24
   have m25 := m17.extk k24
   rintro _ _ _ _ _ _ _ _ _ _ _ _
   show WL _ _ _ _ _ _ _
   refine mv (vs a1 x_l.length c2) wN ?_
   exact wl_fin (Ch.refl _ _) rfl
  ·intro w4 k26
   have m27 := m17.extk k26
   rintro _ _ _ _ _ _ _ _ _ _ _ _
   show WL _ _ _ _ _ _ _
   refine mv (vi (creditAt x_l x_a)) wN ?_
   exact wl_fin (Ch.refl _ _) rfl
  ·intro w4 k28
   have m29 := m17.extk k28
   rintro _ rfl _ rfl _ _ _ _ _ _ _ _ _ _
   show WL _ _ _ _ _ _ _
   refine wl_index wN (creditAt x_l x_a) rfl rfl rfl slTy_81 rfl rfl (r3.from0 m29) (by first | omega | (simp only [List.length_cons, List.length_nil, List.length_replicate, List.length_append, List.length_take, List.length_set, List.length_map]; omega)) (by first | omega | (simp only [List.length_cons, List.length_nil, List.length_replicate, List.length_append, List.length_take, List.length_set, List.length_map]; omega)) ?_
   exact wl_fin (Ch.refl _ _) rfl
  ·intro w4 k30
   have m31 := m17.extk k30
   rintro _ rfl _ rfl _ rfl _ _ _ _ _ _ _ _ _
   show WL _ _ _ _ _ _ _
   refine wl_fieldE wN rfl rfl rfl fieldAt_114_1 rfl (r3.from0 m31) (by omega) ?_
   exact wl_fin (Ch.refl _ _) rfl
  ·intro w4 k32
   have m33 := m17.extk k32
   rintro _ rfl _ rfl _ rfl _ rfl _ _ _ _ _ _ _ _
   show WL _ _ _ _ _ _ _
   refine wl_loadE (vi ((x_l.getD ((creditAt x_l x_a)).toNat z_PCredit).Got)) wN rfl rfl rfl rfl isAgg_3 (r3.from0 m33) ((rows_get (i := 2) enc_PCredit_len z_PCredit (by first | rfl | simp | omega) (by decide) (by first | omega | (simp only [List.length_cons, List.length_nil, List.length_replicate, List.length_append, List.length_take, List.length_set, List.length_map]; omega))).trans rfl) ?_
   exact wl_fin (Ch.refl _ _) rfl
  ·intro w4 k34
   have m35 := m17.extk k34
   rintro _ rfl _ rfl _ rfl _ rfl _ rfl _ _ _ _ _ _ _
   show WL _ _ _ _ _ _ _
   refine ar (3 * ((x_l.getD ((creditAt x_l x_a)).toNat z_PCredit).Got)) wN ?_
   exact wl_fin (Ch.refl _ _) rfl
  ·intro w4 k36
   have m37 := m17.extk k36
   rintro _ _ _ _ _ _ _ _ _ _ _ _
   show WL _ _ _ _ _ _ _
   refine mv (vs a1 x_l.length c2) wN ?_
   exact wl_fin (Ch.refl _ _) rfl
  ·intro w4 k38
   have m39 := m17.extk k38
   rintro _ _ _ _ _ _ _ _ _ _ _ _
   show WL _ _ _ _ _ _ _
   refine mv (vi (creditAt x_l x_a)) wN ?_
   exact wl_fin (Ch.refl _ _) rfl
  ·intro w4 k40
   have m41 := m17.extk k40
   rintro _ _ _ _ _ _ _ rfl _ rfl _ _ _ _
   show WL _ _ _ _ _ _ _
   refine wl_index wN (creditAt x_l x_a) rfl rfl rfl slTy_81 rfl rfl (r3.from0 m41) (by first | omega | (simp only [List.length_cons, List.length_nil, List.length_replicate, List.length_append, List.length_take, List.length_set, List.length_map]; omega)) (by first | omega | (simp only [List.length_cons, List.length_nil, List.length_replicate, List.length_append, List.length_take, List.length_set, List.length_map]; omega)) ?_
   exact wl_fin (Ch.refl _ _) rfl
  ·intro w4 k42
   have m43 := m17.extk k42
   rintro _ _ _ _ _ _ _ rfl _ rfl _ rfl _ _ _
   show WL _ _ _ _ _ _ _
   refine wl_fieldE wN rfl rfl rfl fieldAt_114_2 rfl (r3.from0 m43) (by omega) ?_
   exact wl_fin (Ch.refl _ _) rfl
  ·intro w4 k44
   have m45 := m17.extk k44
   rintro _ _ _ _ _ _ _ rfl _ rfl _ rfl _ rfl _ _
   show WL _ _ _ _ _ _ _
   refine wl_loadE (vi ((x_l.getD ((creditAt x_l x_a)).toNat z_PCredit).Sent)) wN rfl rfl rfl rfl isAgg_3 (r3.from0 m45) ((rows_get (i := 3) enc_PCredit_len z_PCredit (by first | rfl | simp | omega) (by decide) (by first | omega | (simp only [List.length_cons, List.length_nil, List.length_replicate, List.length_append, List.length_take, List.length_set, List.length_map]; omega))).trans rfl) ?_
   exact wl_fin (Ch.refl _ _) rfl
  ·intro w4 k46
   have m47 := m17.extk k46
   rintro _ rfl _ rfl _ rfl _ rfl _ rfl _ rfl _ rfl _ rfl _ rfl _ rfl _ rfl _
   show WL _ _ _ _ _ _ _
   refine ar ((3 * ((x_l.getD ((creditAt x_l x_a)).toNat z_PCredit).Got)) - ((x_l.getD ((creditAt x_l x_a)).toNat z_PCredit).Sent)) wN ?_
   exact wl_fin (Ch.refl _ _) rfl
 ·intro w4 k48
  have m49 := m17.extk k48
  rintro _ rfl _ rfl _ rfl _ rfl _ rfl _ rfl _ rfl _ rfl _ rfl _ rfl _ rfl _ rfl
  show WL _ _ _ _ _ _ _
  refine ag (vi ((3 * ((x_l.getD ((creditAt x_l x_a)).toNat z_PCredit).Got)) - ((x_l.getD ((creditAt x_l x_a)).toNat z_PCredit).Sent))) wN ?_
  refine wl_nil <| wq_then <| wc_ret ?_
  refine ret_1 (.inl rfl) (vi ((3 * ((x_l.getD ((creditAt x_l x_a)).toNat z_PCredit).Got)) - ((x_l.getD ((creditAt x_l x_a)).toNat z_PCredit).Sent))) rfl rfl ?_
  refine ⟨m49.keep0, ?_⟩
  have hF50 : F_impl_RoomFor x_l x_a = ((3 * ((x_l.getD ((creditAt x_l x_a)).toNat z_PCredit).Got)) - ((x_l.getD ((creditAt x_l x_a)).toNat z_PCredit).Sent)) := by simp only [F_impl_RoomFor, h18, h20, cond_true, cond_false]
  rw [hF50]
  exact rfl

def F_laws_FnExactRoomFor (x_aL : List PCredit) (x_aA : PAddr) : (Bool) := bif (decide ((F_laws_szCreditS x_aL 1048576) < 0)) then (true) else (bif (decide ((F_impl_RoomFor (cpL x_aL) (F_laws_toAddr x_aA)) = (F_spec_RoomFor (cpL x_aL) (F_laws_toAddr x_aA)))) then (bif (eqF_PCredit (cpL x_aL) (cpL x_aL)) then (true) else (false)) else (false))
theorem C_laws_FnExactRoomFor (w0 : World) (v_x_aL : Value) (x_aL : List PCredit) (r_x_aL : Q_79 w0 v_x_aL x_aL) (v_x_aA : Value) (x_aA : PAddr) (r_x_aA : Q_56 w0 v_x_aA x_aA)  : Fn Try.prog 13 #[v_x_aL, v_x_aA] w0 (fun v w' => Keep w0 w' ∧ O_4 w' w0.heap.size v (F_laws_FnExactRoomFor x_aL x_aA)) := by
 obtain ⟨a1, c2, rfl, r3, s4⟩ := r_x_aL
 obtain rfl := r_x_aA
 refine fn_of (n := 33) (l := [(vs a1 x_aL.length c2), (va (L_61 x_aA)), U, U, U, U, U, U, U, U, U, U, U, U, U, U, U, U, U, U, U, U, U, U, U, U, U, U, U, U, U, U, U]) Try.func13 rfl rfl (by kernel_rfl) rfl ?_
 refine sr ?_
 refine bx (L_61 x_aA) wN ?_
 intro g6 w1 p7 p8 k9 b10
 have m11 := (Ch.base w0).extk k9
 refine ag (vb false) wN ?_
 refine nx ?_
 refine ag (vi 1048576) wN ?_
 refine nx ?_
 refine mv (vs a1 x_aL.length c2) wN ?_
 refine mv (vi 1048576) wN ?_
 refine cl wN (C_laws_szCreditS w1 _ x_aL (mQ_79 (r3.from0 m11) s4) 1048576 (by omega) (by omega)) ?_
 rintro _ w2 ⟨k12, rfl⟩
 have m13 := m11.extk k12
 have q14 := laws_szCreditS_le x_aL 1048576
 refine ag (vi (F_laws_szCreditS x_aL 1048576)) wN ?_
 refine wl_nil <| wq_then <| wc_seq <| sr ?_
 refine mv (vi (F_laws_szCreditS x_aL 1048576)) wN ?_
 refine pu (vb (decide ((F_laws_szCreditS x_aL 1048576) < 0))) wN ?_
 refine wl_nil <| wq_then ?_
 rcases bt (decide ((F_laws_szCreditS x_aL 1048576) < 0)) with h15 | h15
 ·have q16 := of_decide_eq_true h15
  refine ct h15 ?_
  refine sr ?_
  refine ag (vb true) wN ?_
  refine wl_nil <| wq_then <| wc_ret <| wq_then_ret ?_
  refine ret_1 (.inl rfl) (vb true) rfl rfl ?_
  refine ⟨m13.keep0, ?_⟩
  have hF17 : F_laws_FnExactRoomFor x_aL x_aA = true := by simp only [F_laws_FnExactRoomFor, h15, cond_true, cond_false]
  rw [hF17]
  exact rfl
 have q18 := of_decide_eq_false h15
 refine cf h15 ?_
 refine wc_skip <| wq_then <| wc_seq ?_
 refine wc_draw ([(14, [], [], (fun _ v _ => v = (vs a1 x_aL.length c2))), (15, [], [0], (fun _ v w => ∃ (a1 : Option Addr) (c1 : Nat), v = .slice a1 (cpL x_aL).length c1 ∧ w.ownsRow (w2.heap.size) 114 4 (.slice a1 (cpL x_aL).length c1) (cpL x_aL).length ((cpL x_aL).flatMap enc_PCredit) ∧ (cpL x_aL).length ≤ 1073741824 ∧ Aps [(a1, c1)])), (16, [], [], (fun _ v _ => v = (.agg #[(vi x_aA.Host), (vi x_aA.Port)]))), (17, [], [0, 1, 2], (fun _ v w => v = .agg #[.int .i64 ((F_laws_toAddr x_aA).Host), .int .i64 ((F_laws_toAddr x_aA).Port)])), (18, [], [0, 1, 2, 3], (fun _ v w => v = .int .i64 (F_spec_RoomFor (cpL x_aL) (F_laws_toAddr x_aA))))] : GV) mixed rfl (by kernel_rfl) (by kernel_rfl) ?_ ?_ ?_
 · exact ⟨(fun _ _ _ _ h _ => h), (fun _ _ _ _ _ h => h), ⟨(fun e v w w1 h hk => by obtain ⟨a0x, c0x, he, o0x, l0x, hap⟩ := h; exact ⟨a0x, c0x, he, own_kp o0x hk, l0x, hap⟩), (fun _ _ _ _ _ h => h), ⟨(fun _ _ _ _ h _ => h), (fun _ _ _ _ _ h => h), ⟨(fun _ _ _ _ h _ => h), (fun _ _ _ _ _ h => h), ⟨(fun _ _ _ _ h _ => h), (fun _ _ _ _ _ h => h), trivial⟩⟩⟩⟩⟩
 ·refine ⟨?_, ⟨?_, ⟨?_, ⟨?_, ⟨?_, trivial⟩⟩⟩⟩⟩
  ·intro w3 k40
   have m41 := m13.extk k40
   rintro _ _ _ _ _
   show WL _ _ _ _ _ _ _
   refine mv (vs a1 x_aL.length c2) wN ?_
   exact wl_fin (Ch.refl _ _) rfl
  ·intro w3 k42
   have m43 := m13.extk k42
   rintro _ rfl _ _ _ _
   show WL _ _ _ _ _ _ _
   refine cl wN (C_laws_toCreditS w3 _ x_aL (mR_79 (r3.from0 m43) (by omega))) ?_
   rintro _ w4 ⟨k44, ⟨a45, c46, rfl, o47, s48, ap50⟩⟩
   have m51 := m43.extk k44
   exact wl_fin k44 ⟨_, _, rfl, (own_lo o47 k42.size), s48, ap50⟩
  ·intro w3 k52
   have m53 := m13.extk k52
   rintro _ _ _ _ _
   show WL _ _ _ _ _ _ _
   have b54 := ((b10.kp k12).kp k52)
   refine lN (L_61 x_aA) wN isAgg_56 sizeOf_56 b54 ?_
   exact wl_fin (Ch.refl _ _) rfl
  ·intro w3 k55
   have m56 := m13.extk k55
   rintro _ rfl _ ⟨a57, c58, rfl, o59, s60, ap62⟩ _ rfl _ _
   show WL _ _ _ _ _ _ _
   refine cl wN (C_laws_toAddr w3 _ x_aA (mR_56)) ?_
   rintro _ w4 ⟨k64, rfl⟩
   have m65 := m56.extk k64
   exact wl_fin k64 rfl
  ·intro w3 k66
   have m67 := m13.extk k66
   rintro _ rfl _ ⟨a68, c69, rfl, o70, s71, ap73⟩ _ rfl _ rfl _
   show WL _ _ _ _ _ _ _
   refine cl wN (C_spec_RoomFor w3 _ (cpL x_aL) (mR_81 (Rd.of_own o70) s71) _ (F_laws_toAddr x_aA) (mR_61)) ?_
   rintro _ w4 ⟨k75, rfl⟩
   have m76 := m67.extk k75
   exact wl_fin k75 rfl
 ·intro w3 k77
  have m78 := m13.extk k77
  rintro _ rfl _ ⟨a79, c80, rfl, o81, s82, ap84⟩ _ rfl _ rfl _ rfl
  show WL _ _ _ _ _ _ _
  refine ag (vi (F_spec_RoomFor (cpL x_aL) (F_laws_toAddr x_aA))) wN ?_
  refine nx ?_
  refine mv (vs a1 x_aL.length c2) wN ?_
  refine cl wN (C_laws_toCreditS w3 _ x_aL (mR_79 (r3.from0 m78) (by omega))) ?_
  rintro _ w4 ⟨k86, ⟨a87, c88, rfl, o89, s90, ap92⟩⟩
  have m93 := m78.extk k86
  refine ag (vs a87 (cpL x_aL).length c88) wN ?_
  refine nx ?_
  refine mv (vs a87 (cpL x_aL).length c88) wN ?_
  have b94 := (((b10.kp k12).kp k77).kp k86)
  refine lN (L_61 x_aA) wN isAgg_56 sizeOf_56 b94 ?_
  refine cl wN (C_laws_toAddr w4 _ x_aA (mR_56)) ?_
  rintro _ w5 ⟨k95, rfl⟩
  have m96 := m93.extk k95
  have o97 := (own_kp o89 k95)
  refine cl wN (C_impl_RoomFor w5 _ (cpL x_aL) (mR_81 (Rd.of_own o97) s90) _ (F_laws_toAddr x_aA) (mR_61)) ?_
  rintro _ w6 ⟨k98, rfl⟩
  have m99 := m96.extk k98
  refine ag (vi (F_impl_RoomFor (cpL x_aL) (F_laws_toAddr x_aA))) wN ?_
  refine wl_nil <| wq_then <| wc_seq <| sr ?_
  refine mv (vi (F_impl_RoomFor (cpL x_aL) (F_laws_toAddr x_aA))) wN ?_
  refine mv (vi (F_spec_RoomFor (cpL x_aL) (F_laws_toAddr x_aA))) wN ?_
  refine pu (vb (!(decide ((F_impl_RoomFor (cpL x_aL) (F_laws_toAddr x_aA)) = (F_spec_RoomFor (cpL x_aL) (F_laws_toAddr x_aA)))))) wN ?_
  refine wl_nil <| wq_then ?_
  rcases bf (decide ((F_impl_RoomFor (cpL x_aL) (F_laws_toAddr x_aA)) = (F_spec_RoomFor (cpL x_aL) (F_laws_toAddr x_aA)))) with h100 | h100
  ·have q118 := of_decide_eq_false h100
   refine ct (congrArg not h100) ?_
   refine sr ?_
   refine ag (vb false) wN ?_
   refine wl_nil <| wq_then <| wc_ret <| wq_then_ret ?_
   refine ret_1 (.inl rfl) (vb false) rfl rfl ?_
   refine ⟨m99.keep0, ?_⟩
   have hF119 : F_laws_FnExactRoomFor x_aL x_aA = false := by simp only [F_laws_FnExactRoomFor, h15, h100, cond_true, cond_false]
   rw [hF119]
   exact rfl
  have q101 := of_decide_eq_true h100
  refine cf (congrArg not h100) ?_
  refine wc_skip <| wq_then <| wc_seq <| sr ?_
  refine mv (vs a87 (cpL x_aL).length c88) wN ?_
  refine mv (vs a1 x_aL.length c2) wN ?_
  refine cl wN (C_laws_toCreditS w6 _ x_aL (mR_79 (r3.from0 m99) (by omega))) ?_
  rintro _ w7 ⟨k102, ⟨a103, c104, rfl, o105, s106, ap108⟩⟩
  have m109 := m99.extk k102
  have o110 := (own_kp (own_kp o97 k98) k102)
  refine cl wN (C_laws_eqCreditS w7 _ (cpL x_aL) (mR_81 (Rd.of_own o110) s90) _ (cpL x_aL) (mR_81 (Rd.of_own o105) s106)) ?_
  rintro _ w8 ⟨k111, rfl⟩
  have m112 := m109.extk k111
  refine pu (vb (!(eqF_PCredit (cpL x_aL) (cpL x_aL)))) wN ?_
  refine wl_nil <| wq_then ?_
  rcases bf (eqF_PCredit (cpL x_aL) (cpL x_aL)) with h113 | h113
  ·refine ct (congrArg not h113) ?_
   refine sr ?_
   refine ag (vb false) wN ?_
   refine wl_nil <| wq_then <| wc_ret <| wq_then_ret ?_
   refine ret_1 (.inl rfl) (vb false) rfl rfl ?_
   refine ⟨m112.keep0, ?_⟩
   have hF117 : F_laws_FnExactRoomFor x_aL x_aA = false := by simp only [F_laws_FnExactRoomFor, h15, h100, h113, cond_true, cond_false]
   rw [hF117]
   exact rfl
  refine cf (congrArg not h113) ?_
  refine wc_skip <| wq_then <| sr ?_
  refine ag (vb true) wN ?_
  refine wl_nil <| wq_then <| wc_ret ?_
  refine ret_1 (.inl rfl) (vb true) rfl rfl ?_
  refine ⟨m112.keep0, ?_⟩
  have hF115 : F_laws_FnExactRoomFor x_aL x_aA = true := by simp only [F_laws_FnExactRoomFor, h15, h100, h113, cond_true, cond_false]
  rw [hF115]
  exact rfl
end Go.Proofs.Ytodlalolknldmaa.K
