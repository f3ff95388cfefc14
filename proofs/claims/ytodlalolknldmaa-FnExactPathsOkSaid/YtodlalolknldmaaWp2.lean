import Derived.Test.YtodlalolknldmaaCore
import Derived.Test.YtodlalolknldmaaProg
import Derived.Test.YtodlalolknldmaaHeld
import Derived.Test.YtodlalolknldmaaFun
import Derived.Test.YtodlalolknldmaaFunZ
import Derived.Test.YtodlalolknldmaaMark
import Derived.Test.YtodlalolknldmaaWp1
namespace Go.Proofs.Ytodlalolknldmaa.K
open Go.RowKit
set_option linter.unusedVariables false
set_option linter.unusedSimpArgs false
set_option maxRecDepth 100000
def hC_PCand (a : PCand) (k : Int) : Int := bif decide (a.A.Host = k) then (bif decide (a.A.Port = (k + 1)) then (bif decide ((heldB a.Draw ((k + 1) + 1)) < 0) then (-1) else (bif decide (a.Until = (heldB a.Draw ((k + 1) + 1))) then (((heldB a.Draw ((k + 1) + 1)) + 1)) else (-1))) else (-1)) else (-1)
theorem C_laws_heldCandS (w0 : World) (v_x_a : Value) (x_a : List PCand) (r_x_a : R_73 w0 v_x_a x_a) (x_k : Int) (pre0 : 0 ≤ x_k) (pre1 : x_k ≤ 4000000000000000000) : Fn Try.prog 102 #[v_x_a, (vi x_k)] w0 (fun v w' => Keep w0 w' ∧ O_3 w' w0.heap.size v (heldL hC_PCand x_a x_k)) := by
 obtain ⟨a1, c2, rfl, r3, s4⟩ := r_x_a
 refine fn_of (n := 51) (l := [(vs a1 x_a.length c2), (vi x_k), U, U, U, U, U, U, U, U, U, U, U, U, U, U, U, U, U, U, U, U, U, U, U, U, U, U, U, U, U, U, U, U, U, U, U, U, U, U, U, U, U, U, U, U, U, U, U, U, U]) Try.func102 rfl rfl (by kernel_rfl) rfl ?_
 refine sr ?_
 refine ag (vi 0) wN ?_
 refine wl_nil <| wq_then <| wc_seq <| sr ?_
 refine ag (vi 0) wN ?_
 refine wl_nil <| wq_then <| wc_block ?_
 refine wc_norm [(vs a1 x_a.length c2), (vi x_k), U, U, (vi 0), (vi 0), U, U, U, U, U, U, U, U, U, U, U, U, U, U, U, U, U, U, U, U, U, U, U, U, U, U, U, U, U, U, U, U, U, U, U, U, U, U, U, U, U, U, U, U, U] rfl ⟨rfl, rfl, rfl, rfl, rfl, rfl, rfl, rfl, rfl, rfl, rfl, rfl, rfl, rfl, rfl, rfl, rfl, rfl, rfl, rfl, rfl, rfl, rfl, rfl, rfl, rfl, rfl, rfl, rfl, rfl, rfl, rfl, rfl, rfl, rfl, rfl, rfl, rfl, rfl, rfl, rfl, rfl, rfl, rfl, rfl, rfl, rfl, rfl, rfl, rfl, rfl, trivial⟩ ?_
 refine wc_loop (fun e' w' => ∃ (i : Nat) (q : Int) (u4x u6x u7x u8x u9x u10x u11x u12x u13x u14x u15x u16x u17x u18x u19x u20x u21x u22x u23x u24x u25x u26x u27x u28x u29x u30x u31x u32x u33x u34x u35x u36x u37x u38x u39x u40x u41x u42x u43x u44x u45x u46x u47x u48x u49x : Value), e' = lst [(vs a1 x_a.length c2), (vi q), U, U, u4x, (vi ((i : Nat) : Int)), u6x, u7x, u8x, u9x, u10x, u11x, u12x, u13x, u14x, u15x, u16x, u17x, u18x, u19x, u20x, u21x, u22x, u23x, u24x, u25x, u26x, u27x, u28x, u29x, u30x, u31x, u32x, u33x, u34x, u35x, u36x, u37x, u38x, u39x, u40x, u41x, u42x, u43x, u44x, u45x, u46x, u47x, u48x, u49x, U] ∧ Ch (fun k => w0.heap.size ≤ k) w0 w' ∧ Ch (fun k => w0.heap.size ≤ k) w0 w' ∧ i ≤ x_a.length ∧ heldL hC_PCand x_a x_k = heldL hC_PCand (x_a.drop i) q ∧ x_k ≤ q ∧ q ≤ x_k + 1073741827 * ((i : Nat) : Int)) (fun e' _ => x_a.length - ((intOf (e' 5))).toNat) ?_ ?_
 ·exact ⟨0, x_k, (vi 0), U, U, U, U, U, U, U, U, U, U, U, U, U, U, U, U, U, U, U, U, U, U, U, U, U, U, U, U, U, U, U, U, U, U, U, U, U, U, U, U, U, U, U, U, (congrArg (fun (x5z : Value) => lst [(vs a1 x_a.length c2), (vi x_k), U, U, (vi 0), x5z, U, U, U, U, U, U, U, U, U, U, U, U, U, U, U, U, U, U, U, U, U, U, U, U, U, U, U, U, U, U, U, U, U, U, U, U, U, U, U, U, U, U, U, U, U]) (congrArg (Value.int .i64) (show (0 : Int) = ((0 : Nat) : Int) by omega))), (Ch.base w0), (Ch.refl (fun k => w0.heap.size ≤ k) w0), (by omega), (by first | (simp; done) | exact heldL_next (z := z_PCand) (by assumption) (by omega) (by simp only [hC_PCand, ]; simp) (by omega)), (by omega), (by omega)⟩
 ·rintro _ w1 ⟨i, q, u4x, u6x, u7x, u8x, u9x, u10x, u11x, u12x, u13x, u14x, u15x, u16x, u17x, u18x, u19x, u20x, u21x, u22x, u23x, u24x, u25x, u26x, u27x, u28x, u29x, u30x, u31x, u32x, u33x, u34x, u35x, u36x, u37x, u38x, u39x, u40x, u41x, u42x, u43x, u44x, u45x, u46x, u47x, u48x, u49x, rfl, m6, k7, i8, i9, i10, i11⟩
  refine wc_seq <| sr ?_
  refine mv (vi ((i : Nat) : Int)) wN ?_
  refine mv (vs a1 x_a.length c2) wN ?_
  obtain ⟨y12, r13⟩ := RLv.row (r3.from0 m6)
  refine ln wN slTy_73 r13 ?_
  refine pu (vb (decide (((i : Nat) : Int) < (x_a.length : Int)))) wN ?_
  refine wl_nil <| wq_then ?_
  rcases bf (decide (((i : Nat) : Int) < (x_a.length : Int))) with h14 | h14
  ·have q55 := of_decide_eq_false h14
   refine cf h14 ?_
   refine wc_exit <| wq_then_exit <| wq_then_exit <| wq_blk_exit <| wq_then <| sr ?_
   refine mv (vi q) wN ?_
   refine ag (vi q) wN ?_
   refine wl_nil <| wq_then <| wc_ret ?_
   refine ret_1 (.inl rfl) (vi q) rfl rfl ?_
   refine ⟨m6.keep0, ?_⟩
   have hF56 : heldL hC_PCand x_a x_k = q := by first | exact heldL_ne (z := z_PCand) (by assumption) (by omega) (by simp only [hC_PCand, h14]; simp) | exact heldL_end (by assumption) (by omega)
   rw [hF56]
   exact rfl
  have q15 := of_decide_eq_true h14
  refine ct h14 ?_
  refine wc_skip <| wq_then <| wc_seq <| wc_block <| wc_seq <| sr ?_
  refine mv (vs a1 x_a.length c2) wN ?_
  refine mv (vi ((i : Nat) : Int)) wN ?_
  obtain ⟨y16, r17⟩ := RLv.row (r3.from0 m6)
  refine wl_index wN ((i : Nat) : Int) rfl rfl rfl slTy_73 rfl rfl r17 (by first | omega | (simp only [List.length_cons, List.length_nil, List.length_replicate, List.length_append, List.length_take, List.length_set, List.length_map]; omega)) (by first | omega | (simp only [List.length_cons, List.length_nil, List.length_replicate, List.length_append, List.length_take, List.length_set, List.length_map]; omega)) ?_
  obtain ⟨y18, l19, r20, e21, u22⟩ := RLv.el z_PCand (i := i) r3 (by first | omega | (simp only [List.length_cons, List.length_nil, List.length_replicate, List.length_append, List.length_take, List.length_set, List.length_map]; omega))
  obtain ⟨a23, c24, l28, rfl, r25, s26, u29⟩ := SubR.c u22
  obtain rfl := SubR.n u29
  refine wl_fieldE wN rfl rfl rfl fieldAt_109_0 rfl (r20.from0 m6) (by omega) ?_
  refine wl_fieldE wN rfl rfl rfl fieldAt_61_0 rfl (r20.from0 m6) (by omega) ?_
  refine wl_loadE (vi (((x_a.getD i z_PCand).A).Host)) wN rfl rfl rfl rfl isAgg_3 (r20.from0 m6) ((get_of (off := 0) e21 (by first | rfl | simp | omega) (by decide)).trans rfl) ?_
  refine mv (vi q) wN ?_
  refine pu (vb (!(decide (((x_a.getD i z_PCand).A).Host = q)))) wN ?_
  refine wl_nil <| wq_then ?_
  rcases bf (decide (((x_a.getD i z_PCand).A).Host = q)) with h30 | h30
  ·have q53 := of_decide_eq_false h30
   refine ct (congrArg not h30) ?_
   refine sr ?_
   refine ag (vi (-1)) wN ?_
   refine wl_nil <| wq_then <| wc_ret <| wq_then_ret <| wq_blk_ret <| wq_then_ret <| wq_then_ret <| wq_blk_ret <| wq_then_ret ?_
   refine ret_1 (.inl rfl) (vi (-1)) rfl rfl ?_
   refine ⟨m6.keep0, ?_⟩
   have hF54 : heldL hC_PCand x_a x_k = (-1) := by first | exact heldL_ne (z := z_PCand) (by assumption) (by omega) (by simp only [hC_PCand, h14, h30]; simp) | exact heldL_end (by assumption) (by omega)
   rw [hF54]
   exact rfl
  have q31 := of_decide_eq_true h30
  refine cf (congrArg not h30) ?_
  refine wc_skip <| wq_then <| sr ?_
  refine mv (vi q) wN ?_
  refine ar (q + 1) wN ?_
  refine ag (vi (q + 1)) wN ?_
  refine wl_nil <| wq_then <| wc_seq <| sr ?_
  refine mv (vs a1 x_a.length c2) wN ?_
  refine mv (vi ((i : Nat) : Int)) wN ?_
  obtain ⟨y32, r33⟩ := RLv.row (r3.from0 m6)
  refine wl_index wN ((i : Nat) : Int) rfl rfl rfl slTy_73 rfl rfl r33 (by first | omega | (simp only [List.length_cons, List.length_nil, List.length_replicate, List.length_append, List.length_take, List.length_set, List.length_map]; omega)) (by first | omega | (simp only [List.length_cons, List.length_nil, List.length_replicate, List.length_append, List.length_take, List.length_set, List.length_map]; omega)) ?_
  refine wl_fieldE wN rfl rfl rfl fieldAt_109_0 rfl (r20.from0 m6) (by omega) ?_
  refine wl_fieldE wN rfl rfl rfl fieldAt_61_1 rfl (r20.from0 m6) (by omega) ?_
  refine wl_loadE (vi (((x_a.getD i z_PCand).A).Port)) wN rfl rfl rfl rfl isAgg_3 (r20.from0 m6) ((get_of (off := 1) e21 (by first | rfl | simp | omega) (by decide)).trans rfl) ?_
  refine mv (vi (q + 1)) wN ?_
  refine pu (vb (!(decide (((x_a.getD i z_PCand).A).Port = (q + 1))))) wN ?_
  refine wl_nil <| wq_then ?_
  rcases bf (decide (((x_a.getD i z_PCand).A).Port = (q + 1))) with h34 | h34
  ·have q51 := of_decide_eq_false h34
   refine ct (congrArg not h34) ?_
   refine sr ?_
   refine ag (vi (-1)) wN ?_
   refine wl_nil <| wq_then <| wc_ret <| wq_then_ret <| wq_blk_ret <| wq_then_ret <| wq_then_ret <| wq_blk_ret <| wq_then_ret ?_
   refine ret_1 (.inl rfl) (vi (-1)) rfl rfl ?_
   refine ⟨m6.keep0, ?_⟩
   have hF52 : heldL hC_PCand x_a x_k = (-1) := by first | exact heldL_ne (z := z_PCand) (by assumption) (by omega) (by simp only [hC_PCand, h14, h30, h34]; simp) | exact heldL_end (by assumption) (by omega)
   rw [hF52]
   exact rfl
  have q35 := of_decide_eq_true h34
  refine cf (congrArg not h34) ?_
  refine wc_skip <| wq_then <| sr ?_
  refine mv (vi (q + 1)) wN ?_
  refine ar ((q + 1) + 1) wN ?_
  refine ag (vi ((q + 1) + 1)) wN ?_
  refine nx ?_
  refine mv (vs a1 x_a.length c2) wN ?_
  refine mv (vi ((i : Nat) : Int)) wN ?_
  obtain ⟨y36, r37⟩ := RLv.row (r3.from0 m6)
  refine wl_index wN ((i : Nat) : Int) rfl rfl rfl slTy_73 rfl rfl r37 (by first | omega | (simp only [List.length_cons, List.length_nil, List.length_replicate, List.length_append, List.length_take, List.length_set, List.length_map]; omega)) (by first | omega | (simp only [List.length_cons, List.length_nil, List.length_replicate, List.length_append, List.length_take, List.length_set, List.length_map]; omega)) ?_
  refine wl_fieldE wN rfl rfl rfl fieldAt_109_1 rfl (r20.from0 m6) (by omega) ?_
  refine wl_loadE (vs a23 (x_a.getD i z_PCand).Draw.length c24) wN rfl rfl rfl rfl isAgg_22 (r20.from0 m6) ((get_of (off := 2) e21 (by first | rfl | simp | omega) (by decide)).trans rfl) ?_
  refine mv (vi ((q + 1) + 1)) wN ?_
  refine cl wN (C_laws_heldByteS w1 _ ((x_a.getD i z_PCand).Draw) (mR_22 (r25.from0 m6) s26) ((q + 1) + 1) (by omega) (by omega)) ?_
  rintro _ w2 ⟨k38, rfl⟩
  have m39 := m6.extk k38
  have q40 := heldB_le ((x_a.getD i z_PCand).Draw) ((q + 1) + 1)
  refine ag (vi (heldB ((x_a.getD i z_PCand).Draw) ((q + 1) + 1))) wN ?_
  refine wl_nil <| wq_then <| wc_seq <| sr ?_
  refine mv (vi (heldB ((x_a.getD i z_PCand).Draw) ((q + 1) + 1))) wN ?_
  refine pu (vb (decide ((heldB ((x_a.getD i z_PCand).Draw) ((q + 1) + 1)) < 0))) wN ?_
  refine wl_nil <| wq_then ?_
  rcases bt (decide ((heldB ((x_a.getD i z_PCand).Draw) ((q + 1) + 1)) < 0)) with h41 | h41
  ·have q42 := of_decide_eq_true h41
   refine ct h41 ?_
   refine sr ?_
   refine ag (vi (-1)) wN ?_
   refine wl_nil <| wq_then <| wc_ret <| wq_then_ret <| wq_blk_ret <| wq_then_ret <| wq_then_ret <| wq_blk_ret <| wq_then_ret ?_
   refine ret_1 (.inl rfl) (vi (-1)) rfl rfl ?_
   refine ⟨m39.keep0, ?_⟩
   have hF43 : heldL hC_PCand x_a x_k = (-1) := by first | exact heldL_ne (z := z_PCand) (by assumption) (by omega) (by simp only [hC_PCand, h14, h30, h34, h41]; simp) | exact heldL_end (by assumption) (by omega)
   rw [hF43]
   exact rfl
  have q44 := of_decide_eq_false h41
  refine cf h41 ?_
  refine wc_skip <| wq_then <| wc_seq <| sr ?_
  refine mv (vs a1 x_a.length c2) wN ?_
  refine mv (vi ((i : Nat) : Int)) wN ?_
  obtain ⟨y45, r46⟩ := RLv.row (r3.from0 m39)
  refine wl_index wN ((i : Nat) : Int) rfl rfl rfl slTy_73 rfl rfl r46 (by first | omega | (simp only [List.length_cons, List.length_nil, List.length_replicate, List.length_append, List.length_take, List.length_set, List.length_map]; omega)) (by first | omega | (simp only [List.length_cons, List.length_nil, List.length_replicate, List.length_append, List.length_take, List.length_set, List.length_map]; omega)) ?_
  refine wl_fieldE wN rfl rfl rfl fieldAt_109_2 rfl (r20.from0 m39) (by omega) ?_
  refine wl_loadE (vi ((x_a.getD i z_PCand).Until)) wN rfl rfl rfl rfl isAgg_3 (r20.from0 m39) ((get_of (off := 3) e21 (by first | rfl | simp | omega) (by decide)).trans rfl) ?_
  refine mv (vi (heldB ((x_a.getD i z_PCand).Draw) ((q + 1) + 1))) wN ?_
  refine pu (vb (!(decide ((x_a.getD i z_PCand).Until = (heldB ((x_a.getD i z_PCand).Draw) ((q + 1) + 1)))))) wN ?_
  refine wl_nil <| wq_then ?_
  rcases bf (decide ((x_a.getD i z_PCand).Until = (heldB ((x_a.getD i z_PCand).Draw) ((q + 1) + 1)))) with h47 | h47
  ·have q49 := of_decide_eq_false h47
   refine ct (congrArg not h47) ?_
   refine sr ?_
   refine ag (vi (-1)) wN ?_
   refine wl_nil <| wq_then <| wc_ret <| wq_then_ret <| wq_blk_ret <| wq_then_ret <| wq_then_ret <| wq_blk_ret <| wq_then_ret ?_
   refine ret_1 (.inl rfl) (vi (-1)) rfl rfl ?_
   refine ⟨m39.keep0, ?_⟩
   have hF50 : heldL hC_PCand x_a x_k = (-1) := by first | exact heldL_ne (z := z_PCand) (by assumption) (by omega) (by simp only [hC_PCand, h14, h30, h34, h41, h47]; simp) | exact heldL_end (by assumption) (by omega)
   rw [hF50]
   exact rfl
  have q48 := of_decide_eq_true h47
  refine cf (congrArg not h47) ?_
  refine wc_skip <| wq_then <| wc_region ?_
  refine mv (vi (heldB ((x_a.getD i z_PCand).Draw) ((q + 1) + 1))) wN ?_
  refine ar ((heldB ((x_a.getD i z_PCand).Draw) ((q + 1) + 1)) + 1) wN ?_
  refine ag (vi ((heldB ((x_a.getD i z_PCand).Draw) ((q + 1) + 1)) + 1)) wN ?_
  refine wl_nil <| wq_blk_normal <| wq_then <| wc_region ?_
  refine mv (vi ((i : Nat) : Int)) wN ?_
  refine ar (((i : Nat) : Int) + 1) wN ?_
  refine ag (vi (((i : Nat) : Int) + 1)) wN ?_
  refine wl_nil ?_
  refine wq_loopN (w0 := w1) [(vs a1 x_a.length c2), (vi ((heldB (x_a.getD i z_PCand).Draw ((q + 1) + 1)) + 1)), U, U, u4x, (vi (((i + 1) : Nat) : Int)), (vi ((i : Nat) : Int)), (vs a1 x_a.length c2), (vi (x_a.length : Int)), (vb (decide (((i : Nat) : Int) < (x_a.length : Int)))), (vi ((i : Nat) : Int)), (vi (((i : Nat) : Int) + 1)), (vs a1 x_a.length c2), (vi ((i : Nat) : Int)), (ve (vs a1 x_a.length c2) ((((i : Nat) : Int)).toNat * 4)), (ve (vs a1 x_a.length c2) ((((i : Nat) : Int)).toNat * 4 + 0)), (ve (vs a1 x_a.length c2) ((((i : Nat) : Int)).toNat * 4 + 0 + 0)), (vi (((x_a.getD i z_PCand).A).Host)), (vi q), (vb (!(decide (((x_a.getD i z_PCand).A).Host = q)))), (vi q), (vi (q + 1)), (vs a1 x_a.length c2), (vi ((i : Nat) : Int)), (ve (vs a1 x_a.length c2) ((((i : Nat) : Int)).toNat * 4)), (ve (vs a1 x_a.length c2) ((((i : Nat) : Int)).toNat * 4 + 0)), (ve (vs a1 x_a.length c2) ((((i : Nat) : Int)).toNat * 4 + 0 + 1)), (vi (((x_a.getD i z_PCand).A).Port)), (vi (q + 1)), (vb (!(decide (((x_a.getD i z_PCand).A).Port = (q + 1))))), (vi (q + 1)), (vi ((q + 1) + 1)), (vs a1 x_a.length c2), (vi ((i : Nat) : Int)), (ve (vs a1 x_a.length c2) ((((i : Nat) : Int)).toNat * 4)), (ve (vs a1 x_a.length c2) ((((i : Nat) : Int)).toNat * 4 + 2)), (vs a23 (x_a.getD i z_PCand).Draw.length c24), (vi ((q + 1) + 1)), (vi (heldB ((x_a.getD i z_PCand).Draw) ((q + 1) + 1))), (vi (heldB ((x_a.getD i z_PCand).Draw) ((q + 1) + 1))), (vb (decide ((heldB ((x_a.getD i z_PCand).Draw) ((q + 1) + 1)) < 0))), (vs a1 x_a.length c2), (vi ((i : Nat) : Int)), (ve (vs a1 x_a.length c2) ((((i : Nat) : Int)).toNat * 4)), (ve (vs a1 x_a.length c2) ((((i : Nat) : Int)).toNat * 4 + 3)), (vi ((x_a.getD i z_PCand).Until)), (vi (heldB ((x_a.getD i z_PCand).Draw) ((q + 1) + 1))), (vb (!(decide ((x_a.getD i z_PCand).Until = (heldB ((x_a.getD i z_PCand).Draw) ((q + 1) + 1)))))), (vi (heldB ((x_a.getD i z_PCand).Draw) ((q + 1) + 1))), (vi ((heldB ((x_a.getD i z_PCand).Draw) ((q + 1) + 1)) + 1)), U] rfl ?_ ?_ ?_
  · exact ⟨rfl, (congrArg (Value.int .i64) (show (((heldB ((x_a.getD i z_PCand).Draw) ((q + 1) + 1)) + 1) : Int) = ((heldB (x_a.getD i z_PCand).Draw ((q + 1) + 1)) + 1) by omega)), rfl, rfl, rfl, (congrArg (Value.int .i64) (show ((((i : Nat) : Int) + 1) : Int) = (((i + 1) : Nat) : Int) by omega)), rfl, rfl, rfl, rfl, rfl, rfl, rfl, rfl, rfl, rfl, rfl, rfl, rfl, rfl, rfl, rfl, rfl, rfl, rfl, rfl, rfl, rfl, rfl, rfl, rfl, rfl, rfl, rfl, rfl, rfl, rfl, rfl, rfl, rfl, rfl, rfl, rfl, rfl, rfl, rfl, rfl, rfl, rfl, rfl, rfl, trivial⟩
  · exact ⟨(i + 1), ((heldB (x_a.getD i z_PCand).Draw ((q + 1) + 1)) + 1), u4x, (vi ((i : Nat) : Int)), (vs a1 x_a.length c2), (vi (x_a.length : Int)), (vb (decide (((i : Nat) : Int) < (x_a.length : Int)))), (vi ((i : Nat) : Int)), (vi (((i : Nat) : Int) + 1)), (vs a1 x_a.length c2), (vi ((i : Nat) : Int)), (ve (vs a1 x_a.length c2) ((((i : Nat) : Int)).toNat * 4)), (ve (vs a1 x_a.length c2) ((((i : Nat) : Int)).toNat * 4 + 0)), (ve (vs a1 x_a.length c2) ((((i : Nat) : Int)).toNat * 4 + 0 + 0)), (vi (((x_a.getD i z_PCand).A).Host)), (vi q), (vb (!(decide (((x_a.getD i z_PCand).A).Host = q)))), (vi q), (vi (q + 1)), (vs a1 x_a.length c2), (vi ((i : Nat) : Int)), (ve (vs a1 x_a.length c2) ((((i : Nat) : Int)).toNat * 4)), (ve (vs a1 x_a.length c2) ((((i : Nat) : Int)).toNat * 4 + 0)), (ve (vs a1 x_a.length c2) ((((i : Nat) : Int)).toNat * 4 + 0 + 1)), (vi (((x_a.getD i z_PCand).A).Port)), (vi (q + 1)), (vb (!(decide (((x_a.getD i z_PCand).A).Port = (q + 1))))), (vi (q + 1)), (vi ((q + 1) + 1)), (vs a1 x_a.length c2), (vi ((i : Nat) : Int)), (ve (vs a1 x_a.length c2) ((((i : Nat) : Int)).toNat * 4)), (ve (vs a1 x_a.length c2) ((((i : Nat) : Int)).toNat * 4 + 2)), (vs a23 (x_a.getD i z_PCand).Draw.length c24), (vi ((q + 1) + 1)), (vi (heldB ((x_a.getD i z_PCand).Draw) ((q + 1) + 1))), (vi (heldB ((x_a.getD i z_PCand).Draw) ((q + 1) + 1))), (vb (decide ((heldB ((x_a.getD i z_PCand).Draw) ((q + 1) + 1)) < 0))), (vs a1 x_a.length c2), (vi ((i : Nat) : Int)), (ve (vs a1 x_a.length c2) ((((i : Nat) : Int)).toNat * 4)), (ve (vs a1 x_a.length c2) ((((i : Nat) : Int)).toNat * 4 + 3)), (vi ((x_a.getD i z_PCand).Until)), (vi (heldB ((x_a.getD i z_PCand).Draw) ((q + 1) + 1))), (vb (!(decide ((x_a.getD i z_PCand).Until = (heldB ((x_a.getD i z_PCand).Draw) ((q + 1) + 1)))))), (vi (heldB ((x_a.getD i z_PCand).Draw) ((q + 1) + 1))), (vi ((heldB ((x_a.getD i z_PCand).Draw) ((q + 1) + 1)) + 1)), rfl, m39, (((Ch.refl (fun k => w0.heap.size ≤ k) w0).ext k7 (fun k hk => Nat.le_trans (Nat.le_refl _) hk)).extk k38), (by omega), (by first | (simp; done) | exact heldL_next (z := z_PCand) (by assumption) (by omega) (by simp only [hC_PCand, h14, h30, h34, h41, h47]; simp) (by omega)), (by omega), (by omega)⟩
  · show x_a.length - ((((i + 1) : Nat) : Int)).toNat < x_a.length - (((i : Nat) : Int)).toNat; omega

def F_laws_heldPaths (x_a : PPaths) (x_k : Int) : (Int) := bif (decide ((heldL hC_PCand x_a.Cands x_k) < 0)) then ((-1)) else ((heldL hC_PCand x_a.Cands x_k))
theorem C_laws_heldPaths (w0 : World) (v_x_a : Value) (x_a : PPaths) (r_x_a : R_75 w0 v_x_a x_a) (x_k : Int) (pre0 : 0 ≤ x_k) (pre1 : x_k ≤ 3700000000000000000) : Fn Try.prog 64 #[v_x_a, (vi x_k)] w0 (fun v w' => Keep w0 w' ∧ O_3 w' w0.heap.size v (F_laws_heldPaths x_a x_k)) := by
 obtain ⟨a1, c2, rfl, r3, s4⟩ := r_x_a
 refine fn_of (n := 12) (l := [(va (L_75 x_a a1 c2)), (vi x_k), U, U, U, U, U, U, U, U, U, U]) Try.func64 rfl rfl (by kernel_rfl) rfl ?_
 refine sr ?_
 refine bx (L_75 x_a a1 c2) wN ?_
 intro g6 w1 p7 p8 k9 b10
 have m11 := (Ch.base w0).extk k9
 refine ag (vi 0) wN ?_
 refine nx ?_
 refine pu (vp g6 2) wN ?_
 refine ld (vs a1 x_a.Cands.length c2) wN isAgg_73 b10 ?_
 refine mv (vi x_k) wN ?_
 refine cl wN (C_laws_heldCandS w1 _ x_a.Cands (mR_73 (r3.from0 m11) s4) x_k (by omega) (by omega)) ?_
 rintro _ w2 ⟨k12, rfl⟩
 have m13 := m11.extk k12
 refine ag (vi (heldL hC_PCand x_a.Cands x_k)) wN ?_
 refine wl_nil <| wq_then <| wc_seq <| sr ?_
 refine mv (vi (heldL hC_PCand x_a.Cands x_k)) wN ?_
 refine pu (vb (decide ((heldL hC_PCand x_a.Cands x_k) < 0))) wN ?_
 refine wl_nil <| wq_then ?_
 rcases bt (decide ((heldL hC_PCand x_a.Cands x_k) < 0)) with h14 | h14
 ·have q15 := of_decide_eq_true h14
  refine ct h14 ?_
  refine sr ?_
  refine ag (vi (-1)) wN ?_
  refine wl_nil <| wq_then <| wc_ret <| wq_then_ret ?_
  refine ret_1 (.inl rfl) (vi (-1)) rfl rfl ?_
  refine ⟨m13.keep0, ?_⟩
  have hF16 : F_laws_heldPaths x_a x_k = (-1) := by simp only [F_laws_heldPaths, h14, cond_true, cond_false]
  rw [hF16]
  exact rfl
 have q17 := of_decide_eq_false h14
 refine cf h14 ?_
 refine wc_skip <| wq_then <| sr ?_
 refine mv (vi (heldL hC_PCand x_a.Cands x_k)) wN ?_
 refine ag (vi (heldL hC_PCand x_a.Cands x_k)) wN ?_
 refine wl_nil <| wq_then <| wc_ret ?_
 refine ret_1 (.inl rfl) (vi (heldL hC_PCand x_a.Cands x_k)) rfl rfl ?_
 refine ⟨m13.keep0, ?_⟩
 have hF18 : F_laws_heldPaths x_a x_k = (heldL hC_PCand x_a.Cands x_k) := by simp only [F_laws_heldPaths, h14, cond_true, cond_false]
 rw [hF18]
 exact rfl

def Q_56 (w : World) (v : Value) (x : (PAddr)) : Prop := v = .agg #[.int .i64 x.Host, .int .i64 x.Port]
def F_laws_FnExactPathsNew (x_aA : PAddr) : (Bool) := bif (F_laws_eqPaths (F_impl_PathsNew (F_laws_toAddr x_aA)) (F_spec_PathsNew (F_laws_toAddr x_aA))) then (bif (decide ((F_laws_heldPaths { At := ((F_impl_PathsNew (F_laws_toAddr x_aA)).At), Cands := (marksE mkE_PCand wt_PCand ((F_impl_PathsNew (F_laws_toAddr x_aA)).Cands) 1) : PPaths } 1) < 0)) then (false) else (bif (decide ((F_laws_heldPaths { At := ((F_impl_PathsNew (F_laws_toAddr x_aA)).At), Cands := (marksE mkE_PCand wt_PCand ((F_impl_PathsNew (F_laws_toAddr x_aA)).Cands) 1) : PPaths } 1) = (1 + totL wt_PCand ((F_impl_PathsNew (F_laws_toAddr x_aA)).Cands)))) then (true) else (false))) else (false)
theorem C_laws_FnExactPathsNew (w0 : World) (v_x_aA : Value) (x_aA : PAddr) (r_x_aA : Q_56 w0 v_x_aA x_aA)  : Fn Try.prog 14 #[v_x_aA] w0 (fun v w' => Keep w0 w' ∧ O_4 w' w0.heap.size v (F_laws_FnExactPathsNew x_aA)) := by
 obtain rfl := r_x_aA
 refine fn_of (n := 44) (l := [(va (L_61 x_aA)), U, U, U, U, U, U, U, U, U, U, U, U, U, U, U, U, U, U, U, U, U, U, U, U, U, U, U, U, U, U, U, U, U, U, U, U, U, U, U, U, U, U, U]) Try.func14 rfl rfl (by kernel_rfl) rfl ?_
 refine sr ?_
 refine bx (L_61 x_aA) wN ?_
 intro g1 w1 p2 p3 k4 b5
 have m6 := (Ch.base w0).extk k4
 refine ag (vb false) wN ?_
 refine nx ?_
 refine lN (L_61 x_aA) wN isAgg_56 sizeOf_56 b5 ?_
 refine cl wN (C_laws_toAddr w1 _ x_aA (mR_56)) ?_
 rintro _ w2 ⟨k7, rfl⟩
 have m8 := m6.extk k7
 refine cl wN (C_spec_PathsNew w2 _ (F_laws_toAddr x_aA) (mR_61)) ?_
 rintro _ w3 ⟨k9, ⟨a10, c11, rfl, o12, s13, ap15⟩⟩
 have m16 := m8.extk k9
 obtain ⟨y17, o18⟩ := OLv.ow o12
 refine al [(vi 0), (vi 0), (vs none 0 0)] wN zero_75 ?_
 intro g19 w4 p20 p21 k22 b23
 have m24 := m16.extk k22
 refine st (va (L_75 (F_spec_PathsNew (F_laws_toAddr x_aA)) a10 c11)) (L_75 (F_spec_PathsNew (F_laws_toAddr x_aA)) a10 c11) (L_75 (F_spec_PathsNew (F_laws_toAddr x_aA)) a10 c11) wN sizeOf_75 b23 ?_
 intro w5 k25 b26 z27
 have m28 := m24.ext k25 (fun k hk => by subst hk; exact Nat.le_trans (Nat.le_trans (Nat.le_trans k4.size k7.size) k9.size) p20)
 refine nx ?_
 have b29 := ((((b5.kp k7).kp k9).kp k22).ch k25 (Nat.ne_of_lt (Nat.lt_of_lt_of_le p3 (Nat.le_trans (Nat.le_trans k7.size k9.size) p20))))
 refine lN (L_61 x_aA) wN isAgg_56 sizeOf_56 b29 ?_
 refine cl wN (C_laws_toAddr w5 _ x_aA (mR_56)) ?_
 rintro _ w6 ⟨k30, rfl⟩
 have m31 := m28.extk k30
 refine cl wN (C_impl_PathsNew w6 _ (F_laws_toAddr x_aA) (mR_61)) ?_
 rintro _ w7 ⟨k32, ⟨a33, c34, rfl, o35, s36, ap38⟩⟩
 have m39 := m31.extk k32
 obtain ⟨y40, o41⟩ := OLv.ow o35
 refine al [(vi 0), (vi 0), (vs none 0 0)] wN zero_75 ?_
 intro g42 w8 p43 p44 k45 b46
 have m47 := m39.extk k45
 refine st (va (L_75 (F_impl_PathsNew (F_laws_toAddr x_aA)) a33 c34)) (L_75 (F_impl_PathsNew (F_laws_toAddr x_aA)) a33 c34) (L_75 (F_impl_PathsNew (F_laws_toAddr x_aA)) a33 c34) wN sizeOf_75 b46 ?_
 intro w9 k48 b49 z50
 have m51 := m47.ext k48 (fun k hk => by subst hk; exact Nat.le_trans (Nat.le_trans (Nat.le_trans (Nat.le_trans (Nat.le_trans (Nat.le_trans (Nat.le_trans k4.size k7.size) k9.size) k22.size) k25.size) k30.size) k32.size) p43)
 refine wl_nil <| wq_then <| wc_seq <| sr ?_
 refine lN (L_75 (F_impl_PathsNew (F_laws_toAddr x_aA)) a33 c34) wN isAgg_75 sizeOf_75 b49 ?_
 have b52 := ((((b26.kp k30).kp k32).kp k45).ch k48 (Nat.ne_of_lt (Nat.lt_of_lt_of_le p21 (Nat.le_trans (Nat.le_trans (Nat.le_trans k25.size k30.size) k32.size) p43))))
 refine lN (L_75 (F_spec_PathsNew (F_laws_toAddr x_aA)) a10 c11) wN isAgg_75 sizeOf_75 b52 ?_
 have o53 := (OLv.ch (OLv.kp o35 k45) k48 (fun g h1 h2 hk => by have h3 := Nat.le_trans (Nat.le_refl _) p43; omega))
 have o54 := (OLv.ch (OLv.kp (OLv.kp (OLv.kp (OLv.ch (OLv.kp o12 k22) k25 (fun g h1 h2 hk => by have h3 := Nat.le_trans (Nat.le_refl _) p20; omega)) k30) k32) k45) k48 (fun g h1 h2 hk => by have h3 := Nat.le_trans (Nat.le_trans (Nat.le_trans (Nat.le_trans k22.size k25.size) k30.size) k32.size) p43; omega))
 refine cl wN (C_laws_eqPaths w9 _ (F_impl_PathsNew (F_laws_toAddr x_aA)) (mR_75 (OLv.rl o53) s36) _ (F_spec_PathsNew (F_laws_toAddr x_aA)) (mR_75 (OLv.rl o54) s13)) ?_
 rintro _ w10 ⟨k55, rfl⟩
 have m56 := m51.extk k55
 refine pu (vb (!(F_laws_eqPaths (F_impl_PathsNew (F_laws_toAddr x_aA)) (F_spec_PathsNew (F_laws_toAddr x_aA))))) wN ?_
 refine wl_nil <| wq_then ?_
 rcases bf (F_laws_eqPaths (F_impl_PathsNew (F_laws_toAddr x_aA)) (F_spec_PathsNew (F_laws_toAddr x_aA))) with h57 | h57
 ·refine ct (congrArg not h57) ?_
  refine sr ?_
  refine ag (vb false) wN ?_
  refine wl_nil <| wq_then <| wc_ret <| wq_then_ret ?_
  refine ret_1 (.inl rfl) (vb false) rfl rfl ?_
  refine ⟨m56.keep0, ?_⟩
  have hF109 : F_laws_FnExactPathsNew x_aA = false := by simp only [F_laws_FnExactPathsNew, h57, cond_true, cond_false]
  rw [hF109]
  exact rfl
 refine cf (congrArg not h57) ?_
 refine wc_skip <| wq_then <| sr ?_
 refine ag (vi 1) wN ?_
 refine nx ?_
 have b59 := (b49.kp k55)
 refine lN (L_75 (F_impl_PathsNew (F_laws_toAddr x_aA)) a33 c34) wN isAgg_75 sizeOf_75 b59 ?_
 refine mv (vi 1) wN ?_
 have o60 := (OLv.kp o53 k55)
 refine cl wN (C_laws_markPaths w10 a33 c34 (F_impl_PathsNew (F_laws_toAddr x_aA)) _ _ 1 (by omega) (by omega) o60) ?_
 rintro _ w11 ⟨rfl, k61, r62⟩
 have m63 := m56.ext k61 (fun k hk => Nat.le_trans (Nat.le_trans (Nat.le_trans (Nat.le_trans (Nat.le_trans (Nat.le_trans k4.size k7.size) k9.size) k22.size) k25.size) k30.size) hk.1)
 refine ag (vi (1 + totL wt_PCand ((F_impl_PathsNew (F_laws_toAddr x_aA)).Cands))) wN ?_
 refine nx ?_
 refine ag (vi 1) wN ?_
 refine nx ?_
 have b64 := (b59.ch k61 (fun h => by have h1 := h.2.1; have h3 := Nat.le_trans (Nat.le_refl _) p43; omega))
 refine lN [(vi (((F_impl_PathsNew (F_laws_toAddr x_aA)).At).Host)), (vi (((F_impl_PathsNew (F_laws_toAddr x_aA)).At).Port)), (vs a33 ((F_impl_PathsNew (F_laws_toAddr x_aA)).Cands).length c34)] wN isAgg_75 sizeOf_75 b64 ?_
 refine mv (vi 1) wN ?_
 refine cl wN (C_laws_heldPaths w11 (va [(vi (((F_impl_PathsNew (F_laws_toAddr x_aA)).At).Host)), (vi (((F_impl_PathsNew (F_laws_toAddr x_aA)).At).Port)), (vs a33 ((F_impl_PathsNew (F_laws_toAddr x_aA)).Cands).length c34)]) { At := ((F_impl_PathsNew (F_laws_toAddr x_aA)).At), Cands := (marksE mkE_PCand wt_PCand ((F_impl_PathsNew (F_laws_toAddr x_aA)).Cands) 1) : PPaths } (show R_75 w11 (va [(vi (((F_impl_PathsNew (F_laws_toAddr x_aA)).At).Host)), (vi (((F_impl_PathsNew (F_laws_toAddr x_aA)).At).Port)), (vs a33 ((F_impl_PathsNew (F_laws_toAddr x_aA)).Cands).length c34)]) { At := ((F_impl_PathsNew (F_laws_toAddr x_aA)).At), Cands := (marksE mkE_PCand wt_PCand ((F_impl_PathsNew (F_laws_toAddr x_aA)).Cands) 1) : PPaths } from ⟨a33, c34, by simp only [marksB_len, marksI_len, marksL_len, marksE_len], by simpa only [marksB_len, marksI_len, marksL_len, marksE_len] using (RLk.rl r62), by simp only [marksB_len, marksI_len, marksL_len, marksE_len]; first | exact s36 | omega⟩) 1 (by omega) (by omega)) ?_
 rintro _ w12 ⟨k65, rfl⟩
 have m66 := m63.extk k65
 refine ag (vi (F_laws_heldPaths { At := ((F_impl_PathsNew (F_laws_toAddr x_aA)).At), Cands := (marksE mkE_PCand wt_PCand ((F_impl_PathsNew (F_laws_toAddr x_aA)).Cands) 1) : PPaths } 1)) wN ?_
 refine wl_nil <| wq_then <| wc_seq <| sr ?_
 refine mv (vi (F_laws_heldPaths { At := ((F_impl_PathsNew (F_laws_toAddr x_aA)).At), Cands := (marksE mkE_PCand wt_PCand ((F_impl_PathsNew (F_laws_toAddr x_aA)).Cands) 1) : PPaths } 1)) wN ?_
 refine pu (vb (decide ((F_laws_heldPaths { At := ((F_impl_PathsNew (F_laws_toAddr x_aA)).At), Cands := (marksE mkE_PCand wt_PCand ((F_impl_PathsNew (F_laws_toAddr x_aA)).Cands) 1) : PPaths } 1) < 0))) wN ?_
 refine wl_nil <| wq_then ?_
 rcases bt (decide ((F_laws_heldPaths { At := ((F_impl_PathsNew (F_laws_toAddr x_aA)).At), Cands := (marksE mkE_PCand wt_PCand ((F_impl_PathsNew (F_laws_toAddr x_aA)).Cands) 1) : PPaths } 1) < 0)) with h67 | h67
 ·have q68 := of_decide_eq_true h67
  refine ct h67 ?_
  refine sr ?_
  refine ag (vb false) wN ?_
  refine wl_nil <| wq_then <| wc_ret <| wq_then_ret ?_
  refine ret_1 (.inl rfl) (vb false) rfl rfl ?_
  refine ⟨m66.keep0, ?_⟩
  have hF69 : F_laws_FnExactPathsNew x_aA = false := by simp only [F_laws_FnExactPathsNew, h57, h67, cond_true, cond_false]
  rw [hF69]
  exact rfl
 have q70 := of_decide_eq_false h67
 refine cf h67 ?_
 refine wc_skip <| wq_then <| wc_seq <| sr ?_
 refine mv (vi (F_laws_heldPaths { At := ((F_impl_PathsNew (F_laws_toAddr x_aA)).At), Cands := (marksE mkE_PCand wt_PCand ((F_impl_PathsNew (F_laws_toAddr x_aA)).Cands) 1) : PPaths } 1)) wN ?_
 refine mv (vi (1 + totL wt_PCand ((F_impl_PathsNew (F_laws_toAddr x_aA)).Cands))) wN ?_
 refine pu (vb (!(decide ((F_laws_heldPaths { At := ((F_impl_PathsNew (F_laws_toAddr x_aA)).At), Cands := (marksE mkE_PCand wt_PCand ((F_impl_PathsNew (F_laws_toAddr x_aA)).Cands) 1) : PPaths } 1) = (1 + totL wt_PCand ((F_impl_PathsNew (F_laws_toAddr x_aA)).Cands)))))) wN ?_
 refine wl_nil <| wq_then ?_
 rcases bf (decide ((F_laws_heldPaths { At := ((F_impl_PathsNew (F_laws_toAddr x_aA)).At), Cands := (marksE mkE_PCand wt_PCand ((F_impl_PathsNew (F_laws_toAddr x_aA)).Cands) 1) : PPaths } 1) = (1 + totL wt_PCand ((F_impl_PathsNew (F_laws_toAddr x_aA)).Cands)))) with h71 | h71
 ·have q106 := of_decide_eq_false h71
  refine ct (congrArg not h71) ?_
  refine sr ?_
  refine ag (vb false) wN ?_
  refine wl_nil <| wq_then <| wc_ret <| wq_then_ret ?_
  refine ret_1 (.inl rfl) (vb false) rfl rfl ?_
  refine ⟨m66.keep0, ?_⟩
  have hF107 : F_laws_FnExactPathsNew x_aA = false := by simp only [F_laws_FnExactPathsNew, h57, h67, h71, cond_true, cond_false]
  rw [hF107]
  exact rfl
 have q72 := of_decide_eq_true h71
 refine cf (congrArg not h71) ?_
 refine wc_skip <| wq_then <| sr ?_
 have b73 := (((((((b29.kp k30).kp k32).kp k45).ch k48 (Nat.ne_of_lt (Nat.lt_of_lt_of_le p3 (Nat.le_trans (Nat.le_trans (Nat.le_trans (Nat.le_trans (Nat.le_trans (Nat.le_trans k7.size k9.size) k22.size) k25.size) k30.size) k32.size) p43)))).kp k55).ch k61 (fun h => by have h1 := h.1; have h3 := Nat.lt_of_lt_of_le p3 (Nat.le_trans (Nat.le_trans (Nat.le_trans (Nat.le_trans k7.size k9.size) k22.size) k25.size) k30.size); omega)).kp k65)
 refine lN (L_61 x_aA) wN isAgg_56 sizeOf_56 b73 ?_
 refine cl wN (C_laws_toAddr w12 _ x_aA (mR_56)) ?_
 rintro _ w13 ⟨k74, rfl⟩
 have m75 := m66.extk k74
 refine cl wN (C_impl_PathsNew w13 _ (F_laws_toAddr x_aA) (mR_61)) ?_
 rintro _ w14 ⟨k76, ⟨a77, c78, rfl, o79, s80, ap82⟩⟩
 have m83 := m75.extk k76
 obtain ⟨y84, o85⟩ := OLv.ow o79
 refine al [(vi 0), (vi 0), (vs none 0 0)] wN zero_75 ?_
 intro g86 w15 p87 p88 k89 b90
 have m91 := m83.extk k89
 refine st (va (L_75 (F_impl_PathsNew (F_laws_toAddr x_aA)) a77 c78)) (L_75 (F_impl_PathsNew (F_laws_toAddr x_aA)) a77 c78) (L_75 (F_impl_PathsNew (F_laws_toAddr x_aA)) a77 c78) wN sizeOf_75 b90 ?_
 intro w16 k92 b93 z94
 have m95 := m91.ext k92 (fun k hk => by subst hk; exact Nat.le_trans (Nat.le_trans (Nat.le_trans (Nat.le_trans (Nat.le_trans (Nat.le_trans (Nat.le_trans (Nat.le_trans (Nat.le_trans (Nat.le_trans (Nat.le_trans (Nat.le_trans (Nat.le_trans (Nat.le_trans k4.size k7.size) k9.size) k22.size) k25.size) k30.size) k32.size) k45.size) k48.size) k55.size) k61.size) k65.size) k74.size) k76.size) p87)
 refine wl_nil <| wq_then <| wc_seq <| sr ?_
 refine lN (L_75 (F_impl_PathsNew (F_laws_toAddr x_aA)) a77 c78) wN isAgg_75 sizeOf_75 b93 ?_
 have b96 := (((((((b52.kp k55).ch k61 (fun h => by have h1 := h.1; have h3 := Nat.lt_of_lt_of_le p21 (Nat.le_trans k25.size k30.size); omega)).kp k65).kp k74).kp k76).kp k89).ch k92 (Nat.ne_of_lt (Nat.lt_of_lt_of_le p21 (Nat.le_trans (Nat.le_trans (Nat.le_trans (Nat.le_trans (Nat.le_trans (Nat.le_trans (Nat.le_trans (Nat.le_trans (Nat.le_trans (Nat.le_trans k25.size k30.size) k32.size) k45.size) k48.size) k55.size) k61.size) k65.size) k74.size) k76.size) p87))))
 refine lN (L_75 (F_spec_PathsNew (F_laws_toAddr x_aA)) a10 c11) wN isAgg_75 sizeOf_75 b96 ?_
 have o97 := (OLv.ch (OLv.kp o79 k89) k92 (fun g h1 h2 hk => by have h3 := Nat.le_trans (Nat.le_refl _) p87; omega))
 have o98 := (OLv.ch (OLv.kp (OLv.kp (OLv.kp (OLv.kp (OLv.ch (OLv.kp o54 k55) k61 (fun g h1 h2 hk => by have h3 := (Nat.le_trans (Nat.le_trans k22.size k25.size) k30.size); have h4 := hk.1; omega)) k65) k74) k76) k89) k92 (fun g h1 h2 hk => by have h3 := Nat.le_trans (Nat.le_trans (Nat.le_trans (Nat.le_trans (Nat.le_trans (Nat.le_trans (Nat.le_trans (Nat.le_trans (Nat.le_trans (Nat.le_trans (Nat.le_trans k22.size k25.size) k30.size) k32.size) k45.size) k48.size) k55.size) k61.size) k65.size) k74.size) k76.size) p87; omega))
 refine cl wN (C_laws_eqPaths w16 _ (F_impl_PathsNew (F_laws_toAddr x_aA)) (mR_75 (OLv.rl o97) s80) _ (F_spec_PathsNew (F_laws_toAddr x_aA)) (mR_75 (OLv.rl o98) s13)) ?_
 rintro _ w17 ⟨k99, rfl⟩
 have m100 := m95.extk k99
 refine pu (vb (!(F_laws_eqPaths (F_impl_PathsNew (F_laws_toAddr x_aA)) (F_spec_PathsNew (F_laws_toAddr x_aA))))) wN ?_
 refine wl_nil <| wq_then ?_
 refine cf (congrArg not h57) ?_
 refine wc_skip <| wq_then <| sr ?_
 refine ag (vi 1) wN ?_
 refine nx ?_
 have b101 := ((((((b64.kp k65).kp k74).kp k76).kp k89).ch k92 (Nat.ne_of_lt (Nat.lt_of_lt_of_le p44 (Nat.le_trans (Nat.le_trans (Nat.le_trans (Nat.le_trans (Nat.le_trans (Nat.le_trans k48.size k55.size) k61.size) k65.size) k74.size) k76.size) p87)))).kp k99)
 refine lN [(vi (((F_impl_PathsNew (F_laws_toAddr x_aA)).At).Host)), (vi (((F_impl_PathsNew (F_laws_toAddr x_aA)).At).Port)), (vs a33 ((F_impl_PathsNew (F_laws_toAddr x_aA)).Cands).length c34)] wN isAgg_75 sizeOf_75 b101 ?_
 refine mv (vi 1) wN ?_
 have r102 := (RLk.kp (RLk.ch (RLk.kp (RLk.kp (RLk.kp (RLk.kp r62 k65) k74) k76) k89) k92 (fun g h1 h2 hk => by have h3 := Nat.le_trans (Nat.le_trans (Nat.le_trans (Nat.le_trans (Nat.le_trans (Nat.le_trans (Nat.le_trans k45.size k48.size) k55.size) k61.size) k65.size) k74.size) k76.size) p87; omega)) k99)
 refine cl wN (C_laws_heldPaths w17 (va [(vi (((F_impl_PathsNew (F_laws_toAddr x_aA)).At).Host)), (vi (((F_impl_PathsNew (F_laws_toAddr x_aA)).At).Port)), (vs a33 ((F_impl_PathsNew (F_laws_toAddr x_aA)).Cands).length c34)]) { At := ((F_impl_PathsNew (F_laws_toAddr x_aA)).At), Cands := (marksE mkE_PCand wt_PCand ((F_impl_PathsNew (F_laws_toAddr x_aA)).Cands) 1) : PPaths } (show R_75 w17 (va [(vi (((F_impl_PathsNew (F_laws_toAddr x_aA)).At).Host)), (vi (((F_impl_PathsNew (F_laws_toAddr x_aA)).At).Port)), (vs a33 ((F_impl_PathsNew (F_laws_toAddr x_aA)).Cands).length c34)]) { At := ((F_impl_PathsNew (F_laws_toAddr x_aA)).At), Cands := (marksE mkE_PCand wt_PCand ((F_impl_PathsNew (F_laws_toAddr x_aA)).Cands) 1) : PPaths } from ⟨a33, c34, by simp only [marksB_len, marksI_len, marksL_len, marksE_len], by simpa only [marksB_len, marksI_len, marksL_len, marksE_len] using (RLk.rl r102), by simp only [marksB_len, marksI_len, marksL_len, marksE_len]; first | exact s36 | omega⟩) 1 (by omega) (by omega)) ?_
 rintro _ w18 ⟨k103, rfl⟩
 have m104 := m100.extk k103
 refine ag (vi (F_laws_heldPaths { At := ((F_impl_PathsNew (F_laws_toAddr x_aA)).At), Cands := (marksE mkE_PCand wt_PCand ((F_impl_PathsNew (F_laws_toAddr x_aA)).Cands) 1) : PPaths } 1)) wN ?_
 refine wl_nil <| wq_then <| wc_seq <| sr ?_
 refine mv (vi (F_laws_heldPaths { At := ((F_impl_PathsNew (F_laws_toAddr x_aA)).At), Cands := (marksE mkE_PCand wt_PCand ((F_impl_PathsNew (F_laws_toAddr x_aA)).Cands) 1) : PPaths } 1)) wN ?_
 refine pu (vb (decide ((F_laws_heldPaths { At := ((F_impl_PathsNew (F_laws_toAddr x_aA)).At), Cands := (marksE mkE_PCand wt_PCand ((F_impl_PathsNew (F_laws_toAddr x_aA)).Cands) 1) : PPaths } 1) < 0))) wN ?_
 refine wl_nil <| wq_then ?_
 refine cf h67 ?_
 refine wc_skip <| wq_then <| wc_seq <| sr ?_
 refine mv (vi (F_laws_heldPaths { At := ((F_impl_PathsNew (F_laws_toAddr x_aA)).At), Cands := (marksE mkE_PCand wt_PCand ((F_impl_PathsNew (F_laws_toAddr x_aA)).Cands) 1) : PPaths } 1)) wN ?_
 refine mv (vi (1 + totL wt_PCand ((F_impl_PathsNew (F_laws_toAddr x_aA)).Cands))) wN ?_
 refine pu (vb (!(decide ((F_laws_heldPaths { At := ((F_impl_PathsNew (F_laws_toAddr x_aA)).At), Cands := (marksE mkE_PCand wt_PCand ((F_impl_PathsNew (F_laws_toAddr x_aA)).Cands) 1) : PPaths } 1) = (1 + totL wt_PCand ((F_impl_PathsNew (F_laws_toAddr x_aA)).Cands)))))) wN ?_
 refine wl_nil <| wq_then ?_
 refine cf (congrArg not h71) ?_
 refine wc_skip <| wq_then <| sr ?_
 refine ag (vb true) wN ?_
 refine wl_nil <| wq_then <| wc_ret ?_
 refine ret_1 (.inl rfl) (vb true) rfl rfl ?_
 refine ⟨m104.keep0, ?_⟩
 have hF105 : F_laws_FnExactPathsNew x_aA = true := by simp only [F_laws_FnExactPathsNew, h57, h67, h71, cond_true, cond_false]
 rw [hF105]
 exact rfl
end Go.Proofs.Ytodlalolknldmaa.K
