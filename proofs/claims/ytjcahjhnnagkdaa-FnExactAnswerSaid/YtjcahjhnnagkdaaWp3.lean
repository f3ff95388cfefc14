import Derived.Test.YtjcahjhnnagkdaaCore
import Derived.Test.YtjcahjhnnagkdaaProg
import Derived.Test.YtjcahjhnnagkdaaHeld
import Derived.Test.YtjcahjhnnagkdaaFun
import Derived.Test.YtjcahjhnnagkdaaFunZ
import Derived.Test.YtjcahjhnnagkdaaMark
import Derived.Test.YtjcahjhnnagkdaaWp2
namespace Go.Proofs.Ytjcahjhnnagkdaa.K
open Go.RowKit
set_option linter.unusedVariables false
set_option linter.unusedSimpArgs false
set_option maxRecDepth 100000
theorem C_impl_candAt (w0 : World) (v_x_p : Value) (x_p : PPaths) (r_x_p : R_59 w0 v_x_p x_p) (v_x_a : Value) (x_a : PAddr) (r_x_a : R_26 w0 v_x_a x_a)  : Fn Try.prog 100 #[v_x_p, v_x_a] w0 (fun v w' => Keep w0 w' ∧ O_3 w' w0.heap.size v (candAt x_p x_a)) := by
 obtain ⟨a1, c2, rfl, r3, s4⟩ := r_x_p
 obtain rfl := r_x_a
 refine fn_of (n := 21) (l := [(va (L_59 x_p a1 c2)), (va (L_26 x_a)), U, U, U, U, U, U, U, U, U, U, U, U, U, U, U, U, U, U, U]) Try.func100 rfl rfl (by kernel_rfl) rfl ?_
 refine sr ?_
 refine bx (L_59 x_p a1 c2) wN ?_
 intro g6 w1 p7 p8 k9 b10
 have m11 := (Ch.base w0).extk k9
 refine bx (L_26 x_a) wN ?_
 intro g12 w2 p13 p14 k15 b16
 have m17 := m11.extk k15
 refine ag (vi 0) wN ?_
 refine wl_nil <| wq_then <| wc_seq <| sr ?_
 refine pu (vp g6 2) wN ?_
 have b18 := (b10.kp k15)
 refine ld (vs a1 x_p.Cands.length c2) wN isAgg_57 b18 ?_
 obtain ⟨y19, r20⟩ := RLv.row (r3.from0 m17)
 refine ln wN slTy_57 r20 ?_
 refine mv (vi 0) wN ?_
 refine wl_nil <| wq_then <| wc_block ?_
 refine wc_normQ (fun e => [e 0, e 1, e 2, e 3, e 4, e 5, e 6, e 7, e 8, e 9, (vi ((0 : Nat) : Int)), e 11, e 12, e 13, e 14, e 15, e 16, e 17, e 18, e 19, e 20]) rfl ⟨rfl, rfl, rfl, rfl, rfl, rfl, rfl, rfl, rfl, rfl, (congrArg (Value.int .i64) (show (0 : Int) = ((0 : Nat) : Int) by omega)), rfl, rfl, rfl, rfl, rfl, rfl, rfl, rfl, rfl, rfl, trivial⟩ ?_
 refine wc_loop (fun e' w' => ∃ (k : Nat) (u21 : Nat → Value), e' = lst [(u21 0), (u21 1), (u21 2), (vp g12 0), (u21 3), (u21 4), (u21 5), (u21 6), (vs a1 x_p.Cands.length c2), (vi (x_p.Cands.length : Int)), (vi ((k : Nat) : Int)), (u21 7), (u21 8), (u21 9), (u21 10), (u21 11), (u21 12), (u21 13), (u21 14), (u21 15), (u21 16)] ∧ Ch (fun k => w0.heap.size ≤ k) w0 w' ∧ Ch (fun k => w2.heap.size ≤ k) w2 w' ∧ k ≤ x_p.Cands.length ∧ ∀ j, j < k → (fun c : PCand => decide (c.A.Host = x_a.Host) && decide (c.A.Port = x_a.Port)) (x_p.Cands.getD j z_PCand) = false) (fun e' _ => x_p.Cands.length - ((intOf (e' 10))).toNat) ?_ ?_
 ·exact ⟨0, (unL [_, _, _, _, U, U, _, U, U, U, U, U, U, U, U, U, U]), rfl, m17, (Ch.refl (fun k => w2.heap.size ≤ k) w2), (by omega), (by first | (intro j hj; omega) | exact find_next (p := (fun c : PCand => decide (c.A.Host = x_a.Host) && decide (c.A.Port = x_a.Port))) (by assumption) (by assumption))⟩
 ·rintro _ w3 ⟨k, u21, rfl, m22, k23, i24, i25⟩
  refine sr ?_
  refine pu (vb (decide (((k : Nat) : Int) < (x_p.Cands.length : Int)))) wN ?_
  refine wl_nil <| wq_then <| wc_seq ?_
  rcases bf (decide (((k : Nat) : Int) < (x_p.Cands.length : Int))) with h26 | h26
  ·have q57 := of_decide_eq_false h26
   refine cf h26 ?_
   refine wc_exit <| wq_then_exit <| wq_then_exit <| wq_blk_exit <| wq_then <| sr ?_
   refine ag (vi (-1)) wN ?_
   refine wl_nil <| wq_then <| wc_ret ?_
   refine ret_1 (.inl rfl) (vi (-1)) rfl rfl ?_
   refine ⟨m22.keep0, ?_⟩
   have hF58 : candAt x_p x_a = (-1) := by exact findF_none (p := (fun c : PCand => decide (c.A.Host = x_a.Host) && decide (c.A.Port = x_a.Port))) (z := z_PCand) (by assumption) (by omega)
   rw [hF58]
   exact rfl
  have q27 := of_decide_eq_true h26
  refine ct h26 ?_
  refine wc_skip <| wq_then <| wc_seq <| wc_block <| sr ?_
  refine mv (vi ((k : Nat) : Int)) wN ?_
  obtain ⟨y28, r29⟩ := RLv.row (r3.from0 m22)
  refine wl_index wN ((k : Nat) : Int) rfl rfl rfl slTy_57 rfl rfl r29 (by first | omega | (simp only [List.length_cons, List.length_nil, List.length_replicate, List.length_append, List.length_take, List.length_set, List.length_map]; omega)) (by first | omega | (simp only [List.length_cons, List.length_nil, List.length_replicate, List.length_append, List.length_take, List.length_set, List.length_map]; omega)) ?_
  obtain ⟨y30, l31, r32, e33, u34⟩ := RLv.el z_PCand (i := k) r3 (by first | omega | (simp only [List.length_cons, List.length_nil, List.length_replicate, List.length_append, List.length_take, List.length_set, List.length_map]; omega))
  obtain ⟨a35, c36, l40, rfl, r37, s38, u41⟩ := SubR.c u34
  obtain rfl := SubR.n u41
  refine wl_loadEN [(vi (((x_p.Cands.getD k z_PCand).A).Host)), (vi (((x_p.Cands.getD k z_PCand).A).Port)), (vs a35 (x_p.Cands.getD k z_PCand).Draw.length c36), (vi ((x_p.Cands.getD k z_PCand).Until))] wN rfl rfl rfl rfl isAgg_54 sizeOf_54 (r32.from0 m22) (by first | omega | (simp only [List.length_cons, List.length_nil, List.length_replicate, List.length_append, List.length_take, List.length_set, List.length_map]; omega)) ((part_of (off := 0) (n := 4) e33 (by first | rfl | simp | omega) (by decide)).trans rfl) ?_
  refine al [(vi 0), (vi 0), (vs none 0 0), (vi 0)] wN zero_54 ?_
  intro g42 w4 p43 p44 k45 b46
  have m47 := m22.extk k45
  refine ag (vi ((k : Nat) : Int)) wN ?_
  refine st (va [(vi (((x_p.Cands.getD k z_PCand).A).Host)), (vi (((x_p.Cands.getD k z_PCand).A).Port)), (vs a35 (x_p.Cands.getD k z_PCand).Draw.length c36), (vi ((x_p.Cands.getD k z_PCand).Until))]) [(vi (((x_p.Cands.getD k z_PCand).A).Host)), (vi (((x_p.Cands.getD k z_PCand).A).Port)), (vs a35 (x_p.Cands.getD k z_PCand).Draw.length c36), (vi ((x_p.Cands.getD k z_PCand).Until))] [(vi (((x_p.Cands.getD k z_PCand).A).Host)), (vi (((x_p.Cands.getD k z_PCand).A).Port)), (vs a35 (x_p.Cands.getD k z_PCand).Draw.length c36), (vi ((x_p.Cands.getD k z_PCand).Until))] wN sizeOf_54 b46 ?_
  intro w5 k48 b49 z50
  have m51 := m47.ext k48 (fun k hk => by subst hk; exact Nat.le_trans (t3 k9.size k15.size k23.size) p43)
  refine nx ?_
  refine pu (vp g42 0) wN ?_
  refine lN (L_26 ((x_p.Cands.getD k z_PCand).A)) wN isAgg_26 sizeOf_26 b49 ?_
  have b52 := (((b16.ch k23 (Nat.not_le.2 (Nat.lt_of_lt_of_le p14 (Nat.le_refl w2.heap.size)))).kp k45).ch k48 (Nat.ne_of_lt (Nat.lt_of_lt_of_le p14 (Nat.le_trans k23.size p43))))
  refine lN (L_26 x_a) wN isAgg_26 sizeOf_26 b52 ?_
  refine wl_aggeq ((decide ((((x_p.Cands.getD k z_PCand).A).Host) = x_a.Host) && decide ((((x_p.Cands.getD k z_PCand).A).Port) = x_a.Port))) wN rfl rfl rfl rfl rfl guardt_26 (aggeq_26 (((x_p.Cands.getD k z_PCand).A).Host) x_a.Host (((x_p.Cands.getD k z_PCand).A).Port) x_a.Port w5) ?_
  refine wl_nil <| wq_then ?_
  rcases bt (decide ((((x_p.Cands.getD k z_PCand).A).Host) = x_a.Host) && decide ((((x_p.Cands.getD k z_PCand).A).Port) = x_a.Port)) with h53 | h53
  ·refine ct h53 ?_
   refine sr ?_
   refine mv (vi ((k : Nat) : Int)) wN ?_
   refine ag (vi ((k : Nat) : Int)) wN ?_
   refine wl_nil <| wq_then <| wc_ret <| wq_blk_ret <| wq_then_ret <| wq_then_ret <| wq_blk_ret <| wq_then_ret ?_
   refine ret_1 (.inl rfl) (vi ((k : Nat) : Int)) rfl rfl ?_
   refine ⟨m51.keep0, ?_⟩
   have hF55 : candAt x_p x_a = ((k : Nat) : Int) := by exact findF_some (p := (fun c : PCand => decide (c.A.Host = x_a.Host) && decide (c.A.Port = x_a.Port))) (z := z_PCand) (by assumption) (by omega) (by assumption)
   rw [hF55]
   exact rfl
  refine cf h53 ?_
  refine wc_skip <| wq_blk_normal <| wq_then <| wc_region ?_
  refine ar (((k : Nat) : Int) + 1) wN ?_
  refine mv (vi (((k : Nat) : Int) + 1)) wN ?_
  refine wl_nil ?_
  refine wq_loopQ (w0 := w3) (fun e => [e 0, e 1, e 2, e 3, e 4, e 5, e 6, e 7, e 8, e 9, (vi (((k + 1) : Nat) : Int)), e 11, e 12, e 13, e 14, e 15, e 16, e 17, e 18, e 19, e 20]) rfl ?_ ?_ ?_
  · exact ⟨rfl, rfl, rfl, rfl, rfl, rfl, rfl, rfl, rfl, rfl, (congrArg (Value.int .i64) (show ((((k : Nat) : Int) + 1) : Int) = (((k + 1) : Nat) : Int) by omega)), rfl, rfl, rfl, rfl, rfl, rfl, rfl, rfl, rfl, rfl, trivial⟩
  · exact ⟨(k + 1), (unL [_, _, _, _, _, _, _, _, _, _, _, _, _, _, _, _, _]), rfl, m51, ((((Ch.refl (fun k => w2.heap.size ≤ k) w2).ext k23 (fun k hk => Nat.le_trans (Nat.le_refl w2.heap.size) hk)).extk k45).ext k48 (fun k hk => by subst hk; exact Nat.le_trans k23.size p43)), (by omega), (by first | (intro j hj; omega) | exact find_next (p := (fun c : PCand => decide (c.A.Host = x_a.Host) && decide (c.A.Port = x_a.Port))) (by assumption) (by assumption))⟩
  · show x_p.Cands.length - ((((k + 1) : Nat) : Int)).toNat < x_p.Cands.length - (((k : Nat) : Int)).toNat; omega
end Go.Proofs.Ytjcahjhnnagkdaa.K
