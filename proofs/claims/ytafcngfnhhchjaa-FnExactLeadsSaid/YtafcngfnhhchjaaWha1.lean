import Derived.Test.YtafcngfnhhchjaaCore
import Derived.Test.YtafcngfnhhchjaaProg
import Derived.Test.YtafcngfnhhchjaaHeld
import Derived.Test.YtafcngfnhhchjaaFun
import Derived.Test.YtafcngfnhhchjaaFunZ
import Derived.Test.YtafcngfnhhchjaaMark
import Derived.Test.YtafcngfnhhchjaaHash
import Derived.Test.YtafcngfnhhchjaaWh3
namespace Go.Proofs.Ytafcngfnhhchjaa.K
open Go.RowKit
set_option linter.unusedVariables false
set_option linter.unusedSimpArgs false
set_option maxRecDepth 100000
set_option maxHeartbeats 4000000
theorem mR_9 {w : World} {x : ByteArray} : R_9 w (.string x) x := rfl
theorem C_spec_Leads (w0 : World) (v_x_key : Value) (x_key : List UInt8) (r_x_key : R_22 w0 v_x_key x_key) (v_x_to : Value) (x_to : List UInt8) (r_x_to : R_22 w0 v_x_to x_to) (x_most : Int)  : Fn Try.prog 10 #[v_x_key, v_x_to, (vi x_most)] w0 (fun v w' => Keep w0 w' ∧ O_3 w' w0.heap.size v (leadsP x_key x_to x_most)) := by
 obtain ⟨a1, c2, rfl, r3, s4⟩ := r_x_key
 obtain ⟨a6, c7, rfl, r8, s9⟩ := r_x_to
 refine fn_of (n := 26) (l := [(vs a1 x_key.length c2), (vs a6 x_to.length c7), (vi x_most), U, U, U, U, U, U, U, U, U, U, U, U, U, U, U, U, U, U, U, U, U, U, U]) Try.func10 rfl rfl (by kernel_rfl) rfl ?_
 refine sr ?_
 refine ag (vi 0) wN ?_
 refine wl_nil <| wq_then <| wc_seq <| sr ?_
 refine mv (vi x_most) wN ?_
 refine cl wN (C_spec_l1In w0 x_most 0 64) ?_
 rintro _ w1 ⟨k11, rfl⟩
 have m12 := (Ch.base w0).extk k11
 refine pu (vb (!(F_spec_l1In x_most 0 64))) wN ?_
 refine wl_nil <| wq_then ?_
 rcases bf (F_spec_l1In x_most 0 64) with h13 | h13
 ·have q59 := spec_l1In_f h13
  refine ct (congrArg not h13) ?_
  refine sr ?_
  refine ag (vi (-1)) wN ?_
  refine wl_nil <| wq_then <| wc_ret <| wq_then_ret ?_
  refine ret_1 (.inl rfl) (vi (-1)) rfl rfl ?_
  refine ⟨m12.keep0, ?_⟩
  have hF60 : leadsP x_key x_to x_most = (-1) := by first | exact leadsP_f (by omega) | exact leadsP_s (by omega) (by omega) (by assumption) (by omega) (by assumption) | exact leadsP_n (by omega) (by omega) (by assumption) (by omega)
  rw [hF60]
  exact rfl
 have q14 := spec_l1In_t h13
 refine cf (congrArg not h13) ?_
 refine wc_skip <| wq_then <| sr ?_
 refine wl_lit0 wN rfl rfl slTy_22 (fun w => by kernel_rfl) ?_
 intro a15 w2 k16 o17
 have m18 := m12.extk k16
 refine mv (vs a1 x_key.length c2) wN ?_
 refine wl_append0 wN rfl rfl rfl slTy_22 rfl rfl o17 (r3.from0 m18) (all_bV _) (by first | (simp only [List.length_append, List.length_cons, List.length_nil, List.length_replicate, List.length_take, List.length_drop]; omega) | omega) (by simp only [maxLen]; first | (simp only [List.length_append, List.length_cons, List.length_nil, List.length_replicate, List.length_take, List.length_drop]; omega) | omega) k16.size ?_
 intro u20 w3 k21 o22 j23
 obtain ⟨a24, c25, rfl⟩ := own_form o22
 have n26 : New w2 a24 c25 := j23 _ _ rfl
 have m27 := m18.extk k21
 refine ag (vs a24 x_key.length c25) wN ?_
 refine wl_nil <| wq_then <| wc_seq <| sr ?_
 refine ag (vi 0) wN ?_
 refine wl_nil <| wq_then <| wc_block ?_
 have hE30 : (x_key : List UInt8) = chainN x_key 0 := by rfl
 refine wc_loopQ (fun e => [e 0, (vs a6 x_to.length c7), (vi x_most), e 3, e 4, e 5, e 6, (.slice a24 (chainN x_key 0).length c25), (vi ((0 : Nat) : Int)), e 9, e 10, e 11, e 12, e 13, e 14, e 15, e 16, e 17, e 18, e 19, e 20, e 21, e 22, e 23, e 24, e 25]) rfl ⟨rfl, rfl, rfl, rfl, rfl, rfl, rfl, (congrArg (fun l : List UInt8 => Value.slice a24 l.length c25) hE30), (congrArg (Value.int .i64) (show (0 : Int) = ((0 : Nat) : Int) by omega)), rfl, rfl, rfl, rfl, rfl, rfl, rfl, rfl, rfl, rfl, rfl, rfl, rfl, rfl, rfl, rfl, rfl, trivial⟩ (fun e' w' => ∃ (i : Nat) (u29 : Nat → Value) (a7x : Option Addr) (c7x : Nat), e' = lst [(u29 0), (vs a6 x_to.length c7), (vi x_most), (u29 1), (u29 2), (u29 3), (u29 4), (.slice a7x (chainN x_key i).length c7x), (vi ((i : Nat) : Int)), (u29 5), (u29 6), (u29 7), (u29 8), (u29 9), (u29 10), (u29 11), (u29 12), (u29 13), (u29 14), (u29 15), (u29 16), (u29 17), (u29 18), (u29 19), (u29 20), (u29 21)] ∧ Ch (fun k => w0.heap.size ≤ k) w0 w' ∧ Ch (fun k => w1.heap.size ≤ k) w3 w' ∧ ((i : Nat) : Int) ≤ x_most + 1 ∧ firstI (fun i => decide (chain x_key i = x_to)) 0 (x_most.toNat + 1) = firstI (fun i => decide (chain x_key i = x_to)) i (x_most.toNat + 1 - i) ∧ (World.ownsRow w' w1.heap.size 5 1 (.slice a7x (chainN x_key i).length c7x) (chainN x_key i).length ((chainN x_key i).map bV) ∧ (chainN x_key i).length ≤ 1073741824)) (fun e' _ => (x_most + 1 - (intOf (e' 8))).toNat) ?_ ?_
 ·exact fun u => ⟨0, (unL [u 0, u 3, u 4, u 5, u 6, u 9, u 10, u 11, u 12, u 13, u 14, u 15, u 16, u 17, u 18, u 19, u 20, u 21, u 22, u 23, u 24, u 25]), a24, c25, rfl, m27, (Ch.refl (fun k => w1.heap.size ≤ k) w3), (by omega), (by first | rfl | exact leads_nexts (by assumption) (by omega) (by omega) (by assumption)), (hE30 ▸ ⟨o22, s4⟩)⟩
 ·rintro _ w4 ⟨i, u29, a7x, c7x, rfl, m31, k32, i33, i34, ⟨o35, s36⟩⟩
  have hcl := chainN_le x_key i
  refine wc_seq <| sr ?_
  refine mv (vi ((i : Nat) : Int)) wN ?_
  refine mv (vi x_most) wN ?_
  refine pu (vb (decide (((i : Nat) : Int) ≤ x_most))) wN ?_
  refine wl_nil <| wq_then ?_
  rcases bf (decide (((i : Nat) : Int) ≤ x_most)) with h38 | h38
  ·have q57 := of_decide_eq_false h38
   refine cf h38 ?_
   refine wc_exit <| wq_then_exit <| wq_then_exit <| wq_blk_exit <| wq_then <| sr ?_
   refine ag (vi (-1)) wN ?_
   refine wl_nil <| wq_then <| wc_ret ?_
   refine ret_1 (.inl rfl) (vi (-1)) rfl rfl ?_
   refine ⟨m31.keep0, ?_⟩
   have hF58 : leadsP x_key x_to x_most = (-1) := by first | exact leadsP_f (by omega) | exact leadsP_s (by omega) (by omega) (by assumption) (by omega) (by assumption) | exact leadsP_n (by omega) (by omega) (by assumption) (by omega)
   rw [hF58]
   exact rfl
  have q39 := of_decide_eq_true h38
  refine ct h38 ?_
  refine wc_skip <| wq_then <| wc_seq <| wc_block <| wc_seq <| sr ?_
  refine mv (vs a7x (chainN x_key i).length c7x) wN ?_
  refine mv (vs a6 x_to.length c7) wN ?_
  refine cl wN (C_spec_l1Same w4 _ (chainN x_key i) (mR_22 (Rd.of_own o35) s36) _ x_to (mR_22 (r8.from0 m31) s9)) ?_
  rintro _ w5 ⟨k40, rfl⟩
  have m41 := m31.extk k40
  refine wl_nil <| wq_then ?_
  rcases bt (F_spec_l1Same (chainN x_key i) x_to) with h42 | h42
  ·refine ct h42 ?_
   refine sr ?_
   refine mv (vi ((i : Nat) : Int)) wN ?_
   refine ag (vi ((i : Nat) : Int)) wN ?_
   refine wl_nil <| wq_then <| wc_ret <| wq_then_ret <| wq_blk_ret <| wq_then_ret <| wq_then_ret <| wq_blk_ret <| wq_then_ret ?_
   refine ret_1 (.inl rfl) (vi ((i : Nat) : Int)) rfl rfl ?_
   refine ⟨m41.keep0, ?_⟩
   have hF44 : leadsP x_key x_to x_most = ((i : Nat) : Int) := by first | exact leadsP_f (by omega) | exact leadsP_s (by omega) (by omega) (by assumption) (by omega) (by assumption) | exact leadsP_n (by omega) (by omega) (by assumption) (by omega)
   rw [hF44]
   exact rfl
  refine cf h42 ?_
  refine wc_skip <| wq_then <| wc_region ?_
  refine mv (vs a7x (chainN x_key i).length c7x) wN ?_
  have o46 := (own_kp o35 k40)
  refine cl wN (C_spec_Derive w5 _ (chainN x_key i) (mR_22 (Rd.of_own o46) s36) _ (ByteArray.mk ([114, 101, 107, 101, 121] : List UInt8).toArray) (mR_9) (by first | omega | decide)) ?_
  rintro _ w6 ⟨k47, ⟨a48, c49, rfl, o50, s51, ap53⟩⟩
  have m54 := m41.extk k47
  have q55 := derive_le (chainN x_key i) (ByteArray.mk ([114, 101, 107, 101, 121] : List UInt8).toArray)
  refine ag (vs a48 (derive (chainN x_key i) (ByteArray.mk ([114, 101, 107, 101, 121] : List UInt8).toArray)).length c49) wN ?_
  refine wl_nil <| wq_blk_normal <| wq_then <| wc_region ?_
  refine mv (vi ((i : Nat) : Int)) wN ?_
  refine ar (((i : Nat) : Int) + 1) wN ?_
  refine ag (vi (((i : Nat) : Int) + 1)) wN ?_
  refine wl_nil ?_
  have hE56 : ((derive (chainN x_key i) (ByteArray.mk ([114, 101, 107, 101, 121] : List UInt8).toArray)) : List UInt8) = chainN x_key (i + 1) := by rfl
  refine wq_loopQ (w0 := w4) (fun e => [e 0, (vs a6 x_to.length c7), (vi x_most), e 3, e 4, e 5, e 6, (.slice a48 (chainN x_key (i + 1)).length c49), (vi (((i + 1) : Nat) : Int)), e 9, e 10, e 11, e 12, e 13, e 14, e 15, e 16, e 17, e 18, e 19, e 20, e 21, e 22, e 23, e 24, e 25]) rfl ?_ ?_ ?_
  · exact ⟨rfl, rfl, rfl, rfl, rfl, rfl, rfl, (congrArg (fun l : List UInt8 => Value.slice a48 l.length c49) hE56), (congrArg (Value.int .i64) (show ((((i : Nat) : Int) + 1) : Int) = (((i + 1) : Nat) : Int) by omega)), rfl, rfl, rfl, rfl, rfl, rfl, rfl, rfl, rfl, rfl, rfl, rfl, rfl, rfl, rfl, rfl, rfl, trivial⟩
  · exact fun u => ⟨(i + 1), (unL [u 0, u 3, u 4, u 5, u 6, u 9, u 10, u 11, u 12, u 13, u 14, u 15, u 16, u 17, u 18, u 19, u 20, u 21, u 22, u 23, u 24, u 25]), a48, c49, rfl, m54, ((((Ch.refl (fun k => w1.heap.size ≤ k) w3).ext k32 (fun k hk => Nat.le_trans (Nat.le_refl w1.heap.size) hk)).extk k40).extk k47), (by omega), (by first | rfl | exact leads_nexts (by assumption) (by omega) (by omega) (by assumption)), (hE56 ▸ ⟨(own_lo o50 (t4 k16.size k21.size k32.size k40.size)), s51⟩)⟩
  · show (x_most + 1 - (((i + 1) : Nat) : Int)).toNat < (x_most + 1 - ((i : Nat) : Int)).toNat; omega

theorem C_impl_Chain (w0 : World) (v_x_key : Value) (x_key : List UInt8) (r_x_key : R_22 w0 v_x_key x_key) (x_n : Int)  : Fn Try.prog 17 #[v_x_key, (vi x_n)] w0 (fun v w' => Keep w0 w' ∧ O_22 w' w0.heap.size v (chain x_key x_n)) := by
 obtain ⟨a1, c2, rfl, r3, s4⟩ := r_x_key
 refine fn_of (n := 20) (l := [(vs a1 x_key.length c2), (vi x_n), U, U, U, U, U, U, U, U, U, U, U, U, U, U, U, U, U, U]) Try.func17 rfl rfl (by kernel_rfl) rfl ?_
 refine sr ?_
 refine ag (vs none 0 0) wN ?_
 refine wl_nil <| wq_then <| wc_seq <| sr ?_
 refine mv (vi x_n) wN ?_
 refine cl wN (C_impl_within w0 x_n 0 64) ?_
 rintro _ w1 ⟨k6, rfl⟩
 have m7 := (Ch.base w0).extk k6
 refine pu (vb (!(F_impl_within x_n 0 64))) wN ?_
 refine wl_nil <| wq_then ?_
 rcases bf (F_impl_within x_n 0 64) with h8 | h8
 ·have q40 := impl_within_f h8
  refine ct (congrArg not h8) ?_
  refine sr ?_
  refine ag (vs none 0 0) wN ?_
  refine wl_nil <| wq_then <| wc_ret <| wq_then_ret ?_
  refine ret_1 (.inl rfl) (vs none 0 0) rfl rfl ?_
  refine ⟨m7.keep0, ?_⟩
  have hF41 : chain x_key x_n = [] := by first | exact chain_f (by omega) | exact chain_t (by omega) (by omega) (by omega)
  rw [hF41]
  exact ⟨_, _, rfl, (by first | exact own_nil _ _ _ _ | exact OLv.nil _ _ _ _), (by simp), ⟨trivial, trivial⟩⟩
 have q9 := impl_within_t h8
 refine cf (congrArg not h8) ?_
 refine wc_skip <| wq_then <| sr ?_
 refine mv (vs a1 x_key.length c2) wN ?_
 refine cl wN (C_impl_clone w1 _ x_key (mR_22 (r3.from0 m7) s4)) ?_
 rintro _ w2 ⟨k10, ⟨a11, c12, rfl, o13, s14, ap16⟩⟩
 have m17 := m7.extk k10
 refine ag (vs a11 (x_key).length c12) wN ?_
 refine wl_nil <| wq_then <| wc_seq <| sr ?_
 refine ag (vi 0) wN ?_
 refine wl_nil <| wq_then <| wc_block ?_
 have hE19 : ((x_key) : List UInt8) = chainN x_key 0 := by rfl
 refine wc_loopQ (fun e => [e 0, (vi x_n), e 2, e 3, (vs none 0 0), (.slice a11 (chainN x_key 0).length c12), (vi ((0 : Nat) : Int)), e 7, e 8, e 9, e 10, e 11, e 12, e 13, e 14, e 15, e 16, e 17, e 18, U]) rfl ⟨rfl, rfl, rfl, rfl, rfl, (congrArg (fun l : List UInt8 => Value.slice a11 l.length c12) hE19), (congrArg (Value.int .i64) (show (0 : Int) = ((0 : Nat) : Int) by omega)), rfl, rfl, rfl, rfl, rfl, rfl, rfl, rfl, rfl, rfl, rfl, rfl, rfl, trivial⟩ (fun e' w' => ∃ (i : Nat) (u18 : Nat → Value) (a5x : Option Addr) (c5x : Nat), e' = lst [(u18 0), (vi x_n), (u18 1), (u18 2), (vs none 0 0), (.slice a5x (chainN x_key i).length c5x), (vi ((i : Nat) : Int)), (u18 3), (u18 4), (u18 5), (u18 6), (u18 7), (u18 8), (u18 9), (u18 10), (u18 11), (u18 12), (u18 13), (u18 14), U] ∧ Ch (fun k => w0.heap.size ≤ k) w0 w' ∧ Ch (fun k => w1.heap.size ≤ k) w2 w' ∧ ((i : Nat) : Int) ≤ x_n ∧ (World.ownsRow w' w1.heap.size 5 1 (.slice a5x (chainN x_key i).length c5x) (chainN x_key i).length ((chainN x_key i).map bV) ∧ (chainN x_key i).length ≤ 1073741824)) (fun e' _ => (x_n - (intOf (e' 6))).toNat) ?_ ?_
 ·exact fun u => ⟨0, (unL [u 0, u 2, u 3, u 7, u 8, u 9, u 10, u 11, u 12, u 13, u 14, u 15, u 16, u 17, u 18]), a11, c12, rfl, m17, (Ch.refl (fun k => w1.heap.size ≤ k) w2), (by omega), (hE19 ▸ ⟨o13, s14⟩)⟩
 ·rintro _ w3 ⟨i, u18, a5x, c5x, rfl, m20, k21, i22, ⟨o23, s24⟩⟩
  have hcl := chainN_le x_key i
  refine wc_seq <| sr ?_
  refine mv (vi ((i : Nat) : Int)) wN ?_
  refine mv (vi x_n) wN ?_
  refine pu (vb (decide (((i : Nat) : Int) < x_n))) wN ?_
  refine wl_nil <| wq_then ?_
  rcases bf (decide (((i : Nat) : Int) < x_n)) with h26 | h26
  ·have q38 := of_decide_eq_false h26
   refine cf h26 ?_
   refine wc_exit <| wq_then_exit <| wq_then_exit <| wq_blk_exit <| wq_then <| sr ?_
   refine mv (vs a5x (chainN x_key i).length c5x) wN ?_
   refine ag (vs a5x (chainN x_key i).length c5x) wN ?_
   refine wl_nil <| wq_then <| wc_ret ?_
   refine ret_1 (.inl rfl) (vs a5x (chainN x_key i).length c5x) rfl rfl ?_
   refine ⟨m20.keep0, ?_⟩
   have hF39 : chain x_key x_n = (chainN x_key i) := by first | exact chain_f (by omega) | exact chain_t (by omega) (by omega) (by omega)
   rw [hF39]
   exact ⟨_, _, rfl, (own_lo o23 k6.size), s24, ⟨trivial, trivial⟩⟩
  have q27 := of_decide_eq_true h26
  refine ct h26 ?_
  refine wc_skip <| wq_then <| wc_seq <| wc_block <| wc_region ?_
  refine mv (vs a5x (chainN x_key i).length c5x) wN ?_
  refine cl wN (C_impl_Derive w3 _ (chainN x_key i) (mR_22 (Rd.of_own o23) s24) _ (ByteArray.mk ([114, 101, 107, 101, 121] : List UInt8).toArray) (mR_9) (by first | omega | decide)) ?_
  rintro _ w4 ⟨k28, ⟨a29, c30, rfl, o31, s32, ap34⟩⟩
  have m35 := m20.extk k28
  have q36 := derive_le (chainN x_key i) (ByteArray.mk ([114, 101, 107, 101, 121] : List UInt8).toArray)
  refine ag (vs a29 (derive (chainN x_key i) (ByteArray.mk ([114, 101, 107, 101, 121] : List UInt8).toArray)).length c30) wN ?_
  refine wl_nil <| wq_blk_normal <| wq_then <| wc_region ?_
  refine mv (vi ((i : Nat) : Int)) wN ?_
  refine ar (((i : Nat) : Int) + 1) wN ?_
  refine ag (vi (((i : Nat) : Int) + 1)) wN ?_
  refine wl_nil ?_
  have hE37 : ((derive (chainN x_key i) (ByteArray.mk ([114, 101, 107, 101, 121] : List UInt8).toArray)) : List UInt8) = chainN x_key (i + 1) := by rfl
  refine wq_loopQ (w0 := w3) (fun e => [e 0, (vi x_n), e 2, e 3, (vs none 0 0), (.slice a29 (chainN x_key (i + 1)).length c30), (vi (((i + 1) : Nat) : Int)), e 7, e 8, e 9, e 10, e 11, e 12, e 13, e 14, e 15, e 16, e 17, e 18, U]) rfl ?_ ?_ ?_
  · exact ⟨rfl, rfl, rfl, rfl, rfl, (congrArg (fun l : List UInt8 => Value.slice a29 l.length c30) hE37), (congrArg (Value.int .i64) (show ((((i : Nat) : Int) + 1) : Int) = (((i + 1) : Nat) : Int) by omega)), rfl, rfl, rfl, rfl, rfl, rfl, rfl, rfl, rfl, rfl, rfl, rfl, rfl, trivial⟩
  · exact fun u => ⟨(i + 1), (unL [u 0, u 2, u 3, u 7, u 8, u 9, u 10, u 11, u 12, u 13, u 14, u 15, u 16, u 17, u 18]), a29, c30, rfl, m35, (((Ch.refl (fun k => w1.heap.size ≤ k) w2).ext k21 (fun k hk => Nat.le_trans (Nat.le_refl w1.heap.size) hk)).extk k28), (by omega), (hE37 ▸ ⟨(own_lo o31 (Nat.le_trans k10.size k21.size)), s32⟩)⟩
  · show (x_n - (((i + 1) : Nat) : Int)).toNat < (x_n - ((i : Nat) : Int)).toNat; omega

theorem C_impl_Leads (w0 : World) (v_x_key : Value) (x_key : List UInt8) (r_x_key : R_22 w0 v_x_key x_key) (v_x_to : Value) (x_to : List UInt8) (r_x_to : R_22 w0 v_x_to x_to) (x_most : Int)  : Fn Try.prog 12 #[v_x_key, v_x_to, (vi x_most)] w0 (fun v w' => Keep w0 w' ∧ O_3 w' w0.heap.size v (leadsP x_key x_to x_most)) := by
 obtain ⟨a1, c2, rfl, r3, s4⟩ := r_x_key
 obtain ⟨a6, c7, rfl, r8, s9⟩ := r_x_to
 refine fn_of (n := 22) (l := [(vs a1 x_key.length c2), (vs a6 x_to.length c7), (vi x_most), U, U, U, U, U, U, U, U, U, U, U, U, U, U, U, U, U, U, U]) Try.func12 rfl rfl (by kernel_rfl) rfl ?_
 refine sr ?_
 refine ag (vi 0) wN ?_
 refine wl_nil <| wq_then <| wc_seq <| sr ?_
 refine mv (vi x_most) wN ?_
 refine cl wN (C_impl_within w0 x_most 0 64) ?_
 rintro _ w1 ⟨k11, rfl⟩
 have m12 := (Ch.base w0).extk k11
 refine pu (vb (!(F_impl_within x_most 0 64))) wN ?_
 refine wl_nil <| wq_then ?_
 rcases bf (F_impl_within x_most 0 64) with h13 | h13
 ·have q39 := impl_within_f h13
  refine ct (congrArg not h13) ?_
  refine sr ?_
  refine ag (vi (-1)) wN ?_
  refine wl_nil <| wq_then <| wc_ret <| wq_then_ret ?_
  refine ret_1 (.inl rfl) (vi (-1)) rfl rfl ?_
  refine ⟨m12.keep0, ?_⟩
  have hF40 : leadsP x_key x_to x_most = (-1) := by first | exact leadsP_f (by omega) | exact leadsP_i (by omega) (by omega) (by assumption) (by omega) (by assumption) | exact leadsP_n (by omega) (by omega) (by assumption) (by omega)
  rw [hF40]
  exact rfl
 have q14 := impl_within_t h13
 refine cf (congrArg not h13) ?_
 refine wc_skip <| wq_then <| wc_seq <| sr ?_
 refine ag (vi 0) wN ?_
 refine wl_nil <| wq_then <| wc_block ?_
 refine wc_loopQ (fun e => [(vs a1 x_key.length c2), (vs a6 x_to.length c7), (vi x_most), e 3, e 4, e 5, e 6, (vi ((0 : Nat) : Int)), e 8, e 9, e 10, e 11, e 12, e 13, e 14, e 15, e 16, e 17, e 18, e 19, e 20, e 21]) rfl ⟨rfl, rfl, rfl, rfl, rfl, rfl, rfl, (congrArg (Value.int .i64) (show (0 : Int) = ((0 : Nat) : Int) by omega)), rfl, rfl, rfl, rfl, rfl, rfl, rfl, rfl, rfl, rfl, rfl, rfl, rfl, rfl, trivial⟩ (fun e' w' => ∃ (i : Nat) (u15 : Nat → Value), e' = lst [(vs a1 x_key.length c2), (vs a6 x_to.length c7), (vi x_most), (u15 0), (u15 1), (u15 2), (u15 3), (vi ((i : Nat) : Int)), (u15 4), (u15 5), (u15 6), (u15 7), (u15 8), (u15 9), (u15 10), (u15 11), (u15 12), (u15 13), (u15 14), (u15 15), (u15 16), (u15 17)] ∧ Ch (fun k => w0.heap.size ≤ k) w0 w' ∧ Ch (fun k => w1.heap.size ≤ k) w1 w' ∧ ((i : Nat) : Int) ≤ x_most + 1 ∧ firstI (fun i => decide (chain x_key i = x_to)) 0 (x_most.toNat + 1) = firstI (fun i => decide (chain x_key i = x_to)) i (x_most.toNat + 1 - i)) (fun e' _ => (x_most + 1 - (intOf (e' 7))).toNat) ?_ ?_
 ·exact fun u => ⟨0, (unL [u 3, u 4, u 5, u 6, u 8, u 9, u 10, u 11, u 12, u 13, u 14, u 15, u 16, u 17, u 18, u 19, u 20, u 21]), rfl, m12, (Ch.refl (fun k => w1.heap.size ≤ k) w1), (by omega), (by first | rfl | exact leads_next (by assumption) (by omega) (by assumption))⟩
 ·rintro _ w2 ⟨i, u15, rfl, m16, k17, i18, i19⟩
  refine wc_seq <| sr ?_
  refine mv (vi ((i : Nat) : Int)) wN ?_
  refine mv (vi x_most) wN ?_
  refine pu (vb (decide (((i : Nat) : Int) ≤ x_most))) wN ?_
  refine wl_nil <| wq_then ?_
  rcases bf (decide (((i : Nat) : Int) ≤ x_most)) with h20 | h20
  ·have q37 := of_decide_eq_false h20
   refine cf h20 ?_
   refine wc_exit <| wq_then_exit <| wq_then_exit <| wq_blk_exit <| wq_then <| sr ?_
   refine ag (vi (-1)) wN ?_
   refine wl_nil <| wq_then <| wc_ret ?_
   refine ret_1 (.inl rfl) (vi (-1)) rfl rfl ?_
   refine ⟨m16.keep0, ?_⟩
   have hF38 : leadsP x_key x_to x_most = (-1) := by first | exact leadsP_f (by omega) | exact leadsP_i (by omega) (by omega) (by assumption) (by omega) (by assumption) | exact leadsP_n (by omega) (by omega) (by assumption) (by omega)
   rw [hF38]
   exact rfl
  have q21 := of_decide_eq_true h20
  refine ct h20 ?_
  refine wc_skip <| wq_then <| wc_seq <| wc_block <| sr ?_
  refine mv (vs a1 x_key.length c2) wN ?_
  refine mv (vi ((i : Nat) : Int)) wN ?_
  refine cl wN (C_impl_Chain w2 _ x_key (mR_22 (r3.from0 m16) s4) ((i : Nat) : Int)) ?_
  rintro _ w3 ⟨k22, ⟨a23, c24, rfl, o25, s26, ap28⟩⟩
  have m29 := m16.extk k22
  have q30 := chain_le x_key ((i : Nat) : Int)
  refine mv (vs a6 x_to.length c7) wN ?_
  refine cl wN (C_bytes_Equal w3 _ (chain x_key ((i : Nat) : Int)) (mR_22 (Rd.of_own o25) s26) _ x_to (mR_22 (r8.from0 m29) s9)) ?_
  rintro _ w4 ⟨k31, rfl⟩
  have m32 := m29.extk k31
  refine wl_nil <| wq_then ?_
  rcases bt (F_bytes_Equal (chain x_key ((i : Nat) : Int)) x_to) with h33 | h33
  ·refine ct h33 ?_
   refine sr ?_
   refine mv (vi ((i : Nat) : Int)) wN ?_
   refine ag (vi ((i : Nat) : Int)) wN ?_
   refine wl_nil <| wq_then <| wc_ret <| wq_blk_ret <| wq_then_ret <| wq_then_ret <| wq_blk_ret <| wq_then_ret ?_
   refine ret_1 (.inl rfl) (vi ((i : Nat) : Int)) rfl rfl ?_
   refine ⟨m32.keep0, ?_⟩
   have hF35 : leadsP x_key x_to x_most = ((i : Nat) : Int) := by first | exact leadsP_f (by omega) | exact leadsP_i (by omega) (by omega) (by assumption) (by omega) (by assumption) | exact leadsP_n (by omega) (by omega) (by assumption) (by omega)
   rw [hF35]
   exact rfl
  refine cf h33 ?_
  refine wc_skip <| wq_blk_normal <| wq_then <| wc_region ?_
  refine mv (vi ((i : Nat) : Int)) wN ?_
  refine ar (((i : Nat) : Int) + 1) wN ?_
  refine ag (vi (((i : Nat) : Int) + 1)) wN ?_
  refine wl_nil ?_
  refine wq_loopQ (w0 := w2) (fun e => [(vs a1 x_key.length c2), (vs a6 x_to.length c7), (vi x_most), e 3, e 4, e 5, e 6, (vi (((i + 1) : Nat) : Int)), e 8, e 9, e 10, e 11, e 12, e 13, e 14, e 15, e 16, e 17, e 18, e 19, e 20, e 21]) rfl ?_ ?_ ?_
  · exact ⟨rfl, rfl, rfl, rfl, rfl, rfl, rfl, (congrArg (Value.int .i64) (show ((((i : Nat) : Int) + 1) : Int) = (((i + 1) : Nat) : Int) by omega)), rfl, rfl, rfl, rfl, rfl, rfl, rfl, rfl, rfl, rfl, rfl, rfl, rfl, rfl, trivial⟩
  · exact fun u => ⟨(i + 1), (unL [u 3, u 4, u 5, u 6, u 8, u 9, u 10, u 11, u 12, u 13, u 14, u 15, u 16, u 17, u 18, u 19, u 20, u 21]), rfl, m32, ((((Ch.refl (fun k => w1.heap.size ≤ k) w1).ext k17 (fun k hk => Nat.le_trans (Nat.le_refl w1.heap.size) hk)).extk k22).extk k31), (by omega), (by first | rfl | exact leads_next (by assumption) (by omega) (by assumption))⟩
  · show (x_most + 1 - (((i + 1) : Nat) : Int)).toNat < (x_most + 1 - ((i : Nat) : Int)).toNat; omega

def Q_22 (w : World) (v : Value) (x : (List UInt8)) : Prop := ∃ (a1 : Option Addr) (c1 : Nat), v = .slice a1 x.length c1 ∧ Rd w 1 (.slice a1 x.length c1) x.length (x.map bV) ∧ x.length ≤ 9223372036854775807
def F_laws_FnExactLeads (x_aKey : List UInt8) (x_aTo : List UInt8) (x_aMost : Int) : (Bool) := bif (decide (1048576 < (x_aKey.length : Int))) then (true) else (bif (decide (1048576 < (x_aTo.length : Int))) then (true) else (bif (decide ((leadsP (cpB x_aKey) (cpB x_aTo) x_aMost) = (leadsP (cpB x_aKey) (cpB x_aTo) x_aMost))) then (bif (eqB (cpB x_aKey) (cpB x_aKey)) then (bif (eqB (cpB x_aTo) (cpB x_aTo)) then (true) else (false)) else (false)) else (false)))
theorem C_laws_FnExactLeads (w0 : World) (v_x_aKey : Value) (x_aKey : List UInt8) (r_x_aKey : Q_22 w0 v_x_aKey x_aKey) (v_x_aTo : Value) (x_aTo : List UInt8) (r_x_aTo : Q_22 w0 v_x_aTo x_aTo) (x_aMost : Int)  : Fn Try.prog 3 #[v_x_aKey, v_x_aTo, (vi x_aMost)] w0 (fun v w' => Keep w0 w' ∧ O_4 w' w0.heap.size v (F_laws_FnExactLeads x_aKey x_aTo x_aMost)) := by
 obtain ⟨a1, c2, rfl, r3, s4⟩ := r_x_aKey
 obtain ⟨a6, c7, rfl, r8, s9⟩ := r_x_aTo
 refine fn_of (n := 44) (l := [(vs a1 x_aKey.length c2), (vs a6 x_aTo.length c7), (vi x_aMost), U, U, U, U, U, U, U, U, U, U, U, U, U, U, U, U, U, U, U, U, U, U, U, U, U, U, U, U, U, U, U, U, U, U, U, U, U, U, U, U, U]) Try.func3 rfl rfl (by kernel_rfl) rfl ?_
 refine sr ?_
 refine ag (vb false) wN ?_
 refine wl_nil <| wq_then <| wc_seq <| sr ?_
 refine mv (vs a1 x_aKey.length c2) wN ?_
 refine ln wN slTy_22 r3 ?_
 refine pu (vb (decide (1048576 < (x_aKey.length : Int)))) wN ?_
 refine wl_nil <| wq_then ?_
 rcases bt (decide (1048576 < (x_aKey.length : Int))) with h11 | h11
 ·have q12 := of_decide_eq_true h11
  refine ct h11 ?_
  refine sr ?_
  refine ag (vb true) wN ?_
  refine wl_nil <| wq_then <| wc_ret <| wq_then_ret ?_
  refine ret_1 (.inl rfl) (vb true) rfl rfl ?_
  refine ⟨Ch.refl _ _, ?_⟩
  have hF13 : F_laws_FnExactLeads x_aKey x_aTo x_aMost = true := by first | (simp only [F_laws_FnExactLeads, h11, cond_true, cond_false]; done) | (unfold F_laws_FnExactLeads; try rw [h11]; rfl)
  rw [hF13]
  exact rfl
 have q14 := of_decide_eq_false h11
 refine cf h11 ?_
 refine wc_skip <| wq_then <| wc_seq <| sr ?_
 refine mv (vs a6 x_aTo.length c7) wN ?_
 refine ln wN slTy_22 r8 ?_
 refine pu (vb (decide (1048576 < (x_aTo.length : Int)))) wN ?_
 refine wl_nil <| wq_then ?_
 rcases bt (decide (1048576 < (x_aTo.length : Int))) with h15 | h15
 ·have q16 := of_decide_eq_true h15
  refine ct h15 ?_
  refine sr ?_
  refine ag (vb true) wN ?_
  refine wl_nil <| wq_then <| wc_ret <| wq_then_ret ?_
  refine ret_1 (.inl rfl) (vb true) rfl rfl ?_
  refine ⟨Ch.refl _ _, ?_⟩
  have hF17 : F_laws_FnExactLeads x_aKey x_aTo x_aMost = true := by first | (simp only [F_laws_FnExactLeads, h11, h15, cond_true, cond_false]; done) | (unfold F_laws_FnExactLeads; try rw [h11]; try rw [h15]; rfl)
  rw [hF17]
  exact rfl
 have q18 := of_decide_eq_false h15
 refine cf h15 ?_
 refine wc_skip <| wq_then <| sr ?_
 refine mv (vs a1 x_aKey.length c2) wN ?_
 refine cl wN (C_laws_toByteS w0 _ x_aKey (mR_22 r3 (by omega))) ?_
 rintro _ w1 ⟨k19, ⟨a20, c21, rfl, o22, s23, ap25⟩⟩
 have m26 := (Ch.base w0).extk k19
 refine mv (vs a6 x_aTo.length c7) wN ?_
 refine cl wN (C_laws_toByteS w1 _ x_aTo (mR_22 (r8.from0 m26) (by omega))) ?_
 rintro _ w2 ⟨k27, ⟨a28, c29, rfl, o30, s31, ap33⟩⟩
 have m34 := m26.extk k27
 refine mv (vi x_aMost) wN ?_
 have o35 := (own_kp o22 k27)
 refine cl wN (C_spec_Leads w2 _ (cpB x_aKey) (mR_22 (Rd.of_own o35) s23) _ (cpB x_aTo) (mR_22 (Rd.of_own o30) s31) x_aMost) ?_
 rintro _ w3 ⟨k36, rfl⟩
 have m37 := m34.extk k36
 refine ag (vi (leadsP (cpB x_aKey) (cpB x_aTo) x_aMost)) wN ?_
 refine nx ?_
 refine mv (vs a1 x_aKey.length c2) wN ?_
 refine cl wN (C_laws_toByteS w3 _ x_aKey (mR_22 (r3.from0 m37) (by omega))) ?_
 rintro _ w4 ⟨k38, ⟨a39, c40, rfl, o41, s42, ap44⟩⟩
 have m45 := m37.extk k38
 refine ag (vs a39 (cpB x_aKey).length c40) wN ?_
 refine nx ?_
 refine mv (vs a6 x_aTo.length c7) wN ?_
 refine cl wN (C_laws_toByteS w4 _ x_aTo (mR_22 (r8.from0 m45) (by omega))) ?_
 rintro _ w5 ⟨k46, ⟨a47, c48, rfl, o49, s50, ap52⟩⟩
 have m53 := m45.extk k46
 refine ag (vs a47 (cpB x_aTo).length c48) wN ?_
 refine nx ?_
 refine mv (vs a39 (cpB x_aKey).length c40) wN ?_
 refine mv (vs a47 (cpB x_aTo).length c48) wN ?_
 refine mv (vi x_aMost) wN ?_
 have o54 := (own_kp o41 k46)
 refine cl wN (C_impl_Leads w5 _ (cpB x_aKey) (mR_22 (Rd.of_own o54) s42) _ (cpB x_aTo) (mR_22 (Rd.of_own o49) s50) x_aMost) ?_
 rintro _ w6 ⟨k55, rfl⟩
 have m56 := m53.extk k55
 refine ag (vi (leadsP (cpB x_aKey) (cpB x_aTo) x_aMost)) wN ?_
 refine wl_nil <| wq_then <| wc_seq <| sr ?_
 refine mv (vi (leadsP (cpB x_aKey) (cpB x_aTo) x_aMost)) wN ?_
 refine mv (vi (leadsP (cpB x_aKey) (cpB x_aTo) x_aMost)) wN ?_
 refine pu (vb (!(decide ((leadsP (cpB x_aKey) (cpB x_aTo) x_aMost) = (leadsP (cpB x_aKey) (cpB x_aTo) x_aMost))))) wN ?_
 refine wl_nil <| wq_then ?_
 rcases bf (decide ((leadsP (cpB x_aKey) (cpB x_aTo) x_aMost) = (leadsP (cpB x_aKey) (cpB x_aTo) x_aMost))) with h57 | h57
 ·have q90 := of_decide_eq_false h57
  refine ct (congrArg not h57) ?_
  refine sr ?_
  refine ag (vb false) wN ?_
  refine wl_nil <| wq_then <| wc_ret <| wq_then_ret ?_
  refine ret_1 (.inl rfl) (vb false) rfl rfl ?_
  refine ⟨m56.keep0, ?_⟩
  have hF91 : F_laws_FnExactLeads x_aKey x_aTo x_aMost = false := by first | (simp only [F_laws_FnExactLeads, h11, h15, h57, cond_true, cond_false]; done) | (unfold F_laws_FnExactLeads; try rw [h11]; try rw [h15]; try rw [h57]; rfl)
  rw [hF91]
  exact rfl
 have q58 := of_decide_eq_true h57
 refine cf (congrArg not h57) ?_
 refine wc_skip <| wq_then <| wc_seq <| sr ?_
 refine mv (vs a39 (cpB x_aKey).length c40) wN ?_
 refine mv (vs a1 x_aKey.length c2) wN ?_
 refine cl wN (C_laws_toByteS w6 _ x_aKey (mR_22 (r3.from0 m56) (by omega))) ?_
 rintro _ w7 ⟨k59, ⟨a60, c61, rfl, o62, s63, ap65⟩⟩
 have m66 := m56.extk k59
 have o67 := (own_kp (own_kp o54 k55) k59)
 refine cl wN (C_laws_eqByteS w7 _ (cpB x_aKey) (mR_22 (Rd.of_own o67) s42) _ (cpB x_aKey) (mR_22 (Rd.of_own o62) s63)) ?_
 rintro _ w8 ⟨k68, rfl⟩
 have m69 := m66.extk k68
 refine pu (vb (!(eqB (cpB x_aKey) (cpB x_aKey)))) wN ?_
 refine wl_nil <| wq_then ?_
 rcases bf (eqB (cpB x_aKey) (cpB x_aKey)) with h70 | h70
 ·refine ct (congrArg not h70) ?_
  refine sr ?_
  refine ag (vb false) wN ?_
  refine wl_nil <| wq_then <| wc_ret <| wq_then_ret ?_
  refine ret_1 (.inl rfl) (vb false) rfl rfl ?_
  refine ⟨m69.keep0, ?_⟩
  have hF89 : F_laws_FnExactLeads x_aKey x_aTo x_aMost = false := by first | (simp only [F_laws_FnExactLeads, h11, h15, h57, h70, cond_true, cond_false]; done) | (unfold F_laws_FnExactLeads; try rw [h11]; try rw [h15]; try rw [h57]; try rw [h70]; rfl)
  rw [hF89]
  exact rfl
 refine cf (congrArg not h70) ?_
 refine wc_skip <| wq_then <| wc_seq <| sr ?_
 refine mv (vs a47 (cpB x_aTo).length c48) wN ?_
 refine mv (vs a6 x_aTo.length c7) wN ?_
 refine cl wN (C_laws_toByteS w8 _ x_aTo (mR_22 (r8.from0 m69) (by omega))) ?_
 rintro _ w9 ⟨k72, ⟨a73, c74, rfl, o75, s76, ap78⟩⟩
 have m79 := m69.extk k72
 have o80 := (own_kp (own_kp (own_kp (own_kp o49 k55) k59) k68) k72)
 refine cl wN (C_laws_eqByteS w9 _ (cpB x_aTo) (mR_22 (Rd.of_own o80) s50) _ (cpB x_aTo) (mR_22 (Rd.of_own o75) s76)) ?_
 rintro _ w10 ⟨k81, rfl⟩
 have m82 := m79.extk k81
 refine pu (vb (!(eqB (cpB x_aTo) (cpB x_aTo)))) wN ?_
 refine wl_nil <| wq_then ?_
 rcases bf (eqB (cpB x_aTo) (cpB x_aTo)) with h83 | h83
 ·refine ct (congrArg not h83) ?_
  refine sr ?_
  refine ag (vb false) wN ?_
  refine wl_nil <| wq_then <| wc_ret <| wq_then_ret ?_
  refine ret_1 (.inl rfl) (vb false) rfl rfl ?_
  refine ⟨m82.keep0, ?_⟩
  have hF87 : F_laws_FnExactLeads x_aKey x_aTo x_aMost = false := by first | (simp only [F_laws_FnExactLeads, h11, h15, h57, h70, h83, cond_true, cond_false]; done) | (unfold F_laws_FnExactLeads; try rw [h11]; try rw [h15]; try rw [h57]; try rw [h70]; try rw [h83]; rfl)
  rw [hF87]
  exact rfl
 refine cf (congrArg not h83) ?_
 refine wc_skip <| wq_then <| sr ?_
 refine ag (vb true) wN ?_
 refine wl_nil <| wq_then <| wc_ret ?_
 refine ret_1 (.inl rfl) (vb true) rfl rfl ?_
 refine ⟨m82.keep0, ?_⟩
 have hF85 : F_laws_FnExactLeads x_aKey x_aTo x_aMost = true := by first | (simp only [F_laws_FnExactLeads, h11, h15, h57, h70, h83, cond_true, cond_false]; done) | (unfold F_laws_FnExactLeads; try rw [h11]; try rw [h15]; try rw [h57]; try rw [h70]; try rw [h83]; rfl)
 rw [hF85]
 exact rfl
end Go.Proofs.Ytafcngfnhhchjaa.K
