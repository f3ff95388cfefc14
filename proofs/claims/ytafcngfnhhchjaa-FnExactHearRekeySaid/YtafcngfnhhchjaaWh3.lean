import Derived.Test.YtafcngfnhhchjaaCore
import Derived.Test.YtafcngfnhhchjaaProg
import Derived.Test.YtafcngfnhhchjaaHeld
import Derived.Test.YtafcngfnhhchjaaFun
import Derived.Test.YtafcngfnhhchjaaFunZ
import Derived.Test.YtafcngfnhhchjaaSqz
import Derived.Test.YtafcngfnhhchjaaHash
import Derived.Test.YtafcngfnhhchjaaWh2
namespace Go.Proofs.Ytafcngfnhhchjaa.K
open Go.RowKit
set_option linter.unusedVariables false
set_option linter.unusedSimpArgs false
set_option maxRecDepth 100000
set_option maxHeartbeats 4000000
theorem C_impl_Pad (w0 : World) (x_n : Int)  : Fn Try.prog 166 #[(vi x_n)] w0 (fun v w' => Keep w0 w' ∧ O_22 w' w0.heap.size v (padP x_n)) := by
 refine fn_of (n := 25) (l := [(vi x_n), U, U, U, U, U, U, U, U, U, U, U, U, U, U, U, U, U, U, U, U, U, U, U, U]) Try.func166 rfl rfl (by kernel_rfl) rfl ?_
 refine sr ?_
 refine aw (vs none 0 0) ?_
 refine n4 ?_
 refine mw (vi x_n) ?_
 refine cl wN (C_impl_within w0 x_n 0 1048576) ?_
 rintro _ w1 ⟨k1, rfl⟩
 have m2 := (Ch.base w0).extk k1
 refine pu (vb (!(F_impl_within x_n 0 1048576))) wN ?_
 refine n2 ?_
 rcases bf (F_impl_within x_n 0 1048576) with h3 | h3
 ·have q73 := impl_within_f h3
  refine ct (congrArg not h3) ?_
  refine sr ?_
  refine aw (vs none 0 0) ?_
  refine n1 ?_
  refine rt (vs none 0 0) ?_
  refine ⟨m2.keep0, ?_⟩
  have hF74 : padP x_n = [] := by first | exact padP_f (by omega) | exact padP_i (by omega) (by omega) (by omega) (by omega)
  rw [hF74]
  exact ⟨_, _, rfl, (by first | exact own_nil _ _ _ _ | exact OLv.nil _ _ _ _), (by simp), ⟨trivial, trivial⟩⟩
 have q4 := impl_within_t h3
 refine cf (congrArg not h3) ?_
 refine y1 ?_
 refine wl_lit [(v8 128)] wN rfl rfl slTy_22 (m := 1) rfl (by simp only [maxLen]; omega) (fun w => by kernel_rfl) ?_
 intro u5 w2 k6 o7
 obtain ⟨a8, c9, rfl⟩ := own_form o7
 have m10 := m2.extk k6
 have o12 : w2.ownsRow w1.heap.size 5 1 (.slice a8 (([128] : List UInt8) : List UInt8).length c9) (([128] : List UInt8) : List UInt8).length ((([128] : List UInt8) : List UInt8).map bV) := o7
 refine aw (vs a8 ([128] : List UInt8).length c9) ?_
 refine wl_nil <| wq_then <| wc_seq <| wc_block ?_
 have hE14 : (([128] : List UInt8) : List UInt8) = [(128 : UInt8)] ++ List.replicate 0 (0 : UInt8) := by first | rfl | (rw [List.replicate_succ', List.append_assoc])
 refine wc_loopQ (fun e => [(vi x_n), e 1, (vs none 0 0), (.slice a8 ([(128 : UInt8)] ++ List.replicate 0 (0 : UInt8)).length c9), e 4, e 5, e 6, e 7, e 8, e 9, e 10, e 11, e 12, e 13, e 14, e 15, e 16, e 17, U, U, U, U, U, U, U]) rfl ⟨rfl, rfl, rfl, (congrArg (fun l : List UInt8 => Value.slice a8 l.length c9) hE14), rfl, rfl, rfl, rfl, rfl, rfl, rfl, rfl, rfl, rfl, rfl, rfl, rfl, rfl, rfl, rfl, rfl, rfl, rfl, rfl, rfl, trivial⟩ (fun e' w' => ∃ (j : Nat) (u13 : Nat → Value) (a3x : Option Addr) (c3x : Nat), e' = lst [(vi x_n), (u13 0), (vs none 0 0), (.slice a3x ([(128 : UInt8)] ++ List.replicate j (0 : UInt8)).length c3x), (u13 1), (u13 2), (u13 3), (u13 4), (u13 5), (u13 6), (u13 7), (u13 8), (u13 9), (u13 10), (u13 11), (u13 12), (u13 13), (u13 14), U, U, U, U, U, U, U] ∧ Ch (fun k => w0.heap.size ≤ k) w0 w' ∧ Ch (fun k => w1.heap.size ≤ k) w2 w' ∧ ((j : Nat) : Int) ≤ (64 - (x_n + 9) % 64) % 64 ∧ (World.ownsRow w' w1.heap.size 5 1 (.slice a3x ([(128 : UInt8)] ++ List.replicate j (0 : UInt8)).length c3x) ([(128 : UInt8)] ++ List.replicate j (0 : UInt8)).length (([(128 : UInt8)] ++ List.replicate j (0 : UInt8)).map bV) ∧ ([(128 : UInt8)] ++ List.replicate j (0 : UInt8)).length ≤ 1073741824)) (fun e' _ => 100 - (lenOf (e' 3))) ?_ ?_
 ·exact fun u => ⟨0, (unL [u 1, u 4, u 5, u 6, u 7, u 8, u 9, u 10, u 11, u 12, u 13, u 14, u 15, u 16, u 17]), a8, c9, rfl, m10, (Ch.refl (fun k => w1.heap.size ≤ k) w2), (by omega), (hE14 ▸ ⟨o12, (by simp)⟩)⟩
 ·rintro _ w3 ⟨j, u13, a3x, c3x, rfl, m15, k16, i17, ⟨o18, s19⟩⟩
  have hpl : ([(128 : UInt8)] ++ List.replicate j (0 : UInt8)).length = 1 + j := by rw [List.length_append, List.length_replicate]; rfl
  refine wc_seq <| sr ?_
  refine mw (vi x_n) ?_
  refine mw (vs a3x ([(128 : UInt8)] ++ List.replicate j (0 : UInt8)).length c3x) ?_
  refine ln wN slTy_22 (Rd.of_own o18) ?_
  refine ar (x_n + (([(128 : UInt8)] ++ List.replicate j (0 : UInt8)).length : Int)) wN ?_
  refine ar ((x_n + (([(128 : UInt8)] ++ List.replicate j (0 : UInt8)).length : Int)) + 8) wN ?_
  refine wl_rem ((x_n + (([(128 : UInt8)] ++ List.replicate j (0 : UInt8)).length : Int)) + 8) 64 wN rfl rfl (by kernel_rfl) (by first | omega | assumption) ?_
  refine pu (vb (!(decide ((((x_n + (([(128 : UInt8)] ++ List.replicate j (0 : UInt8)).length : Int)) + 8) % 64) = 0)))) wN ?_
  refine n2 ?_
  rcases bf (decide ((((x_n + (([(128 : UInt8)] ++ List.replicate j (0 : UInt8)).length : Int)) + 8) % 64) = 0)) with h21 | h21
  ·have q52 := of_decide_eq_false h21
   refine ct (congrArg not h21) ?_
   refine wc_skip <| wq_then <| wc_block <| wc_region ?_
   refine mw (vs a3x ([(128 : UInt8)] ++ List.replicate j (0 : UInt8)).length c3x) ?_
   refine wl_lit [(v8 0)] wN rfl rfl slTy_22 (m := 1) rfl (by simp only [maxLen]; omega) (fun w => by kernel_rfl) ?_
   intro u53 w4 k54 o55
   obtain ⟨a56, c57, rfl⟩ := own_form o55
   have m58 := m15.extk k54
   have o60 : w4.ownsRow w3.heap.size 5 1 (.slice a56 (([0] : List UInt8) : List UInt8).length c57) (([0] : List UInt8) : List UInt8).length ((([0] : List UInt8) : List UInt8).map bV) := o55
   have o61 := (own_kp o18 k54)
   refine wl_append (v := (vs a3x ([(128 : UInt8)] ++ List.replicate j (0 : UInt8)).length c3x)) wN rfl rfl rfl slTy_22 rfl rfl o61 (Rd.of_own o60) (all_bV _) (by first | (simp only [List.length_append, List.length_cons, List.length_nil, List.length_replicate, List.length_take, List.length_drop]; omega) | omega) (by simp only [maxLen]; first | (simp only [List.length_append, List.length_cons, List.length_nil, List.length_replicate, List.length_take, List.length_drop]; omega) | omega) (z3 k6 k16 k54) ?_
   intro u62 w5 k63 o64 j65
   have o68 : w5.ownsRow w1.heap.size 5 1 u62 ((([(128 : UInt8)] ++ List.replicate j (0 : UInt8)) ++ ([0] : List UInt8)) : List UInt8).length (((([(128 : UInt8)] ++ List.replicate j (0 : UInt8)) ++ ([0] : List UInt8)) : List UInt8).map bV) := by simpa [Nat.add_assoc] using o64
   obtain ⟨a66, c67, rfl⟩ := own_form o68
   have m69 := m58.ext k63 (fun k hk => Nat.le_trans k1.size (own_lt o18 k hk).1)
   have s71 : (([(128 : UInt8)] ++ List.replicate j (0 : UInt8)) ++ ([0] : List UInt8)).length ≤ 1073741824 := by first | (simp only [List.length_append, List.length_cons, List.length_nil, List.length_replicate, List.length_take, List.length_drop]; omega) | omega | assumption
   refine aw (vs a66 (([(128 : UInt8)] ++ List.replicate j (0 : UInt8)) ++ ([0] : List UInt8)).length c67) ?_
   refine wl_nil <| wq_blk_normal ?_
   have hE72 : ((([(128 : UInt8)] ++ List.replicate j (0 : UInt8)) ++ ([0] : List UInt8)) : List UInt8) = [(128 : UInt8)] ++ List.replicate (j + 1) (0 : UInt8) := by first | rfl | (rw [List.replicate_succ', List.append_assoc])
   refine wq_loopQ (w0 := w3) (fun e => [(vi x_n), e 1, (vs none 0 0), (.slice a66 ([(128 : UInt8)] ++ List.replicate (j + 1) (0 : UInt8)).length c67), e 4, e 5, e 6, e 7, e 8, e 9, e 10, e 11, e 12, e 13, e 14, e 15, e 16, e 17, U, U, U, U, U, U, U]) rfl ?_ ?_ ?_
   · exact ⟨rfl, rfl, rfl, (congrArg (fun l : List UInt8 => Value.slice a66 l.length c67) hE72), rfl, rfl, rfl, rfl, rfl, rfl, rfl, rfl, rfl, rfl, rfl, rfl, rfl, rfl, rfl, rfl, rfl, rfl, rfl, rfl, rfl, trivial⟩
   · exact fun u => ⟨(j + 1), (unL [u 1, u 4, u 5, u 6, u 7, u 8, u 9, u 10, u 11, u 12, u 13, u 14, u 15, u 16, u 17]), a66, c67, rfl, m69, ((((Ch.refl (fun k => w1.heap.size ≤ k) w2).ext k16 (fun k hk => hk)).extk k54).ext k63 (fun k hk => Nat.le_trans (Nat.le_refl w1.heap.size) (own_lt o18 k hk).1)), (by omega), (hE72 ▸ ⟨o68, s71⟩)⟩
   · show 100 - ([(128 : UInt8)] ++ List.replicate (j + 1) (0 : UInt8)).length < 100 - ([(128 : UInt8)] ++ List.replicate j (0 : UInt8)).length; simp only [List.length_append, List.length_cons, List.length_nil, List.length_replicate]; omega
  have q22 := of_decide_eq_true h21
  refine cf (congrArg not h21) ?_
  refine wc_exit <| wq_then_exit <| wq_then_exit <| wq_blk_exit <| wq_then <| sr ?_
  refine mw (vs a3x ([(128 : UInt8)] ++ List.replicate j (0 : UInt8)).length c3x) ?_
  refine wl_lit [(v8 0), (v8 0)] wN rfl rfl slTy_22 (m := 2) rfl (by simp only [maxLen]; omega) (fun w => by kernel_rfl) ?_
  intro u23 w4 k24 o25
  obtain ⟨a26, c27, rfl⟩ := own_form o25
  have m28 := m15.extk k24
  have o30 : w4.ownsRow w3.heap.size 5 1 (.slice a26 (([0, 0] : List UInt8) : List UInt8).length c27) (([0, 0] : List UInt8) : List UInt8).length ((([0, 0] : List UInt8) : List UInt8).map bV) := o25
  have o31 := (own_kp o18 k24)
  refine wl_append (v := (vs a3x ([(128 : UInt8)] ++ List.replicate j (0 : UInt8)).length c3x)) wN rfl rfl rfl slTy_22 rfl rfl o31 (Rd.of_own o30) (all_bV _) (by first | (simp only [List.length_append, List.length_cons, List.length_nil, List.length_replicate, List.length_take, List.length_drop]; omega) | omega) (by simp only [maxLen]; first | (simp only [List.length_append, List.length_cons, List.length_nil, List.length_replicate, List.length_take, List.length_drop]; omega) | omega) (z3 k6 k16 k24) ?_
  intro u32 w5 k33 o34 j35
  have o38 : w5.ownsRow w1.heap.size 5 1 u32 ((([(128 : UInt8)] ++ List.replicate j (0 : UInt8)) ++ ([0, 0] : List UInt8)) : List UInt8).length (((([(128 : UInt8)] ++ List.replicate j (0 : UInt8)) ++ ([0, 0] : List UInt8)) : List UInt8).map bV) := by simpa [Nat.add_assoc] using o34
  obtain ⟨a36, c37, rfl⟩ := own_form o38
  have m39 := m28.ext k33 (fun k hk => Nat.le_trans k1.size (own_lt o18 k hk).1)
  have s41 : (([(128 : UInt8)] ++ List.replicate j (0 : UInt8)) ++ ([0, 0] : List UInt8)).length ≤ 1073741824 := by first | (simp only [List.length_append, List.length_cons, List.length_nil, List.length_replicate, List.length_take, List.length_drop]; omega) | omega | assumption
  refine aw (vs a36 (([(128 : UInt8)] ++ List.replicate j (0 : UInt8)) ++ ([0, 0] : List UInt8)).length c37) ?_
  refine nx ?_
  refine mw (vs a36 (([(128 : UInt8)] ++ List.replicate j (0 : UInt8)) ++ ([0, 0] : List UInt8)).length c37) ?_
  refine mw (vi x_n) ?_
  refine ar (8 * x_n) wN ?_
  refine cl wN (C_impl_PutN w5 _ (([(128 : UInt8)] ++ List.replicate j (0 : UInt8)) ++ ([0, 0] : List UInt8)) (mR_22 (Rd.of_own o38) s41) (8 * x_n) 6 (by first | omega | (simp; done) | (simp; omega))) ?_
  rintro _ w6 ⟨k42, ⟨a43, c44, rfl, o45, s46, ap48⟩⟩
  have m49 := m39.extk k42
  have q50 := putN_len (([(128 : UInt8)] ++ List.replicate j (0 : UInt8)) ++ ([0, 0] : List UInt8)) (8 * x_n) 6
  refine aw (vs a43 (putN (([(128 : UInt8)] ++ List.replicate j (0 : UInt8)) ++ ([0, 0] : List UInt8)) (8 * x_n) 6).length c44) ?_
  refine n3 ?_
  refine rt (vs a43 (putN (([(128 : UInt8)] ++ List.replicate j (0 : UInt8)) ++ ([0, 0] : List UInt8)) (8 * x_n) 6).length c44) ?_
  refine ⟨m49.keep0, ?_⟩
  have hF51 : padP x_n = (putN (([(128 : UInt8)] ++ List.replicate j (0 : UInt8)) ++ ([0, 0] : List UInt8)) (8 * x_n) 6) := by first | exact padP_f (by omega) | exact padP_i (by omega) (by omega) (by omega) (by omega)
  rw [hF51]
  exact ⟨_, _, rfl, (own_lo o45 (z5 k1 k6 k16 k24 k33)), s46, ⟨trivial, trivial⟩⟩

theorem C_impl_wordBytes (w0 : World) (v_x_h : Value) (x_h : List Int) (r_x_h : R_32 w0 v_x_h x_h) (pre0 : x_h.length = 8) : Fn Try.prog 167 #[v_x_h] w0 (fun v w' => Keep w0 w' ∧ O_22 w' w0.heap.size v (wordB x_h)) := by
 obtain ⟨a1, c2, rfl, r3, s4⟩ := r_x_h
 refine fn_of (n := 18) (l := [(vs a1 x_h.length c2), U, U, U, U, U, U, U, U, U, U, U, U, U, U, U, U, U]) Try.func167 rfl rfl (by kernel_rfl) rfl ?_
 refine sr ?_
 refine aw (vs none 0 0) ?_
 refine nx ?_
 refine wl_lit0 wN rfl rfl slTy_22 (fun w => by kernel_rfl) ?_
 intro a6 w1 k7 o8
 have m9 := (Ch.base w0).extk k7
 refine aw (vs (some a6) 0 0) ?_
 refine n4 ?_
 refine mw (vs a1 x_h.length c2) ?_
 refine ln wN slTy_32 (r3.from0 m9) ?_
 refine mw (vi 0) ?_
 refine wl_nil <| wq_then <| wc_block ?_
 have hE12 : ([] : List UInt8) = wordB (x_h.take 0) := by rfl
 have hN13 : 0 = (wordB (x_h.take 0)).length := by rw [← hE12]; try (first | rfl | simp only [List.length_set] | simp)
 refine wc_loopQ (fun e => [e 0, e 1, (vs none 0 0), (.slice (some a6) (wordB (x_h.take 0)).length 0), e 4, e 5, e 6, (vs a1 x_h.length c2), (vi (x_h.length : Int)), (vi ((0 : Nat) : Int)), e 10, e 11, e 12, e 13, e 14, e 15, e 16, U]) rfl ⟨rfl, rfl, rfl, rfl, rfl, rfl, rfl, rfl, rfl, (congrArg (Value.int .i64) (show (0 : Int) = ((0 : Nat) : Int) by omega)), rfl, rfl, rfl, rfl, rfl, rfl, rfl, rfl, trivial⟩ (fun e' w' => ∃ (k : Nat) (u11 : Nat → Value) (a3x : Option Addr) (c3x : Nat), e' = lst [(u11 0), (u11 1), (vs none 0 0), (.slice a3x (wordB (x_h.take k)).length c3x), (u11 2), (u11 3), (u11 4), (vs a1 x_h.length c2), (vi (x_h.length : Int)), (vi ((k : Nat) : Int)), (u11 5), (u11 6), (u11 7), (u11 8), (u11 9), (u11 10), (u11 11), U] ∧ Ch (fun k => w0.heap.size ≤ k) w0 w' ∧ Ch (fun k => w0.heap.size ≤ k) w1 w' ∧ k ≤ x_h.length ∧ (World.ownsRow w' w0.heap.size 5 1 (.slice a3x (wordB (x_h.take k)).length c3x) (wordB (x_h.take k)).length ((wordB (x_h.take k)).map bV) ∧ (wordB (x_h.take k)).length ≤ 1073741824)) (fun e' _ => x_h.length - ((intOf (e' 9))).toNat) ?_ ?_
 ·exact fun u => ⟨0, (unL [u 0, u 1, u 4, u 5, u 6, u 10, u 11, u 12, u 13, u 14, u 15, u 16]), (some a6), 0, rfl, m9, (Ch.refl (fun k => w0.heap.size ≤ k) w1), (by omega), ⟨(by rw [← hN13, ← hE12]; exact o8), (by rw [← hN13]; first | exact (by simp) | (simp only [List.length_append, List.length_take, List.length_replicate]; omega))⟩⟩
 ·rintro _ w2 ⟨k, u11, a3x, c3x, rfl, m14, k15, i16, ⟨o17, s18⟩⟩
  have hwl := wordB_len (x_h.take k)
  have htl : (x_h.take k).length = min k x_h.length := List.length_take
  refine sr ?_
  refine pu (vb (decide (((k : Nat) : Int) < (x_h.length : Int)))) wN ?_
  refine wl_nil <| wq_then <| wc_seq ?_
  rcases bf (decide (((k : Nat) : Int) < (x_h.length : Int))) with h20 | h20
  ·have q32 := of_decide_eq_false h20
   refine cf h20 ?_
   refine wc_exit <| wq_then_exit <| wq_then_exit <| wq_blk_exit <| wq_then <| sr ?_
   refine mw (vs a3x (wordB (x_h.take k)).length c3x) ?_
   refine aw (vs a3x (wordB (x_h.take k)).length c3x) ?_
   refine n3 ?_
   refine rt (vs a3x (wordB (x_h.take k)).length c3x) ?_
   refine ⟨m14.keep0, ?_⟩
   have hF33 : wordB x_h = (wordB (x_h.take k)) := by exact wordB_end (by omega)
   rw [hF33]
   exact ⟨_, _, rfl, o17, s18, ⟨trivial, trivial⟩⟩
  have q21 := of_decide_eq_true h20
  refine ct h20 ?_
  refine wc_skip <| wq_then <| wc_seq <| wc_block <| sr ?_
  refine wl_index (v := (vs a1 x_h.length c2)) wN ((k : Nat) : Int) rfl rfl rfl slTy_32 rfl rfl (r3.from0 m14) (by first | omega | (simp only [List.length_cons, List.length_nil, List.length_replicate, List.length_append, List.length_take, List.length_set, List.length_map]; omega)) (by first | omega | (simp only [List.length_cons, List.length_nil, List.length_replicate, List.length_append, List.length_take, List.length_set, List.length_map]; omega)) ?_
  refine wl_loadE (iV (x_h.getD k 0)) wN rfl rfl rfl rfl isAgg_3 (r3.from0 m14) (iget (by simp) (by first | omega | (simp only [List.length_cons, List.length_nil, List.length_replicate, List.length_append, List.length_take, List.length_set, List.length_map]; omega))) ?_
  refine aw (vi (x_h.getD k 0)) ?_
  refine wl_nil <| wq_then <| wc_region ?_
  refine mw (vs a3x (wordB (x_h.take k)).length c3x) ?_
  refine mw (vi (x_h.getD k 0)) ?_
  refine cl wN (C_impl_PutN w2 _ (wordB (x_h.take k)) (mR_22 (Rd.of_own o17) s18) (x_h.getD k 0) 4 (by first | omega | (simp; done) | (simp; omega))) ?_
  rintro _ w3 ⟨k22, ⟨a23, c24, rfl, o25, s26, ap28⟩⟩
  have m29 := m14.extk k22
  have q30 := putN_len (wordB (x_h.take k)) (x_h.getD k 0) 4
  refine aw (vs a23 (putN (wordB (x_h.take k)) (x_h.getD k 0) 4).length c24) ?_
  refine wl_nil <| wq_blk_normal <| wq_then <| wc_region ?_
  refine ar (((k : Nat) : Int) + 1) wN ?_
  refine mw (vi (((k : Nat) : Int) + 1)) ?_
  refine wl_nil ?_
  have hE31 : ((putN (wordB (x_h.take k)) (x_h.getD k 0) 4) : List UInt8) = wordB (x_h.take (k + 1)) := by exact wordB_next (by omega)
  refine wq_loopQ (w0 := w2) (fun e => [e 0, e 1, (vs none 0 0), (.slice a23 (wordB (x_h.take (k + 1))).length c24), e 4, e 5, e 6, (vs a1 x_h.length c2), (vi (x_h.length : Int)), (vi (((k + 1) : Nat) : Int)), e 10, e 11, e 12, e 13, e 14, e 15, e 16, U]) rfl ?_ ?_ ?_
  · exact ⟨rfl, rfl, rfl, (congrArg (fun l : List UInt8 => Value.slice a23 l.length c24) hE31), rfl, rfl, rfl, rfl, rfl, (congrArg (Value.int .i64) (show ((((k : Nat) : Int) + 1) : Int) = (((k + 1) : Nat) : Int) by omega)), rfl, rfl, rfl, rfl, rfl, rfl, rfl, rfl, trivial⟩
  · exact fun u => ⟨(k + 1), (unL [u 0, u 1, u 4, u 5, u 6, u 10, u 11, u 12, u 13, u 14, u 15, u 16]), a23, c24, rfl, m29, (((Ch.refl (fun k => w0.heap.size ≤ k) w1).ext k15 (fun k hk => hk)).extk k22), (by omega), (hE31 ▸ ⟨(own_lo o25 (z2 k7 k15)), s26⟩)⟩
  · show x_h.length - ((((k + 1) : Nat) : Int)).toNat < x_h.length - (((k : Nat) : Int)).toNat; omega

def F_impl_HashEnd (x_h : PHash) : (List UInt8) := bif (F_impl_HashOk x_h) then ((wordB ((compAll x_h.H (joinB [x_h.Held, (padP x_h.N)])).1))) else ([])
theorem C_impl_HashEnd (w0 : World) (v_x_h : Value) (x_h : PHash) (r_x_h : R_132 w0 v_x_h x_h)  : Fn Try.prog 156 #[v_x_h] w0 (fun v w' => Keep w0 w' ∧ O_22 w' w0.heap.size v (F_impl_HashEnd x_h)) := by
 obtain ⟨a1, c2, a6, c7, rfl, r3, s4, r8, s9⟩ := r_x_h
 refine fn_of (n := 23) (l := [(va (L_132 x_h a1 c2 a6 c7)), U, U, U, U, U, U, U, U, U, U, U, U, U, U, U, U, U, U, U, U, U, U]) Try.func156 rfl rfl (by kernel_rfl) rfl ?_
 refine sr ?_
 refine bx (L_132 x_h a1 c2 a6 c7) wN ?_
 intro g11 w1 p12 p13 k14 b15
 have m16 := (Ch.base w0).extk k14
 refine aw (vs none 0 0) ?_
 refine n4 ?_
 refine lN (L_132 x_h a1 c2 a6 c7) wN isAgg_132 sizeOf_132 b15 ?_
 refine cl wN (C_impl_HashOk w1 _ x_h (mR_132 (r3.from0 m16) s4 (r8.from0 m16) s9)) ?_
 rintro _ w2 ⟨k17, rfl⟩
 have m18 := m16.extk k17
 refine pu (vb (!(F_impl_HashOk x_h))) wN ?_
 refine n2 ?_
 rcases bf (F_impl_HashOk x_h) with h19 | h19
 ·refine ct (congrArg not h19) ?_
  refine sr ?_
  refine aw (vs none 0 0) ?_
  refine n1 ?_
  refine rt (vs none 0 0) ?_
  refine ⟨m18.keep0, ?_⟩
  have hF367 : F_impl_HashEnd x_h = [] := by simp only [F_impl_HashEnd, h19, cond_true, cond_false]
  rw [hF367]
  exact ⟨_, _, rfl, (by first | exact own_nil _ _ _ _ | exact OLv.nil _ _ _ _), (by simp), ⟨trivial, trivial⟩⟩
 have q20 := hashOk_t h19
 refine cf (congrArg not h19) ?_
 refine wc_skip <| wq_then <| wc_seq ?_
 refine wc_draw ([(9, [], [], (fun _ v _ => v = (vp g11 0))), (10, [], [0], (fun _ v _ => v = (vs a1 x_h.H.length c2))), (11, [], [], (fun _ v _ => v = (vp g11 1))), (12, [], [2], (fun _ v _ => v = (vs a6 x_h.Held.length c7))), (13, [], [], (fun _ v _ => v = (vp g11 2))), (14, [], [4], (fun _ v _ => v = (vi x_h.N))), (15, [], [4, 5], (fun _ v w => ∃ (a1 : Option Addr) (c1 : Nat), v = .slice a1 (padP x_h.N).length c1 ∧ w.ownsRow (w2.heap.size) 5 1 (.slice a1 (padP x_h.N).length c1) (padP x_h.N).length ((padP x_h.N).map bV) ∧ (padP x_h.N).length ≤ 1073741824 ∧ Aps [(a1, c1)])), (16, [15], [2, 3, 4, 5, 6], (fun e v w => ∃ (a1 : Option Addr) (c1 : Nat), v = .slice a1 2 c1 ∧ w.ownsRow w2.heap.size 22 1 (.slice a1 2 c1) 2 [(vs a6 x_h.Held.length c7), (e 15)])), (17, [15], [2, 3, 4, 5, 6, 7], (fun e v w => ∃ (a1 : Option Addr) (c1 : Nat), v = .slice a1 (joinB [x_h.Held, (padP x_h.N)]).length c1 ∧ w.ownsRow (w2.heap.size) 5 1 (.slice a1 (joinB [x_h.Held, (padP x_h.N)]).length c1) (joinB [x_h.Held, (padP x_h.N)]).length ((joinB [x_h.Held, (padP x_h.N)]).map bV) ∧ (joinB [x_h.Held, (padP x_h.N)]).length ≤ 1073741824 ∧ Aps [(a1, c1)] ∧ Ap (sp (e 15)) (a1, c1))), (18, [], [0, 1, 2, 3, 4, 5, 6, 7, 8], (fun _ v w => ∃ (a1 : Option Addr) (c1 : Nat) (a2 : Option Addr) (c2 : Nat), v = .tuple #[.slice a1 ((compAll x_h.H (joinB [x_h.Held, (padP x_h.N)])).1).length c1, .slice a2 ((compAll x_h.H (joinB [x_h.Held, (padP x_h.N)])).2).length c2] ∧ Rd w 1 (.slice a1 ((compAll x_h.H (joinB [x_h.Held, (padP x_h.N)])).1).length c1) ((compAll x_h.H (joinB [x_h.Held, (padP x_h.N)])).1).length (((compAll x_h.H (joinB [x_h.Held, (padP x_h.N)])).1).map iV) ∧ ((compAll x_h.H (joinB [x_h.Held, (padP x_h.N)])).1).length ≤ 1073741824 ∧ Rd w 1 (.slice a2 ((compAll x_h.H (joinB [x_h.Held, (padP x_h.N)])).2).length c2) ((compAll x_h.H (joinB [x_h.Held, (padP x_h.N)])).2).length (((compAll x_h.H (joinB [x_h.Held, (padP x_h.N)])).2).map bV) ∧ ((compAll x_h.H (joinB [x_h.Held, (padP x_h.N)])).2).length ≤ 1073741824)), (8, [18], [0, 1, 2, 3, 4, 5, 6, 7, 8, 9], (fun e v _ => v = (.tuple #[(tupAt (e 18) 0), (tupAt (e 18) 1)]))), (19, [18], [0, 1, 2, 3, 4, 5, 6, 7, 8, 9, 10], (fun e v _ => v = (tupAt (e 18) 0))), (20, [18], [0, 1, 2, 3, 4, 5, 6, 7, 8, 9, 10], (fun e v _ => v = (tupAt (e 18) 1))), (3, [18], [0, 1, 2, 3, 4, 5, 6, 7, 8, 9, 10, 11], (fun e v _ => v = (tupAt (e 18) 0)))] : GV) mixed rfl (by kernel_rfl) (by kernel_rfl) ?_ ?_ ?_
 ·exact ⟨(fun _ _ _ _ h _ => h), (fun _ _ _ _ _ h => h), ⟨(fun _ _ _ _ h _ => h), (fun _ _ _ _ _ h => h), ⟨(fun _ _ _ _ h _ => h), (fun _ _ _ _ _ h => h), ⟨(fun _ _ _ _ h _ => h), (fun _ _ _ _ _ h => h), ⟨(fun _ _ _ _ h _ => h), (fun _ _ _ _ _ h => h), ⟨(fun _ _ _ _ h _ => h), (fun _ _ _ _ _ h => h), ⟨(fun e v w w1 h hk => by obtain ⟨a0x, c0x, he, o0x, l0x, hap⟩ := h; exact ⟨a0x, c0x, he, own_kp o0x hk, l0x, hap⟩), (fun _ _ _ _ _ h => h), ⟨(fun e v w w1 h hk => by obtain ⟨a0x, c0x, he, o0x⟩ := h; exact ⟨a0x, c0x, he, own_kp o0x hk⟩), (fun e1 e2 v w hx h => by have h15x := hx 15 (by simp); simp only [h15x] at h; exact h), ⟨(fun e v w w1 h hk => by obtain ⟨a0x, c0x, he, o0x, l0x, hap, hx⟩ := h; exact ⟨a0x, c0x, he, own_kp o0x hk, l0x, hap, hx⟩), (fun e1 e2 v w hx h => by have h15x := hx 15 (by simp); simp only [h15x] at h; exact h), ⟨(fun e v w w1 h hk => by obtain ⟨a0x, c0x, a1x, c1x, he, o0x, l0x, o1x, l1x⟩ := h; exact ⟨a0x, c0x, a1x, c1x, he, Rd.kp o0x hk, l0x, Rd.kp o1x hk, l1x⟩), (fun _ _ _ _ _ h => h), ⟨(fun _ _ _ _ h _ => h), (fun e1 e2 v w hx h => by have h18x := hx 18 (by simp); simp only [h18x] at h; exact h), ⟨(fun _ _ _ _ h _ => h), (fun e1 e2 v w hx h => by have h18x := hx 18 (by simp); simp only [h18x] at h; exact h), ⟨(fun _ _ _ _ h _ => h), (fun e1 e2 v w hx h => by have h18x := hx 18 (by simp); simp only [h18x] at h; exact h), ⟨(fun _ _ _ _ h _ => h), (fun e1 e2 v w hx h => by have h18x := hx 18 (by simp); simp only [h18x] at h; exact h), trivial⟩⟩⟩⟩⟩⟩⟩⟩⟩⟩⟩⟩⟩⟩
 ·refine ⟨?_, ⟨?_, ⟨?_, ⟨?_, ⟨?_, ⟨?_, ⟨?_, ⟨?_, ⟨?_, ⟨?_, ⟨?_, ⟨?_, ⟨?_, ⟨?_, trivial⟩⟩⟩⟩⟩⟩⟩⟩⟩⟩⟩⟩⟩⟩
  ·intro w3 k89
   have m90 := m18.extk k89
   rintro _ _ _ _ _ _ _ _ _ _ _ _ _ _
   show WL _ _ _ _ _ _ _
   refine pu (vp g11 0) wN ?_
   exact f2
  ·intro w3 k91
   have m92 := m18.extk k91
   rintro _ rfl _ _ _ _ _ _ _ _ _ _ _ _ _
   show WL _ _ _ _ _ _ _
   have b93 := ((b15.kp k17).kp k91)
   refine ld (vs a1 x_h.H.length c2) wN isAgg_32 b93 ?_
   exact f2
  ·intro w3 k94
   have m95 := m18.extk k94
   rintro _ _ _ _ _ _ _ _ _ _ _ _ _ _
   show WL _ _ _ _ _ _ _
   refine pu (vp g11 1) wN ?_
   exact f2
  ·intro w3 k96
   have m97 := m18.extk k96
   rintro _ _ _ rfl _ _ _ _ _ _ _ _ _ _ _
   show WL _ _ _ _ _ _ _
   have b98 := ((b15.kp k17).kp k96)
   refine ld (vs a6 x_h.Held.length c7) wN isAgg_22 b98 ?_
   exact f2
  ·intro w3 k99
   have m100 := m18.extk k99
   rintro _ _ _ _ _ _ _ _ _ _ _ _ _ _
   show WL _ _ _ _ _ _ _
   refine pu (vp g11 2) wN ?_
   exact f2
  ·intro w3 k101
   have m102 := m18.extk k101
   rintro _ _ _ _ _ rfl _ _ _ _ _ _ _ _ _
   show WL _ _ _ _ _ _ _
   have b103 := ((b15.kp k17).kp k101)
   refine ld (vi x_h.N) wN isAgg_3 b103 ?_
   exact f2
  ·intro w3 k104
   have m105 := m18.extk k104
   rintro _ _ _ _ _ rfl _ rfl _ _ _ _ _ _ _ _
   show WL _ _ _ _ _ _ _
   refine cl wN (C_impl_Pad w3 x_h.N) ?_
   rintro _ w4 ⟨k107, ⟨a108, c109, rfl, o110, s111, ap113⟩⟩
   have m114 := m105.extk k107
   have q115 := padP_len x_h.N
   exact wl_fin k107 ⟨_, _, rfl, (own_lo o110 k104.size), s111, ap113⟩
  ·intro w3 k116
   have m117 := m18.extk k116
   rintro _ _ _ rfl _ rfl _ rfl _ rfl _ ⟨a120, c121, rfl, o122, s123, ap125⟩
   have q126 := padP_len x_h.N
   rintro _ _ _ _ _ _ _
   show WL _ _ _ _ _ _ _
   refine wl_lit [(vs a6 x_h.Held.length c7), (vs a120 (padP x_h.N).length c121)] wN rfl rfl slTy_40 (m := 2) rfl (by simp only [maxLen]; omega) (fun w => by kernel_rfl) ?_
   intro u127 w4 k128 o129
   obtain ⟨a130, c131, rfl⟩ := own_form o129
   have m132 := m117.extk k128
   exact wl_fin k128 ⟨_, _, rfl, own_lo o129 k116.size⟩
  ·intro w3 k134
   have m135 := m18.extk k134
   rintro _ _ _ rfl _ rfl _ rfl _ rfl _ ⟨a138, c139, rfl, o140, s141, ap143⟩
   have q144 := padP_len x_h.N
   rintro _ ⟨a145, c146, rfl, o147⟩ _ _ _ _ _ _
   show WL _ _ _ _ _ _ _
   refine cl wN (C_impl_joined w3 _ [x_h.Held, (padP x_h.N)] (mR_40 (RLv.mk (L := LT_22) [(x_h.Held, [(a6, c7)]), ((padP x_h.N), [(a138, c139)])] (Rd.of_own o147) rfl ⟨⟨⟨(r8.from0 m135), s9⟩, trivial⟩, ⟨⟨⟨(Rd.of_own o140), s141⟩, trivial⟩, trivial⟩⟩ (by first | decide | exact Nat.le_of_ble_eq_true rfl)) (by first | decide | exact Nat.le_of_ble_eq_true rfl)) (by first | omega | (rw [joinB_l2]; omega) | (rw [joinB_l2]; simp only [List.length_cons, List.length_nil, maskB_len]; omega) | (rw [joinB_l3]; simp only [List.length_cons, List.length_nil, maskB_len]; omega) | (simp only [joinB, List.flatten_cons, List.flatten_nil, List.length_append, List.length_nil, maskB_len]; omega))) ?_
   rintro _ w4 ⟨k149, ⟨a150, c151, rfl, o152, s153, ap155⟩⟩
   have m156 := m135.extk k149
   exact wl_fin k149 ⟨_, _, rfl, (own_lo o152 k134.size), s153, ap155, (Ap.lt o140 o152 (Nat.le_refl _))⟩
  ·intro w3 k157
   have m158 := m18.extk k157
   rintro _ rfl _ rfl _ rfl _ rfl _ rfl _ rfl _ ⟨a162, c163, rfl, o164, s165, ap167⟩
   have q168 := padP_len x_h.N
   rintro _ ⟨a169, c170, rfl, o171⟩ _ ⟨a173, c174, rfl, o175, s176, ap178, hx179⟩ _ _ _ _ _
   show WL _ _ _ _ _ _ _
   refine cl wN (C_impl_compressAll w3 _ x_h.H (mR_32 (r3.from0 m158) s4) _ (joinB [x_h.Held, (padP x_h.N)]) (mR_22 (Rd.of_own o175) s176)) ?_
   rintro _ w4 ⟨k180, ⟨a181, c182, a186, c187, rfl, o183, s184, o188, s189⟩⟩
   have m191 := m158.extk k180
   exact wl_fin k180 ⟨_, _, _, _, rfl, o183, s184, o188, s189⟩
  ·intro w3 k192
   have m193 := m18.extk k192
   rintro _ rfl _ rfl _ rfl _ rfl _ rfl _ rfl _ ⟨a197, c198, rfl, o199, s200, ap202⟩
   have q203 := padP_len x_h.N
   rintro _ ⟨a204, c205, rfl, o206⟩ _ ⟨a208, c209, rfl, o210, s211, ap213, hx214⟩ _ ⟨a215, c216, a220, c221, rfl, o217, s218, o222, s223⟩ _ _ _ _
   show WL _ _ _ _ _ _ _
   refine mw (.tuple #[(vs a215 ((compAll x_h.H (joinB [x_h.Held, (padP x_h.N)])).1).length c216), (vs a220 ((compAll x_h.H (joinB [x_h.Held, (padP x_h.N)])).2).length c221)]) ?_
   exact f2
  ·intro w3 k225
   have m226 := m18.extk k225
   rintro _ rfl _ rfl _ rfl _ rfl _ rfl _ rfl _ ⟨a230, c231, rfl, o232, s233, ap235⟩
   have q236 := padP_len x_h.N
   rintro _ ⟨a237, c238, rfl, o239⟩ _ ⟨a241, c242, rfl, o243, s244, ap246, hx247⟩ _ ⟨a248, c249, a253, c254, rfl, o250, s251, o255, s256⟩ _ rfl _ _ _
   show WL _ _ _ _ _ _ _
   refine pu (vs a248 ((compAll x_h.H (joinB [x_h.Held, (padP x_h.N)])).1).length c249) wN ?_
   exact f2
  ·intro w3 k258
   have m259 := m18.extk k258
   rintro _ rfl _ rfl _ rfl _ rfl _ rfl _ rfl _ ⟨a263, c264, rfl, o265, s266, ap268⟩
   have q269 := padP_len x_h.N
   rintro _ ⟨a270, c271, rfl, o272⟩ _ ⟨a274, c275, rfl, o276, s277, ap279, hx280⟩ _ ⟨a281, c282, a286, c287, rfl, o283, s284, o288, s289⟩ _ rfl _ _ _
   show WL _ _ _ _ _ _ _
   refine pu (vs a286 ((compAll x_h.H (joinB [x_h.Held, (padP x_h.N)])).2).length c287) wN ?_
   exact f2
  ·intro w3 k291
   have m292 := m18.extk k291
   rintro _ rfl _ rfl _ rfl _ rfl _ rfl _ rfl _ ⟨a296, c297, rfl, o298, s299, ap301⟩
   have q302 := padP_len x_h.N
   rintro _ ⟨a303, c304, rfl, o305⟩ _ ⟨a307, c308, rfl, o309, s310, ap312, hx313⟩ _ ⟨a314, c315, a319, c320, rfl, o316, s317, o321, s322⟩ _ rfl _ rfl _ _
   show WL _ _ _ _ _ _ _
   refine aw (vs a314 ((compAll x_h.H (joinB [x_h.Held, (padP x_h.N)])).1).length c315) ?_
   exact f2
 ·intro w3 k324
  have m325 := m18.extk k324
  rintro _ rfl _ rfl _ rfl _ rfl _ rfl _ rfl _ ⟨a329, c330, rfl, o331, s332, ap334⟩
  have q335 := padP_len x_h.N
  rintro _ ⟨a336, c337, rfl, o338⟩ _ ⟨a340, c341, rfl, o342, s343, ap345, hx346⟩ _ ⟨a347, c348, a352, c353, rfl, o349, s350, o354, s355⟩ _ rfl _ rfl _ rfl _ rfl
  show WL _ _ _ _ _ _ _
  refine aw (vs a352 ((compAll x_h.H (joinB [x_h.Held, (padP x_h.N)])).2).length c353) ?_
  refine nx ?_
  refine mw (vs a347 ((compAll x_h.H (joinB [x_h.Held, (padP x_h.N)])).1).length c348) ?_
  refine cl wN (C_impl_wordBytes w3 _ ((compAll x_h.H (joinB [x_h.Held, (padP x_h.N)])).1) (mR_32 o349 s350) (by first | omega | exact foldK_len k0_w _ | exact compAll_len (by first | assumption | exact (hashOk_t (by assumption)).1))) ?_
  rintro _ w4 ⟨k357, ⟨a358, c359, rfl, o360, s361, ap363⟩⟩
  have m364 := m325.extk k357
  refine aw (vs a358 (wordB ((compAll x_h.H (joinB [x_h.Held, (padP x_h.N)])).1)).length c359) ?_
  refine n3 ?_
  refine rt (vs a358 (wordB ((compAll x_h.H (joinB [x_h.Held, (padP x_h.N)])).1)).length c359) ?_
  refine ⟨m364.keep0, ?_⟩
  have hF365 : F_impl_HashEnd x_h = (wordB ((compAll x_h.H (joinB [x_h.Held, (padP x_h.N)])).1)) := by simp only [F_impl_HashEnd, h19, cond_true, cond_false]
  rw [hF365]
  exact ⟨_, _, rfl, (own_lo o360 (z3 k14 k17 k324)), s361, ⟨trivial, trivial⟩⟩

theorem shaI (b : List UInt8) (h : b.length ≤ 1048576) : F_impl_HashEnd (F_impl_HashAdd F_impl_HashNew b) = sha b := by
  have h0 : F_impl_HashOk F_impl_HashNew = true := rfl
  have hA : F_impl_HashAdd F_impl_HashNew b = { H := (compAll k0 b).1, Held := (compAll k0 b).2, N := (b.length : Int) : PHash } := by
    have h1 : decide (1048576 - F_impl_HashNew.N < (b.length : Int)) = false := decide_eq_false (by show ¬ (1048576 - 0 < (b.length : Int)); omega)
    simp only [F_impl_HashAdd, h0, h1, cond_true, cond_false]
    simp [F_impl_HashNew, joinB, F_impl_clone]
  have hO : F_impl_HashOk { H := (compAll k0 b).1, Held := (compAll k0 b).2, N := (b.length : Int) : PHash } = true := by
    have hw : areW (compAll k0 b).1 8 = true := foldK_w k0_w _
    have hl : (compAll k0 b).2.length = b.length - 64 * (b.length / 64) := List.length_drop
    simp only [F_impl_HashOk, hw, hl, F_impl_within, cond_true, cond_eq_ite]
    (repeat' split) <;> first | rfl | (exfalso; simp_all; done) | (rw [decide_eq_true_eq]; omega) | (exfalso; simp at *; omega)
  rw [hA, sha_parts h]
  have hp : padP (b.length : Int) = pad b.length := padP_eq (by omega) (by omega)
  simp only [F_impl_HashEnd, hO, cond_true, hp]
  simp [joinB]
theorem C_impl_Sha (w0 : World) (v_x_b : Value) (x_b : List UInt8) (r_x_b : R_22 w0 v_x_b x_b)  : Fn Try.prog 147 #[v_x_b] w0 (fun v w' => Keep w0 w' ∧ O_22 w' w0.heap.size v (sha x_b)) := by
 obtain ⟨a1, c2, rfl, r3, s4⟩ := r_x_b
 refine fn_of (n := 10) (l := [(vs a1 x_b.length c2), U, U, U, U, U, U, U, U, U]) Try.func147 rfl rfl (by kernel_rfl) rfl ?_
 refine sr ?_
 refine aw (vs none 0 0) ?_
 refine n4 ?_
 refine mw (vs a1 x_b.length c2) ?_
 refine ln wN slTy_22 r3 ?_
 refine pu (vb (decide (1048576 < (x_b.length : Int)))) wN ?_
 refine n2 ?_
 rcases bt (decide (1048576 < (x_b.length : Int))) with h6 | h6
 ·have q7 := of_decide_eq_true h6
  refine ct h6 ?_
  refine sr ?_
  refine aw (vs none 0 0) ?_
  refine n1 ?_
  refine rt (vs none 0 0) ?_
  refine ⟨Ch.refl _ _, ?_⟩
  have hF8 : sha x_b = [] := by first | exact sha_f (by omega) | exact (shaI x_b (by omega)).symm
  rw [hF8]
  exact ⟨_, _, rfl, (by first | exact own_nil _ _ _ _ | exact OLv.nil _ _ _ _), (by simp), ⟨trivial, trivial⟩⟩
 have q9 := of_decide_eq_false h6
 refine cf h6 ?_
 refine y1 ?_
 refine cl wN (C_impl_HashNew w0 ) ?_
 rintro _ w1 ⟨k10, ⟨a11, c12, a16, c17, rfl, o13, s14, o18, s19, ap21⟩⟩
 have m22 := (Ch.base w0).extk k10
 refine mw (vs a1 x_b.length c2) ?_
 refine cl wN (C_impl_HashAdd w1 _ (F_impl_HashNew) (mR_132 (Rd.of_own o13) s14 (Rd.of_own o18) s19) _ x_b (mR_22 (r3.from0 m22) s4)) ?_
 rintro _ w2 ⟨k23, ⟨a24, c25, a29, c30, rfl, o26, s27, o31, s32, ap34⟩⟩
 have m35 := m22.extk k23
 refine cl wN (C_impl_HashEnd w2 _ (F_impl_HashAdd (F_impl_HashNew) x_b) (mR_132 (Rd.of_own o26) s27 (Rd.of_own o31) s32)) ?_
 rintro _ w3 ⟨k36, ⟨a37, c38, rfl, o39, s40, ap42⟩⟩
 have m43 := m35.extk k36
 refine aw (vs a37 (F_impl_HashEnd (F_impl_HashAdd (F_impl_HashNew) x_b)).length c38) ?_
 refine n3 ?_
 refine rt (vs a37 (F_impl_HashEnd (F_impl_HashAdd (F_impl_HashNew) x_b)).length c38) ?_
 refine ⟨m43.keep0, ?_⟩
 have hF44 : sha x_b = (F_impl_HashEnd (F_impl_HashAdd (F_impl_HashNew) x_b)) := by first | exact sha_f (by omega) | exact (shaI x_b (by omega)).symm
 rw [hF44]
 exact ⟨_, _, rfl, (own_lo o39 (z2 k10 k23)), s40, ⟨trivial, trivial⟩⟩

theorem C_impl_BlockKey (w0 : World) (v_x_key : Value) (x_key : List UInt8) (r_x_key : R_22 w0 v_x_key x_key)  : Fn Try.prog 146 #[v_x_key] w0 (fun v w' => Keep w0 w' ∧ O_22 w' w0.heap.size v (blockKey x_key)) := by
 obtain ⟨a1, c2, rfl, r3, s4⟩ := r_x_key
 refine fn_of (n := 21) (l := [(vs a1 x_key.length c2), U, U, U, U, U, U, U, U, U, U, U, U, U, U, U, U, U, U, U, U]) Try.func146 rfl rfl (by kernel_rfl) rfl ?_
 refine sr ?_
 refine aw (vs none 0 0) ?_
 refine n4 ?_
 refine mw (vs a1 x_key.length c2) ?_
 refine ln wN slTy_22 r3 ?_
 refine pu (vb (decide (1048576 < (x_key.length : Int)))) wN ?_
 refine n2 ?_
 rcases bt (decide (1048576 < (x_key.length : Int))) with h6 | h6
 ·have q7 := of_decide_eq_true h6
  refine ct h6 ?_
  refine sr ?_
  refine aw (vs none 0 0) ?_
  refine n1 ?_
  refine rt (vs none 0 0) ?_
  refine ⟨Ch.refl _ _, ?_⟩
  have hF8 : blockKey x_key = [] := by first | exact blockKey_f (by omega) | exact blockKey_l (by omega) (by omega) (by omega) (by simp only [List.length_append, List.length_replicate] at *; omega) | exact blockKey_s (by omega) (by omega) (by simp only [List.length_append, List.length_replicate] at *; omega)
  rw [hF8]
  exact ⟨_, _, rfl, (by first | exact own_nil _ _ _ _ | exact OLv.nil _ _ _ _), (by simp), ⟨trivial, trivial⟩⟩
 have q9 := of_decide_eq_false h6
 refine cf h6 ?_
 refine y1 ?_
 refine mw (vs a1 x_key.length c2) ?_
 refine cl wN (C_impl_clone w0 _ x_key (mR_22 r3 s4)) ?_
 rintro _ w1 ⟨k10, ⟨a11, c12, rfl, o13, s14, ap16⟩⟩
 have m17 := (Ch.base w0).extk k10
 refine aw (vs a11 (x_key).length c12) ?_
 refine n4 ?_
 refine mw (vs a1 x_key.length c2) ?_
 refine ln wN slTy_22 (r3.from0 m17) ?_
 refine pu (vb (decide (64 < (x_key.length : Int)))) wN ?_
 refine n2 ?_
 rcases bf (decide (64 < (x_key.length : Int))) with h18 | h18
 ·have q61 := of_decide_eq_false h18
  refine cf h18 ?_
  refine wc_skip <| wq_then <| wc_seq <| wc_block ?_
  have hE63 : ((x_key) : List UInt8) = (x_key) ++ List.replicate 0 (0 : UInt8) := by simp
  refine wc_loopQ (fun e => [e 0, e 1, (vs none 0 0), (.slice a11 ((x_key) ++ List.replicate 0 (0 : UInt8)).length c12), e 4, e 5, e 6, e 7, e 8, e 9, e 10, e 11, e 12, e 13, e 14, e 15, e 16, e 17, e 18, e 19, U]) rfl ⟨rfl, rfl, rfl, (congrArg (fun l : List UInt8 => Value.slice a11 l.length c12) hE63), rfl, rfl, rfl, rfl, rfl, rfl, rfl, rfl, rfl, rfl, rfl, rfl, rfl, rfl, rfl, rfl, rfl, trivial⟩ (fun e' w' => ∃ (j : Nat) (u62 : Nat → Value) (a3x : Option Addr) (c3x : Nat), e' = lst [(u62 0), (u62 1), (vs none 0 0), (.slice a3x ((x_key) ++ List.replicate j (0 : UInt8)).length c3x), (u62 2), (u62 3), (u62 4), (u62 5), (u62 6), (u62 7), (u62 8), (u62 9), (u62 10), (u62 11), (u62 12), (u62 13), (u62 14), (u62 15), (u62 16), (u62 17), U] ∧ Ch (fun k => w0.heap.size ≤ k) w0 w' ∧ Ch (fun k => w0.heap.size ≤ k) w1 w' ∧ (x_key).length + j ≤ 64 ∧ (World.ownsRow w' w0.heap.size 5 1 (.slice a3x ((x_key) ++ List.replicate j (0 : UInt8)).length c3x) ((x_key) ++ List.replicate j (0 : UInt8)).length (((x_key) ++ List.replicate j (0 : UInt8)).map bV) ∧ ((x_key) ++ List.replicate j (0 : UInt8)).length ≤ 1073741824)) (fun e' _ => 64 - (lenOf (e' 3))) ?_ ?_
  ·exact fun u => ⟨0, (unL [u 0, u 1, u 4, u 5, u 6, u 7, u 8, u 9, u 10, u 11, u 12, u 13, u 14, u 15, u 16, u 17, u 18, u 19]), a11, c12, rfl, m17, (Ch.refl (fun k => w0.heap.size ≤ k) w1), (by omega), (hE63 ▸ ⟨o13, s14⟩)⟩
  ·rintro _ w2 ⟨j, u62, a3x, c3x, rfl, m64, k65, i66, ⟨o67, s68⟩⟩
   have hol : ((x_key) ++ List.replicate j (0 : UInt8)).length = (x_key).length + j := by rw [List.length_append, List.length_replicate]
   refine wc_seq <| sr ?_
   refine mw (vs a3x ((x_key) ++ List.replicate j (0 : UInt8)).length c3x) ?_
   refine ln wN slTy_22 (Rd.of_own o67) ?_
   refine pu (vb (decide ((((x_key) ++ List.replicate j (0 : UInt8)).length : Int) < 64))) wN ?_
   refine n2 ?_
   rcases bf (decide ((((x_key) ++ List.replicate j (0 : UInt8)).length : Int) < 64)) with h70 | h70
   ·have q92 := of_decide_eq_false h70
    refine cf h70 ?_
    refine wc_exit <| wq_then_exit <| wq_then_exit <| wq_blk_exit <| wq_then <| sr ?_
    refine mw (vs a3x ((x_key) ++ List.replicate j (0 : UInt8)).length c3x) ?_
    refine aw (vs a3x ((x_key) ++ List.replicate j (0 : UInt8)).length c3x) ?_
    refine n3 ?_
    refine rt (vs a3x ((x_key) ++ List.replicate j (0 : UInt8)).length c3x) ?_
    refine ⟨m64.keep0, ?_⟩
    have hF93 : blockKey x_key = ((x_key) ++ List.replicate j (0 : UInt8)) := by first | exact blockKey_f (by omega) | exact blockKey_l (by omega) (by omega) (by omega) (by simp only [List.length_append, List.length_replicate] at *; omega) | exact blockKey_s (by omega) (by omega) (by simp only [List.length_append, List.length_replicate] at *; omega)
    rw [hF93]
    exact ⟨_, _, rfl, o67, s68, ⟨trivial, trivial⟩⟩
   have q71 := of_decide_eq_true h70
   refine ct h70 ?_
   refine wc_skip <| wq_then <| wc_block <| wc_region ?_
   refine mw (vs a3x ((x_key) ++ List.replicate j (0 : UInt8)).length c3x) ?_
   refine wl_lit [(v8 0)] wN rfl rfl slTy_22 (m := 1) rfl (by simp only [maxLen]; omega) (fun w => by kernel_rfl) ?_
   intro u72 w3 k73 o74
   obtain ⟨a75, c76, rfl⟩ := own_form o74
   have m77 := m64.extk k73
   have o79 : w3.ownsRow w2.heap.size 5 1 (.slice a75 (([0] : List UInt8) : List UInt8).length c76) (([0] : List UInt8) : List UInt8).length ((([0] : List UInt8) : List UInt8).map bV) := o74
   have o80 := (own_kp o67 k73)
   refine wl_append (v := (vs a3x ((x_key) ++ List.replicate j (0 : UInt8)).length c3x)) wN rfl rfl rfl slTy_22 rfl rfl o80 (Rd.of_own o79) (all_bV _) (by first | (simp only [List.length_append, List.length_cons, List.length_nil, List.length_replicate, List.length_take, List.length_drop]; omega) | omega) (by simp only [maxLen]; first | (simp only [List.length_append, List.length_cons, List.length_nil, List.length_replicate, List.length_take, List.length_drop]; omega) | omega) (z3 k10 k65 k73) ?_
   intro u81 w4 k82 o83 j84
   have o87 : w4.ownsRow w0.heap.size 5 1 u81 ((((x_key) ++ List.replicate j (0 : UInt8)) ++ ([0] : List UInt8)) : List UInt8).length (((((x_key) ++ List.replicate j (0 : UInt8)) ++ ([0] : List UInt8)) : List UInt8).map bV) := by simpa [Nat.add_assoc] using o83
   obtain ⟨a85, c86, rfl⟩ := own_form o87
   have m88 := m77.ext k82 (fun k hk => Nat.le_trans (Nat.le_refl w0.heap.size) (own_lt o67 k hk).1)
   have s90 : (((x_key) ++ List.replicate j (0 : UInt8)) ++ ([0] : List UInt8)).length ≤ 1073741824 := by first | (simp only [List.length_append, List.length_cons, List.length_nil, List.length_replicate, List.length_take, List.length_drop]; omega) | omega | assumption
   refine aw (vs a85 (((x_key) ++ List.replicate j (0 : UInt8)) ++ ([0] : List UInt8)).length c86) ?_
   refine wl_nil <| wq_blk_normal ?_
   have hE91 : ((((x_key) ++ List.replicate j (0 : UInt8)) ++ ([0] : List UInt8)) : List UInt8) = (x_key) ++ List.replicate (j + 1) (0 : UInt8) := by rw [List.replicate_succ', List.append_assoc]
   refine wq_loopQ (w0 := w2) (fun e => [e 0, e 1, (vs none 0 0), (.slice a85 ((x_key) ++ List.replicate (j + 1) (0 : UInt8)).length c86), e 4, e 5, e 6, e 7, e 8, e 9, e 10, e 11, e 12, e 13, e 14, e 15, e 16, e 17, e 18, e 19, U]) rfl ?_ ?_ ?_
   · exact ⟨rfl, rfl, rfl, (congrArg (fun l : List UInt8 => Value.slice a85 l.length c86) hE91), rfl, rfl, rfl, rfl, rfl, rfl, rfl, rfl, rfl, rfl, rfl, rfl, rfl, rfl, rfl, rfl, rfl, trivial⟩
   · exact fun u => ⟨(j + 1), (unL [u 0, u 1, u 4, u 5, u 6, u 7, u 8, u 9, u 10, u 11, u 12, u 13, u 14, u 15, u 16, u 17, u 18, u 19]), a85, c86, rfl, m88, ((((Ch.refl (fun k => w0.heap.size ≤ k) w1).ext k65 (fun k hk => hk)).extk k73).ext k82 (fun k hk => Nat.le_trans (Nat.le_refl w0.heap.size) (own_lt o67 k hk).1)), (by omega), (hE91 ▸ ⟨o87, s90⟩)⟩
   · show 64 - ((x_key) ++ List.replicate (j + 1) (0 : UInt8)).length < 64 - ((x_key) ++ List.replicate j (0 : UInt8)).length; simp only [List.length_append, List.length_replicate]; omega
 have q19 := of_decide_eq_true h18
 refine ct h18 ?_
 refine wc_region ?_
 refine mw (vs a1 x_key.length c2) ?_
 refine cl wN (C_impl_Sha w1 _ x_key (mR_22 (r3.from0 m17) s4)) ?_
 rintro _ w2 ⟨k20, ⟨a21, c22, rfl, o23, s24, ap26⟩⟩
 have m27 := m17.extk k20
 have q28 := sha_le x_key
 refine aw (vs a21 (sha x_key).length c22) ?_
 refine wl_nil <| wq_then <| wc_seq <| wc_block ?_
 have hE30 : ((sha x_key) : List UInt8) = (sha x_key) ++ List.replicate 0 (0 : UInt8) := by simp
 refine wc_loopQ (fun e => [e 0, e 1, (vs none 0 0), (.slice a21 ((sha x_key) ++ List.replicate 0 (0 : UInt8)).length c22), e 4, e 5, e 6, e 7, e 8, e 9, e 10, e 11, e 12, e 13, e 14, e 15, e 16, e 17, e 18, e 19, U]) rfl ⟨rfl, rfl, rfl, (congrArg (fun l : List UInt8 => Value.slice a21 l.length c22) hE30), rfl, rfl, rfl, rfl, rfl, rfl, rfl, rfl, rfl, rfl, rfl, rfl, rfl, rfl, rfl, rfl, rfl, trivial⟩ (fun e' w' => ∃ (j : Nat) (u29 : Nat → Value) (a3x : Option Addr) (c3x : Nat), e' = lst [(u29 0), (u29 1), (vs none 0 0), (.slice a3x ((sha x_key) ++ List.replicate j (0 : UInt8)).length c3x), (u29 2), (u29 3), (u29 4), (u29 5), (u29 6), (u29 7), (u29 8), (u29 9), (u29 10), (u29 11), (u29 12), (u29 13), (u29 14), (u29 15), (u29 16), (u29 17), U] ∧ Ch (fun k => w0.heap.size ≤ k) w0 w' ∧ Ch (fun k => w1.heap.size ≤ k) w2 w' ∧ (sha x_key).length + j ≤ 64 ∧ (World.ownsRow w' w1.heap.size 5 1 (.slice a3x ((sha x_key) ++ List.replicate j (0 : UInt8)).length c3x) ((sha x_key) ++ List.replicate j (0 : UInt8)).length (((sha x_key) ++ List.replicate j (0 : UInt8)).map bV) ∧ ((sha x_key) ++ List.replicate j (0 : UInt8)).length ≤ 1073741824)) (fun e' _ => 64 - (lenOf (e' 3))) ?_ ?_
 ·exact fun u => ⟨0, (unL [u 0, u 1, u 4, u 5, u 6, u 7, u 8, u 9, u 10, u 11, u 12, u 13, u 14, u 15, u 16, u 17, u 18, u 19]), a21, c22, rfl, m27, (Ch.refl (fun k => w1.heap.size ≤ k) w2), (by omega), (hE30 ▸ ⟨o23, s24⟩)⟩
 ·rintro _ w3 ⟨j, u29, a3x, c3x, rfl, m31, k32, i33, ⟨o34, s35⟩⟩
  have hol : ((sha x_key) ++ List.replicate j (0 : UInt8)).length = (sha x_key).length + j := by rw [List.length_append, List.length_replicate]
  refine wc_seq <| sr ?_
  refine mw (vs a3x ((sha x_key) ++ List.replicate j (0 : UInt8)).length c3x) ?_
  refine ln wN slTy_22 (Rd.of_own o34) ?_
  refine pu (vb (decide ((((sha x_key) ++ List.replicate j (0 : UInt8)).length : Int) < 64))) wN ?_
  refine n2 ?_
  rcases bf (decide ((((sha x_key) ++ List.replicate j (0 : UInt8)).length : Int) < 64)) with h37 | h37
  ·have q59 := of_decide_eq_false h37
   refine cf h37 ?_
   refine wc_exit <| wq_then_exit <| wq_then_exit <| wq_blk_exit <| wq_then <| sr ?_
   refine mw (vs a3x ((sha x_key) ++ List.replicate j (0 : UInt8)).length c3x) ?_
   refine aw (vs a3x ((sha x_key) ++ List.replicate j (0 : UInt8)).length c3x) ?_
   refine n3 ?_
   refine rt (vs a3x ((sha x_key) ++ List.replicate j (0 : UInt8)).length c3x) ?_
   refine ⟨m31.keep0, ?_⟩
   have hF60 : blockKey x_key = ((sha x_key) ++ List.replicate j (0 : UInt8)) := by first | exact blockKey_f (by omega) | exact blockKey_l (by omega) (by omega) (by omega) (by simp only [List.length_append, List.length_replicate] at *; omega) | exact blockKey_s (by omega) (by omega) (by simp only [List.length_append, List.length_replicate] at *; omega)
   rw [hF60]
   exact ⟨_, _, rfl, (own_lo o34 k10.size), s35, ⟨trivial, trivial⟩⟩
  have q38 := of_decide_eq_true h37
  refine ct h37 ?_
  refine wc_skip <| wq_then <| wc_block <| wc_region ?_
  refine mw (vs a3x ((sha x_key) ++ List.replicate j (0 : UInt8)).length c3x) ?_
  refine wl_lit [(v8 0)] wN rfl rfl slTy_22 (m := 1) rfl (by simp only [maxLen]; omega) (fun w => by kernel_rfl) ?_
  intro u39 w4 k40 o41
  obtain ⟨a42, c43, rfl⟩ := own_form o41
  have m44 := m31.extk k40
  have o46 : w4.ownsRow w3.heap.size 5 1 (.slice a42 (([0] : List UInt8) : List UInt8).length c43) (([0] : List UInt8) : List UInt8).length ((([0] : List UInt8) : List UInt8).map bV) := o41
  have o47 := (own_kp o34 k40)
  refine wl_append (v := (vs a3x ((sha x_key) ++ List.replicate j (0 : UInt8)).length c3x)) wN rfl rfl rfl slTy_22 rfl rfl o47 (Rd.of_own o46) (all_bV _) (by first | (simp only [List.length_append, List.length_cons, List.length_nil, List.length_replicate, List.length_take, List.length_drop]; omega) | omega) (by simp only [maxLen]; first | (simp only [List.length_append, List.length_cons, List.length_nil, List.length_replicate, List.length_take, List.length_drop]; omega) | omega) (z3 k20 k32 k40) ?_
  intro u48 w5 k49 o50 j51
  have o54 : w5.ownsRow w1.heap.size 5 1 u48 ((((sha x_key) ++ List.replicate j (0 : UInt8)) ++ ([0] : List UInt8)) : List UInt8).length (((((sha x_key) ++ List.replicate j (0 : UInt8)) ++ ([0] : List UInt8)) : List UInt8).map bV) := by simpa [Nat.add_assoc] using o50
  obtain ⟨a52, c53, rfl⟩ := own_form o54
  have m55 := m44.ext k49 (fun k hk => Nat.le_trans k10.size (own_lt o34 k hk).1)
  have s57 : (((sha x_key) ++ List.replicate j (0 : UInt8)) ++ ([0] : List UInt8)).length ≤ 1073741824 := by first | (simp only [List.length_append, List.length_cons, List.length_nil, List.length_replicate, List.length_take, List.length_drop]; omega) | omega | assumption
  refine aw (vs a52 (((sha x_key) ++ List.replicate j (0 : UInt8)) ++ ([0] : List UInt8)).length c53) ?_
  refine wl_nil <| wq_blk_normal ?_
  have hE58 : ((((sha x_key) ++ List.replicate j (0 : UInt8)) ++ ([0] : List UInt8)) : List UInt8) = (sha x_key) ++ List.replicate (j + 1) (0 : UInt8) := by rw [List.replicate_succ', List.append_assoc]
  refine wq_loopQ (w0 := w3) (fun e => [e 0, e 1, (vs none 0 0), (.slice a52 ((sha x_key) ++ List.replicate (j + 1) (0 : UInt8)).length c53), e 4, e 5, e 6, e 7, e 8, e 9, e 10, e 11, e 12, e 13, e 14, e 15, e 16, e 17, e 18, e 19, U]) rfl ?_ ?_ ?_
  · exact ⟨rfl, rfl, rfl, (congrArg (fun l : List UInt8 => Value.slice a52 l.length c53) hE58), rfl, rfl, rfl, rfl, rfl, rfl, rfl, rfl, rfl, rfl, rfl, rfl, rfl, rfl, rfl, rfl, rfl, trivial⟩
  · exact fun u => ⟨(j + 1), (unL [u 0, u 1, u 4, u 5, u 6, u 7, u 8, u 9, u 10, u 11, u 12, u 13, u 14, u 15, u 16, u 17, u 18, u 19]), a52, c53, rfl, m55, ((((Ch.refl (fun k => w1.heap.size ≤ k) w2).ext k32 (fun k hk => hk)).extk k40).ext k49 (fun k hk => Nat.le_trans (Nat.le_refl w1.heap.size) (own_lt o34 k hk).1)), (by omega), (hE58 ▸ ⟨o54, s57⟩)⟩
  · show 64 - ((sha x_key) ++ List.replicate (j + 1) (0 : UInt8)).length < 64 - ((sha x_key) ++ List.replicate j (0 : UInt8)).length; simp only [List.length_append, List.length_replicate]; omega

theorem C_impl_masked (w0 : World) (v_x_b : Value) (x_b : List UInt8) (r_x_b : R_22 w0 v_x_b x_b) (x_x : UInt8)  : Fn Try.prog 148 #[v_x_b, (v8 ((x_x).toNat : Int))] w0 (fun v w' => Keep w0 w' ∧ O_22 w' w0.heap.size v (maskB x_b x_x)) := by
 obtain ⟨a1, c2, rfl, r3, s4⟩ := r_x_b
 refine fn_of (n := 23) (l := [(vs a1 x_b.length c2), (v8 ((x_x).toNat : Int)), U, U, U, U, U, U, U, U, U, U, U, U, U, U, U, U, U, U, U, U, U]) Try.func148 rfl rfl (by kernel_rfl) rfl ?_
 refine sr ?_
 refine aw (vs none 0 0) ?_
 refine nx ?_
 refine wl_lit0 wN rfl rfl slTy_22 (fun w => by kernel_rfl) ?_
 intro a6 w1 k7 o8
 have m9 := (Ch.base w0).extk k7
 refine aw (vs (some a6) 0 0) ?_
 refine n4 ?_
 refine mw (vs a1 x_b.length c2) ?_
 refine ln wN slTy_22 (r3.from0 m9) ?_
 refine mw (vi 0) ?_
 refine wl_nil <| wq_then <| wc_block ?_
 have hE12 : ([] : List UInt8) = (x_b.take 0).map (fun y => y ^^^ x_x) := by rfl
 have hN13 : 0 = ((x_b.take 0).map (fun y => y ^^^ x_x)).length := by rw [← hE12]; try (first | rfl | simp only [List.length_set] | simp)
 refine wc_loopQ (fun e => [e 0, (v8 ((x_x).toNat : Int)), e 2, e 3, (vs none 0 0), (.slice (some a6) ((x_b.take 0).map (fun y => y ^^^ x_x)).length 0), e 6, e 7, e 8, (vs a1 x_b.length c2), (vi (x_b.length : Int)), (vi ((0 : Nat) : Int)), e 12, e 13, e 14, e 15, e 16, e 17, e 18, e 19, e 20, e 21, U]) rfl ⟨rfl, rfl, rfl, rfl, rfl, rfl, rfl, rfl, rfl, rfl, rfl, (congrArg (Value.int .i64) (show (0 : Int) = ((0 : Nat) : Int) by omega)), rfl, rfl, rfl, rfl, rfl, rfl, rfl, rfl, rfl, rfl, rfl, trivial⟩ (fun e' w' => ∃ (k : Nat) (u11 : Nat → Value) (a5x : Option Addr) (c5x : Nat), e' = lst [(u11 0), (v8 ((x_x).toNat : Int)), (u11 1), (u11 2), (vs none 0 0), (.slice a5x ((x_b.take k).map (fun y => y ^^^ x_x)).length c5x), (u11 3), (u11 4), (u11 5), (vs a1 x_b.length c2), (vi (x_b.length : Int)), (vi ((k : Nat) : Int)), (u11 6), (u11 7), (u11 8), (u11 9), (u11 10), (u11 11), (u11 12), (u11 13), (u11 14), (u11 15), U] ∧ Ch (fun k => w0.heap.size ≤ k) w0 w' ∧ Ch (fun k => w0.heap.size ≤ k) w1 w' ∧ k ≤ x_b.length ∧ (World.ownsRow w' w0.heap.size 5 1 (.slice a5x ((x_b.take k).map (fun y => y ^^^ x_x)).length c5x) ((x_b.take k).map (fun y => y ^^^ x_x)).length (((x_b.take k).map (fun y => y ^^^ x_x)).map bV) ∧ ((x_b.take k).map (fun y => y ^^^ x_x)).length ≤ 1073741824)) (fun e' _ => x_b.length - ((intOf (e' 11))).toNat) ?_ ?_
 ·exact fun u => ⟨0, (unL [u 0, u 2, u 3, u 6, u 7, u 8, u 12, u 13, u 14, u 15, u 16, u 17, u 18, u 19, u 20, u 21]), (some a6), 0, rfl, m9, (Ch.refl (fun k => w0.heap.size ≤ k) w1), (by omega), ⟨(by rw [← hN13, ← hE12]; exact o8), (by rw [← hN13]; first | exact (by simp) | (simp only [List.length_append, List.length_take, List.length_replicate]; omega))⟩⟩
 ·rintro _ w2 ⟨k, u11, a5x, c5x, rfl, m14, k15, i16, ⟨o17, s18⟩⟩
  have hml : ((x_b.take k).map (fun y => y ^^^ x_x)).length = min k x_b.length := by rw [List.length_map, List.length_take]
  refine sr ?_
  refine pu (vb (decide (((k : Nat) : Int) < (x_b.length : Int)))) wN ?_
  refine wl_nil <| wq_then <| wc_seq ?_
  rcases bf (decide (((k : Nat) : Int) < (x_b.length : Int))) with h20 | h20
  ·have q42 := of_decide_eq_false h20
   refine cf h20 ?_
   refine wc_exit <| wq_then_exit <| wq_then_exit <| wq_blk_exit <| wq_then <| sr ?_
   refine mw (vs a5x ((x_b.take k).map (fun y => y ^^^ x_x)).length c5x) ?_
   refine aw (vs a5x ((x_b.take k).map (fun y => y ^^^ x_x)).length c5x) ?_
   refine n3 ?_
   refine rt (vs a5x ((x_b.take k).map (fun y => y ^^^ x_x)).length c5x) ?_
   refine ⟨m14.keep0, ?_⟩
   have hF43 : maskB x_b x_x = ((x_b.take k).map (fun y => y ^^^ x_x)) := by exact (map_end (by omega)).symm
   rw [hF43]
   exact ⟨_, _, rfl, o17, s18, ⟨trivial, trivial⟩⟩
  have q21 := of_decide_eq_true h20
  refine ct h20 ?_
  refine wc_skip <| wq_then <| wc_seq <| wc_block <| sr ?_
  refine wl_index (v := (vs a1 x_b.length c2)) wN ((k : Nat) : Int) rfl rfl rfl slTy_22 rfl rfl (r3.from0 m14) (by first | omega | (simp only [List.length_cons, List.length_nil, List.length_replicate, List.length_append, List.length_take, List.length_set, List.length_map]; omega)) (by first | omega | (simp only [List.length_cons, List.length_nil, List.length_replicate, List.length_append, List.length_take, List.length_set, List.length_map]; omega)) ?_
  refine wl_loadE (bV (x_b.getD k 0)) wN rfl rfl rfl rfl isAgg_5 (r3.from0 m14) (bget (by simp) (by first | omega | (simp only [List.length_cons, List.length_nil, List.length_replicate, List.length_append, List.length_take, List.length_set, List.length_map]; omega))) ?_
  refine aw (v8 ((x_b.getD k 0).toNat : Int)) ?_
  refine wl_nil <| wq_then <| wc_region ?_
  refine mw (vs a5x ((x_b.take k).map (fun y => y ^^^ x_x)).length c5x) ?_
  refine mw (v8 ((x_b.getD k 0).toNat : Int)) ?_
  refine mw (v8 ((x_x).toNat : Int)) ?_
  refine wl_xor8 (x_b.getD k 0) (x_x) wN rfl rfl (by kernel_rfl) ?_
  refine wl_lit [(v8 (((x_b.getD k 0) ^^^ (x_x)).toNat : Int))] wN rfl rfl slTy_22 (m := 1) rfl (by simp only [maxLen]; omega) (fun w => by kernel_rfl) ?_
  intro u22 w3 k23 o24
  obtain ⟨a25, c26, rfl⟩ := own_form o24
  have m27 := m14.extk k23
  have o29 : w3.ownsRow w2.heap.size 5 1 (.slice a25 (([((x_b.getD k 0) ^^^ (x_x))] : List UInt8) : List UInt8).length c26) (([((x_b.getD k 0) ^^^ (x_x))] : List UInt8) : List UInt8).length ((([((x_b.getD k 0) ^^^ (x_x))] : List UInt8) : List UInt8).map bV) := o24
  have o30 := (own_kp o17 k23)
  refine wl_append (v := (vs a5x ((x_b.take k).map (fun y => y ^^^ x_x)).length c5x)) wN rfl rfl rfl slTy_22 rfl rfl o30 (Rd.of_own o29) (all_bV _) (by first | (simp only [List.length_append, List.length_cons, List.length_nil, List.length_replicate, List.length_take, List.length_drop]; omega) | omega) (by simp only [maxLen]; first | (simp only [List.length_append, List.length_cons, List.length_nil, List.length_replicate, List.length_take, List.length_drop]; omega) | omega) (z3 k7 k15 k23) ?_
  intro u31 w4 k32 o33 j34
  have o37 : w4.ownsRow w0.heap.size 5 1 u31 ((((x_b.take k).map (fun y => y ^^^ x_x)) ++ ([((x_b.getD k 0) ^^^ (x_x))] : List UInt8)) : List UInt8).length (((((x_b.take k).map (fun y => y ^^^ x_x)) ++ ([((x_b.getD k 0) ^^^ (x_x))] : List UInt8)) : List UInt8).map bV) := by simpa [Nat.add_assoc] using o33
  obtain ⟨a35, c36, rfl⟩ := own_form o37
  have m38 := m27.ext k32 (fun k hk => Nat.le_trans (Nat.le_refl w0.heap.size) (own_lt o17 k hk).1)
  have s40 : (((x_b.take k).map (fun y => y ^^^ x_x)) ++ ([((x_b.getD k 0) ^^^ (x_x))] : List UInt8)).length ≤ 1073741824 := by first | (simp only [List.length_append, List.length_cons, List.length_nil, List.length_replicate, List.length_take, List.length_drop]; omega) | omega | assumption
  refine aw (vs a35 (((x_b.take k).map (fun y => y ^^^ x_x)) ++ ([((x_b.getD k 0) ^^^ (x_x))] : List UInt8)).length c36) ?_
  refine wl_nil <| wq_blk_normal <| wq_then <| wc_region ?_
  refine ar (((k : Nat) : Int) + 1) wN ?_
  refine mw (vi (((k : Nat) : Int) + 1)) ?_
  refine wl_nil ?_
  have hE41 : ((((x_b.take k).map (fun y => y ^^^ x_x)) ++ ([((x_b.getD k 0) ^^^ (x_x))] : List UInt8)) : List UInt8) = (x_b.take (k + 1)).map (fun y => y ^^^ x_x) := by exact map_next (z := 0) (by omega)
  refine wq_loopQ (w0 := w2) (fun e => [e 0, (v8 ((x_x).toNat : Int)), e 2, e 3, (vs none 0 0), (.slice a35 ((x_b.take (k + 1)).map (fun y => y ^^^ x_x)).length c36), e 6, e 7, e 8, (vs a1 x_b.length c2), (vi (x_b.length : Int)), (vi (((k + 1) : Nat) : Int)), e 12, e 13, e 14, e 15, e 16, e 17, e 18, e 19, e 20, e 21, U]) rfl ?_ ?_ ?_
  · exact ⟨rfl, rfl, rfl, rfl, rfl, (congrArg (fun l : List UInt8 => Value.slice a35 l.length c36) hE41), rfl, rfl, rfl, rfl, rfl, (congrArg (Value.int .i64) (show ((((k : Nat) : Int) + 1) : Int) = (((k + 1) : Nat) : Int) by omega)), rfl, rfl, rfl, rfl, rfl, rfl, rfl, rfl, rfl, rfl, rfl, trivial⟩
  · exact fun u => ⟨(k + 1), (unL [u 0, u 2, u 3, u 6, u 7, u 8, u 12, u 13, u 14, u 15, u 16, u 17, u 18, u 19, u 20, u 21]), a35, c36, rfl, m38, ((((Ch.refl (fun k => w0.heap.size ≤ k) w1).ext k15 (fun k hk => hk)).extk k23).ext k32 (fun k hk => Nat.le_trans (Nat.le_refl w0.heap.size) (own_lt o17 k hk).1)), (by omega), (hE41 ▸ ⟨o37, s40⟩)⟩
  · show x_b.length - ((((k + 1) : Nat) : Int)).toNat < x_b.length - (((k : Nat) : Int)).toNat; omega

theorem C_impl_Hmac (w0 : World) (v_x_key : Value) (x_key : List UInt8) (r_x_key : R_22 w0 v_x_key x_key) (v_x_b : Value) (x_b : List UInt8) (r_x_b : R_22 w0 v_x_b x_b)  : Fn Try.prog 123 #[v_x_key, v_x_b] w0 (fun v w' => Keep w0 w' ∧ O_22 w' w0.heap.size v (hmac x_key x_b)) := by
 obtain ⟨a1, c2, rfl, r3, s4⟩ := r_x_key
 obtain ⟨a6, c7, rfl, r8, s9⟩ := r_x_b
 refine fn_of (n := 27) (l := [(vs a1 x_key.length c2), (vs a6 x_b.length c7), U, U, U, U, U, U, U, U, U, U, U, U, U, U, U, U, U, U, U, U, U, U, U, U, U]) Try.func123 rfl rfl (by kernel_rfl) rfl ?_
 refine sr ?_
 refine aw (vs none 0 0) ?_
 refine n4 ?_
 refine mw (vs a1 x_key.length c2) ?_
 refine ln wN slTy_22 r3 ?_
 refine pu (vb (decide (1048576 < (x_key.length : Int)))) wN ?_
 refine mw (vb (decide (1048576 < (x_key.length : Int)))) ?_
 rcases bt (decide (1048576 < (x_key.length : Int))) with h11 | h11
 ·have q12 := of_decide_eq_true h11
  refine sk h11 ?_
  refine sk h11 ?_
  refine sk h11 ?_
  refine pk (vb true) wN h11 ?_
  refine n2 ?_
  refine ct (Eq.refl true) ?_
  refine sr ?_
  refine aw (vs none 0 0) ?_
  refine n1 ?_
  refine rt (vs none 0 0) ?_
  refine ⟨Ch.refl _ _, ?_⟩
  have hF13 : hmac x_key x_b = [] := by first | exact hmac_f (by omega) | exact hmac_g (by omega) (by omega) | exact hmac_i (by omega) (by omega)
  rw [hF13]
  exact ⟨_, _, rfl, (by first | exact own_nil _ _ _ _ | exact OLv.nil _ _ _ _), (by simp), ⟨trivial, trivial⟩⟩
 have q14 := of_decide_eq_false h11
 refine mv (vs a6 x_b.length c7) (wS h11) ?_
 refine ln (wS h11) slTy_22 r8 ?_
 refine pu (vb (decide (1048512 < (x_b.length : Int)))) (wS h11) ?_
 refine pf (vb (decide (1048512 < (x_b.length : Int)))) wN h11 ?_
 refine n2 ?_
 rcases bt (decide (1048512 < (x_b.length : Int))) with h15 | h15
 ·have q16 := of_decide_eq_true h15
  refine ct h15 ?_
  refine sr ?_
  refine aw (vs none 0 0) ?_
  refine n1 ?_
  refine rt (vs none 0 0) ?_
  refine ⟨Ch.refl _ _, ?_⟩
  have hF17 : hmac x_key x_b = [] := by first | exact hmac_f (by omega) | exact hmac_g (by omega) (by omega) | exact hmac_i (by omega) (by omega)
  rw [hF17]
  exact ⟨_, _, rfl, (by first | exact own_nil _ _ _ _ | exact OLv.nil _ _ _ _), (by simp), ⟨trivial, trivial⟩⟩
 have q18 := of_decide_eq_false h15
 refine cf h15 ?_
 refine y1 ?_
 refine mw (vs a1 x_key.length c2) ?_
 refine cl wN (C_impl_BlockKey w0 _ x_key (mR_22 r3 s4)) ?_
 rintro _ w1 ⟨k19, ⟨a20, c21, rfl, o22, s23, ap25⟩⟩
 have m26 := (Ch.base w0).extk k19
 have q27 := blockKey_le x_key
 refine aw (vs a20 (blockKey x_key).length c21) ?_
 refine nx ?_
 refine mw (vs a20 (blockKey x_key).length c21) ?_
 refine cl wN (C_impl_masked w1 _ (blockKey x_key) (mR_22 (Rd.of_own o22) s23) 92) ?_
 rintro _ w2 ⟨k28, ⟨a29, c30, rfl, o31, s32, ap34⟩⟩
 have m35 := m26.extk k28
 have q36 := maskB_len (blockKey x_key) 92
 refine mw (vs a20 (blockKey x_key).length c21) ?_
 have o37 := (own_kp o22 k28)
 refine cl wN (C_impl_masked w2 _ (blockKey x_key) (mR_22 (Rd.of_own o37) s23) 54) ?_
 rintro _ w3 ⟨k38, ⟨a39, c40, rfl, o41, s42, ap44⟩⟩
 have m45 := m35.extk k38
 have q46 := maskB_len (blockKey x_key) 54
 refine mw (vs a6 x_b.length c7) ?_
 refine wl_lit [(vs a39 (maskB (blockKey x_key) 54).length c40), (vs a6 x_b.length c7)] wN rfl rfl slTy_40 (m := 2) rfl (by simp only [maxLen]; omega) (fun w => by kernel_rfl) ?_
 intro u47 w4 k48 o49
 obtain ⟨a50, c51, rfl⟩ := own_form o49
 have m52 := m45.extk k48
 have o54 := (own_kp o41 k48)
 refine cl wN (C_impl_joined w4 _ [(maskB (blockKey x_key) 54), x_b] (mR_40 (RLv.mk (L := LT_22) [((maskB (blockKey x_key) 54), [(a39, c40)]), (x_b, [(a6, c7)])] (Rd.of_own o49) rfl ⟨⟨⟨(Rd.of_own o54), s42⟩, trivial⟩, ⟨⟨⟨(r8.from0 m52), s9⟩, trivial⟩, trivial⟩⟩ (by first | decide | exact Nat.le_of_ble_eq_true rfl)) (by first | decide | exact Nat.le_of_ble_eq_true rfl)) (by first | omega | (rw [joinB_l2]; omega) | (rw [joinB_l2]; simp only [List.length_cons, List.length_nil, maskB_len]; omega) | (rw [joinB_l3]; simp only [List.length_cons, List.length_nil, maskB_len]; omega) | (simp only [joinB, List.flatten_cons, List.flatten_nil, List.length_append, List.length_nil, maskB_len]; omega))) ?_
 rintro _ w5 ⟨k55, ⟨a56, c57, rfl, o58, s59, ap61⟩⟩
 have m62 := m52.extk k55
 refine cl wN (C_impl_Sha w5 _ (joinB [(maskB (blockKey x_key) 54), x_b]) (mR_22 (Rd.of_own o58) s59)) ?_
 rintro _ w6 ⟨k63, ⟨a64, c65, rfl, o66, s67, ap69⟩⟩
 have m70 := m62.extk k63
 have q71 := sha_le (joinB [(maskB (blockKey x_key) 54), x_b])
 refine wl_lit [(vs a29 (maskB (blockKey x_key) 92).length c30), (vs a64 (sha (joinB [(maskB (blockKey x_key) 54), x_b])).length c65)] wN rfl rfl slTy_40 (m := 2) rfl (by simp only [maxLen]; omega) (fun w => by kernel_rfl) ?_
 intro u72 w7 k73 o74
 obtain ⟨a75, c76, rfl⟩ := own_form o74
 have m77 := m70.extk k73
 have o79 := (own_kp o66 k73)
 have o80 := (own_kp (own_kp (own_kp (own_kp (own_kp o31 k38) k48) k55) k63) k73)
 refine cl wN (C_impl_joined w7 _ [(maskB (blockKey x_key) 92), (sha (joinB [(maskB (blockKey x_key) 54), x_b]))] (mR_40 (RLv.mk (L := LT_22) [((maskB (blockKey x_key) 92), [(a29, c30)]), ((sha (joinB [(maskB (blockKey x_key) 54), x_b])), [(a64, c65)])] (Rd.of_own o74) rfl ⟨⟨⟨(Rd.of_own o80), s32⟩, trivial⟩, ⟨⟨⟨(Rd.of_own o79), s67⟩, trivial⟩, trivial⟩⟩ (by first | decide | exact Nat.le_of_ble_eq_true rfl)) (by first | decide | exact Nat.le_of_ble_eq_true rfl)) (by first | omega | (rw [joinB_l2]; omega) | (rw [joinB_l2]; simp only [List.length_cons, List.length_nil, maskB_len]; omega) | (rw [joinB_l3]; simp only [List.length_cons, List.length_nil, maskB_len]; omega) | (simp only [joinB, List.flatten_cons, List.flatten_nil, List.length_append, List.length_nil, maskB_len]; omega))) ?_
 rintro _ w8 ⟨k81, ⟨a82, c83, rfl, o84, s85, ap87⟩⟩
 have m88 := m77.extk k81
 refine cl wN (C_impl_Sha w8 _ (joinB [(maskB (blockKey x_key) 92), (sha (joinB [(maskB (blockKey x_key) 54), x_b]))]) (mR_22 (Rd.of_own o84) s85)) ?_
 rintro _ w9 ⟨k89, ⟨a90, c91, rfl, o92, s93, ap95⟩⟩
 have m96 := m88.extk k89
 have q97 := sha_le (joinB [(maskB (blockKey x_key) 92), (sha (joinB [(maskB (blockKey x_key) 54), x_b]))])
 refine aw (vs a90 (sha (joinB [(maskB (blockKey x_key) 92), (sha (joinB [(maskB (blockKey x_key) 54), x_b]))])).length c91) ?_
 refine n3 ?_
 refine rt (vs a90 (sha (joinB [(maskB (blockKey x_key) 92), (sha (joinB [(maskB (blockKey x_key) 54), x_b]))])).length c91) ?_
 refine ⟨m96.keep0, ?_⟩
 have hF98 : hmac x_key x_b = (sha (joinB [(maskB (blockKey x_key) 92), (sha (joinB [(maskB (blockKey x_key) 54), x_b]))])) := by first | exact hmac_f (by omega) | exact hmac_g (by omega) (by omega) | exact hmac_i (by omega) (by omega)
 rw [hF98]
 exact ⟨_, _, rfl, (own_lo o92 (z8 k19 k28 k38 k48 k55 k63 k73 k81)), s93, ⟨trivial, trivial⟩⟩

theorem C_impl_Expand (w0 : World) (v_x_prk : Value) (x_prk : List UInt8) (r_x_prk : R_22 w0 v_x_prk x_prk) (v_x_info : Value) (x_info : List UInt8) (r_x_info : R_22 w0 v_x_info x_info) (x_n : Int)  : Fn Try.prog 92 #[v_x_prk, v_x_info, (vi x_n)] w0 (fun v w' => Keep w0 w' ∧ O_22_4 w' w0.heap.size v (expand x_prk x_info x_n)) := by
 obtain ⟨a1, c2, rfl, r3, s4⟩ := r_x_prk
 obtain ⟨a6, c7, rfl, r8, s9⟩ := r_x_info
 refine fn_of (n := 48) (l := [(vs a1 x_prk.length c2), (vs a6 x_info.length c7), (vi x_n), U, U, U, U, U, U, U, U, U, U, U, U, U, U, U, U, U, U, U, U, U, U, U, U, U, U, U, U, U, U, U, U, U, U, U, U, U, U, U, U, U, U, U, U, U]) Try.func92 rfl rfl (by kernel_rfl) rfl ?_
 refine sr ?_
 refine aw (vs none 0 0) ?_
 refine aw (vb false) ?_
 refine n4 ?_
 refine mw (vi x_n) ?_
 refine cl wN (C_impl_within w0 x_n 0 8160) ?_
 rintro _ w1 ⟨k11, rfl⟩
 have m12 := (Ch.base w0).extk k11
 refine pu (vb (!(F_impl_within x_n 0 8160))) wN ?_
 refine mw (vb (!(F_impl_within x_n 0 8160))) ?_
 rcases bf (F_impl_within x_n 0 8160) with h13 | h13
 ·have q112 := impl_within_f h13
  refine sk (congrArg not h13) ?_
  refine sk (congrArg not h13) ?_
  refine sk (congrArg not h13) ?_
  refine pk (vb true) wN (congrArg not h13) ?_
  refine mw (vb true) ?_
  refine sk T1 ?_
  refine sk T1 ?_
  refine sk T1 ?_
  refine pk (vb true) wN (Eq.refl true) ?_
  refine n2 ?_
  refine ct (Eq.refl true) ?_
  refine sr ?_
  refine aw (vs none 0 0) ?_
  refine aw (vb false) ?_
  refine n1 ?_
  refine ret_2 (.inl rfl) (vs none 0 0) (vb false) rfl rfl rfl ?_
  refine ⟨m12.keep0, ?_⟩
  have hF113 : expand x_prk x_info x_n = ([], false) := by first | exact expand_f (by omega) | exact expand_t (by omega) (by omega) (by omega) (by omega) (by omega) (by omega)
  rw [hF113]
  exact ⟨_, _, rfl, (by first | exact own_nil _ _ _ _ | exact OLv.nil _ _ _ _), (by simp), ⟨trivial, trivial⟩⟩
 have q14 := impl_within_t h13
 refine mv (vs a6 x_info.length c7) (wS (congrArg not h13)) ?_
 refine ln (wS (congrArg not h13)) slTy_22 (r8.from0 m12) ?_
 refine pu (vb (decide (100 < (x_info.length : Int)))) (wS (congrArg not h13)) ?_
 refine pf (vb (decide (100 < (x_info.length : Int)))) wN (congrArg not h13) ?_
 refine mw (vb (decide (100 < (x_info.length : Int)))) ?_
 rcases bt (decide (100 < (x_info.length : Int))) with h15 | h15
 ·have q16 := of_decide_eq_true h15
  refine sk h15 ?_
  refine sk h15 ?_
  refine sk h15 ?_
  refine pk (vb true) wN h15 ?_
  refine n2 ?_
  refine ct (Eq.refl true) ?_
  refine sr ?_
  refine aw (vs none 0 0) ?_
  refine aw (vb false) ?_
  refine n1 ?_
  refine ret_2 (.inl rfl) (vs none 0 0) (vb false) rfl rfl rfl ?_
  refine ⟨m12.keep0, ?_⟩
  have hF17 : expand x_prk x_info x_n = ([], false) := by first | exact expand_f (by omega) | exact expand_t (by omega) (by omega) (by omega) (by omega) (by omega) (by omega)
  rw [hF17]
  exact ⟨_, _, rfl, (by first | exact own_nil _ _ _ _ | exact OLv.nil _ _ _ _), (by simp), ⟨trivial, trivial⟩⟩
 have q18 := of_decide_eq_false h15
 refine mv (vs a1 x_prk.length c2) (wS h15) ?_
 refine ln (wS h15) slTy_22 (r3.from0 m12) ?_
 refine pu (vb (decide (1048576 < (x_prk.length : Int)))) (wS h15) ?_
 refine pf (vb (decide (1048576 < (x_prk.length : Int)))) wN h15 ?_
 refine n2 ?_
 rcases bt (decide (1048576 < (x_prk.length : Int))) with h19 | h19
 ·have q20 := of_decide_eq_true h19
  refine ct h19 ?_
  refine sr ?_
  refine aw (vs none 0 0) ?_
  refine aw (vb false) ?_
  refine n1 ?_
  refine ret_2 (.inl rfl) (vs none 0 0) (vb false) rfl rfl rfl ?_
  refine ⟨m12.keep0, ?_⟩
  have hF21 : expand x_prk x_info x_n = ([], false) := by first | exact expand_f (by omega) | exact expand_t (by omega) (by omega) (by omega) (by omega) (by omega) (by omega)
  rw [hF21]
  exact ⟨_, _, rfl, (by first | exact own_nil _ _ _ _ | exact OLv.nil _ _ _ _), (by simp), ⟨trivial, trivial⟩⟩
 have q22 := of_decide_eq_false h19
 refine cf h19 ?_
 refine y1 ?_
 refine wl_lit0 wN rfl rfl slTy_22 (fun w => by kernel_rfl) ?_
 intro a23 w2 k24 o25
 have m26 := m12.extk k24
 refine aw (vs (some a23) 0 0) ?_
 refine nx ?_
 refine wl_lit0 wN rfl rfl slTy_22 (fun w => by kernel_rfl) ?_
 intro a28 w3 k29 o30
 have m31 := m26.extk k29
 refine aw (vs (some a28) 0 0) ?_
 refine n4 ?_
 refine aw (vi 1) ?_
 refine wl_nil <| wq_then <| wc_block ?_
 have o34 := (own_kp o25 k29)
 have hE35 : ([] : List UInt8) = (expN x_prk x_info 0).1 := by rfl
 have hN36 : 0 = ((expN x_prk x_info 0).1).length := by rw [← hE35]; try (first | rfl | simp only [List.length_set] | simp)
 have hE37 : ([] : List UInt8) = (expN x_prk x_info 0).2 := by rfl
 have hN38 : 0 = ((expN x_prk x_info 0).2).length := by rw [← hE37]; try (first | rfl | simp only [List.length_set] | simp)
 refine wc_loopQ (fun e => [(vs a1 x_prk.length c2), (vs a6 x_info.length c7), (vi x_n), e 3, e 4, e 5, (vs none 0 0), (vb false), (.slice (some a23) ((expN x_prk x_info 0).1).length 0), (.slice (some a28) ((expN x_prk x_info 0).2).length 0), (vi (((0 : Nat) : Int) + 1)), e 11, e 12, e 13, e 14, e 15, e 16, e 17, e 18, e 19, e 20, e 21, e 22, e 23, e 24, e 25, e 26, e 27, e 28, e 29, e 30, e 31, e 32, e 33, e 34, e 35, e 36, e 37, e 38, e 39, e 40, e 41, e 42, e 43, U, U, U, U]) rfl ⟨rfl, rfl, rfl, rfl, rfl, rfl, rfl, rfl, rfl, rfl, (congrArg (Value.int .i64) (show (1 : Int) = (((0 : Nat) : Int) + 1) by omega)), rfl, rfl, rfl, rfl, rfl, rfl, rfl, rfl, rfl, rfl, rfl, rfl, rfl, rfl, rfl, rfl, rfl, rfl, rfl, rfl, rfl, rfl, rfl, rfl, rfl, rfl, rfl, rfl, rfl, rfl, rfl, rfl, rfl, rfl, rfl, rfl, rfl, trivial⟩ (fun e' w' => ∃ (k : Nat) (u33 : Nat → Value) (a8x : Option Addr) (c8x : Nat) (a9x : Option Addr) (c9x : Nat), e' = lst [(vs a1 x_prk.length c2), (vs a6 x_info.length c7), (vi x_n), (u33 0), (u33 1), (u33 2), (vs none 0 0), (vb false), (.slice a8x ((expN x_prk x_info k).1).length c8x), (.slice a9x ((expN x_prk x_info k).2).length c9x), (vi (((k : Nat) : Int) + 1)), (u33 3), (u33 4), (u33 5), (u33 6), (u33 7), (u33 8), (u33 9), (u33 10), (u33 11), (u33 12), (u33 13), (u33 14), (u33 15), (u33 16), (u33 17), (u33 18), (u33 19), (u33 20), (u33 21), (u33 22), (u33 23), (u33 24), (u33 25), (u33 26), (u33 27), (u33 28), (u33 29), (u33 30), (u33 31), (u33 32), (u33 33), (u33 34), (u33 35), U, U, U, U] ∧ Ch (fun k => w0.heap.size ≤ k) w0 w' ∧ Ch (fun k => w1.heap.size ≤ k) w3 w' ∧ 32 * ((k : Nat) : Int) < x_n + 32 ∧ (World.ownsRow w' w1.heap.size 5 1 (.slice a8x ((expN x_prk x_info k).1).length c8x) ((expN x_prk x_info k).1).length (((expN x_prk x_info k).1).map bV) ∧ ((expN x_prk x_info k).1).length ≤ 1073741824) ∧ (World.ownsRow w' w2.heap.size 5 1 (.slice a9x ((expN x_prk x_info k).2).length c9x) ((expN x_prk x_info k).2).length (((expN x_prk x_info k).2).map bV) ∧ ((expN x_prk x_info k).2).length ≤ 1073741824)) (fun e' _ => x_n.toNat - (lenOf (e' 8))) ?_ ?_
 ·exact fun u => ⟨0, (unL [u 3, u 4, u 5, u 11, u 12, u 13, u 14, u 15, u 16, u 17, u 18, u 19, u 20, u 21, u 22, u 23, u 24, u 25, u 26, u 27, u 28, u 29, u 30, u 31, u 32, u 33, u 34, u 35, u 36, u 37, u 38, u 39, u 40, u 41, u 42, u 43]), (some a23), 0, (some a28), 0, rfl, m31, (Ch.refl (fun k => w1.heap.size ≤ k) w3), (by omega), ⟨(by rw [← hN36, ← hE35]; exact o34), (by rw [← hN36]; first | exact (by simp) | (simp only [List.length_append, List.length_take, List.length_replicate]; omega))⟩, ⟨(by rw [← hN38, ← hE37]; exact o30), (by rw [← hN38]; first | exact (by simp) | (simp only [List.length_append, List.length_take, List.length_replicate]; omega))⟩⟩
 ·rintro _ w4 ⟨k, u33, a8x, c8x, a9x, c9x, rfl, m39, k40, i41, ⟨o42, s43⟩, ⟨o44, s45⟩⟩
  have hxl := expN_len (prk := x_prk) (info := x_info) (by omega) (by omega) k
  have hxm := expN_len (prk := x_prk) (info := x_info) (by omega) (by omega) (k + 1)
  refine wc_seq <| sr ?_
  refine mw (vs a8x ((expN x_prk x_info k).1).length c8x) ?_
  refine ln wN slTy_22 (Rd.of_own o42) ?_
  refine mw (vi x_n) ?_
  refine pu (vb (decide ((((expN x_prk x_info k).1).length : Int) < x_n))) wN ?_
  refine n2 ?_
  rcases bf (decide ((((expN x_prk x_info k).1).length : Int) < x_n)) with h48 | h48
  ·have q98 := of_decide_eq_false h48
   refine cf h48 ?_
   refine wc_exit <| wq_then_exit <| wq_then_exit <| wq_blk_exit <| wq_then <| sr ?_
   refine mw (vs a8x ((expN x_prk x_info k).1).length c8x) ?_
   refine mw (vi x_n) ?_
   refine slv (((expN x_prk x_info k).1).take ((x_n).toNat)) 0 ((x_n).toNat) wN slTy_22 (Rd.of_own o42) (by first | omega | (simp only [List.length_cons, List.length_nil, List.length_replicate, List.length_append, List.length_take, List.length_set, List.length_map]; omega)) (by first | omega | (simp only [List.length_cons, List.length_nil, List.length_replicate, List.length_append, List.length_take, List.length_set, List.length_map]; omega)) (by first | rfl | (simp; done) | (rw [List.take_of_length_le (by first | (simp; done) | (simp; omega))])) rfl rfl rfl rfl (.inl ⟨rfl, rfl⟩) (.inr ⟨_, _, _, rfl, rfl, by omega⟩) ?_
   have q101 : 0 ≤ ((x_n).toNat) := (by first | omega | (simp only [List.length_cons, List.length_nil, List.length_replicate, List.length_append, List.length_take, List.length_set, List.length_map]; omega))
   have q102 : ((x_n).toNat) ≤ ((expN x_prk x_info k).1).length := (by first | omega | (simp only [List.length_cons, List.length_nil, List.length_replicate, List.length_append, List.length_take, List.length_set, List.length_map]; omega))
   refine cl wN (C_impl_clone w4 _ (((expN x_prk x_info k).1).take ((x_n).toNat)) (mR_22 (Rd.subV (x' := (((expN x_prk x_info k).1).take ((x_n).toNat))) (Rd.of_own o42) q101 q102 (by first | rfl | (simp; done) | (rw [List.take_of_length_le (by first | (simp; done) | (simp; omega))]))) (Nat.le_trans (by simp only [List.length_take, List.length_drop]; omega) s43))) ?_
   rintro _ w5 ⟨k103, ⟨a104, c105, rfl, o106, s107, ap109⟩⟩
   have m110 := m39.extk k103
   refine aw (vs a104 ((((expN x_prk x_info k).1).take ((x_n).toNat))).length c105) ?_
   refine aw (vb true) ?_
   refine n3 ?_
   refine ret_2 (.inl rfl) (vs a104 ((((expN x_prk x_info k).1).take ((x_n).toNat))).length c105) (vb true) rfl rfl rfl ?_
   refine ⟨m110.keep0, ?_⟩
   have hF111 : expand x_prk x_info x_n = (((((expN x_prk x_info k).1).take ((x_n).toNat))), true) := by first | exact expand_f (by omega) | exact expand_t (by omega) (by omega) (by omega) (by omega) (by omega) (by omega)
   rw [hF111]
   exact ⟨_, _, rfl, (own_lo o106 (z4 k11 k24 k29 k40)), s107, ⟨trivial, trivial⟩⟩
  have q49 := of_decide_eq_true h48
  refine ct h48 ?_
  refine wc_skip <| wq_then <| wc_seq <| wc_block <| sr ?_
  refine mw (vs a1 x_prk.length c2) ?_
  refine mw (vs a9x ((expN x_prk x_info k).2).length c9x) ?_
  refine mw (vs a6 x_info.length c7) ?_
  refine mw (vi (((k : Nat) : Int) + 1)) ?_
  refine wl_conv8 (((k : Nat) : Int) + 1) wN rfl rfl (by kernel_rfl) ?_
  refine wl_lit [(v8 ((by8 (((k : Nat) : Int) + 1)).toNat : Int))] wN rfl rfl slTy_22 (m := 1) rfl (by simp only [maxLen]; omega) (fun w => by kernel_rfl) ?_
  intro u50 w5 k51 o52
  obtain ⟨a53, c54, rfl⟩ := own_form o52
  have m55 := m39.extk k51
  have o57 : w5.ownsRow w4.heap.size 5 1 (.slice a53 (([(by8 (((k : Nat) : Int) + 1))] : List UInt8) : List UInt8).length c54) (([(by8 (((k : Nat) : Int) + 1))] : List UInt8) : List UInt8).length ((([(by8 (((k : Nat) : Int) + 1))] : List UInt8) : List UInt8).map bV) := o52
  refine wl_lit [(vs a9x ((expN x_prk x_info k).2).length c9x), (vs a6 x_info.length c7), (vs a53 ([(by8 (((k : Nat) : Int) + 1))] : List UInt8).length c54)] wN rfl rfl slTy_40 (m := 3) rfl (by simp only [maxLen]; omega) (fun w => by kernel_rfl) ?_
  intro u58 w6 k59 o60
  obtain ⟨a61, c62, rfl⟩ := own_form o60
  have m63 := m55.extk k59
  have o65 := (own_kp o57 k59)
  have o66 := (own_kp (own_kp o44 k51) k59)
  refine cl wN (C_impl_joined w6 _ [((expN x_prk x_info k).2), x_info, ([(by8 (((k : Nat) : Int) + 1))] : List UInt8)] (mR_40 (RLv.mk (L := LT_22) [(((expN x_prk x_info k).2), [(a9x, c9x)]), (x_info, [(a6, c7)]), (([(by8 (((k : Nat) : Int) + 1))] : List UInt8), [(a53, c54)])] (Rd.of_own o60) rfl ⟨⟨⟨(Rd.of_own o66), s45⟩, trivial⟩, ⟨⟨⟨(r8.from0 m63), s9⟩, trivial⟩, ⟨⟨⟨(Rd.of_own o65), (by simp)⟩, trivial⟩, trivial⟩⟩⟩ (by first | decide | exact Nat.le_of_ble_eq_true rfl)) (by first | decide | exact Nat.le_of_ble_eq_true rfl)) (by first | omega | (rw [joinB_l2]; omega) | (rw [joinB_l2]; simp only [List.length_cons, List.length_nil, maskB_len]; omega) | (rw [joinB_l3]; simp only [List.length_cons, List.length_nil, maskB_len]; omega) | (simp only [joinB, List.flatten_cons, List.flatten_nil, List.length_append, List.length_nil, maskB_len]; omega))) ?_
  rintro _ w7 ⟨k67, ⟨a68, c69, rfl, o70, s71, ap73⟩⟩
  have m74 := m63.extk k67
  refine cl wN (C_impl_Hmac w7 _ x_prk (mR_22 (r3.from0 m74) s4) _ (joinB [((expN x_prk x_info k).2), x_info, ([(by8 (((k : Nat) : Int) + 1))] : List UInt8)]) (mR_22 (Rd.of_own o70) s71)) ?_
  rintro _ w8 ⟨k75, ⟨a76, c77, rfl, o78, s79, ap81⟩⟩
  have m82 := m74.extk k75
  have q83 := hmac_le x_prk (joinB [((expN x_prk x_info k).2), x_info, ([(by8 (((k : Nat) : Int) + 1))] : List UInt8)])
  refine aw (vs a76 (hmac x_prk (joinB [((expN x_prk x_info k).2), x_info, ([(by8 (((k : Nat) : Int) + 1))] : List UInt8)])).length c77) ?_
  refine wl_nil <| wq_then <| wc_region ?_
  refine mw (vs a8x ((expN x_prk x_info k).1).length c8x) ?_
  refine mw (vs a76 (hmac x_prk (joinB [((expN x_prk x_info k).2), x_info, ([(by8 (((k : Nat) : Int) + 1))] : List UInt8)])).length c77) ?_
  have o84 := (own_kp (own_kp (own_kp (own_kp o42 k51) k59) k67) k75)
  refine wl_append (v := (vs a8x ((expN x_prk x_info k).1).length c8x)) wN rfl rfl rfl slTy_22 rfl rfl o84 (Rd.of_own o78) (all_bV _) (by first | (simp only [List.length_append, List.length_cons, List.length_nil, List.length_replicate, List.length_take, List.length_drop]; omega) | omega) (by simp only [maxLen]; first | (simp only [List.length_append, List.length_cons, List.length_nil, List.length_replicate, List.length_take, List.length_drop]; omega) | omega) (z7 k24 k29 k40 k51 k59 k67 k75) ?_
  intro u85 w9 k86 o87 j88
  have o91 : w9.ownsRow w1.heap.size 5 1 u85 ((((expN x_prk x_info k).1) ++ (hmac x_prk (joinB [((expN x_prk x_info k).2), x_info, ([(by8 (((k : Nat) : Int) + 1))] : List UInt8)]))) : List UInt8).length (((((expN x_prk x_info k).1) ++ (hmac x_prk (joinB [((expN x_prk x_info k).2), x_info, ([(by8 (((k : Nat) : Int) + 1))] : List UInt8)]))) : List UInt8).map bV) := by simpa [Nat.add_assoc] using o87
  obtain ⟨a89, c90, rfl⟩ := own_form o91
  have m92 := m82.ext k86 (fun k hk => Nat.le_trans k11.size (own_lt o42 k hk).1)
  have s94 : (((expN x_prk x_info k).1) ++ (hmac x_prk (joinB [((expN x_prk x_info k).2), x_info, ([(by8 (((k : Nat) : Int) + 1))] : List UInt8)]))).length ≤ 1073741824 := by first | (simp only [List.length_append, List.length_cons, List.length_nil, List.length_replicate, List.length_take, List.length_drop]; omega) | omega | assumption
  refine aw (vs a89 (((expN x_prk x_info k).1) ++ (hmac x_prk (joinB [((expN x_prk x_info k).2), x_info, ([(by8 (((k : Nat) : Int) + 1))] : List UInt8)]))).length c90) ?_
  refine wl_nil <| wq_blk_normal <| wq_then <| wc_region ?_
  refine mw (vi (((k : Nat) : Int) + 1)) ?_
  refine ar ((((k : Nat) : Int) + 1) + 1) wN ?_
  refine aw (vi ((((k : Nat) : Int) + 1) + 1)) ?_
  refine wl_nil ?_
  have hE95 : ((((expN x_prk x_info k).1) ++ (hmac x_prk (joinB [((expN x_prk x_info k).2), x_info, ([(by8 (((k : Nat) : Int) + 1))] : List UInt8)]))) : List UInt8) = (expN x_prk x_info (k + 1)).1 := by exact expN_1 _ _ _ (by simp [joinB])
  have o96 := (own_ch o78 k86 (fun g hg hlt hk => by have h1 := (own_lt o78 g hg).1; have h2 := (own_lt o42 g hk).2; have h3 := (z3 k51 k59 k67); omega))
  have hE97 : ((hmac x_prk (joinB [((expN x_prk x_info k).2), x_info, ([(by8 (((k : Nat) : Int) + 1))] : List UInt8)])) : List UInt8) = (expN x_prk x_info (k + 1)).2 := by exact expN_2 _ _ _ (by simp [joinB])
  refine wq_loopQ (w0 := w4) (fun e => [(vs a1 x_prk.length c2), (vs a6 x_info.length c7), (vi x_n), e 3, e 4, e 5, (vs none 0 0), (vb false), (.slice a89 ((expN x_prk x_info (k + 1)).1).length c90), (.slice a76 ((expN x_prk x_info (k + 1)).2).length c77), (vi ((((k + 1) : Nat) : Int) + 1)), e 11, e 12, e 13, e 14, e 15, e 16, e 17, e 18, e 19, e 20, e 21, e 22, e 23, e 24, e 25, e 26, e 27, e 28, e 29, e 30, e 31, e 32, e 33, e 34, e 35, e 36, e 37, e 38, e 39, e 40, e 41, e 42, e 43, U, U, U, U]) rfl ?_ ?_ ?_
  · exact ⟨rfl, rfl, rfl, rfl, rfl, rfl, rfl, rfl, (congrArg (fun l : List UInt8 => Value.slice a89 l.length c90) hE95), (congrArg (fun l : List UInt8 => Value.slice a76 l.length c77) hE97), (congrArg (Value.int .i64) (show (((((k : Nat) : Int) + 1) + 1) : Int) = ((((k + 1) : Nat) : Int) + 1) by omega)), rfl, rfl, rfl, rfl, rfl, rfl, rfl, rfl, rfl, rfl, rfl, rfl, rfl, rfl, rfl, rfl, rfl, rfl, rfl, rfl, rfl, rfl, rfl, rfl, rfl, rfl, rfl, rfl, rfl, rfl, rfl, rfl, rfl, rfl, rfl, rfl, rfl, trivial⟩
  · exact fun u => ⟨(k + 1), (unL [u 3, u 4, u 5, u 11, u 12, u 13, u 14, u 15, u 16, u 17, u 18, u 19, u 20, u 21, u 22, u 23, u 24, u 25, u 26, u 27, u 28, u 29, u 30, u 31, u 32, u 33, u 34, u 35, u 36, u 37, u 38, u 39, u 40, u 41, u 42, u 43]), a89, c90, a76, c77, rfl, m92, (((((((Ch.refl (fun k => w1.heap.size ≤ k) w3).ext k40 (fun k hk => hk)).extk k51).extk k59).extk k67).extk k75).ext k86 (fun k hk => Nat.le_trans (Nat.le_refl w1.heap.size) (own_lt o42 k hk).1)), (by omega), (hE95 ▸ ⟨o91, s94⟩), (hE97 ▸ ⟨(own_lo o96 (z5 k29 k40 k51 k59 k67)), s79⟩)⟩
  · show x_n.toNat - ((expN x_prk x_info (k + 1)).1).length < x_n.toNat - ((expN x_prk x_info k).1).length; omega

theorem C_impl_Derive (w0 : World) (v_x_key : Value) (x_key : List UInt8) (r_x_key : R_22 w0 v_x_key x_key) (v_x_label : Value) (x_label : ByteArray) (r_x_label : R_9 w0 v_x_label x_label) (pre0 : (strB x_label).length ≤ 100) : Fn Try.prog 57 #[v_x_key, v_x_label] w0 (fun v w' => Keep w0 w' ∧ O_22 w' w0.heap.size v (derive x_key x_label)) := by
 obtain ⟨a1, c2, rfl, r3, s4⟩ := r_x_key
 obtain rfl := r_x_label
 refine fn_of (n := 15) (l := [(vs a1 x_key.length c2), (.string x_label), U, U, U, U, U, U, U, U, U, U, U, U, U]) Try.func57 rfl rfl (by kernel_rfl) rfl ?_
 refine sr ?_
 refine aw (vs none 0 0) ?_
 refine nx ?_
 refine mw (vs a1 x_key.length c2) ?_
 refine mw (.string x_label) ?_
 refine wl_s2b x_label wN rfl rfl rfl rfl Try.underlying9 Try.underlying22 Try.underlying5 (by first | omega | (simp only [strB_mk]; decide)) ?_
 intro a6 c7 w1 k8 r9
 have m10 := (Ch.base w0).extk k8
 refine cl wN (C_impl_Expand w1 _ x_key (mR_22 (r3.from0 m10) s4) _ (strB x_label) (mR_22 r9 (by first | omega | (simp only [strB_mk]; decide))) 32) ?_
 rintro _ w2 ⟨k12, ⟨a13, c14, rfl, o15, s16, ap18⟩⟩
 have m19 := m10.extk k12
 have q20 := expand_le x_key (strB x_label) 32
 refine mw (.tuple #[(vs a13 ((expand x_key (strB x_label) 32).1).length c14), (vb ((expand x_key (strB x_label) 32).2))]) ?_
 refine pu (vs a13 ((expand x_key (strB x_label) 32).1).length c14) wN ?_
 refine pu (vb ((expand x_key (strB x_label) 32).2)) wN ?_
 refine aw (vs a13 ((expand x_key (strB x_label) 32).1).length c14) ?_
 refine aw (vb ((expand x_key (strB x_label) 32).2)) ?_
 refine nx ?_
 refine mw (vs a13 ((expand x_key (strB x_label) 32).1).length c14) ?_
 refine aw (vs a13 ((expand x_key (strB x_label) 32).1).length c14) ?_
 refine n3 ?_
 refine rt (vs a13 ((expand x_key (strB x_label) 32).1).length c14) ?_
 refine ⟨m19.keep0, ?_⟩
 have hF21 : derive x_key x_label = (expand x_key (strB x_label) 32).1 := by rfl
 rw [hF21]
 exact ⟨_, _, rfl, (own_lo o15 k8.size), s16, ⟨trivial, trivial⟩⟩

def F_bytes_Equal (x_a : List UInt8) (x_b : List UInt8) : (Bool) := (eqS (ByteArray.mk x_a.toArray) (ByteArray.mk x_b.toArray))
theorem C_bytes_Equal (w0 : World) (v_x_a : Value) (x_a : List UInt8) (r_x_a : R_22 w0 v_x_a x_a) (v_x_b : Value) (x_b : List UInt8) (r_x_b : R_22 w0 v_x_b x_b)  : Fn Try.prog 49 #[v_x_a, v_x_b] w0 (fun v w' => Keep w0 w' ∧ O_4 w' w0.heap.size v (F_bytes_Equal x_a x_b)) := by
 obtain ⟨a1, c2, rfl, r3, s4⟩ := r_x_a
 obtain ⟨a6, c7, rfl, r8, s9⟩ := r_x_b
 refine fn_of (n := 10) (l := [(vs a1 x_a.length c2), (vs a6 x_b.length c7), U, U, U, U, U, U, U, U]) Try.func49 rfl rfl (by kernel_rfl) rfl ?_
 refine sr ?_
 refine aw (vb false) ?_
 refine nx ?_
 refine mw (vs a1 x_a.length c2) ?_
 refine wl_b2s x_a wN rfl rfl rfl rfl Try.underlying22 Try.underlying5 Try.underlying9 r3 ?_
 refine mw (vs a6 x_b.length c7) ?_
 refine wl_b2s x_b wN rfl rfl rfl rfl Try.underlying22 Try.underlying5 Try.underlying9 r8 ?_
 refine pu (vb (eqS (ByteArray.mk x_a.toArray) (ByteArray.mk x_b.toArray))) wN ?_
 refine aw (vb (eqS (ByteArray.mk x_a.toArray) (ByteArray.mk x_b.toArray))) ?_
 refine n3 ?_
 refine rt (vb (eqS (ByteArray.mk x_a.toArray) (ByteArray.mk x_b.toArray))) ?_
 refine ⟨Ch.refl _ _, ?_⟩
 have hF11 : F_bytes_Equal x_a x_b = (eqS (ByteArray.mk x_a.toArray) (ByteArray.mk x_b.toArray)) := by rfl
 rw [hF11]
 exact rfl

theorem C_laws_eqByteS (w0 : World) (v_x_a : Value) (x_a : List UInt8) (r_x_a : R_22 w0 v_x_a x_a) (v_x_b : Value) (x_b : List UInt8) (r_x_b : R_22 w0 v_x_b x_b)  : Fn Try.prog 13 #[v_x_a, v_x_b] w0 (fun v w' => Keep w0 w' ∧ O_4 w' w0.heap.size v (eqB x_a x_b)) := by
 obtain ⟨a1, c2, rfl, r3, s4⟩ := r_x_a
 obtain ⟨a6, c7, rfl, r8, s9⟩ := r_x_b
 refine fn_of (n := 26) (l := [(vs a1 x_a.length c2), (vs a6 x_b.length c7), U, U, U, U, U, U, U, U, U, U, U, U, U, U, U, U, U, U, U, U, U, U, U, U]) Try.func13 rfl rfl (by kernel_rfl) rfl ?_
 refine sr ?_
 refine aw (vb false) ?_
 refine n4 ?_
 refine mw (vs a1 x_a.length c2) ?_
 refine ln wN slTy_22 r3 ?_
 refine mw (vs a6 x_b.length c7) ?_
 refine ln wN slTy_22 r8 ?_
 refine pu (vb (!(decide ((x_a.length : Int) = (x_b.length : Int))))) wN ?_
 refine n2 ?_
 rcases bf (decide ((x_a.length : Int) = (x_b.length : Int))) with h11 | h11
 ·have q44 := of_decide_eq_false h11
  refine ct (congrArg not h11) ?_
  refine sr ?_
  refine aw (vb false) ?_
  refine n1 ?_
  refine rt (vb false) ?_
  refine ⟨Ch.refl _ _, ?_⟩
  have hF45 : eqB x_a x_b = false := by first | exact eqB_len (by assumption) | exact eqB_el (by assumption) | exact eqB_all (by assumption) (by omega) (by omega)
  rw [hF45]
  exact rfl
 have q12 := of_decide_eq_true h11
 refine cf (congrArg not h11) ?_
 refine y2 ?_
 refine aw (vi 0) ?_
 refine wl_nil <| wq_then <| wc_block ?_
 refine wc_loopQ (fun e => [(vs a1 x_a.length c2), (vs a6 x_b.length c7), e 2, e 3, e 4, (vi ((0 : Nat) : Int)), e 6, e 7, e 8, e 9, e 10, e 11, e 12, e 13, e 14, e 15, e 16, e 17, e 18, e 19, e 20, e 21, e 22, e 23, e 24, e 25]) rfl ⟨rfl, rfl, rfl, rfl, rfl, (congrArg (Value.int .i64) (show (0 : Int) = ((0 : Nat) : Int) by omega)), rfl, rfl, rfl, rfl, rfl, rfl, rfl, rfl, rfl, rfl, rfl, rfl, rfl, rfl, rfl, rfl, rfl, rfl, rfl, rfl, trivial⟩ (fun e' w' => ∃ (k : Nat) (u13 : Nat → Value), e' = lst [(vs a1 x_a.length c2), (vs a6 x_b.length c7), (u13 0), (u13 1), (u13 2), (vi ((k : Nat) : Int)), (u13 3), (u13 4), (u13 5), (u13 6), (u13 7), (u13 8), (u13 9), (u13 10), (u13 11), (u13 12), (u13 13), (u13 14), (u13 15), (u13 16), (u13 17), (u13 18), (u13 19), (u13 20), (u13 21), (u13 22)] ∧ Ch (fun k => w0.heap.size ≤ k) w0 w' ∧ Ch (fun k => w0.heap.size ≤ k) w0 w' ∧ k ≤ x_a.length ∧ x_a.take k = x_b.take k) (fun e' _ => x_a.length - ((intOf (e' 5))).toNat) ?_ ?_
 ·exact fun u => ⟨0, (unL [u 2, u 3, u 4, u 6, u 7, u 8, u 9, u 10, u 11, u 12, u 13, u 14, u 15, u 16, u 17, u 18, u 19, u 20, u 21, u 22, u 23, u 24, u 25]), rfl, (Ch.base w0), (Ch.refl (fun k => w0.heap.size ≤ k) w0), (by omega), (by first | rfl | exact eqB_next (by assumption) (by omega) (by omega) (by assumption))⟩
 ·rintro _ w1 ⟨k, u13, rfl, m14, k15, i16, i17⟩
  refine wc_seq <| sr ?_
  refine mw (vi ((k : Nat) : Int)) ?_
  refine mw (vs a1 x_a.length c2) ?_
  refine ln wN slTy_22 (r3.from0 m14) ?_
  refine pu (vb (decide (((k : Nat) : Int) < (x_a.length : Int)))) wN ?_
  refine n2 ?_
  rcases bf (decide (((k : Nat) : Int) < (x_a.length : Int))) with h18 | h18
  ·have q42 := of_decide_eq_false h18
   refine cf h18 ?_
   refine wc_exit <| wq_then_exit <| wq_then_exit <| wq_blk_exit <| wq_then <| sr ?_
   refine aw (vb true) ?_
   refine n3 ?_
   refine rt (vb true) ?_
   refine ⟨m14.keep0, ?_⟩
   have hF43 : eqB x_a x_b = true := by first | exact eqB_len (by assumption) | exact eqB_el (by assumption) | exact eqB_all (by assumption) (by omega) (by omega)
   rw [hF43]
   exact rfl
  have q19 := of_decide_eq_true h18
  refine ct h18 ?_
  refine wc_skip <| wq_then <| wc_seq <| wc_block <| wc_seq ?_
  refine wc_drawT ([(17, [], [], (fun _ v _ => v = (vs a1 x_a.length c2))), (18, [], [], (fun _ v _ => v = (vi ((k : Nat) : Int)))), (19, [], [0, 1], (fun _ v _ => v = (ve (vs a1 x_a.length c2) ((((k : Nat) : Int)).toNat * 1)))), (20, [], [0, 1, 2], (fun _ v _ => v = (v8 ((x_a.getD k 0).toNat : Int)))), (21, [], [], (fun _ v _ => v = (vs a6 x_b.length c7))), (22, [], [], (fun _ v _ => v = (vi ((k : Nat) : Int)))), (23, [], [4, 5], (fun _ v _ => v = (ve (vs a6 x_b.length c7) ((((k : Nat) : Int)).toNat * 1)))), (24, [], [4, 5, 6], (fun _ v _ => v = (v8 ((x_b.getD k 0).toNat : Int))))] : GV) (fun _ w' => Keep w1 w') [] mixed rfl (by kernel_rfl) (by kernel_rfl) ?_ (fun _ _ h => h) (fun _ _ _ _ h _ k => h.trans k) trivial ?_ ?_ ?_
  ·exact ⟨(fun _ _ _ _ h _ => h), (fun _ _ _ _ _ h => h), ⟨(fun _ _ _ _ h _ => h), (fun _ _ _ _ _ h => h), ⟨(fun _ _ _ _ h _ => h), (fun _ _ _ _ _ h => h), ⟨(fun _ _ _ _ h _ => h), (fun _ _ _ _ _ h => h), ⟨(fun _ _ _ _ h _ => h), (fun _ _ _ _ _ h => h), ⟨(fun _ _ _ _ h _ => h), (fun _ _ _ _ _ h => h), ⟨(fun _ _ _ _ h _ => h), (fun _ _ _ _ _ h => h), ⟨(fun _ _ _ _ h _ => h), (fun _ _ _ _ _ h => h), trivial⟩⟩⟩⟩⟩⟩⟩⟩
  ·exact trivial
  ·refine ⟨?_, ⟨?_, ⟨?_, ⟨?_, ⟨?_, ⟨?_, ⟨?_, ⟨?_, trivial⟩⟩⟩⟩⟩⟩⟩⟩
   ·intro _ w2 k20 _
    have m21 := m14.extk k20
    rintro _ _ _ _ _ _ _ _
    show WL _ _ _ _ _ _ _
    refine mw (vs a1 x_a.length c2) ?_
    exact f1
   ·intro _ w2 k22 _
    have m23 := m14.extk k22
    rintro _ _ _ _ _ _ _ _
    show WL _ _ _ _ _ _ _
    refine mw (vi ((k : Nat) : Int)) ?_
    exact f1
   ·intro _ w2 k24 _
    have m25 := m14.extk k24
    rintro _ rfl _ rfl _ _ _ _ _ _
    show WL _ _ _ _ _ _ _
    refine wl_index (v := (vs a1 x_a.length c2)) wN ((k : Nat) : Int) rfl rfl rfl slTy_22 rfl rfl (r3.from0 m25) (by first | omega | (simp only [List.length_cons, List.length_nil, List.length_replicate, List.length_append, List.length_take, List.length_set, List.length_map]; omega)) (by first | omega | (simp only [List.length_cons, List.length_nil, List.length_replicate, List.length_append, List.length_take, List.length_set, List.length_map]; omega)) ?_
    exact f1
   ·intro _ w2 k26 _
    have m27 := m14.extk k26
    rintro _ rfl _ rfl _ rfl _ _ _ _ _
    show WL _ _ _ _ _ _ _
    refine wl_loadE (bV (x_a.getD k 0)) wN rfl rfl rfl rfl isAgg_5 (r3.from0 m27) (bget (by simp) (by first | omega | (simp only [List.length_cons, List.length_nil, List.length_replicate, List.length_append, List.length_take, List.length_set, List.length_map]; omega))) ?_
    exact f1
   ·intro _ w2 k28 _
    have m29 := m14.extk k28
    rintro _ _ _ _ _ _ _ _
    show WL _ _ _ _ _ _ _
    refine mw (vs a6 x_b.length c7) ?_
    exact f1
   ·intro _ w2 k30 _
    have m31 := m14.extk k30
    rintro _ _ _ _ _ _ _ _
    show WL _ _ _ _ _ _ _
    refine mw (vi ((k : Nat) : Int)) ?_
    exact f1
   ·intro _ w2 k32 _
    have m33 := m14.extk k32
    rintro _ _ _ _ _ rfl _ rfl _ _
    show WL _ _ _ _ _ _ _
    refine wl_index (v := (vs a6 x_b.length c7)) wN ((k : Nat) : Int) rfl rfl rfl slTy_22 rfl rfl (r8.from0 m33) (by first | omega | (simp only [List.length_cons, List.length_nil, List.length_replicate, List.length_append, List.length_take, List.length_set, List.length_map]; omega)) (by first | omega | (simp only [List.length_cons, List.length_nil, List.length_replicate, List.length_append, List.length_take, List.length_set, List.length_map]; omega)) ?_
    exact f1
   ·intro _ w2 k34 _
    have m35 := m14.extk k34
    rintro _ _ _ _ _ rfl _ rfl _ rfl _
    show WL _ _ _ _ _ _ _
    refine wl_loadE (bV (x_b.getD k 0)) wN rfl rfl rfl rfl isAgg_5 (r8.from0 m35) (bget (by simp) (by first | omega | (simp only [List.length_cons, List.length_nil, List.length_replicate, List.length_append, List.length_take, List.length_set, List.length_map]; omega))) ?_
    exact f1
  ·intro _ w2 k36
   have m37 := m14.extk k36
   rintro _ rfl _ rfl _ rfl _ rfl _ rfl _ rfl _ rfl _ rfl
   show WL _ _ _ _ _ _ _
   refine pu (vb (!(decide (((x_a.getD k 0).toNat : Int) = ((x_b.getD k 0).toNat : Int))))) wN ?_
   refine n2 ?_
   rcases bf (decide (((x_a.getD k 0).toNat : Int) = ((x_b.getD k 0).toNat : Int))) with h38 | h38
   ·have q40 := of_decide_eq_false h38
    refine ct (congrArg not h38) ?_
    refine sr ?_
    refine aw (vb false) ?_
    refine wl_nil <| wq_then <| wc_ret <| wq_blk_ret <| wq_then_ret <| wq_then_ret <| wq_blk_ret <| wq_then_ret ?_
    refine rt (vb false) ?_
    refine ⟨m37.keep0, ?_⟩
    have hF41 : eqB x_a x_b = false := by first | exact eqB_len (by assumption) | exact eqB_el (by assumption) | exact eqB_all (by assumption) (by omega) (by omega)
    rw [hF41]
    exact rfl
   have q39 := of_decide_eq_true h38
   refine cf (congrArg not h38) ?_
   refine wc_skip <| wq_blk_normal <| wq_then <| wc_region ?_
   refine mw (vi ((k : Nat) : Int)) ?_
   refine ar (((k : Nat) : Int) + 1) wN ?_
   refine aw (vi (((k : Nat) : Int) + 1)) ?_
   refine wl_nil ?_
   refine wq_loopQ (w0 := w1) (fun e => [(vs a1 x_a.length c2), (vs a6 x_b.length c7), e 2, e 3, e 4, (vi (((k + 1) : Nat) : Int)), e 6, e 7, e 8, e 9, e 10, e 11, e 12, e 13, e 14, e 15, e 16, e 17, e 18, e 19, e 20, e 21, e 22, e 23, e 24, e 25]) rfl ?_ ?_ ?_
   · exact ⟨rfl, rfl, rfl, rfl, rfl, (congrArg (Value.int .i64) (show ((((k : Nat) : Int) + 1) : Int) = (((k + 1) : Nat) : Int) by omega)), rfl, rfl, rfl, rfl, rfl, rfl, rfl, rfl, rfl, rfl, rfl, rfl, rfl, rfl, rfl, rfl, rfl, rfl, rfl, rfl, trivial⟩
   · exact fun u => ⟨(k + 1), (unL [u 2, u 3, u 4, u 6, u 7, u 8, u 9, u 10, u 11, u 12, u 13, u 14, u 15, u 16, u 17, u 18, u 19, u 20, u 21, u 22, u 23, u 24, u 25]), rfl, m37, (((Ch.refl (fun k => w0.heap.size ≤ k) w0).ext k15 (fun k hk => hk)).extk k36), (by omega), (by first | rfl | exact eqB_next (by assumption) (by omega) (by omega) (by assumption))⟩
   · show x_a.length - ((((k + 1) : Nat) : Int)).toNat < x_a.length - (((k : Nat) : Int)).toNat; omega
end Go.Proofs.Ytafcngfnhhchjaa.K
