import Derived.Test.YtafcngfnhhchjaaCore
import Derived.Test.YtafcngfnhhchjaaProg
import Derived.Test.YtafcngfnhhchjaaHeld
import Derived.Test.YtafcngfnhhchjaaFun
import Derived.Test.YtafcngfnhhchjaaFunZ
import Derived.Test.YtafcngfnhhchjaaSqz
import Derived.Test.YtafcngfnhhchjaaHash
namespace Go.Proofs.Ytafcngfnhhchjaa.K
open Go.RowKit
set_option linter.unusedVariables false
set_option linter.unusedSimpArgs false
set_option maxRecDepth 100000
set_option maxHeartbeats 4000000
theorem slTy_22 : SlTy Try.prog 22 5 1 1 (v8 0) := slTy Try.underlying22 (by kernel_rfl) rfl rfl
theorem isAgg_5 : ∀ w, (isAgg 5).run Try.prog w = .ok false w := fun w => by kernel_rfl
theorem sizeOf_5 : ∀ w, (sizeOf 5).run Try.prog w = .ok 1 w := fun w => by kernel_rfl
def R_22 (w : World) (v : Value) (x : (List UInt8)) : Prop := ∃ (a1 : Option Addr) (c1 : Nat), v = .slice a1 x.length c1 ∧ Rd w 1 (.slice a1 x.length c1) x.length (x.map bV) ∧ x.length ≤ 1073741824
def O_22 (w : World) (lo : Nat) (v : Value) (x : (List UInt8)) : Prop := ∃ (a1 : Option Addr) (c1 : Nat), v = .slice a1 x.length c1 ∧ w.ownsRow lo 5 1 (.slice a1 x.length c1) x.length (x.map bV) ∧ x.length ≤ 1073741824 ∧ Aps [(a1, c1)]
theorem C_laws_toByteS (w0 : World) (v_x_a : Value) (x_a : List UInt8) (r_x_a : R_22 w0 v_x_a x_a)  : Fn Try.prog 11 #[v_x_a] w0 (fun v w' => Keep w0 w' ∧ O_22 w' w0.heap.size v (cpB x_a)) := by
 obtain ⟨a1, c2, rfl, r3, s4⟩ := r_x_a
 refine fn_of (n := 22) (l := [(vs a1 x_a.length c2), U, U, U, U, U, U, U, U, U, U, U, U, U, U, U, U, U, U, U, U, U]) Try.func11 rfl rfl (by kernel_rfl) rfl ?_
 refine sr ?_
 refine aw (vs none 0 0) ?_
 refine nx ?_
 refine mw (vs a1 x_a.length c2) ?_
 refine ln wN slTy_22 r3 ?_
 refine wl_makeB (x_a.length) wN rfl rfl rfl slTy_22 (x_a.length : Int) rfl (by omega) (by first | (simp only [List.length_append, List.length_cons, List.length_nil, List.length_replicate, List.length_take, List.length_drop]; omega) | omega) (by first | (simp only [List.length_append, List.length_cons, List.length_nil, List.length_replicate, List.length_take, List.length_drop]; omega) | omega) ?_
 intro a6 c7 w1 k8 o9
 have m10 := (Ch.base w0).extk k8
 refine aw (vs a6 (List.replicate x_a.length (0 : UInt8)).length c7) ?_
 refine n4 ?_
 refine aw (vi 0) ?_
 refine wl_nil <| wq_then <| wc_block ?_
 have hE13 : ((List.replicate x_a.length (0 : UInt8)) : List UInt8) = x_a.take 0 ++ List.replicate (x_a.length - 0) (0 : UInt8) := by first | exact cpB_next (by omega) | simp
 refine wc_loopQ (fun e => [(vs a1 x_a.length c2), e 1, (vs none 0 0), (vs a6 (List.replicate x_a.length (0 : UInt8)).length c7), (vi ((0 : Nat) : Int)), e 5, e 6, e 7, e 8, e 9, e 10, e 11, e 12, e 13, e 14, e 15, e 16, e 17, e 18, e 19, e 20, U]) rfl ⟨rfl, rfl, rfl, rfl, (congrArg (Value.int .i64) (show (0 : Int) = ((0 : Nat) : Int) by omega)), rfl, rfl, rfl, rfl, rfl, rfl, rfl, rfl, rfl, rfl, rfl, rfl, rfl, rfl, rfl, rfl, rfl, trivial⟩ (fun e' w' => ∃ (k : Nat) (u12 : Nat → Value), e' = lst [(vs a1 x_a.length c2), (u12 0), (vs none 0 0), (vs a6 (List.replicate x_a.length (0 : UInt8)).length c7), (vi ((k : Nat) : Int)), (u12 1), (u12 2), (u12 3), (u12 4), (u12 5), (u12 6), (u12 7), (u12 8), (u12 9), (u12 10), (u12 11), (u12 12), (u12 13), (u12 14), (u12 15), (u12 16), U] ∧ Ch (fun k => w0.heap.size ≤ k) w0 w' ∧ Ch (fun k => w0.heap.size ≤ k) w1 w' ∧ k ≤ x_a.length ∧ World.ownsRow w' w0.heap.size 5 1 (.slice a6 (List.replicate x_a.length (0 : UInt8)).length c7) (List.replicate x_a.length (0 : UInt8)).length ((x_a.take k ++ List.replicate (x_a.length - k) (0 : UInt8)).map bV)) (fun e' _ => x_a.length - ((intOf (e' 4))).toNat) ?_ ?_
 ·exact fun u => ⟨0, (unL [u 1, u 5, u 6, u 7, u 8, u 9, u 10, u 11, u 12, u 13, u 14, u 15, u 16, u 17, u 18, u 19, u 20]), rfl, m10, (Ch.refl (fun k => w0.heap.size ≤ k) w1), (by omega), (by rw [← hE13]; exact o9)⟩
 ·rintro _ w2 ⟨k, u12, rfl, m14, k15, i16, o17⟩
  refine wc_seq <| sr ?_
  refine mw (vi ((k : Nat) : Int)) ?_
  refine mw (vs a1 x_a.length c2) ?_
  refine ln wN slTy_22 (r3.from0 m14) ?_
  refine pu (vb (decide (((k : Nat) : Int) < (x_a.length : Int)))) wN ?_
  refine n2 ?_
  rcases bf (decide (((k : Nat) : Int) < (x_a.length : Int))) with h18 | h18
  ·have q24 := of_decide_eq_false h18
   refine cf h18 ?_
   refine wc_exit <| wq_then_exit <| wq_then_exit <| wq_blk_exit <| wq_then <| sr ?_
   refine mw (vs a6 (List.replicate x_a.length (0 : UInt8)).length c7) ?_
   refine aw (vs a6 (List.replicate x_a.length (0 : UInt8)).length c7) ?_
   refine n3 ?_
   refine rt (vs a6 (List.replicate x_a.length (0 : UInt8)).length c7) ?_
   refine ⟨m14.keep0, ?_⟩
   have hF25 : cpB x_a = (x_a.take k ++ List.replicate (x_a.length - k) (0 : UInt8)) := by exact cpB_end (by omega)
   rw [hF25]
   have hN26 : (List.replicate x_a.length (0 : UInt8)).length = ((x_a.take k ++ List.replicate (x_a.length - k) (0 : UInt8))).length := by first | (simp only [List.length_append, List.length_take, List.length_replicate, List.length_set, List.length_map]; done) | (simp only [List.length_append, List.length_take, List.length_replicate, List.length_set, List.length_map]; omega)
   rw [hN26] at o17 ⊢
   exact ⟨_, _, rfl, o17, (by rw [← hN26]; rw [List.length_replicate]; first | assumption | omega), ⟨trivial, trivial⟩⟩
  have q19 := of_decide_eq_true h18
  refine ct h18 ?_
  refine wc_skip <| wq_then <| wc_seq <| wc_block <| wc_region ?_
  refine mw (vs a6 (List.replicate x_a.length (0 : UInt8)).length c7) ?_
  refine mw (vi ((k : Nat) : Int)) ?_
  refine mw (vs a1 x_a.length c2) ?_
  refine mw (vi ((k : Nat) : Int)) ?_
  refine wl_index (v := (vs a1 x_a.length c2)) wN ((k : Nat) : Int) rfl rfl rfl slTy_22 rfl rfl (r3.from0 m14) (by first | omega | (simp only [List.length_cons, List.length_nil, List.length_replicate, List.length_append, List.length_take, List.length_set, List.length_map]; omega)) (by first | omega | (simp only [List.length_cons, List.length_nil, List.length_replicate, List.length_append, List.length_take, List.length_set, List.length_map]; omega)) ?_
  refine wl_loadE (bV (x_a.getD k 0)) wN rfl rfl rfl rfl isAgg_5 (r3.from0 m14) (bget (by simp) (by first | omega | (simp only [List.length_cons, List.length_nil, List.length_replicate, List.length_append, List.length_take, List.length_set, List.length_map]; omega))) ?_
  refine wl_index (v := (vs a6 (List.replicate x_a.length (0 : UInt8)).length c7)) wN ((k : Nat) : Int) rfl rfl rfl slTy_22 rfl rfl (Rd.of_own o17) (by first | omega | (simp only [List.length_cons, List.length_nil, List.length_replicate, List.length_append, List.length_take, List.length_set, List.length_map]; omega)) (by first | omega | (simp only [List.length_cons, List.length_nil, List.length_replicate, List.length_append, List.length_take, List.length_set, List.length_map]; omega)) ?_
  refine wl_storeB (x_a.take k ++ List.replicate (x_a.length - k) (0 : UInt8)) (k) ((x_a.getD k 0)) wN rfl rfl rfl (by simp) rfl sizeOf_5 o17 (by first | omega | (simp only [List.length_append, List.length_replicate, List.length_take, List.length_set, List.length_map]; omega)) ?_
  intro w3 k20 o21
  have m22 := m14.ext k20 (fun k hk => Nat.le_trans (Nat.le_refl w0.heap.size) (own_lt o9 k hk).1)
  refine wl_nil <| wq_blk_normal <| wq_then <| wc_region ?_
  refine mw (vi ((k : Nat) : Int)) ?_
  refine ar (((k : Nat) : Int) + 1) wN ?_
  refine aw (vi (((k : Nat) : Int) + 1)) ?_
  refine wl_nil ?_
  have hE23 : (((x_a.take k ++ List.replicate (x_a.length - k) (0 : UInt8)).set k (x_a.getD k 0)) : List UInt8) = x_a.take (k + 1) ++ List.replicate (x_a.length - (k + 1)) (0 : UInt8) := by first | exact cpB_next (by omega) | simp
  refine wq_loopQ (w0 := w2) (fun e => [(vs a1 x_a.length c2), e 1, (vs none 0 0), (vs a6 (List.replicate x_a.length (0 : UInt8)).length c7), (vi (((k + 1) : Nat) : Int)), e 5, e 6, e 7, e 8, e 9, e 10, e 11, e 12, e 13, e 14, e 15, e 16, e 17, e 18, e 19, e 20, U]) rfl ?_ ?_ ?_
  · exact ⟨rfl, rfl, rfl, rfl, (congrArg (Value.int .i64) (show ((((k : Nat) : Int) + 1) : Int) = (((k + 1) : Nat) : Int) by omega)), rfl, rfl, rfl, rfl, rfl, rfl, rfl, rfl, rfl, rfl, rfl, rfl, rfl, rfl, rfl, rfl, rfl, trivial⟩
  · exact fun u => ⟨(k + 1), (unL [u 1, u 5, u 6, u 7, u 8, u 9, u 10, u 11, u 12, u 13, u 14, u 15, u 16, u 17, u 18, u 19, u 20]), rfl, m22, (((Ch.refl (fun k => w0.heap.size ≤ k) w1).ext k15 (fun k hk => hk)).ext k20 (fun k hk => Nat.le_trans (Nat.le_refl w0.heap.size) (own_lt o9 k hk).1)), (by omega), (by rw [← hE23]; exact o21)⟩
  · show x_a.length - ((((k + 1) : Nat) : Int)).toNat < x_a.length - (((k : Nat) : Int)).toNat; omega

def O_4 (w : World) (lo : Nat) (v : Value) (x : (Bool)) : Prop := v = .bool x
def F_spec_l1In (x_x : Int) (x_least : Int) (x_most : Int) : (Bool) := bif (decide (x_least ≤ x_x)) then (decide (x_x ≤ x_most)) else (false)
theorem C_spec_l1In (w0 : World) (x_x : Int) (x_least : Int) (x_most : Int)  : Fn Try.prog 45 #[(vi x_x), (vi x_least), (vi x_most)] w0 (fun v w' => Keep w0 w' ∧ O_4 w' w0.heap.size v (F_spec_l1In x_x x_least x_most)) := by
 refine fn_of (n := 15) (l := [(vi x_x), (vi x_least), (vi x_most), U, U, U, U, U, U, U, U, U, U, U, U]) Try.func45 rfl rfl (by kernel_rfl) rfl ?_
 refine sr ?_
 refine aw (vb false) ?_
 refine nx ?_
 refine mw (vi x_x) ?_
 refine mw (vi x_least) ?_
 refine pu (vb (decide (x_least ≤ x_x))) wN ?_
 refine mw (vb (decide (x_least ≤ x_x))) ?_
 rcases bf (decide (x_least ≤ x_x)) with h1 | h1
 ·have q4 := of_decide_eq_false h1
  refine sk h1 ?_
  refine sk h1 ?_
  refine sk h1 ?_
  refine pf (vb false) wN h1 ?_
  refine aw (vb false) ?_
  refine n3 ?_
  refine rt (vb false) ?_
  refine ⟨Ch.refl _ _, ?_⟩
  have hF5 : F_spec_l1In x_x x_least x_most = false := by simp only [F_spec_l1In, h1, cond_true, cond_false]
  rw [hF5]
  exact rfl
 have q2 := of_decide_eq_true h1
 refine mv (vi x_x) (wS h1) ?_
 refine mv (vi x_most) (wS h1) ?_
 refine pu (vb (decide (x_x ≤ x_most))) (wS h1) ?_
 refine pk (vb (decide (x_x ≤ x_most))) wN h1 ?_
 refine aw (vb (decide (x_x ≤ x_most))) ?_
 refine n3 ?_
 refine rt (vb (decide (x_x ≤ x_most))) ?_
 refine ⟨Ch.refl _ _, ?_⟩
 have hF3 : F_spec_l1In x_x x_least x_most = decide (x_x ≤ x_most) := by simp only [F_spec_l1In, h1, cond_true, cond_false]
 rw [hF3]
 exact rfl
theorem spec_l1In_t {n a b : Int} (h : F_spec_l1In n a b = true) : a ≤ n ∧ n ≤ b := by
  unfold F_spec_l1In at h
  by_cases h1 : a ≤ n <;> simp [h1] at h
  exact ⟨h1, h⟩
theorem spec_l1In_f {n a b : Int} (h : F_spec_l1In n a b = false) : n < a ∨ b < n := by
  unfold F_spec_l1In at h
  by_cases h1 : a ≤ n <;> simp [h1] at h <;> omega

def F_spec_l1Same (x_a : List UInt8) (x_b : List UInt8) : (Bool) := (eqS (ByteArray.mk x_a.toArray) (ByteArray.mk x_b.toArray))
theorem C_spec_l1Same (w0 : World) (v_x_a : Value) (x_a : List UInt8) (r_x_a : R_22 w0 v_x_a x_a) (v_x_b : Value) (x_b : List UInt8) (r_x_b : R_22 w0 v_x_b x_b)  : Fn Try.prog 46 #[v_x_a, v_x_b] w0 (fun v w' => Keep w0 w' ∧ O_4 w' w0.heap.size v (F_spec_l1Same x_a x_b)) := by
 obtain ⟨a1, c2, rfl, r3, s4⟩ := r_x_a
 obtain ⟨a6, c7, rfl, r8, s9⟩ := r_x_b
 refine fn_of (n := 10) (l := [(vs a1 x_a.length c2), (vs a6 x_b.length c7), U, U, U, U, U, U, U, U]) Try.func46 rfl rfl (by kernel_rfl) rfl ?_
 refine sr ?_
 refine aw (vb false) ?_
 refine nx ?_
 refine mw (vs a1 x_a.length c2) ?_
 refine wl_b2s x_a wN rfl rfl rfl rfl Try.underlying22 Try.underlying5 Try.underlying9 r3 ?_
 refine mw (vs a6 x_b.length c7) ?_
 refine wl_b2s x_b wN rfl rfl rfl rfl Try.underlying22 Try.underlying5 Try.underlying9 r8 ?_
 refine pu (vb (eqS (ByteArray.mk x_a.toArray) (ByteArray.mk x_b.toArray))) wN ?_
 refine aw (vb (eqS (ByteArray.mk x_a.toArray) (ByteArray.mk x_b.toArray))) ?_
 refine n3 ?_
 refine rt (vb (eqS (ByteArray.mk x_a.toArray) (ByteArray.mk x_b.toArray))) ?_
 refine ⟨Ch.refl _ _, ?_⟩
 have hF11 : F_spec_l1Same x_a x_b = (eqS (ByteArray.mk x_a.toArray) (ByteArray.mk x_b.toArray)) := by rfl
 rw [hF11]
 exact rfl

theorem C_spec_PutN (w0 : World) (v_x_b : Value) (x_b : List UInt8) (r_x_b : R_22 w0 v_x_b x_b) (x_n : Int) (x_k : Int) (pre0 : x_b.length ≤ 1000000) : Fn Try.prog 109 #[v_x_b, (vi x_n), (vi x_k)] w0 (fun v w' => Keep w0 w' ∧ O_22 w' w0.heap.size v (putN x_b x_n x_k)) := by
 obtain ⟨a1, c2, rfl, r3, s4⟩ := r_x_b
 refine fn_of (n := 35) (l := [(vs a1 x_b.length c2), (vi x_n), (vi x_k), U, U, U, U, U, U, U, U, U, U, U, U, U, U, U, U, U, U, U, U, U, U, U, U, U, U, U, U, U, U, U, U]) Try.func109 rfl rfl (by kernel_rfl) rfl ?_
 refine sr ?_
 refine aw (vs none 0 0) ?_
 refine nx ?_
 refine wl_lit0 wN rfl rfl slTy_22 (fun w => by kernel_rfl) ?_
 intro a6 w1 k7 o8
 have m9 := (Ch.base w0).extk k7
 refine mw (vs a1 x_b.length c2) ?_
 refine wl_append0 wN rfl rfl rfl slTy_22 rfl rfl o8 (r3.from0 m9) (all_bV _) (by first | (simp only [List.length_append, List.length_cons, List.length_nil, List.length_replicate, List.length_take, List.length_drop]; omega) | omega) (by simp only [maxLen]; first | (simp only [List.length_append, List.length_cons, List.length_nil, List.length_replicate, List.length_take, List.length_drop]; omega) | omega) k7.size ?_
 intro u11 w2 k12 o13 j14
 obtain ⟨a15, c16, rfl⟩ := own_form o13
 have n17 : New w1 a15 c16 := j14 _ _ rfl
 have m18 := m9.extk k12
 refine aw (vs a15 x_b.length c16) ?_
 refine n4 ?_
 refine mw (vi x_k) ?_
 refine pu (vb (decide (x_k < 1))) wN ?_
 refine mw (vb (decide (x_k < 1))) ?_
 rcases bt (decide (x_k < 1)) with h20 | h20
 ·have q21 := of_decide_eq_true h20
  refine sk h20 ?_
  refine sk h20 ?_
  refine pk (vb true) wN h20 ?_
  refine n2 ?_
  refine ct (Eq.refl true) ?_
  refine sr ?_
  refine mw (vs a15 x_b.length c16) ?_
  refine aw (vs a15 x_b.length c16) ?_
  refine n1 ?_
  refine rt (vs a15 x_b.length c16) ?_
  refine ⟨m18.keep0, ?_⟩
  have hF22 : putN x_b x_n x_k = x_b := by first | exact putN_out (by omega) | exact putN_end (by omega) (by omega) (by omega)
  rw [hF22]
  exact ⟨_, _, rfl, o13, s4, ⟨trivial, trivial⟩⟩
 have q23 := of_decide_eq_false h20
 refine mv (vi x_k) (wS h20) ?_
 refine pu (vb (decide (6 < x_k))) (wS h20) ?_
 refine pf (vb (decide (6 < x_k))) wN h20 ?_
 refine n2 ?_
 rcases bt (decide (6 < x_k)) with h24 | h24
 ·have q25 := of_decide_eq_true h24
  refine ct h24 ?_
  refine sr ?_
  refine mw (vs a15 x_b.length c16) ?_
  refine aw (vs a15 x_b.length c16) ?_
  refine n1 ?_
  refine rt (vs a15 x_b.length c16) ?_
  refine ⟨m18.keep0, ?_⟩
  have hF26 : putN x_b x_n x_k = x_b := by first | exact putN_out (by omega) | exact putN_end (by omega) (by omega) (by omega)
  rw [hF26]
  exact ⟨_, _, rfl, o13, s4, ⟨trivial, trivial⟩⟩
 have q27 := of_decide_eq_false h24
 refine cf h24 ?_
 refine y2 ?_
 refine mw (vi x_k) ?_
 refine ar (x_k - 1) wN ?_
 refine aw (vi (x_k - 1)) ?_
 refine wl_nil <| wq_then <| wc_block ?_
 have hE29 : (x_b : List UInt8) = x_b ++ putK x_n x_k 0 := by simp [putK]
 refine wc_loopQ (fun e => [e 0, (vi x_n), e 2, e 3, e 4, e 5, (vs none 0 0), (.slice a15 (x_b ++ putK x_n x_k 0).length c16), (vi (x_k - 1 - ((0 : Nat) : Int))), e 9, e 10, e 11, e 12, e 13, e 14, e 15, e 16, e 17, e 18, e 19, e 20, e 21, e 22, e 23, e 24, e 25, e 26, e 27, e 28, e 29, e 30, e 31, e 32, e 33, U]) rfl ⟨rfl, rfl, rfl, rfl, rfl, rfl, rfl, (congrArg (fun l : List UInt8 => Value.slice a15 l.length c16) hE29), (congrArg (Value.int .i64) (show ((x_k - 1) : Int) = (x_k - 1 - ((0 : Nat) : Int)) by omega)), rfl, rfl, rfl, rfl, rfl, rfl, rfl, rfl, rfl, rfl, rfl, rfl, rfl, rfl, rfl, rfl, rfl, rfl, rfl, rfl, rfl, rfl, rfl, rfl, rfl, rfl, trivial⟩ (fun e' w' => ∃ (j : Nat) (u28 : Nat → Value) (a7x : Option Addr) (c7x : Nat), e' = lst [(u28 0), (vi x_n), (u28 1), (u28 2), (u28 3), (u28 4), (vs none 0 0), (.slice a7x (x_b ++ putK x_n x_k j).length c7x), (vi (x_k - 1 - ((j : Nat) : Int))), (u28 5), (u28 6), (u28 7), (u28 8), (u28 9), (u28 10), (u28 11), (u28 12), (u28 13), (u28 14), (u28 15), (u28 16), (u28 17), (u28 18), (u28 19), (u28 20), (u28 21), (u28 22), (u28 23), (u28 24), (u28 25), (u28 26), (u28 27), (u28 28), (u28 29), U] ∧ Ch (fun k => w0.heap.size ≤ k) w0 w' ∧ Ch (fun k => w0.heap.size ≤ k) w2 w' ∧ ((j : Nat) : Int) ≤ x_k ∧ (World.ownsRow w' w0.heap.size 5 1 (.slice a7x (x_b ++ putK x_n x_k j).length c7x) (x_b ++ putK x_n x_k j).length ((x_b ++ putK x_n x_k j).map bV) ∧ (x_b ++ putK x_n x_k j).length ≤ 1073741824)) (fun e' _ => ((intOf (e' 8)) + 1).toNat) ?_ ?_
 ·exact fun u => ⟨0, (unL [u 0, u 2, u 3, u 4, u 5, u 9, u 10, u 11, u 12, u 13, u 14, u 15, u 16, u 17, u 18, u 19, u 20, u 21, u 22, u 23, u 24, u 25, u 26, u 27, u 28, u 29, u 30, u 31, u 32, u 33]), a15, c16, rfl, m18, (Ch.refl (fun k => w0.heap.size ≤ k) w2), (by omega), (hE29 ▸ ⟨o13, s4⟩)⟩
 ·rintro _ w3 ⟨j, u28, a7x, c7x, rfl, m30, k31, i32, ⟨o33, s34⟩⟩
  have hpl := putK_len x_n x_k j
  refine wc_seq <| sr ?_
  refine mw (vi (x_k - 1 - ((j : Nat) : Int))) ?_
  refine pu (vb (decide (0 ≤ (x_k - 1 - ((j : Nat) : Int))))) wN ?_
  refine n2 ?_
  rcases bf (decide (0 ≤ (x_k - 1 - ((j : Nat) : Int)))) with h36 | h36
  ·have q58 := of_decide_eq_false h36
   refine cf h36 ?_
   refine wc_exit <| wq_then_exit <| wq_then_exit <| wq_blk_exit <| wq_then <| sr ?_
   refine mw (vs a7x (x_b ++ putK x_n x_k j).length c7x) ?_
   refine aw (vs a7x (x_b ++ putK x_n x_k j).length c7x) ?_
   refine n3 ?_
   refine rt (vs a7x (x_b ++ putK x_n x_k j).length c7x) ?_
   refine ⟨m30.keep0, ?_⟩
   have hF59 : putN x_b x_n x_k = (x_b ++ putK x_n x_k j) := by first | exact putN_out (by omega) | exact putN_end (by omega) (by omega) (by omega)
   rw [hF59]
   exact ⟨_, _, rfl, o33, s34, ⟨trivial, trivial⟩⟩
  have q37 := of_decide_eq_true h36
  refine ct h36 ?_
  refine wc_skip <| wq_then <| wc_seq <| wc_block <| wc_region ?_
  refine mw (vs a7x (x_b ++ putK x_n x_k j).length c7x) ?_
  refine mw (vi x_n) ?_
  refine mw (vi (x_k - 1 - ((j : Nat) : Int))) ?_
  refine ar (8 * (x_k - 1 - ((j : Nat) : Int))) wN ?_
  refine wl_shr x_n (8 * (x_k - 1 - ((j : Nat) : Int))) wN rfl rfl rfl rfl rfl (by omega) (by omega) ?_
  refine wl_and (x_n / (2 : Int) ^ ((8 * (x_k - 1 - ((j : Nat) : Int)))).toNat) 255 256 8 wN rfl rfl (by decide) (by decide) (by decide) (by kernel_rfl) ?_
  refine wl_conv8 ((x_n / (2 : Int) ^ ((8 * (x_k - 1 - ((j : Nat) : Int)))).toNat) % 256) wN rfl rfl (by kernel_rfl) ?_
  refine wl_lit [(v8 ((by8 ((x_n / (2 : Int) ^ ((8 * (x_k - 1 - ((j : Nat) : Int)))).toNat) % 256)).toNat : Int))] wN rfl rfl slTy_22 (m := 1) rfl (by simp only [maxLen]; omega) (fun w => by kernel_rfl) ?_
  intro u38 w4 k39 o40
  obtain ⟨a41, c42, rfl⟩ := own_form o40
  have m43 := m30.extk k39
  have o45 : w4.ownsRow w3.heap.size 5 1 (.slice a41 (([(by8 ((x_n / (2 : Int) ^ ((8 * (x_k - 1 - ((j : Nat) : Int)))).toNat) % 256))] : List UInt8) : List UInt8).length c42) (([(by8 ((x_n / (2 : Int) ^ ((8 * (x_k - 1 - ((j : Nat) : Int)))).toNat) % 256))] : List UInt8) : List UInt8).length ((([(by8 ((x_n / (2 : Int) ^ ((8 * (x_k - 1 - ((j : Nat) : Int)))).toNat) % 256))] : List UInt8) : List UInt8).map bV) := o40
  have o46 := (own_kp o33 k39)
  refine wl_append (v := (vs a7x (x_b ++ putK x_n x_k j).length c7x)) wN rfl rfl rfl slTy_22 rfl rfl o46 (Rd.of_own o45) (all_bV _) (by first | (simp only [List.length_append, List.length_cons, List.length_nil, List.length_replicate, List.length_take, List.length_drop]; omega) | omega) (by simp only [maxLen]; first | (simp only [List.length_append, List.length_cons, List.length_nil, List.length_replicate, List.length_take, List.length_drop]; omega) | omega) (z4 k7 k12 k31 k39) ?_
  intro u47 w5 k48 o49 j50
  have o53 : w5.ownsRow w0.heap.size 5 1 u47 (((x_b ++ putK x_n x_k j) ++ ([(by8 ((x_n / (2 : Int) ^ ((8 * (x_k - 1 - ((j : Nat) : Int)))).toNat) % 256))] : List UInt8)) : List UInt8).length ((((x_b ++ putK x_n x_k j) ++ ([(by8 ((x_n / (2 : Int) ^ ((8 * (x_k - 1 - ((j : Nat) : Int)))).toNat) % 256))] : List UInt8)) : List UInt8).map bV) := by simpa [Nat.add_assoc] using o49
  obtain ⟨a51, c52, rfl⟩ := own_form o53
  have m54 := m43.ext k48 (fun k hk => Nat.le_trans (Nat.le_refl w0.heap.size) (own_lt o33 k hk).1)
  have s56 : ((x_b ++ putK x_n x_k j) ++ ([(by8 ((x_n / (2 : Int) ^ ((8 * (x_k - 1 - ((j : Nat) : Int)))).toNat) % 256))] : List UInt8)).length ≤ 1073741824 := by first | (simp only [List.length_append, List.length_cons, List.length_nil, List.length_replicate, List.length_take, List.length_drop]; omega) | omega | assumption
  refine aw (vs a51 ((x_b ++ putK x_n x_k j) ++ ([(by8 ((x_n / (2 : Int) ^ ((8 * (x_k - 1 - ((j : Nat) : Int)))).toNat) % 256))] : List UInt8)).length c52) ?_
  refine wl_nil <| wq_blk_normal <| wq_then <| wc_region ?_
  refine mw (vi (x_k - 1 - ((j : Nat) : Int))) ?_
  refine ar ((x_k - 1 - ((j : Nat) : Int)) - 1) wN ?_
  refine aw (vi ((x_k - 1 - ((j : Nat) : Int)) - 1)) ?_
  refine wl_nil ?_
  have hE57 : (((x_b ++ putK x_n x_k j) ++ ([(by8 ((x_n / (2 : Int) ^ ((8 * (x_k - 1 - ((j : Nat) : Int)))).toNat) % 256))] : List UInt8)) : List UInt8) = x_b ++ putK x_n x_k (j + 1) := by simp [putK]
  refine wq_loopQ (w0 := w3) (fun e => [e 0, (vi x_n), e 2, e 3, e 4, e 5, (vs none 0 0), (.slice a51 (x_b ++ putK x_n x_k (j + 1)).length c52), (vi (x_k - 1 - (((j + 1) : Nat) : Int))), e 9, e 10, e 11, e 12, e 13, e 14, e 15, e 16, e 17, e 18, e 19, e 20, e 21, e 22, e 23, e 24, e 25, e 26, e 27, e 28, e 29, e 30, e 31, e 32, e 33, U]) rfl ?_ ?_ ?_
  · exact ⟨rfl, rfl, rfl, rfl, rfl, rfl, rfl, (congrArg (fun l : List UInt8 => Value.slice a51 l.length c52) hE57), (congrArg (Value.int .i64) (show (((x_k - 1 - ((j : Nat) : Int)) - 1) : Int) = (x_k - 1 - (((j + 1) : Nat) : Int)) by omega)), rfl, rfl, rfl, rfl, rfl, rfl, rfl, rfl, rfl, rfl, rfl, rfl, rfl, rfl, rfl, rfl, rfl, rfl, rfl, rfl, rfl, rfl, rfl, rfl, rfl, rfl, trivial⟩
  · exact fun u => ⟨(j + 1), (unL [u 0, u 2, u 3, u 4, u 5, u 9, u 10, u 11, u 12, u 13, u 14, u 15, u 16, u 17, u 18, u 19, u 20, u 21, u 22, u 23, u 24, u 25, u 26, u 27, u 28, u 29, u 30, u 31, u 32, u 33]), a51, c52, rfl, m54, ((((Ch.refl (fun k => w0.heap.size ≤ k) w2).ext k31 (fun k hk => hk)).extk k39).ext k48 (fun k hk => Nat.le_trans (Nat.le_refl w0.heap.size) (own_lt o33 k hk).1)), (by omega), (hE57 ▸ ⟨o53, s56⟩)⟩
  · show ((x_k - 1 - (((j + 1) : Nat) : Int)) + 1).toNat < ((x_k - 1 - ((j : Nat) : Int)) + 1).toNat; omega

theorem mR_22 {w : World} {x : List UInt8} {a1 : Option Addr} {c1 : Nat} (h1 : Rd w 1 (.slice a1 x.length c1) x.length (x.map bV)) (l1 : x.length ≤ 1073741824) : R_22 w (vs a1 x.length c1) x := ⟨_, _, rfl, h1, l1⟩
theorem C_spec_Pad (w0 : World) (x_n : Int)  : Fn Try.prog 152 #[(vi x_n)] w0 (fun v w' => Keep w0 w' ∧ O_22 w' w0.heap.size v (padP x_n)) := by
 refine fn_of (n := 27) (l := [(vi x_n), U, U, U, U, U, U, U, U, U, U, U, U, U, U, U, U, U, U, U, U, U, U, U, U, U, U]) Try.func152 rfl rfl (by kernel_rfl) rfl ?_
 refine sr ?_
 refine aw (vs none 0 0) ?_
 refine n4 ?_
 refine mw (vi x_n) ?_
 refine pu (vb (decide (x_n < 0))) wN ?_
 refine mw (vb (decide (x_n < 0))) ?_
 rcases bt (decide (x_n < 0)) with h1 | h1
 ·have q2 := of_decide_eq_true h1
  refine sk h1 ?_
  refine sk h1 ?_
  refine pk (vb true) wN h1 ?_
  refine n2 ?_
  refine ct (Eq.refl true) ?_
  refine sr ?_
  refine wl_lit0 wN rfl rfl slTy_22 (fun w => by kernel_rfl) ?_
  intro a3 w1 k4 o5
  have m6 := (Ch.base w0).extk k4
  refine aw (vs (some a3) 0 0) ?_
  refine n1 ?_
  refine rt (vs (some a3) 0 0) ?_
  refine ⟨m6.keep0, ?_⟩
  have hF8 : padP x_n = [] := by first | exact padP_f (by omega) | exact padP_s (by omega) (by omega) (by omega) (by omega)
  rw [hF8]
  exact ⟨_, _, rfl, o5, (by simp), ⟨trivial, trivial⟩⟩
 have q9 := of_decide_eq_false h1
 refine mv (vi x_n) (wS h1) ?_
 refine pu (vb (decide (1048576 < x_n))) (wS h1) ?_
 refine pf (vb (decide (1048576 < x_n))) wN h1 ?_
 refine n2 ?_
 rcases bt (decide (1048576 < x_n)) with h10 | h10
 ·have q11 := of_decide_eq_true h10
  refine ct h10 ?_
  refine sr ?_
  refine wl_lit0 wN rfl rfl slTy_22 (fun w => by kernel_rfl) ?_
  intro a12 w1 k13 o14
  have m15 := (Ch.base w0).extk k13
  refine aw (vs (some a12) 0 0) ?_
  refine n1 ?_
  refine rt (vs (some a12) 0 0) ?_
  refine ⟨m15.keep0, ?_⟩
  have hF17 : padP x_n = [] := by first | exact padP_f (by omega) | exact padP_s (by omega) (by omega) (by omega) (by omega)
  rw [hF17]
  exact ⟨_, _, rfl, o14, (by simp), ⟨trivial, trivial⟩⟩
 have q18 := of_decide_eq_false h10
 refine cf h10 ?_
 refine y1 ?_
 refine wl_lit [(v8 128)] wN rfl rfl slTy_22 (m := 1) rfl (by simp only [maxLen]; omega) (fun w => by kernel_rfl) ?_
 intro u19 w1 k20 o21
 obtain ⟨a22, c23, rfl⟩ := own_form o21
 have m24 := (Ch.base w0).extk k20
 have o26 : w1.ownsRow w0.heap.size 5 1 (.slice a22 (([128] : List UInt8) : List UInt8).length c23) (([128] : List UInt8) : List UInt8).length ((([128] : List UInt8) : List UInt8).map bV) := o21
 refine aw (vs a22 ([128] : List UInt8).length c23) ?_
 refine wl_nil <| wq_then <| wc_seq <| wc_block ?_
 have hE28 : (([128] : List UInt8) : List UInt8) = [(128 : UInt8)] ++ List.replicate 0 (0 : UInt8) := by first | rfl | (rw [List.replicate_succ', List.append_assoc])
 refine wc_loopQ (fun e => [(vi x_n), e 1, (vs none 0 0), (.slice a22 ([(128 : UInt8)] ++ List.replicate 0 (0 : UInt8)).length c23), e 4, e 5, e 6, e 7, e 8, e 9, e 10, e 11, e 12, e 13, e 14, e 15, e 16, e 17, e 18, e 19, e 20, e 21, U, U, U, U, U]) rfl ⟨rfl, rfl, rfl, (congrArg (fun l : List UInt8 => Value.slice a22 l.length c23) hE28), rfl, rfl, rfl, rfl, rfl, rfl, rfl, rfl, rfl, rfl, rfl, rfl, rfl, rfl, rfl, rfl, rfl, rfl, rfl, rfl, rfl, rfl, rfl, trivial⟩ (fun e' w' => ∃ (j : Nat) (u27 : Nat → Value) (a3x : Option Addr) (c3x : Nat), e' = lst [(vi x_n), (u27 0), (vs none 0 0), (.slice a3x ([(128 : UInt8)] ++ List.replicate j (0 : UInt8)).length c3x), (u27 1), (u27 2), (u27 3), (u27 4), (u27 5), (u27 6), (u27 7), (u27 8), (u27 9), (u27 10), (u27 11), (u27 12), (u27 13), (u27 14), (u27 15), (u27 16), (u27 17), (u27 18), U, U, U, U, U] ∧ Ch (fun k => w0.heap.size ≤ k) w0 w' ∧ Ch (fun k => w0.heap.size ≤ k) w1 w' ∧ ((j : Nat) : Int) ≤ (64 - (x_n + 9) % 64) % 64 ∧ (World.ownsRow w' w0.heap.size 5 1 (.slice a3x ([(128 : UInt8)] ++ List.replicate j (0 : UInt8)).length c3x) ([(128 : UInt8)] ++ List.replicate j (0 : UInt8)).length (([(128 : UInt8)] ++ List.replicate j (0 : UInt8)).map bV) ∧ ([(128 : UInt8)] ++ List.replicate j (0 : UInt8)).length ≤ 1073741824)) (fun e' _ => 100 - (lenOf (e' 3))) ?_ ?_
 ·exact fun u => ⟨0, (unL [u 1, u 4, u 5, u 6, u 7, u 8, u 9, u 10, u 11, u 12, u 13, u 14, u 15, u 16, u 17, u 18, u 19, u 20, u 21]), a22, c23, rfl, m24, (Ch.refl (fun k => w0.heap.size ≤ k) w1), (by omega), (hE28 ▸ ⟨o26, (by simp)⟩)⟩
 ·rintro _ w2 ⟨j, u27, a3x, c3x, rfl, m29, k30, i31, ⟨o32, s33⟩⟩
  have hpl : ([(128 : UInt8)] ++ List.replicate j (0 : UInt8)).length = 1 + j := by rw [List.length_append, List.length_replicate]; rfl
  refine wc_seq <| sr ?_
  refine mw (vi x_n) ?_
  refine mw (vs a3x ([(128 : UInt8)] ++ List.replicate j (0 : UInt8)).length c3x) ?_
  refine ln wN slTy_22 (Rd.of_own o32) ?_
  refine ar (x_n + (([(128 : UInt8)] ++ List.replicate j (0 : UInt8)).length : Int)) wN ?_
  refine ar ((x_n + (([(128 : UInt8)] ++ List.replicate j (0 : UInt8)).length : Int)) + 8) wN ?_
  refine wl_rem ((x_n + (([(128 : UInt8)] ++ List.replicate j (0 : UInt8)).length : Int)) + 8) 64 wN rfl rfl (by kernel_rfl) (by first | omega | assumption) ?_
  refine pu (vb (!(decide ((((x_n + (([(128 : UInt8)] ++ List.replicate j (0 : UInt8)).length : Int)) + 8) % 64) = 0)))) wN ?_
  refine n2 ?_
  rcases bt (decide ((((x_n + (([(128 : UInt8)] ++ List.replicate j (0 : UInt8)).length : Int)) + 8) % 64) = 0)) with h35 | h35
  ·have q36 := of_decide_eq_true h35
   refine cf (congrArg not h35) ?_
   refine wc_exit <| wq_then_exit <| wq_then_exit <| wq_blk_exit <| wq_then <| sr ?_
   refine mw (vs a3x ([(128 : UInt8)] ++ List.replicate j (0 : UInt8)).length c3x) ?_
   refine cl wN (C_spec_PutN w2 _ ([(128 : UInt8)] ++ List.replicate j (0 : UInt8)) (mR_22 (Rd.of_own o32) s33) 0 4 (by first | omega | (simp; done) | (simp; omega))) ?_
   rintro _ w3 ⟨k37, ⟨a38, c39, rfl, o40, s41, ap43⟩⟩
   have m44 := m29.extk k37
   have q45 := putN_len ([(128 : UInt8)] ++ List.replicate j (0 : UInt8)) 0 4
   refine mw (vi x_n) ?_
   refine ar (8 * x_n) wN ?_
   refine cl wN (C_spec_PutN w3 _ (putN ([(128 : UInt8)] ++ List.replicate j (0 : UInt8)) 0 4) (mR_22 (Rd.of_own o40) s41) (8 * x_n) 4 (by first | omega | (simp; done) | (simp; omega))) ?_
   rintro _ w4 ⟨k46, ⟨a47, c48, rfl, o49, s50, ap52⟩⟩
   have m53 := m44.extk k46
   have q54 := putN_len (putN ([(128 : UInt8)] ++ List.replicate j (0 : UInt8)) 0 4) (8 * x_n) 4
   refine aw (vs a47 (putN (putN ([(128 : UInt8)] ++ List.replicate j (0 : UInt8)) 0 4) (8 * x_n) 4).length c48) ?_
   refine n3 ?_
   refine rt (vs a47 (putN (putN ([(128 : UInt8)] ++ List.replicate j (0 : UInt8)) 0 4) (8 * x_n) 4).length c48) ?_
   refine ⟨m53.keep0, ?_⟩
   have hF55 : padP x_n = (putN (putN ([(128 : UInt8)] ++ List.replicate j (0 : UInt8)) 0 4) (8 * x_n) 4) := by first | exact padP_f (by omega) | exact padP_s (by omega) (by omega) (by omega) (by omega)
   rw [hF55]
   exact ⟨_, _, rfl, (own_lo o49 (z3 k20 k30 k37)), s50, ⟨trivial, trivial⟩⟩
  have q56 := of_decide_eq_false h35
  refine ct (congrArg not h35) ?_
  refine wc_skip <| wq_then <| wc_block <| wc_region ?_
  refine mw (vs a3x ([(128 : UInt8)] ++ List.replicate j (0 : UInt8)).length c3x) ?_
  refine wl_lit [(v8 0)] wN rfl rfl slTy_22 (m := 1) rfl (by simp only [maxLen]; omega) (fun w => by kernel_rfl) ?_
  intro u57 w3 k58 o59
  obtain ⟨a60, c61, rfl⟩ := own_form o59
  have m62 := m29.extk k58
  have o64 : w3.ownsRow w2.heap.size 5 1 (.slice a60 (([0] : List UInt8) : List UInt8).length c61) (([0] : List UInt8) : List UInt8).length ((([0] : List UInt8) : List UInt8).map bV) := o59
  have o65 := (own_kp o32 k58)
  refine wl_append (v := (vs a3x ([(128 : UInt8)] ++ List.replicate j (0 : UInt8)).length c3x)) wN rfl rfl rfl slTy_22 rfl rfl o65 (Rd.of_own o64) (all_bV _) (by first | (simp only [List.length_append, List.length_cons, List.length_nil, List.length_replicate, List.length_take, List.length_drop]; omega) | omega) (by simp only [maxLen]; first | (simp only [List.length_append, List.length_cons, List.length_nil, List.length_replicate, List.length_take, List.length_drop]; omega) | omega) (z3 k20 k30 k58) ?_
  intro u66 w4 k67 o68 j69
  have o72 : w4.ownsRow w0.heap.size 5 1 u66 ((([(128 : UInt8)] ++ List.replicate j (0 : UInt8)) ++ ([0] : List UInt8)) : List UInt8).length (((([(128 : UInt8)] ++ List.replicate j (0 : UInt8)) ++ ([0] : List UInt8)) : List UInt8).map bV) := by simpa [Nat.add_assoc] using o68
  obtain ⟨a70, c71, rfl⟩ := own_form o72
  have m73 := m62.ext k67 (fun k hk => Nat.le_trans (Nat.le_refl w0.heap.size) (own_lt o32 k hk).1)
  have s75 : (([(128 : UInt8)] ++ List.replicate j (0 : UInt8)) ++ ([0] : List UInt8)).length ≤ 1073741824 := by first | (simp only [List.length_append, List.length_cons, List.length_nil, List.length_replicate, List.length_take, List.length_drop]; omega) | omega | assumption
  refine aw (vs a70 (([(128 : UInt8)] ++ List.replicate j (0 : UInt8)) ++ ([0] : List UInt8)).length c71) ?_
  refine wl_nil <| wq_blk_normal ?_
  have hE76 : ((([(128 : UInt8)] ++ List.replicate j (0 : UInt8)) ++ ([0] : List UInt8)) : List UInt8) = [(128 : UInt8)] ++ List.replicate (j + 1) (0 : UInt8) := by first | rfl | (rw [List.replicate_succ', List.append_assoc])
  refine wq_loopQ (w0 := w2) (fun e => [(vi x_n), e 1, (vs none 0 0), (.slice a70 ([(128 : UInt8)] ++ List.replicate (j + 1) (0 : UInt8)).length c71), e 4, e 5, e 6, e 7, e 8, e 9, e 10, e 11, e 12, e 13, e 14, e 15, e 16, e 17, e 18, e 19, e 20, e 21, U, U, U, U, U]) rfl ?_ ?_ ?_
  · exact ⟨rfl, rfl, rfl, (congrArg (fun l : List UInt8 => Value.slice a70 l.length c71) hE76), rfl, rfl, rfl, rfl, rfl, rfl, rfl, rfl, rfl, rfl, rfl, rfl, rfl, rfl, rfl, rfl, rfl, rfl, rfl, rfl, rfl, rfl, rfl, trivial⟩
  · exact fun u => ⟨(j + 1), (unL [u 1, u 4, u 5, u 6, u 7, u 8, u 9, u 10, u 11, u 12, u 13, u 14, u 15, u 16, u 17, u 18, u 19, u 20, u 21]), a70, c71, rfl, m73, ((((Ch.refl (fun k => w0.heap.size ≤ k) w1).ext k30 (fun k hk => hk)).extk k58).ext k67 (fun k hk => Nat.le_trans (Nat.le_refl w0.heap.size) (own_lt o32 k hk).1)), (by omega), (hE76 ▸ ⟨o72, s75⟩)⟩
  · show 100 - ([(128 : UInt8)] ++ List.replicate (j + 1) (0 : UInt8)).length < 100 - ([(128 : UInt8)] ++ List.replicate j (0 : UInt8)).length; simp only [List.length_append, List.length_cons, List.length_nil, List.length_replicate]; omega

theorem slTy_32 : SlTy Try.prog 32 3 1 8 (vi 0) := slTy Try.underlying32 (by kernel_rfl) rfl rfl
def O_32 (w : World) (lo : Nat) (v : Value) (x : (List Int)) : Prop := ∃ (a1 : Option Addr) (c1 : Nat), v = .slice a1 x.length c1 ∧ w.ownsRow lo 3 1 (.slice a1 x.length c1) x.length (x.map iV) ∧ x.length ≤ 1073741824 ∧ Aps [(a1, c1)]
theorem C_spec_Start (w0 : World)   : Fn Try.prog 153 #[] w0 (fun v w' => Keep w0 w' ∧ O_32 w' w0.heap.size v (k0)) := by
 refine fn_of (n := 2) (l := [U, U]) Try.func153 rfl rfl (by kernel_rfl) rfl ?_
 refine sr ?_
 refine aw (vs none 0 0) ?_
 refine nx ?_
 refine wl_lit [(vi 1779033703), (vi 3144134277), (vi 1013904242), (vi 2773480762), (vi 1359893119), (vi 2600822924), (vi 528734635), (vi 1541459225)] wN rfl rfl slTy_32 (m := 8) rfl (by simp only [maxLen]; omega) (fun w => by kernel_rfl) ?_
 intro u1 w1 k2 o3
 obtain ⟨a4, c5, rfl⟩ := own_form o3
 have m6 := (Ch.base w0).extk k2
 have o8 : w1.ownsRow w0.heap.size 3 1 (.slice a4 (([1779033703, 3144134277, 1013904242, 2773480762, 1359893119, 2600822924, 528734635, 1541459225] : List Int) : List Int).length c5) (([1779033703, 3144134277, 1013904242, 2773480762, 1359893119, 2600822924, 528734635, 1541459225] : List Int) : List Int).length ((([1779033703, 3144134277, 1013904242, 2773480762, 1359893119, 2600822924, 528734635, 1541459225] : List Int) : List Int).map iV) := o3
 refine aw (vs a4 ([1779033703, 3144134277, 1013904242, 2773480762, 1359893119, 2600822924, 528734635, 1541459225] : List Int).length c5) ?_
 refine n3 ?_
 refine rt (vs a4 ([1779033703, 3144134277, 1013904242, 2773480762, 1359893119, 2600822924, 528734635, 1541459225] : List Int).length c5) ?_
 refine ⟨m6.keep0, ?_⟩
 have hF9 : k0 = ([1779033703, 3144134277, 1013904242, 2773480762, 1359893119, 2600822924, 528734635, 1541459225] : List Int) := by rfl
 rw [hF9]
 exact ⟨_, _, rfl, o8, (by simp), ⟨trivial, trivial⟩⟩

theorem isAgg_3 : ∀ w, (isAgg 3).run Try.prog w = .ok false w := fun w => by kernel_rfl
def R_32 (w : World) (v : Value) (x : (List Int)) : Prop := ∃ (a1 : Option Addr) (c1 : Nat), v = .slice a1 x.length c1 ∧ Rd w 1 (.slice a1 x.length c1) x.length (x.map iV) ∧ x.length ≤ 1073741824
def ws8 (x : List Int) : Bool := areW x 8
theorem ws8_t {x : List Int} (h : ws8 x = true) : allW x = true ∧ (x.length : Int) = 8 := areW_t h
theorem C_spec_l2Words (w0 : World) (v_x_h : Value) (x_h : List Int) (r_x_h : R_32 w0 v_x_h x_h)  : Fn Try.prog 160 #[v_x_h] w0 (fun v w' => Keep w0 w' ∧ O_4 w' w0.heap.size v (ws8 x_h)) := by
 obtain ⟨a1, c2, rfl, r3, s4⟩ := r_x_h
 refine fn_of (n := 19) (l := [(vs a1 x_h.length c2), U, U, U, U, U, U, U, U, U, U, U, U, U, U, U, U, U, U]) Try.func160 rfl rfl (by kernel_rfl) rfl ?_
 refine sr ?_
 refine aw (vb false) ?_
 refine n4 ?_
 refine aw (vi 0) ?_
 refine wl_nil <| wq_then <| wc_block ?_
 refine wc_loopQ (fun e => [(vs a1 x_h.length c2), e 1, e 2, (vi ((0 : Nat) : Int)), e 4, e 5, e 6, e 7, e 8, e 9, e 10, e 11, e 12, e 13, e 14, e 15, U, U, U]) rfl ⟨rfl, rfl, rfl, (congrArg (Value.int .i64) (show (0 : Int) = ((0 : Nat) : Int) by omega)), rfl, rfl, rfl, rfl, rfl, rfl, rfl, rfl, rfl, rfl, rfl, rfl, rfl, rfl, rfl, trivial⟩ (fun e' w' => ∃ (i : Nat) (u6 : Nat → Value), e' = lst [(vs a1 x_h.length c2), (u6 0), (u6 1), (vi ((i : Nat) : Int)), (u6 2), (u6 3), (u6 4), (u6 5), (u6 6), (u6 7), (u6 8), (u6 9), (u6 10), (u6 11), (u6 12), (u6 13), U, U, U] ∧ Ch (fun k => w0.heap.size ≤ k) w0 w' ∧ Ch (fun k => w0.heap.size ≤ k) w0 w' ∧ i ≤ x_h.length ∧ allW (x_h.take i) = true) (fun e' _ => x_h.length - ((intOf (e' 3))).toNat) ?_ ?_
 ·exact fun u => ⟨0, (unL [u 1, u 2, u 4, u 5, u 6, u 7, u 8, u 9, u 10, u 11, u 12, u 13, u 14, u 15]), rfl, (Ch.base w0), (Ch.refl (fun k => w0.heap.size ≤ k) w0), (by omega), (by first | rfl | exact allW_next (by assumption) (by omega) (by assumption))⟩
 ·rintro _ w1 ⟨i, u6, rfl, m7, k8, i9, i10⟩
  refine wc_seq <| sr ?_
  refine mw (vi ((i : Nat) : Int)) ?_
  refine mw (vs a1 x_h.length c2) ?_
  refine ln wN slTy_32 (r3.from0 m7) ?_
  refine pu (vb (decide (((i : Nat) : Int) < (x_h.length : Int)))) wN ?_
  refine n2 ?_
  rcases bf (decide (((i : Nat) : Int) < (x_h.length : Int))) with h11 | h11
  ·have q19 := of_decide_eq_false h11
   refine cf h11 ?_
   refine wc_exit <| wq_then_exit <| wq_then_exit <| wq_blk_exit <| wq_then <| sr ?_
   refine mw (vs a1 x_h.length c2) ?_
   refine ln wN slTy_32 (r3.from0 m7) ?_
   refine pu (vb (decide ((x_h.length : Int) = 8))) wN ?_
   refine aw (vb (decide ((x_h.length : Int) = 8))) ?_
   refine n3 ?_
   refine rt (vb (decide ((x_h.length : Int) = 8))) ?_
   refine ⟨m7.keep0, ?_⟩
   have hF20 : ws8 x_h = decide ((x_h.length : Int) = 8) := by first | (have hz := allW_no (x := x_h) (k := i) (by omega) (by first | assumption | omega); simp [ws8, areW, hz]) | (have hz := allW_all (x := x_h) (k := i) (by assumption) (by omega); simp [ws8, areW, hz])
   rw [hF20]
   exact rfl
  have q12 := of_decide_eq_true h11
  refine ct h11 ?_
  refine wc_skip <| wq_then <| wc_seq <| wc_block <| sr ?_
  refine mw (vs a1 x_h.length c2) ?_
  refine mw (vi ((i : Nat) : Int)) ?_
  refine wl_index (v := (vs a1 x_h.length c2)) wN ((i : Nat) : Int) rfl rfl rfl slTy_32 rfl rfl (r3.from0 m7) (by first | omega | (simp only [List.length_cons, List.length_nil, List.length_replicate, List.length_append, List.length_take, List.length_set, List.length_map]; omega)) (by first | omega | (simp only [List.length_cons, List.length_nil, List.length_replicate, List.length_append, List.length_take, List.length_set, List.length_map]; omega)) ?_
  refine wl_loadE (iV (x_h.getD i 0)) wN rfl rfl rfl rfl isAgg_3 (r3.from0 m7) (iget (by simp) (by first | omega | (simp only [List.length_cons, List.length_nil, List.length_replicate, List.length_append, List.length_take, List.length_set, List.length_map]; omega))) ?_
  refine cl wN (C_spec_l1In w1 (x_h.getD i 0) 0 4294967295) ?_
  rintro _ w2 ⟨k13, rfl⟩
  have m14 := m7.extk k13
  refine pu (vb (!(F_spec_l1In (x_h.getD i 0) 0 4294967295))) wN ?_
  refine n2 ?_
  rcases bf (F_spec_l1In (x_h.getD i 0) 0 4294967295) with h15 | h15
  ·have q17 := spec_l1In_f h15
   refine ct (congrArg not h15) ?_
   refine sr ?_
   refine aw (vb false) ?_
   refine wl_nil <| wq_then <| wc_ret <| wq_blk_ret <| wq_then_ret <| wq_then_ret <| wq_blk_ret <| wq_then_ret ?_
   refine rt (vb false) ?_
   refine ⟨m14.keep0, ?_⟩
   have hF18 : ws8 x_h = false := by first | (have hz := allW_no (x := x_h) (k := i) (by omega) (by first | assumption | omega); simp [ws8, areW, hz]) | (have hz := allW_all (x := x_h) (k := i) (by assumption) (by omega); simp [ws8, areW, hz])
   rw [hF18]
   exact rfl
  have q16 := spec_l1In_t h15
  refine cf (congrArg not h15) ?_
  refine wc_skip <| wq_blk_normal <| wq_then <| wc_region ?_
  refine mw (vi ((i : Nat) : Int)) ?_
  refine ar (((i : Nat) : Int) + 1) wN ?_
  refine aw (vi (((i : Nat) : Int) + 1)) ?_
  refine wl_nil ?_
  refine wq_loopQ (w0 := w1) (fun e => [(vs a1 x_h.length c2), e 1, e 2, (vi (((i + 1) : Nat) : Int)), e 4, e 5, e 6, e 7, e 8, e 9, e 10, e 11, e 12, e 13, e 14, e 15, U, U, U]) rfl ?_ ?_ ?_
  · exact ⟨rfl, rfl, rfl, (congrArg (Value.int .i64) (show ((((i : Nat) : Int) + 1) : Int) = (((i + 1) : Nat) : Int) by omega)), rfl, rfl, rfl, rfl, rfl, rfl, rfl, rfl, rfl, rfl, rfl, rfl, rfl, rfl, rfl, trivial⟩
  · exact fun u => ⟨(i + 1), (unL [u 1, u 2, u 4, u 5, u 6, u 7, u 8, u 9, u 10, u 11, u 12, u 13, u 14, u 15]), rfl, m14, (((Ch.refl (fun k => w0.heap.size ≤ k) w0).ext k8 (fun k hk => hk)).extk k13), (by omega), (by first | rfl | exact allW_next (by assumption) (by omega) (by assumption))⟩
  · show x_h.length - ((((i + 1) : Nat) : Int)).toNat < x_h.length - (((i : Nat) : Int)).toNat; omega

theorem C_spec_l2K (w0 : World)   : Fn Try.prog 161 #[] w0 (fun v w' => Keep w0 w' ∧ O_32 w' w0.heap.size v (kw)) := by
 refine fn_of (n := 2) (l := [U, U]) Try.func161 rfl rfl (by kernel_rfl) rfl ?_
 refine sr ?_
 refine aw (vs none 0 0) ?_
 refine nx ?_
 refine wl_lit [(vi 1116352408), (vi 1899447441), (vi 3049323471), (vi 3921009573), (vi 961987163), (vi 1508970993), (vi 2453635748), (vi 2870763221), (vi 3624381080), (vi 310598401), (vi 607225278), (vi 1426881987), (vi 1925078388), (vi 2162078206), (vi 2614888103), (vi 3248222580), (vi 3835390401), (vi 4022224774), (vi 264347078), (vi 604807628), (vi 770255983), (vi 1249150122), (vi 1555081692), (vi 1996064986), (vi 2554220882), (vi 2821834349), (vi 2952996808), (vi 3210313671), (vi 3336571891), (vi 3584528711), (vi 113926993), (vi 338241895), (vi 666307205), (vi 773529912), (vi 1294757372), (vi 1396182291), (vi 1695183700), (vi 1986661051), (vi 2177026350), (vi 2456956037), (vi 2730485921), (vi 2820302411), (vi 3259730800), (vi 3345764771), (vi 3516065817), (vi 3600352804), (vi 4094571909), (vi 275423344), (vi 430227734), (vi 506948616), (vi 659060556), (vi 883997877), (vi 958139571), (vi 1322822218), (vi 1537002063), (vi 1747873779), (vi 1955562222), (vi 2024104815), (vi 2227730452), (vi 2361852424), (vi 2428436474), (vi 2756734187), (vi 3204031479), (vi 3329325298)] wN rfl rfl slTy_32 (m := 64) rfl (by simp only [maxLen]; omega) (fun w => by kernel_rfl) ?_
 intro u1 w1 k2 o3
 obtain ⟨a4, c5, rfl⟩ := own_form o3
 have m6 := (Ch.base w0).extk k2
 have o8 : w1.ownsRow w0.heap.size 3 1 (.slice a4 (([1116352408, 1899447441, 3049323471, 3921009573, 961987163, 1508970993, 2453635748, 2870763221, 3624381080, 310598401, 607225278, 1426881987, 1925078388, 2162078206, 2614888103, 3248222580, 3835390401, 4022224774, 264347078, 604807628, 770255983, 1249150122, 1555081692, 1996064986, 2554220882, 2821834349, 2952996808, 3210313671, 3336571891, 3584528711, 113926993, 338241895, 666307205, 773529912, 1294757372, 1396182291, 1695183700, 1986661051, 2177026350, 2456956037, 2730485921, 2820302411, 3259730800, 3345764771, 3516065817, 3600352804, 4094571909, 275423344, 430227734, 506948616, 659060556, 883997877, 958139571, 1322822218, 1537002063, 1747873779, 1955562222, 2024104815, 2227730452, 2361852424, 2428436474, 2756734187, 3204031479, 3329325298] : List Int) : List Int).length c5) (([1116352408, 1899447441, 3049323471, 3921009573, 961987163, 1508970993, 2453635748, 2870763221, 3624381080, 310598401, 607225278, 1426881987, 1925078388, 2162078206, 2614888103, 3248222580, 3835390401, 4022224774, 264347078, 604807628, 770255983, 1249150122, 1555081692, 1996064986, 2554220882, 2821834349, 2952996808, 3210313671, 3336571891, 3584528711, 113926993, 338241895, 666307205, 773529912, 1294757372, 1396182291, 1695183700, 1986661051, 2177026350, 2456956037, 2730485921, 2820302411, 3259730800, 3345764771, 3516065817, 3600352804, 4094571909, 275423344, 430227734, 506948616, 659060556, 883997877, 958139571, 1322822218, 1537002063, 1747873779, 1955562222, 2024104815, 2227730452, 2361852424, 2428436474, 2756734187, 3204031479, 3329325298] : List Int) : List Int).length ((([1116352408, 1899447441, 3049323471, 3921009573, 961987163, 1508970993, 2453635748, 2870763221, 3624381080, 310598401, 607225278, 1426881987, 1925078388, 2162078206, 2614888103, 3248222580, 3835390401, 4022224774, 264347078, 604807628, 770255983, 1249150122, 1555081692, 1996064986, 2554220882, 2821834349, 2952996808, 3210313671, 3336571891, 3584528711, 113926993, 338241895, 666307205, 773529912, 1294757372, 1396182291, 1695183700, 1986661051, 2177026350, 2456956037, 2730485921, 2820302411, 3259730800, 3345764771, 3516065817, 3600352804, 4094571909, 275423344, 430227734, 506948616, 659060556, 883997877, 958139571, 1322822218, 1537002063, 1747873779, 1955562222, 2024104815, 2227730452, 2361852424, 2428436474, 2756734187, 3204031479, 3329325298] : List Int) : List Int).map iV) := o3
 refine aw (vs a4 ([1116352408, 1899447441, 3049323471, 3921009573, 961987163, 1508970993, 2453635748, 2870763221, 3624381080, 310598401, 607225278, 1426881987, 1925078388, 2162078206, 2614888103, 3248222580, 3835390401, 4022224774, 264347078, 604807628, 770255983, 1249150122, 1555081692, 1996064986, 2554220882, 2821834349, 2952996808, 3210313671, 3336571891, 3584528711, 113926993, 338241895, 666307205, 773529912, 1294757372, 1396182291, 1695183700, 1986661051, 2177026350, 2456956037, 2730485921, 2820302411, 3259730800, 3345764771, 3516065817, 3600352804, 4094571909, 275423344, 430227734, 506948616, 659060556, 883997877, 958139571, 1322822218, 1537002063, 1747873779, 1955562222, 2024104815, 2227730452, 2361852424, 2428436474, 2756734187, 3204031479, 3329325298] : List Int).length c5) ?_
 refine n3 ?_
 refine rt (vs a4 ([1116352408, 1899447441, 3049323471, 3921009573, 961987163, 1508970993, 2453635748, 2870763221, 3624381080, 310598401, 607225278, 1426881987, 1925078388, 2162078206, 2614888103, 3248222580, 3835390401, 4022224774, 264347078, 604807628, 770255983, 1249150122, 1555081692, 1996064986, 2554220882, 2821834349, 2952996808, 3210313671, 3336571891, 3584528711, 113926993, 338241895, 666307205, 773529912, 1294757372, 1396182291, 1695183700, 1986661051, 2177026350, 2456956037, 2730485921, 2820302411, 3259730800, 3345764771, 3516065817, 3600352804, 4094571909, 275423344, 430227734, 506948616, 659060556, 883997877, 958139571, 1322822218, 1537002063, 1747873779, 1955562222, 2024104815, 2227730452, 2361852424, 2428436474, 2756734187, 3204031479, 3329325298] : List Int).length c5) ?_
 refine ⟨m6.keep0, ?_⟩
 have hF9 : kw = ([1116352408, 1899447441, 3049323471, 3921009573, 961987163, 1508970993, 2453635748, 2870763221, 3624381080, 310598401, 607225278, 1426881987, 1925078388, 2162078206, 2614888103, 3248222580, 3835390401, 4022224774, 264347078, 604807628, 770255983, 1249150122, 1555081692, 1996064986, 2554220882, 2821834349, 2952996808, 3210313671, 3336571891, 3584528711, 113926993, 338241895, 666307205, 773529912, 1294757372, 1396182291, 1695183700, 1986661051, 2177026350, 2456956037, 2730485921, 2820302411, 3259730800, 3345764771, 3516065817, 3600352804, 4094571909, 275423344, 430227734, 506948616, 659060556, 883997877, 958139571, 1322822218, 1537002063, 1747873779, 1955562222, 2024104815, 2227730452, 2361852424, 2428436474, 2756734187, 3204031479, 3329325298] : List Int) := by rfl
 rw [hF9]
 exact ⟨_, _, rfl, o8, (by simp), ⟨trivial, trivial⟩⟩

def O_3_3_4 (w : World) (lo : Nat) (v : Value) (x : (Int) × (Int) × (Bool)) : Prop := v = .tuple #[.int .i64 x.1, .int .i64 x.2.1, .bool x.2.2]
theorem C_spec_GetN (w0 : World) (v_x_b : Value) (x_b : List UInt8) (r_x_b : R_22 w0 v_x_b x_b) (x_at : Int) (x_k : Int)  : Fn Try.prog 170 #[v_x_b, (vi x_at), (vi x_k)] w0 (fun v w' => Keep w0 w' ∧ O_3_3_4 w' w0.heap.size v (getN3 x_b x_at x_k)) := by
 obtain ⟨a1, c2, rfl, r3, s4⟩ := r_x_b
 refine fn_of (n := 48) (l := [(vs a1 x_b.length c2), (vi x_at), (vi x_k), U, U, U, U, U, U, U, U, U, U, U, U, U, U, U, U, U, U, U, U, U, U, U, U, U, U, U, U, U, U, U, U, U, U, U, U, U, U, U, U, U, U, U, U, U]) Try.func170 rfl rfl (by kernel_rfl) rfl ?_
 refine sr ?_
 refine aw (vi 0) ?_
 refine aw (vi 0) ?_
 refine aw (vb false) ?_
 refine n4 ?_
 refine mw (vi x_k) ?_
 refine pu (vb (decide (x_k < 1))) wN ?_
 refine mw (vb (decide (x_k < 1))) ?_
 rcases bt (decide (x_k < 1)) with h6 | h6
 ·have q7 := of_decide_eq_true h6
  refine sk h6 ?_
  refine sk h6 ?_
  refine pk (vb true) wN h6 ?_
  refine mw (vb true) ?_
  refine sk T1 ?_
  refine sk T1 ?_
  refine pk (vb true) wN (Eq.refl true) ?_
  refine mw (vb true) ?_
  refine sk T1 ?_
  refine sk T1 ?_
  refine sk T1 ?_
  refine sk T1 ?_
  refine sk T1 ?_
  refine sk T1 ?_
  refine pk (vb true) wN (Eq.refl true) ?_
  refine n2 ?_
  refine ct (Eq.refl true) ?_
  refine sr ?_
  refine aw (vi 0) ?_
  refine aw (vi 0) ?_
  refine aw (vb false) ?_
  refine n1 ?_
  refine ret_3 (.inl rfl) (vi 0) (vi 0) (vb false) rfl rfl rfl rfl ?_
  refine ⟨Ch.refl _ _, ?_⟩
  have hF8 : getN3 x_b x_at x_k = (0, 0, false) := by first | exact getN3_f (by omega) | exact getN3_s (by omega) (by omega) (by omega) (by omega)
  rw [hF8]
  exact rfl
 have q9 := of_decide_eq_false h6
 refine mv (vi x_k) (wS h6) ?_
 refine pu (vb (decide (6 < x_k))) (wS h6) ?_
 refine pf (vb (decide (6 < x_k))) wN h6 ?_
 refine mw (vb (decide (6 < x_k))) ?_
 rcases bt (decide (6 < x_k)) with h10 | h10
 ·have q11 := of_decide_eq_true h10
  refine sk h10 ?_
  refine sk h10 ?_
  refine pk (vb true) wN h10 ?_
  refine mw (vb true) ?_
  refine sk T1 ?_
  refine sk T1 ?_
  refine sk T1 ?_
  refine sk T1 ?_
  refine sk T1 ?_
  refine sk T1 ?_
  refine pk (vb true) wN (Eq.refl true) ?_
  refine n2 ?_
  refine ct (Eq.refl true) ?_
  refine sr ?_
  refine aw (vi 0) ?_
  refine aw (vi 0) ?_
  refine aw (vb false) ?_
  refine n1 ?_
  refine ret_3 (.inl rfl) (vi 0) (vi 0) (vb false) rfl rfl rfl rfl ?_
  refine ⟨Ch.refl _ _, ?_⟩
  have hF12 : getN3 x_b x_at x_k = (0, 0, false) := by first | exact getN3_f (by omega) | exact getN3_s (by omega) (by omega) (by omega) (by omega)
  rw [hF12]
  exact rfl
 have q13 := of_decide_eq_false h10
 refine mv (vi x_at) (wS h10) ?_
 refine pu (vb (decide (x_at < 0))) (wS h10) ?_
 refine pf (vb (decide (x_at < 0))) wN h10 ?_
 refine mw (vb (decide (x_at < 0))) ?_
 rcases bt (decide (x_at < 0)) with h14 | h14
 ·have q15 := of_decide_eq_true h14
  refine sk h14 ?_
  refine sk h14 ?_
  refine sk h14 ?_
  refine sk h14 ?_
  refine sk h14 ?_
  refine sk h14 ?_
  refine pk (vb true) wN h14 ?_
  refine n2 ?_
  refine ct (Eq.refl true) ?_
  refine sr ?_
  refine aw (vi 0) ?_
  refine aw (vi 0) ?_
  refine aw (vb false) ?_
  refine n1 ?_
  refine ret_3 (.inl rfl) (vi 0) (vi 0) (vb false) rfl rfl rfl rfl ?_
  refine ⟨Ch.refl _ _, ?_⟩
  have hF16 : getN3 x_b x_at x_k = (0, 0, false) := by first | exact getN3_f (by omega) | exact getN3_s (by omega) (by omega) (by omega) (by omega)
  rw [hF16]
  exact rfl
 have q17 := of_decide_eq_false h14
 refine mv (vi x_at) (wS h14) ?_
 refine mv (vs a1 x_b.length c2) (wS h14) ?_
 refine ln (wS h14) slTy_22 r3 ?_
 refine mv (vi x_k) (wS h14) ?_
 refine ar ((x_b.length : Int) - x_k) (wS h14) ?_
 refine pu (vb (decide (((x_b.length : Int) - x_k) < x_at))) (wS h14) ?_
 refine pf (vb (decide (((x_b.length : Int) - x_k) < x_at))) wN h14 ?_
 refine n2 ?_
 rcases bt (decide (((x_b.length : Int) - x_k) < x_at)) with h18 | h18
 ·have q19 := of_decide_eq_true h18
  refine ct h18 ?_
  refine sr ?_
  refine aw (vi 0) ?_
  refine aw (vi 0) ?_
  refine aw (vb false) ?_
  refine n1 ?_
  refine ret_3 (.inl rfl) (vi 0) (vi 0) (vb false) rfl rfl rfl rfl ?_
  refine ⟨Ch.refl _ _, ?_⟩
  have hF20 : getN3 x_b x_at x_k = (0, 0, false) := by first | exact getN3_f (by omega) | exact getN3_s (by omega) (by omega) (by omega) (by omega)
  rw [hF20]
  exact rfl
 have q21 := of_decide_eq_false h18
 refine cf h18 ?_
 refine y1 ?_
 refine aw (vi 0) ?_
 refine n4 ?_
 refine aw (vi 0) ?_
 refine wl_nil <| wq_then <| wc_block ?_
 refine wc_loopQ (fun e => [(vs a1 x_b.length c2), (vi x_at), (vi x_k), e 3, e 4, e 5, (vi 0), (vi 0), (vb false), (vi (getV ((x_b.drop x_at.toNat).take 0) 0)), (vi ((0 : Nat) : Int)), e 11, e 12, e 13, e 14, e 15, e 16, e 17, e 18, e 19, e 20, e 21, e 22, e 23, e 24, e 25, e 26, e 27, e 28, e 29, e 30, e 31, e 32, e 33, e 34, e 35, e 36, e 37, e 38, e 39, e 40, e 41, e 42, e 43, U, U, U, U]) rfl ⟨rfl, rfl, rfl, rfl, rfl, rfl, rfl, rfl, rfl, (congrArg (Value.int .i64) (show (0 : Int) = (getV ((x_b.drop x_at.toNat).take 0) 0) by rfl)), (congrArg (Value.int .i64) (show (0 : Int) = ((0 : Nat) : Int) by omega)), rfl, rfl, rfl, rfl, rfl, rfl, rfl, rfl, rfl, rfl, rfl, rfl, rfl, rfl, rfl, rfl, rfl, rfl, rfl, rfl, rfl, rfl, rfl, rfl, rfl, rfl, rfl, rfl, rfl, rfl, rfl, rfl, rfl, rfl, rfl, rfl, rfl, trivial⟩ (fun e' w' => ∃ (i : Nat) (u22 : Nat → Value), e' = lst [(vs a1 x_b.length c2), (vi x_at), (vi x_k), (u22 0), (u22 1), (u22 2), (vi 0), (vi 0), (vb false), (vi (getV ((x_b.drop x_at.toNat).take i) 0)), (vi ((i : Nat) : Int)), (u22 3), (u22 4), (u22 5), (u22 6), (u22 7), (u22 8), (u22 9), (u22 10), (u22 11), (u22 12), (u22 13), (u22 14), (u22 15), (u22 16), (u22 17), (u22 18), (u22 19), (u22 20), (u22 21), (u22 22), (u22 23), (u22 24), (u22 25), (u22 26), (u22 27), (u22 28), (u22 29), (u22 30), (u22 31), (u22 32), (u22 33), (u22 34), (u22 35), U, U, U, U] ∧ Ch (fun k => w0.heap.size ≤ k) w0 w' ∧ Ch (fun k => w0.heap.size ≤ k) w0 w' ∧ ((i : Nat) : Int) ≤ x_k) (fun e' _ => (x_k - (intOf (e' 10))).toNat) ?_ ?_
 ·exact fun u => ⟨0, (unL [u 3, u 4, u 5, u 11, u 12, u 13, u 14, u 15, u 16, u 17, u 18, u 19, u 20, u 21, u 22, u 23, u 24, u 25, u 26, u 27, u 28, u 29, u 30, u 31, u 32, u 33, u 34, u 35, u 36, u 37, u 38, u 39, u 40, u 41, u 42, u 43]), rfl, (Ch.base w0), (Ch.refl (fun k => w0.heap.size ≤ k) w0), (by omega)⟩
 ·rintro _ w1 ⟨i, u22, rfl, m23, k24, i25⟩
  have hgb := getV_b6 (x_b.drop x_at.toNat) i (by omega)
  have hx8 : (x_b.getD (x_at + ((i : Nat) : Int)).toNat 0).toNat < 256 := UInt8.toNat_lt _
  refine wc_seq <| sr ?_
  refine mw (vi ((i : Nat) : Int)) ?_
  refine mw (vi x_k) ?_
  refine pu (vb (decide (((i : Nat) : Int) < x_k))) wN ?_
  refine n2 ?_
  rcases bf (decide (((i : Nat) : Int) < x_k)) with h26 | h26
  ·have q28 := of_decide_eq_false h26
   refine cf h26 ?_
   refine wc_exit <| wq_then_exit <| wq_then_exit <| wq_blk_exit <| wq_then <| sr ?_
   refine mw (vi (getV ((x_b.drop x_at.toNat).take i) 0)) ?_
   refine mw (vi x_at) ?_
   refine mw (vi x_k) ?_
   refine ar (x_at + x_k) wN ?_
   refine aw (vi (getV ((x_b.drop x_at.toNat).take i) 0)) ?_
   refine aw (vi (x_at + x_k)) ?_
   refine aw (vb true) ?_
   refine n3 ?_
   refine ret_3 (.inl rfl) (vi (getV ((x_b.drop x_at.toNat).take i) 0)) (vi (x_at + x_k)) (vb true) rfl rfl rfl rfl ?_
   refine ⟨m23.keep0, ?_⟩
   have hF29 : getN3 x_b x_at x_k = ((getV ((x_b.drop x_at.toNat).take i) 0), (x_at + x_k), true) := by first | exact getN3_f (by omega) | exact getN3_s (by omega) (by omega) (by omega) (by omega)
   rw [hF29]
   exact rfl
  have q27 := of_decide_eq_true h26
  refine ct h26 ?_
  refine wc_skip <| wq_then <| wc_seq <| wc_block <| wc_region ?_
  refine mw (vi (getV ((x_b.drop x_at.toNat).take i) 0)) ?_
  refine ar ((getV ((x_b.drop x_at.toNat).take i) 0) * 256) wN ?_
  refine mw (vs a1 x_b.length c2) ?_
  refine mw (vi x_at) ?_
  refine mw (vi ((i : Nat) : Int)) ?_
  refine ar (x_at + ((i : Nat) : Int)) wN ?_
  refine wl_index (v := (vs a1 x_b.length c2)) wN (x_at + ((i : Nat) : Int)) rfl rfl rfl slTy_22 rfl rfl (r3.from0 m23) (by first | omega | (simp only [List.length_cons, List.length_nil, List.length_replicate, List.length_append, List.length_take, List.length_set, List.length_map]; omega)) (by first | omega | (simp only [List.length_cons, List.length_nil, List.length_replicate, List.length_append, List.length_take, List.length_set, List.length_map]; omega)) ?_
  refine wl_loadE (bV (x_b.getD ((x_at + ((i : Nat) : Int))).toNat 0)) wN rfl rfl rfl rfl isAgg_5 (r3.from0 m23) (bget (by simp) (by first | omega | (simp only [List.length_cons, List.length_nil, List.length_replicate, List.length_append, List.length_take, List.length_set, List.length_map]; omega))) ?_
  refine ar ((x_b.getD ((x_at + ((i : Nat) : Int))).toNat 0).toNat : Int) wN ?_
  refine ar (((getV ((x_b.drop x_at.toNat).take i) 0) * 256) + ((x_b.getD ((x_at + ((i : Nat) : Int))).toNat 0).toNat : Int)) wN ?_
  refine aw (vi (((getV ((x_b.drop x_at.toNat).take i) 0) * 256) + ((x_b.getD ((x_at + ((i : Nat) : Int))).toNat 0).toNat : Int))) ?_
  refine wl_nil <| wq_blk_normal <| wq_then <| wc_region ?_
  refine mw (vi ((i : Nat) : Int)) ?_
  refine ar (((i : Nat) : Int) + 1) wN ?_
  refine aw (vi (((i : Nat) : Int) + 1)) ?_
  refine wl_nil ?_
  refine wq_loopQ (w0 := w1) (fun e => [(vs a1 x_b.length c2), (vi x_at), (vi x_k), e 3, e 4, e 5, (vi 0), (vi 0), (vb false), (vi (getV ((x_b.drop x_at.toNat).take (i + 1)) 0)), (vi (((i + 1) : Nat) : Int)), e 11, e 12, e 13, e 14, e 15, e 16, e 17, e 18, e 19, e 20, e 21, e 22, e 23, e 24, e 25, e 26, e 27, e 28, e 29, e 30, e 31, e 32, e 33, e 34, e 35, e 36, e 37, e 38, e 39, e 40, e 41, e 42, e 43, U, U, U, U]) rfl ?_ ?_ ?_
  · exact ⟨rfl, rfl, rfl, rfl, rfl, rfl, rfl, rfl, rfl, (congrArg (Value.int .i64) (show ((((getV ((x_b.drop x_at.toNat).take i) 0) * 256) + ((x_b.getD ((x_at + ((i : Nat) : Int))).toNat 0).toNat : Int)) : Int) = (getV ((x_b.drop x_at.toNat).take (i + 1)) 0) by exact getV_nexts (by omega) (by omega))), (congrArg (Value.int .i64) (show ((((i : Nat) : Int) + 1) : Int) = (((i + 1) : Nat) : Int) by omega)), rfl, rfl, rfl, rfl, rfl, rfl, rfl, rfl, rfl, rfl, rfl, rfl, rfl, rfl, rfl, rfl, rfl, rfl, rfl, rfl, rfl, rfl, rfl, rfl, rfl, rfl, rfl, rfl, rfl, rfl, rfl, rfl, rfl, rfl, rfl, rfl, rfl, trivial⟩
  · exact fun u => ⟨(i + 1), (unL [u 3, u 4, u 5, u 11, u 12, u 13, u 14, u 15, u 16, u 17, u 18, u 19, u 20, u 21, u 22, u 23, u 24, u 25, u 26, u 27, u 28, u 29, u 30, u 31, u 32, u 33, u 34, u 35, u 36, u 37, u 38, u 39, u 40, u 41, u 42, u 43]), rfl, m23, ((Ch.refl (fun k => w0.heap.size ≤ k) w0).ext k24 (fun k hk => hk)), (by omega)⟩
  · show (x_k - (((i + 1) : Nat) : Int)).toNat < (x_k - ((i : Nat) : Int)).toNat; omega

theorem mixed : Try.prog.follows .mixedOrders = true := by kernel_rfl
def O_3 (w : World) (lo : Nat) (v : Value) (x : (Int)) : Prop := v = .int .i64 x
theorem C_spec_Rot (w0 : World) (x_x : Int) (x_n : Int) (pre0 : 1 ≤ x_n) (pre1 : x_n ≤ 31) : Fn Try.prog 163 #[(vi x_x), (vi x_n)] w0 (fun v w' => Keep w0 w' ∧ O_3 w' w0.heap.size v (rot x_x x_n)) := by
 refine fn_of (n := 24) (l := [(vi x_x), (vi x_n), U, U, U, U, U, U, U, U, U, U, U, U, U, U, U, U, U, U, U, U, U, U]) Try.func163 rfl rfl (by kernel_rfl) rfl ?_
 refine sr ?_
 refine aw (vi 0) ?_
 refine nx ?_
 refine mw (vi x_x) ?_
 refine wl_and x_x 4294967295 4294967296 32 wN rfl rfl (by decide) (by decide) (by decide) (by kernel_rfl) ?_
 refine aw (vi (x_x % 4294967296)) ?_
 refine n4 ?_
 refine mw (vi x_n) ?_
 refine pu (vb (decide (x_n < 1))) wN ?_
 refine mw (vb (decide (x_n < 1))) ?_
 rcases bt (decide (x_n < 1)) with h1 | h1
 ·have q2 := of_decide_eq_true h1
  refine sk h1 ?_
  refine sk h1 ?_
  refine pk (vb true) wN h1 ?_
  refine n2 ?_
  refine ct (Eq.refl true) ?_
  refine sr ?_
  refine mw (vi (x_x % 4294967296)) ?_
  refine aw (vi (x_x % 4294967296)) ?_
  refine n1 ?_
  refine rt (vi (x_x % 4294967296)) ?_
  refine ⟨Ch.refl _ _, ?_⟩
  have hF3 : rot x_x x_n = (x_x % 4294967296) := by first | rfl | (exfalso; omega)
  rw [hF3]
  exact rfl
 have q4 := of_decide_eq_false h1
 refine mv (vi x_n) (wS h1) ?_
 refine pu (vb (decide (31 < x_n))) (wS h1) ?_
 refine pf (vb (decide (31 < x_n))) wN h1 ?_
 refine n2 ?_
 rcases bt (decide (31 < x_n)) with h5 | h5
 ·have q6 := of_decide_eq_true h5
  refine ct h5 ?_
  refine sr ?_
  refine mw (vi (x_x % 4294967296)) ?_
  refine aw (vi (x_x % 4294967296)) ?_
  refine n1 ?_
  refine rt (vi (x_x % 4294967296)) ?_
  refine ⟨Ch.refl _ _, ?_⟩
  have hF7 : rot x_x x_n = (x_x % 4294967296) := by first | rfl | (exfalso; omega)
  rw [hF7]
  exact rfl
 have q8 := of_decide_eq_false h5
 refine cf h5 ?_
 refine wc_skip <| wq_then <| wc_seq ?_
 refine wc_drawT ([(15, [], [], (fun _ v _ => v = (vi (x_x % 4294967296)))), (16, [], [], (fun _ v _ => v = (vi x_n))), (17, [], [0, 1], (fun _ v _ => v = (vi ((x_x % 4294967296) / (2 : Int) ^ (x_n).toNat)))), (18, [], [], (fun _ v _ => v = (vi (x_x % 4294967296)))), (19, [], [], (fun _ v _ => v = (vi x_n))), (20, [], [4], (fun _ v _ => v = (vi (32 - x_n)))), (21, [], [3, 4, 5], (fun _ v _ => v = (vi ((x_x % 4294967296) * (2 : Int) ^ ((32 - x_n)).toNat))))] : GV) (fun _ w' => Keep w0 w') [] mixed rfl (by kernel_rfl) (by kernel_rfl) ?_ (fun _ _ h => h) (fun _ _ _ _ h _ k => h.trans k) trivial ?_ ?_ ?_
 ·exact ⟨(fun _ _ _ _ h _ => h), (fun _ _ _ _ _ h => h), ⟨(fun _ _ _ _ h _ => h), (fun _ _ _ _ _ h => h), ⟨(fun _ _ _ _ h _ => h), (fun _ _ _ _ _ h => h), ⟨(fun _ _ _ _ h _ => h), (fun _ _ _ _ _ h => h), ⟨(fun _ _ _ _ h _ => h), (fun _ _ _ _ _ h => h), ⟨(fun _ _ _ _ h _ => h), (fun _ _ _ _ _ h => h), ⟨(fun _ _ _ _ h _ => h), (fun _ _ _ _ _ h => h), trivial⟩⟩⟩⟩⟩⟩⟩
 ·exact trivial
 ·refine ⟨?_, ⟨?_, ⟨?_, ⟨?_, ⟨?_, ⟨?_, ⟨?_, trivial⟩⟩⟩⟩⟩⟩⟩
  ·intro _ w1 k14 _
   have m15 := (Ch.base w0).extk k14
   rintro _ _ _ _ _ _ _
   show WL _ _ _ _ _ _ _
   refine mw (vi (x_x % 4294967296)) ?_
   exact f1
  ·intro _ w1 k16 _
   have m17 := (Ch.base w0).extk k16
   rintro _ _ _ _ _ _ _
   show WL _ _ _ _ _ _ _
   refine mw (vi x_n) ?_
   exact f1
  ·intro _ w1 k18 _
   have m19 := (Ch.base w0).extk k18
   rintro _ rfl _ rfl _ _ _ _ _
   show WL _ _ _ _ _ _ _
   refine wl_shr (x_x % 4294967296) x_n wN rfl rfl rfl rfl rfl (by omega) (by omega) ?_
   have q20 := shr_b (a := (x_x % 4294967296)) (by omega) (x_n).toNat
   exact f1
  ·intro _ w1 k21 _
   have m22 := (Ch.base w0).extk k21
   rintro _ _ _ _ _ _ _
   show WL _ _ _ _ _ _ _
   refine mw (vi (x_x % 4294967296)) ?_
   exact f1
  ·intro _ w1 k23 _
   have m24 := (Ch.base w0).extk k23
   rintro _ _ _ _ _ _ _
   show WL _ _ _ _ _ _ _
   refine mw (vi x_n) ?_
   exact f1
  ·intro _ w1 k25 _
   have m26 := (Ch.base w0).extk k25
   rintro _ _ _ _ _ rfl _ _
   show WL _ _ _ _ _ _ _
   refine ar (32 - x_n) wN ?_
   exact f1
  ·intro _ w1 k27 _
   have m28 := (Ch.base w0).extk k27
   rintro _ _ _ _ rfl _ rfl _ rfl _
   show WL _ _ _ _ _ _ _
   refine wl_shl (x_x % 4294967296) (32 - x_n) wN rfl rfl rfl rfl rfl (by omega) (by omega) (by omega) (by omega) ?_
   have q29 := shl_b (a := (x_x % 4294967296)) (n := ((32 - x_n)).toNat) (by omega) (by omega) (by omega)
   exact f1
 ·intro _ w1 k30
  have m31 := (Ch.base w0).extk k30
  rintro _ rfl _ rfl _ rfl
  have q32 := shr_b (a := (x_x % 4294967296)) (by omega) (x_n).toNat
  rintro _ rfl _ rfl _ rfl _ rfl
  have q33 := shl_b (a := (x_x % 4294967296)) (n := ((32 - x_n)).toNat) (by omega) (by omega) (by omega)
  show WL _ _ _ _ _ _ _
  refine wl_or ((x_x % 4294967296) / (2 : Int) ^ (x_n).toNat) ((x_x % 4294967296) * (2 : Int) ^ ((32 - x_n)).toNat) wN rfl rfl (by kernel_rfl) (by omega) (by omega) (by omega) (by omega) ?_
  have q34 := orI_p (a := ((x_x % 4294967296) / (2 : Int) ^ (x_n).toNat)) (b := ((x_x % 4294967296) * (2 : Int) ^ ((32 - x_n)).toNat)) (by omega) (by omega)
  refine wl_and (orI ((x_x % 4294967296) / (2 : Int) ^ (x_n).toNat) ((x_x % 4294967296) * (2 : Int) ^ ((32 - x_n)).toNat)) 4294967295 4294967296 32 wN rfl rfl (by decide) (by decide) (by decide) (by kernel_rfl) ?_
  refine aw (vi ((orI ((x_x % 4294967296) / (2 : Int) ^ (x_n).toNat) ((x_x % 4294967296) * (2 : Int) ^ ((32 - x_n)).toNat)) % 4294967296)) ?_
  refine n3 ?_
  refine rt (vi ((orI ((x_x % 4294967296) / (2 : Int) ^ (x_n).toNat) ((x_x % 4294967296) * (2 : Int) ^ ((32 - x_n)).toNat)) % 4294967296)) ?_
  refine ⟨m31.keep0, ?_⟩
  have hF35 : rot x_x x_n = ((orI ((x_x % 4294967296) / (2 : Int) ^ (x_n).toNat) ((x_x % 4294967296) * (2 : Int) ^ ((32 - x_n)).toNat)) % 4294967296) := by first | rfl | (exfalso; omega)
  rw [hF35]
  exact rfl

theorem C_spec_Schedule (w0 : World) (v_x_block : Value) (x_block : List UInt8) (r_x_block : R_22 w0 v_x_block x_block)  : Fn Try.prog 162 #[v_x_block] w0 (fun v w' => Keep w0 w' ∧ O_32 w' w0.heap.size v (schedP x_block)) := by
 obtain ⟨a1, c2, rfl, r3, s4⟩ := r_x_block
 refine fn_of (n := 84) (l := [(vs a1 x_block.length c2), U, U, U, U, U, U, U, U, U, U, U, U, U, U, U, U, U, U, U, U, U, U, U, U, U, U, U, U, U, U, U, U, U, U, U, U, U, U, U, U, U, U, U, U, U, U, U, U, U, U, U, U, U, U, U, U, U, U, U, U, U, U, U, U, U, U, U, U, U, U, U, U, U, U, U, U, U, U, U, U, U, U, U]) Try.func162 rfl rfl (by kernel_rfl) rfl ?_
 refine sr ?_
 refine aw (vs none 0 0) ?_
 refine nx ?_
 refine wl_lit0 wN rfl rfl slTy_32 (fun w => by kernel_rfl) ?_
 intro a6 w1 k7 o8
 have m9 := (Ch.base w0).extk k7
 refine aw (vs (some a6) 0 0) ?_
 refine n4 ?_
 refine mw (vs a1 x_block.length c2) ?_
 refine ln wN slTy_22 (r3.from0 m9) ?_
 refine pu (vb (!(decide ((x_block.length : Int) = 64)))) wN ?_
 refine n2 ?_
 rcases bf (decide ((x_block.length : Int) = 64)) with h11 | h11
 ·have q199 := of_decide_eq_false h11
  refine ct (congrArg not h11) ?_
  refine sr ?_
  refine mw (vs (some a6) 0 0) ?_
  refine aw (vs (some a6) 0 0) ?_
  refine n1 ?_
  refine rt (vs (some a6) 0 0) ?_
  refine ⟨m9.keep0, ?_⟩
  have hF200 : schedP x_block = [] := by first | exact schedP_f (by omega) | exact schedP_u (by omega) (by omega) (by omega)
  rw [hF200]
  exact ⟨_, _, rfl, o8, (by simp), ⟨trivial, trivial⟩⟩
 have q12 := of_decide_eq_true h11
 refine cf (congrArg not h11) ?_
 refine y2 ?_
 refine aw (vi 0) ?_
 refine wl_nil <| wq_then <| wc_block ?_
 have hE14 : ([] : List Int) = sched16 x_block 0 := by rfl
 have hN15 : 0 = (sched16 x_block 0).length := by rw [← hE14]; try (first | rfl | simp only [List.length_set] | simp)
 refine wc_loopQ (fun e => [(vs a1 x_block.length c2), e 1, (vs none 0 0), (.slice (some a6) (sched16 x_block 0).length 0), (vi ((0 : Nat) : Int)), e 5, e 6, e 7, U, U, U, U, U, e 13, e 14, e 15, e 16, e 17, e 18, e 19, e 20, e 21, e 22, e 23, e 24, e 25, e 26, e 27, e 28, e 29, e 30, e 31, e 32, e 33, U, U, U, U, U, U, U, U, U, U, U, U, U, U, U, U, U, U, U, U, U, U, U, U, U, U, U, U, U, U, U, U, U, U, U, U, U, U, U, U, U, U, U, U, U, U, U, U, U, U]) rfl ⟨rfl, rfl, rfl, rfl, (congrArg (Value.int .i64) (show (0 : Int) = ((0 : Nat) : Int) by omega)), rfl, rfl, rfl, rfl, rfl, rfl, rfl, rfl, rfl, rfl, rfl, rfl, rfl, rfl, rfl, rfl, rfl, rfl, rfl, rfl, rfl, rfl, rfl, rfl, rfl, rfl, rfl, rfl, rfl, rfl, rfl, rfl, rfl, rfl, rfl, rfl, rfl, rfl, rfl, rfl, rfl, rfl, rfl, rfl, rfl, rfl, rfl, rfl, rfl, rfl, rfl, rfl, rfl, rfl, rfl, rfl, rfl, rfl, rfl, rfl, rfl, rfl, rfl, rfl, rfl, rfl, rfl, rfl, rfl, rfl, rfl, rfl, rfl, rfl, rfl, rfl, rfl, rfl, rfl, trivial⟩ (fun e' w' => ∃ (k : Nat) (u13 : Nat → Value) (a3x : Option Addr) (c3x : Nat), e' = lst [(vs a1 x_block.length c2), (u13 0), (vs none 0 0), (.slice a3x (sched16 x_block k).length c3x), (vi ((k : Nat) : Int)), (u13 1), (u13 2), (u13 3), U, U, U, U, U, (u13 4), (u13 5), (u13 6), (u13 7), (u13 8), (u13 9), (u13 10), (u13 11), (u13 12), (u13 13), (u13 14), (u13 15), (u13 16), (u13 17), (u13 18), (u13 19), (u13 20), (u13 21), (u13 22), (u13 23), (u13 24), U, U, U, U, U, U, U, U, U, U, U, U, U, U, U, U, U, U, U, U, U, U, U, U, U, U, U, U, U, U, U, U, U, U, U, U, U, U, U, U, U, U, U, U, U, U, U, U, U, U] ∧ Ch (fun k => w0.heap.size ≤ k) w0 w' ∧ Ch (fun k => w0.heap.size ≤ k) w1 w' ∧ k ≤ 16 ∧ (World.ownsRow w' w0.heap.size 3 1 (.slice a3x (sched16 x_block k).length c3x) (sched16 x_block k).length ((sched16 x_block k).map iV) ∧ (sched16 x_block k).length ≤ 1073741824)) (fun e' _ => (16 - (intOf (e' 4))).toNat) ?_ ?_
 ·exact fun u => ⟨0, (unL [u 1, u 5, u 6, u 7, u 13, u 14, u 15, u 16, u 17, u 18, u 19, u 20, u 21, u 22, u 23, u 24, u 25, u 26, u 27, u 28, u 29, u 30, u 31, u 32, u 33]), (some a6), 0, rfl, m9, (Ch.refl (fun k => w0.heap.size ≤ k) w1), (by omega), ⟨(by rw [← hN15, ← hE14]; exact o8), (by rw [← hN15]; first | exact (by simp) | (simp only [List.length_append, List.length_take, List.length_replicate]; omega))⟩⟩
 ·rintro _ w2 ⟨k, u13, a3x, c3x, rfl, m16, k17, i18, ⟨o19, s20⟩⟩
  have hsl := sched16_len x_block k
  refine wc_seq <| sr ?_
  refine mw (vi ((k : Nat) : Int)) ?_
  refine pu (vb (decide (((k : Nat) : Int) < 16))) wN ?_
  refine n2 ?_
  rcases bt (decide (((k : Nat) : Int) < 16)) with h22 | h22
  ·have q23 := of_decide_eq_true h22
   refine ct h22 ?_
   refine wc_skip <| wq_then <| wc_seq <| wc_block <| sr ?_
   refine mw (vs a1 x_block.length c2) ?_
   refine mw (vi ((k : Nat) : Int)) ?_
   refine ar (4 * ((k : Nat) : Int)) wN ?_
   refine cl wN (C_spec_GetN w2 _ x_block (mR_22 (r3.from0 m16) s4) (4 * ((k : Nat) : Int)) 4) ?_
   rintro _ w3 ⟨k24, rfl⟩
   have m25 := m16.extk k24
   refine mw (.tuple #[(vi ((getN3 x_block (4 * ((k : Nat) : Int)) 4).1)), (vi ((getN3 x_block (4 * ((k : Nat) : Int)) 4).2.1)), (vb ((getN3 x_block (4 * ((k : Nat) : Int)) 4).2.2))]) ?_
   refine pu (vi ((getN3 x_block (4 * ((k : Nat) : Int)) 4).1)) wN ?_
   refine pu (vi ((getN3 x_block (4 * ((k : Nat) : Int)) 4).2.1)) wN ?_
   refine pu (vb ((getN3 x_block (4 * ((k : Nat) : Int)) 4).2.2)) wN ?_
   refine aw (vi ((getN3 x_block (4 * ((k : Nat) : Int)) 4).1)) ?_
   refine aw (vi ((getN3 x_block (4 * ((k : Nat) : Int)) 4).2.1)) ?_
   refine aw (vb ((getN3 x_block (4 * ((k : Nat) : Int)) 4).2.2)) ?_
   refine wl_nil <| wq_then <| wc_region ?_
   refine mw (vs a3x (sched16 x_block k).length c3x) ?_
   refine mw (vi ((getN3 x_block (4 * ((k : Nat) : Int)) 4).1)) ?_
   refine wl_lit [(vi ((getN3 x_block (4 * ((k : Nat) : Int)) 4).1))] wN rfl rfl slTy_32 (m := 1) rfl (by simp only [maxLen]; omega) (fun w => by kernel_rfl) ?_
   intro u26 w4 k27 o28
   obtain ⟨a29, c30, rfl⟩ := own_form o28
   have m31 := m25.extk k27
   have o33 : w4.ownsRow w3.heap.size 3 1 (.slice a29 (([(getN3 x_block (4 * ((k : Nat) : Int)) 4).1] : List Int) : List Int).length c30) (([(getN3 x_block (4 * ((k : Nat) : Int)) 4).1] : List Int) : List Int).length ((([(getN3 x_block (4 * ((k : Nat) : Int)) 4).1] : List Int) : List Int).map iV) := o28
   have o34 := (own_kp (own_kp o19 k24) k27)
   refine wl_append (v := (vs a3x (sched16 x_block k).length c3x)) wN rfl rfl rfl slTy_32 rfl rfl o34 (Rd.of_own o33) (all_iV _) (by first | (simp only [List.length_append, List.length_cons, List.length_nil, List.length_replicate, List.length_take, List.length_drop]; omega) | omega) (by simp only [maxLen]; first | (simp only [List.length_append, List.length_cons, List.length_nil, List.length_replicate, List.length_take, List.length_drop]; omega) | omega) (z4 k7 k17 k24 k27) ?_
   intro u35 w5 k36 o37 j38
   have o41 : w5.ownsRow w0.heap.size 3 1 u35 (((sched16 x_block k) ++ ([(getN3 x_block (4 * ((k : Nat) : Int)) 4).1] : List Int)) : List Int).length ((((sched16 x_block k) ++ ([(getN3 x_block (4 * ((k : Nat) : Int)) 4).1] : List Int)) : List Int).map iV) := by simpa [Nat.add_assoc] using o37
   obtain ⟨a39, c40, rfl⟩ := own_form o41
   have m42 := m31.ext k36 (fun k hk => Nat.le_trans (Nat.le_refl w0.heap.size) (own_lt o19 k hk).1)
   have s44 : ((sched16 x_block k) ++ ([(getN3 x_block (4 * ((k : Nat) : Int)) 4).1] : List Int)).length ≤ 1073741824 := by first | (simp only [List.length_append, List.length_cons, List.length_nil, List.length_replicate, List.length_take, List.length_drop]; omega) | omega | assumption
   refine aw (vs a39 ((sched16 x_block k) ++ ([(getN3 x_block (4 * ((k : Nat) : Int)) 4).1] : List Int)).length c40) ?_
   refine wl_nil <| wq_blk_normal <| wq_then <| wc_region ?_
   refine mw (vi ((k : Nat) : Int)) ?_
   refine ar (((k : Nat) : Int) + 1) wN ?_
   refine aw (vi (((k : Nat) : Int) + 1)) ?_
   refine wl_nil ?_
   have hE45 : (((sched16 x_block k) ++ ([(getN3 x_block (4 * ((k : Nat) : Int)) 4).1] : List Int)) : List Int) = sched16 x_block (k + 1) := by exact sched16_app (by omega) (by omega)
   refine wq_loopQ (w0 := w2) (fun e => [(vs a1 x_block.length c2), e 1, (vs none 0 0), (.slice a39 (sched16 x_block (k + 1)).length c40), (vi (((k + 1) : Nat) : Int)), e 5, e 6, e 7, U, U, U, U, U, e 13, e 14, e 15, e 16, e 17, e 18, e 19, e 20, e 21, e 22, e 23, e 24, e 25, e 26, e 27, e 28, e 29, e 30, e 31, e 32, e 33, U, U, U, U, U, U, U, U, U, U, U, U, U, U, U, U, U, U, U, U, U, U, U, U, U, U, U, U, U, U, U, U, U, U, U, U, U, U, U, U, U, U, U, U, U, U, U, U, U, U]) rfl ?_ ?_ ?_
   · exact ⟨rfl, rfl, rfl, (congrArg (fun l : List Int => Value.slice a39 l.length c40) hE45), (congrArg (Value.int .i64) (show ((((k : Nat) : Int) + 1) : Int) = (((k + 1) : Nat) : Int) by omega)), rfl, rfl, rfl, rfl, rfl, rfl, rfl, rfl, rfl, rfl, rfl, rfl, rfl, rfl, rfl, rfl, rfl, rfl, rfl, rfl, rfl, rfl, rfl, rfl, rfl, rfl, rfl, rfl, rfl, rfl, rfl, rfl, rfl, rfl, rfl, rfl, rfl, rfl, rfl, rfl, rfl, rfl, rfl, rfl, rfl, rfl, rfl, rfl, rfl, rfl, rfl, rfl, rfl, rfl, rfl, rfl, rfl, rfl, rfl, rfl, rfl, rfl, rfl, rfl, rfl, rfl, rfl, rfl, rfl, rfl, rfl, rfl, rfl, rfl, rfl, rfl, rfl, rfl, rfl, trivial⟩
   · exact fun u => ⟨(k + 1), (unL [u 1, u 5, u 6, u 7, u 13, u 14, u 15, u 16, u 17, u 18, u 19, u 20, u 21, u 22, u 23, u 24, u 25, u 26, u 27, u 28, u 29, u 30, u 31, u 32, u 33]), a39, c40, rfl, m42, (((((Ch.refl (fun k => w0.heap.size ≤ k) w1).ext k17 (fun k hk => hk)).extk k24).extk k27).ext k36 (fun k hk => Nat.le_trans (Nat.le_refl w0.heap.size) (own_lt o19 k hk).1)), (by omega), (hE45 ▸ ⟨o41, s44⟩)⟩
   · show (16 - (((k + 1) : Nat) : Int)).toNat < (16 - ((k : Nat) : Int)).toNat; omega
  have q46 := of_decide_eq_false h22
  refine cf h22 ?_
  refine wc_exit <| wq_then_exit ?_
  obtain rfl : k = 16 := by omega
  refine wq_then_exit <| wq_blk_exit <| wq_then <| wc_seq <| sr ?_
  refine aw (vi 16) ?_
  refine wl_nil <| wq_then <| wc_block ?_
  have hE48 : ((sched16 x_block 16) : List Int) = schedN x_block 0 := by rfl
  refine wc_loopQ (fun e => [e 0, e 1, (vs none 0 0), (.slice a3x (schedN x_block 0).length c3x), e 4, e 5, e 6, e 7, (vi (16 + ((0 : Nat) : Int))), e 9, e 10, e 11, e 12, e 13, e 14, e 15, e 16, e 17, e 18, e 19, e 20, e 21, e 22, e 23, e 24, e 25, e 26, e 27, e 28, e 29, e 30, e 31, e 32, e 33, e 34, e 35, e 36, e 37, e 38, e 39, e 40, e 41, e 42, e 43, e 44, e 45, e 46, e 47, e 48, e 49, e 50, e 51, e 52, e 53, e 54, e 55, e 56, e 57, e 58, e 59, e 60, e 61, e 62, e 63, e 64, e 65, e 66, e 67, e 68, e 69, e 70, e 71, e 72, e 73, e 74, e 75, e 76, e 77, e 78, e 79, e 80, e 81, e 82, U]) rfl ⟨rfl, rfl, rfl, (congrArg (fun l : List Int => Value.slice a3x l.length c3x) hE48), rfl, rfl, rfl, rfl, (congrArg (Value.int .i64) (show (16 : Int) = (16 + ((0 : Nat) : Int)) by omega)), rfl, rfl, rfl, rfl, rfl, rfl, rfl, rfl, rfl, rfl, rfl, rfl, rfl, rfl, rfl, rfl, rfl, rfl, rfl, rfl, rfl, rfl, rfl, rfl, rfl, rfl, rfl, rfl, rfl, rfl, rfl, rfl, rfl, rfl, rfl, rfl, rfl, rfl, rfl, rfl, rfl, rfl, rfl, rfl, rfl, rfl, rfl, rfl, rfl, rfl, rfl, rfl, rfl, rfl, rfl, rfl, rfl, rfl, rfl, rfl, rfl, rfl, rfl, rfl, rfl, rfl, rfl, rfl, rfl, rfl, rfl, rfl, rfl, rfl, rfl, trivial⟩ (fun e' w' => ∃ (m : Nat) (u47 : Nat → Value) (a3x : Option Addr) (c3x : Nat), e' = lst [(u47 0), (u47 1), (vs none 0 0), (.slice a3x (schedN x_block m).length c3x), (u47 2), (u47 3), (u47 4), (u47 5), (vi (16 + ((m : Nat) : Int))), (u47 6), (u47 7), (u47 8), (u47 9), (u47 10), (u47 11), (u47 12), (u47 13), (u47 14), (u47 15), (u47 16), (u47 17), (u47 18), (u47 19), (u47 20), (u47 21), (u47 22), (u47 23), (u47 24), (u47 25), (u47 26), (u47 27), (u47 28), (u47 29), (u47 30), (u47 31), (u47 32), (u47 33), (u47 34), (u47 35), (u47 36), (u47 37), (u47 38), (u47 39), (u47 40), (u47 41), (u47 42), (u47 43), (u47 44), (u47 45), (u47 46), (u47 47), (u47 48), (u47 49), (u47 50), (u47 51), (u47 52), (u47 53), (u47 54), (u47 55), (u47 56), (u47 57), (u47 58), (u47 59), (u47 60), (u47 61), (u47 62), (u47 63), (u47 64), (u47 65), (u47 66), (u47 67), (u47 68), (u47 69), (u47 70), (u47 71), (u47 72), (u47 73), (u47 74), (u47 75), (u47 76), (u47 77), (u47 78), (u47 79), U] ∧ Ch (fun k => w0.heap.size ≤ k) w0 w' ∧ Ch (fun k => w0.heap.size ≤ k) w2 w' ∧ m ≤ 48 ∧ (World.ownsRow w' w0.heap.size 3 1 (.slice a3x (schedN x_block m).length c3x) (schedN x_block m).length ((schedN x_block m).map iV) ∧ (schedN x_block m).length ≤ 1073741824)) (fun e' _ => (64 - (intOf (e' 8))).toNat) ?_ ?_
  ·exact fun u => ⟨0, (unL [u 0, u 1, u 4, u 5, u 6, u 7, u 9, u 10, u 11, u 12, u 13, u 14, u 15, u 16, u 17, u 18, u 19, u 20, u 21, u 22, u 23, u 24, u 25, u 26, u 27, u 28, u 29, u 30, u 31, u 32, u 33, u 34, u 35, u 36, u 37, u 38, u 39, u 40, u 41, u 42, u 43, u 44, u 45, u 46, u 47, u 48, u 49, u 50, u 51, u 52, u 53, u 54, u 55, u 56, u 57, u 58, u 59, u 60, u 61, u 62, u 63, u 64, u 65, u 66, u 67, u 68, u 69, u 70, u 71, u 72, u 73, u 74, u 75, u 76, u 77, u 78, u 79, u 80, u 81, u 82]), a3x, c3x, rfl, m16, (Ch.refl (fun k => w0.heap.size ≤ k) w2), (by omega), (hE48 ▸ ⟨o19, s20⟩)⟩
  ·rintro _ w3 ⟨m, u47, a3x, c3x, rfl, m49, k50, i51, ⟨o52, s53⟩⟩
   have hsl := schedN_len x_block m
   obtain ⟨z7, hz7⟩ : ∃ z, (schedN x_block m).getD (((16 + ((m : Nat) : Int)) - 7)).toNat 0 = z := ⟨_, rfl⟩
   have hg7 : 0 ≤ z7 ∧ z7 < 4294967296 := hz7 ▸ wget (schedN_w x_block m) (((16 + ((m : Nat) : Int)) - 7)).toNat
   obtain ⟨z16, hz16⟩ : ∃ z, (schedN x_block m).getD (((16 + ((m : Nat) : Int)) - 16)).toNat 0 = z := ⟨_, rfl⟩
   have hg16 : 0 ≤ z16 ∧ z16 < 4294967296 := hz16 ▸ wget (schedN_w x_block m) (((16 + ((m : Nat) : Int)) - 16)).toNat
   obtain ⟨z15, hz15⟩ : ∃ z, (schedN x_block m).getD (((16 + ((m : Nat) : Int)) - 15)).toNat 0 = z := ⟨_, rfl⟩
   have hg15 : 0 ≤ z15 ∧ z15 < 4294967296 := hz15 ▸ wget (schedN_w x_block m) (((16 + ((m : Nat) : Int)) - 15)).toNat
   obtain ⟨z2, hz2⟩ : ∃ z, (schedN x_block m).getD (((16 + ((m : Nat) : Int)) - 2)).toNat 0 = z := ⟨_, rfl⟩
   have hg2 : 0 ≤ z2 ∧ z2 < 4294967296 := hz2 ▸ wget (schedN_w x_block m) (((16 + ((m : Nat) : Int)) - 2)).toNat
   refine wc_seq <| sr ?_
   refine mw (vi (16 + ((m : Nat) : Int))) ?_
   refine pu (vb (decide ((16 + ((m : Nat) : Int)) < 64))) wN ?_
   refine n2 ?_
   rcases bf (decide ((16 + ((m : Nat) : Int)) < 64)) with h55 | h55
   ·have q197 := of_decide_eq_false h55
    refine cf h55 ?_
    refine wc_exit <| wq_then_exit <| wq_then_exit <| wq_blk_exit <| wq_then <| sr ?_
    refine mw (vs a3x (schedN x_block m).length c3x) ?_
    refine aw (vs a3x (schedN x_block m).length c3x) ?_
    refine n3 ?_
    refine rt (vs a3x (schedN x_block m).length c3x) ?_
    refine ⟨m49.keep0, ?_⟩
    have hF198 : schedP x_block = (schedN x_block m) := by first | exact schedP_f (by omega) | exact schedP_u (by omega) (by omega) (by omega)
    rw [hF198]
    exact ⟨_, _, rfl, o52, s53, ⟨trivial, trivial⟩⟩
   have q56 := of_decide_eq_true h55
   refine ct h55 ?_
   refine wc_skip <| wq_then <| wc_seq <| wc_block <| sr ?_
   refine mw (vs a3x (schedN x_block m).length c3x) ?_
   refine mw (vi (16 + ((m : Nat) : Int))) ?_
   refine ar ((16 + ((m : Nat) : Int)) - 15) wN ?_
   refine wl_index (v := (vs a3x (schedN x_block m).length c3x)) wN ((16 + ((m : Nat) : Int)) - 15) rfl rfl rfl slTy_32 rfl rfl (Rd.of_own o52) (by first | omega | (simp only [List.length_cons, List.length_nil, List.length_replicate, List.length_append, List.length_take, List.length_set, List.length_map]; omega)) (by first | omega | (simp only [List.length_cons, List.length_nil, List.length_replicate, List.length_append, List.length_take, List.length_set, List.length_map]; omega)) ?_
   refine wl_loadE (iV z15) wN rfl rfl rfl rfl isAgg_3 (Rd.of_own o52) (by rw [← hz15]; exact iget (by simp) (by first | omega | (simp only [List.length_cons, List.length_nil, List.length_replicate, List.length_append, List.length_take, List.length_set, List.length_map]; omega))) ?_
   refine aw (vi z15) ?_
   refine nx ?_
   refine mw (vs a3x (schedN x_block m).length c3x) ?_
   refine mw (vi (16 + ((m : Nat) : Int))) ?_
   refine ar ((16 + ((m : Nat) : Int)) - 2) wN ?_
   refine wl_index (v := (vs a3x (schedN x_block m).length c3x)) wN ((16 + ((m : Nat) : Int)) - 2) rfl rfl rfl slTy_32 rfl rfl (Rd.of_own o52) (by first | omega | (simp only [List.length_cons, List.length_nil, List.length_replicate, List.length_append, List.length_take, List.length_set, List.length_map]; omega)) (by first | omega | (simp only [List.length_cons, List.length_nil, List.length_replicate, List.length_append, List.length_take, List.length_set, List.length_map]; omega)) ?_
   refine wl_loadE (iV z2) wN rfl rfl rfl rfl isAgg_3 (Rd.of_own o52) (by rw [← hz2]; exact iget (by simp) (by first | omega | (simp only [List.length_cons, List.length_nil, List.length_replicate, List.length_append, List.length_take, List.length_set, List.length_map]; omega))) ?_
   refine aw (vi z2) ?_
   refine nx ?_
   refine mw (vi z15) ?_
   refine cl wN (C_spec_Rot w3 z15 7 (by omega) (by omega)) ?_
   rintro _ w4 ⟨k57, rfl⟩
   have m58 := m49.extk k57
   have q59 := rot_b z15 7
   refine mw (vi z15) ?_
   refine cl wN (C_spec_Rot w4 z15 18 (by omega) (by omega)) ?_
   rintro _ w5 ⟨k60, rfl⟩
   have m61 := m58.extk k60
   have q62 := rot_b z15 18
   refine wl_xor (rot z15 7) (rot z15 18) wN rfl rfl (by kernel_rfl) (by omega) (by omega) (by omega) (by omega) ?_
   have q63 := xorI_b (a := (rot z15 7)) (b := (rot z15 18)) (by omega) (by omega)
   refine mw (vi z15) ?_
   refine wl_shrU z15 (3 : Int) wN rfl rfl rfl rfl rfl (by omega) (by omega) ?_
   have q64 := shr_b (a := z15) (by omega) ((3 : Int)).toNat
   refine wl_xor (xorI (rot z15 7) (rot z15 18)) (z15 / (2 : Int) ^ ((3 : Int)).toNat) wN rfl rfl (by kernel_rfl) (by omega) (by omega) (by omega) (by omega) ?_
   have q65 := xorI_b (a := (xorI (rot z15 7) (rot z15 18))) (b := (z15 / (2 : Int) ^ ((3 : Int)).toNat)) (by omega) (by omega)
   refine aw (vi (xorI (xorI (rot z15 7) (rot z15 18)) (z15 / (2 : Int) ^ ((3 : Int)).toNat))) ?_
   refine nx ?_
   refine mw (vi z2) ?_
   refine cl wN (C_spec_Rot w5 z2 17 (by omega) (by omega)) ?_
   rintro _ w6 ⟨k66, rfl⟩
   have m67 := m61.extk k66
   have q68 := rot_b z2 17
   refine mw (vi z2) ?_
   refine cl wN (C_spec_Rot w6 z2 19 (by omega) (by omega)) ?_
   rintro _ w7 ⟨k69, rfl⟩
   have m70 := m67.extk k69
   have q71 := rot_b z2 19
   refine wl_xor (rot z2 17) (rot z2 19) wN rfl rfl (by kernel_rfl) (by omega) (by omega) (by omega) (by omega) ?_
   have q72 := xorI_b (a := (rot z2 17)) (b := (rot z2 19)) (by omega) (by omega)
   refine mw (vi z2) ?_
   refine wl_shrU z2 (10 : Int) wN rfl rfl rfl rfl rfl (by omega) (by omega) ?_
   have q73 := shr_b (a := z2) (by omega) ((10 : Int)).toNat
   refine wl_xor (xorI (rot z2 17) (rot z2 19)) (z2 / (2 : Int) ^ ((10 : Int)).toNat) wN rfl rfl (by kernel_rfl) (by omega) (by omega) (by omega) (by omega) ?_
   have q74 := xorI_b (a := (xorI (rot z2 17) (rot z2 19))) (b := (z2 / (2 : Int) ^ ((10 : Int)).toNat)) (by omega) (by omega)
   refine aw (vi (xorI (xorI (rot z2 17) (rot z2 19)) (z2 / (2 : Int) ^ ((10 : Int)).toNat))) ?_
   refine n2 ?_
   refine wc_drawT ([(64, [], [], (fun _ v _ => v = (vs a3x (schedN x_block m).length c3x))), (65, [], [], (fun _ v _ => v = (vs a3x (schedN x_block m).length c3x))), (66, [], [], (fun _ v _ => v = (vi (16 + ((m : Nat) : Int))))), (67, [], [2], (fun _ v _ => v = (vi ((16 + ((m : Nat) : Int)) - 7)))), (68, [], [1, 2, 3], (fun _ v _ => v = (ve (vs a3x (schedN x_block m).length c3x) ((((16 + ((m : Nat) : Int)) - 7)).toNat * 1)))), (69, [], [1, 2, 3, 4], (fun _ v _ => v = (vi z7))), (70, [], [], (fun _ v _ => v = (vs a3x (schedN x_block m).length c3x))), (71, [], [], (fun _ v _ => v = (vi (16 + ((m : Nat) : Int))))), (72, [], [7], (fun _ v _ => v = (vi ((16 + ((m : Nat) : Int)) - 16)))), (73, [], [6, 7, 8], (fun _ v _ => v = (ve (vs a3x (schedN x_block m).length c3x) ((((16 + ((m : Nat) : Int)) - 16)).toNat * 1)))), (74, [], [6, 7, 8, 9], (fun _ v _ => v = (vi z16))), (75, [], [1, 2, 3, 4, 5, 6, 7, 8, 9, 10], (fun _ v _ => v = (vi (z7 + z16)))), (76, [], [], (fun _ v _ => v = (vi (xorI (xorI (rot z15 7) (rot z15 18)) (z15 / (2 : Int) ^ ((3 : Int)).toNat))))), (77, [], [1, 2, 3, 4, 5, 6, 7, 8, 9, 10, 11, 12], (fun _ v _ => v = (vi ((z7 + z16) + (xorI (xorI (rot z15 7) (rot z15 18)) (z15 / (2 : Int) ^ ((3 : Int)).toNat)))))), (78, [], [], (fun _ v _ => v = (vi (xorI (xorI (rot z2 17) (rot z2 19)) (z2 / (2 : Int) ^ ((10 : Int)).toNat))))), (79, [], [1, 2, 3, 4, 5, 6, 7, 8, 9, 10, 11, 12, 13, 14], (fun _ v _ => v = (vi (((z7 + z16) + (xorI (xorI (rot z15 7) (rot z15 18)) (z15 / (2 : Int) ^ ((3 : Int)).toNat))) + (xorI (xorI (rot z2 17) (rot z2 19)) (z2 / (2 : Int) ^ ((10 : Int)).toNat)))))), (80, [], [1, 2, 3, 4, 5, 6, 7, 8, 9, 10, 11, 12, 13, 14, 15], (fun _ v _ => v = (vi ((((z7 + z16) + (xorI (xorI (rot z15 7) (rot z15 18)) (z15 / (2 : Int) ^ ((3 : Int)).toNat))) + (xorI (xorI (rot z2 17) (rot z2 19)) (z2 / (2 : Int) ^ ((10 : Int)).toNat))) % 4294967296)))), (81, [], [1, 2, 3, 4, 5, 6, 7, 8, 9, 10, 11, 12, 13, 14, 15, 16], (fun _ v w => ∃ (a1 : Option Addr) (c1 : Nat), v = .slice a1 ([((((z7 + z16) + (xorI (xorI (rot z15 7) (rot z15 18)) (z15 / (2 : Int) ^ ((3 : Int)).toNat))) + (xorI (xorI (rot z2 17) (rot z2 19)) (z2 / (2 : Int) ^ ((10 : Int)).toNat))) % 4294967296)] : List Int).length c1 ∧ w.ownsRow w7.heap.size 3 1 (.slice a1 ([((((z7 + z16) + (xorI (xorI (rot z15 7) (rot z15 18)) (z15 / (2 : Int) ^ ((3 : Int)).toNat))) + (xorI (xorI (rot z2 17) (rot z2 19)) (z2 / (2 : Int) ^ ((10 : Int)).toNat))) % 4294967296)] : List Int).length c1) ([((((z7 + z16) + (xorI (xorI (rot z15 7) (rot z15 18)) (z15 / (2 : Int) ^ ((3 : Int)).toNat))) + (xorI (xorI (rot z2 17) (rot z2 19)) (z2 / (2 : Int) ^ ((10 : Int)).toNat))) % 4294967296)] : List Int).length (([((((z7 + z16) + (xorI (xorI (rot z15 7) (rot z15 18)) (z15 / (2 : Int) ^ ((3 : Int)).toNat))) + (xorI (xorI (rot z2 17) (rot z2 19)) (z2 / (2 : Int) ^ ((10 : Int)).toNat))) % 4294967296)] : List Int).map iV) ∧ ([((((z7 + z16) + (xorI (xorI (rot z15 7) (rot z15 18)) (z15 / (2 : Int) ^ ((3 : Int)).toNat))) + (xorI (xorI (rot z2 17) (rot z2 19)) (z2 / (2 : Int) ^ ((10 : Int)).toNat))) % 4294967296)] : List Int).length ≤ 1073741824 ∧ Aps [(a1, c1)]))] : GV) (fun _ w' => Keep w7 w') [] mixed rfl (by kernel_rfl) (by kernel_rfl) ?_ (fun _ _ h => h) (fun _ _ _ _ h _ k => h.trans k) trivial ?_ ?_ ?_
   ·exact ⟨(fun _ _ _ _ h _ => h), (fun _ _ _ _ _ h => h), ⟨(fun _ _ _ _ h _ => h), (fun _ _ _ _ _ h => h), ⟨(fun _ _ _ _ h _ => h), (fun _ _ _ _ _ h => h), ⟨(fun _ _ _ _ h _ => h), (fun _ _ _ _ _ h => h), ⟨(fun _ _ _ _ h _ => h), (fun _ _ _ _ _ h => h), ⟨(fun _ _ _ _ h _ => h), (fun _ _ _ _ _ h => h), ⟨(fun _ _ _ _ h _ => h), (fun _ _ _ _ _ h => h), ⟨(fun _ _ _ _ h _ => h), (fun _ _ _ _ _ h => h), ⟨(fun _ _ _ _ h _ => h), (fun _ _ _ _ _ h => h), ⟨(fun _ _ _ _ h _ => h), (fun _ _ _ _ _ h => h), ⟨(fun _ _ _ _ h _ => h), (fun _ _ _ _ _ h => h), ⟨(fun _ _ _ _ h _ => h), (fun _ _ _ _ _ h => h), ⟨(fun _ _ _ _ h _ => h), (fun _ _ _ _ _ h => h), ⟨(fun _ _ _ _ h _ => h), (fun _ _ _ _ _ h => h), ⟨(fun _ _ _ _ h _ => h), (fun _ _ _ _ _ h => h), ⟨(fun _ _ _ _ h _ => h), (fun _ _ _ _ _ h => h), ⟨(fun _ _ _ _ h _ => h), (fun _ _ _ _ _ h => h), ⟨(fun e v w w1 h hk => by obtain ⟨a0x, c0x, he, o0x, l0x, hap⟩ := h; exact ⟨a0x, c0x, he, own_kp o0x hk, l0x, hap⟩), (fun _ _ _ _ _ h => h), trivial⟩⟩⟩⟩⟩⟩⟩⟩⟩⟩⟩⟩⟩⟩⟩⟩⟩⟩
   ·exact trivial
   ·refine ⟨?_, ⟨?_, ⟨?_, ⟨?_, ⟨?_, ⟨?_, ⟨?_, ⟨?_, ⟨?_, ⟨?_, ⟨?_, ⟨?_, ⟨?_, ⟨?_, ⟨?_, ⟨?_, ⟨?_, ⟨?_, trivial⟩⟩⟩⟩⟩⟩⟩⟩⟩⟩⟩⟩⟩⟩⟩⟩⟩⟩
    ·intro _ w8 k104 _
     have m105 := m70.extk k104
     rintro _ _ _ _ _ _ _ _ _ _ _ _ _ _ _ _ _ _
     show WL _ _ _ _ _ _ _
     refine mw (vs a3x (schedN x_block m).length c3x) ?_
     exact f1
    ·intro _ w8 k106 _
     have m107 := m70.extk k106
     rintro _ _ _ _ _ _ _ _ _ _ _ _ _ _ _ _ _ _
     show WL _ _ _ _ _ _ _
     refine mw (vs a3x (schedN x_block m).length c3x) ?_
     exact f1
    ·intro _ w8 k108 _
     have m109 := m70.extk k108
     rintro _ _ _ _ _ _ _ _ _ _ _ _ _ _ _ _ _ _
     show WL _ _ _ _ _ _ _
     refine mw (vi (16 + ((m : Nat) : Int))) ?_
     exact f1
    ·intro _ w8 k110 _
     have m111 := m70.extk k110
     rintro _ _ _ rfl _ _ _ _ _ _ _ _ _ _ _ _ _ _ _
     show WL _ _ _ _ _ _ _
     refine ar ((16 + ((m : Nat) : Int)) - 7) wN ?_
     exact f1
    ·intro _ w8 k112 _
     have m113 := m70.extk k112
     rintro _ _ rfl _ rfl _ rfl _ _ _ _ _ _ _ _ _ _ _ _ _ _
     show WL _ _ _ _ _ _ _
     have o114 := (own_kp (own_kp (own_kp (own_kp (own_kp o52 k57) k60) k66) k69) k112)
     refine wl_index (v := (vs a3x (schedN x_block m).length c3x)) wN ((16 + ((m : Nat) : Int)) - 7) rfl rfl rfl slTy_32 rfl rfl (Rd.of_own o114) (by first | omega | (simp only [List.length_cons, List.length_nil, List.length_replicate, List.length_append, List.length_take, List.length_set, List.length_map]; omega)) (by first | omega | (simp only [List.length_cons, List.length_nil, List.length_replicate, List.length_append, List.length_take, List.length_set, List.length_map]; omega)) ?_
     exact f1
    ·intro _ w8 k115 _
     have m116 := m70.extk k115
     rintro _ _ rfl _ rfl _ rfl _ rfl _ _ _ _ _ _ _ _ _ _ _ _ _
     show WL _ _ _ _ _ _ _
     have o118 := (own_kp (own_kp (own_kp (own_kp (own_kp o52 k57) k60) k66) k69) k115)
     refine wl_loadE (iV z7) wN rfl rfl rfl rfl isAgg_3 (Rd.of_own o118) (by rw [← hz7]; exact iget (by simp) (by first | omega | (simp only [List.length_cons, List.length_nil, List.length_replicate, List.length_append, List.length_take, List.length_set, List.length_map]; omega))) ?_
     exact f1
    ·intro _ w8 k119 _
     have m120 := m70.extk k119
     rintro _ _ _ _ _ _ _ _ _ _ _ _ _ _ _ _ _ _
     show WL _ _ _ _ _ _ _
     refine mw (vs a3x (schedN x_block m).length c3x) ?_
     exact f1
    ·intro _ w8 k121 _
     have m122 := m70.extk k121
     rintro _ _ _ _ _ _ _ _ _ _ _ _ _ _ _ _ _ _
     show WL _ _ _ _ _ _ _
     refine mw (vi (16 + ((m : Nat) : Int))) ?_
     exact f1
    ·intro _ w8 k123 _
     have m124 := m70.extk k123
     rintro _ _ _ _ _ _ _ _ rfl _ _ _ _ _ _ _ _ _ _
     show WL _ _ _ _ _ _ _
     refine ar ((16 + ((m : Nat) : Int)) - 16) wN ?_
     exact f1
    ·intro _ w8 k125 _
     have m126 := m70.extk k125
     rintro _ _ _ _ _ _ _ rfl _ rfl _ rfl _ _ _ _ _ _ _ _ _
     show WL _ _ _ _ _ _ _
     have o127 := (own_kp (own_kp (own_kp (own_kp (own_kp o52 k57) k60) k66) k69) k125)
     refine wl_index (v := (vs a3x (schedN x_block m).length c3x)) wN ((16 + ((m : Nat) : Int)) - 16) rfl rfl rfl slTy_32 rfl rfl (Rd.of_own o127) (by first | omega | (simp only [List.length_cons, List.length_nil, List.length_replicate, List.length_append, List.length_take, List.length_set, List.length_map]; omega)) (by first | omega | (simp only [List.length_cons, List.length_nil, List.length_replicate, List.length_append, List.length_take, List.length_set, List.length_map]; omega)) ?_
     exact f1
    ·intro _ w8 k128 _
     have m129 := m70.extk k128
     rintro _ _ _ _ _ _ _ rfl _ rfl _ rfl _ rfl _ _ _ _ _ _ _ _
     show WL _ _ _ _ _ _ _
     have o131 := (own_kp (own_kp (own_kp (own_kp (own_kp o52 k57) k60) k66) k69) k128)
     refine wl_loadE (iV z16) wN rfl rfl rfl rfl isAgg_3 (Rd.of_own o131) (by rw [← hz16]; exact iget (by simp) (by first | omega | (simp only [List.length_cons, List.length_nil, List.length_replicate, List.length_append, List.length_take, List.length_set, List.length_map]; omega))) ?_
     exact f1
    ·intro _ w8 k132 _
     have m133 := m70.extk k132
     rintro _ _ rfl _ rfl _ rfl _ rfl _ rfl _ rfl _ rfl _ rfl _ rfl _ rfl _ _ _ _ _ _ _
     show WL _ _ _ _ _ _ _
     refine ar (z7 + z16) wN ?_
     exact f1
    ·intro _ w8 k138 _
     have m139 := m70.extk k138
     rintro _ _ _ _ _ _ _ _ _ _ _ _ _ _ _ _ _ _
     show WL _ _ _ _ _ _ _
     refine mw (vi (xorI (xorI (rot z15 7) (rot z15 18)) (z15 / (2 : Int) ^ ((3 : Int)).toNat))) ?_
     exact f1
    ·intro _ w8 k140 _
     have m141 := m70.extk k140
     rintro _ _ rfl _ rfl _ rfl _ rfl _ rfl _ rfl _ rfl _ rfl _ rfl _ rfl _ rfl _ rfl _ _ _ _ _
     show WL _ _ _ _ _ _ _
     refine ar ((z7 + z16) + (xorI (xorI (rot z15 7) (rot z15 18)) (z15 / (2 : Int) ^ ((3 : Int)).toNat))) wN ?_
     exact f1
    ·intro _ w8 k146 _
     have m147 := m70.extk k146
     rintro _ _ _ _ _ _ _ _ _ _ _ _ _ _ _ _ _ _
     show WL _ _ _ _ _ _ _
     refine mw (vi (xorI (xorI (rot z2 17) (rot z2 19)) (z2 / (2 : Int) ^ ((10 : Int)).toNat))) ?_
     exact f1
    ·intro _ w8 k148 _
     have m149 := m70.extk k148
     rintro _ _ rfl _ rfl _ rfl _ rfl _ rfl _ rfl _ rfl _ rfl _ rfl _ rfl _ rfl _ rfl _ rfl _ rfl _ _ _
     show WL _ _ _ _ _ _ _
     refine ar (((z7 + z16) + (xorI (xorI (rot z15 7) (rot z15 18)) (z15 / (2 : Int) ^ ((3 : Int)).toNat))) + (xorI (xorI (rot z2 17) (rot z2 19)) (z2 / (2 : Int) ^ ((10 : Int)).toNat))) wN ?_
     exact f1
    ·intro _ w8 k154 _
     have m155 := m70.extk k154
     rintro _ _ rfl _ rfl _ rfl _ rfl _ rfl _ rfl _ rfl _ rfl _ rfl _ rfl _ rfl _ rfl _ rfl _ rfl _ rfl _ _
     show WL _ _ _ _ _ _ _
     refine wl_and (((z7 + z16) + (xorI (xorI (rot z15 7) (rot z15 18)) (z15 / (2 : Int) ^ ((3 : Int)).toNat))) + (xorI (xorI (rot z2 17) (rot z2 19)) (z2 / (2 : Int) ^ ((10 : Int)).toNat))) 4294967295 4294967296 32 wN rfl rfl (by decide) (by decide) (by decide) (by kernel_rfl) ?_
     exact f1
    ·intro _ w8 k160 _
     have m161 := m70.extk k160
     rintro _ _ rfl _ rfl _ rfl _ rfl _ rfl _ rfl _ rfl _ rfl _ rfl _ rfl _ rfl _ rfl _ rfl _ rfl _ rfl _ rfl _
     show WL _ _ _ _ _ _ _
     refine wl_lit [(vi ((((z7 + z16) + (xorI (xorI (rot z15 7) (rot z15 18)) (z15 / (2 : Int) ^ ((3 : Int)).toNat))) + (xorI (xorI (rot z2 17) (rot z2 19)) (z2 / (2 : Int) ^ ((10 : Int)).toNat))) % 4294967296))] wN rfl rfl slTy_32 (m := 1) rfl (by simp only [maxLen]; omega) (fun w => by kernel_rfl) ?_
     intro u166 w9 k167 o168
     obtain ⟨a169, c170, rfl⟩ := own_form o168
     have m171 := m161.extk k167
     have o173 : w9.ownsRow w8.heap.size 3 1 (.slice a169 (([((((z7 + z16) + (xorI (xorI (rot z15 7) (rot z15 18)) (z15 / (2 : Int) ^ ((3 : Int)).toNat))) + (xorI (xorI (rot z2 17) (rot z2 19)) (z2 / (2 : Int) ^ ((10 : Int)).toNat))) % 4294967296)] : List Int) : List Int).length c170) (([((((z7 + z16) + (xorI (xorI (rot z15 7) (rot z15 18)) (z15 / (2 : Int) ^ ((3 : Int)).toNat))) + (xorI (xorI (rot z2 17) (rot z2 19)) (z2 / (2 : Int) ^ ((10 : Int)).toNat))) % 4294967296)] : List Int) : List Int).length ((([((((z7 + z16) + (xorI (xorI (rot z15 7) (rot z15 18)) (z15 / (2 : Int) ^ ((3 : Int)).toNat))) + (xorI (xorI (rot z2 17) (rot z2 19)) (z2 / (2 : Int) ^ ((10 : Int)).toNat))) % 4294967296)] : List Int) : List Int).map iV) := o168
     exact wl_finT k167 ⟨_, _, rfl, (own_lo o173 k160.size), (by simp), ⟨trivial, trivial⟩⟩
   ·intro _ w8 k174
    have m175 := m70.extk k174
    rintro _ rfl _ rfl _ rfl _ rfl _ rfl _ rfl _ rfl _ rfl _ rfl _ rfl _ rfl _ rfl _ rfl _ rfl _ rfl _ rfl _ rfl _ ⟨a180, c181, rfl, o182, s183, -⟩
    show WL _ _ _ _ _ _ _
    have o185 := (own_kp (own_kp (own_kp (own_kp (own_kp o52 k57) k60) k66) k69) k174)
    refine wl_append (v := (vs a3x (schedN x_block m).length c3x)) wN rfl rfl rfl slTy_32 rfl rfl o185 (Rd.of_own o182) (all_iV _) (by first | (simp only [List.length_append, List.length_cons, List.length_nil, List.length_replicate, List.length_take, List.length_drop]; omega) | omega) (by simp only [maxLen]; first | (simp only [List.length_append, List.length_cons, List.length_nil, List.length_replicate, List.length_take, List.length_drop]; omega) | omega) (z8 k7 k17 k50 k57 k60 k66 k69 k174) ?_
    intro u186 w9 k187 o188 j189
    have o192 : w9.ownsRow w0.heap.size 3 1 u186 (((schedN x_block m) ++ ([((((z7 + z16) + (xorI (xorI (rot z15 7) (rot z15 18)) (z15 / (2 : Int) ^ ((3 : Int)).toNat))) + (xorI (xorI (rot z2 17) (rot z2 19)) (z2 / (2 : Int) ^ ((10 : Int)).toNat))) % 4294967296)] : List Int)) : List Int).length ((((schedN x_block m) ++ ([((((z7 + z16) + (xorI (xorI (rot z15 7) (rot z15 18)) (z15 / (2 : Int) ^ ((3 : Int)).toNat))) + (xorI (xorI (rot z2 17) (rot z2 19)) (z2 / (2 : Int) ^ ((10 : Int)).toNat))) % 4294967296)] : List Int)) : List Int).map iV) := by simpa [Nat.add_assoc] using o188
    obtain ⟨a190, c191, rfl⟩ := own_form o192
    have m193 := m175.ext k187 (fun k hk => Nat.le_trans (Nat.le_refl w0.heap.size) (own_lt o52 k hk).1)
    have s195 : ((schedN x_block m) ++ ([((((z7 + z16) + (xorI (xorI (rot z15 7) (rot z15 18)) (z15 / (2 : Int) ^ ((3 : Int)).toNat))) + (xorI (xorI (rot z2 17) (rot z2 19)) (z2 / (2 : Int) ^ ((10 : Int)).toNat))) % 4294967296)] : List Int)).length ≤ 1073741824 := by first | (simp only [List.length_append, List.length_cons, List.length_nil, List.length_replicate, List.length_take, List.length_drop]; omega) | omega | assumption
    refine aw (vs a190 ((schedN x_block m) ++ ([((((z7 + z16) + (xorI (xorI (rot z15 7) (rot z15 18)) (z15 / (2 : Int) ^ ((3 : Int)).toNat))) + (xorI (xorI (rot z2 17) (rot z2 19)) (z2 / (2 : Int) ^ ((10 : Int)).toNat))) % 4294967296)] : List Int)).length c191) ?_
    refine wl_nil <| wq_blk_normal <| wq_then <| wc_region ?_
    refine mw (vi (16 + ((m : Nat) : Int))) ?_
    refine ar ((16 + ((m : Nat) : Int)) + 1) wN ?_
    refine aw (vi ((16 + ((m : Nat) : Int)) + 1)) ?_
    refine wl_nil ?_
    have hE196 : (((schedN x_block m) ++ ([((((z7 + z16) + (xorI (xorI (rot z15 7) (rot z15 18)) (z15 / (2 : Int) ^ ((3 : Int)).toNat))) + (xorI (xorI (rot z2 17) (rot z2 19)) (z2 / (2 : Int) ^ ((10 : Int)).toNat))) % 4294967296)] : List Int)) : List Int) = schedN x_block (m + 1) := by subst hz7 hz16 hz15 hz2; exact schedN_app
    refine wq_loopQ (w0 := w3) (fun e => [e 0, e 1, (vs none 0 0), (.slice a190 (schedN x_block (m + 1)).length c191), e 4, e 5, e 6, e 7, (vi (16 + (((m + 1) : Nat) : Int))), e 9, e 10, e 11, e 12, e 13, e 14, e 15, e 16, e 17, e 18, e 19, e 20, e 21, e 22, e 23, e 24, e 25, e 26, e 27, e 28, e 29, e 30, e 31, e 32, e 33, e 34, e 35, e 36, e 37, e 38, e 39, e 40, e 41, e 42, e 43, e 44, e 45, e 46, e 47, e 48, e 49, e 50, e 51, e 52, e 53, e 54, e 55, e 56, e 57, e 58, e 59, e 60, e 61, e 62, e 63, e 64, e 65, e 66, e 67, e 68, e 69, e 70, e 71, e 72, e 73, e 74, e 75, e 76, e 77, e 78, e 79, e 80, e 81, e 82, U]) rfl ?_ ?_ ?_
    · exact ⟨rfl, rfl, rfl, (congrArg (fun l : List Int => Value.slice a190 l.length c191) hE196), rfl, rfl, rfl, rfl, (congrArg (Value.int .i64) (show (((16 + ((m : Nat) : Int)) + 1) : Int) = (16 + (((m + 1) : Nat) : Int)) by omega)), rfl, rfl, rfl, rfl, rfl, rfl, rfl, rfl, rfl, rfl, rfl, rfl, rfl, rfl, rfl, rfl, rfl, rfl, rfl, rfl, rfl, rfl, rfl, rfl, rfl, rfl, rfl, rfl, rfl, rfl, rfl, rfl, rfl, rfl, rfl, rfl, rfl, rfl, rfl, rfl, rfl, rfl, rfl, rfl, rfl, rfl, rfl, rfl, rfl, rfl, rfl, rfl, rfl, rfl, rfl, rfl, rfl, rfl, rfl, rfl, rfl, rfl, rfl, rfl, rfl, rfl, rfl, rfl, rfl, rfl, rfl, rfl, rfl, rfl, rfl, trivial⟩
    · exact fun u => ⟨(m + 1), (unL [u 0, u 1, u 4, u 5, u 6, u 7, u 9, u 10, u 11, u 12, u 13, u 14, u 15, u 16, u 17, u 18, u 19, u 20, u 21, u 22, u 23, u 24, u 25, u 26, u 27, u 28, u 29, u 30, u 31, u 32, u 33, u 34, u 35, u 36, u 37, u 38, u 39, u 40, u 41, u 42, u 43, u 44, u 45, u 46, u 47, u 48, u 49, u 50, u 51, u 52, u 53, u 54, u 55, u 56, u 57, u 58, u 59, u 60, u 61, u 62, u 63, u 64, u 65, u 66, u 67, u 68, u 69, u 70, u 71, u 72, u 73, u 74, u 75, u 76, u 77, u 78, u 79, u 80, u 81, u 82]), a190, c191, rfl, m193, ((((((((Ch.refl (fun k => w0.heap.size ≤ k) w2).ext k50 (fun k hk => hk)).extk k57).extk k60).extk k66).extk k69).extk k174).ext k187 (fun k hk => Nat.le_trans (Nat.le_refl w0.heap.size) (own_lt o52 k hk).1)), (by omega), (hE196 ▸ ⟨o192, s195⟩)⟩
    · show (64 - (16 + (((m + 1) : Nat) : Int))).toNat < (64 - (16 + ((m : Nat) : Int))).toNat; omega

theorem sizeOf_3 : ∀ w, (sizeOf 3).run Try.prog w = .ok 1 w := fun w => by kernel_rfl
theorem mR_32 {w : World} {x : List Int} {a1 : Option Addr} {c1 : Nat} (h1 : Rd w 1 (.slice a1 x.length c1) x.length (x.map iV)) (l1 : x.length ≤ 1073741824) : R_32 w (vs a1 x.length c1) x := ⟨_, _, rfl, h1, l1⟩
theorem C_spec_Compress (w0 : World) (v_x_h : Value) (x_h : List Int) (r_x_h : R_32 w0 v_x_h x_h) (v_x_block : Value) (x_block : List UInt8) (r_x_block : R_22 w0 v_x_block x_block)  : Fn Try.prog 154 #[v_x_h, v_x_block] w0 (fun v w' => Keep w0 w' ∧ O_32 w' w0.heap.size v (compress x_h x_block)) := by
 obtain ⟨a1, c2, rfl, r3, s4⟩ := r_x_h
 obtain ⟨a6, c7, rfl, r8, s9⟩ := r_x_block
 refine fn_of (n := 156) (l := [(vs a1 x_h.length c2), (vs a6 x_block.length c7), U, U, U, U, U, U, U, U, U, U, U, U, U, U, U, U, U, U, U, U, U, U, U, U, U, U, U, U, U, U, U, U, U, U, U, U, U, U, U, U, U, U, U, U, U, U, U, U, U, U, U, U, U, U, U, U, U, U, U, U, U, U, U, U, U, U, U, U, U, U, U, U, U, U, U, U, U, U, U, U, U, U, U, U, U, U, U, U, U, U, U, U, U, U, U, U, U, U, U, U, U, U, U, U, U, U, U, U, U, U, U, U, U, U, U, U, U, U, U, U, U, U, U, U, U, U, U, U, U, U, U, U, U, U, U, U, U, U, U, U, U, U, U, U, U, U, U, U, U, U, U, U, U, U]) Try.func154 rfl rfl (by kernel_rfl) rfl ?_
 refine sr ?_
 refine aw (vs none 0 0) ?_
 refine nx ?_
 refine wl_lit0 wN rfl rfl slTy_32 (fun w => by kernel_rfl) ?_
 intro a11 w1 k12 o13
 have m14 := (Ch.base w0).extk k12
 refine mw (vs a1 x_h.length c2) ?_
 refine wl_append0 wN rfl rfl rfl slTy_32 rfl rfl o13 (r3.from0 m14) (all_iV _) (by first | (simp only [List.length_append, List.length_cons, List.length_nil, List.length_replicate, List.length_take, List.length_drop]; omega) | omega) (by simp only [maxLen]; first | (simp only [List.length_append, List.length_cons, List.length_nil, List.length_replicate, List.length_take, List.length_drop]; omega) | omega) k12.size ?_
 intro u16 w2 k17 o18 j19
 obtain ⟨a20, c21, rfl⟩ := own_form o18
 have n22 : New w1 a20 c21 := j19 _ _ rfl
 have m23 := m14.extk k17
 refine aw (vs a20 x_h.length c21) ?_
 refine n4 ?_
 refine mw (vs a1 x_h.length c2) ?_
 refine cl wN (C_spec_l2Words w2 _ x_h (mR_32 (r3.from0 m23) s4)) ?_
 rintro _ w3 ⟨k25, rfl⟩
 have m26 := m23.extk k25
 refine pu (vb (!(ws8 x_h))) wN ?_
 refine mw (vb (!(ws8 x_h))) ?_
 rcases bf (ws8 x_h) with h27 | h27
 ·refine sk (congrArg not h27) ?_
  refine sk (congrArg not h27) ?_
  refine sk (congrArg not h27) ?_
  refine pk (vb true) wN (congrArg not h27) ?_
  refine n2 ?_
  refine ct (Eq.refl true) ?_
  refine sr ?_
  refine mw (vs a20 x_h.length c21) ?_
  refine aw (vs a20 x_h.length c21) ?_
  refine n1 ?_
  have o369 := (own_kp o18 k25)
  refine rt (vs a20 x_h.length c21) ?_
  refine ⟨m26.keep0, ?_⟩
  have hF370 : compress x_h x_block = x_h := by first | exact compress_f (by first | assumption | exact ‹ws8 x_h = false›) | exact compress_g (by omega) | exact compress_t (by first | assumption | exact ‹ws8 x_h = true›) (by omega) (by omega)
  rw [hF370]
  exact ⟨_, _, rfl, o369, s4, ⟨trivial, trivial⟩⟩
 have q28 := ws8_t h27
 refine mv (vs a6 x_block.length c7) (wS (congrArg not h27)) ?_
 refine ln (wS (congrArg not h27)) slTy_22 (r8.from0 m26) ?_
 refine pu (vb (!(decide ((x_block.length : Int) = 64)))) (wS (congrArg not h27)) ?_
 refine pf (vb (!(decide ((x_block.length : Int) = 64)))) wN (congrArg not h27) ?_
 refine n2 ?_
 rcases bf (decide ((x_block.length : Int) = 64)) with h29 | h29
 ·have q365 := of_decide_eq_false h29
  refine ct (congrArg not h29) ?_
  refine sr ?_
  refine mw (vs a20 x_h.length c21) ?_
  refine aw (vs a20 x_h.length c21) ?_
  refine n1 ?_
  have o366 := (own_kp o18 k25)
  refine rt (vs a20 x_h.length c21) ?_
  refine ⟨m26.keep0, ?_⟩
  have hF367 : compress x_h x_block = x_h := by first | exact compress_f (by first | assumption | exact ‹ws8 x_h = false›) | exact compress_g (by omega) | exact compress_t (by first | assumption | exact ‹ws8 x_h = true›) (by omega) (by omega)
  rw [hF367]
  exact ⟨_, _, rfl, o366, s4, ⟨trivial, trivial⟩⟩
 have q30 := of_decide_eq_true h29
 refine cf (congrArg not h29) ?_
 refine y1 ?_
 refine cl wN (C_spec_l2K w3 ) ?_
 rintro _ w4 ⟨k31, ⟨a32, c33, rfl, o34, s35, ap37⟩⟩
 have m38 := m26.extk k31
 refine aw (vs a32 (kw).length c33) ?_
 refine nx ?_
 refine mw (vs a6 x_block.length c7) ?_
 refine cl wN (C_spec_Schedule w4 _ x_block (mR_22 (r8.from0 m38) s9)) ?_
 rintro _ w5 ⟨k39, ⟨a40, c41, rfl, o42, s43, ap45⟩⟩
 have m46 := m38.extk k39
 have q47 := schedP_len x_block
 refine aw (vs a40 (schedP x_block).length c41) ?_
 refine wl_nil <| wq_then <| wc_seq ?_
 refine wc_draw ([(36, [], [], (fun _ v _ => v = (vs a1 x_h.length c2))), (37, [], [0], (fun _ v _ => v = (ve (vs a1 x_h.length c2) ((0 : Int).toNat * 1)))), (38, [], [0, 1], (fun _ v _ => v = (vi (x_h.getD 0 0)))), (39, [], [], (fun _ v _ => v = (vs a1 x_h.length c2))), (40, [], [3], (fun _ v _ => v = (ve (vs a1 x_h.length c2) ((1 : Int).toNat * 1)))), (41, [], [3, 4], (fun _ v _ => v = (vi (x_h.getD 1 0)))), (42, [], [], (fun _ v _ => v = (vs a1 x_h.length c2))), (43, [], [6], (fun _ v _ => v = (ve (vs a1 x_h.length c2) ((2 : Int).toNat * 1)))), (44, [], [6, 7], (fun _ v _ => v = (vi (x_h.getD 2 0)))), (45, [], [], (fun _ v _ => v = (vs a1 x_h.length c2))), (46, [], [9], (fun _ v _ => v = (ve (vs a1 x_h.length c2) ((3 : Int).toNat * 1)))), (47, [], [9, 10], (fun _ v _ => v = (vi (x_h.getD 3 0)))), (48, [], [], (fun _ v _ => v = (vs a1 x_h.length c2))), (49, [], [12], (fun _ v _ => v = (ve (vs a1 x_h.length c2) ((4 : Int).toNat * 1)))), (50, [], [12, 13], (fun _ v _ => v = (vi (x_h.getD 4 0)))), (51, [], [], (fun _ v _ => v = (vs a1 x_h.length c2))), (52, [], [15], (fun _ v _ => v = (ve (vs a1 x_h.length c2) ((5 : Int).toNat * 1)))), (53, [], [15, 16], (fun _ v _ => v = (vi (x_h.getD 5 0)))), (54, [], [], (fun _ v _ => v = (vs a1 x_h.length c2))), (55, [], [18], (fun _ v _ => v = (ve (vs a1 x_h.length c2) ((6 : Int).toNat * 1)))), (56, [], [18, 19], (fun _ v _ => v = (vi (x_h.getD 6 0)))), (57, [], [], (fun _ v _ => v = (vs a1 x_h.length c2))), (58, [], [21], (fun _ v _ => v = (ve (vs a1 x_h.length c2) ((7 : Int).toNat * 1)))), (59, [], [21, 22], (fun _ v _ => v = (vi (x_h.getD 7 0)))), (8, [], [0, 1, 2], (fun _ v _ => v = (vi (x_h.getD 0 0)))), (9, [], [0, 1, 2, 3, 4, 5, 24], (fun _ v _ => v = (vi (x_h.getD 1 0)))), (10, [], [0, 1, 2, 3, 4, 5, 6, 7, 8, 24, 25], (fun _ v _ => v = (vi (x_h.getD 2 0)))), (11, [], [0, 1, 2, 3, 4, 5, 6, 7, 8, 9, 10, 11, 24, 25, 26], (fun _ v _ => v = (vi (x_h.getD 3 0)))), (12, [], [0, 1, 2, 3, 4, 5, 6, 7, 8, 9, 10, 11, 12, 13, 14, 24, 25, 26, 27], (fun _ v _ => v = (vi (x_h.getD 4 0)))), (13, [], [0, 1, 2, 3, 4, 5, 6, 7, 8, 9, 10, 11, 12, 13, 14, 15, 16, 17, 24, 25, 26, 27, 28], (fun _ v _ => v = (vi (x_h.getD 5 0)))), (14, [], [0, 1, 2, 3, 4, 5, 6, 7, 8, 9, 10, 11, 12, 13, 14, 15, 16, 17, 18, 19, 20, 24, 25, 26, 27, 28, 29], (fun _ v _ => v = (vi (x_h.getD 6 0))))] : GV) mixed rfl (by kernel_rfl) (by kernel_rfl) ?_ ?_ ?_
 ·exact ⟨(fun _ _ _ _ h _ => h), (fun _ _ _ _ _ h => h), ⟨(fun _ _ _ _ h _ => h), (fun _ _ _ _ _ h => h), ⟨(fun _ _ _ _ h _ => h), (fun _ _ _ _ _ h => h), ⟨(fun _ _ _ _ h _ => h), (fun _ _ _ _ _ h => h), ⟨(fun _ _ _ _ h _ => h), (fun _ _ _ _ _ h => h), ⟨(fun _ _ _ _ h _ => h), (fun _ _ _ _ _ h => h), ⟨(fun _ _ _ _ h _ => h), (fun _ _ _ _ _ h => h), ⟨(fun _ _ _ _ h _ => h), (fun _ _ _ _ _ h => h), ⟨(fun _ _ _ _ h _ => h), (fun _ _ _ _ _ h => h), ⟨(fun _ _ _ _ h _ => h), (fun _ _ _ _ _ h => h), ⟨(fun _ _ _ _ h _ => h), (fun _ _ _ _ _ h => h), ⟨(fun _ _ _ _ h _ => h), (fun _ _ _ _ _ h => h), ⟨(fun _ _ _ _ h _ => h), (fun _ _ _ _ _ h => h), ⟨(fun _ _ _ _ h _ => h), (fun _ _ _ _ _ h => h), ⟨(fun _ _ _ _ h _ => h), (fun _ _ _ _ _ h => h), ⟨(fun _ _ _ _ h _ => h), (fun _ _ _ _ _ h => h), ⟨(fun _ _ _ _ h _ => h), (fun _ _ _ _ _ h => h), ⟨(fun _ _ _ _ h _ => h), (fun _ _ _ _ _ h => h), ⟨(fun _ _ _ _ h _ => h), (fun _ _ _ _ _ h => h), ⟨(fun _ _ _ _ h _ => h), (fun _ _ _ _ _ h => h), ⟨(fun _ _ _ _ h _ => h), (fun _ _ _ _ _ h => h), ⟨(fun _ _ _ _ h _ => h), (fun _ _ _ _ _ h => h), ⟨(fun _ _ _ _ h _ => h), (fun _ _ _ _ _ h => h), ⟨(fun _ _ _ _ h _ => h), (fun _ _ _ _ _ h => h), ⟨(fun _ _ _ _ h _ => h), (fun _ _ _ _ _ h => h), ⟨(fun _ _ _ _ h _ => h), (fun _ _ _ _ _ h => h), ⟨(fun _ _ _ _ h _ => h), (fun _ _ _ _ _ h => h), ⟨(fun _ _ _ _ h _ => h), (fun _ _ _ _ _ h => h), ⟨(fun _ _ _ _ h _ => h), (fun _ _ _ _ _ h => h), ⟨(fun _ _ _ _ h _ => h), (fun _ _ _ _ _ h => h), ⟨(fun _ _ _ _ h _ => h), (fun _ _ _ _ _ h => h), trivial⟩⟩⟩⟩⟩⟩⟩⟩⟩⟩⟩⟩⟩⟩⟩⟩⟩⟩⟩⟩⟩⟩⟩⟩⟩⟩⟩⟩⟩⟩⟩
 ·refine ⟨?_, ⟨?_, ⟨?_, ⟨?_, ⟨?_, ⟨?_, ⟨?_, ⟨?_, ⟨?_, ⟨?_, ⟨?_, ⟨?_, ⟨?_, ⟨?_, ⟨?_, ⟨?_, ⟨?_, ⟨?_, ⟨?_, ⟨?_, ⟨?_, ⟨?_, ⟨?_, ⟨?_, ⟨?_, ⟨?_, ⟨?_, ⟨?_, ⟨?_, ⟨?_, ⟨?_, trivial⟩⟩⟩⟩⟩⟩⟩⟩⟩⟩⟩⟩⟩⟩⟩⟩⟩⟩⟩⟩⟩⟩⟩⟩⟩⟩⟩⟩⟩⟩⟩
  ·intro w6 k48
   have m49 := m46.extk k48
   rintro _ _ _ _ _ _ _ _ _ _ _ _ _ _ _ _ _ _ _ _ _ _ _ _ _ _ _ _ _ _ _
   show WL _ _ _ _ _ _ _
   refine mw (vs a1 x_h.length c2) ?_
   exact f2
  ·intro w6 k50
   have m51 := m46.extk k50
   rintro _ rfl _ _ _ _ _ _ _ _ _ _ _ _ _ _ _ _ _ _ _ _ _ _ _ _ _ _ _ _ _ _
   show WL _ _ _ _ _ _ _
   refine wl_index (v := (vs a1 x_h.length c2)) wN 0 rfl rfl rfl slTy_32 rfl rfl (r3.from0 m51) (by first | omega | (simp only [List.length_cons, List.length_nil, List.length_replicate, List.length_append, List.length_take, List.length_set, List.length_map]; omega)) (by first | omega | (simp only [List.length_cons, List.length_nil, List.length_replicate, List.length_append, List.length_take, List.length_set, List.length_map]; omega)) ?_
   exact f2
  ·intro w6 k52
   have m53 := m46.extk k52
   rintro _ rfl _ rfl _ _ _ _ _ _ _ _ _ _ _ _ _ _ _ _ _ _ _ _ _ _ _ _ _ _ _ _ _
   show WL _ _ _ _ _ _ _
   refine wl_loadE (iV (x_h.getD 0 0)) wN rfl rfl rfl rfl isAgg_3 (r3.from0 m53) (iget (by simp) (by first | omega | (simp only [List.length_cons, List.length_nil, List.length_replicate, List.length_append, List.length_take, List.length_set, List.length_map]; omega))) ?_
   exact f2
  ·intro w6 k54
   have m55 := m46.extk k54
   rintro _ _ _ _ _ _ _ _ _ _ _ _ _ _ _ _ _ _ _ _ _ _ _ _ _ _ _ _ _ _ _
   show WL _ _ _ _ _ _ _
   refine mw (vs a1 x_h.length c2) ?_
   exact f2
  ·intro w6 k56
   have m57 := m46.extk k56
   rintro _ _ _ _ rfl _ _ _ _ _ _ _ _ _ _ _ _ _ _ _ _ _ _ _ _ _ _ _ _ _ _ _
   show WL _ _ _ _ _ _ _
   refine wl_index (v := (vs a1 x_h.length c2)) wN 1 rfl rfl rfl slTy_32 rfl rfl (r3.from0 m57) (by first | omega | (simp only [List.length_cons, List.length_nil, List.length_replicate, List.length_append, List.length_take, List.length_set, List.length_map]; omega)) (by first | omega | (simp only [List.length_cons, List.length_nil, List.length_replicate, List.length_append, List.length_take, List.length_set, List.length_map]; omega)) ?_
   exact f2
  ·intro w6 k58
   have m59 := m46.extk k58
   rintro _ _ _ _ rfl _ rfl _ _ _ _ _ _ _ _ _ _ _ _ _ _ _ _ _ _ _ _ _ _ _ _ _ _
   show WL _ _ _ _ _ _ _
   refine wl_loadE (iV (x_h.getD 1 0)) wN rfl rfl rfl rfl isAgg_3 (r3.from0 m59) (iget (by simp) (by first | omega | (simp only [List.length_cons, List.length_nil, List.length_replicate, List.length_append, List.length_take, List.length_set, List.length_map]; omega))) ?_
   exact f2
  ·intro w6 k60
   have m61 := m46.extk k60
   rintro _ _ _ _ _ _ _ _ _ _ _ _ _ _ _ _ _ _ _ _ _ _ _ _ _ _ _ _ _ _ _
   show WL _ _ _ _ _ _ _
   refine mw (vs a1 x_h.length c2) ?_
   exact f2
  ·intro w6 k62
   have m63 := m46.extk k62
   rintro _ _ _ _ _ _ _ rfl _ _ _ _ _ _ _ _ _ _ _ _ _ _ _ _ _ _ _ _ _ _ _ _
   show WL _ _ _ _ _ _ _
   refine wl_index (v := (vs a1 x_h.length c2)) wN 2 rfl rfl rfl slTy_32 rfl rfl (r3.from0 m63) (by first | omega | (simp only [List.length_cons, List.length_nil, List.length_replicate, List.length_append, List.length_take, List.length_set, List.length_map]; omega)) (by first | omega | (simp only [List.length_cons, List.length_nil, List.length_replicate, List.length_append, List.length_take, List.length_set, List.length_map]; omega)) ?_
   exact f2
  ·intro w6 k64
   have m65 := m46.extk k64
   rintro _ _ _ _ _ _ _ rfl _ rfl _ _ _ _ _ _ _ _ _ _ _ _ _ _ _ _ _ _ _ _ _ _ _
   show WL _ _ _ _ _ _ _
   refine wl_loadE (iV (x_h.getD 2 0)) wN rfl rfl rfl rfl isAgg_3 (r3.from0 m65) (iget (by simp) (by first | omega | (simp only [List.length_cons, List.length_nil, List.length_replicate, List.length_append, List.length_take, List.length_set, List.length_map]; omega))) ?_
   exact f2
  ·intro w6 k66
   have m67 := m46.extk k66
   rintro _ _ _ _ _ _ _ _ _ _ _ _ _ _ _ _ _ _ _ _ _ _ _ _ _ _ _ _ _ _ _
   show WL _ _ _ _ _ _ _
   refine mw (vs a1 x_h.length c2) ?_
   exact f2
  ·intro w6 k68
   have m69 := m46.extk k68
   rintro _ _ _ _ _ _ _ _ _ _ rfl _ _ _ _ _ _ _ _ _ _ _ _ _ _ _ _ _ _ _ _ _
   show WL _ _ _ _ _ _ _
   refine wl_index (v := (vs a1 x_h.length c2)) wN 3 rfl rfl rfl slTy_32 rfl rfl (r3.from0 m69) (by first | omega | (simp only [List.length_cons, List.length_nil, List.length_replicate, List.length_append, List.length_take, List.length_set, List.length_map]; omega)) (by first | omega | (simp only [List.length_cons, List.length_nil, List.length_replicate, List.length_append, List.length_take, List.length_set, List.length_map]; omega)) ?_
   exact f2
  ·intro w6 k70
   have m71 := m46.extk k70
   rintro _ _ _ _ _ _ _ _ _ _ rfl _ rfl _ _ _ _ _ _ _ _ _ _ _ _ _ _ _ _ _ _ _ _
   show WL _ _ _ _ _ _ _
   refine wl_loadE (iV (x_h.getD 3 0)) wN rfl rfl rfl rfl isAgg_3 (r3.from0 m71) (iget (by simp) (by first | omega | (simp only [List.length_cons, List.length_nil, List.length_replicate, List.length_append, List.length_take, List.length_set, List.length_map]; omega))) ?_
   exact f2
  ·intro w6 k72
   have m73 := m46.extk k72
   rintro _ _ _ _ _ _ _ _ _ _ _ _ _ _ _ _ _ _ _ _ _ _ _ _ _ _ _ _ _ _ _
   show WL _ _ _ _ _ _ _
   refine mw (vs a1 x_h.length c2) ?_
   exact f2
  ·intro w6 k74
   have m75 := m46.extk k74
   rintro _ _ _ _ _ _ _ _ _ _ _ _ _ rfl _ _ _ _ _ _ _ _ _ _ _ _ _ _ _ _ _ _
   show WL _ _ _ _ _ _ _
   refine wl_index (v := (vs a1 x_h.length c2)) wN 4 rfl rfl rfl slTy_32 rfl rfl (r3.from0 m75) (by first | omega | (simp only [List.length_cons, List.length_nil, List.length_replicate, List.length_append, List.length_take, List.length_set, List.length_map]; omega)) (by first | omega | (simp only [List.length_cons, List.length_nil, List.length_replicate, List.length_append, List.length_take, List.length_set, List.length_map]; omega)) ?_
   exact f2
  ·intro w6 k76
   have m77 := m46.extk k76
   rintro _ _ _ _ _ _ _ _ _ _ _ _ _ rfl _ rfl _ _ _ _ _ _ _ _ _ _ _ _ _ _ _ _ _
   show WL _ _ _ _ _ _ _
   refine wl_loadE (iV (x_h.getD 4 0)) wN rfl rfl rfl rfl isAgg_3 (r3.from0 m77) (iget (by simp) (by first | omega | (simp only [List.length_cons, List.length_nil, List.length_replicate, List.length_append, List.length_take, List.length_set, List.length_map]; omega))) ?_
   exact f2
  ·intro w6 k78
   have m79 := m46.extk k78
   rintro _ _ _ _ _ _ _ _ _ _ _ _ _ _ _ _ _ _ _ _ _ _ _ _ _ _ _ _ _ _ _
   show WL _ _ _ _ _ _ _
   refine mw (vs a1 x_h.length c2) ?_
   exact f2
  ·intro w6 k80
   have m81 := m46.extk k80
   rintro _ _ _ _ _ _ _ _ _ _ _ _ _ _ _ _ rfl _ _ _ _ _ _ _ _ _ _ _ _ _ _ _
   show WL _ _ _ _ _ _ _
   refine wl_index (v := (vs a1 x_h.length c2)) wN 5 rfl rfl rfl slTy_32 rfl rfl (r3.from0 m81) (by first | omega | (simp only [List.length_cons, List.length_nil, List.length_replicate, List.length_append, List.length_take, List.length_set, List.length_map]; omega)) (by first | omega | (simp only [List.length_cons, List.length_nil, List.length_replicate, List.length_append, List.length_take, List.length_set, List.length_map]; omega)) ?_
   exact f2
  ·intro w6 k82
   have m83 := m46.extk k82
   rintro _ _ _ _ _ _ _ _ _ _ _ _ _ _ _ _ rfl _ rfl _ _ _ _ _ _ _ _ _ _ _ _ _ _
   show WL _ _ _ _ _ _ _
   refine wl_loadE (iV (x_h.getD 5 0)) wN rfl rfl rfl rfl isAgg_3 (r3.from0 m83) (iget (by simp) (by first | omega | (simp only [List.length_cons, List.length_nil, List.length_replicate, List.length_append, List.length_take, List.length_set, List.length_map]; omega))) ?_
   exact f2
  ·intro w6 k84
   have m85 := m46.extk k84
   rintro _ _ _ _ _ _ _ _ _ _ _ _ _ _ _ _ _ _ _ _ _ _ _ _ _ _ _ _ _ _ _
   show WL _ _ _ _ _ _ _
   refine mw (vs a1 x_h.length c2) ?_
   exact f2
  ·intro w6 k86
   have m87 := m46.extk k86
   rintro _ _ _ _ _ _ _ _ _ _ _ _ _ _ _ _ _ _ _ rfl _ _ _ _ _ _ _ _ _ _ _ _
   show WL _ _ _ _ _ _ _
   refine wl_index (v := (vs a1 x_h.length c2)) wN 6 rfl rfl rfl slTy_32 rfl rfl (r3.from0 m87) (by first | omega | (simp only [List.length_cons, List.length_nil, List.length_replicate, List.length_append, List.length_take, List.length_set, List.length_map]; omega)) (by first | omega | (simp only [List.length_cons, List.length_nil, List.length_replicate, List.length_append, List.length_take, List.length_set, List.length_map]; omega)) ?_
   exact f2
  ·intro w6 k88
   have m89 := m46.extk k88
   rintro _ _ _ _ _ _ _ _ _ _ _ _ _ _ _ _ _ _ _ rfl _ rfl _ _ _ _ _ _ _ _ _ _ _
   show WL _ _ _ _ _ _ _
   refine wl_loadE (iV (x_h.getD 6 0)) wN rfl rfl rfl rfl isAgg_3 (r3.from0 m89) (iget (by simp) (by first | omega | (simp only [List.length_cons, List.length_nil, List.length_replicate, List.length_append, List.length_take, List.length_set, List.length_map]; omega))) ?_
   exact f2
  ·intro w6 k90
   have m91 := m46.extk k90
   rintro _ _ _ _ _ _ _ _ _ _ _ _ _ _ _ _ _ _ _ _ _ _ _ _ _ _ _ _ _ _ _
   show WL _ _ _ _ _ _ _
   refine mw (vs a1 x_h.length c2) ?_
   exact f2
  ·intro w6 k92
   have m93 := m46.extk k92
   rintro _ _ _ _ _ _ _ _ _ _ _ _ _ _ _ _ _ _ _ _ _ _ rfl _ _ _ _ _ _ _ _ _
   show WL _ _ _ _ _ _ _
   refine wl_index (v := (vs a1 x_h.length c2)) wN 7 rfl rfl rfl slTy_32 rfl rfl (r3.from0 m93) (by first | omega | (simp only [List.length_cons, List.length_nil, List.length_replicate, List.length_append, List.length_take, List.length_set, List.length_map]; omega)) (by first | omega | (simp only [List.length_cons, List.length_nil, List.length_replicate, List.length_append, List.length_take, List.length_set, List.length_map]; omega)) ?_
   exact f2
  ·intro w6 k94
   have m95 := m46.extk k94
   rintro _ _ _ _ _ _ _ _ _ _ _ _ _ _ _ _ _ _ _ _ _ _ rfl _ rfl _ _ _ _ _ _ _ _
   show WL _ _ _ _ _ _ _
   refine wl_loadE (iV (x_h.getD 7 0)) wN rfl rfl rfl rfl isAgg_3 (r3.from0 m95) (iget (by simp) (by first | omega | (simp only [List.length_cons, List.length_nil, List.length_replicate, List.length_append, List.length_take, List.length_set, List.length_map]; omega))) ?_
   exact f2
  ·intro w6 k96
   have m97 := m46.extk k96
   rintro _ rfl _ rfl _ rfl _ _ _ _ _ _ _ _ _ _ _ _ _ _ _ _ _ _ _ _ _ _ _ _ _ _ _ _
   show WL _ _ _ _ _ _ _
   refine aw (vi (x_h.getD 0 0)) ?_
   exact f2
  ·intro w6 k98
   have m99 := m46.extk k98
   rintro _ rfl _ rfl _ rfl _ rfl _ rfl _ rfl _ _ _ _ _ _ _ _ _ _ _ _ _ _ _ _ _ _ _ rfl _ _ _ _ _ _
   show WL _ _ _ _ _ _ _
   refine aw (vi (x_h.getD 1 0)) ?_
   exact f2
  ·intro w6 k100
   have m101 := m46.extk k100
   rintro _ rfl _ rfl _ rfl _ rfl _ rfl _ rfl _ rfl _ rfl _ rfl _ _ _ _ _ _ _ _ _ _ _ _ _ _ _ _ rfl _ rfl _ _ _ _ _
   show WL _ _ _ _ _ _ _
   refine aw (vi (x_h.getD 2 0)) ?_
   exact f2
  ·intro w6 k102
   have m103 := m46.extk k102
   rintro _ rfl _ rfl _ rfl _ rfl _ rfl _ rfl _ rfl _ rfl _ rfl _ rfl _ rfl _ rfl _ _ _ _ _ _ _ _ _ _ _ _ _ rfl _ rfl _ rfl _ _ _ _
   show WL _ _ _ _ _ _ _
   refine aw (vi (x_h.getD 3 0)) ?_
   exact f2
  ·intro w6 k104
   have m105 := m46.extk k104
   rintro _ rfl _ rfl _ rfl _ rfl _ rfl _ rfl _ rfl _ rfl _ rfl _ rfl _ rfl _ rfl _ rfl _ rfl _ rfl _ _ _ _ _ _ _ _ _ _ rfl _ rfl _ rfl _ rfl _ _ _
   show WL _ _ _ _ _ _ _
   refine aw (vi (x_h.getD 4 0)) ?_
   exact f2
  ·intro w6 k106
   have m107 := m46.extk k106
   rintro _ rfl _ rfl _ rfl _ rfl _ rfl _ rfl _ rfl _ rfl _ rfl _ rfl _ rfl _ rfl _ rfl _ rfl _ rfl _ rfl _ rfl _ rfl _ _ _ _ _ _ _ rfl _ rfl _ rfl _ rfl _ rfl _ _
   show WL _ _ _ _ _ _ _
   refine aw (vi (x_h.getD 5 0)) ?_
   exact f2
  ·intro w6 k108
   have m109 := m46.extk k108
   rintro _ rfl _ rfl _ rfl _ rfl _ rfl _ rfl _ rfl _ rfl _ rfl _ rfl _ rfl _ rfl _ rfl _ rfl _ rfl _ rfl _ rfl _ rfl _ rfl _ rfl _ rfl _ _ _ _ rfl _ rfl _ rfl _ rfl _ rfl _ rfl _
   show WL _ _ _ _ _ _ _
   refine aw (vi (x_h.getD 6 0)) ?_
   exact f2
 ·intro w6 k110
  have m111 := m46.extk k110
  rintro _ rfl _ rfl _ rfl _ rfl _ rfl _ rfl _ rfl _ rfl _ rfl _ rfl _ rfl _ rfl _ rfl _ rfl _ rfl _ rfl _ rfl _ rfl _ rfl _ rfl _ rfl _ rfl _ rfl _ rfl _ rfl _ rfl _ rfl _ rfl _ rfl _ rfl _ rfl
  show WL _ _ _ _ _ _ _
  refine aw (vi (x_h.getD 7 0)) ?_
  refine n4 ?_
  refine aw (vi 0) ?_
  refine wl_nil <| wq_then <| wc_block ?_
  refine wc_loopQ (fun e => [(vs a1 x_h.length c2), e 1, e 2, e 3, (vs none 0 0), (vs a20 x_h.length c21), (vs a32 (kw).length c33), (vs a40 (schedP x_block).length c41), (vi ((cmpN (schedP x_block) (s8of x_h) 0).a)), (vi ((cmpN (schedP x_block) (s8of x_h) 0).b)), (vi ((cmpN (schedP x_block) (s8of x_h) 0).c)), (vi ((cmpN (schedP x_block) (s8of x_h) 0).d)), (vi ((cmpN (schedP x_block) (s8of x_h) 0).e)), (vi ((cmpN (schedP x_block) (s8of x_h) 0).f)), (vi ((cmpN (schedP x_block) (s8of x_h) 0).g)), (vi ((cmpN (schedP x_block) (s8of x_h) 0).z)), (vi ((0 : Nat) : Int)), e 17, e 18, U, U, e 21, e 22, e 23, e 24, e 25, e 26, e 27, e 28, e 29, e 30, e 31, e 32, e 33, e 34, e 35, e 36, e 37, e 38, e 39, e 40, e 41, e 42, e 43, e 44, e 45, e 46, e 47, e 48, e 49, e 50, e 51, e 52, e 53, e 54, e 55, e 56, e 57, e 58, e 59, e 60, e 61, e 62, e 63, e 64, e 65, e 66, e 67, e 68, e 69, e 70, e 71, e 72, e 73, e 74, e 75, e 76, e 77, e 78, e 79, e 80, e 81, e 82, e 83, e 84, e 85, e 86, e 87, e 88, e 89, e 90, e 91, e 92, e 93, e 94, e 95, e 96, e 97, e 98, e 99, e 100, e 101, e 102, e 103, e 104, e 105, e 106, e 107, e 108, e 109, e 110, e 111, e 112, e 113, e 114, e 115, e 116, e 117, e 118, e 119, e 120, e 121, e 122, e 123, e 124, e 125, e 126, e 127, e 128, U, U, U, U, U, U, U, U, U, U, U, U, U, U, U, U, U, U, U, U, U, U, U, U, U, U, U]) rfl ⟨rfl, rfl, rfl, rfl, rfl, rfl, rfl, rfl, (congrArg (Value.int .i64) (show ((x_h.getD 0 0) : Int) = (cmpN (schedP x_block) (s8of x_h) 0).a by rfl)), (congrArg (Value.int .i64) (show ((x_h.getD 1 0) : Int) = (cmpN (schedP x_block) (s8of x_h) 0).b by rfl)), (congrArg (Value.int .i64) (show ((x_h.getD 2 0) : Int) = (cmpN (schedP x_block) (s8of x_h) 0).c by rfl)), (congrArg (Value.int .i64) (show ((x_h.getD 3 0) : Int) = (cmpN (schedP x_block) (s8of x_h) 0).d by rfl)), (congrArg (Value.int .i64) (show ((x_h.getD 4 0) : Int) = (cmpN (schedP x_block) (s8of x_h) 0).e by rfl)), (congrArg (Value.int .i64) (show ((x_h.getD 5 0) : Int) = (cmpN (schedP x_block) (s8of x_h) 0).f by rfl)), (congrArg (Value.int .i64) (show ((x_h.getD 6 0) : Int) = (cmpN (schedP x_block) (s8of x_h) 0).g by rfl)), (congrArg (Value.int .i64) (show ((x_h.getD 7 0) : Int) = (cmpN (schedP x_block) (s8of x_h) 0).z by rfl)), (congrArg (Value.int .i64) (show (0 : Int) = ((0 : Nat) : Int) by omega)), rfl, rfl, rfl, rfl, rfl, rfl, rfl, rfl, rfl, rfl, rfl, rfl, rfl, rfl, rfl, rfl, rfl, rfl, rfl, rfl, rfl, rfl, rfl, rfl, rfl, rfl, rfl, rfl, rfl, rfl, rfl, rfl, rfl, rfl, rfl, rfl, rfl, rfl, rfl, rfl, rfl, rfl, rfl, rfl, rfl, rfl, rfl, rfl, rfl, rfl, rfl, rfl, rfl, rfl, rfl, rfl, rfl, rfl, rfl, rfl, rfl, rfl, rfl, rfl, rfl, rfl, rfl, rfl, rfl, rfl, rfl, rfl, rfl, rfl, rfl, rfl, rfl, rfl, rfl, rfl, rfl, rfl, rfl, rfl, rfl, rfl, rfl, rfl, rfl, rfl, rfl, rfl, rfl, rfl, rfl, rfl, rfl, rfl, rfl, rfl, rfl, rfl, rfl, rfl, rfl, rfl, rfl, rfl, rfl, rfl, rfl, rfl, rfl, rfl, rfl, rfl, rfl, rfl, rfl, rfl, rfl, rfl, rfl, rfl, rfl, rfl, rfl, rfl, rfl, rfl, rfl, rfl, rfl, rfl, rfl, rfl, rfl, rfl, rfl, trivial⟩ (fun e' w' => ∃ (k : Nat) (ya : Int) (yb : Int) (yc : Int) (yd : Int) (ye : Int) (yf : Int) (yg : Int) (yz : Int) (u112 : Nat → Value), e' = lst [(vs a1 x_h.length c2), (u112 0), (u112 1), (u112 2), (vs none 0 0), (vs a20 x_h.length c21), (vs a32 (kw).length c33), (vs a40 (schedP x_block).length c41), (vi ya), (vi yb), (vi yc), (vi yd), (vi ye), (vi yf), (vi yg), (vi yz), (vi ((k : Nat) : Int)), (u112 3), (u112 4), U, U, (u112 5), (u112 6), (u112 7), (u112 8), (u112 9), (u112 10), (u112 11), (u112 12), (u112 13), (u112 14), (u112 15), (u112 16), (u112 17), (u112 18), (u112 19), (u112 20), (u112 21), (u112 22), (u112 23), (u112 24), (u112 25), (u112 26), (u112 27), (u112 28), (u112 29), (u112 30), (u112 31), (u112 32), (u112 33), (u112 34), (u112 35), (u112 36), (u112 37), (u112 38), (u112 39), (u112 40), (u112 41), (u112 42), (u112 43), (u112 44), (u112 45), (u112 46), (u112 47), (u112 48), (u112 49), (u112 50), (u112 51), (u112 52), (u112 53), (u112 54), (u112 55), (u112 56), (u112 57), (u112 58), (u112 59), (u112 60), (u112 61), (u112 62), (u112 63), (u112 64), (u112 65), (u112 66), (u112 67), (u112 68), (u112 69), (u112 70), (u112 71), (u112 72), (u112 73), (u112 74), (u112 75), (u112 76), (u112 77), (u112 78), (u112 79), (u112 80), (u112 81), (u112 82), (u112 83), (u112 84), (u112 85), (u112 86), (u112 87), (u112 88), (u112 89), (u112 90), (u112 91), (u112 92), (u112 93), (u112 94), (u112 95), (u112 96), (u112 97), (u112 98), (u112 99), (u112 100), (u112 101), (u112 102), (u112 103), (u112 104), (u112 105), (u112 106), (u112 107), (u112 108), (u112 109), (u112 110), (u112 111), (u112 112), U, U, U, U, U, U, U, U, U, U, U, U, U, U, U, U, U, U, U, U, U, U, U, U, U, U, U] ∧ Ch (fun k => w0.heap.size ≤ k) w0 w' ∧ Ch (fun k => w6.heap.size ≤ k) w6 w' ∧ k ≤ 64 ∧ ya = (cmpN (schedP x_block) (s8of x_h) k).a ∧ yb = (cmpN (schedP x_block) (s8of x_h) k).b ∧ yc = (cmpN (schedP x_block) (s8of x_h) k).c ∧ yd = (cmpN (schedP x_block) (s8of x_h) k).d ∧ ye = (cmpN (schedP x_block) (s8of x_h) k).e ∧ yf = (cmpN (schedP x_block) (s8of x_h) k).f ∧ yg = (cmpN (schedP x_block) (s8of x_h) k).g ∧ yz = (cmpN (schedP x_block) (s8of x_h) k).z) (fun e' _ => (64 - (intOf (e' 16))).toNat) ?_ ?_
  ·exact fun u => ⟨0, (cmpN (schedP x_block) (s8of x_h) 0).a, (cmpN (schedP x_block) (s8of x_h) 0).b, (cmpN (schedP x_block) (s8of x_h) 0).c, (cmpN (schedP x_block) (s8of x_h) 0).d, (cmpN (schedP x_block) (s8of x_h) 0).e, (cmpN (schedP x_block) (s8of x_h) 0).f, (cmpN (schedP x_block) (s8of x_h) 0).g, (cmpN (schedP x_block) (s8of x_h) 0).z, (unL [u 1, u 2, u 3, u 17, u 18, u 21, u 22, u 23, u 24, u 25, u 26, u 27, u 28, u 29, u 30, u 31, u 32, u 33, u 34, u 35, u 36, u 37, u 38, u 39, u 40, u 41, u 42, u 43, u 44, u 45, u 46, u 47, u 48, u 49, u 50, u 51, u 52, u 53, u 54, u 55, u 56, u 57, u 58, u 59, u 60, u 61, u 62, u 63, u 64, u 65, u 66, u 67, u 68, u 69, u 70, u 71, u 72, u 73, u 74, u 75, u 76, u 77, u 78, u 79, u 80, u 81, u 82, u 83, u 84, u 85, u 86, u 87, u 88, u 89, u 90, u 91, u 92, u 93, u 94, u 95, u 96, u 97, u 98, u 99, u 100, u 101, u 102, u 103, u 104, u 105, u 106, u 107, u 108, u 109, u 110, u 111, u 112, u 113, u 114, u 115, u 116, u 117, u 118, u 119, u 120, u 121, u 122, u 123, u 124, u 125, u 126, u 127, u 128]), rfl, m111, (Ch.refl (fun k => w6.heap.size ≤ k) w6), (by omega), (by first | rfl | assumption), (by first | rfl | assumption), (by first | rfl | assumption), (by first | rfl | assumption), (by first | rfl | assumption), (by first | rfl | assumption), (by first | rfl | assumption), (by first | rfl | assumption)⟩
  ·rintro _ w7 ⟨k, ya, yb, yc, yd, ye, yf, yg, yz, u112, rfl, m113, k114, i115, hi_a, hi_b, hi_c, hi_d, hi_e, hi_f, hi_g, hi_z⟩
   obtain ⟨zw, hzw⟩ : ∃ z, (schedP x_block).getD k 0 = z := ⟨_, rfl⟩
   have hwd : 0 ≤ zw ∧ zw < 4294967296 := hzw ▸ wget (schedP_w x_block) k
   obtain ⟨zk, hzk⟩ : ∃ z, kw.getD k 0 = z := ⟨_, rfl⟩
   have hkw : 0 ≤ zk ∧ zk < 4294967296 := hzk ▸ wget kw_w k
   have hkl : kw.length = 64 := rfl
   have hok := cmpN_ok (w := schedP x_block) (s8of_ok (areW_t (by first | assumption | exact ‹ws8 x_h = true›)).1) k
   unfold S8.ok at hok
   rw [← hi_a, ← hi_b, ← hi_c, ← hi_d, ← hi_e, ← hi_f, ← hi_g, ← hi_z] at hok
   refine wc_seq <| sr ?_
   refine mw (vi ((k : Nat) : Int)) ?_
   refine pu (vb (decide (((k : Nat) : Int) < 64))) wN ?_
   refine n2 ?_
   rcases bf (decide (((k : Nat) : Int) < 64)) with h124 | h124
   ·have q297 := of_decide_eq_false h124
    refine cf h124 ?_
    refine wc_exit <| wq_then_exit ?_
    obtain rfl : k = 64 := by omega
    refine wq_then_exit <| wq_blk_exit <| wq_then <| sr ?_
    refine mw (vi ya) ?_
    refine mw (vi yb) ?_
    refine mw (vi yc) ?_
    refine mw (vi yd) ?_
    refine mw (vi ye) ?_
    refine mw (vi yf) ?_
    refine mw (vi yg) ?_
    refine mw (vi yz) ?_
    refine wl_lit [(vi ya), (vi yb), (vi yc), (vi yd), (vi ye), (vi yf), (vi yg), (vi yz)] wN rfl rfl slTy_32 (m := 8) rfl (by simp only [maxLen]; omega) (fun w => by kernel_rfl) ?_
    intro u298 w8 k299 o300
    obtain ⟨a301, c302, rfl⟩ := own_form o300
    have m303 := m113.extk k299
    have o305 : w8.ownsRow w7.heap.size 3 1 (.slice a301 (([ya, yb, yc, yd, ye, yf, yg, yz] : List Int) : List Int).length c302) (([ya, yb, yc, yd, ye, yf, yg, yz] : List Int) : List Int).length ((([ya, yb, yc, yd, ye, yf, yg, yz] : List Int) : List Int).map iV) := o300
    refine aw (vs a301 ([ya, yb, yc, yd, ye, yf, yg, yz] : List Int).length c302) ?_
    refine n4 ?_
    refine aw (vi 0) ?_
    refine wl_nil <| wq_then <| wc_block ?_
    have o308 := (own_kp (own_ch (own_kp (own_kp (own_kp (own_kp o18 k25) k31) k39) k110) k114 (fun g hg hlt hk => by have h1 := (own_lt o18 g hg).2; have h2 : w2.heap.size ≤ w6.heap.size := (z4 k25 k31 k39 k110); have h3 : w6.heap.size ≤ g := hk; omega)) k299)
    have hE307 : (x_h : List Int) = (addL x_h (S8.list (cmpN (schedP x_block) (s8of x_h) 64))).take 0 ++ x_h.drop 0 := by first | rfl | simp
    have hE309 : (([ya, yb, yc, yd, ye, yf, yg, yz] : List Int) : List Int) = ([ya, yb, yc, yd, ye, yf, yg, yz] : List Int) := by first | rfl | simp
    refine wc_loopQ (fun e => [(vs a1 x_h.length c2), e 1, e 2, e 3, (vs none 0 0), (vs a20 x_h.length c21), e 6, e 7, e 8, e 9, e 10, e 11, e 12, e 13, e 14, e 15, e 16, e 17, e 18, (vs a301 ([ya, yb, yc, yd, ye, yf, yg, yz] : List Int).length c302), (vi ((0 : Nat) : Int)), e 21, e 22, e 23, e 24, e 25, e 26, e 27, e 28, e 29, e 30, e 31, e 32, e 33, e 34, e 35, e 36, e 37, e 38, e 39, e 40, e 41, e 42, e 43, e 44, e 45, e 46, e 47, e 48, e 49, e 50, e 51, e 52, e 53, e 54, e 55, e 56, e 57, e 58, e 59, e 60, e 61, e 62, e 63, e 64, e 65, e 66, e 67, e 68, e 69, e 70, e 71, e 72, e 73, e 74, e 75, e 76, e 77, e 78, e 79, e 80, e 81, e 82, e 83, e 84, e 85, e 86, e 87, e 88, e 89, e 90, e 91, e 92, e 93, e 94, e 95, e 96, e 97, e 98, e 99, e 100, e 101, e 102, e 103, e 104, e 105, e 106, e 107, e 108, e 109, e 110, e 111, e 112, e 113, e 114, e 115, e 116, e 117, e 118, e 119, e 120, e 121, e 122, e 123, e 124, e 125, e 126, e 127, e 128, e 129, e 130, e 131, e 132, e 133, e 134, e 135, e 136, e 137, e 138, e 139, e 140, e 141, e 142, e 143, e 144, e 145, e 146, e 147, e 148, e 149, e 150, e 151, e 152, e 153, e 154, U]) rfl ⟨rfl, rfl, rfl, rfl, rfl, rfl, rfl, rfl, rfl, rfl, rfl, rfl, rfl, rfl, rfl, rfl, rfl, rfl, rfl, rfl, (congrArg (Value.int .i64) (show (0 : Int) = ((0 : Nat) : Int) by omega)), rfl, rfl, rfl, rfl, rfl, rfl, rfl, rfl, rfl, rfl, rfl, rfl, rfl, rfl, rfl, rfl, rfl, rfl, rfl, rfl, rfl, rfl, rfl, rfl, rfl, rfl, rfl, rfl, rfl, rfl, rfl, rfl, rfl, rfl, rfl, rfl, rfl, rfl, rfl, rfl, rfl, rfl, rfl, rfl, rfl, rfl, rfl, rfl, rfl, rfl, rfl, rfl, rfl, rfl, rfl, rfl, rfl, rfl, rfl, rfl, rfl, rfl, rfl, rfl, rfl, rfl, rfl, rfl, rfl, rfl, rfl, rfl, rfl, rfl, rfl, rfl, rfl, rfl, rfl, rfl, rfl, rfl, rfl, rfl, rfl, rfl, rfl, rfl, rfl, rfl, rfl, rfl, rfl, rfl, rfl, rfl, rfl, rfl, rfl, rfl, rfl, rfl, rfl, rfl, rfl, rfl, rfl, rfl, rfl, rfl, rfl, rfl, rfl, rfl, rfl, rfl, rfl, rfl, rfl, rfl, rfl, rfl, rfl, rfl, rfl, rfl, rfl, rfl, rfl, rfl, rfl, rfl, rfl, rfl, rfl, trivial⟩ (fun e' w' => ∃ (m : Nat) (u306 : Nat → Value), e' = lst [(vs a1 x_h.length c2), (u306 0), (u306 1), (u306 2), (vs none 0 0), (vs a20 x_h.length c21), (u306 3), (u306 4), (u306 5), (u306 6), (u306 7), (u306 8), (u306 9), (u306 10), (u306 11), (u306 12), (u306 13), (u306 14), (u306 15), (vs a301 ([ya, yb, yc, yd, ye, yf, yg, yz] : List Int).length c302), (vi ((m : Nat) : Int)), (u306 16), (u306 17), (u306 18), (u306 19), (u306 20), (u306 21), (u306 22), (u306 23), (u306 24), (u306 25), (u306 26), (u306 27), (u306 28), (u306 29), (u306 30), (u306 31), (u306 32), (u306 33), (u306 34), (u306 35), (u306 36), (u306 37), (u306 38), (u306 39), (u306 40), (u306 41), (u306 42), (u306 43), (u306 44), (u306 45), (u306 46), (u306 47), (u306 48), (u306 49), (u306 50), (u306 51), (u306 52), (u306 53), (u306 54), (u306 55), (u306 56), (u306 57), (u306 58), (u306 59), (u306 60), (u306 61), (u306 62), (u306 63), (u306 64), (u306 65), (u306 66), (u306 67), (u306 68), (u306 69), (u306 70), (u306 71), (u306 72), (u306 73), (u306 74), (u306 75), (u306 76), (u306 77), (u306 78), (u306 79), (u306 80), (u306 81), (u306 82), (u306 83), (u306 84), (u306 85), (u306 86), (u306 87), (u306 88), (u306 89), (u306 90), (u306 91), (u306 92), (u306 93), (u306 94), (u306 95), (u306 96), (u306 97), (u306 98), (u306 99), (u306 100), (u306 101), (u306 102), (u306 103), (u306 104), (u306 105), (u306 106), (u306 107), (u306 108), (u306 109), (u306 110), (u306 111), (u306 112), (u306 113), (u306 114), (u306 115), (u306 116), (u306 117), (u306 118), (u306 119), (u306 120), (u306 121), (u306 122), (u306 123), (u306 124), (u306 125), (u306 126), (u306 127), (u306 128), (u306 129), (u306 130), (u306 131), (u306 132), (u306 133), (u306 134), (u306 135), (u306 136), (u306 137), (u306 138), (u306 139), (u306 140), (u306 141), (u306 142), (u306 143), (u306 144), (u306 145), (u306 146), (u306 147), (u306 148), (u306 149), U] ∧ Ch (fun k => w0.heap.size ≤ k) w0 w' ∧ Ch (fun k => w0.heap.size ≤ k) w8 w' ∧ m ≤ 8 ∧ World.ownsRow w' w0.heap.size 3 1 (.slice a20 x_h.length c21) x_h.length (((addL x_h (S8.list (cmpN (schedP x_block) (s8of x_h) 64))).take m ++ x_h.drop m).map iV) ∧ World.ownsRow w' w7.heap.size 3 1 (.slice a301 ([ya, yb, yc, yd, ye, yf, yg, yz] : List Int).length c302) ([ya, yb, yc, yd, ye, yf, yg, yz] : List Int).length ((([ya, yb, yc, yd, ye, yf, yg, yz] : List Int)).map iV)) (fun e' _ => (8 - (intOf (e' 20))).toNat) ?_ ?_
    ·exact fun u => ⟨0, (unL [u 1, u 2, u 3, u 6, u 7, u 8, u 9, u 10, u 11, u 12, u 13, u 14, u 15, u 16, u 17, u 18, u 21, u 22, u 23, u 24, u 25, u 26, u 27, u 28, u 29, u 30, u 31, u 32, u 33, u 34, u 35, u 36, u 37, u 38, u 39, u 40, u 41, u 42, u 43, u 44, u 45, u 46, u 47, u 48, u 49, u 50, u 51, u 52, u 53, u 54, u 55, u 56, u 57, u 58, u 59, u 60, u 61, u 62, u 63, u 64, u 65, u 66, u 67, u 68, u 69, u 70, u 71, u 72, u 73, u 74, u 75, u 76, u 77, u 78, u 79, u 80, u 81, u 82, u 83, u 84, u 85, u 86, u 87, u 88, u 89, u 90, u 91, u 92, u 93, u 94, u 95, u 96, u 97, u 98, u 99, u 100, u 101, u 102, u 103, u 104, u 105, u 106, u 107, u 108, u 109, u 110, u 111, u 112, u 113, u 114, u 115, u 116, u 117, u 118, u 119, u 120, u 121, u 122, u 123, u 124, u 125, u 126, u 127, u 128, u 129, u 130, u 131, u 132, u 133, u 134, u 135, u 136, u 137, u 138, u 139, u 140, u 141, u 142, u 143, u 144, u 145, u 146, u 147, u 148, u 149, u 150, u 151, u 152, u 153, u 154]), rfl, m303, (Ch.refl (fun k => w0.heap.size ≤ k) w8), (by omega), (by rw [← hE307]; exact o308), (by rw [← hE309]; exact o305)⟩
    ·rintro _ w9 ⟨m, u306, rfl, m310, k311, i312, o313, o314⟩
     have hlL : ([ya, yb, yc, yd, ye, yf, yg, yz] : List Int).length = 8 := rfl
     have hll : (addL x_h (S8.list (cmpN (schedP x_block) (s8of x_h) 64))).length = 8 := addL_len (by omega) rfl
     have hl8 : (x_h.length : Int) = 8 := (areW_t (by first | assumption | exact ‹ws8 x_h = true›)).2
     have hw1 := wget (areW_t (by first | assumption | exact ‹ws8 x_h = true›)).1 m
     have hle : ([ya, yb, yc, yd, ye, yf, yg, yz] : List Int) = (S8.list (cmpN (schedP x_block) (s8of x_h) 64)) := by rw [hi_a, hi_b, hi_c, hi_d, hi_e, hi_f, hi_g, hi_z]; rfl
     have hw2 : 0 ≤ ([ya, yb, yc, yd, ye, yf, yg, yz] : List Int).getD m 0 ∧ ([ya, yb, yc, yd, ye, yf, yg, yz] : List Int).getD m 0 < 4294967296 := hle ▸ wget (s8l_w (cmpN_ok (w := schedP x_block) (s8of_ok (areW_t (by first | assumption | exact ‹ws8 x_h = true›)).1) 64)) m
     refine wc_seq <| sr ?_
     refine mw (vi ((m : Nat) : Int)) ?_
     refine pu (vb (decide (((m : Nat) : Int) < 8))) wN ?_
     refine n2 ?_
     rcases bf (decide (((m : Nat) : Int) < 8)) with h315 | h315
     ·have q362 := of_decide_eq_false h315
      refine cf h315 ?_
      refine wc_exit <| wq_then_exit <| wq_then_exit <| wq_blk_exit <| wq_then <| sr ?_
      refine mw (vs a20 x_h.length c21) ?_
      refine aw (vs a20 x_h.length c21) ?_
      refine n3 ?_
      refine rt (vs a20 x_h.length c21) ?_
      refine ⟨m310.keep0, ?_⟩
      have hF363 : compress x_h x_block = ((addL x_h (S8.list (cmpN (schedP x_block) (s8of x_h) 64))).take m ++ x_h.drop m) := by first | exact compress_f (by first | assumption | exact ‹ws8 x_h = false›) | exact compress_g (by omega) | exact compress_t (by first | assumption | exact ‹ws8 x_h = true›) (by omega) (by omega)
      rw [hF363]
      have hN364 : x_h.length = (((addL x_h (S8.list (cmpN (schedP x_block) (s8of x_h) 64))).take m ++ x_h.drop m)).length := by simp only [List.length_append, List.length_take, List.length_drop]; omega
      rw [hN364] at o313 ⊢
      exact ⟨_, _, rfl, o313, (by rw [← hN364]; exact s4), ⟨trivial, trivial⟩⟩
     have q316 := of_decide_eq_true h315
     refine ct h315 ?_
     refine wc_skip <| wq_then <| wc_seq <| wc_block ?_
     refine wc_draw ([(142, [], [], (fun _ v _ => v = (vs a20 x_h.length c21))), (143, [], [], (fun _ v _ => v = (vi ((m : Nat) : Int)))), (144, [], [], (fun _ v _ => v = (vs a1 x_h.length c2))), (145, [], [], (fun _ v _ => v = (vi ((m : Nat) : Int)))), (146, [], [2, 3], (fun _ v _ => v = (ve (vs a1 x_h.length c2) ((((m : Nat) : Int)).toNat * 1)))), (147, [], [2, 3, 4], (fun _ v _ => v = (vi (x_h.getD m 0)))), (148, [], [], (fun _ v _ => v = (vs a301 ([ya, yb, yc, yd, ye, yf, yg, yz] : List Int).length c302))), (149, [], [], (fun _ v _ => v = (vi ((m : Nat) : Int)))), (150, [], [6, 7], (fun _ v _ => v = (ve (vs a301 ([ya, yb, yc, yd, ye, yf, yg, yz] : List Int).length c302) ((((m : Nat) : Int)).toNat * 1)))), (151, [], [6, 7, 8], (fun _ v _ => v = (vi ((([ya, yb, yc, yd, ye, yf, yg, yz] : List Int)).getD m 0)))), (152, [], [2, 3, 4, 5, 6, 7, 8, 9], (fun _ v _ => v = (vi ((x_h.getD m 0) + ((([ya, yb, yc, yd, ye, yf, yg, yz] : List Int)).getD m 0))))), (153, [], [2, 3, 4, 5, 6, 7, 8, 9, 10], (fun _ v _ => v = (vi (((x_h.getD m 0) + ((([ya, yb, yc, yd, ye, yf, yg, yz] : List Int)).getD m 0)) % 4294967296))))] : GV) mixed rfl (by kernel_rfl) (by kernel_rfl) ?_ ?_ ?_
     ·exact ⟨(fun _ _ _ _ h _ => h), (fun _ _ _ _ _ h => h), ⟨(fun _ _ _ _ h _ => h), (fun _ _ _ _ _ h => h), ⟨(fun _ _ _ _ h _ => h), (fun _ _ _ _ _ h => h), ⟨(fun _ _ _ _ h _ => h), (fun _ _ _ _ _ h => h), ⟨(fun _ _ _ _ h _ => h), (fun _ _ _ _ _ h => h), ⟨(fun _ _ _ _ h _ => h), (fun _ _ _ _ _ h => h), ⟨(fun _ _ _ _ h _ => h), (fun _ _ _ _ _ h => h), ⟨(fun _ _ _ _ h _ => h), (fun _ _ _ _ _ h => h), ⟨(fun _ _ _ _ h _ => h), (fun _ _ _ _ _ h => h), ⟨(fun _ _ _ _ h _ => h), (fun _ _ _ _ _ h => h), ⟨(fun _ _ _ _ h _ => h), (fun _ _ _ _ _ h => h), ⟨(fun _ _ _ _ h _ => h), (fun _ _ _ _ _ h => h), trivial⟩⟩⟩⟩⟩⟩⟩⟩⟩⟩⟩⟩
     ·refine ⟨?_, ⟨?_, ⟨?_, ⟨?_, ⟨?_, ⟨?_, ⟨?_, ⟨?_, ⟨?_, ⟨?_, ⟨?_, ⟨?_, trivial⟩⟩⟩⟩⟩⟩⟩⟩⟩⟩⟩⟩
      ·intro w10 k320
       have m321 := m310.extk k320
       rintro _ _ _ _ _ _ _ _ _ _ _ _
       show WL _ _ _ _ _ _ _
       refine mw (vs a20 x_h.length c21) ?_
       exact f2
      ·intro w10 k322
       have m323 := m310.extk k322
       rintro _ _ _ _ _ _ _ _ _ _ _ _
       show WL _ _ _ _ _ _ _
       refine mw (vi ((m : Nat) : Int)) ?_
       exact f2
      ·intro w10 k324
       have m325 := m310.extk k324
       rintro _ _ _ _ _ _ _ _ _ _ _ _
       show WL _ _ _ _ _ _ _
       refine mw (vs a1 x_h.length c2) ?_
       exact f2
      ·intro w10 k326
       have m327 := m310.extk k326
       rintro _ _ _ _ _ _ _ _ _ _ _ _
       show WL _ _ _ _ _ _ _
       refine mw (vi ((m : Nat) : Int)) ?_
       exact f2
      ·intro w10 k328
       have m329 := m310.extk k328
       rintro _ _ _ rfl _ rfl _ _ _ _ _ _ _ _
       show WL _ _ _ _ _ _ _
       refine wl_index (v := (vs a1 x_h.length c2)) wN ((m : Nat) : Int) rfl rfl rfl slTy_32 rfl rfl (r3.from0 m329) (by first | omega | (simp only [List.length_cons, List.length_nil, List.length_replicate, List.length_append, List.length_take, List.length_set, List.length_map]; omega)) (by first | omega | (simp only [List.length_cons, List.length_nil, List.length_replicate, List.length_append, List.length_take, List.length_set, List.length_map]; omega)) ?_
       exact f2
      ·intro w10 k330
       have m331 := m310.extk k330
       rintro _ _ _ rfl _ rfl _ rfl _ _ _ _ _ _ _
       show WL _ _ _ _ _ _ _
       refine wl_loadE (iV (x_h.getD m 0)) wN rfl rfl rfl rfl isAgg_3 (r3.from0 m331) (iget (by simp) (by first | omega | (simp only [List.length_cons, List.length_nil, List.length_replicate, List.length_append, List.length_take, List.length_set, List.length_map]; omega))) ?_
       exact f2
      ·intro w10 k332
       have m333 := m310.extk k332
       rintro _ _ _ _ _ _ _ _ _ _ _ _
       show WL _ _ _ _ _ _ _
       refine mw (vs a301 ([ya, yb, yc, yd, ye, yf, yg, yz] : List Int).length c302) ?_
       exact f2
      ·intro w10 k334
       have m335 := m310.extk k334
       rintro _ _ _ _ _ _ _ _ _ _ _ _
       show WL _ _ _ _ _ _ _
       refine mw (vi ((m : Nat) : Int)) ?_
       exact f2
      ·intro w10 k336
       have m337 := m310.extk k336
       rintro _ _ _ _ _ _ _ rfl _ rfl _ _ _ _
       show WL _ _ _ _ _ _ _
       have o338 := (own_kp o314 k336)
       refine wl_index (v := (vs a301 ([ya, yb, yc, yd, ye, yf, yg, yz] : List Int).length c302)) wN ((m : Nat) : Int) rfl rfl rfl slTy_32 rfl rfl (Rd.of_own o338) (by first | omega | (simp only [List.length_cons, List.length_nil, List.length_replicate, List.length_append, List.length_take, List.length_set, List.length_map]; omega)) (by first | omega | (simp only [List.length_cons, List.length_nil, List.length_replicate, List.length_append, List.length_take, List.length_set, List.length_map]; omega)) ?_
       exact f2
      ·intro w10 k339
       have m340 := m310.extk k339
       rintro _ _ _ _ _ _ _ rfl _ rfl _ rfl _ _ _
       show WL _ _ _ _ _ _ _
       have o342 := (own_kp o314 k339)
       refine wl_loadE (iV ((([ya, yb, yc, yd, ye, yf, yg, yz] : List Int)).getD m 0)) wN rfl rfl rfl rfl isAgg_3 (Rd.of_own o342) (iget (by simp) (by first | omega | (simp only [List.length_cons, List.length_nil, List.length_replicate, List.length_append, List.length_take, List.length_set, List.length_map]; omega))) ?_
       exact f2
      ·intro w10 k343
       have m344 := m310.extk k343
       rintro _ _ _ rfl _ rfl _ rfl _ rfl _ rfl _ rfl _ rfl _ rfl _ _
       show WL _ _ _ _ _ _ _
       refine ar ((x_h.getD m 0) + ((([ya, yb, yc, yd, ye, yf, yg, yz] : List Int)).getD m 0)) wN ?_
       exact f2
      ·intro w10 k347
       have m348 := m310.extk k347
       rintro _ _ _ rfl _ rfl _ rfl _ rfl _ rfl _ rfl _ rfl _ rfl _ rfl _
       show WL _ _ _ _ _ _ _
       refine wl_and ((x_h.getD m 0) + ((([ya, yb, yc, yd, ye, yf, yg, yz] : List Int)).getD m 0)) 4294967295 4294967296 32 wN rfl rfl (by decide) (by decide) (by decide) (by kernel_rfl) ?_
       exact f2
     ·intro w10 k351
      have m352 := m310.extk k351
      rintro _ rfl _ rfl _ rfl _ rfl _ rfl _ rfl _ rfl _ rfl _ rfl _ rfl _ rfl _ rfl
      show WL _ _ _ _ _ _ _
      have o355 := (own_kp o313 k351)
      refine wl_index (v := (vs a20 x_h.length c21)) wN ((m : Nat) : Int) rfl rfl rfl slTy_32 rfl rfl (Rd.of_own o355) (by first | omega | (simp only [List.length_cons, List.length_nil, List.length_replicate, List.length_append, List.length_take, List.length_set, List.length_map]; omega)) (by first | omega | (simp only [List.length_cons, List.length_nil, List.length_replicate, List.length_append, List.length_take, List.length_set, List.length_map]; omega)) ?_
      refine wl_storeI ((addL x_h (S8.list (cmpN (schedP x_block) (s8of x_h) 64))).take m ++ x_h.drop m) (m) ((((x_h.getD m 0) + ((([ya, yb, yc, yd, ye, yf, yg, yz] : List Int)).getD m 0)) % 4294967296)) wN rfl rfl rfl (by simp) rfl sizeOf_3 o355 (by first | omega | (simp only [List.length_append, List.length_take, List.length_drop]; omega)) ?_
      intro w11 k356 o357
      have m358 := m352.ext k356 (fun k hk => Nat.le_trans (Nat.le_refl w0.heap.size) (own_lt o18 k hk).1)
      refine wl_nil <| wq_blk_normal <| wq_then <| wc_region ?_
      refine mw (vi ((m : Nat) : Int)) ?_
      refine ar (((m : Nat) : Int) + 1) wN ?_
      refine aw (vi (((m : Nat) : Int) + 1)) ?_
      refine wl_nil ?_
      have hE359 : ((((addL x_h (S8.list (cmpN (schedP x_block) (s8of x_h) 64))).take m ++ x_h.drop m).set m (((x_h.getD m 0) + ((([ya, yb, yc, yd, ye, yf, yg, yz] : List Int)).getD m 0)) % 4294967296)) : List Int) = (addL x_h (S8.list (cmpN (schedP x_block) (s8of x_h) 64))).take (m + 1) ++ x_h.drop (m + 1) := by first | rfl | (rw [hle]; exact addL_next (l := (S8.list (cmpN (schedP x_block) (s8of x_h) 64))) (by omega) (by show x_h.length = 8; omega))
      have o361 := (own_ch (own_kp o314 k351) k356 (fun g hg hlt hk => by have h1 := (own_lt o305 g hg).1; have h2 := (own_lt o18 g hk).2; have h3 := (z5 k25 k31 k39 k110 k114); omega))
      have hE360 : ((([ya, yb, yc, yd, ye, yf, yg, yz] : List Int)) : List Int) = ([ya, yb, yc, yd, ye, yf, yg, yz] : List Int) := by first | rfl | (rw [hle]; exact addL_next (l := (S8.list (cmpN (schedP x_block) (s8of x_h) 64))) (by omega) (by show x_h.length = 8; omega))
      refine wq_loopQ (w0 := w9) (fun e => [(vs a1 x_h.length c2), e 1, e 2, e 3, (vs none 0 0), (vs a20 x_h.length c21), e 6, e 7, e 8, e 9, e 10, e 11, e 12, e 13, e 14, e 15, e 16, e 17, e 18, (vs a301 ([ya, yb, yc, yd, ye, yf, yg, yz] : List Int).length c302), (vi (((m + 1) : Nat) : Int)), e 21, e 22, e 23, e 24, e 25, e 26, e 27, e 28, e 29, e 30, e 31, e 32, e 33, e 34, e 35, e 36, e 37, e 38, e 39, e 40, e 41, e 42, e 43, e 44, e 45, e 46, e 47, e 48, e 49, e 50, e 51, e 52, e 53, e 54, e 55, e 56, e 57, e 58, e 59, e 60, e 61, e 62, e 63, e 64, e 65, e 66, e 67, e 68, e 69, e 70, e 71, e 72, e 73, e 74, e 75, e 76, e 77, e 78, e 79, e 80, e 81, e 82, e 83, e 84, e 85, e 86, e 87, e 88, e 89, e 90, e 91, e 92, e 93, e 94, e 95, e 96, e 97, e 98, e 99, e 100, e 101, e 102, e 103, e 104, e 105, e 106, e 107, e 108, e 109, e 110, e 111, e 112, e 113, e 114, e 115, e 116, e 117, e 118, e 119, e 120, e 121, e 122, e 123, e 124, e 125, e 126, e 127, e 128, e 129, e 130, e 131, e 132, e 133, e 134, e 135, e 136, e 137, e 138, e 139, e 140, e 141, e 142, e 143, e 144, e 145, e 146, e 147, e 148, e 149, e 150, e 151, e 152, e 153, e 154, U]) rfl ?_ ?_ ?_
      · exact ⟨rfl, rfl, rfl, rfl, rfl, rfl, rfl, rfl, rfl, rfl, rfl, rfl, rfl, rfl, rfl, rfl, rfl, rfl, rfl, rfl, (congrArg (Value.int .i64) (show ((((m : Nat) : Int) + 1) : Int) = (((m + 1) : Nat) : Int) by omega)), rfl, rfl, rfl, rfl, rfl, rfl, rfl, rfl, rfl, rfl, rfl, rfl, rfl, rfl, rfl, rfl, rfl, rfl, rfl, rfl, rfl, rfl, rfl, rfl, rfl, rfl, rfl, rfl, rfl, rfl, rfl, rfl, rfl, rfl, rfl, rfl, rfl, rfl, rfl, rfl, rfl, rfl, rfl, rfl, rfl, rfl, rfl, rfl, rfl, rfl, rfl, rfl, rfl, rfl, rfl, rfl, rfl, rfl, rfl, rfl, rfl, rfl, rfl, rfl, rfl, rfl, rfl, rfl, rfl, rfl, rfl, rfl, rfl, rfl, rfl, rfl, rfl, rfl, rfl, rfl, rfl, rfl, rfl, rfl, rfl, rfl, rfl, rfl, rfl, rfl, rfl, rfl, rfl, rfl, rfl, rfl, rfl, rfl, rfl, rfl, rfl, rfl, rfl, rfl, rfl, rfl, rfl, rfl, rfl, rfl, rfl, rfl, rfl, rfl, rfl, rfl, rfl, rfl, rfl, rfl, rfl, rfl, rfl, rfl, rfl, rfl, rfl, rfl, rfl, rfl, rfl, rfl, rfl, rfl, rfl, trivial⟩
      · exact fun u => ⟨(m + 1), (unL [u 1, u 2, u 3, u 6, u 7, u 8, u 9, u 10, u 11, u 12, u 13, u 14, u 15, u 16, u 17, u 18, u 21, u 22, u 23, u 24, u 25, u 26, u 27, u 28, u 29, u 30, u 31, u 32, u 33, u 34, u 35, u 36, u 37, u 38, u 39, u 40, u 41, u 42, u 43, u 44, u 45, u 46, u 47, u 48, u 49, u 50, u 51, u 52, u 53, u 54, u 55, u 56, u 57, u 58, u 59, u 60, u 61, u 62, u 63, u 64, u 65, u 66, u 67, u 68, u 69, u 70, u 71, u 72, u 73, u 74, u 75, u 76, u 77, u 78, u 79, u 80, u 81, u 82, u 83, u 84, u 85, u 86, u 87, u 88, u 89, u 90, u 91, u 92, u 93, u 94, u 95, u 96, u 97, u 98, u 99, u 100, u 101, u 102, u 103, u 104, u 105, u 106, u 107, u 108, u 109, u 110, u 111, u 112, u 113, u 114, u 115, u 116, u 117, u 118, u 119, u 120, u 121, u 122, u 123, u 124, u 125, u 126, u 127, u 128, u 129, u 130, u 131, u 132, u 133, u 134, u 135, u 136, u 137, u 138, u 139, u 140, u 141, u 142, u 143, u 144, u 145, u 146, u 147, u 148, u 149, u 150, u 151, u 152, u 153, u 154]), rfl, m358, ((((Ch.refl (fun k => w0.heap.size ≤ k) w8).ext k311 (fun k hk => hk)).extk k351).ext k356 (fun k hk => Nat.le_trans (Nat.le_refl w0.heap.size) (own_lt o18 k hk).1)), (by omega), (by rw [← hE359]; exact o357), (by rw [← hE360]; exact o361)⟩
      · show (8 - (((m + 1) : Nat) : Int)).toNat < (8 - ((m : Nat) : Int)).toNat; omega
   have q125 := of_decide_eq_true h124
   refine ct h124 ?_
   refine wc_skip <| wq_then <| wc_seq <| wc_block <| wc_seq ?_
   refine wc_drawT ([(64, [], [], (fun _ v _ => v = (vi yz))), (65, [], [], (fun _ v _ => v = (vi ye))), (66, [], [1], (fun _ v w => v = .int .i64 (rot ye 6))), (67, [], [], (fun _ v _ => v = (vi ye))), (68, [], [1, 2, 3], (fun _ v w => v = .int .i64 (rot ye 11))), (69, [], [1, 2, 3, 4], (fun _ v _ => v = (vi (xorI (rot ye 6) (rot ye 11))))), (70, [], [], (fun _ v _ => v = (vi ye))), (71, [], [1, 2, 3, 4, 6], (fun _ v w => v = .int .i64 (rot ye 25))), (72, [], [1, 2, 3, 4, 5, 6, 7], (fun _ v _ => v = (vi (xorI (xorI (rot ye 6) (rot ye 11)) (rot ye 25))))), (73, [], [0, 1, 2, 3, 4, 5, 6, 7, 8], (fun _ v _ => v = (vi (yz + (xorI (xorI (rot ye 6) (rot ye 11)) (rot ye 25)))))), (74, [], [], (fun _ v _ => v = (vi ye))), (75, [], [], (fun _ v _ => v = (vi yf))), (76, [], [10, 11], (fun _ v _ => v = (vi (andI ye yf)))), (77, [], [], (fun _ v _ => v = (vi ye))), (78, [], [13], (fun _ v _ => v = (vi (xorI ye 4294967295)))), (79, [], [], (fun _ v _ => v = (vi yg))), (80, [], [13, 14, 15], (fun _ v _ => v = (vi (andI (xorI ye 4294967295) yg)))), (81, [], [10, 11, 12, 13, 14, 15, 16], (fun _ v _ => v = (vi (xorI (andI ye yf) (andI (xorI ye 4294967295) yg))))), (82, [], [0, 1, 2, 3, 4, 5, 6, 7, 8, 9, 10, 11, 12, 13, 14, 15, 16, 17], (fun _ v _ => v = (vi ((yz + (xorI (xorI (rot ye 6) (rot ye 11)) (rot ye 25))) + (xorI (andI ye yf) (andI (xorI ye 4294967295) yg)))))), (83, [], [], (fun _ v _ => v = (vs a32 (kw).length c33))), (84, [], [], (fun _ v _ => v = (vi ((k : Nat) : Int)))), (85, [], [19, 20], (fun _ v _ => v = (ve (vs a32 (kw).length c33) ((((k : Nat) : Int)).toNat * 1)))), (86, [], [19, 20, 21], (fun _ v _ => v = (vi zk))), (87, [], [0, 1, 2, 3, 4, 5, 6, 7, 8, 9, 10, 11, 12, 13, 14, 15, 16, 17, 18, 19, 20, 21, 22], (fun _ v _ => v = (vi (((yz + (xorI (xorI (rot ye 6) (rot ye 11)) (rot ye 25))) + (xorI (andI ye yf) (andI (xorI ye 4294967295) yg))) + zk)))), (88, [], [], (fun _ v _ => v = (vs a40 (schedP x_block).length c41))), (89, [], [], (fun _ v _ => v = (vi ((k : Nat) : Int)))), (90, [], [24, 25], (fun _ v _ => v = (ve (vs a40 (schedP x_block).length c41) ((((k : Nat) : Int)).toNat * 1)))), (91, [], [24, 25, 26], (fun _ v _ => v = (vi zw)))] : GV) (fun _ w' => Keep w7 w') [] mixed rfl (by kernel_rfl) (by kernel_rfl) ?_ (fun _ _ h => h) (fun _ _ _ _ h _ k => h.trans k) trivial ?_ ?_ ?_
   ·exact ⟨(fun _ _ _ _ h _ => h), (fun _ _ _ _ _ h => h), ⟨(fun _ _ _ _ h _ => h), (fun _ _ _ _ _ h => h), ⟨(fun _ _ _ _ h _ => h), (fun _ _ _ _ _ h => h), ⟨(fun _ _ _ _ h _ => h), (fun _ _ _ _ _ h => h), ⟨(fun _ _ _ _ h _ => h), (fun _ _ _ _ _ h => h), ⟨(fun _ _ _ _ h _ => h), (fun _ _ _ _ _ h => h), ⟨(fun _ _ _ _ h _ => h), (fun _ _ _ _ _ h => h), ⟨(fun _ _ _ _ h _ => h), (fun _ _ _ _ _ h => h), ⟨(fun _ _ _ _ h _ => h), (fun _ _ _ _ _ h => h), ⟨(fun _ _ _ _ h _ => h), (fun _ _ _ _ _ h => h), ⟨(fun _ _ _ _ h _ => h), (fun _ _ _ _ _ h => h), ⟨(fun _ _ _ _ h _ => h), (fun _ _ _ _ _ h => h), ⟨(fun _ _ _ _ h _ => h), (fun _ _ _ _ _ h => h), ⟨(fun _ _ _ _ h _ => h), (fun _ _ _ _ _ h => h), ⟨(fun _ _ _ _ h _ => h), (fun _ _ _ _ _ h => h), ⟨(fun _ _ _ _ h _ => h), (fun _ _ _ _ _ h => h), ⟨(fun _ _ _ _ h _ => h), (fun _ _ _ _ _ h => h), ⟨(fun _ _ _ _ h _ => h), (fun _ _ _ _ _ h => h), ⟨(fun _ _ _ _ h _ => h), (fun _ _ _ _ _ h => h), ⟨(fun _ _ _ _ h _ => h), (fun _ _ _ _ _ h => h), ⟨(fun _ _ _ _ h _ => h), (fun _ _ _ _ _ h => h), ⟨(fun _ _ _ _ h _ => h), (fun _ _ _ _ _ h => h), ⟨(fun _ _ _ _ h _ => h), (fun _ _ _ _ _ h => h), ⟨(fun _ _ _ _ h _ => h), (fun _ _ _ _ _ h => h), ⟨(fun _ _ _ _ h _ => h), (fun _ _ _ _ _ h => h), ⟨(fun _ _ _ _ h _ => h), (fun _ _ _ _ _ h => h), ⟨(fun _ _ _ _ h _ => h), (fun _ _ _ _ _ h => h), ⟨(fun _ _ _ _ h _ => h), (fun _ _ _ _ _ h => h), trivial⟩⟩⟩⟩⟩⟩⟩⟩⟩⟩⟩⟩⟩⟩⟩⟩⟩⟩⟩⟩⟩⟩⟩⟩⟩⟩⟩⟩
   ·exact trivial
   ·refine ⟨?_, ⟨?_, ⟨?_, ⟨?_, ⟨?_, ⟨?_, ⟨?_, ⟨?_, ⟨?_, ⟨?_, ⟨?_, ⟨?_, ⟨?_, ⟨?_, ⟨?_, ⟨?_, ⟨?_, ⟨?_, ⟨?_, ⟨?_, ⟨?_, ⟨?_, ⟨?_, ⟨?_, ⟨?_, ⟨?_, ⟨?_, ⟨?_, trivial⟩⟩⟩⟩⟩⟩⟩⟩⟩⟩⟩⟩⟩⟩⟩⟩⟩⟩⟩⟩⟩⟩⟩⟩⟩⟩⟩⟩
    ·intro _ w8 k151 _
     have m152 := m113.extk k151
     rintro _ _ _ _ _ _ _ _ _ _ _ _ _ _ _ _ _ _ _ _ _ _ _ _ _ _ _ _
     show WL _ _ _ _ _ _ _
     refine mw (vi yz) ?_
     exact f1
    ·intro _ w8 k153 _
     have m154 := m113.extk k153
     rintro _ _ _ _ _ _ _ _ _ _ _ _ _ _ _ _ _ _ _ _ _ _ _ _ _ _ _ _
     show WL _ _ _ _ _ _ _
     refine mw (vi ye) ?_
     exact f1
    ·intro _ w8 k155 _
     have m156 := m113.extk k155
     rintro _ _ rfl _ _ _ _ _ _ _ _ _ _ _ _ _ _ _ _ _ _ _ _ _ _ _ _ _ _
     show WL _ _ _ _ _ _ _
     refine cl wN (C_spec_Rot w8 ye 6 (by omega) (by omega)) ?_
     rintro _ w9 ⟨k157, rfl⟩
     have m158 := m156.extk k157
     have q159 := rot_b ye 6
     exact wl_finT k157 rfl
    ·intro _ w8 k160 _
     have m161 := m113.extk k160
     rintro _ _ _ _ _ _ _ _ _ _ _ _ _ _ _ _ _ _ _ _ _ _ _ _ _ _ _ _
     show WL _ _ _ _ _ _ _
     refine mw (vi ye) ?_
     exact f1
    ·intro _ w8 k162 _
     have m163 := m113.extk k162
     rintro _ _ rfl _ rfl
     have q164 := rot_b ye 6
     rintro _ rfl _ _ _ _ _ _ _ _ _ _ _ _ _ _ _ _ _ _ _ _ _ _ _ _
     show WL _ _ _ _ _ _ _
     refine cl wN (C_spec_Rot w8 ye 11 (by omega) (by omega)) ?_
     rintro _ w9 ⟨k165, rfl⟩
     have m166 := m163.extk k165
     have q167 := rot_b ye 11
     exact wl_finT k165 rfl
    ·intro _ w8 k168 _
     have m169 := m113.extk k168
     rintro _ _ rfl _ rfl
     have q170 := rot_b ye 6
     rintro _ rfl _ rfl
     have q171 := rot_b ye 11
     rintro _ _ _ _ _ _ _ _ _ _ _ _ _ _ _ _ _ _ _ _ _ _ _
     show WL _ _ _ _ _ _ _
     refine wl_xor (rot ye 6) (rot ye 11) wN rfl rfl (by kernel_rfl) (by omega) (by omega) (by omega) (by omega) ?_
     have q172 := xorI_b (a := (rot ye 6)) (b := (rot ye 11)) (by omega) (by omega)
     exact f1
    ·intro _ w8 k173 _
     have m174 := m113.extk k173
     rintro _ _ _ _ _ _ _ _ _ _ _ _ _ _ _ _ _ _ _ _ _ _ _ _ _ _ _ _
     show WL _ _ _ _ _ _ _
     refine mw (vi ye) ?_
     exact f1
    ·intro _ w8 k175 _
     have m176 := m113.extk k175
     rintro _ _ rfl _ rfl
     have q177 := rot_b ye 6
     rintro _ rfl _ rfl
     have q178 := rot_b ye 11
     rintro _ _ rfl _ _ _ _ _ _ _ _ _ _ _ _ _ _ _ _ _ _ _ _ _
     show WL _ _ _ _ _ _ _
     refine cl wN (C_spec_Rot w8 ye 25 (by omega) (by omega)) ?_
     rintro _ w9 ⟨k179, rfl⟩
     have m180 := m176.extk k179
     have q181 := rot_b ye 25
     exact wl_finT k179 rfl
    ·intro _ w8 k182 _
     have m183 := m113.extk k182
     rintro _ _ rfl _ rfl
     have q184 := rot_b ye 6
     rintro _ rfl _ rfl
     have q185 := rot_b ye 11
     rintro _ rfl
     have q186 := xorI_b (a := (rot ye 6)) (b := (rot ye 11)) (by omega) (by omega)
     rintro _ rfl _ rfl
     have q187 := rot_b ye 25
     rintro _ _ _ _ _ _ _ _ _ _ _ _ _ _ _ _ _ _ _ _
     show WL _ _ _ _ _ _ _
     refine wl_xor (xorI (rot ye 6) (rot ye 11)) (rot ye 25) wN rfl rfl (by kernel_rfl) (by omega) (by omega) (by omega) (by omega) ?_
     have q188 := xorI_b (a := (xorI (rot ye 6) (rot ye 11))) (b := (rot ye 25)) (by omega) (by omega)
     exact f1
    ·intro _ w8 k189 _
     have m190 := m113.extk k189
     rintro _ rfl _ rfl _ rfl
     have q191 := rot_b ye 6
     rintro _ rfl _ rfl
     have q192 := rot_b ye 11
     rintro _ rfl
     have q193 := xorI_b (a := (rot ye 6)) (b := (rot ye 11)) (by omega) (by omega)
     rintro _ rfl _ rfl
     have q194 := rot_b ye 25
     rintro _ rfl
     have q195 := xorI_b (a := (xorI (rot ye 6) (rot ye 11))) (b := (rot ye 25)) (by omega) (by omega)
     rintro _ _ _ _ _ _ _ _ _ _ _ _ _ _ _ _ _ _ _
     show WL _ _ _ _ _ _ _
     refine ar (yz + (xorI (xorI (rot ye 6) (rot ye 11)) (rot ye 25))) wN ?_
     exact f1
    ·intro _ w8 k196 _
     have m197 := m113.extk k196
     rintro _ _ _ _ _ _ _ _ _ _ _ _ _ _ _ _ _ _ _ _ _ _ _ _ _ _ _ _
     show WL _ _ _ _ _ _ _
     refine mw (vi ye) ?_
     exact f1
    ·intro _ w8 k198 _
     have m199 := m113.extk k198
     rintro _ _ _ _ _ _ _ _ _ _ _ _ _ _ _ _ _ _ _ _ _ _ _ _ _ _ _ _
     show WL _ _ _ _ _ _ _
     refine mw (vi yf) ?_
     exact f1
    ·intro _ w8 k200 _
     have m201 := m113.extk k200
     rintro _ _ _ _ _ _ _ _ _ _ _ rfl _ rfl _ _ _ _ _ _ _ _ _ _ _ _ _ _ _ _
     show WL _ _ _ _ _ _ _
     refine wl_andG ye yf wN rfl rfl (by kernel_rfl) (by omega) (by omega) (by omega) (by omega) ?_
     have q202 := andI_b (a := ye) (b := yf) (by omega)
     exact f1
    ·intro _ w8 k203 _
     have m204 := m113.extk k203
     rintro _ _ _ _ _ _ _ _ _ _ _ _ _ _ _ _ _ _ _ _ _ _ _ _ _ _ _ _
     show WL _ _ _ _ _ _ _
     refine mw (vi ye) ?_
     exact f1
    ·intro _ w8 k205 _
     have m206 := m113.extk k205
     rintro _ _ _ _ _ _ _ _ _ _ _ _ _ _ rfl _ _ _ _ _ _ _ _ _ _ _ _ _ _
     show WL _ _ _ _ _ _ _
     refine wl_xor ye 4294967295 wN rfl rfl (by kernel_rfl) (by omega) (by omega) (by omega) (by omega) ?_
     have q207 := xorI_b (a := ye) (b := 4294967295) (by omega) (by omega)
     exact f1
    ·intro _ w8 k208 _
     have m209 := m113.extk k208
     rintro _ _ _ _ _ _ _ _ _ _ _ _ _ _ _ _ _ _ _ _ _ _ _ _ _ _ _ _
     show WL _ _ _ _ _ _ _
     refine mw (vi yg) ?_
     exact f1
    ·intro _ w8 k210 _
     have m211 := m113.extk k210
     rintro _ _ _ _ _ _ _ _ _ _ _ _ _ _ rfl _ rfl
     have q212 := xorI_b (a := ye) (b := 4294967295) (by omega) (by omega)
     rintro _ rfl _ _ _ _ _ _ _ _ _ _ _ _
     show WL _ _ _ _ _ _ _
     refine wl_andG (xorI ye 4294967295) yg wN rfl rfl (by kernel_rfl) (by omega) (by omega) (by omega) (by omega) ?_
     have q213 := andI_b (a := (xorI ye 4294967295)) (b := yg) (by omega)
     exact f1
    ·intro _ w8 k214 _
     have m215 := m113.extk k214
     rintro _ _ _ _ _ _ _ _ _ _ _ rfl _ rfl _ rfl
     have q216 := andI_b (a := ye) (b := yf) (by omega)
     rintro _ rfl _ rfl
     have q217 := xorI_b (a := ye) (b := 4294967295) (by omega) (by omega)
     rintro _ rfl _ rfl
     have q218 := andI_b (a := (xorI ye 4294967295)) (b := yg) (by omega)
     rintro _ _ _ _ _ _ _ _ _ _ _
     show WL _ _ _ _ _ _ _
     refine wl_xor (andI ye yf) (andI (xorI ye 4294967295) yg) wN rfl rfl (by kernel_rfl) (by omega) (by omega) (by omega) (by omega) ?_
     have q219 := xorI_b (a := (andI ye yf)) (b := (andI (xorI ye 4294967295) yg)) (by omega) (by omega)
     exact f1
    ·intro _ w8 k220 _
     have m221 := m113.extk k220
     rintro _ rfl _ rfl _ rfl
     have q222 := rot_b ye 6
     rintro _ rfl _ rfl
     have q223 := rot_b ye 11
     rintro _ rfl
     have q224 := xorI_b (a := (rot ye 6)) (b := (rot ye 11)) (by omega) (by omega)
     rintro _ rfl _ rfl
     have q225 := rot_b ye 25
     rintro _ rfl
     have q226 := xorI_b (a := (xorI (rot ye 6) (rot ye 11))) (b := (rot ye 25)) (by omega) (by omega)
     rintro _ rfl _ rfl _ rfl _ rfl
     have q227 := andI_b (a := ye) (b := yf) (by omega)
     rintro _ rfl _ rfl
     have q228 := xorI_b (a := ye) (b := 4294967295) (by omega) (by omega)
     rintro _ rfl _ rfl
     have q229 := andI_b (a := (xorI ye 4294967295)) (b := yg) (by omega)
     rintro _ rfl
     have q230 := xorI_b (a := (andI ye yf)) (b := (andI (xorI ye 4294967295) yg)) (by omega) (by omega)
     rintro _ _ _ _ _ _ _ _ _ _
     show WL _ _ _ _ _ _ _
     refine ar ((yz + (xorI (xorI (rot ye 6) (rot ye 11)) (rot ye 25))) + (xorI (andI ye yf) (andI (xorI ye 4294967295) yg))) wN ?_
     exact f1
    ·intro _ w8 k231 _
     have m232 := m113.extk k231
     rintro _ _ _ _ _ _ _ _ _ _ _ _ _ _ _ _ _ _ _ _ _ _ _ _ _ _ _ _
     show WL _ _ _ _ _ _ _
     refine mw (vs a32 (kw).length c33) ?_
     exact f1
    ·intro _ w8 k233 _
     have m234 := m113.extk k233
     rintro _ _ _ _ _ _ _ _ _ _ _ _ _ _ _ _ _ _ _ _ _ _ _ _ _ _ _ _
     show WL _ _ _ _ _ _ _
     refine mw (vi ((k : Nat) : Int)) ?_
     exact f1
    ·intro _ w8 k235 _
     have m236 := m113.extk k235
     rintro _ _ _ _ _ _ _ _ _ _ _ _ _ _ _ _ _ _ _ _ rfl _ rfl _ _ _ _ _ _ _
     show WL _ _ _ _ _ _ _
     have o237 := (own_kp (own_ch (own_kp (own_kp o34 k39) k110) k114 (fun g hg hlt hk => by have h1 := (own_lt o34 g hg).2; have h2 : w4.heap.size ≤ w6.heap.size := (z2 k39 k110); have h3 : w6.heap.size ≤ g := hk; omega)) k235)
     refine wl_index (v := (vs a32 (kw).length c33)) wN ((k : Nat) : Int) rfl rfl rfl slTy_32 rfl rfl (Rd.of_own o237) (by first | omega | (simp only [List.length_cons, List.length_nil, List.length_replicate, List.length_append, List.length_take, List.length_set, List.length_map]; omega)) (by first | omega | (simp only [List.length_cons, List.length_nil, List.length_replicate, List.length_append, List.length_take, List.length_set, List.length_map]; omega)) ?_
     exact f1
    ·intro _ w8 k238 _
     have m239 := m113.extk k238
     rintro _ _ _ _ _ _ _ _ _ _ _ _ _ _ _ _ _ _ _ _ rfl _ rfl _ rfl _ _ _ _ _ _
     show WL _ _ _ _ _ _ _
     have o241 := (own_kp (own_ch (own_kp (own_kp o34 k39) k110) k114 (fun g hg hlt hk => by have h1 := (own_lt o34 g hg).2; have h2 : w4.heap.size ≤ w6.heap.size := (z2 k39 k110); have h3 : w6.heap.size ≤ g := hk; omega)) k238)
     refine wl_loadE (iV zk) wN rfl rfl rfl rfl isAgg_3 (Rd.of_own o241) (by rw [← hzk]; exact iget (by simp) (by first | omega | (simp only [List.length_cons, List.length_nil, List.length_replicate, List.length_append, List.length_take, List.length_set, List.length_map]; omega))) ?_
     exact f1
    ·intro _ w8 k242 _
     have m243 := m113.extk k242
     rintro _ rfl _ rfl _ rfl
     have q244 := rot_b ye 6
     rintro _ rfl _ rfl
     have q245 := rot_b ye 11
     rintro _ rfl
     have q246 := xorI_b (a := (rot ye 6)) (b := (rot ye 11)) (by omega) (by omega)
     rintro _ rfl _ rfl
     have q247 := rot_b ye 25
     rintro _ rfl
     have q248 := xorI_b (a := (xorI (rot ye 6) (rot ye 11))) (b := (rot ye 25)) (by omega) (by omega)
     rintro _ rfl _ rfl _ rfl _ rfl
     have q249 := andI_b (a := ye) (b := yf) (by omega)
     rintro _ rfl _ rfl
     have q250 := xorI_b (a := ye) (b := 4294967295) (by omega) (by omega)
     rintro _ rfl _ rfl
     have q251 := andI_b (a := (xorI ye 4294967295)) (b := yg) (by omega)
     rintro _ rfl
     have q252 := xorI_b (a := (andI ye yf)) (b := (andI (xorI ye 4294967295) yg)) (by omega) (by omega)
     rintro _ rfl _ rfl _ rfl _ rfl _ rfl _ _ _ _ _
     show WL _ _ _ _ _ _ _
     refine ar (((yz + (xorI (xorI (rot ye 6) (rot ye 11)) (rot ye 25))) + (xorI (andI ye yf) (andI (xorI ye 4294967295) yg))) + zk) wN ?_
     exact f1
    ·intro _ w8 k255 _
     have m256 := m113.extk k255
     rintro _ _ _ _ _ _ _ _ _ _ _ _ _ _ _ _ _ _ _ _ _ _ _ _ _ _ _ _
     show WL _ _ _ _ _ _ _
     refine mw (vs a40 (schedP x_block).length c41) ?_
     exact f1
    ·intro _ w8 k257 _
     have m258 := m113.extk k257
     rintro _ _ _ _ _ _ _ _ _ _ _ _ _ _ _ _ _ _ _ _ _ _ _ _ _ _ _ _
     show WL _ _ _ _ _ _ _
     refine mw (vi ((k : Nat) : Int)) ?_
     exact f1
    ·intro _ w8 k259 _
     have m260 := m113.extk k259
     rintro _ _ _ _ _ _ _ _ _ _ _ _ _ _ _ _ _ _ _ _ _ _ _ _ _ rfl _ rfl _ _
     show WL _ _ _ _ _ _ _
     have o261 := (own_kp (own_ch (own_kp o42 k110) k114 (fun g hg hlt hk => by have h1 := (own_lt o42 g hg).2; have h2 : w5.heap.size ≤ w6.heap.size := k110.size; have h3 : w6.heap.size ≤ g := hk; omega)) k259)
     refine wl_index (v := (vs a40 (schedP x_block).length c41)) wN ((k : Nat) : Int) rfl rfl rfl slTy_32 rfl rfl (Rd.of_own o261) (by first | omega | (simp only [List.length_cons, List.length_nil, List.length_replicate, List.length_append, List.length_take, List.length_set, List.length_map]; omega)) (by first | omega | (simp only [List.length_cons, List.length_nil, List.length_replicate, List.length_append, List.length_take, List.length_set, List.length_map]; omega)) ?_
     exact f1
    ·intro _ w8 k262 _
     have m263 := m113.extk k262
     rintro _ _ _ _ _ _ _ _ _ _ _ _ _ _ _ _ _ _ _ _ _ _ _ _ _ rfl _ rfl _ rfl _
     show WL _ _ _ _ _ _ _
     have o265 := (own_kp (own_ch (own_kp o42 k110) k114 (fun g hg hlt hk => by have h1 := (own_lt o42 g hg).2; have h2 : w5.heap.size ≤ w6.heap.size := k110.size; have h3 : w6.heap.size ≤ g := hk; omega)) k262)
     refine wl_loadE (iV zw) wN rfl rfl rfl rfl isAgg_3 (Rd.of_own o265) (by rw [← hzw]; exact iget (by simp) (by first | omega | (simp only [List.length_cons, List.length_nil, List.length_replicate, List.length_append, List.length_take, List.length_set, List.length_map]; omega))) ?_
     exact f1
   ·intro _ w8 k266
    have m267 := m113.extk k266
    rintro _ rfl _ rfl _ rfl
    have q268 := rot_b ye 6
    rintro _ rfl _ rfl
    have q269 := rot_b ye 11
    rintro _ rfl
    have q270 := xorI_b (a := (rot ye 6)) (b := (rot ye 11)) (by omega) (by omega)
    rintro _ rfl _ rfl
    have q271 := rot_b ye 25
    rintro _ rfl
    have q272 := xorI_b (a := (xorI (rot ye 6) (rot ye 11))) (b := (rot ye 25)) (by omega) (by omega)
    rintro _ rfl _ rfl _ rfl _ rfl
    have q273 := andI_b (a := ye) (b := yf) (by omega)
    rintro _ rfl _ rfl
    have q274 := xorI_b (a := ye) (b := 4294967295) (by omega) (by omega)
    rintro _ rfl _ rfl
    have q275 := andI_b (a := (xorI ye 4294967295)) (b := yg) (by omega)
    rintro _ rfl
    have q276 := xorI_b (a := (andI ye yf)) (b := (andI (xorI ye 4294967295) yg)) (by omega) (by omega)
    rintro _ rfl _ rfl _ rfl _ rfl _ rfl _ rfl _ rfl _ rfl _ rfl _ rfl
    show WL _ _ _ _ _ _ _
    refine ar ((((yz + (xorI (xorI (rot ye 6) (rot ye 11)) (rot ye 25))) + (xorI (andI ye yf) (andI (xorI ye 4294967295) yg))) + zk) + zw) wN ?_
    refine wl_and ((((yz + (xorI (xorI (rot ye 6) (rot ye 11)) (rot ye 25))) + (xorI (andI ye yf) (andI (xorI ye 4294967295) yg))) + zk) + zw) 4294967295 4294967296 32 wN rfl rfl (by decide) (by decide) (by decide) (by kernel_rfl) ?_
    refine aw (vi (((((yz + (xorI (xorI (rot ye 6) (rot ye 11)) (rot ye 25))) + (xorI (andI ye yf) (andI (xorI ye 4294967295) yg))) + zk) + zw) % 4294967296)) ?_
    refine nx ?_
    refine mw (vi ya) ?_
    refine cl wN (C_spec_Rot w8 ya 2 (by omega) (by omega)) ?_
    rintro _ w9 ⟨k281, rfl⟩
    have m282 := m267.extk k281
    have q283 := rot_b ya 2
    refine mw (vi ya) ?_
    refine cl wN (C_spec_Rot w9 ya 13 (by omega) (by omega)) ?_
    rintro _ w10 ⟨k284, rfl⟩
    have m285 := m282.extk k284
    have q286 := rot_b ya 13
    refine wl_xor (rot ya 2) (rot ya 13) wN rfl rfl (by kernel_rfl) (by omega) (by omega) (by omega) (by omega) ?_
    have q287 := xorI_b (a := (rot ya 2)) (b := (rot ya 13)) (by omega) (by omega)
    refine mw (vi ya) ?_
    refine cl wN (C_spec_Rot w10 ya 22 (by omega) (by omega)) ?_
    rintro _ w11 ⟨k288, rfl⟩
    have m289 := m285.extk k288
    have q290 := rot_b ya 22
    refine wl_xor (xorI (rot ya 2) (rot ya 13)) (rot ya 22) wN rfl rfl (by kernel_rfl) (by omega) (by omega) (by omega) (by omega) ?_
    have q291 := xorI_b (a := (xorI (rot ya 2) (rot ya 13))) (b := (rot ya 22)) (by omega) (by omega)
    refine mw (vi ya) ?_
    refine mw (vi yb) ?_
    refine wl_andG ya yb wN rfl rfl (by kernel_rfl) (by omega) (by omega) (by omega) (by omega) ?_
    have q292 := andI_b (a := ya) (b := yb) (by omega)
    refine mw (vi ya) ?_
    refine mw (vi yc) ?_
    refine wl_andG ya yc wN rfl rfl (by kernel_rfl) (by omega) (by omega) (by omega) (by omega) ?_
    have q293 := andI_b (a := ya) (b := yc) (by omega)
    refine wl_xor (andI ya yb) (andI ya yc) wN rfl rfl (by kernel_rfl) (by omega) (by omega) (by omega) (by omega) ?_
    have q294 := xorI_b (a := (andI ya yb)) (b := (andI ya yc)) (by omega) (by omega)
    refine mw (vi yb) ?_
    refine mw (vi yc) ?_
    refine wl_andG yb yc wN rfl rfl (by kernel_rfl) (by omega) (by omega) (by omega) (by omega) ?_
    have q295 := andI_b (a := yb) (b := yc) (by omega)
    refine wl_xor (xorI (andI ya yb) (andI ya yc)) (andI yb yc) wN rfl rfl (by kernel_rfl) (by omega) (by omega) (by omega) (by omega) ?_
    have q296 := xorI_b (a := (xorI (andI ya yb) (andI ya yc))) (b := (andI yb yc)) (by omega) (by omega)
    refine ar ((xorI (xorI (rot ya 2) (rot ya 13)) (rot ya 22)) + (xorI (xorI (andI ya yb) (andI ya yc)) (andI yb yc))) wN ?_
    refine wl_and ((xorI (xorI (rot ya 2) (rot ya 13)) (rot ya 22)) + (xorI (xorI (andI ya yb) (andI ya yc)) (andI yb yc))) 4294967295 4294967296 32 wN rfl rfl (by decide) (by decide) (by decide) (by kernel_rfl) ?_
    refine aw (vi (((xorI (xorI (rot ya 2) (rot ya 13)) (rot ya 22)) + (xorI (xorI (andI ya yb) (andI ya yc)) (andI yb yc))) % 4294967296)) ?_
    refine nx ?_
    refine mw (vi yg) ?_
    refine aw (vi yg) ?_
    refine nx ?_
    refine mw (vi yf) ?_
    refine aw (vi yf) ?_
    refine nx ?_
    refine mw (vi ye) ?_
    refine aw (vi ye) ?_
    refine nx ?_
    refine mw (vi yd) ?_
    refine mw (vi (((((yz + (xorI (xorI (rot ye 6) (rot ye 11)) (rot ye 25))) + (xorI (andI ye yf) (andI (xorI ye 4294967295) yg))) + zk) + zw) % 4294967296)) ?_
    refine ar (yd + (((((yz + (xorI (xorI (rot ye 6) (rot ye 11)) (rot ye 25))) + (xorI (andI ye yf) (andI (xorI ye 4294967295) yg))) + zk) + zw) % 4294967296)) wN ?_
    refine wl_and (yd + (((((yz + (xorI (xorI (rot ye 6) (rot ye 11)) (rot ye 25))) + (xorI (andI ye yf) (andI (xorI ye 4294967295) yg))) + zk) + zw) % 4294967296)) 4294967295 4294967296 32 wN rfl rfl (by decide) (by decide) (by decide) (by kernel_rfl) ?_
    refine aw (vi ((yd + (((((yz + (xorI (xorI (rot ye 6) (rot ye 11)) (rot ye 25))) + (xorI (andI ye yf) (andI (xorI ye 4294967295) yg))) + zk) + zw) % 4294967296)) % 4294967296)) ?_
    refine nx ?_
    refine mw (vi yc) ?_
    refine aw (vi yc) ?_
    refine nx ?_
    refine mw (vi yb) ?_
    refine aw (vi yb) ?_
    refine nx ?_
    refine mw (vi ya) ?_
    refine aw (vi ya) ?_
    refine wl_nil <| wq_then <| wc_region ?_
    refine mw (vi (((((yz + (xorI (xorI (rot ye 6) (rot ye 11)) (rot ye 25))) + (xorI (andI ye yf) (andI (xorI ye 4294967295) yg))) + zk) + zw) % 4294967296)) ?_
    refine mw (vi (((xorI (xorI (rot ya 2) (rot ya 13)) (rot ya 22)) + (xorI (xorI (andI ya yb) (andI ya yc)) (andI yb yc))) % 4294967296)) ?_
    refine ar ((((((yz + (xorI (xorI (rot ye 6) (rot ye 11)) (rot ye 25))) + (xorI (andI ye yf) (andI (xorI ye 4294967295) yg))) + zk) + zw) % 4294967296) + (((xorI (xorI (rot ya 2) (rot ya 13)) (rot ya 22)) + (xorI (xorI (andI ya yb) (andI ya yc)) (andI yb yc))) % 4294967296)) wN ?_
    refine wl_and ((((((yz + (xorI (xorI (rot ye 6) (rot ye 11)) (rot ye 25))) + (xorI (andI ye yf) (andI (xorI ye 4294967295) yg))) + zk) + zw) % 4294967296) + (((xorI (xorI (rot ya 2) (rot ya 13)) (rot ya 22)) + (xorI (xorI (andI ya yb) (andI ya yc)) (andI yb yc))) % 4294967296)) 4294967295 4294967296 32 wN rfl rfl (by decide) (by decide) (by decide) (by kernel_rfl) ?_
    refine aw (vi (((((((yz + (xorI (xorI (rot ye 6) (rot ye 11)) (rot ye 25))) + (xorI (andI ye yf) (andI (xorI ye 4294967295) yg))) + zk) + zw) % 4294967296) + (((xorI (xorI (rot ya 2) (rot ya 13)) (rot ya 22)) + (xorI (xorI (andI ya yb) (andI ya yc)) (andI yb yc))) % 4294967296)) % 4294967296)) ?_
    refine wl_nil <| wq_blk_normal <| wq_then <| wc_region ?_
    refine mw (vi ((k : Nat) : Int)) ?_
    refine ar (((k : Nat) : Int) + 1) wN ?_
    refine aw (vi (((k : Nat) : Int) + 1)) ?_
    refine wl_nil ?_
    refine wq_loopQ (w0 := w7) (fun e => [(vs a1 x_h.length c2), e 1, e 2, e 3, (vs none 0 0), (vs a20 x_h.length c21), (vs a32 (kw).length c33), (vs a40 (schedP x_block).length c41), (vi ((cmpN (schedP x_block) (s8of x_h) (k + 1)).a)), (vi ((cmpN (schedP x_block) (s8of x_h) (k + 1)).b)), (vi ((cmpN (schedP x_block) (s8of x_h) (k + 1)).c)), (vi ((cmpN (schedP x_block) (s8of x_h) (k + 1)).d)), (vi ((cmpN (schedP x_block) (s8of x_h) (k + 1)).e)), (vi ((cmpN (schedP x_block) (s8of x_h) (k + 1)).f)), (vi ((cmpN (schedP x_block) (s8of x_h) (k + 1)).g)), (vi ((cmpN (schedP x_block) (s8of x_h) (k + 1)).z)), (vi (((k + 1) : Nat) : Int)), e 17, e 18, U, U, e 21, e 22, e 23, e 24, e 25, e 26, e 27, e 28, e 29, e 30, e 31, e 32, e 33, e 34, e 35, e 36, e 37, e 38, e 39, e 40, e 41, e 42, e 43, e 44, e 45, e 46, e 47, e 48, e 49, e 50, e 51, e 52, e 53, e 54, e 55, e 56, e 57, e 58, e 59, e 60, e 61, e 62, e 63, e 64, e 65, e 66, e 67, e 68, e 69, e 70, e 71, e 72, e 73, e 74, e 75, e 76, e 77, e 78, e 79, e 80, e 81, e 82, e 83, e 84, e 85, e 86, e 87, e 88, e 89, e 90, e 91, e 92, e 93, e 94, e 95, e 96, e 97, e 98, e 99, e 100, e 101, e 102, e 103, e 104, e 105, e 106, e 107, e 108, e 109, e 110, e 111, e 112, e 113, e 114, e 115, e 116, e 117, e 118, e 119, e 120, e 121, e 122, e 123, e 124, e 125, e 126, e 127, e 128, U, U, U, U, U, U, U, U, U, U, U, U, U, U, U, U, U, U, U, U, U, U, U, U, U, U, U]) rfl ?_ ?_ ?_
    · exact ⟨rfl, rfl, rfl, rfl, rfl, rfl, rfl, rfl, (congrArg (Value.int .i64) (show ((((((((yz + (xorI (xorI (rot ye 6) (rot ye 11)) (rot ye 25))) + (xorI (andI ye yf) (andI (xorI ye 4294967295) yg))) + zk) + zw) % 4294967296) + (((xorI (xorI (rot ya 2) (rot ya 13)) (rot ya 22)) + (xorI (xorI (andI ya yb) (andI ya yc)) (andI yb yc))) % 4294967296)) % 4294967296) : Int) = (cmpN (schedP x_block) (s8of x_h) (k + 1)).a by subst hzw hzk hi_a hi_b hi_c hi_d hi_e hi_f hi_g hi_z; exact cmp_sa (by omega) rfl rfl)), (congrArg (Value.int .i64) (show (ya : Int) = (cmpN (schedP x_block) (s8of x_h) (k + 1)).b by rw [hi_a]; rfl)), (congrArg (Value.int .i64) (show (yb : Int) = (cmpN (schedP x_block) (s8of x_h) (k + 1)).c by rw [hi_b]; rfl)), (congrArg (Value.int .i64) (show (yc : Int) = (cmpN (schedP x_block) (s8of x_h) (k + 1)).d by rw [hi_c]; rfl)), (congrArg (Value.int .i64) (show (((yd + (((((yz + (xorI (xorI (rot ye 6) (rot ye 11)) (rot ye 25))) + (xorI (andI ye yf) (andI (xorI ye 4294967295) yg))) + zk) + zw) % 4294967296)) % 4294967296) : Int) = (cmpN (schedP x_block) (s8of x_h) (k + 1)).e by subst hzw hzk hi_a hi_b hi_c hi_d hi_e hi_f hi_g hi_z; exact cmp_se (by omega) rfl)), (congrArg (Value.int .i64) (show (ye : Int) = (cmpN (schedP x_block) (s8of x_h) (k + 1)).f by rw [hi_e]; rfl)), (congrArg (Value.int .i64) (show (yf : Int) = (cmpN (schedP x_block) (s8of x_h) (k + 1)).g by rw [hi_f]; rfl)), (congrArg (Value.int .i64) (show (yg : Int) = (cmpN (schedP x_block) (s8of x_h) (k + 1)).z by rw [hi_g]; rfl)), (congrArg (Value.int .i64) (show ((((k : Nat) : Int) + 1) : Int) = (((k + 1) : Nat) : Int) by omega)), rfl, rfl, rfl, rfl, rfl, rfl, rfl, rfl, rfl, rfl, rfl, rfl, rfl, rfl, rfl, rfl, rfl, rfl, rfl, rfl, rfl, rfl, rfl, rfl, rfl, rfl, rfl, rfl, rfl, rfl, rfl, rfl, rfl, rfl, rfl, rfl, rfl, rfl, rfl, rfl, rfl, rfl, rfl, rfl, rfl, rfl, rfl, rfl, rfl, rfl, rfl, rfl, rfl, rfl, rfl, rfl, rfl, rfl, rfl, rfl, rfl, rfl, rfl, rfl, rfl, rfl, rfl, rfl, rfl, rfl, rfl, rfl, rfl, rfl, rfl, rfl, rfl, rfl, rfl, rfl, rfl, rfl, rfl, rfl, rfl, rfl, rfl, rfl, rfl, rfl, rfl, rfl, rfl, rfl, rfl, rfl, rfl, rfl, rfl, rfl, rfl, rfl, rfl, rfl, rfl, rfl, rfl, rfl, rfl, rfl, rfl, rfl, rfl, rfl, rfl, rfl, rfl, rfl, rfl, rfl, rfl, rfl, rfl, rfl, rfl, rfl, rfl, rfl, rfl, rfl, rfl, rfl, rfl, rfl, rfl, rfl, rfl, rfl, rfl, trivial⟩
    · exact fun u => ⟨(k + 1), (cmpN (schedP x_block) (s8of x_h) (k + 1)).a, (cmpN (schedP x_block) (s8of x_h) (k + 1)).b, (cmpN (schedP x_block) (s8of x_h) (k + 1)).c, (cmpN (schedP x_block) (s8of x_h) (k + 1)).d, (cmpN (schedP x_block) (s8of x_h) (k + 1)).e, (cmpN (schedP x_block) (s8of x_h) (k + 1)).f, (cmpN (schedP x_block) (s8of x_h) (k + 1)).g, (cmpN (schedP x_block) (s8of x_h) (k + 1)).z, (unL [u 1, u 2, u 3, u 17, u 18, u 21, u 22, u 23, u 24, u 25, u 26, u 27, u 28, u 29, u 30, u 31, u 32, u 33, u 34, u 35, u 36, u 37, u 38, u 39, u 40, u 41, u 42, u 43, u 44, u 45, u 46, u 47, u 48, u 49, u 50, u 51, u 52, u 53, u 54, u 55, u 56, u 57, u 58, u 59, u 60, u 61, u 62, u 63, u 64, u 65, u 66, u 67, u 68, u 69, u 70, u 71, u 72, u 73, u 74, u 75, u 76, u 77, u 78, u 79, u 80, u 81, u 82, u 83, u 84, u 85, u 86, u 87, u 88, u 89, u 90, u 91, u 92, u 93, u 94, u 95, u 96, u 97, u 98, u 99, u 100, u 101, u 102, u 103, u 104, u 105, u 106, u 107, u 108, u 109, u 110, u 111, u 112, u 113, u 114, u 115, u 116, u 117, u 118, u 119, u 120, u 121, u 122, u 123, u 124, u 125, u 126, u 127, u 128]), rfl, m289, ((((((Ch.refl (fun k => w6.heap.size ≤ k) w6).ext k114 (fun k hk => hk)).extk k266).extk k281).extk k284).extk k288), (by omega), (by first | rfl | assumption), (by first | rfl | assumption), (by first | rfl | assumption), (by first | rfl | assumption), (by first | rfl | assumption), (by first | rfl | assumption), (by first | rfl | assumption), (by first | rfl | assumption)⟩
    · show (64 - (((k + 1) : Nat) : Int)).toNat < (64 - ((k : Nat) : Int)).toNat; omega

theorem C_spec_l2Out (w0 : World) (v_x_h : Value) (x_h : List Int) (r_x_h : R_32 w0 v_x_h x_h) (pre0 : x_h.length = 8) : Fn Try.prog 155 #[v_x_h] w0 (fun v w' => Keep w0 w' ∧ O_22 w' w0.heap.size v (wordB x_h)) := by
 obtain ⟨a1, c2, rfl, r3, s4⟩ := r_x_h
 refine fn_of (n := 17) (l := [(vs a1 x_h.length c2), U, U, U, U, U, U, U, U, U, U, U, U, U, U, U, U]) Try.func155 rfl rfl (by kernel_rfl) rfl ?_
 refine sr ?_
 refine aw (vs none 0 0) ?_
 refine nx ?_
 refine wl_lit0 wN rfl rfl slTy_22 (fun w => by kernel_rfl) ?_
 intro a6 w1 k7 o8
 have m9 := (Ch.base w0).extk k7
 refine aw (vs (some a6) 0 0) ?_
 refine n4 ?_
 refine aw (vi 0) ?_
 refine wl_nil <| wq_then <| wc_block ?_
 have hE12 : ([] : List UInt8) = wordB (x_h.take 0) := by rfl
 have hN13 : 0 = (wordB (x_h.take 0)).length := by rw [← hE12]; try (first | rfl | simp only [List.length_set] | simp)
 refine wc_loopQ (fun e => [(vs a1 x_h.length c2), e 1, (vs none 0 0), (.slice (some a6) (wordB (x_h.take 0)).length 0), (vi ((0 : Nat) : Int)), e 5, e 6, e 7, e 8, e 9, e 10, e 11, e 12, e 13, e 14, e 15, U]) rfl ⟨rfl, rfl, rfl, rfl, (congrArg (Value.int .i64) (show (0 : Int) = ((0 : Nat) : Int) by omega)), rfl, rfl, rfl, rfl, rfl, rfl, rfl, rfl, rfl, rfl, rfl, rfl, trivial⟩ (fun e' w' => ∃ (k : Nat) (u11 : Nat → Value) (a3x : Option Addr) (c3x : Nat), e' = lst [(vs a1 x_h.length c2), (u11 0), (vs none 0 0), (.slice a3x (wordB (x_h.take k)).length c3x), (vi ((k : Nat) : Int)), (u11 1), (u11 2), (u11 3), (u11 4), (u11 5), (u11 6), (u11 7), (u11 8), (u11 9), (u11 10), (u11 11), U] ∧ Ch (fun k => w0.heap.size ≤ k) w0 w' ∧ Ch (fun k => w0.heap.size ≤ k) w1 w' ∧ k ≤ x_h.length ∧ (World.ownsRow w' w0.heap.size 5 1 (.slice a3x (wordB (x_h.take k)).length c3x) (wordB (x_h.take k)).length ((wordB (x_h.take k)).map bV) ∧ (wordB (x_h.take k)).length ≤ 1073741824)) (fun e' _ => x_h.length - ((intOf (e' 4))).toNat) ?_ ?_
 ·exact fun u => ⟨0, (unL [u 1, u 5, u 6, u 7, u 8, u 9, u 10, u 11, u 12, u 13, u 14, u 15]), (some a6), 0, rfl, m9, (Ch.refl (fun k => w0.heap.size ≤ k) w1), (by omega), ⟨(by rw [← hN13, ← hE12]; exact o8), (by rw [← hN13]; first | exact (by simp) | (simp only [List.length_append, List.length_take, List.length_replicate]; omega))⟩⟩
 ·rintro _ w2 ⟨k, u11, a3x, c3x, rfl, m14, k15, i16, ⟨o17, s18⟩⟩
  have hwl := wordB_len (x_h.take k)
  have htl : (x_h.take k).length = min k x_h.length := List.length_take
  refine wc_seq <| sr ?_
  refine mw (vi ((k : Nat) : Int)) ?_
  refine pu (vb (decide (((k : Nat) : Int) < 8))) wN ?_
  refine n2 ?_
  rcases bf (decide (((k : Nat) : Int) < 8)) with h20 | h20
  ·have q32 := of_decide_eq_false h20
   refine cf h20 ?_
   refine wc_exit <| wq_then_exit <| wq_then_exit <| wq_blk_exit <| wq_then <| sr ?_
   refine mw (vs a3x (wordB (x_h.take k)).length c3x) ?_
   refine aw (vs a3x (wordB (x_h.take k)).length c3x) ?_
   refine n3 ?_
   refine rt (vs a3x (wordB (x_h.take k)).length c3x) ?_
   refine ⟨m14.keep0, ?_⟩
   have hF33 : wordB x_h = (wordB (x_h.take k)) := by exact wordB_end (by omega)
   rw [hF33]
   exact ⟨_, _, rfl, o17, s18, ⟨trivial, trivial⟩⟩
  have q21 := of_decide_eq_true h20
  refine ct h20 ?_
  refine wc_skip <| wq_then <| wc_seq <| wc_block <| wc_region ?_
  refine mw (vs a3x (wordB (x_h.take k)).length c3x) ?_
  refine mw (vs a1 x_h.length c2) ?_
  refine mw (vi ((k : Nat) : Int)) ?_
  refine wl_index (v := (vs a1 x_h.length c2)) wN ((k : Nat) : Int) rfl rfl rfl slTy_32 rfl rfl (r3.from0 m14) (by first | omega | (simp only [List.length_cons, List.length_nil, List.length_replicate, List.length_append, List.length_take, List.length_set, List.length_map]; omega)) (by first | omega | (simp only [List.length_cons, List.length_nil, List.length_replicate, List.length_append, List.length_take, List.length_set, List.length_map]; omega)) ?_
  refine wl_loadE (iV (x_h.getD k 0)) wN rfl rfl rfl rfl isAgg_3 (r3.from0 m14) (iget (by simp) (by first | omega | (simp only [List.length_cons, List.length_nil, List.length_replicate, List.length_append, List.length_take, List.length_set, List.length_map]; omega))) ?_
  refine cl wN (C_spec_PutN w2 _ (wordB (x_h.take k)) (mR_22 (Rd.of_own o17) s18) (x_h.getD k 0) 4 (by first | omega | (simp; done) | (simp; omega))) ?_
  rintro _ w3 ⟨k22, ⟨a23, c24, rfl, o25, s26, ap28⟩⟩
  have m29 := m14.extk k22
  have q30 := putN_len (wordB (x_h.take k)) (x_h.getD k 0) 4
  refine aw (vs a23 (putN (wordB (x_h.take k)) (x_h.getD k 0) 4).length c24) ?_
  refine wl_nil <| wq_blk_normal <| wq_then <| wc_region ?_
  refine mw (vi ((k : Nat) : Int)) ?_
  refine ar (((k : Nat) : Int) + 1) wN ?_
  refine aw (vi (((k : Nat) : Int) + 1)) ?_
  refine wl_nil ?_
  have hE31 : ((putN (wordB (x_h.take k)) (x_h.getD k 0) 4) : List UInt8) = wordB (x_h.take (k + 1)) := by exact wordB_next (by omega)
  refine wq_loopQ (w0 := w2) (fun e => [(vs a1 x_h.length c2), e 1, (vs none 0 0), (.slice a23 (wordB (x_h.take (k + 1))).length c24), (vi (((k + 1) : Nat) : Int)), e 5, e 6, e 7, e 8, e 9, e 10, e 11, e 12, e 13, e 14, e 15, U]) rfl ?_ ?_ ?_
  · exact ⟨rfl, rfl, rfl, (congrArg (fun l : List UInt8 => Value.slice a23 l.length c24) hE31), (congrArg (Value.int .i64) (show ((((k : Nat) : Int) + 1) : Int) = (((k + 1) : Nat) : Int) by omega)), rfl, rfl, rfl, rfl, rfl, rfl, rfl, rfl, rfl, rfl, rfl, rfl, trivial⟩
  · exact fun u => ⟨(k + 1), (unL [u 1, u 5, u 6, u 7, u 8, u 9, u 10, u 11, u 12, u 13, u 14, u 15]), a23, c24, rfl, m29, (((Ch.refl (fun k => w0.heap.size ≤ k) w1).ext k15 (fun k hk => hk)).extk k22), (by omega), (hE31 ▸ ⟨(own_lo o25 (z2 k7 k15)), s26⟩)⟩
  · show x_h.length - ((((k + 1) : Nat) : Int)).toNat < x_h.length - (((k : Nat) : Int)).toNat; omega

theorem C_spec_Sha (w0 : World) (v_x_b : Value) (x_b : List UInt8) (r_x_b : R_22 w0 v_x_b x_b)  : Fn Try.prog 145 #[v_x_b] w0 (fun v w' => Keep w0 w' ∧ O_22 w' w0.heap.size v (sha x_b)) := by
 obtain ⟨a1, c2, rfl, r3, s4⟩ := r_x_b
 refine fn_of (n := 33) (l := [(vs a1 x_b.length c2), U, U, U, U, U, U, U, U, U, U, U, U, U, U, U, U, U, U, U, U, U, U, U, U, U, U, U, U, U, U, U, U]) Try.func145 rfl rfl (by kernel_rfl) rfl ?_
 refine sr ?_
 refine aw (vs none 0 0) ?_
 refine n4 ?_
 refine mw (vs a1 x_b.length c2) ?_
 refine ln wN slTy_22 r3 ?_
 refine pu (vb (decide (1048576 < (x_b.length : Int)))) wN ?_
 refine n2 ?_
 rcases bt (decide (1048576 < (x_b.length : Int))) with h6 | h6
 ·have q7 := of_decide_eq_true h6
  refine ct h6 ?_
  refine sr ?_
  refine wl_lit0 wN rfl rfl slTy_22 (fun w => by kernel_rfl) ?_
  intro a8 w1 k9 o10
  have m11 := (Ch.base w0).extk k9
  refine aw (vs (some a8) 0 0) ?_
  refine n1 ?_
  refine rt (vs (some a8) 0 0) ?_
  refine ⟨m11.keep0, ?_⟩
  have hF13 : sha x_b = [] := by first | exact sha_f (by omega) | exact sha_s (by omega) (by omega) (by omega)
  rw [hF13]
  exact ⟨_, _, rfl, o10, (by simp), ⟨trivial, trivial⟩⟩
 have q14 := of_decide_eq_false h6
 refine cf h6 ?_
 refine y1 ?_
 refine wl_lit0 wN rfl rfl slTy_22 (fun w => by kernel_rfl) ?_
 intro a15 w1 k16 o17
 have m18 := (Ch.base w0).extk k16
 refine mw (vs a1 x_b.length c2) ?_
 refine wl_append0 wN rfl rfl rfl slTy_22 rfl rfl o17 (r3.from0 m18) (all_bV _) (by first | (simp only [List.length_append, List.length_cons, List.length_nil, List.length_replicate, List.length_take, List.length_drop]; omega) | omega) (by simp only [maxLen]; first | (simp only [List.length_append, List.length_cons, List.length_nil, List.length_replicate, List.length_take, List.length_drop]; omega) | omega) k16.size ?_
 intro u20 w2 k21 o22 j23
 obtain ⟨a24, c25, rfl⟩ := own_form o22
 have n26 : New w1 a24 c25 := j23 _ _ rfl
 have m27 := m18.extk k21
 refine mw (vs a1 x_b.length c2) ?_
 refine ln wN slTy_22 (r3.from0 m27) ?_
 refine cl wN (C_spec_Pad w2 (x_b.length : Int)) ?_
 rintro _ w3 ⟨k29, ⟨a30, c31, rfl, o32, s33, ap35⟩⟩
 have m36 := m27.extk k29
 have q37 := padP_len (x_b.length : Int)
 have o38 := (own_kp o22 k29)
 refine wl_append (v := (vs a24 x_b.length c25)) wN rfl rfl rfl slTy_22 rfl rfl o38 (Rd.of_own o32) (all_bV _) (by first | (simp only [List.length_append, List.length_cons, List.length_nil, List.length_replicate, List.length_take, List.length_drop]; omega) | omega) (by simp only [maxLen]; first | (simp only [List.length_append, List.length_cons, List.length_nil, List.length_replicate, List.length_take, List.length_drop]; omega) | omega) (z3 k16 k21 k29) ?_
 intro u39 w4 k40 o41 j42
 have o45 : w4.ownsRow w0.heap.size 5 1 u39 ((x_b ++ (padP (x_b.length : Int))) : List UInt8).length (((x_b ++ (padP (x_b.length : Int))) : List UInt8).map bV) := by simpa [Nat.add_assoc] using o41
 obtain ⟨a43, c44, rfl⟩ := own_form o45
 have m46 := m36.ext k40 (fun k hk => Nat.le_trans (Nat.le_refl w0.heap.size) (own_lt o22 k hk).1)
 have s48 : (x_b ++ (padP (x_b.length : Int))).length ≤ 1073741824 := by first | (simp only [List.length_append, List.length_cons, List.length_nil, List.length_replicate, List.length_take, List.length_drop]; omega) | omega | assumption
 refine aw (vs a43 (x_b ++ (padP (x_b.length : Int))).length c44) ?_
 refine nx ?_
 refine cl wN (C_spec_Start w4 ) ?_
 rintro _ w5 ⟨k49, ⟨a50, c51, rfl, o52, s53, ap55⟩⟩
 have m56 := m46.extk k49
 refine aw (vs a50 (k0).length c51) ?_
 refine n4 ?_
 refine aw (vi 0) ?_
 refine wl_nil <| wq_then <| wc_block ?_
 have hE58 : ((k0) : List Int) = foldK k0 (x_b ++ (padP (x_b.length : Int))) 0 := by rfl
 refine wc_loopQ (fun e => [e 0, e 1, (vs none 0 0), (vs a43 (x_b ++ (padP (x_b.length : Int))).length c44), (.slice a50 (foldK k0 (x_b ++ (padP (x_b.length : Int))) 0).length c51), (vi (64 * ((0 : Nat) : Int))), e 6, e 7, e 8, e 9, e 10, e 11, e 12, e 13, e 14, e 15, e 16, e 17, e 18, e 19, e 20, e 21, e 22, e 23, e 24, e 25, e 26, e 27, e 28, e 29, e 30, U, U]) rfl ⟨rfl, rfl, rfl, rfl, (congrArg (fun l : List Int => Value.slice a50 l.length c51) hE58), (congrArg (Value.int .i64) (show (0 : Int) = (64 * ((0 : Nat) : Int)) by omega)), rfl, rfl, rfl, rfl, rfl, rfl, rfl, rfl, rfl, rfl, rfl, rfl, rfl, rfl, rfl, rfl, rfl, rfl, rfl, rfl, rfl, rfl, rfl, rfl, rfl, rfl, rfl, trivial⟩ (fun e' w' => ∃ (k : Nat) (u57 : Nat → Value) (a4x : Option Addr) (c4x : Nat), e' = lst [(u57 0), (u57 1), (vs none 0 0), (vs a43 (x_b ++ (padP (x_b.length : Int))).length c44), (.slice a4x (foldK k0 (x_b ++ (padP (x_b.length : Int))) k).length c4x), (vi (64 * ((k : Nat) : Int))), (u57 2), (u57 3), (u57 4), (u57 5), (u57 6), (u57 7), (u57 8), (u57 9), (u57 10), (u57 11), (u57 12), (u57 13), (u57 14), (u57 15), (u57 16), (u57 17), (u57 18), (u57 19), (u57 20), (u57 21), (u57 22), (u57 23), (u57 24), (u57 25), (u57 26), U, U] ∧ Ch (fun k => w0.heap.size ≤ k) w0 w' ∧ Ch (fun k => w4.heap.size ≤ k) w5 w' ∧ 64 * k ≤ (x_b ++ (padP (x_b.length : Int))).length ∧ (World.ownsRow w' w4.heap.size 3 1 (.slice a4x (foldK k0 (x_b ++ (padP (x_b.length : Int))) k).length c4x) (foldK k0 (x_b ++ (padP (x_b.length : Int))) k).length ((foldK k0 (x_b ++ (padP (x_b.length : Int))) k).map iV) ∧ (foldK k0 (x_b ++ (padP (x_b.length : Int))) k).length ≤ 1073741824)) (fun e' _ => (x_b ++ padP (x_b.length : Int)).length - ((intOf (e' 5))).toNat) ?_ ?_
 ·exact fun u => ⟨0, (unL [u 0, u 1, u 6, u 7, u 8, u 9, u 10, u 11, u 12, u 13, u 14, u 15, u 16, u 17, u 18, u 19, u 20, u 21, u 22, u 23, u 24, u 25, u 26, u 27, u 28, u 29, u 30]), a50, c51, rfl, m56, (Ch.refl (fun k => w4.heap.size ≤ k) w5), (by omega), (hE58 ▸ ⟨o52, s53⟩)⟩
 ·rintro _ w6 ⟨k, u57, a4x, c4x, rfl, m59, k60, i61, ⟨o62, s63⟩⟩
  have hal := shaAll x_b (by omega)
  refine wc_seq <| sr ?_
  refine mw (vi (64 * ((k : Nat) : Int))) ?_
  refine mw (vs a43 (x_b ++ (padP (x_b.length : Int))).length c44) ?_
  have o65 := (own_ch (own_kp o45 k49) k60 (fun g hg hlt hk => by have h1 := (own_lt o45 g hg).2; have h2 : w4.heap.size ≤ w4.heap.size := (Nat.le_refl w4.heap.size); have h3 : w4.heap.size ≤ g := hk; omega))
  refine ln wN slTy_22 (Rd.of_own o65) ?_
  refine pu (vb (decide ((64 * ((k : Nat) : Int)) < ((x_b ++ (padP (x_b.length : Int))).length : Int)))) wN ?_
  refine n2 ?_
  rcases bf (decide ((64 * ((k : Nat) : Int)) < ((x_b ++ (padP (x_b.length : Int))).length : Int))) with h66 | h66
  ·have q81 := of_decide_eq_false h66
   refine cf h66 ?_
   refine wc_exit <| wq_then_exit <| wq_then_exit <| wq_blk_exit <| wq_then <| sr ?_
   refine mw (vs a4x (foldK k0 (x_b ++ (padP (x_b.length : Int))) k).length c4x) ?_
   refine cl wN (C_spec_l2Out w6 _ (foldK k0 (x_b ++ (padP (x_b.length : Int))) k) (mR_32 (Rd.of_own o62) s63) (by first | omega | exact foldK_len k0_w _ | exact compAll_len (by first | assumption | exact (hashOk_t (by assumption)).1))) ?_
   rintro _ w7 ⟨k82, ⟨a83, c84, rfl, o85, s86, ap88⟩⟩
   have m89 := m59.extk k82
   refine aw (vs a83 (wordB (foldK k0 (x_b ++ (padP (x_b.length : Int))) k)).length c84) ?_
   refine n3 ?_
   refine rt (vs a83 (wordB (foldK k0 (x_b ++ (padP (x_b.length : Int))) k)).length c84) ?_
   refine ⟨m89.keep0, ?_⟩
   have hF90 : sha x_b = (wordB (foldK k0 (x_b ++ (padP (x_b.length : Int))) k)) := by first | exact sha_f (by omega) | exact sha_s (by omega) (by omega) (by omega)
   rw [hF90]
   exact ⟨_, _, rfl, (own_lo o85 (z6 k16 k21 k29 k40 k49 k60)), s86, ⟨trivial, trivial⟩⟩
  have q67 := of_decide_eq_true h66
  refine ct h66 ?_
  refine wc_skip <| wq_then <| wc_seq <| wc_block <| wc_region ?_
  refine mw (vs a4x (foldK k0 (x_b ++ (padP (x_b.length : Int))) k).length c4x) ?_
  refine mw (vs a43 (x_b ++ (padP (x_b.length : Int))).length c44) ?_
  refine mw (vi (64 * ((k : Nat) : Int))) ?_
  refine mw (vi (64 * ((k : Nat) : Int))) ?_
  refine ar ((64 * ((k : Nat) : Int)) + 64) wN ?_
  refine slv (((x_b ++ (padP (x_b.length : Int))).drop (((64 * ((k : Nat) : Int))).toNat)).take (((((64 * ((k : Nat) : Int)) + 64)).toNat) - (((64 * ((k : Nat) : Int))).toNat))) (((64 * ((k : Nat) : Int))).toNat) ((((64 * ((k : Nat) : Int)) + 64)).toNat) wN slTy_22 (Rd.of_own o65) (by first | omega | (simp only [List.length_cons, List.length_nil, List.length_replicate, List.length_append, List.length_take, List.length_set, List.length_map]; omega)) (by first | omega | (simp only [List.length_cons, List.length_nil, List.length_replicate, List.length_append, List.length_take, List.length_set, List.length_map]; omega)) (by first | rfl | (simp; done) | (rw [List.take_of_length_le (by first | (simp; done) | (simp; omega))])) rfl rfl rfl rfl (.inr ⟨_, _, _, rfl, rfl, by omega⟩) (.inr ⟨_, _, _, rfl, rfl, by omega⟩) ?_
  have q70 : (((64 * ((k : Nat) : Int))).toNat) ≤ ((((64 * ((k : Nat) : Int)) + 64)).toNat) := (by first | omega | (simp only [List.length_cons, List.length_nil, List.length_replicate, List.length_append, List.length_take, List.length_set, List.length_map]; omega))
  have q71 : ((((64 * ((k : Nat) : Int)) + 64)).toNat) ≤ (x_b ++ (padP (x_b.length : Int))).length := (by first | omega | (simp only [List.length_cons, List.length_nil, List.length_replicate, List.length_append, List.length_take, List.length_set, List.length_map]; omega))
  refine cl wN (C_spec_Compress w6 _ (foldK k0 (x_b ++ (padP (x_b.length : Int))) k) (mR_32 (Rd.of_own o62) s63) _ (((x_b ++ (padP (x_b.length : Int))).drop (((64 * ((k : Nat) : Int))).toNat)).take (((((64 * ((k : Nat) : Int)) + 64)).toNat) - (((64 * ((k : Nat) : Int))).toNat))) (mR_22 (Rd.subV (x' := (((x_b ++ (padP (x_b.length : Int))).drop (((64 * ((k : Nat) : Int))).toNat)).take (((((64 * ((k : Nat) : Int)) + 64)).toNat) - (((64 * ((k : Nat) : Int))).toNat)))) (Rd.of_own o65) q70 q71 (by first | rfl | (simp; done) | (rw [List.take_of_length_le (by first | (simp; done) | (simp; omega))]))) (Nat.le_trans (by simp only [List.length_take, List.length_drop]; omega) s48))) ?_
  rintro _ w7 ⟨k72, ⟨a73, c74, rfl, o75, s76, ap78⟩⟩
  have m79 := m59.extk k72
  refine aw (vs a73 (compress (foldK k0 (x_b ++ (padP (x_b.length : Int))) k) (((x_b ++ (padP (x_b.length : Int))).drop (((64 * ((k : Nat) : Int))).toNat)).take (((((64 * ((k : Nat) : Int)) + 64)).toNat) - (((64 * ((k : Nat) : Int))).toNat)))).length c74) ?_
  refine wl_nil <| wq_blk_normal <| wq_then <| wc_region ?_
  refine mw (vi (64 * ((k : Nat) : Int))) ?_
  refine ar ((64 * ((k : Nat) : Int)) + 64) wN ?_
  refine aw (vi ((64 * ((k : Nat) : Int)) + 64)) ?_
  refine wl_nil ?_
  have hE80 : ((compress (foldK k0 (x_b ++ (padP (x_b.length : Int))) k) (((x_b ++ (padP (x_b.length : Int))).drop (((64 * ((k : Nat) : Int))).toNat)).take (((((64 * ((k : Nat) : Int)) + 64)).toNat) - (((64 * ((k : Nat) : Int))).toNat)))) : List Int) = foldK k0 (x_b ++ (padP (x_b.length : Int))) (k + 1) := by exact foldK_next
  refine wq_loopQ (w0 := w6) (fun e => [e 0, e 1, (vs none 0 0), (vs a43 (x_b ++ (padP (x_b.length : Int))).length c44), (.slice a73 (foldK k0 (x_b ++ (padP (x_b.length : Int))) (k + 1)).length c74), (vi (64 * (((k + 1) : Nat) : Int))), e 6, e 7, e 8, e 9, e 10, e 11, e 12, e 13, e 14, e 15, e 16, e 17, e 18, e 19, e 20, e 21, e 22, e 23, e 24, e 25, e 26, e 27, e 28, e 29, e 30, U, U]) rfl ?_ ?_ ?_
  · exact ⟨rfl, rfl, rfl, rfl, (congrArg (fun l : List Int => Value.slice a73 l.length c74) hE80), (congrArg (Value.int .i64) (show (((64 * ((k : Nat) : Int)) + 64) : Int) = (64 * (((k + 1) : Nat) : Int)) by omega)), rfl, rfl, rfl, rfl, rfl, rfl, rfl, rfl, rfl, rfl, rfl, rfl, rfl, rfl, rfl, rfl, rfl, rfl, rfl, rfl, rfl, rfl, rfl, rfl, rfl, rfl, rfl, trivial⟩
  · exact fun u => ⟨(k + 1), (unL [u 0, u 1, u 6, u 7, u 8, u 9, u 10, u 11, u 12, u 13, u 14, u 15, u 16, u 17, u 18, u 19, u 20, u 21, u 22, u 23, u 24, u 25, u 26, u 27, u 28, u 29, u 30]), a73, c74, rfl, m79, (((Ch.refl (fun k => w4.heap.size ≤ k) w5).ext k60 (fun k hk => hk)).extk k72), (by omega), (hE80 ▸ ⟨(own_lo o75 (z2 k49 k60)), s76⟩)⟩
  · show (x_b ++ padP (x_b.length : Int)).length - ((64 * (((k + 1) : Nat) : Int))).toNat < (x_b ++ padP (x_b.length : Int)).length - ((64 * ((k : Nat) : Int))).toNat; omega

theorem C_spec_BlockKey (w0 : World) (v_x_key : Value) (x_key : List UInt8) (r_x_key : R_22 w0 v_x_key x_key)  : Fn Try.prog 144 #[v_x_key] w0 (fun v w' => Keep w0 w' ∧ O_22 w' w0.heap.size v (blockKey x_key)) := by
 obtain ⟨a1, c2, rfl, r3, s4⟩ := r_x_key
 refine fn_of (n := 23) (l := [(vs a1 x_key.length c2), U, U, U, U, U, U, U, U, U, U, U, U, U, U, U, U, U, U, U, U, U, U]) Try.func144 rfl rfl (by kernel_rfl) rfl ?_
 refine sr ?_
 refine aw (vs none 0 0) ?_
 refine n4 ?_
 refine mw (vs a1 x_key.length c2) ?_
 refine ln wN slTy_22 r3 ?_
 refine pu (vb (decide (1048576 < (x_key.length : Int)))) wN ?_
 refine n2 ?_
 rcases bt (decide (1048576 < (x_key.length : Int))) with h6 | h6
 ·have q7 := of_decide_eq_true h6
  refine ct h6 ?_
  refine sr ?_
  refine wl_lit0 wN rfl rfl slTy_22 (fun w => by kernel_rfl) ?_
  intro a8 w1 k9 o10
  have m11 := (Ch.base w0).extk k9
  refine aw (vs (some a8) 0 0) ?_
  refine n1 ?_
  refine rt (vs (some a8) 0 0) ?_
  refine ⟨m11.keep0, ?_⟩
  have hF13 : blockKey x_key = [] := by first | exact blockKey_f (by omega) | exact blockKey_l (by omega) (by omega) (by omega) (by simp only [List.length_append, List.length_replicate] at *; omega) | exact blockKey_s (by omega) (by omega) (by simp only [List.length_append, List.length_replicate] at *; omega)
  rw [hF13]
  exact ⟨_, _, rfl, o10, (by simp), ⟨trivial, trivial⟩⟩
 have q14 := of_decide_eq_false h6
 refine cf h6 ?_
 refine y1 ?_
 refine wl_lit0 wN rfl rfl slTy_22 (fun w => by kernel_rfl) ?_
 intro a15 w1 k16 o17
 have m18 := (Ch.base w0).extk k16
 refine mw (vs a1 x_key.length c2) ?_
 refine wl_append0 wN rfl rfl rfl slTy_22 rfl rfl o17 (r3.from0 m18) (all_bV _) (by first | (simp only [List.length_append, List.length_cons, List.length_nil, List.length_replicate, List.length_take, List.length_drop]; omega) | omega) (by simp only [maxLen]; first | (simp only [List.length_append, List.length_cons, List.length_nil, List.length_replicate, List.length_take, List.length_drop]; omega) | omega) k16.size ?_
 intro u20 w2 k21 o22 j23
 obtain ⟨a24, c25, rfl⟩ := own_form o22
 have n26 : New w1 a24 c25 := j23 _ _ rfl
 have m27 := m18.extk k21
 refine aw (vs a24 x_key.length c25) ?_
 refine n4 ?_
 refine mw (vs a1 x_key.length c2) ?_
 refine ln wN slTy_22 (r3.from0 m27) ?_
 refine pu (vb (decide (64 < (x_key.length : Int)))) wN ?_
 refine n2 ?_
 rcases bf (decide (64 < (x_key.length : Int))) with h29 | h29
 ·have q72 := of_decide_eq_false h29
  refine cf h29 ?_
  refine wc_skip <| wq_then <| wc_seq <| wc_block ?_
  have hE74 : (x_key : List UInt8) = x_key ++ List.replicate 0 (0 : UInt8) := by simp
  refine wc_loopQ (fun e => [e 0, e 1, (vs none 0 0), (.slice a24 (x_key ++ List.replicate 0 (0 : UInt8)).length c25), e 4, e 5, e 6, e 7, e 8, e 9, e 10, e 11, e 12, e 13, e 14, e 15, e 16, e 17, e 18, e 19, e 20, e 21, U]) rfl ⟨rfl, rfl, rfl, (congrArg (fun l : List UInt8 => Value.slice a24 l.length c25) hE74), rfl, rfl, rfl, rfl, rfl, rfl, rfl, rfl, rfl, rfl, rfl, rfl, rfl, rfl, rfl, rfl, rfl, rfl, rfl, trivial⟩ (fun e' w' => ∃ (j : Nat) (u73 : Nat → Value) (a3x : Option Addr) (c3x : Nat), e' = lst [(u73 0), (u73 1), (vs none 0 0), (.slice a3x (x_key ++ List.replicate j (0 : UInt8)).length c3x), (u73 2), (u73 3), (u73 4), (u73 5), (u73 6), (u73 7), (u73 8), (u73 9), (u73 10), (u73 11), (u73 12), (u73 13), (u73 14), (u73 15), (u73 16), (u73 17), (u73 18), (u73 19), U] ∧ Ch (fun k => w0.heap.size ≤ k) w0 w' ∧ Ch (fun k => w0.heap.size ≤ k) w2 w' ∧ x_key.length + j ≤ 64 ∧ (World.ownsRow w' w0.heap.size 5 1 (.slice a3x (x_key ++ List.replicate j (0 : UInt8)).length c3x) (x_key ++ List.replicate j (0 : UInt8)).length ((x_key ++ List.replicate j (0 : UInt8)).map bV) ∧ (x_key ++ List.replicate j (0 : UInt8)).length ≤ 1073741824)) (fun e' _ => 64 - (lenOf (e' 3))) ?_ ?_
  ·exact fun u => ⟨0, (unL [u 0, u 1, u 4, u 5, u 6, u 7, u 8, u 9, u 10, u 11, u 12, u 13, u 14, u 15, u 16, u 17, u 18, u 19, u 20, u 21]), a24, c25, rfl, m27, (Ch.refl (fun k => w0.heap.size ≤ k) w2), (by omega), (hE74 ▸ ⟨o22, s4⟩)⟩
  ·rintro _ w3 ⟨j, u73, a3x, c3x, rfl, m75, k76, i77, ⟨o78, s79⟩⟩
   have hol : (x_key ++ List.replicate j (0 : UInt8)).length = x_key.length + j := by rw [List.length_append, List.length_replicate]
   refine wc_seq <| sr ?_
   refine mw (vs a3x (x_key ++ List.replicate j (0 : UInt8)).length c3x) ?_
   refine ln wN slTy_22 (Rd.of_own o78) ?_
   refine pu (vb (decide (((x_key ++ List.replicate j (0 : UInt8)).length : Int) < 64))) wN ?_
   refine n2 ?_
   rcases bf (decide (((x_key ++ List.replicate j (0 : UInt8)).length : Int) < 64)) with h81 | h81
   ·have q103 := of_decide_eq_false h81
    refine cf h81 ?_
    refine wc_exit <| wq_then_exit <| wq_then_exit <| wq_blk_exit <| wq_then <| sr ?_
    refine mw (vs a3x (x_key ++ List.replicate j (0 : UInt8)).length c3x) ?_
    refine aw (vs a3x (x_key ++ List.replicate j (0 : UInt8)).length c3x) ?_
    refine n3 ?_
    refine rt (vs a3x (x_key ++ List.replicate j (0 : UInt8)).length c3x) ?_
    refine ⟨m75.keep0, ?_⟩
    have hF104 : blockKey x_key = (x_key ++ List.replicate j (0 : UInt8)) := by first | exact blockKey_f (by omega) | exact blockKey_l (by omega) (by omega) (by omega) (by simp only [List.length_append, List.length_replicate] at *; omega) | exact blockKey_s (by omega) (by omega) (by simp only [List.length_append, List.length_replicate] at *; omega)
    rw [hF104]
    exact ⟨_, _, rfl, o78, s79, ⟨trivial, trivial⟩⟩
   have q82 := of_decide_eq_true h81
   refine ct h81 ?_
   refine wc_skip <| wq_then <| wc_block <| wc_region ?_
   refine mw (vs a3x (x_key ++ List.replicate j (0 : UInt8)).length c3x) ?_
   refine wl_lit [(v8 0)] wN rfl rfl slTy_22 (m := 1) rfl (by simp only [maxLen]; omega) (fun w => by kernel_rfl) ?_
   intro u83 w4 k84 o85
   obtain ⟨a86, c87, rfl⟩ := own_form o85
   have m88 := m75.extk k84
   have o90 : w4.ownsRow w3.heap.size 5 1 (.slice a86 (([0] : List UInt8) : List UInt8).length c87) (([0] : List UInt8) : List UInt8).length ((([0] : List UInt8) : List UInt8).map bV) := o85
   have o91 := (own_kp o78 k84)
   refine wl_append (v := (vs a3x (x_key ++ List.replicate j (0 : UInt8)).length c3x)) wN rfl rfl rfl slTy_22 rfl rfl o91 (Rd.of_own o90) (all_bV _) (by first | (simp only [List.length_append, List.length_cons, List.length_nil, List.length_replicate, List.length_take, List.length_drop]; omega) | omega) (by simp only [maxLen]; first | (simp only [List.length_append, List.length_cons, List.length_nil, List.length_replicate, List.length_take, List.length_drop]; omega) | omega) (z4 k16 k21 k76 k84) ?_
   intro u92 w5 k93 o94 j95
   have o98 : w5.ownsRow w0.heap.size 5 1 u92 (((x_key ++ List.replicate j (0 : UInt8)) ++ ([0] : List UInt8)) : List UInt8).length ((((x_key ++ List.replicate j (0 : UInt8)) ++ ([0] : List UInt8)) : List UInt8).map bV) := by simpa [Nat.add_assoc] using o94
   obtain ⟨a96, c97, rfl⟩ := own_form o98
   have m99 := m88.ext k93 (fun k hk => Nat.le_trans (Nat.le_refl w0.heap.size) (own_lt o78 k hk).1)
   have s101 : ((x_key ++ List.replicate j (0 : UInt8)) ++ ([0] : List UInt8)).length ≤ 1073741824 := by first | (simp only [List.length_append, List.length_cons, List.length_nil, List.length_replicate, List.length_take, List.length_drop]; omega) | omega | assumption
   refine aw (vs a96 ((x_key ++ List.replicate j (0 : UInt8)) ++ ([0] : List UInt8)).length c97) ?_
   refine wl_nil <| wq_blk_normal ?_
   have hE102 : (((x_key ++ List.replicate j (0 : UInt8)) ++ ([0] : List UInt8)) : List UInt8) = x_key ++ List.replicate (j + 1) (0 : UInt8) := by rw [List.replicate_succ', List.append_assoc]
   refine wq_loopQ (w0 := w3) (fun e => [e 0, e 1, (vs none 0 0), (.slice a96 (x_key ++ List.replicate (j + 1) (0 : UInt8)).length c97), e 4, e 5, e 6, e 7, e 8, e 9, e 10, e 11, e 12, e 13, e 14, e 15, e 16, e 17, e 18, e 19, e 20, e 21, U]) rfl ?_ ?_ ?_
   · exact ⟨rfl, rfl, rfl, (congrArg (fun l : List UInt8 => Value.slice a96 l.length c97) hE102), rfl, rfl, rfl, rfl, rfl, rfl, rfl, rfl, rfl, rfl, rfl, rfl, rfl, rfl, rfl, rfl, rfl, rfl, rfl, trivial⟩
   · exact fun u => ⟨(j + 1), (unL [u 0, u 1, u 4, u 5, u 6, u 7, u 8, u 9, u 10, u 11, u 12, u 13, u 14, u 15, u 16, u 17, u 18, u 19, u 20, u 21]), a96, c97, rfl, m99, ((((Ch.refl (fun k => w0.heap.size ≤ k) w2).ext k76 (fun k hk => hk)).extk k84).ext k93 (fun k hk => Nat.le_trans (Nat.le_refl w0.heap.size) (own_lt o78 k hk).1)), (by omega), (hE102 ▸ ⟨o98, s101⟩)⟩
   · show 64 - (x_key ++ List.replicate (j + 1) (0 : UInt8)).length < 64 - (x_key ++ List.replicate j (0 : UInt8)).length; simp only [List.length_append, List.length_replicate]; omega
 have q30 := of_decide_eq_true h29
 refine ct h29 ?_
 refine wc_region ?_
 refine mw (vs a1 x_key.length c2) ?_
 refine cl wN (C_spec_Sha w2 _ x_key (mR_22 (r3.from0 m27) s4)) ?_
 rintro _ w3 ⟨k31, ⟨a32, c33, rfl, o34, s35, ap37⟩⟩
 have m38 := m27.extk k31
 have q39 := sha_le x_key
 refine aw (vs a32 (sha x_key).length c33) ?_
 refine wl_nil <| wq_then <| wc_seq <| wc_block ?_
 have hE41 : ((sha x_key) : List UInt8) = (sha x_key) ++ List.replicate 0 (0 : UInt8) := by simp
 refine wc_loopQ (fun e => [e 0, e 1, (vs none 0 0), (.slice a32 ((sha x_key) ++ List.replicate 0 (0 : UInt8)).length c33), e 4, e 5, e 6, e 7, e 8, e 9, e 10, e 11, e 12, e 13, e 14, e 15, e 16, e 17, e 18, e 19, e 20, e 21, U]) rfl ⟨rfl, rfl, rfl, (congrArg (fun l : List UInt8 => Value.slice a32 l.length c33) hE41), rfl, rfl, rfl, rfl, rfl, rfl, rfl, rfl, rfl, rfl, rfl, rfl, rfl, rfl, rfl, rfl, rfl, rfl, rfl, trivial⟩ (fun e' w' => ∃ (j : Nat) (u40 : Nat → Value) (a3x : Option Addr) (c3x : Nat), e' = lst [(u40 0), (u40 1), (vs none 0 0), (.slice a3x ((sha x_key) ++ List.replicate j (0 : UInt8)).length c3x), (u40 2), (u40 3), (u40 4), (u40 5), (u40 6), (u40 7), (u40 8), (u40 9), (u40 10), (u40 11), (u40 12), (u40 13), (u40 14), (u40 15), (u40 16), (u40 17), (u40 18), (u40 19), U] ∧ Ch (fun k => w0.heap.size ≤ k) w0 w' ∧ Ch (fun k => w2.heap.size ≤ k) w3 w' ∧ (sha x_key).length + j ≤ 64 ∧ (World.ownsRow w' w2.heap.size 5 1 (.slice a3x ((sha x_key) ++ List.replicate j (0 : UInt8)).length c3x) ((sha x_key) ++ List.replicate j (0 : UInt8)).length (((sha x_key) ++ List.replicate j (0 : UInt8)).map bV) ∧ ((sha x_key) ++ List.replicate j (0 : UInt8)).length ≤ 1073741824)) (fun e' _ => 64 - (lenOf (e' 3))) ?_ ?_
 ·exact fun u => ⟨0, (unL [u 0, u 1, u 4, u 5, u 6, u 7, u 8, u 9, u 10, u 11, u 12, u 13, u 14, u 15, u 16, u 17, u 18, u 19, u 20, u 21]), a32, c33, rfl, m38, (Ch.refl (fun k => w2.heap.size ≤ k) w3), (by omega), (hE41 ▸ ⟨o34, s35⟩)⟩
 ·rintro _ w4 ⟨j, u40, a3x, c3x, rfl, m42, k43, i44, ⟨o45, s46⟩⟩
  have hol : ((sha x_key) ++ List.replicate j (0 : UInt8)).length = (sha x_key).length + j := by rw [List.length_append, List.length_replicate]
  refine wc_seq <| sr ?_
  refine mw (vs a3x ((sha x_key) ++ List.replicate j (0 : UInt8)).length c3x) ?_
  refine ln wN slTy_22 (Rd.of_own o45) ?_
  refine pu (vb (decide ((((sha x_key) ++ List.replicate j (0 : UInt8)).length : Int) < 64))) wN ?_
  refine n2 ?_
  rcases bf (decide ((((sha x_key) ++ List.replicate j (0 : UInt8)).length : Int) < 64)) with h48 | h48
  ·have q70 := of_decide_eq_false h48
   refine cf h48 ?_
   refine wc_exit <| wq_then_exit <| wq_then_exit <| wq_blk_exit <| wq_then <| sr ?_
   refine mw (vs a3x ((sha x_key) ++ List.replicate j (0 : UInt8)).length c3x) ?_
   refine aw (vs a3x ((sha x_key) ++ List.replicate j (0 : UInt8)).length c3x) ?_
   refine n3 ?_
   refine rt (vs a3x ((sha x_key) ++ List.replicate j (0 : UInt8)).length c3x) ?_
   refine ⟨m42.keep0, ?_⟩
   have hF71 : blockKey x_key = ((sha x_key) ++ List.replicate j (0 : UInt8)) := by first | exact blockKey_f (by omega) | exact blockKey_l (by omega) (by omega) (by omega) (by simp only [List.length_append, List.length_replicate] at *; omega) | exact blockKey_s (by omega) (by omega) (by simp only [List.length_append, List.length_replicate] at *; omega)
   rw [hF71]
   exact ⟨_, _, rfl, (own_lo o45 (z2 k16 k21)), s46, ⟨trivial, trivial⟩⟩
  have q49 := of_decide_eq_true h48
  refine ct h48 ?_
  refine wc_skip <| wq_then <| wc_block <| wc_region ?_
  refine mw (vs a3x ((sha x_key) ++ List.replicate j (0 : UInt8)).length c3x) ?_
  refine wl_lit [(v8 0)] wN rfl rfl slTy_22 (m := 1) rfl (by simp only [maxLen]; omega) (fun w => by kernel_rfl) ?_
  intro u50 w5 k51 o52
  obtain ⟨a53, c54, rfl⟩ := own_form o52
  have m55 := m42.extk k51
  have o57 : w5.ownsRow w4.heap.size 5 1 (.slice a53 (([0] : List UInt8) : List UInt8).length c54) (([0] : List UInt8) : List UInt8).length ((([0] : List UInt8) : List UInt8).map bV) := o52
  have o58 := (own_kp o45 k51)
  refine wl_append (v := (vs a3x ((sha x_key) ++ List.replicate j (0 : UInt8)).length c3x)) wN rfl rfl rfl slTy_22 rfl rfl o58 (Rd.of_own o57) (all_bV _) (by first | (simp only [List.length_append, List.length_cons, List.length_nil, List.length_replicate, List.length_take, List.length_drop]; omega) | omega) (by simp only [maxLen]; first | (simp only [List.length_append, List.length_cons, List.length_nil, List.length_replicate, List.length_take, List.length_drop]; omega) | omega) (z3 k31 k43 k51) ?_
  intro u59 w6 k60 o61 j62
  have o65 : w6.ownsRow w2.heap.size 5 1 u59 ((((sha x_key) ++ List.replicate j (0 : UInt8)) ++ ([0] : List UInt8)) : List UInt8).length (((((sha x_key) ++ List.replicate j (0 : UInt8)) ++ ([0] : List UInt8)) : List UInt8).map bV) := by simpa [Nat.add_assoc] using o61
  obtain ⟨a63, c64, rfl⟩ := own_form o65
  have m66 := m55.ext k60 (fun k hk => Nat.le_trans (z2 k16 k21) (own_lt o45 k hk).1)
  have s68 : (((sha x_key) ++ List.replicate j (0 : UInt8)) ++ ([0] : List UInt8)).length ≤ 1073741824 := by first | (simp only [List.length_append, List.length_cons, List.length_nil, List.length_replicate, List.length_take, List.length_drop]; omega) | omega | assumption
  refine aw (vs a63 (((sha x_key) ++ List.replicate j (0 : UInt8)) ++ ([0] : List UInt8)).length c64) ?_
  refine wl_nil <| wq_blk_normal ?_
  have hE69 : ((((sha x_key) ++ List.replicate j (0 : UInt8)) ++ ([0] : List UInt8)) : List UInt8) = (sha x_key) ++ List.replicate (j + 1) (0 : UInt8) := by rw [List.replicate_succ', List.append_assoc]
  refine wq_loopQ (w0 := w4) (fun e => [e 0, e 1, (vs none 0 0), (.slice a63 ((sha x_key) ++ List.replicate (j + 1) (0 : UInt8)).length c64), e 4, e 5, e 6, e 7, e 8, e 9, e 10, e 11, e 12, e 13, e 14, e 15, e 16, e 17, e 18, e 19, e 20, e 21, U]) rfl ?_ ?_ ?_
  · exact ⟨rfl, rfl, rfl, (congrArg (fun l : List UInt8 => Value.slice a63 l.length c64) hE69), rfl, rfl, rfl, rfl, rfl, rfl, rfl, rfl, rfl, rfl, rfl, rfl, rfl, rfl, rfl, rfl, rfl, rfl, rfl, trivial⟩
  · exact fun u => ⟨(j + 1), (unL [u 0, u 1, u 4, u 5, u 6, u 7, u 8, u 9, u 10, u 11, u 12, u 13, u 14, u 15, u 16, u 17, u 18, u 19, u 20, u 21]), a63, c64, rfl, m66, ((((Ch.refl (fun k => w2.heap.size ≤ k) w3).ext k43 (fun k hk => hk)).extk k51).ext k60 (fun k hk => Nat.le_trans (Nat.le_refl w2.heap.size) (own_lt o45 k hk).1)), (by omega), (hE69 ▸ ⟨o65, s68⟩)⟩
  · show 64 - ((sha x_key) ++ List.replicate (j + 1) (0 : UInt8)).length < 64 - ((sha x_key) ++ List.replicate j (0 : UInt8)).length; simp only [List.length_append, List.length_replicate]; omega

theorem C_spec_Hmac (w0 : World) (v_x_key : Value) (x_key : List UInt8) (r_x_key : R_22 w0 v_x_key x_key) (v_x_b : Value) (x_b : List UInt8) (r_x_b : R_22 w0 v_x_b x_b)  : Fn Try.prog 122 #[v_x_key, v_x_b] w0 (fun v w' => Keep w0 w' ∧ O_22 w' w0.heap.size v (hmac x_key x_b)) := by
 obtain ⟨a1, c2, rfl, r3, s4⟩ := r_x_key
 obtain ⟨a6, c7, rfl, r8, s9⟩ := r_x_b
 refine fn_of (n := 49) (l := [(vs a1 x_key.length c2), (vs a6 x_b.length c7), U, U, U, U, U, U, U, U, U, U, U, U, U, U, U, U, U, U, U, U, U, U, U, U, U, U, U, U, U, U, U, U, U, U, U, U, U, U, U, U, U, U, U, U, U, U, U]) Try.func122 rfl rfl (by kernel_rfl) rfl ?_
 refine sr ?_
 refine aw (vs none 0 0) ?_
 refine n4 ?_
 refine mw (vs a1 x_key.length c2) ?_
 refine ln wN slTy_22 r3 ?_
 refine pu (vb (decide (1048576 < (x_key.length : Int)))) wN ?_
 refine mw (vb (decide (1048576 < (x_key.length : Int)))) ?_
 rcases bt (decide (1048576 < (x_key.length : Int))) with h11 | h11
 ·have q12 := of_decide_eq_true h11
  refine sk h11 ?_
  refine sk h11 ?_
  refine sk h11 ?_
  refine pk (vb true) wN h11 ?_
  refine n2 ?_
  refine ct (Eq.refl true) ?_
  refine sr ?_
  refine wl_lit0 wN rfl rfl slTy_22 (fun w => by kernel_rfl) ?_
  intro a13 w1 k14 o15
  have m16 := (Ch.base w0).extk k14
  refine aw (vs (some a13) 0 0) ?_
  refine n1 ?_
  refine rt (vs (some a13) 0 0) ?_
  refine ⟨m16.keep0, ?_⟩
  have hF18 : hmac x_key x_b = [] := by first | exact hmac_f (by omega) | exact hmac_g (by omega) (by omega) | exact hmac_s (by omega) (by omega)
  rw [hF18]
  exact ⟨_, _, rfl, o15, (by simp), ⟨trivial, trivial⟩⟩
 have q19 := of_decide_eq_false h11
 refine mv (vs a6 x_b.length c7) (wS h11) ?_
 refine ln (wS h11) slTy_22 r8 ?_
 refine pu (vb (decide (1048512 < (x_b.length : Int)))) (wS h11) ?_
 refine pf (vb (decide (1048512 < (x_b.length : Int)))) wN h11 ?_
 refine n2 ?_
 rcases bt (decide (1048512 < (x_b.length : Int))) with h20 | h20
 ·have q21 := of_decide_eq_true h20
  refine ct h20 ?_
  refine sr ?_
  refine wl_lit0 wN rfl rfl slTy_22 (fun w => by kernel_rfl) ?_
  intro a22 w1 k23 o24
  have m25 := (Ch.base w0).extk k23
  refine aw (vs (some a22) 0 0) ?_
  refine n1 ?_
  refine rt (vs (some a22) 0 0) ?_
  refine ⟨m25.keep0, ?_⟩
  have hF27 : hmac x_key x_b = [] := by first | exact hmac_f (by omega) | exact hmac_g (by omega) (by omega) | exact hmac_s (by omega) (by omega)
  rw [hF27]
  exact ⟨_, _, rfl, o24, (by simp), ⟨trivial, trivial⟩⟩
 have q28 := of_decide_eq_false h20
 refine cf h20 ?_
 refine y1 ?_
 refine mw (vs a1 x_key.length c2) ?_
 refine cl wN (C_spec_BlockKey w0 _ x_key (mR_22 r3 s4)) ?_
 rintro _ w1 ⟨k29, ⟨a30, c31, rfl, o32, s33, ap35⟩⟩
 have m36 := (Ch.base w0).extk k29
 have q37 := blockKey_le x_key
 refine aw (vs a30 (blockKey x_key).length c31) ?_
 refine nx ?_
 refine wl_lit0 wN rfl rfl slTy_22 (fun w => by kernel_rfl) ?_
 intro a38 w2 k39 o40
 have m41 := m36.extk k39
 refine aw (vs (some a38) 0 0) ?_
 refine nx ?_
 refine wl_lit0 wN rfl rfl slTy_22 (fun w => by kernel_rfl) ?_
 intro a43 w3 k44 o45
 have m46 := m41.extk k44
 refine aw (vs (some a43) 0 0) ?_
 refine n4 ?_
 refine aw (vi 0) ?_
 refine wl_nil <| wq_then <| wc_block ?_
 have o49 := (own_kp o40 k44)
 have hE50 : ([] : List UInt8) = maskB ((blockKey x_key).take 0) 54 := by rfl
 have hN51 : 0 = (maskB ((blockKey x_key).take 0) 54).length := by rw [← hE50]; try (first | rfl | simp only [List.length_set] | simp)
 have hE52 : ([] : List UInt8) = maskB ((blockKey x_key).take 0) 92 := by rfl
 have hN53 : 0 = (maskB ((blockKey x_key).take 0) 92).length := by rw [← hE52]; try (first | rfl | simp only [List.length_set] | simp)
 refine wc_loopQ (fun e => [e 0, (vs a6 x_b.length c7), e 2, e 3, (vs none 0 0), (vs a30 (blockKey x_key).length c31), (.slice (some a38) (maskB ((blockKey x_key).take 0) 54).length 0), (.slice (some a43) (maskB ((blockKey x_key).take 0) 92).length 0), (vi ((0 : Nat) : Int)), e 9, e 10, e 11, e 12, e 13, e 14, e 15, e 16, e 17, e 18, e 19, e 20, e 21, e 22, e 23, e 24, e 25, e 26, e 27, e 28, e 29, e 30, e 31, e 32, e 33, e 34, e 35, e 36, e 37, e 38, e 39, e 40, e 41, U, U, U, U, U, U, U]) rfl ⟨rfl, rfl, rfl, rfl, rfl, rfl, rfl, rfl, (congrArg (Value.int .i64) (show (0 : Int) = ((0 : Nat) : Int) by omega)), rfl, rfl, rfl, rfl, rfl, rfl, rfl, rfl, rfl, rfl, rfl, rfl, rfl, rfl, rfl, rfl, rfl, rfl, rfl, rfl, rfl, rfl, rfl, rfl, rfl, rfl, rfl, rfl, rfl, rfl, rfl, rfl, rfl, rfl, rfl, rfl, rfl, rfl, rfl, rfl, trivial⟩ (fun e' w' => ∃ (i : Nat) (u48 : Nat → Value) (a6x : Option Addr) (c6x : Nat) (a7x : Option Addr) (c7x : Nat), e' = lst [(u48 0), (vs a6 x_b.length c7), (u48 1), (u48 2), (vs none 0 0), (vs a30 (blockKey x_key).length c31), (.slice a6x (maskB ((blockKey x_key).take i) 54).length c6x), (.slice a7x (maskB ((blockKey x_key).take i) 92).length c7x), (vi ((i : Nat) : Int)), (u48 3), (u48 4), (u48 5), (u48 6), (u48 7), (u48 8), (u48 9), (u48 10), (u48 11), (u48 12), (u48 13), (u48 14), (u48 15), (u48 16), (u48 17), (u48 18), (u48 19), (u48 20), (u48 21), (u48 22), (u48 23), (u48 24), (u48 25), (u48 26), (u48 27), (u48 28), (u48 29), (u48 30), (u48 31), (u48 32), (u48 33), (u48 34), (u48 35), U, U, U, U, U, U, U] ∧ Ch (fun k => w0.heap.size ≤ k) w0 w' ∧ Ch (fun k => w1.heap.size ≤ k) w3 w' ∧ i ≤ 64 ∧ (World.ownsRow w' w1.heap.size 5 1 (.slice a6x (maskB ((blockKey x_key).take i) 54).length c6x) (maskB ((blockKey x_key).take i) 54).length ((maskB ((blockKey x_key).take i) 54).map bV) ∧ (maskB ((blockKey x_key).take i) 54).length ≤ 1073741824) ∧ (World.ownsRow w' w2.heap.size 5 1 (.slice a7x (maskB ((blockKey x_key).take i) 92).length c7x) (maskB ((blockKey x_key).take i) 92).length ((maskB ((blockKey x_key).take i) 92).map bV) ∧ (maskB ((blockKey x_key).take i) 92).length ≤ 1073741824) ∧ NeS a6x a7x) (fun e' _ => (64 - (intOf (e' 8))).toNat) ?_ ?_
 ·exact fun u => ⟨0, (unL [u 0, u 2, u 3, u 9, u 10, u 11, u 12, u 13, u 14, u 15, u 16, u 17, u 18, u 19, u 20, u 21, u 22, u 23, u 24, u 25, u 26, u 27, u 28, u 29, u 30, u 31, u 32, u 33, u 34, u 35, u 36, u 37, u 38, u 39, u 40, u 41]), (some a38), 0, (some a43), 0, rfl, m46, (Ch.refl (fun k => w1.heap.size ≤ k) w3), (by omega), ⟨(by rw [← hN51, ← hE50]; exact o49), (by rw [← hN51]; first | exact (by simp) | (simp only [List.length_append, List.length_take, List.length_replicate]; omega))⟩, ⟨(by rw [← hN53, ← hE52]; exact o45), (by rw [← hN53]; first | exact (by simp) | (simp only [List.length_append, List.length_take, List.length_replicate]; omega))⟩, (NeS.lt o40 o45 (Nat.le_refl w2.heap.size))⟩
 ·rintro _ w4 ⟨i, u48, a6x, c6x, a7x, c7x, rfl, m54, k55, i56, ⟨o57, s58⟩, ⟨o59, s60⟩, d61⟩
  have hk1 := maskB_len ((blockKey x_key).take i) 54
  have hk2 := maskB_len ((blockKey x_key).take i) 92
  have htl : ((blockKey x_key).take i).length = min i (blockKey x_key).length := List.length_take
  refine wc_seq <| sr ?_
  refine mw (vi ((i : Nat) : Int)) ?_
  refine pu (vb (decide (((i : Nat) : Int) < 64))) wN ?_
  refine n2 ?_
  rcases bf (decide (((i : Nat) : Int) < 64)) with h64 | h64
  ·have q113 := of_decide_eq_false h64
   refine cf h64 ?_
   refine wc_exit <| wq_then_exit ?_
   obtain rfl : i = 64 := by omega
   refine wq_then_exit <| wq_blk_exit <| wq_then <| sr ?_
   refine mw (vs a7x (maskB ((blockKey x_key).take 64) 92).length c7x) ?_
   refine mw (vs a6x (maskB ((blockKey x_key).take 64) 54).length c6x) ?_
   refine mw (vs a6 x_b.length c7) ?_
   refine wl_append (v := (vs a6x (maskB ((blockKey x_key).take 64) 54).length c6x)) wN rfl rfl rfl slTy_22 rfl rfl o57 (r8.from0 m54) (all_bV _) (by first | (simp only [List.length_append, List.length_cons, List.length_nil, List.length_replicate, List.length_take, List.length_drop]; omega) | omega) (by simp only [maxLen]; first | (simp only [List.length_append, List.length_cons, List.length_nil, List.length_replicate, List.length_take, List.length_drop]; omega) | omega) (z3 k39 k44 k55) ?_
   intro u114 w5 k115 o116 j117
   have o120 : w5.ownsRow w1.heap.size 5 1 u114 (((maskB ((blockKey x_key).take 64) 54) ++ x_b) : List UInt8).length ((((maskB ((blockKey x_key).take 64) 54) ++ x_b) : List UInt8).map bV) := by simpa [Nat.add_assoc] using o116
   obtain ⟨a118, c119, rfl⟩ := own_form o120
   have m121 := m54.ext k115 (fun k hk => Nat.le_trans k29.size (own_lt o57 k hk).1)
   have d122 := NeS.app d61 j117 o59
   have s124 : ((maskB ((blockKey x_key).take 64) 54) ++ x_b).length ≤ 1073741824 := by first | (simp only [List.length_append, List.length_cons, List.length_nil, List.length_replicate, List.length_take, List.length_drop]; omega) | omega | assumption
   refine cl wN (C_spec_Sha w5 _ ((maskB ((blockKey x_key).take 64) 54) ++ x_b) (mR_22 (Rd.of_own o120) s124)) ?_
   rintro _ w6 ⟨k125, ⟨a126, c127, rfl, o128, s129, ap131⟩⟩
   have m132 := m121.extk k125
   have q133 := sha_le ((maskB ((blockKey x_key).take 64) 54) ++ x_b)
   have o134 := (own_kp (own_ch o59 k115 (fun g hg hlt hk => NeS.no (NeS.symm d61) hg hk)) k125)
   refine wl_append (v := (vs a7x (maskB ((blockKey x_key).take 64) 92).length c7x)) wN rfl rfl rfl slTy_22 rfl rfl o134 (Rd.of_own o128) (all_bV _) (by first | (simp only [List.length_append, List.length_cons, List.length_nil, List.length_replicate, List.length_take, List.length_drop]; omega) | omega) (by simp only [maxLen]; first | (simp only [List.length_append, List.length_cons, List.length_nil, List.length_replicate, List.length_take, List.length_drop]; omega) | omega) (z4 k44 k55 k115 k125) ?_
   intro u135 w7 k136 o137 j138
   have o141 : w7.ownsRow w2.heap.size 5 1 u135 (((maskB ((blockKey x_key).take 64) 92) ++ (sha ((maskB ((blockKey x_key).take 64) 54) ++ x_b))) : List UInt8).length ((((maskB ((blockKey x_key).take 64) 92) ++ (sha ((maskB ((blockKey x_key).take 64) 54) ++ x_b))) : List UInt8).map bV) := by simpa [Nat.add_assoc] using o137
   obtain ⟨a139, c140, rfl⟩ := own_form o141
   have m142 := m132.ext k136 (fun k hk => Nat.le_trans (z2 k29 k39) (own_lt o59 k hk).1)
   have o143 := (own_kp o120 k125)
   have d144 := NeS.app (NeS.symm d122) j138 o143
   have s146 : ((maskB ((blockKey x_key).take 64) 92) ++ (sha ((maskB ((blockKey x_key).take 64) 54) ++ x_b))).length ≤ 1073741824 := by first | (simp only [List.length_append, List.length_cons, List.length_nil, List.length_replicate, List.length_take, List.length_drop]; omega) | omega | assumption
   refine cl wN (C_spec_Sha w7 _ ((maskB ((blockKey x_key).take 64) 92) ++ (sha ((maskB ((blockKey x_key).take 64) 54) ++ x_b))) (mR_22 (Rd.of_own o141) s146)) ?_
   rintro _ w8 ⟨k147, ⟨a148, c149, rfl, o150, s151, ap153⟩⟩
   have m154 := m142.extk k147
   have q155 := sha_le ((maskB ((blockKey x_key).take 64) 92) ++ (sha ((maskB ((blockKey x_key).take 64) 54) ++ x_b)))
   refine aw (vs a148 (sha ((maskB ((blockKey x_key).take 64) 92) ++ (sha ((maskB ((blockKey x_key).take 64) 54) ++ x_b)))).length c149) ?_
   refine n3 ?_
   refine rt (vs a148 (sha ((maskB ((blockKey x_key).take 64) 92) ++ (sha ((maskB ((blockKey x_key).take 64) 54) ++ x_b)))).length c149) ?_
   refine ⟨m154.keep0, ?_⟩
   have hF156 : hmac x_key x_b = (sha ((maskB ((blockKey x_key).take 64) 92) ++ (sha ((maskB ((blockKey x_key).take 64) 54) ++ x_b)))) := by first | exact hmac_f (by omega) | exact hmac_g (by omega) (by omega) | exact hmac_s (by omega) (by omega)
   rw [hF156]
   exact ⟨_, _, rfl, (own_lo o150 (z7 k29 k39 k44 k55 k115 k125 k136)), s151, ⟨trivial, trivial⟩⟩
  have q65 := of_decide_eq_true h64
  refine ct h64 ?_
  refine wc_skip <| wq_then <| wc_seq <| wc_block <| sr ?_
  refine mw (vs a6x (maskB ((blockKey x_key).take i) 54).length c6x) ?_
  refine mw (vs a30 (blockKey x_key).length c31) ?_
  refine mw (vi ((i : Nat) : Int)) ?_
  have o66 := (own_ch (own_kp (own_kp o32 k39) k44) k55 (fun g hg hlt hk => by have h1 := (own_lt o32 g hg).2; have h2 : w1.heap.size ≤ w1.heap.size := (Nat.le_refl w1.heap.size); have h3 : w1.heap.size ≤ g := hk; omega))
  refine wl_index (v := (vs a30 (blockKey x_key).length c31)) wN ((i : Nat) : Int) rfl rfl rfl slTy_22 rfl rfl (Rd.of_own o66) (by first | omega | (simp only [List.length_cons, List.length_nil, List.length_replicate, List.length_append, List.length_take, List.length_set, List.length_map]; omega)) (by first | omega | (simp only [List.length_cons, List.length_nil, List.length_replicate, List.length_append, List.length_take, List.length_set, List.length_map]; omega)) ?_
  refine wl_loadE (bV ((blockKey x_key).getD i 0)) wN rfl rfl rfl rfl isAgg_5 (Rd.of_own o66) (bget (by simp) (by first | omega | (simp only [List.length_cons, List.length_nil, List.length_replicate, List.length_append, List.length_take, List.length_set, List.length_map]; omega))) ?_
  refine wl_xor8 ((blockKey x_key).getD i 0) 54 wN rfl rfl (by kernel_rfl) ?_
  refine wl_lit [(v8 ((((blockKey x_key).getD i 0) ^^^ 54).toNat : Int))] wN rfl rfl slTy_22 (m := 1) rfl (by simp only [maxLen]; omega) (fun w => by kernel_rfl) ?_
  intro u67 w5 k68 o69
  obtain ⟨a70, c71, rfl⟩ := own_form o69
  have m72 := m54.extk k68
  have o74 : w5.ownsRow w4.heap.size 5 1 (.slice a70 (([(((blockKey x_key).getD i 0) ^^^ 54)] : List UInt8) : List UInt8).length c71) (([(((blockKey x_key).getD i 0) ^^^ 54)] : List UInt8) : List UInt8).length ((([(((blockKey x_key).getD i 0) ^^^ 54)] : List UInt8) : List UInt8).map bV) := o69
  have o75 := (own_kp o57 k68)
  refine wl_append (v := (vs a6x (maskB ((blockKey x_key).take i) 54).length c6x)) wN rfl rfl rfl slTy_22 rfl rfl o75 (Rd.of_own o74) (all_bV _) (by first | (simp only [List.length_append, List.length_cons, List.length_nil, List.length_replicate, List.length_take, List.length_drop]; omega) | omega) (by simp only [maxLen]; first | (simp only [List.length_append, List.length_cons, List.length_nil, List.length_replicate, List.length_take, List.length_drop]; omega) | omega) (z4 k39 k44 k55 k68) ?_
  intro u76 w6 k77 o78 j79
  have o82 : w6.ownsRow w1.heap.size 5 1 u76 (((maskB ((blockKey x_key).take i) 54) ++ ([(((blockKey x_key).getD i 0) ^^^ 54)] : List UInt8)) : List UInt8).length ((((maskB ((blockKey x_key).take i) 54) ++ ([(((blockKey x_key).getD i 0) ^^^ 54)] : List UInt8)) : List UInt8).map bV) := by simpa [Nat.add_assoc] using o78
  obtain ⟨a80, c81, rfl⟩ := own_form o82
  have m83 := m72.ext k77 (fun k hk => Nat.le_trans k29.size (own_lt o57 k hk).1)
  have o84 := (own_kp o59 k68)
  have d85 := NeS.app d61 j79 o84
  have s87 : ((maskB ((blockKey x_key).take i) 54) ++ ([(((blockKey x_key).getD i 0) ^^^ 54)] : List UInt8)).length ≤ 1073741824 := by first | (simp only [List.length_append, List.length_cons, List.length_nil, List.length_replicate, List.length_take, List.length_drop]; omega) | omega | assumption
  refine aw (vs a80 ((maskB ((blockKey x_key).take i) 54) ++ ([(((blockKey x_key).getD i 0) ^^^ 54)] : List UInt8)).length c81) ?_
  refine wl_nil <| wq_then <| wc_region ?_
  refine mw (vs a7x (maskB ((blockKey x_key).take i) 92).length c7x) ?_
  refine mw (vs a30 (blockKey x_key).length c31) ?_
  refine mw (vi ((i : Nat) : Int)) ?_
  have o88 := (own_ch (own_kp o66 k68) k77 (fun g hg hlt hk => by have h1 := (own_lt o32 g hg).2; have h2 := (own_lt o57 g hk).1; have h3 := (Nat.le_refl w1.heap.size); omega))
  refine wl_index (v := (vs a30 (blockKey x_key).length c31)) wN ((i : Nat) : Int) rfl rfl rfl slTy_22 rfl rfl (Rd.of_own o88) (by first | omega | (simp only [List.length_cons, List.length_nil, List.length_replicate, List.length_append, List.length_take, List.length_set, List.length_map]; omega)) (by first | omega | (simp only [List.length_cons, List.length_nil, List.length_replicate, List.length_append, List.length_take, List.length_set, List.length_map]; omega)) ?_
  refine wl_loadE (bV ((blockKey x_key).getD i 0)) wN rfl rfl rfl rfl isAgg_5 (Rd.of_own o88) (bget (by simp) (by first | omega | (simp only [List.length_cons, List.length_nil, List.length_replicate, List.length_append, List.length_take, List.length_set, List.length_map]; omega))) ?_
  refine wl_xor8 ((blockKey x_key).getD i 0) 92 wN rfl rfl (by kernel_rfl) ?_
  refine wl_lit [(v8 ((((blockKey x_key).getD i 0) ^^^ 92).toNat : Int))] wN rfl rfl slTy_22 (m := 1) rfl (by simp only [maxLen]; omega) (fun w => by kernel_rfl) ?_
  intro u89 w7 k90 o91
  obtain ⟨a92, c93, rfl⟩ := own_form o91
  have m94 := m83.extk k90
  have o96 : w7.ownsRow w6.heap.size 5 1 (.slice a92 (([(((blockKey x_key).getD i 0) ^^^ 92)] : List UInt8) : List UInt8).length c93) (([(((blockKey x_key).getD i 0) ^^^ 92)] : List UInt8) : List UInt8).length ((([(((blockKey x_key).getD i 0) ^^^ 92)] : List UInt8) : List UInt8).map bV) := o91
  have o97 := (own_kp (own_ch o84 k77 (fun g hg hlt hk => NeS.no (NeS.symm d61) hg hk)) k90)
  refine wl_append (v := (vs a7x (maskB ((blockKey x_key).take i) 92).length c7x)) wN rfl rfl rfl slTy_22 rfl rfl o97 (Rd.of_own o96) (all_bV _) (by first | (simp only [List.length_append, List.length_cons, List.length_nil, List.length_replicate, List.length_take, List.length_drop]; omega) | omega) (by simp only [maxLen]; first | (simp only [List.length_append, List.length_cons, List.length_nil, List.length_replicate, List.length_take, List.length_drop]; omega) | omega) (z5 k44 k55 k68 k77 k90) ?_
  intro u98 w8 k99 o100 j101
  have o104 : w8.ownsRow w2.heap.size 5 1 u98 (((maskB ((blockKey x_key).take i) 92) ++ ([(((blockKey x_key).getD i 0) ^^^ 92)] : List UInt8)) : List UInt8).length ((((maskB ((blockKey x_key).take i) 92) ++ ([(((blockKey x_key).getD i 0) ^^^ 92)] : List UInt8)) : List UInt8).map bV) := by simpa [Nat.add_assoc] using o100
  obtain ⟨a102, c103, rfl⟩ := own_form o104
  have m105 := m94.ext k99 (fun k hk => Nat.le_trans (z2 k29 k39) (own_lt o59 k hk).1)
  have o106 := (own_kp o82 k90)
  have d107 := NeS.app (NeS.symm d85) j101 o106
  have s109 : ((maskB ((blockKey x_key).take i) 92) ++ ([(((blockKey x_key).getD i 0) ^^^ 92)] : List UInt8)).length ≤ 1073741824 := by first | (simp only [List.length_append, List.length_cons, List.length_nil, List.length_replicate, List.length_take, List.length_drop]; omega) | omega | assumption
  refine aw (vs a102 ((maskB ((blockKey x_key).take i) 92) ++ ([(((blockKey x_key).getD i 0) ^^^ 92)] : List UInt8)).length c103) ?_
  refine wl_nil <| wq_blk_normal <| wq_then <| wc_region ?_
  refine mw (vi ((i : Nat) : Int)) ?_
  refine ar (((i : Nat) : Int) + 1) wN ?_
  refine aw (vi (((i : Nat) : Int) + 1)) ?_
  refine wl_nil ?_
  have o110 := (own_ch o106 k99 (fun g hg hlt hk => NeS.no d85 hg hk))
  have hE111 : (((maskB ((blockKey x_key).take i) 54) ++ ([(((blockKey x_key).getD i 0) ^^^ 54)] : List UInt8)) : List UInt8) = maskB ((blockKey x_key).take (i + 1)) 54 := by exact mask_next (by omega)
  have hE112 : (((maskB ((blockKey x_key).take i) 92) ++ ([(((blockKey x_key).getD i 0) ^^^ 92)] : List UInt8)) : List UInt8) = maskB ((blockKey x_key).take (i + 1)) 92 := by exact mask_next (by omega)
  refine wq_loopQ (w0 := w4) (fun e => [e 0, (vs a6 x_b.length c7), e 2, e 3, (vs none 0 0), (vs a30 (blockKey x_key).length c31), (.slice a80 (maskB ((blockKey x_key).take (i + 1)) 54).length c81), (.slice a102 (maskB ((blockKey x_key).take (i + 1)) 92).length c103), (vi (((i + 1) : Nat) : Int)), e 9, e 10, e 11, e 12, e 13, e 14, e 15, e 16, e 17, e 18, e 19, e 20, e 21, e 22, e 23, e 24, e 25, e 26, e 27, e 28, e 29, e 30, e 31, e 32, e 33, e 34, e 35, e 36, e 37, e 38, e 39, e 40, e 41, U, U, U, U, U, U, U]) rfl ?_ ?_ ?_
  · exact ⟨rfl, rfl, rfl, rfl, rfl, rfl, (congrArg (fun l : List UInt8 => Value.slice a80 l.length c81) hE111), (congrArg (fun l : List UInt8 => Value.slice a102 l.length c103) hE112), (congrArg (Value.int .i64) (show ((((i : Nat) : Int) + 1) : Int) = (((i + 1) : Nat) : Int) by omega)), rfl, rfl, rfl, rfl, rfl, rfl, rfl, rfl, rfl, rfl, rfl, rfl, rfl, rfl, rfl, rfl, rfl, rfl, rfl, rfl, rfl, rfl, rfl, rfl, rfl, rfl, rfl, rfl, rfl, rfl, rfl, rfl, rfl, rfl, rfl, rfl, rfl, rfl, rfl, rfl, trivial⟩
  · exact fun u => ⟨(i + 1), (unL [u 0, u 2, u 3, u 9, u 10, u 11, u 12, u 13, u 14, u 15, u 16, u 17, u 18, u 19, u 20, u 21, u 22, u 23, u 24, u 25, u 26, u 27, u 28, u 29, u 30, u 31, u 32, u 33, u 34, u 35, u 36, u 37, u 38, u 39, u 40, u 41]), a80, c81, a102, c103, rfl, m105, ((((((Ch.refl (fun k => w1.heap.size ≤ k) w3).ext k55 (fun k hk => hk)).extk k68).ext k77 (fun k hk => Nat.le_trans (Nat.le_refl w1.heap.size) (own_lt o57 k hk).1)).extk k90).ext k99 (fun k hk => Nat.le_trans k39.size (own_lt o59 k hk).1)), (by omega), (hE111 ▸ ⟨o110, s87⟩), (hE112 ▸ ⟨o104, s109⟩), (NeS.symm d107)⟩
  · show (64 - (((i + 1) : Nat) : Int)).toNat < (64 - ((i : Nat) : Int)).toNat; omega
end Go.Proofs.Ytafcngfnhhchjaa.K
