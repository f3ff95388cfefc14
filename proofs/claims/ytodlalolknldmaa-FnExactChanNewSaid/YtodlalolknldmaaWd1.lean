import Derived.Test.YtodlalolknldmaaCore
import Derived.Test.YtodlalolknldmaaProg
import Derived.Test.YtodlalolknldmaaHeld
import Derived.Test.YtodlalolknldmaaFun
namespace Go.Proofs.Ytodlalolknldmaa.K
open Go.RowKit
set_option linter.unusedVariables false
set_option linter.unusedSimpArgs false
set_option maxRecDepth 100000
theorem slTy_22 : SlTy Try.prog 22 5 1 1 (.int .u8 0) := slTy Try.underlying22 (by kernel_rfl) rfl rfl
theorem isAgg_5 : ∀ w, (isAgg 5).run Try.prog w = .ok false w := fun w => by kernel_rfl
theorem sizeOf_5 : ∀ w, (sizeOf 5).run Try.prog w = .ok 1 w := fun w => by kernel_rfl
def R_22 (w : World) (v : Value) (x : (List UInt8)) : Prop := ∃ (a1 : Option Addr) (c1 : Nat), v = .slice a1 x.length c1 ∧ Rd w 1 (.slice a1 x.length c1) x.length (x.map bV) ∧ x.length ≤ 1073741824
def O_22 (w : World) (lo : Nat) (v : Value) (x : (List UInt8)) : Prop := ∃ (a1 : Option Addr) (c1 : Nat), v = .slice a1 x.length c1 ∧ w.ownsRow lo 5 1 (.slice a1 x.length c1) x.length (x.map bV) ∧ x.length ≤ 1073741824 ∧ Aps [(a1, c1)]
theorem C_laws_toByteS (w0 : World) (v_x_a : Value) (x_a : List UInt8) (r_x_a : R_22 w0 v_x_a x_a)  : Fn Try.prog 16 #[v_x_a] w0 (fun v w' => Keep w0 w' ∧ O_22 w' w0.heap.size v (cpB x_a)) := by
  obtain ⟨a1, c2, rfl, r3, s4⟩ := r_x_a
  refine fn_of (n := 22) (l := [(.slice a1 x_a.length c2), undef, undef, undef, undef, undef, undef, undef, undef, undef, undef, undef, undef, undef, undef, undef, undef, undef, undef, undef, undef, undef]) Try.func16 rfl rfl (by kernel_rfl) rfl ?_
  refine wc_seq ?_
  refine wc_region ?_
  refine wl_mv (.slice none 0 0) (want_none rfl) rfl rfl (.inr rfl) rfl ?_
  refine wl_nil ?_
  refine wq_then ?_
  refine wc_seq ?_
  refine wc_region ?_
  refine wl_mv (.slice a1 x_a.length c2) (want_none rfl) rfl rfl (.inl rfl) rfl ?_
  refine wl_len (want_none rfl) rfl rfl rfl slTy_22 rfl r3 ?_
  refine wl_makeB (x_a.length) (want_none rfl) rfl rfl rfl slTy_22 (x_a.length : Int) rfl (by omega) (by (try simp only [List.length_append, List.length_cons, List.length_nil]); omega) (by (try simp only [List.length_append, List.length_cons, List.length_nil]); omega) ?_
  intro a6 c7 w1 k8 o9
  have m10 := (Ch.base w0).extk k8
  refine wl_mv (.slice a6 (List.replicate x_a.length (0 : UInt8)).length c7) (want_none rfl) rfl rfl (.inr rfl) rfl ?_
  refine wl_nil ?_
  refine wq_then ?_
  refine wc_seq ?_
  refine wc_seq ?_
  refine wc_region ?_
  refine wl_mv (.int .i64 0) (want_none rfl) rfl rfl (.inr rfl) rfl ?_
  refine wl_nil ?_
  refine wq_then ?_
  refine wc_block ?_
  refine wc_norm [(.slice a1 x_a.length c2), undef, (.slice none 0 0), (.slice a6 (List.replicate x_a.length (0 : UInt8)).length c7), (.int .i64 0), (.slice a1 x_a.length c2), (.int .i64 (x_a.length : Int)), (.slice a6 (List.replicate x_a.length (0 : UInt8)).length c7), undef, undef, undef, undef, undef, undef, undef, undef, undef, undef, undef, undef, undef, undef] rfl ⟨rfl, rfl, rfl, rfl, rfl, rfl, rfl, rfl, rfl, rfl, rfl, rfl, rfl, rfl, rfl, rfl, rfl, rfl, rfl, rfl, rfl, rfl, trivial⟩ ?_
  refine wc_loop (fun e' w' => ∃ (k : Nat) (u8x u9x u10x u11x u12x u13x u14x u15x u16x u17x u18x u19x u20x : Value), e' = lst [(.slice a1 x_a.length c2), undef, (.slice none 0 0), (.slice a6 (List.replicate x_a.length (0 : UInt8)).length c7), (.int .i64 ((k : Nat) : Int)), (.slice a1 x_a.length c2), (.int .i64 (x_a.length : Int)), (.slice a6 (List.replicate x_a.length (0 : UInt8)).length c7), u8x, u9x, u10x, u11x, u12x, u13x, u14x, u15x, u16x, u17x, u18x, u19x, u20x, undef] ∧ Ch (fun k => w0.heap.size ≤ k) w0 w' ∧ Ch (fun k => w0.heap.size ≤ k) w1 w' ∧ k ≤ x_a.length ∧ World.ownsRow w' w0.heap.size 5 1 (.slice a6 (List.replicate x_a.length (0 : UInt8)).length c7) (List.replicate x_a.length (0 : UInt8)).length ((x_a.take k ++ List.replicate (x_a.length - k) (0 : UInt8)).map bV)) (fun e' _ => x_a.length - ((intOf (e' 4))).toNat) ?_ ?_
  · have hE12 : ((List.replicate x_a.length (0 : UInt8)) : List UInt8) = x_a.take 0 ++ List.replicate (x_a.length - 0) (0 : UInt8) := by first | exact cpB_next (by omega) | simp
    exact ⟨0, undef, undef, undef, undef, undef, undef, undef, undef, undef, undef, undef, undef, undef, (congrArg (fun (x4z : Value) => lst [(.slice a1 x_a.length c2), undef, (.slice none 0 0), (.slice a6 (List.replicate x_a.length (0 : UInt8)).length c7), x4z, (.slice a1 x_a.length c2), (.int .i64 (x_a.length : Int)), (.slice a6 (List.replicate x_a.length (0 : UInt8)).length c7), undef, undef, undef, undef, undef, undef, undef, undef, undef, undef, undef, undef, undef, undef]) (congrArg (Value.int .i64) (show (0 : Int) = ((0 : Nat) : Int) by omega))), m10, (Ch.refl (fun k => w0.heap.size ≤ k) w1), (by omega), (by rw [← hE12]; exact o9)⟩
  · rintro _ w2 ⟨k, u8x, u9x, u10x, u11x, u12x, u13x, u14x, u15x, u16x, u17x, u18x, u19x, u20x, rfl, m13, k14, i15, o16⟩
    refine wc_seq ?_
    refine wc_seq ?_
    refine wc_region ?_
    refine wl_mv (.int .i64 ((k : Nat) : Int)) (want_none rfl) rfl rfl (.inl rfl) rfl ?_
    refine wl_mv (.slice a1 x_a.length c2) (want_none rfl) rfl rfl (.inl rfl) rfl ?_
    refine wl_len (want_none rfl) rfl rfl rfl slTy_22 rfl (r3.from0 m13) ?_
    refine wl_pure (.bool (decide (((k : Nat) : Int) < (x_a.length : Int)))) (want_none rfl) rfl rfl (by kernel_rfl) ?_
    refine wl_nil ?_
    refine wq_then ?_
    rcases Bool.eq_false_or_eq_true (decide (((k : Nat) : Int) < (x_a.length : Int))) with h17 | h17
    · have q18 := of_decide_eq_true h17
      refine wc_true (congrArg Value.bool h17) ?_
      refine wc_skip ?_
      refine wq_then ?_
      refine wc_seq ?_
      refine wc_block ?_
      refine wc_region ?_
      refine wl_mv (.slice a6 (List.replicate x_a.length (0 : UInt8)).length c7) (want_none rfl) rfl rfl (.inl rfl) rfl ?_
      refine wl_mv (.int .i64 ((k : Nat) : Int)) (want_none rfl) rfl rfl (.inl rfl) rfl ?_
      refine wl_mv (.slice a1 x_a.length c2) (want_none rfl) rfl rfl (.inl rfl) rfl ?_
      refine wl_mv (.int .i64 ((k : Nat) : Int)) (want_none rfl) rfl rfl (.inl rfl) rfl ?_
      refine wl_index (want_none rfl) ((k : Nat) : Int) rfl rfl rfl slTy_22 rfl rfl (r3.from0 m13) (by first | omega | (simp only [List.length_cons, List.length_nil, List.length_replicate, List.length_append, List.length_take, List.length_set, List.length_map]; omega)) (by first | omega | (simp only [List.length_cons, List.length_nil, List.length_replicate, List.length_append, List.length_take, List.length_set, List.length_map]; omega)) ?_
      refine wl_loadE (bV (x_a.getD k 0)) (want_none rfl) rfl rfl rfl rfl isAgg_5 (r3.from0 m13) (bget (by simp) (by first | omega | (simp only [List.length_cons, List.length_nil, List.length_replicate, List.length_append, List.length_take, List.length_set, List.length_map]; omega))) ?_
      refine wl_index (want_none rfl) ((k : Nat) : Int) rfl rfl rfl slTy_22 rfl rfl (Rd.of_own o16) (by first | omega | (simp only [List.length_cons, List.length_nil, List.length_replicate, List.length_append, List.length_take, List.length_set, List.length_map]; omega)) (by first | omega | (simp only [List.length_cons, List.length_nil, List.length_replicate, List.length_append, List.length_take, List.length_set, List.length_map]; omega)) ?_
      refine wl_storeB (x_a.take k ++ List.replicate (x_a.length - k) (0 : UInt8)) (k) ((x_a.getD k 0)) (want_none rfl) rfl rfl rfl (by simp) rfl sizeOf_5 o16 (by first | omega | (simp only [List.length_append, List.length_replicate, List.length_take, List.length_set, List.length_map]; omega)) ?_
      intro w3 k19 o20
      have m21 := m13.ext k19 (fun k hk => Nat.le_trans (Nat.le_refl _) (own_lt o9 k hk).1)
      refine wl_nil ?_
      refine wq_blk_normal ?_
      refine wq_then ?_
      refine wc_region ?_
      refine wl_mv (.int .i64 ((k : Nat) : Int)) (want_none rfl) rfl rfl (.inl rfl) rfl ?_
      refine wl_arith (((k : Nat) : Int) + 1) (want_none rfl) rfl rfl (by kernel_rfl) (by omega) (by omega) ?_
      refine wl_mv (.int .i64 (((k : Nat) : Int) + 1)) (want_none rfl) rfl rfl (.inr rfl) rfl ?_
      refine wl_nil ?_
      have hE22 : (((x_a.take k ++ List.replicate (x_a.length - k) (0 : UInt8)).set k (x_a.getD k 0)) : List UInt8) = x_a.take (k + 1) ++ List.replicate (x_a.length - (k + 1)) (0 : UInt8) := by first | exact cpB_next (by omega) | simp
      exact wq_loopN (w0 := w2) [(.slice a1 x_a.length c2), undef, (.slice none 0 0), (.slice a6 (List.replicate x_a.length (0 : UInt8)).length c7), (.int .i64 (((k + 1) : Nat) : Int)), (.slice a1 x_a.length c2), (.int .i64 (x_a.length : Int)), (.slice a6 (List.replicate x_a.length (0 : UInt8)).length c7), (.int .i64 ((k : Nat) : Int)), (.slice a1 x_a.length c2), (.int .i64 (x_a.length : Int)), (.bool (decide (((k : Nat) : Int) < (x_a.length : Int)))), (.int .i64 ((k : Nat) : Int)), (.int .i64 (((k : Nat) : Int) + 1)), (.slice a6 (List.replicate x_a.length (0 : UInt8)).length c7), (.int .i64 ((k : Nat) : Int)), (.slice a1 x_a.length c2), (.int .i64 ((k : Nat) : Int)), (.pointer (some (elA (.slice a1 x_a.length c2) ((((k : Nat) : Int)).toNat * 1)))), (.int .u8 ((x_a.getD k 0).toNat : Int)), (.pointer (some (elA (.slice a6 (List.replicate x_a.length (0 : UInt8)).length c7) ((((k : Nat) : Int)).toNat * 1)))), undef] rfl ⟨rfl, rfl, rfl, rfl, (congrArg (Value.int .i64) (show ((((k : Nat) : Int) + 1) : Int) = (((k + 1) : Nat) : Int) by omega)), rfl, rfl, rfl, rfl, rfl, rfl, rfl, rfl, rfl, rfl, rfl, rfl, rfl, rfl, rfl, rfl, rfl, trivial⟩ ⟨(k + 1), (.int .i64 ((k : Nat) : Int)), (.slice a1 x_a.length c2), (.int .i64 (x_a.length : Int)), (.bool (decide (((k : Nat) : Int) < (x_a.length : Int)))), (.int .i64 ((k : Nat) : Int)), (.int .i64 (((k : Nat) : Int) + 1)), (.slice a6 (List.replicate x_a.length (0 : UInt8)).length c7), (.int .i64 ((k : Nat) : Int)), (.slice a1 x_a.length c2), (.int .i64 ((k : Nat) : Int)), (.pointer (some (elA (.slice a1 x_a.length c2) ((((k : Nat) : Int)).toNat * 1)))), (.int .u8 ((x_a.getD k 0).toNat : Int)), (.pointer (some (elA (.slice a6 (List.replicate x_a.length (0 : UInt8)).length c7) ((((k : Nat) : Int)).toNat * 1)))), rfl, m21, (((Ch.refl (fun k => w0.heap.size ≤ k) w1).ext k14 (fun k hk => Nat.le_trans (Nat.le_refl _) hk)).ext k19 (fun k hk => Nat.le_trans (Nat.le_refl _) (own_lt o9 k hk).1)), (by omega), (by rw [← hE22]; exact o20)⟩ (by show x_a.length - ((((k + 1) : Nat) : Int)).toNat < x_a.length - (((k : Nat) : Int)).toNat; omega)
    · have q23 := of_decide_eq_false h17
      refine wc_false (congrArg Value.bool h17) ?_
      refine wc_exit ?_
      refine wq_then_exit ?_
      refine wq_then_exit ?_
      refine wq_blk_exit ?_
      refine wq_then ?_
      refine wc_seq ?_
      refine wc_region ?_
      refine wl_mv (.slice a6 (List.replicate x_a.length (0 : UInt8)).length c7) (want_none rfl) rfl rfl (.inl rfl) rfl ?_
      refine wl_mv (.slice a6 (List.replicate x_a.length (0 : UInt8)).length c7) (want_none rfl) rfl rfl (.inr rfl) rfl ?_
      refine wl_nil ?_
      refine wq_then ?_
      refine wc_ret ?_
      refine ret_1 (.inl rfl) (.slice a6 (List.replicate x_a.length (0 : UInt8)).length c7) rfl rfl ?_
      refine ⟨m13.keep0, ?_⟩
      have hF24 : cpB x_a = (x_a.take k ++ List.replicate (x_a.length - k) (0 : UInt8)) := by exact cpB_end (by omega)
      rw [hF24]
      have hN25 : (List.replicate x_a.length (0 : UInt8)).length = ((x_a.take k ++ List.replicate (x_a.length - k) (0 : UInt8))).length := by (simp only [List.length_append, List.length_take, List.length_replicate, List.length_set, List.length_map]; omega)
      rw [hN25] at o16 ⊢
      exact ⟨_, _, rfl, o16, (by rw [← hN25]; rw [List.length_replicate]; first | assumption | omega), ⟨trivial, trivial⟩⟩

def O_4 (w : World) (lo : Nat) (v : Value) (x : (Bool)) : Prop := v = .bool x
def F_spec_l1In (x_x : Int) (x_least : Int) (x_most : Int) : (Bool) := bif (decide (x_least ≤ x_x)) then (decide (x_x ≤ x_most)) else (false)
theorem C_spec_l1In (w0 : World) (x_x : Int) (x_least : Int) (x_most : Int)  : Fn Try.prog 65 #[(.int .i64 x_x), (.int .i64 x_least), (.int .i64 x_most)] w0 (fun v w' => Keep w0 w' ∧ O_4 w' w0.heap.size v (F_spec_l1In x_x x_least x_most)) := by
  refine fn_of (n := 15) (l := [(.int .i64 x_x), (.int .i64 x_least), (.int .i64 x_most), undef, undef, undef, undef, undef, undef, undef, undef, undef, undef, undef, undef]) Try.func65 rfl rfl (by kernel_rfl) rfl ?_
  refine wc_seq ?_
  refine wc_region ?_
  refine wl_mv (.bool false) (want_none rfl) rfl rfl (.inr rfl) rfl ?_
  refine wl_nil ?_
  refine wq_then ?_
  refine wc_seq ?_
  refine wc_region ?_
  refine wl_mv (.int .i64 x_x) (want_none rfl) rfl rfl (.inl rfl) rfl ?_
  refine wl_mv (.int .i64 x_least) (want_none rfl) rfl rfl (.inl rfl) rfl ?_
  refine wl_pure (.bool (decide (x_least ≤ x_x))) (want_none rfl) rfl rfl (by kernel_rfl) ?_
  refine wl_mv (.bool (decide (x_least ≤ x_x))) (want_none rfl) rfl rfl (.inl rfl) rfl ?_
  rcases Bool.eq_false_or_eq_true (decide (x_least ≤ x_x)) with h1 | h1
  · have q2 := of_decide_eq_true h1
    refine wl_mv (.int .i64 x_x) (want_some rfl rfl rfl (congrArg Value.bool h1)) rfl rfl (.inl rfl) rfl ?_
    refine wl_mv (.int .i64 x_most) (want_some rfl rfl rfl (congrArg Value.bool h1)) rfl rfl (.inl rfl) rfl ?_
    refine wl_pure (.bool (decide (x_x ≤ x_most))) (want_some rfl rfl rfl (congrArg Value.bool h1)) rfl rfl (by kernel_rfl) ?_
    refine wl_pick_t (.bool (decide (x_x ≤ x_most))) (want_none rfl) rfl rfl rfl (congrArg Value.bool h1) rfl ?_
    refine wl_mv (.bool (decide (x_x ≤ x_most))) (want_none rfl) rfl rfl (.inr rfl) rfl ?_
    refine wl_nil ?_
    refine wq_then ?_
    refine wc_ret ?_
    refine ret_1 (.inl rfl) (.bool (decide (x_x ≤ x_most))) rfl rfl ?_
    refine ⟨Ch.refl _ _, ?_⟩
    have hF3 : F_spec_l1In x_x x_least x_most = decide (x_x ≤ x_most) := by simp only [F_spec_l1In, h1, cond_true, cond_false]
    rw [hF3]
    exact rfl
  · have q4 := of_decide_eq_false h1
    refine wl_skip rfl rfl rfl (congrArg Value.bool h1) rfl rfl rfl ?_
    refine wl_skip rfl rfl rfl (congrArg Value.bool h1) rfl rfl rfl ?_
    refine wl_skip rfl rfl rfl (congrArg Value.bool h1) rfl rfl rfl ?_
    refine wl_pick_f (.bool false) (want_none rfl) rfl rfl rfl (congrArg Value.bool h1) rfl ?_
    refine wl_mv (.bool false) (want_none rfl) rfl rfl (.inr rfl) rfl ?_
    refine wl_nil ?_
    refine wq_then ?_
    refine wc_ret ?_
    refine ret_1 (.inl rfl) (.bool false) rfl rfl ?_
    refine ⟨Ch.refl _ _, ?_⟩
    have hF5 : F_spec_l1In x_x x_least x_most = false := by simp only [F_spec_l1In, h1, cond_true, cond_false]
    rw [hF5]
    exact rfl
theorem spec_l1In_t {n a b : Int} (h : F_spec_l1In n a b = true) : a ≤ n ∧ n ≤ b := by
  unfold F_spec_l1In at h
  by_cases h1 : a ≤ n <;> simp [h1] at h
  exact ⟨h1, h⟩
theorem spec_l1In_f {n a b : Int} (h : F_spec_l1In n a b = false) : n < a ∨ b < n := by
  unfold F_spec_l1In at h
  by_cases h1 : a ≤ n <;> simp [h1] at h <;> omega

theorem zero_25 : ∀ w, (zeroValue 25).run Try.prog w = .ok (.agg #[(.int .i64 0), (.slice none 0 0)]) w := fun w => by kernel_rfl
theorem sizeOf_25 : ∀ w, (sizeOf 25).run Try.prog w = .ok 2 w := fun w => by kernel_rfl
theorem isAgg_23 : ∀ w, (isAgg 23).run Try.prog w = .ok false w := fun w => by kernel_rfl
theorem slTy_23 : SlTy Try.prog 23 3 1 8 (.int .i64 0) := slTy Try.underlying23 (by kernel_rfl) rfl rfl
theorem sizeOf_23 : ∀ w, (sizeOf 23).run Try.prog w = .ok 1 w := fun w => by kernel_rfl
theorem isAgg_25 : ∀ w, (isAgg 25).run Try.prog w = .ok true w := fun w => by kernel_rfl
def O_25 (w : World) (lo : Nat) (v : Value) (x : (PWin)) : Prop := ∃ (a1 : Option Addr) (c1 : Nat), v = .agg #[.int .i64 x.Top, .slice a1 x.Bits.length c1] ∧ w.ownsRow lo 3 1 (.slice a1 x.Bits.length c1) x.Bits.length (x.Bits.map iV) ∧ x.Bits.length ≤ 1073741824 ∧ Aps [(a1, c1)]
def winNew : PWin := { Top := (-1), Bits := List.replicate 32 0 }
theorem C_spec_WinNew (w0 : World)   : Fn Try.prog 103 #[] w0 (fun v w' => Keep w0 w' ∧ O_25 w' w0.heap.size v (winNew)) := by
  refine fn_of (n := 14) (l := [undef, undef, undef, undef, undef, undef, undef, undef, undef, undef, undef, undef, undef, undef]) Try.func103 rfl rfl (by kernel_rfl) rfl ?_
  refine wc_seq ?_
  refine wc_region ?_
  refine wl_alloc (want_none rfl) (.agg #[(.int .i64 0), (.slice none 0 0)]) [(.int .i64 0), (.slice none 0 0)] zero_25 rfl rfl rfl rfl ?_
  intro g1 w1 p2 p3 k4 b5
  have m6 := (Ch.base w0).extk k4
  refine wl_nil ?_
  refine wq_then ?_
  refine wc_seq ?_
  refine wc_region ?_
  refine wl_pure (.agg #[(.int .i64 (-1)), (.slice none 0 0)]) (want_none rfl) rfl rfl (by kernel_rfl) ?_
  refine wl_alloc (want_none rfl) (.agg #[(.int .i64 0), (.slice none 0 0)]) [(.int .i64 0), (.slice none 0 0)] zero_25 rfl rfl rfl rfl ?_
  intro g7 w2 p8 p9 k10 b11
  have m12 := m6.extk k10
  refine wl_store (.agg #[(.int .i64 (-1)), (.slice none 0 0)]) [(.int .i64 (-1)), (.slice none 0 0)] [(.int .i64 (-1)), (.slice none 0 0)] (want_none rfl) rfl rfl rfl rfl rfl (one_cons rfl (one_cons rfl one_nil)) sizeOf_25 b11 rfl rfl ?_
  intro w3 k13 b14 z15
  have m16 := m12.ext k13 (fun k hk => by subst hk; exact Nat.le_trans k4.size p8)
  refine wl_nil ?_
  refine wq_then ?_
  refine wc_seq ?_
  refine wc_seq ?_
  refine wc_region ?_
  refine wl_mv (.int .i64 0) (want_none rfl) rfl rfl (.inr rfl) rfl ?_
  refine wl_nil ?_
  refine wq_then ?_
  refine wc_block ?_
  refine wc_norm [(.pointer (some ⟨g1, 0, none⟩)), (.pointer (some ⟨g7, 0, none⟩)), (.int .i64 0), (.agg #[(.int .i64 (-1)), (.slice none 0 0)]), undef, undef, undef, undef, undef, undef, undef, undef, undef, undef] rfl ⟨rfl, rfl, rfl, rfl, rfl, rfl, rfl, rfl, rfl, rfl, rfl, rfl, rfl, rfl, trivial⟩ ?_
  refine wc_loop (fun e' w' => ∃ (k : Nat) (u4x u5x u6x u7x u8x u9x u10x u11x u12x : Value) (ab1_1x : Option Addr) (cb1_1x : Nat), e' = lst [(.pointer (some ⟨g1, 0, none⟩)), (.pointer (some ⟨g7, 0, none⟩)), (.int .i64 ((k : Nat) : Int)), (.agg #[(.int .i64 (-1)), (.slice none 0 0)]), u4x, u5x, u6x, u7x, u8x, u9x, u10x, u11x, u12x, undef] ∧ Ch (fun k => w0.heap.size ≤ k) w0 w' ∧ Ch (fun k => w1.heap.size ≤ k) w3 w' ∧ k ≤ 32 ∧ (World.ownsRow w' w3.heap.size 3 1 (.slice ab1_1x (List.replicate k (0 : Int)).length cb1_1x) (List.replicate k (0 : Int)).length ((List.replicate k (0 : Int)).map iV) ∧ (List.replicate k (0 : Int)).length ≤ 1073741824) ∧ Blk w' g7 25 [(.int .i64 (-1)), (.slice ab1_1x (List.replicate k (0 : Int)).length cb1_1x)]) (fun e' _ => (32 - (intOf (e' 2))).toNat) ?_ ?_
  · have hE17 : (([] : List Int) : List Int) = List.replicate 0 (0 : Int) := by first | rfl | exact List.replicate_succ'.symm
    exact ⟨0, undef, undef, undef, undef, undef, undef, undef, undef, undef, none, 0, (congrArg (fun (x2z : Value) => lst [(.pointer (some ⟨g1, 0, none⟩)), (.pointer (some ⟨g7, 0, none⟩)), x2z, (.agg #[(.int .i64 (-1)), (.slice none 0 0)]), undef, undef, undef, undef, undef, undef, undef, undef, undef, undef]) (congrArg (Value.int .i64) (show (0 : Int) = ((0 : Nat) : Int) by omega))), m16, (Ch.refl (fun k => w1.heap.size ≤ k) w3), (by omega), (hE17 ▸ ⟨(own_nil _ _ _ _), (by simp)⟩), b14⟩
  · rintro _ w4 ⟨k, u4x, u5x, u6x, u7x, u8x, u9x, u10x, u11x, u12x, ab1_1x, cb1_1x, rfl, m18, k19, i20, ⟨o21, s22⟩, hbx1⟩
    have hpl : (List.replicate k (0 : Int)).length = k := List.length_replicate
    refine wc_seq ?_
    refine wc_seq ?_
    refine wc_region ?_
    refine wl_mv (.int .i64 ((k : Nat) : Int)) (want_none rfl) rfl rfl (.inl rfl) rfl ?_
    refine wl_pure (.bool (decide (((k : Nat) : Int) < 32))) (want_none rfl) rfl rfl (by kernel_rfl) ?_
    refine wl_nil ?_
    refine wq_then ?_
    rcases Bool.eq_false_or_eq_true (decide (((k : Nat) : Int) < 32)) with h24 | h24
    · have q25 := of_decide_eq_true h24
      refine wc_true (congrArg Value.bool h24) ?_
      refine wc_skip ?_
      refine wq_then ?_
      refine wc_seq ?_
      refine wc_block ?_
      refine wc_region ?_
      refine wl_pure (.pointer (some ⟨g7, 1, none⟩)) (want_none rfl) rfl rfl (by kernel_rfl) ?_
      refine wl_load1 (.slice ab1_1x (List.replicate k (0 : Int)).length cb1_1x) (want_none rfl) rfl rfl rfl rfl isAgg_23 hbx1 rfl ?_
      refine wl_lit [(.int .i64 0)] (want_none rfl) rfl rfl slTy_23 (m := 1) rfl (by simp only [maxLen]; omega) (fun w => by kernel_rfl) ?_
      intro u26 w5 k27 o28
      obtain ⟨a29, c30, rfl⟩ := own_form o28
      have m31 := m18.extk k27
      have o33 : w5.ownsRow w4.heap.size 3 1 (.slice a29 ([0] : List Int).length c30) ([0] : List Int).length (([0] : List Int).map iV) := o28
      have o34 := (own_kp o21 k27)
      refine wl_append (want_none rfl) rfl rfl rfl slTy_23 rfl rfl o34 (Rd.of_own o33) (all_iV _) (by (try simp only [List.length_append, List.length_cons, List.length_nil]); omega) (by simp only [maxLen]; (try simp only [List.length_append, List.length_cons, List.length_nil]); omega) (Nat.le_trans k19.size k27.size) ?_
      intro u35 w6 k36 o37 j38
      have o41 : w6.ownsRow w3.heap.size 3 1 u35 (((List.replicate k (0 : Int)) ++ [0]) : List Int).length ((((List.replicate k (0 : Int)) ++ [0]) : List Int).map iV) := by simpa [Nat.add_assoc] using o37
      obtain ⟨a39, c40, rfl⟩ := own_form o41
      have m42 := m31.ext k36 (fun k hk => Nat.le_trans (Nat.le_trans (Nat.le_trans k4.size k10.size) k13.size) (own_lt o21 k hk).1)
      have s44 : ((List.replicate k (0 : Int)) ++ [0]).length ≤ 1073741824 := by first | assumption | ((try simp only [List.length_append, List.length_cons, List.length_nil]); omega)
      refine wl_pure (.pointer (some ⟨g7, 1, none⟩)) (want_none rfl) rfl rfl (by kernel_rfl) ?_
      have b45 := ((hbx1.kp k27).ch k36 (fun h => by have := (own_lt o21 _ h).1; have := Nat.lt_of_lt_of_le p9 k13.size; omega))
      refine wl_store (.slice a39 ((List.replicate k (0 : Int)) ++ [0]).length c40) [(.slice a39 ((List.replicate k (0 : Int)) ++ [0]).length c40)] [(.int .i64 (-1)), (.slice a39 ((List.replicate k (0 : Int)) ++ [0]).length c40)] (want_none rfl) rfl rfl rfl rfl rfl (one_cons rfl one_nil) sizeOf_23 b45 rfl rfl ?_
      intro w7 k46 b47 z48
      have m49 := m42.ext k46 (fun k hk => by subst hk; exact Nat.le_trans k4.size p8)
      refine wl_nil ?_
      refine wq_blk_normal ?_
      refine wq_then ?_
      refine wc_region ?_
      refine wl_mv (.int .i64 ((k : Nat) : Int)) (want_none rfl) rfl rfl (.inl rfl) rfl ?_
      refine wl_arith (((k : Nat) : Int) + 1) (want_none rfl) rfl rfl (by kernel_rfl) (by omega) (by omega) ?_
      refine wl_mv (.int .i64 (((k : Nat) : Int) + 1)) (want_none rfl) rfl rfl (.inr rfl) rfl ?_
      refine wl_nil ?_
      have o50 := (own_ch o41 k46 (fun g hg hlt hk => by have h1 := (own_lt o41 g hg).1; have h2 := Nat.lt_of_lt_of_le p9 k13.size; omega))
      have hE51 : (((List.replicate k (0 : Int)) ++ [0]) : List Int) = List.replicate (k + 1) (0 : Int) := by first | rfl | exact List.replicate_succ'.symm
      exact wq_loopN (w0 := w4) [(.pointer (some ⟨g1, 0, none⟩)), (.pointer (some ⟨g7, 0, none⟩)), (.int .i64 (((k + 1) : Nat) : Int)), (.agg #[(.int .i64 (-1)), (.slice none 0 0)]), (.int .i64 ((k : Nat) : Int)), (.bool (decide (((k : Nat) : Int) < 32))), (.int .i64 ((k : Nat) : Int)), (.int .i64 (((k : Nat) : Int) + 1)), (.pointer (some ⟨g7, 1, none⟩)), (.slice ab1_1x (List.replicate k (0 : Int)).length cb1_1x), (.slice a29 ([0] : List Int).length c30), (.slice a39 ((List.replicate k (0 : Int)) ++ [0]).length c40), (.pointer (some ⟨g7, 1, none⟩)), undef] rfl ⟨rfl, rfl, (congrArg (Value.int .i64) (show ((((k : Nat) : Int) + 1) : Int) = (((k + 1) : Nat) : Int) by omega)), rfl, rfl, rfl, rfl, rfl, rfl, rfl, rfl, rfl, rfl, rfl, trivial⟩ ⟨(k + 1), (.int .i64 ((k : Nat) : Int)), (.bool (decide (((k : Nat) : Int) < 32))), (.int .i64 ((k : Nat) : Int)), (.int .i64 (((k : Nat) : Int) + 1)), (.pointer (some ⟨g7, 1, none⟩)), (.slice ab1_1x (List.replicate k (0 : Int)).length cb1_1x), (.slice a29 ([0] : List Int).length c30), (.slice a39 ((List.replicate k (0 : Int)) ++ [0]).length c40), (.pointer (some ⟨g7, 1, none⟩)), a39, c40, rfl, m49, (((((Ch.refl (fun k => w1.heap.size ≤ k) w3).ext k19 (fun k hk => Nat.le_trans (Nat.le_refl _) hk)).extk k27).ext k36 (fun k hk => Nat.le_trans (Nat.le_trans k10.size k13.size) (own_lt o21 k hk).1)).ext k46 (fun k hk => by subst hk; exact Nat.le_trans (Nat.le_refl _) p8)), (by omega), (hE51 ▸ ⟨o50, s44⟩), (by have hb := b47; rw [hE51] at hb; exact hb)⟩ (by show (32 - (((k + 1) : Nat) : Int)).toNat < (32 - ((k : Nat) : Int)).toNat; omega)
    · have q52 := of_decide_eq_false h24
      refine wc_false (congrArg Value.bool h24) ?_
      refine wc_exit ?_
      refine wq_then_exit ?_
      refine wq_then_exit ?_
      refine wq_blk_exit ?_
      refine wq_then ?_
      refine wc_seq ?_
      refine wc_region ?_
      refine wl_loadN [(.int .i64 (-1)), (.slice ab1_1x (List.replicate k (0 : Int)).length cb1_1x)] (want_none rfl) rfl rfl rfl rfl isAgg_25 sizeOf_25 hbx1 rfl ?_
      have b53 := (((b5.kp k10).ch k13 (Nat.ne_of_lt (Nat.lt_of_lt_of_le p3 (Nat.le_trans (Nat.le_refl _) p8)))).ch k19 (Nat.not_le.2 (Nat.lt_of_lt_of_le p3 (Nat.le_refl _))))
      refine wl_store (.agg #[(.int .i64 (-1)), (.slice ab1_1x (List.replicate k (0 : Int)).length cb1_1x)]) [(.int .i64 (-1)), (.slice ab1_1x (List.replicate k (0 : Int)).length cb1_1x)] [(.int .i64 (-1)), (.slice ab1_1x (List.replicate k (0 : Int)).length cb1_1x)] (want_none rfl) rfl rfl rfl rfl rfl (one_cons rfl (one_cons rfl one_nil)) sizeOf_25 b53 rfl rfl ?_
      intro w5 k54 b55 z56
      have m57 := m18.ext k54 (fun k hk => by subst hk; exact Nat.le_trans (Nat.le_refl _) p2)
      refine wl_nil ?_
      refine wq_then ?_
      refine wc_ret ?_
      have o58 := (own_ch o21 k54 (fun g hg hlt hk => by have h1 := (own_lt o21 g hg).1; have h2 := Nat.lt_of_lt_of_le p3 (Nat.le_trans k10.size k13.size); omega))
      refine ret_1 (.inl rfl) (.agg #[(.int .i64 (-1)), (.slice ab1_1x (List.replicate k (0 : Int)).length cb1_1x)]) rfl (rv_c [(.int .i64 (-1)), (.slice ab1_1x (List.replicate k (0 : Int)).length cb1_1x)] rfl b55 isAgg_25 sizeOf_25) ?_
      refine ⟨m57.keep0, ?_⟩
      have hF59 : winNew = { Top := (-1), Bits := (List.replicate k (0 : Int)) : PWin } := by (obtain rfl : k = 32 := by omega); rfl
      rw [hF59]
      exact ⟨_, _, rfl, (own_lo o58 (Nat.le_trans (Nat.le_trans k4.size k10.size) k13.size)), s22, ⟨trivial, trivial⟩⟩

theorem zero_27 : ∀ w, (zeroValue 27).run Try.prog w = .ok (.agg #[(.int .i64 0), (.slice none 0 0), (.int .i64 0), (.int .i64 0), (.slice none 0 0)]) w := fun w => by kernel_rfl
theorem sizeOf_27 : ∀ w, (sizeOf 27).run Try.prog w = .ok 5 w := fun w => by kernel_rfl
theorem isAgg_27 : ∀ w, (isAgg 27).run Try.prog w = .ok true w := fun w => by kernel_rfl
def O_27 (w : World) (lo : Nat) (v : Value) (x : (PEp)) : Prop := ∃ (a1 : Option Addr) (c1 : Nat) (a2 : Option Addr) (c2 : Nat), v = .agg #[.int .i64 x.N, .slice a1 x.Key.length c1, .int .i64 x.Seq, .int .i64 x.Win.Top, .slice a2 x.Win.Bits.length c2] ∧ w.ownsRow lo 5 1 (.slice a1 x.Key.length c1) x.Key.length (x.Key.map bV) ∧ x.Key.length ≤ 1073741824 ∧ w.ownsRow lo 3 1 (.slice a2 x.Win.Bits.length c2) x.Win.Bits.length (x.Win.Bits.map iV) ∧ x.Win.Bits.length ≤ 1073741824 ∧ Aps [(a1, c1), (a2, c2)]
def F_spec_EpNew (x_n : Int) (x_key : List UInt8) : (PEp) := bif (F_spec_l1In x_n 0 4294967295) then (bif (decide ((x_key.length : Int) = 32)) then ({ N := x_n, Key := x_key, Seq := 0, Win := (winNew) : PEp }) else ({ N := 0, Key := [], Seq := 0, Win := { Top := 0, Bits := [] : PWin } : PEp })) else ({ N := 0, Key := [], Seq := 0, Win := { Top := 0, Bits := [] : PWin } : PEp })
theorem C_spec_EpNew (w0 : World) (x_n : Int) (v_x_key : Value) (x_key : List UInt8) (r_x_key : R_22 w0 v_x_key x_key)  : Fn Try.prog 66 #[(.int .i64 x_n), v_x_key] w0 (fun v w' => Keep w0 w' ∧ O_27 w' w0.heap.size v (F_spec_EpNew x_n x_key)) := by
  obtain ⟨a1, c2, rfl, r3, s4⟩ := r_x_key
  refine fn_of (n := 20) (l := [(.int .i64 x_n), (.slice a1 x_key.length c2), undef, undef, undef, undef, undef, undef, undef, undef, undef, undef, undef, undef, undef, undef, undef, undef, undef, undef]) Try.func66 rfl rfl (by kernel_rfl) rfl ?_
  refine wc_seq ?_
  refine wc_region ?_
  refine wl_alloc (want_none rfl) (.agg #[(.int .i64 0), (.slice none 0 0), (.int .i64 0), (.int .i64 0), (.slice none 0 0)]) [(.int .i64 0), (.slice none 0 0), (.int .i64 0), (.int .i64 0), (.slice none 0 0)] zero_27 rfl rfl rfl rfl ?_
  intro g6 w1 p7 p8 k9 b10
  have m11 := (Ch.base w0).extk k9
  refine wl_nil ?_
  refine wq_then ?_
  refine wc_seq ?_
  refine wc_seq ?_
  refine wc_region ?_
  refine wl_mv (.int .i64 x_n) (want_none rfl) rfl rfl (.inl rfl) rfl ?_
  refine wl_call (want_none rfl) (args := #[(.int .i64 x_n), (.int .i64 0), (.int .i64 4294967295)]) rfl rfl (by kernel_rfl) (C_spec_l1In w1 x_n 0 4294967295) ?_
  rintro _ w2 ⟨k12, rfl⟩
  have m13 := m11.extk k12
  refine wl_pure (.bool (!(F_spec_l1In x_n 0 4294967295))) (want_none rfl) rfl rfl (by kernel_rfl) ?_
  refine wl_mv (.bool (!(F_spec_l1In x_n 0 4294967295))) (want_none rfl) rfl rfl (.inl rfl) rfl ?_
  rcases Bool.eq_false_or_eq_true (F_spec_l1In x_n 0 4294967295) with h14 | h14
  · have q15 := spec_l1In_t h14
    refine wl_mv (.slice a1 x_key.length c2) (want_some rfl rfl rfl (congrArg (fun b => Value.bool (!b)) h14)) rfl rfl (.inl rfl) rfl ?_
    refine wl_len (want_some rfl rfl rfl (congrArg (fun b => Value.bool (!b)) h14)) rfl rfl rfl slTy_22 rfl (r3.from0 m13) ?_
    refine wl_pure (.bool (!(decide ((x_key.length : Int) = 32)))) (want_some rfl rfl rfl (congrArg (fun b => Value.bool (!b)) h14)) rfl rfl (by kernel_rfl) ?_
    refine wl_pick_f (.bool (!(decide ((x_key.length : Int) = 32)))) (want_none rfl) rfl rfl rfl (congrArg (fun b => Value.bool (!b)) h14) rfl ?_
    refine wl_nil ?_
    refine wq_then ?_
    rcases Bool.eq_false_or_eq_true (decide ((x_key.length : Int) = 32)) with h16 | h16
    · have q17 := of_decide_eq_true h16
      refine wc_false (congrArg (fun b => Value.bool (!b)) h16) ?_
      refine wc_skip ?_
      refine wq_then ?_
      refine wc_seq ?_
      refine wc_region ?_
      refine wl_mv (.int .i64 x_n) (want_none rfl) rfl rfl (.inl rfl) rfl ?_
      refine wl_lit0 (want_none rfl) rfl rfl slTy_22 (fun w => by kernel_rfl) ?_
      intro a18 w3 k19 o20
      have m21 := m13.extk k19
      refine wl_mv (.slice a1 x_key.length c2) (want_none rfl) rfl rfl (.inl rfl) rfl ?_
      refine wl_append0 (want_none rfl) rfl rfl rfl slTy_22 rfl rfl o20 (r3.from0 m21) (all_bV _) (by (try simp only [List.length_append, List.length_cons, List.length_nil]); omega) (by simp only [maxLen]; (try simp only [List.length_append, List.length_cons, List.length_nil]); omega) k19.size ?_
      intro u23 w4 k24 o25 j26
      obtain ⟨a27, c28, rfl⟩ := own_form o25
      have n29 : New w3 a27 c28 := j26 _ _ rfl
      have m30 := m21.extk k24
      refine wl_call (want_none rfl) (args := #[]) rfl rfl (by kernel_rfl) (C_spec_WinNew w4 ) ?_
      rintro _ w5 ⟨k32, ⟨a33, c34, rfl, o35, s36, ap38⟩⟩
      have m39 := m30.extk k32
      refine wl_pure (.agg #[(.int .i64 x_n), (.slice a27 x_key.length c28), (.int .i64 0), (.int .i64 ((winNew).Top)), (.slice a33 ((winNew).Bits).length c34)]) (want_none rfl) rfl rfl (by kernel_rfl) ?_
      have b40 := ((((b10.kp k12).kp k19).kp k24).kp k32)
      refine wl_store (.agg #[(.int .i64 x_n), (.slice a27 x_key.length c28), (.int .i64 0), (.int .i64 ((winNew).Top)), (.slice a33 ((winNew).Bits).length c34)]) [(.int .i64 x_n), (.slice a27 x_key.length c28), (.int .i64 0), (.int .i64 ((winNew).Top)), (.slice a33 ((winNew).Bits).length c34)] [(.int .i64 x_n), (.slice a27 x_key.length c28), (.int .i64 0), (.int .i64 ((winNew).Top)), (.slice a33 ((winNew).Bits).length c34)] (want_none rfl) rfl rfl rfl rfl rfl (one_cons rfl (one_cons rfl (one_cons rfl (one_cons rfl (one_cons rfl one_nil))))) sizeOf_27 b40 rfl rfl ?_
      intro w6 k41 b42 z43
      have m44 := m39.ext k41 (fun k hk => by subst hk; exact Nat.le_trans (Nat.le_refl _) p7)
      refine wl_nil ?_
      refine wq_then ?_
      refine wc_ret ?_
      have o45 := (own_ch (own_kp o25 k32) k41 (fun g hg hlt hk => by have h1 := (own_lt o25 g hg).1; have h2 := Nat.lt_of_lt_of_le p8 k12.size; omega))
      have o46 := (own_ch o35 k41 (fun g hg hlt hk => by have h1 := (own_lt o35 g hg).1; have h2 := Nat.lt_of_lt_of_le p8 (Nat.le_trans (Nat.le_trans k12.size k19.size) k24.size); omega))
      refine ret_1 (.inl rfl) (.agg #[(.int .i64 x_n), (.slice a27 x_key.length c28), (.int .i64 0), (.int .i64 ((winNew).Top)), (.slice a33 ((winNew).Bits).length c34)]) rfl (rv_c [(.int .i64 x_n), (.slice a27 x_key.length c28), (.int .i64 0), (.int .i64 ((winNew).Top)), (.slice a33 ((winNew).Bits).length c34)] rfl b42 isAgg_27 sizeOf_27) ?_
      refine ⟨m44.keep0, ?_⟩
      have hF47 : F_spec_EpNew x_n x_key = { N := x_n, Key := x_key, Seq := 0, Win := (winNew) : PEp } := by simp only [F_spec_EpNew, h14, h16, cond_true, cond_false]
      rw [hF47]
      exact ⟨_, _, _, _, rfl, (own_lo o45 (Nat.le_trans k9.size k12.size)), s4, (own_lo o46 (Nat.le_trans (Nat.le_trans (Nat.le_trans k9.size k12.size) k19.size) k24.size)), s36, ⟨⟨(Ap.lt o25 o35 (Nat.le_refl _)), trivial⟩, ⟨trivial, trivial⟩⟩⟩
    · have q48 := of_decide_eq_false h16
      refine wc_true (congrArg (fun b => Value.bool (!b)) h16) ?_
      refine wc_seq ?_
      refine wc_region ?_
      refine wl_pure (.agg #[(.int .i64 0), (.slice none 0 0), (.int .i64 0), (.int .i64 0), (.slice none 0 0)]) (want_none rfl) rfl rfl (by kernel_rfl) ?_
      have b49 := (b10.kp k12)
      refine wl_store (.agg #[(.int .i64 0), (.slice none 0 0), (.int .i64 0), (.int .i64 0), (.slice none 0 0)]) [(.int .i64 0), (.slice none 0 0), (.int .i64 0), (.int .i64 0), (.slice none 0 0)] [(.int .i64 0), (.slice none 0 0), (.int .i64 0), (.int .i64 0), (.slice none 0 0)] (want_none rfl) rfl rfl rfl rfl rfl (one_cons rfl (one_cons rfl (one_cons rfl (one_cons rfl (one_cons rfl one_nil))))) sizeOf_27 b49 rfl rfl ?_
      intro w3 k50 b51 z52
      have m53 := m13.ext k50 (fun k hk => by subst hk; exact Nat.le_trans (Nat.le_refl _) p7)
      refine wl_nil ?_
      refine wq_then ?_
      refine wc_ret ?_
      refine wq_then_ret ?_
      refine ret_1 (.inl rfl) (.agg #[(.int .i64 0), (.slice none 0 0), (.int .i64 0), (.int .i64 0), (.slice none 0 0)]) rfl (rv_c [(.int .i64 0), (.slice none 0 0), (.int .i64 0), (.int .i64 0), (.slice none 0 0)] rfl b51 isAgg_27 sizeOf_27) ?_
      refine ⟨m53.keep0, ?_⟩
      have hF54 : F_spec_EpNew x_n x_key = { N := 0, Key := [], Seq := 0, Win := { Top := 0, Bits := [] : PWin } : PEp } := by simp only [F_spec_EpNew, h14, h16, cond_true, cond_false]
      rw [hF54]
      exact ⟨_, _, _, _, rfl, (own_nil _ _ _ _), (by simp), (own_nil _ _ _ _), (by simp), ⟨⟨(Ap.nl _), trivial⟩, ⟨trivial, trivial⟩⟩⟩
  · have q55 := spec_l1In_f h14
    refine wl_skip rfl rfl rfl (congrArg (fun b => Value.bool (!b)) h14) rfl rfl rfl ?_
    refine wl_skip rfl rfl rfl (congrArg (fun b => Value.bool (!b)) h14) rfl rfl rfl ?_
    refine wl_skip rfl rfl rfl (congrArg (fun b => Value.bool (!b)) h14) rfl rfl rfl ?_
    refine wl_pick_t (.bool true) (want_none rfl) rfl rfl rfl (congrArg (fun b => Value.bool (!b)) h14) rfl ?_
    refine wl_nil ?_
    refine wq_then ?_
    refine wc_true rfl ?_
    refine wc_seq ?_
    refine wc_region ?_
    refine wl_pure (.agg #[(.int .i64 0), (.slice none 0 0), (.int .i64 0), (.int .i64 0), (.slice none 0 0)]) (want_none rfl) rfl rfl (by kernel_rfl) ?_
    have b56 := (b10.kp k12)
    refine wl_store (.agg #[(.int .i64 0), (.slice none 0 0), (.int .i64 0), (.int .i64 0), (.slice none 0 0)]) [(.int .i64 0), (.slice none 0 0), (.int .i64 0), (.int .i64 0), (.slice none 0 0)] [(.int .i64 0), (.slice none 0 0), (.int .i64 0), (.int .i64 0), (.slice none 0 0)] (want_none rfl) rfl rfl rfl rfl rfl (one_cons rfl (one_cons rfl (one_cons rfl (one_cons rfl (one_cons rfl one_nil))))) sizeOf_27 b56 rfl rfl ?_
    intro w3 k57 b58 z59
    have m60 := m13.ext k57 (fun k hk => by subst hk; exact Nat.le_trans (Nat.le_refl _) p7)
    refine wl_nil ?_
    refine wq_then ?_
    refine wc_ret ?_
    refine wq_then_ret ?_
    refine ret_1 (.inl rfl) (.agg #[(.int .i64 0), (.slice none 0 0), (.int .i64 0), (.int .i64 0), (.slice none 0 0)]) rfl (rv_c [(.int .i64 0), (.slice none 0 0), (.int .i64 0), (.int .i64 0), (.slice none 0 0)] rfl b58 isAgg_27 sizeOf_27) ?_
    refine ⟨m60.keep0, ?_⟩
    have hF61 : F_spec_EpNew x_n x_key = { N := 0, Key := [], Seq := 0, Win := { Top := 0, Bits := [] : PWin } : PEp } := by simp only [F_spec_EpNew, h14, cond_true, cond_false]
    rw [hF61]
    exact ⟨_, _, _, _, rfl, (own_nil _ _ _ _), (by simp), (own_nil _ _ _ _), (by simp), ⟨⟨(Ap.nl _), trivial⟩, ⟨trivial, trivial⟩⟩⟩

theorem zero_29 : ∀ w, (zeroValue 29).run Try.prog w = .ok (.agg #[(.int .i64 0), (.slice none 0 0), (.int .i64 0), (.slice none 0 0), (.int .i64 0), (.int .i64 0), (.slice none 0 0), (.int .i64 0), (.slice none 0 0), (.int .i64 0), (.int .i64 0), (.slice none 0 0), (.bool false), (.int .i64 0), (.slice none 0 0)]) w := fun w => by kernel_rfl
theorem sizeOf_29 : ∀ w, (sizeOf 29).run Try.prog w = .ok 15 w := fun w => by kernel_rfl
theorem isAgg_29 : ∀ w, (isAgg 29).run Try.prog w = .ok true w := fun w => by kernel_rfl
def O_29 (w : World) (lo : Nat) (v : Value) (x : (PChan)) : Prop := ∃ (a1 : Option Addr) (c1 : Nat) (a2 : Option Addr) (c2 : Nat) (a3 : Option Addr) (c3 : Nat) (a4 : Option Addr) (c4 : Nat) (a5 : Option Addr) (c5 : Nat) (a6 : Option Addr) (c6 : Nat), v = .agg #[.int .i64 x.Role, .slice a1 x.Sn.length c1, .int .i64 x.Cur.N, .slice a2 x.Cur.Key.length c2, .int .i64 x.Cur.Seq, .int .i64 x.Cur.Win.Top, .slice a3 x.Cur.Win.Bits.length c3, .int .i64 x.Old.N, .slice a4 x.Old.Key.length c4, .int .i64 x.Old.Seq, .int .i64 x.Old.Win.Top, .slice a5 x.Old.Win.Bits.length c5, .bool x.HasOld, .int .i64 x.Until, .slice a6 x.Next.length c6] ∧ w.ownsRow lo 5 1 (.slice a1 x.Sn.length c1) x.Sn.length (x.Sn.map bV) ∧ x.Sn.length ≤ 1073741824 ∧ w.ownsRow lo 5 1 (.slice a2 x.Cur.Key.length c2) x.Cur.Key.length (x.Cur.Key.map bV) ∧ x.Cur.Key.length ≤ 1073741824 ∧ w.ownsRow lo 3 1 (.slice a3 x.Cur.Win.Bits.length c3) x.Cur.Win.Bits.length (x.Cur.Win.Bits.map iV) ∧ x.Cur.Win.Bits.length ≤ 1073741824 ∧ w.ownsRow lo 5 1 (.slice a4 x.Old.Key.length c4) x.Old.Key.length (x.Old.Key.map bV) ∧ x.Old.Key.length ≤ 1073741824 ∧ w.ownsRow lo 3 1 (.slice a5 x.Old.Win.Bits.length c5) x.Old.Win.Bits.length (x.Old.Win.Bits.map iV) ∧ x.Old.Win.Bits.length ≤ 1073741824 ∧ w.ownsRow lo 5 1 (.slice a6 x.Next.length c6) x.Next.length (x.Next.map bV) ∧ x.Next.length ≤ 1073741824 ∧ Aps [(a1, c1), (a2, c2), (a3, c3), (a4, c4), (a5, c5), (a6, c6)]
def F_spec_ChanNew (x_role : Int) (x_sn : List UInt8) (x_key : List UInt8) : (PChan) := bif (F_spec_l1In x_role 0 1) then (bif (decide ((x_sn.length : Int) = 12)) then (bif (decide ((x_key.length : Int) = 32)) then ({ Role := x_role, Sn := x_sn, Cur := (F_spec_EpNew 0 x_key), Old := { N := 0, Key := [], Seq := 0, Win := { Top := 0, Bits := [] : PWin } : PEp }, HasOld := false, Until := 0, Next := [] : PChan }) else ({ Role := 0, Sn := [], Cur := { N := 0, Key := [], Seq := 0, Win := { Top := 0, Bits := [] : PWin } : PEp }, Old := { N := 0, Key := [], Seq := 0, Win := { Top := 0, Bits := [] : PWin } : PEp }, HasOld := false, Until := 0, Next := [] : PChan })) else ({ Role := 0, Sn := [], Cur := { N := 0, Key := [], Seq := 0, Win := { Top := 0, Bits := [] : PWin } : PEp }, Old := { N := 0, Key := [], Seq := 0, Win := { Top := 0, Bits := [] : PWin } : PEp }, HasOld := false, Until := 0, Next := [] : PChan })) else ({ Role := 0, Sn := [], Cur := { N := 0, Key := [], Seq := 0, Win := { Top := 0, Bits := [] : PWin } : PEp }, Old := { N := 0, Key := [], Seq := 0, Win := { Top := 0, Bits := [] : PWin } : PEp }, HasOld := false, Until := 0, Next := [] : PChan })
theorem C_spec_ChanNew (w0 : World) (x_role : Int) (v_x_sn : Value) (x_sn : List UInt8) (r_x_sn : R_22 w0 v_x_sn x_sn) (v_x_key : Value) (x_key : List UInt8) (r_x_key : R_22 w0 v_x_key x_key)  : Fn Try.prog 15 #[(.int .i64 x_role), v_x_sn, v_x_key] w0 (fun v w' => Keep w0 w' ∧ O_29 w' w0.heap.size v (F_spec_ChanNew x_role x_sn x_key)) := by
  obtain ⟨a1, c2, rfl, r3, s4⟩ := r_x_sn
  obtain ⟨a6, c7, rfl, r8, s9⟩ := r_x_key
  refine fn_of (n := 28) (l := [(.int .i64 x_role), (.slice a1 x_sn.length c2), (.slice a6 x_key.length c7), undef, undef, undef, undef, undef, undef, undef, undef, undef, undef, undef, undef, undef, undef, undef, undef, undef, undef, undef, undef, undef, undef, undef, undef, undef]) Try.func15 rfl rfl (by kernel_rfl) rfl ?_
  refine wc_seq ?_
  refine wc_region ?_
  refine wl_alloc (want_none rfl) (.agg #[(.int .i64 0), (.slice none 0 0), (.int .i64 0), (.slice none 0 0), (.int .i64 0), (.int .i64 0), (.slice none 0 0), (.int .i64 0), (.slice none 0 0), (.int .i64 0), (.int .i64 0), (.slice none 0 0), (.bool false), (.int .i64 0), (.slice none 0 0)]) [(.int .i64 0), (.slice none 0 0), (.int .i64 0), (.slice none 0 0), (.int .i64 0), (.int .i64 0), (.slice none 0 0), (.int .i64 0), (.slice none 0 0), (.int .i64 0), (.int .i64 0), (.slice none 0 0), (.bool false), (.int .i64 0), (.slice none 0 0)] zero_29 rfl rfl rfl rfl ?_
  intro g11 w1 p12 p13 k14 b15
  have m16 := (Ch.base w0).extk k14
  refine wl_nil ?_
  refine wq_then ?_
  refine wc_seq ?_
  refine wc_seq ?_
  refine wc_region ?_
  refine wl_mv (.int .i64 x_role) (want_none rfl) rfl rfl (.inl rfl) rfl ?_
  refine wl_call (want_none rfl) (args := #[(.int .i64 x_role), (.int .i64 0), (.int .i64 1)]) rfl rfl (by kernel_rfl) (C_spec_l1In w1 x_role 0 1) ?_
  rintro _ w2 ⟨k17, rfl⟩
  have m18 := m16.extk k17
  refine wl_pure (.bool (!(F_spec_l1In x_role 0 1))) (want_none rfl) rfl rfl (by kernel_rfl) ?_
  refine wl_mv (.bool (!(F_spec_l1In x_role 0 1))) (want_none rfl) rfl rfl (.inl rfl) rfl ?_
  rcases Bool.eq_false_or_eq_true (F_spec_l1In x_role 0 1) with h19 | h19
  · have q20 := spec_l1In_t h19
    refine wl_mv (.slice a1 x_sn.length c2) (want_some rfl rfl rfl (congrArg (fun b => Value.bool (!b)) h19)) rfl rfl (.inl rfl) rfl ?_
    refine wl_len (want_some rfl rfl rfl (congrArg (fun b => Value.bool (!b)) h19)) rfl rfl rfl slTy_22 rfl (r3.from0 m18) ?_
    refine wl_pure (.bool (!(decide ((x_sn.length : Int) = 12)))) (want_some rfl rfl rfl (congrArg (fun b => Value.bool (!b)) h19)) rfl rfl (by kernel_rfl) ?_
    refine wl_pick_f (.bool (!(decide ((x_sn.length : Int) = 12)))) (want_none rfl) rfl rfl rfl (congrArg (fun b => Value.bool (!b)) h19) rfl ?_
    refine wl_mv (.bool (!(decide ((x_sn.length : Int) = 12)))) (want_none rfl) rfl rfl (.inl rfl) rfl ?_
    rcases Bool.eq_false_or_eq_true (decide ((x_sn.length : Int) = 12)) with h21 | h21
    · have q22 := of_decide_eq_true h21
      refine wl_mv (.slice a6 x_key.length c7) (want_some rfl rfl rfl (congrArg (fun b => Value.bool (!b)) h21)) rfl rfl (.inl rfl) rfl ?_
      refine wl_len (want_some rfl rfl rfl (congrArg (fun b => Value.bool (!b)) h21)) rfl rfl rfl slTy_22 rfl (r8.from0 m18) ?_
      refine wl_pure (.bool (!(decide ((x_key.length : Int) = 32)))) (want_some rfl rfl rfl (congrArg (fun b => Value.bool (!b)) h21)) rfl rfl (by kernel_rfl) ?_
      refine wl_pick_f (.bool (!(decide ((x_key.length : Int) = 32)))) (want_none rfl) rfl rfl rfl (congrArg (fun b => Value.bool (!b)) h21) rfl ?_
      refine wl_nil ?_
      refine wq_then ?_
      rcases Bool.eq_false_or_eq_true (decide ((x_key.length : Int) = 32)) with h23 | h23
      · have q24 := of_decide_eq_true h23
        refine wc_false (congrArg (fun b => Value.bool (!b)) h23) ?_
        refine wc_skip ?_
        refine wq_then ?_
        refine wc_seq ?_
        refine wc_region ?_
        refine wl_mv (.int .i64 x_role) (want_none rfl) rfl rfl (.inl rfl) rfl ?_
        refine wl_lit0 (want_none rfl) rfl rfl slTy_22 (fun w => by kernel_rfl) ?_
        intro a25 w3 k26 o27
        have m28 := m18.extk k26
        refine wl_mv (.slice a1 x_sn.length c2) (want_none rfl) rfl rfl (.inl rfl) rfl ?_
        refine wl_append0 (want_none rfl) rfl rfl rfl slTy_22 rfl rfl o27 (r3.from0 m28) (all_bV _) (by (try simp only [List.length_append, List.length_cons, List.length_nil]); omega) (by simp only [maxLen]; (try simp only [List.length_append, List.length_cons, List.length_nil]); omega) k26.size ?_
        intro u30 w4 k31 o32 j33
        obtain ⟨a34, c35, rfl⟩ := own_form o32
        have n36 : New w3 a34 c35 := j33 _ _ rfl
        have m37 := m28.extk k31
        refine wl_mv (.slice a6 x_key.length c7) (want_none rfl) rfl rfl (.inl rfl) rfl ?_
        refine wl_call (want_none rfl) (args := #[(.int .i64 0), (.slice a6 x_key.length c7)]) rfl rfl (by kernel_rfl) (C_spec_EpNew w4 0 (.slice a6 x_key.length c7) x_key (show R_22 w4 (.slice a6 x_key.length c7) x_key from ⟨_, _, rfl, (r8.from0 m37), s9⟩)) ?_
        rintro _ w5 ⟨k39, ⟨a40, c41, a45, c46, rfl, o42, s43, o47, s48, ap50⟩⟩
        have m51 := m37.extk k39
        refine wl_pure (.agg #[(.int .i64 x_role), (.slice a34 x_sn.length c35), (.int .i64 ((F_spec_EpNew 0 x_key).N)), (.slice a40 ((F_spec_EpNew 0 x_key).Key).length c41), (.int .i64 ((F_spec_EpNew 0 x_key).Seq)), (.int .i64 (((F_spec_EpNew 0 x_key).Win).Top)), (.slice a45 (((F_spec_EpNew 0 x_key).Win).Bits).length c46), (.int .i64 0), (.slice none 0 0), (.int .i64 0), (.int .i64 0), (.slice none 0 0), (.bool false), (.int .i64 0), (.slice none 0 0)]) (want_none rfl) rfl rfl (by kernel_rfl) ?_
        have b52 := ((((b15.kp k17).kp k26).kp k31).kp k39)
        refine wl_store (.agg #[(.int .i64 x_role), (.slice a34 x_sn.length c35), (.int .i64 ((F_spec_EpNew 0 x_key).N)), (.slice a40 ((F_spec_EpNew 0 x_key).Key).length c41), (.int .i64 ((F_spec_EpNew 0 x_key).Seq)), (.int .i64 (((F_spec_EpNew 0 x_key).Win).Top)), (.slice a45 (((F_spec_EpNew 0 x_key).Win).Bits).length c46), (.int .i64 0), (.slice none 0 0), (.int .i64 0), (.int .i64 0), (.slice none 0 0), (.bool false), (.int .i64 0), (.slice none 0 0)]) [(.int .i64 x_role), (.slice a34 x_sn.length c35), (.int .i64 ((F_spec_EpNew 0 x_key).N)), (.slice a40 ((F_spec_EpNew 0 x_key).Key).length c41), (.int .i64 ((F_spec_EpNew 0 x_key).Seq)), (.int .i64 (((F_spec_EpNew 0 x_key).Win).Top)), (.slice a45 (((F_spec_EpNew 0 x_key).Win).Bits).length c46), (.int .i64 0), (.slice none 0 0), (.int .i64 0), (.int .i64 0), (.slice none 0 0), (.bool false), (.int .i64 0), (.slice none 0 0)] [(.int .i64 x_role), (.slice a34 x_sn.length c35), (.int .i64 ((F_spec_EpNew 0 x_key).N)), (.slice a40 ((F_spec_EpNew 0 x_key).Key).length c41), (.int .i64 ((F_spec_EpNew 0 x_key).Seq)), (.int .i64 (((F_spec_EpNew 0 x_key).Win).Top)), (.slice a45 (((F_spec_EpNew 0 x_key).Win).Bits).length c46), (.int .i64 0), (.slice none 0 0), (.int .i64 0), (.int .i64 0), (.slice none 0 0), (.bool false), (.int .i64 0), (.slice none 0 0)] (want_none rfl) rfl rfl rfl rfl rfl (one_cons rfl (one_cons rfl (one_cons rfl (one_cons rfl (one_cons rfl (one_cons rfl (one_cons rfl (one_cons rfl (one_cons rfl (one_cons rfl (one_cons rfl (one_cons rfl (one_cons rfl (one_cons rfl (one_cons rfl one_nil))))))))))))))) sizeOf_29 b52 rfl rfl ?_
        intro w6 k53 b54 z55
        have m56 := m51.ext k53 (fun k hk => by subst hk; exact Nat.le_trans (Nat.le_refl _) p12)
        refine wl_nil ?_
        refine wq_then ?_
        refine wc_ret ?_
        have o57 := (own_ch (own_kp o32 k39) k53 (fun g hg hlt hk => by have h1 := (own_lt o32 g hg).1; have h2 := Nat.lt_of_lt_of_le p13 k17.size; omega))
        have o58 := (own_ch o42 k53 (fun g hg hlt hk => by have h1 := (own_lt o42 g hg).1; have h2 := Nat.lt_of_lt_of_le p13 (Nat.le_trans (Nat.le_trans k17.size k26.size) k31.size); omega))
        have o59 := (own_ch o47 k53 (fun g hg hlt hk => by have h1 := (own_lt o47 g hg).1; have h2 := Nat.lt_of_lt_of_le p13 (Nat.le_trans (Nat.le_trans k17.size k26.size) k31.size); omega))
        refine ret_1 (.inl rfl) (.agg #[(.int .i64 x_role), (.slice a34 x_sn.length c35), (.int .i64 ((F_spec_EpNew 0 x_key).N)), (.slice a40 ((F_spec_EpNew 0 x_key).Key).length c41), (.int .i64 ((F_spec_EpNew 0 x_key).Seq)), (.int .i64 (((F_spec_EpNew 0 x_key).Win).Top)), (.slice a45 (((F_spec_EpNew 0 x_key).Win).Bits).length c46), (.int .i64 0), (.slice none 0 0), (.int .i64 0), (.int .i64 0), (.slice none 0 0), (.bool false), (.int .i64 0), (.slice none 0 0)]) rfl (rv_c [(.int .i64 x_role), (.slice a34 x_sn.length c35), (.int .i64 ((F_spec_EpNew 0 x_key).N)), (.slice a40 ((F_spec_EpNew 0 x_key).Key).length c41), (.int .i64 ((F_spec_EpNew 0 x_key).Seq)), (.int .i64 (((F_spec_EpNew 0 x_key).Win).Top)), (.slice a45 (((F_spec_EpNew 0 x_key).Win).Bits).length c46), (.int .i64 0), (.slice none 0 0), (.int .i64 0), (.int .i64 0), (.slice none 0 0), (.bool false), (.int .i64 0), (.slice none 0 0)] rfl b54 isAgg_29 sizeOf_29) ?_
        refine ⟨m56.keep0, ?_⟩
        have hF60 : F_spec_ChanNew x_role x_sn x_key = { Role := x_role, Sn := x_sn, Cur := (F_spec_EpNew 0 x_key), Old := { N := 0, Key := [], Seq := 0, Win := { Top := 0, Bits := [] : PWin } : PEp }, HasOld := false, Until := 0, Next := [] : PChan } := by simp only [F_spec_ChanNew, h19, h21, h23, cond_true, cond_false]
        rw [hF60]
        exact ⟨_, _, _, _, _, _, _, _, _, _, _, _, rfl, (own_lo o57 (Nat.le_trans k14.size k17.size)), s4, (own_lo o58 (Nat.le_trans (Nat.le_trans (Nat.le_trans k14.size k17.size) k26.size) k31.size)), s43, (own_lo o59 (Nat.le_trans (Nat.le_trans (Nat.le_trans k14.size k17.size) k26.size) k31.size)), s48, (own_nil _ _ _ _), (by simp), (own_nil _ _ _ _), (by simp), (own_nil _ _ _ _), (by simp), ⟨⟨(Ap.lt o32 o42 (Nat.le_refl _)), ⟨(Ap.lt o32 o47 (Nat.le_refl _)), ⟨(Ap.nr _), ⟨(Ap.nr _), ⟨(Ap.nr _), trivial⟩⟩⟩⟩⟩, ⟨⟨(ap50.1.1), ⟨(Ap.nr _), ⟨(Ap.nr _), ⟨(Ap.nr _), trivial⟩⟩⟩⟩, ⟨⟨(Ap.nr _), ⟨(Ap.nr _), ⟨(Ap.nr _), trivial⟩⟩⟩, ⟨⟨(Ap.nl _), ⟨(Ap.nl _), trivial⟩⟩, ⟨⟨(Ap.nl _), trivial⟩, ⟨trivial, trivial⟩⟩⟩⟩⟩⟩⟩
      · have q61 := of_decide_eq_false h23
        refine wc_true (congrArg (fun b => Value.bool (!b)) h23) ?_
        refine wc_seq ?_
        refine wc_region ?_
        refine wl_pure (.agg #[(.int .i64 0), (.slice none 0 0), (.int .i64 0), (.slice none 0 0), (.int .i64 0), (.int .i64 0), (.slice none 0 0), (.int .i64 0), (.slice none 0 0), (.int .i64 0), (.int .i64 0), (.slice none 0 0), (.bool false), (.int .i64 0), (.slice none 0 0)]) (want_none rfl) rfl rfl (by kernel_rfl) ?_
        have b62 := (b15.kp k17)
        refine wl_store (.agg #[(.int .i64 0), (.slice none 0 0), (.int .i64 0), (.slice none 0 0), (.int .i64 0), (.int .i64 0), (.slice none 0 0), (.int .i64 0), (.slice none 0 0), (.int .i64 0), (.int .i64 0), (.slice none 0 0), (.bool false), (.int .i64 0), (.slice none 0 0)]) [(.int .i64 0), (.slice none 0 0), (.int .i64 0), (.slice none 0 0), (.int .i64 0), (.int .i64 0), (.slice none 0 0), (.int .i64 0), (.slice none 0 0), (.int .i64 0), (.int .i64 0), (.slice none 0 0), (.bool false), (.int .i64 0), (.slice none 0 0)] [(.int .i64 0), (.slice none 0 0), (.int .i64 0), (.slice none 0 0), (.int .i64 0), (.int .i64 0), (.slice none 0 0), (.int .i64 0), (.slice none 0 0), (.int .i64 0), (.int .i64 0), (.slice none 0 0), (.bool false), (.int .i64 0), (.slice none 0 0)] (want_none rfl) rfl rfl rfl rfl rfl (one_cons rfl (one_cons rfl (one_cons rfl (one_cons rfl (one_cons rfl (one_cons rfl (one_cons rfl (one_cons rfl (one_cons rfl (one_cons rfl (one_cons rfl (one_cons rfl (one_cons rfl (one_cons rfl (one_cons rfl one_nil))))))))))))))) sizeOf_29 b62 rfl rfl ?_
        intro w3 k63 b64 z65
        have m66 := m18.ext k63 (fun k hk => by subst hk; exact Nat.le_trans (Nat.le_refl _) p12)
        refine wl_nil ?_
        refine wq_then ?_
        refine wc_ret ?_
        refine wq_then_ret ?_
        refine ret_1 (.inl rfl) (.agg #[(.int .i64 0), (.slice none 0 0), (.int .i64 0), (.slice none 0 0), (.int .i64 0), (.int .i64 0), (.slice none 0 0), (.int .i64 0), (.slice none 0 0), (.int .i64 0), (.int .i64 0), (.slice none 0 0), (.bool false), (.int .i64 0), (.slice none 0 0)]) rfl (rv_c [(.int .i64 0), (.slice none 0 0), (.int .i64 0), (.slice none 0 0), (.int .i64 0), (.int .i64 0), (.slice none 0 0), (.int .i64 0), (.slice none 0 0), (.int .i64 0), (.int .i64 0), (.slice none 0 0), (.bool false), (.int .i64 0), (.slice none 0 0)] rfl b64 isAgg_29 sizeOf_29) ?_
        refine ⟨m66.keep0, ?_⟩
        have hF67 : F_spec_ChanNew x_role x_sn x_key = { Role := 0, Sn := [], Cur := { N := 0, Key := [], Seq := 0, Win := { Top := 0, Bits := [] : PWin } : PEp }, Old := { N := 0, Key := [], Seq := 0, Win := { Top := 0, Bits := [] : PWin } : PEp }, HasOld := false, Until := 0, Next := [] : PChan } := by simp only [F_spec_ChanNew, h19, h21, h23, cond_true, cond_false]
        rw [hF67]
        exact ⟨_, _, _, _, _, _, _, _, _, _, _, _, rfl, (own_nil _ _ _ _), (by simp), (own_nil _ _ _ _), (by simp), (own_nil _ _ _ _), (by simp), (own_nil _ _ _ _), (by simp), (own_nil _ _ _ _), (by simp), (own_nil _ _ _ _), (by simp), ⟨⟨(Ap.nl _), ⟨(Ap.nl _), ⟨(Ap.nl _), ⟨(Ap.nl _), ⟨(Ap.nl _), trivial⟩⟩⟩⟩⟩, ⟨⟨(Ap.nl _), ⟨(Ap.nl _), ⟨(Ap.nl _), ⟨(Ap.nl _), trivial⟩⟩⟩⟩, ⟨⟨(Ap.nl _), ⟨(Ap.nl _), ⟨(Ap.nl _), trivial⟩⟩⟩, ⟨⟨(Ap.nl _), ⟨(Ap.nl _), trivial⟩⟩, ⟨⟨(Ap.nl _), trivial⟩, ⟨trivial, trivial⟩⟩⟩⟩⟩⟩⟩
    · have q68 := of_decide_eq_false h21
      refine wl_skip rfl rfl rfl (congrArg (fun b => Value.bool (!b)) h21) rfl rfl rfl ?_
      refine wl_skip rfl rfl rfl (congrArg (fun b => Value.bool (!b)) h21) rfl rfl rfl ?_
      refine wl_skip rfl rfl rfl (congrArg (fun b => Value.bool (!b)) h21) rfl rfl rfl ?_
      refine wl_pick_t (.bool true) (want_none rfl) rfl rfl rfl (congrArg (fun b => Value.bool (!b)) h21) rfl ?_
      refine wl_nil ?_
      refine wq_then ?_
      refine wc_true rfl ?_
      refine wc_seq ?_
      refine wc_region ?_
      refine wl_pure (.agg #[(.int .i64 0), (.slice none 0 0), (.int .i64 0), (.slice none 0 0), (.int .i64 0), (.int .i64 0), (.slice none 0 0), (.int .i64 0), (.slice none 0 0), (.int .i64 0), (.int .i64 0), (.slice none 0 0), (.bool false), (.int .i64 0), (.slice none 0 0)]) (want_none rfl) rfl rfl (by kernel_rfl) ?_
      have b69 := (b15.kp k17)
      refine wl_store (.agg #[(.int .i64 0), (.slice none 0 0), (.int .i64 0), (.slice none 0 0), (.int .i64 0), (.int .i64 0), (.slice none 0 0), (.int .i64 0), (.slice none 0 0), (.int .i64 0), (.int .i64 0), (.slice none 0 0), (.bool false), (.int .i64 0), (.slice none 0 0)]) [(.int .i64 0), (.slice none 0 0), (.int .i64 0), (.slice none 0 0), (.int .i64 0), (.int .i64 0), (.slice none 0 0), (.int .i64 0), (.slice none 0 0), (.int .i64 0), (.int .i64 0), (.slice none 0 0), (.bool false), (.int .i64 0), (.slice none 0 0)] [(.int .i64 0), (.slice none 0 0), (.int .i64 0), (.slice none 0 0), (.int .i64 0), (.int .i64 0), (.slice none 0 0), (.int .i64 0), (.slice none 0 0), (.int .i64 0), (.int .i64 0), (.slice none 0 0), (.bool false), (.int .i64 0), (.slice none 0 0)] (want_none rfl) rfl rfl rfl rfl rfl (one_cons rfl (one_cons rfl (one_cons rfl (one_cons rfl (one_cons rfl (one_cons rfl (one_cons rfl (one_cons rfl (one_cons rfl (one_cons rfl (one_cons rfl (one_cons rfl (one_cons rfl (one_cons rfl (one_cons rfl one_nil))))))))))))))) sizeOf_29 b69 rfl rfl ?_
      intro w3 k70 b71 z72
      have m73 := m18.ext k70 (fun k hk => by subst hk; exact Nat.le_trans (Nat.le_refl _) p12)
      refine wl_nil ?_
      refine wq_then ?_
      refine wc_ret ?_
      refine wq_then_ret ?_
      refine ret_1 (.inl rfl) (.agg #[(.int .i64 0), (.slice none 0 0), (.int .i64 0), (.slice none 0 0), (.int .i64 0), (.int .i64 0), (.slice none 0 0), (.int .i64 0), (.slice none 0 0), (.int .i64 0), (.int .i64 0), (.slice none 0 0), (.bool false), (.int .i64 0), (.slice none 0 0)]) rfl (rv_c [(.int .i64 0), (.slice none 0 0), (.int .i64 0), (.slice none 0 0), (.int .i64 0), (.int .i64 0), (.slice none 0 0), (.int .i64 0), (.slice none 0 0), (.int .i64 0), (.int .i64 0), (.slice none 0 0), (.bool false), (.int .i64 0), (.slice none 0 0)] rfl b71 isAgg_29 sizeOf_29) ?_
      refine ⟨m73.keep0, ?_⟩
      have hF74 : F_spec_ChanNew x_role x_sn x_key = { Role := 0, Sn := [], Cur := { N := 0, Key := [], Seq := 0, Win := { Top := 0, Bits := [] : PWin } : PEp }, Old := { N := 0, Key := [], Seq := 0, Win := { Top := 0, Bits := [] : PWin } : PEp }, HasOld := false, Until := 0, Next := [] : PChan } := by simp only [F_spec_ChanNew, h19, h21, cond_true, cond_false]
      rw [hF74]
      exact ⟨_, _, _, _, _, _, _, _, _, _, _, _, rfl, (own_nil _ _ _ _), (by simp), (own_nil _ _ _ _), (by simp), (own_nil _ _ _ _), (by simp), (own_nil _ _ _ _), (by simp), (own_nil _ _ _ _), (by simp), (own_nil _ _ _ _), (by simp), ⟨⟨(Ap.nl _), ⟨(Ap.nl _), ⟨(Ap.nl _), ⟨(Ap.nl _), ⟨(Ap.nl _), trivial⟩⟩⟩⟩⟩, ⟨⟨(Ap.nl _), ⟨(Ap.nl _), ⟨(Ap.nl _), ⟨(Ap.nl _), trivial⟩⟩⟩⟩, ⟨⟨(Ap.nl _), ⟨(Ap.nl _), ⟨(Ap.nl _), trivial⟩⟩⟩, ⟨⟨(Ap.nl _), ⟨(Ap.nl _), trivial⟩⟩, ⟨⟨(Ap.nl _), trivial⟩, ⟨trivial, trivial⟩⟩⟩⟩⟩⟩⟩
  · have q75 := spec_l1In_f h19
    refine wl_skip rfl rfl rfl (congrArg (fun b => Value.bool (!b)) h19) rfl rfl rfl ?_
    refine wl_skip rfl rfl rfl (congrArg (fun b => Value.bool (!b)) h19) rfl rfl rfl ?_
    refine wl_skip rfl rfl rfl (congrArg (fun b => Value.bool (!b)) h19) rfl rfl rfl ?_
    refine wl_pick_t (.bool true) (want_none rfl) rfl rfl rfl (congrArg (fun b => Value.bool (!b)) h19) rfl ?_
    refine wl_mv (.bool true) (want_none rfl) rfl rfl (.inl rfl) rfl ?_
    refine wl_skip rfl rfl rfl rfl rfl rfl rfl ?_
    refine wl_skip rfl rfl rfl rfl rfl rfl rfl ?_
    refine wl_skip rfl rfl rfl rfl rfl rfl rfl ?_
    refine wl_pick_t (.bool true) (want_none rfl) rfl rfl rfl rfl rfl ?_
    refine wl_nil ?_
    refine wq_then ?_
    refine wc_true rfl ?_
    refine wc_seq ?_
    refine wc_region ?_
    refine wl_pure (.agg #[(.int .i64 0), (.slice none 0 0), (.int .i64 0), (.slice none 0 0), (.int .i64 0), (.int .i64 0), (.slice none 0 0), (.int .i64 0), (.slice none 0 0), (.int .i64 0), (.int .i64 0), (.slice none 0 0), (.bool false), (.int .i64 0), (.slice none 0 0)]) (want_none rfl) rfl rfl (by kernel_rfl) ?_
    have b76 := (b15.kp k17)
    refine wl_store (.agg #[(.int .i64 0), (.slice none 0 0), (.int .i64 0), (.slice none 0 0), (.int .i64 0), (.int .i64 0), (.slice none 0 0), (.int .i64 0), (.slice none 0 0), (.int .i64 0), (.int .i64 0), (.slice none 0 0), (.bool false), (.int .i64 0), (.slice none 0 0)]) [(.int .i64 0), (.slice none 0 0), (.int .i64 0), (.slice none 0 0), (.int .i64 0), (.int .i64 0), (.slice none 0 0), (.int .i64 0), (.slice none 0 0), (.int .i64 0), (.int .i64 0), (.slice none 0 0), (.bool false), (.int .i64 0), (.slice none 0 0)] [(.int .i64 0), (.slice none 0 0), (.int .i64 0), (.slice none 0 0), (.int .i64 0), (.int .i64 0), (.slice none 0 0), (.int .i64 0), (.slice none 0 0), (.int .i64 0), (.int .i64 0), (.slice none 0 0), (.bool false), (.int .i64 0), (.slice none 0 0)] (want_none rfl) rfl rfl rfl rfl rfl (one_cons rfl (one_cons rfl (one_cons rfl (one_cons rfl (one_cons rfl (one_cons rfl (one_cons rfl (one_cons rfl (one_cons rfl (one_cons rfl (one_cons rfl (one_cons rfl (one_cons rfl (one_cons rfl (one_cons rfl one_nil))))))))))))))) sizeOf_29 b76 rfl rfl ?_
    intro w3 k77 b78 z79
    have m80 := m18.ext k77 (fun k hk => by subst hk; exact Nat.le_trans (Nat.le_refl _) p12)
    refine wl_nil ?_
    refine wq_then ?_
    refine wc_ret ?_
    refine wq_then_ret ?_
    refine ret_1 (.inl rfl) (.agg #[(.int .i64 0), (.slice none 0 0), (.int .i64 0), (.slice none 0 0), (.int .i64 0), (.int .i64 0), (.slice none 0 0), (.int .i64 0), (.slice none 0 0), (.int .i64 0), (.int .i64 0), (.slice none 0 0), (.bool false), (.int .i64 0), (.slice none 0 0)]) rfl (rv_c [(.int .i64 0), (.slice none 0 0), (.int .i64 0), (.slice none 0 0), (.int .i64 0), (.int .i64 0), (.slice none 0 0), (.int .i64 0), (.slice none 0 0), (.int .i64 0), (.int .i64 0), (.slice none 0 0), (.bool false), (.int .i64 0), (.slice none 0 0)] rfl b78 isAgg_29 sizeOf_29) ?_
    refine ⟨m80.keep0, ?_⟩
    have hF81 : F_spec_ChanNew x_role x_sn x_key = { Role := 0, Sn := [], Cur := { N := 0, Key := [], Seq := 0, Win := { Top := 0, Bits := [] : PWin } : PEp }, Old := { N := 0, Key := [], Seq := 0, Win := { Top := 0, Bits := [] : PWin } : PEp }, HasOld := false, Until := 0, Next := [] : PChan } := by simp only [F_spec_ChanNew, h19, cond_true, cond_false]
    rw [hF81]
    exact ⟨_, _, _, _, _, _, _, _, _, _, _, _, rfl, (own_nil _ _ _ _), (by simp), (own_nil _ _ _ _), (by simp), (own_nil _ _ _ _), (by simp), (own_nil _ _ _ _), (by simp), (own_nil _ _ _ _), (by simp), (own_nil _ _ _ _), (by simp), ⟨⟨(Ap.nl _), ⟨(Ap.nl _), ⟨(Ap.nl _), ⟨(Ap.nl _), ⟨(Ap.nl _), trivial⟩⟩⟩⟩⟩, ⟨⟨(Ap.nl _), ⟨(Ap.nl _), ⟨(Ap.nl _), ⟨(Ap.nl _), trivial⟩⟩⟩⟩, ⟨⟨(Ap.nl _), ⟨(Ap.nl _), ⟨(Ap.nl _), trivial⟩⟩⟩, ⟨⟨(Ap.nl _), ⟨(Ap.nl _), trivial⟩⟩, ⟨⟨(Ap.nl _), trivial⟩, ⟨trivial, trivial⟩⟩⟩⟩⟩⟩⟩

def F_impl_isRole (x_role : Int) : (Bool) := bif (decide (x_role = 0)) then (true) else (decide (x_role = 1))
theorem C_impl_isRole (w0 : World) (x_role : Int)  : Fn Try.prog 67 #[(.int .i64 x_role)] w0 (fun v w' => Keep w0 w' ∧ O_4 w' w0.heap.size v (F_impl_isRole x_role)) := by
  refine fn_of (n := 9) (l := [(.int .i64 x_role), undef, undef, undef, undef, undef, undef, undef, undef]) Try.func67 rfl rfl (by kernel_rfl) rfl ?_
  refine wc_seq ?_
  refine wc_region ?_
  refine wl_mv (.bool false) (want_none rfl) rfl rfl (.inr rfl) rfl ?_
  refine wl_nil ?_
  refine wq_then ?_
  refine wc_seq ?_
  refine wc_region ?_
  refine wl_mv (.int .i64 x_role) (want_none rfl) rfl rfl (.inl rfl) rfl ?_
  refine wl_pure (.bool (decide (x_role = 0))) (want_none rfl) rfl rfl (by kernel_rfl) ?_
  refine wl_mv (.bool (decide (x_role = 0))) (want_none rfl) rfl rfl (.inl rfl) rfl ?_
  rcases Bool.eq_false_or_eq_true (decide (x_role = 0)) with h1 | h1
  · have q2 := of_decide_eq_true h1
    refine wl_skip rfl rfl rfl (congrArg Value.bool h1) rfl rfl rfl ?_
    refine wl_skip rfl rfl rfl (congrArg Value.bool h1) rfl rfl rfl ?_
    refine wl_pick_t (.bool true) (want_none rfl) rfl rfl rfl (congrArg Value.bool h1) rfl ?_
    refine wl_mv (.bool true) (want_none rfl) rfl rfl (.inr rfl) rfl ?_
    refine wl_nil ?_
    refine wq_then ?_
    refine wc_ret ?_
    refine ret_1 (.inl rfl) (.bool true) rfl rfl ?_
    refine ⟨Ch.refl _ _, ?_⟩
    have hF3 : F_impl_isRole x_role = true := by simp only [F_impl_isRole, h1, cond_true, cond_false]
    rw [hF3]
    exact rfl
  · have q4 := of_decide_eq_false h1
    refine wl_mv (.int .i64 x_role) (want_some rfl rfl rfl (congrArg Value.bool h1)) rfl rfl (.inl rfl) rfl ?_
    refine wl_pure (.bool (decide (x_role = 1))) (want_some rfl rfl rfl (congrArg Value.bool h1)) rfl rfl (by kernel_rfl) ?_
    refine wl_pick_f (.bool (decide (x_role = 1))) (want_none rfl) rfl rfl rfl (congrArg Value.bool h1) rfl ?_
    refine wl_mv (.bool (decide (x_role = 1))) (want_none rfl) rfl rfl (.inr rfl) rfl ?_
    refine wl_nil ?_
    refine wq_then ?_
    refine wc_ret ?_
    refine ret_1 (.inl rfl) (.bool (decide (x_role = 1))) rfl rfl ?_
    refine ⟨Ch.refl _ _, ?_⟩
    have hF5 : F_impl_isRole x_role = decide (x_role = 1) := by simp only [F_impl_isRole, h1, cond_true, cond_false]
    rw [hF5]
    exact rfl

def F_impl_isNonce (x_b : List UInt8) : (Bool) := decide ((x_b.length : Int) = 12)
theorem C_impl_isNonce (w0 : World) (v_x_b : Value) (x_b : List UInt8) (r_x_b : R_22 w0 v_x_b x_b)  : Fn Try.prog 68 #[v_x_b] w0 (fun v w' => Keep w0 w' ∧ O_4 w' w0.heap.size v (F_impl_isNonce x_b)) := by
  obtain ⟨a1, c2, rfl, r3, s4⟩ := r_x_b
  refine fn_of (n := 6) (l := [(.slice a1 x_b.length c2), undef, undef, undef, undef, undef]) Try.func68 rfl rfl (by kernel_rfl) rfl ?_
  refine wc_seq ?_
  refine wc_region ?_
  refine wl_mv (.bool false) (want_none rfl) rfl rfl (.inr rfl) rfl ?_
  refine wl_nil ?_
  refine wq_then ?_
  refine wc_seq ?_
  refine wc_region ?_
  refine wl_mv (.slice a1 x_b.length c2) (want_none rfl) rfl rfl (.inl rfl) rfl ?_
  refine wl_len (want_none rfl) rfl rfl rfl slTy_22 rfl r3 ?_
  refine wl_pure (.bool (decide ((x_b.length : Int) = 12))) (want_none rfl) rfl rfl (by kernel_rfl) ?_
  refine wl_mv (.bool (decide ((x_b.length : Int) = 12))) (want_none rfl) rfl rfl (.inr rfl) rfl ?_
  refine wl_nil ?_
  refine wq_then ?_
  refine wc_ret ?_
  refine ret_1 (.inl rfl) (.bool (decide ((x_b.length : Int) = 12))) rfl rfl ?_
  refine ⟨Ch.refl _ _, ?_⟩
  have hF6 : F_impl_isNonce x_b = decide ((x_b.length : Int) = 12) := by rfl
  rw [hF6]
  exact rfl

def F_impl_clone (x_b : List UInt8) : (List UInt8) := x_b
theorem C_impl_clone (w0 : World) (v_x_b : Value) (x_b : List UInt8) (r_x_b : R_22 w0 v_x_b x_b)  : Fn Try.prog 69 #[v_x_b] w0 (fun v w' => Keep w0 w' ∧ O_22 w' w0.heap.size v (F_impl_clone x_b)) := by
  obtain ⟨a1, c2, rfl, r3, s4⟩ := r_x_b
  refine fn_of (n := 6) (l := [(.slice a1 x_b.length c2), undef, undef, undef, undef, undef]) Try.func69 rfl rfl (by kernel_rfl) rfl ?_
  refine wc_seq ?_
  refine wc_region ?_
  refine wl_mv (.slice none 0 0) (want_none rfl) rfl rfl (.inr rfl) rfl ?_
  refine wl_nil ?_
  refine wq_then ?_
  refine wc_seq ?_
  refine wc_region ?_
  refine wl_lit0 (want_none rfl) rfl rfl slTy_22 (fun w => by kernel_rfl) ?_
  intro a6 w1 k7 o8
  have m9 := (Ch.base w0).extk k7
  refine wl_mv (.slice a1 x_b.length c2) (want_none rfl) rfl rfl (.inl rfl) rfl ?_
  refine wl_append0 (want_none rfl) rfl rfl rfl slTy_22 rfl rfl o8 (r3.from0 m9) (all_bV _) (by (try simp only [List.length_append, List.length_cons, List.length_nil]); omega) (by simp only [maxLen]; (try simp only [List.length_append, List.length_cons, List.length_nil]); omega) k7.size ?_
  intro u11 w2 k12 o13 j14
  obtain ⟨a15, c16, rfl⟩ := own_form o13
  have n17 : New w1 a15 c16 := j14 _ _ rfl
  have m18 := m9.extk k12
  refine wl_mv (.slice a15 x_b.length c16) (want_none rfl) rfl rfl (.inr rfl) rfl ?_
  refine wl_nil ?_
  refine wq_then ?_
  refine wc_ret ?_
  refine ret_1 (.inl rfl) (.slice a15 x_b.length c16) rfl rfl ?_
  refine ⟨m18.keep0, ?_⟩
  have hF20 : F_impl_clone x_b = x_b := by rfl
  rw [hF20]
  exact ⟨_, _, rfl, o13, s4, ⟨trivial, trivial⟩⟩

def F_impl_within (x_n : Int) (x_low : Int) (x_high : Int) : (Bool) := bif (decide (x_low ≤ x_n)) then (decide (x_n ≤ x_high)) else (false)
theorem C_impl_within (w0 : World) (x_n : Int) (x_low : Int) (x_high : Int)  : Fn Try.prog 83 #[(.int .i64 x_n), (.int .i64 x_low), (.int .i64 x_high)] w0 (fun v w' => Keep w0 w' ∧ O_4 w' w0.heap.size v (F_impl_within x_n x_low x_high)) := by
  refine fn_of (n := 15) (l := [(.int .i64 x_n), (.int .i64 x_low), (.int .i64 x_high), undef, undef, undef, undef, undef, undef, undef, undef, undef, undef, undef, undef]) Try.func83 rfl rfl (by kernel_rfl) rfl ?_
  refine wc_seq ?_
  refine wc_region ?_
  refine wl_mv (.bool false) (want_none rfl) rfl rfl (.inr rfl) rfl ?_
  refine wl_nil ?_
  refine wq_then ?_
  refine wc_seq ?_
  refine wc_region ?_
  refine wl_mv (.int .i64 x_n) (want_none rfl) rfl rfl (.inl rfl) rfl ?_
  refine wl_mv (.int .i64 x_low) (want_none rfl) rfl rfl (.inl rfl) rfl ?_
  refine wl_pure (.bool (decide (x_low ≤ x_n))) (want_none rfl) rfl rfl (by kernel_rfl) ?_
  refine wl_mv (.bool (decide (x_low ≤ x_n))) (want_none rfl) rfl rfl (.inl rfl) rfl ?_
  rcases Bool.eq_false_or_eq_true (decide (x_low ≤ x_n)) with h1 | h1
  · have q2 := of_decide_eq_true h1
    refine wl_mv (.int .i64 x_n) (want_some rfl rfl rfl (congrArg Value.bool h1)) rfl rfl (.inl rfl) rfl ?_
    refine wl_mv (.int .i64 x_high) (want_some rfl rfl rfl (congrArg Value.bool h1)) rfl rfl (.inl rfl) rfl ?_
    refine wl_pure (.bool (decide (x_n ≤ x_high))) (want_some rfl rfl rfl (congrArg Value.bool h1)) rfl rfl (by kernel_rfl) ?_
    refine wl_pick_t (.bool (decide (x_n ≤ x_high))) (want_none rfl) rfl rfl rfl (congrArg Value.bool h1) rfl ?_
    refine wl_mv (.bool (decide (x_n ≤ x_high))) (want_none rfl) rfl rfl (.inr rfl) rfl ?_
    refine wl_nil ?_
    refine wq_then ?_
    refine wc_ret ?_
    refine ret_1 (.inl rfl) (.bool (decide (x_n ≤ x_high))) rfl rfl ?_
    refine ⟨Ch.refl _ _, ?_⟩
    have hF3 : F_impl_within x_n x_low x_high = decide (x_n ≤ x_high) := by simp only [F_impl_within, h1, cond_true, cond_false]
    rw [hF3]
    exact rfl
  · have q4 := of_decide_eq_false h1
    refine wl_skip rfl rfl rfl (congrArg Value.bool h1) rfl rfl rfl ?_
    refine wl_skip rfl rfl rfl (congrArg Value.bool h1) rfl rfl rfl ?_
    refine wl_skip rfl rfl rfl (congrArg Value.bool h1) rfl rfl rfl ?_
    refine wl_pick_f (.bool false) (want_none rfl) rfl rfl rfl (congrArg Value.bool h1) rfl ?_
    refine wl_mv (.bool false) (want_none rfl) rfl rfl (.inr rfl) rfl ?_
    refine wl_nil ?_
    refine wq_then ?_
    refine wc_ret ?_
    refine ret_1 (.inl rfl) (.bool false) rfl rfl ?_
    refine ⟨Ch.refl _ _, ?_⟩
    have hF5 : F_impl_within x_n x_low x_high = false := by simp only [F_impl_within, h1, cond_true, cond_false]
    rw [hF5]
    exact rfl
theorem impl_within_t {n a b : Int} (h : F_impl_within n a b = true) : a ≤ n ∧ n ≤ b := by
  unfold F_impl_within at h
  by_cases h1 : a ≤ n <;> simp [h1] at h
  exact ⟨h1, h⟩
theorem impl_within_f {n a b : Int} (h : F_impl_within n a b = false) : n < a ∨ b < n := by
  unfold F_impl_within at h
  by_cases h1 : a ≤ n <;> simp [h1] at h <;> omega

def F_impl_WinNew  : (PWin) := { Top := (-1), Bits := (List.replicate 32 (0 : Int)) : PWin }
theorem C_impl_WinNew (w0 : World)   : Fn Try.prog 104 #[] w0 (fun v w' => Keep w0 w' ∧ O_25 w' w0.heap.size v (F_impl_WinNew)) := by
  refine fn_of (n := 3) (l := [undef, undef, undef]) Try.func104 rfl rfl (by kernel_rfl) rfl ?_
  refine wc_seq ?_
  refine wc_region ?_
  refine wl_alloc (want_none rfl) (.agg #[(.int .i64 0), (.slice none 0 0)]) [(.int .i64 0), (.slice none 0 0)] zero_25 rfl rfl rfl rfl ?_
  intro g1 w1 p2 p3 k4 b5
  have m6 := (Ch.base w0).extk k4
  refine wl_nil ?_
  refine wq_then ?_
  refine wc_seq ?_
  refine wc_region ?_
  refine wl_makeI (32) (want_none rfl) rfl rfl rfl slTy_23 32 rfl (by omega) (by (try simp only [List.length_append, List.length_cons, List.length_nil]); omega) (by (try simp only [List.length_append, List.length_cons, List.length_nil]); omega) ?_
  intro a7 c8 w2 k9 o10
  have m11 := m6.extk k9
  refine wl_pure (.agg #[(.int .i64 (-1)), (.slice a7 (List.replicate 32 (0 : Int)).length c8)]) (want_none rfl) rfl rfl (by kernel_rfl) ?_
  have b13 := (b5.kp k9)
  refine wl_store (.agg #[(.int .i64 (-1)), (.slice a7 (List.replicate 32 (0 : Int)).length c8)]) [(.int .i64 (-1)), (.slice a7 (List.replicate 32 (0 : Int)).length c8)] [(.int .i64 (-1)), (.slice a7 (List.replicate 32 (0 : Int)).length c8)] (want_none rfl) rfl rfl rfl rfl rfl (one_cons rfl (one_cons rfl one_nil)) sizeOf_25 b13 rfl rfl ?_
  intro w3 k14 b15 z16
  have m17 := m11.ext k14 (fun k hk => by subst hk; exact Nat.le_trans (Nat.le_refl _) p2)
  refine wl_nil ?_
  refine wq_then ?_
  refine wc_ret ?_
  have o18 := (own_ch o10 k14 (fun g hg hlt hk => by have h1 := (own_lt o10 g hg).1; have h2 := Nat.lt_of_lt_of_le p3 (Nat.le_refl _); omega))
  refine ret_1 (.inl rfl) (.agg #[(.int .i64 (-1)), (.slice a7 (List.replicate 32 (0 : Int)).length c8)]) rfl (rv_c [(.int .i64 (-1)), (.slice a7 (List.replicate 32 (0 : Int)).length c8)] rfl b15 isAgg_25 sizeOf_25) ?_
  refine ⟨m17.keep0, ?_⟩
  have hF19 : F_impl_WinNew = { Top := (-1), Bits := (List.replicate 32 (0 : Int)) : PWin } := by rfl
  rw [hF19]
  exact ⟨_, _, rfl, (own_lo o18 k4.size), (by rw [List.length_replicate]; first | assumption | omega), ⟨trivial, trivial⟩⟩

def F_impl_EpNew (x_n : Int) (x_key : List UInt8) : (PEp) := bif (F_impl_within x_n 0 4294967295) then (bif (decide ((x_key.length : Int) = 32)) then ({ N := x_n, Key := (F_impl_clone x_key), Seq := 0, Win := (F_impl_WinNew) : PEp }) else ({ N := 0, Key := [], Seq := 0, Win := { Top := 0, Bits := [] : PWin } : PEp })) else ({ N := 0, Key := [], Seq := 0, Win := { Top := 0, Bits := [] : PWin } : PEp })
theorem C_impl_EpNew (w0 : World) (x_n : Int) (v_x_key : Value) (x_key : List UInt8) (r_x_key : R_22 w0 v_x_key x_key)  : Fn Try.prog 70 #[(.int .i64 x_n), v_x_key] w0 (fun v w' => Keep w0 w' ∧ O_27 w' w0.heap.size v (F_impl_EpNew x_n x_key)) := by
  obtain ⟨a1, c2, rfl, r3, s4⟩ := r_x_key
  refine fn_of (n := 19) (l := [(.int .i64 x_n), (.slice a1 x_key.length c2), undef, undef, undef, undef, undef, undef, undef, undef, undef, undef, undef, undef, undef, undef, undef, undef, undef]) Try.func70 rfl rfl (by kernel_rfl) rfl ?_
  refine wc_seq ?_
  refine wc_region ?_
  refine wl_alloc (want_none rfl) (.agg #[(.int .i64 0), (.slice none 0 0), (.int .i64 0), (.int .i64 0), (.slice none 0 0)]) [(.int .i64 0), (.slice none 0 0), (.int .i64 0), (.int .i64 0), (.slice none 0 0)] zero_27 rfl rfl rfl rfl ?_
  intro g6 w1 p7 p8 k9 b10
  have m11 := (Ch.base w0).extk k9
  refine wl_nil ?_
  refine wq_then ?_
  refine wc_seq ?_
  refine wc_seq ?_
  refine wc_region ?_
  refine wl_mv (.int .i64 x_n) (want_none rfl) rfl rfl (.inl rfl) rfl ?_
  refine wl_call (want_none rfl) (args := #[(.int .i64 x_n), (.int .i64 0), (.int .i64 4294967295)]) rfl rfl (by kernel_rfl) (C_impl_within w1 x_n 0 4294967295) ?_
  rintro _ w2 ⟨k12, rfl⟩
  have m13 := m11.extk k12
  refine wl_pure (.bool (!(F_impl_within x_n 0 4294967295))) (want_none rfl) rfl rfl (by kernel_rfl) ?_
  refine wl_mv (.bool (!(F_impl_within x_n 0 4294967295))) (want_none rfl) rfl rfl (.inl rfl) rfl ?_
  rcases Bool.eq_false_or_eq_true (F_impl_within x_n 0 4294967295) with h14 | h14
  · have q15 := impl_within_t h14
    refine wl_mv (.slice a1 x_key.length c2) (want_some rfl rfl rfl (congrArg (fun b => Value.bool (!b)) h14)) rfl rfl (.inl rfl) rfl ?_
    refine wl_len (want_some rfl rfl rfl (congrArg (fun b => Value.bool (!b)) h14)) rfl rfl rfl slTy_22 rfl (r3.from0 m13) ?_
    refine wl_pure (.bool (!(decide ((x_key.length : Int) = 32)))) (want_some rfl rfl rfl (congrArg (fun b => Value.bool (!b)) h14)) rfl rfl (by kernel_rfl) ?_
    refine wl_pick_f (.bool (!(decide ((x_key.length : Int) = 32)))) (want_none rfl) rfl rfl rfl (congrArg (fun b => Value.bool (!b)) h14) rfl ?_
    refine wl_nil ?_
    refine wq_then ?_
    rcases Bool.eq_false_or_eq_true (decide ((x_key.length : Int) = 32)) with h16 | h16
    · have q17 := of_decide_eq_true h16
      refine wc_false (congrArg (fun b => Value.bool (!b)) h16) ?_
      refine wc_skip ?_
      refine wq_then ?_
      refine wc_seq ?_
      refine wc_region ?_
      refine wl_mv (.int .i64 x_n) (want_none rfl) rfl rfl (.inl rfl) rfl ?_
      refine wl_mv (.slice a1 x_key.length c2) (want_none rfl) rfl rfl (.inl rfl) rfl ?_
      refine wl_call (want_none rfl) (args := #[(.slice a1 x_key.length c2)]) rfl rfl (by kernel_rfl) (C_impl_clone w2 (.slice a1 x_key.length c2) x_key (show R_22 w2 (.slice a1 x_key.length c2) x_key from ⟨_, _, rfl, (r3.from0 m13), s4⟩)) ?_
      rintro _ w3 ⟨k18, ⟨a19, c20, rfl, o21, s22, ap24⟩⟩
      have m25 := m13.extk k18
      refine wl_call (want_none rfl) (args := #[]) rfl rfl (by kernel_rfl) (C_impl_WinNew w3 ) ?_
      rintro _ w4 ⟨k26, ⟨a27, c28, rfl, o29, s30, ap32⟩⟩
      have m33 := m25.extk k26
      refine wl_pure (.agg #[(.int .i64 x_n), (.slice a19 (F_impl_clone x_key).length c20), (.int .i64 0), (.int .i64 ((F_impl_WinNew).Top)), (.slice a27 ((F_impl_WinNew).Bits).length c28)]) (want_none rfl) rfl rfl (by kernel_rfl) ?_
      have b34 := (((b10.kp k12).kp k18).kp k26)
      refine wl_store (.agg #[(.int .i64 x_n), (.slice a19 (F_impl_clone x_key).length c20), (.int .i64 0), (.int .i64 ((F_impl_WinNew).Top)), (.slice a27 ((F_impl_WinNew).Bits).length c28)]) [(.int .i64 x_n), (.slice a19 (F_impl_clone x_key).length c20), (.int .i64 0), (.int .i64 ((F_impl_WinNew).Top)), (.slice a27 ((F_impl_WinNew).Bits).length c28)] [(.int .i64 x_n), (.slice a19 (F_impl_clone x_key).length c20), (.int .i64 0), (.int .i64 ((F_impl_WinNew).Top)), (.slice a27 ((F_impl_WinNew).Bits).length c28)] (want_none rfl) rfl rfl rfl rfl rfl (one_cons rfl (one_cons rfl (one_cons rfl (one_cons rfl (one_cons rfl one_nil))))) sizeOf_27 b34 rfl rfl ?_
      intro w5 k35 b36 z37
      have m38 := m33.ext k35 (fun k hk => by subst hk; exact Nat.le_trans (Nat.le_refl _) p7)
      refine wl_nil ?_
      refine wq_then ?_
      refine wc_ret ?_
      have o39 := (own_ch (own_kp o21 k26) k35 (fun g hg hlt hk => by have h1 := (own_lt o21 g hg).1; have h2 := Nat.lt_of_lt_of_le p8 k12.size; omega))
      have o40 := (own_ch o29 k35 (fun g hg hlt hk => by have h1 := (own_lt o29 g hg).1; have h2 := Nat.lt_of_lt_of_le p8 (Nat.le_trans k12.size k18.size); omega))
      refine ret_1 (.inl rfl) (.agg #[(.int .i64 x_n), (.slice a19 (F_impl_clone x_key).length c20), (.int .i64 0), (.int .i64 ((F_impl_WinNew).Top)), (.slice a27 ((F_impl_WinNew).Bits).length c28)]) rfl (rv_c [(.int .i64 x_n), (.slice a19 (F_impl_clone x_key).length c20), (.int .i64 0), (.int .i64 ((F_impl_WinNew).Top)), (.slice a27 ((F_impl_WinNew).Bits).length c28)] rfl b36 isAgg_27 sizeOf_27) ?_
      refine ⟨m38.keep0, ?_⟩
      have hF41 : F_impl_EpNew x_n x_key = { N := x_n, Key := (F_impl_clone x_key), Seq := 0, Win := (F_impl_WinNew) : PEp } := by simp only [F_impl_EpNew, h14, h16, cond_true, cond_false]
      rw [hF41]
      exact ⟨_, _, _, _, rfl, (own_lo o39 (Nat.le_trans k9.size k12.size)), s22, (own_lo o40 (Nat.le_trans (Nat.le_trans k9.size k12.size) k18.size)), s30, ⟨⟨(Ap.lt o21 o29 (Nat.le_refl _)), trivial⟩, ⟨trivial, trivial⟩⟩⟩
    · have q42 := of_decide_eq_false h16
      refine wc_true (congrArg (fun b => Value.bool (!b)) h16) ?_
      refine wc_seq ?_
      refine wc_region ?_
      refine wl_pure (.agg #[(.int .i64 0), (.slice none 0 0), (.int .i64 0), (.int .i64 0), (.slice none 0 0)]) (want_none rfl) rfl rfl (by kernel_rfl) ?_
      have b43 := (b10.kp k12)
      refine wl_store (.agg #[(.int .i64 0), (.slice none 0 0), (.int .i64 0), (.int .i64 0), (.slice none 0 0)]) [(.int .i64 0), (.slice none 0 0), (.int .i64 0), (.int .i64 0), (.slice none 0 0)] [(.int .i64 0), (.slice none 0 0), (.int .i64 0), (.int .i64 0), (.slice none 0 0)] (want_none rfl) rfl rfl rfl rfl rfl (one_cons rfl (one_cons rfl (one_cons rfl (one_cons rfl (one_cons rfl one_nil))))) sizeOf_27 b43 rfl rfl ?_
      intro w3 k44 b45 z46
      have m47 := m13.ext k44 (fun k hk => by subst hk; exact Nat.le_trans (Nat.le_refl _) p7)
      refine wl_nil ?_
      refine wq_then ?_
      refine wc_ret ?_
      refine wq_then_ret ?_
      refine ret_1 (.inl rfl) (.agg #[(.int .i64 0), (.slice none 0 0), (.int .i64 0), (.int .i64 0), (.slice none 0 0)]) rfl (rv_c [(.int .i64 0), (.slice none 0 0), (.int .i64 0), (.int .i64 0), (.slice none 0 0)] rfl b45 isAgg_27 sizeOf_27) ?_
      refine ⟨m47.keep0, ?_⟩
      have hF48 : F_impl_EpNew x_n x_key = { N := 0, Key := [], Seq := 0, Win := { Top := 0, Bits := [] : PWin } : PEp } := by simp only [F_impl_EpNew, h14, h16, cond_true, cond_false]
      rw [hF48]
      exact ⟨_, _, _, _, rfl, (own_nil _ _ _ _), (by simp), (own_nil _ _ _ _), (by simp), ⟨⟨(Ap.nl _), trivial⟩, ⟨trivial, trivial⟩⟩⟩
  · have q49 := impl_within_f h14
    refine wl_skip rfl rfl rfl (congrArg (fun b => Value.bool (!b)) h14) rfl rfl rfl ?_
    refine wl_skip rfl rfl rfl (congrArg (fun b => Value.bool (!b)) h14) rfl rfl rfl ?_
    refine wl_skip rfl rfl rfl (congrArg (fun b => Value.bool (!b)) h14) rfl rfl rfl ?_
    refine wl_pick_t (.bool true) (want_none rfl) rfl rfl rfl (congrArg (fun b => Value.bool (!b)) h14) rfl ?_
    refine wl_nil ?_
    refine wq_then ?_
    refine wc_true rfl ?_
    refine wc_seq ?_
    refine wc_region ?_
    refine wl_pure (.agg #[(.int .i64 0), (.slice none 0 0), (.int .i64 0), (.int .i64 0), (.slice none 0 0)]) (want_none rfl) rfl rfl (by kernel_rfl) ?_
    have b50 := (b10.kp k12)
    refine wl_store (.agg #[(.int .i64 0), (.slice none 0 0), (.int .i64 0), (.int .i64 0), (.slice none 0 0)]) [(.int .i64 0), (.slice none 0 0), (.int .i64 0), (.int .i64 0), (.slice none 0 0)] [(.int .i64 0), (.slice none 0 0), (.int .i64 0), (.int .i64 0), (.slice none 0 0)] (want_none rfl) rfl rfl rfl rfl rfl (one_cons rfl (one_cons rfl (one_cons rfl (one_cons rfl (one_cons rfl one_nil))))) sizeOf_27 b50 rfl rfl ?_
    intro w3 k51 b52 z53
    have m54 := m13.ext k51 (fun k hk => by subst hk; exact Nat.le_trans (Nat.le_refl _) p7)
    refine wl_nil ?_
    refine wq_then ?_
    refine wc_ret ?_
    refine wq_then_ret ?_
    refine ret_1 (.inl rfl) (.agg #[(.int .i64 0), (.slice none 0 0), (.int .i64 0), (.int .i64 0), (.slice none 0 0)]) rfl (rv_c [(.int .i64 0), (.slice none 0 0), (.int .i64 0), (.int .i64 0), (.slice none 0 0)] rfl b52 isAgg_27 sizeOf_27) ?_
    refine ⟨m54.keep0, ?_⟩
    have hF55 : F_impl_EpNew x_n x_key = { N := 0, Key := [], Seq := 0, Win := { Top := 0, Bits := [] : PWin } : PEp } := by simp only [F_impl_EpNew, h14, cond_true, cond_false]
    rw [hF55]
    exact ⟨_, _, _, _, rfl, (own_nil _ _ _ _), (by simp), (own_nil _ _ _ _), (by simp), ⟨⟨(Ap.nl _), trivial⟩, ⟨trivial, trivial⟩⟩⟩

def F_impl_ChanNew (x_role : Int) (x_sn : List UInt8) (x_key : List UInt8) : (PChan) := bif (F_impl_isRole x_role) then (bif (F_impl_isNonce x_sn) then (bif (decide ((x_key.length : Int) = 32)) then ({ Role := x_role, Sn := (F_impl_clone x_sn), Cur := (F_impl_EpNew 0 x_key), Old := { N := 0, Key := [], Seq := 0, Win := { Top := 0, Bits := [] : PWin } : PEp }, HasOld := false, Until := 0, Next := [] : PChan }) else ({ Role := 0, Sn := [], Cur := { N := 0, Key := [], Seq := 0, Win := { Top := 0, Bits := [] : PWin } : PEp }, Old := { N := 0, Key := [], Seq := 0, Win := { Top := 0, Bits := [] : PWin } : PEp }, HasOld := false, Until := 0, Next := [] : PChan })) else ({ Role := 0, Sn := [], Cur := { N := 0, Key := [], Seq := 0, Win := { Top := 0, Bits := [] : PWin } : PEp }, Old := { N := 0, Key := [], Seq := 0, Win := { Top := 0, Bits := [] : PWin } : PEp }, HasOld := false, Until := 0, Next := [] : PChan })) else ({ Role := 0, Sn := [], Cur := { N := 0, Key := [], Seq := 0, Win := { Top := 0, Bits := [] : PWin } : PEp }, Old := { N := 0, Key := [], Seq := 0, Win := { Top := 0, Bits := [] : PWin } : PEp }, HasOld := false, Until := 0, Next := [] : PChan })
theorem C_impl_ChanNew (w0 : World) (x_role : Int) (v_x_sn : Value) (x_sn : List UInt8) (r_x_sn : R_22 w0 v_x_sn x_sn) (v_x_key : Value) (x_key : List UInt8) (r_x_key : R_22 w0 v_x_key x_key)  : Fn Try.prog 17 #[(.int .i64 x_role), v_x_sn, v_x_key] w0 (fun v w' => Keep w0 w' ∧ O_29 w' w0.heap.size v (F_impl_ChanNew x_role x_sn x_key)) := by
  obtain ⟨a1, c2, rfl, r3, s4⟩ := r_x_sn
  obtain ⟨a6, c7, rfl, r8, s9⟩ := r_x_key
  refine fn_of (n := 27) (l := [(.int .i64 x_role), (.slice a1 x_sn.length c2), (.slice a6 x_key.length c7), undef, undef, undef, undef, undef, undef, undef, undef, undef, undef, undef, undef, undef, undef, undef, undef, undef, undef, undef, undef, undef, undef, undef, undef]) Try.func17 rfl rfl (by kernel_rfl) rfl ?_
  refine wc_seq ?_
  refine wc_region ?_
  refine wl_alloc (want_none rfl) (.agg #[(.int .i64 0), (.slice none 0 0), (.int .i64 0), (.slice none 0 0), (.int .i64 0), (.int .i64 0), (.slice none 0 0), (.int .i64 0), (.slice none 0 0), (.int .i64 0), (.int .i64 0), (.slice none 0 0), (.bool false), (.int .i64 0), (.slice none 0 0)]) [(.int .i64 0), (.slice none 0 0), (.int .i64 0), (.slice none 0 0), (.int .i64 0), (.int .i64 0), (.slice none 0 0), (.int .i64 0), (.slice none 0 0), (.int .i64 0), (.int .i64 0), (.slice none 0 0), (.bool false), (.int .i64 0), (.slice none 0 0)] zero_29 rfl rfl rfl rfl ?_
  intro g11 w1 p12 p13 k14 b15
  have m16 := (Ch.base w0).extk k14
  refine wl_nil ?_
  refine wq_then ?_
  refine wc_seq ?_
  refine wc_seq ?_
  refine wc_region ?_
  refine wl_mv (.int .i64 x_role) (want_none rfl) rfl rfl (.inl rfl) rfl ?_
  refine wl_call (want_none rfl) (args := #[(.int .i64 x_role)]) rfl rfl (by kernel_rfl) (C_impl_isRole w1 x_role) ?_
  rintro _ w2 ⟨k17, rfl⟩
  have m18 := m16.extk k17
  refine wl_pure (.bool (!(F_impl_isRole x_role))) (want_none rfl) rfl rfl (by kernel_rfl) ?_
  refine wl_mv (.bool (!(F_impl_isRole x_role))) (want_none rfl) rfl rfl (.inl rfl) rfl ?_
  rcases Bool.eq_false_or_eq_true (F_impl_isRole x_role) with h19 | h19
  · skip
    refine wl_mv (.slice a1 x_sn.length c2) (want_some rfl rfl rfl (congrArg (fun b => Value.bool (!b)) h19)) rfl rfl (.inl rfl) rfl ?_
    refine wl_call (want_some rfl rfl rfl (congrArg (fun b => Value.bool (!b)) h19)) (args := #[(.slice a1 x_sn.length c2)]) rfl rfl (by kernel_rfl) (C_impl_isNonce w2 (.slice a1 x_sn.length c2) x_sn (show R_22 w2 (.slice a1 x_sn.length c2) x_sn from ⟨_, _, rfl, (r3.from0 m18), s4⟩)) ?_
    rintro _ w3 ⟨k21, rfl⟩
    have m22 := m18.extk k21
    refine wl_pure (.bool (!(F_impl_isNonce x_sn))) (want_some rfl rfl rfl (congrArg (fun b => Value.bool (!b)) h19)) rfl rfl (by kernel_rfl) ?_
    refine wl_pick_f (.bool (!(F_impl_isNonce x_sn))) (want_none rfl) rfl rfl rfl (congrArg (fun b => Value.bool (!b)) h19) rfl ?_
    refine wl_mv (.bool (!(F_impl_isNonce x_sn))) (want_none rfl) rfl rfl (.inl rfl) rfl ?_
    rcases Bool.eq_false_or_eq_true (F_impl_isNonce x_sn) with h23 | h23
    · skip
      refine wl_mv (.slice a6 x_key.length c7) (want_some rfl rfl rfl (congrArg (fun b => Value.bool (!b)) h23)) rfl rfl (.inl rfl) rfl ?_
      refine wl_len (want_some rfl rfl rfl (congrArg (fun b => Value.bool (!b)) h23)) rfl rfl rfl slTy_22 rfl (r8.from0 m22) ?_
      refine wl_pure (.bool (!(decide ((x_key.length : Int) = 32)))) (want_some rfl rfl rfl (congrArg (fun b => Value.bool (!b)) h23)) rfl rfl (by kernel_rfl) ?_
      refine wl_pick_f (.bool (!(decide ((x_key.length : Int) = 32)))) (want_none rfl) rfl rfl rfl (congrArg (fun b => Value.bool (!b)) h23) rfl ?_
      refine wl_nil ?_
      refine wq_then ?_
      rcases Bool.eq_false_or_eq_true (decide ((x_key.length : Int) = 32)) with h25 | h25
      · have q26 := of_decide_eq_true h25
        refine wc_false (congrArg (fun b => Value.bool (!b)) h25) ?_
        refine wc_skip ?_
        refine wq_then ?_
        refine wc_seq ?_
        refine wc_region ?_
        refine wl_mv (.int .i64 x_role) (want_none rfl) rfl rfl (.inl rfl) rfl ?_
        refine wl_mv (.slice a1 x_sn.length c2) (want_none rfl) rfl rfl (.inl rfl) rfl ?_
        refine wl_call (want_none rfl) (args := #[(.slice a1 x_sn.length c2)]) rfl rfl (by kernel_rfl) (C_impl_clone w3 (.slice a1 x_sn.length c2) x_sn (show R_22 w3 (.slice a1 x_sn.length c2) x_sn from ⟨_, _, rfl, (r3.from0 m22), s4⟩)) ?_
        rintro _ w4 ⟨k27, ⟨a28, c29, rfl, o30, s31, ap33⟩⟩
        have m34 := m22.extk k27
        refine wl_mv (.slice a6 x_key.length c7) (want_none rfl) rfl rfl (.inl rfl) rfl ?_
        refine wl_call (want_none rfl) (args := #[(.int .i64 0), (.slice a6 x_key.length c7)]) rfl rfl (by kernel_rfl) (C_impl_EpNew w4 0 (.slice a6 x_key.length c7) x_key (show R_22 w4 (.slice a6 x_key.length c7) x_key from ⟨_, _, rfl, (r8.from0 m34), s9⟩)) ?_
        rintro _ w5 ⟨k35, ⟨a36, c37, a41, c42, rfl, o38, s39, o43, s44, ap46⟩⟩
        have m47 := m34.extk k35
        refine wl_pure (.agg #[(.int .i64 x_role), (.slice a28 (F_impl_clone x_sn).length c29), (.int .i64 ((F_impl_EpNew 0 x_key).N)), (.slice a36 ((F_impl_EpNew 0 x_key).Key).length c37), (.int .i64 ((F_impl_EpNew 0 x_key).Seq)), (.int .i64 (((F_impl_EpNew 0 x_key).Win).Top)), (.slice a41 (((F_impl_EpNew 0 x_key).Win).Bits).length c42), (.int .i64 0), (.slice none 0 0), (.int .i64 0), (.int .i64 0), (.slice none 0 0), (.bool false), (.int .i64 0), (.slice none 0 0)]) (want_none rfl) rfl rfl (by kernel_rfl) ?_
        have b48 := ((((b15.kp k17).kp k21).kp k27).kp k35)
        refine wl_store (.agg #[(.int .i64 x_role), (.slice a28 (F_impl_clone x_sn).length c29), (.int .i64 ((F_impl_EpNew 0 x_key).N)), (.slice a36 ((F_impl_EpNew 0 x_key).Key).length c37), (.int .i64 ((F_impl_EpNew 0 x_key).Seq)), (.int .i64 (((F_impl_EpNew 0 x_key).Win).Top)), (.slice a41 (((F_impl_EpNew 0 x_key).Win).Bits).length c42), (.int .i64 0), (.slice none 0 0), (.int .i64 0), (.int .i64 0), (.slice none 0 0), (.bool false), (.int .i64 0), (.slice none 0 0)]) [(.int .i64 x_role), (.slice a28 (F_impl_clone x_sn).length c29), (.int .i64 ((F_impl_EpNew 0 x_key).N)), (.slice a36 ((F_impl_EpNew 0 x_key).Key).length c37), (.int .i64 ((F_impl_EpNew 0 x_key).Seq)), (.int .i64 (((F_impl_EpNew 0 x_key).Win).Top)), (.slice a41 (((F_impl_EpNew 0 x_key).Win).Bits).length c42), (.int .i64 0), (.slice none 0 0), (.int .i64 0), (.int .i64 0), (.slice none 0 0), (.bool false), (.int .i64 0), (.slice none 0 0)] [(.int .i64 x_role), (.slice a28 (F_impl_clone x_sn).length c29), (.int .i64 ((F_impl_EpNew 0 x_key).N)), (.slice a36 ((F_impl_EpNew 0 x_key).Key).length c37), (.int .i64 ((F_impl_EpNew 0 x_key).Seq)), (.int .i64 (((F_impl_EpNew 0 x_key).Win).Top)), (.slice a41 (((F_impl_EpNew 0 x_key).Win).Bits).length c42), (.int .i64 0), (.slice none 0 0), (.int .i64 0), (.int .i64 0), (.slice none 0 0), (.bool false), (.int .i64 0), (.slice none 0 0)] (want_none rfl) rfl rfl rfl rfl rfl (one_cons rfl (one_cons rfl (one_cons rfl (one_cons rfl (one_cons rfl (one_cons rfl (one_cons rfl (one_cons rfl (one_cons rfl (one_cons rfl (one_cons rfl (one_cons rfl (one_cons rfl (one_cons rfl (one_cons rfl one_nil))))))))))))))) sizeOf_29 b48 rfl rfl ?_
        intro w6 k49 b50 z51
        have m52 := m47.ext k49 (fun k hk => by subst hk; exact Nat.le_trans (Nat.le_refl _) p12)
        refine wl_nil ?_
        refine wq_then ?_
        refine wc_ret ?_
        have o53 := (own_ch (own_kp o30 k35) k49 (fun g hg hlt hk => by have h1 := (own_lt o30 g hg).1; have h2 := Nat.lt_of_lt_of_le p13 (Nat.le_trans k17.size k21.size); omega))
        have o54 := (own_ch o38 k49 (fun g hg hlt hk => by have h1 := (own_lt o38 g hg).1; have h2 := Nat.lt_of_lt_of_le p13 (Nat.le_trans (Nat.le_trans k17.size k21.size) k27.size); omega))
        have o55 := (own_ch o43 k49 (fun g hg hlt hk => by have h1 := (own_lt o43 g hg).1; have h2 := Nat.lt_of_lt_of_le p13 (Nat.le_trans (Nat.le_trans k17.size k21.size) k27.size); omega))
        refine ret_1 (.inl rfl) (.agg #[(.int .i64 x_role), (.slice a28 (F_impl_clone x_sn).length c29), (.int .i64 ((F_impl_EpNew 0 x_key).N)), (.slice a36 ((F_impl_EpNew 0 x_key).Key).length c37), (.int .i64 ((F_impl_EpNew 0 x_key).Seq)), (.int .i64 (((F_impl_EpNew 0 x_key).Win).Top)), (.slice a41 (((F_impl_EpNew 0 x_key).Win).Bits).length c42), (.int .i64 0), (.slice none 0 0), (.int .i64 0), (.int .i64 0), (.slice none 0 0), (.bool false), (.int .i64 0), (.slice none 0 0)]) rfl (rv_c [(.int .i64 x_role), (.slice a28 (F_impl_clone x_sn).length c29), (.int .i64 ((F_impl_EpNew 0 x_key).N)), (.slice a36 ((F_impl_EpNew 0 x_key).Key).length c37), (.int .i64 ((F_impl_EpNew 0 x_key).Seq)), (.int .i64 (((F_impl_EpNew 0 x_key).Win).Top)), (.slice a41 (((F_impl_EpNew 0 x_key).Win).Bits).length c42), (.int .i64 0), (.slice none 0 0), (.int .i64 0), (.int .i64 0), (.slice none 0 0), (.bool false), (.int .i64 0), (.slice none 0 0)] rfl b50 isAgg_29 sizeOf_29) ?_
        refine ⟨m52.keep0, ?_⟩
        have hF56 : F_impl_ChanNew x_role x_sn x_key = { Role := x_role, Sn := (F_impl_clone x_sn), Cur := (F_impl_EpNew 0 x_key), Old := { N := 0, Key := [], Seq := 0, Win := { Top := 0, Bits := [] : PWin } : PEp }, HasOld := false, Until := 0, Next := [] : PChan } := by simp only [F_impl_ChanNew, h19, h23, h25, cond_true, cond_false]
        rw [hF56]
        exact ⟨_, _, _, _, _, _, _, _, _, _, _, _, rfl, (own_lo o53 (Nat.le_trans (Nat.le_trans k14.size k17.size) k21.size)), s31, (own_lo o54 (Nat.le_trans (Nat.le_trans (Nat.le_trans k14.size k17.size) k21.size) k27.size)), s39, (own_lo o55 (Nat.le_trans (Nat.le_trans (Nat.le_trans k14.size k17.size) k21.size) k27.size)), s44, (own_nil _ _ _ _), (by simp), (own_nil _ _ _ _), (by simp), (own_nil _ _ _ _), (by simp), ⟨⟨(Ap.lt o30 o38 (Nat.le_refl _)), ⟨(Ap.lt o30 o43 (Nat.le_refl _)), ⟨(Ap.nr _), ⟨(Ap.nr _), ⟨(Ap.nr _), trivial⟩⟩⟩⟩⟩, ⟨⟨(ap46.1.1), ⟨(Ap.nr _), ⟨(Ap.nr _), ⟨(Ap.nr _), trivial⟩⟩⟩⟩, ⟨⟨(Ap.nr _), ⟨(Ap.nr _), ⟨(Ap.nr _), trivial⟩⟩⟩, ⟨⟨(Ap.nl _), ⟨(Ap.nl _), trivial⟩⟩, ⟨⟨(Ap.nl _), trivial⟩, ⟨trivial, trivial⟩⟩⟩⟩⟩⟩⟩
      · have q57 := of_decide_eq_false h25
        refine wc_true (congrArg (fun b => Value.bool (!b)) h25) ?_
        refine wc_seq ?_
        refine wc_region ?_
        refine wl_pure (.agg #[(.int .i64 0), (.slice none 0 0), (.int .i64 0), (.slice none 0 0), (.int .i64 0), (.int .i64 0), (.slice none 0 0), (.int .i64 0), (.slice none 0 0), (.int .i64 0), (.int .i64 0), (.slice none 0 0), (.bool false), (.int .i64 0), (.slice none 0 0)]) (want_none rfl) rfl rfl (by kernel_rfl) ?_
        have b58 := ((b15.kp k17).kp k21)
        refine wl_store (.agg #[(.int .i64 0), (.slice none 0 0), (.int .i64 0), (.slice none 0 0), (.int .i64 0), (.int .i64 0), (.slice none 0 0), (.int .i64 0), (.slice none 0 0), (.int .i64 0), (.int .i64 0), (.slice none 0 0), (.bool false), (.int .i64 0), (.slice none 0 0)]) [(.int .i64 0), (.slice none 0 0), (.int .i64 0), (.slice none 0 0), (.int .i64 0), (.int .i64 0), (.slice none 0 0), (.int .i64 0), (.slice none 0 0), (.int .i64 0), (.int .i64 0), (.slice none 0 0), (.bool false), (.int .i64 0), (.slice none 0 0)] [(.int .i64 0), (.slice none 0 0), (.int .i64 0), (.slice none 0 0), (.int .i64 0), (.int .i64 0), (.slice none 0 0), (.int .i64 0), (.slice none 0 0), (.int .i64 0), (.int .i64 0), (.slice none 0 0), (.bool false), (.int .i64 0), (.slice none 0 0)] (want_none rfl) rfl rfl rfl rfl rfl (one_cons rfl (one_cons rfl (one_cons rfl (one_cons rfl (one_cons rfl (one_cons rfl (one_cons rfl (one_cons rfl (one_cons rfl (one_cons rfl (one_cons rfl (one_cons rfl (one_cons rfl (one_cons rfl (one_cons rfl one_nil))))))))))))))) sizeOf_29 b58 rfl rfl ?_
        intro w4 k59 b60 z61
        have m62 := m22.ext k59 (fun k hk => by subst hk; exact Nat.le_trans (Nat.le_refl _) p12)
        refine wl_nil ?_
        refine wq_then ?_
        refine wc_ret ?_
        refine wq_then_ret ?_
        refine ret_1 (.inl rfl) (.agg #[(.int .i64 0), (.slice none 0 0), (.int .i64 0), (.slice none 0 0), (.int .i64 0), (.int .i64 0), (.slice none 0 0), (.int .i64 0), (.slice none 0 0), (.int .i64 0), (.int .i64 0), (.slice none 0 0), (.bool false), (.int .i64 0), (.slice none 0 0)]) rfl (rv_c [(.int .i64 0), (.slice none 0 0), (.int .i64 0), (.slice none 0 0), (.int .i64 0), (.int .i64 0), (.slice none 0 0), (.int .i64 0), (.slice none 0 0), (.int .i64 0), (.int .i64 0), (.slice none 0 0), (.bool false), (.int .i64 0), (.slice none 0 0)] rfl b60 isAgg_29 sizeOf_29) ?_
        refine ⟨m62.keep0, ?_⟩
        have hF63 : F_impl_ChanNew x_role x_sn x_key = { Role := 0, Sn := [], Cur := { N := 0, Key := [], Seq := 0, Win := { Top := 0, Bits := [] : PWin } : PEp }, Old := { N := 0, Key := [], Seq := 0, Win := { Top := 0, Bits := [] : PWin } : PEp }, HasOld := false, Until := 0, Next := [] : PChan } := by simp only [F_impl_ChanNew, h19, h23, h25, cond_true, cond_false]
        rw [hF63]
        exact ⟨_, _, _, _, _, _, _, _, _, _, _, _, rfl, (own_nil _ _ _ _), (by simp), (own_nil _ _ _ _), (by simp), (own_nil _ _ _ _), (by simp), (own_nil _ _ _ _), (by simp), (own_nil _ _ _ _), (by simp), (own_nil _ _ _ _), (by simp), ⟨⟨(Ap.nl _), ⟨(Ap.nl _), ⟨(Ap.nl _), ⟨(Ap.nl _), ⟨(Ap.nl _), trivial⟩⟩⟩⟩⟩, ⟨⟨(Ap.nl _), ⟨(Ap.nl _), ⟨(Ap.nl _), ⟨(Ap.nl _), trivial⟩⟩⟩⟩, ⟨⟨(Ap.nl _), ⟨(Ap.nl _), ⟨(Ap.nl _), trivial⟩⟩⟩, ⟨⟨(Ap.nl _), ⟨(Ap.nl _), trivial⟩⟩, ⟨⟨(Ap.nl _), trivial⟩, ⟨trivial, trivial⟩⟩⟩⟩⟩⟩⟩
    · skip
      refine wl_skip rfl rfl rfl (congrArg (fun b => Value.bool (!b)) h23) rfl rfl rfl ?_
      refine wl_skip rfl rfl rfl (congrArg (fun b => Value.bool (!b)) h23) rfl rfl rfl ?_
      refine wl_skip rfl rfl rfl (congrArg (fun b => Value.bool (!b)) h23) rfl rfl rfl ?_
      refine wl_pick_t (.bool true) (want_none rfl) rfl rfl rfl (congrArg (fun b => Value.bool (!b)) h23) rfl ?_
      refine wl_nil ?_
      refine wq_then ?_
      refine wc_true rfl ?_
      refine wc_seq ?_
      refine wc_region ?_
      refine wl_pure (.agg #[(.int .i64 0), (.slice none 0 0), (.int .i64 0), (.slice none 0 0), (.int .i64 0), (.int .i64 0), (.slice none 0 0), (.int .i64 0), (.slice none 0 0), (.int .i64 0), (.int .i64 0), (.slice none 0 0), (.bool false), (.int .i64 0), (.slice none 0 0)]) (want_none rfl) rfl rfl (by kernel_rfl) ?_
      have b65 := ((b15.kp k17).kp k21)
      refine wl_store (.agg #[(.int .i64 0), (.slice none 0 0), (.int .i64 0), (.slice none 0 0), (.int .i64 0), (.int .i64 0), (.slice none 0 0), (.int .i64 0), (.slice none 0 0), (.int .i64 0), (.int .i64 0), (.slice none 0 0), (.bool false), (.int .i64 0), (.slice none 0 0)]) [(.int .i64 0), (.slice none 0 0), (.int .i64 0), (.slice none 0 0), (.int .i64 0), (.int .i64 0), (.slice none 0 0), (.int .i64 0), (.slice none 0 0), (.int .i64 0), (.int .i64 0), (.slice none 0 0), (.bool false), (.int .i64 0), (.slice none 0 0)] [(.int .i64 0), (.slice none 0 0), (.int .i64 0), (.slice none 0 0), (.int .i64 0), (.int .i64 0), (.slice none 0 0), (.int .i64 0), (.slice none 0 0), (.int .i64 0), (.int .i64 0), (.slice none 0 0), (.bool false), (.int .i64 0), (.slice none 0 0)] (want_none rfl) rfl rfl rfl rfl rfl (one_cons rfl (one_cons rfl (one_cons rfl (one_cons rfl (one_cons rfl (one_cons rfl (one_cons rfl (one_cons rfl (one_cons rfl (one_cons rfl (one_cons rfl (one_cons rfl (one_cons rfl (one_cons rfl (one_cons rfl one_nil))))))))))))))) sizeOf_29 b65 rfl rfl ?_
      intro w4 k66 b67 z68
      have m69 := m22.ext k66 (fun k hk => by subst hk; exact Nat.le_trans (Nat.le_refl _) p12)
      refine wl_nil ?_
      refine wq_then ?_
      refine wc_ret ?_
      refine wq_then_ret ?_
      refine ret_1 (.inl rfl) (.agg #[(.int .i64 0), (.slice none 0 0), (.int .i64 0), (.slice none 0 0), (.int .i64 0), (.int .i64 0), (.slice none 0 0), (.int .i64 0), (.slice none 0 0), (.int .i64 0), (.int .i64 0), (.slice none 0 0), (.bool false), (.int .i64 0), (.slice none 0 0)]) rfl (rv_c [(.int .i64 0), (.slice none 0 0), (.int .i64 0), (.slice none 0 0), (.int .i64 0), (.int .i64 0), (.slice none 0 0), (.int .i64 0), (.slice none 0 0), (.int .i64 0), (.int .i64 0), (.slice none 0 0), (.bool false), (.int .i64 0), (.slice none 0 0)] rfl b67 isAgg_29 sizeOf_29) ?_
      refine ⟨m69.keep0, ?_⟩
      have hF70 : F_impl_ChanNew x_role x_sn x_key = { Role := 0, Sn := [], Cur := { N := 0, Key := [], Seq := 0, Win := { Top := 0, Bits := [] : PWin } : PEp }, Old := { N := 0, Key := [], Seq := 0, Win := { Top := 0, Bits := [] : PWin } : PEp }, HasOld := false, Until := 0, Next := [] : PChan } := by simp only [F_impl_ChanNew, h19, h23, cond_true, cond_false]
      rw [hF70]
      exact ⟨_, _, _, _, _, _, _, _, _, _, _, _, rfl, (own_nil _ _ _ _), (by simp), (own_nil _ _ _ _), (by simp), (own_nil _ _ _ _), (by simp), (own_nil _ _ _ _), (by simp), (own_nil _ _ _ _), (by simp), (own_nil _ _ _ _), (by simp), ⟨⟨(Ap.nl _), ⟨(Ap.nl _), ⟨(Ap.nl _), ⟨(Ap.nl _), ⟨(Ap.nl _), trivial⟩⟩⟩⟩⟩, ⟨⟨(Ap.nl _), ⟨(Ap.nl _), ⟨(Ap.nl _), ⟨(Ap.nl _), trivial⟩⟩⟩⟩, ⟨⟨(Ap.nl _), ⟨(Ap.nl _), ⟨(Ap.nl _), trivial⟩⟩⟩, ⟨⟨(Ap.nl _), ⟨(Ap.nl _), trivial⟩⟩, ⟨⟨(Ap.nl _), trivial⟩, ⟨trivial, trivial⟩⟩⟩⟩⟩⟩⟩
  · skip
    refine wl_skip rfl rfl rfl (congrArg (fun b => Value.bool (!b)) h19) rfl rfl rfl ?_
    refine wl_skip rfl rfl rfl (congrArg (fun b => Value.bool (!b)) h19) rfl rfl rfl ?_
    refine wl_skip rfl rfl rfl (congrArg (fun b => Value.bool (!b)) h19) rfl rfl rfl ?_
    refine wl_pick_t (.bool true) (want_none rfl) rfl rfl rfl (congrArg (fun b => Value.bool (!b)) h19) rfl ?_
    refine wl_mv (.bool true) (want_none rfl) rfl rfl (.inl rfl) rfl ?_
    refine wl_skip rfl rfl rfl rfl rfl rfl rfl ?_
    refine wl_skip rfl rfl rfl rfl rfl rfl rfl ?_
    refine wl_skip rfl rfl rfl rfl rfl rfl rfl ?_
    refine wl_pick_t (.bool true) (want_none rfl) rfl rfl rfl rfl rfl ?_
    refine wl_nil ?_
    refine wq_then ?_
    refine wc_true rfl ?_
    refine wc_seq ?_
    refine wc_region ?_
    refine wl_pure (.agg #[(.int .i64 0), (.slice none 0 0), (.int .i64 0), (.slice none 0 0), (.int .i64 0), (.int .i64 0), (.slice none 0 0), (.int .i64 0), (.slice none 0 0), (.int .i64 0), (.int .i64 0), (.slice none 0 0), (.bool false), (.int .i64 0), (.slice none 0 0)]) (want_none rfl) rfl rfl (by kernel_rfl) ?_
    have b72 := (b15.kp k17)
    refine wl_store (.agg #[(.int .i64 0), (.slice none 0 0), (.int .i64 0), (.slice none 0 0), (.int .i64 0), (.int .i64 0), (.slice none 0 0), (.int .i64 0), (.slice none 0 0), (.int .i64 0), (.int .i64 0), (.slice none 0 0), (.bool false), (.int .i64 0), (.slice none 0 0)]) [(.int .i64 0), (.slice none 0 0), (.int .i64 0), (.slice none 0 0), (.int .i64 0), (.int .i64 0), (.slice none 0 0), (.int .i64 0), (.slice none 0 0), (.int .i64 0), (.int .i64 0), (.slice none 0 0), (.bool false), (.int .i64 0), (.slice none 0 0)] [(.int .i64 0), (.slice none 0 0), (.int .i64 0), (.slice none 0 0), (.int .i64 0), (.int .i64 0), (.slice none 0 0), (.int .i64 0), (.slice none 0 0), (.int .i64 0), (.int .i64 0), (.slice none 0 0), (.bool false), (.int .i64 0), (.slice none 0 0)] (want_none rfl) rfl rfl rfl rfl rfl (one_cons rfl (one_cons rfl (one_cons rfl (one_cons rfl (one_cons rfl (one_cons rfl (one_cons rfl (one_cons rfl (one_cons rfl (one_cons rfl (one_cons rfl (one_cons rfl (one_cons rfl (one_cons rfl (one_cons rfl one_nil))))))))))))))) sizeOf_29 b72 rfl rfl ?_
    intro w3 k73 b74 z75
    have m76 := m18.ext k73 (fun k hk => by subst hk; exact Nat.le_trans (Nat.le_refl _) p12)
    refine wl_nil ?_
    refine wq_then ?_
    refine wc_ret ?_
    refine wq_then_ret ?_
    refine ret_1 (.inl rfl) (.agg #[(.int .i64 0), (.slice none 0 0), (.int .i64 0), (.slice none 0 0), (.int .i64 0), (.int .i64 0), (.slice none 0 0), (.int .i64 0), (.slice none 0 0), (.int .i64 0), (.int .i64 0), (.slice none 0 0), (.bool false), (.int .i64 0), (.slice none 0 0)]) rfl (rv_c [(.int .i64 0), (.slice none 0 0), (.int .i64 0), (.slice none 0 0), (.int .i64 0), (.int .i64 0), (.slice none 0 0), (.int .i64 0), (.slice none 0 0), (.int .i64 0), (.int .i64 0), (.slice none 0 0), (.bool false), (.int .i64 0), (.slice none 0 0)] rfl b74 isAgg_29 sizeOf_29) ?_
    refine ⟨m76.keep0, ?_⟩
    have hF77 : F_impl_ChanNew x_role x_sn x_key = { Role := 0, Sn := [], Cur := { N := 0, Key := [], Seq := 0, Win := { Top := 0, Bits := [] : PWin } : PEp }, Old := { N := 0, Key := [], Seq := 0, Win := { Top := 0, Bits := [] : PWin } : PEp }, HasOld := false, Until := 0, Next := [] : PChan } := by simp only [F_impl_ChanNew, h19, cond_true, cond_false]
    rw [hF77]
    exact ⟨_, _, _, _, _, _, _, _, _, _, _, _, rfl, (own_nil _ _ _ _), (by simp), (own_nil _ _ _ _), (by simp), (own_nil _ _ _ _), (by simp), (own_nil _ _ _ _), (by simp), (own_nil _ _ _ _), (by simp), (own_nil _ _ _ _), (by simp), ⟨⟨(Ap.nl _), ⟨(Ap.nl _), ⟨(Ap.nl _), ⟨(Ap.nl _), ⟨(Ap.nl _), trivial⟩⟩⟩⟩⟩, ⟨⟨(Ap.nl _), ⟨(Ap.nl _), ⟨(Ap.nl _), ⟨(Ap.nl _), trivial⟩⟩⟩⟩, ⟨⟨(Ap.nl _), ⟨(Ap.nl _), ⟨(Ap.nl _), trivial⟩⟩⟩, ⟨⟨(Ap.nl _), ⟨(Ap.nl _), trivial⟩⟩, ⟨⟨(Ap.nl _), trivial⟩, ⟨trivial, trivial⟩⟩⟩⟩⟩⟩⟩

theorem mixed : Try.prog.follows .mixedOrders = true := by kernel_rfl
theorem C_laws_eqByteS (w0 : World) (v_x_a : Value) (x_a : List UInt8) (r_x_a : R_22 w0 v_x_a x_a) (v_x_b : Value) (x_b : List UInt8) (r_x_b : R_22 w0 v_x_b x_b)  : Fn Try.prog 19 #[v_x_a, v_x_b] w0 (fun v w' => Keep w0 w' ∧ O_4 w' w0.heap.size v (eqB x_a x_b)) := by
  obtain ⟨a1, c2, rfl, r3, s4⟩ := r_x_a
  obtain ⟨a6, c7, rfl, r8, s9⟩ := r_x_b
  refine fn_of (n := 26) (l := [(.slice a1 x_a.length c2), (.slice a6 x_b.length c7), undef, undef, undef, undef, undef, undef, undef, undef, undef, undef, undef, undef, undef, undef, undef, undef, undef, undef, undef, undef, undef, undef, undef, undef]) Try.func19 rfl rfl (by kernel_rfl) rfl ?_
  refine wc_seq ?_
  refine wc_region ?_
  refine wl_mv (.bool false) (want_none rfl) rfl rfl (.inr rfl) rfl ?_
  refine wl_nil ?_
  refine wq_then ?_
  refine wc_seq ?_
  refine wc_seq ?_
  refine wc_region ?_
  refine wl_mv (.slice a1 x_a.length c2) (want_none rfl) rfl rfl (.inl rfl) rfl ?_
  refine wl_len (want_none rfl) rfl rfl rfl slTy_22 rfl r3 ?_
  refine wl_mv (.slice a6 x_b.length c7) (want_none rfl) rfl rfl (.inl rfl) rfl ?_
  refine wl_len (want_none rfl) rfl rfl rfl slTy_22 rfl r8 ?_
  refine wl_pure (.bool (!(decide ((x_a.length : Int) = (x_b.length : Int))))) (want_none rfl) rfl rfl (by kernel_rfl) ?_
  refine wl_nil ?_
  refine wq_then ?_
  rcases Bool.eq_false_or_eq_true (decide ((x_a.length : Int) = (x_b.length : Int))) with h11 | h11
  · have q12 := of_decide_eq_true h11
    refine wc_false (congrArg (fun b => Value.bool (!b)) h11) ?_
    refine wc_skip ?_
    refine wq_then ?_
    refine wc_seq ?_
    refine wc_seq ?_
    refine wc_region ?_
    refine wl_mv (.int .i64 0) (want_none rfl) rfl rfl (.inr rfl) rfl ?_
    refine wl_nil ?_
    refine wq_then ?_
    refine wc_block ?_
    refine wc_norm [(.slice a1 x_a.length c2), (.slice a6 x_b.length c7), undef, undef, (.bool false), (.int .i64 0), (.slice a1 x_a.length c2), (.int .i64 (x_a.length : Int)), (.slice a6 x_b.length c7), (.int .i64 (x_b.length : Int)), (.bool (!(decide ((x_a.length : Int) = (x_b.length : Int))))), undef, undef, undef, undef, undef, undef, undef, undef, undef, undef, undef, undef, undef, undef, undef] rfl ⟨rfl, rfl, rfl, rfl, rfl, rfl, rfl, rfl, rfl, rfl, rfl, rfl, rfl, rfl, rfl, rfl, rfl, rfl, rfl, rfl, rfl, rfl, rfl, rfl, rfl, rfl, trivial⟩ ?_
    refine wc_loop (fun e' w' => ∃ (k : Nat) (u4x u11x u12x u13x u14x u15x u16x u17x u18x u19x u20x u21x u22x u23x u24x u25x : Value), e' = lst [(.slice a1 x_a.length c2), (.slice a6 x_b.length c7), undef, undef, u4x, (.int .i64 ((k : Nat) : Int)), (.slice a1 x_a.length c2), (.int .i64 (x_a.length : Int)), (.slice a6 x_b.length c7), (.int .i64 (x_b.length : Int)), (.bool (!(decide ((x_a.length : Int) = (x_b.length : Int))))), u11x, u12x, u13x, u14x, u15x, u16x, u17x, u18x, u19x, u20x, u21x, u22x, u23x, u24x, u25x] ∧ Ch (fun k => w0.heap.size ≤ k) w0 w' ∧ Ch (fun k => w0.heap.size ≤ k) w0 w' ∧ k ≤ x_a.length ∧ x_a.take k = x_b.take k) (fun e' _ => x_a.length - ((intOf (e' 5))).toNat) ?_ ?_
    · exact ⟨0, (.bool false), undef, undef, undef, undef, undef, undef, undef, undef, undef, undef, undef, undef, undef, undef, undef, (congrArg (fun (x5z : Value) => lst [(.slice a1 x_a.length c2), (.slice a6 x_b.length c7), undef, undef, (.bool false), x5z, (.slice a1 x_a.length c2), (.int .i64 (x_a.length : Int)), (.slice a6 x_b.length c7), (.int .i64 (x_b.length : Int)), (.bool (!(decide ((x_a.length : Int) = (x_b.length : Int))))), undef, undef, undef, undef, undef, undef, undef, undef, undef, undef, undef, undef, undef, undef, undef]) (congrArg (Value.int .i64) (show (0 : Int) = ((0 : Nat) : Int) by omega))), (Ch.base w0), (Ch.refl (fun k => w0.heap.size ≤ k) w0), (by omega), (by first | rfl | exact eqB_next (by assumption) (by omega) (by omega) (by assumption))⟩
    · rintro _ w1 ⟨k, u4x, u11x, u12x, u13x, u14x, u15x, u16x, u17x, u18x, u19x, u20x, u21x, u22x, u23x, u24x, u25x, rfl, m13, k14, i15, i16⟩
      refine wc_seq ?_
      refine wc_seq ?_
      refine wc_region ?_
      refine wl_mv (.int .i64 ((k : Nat) : Int)) (want_none rfl) rfl rfl (.inl rfl) rfl ?_
      refine wl_mv (.slice a1 x_a.length c2) (want_none rfl) rfl rfl (.inl rfl) rfl ?_
      refine wl_len (want_none rfl) rfl rfl rfl slTy_22 rfl (r3.from0 m13) ?_
      refine wl_pure (.bool (decide (((k : Nat) : Int) < (x_a.length : Int)))) (want_none rfl) rfl rfl (by kernel_rfl) ?_
      refine wl_nil ?_
      refine wq_then ?_
      rcases Bool.eq_false_or_eq_true (decide (((k : Nat) : Int) < (x_a.length : Int))) with h17 | h17
      · have q18 := of_decide_eq_true h17
        refine wc_true (congrArg Value.bool h17) ?_
        refine wc_skip ?_
        refine wq_then ?_
        refine wc_seq ?_
        refine wc_block ?_
        refine wc_seq ?_
        refine wc_draw ([(17, [], [], (fun _ v _ => v = (.slice a1 x_a.length c2))), (18, [], [], (fun _ v _ => v = (.int .i64 ((k : Nat) : Int)))), (19, [], [0, 1], (fun _ v _ => v = (.pointer (some (elA (.slice a1 x_a.length c2) ((((k : Nat) : Int)).toNat * 1)))))), (20, [], [0, 1, 2], (fun _ v _ => v = (.int .u8 ((x_a.getD k 0).toNat : Int)))), (21, [], [], (fun _ v _ => v = (.slice a6 x_b.length c7))), (22, [], [], (fun _ v _ => v = (.int .i64 ((k : Nat) : Int)))), (23, [], [4, 5], (fun _ v _ => v = (.pointer (some (elA (.slice a6 x_b.length c7) ((((k : Nat) : Int)).toNat * 1)))))), (24, [], [4, 5, 6], (fun _ v _ => v = (.int .u8 ((x_b.getD k 0).toNat : Int)))), (25, [], [0, 1, 2, 3, 4, 5, 6, 7], (fun _ v _ => v = (.bool (!(decide (((x_a.getD k 0).toNat : Int) = ((x_b.getD k 0).toNat : Int)))))))] : GV) mixed rfl (by kernel_rfl) (by kernel_rfl) ?_ ?_ ?_
        · exact ⟨(fun _ _ _ _ h _ => h), (fun _ _ _ _ _ h => h), ⟨(fun _ _ _ _ h _ => h), (fun _ _ _ _ _ h => h), ⟨(fun _ _ _ _ h _ => h), (fun _ _ _ _ _ h => h), ⟨(fun _ _ _ _ h _ => h), (fun _ _ _ _ _ h => h), ⟨(fun _ _ _ _ h _ => h), (fun _ _ _ _ _ h => h), ⟨(fun _ _ _ _ h _ => h), (fun _ _ _ _ _ h => h), ⟨(fun _ _ _ _ h _ => h), (fun _ _ _ _ _ h => h), ⟨(fun _ _ _ _ h _ => h), (fun _ _ _ _ _ h => h), ⟨(fun _ _ _ _ h _ => h), (fun _ _ _ _ _ h => h), trivial⟩⟩⟩⟩⟩⟩⟩⟩⟩
        · refine ⟨?_, ⟨?_, ⟨?_, ⟨?_, ⟨?_, ⟨?_, ⟨?_, ⟨?_, ⟨?_, trivial⟩⟩⟩⟩⟩⟩⟩⟩⟩
          · intro w2 k19
            have m20 := m13.extk k19
            intro u21
            intro u22
            intro u23
            intro u24
            intro u25
            intro u26
            intro u27
            intro u28
            intro u29
            show WL _ _ _ _ _ _ _
            refine wl_mv (.slice a1 x_a.length c2) (want_none rfl) rfl rfl (.inl rfl) rfl ?_
            exact wl_fin (Ch.refl _ _) rfl
          · intro w2 k30
            have m31 := m13.extk k30
            intro u32
            intro u33
            intro u34
            intro u35
            intro u36
            intro u37
            intro u38
            intro u39
            intro u40
            show WL _ _ _ _ _ _ _
            refine wl_mv (.int .i64 ((k : Nat) : Int)) (want_none rfl) rfl rfl (.inl rfl) rfl ?_
            exact wl_fin (Ch.refl _ _) rfl
          · intro w2 k41
            have m42 := m13.extk k41
            rintro _ rfl
            rintro _ rfl
            intro u43
            intro u44
            intro u45
            intro u46
            intro u47
            intro u48
            intro u49
            show WL _ _ _ _ _ _ _
            refine wl_index (want_none rfl) ((k : Nat) : Int) rfl rfl rfl slTy_22 rfl rfl (r3.from0 m42) (by first | omega | (simp only [List.length_cons, List.length_nil, List.length_replicate, List.length_append, List.length_take, List.length_set, List.length_map]; omega)) (by first | omega | (simp only [List.length_cons, List.length_nil, List.length_replicate, List.length_append, List.length_take, List.length_set, List.length_map]; omega)) ?_
            exact wl_fin (Ch.refl _ _) rfl
          · intro w2 k50
            have m51 := m13.extk k50
            rintro _ rfl
            rintro _ rfl
            rintro _ rfl
            intro u52
            intro u53
            intro u54
            intro u55
            intro u56
            intro u57
            show WL _ _ _ _ _ _ _
            refine wl_loadE (bV (x_a.getD k 0)) (want_none rfl) rfl rfl rfl rfl isAgg_5 (r3.from0 m51) (bget (by simp) (by first | omega | (simp only [List.length_cons, List.length_nil, List.length_replicate, List.length_append, List.length_take, List.length_set, List.length_map]; omega))) ?_
            exact wl_fin (Ch.refl _ _) rfl
          · intro w2 k58
            have m59 := m13.extk k58
            intro u60
            intro u61
            intro u62
            intro u63
            intro u64
            intro u65
            intro u66
            intro u67
            intro u68
            show WL _ _ _ _ _ _ _
            refine wl_mv (.slice a6 x_b.length c7) (want_none rfl) rfl rfl (.inl rfl) rfl ?_
            exact wl_fin (Ch.refl _ _) rfl
          · intro w2 k69
            have m70 := m13.extk k69
            intro u71
            intro u72
            intro u73
            intro u74
            intro u75
            intro u76
            intro u77
            intro u78
            intro u79
            show WL _ _ _ _ _ _ _
            refine wl_mv (.int .i64 ((k : Nat) : Int)) (want_none rfl) rfl rfl (.inl rfl) rfl ?_
            exact wl_fin (Ch.refl _ _) rfl
          · intro w2 k80
            have m81 := m13.extk k80
            intro u82
            intro u83
            intro u84
            intro u85
            rintro _ rfl
            rintro _ rfl
            intro u86
            intro u87
            intro u88
            show WL _ _ _ _ _ _ _
            refine wl_index (want_none rfl) ((k : Nat) : Int) rfl rfl rfl slTy_22 rfl rfl (r8.from0 m81) (by first | omega | (simp only [List.length_cons, List.length_nil, List.length_replicate, List.length_append, List.length_take, List.length_set, List.length_map]; omega)) (by first | omega | (simp only [List.length_cons, List.length_nil, List.length_replicate, List.length_append, List.length_take, List.length_set, List.length_map]; omega)) ?_
            exact wl_fin (Ch.refl _ _) rfl
          · intro w2 k89
            have m90 := m13.extk k89
            intro u91
            intro u92
            intro u93
            intro u94
            rintro _ rfl
            rintro _ rfl
            rintro _ rfl
            intro u95
            intro u96
            show WL _ _ _ _ _ _ _
            refine wl_loadE (bV (x_b.getD k 0)) (want_none rfl) rfl rfl rfl rfl isAgg_5 (r8.from0 m90) (bget (by simp) (by first | omega | (simp only [List.length_cons, List.length_nil, List.length_replicate, List.length_append, List.length_take, List.length_set, List.length_map]; omega))) ?_
            exact wl_fin (Ch.refl _ _) rfl
          · intro w2 k97
            have m98 := m13.extk k97
            rintro _ rfl
            rintro _ rfl
            rintro _ rfl
            rintro _ rfl
            rintro _ rfl
            rintro _ rfl
            rintro _ rfl
            rintro _ rfl
            intro u99
            show WL _ _ _ _ _ _ _
            refine wl_pure (.bool (!(decide (((x_a.getD k 0).toNat : Int) = ((x_b.getD k 0).toNat : Int))))) (want_none rfl) rfl rfl (by kernel_rfl) ?_
            exact wl_fin (Ch.refl _ _) rfl
        · intro w2 k100
          have m101 := m13.extk k100
          rintro _ rfl
          rintro _ rfl
          rintro _ rfl
          rintro _ rfl
          rintro _ rfl
          rintro _ rfl
          rintro _ rfl
          rintro _ rfl
          rintro _ rfl
          show WL _ _ _ _ _ _ _
          refine wl_nil ?_
          refine wq_then ?_
          rcases Bool.eq_false_or_eq_true (decide (((x_a.getD k 0).toNat : Int) = ((x_b.getD k 0).toNat : Int))) with h102 | h102
          · have q103 := of_decide_eq_true h102
            refine wc_false (congrArg (fun b => Value.bool (!b)) h102) ?_
            refine wc_skip ?_
            refine wq_blk_normal ?_
            refine wq_then ?_
            refine wc_region ?_
            refine wl_mv (.int .i64 ((k : Nat) : Int)) (want_none rfl) rfl rfl (.inl rfl) rfl ?_
            refine wl_arith (((k : Nat) : Int) + 1) (want_none rfl) rfl rfl (by kernel_rfl) (by omega) (by omega) ?_
            refine wl_mv (.int .i64 (((k : Nat) : Int) + 1)) (want_none rfl) rfl rfl (.inr rfl) rfl ?_
            refine wl_nil ?_
            exact wq_loopN (w0 := w1) [(.slice a1 x_a.length c2), (.slice a6 x_b.length c7), undef, undef, u4x, (.int .i64 (((k + 1) : Nat) : Int)), (.slice a1 x_a.length c2), (.int .i64 (x_a.length : Int)), (.slice a6 x_b.length c7), (.int .i64 (x_b.length : Int)), (.bool (!(decide ((x_a.length : Int) = (x_b.length : Int))))), (.int .i64 ((k : Nat) : Int)), (.slice a1 x_a.length c2), (.int .i64 (x_a.length : Int)), (.bool (decide (((k : Nat) : Int) < (x_a.length : Int)))), (.int .i64 ((k : Nat) : Int)), (.int .i64 (((k : Nat) : Int) + 1)), (.slice a1 x_a.length c2), (.int .i64 ((k : Nat) : Int)), (.pointer (some (elA (.slice a1 x_a.length c2) ((((k : Nat) : Int)).toNat * 1)))), (.int .u8 ((x_a.getD k 0).toNat : Int)), (.slice a6 x_b.length c7), (.int .i64 ((k : Nat) : Int)), (.pointer (some (elA (.slice a6 x_b.length c7) ((((k : Nat) : Int)).toNat * 1)))), (.int .u8 ((x_b.getD k 0).toNat : Int)), (.bool (!(decide (((x_a.getD k 0).toNat : Int) = ((x_b.getD k 0).toNat : Int)))))] rfl ⟨rfl, rfl, rfl, rfl, rfl, (congrArg (Value.int .i64) (show ((((k : Nat) : Int) + 1) : Int) = (((k + 1) : Nat) : Int) by omega)), rfl, rfl, rfl, rfl, rfl, rfl, rfl, rfl, rfl, rfl, rfl, rfl, rfl, rfl, rfl, rfl, rfl, rfl, rfl, rfl, trivial⟩ ⟨(k + 1), u4x, (.int .i64 ((k : Nat) : Int)), (.slice a1 x_a.length c2), (.int .i64 (x_a.length : Int)), (.bool (decide (((k : Nat) : Int) < (x_a.length : Int)))), (.int .i64 ((k : Nat) : Int)), (.int .i64 (((k : Nat) : Int) + 1)), (.slice a1 x_a.length c2), (.int .i64 ((k : Nat) : Int)), (.pointer (some (elA (.slice a1 x_a.length c2) ((((k : Nat) : Int)).toNat * 1)))), (.int .u8 ((x_a.getD k 0).toNat : Int)), (.slice a6 x_b.length c7), (.int .i64 ((k : Nat) : Int)), (.pointer (some (elA (.slice a6 x_b.length c7) ((((k : Nat) : Int)).toNat * 1)))), (.int .u8 ((x_b.getD k 0).toNat : Int)), (.bool (!(decide (((x_a.getD k 0).toNat : Int) = ((x_b.getD k 0).toNat : Int))))), rfl, m101, (((Ch.refl (fun k => w0.heap.size ≤ k) w0).ext k14 (fun k hk => Nat.le_trans (Nat.le_refl _) hk)).extk k100), (by omega), (by first | rfl | exact eqB_next (by assumption) (by omega) (by omega) (by assumption))⟩ (by show x_a.length - ((((k + 1) : Nat) : Int)).toNat < x_a.length - (((k : Nat) : Int)).toNat; omega)
          · have q104 := of_decide_eq_false h102
            refine wc_true (congrArg (fun b => Value.bool (!b)) h102) ?_
            refine wc_seq ?_
            refine wc_region ?_
            refine wl_mv (.bool false) (want_none rfl) rfl rfl (.inr rfl) rfl ?_
            refine wl_nil ?_
            refine wq_then ?_
            refine wc_ret ?_
            refine wq_blk_ret ?_
            refine wq_then_ret ?_
            refine wq_then_ret ?_
            refine wq_blk_ret ?_
            refine wq_then_ret ?_
            refine ret_1 (.inl rfl) (.bool false) rfl rfl ?_
            refine ⟨m101.keep0, ?_⟩
            have hF105 : eqB x_a x_b = false := by first | exact eqB_len (by assumption) | exact eqB_el (by assumption) | exact eqB_all (by assumption) (by omega) (by omega)
            rw [hF105]
            exact rfl
      · have q106 := of_decide_eq_false h17
        refine wc_false (congrArg Value.bool h17) ?_
        refine wc_exit ?_
        refine wq_then_exit ?_
        refine wq_then_exit ?_
        refine wq_blk_exit ?_
        refine wq_then ?_
        refine wc_seq ?_
        refine wc_region ?_
        refine wl_mv (.bool true) (want_none rfl) rfl rfl (.inr rfl) rfl ?_
        refine wl_nil ?_
        refine wq_then ?_
        refine wc_ret ?_
        refine ret_1 (.inl rfl) (.bool true) rfl rfl ?_
        refine ⟨m13.keep0, ?_⟩
        have hF107 : eqB x_a x_b = true := by first | exact eqB_len (by assumption) | exact eqB_el (by assumption) | exact eqB_all (by assumption) (by omega) (by omega)
        rw [hF107]
        exact rfl
  · have q108 := of_decide_eq_false h11
    refine wc_true (congrArg (fun b => Value.bool (!b)) h11) ?_
    refine wc_seq ?_
    refine wc_region ?_
    refine wl_mv (.bool false) (want_none rfl) rfl rfl (.inr rfl) rfl ?_
    refine wl_nil ?_
    refine wq_then ?_
    refine wc_ret ?_
    refine wq_then_ret ?_
    refine ret_1 (.inl rfl) (.bool false) rfl rfl ?_
    refine ⟨Ch.refl _ _, ?_⟩
    have hF109 : eqB x_a x_b = false := by first | exact eqB_len (by assumption) | exact eqB_el (by assumption) | exact eqB_all (by assumption) (by omega) (by omega)
    rw [hF109]
    exact rfl

theorem isAgg_3 : ∀ w, (isAgg 3).run Try.prog w = .ok false w := fun w => by kernel_rfl
def R_23 (w : World) (v : Value) (x : (List Int)) : Prop := ∃ (a1 : Option Addr) (c1 : Nat), v = .slice a1 x.length c1 ∧ Rd w 1 (.slice a1 x.length c1) x.length (x.map iV) ∧ x.length ≤ 1073741824
theorem C_laws_eqIntS (w0 : World) (v_x_a : Value) (x_a : List Int) (r_x_a : R_23 w0 v_x_a x_a) (v_x_b : Value) (x_b : List Int) (r_x_b : R_23 w0 v_x_b x_b)  : Fn Try.prog 119 #[v_x_a, v_x_b] w0 (fun v w' => Keep w0 w' ∧ O_4 w' w0.heap.size v (eqI x_a x_b)) := by
  obtain ⟨a1, c2, rfl, r3, s4⟩ := r_x_a
  obtain ⟨a6, c7, rfl, r8, s9⟩ := r_x_b
  refine fn_of (n := 26) (l := [(.slice a1 x_a.length c2), (.slice a6 x_b.length c7), undef, undef, undef, undef, undef, undef, undef, undef, undef, undef, undef, undef, undef, undef, undef, undef, undef, undef, undef, undef, undef, undef, undef, undef]) Try.func119 rfl rfl (by kernel_rfl) rfl ?_
  refine wc_seq ?_
  refine wc_region ?_
  refine wl_mv (.bool false) (want_none rfl) rfl rfl (.inr rfl) rfl ?_
  refine wl_nil ?_
  refine wq_then ?_
  refine wc_seq ?_
  refine wc_seq ?_
  refine wc_region ?_
  refine wl_mv (.slice a1 x_a.length c2) (want_none rfl) rfl rfl (.inl rfl) rfl ?_
  refine wl_len (want_none rfl) rfl rfl rfl slTy_23 rfl r3 ?_
  refine wl_mv (.slice a6 x_b.length c7) (want_none rfl) rfl rfl (.inl rfl) rfl ?_
  refine wl_len (want_none rfl) rfl rfl rfl slTy_23 rfl r8 ?_
  refine wl_pure (.bool (!(decide ((x_a.length : Int) = (x_b.length : Int))))) (want_none rfl) rfl rfl (by kernel_rfl) ?_
  refine wl_nil ?_
  refine wq_then ?_
  rcases Bool.eq_false_or_eq_true (decide ((x_a.length : Int) = (x_b.length : Int))) with h11 | h11
  · have q12 := of_decide_eq_true h11
    refine wc_false (congrArg (fun b => Value.bool (!b)) h11) ?_
    refine wc_skip ?_
    refine wq_then ?_
    refine wc_seq ?_
    refine wc_seq ?_
    refine wc_region ?_
    refine wl_mv (.int .i64 0) (want_none rfl) rfl rfl (.inr rfl) rfl ?_
    refine wl_nil ?_
    refine wq_then ?_
    refine wc_block ?_
    refine wc_norm [(.slice a1 x_a.length c2), (.slice a6 x_b.length c7), undef, undef, (.bool false), (.int .i64 0), (.slice a1 x_a.length c2), (.int .i64 (x_a.length : Int)), (.slice a6 x_b.length c7), (.int .i64 (x_b.length : Int)), (.bool (!(decide ((x_a.length : Int) = (x_b.length : Int))))), undef, undef, undef, undef, undef, undef, undef, undef, undef, undef, undef, undef, undef, undef, undef] rfl ⟨rfl, rfl, rfl, rfl, rfl, rfl, rfl, rfl, rfl, rfl, rfl, rfl, rfl, rfl, rfl, rfl, rfl, rfl, rfl, rfl, rfl, rfl, rfl, rfl, rfl, rfl, trivial⟩ ?_
    refine wc_loop (fun e' w' => ∃ (k : Nat) (u4x u11x u12x u13x u14x u15x u16x u17x u18x u19x u20x u21x u22x u23x u24x u25x : Value), e' = lst [(.slice a1 x_a.length c2), (.slice a6 x_b.length c7), undef, undef, u4x, (.int .i64 ((k : Nat) : Int)), (.slice a1 x_a.length c2), (.int .i64 (x_a.length : Int)), (.slice a6 x_b.length c7), (.int .i64 (x_b.length : Int)), (.bool (!(decide ((x_a.length : Int) = (x_b.length : Int))))), u11x, u12x, u13x, u14x, u15x, u16x, u17x, u18x, u19x, u20x, u21x, u22x, u23x, u24x, u25x] ∧ Ch (fun k => w0.heap.size ≤ k) w0 w' ∧ Ch (fun k => w0.heap.size ≤ k) w0 w' ∧ k ≤ x_a.length ∧ x_a.take k = x_b.take k) (fun e' _ => x_a.length - ((intOf (e' 5))).toNat) ?_ ?_
    · exact ⟨0, (.bool false), undef, undef, undef, undef, undef, undef, undef, undef, undef, undef, undef, undef, undef, undef, undef, (congrArg (fun (x5z : Value) => lst [(.slice a1 x_a.length c2), (.slice a6 x_b.length c7), undef, undef, (.bool false), x5z, (.slice a1 x_a.length c2), (.int .i64 (x_a.length : Int)), (.slice a6 x_b.length c7), (.int .i64 (x_b.length : Int)), (.bool (!(decide ((x_a.length : Int) = (x_b.length : Int))))), undef, undef, undef, undef, undef, undef, undef, undef, undef, undef, undef, undef, undef, undef, undef]) (congrArg (Value.int .i64) (show (0 : Int) = ((0 : Nat) : Int) by omega))), (Ch.base w0), (Ch.refl (fun k => w0.heap.size ≤ k) w0), (by omega), (by first | rfl | exact eqI_next (by assumption) (by omega) (by omega) (by assumption))⟩
    · rintro _ w1 ⟨k, u4x, u11x, u12x, u13x, u14x, u15x, u16x, u17x, u18x, u19x, u20x, u21x, u22x, u23x, u24x, u25x, rfl, m13, k14, i15, i16⟩
      refine wc_seq ?_
      refine wc_seq ?_
      refine wc_region ?_
      refine wl_mv (.int .i64 ((k : Nat) : Int)) (want_none rfl) rfl rfl (.inl rfl) rfl ?_
      refine wl_mv (.slice a1 x_a.length c2) (want_none rfl) rfl rfl (.inl rfl) rfl ?_
      refine wl_len (want_none rfl) rfl rfl rfl slTy_23 rfl (r3.from0 m13) ?_
      refine wl_pure (.bool (decide (((k : Nat) : Int) < (x_a.length : Int)))) (want_none rfl) rfl rfl (by kernel_rfl) ?_
      refine wl_nil ?_
      refine wq_then ?_
      rcases Bool.eq_false_or_eq_true (decide (((k : Nat) : Int) < (x_a.length : Int))) with h17 | h17
      · have q18 := of_decide_eq_true h17
        refine wc_true (congrArg Value.bool h17) ?_
        refine wc_skip ?_
        refine wq_then ?_
        refine wc_seq ?_
        refine wc_block ?_
        refine wc_seq ?_
        refine wc_draw ([(17, [], [], (fun _ v _ => v = (.slice a1 x_a.length c2))), (18, [], [], (fun _ v _ => v = (.int .i64 ((k : Nat) : Int)))), (19, [], [0, 1], (fun _ v _ => v = (.pointer (some (elA (.slice a1 x_a.length c2) ((((k : Nat) : Int)).toNat * 1)))))), (20, [], [0, 1, 2], (fun _ v _ => v = (.int .i64 (x_a.getD k 0)))), (21, [], [], (fun _ v _ => v = (.slice a6 x_b.length c7))), (22, [], [], (fun _ v _ => v = (.int .i64 ((k : Nat) : Int)))), (23, [], [4, 5], (fun _ v _ => v = (.pointer (some (elA (.slice a6 x_b.length c7) ((((k : Nat) : Int)).toNat * 1)))))), (24, [], [4, 5, 6], (fun _ v _ => v = (.int .i64 (x_b.getD k 0)))), (25, [], [0, 1, 2, 3, 4, 5, 6, 7], (fun _ v _ => v = (.bool (!(decide ((x_a.getD k 0) = (x_b.getD k 0)))))))] : GV) mixed rfl (by kernel_rfl) (by kernel_rfl) ?_ ?_ ?_
        · exact ⟨(fun _ _ _ _ h _ => h), (fun _ _ _ _ _ h => h), ⟨(fun _ _ _ _ h _ => h), (fun _ _ _ _ _ h => h), ⟨(fun _ _ _ _ h _ => h), (fun _ _ _ _ _ h => h), ⟨(fun _ _ _ _ h _ => h), (fun _ _ _ _ _ h => h), ⟨(fun _ _ _ _ h _ => h), (fun _ _ _ _ _ h => h), ⟨(fun _ _ _ _ h _ => h), (fun _ _ _ _ _ h => h), ⟨(fun _ _ _ _ h _ => h), (fun _ _ _ _ _ h => h), ⟨(fun _ _ _ _ h _ => h), (fun _ _ _ _ _ h => h), ⟨(fun _ _ _ _ h _ => h), (fun _ _ _ _ _ h => h), trivial⟩⟩⟩⟩⟩⟩⟩⟩⟩
        · refine ⟨?_, ⟨?_, ⟨?_, ⟨?_, ⟨?_, ⟨?_, ⟨?_, ⟨?_, ⟨?_, trivial⟩⟩⟩⟩⟩⟩⟩⟩⟩
          · intro w2 k19
            have m20 := m13.extk k19
            intro u21
            intro u22
            intro u23
            intro u24
            intro u25
            intro u26
            intro u27
            intro u28
            intro u29
            show WL _ _ _ _ _ _ _
            refine wl_mv (.slice a1 x_a.length c2) (want_none rfl) rfl rfl (.inl rfl) rfl ?_
            exact wl_fin (Ch.refl _ _) rfl
          · intro w2 k30
            have m31 := m13.extk k30
            intro u32
            intro u33
            intro u34
            intro u35
            intro u36
            intro u37
            intro u38
            intro u39
            intro u40
            show WL _ _ _ _ _ _ _
            refine wl_mv (.int .i64 ((k : Nat) : Int)) (want_none rfl) rfl rfl (.inl rfl) rfl ?_
            exact wl_fin (Ch.refl _ _) rfl
          · intro w2 k41
            have m42 := m13.extk k41
            rintro _ rfl
            rintro _ rfl
            intro u43
            intro u44
            intro u45
            intro u46
            intro u47
            intro u48
            intro u49
            show WL _ _ _ _ _ _ _
            refine wl_index (want_none rfl) ((k : Nat) : Int) rfl rfl rfl slTy_23 rfl rfl (r3.from0 m42) (by first | omega | (simp only [List.length_cons, List.length_nil, List.length_replicate, List.length_append, List.length_take, List.length_set, List.length_map]; omega)) (by first | omega | (simp only [List.length_cons, List.length_nil, List.length_replicate, List.length_append, List.length_take, List.length_set, List.length_map]; omega)) ?_
            exact wl_fin (Ch.refl _ _) rfl
          · intro w2 k50
            have m51 := m13.extk k50
            rintro _ rfl
            rintro _ rfl
            rintro _ rfl
            intro u52
            intro u53
            intro u54
            intro u55
            intro u56
            intro u57
            show WL _ _ _ _ _ _ _
            refine wl_loadE (iV (x_a.getD k 0)) (want_none rfl) rfl rfl rfl rfl isAgg_3 (r3.from0 m51) (iget (by simp) (by first | omega | (simp only [List.length_cons, List.length_nil, List.length_replicate, List.length_append, List.length_take, List.length_set, List.length_map]; omega))) ?_
            exact wl_fin (Ch.refl _ _) rfl
          · intro w2 k58
            have m59 := m13.extk k58
            intro u60
            intro u61
            intro u62
            intro u63
            intro u64
            intro u65
            intro u66
            intro u67
            intro u68
            show WL _ _ _ _ _ _ _
            refine wl_mv (.slice a6 x_b.length c7) (want_none rfl) rfl rfl (.inl rfl) rfl ?_
            exact wl_fin (Ch.refl _ _) rfl
          · intro w2 k69
            have m70 := m13.extk k69
            intro u71
            intro u72
            intro u73
            intro u74
            intro u75
            intro u76
            intro u77
            intro u78
            intro u79
            show WL _ _ _ _ _ _ _
            refine wl_mv (.int .i64 ((k : Nat) : Int)) (want_none rfl) rfl rfl (.inl rfl) rfl ?_
            exact wl_fin (Ch.refl _ _) rfl
          · intro w2 k80
            have m81 := m13.extk k80
            intro u82
            intro u83
            intro u84
            intro u85
            rintro _ rfl
            rintro _ rfl
            intro u86
            intro u87
            intro u88
            show WL _ _ _ _ _ _ _
            refine wl_index (want_none rfl) ((k : Nat) : Int) rfl rfl rfl slTy_23 rfl rfl (r8.from0 m81) (by first | omega | (simp only [List.length_cons, List.length_nil, List.length_replicate, List.length_append, List.length_take, List.length_set, List.length_map]; omega)) (by first | omega | (simp only [List.length_cons, List.length_nil, List.length_replicate, List.length_append, List.length_take, List.length_set, List.length_map]; omega)) ?_
            exact wl_fin (Ch.refl _ _) rfl
          · intro w2 k89
            have m90 := m13.extk k89
            intro u91
            intro u92
            intro u93
            intro u94
            rintro _ rfl
            rintro _ rfl
            rintro _ rfl
            intro u95
            intro u96
            show WL _ _ _ _ _ _ _
            refine wl_loadE (iV (x_b.getD k 0)) (want_none rfl) rfl rfl rfl rfl isAgg_3 (r8.from0 m90) (iget (by simp) (by first | omega | (simp only [List.length_cons, List.length_nil, List.length_replicate, List.length_append, List.length_take, List.length_set, List.length_map]; omega))) ?_
            exact wl_fin (Ch.refl _ _) rfl
          · intro w2 k97
            have m98 := m13.extk k97
            rintro _ rfl
            rintro _ rfl
            rintro _ rfl
            rintro _ rfl
            rintro _ rfl
            rintro _ rfl
            rintro _ rfl
            rintro _ rfl
            intro u99
            show WL _ _ _ _ _ _ _
            refine wl_pure (.bool (!(decide ((x_a.getD k 0) = (x_b.getD k 0))))) (want_none rfl) rfl rfl (by kernel_rfl) ?_
            exact wl_fin (Ch.refl _ _) rfl
        · intro w2 k100
          have m101 := m13.extk k100
          rintro _ rfl
          rintro _ rfl
          rintro _ rfl
          rintro _ rfl
          rintro _ rfl
          rintro _ rfl
          rintro _ rfl
          rintro _ rfl
          rintro _ rfl
          show WL _ _ _ _ _ _ _
          refine wl_nil ?_
          refine wq_then ?_
          rcases Bool.eq_false_or_eq_true (decide ((x_a.getD k 0) = (x_b.getD k 0))) with h102 | h102
          · have q103 := of_decide_eq_true h102
            refine wc_false (congrArg (fun b => Value.bool (!b)) h102) ?_
            refine wc_skip ?_
            refine wq_blk_normal ?_
            refine wq_then ?_
            refine wc_region ?_
            refine wl_mv (.int .i64 ((k : Nat) : Int)) (want_none rfl) rfl rfl (.inl rfl) rfl ?_
            refine wl_arith (((k : Nat) : Int) + 1) (want_none rfl) rfl rfl (by kernel_rfl) (by omega) (by omega) ?_
            refine wl_mv (.int .i64 (((k : Nat) : Int) + 1)) (want_none rfl) rfl rfl (.inr rfl) rfl ?_
            refine wl_nil ?_
            exact wq_loopN (w0 := w1) [(.slice a1 x_a.length c2), (.slice a6 x_b.length c7), undef, undef, u4x, (.int .i64 (((k + 1) : Nat) : Int)), (.slice a1 x_a.length c2), (.int .i64 (x_a.length : Int)), (.slice a6 x_b.length c7), (.int .i64 (x_b.length : Int)), (.bool (!(decide ((x_a.length : Int) = (x_b.length : Int))))), (.int .i64 ((k : Nat) : Int)), (.slice a1 x_a.length c2), (.int .i64 (x_a.length : Int)), (.bool (decide (((k : Nat) : Int) < (x_a.length : Int)))), (.int .i64 ((k : Nat) : Int)), (.int .i64 (((k : Nat) : Int) + 1)), (.slice a1 x_a.length c2), (.int .i64 ((k : Nat) : Int)), (.pointer (some (elA (.slice a1 x_a.length c2) ((((k : Nat) : Int)).toNat * 1)))), (.int .i64 (x_a.getD k 0)), (.slice a6 x_b.length c7), (.int .i64 ((k : Nat) : Int)), (.pointer (some (elA (.slice a6 x_b.length c7) ((((k : Nat) : Int)).toNat * 1)))), (.int .i64 (x_b.getD k 0)), (.bool (!(decide ((x_a.getD k 0) = (x_b.getD k 0)))))] rfl ⟨rfl, rfl, rfl, rfl, rfl, (congrArg (Value.int .i64) (show ((((k : Nat) : Int) + 1) : Int) = (((k + 1) : Nat) : Int) by omega)), rfl, rfl, rfl, rfl, rfl, rfl, rfl, rfl, rfl, rfl, rfl, rfl, rfl, rfl, rfl, rfl, rfl, rfl, rfl, rfl, trivial⟩ ⟨(k + 1), u4x, (.int .i64 ((k : Nat) : Int)), (.slice a1 x_a.length c2), (.int .i64 (x_a.length : Int)), (.bool (decide (((k : Nat) : Int) < (x_a.length : Int)))), (.int .i64 ((k : Nat) : Int)), (.int .i64 (((k : Nat) : Int) + 1)), (.slice a1 x_a.length c2), (.int .i64 ((k : Nat) : Int)), (.pointer (some (elA (.slice a1 x_a.length c2) ((((k : Nat) : Int)).toNat * 1)))), (.int .i64 (x_a.getD k 0)), (.slice a6 x_b.length c7), (.int .i64 ((k : Nat) : Int)), (.pointer (some (elA (.slice a6 x_b.length c7) ((((k : Nat) : Int)).toNat * 1)))), (.int .i64 (x_b.getD k 0)), (.bool (!(decide ((x_a.getD k 0) = (x_b.getD k 0))))), rfl, m101, (((Ch.refl (fun k => w0.heap.size ≤ k) w0).ext k14 (fun k hk => Nat.le_trans (Nat.le_refl _) hk)).extk k100), (by omega), (by first | rfl | exact eqI_next (by assumption) (by omega) (by omega) (by assumption))⟩ (by show x_a.length - ((((k + 1) : Nat) : Int)).toNat < x_a.length - (((k : Nat) : Int)).toNat; omega)
          · have q104 := of_decide_eq_false h102
            refine wc_true (congrArg (fun b => Value.bool (!b)) h102) ?_
            refine wc_seq ?_
            refine wc_region ?_
            refine wl_mv (.bool false) (want_none rfl) rfl rfl (.inr rfl) rfl ?_
            refine wl_nil ?_
            refine wq_then ?_
            refine wc_ret ?_
            refine wq_blk_ret ?_
            refine wq_then_ret ?_
            refine wq_then_ret ?_
            refine wq_blk_ret ?_
            refine wq_then_ret ?_
            refine ret_1 (.inl rfl) (.bool false) rfl rfl ?_
            refine ⟨m101.keep0, ?_⟩
            have hF105 : eqI x_a x_b = false := by first | exact eqI_len (by assumption) | exact eqI_el (by assumption) | exact eqI_all (by assumption) (by omega) (by omega)
            rw [hF105]
            exact rfl
      · have q106 := of_decide_eq_false h17
        refine wc_false (congrArg Value.bool h17) ?_
        refine wc_exit ?_
        refine wq_then_exit ?_
        refine wq_then_exit ?_
        refine wq_blk_exit ?_
        refine wq_then ?_
        refine wc_seq ?_
        refine wc_region ?_
        refine wl_mv (.bool true) (want_none rfl) rfl rfl (.inr rfl) rfl ?_
        refine wl_nil ?_
        refine wq_then ?_
        refine wc_ret ?_
        refine ret_1 (.inl rfl) (.bool true) rfl rfl ?_
        refine ⟨m13.keep0, ?_⟩
        have hF107 : eqI x_a x_b = true := by first | exact eqI_len (by assumption) | exact eqI_el (by assumption) | exact eqI_all (by assumption) (by omega) (by omega)
        rw [hF107]
        exact rfl
  · have q108 := of_decide_eq_false h11
    refine wc_true (congrArg (fun b => Value.bool (!b)) h11) ?_
    refine wc_seq ?_
    refine wc_region ?_
    refine wl_mv (.bool false) (want_none rfl) rfl rfl (.inr rfl) rfl ?_
    refine wl_nil ?_
    refine wq_then ?_
    refine wc_ret ?_
    refine wq_then_ret ?_
    refine ret_1 (.inl rfl) (.bool false) rfl rfl ?_
    refine ⟨Ch.refl _ _, ?_⟩
    have hF109 : eqI x_a x_b = false := by first | exact eqI_len (by assumption) | exact eqI_el (by assumption) | exact eqI_all (by assumption) (by omega) (by omega)
    rw [hF109]
    exact rfl

def R_25 (w : World) (v : Value) (x : (PWin)) : Prop := ∃ (a1 : Option Addr) (c1 : Nat), v = .agg #[.int .i64 x.Top, .slice a1 x.Bits.length c1] ∧ Rd w 1 (.slice a1 x.Bits.length c1) x.Bits.length (x.Bits.map iV) ∧ x.Bits.length ≤ 1073741824
def F_laws_eqWin (x_a : PWin) (x_b : PWin) : (Bool) := bif (decide (x_a.Top = x_b.Top)) then (bif (eqI x_a.Bits x_b.Bits) then (true) else (false)) else (false)
theorem C_laws_eqWin (w0 : World) (v_x_a : Value) (x_a : PWin) (r_x_a : R_25 w0 v_x_a x_a) (v_x_b : Value) (x_b : PWin) (r_x_b : R_25 w0 v_x_b x_b)  : Fn Try.prog 105 #[v_x_a, v_x_b] w0 (fun v w' => Keep w0 w' ∧ O_4 w' w0.heap.size v (F_laws_eqWin x_a x_b)) := by
  obtain ⟨a1, c2, rfl, r3, s4⟩ := r_x_a
  obtain ⟨a6, c7, rfl, r8, s9⟩ := r_x_b
  refine fn_of (n := 16) (l := [(.agg #[(.int .i64 x_a.Top), (.slice a1 x_a.Bits.length c2)]), (.agg #[(.int .i64 x_b.Top), (.slice a6 x_b.Bits.length c7)]), undef, undef, undef, undef, undef, undef, undef, undef, undef, undef, undef, undef, undef, undef]) Try.func105 rfl rfl (by kernel_rfl) rfl ?_
  refine wc_seq ?_
  refine wc_region ?_
  refine wl_box (want_none rfl) [(.int .i64 x_a.Top), (.slice a1 x_a.Bits.length c2)] rfl rfl rfl rfl ?_
  intro g11 w1 p12 p13 k14 b15
  have m16 := (Ch.base w0).extk k14
  refine wl_box (want_none rfl) [(.int .i64 x_b.Top), (.slice a6 x_b.Bits.length c7)] rfl rfl rfl rfl ?_
  intro g17 w2 p18 p19 k20 b21
  have m22 := m16.extk k20
  refine wl_mv (.bool false) (want_none rfl) rfl rfl (.inr rfl) rfl ?_
  refine wl_nil ?_
  refine wq_then ?_
  refine wc_seq ?_
  refine wc_seq ?_
  refine wc_region ?_
  refine wl_pure (.pointer (some ⟨g11, 0, none⟩)) (want_none rfl) rfl rfl (by kernel_rfl) ?_
  have b23 := (b15.kp k20)
  refine wl_load1 (.int .i64 x_a.Top) (want_none rfl) rfl rfl rfl rfl isAgg_3 b23 rfl ?_
  refine wl_pure (.pointer (some ⟨g17, 0, none⟩)) (want_none rfl) rfl rfl (by kernel_rfl) ?_
  refine wl_load1 (.int .i64 x_b.Top) (want_none rfl) rfl rfl rfl rfl isAgg_3 b21 rfl ?_
  refine wl_pure (.bool (!(decide (x_a.Top = x_b.Top)))) (want_none rfl) rfl rfl (by kernel_rfl) ?_
  refine wl_nil ?_
  refine wq_then ?_
  rcases Bool.eq_false_or_eq_true (decide (x_a.Top = x_b.Top)) with h24 | h24
  · have q25 := of_decide_eq_true h24
    refine wc_false (congrArg (fun b => Value.bool (!b)) h24) ?_
    refine wc_skip ?_
    refine wq_then ?_
    refine wc_seq ?_
    refine wc_seq ?_
    refine wc_region ?_
    refine wl_pure (.pointer (some ⟨g11, 1, none⟩)) (want_none rfl) rfl rfl (by kernel_rfl) ?_
    refine wl_load1 (.slice a1 x_a.Bits.length c2) (want_none rfl) rfl rfl rfl rfl isAgg_23 b23 rfl ?_
    refine wl_pure (.pointer (some ⟨g17, 1, none⟩)) (want_none rfl) rfl rfl (by kernel_rfl) ?_
    refine wl_load1 (.slice a6 x_b.Bits.length c7) (want_none rfl) rfl rfl rfl rfl isAgg_23 b21 rfl ?_
    refine wl_call (want_none rfl) (args := #[(.slice a1 x_a.Bits.length c2), (.slice a6 x_b.Bits.length c7)]) rfl rfl (by kernel_rfl) (C_laws_eqIntS w2 (.slice a1 x_a.Bits.length c2) x_a.Bits (show R_23 w2 (.slice a1 x_a.Bits.length c2) x_a.Bits from ⟨_, _, rfl, (r3.from0 m22), s4⟩) (.slice a6 x_b.Bits.length c7) x_b.Bits (show R_23 w2 (.slice a6 x_b.Bits.length c7) x_b.Bits from ⟨_, _, rfl, (r8.from0 m22), s9⟩)) ?_
    rintro _ w3 ⟨k26, rfl⟩
    have m27 := m22.extk k26
    refine wl_pure (.bool (!(eqI x_a.Bits x_b.Bits))) (want_none rfl) rfl rfl (by kernel_rfl) ?_
    refine wl_nil ?_
    refine wq_then ?_
    rcases Bool.eq_false_or_eq_true (eqI x_a.Bits x_b.Bits) with h28 | h28
    · skip
      refine wc_false (congrArg (fun b => Value.bool (!b)) h28) ?_
      refine wc_skip ?_
      refine wq_then ?_
      refine wc_seq ?_
      refine wc_region ?_
      refine wl_mv (.bool true) (want_none rfl) rfl rfl (.inr rfl) rfl ?_
      refine wl_nil ?_
      refine wq_then ?_
      refine wc_ret ?_
      refine ret_1 (.inl rfl) (.bool true) rfl rfl ?_
      refine ⟨m27.keep0, ?_⟩
      have hF30 : F_laws_eqWin x_a x_b = true := by simp only [F_laws_eqWin, h24, h28, cond_true, cond_false]
      rw [hF30]
      exact rfl
    · skip
      refine wc_true (congrArg (fun b => Value.bool (!b)) h28) ?_
      refine wc_seq ?_
      refine wc_region ?_
      refine wl_mv (.bool false) (want_none rfl) rfl rfl (.inr rfl) rfl ?_
      refine wl_nil ?_
      refine wq_then ?_
      refine wc_ret ?_
      refine wq_then_ret ?_
      refine ret_1 (.inl rfl) (.bool false) rfl rfl ?_
      refine ⟨m27.keep0, ?_⟩
      have hF32 : F_laws_eqWin x_a x_b = false := by simp only [F_laws_eqWin, h24, h28, cond_true, cond_false]
      rw [hF32]
      exact rfl
  · have q33 := of_decide_eq_false h24
    refine wc_true (congrArg (fun b => Value.bool (!b)) h24) ?_
    refine wc_seq ?_
    refine wc_region ?_
    refine wl_mv (.bool false) (want_none rfl) rfl rfl (.inr rfl) rfl ?_
    refine wl_nil ?_
    refine wq_then ?_
    refine wc_ret ?_
    refine wq_then_ret ?_
    refine ret_1 (.inl rfl) (.bool false) rfl rfl ?_
    refine ⟨m22.keep0, ?_⟩
    have hF34 : F_laws_eqWin x_a x_b = false := by simp only [F_laws_eqWin, h24, cond_true, cond_false]
    rw [hF34]
    exact rfl

theorem isAgg_22 : ∀ w, (isAgg 22).run Try.prog w = .ok false w := fun w => by kernel_rfl
def R_27 (w : World) (v : Value) (x : (PEp)) : Prop := ∃ (a1 : Option Addr) (c1 : Nat) (a2 : Option Addr) (c2 : Nat), v = .agg #[.int .i64 x.N, .slice a1 x.Key.length c1, .int .i64 x.Seq, .int .i64 x.Win.Top, .slice a2 x.Win.Bits.length c2] ∧ Rd w 1 (.slice a1 x.Key.length c1) x.Key.length (x.Key.map bV) ∧ x.Key.length ≤ 1073741824 ∧ Rd w 1 (.slice a2 x.Win.Bits.length c2) x.Win.Bits.length (x.Win.Bits.map iV) ∧ x.Win.Bits.length ≤ 1073741824
def F_laws_eqEp (x_a : PEp) (x_b : PEp) : (Bool) := bif (decide (x_a.N = x_b.N)) then (bif (eqB x_a.Key x_b.Key) then (bif (decide (x_a.Seq = x_b.Seq)) then (bif (F_laws_eqWin x_a.Win x_b.Win) then (true) else (false)) else (false)) else (false)) else (false)
theorem C_laws_eqEp (w0 : World) (v_x_a : Value) (x_a : PEp) (r_x_a : R_27 w0 v_x_a x_a) (v_x_b : Value) (x_b : PEp) (r_x_b : R_27 w0 v_x_b x_b)  : Fn Try.prog 71 #[v_x_a, v_x_b] w0 (fun v w' => Keep w0 w' ∧ O_4 w' w0.heap.size v (F_laws_eqEp x_a x_b)) := by
  obtain ⟨a1, c2, a6, c7, rfl, r3, s4, r8, s9⟩ := r_x_a
  obtain ⟨a11, c12, a16, c17, rfl, r13, s14, r18, s19⟩ := r_x_b
  refine fn_of (n := 27) (l := [(.agg #[(.int .i64 x_a.N), (.slice a1 x_a.Key.length c2), (.int .i64 x_a.Seq), (.int .i64 x_a.Win.Top), (.slice a6 x_a.Win.Bits.length c7)]), (.agg #[(.int .i64 x_b.N), (.slice a11 x_b.Key.length c12), (.int .i64 x_b.Seq), (.int .i64 x_b.Win.Top), (.slice a16 x_b.Win.Bits.length c17)]), undef, undef, undef, undef, undef, undef, undef, undef, undef, undef, undef, undef, undef, undef, undef, undef, undef, undef, undef, undef, undef, undef, undef, undef, undef]) Try.func71 rfl rfl (by kernel_rfl) rfl ?_
  refine wc_seq ?_
  refine wc_region ?_
  refine wl_box (want_none rfl) [(.int .i64 x_a.N), (.slice a1 x_a.Key.length c2), (.int .i64 x_a.Seq), (.int .i64 x_a.Win.Top), (.slice a6 x_a.Win.Bits.length c7)] rfl rfl rfl rfl ?_
  intro g21 w1 p22 p23 k24 b25
  have m26 := (Ch.base w0).extk k24
  refine wl_box (want_none rfl) [(.int .i64 x_b.N), (.slice a11 x_b.Key.length c12), (.int .i64 x_b.Seq), (.int .i64 x_b.Win.Top), (.slice a16 x_b.Win.Bits.length c17)] rfl rfl rfl rfl ?_
  intro g27 w2 p28 p29 k30 b31
  have m32 := m26.extk k30
  refine wl_mv (.bool false) (want_none rfl) rfl rfl (.inr rfl) rfl ?_
  refine wl_nil ?_
  refine wq_then ?_
  refine wc_seq ?_
  refine wc_seq ?_
  refine wc_region ?_
  refine wl_pure (.pointer (some ⟨g21, 0, none⟩)) (want_none rfl) rfl rfl (by kernel_rfl) ?_
  have b33 := (b25.kp k30)
  refine wl_load1 (.int .i64 x_a.N) (want_none rfl) rfl rfl rfl rfl isAgg_3 b33 rfl ?_
  refine wl_pure (.pointer (some ⟨g27, 0, none⟩)) (want_none rfl) rfl rfl (by kernel_rfl) ?_
  refine wl_load1 (.int .i64 x_b.N) (want_none rfl) rfl rfl rfl rfl isAgg_3 b31 rfl ?_
  refine wl_pure (.bool (!(decide (x_a.N = x_b.N)))) (want_none rfl) rfl rfl (by kernel_rfl) ?_
  refine wl_nil ?_
  refine wq_then ?_
  rcases Bool.eq_false_or_eq_true (decide (x_a.N = x_b.N)) with h34 | h34
  · have q35 := of_decide_eq_true h34
    refine wc_false (congrArg (fun b => Value.bool (!b)) h34) ?_
    refine wc_skip ?_
    refine wq_then ?_
    refine wc_seq ?_
    refine wc_seq ?_
    refine wc_region ?_
    refine wl_pure (.pointer (some ⟨g21, 1, none⟩)) (want_none rfl) rfl rfl (by kernel_rfl) ?_
    refine wl_load1 (.slice a1 x_a.Key.length c2) (want_none rfl) rfl rfl rfl rfl isAgg_22 b33 rfl ?_
    refine wl_pure (.pointer (some ⟨g27, 1, none⟩)) (want_none rfl) rfl rfl (by kernel_rfl) ?_
    refine wl_load1 (.slice a11 x_b.Key.length c12) (want_none rfl) rfl rfl rfl rfl isAgg_22 b31 rfl ?_
    refine wl_call (want_none rfl) (args := #[(.slice a1 x_a.Key.length c2), (.slice a11 x_b.Key.length c12)]) rfl rfl (by kernel_rfl) (C_laws_eqByteS w2 (.slice a1 x_a.Key.length c2) x_a.Key (show R_22 w2 (.slice a1 x_a.Key.length c2) x_a.Key from ⟨_, _, rfl, (r3.from0 m32), s4⟩) (.slice a11 x_b.Key.length c12) x_b.Key (show R_22 w2 (.slice a11 x_b.Key.length c12) x_b.Key from ⟨_, _, rfl, (r13.from0 m32), s14⟩)) ?_
    rintro _ w3 ⟨k36, rfl⟩
    have m37 := m32.extk k36
    refine wl_pure (.bool (!(eqB x_a.Key x_b.Key))) (want_none rfl) rfl rfl (by kernel_rfl) ?_
    refine wl_nil ?_
    refine wq_then ?_
    rcases Bool.eq_false_or_eq_true (eqB x_a.Key x_b.Key) with h38 | h38
    · skip
      refine wc_false (congrArg (fun b => Value.bool (!b)) h38) ?_
      refine wc_skip ?_
      refine wq_then ?_
      refine wc_seq ?_
      refine wc_seq ?_
      refine wc_region ?_
      refine wl_pure (.pointer (some ⟨g21, 2, none⟩)) (want_none rfl) rfl rfl (by kernel_rfl) ?_
      have b40 := (b33.kp k36)
      refine wl_load1 (.int .i64 x_a.Seq) (want_none rfl) rfl rfl rfl rfl isAgg_3 b40 rfl ?_
      refine wl_pure (.pointer (some ⟨g27, 2, none⟩)) (want_none rfl) rfl rfl (by kernel_rfl) ?_
      have b41 := (b31.kp k36)
      refine wl_load1 (.int .i64 x_b.Seq) (want_none rfl) rfl rfl rfl rfl isAgg_3 b41 rfl ?_
      refine wl_pure (.bool (!(decide (x_a.Seq = x_b.Seq)))) (want_none rfl) rfl rfl (by kernel_rfl) ?_
      refine wl_nil ?_
      refine wq_then ?_
      rcases Bool.eq_false_or_eq_true (decide (x_a.Seq = x_b.Seq)) with h42 | h42
      · have q43 := of_decide_eq_true h42
        refine wc_false (congrArg (fun b => Value.bool (!b)) h42) ?_
        refine wc_skip ?_
        refine wq_then ?_
        refine wc_seq ?_
        refine wc_seq ?_
        refine wc_region ?_
        refine wl_pure (.pointer (some ⟨g21, 3, none⟩)) (want_none rfl) rfl rfl (by kernel_rfl) ?_
        refine wl_loadN [(.int .i64 x_a.Win.Top), (.slice a6 x_a.Win.Bits.length c7)] (want_none rfl) rfl rfl rfl rfl isAgg_25 sizeOf_25 b40 rfl ?_
        refine wl_pure (.pointer (some ⟨g27, 3, none⟩)) (want_none rfl) rfl rfl (by kernel_rfl) ?_
        refine wl_loadN [(.int .i64 x_b.Win.Top), (.slice a16 x_b.Win.Bits.length c17)] (want_none rfl) rfl rfl rfl rfl isAgg_25 sizeOf_25 b41 rfl ?_
        refine wl_call (want_none rfl) (args := #[(.agg #[(.int .i64 x_a.Win.Top), (.slice a6 x_a.Win.Bits.length c7)]), (.agg #[(.int .i64 x_b.Win.Top), (.slice a16 x_b.Win.Bits.length c17)])]) rfl rfl (by kernel_rfl) (C_laws_eqWin w3 (.agg #[(.int .i64 x_a.Win.Top), (.slice a6 x_a.Win.Bits.length c7)]) x_a.Win (show R_25 w3 (.agg #[(.int .i64 x_a.Win.Top), (.slice a6 x_a.Win.Bits.length c7)]) x_a.Win from ⟨_, _, rfl, (r8.from0 m37), s9⟩) (.agg #[(.int .i64 x_b.Win.Top), (.slice a16 x_b.Win.Bits.length c17)]) x_b.Win (show R_25 w3 (.agg #[(.int .i64 x_b.Win.Top), (.slice a16 x_b.Win.Bits.length c17)]) x_b.Win from ⟨_, _, rfl, (r18.from0 m37), s19⟩)) ?_
        rintro _ w4 ⟨k44, rfl⟩
        have m45 := m37.extk k44
        refine wl_pure (.bool (!(F_laws_eqWin x_a.Win x_b.Win))) (want_none rfl) rfl rfl (by kernel_rfl) ?_
        refine wl_nil ?_
        refine wq_then ?_
        rcases Bool.eq_false_or_eq_true (F_laws_eqWin x_a.Win x_b.Win) with h46 | h46
        · skip
          refine wc_false (congrArg (fun b => Value.bool (!b)) h46) ?_
          refine wc_skip ?_
          refine wq_then ?_
          refine wc_seq ?_
          refine wc_region ?_
          refine wl_mv (.bool true) (want_none rfl) rfl rfl (.inr rfl) rfl ?_
          refine wl_nil ?_
          refine wq_then ?_
          refine wc_ret ?_
          refine ret_1 (.inl rfl) (.bool true) rfl rfl ?_
          refine ⟨m45.keep0, ?_⟩
          have hF48 : F_laws_eqEp x_a x_b = true := by simp only [F_laws_eqEp, h34, h38, h42, h46, cond_true, cond_false]
          rw [hF48]
          exact rfl
        · skip
          refine wc_true (congrArg (fun b => Value.bool (!b)) h46) ?_
          refine wc_seq ?_
          refine wc_region ?_
          refine wl_mv (.bool false) (want_none rfl) rfl rfl (.inr rfl) rfl ?_
          refine wl_nil ?_
          refine wq_then ?_
          refine wc_ret ?_
          refine wq_then_ret ?_
          refine ret_1 (.inl rfl) (.bool false) rfl rfl ?_
          refine ⟨m45.keep0, ?_⟩
          have hF50 : F_laws_eqEp x_a x_b = false := by simp only [F_laws_eqEp, h34, h38, h42, h46, cond_true, cond_false]
          rw [hF50]
          exact rfl
      · have q51 := of_decide_eq_false h42
        refine wc_true (congrArg (fun b => Value.bool (!b)) h42) ?_
        refine wc_seq ?_
        refine wc_region ?_
        refine wl_mv (.bool false) (want_none rfl) rfl rfl (.inr rfl) rfl ?_
        refine wl_nil ?_
        refine wq_then ?_
        refine wc_ret ?_
        refine wq_then_ret ?_
        refine ret_1 (.inl rfl) (.bool false) rfl rfl ?_
        refine ⟨m37.keep0, ?_⟩
        have hF52 : F_laws_eqEp x_a x_b = false := by simp only [F_laws_eqEp, h34, h38, h42, cond_true, cond_false]
        rw [hF52]
        exact rfl
    · skip
      refine wc_true (congrArg (fun b => Value.bool (!b)) h38) ?_
      refine wc_seq ?_
      refine wc_region ?_
      refine wl_mv (.bool false) (want_none rfl) rfl rfl (.inr rfl) rfl ?_
      refine wl_nil ?_
      refine wq_then ?_
      refine wc_ret ?_
      refine wq_then_ret ?_
      refine ret_1 (.inl rfl) (.bool false) rfl rfl ?_
      refine ⟨m37.keep0, ?_⟩
      have hF54 : F_laws_eqEp x_a x_b = false := by simp only [F_laws_eqEp, h34, h38, cond_true, cond_false]
      rw [hF54]
      exact rfl
  · have q55 := of_decide_eq_false h34
    refine wc_true (congrArg (fun b => Value.bool (!b)) h34) ?_
    refine wc_seq ?_
    refine wc_region ?_
    refine wl_mv (.bool false) (want_none rfl) rfl rfl (.inr rfl) rfl ?_
    refine wl_nil ?_
    refine wq_then ?_
    refine wc_ret ?_
    refine wq_then_ret ?_
    refine ret_1 (.inl rfl) (.bool false) rfl rfl ?_
    refine ⟨m32.keep0, ?_⟩
    have hF56 : F_laws_eqEp x_a x_b = false := by simp only [F_laws_eqEp, h34, cond_true, cond_false]
    rw [hF56]
    exact rfl

theorem isAgg_4 : ∀ w, (isAgg 4).run Try.prog w = .ok false w := fun w => by kernel_rfl
def R_29 (w : World) (v : Value) (x : (PChan)) : Prop := ∃ (a1 : Option Addr) (c1 : Nat) (a2 : Option Addr) (c2 : Nat) (a3 : Option Addr) (c3 : Nat) (a4 : Option Addr) (c4 : Nat) (a5 : Option Addr) (c5 : Nat) (a6 : Option Addr) (c6 : Nat), v = .agg #[.int .i64 x.Role, .slice a1 x.Sn.length c1, .int .i64 x.Cur.N, .slice a2 x.Cur.Key.length c2, .int .i64 x.Cur.Seq, .int .i64 x.Cur.Win.Top, .slice a3 x.Cur.Win.Bits.length c3, .int .i64 x.Old.N, .slice a4 x.Old.Key.length c4, .int .i64 x.Old.Seq, .int .i64 x.Old.Win.Top, .slice a5 x.Old.Win.Bits.length c5, .bool x.HasOld, .int .i64 x.Until, .slice a6 x.Next.length c6] ∧ Rd w 1 (.slice a1 x.Sn.length c1) x.Sn.length (x.Sn.map bV) ∧ x.Sn.length ≤ 1073741824 ∧ Rd w 1 (.slice a2 x.Cur.Key.length c2) x.Cur.Key.length (x.Cur.Key.map bV) ∧ x.Cur.Key.length ≤ 1073741824 ∧ Rd w 1 (.slice a3 x.Cur.Win.Bits.length c3) x.Cur.Win.Bits.length (x.Cur.Win.Bits.map iV) ∧ x.Cur.Win.Bits.length ≤ 1073741824 ∧ Rd w 1 (.slice a4 x.Old.Key.length c4) x.Old.Key.length (x.Old.Key.map bV) ∧ x.Old.Key.length ≤ 1073741824 ∧ Rd w 1 (.slice a5 x.Old.Win.Bits.length c5) x.Old.Win.Bits.length (x.Old.Win.Bits.map iV) ∧ x.Old.Win.Bits.length ≤ 1073741824 ∧ Rd w 1 (.slice a6 x.Next.length c6) x.Next.length (x.Next.map bV) ∧ x.Next.length ≤ 1073741824
def F_laws_eqChan (x_a : PChan) (x_b : PChan) : (Bool) := bif (decide (x_a.Role = x_b.Role)) then (bif (eqB x_a.Sn x_b.Sn) then (bif (F_laws_eqEp x_a.Cur x_b.Cur) then (bif (F_laws_eqEp x_a.Old x_b.Old) then (bif (x_a.HasOld == x_b.HasOld) then (bif (decide (x_a.Until = x_b.Until)) then (bif (eqB x_a.Next x_b.Next) then (true) else (false)) else (false)) else (false)) else (false)) else (false)) else (false)) else (false)
theorem C_laws_eqChan (w0 : World) (v_x_a : Value) (x_a : PChan) (r_x_a : R_29 w0 v_x_a x_a) (v_x_b : Value) (x_b : PChan) (r_x_b : R_29 w0 v_x_b x_b)  : Fn Try.prog 18 #[v_x_a, v_x_b] w0 (fun v w' => Keep w0 w' ∧ O_4 w' w0.heap.size v (F_laws_eqChan x_a x_b)) := by
  obtain ⟨a1, c2, a6, c7, a11, c12, a16, c17, a21, c22, a26, c27, rfl, r3, s4, r8, s9, r13, s14, r18, s19, r23, s24, r28, s29⟩ := r_x_a
  obtain ⟨a31, c32, a36, c37, a41, c42, a46, c47, a51, c52, a56, c57, rfl, r33, s34, r38, s39, r43, s44, r48, s49, r53, s54, r58, s59⟩ := r_x_b
  refine fn_of (n := 44) (l := [(.agg #[(.int .i64 x_a.Role), (.slice a1 x_a.Sn.length c2), (.int .i64 x_a.Cur.N), (.slice a6 x_a.Cur.Key.length c7), (.int .i64 x_a.Cur.Seq), (.int .i64 x_a.Cur.Win.Top), (.slice a11 x_a.Cur.Win.Bits.length c12), (.int .i64 x_a.Old.N), (.slice a16 x_a.Old.Key.length c17), (.int .i64 x_a.Old.Seq), (.int .i64 x_a.Old.Win.Top), (.slice a21 x_a.Old.Win.Bits.length c22), (.bool x_a.HasOld), (.int .i64 x_a.Until), (.slice a26 x_a.Next.length c27)]), (.agg #[(.int .i64 x_b.Role), (.slice a31 x_b.Sn.length c32), (.int .i64 x_b.Cur.N), (.slice a36 x_b.Cur.Key.length c37), (.int .i64 x_b.Cur.Seq), (.int .i64 x_b.Cur.Win.Top), (.slice a41 x_b.Cur.Win.Bits.length c42), (.int .i64 x_b.Old.N), (.slice a46 x_b.Old.Key.length c47), (.int .i64 x_b.Old.Seq), (.int .i64 x_b.Old.Win.Top), (.slice a51 x_b.Old.Win.Bits.length c52), (.bool x_b.HasOld), (.int .i64 x_b.Until), (.slice a56 x_b.Next.length c57)]), undef, undef, undef, undef, undef, undef, undef, undef, undef, undef, undef, undef, undef, undef, undef, undef, undef, undef, undef, undef, undef, undef, undef, undef, undef, undef, undef, undef, undef, undef, undef, undef, undef, undef, undef, undef, undef, undef, undef, undef, undef, undef]) Try.func18 rfl rfl (by kernel_rfl) rfl ?_
  refine wc_seq ?_
  refine wc_region ?_
  refine wl_box (want_none rfl) [(.int .i64 x_a.Role), (.slice a1 x_a.Sn.length c2), (.int .i64 x_a.Cur.N), (.slice a6 x_a.Cur.Key.length c7), (.int .i64 x_a.Cur.Seq), (.int .i64 x_a.Cur.Win.Top), (.slice a11 x_a.Cur.Win.Bits.length c12), (.int .i64 x_a.Old.N), (.slice a16 x_a.Old.Key.length c17), (.int .i64 x_a.Old.Seq), (.int .i64 x_a.Old.Win.Top), (.slice a21 x_a.Old.Win.Bits.length c22), (.bool x_a.HasOld), (.int .i64 x_a.Until), (.slice a26 x_a.Next.length c27)] rfl rfl rfl rfl ?_
  intro g61 w1 p62 p63 k64 b65
  have m66 := (Ch.base w0).extk k64
  refine wl_box (want_none rfl) [(.int .i64 x_b.Role), (.slice a31 x_b.Sn.length c32), (.int .i64 x_b.Cur.N), (.slice a36 x_b.Cur.Key.length c37), (.int .i64 x_b.Cur.Seq), (.int .i64 x_b.Cur.Win.Top), (.slice a41 x_b.Cur.Win.Bits.length c42), (.int .i64 x_b.Old.N), (.slice a46 x_b.Old.Key.length c47), (.int .i64 x_b.Old.Seq), (.int .i64 x_b.Old.Win.Top), (.slice a51 x_b.Old.Win.Bits.length c52), (.bool x_b.HasOld), (.int .i64 x_b.Until), (.slice a56 x_b.Next.length c57)] rfl rfl rfl rfl ?_
  intro g67 w2 p68 p69 k70 b71
  have m72 := m66.extk k70
  refine wl_mv (.bool false) (want_none rfl) rfl rfl (.inr rfl) rfl ?_
  refine wl_nil ?_
  refine wq_then ?_
  refine wc_seq ?_
  refine wc_seq ?_
  refine wc_region ?_
  refine wl_pure (.pointer (some ⟨g61, 0, none⟩)) (want_none rfl) rfl rfl (by kernel_rfl) ?_
  have b73 := (b65.kp k70)
  refine wl_load1 (.int .i64 x_a.Role) (want_none rfl) rfl rfl rfl rfl isAgg_3 b73 rfl ?_
  refine wl_pure (.pointer (some ⟨g67, 0, none⟩)) (want_none rfl) rfl rfl (by kernel_rfl) ?_
  refine wl_load1 (.int .i64 x_b.Role) (want_none rfl) rfl rfl rfl rfl isAgg_3 b71 rfl ?_
  refine wl_pure (.bool (!(decide (x_a.Role = x_b.Role)))) (want_none rfl) rfl rfl (by kernel_rfl) ?_
  refine wl_nil ?_
  refine wq_then ?_
  rcases Bool.eq_false_or_eq_true (decide (x_a.Role = x_b.Role)) with h74 | h74
  · have q75 := of_decide_eq_true h74
    refine wc_false (congrArg (fun b => Value.bool (!b)) h74) ?_
    refine wc_skip ?_
    refine wq_then ?_
    refine wc_seq ?_
    refine wc_seq ?_
    refine wc_region ?_
    refine wl_pure (.pointer (some ⟨g61, 1, none⟩)) (want_none rfl) rfl rfl (by kernel_rfl) ?_
    refine wl_load1 (.slice a1 x_a.Sn.length c2) (want_none rfl) rfl rfl rfl rfl isAgg_22 b73 rfl ?_
    refine wl_pure (.pointer (some ⟨g67, 1, none⟩)) (want_none rfl) rfl rfl (by kernel_rfl) ?_
    refine wl_load1 (.slice a31 x_b.Sn.length c32) (want_none rfl) rfl rfl rfl rfl isAgg_22 b71 rfl ?_
    refine wl_call (want_none rfl) (args := #[(.slice a1 x_a.Sn.length c2), (.slice a31 x_b.Sn.length c32)]) rfl rfl (by kernel_rfl) (C_laws_eqByteS w2 (.slice a1 x_a.Sn.length c2) x_a.Sn (show R_22 w2 (.slice a1 x_a.Sn.length c2) x_a.Sn from ⟨_, _, rfl, (r3.from0 m72), s4⟩) (.slice a31 x_b.Sn.length c32) x_b.Sn (show R_22 w2 (.slice a31 x_b.Sn.length c32) x_b.Sn from ⟨_, _, rfl, (r33.from0 m72), s34⟩)) ?_
    rintro _ w3 ⟨k76, rfl⟩
    have m77 := m72.extk k76
    refine wl_pure (.bool (!(eqB x_a.Sn x_b.Sn))) (want_none rfl) rfl rfl (by kernel_rfl) ?_
    refine wl_nil ?_
    refine wq_then ?_
    rcases Bool.eq_false_or_eq_true (eqB x_a.Sn x_b.Sn) with h78 | h78
    · skip
      refine wc_false (congrArg (fun b => Value.bool (!b)) h78) ?_
      refine wc_skip ?_
      refine wq_then ?_
      refine wc_seq ?_
      refine wc_seq ?_
      refine wc_region ?_
      refine wl_pure (.pointer (some ⟨g61, 2, none⟩)) (want_none rfl) rfl rfl (by kernel_rfl) ?_
      have b80 := (b73.kp k76)
      refine wl_loadN [(.int .i64 x_a.Cur.N), (.slice a6 x_a.Cur.Key.length c7), (.int .i64 x_a.Cur.Seq), (.int .i64 x_a.Cur.Win.Top), (.slice a11 x_a.Cur.Win.Bits.length c12)] (want_none rfl) rfl rfl rfl rfl isAgg_27 sizeOf_27 b80 rfl ?_
      refine wl_pure (.pointer (some ⟨g67, 2, none⟩)) (want_none rfl) rfl rfl (by kernel_rfl) ?_
      have b81 := (b71.kp k76)
      refine wl_loadN [(.int .i64 x_b.Cur.N), (.slice a36 x_b.Cur.Key.length c37), (.int .i64 x_b.Cur.Seq), (.int .i64 x_b.Cur.Win.Top), (.slice a41 x_b.Cur.Win.Bits.length c42)] (want_none rfl) rfl rfl rfl rfl isAgg_27 sizeOf_27 b81 rfl ?_
      refine wl_call (want_none rfl) (args := #[(.agg #[(.int .i64 x_a.Cur.N), (.slice a6 x_a.Cur.Key.length c7), (.int .i64 x_a.Cur.Seq), (.int .i64 x_a.Cur.Win.Top), (.slice a11 x_a.Cur.Win.Bits.length c12)]), (.agg #[(.int .i64 x_b.Cur.N), (.slice a36 x_b.Cur.Key.length c37), (.int .i64 x_b.Cur.Seq), (.int .i64 x_b.Cur.Win.Top), (.slice a41 x_b.Cur.Win.Bits.length c42)])]) rfl rfl (by kernel_rfl) (C_laws_eqEp w3 (.agg #[(.int .i64 x_a.Cur.N), (.slice a6 x_a.Cur.Key.length c7), (.int .i64 x_a.Cur.Seq), (.int .i64 x_a.Cur.Win.Top), (.slice a11 x_a.Cur.Win.Bits.length c12)]) x_a.Cur (show R_27 w3 (.agg #[(.int .i64 x_a.Cur.N), (.slice a6 x_a.Cur.Key.length c7), (.int .i64 x_a.Cur.Seq), (.int .i64 x_a.Cur.Win.Top), (.slice a11 x_a.Cur.Win.Bits.length c12)]) x_a.Cur from ⟨_, _, _, _, rfl, (r8.from0 m77), s9, (r13.from0 m77), s14⟩) (.agg #[(.int .i64 x_b.Cur.N), (.slice a36 x_b.Cur.Key.length c37), (.int .i64 x_b.Cur.Seq), (.int .i64 x_b.Cur.Win.Top), (.slice a41 x_b.Cur.Win.Bits.length c42)]) x_b.Cur (show R_27 w3 (.agg #[(.int .i64 x_b.Cur.N), (.slice a36 x_b.Cur.Key.length c37), (.int .i64 x_b.Cur.Seq), (.int .i64 x_b.Cur.Win.Top), (.slice a41 x_b.Cur.Win.Bits.length c42)]) x_b.Cur from ⟨_, _, _, _, rfl, (r38.from0 m77), s39, (r43.from0 m77), s44⟩)) ?_
      rintro _ w4 ⟨k82, rfl⟩
      have m83 := m77.extk k82
      refine wl_pure (.bool (!(F_laws_eqEp x_a.Cur x_b.Cur))) (want_none rfl) rfl rfl (by kernel_rfl) ?_
      refine wl_nil ?_
      refine wq_then ?_
      rcases Bool.eq_false_or_eq_true (F_laws_eqEp x_a.Cur x_b.Cur) with h84 | h84
      · skip
        refine wc_false (congrArg (fun b => Value.bool (!b)) h84) ?_
        refine wc_skip ?_
        refine wq_then ?_
        refine wc_seq ?_
        refine wc_seq ?_
        refine wc_region ?_
        refine wl_pure (.pointer (some ⟨g61, 7, none⟩)) (want_none rfl) rfl rfl (by kernel_rfl) ?_
        have b86 := (b80.kp k82)
        refine wl_loadN [(.int .i64 x_a.Old.N), (.slice a16 x_a.Old.Key.length c17), (.int .i64 x_a.Old.Seq), (.int .i64 x_a.Old.Win.Top), (.slice a21 x_a.Old.Win.Bits.length c22)] (want_none rfl) rfl rfl rfl rfl isAgg_27 sizeOf_27 b86 rfl ?_
        refine wl_pure (.pointer (some ⟨g67, 7, none⟩)) (want_none rfl) rfl rfl (by kernel_rfl) ?_
        have b87 := (b81.kp k82)
        refine wl_loadN [(.int .i64 x_b.Old.N), (.slice a46 x_b.Old.Key.length c47), (.int .i64 x_b.Old.Seq), (.int .i64 x_b.Old.Win.Top), (.slice a51 x_b.Old.Win.Bits.length c52)] (want_none rfl) rfl rfl rfl rfl isAgg_27 sizeOf_27 b87 rfl ?_
        refine wl_call (want_none rfl) (args := #[(.agg #[(.int .i64 x_a.Old.N), (.slice a16 x_a.Old.Key.length c17), (.int .i64 x_a.Old.Seq), (.int .i64 x_a.Old.Win.Top), (.slice a21 x_a.Old.Win.Bits.length c22)]), (.agg #[(.int .i64 x_b.Old.N), (.slice a46 x_b.Old.Key.length c47), (.int .i64 x_b.Old.Seq), (.int .i64 x_b.Old.Win.Top), (.slice a51 x_b.Old.Win.Bits.length c52)])]) rfl rfl (by kernel_rfl) (C_laws_eqEp w4 (.agg #[(.int .i64 x_a.Old.N), (.slice a16 x_a.Old.Key.length c17), (.int .i64 x_a.Old.Seq), (.int .i64 x_a.Old.Win.Top), (.slice a21 x_a.Old.Win.Bits.length c22)]) x_a.Old (show R_27 w4 (.agg #[(.int .i64 x_a.Old.N), (.slice a16 x_a.Old.Key.length c17), (.int .i64 x_a.Old.Seq), (.int .i64 x_a.Old.Win.Top), (.slice a21 x_a.Old.Win.Bits.length c22)]) x_a.Old from ⟨_, _, _, _, rfl, (r18.from0 m83), s19, (r23.from0 m83), s24⟩) (.agg #[(.int .i64 x_b.Old.N), (.slice a46 x_b.Old.Key.length c47), (.int .i64 x_b.Old.Seq), (.int .i64 x_b.Old.Win.Top), (.slice a51 x_b.Old.Win.Bits.length c52)]) x_b.Old (show R_27 w4 (.agg #[(.int .i64 x_b.Old.N), (.slice a46 x_b.Old.Key.length c47), (.int .i64 x_b.Old.Seq), (.int .i64 x_b.Old.Win.Top), (.slice a51 x_b.Old.Win.Bits.length c52)]) x_b.Old from ⟨_, _, _, _, rfl, (r48.from0 m83), s49, (r53.from0 m83), s54⟩)) ?_
        rintro _ w5 ⟨k88, rfl⟩
        have m89 := m83.extk k88
        refine wl_pure (.bool (!(F_laws_eqEp x_a.Old x_b.Old))) (want_none rfl) rfl rfl (by kernel_rfl) ?_
        refine wl_nil ?_
        refine wq_then ?_
        rcases Bool.eq_false_or_eq_true (F_laws_eqEp x_a.Old x_b.Old) with h90 | h90
        · skip
          refine wc_false (congrArg (fun b => Value.bool (!b)) h90) ?_
          refine wc_skip ?_
          refine wq_then ?_
          refine wc_seq ?_
          refine wc_seq ?_
          refine wc_region ?_
          refine wl_pure (.pointer (some ⟨g61, 12, none⟩)) (want_none rfl) rfl rfl (by kernel_rfl) ?_
          have b92 := (b86.kp k88)
          refine wl_load1 (.bool x_a.HasOld) (want_none rfl) rfl rfl rfl rfl isAgg_4 b92 rfl ?_
          refine wl_pure (.pointer (some ⟨g67, 12, none⟩)) (want_none rfl) rfl rfl (by kernel_rfl) ?_
          have b93 := (b87.kp k88)
          refine wl_load1 (.bool x_b.HasOld) (want_none rfl) rfl rfl rfl rfl isAgg_4 b93 rfl ?_
          refine wl_pure (.bool (!(x_a.HasOld == x_b.HasOld))) (want_none rfl) rfl rfl (by kernel_rfl) ?_
          refine wl_nil ?_
          refine wq_then ?_
          rcases Bool.eq_false_or_eq_true (x_a.HasOld == x_b.HasOld) with h94 | h94
          · skip
            refine wc_false (congrArg (fun b => Value.bool (!b)) h94) ?_
            refine wc_skip ?_
            refine wq_then ?_
            refine wc_seq ?_
            refine wc_seq ?_
            refine wc_region ?_
            refine wl_pure (.pointer (some ⟨g61, 13, none⟩)) (want_none rfl) rfl rfl (by kernel_rfl) ?_
            refine wl_load1 (.int .i64 x_a.Until) (want_none rfl) rfl rfl rfl rfl isAgg_3 b92 rfl ?_
            refine wl_pure (.pointer (some ⟨g67, 13, none⟩)) (want_none rfl) rfl rfl (by kernel_rfl) ?_
            refine wl_load1 (.int .i64 x_b.Until) (want_none rfl) rfl rfl rfl rfl isAgg_3 b93 rfl ?_
            refine wl_pure (.bool (!(decide (x_a.Until = x_b.Until)))) (want_none rfl) rfl rfl (by kernel_rfl) ?_
            refine wl_nil ?_
            refine wq_then ?_
            rcases Bool.eq_false_or_eq_true (decide (x_a.Until = x_b.Until)) with h96 | h96
            · have q97 := of_decide_eq_true h96
              refine wc_false (congrArg (fun b => Value.bool (!b)) h96) ?_
              refine wc_skip ?_
              refine wq_then ?_
              refine wc_seq ?_
              refine wc_seq ?_
              refine wc_region ?_
              refine wl_pure (.pointer (some ⟨g61, 14, none⟩)) (want_none rfl) rfl rfl (by kernel_rfl) ?_
              refine wl_load1 (.slice a26 x_a.Next.length c27) (want_none rfl) rfl rfl rfl rfl isAgg_22 b92 rfl ?_
              refine wl_pure (.pointer (some ⟨g67, 14, none⟩)) (want_none rfl) rfl rfl (by kernel_rfl) ?_
              refine wl_load1 (.slice a56 x_b.Next.length c57) (want_none rfl) rfl rfl rfl rfl isAgg_22 b93 rfl ?_
              refine wl_call (want_none rfl) (args := #[(.slice a26 x_a.Next.length c27), (.slice a56 x_b.Next.length c57)]) rfl rfl (by kernel_rfl) (C_laws_eqByteS w5 (.slice a26 x_a.Next.length c27) x_a.Next (show R_22 w5 (.slice a26 x_a.Next.length c27) x_a.Next from ⟨_, _, rfl, (r28.from0 m89), s29⟩) (.slice a56 x_b.Next.length c57) x_b.Next (show R_22 w5 (.slice a56 x_b.Next.length c57) x_b.Next from ⟨_, _, rfl, (r58.from0 m89), s59⟩)) ?_
              rintro _ w6 ⟨k98, rfl⟩
              have m99 := m89.extk k98
              refine wl_pure (.bool (!(eqB x_a.Next x_b.Next))) (want_none rfl) rfl rfl (by kernel_rfl) ?_
              refine wl_nil ?_
              refine wq_then ?_
              rcases Bool.eq_false_or_eq_true (eqB x_a.Next x_b.Next) with h100 | h100
              · skip
                refine wc_false (congrArg (fun b => Value.bool (!b)) h100) ?_
                refine wc_skip ?_
                refine wq_then ?_
                refine wc_seq ?_
                refine wc_region ?_
                refine wl_mv (.bool true) (want_none rfl) rfl rfl (.inr rfl) rfl ?_
                refine wl_nil ?_
                refine wq_then ?_
                refine wc_ret ?_
                refine ret_1 (.inl rfl) (.bool true) rfl rfl ?_
                refine ⟨m99.keep0, ?_⟩
                have hF102 : F_laws_eqChan x_a x_b = true := by simp only [F_laws_eqChan, h74, h78, h84, h90, h94, h96, h100, cond_true, cond_false]
                rw [hF102]
                exact rfl
              · skip
                refine wc_true (congrArg (fun b => Value.bool (!b)) h100) ?_
                refine wc_seq ?_
                refine wc_region ?_
                refine wl_mv (.bool false) (want_none rfl) rfl rfl (.inr rfl) rfl ?_
                refine wl_nil ?_
                refine wq_then ?_
                refine wc_ret ?_
                refine wq_then_ret ?_
                refine ret_1 (.inl rfl) (.bool false) rfl rfl ?_
                refine ⟨m99.keep0, ?_⟩
                have hF104 : F_laws_eqChan x_a x_b = false := by simp only [F_laws_eqChan, h74, h78, h84, h90, h94, h96, h100, cond_true, cond_false]
                rw [hF104]
                exact rfl
            · have q105 := of_decide_eq_false h96
              refine wc_true (congrArg (fun b => Value.bool (!b)) h96) ?_
              refine wc_seq ?_
              refine wc_region ?_
              refine wl_mv (.bool false) (want_none rfl) rfl rfl (.inr rfl) rfl ?_
              refine wl_nil ?_
              refine wq_then ?_
              refine wc_ret ?_
              refine wq_then_ret ?_
              refine ret_1 (.inl rfl) (.bool false) rfl rfl ?_
              refine ⟨m89.keep0, ?_⟩
              have hF106 : F_laws_eqChan x_a x_b = false := by simp only [F_laws_eqChan, h74, h78, h84, h90, h94, h96, cond_true, cond_false]
              rw [hF106]
              exact rfl
          · skip
            refine wc_true (congrArg (fun b => Value.bool (!b)) h94) ?_
            refine wc_seq ?_
            refine wc_region ?_
            refine wl_mv (.bool false) (want_none rfl) rfl rfl (.inr rfl) rfl ?_
            refine wl_nil ?_
            refine wq_then ?_
            refine wc_ret ?_
            refine wq_then_ret ?_
            refine ret_1 (.inl rfl) (.bool false) rfl rfl ?_
            refine ⟨m89.keep0, ?_⟩
            have hF108 : F_laws_eqChan x_a x_b = false := by simp only [F_laws_eqChan, h74, h78, h84, h90, h94, cond_true, cond_false]
            rw [hF108]
            exact rfl
        · skip
          refine wc_true (congrArg (fun b => Value.bool (!b)) h90) ?_
          refine wc_seq ?_
          refine wc_region ?_
          refine wl_mv (.bool false) (want_none rfl) rfl rfl (.inr rfl) rfl ?_
          refine wl_nil ?_
          refine wq_then ?_
          refine wc_ret ?_
          refine wq_then_ret ?_
          refine ret_1 (.inl rfl) (.bool false) rfl rfl ?_
          refine ⟨m89.keep0, ?_⟩
          have hF110 : F_laws_eqChan x_a x_b = false := by simp only [F_laws_eqChan, h74, h78, h84, h90, cond_true, cond_false]
          rw [hF110]
          exact rfl
      · skip
        refine wc_true (congrArg (fun b => Value.bool (!b)) h84) ?_
        refine wc_seq ?_
        refine wc_region ?_
        refine wl_mv (.bool false) (want_none rfl) rfl rfl (.inr rfl) rfl ?_
        refine wl_nil ?_
        refine wq_then ?_
        refine wc_ret ?_
        refine wq_then_ret ?_
        refine ret_1 (.inl rfl) (.bool false) rfl rfl ?_
        refine ⟨m83.keep0, ?_⟩
        have hF112 : F_laws_eqChan x_a x_b = false := by simp only [F_laws_eqChan, h74, h78, h84, cond_true, cond_false]
        rw [hF112]
        exact rfl
    · skip
      refine wc_true (congrArg (fun b => Value.bool (!b)) h78) ?_
      refine wc_seq ?_
      refine wc_region ?_
      refine wl_mv (.bool false) (want_none rfl) rfl rfl (.inr rfl) rfl ?_
      refine wl_nil ?_
      refine wq_then ?_
      refine wc_ret ?_
      refine wq_then_ret ?_
      refine ret_1 (.inl rfl) (.bool false) rfl rfl ?_
      refine ⟨m77.keep0, ?_⟩
      have hF114 : F_laws_eqChan x_a x_b = false := by simp only [F_laws_eqChan, h74, h78, cond_true, cond_false]
      rw [hF114]
      exact rfl
  · have q115 := of_decide_eq_false h74
    refine wc_true (congrArg (fun b => Value.bool (!b)) h74) ?_
    refine wc_seq ?_
    refine wc_region ?_
    refine wl_mv (.bool false) (want_none rfl) rfl rfl (.inr rfl) rfl ?_
    refine wl_nil ?_
    refine wq_then ?_
    refine wc_ret ?_
    refine wq_then_ret ?_
    refine ret_1 (.inl rfl) (.bool false) rfl rfl ?_
    refine ⟨m72.keep0, ?_⟩
    have hF116 : F_laws_eqChan x_a x_b = false := by simp only [F_laws_eqChan, h74, cond_true, cond_false]
    rw [hF116]
    exact rfl

theorem C_laws_markByteS_own (w0 : World) (a : Option Addr) (c : Nat) (x : List UInt8) (lo : Nat) (k : Int) (h0 : 0 ≤ k) (h1 : k ≤ 9000000000000000000) (hs : x.length ≤ 1073741824) (r : w0.ownsRow lo 5 1 (.slice a x.length c) x.length (x.map bV)) :
    Fn Try.prog 20 #[(.slice a x.length c), .int .i64 k] w0 (fun v w' => v = .int .i64 (k + x.length) ∧ Ch (fun b => (Value.slice a x.length c).ownBlock = some b) w0 w' ∧ w'.ownsRow lo 5 1 (.slice a x.length c) x.length ((marksB k x.length).map bV)) := by
  refine fn_of (n := 20) (l := [(.slice a x.length c), (.int .i64 k), undef, undef, undef, undef, undef, undef, undef, undef, undef, undef, undef, undef, undef, undef, undef, undef, undef, undef]) Try.func20 rfl rfl (by kernel_rfl) rfl ?_
  refine wc_seq ?_
  refine wc_region ?_
  refine wl_mv (.int .i64 0) (want_none rfl) rfl rfl (.inr rfl) rfl ?_
  refine wl_nil ?_
  refine wq_then ?_
  refine wc_seq ?_
  refine wc_seq ?_
  refine wc_region ?_
  refine wl_mv (.int .i64 0) (want_none rfl) rfl rfl (.inr rfl) rfl ?_
  refine wl_nil ?_
  refine wq_then ?_
  refine wc_block ?_
  refine wc_norm [(.slice a x.length c), (.int .i64 k), undef, undef, (.int .i64 0), (.int .i64 0), undef, undef, undef, undef, undef, undef, undef, undef, undef, undef, undef, undef, undef, undef] rfl ⟨rfl, rfl, rfl, rfl, rfl, rfl, rfl, rfl, rfl, rfl, rfl, rfl, rfl, rfl, rfl, rfl, rfl, rfl, rfl, rfl, trivial⟩ ?_
  refine wc_loop (fun e' w' => ∃ (i : Nat) (u6x u7x u8x u9x u10x u11x u12x u13x u14x u15x u16x u17x u18x : Value), e' = lst [(.slice a x.length c), (.int .i64 (k + ((i : Nat) : Int))), undef, undef, (.int .i64 0), (.int .i64 ((i : Nat) : Int)), u6x, u7x, u8x, u9x, u10x, u11x, u12x, u13x, u14x, u15x, u16x, u17x, u18x, undef] ∧ i ≤ x.length ∧ Ch (fun b => (Value.slice a x.length c).ownBlock = some b) w0 w' ∧ w'.ownsRow lo 5 1 (.slice a x.length c) x.length ((marksB k i ++ x.drop i).map bV)) (fun e' _ => x.length - (intOf (e' 5)).toNat) ?_ ?_
  · exact ⟨0, undef, undef, undef, undef, undef, undef, undef, undef, undef, undef, undef, undef, undef, congrArg (fun (p : Value) => lst [(.slice a x.length c), p, undef, undef, (.int .i64 0), (.int .i64 0), undef, undef, undef, undef, undef, undef, undef, undef, undef, undef, undef, undef, undef, undef]) (congrArg (Value.int .i64) (show k = k + ((0 : Nat) : Int) by omega)), Nat.zero_le _, Ch.refl _ _, by simpa [marksB] using r⟩
  · rintro _ w1 ⟨i, u6x, u7x, u8x, u9x, u10x, u11x, u12x, u13x, u14x, u15x, u16x, u17x, u18x, rfl, hi, hc, ho⟩
    refine wc_seq ?_
    refine wc_seq ?_
    refine wc_region ?_
    refine wl_mv (.int .i64 ((i : Nat) : Int)) (want_none rfl) rfl rfl (.inl rfl) rfl ?_
    refine wl_mv (.slice a x.length c) (want_none rfl) rfl rfl (.inl rfl) rfl ?_
    refine wl_len (want_none rfl) rfl rfl rfl slTy_22 rfl (Rd.of_own ho) ?_
    refine wl_pure (.bool (decide (((i : Nat) : Int) < (x.length : Int)))) (want_none rfl) rfl rfl (by kernel_rfl) ?_
    refine wl_nil ?_
    refine wq_then ?_
    rcases Bool.eq_false_or_eq_true (decide (((i : Nat) : Int) < (x.length : Int))) with h101 | h101
    · have q102 := of_decide_eq_true h101
      refine wc_true (congrArg Value.bool h101) ?_
      refine wc_skip ?_
      refine wq_then ?_
      refine wc_seq ?_
      refine wc_block ?_
      refine wc_seq ?_
      refine wc_region ?_
      refine wl_mv (.slice a x.length c) (want_none rfl) rfl rfl (.inl rfl) rfl ?_
      refine wl_mv (.int .i64 ((i : Nat) : Int)) (want_none rfl) rfl rfl (.inl rfl) rfl ?_
      refine wl_mv (.int .i64 (k + ((i : Nat) : Int))) (want_none rfl) rfl rfl (.inl rfl) rfl ?_
      refine wl_conv8 (k + ((i : Nat) : Int)) (want_none rfl) rfl rfl (by kernel_rfl) ?_
      refine wl_index (want_none rfl) ((i : Nat) : Int) rfl rfl rfl slTy_22 rfl rfl (Rd.of_own ho) (by first | omega | (simp only [List.length_cons, List.length_nil, List.length_replicate, List.length_append, List.length_take, List.length_set, List.length_map]; omega)) (by first | omega | (simp only [List.length_cons, List.length_nil, List.length_replicate, List.length_append, List.length_take, List.length_set, List.length_map]; omega)) ?_
      refine wl_storeB ((marksB k i ++ x.drop i)) i ((by8 (k + ((i : Nat) : Int)))) (want_none rfl) rfl rfl rfl (by simp) rfl sizeOf_5 ho (by simp only [List.length_append, List.length_drop, marksB_len]; omega) ?_
      intro w2 k103 o104
      refine wl_nil ?_
      refine wq_then ?_
      refine wc_region ?_
      refine wl_mv (.int .i64 (k + ((i : Nat) : Int))) (want_none rfl) rfl rfl (.inl rfl) rfl ?_
      refine wl_arith ((k + ((i : Nat) : Int)) + 1) (want_none rfl) rfl rfl (by kernel_rfl) (by omega) (by omega) ?_
      refine wl_mv (.int .i64 ((k + ((i : Nat) : Int)) + 1)) (want_none rfl) rfl rfl (.inr rfl) rfl ?_
      refine wl_nil ?_
      refine wq_blk_normal ?_
      refine wq_then ?_
      refine wc_region ?_
      refine wl_mv (.int .i64 ((i : Nat) : Int)) (want_none rfl) rfl rfl (.inl rfl) rfl ?_
      refine wl_arith (((i : Nat) : Int) + 1) (want_none rfl) rfl rfl (by kernel_rfl) (by omega) (by omega) ?_
      refine wl_mv (.int .i64 (((i : Nat) : Int) + 1)) (want_none rfl) rfl rfl (.inr rfl) rfl ?_
      refine wl_nil ?_
      have hE : (((marksB k i ++ x.drop i)).set i ((by8 (k + ((i : Nat) : Int))))) = marksB k (i + 1) ++ x.drop (i + 1) := by
        rw [List.set_append_right _ _ (by rw [marksB_len]; omega), marksB_len, Nat.sub_self, List.drop_eq_getElem_cons (by omega), List.set_cons_zero, marksB_snoc]
        simp
      rw [hE] at o104
      exact wq_loopN (w0 := w1) [(.slice a x.length c), (.int .i64 (k + ((i + 1 : Nat) : Int))), undef, undef, (.int .i64 0), (.int .i64 ((i + 1 : Nat) : Int)), (.int .i64 ((i : Nat) : Int)), (.slice a x.length c), (.int .i64 (x.length : Int)), (.bool (decide (((i : Nat) : Int) < (x.length : Int)))), (.int .i64 ((i : Nat) : Int)), (.int .i64 (((i : Nat) : Int) + 1)), (.slice a x.length c), (.int .i64 ((i : Nat) : Int)), (.int .i64 (k + ((i : Nat) : Int))), (.int .u8 ((by8 (k + ((i : Nat) : Int))).toNat : Int)), (.pointer (some (elA (.slice a x.length c) ((((i : Nat) : Int)).toNat * 1)))), (.int .i64 (k + ((i : Nat) : Int))), (.int .i64 ((k + ((i : Nat) : Int)) + 1)), undef] rfl ⟨rfl, (congrArg (Value.int .i64) (show (((k + ((i : Nat) : Int)) + 1) : Int) = (k + ((i + 1 : Nat) : Int)) by omega)), rfl, rfl, rfl, (congrArg (Value.int .i64) (show ((((i : Nat) : Int) + 1) : Int) = ((i + 1 : Nat) : Int) by omega)), rfl, rfl, rfl, rfl, rfl, rfl, rfl, rfl, rfl, rfl, rfl, rfl, rfl, rfl, trivial⟩ ⟨i + 1, (.int .i64 ((i : Nat) : Int)), (.slice a x.length c), (.int .i64 (x.length : Int)), (.bool (decide (((i : Nat) : Int) < (x.length : Int)))), (.int .i64 ((i : Nat) : Int)), (.int .i64 (((i : Nat) : Int) + 1)), (.slice a x.length c), (.int .i64 ((i : Nat) : Int)), (.int .i64 (k + ((i : Nat) : Int))), (.int .u8 ((by8 (k + ((i : Nat) : Int))).toNat : Int)), (.pointer (some (elA (.slice a x.length c) ((((i : Nat) : Int)).toNat * 1)))), (.int .i64 (k + ((i : Nat) : Int))), (.int .i64 ((k + ((i : Nat) : Int)) + 1)), rfl, by omega, hc.comp k103 (fun _ _ h => h), o104⟩ (by show x.length - (((i + 1 : Nat) : Int)).toNat < x.length - (((i : Nat) : Int)).toNat; omega)
    · have q105 := of_decide_eq_false h101
      refine wc_false (congrArg Value.bool h101) ?_
      refine wc_exit ?_
      refine wq_then_exit ?_
      refine wq_then_exit ?_
      refine wq_blk_exit ?_
      refine wq_then ?_
      refine wc_seq ?_
      refine wc_region ?_
      refine wl_mv (.int .i64 (k + ((i : Nat) : Int))) (want_none rfl) rfl rfl (.inl rfl) rfl ?_
      refine wl_mv (.int .i64 (k + ((i : Nat) : Int))) (want_none rfl) rfl rfl (.inr rfl) rfl ?_
      refine wl_nil ?_
      refine wq_then ?_
      refine wc_ret ?_
      have hI : i = x.length := by omega
      subst hI
      refine ret_1 (.inl rfl) (.int .i64 (k + ((x.length : Nat) : Int))) rfl rfl ⟨rfl, hc, ?_⟩
      simpa using ho
theorem C_laws_markByteS_nil (w0 : World) (a : Option Addr) (c : Nat) (k : Int) (r : Rd w0 1 (.slice a 0 c) 0 []) :
    Fn Try.prog 20 #[.slice a 0 c, .int .i64 k] w0 (fun v w' => v = .int .i64 k ∧ w' = w0) := by
  have hz : decide ((0 : Int) < ((0 : Nat) : Int)) = false := by decide
  refine fn_of (n := 20) (l := [(.slice a 0 c), (.int .i64 k), undef, undef, undef, undef, undef, undef, undef, undef, undef, undef, undef, undef, undef, undef, undef, undef, undef, undef]) Try.func20 rfl rfl (by kernel_rfl) rfl ?_
  refine wc_seq ?_
  refine wc_region ?_
  refine wl_mv (.int .i64 0) (want_none rfl) rfl rfl (.inr rfl) rfl ?_
  refine wl_nil ?_
  refine wq_then ?_
  refine wc_seq ?_
  refine wc_seq ?_
  refine wc_region ?_
  refine wl_mv (.int .i64 0) (want_none rfl) rfl rfl (.inr rfl) rfl ?_
  refine wl_nil ?_
  refine wq_then ?_
  refine wc_block ?_
  refine wc_norm [(.slice a 0 c), (.int .i64 k), undef, undef, (.int .i64 0), (.int .i64 0), undef, undef, undef, undef, undef, undef, undef, undef, undef, undef, undef, undef, undef, undef] rfl ⟨rfl, rfl, rfl, rfl, rfl, rfl, rfl, rfl, rfl, rfl, rfl, rfl, rfl, rfl, rfl, rfl, rfl, rfl, rfl, rfl, trivial⟩ ?_
  refine wc_loop (fun e' w' => e' = lst [(.slice a 0 c), (.int .i64 k), undef, undef, (.int .i64 0), (.int .i64 0), undef, undef, undef, undef, undef, undef, undef, undef, undef, undef, undef, undef, undef, undef] ∧ w' = w0) (fun _ _ => 0) ⟨rfl, rfl⟩ ?_
  rintro _ _ ⟨rfl, rfl⟩
  refine wc_seq ?_
  refine wc_seq ?_
  refine wc_region ?_
  refine wl_mv (.int .i64 0) (want_none rfl) rfl rfl (.inl rfl) rfl ?_
  refine wl_mv (.slice a 0 c) (want_none rfl) rfl rfl (.inl rfl) rfl ?_
  refine wl_len (want_none rfl) rfl rfl rfl slTy_22 rfl r ?_
  refine wl_pure (.bool (decide (0 < ((0 : Nat) : Int)))) (want_none rfl) rfl rfl (by kernel_rfl) ?_
  refine wl_nil ?_
  refine wq_then ?_
  refine wc_false (congrArg Value.bool hz) ?_
  refine wc_exit ?_
  refine wq_then_exit ?_
  refine wq_then_exit ?_
  refine wq_blk_exit ?_
  refine wq_then ?_
  refine wc_seq ?_
  refine wc_region ?_
  refine wl_mv (.int .i64 k) (want_none rfl) rfl rfl (.inl rfl) rfl ?_
  refine wl_mv (.int .i64 k) (want_none rfl) rfl rfl (.inr rfl) rfl ?_
  refine wl_nil ?_
  refine wq_then ?_
  refine wc_ret ?_
  exact ret_1 (.inl rfl) (.int .i64 k) rfl rfl ⟨rfl, rfl⟩
theorem C_laws_markByteS (w0 : World) (a : Option Addr) (c : Nat) (x : List UInt8) (k : Int) (h0 : 0 ≤ k) (h1 : k ≤ 9000000000000000000) (hs : x.length ≤ 1073741824) (r : Rd w0 1 (.slice a x.length c) x.length (x.map bV)) (hw : Wp w0 5 a x.length c (x.map bV)) :
    Fn Try.prog 20 #[.slice a x.length c, .int .i64 k] w0 (fun v w' => v = .int .i64 (k + x.length) ∧ Ch (MS [(a, x.length)]) w0 w' ∧ Rd w' 1 (.slice a x.length c) x.length ((marksB k x.length).map bV)) := by
  rcases Nat.eq_zero_or_pos x.length with hz | hz
  · obtain rfl : x = [] := List.eq_nil_of_length_eq_zero hz
    refine (C_laws_markByteS_nil w0 a c k r).mono ?_
    rintro _ _ ⟨rfl, rfl⟩
    exact ⟨by simp, Ch.refl _ _, r⟩
  · rcases hw with hw | ⟨lo, hw⟩
    · omega
    · refine (C_laws_markByteS_own w0 a c x lo k h0 h1 hs hw).mono ?_
      rintro _ w' ⟨rfl, hc, ho⟩
      refine ⟨rfl, hc.mono fun b _ hb => ?_, Rd.of_own ho⟩
      rcases a with _ | ad
      · cases hb
      · exact .inl ⟨hz, ad, rfl, by simpa [Value.ownBlock] using hb⟩

theorem sizeOf_3 : ∀ w, (sizeOf 3).run Try.prog w = .ok 1 w := fun w => by kernel_rfl
theorem C_laws_markIntS_own (w0 : World) (a : Option Addr) (c : Nat) (x : List Int) (lo : Nat) (k : Int) (h0 : 0 ≤ k) (h1 : k ≤ 9000000000000000000) (hs : x.length ≤ 1073741824) (r : w0.ownsRow lo 3 1 (.slice a x.length c) x.length (x.map iV)) :
    Fn Try.prog 120 #[(.slice a x.length c), .int .i64 k] w0 (fun v w' => v = .int .i64 (k + x.length) ∧ Ch (fun b => (Value.slice a x.length c).ownBlock = some b) w0 w' ∧ w'.ownsRow lo 3 1 (.slice a x.length c) x.length ((marksI k x.length).map iV)) := by
  refine fn_of (n := 19) (l := [(.slice a x.length c), (.int .i64 k), undef, undef, undef, undef, undef, undef, undef, undef, undef, undef, undef, undef, undef, undef, undef, undef, undef]) Try.func120 rfl rfl (by kernel_rfl) rfl ?_
  refine wc_seq ?_
  refine wc_region ?_
  refine wl_mv (.int .i64 0) (want_none rfl) rfl rfl (.inr rfl) rfl ?_
  refine wl_nil ?_
  refine wq_then ?_
  refine wc_seq ?_
  refine wc_seq ?_
  refine wc_region ?_
  refine wl_mv (.int .i64 0) (want_none rfl) rfl rfl (.inr rfl) rfl ?_
  refine wl_nil ?_
  refine wq_then ?_
  refine wc_block ?_
  refine wc_norm [(.slice a x.length c), (.int .i64 k), undef, undef, (.int .i64 0), (.int .i64 0), undef, undef, undef, undef, undef, undef, undef, undef, undef, undef, undef, undef, undef] rfl ⟨rfl, rfl, rfl, rfl, rfl, rfl, rfl, rfl, rfl, rfl, rfl, rfl, rfl, rfl, rfl, rfl, rfl, rfl, rfl, trivial⟩ ?_
  refine wc_loop (fun e' w' => ∃ (i : Nat) (u6x u7x u8x u9x u10x u11x u12x u13x u14x u15x u16x u17x : Value), e' = lst [(.slice a x.length c), (.int .i64 (k + ((i : Nat) : Int))), undef, undef, (.int .i64 0), (.int .i64 ((i : Nat) : Int)), u6x, u7x, u8x, u9x, u10x, u11x, u12x, u13x, u14x, u15x, u16x, u17x, undef] ∧ i ≤ x.length ∧ Ch (fun b => (Value.slice a x.length c).ownBlock = some b) w0 w' ∧ w'.ownsRow lo 3 1 (.slice a x.length c) x.length ((marksI k i ++ x.drop i).map iV)) (fun e' _ => x.length - (intOf (e' 5)).toNat) ?_ ?_
  · exact ⟨0, undef, undef, undef, undef, undef, undef, undef, undef, undef, undef, undef, undef, congrArg (fun (p : Value) => lst [(.slice a x.length c), p, undef, undef, (.int .i64 0), (.int .i64 0), undef, undef, undef, undef, undef, undef, undef, undef, undef, undef, undef, undef, undef]) (congrArg (Value.int .i64) (show k = k + ((0 : Nat) : Int) by omega)), Nat.zero_le _, Ch.refl _ _, by simpa [marksI] using r⟩
  · rintro _ w1 ⟨i, u6x, u7x, u8x, u9x, u10x, u11x, u12x, u13x, u14x, u15x, u16x, u17x, rfl, hi, hc, ho⟩
    refine wc_seq ?_
    refine wc_seq ?_
    refine wc_region ?_
    refine wl_mv (.int .i64 ((i : Nat) : Int)) (want_none rfl) rfl rfl (.inl rfl) rfl ?_
    refine wl_mv (.slice a x.length c) (want_none rfl) rfl rfl (.inl rfl) rfl ?_
    refine wl_len (want_none rfl) rfl rfl rfl slTy_23 rfl (Rd.of_own ho) ?_
    refine wl_pure (.bool (decide (((i : Nat) : Int) < (x.length : Int)))) (want_none rfl) rfl rfl (by kernel_rfl) ?_
    refine wl_nil ?_
    refine wq_then ?_
    rcases Bool.eq_false_or_eq_true (decide (((i : Nat) : Int) < (x.length : Int))) with h101 | h101
    · have q102 := of_decide_eq_true h101
      refine wc_true (congrArg Value.bool h101) ?_
      refine wc_skip ?_
      refine wq_then ?_
      refine wc_seq ?_
      refine wc_block ?_
      refine wc_seq ?_
      refine wc_region ?_
      refine wl_mv (.slice a x.length c) (want_none rfl) rfl rfl (.inl rfl) rfl ?_
      refine wl_mv (.int .i64 ((i : Nat) : Int)) (want_none rfl) rfl rfl (.inl rfl) rfl ?_
      refine wl_mv (.int .i64 (k + ((i : Nat) : Int))) (want_none rfl) rfl rfl (.inl rfl) rfl ?_
      refine wl_index (want_none rfl) ((i : Nat) : Int) rfl rfl rfl slTy_23 rfl rfl (Rd.of_own ho) (by first | omega | (simp only [List.length_cons, List.length_nil, List.length_replicate, List.length_append, List.length_take, List.length_set, List.length_map]; omega)) (by first | omega | (simp only [List.length_cons, List.length_nil, List.length_replicate, List.length_append, List.length_take, List.length_set, List.length_map]; omega)) ?_
      refine wl_storeI ((marksI k i ++ x.drop i)) i ((k + ((i : Nat) : Int))) (want_none rfl) rfl rfl rfl (by simp) rfl sizeOf_3 ho (by simp only [List.length_append, List.length_drop, marksI_len]; omega) ?_
      intro w2 k103 o104
      refine wl_nil ?_
      refine wq_then ?_
      refine wc_region ?_
      refine wl_mv (.int .i64 (k + ((i : Nat) : Int))) (want_none rfl) rfl rfl (.inl rfl) rfl ?_
      refine wl_arith ((k + ((i : Nat) : Int)) + 1) (want_none rfl) rfl rfl (by kernel_rfl) (by omega) (by omega) ?_
      refine wl_mv (.int .i64 ((k + ((i : Nat) : Int)) + 1)) (want_none rfl) rfl rfl (.inr rfl) rfl ?_
      refine wl_nil ?_
      refine wq_blk_normal ?_
      refine wq_then ?_
      refine wc_region ?_
      refine wl_mv (.int .i64 ((i : Nat) : Int)) (want_none rfl) rfl rfl (.inl rfl) rfl ?_
      refine wl_arith (((i : Nat) : Int) + 1) (want_none rfl) rfl rfl (by kernel_rfl) (by omega) (by omega) ?_
      refine wl_mv (.int .i64 (((i : Nat) : Int) + 1)) (want_none rfl) rfl rfl (.inr rfl) rfl ?_
      refine wl_nil ?_
      have hE : (((marksI k i ++ x.drop i)).set i ((k + ((i : Nat) : Int)))) = marksI k (i + 1) ++ x.drop (i + 1) := by
        rw [List.set_append_right _ _ (by rw [marksI_len]; omega), marksI_len, Nat.sub_self, List.drop_eq_getElem_cons (by omega), List.set_cons_zero, marksI_snoc]
        simp
      rw [hE] at o104
      exact wq_loopN (w0 := w1) [(.slice a x.length c), (.int .i64 (k + ((i + 1 : Nat) : Int))), undef, undef, (.int .i64 0), (.int .i64 ((i + 1 : Nat) : Int)), (.int .i64 ((i : Nat) : Int)), (.slice a x.length c), (.int .i64 (x.length : Int)), (.bool (decide (((i : Nat) : Int) < (x.length : Int)))), (.int .i64 ((i : Nat) : Int)), (.int .i64 (((i : Nat) : Int) + 1)), (.slice a x.length c), (.int .i64 ((i : Nat) : Int)), (.int .i64 (k + ((i : Nat) : Int))), (.pointer (some (elA (.slice a x.length c) ((((i : Nat) : Int)).toNat * 1)))), (.int .i64 (k + ((i : Nat) : Int))), (.int .i64 ((k + ((i : Nat) : Int)) + 1)), undef] rfl ⟨rfl, (congrArg (Value.int .i64) (show (((k + ((i : Nat) : Int)) + 1) : Int) = (k + ((i + 1 : Nat) : Int)) by omega)), rfl, rfl, rfl, (congrArg (Value.int .i64) (show ((((i : Nat) : Int) + 1) : Int) = ((i + 1 : Nat) : Int) by omega)), rfl, rfl, rfl, rfl, rfl, rfl, rfl, rfl, rfl, rfl, rfl, rfl, rfl, trivial⟩ ⟨i + 1, (.int .i64 ((i : Nat) : Int)), (.slice a x.length c), (.int .i64 (x.length : Int)), (.bool (decide (((i : Nat) : Int) < (x.length : Int)))), (.int .i64 ((i : Nat) : Int)), (.int .i64 (((i : Nat) : Int) + 1)), (.slice a x.length c), (.int .i64 ((i : Nat) : Int)), (.int .i64 (k + ((i : Nat) : Int))), (.pointer (some (elA (.slice a x.length c) ((((i : Nat) : Int)).toNat * 1)))), (.int .i64 (k + ((i : Nat) : Int))), (.int .i64 ((k + ((i : Nat) : Int)) + 1)), rfl, by omega, hc.comp k103 (fun _ _ h => h), o104⟩ (by show x.length - (((i + 1 : Nat) : Int)).toNat < x.length - (((i : Nat) : Int)).toNat; omega)
    · have q105 := of_decide_eq_false h101
      refine wc_false (congrArg Value.bool h101) ?_
      refine wc_exit ?_
      refine wq_then_exit ?_
      refine wq_then_exit ?_
      refine wq_blk_exit ?_
      refine wq_then ?_
      refine wc_seq ?_
      refine wc_region ?_
      refine wl_mv (.int .i64 (k + ((i : Nat) : Int))) (want_none rfl) rfl rfl (.inl rfl) rfl ?_
      refine wl_mv (.int .i64 (k + ((i : Nat) : Int))) (want_none rfl) rfl rfl (.inr rfl) rfl ?_
      refine wl_nil ?_
      refine wq_then ?_
      refine wc_ret ?_
      have hI : i = x.length := by omega
      subst hI
      refine ret_1 (.inl rfl) (.int .i64 (k + ((x.length : Nat) : Int))) rfl rfl ⟨rfl, hc, ?_⟩
      simpa using ho
theorem C_laws_markIntS_nil (w0 : World) (a : Option Addr) (c : Nat) (k : Int) (r : Rd w0 1 (.slice a 0 c) 0 []) :
    Fn Try.prog 120 #[.slice a 0 c, .int .i64 k] w0 (fun v w' => v = .int .i64 k ∧ w' = w0) := by
  have hz : decide ((0 : Int) < ((0 : Nat) : Int)) = false := by decide
  refine fn_of (n := 19) (l := [(.slice a 0 c), (.int .i64 k), undef, undef, undef, undef, undef, undef, undef, undef, undef, undef, undef, undef, undef, undef, undef, undef, undef]) Try.func120 rfl rfl (by kernel_rfl) rfl ?_
  refine wc_seq ?_
  refine wc_region ?_
  refine wl_mv (.int .i64 0) (want_none rfl) rfl rfl (.inr rfl) rfl ?_
  refine wl_nil ?_
  refine wq_then ?_
  refine wc_seq ?_
  refine wc_seq ?_
  refine wc_region ?_
  refine wl_mv (.int .i64 0) (want_none rfl) rfl rfl (.inr rfl) rfl ?_
  refine wl_nil ?_
  refine wq_then ?_
  refine wc_block ?_
  refine wc_norm [(.slice a 0 c), (.int .i64 k), undef, undef, (.int .i64 0), (.int .i64 0), undef, undef, undef, undef, undef, undef, undef, undef, undef, undef, undef, undef, undef] rfl ⟨rfl, rfl, rfl, rfl, rfl, rfl, rfl, rfl, rfl, rfl, rfl, rfl, rfl, rfl, rfl, rfl, rfl, rfl, rfl, trivial⟩ ?_
  refine wc_loop (fun e' w' => e' = lst [(.slice a 0 c), (.int .i64 k), undef, undef, (.int .i64 0), (.int .i64 0), undef, undef, undef, undef, undef, undef, undef, undef, undef, undef, undef, undef, undef] ∧ w' = w0) (fun _ _ => 0) ⟨rfl, rfl⟩ ?_
  rintro _ _ ⟨rfl, rfl⟩
  refine wc_seq ?_
  refine wc_seq ?_
  refine wc_region ?_
  refine wl_mv (.int .i64 0) (want_none rfl) rfl rfl (.inl rfl) rfl ?_
  refine wl_mv (.slice a 0 c) (want_none rfl) rfl rfl (.inl rfl) rfl ?_
  refine wl_len (want_none rfl) rfl rfl rfl slTy_23 rfl r ?_
  refine wl_pure (.bool (decide (0 < ((0 : Nat) : Int)))) (want_none rfl) rfl rfl (by kernel_rfl) ?_
  refine wl_nil ?_
  refine wq_then ?_
  refine wc_false (congrArg Value.bool hz) ?_
  refine wc_exit ?_
  refine wq_then_exit ?_
  refine wq_then_exit ?_
  refine wq_blk_exit ?_
  refine wq_then ?_
  refine wc_seq ?_
  refine wc_region ?_
  refine wl_mv (.int .i64 k) (want_none rfl) rfl rfl (.inl rfl) rfl ?_
  refine wl_mv (.int .i64 k) (want_none rfl) rfl rfl (.inr rfl) rfl ?_
  refine wl_nil ?_
  refine wq_then ?_
  refine wc_ret ?_
  exact ret_1 (.inl rfl) (.int .i64 k) rfl rfl ⟨rfl, rfl⟩
theorem C_laws_markIntS (w0 : World) (a : Option Addr) (c : Nat) (x : List Int) (k : Int) (h0 : 0 ≤ k) (h1 : k ≤ 9000000000000000000) (hs : x.length ≤ 1073741824) (r : Rd w0 1 (.slice a x.length c) x.length (x.map iV)) (hw : Wp w0 3 a x.length c (x.map iV)) :
    Fn Try.prog 120 #[.slice a x.length c, .int .i64 k] w0 (fun v w' => v = .int .i64 (k + x.length) ∧ Ch (MS [(a, x.length)]) w0 w' ∧ Rd w' 1 (.slice a x.length c) x.length ((marksI k x.length).map iV)) := by
  rcases Nat.eq_zero_or_pos x.length with hz | hz
  · obtain rfl : x = [] := List.eq_nil_of_length_eq_zero hz
    refine (C_laws_markIntS_nil w0 a c k r).mono ?_
    rintro _ _ ⟨rfl, rfl⟩
    exact ⟨by simp, Ch.refl _ _, r⟩
  · rcases hw with hw | ⟨lo, hw⟩
    · omega
    · refine (C_laws_markIntS_own w0 a c x lo k h0 h1 hs hw).mono ?_
      rintro _ w' ⟨rfl, hc, ho⟩
      refine ⟨rfl, hc.mono fun b _ hb => ?_, Rd.of_own ho⟩
      rcases a with _ | ad
      · cases hb
      · exact .inl ⟨hz, ad, rfl, by simpa [Value.ownBlock] using hb⟩

theorem C_laws_markWin (w0 : World) (a1 : Option Addr) (c1 : Nat) (x : PWin) (k : Int) (h0 : 0 ≤ k) (h1 : k ≤ 8800000000000000000) (s1 : x.Bits.length ≤ 1073741824) (r1 : Rd w0 1 (.slice a1 x.Bits.length c1) x.Bits.length (x.Bits.map iV)) (p1 : Wp w0 3 a1 x.Bits.length c1 (x.Bits.map iV)) (ap : Aps [(a1, c1)]) :
    Fn Try.prog 106 #[(.agg #[(.int .i64 x.Top), (.slice a1 x.Bits.length c1)]), .int .i64 k] w0 (fun v w' => v = .int .i64 (k + (x.Bits.length : Int)) ∧ Ch (MS [(a1, x.Bits.length)]) w0 w' ∧ Rd w' 1 (.slice a1 x.Bits.length c1) x.Bits.length ((marksI k x.Bits.length).map iV)) := by
  refine fn_of (n := 10) (l := [(.agg #[(.int .i64 x.Top), (.slice a1 x.Bits.length c1)]), (.int .i64 k), undef, undef, undef, undef, undef, undef, undef, undef]) Try.func106 rfl rfl (by kernel_rfl) rfl ?_
  refine wc_seq ?_
  refine wc_region ?_
  refine wl_box (want_none rfl) [(.int .i64 x.Top), (.slice a1 x.Bits.length c1)] rfl rfl rfl rfl ?_
  intro g201 w1 p202 p203 k204 b205
  refine wl_mv (.int .i64 0) (want_none rfl) rfl rfl (.inr rfl) rfl ?_
  refine wl_nil ?_
  refine wq_then ?_
  refine wc_seq ?_
  refine wc_region ?_
  refine wl_pure (.pointer (some ⟨g201, 1, none⟩)) (want_none rfl) rfl rfl (by kernel_rfl) ?_
  refine wl_load1 (.slice a1 x.Bits.length c1) (want_none rfl) rfl rfl rfl rfl isAgg_23 b205 rfl ?_
  refine wl_mv (.int .i64 k) (want_none rfl) rfl rfl (.inl rfl) rfl ?_
  have r206 := (r1.kp k204)
  have wp207 : Wp w1 3 a1 x.Bits.length c1 _ := (Wp.kp p1 k204)
  refine wl_call (want_none rfl) (args := #[(.slice a1 x.Bits.length c1), (.int .i64 k)]) rfl rfl (by kernel_rfl) (C_laws_markIntS w1 a1 c1 x.Bits k (by omega) (by omega) s1 r206 wp207) ?_
  rintro _ w2 ⟨rfl, k208, r209⟩
  refine wl_mv (.int .i64 (k + (x.Bits.length : Int))) (want_none rfl) rfl rfl (.inr rfl) rfl ?_
  refine wl_nil ?_
  refine wq_then ?_
  refine wc_seq ?_
  refine wc_region ?_
  refine wl_mv (.int .i64 (k + (x.Bits.length : Int))) (want_none rfl) rfl rfl (.inl rfl) rfl ?_
  refine wl_mv (.int .i64 (k + (x.Bits.length : Int))) (want_none rfl) rfl rfl (.inr rfl) rfl ?_
  refine wl_nil ?_
  refine wq_then ?_
  refine wc_ret ?_
  exact ret_1 (.inl rfl) (.int .i64 (k + (x.Bits.length : Int))) rfl rfl ⟨rfl, (((Ch.refl (MS [(a1, x.Bits.length)]) w0).comp k204 (fun _ _ h => h.elim)).comp k208 (fun _ _ h => ms_sub [] [] h)), r209⟩

theorem C_laws_markEp (w0 : World) (a1 : Option Addr) (c1 : Nat) (a2 : Option Addr) (c2 : Nat) (x : PEp) (k : Int) (h0 : 0 ≤ k) (h1 : k ≤ 8700000000000000000) (s1 : x.Key.length ≤ 1073741824) (r1 : Rd w0 1 (.slice a1 x.Key.length c1) x.Key.length (x.Key.map bV)) (p1 : Wp w0 5 a1 x.Key.length c1 (x.Key.map bV)) (s2 : x.Win.Bits.length ≤ 1073741824) (r2 : Rd w0 1 (.slice a2 x.Win.Bits.length c2) x.Win.Bits.length (x.Win.Bits.map iV)) (p2 : Wp w0 3 a2 x.Win.Bits.length c2 (x.Win.Bits.map iV)) (ap : Aps [(a1, c1), (a2, c2)]) :
    Fn Try.prog 72 #[(.agg #[(.int .i64 x.N), (.slice a1 x.Key.length c1), (.int .i64 x.Seq), (.int .i64 x.Win.Top), (.slice a2 x.Win.Bits.length c2)]), .int .i64 k] w0 (fun v w' => v = .int .i64 ((k + (x.Key.length : Int)) + (x.Win.Bits.length : Int)) ∧ Ch (MS [(a1, x.Key.length), (a2, x.Win.Bits.length)]) w0 w' ∧ Rd w' 1 (.slice a1 x.Key.length c1) x.Key.length ((marksB k x.Key.length).map bV) ∧ Rd w' 1 (.slice a2 x.Win.Bits.length c2) x.Win.Bits.length ((marksI (k + (x.Key.length : Int)) x.Win.Bits.length).map iV)) := by
  refine fn_of (n := 14) (l := [(.agg #[(.int .i64 x.N), (.slice a1 x.Key.length c1), (.int .i64 x.Seq), (.int .i64 x.Win.Top), (.slice a2 x.Win.Bits.length c2)]), (.int .i64 k), undef, undef, undef, undef, undef, undef, undef, undef, undef, undef, undef, undef]) Try.func72 rfl rfl (by kernel_rfl) rfl ?_
  refine wc_seq ?_
  refine wc_region ?_
  refine wl_box (want_none rfl) [(.int .i64 x.N), (.slice a1 x.Key.length c1), (.int .i64 x.Seq), (.int .i64 x.Win.Top), (.slice a2 x.Win.Bits.length c2)] rfl rfl rfl rfl ?_
  intro g201 w1 p202 p203 k204 b205
  refine wl_mv (.int .i64 0) (want_none rfl) rfl rfl (.inr rfl) rfl ?_
  refine wl_nil ?_
  refine wq_then ?_
  refine wc_seq ?_
  refine wc_region ?_
  refine wl_pure (.pointer (some ⟨g201, 1, none⟩)) (want_none rfl) rfl rfl (by kernel_rfl) ?_
  refine wl_load1 (.slice a1 x.Key.length c1) (want_none rfl) rfl rfl rfl rfl isAgg_22 b205 rfl ?_
  refine wl_mv (.int .i64 k) (want_none rfl) rfl rfl (.inl rfl) rfl ?_
  have r206 := (r1.kp k204)
  have wp207 : Wp w1 5 a1 x.Key.length c1 _ := (Wp.kp p1 k204)
  refine wl_call (want_none rfl) (args := #[(.slice a1 x.Key.length c1), (.int .i64 k)]) rfl rfl (by kernel_rfl) (C_laws_markByteS w1 a1 c1 x.Key k (by omega) (by omega) s1 r206 wp207) ?_
  rintro _ w2 ⟨rfl, k208, r209⟩
  refine wl_mv (.int .i64 (k + (x.Key.length : Int))) (want_none rfl) rfl rfl (.inr rfl) rfl ?_
  refine wl_nil ?_
  refine wq_then ?_
  refine wc_seq ?_
  refine wc_region ?_
  refine wl_pure (.pointer (some ⟨g201, 3, none⟩)) (want_none rfl) rfl rfl (by kernel_rfl) ?_
  have b210 := (b205.ch k208 (ms_lo (ms_lo_cons (fun hn x hx hb => by have := Wp.lt p1 hn x hx; have := Nat.le_trans (Nat.le_refl _) p202; omega) ms_lo_nil)))
  refine wl_loadN [(.int .i64 x.Win.Top), (.slice a2 x.Win.Bits.length c2)] (want_none rfl) rfl rfl rfl rfl isAgg_25 sizeOf_25 b210 rfl ?_
  refine wl_mv (.int .i64 (k + (x.Key.length : Int))) (want_none rfl) rfl rfl (.inl rfl) rfl ?_
  have r211 := (Rd.ms (l := [(a1, x.Key.length, c1)]) (r2.kp k204) rfl k208 (ap_cons (rd_cap r206) (ap.1.1) ap_nil))
  have wp212 : Wp w2 3 a2 x.Win.Bits.length c2 _ := (Wp.ms (l := [(a1, x.Key.length, c1)]) (Wp.kp p2 k204) (rd_cap r211) rfl k208 (ap_cons (rd_cap r206) (ap.1.1) ap_nil))
  refine wl_call (want_none rfl) (args := #[(.agg #[(.int .i64 x.Win.Top), (.slice a2 x.Win.Bits.length c2)]), (.int .i64 (k + (x.Key.length : Int)))]) rfl rfl (by kernel_rfl) (C_laws_markWin w2 a2 c2 x.Win (k + (x.Key.length : Int)) (by omega) (by omega) s2 r211 wp212 ⟨trivial, trivial⟩) ?_
  rintro _ w3 ⟨rfl, k213, r214⟩
  refine wl_mv (.int .i64 ((k + (x.Key.length : Int)) + (x.Win.Bits.length : Int))) (want_none rfl) rfl rfl (.inr rfl) rfl ?_
  refine wl_nil ?_
  refine wq_then ?_
  refine wc_seq ?_
  refine wc_region ?_
  refine wl_mv (.int .i64 ((k + (x.Key.length : Int)) + (x.Win.Bits.length : Int))) (want_none rfl) rfl rfl (.inl rfl) rfl ?_
  refine wl_mv (.int .i64 ((k + (x.Key.length : Int)) + (x.Win.Bits.length : Int))) (want_none rfl) rfl rfl (.inr rfl) rfl ?_
  refine wl_nil ?_
  refine wq_then ?_
  refine wc_ret ?_
  have r215 := (Rd.ms (l := [(a2, x.Win.Bits.length, c2)]) r209 rfl k213 (ap_cons (rd_cap r211) (ap.1.1).symm ap_nil))
  exact ret_1 (.inl rfl) (.int .i64 ((k + (x.Key.length : Int)) + (x.Win.Bits.length : Int))) rfl rfl ⟨rfl, ((((Ch.refl (MS [(a1, x.Key.length), (a2, x.Win.Bits.length)]) w0).comp k204 (fun _ _ h => h.elim)).comp k208 (fun _ _ h => ms_sub [] [(a2, x.Win.Bits.length)] h)).comp k213 (fun _ _ h => ms_sub [(a1, x.Key.length)] [] h)), r215, r214⟩

theorem C_laws_markChan (w0 : World) (a1 : Option Addr) (c1 : Nat) (a2 : Option Addr) (c2 : Nat) (a3 : Option Addr) (c3 : Nat) (a4 : Option Addr) (c4 : Nat) (a5 : Option Addr) (c5 : Nat) (a6 : Option Addr) (c6 : Nat) (x : PChan) (k : Int) (h0 : 0 ≤ k) (h1 : k ≤ 8600000000000000000) (s1 : x.Sn.length ≤ 1073741824) (r1 : Rd w0 1 (.slice a1 x.Sn.length c1) x.Sn.length (x.Sn.map bV)) (p1 : Wp w0 5 a1 x.Sn.length c1 (x.Sn.map bV)) (s2 : x.Cur.Key.length ≤ 1073741824) (r2 : Rd w0 1 (.slice a2 x.Cur.Key.length c2) x.Cur.Key.length (x.Cur.Key.map bV)) (p2 : Wp w0 5 a2 x.Cur.Key.length c2 (x.Cur.Key.map bV)) (s3 : x.Cur.Win.Bits.length ≤ 1073741824) (r3 : Rd w0 1 (.slice a3 x.Cur.Win.Bits.length c3) x.Cur.Win.Bits.length (x.Cur.Win.Bits.map iV)) (p3 : Wp w0 3 a3 x.Cur.Win.Bits.length c3 (x.Cur.Win.Bits.map iV)) (s4 : x.Old.Key.length ≤ 1073741824) (r4 : Rd w0 1 (.slice a4 x.Old.Key.length c4) x.Old.Key.length (x.Old.Key.map bV)) (p4 : Wp w0 5 a4 x.Old.Key.length c4 (x.Old.Key.map bV)) (s5 : x.Old.Win.Bits.length ≤ 1073741824) (r5 : Rd w0 1 (.slice a5 x.Old.Win.Bits.length c5) x.Old.Win.Bits.length (x.Old.Win.Bits.map iV)) (p5 : Wp w0 3 a5 x.Old.Win.Bits.length c5 (x.Old.Win.Bits.map iV)) (s6 : x.Next.length ≤ 1073741824) (r6 : Rd w0 1 (.slice a6 x.Next.length c6) x.Next.length (x.Next.map bV)) (p6 : Wp w0 5 a6 x.Next.length c6 (x.Next.map bV)) (ap : Aps [(a1, c1), (a2, c2), (a3, c3), (a4, c4), (a5, c5), (a6, c6)]) :
    Fn Try.prog 21 #[(.agg #[(.int .i64 x.Role), (.slice a1 x.Sn.length c1), (.int .i64 x.Cur.N), (.slice a2 x.Cur.Key.length c2), (.int .i64 x.Cur.Seq), (.int .i64 x.Cur.Win.Top), (.slice a3 x.Cur.Win.Bits.length c3), (.int .i64 x.Old.N), (.slice a4 x.Old.Key.length c4), (.int .i64 x.Old.Seq), (.int .i64 x.Old.Win.Top), (.slice a5 x.Old.Win.Bits.length c5), (.bool x.HasOld), (.int .i64 x.Until), (.slice a6 x.Next.length c6)]), .int .i64 k] w0 (fun v w' => v = .int .i64 ((((((k + (x.Sn.length : Int)) + (x.Cur.Key.length : Int)) + (x.Cur.Win.Bits.length : Int)) + (x.Old.Key.length : Int)) + (x.Old.Win.Bits.length : Int)) + (x.Next.length : Int)) ∧ Ch (MS [(a1, x.Sn.length), (a2, x.Cur.Key.length), (a3, x.Cur.Win.Bits.length), (a4, x.Old.Key.length), (a5, x.Old.Win.Bits.length), (a6, x.Next.length)]) w0 w' ∧ Rd w' 1 (.slice a1 x.Sn.length c1) x.Sn.length ((marksB k x.Sn.length).map bV) ∧ Rd w' 1 (.slice a2 x.Cur.Key.length c2) x.Cur.Key.length ((marksB (k + (x.Sn.length : Int)) x.Cur.Key.length).map bV) ∧ Rd w' 1 (.slice a3 x.Cur.Win.Bits.length c3) x.Cur.Win.Bits.length ((marksI ((k + (x.Sn.length : Int)) + (x.Cur.Key.length : Int)) x.Cur.Win.Bits.length).map iV) ∧ Rd w' 1 (.slice a4 x.Old.Key.length c4) x.Old.Key.length ((marksB (((k + (x.Sn.length : Int)) + (x.Cur.Key.length : Int)) + (x.Cur.Win.Bits.length : Int)) x.Old.Key.length).map bV) ∧ Rd w' 1 (.slice a5 x.Old.Win.Bits.length c5) x.Old.Win.Bits.length ((marksI ((((k + (x.Sn.length : Int)) + (x.Cur.Key.length : Int)) + (x.Cur.Win.Bits.length : Int)) + (x.Old.Key.length : Int)) x.Old.Win.Bits.length).map iV) ∧ Rd w' 1 (.slice a6 x.Next.length c6) x.Next.length ((marksB (((((k + (x.Sn.length : Int)) + (x.Cur.Key.length : Int)) + (x.Cur.Win.Bits.length : Int)) + (x.Old.Key.length : Int)) + (x.Old.Win.Bits.length : Int)) x.Next.length).map bV)) := by
  refine fn_of (n := 22) (l := [(.agg #[(.int .i64 x.Role), (.slice a1 x.Sn.length c1), (.int .i64 x.Cur.N), (.slice a2 x.Cur.Key.length c2), (.int .i64 x.Cur.Seq), (.int .i64 x.Cur.Win.Top), (.slice a3 x.Cur.Win.Bits.length c3), (.int .i64 x.Old.N), (.slice a4 x.Old.Key.length c4), (.int .i64 x.Old.Seq), (.int .i64 x.Old.Win.Top), (.slice a5 x.Old.Win.Bits.length c5), (.bool x.HasOld), (.int .i64 x.Until), (.slice a6 x.Next.length c6)]), (.int .i64 k), undef, undef, undef, undef, undef, undef, undef, undef, undef, undef, undef, undef, undef, undef, undef, undef, undef, undef, undef, undef]) Try.func21 rfl rfl (by kernel_rfl) rfl ?_
  refine wc_seq ?_
  refine wc_region ?_
  refine wl_box (want_none rfl) [(.int .i64 x.Role), (.slice a1 x.Sn.length c1), (.int .i64 x.Cur.N), (.slice a2 x.Cur.Key.length c2), (.int .i64 x.Cur.Seq), (.int .i64 x.Cur.Win.Top), (.slice a3 x.Cur.Win.Bits.length c3), (.int .i64 x.Old.N), (.slice a4 x.Old.Key.length c4), (.int .i64 x.Old.Seq), (.int .i64 x.Old.Win.Top), (.slice a5 x.Old.Win.Bits.length c5), (.bool x.HasOld), (.int .i64 x.Until), (.slice a6 x.Next.length c6)] rfl rfl rfl rfl ?_
  intro g201 w1 p202 p203 k204 b205
  refine wl_mv (.int .i64 0) (want_none rfl) rfl rfl (.inr rfl) rfl ?_
  refine wl_nil ?_
  refine wq_then ?_
  refine wc_seq ?_
  refine wc_region ?_
  refine wl_pure (.pointer (some ⟨g201, 1, none⟩)) (want_none rfl) rfl rfl (by kernel_rfl) ?_
  refine wl_load1 (.slice a1 x.Sn.length c1) (want_none rfl) rfl rfl rfl rfl isAgg_22 b205 rfl ?_
  refine wl_mv (.int .i64 k) (want_none rfl) rfl rfl (.inl rfl) rfl ?_
  have r206 := (r1.kp k204)
  have wp207 : Wp w1 5 a1 x.Sn.length c1 _ := (Wp.kp p1 k204)
  refine wl_call (want_none rfl) (args := #[(.slice a1 x.Sn.length c1), (.int .i64 k)]) rfl rfl (by kernel_rfl) (C_laws_markByteS w1 a1 c1 x.Sn k (by omega) (by omega) s1 r206 wp207) ?_
  rintro _ w2 ⟨rfl, k208, r209⟩
  refine wl_mv (.int .i64 (k + (x.Sn.length : Int))) (want_none rfl) rfl rfl (.inr rfl) rfl ?_
  refine wl_nil ?_
  refine wq_then ?_
  refine wc_seq ?_
  refine wc_region ?_
  refine wl_pure (.pointer (some ⟨g201, 2, none⟩)) (want_none rfl) rfl rfl (by kernel_rfl) ?_
  have b210 := (b205.ch k208 (ms_lo (ms_lo_cons (fun hn x hx hb => by have := Wp.lt p1 hn x hx; have := Nat.le_trans (Nat.le_refl _) p202; omega) ms_lo_nil)))
  refine wl_loadN [(.int .i64 x.Cur.N), (.slice a2 x.Cur.Key.length c2), (.int .i64 x.Cur.Seq), (.int .i64 x.Cur.Win.Top), (.slice a3 x.Cur.Win.Bits.length c3)] (want_none rfl) rfl rfl rfl rfl isAgg_27 sizeOf_27 b210 rfl ?_
  refine wl_mv (.int .i64 (k + (x.Sn.length : Int))) (want_none rfl) rfl rfl (.inl rfl) rfl ?_
  have r211 := (Rd.ms (l := [(a1, x.Sn.length, c1)]) (r2.kp k204) rfl k208 (ap_cons (rd_cap r206) (ap.1.1) ap_nil))
  have r212 := (Rd.ms (l := [(a1, x.Sn.length, c1)]) (r3.kp k204) rfl k208 (ap_cons (rd_cap r206) (ap.1.2.1) ap_nil))
  have wp213 : Wp w2 5 a2 x.Cur.Key.length c2 _ := (Wp.ms (l := [(a1, x.Sn.length, c1)]) (Wp.kp p2 k204) (rd_cap r211) rfl k208 (ap_cons (rd_cap r206) (ap.1.1) ap_nil))
  have wp214 : Wp w2 3 a3 x.Cur.Win.Bits.length c3 _ := (Wp.ms (l := [(a1, x.Sn.length, c1)]) (Wp.kp p3 k204) (rd_cap r212) rfl k208 (ap_cons (rd_cap r206) (ap.1.2.1) ap_nil))
  refine wl_call (want_none rfl) (args := #[(.agg #[(.int .i64 x.Cur.N), (.slice a2 x.Cur.Key.length c2), (.int .i64 x.Cur.Seq), (.int .i64 x.Cur.Win.Top), (.slice a3 x.Cur.Win.Bits.length c3)]), (.int .i64 (k + (x.Sn.length : Int)))]) rfl rfl (by kernel_rfl) (C_laws_markEp w2 a2 c2 a3 c3 x.Cur (k + (x.Sn.length : Int)) (by omega) (by omega) s2 r211 wp213 s3 r212 wp214 ⟨⟨(ap.2.1.1), trivial⟩, ⟨trivial, trivial⟩⟩) ?_
  rintro _ w3 ⟨rfl, k215, r216, r217⟩
  refine wl_mv (.int .i64 (((k + (x.Sn.length : Int)) + (x.Cur.Key.length : Int)) + (x.Cur.Win.Bits.length : Int))) (want_none rfl) rfl rfl (.inr rfl) rfl ?_
  refine wl_nil ?_
  refine wq_then ?_
  refine wc_seq ?_
  refine wc_region ?_
  refine wl_pure (.pointer (some ⟨g201, 7, none⟩)) (want_none rfl) rfl rfl (by kernel_rfl) ?_
  have b218 := (b210.ch k215 (ms_lo (ms_lo_cons (fun hn x hx hb => by have := Wp.lt p2 hn x hx; have := Nat.le_trans (Nat.le_refl _) p202; omega) (ms_lo_cons (fun hn x hx hb => by have := Wp.lt p3 hn x hx; have := Nat.le_trans (Nat.le_refl _) p202; omega) ms_lo_nil))))
  refine wl_loadN [(.int .i64 x.Old.N), (.slice a4 x.Old.Key.length c4), (.int .i64 x.Old.Seq), (.int .i64 x.Old.Win.Top), (.slice a5 x.Old.Win.Bits.length c5)] (want_none rfl) rfl rfl rfl rfl isAgg_27 sizeOf_27 b218 rfl ?_
  refine wl_mv (.int .i64 (((k + (x.Sn.length : Int)) + (x.Cur.Key.length : Int)) + (x.Cur.Win.Bits.length : Int))) (want_none rfl) rfl rfl (.inl rfl) rfl ?_
  have r219 := (Rd.ms (l := [(a2, x.Cur.Key.length, c2), (a3, x.Cur.Win.Bits.length, c3)]) (Rd.ms (l := [(a1, x.Sn.length, c1)]) (r4.kp k204) rfl k208 (ap_cons (rd_cap r206) (ap.1.2.2.1) ap_nil)) rfl k215 (ap_cons (rd_cap r211) (ap.2.1.2.1) (ap_cons (rd_cap r212) (ap.2.2.1.1) ap_nil)))
  have r220 := (Rd.ms (l := [(a2, x.Cur.Key.length, c2), (a3, x.Cur.Win.Bits.length, c3)]) (Rd.ms (l := [(a1, x.Sn.length, c1)]) (r5.kp k204) rfl k208 (ap_cons (rd_cap r206) (ap.1.2.2.2.1) ap_nil)) rfl k215 (ap_cons (rd_cap r211) (ap.2.1.2.2.1) (ap_cons (rd_cap r212) (ap.2.2.1.2.1) ap_nil)))
  have wp221 : Wp w3 5 a4 x.Old.Key.length c4 _ := (Wp.ms (l := [(a2, x.Cur.Key.length, c2), (a3, x.Cur.Win.Bits.length, c3)]) (Wp.ms (l := [(a1, x.Sn.length, c1)]) (Wp.kp p4 k204) (rd_cap r219) rfl k208 (ap_cons (rd_cap r206) (ap.1.2.2.1) ap_nil)) (rd_cap r219) rfl k215 (ap_cons (rd_cap r211) (ap.2.1.2.1) (ap_cons (rd_cap r212) (ap.2.2.1.1) ap_nil)))
  have wp222 : Wp w3 3 a5 x.Old.Win.Bits.length c5 _ := (Wp.ms (l := [(a2, x.Cur.Key.length, c2), (a3, x.Cur.Win.Bits.length, c3)]) (Wp.ms (l := [(a1, x.Sn.length, c1)]) (Wp.kp p5 k204) (rd_cap r220) rfl k208 (ap_cons (rd_cap r206) (ap.1.2.2.2.1) ap_nil)) (rd_cap r220) rfl k215 (ap_cons (rd_cap r211) (ap.2.1.2.2.1) (ap_cons (rd_cap r212) (ap.2.2.1.2.1) ap_nil)))
  refine wl_call (want_none rfl) (args := #[(.agg #[(.int .i64 x.Old.N), (.slice a4 x.Old.Key.length c4), (.int .i64 x.Old.Seq), (.int .i64 x.Old.Win.Top), (.slice a5 x.Old.Win.Bits.length c5)]), (.int .i64 (((k + (x.Sn.length : Int)) + (x.Cur.Key.length : Int)) + (x.Cur.Win.Bits.length : Int)))]) rfl rfl (by kernel_rfl) (C_laws_markEp w3 a4 c4 a5 c5 x.Old (((k + (x.Sn.length : Int)) + (x.Cur.Key.length : Int)) + (x.Cur.Win.Bits.length : Int)) (by omega) (by omega) s4 r219 wp221 s5 r220 wp222 ⟨⟨(ap.2.2.2.1.1), trivial⟩, ⟨trivial, trivial⟩⟩) ?_
  rintro _ w4 ⟨rfl, k223, r224, r225⟩
  refine wl_mv (.int .i64 (((((k + (x.Sn.length : Int)) + (x.Cur.Key.length : Int)) + (x.Cur.Win.Bits.length : Int)) + (x.Old.Key.length : Int)) + (x.Old.Win.Bits.length : Int))) (want_none rfl) rfl rfl (.inr rfl) rfl ?_
  refine wl_nil ?_
  refine wq_then ?_
  refine wc_seq ?_
  refine wc_region ?_
  refine wl_pure (.pointer (some ⟨g201, 14, none⟩)) (want_none rfl) rfl rfl (by kernel_rfl) ?_
  have b226 := (b218.ch k223 (ms_lo (ms_lo_cons (fun hn x hx hb => by have := Wp.lt p4 hn x hx; have := Nat.le_trans (Nat.le_refl _) p202; omega) (ms_lo_cons (fun hn x hx hb => by have := Wp.lt p5 hn x hx; have := Nat.le_trans (Nat.le_refl _) p202; omega) ms_lo_nil))))
  refine wl_load1 (.slice a6 x.Next.length c6) (want_none rfl) rfl rfl rfl rfl isAgg_22 b226 rfl ?_
  refine wl_mv (.int .i64 (((((k + (x.Sn.length : Int)) + (x.Cur.Key.length : Int)) + (x.Cur.Win.Bits.length : Int)) + (x.Old.Key.length : Int)) + (x.Old.Win.Bits.length : Int))) (want_none rfl) rfl rfl (.inl rfl) rfl ?_
  have r227 := (Rd.ms (l := [(a4, x.Old.Key.length, c4), (a5, x.Old.Win.Bits.length, c5)]) (Rd.ms (l := [(a2, x.Cur.Key.length, c2), (a3, x.Cur.Win.Bits.length, c3)]) (Rd.ms (l := [(a1, x.Sn.length, c1)]) (r6.kp k204) rfl k208 (ap_cons (rd_cap r206) (ap.1.2.2.2.2.1) ap_nil)) rfl k215 (ap_cons (rd_cap r211) (ap.2.1.2.2.2.1) (ap_cons (rd_cap r212) (ap.2.2.1.2.2.1) ap_nil))) rfl k223 (ap_cons (rd_cap r219) (ap.2.2.2.1.2.1) (ap_cons (rd_cap r220) (ap.2.2.2.2.1.1) ap_nil)))
  have wp228 : Wp w4 5 a6 x.Next.length c6 _ := (Wp.ms (l := [(a4, x.Old.Key.length, c4), (a5, x.Old.Win.Bits.length, c5)]) (Wp.ms (l := [(a2, x.Cur.Key.length, c2), (a3, x.Cur.Win.Bits.length, c3)]) (Wp.ms (l := [(a1, x.Sn.length, c1)]) (Wp.kp p6 k204) (rd_cap r227) rfl k208 (ap_cons (rd_cap r206) (ap.1.2.2.2.2.1) ap_nil)) (rd_cap r227) rfl k215 (ap_cons (rd_cap r211) (ap.2.1.2.2.2.1) (ap_cons (rd_cap r212) (ap.2.2.1.2.2.1) ap_nil))) (rd_cap r227) rfl k223 (ap_cons (rd_cap r219) (ap.2.2.2.1.2.1) (ap_cons (rd_cap r220) (ap.2.2.2.2.1.1) ap_nil)))
  refine wl_call (want_none rfl) (args := #[(.slice a6 x.Next.length c6), (.int .i64 (((((k + (x.Sn.length : Int)) + (x.Cur.Key.length : Int)) + (x.Cur.Win.Bits.length : Int)) + (x.Old.Key.length : Int)) + (x.Old.Win.Bits.length : Int)))]) rfl rfl (by kernel_rfl) (C_laws_markByteS w4 a6 c6 x.Next (((((k + (x.Sn.length : Int)) + (x.Cur.Key.length : Int)) + (x.Cur.Win.Bits.length : Int)) + (x.Old.Key.length : Int)) + (x.Old.Win.Bits.length : Int)) (by omega) (by omega) s6 r227 wp228) ?_
  rintro _ w5 ⟨rfl, k229, r230⟩
  refine wl_mv (.int .i64 ((((((k + (x.Sn.length : Int)) + (x.Cur.Key.length : Int)) + (x.Cur.Win.Bits.length : Int)) + (x.Old.Key.length : Int)) + (x.Old.Win.Bits.length : Int)) + (x.Next.length : Int))) (want_none rfl) rfl rfl (.inr rfl) rfl ?_
  refine wl_nil ?_
  refine wq_then ?_
  refine wc_seq ?_
  refine wc_region ?_
  refine wl_mv (.int .i64 ((((((k + (x.Sn.length : Int)) + (x.Cur.Key.length : Int)) + (x.Cur.Win.Bits.length : Int)) + (x.Old.Key.length : Int)) + (x.Old.Win.Bits.length : Int)) + (x.Next.length : Int))) (want_none rfl) rfl rfl (.inl rfl) rfl ?_
  refine wl_mv (.int .i64 ((((((k + (x.Sn.length : Int)) + (x.Cur.Key.length : Int)) + (x.Cur.Win.Bits.length : Int)) + (x.Old.Key.length : Int)) + (x.Old.Win.Bits.length : Int)) + (x.Next.length : Int))) (want_none rfl) rfl rfl (.inr rfl) rfl ?_
  refine wl_nil ?_
  refine wq_then ?_
  refine wc_ret ?_
  have r231 := (Rd.ms (l := [(a6, x.Next.length, c6)]) (Rd.ms (l := [(a4, x.Old.Key.length, c4), (a5, x.Old.Win.Bits.length, c5)]) (Rd.ms (l := [(a2, x.Cur.Key.length, c2), (a3, x.Cur.Win.Bits.length, c3)]) r209 rfl k215 (ap_cons (rd_cap r211) (ap.1.1).symm (ap_cons (rd_cap r212) (ap.1.2.1).symm ap_nil))) rfl k223 (ap_cons (rd_cap r219) (ap.1.2.2.1).symm (ap_cons (rd_cap r220) (ap.1.2.2.2.1).symm ap_nil))) rfl k229 (ap_cons (rd_cap r227) (ap.1.2.2.2.2.1).symm ap_nil))
  have r232 := (Rd.ms (l := [(a6, x.Next.length, c6)]) (Rd.ms (l := [(a4, x.Old.Key.length, c4), (a5, x.Old.Win.Bits.length, c5)]) r216 rfl k223 (ap_cons (rd_cap r219) (ap.2.1.2.1).symm (ap_cons (rd_cap r220) (ap.2.1.2.2.1).symm ap_nil))) rfl k229 (ap_cons (rd_cap r227) (ap.2.1.2.2.2.1).symm ap_nil))
  have r233 := (Rd.ms (l := [(a6, x.Next.length, c6)]) (Rd.ms (l := [(a4, x.Old.Key.length, c4), (a5, x.Old.Win.Bits.length, c5)]) r217 rfl k223 (ap_cons (rd_cap r219) (ap.2.2.1.1).symm (ap_cons (rd_cap r220) (ap.2.2.1.2.1).symm ap_nil))) rfl k229 (ap_cons (rd_cap r227) (ap.2.2.1.2.2.1).symm ap_nil))
  have r234 := (Rd.ms (l := [(a6, x.Next.length, c6)]) r224 rfl k229 (ap_cons (rd_cap r227) (ap.2.2.2.1.2.1).symm ap_nil))
  have r235 := (Rd.ms (l := [(a6, x.Next.length, c6)]) r225 rfl k229 (ap_cons (rd_cap r227) (ap.2.2.2.2.1.1).symm ap_nil))
  exact ret_1 (.inl rfl) (.int .i64 ((((((k + (x.Sn.length : Int)) + (x.Cur.Key.length : Int)) + (x.Cur.Win.Bits.length : Int)) + (x.Old.Key.length : Int)) + (x.Old.Win.Bits.length : Int)) + (x.Next.length : Int))) rfl rfl ⟨rfl, ((((((Ch.refl (MS [(a1, x.Sn.length), (a2, x.Cur.Key.length), (a3, x.Cur.Win.Bits.length), (a4, x.Old.Key.length), (a5, x.Old.Win.Bits.length), (a6, x.Next.length)]) w0).comp k204 (fun _ _ h => h.elim)).comp k208 (fun _ _ h => ms_sub [] [(a2, x.Cur.Key.length), (a3, x.Cur.Win.Bits.length), (a4, x.Old.Key.length), (a5, x.Old.Win.Bits.length), (a6, x.Next.length)] h)).comp k215 (fun _ _ h => ms_sub [(a1, x.Sn.length)] [(a4, x.Old.Key.length), (a5, x.Old.Win.Bits.length), (a6, x.Next.length)] h)).comp k223 (fun _ _ h => ms_sub [(a1, x.Sn.length), (a2, x.Cur.Key.length), (a3, x.Cur.Win.Bits.length)] [(a6, x.Next.length)] h)).comp k229 (fun _ _ h => ms_sub [(a1, x.Sn.length), (a2, x.Cur.Key.length), (a3, x.Cur.Win.Bits.length), (a4, x.Old.Key.length), (a5, x.Old.Win.Bits.length)] [] h)), r231, r232, r233, r234, r235, r230⟩

def O_3 (w : World) (lo : Nat) (v : Value) (x : (Int)) : Prop := v = .int .i64 x
theorem C_laws_heldByteS (w0 : World) (v_x_a : Value) (x_a : List UInt8) (r_x_a : R_22 w0 v_x_a x_a) (x_k : Int) (pre0 : 0 ≤ x_k) (pre1 : x_k ≤ 9000000000000000000) : Fn Try.prog 31 #[v_x_a, (.int .i64 x_k)] w0 (fun v w' => Keep w0 w' ∧ O_3 w' w0.heap.size v (heldB x_a x_k)) := by
  obtain ⟨a1, c2, rfl, r3, s4⟩ := r_x_a
  refine fn_of (n := 22) (l := [(.slice a1 x_a.length c2), (.int .i64 x_k), undef, undef, undef, undef, undef, undef, undef, undef, undef, undef, undef, undef, undef, undef, undef, undef, undef, undef, undef, undef]) Try.func31 rfl rfl (by kernel_rfl) rfl ?_
  refine wc_seq ?_
  refine wc_region ?_
  refine wl_mv (.int .i64 0) (want_none rfl) rfl rfl (.inr rfl) rfl ?_
  refine wl_nil ?_
  refine wq_then ?_
  refine wc_seq ?_
  refine wc_seq ?_
  refine wc_region ?_
  refine wl_mv (.int .i64 0) (want_none rfl) rfl rfl (.inr rfl) rfl ?_
  refine wl_nil ?_
  refine wq_then ?_
  refine wc_block ?_
  refine wc_norm [(.slice a1 x_a.length c2), (.int .i64 x_k), undef, undef, (.int .i64 0), (.int .i64 0), undef, undef, undef, undef, undef, undef, undef, undef, undef, undef, undef, undef, undef, undef, undef, undef] rfl ⟨rfl, rfl, rfl, rfl, rfl, rfl, rfl, rfl, rfl, rfl, rfl, rfl, rfl, rfl, rfl, rfl, rfl, rfl, rfl, rfl, rfl, rfl, trivial⟩ ?_
  refine wc_loop (fun e' w' => ∃ (i : Nat) (u4x u6x u7x u8x u9x u10x u11x u12x u13x u14x u15x u16x u17x u18x u19x u20x : Value), e' = lst [(.slice a1 x_a.length c2), (.int .i64 (x_k + ((i : Nat) : Int))), undef, undef, u4x, (.int .i64 ((i : Nat) : Int)), u6x, u7x, u8x, u9x, u10x, u11x, u12x, u13x, u14x, u15x, u16x, u17x, u18x, u19x, u20x, undef] ∧ Ch (fun k => w0.heap.size ≤ k) w0 w' ∧ Ch (fun k => w0.heap.size ≤ k) w0 w' ∧ i ≤ x_a.length ∧ heldB x_a x_k = heldB (x_a.drop i) (x_k + ((i : Nat) : Int))) (fun e' _ => x_a.length - ((intOf (e' 5))).toNat) ?_ ?_
  · exact ⟨0, (.int .i64 0), undef, undef, undef, undef, undef, undef, undef, undef, undef, undef, undef, undef, undef, undef, undef, (cg2 (fun (x1z : Value) (x5z : Value) => lst [(.slice a1 x_a.length c2), x1z, undef, undef, (.int .i64 0), x5z, undef, undef, undef, undef, undef, undef, undef, undef, undef, undef, undef, undef, undef, undef, undef, undef]) (congrArg (Value.int .i64) (show (x_k : Int) = (x_k + ((0 : Nat) : Int)) by omega)) (congrArg (Value.int .i64) (show (0 : Int) = ((0 : Nat) : Int) by omega))), (Ch.base w0), (Ch.refl (fun k => w0.heap.size ≤ k) w0), (by omega), (by first | exact heldB_next (by assumption) (by omega) (by assumption) | simp)⟩
  · rintro _ w1 ⟨i, u4x, u6x, u7x, u8x, u9x, u10x, u11x, u12x, u13x, u14x, u15x, u16x, u17x, u18x, u19x, u20x, rfl, m6, k7, i8, i9⟩
    refine wc_seq ?_
    refine wc_seq ?_
    refine wc_region ?_
    refine wl_mv (.int .i64 ((i : Nat) : Int)) (want_none rfl) rfl rfl (.inl rfl) rfl ?_
    refine wl_mv (.slice a1 x_a.length c2) (want_none rfl) rfl rfl (.inl rfl) rfl ?_
    refine wl_len (want_none rfl) rfl rfl rfl slTy_22 rfl (r3.from0 m6) ?_
    refine wl_pure (.bool (decide (((i : Nat) : Int) < (x_a.length : Int)))) (want_none rfl) rfl rfl (by kernel_rfl) ?_
    refine wl_nil ?_
    refine wq_then ?_
    rcases Bool.eq_false_or_eq_true (decide (((i : Nat) : Int) < (x_a.length : Int))) with h10 | h10
    · have q11 := of_decide_eq_true h10
      refine wc_true (congrArg Value.bool h10) ?_
      refine wc_skip ?_
      refine wq_then ?_
      refine wc_seq ?_
      refine wc_block ?_
      refine wc_seq ?_
      refine wc_seq ?_
      refine wc_region ?_
      refine wl_mv (.slice a1 x_a.length c2) (want_none rfl) rfl rfl (.inl rfl) rfl ?_
      refine wl_mv (.int .i64 ((i : Nat) : Int)) (want_none rfl) rfl rfl (.inl rfl) rfl ?_
      refine wl_index (want_none rfl) ((i : Nat) : Int) rfl rfl rfl slTy_22 rfl rfl (r3.from0 m6) (by first | omega | (simp only [List.length_cons, List.length_nil, List.length_replicate, List.length_append, List.length_take, List.length_set, List.length_map]; omega)) (by first | omega | (simp only [List.length_cons, List.length_nil, List.length_replicate, List.length_append, List.length_take, List.length_set, List.length_map]; omega)) ?_
      refine wl_loadE (bV (x_a.getD i 0)) (want_none rfl) rfl rfl rfl rfl isAgg_5 (r3.from0 m6) (bget (by simp) (by first | omega | (simp only [List.length_cons, List.length_nil, List.length_replicate, List.length_append, List.length_take, List.length_set, List.length_map]; omega))) ?_
      refine wl_mv (.int .i64 (x_k + ((i : Nat) : Int))) (want_none rfl) rfl rfl (.inl rfl) rfl ?_
      refine wl_conv8 (x_k + ((i : Nat) : Int)) (want_none rfl) rfl rfl (by kernel_rfl) ?_
      refine wl_pure (.bool (!(decide (((x_a.getD i 0).toNat : Int) = ((by8 (x_k + ((i : Nat) : Int))).toNat : Int))))) (want_none rfl) rfl rfl (by kernel_rfl) ?_
      refine wl_nil ?_
      refine wq_then ?_
      rcases Bool.eq_false_or_eq_true (decide (((x_a.getD i 0).toNat : Int) = ((by8 (x_k + ((i : Nat) : Int))).toNat : Int))) with h12 | h12
      · have q13 := of_decide_eq_true h12
        refine wc_false (congrArg (fun b => Value.bool (!b)) h12) ?_
        refine wc_skip ?_
        refine wq_then ?_
        refine wc_region ?_
        refine wl_mv (.int .i64 (x_k + ((i : Nat) : Int))) (want_none rfl) rfl rfl (.inl rfl) rfl ?_
        refine wl_arith ((x_k + ((i : Nat) : Int)) + 1) (want_none rfl) rfl rfl (by kernel_rfl) (by omega) (by omega) ?_
        refine wl_mv (.int .i64 ((x_k + ((i : Nat) : Int)) + 1)) (want_none rfl) rfl rfl (.inr rfl) rfl ?_
        refine wl_nil ?_
        refine wq_blk_normal ?_
        refine wq_then ?_
        refine wc_region ?_
        refine wl_mv (.int .i64 ((i : Nat) : Int)) (want_none rfl) rfl rfl (.inl rfl) rfl ?_
        refine wl_arith (((i : Nat) : Int) + 1) (want_none rfl) rfl rfl (by kernel_rfl) (by omega) (by omega) ?_
        refine wl_mv (.int .i64 (((i : Nat) : Int) + 1)) (want_none rfl) rfl rfl (.inr rfl) rfl ?_
        refine wl_nil ?_
        exact wq_loopN (w0 := w1) [(.slice a1 x_a.length c2), (.int .i64 (x_k + (((i + 1) : Nat) : Int))), undef, undef, u4x, (.int .i64 (((i + 1) : Nat) : Int)), (.int .i64 ((i : Nat) : Int)), (.slice a1 x_a.length c2), (.int .i64 (x_a.length : Int)), (.bool (decide (((i : Nat) : Int) < (x_a.length : Int)))), (.int .i64 ((i : Nat) : Int)), (.int .i64 (((i : Nat) : Int) + 1)), (.slice a1 x_a.length c2), (.int .i64 ((i : Nat) : Int)), (.pointer (some (elA (.slice a1 x_a.length c2) ((((i : Nat) : Int)).toNat * 1)))), (.int .u8 ((x_a.getD i 0).toNat : Int)), (.int .i64 (x_k + ((i : Nat) : Int))), (.int .u8 ((by8 (x_k + ((i : Nat) : Int))).toNat : Int)), (.bool (!(decide (((x_a.getD i 0).toNat : Int) = ((by8 (x_k + ((i : Nat) : Int))).toNat : Int))))), (.int .i64 (x_k + ((i : Nat) : Int))), (.int .i64 ((x_k + ((i : Nat) : Int)) + 1)), undef] rfl ⟨rfl, (congrArg (Value.int .i64) (show (((x_k + ((i : Nat) : Int)) + 1) : Int) = (x_k + (((i + 1) : Nat) : Int)) by omega)), rfl, rfl, rfl, (congrArg (Value.int .i64) (show ((((i : Nat) : Int) + 1) : Int) = (((i + 1) : Nat) : Int) by omega)), rfl, rfl, rfl, rfl, rfl, rfl, rfl, rfl, rfl, rfl, rfl, rfl, rfl, rfl, rfl, rfl, trivial⟩ ⟨(i + 1), u4x, (.int .i64 ((i : Nat) : Int)), (.slice a1 x_a.length c2), (.int .i64 (x_a.length : Int)), (.bool (decide (((i : Nat) : Int) < (x_a.length : Int)))), (.int .i64 ((i : Nat) : Int)), (.int .i64 (((i : Nat) : Int) + 1)), (.slice a1 x_a.length c2), (.int .i64 ((i : Nat) : Int)), (.pointer (some (elA (.slice a1 x_a.length c2) ((((i : Nat) : Int)).toNat * 1)))), (.int .u8 ((x_a.getD i 0).toNat : Int)), (.int .i64 (x_k + ((i : Nat) : Int))), (.int .u8 ((by8 (x_k + ((i : Nat) : Int))).toNat : Int)), (.bool (!(decide (((x_a.getD i 0).toNat : Int) = ((by8 (x_k + ((i : Nat) : Int))).toNat : Int))))), (.int .i64 (x_k + ((i : Nat) : Int))), (.int .i64 ((x_k + ((i : Nat) : Int)) + 1)), rfl, m6, ((Ch.refl (fun k => w0.heap.size ≤ k) w0).ext k7 (fun k hk => Nat.le_trans (Nat.le_refl _) hk)), (by omega), (by first | exact heldB_next (by assumption) (by omega) (by assumption) | simp)⟩ (by show x_a.length - ((((i + 1) : Nat) : Int)).toNat < x_a.length - (((i : Nat) : Int)).toNat; omega)
      · have q14 := of_decide_eq_false h12
        refine wc_true (congrArg (fun b => Value.bool (!b)) h12) ?_
        refine wc_seq ?_
        refine wc_region ?_
        refine wl_mv (.int .i64 (-1)) (want_none rfl) rfl rfl (.inr rfl) rfl ?_
        refine wl_nil ?_
        refine wq_then ?_
        refine wc_ret ?_
        refine wq_then_ret ?_
        refine wq_blk_ret ?_
        refine wq_then_ret ?_
        refine wq_then_ret ?_
        refine wq_blk_ret ?_
        refine wq_then_ret ?_
        refine ret_1 (.inl rfl) (.int .i64 (-1)) rfl rfl ?_
        refine ⟨m6.keep0, ?_⟩
        have hF15 : heldB x_a x_k = (-1) := by first | exact heldB_ne (by assumption) (by omega) (by assumption) | exact heldB_end (by assumption) (by omega)
        rw [hF15]
        exact rfl
    · have q16 := of_decide_eq_false h10
      refine wc_false (congrArg Value.bool h10) ?_
      refine wc_exit ?_
      refine wq_then_exit ?_
      refine wq_then_exit ?_
      refine wq_blk_exit ?_
      refine wq_then ?_
      refine wc_seq ?_
      refine wc_region ?_
      refine wl_mv (.int .i64 (x_k + ((i : Nat) : Int))) (want_none rfl) rfl rfl (.inl rfl) rfl ?_
      refine wl_mv (.int .i64 (x_k + ((i : Nat) : Int))) (want_none rfl) rfl rfl (.inr rfl) rfl ?_
      refine wl_nil ?_
      refine wq_then ?_
      refine wc_ret ?_
      refine ret_1 (.inl rfl) (.int .i64 (x_k + ((i : Nat) : Int))) rfl rfl ?_
      refine ⟨m6.keep0, ?_⟩
      have hF17 : heldB x_a x_k = (x_k + ((i : Nat) : Int)) := by first | exact heldB_ne (by assumption) (by omega) (by assumption) | exact heldB_end (by assumption) (by omega)
      rw [hF17]
      exact rfl

theorem C_laws_heldIntS (w0 : World) (v_x_a : Value) (x_a : List Int) (r_x_a : R_23 w0 v_x_a x_a) (x_k : Int) (pre0 : 0 ≤ x_k) (pre1 : x_k ≤ 9000000000000000000) : Fn Try.prog 121 #[v_x_a, (.int .i64 x_k)] w0 (fun v w' => Keep w0 w' ∧ O_3 w' w0.heap.size v (heldI x_a x_k)) := by
  obtain ⟨a1, c2, rfl, r3, s4⟩ := r_x_a
  refine fn_of (n := 21) (l := [(.slice a1 x_a.length c2), (.int .i64 x_k), undef, undef, undef, undef, undef, undef, undef, undef, undef, undef, undef, undef, undef, undef, undef, undef, undef, undef, undef]) Try.func121 rfl rfl (by kernel_rfl) rfl ?_
  refine wc_seq ?_
  refine wc_region ?_
  refine wl_mv (.int .i64 0) (want_none rfl) rfl rfl (.inr rfl) rfl ?_
  refine wl_nil ?_
  refine wq_then ?_
  refine wc_seq ?_
  refine wc_seq ?_
  refine wc_region ?_
  refine wl_mv (.int .i64 0) (want_none rfl) rfl rfl (.inr rfl) rfl ?_
  refine wl_nil ?_
  refine wq_then ?_
  refine wc_block ?_
  refine wc_norm [(.slice a1 x_a.length c2), (.int .i64 x_k), undef, undef, (.int .i64 0), (.int .i64 0), undef, undef, undef, undef, undef, undef, undef, undef, undef, undef, undef, undef, undef, undef, undef] rfl ⟨rfl, rfl, rfl, rfl, rfl, rfl, rfl, rfl, rfl, rfl, rfl, rfl, rfl, rfl, rfl, rfl, rfl, rfl, rfl, rfl, rfl, trivial⟩ ?_
  refine wc_loop (fun e' w' => ∃ (i : Nat) (u4x u6x u7x u8x u9x u10x u11x u12x u13x u14x u15x u16x u17x u18x u19x : Value), e' = lst [(.slice a1 x_a.length c2), (.int .i64 (x_k + ((i : Nat) : Int))), undef, undef, u4x, (.int .i64 ((i : Nat) : Int)), u6x, u7x, u8x, u9x, u10x, u11x, u12x, u13x, u14x, u15x, u16x, u17x, u18x, u19x, undef] ∧ Ch (fun k => w0.heap.size ≤ k) w0 w' ∧ Ch (fun k => w0.heap.size ≤ k) w0 w' ∧ i ≤ x_a.length ∧ heldI x_a x_k = heldI (x_a.drop i) (x_k + ((i : Nat) : Int))) (fun e' _ => x_a.length - ((intOf (e' 5))).toNat) ?_ ?_
  · exact ⟨0, (.int .i64 0), undef, undef, undef, undef, undef, undef, undef, undef, undef, undef, undef, undef, undef, undef, (cg2 (fun (x1z : Value) (x5z : Value) => lst [(.slice a1 x_a.length c2), x1z, undef, undef, (.int .i64 0), x5z, undef, undef, undef, undef, undef, undef, undef, undef, undef, undef, undef, undef, undef, undef, undef]) (congrArg (Value.int .i64) (show (x_k : Int) = (x_k + ((0 : Nat) : Int)) by omega)) (congrArg (Value.int .i64) (show (0 : Int) = ((0 : Nat) : Int) by omega))), (Ch.base w0), (Ch.refl (fun k => w0.heap.size ≤ k) w0), (by omega), (by first | exact heldI_next (by assumption) (by omega) (by assumption) | simp)⟩
  · rintro _ w1 ⟨i, u4x, u6x, u7x, u8x, u9x, u10x, u11x, u12x, u13x, u14x, u15x, u16x, u17x, u18x, u19x, rfl, m6, k7, i8, i9⟩
    refine wc_seq ?_
    refine wc_seq ?_
    refine wc_region ?_
    refine wl_mv (.int .i64 ((i : Nat) : Int)) (want_none rfl) rfl rfl (.inl rfl) rfl ?_
    refine wl_mv (.slice a1 x_a.length c2) (want_none rfl) rfl rfl (.inl rfl) rfl ?_
    refine wl_len (want_none rfl) rfl rfl rfl slTy_23 rfl (r3.from0 m6) ?_
    refine wl_pure (.bool (decide (((i : Nat) : Int) < (x_a.length : Int)))) (want_none rfl) rfl rfl (by kernel_rfl) ?_
    refine wl_nil ?_
    refine wq_then ?_
    rcases Bool.eq_false_or_eq_true (decide (((i : Nat) : Int) < (x_a.length : Int))) with h10 | h10
    · have q11 := of_decide_eq_true h10
      refine wc_true (congrArg Value.bool h10) ?_
      refine wc_skip ?_
      refine wq_then ?_
      refine wc_seq ?_
      refine wc_block ?_
      refine wc_seq ?_
      refine wc_seq ?_
      refine wc_region ?_
      refine wl_mv (.slice a1 x_a.length c2) (want_none rfl) rfl rfl (.inl rfl) rfl ?_
      refine wl_mv (.int .i64 ((i : Nat) : Int)) (want_none rfl) rfl rfl (.inl rfl) rfl ?_
      refine wl_index (want_none rfl) ((i : Nat) : Int) rfl rfl rfl slTy_23 rfl rfl (r3.from0 m6) (by first | omega | (simp only [List.length_cons, List.length_nil, List.length_replicate, List.length_append, List.length_take, List.length_set, List.length_map]; omega)) (by first | omega | (simp only [List.length_cons, List.length_nil, List.length_replicate, List.length_append, List.length_take, List.length_set, List.length_map]; omega)) ?_
      refine wl_loadE (iV (x_a.getD i 0)) (want_none rfl) rfl rfl rfl rfl isAgg_3 (r3.from0 m6) (iget (by simp) (by first | omega | (simp only [List.length_cons, List.length_nil, List.length_replicate, List.length_append, List.length_take, List.length_set, List.length_map]; omega))) ?_
      refine wl_mv (.int .i64 (x_k + ((i : Nat) : Int))) (want_none rfl) rfl rfl (.inl rfl) rfl ?_
      refine wl_pure (.bool (!(decide ((x_a.getD i 0) = (x_k + ((i : Nat) : Int)))))) (want_none rfl) rfl rfl (by kernel_rfl) ?_
      refine wl_nil ?_
      refine wq_then ?_
      rcases Bool.eq_false_or_eq_true (decide ((x_a.getD i 0) = (x_k + ((i : Nat) : Int)))) with h12 | h12
      · have q13 := of_decide_eq_true h12
        refine wc_false (congrArg (fun b => Value.bool (!b)) h12) ?_
        refine wc_skip ?_
        refine wq_then ?_
        refine wc_region ?_
        refine wl_mv (.int .i64 (x_k + ((i : Nat) : Int))) (want_none rfl) rfl rfl (.inl rfl) rfl ?_
        refine wl_arith ((x_k + ((i : Nat) : Int)) + 1) (want_none rfl) rfl rfl (by kernel_rfl) (by omega) (by omega) ?_
        refine wl_mv (.int .i64 ((x_k + ((i : Nat) : Int)) + 1)) (want_none rfl) rfl rfl (.inr rfl) rfl ?_
        refine wl_nil ?_
        refine wq_blk_normal ?_
        refine wq_then ?_
        refine wc_region ?_
        refine wl_mv (.int .i64 ((i : Nat) : Int)) (want_none rfl) rfl rfl (.inl rfl) rfl ?_
        refine wl_arith (((i : Nat) : Int) + 1) (want_none rfl) rfl rfl (by kernel_rfl) (by omega) (by omega) ?_
        refine wl_mv (.int .i64 (((i : Nat) : Int) + 1)) (want_none rfl) rfl rfl (.inr rfl) rfl ?_
        refine wl_nil ?_
        exact wq_loopN (w0 := w1) [(.slice a1 x_a.length c2), (.int .i64 (x_k + (((i + 1) : Nat) : Int))), undef, undef, u4x, (.int .i64 (((i + 1) : Nat) : Int)), (.int .i64 ((i : Nat) : Int)), (.slice a1 x_a.length c2), (.int .i64 (x_a.length : Int)), (.bool (decide (((i : Nat) : Int) < (x_a.length : Int)))), (.int .i64 ((i : Nat) : Int)), (.int .i64 (((i : Nat) : Int) + 1)), (.slice a1 x_a.length c2), (.int .i64 ((i : Nat) : Int)), (.pointer (some (elA (.slice a1 x_a.length c2) ((((i : Nat) : Int)).toNat * 1)))), (.int .i64 (x_a.getD i 0)), (.int .i64 (x_k + ((i : Nat) : Int))), (.bool (!(decide ((x_a.getD i 0) = (x_k + ((i : Nat) : Int)))))), (.int .i64 (x_k + ((i : Nat) : Int))), (.int .i64 ((x_k + ((i : Nat) : Int)) + 1)), undef] rfl ⟨rfl, (congrArg (Value.int .i64) (show (((x_k + ((i : Nat) : Int)) + 1) : Int) = (x_k + (((i + 1) : Nat) : Int)) by omega)), rfl, rfl, rfl, (congrArg (Value.int .i64) (show ((((i : Nat) : Int) + 1) : Int) = (((i + 1) : Nat) : Int) by omega)), rfl, rfl, rfl, rfl, rfl, rfl, rfl, rfl, rfl, rfl, rfl, rfl, rfl, rfl, rfl, trivial⟩ ⟨(i + 1), u4x, (.int .i64 ((i : Nat) : Int)), (.slice a1 x_a.length c2), (.int .i64 (x_a.length : Int)), (.bool (decide (((i : Nat) : Int) < (x_a.length : Int)))), (.int .i64 ((i : Nat) : Int)), (.int .i64 (((i : Nat) : Int) + 1)), (.slice a1 x_a.length c2), (.int .i64 ((i : Nat) : Int)), (.pointer (some (elA (.slice a1 x_a.length c2) ((((i : Nat) : Int)).toNat * 1)))), (.int .i64 (x_a.getD i 0)), (.int .i64 (x_k + ((i : Nat) : Int))), (.bool (!(decide ((x_a.getD i 0) = (x_k + ((i : Nat) : Int)))))), (.int .i64 (x_k + ((i : Nat) : Int))), (.int .i64 ((x_k + ((i : Nat) : Int)) + 1)), rfl, m6, ((Ch.refl (fun k => w0.heap.size ≤ k) w0).ext k7 (fun k hk => Nat.le_trans (Nat.le_refl _) hk)), (by omega), (by first | exact heldI_next (by assumption) (by omega) (by assumption) | simp)⟩ (by show x_a.length - ((((i + 1) : Nat) : Int)).toNat < x_a.length - (((i : Nat) : Int)).toNat; omega)
      · have q14 := of_decide_eq_false h12
        refine wc_true (congrArg (fun b => Value.bool (!b)) h12) ?_
        refine wc_seq ?_
        refine wc_region ?_
        refine wl_mv (.int .i64 (-1)) (want_none rfl) rfl rfl (.inr rfl) rfl ?_
        refine wl_nil ?_
        refine wq_then ?_
        refine wc_ret ?_
        refine wq_then_ret ?_
        refine wq_blk_ret ?_
        refine wq_then_ret ?_
        refine wq_then_ret ?_
        refine wq_blk_ret ?_
        refine wq_then_ret ?_
        refine ret_1 (.inl rfl) (.int .i64 (-1)) rfl rfl ?_
        refine ⟨m6.keep0, ?_⟩
        have hF15 : heldI x_a x_k = (-1) := by first | exact heldI_ne (by assumption) (by omega) (by assumption) | exact heldI_end (by assumption) (by omega)
        rw [hF15]
        exact rfl
    · have q16 := of_decide_eq_false h10
      refine wc_false (congrArg Value.bool h10) ?_
      refine wc_exit ?_
      refine wq_then_exit ?_
      refine wq_then_exit ?_
      refine wq_blk_exit ?_
      refine wq_then ?_
      refine wc_seq ?_
      refine wc_region ?_
      refine wl_mv (.int .i64 (x_k + ((i : Nat) : Int))) (want_none rfl) rfl rfl (.inl rfl) rfl ?_
      refine wl_mv (.int .i64 (x_k + ((i : Nat) : Int))) (want_none rfl) rfl rfl (.inr rfl) rfl ?_
      refine wl_nil ?_
      refine wq_then ?_
      refine wc_ret ?_
      refine ret_1 (.inl rfl) (.int .i64 (x_k + ((i : Nat) : Int))) rfl rfl ?_
      refine ⟨m6.keep0, ?_⟩
      have hF17 : heldI x_a x_k = (x_k + ((i : Nat) : Int)) := by first | exact heldI_ne (by assumption) (by omega) (by assumption) | exact heldI_end (by assumption) (by omega)
      rw [hF17]
      exact rfl

def F_laws_heldWin (x_a : PWin) (x_k : Int) : (Int) := bif (decide ((heldI x_a.Bits x_k) < 0)) then ((-1)) else ((heldI x_a.Bits x_k))
theorem C_laws_heldWin (w0 : World) (v_x_a : Value) (x_a : PWin) (r_x_a : R_25 w0 v_x_a x_a) (x_k : Int) (pre0 : 0 ≤ x_k) (pre1 : x_k ≤ 8800000000000000000) : Fn Try.prog 107 #[v_x_a, (.int .i64 x_k)] w0 (fun v w' => Keep w0 w' ∧ O_3 w' w0.heap.size v (F_laws_heldWin x_a x_k)) := by
  obtain ⟨a1, c2, rfl, r3, s4⟩ := r_x_a
  refine fn_of (n := 12) (l := [(.agg #[(.int .i64 x_a.Top), (.slice a1 x_a.Bits.length c2)]), (.int .i64 x_k), undef, undef, undef, undef, undef, undef, undef, undef, undef, undef]) Try.func107 rfl rfl (by kernel_rfl) rfl ?_
  refine wc_seq ?_
  refine wc_region ?_
  refine wl_box (want_none rfl) [(.int .i64 x_a.Top), (.slice a1 x_a.Bits.length c2)] rfl rfl rfl rfl ?_
  intro g6 w1 p7 p8 k9 b10
  have m11 := (Ch.base w0).extk k9
  refine wl_mv (.int .i64 0) (want_none rfl) rfl rfl (.inr rfl) rfl ?_
  refine wl_nil ?_
  refine wq_then ?_
  refine wc_seq ?_
  refine wc_region ?_
  refine wl_pure (.pointer (some ⟨g6, 1, none⟩)) (want_none rfl) rfl rfl (by kernel_rfl) ?_
  refine wl_load1 (.slice a1 x_a.Bits.length c2) (want_none rfl) rfl rfl rfl rfl isAgg_23 b10 rfl ?_
  refine wl_mv (.int .i64 x_k) (want_none rfl) rfl rfl (.inl rfl) rfl ?_
  refine wl_call (want_none rfl) (args := #[(.slice a1 x_a.Bits.length c2), (.int .i64 x_k)]) rfl rfl (by kernel_rfl) (C_laws_heldIntS w1 (.slice a1 x_a.Bits.length c2) x_a.Bits (show R_23 w1 (.slice a1 x_a.Bits.length c2) x_a.Bits from ⟨_, _, rfl, (r3.from0 m11), s4⟩) x_k (by omega) (by omega)) ?_
  rintro _ w2 ⟨k12, rfl⟩
  have m13 := m11.extk k12
  have q14 := heldI_le x_a.Bits x_k
  refine wl_mv (.int .i64 (heldI x_a.Bits x_k)) (want_none rfl) rfl rfl (.inr rfl) rfl ?_
  refine wl_nil ?_
  refine wq_then ?_
  refine wc_seq ?_
  refine wc_seq ?_
  refine wc_region ?_
  refine wl_mv (.int .i64 (heldI x_a.Bits x_k)) (want_none rfl) rfl rfl (.inl rfl) rfl ?_
  refine wl_pure (.bool (decide ((heldI x_a.Bits x_k) < 0))) (want_none rfl) rfl rfl (by kernel_rfl) ?_
  refine wl_nil ?_
  refine wq_then ?_
  rcases Bool.eq_false_or_eq_true (decide ((heldI x_a.Bits x_k) < 0)) with h15 | h15
  · have q16 := of_decide_eq_true h15
    refine wc_true (congrArg Value.bool h15) ?_
    refine wc_seq ?_
    refine wc_region ?_
    refine wl_mv (.int .i64 (-1)) (want_none rfl) rfl rfl (.inr rfl) rfl ?_
    refine wl_nil ?_
    refine wq_then ?_
    refine wc_ret ?_
    refine wq_then_ret ?_
    refine ret_1 (.inl rfl) (.int .i64 (-1)) rfl rfl ?_
    refine ⟨m13.keep0, ?_⟩
    have hF17 : F_laws_heldWin x_a x_k = (-1) := by simp only [F_laws_heldWin, h15, cond_true, cond_false]
    rw [hF17]
    exact rfl
  · have q18 := of_decide_eq_false h15
    refine wc_false (congrArg Value.bool h15) ?_
    refine wc_skip ?_
    refine wq_then ?_
    refine wc_seq ?_
    refine wc_region ?_
    refine wl_mv (.int .i64 (heldI x_a.Bits x_k)) (want_none rfl) rfl rfl (.inl rfl) rfl ?_
    refine wl_mv (.int .i64 (heldI x_a.Bits x_k)) (want_none rfl) rfl rfl (.inr rfl) rfl ?_
    refine wl_nil ?_
    refine wq_then ?_
    refine wc_ret ?_
    refine ret_1 (.inl rfl) (.int .i64 (heldI x_a.Bits x_k)) rfl rfl ?_
    refine ⟨m13.keep0, ?_⟩
    have hF19 : F_laws_heldWin x_a x_k = (heldI x_a.Bits x_k) := by simp only [F_laws_heldWin, h15, cond_true, cond_false]
    rw [hF19]
    exact rfl
theorem laws_heldWin_le (x : PWin) (k : Int) : F_laws_heldWin x k = -1 ∨ F_laws_heldWin x k = k + ((x.Bits.length : Int)) := by
  have h0 := heldI_le x.Bits k
  simp only [F_laws_heldWin, cond_eq_ite, decide_eq_true_eq]
  (repeat' split) <;> omega

def F_laws_heldEp (x_a : PEp) (x_k : Int) : (Int) := bif (decide ((heldB x_a.Key x_k) < 0)) then ((-1)) else (bif (decide ((F_laws_heldWin x_a.Win (heldB x_a.Key x_k)) < 0)) then ((-1)) else ((F_laws_heldWin x_a.Win (heldB x_a.Key x_k))))
theorem C_laws_heldEp (w0 : World) (v_x_a : Value) (x_a : PEp) (r_x_a : R_27 w0 v_x_a x_a) (x_k : Int) (pre0 : 0 ≤ x_k) (pre1 : x_k ≤ 8700000000000000000) : Fn Try.prog 73 #[v_x_a, (.int .i64 x_k)] w0 (fun v w' => Keep w0 w' ∧ O_3 w' w0.heap.size v (F_laws_heldEp x_a x_k)) := by
  obtain ⟨a1, c2, a6, c7, rfl, r3, s4, r8, s9⟩ := r_x_a
  refine fn_of (n := 18) (l := [(.agg #[(.int .i64 x_a.N), (.slice a1 x_a.Key.length c2), (.int .i64 x_a.Seq), (.int .i64 x_a.Win.Top), (.slice a6 x_a.Win.Bits.length c7)]), (.int .i64 x_k), undef, undef, undef, undef, undef, undef, undef, undef, undef, undef, undef, undef, undef, undef, undef, undef]) Try.func73 rfl rfl (by kernel_rfl) rfl ?_
  refine wc_seq ?_
  refine wc_region ?_
  refine wl_box (want_none rfl) [(.int .i64 x_a.N), (.slice a1 x_a.Key.length c2), (.int .i64 x_a.Seq), (.int .i64 x_a.Win.Top), (.slice a6 x_a.Win.Bits.length c7)] rfl rfl rfl rfl ?_
  intro g11 w1 p12 p13 k14 b15
  have m16 := (Ch.base w0).extk k14
  refine wl_mv (.int .i64 0) (want_none rfl) rfl rfl (.inr rfl) rfl ?_
  refine wl_nil ?_
  refine wq_then ?_
  refine wc_seq ?_
  refine wc_region ?_
  refine wl_pure (.pointer (some ⟨g11, 1, none⟩)) (want_none rfl) rfl rfl (by kernel_rfl) ?_
  refine wl_load1 (.slice a1 x_a.Key.length c2) (want_none rfl) rfl rfl rfl rfl isAgg_22 b15 rfl ?_
  refine wl_mv (.int .i64 x_k) (want_none rfl) rfl rfl (.inl rfl) rfl ?_
  refine wl_call (want_none rfl) (args := #[(.slice a1 x_a.Key.length c2), (.int .i64 x_k)]) rfl rfl (by kernel_rfl) (C_laws_heldByteS w1 (.slice a1 x_a.Key.length c2) x_a.Key (show R_22 w1 (.slice a1 x_a.Key.length c2) x_a.Key from ⟨_, _, rfl, (r3.from0 m16), s4⟩) x_k (by omega) (by omega)) ?_
  rintro _ w2 ⟨k17, rfl⟩
  have m18 := m16.extk k17
  have q19 := heldB_le x_a.Key x_k
  refine wl_mv (.int .i64 (heldB x_a.Key x_k)) (want_none rfl) rfl rfl (.inr rfl) rfl ?_
  refine wl_nil ?_
  refine wq_then ?_
  refine wc_seq ?_
  refine wc_seq ?_
  refine wc_region ?_
  refine wl_mv (.int .i64 (heldB x_a.Key x_k)) (want_none rfl) rfl rfl (.inl rfl) rfl ?_
  refine wl_pure (.bool (decide ((heldB x_a.Key x_k) < 0))) (want_none rfl) rfl rfl (by kernel_rfl) ?_
  refine wl_nil ?_
  refine wq_then ?_
  rcases Bool.eq_false_or_eq_true (decide ((heldB x_a.Key x_k) < 0)) with h20 | h20
  · have q21 := of_decide_eq_true h20
    refine wc_true (congrArg Value.bool h20) ?_
    refine wc_seq ?_
    refine wc_region ?_
    refine wl_mv (.int .i64 (-1)) (want_none rfl) rfl rfl (.inr rfl) rfl ?_
    refine wl_nil ?_
    refine wq_then ?_
    refine wc_ret ?_
    refine wq_then_ret ?_
    refine ret_1 (.inl rfl) (.int .i64 (-1)) rfl rfl ?_
    refine ⟨m18.keep0, ?_⟩
    have hF22 : F_laws_heldEp x_a x_k = (-1) := by simp only [F_laws_heldEp, h20, cond_true, cond_false]
    rw [hF22]
    exact rfl
  · have q23 := of_decide_eq_false h20
    refine wc_false (congrArg Value.bool h20) ?_
    refine wc_skip ?_
    refine wq_then ?_
    refine wc_seq ?_
    refine wc_region ?_
    refine wl_pure (.pointer (some ⟨g11, 3, none⟩)) (want_none rfl) rfl rfl (by kernel_rfl) ?_
    have b24 := (b15.kp k17)
    refine wl_loadN [(.int .i64 x_a.Win.Top), (.slice a6 x_a.Win.Bits.length c7)] (want_none rfl) rfl rfl rfl rfl isAgg_25 sizeOf_25 b24 rfl ?_
    refine wl_mv (.int .i64 (heldB x_a.Key x_k)) (want_none rfl) rfl rfl (.inl rfl) rfl ?_
    refine wl_call (want_none rfl) (args := #[(.agg #[(.int .i64 x_a.Win.Top), (.slice a6 x_a.Win.Bits.length c7)]), (.int .i64 (heldB x_a.Key x_k))]) rfl rfl (by kernel_rfl) (C_laws_heldWin w2 (.agg #[(.int .i64 x_a.Win.Top), (.slice a6 x_a.Win.Bits.length c7)]) x_a.Win (show R_25 w2 (.agg #[(.int .i64 x_a.Win.Top), (.slice a6 x_a.Win.Bits.length c7)]) x_a.Win from ⟨_, _, rfl, (r8.from0 m18), s9⟩) (heldB x_a.Key x_k) (by omega) (by omega)) ?_
    rintro _ w3 ⟨k25, rfl⟩
    have m26 := m18.extk k25
    have q27 := laws_heldWin_le x_a.Win (heldB x_a.Key x_k)
    refine wl_mv (.int .i64 (F_laws_heldWin x_a.Win (heldB x_a.Key x_k))) (want_none rfl) rfl rfl (.inr rfl) rfl ?_
    refine wl_nil ?_
    refine wq_then ?_
    refine wc_seq ?_
    refine wc_seq ?_
    refine wc_region ?_
    refine wl_mv (.int .i64 (F_laws_heldWin x_a.Win (heldB x_a.Key x_k))) (want_none rfl) rfl rfl (.inl rfl) rfl ?_
    refine wl_pure (.bool (decide ((F_laws_heldWin x_a.Win (heldB x_a.Key x_k)) < 0))) (want_none rfl) rfl rfl (by kernel_rfl) ?_
    refine wl_nil ?_
    refine wq_then ?_
    rcases Bool.eq_false_or_eq_true (decide ((F_laws_heldWin x_a.Win (heldB x_a.Key x_k)) < 0)) with h28 | h28
    · have q29 := of_decide_eq_true h28
      refine wc_true (congrArg Value.bool h28) ?_
      refine wc_seq ?_
      refine wc_region ?_
      refine wl_mv (.int .i64 (-1)) (want_none rfl) rfl rfl (.inr rfl) rfl ?_
      refine wl_nil ?_
      refine wq_then ?_
      refine wc_ret ?_
      refine wq_then_ret ?_
      refine ret_1 (.inl rfl) (.int .i64 (-1)) rfl rfl ?_
      refine ⟨m26.keep0, ?_⟩
      have hF30 : F_laws_heldEp x_a x_k = (-1) := by simp only [F_laws_heldEp, h20, h28, cond_true, cond_false]
      rw [hF30]
      exact rfl
    · have q31 := of_decide_eq_false h28
      refine wc_false (congrArg Value.bool h28) ?_
      refine wc_skip ?_
      refine wq_then ?_
      refine wc_seq ?_
      refine wc_region ?_
      refine wl_mv (.int .i64 (F_laws_heldWin x_a.Win (heldB x_a.Key x_k))) (want_none rfl) rfl rfl (.inl rfl) rfl ?_
      refine wl_mv (.int .i64 (F_laws_heldWin x_a.Win (heldB x_a.Key x_k))) (want_none rfl) rfl rfl (.inr rfl) rfl ?_
      refine wl_nil ?_
      refine wq_then ?_
      refine wc_ret ?_
      refine ret_1 (.inl rfl) (.int .i64 (F_laws_heldWin x_a.Win (heldB x_a.Key x_k))) rfl rfl ?_
      refine ⟨m26.keep0, ?_⟩
      have hF32 : F_laws_heldEp x_a x_k = (F_laws_heldWin x_a.Win (heldB x_a.Key x_k)) := by simp only [F_laws_heldEp, h20, h28, cond_true, cond_false]
      rw [hF32]
      exact rfl
theorem laws_heldEp_le (x : PEp) (k : Int) : F_laws_heldEp x k = -1 ∨ F_laws_heldEp x k = k + ((x.Key.length : Int) + (x.Win.Bits.length : Int)) := by
  have h0 := heldB_le x.Key k
  have h1 := laws_heldWin_le x.Win (heldB x.Key k)
  simp only [F_laws_heldEp, cond_eq_ite, decide_eq_true_eq]
  (repeat' split) <;> omega
end Go.Proofs.Ytodlalolknldmaa.K
