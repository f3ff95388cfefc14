import Derived.Test.YtafcngfnhhchjaaCore
import Derived.Test.YtafcngfnhhchjaaProg
import Derived.Test.YtafcngfnhhchjaaHeld
import Derived.Test.YtafcngfnhhchjaaFun
import Derived.Test.YtafcngfnhhchjaaFunZ
import Derived.Test.YtafcngfnhhchjaaSqz
import Derived.Test.YtafcngfnhhchjaaHash
import Derived.Test.YtafcngfnhhchjaaWh1
namespace Go.Proofs.Ytafcngfnhhchjaa.K
open Go.RowKit
set_option linter.unusedVariables false
set_option linter.unusedSimpArgs false
set_option maxRecDepth 100000
set_option maxHeartbeats 4000000
def O_22_4 (w : World) (lo : Nat) (v : Value) (x : (List UInt8) × (Bool)) : Prop := ∃ (a1 : Option Addr) (c1 : Nat), v = .tuple #[.slice a1 x.1.length c1, .bool x.2] ∧ w.ownsRow lo 5 1 (.slice a1 x.1.length c1) x.1.length (x.1.map bV) ∧ x.1.length ≤ 1073741824 ∧ Aps [(a1, c1)]
theorem C_spec_Expand (w0 : World) (v_x_prk : Value) (x_prk : List UInt8) (r_x_prk : R_22 w0 v_x_prk x_prk) (v_x_info : Value) (x_info : List UInt8) (r_x_info : R_22 w0 v_x_info x_info) (x_n : Int)  : Fn Try.prog 90 #[v_x_prk, v_x_info, (vi x_n)] w0 (fun v w' => Keep w0 w' ∧ O_22_4 w' w0.heap.size v (expand x_prk x_info x_n)) := by
 obtain ⟨a1, c2, rfl, r3, s4⟩ := r_x_prk
 obtain ⟨a6, c7, rfl, r8, s9⟩ := r_x_info
 refine fn_of (n := 52) (l := [(vs a1 x_prk.length c2), (vs a6 x_info.length c7), (vi x_n), U, U, U, U, U, U, U, U, U, U, U, U, U, U, U, U, U, U, U, U, U, U, U, U, U, U, U, U, U, U, U, U, U, U, U, U, U, U, U, U, U, U, U, U, U, U, U, U, U]) Try.func90 rfl rfl (by kernel_rfl) rfl ?_
 refine sr ?_
 refine aw (vs none 0 0) ?_
 refine aw (vb false) ?_
 refine n4 ?_
 refine mw (vi x_n) ?_
 refine cl wN (C_spec_l1In w0 x_n 0 8160) ?_
 rintro _ w1 ⟨k11, rfl⟩
 have m12 := (Ch.base w0).extk k11
 refine pu (vb (!(F_spec_l1In x_n 0 8160))) wN ?_
 refine mw (vb (!(F_spec_l1In x_n 0 8160))) ?_
 rcases bf (F_spec_l1In x_n 0 8160) with h13 | h13
 ·have q148 := spec_l1In_f h13
  refine sk (congrArg not h13) ?_
  refine sk (congrArg not h13) ?_
  refine sk (congrArg not h13) ?_
  refine pk (vb true) wN (congrArg not h13) ?_
  refine mw (vb true) ?_
  refine sk T1 ?_
  refine sk T1 ?_
  refine sk T1 ?_
  refine pk (vb true) wN (Eq.refl true) ?_
  refine n2 ?_
  refine ct (Eq.refl true) ?_
  refine sr ?_
  refine wl_lit0 wN rfl rfl slTy_22 (fun w => by kernel_rfl) ?_
  intro a149 w2 k150 o151
  have m152 := m12.extk k150
  refine aw (vs (some a149) 0 0) ?_
  refine aw (vb false) ?_
  refine n1 ?_
  refine ret_2 (.inl rfl) (vs (some a149) 0 0) (vb false) rfl rfl rfl ?_
  refine ⟨m152.keep0, ?_⟩
  have hF154 : expand x_prk x_info x_n = ([], false) := by first | exact expand_f (by omega) | exact expand_t (by omega) (by omega) (by omega) (by omega) (by omega) (by omega)
  rw [hF154]
  exact ⟨_, _, rfl, (own_lo o151 k11.size), (by simp), ⟨trivial, trivial⟩⟩
 have q14 := spec_l1In_t h13
 refine mv (vs a6 x_info.length c7) (wS (congrArg not h13)) ?_
 refine ln (wS (congrArg not h13)) slTy_22 (r8.from0 m12) ?_
 refine pu (vb (decide (100 < (x_info.length : Int)))) (wS (congrArg not h13)) ?_
 refine pf (vb (decide (100 < (x_info.length : Int)))) wN (congrArg not h13) ?_
 refine mw (vb (decide (100 < (x_info.length : Int)))) ?_
 rcases bt (decide (100 < (x_info.length : Int))) with h15 | h15
 ·have q16 := of_decide_eq_true h15
  refine sk h15 ?_
  refine sk h15 ?_
  refine sk h15 ?_
  refine pk (vb true) wN h15 ?_
  refine n2 ?_
  refine ct (Eq.refl true) ?_
  refine sr ?_
  refine wl_lit0 wN rfl rfl slTy_22 (fun w => by kernel_rfl) ?_
  intro a17 w2 k18 o19
  have m20 := m12.extk k18
  refine aw (vs (some a17) 0 0) ?_
  refine aw (vb false) ?_
  refine n1 ?_
  refine ret_2 (.inl rfl) (vs (some a17) 0 0) (vb false) rfl rfl rfl ?_
  refine ⟨m20.keep0, ?_⟩
  have hF22 : expand x_prk x_info x_n = ([], false) := by first | exact expand_f (by omega) | exact expand_t (by omega) (by omega) (by omega) (by omega) (by omega) (by omega)
  rw [hF22]
  exact ⟨_, _, rfl, (own_lo o19 k11.size), (by simp), ⟨trivial, trivial⟩⟩
 have q23 := of_decide_eq_false h15
 refine mv (vs a1 x_prk.length c2) (wS h15) ?_
 refine ln (wS h15) slTy_22 (r3.from0 m12) ?_
 refine pu (vb (decide (1048576 < (x_prk.length : Int)))) (wS h15) ?_
 refine pf (vb (decide (1048576 < (x_prk.length : Int)))) wN h15 ?_
 refine n2 ?_
 rcases bt (decide (1048576 < (x_prk.length : Int))) with h24 | h24
 ·have q25 := of_decide_eq_true h24
  refine ct h24 ?_
  refine sr ?_
  refine wl_lit0 wN rfl rfl slTy_22 (fun w => by kernel_rfl) ?_
  intro a26 w2 k27 o28
  have m29 := m12.extk k27
  refine aw (vs (some a26) 0 0) ?_
  refine aw (vb false) ?_
  refine n1 ?_
  refine ret_2 (.inl rfl) (vs (some a26) 0 0) (vb false) rfl rfl rfl ?_
  refine ⟨m29.keep0, ?_⟩
  have hF31 : expand x_prk x_info x_n = ([], false) := by first | exact expand_f (by omega) | exact expand_t (by omega) (by omega) (by omega) (by omega) (by omega) (by omega)
  rw [hF31]
  exact ⟨_, _, rfl, (own_lo o28 k11.size), (by simp), ⟨trivial, trivial⟩⟩
 have q32 := of_decide_eq_false h24
 refine cf h24 ?_
 refine y1 ?_
 refine wl_lit0 wN rfl rfl slTy_22 (fun w => by kernel_rfl) ?_
 intro a33 w2 k34 o35
 have m36 := m12.extk k34
 refine aw (vs (some a33) 0 0) ?_
 refine nx ?_
 refine wl_lit0 wN rfl rfl slTy_22 (fun w => by kernel_rfl) ?_
 intro a38 w3 k39 o40
 have m41 := m36.extk k39
 refine aw (vs (some a38) 0 0) ?_
 refine n4 ?_
 refine aw (vi 1) ?_
 refine wl_nil <| wq_then <| wc_block ?_
 have o44 := (own_kp o35 k39)
 have hE45 : ([] : List UInt8) = (expN x_prk x_info 0).1 := by rfl
 have hN46 : 0 = ((expN x_prk x_info 0).1).length := by rw [← hE45]; try (first | rfl | simp only [List.length_set] | simp)
 have hE47 : ([] : List UInt8) = (expN x_prk x_info 0).2 := by rfl
 have hN48 : 0 = ((expN x_prk x_info 0).2).length := by rw [← hE47]; try (first | rfl | simp only [List.length_set] | simp)
 refine wc_loopQ (fun e => [(vs a1 x_prk.length c2), (vs a6 x_info.length c7), (vi x_n), e 3, e 4, e 5, (vs none 0 0), (vb false), (.slice (some a33) ((expN x_prk x_info 0).1).length 0), (.slice (some a38) ((expN x_prk x_info 0).2).length 0), (vi (((0 : Nat) : Int) + 1)), e 11, e 12, e 13, e 14, e 15, e 16, e 17, e 18, e 19, e 20, e 21, e 22, e 23, e 24, e 25, e 26, e 27, e 28, e 29, e 30, e 31, e 32, e 33, e 34, e 35, e 36, e 37, e 38, e 39, e 40, e 41, e 42, e 43, e 44, e 45, e 46, U, U, U, U, U]) rfl ⟨rfl, rfl, rfl, rfl, rfl, rfl, rfl, rfl, rfl, rfl, (congrArg (Value.int .i64) (show (1 : Int) = (((0 : Nat) : Int) + 1) by omega)), rfl, rfl, rfl, rfl, rfl, rfl, rfl, rfl, rfl, rfl, rfl, rfl, rfl, rfl, rfl, rfl, rfl, rfl, rfl, rfl, rfl, rfl, rfl, rfl, rfl, rfl, rfl, rfl, rfl, rfl, rfl, rfl, rfl, rfl, rfl, rfl, rfl, rfl, rfl, rfl, rfl, trivial⟩ (fun e' w' => ∃ (k : Nat) (u43 : Nat → Value) (a8x : Option Addr) (c8x : Nat) (a9x : Option Addr) (c9x : Nat), e' = lst [(vs a1 x_prk.length c2), (vs a6 x_info.length c7), (vi x_n), (u43 0), (u43 1), (u43 2), (vs none 0 0), (vb false), (.slice a8x ((expN x_prk x_info k).1).length c8x), (.slice a9x ((expN x_prk x_info k).2).length c9x), (vi (((k : Nat) : Int) + 1)), (u43 3), (u43 4), (u43 5), (u43 6), (u43 7), (u43 8), (u43 9), (u43 10), (u43 11), (u43 12), (u43 13), (u43 14), (u43 15), (u43 16), (u43 17), (u43 18), (u43 19), (u43 20), (u43 21), (u43 22), (u43 23), (u43 24), (u43 25), (u43 26), (u43 27), (u43 28), (u43 29), (u43 30), (u43 31), (u43 32), (u43 33), (u43 34), (u43 35), (u43 36), (u43 37), (u43 38), U, U, U, U, U] ∧ Ch (fun k => w0.heap.size ≤ k) w0 w' ∧ Ch (fun k => w1.heap.size ≤ k) w3 w' ∧ 32 * ((k : Nat) : Int) < x_n + 32 ∧ (World.ownsRow w' w1.heap.size 5 1 (.slice a8x ((expN x_prk x_info k).1).length c8x) ((expN x_prk x_info k).1).length (((expN x_prk x_info k).1).map bV) ∧ ((expN x_prk x_info k).1).length ≤ 1073741824) ∧ (World.ownsRow w' w2.heap.size 5 1 (.slice a9x ((expN x_prk x_info k).2).length c9x) ((expN x_prk x_info k).2).length (((expN x_prk x_info k).2).map bV) ∧ ((expN x_prk x_info k).2).length ≤ 1073741824)) (fun e' _ => x_n.toNat - (lenOf (e' 8))) ?_ ?_
 ·exact fun u => ⟨0, (unL [u 3, u 4, u 5, u 11, u 12, u 13, u 14, u 15, u 16, u 17, u 18, u 19, u 20, u 21, u 22, u 23, u 24, u 25, u 26, u 27, u 28, u 29, u 30, u 31, u 32, u 33, u 34, u 35, u 36, u 37, u 38, u 39, u 40, u 41, u 42, u 43, u 44, u 45, u 46]), (some a33), 0, (some a38), 0, rfl, m41, (Ch.refl (fun k => w1.heap.size ≤ k) w3), (by omega), ⟨(by rw [← hN46, ← hE45]; exact o44), (by rw [← hN46]; first | exact (by simp) | (simp only [List.length_append, List.length_take, List.length_replicate]; omega))⟩, ⟨(by rw [← hN48, ← hE47]; exact o40), (by rw [← hN48]; first | exact (by simp) | (simp only [List.length_append, List.length_take, List.length_replicate]; omega))⟩⟩
 ·rintro _ w4 ⟨k, u43, a8x, c8x, a9x, c9x, rfl, m49, k50, i51, ⟨o52, s53⟩, ⟨o54, s55⟩⟩
  have hxl := expN_len (prk := x_prk) (info := x_info) (by omega) (by omega) k
  have hxm := expN_len (prk := x_prk) (info := x_info) (by omega) (by omega) (k + 1)
  refine wc_seq <| sr ?_
  refine mw (vs a8x ((expN x_prk x_info k).1).length c8x) ?_
  refine ln wN slTy_22 (Rd.of_own o52) ?_
  refine mw (vi x_n) ?_
  refine pu (vb (decide ((((expN x_prk x_info k).1).length : Int) < x_n))) wN ?_
  refine n2 ?_
  rcases bf (decide ((((expN x_prk x_info k).1).length : Int) < x_n)) with h58 | h58
  ·have q127 := of_decide_eq_false h58
   refine cf h58 ?_
   refine wc_exit <| wq_then_exit <| wq_then_exit <| wq_blk_exit <| wq_then <| sr ?_
   refine wl_lit0 wN rfl rfl slTy_22 (fun w => by kernel_rfl) ?_
   intro a128 w5 k129 o130
   have m131 := m49.extk k129
   refine mw (vs a8x ((expN x_prk x_info k).1).length c8x) ?_
   refine mw (vi x_n) ?_
   have o134 := (own_kp o52 k129)
   refine slv (((expN x_prk x_info k).1).take ((x_n).toNat)) 0 ((x_n).toNat) wN slTy_22 (Rd.of_own o134) (by first | omega | (simp only [List.length_cons, List.length_nil, List.length_replicate, List.length_append, List.length_take, List.length_set, List.length_map]; omega)) (by first | omega | (simp only [List.length_cons, List.length_nil, List.length_replicate, List.length_append, List.length_take, List.length_set, List.length_map]; omega)) (by first | rfl | (simp; done) | (rw [List.take_of_length_le (by first | (simp; done) | (simp; omega))])) rfl rfl rfl rfl (.inl ⟨rfl, rfl⟩) (.inr ⟨_, _, _, rfl, rfl, by omega⟩) ?_
   have q136 : 0 ≤ ((x_n).toNat) := (by first | omega | (simp only [List.length_cons, List.length_nil, List.length_replicate, List.length_append, List.length_take, List.length_set, List.length_map]; omega))
   have q137 : ((x_n).toNat) ≤ ((expN x_prk x_info k).1).length := (by first | omega | (simp only [List.length_cons, List.length_nil, List.length_replicate, List.length_append, List.length_take, List.length_set, List.length_map]; omega))
   refine wl_append0 wN rfl rfl rfl slTy_22 rfl rfl o130 (Rd.subV (x' := (((expN x_prk x_info k).1).take ((x_n).toNat))) (Rd.of_own o134) q136 q137 (by first | rfl | (simp; done) | (rw [List.take_of_length_le (by first | (simp; done) | (simp; omega))]))) (all_bV _) (by first | (simp only [List.length_append, List.length_cons, List.length_nil, List.length_replicate, List.length_take, List.length_drop]; omega) | omega) (by simp only [maxLen]; first | (simp only [List.length_append, List.length_cons, List.length_nil, List.length_replicate, List.length_take, List.length_drop]; omega) | omega) k129.size ?_
   intro u138 w6 k139 o140 j141
   obtain ⟨a142, c143, rfl⟩ := own_form o140
   have n144 : New w5 a142 c143 := j141 _ _ rfl
   have m145 := m131.extk k139
   refine aw (vs a142 (((expN x_prk x_info k).1).take ((x_n).toNat)).length c143) ?_
   refine aw (vb true) ?_
   refine n3 ?_
   refine ret_2 (.inl rfl) (vs a142 (((expN x_prk x_info k).1).take ((x_n).toNat)).length c143) (vb true) rfl rfl rfl ?_
   refine ⟨m145.keep0, ?_⟩
   have hF147 : expand x_prk x_info x_n = ((((expN x_prk x_info k).1).take ((x_n).toNat)), true) := by first | exact expand_f (by omega) | exact expand_t (by omega) (by omega) (by omega) (by omega) (by omega) (by omega)
   rw [hF147]
   exact ⟨_, _, rfl, (own_lo o140 (z4 k11 k34 k39 k50)), (Nat.le_trans (by simp only [List.length_take, List.length_drop]; omega) s53), ⟨trivial, trivial⟩⟩
  have q59 := of_decide_eq_true h58
  refine ct h58 ?_
  refine wc_skip <| wq_then <| wc_seq <| wc_block <| sr ?_
  refine mw (vs a1 x_prk.length c2) ?_
  refine wl_lit0 wN rfl rfl slTy_22 (fun w => by kernel_rfl) ?_
  intro a60 w5 k61 o62
  have m63 := m49.extk k61
  refine mw (vs a9x ((expN x_prk x_info k).2).length c9x) ?_
  have o65 := (own_kp o54 k61)
  refine wl_append0 wN rfl rfl rfl slTy_22 rfl rfl o62 (Rd.of_own o65) (all_bV _) (by first | (simp only [List.length_append, List.length_cons, List.length_nil, List.length_replicate, List.length_take, List.length_drop]; omega) | omega) (by simp only [maxLen]; first | (simp only [List.length_append, List.length_cons, List.length_nil, List.length_replicate, List.length_take, List.length_drop]; omega) | omega) k61.size ?_
  intro u66 w6 k67 o68 j69
  obtain ⟨a70, c71, rfl⟩ := own_form o68
  have n72 : New w5 a70 c71 := j69 _ _ rfl
  have m73 := m63.extk k67
  refine mw (vs a6 x_info.length c7) ?_
  refine wl_append (v := (vs a70 ((expN x_prk x_info k).2).length c71)) wN rfl rfl rfl slTy_22 rfl rfl o68 (r8.from0 m73) (all_bV _) (by first | (simp only [List.length_append, List.length_cons, List.length_nil, List.length_replicate, List.length_take, List.length_drop]; omega) | omega) (by simp only [maxLen]; first | (simp only [List.length_append, List.length_cons, List.length_nil, List.length_replicate, List.length_take, List.length_drop]; omega) | omega) (z2 k61 k67) ?_
  intro u75 w7 k76 o77 j78
  have o81 : w7.ownsRow w4.heap.size 5 1 u75 ((((expN x_prk x_info k).2) ++ x_info) : List UInt8).length (((((expN x_prk x_info k).2) ++ x_info) : List UInt8).map bV) := by simpa [Nat.add_assoc] using o77
  obtain ⟨a79, c80, rfl⟩ := own_form o81
  have m82 := m73.ext k76 (fun k hk => Nat.le_trans (z4 k11 k34 k39 k50) (own_lt o68 k hk).1)
  have s84 : (((expN x_prk x_info k).2) ++ x_info).length ≤ 1073741824 := by first | (simp only [List.length_append, List.length_cons, List.length_nil, List.length_replicate, List.length_take, List.length_drop]; omega) | omega | assumption
  refine mw (vi (((k : Nat) : Int) + 1)) ?_
  refine wl_conv8 (((k : Nat) : Int) + 1) wN rfl rfl (by kernel_rfl) ?_
  refine wl_lit [(v8 ((by8 (((k : Nat) : Int) + 1)).toNat : Int))] wN rfl rfl slTy_22 (m := 1) rfl (by simp only [maxLen]; omega) (fun w => by kernel_rfl) ?_
  intro u85 w8 k86 o87
  obtain ⟨a88, c89, rfl⟩ := own_form o87
  have m90 := m82.extk k86
  have o92 : w8.ownsRow w7.heap.size 5 1 (.slice a88 (([(by8 (((k : Nat) : Int) + 1))] : List UInt8) : List UInt8).length c89) (([(by8 (((k : Nat) : Int) + 1))] : List UInt8) : List UInt8).length ((([(by8 (((k : Nat) : Int) + 1))] : List UInt8) : List UInt8).map bV) := o87
  have o93 := (own_kp o81 k86)
  refine wl_append (v := (vs a79 (((expN x_prk x_info k).2) ++ x_info).length c80)) wN rfl rfl rfl slTy_22 rfl rfl o93 (Rd.of_own o92) (all_bV _) (by first | (simp only [List.length_append, List.length_cons, List.length_nil, List.length_replicate, List.length_take, List.length_drop]; omega) | omega) (by simp only [maxLen]; first | (simp only [List.length_append, List.length_cons, List.length_nil, List.length_replicate, List.length_take, List.length_drop]; omega) | omega) (z4 k61 k67 k76 k86) ?_
  intro u94 w9 k95 o96 j97
  have o100 : w9.ownsRow w4.heap.size 5 1 u94 (((((expN x_prk x_info k).2) ++ x_info) ++ ([(by8 (((k : Nat) : Int) + 1))] : List UInt8)) : List UInt8).length ((((((expN x_prk x_info k).2) ++ x_info) ++ ([(by8 (((k : Nat) : Int) + 1))] : List UInt8)) : List UInt8).map bV) := by simpa [Nat.add_assoc] using o96
  obtain ⟨a98, c99, rfl⟩ := own_form o100
  have m101 := m90.ext k95 (fun k hk => Nat.le_trans (z4 k11 k34 k39 k50) (own_lt o81 k hk).1)
  have s103 : ((((expN x_prk x_info k).2) ++ x_info) ++ ([(by8 (((k : Nat) : Int) + 1))] : List UInt8)).length ≤ 1073741824 := by first | (simp only [List.length_append, List.length_cons, List.length_nil, List.length_replicate, List.length_take, List.length_drop]; omega) | omega | assumption
  refine cl wN (C_spec_Hmac w9 _ x_prk (mR_22 (r3.from0 m101) s4) _ ((((expN x_prk x_info k).2) ++ x_info) ++ ([(by8 (((k : Nat) : Int) + 1))] : List UInt8)) (mR_22 (Rd.of_own o100) s103)) ?_
  rintro _ w10 ⟨k104, ⟨a105, c106, rfl, o107, s108, ap110⟩⟩
  have m111 := m101.extk k104
  have q112 := hmac_le x_prk ((((expN x_prk x_info k).2) ++ x_info) ++ ([(by8 (((k : Nat) : Int) + 1))] : List UInt8))
  refine aw (vs a105 (hmac x_prk ((((expN x_prk x_info k).2) ++ x_info) ++ ([(by8 (((k : Nat) : Int) + 1))] : List UInt8))).length c106) ?_
  refine wl_nil <| wq_then <| wc_region ?_
  refine mw (vs a8x ((expN x_prk x_info k).1).length c8x) ?_
  refine mw (vs a105 (hmac x_prk ((((expN x_prk x_info k).2) ++ x_info) ++ ([(by8 (((k : Nat) : Int) + 1))] : List UInt8))).length c106) ?_
  have o113 := (own_kp (own_ch (own_kp (own_ch (own_kp (own_kp o52 k61) k67) k76 (fun g hg hlt hk => by have h1 := (own_lt o52 g hg).2; have h2 := (own_lt o68 g hk).1; have h3 := (Nat.le_refl w4.heap.size); omega)) k86) k95 (fun g hg hlt hk => by have h1 := (own_lt o52 g hg).2; have h2 := (own_lt o81 g hk).1; have h3 := (Nat.le_refl w4.heap.size); omega)) k104)
  refine wl_append (v := (vs a8x ((expN x_prk x_info k).1).length c8x)) wN rfl rfl rfl slTy_22 rfl rfl o113 (Rd.of_own o107) (all_bV _) (by first | (simp only [List.length_append, List.length_cons, List.length_nil, List.length_replicate, List.length_take, List.length_drop]; omega) | omega) (by simp only [maxLen]; first | (simp only [List.length_append, List.length_cons, List.length_nil, List.length_replicate, List.length_take, List.length_drop]; omega) | omega) (z9 k34 k39 k50 k61 k67 k76 k86 k95 k104) ?_
  intro u114 w11 k115 o116 j117
  have o120 : w11.ownsRow w1.heap.size 5 1 u114 ((((expN x_prk x_info k).1) ++ (hmac x_prk ((((expN x_prk x_info k).2) ++ x_info) ++ ([(by8 (((k : Nat) : Int) + 1))] : List UInt8)))) : List UInt8).length (((((expN x_prk x_info k).1) ++ (hmac x_prk ((((expN x_prk x_info k).2) ++ x_info) ++ ([(by8 (((k : Nat) : Int) + 1))] : List UInt8)))) : List UInt8).map bV) := by simpa [Nat.add_assoc] using o116
  obtain ⟨a118, c119, rfl⟩ := own_form o120
  have m121 := m111.ext k115 (fun k hk => Nat.le_trans k11.size (own_lt o52 k hk).1)
  have s123 : (((expN x_prk x_info k).1) ++ (hmac x_prk ((((expN x_prk x_info k).2) ++ x_info) ++ ([(by8 (((k : Nat) : Int) + 1))] : List UInt8)))).length ≤ 1073741824 := by first | (simp only [List.length_append, List.length_cons, List.length_nil, List.length_replicate, List.length_take, List.length_drop]; omega) | omega | assumption
  refine aw (vs a118 (((expN x_prk x_info k).1) ++ (hmac x_prk ((((expN x_prk x_info k).2) ++ x_info) ++ ([(by8 (((k : Nat) : Int) + 1))] : List UInt8)))).length c119) ?_
  refine wl_nil <| wq_blk_normal <| wq_then <| wc_region ?_
  refine mw (vi (((k : Nat) : Int) + 1)) ?_
  refine ar ((((k : Nat) : Int) + 1) + 1) wN ?_
  refine aw (vi ((((k : Nat) : Int) + 1) + 1)) ?_
  refine wl_nil ?_
  have hE124 : ((((expN x_prk x_info k).1) ++ (hmac x_prk ((((expN x_prk x_info k).2) ++ x_info) ++ ([(by8 (((k : Nat) : Int) + 1))] : List UInt8)))) : List UInt8) = (expN x_prk x_info (k + 1)).1 := by exact expN_1 _ _ _ (by simp [joinB])
  have o125 := (own_ch o107 k115 (fun g hg hlt hk => by have h1 := (own_lt o107 g hg).1; have h2 := (own_lt o52 g hk).2; have h3 := (z5 k61 k67 k76 k86 k95); omega))
  have hE126 : ((hmac x_prk ((((expN x_prk x_info k).2) ++ x_info) ++ ([(by8 (((k : Nat) : Int) + 1))] : List UInt8))) : List UInt8) = (expN x_prk x_info (k + 1)).2 := by exact expN_2 _ _ _ (by simp [joinB])
  refine wq_loopQ (w0 := w4) (fun e => [(vs a1 x_prk.length c2), (vs a6 x_info.length c7), (vi x_n), e 3, e 4, e 5, (vs none 0 0), (vb false), (.slice a118 ((expN x_prk x_info (k + 1)).1).length c119), (.slice a105 ((expN x_prk x_info (k + 1)).2).length c106), (vi ((((k + 1) : Nat) : Int) + 1)), e 11, e 12, e 13, e 14, e 15, e 16, e 17, e 18, e 19, e 20, e 21, e 22, e 23, e 24, e 25, e 26, e 27, e 28, e 29, e 30, e 31, e 32, e 33, e 34, e 35, e 36, e 37, e 38, e 39, e 40, e 41, e 42, e 43, e 44, e 45, e 46, U, U, U, U, U]) rfl ?_ ?_ ?_
  · exact ⟨rfl, rfl, rfl, rfl, rfl, rfl, rfl, rfl, (congrArg (fun l : List UInt8 => Value.slice a118 l.length c119) hE124), (congrArg (fun l : List UInt8 => Value.slice a105 l.length c106) hE126), (congrArg (Value.int .i64) (show (((((k : Nat) : Int) + 1) + 1) : Int) = ((((k + 1) : Nat) : Int) + 1) by omega)), rfl, rfl, rfl, rfl, rfl, rfl, rfl, rfl, rfl, rfl, rfl, rfl, rfl, rfl, rfl, rfl, rfl, rfl, rfl, rfl, rfl, rfl, rfl, rfl, rfl, rfl, rfl, rfl, rfl, rfl, rfl, rfl, rfl, rfl, rfl, rfl, rfl, rfl, rfl, rfl, rfl, trivial⟩
  · exact fun u => ⟨(k + 1), (unL [u 3, u 4, u 5, u 11, u 12, u 13, u 14, u 15, u 16, u 17, u 18, u 19, u 20, u 21, u 22, u 23, u 24, u 25, u 26, u 27, u 28, u 29, u 30, u 31, u 32, u 33, u 34, u 35, u 36, u 37, u 38, u 39, u 40, u 41, u 42, u 43, u 44, u 45, u 46]), a118, c119, a105, c106, rfl, m121, (((((((((Ch.refl (fun k => w1.heap.size ≤ k) w3).ext k50 (fun k hk => hk)).extk k61).extk k67).ext k76 (fun k hk => Nat.le_trans (z3 k34 k39 k50) (own_lt o68 k hk).1)).extk k86).ext k95 (fun k hk => Nat.le_trans (z3 k34 k39 k50) (own_lt o81 k hk).1)).extk k104).ext k115 (fun k hk => Nat.le_trans (Nat.le_refl w1.heap.size) (own_lt o52 k hk).1)), (by omega), (hE124 ▸ ⟨o120, s123⟩), (hE126 ▸ ⟨(own_lo o125 (z7 k39 k50 k61 k67 k76 k86 k95)), s108⟩)⟩
  · show x_n.toNat - ((expN x_prk x_info (k + 1)).1).length < x_n.toNat - ((expN x_prk x_info k).1).length; omega

def R_9 (w : World) (v : Value) (x : (ByteArray)) : Prop := v = .string x
theorem C_spec_Derive (w0 : World) (v_x_key : Value) (x_key : List UInt8) (r_x_key : R_22 w0 v_x_key x_key) (v_x_label : Value) (x_label : ByteArray) (r_x_label : R_9 w0 v_x_label x_label) (pre0 : (strB x_label).length ≤ 100) : Fn Try.prog 47 #[v_x_key, v_x_label] w0 (fun v w' => Keep w0 w' ∧ O_22 w' w0.heap.size v (derive x_key x_label)) := by
 obtain ⟨a1, c2, rfl, r3, s4⟩ := r_x_key
 obtain rfl := r_x_label
 refine fn_of (n := 15) (l := [(vs a1 x_key.length c2), (.string x_label), U, U, U, U, U, U, U, U, U, U, U, U, U]) Try.func47 rfl rfl (by kernel_rfl) rfl ?_
 refine sr ?_
 refine aw (vs none 0 0) ?_
 refine nx ?_
 refine mw (vs a1 x_key.length c2) ?_
 refine mw (.string x_label) ?_
 refine wl_s2b x_label wN rfl rfl rfl rfl Try.underlying9 Try.underlying22 Try.underlying5 (by first | omega | (simp only [strB_mk]; decide)) ?_
 intro a6 c7 w1 k8 r9
 have m10 := (Ch.base w0).extk k8
 refine cl wN (C_spec_Expand w1 _ x_key (mR_22 (r3.from0 m10) s4) _ (strB x_label) (mR_22 r9 (by first | omega | (simp only [strB_mk]; decide))) 32) ?_
 rintro _ w2 ⟨k12, ⟨a13, c14, rfl, o15, s16, ap18⟩⟩
 have m19 := m10.extk k12
 have q20 := expand_le x_key (strB x_label) 32
 refine mw (.tuple #[(vs a13 ((expand x_key (strB x_label) 32).1).length c14), (vb ((expand x_key (strB x_label) 32).2))]) ?_
 refine pu (vs a13 ((expand x_key (strB x_label) 32).1).length c14) wN ?_
 refine pu (vb ((expand x_key (strB x_label) 32).2)) wN ?_
 refine aw (vs a13 ((expand x_key (strB x_label) 32).1).length c14) ?_
 refine aw (vb ((expand x_key (strB x_label) 32).2)) ?_
 refine nx ?_
 refine mw (vs a13 ((expand x_key (strB x_label) 32).1).length c14) ?_
 refine aw (vs a13 ((expand x_key (strB x_label) 32).1).length c14) ?_
 refine n3 ?_
 refine rt (vs a13 ((expand x_key (strB x_label) 32).1).length c14) ?_
 refine ⟨m19.keep0, ?_⟩
 have hF21 : derive x_key x_label = (expand x_key (strB x_label) 32).1 := by rfl
 rw [hF21]
 exact ⟨_, _, rfl, (own_lo o15 k8.size), s16, ⟨trivial, trivial⟩⟩

def F_impl_within (x_n : Int) (x_low : Int) (x_high : Int) : (Bool) := bif (decide (x_low ≤ x_n)) then (decide (x_n ≤ x_high)) else (false)
theorem C_impl_within (w0 : World) (x_n : Int) (x_low : Int) (x_high : Int)  : Fn Try.prog 48 #[(vi x_n), (vi x_low), (vi x_high)] w0 (fun v w' => Keep w0 w' ∧ O_4 w' w0.heap.size v (F_impl_within x_n x_low x_high)) := by
 refine fn_of (n := 15) (l := [(vi x_n), (vi x_low), (vi x_high), U, U, U, U, U, U, U, U, U, U, U, U]) Try.func48 rfl rfl (by kernel_rfl) rfl ?_
 refine sr ?_
 refine aw (vb false) ?_
 refine nx ?_
 refine mw (vi x_n) ?_
 refine mw (vi x_low) ?_
 refine pu (vb (decide (x_low ≤ x_n))) wN ?_
 refine mw (vb (decide (x_low ≤ x_n))) ?_
 rcases bf (decide (x_low ≤ x_n)) with h1 | h1
 ·have q4 := of_decide_eq_false h1
  refine sk h1 ?_
  refine sk h1 ?_
  refine sk h1 ?_
  refine pf (vb false) wN h1 ?_
  refine aw (vb false) ?_
  refine n3 ?_
  refine rt (vb false) ?_
  refine ⟨Ch.refl _ _, ?_⟩
  have hF5 : F_impl_within x_n x_low x_high = false := by simp only [F_impl_within, h1, cond_true, cond_false]
  rw [hF5]
  exact rfl
 have q2 := of_decide_eq_true h1
 refine mv (vi x_n) (wS h1) ?_
 refine mv (vi x_high) (wS h1) ?_
 refine pu (vb (decide (x_n ≤ x_high))) (wS h1) ?_
 refine pk (vb (decide (x_n ≤ x_high))) wN h1 ?_
 refine aw (vb (decide (x_n ≤ x_high))) ?_
 refine n3 ?_
 refine rt (vb (decide (x_n ≤ x_high))) ?_
 refine ⟨Ch.refl _ _, ?_⟩
 have hF3 : F_impl_within x_n x_low x_high = decide (x_n ≤ x_high) := by simp only [F_impl_within, h1, cond_true, cond_false]
 rw [hF3]
 exact rfl
theorem impl_within_t {n a b : Int} (h : F_impl_within n a b = true) : a ≤ n ∧ n ≤ b := by
  unfold F_impl_within at h
  by_cases h1 : a ≤ n <;> simp [h1] at h
  exact ⟨h1, h⟩
theorem impl_within_f {n a b : Int} (h : F_impl_within n a b = false) : n < a ∨ b < n := by
  unfold F_impl_within at h
  by_cases h1 : a ≤ n <;> simp [h1] at h <;> omega

def F_impl_clone (x_b : List UInt8) : (List UInt8) := x_b
theorem C_impl_clone (w0 : World) (v_x_b : Value) (x_b : List UInt8) (r_x_b : R_22 w0 v_x_b x_b)  : Fn Try.prog 56 #[v_x_b] w0 (fun v w' => Keep w0 w' ∧ O_22 w' w0.heap.size v (x_b)) := by
 obtain ⟨a1, c2, rfl, r3, s4⟩ := r_x_b
 refine fn_of (n := 6) (l := [(vs a1 x_b.length c2), U, U, U, U, U]) Try.func56 rfl rfl (by kernel_rfl) rfl ?_
 refine sr ?_
 refine aw (vs none 0 0) ?_
 refine nx ?_
 refine wl_lit0 wN rfl rfl slTy_22 (fun w => by kernel_rfl) ?_
 intro a6 w1 k7 o8
 have m9 := (Ch.base w0).extk k7
 refine mw (vs a1 x_b.length c2) ?_
 refine wl_append0 wN rfl rfl rfl slTy_22 rfl rfl o8 (r3.from0 m9) (all_bV _) (by first | (simp only [List.length_append, List.length_cons, List.length_nil, List.length_replicate, List.length_take, List.length_drop]; omega) | omega) (by simp only [maxLen]; first | (simp only [List.length_append, List.length_cons, List.length_nil, List.length_replicate, List.length_take, List.length_drop]; omega) | omega) k7.size ?_
 intro u11 w2 k12 o13 j14
 obtain ⟨a15, c16, rfl⟩ := own_form o13
 have n17 : New w1 a15 c16 := j14 _ _ rfl
 have m18 := m9.extk k12
 refine aw (vs a15 x_b.length c16) ?_
 refine n3 ?_
 refine rt (vs a15 x_b.length c16) ?_
 refine ⟨m18.keep0, ?_⟩
 have hF20 : x_b = x_b := by rfl
 rw [hF20]
 exact ⟨_, _, rfl, o13, s4, ⟨trivial, trivial⟩⟩

def LT_22 : LTy (List UInt8) := { E := 22, Eb := 5, sz := 1, enc := fun e => [vs (adr2 e.2 0).1 e.1.length (adr2 e.2 0).2], bs := fun x => [x], len := fun _ => rfl, one := fun _ => one_all rfl, pos := by decide, ne := by decide }
def z_B : List UInt8 := []
theorem slTy_40 : SlTy Try.prog 40 22 1 24 (vs none 0 0) := slTy Try.underlying40 (by kernel_rfl) rfl rfl
theorem isAgg_22 : ∀ w, (isAgg 22).run Try.prog w = .ok false w := fun w => by kernel_rfl
def R_40 (w : World) (v : Value) (x : (List (List UInt8))) : Prop := ∃ (a1 : Option Addr) (c1 : Nat), v = .slice a1 x.length c1 ∧ RLv LT_22 w 1073741824 a1 x.length c1 x ∧ x.length ≤ 1073741824
theorem C_impl_joined (w0 : World) (v_x_parts : Value) (x_parts : List (List UInt8)) (r_x_parts : R_40 w0 v_x_parts x_parts) (pre0 : (joinB x_parts).length ≤ 4000000) : Fn Try.prog 124 #[v_x_parts] w0 (fun v w' => Keep w0 w' ∧ O_22 w' w0.heap.size v (joinB x_parts)) := by
 obtain ⟨a1, c2, rfl, r3, s4⟩ := r_x_parts
 refine fn_of (n := 18) (l := [(vs a1 x_parts.length c2), U, U, U, U, U, U, U, U, U, U, U, U, U, U, U, U, U]) Try.func124 rfl rfl (by kernel_rfl) rfl ?_
 refine sr ?_
 refine aw (vs none 0 0) ?_
 refine nx ?_
 refine wl_lit0 wN rfl rfl slTy_22 (fun w => by kernel_rfl) ?_
 intro a6 w1 k7 o8
 have m9 := (Ch.base w0).extk k7
 refine aw (vs (some a6) 0 0) ?_
 refine n4 ?_
 refine mw (vs a1 x_parts.length c2) ?_
 obtain ⟨y11, r12⟩ := RLv.row (r3.from0 m9)
 refine ln wN slTy_40 r12 ?_
 refine mw (vi 0) ?_
 refine wl_nil <| wq_then <| wc_block ?_
 have hE14 : ([] : List UInt8) = joinB (x_parts.take 0) := by rfl
 have hN15 : 0 = (joinB (x_parts.take 0)).length := by rw [← hE14]; try (first | rfl | simp only [List.length_set] | simp)
 refine wc_loopQ (fun e => [e 0, e 1, (vs none 0 0), (.slice (some a6) (joinB (x_parts.take 0)).length 0), e 4, e 5, e 6, (vs a1 x_parts.length c2), (vi (x_parts.length : Int)), (vi ((0 : Nat) : Int)), e 10, e 11, e 12, e 13, e 14, e 15, e 16, U]) rfl ⟨rfl, rfl, rfl, rfl, rfl, rfl, rfl, rfl, rfl, (congrArg (Value.int .i64) (show (0 : Int) = ((0 : Nat) : Int) by omega)), rfl, rfl, rfl, rfl, rfl, rfl, rfl, rfl, trivial⟩ (fun e' w' => ∃ (k : Nat) (u13 : Nat → Value) (a3x : Option Addr) (c3x : Nat), e' = lst [(u13 0), (u13 1), (vs none 0 0), (.slice a3x (joinB (x_parts.take k)).length c3x), (u13 2), (u13 3), (u13 4), (vs a1 x_parts.length c2), (vi (x_parts.length : Int)), (vi ((k : Nat) : Int)), (u13 5), (u13 6), (u13 7), (u13 8), (u13 9), (u13 10), (u13 11), U] ∧ Ch (fun k => w0.heap.size ≤ k) w0 w' ∧ Ch (fun k => w0.heap.size ≤ k) w1 w' ∧ k ≤ x_parts.length ∧ (World.ownsRow w' w0.heap.size 5 1 (.slice a3x (joinB (x_parts.take k)).length c3x) (joinB (x_parts.take k)).length ((joinB (x_parts.take k)).map bV) ∧ (joinB (x_parts.take k)).length ≤ 1073741824)) (fun e' _ => x_parts.length - ((intOf (e' 9))).toNat) ?_ ?_
 ·exact fun u => ⟨0, (unL [u 0, u 1, u 4, u 5, u 6, u 10, u 11, u 12, u 13, u 14, u 15, u 16]), (some a6), 0, rfl, m9, (Ch.refl (fun k => w0.heap.size ≤ k) w1), (by omega), ⟨(by rw [← hN15, ← hE14]; exact o8), (by rw [← hN15]; first | exact (by simp) | (simp only [List.length_append, List.length_take, List.length_replicate]; omega))⟩⟩
 ·rintro _ w2 ⟨k, u13, a3x, c3x, rfl, m16, k17, i18, ⟨o19, s20⟩⟩
  have hfl := flat_le (z := z_B) (x := x_parts) (k := k)
  refine sr ?_
  refine pu (vb (decide (((k : Nat) : Int) < (x_parts.length : Int)))) wN ?_
  refine wl_nil <| wq_then <| wc_seq ?_
  rcases bf (decide (((k : Nat) : Int) < (x_parts.length : Int))) with h22 | h22
  ·have q49 := of_decide_eq_false h22
   refine cf h22 ?_
   refine wc_exit <| wq_then_exit <| wq_then_exit <| wq_blk_exit <| wq_then <| sr ?_
   refine mw (vs a3x (joinB (x_parts.take k)).length c3x) ?_
   refine aw (vs a3x (joinB (x_parts.take k)).length c3x) ?_
   refine n3 ?_
   refine rt (vs a3x (joinB (x_parts.take k)).length c3x) ?_
   refine ⟨m16.keep0, ?_⟩
   have hF50 : joinB x_parts = (joinB (x_parts.take k)) := by exact flat_end (by omega)
   rw [hF50]
   exact ⟨_, _, rfl, o19, s20, ⟨trivial, trivial⟩⟩
  have q23 := of_decide_eq_true h22
  refine ct h22 ?_
  refine wc_skip <| wq_then <| wc_seq <| wc_block <| sr ?_
  obtain ⟨y24, r25⟩ := RLv.row (r3.from0 m16)
  refine wl_index (v := (vs a1 x_parts.length c2)) wN ((k : Nat) : Int) rfl rfl rfl slTy_40 rfl rfl r25 (by first | omega | (simp only [List.length_cons, List.length_nil, List.length_replicate, List.length_append, List.length_take, List.length_set, List.length_map]; omega)) (by first | omega | (simp only [List.length_cons, List.length_nil, List.length_replicate, List.length_append, List.length_take, List.length_set, List.length_map]; omega)) ?_
  obtain ⟨y26, l27, r28, e29, u30⟩ := RLv.el z_B (i := k) r3 (by first | omega | (simp only [List.length_cons, List.length_nil, List.length_replicate, List.length_append, List.length_take, List.length_set, List.length_map]; omega))
  obtain ⟨a31, c32, l36, rfl, r33, s34, u37⟩ := SubR.c u30
  obtain rfl := SubR.n u37
  refine wl_loadE (vs a31 (x_parts.getD k z_B).length c32) wN rfl rfl rfl rfl isAgg_22 (r28.from0 m16) ((get_of (off := 0) e29 (by first | rfl | simp | omega) (by decide)).trans rfl) ?_
  refine aw (vs a31 (x_parts.getD k z_B).length c32) ?_
  refine wl_nil <| wq_then <| wc_region ?_
  refine mw (vs a3x (joinB (x_parts.take k)).length c3x) ?_
  refine mw (vs a31 (x_parts.getD k z_B).length c32) ?_
  refine wl_append (v := (vs a3x (joinB (x_parts.take k)).length c3x)) wN rfl rfl rfl slTy_22 rfl rfl o19 (r33.from0 m16) (all_bV _) (by first | (simp only [List.length_append, List.length_cons, List.length_nil, List.length_replicate, List.length_take, List.length_drop]; omega) | omega) (by simp only [maxLen]; first | (simp only [List.length_append, List.length_cons, List.length_nil, List.length_replicate, List.length_take, List.length_drop]; omega) | omega) (z2 k7 k17) ?_
  intro u38 w3 k39 o40 j41
  have o44 : w3.ownsRow w0.heap.size 5 1 u38 (((joinB (x_parts.take k)) ++ (x_parts.getD k z_B)) : List UInt8).length ((((joinB (x_parts.take k)) ++ (x_parts.getD k z_B)) : List UInt8).map bV) := by simpa [Nat.add_assoc] using o40
  obtain ⟨a42, c43, rfl⟩ := own_form o44
  have m45 := m16.ext k39 (fun k hk => Nat.le_trans (Nat.le_refl w0.heap.size) (own_lt o19 k hk).1)
  have s47 : ((joinB (x_parts.take k)) ++ (x_parts.getD k z_B)).length ≤ 1073741824 := by first | (simp only [List.length_append, List.length_cons, List.length_nil, List.length_replicate, List.length_take, List.length_drop]; omega) | omega | assumption
  refine aw (vs a42 ((joinB (x_parts.take k)) ++ (x_parts.getD k z_B)).length c43) ?_
  refine wl_nil <| wq_blk_normal <| wq_then <| wc_region ?_
  refine ar (((k : Nat) : Int) + 1) wN ?_
  refine mw (vi (((k : Nat) : Int) + 1)) ?_
  refine wl_nil ?_
  have hE48 : (((joinB (x_parts.take k)) ++ (x_parts.getD k z_B)) : List UInt8) = joinB (x_parts.take (k + 1)) := by exact flat_next (by omega)
  refine wq_loopQ (w0 := w2) (fun e => [e 0, e 1, (vs none 0 0), (.slice a42 (joinB (x_parts.take (k + 1))).length c43), e 4, e 5, e 6, (vs a1 x_parts.length c2), (vi (x_parts.length : Int)), (vi (((k + 1) : Nat) : Int)), e 10, e 11, e 12, e 13, e 14, e 15, e 16, U]) rfl ?_ ?_ ?_
  · exact ⟨rfl, rfl, rfl, (congrArg (fun l : List UInt8 => Value.slice a42 l.length c43) hE48), rfl, rfl, rfl, rfl, rfl, (congrArg (Value.int .i64) (show ((((k : Nat) : Int) + 1) : Int) = (((k + 1) : Nat) : Int) by omega)), rfl, rfl, rfl, rfl, rfl, rfl, rfl, rfl, trivial⟩
  · exact fun u => ⟨(k + 1), (unL [u 0, u 1, u 4, u 5, u 6, u 10, u 11, u 12, u 13, u 14, u 15, u 16]), a42, c43, rfl, m45, (((Ch.refl (fun k => w0.heap.size ≤ k) w1).ext k17 (fun k hk => hk)).ext k39 (fun k hk => Nat.le_trans (Nat.le_refl w0.heap.size) (own_lt o19 k hk).1)), (by omega), (hE48 ▸ ⟨o44, s47⟩)⟩
  · show x_parts.length - ((((k + 1) : Nat) : Int)).toNat < x_parts.length - (((k : Nat) : Int)).toNat; omega

theorem C_impl_Start (w0 : World)   : Fn Try.prog 168 #[] w0 (fun v w' => Keep w0 w' ∧ O_32 w' w0.heap.size v (k0)) := by
 refine fn_of (n := 2) (l := [U, U]) Try.func168 rfl rfl (by kernel_rfl) rfl ?_
 refine sr ?_
 refine aw (vs none 0 0) ?_
 refine nx ?_
 refine wl_lit [(vi 1779033703), (vi 3144134277), (vi 1013904242), (vi 2773480762), (vi 1359893119), (vi 2600822924), (vi 528734635), (vi 1541459225)] wN rfl rfl slTy_32 (m := 8) rfl (by simp only [maxLen]; omega) (fun w => by kernel_rfl) ?_
 intro u1 w1 k2 o3
 obtain ⟨a4, c5, rfl⟩ := own_form o3
 have m6 := (Ch.base w0).extk k2
 have o8 : w1.ownsRow w0.heap.size 3 1 (.slice a4 (([1779033703, 3144134277, 1013904242, 2773480762, 1359893119, 2600822924, 528734635, 1541459225] : List Int) : List Int).length c5) (([1779033703, 3144134277, 1013904242, 2773480762, 1359893119, 2600822924, 528734635, 1541459225] : List Int) : List Int).length ((([1779033703, 3144134277, 1013904242, 2773480762, 1359893119, 2600822924, 528734635, 1541459225] : List Int) : List Int).map iV) := o3
 refine aw (vs a4 ([1779033703, 3144134277, 1013904242, 2773480762, 1359893119, 2600822924, 528734635, 1541459225] : List Int).length c5) ?_
 refine n3 ?_
 refine rt (vs a4 ([1779033703, 3144134277, 1013904242, 2773480762, 1359893119, 2600822924, 528734635, 1541459225] : List Int).length c5) ?_
 refine ⟨m6.keep0, ?_⟩
 have hF9 : k0 = ([1779033703, 3144134277, 1013904242, 2773480762, 1359893119, 2600822924, 528734635, 1541459225] : List Int) := by rfl
 rw [hF9]
 exact ⟨_, _, rfl, o8, (by simp), ⟨trivial, trivial⟩⟩

theorem zero_132 : ∀ w, (zeroValue 132).run Try.prog w = .ok (va [(vs none 0 0), (vs none 0 0), (vi 0)]) w := fun w => by kernel_rfl
theorem sizeOf_132 : ∀ w, (sizeOf 132).run Try.prog w = .ok 3 w := fun w => by kernel_rfl
theorem isAgg_132 : ∀ w, (isAgg 132).run Try.prog w = .ok true w := fun w => by kernel_rfl
def O_132 (w : World) (lo : Nat) (v : Value) (x : (PHash)) : Prop := ∃ (a1 : Option Addr) (c1 : Nat) (a2 : Option Addr) (c2 : Nat), v = .agg #[.slice a1 x.H.length c1, .slice a2 x.Held.length c2, .int .i64 x.N] ∧ w.ownsRow lo 3 1 (.slice a1 x.H.length c1) x.H.length (x.H.map iV) ∧ x.H.length ≤ 1073741824 ∧ w.ownsRow lo 5 1 (.slice a2 x.Held.length c2) x.Held.length (x.Held.map bV) ∧ x.Held.length ≤ 1073741824 ∧ Aps [(a1, c1), (a2, c2)]
def F_impl_HashNew  : (PHash) := { H := (k0), Held := [], N := 0 : PHash }
theorem C_impl_HashNew (w0 : World)   : Fn Try.prog 158 #[] w0 (fun v w' => Keep w0 w' ∧ O_132 w' w0.heap.size v (F_impl_HashNew)) := by
 refine fn_of (n := 3) (l := [U, U, U]) Try.func158 rfl rfl (by kernel_rfl) rfl ?_
 refine sr ?_
 refine al [(vs none 0 0), (vs none 0 0), (vi 0)] wN zero_132 ?_
 intro g1 w1 p2 p3 k4 b5
 have m6 := (Ch.base w0).extk k4
 refine nx ?_
 refine cl wN (C_impl_Start w1 ) ?_
 rintro _ w2 ⟨k7, ⟨a8, c9, rfl, o10, s11, ap13⟩⟩
 have m14 := m6.extk k7
 refine pu (va [(vs a8 (k0).length c9), (vs none 0 0), (vi 0)]) wN ?_
 have b15 := (b5.kp k7)
 refine st (va [(vs a8 (k0).length c9), (vs none 0 0), (vi 0)]) [(vs a8 (k0).length c9), (vs none 0 0), (vi 0)] [(vs a8 (k0).length c9), (vs none 0 0), (vi 0)] wN sizeOf_132 b15 ?_
 intro w3 k16 b17 z18
 have m19 := m14.ext k16 (fun k hk => by subst hk; exact p2)
 refine n3 ?_
 have o20 := (own_ch o10 k16 (ne1 o10 (p3)))
 refine ret_1 (.inl rfl) (va [(vs a8 (k0).length c9), (vs none 0 0), (vi 0)]) rfl (rv_c [(vs a8 (k0).length c9), (vs none 0 0), (vi 0)] rfl b17 isAgg_132 sizeOf_132) ?_
 refine ⟨m19.keep0, ?_⟩
 have hF21 : F_impl_HashNew = { H := (k0), Held := [], N := 0 : PHash } := by rfl
 rw [hF21]
 exact ⟨_, _, _, _, rfl, (own_lo o20 k4.size), s11, (by first | exact own_nil _ _ _ _ | exact OLv.nil _ _ _ _), (by simp), ⟨⟨(Ap.nr _), trivial⟩, ⟨trivial, trivial⟩⟩⟩

theorem C_impl_areWords (w0 : World) (v_x_l : Value) (x_l : List Int) (r_x_l : R_32 w0 v_x_l x_l) (x_n : Int)  : Fn Try.prog 129 #[v_x_l, (vi x_n)] w0 (fun v w' => Keep w0 w' ∧ O_4 w' w0.heap.size v (areW x_l x_n)) := by
 obtain ⟨a1, c2, rfl, r3, s4⟩ := r_x_l
 refine fn_of (n := 21) (l := [(vs a1 x_l.length c2), (vi x_n), U, U, U, U, U, U, U, U, U, U, U, U, U, U, U, U, U, U, U]) Try.func129 rfl rfl (by kernel_rfl) rfl ?_
 refine sr ?_
 refine aw (vb false) ?_
 refine n4 ?_
 refine mw (vs a1 x_l.length c2) ?_
 refine ln wN slTy_32 r3 ?_
 refine mw (vi 0) ?_
 refine wl_nil <| wq_then <| wc_block ?_
 refine wc_loopQ (fun e => [(vs a1 x_l.length c2), (vi x_n), e 2, e 3, e 4, e 5, e 6, (vs a1 x_l.length c2), (vi (x_l.length : Int)), (vi ((0 : Nat) : Int)), e 10, e 11, e 12, e 13, e 14, e 15, e 16, U, U, U, U]) rfl ⟨rfl, rfl, rfl, rfl, rfl, rfl, rfl, rfl, rfl, (congrArg (Value.int .i64) (show (0 : Int) = ((0 : Nat) : Int) by omega)), rfl, rfl, rfl, rfl, rfl, rfl, rfl, rfl, rfl, rfl, rfl, trivial⟩ (fun e' w' => ∃ (k : Nat) (u6 : Nat → Value), e' = lst [(vs a1 x_l.length c2), (vi x_n), (u6 0), (u6 1), (u6 2), (u6 3), (u6 4), (vs a1 x_l.length c2), (vi (x_l.length : Int)), (vi ((k : Nat) : Int)), (u6 5), (u6 6), (u6 7), (u6 8), (u6 9), (u6 10), (u6 11), U, U, U, U] ∧ Ch (fun k => w0.heap.size ≤ k) w0 w' ∧ Ch (fun k => w0.heap.size ≤ k) w0 w' ∧ k ≤ x_l.length ∧ allW (x_l.take k) = true) (fun e' _ => x_l.length - ((intOf (e' 9))).toNat) ?_ ?_
 ·exact fun u => ⟨0, (unL [u 2, u 3, u 4, u 5, u 6, u 10, u 11, u 12, u 13, u 14, u 15, u 16]), rfl, (Ch.base w0), (Ch.refl (fun k => w0.heap.size ≤ k) w0), (by omega), (by first | rfl | exact allW_next (by assumption) (by omega) (by assumption))⟩
 ·rintro _ w1 ⟨k, u6, rfl, m7, k8, i9, i10⟩
  refine sr ?_
  refine pu (vb (decide (((k : Nat) : Int) < (x_l.length : Int)))) wN ?_
  refine wl_nil <| wq_then <| wc_seq ?_
  rcases bf (decide (((k : Nat) : Int) < (x_l.length : Int))) with h11 | h11
  ·have q19 := of_decide_eq_false h11
   refine cf h11 ?_
   refine wc_exit <| wq_then_exit <| wq_then_exit <| wq_blk_exit <| wq_then <| sr ?_
   refine mw (vs a1 x_l.length c2) ?_
   refine ln wN slTy_32 (r3.from0 m7) ?_
   refine mw (vi x_n) ?_
   refine pu (vb (decide ((x_l.length : Int) = x_n))) wN ?_
   refine aw (vb (decide ((x_l.length : Int) = x_n))) ?_
   refine n3 ?_
   refine rt (vb (decide ((x_l.length : Int) = x_n))) ?_
   refine ⟨m7.keep0, ?_⟩
   have hF20 : areW x_l x_n = decide ((x_l.length : Int) = x_n) := by first | (have hz := allW_no (x := x_l) (k := k) (by omega) (by assumption); simp [areW, hz]) | (have hz := allW_all (x := x_l) (k := k) (by assumption) (by omega); simp [areW, hz])
   rw [hF20]
   exact rfl
  have q12 := of_decide_eq_true h11
  refine ct h11 ?_
  refine wc_skip <| wq_then <| wc_seq <| wc_block <| sr ?_
  refine wl_index (v := (vs a1 x_l.length c2)) wN ((k : Nat) : Int) rfl rfl rfl slTy_32 rfl rfl (r3.from0 m7) (by first | omega | (simp only [List.length_cons, List.length_nil, List.length_replicate, List.length_append, List.length_take, List.length_set, List.length_map]; omega)) (by first | omega | (simp only [List.length_cons, List.length_nil, List.length_replicate, List.length_append, List.length_take, List.length_set, List.length_map]; omega)) ?_
  refine wl_loadE (iV (x_l.getD k 0)) wN rfl rfl rfl rfl isAgg_3 (r3.from0 m7) (iget (by simp) (by first | omega | (simp only [List.length_cons, List.length_nil, List.length_replicate, List.length_append, List.length_take, List.length_set, List.length_map]; omega))) ?_
  refine aw (vi (x_l.getD k 0)) ?_
  refine nx ?_
  refine mw (vi (x_l.getD k 0)) ?_
  refine cl wN (C_impl_within w1 (x_l.getD k 0) 0 4294967295) ?_
  rintro _ w2 ⟨k13, rfl⟩
  have m14 := m7.extk k13
  refine pu (vb (!(F_impl_within (x_l.getD k 0) 0 4294967295))) wN ?_
  refine n2 ?_
  rcases bf (F_impl_within (x_l.getD k 0) 0 4294967295) with h15 | h15
  ·have q17 := impl_within_f h15
   refine ct (congrArg not h15) ?_
   refine sr ?_
   refine aw (vb false) ?_
   refine wl_nil <| wq_then <| wc_ret <| wq_blk_ret <| wq_then_ret <| wq_then_ret <| wq_blk_ret <| wq_then_ret ?_
   refine rt (vb false) ?_
   refine ⟨m14.keep0, ?_⟩
   have hF18 : areW x_l x_n = false := by first | (have hz := allW_no (x := x_l) (k := k) (by omega) (by assumption); simp [areW, hz]) | (have hz := allW_all (x := x_l) (k := k) (by assumption) (by omega); simp [areW, hz])
   rw [hF18]
   exact rfl
  have q16 := impl_within_t h15
  refine cf (congrArg not h15) ?_
  refine wc_skip <| wq_blk_normal <| wq_then <| wc_region ?_
  refine ar (((k : Nat) : Int) + 1) wN ?_
  refine mw (vi (((k : Nat) : Int) + 1)) ?_
  refine wl_nil ?_
  refine wq_loopQ (w0 := w1) (fun e => [(vs a1 x_l.length c2), (vi x_n), e 2, e 3, e 4, e 5, e 6, (vs a1 x_l.length c2), (vi (x_l.length : Int)), (vi (((k + 1) : Nat) : Int)), e 10, e 11, e 12, e 13, e 14, e 15, e 16, U, U, U, U]) rfl ?_ ?_ ?_
  · exact ⟨rfl, rfl, rfl, rfl, rfl, rfl, rfl, rfl, rfl, (congrArg (Value.int .i64) (show ((((k : Nat) : Int) + 1) : Int) = (((k + 1) : Nat) : Int) by omega)), rfl, rfl, rfl, rfl, rfl, rfl, rfl, rfl, rfl, rfl, rfl, trivial⟩
  · exact fun u => ⟨(k + 1), (unL [u 2, u 3, u 4, u 5, u 6, u 10, u 11, u 12, u 13, u 14, u 15, u 16]), rfl, m14, (((Ch.refl (fun k => w0.heap.size ≤ k) w0).ext k8 (fun k hk => hk)).extk k13), (by omega), (by first | rfl | exact allW_next (by assumption) (by omega) (by assumption))⟩
  · show x_l.length - ((((k + 1) : Nat) : Int)).toNat < x_l.length - (((k : Nat) : Int)).toNat; omega

abbrev L_132 (x : PHash) (a1 : Option Addr) (c1 : Nat) (a2 : Option Addr) (c2 : Nat) : List Value := [vs a1 x.H.length c1, vs a2 x.Held.length c2, vi x.N]
theorem isAgg_32 : ∀ w, (isAgg 32).run Try.prog w = .ok false w := fun w => by kernel_rfl
def R_132 (w : World) (v : Value) (x : (PHash)) : Prop := ∃ (a1 : Option Addr) (c1 : Nat) (a2 : Option Addr) (c2 : Nat), v = .agg #[.slice a1 x.H.length c1, .slice a2 x.Held.length c2, .int .i64 x.N] ∧ Rd w 1 (.slice a1 x.H.length c1) x.H.length (x.H.map iV) ∧ x.H.length ≤ 1073741824 ∧ Rd w 1 (.slice a2 x.Held.length c2) x.Held.length (x.Held.map bV) ∧ x.Held.length ≤ 1073741824
def F_impl_HashOk (x_h : PHash) : (Bool) := bif (areW x_h.H 8) then (bif (F_impl_within x_h.N 0 1048576) then (decide ((x_h.N % 64) = (x_h.Held.length : Int))) else (false)) else (false)
theorem C_impl_HashOk (w0 : World) (v_x_h : Value) (x_h : PHash) (r_x_h : R_132 w0 v_x_h x_h)  : Fn Try.prog 164 #[v_x_h] w0 (fun v w' => Keep w0 w' ∧ O_4 w' w0.heap.size v (F_impl_HashOk x_h)) := by
 obtain ⟨a1, c2, a6, c7, rfl, r3, s4, r8, s9⟩ := r_x_h
 refine fn_of (n := 20) (l := [(va (L_132 x_h a1 c2 a6 c7)), U, U, U, U, U, U, U, U, U, U, U, U, U, U, U, U, U, U, U]) Try.func164 rfl rfl (by kernel_rfl) rfl ?_
 refine sr ?_
 refine bx (L_132 x_h a1 c2 a6 c7) wN ?_
 intro g11 w1 p12 p13 k14 b15
 have m16 := (Ch.base w0).extk k14
 refine aw (vb false) ?_
 refine nx ?_
 refine pu (vp g11 0) wN ?_
 refine ld (vs a1 x_h.H.length c2) wN isAgg_32 b15 ?_
 refine cl wN (C_impl_areWords w1 _ x_h.H (mR_32 (r3.from0 m16) s4) 8) ?_
 rintro _ w2 ⟨k17, rfl⟩
 have m18 := m16.extk k17
 refine mw (vb (areW x_h.H 8)) ?_
 rcases bf (areW x_h.H 8) with h19 | h19
 ·refine sk h19 ?_
  refine sk h19 ?_
  refine sk h19 ?_
  refine pf (vb false) wN h19 ?_
  refine mw (vb false) ?_
  refine sk F1 ?_
  refine sk F1 ?_
  refine sk F1 ?_
  refine sk F1 ?_
  refine sk F1 ?_
  refine sk F1 ?_
  refine sk F1 ?_
  refine pf (vb false) wN (Eq.refl false) ?_
  refine aw (vb false) ?_
  refine n3 ?_
  refine rt (vb false) ?_
  refine ⟨m18.keep0, ?_⟩
  have hF31 : F_impl_HashOk x_h = false := by simp only [F_impl_HashOk, h19, cond_true, cond_false]
  rw [hF31]
  exact rfl
 have q20 := areW_t h19
 refine pu (vp g11 2) (wS h19) ?_
 have b21 := (b15.kp k17)
 refine ld (vi x_h.N) (wS h19) isAgg_3 b21 ?_
 refine cl (wS h19) (C_impl_within w2 x_h.N 0 1048576) ?_
 rintro _ w3 ⟨k22, rfl⟩
 have m23 := m18.extk k22
 refine pk (vb (F_impl_within x_h.N 0 1048576)) wN h19 ?_
 refine mw (vb (F_impl_within x_h.N 0 1048576)) ?_
 rcases bf (F_impl_within x_h.N 0 1048576) with h24 | h24
 ·have q28 := impl_within_f h24
  refine sk h24 ?_
  refine sk h24 ?_
  refine sk h24 ?_
  refine sk h24 ?_
  refine sk h24 ?_
  refine sk h24 ?_
  refine sk h24 ?_
  refine pf (vb false) wN h24 ?_
  refine aw (vb false) ?_
  refine n3 ?_
  refine rt (vb false) ?_
  refine ⟨m23.keep0, ?_⟩
  have hF29 : F_impl_HashOk x_h = false := by simp only [F_impl_HashOk, h19, h24, cond_true, cond_false]
  rw [hF29]
  exact rfl
 have q25 := impl_within_t h24
 refine pu (vp g11 2) (wS h24) ?_
 have b26 := (b21.kp k22)
 refine ld (vi x_h.N) (wS h24) isAgg_3 b26 ?_
 refine wl_rem x_h.N 64 (wS h24) rfl rfl (by kernel_rfl) (by first | omega | assumption) ?_
 refine pu (vp g11 1) (wS h24) ?_
 refine ld (vs a6 x_h.Held.length c7) (wS h24) isAgg_22 b26 ?_
 refine ln (wS h24) slTy_22 (r8.from0 m23) ?_
 refine pu (vb (decide ((x_h.N % 64) = (x_h.Held.length : Int)))) (wS h24) ?_
 refine pk (vb (decide ((x_h.N % 64) = (x_h.Held.length : Int)))) wN h24 ?_
 refine aw (vb (decide ((x_h.N % 64) = (x_h.Held.length : Int)))) ?_
 refine n3 ?_
 refine rt (vb (decide ((x_h.N % 64) = (x_h.Held.length : Int)))) ?_
 refine ⟨m23.keep0, ?_⟩
 have hF27 : F_impl_HashOk x_h = decide ((x_h.N % 64) = (x_h.Held.length : Int)) := by simp only [F_impl_HashOk, h19, h24, cond_true, cond_false]
 rw [hF27]
 exact rfl
theorem hashOk_t {h : PHash} (hh : F_impl_HashOk h = true) : areW h.H 8 = true ∧ 0 ≤ h.N ∧ h.N ≤ 1048576 ∧ h.N % 64 = (h.Held.length : Int) := by
  cases h1 : areW h.H 8 with
  | false => simp [F_impl_HashOk, h1] at hh
  | true =>
    cases h2 : F_impl_within h.N 0 1048576 with
    | false => simp [F_impl_HashOk, h1, h2] at hh
    | true =>
      have h3 := impl_within_t h2
      simp [F_impl_HashOk, h1, h2] at hh
      exact ⟨rfl, h3.1, h3.2, by omega⟩

theorem C_impl_Cut (w0 : World) (v_x_b : Value) (x_b : List UInt8) (r_x_b : R_22 w0 v_x_b x_b) (x_from : Int) (x_n : Int)  : Fn Try.prog 178 #[v_x_b, (vi x_from), (vi x_n)] w0 (fun v w' => Keep w0 w' ∧ O_22_4 w' w0.heap.size v (cutP x_b x_from x_n)) := by
 obtain ⟨a1, c2, rfl, r3, s4⟩ := r_x_b
 refine fn_of (n := 36) (l := [(vs a1 x_b.length c2), (vi x_from), (vi x_n), U, U, U, U, U, U, U, U, U, U, U, U, U, U, U, U, U, U, U, U, U, U, U, U, U, U, U, U, U, U, U, U, U]) Try.func178 rfl rfl (by kernel_rfl) rfl ?_
 refine sr ?_
 refine aw (vs none 0 0) ?_
 refine aw (vb false) ?_
 refine n4 ?_
 refine mw (vi x_from) ?_
 refine pu (vb (decide (x_from < 0))) wN ?_
 refine mw (vb (decide (x_from < 0))) ?_
 rcases bt (decide (x_from < 0)) with h6 | h6
 ·have q7 := of_decide_eq_true h6
  refine sk h6 ?_
  refine sk h6 ?_
  refine pk (vb true) wN h6 ?_
  refine mw (vb true) ?_
  refine sk T1 ?_
  refine sk T1 ?_
  refine sk T1 ?_
  refine sk T1 ?_
  refine pk (vb true) wN (Eq.refl true) ?_
  refine mw (vb true) ?_
  refine sk T1 ?_
  refine sk T1 ?_
  refine sk T1 ?_
  refine sk T1 ?_
  refine sk T1 ?_
  refine sk T1 ?_
  refine pk (vb true) wN (Eq.refl true) ?_
  refine n2 ?_
  refine ct (Eq.refl true) ?_
  refine sr ?_
  refine aw (vs none 0 0) ?_
  refine aw (vb false) ?_
  refine n1 ?_
  refine ret_2 (.inl rfl) (vs none 0 0) (vb false) rfl rfl rfl ?_
  refine ⟨Ch.refl _ _, ?_⟩
  have hF8 : cutP x_b x_from x_n = ([], false) := by first | exact cutP_f (by omega) | exact cutP_t (by omega) (by omega) (by omega) (by first | rfl | (congr 2; omega) | (congr 1; omega))
  rw [hF8]
  exact ⟨_, _, rfl, (by first | exact own_nil _ _ _ _ | exact OLv.nil _ _ _ _), (by simp), ⟨trivial, trivial⟩⟩
 have q9 := of_decide_eq_false h6
 refine mv (vi x_n) (wS h6) ?_
 refine pu (vb (decide (x_n < 0))) (wS h6) ?_
 refine pf (vb (decide (x_n < 0))) wN h6 ?_
 refine mw (vb (decide (x_n < 0))) ?_
 rcases bt (decide (x_n < 0)) with h10 | h10
 ·have q11 := of_decide_eq_true h10
  refine sk h10 ?_
  refine sk h10 ?_
  refine sk h10 ?_
  refine sk h10 ?_
  refine pk (vb true) wN h10 ?_
  refine mw (vb true) ?_
  refine sk T1 ?_
  refine sk T1 ?_
  refine sk T1 ?_
  refine sk T1 ?_
  refine sk T1 ?_
  refine sk T1 ?_
  refine pk (vb true) wN (Eq.refl true) ?_
  refine n2 ?_
  refine ct (Eq.refl true) ?_
  refine sr ?_
  refine aw (vs none 0 0) ?_
  refine aw (vb false) ?_
  refine n1 ?_
  refine ret_2 (.inl rfl) (vs none 0 0) (vb false) rfl rfl rfl ?_
  refine ⟨Ch.refl _ _, ?_⟩
  have hF12 : cutP x_b x_from x_n = ([], false) := by first | exact cutP_f (by omega) | exact cutP_t (by omega) (by omega) (by omega) (by first | rfl | (congr 2; omega) | (congr 1; omega))
  rw [hF12]
  exact ⟨_, _, rfl, (by first | exact own_nil _ _ _ _ | exact OLv.nil _ _ _ _), (by simp), ⟨trivial, trivial⟩⟩
 have q13 := of_decide_eq_false h10
 refine mv (vi x_from) (wS h10) ?_
 refine mv (vs a1 x_b.length c2) (wS h10) ?_
 refine ln (wS h10) slTy_22 r3 ?_
 refine pu (vb (decide ((x_b.length : Int) < x_from))) (wS h10) ?_
 refine pf (vb (decide ((x_b.length : Int) < x_from))) wN h10 ?_
 refine mw (vb (decide ((x_b.length : Int) < x_from))) ?_
 rcases bt (decide ((x_b.length : Int) < x_from)) with h14 | h14
 ·have q15 := of_decide_eq_true h14
  refine sk h14 ?_
  refine sk h14 ?_
  refine sk h14 ?_
  refine sk h14 ?_
  refine sk h14 ?_
  refine sk h14 ?_
  refine pk (vb true) wN h14 ?_
  refine n2 ?_
  refine ct (Eq.refl true) ?_
  refine sr ?_
  refine aw (vs none 0 0) ?_
  refine aw (vb false) ?_
  refine n1 ?_
  refine ret_2 (.inl rfl) (vs none 0 0) (vb false) rfl rfl rfl ?_
  refine ⟨Ch.refl _ _, ?_⟩
  have hF16 : cutP x_b x_from x_n = ([], false) := by first | exact cutP_f (by omega) | exact cutP_t (by omega) (by omega) (by omega) (by first | rfl | (congr 2; omega) | (congr 1; omega))
  rw [hF16]
  exact ⟨_, _, rfl, (by first | exact own_nil _ _ _ _ | exact OLv.nil _ _ _ _), (by simp), ⟨trivial, trivial⟩⟩
 have q17 := of_decide_eq_false h14
 refine mv (vi x_n) (wS h14) ?_
 refine mv (vs a1 x_b.length c2) (wS h14) ?_
 refine ln (wS h14) slTy_22 r3 ?_
 refine mv (vi x_from) (wS h14) ?_
 refine ar ((x_b.length : Int) - x_from) (wS h14) ?_
 refine pu (vb (decide (((x_b.length : Int) - x_from) < x_n))) (wS h14) ?_
 refine pf (vb (decide (((x_b.length : Int) - x_from) < x_n))) wN h14 ?_
 refine n2 ?_
 rcases bt (decide (((x_b.length : Int) - x_from) < x_n)) with h18 | h18
 ·have q19 := of_decide_eq_true h18
  refine ct h18 ?_
  refine sr ?_
  refine aw (vs none 0 0) ?_
  refine aw (vb false) ?_
  refine n1 ?_
  refine ret_2 (.inl rfl) (vs none 0 0) (vb false) rfl rfl rfl ?_
  refine ⟨Ch.refl _ _, ?_⟩
  have hF20 : cutP x_b x_from x_n = ([], false) := by first | exact cutP_f (by omega) | exact cutP_t (by omega) (by omega) (by omega) (by first | rfl | (congr 2; omega) | (congr 1; omega))
  rw [hF20]
  exact ⟨_, _, rfl, (by first | exact own_nil _ _ _ _ | exact OLv.nil _ _ _ _), (by simp), ⟨trivial, trivial⟩⟩
 have q21 := of_decide_eq_false h18
 refine cf h18 ?_
 refine y1 ?_
 refine wl_lit0 wN rfl rfl slTy_22 (fun w => by kernel_rfl) ?_
 intro a22 w1 k23 o24
 have m25 := (Ch.base w0).extk k23
 refine mw (vs a1 x_b.length c2) ?_
 refine mw (vi x_from) ?_
 refine mw (vi x_from) ?_
 refine mw (vi x_n) ?_
 refine ar (x_from + x_n) wN ?_
 refine slv ((x_b.drop ((x_from).toNat)).take ((((x_from + x_n)).toNat) - ((x_from).toNat))) ((x_from).toNat) (((x_from + x_n)).toNat) wN slTy_22 (r3.from0 m25) (by first | omega | (simp only [List.length_cons, List.length_nil, List.length_replicate, List.length_append, List.length_take, List.length_set, List.length_map]; omega)) (by first | omega | (simp only [List.length_cons, List.length_nil, List.length_replicate, List.length_append, List.length_take, List.length_set, List.length_map]; omega)) (by first | rfl | (simp; done) | (rw [List.take_of_length_le (by first | (simp; done) | (simp; omega))])) rfl rfl rfl rfl (.inr ⟨_, _, _, rfl, rfl, by omega⟩) (.inr ⟨_, _, _, rfl, rfl, by omega⟩) ?_
 have q29 : ((x_from).toNat) ≤ (((x_from + x_n)).toNat) := (by first | omega | (simp only [List.length_cons, List.length_nil, List.length_replicate, List.length_append, List.length_take, List.length_set, List.length_map]; omega))
 have q30 : (((x_from + x_n)).toNat) ≤ x_b.length := (by first | omega | (simp only [List.length_cons, List.length_nil, List.length_replicate, List.length_append, List.length_take, List.length_set, List.length_map]; omega))
 refine wl_append0 wN rfl rfl rfl slTy_22 rfl rfl o24 (Rd.subV (x' := ((x_b.drop ((x_from).toNat)).take ((((x_from + x_n)).toNat) - ((x_from).toNat)))) (r3.from0 m25) q29 q30 (by first | rfl | (simp; done) | (rw [List.take_of_length_le (by first | (simp; done) | (simp; omega))]))) (all_bV _) (by first | (simp only [List.length_append, List.length_cons, List.length_nil, List.length_replicate, List.length_take, List.length_drop]; omega) | omega) (by simp only [maxLen]; first | (simp only [List.length_append, List.length_cons, List.length_nil, List.length_replicate, List.length_take, List.length_drop]; omega) | omega) k23.size ?_
 intro u31 w2 k32 o33 j34
 obtain ⟨a35, c36, rfl⟩ := own_form o33
 have n37 : New w1 a35 c36 := j34 _ _ rfl
 have m38 := m25.extk k32
 refine aw (vs a35 ((x_b.drop ((x_from).toNat)).take ((((x_from + x_n)).toNat) - ((x_from).toNat))).length c36) ?_
 refine aw (vb true) ?_
 refine n3 ?_
 refine ret_2 (.inl rfl) (vs a35 ((x_b.drop ((x_from).toNat)).take ((((x_from + x_n)).toNat) - ((x_from).toNat))).length c36) (vb true) rfl rfl rfl ?_
 refine ⟨m38.keep0, ?_⟩
 have hF40 : cutP x_b x_from x_n = (((x_b.drop ((x_from).toNat)).take ((((x_from + x_n)).toNat) - ((x_from).toNat))), true) := by first | exact cutP_f (by omega) | exact cutP_t (by omega) (by omega) (by omega) (by first | rfl | (congr 2; omega) | (congr 1; omega))
 rw [hF40]
 exact ⟨_, _, rfl, o33, (Nat.le_trans (by simp only [List.length_take, List.length_drop]; omega) s4), ⟨trivial, trivial⟩⟩

theorem C_impl_GetN (w0 : World) (v_x_b : Value) (x_b : List UInt8) (r_x_b : R_22 w0 v_x_b x_b) (x_at : Int) (x_k : Int)  : Fn Try.prog 177 #[v_x_b, (vi x_at), (vi x_k)] w0 (fun v w' => Keep w0 w' ∧ O_3_3_4 w' w0.heap.size v (getN3 x_b x_at x_k)) := by
 obtain ⟨a1, c2, rfl, r3, s4⟩ := r_x_b
 refine fn_of (n := 45) (l := [(vs a1 x_b.length c2), (vi x_at), (vi x_k), U, U, U, U, U, U, U, U, U, U, U, U, U, U, U, U, U, U, U, U, U, U, U, U, U, U, U, U, U, U, U, U, U, U, U, U, U, U, U, U, U, U]) Try.func177 rfl rfl (by kernel_rfl) rfl ?_
 refine sr ?_
 refine aw (vi 0) ?_
 refine aw (vi 0) ?_
 refine aw (vb false) ?_
 refine n4 ?_
 refine mw (vi x_k) ?_
 refine pu (vb (decide (x_k < 1))) wN ?_
 refine mw (vb (decide (x_k < 1))) ?_
 rcases bt (decide (x_k < 1)) with h6 | h6
 ·have q7 := of_decide_eq_true h6
  refine sk h6 ?_
  refine sk h6 ?_
  refine pk (vb true) wN h6 ?_
  refine n2 ?_
  refine ct (Eq.refl true) ?_
  refine sr ?_
  refine aw (vi 0) ?_
  refine aw (vi 0) ?_
  refine aw (vb false) ?_
  refine n1 ?_
  refine ret_3 (.inl rfl) (vi 0) (vi 0) (vb false) rfl rfl rfl rfl ?_
  refine ⟨Ch.refl _ _, ?_⟩
  have hF8 : getN3 x_b x_at x_k = (0, 0, false) := by first | exact getN3_f (by omega) | exact getN3_c (by assumption) | exact getN3_t (by omega) (by omega) (by assumption) (by omega)
  rw [hF8]
  exact rfl
 have q9 := of_decide_eq_false h6
 refine mv (vi x_k) (wS h6) ?_
 refine pu (vb (decide (6 < x_k))) (wS h6) ?_
 refine pf (vb (decide (6 < x_k))) wN h6 ?_
 refine n2 ?_
 rcases bt (decide (6 < x_k)) with h10 | h10
 ·have q11 := of_decide_eq_true h10
  refine ct h10 ?_
  refine sr ?_
  refine aw (vi 0) ?_
  refine aw (vi 0) ?_
  refine aw (vb false) ?_
  refine n1 ?_
  refine ret_3 (.inl rfl) (vi 0) (vi 0) (vb false) rfl rfl rfl rfl ?_
  refine ⟨Ch.refl _ _, ?_⟩
  have hF12 : getN3 x_b x_at x_k = (0, 0, false) := by first | exact getN3_f (by omega) | exact getN3_c (by assumption) | exact getN3_t (by omega) (by omega) (by assumption) (by omega)
  rw [hF12]
  exact rfl
 have q13 := of_decide_eq_false h10
 refine cf h10 ?_
 refine y1 ?_
 refine mw (vs a1 x_b.length c2) ?_
 refine mw (vi x_at) ?_
 refine mw (vi x_k) ?_
 refine cl wN (C_impl_Cut w0 _ x_b (mR_22 r3 s4) x_at x_k) ?_
 rintro _ w1 ⟨k14, ⟨a15, c16, rfl, o17, s18, ap20⟩⟩
 have m21 := (Ch.base w0).extk k14
 have q22 := cutP_len x_b x_at x_k
 refine mw (.tuple #[(vs a15 ((cutP x_b x_at x_k).1).length c16), (vb ((cutP x_b x_at x_k).2))]) ?_
 refine pu (vs a15 ((cutP x_b x_at x_k).1).length c16) wN ?_
 refine pu (vb ((cutP x_b x_at x_k).2)) wN ?_
 refine aw (vs a15 ((cutP x_b x_at x_k).1).length c16) ?_
 refine aw (vb ((cutP x_b x_at x_k).2)) ?_
 refine n4 ?_
 refine mw (vb ((cutP x_b x_at x_k).2)) ?_
 refine pu (vb (!((cutP x_b x_at x_k).2))) wN ?_
 refine n2 ?_
 rcases bf ((cutP x_b x_at x_k).2) with h23 | h23
 ·refine ct (congrArg not h23) ?_
  refine sr ?_
  refine aw (vi 0) ?_
  refine aw (vi 0) ?_
  refine aw (vb false) ?_
  refine n1 ?_
  refine ret_3 (.inl rfl) (vi 0) (vi 0) (vb false) rfl rfl rfl rfl ?_
  refine ⟨m21.keep0, ?_⟩
  have hF35 : getN3 x_b x_at x_k = (0, 0, false) := by first | exact getN3_f (by omega) | exact getN3_c (by assumption) | exact getN3_t (by omega) (by omega) (by assumption) (by omega)
  rw [hF35]
  exact rfl
 have q24 := cutP_2 h23
 refine cf (congrArg not h23) ?_
 refine y1 ?_
 refine aw (vi 0) ?_
 refine n4 ?_
 refine mw (vs a15 ((cutP x_b x_at x_k).1).length c16) ?_
 refine ln wN slTy_22 (Rd.of_own o17) ?_
 refine mw (vi 0) ?_
 refine wl_nil <| wq_then <| wc_block ?_
 refine wc_loopQ (fun e => [e 0, (vi x_at), (vi x_k), e 3, e 4, e 5, (vi 0), (vi 0), (vb false), e 9, e 10, (vi (getV ((cutP x_b x_at x_k).1.take 0) 0)), e 12, e 13, e 14, e 15, e 16, e 17, e 18, e 19, e 20, e 21, e 22, e 23, e 24, e 25, e 26, e 27, e 28, (vs a15 ((cutP x_b x_at x_k).1).length c16), (vi (((cutP x_b x_at x_k).1).length : Int)), (vi ((0 : Nat) : Int)), e 32, e 33, e 34, e 35, e 36, e 37, e 38, e 39, e 40, U, U, U, U]) rfl ⟨rfl, rfl, rfl, rfl, rfl, rfl, rfl, rfl, rfl, rfl, rfl, (congrArg (Value.int .i64) (show (0 : Int) = (getV ((cutP x_b x_at x_k).1.take 0) 0) by rfl)), rfl, rfl, rfl, rfl, rfl, rfl, rfl, rfl, rfl, rfl, rfl, rfl, rfl, rfl, rfl, rfl, rfl, rfl, rfl, (congrArg (Value.int .i64) (show (0 : Int) = ((0 : Nat) : Int) by omega)), rfl, rfl, rfl, rfl, rfl, rfl, rfl, rfl, rfl, rfl, rfl, rfl, rfl, trivial⟩ (fun e' w' => ∃ (i : Nat) (u25 : Nat → Value), e' = lst [(u25 0), (vi x_at), (vi x_k), (u25 1), (u25 2), (u25 3), (vi 0), (vi 0), (vb false), (u25 4), (u25 5), (vi (getV ((cutP x_b x_at x_k).1.take i) 0)), (u25 6), (u25 7), (u25 8), (u25 9), (u25 10), (u25 11), (u25 12), (u25 13), (u25 14), (u25 15), (u25 16), (u25 17), (u25 18), (u25 19), (u25 20), (u25 21), (u25 22), (vs a15 ((cutP x_b x_at x_k).1).length c16), (vi (((cutP x_b x_at x_k).1).length : Int)), (vi ((i : Nat) : Int)), (u25 23), (u25 24), (u25 25), (u25 26), (u25 27), (u25 28), (u25 29), (u25 30), (u25 31), U, U, U, U] ∧ Ch (fun k => w0.heap.size ≤ k) w0 w' ∧ Ch (fun k => w1.heap.size ≤ k) w1 w' ∧ i ≤ (cutP x_b x_at x_k).1.length) (fun e' _ => (cutP x_b x_at x_k).1.length - ((intOf (e' 31))).toNat) ?_ ?_
 ·exact fun u => ⟨0, (unL [u 0, u 3, u 4, u 5, u 9, u 10, u 12, u 13, u 14, u 15, u 16, u 17, u 18, u 19, u 20, u 21, u 22, u 23, u 24, u 25, u 26, u 27, u 28, u 32, u 33, u 34, u 35, u 36, u 37, u 38, u 39, u 40]), rfl, m21, (Ch.refl (fun k => w1.heap.size ≤ k) w1), (by omega)⟩
 ·rintro _ w2 ⟨i, u25, rfl, m26, k27, i28⟩
  have hgb := getV_b6 ((cutP x_b x_at x_k).1) i (by omega)
  have hx8 : ((cutP x_b x_at x_k).1.getD i 0).toNat < 256 := UInt8.toNat_lt _
  refine sr ?_
  refine pu (vb (decide (((i : Nat) : Int) < (((cutP x_b x_at x_k).1).length : Int)))) wN ?_
  refine wl_nil <| wq_then <| wc_seq ?_
  rcases bf (decide (((i : Nat) : Int) < (((cutP x_b x_at x_k).1).length : Int))) with h29 | h29
  ·have q32 := of_decide_eq_false h29
   refine cf h29 ?_
   refine wc_exit <| wq_then_exit <| wq_then_exit <| wq_blk_exit <| wq_then <| sr ?_
   refine mw (vi (getV ((cutP x_b x_at x_k).1.take i) 0)) ?_
   refine mw (vi x_at) ?_
   refine mw (vi x_k) ?_
   refine ar (x_at + x_k) wN ?_
   refine aw (vi (getV ((cutP x_b x_at x_k).1.take i) 0)) ?_
   refine aw (vi (x_at + x_k)) ?_
   refine aw (vb true) ?_
   refine n3 ?_
   refine ret_3 (.inl rfl) (vi (getV ((cutP x_b x_at x_k).1.take i) 0)) (vi (x_at + x_k)) (vb true) rfl rfl rfl rfl ?_
   refine ⟨m26.keep0, ?_⟩
   have hF33 : getN3 x_b x_at x_k = ((getV ((cutP x_b x_at x_k).1.take i) 0), (x_at + x_k), true) := by first | exact getN3_f (by omega) | exact getN3_c (by assumption) | exact getN3_t (by omega) (by omega) (by assumption) (by omega)
   rw [hF33]
   exact rfl
  have q30 := of_decide_eq_true h29
  refine ct h29 ?_
  refine wc_skip <| wq_then <| wc_seq <| wc_block <| sr ?_
  have o31 := (own_ch o17 k27 (fun g hg hlt hk => by have h1 := (own_lt o17 g hg).2; have h2 : w1.heap.size ≤ w1.heap.size := (Nat.le_refl w1.heap.size); have h3 : w1.heap.size ≤ g := hk; omega))
  refine wl_index (v := (vs a15 ((cutP x_b x_at x_k).1).length c16)) wN ((i : Nat) : Int) rfl rfl rfl slTy_22 rfl rfl (Rd.of_own o31) (by first | omega | (simp only [List.length_cons, List.length_nil, List.length_replicate, List.length_append, List.length_take, List.length_set, List.length_map]; omega)) (by first | omega | (simp only [List.length_cons, List.length_nil, List.length_replicate, List.length_append, List.length_take, List.length_set, List.length_map]; omega)) ?_
  refine wl_loadE (bV (((cutP x_b x_at x_k).1).getD i 0)) wN rfl rfl rfl rfl isAgg_5 (Rd.of_own o31) (bget (by simp) (by first | omega | (simp only [List.length_cons, List.length_nil, List.length_replicate, List.length_append, List.length_take, List.length_set, List.length_map]; omega))) ?_
  refine aw (v8 ((((cutP x_b x_at x_k).1).getD i 0).toNat : Int)) ?_
  refine wl_nil <| wq_then <| wc_region ?_
  refine mw (vi (getV ((cutP x_b x_at x_k).1.take i) 0)) ?_
  refine ar (256 * (getV ((cutP x_b x_at x_k).1.take i) 0)) wN ?_
  refine mw (v8 ((((cutP x_b x_at x_k).1).getD i 0).toNat : Int)) ?_
  refine ar ((((cutP x_b x_at x_k).1).getD i 0).toNat : Int) wN ?_
  refine ar ((256 * (getV ((cutP x_b x_at x_k).1.take i) 0)) + ((((cutP x_b x_at x_k).1).getD i 0).toNat : Int)) wN ?_
  refine aw (vi ((256 * (getV ((cutP x_b x_at x_k).1.take i) 0)) + ((((cutP x_b x_at x_k).1).getD i 0).toNat : Int))) ?_
  refine wl_nil <| wq_blk_normal <| wq_then <| wc_region ?_
  refine ar (((i : Nat) : Int) + 1) wN ?_
  refine mw (vi (((i : Nat) : Int) + 1)) ?_
  refine wl_nil ?_
  refine wq_loopQ (w0 := w2) (fun e => [e 0, (vi x_at), (vi x_k), e 3, e 4, e 5, (vi 0), (vi 0), (vb false), e 9, e 10, (vi (getV ((cutP x_b x_at x_k).1.take (i + 1)) 0)), e 12, e 13, e 14, e 15, e 16, e 17, e 18, e 19, e 20, e 21, e 22, e 23, e 24, e 25, e 26, e 27, e 28, (vs a15 ((cutP x_b x_at x_k).1).length c16), (vi (((cutP x_b x_at x_k).1).length : Int)), (vi (((i + 1) : Nat) : Int)), e 32, e 33, e 34, e 35, e 36, e 37, e 38, e 39, e 40, U, U, U, U]) rfl ?_ ?_ ?_
  · exact ⟨rfl, rfl, rfl, rfl, rfl, rfl, rfl, rfl, rfl, rfl, rfl, (congrArg (Value.int .i64) (show (((256 * (getV ((cutP x_b x_at x_k).1.take i) 0)) + ((((cutP x_b x_at x_k).1).getD i 0).toNat : Int)) : Int) = (getV ((cutP x_b x_at x_k).1.take (i + 1)) 0) by exact getV_next (by omega))), rfl, rfl, rfl, rfl, rfl, rfl, rfl, rfl, rfl, rfl, rfl, rfl, rfl, rfl, rfl, rfl, rfl, rfl, rfl, (congrArg (Value.int .i64) (show ((((i : Nat) : Int) + 1) : Int) = (((i + 1) : Nat) : Int) by omega)), rfl, rfl, rfl, rfl, rfl, rfl, rfl, rfl, rfl, rfl, rfl, rfl, rfl, trivial⟩
  · exact fun u => ⟨(i + 1), (unL [u 0, u 3, u 4, u 5, u 9, u 10, u 12, u 13, u 14, u 15, u 16, u 17, u 18, u 19, u 20, u 21, u 22, u 23, u 24, u 25, u 26, u 27, u 28, u 32, u 33, u 34, u 35, u 36, u 37, u 38, u 39, u 40]), rfl, m26, ((Ch.refl (fun k => w1.heap.size ≤ k) w1).ext k27 (fun k hk => hk)), (by omega)⟩
  · show (cutP x_b x_at x_k).1.length - ((((i + 1) : Nat) : Int)).toNat < (cutP x_b x_at x_k).1.length - (((i : Nat) : Int)).toNat; omega

theorem C_impl_Rot (w0 : World) (x_x : Int) (x_n : Int) (pre0 : 1 ≤ x_n) (pre1 : x_n ≤ 31) : Fn Try.prog 174 #[(vi x_x), (vi x_n)] w0 (fun v w' => Keep w0 w' ∧ O_3 w' w0.heap.size v (rot x_x x_n)) := by
 refine fn_of (n := 23) (l := [(vi x_x), (vi x_n), U, U, U, U, U, U, U, U, U, U, U, U, U, U, U, U, U, U, U, U, U]) Try.func174 rfl rfl (by kernel_rfl) rfl ?_
 refine sr ?_
 refine aw (vi 0) ?_
 refine nx ?_
 refine mw (vi x_x) ?_
 refine wl_and x_x 4294967295 4294967296 32 wN rfl rfl (by decide) (by decide) (by decide) (by kernel_rfl) ?_
 refine aw (vi (x_x % 4294967296)) ?_
 refine n4 ?_
 refine mw (vi x_n) ?_
 refine pu (vb (decide (x_n < 0))) wN ?_
 refine mw (vb (decide (x_n < 0))) ?_
 rcases bt (decide (x_n < 0)) with h1 | h1
 ·have q2 := of_decide_eq_true h1
  refine sk h1 ?_
  refine sk h1 ?_
  refine pk (vb true) wN h1 ?_
  refine n2 ?_
  refine ct (Eq.refl true) ?_
  refine sr ?_
  refine mw (vi (x_x % 4294967296)) ?_
  refine aw (vi (x_x % 4294967296)) ?_
  refine n1 ?_
  refine rt (vi (x_x % 4294967296)) ?_
  refine ⟨Ch.refl _ _, ?_⟩
  have hF3 : rot x_x x_n = (x_x % 4294967296) := by first | rfl | (exfalso; omega)
  rw [hF3]
  exact rfl
 have q4 := of_decide_eq_false h1
 refine mv (vi x_n) (wS h1) ?_
 refine pu (vb (decide (31 < x_n))) (wS h1) ?_
 refine pf (vb (decide (31 < x_n))) wN h1 ?_
 refine n2 ?_
 rcases bt (decide (31 < x_n)) with h5 | h5
 ·have q6 := of_decide_eq_true h5
  refine ct h5 ?_
  refine sr ?_
  refine mw (vi (x_x % 4294967296)) ?_
  refine aw (vi (x_x % 4294967296)) ?_
  refine n1 ?_
  refine rt (vi (x_x % 4294967296)) ?_
  refine ⟨Ch.refl _ _, ?_⟩
  have hF7 : rot x_x x_n = (x_x % 4294967296) := by first | rfl | (exfalso; omega)
  rw [hF7]
  exact rfl
 have q8 := of_decide_eq_false h5
 refine cf h5 ?_
 refine wc_skip <| wq_then <| wc_seq ?_
 refine wc_drawT ([(14, [], [], (fun _ v _ => v = (vi (x_x % 4294967296)))), (15, [], [], (fun _ v _ => v = (vi x_n))), (16, [], [0, 1], (fun _ v _ => v = (vi ((x_x % 4294967296) / (2 : Int) ^ (x_n).toNat)))), (17, [], [], (fun _ v _ => v = (vi (x_x % 4294967296)))), (18, [], [], (fun _ v _ => v = (vi x_n))), (19, [], [4], (fun _ v _ => v = (vi (32 - x_n)))), (20, [], [3, 4, 5], (fun _ v _ => v = (vi ((x_x % 4294967296) * (2 : Int) ^ ((32 - x_n)).toNat))))] : GV) (fun _ w' => Keep w0 w') [] mixed rfl (by kernel_rfl) (by kernel_rfl) ?_ (fun _ _ h => h) (fun _ _ _ _ h _ k => h.trans k) trivial ?_ ?_ ?_
 ·exact ⟨(fun _ _ _ _ h _ => h), (fun _ _ _ _ _ h => h), ⟨(fun _ _ _ _ h _ => h), (fun _ _ _ _ _ h => h), ⟨(fun _ _ _ _ h _ => h), (fun _ _ _ _ _ h => h), ⟨(fun _ _ _ _ h _ => h), (fun _ _ _ _ _ h => h), ⟨(fun _ _ _ _ h _ => h), (fun _ _ _ _ _ h => h), ⟨(fun _ _ _ _ h _ => h), (fun _ _ _ _ _ h => h), ⟨(fun _ _ _ _ h _ => h), (fun _ _ _ _ _ h => h), trivial⟩⟩⟩⟩⟩⟩⟩
 ·exact trivial
 ·refine ⟨?_, ⟨?_, ⟨?_, ⟨?_, ⟨?_, ⟨?_, ⟨?_, trivial⟩⟩⟩⟩⟩⟩⟩
  ·intro _ w1 k14 _
   have m15 := (Ch.base w0).extk k14
   rintro _ _ _ _ _ _ _
   show WL _ _ _ _ _ _ _
   refine mw (vi (x_x % 4294967296)) ?_
   exact f1
  ·intro _ w1 k16 _
   have m17 := (Ch.base w0).extk k16
   rintro _ _ _ _ _ _ _
   show WL _ _ _ _ _ _ _
   refine mw (vi x_n) ?_
   exact f1
  ·intro _ w1 k18 _
   have m19 := (Ch.base w0).extk k18
   rintro _ rfl _ rfl _ _ _ _ _
   show WL _ _ _ _ _ _ _
   refine wl_shr (x_x % 4294967296) x_n wN rfl rfl rfl rfl rfl (by omega) (by omega) ?_
   have q20 := shr_b (a := (x_x % 4294967296)) (by omega) (x_n).toNat
   exact f1
  ·intro _ w1 k21 _
   have m22 := (Ch.base w0).extk k21
   rintro _ _ _ _ _ _ _
   show WL _ _ _ _ _ _ _
   refine mw (vi (x_x % 4294967296)) ?_
   exact f1
  ·intro _ w1 k23 _
   have m24 := (Ch.base w0).extk k23
   rintro _ _ _ _ _ _ _
   show WL _ _ _ _ _ _ _
   refine mw (vi x_n) ?_
   exact f1
  ·intro _ w1 k25 _
   have m26 := (Ch.base w0).extk k25
   rintro _ _ _ _ _ rfl _ _
   show WL _ _ _ _ _ _ _
   refine ar (32 - x_n) wN ?_
   exact f1
  ·intro _ w1 k27 _
   have m28 := (Ch.base w0).extk k27
   rintro _ _ _ _ rfl _ rfl _ rfl _
   show WL _ _ _ _ _ _ _
   refine wl_shl (x_x % 4294967296) (32 - x_n) wN rfl rfl rfl rfl rfl (by omega) (by omega) (by omega) (by omega) ?_
   have q29 := shl_b (a := (x_x % 4294967296)) (n := ((32 - x_n)).toNat) (by omega) (by omega) (by omega)
   exact f1
 ·intro _ w1 k30
  have m31 := (Ch.base w0).extk k30
  rintro _ rfl _ rfl _ rfl
  have q32 := shr_b (a := (x_x % 4294967296)) (by omega) (x_n).toNat
  rintro _ rfl _ rfl _ rfl _ rfl
  have q33 := shl_b (a := (x_x % 4294967296)) (n := ((32 - x_n)).toNat) (by omega) (by omega) (by omega)
  show WL _ _ _ _ _ _ _
  refine wl_or ((x_x % 4294967296) / (2 : Int) ^ (x_n).toNat) ((x_x % 4294967296) * (2 : Int) ^ ((32 - x_n)).toNat) wN rfl rfl (by kernel_rfl) (by omega) (by omega) (by omega) (by omega) ?_
  have q34 := orI_p (a := ((x_x % 4294967296) / (2 : Int) ^ (x_n).toNat)) (b := ((x_x % 4294967296) * (2 : Int) ^ ((32 - x_n)).toNat)) (by omega) (by omega)
  refine wl_and (orI ((x_x % 4294967296) / (2 : Int) ^ (x_n).toNat) ((x_x % 4294967296) * (2 : Int) ^ ((32 - x_n)).toNat)) 4294967295 4294967296 32 wN rfl rfl (by decide) (by decide) (by decide) (by kernel_rfl) ?_
  refine aw (vi ((orI ((x_x % 4294967296) / (2 : Int) ^ (x_n).toNat) ((x_x % 4294967296) * (2 : Int) ^ ((32 - x_n)).toNat)) % 4294967296)) ?_
  refine n3 ?_
  refine rt (vi ((orI ((x_x % 4294967296) / (2 : Int) ^ (x_n).toNat) ((x_x % 4294967296) * (2 : Int) ^ ((32 - x_n)).toNat)) % 4294967296)) ?_
  refine ⟨m31.keep0, ?_⟩
  have hF35 : rot x_x x_n = ((orI ((x_x % 4294967296) / (2 : Int) ^ (x_n).toNat) ((x_x % 4294967296) * (2 : Int) ^ ((32 - x_n)).toNat)) % 4294967296) := by first | rfl | (exfalso; omega)
  rw [hF35]
  exact rfl

theorem C_impl_Schedule (w0 : World) (v_x_block : Value) (x_block : List UInt8) (r_x_block : R_22 w0 v_x_block x_block)  : Fn Try.prog 173 #[v_x_block] w0 (fun v w' => Keep w0 w' ∧ O_32 w' w0.heap.size v (schedP x_block)) := by
 obtain ⟨a1, c2, rfl, r3, s4⟩ := r_x_block
 refine fn_of (n := 79) (l := [(vs a1 x_block.length c2), U, U, U, U, U, U, U, U, U, U, U, U, U, U, U, U, U, U, U, U, U, U, U, U, U, U, U, U, U, U, U, U, U, U, U, U, U, U, U, U, U, U, U, U, U, U, U, U, U, U, U, U, U, U, U, U, U, U, U, U, U, U, U, U, U, U, U, U, U, U, U, U, U, U, U, U, U, U]) Try.func173 rfl rfl (by kernel_rfl) rfl ?_
 refine sr ?_
 refine aw (vs none 0 0) ?_
 refine n4 ?_
 refine mw (vs a1 x_block.length c2) ?_
 refine ln wN slTy_22 r3 ?_
 refine pu (vb (!(decide ((x_block.length : Int) = 64)))) wN ?_
 refine n2 ?_
 rcases bf (decide ((x_block.length : Int) = 64)) with h6 | h6
 ·have q169 := of_decide_eq_false h6
  refine ct (congrArg not h6) ?_
  refine sr ?_
  refine aw (vs none 0 0) ?_
  refine n1 ?_
  refine rt (vs none 0 0) ?_
  refine ⟨Ch.refl _ _, ?_⟩
  have hF170 : schedP x_block = [] := by first | exact schedP_f (by omega) | exact schedP_t (by omega) (by omega) (by omega)
  rw [hF170]
  exact ⟨_, _, rfl, (by first | exact own_nil _ _ _ _ | exact OLv.nil _ _ _ _), (by simp), ⟨trivial, trivial⟩⟩
 have q7 := of_decide_eq_true h6
 refine cf (congrArg not h6) ?_
 refine y1 ?_
 refine wl_makeI (64) wN rfl rfl rfl slTy_32 64 rfl (by omega) (by first | (simp only [List.length_append, List.length_cons, List.length_nil, List.length_replicate, List.length_take, List.length_drop]; omega) | omega) (by first | (simp only [List.length_append, List.length_cons, List.length_nil, List.length_replicate, List.length_take, List.length_drop]; omega) | omega) ?_
 intro a8 c9 w1 k10 o11
 have m12 := (Ch.base w0).extk k10
 refine aw (vs a8 (List.replicate 64 (0 : Int)).length c9) ?_
 refine n4 ?_
 refine aw (vi 0) ?_
 refine wl_nil <| wq_then <| wc_block ?_
 have hE15 : ((List.replicate 64 (0 : Int)) : List Int) = sched16 x_block 0 ++ List.replicate (64 - 0) (0 : Int) := by rfl
 refine wc_loopQ (fun e => [(vs a1 x_block.length c2), e 1, (vs none 0 0), (vs a8 (List.replicate 64 (0 : Int)).length c9), (vi ((0 : Nat) : Int)), U, U, U, U, U, e 10, e 11, e 12, e 13, e 14, e 15, e 16, e 17, e 18, e 19, e 20, e 21, e 22, e 23, e 24, e 25, e 26, e 27, e 28, U, U, U, U, U, U, U, U, U, U, U, U, U, U, U, U, U, U, U, U, U, U, U, U, U, U, U, U, U, U, U, U, U, U, U, U, U, U, U, U, U, U, U, U, U, U, U, U, U, U]) rfl ⟨rfl, rfl, rfl, rfl, (congrArg (Value.int .i64) (show (0 : Int) = ((0 : Nat) : Int) by omega)), rfl, rfl, rfl, rfl, rfl, rfl, rfl, rfl, rfl, rfl, rfl, rfl, rfl, rfl, rfl, rfl, rfl, rfl, rfl, rfl, rfl, rfl, rfl, rfl, rfl, rfl, rfl, rfl, rfl, rfl, rfl, rfl, rfl, rfl, rfl, rfl, rfl, rfl, rfl, rfl, rfl, rfl, rfl, rfl, rfl, rfl, rfl, rfl, rfl, rfl, rfl, rfl, rfl, rfl, rfl, rfl, rfl, rfl, rfl, rfl, rfl, rfl, rfl, rfl, rfl, rfl, rfl, rfl, rfl, rfl, rfl, rfl, rfl, rfl, trivial⟩ (fun e' w' => ∃ (k : Nat) (u14 : Nat → Value), e' = lst [(vs a1 x_block.length c2), (u14 0), (vs none 0 0), (vs a8 (List.replicate 64 (0 : Int)).length c9), (vi ((k : Nat) : Int)), U, U, U, U, U, (u14 1), (u14 2), (u14 3), (u14 4), (u14 5), (u14 6), (u14 7), (u14 8), (u14 9), (u14 10), (u14 11), (u14 12), (u14 13), (u14 14), (u14 15), (u14 16), (u14 17), (u14 18), (u14 19), U, U, U, U, U, U, U, U, U, U, U, U, U, U, U, U, U, U, U, U, U, U, U, U, U, U, U, U, U, U, U, U, U, U, U, U, U, U, U, U, U, U, U, U, U, U, U, U, U, U] ∧ Ch (fun k => w0.heap.size ≤ k) w0 w' ∧ Ch (fun k => w0.heap.size ≤ k) w1 w' ∧ k ≤ 16 ∧ World.ownsRow w' w0.heap.size 3 1 (.slice a8 (List.replicate 64 (0 : Int)).length c9) (List.replicate 64 (0 : Int)).length ((sched16 x_block k ++ List.replicate (64 - k) (0 : Int)).map iV)) (fun e' _ => (16 - (intOf (e' 4))).toNat) ?_ ?_
 ·exact fun u => ⟨0, (unL [u 1, u 10, u 11, u 12, u 13, u 14, u 15, u 16, u 17, u 18, u 19, u 20, u 21, u 22, u 23, u 24, u 25, u 26, u 27, u 28]), rfl, m12, (Ch.refl (fun k => w0.heap.size ≤ k) w1), (by omega), (by rw [← hE15]; exact o11)⟩
 ·rintro _ w2 ⟨k, u14, rfl, m16, k17, i18, o19⟩
  have hsl := sched16_len x_block k
  refine wc_seq <| sr ?_
  refine mw (vi ((k : Nat) : Int)) ?_
  refine pu (vb (decide (((k : Nat) : Int) < 16))) wN ?_
  refine n2 ?_
  rcases bt (decide (((k : Nat) : Int) < 16)) with h20 | h20
  ·have q21 := of_decide_eq_true h20
   refine ct h20 ?_
   refine wc_skip <| wq_then <| wc_seq <| wc_block <| wc_region ?_
   refine mw (vs a8 (List.replicate 64 (0 : Int)).length c9) ?_
   refine mw (vi ((k : Nat) : Int)) ?_
   refine mw (vs a1 x_block.length c2) ?_
   refine mw (vi ((k : Nat) : Int)) ?_
   refine ar (4 * ((k : Nat) : Int)) wN ?_
   refine cl wN (C_impl_GetN w2 _ x_block (mR_22 (r3.from0 m16) s4) (4 * ((k : Nat) : Int)) 4) ?_
   rintro _ w3 ⟨k22, rfl⟩
   have m23 := m16.extk k22
   refine mw (.tuple #[(vi ((getN3 x_block (4 * ((k : Nat) : Int)) 4).1)), (vi ((getN3 x_block (4 * ((k : Nat) : Int)) 4).2.1)), (vb ((getN3 x_block (4 * ((k : Nat) : Int)) 4).2.2))]) ?_
   refine pu (vi ((getN3 x_block (4 * ((k : Nat) : Int)) 4).1)) wN ?_
   refine pu (vi ((getN3 x_block (4 * ((k : Nat) : Int)) 4).2.1)) wN ?_
   refine pu (vb ((getN3 x_block (4 * ((k : Nat) : Int)) 4).2.2)) wN ?_
   have o24 := (own_kp o19 k22)
   refine wl_index (v := (vs a8 (List.replicate 64 (0 : Int)).length c9)) wN ((k : Nat) : Int) rfl rfl rfl slTy_32 rfl rfl (Rd.of_own o24) (by first | omega | (simp only [List.length_cons, List.length_nil, List.length_replicate, List.length_append, List.length_take, List.length_set, List.length_map]; omega)) (by first | omega | (simp only [List.length_cons, List.length_nil, List.length_replicate, List.length_append, List.length_take, List.length_set, List.length_map]; omega)) ?_
   refine wl_storeI (sched16 x_block k ++ List.replicate (64 - k) (0 : Int)) (k) ((getN3 x_block (4 * ((k : Nat) : Int)) 4).1) wN rfl rfl rfl (by simp) rfl sizeOf_3 o24 (by first | omega | (simp only [List.length_append, List.length_replicate, List.length_take, List.length_set, List.length_map]; omega)) ?_
   intro w4 k25 o26
   have m27 := m23.ext k25 (fun k hk => Nat.le_trans (Nat.le_refl w0.heap.size) (own_lt o11 k hk).1)
   refine wl_nil <| wq_blk_normal <| wq_then <| wc_region ?_
   refine mw (vi ((k : Nat) : Int)) ?_
   refine ar (((k : Nat) : Int) + 1) wN ?_
   refine aw (vi (((k : Nat) : Int) + 1)) ?_
   refine wl_nil ?_
   have hE28 : (((sched16 x_block k ++ List.replicate (64 - k) (0 : Int)).set k ((getN3 x_block (4 * ((k : Nat) : Int)) 4).1)) : List Int) = sched16 x_block (k + 1) ++ List.replicate (64 - (k + 1)) (0 : Int) := by exact sched16_next (by omega) (by omega)
   refine wq_loopQ (w0 := w2) (fun e => [(vs a1 x_block.length c2), e 1, (vs none 0 0), (vs a8 (List.replicate 64 (0 : Int)).length c9), (vi (((k + 1) : Nat) : Int)), U, U, U, U, U, e 10, e 11, e 12, e 13, e 14, e 15, e 16, e 17, e 18, e 19, e 20, e 21, e 22, e 23, e 24, e 25, e 26, e 27, e 28, U, U, U, U, U, U, U, U, U, U, U, U, U, U, U, U, U, U, U, U, U, U, U, U, U, U, U, U, U, U, U, U, U, U, U, U, U, U, U, U, U, U, U, U, U, U, U, U, U, U]) rfl ?_ ?_ ?_
   · exact ⟨rfl, rfl, rfl, rfl, (congrArg (Value.int .i64) (show ((((k : Nat) : Int) + 1) : Int) = (((k + 1) : Nat) : Int) by omega)), rfl, rfl, rfl, rfl, rfl, rfl, rfl, rfl, rfl, rfl, rfl, rfl, rfl, rfl, rfl, rfl, rfl, rfl, rfl, rfl, rfl, rfl, rfl, rfl, rfl, rfl, rfl, rfl, rfl, rfl, rfl, rfl, rfl, rfl, rfl, rfl, rfl, rfl, rfl, rfl, rfl, rfl, rfl, rfl, rfl, rfl, rfl, rfl, rfl, rfl, rfl, rfl, rfl, rfl, rfl, rfl, rfl, rfl, rfl, rfl, rfl, rfl, rfl, rfl, rfl, rfl, rfl, rfl, rfl, rfl, rfl, rfl, rfl, rfl, trivial⟩
   · exact fun u => ⟨(k + 1), (unL [u 1, u 10, u 11, u 12, u 13, u 14, u 15, u 16, u 17, u 18, u 19, u 20, u 21, u 22, u 23, u 24, u 25, u 26, u 27, u 28]), rfl, m27, ((((Ch.refl (fun k => w0.heap.size ≤ k) w1).ext k17 (fun k hk => hk)).extk k22).ext k25 (fun k hk => Nat.le_trans (Nat.le_refl w0.heap.size) (own_lt o11 k hk).1)), (by omega), (by rw [← hE28]; exact o26)⟩
   · show (16 - (((k + 1) : Nat) : Int)).toNat < (16 - ((k : Nat) : Int)).toNat; omega
  have q29 := of_decide_eq_false h20
  refine cf h20 ?_
  refine wc_exit <| wq_then_exit ?_
  obtain rfl : k = 16 := by omega
  refine wq_then_exit <| wq_blk_exit <| wq_then <| wc_seq <| sr ?_
  refine aw (vi 16) ?_
  refine wl_nil <| wq_then <| wc_block ?_
  have hE31 : ((sched16 x_block 16 ++ List.replicate (64 - 16) (0 : Int)) : List Int) = schedN x_block 0 ++ List.replicate (48 - 0) (0 : Int) := by rfl
  refine wc_loopQ (fun e => [e 0, e 1, (vs none 0 0), (vs a8 (List.replicate 64 (0 : Int)).length c9), e 4, (vi (16 + ((0 : Nat) : Int))), e 6, e 7, e 8, e 9, e 10, e 11, e 12, e 13, e 14, e 15, e 16, e 17, e 18, e 19, e 20, e 21, e 22, e 23, e 24, e 25, e 26, e 27, e 28, e 29, e 30, e 31, e 32, e 33, e 34, e 35, e 36, e 37, e 38, e 39, e 40, e 41, e 42, e 43, e 44, e 45, e 46, e 47, e 48, e 49, e 50, e 51, e 52, e 53, e 54, e 55, e 56, e 57, e 58, e 59, e 60, e 61, e 62, e 63, e 64, e 65, e 66, e 67, e 68, e 69, e 70, e 71, e 72, e 73, e 74, e 75, e 76, e 77, U]) rfl ⟨rfl, rfl, rfl, rfl, rfl, (congrArg (Value.int .i64) (show (16 : Int) = (16 + ((0 : Nat) : Int)) by omega)), rfl, rfl, rfl, rfl, rfl, rfl, rfl, rfl, rfl, rfl, rfl, rfl, rfl, rfl, rfl, rfl, rfl, rfl, rfl, rfl, rfl, rfl, rfl, rfl, rfl, rfl, rfl, rfl, rfl, rfl, rfl, rfl, rfl, rfl, rfl, rfl, rfl, rfl, rfl, rfl, rfl, rfl, rfl, rfl, rfl, rfl, rfl, rfl, rfl, rfl, rfl, rfl, rfl, rfl, rfl, rfl, rfl, rfl, rfl, rfl, rfl, rfl, rfl, rfl, rfl, rfl, rfl, rfl, rfl, rfl, rfl, rfl, rfl, trivial⟩ (fun e' w' => ∃ (m : Nat) (u30 : Nat → Value), e' = lst [(u30 0), (u30 1), (vs none 0 0), (vs a8 (List.replicate 64 (0 : Int)).length c9), (u30 2), (vi (16 + ((m : Nat) : Int))), (u30 3), (u30 4), (u30 5), (u30 6), (u30 7), (u30 8), (u30 9), (u30 10), (u30 11), (u30 12), (u30 13), (u30 14), (u30 15), (u30 16), (u30 17), (u30 18), (u30 19), (u30 20), (u30 21), (u30 22), (u30 23), (u30 24), (u30 25), (u30 26), (u30 27), (u30 28), (u30 29), (u30 30), (u30 31), (u30 32), (u30 33), (u30 34), (u30 35), (u30 36), (u30 37), (u30 38), (u30 39), (u30 40), (u30 41), (u30 42), (u30 43), (u30 44), (u30 45), (u30 46), (u30 47), (u30 48), (u30 49), (u30 50), (u30 51), (u30 52), (u30 53), (u30 54), (u30 55), (u30 56), (u30 57), (u30 58), (u30 59), (u30 60), (u30 61), (u30 62), (u30 63), (u30 64), (u30 65), (u30 66), (u30 67), (u30 68), (u30 69), (u30 70), (u30 71), (u30 72), (u30 73), (u30 74), U] ∧ Ch (fun k => w0.heap.size ≤ k) w0 w' ∧ Ch (fun k => w0.heap.size ≤ k) w2 w' ∧ m ≤ 48 ∧ World.ownsRow w' w0.heap.size 3 1 (.slice a8 (List.replicate 64 (0 : Int)).length c9) (List.replicate 64 (0 : Int)).length ((schedN x_block m ++ List.replicate (48 - m) (0 : Int)).map iV)) (fun e' _ => (64 - (intOf (e' 5))).toNat) ?_ ?_
  ·exact fun u => ⟨0, (unL [u 0, u 1, u 4, u 6, u 7, u 8, u 9, u 10, u 11, u 12, u 13, u 14, u 15, u 16, u 17, u 18, u 19, u 20, u 21, u 22, u 23, u 24, u 25, u 26, u 27, u 28, u 29, u 30, u 31, u 32, u 33, u 34, u 35, u 36, u 37, u 38, u 39, u 40, u 41, u 42, u 43, u 44, u 45, u 46, u 47, u 48, u 49, u 50, u 51, u 52, u 53, u 54, u 55, u 56, u 57, u 58, u 59, u 60, u 61, u 62, u 63, u 64, u 65, u 66, u 67, u 68, u 69, u 70, u 71, u 72, u 73, u 74, u 75, u 76, u 77]), rfl, m16, (Ch.refl (fun k => w0.heap.size ≤ k) w2), (by omega), (by rw [← hE31]; exact o19)⟩
  ·rintro _ w3 ⟨m, u30, rfl, m32, k33, i34, o35⟩
   have hsl := schedN_len x_block m
   obtain ⟨z7, hz7⟩ : ∃ z, (schedN x_block m ++ List.replicate (48 - m) (0 : Int)).getD (((16 + ((m : Nat) : Int)) - 7)).toNat 0 = z := ⟨_, rfl⟩
   have hg7 : 0 ≤ z7 ∧ z7 < 4294967296 := hz7 ▸ wget (schedL_w x_block m) (((16 + ((m : Nat) : Int)) - 7)).toNat
   obtain ⟨z16, hz16⟩ : ∃ z, (schedN x_block m ++ List.replicate (48 - m) (0 : Int)).getD (((16 + ((m : Nat) : Int)) - 16)).toNat 0 = z := ⟨_, rfl⟩
   have hg16 : 0 ≤ z16 ∧ z16 < 4294967296 := hz16 ▸ wget (schedL_w x_block m) (((16 + ((m : Nat) : Int)) - 16)).toNat
   obtain ⟨z15, hz15⟩ : ∃ z, (schedN x_block m ++ List.replicate (48 - m) (0 : Int)).getD (((16 + ((m : Nat) : Int)) - 15)).toNat 0 = z := ⟨_, rfl⟩
   have hg15 : 0 ≤ z15 ∧ z15 < 4294967296 := hz15 ▸ wget (schedL_w x_block m) (((16 + ((m : Nat) : Int)) - 15)).toNat
   obtain ⟨z2, hz2⟩ : ∃ z, (schedN x_block m ++ List.replicate (48 - m) (0 : Int)).getD (((16 + ((m : Nat) : Int)) - 2)).toNat 0 = z := ⟨_, rfl⟩
   have hg2 : 0 ≤ z2 ∧ z2 < 4294967296 := hz2 ▸ wget (schedL_w x_block m) (((16 + ((m : Nat) : Int)) - 2)).toNat
   refine wc_seq <| sr ?_
   refine mw (vi (16 + ((m : Nat) : Int))) ?_
   refine pu (vb (decide ((16 + ((m : Nat) : Int)) < 64))) wN ?_
   refine n2 ?_
   rcases bf (decide ((16 + ((m : Nat) : Int)) < 64)) with h36 | h36
   ·have q166 := of_decide_eq_false h36
    refine cf h36 ?_
    refine wc_exit <| wq_then_exit <| wq_then_exit <| wq_blk_exit <| wq_then <| sr ?_
    refine mw (vs a8 (List.replicate 64 (0 : Int)).length c9) ?_
    refine aw (vs a8 (List.replicate 64 (0 : Int)).length c9) ?_
    refine n3 ?_
    refine rt (vs a8 (List.replicate 64 (0 : Int)).length c9) ?_
    refine ⟨m32.keep0, ?_⟩
    have hF167 : schedP x_block = (schedN x_block m ++ List.replicate (48 - m) (0 : Int)) := by first | exact schedP_f (by omega) | exact schedP_t (by omega) (by omega) (by omega)
    rw [hF167]
    have hN168 : (List.replicate 64 (0 : Int)).length = ((schedN x_block m ++ List.replicate (48 - m) (0 : Int))).length := by first | (simp only [List.length_append, List.length_take, List.length_replicate, List.length_set, List.length_map]; done) | (simp only [List.length_append, List.length_take, List.length_replicate, List.length_set, List.length_map]; omega)
    rw [hN168] at o35 ⊢
    exact ⟨_, _, rfl, o35, (by rw [← hN168]; rw [List.length_replicate]; first | assumption | omega), ⟨trivial, trivial⟩⟩
   have q37 := of_decide_eq_true h36
   refine ct h36 ?_
   refine wc_skip <| wq_then <| wc_seq <| wc_block <| wc_seq ?_
   refine wc_draw ([(33, [], [], (fun _ v _ => v = (vs a8 (List.replicate 64 (0 : Int)).length c9))), (34, [], [], (fun _ v _ => v = (vi (16 + ((m : Nat) : Int))))), (35, [], [1], (fun _ v _ => v = (vi ((16 + ((m : Nat) : Int)) - 15)))), (36, [], [0, 1, 2], (fun _ v _ => v = (ve (vs a8 (List.replicate 64 (0 : Int)).length c9) ((((16 + ((m : Nat) : Int)) - 15)).toNat * 1)))), (37, [], [0, 1, 2, 3], (fun _ v _ => v = (vi z15))), (38, [], [], (fun _ v _ => v = (vs a8 (List.replicate 64 (0 : Int)).length c9))), (39, [], [], (fun _ v _ => v = (vi (16 + ((m : Nat) : Int))))), (40, [], [6], (fun _ v _ => v = (vi ((16 + ((m : Nat) : Int)) - 2)))), (41, [], [5, 6, 7], (fun _ v _ => v = (ve (vs a8 (List.replicate 64 (0 : Int)).length c9) ((((16 + ((m : Nat) : Int)) - 2)).toNat * 1)))), (42, [], [5, 6, 7, 8], (fun _ v _ => v = (vi z2))), (6, [], [0, 1, 2, 3, 4], (fun _ v _ => v = (vi z15)))] : GV) mixed rfl (by kernel_rfl) (by kernel_rfl) ?_ ?_ ?_
   ·exact ⟨(fun _ _ _ _ h _ => h), (fun _ _ _ _ _ h => h), ⟨(fun _ _ _ _ h _ => h), (fun _ _ _ _ _ h => h), ⟨(fun _ _ _ _ h _ => h), (fun _ _ _ _ _ h => h), ⟨(fun _ _ _ _ h _ => h), (fun _ _ _ _ _ h => h), ⟨(fun _ _ _ _ h _ => h), (fun _ _ _ _ _ h => h), ⟨(fun _ _ _ _ h _ => h), (fun _ _ _ _ _ h => h), ⟨(fun _ _ _ _ h _ => h), (fun _ _ _ _ _ h => h), ⟨(fun _ _ _ _ h _ => h), (fun _ _ _ _ _ h => h), ⟨(fun _ _ _ _ h _ => h), (fun _ _ _ _ _ h => h), ⟨(fun _ _ _ _ h _ => h), (fun _ _ _ _ _ h => h), ⟨(fun _ _ _ _ h _ => h), (fun _ _ _ _ _ h => h), trivial⟩⟩⟩⟩⟩⟩⟩⟩⟩⟩⟩
   ·refine ⟨?_, ⟨?_, ⟨?_, ⟨?_, ⟨?_, ⟨?_, ⟨?_, ⟨?_, ⟨?_, ⟨?_, ⟨?_, trivial⟩⟩⟩⟩⟩⟩⟩⟩⟩⟩⟩
    ·intro w4 k38
     have m39 := m32.extk k38
     rintro _ _ _ _ _ _ _ _ _ _ _
     show WL _ _ _ _ _ _ _
     refine mw (vs a8 (List.replicate 64 (0 : Int)).length c9) ?_
     exact f2
    ·intro w4 k40
     have m41 := m32.extk k40
     rintro _ _ _ _ _ _ _ _ _ _ _
     show WL _ _ _ _ _ _ _
     refine mw (vi (16 + ((m : Nat) : Int))) ?_
     exact f2
    ·intro w4 k42
     have m43 := m32.extk k42
     rintro _ _ rfl _ _ _ _ _ _ _ _ _
     show WL _ _ _ _ _ _ _
     refine ar ((16 + ((m : Nat) : Int)) - 15) wN ?_
     exact f2
    ·intro w4 k44
     have m45 := m32.extk k44
     rintro _ rfl _ rfl _ rfl _ _ _ _ _ _ _ _
     show WL _ _ _ _ _ _ _
     have o46 := (own_kp o35 k44)
     refine wl_index (v := (vs a8 (List.replicate 64 (0 : Int)).length c9)) wN ((16 + ((m : Nat) : Int)) - 15) rfl rfl rfl slTy_32 rfl rfl (Rd.of_own o46) (by first | omega | (simp only [List.length_cons, List.length_nil, List.length_replicate, List.length_append, List.length_take, List.length_set, List.length_map]; omega)) (by first | omega | (simp only [List.length_cons, List.length_nil, List.length_replicate, List.length_append, List.length_take, List.length_set, List.length_map]; omega)) ?_
     exact f2
    ·intro w4 k47
     have m48 := m32.extk k47
     rintro _ rfl _ rfl _ rfl _ rfl _ _ _ _ _ _ _
     show WL _ _ _ _ _ _ _
     have o50 := (own_kp o35 k47)
     refine wl_loadE (iV z15) wN rfl rfl rfl rfl isAgg_3 (Rd.of_own o50) (by rw [← hz15]; exact iget (by simp) (by first | omega | (simp only [List.length_cons, List.length_nil, List.length_replicate, List.length_append, List.length_take, List.length_set, List.length_map]; omega))) ?_
     exact f2
    ·intro w4 k51
     have m52 := m32.extk k51
     rintro _ _ _ _ _ _ _ _ _ _ _
     show WL _ _ _ _ _ _ _
     refine mw (vs a8 (List.replicate 64 (0 : Int)).length c9) ?_
     exact f2
    ·intro w4 k53
     have m54 := m32.extk k53
     rintro _ _ _ _ _ _ _ _ _ _ _
     show WL _ _ _ _ _ _ _
     refine mw (vi (16 + ((m : Nat) : Int))) ?_
     exact f2
    ·intro w4 k55
     have m56 := m32.extk k55
     rintro _ _ _ _ _ _ _ rfl _ _ _ _
     show WL _ _ _ _ _ _ _
     refine ar ((16 + ((m : Nat) : Int)) - 2) wN ?_
     exact f2
    ·intro w4 k57
     have m58 := m32.extk k57
     rintro _ _ _ _ _ _ rfl _ rfl _ rfl _ _ _
     show WL _ _ _ _ _ _ _
     have o59 := (own_kp o35 k57)
     refine wl_index (v := (vs a8 (List.replicate 64 (0 : Int)).length c9)) wN ((16 + ((m : Nat) : Int)) - 2) rfl rfl rfl slTy_32 rfl rfl (Rd.of_own o59) (by first | omega | (simp only [List.length_cons, List.length_nil, List.length_replicate, List.length_append, List.length_take, List.length_set, List.length_map]; omega)) (by first | omega | (simp only [List.length_cons, List.length_nil, List.length_replicate, List.length_append, List.length_take, List.length_set, List.length_map]; omega)) ?_
     exact f2
    ·intro w4 k60
     have m61 := m32.extk k60
     rintro _ _ _ _ _ _ rfl _ rfl _ rfl _ rfl _ _
     show WL _ _ _ _ _ _ _
     have o63 := (own_kp o35 k60)
     refine wl_loadE (iV z2) wN rfl rfl rfl rfl isAgg_3 (Rd.of_own o63) (by rw [← hz2]; exact iget (by simp) (by first | omega | (simp only [List.length_cons, List.length_nil, List.length_replicate, List.length_append, List.length_take, List.length_set, List.length_map]; omega))) ?_
     exact f2
    ·intro w4 k64
     have m65 := m32.extk k64
     rintro _ rfl _ rfl _ rfl _ rfl _ rfl _ _ _ _ _ _
     show WL _ _ _ _ _ _ _
     refine aw (vi z15) ?_
     exact f2
   ·intro w4 k68
    have m69 := m32.extk k68
    rintro _ rfl _ rfl _ rfl _ rfl _ rfl _ rfl _ rfl _ rfl _ rfl _ rfl _ rfl
    show WL _ _ _ _ _ _ _
    refine aw (vi z2) ?_
    refine nx ?_
    refine mw (vi z15) ?_
    refine cl wN (C_impl_Rot w4 z15 7 (by omega) (by omega)) ?_
    rintro _ w5 ⟨k74, rfl⟩
    have m75 := m69.extk k74
    have q76 := rot_b z15 7
    refine mw (vi z15) ?_
    refine cl wN (C_impl_Rot w5 z15 18 (by omega) (by omega)) ?_
    rintro _ w6 ⟨k77, rfl⟩
    have m78 := m75.extk k77
    have q79 := rot_b z15 18
    refine wl_xor (rot z15 7) (rot z15 18) wN rfl rfl (by kernel_rfl) (by omega) (by omega) (by omega) (by omega) ?_
    have q80 := xorI_b (a := (rot z15 7)) (b := (rot z15 18)) (by omega) (by omega)
    refine mw (vi z15) ?_
    refine wl_shrU z15 (3 : Int) wN rfl rfl rfl rfl rfl (by omega) (by omega) ?_
    have q81 := shr_b (a := z15) (by omega) ((3 : Int)).toNat
    refine wl_xor (xorI (rot z15 7) (rot z15 18)) (z15 / (2 : Int) ^ ((3 : Int)).toNat) wN rfl rfl (by kernel_rfl) (by omega) (by omega) (by omega) (by omega) ?_
    have q82 := xorI_b (a := (xorI (rot z15 7) (rot z15 18))) (b := (z15 / (2 : Int) ^ ((3 : Int)).toNat)) (by omega) (by omega)
    refine aw (vi (xorI (xorI (rot z15 7) (rot z15 18)) (z15 / (2 : Int) ^ ((3 : Int)).toNat))) ?_
    refine nx ?_
    refine mw (vi z2) ?_
    refine cl wN (C_impl_Rot w6 z2 17 (by omega) (by omega)) ?_
    rintro _ w7 ⟨k83, rfl⟩
    have m84 := m78.extk k83
    have q85 := rot_b z2 17
    refine mw (vi z2) ?_
    refine cl wN (C_impl_Rot w7 z2 19 (by omega) (by omega)) ?_
    rintro _ w8 ⟨k86, rfl⟩
    have m87 := m84.extk k86
    have q88 := rot_b z2 19
    refine wl_xor (rot z2 17) (rot z2 19) wN rfl rfl (by kernel_rfl) (by omega) (by omega) (by omega) (by omega) ?_
    have q89 := xorI_b (a := (rot z2 17)) (b := (rot z2 19)) (by omega) (by omega)
    refine mw (vi z2) ?_
    refine wl_shrU z2 (10 : Int) wN rfl rfl rfl rfl rfl (by omega) (by omega) ?_
    have q90 := shr_b (a := z2) (by omega) ((10 : Int)).toNat
    refine wl_xor (xorI (rot z2 17) (rot z2 19)) (z2 / (2 : Int) ^ ((10 : Int)).toNat) wN rfl rfl (by kernel_rfl) (by omega) (by omega) (by omega) (by omega) ?_
    have q91 := xorI_b (a := (xorI (rot z2 17) (rot z2 19))) (b := (z2 / (2 : Int) ^ ((10 : Int)).toNat)) (by omega) (by omega)
    refine aw (vi (xorI (xorI (rot z2 17) (rot z2 19)) (z2 / (2 : Int) ^ ((10 : Int)).toNat))) ?_
    refine n2 ?_
    refine wc_draw ([(59, [], [], (fun _ v _ => v = (vs a8 (List.replicate 64 (0 : Int)).length c9))), (60, [], [], (fun _ v _ => v = (vi (16 + ((m : Nat) : Int))))), (61, [], [], (fun _ v _ => v = (vs a8 (List.replicate 64 (0 : Int)).length c9))), (62, [], [], (fun _ v _ => v = (vi (16 + ((m : Nat) : Int))))), (63, [], [3], (fun _ v _ => v = (vi ((16 + ((m : Nat) : Int)) - 7)))), (64, [], [2, 3, 4], (fun _ v _ => v = (ve (vs a8 (List.replicate 64 (0 : Int)).length c9) ((((16 + ((m : Nat) : Int)) - 7)).toNat * 1)))), (65, [], [2, 3, 4, 5], (fun _ v _ => v = (vi z7))), (66, [], [], (fun _ v _ => v = (vs a8 (List.replicate 64 (0 : Int)).length c9))), (67, [], [], (fun _ v _ => v = (vi (16 + ((m : Nat) : Int))))), (68, [], [8], (fun _ v _ => v = (vi ((16 + ((m : Nat) : Int)) - 16)))), (69, [], [7, 8, 9], (fun _ v _ => v = (ve (vs a8 (List.replicate 64 (0 : Int)).length c9) ((((16 + ((m : Nat) : Int)) - 16)).toNat * 1)))), (70, [], [7, 8, 9, 10], (fun _ v _ => v = (vi z16))), (71, [], [2, 3, 4, 5, 6, 7, 8, 9, 10, 11], (fun _ v _ => v = (vi (z7 + z16)))), (72, [], [], (fun _ v _ => v = (vi (xorI (xorI (rot z15 7) (rot z15 18)) (z15 / (2 : Int) ^ ((3 : Int)).toNat))))), (73, [], [2, 3, 4, 5, 6, 7, 8, 9, 10, 11, 12, 13], (fun _ v _ => v = (vi ((z7 + z16) + (xorI (xorI (rot z15 7) (rot z15 18)) (z15 / (2 : Int) ^ ((3 : Int)).toNat)))))), (74, [], [], (fun _ v _ => v = (vi (xorI (xorI (rot z2 17) (rot z2 19)) (z2 / (2 : Int) ^ ((10 : Int)).toNat))))), (75, [], [2, 3, 4, 5, 6, 7, 8, 9, 10, 11, 12, 13, 14, 15], (fun _ v _ => v = (vi (((z7 + z16) + (xorI (xorI (rot z15 7) (rot z15 18)) (z15 / (2 : Int) ^ ((3 : Int)).toNat))) + (xorI (xorI (rot z2 17) (rot z2 19)) (z2 / (2 : Int) ^ ((10 : Int)).toNat)))))), (76, [], [2, 3, 4, 5, 6, 7, 8, 9, 10, 11, 12, 13, 14, 15, 16], (fun _ v _ => v = (vi ((((z7 + z16) + (xorI (xorI (rot z15 7) (rot z15 18)) (z15 / (2 : Int) ^ ((3 : Int)).toNat))) + (xorI (xorI (rot z2 17) (rot z2 19)) (z2 / (2 : Int) ^ ((10 : Int)).toNat))) % 4294967296))))] : GV) mixed rfl (by kernel_rfl) (by kernel_rfl) ?_ ?_ ?_
    ·exact ⟨(fun _ _ _ _ h _ => h), (fun _ _ _ _ _ h => h), ⟨(fun _ _ _ _ h _ => h), (fun _ _ _ _ _ h => h), ⟨(fun _ _ _ _ h _ => h), (fun _ _ _ _ _ h => h), ⟨(fun _ _ _ _ h _ => h), (fun _ _ _ _ _ h => h), ⟨(fun _ _ _ _ h _ => h), (fun _ _ _ _ _ h => h), ⟨(fun _ _ _ _ h _ => h), (fun _ _ _ _ _ h => h), ⟨(fun _ _ _ _ h _ => h), (fun _ _ _ _ _ h => h), ⟨(fun _ _ _ _ h _ => h), (fun _ _ _ _ _ h => h), ⟨(fun _ _ _ _ h _ => h), (fun _ _ _ _ _ h => h), ⟨(fun _ _ _ _ h _ => h), (fun _ _ _ _ _ h => h), ⟨(fun _ _ _ _ h _ => h), (fun _ _ _ _ _ h => h), ⟨(fun _ _ _ _ h _ => h), (fun _ _ _ _ _ h => h), ⟨(fun _ _ _ _ h _ => h), (fun _ _ _ _ _ h => h), ⟨(fun _ _ _ _ h _ => h), (fun _ _ _ _ _ h => h), ⟨(fun _ _ _ _ h _ => h), (fun _ _ _ _ _ h => h), ⟨(fun _ _ _ _ h _ => h), (fun _ _ _ _ _ h => h), ⟨(fun _ _ _ _ h _ => h), (fun _ _ _ _ _ h => h), ⟨(fun _ _ _ _ h _ => h), (fun _ _ _ _ _ h => h), trivial⟩⟩⟩⟩⟩⟩⟩⟩⟩⟩⟩⟩⟩⟩⟩⟩⟩⟩
    ·refine ⟨?_, ⟨?_, ⟨?_, ⟨?_, ⟨?_, ⟨?_, ⟨?_, ⟨?_, ⟨?_, ⟨?_, ⟨?_, ⟨?_, ⟨?_, ⟨?_, ⟨?_, ⟨?_, ⟨?_, ⟨?_, trivial⟩⟩⟩⟩⟩⟩⟩⟩⟩⟩⟩⟩⟩⟩⟩⟩⟩⟩
     ·intro w9 k97
      have m98 := m87.extk k97
      rintro _ _ _ _ _ _ _ _ _ _ _ _ _ _ _ _ _ _
      show WL _ _ _ _ _ _ _
      refine mw (vs a8 (List.replicate 64 (0 : Int)).length c9) ?_
      exact f2
     ·intro w9 k99
      have m100 := m87.extk k99
      rintro _ _ _ _ _ _ _ _ _ _ _ _ _ _ _ _ _ _
      show WL _ _ _ _ _ _ _
      refine mw (vi (16 + ((m : Nat) : Int))) ?_
      exact f2
     ·intro w9 k101
      have m102 := m87.extk k101
      rintro _ _ _ _ _ _ _ _ _ _ _ _ _ _ _ _ _ _
      show WL _ _ _ _ _ _ _
      refine mw (vs a8 (List.replicate 64 (0 : Int)).length c9) ?_
      exact f2
     ·intro w9 k103
      have m104 := m87.extk k103
      rintro _ _ _ _ _ _ _ _ _ _ _ _ _ _ _ _ _ _
      show WL _ _ _ _ _ _ _
      refine mw (vi (16 + ((m : Nat) : Int))) ?_
      exact f2
     ·intro w9 k105
      have m106 := m87.extk k105
      rintro _ _ _ _ rfl _ _ _ _ _ _ _ _ _ _ _ _ _ _
      show WL _ _ _ _ _ _ _
      refine ar ((16 + ((m : Nat) : Int)) - 7) wN ?_
      exact f2
     ·intro w9 k107
      have m108 := m87.extk k107
      rintro _ _ _ rfl _ rfl _ rfl _ _ _ _ _ _ _ _ _ _ _ _ _
      show WL _ _ _ _ _ _ _
      have o109 := (own_kp (own_kp (own_kp (own_kp (own_kp (own_kp o35 k68) k74) k77) k83) k86) k107)
      refine wl_index (v := (vs a8 (List.replicate 64 (0 : Int)).length c9)) wN ((16 + ((m : Nat) : Int)) - 7) rfl rfl rfl slTy_32 rfl rfl (Rd.of_own o109) (by first | omega | (simp only [List.length_cons, List.length_nil, List.length_replicate, List.length_append, List.length_take, List.length_set, List.length_map]; omega)) (by first | omega | (simp only [List.length_cons, List.length_nil, List.length_replicate, List.length_append, List.length_take, List.length_set, List.length_map]; omega)) ?_
      exact f2
     ·intro w9 k110
      have m111 := m87.extk k110
      rintro _ _ _ rfl _ rfl _ rfl _ rfl _ _ _ _ _ _ _ _ _ _ _ _
      show WL _ _ _ _ _ _ _
      have o113 := (own_kp (own_kp (own_kp (own_kp (own_kp (own_kp o35 k68) k74) k77) k83) k86) k110)
      refine wl_loadE (iV z7) wN rfl rfl rfl rfl isAgg_3 (Rd.of_own o113) (by rw [← hz7]; exact iget (by simp) (by first | omega | (simp only [List.length_cons, List.length_nil, List.length_replicate, List.length_append, List.length_take, List.length_set, List.length_map]; omega))) ?_
      exact f2
     ·intro w9 k114
      have m115 := m87.extk k114
      rintro _ _ _ _ _ _ _ _ _ _ _ _ _ _ _ _ _ _
      show WL _ _ _ _ _ _ _
      refine mw (vs a8 (List.replicate 64 (0 : Int)).length c9) ?_
      exact f2
     ·intro w9 k116
      have m117 := m87.extk k116
      rintro _ _ _ _ _ _ _ _ _ _ _ _ _ _ _ _ _ _
      show WL _ _ _ _ _ _ _
      refine mw (vi (16 + ((m : Nat) : Int))) ?_
      exact f2
     ·intro w9 k118
      have m119 := m87.extk k118
      rintro _ _ _ _ _ _ _ _ _ rfl _ _ _ _ _ _ _ _ _
      show WL _ _ _ _ _ _ _
      refine ar ((16 + ((m : Nat) : Int)) - 16) wN ?_
      exact f2
     ·intro w9 k120
      have m121 := m87.extk k120
      rintro _ _ _ _ _ _ _ _ rfl _ rfl _ rfl _ _ _ _ _ _ _ _
      show WL _ _ _ _ _ _ _
      have o122 := (own_kp (own_kp (own_kp (own_kp (own_kp (own_kp o35 k68) k74) k77) k83) k86) k120)
      refine wl_index (v := (vs a8 (List.replicate 64 (0 : Int)).length c9)) wN ((16 + ((m : Nat) : Int)) - 16) rfl rfl rfl slTy_32 rfl rfl (Rd.of_own o122) (by first | omega | (simp only [List.length_cons, List.length_nil, List.length_replicate, List.length_append, List.length_take, List.length_set, List.length_map]; omega)) (by first | omega | (simp only [List.length_cons, List.length_nil, List.length_replicate, List.length_append, List.length_take, List.length_set, List.length_map]; omega)) ?_
      exact f2
     ·intro w9 k123
      have m124 := m87.extk k123
      rintro _ _ _ _ _ _ _ _ rfl _ rfl _ rfl _ rfl _ _ _ _ _ _ _
      show WL _ _ _ _ _ _ _
      have o126 := (own_kp (own_kp (own_kp (own_kp (own_kp (own_kp o35 k68) k74) k77) k83) k86) k123)
      refine wl_loadE (iV z16) wN rfl rfl rfl rfl isAgg_3 (Rd.of_own o126) (by rw [← hz16]; exact iget (by simp) (by first | omega | (simp only [List.length_cons, List.length_nil, List.length_replicate, List.length_append, List.length_take, List.length_set, List.length_map]; omega))) ?_
      exact f2
     ·intro w9 k127
      have m128 := m87.extk k127
      rintro _ _ _ rfl _ rfl _ rfl _ rfl _ rfl _ rfl _ rfl _ rfl _ rfl _ rfl _ _ _ _ _ _
      show WL _ _ _ _ _ _ _
      refine ar (z7 + z16) wN ?_
      exact f2
     ·intro w9 k133
      have m134 := m87.extk k133
      rintro _ _ _ _ _ _ _ _ _ _ _ _ _ _ _ _ _ _
      show WL _ _ _ _ _ _ _
      refine mw (vi (xorI (xorI (rot z15 7) (rot z15 18)) (z15 / (2 : Int) ^ ((3 : Int)).toNat))) ?_
      exact f2
     ·intro w9 k135
      have m136 := m87.extk k135
      rintro _ _ _ rfl _ rfl _ rfl _ rfl _ rfl _ rfl _ rfl _ rfl _ rfl _ rfl _ rfl _ rfl _ _ _ _
      show WL _ _ _ _ _ _ _
      refine ar ((z7 + z16) + (xorI (xorI (rot z15 7) (rot z15 18)) (z15 / (2 : Int) ^ ((3 : Int)).toNat))) wN ?_
      exact f2
     ·intro w9 k141
      have m142 := m87.extk k141
      rintro _ _ _ _ _ _ _ _ _ _ _ _ _ _ _ _ _ _
      show WL _ _ _ _ _ _ _
      refine mw (vi (xorI (xorI (rot z2 17) (rot z2 19)) (z2 / (2 : Int) ^ ((10 : Int)).toNat))) ?_
      exact f2
     ·intro w9 k143
      have m144 := m87.extk k143
      rintro _ _ _ rfl _ rfl _ rfl _ rfl _ rfl _ rfl _ rfl _ rfl _ rfl _ rfl _ rfl _ rfl _ rfl _ rfl _ _
      show WL _ _ _ _ _ _ _
      refine ar (((z7 + z16) + (xorI (xorI (rot z15 7) (rot z15 18)) (z15 / (2 : Int) ^ ((3 : Int)).toNat))) + (xorI (xorI (rot z2 17) (rot z2 19)) (z2 / (2 : Int) ^ ((10 : Int)).toNat))) wN ?_
      exact f2
     ·intro w9 k149
      have m150 := m87.extk k149
      rintro _ _ _ rfl _ rfl _ rfl _ rfl _ rfl _ rfl _ rfl _ rfl _ rfl _ rfl _ rfl _ rfl _ rfl _ rfl _ rfl _
      show WL _ _ _ _ _ _ _
      refine wl_and (((z7 + z16) + (xorI (xorI (rot z15 7) (rot z15 18)) (z15 / (2 : Int) ^ ((3 : Int)).toNat))) + (xorI (xorI (rot z2 17) (rot z2 19)) (z2 / (2 : Int) ^ ((10 : Int)).toNat))) 4294967295 4294967296 32 wN rfl rfl (by decide) (by decide) (by decide) (by kernel_rfl) ?_
      exact f2
    ·intro w9 k155
     have m156 := m87.extk k155
     rintro _ rfl _ rfl _ rfl _ rfl _ rfl _ rfl _ rfl _ rfl _ rfl _ rfl _ rfl _ rfl _ rfl _ rfl _ rfl _ rfl _ rfl _ rfl
     show WL _ _ _ _ _ _ _
     have o161 := (own_kp (own_kp (own_kp (own_kp (own_kp (own_kp o35 k68) k74) k77) k83) k86) k155)
     refine wl_index (v := (vs a8 (List.replicate 64 (0 : Int)).length c9)) wN (16 + ((m : Nat) : Int)) rfl rfl rfl slTy_32 rfl rfl (Rd.of_own o161) (by first | omega | (simp only [List.length_cons, List.length_nil, List.length_replicate, List.length_append, List.length_take, List.length_set, List.length_map]; omega)) (by first | omega | (simp only [List.length_cons, List.length_nil, List.length_replicate, List.length_append, List.length_take, List.length_set, List.length_map]; omega)) ?_
     refine wl_storeI (schedN x_block m ++ List.replicate (48 - m) (0 : Int)) (((16 + ((m : Nat) : Int))).toNat) (((((z7 + z16) + (xorI (xorI (rot z15 7) (rot z15 18)) (z15 / (2 : Int) ^ ((3 : Int)).toNat))) + (xorI (xorI (rot z2 17) (rot z2 19)) (z2 / (2 : Int) ^ ((10 : Int)).toNat))) % 4294967296)) wN rfl rfl rfl (by simp) rfl sizeOf_3 o161 (by first | omega | (simp only [List.length_append, List.length_replicate, List.length_take, List.length_set, List.length_map]; omega)) ?_
     intro w10 k162 o163
     have m164 := m156.ext k162 (fun k hk => Nat.le_trans (Nat.le_refl w0.heap.size) (own_lt o11 k hk).1)
     refine wl_nil <| wq_blk_normal <| wq_then <| wc_region ?_
     refine mw (vi (16 + ((m : Nat) : Int))) ?_
     refine ar ((16 + ((m : Nat) : Int)) + 1) wN ?_
     refine aw (vi ((16 + ((m : Nat) : Int)) + 1)) ?_
     refine wl_nil ?_
     have hE165 : (((schedN x_block m ++ List.replicate (48 - m) (0 : Int)).set (((16 + ((m : Nat) : Int))).toNat) ((((z7 + z16) + (xorI (xorI (rot z15 7) (rot z15 18)) (z15 / (2 : Int) ^ ((3 : Int)).toNat))) + (xorI (xorI (rot z2 17) (rot z2 19)) (z2 / (2 : Int) ^ ((10 : Int)).toNat))) % 4294967296)) : List Int) = schedN x_block (m + 1) ++ List.replicate (48 - (m + 1)) (0 : Int) := by subst hz7 hz16 hz15 hz2; exact schedN_next (by omega)
     refine wq_loopQ (w0 := w3) (fun e => [e 0, e 1, (vs none 0 0), (vs a8 (List.replicate 64 (0 : Int)).length c9), e 4, (vi (16 + (((m + 1) : Nat) : Int))), e 6, e 7, e 8, e 9, e 10, e 11, e 12, e 13, e 14, e 15, e 16, e 17, e 18, e 19, e 20, e 21, e 22, e 23, e 24, e 25, e 26, e 27, e 28, e 29, e 30, e 31, e 32, e 33, e 34, e 35, e 36, e 37, e 38, e 39, e 40, e 41, e 42, e 43, e 44, e 45, e 46, e 47, e 48, e 49, e 50, e 51, e 52, e 53, e 54, e 55, e 56, e 57, e 58, e 59, e 60, e 61, e 62, e 63, e 64, e 65, e 66, e 67, e 68, e 69, e 70, e 71, e 72, e 73, e 74, e 75, e 76, e 77, U]) rfl ?_ ?_ ?_
     · exact ⟨rfl, rfl, rfl, rfl, rfl, (congrArg (Value.int .i64) (show (((16 + ((m : Nat) : Int)) + 1) : Int) = (16 + (((m + 1) : Nat) : Int)) by omega)), rfl, rfl, rfl, rfl, rfl, rfl, rfl, rfl, rfl, rfl, rfl, rfl, rfl, rfl, rfl, rfl, rfl, rfl, rfl, rfl, rfl, rfl, rfl, rfl, rfl, rfl, rfl, rfl, rfl, rfl, rfl, rfl, rfl, rfl, rfl, rfl, rfl, rfl, rfl, rfl, rfl, rfl, rfl, rfl, rfl, rfl, rfl, rfl, rfl, rfl, rfl, rfl, rfl, rfl, rfl, rfl, rfl, rfl, rfl, rfl, rfl, rfl, rfl, rfl, rfl, rfl, rfl, rfl, rfl, rfl, rfl, rfl, rfl, trivial⟩
     · exact fun u => ⟨(m + 1), (unL [u 0, u 1, u 4, u 6, u 7, u 8, u 9, u 10, u 11, u 12, u 13, u 14, u 15, u 16, u 17, u 18, u 19, u 20, u 21, u 22, u 23, u 24, u 25, u 26, u 27, u 28, u 29, u 30, u 31, u 32, u 33, u 34, u 35, u 36, u 37, u 38, u 39, u 40, u 41, u 42, u 43, u 44, u 45, u 46, u 47, u 48, u 49, u 50, u 51, u 52, u 53, u 54, u 55, u 56, u 57, u 58, u 59, u 60, u 61, u 62, u 63, u 64, u 65, u 66, u 67, u 68, u 69, u 70, u 71, u 72, u 73, u 74, u 75, u 76, u 77]), rfl, m164, (((((((((Ch.refl (fun k => w0.heap.size ≤ k) w2).ext k33 (fun k hk => hk)).extk k68).extk k74).extk k77).extk k83).extk k86).extk k155).ext k162 (fun k hk => Nat.le_trans (Nat.le_refl w0.heap.size) (own_lt o11 k hk).1)), (by omega), (by rw [← hE165]; exact o163)⟩
     · show (64 - (16 + (((m + 1) : Nat) : Int))).toNat < (64 - (16 + ((m : Nat) : Int))).toNat; omega

theorem zero_146 : ∀ w, (zeroValue 146).run Try.prog w = .ok (va [(vi 0), (vi 0), (vi 0), (vi 0), (vi 0), (vi 0), (vi 0), (vi 0), (vi 0), (vi 0), (vi 0), (vi 0), (vi 0), (vi 0), (vi 0), (vi 0), (vi 0), (vi 0), (vi 0), (vi 0), (vi 0), (vi 0), (vi 0), (vi 0), (vi 0), (vi 0), (vi 0), (vi 0), (vi 0), (vi 0), (vi 0), (vi 0), (vi 0), (vi 0), (vi 0), (vi 0), (vi 0), (vi 0), (vi 0), (vi 0), (vi 0), (vi 0), (vi 0), (vi 0), (vi 0), (vi 0), (vi 0), (vi 0), (vi 0), (vi 0), (vi 0), (vi 0), (vi 0), (vi 0), (vi 0), (vi 0), (vi 0), (vi 0), (vi 0), (vi 0), (vi 0), (vi 0), (vi 0), (vi 0)]) w := fun w => by kernel_rfl
theorem sizeOf_146 : ∀ w, (sizeOf 146).run Try.prog w = .ok 64 w := fun w => by kernel_rfl
theorem C_impl_RoundWord (w0 : World) (x_i : Int)  : Fn Try.prog 175 #[(vi x_i)] w0 (fun v w' => Keep w0 w' ∧ O_3 w' w0.heap.size v (rw64 x_i)) := by
 refine fn_of (n := 14) (l := [(vi x_i), U, U, U, U, U, U, U, U, U, U, U, U, U]) Try.func175 rfl rfl (by kernel_rfl) rfl ?_
 refine sr ?_
 refine aw (vi 0) ?_
 refine n4 ?_
 refine mw (vi x_i) ?_
 refine pu (vb (decide (x_i < 0))) wN ?_
 refine mw (vb (decide (x_i < 0))) ?_
 rcases bt (decide (x_i < 0)) with h1 | h1
 ·have q2 := of_decide_eq_true h1
  refine sk h1 ?_
  refine sk h1 ?_
  refine pk (vb true) wN h1 ?_
  refine n2 ?_
  refine ct (Eq.refl true) ?_
  refine sr ?_
  refine aw (vi 0) ?_
  refine n1 ?_
  refine rt (vi 0) ?_
  refine ⟨Ch.refl _ _, ?_⟩
  have hF3 : rw64 x_i = 0 := by simp only [rw64, h1, cond_true, cond_false]; try rfl
  rw [hF3]
  exact rfl
 have q4 := of_decide_eq_false h1
 refine mv (vi x_i) (wS h1) ?_
 refine pu (vb (decide (63 < x_i))) (wS h1) ?_
 refine pf (vb (decide (63 < x_i))) wN h1 ?_
 refine n2 ?_
 rcases bt (decide (63 < x_i)) with h5 | h5
 ·have q6 := of_decide_eq_true h5
  refine ct h5 ?_
  refine sr ?_
  refine aw (vi 0) ?_
  refine n1 ?_
  refine rt (vi 0) ?_
  refine ⟨Ch.refl _ _, ?_⟩
  have hF7 : rw64 x_i = 0 := by simp only [rw64, h1, h5, cond_true, cond_false]; try rfl
  rw [hF7]
  exact rfl
 have q8 := of_decide_eq_false h5
 refine cf h5 ?_
 refine y1 ?_
 refine pu (va [(vi 1116352408), (vi 1899447441), (vi 3049323471), (vi 3921009573), (vi 961987163), (vi 1508970993), (vi 2453635748), (vi 2870763221), (vi 3624381080), (vi 310598401), (vi 607225278), (vi 1426881987), (vi 1925078388), (vi 2162078206), (vi 2614888103), (vi 3248222580), (vi 3835390401), (vi 4022224774), (vi 264347078), (vi 604807628), (vi 770255983), (vi 1249150122), (vi 1555081692), (vi 1996064986), (vi 2554220882), (vi 2821834349), (vi 2952996808), (vi 3210313671), (vi 3336571891), (vi 3584528711), (vi 113926993), (vi 338241895), (vi 666307205), (vi 773529912), (vi 1294757372), (vi 1396182291), (vi 1695183700), (vi 1986661051), (vi 2177026350), (vi 2456956037), (vi 2730485921), (vi 2820302411), (vi 3259730800), (vi 3345764771), (vi 3516065817), (vi 3600352804), (vi 4094571909), (vi 275423344), (vi 430227734), (vi 506948616), (vi 659060556), (vi 883997877), (vi 958139571), (vi 1322822218), (vi 1537002063), (vi 1747873779), (vi 1955562222), (vi 2024104815), (vi 2227730452), (vi 2361852424), (vi 2428436474), (vi 2756734187), (vi 3204031479), (vi 3329325298)]) wN ?_
 refine al [(vi 0), (vi 0), (vi 0), (vi 0), (vi 0), (vi 0), (vi 0), (vi 0), (vi 0), (vi 0), (vi 0), (vi 0), (vi 0), (vi 0), (vi 0), (vi 0), (vi 0), (vi 0), (vi 0), (vi 0), (vi 0), (vi 0), (vi 0), (vi 0), (vi 0), (vi 0), (vi 0), (vi 0), (vi 0), (vi 0), (vi 0), (vi 0), (vi 0), (vi 0), (vi 0), (vi 0), (vi 0), (vi 0), (vi 0), (vi 0), (vi 0), (vi 0), (vi 0), (vi 0), (vi 0), (vi 0), (vi 0), (vi 0), (vi 0), (vi 0), (vi 0), (vi 0), (vi 0), (vi 0), (vi 0), (vi 0), (vi 0), (vi 0), (vi 0), (vi 0), (vi 0), (vi 0), (vi 0), (vi 0)] wN zero_146 ?_
 intro g9 w1 p10 p11 k12 b13
 have m14 := (Ch.base w0).extk k12
 refine st (va [(vi 1116352408), (vi 1899447441), (vi 3049323471), (vi 3921009573), (vi 961987163), (vi 1508970993), (vi 2453635748), (vi 2870763221), (vi 3624381080), (vi 310598401), (vi 607225278), (vi 1426881987), (vi 1925078388), (vi 2162078206), (vi 2614888103), (vi 3248222580), (vi 3835390401), (vi 4022224774), (vi 264347078), (vi 604807628), (vi 770255983), (vi 1249150122), (vi 1555081692), (vi 1996064986), (vi 2554220882), (vi 2821834349), (vi 2952996808), (vi 3210313671), (vi 3336571891), (vi 3584528711), (vi 113926993), (vi 338241895), (vi 666307205), (vi 773529912), (vi 1294757372), (vi 1396182291), (vi 1695183700), (vi 1986661051), (vi 2177026350), (vi 2456956037), (vi 2730485921), (vi 2820302411), (vi 3259730800), (vi 3345764771), (vi 3516065817), (vi 3600352804), (vi 4094571909), (vi 275423344), (vi 430227734), (vi 506948616), (vi 659060556), (vi 883997877), (vi 958139571), (vi 1322822218), (vi 1537002063), (vi 1747873779), (vi 1955562222), (vi 2024104815), (vi 2227730452), (vi 2361852424), (vi 2428436474), (vi 2756734187), (vi 3204031479), (vi 3329325298)]) [(vi 1116352408), (vi 1899447441), (vi 3049323471), (vi 3921009573), (vi 961987163), (vi 1508970993), (vi 2453635748), (vi 2870763221), (vi 3624381080), (vi 310598401), (vi 607225278), (vi 1426881987), (vi 1925078388), (vi 2162078206), (vi 2614888103), (vi 3248222580), (vi 3835390401), (vi 4022224774), (vi 264347078), (vi 604807628), (vi 770255983), (vi 1249150122), (vi 1555081692), (vi 1996064986), (vi 2554220882), (vi 2821834349), (vi 2952996808), (vi 3210313671), (vi 3336571891), (vi 3584528711), (vi 113926993), (vi 338241895), (vi 666307205), (vi 773529912), (vi 1294757372), (vi 1396182291), (vi 1695183700), (vi 1986661051), (vi 2177026350), (vi 2456956037), (vi 2730485921), (vi 2820302411), (vi 3259730800), (vi 3345764771), (vi 3516065817), (vi 3600352804), (vi 4094571909), (vi 275423344), (vi 430227734), (vi 506948616), (vi 659060556), (vi 883997877), (vi 958139571), (vi 1322822218), (vi 1537002063), (vi 1747873779), (vi 1955562222), (vi 2024104815), (vi 2227730452), (vi 2361852424), (vi 2428436474), (vi 2756734187), (vi 3204031479), (vi 3329325298)] [(vi 1116352408), (vi 1899447441), (vi 3049323471), (vi 3921009573), (vi 961987163), (vi 1508970993), (vi 2453635748), (vi 2870763221), (vi 3624381080), (vi 310598401), (vi 607225278), (vi 1426881987), (vi 1925078388), (vi 2162078206), (vi 2614888103), (vi 3248222580), (vi 3835390401), (vi 4022224774), (vi 264347078), (vi 604807628), (vi 770255983), (vi 1249150122), (vi 1555081692), (vi 1996064986), (vi 2554220882), (vi 2821834349), (vi 2952996808), (vi 3210313671), (vi 3336571891), (vi 3584528711), (vi 113926993), (vi 338241895), (vi 666307205), (vi 773529912), (vi 1294757372), (vi 1396182291), (vi 1695183700), (vi 1986661051), (vi 2177026350), (vi 2456956037), (vi 2730485921), (vi 2820302411), (vi 3259730800), (vi 3345764771), (vi 3516065817), (vi 3600352804), (vi 4094571909), (vi 275423344), (vi 430227734), (vi 506948616), (vi 659060556), (vi 883997877), (vi 958139571), (vi 1322822218), (vi 1537002063), (vi 1747873779), (vi 1955562222), (vi 2024104815), (vi 2227730452), (vi 2361852424), (vi 2428436474), (vi 2756734187), (vi 3204031479), (vi 3329325298)] wN sizeOf_146 b13 ?_
 intro w2 k15 b16 z17
 have m18 := m14.ext k15 (fun k hk => by subst hk; exact p10)
 refine nx ?_
 refine mw (vi x_i) ?_
 refine wl_indexA x_i wN rfl rfl rfl Try.underlying146 sizeOf_3 rfl rfl (by omega) (by omega) ?_
 refine ld (iV (([1116352408, 1899447441, 3049323471, 3921009573, 961987163, 1508970993, 2453635748, 2870763221, 3624381080, 310598401, 607225278, 1426881987, 1925078388, 2162078206, 2614888103, 3248222580, 3835390401, 4022224774, 264347078, 604807628, 770255983, 1249150122, 1555081692, 1996064986, 2554220882, 2821834349, 2952996808, 3210313671, 3336571891, 3584528711, 113926993, 338241895, 666307205, 773529912, 1294757372, 1396182291, 1695183700, 1986661051, 2177026350, 2456956037, 2730485921, 2820302411, 3259730800, 3345764771, 3516065817, 3600352804, 4094571909, 275423344, 430227734, 506948616, 659060556, 883997877, 958139571, 1322822218, 1537002063, 1747873779, 1955562222, 2024104815, 2227730452, 2361852424, 2428436474, 2756734187, 3204031479, 3329325298] : List Int).getD (x_i).toNat 0)) wN isAgg_3 (show Blk w2 g9 146 (([1116352408, 1899447441, 3049323471, 3921009573, 961987163, 1508970993, 2453635748, 2870763221, 3624381080, 310598401, 607225278, 1426881987, 1925078388, 2162078206, 2614888103, 3248222580, 3835390401, 4022224774, 264347078, 604807628, 770255983, 1249150122, 1555081692, 1996064986, 2554220882, 2821834349, 2952996808, 3210313671, 3336571891, 3584528711, 113926993, 338241895, 666307205, 773529912, 1294757372, 1396182291, 1695183700, 1986661051, 2177026350, 2456956037, 2730485921, 2820302411, 3259730800, 3345764771, 3516065817, 3600352804, 4094571909, 275423344, 430227734, 506948616, 659060556, 883997877, 958139571, 1322822218, 1537002063, 1747873779, 1955562222, 2024104815, 2227730452, 2361852424, 2428436474, 2756734187, 3204031479, 3329325298] : List Int).map iV) from b16) ?_ rfl rfl rfl rfl (iget rfl (by show (x_i).toNat < 64; omega))
 refine aw (vi (([1116352408, 1899447441, 3049323471, 3921009573, 961987163, 1508970993, 2453635748, 2870763221, 3624381080, 310598401, 607225278, 1426881987, 1925078388, 2162078206, 2614888103, 3248222580, 3835390401, 4022224774, 264347078, 604807628, 770255983, 1249150122, 1555081692, 1996064986, 2554220882, 2821834349, 2952996808, 3210313671, 3336571891, 3584528711, 113926993, 338241895, 666307205, 773529912, 1294757372, 1396182291, 1695183700, 1986661051, 2177026350, 2456956037, 2730485921, 2820302411, 3259730800, 3345764771, 3516065817, 3600352804, 4094571909, 275423344, 430227734, 506948616, 659060556, 883997877, 958139571, 1322822218, 1537002063, 1747873779, 1955562222, 2024104815, 2227730452, 2361852424, 2428436474, 2756734187, 3204031479, 3329325298] : List Int).getD (x_i).toNat 0)) ?_
 refine n3 ?_
 refine rt (vi (([1116352408, 1899447441, 3049323471, 3921009573, 961987163, 1508970993, 2453635748, 2870763221, 3624381080, 310598401, 607225278, 1426881987, 1925078388, 2162078206, 2614888103, 3248222580, 3835390401, 4022224774, 264347078, 604807628, 770255983, 1249150122, 1555081692, 1996064986, 2554220882, 2821834349, 2952996808, 3210313671, 3336571891, 3584528711, 113926993, 338241895, 666307205, 773529912, 1294757372, 1396182291, 1695183700, 1986661051, 2177026350, 2456956037, 2730485921, 2820302411, 3259730800, 3345764771, 3516065817, 3600352804, 4094571909, 275423344, 430227734, 506948616, 659060556, 883997877, 958139571, 1322822218, 1537002063, 1747873779, 1955562222, 2024104815, 2227730452, 2361852424, 2428436474, 2756734187, 3204031479, 3329325298] : List Int).getD (x_i).toNat 0)) ?_
 refine ⟨m18.keep0, ?_⟩
 have hF19 : rw64 x_i = (([1116352408, 1899447441, 3049323471, 3921009573, 961987163, 1508970993, 2453635748, 2870763221, 3624381080, 310598401, 607225278, 1426881987, 1925078388, 2162078206, 2614888103, 3248222580, 3835390401, 4022224774, 264347078, 604807628, 770255983, 1249150122, 1555081692, 1996064986, 2554220882, 2821834349, 2952996808, 3210313671, 3336571891, 3584528711, 113926993, 338241895, 666307205, 773529912, 1294757372, 1396182291, 1695183700, 1986661051, 2177026350, 2456956037, 2730485921, 2820302411, 3259730800, 3345764771, 3516065817, 3600352804, 4094571909, 275423344, 430227734, 506948616, 659060556, 883997877, 958139571, 1322822218, 1537002063, 1747873779, 1955562222, 2024104815, 2227730452, 2361852424, 2428436474, 2756734187, 3204031479, 3329325298] : List Int).getD (x_i).toNat 0) := by simp only [rw64, h1, h5, cond_true, cond_false]; try rfl
 rw [hF19]
 exact rfl

def F_impl_Add32 (x_a : Int) (x_b : Int) : (Int) := ((x_a + x_b) % 4294967296)
theorem C_impl_Add32 (w0 : World) (x_a : Int) (x_b : Int) (pre0 : 0 ≤ x_a) (pre1 : x_a ≤ 1099511627776) (pre2 : 0 ≤ x_b) (pre3 : x_b ≤ 1099511627776) : Fn Try.prog 176 #[(vi x_a), (vi x_b)] w0 (fun v w' => Keep w0 w' ∧ O_3 w' w0.heap.size v (F_impl_Add32 x_a x_b)) := by
 refine fn_of (n := 9) (l := [(vi x_a), (vi x_b), U, U, U, U, U, U, U]) Try.func176 rfl rfl (by kernel_rfl) rfl ?_
 refine sr ?_
 refine aw (vi 0) ?_
 refine nx ?_
 refine mw (vi x_a) ?_
 refine mw (vi x_b) ?_
 refine ar (x_a + x_b) wN ?_
 refine wl_and (x_a + x_b) 4294967295 4294967296 32 wN rfl rfl (by decide) (by decide) (by decide) (by kernel_rfl) ?_
 refine aw (vi ((x_a + x_b) % 4294967296)) ?_
 refine n3 ?_
 refine rt (vi ((x_a + x_b) % 4294967296)) ?_
 refine ⟨Ch.refl _ _, ?_⟩
 have hF1 : F_impl_Add32 x_a x_b = ((x_a + x_b) % 4294967296) := by rfl
 rw [hF1]
 exact rfl

theorem C_impl_Compress (w0 : World) (v_x_h : Value) (x_h : List Int) (r_x_h : R_32 w0 v_x_h x_h) (v_x_block : Value) (x_block : List UInt8) (r_x_block : R_22 w0 v_x_block x_block)  : Fn Try.prog 171 #[v_x_h, v_x_block] w0 (fun v w' => Keep w0 w' ∧ O_32 w' w0.heap.size v (compress x_h x_block)) := by
 obtain ⟨a1, c2, rfl, r3, s4⟩ := r_x_h
 obtain ⟨a6, c7, rfl, r8, s9⟩ := r_x_block
 refine fn_of (n := 151) (l := [(vs a1 x_h.length c2), (vs a6 x_block.length c7), U, U, U, U, U, U, U, U, U, U, U, U, U, U, U, U, U, U, U, U, U, U, U, U, U, U, U, U, U, U, U, U, U, U, U, U, U, U, U, U, U, U, U, U, U, U, U, U, U, U, U, U, U, U, U, U, U, U, U, U, U, U, U, U, U, U, U, U, U, U, U, U, U, U, U, U, U, U, U, U, U, U, U, U, U, U, U, U, U, U, U, U, U, U, U, U, U, U, U, U, U, U, U, U, U, U, U, U, U, U, U, U, U, U, U, U, U, U, U, U, U, U, U, U, U, U, U, U, U, U, U, U, U, U, U, U, U, U, U, U, U, U, U, U, U, U, U, U, U]) Try.func171 rfl rfl (by kernel_rfl) rfl ?_
 refine sr ?_
 refine aw (vs none 0 0) ?_
 refine nx ?_
 refine wl_lit0 wN rfl rfl slTy_32 (fun w => by kernel_rfl) ?_
 intro a11 w1 k12 o13
 have m14 := (Ch.base w0).extk k12
 refine mw (vs a1 x_h.length c2) ?_
 refine wl_append0 wN rfl rfl rfl slTy_32 rfl rfl o13 (r3.from0 m14) (all_iV _) (by first | (simp only [List.length_append, List.length_cons, List.length_nil, List.length_replicate, List.length_take, List.length_drop]; omega) | omega) (by simp only [maxLen]; first | (simp only [List.length_append, List.length_cons, List.length_nil, List.length_replicate, List.length_take, List.length_drop]; omega) | omega) k12.size ?_
 intro u16 w2 k17 o18 j19
 obtain ⟨a20, c21, rfl⟩ := own_form o18
 have n22 : New w1 a20 c21 := j19 _ _ rfl
 have m23 := m14.extk k17
 refine aw (vs a20 x_h.length c21) ?_
 refine n4 ?_
 refine mw (vs a1 x_h.length c2) ?_
 refine cl wN (C_impl_areWords w2 _ x_h (mR_32 (r3.from0 m23) s4) 8) ?_
 rintro _ w3 ⟨k25, rfl⟩
 have m26 := m23.extk k25
 refine pu (vb (!(areW x_h 8))) wN ?_
 refine mw (vb (!(areW x_h 8))) ?_
 rcases bf (areW x_h 8) with h27 | h27
 ·refine sk (congrArg not h27) ?_
  refine sk (congrArg not h27) ?_
  refine sk (congrArg not h27) ?_
  refine pk (vb true) wN (congrArg not h27) ?_
  refine n2 ?_
  refine ct (Eq.refl true) ?_
  refine sr ?_
  refine mw (vs a20 x_h.length c21) ?_
  refine aw (vs a20 x_h.length c21) ?_
  refine n1 ?_
  have o289 := (own_kp o18 k25)
  refine rt (vs a20 x_h.length c21) ?_
  refine ⟨m26.keep0, ?_⟩
  have hF290 : compress x_h x_block = x_h := by first | exact compress_f (by first | assumption | exact ‹ws8 x_h = false›) | exact compress_g (by omega) | exact compress_t (by first | assumption | exact ‹ws8 x_h = true›) (by omega) (by omega)
  rw [hF290]
  exact ⟨_, _, rfl, o289, s4, ⟨trivial, trivial⟩⟩
 have q28 := areW_t h27
 refine mv (vs a6 x_block.length c7) (wS (congrArg not h27)) ?_
 refine ln (wS (congrArg not h27)) slTy_22 (r8.from0 m26) ?_
 refine pu (vb (!(decide ((x_block.length : Int) = 64)))) (wS (congrArg not h27)) ?_
 refine pf (vb (!(decide ((x_block.length : Int) = 64)))) wN (congrArg not h27) ?_
 refine n2 ?_
 rcases bf (decide ((x_block.length : Int) = 64)) with h29 | h29
 ·have q285 := of_decide_eq_false h29
  refine ct (congrArg not h29) ?_
  refine sr ?_
  refine mw (vs a20 x_h.length c21) ?_
  refine aw (vs a20 x_h.length c21) ?_
  refine n1 ?_
  have o286 := (own_kp o18 k25)
  refine rt (vs a20 x_h.length c21) ?_
  refine ⟨m26.keep0, ?_⟩
  have hF287 : compress x_h x_block = x_h := by first | exact compress_f (by first | assumption | exact ‹ws8 x_h = false›) | exact compress_g (by omega) | exact compress_t (by first | assumption | exact ‹ws8 x_h = true›) (by omega) (by omega)
  rw [hF287]
  exact ⟨_, _, rfl, o286, s4, ⟨trivial, trivial⟩⟩
 have q30 := of_decide_eq_true h29
 refine cf (congrArg not h29) ?_
 refine y1 ?_
 refine mw (vs a6 x_block.length c7) ?_
 refine cl wN (C_impl_Schedule w3 _ x_block (mR_22 (r8.from0 m26) s9)) ?_
 rintro _ w4 ⟨k31, ⟨a32, c33, rfl, o34, s35, ap37⟩⟩
 have m38 := m26.extk k31
 have q39 := schedP_len x_block
 refine aw (vs a32 (schedP x_block).length c33) ?_
 refine wl_nil <| wq_then <| wc_seq ?_
 refine wc_draw ([(36, [], [], (fun _ v _ => v = (vs a1 x_h.length c2))), (37, [], [0], (fun _ v _ => v = (ve (vs a1 x_h.length c2) ((0 : Int).toNat * 1)))), (38, [], [0, 1], (fun _ v _ => v = (vi (x_h.getD 0 0)))), (39, [], [], (fun _ v _ => v = (vs a1 x_h.length c2))), (40, [], [3], (fun _ v _ => v = (ve (vs a1 x_h.length c2) ((1 : Int).toNat * 1)))), (41, [], [3, 4], (fun _ v _ => v = (vi (x_h.getD 1 0)))), (42, [], [], (fun _ v _ => v = (vs a1 x_h.length c2))), (43, [], [6], (fun _ v _ => v = (ve (vs a1 x_h.length c2) ((2 : Int).toNat * 1)))), (44, [], [6, 7], (fun _ v _ => v = (vi (x_h.getD 2 0)))), (45, [], [], (fun _ v _ => v = (vs a1 x_h.length c2))), (46, [], [9], (fun _ v _ => v = (ve (vs a1 x_h.length c2) ((3 : Int).toNat * 1)))), (47, [], [9, 10], (fun _ v _ => v = (vi (x_h.getD 3 0)))), (48, [], [], (fun _ v _ => v = (vs a1 x_h.length c2))), (49, [], [12], (fun _ v _ => v = (ve (vs a1 x_h.length c2) ((4 : Int).toNat * 1)))), (50, [], [12, 13], (fun _ v _ => v = (vi (x_h.getD 4 0)))), (51, [], [], (fun _ v _ => v = (vs a1 x_h.length c2))), (52, [], [15], (fun _ v _ => v = (ve (vs a1 x_h.length c2) ((5 : Int).toNat * 1)))), (53, [], [15, 16], (fun _ v _ => v = (vi (x_h.getD 5 0)))), (54, [], [], (fun _ v _ => v = (vs a1 x_h.length c2))), (55, [], [18], (fun _ v _ => v = (ve (vs a1 x_h.length c2) ((6 : Int).toNat * 1)))), (56, [], [18, 19], (fun _ v _ => v = (vi (x_h.getD 6 0)))), (57, [], [], (fun _ v _ => v = (vs a1 x_h.length c2))), (58, [], [21], (fun _ v _ => v = (ve (vs a1 x_h.length c2) ((7 : Int).toNat * 1)))), (59, [], [21, 22], (fun _ v _ => v = (vi (x_h.getD 7 0)))), (7, [], [0, 1, 2], (fun _ v _ => v = (vi (x_h.getD 0 0)))), (8, [], [0, 1, 2, 3, 4, 5, 24], (fun _ v _ => v = (vi (x_h.getD 1 0)))), (9, [], [0, 1, 2, 3, 4, 5, 6, 7, 8, 24, 25], (fun _ v _ => v = (vi (x_h.getD 2 0)))), (10, [], [0, 1, 2, 3, 4, 5, 6, 7, 8, 9, 10, 11, 24, 25, 26], (fun _ v _ => v = (vi (x_h.getD 3 0)))), (11, [], [0, 1, 2, 3, 4, 5, 6, 7, 8, 9, 10, 11, 12, 13, 14, 24, 25, 26, 27], (fun _ v _ => v = (vi (x_h.getD 4 0)))), (12, [], [0, 1, 2, 3, 4, 5, 6, 7, 8, 9, 10, 11, 12, 13, 14, 15, 16, 17, 24, 25, 26, 27, 28], (fun _ v _ => v = (vi (x_h.getD 5 0)))), (13, [], [0, 1, 2, 3, 4, 5, 6, 7, 8, 9, 10, 11, 12, 13, 14, 15, 16, 17, 18, 19, 20, 24, 25, 26, 27, 28, 29], (fun _ v _ => v = (vi (x_h.getD 6 0))))] : GV) mixed rfl (by kernel_rfl) (by kernel_rfl) ?_ ?_ ?_
 ·exact ⟨(fun _ _ _ _ h _ => h), (fun _ _ _ _ _ h => h), ⟨(fun _ _ _ _ h _ => h), (fun _ _ _ _ _ h => h), ⟨(fun _ _ _ _ h _ => h), (fun _ _ _ _ _ h => h), ⟨(fun _ _ _ _ h _ => h), (fun _ _ _ _ _ h => h), ⟨(fun _ _ _ _ h _ => h), (fun _ _ _ _ _ h => h), ⟨(fun _ _ _ _ h _ => h), (fun _ _ _ _ _ h => h), ⟨(fun _ _ _ _ h _ => h), (fun _ _ _ _ _ h => h), ⟨(fun _ _ _ _ h _ => h), (fun _ _ _ _ _ h => h), ⟨(fun _ _ _ _ h _ => h), (fun _ _ _ _ _ h => h), ⟨(fun _ _ _ _ h _ => h), (fun _ _ _ _ _ h => h), ⟨(fun _ _ _ _ h _ => h), (fun _ _ _ _ _ h => h), ⟨(fun _ _ _ _ h _ => h), (fun _ _ _ _ _ h => h), ⟨(fun _ _ _ _ h _ => h), (fun _ _ _ _ _ h => h), ⟨(fun _ _ _ _ h _ => h), (fun _ _ _ _ _ h => h), ⟨(fun _ _ _ _ h _ => h), (fun _ _ _ _ _ h => h), ⟨(fun _ _ _ _ h _ => h), (fun _ _ _ _ _ h => h), ⟨(fun _ _ _ _ h _ => h), (fun _ _ _ _ _ h => h), ⟨(fun _ _ _ _ h _ => h), (fun _ _ _ _ _ h => h), ⟨(fun _ _ _ _ h _ => h), (fun _ _ _ _ _ h => h), ⟨(fun _ _ _ _ h _ => h), (fun _ _ _ _ _ h => h), ⟨(fun _ _ _ _ h _ => h), (fun _ _ _ _ _ h => h), ⟨(fun _ _ _ _ h _ => h), (fun _ _ _ _ _ h => h), ⟨(fun _ _ _ _ h _ => h), (fun _ _ _ _ _ h => h), ⟨(fun _ _ _ _ h _ => h), (fun _ _ _ _ _ h => h), ⟨(fun _ _ _ _ h _ => h), (fun _ _ _ _ _ h => h), ⟨(fun _ _ _ _ h _ => h), (fun _ _ _ _ _ h => h), ⟨(fun _ _ _ _ h _ => h), (fun _ _ _ _ _ h => h), ⟨(fun _ _ _ _ h _ => h), (fun _ _ _ _ _ h => h), ⟨(fun _ _ _ _ h _ => h), (fun _ _ _ _ _ h => h), ⟨(fun _ _ _ _ h _ => h), (fun _ _ _ _ _ h => h), ⟨(fun _ _ _ _ h _ => h), (fun _ _ _ _ _ h => h), trivial⟩⟩⟩⟩⟩⟩⟩⟩⟩⟩⟩⟩⟩⟩⟩⟩⟩⟩⟩⟩⟩⟩⟩⟩⟩⟩⟩⟩⟩⟩⟩
 ·refine ⟨?_, ⟨?_, ⟨?_, ⟨?_, ⟨?_, ⟨?_, ⟨?_, ⟨?_, ⟨?_, ⟨?_, ⟨?_, ⟨?_, ⟨?_, ⟨?_, ⟨?_, ⟨?_, ⟨?_, ⟨?_, ⟨?_, ⟨?_, ⟨?_, ⟨?_, ⟨?_, ⟨?_, ⟨?_, ⟨?_, ⟨?_, ⟨?_, ⟨?_, ⟨?_, ⟨?_, trivial⟩⟩⟩⟩⟩⟩⟩⟩⟩⟩⟩⟩⟩⟩⟩⟩⟩⟩⟩⟩⟩⟩⟩⟩⟩⟩⟩⟩⟩⟩⟩
  ·intro w5 k40
   have m41 := m38.extk k40
   rintro _ _ _ _ _ _ _ _ _ _ _ _ _ _ _ _ _ _ _ _ _ _ _ _ _ _ _ _ _ _ _
   show WL _ _ _ _ _ _ _
   refine mw (vs a1 x_h.length c2) ?_
   exact f2
  ·intro w5 k42
   have m43 := m38.extk k42
   rintro _ rfl _ _ _ _ _ _ _ _ _ _ _ _ _ _ _ _ _ _ _ _ _ _ _ _ _ _ _ _ _ _
   show WL _ _ _ _ _ _ _
   refine wl_index (v := (vs a1 x_h.length c2)) wN 0 rfl rfl rfl slTy_32 rfl rfl (r3.from0 m43) (by first | omega | (simp only [List.length_cons, List.length_nil, List.length_replicate, List.length_append, List.length_take, List.length_set, List.length_map]; omega)) (by first | omega | (simp only [List.length_cons, List.length_nil, List.length_replicate, List.length_append, List.length_take, List.length_set, List.length_map]; omega)) ?_
   exact f2
  ·intro w5 k44
   have m45 := m38.extk k44
   rintro _ rfl _ rfl _ _ _ _ _ _ _ _ _ _ _ _ _ _ _ _ _ _ _ _ _ _ _ _ _ _ _ _ _
   show WL _ _ _ _ _ _ _
   refine wl_loadE (iV (x_h.getD 0 0)) wN rfl rfl rfl rfl isAgg_3 (r3.from0 m45) (iget (by simp) (by first | omega | (simp only [List.length_cons, List.length_nil, List.length_replicate, List.length_append, List.length_take, List.length_set, List.length_map]; omega))) ?_
   exact f2
  ·intro w5 k46
   have m47 := m38.extk k46
   rintro _ _ _ _ _ _ _ _ _ _ _ _ _ _ _ _ _ _ _ _ _ _ _ _ _ _ _ _ _ _ _
   show WL _ _ _ _ _ _ _
   refine mw (vs a1 x_h.length c2) ?_
   exact f2
  ·intro w5 k48
   have m49 := m38.extk k48
   rintro _ _ _ _ rfl _ _ _ _ _ _ _ _ _ _ _ _ _ _ _ _ _ _ _ _ _ _ _ _ _ _ _
   show WL _ _ _ _ _ _ _
   refine wl_index (v := (vs a1 x_h.length c2)) wN 1 rfl rfl rfl slTy_32 rfl rfl (r3.from0 m49) (by first | omega | (simp only [List.length_cons, List.length_nil, List.length_replicate, List.length_append, List.length_take, List.length_set, List.length_map]; omega)) (by first | omega | (simp only [List.length_cons, List.length_nil, List.length_replicate, List.length_append, List.length_take, List.length_set, List.length_map]; omega)) ?_
   exact f2
  ·intro w5 k50
   have m51 := m38.extk k50
   rintro _ _ _ _ rfl _ rfl _ _ _ _ _ _ _ _ _ _ _ _ _ _ _ _ _ _ _ _ _ _ _ _ _ _
   show WL _ _ _ _ _ _ _
   refine wl_loadE (iV (x_h.getD 1 0)) wN rfl rfl rfl rfl isAgg_3 (r3.from0 m51) (iget (by simp) (by first | omega | (simp only [List.length_cons, List.length_nil, List.length_replicate, List.length_append, List.length_take, List.length_set, List.length_map]; omega))) ?_
   exact f2
  ·intro w5 k52
   have m53 := m38.extk k52
   rintro _ _ _ _ _ _ _ _ _ _ _ _ _ _ _ _ _ _ _ _ _ _ _ _ _ _ _ _ _ _ _
   show WL _ _ _ _ _ _ _
   refine mw (vs a1 x_h.length c2) ?_
   exact f2
  ·intro w5 k54
   have m55 := m38.extk k54
   rintro _ _ _ _ _ _ _ rfl _ _ _ _ _ _ _ _ _ _ _ _ _ _ _ _ _ _ _ _ _ _ _ _
   show WL _ _ _ _ _ _ _
   refine wl_index (v := (vs a1 x_h.length c2)) wN 2 rfl rfl rfl slTy_32 rfl rfl (r3.from0 m55) (by first | omega | (simp only [List.length_cons, List.length_nil, List.length_replicate, List.length_append, List.length_take, List.length_set, List.length_map]; omega)) (by first | omega | (simp only [List.length_cons, List.length_nil, List.length_replicate, List.length_append, List.length_take, List.length_set, List.length_map]; omega)) ?_
   exact f2
  ·intro w5 k56
   have m57 := m38.extk k56
   rintro _ _ _ _ _ _ _ rfl _ rfl _ _ _ _ _ _ _ _ _ _ _ _ _ _ _ _ _ _ _ _ _ _ _
   show WL _ _ _ _ _ _ _
   refine wl_loadE (iV (x_h.getD 2 0)) wN rfl rfl rfl rfl isAgg_3 (r3.from0 m57) (iget (by simp) (by first | omega | (simp only [List.length_cons, List.length_nil, List.length_replicate, List.length_append, List.length_take, List.length_set, List.length_map]; omega))) ?_
   exact f2
  ·intro w5 k58
   have m59 := m38.extk k58
   rintro _ _ _ _ _ _ _ _ _ _ _ _ _ _ _ _ _ _ _ _ _ _ _ _ _ _ _ _ _ _ _
   show WL _ _ _ _ _ _ _
   refine mw (vs a1 x_h.length c2) ?_
   exact f2
  ·intro w5 k60
   have m61 := m38.extk k60
   rintro _ _ _ _ _ _ _ _ _ _ rfl _ _ _ _ _ _ _ _ _ _ _ _ _ _ _ _ _ _ _ _ _
   show WL _ _ _ _ _ _ _
   refine wl_index (v := (vs a1 x_h.length c2)) wN 3 rfl rfl rfl slTy_32 rfl rfl (r3.from0 m61) (by first | omega | (simp only [List.length_cons, List.length_nil, List.length_replicate, List.length_append, List.length_take, List.length_set, List.length_map]; omega)) (by first | omega | (simp only [List.length_cons, List.length_nil, List.length_replicate, List.length_append, List.length_take, List.length_set, List.length_map]; omega)) ?_
   exact f2
  ·intro w5 k62
   have m63 := m38.extk k62
   rintro _ _ _ _ _ _ _ _ _ _ rfl _ rfl _ _ _ _ _ _ _ _ _ _ _ _ _ _ _ _ _ _ _ _
   show WL _ _ _ _ _ _ _
   refine wl_loadE (iV (x_h.getD 3 0)) wN rfl rfl rfl rfl isAgg_3 (r3.from0 m63) (iget (by simp) (by first | omega | (simp only [List.length_cons, List.length_nil, List.length_replicate, List.length_append, List.length_take, List.length_set, List.length_map]; omega))) ?_
   exact f2
  ·intro w5 k64
   have m65 := m38.extk k64
   rintro _ _ _ _ _ _ _ _ _ _ _ _ _ _ _ _ _ _ _ _ _ _ _ _ _ _ _ _ _ _ _
   show WL _ _ _ _ _ _ _
   refine mw (vs a1 x_h.length c2) ?_
   exact f2
  ·intro w5 k66
   have m67 := m38.extk k66
   rintro _ _ _ _ _ _ _ _ _ _ _ _ _ rfl _ _ _ _ _ _ _ _ _ _ _ _ _ _ _ _ _ _
   show WL _ _ _ _ _ _ _
   refine wl_index (v := (vs a1 x_h.length c2)) wN 4 rfl rfl rfl slTy_32 rfl rfl (r3.from0 m67) (by first | omega | (simp only [List.length_cons, List.length_nil, List.length_replicate, List.length_append, List.length_take, List.length_set, List.length_map]; omega)) (by first | omega | (simp only [List.length_cons, List.length_nil, List.length_replicate, List.length_append, List.length_take, List.length_set, List.length_map]; omega)) ?_
   exact f2
  ·intro w5 k68
   have m69 := m38.extk k68
   rintro _ _ _ _ _ _ _ _ _ _ _ _ _ rfl _ rfl _ _ _ _ _ _ _ _ _ _ _ _ _ _ _ _ _
   show WL _ _ _ _ _ _ _
   refine wl_loadE (iV (x_h.getD 4 0)) wN rfl rfl rfl rfl isAgg_3 (r3.from0 m69) (iget (by simp) (by first | omega | (simp only [List.length_cons, List.length_nil, List.length_replicate, List.length_append, List.length_take, List.length_set, List.length_map]; omega))) ?_
   exact f2
  ·intro w5 k70
   have m71 := m38.extk k70
   rintro _ _ _ _ _ _ _ _ _ _ _ _ _ _ _ _ _ _ _ _ _ _ _ _ _ _ _ _ _ _ _
   show WL _ _ _ _ _ _ _
   refine mw (vs a1 x_h.length c2) ?_
   exact f2
  ·intro w5 k72
   have m73 := m38.extk k72
   rintro _ _ _ _ _ _ _ _ _ _ _ _ _ _ _ _ rfl _ _ _ _ _ _ _ _ _ _ _ _ _ _ _
   show WL _ _ _ _ _ _ _
   refine wl_index (v := (vs a1 x_h.length c2)) wN 5 rfl rfl rfl slTy_32 rfl rfl (r3.from0 m73) (by first | omega | (simp only [List.length_cons, List.length_nil, List.length_replicate, List.length_append, List.length_take, List.length_set, List.length_map]; omega)) (by first | omega | (simp only [List.length_cons, List.length_nil, List.length_replicate, List.length_append, List.length_take, List.length_set, List.length_map]; omega)) ?_
   exact f2
  ·intro w5 k74
   have m75 := m38.extk k74
   rintro _ _ _ _ _ _ _ _ _ _ _ _ _ _ _ _ rfl _ rfl _ _ _ _ _ _ _ _ _ _ _ _ _ _
   show WL _ _ _ _ _ _ _
   refine wl_loadE (iV (x_h.getD 5 0)) wN rfl rfl rfl rfl isAgg_3 (r3.from0 m75) (iget (by simp) (by first | omega | (simp only [List.length_cons, List.length_nil, List.length_replicate, List.length_append, List.length_take, List.length_set, List.length_map]; omega))) ?_
   exact f2
  ·intro w5 k76
   have m77 := m38.extk k76
   rintro _ _ _ _ _ _ _ _ _ _ _ _ _ _ _ _ _ _ _ _ _ _ _ _ _ _ _ _ _ _ _
   show WL _ _ _ _ _ _ _
   refine mw (vs a1 x_h.length c2) ?_
   exact f2
  ·intro w5 k78
   have m79 := m38.extk k78
   rintro _ _ _ _ _ _ _ _ _ _ _ _ _ _ _ _ _ _ _ rfl _ _ _ _ _ _ _ _ _ _ _ _
   show WL _ _ _ _ _ _ _
   refine wl_index (v := (vs a1 x_h.length c2)) wN 6 rfl rfl rfl slTy_32 rfl rfl (r3.from0 m79) (by first | omega | (simp only [List.length_cons, List.length_nil, List.length_replicate, List.length_append, List.length_take, List.length_set, List.length_map]; omega)) (by first | omega | (simp only [List.length_cons, List.length_nil, List.length_replicate, List.length_append, List.length_take, List.length_set, List.length_map]; omega)) ?_
   exact f2
  ·intro w5 k80
   have m81 := m38.extk k80
   rintro _ _ _ _ _ _ _ _ _ _ _ _ _ _ _ _ _ _ _ rfl _ rfl _ _ _ _ _ _ _ _ _ _ _
   show WL _ _ _ _ _ _ _
   refine wl_loadE (iV (x_h.getD 6 0)) wN rfl rfl rfl rfl isAgg_3 (r3.from0 m81) (iget (by simp) (by first | omega | (simp only [List.length_cons, List.length_nil, List.length_replicate, List.length_append, List.length_take, List.length_set, List.length_map]; omega))) ?_
   exact f2
  ·intro w5 k82
   have m83 := m38.extk k82
   rintro _ _ _ _ _ _ _ _ _ _ _ _ _ _ _ _ _ _ _ _ _ _ _ _ _ _ _ _ _ _ _
   show WL _ _ _ _ _ _ _
   refine mw (vs a1 x_h.length c2) ?_
   exact f2
  ·intro w5 k84
   have m85 := m38.extk k84
   rintro _ _ _ _ _ _ _ _ _ _ _ _ _ _ _ _ _ _ _ _ _ _ rfl _ _ _ _ _ _ _ _ _
   show WL _ _ _ _ _ _ _
   refine wl_index (v := (vs a1 x_h.length c2)) wN 7 rfl rfl rfl slTy_32 rfl rfl (r3.from0 m85) (by first | omega | (simp only [List.length_cons, List.length_nil, List.length_replicate, List.length_append, List.length_take, List.length_set, List.length_map]; omega)) (by first | omega | (simp only [List.length_cons, List.length_nil, List.length_replicate, List.length_append, List.length_take, List.length_set, List.length_map]; omega)) ?_
   exact f2
  ·intro w5 k86
   have m87 := m38.extk k86
   rintro _ _ _ _ _ _ _ _ _ _ _ _ _ _ _ _ _ _ _ _ _ _ rfl _ rfl _ _ _ _ _ _ _ _
   show WL _ _ _ _ _ _ _
   refine wl_loadE (iV (x_h.getD 7 0)) wN rfl rfl rfl rfl isAgg_3 (r3.from0 m87) (iget (by simp) (by first | omega | (simp only [List.length_cons, List.length_nil, List.length_replicate, List.length_append, List.length_take, List.length_set, List.length_map]; omega))) ?_
   exact f2
  ·intro w5 k88
   have m89 := m38.extk k88
   rintro _ rfl _ rfl _ rfl _ _ _ _ _ _ _ _ _ _ _ _ _ _ _ _ _ _ _ _ _ _ _ _ _ _ _ _
   show WL _ _ _ _ _ _ _
   refine aw (vi (x_h.getD 0 0)) ?_
   exact f2
  ·intro w5 k90
   have m91 := m38.extk k90
   rintro _ rfl _ rfl _ rfl _ rfl _ rfl _ rfl _ _ _ _ _ _ _ _ _ _ _ _ _ _ _ _ _ _ _ rfl _ _ _ _ _ _
   show WL _ _ _ _ _ _ _
   refine aw (vi (x_h.getD 1 0)) ?_
   exact f2
  ·intro w5 k92
   have m93 := m38.extk k92
   rintro _ rfl _ rfl _ rfl _ rfl _ rfl _ rfl _ rfl _ rfl _ rfl _ _ _ _ _ _ _ _ _ _ _ _ _ _ _ _ rfl _ rfl _ _ _ _ _
   show WL _ _ _ _ _ _ _
   refine aw (vi (x_h.getD 2 0)) ?_
   exact f2
  ·intro w5 k94
   have m95 := m38.extk k94
   rintro _ rfl _ rfl _ rfl _ rfl _ rfl _ rfl _ rfl _ rfl _ rfl _ rfl _ rfl _ rfl _ _ _ _ _ _ _ _ _ _ _ _ _ rfl _ rfl _ rfl _ _ _ _
   show WL _ _ _ _ _ _ _
   refine aw (vi (x_h.getD 3 0)) ?_
   exact f2
  ·intro w5 k96
   have m97 := m38.extk k96
   rintro _ rfl _ rfl _ rfl _ rfl _ rfl _ rfl _ rfl _ rfl _ rfl _ rfl _ rfl _ rfl _ rfl _ rfl _ rfl _ _ _ _ _ _ _ _ _ _ rfl _ rfl _ rfl _ rfl _ _ _
   show WL _ _ _ _ _ _ _
   refine aw (vi (x_h.getD 4 0)) ?_
   exact f2
  ·intro w5 k98
   have m99 := m38.extk k98
   rintro _ rfl _ rfl _ rfl _ rfl _ rfl _ rfl _ rfl _ rfl _ rfl _ rfl _ rfl _ rfl _ rfl _ rfl _ rfl _ rfl _ rfl _ rfl _ _ _ _ _ _ _ rfl _ rfl _ rfl _ rfl _ rfl _ _
   show WL _ _ _ _ _ _ _
   refine aw (vi (x_h.getD 5 0)) ?_
   exact f2
  ·intro w5 k100
   have m101 := m38.extk k100
   rintro _ rfl _ rfl _ rfl _ rfl _ rfl _ rfl _ rfl _ rfl _ rfl _ rfl _ rfl _ rfl _ rfl _ rfl _ rfl _ rfl _ rfl _ rfl _ rfl _ rfl _ rfl _ _ _ _ rfl _ rfl _ rfl _ rfl _ rfl _ rfl _
   show WL _ _ _ _ _ _ _
   refine aw (vi (x_h.getD 6 0)) ?_
   exact f2
 ·intro w5 k102
  have m103 := m38.extk k102
  rintro _ rfl _ rfl _ rfl _ rfl _ rfl _ rfl _ rfl _ rfl _ rfl _ rfl _ rfl _ rfl _ rfl _ rfl _ rfl _ rfl _ rfl _ rfl _ rfl _ rfl _ rfl _ rfl _ rfl _ rfl _ rfl _ rfl _ rfl _ rfl _ rfl _ rfl _ rfl
  show WL _ _ _ _ _ _ _
  refine aw (vi (x_h.getD 7 0)) ?_
  refine n4 ?_
  refine aw (vi 0) ?_
  refine wl_nil <| wq_then <| wc_block ?_
  refine wc_loopQ (fun e => [(vs a1 x_h.length c2), e 1, e 2, e 3, (vs none 0 0), (vs a20 x_h.length c21), (vs a32 (schedP x_block).length c33), (vi ((cmpN (schedP x_block) (s8of x_h) 0).a)), (vi ((cmpN (schedP x_block) (s8of x_h) 0).b)), (vi ((cmpN (schedP x_block) (s8of x_h) 0).c)), (vi ((cmpN (schedP x_block) (s8of x_h) 0).d)), (vi ((cmpN (schedP x_block) (s8of x_h) 0).e)), (vi ((cmpN (schedP x_block) (s8of x_h) 0).f)), (vi ((cmpN (schedP x_block) (s8of x_h) 0).g)), (vi ((cmpN (schedP x_block) (s8of x_h) 0).z)), (vi ((0 : Nat) : Int)), e 16, e 17, e 18, e 19, U, U, e 22, e 23, e 24, e 25, e 26, e 27, e 28, e 29, e 30, e 31, e 32, e 33, e 34, e 35, e 36, e 37, e 38, e 39, e 40, e 41, e 42, e 43, e 44, e 45, e 46, e 47, e 48, e 49, e 50, e 51, e 52, e 53, e 54, e 55, e 56, e 57, e 58, e 59, e 60, e 61, e 62, e 63, e 64, e 65, e 66, e 67, e 68, e 69, e 70, e 71, e 72, e 73, e 74, e 75, e 76, e 77, e 78, e 79, e 80, e 81, e 82, e 83, e 84, e 85, e 86, e 87, e 88, e 89, e 90, e 91, e 92, e 93, e 94, e 95, e 96, e 97, e 98, e 99, e 100, e 101, e 102, e 103, e 104, e 105, e 106, e 107, e 108, e 109, e 110, e 111, e 112, e 113, e 114, e 115, e 116, e 117, e 118, e 119, e 120, e 121, e 122, e 123, e 124, U, U, U, U, U, U, U, U, U, U, U, U, U, U, U, U, U, U, U, U, U, U, U, U, U, U]) rfl ⟨rfl, rfl, rfl, rfl, rfl, rfl, rfl, (congrArg (Value.int .i64) (show ((x_h.getD 0 0) : Int) = (cmpN (schedP x_block) (s8of x_h) 0).a by rfl)), (congrArg (Value.int .i64) (show ((x_h.getD 1 0) : Int) = (cmpN (schedP x_block) (s8of x_h) 0).b by rfl)), (congrArg (Value.int .i64) (show ((x_h.getD 2 0) : Int) = (cmpN (schedP x_block) (s8of x_h) 0).c by rfl)), (congrArg (Value.int .i64) (show ((x_h.getD 3 0) : Int) = (cmpN (schedP x_block) (s8of x_h) 0).d by rfl)), (congrArg (Value.int .i64) (show ((x_h.getD 4 0) : Int) = (cmpN (schedP x_block) (s8of x_h) 0).e by rfl)), (congrArg (Value.int .i64) (show ((x_h.getD 5 0) : Int) = (cmpN (schedP x_block) (s8of x_h) 0).f by rfl)), (congrArg (Value.int .i64) (show ((x_h.getD 6 0) : Int) = (cmpN (schedP x_block) (s8of x_h) 0).g by rfl)), (congrArg (Value.int .i64) (show ((x_h.getD 7 0) : Int) = (cmpN (schedP x_block) (s8of x_h) 0).z by rfl)), (congrArg (Value.int .i64) (show (0 : Int) = ((0 : Nat) : Int) by omega)), rfl, rfl, rfl, rfl, rfl, rfl, rfl, rfl, rfl, rfl, rfl, rfl, rfl, rfl, rfl, rfl, rfl, rfl, rfl, rfl, rfl, rfl, rfl, rfl, rfl, rfl, rfl, rfl, rfl, rfl, rfl, rfl, rfl, rfl, rfl, rfl, rfl, rfl, rfl, rfl, rfl, rfl, rfl, rfl, rfl, rfl, rfl, rfl, rfl, rfl, rfl, rfl, rfl, rfl, rfl, rfl, rfl, rfl, rfl, rfl, rfl, rfl, rfl, rfl, rfl, rfl, rfl, rfl, rfl, rfl, rfl, rfl, rfl, rfl, rfl, rfl, rfl, rfl, rfl, rfl, rfl, rfl, rfl, rfl, rfl, rfl, rfl, rfl, rfl, rfl, rfl, rfl, rfl, rfl, rfl, rfl, rfl, rfl, rfl, rfl, rfl, rfl, rfl, rfl, rfl, rfl, rfl, rfl, rfl, rfl, rfl, rfl, rfl, rfl, rfl, rfl, rfl, rfl, rfl, rfl, rfl, rfl, rfl, rfl, rfl, rfl, rfl, rfl, rfl, rfl, rfl, rfl, rfl, rfl, rfl, trivial⟩ (fun e' w' => ∃ (k : Nat) (ya : Int) (yb : Int) (yc : Int) (yd : Int) (ye : Int) (yf : Int) (yg : Int) (yz : Int) (u104 : Nat → Value), e' = lst [(vs a1 x_h.length c2), (u104 0), (u104 1), (u104 2), (vs none 0 0), (vs a20 x_h.length c21), (vs a32 (schedP x_block).length c33), (vi ya), (vi yb), (vi yc), (vi yd), (vi ye), (vi yf), (vi yg), (vi yz), (vi ((k : Nat) : Int)), (u104 3), (u104 4), (u104 5), (u104 6), U, U, (u104 7), (u104 8), (u104 9), (u104 10), (u104 11), (u104 12), (u104 13), (u104 14), (u104 15), (u104 16), (u104 17), (u104 18), (u104 19), (u104 20), (u104 21), (u104 22), (u104 23), (u104 24), (u104 25), (u104 26), (u104 27), (u104 28), (u104 29), (u104 30), (u104 31), (u104 32), (u104 33), (u104 34), (u104 35), (u104 36), (u104 37), (u104 38), (u104 39), (u104 40), (u104 41), (u104 42), (u104 43), (u104 44), (u104 45), (u104 46), (u104 47), (u104 48), (u104 49), (u104 50), (u104 51), (u104 52), (u104 53), (u104 54), (u104 55), (u104 56), (u104 57), (u104 58), (u104 59), (u104 60), (u104 61), (u104 62), (u104 63), (u104 64), (u104 65), (u104 66), (u104 67), (u104 68), (u104 69), (u104 70), (u104 71), (u104 72), (u104 73), (u104 74), (u104 75), (u104 76), (u104 77), (u104 78), (u104 79), (u104 80), (u104 81), (u104 82), (u104 83), (u104 84), (u104 85), (u104 86), (u104 87), (u104 88), (u104 89), (u104 90), (u104 91), (u104 92), (u104 93), (u104 94), (u104 95), (u104 96), (u104 97), (u104 98), (u104 99), (u104 100), (u104 101), (u104 102), (u104 103), (u104 104), (u104 105), (u104 106), (u104 107), (u104 108), (u104 109), U, U, U, U, U, U, U, U, U, U, U, U, U, U, U, U, U, U, U, U, U, U, U, U, U, U] ∧ Ch (fun k => w0.heap.size ≤ k) w0 w' ∧ Ch (fun k => w5.heap.size ≤ k) w5 w' ∧ k ≤ 64 ∧ ya = (cmpN (schedP x_block) (s8of x_h) k).a ∧ yb = (cmpN (schedP x_block) (s8of x_h) k).b ∧ yc = (cmpN (schedP x_block) (s8of x_h) k).c ∧ yd = (cmpN (schedP x_block) (s8of x_h) k).d ∧ ye = (cmpN (schedP x_block) (s8of x_h) k).e ∧ yf = (cmpN (schedP x_block) (s8of x_h) k).f ∧ yg = (cmpN (schedP x_block) (s8of x_h) k).g ∧ yz = (cmpN (schedP x_block) (s8of x_h) k).z) (fun e' _ => (64 - (intOf (e' 15))).toNat) ?_ ?_
  ·exact fun u => ⟨0, (cmpN (schedP x_block) (s8of x_h) 0).a, (cmpN (schedP x_block) (s8of x_h) 0).b, (cmpN (schedP x_block) (s8of x_h) 0).c, (cmpN (schedP x_block) (s8of x_h) 0).d, (cmpN (schedP x_block) (s8of x_h) 0).e, (cmpN (schedP x_block) (s8of x_h) 0).f, (cmpN (schedP x_block) (s8of x_h) 0).g, (cmpN (schedP x_block) (s8of x_h) 0).z, (unL [u 1, u 2, u 3, u 16, u 17, u 18, u 19, u 22, u 23, u 24, u 25, u 26, u 27, u 28, u 29, u 30, u 31, u 32, u 33, u 34, u 35, u 36, u 37, u 38, u 39, u 40, u 41, u 42, u 43, u 44, u 45, u 46, u 47, u 48, u 49, u 50, u 51, u 52, u 53, u 54, u 55, u 56, u 57, u 58, u 59, u 60, u 61, u 62, u 63, u 64, u 65, u 66, u 67, u 68, u 69, u 70, u 71, u 72, u 73, u 74, u 75, u 76, u 77, u 78, u 79, u 80, u 81, u 82, u 83, u 84, u 85, u 86, u 87, u 88, u 89, u 90, u 91, u 92, u 93, u 94, u 95, u 96, u 97, u 98, u 99, u 100, u 101, u 102, u 103, u 104, u 105, u 106, u 107, u 108, u 109, u 110, u 111, u 112, u 113, u 114, u 115, u 116, u 117, u 118, u 119, u 120, u 121, u 122, u 123, u 124]), rfl, m103, (Ch.refl (fun k => w5.heap.size ≤ k) w5), (by omega), (by first | rfl | assumption), (by first | rfl | assumption), (by first | rfl | assumption), (by first | rfl | assumption), (by first | rfl | assumption), (by first | rfl | assumption), (by first | rfl | assumption), (by first | rfl | assumption)⟩
  ·rintro _ w6 ⟨k, ya, yb, yc, yd, ye, yf, yg, yz, u104, rfl, m105, k106, i107, hi_a, hi_b, hi_c, hi_d, hi_e, hi_f, hi_g, hi_z⟩
   obtain ⟨zw, hzw⟩ : ∃ z, (schedP x_block).getD k 0 = z := ⟨_, rfl⟩
   have hwd : 0 ≤ zw ∧ zw < 4294967296 := hzw ▸ wget (schedP_w x_block) k
   obtain ⟨zk, hzk⟩ : ∃ z, kw.getD k 0 = z := ⟨_, rfl⟩
   have hkw : 0 ≤ zk ∧ zk < 4294967296 := hzk ▸ wget kw_w k
   have hkl : kw.length = 64 := rfl
   have hok := cmpN_ok (w := schedP x_block) (s8of_ok (areW_t (by first | assumption | exact ‹ws8 x_h = true›)).1) k
   unfold S8.ok at hok
   rw [← hi_a, ← hi_b, ← hi_c, ← hi_d, ← hi_e, ← hi_f, ← hi_g, ← hi_z] at hok
   refine wc_seq <| sr ?_
   refine mw (vi ((k : Nat) : Int)) ?_
   refine pu (vb (decide (((k : Nat) : Int) < 64))) wN ?_
   refine n2 ?_
   rcases bf (decide (((k : Nat) : Int) < 64)) with h116 | h116
   ·have q253 := of_decide_eq_false h116
    refine cf h116 ?_
    refine wc_exit <| wq_then_exit ?_
    obtain rfl : k = 64 := by omega
    refine wq_then_exit <| wq_blk_exit <| wq_then <| wc_seq <| sr ?_
    refine mw (vi ya) ?_
    refine mw (vi yb) ?_
    refine mw (vi yc) ?_
    refine mw (vi yd) ?_
    refine mw (vi ye) ?_
    refine mw (vi yf) ?_
    refine mw (vi yg) ?_
    refine mw (vi yz) ?_
    refine wl_lit [(vi ya), (vi yb), (vi yc), (vi yd), (vi ye), (vi yf), (vi yg), (vi yz)] wN rfl rfl slTy_32 (m := 8) rfl (by simp only [maxLen]; omega) (fun w => by kernel_rfl) ?_
    intro u254 w7 k255 o256
    obtain ⟨a257, c258, rfl⟩ := own_form o256
    have m259 := m105.extk k255
    have o261 : w7.ownsRow w6.heap.size 3 1 (.slice a257 (([ya, yb, yc, yd, ye, yf, yg, yz] : List Int) : List Int).length c258) (([ya, yb, yc, yd, ye, yf, yg, yz] : List Int) : List Int).length ((([ya, yb, yc, yd, ye, yf, yg, yz] : List Int) : List Int).map iV) := o256
    refine ln wN slTy_32 (Rd.of_own o261) ?_
    refine mw (vi 0) ?_
    refine wl_nil <| wq_then <| wc_block ?_
    have o264 := (own_kp (own_ch (own_kp (own_kp (own_kp o18 k25) k31) k102) k106 (fun g hg hlt hk => by have h1 := (own_lt o18 g hg).2; have h2 : w2.heap.size ≤ w5.heap.size := (z3 k25 k31 k102); have h3 : w5.heap.size ≤ g := hk; omega)) k255)
    have hE263 : (x_h : List Int) = (addL x_h (S8.list (cmpN (schedP x_block) (s8of x_h) 64))).take 0 ++ x_h.drop 0 := by first | rfl | simp
    have hE265 : (([ya, yb, yc, yd, ye, yf, yg, yz] : List Int) : List Int) = ([ya, yb, yc, yd, ye, yf, yg, yz] : List Int) := by first | rfl | simp
    refine wc_loopQ (fun e => [(vs a1 x_h.length c2), e 1, e 2, e 3, (vs none 0 0), (vs a20 x_h.length c21), e 6, e 7, e 8, e 9, e 10, e 11, e 12, e 13, e 14, e 15, e 16, e 17, e 18, e 19, e 20, e 21, e 22, e 23, e 24, e 25, e 26, e 27, e 28, e 29, e 30, e 31, e 32, e 33, e 34, e 35, e 36, e 37, e 38, e 39, e 40, e 41, e 42, e 43, e 44, e 45, e 46, e 47, e 48, e 49, e 50, e 51, e 52, e 53, e 54, e 55, e 56, e 57, e 58, e 59, e 60, e 61, e 62, e 63, e 64, e 65, e 66, e 67, e 68, e 69, e 70, e 71, e 72, e 73, e 74, e 75, e 76, e 77, e 78, e 79, e 80, e 81, e 82, e 83, e 84, e 85, e 86, e 87, e 88, e 89, e 90, e 91, e 92, e 93, e 94, e 95, e 96, e 97, e 98, e 99, e 100, e 101, e 102, e 103, e 104, e 105, e 106, e 107, e 108, e 109, e 110, e 111, e 112, e 113, e 114, e 115, e 116, e 117, e 118, e 119, e 120, e 121, e 122, e 123, e 124, e 125, e 126, e 127, e 128, e 129, e 130, e 131, e 132, (vs a257 ([ya, yb, yc, yd, ye, yf, yg, yz] : List Int).length c258), (vi (([ya, yb, yc, yd, ye, yf, yg, yz] : List Int).length : Int)), (vi ((0 : Nat) : Int)), e 136, e 137, e 138, e 139, e 140, e 141, e 142, e 143, e 144, e 145, e 146, e 147, e 148, e 149, U]) rfl ⟨rfl, rfl, rfl, rfl, rfl, rfl, rfl, rfl, rfl, rfl, rfl, rfl, rfl, rfl, rfl, rfl, rfl, rfl, rfl, rfl, rfl, rfl, rfl, rfl, rfl, rfl, rfl, rfl, rfl, rfl, rfl, rfl, rfl, rfl, rfl, rfl, rfl, rfl, rfl, rfl, rfl, rfl, rfl, rfl, rfl, rfl, rfl, rfl, rfl, rfl, rfl, rfl, rfl, rfl, rfl, rfl, rfl, rfl, rfl, rfl, rfl, rfl, rfl, rfl, rfl, rfl, rfl, rfl, rfl, rfl, rfl, rfl, rfl, rfl, rfl, rfl, rfl, rfl, rfl, rfl, rfl, rfl, rfl, rfl, rfl, rfl, rfl, rfl, rfl, rfl, rfl, rfl, rfl, rfl, rfl, rfl, rfl, rfl, rfl, rfl, rfl, rfl, rfl, rfl, rfl, rfl, rfl, rfl, rfl, rfl, rfl, rfl, rfl, rfl, rfl, rfl, rfl, rfl, rfl, rfl, rfl, rfl, rfl, rfl, rfl, rfl, rfl, rfl, rfl, rfl, rfl, rfl, rfl, rfl, rfl, (congrArg (Value.int .i64) (show (0 : Int) = ((0 : Nat) : Int) by omega)), rfl, rfl, rfl, rfl, rfl, rfl, rfl, rfl, rfl, rfl, rfl, rfl, rfl, rfl, rfl, trivial⟩ (fun e' w' => ∃ (m : Nat) (u262 : Nat → Value), e' = lst [(vs a1 x_h.length c2), (u262 0), (u262 1), (u262 2), (vs none 0 0), (vs a20 x_h.length c21), (u262 3), (u262 4), (u262 5), (u262 6), (u262 7), (u262 8), (u262 9), (u262 10), (u262 11), (u262 12), (u262 13), (u262 14), (u262 15), (u262 16), (u262 17), (u262 18), (u262 19), (u262 20), (u262 21), (u262 22), (u262 23), (u262 24), (u262 25), (u262 26), (u262 27), (u262 28), (u262 29), (u262 30), (u262 31), (u262 32), (u262 33), (u262 34), (u262 35), (u262 36), (u262 37), (u262 38), (u262 39), (u262 40), (u262 41), (u262 42), (u262 43), (u262 44), (u262 45), (u262 46), (u262 47), (u262 48), (u262 49), (u262 50), (u262 51), (u262 52), (u262 53), (u262 54), (u262 55), (u262 56), (u262 57), (u262 58), (u262 59), (u262 60), (u262 61), (u262 62), (u262 63), (u262 64), (u262 65), (u262 66), (u262 67), (u262 68), (u262 69), (u262 70), (u262 71), (u262 72), (u262 73), (u262 74), (u262 75), (u262 76), (u262 77), (u262 78), (u262 79), (u262 80), (u262 81), (u262 82), (u262 83), (u262 84), (u262 85), (u262 86), (u262 87), (u262 88), (u262 89), (u262 90), (u262 91), (u262 92), (u262 93), (u262 94), (u262 95), (u262 96), (u262 97), (u262 98), (u262 99), (u262 100), (u262 101), (u262 102), (u262 103), (u262 104), (u262 105), (u262 106), (u262 107), (u262 108), (u262 109), (u262 110), (u262 111), (u262 112), (u262 113), (u262 114), (u262 115), (u262 116), (u262 117), (u262 118), (u262 119), (u262 120), (u262 121), (u262 122), (u262 123), (u262 124), (u262 125), (u262 126), (u262 127), (u262 128), (u262 129), (vs a257 ([ya, yb, yc, yd, ye, yf, yg, yz] : List Int).length c258), (vi (([ya, yb, yc, yd, ye, yf, yg, yz] : List Int).length : Int)), (vi ((m : Nat) : Int)), (u262 130), (u262 131), (u262 132), (u262 133), (u262 134), (u262 135), (u262 136), (u262 137), (u262 138), (u262 139), (u262 140), (u262 141), (u262 142), (u262 143), U] ∧ Ch (fun k => w0.heap.size ≤ k) w0 w' ∧ Ch (fun k => w0.heap.size ≤ k) w7 w' ∧ m ≤ 8 ∧ World.ownsRow w' w0.heap.size 3 1 (.slice a20 x_h.length c21) x_h.length (((addL x_h (S8.list (cmpN (schedP x_block) (s8of x_h) 64))).take m ++ x_h.drop m).map iV) ∧ World.ownsRow w' w6.heap.size 3 1 (.slice a257 ([ya, yb, yc, yd, ye, yf, yg, yz] : List Int).length c258) ([ya, yb, yc, yd, ye, yf, yg, yz] : List Int).length ((([ya, yb, yc, yd, ye, yf, yg, yz] : List Int)).map iV)) (fun e' _ => (8 - (intOf (e' 135))).toNat) ?_ ?_
    ·exact fun u => ⟨0, (unL [u 1, u 2, u 3, u 6, u 7, u 8, u 9, u 10, u 11, u 12, u 13, u 14, u 15, u 16, u 17, u 18, u 19, u 20, u 21, u 22, u 23, u 24, u 25, u 26, u 27, u 28, u 29, u 30, u 31, u 32, u 33, u 34, u 35, u 36, u 37, u 38, u 39, u 40, u 41, u 42, u 43, u 44, u 45, u 46, u 47, u 48, u 49, u 50, u 51, u 52, u 53, u 54, u 55, u 56, u 57, u 58, u 59, u 60, u 61, u 62, u 63, u 64, u 65, u 66, u 67, u 68, u 69, u 70, u 71, u 72, u 73, u 74, u 75, u 76, u 77, u 78, u 79, u 80, u 81, u 82, u 83, u 84, u 85, u 86, u 87, u 88, u 89, u 90, u 91, u 92, u 93, u 94, u 95, u 96, u 97, u 98, u 99, u 100, u 101, u 102, u 103, u 104, u 105, u 106, u 107, u 108, u 109, u 110, u 111, u 112, u 113, u 114, u 115, u 116, u 117, u 118, u 119, u 120, u 121, u 122, u 123, u 124, u 125, u 126, u 127, u 128, u 129, u 130, u 131, u 132, u 136, u 137, u 138, u 139, u 140, u 141, u 142, u 143, u 144, u 145, u 146, u 147, u 148, u 149]), rfl, m259, (Ch.refl (fun k => w0.heap.size ≤ k) w7), (by omega), (by rw [← hE263]; exact o264), (by rw [← hE265]; exact o261)⟩
    ·rintro _ w8 ⟨m, u262, rfl, m266, k267, i268, o269, o270⟩
     have hlL : ([ya, yb, yc, yd, ye, yf, yg, yz] : List Int).length = 8 := rfl
     have hll : (addL x_h (S8.list (cmpN (schedP x_block) (s8of x_h) 64))).length = 8 := addL_len (by omega) rfl
     have hl8 : (x_h.length : Int) = 8 := (areW_t (by first | assumption | exact ‹ws8 x_h = true›)).2
     have hw1 := wget (areW_t (by first | assumption | exact ‹ws8 x_h = true›)).1 m
     have hle : ([ya, yb, yc, yd, ye, yf, yg, yz] : List Int) = (S8.list (cmpN (schedP x_block) (s8of x_h) 64)) := by rw [hi_a, hi_b, hi_c, hi_d, hi_e, hi_f, hi_g, hi_z]; rfl
     have hw2 : 0 ≤ ([ya, yb, yc, yd, ye, yf, yg, yz] : List Int).getD m 0 ∧ ([ya, yb, yc, yd, ye, yf, yg, yz] : List Int).getD m 0 < 4294967296 := hle ▸ wget (s8l_w (cmpN_ok (w := schedP x_block) (s8of_ok (areW_t (by first | assumption | exact ‹ws8 x_h = true›)).1) 64)) m
     refine sr ?_
     refine pu (vb (decide (((m : Nat) : Int) < (([ya, yb, yc, yd, ye, yf, yg, yz] : List Int).length : Int)))) wN ?_
     refine wl_nil <| wq_then <| wc_seq ?_
     rcases bf (decide (((m : Nat) : Int) < (([ya, yb, yc, yd, ye, yf, yg, yz] : List Int).length : Int))) with h271 | h271
     ·have q282 := of_decide_eq_false h271
      refine cf h271 ?_
      refine wc_exit <| wq_then_exit <| wq_then_exit <| wq_blk_exit <| wq_then <| sr ?_
      refine mw (vs a20 x_h.length c21) ?_
      refine aw (vs a20 x_h.length c21) ?_
      refine n3 ?_
      refine rt (vs a20 x_h.length c21) ?_
      refine ⟨m266.keep0, ?_⟩
      have hF283 : compress x_h x_block = ((addL x_h (S8.list (cmpN (schedP x_block) (s8of x_h) 64))).take m ++ x_h.drop m) := by first | exact compress_f (by first | assumption | exact ‹ws8 x_h = false›) | exact compress_g (by omega) | exact compress_t (by first | assumption | exact ‹ws8 x_h = true›) (by omega) (by omega)
      rw [hF283]
      have hN284 : x_h.length = (((addL x_h (S8.list (cmpN (schedP x_block) (s8of x_h) 64))).take m ++ x_h.drop m)).length := by simp only [List.length_append, List.length_take, List.length_drop]; omega
      rw [hN284] at o269 ⊢
      exact ⟨_, _, rfl, o269, (by rw [← hN284]; exact s4), ⟨trivial, trivial⟩⟩
     have q272 := of_decide_eq_true h271
     refine ct h271 ?_
     refine wc_skip <| wq_then <| wc_seq <| wc_block <| sr ?_
     refine mw (vi ((m : Nat) : Int)) ?_
     refine wl_index (v := (vs a257 ([ya, yb, yc, yd, ye, yf, yg, yz] : List Int).length c258)) wN ((m : Nat) : Int) rfl rfl rfl slTy_32 rfl rfl (Rd.of_own o270) (by first | omega | (simp only [List.length_cons, List.length_nil, List.length_replicate, List.length_append, List.length_take, List.length_set, List.length_map]; omega)) (by first | omega | (simp only [List.length_cons, List.length_nil, List.length_replicate, List.length_append, List.length_take, List.length_set, List.length_map]; omega)) ?_
     refine wl_loadE (iV ((([ya, yb, yc, yd, ye, yf, yg, yz] : List Int)).getD m 0)) wN rfl rfl rfl rfl isAgg_3 (Rd.of_own o270) (iget (by simp) (by first | omega | (simp only [List.length_cons, List.length_nil, List.length_replicate, List.length_append, List.length_take, List.length_set, List.length_map]; omega))) ?_
     refine aw (vi ((m : Nat) : Int)) ?_
     refine aw (vi ((([ya, yb, yc, yd, ye, yf, yg, yz] : List Int)).getD m 0)) ?_
     refine wl_nil <| wq_then <| wc_region ?_
     refine mw (vs a20 x_h.length c21) ?_
     refine mw (vi ((m : Nat) : Int)) ?_
     refine mw (vs a1 x_h.length c2) ?_
     refine mw (vi ((m : Nat) : Int)) ?_
     refine wl_index (v := (vs a1 x_h.length c2)) wN ((m : Nat) : Int) rfl rfl rfl slTy_32 rfl rfl (r3.from0 m266) (by first | omega | (simp only [List.length_cons, List.length_nil, List.length_replicate, List.length_append, List.length_take, List.length_set, List.length_map]; omega)) (by first | omega | (simp only [List.length_cons, List.length_nil, List.length_replicate, List.length_append, List.length_take, List.length_set, List.length_map]; omega)) ?_
     refine wl_loadE (iV (x_h.getD m 0)) wN rfl rfl rfl rfl isAgg_3 (r3.from0 m266) (iget (by simp) (by first | omega | (simp only [List.length_cons, List.length_nil, List.length_replicate, List.length_append, List.length_take, List.length_set, List.length_map]; omega))) ?_
     refine mw (vi ((([ya, yb, yc, yd, ye, yf, yg, yz] : List Int)).getD m 0)) ?_
     refine cl wN (C_impl_Add32 w8 (x_h.getD m 0) ((([ya, yb, yc, yd, ye, yf, yg, yz] : List Int)).getD m 0) (by omega) (by omega) (by omega) (by omega)) ?_
     rintro _ w9 ⟨k273, rfl⟩
     have m274 := m266.extk k273
     have o275 := (own_kp o269 k273)
     refine wl_index (v := (vs a20 x_h.length c21)) wN ((m : Nat) : Int) rfl rfl rfl slTy_32 rfl rfl (Rd.of_own o275) (by first | omega | (simp only [List.length_cons, List.length_nil, List.length_replicate, List.length_append, List.length_take, List.length_set, List.length_map]; omega)) (by first | omega | (simp only [List.length_cons, List.length_nil, List.length_replicate, List.length_append, List.length_take, List.length_set, List.length_map]; omega)) ?_
     refine wl_storeI ((addL x_h (S8.list (cmpN (schedP x_block) (s8of x_h) 64))).take m ++ x_h.drop m) (m) ((F_impl_Add32 (x_h.getD m 0) ((([ya, yb, yc, yd, ye, yf, yg, yz] : List Int)).getD m 0))) wN rfl rfl rfl (by simp) rfl sizeOf_3 o275 (by first | omega | (simp only [List.length_append, List.length_take, List.length_drop]; omega)) ?_
     intro w10 k276 o277
     have m278 := m274.ext k276 (fun k hk => Nat.le_trans (Nat.le_refl w0.heap.size) (own_lt o18 k hk).1)
     refine wl_nil <| wq_blk_normal <| wq_then <| wc_region ?_
     refine ar (((m : Nat) : Int) + 1) wN ?_
     refine mw (vi (((m : Nat) : Int) + 1)) ?_
     refine wl_nil ?_
     have hE279 : ((((addL x_h (S8.list (cmpN (schedP x_block) (s8of x_h) 64))).take m ++ x_h.drop m).set m (F_impl_Add32 (x_h.getD m 0) ((([ya, yb, yc, yd, ye, yf, yg, yz] : List Int)).getD m 0))) : List Int) = (addL x_h (S8.list (cmpN (schedP x_block) (s8of x_h) 64))).take (m + 1) ++ x_h.drop (m + 1) := by first | rfl | (rw [hle]; exact addL_next (l := (S8.list (cmpN (schedP x_block) (s8of x_h) 64))) (by omega) (by show x_h.length = 8; omega))
     have o281 := (own_ch (own_kp o270 k273) k276 (fun g hg hlt hk => by have h1 := (own_lt o261 g hg).1; have h2 := (own_lt o18 g hk).2; have h3 := (z4 k25 k31 k102 k106); omega))
     have hE280 : ((([ya, yb, yc, yd, ye, yf, yg, yz] : List Int)) : List Int) = ([ya, yb, yc, yd, ye, yf, yg, yz] : List Int) := by first | rfl | (rw [hle]; exact addL_next (l := (S8.list (cmpN (schedP x_block) (s8of x_h) 64))) (by omega) (by show x_h.length = 8; omega))
     refine wq_loopQ (w0 := w8) (fun e => [(vs a1 x_h.length c2), e 1, e 2, e 3, (vs none 0 0), (vs a20 x_h.length c21), e 6, e 7, e 8, e 9, e 10, e 11, e 12, e 13, e 14, e 15, e 16, e 17, e 18, e 19, e 20, e 21, e 22, e 23, e 24, e 25, e 26, e 27, e 28, e 29, e 30, e 31, e 32, e 33, e 34, e 35, e 36, e 37, e 38, e 39, e 40, e 41, e 42, e 43, e 44, e 45, e 46, e 47, e 48, e 49, e 50, e 51, e 52, e 53, e 54, e 55, e 56, e 57, e 58, e 59, e 60, e 61, e 62, e 63, e 64, e 65, e 66, e 67, e 68, e 69, e 70, e 71, e 72, e 73, e 74, e 75, e 76, e 77, e 78, e 79, e 80, e 81, e 82, e 83, e 84, e 85, e 86, e 87, e 88, e 89, e 90, e 91, e 92, e 93, e 94, e 95, e 96, e 97, e 98, e 99, e 100, e 101, e 102, e 103, e 104, e 105, e 106, e 107, e 108, e 109, e 110, e 111, e 112, e 113, e 114, e 115, e 116, e 117, e 118, e 119, e 120, e 121, e 122, e 123, e 124, e 125, e 126, e 127, e 128, e 129, e 130, e 131, e 132, (vs a257 ([ya, yb, yc, yd, ye, yf, yg, yz] : List Int).length c258), (vi (([ya, yb, yc, yd, ye, yf, yg, yz] : List Int).length : Int)), (vi (((m + 1) : Nat) : Int)), e 136, e 137, e 138, e 139, e 140, e 141, e 142, e 143, e 144, e 145, e 146, e 147, e 148, e 149, U]) rfl ?_ ?_ ?_
     · exact ⟨rfl, rfl, rfl, rfl, rfl, rfl, rfl, rfl, rfl, rfl, rfl, rfl, rfl, rfl, rfl, rfl, rfl, rfl, rfl, rfl, rfl, rfl, rfl, rfl, rfl, rfl, rfl, rfl, rfl, rfl, rfl, rfl, rfl, rfl, rfl, rfl, rfl, rfl, rfl, rfl, rfl, rfl, rfl, rfl, rfl, rfl, rfl, rfl, rfl, rfl, rfl, rfl, rfl, rfl, rfl, rfl, rfl, rfl, rfl, rfl, rfl, rfl, rfl, rfl, rfl, rfl, rfl, rfl, rfl, rfl, rfl, rfl, rfl, rfl, rfl, rfl, rfl, rfl, rfl, rfl, rfl, rfl, rfl, rfl, rfl, rfl, rfl, rfl, rfl, rfl, rfl, rfl, rfl, rfl, rfl, rfl, rfl, rfl, rfl, rfl, rfl, rfl, rfl, rfl, rfl, rfl, rfl, rfl, rfl, rfl, rfl, rfl, rfl, rfl, rfl, rfl, rfl, rfl, rfl, rfl, rfl, rfl, rfl, rfl, rfl, rfl, rfl, rfl, rfl, rfl, rfl, rfl, rfl, rfl, rfl, (congrArg (Value.int .i64) (show ((((m : Nat) : Int) + 1) : Int) = (((m + 1) : Nat) : Int) by omega)), rfl, rfl, rfl, rfl, rfl, rfl, rfl, rfl, rfl, rfl, rfl, rfl, rfl, rfl, rfl, trivial⟩
     · exact fun u => ⟨(m + 1), (unL [u 1, u 2, u 3, u 6, u 7, u 8, u 9, u 10, u 11, u 12, u 13, u 14, u 15, u 16, u 17, u 18, u 19, u 20, u 21, u 22, u 23, u 24, u 25, u 26, u 27, u 28, u 29, u 30, u 31, u 32, u 33, u 34, u 35, u 36, u 37, u 38, u 39, u 40, u 41, u 42, u 43, u 44, u 45, u 46, u 47, u 48, u 49, u 50, u 51, u 52, u 53, u 54, u 55, u 56, u 57, u 58, u 59, u 60, u 61, u 62, u 63, u 64, u 65, u 66, u 67, u 68, u 69, u 70, u 71, u 72, u 73, u 74, u 75, u 76, u 77, u 78, u 79, u 80, u 81, u 82, u 83, u 84, u 85, u 86, u 87, u 88, u 89, u 90, u 91, u 92, u 93, u 94, u 95, u 96, u 97, u 98, u 99, u 100, u 101, u 102, u 103, u 104, u 105, u 106, u 107, u 108, u 109, u 110, u 111, u 112, u 113, u 114, u 115, u 116, u 117, u 118, u 119, u 120, u 121, u 122, u 123, u 124, u 125, u 126, u 127, u 128, u 129, u 130, u 131, u 132, u 136, u 137, u 138, u 139, u 140, u 141, u 142, u 143, u 144, u 145, u 146, u 147, u 148, u 149]), rfl, m278, ((((Ch.refl (fun k => w0.heap.size ≤ k) w7).ext k267 (fun k hk => hk)).extk k273).ext k276 (fun k hk => Nat.le_trans (Nat.le_refl w0.heap.size) (own_lt o18 k hk).1)), (by omega), (by rw [← hE279]; exact o277), (by rw [← hE280]; exact o281)⟩
     · show (8 - (((m + 1) : Nat) : Int)).toNat < (8 - ((m : Nat) : Int)).toNat; omega
   have q117 := of_decide_eq_true h116
   refine ct h116 ?_
   refine wc_skip <| wq_then <| wc_seq <| wc_block <| sr ?_
   refine mw (vi ye) ?_
   refine mw (vi yf) ?_
   refine wl_andG ye yf wN rfl rfl (by kernel_rfl) (by omega) (by omega) (by omega) (by omega) ?_
   have q118 := andI_b (a := ye) (b := yf) (by omega)
   refine mw (vi ye) ?_
   refine wl_xor 4294967295 ye wN rfl rfl (by kernel_rfl) (by omega) (by omega) (by omega) (by omega) ?_
   have q119 := xorI_b (a := 4294967295) (b := ye) (by omega) (by omega)
   refine mw (vi yg) ?_
   refine wl_andG (xorI 4294967295 ye) yg wN rfl rfl (by kernel_rfl) (by omega) (by omega) (by omega) (by omega) ?_
   have q120 := andI_b (a := (xorI 4294967295 ye)) (b := yg) (by omega)
   refine wl_xor (andI ye yf) (andI (xorI 4294967295 ye) yg) wN rfl rfl (by kernel_rfl) (by omega) (by omega) (by omega) (by omega) ?_
   have q121 := xorI_b (a := (andI ye yf)) (b := (andI (xorI 4294967295 ye) yg)) (by omega) (by omega)
   refine aw (vi (xorI (andI ye yf) (andI (xorI 4294967295 ye) yg))) ?_
   refine nx ?_
   refine mw (vi ya) ?_
   refine mw (vi yb) ?_
   refine wl_andG ya yb wN rfl rfl (by kernel_rfl) (by omega) (by omega) (by omega) (by omega) ?_
   have q122 := andI_b (a := ya) (b := yb) (by omega)
   refine mw (vi ya) ?_
   refine mw (vi yc) ?_
   refine wl_andG ya yc wN rfl rfl (by kernel_rfl) (by omega) (by omega) (by omega) (by omega) ?_
   have q123 := andI_b (a := ya) (b := yc) (by omega)
   refine wl_xor (andI ya yb) (andI ya yc) wN rfl rfl (by kernel_rfl) (by omega) (by omega) (by omega) (by omega) ?_
   have q124 := xorI_b (a := (andI ya yb)) (b := (andI ya yc)) (by omega) (by omega)
   refine mw (vi yb) ?_
   refine mw (vi yc) ?_
   refine wl_andG yb yc wN rfl rfl (by kernel_rfl) (by omega) (by omega) (by omega) (by omega) ?_
   have q125 := andI_b (a := yb) (b := yc) (by omega)
   refine wl_xor (xorI (andI ya yb) (andI ya yc)) (andI yb yc) wN rfl rfl (by kernel_rfl) (by omega) (by omega) (by omega) (by omega) ?_
   have q126 := xorI_b (a := (xorI (andI ya yb) (andI ya yc))) (b := (andI yb yc)) (by omega) (by omega)
   refine aw (vi (xorI (xorI (andI ya yb) (andI ya yc)) (andI yb yc))) ?_
   refine wl_nil <| wq_then <| wc_seq ?_
   refine wc_drawT ([(83, [], [], (fun _ v _ => v = (vi yz))), (84, [], [], (fun _ v _ => v = (vi ye))), (85, [], [1], (fun _ v w => v = .int .i64 (rot ye 6))), (86, [], [], (fun _ v _ => v = (vi ye))), (87, [], [1, 2, 3], (fun _ v w => v = .int .i64 (rot ye 11))), (88, [], [1, 2, 3, 4], (fun _ v _ => v = (vi (xorI (rot ye 6) (rot ye 11))))), (89, [], [], (fun _ v _ => v = (vi ye))), (90, [], [1, 2, 3, 4, 6], (fun _ v w => v = .int .i64 (rot ye 25))), (91, [], [1, 2, 3, 4, 5, 6, 7], (fun _ v _ => v = (vi (xorI (xorI (rot ye 6) (rot ye 11)) (rot ye 25))))), (92, [], [0, 1, 2, 3, 4, 5, 6, 7, 8], (fun _ v _ => v = (vi (yz + (xorI (xorI (rot ye 6) (rot ye 11)) (rot ye 25)))))), (93, [], [], (fun _ v _ => v = (vi (xorI (andI ye yf) (andI (xorI 4294967295 ye) yg))))), (94, [], [0, 1, 2, 3, 4, 5, 6, 7, 8, 9, 10], (fun _ v _ => v = (vi ((yz + (xorI (xorI (rot ye 6) (rot ye 11)) (rot ye 25))) + (xorI (andI ye yf) (andI (xorI 4294967295 ye) yg)))))), (95, [], [], (fun _ v _ => v = (vi ((k : Nat) : Int)))), (96, [], [1, 2, 3, 4, 6, 7, 12], (fun _ v w => v = .int .i64 (rw64 ((k : Nat) : Int)))), (97, [], [0, 1, 2, 3, 4, 5, 6, 7, 8, 9, 10, 11, 12, 13], (fun _ v _ => v = (vi (((yz + (xorI (xorI (rot ye 6) (rot ye 11)) (rot ye 25))) + (xorI (andI ye yf) (andI (xorI 4294967295 ye) yg))) + (rw64 ((k : Nat) : Int)))))), (98, [], [], (fun _ v _ => v = (vs a32 (schedP x_block).length c33))), (99, [], [], (fun _ v _ => v = (vi ((k : Nat) : Int)))), (100, [], [15, 16], (fun _ v _ => v = (ve (vs a32 (schedP x_block).length c33) ((((k : Nat) : Int)).toNat * 1)))), (101, [], [15, 16, 17], (fun _ v _ => v = (vi zw)))] : GV) (fun _ w' => Keep w6 w') [] mixed rfl (by kernel_rfl) (by kernel_rfl) ?_ (fun _ _ h => h) (fun _ _ _ _ h _ k => h.trans k) trivial ?_ ?_ ?_
   ·exact ⟨(fun _ _ _ _ h _ => h), (fun _ _ _ _ _ h => h), ⟨(fun _ _ _ _ h _ => h), (fun _ _ _ _ _ h => h), ⟨(fun _ _ _ _ h _ => h), (fun _ _ _ _ _ h => h), ⟨(fun _ _ _ _ h _ => h), (fun _ _ _ _ _ h => h), ⟨(fun _ _ _ _ h _ => h), (fun _ _ _ _ _ h => h), ⟨(fun _ _ _ _ h _ => h), (fun _ _ _ _ _ h => h), ⟨(fun _ _ _ _ h _ => h), (fun _ _ _ _ _ h => h), ⟨(fun _ _ _ _ h _ => h), (fun _ _ _ _ _ h => h), ⟨(fun _ _ _ _ h _ => h), (fun _ _ _ _ _ h => h), ⟨(fun _ _ _ _ h _ => h), (fun _ _ _ _ _ h => h), ⟨(fun _ _ _ _ h _ => h), (fun _ _ _ _ _ h => h), ⟨(fun _ _ _ _ h _ => h), (fun _ _ _ _ _ h => h), ⟨(fun _ _ _ _ h _ => h), (fun _ _ _ _ _ h => h), ⟨(fun _ _ _ _ h _ => h), (fun _ _ _ _ _ h => h), ⟨(fun _ _ _ _ h _ => h), (fun _ _ _ _ _ h => h), ⟨(fun _ _ _ _ h _ => h), (fun _ _ _ _ _ h => h), ⟨(fun _ _ _ _ h _ => h), (fun _ _ _ _ _ h => h), ⟨(fun _ _ _ _ h _ => h), (fun _ _ _ _ _ h => h), ⟨(fun _ _ _ _ h _ => h), (fun _ _ _ _ _ h => h), trivial⟩⟩⟩⟩⟩⟩⟩⟩⟩⟩⟩⟩⟩⟩⟩⟩⟩⟩⟩
   ·exact trivial
   ·refine ⟨?_, ⟨?_, ⟨?_, ⟨?_, ⟨?_, ⟨?_, ⟨?_, ⟨?_, ⟨?_, ⟨?_, ⟨?_, ⟨?_, ⟨?_, ⟨?_, ⟨?_, ⟨?_, ⟨?_, ⟨?_, ⟨?_, trivial⟩⟩⟩⟩⟩⟩⟩⟩⟩⟩⟩⟩⟩⟩⟩⟩⟩⟩⟩
    ·intro _ w7 k145 _
     have m146 := m105.extk k145
     rintro _ _ _ _ _ _ _ _ _ _ _ _ _ _ _ _ _ _ _
     show WL _ _ _ _ _ _ _
     refine mw (vi yz) ?_
     exact f1
    ·intro _ w7 k147 _
     have m148 := m105.extk k147
     rintro _ _ _ _ _ _ _ _ _ _ _ _ _ _ _ _ _ _ _
     show WL _ _ _ _ _ _ _
     refine mw (vi ye) ?_
     exact f1
    ·intro _ w7 k149 _
     have m150 := m105.extk k149
     rintro _ _ rfl _ _ _ _ _ _ _ _ _ _ _ _ _ _ _ _ _
     show WL _ _ _ _ _ _ _
     refine cl wN (C_impl_Rot w7 ye 6 (by omega) (by omega)) ?_
     rintro _ w8 ⟨k151, rfl⟩
     have m152 := m150.extk k151
     have q153 := rot_b ye 6
     exact wl_finT k151 rfl
    ·intro _ w7 k154 _
     have m155 := m105.extk k154
     rintro _ _ _ _ _ _ _ _ _ _ _ _ _ _ _ _ _ _ _
     show WL _ _ _ _ _ _ _
     refine mw (vi ye) ?_
     exact f1
    ·intro _ w7 k156 _
     have m157 := m105.extk k156
     rintro _ _ rfl _ rfl
     have q158 := rot_b ye 6
     rintro _ rfl _ _ _ _ _ _ _ _ _ _ _ _ _ _ _
     show WL _ _ _ _ _ _ _
     refine cl wN (C_impl_Rot w7 ye 11 (by omega) (by omega)) ?_
     rintro _ w8 ⟨k159, rfl⟩
     have m160 := m157.extk k159
     have q161 := rot_b ye 11
     exact wl_finT k159 rfl
    ·intro _ w7 k162 _
     have m163 := m105.extk k162
     rintro _ _ rfl _ rfl
     have q164 := rot_b ye 6
     rintro _ rfl _ rfl
     have q165 := rot_b ye 11
     rintro _ _ _ _ _ _ _ _ _ _ _ _ _ _
     show WL _ _ _ _ _ _ _
     refine wl_xor (rot ye 6) (rot ye 11) wN rfl rfl (by kernel_rfl) (by omega) (by omega) (by omega) (by omega) ?_
     have q166 := xorI_b (a := (rot ye 6)) (b := (rot ye 11)) (by omega) (by omega)
     exact f1
    ·intro _ w7 k167 _
     have m168 := m105.extk k167
     rintro _ _ _ _ _ _ _ _ _ _ _ _ _ _ _ _ _ _ _
     show WL _ _ _ _ _ _ _
     refine mw (vi ye) ?_
     exact f1
    ·intro _ w7 k169 _
     have m170 := m105.extk k169
     rintro _ _ rfl _ rfl
     have q171 := rot_b ye 6
     rintro _ rfl _ rfl
     have q172 := rot_b ye 11
     rintro _ _ rfl _ _ _ _ _ _ _ _ _ _ _ _
     show WL _ _ _ _ _ _ _
     refine cl wN (C_impl_Rot w7 ye 25 (by omega) (by omega)) ?_
     rintro _ w8 ⟨k173, rfl⟩
     have m174 := m170.extk k173
     have q175 := rot_b ye 25
     exact wl_finT k173 rfl
    ·intro _ w7 k176 _
     have m177 := m105.extk k176
     rintro _ _ rfl _ rfl
     have q178 := rot_b ye 6
     rintro _ rfl _ rfl
     have q179 := rot_b ye 11
     rintro _ rfl
     have q180 := xorI_b (a := (rot ye 6)) (b := (rot ye 11)) (by omega) (by omega)
     rintro _ rfl _ rfl
     have q181 := rot_b ye 25
     rintro _ _ _ _ _ _ _ _ _ _ _
     show WL _ _ _ _ _ _ _
     refine wl_xor (xorI (rot ye 6) (rot ye 11)) (rot ye 25) wN rfl rfl (by kernel_rfl) (by omega) (by omega) (by omega) (by omega) ?_
     have q182 := xorI_b (a := (xorI (rot ye 6) (rot ye 11))) (b := (rot ye 25)) (by omega) (by omega)
     exact f1
    ·intro _ w7 k183 _
     have m184 := m105.extk k183
     rintro _ rfl _ rfl _ rfl
     have q185 := rot_b ye 6
     rintro _ rfl _ rfl
     have q186 := rot_b ye 11
     rintro _ rfl
     have q187 := xorI_b (a := (rot ye 6)) (b := (rot ye 11)) (by omega) (by omega)
     rintro _ rfl _ rfl
     have q188 := rot_b ye 25
     rintro _ rfl
     have q189 := xorI_b (a := (xorI (rot ye 6) (rot ye 11))) (b := (rot ye 25)) (by omega) (by omega)
     rintro _ _ _ _ _ _ _ _ _ _
     show WL _ _ _ _ _ _ _
     refine ar (yz + (xorI (xorI (rot ye 6) (rot ye 11)) (rot ye 25))) wN ?_
     exact f1
    ·intro _ w7 k190 _
     have m191 := m105.extk k190
     rintro _ _ _ _ _ _ _ _ _ _ _ _ _ _ _ _ _ _ _
     show WL _ _ _ _ _ _ _
     refine mw (vi (xorI (andI ye yf) (andI (xorI 4294967295 ye) yg))) ?_
     exact f1
    ·intro _ w7 k192 _
     have m193 := m105.extk k192
     rintro _ rfl _ rfl _ rfl
     have q194 := rot_b ye 6
     rintro _ rfl _ rfl
     have q195 := rot_b ye 11
     rintro _ rfl
     have q196 := xorI_b (a := (rot ye 6)) (b := (rot ye 11)) (by omega) (by omega)
     rintro _ rfl _ rfl
     have q197 := rot_b ye 25
     rintro _ rfl
     have q198 := xorI_b (a := (xorI (rot ye 6) (rot ye 11))) (b := (rot ye 25)) (by omega) (by omega)
     rintro _ rfl _ rfl _ _ _ _ _ _ _ _
     show WL _ _ _ _ _ _ _
     refine ar ((yz + (xorI (xorI (rot ye 6) (rot ye 11)) (rot ye 25))) + (xorI (andI ye yf) (andI (xorI 4294967295 ye) yg))) wN ?_
     exact f1
    ·intro _ w7 k199 _
     have m200 := m105.extk k199
     rintro _ _ _ _ _ _ _ _ _ _ _ _ _ _ _ _ _ _ _
     show WL _ _ _ _ _ _ _
     refine mw (vi ((k : Nat) : Int)) ?_
     exact f1
    ·intro _ w7 k201 _
     have m202 := m105.extk k201
     rintro _ _ rfl _ rfl
     have q203 := rot_b ye 6
     rintro _ rfl _ rfl
     have q204 := rot_b ye 11
     rintro _ _ rfl _ rfl
     have q205 := rot_b ye 25
     rintro _ _ _ _ _ rfl _ _ _ _ _ _
     show WL _ _ _ _ _ _ _
     refine cl wN (C_impl_RoundWord w7 ((k : Nat) : Int)) ?_
     rintro _ w8 ⟨k206, rfl⟩
     have m207 := m202.extk k206
     have q208 := rw64_b ((k : Nat) : Int)
     exact wl_finT k206 rfl
    ·intro _ w7 k209 _
     have m210 := m105.extk k209
     rintro _ rfl _ rfl _ rfl
     have q211 := rot_b ye 6
     rintro _ rfl _ rfl
     have q212 := rot_b ye 11
     rintro _ rfl
     have q213 := xorI_b (a := (rot ye 6)) (b := (rot ye 11)) (by omega) (by omega)
     rintro _ rfl _ rfl
     have q214 := rot_b ye 25
     rintro _ rfl
     have q215 := xorI_b (a := (xorI (rot ye 6) (rot ye 11))) (b := (rot ye 25)) (by omega) (by omega)
     rintro _ rfl _ rfl _ rfl _ rfl _ rfl
     have q216 := rw64_b ((k : Nat) : Int)
     rintro _ _ _ _ _
     show WL _ _ _ _ _ _ _
     refine ar (((yz + (xorI (xorI (rot ye 6) (rot ye 11)) (rot ye 25))) + (xorI (andI ye yf) (andI (xorI 4294967295 ye) yg))) + (rw64 ((k : Nat) : Int))) wN ?_
     exact f1
    ·intro _ w7 k217 _
     have m218 := m105.extk k217
     rintro _ _ _ _ _ _ _ _ _ _ _ _ _ _ _ _ _ _ _
     show WL _ _ _ _ _ _ _
     refine mw (vs a32 (schedP x_block).length c33) ?_
     exact f1
    ·intro _ w7 k219 _
     have m220 := m105.extk k219
     rintro _ _ _ _ _ _ _ _ _ _ _ _ _ _ _ _ _ _ _
     show WL _ _ _ _ _ _ _
     refine mw (vi ((k : Nat) : Int)) ?_
     exact f1
    ·intro _ w7 k221 _
     have m222 := m105.extk k221
     rintro _ _ _ _ _ _ _ _ _ _ _ _ _ _ _ _ rfl _ rfl _ _
     show WL _ _ _ _ _ _ _
     have o223 := (own_kp (own_ch (own_kp o34 k102) k106 (fun g hg hlt hk => by have h1 := (own_lt o34 g hg).2; have h2 : w4.heap.size ≤ w5.heap.size := k102.size; have h3 : w5.heap.size ≤ g := hk; omega)) k221)
     refine wl_index (v := (vs a32 (schedP x_block).length c33)) wN ((k : Nat) : Int) rfl rfl rfl slTy_32 rfl rfl (Rd.of_own o223) (by first | omega | (simp only [List.length_cons, List.length_nil, List.length_replicate, List.length_append, List.length_take, List.length_set, List.length_map]; omega)) (by first | omega | (simp only [List.length_cons, List.length_nil, List.length_replicate, List.length_append, List.length_take, List.length_set, List.length_map]; omega)) ?_
     exact f1
    ·intro _ w7 k224 _
     have m225 := m105.extk k224
     rintro _ _ _ _ _ _ _ _ _ _ _ _ _ _ _ _ rfl _ rfl _ rfl _
     show WL _ _ _ _ _ _ _
     have o227 := (own_kp (own_ch (own_kp o34 k102) k106 (fun g hg hlt hk => by have h1 := (own_lt o34 g hg).2; have h2 : w4.heap.size ≤ w5.heap.size := k102.size; have h3 : w5.heap.size ≤ g := hk; omega)) k224)
     refine wl_loadE (iV zw) wN rfl rfl rfl rfl isAgg_3 (Rd.of_own o227) (by rw [← hzw]; exact iget (by simp) (by first | omega | (simp only [List.length_cons, List.length_nil, List.length_replicate, List.length_append, List.length_take, List.length_set, List.length_map]; omega))) ?_
     exact f1
   ·intro _ w7 k228
    have m229 := m105.extk k228
    rintro _ rfl _ rfl _ rfl
    have q230 := rot_b ye 6
    rintro _ rfl _ rfl
    have q231 := rot_b ye 11
    rintro _ rfl
    have q232 := xorI_b (a := (rot ye 6)) (b := (rot ye 11)) (by omega) (by omega)
    rintro _ rfl _ rfl
    have q233 := rot_b ye 25
    rintro _ rfl
    have q234 := xorI_b (a := (xorI (rot ye 6) (rot ye 11))) (b := (rot ye 25)) (by omega) (by omega)
    rintro _ rfl _ rfl _ rfl _ rfl _ rfl
    have q235 := rw64_b ((k : Nat) : Int)
    rintro _ rfl _ rfl _ rfl _ rfl _ rfl
    show WL _ _ _ _ _ _ _
    refine ar ((((yz + (xorI (xorI (rot ye 6) (rot ye 11)) (rot ye 25))) + (xorI (andI ye yf) (andI (xorI 4294967295 ye) yg))) + (rw64 ((k : Nat) : Int))) + zw) wN ?_
    refine aw (vi ((((yz + (xorI (xorI (rot ye 6) (rot ye 11)) (rot ye 25))) + (xorI (andI ye yf) (andI (xorI 4294967295 ye) yg))) + (rw64 ((k : Nat) : Int))) + zw)) ?_
    refine nx ?_
    refine mw (vi ya) ?_
    refine cl wN (C_impl_Rot w7 ya 2 (by omega) (by omega)) ?_
    rintro _ w8 ⟨k238, rfl⟩
    have m239 := m229.extk k238
    have q240 := rot_b ya 2
    refine mw (vi ya) ?_
    refine cl wN (C_impl_Rot w8 ya 13 (by omega) (by omega)) ?_
    rintro _ w9 ⟨k241, rfl⟩
    have m242 := m239.extk k241
    have q243 := rot_b ya 13
    refine wl_xor (rot ya 2) (rot ya 13) wN rfl rfl (by kernel_rfl) (by omega) (by omega) (by omega) (by omega) ?_
    have q244 := xorI_b (a := (rot ya 2)) (b := (rot ya 13)) (by omega) (by omega)
    refine mw (vi ya) ?_
    refine cl wN (C_impl_Rot w9 ya 22 (by omega) (by omega)) ?_
    rintro _ w10 ⟨k245, rfl⟩
    have m246 := m242.extk k245
    have q247 := rot_b ya 22
    refine wl_xor (xorI (rot ya 2) (rot ya 13)) (rot ya 22) wN rfl rfl (by kernel_rfl) (by omega) (by omega) (by omega) (by omega) ?_
    have q248 := xorI_b (a := (xorI (rot ya 2) (rot ya 13))) (b := (rot ya 22)) (by omega) (by omega)
    refine mw (vi (xorI (xorI (andI ya yb) (andI ya yc)) (andI yb yc))) ?_
    refine ar ((xorI (xorI (rot ya 2) (rot ya 13)) (rot ya 22)) + (xorI (xorI (andI ya yb) (andI ya yc)) (andI yb yc))) wN ?_
    refine aw (vi ((xorI (xorI (rot ya 2) (rot ya 13)) (rot ya 22)) + (xorI (xorI (andI ya yb) (andI ya yc)) (andI yb yc)))) ?_
    refine nx ?_
    refine mw (vi yg) ?_
    refine mw (vi yf) ?_
    refine mw (vi ye) ?_
    refine mw (vi yd) ?_
    refine mw (vi ((((yz + (xorI (xorI (rot ye 6) (rot ye 11)) (rot ye 25))) + (xorI (andI ye yf) (andI (xorI 4294967295 ye) yg))) + (rw64 ((k : Nat) : Int))) + zw)) ?_
    refine cl wN (C_impl_Add32 w10 yd ((((yz + (xorI (xorI (rot ye 6) (rot ye 11)) (rot ye 25))) + (xorI (andI ye yf) (andI (xorI 4294967295 ye) yg))) + (rw64 ((k : Nat) : Int))) + zw) (by omega) (by omega) (by omega) (by omega)) ?_
    rintro _ w11 ⟨k249, rfl⟩
    have m250 := m246.extk k249
    refine aw (vi yg) ?_
    refine aw (vi yf) ?_
    refine aw (vi ye) ?_
    refine aw (vi (F_impl_Add32 yd ((((yz + (xorI (xorI (rot ye 6) (rot ye 11)) (rot ye 25))) + (xorI (andI ye yf) (andI (xorI 4294967295 ye) yg))) + (rw64 ((k : Nat) : Int))) + zw))) ?_
    refine wl_nil <| wq_then <| wc_region ?_
    refine mw (vi yc) ?_
    refine mw (vi yb) ?_
    refine mw (vi ya) ?_
    refine mw (vi ((((yz + (xorI (xorI (rot ye 6) (rot ye 11)) (rot ye 25))) + (xorI (andI ye yf) (andI (xorI 4294967295 ye) yg))) + (rw64 ((k : Nat) : Int))) + zw)) ?_
    refine mw (vi ((xorI (xorI (rot ya 2) (rot ya 13)) (rot ya 22)) + (xorI (xorI (andI ya yb) (andI ya yc)) (andI yb yc)))) ?_
    refine cl wN (C_impl_Add32 w11 ((((yz + (xorI (xorI (rot ye 6) (rot ye 11)) (rot ye 25))) + (xorI (andI ye yf) (andI (xorI 4294967295 ye) yg))) + (rw64 ((k : Nat) : Int))) + zw) ((xorI (xorI (rot ya 2) (rot ya 13)) (rot ya 22)) + (xorI (xorI (andI ya yb) (andI ya yc)) (andI yb yc))) (by omega) (by omega) (by omega) (by omega)) ?_
    rintro _ w12 ⟨k251, rfl⟩
    have m252 := m250.extk k251
    refine aw (vi yc) ?_
    refine aw (vi yb) ?_
    refine aw (vi ya) ?_
    refine aw (vi (F_impl_Add32 ((((yz + (xorI (xorI (rot ye 6) (rot ye 11)) (rot ye 25))) + (xorI (andI ye yf) (andI (xorI 4294967295 ye) yg))) + (rw64 ((k : Nat) : Int))) + zw) ((xorI (xorI (rot ya 2) (rot ya 13)) (rot ya 22)) + (xorI (xorI (andI ya yb) (andI ya yc)) (andI yb yc))))) ?_
    refine wl_nil <| wq_blk_normal <| wq_then <| wc_region ?_
    refine mw (vi ((k : Nat) : Int)) ?_
    refine ar (((k : Nat) : Int) + 1) wN ?_
    refine aw (vi (((k : Nat) : Int) + 1)) ?_
    refine wl_nil ?_
    refine wq_loopQ (w0 := w6) (fun e => [(vs a1 x_h.length c2), e 1, e 2, e 3, (vs none 0 0), (vs a20 x_h.length c21), (vs a32 (schedP x_block).length c33), (vi ((cmpN (schedP x_block) (s8of x_h) (k + 1)).a)), (vi ((cmpN (schedP x_block) (s8of x_h) (k + 1)).b)), (vi ((cmpN (schedP x_block) (s8of x_h) (k + 1)).c)), (vi ((cmpN (schedP x_block) (s8of x_h) (k + 1)).d)), (vi ((cmpN (schedP x_block) (s8of x_h) (k + 1)).e)), (vi ((cmpN (schedP x_block) (s8of x_h) (k + 1)).f)), (vi ((cmpN (schedP x_block) (s8of x_h) (k + 1)).g)), (vi ((cmpN (schedP x_block) (s8of x_h) (k + 1)).z)), (vi (((k + 1) : Nat) : Int)), e 16, e 17, e 18, e 19, U, U, e 22, e 23, e 24, e 25, e 26, e 27, e 28, e 29, e 30, e 31, e 32, e 33, e 34, e 35, e 36, e 37, e 38, e 39, e 40, e 41, e 42, e 43, e 44, e 45, e 46, e 47, e 48, e 49, e 50, e 51, e 52, e 53, e 54, e 55, e 56, e 57, e 58, e 59, e 60, e 61, e 62, e 63, e 64, e 65, e 66, e 67, e 68, e 69, e 70, e 71, e 72, e 73, e 74, e 75, e 76, e 77, e 78, e 79, e 80, e 81, e 82, e 83, e 84, e 85, e 86, e 87, e 88, e 89, e 90, e 91, e 92, e 93, e 94, e 95, e 96, e 97, e 98, e 99, e 100, e 101, e 102, e 103, e 104, e 105, e 106, e 107, e 108, e 109, e 110, e 111, e 112, e 113, e 114, e 115, e 116, e 117, e 118, e 119, e 120, e 121, e 122, e 123, e 124, U, U, U, U, U, U, U, U, U, U, U, U, U, U, U, U, U, U, U, U, U, U, U, U, U, U]) rfl ?_ ?_ ?_
    · exact ⟨rfl, rfl, rfl, rfl, rfl, rfl, rfl, (congrArg (Value.int .i64) (show ((F_impl_Add32 ((((yz + (xorI (xorI (rot ye 6) (rot ye 11)) (rot ye 25))) + (xorI (andI ye yf) (andI (xorI 4294967295 ye) yg))) + (rw64 ((k : Nat) : Int))) + zw) ((xorI (xorI (rot ya 2) (rot ya 13)) (rot ya 22)) + (xorI (xorI (andI ya yb) (andI ya yc)) (andI yb yc)))) : Int) = (cmpN (schedP x_block) (s8of x_h) (k + 1)).a by subst hzw hzk hi_a hi_b hi_c hi_d hi_e hi_f hi_g hi_z; exact cmp_ia (by omega) rfl)), (congrArg (Value.int .i64) (show (ya : Int) = (cmpN (schedP x_block) (s8of x_h) (k + 1)).b by rw [hi_a]; rfl)), (congrArg (Value.int .i64) (show (yb : Int) = (cmpN (schedP x_block) (s8of x_h) (k + 1)).c by rw [hi_b]; rfl)), (congrArg (Value.int .i64) (show (yc : Int) = (cmpN (schedP x_block) (s8of x_h) (k + 1)).d by rw [hi_c]; rfl)), (congrArg (Value.int .i64) (show ((F_impl_Add32 yd ((((yz + (xorI (xorI (rot ye 6) (rot ye 11)) (rot ye 25))) + (xorI (andI ye yf) (andI (xorI 4294967295 ye) yg))) + (rw64 ((k : Nat) : Int))) + zw)) : Int) = (cmpN (schedP x_block) (s8of x_h) (k + 1)).e by subst hzw hzk hi_a hi_b hi_c hi_d hi_e hi_f hi_g hi_z; exact cmp_ie (by omega) rfl)), (congrArg (Value.int .i64) (show (ye : Int) = (cmpN (schedP x_block) (s8of x_h) (k + 1)).f by rw [hi_e]; rfl)), (congrArg (Value.int .i64) (show (yf : Int) = (cmpN (schedP x_block) (s8of x_h) (k + 1)).g by rw [hi_f]; rfl)), (congrArg (Value.int .i64) (show (yg : Int) = (cmpN (schedP x_block) (s8of x_h) (k + 1)).z by rw [hi_g]; rfl)), (congrArg (Value.int .i64) (show ((((k : Nat) : Int) + 1) : Int) = (((k + 1) : Nat) : Int) by omega)), rfl, rfl, rfl, rfl, rfl, rfl, rfl, rfl, rfl, rfl, rfl, rfl, rfl, rfl, rfl, rfl, rfl, rfl, rfl, rfl, rfl, rfl, rfl, rfl, rfl, rfl, rfl, rfl, rfl, rfl, rfl, rfl, rfl, rfl, rfl, rfl, rfl, rfl, rfl, rfl, rfl, rfl, rfl, rfl, rfl, rfl, rfl, rfl, rfl, rfl, rfl, rfl, rfl, rfl, rfl, rfl, rfl, rfl, rfl, rfl, rfl, rfl, rfl, rfl, rfl, rfl, rfl, rfl, rfl, rfl, rfl, rfl, rfl, rfl, rfl, rfl, rfl, rfl, rfl, rfl, rfl, rfl, rfl, rfl, rfl, rfl, rfl, rfl, rfl, rfl, rfl, rfl, rfl, rfl, rfl, rfl, rfl, rfl, rfl, rfl, rfl, rfl, rfl, rfl, rfl, rfl, rfl, rfl, rfl, rfl, rfl, rfl, rfl, rfl, rfl, rfl, rfl, rfl, rfl, rfl, rfl, rfl, rfl, rfl, rfl, rfl, rfl, rfl, rfl, rfl, rfl, rfl, rfl, rfl, rfl, trivial⟩
    · exact fun u => ⟨(k + 1), (cmpN (schedP x_block) (s8of x_h) (k + 1)).a, (cmpN (schedP x_block) (s8of x_h) (k + 1)).b, (cmpN (schedP x_block) (s8of x_h) (k + 1)).c, (cmpN (schedP x_block) (s8of x_h) (k + 1)).d, (cmpN (schedP x_block) (s8of x_h) (k + 1)).e, (cmpN (schedP x_block) (s8of x_h) (k + 1)).f, (cmpN (schedP x_block) (s8of x_h) (k + 1)).g, (cmpN (schedP x_block) (s8of x_h) (k + 1)).z, (unL [u 1, u 2, u 3, u 16, u 17, u 18, u 19, u 22, u 23, u 24, u 25, u 26, u 27, u 28, u 29, u 30, u 31, u 32, u 33, u 34, u 35, u 36, u 37, u 38, u 39, u 40, u 41, u 42, u 43, u 44, u 45, u 46, u 47, u 48, u 49, u 50, u 51, u 52, u 53, u 54, u 55, u 56, u 57, u 58, u 59, u 60, u 61, u 62, u 63, u 64, u 65, u 66, u 67, u 68, u 69, u 70, u 71, u 72, u 73, u 74, u 75, u 76, u 77, u 78, u 79, u 80, u 81, u 82, u 83, u 84, u 85, u 86, u 87, u 88, u 89, u 90, u 91, u 92, u 93, u 94, u 95, u 96, u 97, u 98, u 99, u 100, u 101, u 102, u 103, u 104, u 105, u 106, u 107, u 108, u 109, u 110, u 111, u 112, u 113, u 114, u 115, u 116, u 117, u 118, u 119, u 120, u 121, u 122, u 123, u 124]), rfl, m252, ((((((((Ch.refl (fun k => w5.heap.size ≤ k) w5).ext k106 (fun k hk => hk)).extk k228).extk k238).extk k241).extk k245).extk k249).extk k251), (by omega), (by first | rfl | assumption), (by first | rfl | assumption), (by first | rfl | assumption), (by first | rfl | assumption), (by first | rfl | assumption), (by first | rfl | assumption), (by first | rfl | assumption), (by first | rfl | assumption)⟩
    · show (64 - (((k + 1) : Nat) : Int)).toNat < (64 - ((k : Nat) : Int)).toNat; omega

def R_32_22 (w : World) (v : Value) (x : (List Int) × (List UInt8)) : Prop := ∃ (a1 : Option Addr) (c1 : Nat) (a2 : Option Addr) (c2 : Nat), v = .tuple #[.slice a1 x.1.length c1, .slice a2 x.2.length c2] ∧ Rd w 1 (.slice a1 x.1.length c1) x.1.length (x.1.map iV) ∧ x.1.length ≤ 1073741824 ∧ Rd w 1 (.slice a2 x.2.length c2) x.2.length (x.2.map bV) ∧ x.2.length ≤ 1073741824
theorem C_impl_compressAll (w0 : World) (v_x_h : Value) (x_h : List Int) (r_x_h : R_32 w0 v_x_h x_h) (v_x_b : Value) (x_b : List UInt8) (r_x_b : R_22 w0 v_x_b x_b)  : Fn Try.prog 165 #[v_x_h, v_x_b] w0 (fun v w' => Keep w0 w' ∧ R_32_22 w' v (compAll x_h x_b)) := by
 obtain ⟨a1, c2, rfl, r3, s4⟩ := r_x_h
 obtain ⟨a6, c7, rfl, r8, s9⟩ := r_x_b
 refine fn_of (n := 17) (l := [(vs a1 x_h.length c2), (vs a6 x_b.length c7), U, U, U, U, U, U, U, U, U, U, U, U, U, U, U]) Try.func165 rfl rfl (by kernel_rfl) rfl ?_
 refine sr ?_
 refine aw (vs none 0 0) ?_
 refine aw (vs none 0 0) ?_
 refine wl_nil <| wq_then <| wc_seq <| wc_block ?_
 have hE12 : (x_h : List Int) = foldK x_h x_b 0 := by rfl
 have hE13 : (x_b : List UInt8) = x_b.drop (64 * 0) := by rfl
 refine wc_loopQ (fun e => [(.slice a1 (foldK x_h x_b 0).length c2), (.slice a6 (x_b.drop (64 * 0)).length c7), e 2, e 3, (vs none 0 0), (vs none 0 0), e 6, e 7, e 8, e 9, e 10, e 11, e 12, e 13, e 14, U, U]) rfl ⟨(congrArg (fun l : List Int => Value.slice a1 l.length c2) hE12), (congrArg (fun l : List UInt8 => Value.slice a6 l.length c7) hE13), rfl, rfl, rfl, rfl, rfl, rfl, rfl, rfl, rfl, rfl, rfl, rfl, rfl, rfl, rfl, trivial⟩ (fun e' w' => ∃ (k : Nat) (u11 : Nat → Value) (a0x : Option Addr) (c0x : Nat) (a1x : Option Addr) (c1x : Nat), e' = lst [(.slice a0x (foldK x_h x_b k).length c0x), (.slice a1x (x_b.drop (64 * k)).length c1x), (u11 0), (u11 1), (vs none 0 0), (vs none 0 0), (u11 2), (u11 3), (u11 4), (u11 5), (u11 6), (u11 7), (u11 8), (u11 9), (u11 10), U, U] ∧ Ch (fun k => w0.heap.size ≤ k) w0 w' ∧ Ch (fun k => w0.heap.size ≤ k) w0 w' ∧ 64 * k ≤ x_b.length ∧ (Rd w' 1 (.slice a0x (foldK x_h x_b k).length c0x) (foldK x_h x_b k).length ((foldK x_h x_b k).map iV) ∧ (foldK x_h x_b k).length ≤ 1073741824) ∧ (Rd w' 1 (.slice a1x (x_b.drop (64 * k)).length c1x) (x_b.drop (64 * k)).length ((x_b.drop (64 * k)).map bV) ∧ (x_b.drop (64 * k)).length ≤ 1073741824)) (fun e' _ => (lenOf (e' 1))) ?_ ?_
 ·exact fun u => ⟨0, (unL [u 2, u 3, u 6, u 7, u 8, u 9, u 10, u 11, u 12, u 13, u 14]), a1, c2, a6, c7, rfl, (Ch.base w0), (Ch.refl (fun k => w0.heap.size ≤ k) w0), (by omega), (hE12 ▸ ⟨r3, s4⟩), (hE13 ▸ ⟨r8, s9⟩)⟩
 ·rintro _ w1 ⟨k, u11, a0x, c0x, a1x, c1x, rfl, m14, k15, i16, ⟨o17, s18⟩, ⟨o19, s20⟩⟩
  have hdl : (x_b.drop (64 * k)).length = x_b.length - 64 * k := List.length_drop
  refine wc_seq <| sr ?_
  refine mw (vs a1x (x_b.drop (64 * k)).length c1x) ?_
  refine ln wN slTy_22 o19 ?_
  refine pu (vb (decide (64 ≤ ((x_b.drop (64 * k)).length : Int)))) wN ?_
  refine n2 ?_
  rcases bf (decide (64 ≤ ((x_b.drop (64 * k)).length : Int))) with h23 | h23
  ·have q44 := of_decide_eq_false h23
   refine cf h23 ?_
   refine wc_exit <| wq_then_exit <| wq_then_exit <| wq_blk_exit <| wq_then <| sr ?_
   refine mw (vs a0x (foldK x_h x_b k).length c0x) ?_
   refine mw (vs a1x (x_b.drop (64 * k)).length c1x) ?_
   refine aw (vs a0x (foldK x_h x_b k).length c0x) ?_
   refine aw (vs a1x (x_b.drop (64 * k)).length c1x) ?_
   refine n3 ?_
   refine ret_2 (.inl rfl) (vs a0x (foldK x_h x_b k).length c0x) (vs a1x (x_b.drop (64 * k)).length c1x) rfl rfl rfl ?_
   refine ⟨m14.keep0, ?_⟩
   have hF45 : compAll x_h x_b = ((foldK x_h x_b k), (x_b.drop (64 * k))) := by exact compAll_t (by omega) (by omega)
   rw [hF45]
   exact ⟨_, _, _, _, rfl, o17, s18, o19, s20⟩
  have q24 := of_decide_eq_true h23
  refine ct h23 ?_
  refine wc_skip <| wq_then <| wc_block <| sr ?_
  refine mw (vs a0x (foldK x_h x_b k).length c0x) ?_
  refine mw (vs a1x (x_b.drop (64 * k)).length c1x) ?_
  refine slv ((x_b.drop (64 * k)).take 64) 0 64 wN slTy_22 o19 (by first | omega | (simp only [List.length_cons, List.length_nil, List.length_replicate, List.length_append, List.length_take, List.length_set, List.length_map]; omega)) (by first | omega | (simp only [List.length_cons, List.length_nil, List.length_replicate, List.length_append, List.length_take, List.length_set, List.length_map]; omega)) (by first | rfl | (simp; done) | (rw [List.take_of_length_le (by first | (simp; done) | (simp; omega))])) rfl rfl rfl rfl (.inl ⟨rfl, rfl⟩) (.inr ⟨_, _, _, rfl, rfl, by omega⟩) ?_
  have q27 : 0 ≤ 64 := (by first | omega | (simp only [List.length_cons, List.length_nil, List.length_replicate, List.length_append, List.length_take, List.length_set, List.length_map]; omega))
  have q28 : 64 ≤ (x_b.drop (64 * k)).length := (by first | omega | (simp only [List.length_cons, List.length_nil, List.length_replicate, List.length_append, List.length_take, List.length_set, List.length_map]; omega))
  refine cl wN (C_impl_Compress w1 _ (foldK x_h x_b k) (mR_32 o17 s18) _ ((x_b.drop (64 * k)).take 64) (mR_22 (Rd.subV (x' := ((x_b.drop (64 * k)).take 64)) o19 q27 q28 (by first | rfl | (simp; done) | (rw [List.take_of_length_le (by first | (simp; done) | (simp; omega))]))) (Nat.le_trans (by simp only [List.length_take, List.length_drop]; omega) s20))) ?_
  rintro _ w2 ⟨k29, ⟨a30, c31, rfl, o32, s33, ap35⟩⟩
  have m36 := m14.extk k29
  refine aw (vs a30 (compress (foldK x_h x_b k) ((x_b.drop (64 * k)).take 64)).length c31) ?_
  refine wl_nil <| wq_then <| wc_region ?_
  refine mw (vs a1x (x_b.drop (64 * k)).length c1x) ?_
  have r38 := (o19.kp k29)
  refine slv ((x_b.drop (64 * k)).drop 64) 64 ((x_b.drop (64 * k)).length) wN slTy_22 r38 (by first | omega | (simp only [List.length_cons, List.length_nil, List.length_replicate, List.length_append, List.length_take, List.length_set, List.length_map]; omega)) (by first | omega | (simp only [List.length_cons, List.length_nil, List.length_replicate, List.length_append, List.length_take, List.length_set, List.length_map]; omega)) (by first | rfl | (simp; done) | (rw [List.take_of_length_le (by first | (simp; done) | (simp; omega))])) rfl rfl rfl rfl (.inr ⟨_, _, _, rfl, rfl, by omega⟩) (.inl ⟨rfl, rfl⟩) ?_
  have q40 : 64 ≤ ((x_b.drop (64 * k)).length) := (by first | omega | (simp only [List.length_cons, List.length_nil, List.length_replicate, List.length_append, List.length_take, List.length_set, List.length_map]; omega))
  have q41 : ((x_b.drop (64 * k)).length) ≤ (x_b.drop (64 * k)).length := (by first | omega | (simp only [List.length_cons, List.length_nil, List.length_replicate, List.length_append, List.length_take, List.length_set, List.length_map]; omega))
  refine aw (vs (subA a1x c1x 64 1) ((x_b.drop (64 * k)).drop 64).length (c1x - 64)) ?_
  refine wl_nil <| wq_blk_normal ?_
  have hE42 : ((compress (foldK x_h x_b k) ((x_b.drop (64 * k)).take 64)) : List Int) = foldK x_h x_b (k + 1) := by rfl
  have hE43 : (((x_b.drop (64 * k)).drop 64) : List UInt8) = x_b.drop (64 * (k + 1)) := by rw [List.drop_drop]; congr 1
  refine wq_loopQ (w0 := w1) (fun e => [(.slice a30 (foldK x_h x_b (k + 1)).length c31), (.slice (subA a1x c1x 64 1) (x_b.drop (64 * (k + 1))).length (c1x - 64)), e 2, e 3, (vs none 0 0), (vs none 0 0), e 6, e 7, e 8, e 9, e 10, e 11, e 12, e 13, e 14, U, U]) rfl ?_ ?_ ?_
  · exact ⟨(congrArg (fun l : List Int => Value.slice a30 l.length c31) hE42), (congrArg (fun l : List UInt8 => Value.slice (subA a1x c1x 64 1) l.length (c1x - 64)) hE43), rfl, rfl, rfl, rfl, rfl, rfl, rfl, rfl, rfl, rfl, rfl, rfl, rfl, rfl, rfl, trivial⟩
  · exact fun u => ⟨(k + 1), (unL [u 2, u 3, u 6, u 7, u 8, u 9, u 10, u 11, u 12, u 13, u 14]), a30, c31, (subA a1x c1x 64 1), (c1x - 64), rfl, m36, (((Ch.refl (fun k => w0.heap.size ≤ k) w0).ext k15 (fun k hk => hk)).extk k29), (by omega), (hE42 ▸ ⟨(Rd.of_own o32), s33⟩), (hE43 ▸ ⟨(Rd.subV (x' := ((x_b.drop (64 * k)).drop 64)) r38 q40 q41 (by first | rfl | (simp; done) | (rw [List.take_of_length_le (by first | (simp; done) | (simp; omega))]))), (Nat.le_trans (by simp only [List.length_take, List.length_drop]; omega) s20)⟩)⟩
  · show (x_b.drop (64 * (k + 1))).length < (x_b.drop (64 * k)).length; simp only [List.length_drop]; omega

theorem mR_132 {w : World} {x : PHash} {a1 : Option Addr} {c1 : Nat} {a2 : Option Addr} {c2 : Nat} (h1 : Rd w 1 (.slice a1 x.H.length c1) x.H.length (x.H.map iV)) (l1 : x.H.length ≤ 1073741824) (h2 : Rd w 1 (.slice a2 x.Held.length c2) x.Held.length (x.Held.map bV)) (l2 : x.Held.length ≤ 1073741824) : R_132 w (va (L_132 x a1 c1 a2 c2)) x := ⟨_, _, _, _, rfl, h1, l1, h2, l2⟩
theorem mR_40 {w : World} {x : List (List UInt8)} {a1 : Option Addr} {c1 : Nat} (h1 : RLv LT_22 w 1073741824 a1 x.length c1 x) (l1 : x.length ≤ 1073741824) : R_40 w (vs a1 x.length c1) x := ⟨_, _, rfl, h1, l1⟩
def F_impl_HashAdd (x_h : PHash) (x_b : List UInt8) : (PHash) := bif (F_impl_HashOk x_h) then (bif (decide ((1048576 - x_h.N) < (x_b.length : Int))) then (x_h) else ({ H := (compAll x_h.H (joinB [x_h.Held, x_b])).1, Held := (((compAll x_h.H (joinB [x_h.Held, x_b])).2)), N := (x_h.N + (x_b.length : Int)) : PHash })) else (x_h)
theorem C_impl_HashAdd (w0 : World) (v_x_h : Value) (x_h : PHash) (r_x_h : R_132 w0 v_x_h x_h) (v_x_b : Value) (x_b : List UInt8) (r_x_b : R_22 w0 v_x_b x_b)  : Fn Try.prog 157 #[v_x_h, v_x_b] w0 (fun v w' => Keep w0 w' ∧ O_132 w' w0.heap.size v (F_impl_HashAdd x_h x_b)) := by
 obtain ⟨a1, c2, a6, c7, rfl, r3, s4, r8, s9⟩ := r_x_h
 obtain ⟨a11, c12, rfl, r13, s14⟩ := r_x_b
 refine fn_of (n := 50) (l := [(va (L_132 x_h a1 c2 a6 c7)), (vs a11 x_b.length c12), U, U, U, U, U, U, U, U, U, U, U, U, U, U, U, U, U, U, U, U, U, U, U, U, U, U, U, U, U, U, U, U, U, U, U, U, U, U, U, U, U, U, U, U, U, U, U, U]) Try.func157 rfl rfl (by kernel_rfl) rfl ?_
 refine sr ?_
 refine bx (L_132 x_h a1 c2 a6 c7) wN ?_
 intro g16 w1 p17 p18 k19 b20
 have m21 := (Ch.base w0).extk k19
 refine al [(vs none 0 0), (vs none 0 0), (vi 0)] wN zero_132 ?_
 intro g22 w2 p23 p24 k25 b26
 have m27 := m21.extk k25
 refine n4 ?_
 have b28 := (b20.kp k25)
 refine lN (L_132 x_h a1 c2 a6 c7) wN isAgg_132 sizeOf_132 b28 ?_
 refine cl wN (C_impl_HashOk w2 _ x_h (mR_132 (r3.from0 m27) s4 (r8.from0 m27) s9)) ?_
 rintro _ w3 ⟨k29, rfl⟩
 have m30 := m27.extk k29
 refine pu (vb (!(F_impl_HashOk x_h))) wN ?_
 refine mw (vb (!(F_impl_HashOk x_h))) ?_
 rcases bf (F_impl_HashOk x_h) with h31 | h31
 ·refine sk (congrArg not h31) ?_
  refine sk (congrArg not h31) ?_
  refine sk (congrArg not h31) ?_
  refine sk (congrArg not h31) ?_
  refine sk (congrArg not h31) ?_
  refine sk (congrArg not h31) ?_
  refine pk (vb true) wN (congrArg not h31) ?_
  refine n2 ?_
  refine ct (Eq.refl true) ?_
  refine wc_seq ?_
  refine wc_drawT ([(18, [], [], (fun _ v w => ∃ a0 : Addr, v = .slice (some a0) 0 0 ∧ w.ownsRow w3.heap.size 3 1 (.slice (some a0) 0 0) 0 [])), (19, [], [], (fun _ v _ => v = (vp g16 0))), (20, [], [1], (fun _ v _ => v = (vs a1 x_h.H.length c2))), (21, [], [0, 1, 2], (fun _ v w => ∃ (a1 : Option Addr) (c1 : Nat), v = .slice a1 x_h.H.length c1 ∧ w.ownsRow w3.heap.size 3 1 (.slice a1 x_h.H.length c1) x_h.H.length (x_h.H.map iV) ∧ x_h.H.length ≤ 1073741824 ∧ Aps [(a1, c1)])), (22, [], [], (fun _ v _ => v = (vp g16 1))), (23, [], [4], (fun _ v _ => v = (vs a6 x_h.Held.length c7))), (24, [21], [0, 1, 2, 3, 4, 5], (fun e v w => ∃ (a1 : Option Addr) (c1 : Nat), v = .slice a1 (x_h.Held).length c1 ∧ w.ownsRow (w3.heap.size) 5 1 (.slice a1 (x_h.Held).length c1) (x_h.Held).length ((x_h.Held).map bV) ∧ (x_h.Held).length ≤ 1073741824 ∧ Aps [(a1, c1)] ∧ Ap (sp (e 21)) (a1, c1))), (25, [], [], (fun _ v _ => v = (vp g16 2))), (26, [], [7], (fun _ v _ => v = (vi x_h.N)))] : GV) (fun _ w' => Keep w3 w') [] mixed rfl (by kernel_rfl) (by kernel_rfl) ?_ (fun _ _ h => h) (fun _ _ _ _ h _ k => h.trans k) trivial ?_ ?_ ?_
  ·exact ⟨(fun e v w w1 h hk => by obtain ⟨a0x, he, o0x⟩ := h; exact ⟨a0x, he, own_kp o0x hk⟩), (fun _ _ _ _ _ h => h), ⟨(fun _ _ _ _ h _ => h), (fun _ _ _ _ _ h => h), ⟨(fun _ _ _ _ h _ => h), (fun _ _ _ _ _ h => h), ⟨(fun e v w w1 h hk => by obtain ⟨a0x, c0x, he, o0x, l0x, hap⟩ := h; exact ⟨a0x, c0x, he, own_kp o0x hk, l0x, hap⟩), (fun _ _ _ _ _ h => h), ⟨(fun _ _ _ _ h _ => h), (fun _ _ _ _ _ h => h), ⟨(fun _ _ _ _ h _ => h), (fun _ _ _ _ _ h => h), ⟨(fun e v w w1 h hk => by obtain ⟨a0x, c0x, he, o0x, l0x, hap, hx⟩ := h; exact ⟨a0x, c0x, he, own_kp o0x hk, l0x, hap, hx⟩), (fun e1 e2 v w hx h => by have h21x := hx 21 (by simp); simp only [h21x] at h; exact h), ⟨(fun _ _ _ _ h _ => h), (fun _ _ _ _ _ h => h), ⟨(fun _ _ _ _ h _ => h), (fun _ _ _ _ _ h => h), trivial⟩⟩⟩⟩⟩⟩⟩⟩⟩
  ·exact trivial
  ·refine ⟨?_, ⟨?_, ⟨?_, ⟨?_, ⟨?_, ⟨?_, ⟨?_, ⟨?_, ⟨?_, trivial⟩⟩⟩⟩⟩⟩⟩⟩⟩
   ·intro _ w4 k603 _
    have m604 := m30.extk k603
    rintro _ _ _ _ _ _ _ _ _
    show WL _ _ _ _ _ _ _
    refine wl_lit0 wN rfl rfl slTy_32 (fun w => by kernel_rfl) ?_
    intro a605 w5 k606 o607
    have m608 := m604.extk k606
    exact wl_finT k606 ⟨_, rfl, own_lo o607 k603.size⟩
   ·intro _ w4 k610 _
    have m611 := m30.extk k610
    rintro _ _ _ _ _ _ _ _ _
    show WL _ _ _ _ _ _ _
    refine pu (vp g16 0) wN ?_
    exact f1
   ·intro _ w4 k612 _
    have m613 := m30.extk k612
    rintro _ _ rfl _ _ _ _ _ _ _
    show WL _ _ _ _ _ _ _
    have b614 := ((b28.kp k29).kp k612)
    refine ld (vs a1 x_h.H.length c2) wN isAgg_32 b614 ?_
    exact f1
   ·intro _ w4 k615 _
    have m616 := m30.extk k615
    rintro _ ⟨a617, rfl, o619⟩ _ rfl _ rfl _ _ _ _ _ _
    show WL _ _ _ _ _ _ _
    refine wl_append0 wN rfl rfl rfl slTy_32 rfl rfl o619 (r3.from0 m616) (all_iV _) (by first | (simp only [List.length_append, List.length_cons, List.length_nil, List.length_replicate, List.length_take, List.length_drop]; omega) | omega) (by simp only [maxLen]; first | (simp only [List.length_append, List.length_cons, List.length_nil, List.length_replicate, List.length_take, List.length_drop]; omega) | omega) k615.size ?_
    intro u623 w5 k624 o625 j626
    obtain ⟨a627, c628, rfl⟩ := own_form o625
    have n629 : New w4 a627 c628 := j626 _ _ rfl
    have m630 := m616.extk k624
    exact wl_finT k624 ⟨_, _, rfl, o625, s4, ⟨trivial, trivial⟩⟩
   ·intro _ w4 k632 _
    have m633 := m30.extk k632
    rintro _ _ _ _ _ _ _ _ _
    show WL _ _ _ _ _ _ _
    refine pu (vp g16 1) wN ?_
    exact f1
   ·intro _ w4 k634 _
    have m635 := m30.extk k634
    rintro _ _ _ _ _ rfl _ _ _ _
    show WL _ _ _ _ _ _ _
    have b636 := ((b28.kp k29).kp k634)
    refine ld (vs a6 x_h.Held.length c7) wN isAgg_22 b636 ?_
    exact f1
   ·intro _ w4 k637 _
    have m638 := m30.extk k637
    rintro _ ⟨a639, rfl, o641⟩ _ rfl _ rfl _ ⟨a645, c646, rfl, o647, s648, -⟩ _ rfl _ rfl _ _ _
    show WL _ _ _ _ _ _ _
    refine cl wN (C_impl_clone w4 _ x_h.Held (mR_22 (r8.from0 m638) s9)) ?_
    rintro _ w5 ⟨k651, ⟨a652, c653, rfl, o654, s655, ap657⟩⟩
    have m658 := m638.extk k651
    exact wl_finT k651 ⟨_, _, rfl, (own_lo o654 k637.size), s655, ap657, (Ap.lt o647 o654 (Nat.le_refl _))⟩
   ·intro _ w4 k659 _
    have m660 := m30.extk k659
    rintro _ _ _ _ _ _ _ _ _
    show WL _ _ _ _ _ _ _
    refine pu (vp g16 2) wN ?_
    exact f1
   ·intro _ w4 k661 _
    have m662 := m30.extk k661
    rintro _ _ _ _ _ _ _ _ rfl _
    show WL _ _ _ _ _ _ _
    have b663 := ((b28.kp k29).kp k661)
    refine ld (vi x_h.N) wN isAgg_3 b663 ?_
    exact f1
  ·intro _ w4 k664
   have m665 := m30.extk k664
   rintro _ ⟨a666, rfl, o668⟩ _ rfl _ rfl _ ⟨a672, c673, rfl, o674, s675, -⟩ _ rfl _ rfl _ ⟨a678, c679, rfl, o680, s681, ap683, hx684⟩ _ rfl _ rfl
   show WL _ _ _ _ _ _ _
   refine pu (va (L_132 x_h a672 c673 a678 c679)) wN ?_
   have b686 := ((b26.kp k29).kp k664)
   refine sv (L_132 x_h a672 c673 a678 c679) wN sizeOf_132 b686 ?_
   intro w5 k687 b688 z689
   have m690 := m665.ext k687 (fun k hk => by subst hk; exact Nat.le_trans k19.size p23)
   refine n1 ?_
   have o691 := (own_ch o674 k687 (ne1 o674 (Nat.lt_of_lt_of_le p24 k29.size)))
   have o692 := (own_ch o680 k687 (ne1 o680 (Nat.lt_of_lt_of_le p24 k29.size)))
   refine ret_1 (.inl rfl) (va (L_132 x_h a672 c673 a678 c679)) rfl (rv_c [(vs a672 x_h.H.length c673), (vs a678 (x_h.Held).length c679), (vi x_h.N)] rfl b688 isAgg_132 sizeOf_132) ?_
   refine ⟨m690.keep0, ?_⟩
   have hF693 : F_impl_HashAdd x_h x_b = x_h := by simp only [F_impl_HashAdd, h31, cond_true, cond_false]
   rw [hF693]
   exact ⟨_, _, _, _, rfl, (own_lo o691 (z3 k19 k25 k29)), s675, (own_lo o692 (z3 k19 k25 k29)), s681, ⟨⟨hx684, trivial⟩, ⟨trivial, trivial⟩⟩⟩
 have q32 := hashOk_t h31
 refine mv (vs a11 x_b.length c12) (wS (congrArg not h31)) ?_
 refine ln (wS (congrArg not h31)) slTy_22 (r13.from0 m30) ?_
 refine pu (vp g16 2) (wS (congrArg not h31)) ?_
 have b33 := (b28.kp k29)
 refine ld (vi x_h.N) (wS (congrArg not h31)) isAgg_3 b33 ?_
 refine ar (1048576 - x_h.N) (wS (congrArg not h31)) ?_
 refine pu (vb (decide ((1048576 - x_h.N) < (x_b.length : Int)))) (wS (congrArg not h31)) ?_
 refine pf (vb (decide ((1048576 - x_h.N) < (x_b.length : Int)))) wN (congrArg not h31) ?_
 refine n2 ?_
 rcases bt (decide ((1048576 - x_h.N) < (x_b.length : Int))) with h34 | h34
 ·have q35 := of_decide_eq_true h34
  refine ct h34 ?_
  refine wc_seq ?_
  refine wc_drawT ([(18, [], [], (fun _ v w => ∃ a0 : Addr, v = .slice (some a0) 0 0 ∧ w.ownsRow w3.heap.size 3 1 (.slice (some a0) 0 0) 0 [])), (19, [], [], (fun _ v _ => v = (vp g16 0))), (20, [], [1], (fun _ v _ => v = (vs a1 x_h.H.length c2))), (21, [], [0, 1, 2], (fun _ v w => ∃ (a1 : Option Addr) (c1 : Nat), v = .slice a1 x_h.H.length c1 ∧ w.ownsRow w3.heap.size 3 1 (.slice a1 x_h.H.length c1) x_h.H.length (x_h.H.map iV) ∧ x_h.H.length ≤ 1073741824 ∧ Aps [(a1, c1)])), (22, [], [], (fun _ v _ => v = (vp g16 1))), (23, [], [4], (fun _ v _ => v = (vs a6 x_h.Held.length c7))), (24, [21], [0, 1, 2, 3, 4, 5], (fun e v w => ∃ (a1 : Option Addr) (c1 : Nat), v = .slice a1 (x_h.Held).length c1 ∧ w.ownsRow (w3.heap.size) 5 1 (.slice a1 (x_h.Held).length c1) (x_h.Held).length ((x_h.Held).map bV) ∧ (x_h.Held).length ≤ 1073741824 ∧ Aps [(a1, c1)] ∧ Ap (sp (e 21)) (a1, c1))), (25, [], [], (fun _ v _ => v = (vp g16 2))), (26, [], [7], (fun _ v _ => v = (vi x_h.N)))] : GV) (fun _ w' => Keep w3 w') [] mixed rfl (by kernel_rfl) (by kernel_rfl) ?_ (fun _ _ h => h) (fun _ _ _ _ h _ k => h.trans k) trivial ?_ ?_ ?_
  ·exact ⟨(fun e v w w1 h hk => by obtain ⟨a0x, he, o0x⟩ := h; exact ⟨a0x, he, own_kp o0x hk⟩), (fun _ _ _ _ _ h => h), ⟨(fun _ _ _ _ h _ => h), (fun _ _ _ _ _ h => h), ⟨(fun _ _ _ _ h _ => h), (fun _ _ _ _ _ h => h), ⟨(fun e v w w1 h hk => by obtain ⟨a0x, c0x, he, o0x, l0x, hap⟩ := h; exact ⟨a0x, c0x, he, own_kp o0x hk, l0x, hap⟩), (fun _ _ _ _ _ h => h), ⟨(fun _ _ _ _ h _ => h), (fun _ _ _ _ _ h => h), ⟨(fun _ _ _ _ h _ => h), (fun _ _ _ _ _ h => h), ⟨(fun e v w w1 h hk => by obtain ⟨a0x, c0x, he, o0x, l0x, hap, hx⟩ := h; exact ⟨a0x, c0x, he, own_kp o0x hk, l0x, hap, hx⟩), (fun e1 e2 v w hx h => by have h21x := hx 21 (by simp); simp only [h21x] at h; exact h), ⟨(fun _ _ _ _ h _ => h), (fun _ _ _ _ _ h => h), ⟨(fun _ _ _ _ h _ => h), (fun _ _ _ _ _ h => h), trivial⟩⟩⟩⟩⟩⟩⟩⟩⟩
  ·exact trivial
  ·refine ⟨?_, ⟨?_, ⟨?_, ⟨?_, ⟨?_, ⟨?_, ⟨?_, ⟨?_, ⟨?_, trivial⟩⟩⟩⟩⟩⟩⟩⟩⟩
   ·intro _ w4 k86 _
    have m87 := m30.extk k86
    rintro _ _ _ _ _ _ _ _ _
    show WL _ _ _ _ _ _ _
    refine wl_lit0 wN rfl rfl slTy_32 (fun w => by kernel_rfl) ?_
    intro a88 w5 k89 o90
    have m91 := m87.extk k89
    exact wl_finT k89 ⟨_, rfl, own_lo o90 k86.size⟩
   ·intro _ w4 k93 _
    have m94 := m30.extk k93
    rintro _ _ _ _ _ _ _ _ _
    show WL _ _ _ _ _ _ _
    refine pu (vp g16 0) wN ?_
    exact f1
   ·intro _ w4 k95 _
    have m96 := m30.extk k95
    rintro _ _ rfl _ _ _ _ _ _ _
    show WL _ _ _ _ _ _ _
    have b97 := (b33.kp k95)
    refine ld (vs a1 x_h.H.length c2) wN isAgg_32 b97 ?_
    exact f1
   ·intro _ w4 k98 _
    have m99 := m30.extk k98
    rintro _ ⟨a100, rfl, o102⟩ _ rfl _ rfl _ _ _ _ _ _
    show WL _ _ _ _ _ _ _
    refine wl_append0 wN rfl rfl rfl slTy_32 rfl rfl o102 (r3.from0 m99) (all_iV _) (by first | (simp only [List.length_append, List.length_cons, List.length_nil, List.length_replicate, List.length_take, List.length_drop]; omega) | omega) (by simp only [maxLen]; first | (simp only [List.length_append, List.length_cons, List.length_nil, List.length_replicate, List.length_take, List.length_drop]; omega) | omega) k98.size ?_
    intro u106 w5 k107 o108 j109
    obtain ⟨a110, c111, rfl⟩ := own_form o108
    have n112 : New w4 a110 c111 := j109 _ _ rfl
    have m113 := m99.extk k107
    exact wl_finT k107 ⟨_, _, rfl, o108, s4, ⟨trivial, trivial⟩⟩
   ·intro _ w4 k115 _
    have m116 := m30.extk k115
    rintro _ _ _ _ _ _ _ _ _
    show WL _ _ _ _ _ _ _
    refine pu (vp g16 1) wN ?_
    exact f1
   ·intro _ w4 k117 _
    have m118 := m30.extk k117
    rintro _ _ _ _ _ rfl _ _ _ _
    show WL _ _ _ _ _ _ _
    have b119 := (b33.kp k117)
    refine ld (vs a6 x_h.Held.length c7) wN isAgg_22 b119 ?_
    exact f1
   ·intro _ w4 k120 _
    have m121 := m30.extk k120
    rintro _ ⟨a122, rfl, o124⟩ _ rfl _ rfl _ ⟨a128, c129, rfl, o130, s131, -⟩ _ rfl _ rfl _ _ _
    show WL _ _ _ _ _ _ _
    refine cl wN (C_impl_clone w4 _ x_h.Held (mR_22 (r8.from0 m121) s9)) ?_
    rintro _ w5 ⟨k134, ⟨a135, c136, rfl, o137, s138, ap140⟩⟩
    have m141 := m121.extk k134
    exact wl_finT k134 ⟨_, _, rfl, (own_lo o137 k120.size), s138, ap140, (Ap.lt o130 o137 (Nat.le_refl _))⟩
   ·intro _ w4 k142 _
    have m143 := m30.extk k142
    rintro _ _ _ _ _ _ _ _ _
    show WL _ _ _ _ _ _ _
    refine pu (vp g16 2) wN ?_
    exact f1
   ·intro _ w4 k144 _
    have m145 := m30.extk k144
    rintro _ _ _ _ _ _ _ _ rfl _
    show WL _ _ _ _ _ _ _
    have b146 := (b33.kp k144)
    refine ld (vi x_h.N) wN isAgg_3 b146 ?_
    exact f1
  ·intro _ w4 k147
   have m148 := m30.extk k147
   rintro _ ⟨a149, rfl, o151⟩ _ rfl _ rfl _ ⟨a155, c156, rfl, o157, s158, -⟩ _ rfl _ rfl _ ⟨a161, c162, rfl, o163, s164, ap166, hx167⟩ _ rfl _ rfl
   show WL _ _ _ _ _ _ _
   refine pu (va (L_132 x_h a155 c156 a161 c162)) wN ?_
   have b169 := ((b26.kp k29).kp k147)
   refine sv (L_132 x_h a155 c156 a161 c162) wN sizeOf_132 b169 ?_
   intro w5 k170 b171 z172
   have m173 := m148.ext k170 (fun k hk => by subst hk; exact Nat.le_trans k19.size p23)
   refine n1 ?_
   have o174 := (own_ch o157 k170 (ne1 o157 (Nat.lt_of_lt_of_le p24 k29.size)))
   have o175 := (own_ch o163 k170 (ne1 o163 (Nat.lt_of_lt_of_le p24 k29.size)))
   refine ret_1 (.inl rfl) (va (L_132 x_h a155 c156 a161 c162)) rfl (rv_c [(vs a155 x_h.H.length c156), (vs a161 (x_h.Held).length c162), (vi x_h.N)] rfl b171 isAgg_132 sizeOf_132) ?_
   refine ⟨m173.keep0, ?_⟩
   have hF176 : F_impl_HashAdd x_h x_b = x_h := by simp only [F_impl_HashAdd, h31, h34, cond_true, cond_false]
   rw [hF176]
   exact ⟨_, _, _, _, rfl, (own_lo o174 (z3 k19 k25 k29)), s158, (own_lo o175 (z3 k19 k25 k29)), s164, ⟨⟨hx167, trivial⟩, ⟨trivial, trivial⟩⟩⟩
 have q177 := of_decide_eq_false h34
 refine cf h34 ?_
 refine wc_skip <| wq_then <| wc_seq ?_
 refine wc_draw ([(29, [], [], (fun _ v _ => v = (vp g16 0))), (30, [], [0], (fun _ v _ => v = (vs a1 x_h.H.length c2))), (31, [], [], (fun _ v _ => v = (vp g16 1))), (32, [], [2], (fun _ v _ => v = (vs a6 x_h.Held.length c7))), (33, [], [], (fun _ v _ => v = (vs a11 x_b.length c12))), (34, [], [2, 3, 4], (fun _ v w => ∃ (a1 : Option Addr) (c1 : Nat), v = .slice a1 2 c1 ∧ w.ownsRow w3.heap.size 22 1 (.slice a1 2 c1) 2 [(vs a6 x_h.Held.length c7), (vs a11 x_b.length c12)])), (35, [], [2, 3, 4, 5], (fun _ v w => ∃ (a1 : Option Addr) (c1 : Nat), v = .slice a1 (joinB [x_h.Held, x_b]).length c1 ∧ w.ownsRow (w3.heap.size) 5 1 (.slice a1 (joinB [x_h.Held, x_b]).length c1) (joinB [x_h.Held, x_b]).length ((joinB [x_h.Held, x_b]).map bV) ∧ (joinB [x_h.Held, x_b]).length ≤ 1073741824 ∧ Aps [(a1, c1)])), (36, [], [0, 1, 2, 3, 4, 5, 6], (fun _ v w => ∃ (a1 : Option Addr) (c1 : Nat) (a2 : Option Addr) (c2 : Nat), v = .tuple #[.slice a1 ((compAll x_h.H (joinB [x_h.Held, x_b])).1).length c1, .slice a2 ((compAll x_h.H (joinB [x_h.Held, x_b])).2).length c2] ∧ Rd w 1 (.slice a1 ((compAll x_h.H (joinB [x_h.Held, x_b])).1).length c1) ((compAll x_h.H (joinB [x_h.Held, x_b])).1).length (((compAll x_h.H (joinB [x_h.Held, x_b])).1).map iV) ∧ ((compAll x_h.H (joinB [x_h.Held, x_b])).1).length ≤ 1073741824 ∧ Rd w 1 (.slice a2 ((compAll x_h.H (joinB [x_h.Held, x_b])).2).length c2) ((compAll x_h.H (joinB [x_h.Held, x_b])).2).length (((compAll x_h.H (joinB [x_h.Held, x_b])).2).map bV) ∧ ((compAll x_h.H (joinB [x_h.Held, x_b])).2).length ≤ 1073741824)), (28, [36], [0, 1, 2, 3, 4, 5, 6, 7], (fun e v _ => v = (.tuple #[(tupAt (e 36) 0), (tupAt (e 36) 1)]))), (37, [36], [0, 1, 2, 3, 4, 5, 6, 7, 8], (fun e v _ => v = (tupAt (e 36) 0))), (38, [36], [0, 1, 2, 3, 4, 5, 6, 7, 8], (fun e v _ => v = (tupAt (e 36) 1))), (5, [36], [0, 1, 2, 3, 4, 5, 6, 7, 8, 9], (fun e v _ => v = (tupAt (e 36) 0)))] : GV) mixed rfl (by kernel_rfl) (by kernel_rfl) ?_ ?_ ?_
 ·exact ⟨(fun _ _ _ _ h _ => h), (fun _ _ _ _ _ h => h), ⟨(fun _ _ _ _ h _ => h), (fun _ _ _ _ _ h => h), ⟨(fun _ _ _ _ h _ => h), (fun _ _ _ _ _ h => h), ⟨(fun _ _ _ _ h _ => h), (fun _ _ _ _ _ h => h), ⟨(fun _ _ _ _ h _ => h), (fun _ _ _ _ _ h => h), ⟨(fun e v w w1 h hk => by obtain ⟨a0x, c0x, he, o0x⟩ := h; exact ⟨a0x, c0x, he, own_kp o0x hk⟩), (fun _ _ _ _ _ h => h), ⟨(fun e v w w1 h hk => by obtain ⟨a0x, c0x, he, o0x, l0x, hap⟩ := h; exact ⟨a0x, c0x, he, own_kp o0x hk, l0x, hap⟩), (fun _ _ _ _ _ h => h), ⟨(fun e v w w1 h hk => by obtain ⟨a0x, c0x, a1x, c1x, he, o0x, l0x, o1x, l1x⟩ := h; exact ⟨a0x, c0x, a1x, c1x, he, Rd.kp o0x hk, l0x, Rd.kp o1x hk, l1x⟩), (fun _ _ _ _ _ h => h), ⟨(fun _ _ _ _ h _ => h), (fun e1 e2 v w hx h => by have h36x := hx 36 (by simp); simp only [h36x] at h; exact h), ⟨(fun _ _ _ _ h _ => h), (fun e1 e2 v w hx h => by have h36x := hx 36 (by simp); simp only [h36x] at h; exact h), ⟨(fun _ _ _ _ h _ => h), (fun e1 e2 v w hx h => by have h36x := hx 36 (by simp); simp only [h36x] at h; exact h), ⟨(fun _ _ _ _ h _ => h), (fun e1 e2 v w hx h => by have h36x := hx 36 (by simp); simp only [h36x] at h; exact h), trivial⟩⟩⟩⟩⟩⟩⟩⟩⟩⟩⟩⟩
 ·refine ⟨?_, ⟨?_, ⟨?_, ⟨?_, ⟨?_, ⟨?_, ⟨?_, ⟨?_, ⟨?_, ⟨?_, ⟨?_, ⟨?_, trivial⟩⟩⟩⟩⟩⟩⟩⟩⟩⟩⟩⟩
  ·intro w4 k228
   have m229 := m30.extk k228
   rintro _ _ _ _ _ _ _ _ _ _ _ _
   show WL _ _ _ _ _ _ _
   refine pu (vp g16 0) wN ?_
   exact f2
  ·intro w4 k230
   have m231 := m30.extk k230
   rintro _ rfl _ _ _ _ _ _ _ _ _ _ _
   show WL _ _ _ _ _ _ _
   have b232 := (b33.kp k230)
   refine ld (vs a1 x_h.H.length c2) wN isAgg_32 b232 ?_
   exact f2
  ·intro w4 k233
   have m234 := m30.extk k233
   rintro _ _ _ _ _ _ _ _ _ _ _ _
   show WL _ _ _ _ _ _ _
   refine pu (vp g16 1) wN ?_
   exact f2
  ·intro w4 k235
   have m236 := m30.extk k235
   rintro _ _ _ rfl _ _ _ _ _ _ _ _ _
   show WL _ _ _ _ _ _ _
   have b237 := (b33.kp k235)
   refine ld (vs a6 x_h.Held.length c7) wN isAgg_22 b237 ?_
   exact f2
  ·intro w4 k238
   have m239 := m30.extk k238
   rintro _ _ _ _ _ _ _ _ _ _ _ _
   show WL _ _ _ _ _ _ _
   refine mw (vs a11 x_b.length c12) ?_
   exact f2
  ·intro w4 k240
   have m241 := m30.extk k240
   rintro _ _ _ rfl _ rfl _ rfl _ _ _ _ _ _ _
   show WL _ _ _ _ _ _ _
   refine wl_lit [(vs a6 x_h.Held.length c7), (vs a11 x_b.length c12)] wN rfl rfl slTy_40 (m := 2) rfl (by simp only [maxLen]; omega) (fun w => by kernel_rfl) ?_
   intro u243 w5 k244 o245
   obtain ⟨a246, c247, rfl⟩ := own_form o245
   have m248 := m241.extk k244
   exact wl_fin k244 ⟨_, _, rfl, own_lo o245 k240.size⟩
  ·intro w4 k250
   have m251 := m30.extk k250
   rintro _ _ _ rfl _ rfl _ rfl _ ⟨a253, c254, rfl, o255⟩ _ _ _ _ _ _
   show WL _ _ _ _ _ _ _
   refine cl wN (C_impl_joined w4 _ [x_h.Held, x_b] (mR_40 (RLv.mk (L := LT_22) [(x_h.Held, [(a6, c7)]), (x_b, [(a11, c12)])] (Rd.of_own o255) rfl ⟨⟨⟨(r8.from0 m251), s9⟩, trivial⟩, ⟨⟨⟨(r13.from0 m251), s14⟩, trivial⟩, trivial⟩⟩ (by first | decide | exact Nat.le_of_ble_eq_true rfl)) (by first | decide | exact Nat.le_of_ble_eq_true rfl)) (by first | omega | (rw [joinB_l2]; omega) | (rw [joinB_l2]; simp only [List.length_cons, List.length_nil, maskB_len]; omega) | (rw [joinB_l3]; simp only [List.length_cons, List.length_nil, maskB_len]; omega) | (simp only [joinB, List.flatten_cons, List.flatten_nil, List.length_append, List.length_nil, maskB_len]; omega))) ?_
   rintro _ w5 ⟨k257, ⟨a258, c259, rfl, o260, s261, ap263⟩⟩
   have m264 := m251.extk k257
   exact wl_fin k257 ⟨_, _, rfl, (own_lo o260 k250.size), s261, ap263⟩
  ·intro w4 k265
   have m266 := m30.extk k265
   rintro _ rfl _ rfl _ rfl _ rfl _ rfl _ ⟨a269, c270, rfl, o271⟩ _ ⟨a273, c274, rfl, o275, s276, ap278⟩ _ _ _ _ _
   show WL _ _ _ _ _ _ _
   refine cl wN (C_impl_compressAll w4 _ x_h.H (mR_32 (r3.from0 m266) s4) _ (joinB [x_h.Held, x_b]) (mR_22 (Rd.of_own o275) s276)) ?_
   rintro _ w5 ⟨k279, ⟨a280, c281, a285, c286, rfl, o282, s283, o287, s288⟩⟩
   have m290 := m266.extk k279
   exact wl_fin k279 ⟨_, _, _, _, rfl, o282, s283, o287, s288⟩
  ·intro w4 k291
   have m292 := m30.extk k291
   rintro _ rfl _ rfl _ rfl _ rfl _ rfl _ ⟨a295, c296, rfl, o297⟩ _ ⟨a299, c300, rfl, o301, s302, ap304⟩ _ ⟨a305, c306, a310, c311, rfl, o307, s308, o312, s313⟩ _ _ _ _
   show WL _ _ _ _ _ _ _
   refine mw (.tuple #[(vs a305 ((compAll x_h.H (joinB [x_h.Held, x_b])).1).length c306), (vs a310 ((compAll x_h.H (joinB [x_h.Held, x_b])).2).length c311)]) ?_
   exact f2
  ·intro w4 k315
   have m316 := m30.extk k315
   rintro _ rfl _ rfl _ rfl _ rfl _ rfl _ ⟨a319, c320, rfl, o321⟩ _ ⟨a323, c324, rfl, o325, s326, ap328⟩ _ ⟨a329, c330, a334, c335, rfl, o331, s332, o336, s337⟩ _ rfl _ _ _
   show WL _ _ _ _ _ _ _
   refine pu (vs a329 ((compAll x_h.H (joinB [x_h.Held, x_b])).1).length c330) wN ?_
   exact f2
  ·intro w4 k339
   have m340 := m30.extk k339
   rintro _ rfl _ rfl _ rfl _ rfl _ rfl _ ⟨a343, c344, rfl, o345⟩ _ ⟨a347, c348, rfl, o349, s350, ap352⟩ _ ⟨a353, c354, a358, c359, rfl, o355, s356, o360, s361⟩ _ rfl _ _ _
   show WL _ _ _ _ _ _ _
   refine pu (vs a358 ((compAll x_h.H (joinB [x_h.Held, x_b])).2).length c359) wN ?_
   exact f2
  ·intro w4 k363
   have m364 := m30.extk k363
   rintro _ rfl _ rfl _ rfl _ rfl _ rfl _ ⟨a367, c368, rfl, o369⟩ _ ⟨a371, c372, rfl, o373, s374, ap376⟩ _ ⟨a377, c378, a382, c383, rfl, o379, s380, o384, s385⟩ _ rfl _ rfl _ _
   show WL _ _ _ _ _ _ _
   refine aw (vs a377 ((compAll x_h.H (joinB [x_h.Held, x_b])).1).length c378) ?_
   exact f2
 ·intro w4 k387
  have m388 := m30.extk k387
  rintro _ rfl _ rfl _ rfl _ rfl _ rfl _ ⟨a391, c392, rfl, o393⟩ _ ⟨a395, c396, rfl, o397, s398, ap400⟩ _ ⟨a401, c402, a406, c407, rfl, o403, s404, o408, s409⟩ _ rfl _ rfl _ rfl _ rfl
  show WL _ _ _ _ _ _ _
  refine aw (vs a406 ((compAll x_h.H (joinB [x_h.Held, x_b])).2).length c407) ?_
  refine wl_nil <| wq_then <| wc_seq ?_
  refine wc_drawT ([(39, [], [], (fun _ v w => ∃ a0 : Addr, v = .slice (some a0) 0 0 ∧ w.ownsRow w4.heap.size 3 1 (.slice (some a0) 0 0) 0 [])), (40, [], [], (fun _ v _ => v = (vs a401 ((compAll x_h.H (joinB [x_h.Held, x_b])).1).length c402))), (41, [], [0, 1], (fun _ v w => ∃ (a1 : Option Addr) (c1 : Nat), v = .slice a1 ((compAll x_h.H (joinB [x_h.Held, x_b])).1).length c1 ∧ w.ownsRow w4.heap.size 3 1 (.slice a1 ((compAll x_h.H (joinB [x_h.Held, x_b])).1).length c1) ((compAll x_h.H (joinB [x_h.Held, x_b])).1).length (((compAll x_h.H (joinB [x_h.Held, x_b])).1).map iV) ∧ ((compAll x_h.H (joinB [x_h.Held, x_b])).1).length ≤ 1073741824 ∧ Aps [(a1, c1)])), (42, [], [], (fun _ v _ => v = (vs a406 ((compAll x_h.H (joinB [x_h.Held, x_b])).2).length c407))), (43, [41], [0, 1, 2, 3], (fun e v w => ∃ (a1 : Option Addr) (c1 : Nat), v = .slice a1 (((compAll x_h.H (joinB [x_h.Held, x_b])).2)).length c1 ∧ w.ownsRow (w4.heap.size) 5 1 (.slice a1 (((compAll x_h.H (joinB [x_h.Held, x_b])).2)).length c1) (((compAll x_h.H (joinB [x_h.Held, x_b])).2)).length ((((compAll x_h.H (joinB [x_h.Held, x_b])).2)).map bV) ∧ (((compAll x_h.H (joinB [x_h.Held, x_b])).2)).length ≤ 1073741824 ∧ Aps [(a1, c1)] ∧ Ap (sp (e 41)) (a1, c1))), (44, [], [], (fun _ v _ => v = (vp g16 2))), (45, [], [5], (fun _ v _ => v = (vi x_h.N))), (46, [], [], (fun _ v _ => v = (vs a11 x_b.length c12))), (47, [], [7], (fun _ v _ => v = (vi (x_b.length : Int)))), (48, [], [5, 6, 7, 8], (fun _ v _ => v = (vi (x_h.N + (x_b.length : Int)))))] : GV) (fun _ w' => Keep w4 w') [] mixed rfl (by kernel_rfl) (by kernel_rfl) ?_ (fun _ _ h => h) (fun _ _ _ _ h _ k => h.trans k) trivial ?_ ?_ ?_
  ·exact ⟨(fun e v w w1 h hk => by obtain ⟨a0x, he, o0x⟩ := h; exact ⟨a0x, he, own_kp o0x hk⟩), (fun _ _ _ _ _ h => h), ⟨(fun _ _ _ _ h _ => h), (fun _ _ _ _ _ h => h), ⟨(fun e v w w1 h hk => by obtain ⟨a0x, c0x, he, o0x, l0x, hap⟩ := h; exact ⟨a0x, c0x, he, own_kp o0x hk, l0x, hap⟩), (fun _ _ _ _ _ h => h), ⟨(fun _ _ _ _ h _ => h), (fun _ _ _ _ _ h => h), ⟨(fun e v w w1 h hk => by obtain ⟨a0x, c0x, he, o0x, l0x, hap, hx⟩ := h; exact ⟨a0x, c0x, he, own_kp o0x hk, l0x, hap, hx⟩), (fun e1 e2 v w hx h => by have h41x := hx 41 (by simp); simp only [h41x] at h; exact h), ⟨(fun _ _ _ _ h _ => h), (fun _ _ _ _ _ h => h), ⟨(fun _ _ _ _ h _ => h), (fun _ _ _ _ _ h => h), ⟨(fun _ _ _ _ h _ => h), (fun _ _ _ _ _ h => h), ⟨(fun _ _ _ _ h _ => h), (fun _ _ _ _ _ h => h), ⟨(fun _ _ _ _ h _ => h), (fun _ _ _ _ _ h => h), trivial⟩⟩⟩⟩⟩⟩⟩⟩⟩⟩
  ·exact trivial
  ·refine ⟨?_, ⟨?_, ⟨?_, ⟨?_, ⟨?_, ⟨?_, ⟨?_, ⟨?_, ⟨?_, ⟨?_, trivial⟩⟩⟩⟩⟩⟩⟩⟩⟩⟩
   ·intro _ w5 k462 _
    have m463 := m388.extk k462
    rintro _ _ _ _ _ _ _ _ _ _
    show WL _ _ _ _ _ _ _
    refine wl_lit0 wN rfl rfl slTy_32 (fun w => by kernel_rfl) ?_
    intro a464 w6 k465 o466
    have m467 := m463.extk k465
    exact wl_finT k465 ⟨_, rfl, own_lo o466 k462.size⟩
   ·intro _ w5 k469 _
    have m470 := m388.extk k469
    rintro _ _ _ _ _ _ _ _ _ _
    show WL _ _ _ _ _ _ _
    refine mw (vs a401 ((compAll x_h.H (joinB [x_h.Held, x_b])).1).length c402) ?_
    exact f1
   ·intro _ w5 k471 _
    have m472 := m388.extk k471
    rintro _ ⟨a473, rfl, o475⟩ _ rfl _ _ _ _ _ _ _ _
    show WL _ _ _ _ _ _ _
    have r478 := (o403.kp k471)
    refine wl_append0 wN rfl rfl rfl slTy_32 rfl rfl o475 r478 (all_iV _) (by first | (simp only [List.length_append, List.length_cons, List.length_nil, List.length_replicate, List.length_take, List.length_drop]; omega) | omega) (by simp only [maxLen]; first | (simp only [List.length_append, List.length_cons, List.length_nil, List.length_replicate, List.length_take, List.length_drop]; omega) | omega) k471.size ?_
    intro u479 w6 k480 o481 j482
    obtain ⟨a483, c484, rfl⟩ := own_form o481
    have n485 : New w5 a483 c484 := j482 _ _ rfl
    have m486 := m472.extk k480
    exact wl_finT k480 ⟨_, _, rfl, o481, s404, ⟨trivial, trivial⟩⟩
   ·intro _ w5 k488 _
    have m489 := m388.extk k488
    rintro _ _ _ _ _ _ _ _ _ _
    show WL _ _ _ _ _ _ _
    refine mw (vs a406 ((compAll x_h.H (joinB [x_h.Held, x_b])).2).length c407) ?_
    exact f1
   ·intro _ w5 k490 _
    have m491 := m388.extk k490
    rintro _ ⟨a492, rfl, o494⟩ _ rfl _ ⟨a497, c498, rfl, o499, s500, -⟩ _ rfl _ _ _ _ _ _
    show WL _ _ _ _ _ _ _
    have r502 := (o408.kp k490)
    refine cl wN (C_impl_clone w5 _ ((compAll x_h.H (joinB [x_h.Held, x_b])).2) (mR_22 r502 s409)) ?_
    rintro _ w6 ⟨k503, ⟨a504, c505, rfl, o506, s507, ap509⟩⟩
    have m510 := m491.extk k503
    exact wl_finT k503 ⟨_, _, rfl, (own_lo o506 k490.size), s507, ap509, (Ap.lt o499 o506 (Nat.le_refl _))⟩
   ·intro _ w5 k511 _
    have m512 := m388.extk k511
    rintro _ _ _ _ _ _ _ _ _ _
    show WL _ _ _ _ _ _ _
    refine pu (vp g16 2) wN ?_
    exact f1
   ·intro _ w5 k513 _
    have m514 := m388.extk k513
    rintro _ _ _ _ _ _ rfl _ _ _ _
    show WL _ _ _ _ _ _ _
    have b515 := ((b33.kp k387).kp k513)
    refine ld (vi x_h.N) wN isAgg_3 b515 ?_
    exact f1
   ·intro _ w5 k516 _
    have m517 := m388.extk k516
    rintro _ _ _ _ _ _ _ _ _ _
    show WL _ _ _ _ _ _ _
    refine mw (vs a11 x_b.length c12) ?_
    exact f1
   ·intro _ w5 k518 _
    have m519 := m388.extk k518
    rintro _ _ _ _ _ _ _ _ rfl _ _
    show WL _ _ _ _ _ _ _
    refine ln wN slTy_22 (r13.from0 m519) ?_
    exact f1
   ·intro _ w5 k520 _
    have m521 := m388.extk k520
    rintro _ _ _ _ _ _ rfl _ rfl _ rfl _ rfl _
    show WL _ _ _ _ _ _ _
    refine ar (x_h.N + (x_b.length : Int)) wN ?_
    exact f1
  ·intro _ w5 k523
   have m524 := m388.extk k523
   rintro _ ⟨a525, rfl, o527⟩ _ rfl _ ⟨a530, c531, rfl, o532, s533, -⟩ _ rfl _ ⟨a535, c536, rfl, o537, s538, ap540, hx541⟩ _ rfl _ rfl _ rfl _ rfl _ rfl
   show WL _ _ _ _ _ _ _
   refine pu (va [(vs a530 ((compAll x_h.H (joinB [x_h.Held, x_b])).1).length c531), (vs a535 (((compAll x_h.H (joinB [x_h.Held, x_b])).2)).length c536), (vi (x_h.N + (x_b.length : Int)))]) wN ?_
   have b543 := (((b26.kp k29).kp k387).kp k523)
   refine st (va [(vs a530 ((compAll x_h.H (joinB [x_h.Held, x_b])).1).length c531), (vs a535 (((compAll x_h.H (joinB [x_h.Held, x_b])).2)).length c536), (vi (x_h.N + (x_b.length : Int)))]) [(vs a530 ((compAll x_h.H (joinB [x_h.Held, x_b])).1).length c531), (vs a535 (((compAll x_h.H (joinB [x_h.Held, x_b])).2)).length c536), (vi (x_h.N + (x_b.length : Int)))] [(vs a530 ((compAll x_h.H (joinB [x_h.Held, x_b])).1).length c531), (vs a535 (((compAll x_h.H (joinB [x_h.Held, x_b])).2)).length c536), (vi (x_h.N + (x_b.length : Int)))] wN sizeOf_132 b543 ?_
   intro w6 k544 b545 z546
   have m547 := m524.ext k544 (fun k hk => by subst hk; exact Nat.le_trans k19.size p23)
   refine n3 ?_
   have o548 := (own_ch o532 k544 (ne1 o532 (Nat.lt_of_lt_of_le p24 (z2 k29 k387))))
   have o549 := (own_ch o537 k544 (ne1 o537 (Nat.lt_of_lt_of_le p24 (z2 k29 k387))))
   refine ret_1 (.inl rfl) (va [(vs a530 ((compAll x_h.H (joinB [x_h.Held, x_b])).1).length c531), (vs a535 (((compAll x_h.H (joinB [x_h.Held, x_b])).2)).length c536), (vi (x_h.N + (x_b.length : Int)))]) rfl (rv_c [(vs a530 ((compAll x_h.H (joinB [x_h.Held, x_b])).1).length c531), (vs a535 (((compAll x_h.H (joinB [x_h.Held, x_b])).2)).length c536), (vi (x_h.N + (x_b.length : Int)))] rfl b545 isAgg_132 sizeOf_132) ?_
   refine ⟨m547.keep0, ?_⟩
   have hF550 : F_impl_HashAdd x_h x_b = { H := (compAll x_h.H (joinB [x_h.Held, x_b])).1, Held := (((compAll x_h.H (joinB [x_h.Held, x_b])).2)), N := (x_h.N + (x_b.length : Int)) : PHash } := by simp only [F_impl_HashAdd, h31, h34, cond_true, cond_false]
   rw [hF550]
   exact ⟨_, _, _, _, rfl, (own_lo o548 (z4 k19 k25 k29 k387)), s533, (own_lo o549 (z4 k19 k25 k29 k387)), s538, ⟨⟨hx541, trivial⟩, ⟨trivial, trivial⟩⟩⟩

theorem C_impl_PutN (w0 : World) (v_x_b : Value) (x_b : List UInt8) (r_x_b : R_22 w0 v_x_b x_b) (x_n : Int) (x_k : Int) (pre0 : x_b.length ≤ 1000000) : Fn Try.prog 110 #[v_x_b, (vi x_n), (vi x_k)] w0 (fun v w' => Keep w0 w' ∧ O_22 w' w0.heap.size v (putN x_b x_n x_k)) := by
 obtain ⟨a1, c2, rfl, r3, s4⟩ := r_x_b
 refine fn_of (n := 35) (l := [(vs a1 x_b.length c2), (vi x_n), (vi x_k), U, U, U, U, U, U, U, U, U, U, U, U, U, U, U, U, U, U, U, U, U, U, U, U, U, U, U, U, U, U, U, U]) Try.func110 rfl rfl (by kernel_rfl) rfl ?_
 refine sr ?_
 refine aw (vs none 0 0) ?_
 refine nx ?_
 refine wl_lit0 wN rfl rfl slTy_22 (fun w => by kernel_rfl) ?_
 intro a6 w1 k7 o8
 have m9 := (Ch.base w0).extk k7
 refine mw (vs a1 x_b.length c2) ?_
 refine wl_append0 wN rfl rfl rfl slTy_22 rfl rfl o8 (r3.from0 m9) (all_bV _) (by first | (simp only [List.length_append, List.length_cons, List.length_nil, List.length_replicate, List.length_take, List.length_drop]; omega) | omega) (by simp only [maxLen]; first | (simp only [List.length_append, List.length_cons, List.length_nil, List.length_replicate, List.length_take, List.length_drop]; omega) | omega) k7.size ?_
 intro u11 w2 k12 o13 j14
 obtain ⟨a15, c16, rfl⟩ := own_form o13
 have n17 : New w1 a15 c16 := j14 _ _ rfl
 have m18 := m9.extk k12
 refine aw (vs a15 x_b.length c16) ?_
 refine n4 ?_
 refine mw (vi x_k) ?_
 refine pu (vb (decide (x_k < 1))) wN ?_
 refine mw (vb (decide (x_k < 1))) ?_
 rcases bt (decide (x_k < 1)) with h20 | h20
 ·have q21 := of_decide_eq_true h20
  refine sk h20 ?_
  refine sk h20 ?_
  refine pk (vb true) wN h20 ?_
  refine n2 ?_
  refine ct (Eq.refl true) ?_
  refine sr ?_
  refine mw (vs a15 x_b.length c16) ?_
  refine aw (vs a15 x_b.length c16) ?_
  refine n1 ?_
  refine rt (vs a15 x_b.length c16) ?_
  refine ⟨m18.keep0, ?_⟩
  have hF22 : putN x_b x_n x_k = x_b := by first | exact putN_out (by omega) | exact putN_end (by omega) (by omega) (by omega)
  rw [hF22]
  exact ⟨_, _, rfl, o13, s4, ⟨trivial, trivial⟩⟩
 have q23 := of_decide_eq_false h20
 refine mv (vi x_k) (wS h20) ?_
 refine pu (vb (decide (6 < x_k))) (wS h20) ?_
 refine pf (vb (decide (6 < x_k))) wN h20 ?_
 refine n2 ?_
 rcases bt (decide (6 < x_k)) with h24 | h24
 ·have q25 := of_decide_eq_true h24
  refine ct h24 ?_
  refine sr ?_
  refine mw (vs a15 x_b.length c16) ?_
  refine aw (vs a15 x_b.length c16) ?_
  refine n1 ?_
  refine rt (vs a15 x_b.length c16) ?_
  refine ⟨m18.keep0, ?_⟩
  have hF26 : putN x_b x_n x_k = x_b := by first | exact putN_out (by omega) | exact putN_end (by omega) (by omega) (by omega)
  rw [hF26]
  exact ⟨_, _, rfl, o13, s4, ⟨trivial, trivial⟩⟩
 have q27 := of_decide_eq_false h24
 refine cf h24 ?_
 refine y2 ?_
 refine mw (vi x_k) ?_
 refine ar (x_k - 1) wN ?_
 refine aw (vi (x_k - 1)) ?_
 refine wl_nil <| wq_then <| wc_block ?_
 have hE29 : (x_b : List UInt8) = x_b ++ putK x_n x_k 0 := by simp [putK]
 refine wc_loopQ (fun e => [e 0, (vi x_n), e 2, e 3, e 4, e 5, (vs none 0 0), (.slice a15 (x_b ++ putK x_n x_k 0).length c16), (vi (x_k - 1 - ((0 : Nat) : Int))), e 9, e 10, e 11, e 12, e 13, e 14, e 15, e 16, e 17, e 18, e 19, e 20, e 21, e 22, e 23, e 24, e 25, e 26, e 27, e 28, e 29, e 30, e 31, e 32, e 33, U]) rfl ⟨rfl, rfl, rfl, rfl, rfl, rfl, rfl, (congrArg (fun l : List UInt8 => Value.slice a15 l.length c16) hE29), (congrArg (Value.int .i64) (show ((x_k - 1) : Int) = (x_k - 1 - ((0 : Nat) : Int)) by omega)), rfl, rfl, rfl, rfl, rfl, rfl, rfl, rfl, rfl, rfl, rfl, rfl, rfl, rfl, rfl, rfl, rfl, rfl, rfl, rfl, rfl, rfl, rfl, rfl, rfl, rfl, trivial⟩ (fun e' w' => ∃ (j : Nat) (u28 : Nat → Value) (a7x : Option Addr) (c7x : Nat), e' = lst [(u28 0), (vi x_n), (u28 1), (u28 2), (u28 3), (u28 4), (vs none 0 0), (.slice a7x (x_b ++ putK x_n x_k j).length c7x), (vi (x_k - 1 - ((j : Nat) : Int))), (u28 5), (u28 6), (u28 7), (u28 8), (u28 9), (u28 10), (u28 11), (u28 12), (u28 13), (u28 14), (u28 15), (u28 16), (u28 17), (u28 18), (u28 19), (u28 20), (u28 21), (u28 22), (u28 23), (u28 24), (u28 25), (u28 26), (u28 27), (u28 28), (u28 29), U] ∧ Ch (fun k => w0.heap.size ≤ k) w0 w' ∧ Ch (fun k => w0.heap.size ≤ k) w2 w' ∧ ((j : Nat) : Int) ≤ x_k ∧ (World.ownsRow w' w0.heap.size 5 1 (.slice a7x (x_b ++ putK x_n x_k j).length c7x) (x_b ++ putK x_n x_k j).length ((x_b ++ putK x_n x_k j).map bV) ∧ (x_b ++ putK x_n x_k j).length ≤ 1073741824)) (fun e' _ => ((intOf (e' 8)) + 1).toNat) ?_ ?_
 ·exact fun u => ⟨0, (unL [u 0, u 2, u 3, u 4, u 5, u 9, u 10, u 11, u 12, u 13, u 14, u 15, u 16, u 17, u 18, u 19, u 20, u 21, u 22, u 23, u 24, u 25, u 26, u 27, u 28, u 29, u 30, u 31, u 32, u 33]), a15, c16, rfl, m18, (Ch.refl (fun k => w0.heap.size ≤ k) w2), (by omega), (hE29 ▸ ⟨o13, s4⟩)⟩
 ·rintro _ w3 ⟨j, u28, a7x, c7x, rfl, m30, k31, i32, ⟨o33, s34⟩⟩
  have hpl := putK_len x_n x_k j
  refine wc_seq <| sr ?_
  refine mw (vi (x_k - 1 - ((j : Nat) : Int))) ?_
  refine pu (vb (decide (0 ≤ (x_k - 1 - ((j : Nat) : Int))))) wN ?_
  refine n2 ?_
  rcases bf (decide (0 ≤ (x_k - 1 - ((j : Nat) : Int)))) with h36 | h36
  ·have q58 := of_decide_eq_false h36
   refine cf h36 ?_
   refine wc_exit <| wq_then_exit <| wq_then_exit <| wq_blk_exit <| wq_then <| sr ?_
   refine mw (vs a7x (x_b ++ putK x_n x_k j).length c7x) ?_
   refine aw (vs a7x (x_b ++ putK x_n x_k j).length c7x) ?_
   refine n3 ?_
   refine rt (vs a7x (x_b ++ putK x_n x_k j).length c7x) ?_
   refine ⟨m30.keep0, ?_⟩
   have hF59 : putN x_b x_n x_k = (x_b ++ putK x_n x_k j) := by first | exact putN_out (by omega) | exact putN_end (by omega) (by omega) (by omega)
   rw [hF59]
   exact ⟨_, _, rfl, o33, s34, ⟨trivial, trivial⟩⟩
  have q37 := of_decide_eq_true h36
  refine ct h36 ?_
  refine wc_skip <| wq_then <| wc_seq <| wc_block <| wc_region ?_
  refine mw (vs a7x (x_b ++ putK x_n x_k j).length c7x) ?_
  refine mw (vi x_n) ?_
  refine mw (vi (x_k - 1 - ((j : Nat) : Int))) ?_
  refine ar (8 * (x_k - 1 - ((j : Nat) : Int))) wN ?_
  refine wl_shr x_n (8 * (x_k - 1 - ((j : Nat) : Int))) wN rfl rfl rfl rfl rfl (by omega) (by omega) ?_
  refine wl_and (x_n / (2 : Int) ^ ((8 * (x_k - 1 - ((j : Nat) : Int)))).toNat) 255 256 8 wN rfl rfl (by decide) (by decide) (by decide) (by kernel_rfl) ?_
  refine wl_conv8 ((x_n / (2 : Int) ^ ((8 * (x_k - 1 - ((j : Nat) : Int)))).toNat) % 256) wN rfl rfl (by kernel_rfl) ?_
  refine wl_lit [(v8 ((by8 ((x_n / (2 : Int) ^ ((8 * (x_k - 1 - ((j : Nat) : Int)))).toNat) % 256)).toNat : Int))] wN rfl rfl slTy_22 (m := 1) rfl (by simp only [maxLen]; omega) (fun w => by kernel_rfl) ?_
  intro u38 w4 k39 o40
  obtain ⟨a41, c42, rfl⟩ := own_form o40
  have m43 := m30.extk k39
  have o45 : w4.ownsRow w3.heap.size 5 1 (.slice a41 (([(by8 ((x_n / (2 : Int) ^ ((8 * (x_k - 1 - ((j : Nat) : Int)))).toNat) % 256))] : List UInt8) : List UInt8).length c42) (([(by8 ((x_n / (2 : Int) ^ ((8 * (x_k - 1 - ((j : Nat) : Int)))).toNat) % 256))] : List UInt8) : List UInt8).length ((([(by8 ((x_n / (2 : Int) ^ ((8 * (x_k - 1 - ((j : Nat) : Int)))).toNat) % 256))] : List UInt8) : List UInt8).map bV) := o40
  have o46 := (own_kp o33 k39)
  refine wl_append (v := (vs a7x (x_b ++ putK x_n x_k j).length c7x)) wN rfl rfl rfl slTy_22 rfl rfl o46 (Rd.of_own o45) (all_bV _) (by first | (simp only [List.length_append, List.length_cons, List.length_nil, List.length_replicate, List.length_take, List.length_drop]; omega) | omega) (by simp only [maxLen]; first | (simp only [List.length_append, List.length_cons, List.length_nil, List.length_replicate, List.length_take, List.length_drop]; omega) | omega) (z4 k7 k12 k31 k39) ?_
  intro u47 w5 k48 o49 j50
  have o53 : w5.ownsRow w0.heap.size 5 1 u47 (((x_b ++ putK x_n x_k j) ++ ([(by8 ((x_n / (2 : Int) ^ ((8 * (x_k - 1 - ((j : Nat) : Int)))).toNat) % 256))] : List UInt8)) : List UInt8).length ((((x_b ++ putK x_n x_k j) ++ ([(by8 ((x_n / (2 : Int) ^ ((8 * (x_k - 1 - ((j : Nat) : Int)))).toNat) % 256))] : List UInt8)) : List UInt8).map bV) := by simpa [Nat.add_assoc] using o49
  obtain ⟨a51, c52, rfl⟩ := own_form o53
  have m54 := m43.ext k48 (fun k hk => Nat.le_trans (Nat.le_refl w0.heap.size) (own_lt o33 k hk).1)
  have s56 : ((x_b ++ putK x_n x_k j) ++ ([(by8 ((x_n / (2 : Int) ^ ((8 * (x_k - 1 - ((j : Nat) : Int)))).toNat) % 256))] : List UInt8)).length ≤ 1073741824 := by first | (simp only [List.length_append, List.length_cons, List.length_nil, List.length_replicate, List.length_take, List.length_drop]; omega) | omega | assumption
  refine aw (vs a51 ((x_b ++ putK x_n x_k j) ++ ([(by8 ((x_n / (2 : Int) ^ ((8 * (x_k - 1 - ((j : Nat) : Int)))).toNat) % 256))] : List UInt8)).length c52) ?_
  refine wl_nil <| wq_blk_normal <| wq_then <| wc_region ?_
  refine mw (vi (x_k - 1 - ((j : Nat) : Int))) ?_
  refine ar ((x_k - 1 - ((j : Nat) : Int)) - 1) wN ?_
  refine aw (vi ((x_k - 1 - ((j : Nat) : Int)) - 1)) ?_
  refine wl_nil ?_
  have hE57 : (((x_b ++ putK x_n x_k j) ++ ([(by8 ((x_n / (2 : Int) ^ ((8 * (x_k - 1 - ((j : Nat) : Int)))).toNat) % 256))] : List UInt8)) : List UInt8) = x_b ++ putK x_n x_k (j + 1) := by simp [putK]
  refine wq_loopQ (w0 := w3) (fun e => [e 0, (vi x_n), e 2, e 3, e 4, e 5, (vs none 0 0), (.slice a51 (x_b ++ putK x_n x_k (j + 1)).length c52), (vi (x_k - 1 - (((j + 1) : Nat) : Int))), e 9, e 10, e 11, e 12, e 13, e 14, e 15, e 16, e 17, e 18, e 19, e 20, e 21, e 22, e 23, e 24, e 25, e 26, e 27, e 28, e 29, e 30, e 31, e 32, e 33, U]) rfl ?_ ?_ ?_
  · exact ⟨rfl, rfl, rfl, rfl, rfl, rfl, rfl, (congrArg (fun l : List UInt8 => Value.slice a51 l.length c52) hE57), (congrArg (Value.int .i64) (show (((x_k - 1 - ((j : Nat) : Int)) - 1) : Int) = (x_k - 1 - (((j + 1) : Nat) : Int)) by omega)), rfl, rfl, rfl, rfl, rfl, rfl, rfl, rfl, rfl, rfl, rfl, rfl, rfl, rfl, rfl, rfl, rfl, rfl, rfl, rfl, rfl, rfl, rfl, rfl, rfl, rfl, trivial⟩
  · exact fun u => ⟨(j + 1), (unL [u 0, u 2, u 3, u 4, u 5, u 9, u 10, u 11, u 12, u 13, u 14, u 15, u 16, u 17, u 18, u 19, u 20, u 21, u 22, u 23, u 24, u 25, u 26, u 27, u 28, u 29, u 30, u 31, u 32, u 33]), a51, c52, rfl, m54, ((((Ch.refl (fun k => w0.heap.size ≤ k) w2).ext k31 (fun k hk => hk)).extk k39).ext k48 (fun k hk => Nat.le_trans (Nat.le_refl w0.heap.size) (own_lt o33 k hk).1)), (by omega), (hE57 ▸ ⟨o53, s56⟩)⟩
  · show ((x_k - 1 - (((j + 1) : Nat) : Int)) + 1).toNat < ((x_k - 1 - ((j : Nat) : Int)) + 1).toNat; omega
end Go.Proofs.Ytafcngfnhhchjaa.K
