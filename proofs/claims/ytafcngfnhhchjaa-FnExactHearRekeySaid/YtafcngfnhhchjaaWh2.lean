import Derived.Test.YtafcngfnhhchjaaCore
import Derived.Test.YtafcngfnhhchjaaProg
import Derived.Test.YtafcngfnhhchjaaHeld
import Derived.Test.YtafcngfnhhchjaaFun
import Derived.Test.YtafcngfnhhchjaaFunZ
import Derived.Test.YtafcngfnhhchjaaSqz
import Derived.Test.YtafcngfnhhchjaaHash
import Derived.Test.YtafcngfnhhchjaaWh1
namespace Go.Proofs.Ytafcngfnhhchjaa.K
open Go.RowKit
set_option linter.unusedVariables false
set_option linter.unusedSimpArgs false
set_option maxRecDepth 100000
set_option maxHeartbeats 4000000
def O_22_4 (w : World) (lo : Nat) (v : Value) (x : (List UInt8) × (Bool)) : Prop := ∃ (a1 : Option Addr) (c1 : Nat), v = .tuple #[.slice a1 x.1.length c1, .bool x.2] ∧ w.ownsRow lo 5 1 (.slice a1 x.1.length c1) x.1.length (x.1.map bV) ∧ x.1.length ≤ 1073741824 ∧ Aps [(a1, c1)]
theorem C_spec_Expand (w0 : World) (v_x_prk : Value) (x_prk : List UInt8) (r_x_prk : R_22 w0 v_x_prk x_prk) (v_x_info : Value) (x_info : List UInt8) (r_x_info : R_22 w0 v_x_info x_info) (x_n : Int)  : Fn Try.prog 90 #[v_x_prk, v_x_info, (vi x_n)] w0 (fun v w' => Keep w0 w' ∧ O_22_4 w' w0.heap.size v (expand x_prk x_info x_n)) := by
 obtain ⟨a1, c2, rfl, r3, s4⟩ := r_x_prk
 obtain ⟨a6, c7, rfl, r8, s9⟩ := r_x_info
 refine fn_of (n := 52) (l := [(vs a1 x_prk.length c2), (vs a6 x_info.length c7), (vi x_n), U, U, U, U, U, U, U, U, U, U, U, U, U, U, U, U, U, U, U, U, U, U, U, U, U, U, U, U, U, U, U, U, U, U, U, U, U, U, U, U, U, U, U, U, U, U, U, U, U]) Try.func90 rfl rfl k% rfl ?_
 sr%
 ag% (vs none 0 0)
 ag% (vb false)
 n4%
 mv% (vi x_n)
 cl% (C_spec_l1In w0 x_n 0 8160)
 rintro _ w1 ⟨k11, rfl⟩
 have m12 := (Ch.base w0).extk k11
 pu% (vb (!(F_spec_l1In x_n 0 8160)))
 mv% (vb (!(F_spec_l1In x_n 0 8160)))
 rcases bf (F_spec_l1In x_n 0 8160) with h13 | h13
 ·have q148 := spec_l1In_f h13
  sn% h13
  sn% h13
  sn% h13
  refine pk (vb true) wN (congrArg not h13) ?_
  mv% (vb true)
  st%
  st%
  st%
  refine pk (vb true) wN (Eq.refl true) ?_
  n2%
  ct% (Eq.refl true)
  sr%
  refine wl_lit0 wN rfl rfl slTy_22 (fun w => by kernel_rfl) ?_
  intro a149 w2 k150 o151
  m% m152 m12 k150
  ag% (vs (some a149) 0 0)
  ag% (vb false)
  n1%
  refine ret_2 (.inl rfl) (vs (some a149) 0 0) (vb false) rfl rfl rfl ?_
  kp% m152
  have hF154 : expand x_prk x_info x_n = ([], false) := by first | exact expand_f o% | exact expand_t o% o% o% o% o% o%
  rw [hF154]
  exact ⟨_, _, rfl, (own_lo o151 k11.size), (by simp), ⟨trivial, trivial⟩⟩
 have q14 := spec_l1In_t h13
 refine mv (vs a6 x_info.length c7) (wS (congrArg not h13)) ?_
 refine ln (wS (congrArg not h13)) slTy_22 (r8.from0 m12) ?_
 refine pu (vb (decide (100 < (x_info.length : Int)))) (wS (congrArg not h13)) ?_
 refine pf (vb (decide (100 < (x_info.length : Int)))) wN (congrArg not h13) ?_
 mv% (vb (decide (100 < (x_info.length : Int))))
 rcases bt (decide (100 < (x_info.length : Int))) with h15 | h15
 ·dt% q16 h15
  sk% h15
  sk% h15
  sk% h15
  refine pk (vb true) wN h15 ?_
  n2%
  ct% (Eq.refl true)
  sr%
  refine wl_lit0 wN rfl rfl slTy_22 (fun w => by kernel_rfl) ?_
  intro a17 w2 k18 o19
  m% m20 m12 k18
  ag% (vs (some a17) 0 0)
  ag% (vb false)
  n1%
  refine ret_2 (.inl rfl) (vs (some a17) 0 0) (vb false) rfl rfl rfl ?_
  kp% m20
  have hF22 : expand x_prk x_info x_n = ([], false) := by first | exact expand_f o% | exact expand_t o% o% o% o% o% o%
  rw [hF22]
  exact ⟨_, _, rfl, (own_lo o19 k11.size), (by simp), ⟨trivial, trivial⟩⟩
 df% q23 h15
 refine mv (vs a1 x_prk.length c2) (wS h15) ?_
 refine ln (wS h15) slTy_22 (r3.from0 m12) ?_
 refine pu (vb (decide (1048576 < (x_prk.length : Int)))) (wS h15) ?_
 refine pf (vb (decide (1048576 < (x_prk.length : Int)))) wN h15 ?_
 n2%
 rcases bt (decide (1048576 < (x_prk.length : Int))) with h24 | h24
 ·dt% q25 h24
  ct% h24
  sr%
  refine wl_lit0 wN rfl rfl slTy_22 (fun w => by kernel_rfl) ?_
  intro a26 w2 k27 o28
  m% m29 m12 k27
  ag% (vs (some a26) 0 0)
  ag% (vb false)
  n1%
  refine ret_2 (.inl rfl) (vs (some a26) 0 0) (vb false) rfl rfl rfl ?_
  kp% m29
  have hF31 : expand x_prk x_info x_n = ([], false) := by first | exact expand_f o% | exact expand_t o% o% o% o% o% o%
  rw [hF31]
  exact ⟨_, _, rfl, (own_lo o28 k11.size), (by simp), ⟨trivial, trivial⟩⟩
 df% q32 h24
 cf% h24
 z1%
 refine wl_lit0 wN rfl rfl slTy_22 (fun w => by kernel_rfl) ?_
 intro a33 w2 k34 o35
 m% m36 m12 k34
 ag% (vs (some a33) 0 0)
 nx%
 refine wl_lit0 wN rfl rfl slTy_22 (fun w => by kernel_rfl) ?_
 intro a38 w3 k39 o40
 m% m41 m36 k39
 ag% (vs (some a38) 0 0)
 n4%
 ag% (vi 1)
 refine wl_nil <| wq_then <| wc_block ?_
 have o44 := (own_kp o35 k39)
 have hE45 : ([] : List UInt8) = (expN x_prk x_info 0).1 := by rfl
 have hN46 : 0 = ((expN x_prk x_info 0).1).length := by rw [← hE45]; try (first | rfl | simp only [List.length_set] | simp)
 have hE47 : ([] : List UInt8) = (expN x_prk x_info 0).2 := by rfl
 have hN48 : 0 = ((expN x_prk x_info 0).2).length := by rw [← hE47]; try (first | rfl | simp only [List.length_set] | simp)
 refine wc_loopQ (fun e => [(vs a1 x_prk.length c2), (vs a6 x_info.length c7), (vi x_n), e 3, e 4, e 5, (vs none 0 0), (vb false), (.slice (some a33) ((expN x_prk x_info 0).1).length 0), (.slice (some a38) ((expN x_prk x_info 0).2).length 0), (vi (((0 : Nat) : Int) + 1)), e 11, e 12, e 13, e 14, e 15, e 16, e 17, e 18, e 19, e 20, e 21, e 22, e 23, e 24, e 25, e 26, e 27, e 28, e 29, e 30, e 31, e 32, e 33, e 34, e 35, e 36, e 37, e 38, e 39, e 40, e 41, e 42, e 43, e 44, e 45, e 46, U, U, U, U, U]) rfl ⟨rfl, rfl, rfl, rfl, rfl, rfl, rfl, rfl, rfl, rfl, (congrArg (Value.int .i64) (show (1 : Int) = (((0 : Nat) : Int) + 1) by omega)), rfl, rfl, rfl, rfl, rfl, rfl, rfl, rfl, rfl, rfl, rfl, rfl, rfl, rfl, rfl, rfl, rfl, rfl, rfl, rfl, rfl, rfl, rfl, rfl, rfl, rfl, rfl, rfl, rfl, rfl, rfl, rfl, rfl, rfl, rfl, rfl, rfl, rfl, rfl, rfl, rfl, trivial⟩ (fun e' w' => ∃ (k : Nat) (u43 : Nat → Value) (a8x : Option Addr) (c8x : Nat) (a9x : Option Addr) (c9x : Nat), e' = lst [(vs a1 x_prk.length c2), (vs a6 x_info.length c7), (vi x_n), (u43 0), (u43 1), (u43 2), (vs none 0 0), (vb false), (.slice a8x ((expN x_prk x_info k).1).length c8x), (.slice a9x ((expN x_prk x_info k).2).length c9x), (vi (((k : Nat) : Int) + 1)), (u43 3), (u43 4), (u43 5), (u43 6), (u43 7), (u43 8), (u43 9), (u43 10), (u43 11), (u43 12), (u43 13), (u43 14), (u43 15), (u43 16), (u43 17), (u43 18), (u43 19), (u43 20), (u43 21), (u43 22), (u43 23), (u43 24), (u43 25), (u43 26), (u43 27), (u43 28), (u43 29), (u43 30), (u43 31), (u43 32), (u43 33), (u43 34), (u43 35), (u43 36), (u43 37), (u43 38), U, U, U, U, U] ∧ Ch (fun k => w0.heap.size ≤ k) w0 w' ∧ Ch (fun k => w1.heap.size ≤ k) w3 w' ∧ 32 * ((k : Nat) : Int) < x_n + 32 ∧ (World.ownsRow w' w1.heap.size 5 1 (.slice a8x ((expN x_prk x_info k).1).length c8x) ((expN x_prk x_info k).1).length (((expN x_prk x_info k).1).map bV) ∧ ((expN x_prk x_info k).1).length ≤ 1073741824) ∧ (World.ownsRow w' w2.heap.size 5 1 (.slice a9x ((expN x_prk x_info k).2).length c9x) ((expN x_prk x_info k).2).length (((expN x_prk x_info k).2).map bV) ∧ ((expN x_prk x_info k).2).length ≤ 1073741824)) (fun e' _ => x_n.toNat - (lenOf (e' 8))) ?_ ?_
 ·exact fun u => ⟨0, (unL [u 3, u 4, u 5, u 11, u 12, u 13, u 14, u 15, u 16, u 17, u 18, u 19, u 20, u 21, u 22, u 23, u 24, u 25, u 26, u 27, u 28, u 29, u 30, u 31, u 32, u 33, u 34, u 35, u 36, u 37, u 38, u 39, u 40, u 41, u 42, u 43, u 44, u 45, u 46]), (some a33), 0, (some a38), 0, rfl, m41, (Ch.refl (fun k => w1.heap.size ≤ k) w3), o%, ⟨(by rw [← hN46, ← hE45]; exact o44), (by rw [← hN46]; first | exact (by simp) | (simp only [List.length_append, List.length_take, List.length_replicate]; omega))⟩, ⟨(by rw [← hN48, ← hE47]; exact o40), (by rw [← hN48]; first | exact (by simp) | (simp only [List.length_append, List.length_take, List.length_replicate]; omega))⟩⟩
 ·rintro _ w4 ⟨k, u43, a8x, c8x, a9x, c9x, rfl, m49, k50, i51, ⟨o52, s53⟩, ⟨o54, s55⟩⟩
  have hxl := expN_len (prk := x_prk) (info := x_info) o% o% k
  have hxm := expN_len (prk := x_prk) (info := x_info) o% o% (k + 1)
  refine wc_seq <| sr ?_
  mv% (vs a8x ((expN x_prk x_info k).1).length c8x)
  refine ln wN slTy_22 (Rd.of_own o52) ?_
  mv% (vi x_n)
  pu% (vb (decide ((((expN x_prk x_info k).1).length : Int) < x_n)))
  n2%
  rcases bf (decide ((((expN x_prk x_info k).1).length : Int) < x_n)) with h58 | h58
  ·df% q127 h58
   cf% h58
   refine wc_exit <| wq_then_exit <| wq_then_exit <| wq_blk_exit <| wq_then <| sr ?_
   refine wl_lit0 wN rfl rfl slTy_22 (fun w => by kernel_rfl) ?_
   intro a128 w5 k129 o130
   m% m131 m49 k129
   mv% (vs a8x ((expN x_prk x_info k).1).length c8x)
   mv% (vi x_n)
   have o134 := (own_kp o52 k129)
   refine slv (((expN x_prk x_info k).1).take ((x_n).toNat)) 0 ((x_n).toNat) wN slTy_22 (Rd.of_own o134) oB% oB% (by first | rfl | (simp; done) | (rw [List.take_of_length_le (by first | (simp; done) | (simp; omega))])) rfl rfl rfl rfl (.inl ⟨rfl, rfl⟩) (.inr ⟨_, _, _, rfl, rfl, by omega⟩) ?_
   have q136 : 0 ≤ ((x_n).toNat) := oB%
   have q137 : ((x_n).toNat) ≤ ((expN x_prk x_info k).1).length := oB%
   refine wl_append0 wN rfl rfl rfl slTy_22 rfl rfl o130 (Rd.subV (x' := (((expN x_prk x_info k).1).take ((x_n).toNat))) (Rd.of_own o134) q136 q137 (by first | rfl | (simp; done) | (rw [List.take_of_length_le (by first | (simp; done) | (simp; omega))]))) (all_bV _) (by first | (simp only [List.length_append, List.length_cons, List.length_nil, List.length_replicate, List.length_take, List.length_drop]; omega) | omega) (by simp only [maxLen]; first | (simp only [List.length_append, List.length_cons, List.length_nil, List.length_replicate, List.length_take, List.length_drop]; omega) | omega) k129.size ?_
   intro u138 w6 k139 o140 j141
   obtain ⟨a142, c143, rfl⟩ := own_form o140
   have n144 : New w5 a142 c143 := j141 _ _ rfl
   m% m145 m131 k139
   ag% (vs a142 (((expN x_prk x_info k).1).take ((x_n).toNat)).length c143)
   ag% (vb true)
   n3%
   refine ret_2 (.inl rfl) (vs a142 (((expN x_prk x_info k).1).take ((x_n).toNat)).length c143) (vb true) rfl rfl rfl ?_
   kp% m145
   have hF147 : expand x_prk x_info x_n = ((((expN x_prk x_info k).1).take ((x_n).toNat)), true) := by first | exact expand_f o% | exact expand_t o% o% o% o% o% o%
   rw [hF147]
   exact ⟨_, _, rfl, (own_lo o140 (z% k11 k34 k39 k50)), (Nat.le_trans (by simp only [List.length_take, List.length_drop]; omega) s53), ⟨trivial, trivial⟩⟩
  dt% q59 h58
  ct% h58
  refine wc_skip <| wq_then <| wc_seq <| wc_block <| sr ?_
  mv% (vs a1 x_prk.length c2)
  refine wl_lit0 wN rfl rfl slTy_22 (fun w => by kernel_rfl) ?_
  intro a60 w5 k61 o62
  m% m63 m49 k61
  mv% (vs a9x ((expN x_prk x_info k).2).length c9x)
  have o65 := (own_kp o54 k61)
  refine wl_append0 wN rfl rfl rfl slTy_22 rfl rfl o62 (Rd.of_own o65) (all_bV _) (by first | (simp only [List.length_append, List.length_cons, List.length_nil, List.length_replicate, List.length_take, List.length_drop]; omega) | omega) (by simp only [maxLen]; first | (simp only [List.length_append, List.length_cons, List.length_nil, List.length_replicate, List.length_take, List.length_drop]; omega) | omega) k61.size ?_
  intro u66 w6 k67 o68 j69
  obtain ⟨a70, c71, rfl⟩ := own_form o68
  have n72 : New w5 a70 c71 := j69 _ _ rfl
  m% m73 m63 k67
  mv% (vs a6 x_info.length c7)
  refine wl_append (v := (vs a70 ((expN x_prk x_info k).2).length c71)) wN rfl rfl rfl slTy_22 rfl rfl o68 (r8.from0 m73) (all_bV _) (by first | (simp only [List.length_append, List.length_cons, List.length_nil, List.length_replicate, List.length_take, List.length_drop]; omega) | omega) (by simp only [maxLen]; first | (simp only [List.length_append, List.length_cons, List.length_nil, List.length_replicate, List.length_take, List.length_drop]; omega) | omega) (Nat.le_trans k61.size k67.size) ?_
  intro u75 w7 k76 o77 j78
  have o81 : w7.ownsRow w4.heap.size 5 1 u75 ((((expN x_prk x_info k).2) ++ x_info) : List UInt8).length (((((expN x_prk x_info k).2) ++ x_info) : List UInt8).map bV) := by simpa [Nat.add_assoc] using o77
  obtain ⟨a79, c80, rfl⟩ := own_form o81
  have m82 := m73.ext k76 (fun k hk => Nat.le_trans (z% k11 k34 k39 k50) (own_lt o68 k hk).1)
  have s84 : (((expN x_prk x_info k).2) ++ x_info).length ≤ 1073741824 := by first | (simp only [List.length_append, List.length_cons, List.length_nil, List.length_replicate, List.length_take, List.length_drop]; omega) | omega | assumption
  mv% (vi (((k : Nat) : Int) + 1))
  refine wl_conv8 (((k : Nat) : Int) + 1) wN rfl rfl k% ?_
  refine wl_lit [(v8 ((by8 (((k : Nat) : Int) + 1)).toNat : Int))] wN rfl rfl slTy_22 (m := 1) rfl (by simp only [maxLen]; omega) (fun w => by kernel_rfl) ?_
  intro u85 w8 k86 o87
  obtain ⟨a88, c89, rfl⟩ := own_form o87
  m% m90 m82 k86
  have o92 : w8.ownsRow w7.heap.size 5 1 (.slice a88 (([(by8 (((k : Nat) : Int) + 1))] : List UInt8) : List UInt8).length c89) (([(by8 (((k : Nat) : Int) + 1))] : List UInt8) : List UInt8).length ((([(by8 (((k : Nat) : Int) + 1))] : List UInt8) : List UInt8).map bV) := o87
  have o93 := (own_kp o81 k86)
  refine wl_append (v := (vs a79 (((expN x_prk x_info k).2) ++ x_info).length c80)) wN rfl rfl rfl slTy_22 rfl rfl o93 (Rd.of_own o92) (all_bV _) (by first | (simp only [List.length_append, List.length_cons, List.length_nil, List.length_replicate, List.length_take, List.length_drop]; omega) | omega) (by simp only [maxLen]; first | (simp only [List.length_append, List.length_cons, List.length_nil, List.length_replicate, List.length_take, List.length_drop]; omega) | omega) (z% k61 k67 k76 k86) ?_
  intro u94 w9 k95 o96 j97
  have o100 : w9.ownsRow w4.heap.size 5 1 u94 (((((expN x_prk x_info k).2) ++ x_info) ++ ([(by8 (((k : Nat) : Int) + 1))] : List UInt8)) : List UInt8).length ((((((expN x_prk x_info k).2) ++ x_info) ++ ([(by8 (((k : Nat) : Int) + 1))] : List UInt8)) : List UInt8).map bV) := by simpa [Nat.add_assoc] using o96
  obtain ⟨a98, c99, rfl⟩ := own_form o100
  have m101 := m90.ext k95 (fun k hk => Nat.le_trans (z% k11 k34 k39 k50) (own_lt o81 k hk).1)
  have s103 : ((((expN x_prk x_info k).2) ++ x_info) ++ ([(by8 (((k : Nat) : Int) + 1))] : List UInt8)).length ≤ 1073741824 := by first | (simp only [List.length_append, List.length_cons, List.length_nil, List.length_replicate, List.length_take, List.length_drop]; omega) | omega | assumption
  cl% (C_spec_Hmac w9 _ x_prk (mR_22 (r3.from0 m101) s4) _ ((((expN x_prk x_info k).2) ++ x_info) ++ ([(by8 (((k : Nat) : Int) + 1))] : List UInt8)) (mR_22 (Rd.of_own o100) s103))
  rintro _ w10 ⟨k104, ⟨a105, c106, rfl, o107, s108, ap110⟩⟩
  m% m111 m101 k104
  have q112 := hmac_le x_prk ((((expN x_prk x_info k).2) ++ x_info) ++ ([(by8 (((k : Nat) : Int) + 1))] : List UInt8))
  ag% (vs a105 (hmac x_prk ((((expN x_prk x_info k).2) ++ x_info) ++ ([(by8 (((k : Nat) : Int) + 1))] : List UInt8))).length c106)
  refine wl_nil <| wq_then <| wc_region ?_
  mv% (vs a8x ((expN x_prk x_info k).1).length c8x)
  mv% (vs a105 (hmac x_prk ((((expN x_prk x_info k).2) ++ x_info) ++ ([(by8 (((k : Nat) : Int) + 1))] : List UInt8))).length c106)
  have o113 := (own_kp (own_ch (own_kp (own_ch (own_kp (own_kp o52 k61) k67) k76 (fun g hg hlt hk => by have h1 := (own_lt o52 g hg).2; have h2 := (own_lt o68 g hk).1; have h3 := (Nat.le_refl w4.heap.size); omega)) k86) k95 (fun g hg hlt hk => by have h1 := (own_lt o52 g hg).2; have h2 := (own_lt o81 g hk).1; have h3 := (Nat.le_refl w4.heap.size); omega)) k104)
  refine wl_append (v := (vs a8x ((expN x_prk x_info k).1).length c8x)) wN rfl rfl rfl slTy_22 rfl rfl o113 (Rd.of_own o107) (all_bV _) (by first | (simp only [List.length_append, List.length_cons, List.length_nil, List.length_replicate, List.length_take, List.length_drop]; omega) | omega) (by simp only [maxLen]; first | (simp only [List.length_append, List.length_cons, List.length_nil, List.length_replicate, List.length_take, List.length_drop]; omega) | omega) (z% k34 k39 k50 k61 k67 k76 k86 k95 k104) ?_
  intro u114 w11 k115 o116 j117
  have o120 : w11.ownsRow w1.heap.size 5 1 u114 ((((expN x_prk x_info k).1) ++ (hmac x_prk ((((expN x_prk x_info k).2) ++ x_info) ++ ([(by8 (((k : Nat) : Int) + 1))] : List UInt8)))) : List UInt8).length (((((expN x_prk x_info k).1) ++ (hmac x_prk ((((expN x_prk x_info k).2) ++ x_info) ++ ([(by8 (((k : Nat) : Int) + 1))] : List UInt8)))) : List UInt8).map bV) := by simpa [Nat.add_assoc] using o116
  obtain ⟨a118, c119, rfl⟩ := own_form o120
  have m121 := m111.ext k115 (fun k hk => Nat.le_trans k11.size (own_lt o52 k hk).1)
  have s123 : (((expN x_prk x_info k).1) ++ (hmac x_prk ((((expN x_prk x_info k).2) ++ x_info) ++ ([(by8 (((k : Nat) : Int) + 1))] : List UInt8)))).length ≤ 1073741824 := by first | (simp only [List.length_append, List.length_cons, List.length_nil, List.length_replicate, List.length_take, List.length_drop]; omega) | omega | assumption
  ag% (vs a118 (((expN x_prk x_info k).1) ++ (hmac x_prk ((((expN x_prk x_info k).2) ++ x_info) ++ ([(by8 (((k : Nat) : Int) + 1))] : List UInt8)))).length c119)
  refine wl_nil <| wq_blk_normal <| wq_then <| wc_region ?_
  mv% (vi (((k : Nat) : Int) + 1))
  refine ar ((((k : Nat) : Int) + 1) + 1) wN ?_
  ag% (vi ((((k : Nat) : Int) + 1) + 1))
  refine wl_nil ?_
  have hE124 : ((((expN x_prk x_info k).1) ++ (hmac x_prk ((((expN x_prk x_info k).2) ++ x_info) ++ ([(by8 (((k : Nat) : Int) + 1))] : List UInt8)))) : List UInt8) = (expN x_prk x_info (k + 1)).1 := by exact expN_1 _ _ _ (by simp [joinB])
  have o125 := (own_ch o107 k115 (fun g hg hlt hk => by have h1 := (own_lt o107 g hg).1; have h2 := (own_lt o52 g hk).2; have h3 := (z% k61 k67 k76 k86 k95); omega))
  have hE126 : ((hmac x_prk ((((expN x_prk x_info k).2) ++ x_info) ++ ([(by8 (((k : Nat) : Int) + 1))] : List UInt8))) : List UInt8) = (expN x_prk x_info (k + 1)).2 := by exact expN_2 _ _ _ (by simp [joinB])
  refine wq_loopQ (w0 := w4) (fun e => [(vs a1 x_prk.length c2), (vs a6 x_info.length c7), (vi x_n), e 3, e 4, e 5, (vs none 0 0), (vb false), (.slice a118 ((expN x_prk x_info (k + 1)).1).length c119), (.slice a105 ((expN x_prk x_info (k + 1)).2).length c106), (vi ((((k + 1) : Nat) : Int) + 1)), e 11, e 12, e 13, e 14, e 15, e 16, e 17, e 18, e 19, e 20, e 21, e 22, e 23, e 24, e 25, e 26, e 27, e 28, e 29, e 30, e 31, e 32, e 33, e 34, e 35, e 36, e 37, e 38, e 39, e 40, e 41, e 42, e 43, e 44, e 45, e 46, U, U, U, U, U]) rfl ?_ ?_ ?_
  · exact ⟨rfl, rfl, rfl, rfl, rfl, rfl, rfl, rfl, (congrArg (fun l : List UInt8 => Value.slice a118 l.length c119) hE124), (congrArg (fun l : List UInt8 => Value.slice a105 l.length c106) hE126), (congrArg (Value.int .i64) (show (((((k : Nat) : Int) + 1) + 1) : Int) = ((((k + 1) : Nat) : Int) + 1) by omega)), rfl, rfl, rfl, rfl, rfl, rfl, rfl, rfl, rfl, rfl, rfl, rfl, rfl, rfl, rfl, rfl, rfl, rfl, rfl, rfl, rfl, rfl, rfl, rfl, rfl, rfl, rfl, rfl, rfl, rfl, rfl, rfl, rfl, rfl, rfl, rfl, rfl, rfl, rfl, rfl, rfl, trivial⟩
  · exact fun u => ⟨(k + 1), (unL [u 3, u 4, u 5, u 11, u 12, u 13, u 14, u 15, u 16, u 17, u 18, u 19, u 20, u 21, u 22, u 23, u 24, u 25, u 26, u 27, u 28, u 29, u 30, u 31, u 32, u 33, u 34, u 35, u 36, u 37, u 38, u 39, u 40, u 41, u 42, u 43, u 44, u 45, u 46]), a118, c119, a105, c106, rfl, m121, (((((((((Ch.refl (fun k => w1.heap.size ≤ k) w3).ext k50 (fun k hk => Nat.le_trans (Nat.le_refl w1.heap.size) hk)).extk k61).extk k67).ext k76 (fun k hk => Nat.le_trans (z% k34 k39 k50) (own_lt o68 k hk).1)).extk k86).ext k95 (fun k hk => Nat.le_trans (z% k34 k39 k50) (own_lt o81 k hk).1)).extk k104).ext k115 (fun k hk => Nat.le_trans (Nat.le_refl w1.heap.size) (own_lt o52 k hk).1)), o%, (hE124 ▸ ⟨o120, s123⟩), (hE126 ▸ ⟨(own_lo o125 (z% k39 k50 k61 k67 k76 k86 k95)), s108⟩)⟩
  · show x_n.toNat - ((expN x_prk x_info (k + 1)).1).length < x_n.toNat - ((expN x_prk x_info k).1).length; omega

def R_9 (w : World) (v : Value) (x : (ByteArray)) : Prop := v = .string x
theorem C_spec_Derive (w0 : World) (v_x_key : Value) (x_key : List UInt8) (r_x_key : R_22 w0 v_x_key x_key) (v_x_label : Value) (x_label : ByteArray) (r_x_label : R_9 w0 v_x_label x_label) (pre0 : (strB x_label).length ≤ 100) : Fn Try.prog 47 #[v_x_key, v_x_label] w0 (fun v w' => Keep w0 w' ∧ O_22 w' w0.heap.size v (derive x_key x_label)) := by
 obtain ⟨a1, c2, rfl, r3, s4⟩ := r_x_key
 obtain rfl := r_x_label
 refine fn_of (n := 15) (l := [(vs a1 x_key.length c2), (.string x_label), U, U, U, U, U, U, U, U, U, U, U, U, U]) Try.func47 rfl rfl k% rfl ?_
 sr%
 ag% (vs none 0 0)
 nx%
 mv% (vs a1 x_key.length c2)
 mv% (.string x_label)
 refine wl_s2b x_label wN rfl rfl rfl rfl Try.underlying9 Try.underlying22 Try.underlying5 (by first | omega | (simp only [strB_mk]; decide)) ?_
 intro a6 c7 w1 k8 r9
 have m10 := (Ch.base w0).extk k8
 cl% (C_spec_Expand w1 _ x_key (mR_22 (r3.from0 m10) s4) _ (strB x_label) (mR_22 r9 (by first | omega | (simp only [strB_mk]; decide))) 32)
 rintro _ w2 ⟨k12, ⟨a13, c14, rfl, o15, s16, ap18⟩⟩
 m% m19 m10 k12
 have q20 := expand_le x_key (strB x_label) 32
 mv% (.tuple #[(vs a13 ((expand x_key (strB x_label) 32).1).length c14), (vb ((expand x_key (strB x_label) 32).2))])
 pu% (vs a13 ((expand x_key (strB x_label) 32).1).length c14)
 pu% (vb ((expand x_key (strB x_label) 32).2))
 ag% (vs a13 ((expand x_key (strB x_label) 32).1).length c14)
 ag% (vb ((expand x_key (strB x_label) 32).2))
 nx%
 mv% (vs a13 ((expand x_key (strB x_label) 32).1).length c14)
 ag% (vs a13 ((expand x_key (strB x_label) 32).1).length c14)
 n3%
 r1% (vs a13 ((expand x_key (strB x_label) 32).1).length c14)
 kp% m19
 have hF21 : derive x_key x_label = (expand x_key (strB x_label) 32).1 := by rfl
 rw [hF21]
 exact ⟨_, _, rfl, (own_lo o15 k8.size), s16, ⟨trivial, trivial⟩⟩

def F_impl_within (x_n : Int) (x_low : Int) (x_high : Int) : (Bool) := bif (decide (x_low ≤ x_n)) then (decide (x_n ≤ x_high)) else (false)
theorem C_impl_within (w0 : World) (x_n : Int) (x_low : Int) (x_high : Int)  : Fn Try.prog 48 #[(vi x_n), (vi x_low), (vi x_high)] w0 (fun v w' => Keep w0 w' ∧ O_4 w' w0.heap.size v (F_impl_within x_n x_low x_high)) := by
 refine fn_of (n := 15) (l := [(vi x_n), (vi x_low), (vi x_high), U, U, U, U, U, U, U, U, U, U, U, U]) Try.func48 rfl rfl k% rfl ?_
 sr%
 ag% (vb false)
 nx%
 mv% (vi x_n)
 mv% (vi x_low)
 pu% (vb (decide (x_low ≤ x_n)))
 mv% (vb (decide (x_low ≤ x_n)))
 rcases bf (decide (x_low ≤ x_n)) with h1 | h1
 ·df% q4 h1
  sk% h1
  sk% h1
  sk% h1
  refine pf (vb false) wN h1 ?_
  ag% (vb false)
  n3%
  r1% (vb false)
  refine ⟨Ch.refl _ _, ?_⟩
  have hF5 : F_impl_within x_n x_low x_high = false := by simp only [F_impl_within, h1, cond_true, cond_false]
  rw [hF5]
  exact rfl
 dt% q2 h1
 refine mv (vi x_n) (wS h1) ?_
 refine mv (vi x_high) (wS h1) ?_
 refine pu (vb (decide (x_n ≤ x_high))) (wS h1) ?_
 refine pk (vb (decide (x_n ≤ x_high))) wN h1 ?_
 ag% (vb (decide (x_n ≤ x_high)))
 n3%
 r1% (vb (decide (x_n ≤ x_high)))
 refine ⟨Ch.refl _ _, ?_⟩
 have hF3 : F_impl_within x_n x_low x_high = decide (x_n ≤ x_high) := by simp only [F_impl_within, h1, cond_true, cond_false]
 rw [hF3]
 exact rfl
theorem impl_within_t {n a b : Int} (h : F_impl_within n a b = true) : a ≤ n ∧ n ≤ b := by
  unfold F_impl_within at h
  by_cases h1 : a ≤ n <;> simp [h1] at h
  exact ⟨h1, h⟩
theorem impl_within_f {n a b : Int} (h : F_impl_within n a b = false) : n < a ∨ b < n := by
  unfold F_impl_within at h
  by_cases h1 : a ≤ n <;> simp [h1] at h <;> omega

def F_impl_clone (x_b : List UInt8) : (List UInt8) := x_b
theorem C_impl_clone (w0 : World) (v_x_b : Value) (x_b : List UInt8) (r_x_b : R_22 w0 v_x_b x_b)  : Fn Try.prog 56 #[v_x_b] w0 (fun v w' => Keep w0 w' ∧ O_22 w' w0.heap.size v (x_b)) := by
 obtain ⟨a1, c2, rfl, r3, s4⟩ := r_x_b
 refine fn_of (n := 6) (l := [(vs a1 x_b.length c2), U, U, U, U, U]) Try.func56 rfl rfl k% rfl ?_
 sr%
 ag% (vs none 0 0)
 nx%
 refine wl_lit0 wN rfl rfl slTy_22 (fun w => by kernel_rfl) ?_
 intro a6 w1 k7 o8
 have m9 := (Ch.base w0).extk k7
 mv% (vs a1 x_b.length c2)
 refine wl_append0 wN rfl rfl rfl slTy_22 rfl rfl o8 (r3.from0 m9) (all_bV _) (by first | (simp only [List.length_append, List.length_cons, List.length_nil, List.length_replicate, List.length_take, List.length_drop]; omega) | omega) (by simp only [maxLen]; first | (simp only [List.length_append, List.length_cons, List.length_nil, List.length_replicate, List.length_take, List.length_drop]; omega) | omega) k7.size ?_
 intro u11 w2 k12 o13 j14
 obtain ⟨a15, c16, rfl⟩ := own_form o13
 have n17 : New w1 a15 c16 := j14 _ _ rfl
 m% m18 m9 k12
 ag% (vs a15 x_b.length c16)
 n3%
 r1% (vs a15 x_b.length c16)
 kp% m18
 have hF20 : x_b = x_b := by rfl
 rw [hF20]
 exact ⟨_, _, rfl, o13, s4, ⟨trivial, trivial⟩⟩

def LT_22 : LTy (List UInt8) := { E := 22, Eb := 5, sz := 1, enc := fun e => [vs (adr2 e.2 0).1 e.1.length (adr2 e.2 0).2], bs := fun x => [x], len := fun _ => rfl, one := fun _ => one_all rfl, pos := by decide, ne := by decide }
def z_B : List UInt8 := []
theorem slTy_40 : SlTy Try.prog 40 22 1 24 (vs none 0 0) := slTy Try.underlying40 k% rfl rfl
theorem isAgg_22 : ∀ w, (isAgg 22).run Try.prog w = .ok false w := fun w => by kernel_rfl
def R_40 (w : World) (v : Value) (x : (List (List UInt8))) : Prop := ∃ (a1 : Option Addr) (c1 : Nat), v = .slice a1 x.length c1 ∧ RLv LT_22 w 1073741824 a1 x.length c1 x ∧ x.length ≤ 1073741824
theorem C_impl_joined (w0 : World) (v_x_parts : Value) (x_parts : List (List UInt8)) (r_x_parts : R_40 w0 v_x_parts x_parts) (pre0 : (joinB x_parts).length ≤ 4000000) : Fn Try.prog 124 #[v_x_parts] w0 (fun v w' => Keep w0 w' ∧ O_22 w' w0.heap.size v (joinB x_parts)) := by
 obtain ⟨a1, c2, rfl, r3, s4⟩ := r_x_parts
 refine fn_of (n := 18) (l := [(vs a1 x_parts.length c2), U, U, U, U, U, U, U, U, U, U, U, U, U, U, U, U, U]) Try.func124 rfl rfl k% rfl ?_
 sr%
 ag% (vs none 0 0)
 nx%
 refine wl_lit0 wN rfl rfl slTy_22 (fun w => by kernel_rfl) ?_
 intro a6 w1 k7 o8
 have m9 := (Ch.base w0).extk k7
 ag% (vs (some a6) 0 0)
 n4%
 mv% (vs a1 x_parts.length c2)
 obtain ⟨y11, r12⟩ := RLv.row (r3.from0 m9)
 refine ln wN slTy_40 r12 ?_
 mv% (vi 0)
 refine wl_nil <| wq_then <| wc_block ?_
 have hE14 : ([] : List UInt8) = joinB (x_parts.take 0) := by rfl
 have hN15 : 0 = (joinB (x_parts.take 0)).length := by rw [← hE14]; try (first | rfl | simp only [List.length_set] | simp)
 refine wc_loopQ (fun e => [e 0, e 1, (vs none 0 0), (.slice (some a6) (joinB (x_parts.take 0)).length 0), e 4, e 5, e 6, (vs a1 x_parts.length c2), (vi (x_parts.length : Int)), (vi ((0 : Nat) : Int)), e 10, e 11, e 12, e 13, e 14, e 15, e 16, U]) rfl ⟨rfl, rfl, rfl, rfl, rfl, rfl, rfl, rfl, rfl, (congrArg (Value.int .i64) (show (0 : Int) = ((0 : Nat) : Int) by omega)), rfl, rfl, rfl, rfl, rfl, rfl, rfl, rfl, trivial⟩ (fun e' w' => ∃ (k : Nat) (u13 : Nat → Value) (a3x : Option Addr) (c3x : Nat), e' = lst [(u13 0), (u13 1), (vs none 0 0), (.slice a3x (joinB (x_parts.take k)).length c3x), (u13 2), (u13 3), (u13 4), (vs a1 x_parts.length c2), (vi (x_parts.length : Int)), (vi ((k : Nat) : Int)), (u13 5), (u13 6), (u13 7), (u13 8), (u13 9), (u13 10), (u13 11), U] ∧ Ch (fun k => w0.heap.size ≤ k) w0 w' ∧ Ch (fun k => w0.heap.size ≤ k) w1 w' ∧ k ≤ x_parts.length ∧ (World.ownsRow w' w0.heap.size 5 1 (.slice a3x (joinB (x_parts.take k)).length c3x) (joinB (x_parts.take k)).length ((joinB (x_parts.take k)).map bV) ∧ (joinB (x_parts.take k)).length ≤ 1073741824)) (fun e' _ => x_parts.length - ((intOf (e' 9))).toNat) ?_ ?_
 ·exact fun u => ⟨0, (unL [u 0, u 1, u 4, u 5, u 6, u 10, u 11, u 12, u 13, u 14, u 15, u 16]), (some a6), 0, rfl, m9, (Ch.refl (fun k => w0.heap.size ≤ k) w1), o%, ⟨(by rw [← hN15, ← hE14]; exact o8), (by rw [← hN15]; first | exact (by simp) | (simp only [List.length_append, List.length_take, List.length_replicate]; omega))⟩⟩
 ·rintro _ w2 ⟨k, u13, a3x, c3x, rfl, m16, k17, i18, ⟨o19, s20⟩⟩
  have hfl := flat_le (z := z_B) (x := x_parts) (k := k)
  sr%
  pu% (vb (decide (((k : Nat) : Int) < (x_parts.length : Int))))
  refine wl_nil <| wq_then <| wc_seq ?_
  rcases bf (decide (((k : Nat) : Int) < (x_parts.length : Int))) with h22 | h22
  ·df% q49 h22
   cf% h22
   refine wc_exit <| wq_then_exit <| wq_then_exit <| wq_blk_exit <| wq_then <| sr ?_
   mv% (vs a3x (joinB (x_parts.take k)).length c3x)
   ag% (vs a3x (joinB (x_parts.take k)).length c3x)
   n3%
   r1% (vs a3x (joinB (x_parts.take k)).length c3x)
   kp% m16
   have hF50 : joinB x_parts = (joinB (x_parts.take k)) := by exact flat_end o%
   rw [hF50]
   exact ⟨_, _, rfl, o19, s20, ⟨trivial, trivial⟩⟩
  dt% q23 h22
  ct% h22
  refine wc_skip <| wq_then <| wc_seq <| wc_block <| sr ?_
  obtain ⟨y24, r25⟩ := RLv.row (r3.from0 m16)
  refine wl_index (v := (vs a1 x_parts.length c2)) wN ((k : Nat) : Int) rfl rfl rfl slTy_40 rfl rfl r25 oB% oB% ?_
  obtain ⟨y26, l27, r28, e29, u30⟩ := RLv.el z_B (i := k) r3 oB%
  obtain ⟨a31, c32, l36, rfl, r33, s34, u37⟩ := SubR.c u30
  obtain rfl := SubR.n u37
  refine wl_loadE (vs a31 (x_parts.getD k z_B).length c32) wN rfl rfl rfl rfl isAgg_22 (r28.from0 m16) ((get_of (off := 0) e29 (by first | rfl | simp | omega) (by decide)).trans rfl) ?_
  ag% (vs a31 (x_parts.getD k z_B).length c32)
  refine wl_nil <| wq_then <| wc_region ?_
  mv% (vs a3x (joinB (x_parts.take k)).length c3x)
  mv% (vs a31 (x_parts.getD k z_B).length c32)
  refine wl_append (v := (vs a3x (joinB (x_parts.take k)).length c3x)) wN rfl rfl rfl slTy_22 rfl rfl o19 (r33.from0 m16) (all_bV _) (by first | (simp only [List.length_append, List.length_cons, List.length_nil, List.length_replicate, List.length_take, List.length_drop]; omega) | omega) (by simp only [maxLen]; first | (simp only [List.length_append, List.length_cons, List.length_nil, List.length_replicate, List.length_take, List.length_drop]; omega) | omega) (Nat.le_trans k7.size k17.size) ?_
  intro u38 w3 k39 o40 j41
  have o44 : w3.ownsRow w0.heap.size 5 1 u38 (((joinB (x_parts.take k)) ++ (x_parts.getD k z_B)) : List UInt8).length ((((joinB (x_parts.take k)) ++ (x_parts.getD k z_B)) : List UInt8).map bV) := by simpa [Nat.add_assoc] using o40
  obtain ⟨a42, c43, rfl⟩ := own_form o44
  have m45 := m16.ext k39 (fun k hk => Nat.le_trans (Nat.le_refl w0.heap.size) (own_lt o19 k hk).1)
  have s47 : ((joinB (x_parts.take k)) ++ (x_parts.getD k z_B)).length ≤ 1073741824 := by first | (simp only [List.length_append, List.length_cons, List.length_nil, List.length_replicate, List.length_take, List.length_drop]; omega) | omega | assumption
  ag% (vs a42 ((joinB (x_parts.take k)) ++ (x_parts.getD k z_B)).length c43)
  refine wl_nil <| wq_blk_normal <| wq_then <| wc_region ?_
  refine ar (((k : Nat) : Int) + 1) wN ?_
  mv% (vi (((k : Nat) : Int) + 1))
  refine wl_nil ?_
  have hE48 : (((joinB (x_parts.take k)) ++ (x_parts.getD k z_B)) : List UInt8) = joinB (x_parts.take (k + 1)) := by exact flat_next o%
  refine wq_loopQ (w0 := w2) (fun e => [e 0, e 1, (vs none 0 0), (.slice a42 (joinB (x_parts.take (k + 1))).length c43), e 4, e 5, e 6, (vs a1 x_parts.length c2), (vi (x_parts.length : Int)), (vi (((k + 1) : Nat) : Int)), e 10, e 11, e 12, e 13, e 14, e 15, e 16, U]) rfl ?_ ?_ ?_
  · exact ⟨rfl, rfl, rfl, (congrArg (fun l : List UInt8 => Value.slice a42 l.length c43) hE48), rfl, rfl, rfl, rfl, rfl, (congrArg (Value.int .i64) (show ((((k : Nat) : Int) + 1) : Int) = (((k + 1) : Nat) : Int) by omega)), rfl, rfl, rfl, rfl, rfl, rfl, rfl, rfl, trivial⟩
  · exact fun u => ⟨(k + 1), (unL [u 0, u 1, u 4, u 5, u 6, u 10, u 11, u 12, u 13, u 14, u 15, u 16]), a42, c43, rfl, m45, (((Ch.refl (fun k => w0.heap.size ≤ k) w1).ext k17 (fun k hk => Nat.le_trans (Nat.le_refl w0.heap.size) hk)).ext k39 (fun k hk => Nat.le_trans (Nat.le_refl w0.heap.size) (own_lt o19 k hk).1)), o%, (hE48 ▸ ⟨o44, s47⟩)⟩
  · show x_parts.length - ((((k + 1) : Nat) : Int)).toNat < x_parts.length - (((k : Nat) : Int)).toNat; omega

theorem C_impl_Start (w0 : World)   : Fn Try.prog 168 #[] w0 (fun v w' => Keep w0 w' ∧ O_32 w' w0.heap.size v (k0)) := by
 refine fn_of (n := 2) (l := [U, U]) Try.func168 rfl rfl k% rfl ?_
 sr%
 ag% (vs none 0 0)
 nx%
 refine wl_lit [(vi 1779033703), (vi 3144134277), (vi 1013904242), (vi 2773480762), (vi 1359893119), (vi 2600822924), (vi 528734635), (vi 1541459225)] wN rfl rfl slTy_32 (m := 8) rfl (by simp only [maxLen]; omega) (fun w => by kernel_rfl) ?_
 intro u1 w1 k2 o3
 obtain ⟨a4, c5, rfl⟩ := own_form o3
 have m6 := (Ch.base w0).extk k2
 have o8 : w1.ownsRow w0.heap.size 3 1 (.slice a4 (([1779033703, 3144134277, 1013904242, 2773480762, 1359893119, 2600822924, 528734635, 1541459225] : List Int) : List Int).length c5) (([1779033703, 3144134277, 1013904242, 2773480762, 1359893119, 2600822924, 528734635, 1541459225] : List Int) : List Int).length ((([1779033703, 3144134277, 1013904242, 2773480762, 1359893119, 2600822924, 528734635, 1541459225] : List Int) : List Int).map iV) := o3
 ag% (vs a4 ([1779033703, 3144134277, 1013904242, 2773480762, 1359893119, 2600822924, 528734635, 1541459225] : List Int).length c5)
 n3%
 r1% (vs a4 ([1779033703, 3144134277, 1013904242, 2773480762, 1359893119, 2600822924, 528734635, 1541459225] : List Int).length c5)
 kp% m6
 have hF9 : k0 = ([1779033703, 3144134277, 1013904242, 2773480762, 1359893119, 2600822924, 528734635, 1541459225] : List Int) := by rfl
 rw [hF9]
 exact ⟨_, _, rfl, o8, (by simp), ⟨trivial, trivial⟩⟩

theorem zero_132 : ∀ w, (zeroValue 132).run Try.prog w = .ok (va [(vs none 0 0), (vs none 0 0), (vi 0)]) w := fun w => by kernel_rfl
theorem sizeOf_132 : ∀ w, (sizeOf 132).run Try.prog w = .ok 3 w := fun w => by kernel_rfl
theorem isAgg_132 : ∀ w, (isAgg 132).run Try.prog w = .ok true w := fun w => by kernel_rfl
def O_132 (w : World) (lo : Nat) (v : Value) (x : (PHash)) : Prop := ∃ (a1 : Option Addr) (c1 : Nat) (a2 : Option Addr) (c2 : Nat), v = .agg #[.slice a1 x.H.length c1, .slice a2 x.Held.length c2, .int .i64 x.N] ∧ w.ownsRow lo 3 1 (.slice a1 x.H.length c1) x.H.length (x.H.map iV) ∧ x.H.length ≤ 1073741824 ∧ w.ownsRow lo 5 1 (.slice a2 x.Held.length c2) x.Held.length (x.Held.map bV) ∧ x.Held.length ≤ 1073741824 ∧ Aps [(a1, c1), (a2, c2)]
def F_impl_HashNew  : (PHash) := { H := (k0), Held := [], N := 0 : PHash }
theorem C_impl_HashNew (w0 : World)   : Fn Try.prog 158 #[] w0 (fun v w' => Keep w0 w' ∧ O_132 w' w0.heap.size v (F_impl_HashNew)) := by
 refine fn_of (n := 3) (l := [U, U, U]) Try.func158 rfl rfl k% rfl ?_
 sr%
 refine al [(vs none 0 0), (vs none 0 0), (vi 0)] wN zero_132 ?_
 intro g1 w1 p2 p3 k4 b5
 have m6 := (Ch.base w0).extk k4
 nx%
 cl% (C_impl_Start w1 )
 rintro _ w2 ⟨k7, ⟨a8, c9, rfl, o10, s11, ap13⟩⟩
 m% m14 m6 k7
 pu% (va [(vs a8 (k0).length c9), (vs none 0 0), (vi 0)])
 have b15 := (b5.kp k7)
 refine st (va [(vs a8 (k0).length c9), (vs none 0 0), (vi 0)]) [(vs a8 (k0).length c9), (vs none 0 0), (vi 0)] [(vs a8 (k0).length c9), (vs none 0 0), (vi 0)] wN sizeOf_132 b15 ?_
 intro w3 k16 b17 z18
 have m19 := m14.ext k16 (fun k hk => by subst hk; exact Nat.le_trans (Nat.le_refl w0.heap.size) p2)
 n3%
 have o20 := (own_ch o10 k16 (e1% o10 (Nat.lt_of_lt_of_le p3 (Nat.le_refl w1.heap.size))))
 refine ret_1 (.inl rfl) (va [(vs a8 (k0).length c9), (vs none 0 0), (vi 0)]) rfl (rv_c [(vs a8 (k0).length c9), (vs none 0 0), (vi 0)] rfl b17 isAgg_132 sizeOf_132) ?_
 kp% m19
 have hF21 : F_impl_HashNew = { H := (k0), Held := [], N := 0 : PHash } := by rfl
 rw [hF21]
 exact ⟨_, _, _, _, rfl, (own_lo o20 k4.size), s11, (by first | exact own_nil _ _ _ _ | exact OLv.nil _ _ _ _), (by simp), ⟨⟨(Ap.nr _), trivial⟩, ⟨trivial, trivial⟩⟩⟩

theorem C_impl_areWords (w0 : World) (v_x_l : Value) (x_l : List Int) (r_x_l : R_32 w0 v_x_l x_l) (x_n : Int)  : Fn Try.prog 129 #[v_x_l, (vi x_n)] w0 (fun v w' => Keep w0 w' ∧ O_4 w' w0.heap.size v (areW x_l x_n)) := by
 obtain ⟨a1, c2, rfl, r3, s4⟩ := r_x_l
 refine fn_of (n := 21) (l := [(vs a1 x_l.length c2), (vi x_n), U, U, U, U, U, U, U, U, U, U, U, U, U, U, U, U, U, U, U]) Try.func129 rfl rfl k% rfl ?_
 sr%
 ag% (vb false)
 n4%
 mv% (vs a1 x_l.length c2)
 refine ln wN slTy_32 r3 ?_
 mv% (vi 0)
 refine wl_nil <| wq_then <| wc_block ?_
 refine wc_loopQ (fun e => [(vs a1 x_l.length c2), (vi x_n), e 2, e 3, e 4, e 5, e 6, (vs a1 x_l.length c2), (vi (x_l.length : Int)), (vi ((0 : Nat) : Int)), e 10, e 11, e 12, e 13, e 14, e 15, e 16, U, U, U, U]) rfl ⟨rfl, rfl, rfl, rfl, rfl, rfl, rfl, rfl, rfl, (congrArg (Value.int .i64) (show (0 : Int) = ((0 : Nat) : Int) by omega)), rfl, rfl, rfl, rfl, rfl, rfl, rfl, rfl, rfl, rfl, rfl, trivial⟩ (fun e' w' => ∃ (k : Nat) (u6 : Nat → Value), e' = lst [(vs a1 x_l.length c2), (vi x_n), (u6 0), (u6 1), (u6 2), (u6 3), (u6 4), (vs a1 x_l.length c2), (vi (x_l.length : Int)), (vi ((k : Nat) : Int)), (u6 5), (u6 6), (u6 7), (u6 8), (u6 9), (u6 10), (u6 11), U, U, U, U] ∧ Ch (fun k => w0.heap.size ≤ k) w0 w' ∧ Ch (fun k => w0.heap.size ≤ k) w0 w' ∧ k ≤ x_l.length ∧ allW (x_l.take k) = true) (fun e' _ => x_l.length - ((intOf (e' 9))).toNat) ?_ ?_
 ·exact fun u => ⟨0, (unL [u 2, u 3, u 4, u 5, u 6, u 10, u 11, u 12, u 13, u 14, u 15, u 16]), rfl, (Ch.base w0), (Ch.refl (fun k => w0.heap.size ≤ k) w0), o%, (by first | rfl | exact allW_next a% o% a%)⟩
 ·rintro _ w1 ⟨k, u6, rfl, m7, k8, i9, i10⟩
  sr%
  pu% (vb (decide (((k : Nat) : Int) < (x_l.length : Int))))
  refine wl_nil <| wq_then <| wc_seq ?_
  rcases bf (decide (((k : Nat) : Int) < (x_l.length : Int))) with h11 | h11
  ·df% q19 h11
   cf% h11
   refine wc_exit <| wq_then_exit <| wq_then_exit <| wq_blk_exit <| wq_then <| sr ?_
   mv% (vs a1 x_l.length c2)
   refine ln wN slTy_32 (r3.from0 m7) ?_
   mv% (vi x_n)
   pu% (vb (decide ((x_l.length : Int) = x_n)))
   ag% (vb (decide ((x_l.length : Int) = x_n)))
   n3%
   r1% (vb (decide ((x_l.length : Int) = x_n)))
   kp% m7
   have hF20 : areW x_l x_n = decide ((x_l.length : Int) = x_n) := by first | (have hz := allW_no (x := x_l) (k := k) o% a%; simp [areW, hz]) | (have hz := allW_all (x := x_l) (k := k) a% o%; simp [areW, hz])
   rw [hF20]
   exact rfl
  dt% q12 h11
  ct% h11
  refine wc_skip <| wq_then <| wc_seq <| wc_block <| sr ?_
  refine wl_index (v := (vs a1 x_l.length c2)) wN ((k : Nat) : Int) rfl rfl rfl slTy_32 rfl rfl (r3.from0 m7) oB% oB% ?_
  refine wl_loadE (iV (x_l.getD k 0)) wN rfl rfl rfl rfl isAgg_3 (r3.from0 m7) (iget (by simp) oB%) ?_
  ag% (vi (x_l.getD k 0))
  nx%
  mv% (vi (x_l.getD k 0))
  cl% (C_impl_within w1 (x_l.getD k 0) 0 4294967295)
  rintro _ w2 ⟨k13, rfl⟩
  m% m14 m7 k13
  pu% (vb (!(F_impl_within (x_l.getD k 0) 0 4294967295)))
  n2%
  rcases bf (F_impl_within (x_l.getD k 0) 0 4294967295) with h15 | h15
  ·have q17 := impl_within_f h15
   ct% (congrArg not h15)
   sr%
   ag% (vb false)
   refine wl_nil <| wq_then <| wc_ret <| wq_blk_ret <| wq_then_ret <| wq_then_ret <| wq_blk_ret <| wq_then_ret ?_
   r1% (vb false)
   kp% m14
   have hF18 : areW x_l x_n = false := by first | (have hz := allW_no (x := x_l) (k := k) o% a%; simp [areW, hz]) | (have hz := allW_all (x := x_l) (k := k) a% o%; simp [areW, hz])
   rw [hF18]
   exact rfl
  have q16 := impl_within_t h15
  cf% (congrArg not h15)
  refine wc_skip <| wq_blk_normal <| wq_then <| wc_region ?_
  refine ar (((k : Nat) : Int) + 1) wN ?_
  mv% (vi (((k : Nat) : Int) + 1))
  refine wl_nil ?_
  refine wq_loopQ (w0 := w1) (fun e => [(vs a1 x_l.length c2), (vi x_n), e 2, e 3, e 4, e 5, e 6, (vs a1 x_l.length c2), (vi (x_l.length : Int)), (vi (((k + 1) : Nat) : Int)), e 10, e 11, e 12, e 13, e 14, e 15, e 16, U, U, U, U]) rfl ?_ ?_ ?_
  · exact ⟨rfl, rfl, rfl, rfl, rfl, rfl, rfl, rfl, rfl, (congrArg (Value.int .i64) (show ((((k : Nat) : Int) + 1) : Int) = (((k + 1) : Nat) : Int) by omega)), rfl, rfl, rfl, rfl, rfl, rfl, rfl, rfl, rfl, rfl, rfl, trivial⟩
  · exact fun u => ⟨(k + 1), (unL [u 2, u 3, u 4, u 5, u 6, u 10, u 11, u 12, u 13, u 14, u 15, u 16]), rfl, m14, (((Ch.refl (fun k => w0.heap.size ≤ k) w0).ext k8 (fun k hk => Nat.le_trans (Nat.le_refl w0.heap.size) hk)).extk k13), o%, (by first | rfl | exact allW_next a% o% a%)⟩
  · show x_l.length - ((((k + 1) : Nat) : Int)).toNat < x_l.length - (((k : Nat) : Int)).toNat; omega

abbrev L_132 (x : PHash) (a1 : Option Addr) (c1 : Nat) (a2 : Option Addr) (c2 : Nat) : List Value := [vs a1 x.H.length c1, vs a2 x.Held.length c2, vi x.N]
theorem isAgg_32 : ∀ w, (isAgg 32).run Try.prog w = .ok false w := fun w => by kernel_rfl
def R_132 (w : World) (v : Value) (x : (PHash)) : Prop := ∃ (a1 : Option Addr) (c1 : Nat) (a2 : Option Addr) (c2 : Nat), v = .agg #[.slice a1 x.H.length c1, .slice a2 x.Held.length c2, .int .i64 x.N] ∧ Rd w 1 (.slice a1 x.H.length c1) x.H.length (x.H.map iV) ∧ x.H.length ≤ 1073741824 ∧ Rd w 1 (.slice a2 x.Held.length c2) x.Held.length (x.Held.map bV) ∧ x.Held.length ≤ 1073741824
def F_impl_HashOk (x_h : PHash) : (Bool) := bif (areW x_h.H 8) then (bif (F_impl_within x_h.N 0 1048576) then (decide ((x_h.N % 64) = (x_h.Held.length : Int))) else (false)) else (false)
theorem C_impl_HashOk (w0 : World) (v_x_h : Value) (x_h : PHash) (r_x_h : R_132 w0 v_x_h x_h)  : Fn Try.prog 164 #[v_x_h] w0 (fun v w' => Keep w0 w' ∧ O_4 w' w0.heap.size v (F_impl_HashOk x_h)) := by
 obtain ⟨a1, c2, a6, c7, rfl, r3, s4, r8, s9⟩ := r_x_h
 refine fn_of (n := 20) (l := [(va (L_132 x_h a1 c2 a6 c7)), U, U, U, U, U, U, U, U, U, U, U, U, U, U, U, U, U, U, U]) Try.func164 rfl rfl k% rfl ?_
 sr%
 refine bx (L_132 x_h a1 c2 a6 c7) wN ?_
 intro g11 w1 p12 p13 k14 b15
 have m16 := (Ch.base w0).extk k14
 ag% (vb false)
 nx%
 pu% (vp g11 0)
 refine ld (vs a1 x_h.H.length c2) wN isAgg_32 b15 ?_
 cl% (C_impl_areWords w1 _ x_h.H (mR_32 (r3.from0 m16) s4) 8)
 rintro _ w2 ⟨k17, rfl⟩
 m% m18 m16 k17
 mv% (vb (areW x_h.H 8))
 rcases bf (areW x_h.H 8) with h19 | h19
 ·sk% h19
  sk% h19
  sk% h19
  refine pf (vb false) wN h19 ?_
  mv% (vb false)
  sf%
  sf%
  sf%
  sf%
  sf%
  sf%
  sf%
  refine pf (vb false) wN (Eq.refl false) ?_
  ag% (vb false)
  n3%
  r1% (vb false)
  kp% m18
  have hF31 : F_impl_HashOk x_h = false := by simp only [F_impl_HashOk, h19, cond_true, cond_false]
  rw [hF31]
  exact rfl
 have q20 := areW_t h19
 refine pu (vp g11 2) (wS h19) ?_
 have b21 := (b15.kp k17)
 refine ld (vi x_h.N) (wS h19) isAgg_3 b21 ?_
 refine cl (wS h19) (C_impl_within w2 x_h.N 0 1048576) ?_
 rintro _ w3 ⟨k22, rfl⟩
 m% m23 m18 k22
 refine pk (vb (F_impl_within x_h.N 0 1048576)) wN h19 ?_
 mv% (vb (F_impl_within x_h.N 0 1048576))
 rcases bf (F_impl_within x_h.N 0 1048576) with h24 | h24
 ·have q28 := impl_within_f h24
  sk% h24
  sk% h24
  sk% h24
  sk% h24
  sk% h24
  sk% h24
  sk% h24
  refine pf (vb false) wN h24 ?_
  ag% (vb false)
  n3%
  r1% (vb false)
  kp% m23
  have hF29 : F_impl_HashOk x_h = false := by simp only [F_impl_HashOk, h19, h24, cond_true, cond_false]
  rw [hF29]
  exact rfl
 have q25 := impl_within_t h24
 refine pu (vp g11 2) (wS h24) ?_
 have b26 := (b21.kp k22)
 refine ld (vi x_h.N) (wS h24) isAgg_3 b26 ?_
 refine wl_rem x_h.N 64 (wS h24) rfl rfl k% (by first | omega | assumption) ?_
 refine pu (vp g11 1) (wS h24) ?_
 refine ld (vs a6 x_h.Held.length c7) (wS h24) isAgg_22 b26 ?_
 refine ln (wS h24) slTy_22 (r8.from0 m23) ?_
 refine pu (vb (decide ((x_h.N % 64) = (x_h.Held.length : Int)))) (wS h24) ?_
 refine pk (vb (decide ((x_h.N % 64) = (x_h.Held.length : Int)))) wN h24 ?_
 ag% (vb (decide ((x_h.N % 64) = (x_h.Held.length : Int))))
 n3%
 r1% (vb (decide ((x_h.N % 64) = (x_h.Held.length : Int))))
 kp% m23
 have hF27 : F_impl_HashOk x_h = decide ((x_h.N % 64) = (x_h.Held.length : Int)) := by simp only [F_impl_HashOk, h19, h24, cond_true, cond_false]
 rw [hF27]
 exact rfl
theorem hashOk_t {h : PHash} (hh : F_impl_HashOk h = true) : areW h.H 8 = true ∧ 0 ≤ h.N ∧ h.N ≤ 1048576 ∧ h.N % 64 = (h.Held.length : Int) := by
  cases h1 : areW h.H 8 with
  | false => simp [F_impl_HashOk, h1] at hh
  | true =>
    cases h2 : F_impl_within h.N 0 1048576 with
    | false => simp [F_impl_HashOk, h1, h2] at hh
    | true =>
      have h3 := impl_within_t h2
      simp [F_impl_HashOk, h1, h2] at hh
      exact ⟨rfl, h3.1, h3.2, by omega⟩

theorem C_impl_Cut (w0 : World) (v_x_b : Value) (x_b : List UInt8) (r_x_b : R_22 w0 v_x_b x_b) (x_from : Int) (x_n : Int)  : Fn Try.prog 178 #[v_x_b, (vi x_from), (vi x_n)] w0 (fun v w' => Keep w0 w' ∧ O_22_4 w' w0.heap.size v (cutP x_b x_from x_n)) := by
 obtain ⟨a1, c2, rfl, r3, s4⟩ := r_x_b
 refine fn_of (n := 36) (l := [(vs a1 x_b.length c2), (vi x_from), (vi x_n), U, U, U, U, U, U, U, U, U, U, U, U, U, U, U, U, U, U, U, U, U, U, U, U, U, U, U, U, U, U, U, U, U]) Try.func178 rfl rfl k% rfl ?_
 sr%
 ag% (vs none 0 0)
 ag% (vb false)
 n4%
 mv% (vi x_from)
 pu% (vb (decide (x_from < 0)))
 mv% (vb (decide (x_from < 0)))
 rcases bt (decide (x_from < 0)) with h6 | h6
 ·dt% q7 h6
  sk% h6
  sk% h6
  refine pk (vb true) wN h6 ?_
  mv% (vb true)
  st%
  st%
  st%
  st%
  refine pk (vb true) wN (Eq.refl true) ?_
  mv% (vb true)
  st%
  st%
  st%
  st%
  st%
  st%
  refine pk (vb true) wN (Eq.refl true) ?_
  n2%
  ct% (Eq.refl true)
  sr%
  ag% (vs none 0 0)
  ag% (vb false)
  n1%
  refine ret_2 (.inl rfl) (vs none 0 0) (vb false) rfl rfl rfl ?_
  refine ⟨Ch.refl _ _, ?_⟩
  have hF8 : cutP x_b x_from x_n = ([], false) := by first | exact cutP_f o% | exact cutP_t o% o% o% (by first | rfl | (congr 2; omega) | (congr 1; omega))
  rw [hF8]
  exact ⟨_, _, rfl, (by first | exact own_nil _ _ _ _ | exact OLv.nil _ _ _ _), (by simp), ⟨trivial, trivial⟩⟩
 df% q9 h6
 refine mv (vi x_n) (wS h6) ?_
 refine pu (vb (decide (x_n < 0))) (wS h6) ?_
 refine pf (vb (decide (x_n < 0))) wN h6 ?_
 mv% (vb (decide (x_n < 0)))
 rcases bt (decide (x_n < 0)) with h10 | h10
 ·dt% q11 h10
  sk% h10
  sk% h10
  sk% h10
  sk% h10
  refine pk (vb true) wN h10 ?_
  mv% (vb true)
  st%
  st%
  st%
  st%
  st%
  st%
  refine pk (vb true) wN (Eq.refl true) ?_
  n2%
  ct% (Eq.refl true)
  sr%
  ag% (vs none 0 0)
  ag% (vb false)
  n1%
  refine ret_2 (.inl rfl) (vs none 0 0) (vb false) rfl rfl rfl ?_
  refine ⟨Ch.refl _ _, ?_⟩
  have hF12 : cutP x_b x_from x_n = ([], false) := by first | exact cutP_f o% | exact cutP_t o% o% o% (by first | rfl | (congr 2; omega) | (congr 1; omega))
  rw [hF12]
  exact ⟨_, _, rfl, (by first | exact own_nil _ _ _ _ | exact OLv.nil _ _ _ _), (by simp), ⟨trivial, trivial⟩⟩
 df% q13 h10
 refine mv (vi x_from) (wS h10) ?_
 refine mv (vs a1 x_b.length c2) (wS h10) ?_
 refine ln (wS h10) slTy_22 r3 ?_
 refine pu (vb (decide ((x_b.length : Int) < x_from))) (wS h10) ?_
 refine pf (vb (decide ((x_b.length : Int) < x_from))) wN h10 ?_
 mv% (vb (decide ((x_b.length : Int) < x_from)))
 rcases bt (decide ((x_b.length : Int) < x_from)) with h14 | h14
 ·dt% q15 h14
  sk% h14
  sk% h14
  sk% h14
  sk% h14
  sk% h14
  sk% h14
  refine pk (vb true) wN h14 ?_
  n2%
  ct% (Eq.refl true)
  sr%
  ag% (vs none 0 0)
  ag% (vb false)
  n1%
  refine ret_2 (.inl rfl) (vs none 0 0) (vb false) rfl rfl rfl ?_
  refine ⟨Ch.refl _ _, ?_⟩
  have hF16 : cutP x_b x_from x_n = ([], false) := by first | exact cutP_f o% | exact cutP_t o% o% o% (by first | rfl | (congr 2; omega) | (congr 1; omega))
  rw [hF16]
  exact ⟨_, _, rfl, (by first | exact own_nil _ _ _ _ | exact OLv.nil _ _ _ _), (by simp), ⟨trivial, trivial⟩⟩
 df% q17 h14
 refine mv (vi x_n) (wS h14) ?_
 refine mv (vs a1 x_b.length c2) (wS h14) ?_
 refine ln (wS h14) slTy_22 r3 ?_
 refine mv (vi x_from) (wS h14) ?_
 refine ar ((x_b.length : Int) - x_from) (wS h14) ?_
 refine pu (vb (decide (((x_b.length : Int) - x_from) < x_n))) (wS h14) ?_
 refine pf (vb (decide (((x_b.length : Int) - x_from) < x_n))) wN h14 ?_
 n2%
 rcases bt (decide (((x_b.length : Int) - x_from) < x_n)) with h18 | h18
 ·dt% q19 h18
  ct% h18
  sr%
  ag% (vs none 0 0)
  ag% (vb false)
  n1%
  refine ret_2 (.inl rfl) (vs none 0 0) (vb false) rfl rfl rfl ?_
  refine ⟨Ch.refl _ _, ?_⟩
  have hF20 : cutP x_b x_from x_n = ([], false) := by first | exact cutP_f o% | exact cutP_t o% o% o% (by first | rfl | (congr 2; omega) | (congr 1; omega))
  rw [hF20]
  exact ⟨_, _, rfl, (by first | exact own_nil _ _ _ _ | exact OLv.nil _ _ _ _), (by simp), ⟨trivial, trivial⟩⟩
 df% q21 h18
 cf% h18
 z1%
 refine wl_lit0 wN rfl rfl slTy_22 (fun w => by kernel_rfl) ?_
 intro a22 w1 k23 o24
 have m25 := (Ch.base w0).extk k23
 mv% (vs a1 x_b.length c2)
 mv% (vi x_from)
 mv% (vi x_from)
 mv% (vi x_n)
 refine ar (x_from + x_n) wN ?_
 refine slv ((x_b.drop ((x_from).toNat)).take ((((x_from + x_n)).toNat) - ((x_from).toNat))) ((x_from).toNat) (((x_from + x_n)).toNat) wN slTy_22 (r3.from0 m25) oB% oB% (by first | rfl | (simp; done) | (rw [List.take_of_length_le (by first | (simp; done) | (simp; omega))])) rfl rfl rfl rfl (.inr ⟨_, _, _, rfl, rfl, by omega⟩) (.inr ⟨_, _, _, rfl, rfl, by omega⟩) ?_
 have q29 : ((x_from).toNat) ≤ (((x_from + x_n)).toNat) := oB%
 have q30 : (((x_from + x_n)).toNat) ≤ x_b.length := oB%
 refine wl_append0 wN rfl rfl rfl slTy_22 rfl rfl o24 (Rd.subV (x' := ((x_b.drop ((x_from).toNat)).take ((((x_from + x_n)).toNat) - ((x_from).toNat)))) (r3.from0 m25) q29 q30 (by first | rfl | (simp; done) | (rw [List.take_of_length_le (by first | (simp; done) | (simp; omega))]))) (all_bV _) (by first | (simp only [List.length_append, List.length_cons, List.length_nil, List.length_replicate, List.length_take, List.length_drop]; omega) | omega) (by simp only [maxLen]; first | (simp only [List.length_append, List.length_cons, List.length_nil, List.length_replicate, List.length_take, List.length_drop]; omega) | omega) k23.size ?_
 intro u31 w2 k32 o33 j34
 obtain ⟨a35, c36, rfl⟩ := own_form o33
 have n37 : New w1 a35 c36 := j34 _ _ rfl
 m% m38 m25 k32
 ag% (vs a35 ((x_b.drop ((x_from).toNat)).take ((((x_from + x_n)).toNat) - ((x_from).toNat))).length c36)
 ag% (vb true)
 n3%
 refine ret_2 (.inl rfl) (vs a35 ((x_b.drop ((x_from).toNat)).take ((((x_from + x_n)).toNat) - ((x_from).toNat))).length c36) (vb true) rfl rfl rfl ?_
 kp% m38
 have hF40 : cutP x_b x_from x_n = (((x_b.drop ((x_from).toNat)).take ((((x_from + x_n)).toNat) - ((x_from).toNat))), true) := by first | exact cutP_f o% | exact cutP_t o% o% o% (by first | rfl | (congr 2; omega) | (congr 1; omega))
 rw [hF40]
 exact ⟨_, _, rfl, o33, (Nat.le_trans (by simp only [List.length_take, List.length_drop]; omega) s4), ⟨trivial, trivial⟩⟩

theorem C_impl_GetN (w0 : World) (v_x_b : Value) (x_b : List UInt8) (r_x_b : R_22 w0 v_x_b x_b) (x_at : Int) (x_k : Int)  : Fn Try.prog 177 #[v_x_b, (vi x_at), (vi x_k)] w0 (fun v w' => Keep w0 w' ∧ O_3_3_4 w' w0.heap.size v (getN3 x_b x_at x_k)) := by
 obtain ⟨a1, c2, rfl, r3, s4⟩ := r_x_b
 refine fn_of (n := 45) (l := [(vs a1 x_b.length c2), (vi x_at), (vi x_k), U, U, U, U, U, U, U, U, U, U, U, U, U, U, U, U, U, U, U, U, U, U, U, U, U, U, U, U, U, U, U, U, U, U, U, U, U, U, U, U, U, U]) Try.func177 rfl rfl k% rfl ?_
 sr%
 ag% (vi 0)
 ag% (vi 0)
 ag% (vb false)
 n4%
 mv% (vi x_k)
 pu% (vb (decide (x_k < 1)))
 mv% (vb (decide (x_k < 1)))
 rcases bt (decide (x_k < 1)) with h6 | h6
 ·dt% q7 h6
  sk% h6
  sk% h6
  refine pk (vb true) wN h6 ?_
  n2%
  ct% (Eq.refl true)
  sr%
  ag% (vi 0)
  ag% (vi 0)
  ag% (vb false)
  n1%
  refine ret_3 (.inl rfl) (vi 0) (vi 0) (vb false) rfl rfl rfl rfl ?_
  refine ⟨Ch.refl _ _, ?_⟩
  have hF8 : getN3 x_b x_at x_k = (0, 0, false) := by first | exact getN3_f o% | exact getN3_c a% | exact getN3_t o% o% a% o%
  rw [hF8]
  exact rfl
 df% q9 h6
 refine mv (vi x_k) (wS h6) ?_
 refine pu (vb (decide (6 < x_k))) (wS h6) ?_
 refine pf (vb (decide (6 < x_k))) wN h6 ?_
 n2%
 rcases bt (decide (6 < x_k)) with h10 | h10
 ·dt% q11 h10
  ct% h10
  sr%
  ag% (vi 0)
  ag% (vi 0)
  ag% (vb false)
  n1%
  refine ret_3 (.inl rfl) (vi 0) (vi 0) (vb false) rfl rfl rfl rfl ?_
  refine ⟨Ch.refl _ _, ?_⟩
  have hF12 : getN3 x_b x_at x_k = (0, 0, false) := by first | exact getN3_f o% | exact getN3_c a% | exact getN3_t o% o% a% o%
  rw [hF12]
  exact rfl
 df% q13 h10
 cf% h10
 z1%
 mv% (vs a1 x_b.length c2)
 mv% (vi x_at)
 mv% (vi x_k)
 cl% (C_impl_Cut w0 _ x_b (mR_22 r3 s4) x_at x_k)
 rintro _ w1 ⟨k14, ⟨a15, c16, rfl, o17, s18, ap20⟩⟩
 have m21 := (Ch.base w0).extk k14
 have q22 := cutP_len x_b x_at x_k
 mv% (.tuple #[(vs a15 ((cutP x_b x_at x_k).1).length c16), (vb ((cutP x_b x_at x_k).2))])
 pu% (vs a15 ((cutP x_b x_at x_k).1).length c16)
 pu% (vb ((cutP x_b x_at x_k).2))
 ag% (vs a15 ((cutP x_b x_at x_k).1).length c16)
 ag% (vb ((cutP x_b x_at x_k).2))
 n4%
 mv% (vb ((cutP x_b x_at x_k).2))
 pu% (vb (!((cutP x_b x_at x_k).2)))
 n2%
 rcases bf ((cutP x_b x_at x_k).2) with h23 | h23
 ·ct% (congrArg not h23)
  sr%
  ag% (vi 0)
  ag% (vi 0)
  ag% (vb false)
  n1%
  refine ret_3 (.inl rfl) (vi 0) (vi 0) (vb false) rfl rfl rfl rfl ?_
  kp% m21
  have hF35 : getN3 x_b x_at x_k = (0, 0, false) := by first | exact getN3_f o% | exact getN3_c a% | exact getN3_t o% o% a% o%
  rw [hF35]
  exact rfl
 have q24 := cutP_2 h23
 cf% (congrArg not h23)
 z1%
 ag% (vi 0)
 n4%
 mv% (vs a15 ((cutP x_b x_at x_k).1).length c16)
 refine ln wN slTy_22 (Rd.of_own o17) ?_
 mv% (vi 0)
 refine wl_nil <| wq_then <| wc_block ?_
 refine wc_loopQ (fun e => [e 0, (vi x_at), (vi x_k), e 3, e 4, e 5, (vi 0), (vi 0), (vb false), e 9, e 10, (vi (getV ((cutP x_b x_at x_k).1.take 0) 0)), e 12, e 13, e 14, e 15, e 16, e 17, e 18, e 19, e 20, e 21, e 22, e 23, e 24, e 25, e 26, e 27, e 28, (vs a15 ((cutP x_b x_at x_k).1).length c16), (vi (((cutP x_b x_at x_k).1).length : Int)), (vi ((0 : Nat) : Int)), e 32, e 33, e 34, e 35, e 36, e 37, e 38, e 39, e 40, U, U, U, U]) rfl ⟨rfl, rfl, rfl, rfl, rfl, rfl, rfl, rfl, rfl, rfl, rfl, (congrArg (Value.int .i64) (show (0 : Int) = (getV ((cutP x_b x_at x_k).1.take 0) 0) by rfl)), rfl, rfl, rfl, rfl, rfl, rfl, rfl, rfl, rfl, rfl, rfl, rfl, rfl, rfl, rfl, rfl, rfl, rfl, rfl, (congrArg (Value.int .i64) (show (0 : Int) = ((0 : Nat) : Int) by omega)), rfl, rfl, rfl, rfl, rfl, rfl, rfl, rfl, rfl, rfl, rfl, rfl, rfl, trivial⟩ (fun e' w' => ∃ (i : Nat) (u25 : Nat → Value), e' = lst [(u25 0), (vi x_at), (vi x_k), (u25 1), (u25 2), (u25 3), (vi 0), (vi 0), (vb false), (u25 4), (u25 5), (vi (getV ((cutP x_b x_at x_k).1.take i) 0)), (u25 6), (u25 7), (u25 8), (u25 9), (u25 10), (u25 11), (u25 12), (u25 13), (u25 14), (u25 15), (u25 16), (u25 17), (u25 18), (u25 19), (u25 20), (u25 21), (u25 22), (vs a15 ((cutP x_b x_at x_k).1).length c16), (vi (((cutP x_b x_at x_k).1).length : Int)), (vi ((i : Nat) : Int)), (u25 23), (u25 24), (u25 25), (u25 26), (u25 27), (u25 28), (u25 29), (u25 30), (u25 31), U, U, U, U] ∧ Ch (fun k => w0.heap.size ≤ k) w0 w' ∧ Ch (fun k => w1.heap.size ≤ k) w1 w' ∧ i ≤ (cutP x_b x_at x_k).1.length) (fun e' _ => (cutP x_b x_at x_k).1.length - ((intOf (e' 31))).toNat) ?_ ?_
 ·exact fun u => ⟨0, (unL [u 0, u 3, u 4, u 5, u 9, u 10, u 12, u 13, u 14, u 15, u 16, u 17, u 18, u 19, u 20, u 21, u 22, u 23, u 24, u 25, u 26, u 27, u 28, u 32, u 33, u 34, u 35, u 36, u 37, u 38, u 39, u 40]), rfl, m21, (Ch.refl (fun k => w1.heap.size ≤ k) w1), o%⟩
 ·rintro _ w2 ⟨i, u25, rfl, m26, k27, i28⟩
  have hgb := getV_b6 ((cutP x_b x_at x_k).1) i o%
  have hx8 : ((cutP x_b x_at x_k).1.getD i 0).toNat < 256 := UInt8.toNat_lt _
  sr%
  pu% (vb (decide (((i : Nat) : Int) < (((cutP x_b x_at x_k).1).length : Int))))
  refine wl_nil <| wq_then <| wc_seq ?_
  rcases bf (decide (((i : Nat) : Int) < (((cutP x_b x_at x_k).1).length : Int))) with h29 | h29
  ·df% q32 h29
   cf% h29
   refine wc_exit <| wq_then_exit <| wq_then_exit <| wq_blk_exit <| wq_then <| sr ?_
   mv% (vi (getV ((cutP x_b x_at x_k).1.take i) 0))
   mv% (vi x_at)
   mv% (vi x_k)
   refine ar (x_at + x_k) wN ?_
   ag% (vi (getV ((cutP x_b x_at x_k).1.take i) 0))
   ag% (vi (x_at + x_k))
   ag% (vb true)
   n3%
   refine ret_3 (.inl rfl) (vi (getV ((cutP x_b x_at x_k).1.take i) 0)) (vi (x_at + x_k)) (vb true) rfl rfl rfl rfl ?_
   kp% m26
   have hF33 : getN3 x_b x_at x_k = ((getV ((cutP x_b x_at x_k).1.take i) 0), (x_at + x_k), true) := by first | exact getN3_f o% | exact getN3_c a% | exact getN3_t o% o% a% o%
   rw [hF33]
   exact rfl
  dt% q30 h29
  ct% h29
  refine wc_skip <| wq_then <| wc_seq <| wc_block <| sr ?_
  have o31 := (own_ch o17 k27 (fun g hg hlt hk => by have h1 := (own_lt o17 g hg).2; have h2 : w1.heap.size ≤ w1.heap.size := (Nat.le_refl w1.heap.size); have h3 : w1.heap.size ≤ g := hk; omega))
  refine wl_index (v := (vs a15 ((cutP x_b x_at x_k).1).length c16)) wN ((i : Nat) : Int) rfl rfl rfl slTy_22 rfl rfl (Rd.of_own o31) oB% oB% ?_
  refine wl_loadE (bV (((cutP x_b x_at x_k).1).getD i 0)) wN rfl rfl rfl rfl isAgg_5 (Rd.of_own o31) (bget (by simp) oB%) ?_
  ag% (v8 ((((cutP x_b x_at x_k).1).getD i 0).toNat : Int))
  refine wl_nil <| wq_then <| wc_region ?_
  mv% (vi (getV ((cutP x_b x_at x_k).1.take i) 0))
  refine ar (256 * (getV ((cutP x_b x_at x_k).1.take i) 0)) wN ?_
  mv% (v8 ((((cutP x_b x_at x_k).1).getD i 0).toNat : Int))
  refine ar ((((cutP x_b x_at x_k).1).getD i 0).toNat : Int) wN ?_
  refine ar ((256 * (getV ((cutP x_b x_at x_k).1.take i) 0)) + ((((cutP x_b x_at x_k).1).getD i 0).toNat : Int)) wN ?_
  ag% (vi ((256 * (getV ((cutP x_b x_at x_k).1.take i) 0)) + ((((cutP x_b x_at x_k).1).getD i 0).toNat : Int)))
  refine wl_nil <| wq_blk_normal <| wq_then <| wc_region ?_
  refine ar (((i : Nat) : Int) + 1) wN ?_
  mv% (vi (((i : Nat) : Int) + 1))
  refine wl_nil ?_
  refine wq_loopQ (w0 := w2) (fun e => [e 0, (vi x_at), (vi x_k), e 3, e 4, e 5, (vi 0), (vi 0), (vb false), e 9, e 10, (vi (getV ((cutP x_b x_at x_k).1.take (i + 1)) 0)), e 12, e 13, e 14, e 15, e 16, e 17, e 18, e 19, e 20, e 21, e 22, e 23, e 24, e 25, e 26, e 27, e 28, (vs a15 ((cutP x_b x_at x_k).1).length c16), (vi (((cutP x_b x_at x_k).1).length : Int)), (vi (((i + 1) : Nat) : Int)), e 32, e 33, e 34, e 35, e 36, e 37, e 38, e 39, e 40, U, U, U, U]) rfl ?_ ?_ ?_
  · exact ⟨rfl, rfl, rfl, rfl, rfl, rfl, rfl, rfl, rfl, rfl, rfl, (congrArg (Value.int .i64) (show (((256 * (getV ((cutP x_b x_at x_k).1.take i) 0)) + ((((cutP x_b x_at x_k).1).getD i 0).toNat : Int)) : Int) = (getV ((cutP x_b x_at x_k).1.take (i + 1)) 0) by exact getV_next o%)), rfl, rfl, rfl, rfl, rfl, rfl, rfl, rfl, rfl, rfl, rfl, rfl, rfl, rfl, rfl, rfl, rfl, rfl, rfl, (congrArg (Value.int .i64) (show ((((i : Nat) : Int) + 1) : Int) = (((i + 1) : Nat) : Int) by omega)), rfl, rfl, rfl, rfl, rfl, rfl, rfl, rfl, rfl, rfl, rfl, rfl, rfl, trivial⟩
  · exact fun u => ⟨(i + 1), (unL [u 0, u 3, u 4, u 5, u 9, u 10, u 12, u 13, u 14, u 15, u 16, u 17, u 18, u 19, u 20, u 21, u 22, u 23, u 24, u 25, u 26, u 27, u 28, u 32, u 33, u 34, u 35, u 36, u 37, u 38, u 39, u 40]), rfl, m26, ((Ch.refl (fun k => w1.heap.size ≤ k) w1).ext k27 (fun k hk => Nat.le_trans (Nat.le_refl w1.heap.size) hk)), o%⟩
  · show (cutP x_b x_at x_k).1.length - ((((i + 1) : Nat) : Int)).toNat < (cutP x_b x_at x_k).1.length - (((i : Nat) : Int)).toNat; omega

theorem C_impl_Rot (w0 : World) (x_x : Int) (x_n : Int) (pre0 : 1 ≤ x_n) (pre1 : x_n ≤ 31) : Fn Try.prog 174 #[(vi x_x), (vi x_n)] w0 (fun v w' => Keep w0 w' ∧ O_3 w' w0.heap.size v (rot x_x x_n)) := by
 refine fn_of (n := 23) (l := [(vi x_x), (vi x_n), U, U, U, U, U, U, U, U, U, U, U, U, U, U, U, U, U, U, U, U, U]) Try.func174 rfl rfl k% rfl ?_
 sr%
 ag% (vi 0)
 nx%
 mv% (vi x_x)
 refine wl_and x_x 4294967295 4294967296 32 wN rfl rfl (by decide) (by decide) (by decide) k% ?_
 ag% (vi (x_x % 4294967296))
 n4%
 mv% (vi x_n)
 pu% (vb (decide (x_n < 0)))
 mv% (vb (decide (x_n < 0)))
 rcases bt (decide (x_n < 0)) with h1 | h1
 ·dt% q2 h1
  sk% h1
  sk% h1
  refine pk (vb true) wN h1 ?_
  n2%
  ct% (Eq.refl true)
  sr%
  mv% (vi (x_x % 4294967296))
  ag% (vi (x_x % 4294967296))
  n1%
  r1% (vi (x_x % 4294967296))
  refine ⟨Ch.refl _ _, ?_⟩
  have hF3 : rot x_x x_n = (x_x % 4294967296) := by first | rfl | (exfalso; omega)
  rw [hF3]
  exact rfl
 df% q4 h1
 refine mv (vi x_n) (wS h1) ?_
 refine pu (vb (decide (31 < x_n))) (wS h1) ?_
 refine pf (vb (decide (31 < x_n))) wN h1 ?_
 n2%
 rcases bt (decide (31 < x_n)) with h5 | h5
 ·dt% q6 h5
  ct% h5
  sr%
  mv% (vi (x_x % 4294967296))
  ag% (vi (x_x % 4294967296))
  n1%
  r1% (vi (x_x % 4294967296))
  refine ⟨Ch.refl _ _, ?_⟩
  have hF7 : rot x_x x_n = (x_x % 4294967296) := by first | rfl | (exfalso; omega)
  rw [hF7]
  exact rfl
 df% q8 h5
 cf% h5
 refine wc_skip <| wq_then <| wc_seq ?_
 refine wc_drawT ([(14, [], [], (fun _ v _ => v = (vi (x_x % 4294967296)))), (15, [], [], (fun _ v _ => v = (vi x_n))), (16, [], [0, 1], (fun _ v _ => v = (vi ((x_x % 4294967296) / (2 : Int) ^ (x_n).toNat)))), (17, [], [], (fun _ v _ => v = (vi (x_x % 4294967296)))), (18, [], [], (fun _ v _ => v = (vi x_n))), (19, [], [4], (fun _ v _ => v = (vi (32 - x_n)))), (20, [], [3, 4, 5], (fun _ v _ => v = (vi ((x_x % 4294967296) * (2 : Int) ^ ((32 - x_n)).toNat))))] : GV) (fun _ w' => Keep w0 w') [] mixed rfl k% k% ?_ (fun _ _ h => h) (fun _ _ _ _ h _ k => h.trans k) trivial ?_ ?_ ?_
 ·exact ⟨s%, t%, ⟨s%, t%, ⟨s%, t%, ⟨s%, t%, ⟨s%, t%, ⟨s%, t%, ⟨s%, t%, trivial⟩⟩⟩⟩⟩⟩⟩
 ·exact trivial
 ·refine ⟨?_, ⟨?_, ⟨?_, ⟨?_, ⟨?_, ⟨?_, ⟨?_, trivial⟩⟩⟩⟩⟩⟩⟩
  ·intro _ w1 k14 _
   have m15 := (Ch.base w0).extk k14
   rintro _ _ _ _ _ _ _
   w%
   mv% (vi (x_x % 4294967296))
   f1%
  ·intro _ w1 k16 _
   have m17 := (Ch.base w0).extk k16
   rintro _ _ _ _ _ _ _
   w%
   mv% (vi x_n)
   f1%
  ·intro _ w1 k18 _
   have m19 := (Ch.base w0).extk k18
   rintro _ rfl _ rfl _ _ _ _ _
   w%
   refine wl_shr (x_x % 4294967296) x_n wN rfl rfl rfl rfl rfl o% o% ?_
   have q20 := shr_b (a := (x_x % 4294967296)) o% (x_n).toNat
   f1%
  ·intro _ w1 k21 _
   have m22 := (Ch.base w0).extk k21
   rintro _ _ _ _ _ _ _
   w%
   mv% (vi (x_x % 4294967296))
   f1%
  ·intro _ w1 k23 _
   have m24 := (Ch.base w0).extk k23
   rintro _ _ _ _ _ _ _
   w%
   mv% (vi x_n)
   f1%
  ·intro _ w1 k25 _
   have m26 := (Ch.base w0).extk k25
   rintro _ _ _ _ _ rfl _ _
   w%
   refine ar (32 - x_n) wN ?_
   f1%
  ·intro _ w1 k27 _
   have m28 := (Ch.base w0).extk k27
   rintro _ _ _ _ rfl _ rfl _ rfl _
   w%
   refine wl_shl (x_x % 4294967296) (32 - x_n) wN rfl rfl rfl rfl rfl o% o% o% o% ?_
   have q29 := shl_b (a := (x_x % 4294967296)) (n := ((32 - x_n)).toNat) o% o% o%
   f1%
 ·intro _ w1 k30
  have m31 := (Ch.base w0).extk k30
  rintro _ rfl _ rfl _ rfl
  have q32 := shr_b (a := (x_x % 4294967296)) o% (x_n).toNat
  rintro _ rfl _ rfl _ rfl _ rfl
  have q33 := shl_b (a := (x_x % 4294967296)) (n := ((32 - x_n)).toNat) o% o% o%
  w%
  refine wl_or ((x_x % 4294967296) / (2 : Int) ^ (x_n).toNat) ((x_x % 4294967296) * (2 : Int) ^ ((32 - x_n)).toNat) wN rfl rfl k% o% o% o% o% ?_
  have q34 := orI_p (a := ((x_x % 4294967296) / (2 : Int) ^ (x_n).toNat)) (b := ((x_x % 4294967296) * (2 : Int) ^ ((32 - x_n)).toNat)) o% o%
  refine wl_and (orI ((x_x % 4294967296) / (2 : Int) ^ (x_n).toNat) ((x_x % 4294967296) * (2 : Int) ^ ((32 - x_n)).toNat)) 4294967295 4294967296 32 wN rfl rfl (by decide) (by decide) (by decide) k% ?_
  ag% (vi ((orI ((x_x % 4294967296) / (2 : Int) ^ (x_n).toNat) ((x_x % 4294967296) * (2 : Int) ^ ((32 - x_n)).toNat)) % 4294967296))
  n3%
  r1% (vi ((orI ((x_x % 4294967296) / (2 : Int) ^ (x_n).toNat) ((x_x % 4294967296) * (2 : Int) ^ ((32 - x_n)).toNat)) % 4294967296))
  kp% m31
  have hF35 : rot x_x x_n = ((orI ((x_x % 4294967296) / (2 : Int) ^ (x_n).toNat) ((x_x % 4294967296) * (2 : Int) ^ ((32 - x_n)).toNat)) % 4294967296) := by first | rfl | (exfalso; omega)
  rw [hF35]
  exact rfl

theorem C_impl_Schedule (w0 : World) (v_x_block : Value) (x_block : List UInt8) (r_x_block : R_22 w0 v_x_block x_block)  : Fn Try.prog 173 #[v_x_block] w0 (fun v w' => Keep w0 w' ∧ O_32 w' w0.heap.size v (schedP x_block)) := by
 obtain ⟨a1, c2, rfl, r3, s4⟩ := r_x_block
 refine fn_of (n := 79) (l := [(vs a1 x_block.length c2), U, U, U, U, U, U, U, U, U, U, U, U, U, U, U, U, U, U, U, U, U, U, U, U, U, U, U, U, U, U, U, U, U, U, U, U, U, U, U, U, U, U, U, U, U, U, U, U, U, U, U, U, U, U, U, U, U, U, U, U, U, U, U, U, U, U, U, U, U, U, U, U, U, U, U, U, U, U]) Try.func173 rfl rfl k% rfl ?_
 sr%
 ag% (vs none 0 0)
 n4%
 mv% (vs a1 x_block.length c2)
 refine ln wN slTy_22 r3 ?_
 pu% (vb (!(decide ((x_block.length : Int) = 64))))
 n2%
 rcases bf (decide ((x_block.length : Int) = 64)) with h6 | h6
 ·df% q169 h6
  ct% (congrArg not h6)
  sr%
  ag% (vs none 0 0)
  n1%
  r1% (vs none 0 0)
  refine ⟨Ch.refl _ _, ?_⟩
  have hF170 : schedP x_block = [] := by first | exact schedP_f o% | exact schedP_t o% o% o%
  rw [hF170]
  exact ⟨_, _, rfl, (by first | exact own_nil _ _ _ _ | exact OLv.nil _ _ _ _), (by simp), ⟨trivial, trivial⟩⟩
 dt% q7 h6
 cf% (congrArg not h6)
 z1%
 refine wl_makeI (64) wN rfl rfl rfl slTy_32 64 rfl o% (by first | (simp only [List.length_append, List.length_cons, List.length_nil, List.length_replicate, List.length_take, List.length_drop]; omega) | omega) (by first | (simp only [List.length_append, List.length_cons, List.length_nil, List.length_replicate, List.length_take, List.length_drop]; omega) | omega) ?_
 intro a8 c9 w1 k10 o11
 have m12 := (Ch.base w0).extk k10
 ag% (vs a8 (List.replicate 64 (0 : Int)).length c9)
 n4%
 ag% (vi 0)
 refine wl_nil <| wq_then <| wc_block ?_
 have hE15 : ((List.replicate 64 (0 : Int)) : List Int) = sched16 x_block 0 ++ List.replicate (64 - 0) (0 : Int) := by rfl
 refine wc_loopQ (fun e => [(vs a1 x_block.length c2), e 1, (vs none 0 0), (vs a8 (List.replicate 64 (0 : Int)).length c9), (vi ((0 : Nat) : Int)), U, U, U, U, U, e 10, e 11, e 12, e 13, e 14, e 15, e 16, e 17, e 18, e 19, e 20, e 21, e 22, e 23, e 24, e 25, e 26, e 27, e 28, U, U, U, U, U, U, U, U, U, U, U, U, U, U, U, U, U, U, U, U, U, U, U, U, U, U, U, U, U, U, U, U, U, U, U, U, U, U, U, U, U, U, U, U, U, U, U, U, U, U]) rfl ⟨rfl, rfl, rfl, rfl, (congrArg (Value.int .i64) (show (0 : Int) = ((0 : Nat) : Int) by omega)), rfl, rfl, rfl, rfl, rfl, rfl, rfl, rfl, rfl, rfl, rfl, rfl, rfl, rfl, rfl, rfl, rfl, rfl, rfl, rfl, rfl, rfl, rfl, rfl, rfl, rfl, rfl, rfl, rfl, rfl, rfl, rfl, rfl, rfl, rfl, rfl, rfl, rfl, rfl, rfl, rfl, rfl, rfl, rfl, rfl, rfl, rfl, rfl, rfl, rfl, rfl, rfl, rfl, rfl, rfl, rfl, rfl, rfl, rfl, rfl, rfl, rfl, rfl, rfl, rfl, rfl, rfl, rfl, rfl, rfl, rfl, rfl, rfl, rfl, trivial⟩ (fun e' w' => ∃ (k : Nat) (u14 : Nat → Value), e' = lst [(vs a1 x_block.length c2), (u14 0), (vs none 0 0), (vs a8 (List.replicate 64 (0 : Int)).length c9), (vi ((k : Nat) : Int)), U, U, U, U, U, (u14 1), (u14 2), (u14 3), (u14 4), (u14 5), (u14 6), (u14 7), (u14 8), (u14 9), (u14 10), (u14 11), (u14 12), (u14 13), (u14 14), (u14 15), (u14 16), (u14 17), (u14 18), (u14 19), U, U, U, U, U, U, U, U, U, U, U, U, U, U, U, U, U, U, U, U, U, U, U, U, U, U, U, U, U, U, U, U, U, U, U, U, U, U, U, U, U, U, U, U, U, U, U, U, U, U] ∧ Ch (fun k => w0.heap.size ≤ k) w0 w' ∧ Ch (fun k => w0.heap.size ≤ k) w1 w' ∧ k ≤ 16 ∧ World.ownsRow w' w0.heap.size 3 1 (.slice a8 (List.replicate 64 (0 : Int)).length c9) (List.replicate 64 (0 : Int)).length ((sched16 x_block k ++ List.replicate (64 - k) (0 : Int)).map iV)) (fun e' _ => (16 - (intOf (e' 4))).toNat) ?_ ?_
 ·exact fun u => ⟨0, (unL [u 1, u 10, u 11, u 12, u 13, u 14, u 15, u 16, u 17, u 18, u 19, u 20, u 21, u 22, u 23, u 24, u 25, u 26, u 27, u 28]), rfl, m12, (Ch.refl (fun k => w0.heap.size ≤ k) w1), o%, (by rw [← hE15]; exact o11)⟩
 ·rintro _ w2 ⟨k, u14, rfl, m16, k17, i18, o19⟩
  have hsl := sched16_len x_block k
  refine wc_seq <| sr ?_
  mv% (vi ((k : Nat) : Int))
  pu% (vb (decide (((k : Nat) : Int) < 16)))
  n2%
  rcases bt (decide (((k : Nat) : Int) < 16)) with h20 | h20
  ·dt% q21 h20
   ct% h20
   refine wc_skip <| wq_then <| wc_seq <| wc_block <| wc_region ?_
   mv% (vs a8 (List.replicate 64 (0 : Int)).length c9)
   mv% (vi ((k : Nat) : Int))
   mv% (vs a1 x_block.length c2)
   mv% (vi ((k : Nat) : Int))
   refine ar (4 * ((k : Nat) : Int)) wN ?_
   cl% (C_impl_GetN w2 _ x_block (mR_22 (r3.from0 m16) s4) (4 * ((k : Nat) : Int)) 4)
   rintro _ w3 ⟨k22, rfl⟩
   m% m23 m16 k22
   mv% (.tuple #[(vi ((getN3 x_block (4 * ((k : Nat) : Int)) 4).1)), (vi ((getN3 x_block (4 * ((k : Nat) : Int)) 4).2.1)), (vb ((getN3 x_block (4 * ((k : Nat) : Int)) 4).2.2))])
   pu% (vi ((getN3 x_block (4 * ((k : Nat) : Int)) 4).1))
   pu% (vi ((getN3 x_block (4 * ((k : Nat) : Int)) 4).2.1))
   pu% (vb ((getN3 x_block (4 * ((k : Nat) : Int)) 4).2.2))
   have o24 := (own_kp o19 k22)
   refine wl_index (v := (vs a8 (List.replicate 64 (0 : Int)).length c9)) wN ((k : Nat) : Int) rfl rfl rfl slTy_32 rfl rfl (Rd.of_own o24) oB% oB% ?_
   refine wl_storeI (sched16 x_block k ++ List.replicate (64 - k) (0 : Int)) (k) ((getN3 x_block (4 * ((k : Nat) : Int)) 4).1) wN rfl rfl rfl (by simp) rfl sizeOf_3 o24 (by first | omega | (simp only [List.length_append, List.length_replicate, List.length_take, List.length_set, List.length_map]; omega)) ?_
   intro w4 k25 o26
   have m27 := m23.ext k25 (fun k hk => Nat.le_trans (Nat.le_refl w0.heap.size) (own_lt o11 k hk).1)
   refine wl_nil <| wq_blk_normal <| wq_then <| wc_region ?_
   mv% (vi ((k : Nat) : Int))
   refine ar (((k : Nat) : Int) + 1) wN ?_
   ag% (vi (((k : Nat) : Int) + 1))
   refine wl_nil ?_
   have hE28 : (((sched16 x_block k ++ List.replicate (64 - k) (0 : Int)).set k ((getN3 x_block (4 * ((k : Nat) : Int)) 4).1)) : List Int) = sched16 x_block (k + 1) ++ List.replicate (64 - (k + 1)) (0 : Int) := by exact sched16_next o% o%
   refine wq_loopQ (w0 := w2) (fun e => [(vs a1 x_block.length c2), e 1, (vs none 0 0), (vs a8 (List.replicate 64 (0 : Int)).length c9), (vi (((k + 1) : Nat) : Int)), U, U, U, U, U, e 10, e 11, e 12, e 13, e 14, e 15, e 16, e 17, e 18, e 19, e 20, e 21, e 22, e 23, e 24, e 25, e 26, e 27, e 28, U, U, U, U, U, U, U, U, U, U, U, U, U, U, U, U, U, U, U, U, U, U, U, U, U, U, U, U, U, U, U, U, U, U, U, U, U, U, U, U, U, U, U, U, U, U, U, U, U, U]) rfl ?_ ?_ ?_
   · exact ⟨rfl, rfl, rfl, rfl, (congrArg (Value.int .i64) (show ((((k : Nat) : Int) + 1) : Int) = (((k + 1) : Nat) : Int) by omega)), rfl, rfl, rfl, rfl, rfl, rfl, rfl, rfl, rfl, rfl, rfl, rfl, rfl, rfl, rfl, rfl, rfl, rfl, rfl, rfl, rfl, rfl, rfl, rfl, rfl, rfl, rfl, rfl, rfl, rfl, rfl, rfl, rfl, rfl, rfl, rfl, rfl, rfl, rfl, rfl, rfl, rfl, rfl, rfl, rfl, rfl, rfl, rfl, rfl, rfl, rfl, rfl, rfl, rfl, rfl, rfl, rfl, rfl, rfl, rfl, rfl, rfl, rfl, rfl, rfl, rfl, rfl, rfl, rfl, rfl, rfl, rfl, rfl, rfl, trivial⟩
   · exact fun u => ⟨(k + 1), (unL [u 1, u 10, u 11, u 12, u 13, u 14, u 15, u 16, u 17, u 18, u 19, u 20, u 21, u 22, u 23, u 24, u 25, u 26, u 27, u 28]), rfl, m27, ((((Ch.refl (fun k => w0.heap.size ≤ k) w1).ext k17 (fun k hk => Nat.le_trans (Nat.le_refl w0.heap.size) hk)).extk k22).ext k25 (fun k hk => Nat.le_trans (Nat.le_refl w0.heap.size) (own_lt o11 k hk).1)), o%, (by rw [← hE28]; exact o26)⟩
   · show (16 - (((k + 1) : Nat) : Int)).toNat < (16 - ((k : Nat) : Int)).toNat; omega
  df% q29 h20
  cf% h20
  refine wc_exit <| wq_then_exit ?_
  obtain rfl : k = 16 := by omega
  refine wq_then_exit <| wq_blk_exit <| wq_then <| wc_seq <| sr ?_
  ag% (vi 16)
  refine wl_nil <| wq_then <| wc_block ?_
  have hE31 : ((sched16 x_block 16 ++ List.replicate (64 - 16) (0 : Int)) : List Int) = schedN x_block 0 ++ List.replicate (48 - 0) (0 : Int) := by rfl
  refine wc_loopQ (fun e => [e 0, e 1, (vs none 0 0), (vs a8 (List.replicate 64 (0 : Int)).length c9), e 4, (vi (16 + ((0 : Nat) : Int))), e 6, e 7, e 8, e 9, e 10, e 11, e 12, e 13, e 14, e 15, e 16, e 17, e 18, e 19, e 20, e 21, e 22, e 23, e 24, e 25, e 26, e 27, e 28, e 29, e 30, e 31, e 32, e 33, e 34, e 35, e 36, e 37, e 38, e 39, e 40, e 41, e 42, e 43, e 44, e 45, e 46, e 47, e 48, e 49, e 50, e 51, e 52, e 53, e 54, e 55, e 56, e 57, e 58, e 59, e 60, e 61, e 62, e 63, e 64, e 65, e 66, e 67, e 68, e 69, e 70, e 71, e 72, e 73, e 74, e 75, e 76, e 77, U]) rfl ⟨rfl, rfl, rfl, rfl, rfl, (congrArg (Value.int .i64) (show (16 : Int) = (16 + ((0 : Nat) : Int)) by omega)), rfl, rfl, rfl, rfl, rfl, rfl, rfl, rfl, rfl, rfl, rfl, rfl, rfl, rfl, rfl, rfl, rfl, rfl, rfl, rfl, rfl, rfl, rfl, rfl, rfl, rfl, rfl, rfl, rfl, rfl, rfl, rfl, rfl, rfl, rfl, rfl, rfl, rfl, rfl, rfl, rfl, rfl, rfl, rfl, rfl, rfl, rfl, rfl, rfl, rfl, rfl, rfl, rfl, rfl, rfl, rfl, rfl, rfl, rfl, rfl, rfl, rfl, rfl, rfl, rfl, rfl, rfl, rfl, rfl, rfl, rfl, rfl, rfl, trivial⟩ (fun e' w' => ∃ (m : Nat) (u30 : Nat → Value), e' = lst [(u30 0), (u30 1), (vs none 0 0), (vs a8 (List.replicate 64 (0 : Int)).length c9), (u30 2), (vi (16 + ((m : Nat) : Int))), (u30 3), (u30 4), (u30 5), (u30 6), (u30 7), (u30 8), (u30 9), (u30 10), (u30 11), (u30 12), (u30 13), (u30 14), (u30 15), (u30 16), (u30 17), (u30 18), (u30 19), (u30 20), (u30 21), (u30 22), (u30 23), (u30 24), (u30 25), (u30 26), (u30 27), (u30 28), (u30 29), (u30 30), (u30 31), (u30 32), (u30 33), (u30 34), (u30 35), (u30 36), (u30 37), (u30 38), (u30 39), (u30 40), (u30 41), (u30 42), (u30 43), (u30 44), (u30 45), (u30 46), (u30 47), (u30 48), (u30 49), (u30 50), (u30 51), (u30 52), (u30 53), (u30 54), (u30 55), (u30 56), (u30 57), (u30 58), (u30 59), (u30 60), (u30 61), (u30 62), (u30 63), (u30 64), (u30 65), (u30 66), (u30 67), (u30 68), (u30 69), (u30 70), (u30 71), (u30 72), (u30 73), (u30 74), U] ∧ Ch (fun k => w0.heap.size ≤ k) w0 w' ∧ Ch (fun k => w0.heap.size ≤ k) w2 w' ∧ m ≤ 48 ∧ World.ownsRow w' w0.heap.size 3 1 (.slice a8 (List.replicate 64 (0 : Int)).length c9) (List.replicate 64 (0 : Int)).length ((schedN x_block m ++ List.replicate (48 - m) (0 : Int)).map iV)) (fun e' _ => (64 - (intOf (e' 5))).toNat) ?_ ?_
  ·exact fun u => ⟨0, (unL [u 0, u 1, u 4, u 6, u 7, u 8, u 9, u 10, u 11, u 12, u 13, u 14, u 15, u 16, u 17, u 18, u 19, u 20, u 21, u 22, u 23, u 24, u 25, u 26, u 27, u 28, u 29, u 30, u 31, u 32, u 33, u 34, u 35, u 36, u 37, u 38, u 39, u 40, u 41, u 42, u 43, u 44, u 45, u 46, u 47, u 48, u 49, u 50, u 51, u 52, u 53, u 54, u 55, u 56, u 57, u 58, u 59, u 60, u 61, u 62, u 63, u 64, u 65, u 66, u 67, u 68, u 69, u 70, u 71, u 72, u 73, u 74, u 75, u 76, u 77]), rfl, m16, (Ch.refl (fun k => w0.heap.size ≤ k) w2), o%, (by rw [← hE31]; exact o19)⟩
  ·rintro _ w3 ⟨m, u30, rfl, m32, k33, i34, o35⟩
   have hsl := schedN_len x_block m
   obtain ⟨z7, hz7⟩ : ∃ z, (schedN x_block m ++ List.replicate (48 - m) (0 : Int)).getD (((16 + ((m : Nat) : Int)) - 7)).toNat 0 = z := ⟨_, rfl⟩
   have hg7 : 0 ≤ z7 ∧ z7 < 4294967296 := hz7 ▸ wget (schedL_w x_block m) (((16 + ((m : Nat) : Int)) - 7)).toNat
   obtain ⟨z16, hz16⟩ : ∃ z, (schedN x_block m ++ List.replicate (48 - m) (0 : Int)).getD (((16 + ((m : Nat) : Int)) - 16)).toNat 0 = z := ⟨_, rfl⟩
   have hg16 : 0 ≤ z16 ∧ z16 < 4294967296 := hz16 ▸ wget (schedL_w x_block m) (((16 + ((m : Nat) : Int)) - 16)).toNat
   obtain ⟨z15, hz15⟩ : ∃ z, (schedN x_block m ++ List.replicate (48 - m) (0 : Int)).getD (((16 + ((m : Nat) : Int)) - 15)).toNat 0 = z := ⟨_, rfl⟩
   have hg15 : 0 ≤ z15 ∧ z15 < 4294967296 := hz15 ▸ wget (schedL_w x_block m) (((16 + ((m : Nat) : Int)) - 15)).toNat
   obtain ⟨z2, hz2⟩ : ∃ z, (schedN x_block m ++ List.replicate (48 - m) (0 : Int)).getD (((16 + ((m : Nat) : Int)) - 2)).toNat 0 = z := ⟨_, rfl⟩
   have hg2 : 0 ≤ z2 ∧ z2 < 4294967296 := hz2 ▸ wget (schedL_w x_block m) (((16 + ((m : Nat) : Int)) - 2)).toNat
   refine wc_seq <| sr ?_
   mv% (vi (16 + ((m : Nat) : Int)))
   pu% (vb (decide ((16 + ((m : Nat) : Int)) < 64)))
   n2%
   rcases bf (decide ((16 + ((m : Nat) : Int)) < 64)) with h36 | h36
   ·df% q166 h36
    cf% h36
    refine wc_exit <| wq_then_exit <| wq_then_exit <| wq_blk_exit <| wq_then <| sr ?_
    mv% (vs a8 (List.replicate 64 (0 : Int)).length c9)
    ag% (vs a8 (List.replicate 64 (0 : Int)).length c9)
    n3%
    r1% (vs a8 (List.replicate 64 (0 : Int)).length c9)
    kp% m32
    have hF167 : schedP x_block = (schedN x_block m ++ List.replicate (48 - m) (0 : Int)) := by first | exact schedP_f o% | exact schedP_t o% o% o%
    rw [hF167]
    have hN168 : (List.replicate 64 (0 : Int)).length = ((schedN x_block m ++ List.replicate (48 - m) (0 : Int))).length := by first | (simp only [List.length_append, List.length_take, List.length_replicate, List.length_set, List.length_map]; done) | (simp only [List.length_append, List.length_take, List.length_replicate, List.length_set, List.length_map]; omega)
    rw [hN168] at o35 ⊢
    exact ⟨_, _, rfl, o35, (by rw [← hN168]; rw [List.length_replicate]; first | assumption | omega), ⟨trivial, trivial⟩⟩
   dt% q37 h36
   ct% h36
   refine wc_skip <| wq_then <| wc_seq <| wc_block <| wc_seq ?_
   refine wc_draw ([(33, [], [], (fun _ v _ => v = (vs a8 (List.replicate 64 (0 : Int)).length c9))), (34, [], [], (fun _ v _ => v = (vi (16 + ((m : Nat) : Int))))), (35, [], [1], (fun _ v _ => v = (vi ((16 + ((m : Nat) : Int)) - 15)))), (36, [], [0, 1, 2], (fun _ v _ => v = (ve (vs a8 (List.replicate 64 (0 : Int)).length c9) ((((16 + ((m : Nat) : Int)) - 15)).toNat * 1)))), (37, [], [0, 1, 2, 3], (fun _ v _ => v = (vi z15))), (38, [], [], (fun _ v _ => v = (vs a8 (List.replicate 64 (0 : Int)).length c9))), (39, [], [], (fun _ v _ => v = (vi (16 + ((m : Nat) : Int))))), (40, [], [6], (fun _ v _ => v = (vi ((16 + ((m : Nat) : Int)) - 2)))), (41, [], [5, 6, 7], (fun _ v _ => v = (ve (vs a8 (List.replicate 64 (0 : Int)).length c9) ((((16 + ((m : Nat) : Int)) - 2)).toNat * 1)))), (42, [], [5, 6, 7, 8], (fun _ v _ => v = (vi z2))), (6, [], [0, 1, 2, 3, 4], (fun _ v _ => v = (vi z15)))] : GV) mixed rfl k% k% ?_ ?_ ?_
   ·exact ⟨s%, t%, ⟨s%, t%, ⟨s%, t%, ⟨s%, t%, ⟨s%, t%, ⟨s%, t%, ⟨s%, t%, ⟨s%, t%, ⟨s%, t%, ⟨s%, t%, ⟨s%, t%, trivial⟩⟩⟩⟩⟩⟩⟩⟩⟩⟩⟩
   ·refine ⟨?_, ⟨?_, ⟨?_, ⟨?_, ⟨?_, ⟨?_, ⟨?_, ⟨?_, ⟨?_, ⟨?_, ⟨?_, trivial⟩⟩⟩⟩⟩⟩⟩⟩⟩⟩⟩
    ·intro w4 k38
     m% m39 m32 k38
     rintro _ _ _ _ _ _ _ _ _ _ _
     w%
     mv% (vs a8 (List.replicate 64 (0 : Int)).length c9)
     f2%
    ·intro w4 k40
     m% m41 m32 k40
     rintro _ _ _ _ _ _ _ _ _ _ _
     w%
     mv% (vi (16 + ((m : Nat) : Int)))
     f2%
    ·intro w4 k42
     m% m43 m32 k42
     rintro _ _ rfl _ _ _ _ _ _ _ _ _
     w%
     refine ar ((16 + ((m : Nat) : Int)) - 15) wN ?_
     f2%
    ·intro w4 k44
     m% m45 m32 k44
     rintro _ rfl _ rfl _ rfl _ _ _ _ _ _ _ _
     w%
     have o46 := (own_kp o35 k44)
     refine wl_index (v := (vs a8 (List.replicate 64 (0 : Int)).length c9)) wN ((16 + ((m : Nat) : Int)) - 15) rfl rfl rfl slTy_32 rfl rfl (Rd.of_own o46) oB% oB% ?_
     f2%
    ·intro w4 k47
     m% m48 m32 k47
     rintro _ rfl _ rfl _ rfl _ rfl _ _ _ _ _ _ _
     w%
     have o50 := (own_kp o35 k47)
     refine wl_loadE (iV z15) wN rfl rfl rfl rfl isAgg_3 (Rd.of_own o50) (by rw [← hz15]; exact iget (by simp) oB%) ?_
     f2%
    ·intro w4 k51
     m% m52 m32 k51
     rintro _ _ _ _ _ _ _ _ _ _ _
     w%
     mv% (vs a8 (List.replicate 64 (0 : Int)).length c9)
     f2%
    ·intro w4 k53
     m% m54 m32 k53
     rintro _ _ _ _ _ _ _ _ _ _ _
     w%
     mv% (vi (16 + ((m : Nat) : Int)))
     f2%
    ·intro w4 k55
     m% m56 m32 k55
     rintro _ _ _ _ _ _ _ rfl _ _ _ _
     w%
     refine ar ((16 + ((m : Nat) : Int)) - 2) wN ?_
     f2%
    ·intro w4 k57
     m% m58 m32 k57
     rintro _ _ _ _ _ _ rfl _ rfl _ rfl _ _ _
     w%
     have o59 := (own_kp o35 k57)
     refine wl_index (v := (vs a8 (List.replicate 64 (0 : Int)).length c9)) wN ((16 + ((m : Nat) : Int)) - 2) rfl rfl rfl slTy_32 rfl rfl (Rd.of_own o59) oB% oB% ?_
     f2%
    ·intro w4 k60
     m% m61 m32 k60
     rintro _ _ _ _ _ _ rfl _ rfl _ rfl _ rfl _ _
     w%
     have o63 := (own_kp o35 k60)
     refine wl_loadE (iV z2) wN rfl rfl rfl rfl isAgg_3 (Rd.of_own o63) (by rw [← hz2]; exact iget (by simp) oB%) ?_
     f2%
    ·intro w4 k64
     m% m65 m32 k64
     rintro _ rfl _ rfl _ rfl _ rfl _ rfl _ _ _ _ _ _
     w%
     ag% (vi z15)
     f2%
   ·intro w4 k68
    m% m69 m32 k68
    rintro _ rfl _ rfl _ rfl _ rfl _ rfl _ rfl _ rfl _ rfl _ rfl _ rfl _ rfl
    w%
    ag% (vi z2)
    nx%
    mv% (vi z15)
    cl% (C_impl_Rot w4 z15 7 o% o%)
    rintro _ w5 ⟨k74, rfl⟩
    m% m75 m69 k74
    have q76 := rot_b z15 7
    mv% (vi z15)
    cl% (C_impl_Rot w5 z15 18 o% o%)
    rintro _ w6 ⟨k77, rfl⟩
    m% m78 m75 k77
    have q79 := rot_b z15 18
    refine wl_xor (rot z15 7) (rot z15 18) wN rfl rfl k% o% o% o% o% ?_
    have q80 := xorI_b (a := (rot z15 7)) (b := (rot z15 18)) o% o%
    mv% (vi z15)
    refine wl_shrU z15 (3 : Int) wN rfl rfl rfl rfl rfl o% o% ?_
    have q81 := shr_b (a := z15) o% ((3 : Int)).toNat
    refine wl_xor (xorI (rot z15 7) (rot z15 18)) (z15 / (2 : Int) ^ ((3 : Int)).toNat) wN rfl rfl k% o% o% o% o% ?_
    have q82 := xorI_b (a := (xorI (rot z15 7) (rot z15 18))) (b := (z15 / (2 : Int) ^ ((3 : Int)).toNat)) o% o%
    ag% (vi (xorI (xorI (rot z15 7) (rot z15 18)) (z15 / (2 : Int) ^ ((3 : Int)).toNat)))
    nx%
    mv% (vi z2)
    cl% (C_impl_Rot w6 z2 17 o% o%)
    rintro _ w7 ⟨k83, rfl⟩
    m% m84 m78 k83
    have q85 := rot_b z2 17
    mv% (vi z2)
    cl% (C_impl_Rot w7 z2 19 o% o%)
    rintro _ w8 ⟨k86, rfl⟩
    m% m87 m84 k86
    have q88 := rot_b z2 19
    refine wl_xor (rot z2 17) (rot z2 19) wN rfl rfl k% o% o% o% o% ?_
    have q89 := xorI_b (a := (rot z2 17)) (b := (rot z2 19)) o% o%
    mv% (vi z2)
    refine wl_shrU z2 (10 : Int) wN rfl rfl rfl rfl rfl o% o% ?_
    have q90 := shr_b (a := z2) o% ((10 : Int)).toNat
    refine wl_xor (xorI (rot z2 17) (rot z2 19)) (z2 / (2 : Int) ^ ((10 : Int)).toNat) wN rfl rfl k% o% o% o% o% ?_
    have q91 := xorI_b (a := (xorI (rot z2 17) (rot z2 19))) (b := (z2 / (2 : Int) ^ ((10 : Int)).toNat)) o% o%
    ag% (vi (xorI (xorI (rot z2 17) (rot z2 19)) (z2 / (2 : Int) ^ ((10 : Int)).toNat)))
    n2%
    refine wc_draw ([(59, [], [], (fun _ v _ => v = (vs a8 (List.replicate 64 (0 : Int)).length c9))), (60, [], [], (fun _ v _ => v = (vi (16 + ((m : Nat) : Int))))), (61, [], [], (fun _ v _ => v = (vs a8 (List.replicate 64 (0 : Int)).length c9))), (62, [], [], (fun _ v _ => v = (vi (16 + ((m : Nat) : Int))))), (63, [], [3], (fun _ v _ => v = (vi ((16 + ((m : Nat) : Int)) - 7)))), (64, [], [2, 3, 4], (fun _ v _ => v = (ve (vs a8 (List.replicate 64 (0 : Int)).length c9) ((((16 + ((m : Nat) : Int)) - 7)).toNat * 1)))), (65, [], [2, 3, 4, 5], (fun _ v _ => v = (vi z7))), (66, [], [], (fun _ v _ => v = (vs a8 (List.replicate 64 (0 : Int)).length c9))), (67, [], [], (fun _ v _ => v = (vi (16 + ((m : Nat) : Int))))), (68, [], [8], (fun _ v _ => v = (vi ((16 + ((m : Nat) : Int)) - 16)))), (69, [], [7, 8, 9], (fun _ v _ => v = (ve (vs a8 (List.replicate 64 (0 : Int)).length c9) ((((16 + ((m : Nat) : Int)) - 16)).toNat * 1)))), (70, [], [7, 8, 9, 10], (fun _ v _ => v = (vi z16))), (71, [], [2, 3, 4, 5, 6, 7, 8, 9, 10, 11], (fun _ v _ => v = (vi (z7 + z16)))), (72, [], [], (fun _ v _ => v = (vi (xorI (xorI (rot z15 7) (rot z15 18)) (z15 / (2 : Int) ^ ((3 : Int)).toNat))))), (73, [], [2, 3, 4, 5, 6, 7, 8, 9, 10, 11, 12, 13], (fun _ v _ => v = (vi ((z7 + z16) + (xorI (xorI (rot z15 7) (rot z15 18)) (z15 / (2 : Int) ^ ((3 : Int)).toNat)))))), (74, [], [], (fun _ v _ => v = (vi (xorI (xorI (rot z2 17) (rot z2 19)) (z2 / (2 : Int) ^ ((10 : Int)).toNat))))), (75, [], [2, 3, 4, 5, 6, 7, 8, 9, 10, 11, 12, 13, 14, 15], (fun _ v _ => v = (vi (((z7 + z16) + (xorI (xorI (rot z15 7) (rot z15 18)) (z15 / (2 : Int) ^ ((3 : Int)).toNat))) + (xorI (xorI (rot z2 17) (rot z2 19)) (z2 / (2 : Int) ^ ((10 : Int)).toNat)))))), (76, [], [2, 3, 4, 5, 6, 7, 8, 9, 10, 11, 12, 13, 14, 15, 16], (fun _ v _ => v = (vi ((((z7 + z16) + (xorI (xorI (rot z15 7) (rot z15 18)) (z15 / (2 : Int) ^ ((3 : Int)).toNat))) + (xorI (xorI (rot z2 17) (rot z2 19)) (z2 / (2 : Int) ^ ((10 : Int)).toNat))) % 4294967296))))] : GV) mixed rfl k% k% ?_ ?_ ?_
    ·exact ⟨s%, t%, ⟨s%, t%, ⟨s%, t%, ⟨s%, t%, ⟨s%, t%, ⟨s%, t%, ⟨s%, t%, ⟨s%, t%, ⟨s%, t%, ⟨s%, t%, ⟨s%, t%, ⟨s%, t%, ⟨s%, t%, ⟨s%, t%, ⟨s%, t%, ⟨s%, t%, ⟨s%, t%, ⟨s%, t%, trivial⟩⟩⟩⟩⟩⟩⟩⟩⟩⟩⟩⟩⟩⟩⟩⟩⟩⟩
    ·refine ⟨?_, ⟨?_, ⟨?_, ⟨?_, ⟨?_, ⟨?_, ⟨?_, ⟨?_, ⟨?_, ⟨?_, ⟨?_, ⟨?_, ⟨?_, ⟨?_, ⟨?_, ⟨?_, ⟨?_, ⟨?_, trivial⟩⟩⟩⟩⟩⟩⟩⟩⟩⟩⟩⟩⟩⟩⟩⟩⟩⟩
     ·intro w9 k97
      m% m98 m87 k97
      rintro _ _ _ _ _ _ _ _ _ _ _ _ _ _ _ _ _ _
      w%
      mv% (vs a8 (List.replicate 64 (0 : Int)).length c9)
      f2%
     ·intro w9 k99
      m% m100 m87 k99
      rintro _ _ _ _ _ _ _ _ _ _ _ _ _ _ _ _ _ _
      w%
      mv% (vi (16 + ((m : Nat) : Int)))
      f2%
     ·intro w9 k101
      m% m102 m87 k101
      rintro _ _ _ _ _ _ _ _ _ _ _ _ _ _ _ _ _ _
      w%
      mv% (vs a8 (List.replicate 64 (0 : Int)).length c9)
      f2%
     ·intro w9 k103
      m% m104 m87 k103
      rintro _ _ _ _ _ _ _ _ _ _ _ _ _ _ _ _ _ _
      w%
      mv% (vi (16 + ((m : Nat) : Int)))
      f2%
     ·intro w9 k105
      m% m106 m87 k105
      rintro _ _ _ _ rfl _ _ _ _ _ _ _ _ _ _ _ _ _ _
      w%
      refine ar ((16 + ((m : Nat) : Int)) - 7) wN ?_
      f2%
     ·intro w9 k107
      m% m108 m87 k107
      rintro _ _ _ rfl _ rfl _ rfl _ _ _ _ _ _ _ _ _ _ _ _ _
      w%
      have o109 := (own_kp (own_kp (own_kp (own_kp (own_kp (own_kp o35 k68) k74) k77) k83) k86) k107)
      refine wl_index (v := (vs a8 (List.replicate 64 (0 : Int)).length c9)) wN ((16 + ((m : Nat) : Int)) - 7) rfl rfl rfl slTy_32 rfl rfl (Rd.of_own o109) oB% oB% ?_
      f2%
     ·intro w9 k110
      m% m111 m87 k110
      rintro _ _ _ rfl _ rfl _ rfl _ rfl _ _ _ _ _ _ _ _ _ _ _ _
      w%
      have o113 := (own_kp (own_kp (own_kp (own_kp (own_kp (own_kp o35 k68) k74) k77) k83) k86) k110)
      refine wl_loadE (iV z7) wN rfl rfl rfl rfl isAgg_3 (Rd.of_own o113) (by rw [← hz7]; exact iget (by simp) oB%) ?_
      f2%
     ·intro w9 k114
      m% m115 m87 k114
      rintro _ _ _ _ _ _ _ _ _ _ _ _ _ _ _ _ _ _
      w%
      mv% (vs a8 (List.replicate 64 (0 : Int)).length c9)
      f2%
     ·intro w9 k116
      m% m117 m87 k116
      rintro _ _ _ _ _ _ _ _ _ _ _ _ _ _ _ _ _ _
      w%
      mv% (vi (16 + ((m : Nat) : Int)))
      f2%
     ·intro w9 k118
      m% m119 m87 k118
      rintro _ _ _ _ _ _ _ _ _ rfl _ _ _ _ _ _ _ _ _
      w%
      refine ar ((16 + ((m : Nat) : Int)) - 16) wN ?_
      f2%
     ·intro w9 k120
      m% m121 m87 k120
      rintro _ _ _ _ _ _ _ _ rfl _ rfl _ rfl _ _ _ _ _ _ _ _
      w%
      have o122 := (own_kp (own_kp (own_kp (own_kp (own_kp (own_kp o35 k68) k74) k77) k83) k86) k120)
      refine wl_index (v := (vs a8 (List.replicate 64 (0 : Int)).length c9)) wN ((16 + ((m : Nat) : Int)) - 16) rfl rfl rfl slTy_32 rfl rfl (Rd.of_own o122) oB% oB% ?_
      f2%
     ·intro w9 k123
      m% m124 m87 k123
      rintro _ _ _ _ _ _ _ _ rfl _ rfl _ rfl _ rfl _ _ _ _ _ _ _
      w%
      have o126 := (own_kp (own_kp (own_kp (own_kp (own_kp (own_kp o35 k68) k74) k77) k83) k86) k123)
      refine wl_loadE (iV z16) wN rfl rfl rfl rfl isAgg_3 (Rd.of_own o126) (by rw [← hz16]; exact iget (by simp) oB%) ?_
      f2%
     ·intro w9 k127
      m% m128 m87 k127
      rintro _ _ _ rfl _ rfl _ rfl _ rfl _ rfl _ rfl _ rfl _ rfl _ rfl _ rfl _ _ _ _ _ _
      w%
      refine ar (z7 + z16) wN ?_
      f2%
     ·intro w9 k133
      m% m134 m87 k133
      rintro _ _ _ _ _ _ _ _ _ _ _ _ _ _ _ _ _ _
      w%
      mv% (vi (xorI (xorI (rot z15 7) (rot z15 18)) (z15 / (2 : Int) ^ ((3 : Int)).toNat)))
      f2%
     ·intro w9 k135
      m% m136 m87 k135
      rintro _ _ _ rfl _ rfl _ rfl _ rfl _ rfl _ rfl _ rfl _ rfl _ rfl _ rfl _ rfl _ rfl _ _ _ _
      w%
      refine ar ((z7 + z16) + (xorI (xorI (rot z15 7) (rot z15 18)) (z15 / (2 : Int) ^ ((3 : Int)).toNat))) wN ?_
      f2%
     ·intro w9 k141
      m% m142 m87 k141
      rintro _ _ _ _ _ _ _ _ _ _ _ _ _ _ _ _ _ _
      w%
      mv% (vi (xorI (xorI (rot z2 17) (rot z2 19)) (z2 / (2 : Int) ^ ((10 : Int)).toNat)))
      f2%
     ·intro w9 k143
      m% m144 m87 k143
      rintro _ _ _ rfl _ rfl _ rfl _ rfl _ rfl _ rfl _ rfl _ rfl _ rfl _ rfl _ rfl _ rfl _ rfl _ rfl _ _
      w%
      refine ar (((z7 + z16) + (xorI (xorI (rot z15 7) (rot z15 18)) (z15 / (2 : Int) ^ ((3 : Int)).toNat))) + (xorI (xorI (rot z2 17) (rot z2 19)) (z2 / (2 : Int) ^ ((10 : Int)).toNat))) wN ?_
      f2%
     ·intro w9 k149
      m% m150 m87 k149
      rintro _ _ _ rfl _ rfl _ rfl _ rfl _ rfl _ rfl _ rfl _ rfl _ rfl _ rfl _ rfl _ rfl _ rfl _ rfl _ rfl _
      w%
      refine wl_and (((z7 + z16) + (xorI (xorI (rot z15 7) (rot z15 18)) (z15 / (2 : Int) ^ ((3 : Int)).toNat))) + (xorI (xorI (rot z2 17) (rot z2 19)) (z2 / (2 : Int) ^ ((10 : Int)).toNat))) 4294967295 4294967296 32 wN rfl rfl (by decide) (by decide) (by decide) k% ?_
      f2%
    ·intro w9 k155
     m% m156 m87 k155
     rintro _ rfl _ rfl _ rfl _ rfl _ rfl _ rfl _ rfl _ rfl _ rfl _ rfl _ rfl _ rfl _ rfl _ rfl _ rfl _ rfl _ rfl _ rfl
     w%
     have o161 := (own_kp (own_kp (own_kp (own_kp (own_kp (own_kp o35 k68) k74) k77) k83) k86) k155)
     refine wl_index (v := (vs a8 (List.replicate 64 (0 : Int)).length c9)) wN (16 + ((m : Nat) : Int)) rfl rfl rfl slTy_32 rfl rfl (Rd.of_own o161) oB% oB% ?_
     refine wl_storeI (schedN x_block m ++ List.replicate (48 - m) (0 : Int)) (((16 + ((m : Nat) : Int))).toNat) (((((z7 + z16) + (xorI (xorI (rot z15 7) (rot z15 18)) (z15 / (2 : Int) ^ ((3 : Int)).toNat))) + (xorI (xorI (rot z2 17) (rot z2 19)) (z2 / (2 : Int) ^ ((10 : Int)).toNat))) % 4294967296)) wN rfl rfl rfl (by simp) rfl sizeOf_3 o161 (by first | omega | (simp only [List.length_append, List.length_replicate, List.length_take, List.length_set, List.length_map]; omega)) ?_
     intro w10 k162 o163
     have m164 := m156.ext k162 (fun k hk => Nat.le_trans (Nat.le_refl w0.heap.size) (own_lt o11 k hk).1)
     refine wl_nil <| wq_blk_normal <| wq_then <| wc_region ?_
     mv% (vi (16 + ((m : Nat) : Int)))
     refine ar ((16 + ((m : Nat) : Int)) + 1) wN ?_
     ag% (vi ((16 + ((m : Nat) : Int)) + 1))
     refine wl_nil ?_
     have hE165 : (((schedN x_block m ++ List.replicate (48 - m) (0 : Int)).set (((16 + ((m : Nat) : Int))).toNat) ((((z7 + z16) + (xorI (xorI (rot z15 7) (rot z15 18)) (z15 / (2 : Int) ^ ((3 : Int)).toNat))) + (xorI (xorI (rot z2 17) (rot z2 19)) (z2 / (2 : Int) ^ ((10 : Int)).toNat))) % 4294967296)) : List Int) = schedN x_block (m + 1) ++ List.replicate (48 - (m + 1)) (0 : Int) := by subst hz7 hz16 hz15 hz2; exact schedN_next o%
     refine wq_loopQ (w0 := w3) (fun e => [e 0, e 1, (vs none 0 0), (vs a8 (List.replicate 64 (0 : Int)).length c9), e 4, (vi (16 + (((m + 1) : Nat) : Int))), e 6, e 7, e 8, e 9, e 10, e 11, e 12, e 13, e 14, e 15, e 16, e 17, e 18, e 19, e 20, e 21, e 22, e 23, e 24, e 25, e 26, e 27, e 28, e 29, e 30, e 31, e 32, e 33, e 34, e 35, e 36, e 37, e 38, e 39, e 40, e 41, e 42, e 43, e 44, e 45, e 46, e 47, e 48, e 49, e 50, e 51, e 52, e 53, e 54, e 55, e 56, e 57, e 58, e 59, e 60, e 61, e 62, e 63, e 64, e 65, e 66, e 67, e 68, e 69, e 70, e 71, e 72, e 73, e 74, e 75, e 76, e 77, U]) rfl ?_ ?_ ?_
     · exact ⟨rfl, rfl, rfl, rfl, rfl, (congrArg (Value.int .i64) (show (((16 + ((m : Nat) : Int)) + 1) : Int) = (16 + (((m + 1) : Nat) : Int)) by omega)), rfl, rfl, rfl, rfl, rfl, rfl, rfl, rfl, rfl, rfl, rfl, rfl, rfl, rfl, rfl, rfl, rfl, rfl, rfl, rfl, rfl, rfl, rfl, rfl, rfl, rfl, rfl, rfl, rfl, rfl, rfl, rfl, rfl, rfl, rfl, rfl, rfl, rfl, rfl, rfl, rfl, rfl, rfl, rfl, rfl, rfl, rfl, rfl, rfl, rfl, rfl, rfl, rfl, rfl, rfl, rfl, rfl, rfl, rfl, rfl, rfl, rfl, rfl, rfl, rfl, rfl, rfl, rfl, rfl, rfl, rfl, rfl, rfl, trivial⟩
     · exact fun u => ⟨(m + 1), (unL [u 0, u 1, u 4, u 6, u 7, u 8, u 9, u 10, u 11, u 12, u 13, u 14, u 15, u 16, u 17, u 18, u 19, u 20, u 21, u 22, u 23, u 24, u 25, u 26, u 27, u 28, u 29, u 30, u 31, u 32, u 33, u 34, u 35, u 36, u 37, u 38, u 39, u 40, u 41, u 42, u 43, u 44, u 45, u 46, u 47, u 48, u 49, u 50, u 51, u 52, u 53, u 54, u 55, u 56, u 57, u 58, u 59, u 60, u 61, u 62, u 63, u 64, u 65, u 66, u 67, u 68, u 69, u 70, u 71, u 72, u 73, u 74, u 75, u 76, u 77]), rfl, m164, (((((((((Ch.refl (fun k => w0.heap.size ≤ k) w2).ext k33 (fun k hk => Nat.le_trans (Nat.le_refl w0.heap.size) hk)).extk k68).extk k74).extk k77).extk k83).extk k86).extk k155).ext k162 (fun k hk => Nat.le_trans (Nat.le_refl w0.heap.size) (own_lt o11 k hk).1)), o%, (by rw [← hE165]; exact o163)⟩
     · show (64 - (16 + (((m + 1) : Nat) : Int))).toNat < (64 - (16 + ((m : Nat) : Int))).toNat; omega

theorem zero_146 : ∀ w, (zeroValue 146).run Try.prog w = .ok (va [(vi 0), (vi 0), (vi 0), (vi 0), (vi 0), (vi 0), (vi 0), (vi 0), (vi 0), (vi 0), (vi 0), (vi 0), (vi 0), (vi 0), (vi 0), (vi 0), (vi 0), (vi 0), (vi 0), (vi 0), (vi 0), (vi 0), (vi 0), (vi 0), (vi 0), (vi 0), (vi 0), (vi 0), (vi 0), (vi 0), (vi 0), (vi 0), (vi 0), (vi 0), (vi 0), (vi 0), (vi 0), (vi 0), (vi 0), (vi 0), (vi 0), (vi 0), (vi 0), (vi 0), (vi 0), (vi 0), (vi 0), (vi 0), (vi 0), (vi 0), (vi 0), (vi 0), (vi 0), (vi 0), (vi 0), (vi 0), (vi 0), (vi 0), (vi 0), (vi 0), (vi 0), (vi 0), (vi 0), (vi 0)]) w := fun w => by kernel_rfl
theorem sizeOf_146 : ∀ w, (sizeOf 146).run Try.prog w = .ok 64 w := fun w => by kernel_rfl
theorem C_impl_RoundWord (w0 : World) (x_i : Int)  : Fn Try.prog 175 #[(vi x_i)] w0 (fun v w' => Keep w0 w' ∧ O_3 w' w0.heap.size v (rw64 x_i)) := by
 refine fn_of (n := 14) (l := [(vi x_i), U, U, U, U, U, U, U, U, U, U, U, U, U]) Try.func175 rfl rfl k% rfl ?_
 sr%
 ag% (vi 0)
 n4%
 mv% (vi x_i)
 pu% (vb (decide (x_i < 0)))
 mv% (vb (decide (x_i < 0)))
 rcases bt (decide (x_i < 0)) with h1 | h1
 ·dt% q2 h1
  sk% h1
  sk% h1
  refine pk (vb true) wN h1 ?_
  n2%
  ct% (Eq.refl true)
  sr%
  ag% (vi 0)
  n1%
  r1% (vi 0)
  refine ⟨Ch.refl _ _, ?_⟩
  have hF3 : rw64 x_i = 0 := by simp only [rw64, h1, cond_true, cond_false]; try rfl
  rw [hF3]
  exact rfl
 df% q4 h1
 refine mv (vi x_i) (wS h1) ?_
 refine pu (vb (decide (63 < x_i))) (wS h1) ?_
 refine pf (vb (decide (63 < x_i))) wN h1 ?_
 n2%
 rcases bt (decide (63 < x_i)) with h5 | h5
 ·dt% q6 h5
  ct% h5
  sr%
  ag% (vi 0)
  n1%
  r1% (vi 0)
  refine ⟨Ch.refl _ _, ?_⟩
  have hF7 : rw64 x_i = 0 := by simp only [rw64, h1, h5, cond_true, cond_false]; try rfl
  rw [hF7]
  exact rfl
 df% q8 h5
 cf% h5
 z1%
 pu% (va [(vi 1116352408), (vi 1899447441), (vi 3049323471), (vi 3921009573), (vi 961987163), (vi 1508970993), (vi 2453635748), (vi 2870763221), (vi 3624381080), (vi 310598401), (vi 607225278), (vi 1426881987), (vi 1925078388), (vi 2162078206), (vi 2614888103), (vi 3248222580), (vi 3835390401), (vi 4022224774), (vi 264347078), (vi 604807628), (vi 770255983), (vi 1249150122), (vi 1555081692), (vi 1996064986), (vi 2554220882), (vi 2821834349), (vi 2952996808), (vi 3210313671), (vi 3336571891), (vi 3584528711), (vi 113926993), (vi 338241895), (vi 666307205), (vi 773529912), (vi 1294757372), (vi 1396182291), (vi 1695183700), (vi 1986661051), (vi 2177026350), (vi 2456956037), (vi 2730485921), (vi 2820302411), (vi 3259730800), (vi 3345764771), (vi 3516065817), (vi 3600352804), (vi 4094571909), (vi 275423344), (vi 430227734), (vi 506948616), (vi 659060556), (vi 883997877), (vi 958139571), (vi 1322822218), (vi 1537002063), (vi 1747873779), (vi 1955562222), (vi 2024104815), (vi 2227730452), (vi 2361852424), (vi 2428436474), (vi 2756734187), (vi 3204031479), (vi 3329325298)])
 refine al [(vi 0), (vi 0), (vi 0), (vi 0), (vi 0), (vi 0), (vi 0), (vi 0), (vi 0), (vi 0), (vi 0), (vi 0), (vi 0), (vi 0), (vi 0), (vi 0), (vi 0), (vi 0), (vi 0), (vi 0), (vi 0), (vi 0), (vi 0), (vi 0), (vi 0), (vi 0), (vi 0), (vi 0), (vi 0), (vi 0), (vi 0), (vi 0), (vi 0), (vi 0), (vi 0), (vi 0), (vi 0), (vi 0), (vi 0), (vi 0), (vi 0), (vi 0), (vi 0), (vi 0), (vi 0), (vi 0), (vi 0), (vi 0), (vi 0), (vi 0), (vi 0), (vi 0), (vi 0), (vi 0), (vi 0), (vi 0), (vi 0), (vi 0), (vi 0), (vi 0), (vi 0), (vi 0), (vi 0), (vi 0)] wN zero_146 ?_
 intro g9 w1 p10 p11 k12 b13
 have m14 := (Ch.base w0).extk k12
 refine st (va [(vi 1116352408), (vi 1899447441), (vi 3049323471), (vi 3921009573), (vi 961987163), (vi 1508970993), (vi 2453635748), (vi 2870763221), (vi 3624381080), (vi 310598401), (vi 607225278), (vi 1426881987), (vi 1925078388), (vi 2162078206), (vi 2614888103), (vi 3248222580), (vi 3835390401), (vi 4022224774), (vi 264347078), (vi 604807628), (vi 770255983), (vi 1249150122), (vi 1555081692), (vi 1996064986), (vi 2554220882), (vi 2821834349), (vi 2952996808), (vi 3210313671), (vi 3336571891), (vi 3584528711), (vi 113926993), (vi 338241895), (vi 666307205), (vi 773529912), (vi 1294757372), (vi 1396182291), (vi 1695183700), (vi 1986661051), (vi 2177026350), (vi 2456956037), (vi 2730485921), (vi 2820302411), (vi 3259730800), (vi 3345764771), (vi 3516065817), (vi 3600352804), (vi 4094571909), (vi 275423344), (vi 430227734), (vi 506948616), (vi 659060556), (vi 883997877), (vi 958139571), (vi 1322822218), (vi 1537002063), (vi 1747873779), (vi 1955562222), (vi 2024104815), (vi 2227730452), (vi 2361852424), (vi 2428436474), (vi 2756734187), (vi 3204031479), (vi 3329325298)]) [(vi 1116352408), (vi 1899447441), (vi 3049323471), (vi 3921009573), (vi 961987163), (vi 1508970993), (vi 2453635748), (vi 2870763221), (vi 3624381080), (vi 310598401), (vi 607225278), (vi 1426881987), (vi 1925078388), (vi 2162078206), (vi 2614888103), (vi 3248222580), (vi 3835390401), (vi 4022224774), (vi 264347078), (vi 604807628), (vi 770255983), (vi 1249150122), (vi 1555081692), (vi 1996064986), (vi 2554220882), (vi 2821834349), (vi 2952996808), (vi 3210313671), (vi 3336571891), (vi 3584528711), (vi 113926993), (vi 338241895), (vi 666307205), (vi 773529912), (vi 1294757372), (vi 1396182291), (vi 1695183700), (vi 1986661051), (vi 2177026350), (vi 2456956037), (vi 2730485921), (vi 2820302411), (vi 3259730800), (vi 3345764771), (vi 3516065817), (vi 3600352804), (vi 4094571909), (vi 275423344), (vi 430227734), (vi 506948616), (vi 659060556), (vi 883997877), (vi 958139571), (vi 1322822218), (vi 1537002063), (vi 1747873779), (vi 1955562222), (vi 2024104815), (vi 2227730452), (vi 2361852424), (vi 2428436474), (vi 2756734187), (vi 3204031479), (vi 3329325298)] [(vi 1116352408), (vi 1899447441), (vi 3049323471), (vi 3921009573), (vi 961987163), (vi 1508970993), (vi 2453635748), (vi 2870763221), (vi 3624381080), (vi 310598401), (vi 607225278), (vi 1426881987), (vi 1925078388), (vi 2162078206), (vi 2614888103), (vi 3248222580), (vi 3835390401), (vi 4022224774), (vi 264347078), (vi 604807628), (vi 770255983), (vi 1249150122), (vi 1555081692), (vi 1996064986), (vi 2554220882), (vi 2821834349), (vi 2952996808), (vi 3210313671), (vi 3336571891), (vi 3584528711), (vi 113926993), (vi 338241895), (vi 666307205), (vi 773529912), (vi 1294757372), (vi 1396182291), (vi 1695183700), (vi 1986661051), (vi 2177026350), (vi 2456956037), (vi 2730485921), (vi 2820302411), (vi 3259730800), (vi 3345764771), (vi 3516065817), (vi 3600352804), (vi 4094571909), (vi 275423344), (vi 430227734), (vi 506948616), (vi 659060556), (vi 883997877), (vi 958139571), (vi 1322822218), (vi 1537002063), (vi 1747873779), (vi 1955562222), (vi 2024104815), (vi 2227730452), (vi 2361852424), (vi 2428436474), (vi 2756734187), (vi 3204031479), (vi 3329325298)] wN sizeOf_146 b13 ?_
 intro w2 k15 b16 z17
 have m18 := m14.ext k15 (fun k hk => by subst hk; exact Nat.le_trans (Nat.le_refl w0.heap.size) p10)
 nx%
 mv% (vi x_i)
 refine wl_indexA x_i wN rfl rfl rfl Try.underlying146 sizeOf_3 rfl rfl o% o% ?_
 refine ld (iV (([1116352408, 1899447441, 3049323471, 3921009573, 961987163, 1508970993, 2453635748, 2870763221, 3624381080, 310598401, 607225278, 1426881987, 1925078388, 2162078206, 2614888103, 3248222580, 3835390401, 4022224774, 264347078, 604807628, 770255983, 1249150122, 1555081692, 1996064986, 2554220882, 2821834349, 2952996808, 3210313671, 3336571891, 3584528711, 113926993, 338241895, 666307205, 773529912, 1294757372, 1396182291, 1695183700, 1986661051, 2177026350, 2456956037, 2730485921, 2820302411, 3259730800, 3345764771, 3516065817, 3600352804, 4094571909, 275423344, 430227734, 506948616, 659060556, 883997877, 958139571, 1322822218, 1537002063, 1747873779, 1955562222, 2024104815, 2227730452, 2361852424, 2428436474, 2756734187, 3204031479, 3329325298] : List Int).getD (x_i).toNat 0)) wN isAgg_3 (show Blk w2 g9 146 (([1116352408, 1899447441, 3049323471, 3921009573, 961987163, 1508970993, 2453635748, 2870763221, 3624381080, 310598401, 607225278, 1426881987, 1925078388, 2162078206, 2614888103, 3248222580, 3835390401, 4022224774, 264347078, 604807628, 770255983, 1249150122, 1555081692, 1996064986, 2554220882, 2821834349, 2952996808, 3210313671, 3336571891, 3584528711, 113926993, 338241895, 666307205, 773529912, 1294757372, 1396182291, 1695183700, 1986661051, 2177026350, 2456956037, 2730485921, 2820302411, 3259730800, 3345764771, 3516065817, 3600352804, 4094571909, 275423344, 430227734, 506948616, 659060556, 883997877, 958139571, 1322822218, 1537002063, 1747873779, 1955562222, 2024104815, 2227730452, 2361852424, 2428436474, 2756734187, 3204031479, 3329325298] : List Int).map iV) from b16) ?_ rfl rfl rfl rfl (iget rfl (by show (x_i).toNat < 64; omega))
 ag% (vi (([1116352408, 1899447441, 3049323471, 3921009573, 961987163, 1508970993, 2453635748, 2870763221, 3624381080, 310598401, 607225278, 1426881987, 1925078388, 2162078206, 2614888103, 3248222580, 3835390401, 4022224774, 264347078, 604807628, 770255983, 1249150122, 1555081692, 1996064986, 2554220882, 2821834349, 2952996808, 3210313671, 3336571891, 3584528711, 113926993, 338241895, 666307205, 773529912, 1294757372, 1396182291, 1695183700, 1986661051, 2177026350, 2456956037, 2730485921, 2820302411, 3259730800, 3345764771, 3516065817, 3600352804, 4094571909, 275423344, 430227734, 506948616, 659060556, 883997877, 958139571, 1322822218, 1537002063, 1747873779, 1955562222, 2024104815, 2227730452, 2361852424, 2428436474, 2756734187, 3204031479, 3329325298] : List Int).getD (x_i).toNat 0))
 n3%
 r1% (vi (([1116352408, 1899447441, 3049323471, 3921009573, 961987163, 1508970993, 2453635748, 2870763221, 3624381080, 310598401, 607225278, 1426881987, 1925078388, 2162078206, 2614888103, 3248222580, 3835390401, 4022224774, 264347078, 604807628, 770255983, 1249150122, 1555081692, 1996064986, 2554220882, 2821834349, 2952996808, 3210313671, 3336571891, 3584528711, 113926993, 338241895, 666307205, 773529912, 1294757372, 1396182291, 1695183700, 1986661051, 2177026350, 2456956037, 2730485921, 2820302411, 3259730800, 3345764771, 3516065817, 3600352804, 4094571909, 275423344, 430227734, 506948616, 659060556, 883997877, 958139571, 1322822218, 1537002063, 1747873779, 1955562222, 2024104815, 2227730452, 2361852424, 2428436474, 2756734187, 3204031479, 3329325298] : List Int).getD (x_i).toNat 0))
 kp% m18
 have hF19 : rw64 x_i = (([1116352408, 1899447441, 3049323471, 3921009573, 961987163, 1508970993, 2453635748, 2870763221, 3624381080, 310598401, 607225278, 1426881987, 1925078388, 2162078206, 2614888103, 3248222580, 3835390401, 4022224774, 264347078, 604807628, 770255983, 1249150122, 1555081692, 1996064986, 2554220882, 2821834349, 2952996808, 3210313671, 3336571891, 3584528711, 113926993, 338241895, 666307205, 773529912, 1294757372, 1396182291, 1695183700, 1986661051, 2177026350, 2456956037, 2730485921, 2820302411, 3259730800, 3345764771, 3516065817, 3600352804, 4094571909, 275423344, 430227734, 506948616, 659060556, 883997877, 958139571, 1322822218, 1537002063, 1747873779, 1955562222, 2024104815, 2227730452, 2361852424, 2428436474, 2756734187, 3204031479, 3329325298] : List Int).getD (x_i).toNat 0) := by simp only [rw64, h1, h5, cond_true, cond_false]; try rfl
 rw [hF19]
 exact rfl

def F_impl_Add32 (x_a : Int) (x_b : Int) : (Int) := ((x_a + x_b) % 4294967296)
theorem C_impl_Add32 (w0 : World) (x_a : Int) (x_b : Int) (pre0 : 0 ≤ x_a) (pre1 : x_a ≤ 1099511627776) (pre2 : 0 ≤ x_b) (pre3 : x_b ≤ 1099511627776) : Fn Try.prog 176 #[(vi x_a), (vi x_b)] w0 (fun v w' => Keep w0 w' ∧ O_3 w' w0.heap.size v (F_impl_Add32 x_a x_b)) := by
 refine fn_of (n := 9) (l := [(vi x_a), (vi x_b), U, U, U, U, U, U, U]) Try.func176 rfl rfl k% rfl ?_
 sr%
 ag% (vi 0)
 nx%
 mv% (vi x_a)
 mv% (vi x_b)
 refine ar (x_a + x_b) wN ?_
 refine wl_and (x_a + x_b) 4294967295 4294967296 32 wN rfl rfl (by decide) (by decide) (by decide) k% ?_
 ag% (vi ((x_a + x_b) % 4294967296))
 n3%
 r1% (vi ((x_a + x_b) % 4294967296))
 refine ⟨Ch.refl _ _, ?_⟩
 have hF1 : F_impl_Add32 x_a x_b = ((x_a + x_b) % 4294967296) := by rfl
 rw [hF1]
 exact rfl

theorem C_impl_Compress (w0 : World) (v_x_h : Value) (x_h : List Int) (r_x_h : R_32 w0 v_x_h x_h) (v_x_block : Value) (x_block : List UInt8) (r_x_block : R_22 w0 v_x_block x_block)  : Fn Try.prog 171 #[v_x_h, v_x_block] w0 (fun v w' => Keep w0 w' ∧ O_32 w' w0.heap.size v (compress x_h x_block)) := by
 obtain ⟨a1, c2, rfl, r3, s4⟩ := r_x_h
 obtain ⟨a6, c7, rfl, r8, s9⟩ := r_x_block
 refine fn_of (n := 151) (l := [(vs a1 x_h.length c2), (vs a6 x_block.length c7), U, U, U, U, U, U, U, U, U, U, U, U, U, U, U, U, U, U, U, U, U, U, U, U, U, U, U, U, U, U, U, U, U, U, U, U, U, U, U, U, U, U, U, U, U, U, U, U, U, U, U, U, U, U, U, U, U, U, U, U, U, U, U, U, U, U, U, U, U, U, U, U, U, U, U, U, U, U, U, U, U, U, U, U, U, U, U, U, U, U, U, U, U, U, U, U, U, U, U, U, U, U, U, U, U, U, U, U, U, U, U, U, U, U, U, U, U, U, U, U, U, U, U, U, U, U, U, U, U, U, U, U, U, U, U, U, U, U, U, U, U, U, U, U, U, U, U, U, U]) Try.func171 rfl rfl k% rfl ?_
 sr%
 ag% (vs none 0 0)
 nx%
 refine wl_lit0 wN rfl rfl slTy_32 (fun w => by kernel_rfl) ?_
 intro a11 w1 k12 o13
 have m14 := (Ch.base w0).extk k12
 mv% (vs a1 x_h.length c2)
 refine wl_append0 wN rfl rfl rfl slTy_32 rfl rfl o13 (r3.from0 m14) (all_iV _) (by first | (simp only [List.length_append, List.length_cons, List.length_nil, List.length_replicate, List.length_take, List.length_drop]; omega) | omega) (by simp only [maxLen]; first | (simp only [List.length_append, List.length_cons, List.length_nil, List.length_replicate, List.length_take, List.length_drop]; omega) | omega) k12.size ?_
 intro u16 w2 k17 o18 j19
 obtain ⟨a20, c21, rfl⟩ := own_form o18
 have n22 : New w1 a20 c21 := j19 _ _ rfl
 m% m23 m14 k17
 ag% (vs a20 x_h.length c21)
 n4%
 mv% (vs a1 x_h.length c2)
 cl% (C_impl_areWords w2 _ x_h (mR_32 (r3.from0 m23) s4) 8)
 rintro _ w3 ⟨k25, rfl⟩
 m% m26 m23 k25
 pu% (vb (!(areW x_h 8)))
 mv% (vb (!(areW x_h 8)))
 rcases bf (areW x_h 8) with h27 | h27
 ·sn% h27
  sn% h27
  sn% h27
  refine pk (vb true) wN (congrArg not h27) ?_
  n2%
  ct% (Eq.refl true)
  sr%
  mv% (vs a20 x_h.length c21)
  ag% (vs a20 x_h.length c21)
  n1%
  have o289 := (own_kp o18 k25)
  r1% (vs a20 x_h.length c21)
  kp% m26
  have hF290 : compress x_h x_block = x_h := by first | exact compress_f (by first | assumption | exact ‹ws8 x_h = false›) | exact compress_g o% | exact compress_t (by first | assumption | exact ‹ws8 x_h = true›) o% o%
  rw [hF290]
  exact ⟨_, _, rfl, o289, s4, ⟨trivial, trivial⟩⟩
 have q28 := areW_t h27
 refine mv (vs a6 x_block.length c7) (wS (congrArg not h27)) ?_
 refine ln (wS (congrArg not h27)) slTy_22 (r8.from0 m26) ?_
 refine pu (vb (!(decide ((x_block.length : Int) = 64)))) (wS (congrArg not h27)) ?_
 refine pf (vb (!(decide ((x_block.length : Int) = 64)))) wN (congrArg not h27) ?_
 n2%
 rcases bf (decide ((x_block.length : Int) = 64)) with h29 | h29
 ·df% q285 h29
  ct% (congrArg not h29)
  sr%
  mv% (vs a20 x_h.length c21)
  ag% (vs a20 x_h.length c21)
  n1%
  have o286 := (own_kp o18 k25)
  r1% (vs a20 x_h.length c21)
  kp% m26
  have hF287 : compress x_h x_block = x_h := by first | exact compress_f (by first | assumption | exact ‹ws8 x_h = false›) | exact compress_g o% | exact compress_t (by first | assumption | exact ‹ws8 x_h = true›) o% o%
  rw [hF287]
  exact ⟨_, _, rfl, o286, s4, ⟨trivial, trivial⟩⟩
 dt% q30 h29
 cf% (congrArg not h29)
 z1%
 mv% (vs a6 x_block.length c7)
 cl% (C_impl_Schedule w3 _ x_block (mR_22 (r8.from0 m26) s9))
 rintro _ w4 ⟨k31, ⟨a32, c33, rfl, o34, s35, ap37⟩⟩
 m% m38 m26 k31
 have q39 := schedP_len x_block
 ag% (vs a32 (schedP x_block).length c33)
 refine wl_nil <| wq_then <| wc_seq ?_
 refine wc_draw ([(36, [], [], (fun _ v _ => v = (vs a1 x_h.length c2))), (37, [], [0], (fun _ v _ => v = (ve (vs a1 x_h.length c2) ((0 : Int).toNat * 1)))), (38, [], [0, 1], (fun _ v _ => v = (vi (x_h.getD 0 0)))), (39, [], [], (fun _ v _ => v = (vs a1 x_h.length c2))), (40, [], [3], (fun _ v _ => v = (ve (vs a1 x_h.length c2) ((1 : Int).toNat * 1)))), (41, [], [3, 4], (fun _ v _ => v = (vi (x_h.getD 1 0)))), (42, [], [], (fun _ v _ => v = (vs a1 x_h.length c2))), (43, [], [6], (fun _ v _ => v = (ve (vs a1 x_h.length c2) ((2 : Int).toNat * 1)))), (44, [], [6, 7], (fun _ v _ => v = (vi (x_h.getD 2 0)))), (45, [], [], (fun _ v _ => v = (vs a1 x_h.length c2))), (46, [], [9], (fun _ v _ => v = (ve (vs a1 x_h.length c2) ((3 : Int).toNat * 1)))), (47, [], [9, 10], (fun _ v _ => v = (vi (x_h.getD 3 0)))), (48, [], [], (fun _ v _ => v = (vs a1 x_h.length c2))), (49, [], [12], (fun _ v _ => v = (ve (vs a1 x_h.length c2) ((4 : Int).toNat * 1)))), (50, [], [12, 13], (fun _ v _ => v = (vi (x_h.getD 4 0)))), (51, [], [], (fun _ v _ => v = (vs a1 x_h.length c2))), (52, [], [15], (fun _ v _ => v = (ve (vs a1 x_h.length c2) ((5 : Int).toNat * 1)))), (53, [], [15, 16], (fun _ v _ => v = (vi (x_h.getD 5 0)))), (54, [], [], (fun _ v _ => v = (vs a1 x_h.length c2))), (55, [], [18], (fun _ v _ => v = (ve (vs a1 x_h.length c2) ((6 : Int).toNat * 1)))), (56, [], [18, 19], (fun _ v _ => v = (vi (x_h.getD 6 0)))), (57, [], [], (fun _ v _ => v = (vs a1 x_h.length c2))), (58, [], [21], (fun _ v _ => v = (ve (vs a1 x_h.length c2) ((7 : Int).toNat * 1)))), (59, [], [21, 22], (fun _ v _ => v = (vi (x_h.getD 7 0)))), (7, [], [0, 1, 2], (fun _ v _ => v = (vi (x_h.getD 0 0)))), (8, [], [0, 1, 2, 3, 4, 5, 24], (fun _ v _ => v = (vi (x_h.getD 1 0)))), (9, [], [0, 1, 2, 3, 4, 5, 6, 7, 8, 24, 25], (fun _ v _ => v = (vi (x_h.getD 2 0)))), (10, [], [0, 1, 2, 3, 4, 5, 6, 7, 8, 9, 10, 11, 24, 25, 26], (fun _ v _ => v = (vi (x_h.getD 3 0)))), (11, [], [0, 1, 2, 3, 4, 5, 6, 7, 8, 9, 10, 11, 12, 13, 14, 24, 25, 26, 27], (fun _ v _ => v = (vi (x_h.getD 4 0)))), (12, [], [0, 1, 2, 3, 4, 5, 6, 7, 8, 9, 10, 11, 12, 13, 14, 15, 16, 17, 24, 25, 26, 27, 28], (fun _ v _ => v = (vi (x_h.getD 5 0)))), (13, [], [0, 1, 2, 3, 4, 5, 6, 7, 8, 9, 10, 11, 12, 13, 14, 15, 16, 17, 18, 19, 20, 24, 25, 26, 27, 28, 29], (fun _ v _ => v = (vi (x_h.getD 6 0))))] : GV) mixed rfl k% k% ?_ ?_ ?_
 ·exact ⟨s%, t%, ⟨s%, t%, ⟨s%, t%, ⟨s%, t%, ⟨s%, t%, ⟨s%, t%, ⟨s%, t%, ⟨s%, t%, ⟨s%, t%, ⟨s%, t%, ⟨s%, t%, ⟨s%, t%, ⟨s%, t%, ⟨s%, t%, ⟨s%, t%, ⟨s%, t%, ⟨s%, t%, ⟨s%, t%, ⟨s%, t%, ⟨s%, t%, ⟨s%, t%, ⟨s%, t%, ⟨s%, t%, ⟨s%, t%, ⟨s%, t%, ⟨s%, t%, ⟨s%, t%, ⟨s%, t%, ⟨s%, t%, ⟨s%, t%, ⟨s%, t%, trivial⟩⟩⟩⟩⟩⟩⟩⟩⟩⟩⟩⟩⟩⟩⟩⟩⟩⟩⟩⟩⟩⟩⟩⟩⟩⟩⟩⟩⟩⟩⟩
 ·refine ⟨?_, ⟨?_, ⟨?_, ⟨?_, ⟨?_, ⟨?_, ⟨?_, ⟨?_, ⟨?_, ⟨?_, ⟨?_, ⟨?_, ⟨?_, ⟨?_, ⟨?_, ⟨?_, ⟨?_, ⟨?_, ⟨?_, ⟨?_, ⟨?_, ⟨?_, ⟨?_, ⟨?_, ⟨?_, ⟨?_, ⟨?_, ⟨?_, ⟨?_, ⟨?_, ⟨?_, trivial⟩⟩⟩⟩⟩⟩⟩⟩⟩⟩⟩⟩⟩⟩⟩⟩⟩⟩⟩⟩⟩⟩⟩⟩⟩⟩⟩⟩⟩⟩⟩
  ·intro w5 k40
   m% m41 m38 k40
   rintro _ _ _ _ _ _ _ _ _ _ _ _ _ _ _ _ _ _ _ _ _ _ _ _ _ _ _ _ _ _ _
   w%
   mv% (vs a1 x_h.length c2)
   f2%
  ·intro w5 k42
   m% m43 m38 k42
   rintro _ rfl _ _ _ _ _ _ _ _ _ _ _ _ _ _ _ _ _ _ _ _ _ _ _ _ _ _ _ _ _ _
   w%
   refine wl_index (v := (vs a1 x_h.length c2)) wN 0 rfl rfl rfl slTy_32 rfl rfl (r3.from0 m43) oB% oB% ?_
   f2%
  ·intro w5 k44
   m% m45 m38 k44
   rintro _ rfl _ rfl _ _ _ _ _ _ _ _ _ _ _ _ _ _ _ _ _ _ _ _ _ _ _ _ _ _ _ _ _
   w%
   refine wl_loadE (iV (x_h.getD 0 0)) wN rfl rfl rfl rfl isAgg_3 (r3.from0 m45) (iget (by simp) oB%) ?_
   f2%
  ·intro w5 k46
   m% m47 m38 k46
   rintro _ _ _ _ _ _ _ _ _ _ _ _ _ _ _ _ _ _ _ _ _ _ _ _ _ _ _ _ _ _ _
   w%
   mv% (vs a1 x_h.length c2)
   f2%
  ·intro w5 k48
   m% m49 m38 k48
   rintro _ _ _ _ rfl _ _ _ _ _ _ _ _ _ _ _ _ _ _ _ _ _ _ _ _ _ _ _ _ _ _ _
   w%
   refine wl_index (v := (vs a1 x_h.length c2)) wN 1 rfl rfl rfl slTy_32 rfl rfl (r3.from0 m49) oB% oB% ?_
   f2%
  ·intro w5 k50
   m% m51 m38 k50
   rintro _ _ _ _ rfl _ rfl _ _ _ _ _ _ _ _ _ _ _ _ _ _ _ _ _ _ _ _ _ _ _ _ _ _
   w%
   refine wl_loadE (iV (x_h.getD 1 0)) wN rfl rfl rfl rfl isAgg_3 (r3.from0 m51) (iget (by simp) oB%) ?_
   f2%
  ·intro w5 k52
   m% m53 m38 k52
   rintro _ _ _ _ _ _ _ _ _ _ _ _ _ _ _ _ _ _ _ _ _ _ _ _ _ _ _ _ _ _ _
   w%
   mv% (vs a1 x_h.length c2)
   f2%
  ·intro w5 k54
   m% m55 m38 k54
   rintro _ _ _ _ _ _ _ rfl _ _ _ _ _ _ _ _ _ _ _ _ _ _ _ _ _ _ _ _ _ _ _ _
   w%
   refine wl_index (v := (vs a1 x_h.length c2)) wN 2 rfl rfl rfl slTy_32 rfl rfl (r3.from0 m55) oB% oB% ?_
   f2%
  ·intro w5 k56
   m% m57 m38 k56
   rintro _ _ _ _ _ _ _ rfl _ rfl _ _ _ _ _ _ _ _ _ _ _ _ _ _ _ _ _ _ _ _ _ _ _
   w%
   refine wl_loadE (iV (x_h.getD 2 0)) wN rfl rfl rfl rfl isAgg_3 (r3.from0 m57) (iget (by simp) oB%) ?_
   f2%
  ·intro w5 k58
   m% m59 m38 k58
   rintro _ _ _ _ _ _ _ _ _ _ _ _ _ _ _ _ _ _ _ _ _ _ _ _ _ _ _ _ _ _ _
   w%
   mv% (vs a1 x_h.length c2)
   f2%
  ·intro w5 k60
   m% m61 m38 k60
   rintro _ _ _ _ _ _ _ _ _ _ rfl _ _ _ _ _ _ _ _ _ _ _ _ _ _ _ _ _ _ _ _ _
   w%
   refine wl_index (v := (vs a1 x_h.length c2)) wN 3 rfl rfl rfl slTy_32 rfl rfl (r3.from0 m61) oB% oB% ?_
   f2%
  ·intro w5 k62
   m% m63 m38 k62
   rintro _ _ _ _ _ _ _ _ _ _ rfl _ rfl _ _ _ _ _ _ _ _ _ _ _ _ _ _ _ _ _ _ _ _
   w%
   refine wl_loadE (iV (x_h.getD 3 0)) wN rfl rfl rfl rfl isAgg_3 (r3.from0 m63) (iget (by simp) oB%) ?_
   f2%
  ·intro w5 k64
   m% m65 m38 k64
   rintro _ _ _ _ _ _ _ _ _ _ _ _ _ _ _ _ _ _ _ _ _ _ _ _ _ _ _ _ _ _ _
   w%
   mv% (vs a1 x_h.length c2)
   f2%
  ·intro w5 k66
   m% m67 m38 k66
   rintro _ _ _ _ _ _ _ _ _ _ _ _ _ rfl _ _ _ _ _ _ _ _ _ _ _ _ _ _ _ _ _ _
   w%
   refine wl_index (v := (vs a1 x_h.length c2)) wN 4 rfl rfl rfl slTy_32 rfl rfl (r3.from0 m67) oB% oB% ?_
   f2%
  ·intro w5 k68
   m% m69 m38 k68
   rintro _ _ _ _ _ _ _ _ _ _ _ _ _ rfl _ rfl _ _ _ _ _ _ _ _ _ _ _ _ _ _ _ _ _
   w%
   refine wl_loadE (iV (x_h.getD 4 0)) wN rfl rfl rfl rfl isAgg_3 (r3.from0 m69) (iget (by simp) oB%) ?_
   f2%
  ·intro w5 k70
   m% m71 m38 k70
   rintro _ _ _ _ _ _ _ _ _ _ _ _ _ _ _ _ _ _ _ _ _ _ _ _ _ _ _ _ _ _ _
   w%
   mv% (vs a1 x_h.length c2)
   f2%
  ·intro w5 k72
   m% m73 m38 k72
   rintro _ _ _ _ _ _ _ _ _ _ _ _ _ _ _ _ rfl _ _ _ _ _ _ _ _ _ _ _ _ _ _ _
   w%
   refine wl_index (v := (vs a1 x_h.length c2)) wN 5 rfl rfl rfl slTy_32 rfl rfl (r3.from0 m73) oB% oB% ?_
   f2%
  ·intro w5 k74
   m% m75 m38 k74
   rintro _ _ _ _ _ _ _ _ _ _ _ _ _ _ _ _ rfl _ rfl _ _ _ _ _ _ _ _ _ _ _ _ _ _
   w%
   refine wl_loadE (iV (x_h.getD 5 0)) wN rfl rfl rfl rfl isAgg_3 (r3.from0 m75) (iget (by simp) oB%) ?_
   f2%
  ·intro w5 k76
   m% m77 m38 k76
   rintro _ _ _ _ _ _ _ _ _ _ _ _ _ _ _ _ _ _ _ _ _ _ _ _ _ _ _ _ _ _ _
   w%
   mv% (vs a1 x_h.length c2)
   f2%
  ·intro w5 k78
   m% m79 m38 k78
   rintro _ _ _ _ _ _ _ _ _ _ _ _ _ _ _ _ _ _ _ rfl _ _ _ _ _ _ _ _ _ _ _ _
   w%
   refine wl_index (v := (vs a1 x_h.length c2)) wN 6 rfl rfl rfl slTy_32 rfl rfl (r3.from0 m79) oB% oB% ?_
   f2%
  ·intro w5 k80
   m% m81 m38 k80
   rintro _ _ _ _ _ _ _ _ _ _ _ _ _ _ _ _ _ _ _ rfl _ rfl _ _ _ _ _ _ _ _ _ _ _
   w%
   refine wl_loadE (iV (x_h.getD 6 0)) wN rfl rfl rfl rfl isAgg_3 (r3.from0 m81) (iget (by simp) oB%) ?_
   f2%
  ·intro w5 k82
   m% m83 m38 k82
   rintro _ _ _ _ _ _ _ _ _ _ _ _ _ _ _ _ _ _ _ _ _ _ _ _ _ _ _ _ _ _ _
   w%
   mv% (vs a1 x_h.length c2)
   f2%
  ·intro w5 k84
   m% m85 m38 k84
   rintro _ _ _ _ _ _ _ _ _ _ _ _ _ _ _ _ _ _ _ _ _ _ rfl _ _ _ _ _ _ _ _ _
   w%
   refine wl_index (v := (vs a1 x_h.length c2)) wN 7 rfl rfl rfl slTy_32 rfl rfl (r3.from0 m85) oB% oB% ?_
   f2%
  ·intro w5 k86
   m% m87 m38 k86
   rintro _ _ _ _ _ _ _ _ _ _ _ _ _ _ _ _ _ _ _ _ _ _ rfl _ rfl _ _ _ _ _ _ _ _
   w%
   refine wl_loadE (iV (x_h.getD 7 0)) wN rfl rfl rfl rfl isAgg_3 (r3.from0 m87) (iget (by simp) oB%) ?_
   f2%
  ·intro w5 k88
   m% m89 m38 k88
   rintro _ rfl _ rfl _ rfl _ _ _ _ _ _ _ _ _ _ _ _ _ _ _ _ _ _ _ _ _ _ _ _ _ _ _ _
   w%
   ag% (vi (x_h.getD 0 0))
   f2%
  ·intro w5 k90
   m% m91 m38 k90
   rintro _ rfl _ rfl _ rfl _ rfl _ rfl _ rfl _ _ _ _ _ _ _ _ _ _ _ _ _ _ _ _ _ _ _ rfl _ _ _ _ _ _
   w%
   ag% (vi (x_h.getD 1 0))
   f2%
  ·intro w5 k92
   m% m93 m38 k92
   rintro _ rfl _ rfl _ rfl _ rfl _ rfl _ rfl _ rfl _ rfl _ rfl _ _ _ _ _ _ _ _ _ _ _ _ _ _ _ _ rfl _ rfl _ _ _ _ _
   w%
   ag% (vi (x_h.getD 2 0))
   f2%
  ·intro w5 k94
   m% m95 m38 k94
   rintro _ rfl _ rfl _ rfl _ rfl _ rfl _ rfl _ rfl _ rfl _ rfl _ rfl _ rfl _ rfl _ _ _ _ _ _ _ _ _ _ _ _ _ rfl _ rfl _ rfl _ _ _ _
   w%
   ag% (vi (x_h.getD 3 0))
   f2%
  ·intro w5 k96
   m% m97 m38 k96
   rintro _ rfl _ rfl _ rfl _ rfl _ rfl _ rfl _ rfl _ rfl _ rfl _ rfl _ rfl _ rfl _ rfl _ rfl _ rfl _ _ _ _ _ _ _ _ _ _ rfl _ rfl _ rfl _ rfl _ _ _
   w%
   ag% (vi (x_h.getD 4 0))
   f2%
  ·intro w5 k98
   m% m99 m38 k98
   rintro _ rfl _ rfl _ rfl _ rfl _ rfl _ rfl _ rfl _ rfl _ rfl _ rfl _ rfl _ rfl _ rfl _ rfl _ rfl _ rfl _ rfl _ rfl _ _ _ _ _ _ _ rfl _ rfl _ rfl _ rfl _ rfl _ _
   w%
   ag% (vi (x_h.getD 5 0))
   f2%
  ·intro w5 k100
   m% m101 m38 k100
   rintro _ rfl _ rfl _ rfl _ rfl _ rfl _ rfl _ rfl _ rfl _ rfl _ rfl _ rfl _ rfl _ rfl _ rfl _ rfl _ rfl _ rfl _ rfl _ rfl _ rfl _ rfl _ _ _ _ rfl _ rfl _ rfl _ rfl _ rfl _ rfl _
   w%
   ag% (vi (x_h.getD 6 0))
   f2%
 ·intro w5 k102
  m% m103 m38 k102
  rintro _ rfl _ rfl _ rfl _ rfl _ rfl _ rfl _ rfl _ rfl _ rfl _ rfl _ rfl _ rfl _ rfl _ rfl _ rfl _ rfl _ rfl _ rfl _ rfl _ rfl _ rfl _ rfl _ rfl _ rfl _ rfl _ rfl _ rfl _ rfl _ rfl _ rfl _ rfl
  w%
  ag% (vi (x_h.getD 7 0))
  n4%
  ag% (vi 0)
  refine wl_nil <| wq_then <| wc_block ?_
  refine wc_loopQ (fun e => [(vs a1 x_h.length c2), e 1, e 2, e 3, (vs none 0 0), (vs a20 x_h.length c21), (vs a32 (schedP x_block).length c33), (vi ((cmpN (schedP x_block) (s8of x_h) 0).a)), (vi ((cmpN (schedP x_block) (s8of x_h) 0).b)), (vi ((cmpN (schedP x_block) (s8of x_h) 0).c)), (vi ((cmpN (schedP x_block) (s8of x_h) 0).d)), (vi ((cmpN (schedP x_block) (s8of x_h) 0).e)), (vi ((cmpN (schedP x_block) (s8of x_h) 0).f)), (vi ((cmpN (schedP x_block) (s8of x_h) 0).g)), (vi ((cmpN (schedP x_block) (s8of x_h) 0).z)), (vi ((0 : Nat) : Int)), e 16, e 17, e 18, e 19, U, U, e 22, e 23, e 24, e 25, e 26, e 27, e 28, e 29, e 30, e 31, e 32, e 33, e 34, e 35, e 36, e 37, e 38, e 39, e 40, e 41, e 42, e 43, e 44, e 45, e 46, e 47, e 48, e 49, e 50, e 51, e 52, e 53, e 54, e 55, e 56, e 57, e 58, e 59, e 60, e 61, e 62, e 63, e 64, e 65, e 66, e 67, e 68, e 69, e 70, e 71, e 72, e 73, e 74, e 75, e 76, e 77, e 78, e 79, e 80, e 81, e 82, e 83, e 84, e 85, e 86, e 87, e 88, e 89, e 90, e 91, e 92, e 93, e 94, e 95, e 96, e 97, e 98, e 99, e 100, e 101, e 102, e 103, e 104, e 105, e 106, e 107, e 108, e 109, e 110, e 111, e 112, e 113, e 114, e 115, e 116, e 117, e 118, e 119, e 120, e 121, e 122, e 123, e 124, U, U, U, U, U, U, U, U, U, U, U, U, U, U, U, U, U, U, U, U, U, U, U, U, U, U]) rfl ⟨rfl, rfl, rfl, rfl, rfl, rfl, rfl, (congrArg (Value.int .i64) (show ((x_h.getD 0 0) : Int) = (cmpN (schedP x_block) (s8of x_h) 0).a by rfl)), (congrArg (Value.int .i64) (show ((x_h.getD 1 0) : Int) = (cmpN (schedP x_block) (s8of x_h) 0).b by rfl)), (congrArg (Value.int .i64) (show ((x_h.getD 2 0) : Int) = (cmpN (schedP x_block) (s8of x_h) 0).c by rfl)), (congrArg (Value.int .i64) (show ((x_h.getD 3 0) : Int) = (cmpN (schedP x_block) (s8of x_h) 0).d by rfl)), (congrArg (Value.int .i64) (show ((x_h.getD 4 0) : Int) = (cmpN (schedP x_block) (s8of x_h) 0).e by rfl)), (congrArg (Value.int .i64) (show ((x_h.getD 5 0) : Int) = (cmpN (schedP x_block) (s8of x_h) 0).f by rfl)), (congrArg (Value.int .i64) (show ((x_h.getD 6 0) : Int) = (cmpN (schedP x_block) (s8of x_h) 0).g by rfl)), (congrArg (Value.int .i64) (show ((x_h.getD 7 0) : Int) = (cmpN (schedP x_block) (s8of x_h) 0).z by rfl)), (congrArg (Value.int .i64) (show (0 : Int) = ((0 : Nat) : Int) by omega)), rfl, rfl, rfl, rfl, rfl, rfl, rfl, rfl, rfl, rfl, rfl, rfl, rfl, rfl, rfl, rfl, rfl, rfl, rfl, rfl, rfl, rfl, rfl, rfl, rfl, rfl, rfl, rfl, rfl, rfl, rfl, rfl, rfl, rfl, rfl, rfl, rfl, rfl, rfl, rfl, rfl, rfl, rfl, rfl, rfl, rfl, rfl, rfl, rfl, rfl, rfl, rfl, rfl, rfl, rfl, rfl, rfl, rfl, rfl, rfl, rfl, rfl, rfl, rfl, rfl, rfl, rfl, rfl, rfl, rfl, rfl, rfl, rfl, rfl, rfl, rfl, rfl, rfl, rfl, rfl, rfl, rfl, rfl, rfl, rfl, rfl, rfl, rfl, rfl, rfl, rfl, rfl, rfl, rfl, rfl, rfl, rfl, rfl, rfl, rfl, rfl, rfl, rfl, rfl, rfl, rfl, rfl, rfl, rfl, rfl, rfl, rfl, rfl, rfl, rfl, rfl, rfl, rfl, rfl, rfl, rfl, rfl, rfl, rfl, rfl, rfl, rfl, rfl, rfl, rfl, rfl, rfl, rfl, rfl, rfl, trivial⟩ (fun e' w' => ∃ (k : Nat) (ya : Int) (yb : Int) (yc : Int) (yd : Int) (ye : Int) (yf : Int) (yg : Int) (yz : Int) (u104 : Nat → Value), e' = lst [(vs a1 x_h.length c2), (u104 0), (u104 1), (u104 2), (vs none 0 0), (vs a20 x_h.length c21), (vs a32 (schedP x_block).length c33), (vi ya), (vi yb), (vi yc), (vi yd), (vi ye), (vi yf), (vi yg), (vi yz), (vi ((k : Nat) : Int)), (u104 3), (u104 4), (u104 5), (u104 6), U, U, (u104 7), (u104 8), (u104 9), (u104 10), (u104 11), (u104 12), (u104 13), (u104 14), (u104 15), (u104 16), (u104 17), (u104 18), (u104 19), (u104 20), (u104 21), (u104 22), (u104 23), (u104 24), (u104 25), (u104 26), (u104 27), (u104 28), (u104 29), (u104 30), (u104 31), (u104 32), (u104 33), (u104 34), (u104 35), (u104 36), (u104 37), (u104 38), (u104 39), (u104 40), (u104 41), (u104 42), (u104 43), (u104 44), (u104 45), (u104 46), (u104 47), (u104 48), (u104 49), (u104 50), (u104 51), (u104 52), (u104 53), (u104 54), (u104 55), (u104 56), (u104 57), (u104 58), (u104 59), (u104 60), (u104 61), (u104 62), (u104 63), (u104 64), (u104 65), (u104 66), (u104 67), (u104 68), (u104 69), (u104 70), (u104 71), (u104 72), (u104 73), (u104 74), (u104 75), (u104 76), (u104 77), (u104 78), (u104 79), (u104 80), (u104 81), (u104 82), (u104 83), (u104 84), (u104 85), (u104 86), (u104 87), (u104 88), (u104 89), (u104 90), (u104 91), (u104 92), (u104 93), (u104 94), (u104 95), (u104 96), (u104 97), (u104 98), (u104 99), (u104 100), (u104 101), (u104 102), (u104 103), (u104 104), (u104 105), (u104 106), (u104 107), (u104 108), (u104 109), U, U, U, U, U, U, U, U, U, U, U, U, U, U, U, U, U, U, U, U, U, U, U, U, U, U] ∧ Ch (fun k => w0.heap.size ≤ k) w0 w' ∧ Ch (fun k => w5.heap.size ≤ k) w5 w' ∧ k ≤ 64 ∧ ya = (cmpN (schedP x_block) (s8of x_h) k).a ∧ yb = (cmpN (schedP x_block) (s8of x_h) k).b ∧ yc = (cmpN (schedP x_block) (s8of x_h) k).c ∧ yd = (cmpN (schedP x_block) (s8of x_h) k).d ∧ ye = (cmpN (schedP x_block) (s8of x_h) k).e ∧ yf = (cmpN (schedP x_block) (s8of x_h) k).f ∧ yg = (cmpN (schedP x_block) (s8of x_h) k).g ∧ yz = (cmpN (schedP x_block) (s8of x_h) k).z) (fun e' _ => (64 - (intOf (e' 15))).toNat) ?_ ?_
  ·exact fun u => ⟨0, (cmpN (schedP x_block) (s8of x_h) 0).a, (cmpN (schedP x_block) (s8of x_h) 0).b, (cmpN (schedP x_block) (s8of x_h) 0).c, (cmpN (schedP x_block) (s8of x_h) 0).d, (cmpN (schedP x_block) (s8of x_h) 0).e, (cmpN (schedP x_block) (s8of x_h) 0).f, (cmpN (schedP x_block) (s8of x_h) 0).g, (cmpN (schedP x_block) (s8of x_h) 0).z, (unL [u 1, u 2, u 3, u 16, u 17, u 18, u 19, u 22, u 23, u 24, u 25, u 26, u 27, u 28, u 29, u 30, u 31, u 32, u 33, u 34, u 35, u 36, u 37, u 38, u 39, u 40, u 41, u 42, u 43, u 44, u 45, u 46, u 47, u 48, u 49, u 50, u 51, u 52, u 53, u 54, u 55, u 56, u 57, u 58, u 59, u 60, u 61, u 62, u 63, u 64, u 65, u 66, u 67, u 68, u 69, u 70, u 71, u 72, u 73, u 74, u 75, u 76, u 77, u 78, u 79, u 80, u 81, u 82, u 83, u 84, u 85, u 86, u 87, u 88, u 89, u 90, u 91, u 92, u 93, u 94, u 95, u 96, u 97, u 98, u 99, u 100, u 101, u 102, u 103, u 104, u 105, u 106, u 107, u 108, u 109, u 110, u 111, u 112, u 113, u 114, u 115, u 116, u 117, u 118, u 119, u 120, u 121, u 122, u 123, u 124]), rfl, m103, (Ch.refl (fun k => w5.heap.size ≤ k) w5), o%, (by first | rfl | assumption), (by first | rfl | assumption), (by first | rfl | assumption), (by first | rfl | assumption), (by first | rfl | assumption), (by first | rfl | assumption), (by first | rfl | assumption), (by first | rfl | assumption)⟩
  ·rintro _ w6 ⟨k, ya, yb, yc, yd, ye, yf, yg, yz, u104, rfl, m105, k106, i107, hi_a, hi_b, hi_c, hi_d, hi_e, hi_f, hi_g, hi_z⟩
   obtain ⟨zw, hzw⟩ : ∃ z, (schedP x_block).getD k 0 = z := ⟨_, rfl⟩
   have hwd : 0 ≤ zw ∧ zw < 4294967296 := hzw ▸ wget (schedP_w x_block) k
   obtain ⟨zk, hzk⟩ : ∃ z, kw.getD k 0 = z := ⟨_, rfl⟩
   have hkw : 0 ≤ zk ∧ zk < 4294967296 := hzk ▸ wget kw_w k
   have hkl : kw.length = 64 := rfl
   have hok := cmpN_ok (w := schedP x_block) (s8of_ok (areW_t (by first | assumption | exact ‹ws8 x_h = true›)).1) k
   unfold S8.ok at hok
   rw [← hi_a, ← hi_b, ← hi_c, ← hi_d, ← hi_e, ← hi_f, ← hi_g, ← hi_z] at hok
   refine wc_seq <| sr ?_
   mv% (vi ((k : Nat) : Int))
   pu% (vb (decide (((k : Nat) : Int) < 64)))
   n2%
   rcases bf (decide (((k : Nat) : Int) < 64)) with h116 | h116
   ·df% q253 h116
    cf% h116
    refine wc_exit <| wq_then_exit ?_
    obtain rfl : k = 64 := by omega
    refine wq_then_exit <| wq_blk_exit <| wq_then <| wc_seq <| sr ?_
    mv% (vi ya)
    mv% (vi yb)
    mv% (vi yc)
    mv% (vi yd)
    mv% (vi ye)
    mv% (vi yf)
    mv% (vi yg)
    mv% (vi yz)
    refine wl_lit [(vi ya), (vi yb), (vi yc), (vi yd), (vi ye), (vi yf), (vi yg), (vi yz)] wN rfl rfl slTy_32 (m := 8) rfl (by simp only [maxLen]; omega) (fun w => by kernel_rfl) ?_
    intro u254 w7 k255 o256
    obtain ⟨a257, c258, rfl⟩ := own_form o256
    m% m259 m105 k255
    have o261 : w7.ownsRow w6.heap.size 3 1 (.slice a257 (([ya, yb, yc, yd, ye, yf, yg, yz] : List Int) : List Int).length c258) (([ya, yb, yc, yd, ye, yf, yg, yz] : List Int) : List Int).length ((([ya, yb, yc, yd, ye, yf, yg, yz] : List Int) : List Int).map iV) := o256
    refine ln wN slTy_32 (Rd.of_own o261) ?_
    mv% (vi 0)
    refine wl_nil <| wq_then <| wc_block ?_
    have o264 := (own_kp (own_ch (own_kp (own_kp (own_kp o18 k25) k31) k102) k106 (fun g hg hlt hk => by have h1 := (own_lt o18 g hg).2; have h2 : w2.heap.size ≤ w5.heap.size := (z% k25 k31 k102); have h3 : w5.heap.size ≤ g := hk; omega)) k255)
    have hE263 : (x_h : List Int) = (addL x_h (S8.list (cmpN (schedP x_block) (s8of x_h) 64))).take 0 ++ x_h.drop 0 := by first | rfl | simp
    have hE265 : (([ya, yb, yc, yd, ye, yf, yg, yz] : List Int) : List Int) = ([ya, yb, yc, yd, ye, yf, yg, yz] : List Int) := by first | rfl | simp
    refine wc_loopQ (fun e => [(vs a1 x_h.length c2), e 1, e 2, e 3, (vs none 0 0), (vs a20 x_h.length c21), e 6, e 7, e 8, e 9, e 10, e 11, e 12, e 13, e 14, e 15, e 16, e 17, e 18, e 19, e 20, e 21, e 22, e 23, e 24, e 25, e 26, e 27, e 28, e 29, e 30, e 31, e 32, e 33, e 34, e 35, e 36, e 37, e 38, e 39, e 40, e 41, e 42, e 43, e 44, e 45, e 46, e 47, e 48, e 49, e 50, e 51, e 52, e 53, e 54, e 55, e 56, e 57, e 58, e 59, e 60, e 61, e 62, e 63, e 64, e 65, e 66, e 67, e 68, e 69, e 70, e 71, e 72, e 73, e 74, e 75, e 76, e 77, e 78, e 79, e 80, e 81, e 82, e 83, e 84, e 85, e 86, e 87, e 88, e 89, e 90, e 91, e 92, e 93, e 94, e 95, e 96, e 97, e 98, e 99, e 100, e 101, e 102, e 103, e 104, e 105, e 106, e 107, e 108, e 109, e 110, e 111, e 112, e 113, e 114, e 115, e 116, e 117, e 118, e 119, e 120, e 121, e 122, e 123, e 124, e 125, e 126, e 127, e 128, e 129, e 130, e 131, e 132, (vs a257 ([ya, yb, yc, yd, ye, yf, yg, yz] : List Int).length c258), (vi (([ya, yb, yc, yd, ye, yf, yg, yz] : List Int).length : Int)), (vi ((0 : Nat) : Int)), e 136, e 137, e 138, e 139, e 140, e 141, e 142, e 143, e 144, e 145, e 146, e 147, e 148, e 149, U]) rfl ⟨rfl, rfl, rfl, rfl, rfl, rfl, rfl, rfl, rfl, rfl, rfl, rfl, rfl, rfl, rfl, rfl, rfl, rfl, rfl, rfl, rfl, rfl, rfl, rfl, rfl, rfl, rfl, rfl, rfl, rfl, rfl, rfl, rfl, rfl, rfl, rfl, rfl, rfl, rfl, rfl, rfl, rfl, rfl, rfl, rfl, rfl, rfl, rfl, rfl, rfl, rfl, rfl, rfl, rfl, rfl, rfl, rfl, rfl, rfl, rfl, rfl, rfl, rfl, rfl, rfl, rfl, rfl, rfl, rfl, rfl, rfl, rfl, rfl, rfl, rfl, rfl, rfl, rfl, rfl, rfl, rfl, rfl, rfl, rfl, rfl, rfl, rfl, rfl, rfl, rfl, rfl, rfl, rfl, rfl, rfl, rfl, rfl, rfl, rfl, rfl, rfl, rfl, rfl, rfl, rfl, rfl, rfl, rfl, rfl, rfl, rfl, rfl, rfl, rfl, rfl, rfl, rfl, rfl, rfl, rfl, rfl, rfl, rfl, rfl, rfl, rfl, rfl, rfl, rfl, rfl, rfl, rfl, rfl, rfl, rfl, (congrArg (Value.int .i64) (show (0 : Int) = ((0 : Nat) : Int) by omega)), rfl, rfl, rfl, rfl, rfl, rfl, rfl, rfl, rfl, rfl, rfl, rfl, rfl, rfl, rfl, trivial⟩ (fun e' w' => ∃ (m : Nat) (u262 : Nat → Value), e' = lst [(vs a1 x_h.length c2), (u262 0), (u262 1), (u262 2), (vs none 0 0), (vs a20 x_h.length c21), (u262 3), (u262 4), (u262 5), (u262 6), (u262 7), (u262 8), (u262 9), (u262 10), (u262 11), (u262 12), (u262 13), (u262 14), (u262 15), (u262 16), (u262 17), (u262 18), (u262 19), (u262 20), (u262 21), (u262 22), (u262 23), (u262 24), (u262 25), (u262 26), (u262 27), (u262 28), (u262 29), (u262 30), (u262 31), (u262 32), (u262 33), (u262 34), (u262 35), (u262 36), (u262 37), (u262 38), (u262 39), (u262 40), (u262 41), (u262 42), (u262 43), (u262 44), (u262 45), (u262 46), (u262 47), (u262 48), (u262 49), (u262 50), (u262 51), (u262 52), (u262 53), (u262 54), (u262 55), (u262 56), (u262 57), (u262 58), (u262 59), (u262 60), (u262 61), (u262 62), (u262 63), (u262 64), (u262 65), (u262 66), (u262 67), (u262 68), (u262 69), (u262 70), (u262 71), (u262 72), (u262 73), (u262 74), (u262 75), (u262 76), (u262 77), (u262 78), (u262 79), (u262 80), (u262 81), (u262 82), (u262 83), (u262 84), (u262 85), (u262 86), (u262 87), (u262 88), (u262 89), (u262 90), (u262 91), (u262 92), (u262 93), (u262 94), (u262 95), (u262 96), (u262 97), (u262 98), (u262 99), (u262 100), (u262 101), (u262 102), (u262 103), (u262 104), (u262 105), (u262 106), (u262 107), (u262 108), (u262 109), (u262 110), (u262 111), (u262 112), (u262 113), (u262 114), (u262 115), (u262 116), (u262 117), (u262 118), (u262 119), (u262 120), (u262 121), (u262 122), (u262 123), (u262 124), (u262 125), (u262 126), (u262 127), (u262 128), (u262 129), (vs a257 ([ya, yb, yc, yd, ye, yf, yg, yz] : List Int).length c258), (vi (([ya, yb, yc, yd, ye, yf, yg, yz] : List Int).length : Int)), (vi ((m : Nat) : Int)), (u262 130), (u262 131), (u262 132), (u262 133), (u262 134), (u262 135), (u262 136), (u262 137), (u262 138), (u262 139), (u262 140), (u262 141), (u262 142), (u262 143), U] ∧ Ch (fun k => w0.heap.size ≤ k) w0 w' ∧ Ch (fun k => w0.heap.size ≤ k) w7 w' ∧ m ≤ 8 ∧ World.ownsRow w' w0.heap.size 3 1 (.slice a20 x_h.length c21) x_h.length (((addL x_h (S8.list (cmpN (schedP x_block) (s8of x_h) 64))).take m ++ x_h.drop m).map iV) ∧ World.ownsRow w' w6.heap.size 3 1 (.slice a257 ([ya, yb, yc, yd, ye, yf, yg, yz] : List Int).length c258) ([ya, yb, yc, yd, ye, yf, yg, yz] : List Int).length ((([ya, yb, yc, yd, ye, yf, yg, yz] : List Int)).map iV)) (fun e' _ => (8 - (intOf (e' 135))).toNat) ?_ ?_
    ·exact fun u => ⟨0, (unL [u 1, u 2, u 3, u 6, u 7, u 8, u 9, u 10, u 11, u 12, u 13, u 14, u 15, u 16, u 17, u 18, u 19, u 20, u 21, u 22, u 23, u 24, u 25, u 26, u 27, u 28, u 29, u 30, u 31, u 32, u 33, u 34, u 35, u 36, u 37, u 38, u 39, u 40, u 41, u 42, u 43, u 44, u 45, u 46, u 47, u 48, u 49, u 50, u 51, u 52, u 53, u 54, u 55, u 56, u 57, u 58, u 59, u 60, u 61, u 62, u 63, u 64, u 65, u 66, u 67, u 68, u 69, u 70, u 71, u 72, u 73, u 74, u 75, u 76, u 77, u 78, u 79, u 80, u 81, u 82, u 83, u 84, u 85, u 86, u 87, u 88, u 89, u 90, u 91, u 92, u 93, u 94, u 95, u 96, u 97, u 98, u 99, u 100, u 101, u 102, u 103, u 104, u 105, u 106, u 107, u 108, u 109, u 110, u 111, u 112, u 113, u 114, u 115, u 116, u 117, u 118, u 119, u 120, u 121, u 122, u 123, u 124, u 125, u 126, u 127, u 128, u 129, u 130, u 131, u 132, u 136, u 137, u 138, u 139, u 140, u 141, u 142, u 143, u 144, u 145, u 146, u 147, u 148, u 149]), rfl, m259, (Ch.refl (fun k => w0.heap.size ≤ k) w7), o%, (by rw [← hE263]; exact o264), (by rw [← hE265]; exact o261)⟩
    ·rintro _ w8 ⟨m, u262, rfl, m266, k267, i268, o269, o270⟩
     have hlL : ([ya, yb, yc, yd, ye, yf, yg, yz] : List Int).length = 8 := rfl
     have hll : (addL x_h (S8.list (cmpN (schedP x_block) (s8of x_h) 64))).length = 8 := addL_len o% rfl
     have hl8 : (x_h.length : Int) = 8 := (areW_t (by first | assumption | exact ‹ws8 x_h = true›)).2
     have hw1 := wget (areW_t (by first | assumption | exact ‹ws8 x_h = true›)).1 m
     have hle : ([ya, yb, yc, yd, ye, yf, yg, yz] : List Int) = (S8.list (cmpN (schedP x_block) (s8of x_h) 64)) := by rw [hi_a, hi_b, hi_c, hi_d, hi_e, hi_f, hi_g, hi_z]; rfl
     have hw2 : 0 ≤ ([ya, yb, yc, yd, ye, yf, yg, yz] : List Int).getD m 0 ∧ ([ya, yb, yc, yd, ye, yf, yg, yz] : List Int).getD m 0 < 4294967296 := hle ▸ wget (s8l_w (cmpN_ok (w := schedP x_block) (s8of_ok (areW_t (by first | assumption | exact ‹ws8 x_h = true›)).1) 64)) m
     sr%
     pu% (vb (decide (((m : Nat) : Int) < (([ya, yb, yc, yd, ye, yf, yg, yz] : List Int).length : Int))))
     refine wl_nil <| wq_then <| wc_seq ?_
     rcases bf (decide (((m : Nat) : Int) < (([ya, yb, yc, yd, ye, yf, yg, yz] : List Int).length : Int))) with h271 | h271
     ·df% q282 h271
      cf% h271
      refine wc_exit <| wq_then_exit <| wq_then_exit <| wq_blk_exit <| wq_then <| sr ?_
      mv% (vs a20 x_h.length c21)
      ag% (vs a20 x_h.length c21)
      n3%
      r1% (vs a20 x_h.length c21)
      kp% m266
      have hF283 : compress x_h x_block = ((addL x_h (S8.list (cmpN (schedP x_block) (s8of x_h) 64))).take m ++ x_h.drop m) := by first | exact compress_f (by first | assumption | exact ‹ws8 x_h = false›) | exact compress_g o% | exact compress_t (by first | assumption | exact ‹ws8 x_h = true›) o% o%
      rw [hF283]
      have hN284 : x_h.length = (((addL x_h (S8.list (cmpN (schedP x_block) (s8of x_h) 64))).take m ++ x_h.drop m)).length := by simp only [List.length_append, List.length_take, List.length_drop]; omega
      rw [hN284] at o269 ⊢
      exact ⟨_, _, rfl, o269, (by rw [← hN284]; exact s4), ⟨trivial, trivial⟩⟩
     dt% q272 h271
     ct% h271
     refine wc_skip <| wq_then <| wc_seq <| wc_block <| sr ?_
     mv% (vi ((m : Nat) : Int))
     refine wl_index (v := (vs a257 ([ya, yb, yc, yd, ye, yf, yg, yz] : List Int).length c258)) wN ((m : Nat) : Int) rfl rfl rfl slTy_32 rfl rfl (Rd.of_own o270) oB% oB% ?_
     refine wl_loadE (iV ((([ya, yb, yc, yd, ye, yf, yg, yz] : List Int)).getD m 0)) wN rfl rfl rfl rfl isAgg_3 (Rd.of_own o270) (iget (by simp) oB%) ?_
     ag% (vi ((m : Nat) : Int))
     ag% (vi ((([ya, yb, yc, yd, ye, yf, yg, yz] : List Int)).getD m 0))
     refine wl_nil <| wq_then <| wc_region ?_
     mv% (vs a20 x_h.length c21)
     mv% (vi ((m : Nat) : Int))
     mv% (vs a1 x_h.length c2)
     mv% (vi ((m : Nat) : Int))
     refine wl_index (v := (vs a1 x_h.length c2)) wN ((m : Nat) : Int) rfl rfl rfl slTy_32 rfl rfl (r3.from0 m266) oB% oB% ?_
     refine wl_loadE (iV (x_h.getD m 0)) wN rfl rfl rfl rfl isAgg_3 (r3.from0 m266) (iget (by simp) oB%) ?_
     mv% (vi ((([ya, yb, yc, yd, ye, yf, yg, yz] : List Int)).getD m 0))
     cl% (C_impl_Add32 w8 (x_h.getD m 0) ((([ya, yb, yc, yd, ye, yf, yg, yz] : List Int)).getD m 0) o% o% o% o%)
     rintro _ w9 ⟨k273, rfl⟩
     m% m274 m266 k273
     have o275 := (own_kp o269 k273)
     refine wl_index (v := (vs a20 x_h.length c21)) wN ((m : Nat) : Int) rfl rfl rfl slTy_32 rfl rfl (Rd.of_own o275) oB% oB% ?_
     refine wl_storeI ((addL x_h (S8.list (cmpN (schedP x_block) (s8of x_h) 64))).take m ++ x_h.drop m) (m) ((F_impl_Add32 (x_h.getD m 0) ((([ya, yb, yc, yd, ye, yf, yg, yz] : List Int)).getD m 0))) wN rfl rfl rfl (by simp) rfl sizeOf_3 o275 (by first | omega | (simp only [List.length_append, List.length_take, List.length_drop]; omega)) ?_
     intro w10 k276 o277
     have m278 := m274.ext k276 (fun k hk => Nat.le_trans (Nat.le_refl w0.heap.size) (own_lt o18 k hk).1)
     refine wl_nil <| wq_blk_normal <| wq_then <| wc_region ?_
     refine ar (((m : Nat) : Int) + 1) wN ?_
     mv% (vi (((m : Nat) : Int) + 1))
     refine wl_nil ?_
     have hE279 : ((((addL x_h (S8.list (cmpN (schedP x_block) (s8of x_h) 64))).take m ++ x_h.drop m).set m (F_impl_Add32 (x_h.getD m 0) ((([ya, yb, yc, yd, ye, yf, yg, yz] : List Int)).getD m 0))) : List Int) = (addL x_h (S8.list (cmpN (schedP x_block) (s8of x_h) 64))).take (m + 1) ++ x_h.drop (m + 1) := by first | rfl | (rw [hle]; exact addL_next (l := (S8.list (cmpN (schedP x_block) (s8of x_h) 64))) o% (by show x_h.length = 8; omega))
     have o281 := (own_ch (own_kp o270 k273) k276 (fun g hg hlt hk => by have h1 := (own_lt o261 g hg).1; have h2 := (own_lt o18 g hk).2; have h3 := (z% k25 k31 k102 k106); omega))
     have hE280 : ((([ya, yb, yc, yd, ye, yf, yg, yz] : List Int)) : List Int) = ([ya, yb, yc, yd, ye, yf, yg, yz] : List Int) := by first | rfl | (rw [hle]; exact addL_next (l := (S8.list (cmpN (schedP x_block) (s8of x_h) 64))) o% (by show x_h.length = 8; omega))
     refine wq_loopQ (w0 := w8) (fun e => [(vs a1 x_h.length c2), e 1, e 2, e 3, (vs none 0 0), (vs a20 x_h.length c21), e 6, e 7, e 8, e 9, e 10, e 11, e 12, e 13, e 14, e 15, e 16, e 17, e 18, e 19, e 20, e 21, e 22, e 23, e 24, e 25, e 26, e 27, e 28, e 29, e 30, e 31, e 32, e 33, e 34, e 35, e 36, e 37, e 38, e 39, e 40, e 41, e 42, e 43, e 44, e 45, e 46, e 47, e 48, e 49, e 50, e 51, e 52, e 53, e 54, e 55, e 56, e 57, e 58, e 59, e 60, e 61, e 62, e 63, e 64, e 65, e 66, e 67, e 68, e 69, e 70, e 71, e 72, e 73, e 74, e 75, e 76, e 77, e 78, e 79, e 80, e 81, e 82, e 83, e 84, e 85, e 86, e 87, e 88, e 89, e 90, e 91, e 92, e 93, e 94, e 95, e 96, e 97, e 98, e 99, e 100, e 101, e 102, e 103, e 104, e 105, e 106, e 107, e 108, e 109, e 110, e 111, e 112, e 113, e 114, e 115, e 116, e 117, e 118, e 119, e 120, e 121, e 122, e 123, e 124, e 125, e 126, e 127, e 128, e 129, e 130, e 131, e 132, (vs a257 ([ya, yb, yc, yd, ye, yf, yg, yz] : List Int).length c258), (vi (([ya, yb, yc, yd, ye, yf, yg, yz] : List Int).length : Int)), (vi (((m + 1) : Nat) : Int)), e 136, e 137, e 138, e 139, e 140, e 141, e 142, e 143, e 144, e 145, e 146, e 147, e 148, e 149, U]) rfl ?_ ?_ ?_
     · exact ⟨rfl, rfl, rfl, rfl, rfl, rfl, rfl, rfl, rfl, rfl, rfl, rfl, rfl, rfl, rfl, rfl, rfl, rfl, rfl, rfl, rfl, rfl, rfl, rfl, rfl, rfl, rfl, rfl, rfl, rfl, rfl, rfl, rfl, rfl, rfl, rfl, rfl, rfl, rfl, rfl, rfl, rfl, rfl, rfl, rfl, rfl, rfl, rfl, rfl, rfl, rfl, rfl, rfl, rfl, rfl, rfl, rfl, rfl, rfl, rfl, rfl, rfl, rfl, rfl, rfl, rfl, rfl, rfl, rfl, rfl, rfl, rfl, rfl, rfl, rfl, rfl, rfl, rfl, rfl, rfl, rfl, rfl, rfl, rfl, rfl, rfl, rfl, rfl, rfl, rfl, rfl, rfl, rfl, rfl, rfl, rfl, rfl, rfl, rfl, rfl, rfl, rfl, rfl, rfl, rfl, rfl, rfl, rfl, rfl, rfl, rfl, rfl, rfl, rfl, rfl, rfl, rfl, rfl, rfl, rfl, rfl, rfl, rfl, rfl, rfl, rfl, rfl, rfl, rfl, rfl, rfl, rfl, rfl, rfl, rfl, (congrArg (Value.int .i64) (show ((((m : Nat) : Int) + 1) : Int) = (((m + 1) : Nat) : Int) by omega)), rfl, rfl, rfl, rfl, rfl, rfl, rfl, rfl, rfl, rfl, rfl, rfl, rfl, rfl, rfl, trivial⟩
     · exact fun u => ⟨(m + 1), (unL [u 1, u 2, u 3, u 6, u 7, u 8, u 9, u 10, u 11, u 12, u 13, u 14, u 15, u 16, u 17, u 18, u 19, u 20, u 21, u 22, u 23, u 24, u 25, u 26, u 27, u 28, u 29, u 30, u 31, u 32, u 33, u 34, u 35, u 36, u 37, u 38, u 39, u 40, u 41, u 42, u 43, u 44, u 45, u 46, u 47, u 48, u 49, u 50, u 51, u 52, u 53, u 54, u 55, u 56, u 57, u 58, u 59, u 60, u 61, u 62, u 63, u 64, u 65, u 66, u 67, u 68, u 69, u 70, u 71, u 72, u 73, u 74, u 75, u 76, u 77, u 78, u 79, u 80, u 81, u 82, u 83, u 84, u 85, u 86, u 87, u 88, u 89, u 90, u 91, u 92, u 93, u 94, u 95, u 96, u 97, u 98, u 99, u 100, u 101, u 102, u 103, u 104, u 105, u 106, u 107, u 108, u 109, u 110, u 111, u 112, u 113, u 114, u 115, u 116, u 117, u 118, u 119, u 120, u 121, u 122, u 123, u 124, u 125, u 126, u 127, u 128, u 129, u 130, u 131, u 132, u 136, u 137, u 138, u 139, u 140, u 141, u 142, u 143, u 144, u 145, u 146, u 147, u 148, u 149]), rfl, m278, ((((Ch.refl (fun k => w0.heap.size ≤ k) w7).ext k267 (fun k hk => Nat.le_trans (Nat.le_refl w0.heap.size) hk)).extk k273).ext k276 (fun k hk => Nat.le_trans (Nat.le_refl w0.heap.size) (own_lt o18 k hk).1)), o%, (by rw [← hE279]; exact o277), (by rw [← hE280]; exact o281)⟩
     · show (8 - (((m + 1) : Nat) : Int)).toNat < (8 - ((m : Nat) : Int)).toNat; omega
   dt% q117 h116
   ct% h116
   refine wc_skip <| wq_then <| wc_seq <| wc_block <| sr ?_
   mv% (vi ye)
   mv% (vi yf)
   refine wl_andG ye yf wN rfl rfl k% o% o% o% o% ?_
   have q118 := andI_b (a := ye) (b := yf) o%
   mv% (vi ye)
   refine wl_xor 4294967295 ye wN rfl rfl k% o% o% o% o% ?_
   have q119 := xorI_b (a := 4294967295) (b := ye) o% o%
   mv% (vi yg)
   refine wl_andG (xorI 4294967295 ye) yg wN rfl rfl k% o% o% o% o% ?_
   have q120 := andI_b (a := (xorI 4294967295 ye)) (b := yg) o%
   refine wl_xor (andI ye yf) (andI (xorI 4294967295 ye) yg) wN rfl rfl k% o% o% o% o% ?_
   have q121 := xorI_b (a := (andI ye yf)) (b := (andI (xorI 4294967295 ye) yg)) o% o%
   ag% (vi (xorI (andI ye yf) (andI (xorI 4294967295 ye) yg)))
   nx%
   mv% (vi ya)
   mv% (vi yb)
   refine wl_andG ya yb wN rfl rfl k% o% o% o% o% ?_
   have q122 := andI_b (a := ya) (b := yb) o%
   mv% (vi ya)
   mv% (vi yc)
   refine wl_andG ya yc wN rfl rfl k% o% o% o% o% ?_
   have q123 := andI_b (a := ya) (b := yc) o%
   refine wl_xor (andI ya yb) (andI ya yc) wN rfl rfl k% o% o% o% o% ?_
   have q124 := xorI_b (a := (andI ya yb)) (b := (andI ya yc)) o% o%
   mv% (vi yb)
   mv% (vi yc)
   refine wl_andG yb yc wN rfl rfl k% o% o% o% o% ?_
   have q125 := andI_b (a := yb) (b := yc) o%
   refine wl_xor (xorI (andI ya yb) (andI ya yc)) (andI yb yc) wN rfl rfl k% o% o% o% o% ?_
   have q126 := xorI_b (a := (xorI (andI ya yb) (andI ya yc))) (b := (andI yb yc)) o% o%
   ag% (vi (xorI (xorI (andI ya yb) (andI ya yc)) (andI yb yc)))
   refine wl_nil <| wq_then <| wc_seq ?_
   refine wc_drawT ([(83, [], [], (fun _ v _ => v = (vi yz))), (84, [], [], (fun _ v _ => v = (vi ye))), (85, [], [1], (fun _ v w => v = .int .i64 (rot ye 6))), (86, [], [], (fun _ v _ => v = (vi ye))), (87, [], [1, 2, 3], (fun _ v w => v = .int .i64 (rot ye 11))), (88, [], [1, 2, 3, 4], (fun _ v _ => v = (vi (xorI (rot ye 6) (rot ye 11))))), (89, [], [], (fun _ v _ => v = (vi ye))), (90, [], [1, 2, 3, 4, 6], (fun _ v w => v = .int .i64 (rot ye 25))), (91, [], [1, 2, 3, 4, 5, 6, 7], (fun _ v _ => v = (vi (xorI (xorI (rot ye 6) (rot ye 11)) (rot ye 25))))), (92, [], [0, 1, 2, 3, 4, 5, 6, 7, 8], (fun _ v _ => v = (vi (yz + (xorI (xorI (rot ye 6) (rot ye 11)) (rot ye 25)))))), (93, [], [], (fun _ v _ => v = (vi (xorI (andI ye yf) (andI (xorI 4294967295 ye) yg))))), (94, [], [0, 1, 2, 3, 4, 5, 6, 7, 8, 9, 10], (fun _ v _ => v = (vi ((yz + (xorI (xorI (rot ye 6) (rot ye 11)) (rot ye 25))) + (xorI (andI ye yf) (andI (xorI 4294967295 ye) yg)))))), (95, [], [], (fun _ v _ => v = (vi ((k : Nat) : Int)))), (96, [], [1, 2, 3, 4, 6, 7, 12], (fun _ v w => v = .int .i64 (rw64 ((k : Nat) : Int)))), (97, [], [0, 1, 2, 3, 4, 5, 6, 7, 8, 9, 10, 11, 12, 13], (fun _ v _ => v = (vi (((yz + (xorI (xorI (rot ye 6) (rot ye 11)) (rot ye 25))) + (xorI (andI ye yf) (andI (xorI 4294967295 ye) yg))) + (rw64 ((k : Nat) : Int)))))), (98, [], [], (fun _ v _ => v = (vs a32 (schedP x_block).length c33))), (99, [], [], (fun _ v _ => v = (vi ((k : Nat) : Int)))), (100, [], [15, 16], (fun _ v _ => v = (ve (vs a32 (schedP x_block).length c33) ((((k : Nat) : Int)).toNat * 1)))), (101, [], [15, 16, 17], (fun _ v _ => v = (vi zw)))] : GV) (fun _ w' => Keep w6 w') [] mixed rfl k% k% ?_ (fun _ _ h => h) (fun _ _ _ _ h _ k => h.trans k) trivial ?_ ?_ ?_
   ·exact ⟨s%, t%, ⟨s%, t%, ⟨s%, t%, ⟨s%, t%, ⟨s%, t%, ⟨s%, t%, ⟨s%, t%, ⟨s%, t%, ⟨s%, t%, ⟨s%, t%, ⟨s%, t%, ⟨s%, t%, ⟨s%, t%, ⟨s%, t%, ⟨s%, t%, ⟨s%, t%, ⟨s%, t%, ⟨s%, t%, ⟨s%, t%, trivial⟩⟩⟩⟩⟩⟩⟩⟩⟩⟩⟩⟩⟩⟩⟩⟩⟩⟩⟩
   ·exact trivial
   ·refine ⟨?_, ⟨?_, ⟨?_, ⟨?_, ⟨?_, ⟨?_, ⟨?_, ⟨?_, ⟨?_, ⟨?_, ⟨?_, ⟨?_, ⟨?_, ⟨?_, ⟨?_, ⟨?_, ⟨?_, ⟨?_, ⟨?_, trivial⟩⟩⟩⟩⟩⟩⟩⟩⟩⟩⟩⟩⟩⟩⟩⟩⟩⟩⟩
    ·intro _ w7 k145 _
     m% m146 m105 k145
     rintro _ _ _ _ _ _ _ _ _ _ _ _ _ _ _ _ _ _ _
     w%
     mv% (vi yz)
     f1%
    ·intro _ w7 k147 _
     m% m148 m105 k147
     rintro _ _ _ _ _ _ _ _ _ _ _ _ _ _ _ _ _ _ _
     w%
     mv% (vi ye)
     f1%
    ·intro _ w7 k149 _
     m% m150 m105 k149
     rintro _ _ rfl _ _ _ _ _ _ _ _ _ _ _ _ _ _ _ _ _
     w%
     cl% (C_impl_Rot w7 ye 6 o% o%)
     rintro _ w8 ⟨k151, rfl⟩
     m% m152 m150 k151
     have q153 := rot_b ye 6
     exact wl_finT k151 rfl
    ·intro _ w7 k154 _
     m% m155 m105 k154
     rintro _ _ _ _ _ _ _ _ _ _ _ _ _ _ _ _ _ _ _
     w%
     mv% (vi ye)
     f1%
    ·intro _ w7 k156 _
     m% m157 m105 k156
     rintro _ _ rfl _ rfl
     have q158 := rot_b ye 6
     rintro _ rfl _ _ _ _ _ _ _ _ _ _ _ _ _ _ _
     w%
     cl% (C_impl_Rot w7 ye 11 o% o%)
     rintro _ w8 ⟨k159, rfl⟩
     m% m160 m157 k159
     have q161 := rot_b ye 11
     exact wl_finT k159 rfl
    ·intro _ w7 k162 _
     m% m163 m105 k162
     rintro _ _ rfl _ rfl
     have q164 := rot_b ye 6
     rintro _ rfl _ rfl
     have q165 := rot_b ye 11
     rintro _ _ _ _ _ _ _ _ _ _ _ _ _ _
     w%
     refine wl_xor (rot ye 6) (rot ye 11) wN rfl rfl k% o% o% o% o% ?_
     have q166 := xorI_b (a := (rot ye 6)) (b := (rot ye 11)) o% o%
     f1%
    ·intro _ w7 k167 _
     m% m168 m105 k167
     rintro _ _ _ _ _ _ _ _ _ _ _ _ _ _ _ _ _ _ _
     w%
     mv% (vi ye)
     f1%
    ·intro _ w7 k169 _
     m% m170 m105 k169
     rintro _ _ rfl _ rfl
     have q171 := rot_b ye 6
     rintro _ rfl _ rfl
     have q172 := rot_b ye 11
     rintro _ _ rfl _ _ _ _ _ _ _ _ _ _ _ _
     w%
     cl% (C_impl_Rot w7 ye 25 o% o%)
     rintro _ w8 ⟨k173, rfl⟩
     m% m174 m170 k173
     have q175 := rot_b ye 25
     exact wl_finT k173 rfl
    ·intro _ w7 k176 _
     m% m177 m105 k176
     rintro _ _ rfl _ rfl
     have q178 := rot_b ye 6
     rintro _ rfl _ rfl
     have q179 := rot_b ye 11
     rintro _ rfl
     have q180 := xorI_b (a := (rot ye 6)) (b := (rot ye 11)) o% o%
     rintro _ rfl _ rfl
     have q181 := rot_b ye 25
     rintro _ _ _ _ _ _ _ _ _ _ _
     w%
     refine wl_xor (xorI (rot ye 6) (rot ye 11)) (rot ye 25) wN rfl rfl k% o% o% o% o% ?_
     have q182 := xorI_b (a := (xorI (rot ye 6) (rot ye 11))) (b := (rot ye 25)) o% o%
     f1%
    ·intro _ w7 k183 _
     m% m184 m105 k183
     rintro _ rfl _ rfl _ rfl
     have q185 := rot_b ye 6
     rintro _ rfl _ rfl
     have q186 := rot_b ye 11
     rintro _ rfl
     have q187 := xorI_b (a := (rot ye 6)) (b := (rot ye 11)) o% o%
     rintro _ rfl _ rfl
     have q188 := rot_b ye 25
     rintro _ rfl
     have q189 := xorI_b (a := (xorI (rot ye 6) (rot ye 11))) (b := (rot ye 25)) o% o%
     rintro _ _ _ _ _ _ _ _ _ _
     w%
     refine ar (yz + (xorI (xorI (rot ye 6) (rot ye 11)) (rot ye 25))) wN ?_
     f1%
    ·intro _ w7 k190 _
     m% m191 m105 k190
     rintro _ _ _ _ _ _ _ _ _ _ _ _ _ _ _ _ _ _ _
     w%
     mv% (vi (xorI (andI ye yf) (andI (xorI 4294967295 ye) yg)))
     f1%
    ·intro _ w7 k192 _
     m% m193 m105 k192
     rintro _ rfl _ rfl _ rfl
     have q194 := rot_b ye 6
     rintro _ rfl _ rfl
     have q195 := rot_b ye 11
     rintro _ rfl
     have q196 := xorI_b (a := (rot ye 6)) (b := (rot ye 11)) o% o%
     rintro _ rfl _ rfl
     have q197 := rot_b ye 25
     rintro _ rfl
     have q198 := xorI_b (a := (xorI (rot ye 6) (rot ye 11))) (b := (rot ye 25)) o% o%
     rintro _ rfl _ rfl _ _ _ _ _ _ _ _
     w%
     refine ar ((yz + (xorI (xorI (rot ye 6) (rot ye 11)) (rot ye 25))) + (xorI (andI ye yf) (andI (xorI 4294967295 ye) yg))) wN ?_
     f1%
    ·intro _ w7 k199 _
     m% m200 m105 k199
     rintro _ _ _ _ _ _ _ _ _ _ _ _ _ _ _ _ _ _ _
     w%
     mv% (vi ((k : Nat) : Int))
     f1%
    ·intro _ w7 k201 _
     m% m202 m105 k201
     rintro _ _ rfl _ rfl
     have q203 := rot_b ye 6
     rintro _ rfl _ rfl
     have q204 := rot_b ye 11
     rintro _ _ rfl _ rfl
     have q205 := rot_b ye 25
     rintro _ _ _ _ _ rfl _ _ _ _ _ _
     w%
     cl% (C_impl_RoundWord w7 ((k : Nat) : Int))
     rintro _ w8 ⟨k206, rfl⟩
     m% m207 m202 k206
     have q208 := rw64_b ((k : Nat) : Int)
     exact wl_finT k206 rfl
    ·intro _ w7 k209 _
     m% m210 m105 k209
     rintro _ rfl _ rfl _ rfl
     have q211 := rot_b ye 6
     rintro _ rfl _ rfl
     have q212 := rot_b ye 11
     rintro _ rfl
     have q213 := xorI_b (a := (rot ye 6)) (b := (rot ye 11)) o% o%
     rintro _ rfl _ rfl
     have q214 := rot_b ye 25
     rintro _ rfl
     have q215 := xorI_b (a := (xorI (rot ye 6) (rot ye 11))) (b := (rot ye 25)) o% o%
     rintro _ rfl _ rfl _ rfl _ rfl _ rfl
     have q216 := rw64_b ((k : Nat) : Int)
     rintro _ _ _ _ _
     w%
     refine ar (((yz + (xorI (xorI (rot ye 6) (rot ye 11)) (rot ye 25))) + (xorI (andI ye yf) (andI (xorI 4294967295 ye) yg))) + (rw64 ((k : Nat) : Int))) wN ?_
     f1%
    ·intro _ w7 k217 _
     m% m218 m105 k217
     rintro _ _ _ _ _ _ _ _ _ _ _ _ _ _ _ _ _ _ _
     w%
     mv% (vs a32 (schedP x_block).length c33)
     f1%
    ·intro _ w7 k219 _
     m% m220 m105 k219
     rintro _ _ _ _ _ _ _ _ _ _ _ _ _ _ _ _ _ _ _
     w%
     mv% (vi ((k : Nat) : Int))
     f1%
    ·intro _ w7 k221 _
     m% m222 m105 k221
     rintro _ _ _ _ _ _ _ _ _ _ _ _ _ _ _ _ rfl _ rfl _ _
     w%
     have o223 := (own_kp (own_ch (own_kp o34 k102) k106 (fun g hg hlt hk => by have h1 := (own_lt o34 g hg).2; have h2 : w4.heap.size ≤ w5.heap.size := k102.size; have h3 : w5.heap.size ≤ g := hk; omega)) k221)
     refine wl_index (v := (vs a32 (schedP x_block).length c33)) wN ((k : Nat) : Int) rfl rfl rfl slTy_32 rfl rfl (Rd.of_own o223) oB% oB% ?_
     f1%
    ·intro _ w7 k224 _
     m% m225 m105 k224
     rintro _ _ _ _ _ _ _ _ _ _ _ _ _ _ _ _ rfl _ rfl _ rfl _
     w%
     have o227 := (own_kp (own_ch (own_kp o34 k102) k106 (fun g hg hlt hk => by have h1 := (own_lt o34 g hg).2; have h2 : w4.heap.size ≤ w5.heap.size := k102.size; have h3 : w5.heap.size ≤ g := hk; omega)) k224)
     refine wl_loadE (iV zw) wN rfl rfl rfl rfl isAgg_3 (Rd.of_own o227) (by rw [← hzw]; exact iget (by simp) oB%) ?_
     f1%
   ·intro _ w7 k228
    m% m229 m105 k228
    rintro _ rfl _ rfl _ rfl
    have q230 := rot_b ye 6
    rintro _ rfl _ rfl
    have q231 := rot_b ye 11
    rintro _ rfl
    have q232 := xorI_b (a := (rot ye 6)) (b := (rot ye 11)) o% o%
    rintro _ rfl _ rfl
    have q233 := rot_b ye 25
    rintro _ rfl
    have q234 := xorI_b (a := (xorI (rot ye 6) (rot ye 11))) (b := (rot ye 25)) o% o%
    rintro _ rfl _ rfl _ rfl _ rfl _ rfl
    have q235 := rw64_b ((k : Nat) : Int)
    rintro _ rfl _ rfl _ rfl _ rfl _ rfl
    w%
    refine ar ((((yz + (xorI (xorI (rot ye 6) (rot ye 11)) (rot ye 25))) + (xorI (andI ye yf) (andI (xorI 4294967295 ye) yg))) + (rw64 ((k : Nat) : Int))) + zw) wN ?_
    ag% (vi ((((yz + (xorI (xorI (rot ye 6) (rot ye 11)) (rot ye 25))) + (xorI (andI ye yf) (andI (xorI 4294967295 ye) yg))) + (rw64 ((k : Nat) : Int))) + zw))
    nx%
    mv% (vi ya)
    cl% (C_impl_Rot w7 ya 2 o% o%)
    rintro _ w8 ⟨k238, rfl⟩
    m% m239 m229 k238
    have q240 := rot_b ya 2
    mv% (vi ya)
    cl% (C_impl_Rot w8 ya 13 o% o%)
    rintro _ w9 ⟨k241, rfl⟩
    m% m242 m239 k241
    have q243 := rot_b ya 13
    refine wl_xor (rot ya 2) (rot ya 13) wN rfl rfl k% o% o% o% o% ?_
    have q244 := xorI_b (a := (rot ya 2)) (b := (rot ya 13)) o% o%
    mv% (vi ya)
    cl% (C_impl_Rot w9 ya 22 o% o%)
    rintro _ w10 ⟨k245, rfl⟩
    m% m246 m242 k245
    have q247 := rot_b ya 22
    refine wl_xor (xorI (rot ya 2) (rot ya 13)) (rot ya 22) wN rfl rfl k% o% o% o% o% ?_
    have q248 := xorI_b (a := (xorI (rot ya 2) (rot ya 13))) (b := (rot ya 22)) o% o%
    mv% (vi (xorI (xorI (andI ya yb) (andI ya yc)) (andI yb yc)))
    refine ar ((xorI (xorI (rot ya 2) (rot ya 13)) (rot ya 22)) + (xorI (xorI (andI ya yb) (andI ya yc)) (andI yb yc))) wN ?_
    ag% (vi ((xorI (xorI (rot ya 2) (rot ya 13)) (rot ya 22)) + (xorI (xorI (andI ya yb) (andI ya yc)) (andI yb yc))))
    nx%
    mv% (vi yg)
    mv% (vi yf)
    mv% (vi ye)
    mv% (vi yd)
    mv% (vi ((((yz + (xorI (xorI (rot ye 6) (rot ye 11)) (rot ye 25))) + (xorI (andI ye yf) (andI (xorI 4294967295 ye) yg))) + (rw64 ((k : Nat) : Int))) + zw))
    cl% (C_impl_Add32 w10 yd ((((yz + (xorI (xorI (rot ye 6) (rot ye 11)) (rot ye 25))) + (xorI (andI ye yf) (andI (xorI 4294967295 ye) yg))) + (rw64 ((k : Nat) : Int))) + zw) o% o% o% o%)
    rintro _ w11 ⟨k249, rfl⟩
    m% m250 m246 k249
    ag% (vi yg)
    ag% (vi yf)
    ag% (vi ye)
    ag% (vi (F_impl_Add32 yd ((((yz + (xorI (xorI (rot ye 6) (rot ye 11)) (rot ye 25))) + (xorI (andI ye yf) (andI (xorI 4294967295 ye) yg))) + (rw64 ((k : Nat) : Int))) + zw)))
    refine wl_nil <| wq_then <| wc_region ?_
    mv% (vi yc)
    mv% (vi yb)
    mv% (vi ya)
    mv% (vi ((((yz + (xorI (xorI (rot ye 6) (rot ye 11)) (rot ye 25))) + (xorI (andI ye yf) (andI (xorI 4294967295 ye) yg))) + (rw64 ((k : Nat) : Int))) + zw))
    mv% (vi ((xorI (xorI (rot ya 2) (rot ya 13)) (rot ya 22)) + (xorI (xorI (andI ya yb) (andI ya yc)) (andI yb yc))))
    cl% (C_impl_Add32 w11 ((((yz + (xorI (xorI (rot ye 6) (rot ye 11)) (rot ye 25))) + (xorI (andI ye yf) (andI (xorI 4294967295 ye) yg))) + (rw64 ((k : Nat) : Int))) + zw) ((xorI (xorI (rot ya 2) (rot ya 13)) (rot ya 22)) + (xorI (xorI (andI ya yb) (andI ya yc)) (andI yb yc))) o% o% o% o%)
    rintro _ w12 ⟨k251, rfl⟩
    m% m252 m250 k251
    ag% (vi yc)
    ag% (vi yb)
    ag% (vi ya)
    ag% (vi (F_impl_Add32 ((((yz + (xorI (xorI (rot ye 6) (rot ye 11)) (rot ye 25))) + (xorI (andI ye yf) (andI (xorI 4294967295 ye) yg))) + (rw64 ((k : Nat) : Int))) + zw) ((xorI (xorI (rot ya 2) (rot ya 13)) (rot ya 22)) + (xorI (xorI (andI ya yb) (andI ya yc)) (andI yb yc)))))
    refine wl_nil <| wq_blk_normal <| wq_then <| wc_region ?_
    mv% (vi ((k : Nat) : Int))
    refine ar (((k : Nat) : Int) + 1) wN ?_
    ag% (vi (((k : Nat) : Int) + 1))
    refine wl_nil ?_
    refine wq_loopQ (w0 := w6) (fun e => [(vs a1 x_h.length c2), e 1, e 2, e 3, (vs none 0 0), (vs a20 x_h.length c21), (vs a32 (schedP x_block).length c33), (vi ((cmpN (schedP x_block) (s8of x_h) (k + 1)).a)), (vi ((cmpN (schedP x_block) (s8of x_h) (k + 1)).b)), (vi ((cmpN (schedP x_block) (s8of x_h) (k + 1)).c)), (vi ((cmpN (schedP x_block) (s8of x_h) (k + 1)).d)), (vi ((cmpN (schedP x_block) (s8of x_h) (k + 1)).e)), (vi ((cmpN (schedP x_block) (s8of x_h) (k + 1)).f)), (vi ((cmpN (schedP x_block) (s8of x_h) (k + 1)).g)), (vi ((cmpN (schedP x_block) (s8of x_h) (k + 1)).z)), (vi (((k + 1) : Nat) : Int)), e 16, e 17, e 18, e 19, U, U, e 22, e 23, e 24, e 25, e 26, e 27, e 28, e 29, e 30, e 31, e 32, e 33, e 34, e 35, e 36, e 37, e 38, e 39, e 40, e 41, e 42, e 43, e 44, e 45, e 46, e 47, e 48, e 49, e 50, e 51, e 52, e 53, e 54, e 55, e 56, e 57, e 58, e 59, e 60, e 61, e 62, e 63, e 64, e 65, e 66, e 67, e 68, e 69, e 70, e 71, e 72, e 73, e 74, e 75, e 76, e 77, e 78, e 79, e 80, e 81, e 82, e 83, e 84, e 85, e 86, e 87, e 88, e 89, e 90, e 91, e 92, e 93, e 94, e 95, e 96, e 97, e 98, e 99, e 100, e 101, e 102, e 103, e 104, e 105, e 106, e 107, e 108, e 109, e 110, e 111, e 112, e 113, e 114, e 115, e 116, e 117, e 118, e 119, e 120, e 121, e 122, e 123, e 124, U, U, U, U, U, U, U, U, U, U, U, U, U, U, U, U, U, U, U, U, U, U, U, U, U, U]) rfl ?_ ?_ ?_
    · exact ⟨rfl, rfl, rfl, rfl, rfl, rfl, rfl, (congrArg (Value.int .i64) (show ((F_impl_Add32 ((((yz + (xorI (xorI (rot ye 6) (rot ye 11)) (rot ye 25))) + (xorI (andI ye yf) (andI (xorI 4294967295 ye) yg))) + (rw64 ((k : Nat) : Int))) + zw) ((xorI (xorI (rot ya 2) (rot ya 13)) (rot ya 22)) + (xorI (xorI (andI ya yb) (andI ya yc)) (andI yb yc)))) : Int) = (cmpN (schedP x_block) (s8of x_h) (k + 1)).a by subst hzw hzk hi_a hi_b hi_c hi_d hi_e hi_f hi_g hi_z; exact cmp_ia o% rfl)), (congrArg (Value.int .i64) (show (ya : Int) = (cmpN (schedP x_block) (s8of x_h) (k + 1)).b by rw [hi_a]; rfl)), (congrArg (Value.int .i64) (show (yb : Int) = (cmpN (schedP x_block) (s8of x_h) (k + 1)).c by rw [hi_b]; rfl)), (congrArg (Value.int .i64) (show (yc : Int) = (cmpN (schedP x_block) (s8of x_h) (k + 1)).d by rw [hi_c]; rfl)), (congrArg (Value.int .i64) (show ((F_impl_Add32 yd ((((yz + (xorI (xorI (rot ye 6) (rot ye 11)) (rot ye 25))) + (xorI (andI ye yf) (andI (xorI 4294967295 ye) yg))) + (rw64 ((k : Nat) : Int))) + zw)) : Int) = (cmpN (schedP x_block) (s8of x_h) (k + 1)).e by subst hzw hzk hi_a hi_b hi_c hi_d hi_e hi_f hi_g hi_z; exact cmp_ie o% rfl)), (congrArg (Value.int .i64) (show (ye : Int) = (cmpN (schedP x_block) (s8of x_h) (k + 1)).f by rw [hi_e]; rfl)), (congrArg (Value.int .i64) (show (yf : Int) = (cmpN (schedP x_block) (s8of x_h) (k + 1)).g by rw [hi_f]; rfl)), (congrArg (Value.int .i64) (show (yg : Int) = (cmpN (schedP x_block) (s8of x_h) (k + 1)).z by rw [hi_g]; rfl)), (congrArg (Value.int .i64) (show ((((k : Nat) : Int) + 1) : Int) = (((k + 1) : Nat) : Int) by omega)), rfl, rfl, rfl, rfl, rfl, rfl, rfl, rfl, rfl, rfl, rfl, rfl, rfl, rfl, rfl, rfl, rfl, rfl, rfl, rfl, rfl, rfl, rfl, rfl, rfl, rfl, rfl, rfl, rfl, rfl, rfl, rfl, rfl, rfl, rfl, rfl, rfl, rfl, rfl, rfl, rfl, rfl, rfl, rfl, rfl, rfl, rfl, rfl, rfl, rfl, rfl, rfl, rfl, rfl, rfl, rfl, rfl, rfl, rfl, rfl, rfl, rfl, rfl, rfl, rfl, rfl, rfl, rfl, rfl, rfl, rfl, rfl, rfl, rfl, rfl, rfl, rfl, rfl, rfl, rfl, rfl, rfl, rfl, rfl, rfl, rfl, rfl, rfl, rfl, rfl, rfl, rfl, rfl, rfl, rfl, rfl, rfl, rfl, rfl, rfl, rfl, rfl, rfl, rfl, rfl, rfl, rfl, rfl, rfl, rfl, rfl, rfl, rfl, rfl, rfl, rfl, rfl, rfl, rfl, rfl, rfl, rfl, rfl, rfl, rfl, rfl, rfl, rfl, rfl, rfl, rfl, rfl, rfl, rfl, rfl, trivial⟩
    · exact fun u => ⟨(k + 1), (cmpN (schedP x_block) (s8of x_h) (k + 1)).a, (cmpN (schedP x_block) (s8of x_h) (k + 1)).b, (cmpN (schedP x_block) (s8of x_h) (k + 1)).c, (cmpN (schedP x_block) (s8of x_h) (k + 1)).d, (cmpN (schedP x_block) (s8of x_h) (k + 1)).e, (cmpN (schedP x_block) (s8of x_h) (k + 1)).f, (cmpN (schedP x_block) (s8of x_h) (k + 1)).g, (cmpN (schedP x_block) (s8of x_h) (k + 1)).z, (unL [u 1, u 2, u 3, u 16, u 17, u 18, u 19, u 22, u 23, u 24, u 25, u 26, u 27, u 28, u 29, u 30, u 31, u 32, u 33, u 34, u 35, u 36, u 37, u 38, u 39, u 40, u 41, u 42, u 43, u 44, u 45, u 46, u 47, u 48, u 49, u 50, u 51, u 52, u 53, u 54, u 55, u 56, u 57, u 58, u 59, u 60, u 61, u 62, u 63, u 64, u 65, u 66, u 67, u 68, u 69, u 70, u 71, u 72, u 73, u 74, u 75, u 76, u 77, u 78, u 79, u 80, u 81, u 82, u 83, u 84, u 85, u 86, u 87, u 88, u 89, u 90, u 91, u 92, u 93, u 94, u 95, u 96, u 97, u 98, u 99, u 100, u 101, u 102, u 103, u 104, u 105, u 106, u 107, u 108, u 109, u 110, u 111, u 112, u 113, u 114, u 115, u 116, u 117, u 118, u 119, u 120, u 121, u 122, u 123, u 124]), rfl, m252, ((((((((Ch.refl (fun k => w5.heap.size ≤ k) w5).ext k106 (fun k hk => Nat.le_trans (Nat.le_refl w5.heap.size) hk)).extk k228).extk k238).extk k241).extk k245).extk k249).extk k251), o%, (by first | rfl | assumption), (by first | rfl | assumption), (by first | rfl | assumption), (by first | rfl | assumption), (by first | rfl | assumption), (by first | rfl | assumption), (by first | rfl | assumption), (by first | rfl | assumption)⟩
    · show (64 - (((k + 1) : Nat) : Int)).toNat < (64 - ((k : Nat) : Int)).toNat; omega

def R_32_22 (w : World) (v : Value) (x : (List Int) × (List UInt8)) : Prop := ∃ (a1 : Option Addr) (c1 : Nat) (a2 : Option Addr) (c2 : Nat), v = .tuple #[.slice a1 x.1.length c1, .slice a2 x.2.length c2] ∧ Rd w 1 (.slice a1 x.1.length c1) x.1.length (x.1.map iV) ∧ x.1.length ≤ 1073741824 ∧ Rd w 1 (.slice a2 x.2.length c2) x.2.length (x.2.map bV) ∧ x.2.length ≤ 1073741824
theorem C_impl_compressAll (w0 : World) (v_x_h : Value) (x_h : List Int) (r_x_h : R_32 w0 v_x_h x_h) (v_x_b : Value) (x_b : List UInt8) (r_x_b : R_22 w0 v_x_b x_b)  : Fn Try.prog 165 #[v_x_h, v_x_b] w0 (fun v w' => Keep w0 w' ∧ R_32_22 w' v (compAll x_h x_b)) := by
 obtain ⟨a1, c2, rfl, r3, s4⟩ := r_x_h
 obtain ⟨a6, c7, rfl, r8, s9⟩ := r_x_b
 refine fn_of (n := 17) (l := [(vs a1 x_h.length c2), (vs a6 x_b.length c7), U, U, U, U, U, U, U, U, U, U, U, U, U, U, U]) Try.func165 rfl rfl k% rfl ?_
 sr%
 ag% (vs none 0 0)
 ag% (vs none 0 0)
 refine wl_nil <| wq_then <| wc_seq <| wc_block ?_
 have hE12 : (x_h : List Int) = foldK x_h x_b 0 := by rfl
 have hE13 : (x_b : List UInt8) = x_b.drop (64 * 0) := by rfl
 refine wc_loopQ (fun e => [(.slice a1 (foldK x_h x_b 0).length c2), (.slice a6 (x_b.drop (64 * 0)).length c7), e 2, e 3, (vs none 0 0), (vs none 0 0), e 6, e 7, e 8, e 9, e 10, e 11, e 12, e 13, e 14, U, U]) rfl ⟨(congrArg (fun l : List Int => Value.slice a1 l.length c2) hE12), (congrArg (fun l : List UInt8 => Value.slice a6 l.length c7) hE13), rfl, rfl, rfl, rfl, rfl, rfl, rfl, rfl, rfl, rfl, rfl, rfl, rfl, rfl, rfl, trivial⟩ (fun e' w' => ∃ (k : Nat) (u11 : Nat → Value) (a0x : Option Addr) (c0x : Nat) (a1x : Option Addr) (c1x : Nat), e' = lst [(.slice a0x (foldK x_h x_b k).length c0x), (.slice a1x (x_b.drop (64 * k)).length c1x), (u11 0), (u11 1), (vs none 0 0), (vs none 0 0), (u11 2), (u11 3), (u11 4), (u11 5), (u11 6), (u11 7), (u11 8), (u11 9), (u11 10), U, U] ∧ Ch (fun k => w0.heap.size ≤ k) w0 w' ∧ Ch (fun k => w0.heap.size ≤ k) w0 w' ∧ 64 * k ≤ x_b.length ∧ (Rd w' 1 (.slice a0x (foldK x_h x_b k).length c0x) (foldK x_h x_b k).length ((foldK x_h x_b k).map iV) ∧ (foldK x_h x_b k).length ≤ 1073741824) ∧ (Rd w' 1 (.slice a1x (x_b.drop (64 * k)).length c1x) (x_b.drop (64 * k)).length ((x_b.drop (64 * k)).map bV) ∧ (x_b.drop (64 * k)).length ≤ 1073741824)) (fun e' _ => (lenOf (e' 1))) ?_ ?_
 ·exact fun u => ⟨0, (unL [u 2, u 3, u 6, u 7, u 8, u 9, u 10, u 11, u 12, u 13, u 14]), a1, c2, a6, c7, rfl, (Ch.base w0), (Ch.refl (fun k => w0.heap.size ≤ k) w0), o%, (hE12 ▸ ⟨r3, s4⟩), (hE13 ▸ ⟨r8, s9⟩)⟩
 ·rintro _ w1 ⟨k, u11, a0x, c0x, a1x, c1x, rfl, m14, k15, i16, ⟨o17, s18⟩, ⟨o19, s20⟩⟩
  have hdl : (x_b.drop (64 * k)).length = x_b.length - 64 * k := List.length_drop
  refine wc_seq <| sr ?_
  mv% (vs a1x (x_b.drop (64 * k)).length c1x)
  refine ln wN slTy_22 o19 ?_
  pu% (vb (decide (64 ≤ ((x_b.drop (64 * k)).length : Int))))
  n2%
  rcases bf (decide (64 ≤ ((x_b.drop (64 * k)).length : Int))) with h23 | h23
  ·df% q44 h23
   cf% h23
   refine wc_exit <| wq_then_exit <| wq_then_exit <| wq_blk_exit <| wq_then <| sr ?_
   mv% (vs a0x (foldK x_h x_b k).length c0x)
   mv% (vs a1x (x_b.drop (64 * k)).length c1x)
   ag% (vs a0x (foldK x_h x_b k).length c0x)
   ag% (vs a1x (x_b.drop (64 * k)).length c1x)
   n3%
   refine ret_2 (.inl rfl) (vs a0x (foldK x_h x_b k).length c0x) (vs a1x (x_b.drop (64 * k)).length c1x) rfl rfl rfl ?_
   kp% m14
   have hF45 : compAll x_h x_b = ((foldK x_h x_b k), (x_b.drop (64 * k))) := by exact compAll_t o% o%
   rw [hF45]
   exact ⟨_, _, _, _, rfl, o17, s18, o19, s20⟩
  dt% q24 h23
  ct% h23
  refine wc_skip <| wq_then <| wc_block <| sr ?_
  mv% (vs a0x (foldK x_h x_b k).length c0x)
  mv% (vs a1x (x_b.drop (64 * k)).length c1x)
  refine slv ((x_b.drop (64 * k)).take 64) 0 64 wN slTy_22 o19 oB% oB% (by first | rfl | (simp; done) | (rw [List.take_of_length_le (by first | (simp; done) | (simp; omega))])) rfl rfl rfl rfl (.inl ⟨rfl, rfl⟩) (.inr ⟨_, _, _, rfl, rfl, by omega⟩) ?_
  have q27 : 0 ≤ 64 := oB%
  have q28 : 64 ≤ (x_b.drop (64 * k)).length := oB%
  cl% (C_impl_Compress w1 _ (foldK x_h x_b k) (mR_32 o17 s18) _ ((x_b.drop (64 * k)).take 64) (mR_22 (Rd.subV (x' := ((x_b.drop (64 * k)).take 64)) o19 q27 q28 (by first | rfl | (simp; done) | (rw [List.take_of_length_le (by first | (simp; done) | (simp; omega))]))) (Nat.le_trans (by simp only [List.length_take, List.length_drop]; omega) s20)))
  rintro _ w2 ⟨k29, ⟨a30, c31, rfl, o32, s33, ap35⟩⟩
  m% m36 m14 k29
  ag% (vs a30 (compress (foldK x_h x_b k) ((x_b.drop (64 * k)).take 64)).length c31)
  refine wl_nil <| wq_then <| wc_region ?_
  mv% (vs a1x (x_b.drop (64 * k)).length c1x)
  have r38 := (o19.kp k29)
  refine slv ((x_b.drop (64 * k)).drop 64) 64 ((x_b.drop (64 * k)).length) wN slTy_22 r38 oB% oB% (by first | rfl | (simp; done) | (rw [List.take_of_length_le (by first | (simp; done) | (simp; omega))])) rfl rfl rfl rfl (.inr ⟨_, _, _, rfl, rfl, by omega⟩) (.inl ⟨rfl, rfl⟩) ?_
  have q40 : 64 ≤ ((x_b.drop (64 * k)).length) := oB%
  have q41 : ((x_b.drop (64 * k)).length) ≤ (x_b.drop (64 * k)).length := oB%
  ag% (vs (subA a1x c1x 64 1) ((x_b.drop (64 * k)).drop 64).length (c1x - 64))
  refine wl_nil <| wq_blk_normal ?_
  have hE42 : ((compress (foldK x_h x_b k) ((x_b.drop (64 * k)).take 64)) : List Int) = foldK x_h x_b (k + 1) := by rfl
  have hE43 : (((x_b.drop (64 * k)).drop 64) : List UInt8) = x_b.drop (64 * (k + 1)) := by rw [List.drop_drop]; congr 1
  refine wq_loopQ (w0 := w1) (fun e => [(.slice a30 (foldK x_h x_b (k + 1)).length c31), (.slice (subA a1x c1x 64 1) (x_b.drop (64 * (k + 1))).length (c1x - 64)), e 2, e 3, (vs none 0 0), (vs none 0 0), e 6, e 7, e 8, e 9, e 10, e 11, e 12, e 13, e 14, U, U]) rfl ?_ ?_ ?_
  · exact ⟨(congrArg (fun l : List Int => Value.slice a30 l.length c31) hE42), (congrArg (fun l : List UInt8 => Value.slice (subA a1x c1x 64 1) l.length (c1x - 64)) hE43), rfl, rfl, rfl, rfl, rfl, rfl, rfl, rfl, rfl, rfl, rfl, rfl, rfl, rfl, rfl, trivial⟩
  · exact fun u => ⟨(k + 1), (unL [u 2, u 3, u 6, u 7, u 8, u 9, u 10, u 11, u 12, u 13, u 14]), a30, c31, (subA a1x c1x 64 1), (c1x - 64), rfl, m36, (((Ch.refl (fun k => w0.heap.size ≤ k) w0).ext k15 (fun k hk => Nat.le_trans (Nat.le_refl w0.heap.size) hk)).extk k29), o%, (hE42 ▸ ⟨(Rd.of_own o32), s33⟩), (hE43 ▸ ⟨(Rd.subV (x' := ((x_b.drop (64 * k)).drop 64)) r38 q40 q41 (by first | rfl | (simp; done) | (rw [List.take_of_length_le (by first | (simp; done) | (simp; omega))]))), (Nat.le_trans (by simp only [List.length_take, List.length_drop]; omega) s20)⟩)⟩
  · show (x_b.drop (64 * (k + 1))).length < (x_b.drop (64 * k)).length; simp only [List.length_drop]; omega

theorem mR_132 {w : World} {x : PHash} {a1 : Option Addr} {c1 : Nat} {a2 : Option Addr} {c2 : Nat} (h1 : Rd w 1 (.slice a1 x.H.length c1) x.H.length (x.H.map iV)) (l1 : x.H.length ≤ 1073741824) (h2 : Rd w 1 (.slice a2 x.Held.length c2) x.Held.length (x.Held.map bV)) (l2 : x.Held.length ≤ 1073741824) : R_132 w (va (L_132 x a1 c1 a2 c2)) x := ⟨_, _, _, _, rfl, h1, l1, h2, l2⟩
theorem mR_40 {w : World} {x : List (List UInt8)} {a1 : Option Addr} {c1 : Nat} (h1 : RLv LT_22 w 1073741824 a1 x.length c1 x) (l1 : x.length ≤ 1073741824) : R_40 w (vs a1 x.length c1) x := ⟨_, _, rfl, h1, l1⟩
def F_impl_HashAdd (x_h : PHash) (x_b : List UInt8) : (PHash) := bif (F_impl_HashOk x_h) then (bif (decide ((1048576 - x_h.N) < (x_b.length : Int))) then (x_h) else ({ H := (compAll x_h.H (joinB [x_h.Held, x_b])).1, Held := (((compAll x_h.H (joinB [x_h.Held, x_b])).2)), N := (x_h.N + (x_b.length : Int)) : PHash })) else (x_h)
theorem C_impl_HashAdd (w0 : World) (v_x_h : Value) (x_h : PHash) (r_x_h : R_132 w0 v_x_h x_h) (v_x_b : Value) (x_b : List UInt8) (r_x_b : R_22 w0 v_x_b x_b)  : Fn Try.prog 157 #[v_x_h, v_x_b] w0 (fun v w' => Keep w0 w' ∧ O_132 w' w0.heap.size v (F_impl_HashAdd x_h x_b)) := by
 obtain ⟨a1, c2, a6, c7, rfl, r3, s4, r8, s9⟩ := r_x_h
 obtain ⟨a11, c12, rfl, r13, s14⟩ := r_x_b
 refine fn_of (n := 50) (l := [(va (L_132 x_h a1 c2 a6 c7)), (vs a11 x_b.length c12), U, U, U, U, U, U, U, U, U, U, U, U, U, U, U, U, U, U, U, U, U, U, U, U, U, U, U, U, U, U, U, U, U, U, U, U, U, U, U, U, U, U, U, U, U, U, U, U]) Try.func157 rfl rfl k% rfl ?_
 sr%
 refine bx (L_132 x_h a1 c2 a6 c7) wN ?_
 intro g16 w1 p17 p18 k19 b20
 have m21 := (Ch.base w0).extk k19
 refine al [(vs none 0 0), (vs none 0 0), (vi 0)] wN zero_132 ?_
 intro g22 w2 p23 p24 k25 b26
 m% m27 m21 k25
 n4%
 have b28 := (b20.kp k25)
 refine lN (L_132 x_h a1 c2 a6 c7) wN isAgg_132 sizeOf_132 b28 ?_
 cl% (C_impl_HashOk w2 _ x_h (mR_132 (r3.from0 m27) s4 (r8.from0 m27) s9))
 rintro _ w3 ⟨k29, rfl⟩
 m% m30 m27 k29
 pu% (vb (!(F_impl_HashOk x_h)))
 mv% (vb (!(F_impl_HashOk x_h)))
 rcases bf (F_impl_HashOk x_h) with h31 | h31
 ·sn% h31
  sn% h31
  sn% h31
  sn% h31
  sn% h31
  sn% h31
  refine pk (vb true) wN (congrArg not h31) ?_
  n2%
  ct% (Eq.refl true)
  refine wc_seq ?_
  refine wc_drawT ([(18, [], [], (fun _ v w => ∃ a0 : Addr, v = .slice (some a0) 0 0 ∧ w.ownsRow w3.heap.size 3 1 (.slice (some a0) 0 0) 0 [])), (19, [], [], (fun _ v _ => v = (vp g16 0))), (20, [], [1], (fun _ v _ => v = (vs a1 x_h.H.length c2))), (21, [], [0, 1, 2], (fun _ v w => ∃ (a1 : Option Addr) (c1 : Nat), v = .slice a1 x_h.H.length c1 ∧ w.ownsRow w3.heap.size 3 1 (.slice a1 x_h.H.length c1) x_h.H.length (x_h.H.map iV) ∧ x_h.H.length ≤ 1073741824 ∧ Aps [(a1, c1)])), (22, [], [], (fun _ v _ => v = (vp g16 1))), (23, [], [4], (fun _ v _ => v = (vs a6 x_h.Held.length c7))), (24, [21], [0, 1, 2, 3, 4, 5], (fun e v w => ∃ (a1 : Option Addr) (c1 : Nat), v = .slice a1 (x_h.Held).length c1 ∧ w.ownsRow (w3.heap.size) 5 1 (.slice a1 (x_h.Held).length c1) (x_h.Held).length ((x_h.Held).map bV) ∧ (x_h.Held).length ≤ 1073741824 ∧ Aps [(a1, c1)] ∧ Ap (sp (e 21)) (a1, c1))), (25, [], [], (fun _ v _ => v = (vp g16 2))), (26, [], [7], (fun _ v _ => v = (vi x_h.N)))] : GV) (fun _ w' => Keep w3 w') [] mixed rfl k% k% ?_ (fun _ _ h => h) (fun _ _ _ _ h _ k => h.trans k) trivial ?_ ?_ ?_
  ·exact ⟨(fun e v w w1 h hk => by obtain ⟨a0x, he, o0x⟩ := h; exact ⟨a0x, he, own_kp o0x hk⟩), t%, ⟨s%, t%, ⟨s%, t%, ⟨(fun e v w w1 h hk => by obtain ⟨a0x, c0x, he, o0x, l0x, hap⟩ := h; exact ⟨a0x, c0x, he, own_kp o0x hk, l0x, hap⟩), t%, ⟨s%, t%, ⟨s%, t%, ⟨(fun e v w w1 h hk => by obtain ⟨a0x, c0x, he, o0x, l0x, hap, hx⟩ := h; exact ⟨a0x, c0x, he, own_kp o0x hk, l0x, hap, hx⟩), (fun e1 e2 v w hx h => by have h21x := hx 21 (by simp); simp only [h21x] at h; exact h), ⟨s%, t%, ⟨s%, t%, trivial⟩⟩⟩⟩⟩⟩⟩⟩⟩
  ·exact trivial
  ·refine ⟨?_, ⟨?_, ⟨?_, ⟨?_, ⟨?_, ⟨?_, ⟨?_, ⟨?_, ⟨?_, trivial⟩⟩⟩⟩⟩⟩⟩⟩⟩
   ·intro _ w4 k603 _
    m% m604 m30 k603
    rintro _ _ _ _ _ _ _ _ _
    w%
    refine wl_lit0 wN rfl rfl slTy_32 (fun w => by kernel_rfl) ?_
    intro a605 w5 k606 o607
    m% m608 m604 k606
    exact wl_finT k606 ⟨_, rfl, own_lo o607 k603.size⟩
   ·intro _ w4 k610 _
    m% m611 m30 k610
    rintro _ _ _ _ _ _ _ _ _
    w%
    pu% (vp g16 0)
    f1%
   ·intro _ w4 k612 _
    m% m613 m30 k612
    rintro _ _ rfl _ _ _ _ _ _ _
    w%
    have b614 := ((b28.kp k29).kp k612)
    refine ld (vs a1 x_h.H.length c2) wN isAgg_32 b614 ?_
    f1%
   ·intro _ w4 k615 _
    m% m616 m30 k615
    rintro _ ⟨a617, rfl, o619⟩ _ rfl _ rfl _ _ _ _ _ _
    w%
    refine wl_append0 wN rfl rfl rfl slTy_32 rfl rfl o619 (r3.from0 m616) (all_iV _) (by first | (simp only [List.length_append, List.length_cons, List.length_nil, List.length_replicate, List.length_take, List.length_drop]; omega) | omega) (by simp only [maxLen]; first | (simp only [List.length_append, List.length_cons, List.length_nil, List.length_replicate, List.length_take, List.length_drop]; omega) | omega) k615.size ?_
    intro u623 w5 k624 o625 j626
    obtain ⟨a627, c628, rfl⟩ := own_form o625
    have n629 : New w4 a627 c628 := j626 _ _ rfl
    m% m630 m616 k624
    exact wl_finT k624 ⟨_, _, rfl, o625, s4, ⟨trivial, trivial⟩⟩
   ·intro _ w4 k632 _
    m% m633 m30 k632
    rintro _ _ _ _ _ _ _ _ _
    w%
    pu% (vp g16 1)
    f1%
   ·intro _ w4 k634 _
    m% m635 m30 k634
    rintro _ _ _ _ _ rfl _ _ _ _
    w%
    have b636 := ((b28.kp k29).kp k634)
    refine ld (vs a6 x_h.Held.length c7) wN isAgg_22 b636 ?_
    f1%
   ·intro _ w4 k637 _
    m% m638 m30 k637
    rintro _ ⟨a639, rfl, o641⟩ _ rfl _ rfl _ ⟨a645, c646, rfl, o647, s648, -⟩ _ rfl _ rfl _ _ _
    w%
    cl% (C_impl_clone w4 _ x_h.Held (mR_22 (r8.from0 m638) s9))
    rintro _ w5 ⟨k651, ⟨a652, c653, rfl, o654, s655, ap657⟩⟩
    m% m658 m638 k651
    exact wl_finT k651 ⟨_, _, rfl, (own_lo o654 k637.size), s655, ap657, (Ap.lt o647 o654 (Nat.le_refl _))⟩
   ·intro _ w4 k659 _
    m% m660 m30 k659
    rintro _ _ _ _ _ _ _ _ _
    w%
    pu% (vp g16 2)
    f1%
   ·intro _ w4 k661 _
    m% m662 m30 k661
    rintro _ _ _ _ _ _ _ _ rfl _
    w%
    have b663 := ((b28.kp k29).kp k661)
    refine ld (vi x_h.N) wN isAgg_3 b663 ?_
    f1%
  ·intro _ w4 k664
   m% m665 m30 k664
   rintro _ ⟨a666, rfl, o668⟩ _ rfl _ rfl _ ⟨a672, c673, rfl, o674, s675, -⟩ _ rfl _ rfl _ ⟨a678, c679, rfl, o680, s681, ap683, hx684⟩ _ rfl _ rfl
   w%
   pu% (va (L_132 x_h a672 c673 a678 c679))
   have b686 := ((b26.kp k29).kp k664)
   sv% (L_132 x_h a672 c673 a678 c679) sizeOf_132 b686
   intro w5 k687 b688 z689
   have m690 := m665.ext k687 (fun k hk => by subst hk; exact Nat.le_trans k19.size p23)
   n1%
   have o691 := (own_ch o674 k687 (e1% o674 (Nat.lt_of_lt_of_le p24 k29.size)))
   have o692 := (own_ch o680 k687 (e1% o680 (Nat.lt_of_lt_of_le p24 k29.size)))
   refine ret_1 (.inl rfl) (va (L_132 x_h a672 c673 a678 c679)) rfl (rv_c [(vs a672 x_h.H.length c673), (vs a678 (x_h.Held).length c679), (vi x_h.N)] rfl b688 isAgg_132 sizeOf_132) ?_
   kp% m690
   have hF693 : F_impl_HashAdd x_h x_b = x_h := by simp only [F_impl_HashAdd, h31, cond_true, cond_false]
   rw [hF693]
   exact ⟨_, _, _, _, rfl, (own_lo o691 (z% k19 k25 k29)), s675, (own_lo o692 (z% k19 k25 k29)), s681, ⟨⟨hx684, trivial⟩, ⟨trivial, trivial⟩⟩⟩
 have q32 := hashOk_t h31
 refine mv (vs a11 x_b.length c12) (wS (congrArg not h31)) ?_
 refine ln (wS (congrArg not h31)) slTy_22 (r13.from0 m30) ?_
 refine pu (vp g16 2) (wS (congrArg not h31)) ?_
 have b33 := (b28.kp k29)
 refine ld (vi x_h.N) (wS (congrArg not h31)) isAgg_3 b33 ?_
 refine ar (1048576 - x_h.N) (wS (congrArg not h31)) ?_
 refine pu (vb (decide ((1048576 - x_h.N) < (x_b.length : Int)))) (wS (congrArg not h31)) ?_
 refine pf (vb (decide ((1048576 - x_h.N) < (x_b.length : Int)))) wN (congrArg not h31) ?_
 n2%
 rcases bt (decide ((1048576 - x_h.N) < (x_b.length : Int))) with h34 | h34
 ·dt% q35 h34
  ct% h34
  refine wc_seq ?_
  refine wc_drawT ([(18, [], [], (fun _ v w => ∃ a0 : Addr, v = .slice (some a0) 0 0 ∧ w.ownsRow w3.heap.size 3 1 (.slice (some a0) 0 0) 0 [])), (19, [], [], (fun _ v _ => v = (vp g16 0))), (20, [], [1], (fun _ v _ => v = (vs a1 x_h.H.length c2))), (21, [], [0, 1, 2], (fun _ v w => ∃ (a1 : Option Addr) (c1 : Nat), v = .slice a1 x_h.H.length c1 ∧ w.ownsRow w3.heap.size 3 1 (.slice a1 x_h.H.length c1) x_h.H.length (x_h.H.map iV) ∧ x_h.H.length ≤ 1073741824 ∧ Aps [(a1, c1)])), (22, [], [], (fun _ v _ => v = (vp g16 1))), (23, [], [4], (fun _ v _ => v = (vs a6 x_h.Held.length c7))), (24, [21], [0, 1, 2, 3, 4, 5], (fun e v w => ∃ (a1 : Option Addr) (c1 : Nat), v = .slice a1 (x_h.Held).length c1 ∧ w.ownsRow (w3.heap.size) 5 1 (.slice a1 (x_h.Held).length c1) (x_h.Held).length ((x_h.Held).map bV) ∧ (x_h.Held).length ≤ 1073741824 ∧ Aps [(a1, c1)] ∧ Ap (sp (e 21)) (a1, c1))), (25, [], [], (fun _ v _ => v = (vp g16 2))), (26, [], [7], (fun _ v _ => v = (vi x_h.N)))] : GV) (fun _ w' => Keep w3 w') [] mixed rfl k% k% ?_ (fun _ _ h => h) (fun _ _ _ _ h _ k => h.trans k) trivial ?_ ?_ ?_
  ·exact ⟨(fun e v w w1 h hk => by obtain ⟨a0x, he, o0x⟩ := h; exact ⟨a0x, he, own_kp o0x hk⟩), t%, ⟨s%, t%, ⟨s%, t%, ⟨(fun e v w w1 h hk => by obtain ⟨a0x, c0x, he, o0x, l0x, hap⟩ := h; exact ⟨a0x, c0x, he, own_kp o0x hk, l0x, hap⟩), t%, ⟨s%, t%, ⟨s%, t%, ⟨(fun e v w w1 h hk => by obtain ⟨a0x, c0x, he, o0x, l0x, hap, hx⟩ := h; exact ⟨a0x, c0x, he, own_kp o0x hk, l0x, hap, hx⟩), (fun e1 e2 v w hx h => by have h21x := hx 21 (by simp); simp only [h21x] at h; exact h), ⟨s%, t%, ⟨s%, t%, trivial⟩⟩⟩⟩⟩⟩⟩⟩⟩
  ·exact trivial
  ·refine ⟨?_, ⟨?_, ⟨?_, ⟨?_, ⟨?_, ⟨?_, ⟨?_, ⟨?_, ⟨?_, trivial⟩⟩⟩⟩⟩⟩⟩⟩⟩
   ·intro _ w4 k86 _
    m% m87 m30 k86
    rintro _ _ _ _ _ _ _ _ _
    w%
    refine wl_lit0 wN rfl rfl slTy_32 (fun w => by kernel_rfl) ?_
    intro a88 w5 k89 o90
    m% m91 m87 k89
    exact wl_finT k89 ⟨_, rfl, own_lo o90 k86.size⟩
   ·intro _ w4 k93 _
    m% m94 m30 k93
    rintro _ _ _ _ _ _ _ _ _
    w%
    pu% (vp g16 0)
    f1%
   ·intro _ w4 k95 _
    m% m96 m30 k95
    rintro _ _ rfl _ _ _ _ _ _ _
    w%
    have b97 := (b33.kp k95)
    refine ld (vs a1 x_h.H.length c2) wN isAgg_32 b97 ?_
    f1%
   ·intro _ w4 k98 _
    m% m99 m30 k98
    rintro _ ⟨a100, rfl, o102⟩ _ rfl _ rfl _ _ _ _ _ _
    w%
    refine wl_append0 wN rfl rfl rfl slTy_32 rfl rfl o102 (r3.from0 m99) (all_iV _) (by first | (simp only [List.length_append, List.length_cons, List.length_nil, List.length_replicate, List.length_take, List.length_drop]; omega) | omega) (by simp only [maxLen]; first | (simp only [List.length_append, List.length_cons, List.length_nil, List.length_replicate, List.length_take, List.length_drop]; omega) | omega) k98.size ?_
    intro u106 w5 k107 o108 j109
    obtain ⟨a110, c111, rfl⟩ := own_form o108
    have n112 : New w4 a110 c111 := j109 _ _ rfl
    m% m113 m99 k107
    exact wl_finT k107 ⟨_, _, rfl, o108, s4, ⟨trivial, trivial⟩⟩
   ·intro _ w4 k115 _
    m% m116 m30 k115
    rintro _ _ _ _ _ _ _ _ _
    w%
    pu% (vp g16 1)
    f1%
   ·intro _ w4 k117 _
    m% m118 m30 k117
    rintro _ _ _ _ _ rfl _ _ _ _
    w%
    have b119 := (b33.kp k117)
    refine ld (vs a6 x_h.Held.length c7) wN isAgg_22 b119 ?_
    f1%
   ·intro _ w4 k120 _
    m% m121 m30 k120
    rintro _ ⟨a122, rfl, o124⟩ _ rfl _ rfl _ ⟨a128, c129, rfl, o130, s131, -⟩ _ rfl _ rfl _ _ _
    w%
    cl% (C_impl_clone w4 _ x_h.Held (mR_22 (r8.from0 m121) s9))
    rintro _ w5 ⟨k134, ⟨a135, c136, rfl, o137, s138, ap140⟩⟩
    m% m141 m121 k134
    exact wl_finT k134 ⟨_, _, rfl, (own_lo o137 k120.size), s138, ap140, (Ap.lt o130 o137 (Nat.le_refl _))⟩
   ·intro _ w4 k142 _
    m% m143 m30 k142
    rintro _ _ _ _ _ _ _ _ _
    w%
    pu% (vp g16 2)
    f1%
   ·intro _ w4 k144 _
    m% m145 m30 k144
    rintro _ _ _ _ _ _ _ _ rfl _
    w%
    have b146 := (b33.kp k144)
    refine ld (vi x_h.N) wN isAgg_3 b146 ?_
    f1%
  ·intro _ w4 k147
   m% m148 m30 k147
   rintro _ ⟨a149, rfl, o151⟩ _ rfl _ rfl _ ⟨a155, c156, rfl, o157, s158, -⟩ _ rfl _ rfl _ ⟨a161, c162, rfl, o163, s164, ap166, hx167⟩ _ rfl _ rfl
   w%
   pu% (va (L_132 x_h a155 c156 a161 c162))
   have b169 := ((b26.kp k29).kp k147)
   sv% (L_132 x_h a155 c156 a161 c162) sizeOf_132 b169
   intro w5 k170 b171 z172
   have m173 := m148.ext k170 (fun k hk => by subst hk; exact Nat.le_trans k19.size p23)
   n1%
   have o174 := (own_ch o157 k170 (e1% o157 (Nat.lt_of_lt_of_le p24 k29.size)))
   have o175 := (own_ch o163 k170 (e1% o163 (Nat.lt_of_lt_of_le p24 k29.size)))
   refine ret_1 (.inl rfl) (va (L_132 x_h a155 c156 a161 c162)) rfl (rv_c [(vs a155 x_h.H.length c156), (vs a161 (x_h.Held).length c162), (vi x_h.N)] rfl b171 isAgg_132 sizeOf_132) ?_
   kp% m173
   have hF176 : F_impl_HashAdd x_h x_b = x_h := by simp only [F_impl_HashAdd, h31, h34, cond_true, cond_false]
   rw [hF176]
   exact ⟨_, _, _, _, rfl, (own_lo o174 (z% k19 k25 k29)), s158, (own_lo o175 (z% k19 k25 k29)), s164, ⟨⟨hx167, trivial⟩, ⟨trivial, trivial⟩⟩⟩
 df% q177 h34
 cf% h34
 refine wc_skip <| wq_then <| wc_seq ?_
 refine wc_draw ([(29, [], [], (fun _ v _ => v = (vp g16 0))), (30, [], [0], (fun _ v _ => v = (vs a1 x_h.H.length c2))), (31, [], [], (fun _ v _ => v = (vp g16 1))), (32, [], [2], (fun _ v _ => v = (vs a6 x_h.Held.length c7))), (33, [], [], (fun _ v _ => v = (vs a11 x_b.length c12))), (34, [], [2, 3, 4], (fun _ v w => ∃ (a1 : Option Addr) (c1 : Nat), v = .slice a1 2 c1 ∧ w.ownsRow w3.heap.size 22 1 (.slice a1 2 c1) 2 [(vs a6 x_h.Held.length c7), (vs a11 x_b.length c12)])), (35, [], [2, 3, 4, 5], (fun _ v w => ∃ (a1 : Option Addr) (c1 : Nat), v = .slice a1 (joinB [x_h.Held, x_b]).length c1 ∧ w.ownsRow (w3.heap.size) 5 1 (.slice a1 (joinB [x_h.Held, x_b]).length c1) (joinB [x_h.Held, x_b]).length ((joinB [x_h.Held, x_b]).map bV) ∧ (joinB [x_h.Held, x_b]).length ≤ 1073741824 ∧ Aps [(a1, c1)])), (36, [], [0, 1, 2, 3, 4, 5, 6], (fun _ v w => ∃ (a1 : Option Addr) (c1 : Nat) (a2 : Option Addr) (c2 : Nat), v = .tuple #[.slice a1 ((compAll x_h.H (joinB [x_h.Held, x_b])).1).length c1, .slice a2 ((compAll x_h.H (joinB [x_h.Held, x_b])).2).length c2] ∧ Rd w 1 (.slice a1 ((compAll x_h.H (joinB [x_h.Held, x_b])).1).length c1) ((compAll x_h.H (joinB [x_h.Held, x_b])).1).length (((compAll x_h.H (joinB [x_h.Held, x_b])).1).map iV) ∧ ((compAll x_h.H (joinB [x_h.Held, x_b])).1).length ≤ 1073741824 ∧ Rd w 1 (.slice a2 ((compAll x_h.H (joinB [x_h.Held, x_b])).2).length c2) ((compAll x_h.H (joinB [x_h.Held, x_b])).2).length (((compAll x_h.H (joinB [x_h.Held, x_b])).2).map bV) ∧ ((compAll x_h.H (joinB [x_h.Held, x_b])).2).length ≤ 1073741824)), (28, [36], [0, 1, 2, 3, 4, 5, 6, 7], (fun e v _ => v = (.tuple #[(tupAt (e 36) 0), (tupAt (e 36) 1)]))), (37, [36], [0, 1, 2, 3, 4, 5, 6, 7, 8], (fun e v _ => v = (tupAt (e 36) 0))), (38, [36], [0, 1, 2, 3, 4, 5, 6, 7, 8], (fun e v _ => v = (tupAt (e 36) 1))), (5, [36], [0, 1, 2, 3, 4, 5, 6, 7, 8, 9], (fun e v _ => v = (tupAt (e 36) 0)))] : GV) mixed rfl k% k% ?_ ?_ ?_
 ·exact ⟨s%, t%, ⟨s%, t%, ⟨s%, t%, ⟨s%, t%, ⟨s%, t%, ⟨(fun e v w w1 h hk => by obtain ⟨a0x, c0x, he, o0x⟩ := h; exact ⟨a0x, c0x, he, own_kp o0x hk⟩), t%, ⟨(fun e v w w1 h hk => by obtain ⟨a0x, c0x, he, o0x, l0x, hap⟩ := h; exact ⟨a0x, c0x, he, own_kp o0x hk, l0x, hap⟩), t%, ⟨(fun e v w w1 h hk => by obtain ⟨a0x, c0x, a1x, c1x, he, o0x, l0x, o1x, l1x⟩ := h; exact ⟨a0x, c0x, a1x, c1x, he, Rd.kp o0x hk, l0x, Rd.kp o1x hk, l1x⟩), t%, ⟨s%, (fun e1 e2 v w hx h => by have h36x := hx 36 (by simp); simp only [h36x] at h; exact h), ⟨s%, (fun e1 e2 v w hx h => by have h36x := hx 36 (by simp); simp only [h36x] at h; exact h), ⟨s%, (fun e1 e2 v w hx h => by have h36x := hx 36 (by simp); simp only [h36x] at h; exact h), ⟨s%, (fun e1 e2 v w hx h => by have h36x := hx 36 (by simp); simp only [h36x] at h; exact h), trivial⟩⟩⟩⟩⟩⟩⟩⟩⟩⟩⟩⟩
 ·refine ⟨?_, ⟨?_, ⟨?_, ⟨?_, ⟨?_, ⟨?_, ⟨?_, ⟨?_, ⟨?_, ⟨?_, ⟨?_, ⟨?_, trivial⟩⟩⟩⟩⟩⟩⟩⟩⟩⟩⟩⟩
  ·intro w4 k228
   m% m229 m30 k228
   rintro _ _ _ _ _ _ _ _ _ _ _ _
   w%
   pu% (vp g16 0)
   f2%
  ·intro w4 k230
   m% m231 m30 k230
   rintro _ rfl _ _ _ _ _ _ _ _ _ _ _
   w%
   have b232 := (b33.kp k230)
   refine ld (vs a1 x_h.H.length c2) wN isAgg_32 b232 ?_
   f2%
  ·intro w4 k233
   m% m234 m30 k233
   rintro _ _ _ _ _ _ _ _ _ _ _ _
   w%
   pu% (vp g16 1)
   f2%
  ·intro w4 k235
   m% m236 m30 k235
   rintro _ _ _ rfl _ _ _ _ _ _ _ _ _
   w%
   have b237 := (b33.kp k235)
   refine ld (vs a6 x_h.Held.length c7) wN isAgg_22 b237 ?_
   f2%
  ·intro w4 k238
   m% m239 m30 k238
   rintro _ _ _ _ _ _ _ _ _ _ _ _
   w%
   mv% (vs a11 x_b.length c12)
   f2%
  ·intro w4 k240
   m% m241 m30 k240
   rintro _ _ _ rfl _ rfl _ rfl _ _ _ _ _ _ _
   w%
   refine wl_lit [(vs a6 x_h.Held.length c7), (vs a11 x_b.length c12)] wN rfl rfl slTy_40 (m := 2) rfl (by simp only [maxLen]; omega) (fun w => by kernel_rfl) ?_
   intro u243 w5 k244 o245
   obtain ⟨a246, c247, rfl⟩ := own_form o245
   m% m248 m241 k244
   exact wl_fin k244 ⟨_, _, rfl, own_lo o245 k240.size⟩
  ·intro w4 k250
   m% m251 m30 k250
   rintro _ _ _ rfl _ rfl _ rfl _ ⟨a253, c254, rfl, o255⟩ _ _ _ _ _ _
   w%
   cl% (C_impl_joined w4 _ [x_h.Held, x_b] (mR_40 (RLv.mk (L := LT_22) [(x_h.Held, [(a6, c7)]), (x_b, [(a11, c12)])] (Rd.of_own o255) rfl ⟨⟨⟨(r8.from0 m251), s9⟩, trivial⟩, ⟨⟨⟨(r13.from0 m251), s14⟩, trivial⟩, trivial⟩⟩ (by first | decide | exact Nat.le_of_ble_eq_true rfl)) (by first | decide | exact Nat.le_of_ble_eq_true rfl)) (by first | omega | (rw [joinB_l2]; omega) | (rw [joinB_l2]; simp only [List.length_cons, List.length_nil, maskB_len]; omega) | (rw [joinB_l3]; simp only [List.length_cons, List.length_nil, maskB_len]; omega) | (simp only [joinB, List.flatten_cons, List.flatten_nil, List.length_append, List.length_nil, maskB_len]; omega)))
   rintro _ w5 ⟨k257, ⟨a258, c259, rfl, o260, s261, ap263⟩⟩
   m% m264 m251 k257
   exact wl_fin k257 ⟨_, _, rfl, (own_lo o260 k250.size), s261, ap263⟩
  ·intro w4 k265
   m% m266 m30 k265
   rintro _ rfl _ rfl _ rfl _ rfl _ rfl _ ⟨a269, c270, rfl, o271⟩ _ ⟨a273, c274, rfl, o275, s276, ap278⟩ _ _ _ _ _
   w%
   cl% (C_impl_compressAll w4 _ x_h.H (mR_32 (r3.from0 m266) s4) _ (joinB [x_h.Held, x_b]) (mR_22 (Rd.of_own o275) s276))
   rintro _ w5 ⟨k279, ⟨a280, c281, a285, c286, rfl, o282, s283, o287, s288⟩⟩
   m% m290 m266 k279
   exact wl_fin k279 ⟨_, _, _, _, rfl, o282, s283, o287, s288⟩
  ·intro w4 k291
   m% m292 m30 k291
   rintro _ rfl _ rfl _ rfl _ rfl _ rfl _ ⟨a295, c296, rfl, o297⟩ _ ⟨a299, c300, rfl, o301, s302, ap304⟩ _ ⟨a305, c306, a310, c311, rfl, o307, s308, o312, s313⟩ _ _ _ _
   w%
   mv% (.tuple #[(vs a305 ((compAll x_h.H (joinB [x_h.Held, x_b])).1).length c306), (vs a310 ((compAll x_h.H (joinB [x_h.Held, x_b])).2).length c311)])
   f2%
  ·intro w4 k315
   m% m316 m30 k315
   rintro _ rfl _ rfl _ rfl _ rfl _ rfl _ ⟨a319, c320, rfl, o321⟩ _ ⟨a323, c324, rfl, o325, s326, ap328⟩ _ ⟨a329, c330, a334, c335, rfl, o331, s332, o336, s337⟩ _ rfl _ _ _
   w%
   pu% (vs a329 ((compAll x_h.H (joinB [x_h.Held, x_b])).1).length c330)
   f2%
  ·intro w4 k339
   m% m340 m30 k339
   rintro _ rfl _ rfl _ rfl _ rfl _ rfl _ ⟨a343, c344, rfl, o345⟩ _ ⟨a347, c348, rfl, o349, s350, ap352⟩ _ ⟨a353, c354, a358, c359, rfl, o355, s356, o360, s361⟩ _ rfl _ _ _
   w%
   pu% (vs a358 ((compAll x_h.H (joinB [x_h.Held, x_b])).2).length c359)
   f2%
  ·intro w4 k363
   m% m364 m30 k363
   rintro _ rfl _ rfl _ rfl _ rfl _ rfl _ ⟨a367, c368, rfl, o369⟩ _ ⟨a371, c372, rfl, o373, s374, ap376⟩ _ ⟨a377, c378, a382, c383, rfl, o379, s380, o384, s385⟩ _ rfl _ rfl _ _
   w%
   ag% (vs a377 ((compAll x_h.H (joinB [x_h.Held, x_b])).1).length c378)
   f2%
 ·intro w4 k387
  m% m388 m30 k387
  rintro _ rfl _ rfl _ rfl _ rfl _ rfl _ ⟨a391, c392, rfl, o393⟩ _ ⟨a395, c396, rfl, o397, s398, ap400⟩ _ ⟨a401, c402, a406, c407, rfl, o403, s404, o408, s409⟩ _ rfl _ rfl _ rfl _ rfl
  w%
  ag% (vs a406 ((compAll x_h.H (joinB [x_h.Held, x_b])).2).length c407)
  refine wl_nil <| wq_then <| wc_seq ?_
  refine wc_drawT ([(39, [], [], (fun _ v w => ∃ a0 : Addr, v = .slice (some a0) 0 0 ∧ w.ownsRow w4.heap.size 3 1 (.slice (some a0) 0 0) 0 [])), (40, [], [], (fun _ v _ => v = (vs a401 ((compAll x_h.H (joinB [x_h.Held, x_b])).1).length c402))), (41, [], [0, 1], (fun _ v w => ∃ (a1 : Option Addr) (c1 : Nat), v = .slice a1 ((compAll x_h.H (joinB [x_h.Held, x_b])).1).length c1 ∧ w.ownsRow w4.heap.size 3 1 (.slice a1 ((compAll x_h.H (joinB [x_h.Held, x_b])).1).length c1) ((compAll x_h.H (joinB [x_h.Held, x_b])).1).length (((compAll x_h.H (joinB [x_h.Held, x_b])).1).map iV) ∧ ((compAll x_h.H (joinB [x_h.Held, x_b])).1).length ≤ 1073741824 ∧ Aps [(a1, c1)])), (42, [], [], (fun _ v _ => v = (vs a406 ((compAll x_h.H (joinB [x_h.Held, x_b])).2).length c407))), (43, [41], [0, 1, 2, 3], (fun e v w => ∃ (a1 : Option Addr) (c1 : Nat), v = .slice a1 (((compAll x_h.H (joinB [x_h.Held, x_b])).2)).length c1 ∧ w.ownsRow (w4.heap.size) 5 1 (.slice a1 (((compAll x_h.H (joinB [x_h.Held, x_b])).2)).length c1) (((compAll x_h.H (joinB [x_h.Held, x_b])).2)).length ((((compAll x_h.H (joinB [x_h.Held, x_b])).2)).map bV) ∧ (((compAll x_h.H (joinB [x_h.Held, x_b])).2)).length ≤ 1073741824 ∧ Aps [(a1, c1)] ∧ Ap (sp (e 41)) (a1, c1))), (44, [], [], (fun _ v _ => v = (vp g16 2))), (45, [], [5], (fun _ v _ => v = (vi x_h.N))), (46, [], [], (fun _ v _ => v = (vs a11 x_b.length c12))), (47, [], [7], (fun _ v _ => v = (vi (x_b.length : Int)))), (48, [], [5, 6, 7, 8], (fun _ v _ => v = (vi (x_h.N + (x_b.length : Int)))))] : GV) (fun _ w' => Keep w4 w') [] mixed rfl k% k% ?_ (fun _ _ h => h) (fun _ _ _ _ h _ k => h.trans k) trivial ?_ ?_ ?_
  ·exact ⟨(fun e v w w1 h hk => by obtain ⟨a0x, he, o0x⟩ := h; exact ⟨a0x, he, own_kp o0x hk⟩), t%, ⟨s%, t%, ⟨(fun e v w w1 h hk => by obtain ⟨a0x, c0x, he, o0x, l0x, hap⟩ := h; exact ⟨a0x, c0x, he, own_kp o0x hk, l0x, hap⟩), t%, ⟨s%, t%, ⟨(fun e v w w1 h hk => by obtain ⟨a0x, c0x, he, o0x, l0x, hap, hx⟩ := h; exact ⟨a0x, c0x, he, own_kp o0x hk, l0x, hap, hx⟩), (fun e1 e2 v w hx h => by have h41x := hx 41 (by simp); simp only [h41x] at h; exact h), ⟨s%, t%, ⟨s%, t%, ⟨s%, t%, ⟨s%, t%, ⟨s%, t%, trivial⟩⟩⟩⟩⟩⟩⟩⟩⟩⟩
  ·exact trivial
  ·refine ⟨?_, ⟨?_, ⟨?_, ⟨?_, ⟨?_, ⟨?_, ⟨?_, ⟨?_, ⟨?_, ⟨?_, trivial⟩⟩⟩⟩⟩⟩⟩⟩⟩⟩
   ·intro _ w5 k462 _
    m% m463 m388 k462
    rintro _ _ _ _ _ _ _ _ _ _
    w%
    refine wl_lit0 wN rfl rfl slTy_32 (fun w => by kernel_rfl) ?_
    intro a464 w6 k465 o466
    m% m467 m463 k465
    exact wl_finT k465 ⟨_, rfl, own_lo o466 k462.size⟩
   ·intro _ w5 k469 _
    m% m470 m388 k469
    rintro _ _ _ _ _ _ _ _ _ _
    w%
    mv% (vs a401 ((compAll x_h.H (joinB [x_h.Held, x_b])).1).length c402)
    f1%
   ·intro _ w5 k471 _
    m% m472 m388 k471
    rintro _ ⟨a473, rfl, o475⟩ _ rfl _ _ _ _ _ _ _ _
    w%
    have r478 := (o403.kp k471)
    refine wl_append0 wN rfl rfl rfl slTy_32 rfl rfl o475 r478 (all_iV _) (by first | (simp only [List.length_append, List.length_cons, List.length_nil, List.length_replicate, List.length_take, List.length_drop]; omega) | omega) (by simp only [maxLen]; first | (simp only [List.length_append, List.length_cons, List.length_nil, List.length_replicate, List.length_take, List.length_drop]; omega) | omega) k471.size ?_
    intro u479 w6 k480 o481 j482
    obtain ⟨a483, c484, rfl⟩ := own_form o481
    have n485 : New w5 a483 c484 := j482 _ _ rfl
    m% m486 m472 k480
    exact wl_finT k480 ⟨_, _, rfl, o481, s404, ⟨trivial, trivial⟩⟩
   ·intro _ w5 k488 _
    m% m489 m388 k488
    rintro _ _ _ _ _ _ _ _ _ _
    w%
    mv% (vs a406 ((compAll x_h.H (joinB [x_h.Held, x_b])).2).length c407)
    f1%
   ·intro _ w5 k490 _
    m% m491 m388 k490
    rintro _ ⟨a492, rfl, o494⟩ _ rfl _ ⟨a497, c498, rfl, o499, s500, -⟩ _ rfl _ _ _ _ _ _
    w%
    have r502 := (o408.kp k490)
    cl% (C_impl_clone w5 _ ((compAll x_h.H (joinB [x_h.Held, x_b])).2) (mR_22 r502 s409))
    rintro _ w6 ⟨k503, ⟨a504, c505, rfl, o506, s507, ap509⟩⟩
    m% m510 m491 k503
    exact wl_finT k503 ⟨_, _, rfl, (own_lo o506 k490.size), s507, ap509, (Ap.lt o499 o506 (Nat.le_refl _))⟩
   ·intro _ w5 k511 _
    m% m512 m388 k511
    rintro _ _ _ _ _ _ _ _ _ _
    w%
    pu% (vp g16 2)
    f1%
   ·intro _ w5 k513 _
    m% m514 m388 k513
    rintro _ _ _ _ _ _ rfl _ _ _ _
    w%
    have b515 := ((b33.kp k387).kp k513)
    refine ld (vi x_h.N) wN isAgg_3 b515 ?_
    f1%
   ·intro _ w5 k516 _
    m% m517 m388 k516
    rintro _ _ _ _ _ _ _ _ _ _
    w%
    mv% (vs a11 x_b.length c12)
    f1%
   ·intro _ w5 k518 _
    m% m519 m388 k518
    rintro _ _ _ _ _ _ _ _ rfl _ _
    w%
    refine ln wN slTy_22 (r13.from0 m519) ?_
    f1%
   ·intro _ w5 k520 _
    m% m521 m388 k520
    rintro _ _ _ _ _ _ rfl _ rfl _ rfl _ rfl _
    w%
    refine ar (x_h.N + (x_b.length : Int)) wN ?_
    f1%
  ·intro _ w5 k523
   m% m524 m388 k523
   rintro _ ⟨a525, rfl, o527⟩ _ rfl _ ⟨a530, c531, rfl, o532, s533, -⟩ _ rfl _ ⟨a535, c536, rfl, o537, s538, ap540, hx541⟩ _ rfl _ rfl _ rfl _ rfl _ rfl
   w%
   pu% (va [(vs a530 ((compAll x_h.H (joinB [x_h.Held, x_b])).1).length c531), (vs a535 (((compAll x_h.H (joinB [x_h.Held, x_b])).2)).length c536), (vi (x_h.N + (x_b.length : Int)))])
   have b543 := (((b26.kp k29).kp k387).kp k523)
   refine st (va [(vs a530 ((compAll x_h.H (joinB [x_h.Held, x_b])).1).length c531), (vs a535 (((compAll x_h.H (joinB [x_h.Held, x_b])).2)).length c536), (vi (x_h.N + (x_b.length : Int)))]) [(vs a530 ((compAll x_h.H (joinB [x_h.Held, x_b])).1).length c531), (vs a535 (((compAll x_h.H (joinB [x_h.Held, x_b])).2)).length c536), (vi (x_h.N + (x_b.length : Int)))] [(vs a530 ((compAll x_h.H (joinB [x_h.Held, x_b])).1).length c531), (vs a535 (((compAll x_h.H (joinB [x_h.Held, x_b])).2)).length c536), (vi (x_h.N + (x_b.length : Int)))] wN sizeOf_132 b543 ?_
   intro w6 k544 b545 z546
   have m547 := m524.ext k544 (fun k hk => by subst hk; exact Nat.le_trans k19.size p23)
   n3%
   have o548 := (own_ch o532 k544 (e1% o532 (Nat.lt_of_lt_of_le p24 (Nat.le_trans k29.size k387.size))))
   have o549 := (own_ch o537 k544 (e1% o537 (Nat.lt_of_lt_of_le p24 (Nat.le_trans k29.size k387.size))))
   refine ret_1 (.inl rfl) (va [(vs a530 ((compAll x_h.H (joinB [x_h.Held, x_b])).1).length c531), (vs a535 (((compAll x_h.H (joinB [x_h.Held, x_b])).2)).length c536), (vi (x_h.N + (x_b.length : Int)))]) rfl (rv_c [(vs a530 ((compAll x_h.H (joinB [x_h.Held, x_b])).1).length c531), (vs a535 (((compAll x_h.H (joinB [x_h.Held, x_b])).2)).length c536), (vi (x_h.N + (x_b.length : Int)))] rfl b545 isAgg_132 sizeOf_132) ?_
   kp% m547
   have hF550 : F_impl_HashAdd x_h x_b = { H := (compAll x_h.H (joinB [x_h.Held, x_b])).1, Held := (((compAll x_h.H (joinB [x_h.Held, x_b])).2)), N := (x_h.N + (x_b.length : Int)) : PHash } := by simp only [F_impl_HashAdd, h31, h34, cond_true, cond_false]
   rw [hF550]
   exact ⟨_, _, _, _, rfl, (own_lo o548 (z% k19 k25 k29 k387)), s533, (own_lo o549 (z% k19 k25 k29 k387)), s538, ⟨⟨hx541, trivial⟩, ⟨trivial, trivial⟩⟩⟩

theorem C_impl_PutN (w0 : World) (v_x_b : Value) (x_b : List UInt8) (r_x_b : R_22 w0 v_x_b x_b) (x_n : Int) (x_k : Int) (pre0 : x_b.length ≤ 1000000) : Fn Try.prog 110 #[v_x_b, (vi x_n), (vi x_k)] w0 (fun v w' => Keep w0 w' ∧ O_22 w' w0.heap.size v (putN x_b x_n x_k)) := by
 obtain ⟨a1, c2, rfl, r3, s4⟩ := r_x_b
 refine fn_of (n := 35) (l := [(vs a1 x_b.length c2), (vi x_n), (vi x_k), U, U, U, U, U, U, U, U, U, U, U, U, U, U, U, U, U, U, U, U, U, U, U, U, U, U, U, U, U, U, U, U]) Try.func110 rfl rfl k% rfl ?_
 sr%
 ag% (vs none 0 0)
 nx%
 refine wl_lit0 wN rfl rfl slTy_22 (fun w => by kernel_rfl) ?_
 intro a6 w1 k7 o8
 have m9 := (Ch.base w0).extk k7
 mv% (vs a1 x_b.length c2)
 refine wl_append0 wN rfl rfl rfl slTy_22 rfl rfl o8 (r3.from0 m9) (all_bV _) (by first | (simp only [List.length_append, List.length_cons, List.length_nil, List.length_replicate, List.length_take, List.length_drop]; omega) | omega) (by simp only [maxLen]; first | (simp only [List.length_append, List.length_cons, List.length_nil, List.length_replicate, List.length_take, List.length_drop]; omega) | omega) k7.size ?_
 intro u11 w2 k12 o13 j14
 obtain ⟨a15, c16, rfl⟩ := own_form o13
 have n17 : New w1 a15 c16 := j14 _ _ rfl
 m% m18 m9 k12
 ag% (vs a15 x_b.length c16)
 n4%
 mv% (vi x_k)
 pu% (vb (decide (x_k < 1)))
 mv% (vb (decide (x_k < 1)))
 rcases bt (decide (x_k < 1)) with h20 | h20
 ·dt% q21 h20
  sk% h20
  sk% h20
  refine pk (vb true) wN h20 ?_
  n2%
  ct% (Eq.refl true)
  sr%
  mv% (vs a15 x_b.length c16)
  ag% (vs a15 x_b.length c16)
  n1%
  r1% (vs a15 x_b.length c16)
  kp% m18
  have hF22 : putN x_b x_n x_k = x_b := by first | exact putN_out o% | exact putN_end o% o% o%
  rw [hF22]
  exact ⟨_, _, rfl, o13, s4, ⟨trivial, trivial⟩⟩
 df% q23 h20
 refine mv (vi x_k) (wS h20) ?_
 refine pu (vb (decide (6 < x_k))) (wS h20) ?_
 refine pf (vb (decide (6 < x_k))) wN h20 ?_
 n2%
 rcases bt (decide (6 < x_k)) with h24 | h24
 ·dt% q25 h24
  ct% h24
  sr%
  mv% (vs a15 x_b.length c16)
  ag% (vs a15 x_b.length c16)
  n1%
  r1% (vs a15 x_b.length c16)
  kp% m18
  have hF26 : putN x_b x_n x_k = x_b := by first | exact putN_out o% | exact putN_end o% o% o%
  rw [hF26]
  exact ⟨_, _, rfl, o13, s4, ⟨trivial, trivial⟩⟩
 df% q27 h24
 cf% h24
 z2%
 mv% (vi x_k)
 refine ar (x_k - 1) wN ?_
 ag% (vi (x_k - 1))
 refine wl_nil <| wq_then <| wc_block ?_
 have hE29 : (x_b : List UInt8) = x_b ++ putK x_n x_k 0 := by simp [putK]
 refine wc_loopQ (fun e => [e 0, (vi x_n), e 2, e 3, e 4, e 5, (vs none 0 0), (.slice a15 (x_b ++ putK x_n x_k 0).length c16), (vi (x_k - 1 - ((0 : Nat) : Int))), e 9, e 10, e 11, e 12, e 13, e 14, e 15, e 16, e 17, e 18, e 19, e 20, e 21, e 22, e 23, e 24, e 25, e 26, e 27, e 28, e 29, e 30, e 31, e 32, e 33, U]) rfl ⟨rfl, rfl, rfl, rfl, rfl, rfl, rfl, (congrArg (fun l : List UInt8 => Value.slice a15 l.length c16) hE29), (congrArg (Value.int .i64) (show ((x_k - 1) : Int) = (x_k - 1 - ((0 : Nat) : Int)) by omega)), rfl, rfl, rfl, rfl, rfl, rfl, rfl, rfl, rfl, rfl, rfl, rfl, rfl, rfl, rfl, rfl, rfl, rfl, rfl, rfl, rfl, rfl, rfl, rfl, rfl, rfl, trivial⟩ (fun e' w' => ∃ (j : Nat) (u28 : Nat → Value) (a7x : Option Addr) (c7x : Nat), e' = lst [(u28 0), (vi x_n), (u28 1), (u28 2), (u28 3), (u28 4), (vs none 0 0), (.slice a7x (x_b ++ putK x_n x_k j).length c7x), (vi (x_k - 1 - ((j : Nat) : Int))), (u28 5), (u28 6), (u28 7), (u28 8), (u28 9), (u28 10), (u28 11), (u28 12), (u28 13), (u28 14), (u28 15), (u28 16), (u28 17), (u28 18), (u28 19), (u28 20), (u28 21), (u28 22), (u28 23), (u28 24), (u28 25), (u28 26), (u28 27), (u28 28), (u28 29), U] ∧ Ch (fun k => w0.heap.size ≤ k) w0 w' ∧ Ch (fun k => w0.heap.size ≤ k) w2 w' ∧ ((j : Nat) : Int) ≤ x_k ∧ (World.ownsRow w' w0.heap.size 5 1 (.slice a7x (x_b ++ putK x_n x_k j).length c7x) (x_b ++ putK x_n x_k j).length ((x_b ++ putK x_n x_k j).map bV) ∧ (x_b ++ putK x_n x_k j).length ≤ 1073741824)) (fun e' _ => ((intOf (e' 8)) + 1).toNat) ?_ ?_
 ·exact fun u => ⟨0, (unL [u 0, u 2, u 3, u 4, u 5, u 9, u 10, u 11, u 12, u 13, u 14, u 15, u 16, u 17, u 18, u 19, u 20, u 21, u 22, u 23, u 24, u 25, u 26, u 27, u 28, u 29, u 30, u 31, u 32, u 33]), a15, c16, rfl, m18, (Ch.refl (fun k => w0.heap.size ≤ k) w2), o%, (hE29 ▸ ⟨o13, s4⟩)⟩
 ·rintro _ w3 ⟨j, u28, a7x, c7x, rfl, m30, k31, i32, ⟨o33, s34⟩⟩
  have hpl := putK_len x_n x_k j
  refine wc_seq <| sr ?_
  mv% (vi (x_k - 1 - ((j : Nat) : Int)))
  pu% (vb (decide (0 ≤ (x_k - 1 - ((j : Nat) : Int)))))
  n2%
  rcases bf (decide (0 ≤ (x_k - 1 - ((j : Nat) : Int)))) with h36 | h36
  ·df% q58 h36
   cf% h36
   refine wc_exit <| wq_then_exit <| wq_then_exit <| wq_blk_exit <| wq_then <| sr ?_
   mv% (vs a7x (x_b ++ putK x_n x_k j).length c7x)
   ag% (vs a7x (x_b ++ putK x_n x_k j).length c7x)
   n3%
   r1% (vs a7x (x_b ++ putK x_n x_k j).length c7x)
   kp% m30
   have hF59 : putN x_b x_n x_k = (x_b ++ putK x_n x_k j) := by first | exact putN_out o% | exact putN_end o% o% o%
   rw [hF59]
   exact ⟨_, _, rfl, o33, s34, ⟨trivial, trivial⟩⟩
  dt% q37 h36
  ct% h36
  refine wc_skip <| wq_then <| wc_seq <| wc_block <| wc_region ?_
  mv% (vs a7x (x_b ++ putK x_n x_k j).length c7x)
  mv% (vi x_n)
  mv% (vi (x_k - 1 - ((j : Nat) : Int)))
  refine ar (8 * (x_k - 1 - ((j : Nat) : Int))) wN ?_
  refine wl_shr x_n (8 * (x_k - 1 - ((j : Nat) : Int))) wN rfl rfl rfl rfl rfl o% o% ?_
  refine wl_and (x_n / (2 : Int) ^ ((8 * (x_k - 1 - ((j : Nat) : Int)))).toNat) 255 256 8 wN rfl rfl (by decide) (by decide) (by decide) k% ?_
  refine wl_conv8 ((x_n / (2 : Int) ^ ((8 * (x_k - 1 - ((j : Nat) : Int)))).toNat) % 256) wN rfl rfl k% ?_
  refine wl_lit [(v8 ((by8 ((x_n / (2 : Int) ^ ((8 * (x_k - 1 - ((j : Nat) : Int)))).toNat) % 256)).toNat : Int))] wN rfl rfl slTy_22 (m := 1) rfl (by simp only [maxLen]; omega) (fun w => by kernel_rfl) ?_
  intro u38 w4 k39 o40
  obtain ⟨a41, c42, rfl⟩ := own_form o40
  m% m43 m30 k39
  have o45 : w4.ownsRow w3.heap.size 5 1 (.slice a41 (([(by8 ((x_n / (2 : Int) ^ ((8 * (x_k - 1 - ((j : Nat) : Int)))).toNat) % 256))] : List UInt8) : List UInt8).length c42) (([(by8 ((x_n / (2 : Int) ^ ((8 * (x_k - 1 - ((j : Nat) : Int)))).toNat) % 256))] : List UInt8) : List UInt8).length ((([(by8 ((x_n / (2 : Int) ^ ((8 * (x_k - 1 - ((j : Nat) : Int)))).toNat) % 256))] : List UInt8) : List UInt8).map bV) := o40
  have o46 := (own_kp o33 k39)
  refine wl_append (v := (vs a7x (x_b ++ putK x_n x_k j).length c7x)) wN rfl rfl rfl slTy_22 rfl rfl o46 (Rd.of_own o45) (all_bV _) (by first | (simp only [List.length_append, List.length_cons, List.length_nil, List.length_replicate, List.length_take, List.length_drop]; omega) | omega) (by simp only [maxLen]; first | (simp only [List.length_append, List.length_cons, List.length_nil, List.length_replicate, List.length_take, List.length_drop]; omega) | omega) (z% k7 k12 k31 k39) ?_
  intro u47 w5 k48 o49 j50
  have o53 : w5.ownsRow w0.heap.size 5 1 u47 (((x_b ++ putK x_n x_k j) ++ ([(by8 ((x_n / (2 : Int) ^ ((8 * (x_k - 1 - ((j : Nat) : Int)))).toNat) % 256))] : List UInt8)) : List UInt8).length ((((x_b ++ putK x_n x_k j) ++ ([(by8 ((x_n / (2 : Int) ^ ((8 * (x_k - 1 - ((j : Nat) : Int)))).toNat) % 256))] : List UInt8)) : List UInt8).map bV) := by simpa [Nat.add_assoc] using o49
  obtain ⟨a51, c52, rfl⟩ := own_form o53
  have m54 := m43.ext k48 (fun k hk => Nat.le_trans (Nat.le_refl w0.heap.size) (own_lt o33 k hk).1)
  have s56 : ((x_b ++ putK x_n x_k j) ++ ([(by8 ((x_n / (2 : Int) ^ ((8 * (x_k - 1 - ((j : Nat) : Int)))).toNat) % 256))] : List UInt8)).length ≤ 1073741824 := by first | (simp only [List.length_append, List.length_cons, List.length_nil, List.length_replicate, List.length_take, List.length_drop]; omega) | omega | assumption
  ag% (vs a51 ((x_b ++ putK x_n x_k j) ++ ([(by8 ((x_n / (2 : Int) ^ ((8 * (x_k - 1 - ((j : Nat) : Int)))).toNat) % 256))] : List UInt8)).length c52)
  refine wl_nil <| wq_blk_normal <| wq_then <| wc_region ?_
  mv% (vi (x_k - 1 - ((j : Nat) : Int)))
  refine ar ((x_k - 1 - ((j : Nat) : Int)) - 1) wN ?_
  ag% (vi ((x_k - 1 - ((j : Nat) : Int)) - 1))
  refine wl_nil ?_
  have hE57 : (((x_b ++ putK x_n x_k j) ++ ([(by8 ((x_n / (2 : Int) ^ ((8 * (x_k - 1 - ((j : Nat) : Int)))).toNat) % 256))] : List UInt8)) : List UInt8) = x_b ++ putK x_n x_k (j + 1) := by simp [putK]
  refine wq_loopQ (w0 := w3) (fun e => [e 0, (vi x_n), e 2, e 3, e 4, e 5, (vs none 0 0), (.slice a51 (x_b ++ putK x_n x_k (j + 1)).length c52), (vi (x_k - 1 - (((j + 1) : Nat) : Int))), e 9, e 10, e 11, e 12, e 13, e 14, e 15, e 16, e 17, e 18, e 19, e 20, e 21, e 22, e 23, e 24, e 25, e 26, e 27, e 28, e 29, e 30, e 31, e 32, e 33, U]) rfl ?_ ?_ ?_
  · exact ⟨rfl, rfl, rfl, rfl, rfl, rfl, rfl, (congrArg (fun l : List UInt8 => Value.slice a51 l.length c52) hE57), (congrArg (Value.int .i64) (show (((x_k - 1 - ((j : Nat) : Int)) - 1) : Int) = (x_k - 1 - (((j + 1) : Nat) : Int)) by omega)), rfl, rfl, rfl, rfl, rfl, rfl, rfl, rfl, rfl, rfl, rfl, rfl, rfl, rfl, rfl, rfl, rfl, rfl, rfl, rfl, rfl, rfl, rfl, rfl, rfl, rfl, trivial⟩
  · exact fun u => ⟨(j + 1), (unL [u 0, u 2, u 3, u 4, u 5, u 9, u 10, u 11, u 12, u 13, u 14, u 15, u 16, u 17, u 18, u 19, u 20, u 21, u 22, u 23, u 24, u 25, u 26, u 27, u 28, u 29, u 30, u 31, u 32, u 33]), a51, c52, rfl, m54, ((((Ch.refl (fun k => w0.heap.size ≤ k) w2).ext k31 (fun k hk => Nat.le_trans (Nat.le_refl w0.heap.size) hk)).extk k39).ext k48 (fun k hk => Nat.le_trans (Nat.le_refl w0.heap.size) (own_lt o33 k hk).1)), o%, (hE57 ▸ ⟨o53, s56⟩)⟩
  · show ((x_k - 1 - (((j + 1) : Nat) : Int)) + 1).toNat < ((x_k - 1 - ((j : Nat) : Int)) + 1).toNat; omega
end Go.Proofs.Ytafcngfnhhchjaa.K
