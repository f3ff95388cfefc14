import Derived.Test.YtacefhmlgneegaaCore
import Derived.Test.YtacefhmlgneegaaProg
import Derived.Test.YtacefhmlgneegaaHeld
import Derived.Test.YtacefhmlgneegaaFun
import Derived.Test.YtacefhmlgneegaaFunZ
import Derived.Test.YtacefhmlgneegaaMark
import Derived.Test.YtacefhmlgneegaaCur
namespace Go.Proofs.Ytacefhmlgneegaa.K
open Go.RowKit
set_option linter.unusedVariables false
set_option linter.unusedSimpArgs false
set_option maxRecDepth 100000
set_option maxHeartbeats 4000000
def enc_PCredit (x : PCredit) : List Value := [.int .i64 x.A.Host, .int .i64 x.A.Port, .int .i64 x.Got, .int .i64 x.Sent]
theorem enc_PCredit_len : ∀ a, (enc_PCredit a).length = 4 := fun _ => rfl
theorem enc_PCredit_one : ∀ a, ∀ u ∈ enc_PCredit a, u.oneCell' = true := fun _ => (one_cons rfl (one_cons rfl (one_cons rfl (one_cons rfl one_nil))))
def z_PCredit : PCredit := { A := { Host := 0, Port := 0 : PAddr }, Got := 0, Sent := 0 : PCredit }
def creditAt (x_l : List PCredit) (x_a : PAddr) : Int := findF (fun c : PCredit => decide (c.A.Host = x_a.Host) && decide (c.A.Port = x_a.Port)) x_l
theorem creditAt_range (x_l : List PCredit) (x_a : PAddr) : -1 ≤ creditAt x_l x_a ∧ creditAt x_l x_a < (x_l.length : Int) := findF_range x_l

theorem slTy_35 : SlTy Try.prog 35 5 1 1 (v8 0) := slTy Try.underlying35 (by kernel_rfl) rfl rfl
def Q_35 (w : World) (v : Value) (x : (List UInt8)) : Prop := ∃ (a1 : Option Addr) (c1 : Nat), v = .slice a1 x.length c1 ∧ Rd w 1 (.slice a1 x.length c1) x.length (x.map bV) ∧ x.length ≤ 9223372036854775807
def O_4 (w : World) (lo : Nat) (v : Value) (x : (Bool)) : Prop := v = .bool x
def F_laws_big (x_code : List UInt8) : (Bool) := decide (1048576 < (x_code.length : Int))
theorem C_laws_big (w0 : World) (v_x_code : Value) (x_code : List UInt8) (r_x_code : Q_35 w0 v_x_code x_code)  : Fn Try.prog 47 #[v_x_code] w0 (fun v w' => Keep w0 w' ∧ O_4 w' w0.heap.size v (F_laws_big x_code)) := by
 obtain ⟨a1, c2, rfl, r3, s4⟩ := r_x_code
 refine fn_of (n := 6) (l := [(vs a1 x_code.length c2), U, U, U, U, U]) Try.func47 rfl rfl (by kernel_rfl) rfl ?_
 refine sr ?_
 refine ag (vb false) wN ?_
 refine nx ?_
 refine mv (vs a1 x_code.length c2) wN ?_
 refine ln wN slTy_35 r3 ?_
 refine pu (vb (decide (1048576 < (x_code.length : Int)))) wN ?_
 refine ag (vb (decide (1048576 < (x_code.length : Int)))) wN ?_
 refine wl_nil <| wq_then <| wc_ret ?_
 refine ret_1 (.inl rfl) (vb (decide (1048576 < (x_code.length : Int)))) rfl rfl ?_
 refine ⟨Ch.refl _ _, ?_⟩
 have hF6 : F_laws_big x_code = decide (1048576 < (x_code.length : Int)) := by rfl
 rw [hF6]
 exact rfl
theorem big_f {x : List UInt8} (h : F_laws_big x = false) : x.length ≤ 1048576 := by
  have := of_decide_eq_false h
  omega

theorem isAgg_5 : ∀ w, (isAgg 5).run Try.prog w = .ok false w := fun w => by kernel_rfl
def R_35 (w : World) (v : Value) (x : (List UInt8)) : Prop := ∃ (a1 : Option Addr) (c1 : Nat), v = .slice a1 x.length c1 ∧ Rd w 1 (.slice a1 x.length c1) x.length (x.map bV) ∧ x.length ≤ 1073741824
theorem C_spec_l1New (w0 : World) (v_x_code : Value) (x_code : List UInt8) (r_x_code : R_35 w0 v_x_code x_code)  : Fn Try.prog 61 #[v_x_code] w0 (fun v w' => ∃ g, Keep w0 w' ∧ w0.heap.size ≤ g ∧ v = vp g 0 ∧ ∀ (a : Option Addr) (c : Nat), v_x_code = .slice a x_code.length c → CurX w' g 81 a c x_code) := by
 obtain ⟨a1, c2, rfl, r3, s4⟩ := r_x_code
 refine fn_of (n := 32) (l := [(vs a1 x_code.length c2), U, U, U, U, U, U, U, U, U, U, U, U, U, U, U, U, U, U, U, U, U, U, U, U, U, U, U, U, U, U, U]) Try.func61 rfl rfl (by kernel_rfl) rfl ?_
 refine sr ?_
 refine ag (.pointer none) wN ?_
 refine nx ?_
 refine mv (vs a1 x_code.length c2) wN ?_
 refine ln wN slTy_35 r3 ?_
 refine ar (127812 + (x_code.length : Int)) wN ?_
 refine ag (vi (127812 + (x_code.length : Int))) wN ?_
 refine wl_nil <| wq_then <| wc_seq <| sr ?_
 refine ag (vi 0) wN ?_
 refine wl_nil <| wq_then <| wc_block ?_
 refine wc_loopQ (fun e => [(vs a1 x_code.length c2), e 1, (.pointer none), (vi (127812 + (x_code.length : Int))), (vi ((0 : Nat) : Int)), e 5, e 6, e 7, e 8, e 9, e 10, e 11, e 12, e 13, e 14, e 15, e 16, e 17, e 18, e 19, e 20, e 21, e 22, e 23, e 24, e 25, e 26, e 27, U, U, U, U]) rfl ⟨rfl, rfl, rfl, rfl, (congrArg (Value.int .i64) (show (0 : Int) = ((0 : Nat) : Int) by omega)), rfl, rfl, rfl, rfl, rfl, rfl, rfl, rfl, rfl, rfl, rfl, rfl, rfl, rfl, rfl, rfl, rfl, rfl, rfl, rfl, rfl, rfl, rfl, rfl, rfl, rfl, rfl, trivial⟩ (fun e' w' => ∃ (k : Nat) (q : Int) (u6 : Nat → Value), e' = lst [(vs a1 x_code.length c2), (u6 0), (.pointer none), (vi q), (vi ((k : Nat) : Int)), (u6 1), (u6 2), (u6 3), (u6 4), (u6 5), (u6 6), (u6 7), (u6 8), (u6 9), (u6 10), (u6 11), (u6 12), (u6 13), (u6 14), (u6 15), (u6 16), (u6 17), (u6 18), (u6 19), (u6 20), (u6 21), (u6 22), (u6 23), U, U, U, U] ∧ Ch (fun k => w0.heap.size ≤ k) w0 w' ∧ Ch (fun k => w0.heap.size ≤ k) w0 w' ∧ k ≤ x_code.length ∧ 0 ≤ q ∧ q ≤ 1073869636) (fun e' _ => x_code.length - ((intOf (e' 4))).toNat) ?_ ?_
 ·exact fun u => ⟨0, (127812 + (x_code.length : Int)), (unL [u 1, u 5, u 6, u 7, u 8, u 9, u 10, u 11, u 12, u 13, u 14, u 15, u 16, u 17, u 18, u 19, u 20, u 21, u 22, u 23, u 24, u 25, u 26, u 27]), rfl, (Ch.base w0), (Ch.refl (fun k => w0.heap.size ≤ k) w0), (by omega), (by omega), (by omega)⟩
 ·rintro _ w1 ⟨k, q, u6, rfl, m7, k8, i9, i10, i11⟩
  have hx8 : (x_code.getD k 0).toNat < 256 := UInt8.toNat_lt _
  refine wc_seq <| sr ?_
  refine mv (vi ((k : Nat) : Int)) wN ?_
  refine mv (vs a1 x_code.length c2) wN ?_
  refine ln wN slTy_35 (r3.from0 m7) ?_
  refine pu (vb (decide (((k : Nat) : Int) < (x_code.length : Int)))) wN ?_
  refine mv (vb (decide (((k : Nat) : Int) < (x_code.length : Int)))) wN ?_
  rcases bf (decide (((k : Nat) : Int) < (x_code.length : Int))) with h12 | h12
  ·have q23 := of_decide_eq_false h12
   refine sk h12 ?_
   refine sk h12 ?_
   refine pf (vb false) wN h12 ?_
   refine wl_nil <| wq_then ?_
   refine cf (Eq.refl false) ?_
   refine wc_exit <| wq_then_exit <| wq_then_exit <| wq_blk_exit <| wq_then <| sr ?_
   refine mv (vs a1 x_code.length c2) wN ?_
   refine mv (vi q) wN ?_
   refine pu (va [(vs a1 x_code.length c2), (vi 0), (vi q)]) wN ?_
   refine bx [(vs a1 x_code.length c2), (vi 0), (vi q)] wN ?_
   intro g24 w2 p25 p26 k27 b28
   have m29 := m7.extk k27
   refine ag (vp g24 0) wN ?_
   refine wl_nil <| wq_then <| wc_ret ?_
   refine ret_1 (.inl rfl) (vp g24 0) rfl rfl ?_
   refine ⟨g24, m29.keep0, (Nat.le_trans k8.size p25), rfl, fun a c hv => ?_⟩
   cases hv
   exact ⟨_, _, b28, (r3.from0 m29), s4, (by omega), (fun h0 z hz => Nat.ne_of_lt (Nat.lt_of_lt_of_le (rd_posB r3 h0 z hz) (Nat.le_trans k8.size p25)))⟩
  have q13 := of_decide_eq_true h12
  refine mv (vi ((k : Nat) : Int)) (wS h12) ?_
  refine pu (vb (decide (((k : Nat) : Int) < 4000))) (wS h12) ?_
  refine pk (vb (decide (((k : Nat) : Int) < 4000))) wN h12 ?_
  refine wl_nil <| wq_then ?_
  rcases bf (decide (((k : Nat) : Int) < 4000)) with h14 | h14
  ·have q16 := of_decide_eq_false h14
   refine cf h14 ?_
   refine wc_exit <| wq_then_exit <| wq_then_exit <| wq_blk_exit <| wq_then <| sr ?_
   refine mv (vs a1 x_code.length c2) wN ?_
   refine mv (vi q) wN ?_
   refine pu (va [(vs a1 x_code.length c2), (vi 0), (vi q)]) wN ?_
   refine bx [(vs a1 x_code.length c2), (vi 0), (vi q)] wN ?_
   intro g17 w2 p18 p19 k20 b21
   have m22 := m7.extk k20
   refine ag (vp g17 0) wN ?_
   refine wl_nil <| wq_then <| wc_ret ?_
   refine ret_1 (.inl rfl) (vp g17 0) rfl rfl ?_
   refine ⟨g17, m22.keep0, (Nat.le_trans k8.size p18), rfl, fun a c hv => ?_⟩
   cases hv
   exact ⟨_, _, b21, (r3.from0 m22), s4, (by omega), (fun h0 z hz => Nat.ne_of_lt (Nat.lt_of_lt_of_le (rd_posB r3 h0 z hz) (Nat.le_trans k8.size p18)))⟩
  have q15 := of_decide_eq_true h14
  refine ct h14 ?_
  refine wc_skip <| wq_then <| wc_seq <| wc_block <| wc_region ?_
  refine mv (vi q) wN ?_
  refine ar (q * 137) wN ?_
  refine mv (vs a1 x_code.length c2) wN ?_
  refine mv (vi ((k : Nat) : Int)) wN ?_
  refine wl_index (v := (vs a1 x_code.length c2)) wN ((k : Nat) : Int) rfl rfl rfl slTy_35 rfl rfl (r3.from0 m7) (by first | omega | (simp only [List.length_cons, List.length_nil, List.length_replicate, List.length_append, List.length_take, List.length_set, List.length_map]; omega)) (by first | omega | (simp only [List.length_cons, List.length_nil, List.length_replicate, List.length_append, List.length_take, List.length_set, List.length_map]; omega)) ?_
  refine wl_loadE (bV (x_code.getD k 0)) wN rfl rfl rfl rfl isAgg_5 (r3.from0 m7) (bget (by simp) (by first | omega | (simp only [List.length_cons, List.length_nil, List.length_replicate, List.length_append, List.length_take, List.length_set, List.length_map]; omega))) ?_
  refine ar ((x_code.getD k 0).toNat : Int) wN ?_
  refine ar ((q * 137) + ((x_code.getD k 0).toNat : Int)) wN ?_
  refine ar (((q * 137) + ((x_code.getD k 0).toNat : Int)) + 11) wN ?_
  refine wl_and (((q * 137) + ((x_code.getD k 0).toNat : Int)) + 11) 1073741823 1073741824 30 wN rfl rfl (by decide) (by decide) (by decide) (by kernel_rfl) ?_
  refine ag (vi ((((q * 137) + ((x_code.getD k 0).toNat : Int)) + 11) % 1073741824)) wN ?_
  refine wl_nil <| wq_blk_normal <| wq_then <| wc_region ?_
  refine mv (vi ((k : Nat) : Int)) wN ?_
  refine ar (((k : Nat) : Int) + 1) wN ?_
  refine ag (vi (((k : Nat) : Int) + 1)) wN ?_
  refine wl_nil ?_
  refine wq_loopQ (w0 := w1) (fun e => [(vs a1 x_code.length c2), e 1, (.pointer none), (vi ((((q * 137) + ((x_code.getD k 0).toNat : Int)) + 11) % 1073741824)), (vi (((k + 1) : Nat) : Int)), e 5, e 6, e 7, e 8, e 9, e 10, e 11, e 12, e 13, e 14, e 15, e 16, e 17, e 18, e 19, e 20, e 21, e 22, e 23, e 24, e 25, e 26, e 27, U, U, U, U]) rfl ?_ ?_ ?_
  · exact ⟨rfl, rfl, rfl, rfl, (congrArg (Value.int .i64) (show ((((k : Nat) : Int) + 1) : Int) = (((k + 1) : Nat) : Int) by omega)), rfl, rfl, rfl, rfl, rfl, rfl, rfl, rfl, rfl, rfl, rfl, rfl, rfl, rfl, rfl, rfl, rfl, rfl, rfl, rfl, rfl, rfl, rfl, rfl, rfl, rfl, rfl, trivial⟩
  · exact fun u => ⟨(k + 1), ((((q * 137) + ((x_code.getD k 0).toNat : Int)) + 11) % 1073741824), (unL [u 1, u 5, u 6, u 7, u 8, u 9, u 10, u 11, u 12, u 13, u 14, u 15, u 16, u 17, u 18, u 19, u 20, u 21, u 22, u 23, u 24, u 25, u 26, u 27]), rfl, m7, ((Ch.refl (fun k => w0.heap.size ≤ k) w0).ext k8 (fun k hk => Nat.le_trans (Nat.le_refl w0.heap.size) hk)), (by omega), (by omega), (by omega)⟩
  · show x_code.length - ((((k + 1) : Nat) : Int)).toNat < x_code.length - (((k : Nat) : Int)).toNat; omega

theorem isAgg_3 : ∀ w, (isAgg 3).run Try.prog w = .ok false w := fun w => by kernel_rfl
theorem sizeOf_3 : ∀ w, (sizeOf 3).run Try.prog w = .ok 1 w := fun w => by kernel_rfl
theorem mixed : Try.prog.follows .mixedOrders = true := by kernel_rfl
theorem isAgg_35 : ∀ w, (isAgg 35).run Try.prog w = .ok false w := fun w => by kernel_rfl
def O_3 (w : World) (lo : Nat) (v : Value) (x : (Int)) : Prop := v = .int .i64 x
theorem C_spec_l1Byte (w0 : World) (g : Nat) (ca : Option Addr) (cc : Nat) (cb : List UInt8) (r_c : CurX w0 g 81 ca cc cb)  : Fn Try.prog 67 #[(vp g 0)] w0 (fun v w' => ∃ x : (Int), Ch (fun k => k = g) w0 w' ∧ CurX w' g 81 ca cc cb ∧ O_3 w' w0.heap.size v x ∧ (0 ≤ x ∧ x ≤ 255)) := by
 obtain ⟨ci, chh, hcb, hcr, hcl, hci, hcn⟩ := r_c
 have hgl := Blk.lt hcb
 refine fn_of (n := 58) (l := [(vp g 0), U, U, U, U, U, U, U, U, U, U, U, U, U, U, U, U, U, U, U, U, U, U, U, U, U, U, U, U, U, U, U, U, U, U, U, U, U, U, U, U, U, U, U, U, U, U, U, U, U, U, U, U, U, U, U, U, U]) Try.func67 rfl rfl (by kernel_rfl) rfl ?_
 have hx8 : (cb.getD ci.toNat 0).toNat < 256 := UInt8.toNat_lt _
 refine sr ?_
 refine ag (vi 0) wN ?_
 refine nx ?_
 refine mv (vp g 0) wN ?_
 refine mv (vp g 0) wN ?_
 refine pu (vp g 0) wN ?_
 refine pu (vp g 2) wN ?_
 refine ld (vi chh) wN isAgg_3 hcb ?_
 refine wl_arb (IntKind.i64.wrap (chh * 6364136223846793005)) wN rfl rfl (by kernel_rfl) ?_
 intro ab1
 refine wl_arb (IntKind.i64.wrap (ab1 + 1442695040888963407)) wN rfl rfl (by kernel_rfl) ?_
 intro ab2
 refine pu (vp g 0) wN ?_
 refine pu (vp g 2) wN ?_
 refine st (vi ab2) [(vi ab2)] [(vs ca cb.length cc), (vi ci), (vi ab2)] wN sizeOf_3 hcb ?_
 intro w1 k3 b4 z5
 have m6 := ChG.ext (Ch.refl (fun k => k = g) w0) k3 (fun k hk => .inl hk)
 refine wl_nil <| wq_then <| wc_seq ?_
 refine wc_drawT ([(13, [], [], (fun _ v _ => v = (vp g 0))), (14, [], [0], (fun _ v _ => v = (vp g 0))), (15, [], [0, 1], (fun _ v _ => v = (vp g 2))), (16, [], [0, 1, 2], (fun _ v _ => v = (vi ab2))), (17, [], [0, 1, 2, 3], (fun _ v _ => v = (vi (ab2 / (2 : Int) ^ ((33 : Int)).toNat)))), (18, [], [], (fun _ v _ => v = (vp g 0))), (19, [], [5], (fun _ v _ => v = (vp g 0))), (20, [], [5, 6], (fun _ v _ => v = (vp g 2))), (21, [], [5, 6, 7], (fun _ v _ => v = (vi ab2))), (22, [], [5, 6, 7, 8], (fun _ v _ => v = (vi (ab2 / (2 : Int) ^ ((47 : Int)).toNat))))] : GV) (fun _ w' => Keep w1 w') [] mixed rfl (by kernel_rfl) (by kernel_rfl) ?_ (fun _ _ h => h) (fun _ _ _ _ h _ k => h.trans k) trivial ?_ ?_ ?_
 ·exact ⟨(fun _ _ _ _ h _ => h), (fun _ _ _ _ _ h => h), ⟨(fun _ _ _ _ h _ => h), (fun _ _ _ _ _ h => h), ⟨(fun _ _ _ _ h _ => h), (fun _ _ _ _ _ h => h), ⟨(fun _ _ _ _ h _ => h), (fun _ _ _ _ _ h => h), ⟨(fun _ _ _ _ h _ => h), (fun _ _ _ _ _ h => h), ⟨(fun _ _ _ _ h _ => h), (fun _ _ _ _ _ h => h), ⟨(fun _ _ _ _ h _ => h), (fun _ _ _ _ _ h => h), ⟨(fun _ _ _ _ h _ => h), (fun _ _ _ _ _ h => h), ⟨(fun _ _ _ _ h _ => h), (fun _ _ _ _ _ h => h), ⟨(fun _ _ _ _ h _ => h), (fun _ _ _ _ _ h => h), trivial⟩⟩⟩⟩⟩⟩⟩⟩⟩⟩
 ·exact trivial
 ·refine ⟨?_, ⟨?_, ⟨?_, ⟨?_, ⟨?_, ⟨?_, ⟨?_, ⟨?_, ⟨?_, ⟨?_, trivial⟩⟩⟩⟩⟩⟩⟩⟩⟩⟩
  ·intro _ w2 k8 _
   have m9 := ChG.extk m6 k8
   rintro _ _ _ _ _ _ _ _ _ _
   show WL _ _ _ _ _ _ _
   refine mv (vp g 0) wN ?_
   exact wl_finT (Ch.refl _ _) rfl
  ·intro _ w2 k10 _
   have m11 := ChG.extk m6 k10
   rintro _ rfl _ _ _ _ _ _ _ _ _
   show WL _ _ _ _ _ _ _
   refine pu (vp g 0) wN ?_
   exact wl_finT (Ch.refl _ _) rfl
  ·intro _ w2 k12 _
   have m13 := ChG.extk m6 k12
   rintro _ rfl _ rfl _ _ _ _ _ _ _ _
   show WL _ _ _ _ _ _ _
   refine pu (vp g 2) wN ?_
   exact wl_finT (Ch.refl _ _) rfl
  ·intro _ w2 k14 _
   have m15 := ChG.extk m6 k14
   rintro _ rfl _ rfl _ rfl _ _ _ _ _ _ _
   show WL _ _ _ _ _ _ _
   have b16 := (b4.kp k14)
   refine ld (vi ab2) wN isAgg_3 b16 ?_
   exact wl_finT (Ch.refl _ _) rfl
  ·intro _ w2 k17 _
   have m18 := ChG.extk m6 k17
   rintro _ rfl _ rfl _ rfl _ rfl _ _ _ _ _ _
   show WL _ _ _ _ _ _ _
   refine wl_shrU ab2 (33 : Int) wN rfl rfl rfl rfl rfl (by omega) (by omega) ?_
   exact wl_finT (Ch.refl _ _) rfl
  ·intro _ w2 k20 _
   have m21 := ChG.extk m6 k20
   rintro _ _ _ _ _ _ _ _ _ _
   show WL _ _ _ _ _ _ _
   refine mv (vp g 0) wN ?_
   exact wl_finT (Ch.refl _ _) rfl
  ·intro _ w2 k22 _
   have m23 := ChG.extk m6 k22
   rintro _ _ _ _ _ _ rfl _ _ _ _
   show WL _ _ _ _ _ _ _
   refine pu (vp g 0) wN ?_
   exact wl_finT (Ch.refl _ _) rfl
  ·intro _ w2 k24 _
   have m25 := ChG.extk m6 k24
   rintro _ _ _ _ _ _ rfl _ rfl _ _ _
   show WL _ _ _ _ _ _ _
   refine pu (vp g 2) wN ?_
   exact wl_finT (Ch.refl _ _) rfl
  ·intro _ w2 k26 _
   have m27 := ChG.extk m6 k26
   rintro _ _ _ _ _ _ rfl _ rfl _ rfl _ _
   show WL _ _ _ _ _ _ _
   have b28 := (b4.kp k26)
   refine ld (vi ab2) wN isAgg_3 b28 ?_
   exact wl_finT (Ch.refl _ _) rfl
  ·intro _ w2 k29 _
   have m30 := ChG.extk m6 k29
   rintro _ _ _ _ _ _ rfl _ rfl _ rfl _ rfl _
   show WL _ _ _ _ _ _ _
   refine wl_shrU ab2 (47 : Int) wN rfl rfl rfl rfl rfl (by omega) (by omega) ?_
   exact wl_finT (Ch.refl _ _) rfl
 ·intro _ w2 k32
  have m33 := ChG.extk m6 k32
  rintro _ rfl _ rfl _ rfl _ rfl _ rfl _ rfl _ rfl _ rfl _ rfl _ rfl
  show WL _ _ _ _ _ _ _
  refine wl_xorA (ab2 / (2 : Int) ^ ((33 : Int)).toNat) (ab2 / (2 : Int) ^ ((47 : Int)).toNat) wN rfl rfl (by kernel_rfl) ?_
  refine wl_and (xorA (ab2 / (2 : Int) ^ ((33 : Int)).toNat) (ab2 / (2 : Int) ^ ((47 : Int)).toNat)) 255 256 8 wN rfl rfl (by decide) (by decide) (by decide) (by kernel_rfl) ?_
  refine ag (vi ((xorA (ab2 / (2 : Int) ^ ((33 : Int)).toNat) (ab2 / (2 : Int) ^ ((47 : Int)).toNat)) % 256)) wN ?_
  refine wl_nil <| wq_then <| wc_seq <| wc_seq ?_
  refine wc_drawT ([(25, [], [], (fun _ v _ => v = (vp g 0))), (26, [], [0], (fun _ v _ => v = (vp g 0))), (27, [], [0, 1], (fun _ v _ => v = (vp g 1))), (28, [], [0, 1, 2], (fun _ v _ => v = (vi ci))), (29, [], [], (fun _ v _ => v = (vp g 0))), (30, [], [4], (fun _ v _ => v = (vp g 0))), (31, [], [4, 5], (fun _ v _ => v = (vp g 0))), (32, [], [4, 5, 6], (fun _ v _ => v = (vs ca cb.length cc))), (33, [], [4, 5, 6, 7], (fun _ v _ => v = (vi (cb.length : Int))))] : GV) (fun _ w' => Keep w2 w') [] mixed rfl (by kernel_rfl) (by kernel_rfl) ?_ (fun _ _ h => h) (fun _ _ _ _ h _ k => h.trans k) trivial ?_ ?_ ?_
  ·exact ⟨(fun _ _ _ _ h _ => h), (fun _ _ _ _ _ h => h), ⟨(fun _ _ _ _ h _ => h), (fun _ _ _ _ _ h => h), ⟨(fun _ _ _ _ h _ => h), (fun _ _ _ _ _ h => h), ⟨(fun _ _ _ _ h _ => h), (fun _ _ _ _ _ h => h), ⟨(fun _ _ _ _ h _ => h), (fun _ _ _ _ _ h => h), ⟨(fun _ _ _ _ h _ => h), (fun _ _ _ _ _ h => h), ⟨(fun _ _ _ _ h _ => h), (fun _ _ _ _ _ h => h), ⟨(fun _ _ _ _ h _ => h), (fun _ _ _ _ _ h => h), ⟨(fun _ _ _ _ h _ => h), (fun _ _ _ _ _ h => h), trivial⟩⟩⟩⟩⟩⟩⟩⟩⟩
  ·exact trivial
  ·refine ⟨?_, ⟨?_, ⟨?_, ⟨?_, ⟨?_, ⟨?_, ⟨?_, ⟨?_, ⟨?_, trivial⟩⟩⟩⟩⟩⟩⟩⟩⟩
   ·intro _ w3 k39 _
    have m40 := ChG.extk m33 k39
    rintro _ _ _ _ _ _ _ _ _
    show WL _ _ _ _ _ _ _
    refine mv (vp g 0) wN ?_
    exact wl_finT (Ch.refl _ _) rfl
   ·intro _ w3 k41 _
    have m42 := ChG.extk m33 k41
    rintro _ rfl _ _ _ _ _ _ _ _
    show WL _ _ _ _ _ _ _
    refine pu (vp g 0) wN ?_
    exact wl_finT (Ch.refl _ _) rfl
   ·intro _ w3 k43 _
    have m44 := ChG.extk m33 k43
    rintro _ rfl _ rfl _ _ _ _ _ _ _
    show WL _ _ _ _ _ _ _
    refine pu (vp g 1) wN ?_
    exact wl_finT (Ch.refl _ _) rfl
   ·intro _ w3 k45 _
    have m46 := ChG.extk m33 k45
    rintro _ rfl _ rfl _ rfl _ _ _ _ _ _
    show WL _ _ _ _ _ _ _
    have b47 := ((b4.kp k32).kp k45)
    refine ld (vi ci) wN isAgg_3 b47 ?_
    exact wl_finT (Ch.refl _ _) rfl
   ·intro _ w3 k48 _
    have m49 := ChG.extk m33 k48
    rintro _ _ _ _ _ _ _ _ _
    show WL _ _ _ _ _ _ _
    refine mv (vp g 0) wN ?_
    exact wl_finT (Ch.refl _ _) rfl
   ·intro _ w3 k50 _
    have m51 := ChG.extk m33 k50
    rintro _ _ _ _ _ rfl _ _ _ _
    show WL _ _ _ _ _ _ _
    refine pu (vp g 0) wN ?_
    exact wl_finT (Ch.refl _ _) rfl
   ·intro _ w3 k52 _
    have m53 := ChG.extk m33 k52
    rintro _ _ _ _ _ rfl _ rfl _ _ _
    show WL _ _ _ _ _ _ _
    refine pu (vp g 0) wN ?_
    exact wl_finT (Ch.refl _ _) rfl
   ·intro _ w3 k54 _
    have m55 := ChG.extk m33 k54
    rintro _ _ _ _ _ rfl _ rfl _ rfl _ _
    show WL _ _ _ _ _ _ _
    have b56 := ((b4.kp k32).kp k54)
    refine ld (vs ca cb.length cc) wN isAgg_35 b56 ?_
    exact wl_finT (Ch.refl _ _) rfl
   ·intro _ w3 k57 _
    have m58 := ChG.extk m33 k57
    rintro _ _ _ _ _ rfl _ rfl _ rfl _ rfl _
    show WL _ _ _ _ _ _ _
    refine ln wN slTy_35 (Rd.chP hcr m58 hcn) ?_
    exact wl_finT (Ch.refl _ _) rfl
  ·intro _ w3 k60
   have m61 := ChG.extk m33 k60
   rintro _ rfl _ rfl _ rfl _ rfl _ rfl _ rfl _ rfl _ rfl _ rfl
   show WL _ _ _ _ _ _ _
   refine pu (vb (decide (ci < (cb.length : Int)))) wN ?_
   refine wl_nil <| wq_then ?_
   rcases bf (decide (ci < (cb.length : Int))) with h64 | h64
   ·have q111 := of_decide_eq_false h64
    refine cf h64 ?_
    refine wc_skip <| wq_then <| sr ?_
    refine mv (vi ((xorA (ab2 / (2 : Int) ^ ((33 : Int)).toNat) (ab2 / (2 : Int) ^ ((47 : Int)).toNat)) % 256)) wN ?_
    refine ag (vi ((xorA (ab2 / (2 : Int) ^ ((33 : Int)).toNat) (ab2 / (2 : Int) ^ ((47 : Int)).toNat)) % 256)) wN ?_
    refine wl_nil <| wq_then <| wc_ret ?_
    refine ret_1 (.inl rfl) (vi ((xorA (ab2 / (2 : Int) ^ ((33 : Int)).toNat) (ab2 / (2 : Int) ^ ((47 : Int)).toNat)) % 256)) rfl rfl ?_
    have b112 := ((b4.kp k32).kp k60)
    exact ⟨((xorA (ab2 / (2 : Int) ^ ((33 : Int)).toNat) (ab2 / (2 : Int) ^ ((47 : Int)).toNat)) % 256), m61, ⟨_, _, b112, (Rd.chP hcr m61 hcn), hcl, (by omega), hcn⟩, rfl, (by omega)⟩
   have q65 := of_decide_eq_true h64
   refine ct h64 ?_
   refine wc_seq ?_
   refine wc_drawT ([(35, [], [], (fun _ v _ => v = (vi ((xorA (ab2 / (2 : Int) ^ ((33 : Int)).toNat) (ab2 / (2 : Int) ^ ((47 : Int)).toNat)) % 256)))), (36, [], [], (fun _ v _ => v = (vp g 0))), (37, [], [1], (fun _ v _ => v = (vp g 0))), (38, [], [1, 2], (fun _ v _ => v = (vp g 0))), (39, [], [1, 2, 3], (fun _ v _ => v = (vs ca cb.length cc))), (40, [], [], (fun _ v _ => v = (vp g 0))), (41, [], [5], (fun _ v _ => v = (vp g 0))), (42, [], [5, 6], (fun _ v _ => v = (vp g 1))), (43, [], [5, 6, 7], (fun _ v _ => v = (vi ci))), (44, [], [1, 2, 3, 4, 5, 6, 7, 8], (fun _ v _ => v = (ve (vs ca cb.length cc) ((ci).toNat * 1)))), (45, [], [1, 2, 3, 4, 5, 6, 7, 8, 9], (fun _ v _ => v = (v8 ((cb.getD (ci).toNat 0).toNat : Int)))), (46, [], [1, 2, 3, 4, 5, 6, 7, 8, 9, 10], (fun _ v _ => v = (vi ((cb.getD (ci).toNat 0).toNat : Int))))] : GV) (fun _ w' => Keep w3 w') [] mixed rfl (by kernel_rfl) (by kernel_rfl) ?_ (fun _ _ h => h) (fun _ _ _ _ h _ k => h.trans k) trivial ?_ ?_ ?_
   ·exact ⟨(fun _ _ _ _ h _ => h), (fun _ _ _ _ _ h => h), ⟨(fun _ _ _ _ h _ => h), (fun _ _ _ _ _ h => h), ⟨(fun _ _ _ _ h _ => h), (fun _ _ _ _ _ h => h), ⟨(fun _ _ _ _ h _ => h), (fun _ _ _ _ _ h => h), ⟨(fun _ _ _ _ h _ => h), (fun _ _ _ _ _ h => h), ⟨(fun _ _ _ _ h _ => h), (fun _ _ _ _ _ h => h), ⟨(fun _ _ _ _ h _ => h), (fun _ _ _ _ _ h => h), ⟨(fun _ _ _ _ h _ => h), (fun _ _ _ _ _ h => h), ⟨(fun _ _ _ _ h _ => h), (fun _ _ _ _ _ h => h), ⟨(fun _ _ _ _ h _ => h), (fun _ _ _ _ _ h => h), ⟨(fun _ _ _ _ h _ => h), (fun _ _ _ _ _ h => h), ⟨(fun _ _ _ _ h _ => h), (fun _ _ _ _ _ h => h), trivial⟩⟩⟩⟩⟩⟩⟩⟩⟩⟩⟩⟩
   ·exact trivial
   ·refine ⟨?_, ⟨?_, ⟨?_, ⟨?_, ⟨?_, ⟨?_, ⟨?_, ⟨?_, ⟨?_, ⟨?_, ⟨?_, ⟨?_, trivial⟩⟩⟩⟩⟩⟩⟩⟩⟩⟩⟩⟩
    ·intro _ w4 k69 _
     have m70 := ChG.extk m61 k69
     rintro _ _ _ _ _ _ _ _ _ _ _ _
     show WL _ _ _ _ _ _ _
     refine mv (vi ((xorA (ab2 / (2 : Int) ^ ((33 : Int)).toNat) (ab2 / (2 : Int) ^ ((47 : Int)).toNat)) % 256)) wN ?_
     exact wl_finT (Ch.refl _ _) rfl
    ·intro _ w4 k71 _
     have m72 := ChG.extk m61 k71
     rintro _ _ _ _ _ _ _ _ _ _ _ _
     show WL _ _ _ _ _ _ _
     refine mv (vp g 0) wN ?_
     exact wl_finT (Ch.refl _ _) rfl
    ·intro _ w4 k73 _
     have m74 := ChG.extk m61 k73
     rintro _ _ rfl _ _ _ _ _ _ _ _ _ _
     show WL _ _ _ _ _ _ _
     refine pu (vp g 0) wN ?_
     exact wl_finT (Ch.refl _ _) rfl
    ·intro _ w4 k75 _
     have m76 := ChG.extk m61 k75
     rintro _ _ rfl _ rfl _ _ _ _ _ _ _ _ _
     show WL _ _ _ _ _ _ _
     refine pu (vp g 0) wN ?_
     exact wl_finT (Ch.refl _ _) rfl
    ·intro _ w4 k77 _
     have m78 := ChG.extk m61 k77
     rintro _ _ rfl _ rfl _ rfl _ _ _ _ _ _ _ _
     show WL _ _ _ _ _ _ _
     have b79 := (((b4.kp k32).kp k60).kp k77)
     refine ld (vs ca cb.length cc) wN isAgg_35 b79 ?_
     exact wl_finT (Ch.refl _ _) rfl
    ·intro _ w4 k80 _
     have m81 := ChG.extk m61 k80
     rintro _ _ _ _ _ _ _ _ _ _ _ _
     show WL _ _ _ _ _ _ _
     refine mv (vp g 0) wN ?_
     exact wl_finT (Ch.refl _ _) rfl
    ·intro _ w4 k82 _
     have m83 := ChG.extk m61 k82
     rintro _ _ _ _ _ _ rfl _ _ _ _ _ _
     show WL _ _ _ _ _ _ _
     refine pu (vp g 0) wN ?_
     exact wl_finT (Ch.refl _ _) rfl
    ·intro _ w4 k84 _
     have m85 := ChG.extk m61 k84
     rintro _ _ _ _ _ _ rfl _ rfl _ _ _ _ _
     show WL _ _ _ _ _ _ _
     refine pu (vp g 1) wN ?_
     exact wl_finT (Ch.refl _ _) rfl
    ·intro _ w4 k86 _
     have m87 := ChG.extk m61 k86
     rintro _ _ _ _ _ _ rfl _ rfl _ rfl _ _ _ _
     show WL _ _ _ _ _ _ _
     have b88 := (((b4.kp k32).kp k60).kp k86)
     refine ld (vi ci) wN isAgg_3 b88 ?_
     exact wl_finT (Ch.refl _ _) rfl
    ·intro _ w4 k89 _
     have m90 := ChG.extk m61 k89
     rintro _ _ rfl _ rfl _ rfl _ rfl _ rfl _ rfl _ rfl _ rfl _ _ _
     show WL _ _ _ _ _ _ _
     refine wl_index (v := (vs ca cb.length cc)) wN ci rfl rfl rfl slTy_35 rfl rfl (Rd.chP hcr m90 hcn) (by first | omega | (simp only [List.length_cons, List.length_nil, List.length_replicate, List.length_append, List.length_take, List.length_set, List.length_map]; omega)) (by first | omega | (simp only [List.length_cons, List.length_nil, List.length_replicate, List.length_append, List.length_take, List.length_set, List.length_map]; omega)) ?_
     exact wl_finT (Ch.refl _ _) rfl
    ·intro _ w4 k93 _
     have m94 := ChG.extk m61 k93
     rintro _ _ rfl _ rfl _ rfl _ rfl _ rfl _ rfl _ rfl _ rfl _ rfl _ _
     show WL _ _ _ _ _ _ _
     refine wl_loadE (bV (cb.getD (ci).toNat 0)) wN rfl rfl rfl rfl isAgg_5 (Rd.chP hcr m94 hcn) (bget (by simp) (by first | omega | (simp only [List.length_cons, List.length_nil, List.length_replicate, List.length_append, List.length_take, List.length_set, List.length_map]; omega))) ?_
     exact wl_finT (Ch.refl _ _) rfl
    ·intro _ w4 k97 _
     have m98 := ChG.extk m61 k97
     rintro _ _ rfl _ rfl _ rfl _ rfl _ rfl _ rfl _ rfl _ rfl _ rfl _ rfl _
     show WL _ _ _ _ _ _ _
     refine ar ((cb.getD (ci).toNat 0).toNat : Int) wN ?_
     exact wl_finT (Ch.refl _ _) rfl
   ·intro _ w4 k101
    have m102 := ChG.extk m61 k101
    rintro _ rfl _ rfl _ rfl _ rfl _ rfl _ rfl _ rfl _ rfl _ rfl _ rfl _ rfl _ rfl
    show WL _ _ _ _ _ _ _
    refine wl_arb (IntKind.i64.wrap (((xorA (ab2 / (2 : Int) ^ ((33 : Int)).toNat) (ab2 / (2 : Int) ^ ((47 : Int)).toNat)) % 256) + ((cb.getD (ci).toNat 0).toNat : Int))) wN rfl rfl (by kernel_rfl) ?_
    intro ab105
    refine wl_and ab105 255 256 8 wN rfl rfl (by decide) (by decide) (by decide) (by kernel_rfl) ?_
    refine ag (vi (ab105 % 256)) wN ?_
    refine wl_nil <| wq_then <| wc_region ?_
    refine mv (vp g 0) wN ?_
    refine mv (vp g 0) wN ?_
    refine pu (vp g 0) wN ?_
    refine pu (vp g 1) wN ?_
    have b106 := (((b4.kp k32).kp k60).kp k101)
    refine ld (vi ci) wN isAgg_3 b106 ?_
    refine ar (ci + 1) wN ?_
    refine pu (vp g 0) wN ?_
    refine pu (vp g 1) wN ?_
    refine st (vi (ci + 1)) [(vi (ci + 1))] [(vs ca cb.length cc), (vi (ci + 1)), (vi ab2)] wN sizeOf_3 b106 ?_
    intro w5 k107 b108 z109
    have m110 := ChG.ext m102 k107 (fun k hk => .inl hk)
    refine nx ?_
    refine mv (vi (ab105 % 256)) wN ?_
    refine ag (vi (ab105 % 256)) wN ?_
    refine wl_nil <| wq_then <| wc_ret ?_
    refine ret_1 (.inl rfl) (vi (ab105 % 256)) rfl rfl ?_
    exact ⟨(ab105 % 256), m110, ⟨_, _, b108, (Rd.chP hcr m110 hcn), hcl, (by omega), hcn⟩, rfl, (by omega)⟩

theorem C_spec_l1Below (w0 : World) (g : Nat) (ca : Option Addr) (cc : Nat) (cb : List UInt8) (r_c : CurX w0 g 81 ca cc cb) (x_n : Int)  : Fn Try.prog 65 #[(vp g 0), (vi x_n)] w0 (fun v w' => ∃ x : (Int), Ch (fun k => k = g) w0 w' ∧ CurX w' g 81 ca cc cb ∧ O_3 w' w0.heap.size v x ∧ (0 ≤ x ∧ (x < x_n ∨ (x_n ≤ 0 ∧ x = 0)))) := by
 obtain ⟨ci, chh, hcb, hcr, hcl, hci, hcn⟩ := r_c
 have hgl := Blk.lt hcb
 refine fn_of (n := 31) (l := [(vp g 0), (vi x_n), U, U, U, U, U, U, U, U, U, U, U, U, U, U, U, U, U, U, U, U, U, U, U, U, U, U, U, U, U]) Try.func65 rfl rfl (by kernel_rfl) rfl ?_
 refine sr ?_
 refine ag (vi 0) wN ?_
 refine wl_nil <| wq_then <| wc_seq <| sr ?_
 refine mv (vi x_n) wN ?_
 refine pu (vb (decide (x_n ≤ 0))) wN ?_
 refine wl_nil <| wq_then ?_
 rcases bt (decide (x_n ≤ 0)) with h1 | h1
 ·have q2 := of_decide_eq_true h1
  refine ct h1 ?_
  refine sr ?_
  refine ag (vi 0) wN ?_
  refine wl_nil <| wq_then <| wc_ret <| wq_then_ret ?_
  refine ret_1 (.inl rfl) (vi 0) rfl rfl ?_
  exact ⟨0, (Ch.refl (fun k => k = g) w0), ⟨_, _, hcb, hcr, hcl, (by omega), hcn⟩, rfl, (by omega)⟩
 have q3 := of_decide_eq_false h1
 refine cf h1 ?_
 refine wc_skip <| wq_then <| wc_seq <| sr ?_
 refine mv (vi x_n) wN ?_
 refine pu (vb (decide (x_n ≤ 256))) wN ?_
 refine wl_nil <| wq_then ?_
 rcases bt (decide (x_n ≤ 256)) with h4 | h4
 ·have q5 := of_decide_eq_true h4
  refine ct h4 ?_
  refine sr ?_
  refine mv (vp g 0) wN ?_
  refine cl wN (C_spec_l1Byte w0 g ca cc cb ⟨_, _, hcb, hcr, hcl, (by omega), hcn⟩) ?_
  rintro _ w1 ⟨x7, k6, ⟨i9, h10, b11, r12, l13, p14, n15⟩, rfl, q8⟩
  have m16 := ChG.ext (Ch.refl (fun k => k = g) w0) k6 (fun k hk => .inl hk)
  refine mv (vi x_n) wN ?_
  refine wl_remv (x7) x_n wN rfl rfl rfl rfl rfl (by omega) (by omega) ?_
  have q17 := rem_b (a := (x7)) (m := x_n) (by omega)
  refine ag (vi ((x7) % x_n)) wN ?_
  refine wl_nil <| wq_then <| wc_ret <| wq_then_ret ?_
  refine ret_1 (.inl rfl) (vi ((x7) % x_n)) rfl rfl ?_
  exact ⟨((x7) % x_n), m16, ⟨_, _, b11, (Rd.chP hcr m16 hcn), hcl, (by omega), hcn⟩, rfl, (by omega)⟩
 have q18 := of_decide_eq_false h4
 refine cf h4 ?_
 refine wc_skip <| wq_then <| sr ?_
 refine mv (vp g 0) wN ?_
 refine cl wN (C_spec_l1Byte w0 g ca cc cb ⟨_, _, hcb, hcr, hcl, (by omega), hcn⟩) ?_
 rintro _ w1 ⟨x20, k19, ⟨i22, h23, b24, r25, l26, p27, n28⟩, rfl, q21⟩
 have m29 := ChG.ext (Ch.refl (fun k => k = g) w0) k19 (fun k hk => .inl hk)
 refine ag (vi (x20)) wN ?_
 refine nx ?_
 refine mv (vp g 0) wN ?_
 refine cl wN (C_spec_l1Byte w1 g ca cc cb ⟨_, _, b24, (Rd.chP hcr m29 hcn), hcl, (by omega), hcn⟩) ?_
 rintro _ w2 ⟨x31, k30, ⟨i33, h34, b35, r36, l37, p38, n39⟩, rfl, q32⟩
 have m40 := ChG.ext m29 k30 (fun k hk => .inl hk)
 refine ag (vi (x31)) wN ?_
 refine nx ?_
 refine mv (vp g 0) wN ?_
 refine cl wN (C_spec_l1Byte w2 g ca cc cb ⟨_, _, b35, (Rd.chP hcr m40 hcn), hcl, (by omega), hcn⟩) ?_
 rintro _ w3 ⟨x42, k41, ⟨i44, h45, b46, r47, l48, p49, n50⟩, rfl, q43⟩
 have m51 := ChG.ext m40 k41 (fun k hk => .inl hk)
 refine ag (vi (x42)) wN ?_
 refine nx ?_
 refine mv (vi (x20)) wN ?_
 refine ar ((x20) * 65536) wN ?_
 refine mv (vi (x31)) wN ?_
 refine ar ((x31) * 256) wN ?_
 refine ar (((x20) * 65536) + ((x31) * 256)) wN ?_
 refine mv (vi (x42)) wN ?_
 refine ar ((((x20) * 65536) + ((x31) * 256)) + (x42)) wN ?_
 refine mv (vi x_n) wN ?_
 refine wl_remv ((((x20) * 65536) + ((x31) * 256)) + (x42)) x_n wN rfl rfl rfl rfl rfl (by omega) (by omega) ?_
 have q52 := rem_b (a := ((((x20) * 65536) + ((x31) * 256)) + (x42))) (m := x_n) (by omega)
 refine ag (vi (((((x20) * 65536) + ((x31) * 256)) + (x42)) % x_n)) wN ?_
 refine wl_nil <| wq_then <| wc_ret ?_
 refine ret_1 (.inl rfl) (vi (((((x20) * 65536) + ((x31) * 256)) + (x42)) % x_n)) rfl rfl ?_
 exact ⟨(((((x20) * 65536) + ((x31) * 256)) + (x42)) % x_n), m51, ⟨_, _, b46, (Rd.chP hcr m51 hcn), hcl, (by omega), hcn⟩, rfl, (by omega)⟩

theorem slTy_61 : SlTy Try.prog 61 3 1 8 (vi 0) := slTy Try.underlying61 (by kernel_rfl) rfl rfl
def N_61 (w : World) (g : Nat) (v : Value) (x : (List Int)) : Prop := ∃ (a1 : Option Addr) (c1 : Nat), v = .slice a1 x.length c1 ∧ Rd w 1 (.slice a1 x.length c1) x.length (x.map iV) ∧ x.length ≤ 1073741824 ∧ (0 < x.length → ∀ z, a1 = some z → z.block ≠ g)
theorem C_spec_l1Int (w0 : World) (g : Nat) (ca : Option Addr) (cc : Nat) (cb : List UInt8) (r_c : CurX w0 g 81 ca cc cb) (v_x_list : Value) (x_list : List Int) (r_x_list : N_61 w0 g v_x_list x_list) (pre0 : 0 < x_list.length) : Fn Try.prog 62 #[(vp g 0), v_x_list] w0 (fun v w' => ∃ x : (Int), Ch (fun k => k = g) w0 w' ∧ CurX w' g 81 ca cc cb ∧ O_3 w' w0.heap.size v x ∧ (x ∈ x_list)) := by
 obtain ⟨ci, chh, hcb, hcr, hcl, hci, hcn⟩ := r_c
 have hgl := Blk.lt hcb
 obtain ⟨a1, c2, rfl, r3, s4, n6⟩ := r_x_list
 refine fn_of (n := 12) (l := [(vp g 0), (vs a1 x_list.length c2), U, U, U, U, U, U, U, U, U, U]) Try.func62 rfl rfl (by kernel_rfl) rfl ?_
 refine sr ?_
 refine ag (vi 0) wN ?_
 refine nx ?_
 refine mv (vs a1 x_list.length c2) wN ?_
 refine mv (vp g 0) wN ?_
 refine mv (vs a1 x_list.length c2) wN ?_
 refine ln wN slTy_61 r3 ?_
 refine cl wN (C_spec_l1Below w0 g ca cc cb ⟨_, _, hcb, hcr, hcl, (by omega), hcn⟩ (x_list.length : Int)) ?_
 rintro _ w1 ⟨x8, k7, ⟨i10, h11, b12, r13, l14, p15, n16⟩, rfl, q9⟩
 have m17 := ChG.ext (Ch.refl (fun k => k = g) w0) k7 (fun k hk => .inl hk)
 refine wl_index (v := (vs a1 x_list.length c2)) wN (x8) rfl rfl rfl slTy_61 rfl rfl (Rd.chP r3 m17 n6) (by first | omega | (simp only [List.length_cons, List.length_nil, List.length_replicate, List.length_append, List.length_take, List.length_set, List.length_map]; omega)) (by first | omega | (simp only [List.length_cons, List.length_nil, List.length_replicate, List.length_append, List.length_take, List.length_set, List.length_map]; omega)) ?_
 refine wl_loadE (iV (x_list.getD ((x8)).toNat 0)) wN rfl rfl rfl rfl isAgg_3 (Rd.chP r3 m17 n6) (iget (by simp) (by first | omega | (simp only [List.length_cons, List.length_nil, List.length_replicate, List.length_append, List.length_take, List.length_set, List.length_map]; omega))) ?_
 refine ag (vi (x_list.getD ((x8)).toNat 0)) wN ?_
 refine wl_nil <| wq_then <| wc_ret ?_
 refine ret_1 (.inl rfl) (vi (x_list.getD ((x8)).toNat 0)) rfl rfl ?_
 exact ⟨(x_list.getD ((x8)).toNat 0), m17, ⟨_, _, b12, (Rd.chP hcr m17 hcn), hcl, (by omega), hcn⟩, rfl, (by exact getD_memI (by omega))⟩

def F_impl_within (x_n : Int) (x_low : Int) (x_high : Int) : (Bool) := bif (decide (x_low ≤ x_n)) then (decide (x_n ≤ x_high)) else (false)
theorem C_impl_within (w0 : World) (x_n : Int) (x_low : Int) (x_high : Int)  : Fn Try.prog 51 #[(vi x_n), (vi x_low), (vi x_high)] w0 (fun v w' => Keep w0 w' ∧ O_4 w' w0.heap.size v (F_impl_within x_n x_low x_high)) := by
 refine fn_of (n := 15) (l := [(vi x_n), (vi x_low), (vi x_high), U, U, U, U, U, U, U, U, U, U, U, U]) Try.func51 rfl rfl (by kernel_rfl) rfl ?_
 refine sr ?_
 refine ag (vb false) wN ?_
 refine nx ?_
 refine mv (vi x_n) wN ?_
 refine mv (vi x_low) wN ?_
 refine pu (vb (decide (x_low ≤ x_n))) wN ?_
 refine mv (vb (decide (x_low ≤ x_n))) wN ?_
 rcases bf (decide (x_low ≤ x_n)) with h1 | h1
 ·have q4 := of_decide_eq_false h1
  refine sk h1 ?_
  refine sk h1 ?_
  refine sk h1 ?_
  refine pf (vb false) wN h1 ?_
  refine ag (vb false) wN ?_
  refine wl_nil <| wq_then <| wc_ret ?_
  refine ret_1 (.inl rfl) (vb false) rfl rfl ?_
  refine ⟨Ch.refl _ _, ?_⟩
  have hF5 : F_impl_within x_n x_low x_high = false := by simp only [F_impl_within, h1, cond_true, cond_false]
  rw [hF5]
  exact rfl
 have q2 := of_decide_eq_true h1
 refine mv (vi x_n) (wS h1) ?_
 refine mv (vi x_high) (wS h1) ?_
 refine pu (vb (decide (x_n ≤ x_high))) (wS h1) ?_
 refine pk (vb (decide (x_n ≤ x_high))) wN h1 ?_
 refine ag (vb (decide (x_n ≤ x_high))) wN ?_
 refine wl_nil <| wq_then <| wc_ret ?_
 refine ret_1 (.inl rfl) (vb (decide (x_n ≤ x_high))) rfl rfl ?_
 refine ⟨Ch.refl _ _, ?_⟩
 have hF3 : F_impl_within x_n x_low x_high = decide (x_n ≤ x_high) := by simp only [F_impl_within, h1, cond_true, cond_false]
 rw [hF3]
 exact rfl
theorem impl_within_t {n a b : Int} (h : F_impl_within n a b = true) : a ≤ n ∧ n ≤ b := by
  unfold F_impl_within at h
  by_cases h1 : a ≤ n <;> simp [h1] at h
  exact ⟨h1, h⟩
theorem impl_within_f {n a b : Int} (h : F_impl_within n a b = false) : n < a ∨ b < n := by
  unfold F_impl_within at h
  by_cases h1 : a ≤ n <;> simp [h1] at h <;> omega

abbrev L_28 (x : PTimer)  : List Value := [vb x.On, vi x.Due, vi x.Wait, vi x.Tries]
theorem isAgg_4 : ∀ w, (isAgg 4).run Try.prog w = .ok false w := fun w => by kernel_rfl
theorem isAgg_28 : ∀ w, (isAgg 28).run Try.prog w = .ok true w := fun w => by kernel_rfl
theorem sizeOf_28 : ∀ w, (sizeOf 28).run Try.prog w = .ok 4 w := fun w => by kernel_rfl
theorem guardt_28 : Try.prog.eqGuardType Try.prog.depth 28 = false := by kernel_rfl
theorem aggeq_28 (x0 y0 : Bool) (x1 y1 : Int) (x2 y2 : Int) (x3 y3 : Int) (w : World) : (Op.equalIn 10000 28 (.agg #[.bool x0, .int .i64 x1, .int .i64 x2, .int .i64 x3]) (.agg #[.bool y0, .int .i64 y1, .int .i64 y2, .int .i64 y3])).run Try.prog w = .ok (((x0 == y0) && (decide (x1 = y1) && (decide (x2 = y2) && decide (x3 = y3))))) w := by
  rw [run_equalIn_struct w 9999 28 _ _ (by kernel_rfl) (by kernel_rfl)]
  simp [Program.fieldsOf, Op.eqFields, go_sem, Try.underlying3, Try.underlying4, Try.underlying28]
  by_cases h0 : x0 = y0 <;> by_cases h1 : x1 = y1 <;> by_cases h2 : x2 = y2 <;> by_cases h3 : x3 = y3 <;> simp [*]
def R_28 (w : World) (v : Value) (x : (PTimer)) : Prop := v = .agg #[.bool x.On, .int .i64 x.Due, .int .i64 x.Wait, .int .i64 x.Tries]
def F_impl_TimerOk (x_t : PTimer) : (Bool) := bif x_t.On then (bif (decide (x_t.Wait = 1)) then (bif (F_impl_within x_t.Due 0 1000008) then ((F_impl_within x_t.Tries 1 5)) else (false)) else (bif (decide (x_t.Wait = 2)) then (bif (F_impl_within x_t.Due 0 1000008) then ((F_impl_within x_t.Tries 1 5)) else (false)) else (bif (decide (x_t.Wait = 4)) then (bif (F_impl_within x_t.Due 0 1000008) then ((F_impl_within x_t.Tries 1 5)) else (false)) else (bif (F_impl_within x_t.Due 0 1000008) then (bif (decide (x_t.Wait = 8)) then ((F_impl_within x_t.Tries 1 5)) else (false)) else (false))))) else (((x_t.On == false) && (decide (x_t.Due = 0) && (decide (x_t.Wait = 0) && decide (x_t.Tries = 0)))))
theorem C_impl_TimerOk (w0 : World) (v_x_t : Value) (x_t : PTimer) (r_x_t : R_28 w0 v_x_t x_t)  : Fn Try.prog 21 #[v_x_t] w0 (fun v w' => Keep w0 w' ∧ O_4 w' w0.heap.size v (F_impl_TimerOk x_t)) := by
 obtain rfl := r_x_t
 refine fn_of (n := 39) (l := [(va (L_28 x_t)), U, U, U, U, U, U, U, U, U, U, U, U, U, U, U, U, U, U, U, U, U, U, U, U, U, U, U, U, U, U, U, U, U, U, U, U, U, U]) Try.func21 rfl rfl (by kernel_rfl) rfl ?_
 refine sr ?_
 refine bx (L_28 x_t) wN ?_
 intro g1 w1 p2 p3 k4 b5
 have m6 := (Ch.base w0).extk k4
 refine ag (vb false) wN ?_
 refine wl_nil <| wq_then <| wc_seq <| sr ?_
 refine pu (vp g1 0) wN ?_
 refine ld (vb x_t.On) wN isAgg_4 b5 ?_
 refine pu (vb (!x_t.On)) wN ?_
 refine wl_nil <| wq_then ?_
 rcases bf x_t.On with h7 | h7
 ·refine ct (congrArg not h7) ?_
  refine sr ?_
  refine lN (L_28 x_t) wN isAgg_28 sizeOf_28 b5 ?_
  refine pu (va [(vb false), (vi 0), (vi 0), (vi 0)]) wN ?_
  refine wl_aggeq (((x_t.On == false) && (decide (x_t.Due = 0) && (decide (x_t.Wait = 0) && decide (x_t.Tries = 0))))) wN rfl rfl rfl rfl rfl guardt_28 (aggeq_28 x_t.On false x_t.Due 0 x_t.Wait 0 x_t.Tries 0 w1) ?_
  refine ag (vb ((x_t.On == false) && (decide (x_t.Due = 0) && (decide (x_t.Wait = 0) && decide (x_t.Tries = 0))))) wN ?_
  refine wl_nil <| wq_then <| wc_ret <| wq_then_ret ?_
  refine ret_1 (.inl rfl) (vb ((x_t.On == false) && (decide (x_t.Due = 0) && (decide (x_t.Wait = 0) && decide (x_t.Tries = 0))))) rfl rfl ?_
  refine ⟨m6.keep0, ?_⟩
  have hF63 : F_impl_TimerOk x_t = ((x_t.On == false) && (decide (x_t.Due = 0) && (decide (x_t.Wait = 0) && decide (x_t.Tries = 0)))) := by simp only [F_impl_TimerOk, h7, cond_true, cond_false]
  rw [hF63]
  exact rfl
 refine cf (congrArg not h7) ?_
 refine wc_skip <| wq_then <| sr ?_
 refine pu (vp g1 2) wN ?_
 refine ld (vi x_t.Wait) wN isAgg_3 b5 ?_
 refine pu (vb (decide (x_t.Wait = 1))) wN ?_
 refine mv (vb (decide (x_t.Wait = 1))) wN ?_
 rcases bt (decide (x_t.Wait = 1)) with h9 | h9
 ·have q10 := of_decide_eq_true h9
  refine sk h9 ?_
  refine sk h9 ?_
  refine sk h9 ?_
  refine pk (vb true) wN h9 ?_
  refine mv (vb true) wN ?_
  refine sk (Eq.refl true) ?_
  refine sk (Eq.refl true) ?_
  refine sk (Eq.refl true) ?_
  refine pk (vb true) wN (Eq.refl true) ?_
  refine mv (vb true) wN ?_
  refine sk (Eq.refl true) ?_
  refine sk (Eq.refl true) ?_
  refine sk (Eq.refl true) ?_
  refine pk (vb true) wN (Eq.refl true) ?_
  refine ag (vb true) wN ?_
  refine nx ?_
  refine pu (vp g1 1) wN ?_
  refine ld (vi x_t.Due) wN isAgg_3 b5 ?_
  refine cl wN (C_impl_within w1 x_t.Due 0 1000008) ?_
  rintro _ w2 ⟨k11, rfl⟩
  have m12 := m6.extk k11
  refine mv (vb (F_impl_within x_t.Due 0 1000008)) wN ?_
  rcases bf (F_impl_within x_t.Due 0 1000008) with h13 | h13
  ·have q19 := impl_within_f h13
   refine sk h13 ?_
   refine pf (vb false) wN h13 ?_
   refine mv (vb false) wN ?_
   refine sk (Eq.refl false) ?_
   refine sk (Eq.refl false) ?_
   refine sk (Eq.refl false) ?_
   refine pf (vb false) wN (Eq.refl false) ?_
   refine ag (vb false) wN ?_
   refine wl_nil <| wq_then <| wc_ret ?_
   refine ret_1 (.inl rfl) (vb false) rfl rfl ?_
   refine ⟨m12.keep0, ?_⟩
   have hF20 : F_impl_TimerOk x_t = false := by simp only [F_impl_TimerOk, h7, h9, h13, cond_true, cond_false]
   rw [hF20]
   exact rfl
  have q14 := impl_within_t h13
  refine mv (vb true) (wS h13) ?_
  refine pk (vb true) wN h13 ?_
  refine mv (vb true) wN ?_
  refine pu (vp g1 3) (wS (Eq.refl true)) ?_
  have b15 := (b5.kp k11)
  refine ld (vi x_t.Tries) (wS (Eq.refl true)) isAgg_3 b15 ?_
  refine cl (wS (Eq.refl true)) (C_impl_within w2 x_t.Tries 1 5) ?_
  rintro _ w3 ⟨k16, rfl⟩
  have m17 := m12.extk k16
  refine pk (vb (F_impl_within x_t.Tries 1 5)) wN (Eq.refl true) ?_
  refine ag (vb (F_impl_within x_t.Tries 1 5)) wN ?_
  refine wl_nil <| wq_then <| wc_ret ?_
  refine ret_1 (.inl rfl) (vb (F_impl_within x_t.Tries 1 5)) rfl rfl ?_
  refine ⟨m17.keep0, ?_⟩
  have hF18 : F_impl_TimerOk x_t = (F_impl_within x_t.Tries 1 5) := by simp only [F_impl_TimerOk, h7, h9, h13, cond_true, cond_false]
  rw [hF18]
  exact rfl
 have q21 := of_decide_eq_false h9
 refine pu (vp g1 2) (wS h9) ?_
 refine ld (vi x_t.Wait) (wS h9) isAgg_3 b5 ?_
 refine pu (vb (decide (x_t.Wait = 2))) (wS h9) ?_
 refine pf (vb (decide (x_t.Wait = 2))) wN h9 ?_
 refine mv (vb (decide (x_t.Wait = 2))) wN ?_
 rcases bt (decide (x_t.Wait = 2)) with h22 | h22
 ·have q23 := of_decide_eq_true h22
  refine sk h22 ?_
  refine sk h22 ?_
  refine sk h22 ?_
  refine pk (vb true) wN h22 ?_
  refine mv (vb true) wN ?_
  refine sk (Eq.refl true) ?_
  refine sk (Eq.refl true) ?_
  refine sk (Eq.refl true) ?_
  refine pk (vb true) wN (Eq.refl true) ?_
  refine ag (vb true) wN ?_
  refine nx ?_
  refine pu (vp g1 1) wN ?_
  refine ld (vi x_t.Due) wN isAgg_3 b5 ?_
  refine cl wN (C_impl_within w1 x_t.Due 0 1000008) ?_
  rintro _ w2 ⟨k24, rfl⟩
  have m25 := m6.extk k24
  refine mv (vb (F_impl_within x_t.Due 0 1000008)) wN ?_
  rcases bf (F_impl_within x_t.Due 0 1000008) with h26 | h26
  ·have q32 := impl_within_f h26
   refine sk h26 ?_
   refine pf (vb false) wN h26 ?_
   refine mv (vb false) wN ?_
   refine sk (Eq.refl false) ?_
   refine sk (Eq.refl false) ?_
   refine sk (Eq.refl false) ?_
   refine pf (vb false) wN (Eq.refl false) ?_
   refine ag (vb false) wN ?_
   refine wl_nil <| wq_then <| wc_ret ?_
   refine ret_1 (.inl rfl) (vb false) rfl rfl ?_
   refine ⟨m25.keep0, ?_⟩
   have hF33 : F_impl_TimerOk x_t = false := by simp only [F_impl_TimerOk, h7, h9, h22, h26, cond_true, cond_false]
   rw [hF33]
   exact rfl
  have q27 := impl_within_t h26
  refine mv (vb true) (wS h26) ?_
  refine pk (vb true) wN h26 ?_
  refine mv (vb true) wN ?_
  refine pu (vp g1 3) (wS (Eq.refl true)) ?_
  have b28 := (b5.kp k24)
  refine ld (vi x_t.Tries) (wS (Eq.refl true)) isAgg_3 b28 ?_
  refine cl (wS (Eq.refl true)) (C_impl_within w2 x_t.Tries 1 5) ?_
  rintro _ w3 ⟨k29, rfl⟩
  have m30 := m25.extk k29
  refine pk (vb (F_impl_within x_t.Tries 1 5)) wN (Eq.refl true) ?_
  refine ag (vb (F_impl_within x_t.Tries 1 5)) wN ?_
  refine wl_nil <| wq_then <| wc_ret ?_
  refine ret_1 (.inl rfl) (vb (F_impl_within x_t.Tries 1 5)) rfl rfl ?_
  refine ⟨m30.keep0, ?_⟩
  have hF31 : F_impl_TimerOk x_t = (F_impl_within x_t.Tries 1 5) := by simp only [F_impl_TimerOk, h7, h9, h22, h26, cond_true, cond_false]
  rw [hF31]
  exact rfl
 have q34 := of_decide_eq_false h22
 refine pu (vp g1 2) (wS h22) ?_
 refine ld (vi x_t.Wait) (wS h22) isAgg_3 b5 ?_
 refine pu (vb (decide (x_t.Wait = 4))) (wS h22) ?_
 refine pf (vb (decide (x_t.Wait = 4))) wN h22 ?_
 refine mv (vb (decide (x_t.Wait = 4))) wN ?_
 rcases bt (decide (x_t.Wait = 4)) with h35 | h35
 ·have q36 := of_decide_eq_true h35
  refine sk h35 ?_
  refine sk h35 ?_
  refine sk h35 ?_
  refine pk (vb true) wN h35 ?_
  refine ag (vb true) wN ?_
  refine nx ?_
  refine pu (vp g1 1) wN ?_
  refine ld (vi x_t.Due) wN isAgg_3 b5 ?_
  refine cl wN (C_impl_within w1 x_t.Due 0 1000008) ?_
  rintro _ w2 ⟨k37, rfl⟩
  have m38 := m6.extk k37
  refine mv (vb (F_impl_within x_t.Due 0 1000008)) wN ?_
  rcases bf (F_impl_within x_t.Due 0 1000008) with h39 | h39
  ·have q45 := impl_within_f h39
   refine sk h39 ?_
   refine pf (vb false) wN h39 ?_
   refine mv (vb false) wN ?_
   refine sk (Eq.refl false) ?_
   refine sk (Eq.refl false) ?_
   refine sk (Eq.refl false) ?_
   refine pf (vb false) wN (Eq.refl false) ?_
   refine ag (vb false) wN ?_
   refine wl_nil <| wq_then <| wc_ret ?_
   refine ret_1 (.inl rfl) (vb false) rfl rfl ?_
   refine ⟨m38.keep0, ?_⟩
   have hF46 : F_impl_TimerOk x_t = false := by simp only [F_impl_TimerOk, h7, h9, h22, h35, h39, cond_true, cond_false]
   rw [hF46]
   exact rfl
  have q40 := impl_within_t h39
  refine mv (vb true) (wS h39) ?_
  refine pk (vb true) wN h39 ?_
  refine mv (vb true) wN ?_
  refine pu (vp g1 3) (wS (Eq.refl true)) ?_
  have b41 := (b5.kp k37)
  refine ld (vi x_t.Tries) (wS (Eq.refl true)) isAgg_3 b41 ?_
  refine cl (wS (Eq.refl true)) (C_impl_within w2 x_t.Tries 1 5) ?_
  rintro _ w3 ⟨k42, rfl⟩
  have m43 := m38.extk k42
  refine pk (vb (F_impl_within x_t.Tries 1 5)) wN (Eq.refl true) ?_
  refine ag (vb (F_impl_within x_t.Tries 1 5)) wN ?_
  refine wl_nil <| wq_then <| wc_ret ?_
  refine ret_1 (.inl rfl) (vb (F_impl_within x_t.Tries 1 5)) rfl rfl ?_
  refine ⟨m43.keep0, ?_⟩
  have hF44 : F_impl_TimerOk x_t = (F_impl_within x_t.Tries 1 5) := by simp only [F_impl_TimerOk, h7, h9, h22, h35, h39, cond_true, cond_false]
  rw [hF44]
  exact rfl
 have q47 := of_decide_eq_false h35
 refine pu (vp g1 2) (wS h35) ?_
 refine ld (vi x_t.Wait) (wS h35) isAgg_3 b5 ?_
 refine pu (vb (decide (x_t.Wait = 8))) (wS h35) ?_
 refine pf (vb (decide (x_t.Wait = 8))) wN h35 ?_
 refine ag (vb (decide (x_t.Wait = 8))) wN ?_
 refine nx ?_
 refine pu (vp g1 1) wN ?_
 refine ld (vi x_t.Due) wN isAgg_3 b5 ?_
 refine cl wN (C_impl_within w1 x_t.Due 0 1000008) ?_
 rintro _ w2 ⟨k48, rfl⟩
 have m49 := m6.extk k48
 refine mv (vb (F_impl_within x_t.Due 0 1000008)) wN ?_
 rcases bf (F_impl_within x_t.Due 0 1000008) with h50 | h50
 ·have q60 := impl_within_f h50
  refine sk h50 ?_
  refine pf (vb false) wN h50 ?_
  refine mv (vb false) wN ?_
  refine sk (Eq.refl false) ?_
  refine sk (Eq.refl false) ?_
  refine sk (Eq.refl false) ?_
  refine pf (vb false) wN (Eq.refl false) ?_
  refine ag (vb false) wN ?_
  refine wl_nil <| wq_then <| wc_ret ?_
  refine ret_1 (.inl rfl) (vb false) rfl rfl ?_
  refine ⟨m49.keep0, ?_⟩
  have hF61 : F_impl_TimerOk x_t = false := by simp only [F_impl_TimerOk, h7, h9, h22, h35, h50, cond_true, cond_false]
  rw [hF61]
  exact rfl
 have q51 := impl_within_t h50
 refine mv (vb (decide (x_t.Wait = 8))) (wS h50) ?_
 refine pk (vb (decide (x_t.Wait = 8))) wN h50 ?_
 refine mv (vb (decide (x_t.Wait = 8))) wN ?_
 rcases bf (decide (x_t.Wait = 8)) with h52 | h52
 ·have q58 := of_decide_eq_false h52
  refine sk h52 ?_
  refine sk h52 ?_
  refine sk h52 ?_
  refine pf (vb false) wN h52 ?_
  refine ag (vb false) wN ?_
  refine wl_nil <| wq_then <| wc_ret ?_
  refine ret_1 (.inl rfl) (vb false) rfl rfl ?_
  refine ⟨m49.keep0, ?_⟩
  have hF59 : F_impl_TimerOk x_t = false := by simp only [F_impl_TimerOk, h7, h9, h22, h35, h50, h52, cond_true, cond_false]
  rw [hF59]
  exact rfl
 have q53 := of_decide_eq_true h52
 refine pu (vp g1 3) (wS h52) ?_
 have b54 := (b5.kp k48)
 refine ld (vi x_t.Tries) (wS h52) isAgg_3 b54 ?_
 refine cl (wS h52) (C_impl_within w2 x_t.Tries 1 5) ?_
 rintro _ w3 ⟨k55, rfl⟩
 have m56 := m49.extk k55
 refine pk (vb (F_impl_within x_t.Tries 1 5)) wN h52 ?_
 refine ag (vb (F_impl_within x_t.Tries 1 5)) wN ?_
 refine wl_nil <| wq_then <| wc_ret ?_
 refine ret_1 (.inl rfl) (vb (F_impl_within x_t.Tries 1 5)) rfl rfl ?_
 refine ⟨m56.keep0, ?_⟩
 have hF57 : F_impl_TimerOk x_t = (F_impl_within x_t.Tries 1 5) := by simp only [F_impl_TimerOk, h7, h9, h22, h35, h50, h52, cond_true, cond_false]
 rw [hF57]
 exact rfl
theorem impl_TimerOk_t {t : PTimer} (h : F_impl_TimerOk t = true) (h0 : t.On = true) : 0 ≤ t.Due ∧ t.Due ≤ 1000008 ∧ 1 ≤ t.Wait ∧ t.Wait ≤ 8 ∧ 1 ≤ t.Tries ∧ t.Tries ≤ 5 := by
  simp only [F_impl_TimerOk, F_impl_within, cond_eq_ite] at h
  grind

theorem mR_28 {w : World} {x : PTimer} : R_28 w (va (L_28 x)) x := rfl
def F_impl_TimerFires (x_t : PTimer) (x_now : Int) : (Bool) := bif (F_impl_TimerOk x_t) then (bif x_t.On then (bif (F_impl_within x_now 0 1000000) then (decide (x_t.Due ≤ x_now)) else (false)) else (false)) else (false)
theorem C_impl_TimerFires (w0 : World) (v_x_t : Value) (x_t : PTimer) (r_x_t : R_28 w0 v_x_t x_t) (x_now : Int)  : Fn Try.prog 26 #[v_x_t, (vi x_now)] w0 (fun v w' => Keep w0 w' ∧ O_4 w' w0.heap.size v (F_impl_TimerFires x_t x_now)) := by
 obtain rfl := r_x_t
 refine fn_of (n := 21) (l := [(va (L_28 x_t)), (vi x_now), U, U, U, U, U, U, U, U, U, U, U, U, U, U, U, U, U, U, U]) Try.func26 rfl rfl (by kernel_rfl) rfl ?_
 refine sr ?_
 refine bx (L_28 x_t) wN ?_
 intro g1 w1 p2 p3 k4 b5
 have m6 := (Ch.base w0).extk k4
 refine ag (vb false) wN ?_
 refine nx ?_
 refine lN (L_28 x_t) wN isAgg_28 sizeOf_28 b5 ?_
 refine cl wN (C_impl_TimerOk w1 _ x_t (mR_28)) ?_
 rintro _ w2 ⟨k7, rfl⟩
 have m8 := m6.extk k7
 refine mv (vb (F_impl_TimerOk x_t)) wN ?_
 rcases bf (F_impl_TimerOk x_t) with h9 | h9
 ·refine sk h9 ?_
  refine sk h9 ?_
  refine pf (vb false) wN h9 ?_
  refine mv (vb false) wN ?_
  refine sk (Eq.refl false) ?_
  refine sk (Eq.refl false) ?_
  refine pf (vb false) wN (Eq.refl false) ?_
  refine mv (vb false) wN ?_
  refine sk (Eq.refl false) ?_
  refine sk (Eq.refl false) ?_
  refine sk (Eq.refl false) ?_
  refine sk (Eq.refl false) ?_
  refine pf (vb false) wN (Eq.refl false) ?_
  refine ag (vb false) wN ?_
  refine wl_nil <| wq_then <| wc_ret ?_
  refine ret_1 (.inl rfl) (vb false) rfl rfl ?_
  refine ⟨m8.keep0, ?_⟩
  have hF25 : F_impl_TimerFires x_t x_now = false := by simp only [F_impl_TimerFires, h9, cond_true, cond_false]
  rw [hF25]
  exact rfl
 refine pu (vp g1 0) (wS h9) ?_
 have b11 := (b5.kp k7)
 refine ld (vb x_t.On) (wS h9) isAgg_4 b11 ?_
 refine pk (vb x_t.On) wN h9 ?_
 refine mv (vb x_t.On) wN ?_
 rcases bf x_t.On with h12 | h12
 ·refine sk h12 ?_
  refine sk h12 ?_
  refine pf (vb false) wN h12 ?_
  refine mv (vb false) wN ?_
  refine sk (Eq.refl false) ?_
  refine sk (Eq.refl false) ?_
  refine sk (Eq.refl false) ?_
  refine sk (Eq.refl false) ?_
  refine pf (vb false) wN (Eq.refl false) ?_
  refine ag (vb false) wN ?_
  refine wl_nil <| wq_then <| wc_ret ?_
  refine ret_1 (.inl rfl) (vb false) rfl rfl ?_
  refine ⟨m8.keep0, ?_⟩
  have hF23 : F_impl_TimerFires x_t x_now = false := by simp only [F_impl_TimerFires, h9, h12, cond_true, cond_false]
  rw [hF23]
  exact rfl
 refine mv (vi x_now) (wS h12) ?_
 refine cl (wS h12) (C_impl_within w2 x_now 0 1000000) ?_
 rintro _ w3 ⟨k14, rfl⟩
 have m15 := m8.extk k14
 refine pk (vb (F_impl_within x_now 0 1000000)) wN h12 ?_
 refine mv (vb (F_impl_within x_now 0 1000000)) wN ?_
 rcases bf (F_impl_within x_now 0 1000000) with h16 | h16
 ·have q20 := impl_within_f h16
  refine sk h16 ?_
  refine sk h16 ?_
  refine sk h16 ?_
  refine sk h16 ?_
  refine pf (vb false) wN h16 ?_
  refine ag (vb false) wN ?_
  refine wl_nil <| wq_then <| wc_ret ?_
  refine ret_1 (.inl rfl) (vb false) rfl rfl ?_
  refine ⟨m15.keep0, ?_⟩
  have hF21 : F_impl_TimerFires x_t x_now = false := by simp only [F_impl_TimerFires, h9, h12, h16, cond_true, cond_false]
  rw [hF21]
  exact rfl
 have q17 := impl_within_t h16
 refine mv (vi x_now) (wS h16) ?_
 refine pu (vp g1 1) (wS h16) ?_
 have b18 := (b11.kp k14)
 refine ld (vi x_t.Due) (wS h16) isAgg_3 b18 ?_
 refine pu (vb (decide (x_t.Due ≤ x_now))) (wS h16) ?_
 refine pk (vb (decide (x_t.Due ≤ x_now))) wN h16 ?_
 refine ag (vb (decide (x_t.Due ≤ x_now))) wN ?_
 refine wl_nil <| wq_then <| wc_ret ?_
 refine ret_1 (.inl rfl) (vb (decide (x_t.Due ≤ x_now))) rfl rfl ?_
 refine ⟨m15.keep0, ?_⟩
 have hF19 : F_impl_TimerFires x_t x_now = decide (x_t.Due ≤ x_now) := by simp only [F_impl_TimerFires, h9, h12, h16, cond_true, cond_false]
 rw [hF19]
 exact rfl
theorem impl_TimerFires_t {t : PTimer} {now : Int} (h : F_impl_TimerFires t now = true) : 0 ≤ t.Due ∧ t.Due ≤ 1000008 ∧ 1 ≤ t.Wait ∧ t.Wait ≤ 8 ∧ 1 ≤ t.Tries ∧ t.Tries ≤ 5 ∧ 0 ≤ now ∧ now ≤ 1000000 := by
  have hk := @impl_TimerOk_t t
  simp only [F_impl_TimerFires, F_impl_within, cond_eq_ite] at h
  grind

theorem zero_28 : ∀ w, (zeroValue 28).run Try.prog w = .ok (va [(vb false), (vi 0), (vi 0), (vi 0)]) w := fun w => by kernel_rfl
def O_28_3 (w : World) (lo : Nat) (v : Value) (x : (PTimer) × (Int)) : Prop := v = .tuple #[.agg #[.bool x.1.On, .int .i64 x.1.Due, .int .i64 x.1.Wait, .int .i64 x.1.Tries], .int .i64 x.2]
def F_impl_TimerNext (x_t : PTimer) (x_now : Int) : (PTimer) × (Int) := bif (F_impl_TimerFires x_t x_now) then (bif (decide (x_t.Tries = 5)) then (({ On := false, Due := 0, Wait := 0, Tries := 0 : PTimer }, 2)) else (({ On := true, Due := (x_now + (if 8 < (2 * x_t.Wait) then 8 else (2 * x_t.Wait))), Wait := (if 8 < (2 * x_t.Wait) then 8 else (2 * x_t.Wait)), Tries := (x_t.Tries + 1) : PTimer }, 1))) else ((x_t, 0))
theorem C_impl_TimerNext (w0 : World) (v_x_t : Value) (x_t : PTimer) (r_x_t : R_28 w0 v_x_t x_t) (x_now : Int)  : Fn Try.prog 33 #[v_x_t, (vi x_now)] w0 (fun v w' => Keep w0 w' ∧ O_28_3 w' w0.heap.size v (F_impl_TimerNext x_t x_now)) := by
 obtain rfl := r_x_t
 refine fn_of (n := 28) (l := [(va (L_28 x_t)), (vi x_now), U, U, U, U, U, U, U, U, U, U, U, U, U, U, U, U, U, U, U, U, U, U, U, U, U, U]) Try.func33 rfl rfl (by kernel_rfl) rfl ?_
 refine sr ?_
 refine bx (L_28 x_t) wN ?_
 intro g1 w1 p2 p3 k4 b5
 have m6 := (Ch.base w0).extk k4
 refine al [(vb false), (vi 0), (vi 0), (vi 0)] wN zero_28 ?_
 intro g7 w2 p8 p9 k10 b11
 have m12 := m6.extk k10
 refine ag (vi 0) wN ?_
 refine wl_nil <| wq_then <| wc_seq <| sr ?_
 have b13 := (b5.kp k10)
 refine lN (L_28 x_t) wN isAgg_28 sizeOf_28 b13 ?_
 refine mv (vi x_now) wN ?_
 refine cl wN (C_impl_TimerFires w2 _ x_t (mR_28) x_now) ?_
 rintro _ w3 ⟨k14, rfl⟩
 have m15 := m12.extk k14
 refine pu (vb (!(F_impl_TimerFires x_t x_now))) wN ?_
 refine wl_nil <| wq_then ?_
 rcases bf (F_impl_TimerFires x_t x_now) with h16 | h16
 ·refine ct (congrArg not h16) ?_
  refine sr ?_
  have b35 := (b13.kp k14)
  refine lN (L_28 x_t) wN isAgg_28 sizeOf_28 b35 ?_
  have b36 := (b11.kp k14)
  refine st (va (L_28 x_t)) (L_28 x_t) (L_28 x_t) wN sizeOf_28 b36 ?_
  intro w4 k37 b38 z39
  have m40 := m15.ext k37 (fun k hk => by subst hk; exact Nat.le_trans k4.size p8)
  refine ag (vi 0) wN ?_
  refine wl_nil <| wq_then <| wc_ret <| wq_then_ret ?_
  refine ret_2 (.inl rfl) (va (L_28 x_t)) (vi 0) rfl (rv_c [(vb x_t.On), (vi x_t.Due), (vi x_t.Wait), (vi x_t.Tries)] rfl b38 isAgg_28 sizeOf_28) rfl ?_
  refine ⟨m40.keep0, ?_⟩
  have hF41 : F_impl_TimerNext x_t x_now = (x_t, 0) := by simp only [F_impl_TimerNext, h16, cond_true, cond_false]
  rw [hF41]
  exact rfl
 have q17 := impl_TimerFires_t h16
 refine cf (congrArg not h16) ?_
 refine wc_skip <| wq_then <| wc_seq <| sr ?_
 refine pu (vp g1 3) wN ?_
 have b18 := (b13.kp k14)
 refine ld (vi x_t.Tries) wN isAgg_3 b18 ?_
 refine pu (vb (decide (x_t.Tries = 5))) wN ?_
 refine wl_nil <| wq_then ?_
 rcases bt (decide (x_t.Tries = 5)) with h19 | h19
 ·have q20 := of_decide_eq_true h19
  refine ct h19 ?_
  refine sr ?_
  refine pu (va [(vb false), (vi 0), (vi 0), (vi 0)]) wN ?_
  have b21 := (b11.kp k14)
  refine st (va [(vb false), (vi 0), (vi 0), (vi 0)]) [(vb false), (vi 0), (vi 0), (vi 0)] [(vb false), (vi 0), (vi 0), (vi 0)] wN sizeOf_28 b21 ?_
  intro w4 k22 b23 z24
  have m25 := m15.ext k22 (fun k hk => by subst hk; exact Nat.le_trans k4.size p8)
  refine ag (vi 2) wN ?_
  refine wl_nil <| wq_then <| wc_ret <| wq_then_ret ?_
  refine ret_2 (.inl rfl) (va [(vb false), (vi 0), (vi 0), (vi 0)]) (vi 2) rfl (rv_c [(vb false), (vi 0), (vi 0), (vi 0)] rfl b23 isAgg_28 sizeOf_28) rfl ?_
  refine ⟨m25.keep0, ?_⟩
  have hF26 : F_impl_TimerNext x_t x_now = ({ On := false, Due := 0, Wait := 0, Tries := 0 : PTimer }, 2) := by simp only [F_impl_TimerNext, h16, h19, cond_true, cond_false]
  rw [hF26]
  exact rfl
 have q27 := of_decide_eq_false h19
 refine cf h19 ?_
 refine wc_skip <| wq_then <| sr ?_
 refine pu (vp g1 2) wN ?_
 refine ld (vi x_t.Wait) wN isAgg_3 b18 ?_
 refine ar (2 * x_t.Wait) wN ?_
 refine pu (vi (if 8 < (2 * x_t.Wait) then 8 else (2 * x_t.Wait))) wN ?_
 refine ag (vi (if 8 < (2 * x_t.Wait) then 8 else (2 * x_t.Wait))) wN ?_
 refine nx ?_
 refine mv (vi x_now) wN ?_
 refine mv (vi (if 8 < (2 * x_t.Wait) then 8 else (2 * x_t.Wait))) wN ?_
 refine ar (x_now + (if 8 < (2 * x_t.Wait) then 8 else (2 * x_t.Wait))) wN ?_
 refine mv (vi (if 8 < (2 * x_t.Wait) then 8 else (2 * x_t.Wait))) wN ?_
 refine pu (vp g1 3) wN ?_
 refine ld (vi x_t.Tries) wN isAgg_3 b18 ?_
 refine ar (x_t.Tries + 1) wN ?_
 refine pu (va [(vb true), (vi (x_now + (if 8 < (2 * x_t.Wait) then 8 else (2 * x_t.Wait)))), (vi (if 8 < (2 * x_t.Wait) then 8 else (2 * x_t.Wait))), (vi (x_t.Tries + 1))]) wN ?_
 have b28 := (b11.kp k14)
 refine st (va [(vb true), (vi (x_now + (if 8 < (2 * x_t.Wait) then 8 else (2 * x_t.Wait)))), (vi (if 8 < (2 * x_t.Wait) then 8 else (2 * x_t.Wait))), (vi (x_t.Tries + 1))]) [(vb true), (vi (x_now + (if 8 < (2 * x_t.Wait) then 8 else (2 * x_t.Wait)))), (vi (if 8 < (2 * x_t.Wait) then 8 else (2 * x_t.Wait))), (vi (x_t.Tries + 1))] [(vb true), (vi (x_now + (if 8 < (2 * x_t.Wait) then 8 else (2 * x_t.Wait)))), (vi (if 8 < (2 * x_t.Wait) then 8 else (2 * x_t.Wait))), (vi (x_t.Tries + 1))] wN sizeOf_28 b28 ?_
 intro w4 k29 b30 z31
 have m32 := m15.ext k29 (fun k hk => by subst hk; exact Nat.le_trans k4.size p8)
 refine ag (vi 1) wN ?_
 refine wl_nil <| wq_then <| wc_ret ?_
 refine ret_2 (.inl rfl) (va [(vb true), (vi (x_now + (if 8 < (2 * x_t.Wait) then 8 else (2 * x_t.Wait)))), (vi (if 8 < (2 * x_t.Wait) then 8 else (2 * x_t.Wait))), (vi (x_t.Tries + 1))]) (vi 1) rfl (rv_c [(vb true), (vi (x_now + (if 8 < (2 * x_t.Wait) then 8 else (2 * x_t.Wait)))), (vi (if 8 < (2 * x_t.Wait) then 8 else (2 * x_t.Wait))), (vi (x_t.Tries + 1))] rfl b30 isAgg_28 sizeOf_28) rfl ?_
 refine ⟨m32.keep0, ?_⟩
 have hF33 : F_impl_TimerNext x_t x_now = ({ On := true, Due := (x_now + (if 8 < (2 * x_t.Wait) then 8 else (2 * x_t.Wait))), Wait := (if 8 < (2 * x_t.Wait) then 8 else (2 * x_t.Wait)), Tries := (x_t.Tries + 1) : PTimer }, 1) := by simp only [F_impl_TimerNext, h16, h19, cond_true, cond_false]
 rw [hF33]
 exact rfl
end Go.Proofs.Ytacefhmlgneegaa.K
