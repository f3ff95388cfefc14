import Derived.Test.YtdbjmgkiccfhcaaCore
import Derived.Test.YtdbjmgkiccfhcaaProg
import Derived.Test.YtdbjmgkiccfhcaaHeld
import Derived.Test.YtdbjmgkiccfhcaaFun
import Derived.Test.YtdbjmgkiccfhcaaFunZ
import Derived.Test.YtdbjmgkiccfhcaaSqz
import Derived.Test.YtdbjmgkiccfhcaaCur
import Derived.Test.YtdbjmgkiccfhcaaDrawW
import Derived.Test.YtdbjmgkiccfhcaaAead
import Derived.Test.YtdbjmgkiccfhcaaDrawK
import Derived.Test.YtdbjmgkiccfhcaaWm1
namespace Go.Proofs.Ytdbjmgkiccfhcaa.K
open Go.RowKit
set_option linter.unusedVariables false
set_option linter.unusedSimpArgs false
set_option maxRecDepth 100000
set_option maxHeartbeats 4000000
theorem sizeOf_5 : ∀ w, (sizeOf 5).run Try.prog w = .ok 1 w := fun w => by kernel_rfl
def N_22 (w : World) (g : Nat) (v : Value) (x : (List UInt8)) : Prop := ∃ (a1 : Option Addr) (c1 : Nat), v = .slice a1 x.length c1 ∧ Rd w 1 (.slice a1 x.length c1) x.length (x.map bV) ∧ x.length ≤ 1073741824 ∧ (0 < x.length → ∀ z, a1 = some z → z.block ≠ g)
theorem C_spec_l1Bend (w0 : World) (g : Nat) (ca : Option Addr) (cc : Nat) (cb : List UInt8) (r_c : CurX w0 g 111 ca cc cb) (v_x_b : Value) (x_b : List UInt8) (r_x_b : N_22 w0 g v_x_b x_b) (pre0 : x_b.length ≤ 1000000) : Fn Try.prog 52 #[(vp g 0), v_x_b] w0 (fun v w' => ∃ x : (List UInt8), Ch (fun k => k = g) w0 w' ∧ CurX w' g 111 ca cc cb ∧ O_22 w' w0.heap.size v x ∧ (True)) := by
 obtain ⟨ci, chh, hcb, hcr, hcl, hci, hcn⟩ := r_c
 have hgl := Blk.lt hcb
 obtain ⟨a1, c2, rfl, r3, s4, n6⟩ := r_x_b
 refine fn_ofS (n := 53) [(vp g 0), (vs a1 x_b.length c2)] Try.func52 rfl rfl ?_
 refine sr ?_
 refine aw (vs none 0 0) ?_
 refine nx ?_
 refine wl_lit0 wN rfl rfl slTy_22 (fun w => by kernel_rfl) ?_
 intro a7 w1 k8 o9
 have m10 := ChG.extk (Ch.refl (fun k => k = g) w0) k8
 refine mw (vs a1 x_b.length c2) ?_
 refine ap0 x_b wN slTy_22 o9 (Rd.chP r3 m10 n6) k8.size ?_
 intro a12 c13 w2 k14 o15 n16
 have m17 := ChG.extk m10 k14
 refine aw (vs a12 x_b.length c13) ?_
 refine n4 ?_
 refine mw (vp g 0) ?_
 have b19 := ((hcb.kp k8).kp k14)
 refine cl wN (C_spec_l1Below w2 g ca cc cb ⟨_, _, b19, (Rd.chP hcr m17 hcn), hcl, (by omega), hcn⟩ 8) ?_
 rintro _ w3 ⟨x21, k20, ⟨i23, h24, b25, r26, l27, p28, n29⟩, rfl, q22⟩
 have m30 := ChG.ext m17 k20 (fun k hk => .inl hk)
 refine wl_nil <| wq_then <| wc_block <| sr ?_
 refine pu (vb (decide ((x21) = 0))) wN ?_
 refine aw (vb (decide ((x21) = 0))) ?_
 refine n2 ?_
 rcases bf (decide ((x21) = 0)) with h31 | h31
 ·have q217 := of_decide_eq_false h31
  refine cf h31 ?_
  refine sr ?_
  refine pu (vb (decide ((x21) = 1))) wN ?_
  refine aw (vb (decide ((x21) = 1))) ?_
  refine n2 ?_
  rcases bf (decide ((x21) = 1)) with h218 | h218
  ·have q240 := of_decide_eq_false h218
   refine cf h218 ?_
   refine sr ?_
   refine pu (vb (decide ((x21) = 2))) wN ?_
   refine aw (vb (decide ((x21) = 2))) ?_
   refine n2 ?_
   rcases bf (decide ((x21) = 2)) with h241 | h241
   ·have q270 := of_decide_eq_false h241
    refine cf h241 ?_
    refine wc_skip <| wq_blk_normal <| wq_then <| sr ?_
    refine mw (vs a12 x_b.length c13) ?_
    refine aw (vs a12 x_b.length c13) ?_
    refine n3 ?_
    have o271 := (own_ch o15 k20 (ne1 o15 (hgl)))
    refine rt (vs a12 x_b.length c13) ?_
    exact ⟨x_b, m30, ⟨_, _, b25, (Rd.chP hcr m30 hcn), hcl, (by omega), hcn⟩, ⟨_, _, rfl, o271, s4, ⟨trivial, trivial⟩⟩, trivial⟩
   have q242 := of_decide_eq_true h241
   refine ct h241 ?_
   refine wc_region ?_
   refine mw (vs a12 x_b.length c13) ?_
   refine mw (vp g 0) ?_
   refine cl wN (C_spec_l1Byte w3 g ca cc cb ⟨_, _, b25, (Rd.chP hcr m30 hcn), hcl, (by omega), hcn⟩) ?_
   rintro _ w4 ⟨x244, k243, ⟨i246, h247, b248, r249, l250, p251, n252⟩, rfl, q245⟩
   have m253 := ChG.ext m30 k243 (fun k hk => .inl hk)
   refine wl_conv8 (x244) wN rfl rfl (by kernel_rfl) ?_
   refine ltB ([(by8 (x244))] : List UInt8) wN slTy_22 ?_
   intro a254 c255 w5 k256 o257
   have m258 := ChG.extk m253 k256
   have o260 := (own_kp (own_ch (own_ch o15 k20 (ne1 o15 (hgl))) k243 (ne1 o15 (hgl))) k256)
   refine apB x_b ([(by8 (x244))] : List UInt8) wN slTy_22 o260 (Rd.of_own o257) (z5 k8 k14 k20 k243 k256) ?_
   intro a261 c262 w6 k263 o264 j265 s266
   have m267 := ChG.ext m258 k263 (fun k hk => .inr (Nat.le_trans (Nat.le_refl w0.heap.size) (own_lt o15 k hk).1))
   refine aw (vs a261 (x_b ++ ([(by8 (x244))] : List UInt8)).length c262) ?_
   refine wl_nil <| wq_blk_normal <| wq_then <| sr ?_
   refine mw (vs a261 (x_b ++ ([(by8 (x244))] : List UInt8)).length c262) ?_
   refine aw (vs a261 (x_b ++ ([(by8 (x244))] : List UInt8)).length c262) ?_
   refine n3 ?_
   refine rt (vs a261 (x_b ++ ([(by8 (x244))] : List UInt8)).length c262) ?_
   have b269 := ((b248.kp k256).ch k263 (fun h => by have := (own_lt o15 _ h).1; have := Nat.lt_of_lt_of_le hgl (Nat.le_refl w0.heap.size); omega))
   exact ⟨(x_b ++ ([(by8 (x244))] : List UInt8)), m267, ⟨_, _, b269, (Rd.chP hcr m267 hcn), hcl, (by omega), hcn⟩, ⟨_, _, rfl, o264, s266, ⟨trivial, trivial⟩⟩, trivial⟩
  have q219 := of_decide_eq_true h218
  refine ct h218 ?_
  refine sr ?_
  refine mw (vs a12 x_b.length c13) ?_
  have o220 := (own_ch o15 k20 (ne1 o15 (hgl)))
  refine ln wN slTy_22 (Rd.of_own o220) ?_
  refine pu (vb (decide (0 < (x_b.length : Int)))) wN ?_
  refine n2 ?_
  rcases bf (decide (0 < (x_b.length : Int))) with h221 | h221
  ·have q239 := of_decide_eq_false h221
   refine cf h221 ?_
   refine wc_skip <| wq_blk_normal <| wq_then <| sr ?_
   refine mw (vs a12 x_b.length c13) ?_
   refine aw (vs a12 x_b.length c13) ?_
   refine n3 ?_
   refine rt (vs a12 x_b.length c13) ?_
   exact ⟨x_b, m30, ⟨_, _, b25, (Rd.chP hcr m30 hcn), hcl, (by omega), hcn⟩, ⟨_, _, rfl, o220, s4, ⟨trivial, trivial⟩⟩, trivial⟩
  have q222 := of_decide_eq_true h221
  refine ct h221 ?_
  refine wc_region ?_
  refine mw (vs a12 x_b.length c13) ?_
  refine mw (vp g 0) ?_
  refine mw (vs a12 x_b.length c13) ?_
  refine ln wN slTy_22 (Rd.of_own o220) ?_
  refine cl wN (C_spec_l1Below w3 g ca cc cb ⟨_, _, b25, (Rd.chP hcr m30 hcn), hcl, (by omega), hcn⟩ (x_b.length : Int)) ?_
  rintro _ w4 ⟨x224, k223, ⟨i226, h227, b228, r229, l230, p231, n232⟩, rfl, q225⟩
  have m233 := ChG.ext m30 k223 (fun k hk => .inl hk)
  have o235 := (own_ch o220 k223 (ne1 o15 (hgl)))
  refine slv (x_b.take (((x224)).toNat)) 0 (((x224)).toNat) wN slTy_22 (Rd.of_own o235) (by first | omega | (simp only [List.length_cons, List.length_nil, List.length_replicate, List.length_append, List.length_take, List.length_set, List.length_map]; omega)) (by first | omega | (simp only [List.length_cons, List.length_nil, List.length_replicate, List.length_append, List.length_take, List.length_set, List.length_map]; omega)) (by first | rfl | (simp; done) | (rw [List.take_of_length_le (by first | (simp; done) | (simp; omega))])) rfl rfl rfl rfl (.inl ⟨rfl, rfl⟩) (.inr ⟨_, _, _, rfl, rfl, by omega⟩) ?_
  have o237 := own_pre (k := (((x224)).toNat)) o235 (by first | omega | (simp only [List.length_cons, List.length_nil, List.length_replicate, List.length_append, List.length_take, List.length_set, List.length_map]; omega))
  have s238 : (x_b.take (((x224)).toNat)).length ≤ 1073741824 := Nat.le_trans (by simp only [List.length_take]; omega) s4
  refine aw (vs (subA a12 c13 0 1) (x_b.take (((x224)).toNat)).length (c13 - 0)) ?_
  refine wl_nil <| wq_blk_normal <| wq_then <| sr ?_
  refine mw (vs (subA a12 c13 0 1) (x_b.take (((x224)).toNat)).length (c13 - 0)) ?_
  refine aw (vs (subA a12 c13 0 1) (x_b.take (((x224)).toNat)).length (c13 - 0)) ?_
  refine n3 ?_
  refine rt (vs (subA a12 c13 0 1) (x_b.take (((x224)).toNat)).length (c13 - 0)) ?_
  exact ⟨(x_b.take (((x224)).toNat)), m233, ⟨_, _, b228, (Rd.chP hcr m233 hcn), hcl, (by omega), hcn⟩, ⟨_, _, rfl, o237, s238, ⟨trivial, trivial⟩⟩, trivial⟩
 have q32 := of_decide_eq_true h31
 refine ct h31 ?_
 refine sr ?_
 refine mw (vs a12 x_b.length c13) ?_
 have o33 := (own_ch o15 k20 (ne1 o15 (hgl)))
 refine ln wN slTy_22 (Rd.of_own o33) ?_
 refine pu (vb (decide (0 < (x_b.length : Int)))) wN ?_
 refine n2 ?_
 rcases bf (decide (0 < (x_b.length : Int))) with h34 | h34
 ·have q216 := of_decide_eq_false h34
  refine cf h34 ?_
  refine wc_skip <| wq_blk_normal <| wq_then <| sr ?_
  refine mw (vs a12 x_b.length c13) ?_
  refine aw (vs a12 x_b.length c13) ?_
  refine n3 ?_
  refine rt (vs a12 x_b.length c13) ?_
  exact ⟨x_b, m30, ⟨_, _, b25, (Rd.chP hcr m30 hcn), hcl, (by omega), hcn⟩, ⟨_, _, rfl, o33, s4, ⟨trivial, trivial⟩⟩, trivial⟩
 have q35 := of_decide_eq_true h34
 refine ct h34 ?_
 refine sr ?_
 refine mw (vp g 0) ?_
 refine mw (vs a12 x_b.length c13) ?_
 refine ln wN slTy_22 (Rd.of_own o33) ?_
 refine cl wN (C_spec_l1Below w3 g ca cc cb ⟨_, _, b25, (Rd.chP hcr m30 hcn), hcl, (by omega), hcn⟩ (x_b.length : Int)) ?_
 rintro _ w4 ⟨x37, k36, ⟨i39, h40, b41, r42, l43, p44, n45⟩, rfl, q38⟩
 have m46 := ChG.ext m30 k36 (fun k hk => .inl hk)
 refine aw (vi (x37)) ?_
 refine n2 ?_
 refine wc_drawT ([(21, [], [], (fun _ v _ => v = (vs a12 x_b.length c13))), (22, [], [], (fun _ v _ => v = (vi (x37)))), (23, [], [], (fun _ v _ => v = (vs a12 x_b.length c13))), (24, [], [], (fun _ v _ => v = (vi (x37)))), (25, [], [2, 3], (fun _ v _ => v = (ve (vs a12 x_b.length c13) (((x37)).toNat * 1)))), (26, [], [2, 3, 4], (fun _ v _ => v = (v8 ((x_b.getD ((x37)).toNat 0).toNat : Int)))), (27, [], [], (fun _ v _ => v = (vp g 0))), (28, [], [6], (fun _ v _ => ∃ x64 : Int, v = (vi x64) ∧ 0 ≤ x64 ∧ (x64 < 255 ∨ ((255 : Int) ≤ 0 ∧ x64 = 0)))), (29, [], [6, 7], (fun _ v _ => ∃ z : Int, v = vi z)), (30, [], [6, 7, 8], (fun _ v _ => ∃ z : UInt8, v = .int .u8 (z.toNat : Int))), (31, [], [2, 3, 4, 5, 6, 7, 8, 9], (fun _ v _ => ∃ z : UInt8, v = .int .u8 (z.toNat : Int)))] : GV) (fun lf w' => Ch (fun k => k = g) w4 w' ∧ CurX w' g 111 ca cc cb) [(7, fun w w' => Ch (fun k => k = g) w w' ∧ (CurX w g 111 ca cc cb → CurX w' g 111 ca cc cb))] mixed rfl (by kernel_rfl) (by kernel_rfl) ?_ (fun _ _ h => ⟨h.to _, CurX.kp ⟨_, _, b41, (Rd.chP hcr m46 hcn), hcl, (by omega), hcn⟩ h⟩) (fun _ _ _ _ h mo k => by obtain ⟨hc, hcur⟩ := h; exact ⟨hc.comp k (fun _ _ q => q.elim), hcur.kp k⟩) ⟨(fun _ _ w w' h mo hj t => by obtain ⟨hc, hcur⟩ := h; exact ⟨hc.comp t.1 (fun _ _ q => q), t.2 hcur⟩), trivial⟩ ?_ ?_ ?_
 ·exact ⟨hV, hE, ⟨hV, hE, ⟨hV, hE, ⟨hV, hE, ⟨hV, hE, ⟨hV, hE, ⟨hV, hE, ⟨hV, hE, ⟨hV, hE, ⟨hV, hE, ⟨hV, hE, trivial⟩⟩⟩⟩⟩⟩⟩⟩⟩⟩⟩
 ·exact ⟨⟨.inr hV, ⟨.inr hV, ⟨.inr hV, ⟨.inr hV, ⟨.inr hV, ⟨.inr hV, ⟨.inr hV, ⟨.inl rfl, ⟨.inr hV, ⟨.inr hV, ⟨.inr hV, trivial⟩⟩⟩⟩⟩⟩⟩⟩⟩⟩⟩, trivial⟩
 ·refine ⟨?_, ⟨?_, ⟨?_, ⟨?_, ⟨?_, ⟨?_, ⟨?_, ⟨?_, ⟨?_, ⟨?_, ⟨?_, trivial⟩⟩⟩⟩⟩⟩⟩⟩⟩⟩⟩
  ·rintro lf w5 ⟨k68, ⟨i70, h71, b72, r73, l74, p75, n76⟩⟩ ⟨n69, -⟩
   rintro _ _ _ _ _ _ _ _ _ _ _
   show WL _ _ _ _ _ _ _
   refine mw (vs a12 x_b.length c13) ?_
   exact f1
  ·rintro lf w5 ⟨k78, ⟨i80, h81, b82, r83, l84, p85, n86⟩⟩ ⟨n79, -⟩
   rintro _ _ _ _ _ _ _ _ _ _ _
   show WL _ _ _ _ _ _ _
   refine mw (vi (x37)) ?_
   exact f1
  ·rintro lf w5 ⟨k88, ⟨i90, h91, b92, r93, l94, p95, n96⟩⟩ ⟨n89, -⟩
   rintro _ _ _ _ _ _ _ _ _ _ _
   show WL _ _ _ _ _ _ _
   refine mw (vs a12 x_b.length c13) ?_
   exact f1
  ·rintro lf w5 ⟨k98, ⟨i100, h101, b102, r103, l104, p105, n106⟩⟩ ⟨n99, -⟩
   rintro _ _ _ _ _ _ _ _ _ _ _
   show WL _ _ _ _ _ _ _
   refine mw (vi (x37)) ?_
   exact f1
  ·rintro lf w5 ⟨k108, ⟨i110, h111, b112, r113, l114, p115, n116⟩⟩ ⟨n109, -⟩
   rintro _ _ _ rfl _ rfl _ _ _ _ _ _ _
   show WL _ _ _ _ _ _ _
   have o118 := (own_ch (own_ch o33 k36 (ne1 o15 (hgl))) k108 (ne1 o15 (hgl)))
   refine ix wN (x37) slTy_22 (Rd.of_own o118) ?_
   exact f1
  ·rintro lf w5 ⟨k119, ⟨i121, h122, b123, r124, l125, p126, n127⟩⟩ ⟨n120, -⟩
   rintro _ _ _ rfl _ rfl _ rfl _ _ _ _ _ _
   show WL _ _ _ _ _ _ _
   have o130 := (own_ch (own_ch o33 k36 (ne1 o15 (hgl))) k119 (ne1 o15 (hgl)))
   refine eb (x := x_b) (((x37)).toNat) wN isAgg_5 (Rd.of_own o130) ?_
   exact f1
  ·rintro lf w5 ⟨k131, ⟨i133, h134, b135, r136, l137, p138, n139⟩⟩ ⟨n132, -⟩
   rintro _ _ _ _ _ _ _ _ _ _ _
   show WL _ _ _ _ _ _ _
   refine mw (vp g 0) ?_
   exact f1
  ·rintro lf w5 ⟨k141, ⟨i143, h144, b145, r146, l147, p148, n149⟩⟩ ⟨n142, -⟩
   have m150 := ChG.ext m46 k141 (fun k hk => .inl hk)
   rintro _ _ _ _ _ _ _ rfl _ _ _ _
   show WL _ _ _ _ _ _ _
   refine cl wN (C_spec_l1Below w5 g ca cc cb ⟨_, _, b145, (Rd.chP hcr m150 hcn), hcl, (by omega), hcn⟩ 255) ?_
   rintro _ w6 ⟨x152, k151, ⟨i154, h155, b156, r157, l158, p159, n160⟩, rfl, q153⟩
   have m161 := ChG.ext m150 k151 (fun k hk => .inl hk)
   exact wl_finT ⟨k151, fun _ => ⟨_, _, b156, (Rd.chP hcr m161 hcn), hcl, (by omega), hcn⟩⟩ ⟨_, rfl, q153⟩
  ·rintro lf w5 ⟨k162, ⟨i164, h165, b166, r167, l168, p169, n170⟩⟩ ⟨n163, -⟩
   rintro _ _ _ _ _ _ _ rfl _ ⟨x64, rfl, q172⟩ _ _ _
   show WL _ _ _ _ _ _ _
   refine ar (1 + x64) wN ?_
   exact wl_finT (Ch.refl _ _) ⟨_, rfl⟩
  ·rintro lf w5 ⟨k173, ⟨i175, h176, b177, r178, l179, p180, n181⟩⟩ ⟨n174, -⟩
   rintro _ _ _ _ _ _ _ rfl _ ⟨x64, rfl, q183⟩ _ ⟨x65, rfl⟩ _ _
   show WL _ _ _ _ _ _ _
   refine wl_conv8 x65 wN rfl rfl (by kernel_rfl) ?_
   exact wl_finT (Ch.refl _ _) ⟨_, rfl⟩
  ·rintro lf w5 ⟨k184, ⟨i186, h187, b188, r189, l190, p191, n192⟩⟩ ⟨n185, -⟩
   rintro _ _ _ rfl _ rfl _ rfl _ rfl _ rfl _ ⟨x64, rfl, q196⟩ _ ⟨x65, rfl⟩ _ ⟨x66, rfl⟩ _
   show WL _ _ _ _ _ _ _
   refine wl_xor8 (x_b.getD ((x37)).toNat 0) (x66) wN rfl rfl (by kernel_rfl) ?_
   exact wl_finT (Ch.refl _ _) ⟨_, rfl⟩
 ·rintro lf w5 ⟨k197, ⟨i199, h200, b201, r202, l203, p204, n205⟩⟩
  have m206 := ChG.ext m46 k197 (fun k hk => .inl hk)
  rintro _ rfl _ rfl _ rfl _ rfl _ rfl _ rfl _ rfl _ ⟨x64, rfl, q209⟩ _ ⟨x65, rfl⟩ _ ⟨x66, rfl⟩ _ ⟨x67, rfl⟩
  show WL _ _ _ _ _ _ _
  have o210 := (own_ch (own_ch o33 k36 (ne1 o15 (hgl))) k197 (ne1 o15 (hgl)))
  refine ix wN (x37) slTy_22 (Rd.of_own o210) ?_
  refine wl_storeB x_b (((x37)).toNat) ((x67)) wN rfl rfl rfl (by simp) rfl sizeOf_5 o210 (by first | omega | (simp only [List.length_append, List.length_replicate, List.length_take, List.length_set, List.length_map]; omega)) ?_
  intro w6 k211 o212
  have m213 := ChG.ext m206 k211 (fun k hk => .inr (Nat.le_trans (Nat.le_refl w0.heap.size) (own_lt o15 k hk).1))
  refine wl_nil <| wq_blk_normal <| wq_then <| sr ?_
  refine mw (vs a12 x_b.length c13) ?_
  refine aw (vs a12 x_b.length c13) ?_
  refine n3 ?_
  refine rt (vs a12 x_b.length c13) ?_
  have hN214 : x_b.length = ((x_b.set (((x37)).toNat) (x67))).length := by first | (simp only [List.length_append, List.length_take, List.length_replicate, List.length_set, List.length_map]; done) | (simp only [List.length_append, List.length_take, List.length_replicate, List.length_set, List.length_map]; omega)
  rw [hN214] at o212 ⊢
  have b215 := (b201.ch k211 (fun h => by have := (own_lt o15 _ h).1; have := Nat.lt_of_lt_of_le hgl (Nat.le_refl w0.heap.size); omega))
  exact ⟨(x_b.set (((x37)).toNat) (x67)), m213, ⟨_, _, b215, (Rd.chP hcr m213 hcn), hcl, (by omega), hcn⟩, ⟨_, _, rfl, o212, (by rw [← hN214]; exact s4), ⟨trivial, trivial⟩⟩, trivial⟩

def O_28_3_25_22 (w : World) (lo : Nat) (v : Value) (x : (PPaths) × (Int) × (PAddr) × (List UInt8)) : Prop := ∃ (a1 : Option Addr) (c1 : Nat) (a2 : Option Addr) (c2 : Nat), v = .tuple #[.agg #[.int .i64 x.1.At.Host, .int .i64 x.1.At.Port, .slice a1 x.1.Cands.length c1], .int .i64 x.2.1, .agg #[.int .i64 x.2.2.1.Host, .int .i64 x.2.2.1.Port], .slice a2 x.2.2.2.length c2] ∧ OLv LT_34 w lo w.heap.size a1 x.1.Cands.length c1 x.1.Cands ∧ x.1.Cands.length ≤ 1073741824 ∧ w.ownsRow lo 5 1 (.slice a2 x.2.2.2.length c2) x.2.2.2.length (x.2.2.2.map bV) ∧ x.2.2.2.length ≤ 1073741824 ∧ Aps [(a1, c1), (a2, c2)]
theorem C_spec_DrawAnswer (w0 : World) (v_x_code : Value) (x_code : List UInt8) (r_x_code : R_22 w0 v_x_code x_code)  : Fn Try.prog 9 #[v_x_code] w0 (fun v w' => ∃ x : (PPaths) × (Int) × (PAddr) × (List UInt8), Keep w0 w' ∧ O_28_3_25_22 w' w0.heap.size v x ∧ (True)) := by
 obtain ⟨a1, c2, rfl, r3, s4⟩ := r_x_code
 refine fn_ofS (n := 50) [(vs a1 x_code.length c2)] Try.func9 rfl rfl ?_
 refine sr ?_
 refine al [(vi 0), (vi 0), (vs none 0 0)] wN zero_28 ?_
 intro g6 w1 p7 p8 k9 b10
 refine aw (vi 0) ?_
 refine al [(vi 0), (vi 0)] wN zero_25 ?_
 intro g12 w2 p13 p14 k15 b16
 have m17 := ((Ch.base w0).extk k9).extk k15
 refine aw (vs none 0 0) ?_
 refine nx ?_
 refine mw (vs a1 x_code.length c2) ?_
 refine cl wN (C_spec_l1New w2 _ x_code (mR_22 (r3.from0 m17) s4)) ?_
 rintro _ w3 ⟨g19, k18, p20, rfl, hc28⟩
 obtain ⟨i21, h22, b23, r24, l25, p26, n27⟩ := hc28 _ _ rfl
 have m29 := m17.extk k18
 refine aw (vp g19 0) ?_
 refine nx ?_
 refine mw (vp g19 0) ?_
 refine cl wN (C_spec_l16Any w3 g19 a1 c2 x_code ⟨_, _, b23, (r3.from0 m29), s4, (by omega), (fun h0 z hz => Nat.ne_of_lt (Nat.lt_of_lt_of_le (rd_posB r3 h0 z hz) (Nat.le_trans (z2 k9 k15) p20)))⟩) ?_
 rintro _ w4 ⟨x31, k30, ⟨i39, h40, b41, r42, l43, p44, n45⟩, ⟨a33, c34, rfl, o35, s36, ap38⟩, q32⟩
 have m46 := m29.ext k30 (fun k hk => by subst hk; exact Nat.le_trans (z2 k9 k15) p20)
 obtain ⟨y47, o48⟩ := OLv.ow o35
 refine al [(vi 0), (vi 0), (vs none 0 0)] wN zero_28 ?_
 intro g49 w5 p50 p51 k52 b53
 refine sv (L_28 (x31) a33 c34) wN sizeOf_28 b53 ?_
 intro w6 k55 b56 z57
 have m58 := (m46.extk k52).ext k55 (fun k hk => by subst hk; exact Nat.le_trans (z4 k9 k15 k18 k30) p50)
 refine nx ?_
 refine mw (vp g19 0) ?_
 refine ltI ([0, 3, 5, 6, 8, 10, 12, 1000001, (-1)] : List Int) wN slTy_56 ?_
 intro a59 c60 w7 k61 o62
 have m63 := m58.extk k61
 have b65 := (((b41.kp k52).ch k55 (Nat.ne_of_lt (Nat.lt_of_lt_of_le (Blk.lt b23) (Nat.le_trans k30.size p50)))).kp k61)
 refine cl wN (C_spec_l1Int w7 g19 a1 c2 x_code ⟨_, _, b65, (r3.from0 m63), s4, (by omega), (fun h0 z hz => Nat.ne_of_lt (Nat.lt_of_lt_of_le (rd_posB r3 h0 z hz) (Nat.le_trans (z2 k9 k15) p20)))⟩ _ ([0, 3, 5, 6, 8, 10, 12, 1000001, (-1)] : List Int) ⟨_, _, rfl, (Rd.of_own o62), (by simp), (fun _ z hz => by have h1 := (own_lt o62 z.block (by rw [hz]; rfl)).1; have h2 := Nat.lt_of_lt_of_le (Blk.lt b23) (z3 k30 k52 k55); omega)⟩ (by simp)) ?_
 rintro _ w8 ⟨x67, k66, ⟨i69, h70, b71, r72, l73, p74, n75⟩, rfl, q68⟩
 have m76 := m63.ext k66 (fun k hk => by subst hk; exact Nat.le_trans (z2 k9 k15) p20)
 have q68m : x67 = 0 ∨ x67 = 3 ∨ x67 = 5 ∨ x67 = 6 ∨ x67 = 8 ∨ x67 = 10 ∨ x67 = 12 ∨ x67 = 1000001 ∨ x67 = (-1) := by simpa only [List.mem_cons, List.not_mem_nil, or_false] using q68
 refine aw (vi (x67)) ?_
 refine n4 ?_
 refine pu (vp g49 2) wN ?_
 have b77 := ((b56.kp k61).ch k66 (Ne.symm (Nat.ne_of_lt (Nat.lt_of_lt_of_le (Blk.lt b23) (Nat.le_trans k30.size p50)))))
 refine ld (vs a33 ((x31).Cands).length c34) wN isAgg_26 b77 ?_
 have o80 := (OLv.ch (OLv.kp (OLv.ch (OLv.kp o35 k52) k55 (fun g h1 h2 hk => by have h3 := Nat.le_trans (Nat.le_refl w4.heap.size) p50; omega)) k61) k66 (fun g h1 h2 hk => by have h3 := Nat.lt_of_lt_of_le (Blk.lt b23) (Nat.le_refl w3.heap.size); omega))
 obtain ⟨y78, r79⟩ := RLv.row (OLv.rl o80)
 refine ln wN slTy_26 r79 ?_
 refine pu (vb (decide ((((x31).Cands).length : Int) = 0))) wN ?_
 refine n2 ?_
 rcases bt (decide ((((x31).Cands).length : Int) = 0)) with h81 | h81
 ·have q82 := of_decide_eq_true h81
  refine ct h81 ?_
  refine wc_seq ?_
  have b115 := (((((((b10.kp k15).kp k18).ch k30 (Nat.ne_of_lt (Nat.lt_of_lt_of_le p8 (Nat.le_trans k15.size p20)))).kp k52).ch k55 (Nat.ne_of_lt (Nat.lt_of_lt_of_le p8 (Nat.le_trans (z3 k15 k18 k30) p50)))).kp k61).ch k66 (Nat.ne_of_lt (Nat.lt_of_lt_of_le p8 (Nat.le_trans k15.size p20))))
  refine wc_drawT ([(22, [], [], (fun _ v _ => v = (va (L_28 (x31) a33 c34)))), (23, [], [], (fun _ v _ => v = (vi (x67)))), (24, [], [], (fun _ v w => v = .agg #[.int .i64 ((F_spec_Near 1).Host), .int .i64 ((F_spec_Near 1).Port)])), (25, [], [], (fun _ v _ => v = (vp g19 0))), (26, [], [2, 3], (fun _ v w => ∃ (x113 : List UInt8) (a1 : Option Addr) (c1 : Nat), v = .slice a1 x113.length c1 ∧ w.ownsRow w8.heap.size 5 1 (.slice a1 x113.length c1) x113.length (x113.map bV) ∧ x113.length ≤ 1073741824 ∧ x113.length = (12 : Int).toNat)), (55, [], [0, 2, 3, 4], (fun _ _ w => BK w g6 28 0 ((L_28 (x31) a33 c34))))] : GV) (fun lf w' => Ch (fun k => k = g6 ∨ k = g19) w8 w' ∧ RK lf w' g6 28 [(vi 0), (vi 0), (vs none 0 0)] [(5, 0, 3)] ∧ CurX w' g19 111 a1 c2 x_code) [(4, fun w w' => Ch (fun k => k = g19) w w' ∧ (CurX w g19 111 a1 c2 x_code → CurX w' g19 111 a1 c2 x_code)), (5, TK g6 28 0 3)] mixed rfl (by kernel_rfl) (by kernel_rfl) ?_ (fun _ _ h => ⟨h.to _, RK.z b115 h, CurX.kp ⟨_, _, b71, (r3.from0 m76), s4, (by omega), (fun h0 z hz => Nat.ne_of_lt (Nat.lt_of_lt_of_le (rd_posB r3 h0 z hz) (Nat.le_trans (z2 k9 k15) p20)))⟩ h⟩) (fun _ _ _ _ h mo k => by obtain ⟨hc, hbg6, hcur⟩ := h; exact ⟨hc.comp k (fun _ _ q => q.elim), hbg6.kp mo k, hcur.kp k⟩) ⟨(fun _ _ w w' h mo hj t => by obtain ⟨hc, hbg6, hcur⟩ := h; exact ⟨hc.comp t.1 (fun _ _ q => (.inr q)), hbg6.ch mo t.1 (Nat.ne_of_lt (Nat.lt_of_lt_of_le p8 (Nat.le_trans k15.size p20))), t.2 hcur⟩), ⟨(fun _ _ w w' h mo hj t => by obtain ⟨hc, hbg6, hcur⟩ := h; exact ⟨hc.comp t.1 (fun _ _ q => (.inl q)), hbg6.st mo hj (.head _) t, hcur.ch t.1 (Ne.symm (Nat.ne_of_lt (Nat.lt_of_lt_of_le p8 (Nat.le_trans k15.size p20)))) (fun h0 z hz => Nat.ne_of_lt (Nat.lt_of_lt_of_le (rd_posB r3 h0 z hz) (p7)))⟩), trivial⟩⟩ ?_ ?_ ?_
  ·exact ⟨hV, hE, ⟨hV, hE, ⟨hV, hE, ⟨hV, hE, ⟨(fun e v w w1 h hk => by obtain ⟨x0x, a0x, c0x, he, o0x, l0x, p0x⟩ := h; exact ⟨x0x, a0x, c0x, he, own_kp o0x hk, l0x, p0x⟩), hE, ⟨sK, hE, trivial⟩⟩⟩⟩⟩⟩
  ·exact ⟨⟨.inr hV, ⟨.inr hV, ⟨.inr hV, ⟨.inr hV, ⟨.inl rfl, ⟨.inr (sKo (fun _ _ t => t.1) (Nat.ne_of_lt (Nat.lt_of_lt_of_le p8 (Nat.le_trans k15.size p20)))), trivial⟩⟩⟩⟩⟩⟩, ⟨⟨.inr hV, ⟨.inr hV, ⟨.inr hV, ⟨.inr hV, ⟨.inr (fun e v wX wY h ht => by obtain ⟨x0x, a0x, c0x, he, o0x, l0x, p0x⟩ := h; exact ⟨x0x, a0x, c0x, he, own_ch o0x ht.1 (fun gq hg _ hk => by have h1 := (own_lt o0x gq hg).1; have h3 : gq = g6 := hk; have h4 := (Nat.lt_of_lt_of_le p8 (z7 k15 k18 k30 k52 k55 k61 k66)); omega), l0x, p0x⟩), ⟨.inl rfl, trivial⟩⟩⟩⟩⟩⟩, trivial⟩⟩
  ·refine ⟨?_, ⟨?_, ⟨?_, ⟨?_, ⟨?_, ⟨?_, trivial⟩⟩⟩⟩⟩⟩
   ·rintro lf w9 ⟨k116, b117, ⟨i120, h121, b122, r123, l124, p125, n126⟩⟩ ⟨n118, n119, -⟩
    rintro _ _ _ _ _ _
    show WL _ _ _ _ _ _ _
    have b128 := (b77.ch k116 (fun h => Or.elim h (Ne.symm (Nat.ne_of_lt (Nat.lt_of_lt_of_le p8 (Nat.le_trans (z3 k15 k18 k30) p50)))) (Ne.symm (Nat.ne_of_lt (Nat.lt_of_lt_of_le (Blk.lt b23) (Nat.le_trans k30.size p50))))))
    refine lN (L_28 (x31) a33 c34) wN isAgg_28 sizeOf_28 b128 ?_
    exact f1
   ·rintro lf w9 ⟨k129, b130, ⟨i133, h134, b135, r136, l137, p138, n139⟩⟩ ⟨n131, n132, -⟩
    rintro _ _ _ _ _ _
    show WL _ _ _ _ _ _ _
    refine mw (vi (x67)) ?_
    exact f1
   ·rintro lf w9 ⟨k141, b142, ⟨i145, h146, b147, r148, l149, p150, n151⟩⟩ ⟨n143, n144, -⟩
    rintro _ _ _ _ _ _
    show WL _ _ _ _ _ _ _
    refine cl wN (C_spec_Near w9 1) ?_
    rintro _ w10 ⟨k154, rfl⟩
    exact wl_finT k154 rfl
   ·rintro lf w9 ⟨k156, b157, ⟨i160, h161, b162, r163, l164, p165, n166⟩⟩ ⟨n158, n159, -⟩
    rintro _ _ _ _ _ _
    show WL _ _ _ _ _ _ _
    refine mw (vp g19 0) ?_
    exact f1
   ·rintro lf w9 ⟨k168, b169, ⟨i172, h173, b174, r175, l176, p177, n178⟩⟩ ⟨n170, n171, -⟩
    have m179 := m76.ext k168 (fun k hk => (fun hk => Or.elim hk (fun hk => by subst hk; exact p7) (fun hk => by subst hk; exact Nat.le_trans (z2 k9 k15) p20)) hk)
    rintro _ _ _ rfl _ rfl _ _
    show WL _ _ _ _ _ _ _
    refine cl wN (C_spec_l1Bytes w9 g19 a1 c2 x_code ⟨_, _, b174, (r3.from0 m179), s4, (by omega), (fun h0 z hz => Nat.ne_of_lt (Nat.lt_of_lt_of_le (rd_posB r3 h0 z hz) (Nat.le_trans (z2 k9 k15) p20)))⟩ 12 (by omega)) ?_
    rintro _ w10 ⟨x182, k181, ⟨i190, h191, b192, r193, l194, p195, n196⟩, ⟨a184, c185, rfl, o186, s187, ap189⟩, q183⟩
    have m197 := m179.ext k181 (fun k hk => by subst hk; exact Nat.le_trans (z2 k9 k15) p20)
    exact wl_finT ⟨k181, fun _ => ⟨_, _, b192, (r3.from0 m197), s4, (by omega), (fun h0 z hz => Nat.ne_of_lt (Nat.lt_of_lt_of_le (rd_posB r3 h0 z hz) (Nat.le_trans (z2 k9 k15) p20)))⟩⟩ ⟨_, _, _, rfl, own_lo o186 k168.size, s187, q183⟩
   ·rintro lf w9 ⟨k198, b199, ⟨i202, h203, b204, r205, l206, p207, n208⟩⟩ ⟨n200, n201, -⟩
    rintro _ rfl _ _ rfl _ rfl _ ⟨x113, a212, c213, rfl, o214, s215, q211⟩ _
    show WL _ _ _ _ _ _ _
    exact stK (va (L_28 (x31) a33 c34)) (L_28 (x31) a33 c34) wN sizeOf_28 b199 (fun _ h => h) (fun _ t => t)
  ·rintro lf w9 ⟨k217, b218, ⟨i221, h222, b223, r224, l225, p226, n227⟩⟩
   have m228 := m76.ext k217 (fun k hk => (fun hk => Or.elim hk (fun hk => by subst hk; exact p7) (fun hk => by subst hk; exact Nat.le_trans (z2 k9 k15) p20)) hk)
   rintro _ rfl _ rfl _ rfl _ rfl _ ⟨x113, a231, c232, rfl, o233, s234, q230⟩ _ b236
   have b237 : Blk w9 g6 28 (L_28 (x31) a33 c34) := RK.fin b218 [(0, (L_28 (x31) a33 c34))] ⟨b236, trivial⟩
   show WL _ _ _ _ _ _ _
   refine aw (vi (x67)) ?_
   have zz10 := Nat.lt_of_lt_of_le p14 (p20)
   have b238 := (((((((b16.kp k18).ch k30 (Nat.ne_of_lt zz10)).kp k52).ch k55 (Nat.ne_of_lt (Nat.lt_of_lt_of_le p14 (Nat.le_trans (z2 k18 k30) p50)))).kp k61).ch k66 (Nat.ne_of_lt zz10)).ch k217 (fun h => Or.elim h (Ne.symm (Nat.ne_of_lt (Nat.lt_of_lt_of_le p8 (p13)))) (Nat.ne_of_lt zz10)))
   refine st (va (L_25 (F_spec_Near 1))) (L_25 (F_spec_Near 1)) (L_25 (F_spec_Near 1)) wN sizeOf_25 b238 ?_
   intro w10 k239 b240 z241
   have m242 := m228.ext k239 (fun k hk => by subst hk; exact Nat.le_trans k9.size p13)
   refine aw (vs a231 x113.length c232) ?_
   refine n1 ?_
   have b243 := (b237.ch k239 (Nat.ne_of_lt (Nat.lt_of_lt_of_le p8 (p13))))
   have o244 := (OLv.ch (OLv.ch o80 k217 (fun g h1 h2 hk => Or.elim hk (fun hk => (fun g h1 h2 hk => by have h3 := Nat.lt_of_lt_of_le p8 (z2 k15 k18); omega) g h1 h2 hk) (fun hk => (fun g h1 h2 hk => by have h3 := Nat.lt_of_lt_of_le (Blk.lt b23) (Nat.le_refl w3.heap.size); omega) g h1 h2 hk))) k239 (fun g h1 h2 hk => by have h3 := Nat.lt_of_lt_of_le p14 k18.size; omega))
   have o245 := (own_ch o233 k239 (ne1 o233 (Nat.lt_of_lt_of_le p14 (z6 k18 k30 k52 k55 k61 k66))))
   refine ret_4 (.inl rfl) (va (L_28 (x31) a33 c34)) (vi (x67)) (va (L_25 (F_spec_Near 1))) (vs a231 x113.length c232) rfl (rv_c (L_28 (x31) a33 c34) rfl b243 isAgg_28 sizeOf_28) rfl (rv_c (L_25 (F_spec_Near 1)) rfl b240 isAgg_25 sizeOf_25) rfl ?_
   exact ⟨((x31), (x67), (F_spec_Near 1), x113), m242.keep0, ⟨_, _, _, _, rfl, (OLv.now (OLv.low o244 (z3 k9 k15 k18))), s36, (own_lo o245 (z8 k9 k15 k18 k30 k52 k55 k61 k66)), s234, ⟨⟨(apX (apL o35) (apO o233) (z4 k52 k55 k61 k66)), trivial⟩, ⟨trivial, trivial⟩⟩⟩, trivial⟩
 have q246 := of_decide_eq_false h81
 refine cf h81 ?_
 refine wc_skip <| wq_then <| wc_seq ?_
 refine wc_drawT ([(27, [], [], (fun _ v _ => v = (vp g49 2))), (28, [], [0], (fun _ v _ => v = (vs a33 ((x31).Cands).length c34))), (29, [], [], (fun _ v _ => v = (vp g19 0))), (30, [], [], (fun _ v _ => v = (vp g49 2))), (31, [], [3], (fun _ v _ => v = (vs a33 ((x31).Cands).length c34))), (32, [], [3, 4], (fun _ v _ => v = (vi (((x31).Cands).length : Int)))), (33, [], [2, 3, 4, 5], (fun _ v _ => ∃ x287 : Int, v = (vi x287) ∧ 0 ≤ x287 ∧ (x287 < (((x31).Cands).length : Int) ∨ (((((x31).Cands).length : Int) : Int) ≤ 0 ∧ x287 = 0)))), (34, [], [0, 1, 2, 3, 4, 5, 6], (fun _ v _ => ∃ x290 : Int, v = (ve (vs a33 ((x31).Cands).length c34) ((x290).toNat * 4)) ∧ 0 ≤ x290 ∧ x290 < (((x31).Cands).length : Int))), (35, [], [0, 1, 2, 3, 4, 5, 6, 7], (fun _ v w => ∃ (z291 : PCand), ∃ (a1 : Option Addr) (c1 : Nat), v = .agg #[.int .i64 (((z291).A).Host), .int .i64 (((z291).A).Port), .slice a1 ((z291).Draw).length c1, .int .i64 ((z291).Until)] ∧ w.ownsRow (w3.heap.size) 5 1 (.slice a1 ((z291).Draw).length c1) ((z291).Draw).length (((z291).Draw).map bV) ∧ ((z291).Draw).length ≤ 1073741824 ∧ Aps [(a1, c1)] ∧ z291.Draw.length ≤ 100000)), (9, [], [], (fun _ v w => ∃ (g : Nat) (x0 x1 x2 x3 : Value), v = vp g 0 ∧ w8.heap.size ≤ g ∧ Blk w g 34 [x0, x1, x2, x3]))] : GV) (fun lf w' => Ch (fun k => k = g19) w8 w' ∧ CurX w' g19 111 a1 c2 x_code) [(6, fun w w' => Ch (fun k => k = g19) w w' ∧ (CurX w g19 111 a1 c2 x_code → CurX w' g19 111 a1 c2 x_code))] mixed rfl (by kernel_rfl) (by kernel_rfl) ?_ (fun _ _ h => ⟨h.to _, CurX.kp ⟨_, _, b71, (r3.from0 m76), s4, (by omega), (fun h0 z hz => Nat.ne_of_lt (Nat.lt_of_lt_of_le (rd_posB r3 h0 z hz) (Nat.le_trans (z2 k9 k15) p20)))⟩ h⟩) (fun _ _ _ _ h mo k => by obtain ⟨hc, hcur⟩ := h; exact ⟨hc.comp k (fun _ _ q => q.elim), hcur.kp k⟩) ⟨(fun _ _ w w' h mo hj t => by obtain ⟨hc, hcur⟩ := h; exact ⟨hc.comp t.1 (fun _ _ q => q), t.2 hcur⟩), trivial⟩ ?_ ?_ ?_
 ·exact ⟨hV, hE, ⟨hV, hE, ⟨hV, hE, ⟨hV, hE, ⟨hV, hE, ⟨hV, hE, ⟨hV, hE, ⟨hV, hE, ⟨(fun e v w w1 h hk => by obtain ⟨z0x, a0x, c0x, he, o0x, l0x, hap⟩ := h; exact ⟨z0x, a0x, c0x, he, own_kp o0x hk, l0x, hap⟩), hE, ⟨(fun e v w w1 h hk => by obtain ⟨g, x0, x1, x2, x3, he, hle, hb⟩ := h; exact ⟨g, _, _, _, _, he, hle, hb.kp hk⟩), hE, trivial⟩⟩⟩⟩⟩⟩⟩⟩⟩⟩
 ·exact ⟨⟨.inr hV, ⟨.inr hV, ⟨.inr hV, ⟨.inr hV, ⟨.inr hV, ⟨.inr hV, ⟨.inl rfl, ⟨.inr hV, ⟨.inr (fun e v wX wY h ht => by obtain ⟨z0x, a0x, c0x, he, o0x, l0x, hap⟩ := h; exact ⟨z0x, a0x, c0x, he, own_ch o0x ht.1 (fun gq hg _ hk => by have h1 := (own_lt o0x gq hg).1; have h3 : gq = g19 := hk; have h4 := Nat.lt_of_lt_of_le (Blk.lt b23) (Nat.le_refl w3.heap.size); omega), l0x, hap⟩), ⟨.inr (fun e v wX wY h ht => by obtain ⟨g, x0, x1, x2, x3, he, hle, hb⟩ := h; exact ⟨g, _, _, _, _, he, hle, hb.ch ht.1 (fun q => by have h3 : g = g19 := q; have h4 := (Nat.lt_of_lt_of_le (Blk.lt b23) (z5 k30 k52 k55 k61 k66)); omega)⟩), trivial⟩⟩⟩⟩⟩⟩⟩⟩⟩⟩, trivial⟩
 ·refine ⟨?_, ⟨?_, ⟨?_, ⟨?_, ⟨?_, ⟨?_, ⟨?_, ⟨?_, ⟨?_, ⟨?_, trivial⟩⟩⟩⟩⟩⟩⟩⟩⟩⟩
  ·rintro lf w9 ⟨k299, ⟨i301, h302, b303, r304, l305, p306, n307⟩⟩ ⟨n300, -⟩
   rintro _ _ _ _ _ _ _ _ _ _
   show WL _ _ _ _ _ _ _
   refine pu (vp g49 2) wN ?_
   exact f1
  ·rintro lf w9 ⟨k309, ⟨i311, h312, b313, r314, l315, p316, n317⟩⟩ ⟨n310, -⟩
   rintro _ rfl _ _ _ _ _ _ _ _ _
   show WL _ _ _ _ _ _ _
   have b319 := (b77.ch k309 (Ne.symm (Nat.ne_of_lt (Nat.lt_of_lt_of_le (Blk.lt b23) (Nat.le_trans k30.size p50)))))
   refine ld (vs a33 ((x31).Cands).length c34) wN isAgg_26 b319 ?_
   exact f1
  ·rintro lf w9 ⟨k320, ⟨i322, h323, b324, r325, l326, p327, n328⟩⟩ ⟨n321, -⟩
   rintro _ _ _ _ _ _ _ _ _ _
   show WL _ _ _ _ _ _ _
   refine mw (vp g19 0) ?_
   exact f1
  ·rintro lf w9 ⟨k330, ⟨i332, h333, b334, r335, l336, p337, n338⟩⟩ ⟨n331, -⟩
   rintro _ _ _ _ _ _ _ _ _ _
   show WL _ _ _ _ _ _ _
   refine pu (vp g49 2) wN ?_
   exact f1
  ·rintro lf w9 ⟨k340, ⟨i342, h343, b344, r345, l346, p347, n348⟩⟩ ⟨n341, -⟩
   rintro _ _ _ _ rfl _ _ _ _ _ _
   show WL _ _ _ _ _ _ _
   have b350 := (b77.ch k340 (Ne.symm (Nat.ne_of_lt (Nat.lt_of_lt_of_le (Blk.lt b23) (Nat.le_trans k30.size p50)))))
   refine ld (vs a33 ((x31).Cands).length c34) wN isAgg_26 b350 ?_
   exact f1
  ·rintro lf w9 ⟨k351, ⟨i353, h354, b355, r356, l357, p358, n359⟩⟩ ⟨n352, -⟩
   rintro _ _ _ _ rfl _ rfl _ _ _ _ _
   show WL _ _ _ _ _ _ _
   have o364 := (OLv.ch o80 k351 (fun g h1 h2 hk => by have h3 := Nat.lt_of_lt_of_le (Blk.lt b23) (Nat.le_refl w3.heap.size); omega))
   obtain ⟨y362, r363⟩ := RLv.row (OLv.rl o364)
   refine ln wN slTy_26 r363 ?_
   exact f1
  ·rintro lf w9 ⟨k365, ⟨i367, h368, b369, r370, l371, p372, n373⟩⟩ ⟨n366, -⟩
   have m374 := m76.ext k365 (fun k hk => by subst hk; exact Nat.le_trans (z2 k9 k15) p20)
   rintro _ _ _ rfl _ rfl _ rfl _ rfl _ _ _ _
   show WL _ _ _ _ _ _ _
   refine cl wN (C_spec_l1Below w9 g19 a1 c2 x_code ⟨_, _, b369, (r3.from0 m374), s4, (by omega), (fun h0 z hz => Nat.ne_of_lt (Nat.lt_of_lt_of_le (rd_posB r3 h0 z hz) (Nat.le_trans (z2 k9 k15) p20)))⟩ (((x31).Cands).length : Int)) ?_
   rintro _ w10 ⟨x380, k379, ⟨i382, h383, b384, r385, l386, p387, n388⟩, rfl, q381⟩
   have m389 := m374.ext k379 (fun k hk => by subst hk; exact Nat.le_trans (z2 k9 k15) p20)
   exact wl_finT ⟨k379, fun _ => ⟨_, _, b384, (r3.from0 m389), s4, (by omega), (fun h0 z hz => Nat.ne_of_lt (Nat.lt_of_lt_of_le (rd_posB r3 h0 z hz) (Nat.le_trans (z2 k9 k15) p20)))⟩⟩ ⟨_, rfl, q381⟩
  ·rintro lf w9 ⟨k390, ⟨i392, h393, b394, r395, l396, p397, n398⟩⟩ ⟨n391, -⟩
   rintro _ rfl _ rfl _ rfl _ rfl _ rfl _ rfl _ ⟨x287, rfl, q405⟩ _ _ _
   show WL _ _ _ _ _ _ _
   have o408 := (OLv.ch o80 k390 (fun g h1 h2 hk => by have h3 := Nat.lt_of_lt_of_le (Blk.lt b23) (Nat.le_refl w3.heap.size); omega))
   obtain ⟨y406, r407⟩ := RLv.row (OLv.rl o408)
   refine ix wN x287 slTy_26 r407 ?_
   exact wl_finT (Ch.refl _ _) ⟨_, rfl, by omega, by omega⟩
  ·rintro lf w9 ⟨k409, ⟨i411, h412, b413, r414, l415, p416, n417⟩⟩ ⟨n410, -⟩
   rintro _ rfl _ rfl _ rfl _ rfl _ rfl _ rfl _ ⟨x287, rfl, q424⟩ _ ⟨x290, rfl, q425, q426⟩ _ _
   show WL _ _ _ _ _ _ _
   have o427 := (OLv.ch o80 k409 (fun g h1 h2 hk => by have h3 := Nat.lt_of_lt_of_le (Blk.lt b23) (Nat.le_refl w3.heap.size); omega))
   obtain ⟨y428, l429, r430, e431, u432⟩ := OLv.el z_PCand (i := (x290).toNat) o427 (by first | omega | (simp only [List.length_cons, List.length_nil, List.length_replicate, List.length_append, List.length_take, List.length_set, List.length_map]; omega))
   obtain ⟨a433, c434, l438, rfl, r435, s436, u439⟩ := SubO.c u432
   obtain rfl := SubO.n u439
   refine wl_loadEN [(vi (((((x31).Cands).getD (x290).toNat z_PCand).A).Host)), (vi (((((x31).Cands).getD (x290).toNat z_PCand).A).Port)), (vs a433 (((x31).Cands).getD (x290).toNat z_PCand).Draw.length c434), (vi ((((x31).Cands).getD (x290).toNat z_PCand).Until))] wN rfl rfl rfl rfl isAgg_34 sizeOf_34 r430 (by first | omega | (simp only [List.length_cons, List.length_nil, List.length_replicate, List.length_append, List.length_take, List.length_set, List.length_map]; omega)) ((part_of (off := 0) (n := 4) e431 (by first | rfl | simp | omega) (by decide)).trans rfl) ?_
   exact wl_finT (Ch.refl _ _) ⟨(((x31).Cands).getD (x290).toNat z_PCand), _, _, rfl, r435, s436, ⟨trivial, trivial⟩, (small_el (by assumption) (by omega))⟩
  ·rintro lf w9 ⟨k440, ⟨i442, h443, b444, r445, l446, p447, n448⟩⟩ ⟨n441, -⟩
   rintro _ _ _ _ _ _ _ _ _ _
   show WL _ _ _ _ _ _ _
   refine al Z_34 wN zero_34 ?_
   intro g450 w10 p451 p452 k453 b454
   exact wl_finT k453 ⟨_, _, _, _, _, rfl, (Nat.le_trans k440.size p451), b454⟩
 ·rintro lf w9 ⟨k456, ⟨i458, h459, b460, r461, l462, p463, n464⟩⟩
  have m465 := m76.ext k456 (fun k hk => by subst hk; exact Nat.le_trans (z2 k9 k15) p20)
  rintro _ rfl _ rfl _ rfl _ rfl _ rfl _ rfl _ ⟨x287, rfl, q471⟩ _ ⟨x290, rfl, q472, q473⟩ _ ⟨z291, a474, c475, rfl, o476, s477, ap479, q480⟩ _ ⟨g481, x484, x485, x486, x487, rfl, p482, b483⟩
  show WL _ _ _ _ _ _ _
  refine sv (L_34 (z291) a474 c475) wN sizeOf_34 b483 ?_
  intro w10 k488 b489 z490
  have m491 := m465.ext k488 (fun k hk => by subst hk; exact Nat.le_trans (z8 k9 k15 k18 k30 k52 k55 k61 k66) p482)
  refine nx ?_
  refine pu (vp g481 0) wN ?_
  refine lN (L_25 ((z291).A)) wN isAgg_25 sizeOf_25 b489 ?_
  refine al [(vi 0), (vi 0)] wN zero_25 ?_
  intro g492 w11 p493 p494 k495 b496
  refine st (va (L_25 ((z291).A))) (L_25 ((z291).A)) (L_25 ((z291).A)) wN sizeOf_25 b496 ?_
  intro w12 k498 b499 z500
  have m501 := (m491.extk k495).ext k498 (fun k hk => by subst hk; exact Nat.le_trans (z10 k9 k15 k18 k30 k52 k55 k61 k66 k456 k488) p493)
  refine n4 ?_
  refine mw (vp g19 0) ?_
  have b502 := (((b460.ch k488 (Nat.ne_of_lt (Nat.lt_of_lt_of_le (Blk.lt b23) (Nat.le_trans (z5 k30 k52 k55 k61 k66) p482)))).kp k495).ch k498 (Nat.ne_of_lt (Nat.lt_of_lt_of_le (Blk.lt b23) (Nat.le_trans (z7 k30 k52 k55 k61 k66 k456 k488) p493))))
  refine cl wN (C_spec_l1Once w12 g19 a1 c2 x_code ⟨_, _, b502, (r3.from0 m501), s4, (by omega), (fun h0 z hz => Nat.ne_of_lt (Nat.lt_of_lt_of_le (rd_posB r3 h0 z hz) (Nat.le_trans (z2 k9 k15) p20)))⟩ 6) ?_
  rintro _ w13 ⟨x504, k503, ⟨i506, h507, b508, r509, l510, p511, n512⟩, rfl, q505⟩
  have m513 := m501.ext k503 (fun k hk => by subst hk; exact Nat.le_trans (z2 k9 k15) p20)
  refine n2 ?_
  rcases bf x504 with h514 | h514
  ·refine cf h514 ?_
   refine wc_skip <| wq_then <| wc_seq ?_
   have zz11 := Nat.lt_of_lt_of_le p8 (Nat.le_trans k15.size p20)
   have b786 := ((((((((((((b10.kp k15).kp k18).ch k30 (Nat.ne_of_lt zz11)).kp k52).ch k55 (Nat.ne_of_lt (Nat.lt_of_lt_of_le p8 (Nat.le_trans (z3 k15 k18 k30) p50)))).kp k61).ch k66 (Nat.ne_of_lt zz11)).ch k456 (Nat.ne_of_lt zz11)).ch k488 (Nat.ne_of_lt (Nat.lt_of_lt_of_le p8 (Nat.le_trans (z7 k15 k18 k30 k52 k55 k61 k66) p482)))).kp k495).ch k498 (Nat.ne_of_lt (Nat.lt_of_lt_of_le p8 (Nat.le_trans (z9 k15 k18 k30 k52 k55 k61 k66 k456 k488) p493)))).ch k503 (Nat.ne_of_lt zz11))
   refine wc_drawT ([(43, [], [], (fun _ v _ => v = (va (L_28 (x31) a33 c34)))), (44, [], [], (fun _ v _ => v = (vi (x67)))), (45, [], [], (fun _ v _ => v = (va (L_25 ((z291).A))))), (46, [], [], (fun _ v _ => v = (vp g19 0))), (47, [], [], (fun _ v _ => v = (vp g481 2))), (48, [], [4], (fun _ v _ => v = (vs a474 ((z291).Draw).length c475))), (49, [], [3, 4, 5], (fun _ v w => ∃ (x784 : List UInt8) (a1 : Option Addr) (c1 : Nat), v = .slice a1 x784.length c1 ∧ w.ownsRow w13.heap.size 5 1 (.slice a1 x784.length c1) x784.length (x784.map bV) ∧ x784.length ≤ 1073741824 ∧ True)), (57, [], [0, 3, 4, 5, 6], (fun _ _ w => BK w g6 28 0 ((L_28 (x31) a33 c34)))), (3, [], [0, 1, 3, 4, 5, 6, 7], (fun _ v _ => v = (vi (x67))))] : GV) (fun lf w' => Ch (fun k => k = g6 ∨ k = g19) w13 w' ∧ RK lf w' g6 28 [(vi 0), (vi 0), (vs none 0 0)] [(7, 0, 3)] ∧ CurX w' g19 111 a1 c2 x_code) [(6, fun w w' => Ch (fun k => k = g19) w w' ∧ (CurX w g19 111 a1 c2 x_code → CurX w' g19 111 a1 c2 x_code)), (7, TK g6 28 0 3)] mixed rfl (by kernel_rfl) (by kernel_rfl) ?_ (fun _ _ h => ⟨h.to _, RK.z b786 h, CurX.kp ⟨_, _, b508, (r3.from0 m513), s4, (by omega), (fun h0 z hz => Nat.ne_of_lt (Nat.lt_of_lt_of_le (rd_posB r3 h0 z hz) (Nat.le_trans (z2 k9 k15) p20)))⟩ h⟩) (fun _ _ _ _ h mo k => by obtain ⟨hc, hbg6, hcur⟩ := h; exact ⟨hc.comp k (fun _ _ q => q.elim), hbg6.kp mo k, hcur.kp k⟩) ⟨(fun _ _ w w' h mo hj t => by obtain ⟨hc, hbg6, hcur⟩ := h; exact ⟨hc.comp t.1 (fun _ _ q => (.inr q)), hbg6.ch mo t.1 (Nat.ne_of_lt (Nat.lt_of_lt_of_le p8 (Nat.le_trans k15.size p20))), t.2 hcur⟩), ⟨(fun _ _ w w' h mo hj t => by obtain ⟨hc, hbg6, hcur⟩ := h; exact ⟨hc.comp t.1 (fun _ _ q => (.inl q)), hbg6.st mo hj (.head _) t, hcur.ch t.1 (Ne.symm (Nat.ne_of_lt (Nat.lt_of_lt_of_le p8 (Nat.le_trans k15.size p20)))) (fun h0 z hz => Nat.ne_of_lt (Nat.lt_of_lt_of_le (rd_posB r3 h0 z hz) (p7)))⟩), trivial⟩⟩ ?_ ?_ ?_
   ·exact ⟨hV, hE, ⟨hV, hE, ⟨hV, hE, ⟨hV, hE, ⟨hV, hE, ⟨hV, hE, ⟨(fun e v w w1 h hk => by obtain ⟨x0x, a0x, c0x, he, o0x, l0x, p0x⟩ := h; exact ⟨x0x, a0x, c0x, he, own_kp o0x hk, l0x, p0x⟩), hE, ⟨sK, hE, ⟨hV, hE, trivial⟩⟩⟩⟩⟩⟩⟩⟩⟩
   ·exact ⟨⟨.inr hV, ⟨.inr hV, ⟨.inr hV, ⟨.inr hV, ⟨.inr hV, ⟨.inr hV, ⟨.inl rfl, ⟨.inr (sKo (fun _ _ t => t.1) (Nat.ne_of_lt (Nat.lt_of_lt_of_le p8 (Nat.le_trans k15.size p20)))), ⟨.inr hV, trivial⟩⟩⟩⟩⟩⟩⟩⟩⟩, ⟨⟨.inr hV, ⟨.inr hV, ⟨.inr hV, ⟨.inr hV, ⟨.inr hV, ⟨.inr hV, ⟨.inr (fun e v wX wY h ht => by obtain ⟨x0x, a0x, c0x, he, o0x, l0x, p0x⟩ := h; exact ⟨x0x, a0x, c0x, he, own_ch o0x ht.1 (fun gq hg _ hk => by have h1 := (own_lt o0x gq hg).1; have h3 : gq = g6 := hk; have h4 := (Nat.lt_of_lt_of_le p8 (z12 k15 k18 k30 k52 k55 k61 k66 k456 k488 k495 k498 k503)); omega), l0x, p0x⟩), ⟨.inl rfl, ⟨.inr hV, trivial⟩⟩⟩⟩⟩⟩⟩⟩⟩, trivial⟩⟩
   ·refine ⟨?_, ⟨?_, ⟨?_, ⟨?_, ⟨?_, ⟨?_, ⟨?_, ⟨?_, ⟨?_, trivial⟩⟩⟩⟩⟩⟩⟩⟩⟩
    ·rintro lf w14 ⟨k787, b788, ⟨i791, h792, b793, r794, l795, p796, n797⟩⟩ ⟨n789, n790, -⟩
     rintro _ _ _ _ _ _ _ _ _
     show WL _ _ _ _ _ _ _
     have zz12 := Nat.lt_of_lt_of_le (Blk.lt b23) (Nat.le_trans k30.size p50)
     have b799 := ((((((b77.ch k456 (Ne.symm (Nat.ne_of_lt zz12))).ch k488 (Nat.ne_of_lt (Nat.lt_of_lt_of_le p51 (Nat.le_trans (z3 k55 k61 k66) p482)))).kp k495).ch k498 (Nat.ne_of_lt (Nat.lt_of_lt_of_le p51 (Nat.le_trans (z5 k55 k61 k66 k456 k488) p493)))).ch k503 (Ne.symm (Nat.ne_of_lt zz12))).ch k787 (fun h => Or.elim h (Ne.symm (Nat.ne_of_lt (Nat.lt_of_lt_of_le p8 (Nat.le_trans (z3 k15 k18 k30) p50)))) (Ne.symm (Nat.ne_of_lt zz12))))
     refine lN (L_28 (x31) a33 c34) wN isAgg_28 sizeOf_28 b799 ?_
     exact f1
    ·rintro lf w14 ⟨k800, b801, ⟨i804, h805, b806, r807, l808, p809, n810⟩⟩ ⟨n802, n803, -⟩
     rintro _ _ _ _ _ _ _ _ _
     show WL _ _ _ _ _ _ _
     refine mw (vi (x67)) ?_
     exact f1
    ·rintro lf w14 ⟨k812, b813, ⟨i816, h817, b818, r819, l820, p821, n822⟩⟩ ⟨n814, n815, -⟩
     rintro _ _ _ _ _ _ _ _ _
     show WL _ _ _ _ _ _ _
     have b824 := ((b499.ch k503 (Ne.symm (Nat.ne_of_lt (Nat.lt_of_lt_of_le (Blk.lt b23) (Nat.le_trans (z7 k30 k52 k55 k61 k66 k456 k488) p493))))).ch k812 (fun h => Or.elim h (Ne.symm (Nat.ne_of_lt (Nat.lt_of_lt_of_le p8 (Nat.le_trans (z9 k15 k18 k30 k52 k55 k61 k66 k456 k488) p493)))) (Ne.symm (Nat.ne_of_lt (Nat.lt_of_lt_of_le (Blk.lt b23) (Nat.le_trans (z7 k30 k52 k55 k61 k66 k456 k488) p493))))))
     refine lN (L_25 ((z291).A)) wN isAgg_25 sizeOf_25 b824 ?_
     exact f1
    ·rintro lf w14 ⟨k825, b826, ⟨i829, h830, b831, r832, l833, p834, n835⟩⟩ ⟨n827, n828, -⟩
     rintro _ _ _ _ _ _ _ _ _
     show WL _ _ _ _ _ _ _
     refine mw (vp g19 0) ?_
     exact f1
    ·rintro lf w14 ⟨k837, b838, ⟨i841, h842, b843, r844, l845, p846, n847⟩⟩ ⟨n839, n840, -⟩
     rintro _ _ _ _ _ _ _ _ _
     show WL _ _ _ _ _ _ _
     refine pu (vp g481 2) wN ?_
     exact f1
    ·rintro lf w14 ⟨k849, b850, ⟨i853, h854, b855, r856, l857, p858, n859⟩⟩ ⟨n851, n852, -⟩
     rintro _ _ _ _ _ rfl _ _ _ _
     show WL _ _ _ _ _ _ _
     have b861 := ((((b489.kp k495).ch k498 (Nat.ne_of_lt (Nat.lt_of_lt_of_le (Blk.lt b483) (Nat.le_trans k488.size p493)))).ch k503 (Ne.symm (Nat.ne_of_lt (Nat.lt_of_lt_of_le (Blk.lt b23) (Nat.le_trans (z5 k30 k52 k55 k61 k66) p482))))).ch k849 (fun h => Or.elim h (Ne.symm (Nat.ne_of_lt (Nat.lt_of_lt_of_le p8 (Nat.le_trans (z7 k15 k18 k30 k52 k55 k61 k66) p482)))) (Ne.symm (Nat.ne_of_lt (Nat.lt_of_lt_of_le (Blk.lt b23) (Nat.le_trans (z5 k30 k52 k55 k61 k66) p482))))))
     refine ld (vs a474 ((z291).Draw).length c475) wN isAgg_22 b861 ?_
     exact f1
    ·rintro lf w14 ⟨k862, b863, ⟨i866, h867, b868, r869, l870, p871, n872⟩⟩ ⟨n864, n865, -⟩
     have m873 := m513.ext k862 (fun k hk => (fun hk => Or.elim hk (fun hk => by subst hk; exact p7) (fun hk => by subst hk; exact Nat.le_trans (z2 k9 k15) p20)) hk)
     rintro _ _ _ _ rfl _ rfl _ rfl _ _ _
     show WL _ _ _ _ _ _ _
     have o876 := (own_ch (own_ch (own_ch (own_kp (own_blk o476 b483 (by decide) k488) k495) k498 (ne2 o476 (Nat.le_trans k488.size p493))) k503 (ne1 o476 (Nat.lt_of_lt_of_le (Blk.lt b23) (Nat.le_refl w3.heap.size)))) k862 (fun g hg hlt hk => Or.elim hk (fun hk => (ne1 o476 (Nat.lt_of_lt_of_le p8 (z2 k15 k18))) g hg hlt hk) (fun hk => (ne1 o476 (Nat.lt_of_lt_of_le (Blk.lt b23) (Nat.le_refl w3.heap.size))) g hg hlt hk)))
     refine cl wN (C_spec_l1Bend w14 g19 a1 c2 x_code ⟨_, _, b868, (r3.from0 m873), s4, (by omega), (fun h0 z hz => Nat.ne_of_lt (Nat.lt_of_lt_of_le (rd_posB r3 h0 z hz) (Nat.le_trans (z2 k9 k15) p20)))⟩ _ ((z291).Draw) ⟨_, _, rfl, (Rd.of_own o876), s477, (fun _ z hz => by have h1 := (own_lt o476 z.block (by rw [hz]; rfl)).1; have h2 := Nat.lt_of_lt_of_le (Blk.lt b23) (Nat.le_refl w3.heap.size); omega)⟩ (by omega)) ?_
     rintro _ w15 ⟨x878, k877, ⟨i886, h887, b888, r889, l890, p891, n892⟩, ⟨a880, c881, rfl, o882, s883, ap885⟩, q879⟩
     have m893 := m873.ext k877 (fun k hk => by subst hk; exact Nat.le_trans (z2 k9 k15) p20)
     exact wl_finT ⟨k877, fun _ => ⟨_, _, b888, (r3.from0 m893), s4, (by omega), (fun h0 z hz => Nat.ne_of_lt (Nat.lt_of_lt_of_le (rd_posB r3 h0 z hz) (Nat.le_trans (z2 k9 k15) p20)))⟩⟩ ⟨_, _, _, rfl, own_lo o882 k862.size, s883, trivial⟩
    ·rintro lf w14 ⟨k894, b895, ⟨i898, h899, b900, r901, l902, p903, n904⟩⟩ ⟨n896, n897, -⟩
     rintro _ rfl _ _ _ rfl _ rfl _ rfl _ ⟨x784, a909, c910, rfl, o911, s912, q908⟩ _ _
     show WL _ _ _ _ _ _ _
     exact stK (va (L_28 (x31) a33 c34)) (L_28 (x31) a33 c34) wN sizeOf_28 b895 (fun _ h => h) (fun _ t => t)
    ·rintro lf w14 ⟨k914, b915, ⟨i918, h919, b920, r921, l922, p923, n924⟩⟩ ⟨n916, n917, -⟩
     rintro _ rfl _ rfl _ _ rfl _ rfl _ rfl _ ⟨x784, a929, c930, rfl, o931, s932, q928⟩ _ _ _
     show WL _ _ _ _ _ _ _
     refine aw (vi (x67)) ?_
     exact f1
   ·rintro lf w14 ⟨k934, b935, ⟨i938, h939, b940, r941, l942, p943, n944⟩⟩
    have m945 := m513.ext k934 (fun k hk => (fun hk => Or.elim hk (fun hk => by subst hk; exact p7) (fun hk => by subst hk; exact Nat.le_trans (z2 k9 k15) p20)) hk)
    rintro _ rfl _ rfl _ rfl _ rfl _ rfl _ rfl _ ⟨x784, a950, c951, rfl, o952, s953, q949⟩ _ b955 _ rfl
    have b956 : Blk w14 g6 28 (L_28 (x31) a33 c34) := RK.fin b935 [(0, (L_28 (x31) a33 c34))] ⟨b955, trivial⟩
    show WL _ _ _ _ _ _ _
    have zz13 := Nat.lt_of_lt_of_le p14 (p20)
    have b957 := ((((((((((((b16.kp k18).ch k30 (Nat.ne_of_lt zz13)).kp k52).ch k55 (Nat.ne_of_lt (Nat.lt_of_lt_of_le p14 (Nat.le_trans (z2 k18 k30) p50)))).kp k61).ch k66 (Nat.ne_of_lt zz13)).ch k456 (Nat.ne_of_lt zz13)).ch k488 (Nat.ne_of_lt (Nat.lt_of_lt_of_le p14 (Nat.le_trans (z6 k18 k30 k52 k55 k61 k66) p482)))).kp k495).ch k498 (Nat.ne_of_lt (Nat.lt_of_lt_of_le p14 (Nat.le_trans (z8 k18 k30 k52 k55 k61 k66 k456 k488) p493)))).ch k503 (Nat.ne_of_lt zz13)).ch k934 (fun h => Or.elim h (Ne.symm (Nat.ne_of_lt (Nat.lt_of_lt_of_le p8 (p13)))) (Nat.ne_of_lt zz13)))
    refine st (va (L_25 ((z291).A))) (L_25 ((z291).A)) (L_25 ((z291).A)) wN sizeOf_25 b957 ?_
    intro w15 k958 b959 z960
    have m961 := m945.ext k958 (fun k hk => by subst hk; exact Nat.le_trans k9.size p13)
    refine aw (vs a950 x784.length c951) ?_
    refine n3 ?_
    have b962 := (b956.ch k958 (Nat.ne_of_lt (Nat.lt_of_lt_of_le p8 (p13))))
    have zz14 := Nat.le_refl w3.heap.size
    have o963 := (OLv.ch (OLv.ch (OLv.ch (OLv.ch (OLv.kp (OLv.ch (OLv.ch o80 k456 (fun g h1 h2 hk => by have h3 := Nat.lt_of_lt_of_le (Blk.lt b23) zz14; omega)) k488 (fun g h1 h2 hk => by have h3 := Nat.le_trans (z4 k52 k55 k61 k66) p482; omega)) k495) k498 (fun g h1 h2 hk => by have h3 := Nat.le_trans (z6 k52 k55 k61 k66 k456 k488) p493; omega)) k503 (fun g h1 h2 hk => by have h3 := Nat.lt_of_lt_of_le (Blk.lt b23) zz14; omega)) k934 (fun g h1 h2 hk => Or.elim hk (fun hk => (fun g h1 h2 hk => by have h3 := Nat.lt_of_lt_of_le p8 (z2 k15 k18); omega) g h1 h2 hk) (fun hk => (fun g h1 h2 hk => by have h3 := Nat.lt_of_lt_of_le (Blk.lt b23) zz14; omega) g h1 h2 hk))) k958 (fun g h1 h2 hk => by have h3 := Nat.lt_of_lt_of_le p14 k18.size; omega))
    have o964 := (own_ch o952 k958 (ne1 o952 (Nat.lt_of_lt_of_le p14 (z11 k18 k30 k52 k55 k61 k66 k456 k488 k495 k498 k503))))
    refine ret_4 (.inl rfl) (va (L_28 (x31) a33 c34)) (vi (x67)) (va (L_25 ((z291).A))) (vs a950 x784.length c951) rfl (rv_c (L_28 (x31) a33 c34) rfl b962 isAgg_28 sizeOf_28) rfl (rv_c (L_25 ((z291).A)) rfl b959 isAgg_25 sizeOf_25) rfl ?_
    exact ⟨((x31), (x67), ((z291).A), x784), m961.keep0, ⟨_, _, _, _, rfl, (OLv.now (OLv.low o963 (z3 k9 k15 k18))), s36, (own_lo o964 (Nat.le_trans (z12 k9 k15 k18 k30 k52 k55 k61 k66 k456 k488 k495 k498) k503.size)), s953, ⟨⟨(apX (apL o35) (apO o952) (z9 k52 k55 k61 k66 k456 k488 k495 k498 k503)), trivial⟩, ⟨trivial, trivial⟩⟩⟩, trivial⟩
  refine ct h514 ?_
  refine wc_region ?_
  refine mw (vp g19 0) ?_
  refine cl wN (C_spec_l1Below w13 g19 a1 c2 x_code ⟨_, _, b508, (r3.from0 m513), s4, (by omega), (fun h0 z hz => Nat.ne_of_lt (Nat.lt_of_lt_of_le (rd_posB r3 h0 z hz) (Nat.le_trans (z2 k9 k15) p20)))⟩ 7) ?_
  rintro _ w14 ⟨x517, k516, ⟨i519, h520, b521, r522, l523, p524, n525⟩, rfl, q518⟩
  have m526 := m513.ext k516 (fun k hk => by subst hk; exact Nat.le_trans (z2 k9 k15) p20)
  refine cl wN (C_spec_Near w14 (x517)) ?_
  rintro _ w15 ⟨k527, rfl⟩
  have b529 := (((b499.ch k503 (Ne.symm (Nat.ne_of_lt (Nat.lt_of_lt_of_le (Blk.lt b23) (Nat.le_trans (z7 k30 k52 k55 k61 k66 k456 k488) p493))))).ch k516 (Ne.symm (Nat.ne_of_lt (Nat.lt_of_lt_of_le (Blk.lt b23) (Nat.le_trans (z7 k30 k52 k55 k61 k66 k456 k488) p493))))).kp k527)
  refine st (va (L_25 (F_spec_Near (x517)))) (L_25 (F_spec_Near (x517))) (L_25 (F_spec_Near (x517))) wN sizeOf_25 b529 ?_
  intro w16 k530 b531 z532
  have m533 := (m526.extk k527).ext k530 (fun k hk => by subst hk; exact Nat.le_trans (z10 k9 k15 k18 k30 k52 k55 k61 k66 k456 k488) p493)
  refine wl_nil <| wq_then <| wc_seq ?_
  have zz15 := Nat.lt_of_lt_of_le p8 (Nat.le_trans k15.size p20)
  have b569 := (((((((((((((((b10.kp k15).kp k18).ch k30 (Nat.ne_of_lt zz15)).kp k52).ch k55 (Nat.ne_of_lt (Nat.lt_of_lt_of_le p8 (Nat.le_trans (z3 k15 k18 k30) p50)))).kp k61).ch k66 (Nat.ne_of_lt zz15)).ch k456 (Nat.ne_of_lt zz15)).ch k488 (Nat.ne_of_lt (Nat.lt_of_lt_of_le p8 (Nat.le_trans (z7 k15 k18 k30 k52 k55 k61 k66) p482)))).kp k495).ch k498 (Nat.ne_of_lt (Nat.lt_of_lt_of_le p8 (Nat.le_trans (z9 k15 k18 k30 k52 k55 k61 k66 k456 k488) p493)))).ch k503 (Nat.ne_of_lt zz15)).ch k516 (Nat.ne_of_lt zz15)).kp k527).ch k530 (Nat.ne_of_lt (Nat.lt_of_lt_of_le p8 (Nat.le_trans (z9 k15 k18 k30 k52 k55 k61 k66 k456 k488) p493))))
  have b570 := ((b521.kp k527).ch k530 (Nat.ne_of_lt (Nat.lt_of_lt_of_le (Blk.lt b23) (Nat.le_trans (z7 k30 k52 k55 k61 k66 k456 k488) p493))))
  refine wc_drawT ([(43, [], [], (fun _ v _ => v = (va (L_28 (x31) a33 c34)))), (44, [], [], (fun _ v _ => v = (vi (x67)))), (45, [], [], (fun _ v _ => v = (va (L_25 (F_spec_Near (x517)))))), (46, [], [], (fun _ v _ => v = (vp g19 0))), (47, [], [], (fun _ v _ => v = (vp g481 2))), (48, [], [4], (fun _ v _ => v = (vs a474 ((z291).Draw).length c475))), (49, [], [3, 4, 5], (fun _ v w => ∃ (x567 : List UInt8) (a1 : Option Addr) (c1 : Nat), v = .slice a1 x567.length c1 ∧ w.ownsRow w16.heap.size 5 1 (.slice a1 x567.length c1) x567.length (x567.map bV) ∧ x567.length ≤ 1073741824 ∧ True)), (57, [], [0, 3, 4, 5, 6], (fun _ _ w => BK w g6 28 0 ((L_28 (x31) a33 c34)))), (3, [], [0, 1, 3, 4, 5, 6, 7], (fun _ v _ => v = (vi (x67))))] : GV) (fun lf w' => Ch (fun k => k = g6 ∨ k = g19) w16 w' ∧ RK lf w' g6 28 [(vi 0), (vi 0), (vs none 0 0)] [(7, 0, 3)] ∧ CurX w' g19 111 a1 c2 x_code) [(6, fun w w' => Ch (fun k => k = g19) w w' ∧ (CurX w g19 111 a1 c2 x_code → CurX w' g19 111 a1 c2 x_code)), (7, TK g6 28 0 3)] mixed rfl (by kernel_rfl) (by kernel_rfl) ?_ (fun _ _ h => ⟨h.to _, RK.z b569 h, CurX.kp ⟨_, _, b570, (r3.from0 m533), s4, (by omega), (fun h0 z hz => Nat.ne_of_lt (Nat.lt_of_lt_of_le (rd_posB r3 h0 z hz) (Nat.le_trans (z2 k9 k15) p20)))⟩ h⟩) (fun _ _ _ _ h mo k => by obtain ⟨hc, hbg6, hcur⟩ := h; exact ⟨hc.comp k (fun _ _ q => q.elim), hbg6.kp mo k, hcur.kp k⟩) ⟨(fun _ _ w w' h mo hj t => by obtain ⟨hc, hbg6, hcur⟩ := h; exact ⟨hc.comp t.1 (fun _ _ q => (.inr q)), hbg6.ch mo t.1 (Nat.ne_of_lt (Nat.lt_of_lt_of_le p8 (Nat.le_trans k15.size p20))), t.2 hcur⟩), ⟨(fun _ _ w w' h mo hj t => by obtain ⟨hc, hbg6, hcur⟩ := h; exact ⟨hc.comp t.1 (fun _ _ q => (.inl q)), hbg6.st mo hj (.head _) t, hcur.ch t.1 (Ne.symm (Nat.ne_of_lt (Nat.lt_of_lt_of_le p8 (Nat.le_trans k15.size p20)))) (fun h0 z hz => Nat.ne_of_lt (Nat.lt_of_lt_of_le (rd_posB r3 h0 z hz) (p7)))⟩), trivial⟩⟩ ?_ ?_ ?_
  ·exact ⟨hV, hE, ⟨hV, hE, ⟨hV, hE, ⟨hV, hE, ⟨hV, hE, ⟨hV, hE, ⟨(fun e v w w1 h hk => by obtain ⟨x0x, a0x, c0x, he, o0x, l0x, p0x⟩ := h; exact ⟨x0x, a0x, c0x, he, own_kp o0x hk, l0x, p0x⟩), hE, ⟨sK, hE, ⟨hV, hE, trivial⟩⟩⟩⟩⟩⟩⟩⟩⟩
  ·exact ⟨⟨.inr hV, ⟨.inr hV, ⟨.inr hV, ⟨.inr hV, ⟨.inr hV, ⟨.inr hV, ⟨.inl rfl, ⟨.inr (sKo (fun _ _ t => t.1) (Nat.ne_of_lt (Nat.lt_of_lt_of_le p8 (Nat.le_trans k15.size p20)))), ⟨.inr hV, trivial⟩⟩⟩⟩⟩⟩⟩⟩⟩, ⟨⟨.inr hV, ⟨.inr hV, ⟨.inr hV, ⟨.inr hV, ⟨.inr hV, ⟨.inr hV, ⟨.inr (fun e v wX wY h ht => by obtain ⟨x0x, a0x, c0x, he, o0x, l0x, p0x⟩ := h; exact ⟨x0x, a0x, c0x, he, own_ch o0x ht.1 (fun gq hg _ hk => by have h1 := (own_lt o0x gq hg).1; have h3 : gq = g6 := hk; have h4 := (Nat.lt_of_lt_of_le p8 (t4 (z12 k15 k18 k30 k52 k55 k61 k66 k456 k488 k495 k498 k503) k516.size k527.size k530.size)); omega), l0x, p0x⟩), ⟨.inl rfl, ⟨.inr hV, trivial⟩⟩⟩⟩⟩⟩⟩⟩⟩, trivial⟩⟩
  ·refine ⟨?_, ⟨?_, ⟨?_, ⟨?_, ⟨?_, ⟨?_, ⟨?_, ⟨?_, ⟨?_, trivial⟩⟩⟩⟩⟩⟩⟩⟩⟩
   ·rintro lf w17 ⟨k571, b572, ⟨i575, h576, b577, r578, l579, p580, n581⟩⟩ ⟨n573, n574, -⟩
    rintro _ _ _ _ _ _ _ _ _
    show WL _ _ _ _ _ _ _
    have zz16 := Nat.lt_of_lt_of_le (Blk.lt b23) (Nat.le_trans k30.size p50)
    have b583 := (((((((((b77.ch k456 (Ne.symm (Nat.ne_of_lt zz16))).ch k488 (Nat.ne_of_lt (Nat.lt_of_lt_of_le p51 (Nat.le_trans (z3 k55 k61 k66) p482)))).kp k495).ch k498 (Nat.ne_of_lt (Nat.lt_of_lt_of_le p51 (Nat.le_trans (z5 k55 k61 k66 k456 k488) p493)))).ch k503 (Ne.symm (Nat.ne_of_lt zz16))).ch k516 (Ne.symm (Nat.ne_of_lt zz16))).kp k527).ch k530 (Nat.ne_of_lt (Nat.lt_of_lt_of_le p51 (Nat.le_trans (z5 k55 k61 k66 k456 k488) p493)))).ch k571 (fun h => Or.elim h (Ne.symm (Nat.ne_of_lt (Nat.lt_of_lt_of_le p8 (Nat.le_trans (z3 k15 k18 k30) p50)))) (Ne.symm (Nat.ne_of_lt zz16))))
    refine lN (L_28 (x31) a33 c34) wN isAgg_28 sizeOf_28 b583 ?_
    exact f1
   ·rintro lf w17 ⟨k584, b585, ⟨i588, h589, b590, r591, l592, p593, n594⟩⟩ ⟨n586, n587, -⟩
    rintro _ _ _ _ _ _ _ _ _
    show WL _ _ _ _ _ _ _
    refine mw (vi (x67)) ?_
    exact f1
   ·rintro lf w17 ⟨k596, b597, ⟨i600, h601, b602, r603, l604, p605, n606⟩⟩ ⟨n598, n599, -⟩
    rintro _ _ _ _ _ _ _ _ _
    show WL _ _ _ _ _ _ _
    have b608 := (b531.ch k596 (fun h => Or.elim h (Ne.symm (Nat.ne_of_lt (Nat.lt_of_lt_of_le p8 (Nat.le_trans (z9 k15 k18 k30 k52 k55 k61 k66 k456 k488) p493)))) (Ne.symm (Nat.ne_of_lt (Nat.lt_of_lt_of_le (Blk.lt b23) (Nat.le_trans (z7 k30 k52 k55 k61 k66 k456 k488) p493))))))
    refine lN (L_25 (F_spec_Near (x517))) wN isAgg_25 sizeOf_25 b608 ?_
    exact f1
   ·rintro lf w17 ⟨k609, b610, ⟨i613, h614, b615, r616, l617, p618, n619⟩⟩ ⟨n611, n612, -⟩
    rintro _ _ _ _ _ _ _ _ _
    show WL _ _ _ _ _ _ _
    refine mw (vp g19 0) ?_
    exact f1
   ·rintro lf w17 ⟨k621, b622, ⟨i625, h626, b627, r628, l629, p630, n631⟩⟩ ⟨n623, n624, -⟩
    rintro _ _ _ _ _ _ _ _ _
    show WL _ _ _ _ _ _ _
    refine pu (vp g481 2) wN ?_
    exact f1
   ·rintro lf w17 ⟨k633, b634, ⟨i637, h638, b639, r640, l641, p642, n643⟩⟩ ⟨n635, n636, -⟩
    rintro _ _ _ _ _ rfl _ _ _ _
    show WL _ _ _ _ _ _ _
    have zz17 := Nat.lt_of_lt_of_le (Blk.lt b23) (Nat.le_trans (z5 k30 k52 k55 k61 k66) p482)
    have b645 := (((((((b489.kp k495).ch k498 (Nat.ne_of_lt (Nat.lt_of_lt_of_le (Blk.lt b483) (Nat.le_trans k488.size p493)))).ch k503 (Ne.symm (Nat.ne_of_lt zz17))).ch k516 (Ne.symm (Nat.ne_of_lt zz17))).kp k527).ch k530 (Nat.ne_of_lt (Nat.lt_of_lt_of_le (Blk.lt b483) (Nat.le_trans k488.size p493)))).ch k633 (fun h => Or.elim h (Ne.symm (Nat.ne_of_lt (Nat.lt_of_lt_of_le p8 (Nat.le_trans (z7 k15 k18 k30 k52 k55 k61 k66) p482)))) (Ne.symm (Nat.ne_of_lt zz17))))
    refine ld (vs a474 ((z291).Draw).length c475) wN isAgg_22 b645 ?_
    exact f1
   ·rintro lf w17 ⟨k646, b647, ⟨i650, h651, b652, r653, l654, p655, n656⟩⟩ ⟨n648, n649, -⟩
    have m657 := m533.ext k646 (fun k hk => (fun hk => Or.elim hk (fun hk => by subst hk; exact p7) (fun hk => by subst hk; exact Nat.le_trans (z2 k9 k15) p20)) hk)
    rintro _ _ _ _ rfl _ rfl _ rfl _ _ _
    show WL _ _ _ _ _ _ _
    have zz18 := Nat.lt_of_lt_of_le (Blk.lt b23) (Nat.le_refl w3.heap.size)
    have o660 := (own_ch (own_ch (own_kp (own_ch (own_ch (own_ch (own_kp (own_blk o476 b483 (by decide) k488) k495) k498 (ne2 o476 (Nat.le_trans k488.size p493))) k503 (ne1 o476 zz18)) k516 (ne1 o476 zz18)) k527) k530 (ne2 o476 (Nat.le_trans k488.size p493))) k646 (fun g hg hlt hk => Or.elim hk (fun hk => (ne1 o476 (Nat.lt_of_lt_of_le p8 (z2 k15 k18))) g hg hlt hk) (fun hk => (ne1 o476 zz18) g hg hlt hk)))
    refine cl wN (C_spec_l1Bend w17 g19 a1 c2 x_code ⟨_, _, b652, (r3.from0 m657), s4, (by omega), (fun h0 z hz => Nat.ne_of_lt (Nat.lt_of_lt_of_le (rd_posB r3 h0 z hz) (Nat.le_trans (z2 k9 k15) p20)))⟩ _ ((z291).Draw) ⟨_, _, rfl, (Rd.of_own o660), s477, (fun _ z hz => by have h1 := (own_lt o476 z.block (by rw [hz]; rfl)).1; have h2 := Nat.lt_of_lt_of_le (Blk.lt b23) (Nat.le_refl w3.heap.size); omega)⟩ (by omega)) ?_
    rintro _ w18 ⟨x662, k661, ⟨i670, h671, b672, r673, l674, p675, n676⟩, ⟨a664, c665, rfl, o666, s667, ap669⟩, q663⟩
    have m677 := m657.ext k661 (fun k hk => by subst hk; exact Nat.le_trans (z2 k9 k15) p20)
    exact wl_finT ⟨k661, fun _ => ⟨_, _, b672, (r3.from0 m677), s4, (by omega), (fun h0 z hz => Nat.ne_of_lt (Nat.lt_of_lt_of_le (rd_posB r3 h0 z hz) (Nat.le_trans (z2 k9 k15) p20)))⟩⟩ ⟨_, _, _, rfl, own_lo o666 k646.size, s667, trivial⟩
   ·rintro lf w17 ⟨k678, b679, ⟨i682, h683, b684, r685, l686, p687, n688⟩⟩ ⟨n680, n681, -⟩
    rintro _ rfl _ _ _ rfl _ rfl _ rfl _ ⟨x567, a693, c694, rfl, o695, s696, q692⟩ _ _
    show WL _ _ _ _ _ _ _
    exact stK (va (L_28 (x31) a33 c34)) (L_28 (x31) a33 c34) wN sizeOf_28 b679 (fun _ h => h) (fun _ t => t)
   ·rintro lf w17 ⟨k698, b699, ⟨i702, h703, b704, r705, l706, p707, n708⟩⟩ ⟨n700, n701, -⟩
    rintro _ rfl _ rfl _ _ rfl _ rfl _ rfl _ ⟨x567, a713, c714, rfl, o715, s716, q712⟩ _ _ _
    show WL _ _ _ _ _ _ _
    refine aw (vi (x67)) ?_
    exact f1
  ·rintro lf w17 ⟨k718, b719, ⟨i722, h723, b724, r725, l726, p727, n728⟩⟩
   have m729 := m533.ext k718 (fun k hk => (fun hk => Or.elim hk (fun hk => by subst hk; exact p7) (fun hk => by subst hk; exact Nat.le_trans (z2 k9 k15) p20)) hk)
   rintro _ rfl _ rfl _ rfl _ rfl _ rfl _ rfl _ ⟨x567, a734, c735, rfl, o736, s737, q733⟩ _ b739 _ rfl
   have b740 : Blk w17 g6 28 (L_28 (x31) a33 c34) := RK.fin b719 [(0, (L_28 (x31) a33 c34))] ⟨b739, trivial⟩
   show WL _ _ _ _ _ _ _
   have zz19 := Nat.lt_of_lt_of_le p14 (p20)
   have b741 := (((((((((((((((b16.kp k18).ch k30 (Nat.ne_of_lt zz19)).kp k52).ch k55 (Nat.ne_of_lt (Nat.lt_of_lt_of_le p14 (Nat.le_trans (z2 k18 k30) p50)))).kp k61).ch k66 (Nat.ne_of_lt zz19)).ch k456 (Nat.ne_of_lt zz19)).ch k488 (Nat.ne_of_lt (Nat.lt_of_lt_of_le p14 (Nat.le_trans (z6 k18 k30 k52 k55 k61 k66) p482)))).kp k495).ch k498 (Nat.ne_of_lt (Nat.lt_of_lt_of_le p14 (Nat.le_trans (z8 k18 k30 k52 k55 k61 k66 k456 k488) p493)))).ch k503 (Nat.ne_of_lt zz19)).ch k516 (Nat.ne_of_lt zz19)).kp k527).ch k530 (Nat.ne_of_lt (Nat.lt_of_lt_of_le p14 (Nat.le_trans (z8 k18 k30 k52 k55 k61 k66 k456 k488) p493)))).ch k718 (fun h => Or.elim h (Ne.symm (Nat.ne_of_lt (Nat.lt_of_lt_of_le p8 (p13)))) (Nat.ne_of_lt zz19)))
   refine st (va (L_25 (F_spec_Near (x517)))) (L_25 (F_spec_Near (x517))) (L_25 (F_spec_Near (x517))) wN sizeOf_25 b741 ?_
   intro w18 k742 b743 z744
   have m745 := m729.ext k742 (fun k hk => by subst hk; exact Nat.le_trans k9.size p13)
   refine aw (vs a734 x567.length c735) ?_
   refine n3 ?_
   have b746 := (b740.ch k742 (Nat.ne_of_lt (Nat.lt_of_lt_of_le p8 (p13))))
   have zz20 := Nat.le_refl w3.heap.size
   have o747 := (OLv.ch (OLv.ch (OLv.ch (OLv.kp (OLv.ch (OLv.ch (OLv.ch (OLv.kp (OLv.ch (OLv.ch o80 k456 (fun g h1 h2 hk => by have h3 := Nat.lt_of_lt_of_le (Blk.lt b23) zz20; omega)) k488 (fun g h1 h2 hk => by have h3 := Nat.le_trans (z4 k52 k55 k61 k66) p482; omega)) k495) k498 (fun g h1 h2 hk => by have h3 := Nat.le_trans (z6 k52 k55 k61 k66 k456 k488) p493; omega)) k503 (fun g h1 h2 hk => by have h3 := Nat.lt_of_lt_of_le (Blk.lt b23) zz20; omega)) k516 (fun g h1 h2 hk => by have h3 := Nat.lt_of_lt_of_le (Blk.lt b23) zz20; omega)) k527) k530 (fun g h1 h2 hk => by have h3 := Nat.le_trans (z6 k52 k55 k61 k66 k456 k488) p493; omega)) k718 (fun g h1 h2 hk => Or.elim hk (fun hk => (fun g h1 h2 hk => by have h3 := Nat.lt_of_lt_of_le p8 (z2 k15 k18); omega) g h1 h2 hk) (fun hk => (fun g h1 h2 hk => by have h3 := Nat.lt_of_lt_of_le (Blk.lt b23) zz20; omega) g h1 h2 hk))) k742 (fun g h1 h2 hk => by have h3 := Nat.lt_of_lt_of_le p14 k18.size; omega))
   have o748 := (own_ch o736 k742 (ne1 o736 (Nat.lt_of_lt_of_le p14 (t3 (z12 k18 k30 k52 k55 k61 k66 k456 k488 k495 k498 k503 k516) k527.size k530.size))))
   refine ret_4 (.inl rfl) (va (L_28 (x31) a33 c34)) (vi (x67)) (va (L_25 (F_spec_Near (x517)))) (vs a734 x567.length c735) rfl (rv_c (L_28 (x31) a33 c34) rfl b746 isAgg_28 sizeOf_28) rfl (rv_c (L_25 (F_spec_Near (x517))) rfl b743 isAgg_25 sizeOf_25) rfl ?_
   exact ⟨((x31), (x67), (F_spec_Near (x517)), x567), m745.keep0, ⟨_, _, _, _, rfl, (OLv.now (OLv.low o747 (z3 k9 k15 k18))), s36, (own_lo o748 (t5 (z12 k9 k15 k18 k30 k52 k55 k61 k66 k456 k488 k495 k498) k503.size k516.size k527.size k530.size)), s737, ⟨⟨(apX (apL o35) (apO o736) (z12 k52 k55 k61 k66 k456 k488 k495 k498 k503 k516 k527 k530)), trivial⟩, ⟨trivial, trivial⟩⟩⟩, trivial⟩

def F_impl_clone (x_b : List UInt8) : (List UInt8) := x_b
theorem C_impl_clone (w0 : World) (v_x_b : Value) (x_b : List UInt8) (r_x_b : R_22 w0 v_x_b x_b)  : Fn Try.prog 66 #[v_x_b] w0 (fun v w' => Keep w0 w' ∧ O_22 w' w0.heap.size v (x_b)) := by
 obtain ⟨a1, c2, rfl, r3, s4⟩ := r_x_b
 refine fn_ofS (n := 6) [(vs a1 x_b.length c2)] Try.func66 rfl rfl ?_
 refine sr ?_
 refine aw (vs none 0 0) ?_
 refine nx ?_
 refine wl_lit0 wN rfl rfl slTy_22 (fun w => by kernel_rfl) ?_
 intro a6 w1 k7 o8
 have m9 := (Ch.base w0).extk k7
 refine mw (vs a1 x_b.length c2) ?_
 refine ap0 x_b wN slTy_22 o8 (r3.from0 m9) k7.size ?_
 intro a11 c12 w2 k13 o14 n15
 have m16 := m9.extk k13
 refine aw (vs a11 x_b.length c12) ?_
 refine n3 ?_
 refine rt (vs a11 x_b.length c12) ?_
 refine ⟨m16.keep0, ?_⟩
 have hF18 : x_b = x_b := by rfl
 rw [hF18]
 exact ⟨_, _, rfl, o14, s4, ⟨trivial, trivial⟩⟩

def F_impl_copyPaths (x_p : PPaths) : (PPaths) := { At := x_p.At, Cands := (x_p.Cands.take x_p.Cands.length) : PPaths }
theorem C_impl_copyPaths (w0 : World) (v_x_p : Value) (x_p : PPaths) (r_x_p : R_28 w0 v_x_p x_p)  : Fn Try.prog 53 #[v_x_p] w0 (fun v w' => Keep w0 w' ∧ O_28 w' w0.heap.size v (x_p)) := by
 obtain ⟨a1, c2, rfl, r3, s4⟩ := r_x_p
 refine fn_ofS (n := 31) [(va (L_28 x_p a1 c2))] Try.func53 rfl rfl ?_
 refine sr ?_
 refine bx (L_28 x_p a1 c2) wN ?_
 intro g6 w1 p7 p8 k9 b10
 refine al [(vi 0), (vi 0), (vs none 0 0)] wN zero_28 ?_
 intro g12 w2 p13 p14 k15 b16
 have m17 := ((Ch.base w0).extk k9).extk k15
 refine nx ?_
 refine pu (vp g6 0) wN ?_
 have b18 := (b10.kp k15)
 refine lN (L_25 x_p.At) wN isAgg_25 sizeOf_25 b18 ?_
 refine pu (va [(vi x_p.At.Host), (vi x_p.At.Port), (vs none 0 0)]) wN ?_
 refine al [(vi 0), (vi 0), (vs none 0 0)] wN zero_28 ?_
 intro g19 w3 p20 p21 k22 b23
 refine sv [(vi x_p.At.Host), (vi x_p.At.Port), (vs none 0 0)] wN sizeOf_28 b23 ?_
 intro w4 k25 b26 z27
 have m28 := (m17.extk k22).ext k25 (fun k hk => by subst hk; exact Nat.le_trans (z2 k9 k15) p20)
 refine n4 ?_
 refine pu (vp g6 2) wN ?_
 have b29 := ((b18.kp k22).ch k25 (Nat.ne_of_lt (Nat.lt_of_lt_of_le p8 (Nat.le_trans k15.size p20))))
 refine ld (vs a1 x_p.Cands.length c2) wN isAgg_26 b29 ?_
 obtain ⟨y30, r31⟩ := RLv.row (r3.from0 m28)
 refine ln wN slTy_26 r31 ?_
 refine mw (vi 0) ?_
 refine wl_nil <| wq_then <| wc_block ?_
 have hE33 : (([] : List (PCand)) : List (PCand)) = x_p.Cands.take 0 := by first | rfl | exact take_snoc (z := z_PCand) (by omega)
 refine wc_loopP [(2, (vp g12 0)), (3, (vp g19 0)), (10, (vs a1 x_p.Cands.length c2)), (11, (vi (x_p.Cands.length : Int))), (12, (vi ((0 : Nat) : Int)))] ⟨rfl, rfl, rfl, rfl, (congrArg (Value.int .i64) (show (0 : Int) = ((0 : Nat) : Int) by omega)), trivial⟩ (fun e' w' => ∃ (kq : Nat) (u32 : Env) (ab3_2x : Option Addr) (cb3_2x : Nat), e' = pt u32 [(2, (vp g12 0)), (3, (vp g19 0)), (10, (vs a1 x_p.Cands.length c2)), (11, (vi (x_p.Cands.length : Int))), (12, (vi ((kq : Nat) : Int)))] ∧ Ch (fun k => w0.heap.size ≤ k) w0 w' ∧ Ch (fun k => w2.heap.size ≤ k) w4 w' ∧ kq ≤ x_p.Cands.length ∧ (OLv LT_34 w' w4.heap.size w'.heap.size ab3_2x (x_p.Cands.take kq).length cb3_2x (x_p.Cands.take kq) ∧ (x_p.Cands.take kq).length ≤ 1073741824) ∧ Blk w' g19 28 [(vi x_p.At.Host), (vi x_p.At.Port), (.slice ab3_2x (x_p.Cands.take kq).length cb3_2x)]) (fun e' _ => x_p.Cands.length - ((intOf (e' 12))).toNat) ?_ ?_
 ·exact fun u => ⟨0, u, none, 0, rfl, m28, (Ch.refl (fun k => w2.heap.size ≤ k) w4), (by omega), (hE33 ▸ ⟨(OLv.nil w4 w4.heap.size w4.heap.size LT_34), (by simp)⟩), b26⟩
 ·rintro _ w5 ⟨kq, u32, ab3_2x, cb3_2x, rfl, m34, k35, i36, ⟨o37, s38⟩, hbx3⟩
  obtain ⟨y40, o41⟩ := OLv.ow o37
  refine sr ?_
  refine pu (vb (decide (((kq : Nat) : Int) < (x_p.Cands.length : Int)))) wN ?_
  refine wl_nil <| wq_then <| wc_seq ?_
  rcases bf (decide (((kq : Nat) : Int) < (x_p.Cands.length : Int))) with h42 | h42
  ·have q208 := of_decide_eq_false h42
   refine cf h42 ?_
   refine wc_exit <| wq_then_exit ?_
   obtain rfl : kq = x_p.Cands.length := by omega
   refine wq_then_exit <| wq_blk_exit <| wq_then <| sr ?_
   refine lN [(vi x_p.At.Host), (vi x_p.At.Port), (vs ab3_2x (x_p.Cands.take x_p.Cands.length).length cb3_2x)] wN isAgg_28 sizeOf_28 hbx3 ?_
   have b209 := (((b16.kp k22).ch k25 (Nat.ne_of_lt (Nat.lt_of_lt_of_le p14 (p20)))).ch k35 (Nat.not_le.2 (p14)))
   refine sv [(vi x_p.At.Host), (vi x_p.At.Port), (vs ab3_2x (x_p.Cands.take x_p.Cands.length).length cb3_2x)] wN sizeOf_28 b209 ?_
   intro w6 k210 b211 z212
   have m213 := m34.ext k210 (fun k hk => by subst hk; exact Nat.le_trans k9.size p13)
   refine n3 ?_
   have o214 := (OLv.ch o37 k210 (fun g h1 h2 hk => by have h3 := Nat.lt_of_lt_of_le p14 (z2 k22 k25); omega))
   refine ret_1 (.inl rfl) (va [(vi x_p.At.Host), (vi x_p.At.Port), (vs ab3_2x (x_p.Cands.take x_p.Cands.length).length cb3_2x)]) rfl (rv_c [(vi x_p.At.Host), (vi x_p.At.Port), (vs ab3_2x (x_p.Cands.take x_p.Cands.length).length cb3_2x)] rfl b211 isAgg_28 sizeOf_28) ?_
   refine ⟨m213.keep0, ?_⟩
   have hF215 : x_p.Cands.take x_p.Cands.length = x_p.Cands := List.take_length
   rw [hF215] at o214 ⊢
   exact ⟨_, _, rfl, (OLv.now (OLv.low o214 (z4 k9 k15 k22 k25))), (by omega), ⟨trivial, trivial⟩⟩
  have q43 := of_decide_eq_true h42
  refine ct h42 ?_
  refine wc_skip <| wq_then <| wc_seq <| wc_block <| sr ?_
  obtain ⟨y44, r45⟩ := RLv.row (r3.from0 m34)
  refine ix wN ((kq : Nat) : Int) slTy_26 r45 ?_
  obtain ⟨y46, l47, r48, e49, u50⟩ := RLv.el z_PCand (i := kq) r3 (by first | omega | (simp only [List.length_cons, List.length_nil, List.length_replicate, List.length_append, List.length_take, List.length_set, List.length_map]; omega))
  obtain ⟨a51, c52, l56, rfl, r53, s54, u57⟩ := SubR.c u50
  obtain rfl := SubR.n u57
  refine wl_loadEN [(vi (((x_p.Cands.getD kq z_PCand).A).Host)), (vi (((x_p.Cands.getD kq z_PCand).A).Port)), (vs a51 (x_p.Cands.getD kq z_PCand).Draw.length c52), (vi ((x_p.Cands.getD kq z_PCand).Until))] wN rfl rfl rfl rfl isAgg_34 sizeOf_34 (r48.from0 m34) (by first | omega | (simp only [List.length_cons, List.length_nil, List.length_replicate, List.length_append, List.length_take, List.length_set, List.length_map]; omega)) ((part_of (off := 0) (n := 4) e49 (by first | rfl | simp | omega) (by decide)).trans rfl) ?_
  refine al Z_34 wN zero_34 ?_
  intro g58 w6 p59 p60 k61 b62
  refine sv [(vi (((x_p.Cands.getD kq z_PCand).A).Host)), (vi (((x_p.Cands.getD kq z_PCand).A).Port)), (vs a51 (x_p.Cands.getD kq z_PCand).Draw.length c52), (vi ((x_p.Cands.getD kq z_PCand).Until))] wN sizeOf_34 b62 ?_
  intro w7 k64 b65 z66
  have m67 := (m34.extk k61).ext k64 (fun k hk => by subst hk; exact Nat.le_trans (z5 k9 k15 k22 k25 k35) p59)
  refine n2 ?_
  refine wc_drawT ([(16, [], [], (fun _ v _ => v = (vp g19 2))), (17, [], [0], (fun _ v _ => v = (vs ab3_2x (x_p.Cands.take kq).length cb3_2x))), (18, [], [], (fun _ v _ => v = (vp g58 0))), (19, [], [2], (fun _ v _ => v = (va (L_25 ((x_p.Cands.getD kq z_PCand).A))))), (20, [], [], (fun _ v _ => v = (vp g58 2))), (21, [], [4], (fun _ v _ => v = (vs a51 (x_p.Cands.getD kq z_PCand).Draw.length c52))), (22, [], [4, 5], (fun _ v w => ∃ (a1 : Option Addr) (c1 : Nat), v = .slice a1 (((x_p.Cands.getD kq z_PCand).Draw)).length c1 ∧ w.ownsRow (w7.heap.size) 5 1 (.slice a1 (((x_p.Cands.getD kq z_PCand).Draw)).length c1) (((x_p.Cands.getD kq z_PCand).Draw)).length ((((x_p.Cands.getD kq z_PCand).Draw)).map bV) ∧ (((x_p.Cands.getD kq z_PCand).Draw)).length ≤ 1073741824 ∧ Aps [(a1, c1)])), (23, [], [], (fun _ v _ => v = (vp g58 3))), (24, [], [7], (fun _ v _ => v = (vi ((x_p.Cands.getD kq z_PCand).Until)))), (25, [22], [2, 3, 4, 5, 6, 7, 8], (fun e v _ => v = (.agg #[(vi (((x_p.Cands.getD kq z_PCand).A).Host)), (vi (((x_p.Cands.getD kq z_PCand).A).Port)), (e 22), (vi ((x_p.Cands.getD kq z_PCand).Until))]))), (26, [22], [2, 3, 4, 5, 6, 7, 8, 9], (fun e v w => ∃ (a1 : Option Addr) (c1 : Nat), v = .slice a1 1 c1 ∧ w.ownsRow w7.heap.size 34 4 (.slice a1 1 c1) 1 [(vi (((x_p.Cands.getD kq z_PCand).A).Host)), (vi (((x_p.Cands.getD kq z_PCand).A).Port)), (e 22), (vi ((x_p.Cands.getD kq z_PCand).Until))]))] : GV) (fun _ w' => Keep w7 w') [] mixed rfl (by kernel_rfl) (by kernel_rfl) ?_ (fun _ _ h => h) (fun _ _ _ _ h _ k => h.trans k) trivial ?_ ?_ ?_
  ·exact ⟨hV, hE, ⟨hV, hE, ⟨hV, hE, ⟨hV, hE, ⟨hV, hE, ⟨hV, hE, ⟨(fun e v w w1 h hk => by obtain ⟨a0x, c0x, he, o0x, l0x, hap⟩ := h; exact ⟨a0x, c0x, he, own_kp o0x hk, l0x, hap⟩), hE, ⟨hV, hE, ⟨hV, hE, ⟨hV, (fun e1 e2 v w hx h => by have h22x := hx 22 (by simp); simp only [h22x] at h; exact h), ⟨(fun e v w w1 h hk => by obtain ⟨a0x, c0x, he, o0x⟩ := h; exact ⟨a0x, c0x, he, own_kp o0x hk⟩), (fun e1 e2 v w hx h => by have h22x := hx 22 (by simp); simp only [h22x] at h; exact h), trivial⟩⟩⟩⟩⟩⟩⟩⟩⟩⟩⟩
  ·exact trivial
  ·refine ⟨?_, ⟨?_, ⟨?_, ⟨?_, ⟨?_, ⟨?_, ⟨?_, ⟨?_, ⟨?_, ⟨?_, ⟨?_, trivial⟩⟩⟩⟩⟩⟩⟩⟩⟩⟩⟩
   ·intro _ w8 k115 _
    rintro _ _ _ _ _ _ _ _ _ _ _
    show WL _ _ _ _ _ _ _
    refine pu (vp g19 2) wN ?_
    exact f1
   ·intro _ w8 k117 _
    rintro _ rfl _ _ _ _ _ _ _ _ _ _
    show WL _ _ _ _ _ _ _
    have b119 := (((hbx3.kp k61).ch k64 (Nat.ne_of_lt (Nat.lt_of_lt_of_le p21 (Nat.le_trans (z2 k25 k35) p59)))).kp k117)
    refine ld (vs ab3_2x (x_p.Cands.take kq).length cb3_2x) wN isAgg_26 b119 ?_
    exact f1
   ·intro _ w8 k120 _
    rintro _ _ _ _ _ _ _ _ _ _ _
    show WL _ _ _ _ _ _ _
    refine pu (vp g58 0) wN ?_
    exact f1
   ·intro _ w8 k122 _
    rintro _ _ _ rfl _ _ _ _ _ _ _ _
    show WL _ _ _ _ _ _ _
    have b124 := (b65.kp k122)
    refine lN (L_25 ((x_p.Cands.getD kq z_PCand).A)) wN isAgg_25 sizeOf_25 b124 ?_
    exact f1
   ·intro _ w8 k125 _
    rintro _ _ _ _ _ _ _ _ _ _ _
    show WL _ _ _ _ _ _ _
    refine pu (vp g58 2) wN ?_
    exact f1
   ·intro _ w8 k127 _
    rintro _ _ _ _ _ rfl _ _ _ _ _ _
    show WL _ _ _ _ _ _ _
    have b129 := (b65.kp k127)
    refine ld (vs a51 (x_p.Cands.getD kq z_PCand).Draw.length c52) wN isAgg_22 b129 ?_
    exact f1
   ·intro _ w8 k130 _
    have m131 := m67.extk k130
    rintro _ _ _ _ _ rfl _ rfl _ _ _ _ _
    show WL _ _ _ _ _ _ _
    refine cl wN (C_impl_clone w8 _ ((x_p.Cands.getD kq z_PCand).Draw) (mR_22 (r53.from0 m131) s54)) ?_
    rintro _ w9 ⟨k133, ⟨a134, c135, rfl, o136, s137, ap139⟩⟩
    exact wl_finT k133 ⟨_, _, rfl, (own_lo o136 k130.size), s137, ap139⟩
   ·intro _ w8 k141 _
    rintro _ _ _ _ _ _ _ _ _ _ _
    show WL _ _ _ _ _ _ _
    refine pu (vp g58 3) wN ?_
    exact f1
   ·intro _ w8 k143 _
    rintro _ _ _ _ _ _ _ _ rfl _ _ _
    show WL _ _ _ _ _ _ _
    have b145 := (b65.kp k143)
    refine ld (vi ((x_p.Cands.getD kq z_PCand).Until)) wN isAgg_3 b145 ?_
    exact f1
   ·intro _ w8 k146 _
    rintro _ _ _ rfl _ rfl _ rfl _ rfl _ ⟨a150, c151, rfl, o152, s153, ap155⟩ _ rfl _ rfl _ _
    show WL _ _ _ _ _ _ _
    refine pu (va (L_34 (x_p.Cands.getD kq z_PCand) a150 c151)) wN ?_
    exact f1
   ·intro _ w8 k157 _
    rintro _ _ _ rfl _ rfl _ rfl _ rfl _ ⟨a161, c162, rfl, o163, s164, ap166⟩ _ rfl _ rfl _ rfl _
    show WL _ _ _ _ _ _ _
    refine wl_lit [(vi (((x_p.Cands.getD kq z_PCand).A).Host)), (vi (((x_p.Cands.getD kq z_PCand).A).Port)), (vs a161 (((x_p.Cands.getD kq z_PCand).Draw)).length c162), (vi ((x_p.Cands.getD kq z_PCand).Until))] wN rfl rfl slTy_26 (m := 1) rfl (by simp only [maxLen]; omega) (fun w => by kernel_rfl) ?_
    intro u168 w9 k169 o170
    obtain ⟨a171, c172, rfl⟩ := own_form o170
    exact wl_finT k169 ⟨_, _, rfl, own_lo o170 k157.size⟩
  ·intro _ w8 k175
   rintro _ rfl _ rfl _ rfl _ rfl _ rfl _ rfl _ ⟨a180, c181, rfl, o182, s183, ap185⟩ _ rfl _ rfl _ rfl _ ⟨a187, c188, rfl, o189⟩
   show WL _ _ _ _ _ _ _
   have o191 := (OLv.kp (OLv.ch (OLv.kp o37 k61) k64 (fun g h1 h2 hk => by have h3 := Nat.le_trans (Nat.le_refl w5.heap.size) p59; omega)) k175)
   refine wl_appL (L := LT_34) (xs := (x_p.Cands.take kq)) (el := (x_p.Cands.getD kq z_PCand)) (l := [(a180, c181)]) wN slTy_26 o191 (Rd.of_own o189) ⟨⟨(own_lo o182 (z2 k61 k64)), s183⟩, trivial⟩ ⟨trivial, trivial⟩ (Nat.le_refl _) k35.size (by first | omega | (simp only [List.length_take, List.length_append, List.length_cons, List.length_nil]; omega) | (refine Nat.le_trans (Nat.succ_le_succ (List.length_filter_le _ _)) ?_; simp only [List.length_take]; omega)) (z4 k35 k61 k64 k175) ?_
   intro a192 c193 w9 k194 o195
   have m196 := (m67.extk k175).ext k194 (fun k hk => Nat.le_trans (z4 k9 k15 k22 k25) (own_lt o41 k hk).1)
   obtain ⟨y199, o200⟩ := OLv.ow o195
   refine pu (vp g19 2) wN ?_
   have b201 := ((((hbx3.kp k61).ch k64 (Nat.ne_of_lt (Nat.lt_of_lt_of_le p21 (Nat.le_trans (z2 k25 k35) p59)))).kp k175).ch k194 (fun h => by have := (own_lt o41 _ h).1; have := Nat.lt_of_lt_of_le p21 k25.size; omega))
   refine st (vs a192 ((x_p.Cands.take kq) ++ [(x_p.Cands.getD kq z_PCand)]).length c193) [(vs a192 ((x_p.Cands.take kq) ++ [(x_p.Cands.getD kq z_PCand)]).length c193)] [(vi x_p.At.Host), (vi x_p.At.Port), (vs a192 ((x_p.Cands.take kq) ++ [(x_p.Cands.getD kq z_PCand)]).length c193)] wN sizeOf_26 b201 ?_
   intro w10 k202 b203 z204
   have m205 := m196.ext k202 (fun k hk => by subst hk; exact Nat.le_trans (z2 k9 k15) p20)
   refine wl_nil <| wq_blk_normal <| wq_then <| wc_region ?_
   refine ar (((kq : Nat) : Int) + 1) wN ?_
   refine mw (vi (((kq : Nat) : Int) + 1)) ?_
   refine wl_nil ?_
   have o206 := (OLv.ch o195 k202 (fun g h1 h2 hk => by have h3 := Nat.lt_of_lt_of_le p21 k25.size; omega))
   have hE207 : (((x_p.Cands.take kq) ++ [(x_p.Cands.getD kq z_PCand)]) : List (PCand)) = x_p.Cands.take (kq + 1) := by first | rfl | exact take_snoc (z := z_PCand) (by omega)
   refine wq_loopP (w0 := w5) [(2, (vp g12 0)), (3, (vp g19 0)), (10, (vs a1 x_p.Cands.length c2)), (11, (vi (x_p.Cands.length : Int))), (12, (vi (((kq + 1) : Nat) : Int)))] ?_ ?_ ?_
   · exact ⟨rfl, rfl, rfl, rfl, (congrArg (Value.int .i64) (show ((((kq : Nat) : Int) + 1) : Int) = (((kq + 1) : Nat) : Int) by omega)), trivial⟩
   · exact fun u => ⟨(kq + 1), u, a192, c193, rfl, m205, (((((((Ch.refl (fun k => w2.heap.size ≤ k) w4).ext k35 (fun k hk => hk)).extk k61).ext k64 (fun k hk => by subst hk; exact Nat.le_trans (z3 k22 k25 k35) p59)).extk k175).ext k194 (fun k hk => Nat.le_trans (z2 k22 k25) (own_lt o41 k hk).1)).ext k202 (fun k hk => by subst hk; exact p20)), (by omega), (hE207 ▸ ⟨(OLv.now o206), (OLv.small o195)⟩), (by have hb := b203; first | exact hb | (rw [hE207] at hb; exact hb))⟩
   · show x_p.Cands.length - ((((kq + 1) : Nat) : Int)).toNat < x_p.Cands.length - (((kq : Nat) : Int)).toNat; omega

theorem C_impl_candAt (w0 : World) (v_x_p : Value) (x_p : PPaths) (r_x_p : R_28 w0 v_x_p x_p) (v_x_a : Value) (x_a : PAddr) (r_x_a : R_25 w0 v_x_a x_a)  : Fn Try.prog 54 #[v_x_p, v_x_a] w0 (fun v w' => Keep w0 w' ∧ O_3 w' w0.heap.size v (candAt x_p x_a)) := by
 obtain ⟨a1, c2, rfl, r3, s4⟩ := r_x_p
 obtain rfl := r_x_a
 refine fn_ofS (n := 21) [(va (L_28 x_p a1 c2)), (va (L_25 x_a))] Try.func54 rfl rfl ?_
 refine sr ?_
 refine bx (L_28 x_p a1 c2) wN ?_
 intro g6 w1 p7 p8 k9 b10
 refine bx (L_25 x_a) wN ?_
 intro g12 w2 p13 p14 k15 b16
 have m17 := ((Ch.base w0).extk k9).extk k15
 refine aw (vi 0) ?_
 refine n4 ?_
 refine pu (vp g6 2) wN ?_
 have b18 := (b10.kp k15)
 refine ld (vs a1 x_p.Cands.length c2) wN isAgg_26 b18 ?_
 obtain ⟨y19, r20⟩ := RLv.row (r3.from0 m17)
 refine ln wN slTy_26 r20 ?_
 refine mw (vi 0) ?_
 refine wl_nil <| wq_then <| wc_block ?_
 refine wc_loopP [(3, (vp g12 0)), (8, (vs a1 x_p.Cands.length c2)), (9, (vi (x_p.Cands.length : Int))), (10, (vi ((0 : Nat) : Int)))] ⟨rfl, rfl, rfl, (congrArg (Value.int .i64) (show (0 : Int) = ((0 : Nat) : Int) by omega)), trivial⟩ (fun e' w' => ∃ (k : Nat) (u21 : Env), e' = pt u21 [(3, (vp g12 0)), (8, (vs a1 x_p.Cands.length c2)), (9, (vi (x_p.Cands.length : Int))), (10, (vi ((k : Nat) : Int)))] ∧ Ch (fun k => w0.heap.size ≤ k) w0 w' ∧ Ch (fun k => w2.heap.size ≤ k) w2 w' ∧ k ≤ x_p.Cands.length ∧ (∀ j, j < k → (fun c : PCand => decide (c.A.Host = x_a.Host) && decide (c.A.Port = x_a.Port)) (x_p.Cands.getD j z_PCand) = false)) (fun e' _ => x_p.Cands.length - ((intOf (e' 10))).toNat) ?_ ?_
 ·exact fun u => ⟨0, u, rfl, m17, (Ch.refl (fun k => w2.heap.size ≤ k) w2), (by omega), (by first | (intro j hj; omega) | exact find_next (p := (fun c : PCand => decide (c.A.Host = x_a.Host) && decide (c.A.Port = x_a.Port))) (by assumption) (by assumption))⟩
 ·rintro _ w3 ⟨k, u21, rfl, m22, k23, i24, i25⟩
  refine sr ?_
  refine pu (vb (decide (((k : Nat) : Int) < (x_p.Cands.length : Int)))) wN ?_
  refine wl_nil <| wq_then <| wc_seq ?_
  rcases bf (decide (((k : Nat) : Int) < (x_p.Cands.length : Int))) with h26 | h26
  ·have q57 := of_decide_eq_false h26
   refine cf h26 ?_
   refine wc_exit <| wq_then_exit <| wq_then_exit <| wq_blk_exit <| wq_then <| sr ?_
   refine aw (vi (-1)) ?_
   refine n3 ?_
   refine rt (vi (-1)) ?_
   refine ⟨m22.keep0, ?_⟩
   have hF58 : candAt x_p x_a = (-1) := by exact findF_none (p := (fun c : PCand => decide (c.A.Host = x_a.Host) && decide (c.A.Port = x_a.Port))) (z := z_PCand) (by assumption) (by omega)
   rw [hF58]
   exact rfl
  have q27 := of_decide_eq_true h26
  refine ct h26 ?_
  refine wc_skip <| wq_then <| wc_seq <| wc_block <| sr ?_
  refine mw (vi ((k : Nat) : Int)) ?_
  obtain ⟨y28, r29⟩ := RLv.row (r3.from0 m22)
  refine ix wN ((k : Nat) : Int) slTy_26 r29 ?_
  obtain ⟨y30, l31, r32, e33, u34⟩ := RLv.el z_PCand (i := k) r3 (by first | omega | (simp only [List.length_cons, List.length_nil, List.length_replicate, List.length_append, List.length_take, List.length_set, List.length_map]; omega))
  obtain ⟨a35, c36, l40, rfl, r37, s38, u41⟩ := SubR.c u34
  obtain rfl := SubR.n u41
  refine wl_loadEN [(vi (((x_p.Cands.getD k z_PCand).A).Host)), (vi (((x_p.Cands.getD k z_PCand).A).Port)), (vs a35 (x_p.Cands.getD k z_PCand).Draw.length c36), (vi ((x_p.Cands.getD k z_PCand).Until))] wN rfl rfl rfl rfl isAgg_34 sizeOf_34 (r32.from0 m22) (by first | omega | (simp only [List.length_cons, List.length_nil, List.length_replicate, List.length_append, List.length_take, List.length_set, List.length_map]; omega)) ((part_of (off := 0) (n := 4) e33 (by first | rfl | simp | omega) (by decide)).trans rfl) ?_
  refine al Z_34 wN zero_34 ?_
  intro g42 w4 p43 p44 k45 b46
  refine aw (vi ((k : Nat) : Int)) ?_
  refine sv [(vi (((x_p.Cands.getD k z_PCand).A).Host)), (vi (((x_p.Cands.getD k z_PCand).A).Port)), (vs a35 (x_p.Cands.getD k z_PCand).Draw.length c36), (vi ((x_p.Cands.getD k z_PCand).Until))] wN sizeOf_34 b46 ?_
  intro w5 k48 b49 z50
  have m51 := (m22.extk k45).ext k48 (fun k hk => by subst hk; exact Nat.le_trans (z3 k9 k15 k23) p43)
  refine nx ?_
  refine pu (vp g42 0) wN ?_
  refine lN (L_25 ((x_p.Cands.getD k z_PCand).A)) wN isAgg_25 sizeOf_25 b49 ?_
  have b52 := (((b16.ch k23 (Nat.not_le.2 (p14))).kp k45).ch k48 (Nat.ne_of_lt (Nat.lt_of_lt_of_le p14 (Nat.le_trans k23.size p43))))
  refine lN (L_25 x_a) wN isAgg_25 sizeOf_25 b52 ?_
  refine wl_aggeq ((decide ((((x_p.Cands.getD k z_PCand).A).Host) = x_a.Host) && decide ((((x_p.Cands.getD k z_PCand).A).Port) = x_a.Port))) wN rfl rfl rfl rfl rfl guardt_25 (aggeq_25 (((x_p.Cands.getD k z_PCand).A).Host) x_a.Host (((x_p.Cands.getD k z_PCand).A).Port) x_a.Port w5) ?_
  refine n2 ?_
  rcases bt (decide ((((x_p.Cands.getD k z_PCand).A).Host) = x_a.Host) && decide ((((x_p.Cands.getD k z_PCand).A).Port) = x_a.Port)) with h53 | h53
  ·refine ct h53 ?_
   refine sr ?_
   refine mw (vi ((k : Nat) : Int)) ?_
   refine aw (vi ((k : Nat) : Int)) ?_
   refine wl_nil <| wq_then <| wc_ret <| wq_blk_ret <| wq_then_ret <| wq_then_ret <| wq_blk_ret <| wq_then_ret ?_
   refine rt (vi ((k : Nat) : Int)) ?_
   refine ⟨m51.keep0, ?_⟩
   have hF55 : candAt x_p x_a = ((k : Nat) : Int) := by exact findF_some (p := (fun c : PCand => decide (c.A.Host = x_a.Host) && decide (c.A.Port = x_a.Port))) (z := z_PCand) (by assumption) (by omega) (by assumption)
   rw [hF55]
   exact rfl
  refine cf h53 ?_
  refine wc_skip <| wq_blk_normal <| wq_then <| wc_region ?_
  refine ar (((k : Nat) : Int) + 1) wN ?_
  refine mw (vi (((k : Nat) : Int) + 1)) ?_
  refine wl_nil ?_
  refine wq_loopP (w0 := w3) [(3, (vp g12 0)), (8, (vs a1 x_p.Cands.length c2)), (9, (vi (x_p.Cands.length : Int))), (10, (vi (((k + 1) : Nat) : Int)))] ?_ ?_ ?_
  · exact ⟨rfl, rfl, rfl, (congrArg (Value.int .i64) (show ((((k : Nat) : Int) + 1) : Int) = (((k + 1) : Nat) : Int) by omega)), trivial⟩
  · exact fun u => ⟨(k + 1), u, rfl, m51, ((((Ch.refl (fun k => w2.heap.size ≤ k) w2).ext k23 (fun k hk => hk)).extk k45).ext k48 (fun k hk => by subst hk; exact Nat.le_trans k23.size p43)), (by omega), (by first | (intro j hj; omega) | exact find_next (p := (fun c : PCand => decide (c.A.Host = x_a.Host) && decide (c.A.Port = x_a.Port))) (by assumption) (by assumption))⟩
  · show x_p.Cands.length - ((((k + 1) : Nat) : Int)).toNat < x_p.Cands.length - (((k : Nat) : Int)).toNat; omega

def F_impl_within (x_n : Int) (x_low : Int) (x_high : Int) : (Bool) := bif (decide (x_low ≤ x_n)) then (decide (x_n ≤ x_high)) else (false)
theorem C_impl_within (w0 : World) (x_n : Int) (x_low : Int) (x_high : Int)  : Fn Try.prog 55 #[(vi x_n), (vi x_low), (vi x_high)] w0 (fun v w' => Keep w0 w' ∧ O_4 w' w0.heap.size v (F_impl_within x_n x_low x_high)) := by
 refine fn_ofS (n := 15) [(vi x_n), (vi x_low), (vi x_high)] Try.func55 rfl rfl ?_
 refine sr ?_
 refine aw (vb false) ?_
 refine nx ?_
 refine mw (vi x_n) ?_
 refine mw (vi x_low) ?_
 refine pu (vb (decide (x_low ≤ x_n))) wN ?_
 refine mw (vb (decide (x_low ≤ x_n))) ?_
 rcases bf (decide (x_low ≤ x_n)) with h1 | h1
 ·have q4 := of_decide_eq_false h1
  iterate 3 refine sk h1 ?_
  refine pf (vb false) wN h1 ?_
  refine aw (vb false) ?_
  refine n3 ?_
  refine rt (vb false) ?_
  refine ⟨Ch.refl _ _, ?_⟩
  simp only [F_impl_within, h1, cond_true, cond_false]
  exact rfl
 have q2 := of_decide_eq_true h1
 refine mv (vi x_n) (wS h1) ?_
 refine mv (vi x_high) (wS h1) ?_
 refine pu (vb (decide (x_n ≤ x_high))) (wS h1) ?_
 refine pk (vb (decide (x_n ≤ x_high))) wN h1 ?_
 refine aw (vb (decide (x_n ≤ x_high))) ?_
 refine n3 ?_
 refine rt (vb (decide (x_n ≤ x_high))) ?_
 refine ⟨Ch.refl _ _, ?_⟩
 simp only [F_impl_within, h1, cond_true, cond_false]
 exact rfl
theorem impl_within_t {n a b : Int} (h : F_impl_within n a b = true) : a ≤ n ∧ n ≤ b := by
  unfold F_impl_within at h
  by_cases h1 : a ≤ n <;> simp [h1] at h
  exact ⟨h1, h⟩
theorem impl_within_f {n a b : Int} (h : F_impl_within n a b = false) : n < a ∨ b < n := by
  unfold F_impl_within at h
  by_cases h1 : a ≤ n <;> simp [h1] at h <;> omega

def F_impl_AddrOk (x_a : PAddr) : (Bool) := bif (F_impl_within x_a.Host 0 4294967295) then ((F_impl_within x_a.Port 0 65535)) else (false)
theorem C_impl_AddrOk (w0 : World) (v_x_a : Value) (x_a : PAddr) (r_x_a : R_25 w0 v_x_a x_a)  : Fn Try.prog 63 #[v_x_a] w0 (fun v w' => Keep w0 w' ∧ O_4 w' w0.heap.size v (F_impl_AddrOk x_a)) := by
 obtain rfl := r_x_a
 refine fn_ofS (n := 11) [(va (L_25 x_a))] Try.func63 rfl rfl ?_
 refine sr ?_
 refine bx (L_25 x_a) wN ?_
 intro g1 w1 p2 p3 k4 b5
 refine aw (vb false) ?_
 refine nx ?_
 refine pu (vp g1 0) wN ?_
 refine ld (vi x_a.Host) wN isAgg_3 b5 ?_
 refine cl wN (C_impl_within w1 x_a.Host 0 4294967295) ?_
 rintro _ w2 ⟨k7, rfl⟩
 have m8 := ((Ch.base w0).extk k4).extk k7
 refine mw (vb (F_impl_within x_a.Host 0 4294967295)) ?_
 rcases bf (F_impl_within x_a.Host 0 4294967295) with h9 | h9
 ·have q15 := impl_within_f h9
  iterate 3 refine sk h9 ?_
  refine pf (vb false) wN h9 ?_
  refine aw (vb false) ?_
  refine n3 ?_
  refine rt (vb false) ?_
  refine ⟨m8.keep0, ?_⟩
  simp only [F_impl_AddrOk, h9, cond_true, cond_false]
  exact rfl
 have q10 := impl_within_t h9
 refine pu (vp g1 1) (wS h9) ?_
 have b11 := (b5.kp k7)
 refine ld (vi x_a.Port) (wS h9) isAgg_3 b11 ?_
 refine cl (wS h9) (C_impl_within w2 x_a.Port 0 65535) ?_
 rintro _ w3 ⟨k12, rfl⟩
 have m13 := m8.extk k12
 refine pk (vb (F_impl_within x_a.Port 0 65535)) wN h9 ?_
 refine aw (vb (F_impl_within x_a.Port 0 65535)) ?_
 refine n3 ?_
 refine rt (vb (F_impl_within x_a.Port 0 65535)) ?_
 refine ⟨m13.keep0, ?_⟩
 simp only [F_impl_AddrOk, h9, cond_true, cond_false]
 exact rfl

def F_impl_isNonce (x_b : List UInt8) : (Bool) := decide ((x_b.length : Int) = 12)
theorem C_impl_isNonce (w0 : World) (v_x_b : Value) (x_b : List UInt8) (r_x_b : R_22 w0 v_x_b x_b)  : Fn Try.prog 64 #[v_x_b] w0 (fun v w' => Keep w0 w' ∧ O_4 w' w0.heap.size v (F_impl_isNonce x_b)) := by
 obtain ⟨a1, c2, rfl, r3, s4⟩ := r_x_b
 refine fn_ofS (n := 6) [(vs a1 x_b.length c2)] Try.func64 rfl rfl ?_
 refine sr ?_
 refine aw (vb false) ?_
 refine nx ?_
 refine mw (vs a1 x_b.length c2) ?_
 refine ln wN slTy_22 r3 ?_
 refine pu (vb (decide ((x_b.length : Int) = 12))) wN ?_
 refine aw (vb (decide ((x_b.length : Int) = 12))) ?_
 refine n3 ?_
 refine rt (vb (decide ((x_b.length : Int) = 12))) ?_
 refine ⟨Ch.refl _ _, ?_⟩
 have hF6 : F_impl_isNonce x_b = decide ((x_b.length : Int) = 12) := by rfl
 rw [hF6]
 exact rfl

def iPaJ (x_p : PPaths) (i j : Nat) : Bool := !(decide (((x_p.Cands.take i).getD j z_PCand).A.Host = (x_p.Cands.getD i z_PCand).A.Host) && decide (((x_p.Cands.take i).getD j z_PCand).A.Port = (x_p.Cands.getD i z_PCand).A.Port))
def iPaG (x_p : PPaths) (i : Nat) : Bool := (F_impl_AddrOk (x_p.Cands.getD i z_PCand).A) && ((!(decide ((x_p.Cands.getD i z_PCand).A.Host = x_p.At.Host) && decide ((x_p.Cands.getD i z_PCand).A.Port = x_p.At.Port))) && ((F_impl_isNonce (x_p.Cands.getD i z_PCand).Draw) && ((F_impl_within (x_p.Cands.getD i z_PCand).Until 0 1000006) && (allN (iPaJ x_p i) i))))
def iPa (x_p : PPaths) : Bool := bif F_impl_AddrOk x_p.At then (bif decide (3 < (x_p.Cands.length : Int)) then false else allN (iPaG x_p) x_p.Cands.length) else false
theorem C_impl_PathsOk (w0 : World) (v_x_p : Value) (x_p : PPaths) (r_x_p : R_28 w0 v_x_p x_p)  : Fn Try.prog 16 #[v_x_p] w0 (fun v w' => Keep w0 w' ∧ O_4 w' w0.heap.size v (iPa x_p)) := by
 obtain ⟨a1, c2, rfl, r3, s4⟩ := r_x_p
 refine fn_ofS (n := 64) [(va (L_28 x_p a1 c2))] Try.func16 rfl rfl ?_
 refine sr ?_
 refine bx (L_28 x_p a1 c2) wN ?_
 intro g6 w1 p7 p8 k9 b10
 have m11 := (Ch.base w0).extk k9
 refine aw (vb false) ?_
 refine n4 ?_
 refine jT1 [(1, (vp g6 0)), (2, (vb false))] (iPa x_p = false) ?_ fun J12 => ?_
 ·intro hA13 w2 k15 u14
  have m16 := m11.extk k15
  refine sr ?_
  refine aw (vb false) ?_
  refine n1 ?_
  refine rt (vb false) ?_
  refine ⟨m16.keep0, ?_⟩
  rw [hA13]
  exact rfl
 refine pu (vp g6 0) wN ?_
 refine lN (L_25 x_p.At) wN isAgg_25 sizeOf_25 b10 ?_
 refine cl wN (C_impl_AddrOk w1 _ x_p.At (mR_25)) ?_
 rintro _ w2 ⟨k18, rfl⟩
 have m19 := m11.extk k18
 refine pu (vb (!(F_impl_AddrOk x_p.At))) wN ?_
 refine mw (vb (!(F_impl_AddrOk x_p.At))) ?_
 rcases bf (F_impl_AddrOk x_p.At) with h20 | h20
 ·iterate 4 refine sk (congrArg not h20) ?_
  refine pk (vb true) wN (congrArg not h20) ?_
  refine n2 ?_
  refine ct (Eq.refl true) ?_
  have hF137 : iPa x_p = false := by simp [iPa, h20]
  exact wj (J12 hF137 _ k18)
 refine pu (vp g6 2) (wS (congrArg not h20)) ?_
 have b22 := (b10.kp k18)
 refine ld (vs a1 x_p.Cands.length c2) (wS (congrArg not h20)) isAgg_26 b22 ?_
 obtain ⟨y23, r24⟩ := RLv.row (r3.from0 m19)
 refine ln (wS (congrArg not h20)) slTy_26 r24 ?_
 refine pu (vb (decide (3 < (x_p.Cands.length : Int)))) (wS (congrArg not h20)) ?_
 refine pf (vb (decide (3 < (x_p.Cands.length : Int)))) wN (congrArg not h20) ?_
 refine n2 ?_
 rcases bt (decide (3 < (x_p.Cands.length : Int))) with h25 | h25
 ·have q26 := of_decide_eq_true h25
  refine ct h25 ?_
  have hF27 : iPa x_p = false := by simp [iPa, h20, h25]
  exact wj (J12 hF27 _ k18)
 have q28 := of_decide_eq_false h25
 refine cf h25 ?_
 refine y2 ?_
 refine pu (vp g6 2) wN ?_
 refine ld (vs a1 x_p.Cands.length c2) wN isAgg_26 b22 ?_
 obtain ⟨y29, r30⟩ := RLv.row (r3.from0 m19)
 refine ln wN slTy_26 r30 ?_
 refine mw (vi 0) ?_
 refine wl_nil <| wq_then <| wc_block ?_
 refine wc_loopP [(1, (vp g6 0)), (18, (vs a1 x_p.Cands.length c2)), (19, (vi (x_p.Cands.length : Int))), (20, (vi ((0 : Nat) : Int)))] ⟨rfl, rfl, rfl, (congrArg (Value.int .i64) (show (0 : Int) = ((0 : Nat) : Int) by omega)), trivial⟩ (fun e' w' => ∃ (k : Nat) (u31 : Env), e' = pt u31 [(1, (vp g6 0)), (18, (vs a1 x_p.Cands.length c2)), (19, (vi (x_p.Cands.length : Int))), (20, (vi ((k : Nat) : Int)))] ∧ Ch (fun k => w0.heap.size ≤ k) w0 w' ∧ Ch (fun k => w2.heap.size ≤ k) w2 w' ∧ k ≤ x_p.Cands.length ∧ (∀ j, j < k → iPaG x_p j = true)) (fun e' _ => x_p.Cands.length - ((intOf (e' 20))).toNat) ?_ ?_
 ·exact fun u => ⟨0, u, rfl, m19, (Ch.refl (fun k => w2.heap.size ≤ k) w2), (by omega), (by first | (intro j hj; omega) | (have hy := allN_t (f := iPaJ x_p k) (n := k) (k := j) (by assumption) (by omega); exact allN_next (by assumption) (by simp only [iPaG, hy, h20, h25]; simp)))⟩
 ·rintro _ w3 ⟨k, u31, rfl, m32, k33, i34, i35⟩
  refine sr ?_
  refine pu (vb (decide (((k : Nat) : Int) < (x_p.Cands.length : Int)))) wN ?_
  refine wl_nil <| wq_then <| wc_seq ?_
  rcases bf (decide (((k : Nat) : Int) < (x_p.Cands.length : Int))) with h36 | h36
  ·have q134 := of_decide_eq_false h36
   refine cf h36 ?_
   refine wc_exit <| wq_then_exit <| wq_then_exit <| wq_blk_exit <| wq_then <| sr ?_
   refine aw (vb true) ?_
   refine n3 ?_
   refine rt (vb true) ?_
   refine ⟨m32.keep0, ?_⟩
   have hF135 : iPa x_p = true := by have hz := allN_t (f := iPaG x_p) (n := x_p.Cands.length) (k := k) (by assumption) (by omega); simp only [iPa, h20, h25, h36, hz]; simp
   rw [hF135]
   exact rfl
  have q37 := of_decide_eq_true h36
  refine ct h36 ?_
  refine wc_skip <| wq_then <| wc_seq <| wc_block <| sr ?_
  refine mw (vi ((k : Nat) : Int)) ?_
  obtain ⟨y38, r39⟩ := RLv.row (r3.from0 m32)
  refine ix wN ((k : Nat) : Int) slTy_26 r39 ?_
  obtain ⟨y40, l41, r42, e43, u44⟩ := RLv.el z_PCand (i := k) r3 (by first | omega | (simp only [List.length_cons, List.length_nil, List.length_replicate, List.length_append, List.length_take, List.length_set, List.length_map]; omega))
  obtain ⟨a45, c46, l50, rfl, r47, s48, u51⟩ := SubR.c u44
  obtain rfl := SubR.n u51
  refine wl_loadEN [(vi (((x_p.Cands.getD k z_PCand).A).Host)), (vi (((x_p.Cands.getD k z_PCand).A).Port)), (vs a45 (x_p.Cands.getD k z_PCand).Draw.length c46), (vi ((x_p.Cands.getD k z_PCand).Until))] wN rfl rfl rfl rfl isAgg_34 sizeOf_34 (r42.from0 m32) (by first | omega | (simp only [List.length_cons, List.length_nil, List.length_replicate, List.length_append, List.length_take, List.length_set, List.length_map]; omega)) ((part_of (off := 0) (n := 4) e43 (by first | rfl | simp | omega) (by decide)).trans rfl) ?_
  refine al Z_34 wN zero_34 ?_
  intro g52 w4 p53 p54 k55 b56
  refine aw (vi ((k : Nat) : Int)) ?_
  refine sv [(vi (((x_p.Cands.getD k z_PCand).A).Host)), (vi (((x_p.Cands.getD k z_PCand).A).Port)), (vs a45 (x_p.Cands.getD k z_PCand).Draw.length c46), (vi ((x_p.Cands.getD k z_PCand).Until))] wN sizeOf_34 b56 ?_
  intro w5 k58 b59 z60
  have m61 := (m32.extk k55).ext k58 (fun k hk => by subst hk; exact Nat.le_trans (z3 k9 k18 k33) p53)
  refine n4 ?_
  refine pu (vp g52 0) wN ?_
  refine lN (L_25 ((x_p.Cands.getD k z_PCand).A)) wN isAgg_25 sizeOf_25 b59 ?_
  refine cl wN (C_impl_AddrOk w5 _ ((x_p.Cands.getD k z_PCand).A) (mR_25)) ?_
  rintro _ w6 ⟨k62, rfl⟩
  have m63 := m61.extk k62
  refine pu (vb (!(F_impl_AddrOk ((x_p.Cands.getD k z_PCand).A)))) wN ?_
  refine mw (vb (!(F_impl_AddrOk ((x_p.Cands.getD k z_PCand).A)))) ?_
  rcases bf (F_impl_AddrOk ((x_p.Cands.getD k z_PCand).A)) with h64 | h64
  ·iterate 5 refine sk (congrArg not h64) ?_
   refine pk (vb true) wN (congrArg not h64) ?_
   refine mw (vb true) ?_
   iterate 4 refine sk (Eq.refl true) ?_
   refine pk (vb true) wN (Eq.refl true) ?_
   refine mw (vb true) ?_
   iterate 4 refine sk (Eq.refl true) ?_
   refine pk (vb true) wN (Eq.refl true) ?_
   refine n2 ?_
   refine ct (Eq.refl true) ?_
   refine sr ?_
   refine aw (vb false) ?_
   refine wl_nil <| wq_then <| wc_ret <| wq_then_ret <| wq_blk_ret <| wq_then_ret <| wq_then_ret <| wq_blk_ret <| wq_then_ret ?_
   refine rt (vb false) ?_
   refine ⟨m63.keep0, ?_⟩
   have hF133 : iPa x_p = false := by have hz := allN_f (f := iPaG x_p) (n := x_p.Cands.length) (k := k) (by omega) (by simp only [iPaG, h20, h25, h36, h64]; simp); simp only [iPa, h20, h25, h36, h64, hz]; simp
   rw [hF133]
   exact rfl
  refine pu (vp g52 0) (wS (congrArg not h64)) ?_
  have b66 := (b59.kp k62)
  refine lN (L_25 ((x_p.Cands.getD k z_PCand).A)) (wS (congrArg not h64)) isAgg_25 sizeOf_25 b66 ?_
  refine pu (vp g6 0) (wS (congrArg not h64)) ?_
  have b67 := ((((b22.ch k33 (Nat.not_le.2 (Nat.lt_of_lt_of_le p8 k18.size))).kp k55).ch k58 (Nat.ne_of_lt (Nat.lt_of_lt_of_le p8 (Nat.le_trans (z2 k18 k33) p53)))).kp k62)
  refine lN (L_25 x_p.At) (wS (congrArg not h64)) isAgg_25 sizeOf_25 b67 ?_
  refine wl_aggeq ((decide ((((x_p.Cands.getD k z_PCand).A).Host) = x_p.At.Host) && decide ((((x_p.Cands.getD k z_PCand).A).Port) = x_p.At.Port))) (wS (congrArg not h64)) rfl rfl rfl rfl rfl guardt_25 (aggeq_25 (((x_p.Cands.getD k z_PCand).A).Host) x_p.At.Host (((x_p.Cands.getD k z_PCand).A).Port) x_p.At.Port w6) ?_
  refine pf (vb (decide ((((x_p.Cands.getD k z_PCand).A).Host) = x_p.At.Host) && decide ((((x_p.Cands.getD k z_PCand).A).Port) = x_p.At.Port))) wN (congrArg not h64) ?_
  refine mw (vb (decide ((((x_p.Cands.getD k z_PCand).A).Host) = x_p.At.Host) && decide ((((x_p.Cands.getD k z_PCand).A).Port) = x_p.At.Port))) ?_
  rcases bt (decide ((((x_p.Cands.getD k z_PCand).A).Host) = x_p.At.Host) && decide ((((x_p.Cands.getD k z_PCand).A).Port) = x_p.At.Port)) with h68 | h68
  ·iterate 4 refine sk h68 ?_
   refine pk (vb true) wN h68 ?_
   refine mw (vb true) ?_
   iterate 4 refine sk (Eq.refl true) ?_
   refine pk (vb true) wN (Eq.refl true) ?_
   refine n2 ?_
   refine ct (Eq.refl true) ?_
   refine sr ?_
   refine aw (vb false) ?_
   refine wl_nil <| wq_then <| wc_ret <| wq_then_ret <| wq_blk_ret <| wq_then_ret <| wq_then_ret <| wq_blk_ret <| wq_then_ret ?_
   refine rt (vb false) ?_
   refine ⟨m63.keep0, ?_⟩
   have hF70 : iPa x_p = false := by have hz := allN_f (f := iPaG x_p) (n := x_p.Cands.length) (k := k) (by omega) (by simp only [iPaG, h20, h25, h36, h64, h68]; simp); simp only [iPa, h20, h25, h36, h64, h68, hz]; simp
   rw [hF70]
   exact rfl
  refine pu (vp g52 2) (wS h68) ?_
  refine ld (vs a45 (x_p.Cands.getD k z_PCand).Draw.length c46) (wS h68) isAgg_22 b66 ?_
  refine cl (wS h68) (C_impl_isNonce w6 _ ((x_p.Cands.getD k z_PCand).Draw) (mR_22 (r47.from0 m63) s48)) ?_
  rintro _ w7 ⟨k72, rfl⟩
  have m73 := m63.extk k72
  refine pu (vb (!(F_impl_isNonce ((x_p.Cands.getD k z_PCand).Draw)))) (wS h68) ?_
  refine pf (vb (!(F_impl_isNonce ((x_p.Cands.getD k z_PCand).Draw)))) wN h68 ?_
  refine mw (vb (!(F_impl_isNonce ((x_p.Cands.getD k z_PCand).Draw)))) ?_
  rcases bf (F_impl_isNonce ((x_p.Cands.getD k z_PCand).Draw)) with h74 | h74
  ·iterate 4 refine sk (congrArg not h74) ?_
   refine pk (vb true) wN (congrArg not h74) ?_
   refine n2 ?_
   refine ct (Eq.refl true) ?_
   refine sr ?_
   refine aw (vb false) ?_
   refine wl_nil <| wq_then <| wc_ret <| wq_then_ret <| wq_blk_ret <| wq_then_ret <| wq_then_ret <| wq_blk_ret <| wq_then_ret ?_
   refine rt (vb false) ?_
   refine ⟨m73.keep0, ?_⟩
   have hF131 : iPa x_p = false := by have hz := allN_f (f := iPaG x_p) (n := x_p.Cands.length) (k := k) (by omega) (by simp only [iPaG, h20, h25, h36, h64, h68, h74]; simp); simp only [iPa, h20, h25, h36, h64, h68, h74, hz]; simp
   rw [hF131]
   exact rfl
  refine pu (vp g52 3) (wS (congrArg not h74)) ?_
  have b76 := (b66.kp k72)
  refine ld (vi ((x_p.Cands.getD k z_PCand).Until)) (wS (congrArg not h74)) isAgg_3 b76 ?_
  refine cl (wS (congrArg not h74)) (C_impl_within w7 ((x_p.Cands.getD k z_PCand).Until) 0 1000006) ?_
  rintro _ w8 ⟨k77, rfl⟩
  have m78 := m73.extk k77
  refine pu (vb (!(F_impl_within ((x_p.Cands.getD k z_PCand).Until) 0 1000006))) (wS (congrArg not h74)) ?_
  refine pf (vb (!(F_impl_within ((x_p.Cands.getD k z_PCand).Until) 0 1000006))) wN (congrArg not h74) ?_
  refine n2 ?_
  rcases bf (F_impl_within ((x_p.Cands.getD k z_PCand).Until) 0 1000006) with h79 | h79
  ·have q128 := impl_within_f h79
   refine ct (congrArg not h79) ?_
   refine sr ?_
   refine aw (vb false) ?_
   refine wl_nil <| wq_then <| wc_ret <| wq_then_ret <| wq_blk_ret <| wq_then_ret <| wq_then_ret <| wq_blk_ret <| wq_then_ret ?_
   refine rt (vb false) ?_
   refine ⟨m78.keep0, ?_⟩
   have hF129 : iPa x_p = false := by have hz := allN_f (f := iPaG x_p) (n := x_p.Cands.length) (k := k) (by omega) (by simp only [iPaG, h20, h25, h36, h64, h68, h74, h79]; simp); simp only [iPa, h20, h25, h36, h64, h68, h74, h79, hz]; simp
   rw [hF129]
   exact rfl
  have q80 := impl_within_t h79
  refine cf (congrArg not h79) ?_
  refine y1 ?_
  refine pu (vp g6 2) wN ?_
  have b81 := ((b67.kp k72).kp k77)
  refine ld (vs a1 x_p.Cands.length c2) wN isAgg_26 b81 ?_
  refine mw (vi ((k : Nat) : Int)) ?_
  have q83 : 0 ≤ k := (by first | omega | (simp only [List.length_cons, List.length_nil, List.length_replicate, List.length_append, List.length_take, List.length_set, List.length_map]; omega))
  have q84 : k ≤ x_p.Cands.length := (by first | omega | (simp only [List.length_cons, List.length_nil, List.length_replicate, List.length_append, List.length_take, List.length_set, List.length_map]; omega))
  obtain ⟨y85, r86⟩ := RLv.row (r3.from0 m78)
  refine slvR 0 k wN slTy_26 r86 q83 q84 rfl rfl rfl rfl (.inl ⟨rfl, rfl⟩) (.inr ⟨_, _, _, rfl, rfl, by omega⟩) ?_
  have r87 := RLv.sub (x' := (x_p.Cands.take k)) r3 q83 q84 (by first | rfl | (simp; done) | (rw [List.take_of_length_le (by first | (simp; done) | (simp; omega))]))
  obtain ⟨y89, r90⟩ := RLv.row (r87.from0 m78)
  refine ln wN slTy_26 r90 ?_
  refine mw (vi 0) ?_
  refine wl_nil <| wq_then <| wc_block ?_
  refine wc_loopP [(1, (vp g6 0)), (3, (vi ((k : Nat) : Int))), (4, (vp g52 0)), (18, (vs a1 x_p.Cands.length c2)), (19, (vi (x_p.Cands.length : Int))), (20, (vi ((k : Nat) : Int))), (21, (vb (decide (((k : Nat) : Int) < (x_p.Cands.length : Int))))), (22, (vi ((k : Nat) : Int))), (23, (ve (vs a1 x_p.Cands.length c2) ((((k : Nat) : Int)).toNat * 4))), (24, (va [(vi (((x_p.Cands.getD k z_PCand).A).Host)), (vi (((x_p.Cands.getD k z_PCand).A).Port)), (vs a45 (x_p.Cands.getD k z_PCand).Draw.length c46), (vi ((x_p.Cands.getD k z_PCand).Until))])), (25, (vp g52 0)), (26, (va (L_25 ((x_p.Cands.getD k z_PCand).A)))), (27, (vb (F_impl_AddrOk ((x_p.Cands.getD k z_PCand).A)))), (28, (vb (!(F_impl_AddrOk ((x_p.Cands.getD k z_PCand).A))))), (29, (vb (!(F_impl_AddrOk ((x_p.Cands.getD k z_PCand).A))))), (30, (vp g52 0)), (31, (va (L_25 ((x_p.Cands.getD k z_PCand).A)))), (32, (vp g6 0)), (33, (va (L_25 x_p.At))), (34, (vb (decide ((((x_p.Cands.getD k z_PCand).A).Host) = x_p.At.Host) && decide ((((x_p.Cands.getD k z_PCand).A).Port) = x_p.At.Port)))), (35, (vb (decide ((((x_p.Cands.getD k z_PCand).A).Host) = x_p.At.Host) && decide ((((x_p.Cands.getD k z_PCand).A).Port) = x_p.At.Port)))), (36, (vb (decide ((((x_p.Cands.getD k z_PCand).A).Host) = x_p.At.Host) && decide ((((x_p.Cands.getD k z_PCand).A).Port) = x_p.At.Port)))), (37, (vp g52 2)), (38, (vs a45 (x_p.Cands.getD k z_PCand).Draw.length c46)), (39, (vb (F_impl_isNonce ((x_p.Cands.getD k z_PCand).Draw)))), (40, (vb (!(F_impl_isNonce ((x_p.Cands.getD k z_PCand).Draw))))), (41, (vb (!(F_impl_isNonce ((x_p.Cands.getD k z_PCand).Draw))))), (42, (vb (!(F_impl_isNonce ((x_p.Cands.getD k z_PCand).Draw))))), (43, (vp g52 3)), (44, (vi ((x_p.Cands.getD k z_PCand).Until))), (45, (vb (F_impl_within ((x_p.Cands.getD k z_PCand).Until) 0 1000006))), (46, (vb (!(F_impl_within ((x_p.Cands.getD k z_PCand).Until) 0 1000006)))), (47, (vb (!(F_impl_within ((x_p.Cands.getD k z_PCand).Until) 0 1000006)))), (48, (vp g6 2)), (49, (vs a1 x_p.Cands.length c2)), (50, (vi ((k : Nat) : Int))), (51, (vs (subA a1 c2 0 4) (k - 0) (c2 - 0))), (52, (vi ((k - 0) : Int))), (53, (vi ((0 : Nat) : Int)))] ⟨rfl, rfl, rfl, rfl, rfl, rfl, rfl, rfl, rfl, rfl, rfl, rfl, rfl, rfl, rfl, rfl, rfl, rfl, rfl, rfl, rfl, rfl, rfl, rfl, rfl, rfl, rfl, rfl, rfl, rfl, rfl, rfl, rfl, rfl, rfl, rfl, rfl, rfl, (congrArg (Value.int .i64) (show (0 : Int) = ((0 : Nat) : Int) by omega)), trivial⟩ (fun e' w' => ∃ (j : Nat) (u91 : Env), e' = pt u91 [(1, (vp g6 0)), (3, (vi ((k : Nat) : Int))), (4, (vp g52 0)), (18, (vs a1 x_p.Cands.length c2)), (19, (vi (x_p.Cands.length : Int))), (20, (vi ((k : Nat) : Int))), (21, (vb (decide (((k : Nat) : Int) < (x_p.Cands.length : Int))))), (22, (vi ((k : Nat) : Int))), (23, (ve (vs a1 x_p.Cands.length c2) ((((k : Nat) : Int)).toNat * 4))), (24, (va [(vi (((x_p.Cands.getD k z_PCand).A).Host)), (vi (((x_p.Cands.getD k z_PCand).A).Port)), (vs a45 (x_p.Cands.getD k z_PCand).Draw.length c46), (vi ((x_p.Cands.getD k z_PCand).Until))])), (25, (vp g52 0)), (26, (va (L_25 ((x_p.Cands.getD k z_PCand).A)))), (27, (vb (F_impl_AddrOk ((x_p.Cands.getD k z_PCand).A)))), (28, (vb (!(F_impl_AddrOk ((x_p.Cands.getD k z_PCand).A))))), (29, (vb (!(F_impl_AddrOk ((x_p.Cands.getD k z_PCand).A))))), (30, (vp g52 0)), (31, (va (L_25 ((x_p.Cands.getD k z_PCand).A)))), (32, (vp g6 0)), (33, (va (L_25 x_p.At))), (34, (vb (decide ((((x_p.Cands.getD k z_PCand).A).Host) = x_p.At.Host) && decide ((((x_p.Cands.getD k z_PCand).A).Port) = x_p.At.Port)))), (35, (vb (decide ((((x_p.Cands.getD k z_PCand).A).Host) = x_p.At.Host) && decide ((((x_p.Cands.getD k z_PCand).A).Port) = x_p.At.Port)))), (36, (vb (decide ((((x_p.Cands.getD k z_PCand).A).Host) = x_p.At.Host) && decide ((((x_p.Cands.getD k z_PCand).A).Port) = x_p.At.Port)))), (37, (vp g52 2)), (38, (vs a45 (x_p.Cands.getD k z_PCand).Draw.length c46)), (39, (vb (F_impl_isNonce ((x_p.Cands.getD k z_PCand).Draw)))), (40, (vb (!(F_impl_isNonce ((x_p.Cands.getD k z_PCand).Draw))))), (41, (vb (!(F_impl_isNonce ((x_p.Cands.getD k z_PCand).Draw))))), (42, (vb (!(F_impl_isNonce ((x_p.Cands.getD k z_PCand).Draw))))), (43, (vp g52 3)), (44, (vi ((x_p.Cands.getD k z_PCand).Until))), (45, (vb (F_impl_within ((x_p.Cands.getD k z_PCand).Until) 0 1000006))), (46, (vb (!(F_impl_within ((x_p.Cands.getD k z_PCand).Until) 0 1000006)))), (47, (vb (!(F_impl_within ((x_p.Cands.getD k z_PCand).Until) 0 1000006)))), (48, (vp g6 2)), (49, (vs a1 x_p.Cands.length c2)), (50, (vi ((k : Nat) : Int))), (51, (vs (subA a1 c2 0 4) (k - 0) (c2 - 0))), (52, (vi ((k - 0) : Int))), (53, (vi ((j : Nat) : Int)))] ∧ Ch (fun k => w0.heap.size ≤ k) w0 w' ∧ Ch (fun k => w8.heap.size ≤ k) w8 w' ∧ j ≤ k ∧ (∀ m, m < j → iPaJ x_p k m = true)) (fun e' _ => k - ((intOf (e' 53))).toNat) ?_ ?_
  ·exact fun u => ⟨0, u, rfl, m78, (Ch.refl (fun k => w8.heap.size ≤ k) w8), (by omega), (by first | (intro m hm; omega) | exact allN_next (by assumption) (by simp only [iPaJ, h20, h25, h36, h64, h68, h74, h79]; simp))⟩
  ·rintro _ w9 ⟨j, u91, rfl, m92, k93, i94, i95⟩
   refine sr ?_
   refine pu (vb (decide (((j : Nat) : Int) < ((k - 0) : Int)))) wN ?_
   refine wl_nil <| wq_then <| wc_seq ?_
   rcases bf (decide (((j : Nat) : Int) < ((k - 0) : Int))) with h96 | h96
   ·have q127 := of_decide_eq_false h96
    refine cf h96 ?_
    refine wc_exit <| wq_then_exit <| wq_then_exit <| wq_blk_exit <| wq_blk_normal <| wq_then <| wc_region ?_
    refine ar (((k : Nat) : Int) + 1) wN ?_
    refine mw (vi (((k : Nat) : Int) + 1)) ?_
    refine wl_nil ?_
    refine wq_loopP (w0 := w3) [(1, (vp g6 0)), (18, (vs a1 x_p.Cands.length c2)), (19, (vi (x_p.Cands.length : Int))), (20, (vi (((k + 1) : Nat) : Int)))] ?_ ?_ ?_
    · exact ⟨rfl, rfl, rfl, (congrArg (Value.int .i64) (show ((((k : Nat) : Int) + 1) : Int) = (((k + 1) : Nat) : Int) by omega)), trivial⟩
    · exact fun u => ⟨(k + 1), u, rfl, m92, ((((((((Ch.refl (fun k => w2.heap.size ≤ k) w2).ext k33 (fun k hk => hk)).extk k55).ext k58 (fun k hk => by subst hk; exact Nat.le_trans k33.size p53)).extk k62).extk k72).extk k77).ext k93 (fun k hk => Nat.le_trans (z6 k33 k55 k58 k62 k72 k77) hk)), (by omega), (by first | (intro j hj; omega) | (have hy := allN_t (f := iPaJ x_p k) (n := k) (k := j) (by assumption) (by omega); exact allN_next (by assumption) (by simp only [iPaG, hy, h20, h25, h36, h64, h68, h74, h79, h96]; simp)))⟩
    · show x_p.Cands.length - ((((k + 1) : Nat) : Int)).toNat < x_p.Cands.length - (((k : Nat) : Int)).toNat; omega
   have q97 := of_decide_eq_true h96
   refine ct h96 ?_
   refine wc_skip <| wq_then <| wc_seq <| wc_block <| sr ?_
   obtain ⟨y98, r99⟩ := RLv.row (r87.from0 m92)
   refine ix wN ((j : Nat) : Int) slTy_26 r99 ?_
   obtain ⟨y100, l101, r102, e103, u104⟩ := RLv.el z_PCand (i := j) r87 (by first | omega | (simp only [List.length_cons, List.length_nil, List.length_replicate, List.length_append, List.length_take, List.length_set, List.length_map]; omega))
   obtain ⟨a105, c106, l110, rfl, r107, s108, u111⟩ := SubR.c u104
   obtain rfl := SubR.n u111
   refine wl_loadEN [(vi ((((x_p.Cands.take k).getD j z_PCand).A).Host)), (vi ((((x_p.Cands.take k).getD j z_PCand).A).Port)), (vs a105 ((x_p.Cands.take k).getD j z_PCand).Draw.length c106), (vi (((x_p.Cands.take k).getD j z_PCand).Until))] wN rfl rfl rfl rfl isAgg_34 sizeOf_34 (r102.from0 m92) (by first | omega | (simp only [List.length_cons, List.length_nil, List.length_replicate, List.length_append, List.length_take, List.length_set, List.length_map]; omega)) ((part_of (off := 0) (n := 4) e103 (by first | rfl | simp | omega) (by decide)).trans rfl) ?_
   refine al Z_34 wN zero_34 ?_
   intro g112 w10 p113 p114 k115 b116
   refine sv [(vi ((((x_p.Cands.take k).getD j z_PCand).A).Host)), (vi ((((x_p.Cands.take k).getD j z_PCand).A).Port)), (vs a105 ((x_p.Cands.take k).getD j z_PCand).Draw.length c106), (vi (((x_p.Cands.take k).getD j z_PCand).Until))] wN sizeOf_34 b116 ?_
   intro w11 k118 b119 z120
   have m121 := (m92.extk k115).ext k118 (fun k hk => by subst hk; exact Nat.le_trans (z9 k9 k18 k33 k55 k58 k62 k72 k77 k93) p113)
   refine nx ?_
   refine pu (vp g112 0) wN ?_
   refine lN (L_25 (((x_p.Cands.take k).getD j z_PCand).A)) wN isAgg_25 sizeOf_25 b119 ?_
   refine pu (vp g52 0) wN ?_
   have b122 := ((((b76.kp k77).ch k93 (Nat.not_le.2 (Nat.lt_of_lt_of_le p54 (z4 k58 k62 k72 k77)))).kp k115).ch k118 (Nat.ne_of_lt (Nat.lt_of_lt_of_le p54 (Nat.le_trans (z5 k58 k62 k72 k77 k93) p113))))
   refine lN (L_25 ((x_p.Cands.getD k z_PCand).A)) wN isAgg_25 sizeOf_25 b122 ?_
   refine wl_aggeq ((decide (((((x_p.Cands.take k).getD j z_PCand).A).Host) = (((x_p.Cands.getD k z_PCand).A).Host)) && decide (((((x_p.Cands.take k).getD j z_PCand).A).Port) = (((x_p.Cands.getD k z_PCand).A).Port)))) wN rfl rfl rfl rfl rfl guardt_25 (aggeq_25 ((((x_p.Cands.take k).getD j z_PCand).A).Host) (((x_p.Cands.getD k z_PCand).A).Host) ((((x_p.Cands.take k).getD j z_PCand).A).Port) (((x_p.Cands.getD k z_PCand).A).Port) w11) ?_
   refine n2 ?_
   rcases bt (decide (((((x_p.Cands.take k).getD j z_PCand).A).Host) = (((x_p.Cands.getD k z_PCand).A).Host)) && decide (((((x_p.Cands.take k).getD j z_PCand).A).Port) = (((x_p.Cands.getD k z_PCand).A).Port))) with h123 | h123
   ·refine ct h123 ?_
    refine sr ?_
    refine aw (vb false) ?_
    refine wl_nil <| wq_then <| wc_ret <| wq_blk_ret <| wq_then_ret <| wq_then_ret <| wq_blk_ret <| wq_blk_ret <| wq_then_ret <| wq_then_ret <| wq_blk_ret <| wq_then_ret ?_
    refine rt (vb false) ?_
    refine ⟨m121.keep0, ?_⟩
    have hF125 : iPa x_p = false := by have hy := allN_f (f := iPaJ x_p k) (n := k) (k := j) (by omega) (by simp only [iPaJ, h20, h25, h36, h64, h68, h74, h79, h96, h123]; simp); have hz := allN_f (f := iPaG x_p) (n := x_p.Cands.length) (k := k) (by omega) (by simp only [iPaG, hy, h20, h25, h36, h64, h68, h74, h79, h96, h123]; simp); simp only [iPa, h20, h25, h36, h64, h68, h74, h79, h96, h123, hz]; simp
    rw [hF125]
    exact rfl
   refine cf h123 ?_
   refine wc_skip <| wq_blk_normal <| wq_then <| wc_region ?_
   refine ar (((j : Nat) : Int) + 1) wN ?_
   refine mw (vi (((j : Nat) : Int) + 1)) ?_
   refine wl_nil ?_
   refine wq_loopP (w0 := w9) [(1, (vp g6 0)), (3, (vi ((k : Nat) : Int))), (4, (vp g52 0)), (18, (vs a1 x_p.Cands.length c2)), (19, (vi (x_p.Cands.length : Int))), (20, (vi ((k : Nat) : Int))), (21, (vb (decide (((k : Nat) : Int) < (x_p.Cands.length : Int))))), (22, (vi ((k : Nat) : Int))), (23, (ve (vs a1 x_p.Cands.length c2) ((((k : Nat) : Int)).toNat * 4))), (24, (va [(vi (((x_p.Cands.getD k z_PCand).A).Host)), (vi (((x_p.Cands.getD k z_PCand).A).Port)), (vs a45 (x_p.Cands.getD k z_PCand).Draw.length c46), (vi ((x_p.Cands.getD k z_PCand).Until))])), (25, (vp g52 0)), (26, (va (L_25 ((x_p.Cands.getD k z_PCand).A)))), (27, (vb (F_impl_AddrOk ((x_p.Cands.getD k z_PCand).A)))), (28, (vb (!(F_impl_AddrOk ((x_p.Cands.getD k z_PCand).A))))), (29, (vb (!(F_impl_AddrOk ((x_p.Cands.getD k z_PCand).A))))), (30, (vp g52 0)), (31, (va (L_25 ((x_p.Cands.getD k z_PCand).A)))), (32, (vp g6 0)), (33, (va (L_25 x_p.At))), (34, (vb (decide ((((x_p.Cands.getD k z_PCand).A).Host) = x_p.At.Host) && decide ((((x_p.Cands.getD k z_PCand).A).Port) = x_p.At.Port)))), (35, (vb (decide ((((x_p.Cands.getD k z_PCand).A).Host) = x_p.At.Host) && decide ((((x_p.Cands.getD k z_PCand).A).Port) = x_p.At.Port)))), (36, (vb (decide ((((x_p.Cands.getD k z_PCand).A).Host) = x_p.At.Host) && decide ((((x_p.Cands.getD k z_PCand).A).Port) = x_p.At.Port)))), (37, (vp g52 2)), (38, (vs a45 (x_p.Cands.getD k z_PCand).Draw.length c46)), (39, (vb (F_impl_isNonce ((x_p.Cands.getD k z_PCand).Draw)))), (40, (vb (!(F_impl_isNonce ((x_p.Cands.getD k z_PCand).Draw))))), (41, (vb (!(F_impl_isNonce ((x_p.Cands.getD k z_PCand).Draw))))), (42, (vb (!(F_impl_isNonce ((x_p.Cands.getD k z_PCand).Draw))))), (43, (vp g52 3)), (44, (vi ((x_p.Cands.getD k z_PCand).Until))), (45, (vb (F_impl_within ((x_p.Cands.getD k z_PCand).Until) 0 1000006))), (46, (vb (!(F_impl_within ((x_p.Cands.getD k z_PCand).Until) 0 1000006)))), (47, (vb (!(F_impl_within ((x_p.Cands.getD k z_PCand).Until) 0 1000006)))), (48, (vp g6 2)), (49, (vs a1 x_p.Cands.length c2)), (50, (vi ((k : Nat) : Int))), (51, (vs (subA a1 c2 0 4) (k - 0) (c2 - 0))), (52, (vi ((k - 0) : Int))), (53, (vi (((j + 1) : Nat) : Int)))] ?_ ?_ ?_
   · exact ⟨rfl, rfl, rfl, rfl, rfl, rfl, rfl, rfl, rfl, rfl, rfl, rfl, rfl, rfl, rfl, rfl, rfl, rfl, rfl, rfl, rfl, rfl, rfl, rfl, rfl, rfl, rfl, rfl, rfl, rfl, rfl, rfl, rfl, rfl, rfl, rfl, rfl, rfl, (congrArg (Value.int .i64) (show ((((j : Nat) : Int) + 1) : Int) = (((j + 1) : Nat) : Int) by omega)), trivial⟩
   · exact fun u => ⟨(j + 1), u, rfl, m121, ((((Ch.refl (fun k => w8.heap.size ≤ k) w8).ext k93 (fun k hk => hk)).extk k115).ext k118 (fun k hk => by subst hk; exact Nat.le_trans k93.size p113)), (by omega), (by first | (intro m hm; omega) | exact allN_next (by assumption) (by simp only [iPaJ, h20, h25, h36, h64, h68, h74, h79, h96, h123]; simp))⟩
   · show k - ((((j + 1) : Nat) : Int)).toNat < k - (((j : Nat) : Int)).toNat; omega
theorem iPa_t {p : PPaths} (h : iPa p = true) : p.Cands.length ≤ 3 := by
  unfold iPa at h
  cases h1 : F_impl_AddrOk p.At with
  | false => simp only [h1, cond_false] at h; cases h
  | true =>
    cases h8 : decide (3 < (p.Cands.length : Int)) with
    | true => simp only [h1, h8, cond_true] at h; cases h
    | false => have := of_decide_eq_false h8; omega

def F_bytes_Equal (x_a : List UInt8) (x_b : List UInt8) : (Bool) := (eqS (ByteArray.mk x_a.toArray) (ByteArray.mk x_b.toArray))
theorem C_bytes_Equal (w0 : World) (v_x_a : Value) (x_a : List UInt8) (r_x_a : R_22 w0 v_x_a x_a) (v_x_b : Value) (x_b : List UInt8) (r_x_b : R_22 w0 v_x_b x_b)  : Fn Try.prog 56 #[v_x_a, v_x_b] w0 (fun v w' => Keep w0 w' ∧ O_4 w' w0.heap.size v (F_bytes_Equal x_a x_b)) := by
 obtain ⟨a1, c2, rfl, r3, s4⟩ := r_x_a
 obtain ⟨a6, c7, rfl, r8, s9⟩ := r_x_b
 refine fn_ofS (n := 10) [(vs a1 x_a.length c2), (vs a6 x_b.length c7)] Try.func56 rfl rfl ?_
 refine sr ?_
 refine aw (vb false) ?_
 refine nx ?_
 refine mw (vs a1 x_a.length c2) ?_
 refine wl_b2s x_a wN rfl rfl rfl rfl Try.underlying22 Try.underlying5 Try.underlying9 r3 ?_
 refine mw (vs a6 x_b.length c7) ?_
 refine wl_b2s x_b wN rfl rfl rfl rfl Try.underlying22 Try.underlying5 Try.underlying9 r8 ?_
 refine pu (vb (eqS (ByteArray.mk x_a.toArray) (ByteArray.mk x_b.toArray))) wN ?_
 refine aw (vb (eqS (ByteArray.mk x_a.toArray) (ByteArray.mk x_b.toArray))) ?_
 refine n3 ?_
 refine rt (vb (eqS (ByteArray.mk x_a.toArray) (ByteArray.mk x_b.toArray))) ?_
 refine ⟨Ch.refl _ _, ?_⟩
 have hF11 : F_bytes_Equal x_a x_b = (eqS (ByteArray.mk x_a.toArray) (ByteArray.mk x_b.toArray)) := by rfl
 rw [hF11]
 exact rfl

def F_impl_Answer (x_p : PPaths) (x_now : Int) (x_a : PAddr) (x_draw : List UInt8) : (PPaths) × (Bool) := bif (iPa x_p) then (bif (F_impl_within x_now 0 1000000) then (bif (decide ((candAt x_p x_a) < 0)) then (((x_p), false)) else (bif (F_bytes_Equal x_draw ((x_p.Cands.getD ((candAt x_p x_a)).toNat z_PCand).Draw)) then (bif (decide ((x_p.Cands.getD ((candAt x_p x_a)).toNat z_PCand).Until < x_now)) then (((x_p), false)) else (({ At := x_a, Cands := (((x_p).Cands).take (((candAt x_p x_a)).toNat) ++ ((x_p).Cands).drop ((((candAt x_p x_a) + 1)).toNat)) : PPaths }, true))) else (((x_p), false)))) else (((x_p), false))) else (((x_p), false))
theorem C_impl_Answer (w0 : World) (v_x_p : Value) (x_p : PPaths) (r_x_p : R_28 w0 v_x_p x_p) (x_now : Int) (v_x_a : Value) (x_a : PAddr) (r_x_a : R_25 w0 v_x_a x_a) (v_x_draw : Value) (x_draw : List UInt8) (r_x_draw : R_22 w0 v_x_draw x_draw)  : Fn Try.prog 10 #[v_x_p, (vi x_now), v_x_a, v_x_draw] w0 (fun v w' => Keep w0 w' ∧ O_28_4 w' w0.heap.size v (F_impl_Answer x_p x_now x_a x_draw)) := by
 obtain ⟨a1, c2, rfl, r3, s4⟩ := r_x_p
 obtain rfl := r_x_a
 obtain ⟨a6, c7, rfl, r8, s9⟩ := r_x_draw
 refine fn_ofS (n := 65) [(va (L_28 x_p a1 c2)), (vi x_now), (va (L_25 x_a)), (vs a6 x_draw.length c7)] Try.func10 rfl rfl ?_
 refine sr ?_
 refine bx (L_28 x_p a1 c2) wN ?_
 intro g11 w1 p12 p13 k14 b15
 refine bx (L_25 x_a) wN ?_
 intro g17 w2 p18 p19 k20 b21
 refine al [(vi 0), (vi 0), (vs none 0 0)] wN zero_28 ?_
 intro g23 w3 p24 p25 k26 b27
 have m28 := (((Ch.base w0).extk k14).extk k20).extk k26
 refine aw (vb false) ?_
 refine nx ?_
 have b29 := ((b15.kp k20).kp k26)
 refine lN (L_28 x_p a1 c2) wN isAgg_28 sizeOf_28 b29 ?_
 refine cl wN (C_impl_copyPaths w3 _ x_p (mR_28 (r3.from0 m28) s4)) ?_
 rintro _ w4 ⟨k30, ⟨a31, c32, rfl, o33, s34, ap36⟩⟩
 obtain ⟨y38, o39⟩ := OLv.ow o33
 refine al [(vi 0), (vi 0), (vs none 0 0)] wN zero_28 ?_
 intro g40 w5 p41 p42 k43 b44
 refine sv (L_28 (x_p) a31 c32) wN sizeOf_28 b44 ?_
 intro w6 k46 b47 z48
 have m49 := ((m28.extk k30).extk k43).ext k46 (fun k hk => by subst hk; exact Nat.le_trans (z4 k14 k20 k26 k30) p41)
 refine nx ?_
 have b50 := (((b29.kp k30).kp k43).ch k46 (Nat.ne_of_lt (Nat.lt_of_lt_of_le p13 (Nat.le_trans (z3 k20 k26 k30) p41))))
 refine lN (L_28 x_p a1 c2) wN isAgg_28 sizeOf_28 b50 ?_
 have b51 := ((((b21.kp k26).kp k30).kp k43).ch k46 (Nat.ne_of_lt (Nat.lt_of_lt_of_le p19 (Nat.le_trans (z2 k26 k30) p41))))
 refine lN (L_25 x_a) wN isAgg_25 sizeOf_25 b51 ?_
 refine cl wN (C_impl_candAt w6 _ x_p (mR_28 (r3.from0 m49) s4) _ x_a (mR_25)) ?_
 rintro _ w7 ⟨k52, rfl⟩
 have m53 := m49.extk k52
 have q54 := candAt_range x_p x_a
 refine aw (vi (candAt x_p x_a)) ?_
 refine n4 ?_
 refine jT1 [(6, (vp g17 0)), (8, (vp g23 0)), (9, (vb false)), (10, (vp g40 0)), (11, (vi (candAt x_p x_a)))] (F_impl_Answer x_p x_now x_a x_draw = ((x_p), false)) ?_ fun J55 => ?_
 ·intro hA56 w8 k58 u57
  refine sr ?_
  have b60 := ((b47.kp k52).kp k58)
  refine lN (L_28 (x_p) a31 c32) wN isAgg_28 sizeOf_28 b60 ?_
  have b61 := (((((b27.kp k30).kp k43).ch k46 (Nat.ne_of_lt (Nat.lt_of_lt_of_le p25 (Nat.le_trans k30.size p41)))).kp k52).kp k58)
  refine sv (L_28 (x_p) a31 c32) wN sizeOf_28 b61 ?_
  intro w9 k62 b63 z64
  have m65 := (m53.extk k58).ext k62 (fun k hk => by subst hk; exact Nat.le_trans (z2 k14 k20) p24)
  refine aw (vb false) ?_
  refine n1 ?_
  have o66 := (OLv.ch (OLv.kp (OLv.kp (OLv.ch (OLv.kp o33 k43) k46 (fun g h1 h2 hk => by have h3 := Nat.le_trans (Nat.le_refl w4.heap.size) p41; omega)) k52) k58) k62 (fun g h1 h2 hk => by have h3 := Nat.lt_of_lt_of_le p25 (Nat.le_refl w3.heap.size); omega))
  refine ret_2 (.inl rfl) (va (L_28 (x_p) a31 c32)) (vb false) rfl (rv_c (L_28 (x_p) a31 c32) rfl b63 isAgg_28 sizeOf_28) rfl ?_
  refine ⟨m65.keep0, ?_⟩
  rw [hA56]
  exact ⟨_, _, rfl, (OLv.now (OLv.low o66 (z3 k14 k20 k26))), s34, ⟨trivial, trivial⟩⟩
 have b68 := (b50.kp k52)
 refine lN (L_28 x_p a1 c2) wN isAgg_28 sizeOf_28 b68 ?_
 refine cl wN (C_impl_PathsOk w7 _ x_p (mR_28 (r3.from0 m53) s4)) ?_
 rintro _ w8 ⟨k69, rfl⟩
 refine pu (vb (!(iPa x_p))) wN ?_
 refine mw (vb (!(iPa x_p))) ?_
 rcases bf (iPa x_p) with h71 | h71
 ·iterate 3 refine sk (congrArg not h71) ?_
  refine pk (vb true) wN (congrArg not h71) ?_
  refine mw (vb true) ?_
  iterate 2 refine sk (Eq.refl true) ?_
  refine pk (vb true) wN (Eq.refl true) ?_
  refine mw (vb true) ?_
  iterate 9 refine sk (Eq.refl true) ?_
  refine pk (vb true) wN (Eq.refl true) ?_
  refine mw (vb true) ?_
  iterate 8 refine sk (Eq.refl true) ?_
  refine pk (vb true) wN (Eq.refl true) ?_
  refine n2 ?_
  refine ct (Eq.refl true) ?_
  have hF235 : F_impl_Answer x_p x_now x_a x_draw = ((x_p), false) := by simp only [F_impl_Answer, h71, cond_true, cond_false]
  exact wj (J55 hF235 _ k69)
 have q72 := iPa_t h71
 refine mv (vi x_now) (wS (congrArg not h71)) ?_
 refine cl (wS (congrArg not h71)) (C_impl_within w8 x_now 0 1000000) ?_
 rintro _ w9 ⟨k73, rfl⟩
 have m74 := (m53.extk k69).extk k73
 refine pu (vb (!(F_impl_within x_now 0 1000000))) (wS (congrArg not h71)) ?_
 refine pf (vb (!(F_impl_within x_now 0 1000000))) wN (congrArg not h71) ?_
 refine mw (vb (!(F_impl_within x_now 0 1000000))) ?_
 rcases bf (F_impl_within x_now 0 1000000) with h75 | h75
 ·have q232 := impl_within_f h75
  iterate 2 refine sk (congrArg not h75) ?_
  refine pk (vb true) wN (congrArg not h75) ?_
  refine mw (vb true) ?_
  iterate 9 refine sk (Eq.refl true) ?_
  refine pk (vb true) wN (Eq.refl true) ?_
  refine mw (vb true) ?_
  iterate 8 refine sk (Eq.refl true) ?_
  refine pk (vb true) wN (Eq.refl true) ?_
  refine n2 ?_
  refine ct (Eq.refl true) ?_
  have hF233 : F_impl_Answer x_p x_now x_a x_draw = ((x_p), false) := by simp only [F_impl_Answer, h71, h75, cond_true, cond_false]
  exact wj (J55 hF233 _ (k69.trans k73))
 have q76 := impl_within_t h75
 refine mv (vi (candAt x_p x_a)) (wS (congrArg not h75)) ?_
 refine pu (vb (decide ((candAt x_p x_a) < 0))) (wS (congrArg not h75)) ?_
 refine pf (vb (decide ((candAt x_p x_a) < 0))) wN (congrArg not h75) ?_
 refine mw (vb (decide ((candAt x_p x_a) < 0))) ?_
 rcases bt (decide ((candAt x_p x_a) < 0)) with h77 | h77
 ·have q78 := of_decide_eq_true h77
  iterate 9 refine sk h77 ?_
  refine pk (vb true) wN h77 ?_
  refine mw (vb true) ?_
  iterate 8 refine sk (Eq.refl true) ?_
  refine pk (vb true) wN (Eq.refl true) ?_
  refine n2 ?_
  refine ct (Eq.refl true) ?_
  have hF79 : F_impl_Answer x_p x_now x_a x_draw = ((x_p), false) := by simp only [F_impl_Answer, h71, h75, h77, cond_true, cond_false]
  exact wj (J55 hF79 _ (k69.trans k73))
 have q80 := of_decide_eq_false h77
 refine mv (vs a6 x_draw.length c7) (wS h77) ?_
 refine pu (vp g11 2) (wS h77) ?_
 have b81 := ((b68.kp k69).kp k73)
 refine ld (vs a1 x_p.Cands.length c2) (wS h77) isAgg_26 b81 ?_
 refine mv (vi (candAt x_p x_a)) (wS h77) ?_
 obtain ⟨y82, r83⟩ := RLv.row (r3.from0 m74)
 refine ix (wS h77) (candAt x_p x_a) slTy_26 r83 ?_
 obtain ⟨y84, l85, r86, e87, u88⟩ := RLv.el z_PCand (i := ((candAt x_p x_a)).toNat) r3 (by first | omega | (simp only [List.length_cons, List.length_nil, List.length_replicate, List.length_append, List.length_take, List.length_set, List.length_map]; omega))
 obtain ⟨a89, c90, l94, rfl, r91, s92, u95⟩ := SubR.c u88
 obtain rfl := SubR.n u95
 refine wl_fieldE (wS h77) rfl rfl rfl fieldAt_34_1 rfl (r86.from0 m74) (by omega) ?_
 refine wl_loadE (vs a89 (x_p.Cands.getD ((candAt x_p x_a)).toNat z_PCand).Draw.length c90) (wS h77) rfl rfl rfl rfl isAgg_22 (r86.from0 m74) ((get_of (off := 2) e87 (by first | rfl | simp | omega) (by decide)).trans rfl) ?_
 refine cl (wS h77) (C_bytes_Equal w9 _ x_draw (mR_22 (r8.from0 m74) s9) _ ((x_p.Cands.getD ((candAt x_p x_a)).toNat z_PCand).Draw) (mR_22 (r91.from0 m74) s92)) ?_
 rintro _ w10 ⟨k96, rfl⟩
 have m97 := m74.extk k96
 refine pu (vb (!(F_bytes_Equal x_draw ((x_p.Cands.getD ((candAt x_p x_a)).toNat z_PCand).Draw)))) (wS h77) ?_
 refine pf (vb (!(F_bytes_Equal x_draw ((x_p.Cands.getD ((candAt x_p x_a)).toNat z_PCand).Draw)))) wN h77 ?_
 refine mw (vb (!(F_bytes_Equal x_draw ((x_p.Cands.getD ((candAt x_p x_a)).toNat z_PCand).Draw)))) ?_
 rcases bf (F_bytes_Equal x_draw ((x_p.Cands.getD ((candAt x_p x_a)).toNat z_PCand).Draw)) with h98 | h98
 ·iterate 8 refine sk (congrArg not h98) ?_
  refine pk (vb true) wN (congrArg not h98) ?_
  refine n2 ?_
  refine ct (Eq.refl true) ?_
  have hF231 : F_impl_Answer x_p x_now x_a x_draw = ((x_p), false) := by simp only [F_impl_Answer, h71, h75, h77, h98, cond_true, cond_false]
  exact wj (J55 hF231 _ ((k69.trans k73).trans k96))
 refine mv (vi x_now) (wS (congrArg not h98)) ?_
 refine pu (vp g11 2) (wS (congrArg not h98)) ?_
 have b100 := (b81.kp k96)
 refine ld (vs a1 x_p.Cands.length c2) (wS (congrArg not h98)) isAgg_26 b100 ?_
 refine mv (vi (candAt x_p x_a)) (wS (congrArg not h98)) ?_
 obtain ⟨y101, r102⟩ := RLv.row (r3.from0 m97)
 refine ix (wS (congrArg not h98)) (candAt x_p x_a) slTy_26 r102 ?_
 refine wl_fieldE (wS (congrArg not h98)) rfl rfl rfl fieldAt_34_2 rfl (r86.from0 m97) (by omega) ?_
 refine wl_loadE (vi ((x_p.Cands.getD ((candAt x_p x_a)).toNat z_PCand).Until)) (wS (congrArg not h98)) rfl rfl rfl rfl isAgg_3 (r86.from0 m97) ((get_of (off := 3) e87 (by first | rfl | simp | omega) (by decide)).trans rfl) ?_
 refine pu (vb (decide ((x_p.Cands.getD ((candAt x_p x_a)).toNat z_PCand).Until < x_now))) (wS (congrArg not h98)) ?_
 refine pf (vb (decide ((x_p.Cands.getD ((candAt x_p x_a)).toNat z_PCand).Until < x_now))) wN (congrArg not h98) ?_
 refine n2 ?_
 rcases bt (decide ((x_p.Cands.getD ((candAt x_p x_a)).toNat z_PCand).Until < x_now)) with h103 | h103
 ·have q104 := of_decide_eq_true h103
  refine ct h103 ?_
  have hF105 : F_impl_Answer x_p x_now x_a x_draw = ((x_p), false) := by simp only [F_impl_Answer, h71, h75, h77, h98, h103, cond_true, cond_false]
  exact wj (J55 hF105 _ ((k69.trans k73).trans k96))
 have q106 := of_decide_eq_false h103
 refine cf h103 ?_
 refine y1 ?_
 have b107 := ((((b51.kp k52).kp k69).kp k73).kp k96)
 refine lN (L_25 x_a) wN isAgg_25 sizeOf_25 b107 ?_
 refine pu (vp g40 0) wN ?_
 have b108 := ((((b47.kp k52).kp k69).kp k73).kp k96)
 refine st (va (L_25 x_a)) (L_25 x_a) [(vi x_a.Host), (vi x_a.Port), (vs a31 ((x_p).Cands).length c32)] wN sizeOf_25 b108 ?_
 intro w11 k109 b110 z111
 have m112 := m97.ext k109 (fun k hk => by subst hk; exact Nat.le_trans (z4 k14 k20 k26 k30) p41)
 refine wl_nil <| wq_then <| wc_seq ?_
 have o146 := (OLv.ch (OLv.kp (OLv.kp (OLv.kp (OLv.kp (OLv.ch (OLv.kp o33 k43) k46 (fun g h1 h2 hk => by have h3 := Nat.le_trans (Nat.le_refl w4.heap.size) p41; omega)) k52) k69) k73) k96) k109 (fun g h1 h2 hk => by have h3 := Nat.le_trans (Nat.le_refl w4.heap.size) p41; omega))
 obtain ⟨y147, h148, h149, o150, s151, p152, h153, l154⟩ := OLv.op o146
 refine wc_drawT ([(53, [], [], (fun _ v _ => v = (vp g40 2))), (54, [], [0], (fun _ v _ => v = (vs a31 ((x_p).Cands).length c32))), (55, [], [], (fun _ v _ => v = (vi (candAt x_p x_a)))), (56, [], [0, 1, 2], (fun _ v _ => v = (vs (subA a31 c32 0 4) (((candAt x_p x_a)).toNat - 0) (c32 - 0)))), (57, [], [], (fun _ v _ => v = (vp g40 2))), (58, [], [4], (fun _ v _ => v = (vs a31 ((x_p).Cands).length c32))), (59, [], [], (fun _ v _ => v = (vi (candAt x_p x_a)))), (60, [], [6], (fun _ v _ => v = (vi ((candAt x_p x_a) + 1)))), (61, [], [4, 5, 6, 7], (fun _ v _ => v = (vs (subA a31 c32 ((((candAt x_p x_a) + 1)).toNat) 4) (((x_p).Cands).length - ((((candAt x_p x_a) + 1)).toNat)) (c32 - ((((candAt x_p x_a) + 1)).toNat)))))] : GV) (fun _ w' => Keep w11 w') [] mixed rfl (by kernel_rfl) (by kernel_rfl) ?_ (fun _ _ h => h) (fun _ _ _ _ h _ k => h.trans k) trivial ?_ ?_ ?_
 ·exact ⟨hV, hE, ⟨hV, hE, ⟨hV, hE, ⟨hV, hE, ⟨hV, hE, ⟨hV, hE, ⟨hV, hE, ⟨hV, hE, ⟨hV, hE, trivial⟩⟩⟩⟩⟩⟩⟩⟩⟩
 ·exact trivial
 ·refine ⟨?_, ⟨?_, ⟨?_, ⟨?_, ⟨?_, ⟨?_, ⟨?_, ⟨?_, ⟨?_, trivial⟩⟩⟩⟩⟩⟩⟩⟩⟩
  ·intro _ w12 k159 _
   rintro _ _ _ _ _ _ _ _ _
   show WL _ _ _ _ _ _ _
   refine pu (vp g40 2) wN ?_
   exact f1
  ·intro _ w12 k161 _
   rintro _ rfl _ _ _ _ _ _ _ _
   show WL _ _ _ _ _ _ _
   have b163 := (b110.kp k161)
   refine ld (vs a31 ((x_p).Cands).length c32) wN isAgg_26 b163 ?_
   exact f1
  ·intro _ w12 k164 _
   rintro _ _ _ _ _ _ _ _ _
   show WL _ _ _ _ _ _ _
   refine mw (vi (candAt x_p x_a)) ?_
   exact f1
  ·intro _ w12 k166 _
   rintro _ rfl _ rfl _ rfl _ _ _ _ _ _
   show WL _ _ _ _ _ _ _
   have o170 := (own_kp o150 k166)
   refine slvR 0 (((candAt x_p x_a)).toNat) wN slTy_26 (Rd.of_own o170) (by first | omega | (simp only [List.length_cons, List.length_nil, List.length_replicate, List.length_append, List.length_take, List.length_set, List.length_map]; omega)) (by first | omega | (simp only [List.length_cons, List.length_nil, List.length_replicate, List.length_append, List.length_take, List.length_set, List.length_map]; omega)) rfl rfl rfl rfl (.inl ⟨rfl, rfl⟩) (.inr ⟨_, _, _, rfl, rfl, by omega⟩) ?_
   exact f1
  ·intro _ w12 k172 _
   rintro _ _ _ _ _ _ _ _ _
   show WL _ _ _ _ _ _ _
   refine pu (vp g40 2) wN ?_
   exact f1
  ·intro _ w12 k174 _
   rintro _ _ _ _ _ rfl _ _ _ _
   show WL _ _ _ _ _ _ _
   have b176 := (b110.kp k174)
   refine ld (vs a31 ((x_p).Cands).length c32) wN isAgg_26 b176 ?_
   exact f1
  ·intro _ w12 k177 _
   rintro _ _ _ _ _ _ _ _ _
   show WL _ _ _ _ _ _ _
   refine mw (vi (candAt x_p x_a)) ?_
   exact f1
  ·intro _ w12 k179 _
   rintro _ _ _ _ _ _ _ rfl _ _
   show WL _ _ _ _ _ _ _
   refine ar ((candAt x_p x_a) + 1) wN ?_
   exact f1
  ·intro _ w12 k181 _
   rintro _ _ _ _ _ rfl _ rfl _ rfl _ rfl _
   show WL _ _ _ _ _ _ _
   have o185 := (own_kp o150 k181)
   refine slvR ((((candAt x_p x_a) + 1)).toNat) (((x_p).Cands).length) wN slTy_26 (Rd.of_own o185) (by first | omega | (simp only [List.length_cons, List.length_nil, List.length_replicate, List.length_append, List.length_take, List.length_set, List.length_map]; omega)) (by first | omega | (simp only [List.length_cons, List.length_nil, List.length_replicate, List.length_append, List.length_take, List.length_set, List.length_map]; omega)) rfl rfl rfl rfl (.inr ⟨_, _, _, rfl, rfl, by omega⟩) (.inl ⟨rfl, rfl⟩) ?_
   exact f1
 ·intro _ w12 k187
  rintro _ rfl _ rfl _ rfl _ rfl
  rintro _ rfl _ rfl _ rfl _ rfl _ rfl
  show WL _ _ _ _ _ _ _
  have o197 := (own_kp o150 k187)
  have s198 := (SubA.kp s151 k187)
  have o199 : w12.ownsRow w3.heap.size 34 4 (.slice (subA a31 c32 0 4) (((candAt x_p x_a)).toNat - 0) (c32 - 0)) ((candAt x_p x_a)).toNat ((y147.take ((candAt x_p x_a)).toNat).flatMap LT_34.enc) := by rw [subA0, Nat.sub_zero, Nat.sub_zero, ← rows_take LT_34.len]; exact own_take o197 (by omega)
  have r200 : Rd w12 4 (.slice (subA a31 c32 (((candAt x_p x_a) + 1)).toNat 4) (((x_p).Cands).length - (((candAt x_p x_a) + 1)).toNat) (c32 - (((candAt x_p x_a) + 1)).toNat)) (((x_p).Cands).length - (((candAt x_p x_a) + 1)).toNat) ((y147.drop (((candAt x_p x_a) + 1)).toNat).flatMap LT_34.enc) := by have hq9 := Rd.sub (lo := (((candAt x_p x_a) + 1)).toNat) (hi := ((x_p).Cands).length) (Rd.of_own o197) (by omega) (Nat.le_refl _); rw [rows_drop LT_34.len, List.take_of_length_le (by rw [rows_len LT_34.len, List.length_drop]; exact Nat.mul_le_mul_right _ (by omega))] at hq9; exact hq9
  refine wl_append wN rfl rfl rfl slTy_26 rfl rfl o199 r200 (rows_one (fun u => u.oneCell' = true) LT_34.one) (by omega) (by simp only [maxLen]; omega) (z9 k30 k43 k46 k52 k69 k73 k96 k109 k187) ?_
  intro u201 w13 k202 o203 j204
  have h208 : ((y147.take (((candAt x_p x_a)).toNat) ++ y147.drop ((((candAt x_p x_a) + 1)).toNat))).length = ((candAt x_p x_a)).toNat + (((x_p).Cands).length - (((candAt x_p x_a) + 1)).toNat) := by simp only [List.length_append, List.length_take, List.length_drop]; omega
  have o207 : w13.ownsRow w3.heap.size 34 4 u201 ((y147.take (((candAt x_p x_a)).toNat) ++ y147.drop ((((candAt x_p x_a) + 1)).toNat))).length (((y147.take (((candAt x_p x_a)).toNat) ++ y147.drop ((((candAt x_p x_a) + 1)).toNat))).flatMap LT_34.enc) := by rw [h208, List.flatMap_append]; exact o203
  obtain ⟨a205, c206, rfl⟩ := own_form o207
  have k209 : Ch (fun k => (Value.slice (subA a31 c32 0 4) (((candAt x_p x_a)).toNat - 0) (c32 - 0)).ownBlock = some k) w12 w13 := k202
  rw [subA0] at k209 o199
  rw [ownB a31 (((candAt x_p x_a)).toNat - 0) (c32 - 0) (((x_p).Cands).length) c32] at k209
  have m210 := (m112.extk k187).ext k209 (fun k hk => Nat.le_trans (z3 k14 k20 k26) (own_lt o39 k hk).1)
  have s211 := SubA.row s198 o197 k209
  have s213 : ((y147.take (((candAt x_p x_a)).toNat) ++ y147.drop ((((candAt x_p x_a) + 1)).toNat))).length ≤ 1073741824 := by omega
  refine pu (vp g40 2) wN ?_
  have b214 := ((b110.kp k187).ch k209 (fun h => by have := (own_lt o39 _ h).2; have := Nat.le_trans (Nat.le_refl w4.heap.size) p41; omega))
  refine st (vs a205 ((y147.take (((candAt x_p x_a)).toNat) ++ y147.drop ((((candAt x_p x_a) + 1)).toNat))).length c206) [(vs a205 ((y147.take (((candAt x_p x_a)).toNat) ++ y147.drop ((((candAt x_p x_a) + 1)).toNat))).length c206)] [(vi x_a.Host), (vi x_a.Port), (vs a205 ((y147.take (((candAt x_p x_a)).toNat) ++ y147.drop ((((candAt x_p x_a) + 1)).toNat))).length c206)] wN sizeOf_26 b214 ?_
  intro w14 k215 b216 z217
  have m218 := m210.ext k215 (fun k hk => by subst hk; exact Nat.le_trans (z4 k14 k20 k26 k30) p41)
  refine nx ?_
  refine lN [(vi x_a.Host), (vi x_a.Port), (vs a205 ((y147.take (((candAt x_p x_a)).toNat) ++ y147.drop ((((candAt x_p x_a) + 1)).toNat))).length c206)] wN isAgg_28 sizeOf_28 b216 ?_
  have zz21 := Nat.lt_of_lt_of_le p25 (Nat.le_trans k30.size p41)
  have b219 := (((((((((((b27.kp k30).kp k43).ch k46 (Nat.ne_of_lt zz21)).kp k52).kp k69).kp k73).kp k96).ch k109 (Nat.ne_of_lt zz21)).kp k187).ch k209 (fun h => by have := (own_lt o39 _ h).1; have := Nat.lt_of_lt_of_le p25 (Nat.le_refl w3.heap.size); omega)).ch k215 (Nat.ne_of_lt zz21))
  refine sv [(vi x_a.Host), (vi x_a.Port), (vs a205 ((y147.take (((candAt x_p x_a)).toNat) ++ y147.drop ((((candAt x_p x_a) + 1)).toNat))).length c206)] wN sizeOf_28 b219 ?_
  intro w15 k220 b221 z222
  have m223 := m218.ext k220 (fun k hk => by subst hk; exact Nat.le_trans (z2 k14 k20) p24)
  refine aw (vb true) ?_
  refine n3 ?_
  have o224 := (own_ch (own_blk o207 b214 (by decide) k215) k220 (ne1 o207 (p25)))
  refine ret_2 (.inl rfl) (va [(vi x_a.Host), (vi x_a.Port), (vs a205 ((y147.take (((candAt x_p x_a)).toNat) ++ y147.drop ((((candAt x_p x_a) + 1)).toNat))).length c206)]) (vb true) rfl (rv_c [(vi x_a.Host), (vi x_a.Port), (vs a205 ((y147.take (((candAt x_p x_a)).toNat) ++ y147.drop ((((candAt x_p x_a) + 1)).toNat))).length c206)] rfl b221 isAgg_28 sizeOf_28) rfl ?_
  refine ⟨m223.keep0, ?_⟩
  simp only [F_impl_Answer, h71, h75, h77, h98, h103, cond_true, cond_false]
  have s226 := (SubA.ch (SubA.ch s211 h153 k215 (fun g h1 h2 hk => by have h3 := Nat.le_trans (Nat.le_refl w4.heap.size) p41; omega)) h153 k220 (fun g h1 h2 hk => by have h3 := Nat.lt_of_lt_of_le p25 (Nat.le_refl w3.heap.size); omega))
  have h228 : ((y147.take (((candAt x_p x_a)).toNat) ++ y147.drop ((((candAt x_p x_a) + 1)).toNat))).map Prod.fst = (((x_p).Cands).take (((candAt x_p x_a)).toNat) ++ ((x_p).Cands).drop ((((candAt x_p x_a) + 1)).toNat)) := (by rw [List.map_append, List.map_take, List.map_drop, h148])
  have o227 := OLv.subl o224 rfl s226 (by rw [show (((candAt x_p x_a) + 1)).toNat = ((candAt x_p x_a)).toNat + 1 by omega]; exact sub_cut _ _) p152 s213
  rw [h228] at o227
  have hN229 : ((y147.take (((candAt x_p x_a)).toNat) ++ y147.drop ((((candAt x_p x_a) + 1)).toNat))).length = ((((x_p).Cands).take (((candAt x_p x_a)).toNat) ++ ((x_p).Cands).drop ((((candAt x_p x_a) + 1)).toNat))).length := by rw [← h228, List.length_map]
  rw [hN229] at o227 ⊢
  exact ⟨_, _, rfl, (OLv.now (OLv.low o227 (z3 k14 k20 k26))), (by rw [← hN229]; exact s213), ⟨trivial, trivial⟩⟩

def O_34_4 (w : World) (lo : Nat) (v : Value) (x : (PCand) × (Bool)) : Prop := ∃ (a1 : Option Addr) (c1 : Nat), v = .tuple #[.agg #[.int .i64 x.1.A.Host, .int .i64 x.1.A.Port, .slice a1 x.1.Draw.length c1, .int .i64 x.1.Until], .bool x.2] ∧ w.ownsRow lo 5 1 (.slice a1 x.1.Draw.length c1) x.1.Draw.length (x.1.Draw.map bV) ∧ x.1.Draw.length ≤ 1073741824 ∧ Aps [(a1, c1)]
def F_impl_CandOf (x_p : PPaths) (x_a : PAddr) : (PCand) × (Bool) := bif (iPa x_p) then (bif (decide ((candAt x_p x_a) < 0)) then (({ A := { Host := 0, Port := 0 : PAddr }, Draw := [], Until := 0 : PCand }, false)) else (((((x_p).Cands).getD ((candAt x_p x_a)).toNat z_PCand), true))) else (({ A := { Host := 0, Port := 0 : PAddr }, Draw := [], Until := 0 : PCand }, false))
theorem C_impl_CandOf (w0 : World) (v_x_p : Value) (x_p : PPaths) (r_x_p : R_28 w0 v_x_p x_p) (v_x_a : Value) (x_a : PAddr) (r_x_a : R_25 w0 v_x_a x_a)  : Fn Try.prog 11 #[v_x_p, v_x_a] w0 (fun v w' => Keep w0 w' ∧ O_34_4 w' w0.heap.size v (F_impl_CandOf x_p x_a)) := by
 obtain ⟨a1, c2, rfl, r3, s4⟩ := r_x_p
 obtain rfl := r_x_a
 refine fn_ofS (n := 24) [(va (L_28 x_p a1 c2)), (va (L_25 x_a))] Try.func11 rfl rfl ?_
 refine sr ?_
 refine bx (L_28 x_p a1 c2) wN ?_
 intro g6 w1 p7 p8 k9 b10
 refine bx (L_25 x_a) wN ?_
 intro g12 w2 p13 p14 k15 b16
 refine al Z_34 wN zero_34 ?_
 intro g18 w3 p19 p20 k21 b22
 have m23 := (((Ch.base w0).extk k9).extk k15).extk k21
 refine aw (vb false) ?_
 refine nx ?_
 have b24 := ((b10.kp k15).kp k21)
 refine lN (L_28 x_p a1 c2) wN isAgg_28 sizeOf_28 b24 ?_
 have b25 := (b16.kp k21)
 refine lN (L_25 x_a) wN isAgg_25 sizeOf_25 b25 ?_
 refine cl wN (C_impl_candAt w3 _ x_p (mR_28 (r3.from0 m23) s4) _ x_a (mR_25)) ?_
 rintro _ w4 ⟨k26, rfl⟩
 have m27 := m23.extk k26
 have q28 := candAt_range x_p x_a
 refine aw (vi (candAt x_p x_a)) ?_
 refine n4 ?_
 refine jT1 [(2, (vp g6 0)), (4, (vp g18 0)), (5, (vb false)), (6, (vi (candAt x_p x_a)))] (F_impl_CandOf x_p x_a = ({ A := { Host := 0, Port := 0 : PAddr }, Draw := [], Until := 0 : PCand }, false)) ?_ fun J29 => ?_
 ·intro hA30 w5 k32 u31
  refine sr ?_
  refine pu (va Z_34) wN ?_
  have b34 := ((b22.kp k26).kp k32)
  refine sv Z_34 wN sizeOf_34 b34 ?_
  intro w6 k35 b36 z37
  have m38 := (m27.extk k32).ext k35 (fun k hk => by subst hk; exact Nat.le_trans (z2 k9 k15) p19)
  refine aw (vb false) ?_
  refine n1 ?_
  refine ret_2 (.inl rfl) (va Z_34) (vb false) rfl (rv_c Z_34 rfl b36 isAgg_34 sizeOf_34) rfl ?_
  refine ⟨m38.keep0, ?_⟩
  rw [hA30]
  exact ⟨_, _, rfl, (by first | exact own_nil _ _ _ _ | exact OLv.nil _ _ _ _), (by simp), ⟨trivial, trivial⟩⟩
 have b40 := (b24.kp k26)
 refine lN (L_28 x_p a1 c2) wN isAgg_28 sizeOf_28 b40 ?_
 refine cl wN (C_impl_PathsOk w4 _ x_p (mR_28 (r3.from0 m27) s4)) ?_
 rintro _ w5 ⟨k41, rfl⟩
 have m42 := m27.extk k41
 refine pu (vb (!(iPa x_p))) wN ?_
 refine mw (vb (!(iPa x_p))) ?_
 rcases bf (iPa x_p) with h43 | h43
 ·iterate 2 refine sk (congrArg not h43) ?_
  refine pk (vb true) wN (congrArg not h43) ?_
  refine n2 ?_
  refine ct (Eq.refl true) ?_
  have hF83 : F_impl_CandOf x_p x_a = ({ A := { Host := 0, Port := 0 : PAddr }, Draw := [], Until := 0 : PCand }, false) := by simp only [F_impl_CandOf, h43, cond_true, cond_false]
  exact wj (J29 hF83 _ k41)
 have q44 := iPa_t h43
 refine mv (vi (candAt x_p x_a)) (wS (congrArg not h43)) ?_
 refine pu (vb (decide ((candAt x_p x_a) < 0))) (wS (congrArg not h43)) ?_
 refine pf (vb (decide ((candAt x_p x_a) < 0))) wN (congrArg not h43) ?_
 refine n2 ?_
 rcases bt (decide ((candAt x_p x_a) < 0)) with h45 | h45
 ·have q46 := of_decide_eq_true h45
  refine ct h45 ?_
  have hF47 : F_impl_CandOf x_p x_a = ({ A := { Host := 0, Port := 0 : PAddr }, Draw := [], Until := 0 : PCand }, false) := by simp only [F_impl_CandOf, h43, h45, cond_true, cond_false]
  exact wj (J29 hF47 _ k41)
 have q48 := of_decide_eq_false h45
 refine cf h45 ?_
 refine y1 ?_
 have b49 := (b40.kp k41)
 refine lN (L_28 x_p a1 c2) wN isAgg_28 sizeOf_28 b49 ?_
 refine cl wN (C_impl_copyPaths w5 _ x_p (mR_28 (r3.from0 m42) s4)) ?_
 rintro _ w6 ⟨k50, ⟨a51, c52, rfl, o53, s54, ap56⟩⟩
 obtain ⟨y58, o59⟩ := OLv.ow o53
 refine pu (vs a51 ((x_p).Cands).length c52) wN ?_
 refine mw (vi (candAt x_p x_a)) ?_
 obtain ⟨y60, r61⟩ := RLv.row (OLv.rl o53)
 refine ix wN (candAt x_p x_a) slTy_26 r61 ?_
 obtain ⟨y62, l63, r64, e65, u66⟩ := OLv.el z_PCand (i := ((candAt x_p x_a)).toNat) o53 (by first | omega | (simp only [List.length_cons, List.length_nil, List.length_replicate, List.length_append, List.length_take, List.length_set, List.length_map]; omega))
 obtain ⟨a67, c68, l72, rfl, r69, s70, u73⟩ := SubO.c u66
 obtain rfl := SubO.n u73
 refine wl_loadEN [(vi (((((x_p).Cands).getD ((candAt x_p x_a)).toNat z_PCand).A).Host)), (vi (((((x_p).Cands).getD ((candAt x_p x_a)).toNat z_PCand).A).Port)), (vs a67 (((x_p).Cands).getD ((candAt x_p x_a)).toNat z_PCand).Draw.length c68), (vi ((((x_p).Cands).getD ((candAt x_p x_a)).toNat z_PCand).Until))] wN rfl rfl rfl rfl isAgg_34 sizeOf_34 r64 (by first | omega | (simp only [List.length_cons, List.length_nil, List.length_replicate, List.length_append, List.length_take, List.length_set, List.length_map]; omega)) ((part_of (off := 0) (n := 4) e65 (by first | rfl | simp | omega) (by decide)).trans rfl) ?_
 have b74 := (((b22.kp k26).kp k41).kp k50)
 refine sv [(vi (((((x_p).Cands).getD ((candAt x_p x_a)).toNat z_PCand).A).Host)), (vi (((((x_p).Cands).getD ((candAt x_p x_a)).toNat z_PCand).A).Port)), (vs a67 (((x_p).Cands).getD ((candAt x_p x_a)).toNat z_PCand).Draw.length c68), (vi ((((x_p).Cands).getD ((candAt x_p x_a)).toNat z_PCand).Until))] wN sizeOf_34 b74 ?_
 intro w7 k75 b76 z77
 have m78 := (m42.extk k50).ext k75 (fun k hk => by subst hk; exact Nat.le_trans (z2 k9 k15) p19)
 refine aw (vb true) ?_
 refine n3 ?_
 have o79 := (own_ch r69 k75 (ne1 r69 (Nat.lt_of_lt_of_le p20 (z2 k26 k41))))
 refine ret_2 (.inl rfl) (va [(vi (((((x_p).Cands).getD ((candAt x_p x_a)).toNat z_PCand).A).Host)), (vi (((((x_p).Cands).getD ((candAt x_p x_a)).toNat z_PCand).A).Port)), (vs a67 (((x_p).Cands).getD ((candAt x_p x_a)).toNat z_PCand).Draw.length c68), (vi ((((x_p).Cands).getD ((candAt x_p x_a)).toNat z_PCand).Until))]) (vb true) rfl (rv_c [(vi (((((x_p).Cands).getD ((candAt x_p x_a)).toNat z_PCand).A).Host)), (vi (((((x_p).Cands).getD ((candAt x_p x_a)).toNat z_PCand).A).Port)), (vs a67 (((x_p).Cands).getD ((candAt x_p x_a)).toNat z_PCand).Draw.length c68), (vi ((((x_p).Cands).getD ((candAt x_p x_a)).toNat z_PCand).Until))] rfl b76 isAgg_34 sizeOf_34) rfl ?_
 refine ⟨m78.keep0, ?_⟩
 simp only [F_impl_CandOf, h43, h45, cond_true, cond_false]
 have hN81 : (((x_p).Cands).getD ((candAt x_p x_a)).toNat z_PCand).Draw.length = ((((x_p).Cands).getD ((candAt x_p x_a)).toNat z_PCand).Draw).length := by first | (simp only [List.length_append, List.length_take, List.length_replicate, List.length_set, List.length_map]; done) | (simp only [List.length_append, List.length_take, List.length_replicate, List.length_set, List.length_map]; omega)
 rw [hN81] at o79 ⊢
 exact ⟨_, _, rfl, (own_lo o79 (z5 k9 k15 k21 k26 k41)), (by rw [← hN81]; exact s70), ⟨trivial, trivial⟩⟩

def candS (x_p : PPaths) (x_a : PAddr) : PCand × Bool := bif sPa x_p then (bif decide (candAt x_p x_a < 0) then (z_PCand, false) else (x_p.Cands.getD (candAt x_p x_a).toNat z_PCand, true)) else (z_PCand, false)
theorem C_spec_CandOf (w0 : World) (v_x_p : Value) (x_p : PPaths) (r_x_p : R_28 w0 v_x_p x_p) (v_x_a : Value) (x_a : PAddr) (r_x_a : R_25 w0 v_x_a x_a)  : Fn Try.prog 57 #[v_x_p, v_x_a] w0 (fun v w' => Keep w0 w' ∧ O_34_4 w' w0.heap.size v (candS x_p x_a)) := by
 obtain ⟨a1, c2, rfl, r3, s4⟩ := r_x_p
 obtain rfl := r_x_a
 refine fn_ofS (n := 33) [(va (L_28 x_p a1 c2)), (va (L_25 x_a))] Try.func57 rfl rfl ?_
 refine sr ?_
 refine bx (L_28 x_p a1 c2) wN ?_
 intro g6 w1 p7 p8 k9 b10
 refine bx (L_25 x_a) wN ?_
 intro g12 w2 p13 p14 k15 b16
 refine al Z_34 wN zero_34 ?_
 intro g18 w3 p19 p20 k21 b22
 have m23 := (((Ch.base w0).extk k9).extk k15).extk k21
 refine aw (vb false) ?_
 refine n4 ?_
 have b24 := ((b10.kp k15).kp k21)
 refine lN (L_28 x_p a1 c2) wN isAgg_28 sizeOf_28 b24 ?_
 refine cl wN (C_spec_PathsOk w3 _ x_p (mR_28 (r3.from0 m23) s4)) ?_
 rintro _ w4 ⟨k25, rfl⟩
 have m26 := m23.extk k25
 refine pu (vb (!(sPa x_p))) wN ?_
 refine n2 ?_
 rcases bf (sPa x_p) with h27 | h27
 ·refine ct (congrArg not h27) ?_
  refine sr ?_
  refine pu (va Z_34) wN ?_
  have b129 := (b22.kp k25)
  refine sv Z_34 wN sizeOf_34 b129 ?_
  intro w5 k130 b131 z132
  have m133 := m26.ext k130 (fun k hk => by subst hk; exact Nat.le_trans (z2 k9 k15) p19)
  refine aw (vb false) ?_
  refine n1 ?_
  refine ret_2 (.inl rfl) (va Z_34) (vb false) rfl (rv_c Z_34 rfl b131 isAgg_34 sizeOf_34) rfl ?_
  refine ⟨m133.keep0, ?_⟩
  have hF134 : candS x_p x_a = ({ A := { Host := 0, Port := 0 : PAddr }, Draw := [], Until := 0 : PCand }, false) := by simp only [candS, h27]; rfl
  rw [hF134]
  exact ⟨_, _, rfl, (by first | exact own_nil _ _ _ _ | exact OLv.nil _ _ _ _), (by simp), ⟨trivial, trivial⟩⟩
 have q28 := sPa_t h27
 refine cf (congrArg not h27) ?_
 refine y2 ?_
 refine aw (vi 0) ?_
 refine wl_nil <| wq_then <| wc_block ?_
 refine wc_loopP [(2, (vp g6 0)), (3, (vp g12 0)), (4, (vp g18 0)), (6, (vi ((0 : Nat) : Int)))] ⟨rfl, rfl, rfl, (congrArg (Value.int .i64) (show (0 : Int) = ((0 : Nat) : Int) by omega)), trivial⟩ (fun e' w' => ∃ (k : Nat) (u29 : Env), e' = pt u29 [(2, (vp g6 0)), (3, (vp g12 0)), (4, (vp g18 0)), (6, (vi ((k : Nat) : Int)))] ∧ Ch (fun k => w0.heap.size ≤ k) w0 w' ∧ Ch (fun k => w4.heap.size ≤ k) w4 w' ∧ k ≤ x_p.Cands.length ∧ (∀ j, j < k → (fun c : PCand => decide (c.A.Host = x_a.Host) && decide (c.A.Port = x_a.Port)) (x_p.Cands.getD j z_PCand) = false)) (fun e' _ => x_p.Cands.length - ((intOf (e' 6))).toNat) ?_ ?_
 ·exact fun u => ⟨0, u, rfl, m26, (Ch.refl (fun k => w4.heap.size ≤ k) w4), (by omega), (by first | (intro j hj; omega) | exact find_next (p := (fun c : PCand => decide (c.A.Host = x_a.Host) && decide (c.A.Port = x_a.Port))) (by assumption) (by assumption))⟩
 ·rintro _ w5 ⟨k, u29, rfl, m30, k31, i32, i33⟩
  refine wc_seq <| sr ?_
  refine mw (vi ((k : Nat) : Int)) ?_
  refine pu (vp g6 2) wN ?_
  have b34 := ((b24.kp k25).ch k31 (Nat.not_le.2 (Nat.lt_of_lt_of_le p8 (z3 k15 k21 k25))))
  refine ld (vs a1 x_p.Cands.length c2) wN isAgg_26 b34 ?_
  obtain ⟨y35, r36⟩ := RLv.row (r3.from0 m30)
  refine ln wN slTy_26 r36 ?_
  refine pu (vb (decide (((k : Nat) : Int) < (x_p.Cands.length : Int)))) wN ?_
  refine n2 ?_
  rcases bf (decide (((k : Nat) : Int) < (x_p.Cands.length : Int))) with h37 | h37
  ·have q121 := of_decide_eq_false h37
   refine cf h37 ?_
   refine wc_exit <| wq_then_exit <| wq_then_exit <| wq_blk_exit <| wq_then <| sr ?_
   refine pu (va Z_34) wN ?_
   have b122 := ((b22.kp k25).ch k31 (Nat.not_le.2 (Nat.lt_of_lt_of_le p20 k25.size)))
   refine sv Z_34 wN sizeOf_34 b122 ?_
   intro w6 k123 b124 z125
   have m126 := m30.ext k123 (fun k hk => by subst hk; exact Nat.le_trans (z2 k9 k15) p19)
   refine aw (vb false) ?_
   refine n3 ?_
   refine ret_2 (.inl rfl) (va Z_34) (vb false) rfl (rv_c Z_34 rfl b124 isAgg_34 sizeOf_34) rfl ?_
   refine ⟨m126.keep0, ?_⟩
   have hF127 : candS x_p x_a = ({ A := { Host := 0, Port := 0 : PAddr }, Draw := [], Until := 0 : PCand }, false) := by have hz : candAt x_p x_a = -1 := findF_none (p := (fun c : PCand => decide (c.A.Host = x_a.Host) && decide (c.A.Port = x_a.Port))) (z := z_PCand) (by assumption) (by omega); simp only [candS, h27, h37, hz]; rfl
   rw [hF127]
   exact ⟨_, _, rfl, (by first | exact own_nil _ _ _ _ | exact OLv.nil _ _ _ _), (by simp), ⟨trivial, trivial⟩⟩
  have q38 := of_decide_eq_true h37
  refine ct h37 ?_
  refine wc_skip <| wq_then <| wc_seq <| wc_block <| wc_seq ?_
  obtain ⟨y54, l55, r56, e57, u58⟩ := RLv.el z_PCand (i := k) r3 (by first | omega | (simp only [List.length_cons, List.length_nil, List.length_replicate, List.length_append, List.length_take, List.length_set, List.length_map]; omega))
  obtain ⟨a59, c60, l64, rfl, r61, s62, u65⟩ := SubR.c u58
  obtain rfl := SubR.n u65
  refine wc_drawT ([(18, [], [], (fun _ v _ => v = (vp g6 2))), (19, [], [0], (fun _ v _ => v = (vs a1 x_p.Cands.length c2))), (20, [], [], (fun _ v _ => v = (vi ((k : Nat) : Int)))), (21, [], [0, 1, 2], (fun _ v _ => v = (ve (vs a1 x_p.Cands.length c2) ((((k : Nat) : Int)).toNat * 4)))), (22, [], [0, 1, 2, 3], (fun _ v _ => v = (ve (vs a1 x_p.Cands.length c2) ((((k : Nat) : Int)).toNat * 4 + 0)))), (23, [], [0, 1, 2, 3, 4], (fun _ v _ => v = (va (L_25 ((x_p.Cands.getD k z_PCand).A))))), (24, [], [], (fun _ v _ => v = (va (L_25 x_a))))] : GV) (fun _ w' => Keep w5 w') [] mixed rfl (by kernel_rfl) (by kernel_rfl) ?_ (fun _ _ h => h) (fun _ _ _ _ h _ k => h.trans k) trivial ?_ ?_ ?_
  ·exact ⟨hV, hE, ⟨hV, hE, ⟨hV, hE, ⟨hV, hE, ⟨hV, hE, ⟨hV, hE, ⟨hV, hE, trivial⟩⟩⟩⟩⟩⟩⟩
  ·exact trivial
  ·refine ⟨?_, ⟨?_, ⟨?_, ⟨?_, ⟨?_, ⟨?_, ⟨?_, trivial⟩⟩⟩⟩⟩⟩⟩
   ·intro _ w6 k69 _
    rintro _ _ _ _ _ _ _
    show WL _ _ _ _ _ _ _
    refine pu (vp g6 2) wN ?_
    exact f1
   ·intro _ w6 k71 _
    rintro _ rfl _ _ _ _ _ _
    show WL _ _ _ _ _ _ _
    have b73 := (b34.kp k71)
    refine ld (vs a1 x_p.Cands.length c2) wN isAgg_26 b73 ?_
    exact f1
   ·intro _ w6 k74 _
    rintro _ _ _ _ _ _ _
    show WL _ _ _ _ _ _ _
    refine mw (vi ((k : Nat) : Int)) ?_
    exact f1
   ·intro _ w6 k76 _
    have m77 := m30.extk k76
    rintro _ rfl _ rfl _ rfl _ _ _ _
    show WL _ _ _ _ _ _ _
    obtain ⟨y79, r80⟩ := RLv.row (r3.from0 m77)
    refine ix wN ((k : Nat) : Int) slTy_26 r80 ?_
    exact f1
   ·intro _ w6 k81 _
    have m82 := m30.extk k81
    rintro _ rfl _ rfl _ rfl _ rfl _ _ _
    show WL _ _ _ _ _ _ _
    refine wl_fieldE wN rfl rfl rfl fieldAt_34_0 rfl (r56.from0 m82) (by omega) ?_
    exact f1
   ·intro _ w6 k86 _
    have m87 := m30.extk k86
    rintro _ rfl _ rfl _ rfl _ rfl _ rfl _ _
    show WL _ _ _ _ _ _ _
    refine wl_loadEN (L_25 ((x_p.Cands.getD k z_PCand).A)) wN rfl rfl rfl rfl isAgg_25 sizeOf_25 (r56.from0 m87) (by first | omega | (simp only [List.length_cons, List.length_nil, List.length_replicate, List.length_append, List.length_take, List.length_set, List.length_map]; omega)) ((part_of (off := 0) (n := 2) e57 (by first | rfl | simp | omega) (by decide)).trans rfl) ?_
    exact f1
   ·intro _ w6 k91 _
    rintro _ _ _ _ _ _ _
    show WL _ _ _ _ _ _ _
    have b93 := ((((b16.kp k21).kp k25).ch k31 (Nat.not_le.2 (Nat.lt_of_lt_of_le p14 (z2 k21 k25)))).kp k91)
    refine lN (L_25 x_a) wN isAgg_25 sizeOf_25 b93 ?_
    exact f1
  ·intro _ w6 k94
   have m95 := m30.extk k94
   rintro _ rfl _ rfl _ rfl _ rfl _ rfl _ rfl _ rfl
   show WL _ _ _ _ _ _ _
   refine wl_aggeq ((decide ((((x_p.Cands.getD k z_PCand).A).Host) = x_a.Host) && decide ((((x_p.Cands.getD k z_PCand).A).Port) = x_a.Port))) wN rfl rfl rfl rfl rfl guardt_25 (aggeq_25 (((x_p.Cands.getD k z_PCand).A).Host) x_a.Host (((x_p.Cands.getD k z_PCand).A).Port) x_a.Port w6) ?_
   refine n2 ?_
   rcases bf (decide ((((x_p.Cands.getD k z_PCand).A).Host) = x_a.Host) && decide ((((x_p.Cands.getD k z_PCand).A).Port) = x_a.Port)) with h100 | h100
   ·refine cf h100 ?_
    refine wc_skip <| wq_blk_normal <| wq_then <| wc_region ?_
    refine mw (vi ((k : Nat) : Int)) ?_
    refine ar (((k : Nat) : Int) + 1) wN ?_
    refine aw (vi (((k : Nat) : Int) + 1)) ?_
    refine wl_nil ?_
    refine wq_loopP (w0 := w5) [(2, (vp g6 0)), (3, (vp g12 0)), (4, (vp g18 0)), (6, (vi (((k + 1) : Nat) : Int)))] ?_ ?_ ?_
    · exact ⟨rfl, rfl, rfl, (congrArg (Value.int .i64) (show ((((k : Nat) : Int) + 1) : Int) = (((k + 1) : Nat) : Int) by omega)), trivial⟩
    · exact fun u => ⟨(k + 1), u, rfl, m95, (((Ch.refl (fun k => w4.heap.size ≤ k) w4).ext k31 (fun k hk => hk)).extk k94), (by omega), (by first | (intro j hj; omega) | exact find_next (p := (fun c : PCand => decide (c.A.Host = x_a.Host) && decide (c.A.Port = x_a.Port))) (by assumption) (by assumption))⟩
    · show x_p.Cands.length - ((((k + 1) : Nat) : Int)).toNat < x_p.Cands.length - (((k : Nat) : Int)).toNat; omega
   refine ct h100 ?_
   refine sr ?_
   refine pu (vp g6 2) wN ?_
   have b102 := (b34.kp k94)
   refine ld (vs a1 x_p.Cands.length c2) wN isAgg_26 b102 ?_
   refine mw (vi ((k : Nat) : Int)) ?_
   obtain ⟨y103, r104⟩ := RLv.row (r3.from0 m95)
   refine ix wN ((k : Nat) : Int) slTy_26 r104 ?_
   refine wl_loadEN [(vi (((x_p.Cands.getD k z_PCand).A).Host)), (vi (((x_p.Cands.getD k z_PCand).A).Port)), (vs a59 (x_p.Cands.getD k z_PCand).Draw.length c60), (vi ((x_p.Cands.getD k z_PCand).Until))] wN rfl rfl rfl rfl isAgg_34 sizeOf_34 (r56.from0 m95) (by first | omega | (simp only [List.length_cons, List.length_nil, List.length_replicate, List.length_append, List.length_take, List.length_set, List.length_map]; omega)) ((part_of (off := 0) (n := 4) e57 (by first | rfl | simp | omega) (by decide)).trans rfl) ?_
   refine cl wN (C_spec_l16Cand w6 _ (x_p.Cands.getD k z_PCand) (mR_34 (r61.from0 m95) s62)) ?_
   rintro _ w7 ⟨k105, ⟨a106, c107, rfl, o108, s109, ap111⟩⟩
   have b113 := ((((b22.kp k25).ch k31 (Nat.not_le.2 (Nat.lt_of_lt_of_le p20 k25.size))).kp k94).kp k105)
   refine st (va (L_34 (F_spec_l16Cand (x_p.Cands.getD k z_PCand)) a106 c107)) (L_34 (F_spec_l16Cand (x_p.Cands.getD k z_PCand)) a106 c107) (L_34 (F_spec_l16Cand (x_p.Cands.getD k z_PCand)) a106 c107) wN sizeOf_34 b113 ?_
   intro w8 k114 b115 z116
   have m117 := (m95.extk k105).ext k114 (fun k hk => by subst hk; exact Nat.le_trans (z2 k9 k15) p19)
   refine aw (vb true) ?_
   refine wl_nil <| wq_then <| wc_ret <| wq_blk_ret <| wq_then_ret <| wq_then_ret <| wq_blk_ret <| wq_then_ret ?_
   have o118 := (own_ch o108 k114 (ne1 o108 (Nat.lt_of_lt_of_le p20 (z3 k25 k31 k94))))
   refine ret_2 (.inl rfl) (va (L_34 (F_spec_l16Cand (x_p.Cands.getD k z_PCand)) a106 c107)) (vb true) rfl (rv_c (L_34 (F_spec_l16Cand (x_p.Cands.getD k z_PCand)) a106 c107) rfl b115 isAgg_34 sizeOf_34) rfl ?_
   refine ⟨m117.keep0, ?_⟩
   have hF119 : candS x_p x_a = ((F_spec_l16Cand (x_p.Cands.getD k z_PCand)), true) := by have hz : candAt x_p x_a = (k : Int) := findF_some (p := (fun c : PCand => decide (c.A.Host = x_a.Host) && decide (c.A.Port = x_a.Port))) (z := z_PCand) (by assumption) (by omega) (by assumption); simp only [candS, h27, h37, h100, hz]; rfl
   rw [hF119]
   exact ⟨_, _, rfl, (own_lo o118 (z6 k9 k15 k21 k25 k31 k94)), s109, ⟨trivial, trivial⟩⟩

def F_spec_l1Same (x_a : List UInt8) (x_b : List UInt8) : (Bool) := (eqS (ByteArray.mk x_a.toArray) (ByteArray.mk x_b.toArray))
theorem C_spec_l1Same (w0 : World) (v_x_a : Value) (x_a : List UInt8) (r_x_a : R_22 w0 v_x_a x_a) (v_x_b : Value) (x_b : List UInt8) (r_x_b : R_22 w0 v_x_b x_b)  : Fn Try.prog 59 #[v_x_a, v_x_b] w0 (fun v w' => Keep w0 w' ∧ O_4 w' w0.heap.size v (F_spec_l1Same x_a x_b)) := by
 obtain ⟨a1, c2, rfl, r3, s4⟩ := r_x_a
 obtain ⟨a6, c7, rfl, r8, s9⟩ := r_x_b
 refine fn_ofS (n := 10) [(vs a1 x_a.length c2), (vs a6 x_b.length c7)] Try.func59 rfl rfl ?_
 refine sr ?_
 refine aw (vb false) ?_
 refine nx ?_
 refine mw (vs a1 x_a.length c2) ?_
 refine wl_b2s x_a wN rfl rfl rfl rfl Try.underlying22 Try.underlying5 Try.underlying9 r3 ?_
 refine mw (vs a6 x_b.length c7) ?_
 refine wl_b2s x_b wN rfl rfl rfl rfl Try.underlying22 Try.underlying5 Try.underlying9 r8 ?_
 refine pu (vb (eqS (ByteArray.mk x_a.toArray) (ByteArray.mk x_b.toArray))) wN ?_
 refine aw (vb (eqS (ByteArray.mk x_a.toArray) (ByteArray.mk x_b.toArray))) ?_
 refine n3 ?_
 refine rt (vb (eqS (ByteArray.mk x_a.toArray) (ByteArray.mk x_b.toArray))) ?_
 refine ⟨Ch.refl _ _, ?_⟩
 have hF11 : F_spec_l1Same x_a x_b = (eqS (ByteArray.mk x_a.toArray) (ByteArray.mk x_b.toArray)) := by rfl
 rw [hF11]
 exact rfl

def F_spec_Answer (x_p : PPaths) (x_now : Int) (x_a : PAddr) (x_draw : List UInt8) : (PPaths) × (Bool) := bif ((candS x_p x_a).2) then (bif (F_spec_l1In x_now 0 1000000) then (bif (F_spec_l1Same (((candS x_p x_a).1).Draw) x_draw) then (bif (decide (((candS x_p x_a).1).Until < x_now)) then (((x_p), false)) else (({ At := x_a, Cands := ((x_p.Cands.take x_p.Cands.length).filter (fun c : PCand => !(decide (c.A.Host = x_a.Host) && decide (c.A.Port = x_a.Port)))) : PPaths }, true))) else (((x_p), false))) else (((x_p), false))) else (((x_p), false))
theorem C_spec_Answer (w0 : World) (v_x_p : Value) (x_p : PPaths) (r_x_p : R_28 w0 v_x_p x_p) (x_now : Int) (v_x_a : Value) (x_a : PAddr) (r_x_a : R_25 w0 v_x_a x_a) (v_x_draw : Value) (x_draw : List UInt8) (r_x_draw : R_22 w0 v_x_draw x_draw)  : Fn Try.prog 12 #[v_x_p, (vi x_now), v_x_a, v_x_draw] w0 (fun v w' => Keep w0 w' ∧ O_28_4 w' w0.heap.size v (F_spec_Answer x_p x_now x_a x_draw)) := by
 obtain ⟨a1, c2, rfl, r3, s4⟩ := r_x_p
 obtain rfl := r_x_a
 obtain ⟨a6, c7, rfl, r8, s9⟩ := r_x_draw
 refine fn_ofS (n := 71) [(va (L_28 x_p a1 c2)), (vi x_now), (va (L_25 x_a)), (vs a6 x_draw.length c7)] Try.func12 rfl rfl ?_
 refine sr ?_
 refine bx (L_28 x_p a1 c2) wN ?_
 intro g11 w1 p12 p13 k14 b15
 refine bx (L_25 x_a) wN ?_
 intro g17 w2 p18 p19 k20 b21
 refine al [(vi 0), (vi 0), (vs none 0 0)] wN zero_28 ?_
 intro g23 w3 p24 p25 k26 b27
 have m28 := (((Ch.base w0).extk k14).extk k20).extk k26
 refine aw (vb false) ?_
 refine nx ?_
 have b29 := ((b15.kp k20).kp k26)
 refine lN (L_28 x_p a1 c2) wN isAgg_28 sizeOf_28 b29 ?_
 have b30 := (b21.kp k26)
 refine lN (L_25 x_a) wN isAgg_25 sizeOf_25 b30 ?_
 refine cl wN (C_spec_CandOf w3 _ x_p (mR_28 (r3.from0 m28) s4) _ x_a (mR_25)) ?_
 rintro _ w4 ⟨k31, ⟨a32, c33, rfl, o34, s35, ap37⟩⟩
 refine mw (.tuple #[(va (L_34 ((candS x_p x_a).1) a32 c33)), (vb ((candS x_p x_a).2))]) ?_
 refine pu (va (L_34 ((candS x_p x_a).1) a32 c33)) wN ?_
 refine pu (vb ((candS x_p x_a).2)) wN ?_
 refine al Z_34 wN zero_34 ?_
 intro g39 w5 p40 p41 k42 b43
 refine sv (L_34 ((candS x_p x_a).1) a32 c33) wN sizeOf_34 b43 ?_
 intro w6 k45 b46 z47
 have m48 := ((m28.extk k31).extk k42).ext k45 (fun k hk => by subst hk; exact Nat.le_trans (z4 k14 k20 k26 k31) p40)
 refine aw (vb ((candS x_p x_a).2)) ?_
 refine n4 ?_
 refine jT1 [(4, (vp g11 0)), (6, (vp g17 0)), (8, (vp g23 0)), (9, (vb false))] (F_spec_Answer x_p x_now x_a x_draw = ((x_p), false)) ?_ fun J49 => ?_
 ·intro hA50 w7 k52 u51
  have m53 := m48.extk k52
  refine sr ?_
  have b54 := ((((b29.kp k31).kp k42).ch k45 (Nat.ne_of_lt (Nat.lt_of_lt_of_le p13 (Nat.le_trans (z3 k20 k26 k31) p40)))).kp k52)
  refine lN (L_28 x_p a1 c2) wN isAgg_28 sizeOf_28 b54 ?_
  refine cl wN (C_spec_l16Copy w7 _ x_p (mR_28 (r3.from0 m53) s4)) ?_
  rintro _ w8 ⟨k55, ⟨a56, c57, rfl, o58, s59, ap61⟩⟩
  obtain ⟨y63, o64⟩ := OLv.ow o58
  have b65 := (((((b27.kp k31).kp k42).ch k45 (Nat.ne_of_lt (Nat.lt_of_lt_of_le p25 (Nat.le_trans k31.size p40)))).kp k52).kp k55)
  refine sv (L_28 (x_p) a56 c57) wN sizeOf_28 b65 ?_
  intro w9 k66 b67 z68
  have m69 := (m53.extk k55).ext k66 (fun k hk => by subst hk; exact Nat.le_trans (z2 k14 k20) p24)
  refine aw (vb false) ?_
  refine n1 ?_
  have o70 := (OLv.ch o58 k66 (fun g h1 h2 hk => by have h3 := Nat.lt_of_lt_of_le p25 (z4 k31 k42 k45 k52); omega))
  refine ret_2 (.inl rfl) (va (L_28 (x_p) a56 c57)) (vb false) rfl (rv_c (L_28 (x_p) a56 c57) rfl b67 isAgg_28 sizeOf_28) rfl ?_
  refine ⟨m69.keep0, ?_⟩
  rw [hA50]
  exact ⟨_, _, rfl, (OLv.now (OLv.low o70 (z7 k14 k20 k26 k31 k42 k45 k52))), s59, ⟨trivial, trivial⟩⟩
 refine mw (vb ((candS x_p x_a).2)) ?_
 refine pu (vb (!((candS x_p x_a).2))) wN ?_
 refine mw (vb (!((candS x_p x_a).2))) ?_
 rcases bf ((candS x_p x_a).2) with h72 | h72
 ·iterate 3 refine sk (congrArg not h72) ?_
  refine pk (vb true) wN (congrArg not h72) ?_
  refine mw (vb true) ?_
  iterate 5 refine sk (Eq.refl true) ?_
  refine pk (vb true) wN (Eq.refl true) ?_
  refine mw (vb true) ?_
  iterate 4 refine sk (Eq.refl true) ?_
  refine pk (vb true) wN (Eq.refl true) ?_
  refine n2 ?_
  refine ct (Eq.refl true) ?_
  have hF333 : F_spec_Answer x_p x_now x_a x_draw = ((x_p), false) := by simp only [F_spec_Answer, h72, cond_true, cond_false]
  exact wj (J49 hF333 _ (Ch.refl _ _))
 refine mv (vi x_now) (wS (congrArg not h72)) ?_
 refine cl (wS (congrArg not h72)) (C_spec_l1In w6 x_now 0 1000000) ?_
 rintro _ w7 ⟨k74, rfl⟩
 have m75 := m48.extk k74
 refine pu (vb (!(F_spec_l1In x_now 0 1000000))) (wS (congrArg not h72)) ?_
 refine pf (vb (!(F_spec_l1In x_now 0 1000000))) wN (congrArg not h72) ?_
 refine mw (vb (!(F_spec_l1In x_now 0 1000000))) ?_
 rcases bf (F_spec_l1In x_now 0 1000000) with h76 | h76
 ·have q330 := spec_l1In_f h76
  iterate 5 refine sk (congrArg not h76) ?_
  refine pk (vb true) wN (congrArg not h76) ?_
  refine mw (vb true) ?_
  iterate 4 refine sk (Eq.refl true) ?_
  refine pk (vb true) wN (Eq.refl true) ?_
  refine n2 ?_
  refine ct (Eq.refl true) ?_
  have hF331 : F_spec_Answer x_p x_now x_a x_draw = ((x_p), false) := by simp only [F_spec_Answer, h72, h76, cond_true, cond_false]
  exact wj (J49 hF331 _ k74)
 have q77 := spec_l1In_t h76
 refine pu (vp g39 2) (wS (congrArg not h76)) ?_
 have b78 := (b46.kp k74)
 refine ld (vs a32 (((candS x_p x_a).1).Draw).length c33) (wS (congrArg not h76)) isAgg_22 b78 ?_
 refine mv (vs a6 x_draw.length c7) (wS (congrArg not h76)) ?_
 have o79 := (own_kp (own_ch (own_kp o34 k42) k45 (ne2 o34 (p40))) k74)
 refine cl (wS (congrArg not h76)) (C_spec_l1Same w7 _ (((candS x_p x_a).1).Draw) (mR_22 (Rd.of_own o79) s35) _ x_draw (mR_22 (r8.from0 m75) s9)) ?_
 rintro _ w8 ⟨k80, rfl⟩
 refine pu (vb (!(F_spec_l1Same (((candS x_p x_a).1).Draw) x_draw))) (wS (congrArg not h76)) ?_
 refine pf (vb (!(F_spec_l1Same (((candS x_p x_a).1).Draw) x_draw))) wN (congrArg not h76) ?_
 refine mw (vb (!(F_spec_l1Same (((candS x_p x_a).1).Draw) x_draw))) ?_
 rcases bf (F_spec_l1Same (((candS x_p x_a).1).Draw) x_draw) with h82 | h82
 ·iterate 4 refine sk (congrArg not h82) ?_
  refine pk (vb true) wN (congrArg not h82) ?_
  refine n2 ?_
  refine ct (Eq.refl true) ?_
  have hF329 : F_spec_Answer x_p x_now x_a x_draw = ((x_p), false) := by simp only [F_spec_Answer, h72, h76, h82, cond_true, cond_false]
  exact wj (J49 hF329 _ (k74.trans k80))
 refine mv (vi x_now) (wS (congrArg not h82)) ?_
 refine pu (vp g39 3) (wS (congrArg not h82)) ?_
 have b84 := (b78.kp k80)
 refine ld (vi (((candS x_p x_a).1).Until)) (wS (congrArg not h82)) isAgg_3 b84 ?_
 refine pu (vb (decide (((candS x_p x_a).1).Until < x_now))) (wS (congrArg not h82)) ?_
 refine pf (vb (decide (((candS x_p x_a).1).Until < x_now))) wN (congrArg not h82) ?_
 refine n2 ?_
 rcases bt (decide (((candS x_p x_a).1).Until < x_now)) with h85 | h85
 ·have q86 := of_decide_eq_true h85
  refine ct h85 ?_
  have hF87 : F_spec_Answer x_p x_now x_a x_draw = ((x_p), false) := by simp only [F_spec_Answer, h72, h76, h82, h85, cond_true, cond_false]
  exact wj (J49 hF87 _ (k74.trans k80))
 have q88 := of_decide_eq_false h85
 refine cf h85 ?_
 refine y1 ?_
 have b89 := (((((b30.kp k31).kp k42).ch k45 (Nat.ne_of_lt (Nat.lt_of_lt_of_le p19 (Nat.le_trans (z2 k26 k31) p40)))).kp k74).kp k80)
 refine lN (L_25 x_a) wN isAgg_25 sizeOf_25 b89 ?_
 refine pu (va [(vi x_a.Host), (vi x_a.Port), (vs none 0 0)]) wN ?_
 refine al [(vi 0), (vi 0), (vs none 0 0)] wN zero_28 ?_
 intro g90 w9 p91 p92 k93 b94
 refine sv [(vi x_a.Host), (vi x_a.Port), (vs none 0 0)] wN sizeOf_28 b94 ?_
 intro w10 k96 b97 z98
 have m99 := ((m75.extk k80).extk k93).ext k96 (fun k hk => by subst hk; exact Nat.le_trans (z8 k14 k20 k26 k31 k42 k45 k74 k80) p91)
 refine n4 ?_
 refine aw (vi 0) ?_
 refine wl_nil <| wq_then <| wc_block ?_
 have hE101 : (([] : List (PCand)) : List (PCand)) = (x_p.Cands.take 0).filter (fun c : PCand => !(decide (c.A.Host = x_a.Host) && decide (c.A.Port = x_a.Port))) := by first | rfl | exact filt_t (z := z_PCand) (by omega) (by first | assumption | (simp only [Bool.not_eq_true']; assumption)) | exact filt_f (z := z_PCand) (by omega) (by first | assumption | (simp only [Bool.not_eq_false']; assumption))
 refine wc_loopP [(4, (vp g11 0)), (6, (vp g17 0)), (8, (vp g23 0)), (9, (vb false)), (12, (vp g90 0)), (13, (vi ((0 : Nat) : Int)))] ⟨rfl, rfl, rfl, rfl, rfl, (congrArg (Value.int .i64) (show (0 : Int) = ((0 : Nat) : Int) by omega)), trivial⟩ (fun e' w' => ∃ (kq : Nat) (u100 : Env) (ab12_2x : Option Addr) (cb12_2x : Nat), e' = pt u100 [(4, (vp g11 0)), (6, (vp g17 0)), (8, (vp g23 0)), (9, (vb false)), (12, (vp g90 0)), (13, (vi ((kq : Nat) : Int)))] ∧ Ch (fun k => w0.heap.size ≤ k) w0 w' ∧ Ch (fun k => w8.heap.size ≤ k) w10 w' ∧ kq ≤ x_p.Cands.length ∧ (OLv LT_34 w' w10.heap.size w'.heap.size ab12_2x ((x_p.Cands.take kq).filter (fun c : PCand => !(decide (c.A.Host = x_a.Host) && decide (c.A.Port = x_a.Port)))).length cb12_2x ((x_p.Cands.take kq).filter (fun c : PCand => !(decide (c.A.Host = x_a.Host) && decide (c.A.Port = x_a.Port)))) ∧ ((x_p.Cands.take kq).filter (fun c : PCand => !(decide (c.A.Host = x_a.Host) && decide (c.A.Port = x_a.Port)))).length ≤ 1073741824) ∧ Blk w' g90 28 [(vi x_a.Host), (vi x_a.Port), (.slice ab12_2x ((x_p.Cands.take kq).filter (fun c : PCand => !(decide (c.A.Host = x_a.Host) && decide (c.A.Port = x_a.Port)))).length cb12_2x)]) (fun e' _ => x_p.Cands.length - ((intOf (e' 13))).toNat) ?_ ?_
 ·exact fun u => ⟨0, u, none, 0, rfl, m99, (Ch.refl (fun k => w8.heap.size ≤ k) w10), (by omega), (hE101 ▸ ⟨(OLv.nil w10 w10.heap.size w10.heap.size LT_34), (by simp)⟩), b97⟩
 ·rintro _ w11 ⟨kq, u100, ab12_2x, cb12_2x, rfl, m102, k103, i104, ⟨o105, s106⟩, hbx12⟩
  obtain ⟨y108, o109⟩ := OLv.ow o105
  refine wc_seq <| sr ?_
  refine mw (vi ((kq : Nat) : Int)) ?_
  refine pu (vp g11 2) wN ?_
  have b110 := ((((((((b29.kp k31).kp k42).ch k45 (Nat.ne_of_lt (Nat.lt_of_lt_of_le p13 (Nat.le_trans (z3 k20 k26 k31) p40)))).kp k74).kp k80).kp k93).ch k96 (Nat.ne_of_lt (Nat.lt_of_lt_of_le p13 (Nat.le_trans (z7 k20 k26 k31 k42 k45 k74 k80) p91)))).ch k103 (Nat.not_le.2 (Nat.lt_of_lt_of_le p13 (z7 k20 k26 k31 k42 k45 k74 k80))))
  refine ld (vs a1 x_p.Cands.length c2) wN isAgg_26 b110 ?_
  obtain ⟨y111, r112⟩ := RLv.row (r3.from0 m102)
  refine ln wN slTy_26 r112 ?_
  refine pu (vb (decide (((kq : Nat) : Int) < (x_p.Cands.length : Int)))) wN ?_
  refine n2 ?_
  rcases bf (decide (((kq : Nat) : Int) < (x_p.Cands.length : Int))) with h113 | h113
  ·have q320 := of_decide_eq_false h113
   refine cf h113 ?_
   refine wc_exit <| wq_then_exit ?_
   obtain rfl : kq = x_p.Cands.length := by omega
   refine wq_then_exit <| wq_blk_exit <| wq_then <| sr ?_
   refine lN [(vi x_a.Host), (vi x_a.Port), (vs ab12_2x ((x_p.Cands.take x_p.Cands.length).filter (fun c : PCand => !(decide (c.A.Host = x_a.Host) && decide (c.A.Port = x_a.Port)))).length cb12_2x)] wN isAgg_28 sizeOf_28 hbx12 ?_
   have b321 := ((((((((b27.kp k31).kp k42).ch k45 (Nat.ne_of_lt (Nat.lt_of_lt_of_le p25 (Nat.le_trans k31.size p40)))).kp k74).kp k80).kp k93).ch k96 (Nat.ne_of_lt (Nat.lt_of_lt_of_le p25 (Nat.le_trans (z5 k31 k42 k45 k74 k80) p91)))).ch k103 (Nat.not_le.2 (Nat.lt_of_lt_of_le p25 (z5 k31 k42 k45 k74 k80))))
   refine sv [(vi x_a.Host), (vi x_a.Port), (vs ab12_2x ((x_p.Cands.take x_p.Cands.length).filter (fun c : PCand => !(decide (c.A.Host = x_a.Host) && decide (c.A.Port = x_a.Port)))).length cb12_2x)] wN sizeOf_28 b321 ?_
   intro w12 k322 b323 z324
   have m325 := m102.ext k322 (fun k hk => by subst hk; exact Nat.le_trans (z2 k14 k20) p24)
   refine aw (vb true) ?_
   refine n3 ?_
   have o326 := (OLv.ch o105 k322 (fun g h1 h2 hk => by have h3 := Nat.lt_of_lt_of_le p25 (z7 k31 k42 k45 k74 k80 k93 k96); omega))
   refine ret_2 (.inl rfl) (va [(vi x_a.Host), (vi x_a.Port), (vs ab12_2x ((x_p.Cands.take x_p.Cands.length).filter (fun c : PCand => !(decide (c.A.Host = x_a.Host) && decide (c.A.Port = x_a.Port)))).length cb12_2x)]) (vb true) rfl (rv_c [(vi x_a.Host), (vi x_a.Port), (vs ab12_2x ((x_p.Cands.take x_p.Cands.length).filter (fun c : PCand => !(decide (c.A.Host = x_a.Host) && decide (c.A.Port = x_a.Port)))).length cb12_2x)] rfl b323 isAgg_28 sizeOf_28) rfl ?_
   refine ⟨m325.keep0, ?_⟩
   simp only [F_spec_Answer, h72, h76, h82, h85, h113, cond_true, cond_false]
   exact ⟨_, _, rfl, (OLv.now (OLv.low o326 (z10 k14 k20 k26 k31 k42 k45 k74 k80 k93 k96))), s106, ⟨trivial, trivial⟩⟩
  have q114 := of_decide_eq_true h113
  refine ct h113 ?_
  refine wc_skip <| wq_then <| wc_seq <| wc_block <| wc_seq ?_
  obtain ⟨y130, l131, r132, e133, u134⟩ := RLv.el z_PCand (i := kq) r3 (by first | omega | (simp only [List.length_cons, List.length_nil, List.length_replicate, List.length_append, List.length_take, List.length_set, List.length_map]; omega))
  obtain ⟨a135, c136, l140, rfl, r137, s138, u141⟩ := SubR.c u134
  obtain rfl := SubR.n u141
  refine wc_drawT ([(51, [], [], (fun _ v _ => v = (vp g11 2))), (52, [], [0], (fun _ v _ => v = (vs a1 x_p.Cands.length c2))), (53, [], [], (fun _ v _ => v = (vi ((kq : Nat) : Int)))), (54, [], [0, 1, 2], (fun _ v _ => v = (ve (vs a1 x_p.Cands.length c2) ((((kq : Nat) : Int)).toNat * 4)))), (55, [], [0, 1, 2, 3], (fun _ v _ => v = (ve (vs a1 x_p.Cands.length c2) ((((kq : Nat) : Int)).toNat * 4 + 0)))), (56, [], [0, 1, 2, 3, 4], (fun _ v _ => v = (va (L_25 ((x_p.Cands.getD kq z_PCand).A))))), (57, [], [], (fun _ v _ => v = (va (L_25 x_a))))] : GV) (fun _ w' => Keep w11 w') [] mixed rfl (by kernel_rfl) (by kernel_rfl) ?_ (fun _ _ h => h) (fun _ _ _ _ h _ k => h.trans k) trivial ?_ ?_ ?_
  ·exact ⟨hV, hE, ⟨hV, hE, ⟨hV, hE, ⟨hV, hE, ⟨hV, hE, ⟨hV, hE, ⟨hV, hE, trivial⟩⟩⟩⟩⟩⟩⟩
  ·exact trivial
  ·refine ⟨?_, ⟨?_, ⟨?_, ⟨?_, ⟨?_, ⟨?_, ⟨?_, trivial⟩⟩⟩⟩⟩⟩⟩
   ·intro _ w12 k145 _
    rintro _ _ _ _ _ _ _
    show WL _ _ _ _ _ _ _
    refine pu (vp g11 2) wN ?_
    exact f1
   ·intro _ w12 k147 _
    rintro _ rfl _ _ _ _ _ _
    show WL _ _ _ _ _ _ _
    have b149 := (b110.kp k147)
    refine ld (vs a1 x_p.Cands.length c2) wN isAgg_26 b149 ?_
    exact f1
   ·intro _ w12 k150 _
    rintro _ _ _ _ _ _ _
    show WL _ _ _ _ _ _ _
    refine mw (vi ((kq : Nat) : Int)) ?_
    exact f1
   ·intro _ w12 k152 _
    have m153 := m102.extk k152
    rintro _ rfl _ rfl _ rfl _ _ _ _
    show WL _ _ _ _ _ _ _
    obtain ⟨y155, r156⟩ := RLv.row (r3.from0 m153)
    refine ix wN ((kq : Nat) : Int) slTy_26 r156 ?_
    exact f1
   ·intro _ w12 k157 _
    have m158 := m102.extk k157
    rintro _ rfl _ rfl _ rfl _ rfl _ _ _
    show WL _ _ _ _ _ _ _
    refine wl_fieldE wN rfl rfl rfl fieldAt_34_0 rfl (r132.from0 m158) (by omega) ?_
    exact f1
   ·intro _ w12 k162 _
    have m163 := m102.extk k162
    rintro _ rfl _ rfl _ rfl _ rfl _ rfl _ _
    show WL _ _ _ _ _ _ _
    refine wl_loadEN (L_25 ((x_p.Cands.getD kq z_PCand).A)) wN rfl rfl rfl rfl isAgg_25 sizeOf_25 (r132.from0 m163) (by first | omega | (simp only [List.length_cons, List.length_nil, List.length_replicate, List.length_append, List.length_take, List.length_set, List.length_map]; omega)) ((part_of (off := 0) (n := 2) e133 (by first | rfl | simp | omega) (by decide)).trans rfl) ?_
    exact f1
   ·intro _ w12 k167 _
    rintro _ _ _ _ _ _ _
    show WL _ _ _ _ _ _ _
    have b169 := ((((b89.kp k93).ch k96 (Nat.ne_of_lt (Nat.lt_of_lt_of_le p19 (Nat.le_trans (z6 k26 k31 k42 k45 k74 k80) p91)))).ch k103 (Nat.not_le.2 (Nat.lt_of_lt_of_le p19 (z6 k26 k31 k42 k45 k74 k80)))).kp k167)
    refine lN (L_25 x_a) wN isAgg_25 sizeOf_25 b169 ?_
    exact f1
  ·intro _ w12 k170
   have m171 := m102.extk k170
   rintro _ rfl _ rfl _ rfl _ rfl _ rfl _ rfl _ rfl
   show WL _ _ _ _ _ _ _
   refine wl_aggne ((decide ((((x_p.Cands.getD kq z_PCand).A).Host) = x_a.Host) && decide ((((x_p.Cands.getD kq z_PCand).A).Port) = x_a.Port))) wN rfl rfl rfl rfl rfl guardt_25 (aggeq_25 (((x_p.Cands.getD kq z_PCand).A).Host) x_a.Host (((x_p.Cands.getD kq z_PCand).A).Port) x_a.Port w12) ?_
   refine n2 ?_
   rcases bt (decide ((((x_p.Cands.getD kq z_PCand).A).Host) = x_a.Host) && decide ((((x_p.Cands.getD kq z_PCand).A).Port) = x_a.Port)) with h176 | h176
   ·refine cf (congrArg not h176) ?_
    refine wc_skip <| wq_blk_normal <| wq_then <| wc_region ?_
    refine mw (vi ((kq : Nat) : Int)) ?_
    refine ar (((kq : Nat) : Int) + 1) wN ?_
    refine aw (vi (((kq : Nat) : Int) + 1)) ?_
    refine wl_nil ?_
    have o178 := (OLv.kp o105 k170)
    have hE179 : (((x_p.Cands.take kq).filter (fun c : PCand => !(decide (c.A.Host = x_a.Host) && decide (c.A.Port = x_a.Port)))) : List (PCand)) = (x_p.Cands.take (kq + 1)).filter (fun c : PCand => !(decide (c.A.Host = x_a.Host) && decide (c.A.Port = x_a.Port))) := by first | rfl | exact filt_t (z := z_PCand) (by omega) (by first | assumption | (simp only [Bool.not_eq_true']; assumption)) | exact filt_f (z := z_PCand) (by omega) (by first | assumption | (simp only [Bool.not_eq_false']; assumption))
    have b180 := (hbx12.kp k170)
    refine wq_loopP (w0 := w11) [(4, (vp g11 0)), (6, (vp g17 0)), (8, (vp g23 0)), (9, (vb false)), (12, (vp g90 0)), (13, (vi (((kq + 1) : Nat) : Int)))] ?_ ?_ ?_
    · exact ⟨rfl, rfl, rfl, rfl, rfl, (congrArg (Value.int .i64) (show ((((kq : Nat) : Int) + 1) : Int) = (((kq + 1) : Nat) : Int) by omega)), trivial⟩
    · exact fun u => ⟨(kq + 1), u, ab12_2x, cb12_2x, rfl, m171, (((Ch.refl (fun k => w8.heap.size ≤ k) w10).ext k103 (fun k hk => hk)).extk k170), (by omega), (hE179 ▸ ⟨(OLv.now o178), s106⟩), (by have hb := b180; first | exact hb | (rw [hE179] at hb; exact hb))⟩
    · show x_p.Cands.length - ((((kq + 1) : Nat) : Int)).toNat < x_p.Cands.length - (((kq : Nat) : Int)).toNat; omega
   refine ct (congrArg not h176) ?_
   refine wc_drawT ([(59, [], [], (fun _ v _ => v = (vp g90 2))), (60, [], [0], (fun _ v _ => v = (vs ab12_2x ((x_p.Cands.take kq).filter (fun c : PCand => !(decide (c.A.Host = x_a.Host) && decide (c.A.Port = x_a.Port)))).length cb12_2x))), (61, [], [], (fun _ v _ => v = (vp g11 2))), (62, [], [2], (fun _ v _ => v = (vs a1 x_p.Cands.length c2))), (63, [], [], (fun _ v _ => v = (vi ((kq : Nat) : Int)))), (64, [], [2, 3, 4], (fun _ v _ => v = (ve (vs a1 x_p.Cands.length c2) ((((kq : Nat) : Int)).toNat * 4)))), (65, [], [2, 3, 4, 5], (fun _ v _ => v = (va [(vi (((x_p.Cands.getD kq z_PCand).A).Host)), (vi (((x_p.Cands.getD kq z_PCand).A).Port)), (vs a135 (x_p.Cands.getD kq z_PCand).Draw.length c136), (vi ((x_p.Cands.getD kq z_PCand).Until))]))), (66, [], [2, 3, 4, 5, 6], (fun _ v w => ∃ (a1 : Option Addr) (c1 : Nat), v = .agg #[.int .i64 (((F_spec_l16Cand (x_p.Cands.getD kq z_PCand)).A).Host), .int .i64 (((F_spec_l16Cand (x_p.Cands.getD kq z_PCand)).A).Port), .slice a1 ((F_spec_l16Cand (x_p.Cands.getD kq z_PCand)).Draw).length c1, .int .i64 ((F_spec_l16Cand (x_p.Cands.getD kq z_PCand)).Until)] ∧ w.ownsRow (w12.heap.size) 5 1 (.slice a1 ((F_spec_l16Cand (x_p.Cands.getD kq z_PCand)).Draw).length c1) ((F_spec_l16Cand (x_p.Cands.getD kq z_PCand)).Draw).length (((F_spec_l16Cand (x_p.Cands.getD kq z_PCand)).Draw).map bV) ∧ ((F_spec_l16Cand (x_p.Cands.getD kq z_PCand)).Draw).length ≤ 1073741824 ∧ Aps [(a1, c1)])), (67, [66], [2, 3, 4, 5, 6, 7], (fun e v w => ∃ (a1 : Option Addr) (c1 : Nat), v = .slice a1 1 c1 ∧ w.ownsRow w12.heap.size 34 4 (.slice a1 1 c1) 1 [(vi (((F_spec_l16Cand (x_p.Cands.getD kq z_PCand)).A).Host)), (vi (((F_spec_l16Cand (x_p.Cands.getD kq z_PCand)).A).Port)), (cellAt (e 66) 2), (vi ((F_spec_l16Cand (x_p.Cands.getD kq z_PCand)).Until))]))] : GV) (fun _ w' => Keep w12 w') [] mixed rfl (by kernel_rfl) (by kernel_rfl) ?_ (fun _ _ h => h) (fun _ _ _ _ h _ k => h.trans k) trivial ?_ ?_ ?_
   ·exact ⟨hV, hE, ⟨hV, hE, ⟨hV, hE, ⟨hV, hE, ⟨hV, hE, ⟨hV, hE, ⟨hV, hE, ⟨(fun e v w w1 h hk => by obtain ⟨a0x, c0x, he, o0x, l0x, hap⟩ := h; exact ⟨a0x, c0x, he, own_kp o0x hk, l0x, hap⟩), hE, ⟨(fun e v w w1 h hk => by obtain ⟨a0x, c0x, he, o0x⟩ := h; exact ⟨a0x, c0x, he, own_kp o0x hk⟩), (fun e1 e2 v w hx h => by have h66x := hx 66 (by simp); simp only [h66x] at h; exact h), trivial⟩⟩⟩⟩⟩⟩⟩⟩⟩
   ·exact trivial
   ·refine ⟨?_, ⟨?_, ⟨?_, ⟨?_, ⟨?_, ⟨?_, ⟨?_, ⟨?_, ⟨?_, trivial⟩⟩⟩⟩⟩⟩⟩⟩⟩
    ·intro _ w13 k234 _
     rintro _ _ _ _ _ _ _ _ _
     show WL _ _ _ _ _ _ _
     refine pu (vp g90 2) wN ?_
     exact f1
    ·intro _ w13 k236 _
     rintro _ rfl _ _ _ _ _ _ _ _
     show WL _ _ _ _ _ _ _
     have b238 := ((hbx12.kp k170).kp k236)
     refine ld (vs ab12_2x ((x_p.Cands.take kq).filter (fun c : PCand => !(decide (c.A.Host = x_a.Host) && decide (c.A.Port = x_a.Port)))).length cb12_2x) wN isAgg_26 b238 ?_
     exact f1
    ·intro _ w13 k239 _
     rintro _ _ _ _ _ _ _ _ _
     show WL _ _ _ _ _ _ _
     refine pu (vp g11 2) wN ?_
     exact f1
    ·intro _ w13 k241 _
     rintro _ _ _ rfl _ _ _ _ _ _
     show WL _ _ _ _ _ _ _
     have b243 := ((b110.kp k170).kp k241)
     refine ld (vs a1 x_p.Cands.length c2) wN isAgg_26 b243 ?_
     exact f1
    ·intro _ w13 k244 _
     rintro _ _ _ _ _ _ _ _ _
     show WL _ _ _ _ _ _ _
     refine mw (vi ((kq : Nat) : Int)) ?_
     exact f1
    ·intro _ w13 k246 _
     have m247 := m171.extk k246
     rintro _ _ _ rfl _ rfl _ rfl _ _ _ _
     show WL _ _ _ _ _ _ _
     obtain ⟨y249, r250⟩ := RLv.row (r3.from0 m247)
     refine ix wN ((kq : Nat) : Int) slTy_26 r250 ?_
     exact f1
    ·intro _ w13 k251 _
     have m252 := m171.extk k251
     rintro _ _ _ rfl _ rfl _ rfl _ rfl _ _ _
     show WL _ _ _ _ _ _ _
     refine wl_loadEN [(vi (((x_p.Cands.getD kq z_PCand).A).Host)), (vi (((x_p.Cands.getD kq z_PCand).A).Port)), (vs a135 (x_p.Cands.getD kq z_PCand).Draw.length c136), (vi ((x_p.Cands.getD kq z_PCand).Until))] wN rfl rfl rfl rfl isAgg_34 sizeOf_34 (r132.from0 m252) (by first | omega | (simp only [List.length_cons, List.length_nil, List.length_replicate, List.length_append, List.length_take, List.length_set, List.length_map]; omega)) ((part_of (off := 0) (n := 4) e133 (by first | rfl | simp | omega) (by decide)).trans rfl) ?_
     exact f1
    ·intro _ w13 k256 _
     have m257 := m171.extk k256
     rintro _ _ _ rfl _ rfl _ rfl _ rfl _ rfl _ _
     show WL _ _ _ _ _ _ _
     refine cl wN (C_spec_l16Cand w13 _ (x_p.Cands.getD kq z_PCand) (mR_34 (r137.from0 m257) s138)) ?_
     rintro _ w14 ⟨k261, ⟨a262, c263, rfl, o264, s265, ap267⟩⟩
     exact wl_finT k261 ⟨_, _, rfl, (own_lo o264 k256.size), s265, ap267⟩
    ·intro _ w13 k269 _
     rintro _ _ _ rfl _ rfl _ rfl _ rfl _ rfl _ ⟨a274, c275, rfl, o276, s277, ap279⟩ _
     show WL _ _ _ _ _ _ _
     refine wl_lit [(vi (((F_spec_l16Cand (x_p.Cands.getD kq z_PCand)).A).Host)), (vi (((F_spec_l16Cand (x_p.Cands.getD kq z_PCand)).A).Port)), (vs a274 ((F_spec_l16Cand (x_p.Cands.getD kq z_PCand)).Draw).length c275), (vi ((F_spec_l16Cand (x_p.Cands.getD kq z_PCand)).Until))] wN rfl rfl slTy_26 (m := 1) rfl (by simp only [maxLen]; omega) (fun w => by kernel_rfl) ?_
     intro u280 w14 k281 o282
     obtain ⟨a283, c284, rfl⟩ := own_form o282
     exact wl_finT k281 ⟨_, _, rfl, own_lo o282 k269.size⟩
   ·intro _ w13 k287
    rintro _ rfl _ rfl _ rfl _ rfl _ rfl _ rfl _ rfl _ ⟨a293, c294, rfl, o295, s296, ap298⟩ _ ⟨a299, c300, rfl, o301⟩
    show WL _ _ _ _ _ _ _
    have o303 := (OLv.kp (OLv.kp o105 k170) k287)
    refine wl_appL (L := LT_34) (xs := ((x_p.Cands.take kq).filter (fun c : PCand => !(decide (c.A.Host = x_a.Host) && decide (c.A.Port = x_a.Port))))) (el := (F_spec_l16Cand (x_p.Cands.getD kq z_PCand))) (l := [(a293, c294)]) wN slTy_26 o303 (Rd.of_own o301) ⟨⟨(own_lo o295 k170.size), s296⟩, trivial⟩ ⟨trivial, trivial⟩ (Nat.le_refl _) k103.size (by first | omega | (simp only [List.length_take, List.length_append, List.length_cons, List.length_nil]; omega) | (refine Nat.le_trans (Nat.succ_le_succ (List.length_filter_le _ _)) ?_; simp only [List.length_take]; omega)) (z3 k103 k170 k287) ?_
    intro a304 c305 w14 k306 o307
    have m308 := (m171.extk k287).ext k306 (fun k hk => Nat.le_trans (z10 k14 k20 k26 k31 k42 k45 k74 k80 k93 k96) (own_lt o109 k hk).1)
    obtain ⟨y311, o312⟩ := OLv.ow o307
    refine pu (vp g90 2) wN ?_
    have b313 := (((hbx12.kp k170).kp k287).ch k306 (fun h => by have := (own_lt o109 _ h).1; have := Nat.lt_of_lt_of_le p92 k96.size; omega))
    refine st (vs a304 (((x_p.Cands.take kq).filter (fun c : PCand => !(decide (c.A.Host = x_a.Host) && decide (c.A.Port = x_a.Port)))) ++ [(F_spec_l16Cand (x_p.Cands.getD kq z_PCand))]).length c305) [(vs a304 (((x_p.Cands.take kq).filter (fun c : PCand => !(decide (c.A.Host = x_a.Host) && decide (c.A.Port = x_a.Port)))) ++ [(F_spec_l16Cand (x_p.Cands.getD kq z_PCand))]).length c305)] [(vi x_a.Host), (vi x_a.Port), (vs a304 (((x_p.Cands.take kq).filter (fun c : PCand => !(decide (c.A.Host = x_a.Host) && decide (c.A.Port = x_a.Port)))) ++ [(F_spec_l16Cand (x_p.Cands.getD kq z_PCand))]).length c305)] wN sizeOf_26 b313 ?_
    intro w15 k314 b315 z316
    have m317 := m308.ext k314 (fun k hk => by subst hk; exact Nat.le_trans (z8 k14 k20 k26 k31 k42 k45 k74 k80) p91)
    refine wl_nil <| wq_blk_normal <| wq_then <| wc_region ?_
    refine mw (vi ((kq : Nat) : Int)) ?_
    refine ar (((kq : Nat) : Int) + 1) wN ?_
    refine aw (vi (((kq : Nat) : Int) + 1)) ?_
    refine wl_nil ?_
    have o318 := (OLv.ch o307 k314 (fun g h1 h2 hk => by have h3 := Nat.lt_of_lt_of_le p92 k96.size; omega))
    have hE319 : ((((x_p.Cands.take kq).filter (fun c : PCand => !(decide (c.A.Host = x_a.Host) && decide (c.A.Port = x_a.Port)))) ++ [(F_spec_l16Cand (x_p.Cands.getD kq z_PCand))]) : List (PCand)) = (x_p.Cands.take (kq + 1)).filter (fun c : PCand => !(decide (c.A.Host = x_a.Host) && decide (c.A.Port = x_a.Port))) := by first | rfl | exact filt_t (z := z_PCand) (by omega) (by first | assumption | (simp only [Bool.not_eq_true']; assumption)) | exact filt_f (z := z_PCand) (by omega) (by first | assumption | (simp only [Bool.not_eq_false']; assumption))
    refine wq_loopP (w0 := w11) [(4, (vp g11 0)), (6, (vp g17 0)), (8, (vp g23 0)), (9, (vb false)), (12, (vp g90 0)), (13, (vi (((kq + 1) : Nat) : Int)))] ?_ ?_ ?_
    · exact ⟨rfl, rfl, rfl, rfl, rfl, (congrArg (Value.int .i64) (show ((((kq : Nat) : Int) + 1) : Int) = (((kq + 1) : Nat) : Int) by omega)), trivial⟩
    · exact fun u => ⟨(kq + 1), u, a304, c305, rfl, m317, ((((((Ch.refl (fun k => w8.heap.size ≤ k) w10).ext k103 (fun k hk => hk)).extk k170).extk k287).ext k306 (fun k hk => Nat.le_trans (z2 k93 k96) (own_lt o109 k hk).1)).ext k314 (fun k hk => by subst hk; exact p91)), (by omega), (hE319 ▸ ⟨(OLv.now o318), (OLv.small o307)⟩), (by have hb := b315; first | exact hb | (rw [hE319] at hb; exact hb))⟩
    · show x_p.Cands.length - ((((kq + 1) : Nat) : Int)).toNat < x_p.Cands.length - (((kq : Nat) : Int)).toNat; omega

def O_28_3 (w : World) (lo : Nat) (v : Value) (x : (PPaths) × (Int)) : Prop := ∃ (a1 : Option Addr) (c1 : Nat), v = .tuple #[.agg #[.int .i64 x.1.At.Host, .int .i64 x.1.At.Port, .slice a1 x.1.Cands.length c1], .int .i64 x.2] ∧ OLv LT_34 w lo w.heap.size a1 x.1.Cands.length c1 x.1.Cands ∧ x.1.Cands.length ≤ 1073741824 ∧ Aps [(a1, c1)]
theorem C_spec_DrawPathTick (w0 : World) (v_x_code : Value) (x_code : List UInt8) (r_x_code : R_22 w0 v_x_code x_code)  : Fn Try.prog 13 #[v_x_code] w0 (fun v w' => ∃ x : (PPaths) × (Int), Keep w0 w' ∧ O_28_3 w' w0.heap.size v x ∧ (True)) := by
 obtain ⟨a1, c2, rfl, r3, s4⟩ := r_x_code
 refine fn_ofS (n := 14) [(vs a1 x_code.length c2)] Try.func13 rfl rfl ?_
 refine sr ?_
 refine al [(vi 0), (vi 0), (vs none 0 0)] wN zero_28 ?_
 intro g6 w1 p7 p8 k9 b10
 have m11 := (Ch.base w0).extk k9
 refine aw (vi 0) ?_
 refine nx ?_
 refine mw (vs a1 x_code.length c2) ?_
 refine cl wN (C_spec_l1New w1 _ x_code (mR_22 (r3.from0 m11) s4)) ?_
 rintro _ w2 ⟨g13, k12, p14, rfl, hc22⟩
 obtain ⟨i15, h16, b17, r18, l19, p20, n21⟩ := hc22 _ _ rfl
 have m23 := m11.extk k12
 refine aw (vp g13 0) ?_
 refine nx ?_
 refine mw (vp g13 0) ?_
 refine cl wN (C_spec_l16Any w2 g13 a1 c2 x_code ⟨_, _, b17, (r3.from0 m23), s4, (by omega), (fun h0 z hz => Nat.ne_of_lt (Nat.lt_of_lt_of_le (rd_posB r3 h0 z hz) (Nat.le_trans k9.size p14)))⟩) ?_
 rintro _ w3 ⟨x25, k24, ⟨i33, h34, b35, r36, l37, p38, n39⟩, ⟨a27, c28, rfl, o29, s30, ap32⟩, q26⟩
 have m40 := m23.ext k24 (fun k hk => by subst hk; exact Nat.le_trans k9.size p14)
 obtain ⟨y41, o42⟩ := OLv.ow o29
 refine al [(vi 0), (vi 0), (vs none 0 0)] wN zero_28 ?_
 intro g43 w4 p44 p45 k46 b47
 refine sv (L_28 (x25) a27 c28) wN sizeOf_28 b47 ?_
 intro w5 k49 b50 z51
 have m52 := (m40.extk k46).ext k49 (fun k hk => by subst hk; exact Nat.le_trans (z3 k9 k12 k24) p44)
 refine wl_nil <| wq_then <| wc_seq ?_
 have b83 := ((b35.kp k46).ch k49 (Nat.ne_of_lt (Nat.lt_of_lt_of_le (Blk.lt b17) (Nat.le_trans k24.size p44))))
 refine wc_drawT ([(10, [], [], (fun _ v _ => v = (va (L_28 (x25) a27 c28)))), (11, [], [], (fun _ v _ => v = (vp g13 0))), (12, [], [], (fun _ v w => ∃ (a1 : Option Addr) (c1 : Nat), v = .slice a1 ([0, 6, 7, 8, 9, 10, 12, 20, 1000001, (-1)] : List Int).length c1 ∧ w.ownsRow w5.heap.size 3 1 (.slice a1 ([0, 6, 7, 8, 9, 10, 12, 20, 1000001, (-1)] : List Int).length c1) ([0, 6, 7, 8, 9, 10, 12, 20, 1000001, (-1)] : List Int).length (([0, 6, 7, 8, 9, 10, 12, 20, 1000001, (-1)] : List Int).map iV) ∧ ([0, 6, 7, 8, 9, 10, 12, 20, 1000001, (-1)] : List Int).length ≤ 1073741824 ∧ Aps [(a1, c1)])), (13, [], [1, 2], (fun _ v _ => ∃ x82 : Int, v = (vi x82) ∧ x82 ∈ ([0, 6, 7, 8, 9, 10, 12, 20, 1000001, (-1)] : List Int)))] : GV) (fun lf w' => Ch (fun k => k = g13) w5 w' ∧ CurX w' g13 111 a1 c2 x_code) [(3, fun w w' => Ch (fun k => k = g13) w w' ∧ (CurX w g13 111 a1 c2 x_code → CurX w' g13 111 a1 c2 x_code))] mixed rfl (by kernel_rfl) (by kernel_rfl) ?_ (fun _ _ h => ⟨h.to _, CurX.kp ⟨_, _, b83, (r3.from0 m52), s4, (by omega), (fun h0 z hz => Nat.ne_of_lt (Nat.lt_of_lt_of_le (rd_posB r3 h0 z hz) (Nat.le_trans k9.size p14)))⟩ h⟩) (fun _ _ _ _ h mo k => by obtain ⟨hc, hcur⟩ := h; exact ⟨hc.comp k (fun _ _ q => q.elim), hcur.kp k⟩) ⟨(fun _ _ w w' h mo hj t => by obtain ⟨hc, hcur⟩ := h; exact ⟨hc.comp t.1 (fun _ _ q => q), t.2 hcur⟩), trivial⟩ ?_ ?_ ?_
 ·exact ⟨hV, hE, ⟨hV, hE, ⟨(fun e v w w1 h hk => by obtain ⟨a0x, c0x, he, o0x, l0x, hap⟩ := h; exact ⟨a0x, c0x, he, own_kp o0x hk, l0x, hap⟩), hE, ⟨hV, hE, trivial⟩⟩⟩⟩
 ·exact ⟨⟨.inr hV, ⟨.inr hV, ⟨.inr (fun e v wX wY h ht => by obtain ⟨a0x, c0x, he, o0x, l0x, hap⟩ := h; exact ⟨a0x, c0x, he, own_ch o0x ht.1 (fun gq hg _ hk => by have h1 := (own_lt o0x gq hg).1; have h3 : gq = g13 := hk; have h4 := (Nat.lt_of_lt_of_le (Blk.lt b17) (z3 k24 k46 k49)); omega), l0x, hap⟩), ⟨.inl rfl, trivial⟩⟩⟩⟩, trivial⟩
 ·refine ⟨?_, ⟨?_, ⟨?_, ⟨?_, trivial⟩⟩⟩⟩
  ·rintro lf w6 ⟨k84, ⟨i86, h87, b88, r89, l90, p91, n92⟩⟩ ⟨n85, -⟩
   rintro _ _ _ _
   show WL _ _ _ _ _ _ _
   have b94 := (b50.ch k84 (Ne.symm (Nat.ne_of_lt (Nat.lt_of_lt_of_le (Blk.lt b17) (Nat.le_trans k24.size p44)))))
   refine lN (L_28 (x25) a27 c28) wN isAgg_28 sizeOf_28 b94 ?_
   exact f1
  ·rintro lf w6 ⟨k95, ⟨i97, h98, b99, r100, l101, p102, n103⟩⟩ ⟨n96, -⟩
   rintro _ _ _ _
   show WL _ _ _ _ _ _ _
   refine mw (vp g13 0) ?_
   exact f1
  ·rintro lf w6 ⟨k105, ⟨i107, h108, b109, r110, l111, p112, n113⟩⟩ ⟨n106, -⟩
   rintro _ _ _ _
   show WL _ _ _ _ _ _ _
   refine ltI ([0, 6, 7, 8, 9, 10, 12, 20, 1000001, (-1)] : List Int) wN slTy_56 ?_
   intro a115 c116 w7 k117 o118
   exact wl_finT k117 ⟨_, _, rfl, (own_lo o118 k105.size), (by simp), ⟨trivial, trivial⟩⟩
  ·rintro lf w6 ⟨k121, ⟨i123, h124, b125, r126, l127, p128, n129⟩⟩ ⟨n122, -⟩
   have m130 := m52.ext k121 (fun k hk => by subst hk; exact Nat.le_trans k9.size p14)
   rintro _ _ rfl _ ⟨a131, c132, rfl, o133, s134, -⟩ _
   show WL _ _ _ _ _ _ _
   refine cl wN (C_spec_l1Int w6 g13 a1 c2 x_code ⟨_, _, b125, (r3.from0 m130), s4, (by omega), (fun h0 z hz => Nat.ne_of_lt (Nat.lt_of_lt_of_le (rd_posB r3 h0 z hz) (Nat.le_trans k9.size p14)))⟩ _ ([0, 6, 7, 8, 9, 10, 12, 20, 1000001, (-1)] : List Int) ⟨_, _, rfl, (Rd.of_own o133), s134, (fun _ z hz => by have h1 := (own_lt o133 z.block (by rw [hz]; rfl)).1; have h2 := Nat.lt_of_lt_of_le (Blk.lt b17) (z3 k24 k46 k49); omega)⟩ (by simp)) ?_
   rintro _ w7 ⟨x137, k136, ⟨i139, h140, b141, r142, l143, p144, n145⟩, rfl, q138⟩
   have m146 := m130.ext k136 (fun k hk => by subst hk; exact Nat.le_trans k9.size p14)
   have q138m : x137 = 0 ∨ x137 = 6 ∨ x137 = 7 ∨ x137 = 8 ∨ x137 = 9 ∨ x137 = 10 ∨ x137 = 12 ∨ x137 = 20 ∨ x137 = 1000001 ∨ x137 = (-1) := by simpa only [List.mem_cons, List.not_mem_nil, or_false] using q138
   exact wl_finT ⟨k136, fun _ => ⟨_, _, b141, (r3.from0 m146), s4, (by omega), (fun h0 z hz => Nat.ne_of_lt (Nat.lt_of_lt_of_le (rd_posB r3 h0 z hz) (Nat.le_trans k9.size p14)))⟩⟩ ⟨_, rfl, q138⟩
 ·rintro lf w6 ⟨k147, ⟨i149, h150, b151, r152, l153, p154, n155⟩⟩
  have m156 := m52.ext k147 (fun k hk => by subst hk; exact Nat.le_trans k9.size p14)
  rintro _ rfl _ rfl _ ⟨a158, c159, rfl, o160, s161, -⟩ _ ⟨x82, rfl, q163⟩
  have q163m : x82 = 0 ∨ x82 = 6 ∨ x82 = 7 ∨ x82 = 8 ∨ x82 = 9 ∨ x82 = 10 ∨ x82 = 12 ∨ x82 = 20 ∨ x82 = 1000001 ∨ x82 = (-1) := by simpa only [List.mem_cons, List.not_mem_nil, or_false] using q163
  show WL _ _ _ _ _ _ _
  have b164 := (((((b10.kp k12).ch k24 (Nat.ne_of_lt (Nat.lt_of_lt_of_le p8 (p14)))).kp k46).ch k49 (Nat.ne_of_lt (Nat.lt_of_lt_of_le p8 (Nat.le_trans (z2 k12 k24) p44)))).ch k147 (Nat.ne_of_lt (Nat.lt_of_lt_of_le p8 (p14))))
  refine sv (L_28 (x25) a27 c28) wN sizeOf_28 b164 ?_
  intro w7 k165 b166 z167
  have m168 := m156.ext k165 (fun k hk => by subst hk; exact p7)
  refine aw (vi x82) ?_
  refine n3 ?_
  have o169 := (OLv.ch (OLv.ch (OLv.ch (OLv.kp o29 k46) k49 (fun g h1 h2 hk => by have h3 := Nat.le_trans (Nat.le_refl w3.heap.size) p44; omega)) k147 (fun g h1 h2 hk => by have h3 := Nat.lt_of_lt_of_le (Blk.lt b17) (Nat.le_refl w2.heap.size); omega)) k165 (fun g h1 h2 hk => by have h3 := Nat.lt_of_lt_of_le p8 k12.size; omega))
  refine ret_2 (.inl rfl) (va (L_28 (x25) a27 c28)) (vi x82) rfl (rv_c (L_28 (x25) a27 c28) rfl b166 isAgg_28 sizeOf_28) rfl ?_
  exact ⟨((x25), x82), m168.keep0, ⟨_, _, rfl, (OLv.now (OLv.low o169 (z2 k9 k12))), s30, ⟨trivial, trivial⟩⟩, trivial⟩

def F_impl_withoutExpired (x_p : PPaths) (x_now : Int) : (PPaths) := { At := x_p.At, Cands := ((((x_p).Cands).take x_p.Cands.length).filter (fun c : PCand => decide (x_now ≤ c.Until))) : PPaths }
theorem C_impl_withoutExpired (w0 : World) (v_x_p : Value) (x_p : PPaths) (r_x_p : R_28 w0 v_x_p x_p) (x_now : Int)  : Fn Try.prog 62 #[v_x_p, (vi x_now)] w0 (fun v w' => Keep w0 w' ∧ O_28 w' w0.heap.size v (F_impl_withoutExpired x_p x_now)) := by
 obtain ⟨a1, c2, rfl, r3, s4⟩ := r_x_p
 refine fn_ofS (n := 31) [(va (L_28 x_p a1 c2)), (vi x_now)] Try.func62 rfl rfl ?_
 refine sr ?_
 refine bx (L_28 x_p a1 c2) wN ?_
 intro g6 w1 p7 p8 k9 b10
 refine al [(vi 0), (vi 0), (vs none 0 0)] wN zero_28 ?_
 intro g12 w2 p13 p14 k15 b16
 have m17 := ((Ch.base w0).extk k9).extk k15
 refine nx ?_
 refine pu (vp g6 0) wN ?_
 have b18 := (b10.kp k15)
 refine lN (L_25 x_p.At) wN isAgg_25 sizeOf_25 b18 ?_
 refine pu (va [(vi x_p.At.Host), (vi x_p.At.Port), (vs none 0 0)]) wN ?_
 refine al [(vi 0), (vi 0), (vs none 0 0)] wN zero_28 ?_
 intro g19 w3 p20 p21 k22 b23
 refine sv [(vi x_p.At.Host), (vi x_p.At.Port), (vs none 0 0)] wN sizeOf_28 b23 ?_
 intro w4 k25 b26 z27
 have m28 := (m17.extk k22).ext k25 (fun k hk => by subst hk; exact Nat.le_trans (z2 k9 k15) p20)
 refine n4 ?_
 have b29 := ((b18.kp k22).ch k25 (Nat.ne_of_lt (Nat.lt_of_lt_of_le p8 (Nat.le_trans k15.size p20))))
 refine lN (L_28 x_p a1 c2) wN isAgg_28 sizeOf_28 b29 ?_
 refine cl wN (C_impl_copyPaths w4 _ x_p (mR_28 (r3.from0 m28) s4)) ?_
 rintro _ w5 ⟨k30, ⟨a31, c32, rfl, o33, s34, ap36⟩⟩
 have m37 := m28.extk k30
 obtain ⟨y38, o39⟩ := OLv.ow o33
 refine pu (vs a31 ((x_p).Cands).length c32) wN ?_
 obtain ⟨y40, r41⟩ := RLv.row (OLv.rl o33)
 refine ln wN slTy_26 r41 ?_
 refine mw (vi 0) ?_
 refine wl_nil <| wq_then <| wc_block ?_
 obtain ⟨y42, h43, h44, o45, s46, p47, h48, l49⟩ := OLv.op o33
 have hE51 : (([] : List (El PCand)) : List (El PCand)) = (y42.take 0).filter (fun e : El PCand => decide (x_now ≤ e.1.Until)) := by first | rfl | exact filt_t (z := (z_PCand, [])) (by omega) (by assumption) | exact filt_f (z := (z_PCand, [])) (by omega) (by assumption)
 have b52 := (b26.kp k30)
 refine wc_loopP [(1, (vi x_now)), (4, (vp g12 0)), (5, (vp g19 0)), (13, (vs a31 ((x_p).Cands).length c32)), (14, (vi (((x_p).Cands).length : Int))), (15, (vi ((0 : Nat) : Int)))] ⟨rfl, rfl, rfl, rfl, rfl, (congrArg (Value.int .i64) (show (0 : Int) = ((0 : Nat) : Int) by omega)), trivial⟩ (fun e' w' => ∃ (kq : Nat) (u50 : Env) (ab5_2x : Option Addr) (cb5_2x : Nat), e' = pt u50 [(1, (vi x_now)), (4, (vp g12 0)), (5, (vp g19 0)), (13, (vs a31 ((x_p).Cands).length c32)), (14, (vi (((x_p).Cands).length : Int))), (15, (vi ((kq : Nat) : Int)))] ∧ Ch (fun k => w0.heap.size ≤ k) w0 w' ∧ Ch (fun k => w2.heap.size ≤ k) w5 w' ∧ kq ≤ x_p.Cands.length ∧ (World.ownsRow w' w5.heap.size 34 4 (.slice ab5_2x ((y42.take kq).filter (fun e : El PCand => decide (x_now ≤ e.1.Until))).length cb5_2x) ((y42.take kq).filter (fun e : El PCand => decide (x_now ≤ e.1.Until))).length (((y42.take kq).filter (fun e : El PCand => decide (x_now ≤ e.1.Until))).flatMap LT_34.enc) ∧ ((y42.take kq).filter (fun e : El PCand => decide (x_now ≤ e.1.Until))).length ≤ 1073741824) ∧ World.ownsRow w' w4.heap.size 34 4 (.slice a31 ((x_p).Cands).length c32) ((x_p).Cands).length (y42.flatMap LT_34.enc) ∧ SubA LT_34 w' w4.heap.size y42 ∧ Blk w' g19 28 [(vi x_p.At.Host), (vi x_p.At.Port), (.slice ab5_2x ((y42.take kq).filter (fun e : El PCand => decide (x_now ≤ e.1.Until))).length cb5_2x)]) (fun e' _ => x_p.Cands.length - ((intOf (e' 15))).toNat) ?_ ?_
 ·exact fun u => ⟨0, u, none, 0, rfl, m37, (Ch.refl (fun k => w2.heap.size ≤ k) w5), (by omega), (hE51 ▸ ⟨(own_nil _ _ _ _), (by simp)⟩), o45, s46, b52⟩
 ·rintro _ w6 ⟨kq, u50, ab5_2x, cb5_2x, rfl, m53, k54, i55, ⟨o56, s57⟩, hsy1, hsy2, hbx5⟩
  refine sr ?_
  refine pu (vb (decide (((kq : Nat) : Int) < (((x_p).Cands).length : Int)))) wN ?_
  refine wl_nil <| wq_then <| wc_seq ?_
  rcases bf (decide (((kq : Nat) : Int) < (((x_p).Cands).length : Int))) with h59 | h59
  ·have q109 := of_decide_eq_false h59
   refine cf h59 ?_
   refine wc_exit <| wq_then_exit ?_
   obtain rfl : kq = x_p.Cands.length := by omega
   refine wq_then_exit <| wq_blk_exit <| wq_then <| sr ?_
   refine lN [(vi x_p.At.Host), (vi x_p.At.Port), (vs ab5_2x ((y42.take x_p.Cands.length).filter (fun e : El PCand => decide (x_now ≤ e.1.Until))).length cb5_2x)] wN isAgg_28 sizeOf_28 hbx5 ?_
   have b110 := ((((b16.kp k22).ch k25 (Nat.ne_of_lt (Nat.lt_of_lt_of_le p14 (p20)))).kp k30).ch k54 (Nat.not_le.2 (p14)))
   refine sv [(vi x_p.At.Host), (vi x_p.At.Port), (vs ab5_2x ((y42.take x_p.Cands.length).filter (fun e : El PCand => decide (x_now ≤ e.1.Until))).length cb5_2x)] wN sizeOf_28 b110 ?_
   intro w7 k111 b112 z113
   have m114 := m53.ext k111 (fun k hk => by subst hk; exact Nat.le_trans k9.size p13)
   refine n3 ?_
   have o115 := (own_ch o56 k111 (ne1 o56 (Nat.lt_of_lt_of_le p14 (z3 k22 k25 k30))))
   refine ret_1 (.inl rfl) (va [(vi x_p.At.Host), (vi x_p.At.Port), (vs ab5_2x ((y42.take x_p.Cands.length).filter (fun e : El PCand => decide (x_now ≤ e.1.Until))).length cb5_2x)]) rfl (rv_c [(vi x_p.At.Host), (vi x_p.At.Port), (vs ab5_2x ((y42.take x_p.Cands.length).filter (fun e : El PCand => decide (x_now ≤ e.1.Until))).length cb5_2x)] rfl b112 isAgg_28 sizeOf_28) ?_
   refine ⟨m114.keep0, ?_⟩
   simp only [F_impl_withoutExpired, h59, cond_true, cond_false]
   have s117 := (SubA.ch hsy2 h48 k111 (fun g h1 h2 hk => by have h3 := Nat.lt_of_lt_of_le p14 (z2 k22 k25); omega))
   have h119 : (((y42.take x_p.Cands.length).filter (fun e : El PCand => decide (x_now ≤ e.1.Until)))).map Prod.fst = ((((x_p).Cands).take x_p.Cands.length).filter (fun c : PCand => decide (x_now ≤ c.Until))) := (by rw [fst_filter (f := (fun c : PCand => decide (x_now ≤ c.Until))), List.map_take, h43])
   have o118 := OLv.subl (own_lo o115 k30.size) rfl s117 (List.filter_sublist.trans (List.take_sublist _ _)) p47 s57
   rw [h119] at o118
   have hN120 : ((y42.take x_p.Cands.length).filter (fun e : El PCand => decide (x_now ≤ e.1.Until))).length = (((((x_p).Cands).take x_p.Cands.length).filter (fun c : PCand => decide (x_now ≤ c.Until)))).length := by rw [← h119, List.length_map]
   rw [hN120] at o118 ⊢
   exact ⟨_, _, rfl, (OLv.now (OLv.low o118 (z4 k9 k15 k22 k25))), (by rw [← hN120]; exact s57), ⟨trivial, trivial⟩⟩
  have q60 := of_decide_eq_true h59
  refine ct h59 ?_
  refine wc_skip <| wq_then <| wc_seq <| wc_block <| sr ?_
  refine ix wN ((kq : Nat) : Int) slTy_26 (Rd.of_own hsy1) ?_
  refine wl_loadEN [(vi ((((y42.getD kq (z_PCand, [])).1).A).Host)), (vi ((((y42.getD kq (z_PCand, [])).1).A).Port)), (vs (adr2 (y42.getD kq (z_PCand, [])).2 0).1 ((y42.getD kq (z_PCand, [])).1).Draw.length (adr2 (y42.getD kq (z_PCand, [])).2 0).2), (vi (((y42.getD kq (z_PCand, [])).1).Until))] wN rfl rfl rfl rfl isAgg_34 sizeOf_34 (Rd.of_own hsy1) (by first | omega | (simp only [List.length_cons, List.length_nil, List.length_replicate, List.length_append, List.length_take, List.length_set, List.length_map]; omega)) ((rows_part (k := kq) (off := 0) (n := 4) LT_34.len (z_PCand, []) (by first | rfl | simp | omega) (Nat.le_of_ble_eq_true rfl) (by omega)).trans rfl) ?_
  refine al Z_34 wN zero_34 ?_
  intro g62 w7 p63 p64 k65 b66
  refine sv [(vi ((((y42.getD kq (z_PCand, [])).1).A).Host)), (vi ((((y42.getD kq (z_PCand, [])).1).A).Port)), (vs (adr2 (y42.getD kq (z_PCand, [])).2 0).1 ((y42.getD kq (z_PCand, [])).1).Draw.length (adr2 (y42.getD kq (z_PCand, [])).2 0).2), (vi (((y42.getD kq (z_PCand, [])).1).Until))] wN sizeOf_34 b66 ?_
  intro w8 k68 b69 z70
  have m71 := (m53.extk k65).ext k68 (fun k hk => by subst hk; exact Nat.le_trans (z6 k9 k15 k22 k25 k30 k54) p63)
  refine nx ?_
  refine pu (vp g62 3) wN ?_
  refine ld (vi (((y42.getD kq (z_PCand, [])).1).Until)) wN isAgg_3 b69 ?_
  refine mw (vi x_now) ?_
  refine pu (vb (decide (x_now ≤ ((y42.getD kq (z_PCand, [])).1).Until))) wN ?_
  refine n2 ?_
  rcases bf (decide (x_now ≤ ((y42.getD kq (z_PCand, [])).1).Until)) with h72 | h72
  ·have q103 := of_decide_eq_false h72
   refine cf h72 ?_
   refine wc_skip <| wq_blk_normal <| wq_then <| wc_region ?_
   refine ar (((kq : Nat) : Int) + 1) wN ?_
   refine mw (vi (((kq : Nat) : Int) + 1)) ?_
   refine wl_nil ?_
   have o104 := (own_ch (own_kp o56 k65) k68 (ne2 o56 (p63)))
   have hE105 : (((y42.take kq).filter (fun e : El PCand => decide (x_now ≤ e.1.Until))) : List (El PCand)) = (y42.take (kq + 1)).filter (fun e : El PCand => decide (x_now ≤ e.1.Until)) := by first | rfl | exact filt_t (z := (z_PCand, [])) (by omega) (by assumption) | exact filt_f (z := (z_PCand, [])) (by omega) (by assumption)
   have o106 := (own_ch (own_kp hsy1 k65) k68 (ne2 o39 (Nat.le_trans k54.size p63)))
   have s107 := (SubA.ch (SubA.kp hsy2 k65) h48 k68 (fun g h1 h2 hk => by have h3 := Nat.le_trans k54.size p63; omega))
   have b108 := ((hbx5.kp k65).ch k68 (Nat.ne_of_lt (Nat.lt_of_lt_of_le p21 (Nat.le_trans (z3 k25 k30 k54) p63))))
   refine wq_loopP (w0 := w6) [(1, (vi x_now)), (4, (vp g12 0)), (5, (vp g19 0)), (13, (vs a31 ((x_p).Cands).length c32)), (14, (vi (((x_p).Cands).length : Int))), (15, (vi (((kq + 1) : Nat) : Int)))] ?_ ?_ ?_
   · exact ⟨rfl, rfl, rfl, rfl, rfl, (congrArg (Value.int .i64) (show ((((kq : Nat) : Int) + 1) : Int) = (((kq + 1) : Nat) : Int) by omega)), trivial⟩
   · exact fun u => ⟨(kq + 1), u, ab5_2x, cb5_2x, rfl, m71, ((((Ch.refl (fun k => w2.heap.size ≤ k) w5).ext k54 (fun k hk => hk)).extk k65).ext k68 (fun k hk => by subst hk; exact Nat.le_trans (z4 k22 k25 k30 k54) p63)), (by omega), (hE105 ▸ ⟨o104, s57⟩), o106, s107, (by have hb := b108; first | exact hb | (rw [hE105] at hb; exact hb))⟩
   · show x_p.Cands.length - ((((kq + 1) : Nat) : Int)).toNat < x_p.Cands.length - (((kq : Nat) : Int)).toNat; omega
  have q73 := of_decide_eq_true h72
  refine ct h72 ?_
  refine wc_region ?_
  refine pu (vp g19 2) wN ?_
  have b74 := ((hbx5.kp k65).ch k68 (Nat.ne_of_lt (Nat.lt_of_lt_of_le p21 (Nat.le_trans (z3 k25 k30 k54) p63))))
  refine ld (vs ab5_2x ((y42.take kq).filter (fun e : El PCand => decide (x_now ≤ e.1.Until))).length cb5_2x) wN isAgg_26 b74 ?_
  refine lN [(vi ((((y42.getD kq (z_PCand, [])).1).A).Host)), (vi ((((y42.getD kq (z_PCand, [])).1).A).Port)), (vs (adr2 (y42.getD kq (z_PCand, [])).2 0).1 ((y42.getD kq (z_PCand, [])).1).Draw.length (adr2 (y42.getD kq (z_PCand, [])).2 0).2), (vi (((y42.getD kq (z_PCand, [])).1).Until))] wN isAgg_34 sizeOf_34 b69 ?_
  refine wl_lit [(vi ((((y42.getD kq (z_PCand, [])).1).A).Host)), (vi ((((y42.getD kq (z_PCand, [])).1).A).Port)), (vs (adr2 (y42.getD kq (z_PCand, [])).2 0).1 ((y42.getD kq (z_PCand, [])).1).Draw.length (adr2 (y42.getD kq (z_PCand, [])).2 0).2), (vi (((y42.getD kq (z_PCand, [])).1).Until))] wN rfl rfl slTy_26 (m := 1) rfl (by simp only [maxLen]; omega) (fun w => by kernel_rfl) ?_
  intro u75 w9 k76 o77
  obtain ⟨a78, c79, rfl⟩ := own_form o77
  have o82 := (own_kp (own_ch (own_kp o56 k65) k68 (ne2 o56 (p63))) k76)
  refine wl_append wN rfl rfl rfl slTy_26 rfl rfl o82 (ys := LT_34.enc (y42.getD kq (z_PCand, []))) (Rd.of_own o77) (LT_34.one _) (by have hq9 : (((y42.take kq).filter (fun e : El PCand => decide (x_now ≤ e.1.Until)))).length = (((y42.take kq).filter (fun e : El PCand => decide (x_now ≤ e.1.Until)))).length := rfl; omega) (by simp only [maxLen]; omega) (z4 k54 k65 k68 k76) ?_
  intro u83 w10 k84 o85 j86
  have o89 : w10.ownsRow w5.heap.size 34 4 u83 ((((y42.take kq).filter (fun e : El PCand => decide (x_now ≤ e.1.Until))) ++ [(y42.getD kq (z_PCand, []))])).length (((((y42.take kq).filter (fun e : El PCand => decide (x_now ≤ e.1.Until))) ++ [(y42.getD kq (z_PCand, []))])).flatMap LT_34.enc) := by simpa [List.flatMap_append] using o85
  obtain ⟨a87, c88, rfl⟩ := own_form o89
  have m90 := (m71.extk k76).ext k84 (fun k hk => Nat.le_trans (z5 k9 k15 k22 k25 k30) (own_lt o56 k hk).1)
  have s92 : ((((y42.take kq).filter (fun e : El PCand => decide (x_now ≤ e.1.Until))) ++ [(y42.getD kq (z_PCand, []))])).length ≤ 1073741824 := by first | (simp only [List.length_append, List.length_cons, List.length_nil]; omega) | (simp only [List.length_append, List.length_singleton]; refine Nat.le_trans (Nat.succ_le_succ (Nat.le_trans (List.length_filter_le _ _) (List.length_take_le _ _))) ?_; omega)
  refine pu (vp g19 2) wN ?_
  have b93 := ((b74.kp k76).ch k84 (fun h => by have := (own_lt o56 _ h).1; have := Nat.lt_of_lt_of_le p21 (z2 k25 k30); omega))
  refine st (vs a87 ((((y42.take kq).filter (fun e : El PCand => decide (x_now ≤ e.1.Until))) ++ [(y42.getD kq (z_PCand, []))])).length c88) [(vs a87 ((((y42.take kq).filter (fun e : El PCand => decide (x_now ≤ e.1.Until))) ++ [(y42.getD kq (z_PCand, []))])).length c88)] [(vi x_p.At.Host), (vi x_p.At.Port), (vs a87 ((((y42.take kq).filter (fun e : El PCand => decide (x_now ≤ e.1.Until))) ++ [(y42.getD kq (z_PCand, []))])).length c88)] wN sizeOf_26 b93 ?_
  intro w11 k94 b95 z96
  have m97 := m90.ext k94 (fun k hk => by subst hk; exact Nat.le_trans (z2 k9 k15) p20)
  refine wl_nil <| wq_blk_normal <| wq_then <| wc_region ?_
  refine ar (((kq : Nat) : Int) + 1) wN ?_
  refine mw (vi (((kq : Nat) : Int) + 1)) ?_
  refine wl_nil ?_
  have o98 := (own_ch o89 k94 (ne1 o89 (Nat.lt_of_lt_of_le p21 (z2 k25 k30))))
  have hE99 : ((((y42.take kq).filter (fun e : El PCand => decide (x_now ≤ e.1.Until))) ++ [(y42.getD kq (z_PCand, []))]) : List (El PCand)) = (y42.take (kq + 1)).filter (fun e : El PCand => decide (x_now ≤ e.1.Until)) := by first | rfl | exact filt_t (z := (z_PCand, [])) (by omega) (by assumption) | exact filt_f (z := (z_PCand, [])) (by omega) (by assumption)
  have hN100 : ((((y42.take kq).filter (fun e : El PCand => decide (x_now ≤ e.1.Until))) ++ [(y42.getD kq (z_PCand, []))])).length = ((y42.take (kq + 1)).filter (fun e : El PCand => decide (x_now ≤ e.1.Until))).length := by rw [← hE99]; try (first | rfl | simp only [List.length_set] | simp)
  have o101 := (own_ch (own_ch (own_kp (own_ch (own_kp hsy1 k65) k68 (ne2 o39 (Nat.le_trans k54.size p63))) k76) k84 (fun g hg hlt hk => by have h1 := (own_lt o39 g hg).2; have h2 := (own_lt o56 g hk).1; have h3 := (Nat.le_refl w5.heap.size); omega)) k94 (ne1 o39 (Nat.lt_of_lt_of_le p21 k25.size)))
  have s102 := (SubA.ch (SubA.ch (SubA.kp (SubA.ch (SubA.kp hsy2 k65) h48 k68 (fun g h1 h2 hk => by have h3 := Nat.le_trans k54.size p63; omega)) k76) h48 k84 (fun g h1 h2 hk => by have h3 := (own_lt o56 g hk).1; have h4 := (Nat.le_refl w5.heap.size); omega)) h48 k94 (fun g h1 h2 hk => by have h3 := Nat.lt_of_lt_of_le p21 k25.size; omega))
  refine wq_loopP (w0 := w6) [(1, (vi x_now)), (4, (vp g12 0)), (5, (vp g19 0)), (13, (vs a31 ((x_p).Cands).length c32)), (14, (vi (((x_p).Cands).length : Int))), (15, (vi (((kq + 1) : Nat) : Int)))] ?_ ?_ ?_
  · exact ⟨rfl, rfl, rfl, rfl, rfl, (congrArg (Value.int .i64) (show ((((kq : Nat) : Int) + 1) : Int) = (((kq + 1) : Nat) : Int) by omega)), trivial⟩
  · exact fun u => ⟨(kq + 1), u, a87, c88, rfl, m97, (((((((Ch.refl (fun k => w2.heap.size ≤ k) w5).ext k54 (fun k hk => hk)).extk k65).ext k68 (fun k hk => by subst hk; exact Nat.le_trans (z4 k22 k25 k30 k54) p63)).extk k76).ext k84 (fun k hk => Nat.le_trans (z3 k22 k25 k30) (own_lt o56 k hk).1)).ext k94 (fun k hk => by subst hk; exact p20)), (by omega), ⟨(by rw [← hN100, ← hE99]; exact o98), (by rw [← hN100]; first | exact s92 | (simp only [List.length_append, List.length_take, List.length_replicate]; omega))⟩, o101, s102, (by have hb := b95; first | exact hb | (rw [hE99] at hb; exact hb))⟩
  · show x_p.Cands.length - ((((kq + 1) : Nat) : Int)).toNat < x_p.Cands.length - (((kq : Nat) : Int)).toNat; omega

def F_impl_PathTick (x_p : PPaths) (x_now : Int) : (PPaths) := bif (iPa x_p) then (bif (F_impl_within x_now 0 1000000) then ((F_impl_withoutExpired x_p x_now)) else ((x_p))) else ((x_p))
theorem C_impl_PathTick (w0 : World) (v_x_p : Value) (x_p : PPaths) (r_x_p : R_28 w0 v_x_p x_p) (x_now : Int)  : Fn Try.prog 14 #[v_x_p, (vi x_now)] w0 (fun v w' => Keep w0 w' ∧ O_28 w' w0.heap.size v (F_impl_PathTick x_p x_now)) := by
 obtain ⟨a1, c2, rfl, r3, s4⟩ := r_x_p
 refine fn_ofS (n := 18) [(va (L_28 x_p a1 c2)), (vi x_now)] Try.func14 rfl rfl ?_
 refine sr ?_
 refine bx (L_28 x_p a1 c2) wN ?_
 intro g6 w1 p7 p8 k9 b10
 refine al [(vi 0), (vi 0), (vs none 0 0)] wN zero_28 ?_
 intro g12 w2 p13 p14 k15 b16
 have m17 := ((Ch.base w0).extk k9).extk k15
 refine n4 ?_
 refine jT1 [(1, (vi x_now)), (2, (vp g6 0)), (4, (vp g12 0))] (F_impl_PathTick x_p x_now = (x_p)) ?_ fun J18 => ?_
 ·intro hA19 w3 k21 u20
  have m22 := m17.extk k21
  refine sr ?_
  have b23 := ((b10.kp k15).kp k21)
  refine lN (L_28 x_p a1 c2) wN isAgg_28 sizeOf_28 b23 ?_
  refine cl wN (C_impl_copyPaths w3 _ x_p (mR_28 (r3.from0 m22) s4)) ?_
  rintro _ w4 ⟨k24, ⟨a25, c26, rfl, o27, s28, ap30⟩⟩
  obtain ⟨y32, o33⟩ := OLv.ow o27
  have b34 := ((b16.kp k21).kp k24)
  refine sv (L_28 (x_p) a25 c26) wN sizeOf_28 b34 ?_
  intro w5 k35 b36 z37
  have m38 := (m22.extk k24).ext k35 (fun k hk => by subst hk; exact Nat.le_trans k9.size p13)
  refine n1 ?_
  have o39 := (OLv.ch o27 k35 (fun g h1 h2 hk => by have h3 := Nat.lt_of_lt_of_le p14 k21.size; omega))
  refine ret_1 (.inl rfl) (va (L_28 (x_p) a25 c26)) rfl (rv_c (L_28 (x_p) a25 c26) rfl b36 isAgg_28 sizeOf_28) ?_
  refine ⟨m38.keep0, ?_⟩
  rw [hA19]
  exact ⟨_, _, rfl, (OLv.now (OLv.low o39 (z3 k9 k15 k21))), s28, ⟨trivial, trivial⟩⟩
 have b41 := (b10.kp k15)
 refine lN (L_28 x_p a1 c2) wN isAgg_28 sizeOf_28 b41 ?_
 refine cl wN (C_impl_PathsOk w2 _ x_p (mR_28 (r3.from0 m17) s4)) ?_
 rintro _ w3 ⟨k42, rfl⟩
 refine pu (vb (!(iPa x_p))) wN ?_
 refine mw (vb (!(iPa x_p))) ?_
 rcases bf (iPa x_p) with h44 | h44
 ·iterate 3 refine sk (congrArg not h44) ?_
  refine pk (vb true) wN (congrArg not h44) ?_
  refine n2 ?_
  refine ct (Eq.refl true) ?_
  have hF71 : F_impl_PathTick x_p x_now = (x_p) := by simp only [F_impl_PathTick, h44, cond_true, cond_false]
  exact wj (J18 hF71 _ k42)
 have q45 := iPa_t h44
 refine mv (vi x_now) (wS (congrArg not h44)) ?_
 refine cl (wS (congrArg not h44)) (C_impl_within w3 x_now 0 1000000) ?_
 rintro _ w4 ⟨k46, rfl⟩
 have m47 := (m17.extk k42).extk k46
 refine pu (vb (!(F_impl_within x_now 0 1000000))) (wS (congrArg not h44)) ?_
 refine pf (vb (!(F_impl_within x_now 0 1000000))) wN (congrArg not h44) ?_
 refine n2 ?_
 rcases bf (F_impl_within x_now 0 1000000) with h48 | h48
 ·have q68 := impl_within_f h48
  refine ct (congrArg not h48) ?_
  have hF69 : F_impl_PathTick x_p x_now = (x_p) := by simp only [F_impl_PathTick, h44, h48, cond_true, cond_false]
  exact wj (J18 hF69 _ (k42.trans k46))
 have q49 := impl_within_t h48
 refine cf (congrArg not h48) ?_
 refine y1 ?_
 have b50 := ((b41.kp k42).kp k46)
 refine lN (L_28 x_p a1 c2) wN isAgg_28 sizeOf_28 b50 ?_
 refine mw (vi x_now) ?_
 refine cl wN (C_impl_withoutExpired w4 _ x_p (mR_28 (r3.from0 m47) s4) x_now) ?_
 rintro _ w5 ⟨k51, ⟨a52, c53, rfl, o54, s55, ap57⟩⟩
 obtain ⟨y59, o60⟩ := OLv.ow o54
 have b61 := (((b16.kp k42).kp k46).kp k51)
 refine sv (L_28 (F_impl_withoutExpired x_p x_now) a52 c53) wN sizeOf_28 b61 ?_
 intro w6 k62 b63 z64
 have m65 := (m47.extk k51).ext k62 (fun k hk => by subst hk; exact Nat.le_trans k9.size p13)
 refine n3 ?_
 have o66 := (OLv.ch o54 k62 (fun g h1 h2 hk => by have h3 := Nat.lt_of_lt_of_le p14 (z2 k42 k46); omega))
 refine ret_1 (.inl rfl) (va (L_28 (F_impl_withoutExpired x_p x_now) a52 c53)) rfl (rv_c (L_28 (F_impl_withoutExpired x_p x_now) a52 c53) rfl b63 isAgg_28 sizeOf_28) ?_
 refine ⟨m65.keep0, ?_⟩
 simp only [F_impl_PathTick, h44, h48, cond_true, cond_false]
 exact ⟨_, _, rfl, (OLv.now (OLv.low o66 (z4 k9 k15 k42 k46))), s55, ⟨trivial, trivial⟩⟩

def F_laws_same (x_a : List UInt8) (x_b : List UInt8) : (Bool) := (eqS (ByteArray.mk x_a.toArray) (ByteArray.mk x_b.toArray))
theorem C_laws_same (w0 : World) (v_x_a : Value) (x_a : List UInt8) (r_x_a : R_22 w0 v_x_a x_a) (v_x_b : Value) (x_b : List UInt8) (r_x_b : R_22 w0 v_x_b x_b)  : Fn Try.prog 15 #[v_x_a, v_x_b] w0 (fun v w' => Keep w0 w' ∧ O_4 w' w0.heap.size v (F_laws_same x_a x_b)) := by
 obtain ⟨a1, c2, rfl, r3, s4⟩ := r_x_a
 obtain ⟨a6, c7, rfl, r8, s9⟩ := r_x_b
 refine fn_ofS (n := 10) [(vs a1 x_a.length c2), (vs a6 x_b.length c7)] Try.func15 rfl rfl ?_
 refine sr ?_
 refine aw (vb false) ?_
 refine nx ?_
 refine mw (vs a1 x_a.length c2) ?_
 refine wl_b2s x_a wN rfl rfl rfl rfl Try.underlying22 Try.underlying5 Try.underlying9 r3 ?_
 refine mw (vs a6 x_b.length c7) ?_
 refine wl_b2s x_b wN rfl rfl rfl rfl Try.underlying22 Try.underlying5 Try.underlying9 r8 ?_
 refine pu (vb (eqS (ByteArray.mk x_a.toArray) (ByteArray.mk x_b.toArray))) wN ?_
 refine aw (vb (eqS (ByteArray.mk x_a.toArray) (ByteArray.mk x_b.toArray))) ?_
 refine n3 ?_
 refine rt (vb (eqS (ByteArray.mk x_a.toArray) (ByteArray.mk x_b.toArray))) ?_
 refine ⟨Ch.refl _ _, ?_⟩
 have hF11 : F_laws_same x_a x_b = (eqS (ByteArray.mk x_a.toArray) (ByteArray.mk x_b.toArray)) := by rfl
 rw [hF11]
 exact rfl
end Go.Proofs.Ytdbjmgkiccfhcaa.K
