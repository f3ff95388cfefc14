import Derived.Test.YtcbdmamfmcdlaaaCore
import Derived.Test.YtcbdmamfmcdlaaaProg
import Derived.Test.YtcbdmamfmcdlaaaHeld
import Derived.Test.YtcbdmamfmcdlaaaFun
import Derived.Test.YtcbdmamfmcdlaaaFunZ
import Derived.Test.YtcbdmamfmcdlaaaSqz
import Derived.Test.YtcbdmamfmcdlaaaCur
import Derived.Test.YtcbdmamfmcdlaaaDrawW
namespace Go.Proofs.Ytcbdmamfmcdlaaa.K
open Go.RowKit
set_option linter.unusedVariables false
set_option linter.unusedSimpArgs false
set_option maxRecDepth 100000
set_option maxHeartbeats 4000000
def LT_143 : LTy (PCand) := { E := 143, Eb := 5, sz := 4, enc := fun e => [vi e.1.A.Host, vi e.1.A.Port, vs (adr2 e.2 0).1 e.1.Draw.length (adr2 e.2 0).2, vi e.1.Until], bs := fun x => [x.Draw], len := fun _ => rfl, one := fun _ => one_all rfl, pos := by decide, ne := by decide }
def z_PCand : PCand := { A := { Host := 0, Port := 0 : PAddr }, Draw := [], Until := 0 : PCand }
def LT_42 : LTy (PCand) := { E := 42, Eb := 5, sz := 4, enc := fun e => [vi e.1.A.Host, vi e.1.A.Port, vs (adr2 e.2 0).1 e.1.Draw.length (adr2 e.2 0).2, vi e.1.Until], bs := fun x => [x.Draw], len := fun _ => rfl, one := fun _ => one_all rfl, pos := by decide, ne := by decide }
def enc_PCredit (x : PCredit) : List Value := [.int .i64 x.A.Host, .int .i64 x.A.Port, .int .i64 x.Got, .int .i64 x.Sent]
theorem enc_PCredit_len : ∀ a, (enc_PCredit a).length = 4 := fun _ => rfl
theorem enc_PCredit_one : ∀ a, ∀ u ∈ enc_PCredit a, u.oneCell' = true := fun _ => (one_cons rfl (one_cons rfl (one_cons rfl (one_cons rfl one_nil))))
def z_PCredit : PCredit := { A := { Host := 0, Port := 0 : PAddr }, Got := 0, Sent := 0 : PCredit }
def creditAt (x_l : List PCredit) (x_a : PAddr) : Int := findF (fun c : PCredit => decide (c.A.Host = x_a.Host) && decide (c.A.Port = x_a.Port)) x_l
theorem creditAt_range (x_l : List PCredit) (x_a : PAddr) : -1 ≤ creditAt x_l x_a ∧ creditAt x_l x_a < (x_l.length : Int) := findF_range x_l

def candAt (x_p : PPaths) (x_a : PAddr) : Int := findF (fun c : PCand => decide (c.A.Host = x_a.Host) && decide (c.A.Port = x_a.Port)) x_p.Cands
theorem candAt_range (x_p : PPaths) (x_a : PAddr) : -1 ≤ candAt x_p x_a ∧ candAt x_p x_a < (x_p.Cands.length : Int) := findF_range x_p.Cands
def LT_70 : LTy (PNote) := { E := 70, Eb := 5, sz := 12, enc := fun e => [vi e.1.Kind, vi e.1.Id, vi e.1.Role, vs (adr2 e.2 0).1 e.1.Cn.length (adr2 e.2 0).2, vs (adr2 e.2 1).1 e.1.Sn.length (adr2 e.2 1).2, vi e.1.Epoch, vi e.1.Seq, vs (adr2 e.2 2).1 e.1.Body.length (adr2 e.2 2).2, vs (adr2 e.2 3).1 e.1.Key.length (adr2 e.2 3).2, vi e.1.A.Host, vi e.1.A.Port, vi e.1.Now], bs := fun x => [x.Cn, x.Sn, x.Body, x.Key], len := fun _ => rfl, one := fun _ => one_all rfl, pos := by decide, ne := by decide }
def z_PNote : PNote := { Kind := 0, Id := 0, Role := 0, Cn := [], Sn := [], Epoch := 0, Seq := 0, Body := [], Key := [], A := { Host := 0, Port := 0 : PAddr }, Now := 0 : PNote }
theorem slTy_22 : SlTy Try.prog 22 5 1 1 (v8 0) := slTy Try.underlying22 (by kernel_rfl) rfl rfl
def Q_22 (w : World) (v : Value) (x : (List UInt8)) : Prop := ∃ (a1 : Option Addr) (c1 : Nat), v = .slice a1 x.length c1 ∧ Rd w 1 (.slice a1 x.length c1) x.length (x.map bV) ∧ x.length ≤ 9223372036854775807
def O_4 (w : World) (lo : Nat) (v : Value) (x : (Bool)) : Prop := v = .bool x
def F_laws_big (x_code : List UInt8) : (Bool) := decide (1048576 < (x_code.length : Int))
theorem C_laws_big (w0 : World) (v_x_code : Value) (x_code : List UInt8) (r_x_code : Q_22 w0 v_x_code x_code)  : Fn Try.prog 10 #[v_x_code] w0 (fun v w' => Keep w0 w' ∧ O_4 w' w0.heap.size v (F_laws_big x_code)) := by
 obtain ⟨a1, c2, rfl, r3, s4⟩ := r_x_code
 refine fn_ofS (n := 6) [(vs a1 x_code.length c2)] Try.func10 rfl rfl ?_
 refine sr ?_
 refine aw (vb false) ?_
 refine nx ?_
 refine mw (vs a1 x_code.length c2) ?_
 refine ln wN slTy_22 r3 ?_
 refine pu (vb (decide (1048576 < (x_code.length : Int)))) wN ?_
 refine aw (vb (decide (1048576 < (x_code.length : Int)))) ?_
 refine n3 ?_
 refine rt (vb (decide (1048576 < (x_code.length : Int)))) ?_
 refine ⟨Ch.refl _ _, ?_⟩
 have hF6 : F_laws_big x_code = decide (1048576 < (x_code.length : Int)) := by rfl
 rw [hF6]
 exact rfl
theorem big_f {x : List UInt8} (h : F_laws_big x = false) : x.length ≤ 1048576 := by
  have := of_decide_eq_false h
  omega

theorem isAgg_5 : ∀ w, (isAgg 5).run Try.prog w = .ok false w := fun w => by kernel_rfl
def R_22 (w : World) (v : Value) (x : (List UInt8)) : Prop := ∃ (a1 : Option Addr) (c1 : Nat), v = .slice a1 x.length c1 ∧ Rd w 1 (.slice a1 x.length c1) x.length (x.map bV) ∧ x.length ≤ 1073741824
theorem C_spec_l1New (w0 : World) (v_x_code : Value) (x_code : List UInt8) (r_x_code : R_22 w0 v_x_code x_code)  : Fn Try.prog 62 #[v_x_code] w0 (fun v w' => ∃ g, Keep w0 w' ∧ w0.heap.size ≤ g ∧ v = vp g 0 ∧ ∀ (a : Option Addr) (c : Nat), v_x_code = .slice a x_code.length c → CurX w' g 138 a c x_code) := by
 obtain ⟨a1, c2, rfl, r3, s4⟩ := r_x_code
 refine fn_ofS (n := 32) [(vs a1 x_code.length c2)] Try.func62 rfl rfl ?_
 refine sr ?_
 refine aw (.pointer none) ?_
 refine nx ?_
 refine mw (vs a1 x_code.length c2) ?_
 refine ln wN slTy_22 r3 ?_
 refine ar (127812 + (x_code.length : Int)) wN ?_
 refine aw (vi (127812 + (x_code.length : Int))) ?_
 refine n4 ?_
 refine aw (vi 0) ?_
 refine wl_nil <| wq_then <| wc_block ?_
 refine wc_loopP [(0, (vs a1 x_code.length c2)), (2, (.pointer none)), (3, (vi (127812 + (x_code.length : Int)))), (4, (vi ((0 : Nat) : Int)))] ⟨rfl, rfl, rfl, (congrArg (Value.int .i64) (show (0 : Int) = ((0 : Nat) : Int) by omega)), trivial⟩ (fun e' w' => ∃ (k : Nat) (q : Int) (u6 : Env), e' = pt u6 [(0, (vs a1 x_code.length c2)), (2, (.pointer none)), (3, (vi q)), (4, (vi ((k : Nat) : Int)))] ∧ Ch (fun k => w0.heap.size ≤ k) w0 w' ∧ Ch (fun k => w0.heap.size ≤ k) w0 w' ∧ k ≤ x_code.length ∧ 0 ≤ q ∧ q ≤ 1073869636) (fun e' _ => x_code.length - ((intOf (e' 4))).toNat) ?_ ?_
 ·exact fun u => ⟨0, (127812 + (x_code.length : Int)), u, rfl, (Ch.base w0), (Ch.refl (fun k => w0.heap.size ≤ k) w0), (by omega), (by omega), (by omega)⟩
 ·rintro _ w1 ⟨k, q, u6, rfl, m7, k8, i9, i10, i11⟩
  have hx8 : (x_code.getD k 0).toNat < 256 := UInt8.toNat_lt _
  refine wc_seq <| sr ?_
  refine mw (vi ((k : Nat) : Int)) ?_
  refine mw (vs a1 x_code.length c2) ?_
  refine ln wN slTy_22 (r3.from0 m7) ?_
  refine pu (vb (decide (((k : Nat) : Int) < (x_code.length : Int)))) wN ?_
  refine mw (vb (decide (((k : Nat) : Int) < (x_code.length : Int)))) ?_
  rcases bf (decide (((k : Nat) : Int) < (x_code.length : Int))) with h12 | h12
  ·have q23 := of_decide_eq_false h12
   iterate 2 refine sk h12 ?_
   refine pf (vb false) wN h12 ?_
   refine n2 ?_
   refine cf (Eq.refl false) ?_
   refine wc_exit <| wq_then_exit <| wq_then_exit <| wq_blk_exit <| wq_then <| sr ?_
   refine mw (vs a1 x_code.length c2) ?_
   refine mw (vi q) ?_
   refine pu (va [(vs a1 x_code.length c2), (vi 0), (vi q)]) wN ?_
   refine bx [(vs a1 x_code.length c2), (vi 0), (vi q)] wN ?_
   intro g24 w2 p25 p26 k27 b28
   have m29 := m7.extk k27
   refine aw (vp g24 0) ?_
   refine n3 ?_
   refine rt (vp g24 0) ?_
   refine ⟨g24, m29.keep0, (Nat.le_trans k8.size p25), rfl, fun a c hv => ?_⟩
   cases hv
   exact ⟨_, _, b28, (r3.from0 m29), s4, (by omega), (fun h0 z hz => Nat.ne_of_lt (Nat.lt_of_lt_of_le (rd_posB r3 h0 z hz) (Nat.le_trans k8.size p25)))⟩
  have q13 := of_decide_eq_true h12
  refine mv (vi ((k : Nat) : Int)) (wS h12) ?_
  refine pu (vb (decide (((k : Nat) : Int) < 4000))) (wS h12) ?_
  refine pk (vb (decide (((k : Nat) : Int) < 4000))) wN h12 ?_
  refine n2 ?_
  rcases bf (decide (((k : Nat) : Int) < 4000)) with h14 | h14
  ·have q16 := of_decide_eq_false h14
   refine cf h14 ?_
   refine wc_exit <| wq_then_exit <| wq_then_exit <| wq_blk_exit <| wq_then <| sr ?_
   refine mw (vs a1 x_code.length c2) ?_
   refine mw (vi q) ?_
   refine pu (va [(vs a1 x_code.length c2), (vi 0), (vi q)]) wN ?_
   refine bx [(vs a1 x_code.length c2), (vi 0), (vi q)] wN ?_
   intro g17 w2 p18 p19 k20 b21
   have m22 := m7.extk k20
   refine aw (vp g17 0) ?_
   refine n3 ?_
   refine rt (vp g17 0) ?_
   refine ⟨g17, m22.keep0, (Nat.le_trans k8.size p18), rfl, fun a c hv => ?_⟩
   cases hv
   exact ⟨_, _, b21, (r3.from0 m22), s4, (by omega), (fun h0 z hz => Nat.ne_of_lt (Nat.lt_of_lt_of_le (rd_posB r3 h0 z hz) (Nat.le_trans k8.size p18)))⟩
  have q15 := of_decide_eq_true h14
  refine ct h14 ?_
  refine wc_skip <| wq_then <| wc_seq <| wc_block <| wc_region ?_
  refine mw (vi q) ?_
  refine ar (q * 137) wN ?_
  refine mw (vs a1 x_code.length c2) ?_
  refine mw (vi ((k : Nat) : Int)) ?_
  refine ix wN ((k : Nat) : Int) slTy_22 (r3.from0 m7) ?_
  refine eb (x := x_code) k wN isAgg_5 (r3.from0 m7) ?_
  refine ar ((x_code.getD k 0).toNat : Int) wN ?_
  refine ar ((q * 137) + ((x_code.getD k 0).toNat : Int)) wN ?_
  refine ar (((q * 137) + ((x_code.getD k 0).toNat : Int)) + 11) wN ?_
  refine wl_and (((q * 137) + ((x_code.getD k 0).toNat : Int)) + 11) 1073741823 1073741824 30 wN rfl rfl (by decide) (by decide) (by decide) (by kernel_rfl) ?_
  refine aw (vi ((((q * 137) + ((x_code.getD k 0).toNat : Int)) + 11) % 1073741824)) ?_
  refine wl_nil <| wq_blk_normal <| wq_then <| wc_region ?_
  refine mw (vi ((k : Nat) : Int)) ?_
  refine ar (((k : Nat) : Int) + 1) wN ?_
  refine aw (vi (((k : Nat) : Int) + 1)) ?_
  refine wl_nil ?_
  refine wq_loopP (w0 := w1) [(0, (vs a1 x_code.length c2)), (2, (.pointer none)), (3, (vi ((((q * 137) + ((x_code.getD k 0).toNat : Int)) + 11) % 1073741824))), (4, (vi (((k + 1) : Nat) : Int)))] ?_ ?_ ?_
  · exact ⟨rfl, rfl, rfl, (congrArg (Value.int .i64) (show ((((k : Nat) : Int) + 1) : Int) = (((k + 1) : Nat) : Int) by omega)), trivial⟩
  · exact fun u => ⟨(k + 1), ((((q * 137) + ((x_code.getD k 0).toNat : Int)) + 11) % 1073741824), u, rfl, m7, ((Ch.refl (fun k => w0.heap.size ≤ k) w0).ext k8 (fun k hk => hk)), (by omega), (by omega), (by omega)⟩
  · show x_code.length - ((((k + 1) : Nat) : Int)).toNat < x_code.length - (((k : Nat) : Int)).toNat; omega

theorem isAgg_3 : ∀ w, (isAgg 3).run Try.prog w = .ok false w := fun w => by kernel_rfl
theorem sizeOf_3 : ∀ w, (sizeOf 3).run Try.prog w = .ok 1 w := fun w => by kernel_rfl
theorem mixed : Try.prog.follows .mixedOrders = true := by kernel_rfl
theorem isAgg_22 : ∀ w, (isAgg 22).run Try.prog w = .ok false w := fun w => by kernel_rfl
def O_3 (w : World) (lo : Nat) (v : Value) (x : (Int)) : Prop := v = .int .i64 x
theorem C_spec_l1Byte (w0 : World) (g : Nat) (ca : Option Addr) (cc : Nat) (cb : List UInt8) (r_c : CurX w0 g 138 ca cc cb)  : Fn Try.prog 122 #[(vp g 0)] w0 (fun v w' => ∃ x : (Int), Ch (fun k => k = g) w0 w' ∧ CurX w' g 138 ca cc cb ∧ O_3 w' w0.heap.size v x ∧ (0 ≤ x ∧ x ≤ 255)) := by
 obtain ⟨ci, chh, hcb, hcr, hcl, hci, hcn⟩ := r_c
 have hgl := Blk.lt hcb
 refine fn_ofS (n := 58) [(vp g 0)] Try.func122 rfl rfl ?_
 have hx8 : (cb.getD ci.toNat 0).toNat < 256 := UInt8.toNat_lt _
 refine sr ?_
 refine aw (vi 0) ?_
 refine nx ?_
 refine mw (vp g 0) ?_
 refine mw (vp g 0) ?_
 refine pu (vp g 0) wN ?_
 refine pu (vp g 2) wN ?_
 refine ld (vi chh) wN isAgg_3 hcb ?_
 refine wl_arb (IntKind.i64.wrap (chh * 6364136223846793005)) wN rfl rfl (by kernel_rfl) ?_
 intro ab1
 refine wl_arb (IntKind.i64.wrap (ab1 + 1442695040888963407)) wN rfl rfl (by kernel_rfl) ?_
 intro ab2
 refine pu (vp g 0) wN ?_
 refine pu (vp g 2) wN ?_
 refine st (vi ab2) [(vi ab2)] [(vs ca cb.length cc), (vi ci), (vi ab2)] wN sizeOf_3 hcb ?_
 intro w1 k3 b4 z5
 have m6 := ChG.ext (Ch.refl (fun k => k = g) w0) k3 (fun k hk => .inl hk)
 refine wl_nil <| wq_then <| wc_seq ?_
 refine wc_drawT ([(13, [], [], (fun _ v _ => v = (vp g 0))), (14, [], [0], (fun _ v _ => v = (vp g 0))), (15, [], [0, 1], (fun _ v _ => v = (vp g 2))), (16, [], [0, 1, 2], (fun _ v _ => v = (vi ab2))), (17, [], [0, 1, 2, 3], (fun _ v _ => v = (vi (ab2 / (2 : Int) ^ ((33 : Int)).toNat)))), (18, [], [], (fun _ v _ => v = (vp g 0))), (19, [], [5], (fun _ v _ => v = (vp g 0))), (20, [], [5, 6], (fun _ v _ => v = (vp g 2))), (21, [], [5, 6, 7], (fun _ v _ => v = (vi ab2))), (22, [], [5, 6, 7, 8], (fun _ v _ => v = (vi (ab2 / (2 : Int) ^ ((47 : Int)).toNat))))] : GV) (fun _ w' => Keep w1 w') [] mixed rfl (by kernel_rfl) (by kernel_rfl) ?_ (fun _ _ h => h) (fun _ _ _ _ h _ k => h.trans k) trivial ?_ ?_ ?_
 ·exact ⟨hV, hE, ⟨hV, hE, ⟨hV, hE, ⟨hV, hE, ⟨hV, hE, ⟨hV, hE, ⟨hV, hE, ⟨hV, hE, ⟨hV, hE, ⟨hV, hE, trivial⟩⟩⟩⟩⟩⟩⟩⟩⟩⟩
 ·exact trivial
 ·refine ⟨?_, ⟨?_, ⟨?_, ⟨?_, ⟨?_, ⟨?_, ⟨?_, ⟨?_, ⟨?_, ⟨?_, trivial⟩⟩⟩⟩⟩⟩⟩⟩⟩⟩
  ·intro _ w2 k8 _
   rintro _ _ _ _ _ _ _ _ _ _
   show WL _ _ _ _ _ _ _
   refine mw (vp g 0) ?_
   exact f1
  ·intro _ w2 k10 _
   rintro _ rfl _ _ _ _ _ _ _ _ _
   show WL _ _ _ _ _ _ _
   refine pu (vp g 0) wN ?_
   exact f1
  ·intro _ w2 k12 _
   rintro _ rfl _ rfl _ _ _ _ _ _ _ _
   show WL _ _ _ _ _ _ _
   refine pu (vp g 2) wN ?_
   exact f1
  ·intro _ w2 k14 _
   rintro _ rfl _ rfl _ rfl _ _ _ _ _ _ _
   show WL _ _ _ _ _ _ _
   have b16 := (b4.kp k14)
   refine ld (vi ab2) wN isAgg_3 b16 ?_
   exact f1
  ·intro _ w2 k17 _
   rintro _ rfl _ rfl _ rfl _ rfl _ _ _ _ _ _
   show WL _ _ _ _ _ _ _
   refine wl_shrU ab2 (33 : Int) wN rfl rfl rfl rfl rfl (by omega) (by omega) ?_
   exact f1
  ·intro _ w2 k20 _
   rintro _ _ _ _ _ _ _ _ _ _
   show WL _ _ _ _ _ _ _
   refine mw (vp g 0) ?_
   exact f1
  ·intro _ w2 k22 _
   rintro _ _ _ _ _ _ rfl _ _ _ _
   show WL _ _ _ _ _ _ _
   refine pu (vp g 0) wN ?_
   exact f1
  ·intro _ w2 k24 _
   rintro _ _ _ _ _ _ rfl _ rfl _ _ _
   show WL _ _ _ _ _ _ _
   refine pu (vp g 2) wN ?_
   exact f1
  ·intro _ w2 k26 _
   rintro _ _ _ _ _ _ rfl _ rfl _ rfl _ _
   show WL _ _ _ _ _ _ _
   have b28 := (b4.kp k26)
   refine ld (vi ab2) wN isAgg_3 b28 ?_
   exact f1
  ·intro _ w2 k29 _
   rintro _ _ _ _ _ _ rfl _ rfl _ rfl _ rfl _
   show WL _ _ _ _ _ _ _
   refine wl_shrU ab2 (47 : Int) wN rfl rfl rfl rfl rfl (by omega) (by omega) ?_
   exact f1
 ·intro _ w2 k32
  have m33 := ChG.extk m6 k32
  rintro _ rfl _ rfl _ rfl _ rfl _ rfl _ rfl _ rfl _ rfl _ rfl _ rfl
  show WL _ _ _ _ _ _ _
  refine wl_xorA (ab2 / (2 : Int) ^ ((33 : Int)).toNat) (ab2 / (2 : Int) ^ ((47 : Int)).toNat) wN rfl rfl (by kernel_rfl) ?_
  refine wl_and (xorA (ab2 / (2 : Int) ^ ((33 : Int)).toNat) (ab2 / (2 : Int) ^ ((47 : Int)).toNat)) 255 256 8 wN rfl rfl (by decide) (by decide) (by decide) (by kernel_rfl) ?_
  refine aw (vi ((xorA (ab2 / (2 : Int) ^ ((33 : Int)).toNat) (ab2 / (2 : Int) ^ ((47 : Int)).toNat)) % 256)) ?_
  refine wl_nil <| wq_then <| wc_seq <| wc_seq ?_
  refine wc_drawT ([(25, [], [], (fun _ v _ => v = (vp g 0))), (26, [], [0], (fun _ v _ => v = (vp g 0))), (27, [], [0, 1], (fun _ v _ => v = (vp g 1))), (28, [], [0, 1, 2], (fun _ v _ => v = (vi ci))), (29, [], [], (fun _ v _ => v = (vp g 0))), (30, [], [4], (fun _ v _ => v = (vp g 0))), (31, [], [4, 5], (fun _ v _ => v = (vp g 0))), (32, [], [4, 5, 6], (fun _ v _ => v = (vs ca cb.length cc))), (33, [], [4, 5, 6, 7], (fun _ v _ => v = (vi (cb.length : Int))))] : GV) (fun _ w' => Keep w2 w') [] mixed rfl (by kernel_rfl) (by kernel_rfl) ?_ (fun _ _ h => h) (fun _ _ _ _ h _ k => h.trans k) trivial ?_ ?_ ?_
  ·exact ⟨hV, hE, ⟨hV, hE, ⟨hV, hE, ⟨hV, hE, ⟨hV, hE, ⟨hV, hE, ⟨hV, hE, ⟨hV, hE, ⟨hV, hE, trivial⟩⟩⟩⟩⟩⟩⟩⟩⟩
  ·exact trivial
  ·refine ⟨?_, ⟨?_, ⟨?_, ⟨?_, ⟨?_, ⟨?_, ⟨?_, ⟨?_, ⟨?_, trivial⟩⟩⟩⟩⟩⟩⟩⟩⟩
   ·intro _ w3 k39 _
    rintro _ _ _ _ _ _ _ _ _
    show WL _ _ _ _ _ _ _
    refine mw (vp g 0) ?_
    exact f1
   ·intro _ w3 k41 _
    rintro _ rfl _ _ _ _ _ _ _ _
    show WL _ _ _ _ _ _ _
    refine pu (vp g 0) wN ?_
    exact f1
   ·intro _ w3 k43 _
    rintro _ rfl _ rfl _ _ _ _ _ _ _
    show WL _ _ _ _ _ _ _
    refine pu (vp g 1) wN ?_
    exact f1
   ·intro _ w3 k45 _
    rintro _ rfl _ rfl _ rfl _ _ _ _ _ _
    show WL _ _ _ _ _ _ _
    have b47 := ((b4.kp k32).kp k45)
    refine ld (vi ci) wN isAgg_3 b47 ?_
    exact f1
   ·intro _ w3 k48 _
    rintro _ _ _ _ _ _ _ _ _
    show WL _ _ _ _ _ _ _
    refine mw (vp g 0) ?_
    exact f1
   ·intro _ w3 k50 _
    rintro _ _ _ _ _ rfl _ _ _ _
    show WL _ _ _ _ _ _ _
    refine pu (vp g 0) wN ?_
    exact f1
   ·intro _ w3 k52 _
    rintro _ _ _ _ _ rfl _ rfl _ _ _
    show WL _ _ _ _ _ _ _
    refine pu (vp g 0) wN ?_
    exact f1
   ·intro _ w3 k54 _
    rintro _ _ _ _ _ rfl _ rfl _ rfl _ _
    show WL _ _ _ _ _ _ _
    have b56 := ((b4.kp k32).kp k54)
    refine ld (vs ca cb.length cc) wN isAgg_22 b56 ?_
    exact f1
   ·intro _ w3 k57 _
    have m58 := ChG.extk m33 k57
    rintro _ _ _ _ _ rfl _ rfl _ rfl _ rfl _
    show WL _ _ _ _ _ _ _
    refine ln wN slTy_22 (Rd.chP hcr m58 hcn) ?_
    exact f1
  ·intro _ w3 k60
   have m61 := ChG.extk m33 k60
   rintro _ rfl _ rfl _ rfl _ rfl _ rfl _ rfl _ rfl _ rfl _ rfl
   show WL _ _ _ _ _ _ _
   refine pu (vb (decide (ci < (cb.length : Int)))) wN ?_
   refine n2 ?_
   rcases bf (decide (ci < (cb.length : Int))) with h64 | h64
   ·have q111 := of_decide_eq_false h64
    refine cf h64 ?_
    refine y1 ?_
    refine mw (vi ((xorA (ab2 / (2 : Int) ^ ((33 : Int)).toNat) (ab2 / (2 : Int) ^ ((47 : Int)).toNat)) % 256)) ?_
    refine aw (vi ((xorA (ab2 / (2 : Int) ^ ((33 : Int)).toNat) (ab2 / (2 : Int) ^ ((47 : Int)).toNat)) % 256)) ?_
    refine n3 ?_
    refine rt (vi ((xorA (ab2 / (2 : Int) ^ ((33 : Int)).toNat) (ab2 / (2 : Int) ^ ((47 : Int)).toNat)) % 256)) ?_
    have b112 := ((b4.kp k32).kp k60)
    exact ⟨((xorA (ab2 / (2 : Int) ^ ((33 : Int)).toNat) (ab2 / (2 : Int) ^ ((47 : Int)).toNat)) % 256), m61, ⟨_, _, b112, (Rd.chP hcr m61 hcn), hcl, (by omega), hcn⟩, rfl, (by omega)⟩
   have q65 := of_decide_eq_true h64
   refine ct h64 ?_
   refine wc_seq ?_
   refine wc_drawT ([(35, [], [], (fun _ v _ => v = (vi ((xorA (ab2 / (2 : Int) ^ ((33 : Int)).toNat) (ab2 / (2 : Int) ^ ((47 : Int)).toNat)) % 256)))), (36, [], [], (fun _ v _ => v = (vp g 0))), (37, [], [1], (fun _ v _ => v = (vp g 0))), (38, [], [1, 2], (fun _ v _ => v = (vp g 0))), (39, [], [1, 2, 3], (fun _ v _ => v = (vs ca cb.length cc))), (40, [], [], (fun _ v _ => v = (vp g 0))), (41, [], [5], (fun _ v _ => v = (vp g 0))), (42, [], [5, 6], (fun _ v _ => v = (vp g 1))), (43, [], [5, 6, 7], (fun _ v _ => v = (vi ci))), (44, [], [1, 2, 3, 4, 5, 6, 7, 8], (fun _ v _ => v = (ve (vs ca cb.length cc) ((ci).toNat * 1)))), (45, [], [1, 2, 3, 4, 5, 6, 7, 8, 9], (fun _ v _ => v = (v8 ((cb.getD (ci).toNat 0).toNat : Int)))), (46, [], [1, 2, 3, 4, 5, 6, 7, 8, 9, 10], (fun _ v _ => v = (vi ((cb.getD (ci).toNat 0).toNat : Int))))] : GV) (fun _ w' => Keep w3 w') [] mixed rfl (by kernel_rfl) (by kernel_rfl) ?_ (fun _ _ h => h) (fun _ _ _ _ h _ k => h.trans k) trivial ?_ ?_ ?_
   ·exact ⟨hV, hE, ⟨hV, hE, ⟨hV, hE, ⟨hV, hE, ⟨hV, hE, ⟨hV, hE, ⟨hV, hE, ⟨hV, hE, ⟨hV, hE, ⟨hV, hE, ⟨hV, hE, ⟨hV, hE, trivial⟩⟩⟩⟩⟩⟩⟩⟩⟩⟩⟩⟩
   ·exact trivial
   ·refine ⟨?_, ⟨?_, ⟨?_, ⟨?_, ⟨?_, ⟨?_, ⟨?_, ⟨?_, ⟨?_, ⟨?_, ⟨?_, ⟨?_, trivial⟩⟩⟩⟩⟩⟩⟩⟩⟩⟩⟩⟩
    ·intro _ w4 k69 _
     rintro _ _ _ _ _ _ _ _ _ _ _ _
     show WL _ _ _ _ _ _ _
     refine mw (vi ((xorA (ab2 / (2 : Int) ^ ((33 : Int)).toNat) (ab2 / (2 : Int) ^ ((47 : Int)).toNat)) % 256)) ?_
     exact f1
    ·intro _ w4 k71 _
     rintro _ _ _ _ _ _ _ _ _ _ _ _
     show WL _ _ _ _ _ _ _
     refine mw (vp g 0) ?_
     exact f1
    ·intro _ w4 k73 _
     rintro _ _ rfl _ _ _ _ _ _ _ _ _ _
     show WL _ _ _ _ _ _ _
     refine pu (vp g 0) wN ?_
     exact f1
    ·intro _ w4 k75 _
     rintro _ _ rfl _ rfl _ _ _ _ _ _ _ _ _
     show WL _ _ _ _ _ _ _
     refine pu (vp g 0) wN ?_
     exact f1
    ·intro _ w4 k77 _
     rintro _ _ rfl _ rfl _ rfl _ _ _ _ _ _ _ _
     show WL _ _ _ _ _ _ _
     have b79 := (((b4.kp k32).kp k60).kp k77)
     refine ld (vs ca cb.length cc) wN isAgg_22 b79 ?_
     exact f1
    ·intro _ w4 k80 _
     rintro _ _ _ _ _ _ _ _ _ _ _ _
     show WL _ _ _ _ _ _ _
     refine mw (vp g 0) ?_
     exact f1
    ·intro _ w4 k82 _
     rintro _ _ _ _ _ _ rfl _ _ _ _ _ _
     show WL _ _ _ _ _ _ _
     refine pu (vp g 0) wN ?_
     exact f1
    ·intro _ w4 k84 _
     rintro _ _ _ _ _ _ rfl _ rfl _ _ _ _ _
     show WL _ _ _ _ _ _ _
     refine pu (vp g 1) wN ?_
     exact f1
    ·intro _ w4 k86 _
     rintro _ _ _ _ _ _ rfl _ rfl _ rfl _ _ _ _
     show WL _ _ _ _ _ _ _
     have b88 := (((b4.kp k32).kp k60).kp k86)
     refine ld (vi ci) wN isAgg_3 b88 ?_
     exact f1
    ·intro _ w4 k89 _
     have m90 := ChG.extk m61 k89
     rintro _ _ rfl _ rfl _ rfl _ rfl _ rfl _ rfl _ rfl _ rfl _ _ _
     show WL _ _ _ _ _ _ _
     refine ix wN ci slTy_22 (Rd.chP hcr m90 hcn) ?_
     exact f1
    ·intro _ w4 k93 _
     have m94 := ChG.extk m61 k93
     rintro _ _ rfl _ rfl _ rfl _ rfl _ rfl _ rfl _ rfl _ rfl _ rfl _ _
     show WL _ _ _ _ _ _ _
     refine eb (x := cb) ((ci).toNat) wN isAgg_5 (Rd.chP hcr m94 hcn) ?_
     exact f1
    ·intro _ w4 k97 _
     rintro _ _ rfl _ rfl _ rfl _ rfl _ rfl _ rfl _ rfl _ rfl _ rfl _ rfl _
     show WL _ _ _ _ _ _ _
     refine ar ((cb.getD (ci).toNat 0).toNat : Int) wN ?_
     exact f1
   ·intro _ w4 k101
    have m102 := ChG.extk m61 k101
    rintro _ rfl _ rfl _ rfl _ rfl _ rfl _ rfl _ rfl _ rfl _ rfl _ rfl _ rfl _ rfl
    show WL _ _ _ _ _ _ _
    refine wl_arb (IntKind.i64.wrap (((xorA (ab2 / (2 : Int) ^ ((33 : Int)).toNat) (ab2 / (2 : Int) ^ ((47 : Int)).toNat)) % 256) + ((cb.getD (ci).toNat 0).toNat : Int))) wN rfl rfl (by kernel_rfl) ?_
    intro ab105
    refine wl_and ab105 255 256 8 wN rfl rfl (by decide) (by decide) (by decide) (by kernel_rfl) ?_
    refine aw (vi (ab105 % 256)) ?_
    refine wl_nil <| wq_then <| wc_region ?_
    refine mw (vp g 0) ?_
    refine mw (vp g 0) ?_
    refine pu (vp g 0) wN ?_
    refine pu (vp g 1) wN ?_
    have b106 := (((b4.kp k32).kp k60).kp k101)
    refine ld (vi ci) wN isAgg_3 b106 ?_
    refine ar (ci + 1) wN ?_
    refine pu (vp g 0) wN ?_
    refine pu (vp g 1) wN ?_
    refine st (vi (ci + 1)) [(vi (ci + 1))] [(vs ca cb.length cc), (vi (ci + 1)), (vi ab2)] wN sizeOf_3 b106 ?_
    intro w5 k107 b108 z109
    have m110 := ChG.ext m102 k107 (fun k hk => .inl hk)
    refine nx ?_
    refine mw (vi (ab105 % 256)) ?_
    refine aw (vi (ab105 % 256)) ?_
    refine n3 ?_
    refine rt (vi (ab105 % 256)) ?_
    exact ⟨(ab105 % 256), m110, ⟨_, _, b108, (Rd.chP hcr m110 hcn), hcl, (by omega), hcn⟩, rfl, (by omega)⟩

theorem C_spec_l1Below (w0 : World) (g : Nat) (ca : Option Addr) (cc : Nat) (cb : List UInt8) (r_c : CurX w0 g 138 ca cc cb) (x_n : Int)  : Fn Try.prog 65 #[(vp g 0), (vi x_n)] w0 (fun v w' => ∃ x : (Int), Ch (fun k => k = g) w0 w' ∧ CurX w' g 138 ca cc cb ∧ O_3 w' w0.heap.size v x ∧ (0 ≤ x ∧ (x < x_n ∨ (x_n ≤ 0 ∧ x = 0)))) := by
 obtain ⟨ci, chh, hcb, hcr, hcl, hci, hcn⟩ := r_c
 have hgl := Blk.lt hcb
 refine fn_ofS (n := 31) [(vp g 0), (vi x_n)] Try.func65 rfl rfl ?_
 refine sr ?_
 refine aw (vi 0) ?_
 refine n4 ?_
 refine mw (vi x_n) ?_
 refine pu (vb (decide (x_n ≤ 0))) wN ?_
 refine n2 ?_
 rcases bt (decide (x_n ≤ 0)) with h1 | h1
 ·have q2 := of_decide_eq_true h1
  refine ct h1 ?_
  refine sr ?_
  refine aw (vi 0) ?_
  refine n1 ?_
  refine rt (vi 0) ?_
  exact ⟨0, (Ch.refl (fun k => k = g) w0), ⟨_, _, hcb, hcr, hcl, (by omega), hcn⟩, rfl, (by omega)⟩
 have q3 := of_decide_eq_false h1
 refine cf h1 ?_
 refine y2 ?_
 refine mw (vi x_n) ?_
 refine pu (vb (decide (x_n ≤ 256))) wN ?_
 refine n2 ?_
 rcases bt (decide (x_n ≤ 256)) with h4 | h4
 ·have q5 := of_decide_eq_true h4
  refine ct h4 ?_
  refine sr ?_
  refine mw (vp g 0) ?_
  refine cl wN (C_spec_l1Byte w0 g ca cc cb ⟨_, _, hcb, hcr, hcl, (by omega), hcn⟩) ?_
  rintro _ w1 ⟨x7, k6, ⟨i9, h10, b11, r12, l13, p14, n15⟩, rfl, q8⟩
  have m16 := ChG.ext (Ch.refl (fun k => k = g) w0) k6 (fun k hk => .inl hk)
  refine mw (vi x_n) ?_
  refine wl_remv (x7) x_n wN rfl rfl rfl rfl rfl (by omega) (by omega) ?_
  have q17 := rem_b (a := (x7)) (m := x_n) (by omega)
  refine aw (vi ((x7) % x_n)) ?_
  refine n1 ?_
  refine rt (vi ((x7) % x_n)) ?_
  exact ⟨((x7) % x_n), m16, ⟨_, _, b11, (Rd.chP hcr m16 hcn), hcl, (by omega), hcn⟩, rfl, (by omega)⟩
 have q18 := of_decide_eq_false h4
 refine cf h4 ?_
 refine y1 ?_
 refine mw (vp g 0) ?_
 refine cl wN (C_spec_l1Byte w0 g ca cc cb ⟨_, _, hcb, hcr, hcl, (by omega), hcn⟩) ?_
 rintro _ w1 ⟨x20, k19, ⟨i22, h23, b24, r25, l26, p27, n28⟩, rfl, q21⟩
 have m29 := ChG.ext (Ch.refl (fun k => k = g) w0) k19 (fun k hk => .inl hk)
 refine aw (vi (x20)) ?_
 refine nx ?_
 refine mw (vp g 0) ?_
 refine cl wN (C_spec_l1Byte w1 g ca cc cb ⟨_, _, b24, (Rd.chP hcr m29 hcn), hcl, (by omega), hcn⟩) ?_
 rintro _ w2 ⟨x31, k30, ⟨i33, h34, b35, r36, l37, p38, n39⟩, rfl, q32⟩
 have m40 := ChG.ext m29 k30 (fun k hk => .inl hk)
 refine aw (vi (x31)) ?_
 refine nx ?_
 refine mw (vp g 0) ?_
 refine cl wN (C_spec_l1Byte w2 g ca cc cb ⟨_, _, b35, (Rd.chP hcr m40 hcn), hcl, (by omega), hcn⟩) ?_
 rintro _ w3 ⟨x42, k41, ⟨i44, h45, b46, r47, l48, p49, n50⟩, rfl, q43⟩
 have m51 := ChG.ext m40 k41 (fun k hk => .inl hk)
 refine aw (vi (x42)) ?_
 refine nx ?_
 refine mw (vi (x20)) ?_
 refine ar ((x20) * 65536) wN ?_
 refine mw (vi (x31)) ?_
 refine ar ((x31) * 256) wN ?_
 refine ar (((x20) * 65536) + ((x31) * 256)) wN ?_
 refine mw (vi (x42)) ?_
 refine ar ((((x20) * 65536) + ((x31) * 256)) + (x42)) wN ?_
 refine mw (vi x_n) ?_
 refine wl_remv ((((x20) * 65536) + ((x31) * 256)) + (x42)) x_n wN rfl rfl rfl rfl rfl (by omega) (by omega) ?_
 have q52 := rem_b (a := ((((x20) * 65536) + ((x31) * 256)) + (x42))) (m := x_n) (by omega)
 refine aw (vi (((((x20) * 65536) + ((x31) * 256)) + (x42)) % x_n)) ?_
 refine n3 ?_
 refine rt (vi (((((x20) * 65536) + ((x31) * 256)) + (x42)) % x_n)) ?_
 exact ⟨(((((x20) * 65536) + ((x31) * 256)) + (x42)) % x_n), m51, ⟨_, _, b46, (Rd.chP hcr m51 hcn), hcl, (by omega), hcn⟩, rfl, (by omega)⟩

def F_spec_l1In (x_x : Int) (x_least : Int) (x_most : Int) : (Bool) := bif (decide (x_least ≤ x_x)) then (decide (x_x ≤ x_most)) else (false)
theorem C_spec_l1In (w0 : World) (x_x : Int) (x_least : Int) (x_most : Int)  : Fn Try.prog 75 #[(vi x_x), (vi x_least), (vi x_most)] w0 (fun v w' => Keep w0 w' ∧ O_4 w' w0.heap.size v (F_spec_l1In x_x x_least x_most)) := by
 refine fn_ofS (n := 15) [(vi x_x), (vi x_least), (vi x_most)] Try.func75 rfl rfl ?_
 refine sr ?_
 refine aw (vb false) ?_
 refine nx ?_
 refine mw (vi x_x) ?_
 refine mw (vi x_least) ?_
 refine pu (vb (decide (x_least ≤ x_x))) wN ?_
 refine mw (vb (decide (x_least ≤ x_x))) ?_
 rcases bf (decide (x_least ≤ x_x)) with h1 | h1
 ·have q4 := of_decide_eq_false h1
  iterate 3 refine sk h1 ?_
  refine pf (vb false) wN h1 ?_
  refine aw (vb false) ?_
  refine n3 ?_
  refine rt (vb false) ?_
  refine ⟨Ch.refl _ _, ?_⟩
  simp only [F_spec_l1In, h1, cond_true, cond_false]
  exact rfl
 have q2 := of_decide_eq_true h1
 refine mv (vi x_x) (wS h1) ?_
 refine mv (vi x_most) (wS h1) ?_
 refine pu (vb (decide (x_x ≤ x_most))) (wS h1) ?_
 refine pk (vb (decide (x_x ≤ x_most))) wN h1 ?_
 refine aw (vb (decide (x_x ≤ x_most))) ?_
 refine n3 ?_
 refine rt (vb (decide (x_x ≤ x_most))) ?_
 refine ⟨Ch.refl _ _, ?_⟩
 simp only [F_spec_l1In, h1, cond_true, cond_false]
 exact rfl
theorem spec_l1In_t {n a b : Int} (h : F_spec_l1In n a b = true) : a ≤ n ∧ n ≤ b := by
  unfold F_spec_l1In at h
  by_cases h1 : a ≤ n <;> simp [h1] at h
  exact ⟨h1, h⟩
theorem spec_l1In_f {n a b : Int} (h : F_spec_l1In n a b = false) : n < a ∨ b < n := by
  unfold F_spec_l1In at h
  by_cases h1 : a ≤ n <;> simp [h1] at h <;> omega

theorem zero_26 : ∀ w, (zeroValue 26).run Try.prog w = .ok (va [(vi 0), (vi 0)]) w := fun w => by kernel_rfl
theorem sizeOf_26 : ∀ w, (sizeOf 26).run Try.prog w = .ok 2 w := fun w => by kernel_rfl
theorem isAgg_26 : ∀ w, (isAgg 26).run Try.prog w = .ok true w := fun w => by kernel_rfl
def O_26 (w : World) (lo : Nat) (v : Value) (x : (PAddr)) : Prop := v = .agg #[.int .i64 x.Host, .int .i64 x.Port]
def F_spec_Near (x_i : Int) : (PAddr) := bif (F_spec_l1In x_i 0 255) then ({ Host := (167772160 + x_i), Port := (7000 + x_i) : PAddr }) else ({ Host := 0, Port := 0 : PAddr })
theorem C_spec_Near (w0 : World) (x_i : Int)  : Fn Try.prog 64 #[(vi x_i)] w0 (fun v w' => Keep w0 w' ∧ O_26 w' w0.heap.size v (F_spec_Near x_i)) := by
 refine fn_ofS (n := 12) [(vi x_i)] Try.func64 rfl rfl ?_
 refine sr ?_
 refine al [(vi 0), (vi 0)] wN zero_26 ?_
 intro g1 w1 p2 p3 k4 b5
 refine n4 ?_
 refine mw (vi x_i) ?_
 refine cl wN (C_spec_l1In w1 x_i 0 255) ?_
 rintro _ w2 ⟨k7, rfl⟩
 have m8 := ((Ch.base w0).extk k4).extk k7
 refine pu (vb (!(F_spec_l1In x_i 0 255))) wN ?_
 refine n2 ?_
 rcases bf (F_spec_l1In x_i 0 255) with h9 | h9
 ·have q17 := spec_l1In_f h9
  refine ct (congrArg not h9) ?_
  refine sr ?_
  refine pu (va [(vi 0), (vi 0)]) wN ?_
  have b18 := (b5.kp k7)
  refine sv [(vi 0), (vi 0)] wN sizeOf_26 b18 ?_
  intro w3 k19 b20 z21
  have m22 := m8.ext k19 (fun k hk => by subst hk; exact p2)
  refine n1 ?_
  refine ret_1 (.inl rfl) (va [(vi 0), (vi 0)]) rfl (rv_c [(vi 0), (vi 0)] rfl b20 isAgg_26 sizeOf_26) ?_
  refine ⟨m22.keep0, ?_⟩
  simp only [F_spec_Near, h9, cond_true, cond_false]
  exact rfl
 have q10 := spec_l1In_t h9
 refine cf (congrArg not h9) ?_
 refine y1 ?_
 refine mw (vi x_i) ?_
 refine ar (167772160 + x_i) wN ?_
 refine mw (vi x_i) ?_
 refine ar (7000 + x_i) wN ?_
 refine pu (va [(vi (167772160 + x_i)), (vi (7000 + x_i))]) wN ?_
 have b11 := (b5.kp k7)
 refine sv [(vi (167772160 + x_i)), (vi (7000 + x_i))] wN sizeOf_26 b11 ?_
 intro w3 k12 b13 z14
 have m15 := m8.ext k12 (fun k hk => by subst hk; exact p2)
 refine n3 ?_
 refine ret_1 (.inl rfl) (va [(vi (167772160 + x_i)), (vi (7000 + x_i))]) rfl (rv_c [(vi (167772160 + x_i)), (vi (7000 + x_i))] rfl b13 isAgg_26 sizeOf_26) ?_
 refine ⟨m15.keep0, ?_⟩
 simp only [F_spec_Near, h9, cond_true, cond_false]
 exact rfl

theorem slTy_77 : SlTy Try.prog 77 3 1 8 (vi 0) := slTy Try.underlying77 (by kernel_rfl) rfl rfl
def N_77 (w : World) (g : Nat) (v : Value) (x : (List Int)) : Prop := ∃ (a1 : Option Addr) (c1 : Nat), v = .slice a1 x.length c1 ∧ Rd w 1 (.slice a1 x.length c1) x.length (x.map iV) ∧ x.length ≤ 1073741824 ∧ (0 < x.length → ∀ z, a1 = some z → z.block ≠ g)
theorem C_spec_l1Int (w0 : World) (g : Nat) (ca : Option Addr) (cc : Nat) (cb : List UInt8) (r_c : CurX w0 g 138 ca cc cb) (v_x_list : Value) (x_list : List Int) (r_x_list : N_77 w0 g v_x_list x_list) (pre0 : 0 < x_list.length) : Fn Try.prog 68 #[(vp g 0), v_x_list] w0 (fun v w' => ∃ x : (Int), Ch (fun k => k = g) w0 w' ∧ CurX w' g 138 ca cc cb ∧ O_3 w' w0.heap.size v x ∧ (x ∈ x_list)) := by
 obtain ⟨ci, chh, hcb, hcr, hcl, hci, hcn⟩ := r_c
 have hgl := Blk.lt hcb
 obtain ⟨a1, c2, rfl, r3, s4, n6⟩ := r_x_list
 refine fn_ofS (n := 12) [(vp g 0), (vs a1 x_list.length c2)] Try.func68 rfl rfl ?_
 refine sr ?_
 refine aw (vi 0) ?_
 refine nx ?_
 refine mw (vs a1 x_list.length c2) ?_
 refine mw (vp g 0) ?_
 refine mw (vs a1 x_list.length c2) ?_
 refine ln wN slTy_77 r3 ?_
 refine cl wN (C_spec_l1Below w0 g ca cc cb ⟨_, _, hcb, hcr, hcl, (by omega), hcn⟩ (x_list.length : Int)) ?_
 rintro _ w1 ⟨x8, k7, ⟨i10, h11, b12, r13, l14, p15, n16⟩, rfl, q9⟩
 have m17 := ChG.ext (Ch.refl (fun k => k = g) w0) k7 (fun k hk => .inl hk)
 refine ix wN (x8) slTy_77 (Rd.chP r3 m17 n6) ?_
 refine ei (x := x_list) (((x8)).toNat) wN isAgg_3 (Rd.chP r3 m17 n6) ?_
 refine aw (vi (x_list.getD ((x8)).toNat 0)) ?_
 refine n3 ?_
 refine rt (vi (x_list.getD ((x8)).toNat 0)) ?_
 exact ⟨(x_list.getD ((x8)).toNat 0), m17, ⟨_, _, b12, (Rd.chP hcr m17 hcn), hcl, (by omega), hcn⟩, rfl, (by exact getD_memI (by omega))⟩

abbrev L_26 (x : PAddr)  : List Value := [vi x.Host, vi x.Port]
def R_26 (w : World) (v : Value) (x : (PAddr)) : Prop := v = .agg #[.int .i64 x.Host, .int .i64 x.Port]
def F_spec_AddrOk (x_a : PAddr) : (Bool) := bif (F_spec_l1In x_a.Host 0 4294967295) then ((F_spec_l1In x_a.Port 0 65535)) else (false)
theorem C_spec_AddrOk (w0 : World) (v_x_a : Value) (x_a : PAddr) (r_x_a : R_26 w0 v_x_a x_a)  : Fn Try.prog 74 #[v_x_a] w0 (fun v w' => Keep w0 w' ∧ O_4 w' w0.heap.size v (F_spec_AddrOk x_a)) := by
 obtain rfl := r_x_a
 refine fn_ofS (n := 11) [(va (L_26 x_a))] Try.func74 rfl rfl ?_
 refine sr ?_
 refine bx (L_26 x_a) wN ?_
 intro g1 w1 p2 p3 k4 b5
 refine aw (vb false) ?_
 refine nx ?_
 refine pu (vp g1 0) wN ?_
 refine ld (vi x_a.Host) wN isAgg_3 b5 ?_
 refine cl wN (C_spec_l1In w1 x_a.Host 0 4294967295) ?_
 rintro _ w2 ⟨k7, rfl⟩
 have m8 := ((Ch.base w0).extk k4).extk k7
 refine mw (vb (F_spec_l1In x_a.Host 0 4294967295)) ?_
 rcases bf (F_spec_l1In x_a.Host 0 4294967295) with h9 | h9
 ·have q15 := spec_l1In_f h9
  iterate 3 refine sk h9 ?_
  refine pf (vb false) wN h9 ?_
  refine aw (vb false) ?_
  refine n3 ?_
  refine rt (vb false) ?_
  refine ⟨m8.keep0, ?_⟩
  simp only [F_spec_AddrOk, h9, cond_true, cond_false]
  exact rfl
 have q10 := spec_l1In_t h9
 refine pu (vp g1 1) (wS h9) ?_
 have b11 := (b5.kp k7)
 refine ld (vi x_a.Port) (wS h9) isAgg_3 b11 ?_
 refine cl (wS h9) (C_spec_l1In w2 x_a.Port 0 65535) ?_
 rintro _ w3 ⟨k12, rfl⟩
 have m13 := m8.extk k12
 refine pk (vb (F_spec_l1In x_a.Port 0 65535)) wN h9 ?_
 refine aw (vb (F_spec_l1In x_a.Port 0 65535)) ?_
 refine n3 ?_
 refine rt (vb (F_spec_l1In x_a.Port 0 65535)) ?_
 refine ⟨m13.keep0, ?_⟩
 simp only [F_spec_AddrOk, h9, cond_true, cond_false]
 exact rfl

abbrev Z_33 : List Value := [(vi 0), (vi 0), (vi 0), (vi 0)]
theorem slTy_24 : SlTy Try.prog 24 33 4 32 (va Z_33) := slTy Try.underlying24 (by kernel_rfl) rfl rfl
theorem fieldAt_33_0 : ∀ a w, (Instr.fieldAt 33 (.pointer (some a)) 0).run Try.prog w = .ok (.pointer (some (a.add 0))) w := fun a w => by kernel_rfl
theorem fieldAt_33_1 : ∀ a w, (Instr.fieldAt 33 (.pointer (some a)) 1).run Try.prog w = .ok (.pointer (some (a.add 2))) w := fun a w => by kernel_rfl
theorem fieldAt_33_2 : ∀ a w, (Instr.fieldAt 33 (.pointer (some a)) 2).run Try.prog w = .ok (.pointer (some (a.add 3))) w := fun a w => by kernel_rfl
theorem guardt_26 : Try.prog.eqGuardType Try.prog.depth 26 = false := by kernel_rfl
theorem aggeq_26 (x0 y0 : Int) (x1 y1 : Int) (w : World) : (Op.equalIn 10000 26 (.agg #[.int .i64 x0, .int .i64 x1]) (.agg #[.int .i64 y0, .int .i64 y1])).run Try.prog w = .ok ((decide (x0 = y0) && decide (x1 = y1))) w := by
  rw [run_equalIn_struct w 9999 26 _ _ (by kernel_rfl) (by kernel_rfl)]
  simp [Program.fieldsOf, Op.eqFields, go_sem, Try.underlying3, Try.underlying26]
  by_cases h0 : x0 = y0 <;> by_cases h1 : x1 = y1 <;> simp [*]
def R_24 (w : World) (v : Value) (x : (List PCredit)) : Prop := ∃ (a1 : Option Addr) (c1 : Nat), v = .slice a1 x.length c1 ∧ Rd w 4 (.slice a1 x.length c1) x.length (x.flatMap enc_PCredit) ∧ x.length ≤ 1073741824
theorem mR_26 {w : World} {x : PAddr} : R_26 w (va (L_26 x)) x := rfl
def sameJ (x_l : List PCredit) (i j : Nat) : Bool := !(decide ((x_l.getD j z_PCredit).A.Host = (x_l.getD i z_PCredit).A.Host) && decide ((x_l.getD j z_PCredit).A.Port = (x_l.getD i z_PCredit).A.Port))
def goodS (x_l : List PCredit) (i : Nat) : Bool := F_spec_AddrOk (x_l.getD i z_PCredit).A && (F_spec_l1In (x_l.getD i z_PCredit).Got 0 1000000 && (F_spec_l1In (x_l.getD i z_PCredit).Sent 0 (3 * (x_l.getD i z_PCredit).Got) && allN (sameJ x_l i) i))
def sCr (x_l : List PCredit) : Bool := bif decide (8 < (x_l.length : Int)) then false else allN (goodS x_l) x_l.length
theorem C_spec_CreditsOk (w0 : World) (v_x_l : Value) (x_l : List PCredit) (r_x_l : R_24 w0 v_x_l x_l)  : Fn Try.prog 73 #[v_x_l] w0 (fun v w' => Keep w0 w' ∧ O_4 w' w0.heap.size v (sCr x_l)) := by
 obtain ⟨a1, c2, rfl, r3, s4⟩ := r_x_l
 refine fn_ofS (n := 61) [(vs a1 x_l.length c2)] Try.func73 rfl rfl ?_
 refine sr ?_
 refine aw (vb false) ?_
 refine n4 ?_
 refine mw (vs a1 x_l.length c2) ?_
 refine ln wN slTy_24 r3 ?_
 refine pu (vb (decide (8 < (x_l.length : Int)))) wN ?_
 refine n2 ?_
 rcases bt (decide (8 < (x_l.length : Int))) with h6 | h6
 ·have q7 := of_decide_eq_true h6
  refine ct h6 ?_
  refine sr ?_
  refine aw (vb false) ?_
  refine n1 ?_
  refine rt (vb false) ?_
  refine ⟨Ch.refl _ _, ?_⟩
  have hF8 : sCr x_l = false := by simp [sCr, h6]
  rw [hF8]
  exact rfl
 have q9 := of_decide_eq_false h6
 refine cf h6 ?_
 refine y2 ?_
 refine aw (vi 0) ?_
 refine wl_nil <| wq_then <| wc_block ?_
 refine wc_loopP [(0, (vs a1 x_l.length c2)), (3, (vi ((0 : Nat) : Int)))] ⟨rfl, (congrArg (Value.int .i64) (show (0 : Int) = ((0 : Nat) : Int) by omega)), trivial⟩ (fun e' w' => ∃ (k : Nat) (u10 : Env), e' = pt u10 [(0, (vs a1 x_l.length c2)), (3, (vi ((k : Nat) : Int)))] ∧ Ch (fun k => w0.heap.size ≤ k) w0 w' ∧ Ch (fun k => w0.heap.size ≤ k) w0 w' ∧ k ≤ x_l.length ∧ ∀ j, j < k → goodS x_l j = true) (fun e' _ => x_l.length - ((intOf (e' 3))).toNat) ?_ ?_
 ·exact fun u => ⟨0, u, rfl, (Ch.base w0), (Ch.refl (fun k => w0.heap.size ≤ k) w0), (by omega), (by first | (intro j hj; omega) | (have hy := allN_t (f := sameJ x_l k) (n := k) (k := j) (by assumption) (by omega); exact allN_next (by assumption) (by simp only [goodS, hy, h6]; simp; done)))⟩
 ·rintro _ w1 ⟨k, u10, rfl, m11, k12, i13, i14⟩
  refine wc_seq <| sr ?_
  refine mw (vi ((k : Nat) : Int)) ?_
  refine mw (vs a1 x_l.length c2) ?_
  refine ln wN slTy_24 (r3.from0 m11) ?_
  refine pu (vb (decide (((k : Nat) : Int) < (x_l.length : Int)))) wN ?_
  refine n2 ?_
  rcases bf (decide (((k : Nat) : Int) < (x_l.length : Int))) with h15 | h15
  ·have q267 := of_decide_eq_false h15
   refine cf h15 ?_
   refine wc_exit <| wq_then_exit <| wq_then_exit <| wq_blk_exit <| wq_then <| sr ?_
   refine aw (vb true) ?_
   refine n3 ?_
   refine rt (vb true) ?_
   refine ⟨m11.keep0, ?_⟩
   have hF268 : sCr x_l = true := by have hz := allN_t (f := goodS x_l) (n := x_l.length) (k := k) (by assumption) (by omega); simp only [sCr, h6, h15, hz]; simp
   rw [hF268]
   exact rfl
  have q16 := of_decide_eq_true h15
  refine ct h15 ?_
  refine wc_skip <| wq_then <| wc_seq <| wc_block <| wc_seq <| wc_seq ?_
  rcases bf (F_spec_AddrOk ((x_l.getD k z_PCredit).A)) with h19 | h19
  ·refine wc_drawT ([(14, [], [], (fun _ v _ => v = (vs a1 x_l.length c2))), (15, [], [], (fun _ v _ => v = (vi ((k : Nat) : Int)))), (16, [], [0, 1], (fun _ v _ => v = (ve (vs a1 x_l.length c2) ((((k : Nat) : Int)).toNat * 4)))), (17, [], [0, 1, 2], (fun _ v _ => v = (ve (vs a1 x_l.length c2) ((((k : Nat) : Int)).toNat * 4 + 0)))), (18, [], [0, 1, 2, 3], (fun _ v _ => v = (va (L_26 ((x_l.getD k z_PCredit).A))))), (19, [], [0, 1, 2, 3, 4], (fun _ v w => v = .bool (F_spec_AddrOk ((x_l.getD k z_PCredit).A)))), (20, [], [0, 1, 2, 3, 4, 5], (fun _ v _ => v = (vb (!(F_spec_AddrOk ((x_l.getD k z_PCredit).A)))))), (21, [], [0, 1, 2, 3, 4, 5, 6], (fun _ v _ => v = (vb (!(F_spec_AddrOk ((x_l.getD k z_PCredit).A)))))), (22, [], [0, 1, 2, 3, 4, 5, 6, 7], (fun _ v _ => v = U)), (23, [], [0, 1, 2, 3, 4, 5, 6, 7], (fun _ v _ => v = U)), (24, [], [0, 1, 2, 3, 4, 5, 6, 7, 8, 9], (fun _ v _ => v = U)), (25, [], [0, 1, 2, 3, 4, 5, 6, 7, 8, 9, 10], (fun _ v _ => v = U)), (26, [], [0, 1, 2, 3, 4, 5, 6, 7, 8, 9, 10, 11], (fun _ v _ => v = U)), (27, [], [0, 1, 2, 3, 4, 5, 6, 7, 8, 9, 10, 11, 12], (fun _ v _ => v = U)), (28, [], [0, 1, 2, 3, 4, 5, 6, 7, 8, 9, 10, 11, 12, 13], (fun _ v _ => v = U)), (29, [], [0, 1, 2, 3, 4, 5, 6, 7, 8, 9, 10, 11, 12, 13, 14], (fun _ v _ => v = (vb true))), (30, [], [0, 1, 2, 3, 4, 5, 6, 7, 8, 9, 10, 11, 12, 13, 14, 15], (fun _ v _ => v = (vb true))), (31, [], [0, 1, 2, 3, 4, 5, 6, 7, 8, 9, 10, 11, 12, 13, 14, 15, 16], (fun _ v _ => v = U)), (32, [], [0, 1, 2, 3, 4, 5, 6, 7, 8, 9, 10, 11, 12, 13, 14, 15, 16], (fun _ v _ => v = U)), (33, [], [0, 1, 2, 3, 4, 5, 6, 7, 8, 9, 10, 11, 12, 13, 14, 15, 16, 17, 18], (fun _ v _ => v = U)), (34, [], [0, 1, 2, 3, 4, 5, 6, 7, 8, 9, 10, 11, 12, 13, 14, 15, 16, 17, 18, 19], (fun _ v _ => v = U)), (35, [], [0, 1, 2, 3, 4, 5, 6, 7, 8, 9, 10, 11, 12, 13, 14, 15, 16, 17, 18, 19, 20], (fun _ v _ => v = U)), (36, [], [0, 1, 2, 3, 4, 5, 6, 7, 8, 9, 10, 11, 12, 13, 14, 15, 16], (fun _ v _ => v = U)), (37, [], [0, 1, 2, 3, 4, 5, 6, 7, 8, 9, 10, 11, 12, 13, 14, 15, 16], (fun _ v _ => v = U)), (38, [], [0, 1, 2, 3, 4, 5, 6, 7, 8, 9, 10, 11, 12, 13, 14, 15, 16, 22, 23], (fun _ v _ => v = U)), (39, [], [0, 1, 2, 3, 4, 5, 6, 7, 8, 9, 10, 11, 12, 13, 14, 15, 16, 22, 23, 24], (fun _ v _ => v = U)), (40, [], [0, 1, 2, 3, 4, 5, 6, 7, 8, 9, 10, 11, 12, 13, 14, 15, 16, 22, 23, 24, 25], (fun _ v _ => v = U)), (41, [], [0, 1, 2, 3, 4, 5, 6, 7, 8, 9, 10, 11, 12, 13, 14, 15, 16, 22, 23, 24, 25, 26], (fun _ v _ => v = U))] : GV) (fun _ w' => Keep w1 w') [] mixed rfl (by kernel_rfl) (by kernel_rfl) ?_ (fun _ _ h => h) (fun _ _ _ _ h _ k => h.trans k) trivial ?_ ?_ ?_
   ·exact ⟨hV, hE, ⟨hV, hE, ⟨hV, hE, ⟨hV, hE, ⟨hV, hE, ⟨hV, hE, ⟨hV, hE, ⟨hV, hE, ⟨hV, hE, ⟨hV, hE, ⟨hV, hE, ⟨hV, hE, ⟨hV, hE, ⟨hV, hE, ⟨hV, hE, ⟨hV, hE, ⟨hV, hE, ⟨hV, hE, ⟨hV, hE, ⟨hV, hE, ⟨hV, hE, ⟨hV, hE, ⟨hV, hE, ⟨hV, hE, ⟨hV, hE, ⟨hV, hE, ⟨hV, hE, ⟨hV, hE, trivial⟩⟩⟩⟩⟩⟩⟩⟩⟩⟩⟩⟩⟩⟩⟩⟩⟩⟩⟩⟩⟩⟩⟩⟩⟩⟩⟩⟩
   ·exact trivial
   ·refine ⟨?_, ⟨?_, ⟨?_, ⟨?_, ⟨?_, ⟨?_, ⟨?_, ⟨?_, ⟨?_, ⟨?_, ⟨?_, ⟨?_, ⟨?_, ⟨?_, ⟨?_, ⟨?_, ⟨?_, ⟨?_, ⟨?_, ⟨?_, ⟨?_, ⟨?_, ⟨?_, ⟨?_, ⟨?_, ⟨?_, ⟨?_, ⟨?_, trivial⟩⟩⟩⟩⟩⟩⟩⟩⟩⟩⟩⟩⟩⟩⟩⟩⟩⟩⟩⟩⟩⟩⟩⟩⟩⟩⟩⟩
    ·intro _ w2 k206 _
     rintro _ _ _ _ _ _ _ _ _ _ _ _ _ _ _ _ _ _ _ _ _ _ _ _ _ _ _ _
     show WL _ _ _ _ _ _ _
     refine mw (vs a1 x_l.length c2) ?_
     exact f1
    ·intro _ w2 k208 _
     rintro _ _ _ _ _ _ _ _ _ _ _ _ _ _ _ _ _ _ _ _ _ _ _ _ _ _ _ _
     show WL _ _ _ _ _ _ _
     refine mw (vi ((k : Nat) : Int)) ?_
     exact f1
    ·intro _ w2 k210 _
     have m211 := m11.extk k210
     rintro _ rfl _ rfl _ _ _ _ _ _ _ _ _ _ _ _ _ _ _ _ _ _ _ _ _ _ _ _ _ _
     show WL _ _ _ _ _ _ _
     refine ix wN ((k : Nat) : Int) slTy_24 (r3.from0 m211) ?_
     exact f1
    ·intro _ w2 k212 _
     have m213 := m11.extk k212
     rintro _ rfl _ rfl _ rfl _ _ _ _ _ _ _ _ _ _ _ _ _ _ _ _ _ _ _ _ _ _ _ _ _
     show WL _ _ _ _ _ _ _
     refine wl_fieldE wN rfl rfl rfl fieldAt_33_0 rfl (r3.from0 m213) (by omega) ?_
     exact f1
    ·intro _ w2 k214 _
     have m215 := m11.extk k214
     rintro _ rfl _ rfl _ rfl _ rfl _ _ _ _ _ _ _ _ _ _ _ _ _ _ _ _ _ _ _ _ _ _ _ _
     show WL _ _ _ _ _ _ _
     refine wl_loadEN [(vi (((x_l.getD k z_PCredit).A).Host)), (vi (((x_l.getD k z_PCredit).A).Port))] wN rfl rfl rfl rfl isAgg_26 sizeOf_26 (r3.from0 m215) (by first | omega | (simp only [List.length_cons, List.length_nil, List.length_replicate, List.length_append, List.length_take, List.length_set, List.length_map]; omega)) ((rows_part (off := 0) (n := 2) enc_PCredit_len z_PCredit (by first | rfl | simp | omega) (by decide) (by first | omega | (simp only [List.length_cons, List.length_nil, List.length_replicate, List.length_append, List.length_take, List.length_set, List.length_map]; omega))).trans rfl) ?_
     exact f1
    ·intro _ w2 k216 _
     rintro _ rfl _ rfl _ rfl _ rfl _ rfl _ _ _ _ _ _ _ _ _ _ _ _ _ _ _ _ _ _ _ _ _ _ _
     show WL _ _ _ _ _ _ _
     refine cl wN (C_spec_AddrOk w2 _ ((x_l.getD k z_PCredit).A) (mR_26)) ?_
     rintro _ w3 ⟨k218, rfl⟩
     exact wl_finT k218 rfl
    ·intro _ w2 k220 _
     rintro _ rfl _ rfl _ rfl _ rfl _ rfl _ rfl _ _ _ _ _ _ _ _ _ _ _ _ _ _ _ _ _ _ _ _ _ _
     show WL _ _ _ _ _ _ _
     refine pu (vb (!(F_spec_AddrOk ((x_l.getD k z_PCredit).A)))) wN ?_
     exact f1
    ·intro _ w2 k222 _
     rintro _ rfl _ rfl _ rfl _ rfl _ rfl _ rfl _ rfl _ _ _ _ _ _ _ _ _ _ _ _ _ _ _ _ _ _ _ _ _
     show WL _ _ _ _ _ _ _
     refine mw (vb (!(F_spec_AddrOk ((x_l.getD k z_PCredit).A)))) ?_
     exact f1
    ·intro _ w2 k224 _
     rintro _ rfl _ rfl _ rfl _ rfl _ rfl _ rfl _ rfl _ rfl _ _ _ _ _ _ _ _ _ _ _ _ _ _ _ _ _ _ _ _
     show WL _ _ _ _ _ _ _
     refine sk (congrArg not h19) ?_
     exact f1
    ·intro _ w2 k226 _
     rintro _ rfl _ rfl _ rfl _ rfl _ rfl _ rfl _ rfl _ rfl _ _ _ _ _ _ _ _ _ _ _ _ _ _ _ _ _ _ _ _
     show WL _ _ _ _ _ _ _
     refine sk (congrArg not h19) ?_
     exact f1
    ·intro _ w2 k228 _
     rintro _ rfl _ rfl _ rfl _ rfl _ rfl _ rfl _ rfl _ rfl _ rfl _ rfl _ _ _ _ _ _ _ _ _ _ _ _ _ _ _ _ _ _
     show WL _ _ _ _ _ _ _
     refine sk (congrArg not h19) ?_
     exact f1
    ·intro _ w2 k230 _
     rintro _ rfl _ rfl _ rfl _ rfl _ rfl _ rfl _ rfl _ rfl _ rfl _ rfl _ rfl _ _ _ _ _ _ _ _ _ _ _ _ _ _ _ _ _
     show WL _ _ _ _ _ _ _
     refine sk (congrArg not h19) ?_
     exact f1
    ·intro _ w2 k232 _
     rintro _ rfl _ rfl _ rfl _ rfl _ rfl _ rfl _ rfl _ rfl _ rfl _ rfl _ rfl _ rfl _ _ _ _ _ _ _ _ _ _ _ _ _ _ _ _
     show WL _ _ _ _ _ _ _
     refine sk (congrArg not h19) ?_
     exact f1
    ·intro _ w2 k234 _
     rintro _ rfl _ rfl _ rfl _ rfl _ rfl _ rfl _ rfl _ rfl _ rfl _ rfl _ rfl _ rfl _ rfl _ _ _ _ _ _ _ _ _ _ _ _ _ _ _
     show WL _ _ _ _ _ _ _
     refine sk (congrArg not h19) ?_
     exact f1
    ·intro _ w2 k236 _
     rintro _ rfl _ rfl _ rfl _ rfl _ rfl _ rfl _ rfl _ rfl _ rfl _ rfl _ rfl _ rfl _ rfl _ rfl _ _ _ _ _ _ _ _ _ _ _ _ _ _
     show WL _ _ _ _ _ _ _
     refine sk (congrArg not h19) ?_
     exact f1
    ·intro _ w2 k238 _
     rintro _ rfl _ rfl _ rfl _ rfl _ rfl _ rfl _ rfl _ rfl _ rfl _ rfl _ rfl _ rfl _ rfl _ rfl _ rfl _ _ _ _ _ _ _ _ _ _ _ _ _
     show WL _ _ _ _ _ _ _
     refine pk (vb true) wN (congrArg not h19) ?_
     exact f1
    ·intro _ w2 k240 _
     rintro _ rfl _ rfl _ rfl _ rfl _ rfl _ rfl _ rfl _ rfl _ rfl _ rfl _ rfl _ rfl _ rfl _ rfl _ rfl _ rfl _ _ _ _ _ _ _ _ _ _ _ _
     show WL _ _ _ _ _ _ _
     refine mw (vb true) ?_
     exact f1
    ·intro _ w2 k242 _
     rintro _ rfl _ rfl _ rfl _ rfl _ rfl _ rfl _ rfl _ rfl _ rfl _ rfl _ rfl _ rfl _ rfl _ rfl _ rfl _ rfl _ rfl _ _ _ _ _ _ _ _ _ _ _
     show WL _ _ _ _ _ _ _
     refine sk T1 ?_
     exact f1
    ·intro _ w2 k244 _
     rintro _ rfl _ rfl _ rfl _ rfl _ rfl _ rfl _ rfl _ rfl _ rfl _ rfl _ rfl _ rfl _ rfl _ rfl _ rfl _ rfl _ rfl _ _ _ _ _ _ _ _ _ _ _
     show WL _ _ _ _ _ _ _
     refine sk T1 ?_
     exact f1
    ·intro _ w2 k246 _
     rintro _ rfl _ rfl _ rfl _ rfl _ rfl _ rfl _ rfl _ rfl _ rfl _ rfl _ rfl _ rfl _ rfl _ rfl _ rfl _ rfl _ rfl _ rfl _ rfl _ _ _ _ _ _ _ _ _
     show WL _ _ _ _ _ _ _
     refine sk T1 ?_
     exact f1
    ·intro _ w2 k248 _
     rintro _ rfl _ rfl _ rfl _ rfl _ rfl _ rfl _ rfl _ rfl _ rfl _ rfl _ rfl _ rfl _ rfl _ rfl _ rfl _ rfl _ rfl _ rfl _ rfl _ rfl _ _ _ _ _ _ _ _
     show WL _ _ _ _ _ _ _
     refine sk T1 ?_
     exact f1
    ·intro _ w2 k250 _
     rintro _ rfl _ rfl _ rfl _ rfl _ rfl _ rfl _ rfl _ rfl _ rfl _ rfl _ rfl _ rfl _ rfl _ rfl _ rfl _ rfl _ rfl _ rfl _ rfl _ rfl _ rfl _ _ _ _ _ _ _
     show WL _ _ _ _ _ _ _
     refine sk T1 ?_
     exact f1
    ·intro _ w2 k252 _
     rintro _ rfl _ rfl _ rfl _ rfl _ rfl _ rfl _ rfl _ rfl _ rfl _ rfl _ rfl _ rfl _ rfl _ rfl _ rfl _ rfl _ rfl _ _ _ _ _ _ _ _ _ _ _
     show WL _ _ _ _ _ _ _
     refine sk T1 ?_
     exact f1
    ·intro _ w2 k254 _
     rintro _ rfl _ rfl _ rfl _ rfl _ rfl _ rfl _ rfl _ rfl _ rfl _ rfl _ rfl _ rfl _ rfl _ rfl _ rfl _ rfl _ rfl _ _ _ _ _ _ _ _ _ _ _
     show WL _ _ _ _ _ _ _
     refine sk T1 ?_
     exact f1
    ·intro _ w2 k256 _
     rintro _ rfl _ rfl _ rfl _ rfl _ rfl _ rfl _ rfl _ rfl _ rfl _ rfl _ rfl _ rfl _ rfl _ rfl _ rfl _ rfl _ rfl _ _ _ _ _ _ rfl _ rfl _ _ _ _
     show WL _ _ _ _ _ _ _
     refine sk T1 ?_
     exact f1
    ·intro _ w2 k258 _
     rintro _ rfl _ rfl _ rfl _ rfl _ rfl _ rfl _ rfl _ rfl _ rfl _ rfl _ rfl _ rfl _ rfl _ rfl _ rfl _ rfl _ rfl _ _ _ _ _ _ rfl _ rfl _ rfl _ _ _
     show WL _ _ _ _ _ _ _
     refine sk T1 ?_
     exact f1
    ·intro _ w2 k260 _
     rintro _ rfl _ rfl _ rfl _ rfl _ rfl _ rfl _ rfl _ rfl _ rfl _ rfl _ rfl _ rfl _ rfl _ rfl _ rfl _ rfl _ rfl _ _ _ _ _ _ rfl _ rfl _ rfl _ rfl _ _
     show WL _ _ _ _ _ _ _
     refine sk T1 ?_
     exact f1
    ·intro _ w2 k262 _
     rintro _ rfl _ rfl _ rfl _ rfl _ rfl _ rfl _ rfl _ rfl _ rfl _ rfl _ rfl _ rfl _ rfl _ rfl _ rfl _ rfl _ rfl _ _ _ _ _ _ rfl _ rfl _ rfl _ rfl _ rfl _
     show WL _ _ _ _ _ _ _
     refine sk T1 ?_
     exact f1
   ·intro _ w2 k264
    have m265 := m11.extk k264
    rintro _ rfl _ rfl _ rfl _ rfl _ rfl _ rfl _ rfl _ rfl _ rfl _ rfl _ rfl _ rfl _ rfl _ rfl _ rfl _ rfl _ rfl _ rfl _ rfl _ rfl _ rfl _ rfl _ rfl _ rfl _ rfl _ rfl _ rfl _ rfl
    show WL _ _ _ _ _ _ _
    iterate 2 refine sk (Eq.refl true) ?_
    refine pk (vb true) wN (Eq.refl true) ?_
    refine n2 ?_
    refine ct (Eq.refl true) ?_
    refine sr ?_
    refine aw (vb false) ?_
    refine wl_nil <| wq_then <| wc_ret <| wq_then_ret <| wq_blk_ret <| wq_then_ret <| wq_then_ret <| wq_blk_ret <| wq_then_ret ?_
    refine rt (vb false) ?_
    refine ⟨m265.keep0, ?_⟩
    have hF266 : sCr x_l = false := by have hz := allN_f (f := goodS x_l) (n := x_l.length) (k := k) (by omega) (by simp only [goodS, h6, h15, h19]; simp); simp only [sCr, h6, h15, h19, hz]; simp
    rw [hF266]
    exact rfl
  rcases bf (F_spec_l1In ((x_l.getD k z_PCredit).Got) 0 1000000) with h25 | h25
  ·have q135 := spec_l1In_f h25
   refine wc_drawT ([(14, [], [], (fun _ v _ => v = (vs a1 x_l.length c2))), (15, [], [], (fun _ v _ => v = (vi ((k : Nat) : Int)))), (16, [], [0, 1], (fun _ v _ => v = (ve (vs a1 x_l.length c2) ((((k : Nat) : Int)).toNat * 4)))), (17, [], [0, 1, 2], (fun _ v _ => v = (ve (vs a1 x_l.length c2) ((((k : Nat) : Int)).toNat * 4 + 0)))), (18, [], [0, 1, 2, 3], (fun _ v _ => v = (va (L_26 ((x_l.getD k z_PCredit).A))))), (19, [], [0, 1, 2, 3, 4], (fun _ v w => v = .bool (F_spec_AddrOk ((x_l.getD k z_PCredit).A)))), (20, [], [0, 1, 2, 3, 4, 5], (fun _ v _ => v = (vb (!(F_spec_AddrOk ((x_l.getD k z_PCredit).A)))))), (21, [], [0, 1, 2, 3, 4, 5, 6], (fun _ v _ => v = (vb (!(F_spec_AddrOk ((x_l.getD k z_PCredit).A)))))), (22, [], [0, 1, 2, 3, 4, 5, 6, 7], (fun _ v _ => v = (vs a1 x_l.length c2))), (23, [], [0, 1, 2, 3, 4, 5, 6, 7], (fun _ v _ => v = (vi ((k : Nat) : Int)))), (24, [], [0, 1, 2, 3, 4, 5, 6, 7, 8, 9], (fun _ v _ => v = (ve (vs a1 x_l.length c2) ((((k : Nat) : Int)).toNat * 4)))), (25, [], [0, 1, 2, 3, 4, 5, 6, 7, 8, 9, 10], (fun _ v _ => v = (ve (vs a1 x_l.length c2) ((((k : Nat) : Int)).toNat * 4 + 2)))), (26, [], [0, 1, 2, 3, 4, 5, 6, 7, 8, 9, 10, 11], (fun _ v _ => v = (vi ((x_l.getD k z_PCredit).Got)))), (27, [], [0, 1, 2, 3, 4, 5, 6, 7, 8, 9, 10, 11, 12], (fun _ v w => v = .bool (F_spec_l1In ((x_l.getD k z_PCredit).Got) 0 1000000))), (28, [], [0, 1, 2, 3, 4, 5, 6, 7, 8, 9, 10, 11, 12, 13], (fun _ v _ => v = (vb (!(F_spec_l1In ((x_l.getD k z_PCredit).Got) 0 1000000))))), (29, [], [0, 1, 2, 3, 4, 5, 6, 7, 8, 9, 10, 11, 12, 13, 14], (fun _ v _ => v = (vb (!(F_spec_l1In ((x_l.getD k z_PCredit).Got) 0 1000000))))), (30, [], [0, 1, 2, 3, 4, 5, 6, 7, 8, 9, 10, 11, 12, 13, 14, 15], (fun _ v _ => v = (vb (!(F_spec_l1In ((x_l.getD k z_PCredit).Got) 0 1000000))))), (31, [], [0, 1, 2, 3, 4, 5, 6, 7, 8, 9, 10, 11, 12, 13, 14, 15, 16], (fun _ v _ => v = U)), (32, [], [0, 1, 2, 3, 4, 5, 6, 7, 8, 9, 10, 11, 12, 13, 14, 15, 16], (fun _ v _ => v = U)), (33, [], [0, 1, 2, 3, 4, 5, 6, 7, 8, 9, 10, 11, 12, 13, 14, 15, 16, 17, 18], (fun _ v _ => v = U)), (34, [], [0, 1, 2, 3, 4, 5, 6, 7, 8, 9, 10, 11, 12, 13, 14, 15, 16, 17, 18, 19], (fun _ v _ => v = U)), (35, [], [0, 1, 2, 3, 4, 5, 6, 7, 8, 9, 10, 11, 12, 13, 14, 15, 16, 17, 18, 19, 20], (fun _ v _ => v = U)), (36, [], [0, 1, 2, 3, 4, 5, 6, 7, 8, 9, 10, 11, 12, 13, 14, 15, 16], (fun _ v _ => v = U)), (37, [], [0, 1, 2, 3, 4, 5, 6, 7, 8, 9, 10, 11, 12, 13, 14, 15, 16], (fun _ v _ => v = U)), (38, [], [0, 1, 2, 3, 4, 5, 6, 7, 8, 9, 10, 11, 12, 13, 14, 15, 16, 22, 23], (fun _ v _ => v = U)), (39, [], [0, 1, 2, 3, 4, 5, 6, 7, 8, 9, 10, 11, 12, 13, 14, 15, 16, 22, 23, 24], (fun _ v _ => v = U)), (40, [], [0, 1, 2, 3, 4, 5, 6, 7, 8, 9, 10, 11, 12, 13, 14, 15, 16, 22, 23, 24, 25], (fun _ v _ => v = U)), (41, [], [0, 1, 2, 3, 4, 5, 6, 7, 8, 9, 10, 11, 12, 13, 14, 15, 16, 22, 23, 24, 25, 26], (fun _ v _ => v = U))] : GV) (fun _ w' => Keep w1 w') [] mixed rfl (by kernel_rfl) (by kernel_rfl) ?_ (fun _ _ h => h) (fun _ _ _ _ h _ k => h.trans k) trivial ?_ ?_ ?_
   ·exact ⟨hV, hE, ⟨hV, hE, ⟨hV, hE, ⟨hV, hE, ⟨hV, hE, ⟨hV, hE, ⟨hV, hE, ⟨hV, hE, ⟨hV, hE, ⟨hV, hE, ⟨hV, hE, ⟨hV, hE, ⟨hV, hE, ⟨hV, hE, ⟨hV, hE, ⟨hV, hE, ⟨hV, hE, ⟨hV, hE, ⟨hV, hE, ⟨hV, hE, ⟨hV, hE, ⟨hV, hE, ⟨hV, hE, ⟨hV, hE, ⟨hV, hE, ⟨hV, hE, ⟨hV, hE, ⟨hV, hE, trivial⟩⟩⟩⟩⟩⟩⟩⟩⟩⟩⟩⟩⟩⟩⟩⟩⟩⟩⟩⟩⟩⟩⟩⟩⟩⟩⟩⟩
   ·exact trivial
   ·refine ⟨?_, ⟨?_, ⟨?_, ⟨?_, ⟨?_, ⟨?_, ⟨?_, ⟨?_, ⟨?_, ⟨?_, ⟨?_, ⟨?_, ⟨?_, ⟨?_, ⟨?_, ⟨?_, ⟨?_, ⟨?_, ⟨?_, ⟨?_, ⟨?_, ⟨?_, ⟨?_, ⟨?_, ⟨?_, ⟨?_, ⟨?_, ⟨?_, trivial⟩⟩⟩⟩⟩⟩⟩⟩⟩⟩⟩⟩⟩⟩⟩⟩⟩⟩⟩⟩⟩⟩⟩⟩⟩⟩⟩⟩
    ·intro _ w2 k140 _
     rintro _ _ _ _ _ _ _ _ _ _ _ _ _ _ _ _ _ _ _ _ _ _ _ _ _ _ _ _
     show WL _ _ _ _ _ _ _
     refine mw (vs a1 x_l.length c2) ?_
     exact f1
    ·intro _ w2 k142 _
     rintro _ _ _ _ _ _ _ _ _ _ _ _ _ _ _ _ _ _ _ _ _ _ _ _ _ _ _ _
     show WL _ _ _ _ _ _ _
     refine mw (vi ((k : Nat) : Int)) ?_
     exact f1
    ·intro _ w2 k144 _
     have m145 := m11.extk k144
     rintro _ rfl _ rfl _ _ _ _ _ _ _ _ _ _ _ _ _ _ _ _ _ _ _ _ _ _ _ _ _ _
     show WL _ _ _ _ _ _ _
     refine ix wN ((k : Nat) : Int) slTy_24 (r3.from0 m145) ?_
     exact f1
    ·intro _ w2 k146 _
     have m147 := m11.extk k146
     rintro _ rfl _ rfl _ rfl _ _ _ _ _ _ _ _ _ _ _ _ _ _ _ _ _ _ _ _ _ _ _ _ _
     show WL _ _ _ _ _ _ _
     refine wl_fieldE wN rfl rfl rfl fieldAt_33_0 rfl (r3.from0 m147) (by omega) ?_
     exact f1
    ·intro _ w2 k148 _
     have m149 := m11.extk k148
     rintro _ rfl _ rfl _ rfl _ rfl _ _ _ _ _ _ _ _ _ _ _ _ _ _ _ _ _ _ _ _ _ _ _ _
     show WL _ _ _ _ _ _ _
     refine wl_loadEN [(vi (((x_l.getD k z_PCredit).A).Host)), (vi (((x_l.getD k z_PCredit).A).Port))] wN rfl rfl rfl rfl isAgg_26 sizeOf_26 (r3.from0 m149) (by first | omega | (simp only [List.length_cons, List.length_nil, List.length_replicate, List.length_append, List.length_take, List.length_set, List.length_map]; omega)) ((rows_part (off := 0) (n := 2) enc_PCredit_len z_PCredit (by first | rfl | simp | omega) (by decide) (by first | omega | (simp only [List.length_cons, List.length_nil, List.length_replicate, List.length_append, List.length_take, List.length_set, List.length_map]; omega))).trans rfl) ?_
     exact f1
    ·intro _ w2 k150 _
     rintro _ rfl _ rfl _ rfl _ rfl _ rfl _ _ _ _ _ _ _ _ _ _ _ _ _ _ _ _ _ _ _ _ _ _ _
     show WL _ _ _ _ _ _ _
     refine cl wN (C_spec_AddrOk w2 _ ((x_l.getD k z_PCredit).A) (mR_26)) ?_
     rintro _ w3 ⟨k152, rfl⟩
     exact wl_finT k152 rfl
    ·intro _ w2 k154 _
     rintro _ rfl _ rfl _ rfl _ rfl _ rfl _ rfl _ _ _ _ _ _ _ _ _ _ _ _ _ _ _ _ _ _ _ _ _ _
     show WL _ _ _ _ _ _ _
     refine pu (vb (!(F_spec_AddrOk ((x_l.getD k z_PCredit).A)))) wN ?_
     exact f1
    ·intro _ w2 k156 _
     rintro _ rfl _ rfl _ rfl _ rfl _ rfl _ rfl _ rfl _ _ _ _ _ _ _ _ _ _ _ _ _ _ _ _ _ _ _ _ _
     show WL _ _ _ _ _ _ _
     refine mw (vb (!(F_spec_AddrOk ((x_l.getD k z_PCredit).A)))) ?_
     exact f1
    ·intro _ w2 k158 _
     rintro _ rfl _ rfl _ rfl _ rfl _ rfl _ rfl _ rfl _ rfl _ _ _ _ _ _ _ _ _ _ _ _ _ _ _ _ _ _ _ _
     show WL _ _ _ _ _ _ _
     refine mv (vs a1 x_l.length c2) (wS (congrArg not h19)) ?_
     exact f1
    ·intro _ w2 k160 _
     rintro _ rfl _ rfl _ rfl _ rfl _ rfl _ rfl _ rfl _ rfl _ _ _ _ _ _ _ _ _ _ _ _ _ _ _ _ _ _ _ _
     show WL _ _ _ _ _ _ _
     refine mv (vi ((k : Nat) : Int)) (wS (congrArg not h19)) ?_
     exact f1
    ·intro _ w2 k162 _
     have m163 := m11.extk k162
     rintro _ rfl _ rfl _ rfl _ rfl _ rfl _ rfl _ rfl _ rfl _ rfl _ rfl _ _ _ _ _ _ _ _ _ _ _ _ _ _ _ _ _ _
     show WL _ _ _ _ _ _ _
     refine ix (wS (congrArg not h19)) ((k : Nat) : Int) slTy_24 (r3.from0 m163) ?_
     exact f1
    ·intro _ w2 k164 _
     have m165 := m11.extk k164
     rintro _ rfl _ rfl _ rfl _ rfl _ rfl _ rfl _ rfl _ rfl _ rfl _ rfl _ rfl _ _ _ _ _ _ _ _ _ _ _ _ _ _ _ _ _
     show WL _ _ _ _ _ _ _
     refine wl_fieldE (wS (congrArg not h19)) rfl rfl rfl fieldAt_33_1 rfl (r3.from0 m165) (by omega) ?_
     exact f1
    ·intro _ w2 k166 _
     have m167 := m11.extk k166
     rintro _ rfl _ rfl _ rfl _ rfl _ rfl _ rfl _ rfl _ rfl _ rfl _ rfl _ rfl _ rfl _ _ _ _ _ _ _ _ _ _ _ _ _ _ _ _
     show WL _ _ _ _ _ _ _
     refine wl_loadE (vi ((x_l.getD k z_PCredit).Got)) (wS (congrArg not h19)) rfl rfl rfl rfl isAgg_3 (r3.from0 m167) ((rows_get (i := 2) enc_PCredit_len z_PCredit (by first | rfl | simp | omega) (by decide) (by first | omega | (simp only [List.length_cons, List.length_nil, List.length_replicate, List.length_append, List.length_take, List.length_set, List.length_map]; omega))).trans rfl) ?_
     exact f1
    ·intro _ w2 k168 _
     rintro _ rfl _ rfl _ rfl _ rfl _ rfl _ rfl _ rfl _ rfl _ rfl _ rfl _ rfl _ rfl _ rfl _ _ _ _ _ _ _ _ _ _ _ _ _ _ _
     show WL _ _ _ _ _ _ _
     refine cl (wS (congrArg not h19)) (C_spec_l1In w2 ((x_l.getD k z_PCredit).Got) 0 1000000) ?_
     rintro _ w3 ⟨k170, rfl⟩
     exact wl_finT k170 rfl
    ·intro _ w2 k172 _
     rintro _ rfl _ rfl _ rfl _ rfl _ rfl _ rfl _ rfl _ rfl _ rfl _ rfl _ rfl _ rfl _ rfl _ rfl _ _ _ _ _ _ _ _ _ _ _ _ _ _
     show WL _ _ _ _ _ _ _
     refine pu (vb (!(F_spec_l1In ((x_l.getD k z_PCredit).Got) 0 1000000))) (wS (congrArg not h19)) ?_
     exact f1
    ·intro _ w2 k174 _
     rintro _ rfl _ rfl _ rfl _ rfl _ rfl _ rfl _ rfl _ rfl _ rfl _ rfl _ rfl _ rfl _ rfl _ rfl _ rfl _ _ _ _ _ _ _ _ _ _ _ _ _
     show WL _ _ _ _ _ _ _
     refine pf (vb (!(F_spec_l1In ((x_l.getD k z_PCredit).Got) 0 1000000))) wN (congrArg not h19) ?_
     exact f1
    ·intro _ w2 k176 _
     rintro _ rfl _ rfl _ rfl _ rfl _ rfl _ rfl _ rfl _ rfl _ rfl _ rfl _ rfl _ rfl _ rfl _ rfl _ rfl _ rfl _ _ _ _ _ _ _ _ _ _ _ _
     show WL _ _ _ _ _ _ _
     refine mw (vb (!(F_spec_l1In ((x_l.getD k z_PCredit).Got) 0 1000000))) ?_
     exact f1
    ·intro _ w2 k178 _
     rintro _ rfl _ rfl _ rfl _ rfl _ rfl _ rfl _ rfl _ rfl _ rfl _ rfl _ rfl _ rfl _ rfl _ rfl _ rfl _ rfl _ rfl _ _ _ _ _ _ _ _ _ _ _
     show WL _ _ _ _ _ _ _
     refine sk (congrArg not h25) ?_
     exact f1
    ·intro _ w2 k180 _
     rintro _ rfl _ rfl _ rfl _ rfl _ rfl _ rfl _ rfl _ rfl _ rfl _ rfl _ rfl _ rfl _ rfl _ rfl _ rfl _ rfl _ rfl _ _ _ _ _ _ _ _ _ _ _
     show WL _ _ _ _ _ _ _
     refine sk (congrArg not h25) ?_
     exact f1
    ·intro _ w2 k182 _
     rintro _ rfl _ rfl _ rfl _ rfl _ rfl _ rfl _ rfl _ rfl _ rfl _ rfl _ rfl _ rfl _ rfl _ rfl _ rfl _ rfl _ rfl _ rfl _ rfl _ _ _ _ _ _ _ _ _
     show WL _ _ _ _ _ _ _
     refine sk (congrArg not h25) ?_
     exact f1
    ·intro _ w2 k184 _
     rintro _ rfl _ rfl _ rfl _ rfl _ rfl _ rfl _ rfl _ rfl _ rfl _ rfl _ rfl _ rfl _ rfl _ rfl _ rfl _ rfl _ rfl _ rfl _ rfl _ rfl _ _ _ _ _ _ _ _
     show WL _ _ _ _ _ _ _
     refine sk (congrArg not h25) ?_
     exact f1
    ·intro _ w2 k186 _
     rintro _ rfl _ rfl _ rfl _ rfl _ rfl _ rfl _ rfl _ rfl _ rfl _ rfl _ rfl _ rfl _ rfl _ rfl _ rfl _ rfl _ rfl _ rfl _ rfl _ rfl _ rfl _ _ _ _ _ _ _
     show WL _ _ _ _ _ _ _
     refine sk (congrArg not h25) ?_
     exact f1
    ·intro _ w2 k188 _
     rintro _ rfl _ rfl _ rfl _ rfl _ rfl _ rfl _ rfl _ rfl _ rfl _ rfl _ rfl _ rfl _ rfl _ rfl _ rfl _ rfl _ rfl _ _ _ _ _ _ _ _ _ _ _
     show WL _ _ _ _ _ _ _
     refine sk (congrArg not h25) ?_
     exact f1
    ·intro _ w2 k190 _
     rintro _ rfl _ rfl _ rfl _ rfl _ rfl _ rfl _ rfl _ rfl _ rfl _ rfl _ rfl _ rfl _ rfl _ rfl _ rfl _ rfl _ rfl _ _ _ _ _ _ _ _ _ _ _
     show WL _ _ _ _ _ _ _
     refine sk (congrArg not h25) ?_
     exact f1
    ·intro _ w2 k192 _
     rintro _ rfl _ rfl _ rfl _ rfl _ rfl _ rfl _ rfl _ rfl _ rfl _ rfl _ rfl _ rfl _ rfl _ rfl _ rfl _ rfl _ rfl _ _ _ _ _ _ rfl _ rfl _ _ _ _
     show WL _ _ _ _ _ _ _
     refine sk (congrArg not h25) ?_
     exact f1
    ·intro _ w2 k194 _
     rintro _ rfl _ rfl _ rfl _ rfl _ rfl _ rfl _ rfl _ rfl _ rfl _ rfl _ rfl _ rfl _ rfl _ rfl _ rfl _ rfl _ rfl _ _ _ _ _ _ rfl _ rfl _ rfl _ _ _
     show WL _ _ _ _ _ _ _
     refine sk (congrArg not h25) ?_
     exact f1
    ·intro _ w2 k196 _
     rintro _ rfl _ rfl _ rfl _ rfl _ rfl _ rfl _ rfl _ rfl _ rfl _ rfl _ rfl _ rfl _ rfl _ rfl _ rfl _ rfl _ rfl _ _ _ _ _ _ rfl _ rfl _ rfl _ rfl _ _
     show WL _ _ _ _ _ _ _
     refine sk (congrArg not h25) ?_
     exact f1
    ·intro _ w2 k198 _
     rintro _ rfl _ rfl _ rfl _ rfl _ rfl _ rfl _ rfl _ rfl _ rfl _ rfl _ rfl _ rfl _ rfl _ rfl _ rfl _ rfl _ rfl _ _ _ _ _ _ rfl _ rfl _ rfl _ rfl _ rfl _
     show WL _ _ _ _ _ _ _
     refine sk (congrArg not h25) ?_
     exact f1
   ·intro _ w2 k200
    have m201 := m11.extk k200
    rintro _ rfl _ rfl _ rfl _ rfl _ rfl _ rfl _ rfl _ rfl _ rfl _ rfl _ rfl _ rfl _ rfl _ rfl _ rfl _ rfl _ rfl _ rfl _ rfl _ rfl _ rfl _ rfl _ rfl _ rfl _ rfl _ rfl _ rfl _ rfl
    show WL _ _ _ _ _ _ _
    iterate 2 refine sk (congrArg not h25) ?_
    refine pk (vb true) wN (congrArg not h25) ?_
    refine n2 ?_
    refine ct (Eq.refl true) ?_
    refine sr ?_
    refine aw (vb false) ?_
    refine wl_nil <| wq_then <| wc_ret <| wq_then_ret <| wq_blk_ret <| wq_then_ret <| wq_then_ret <| wq_blk_ret <| wq_then_ret ?_
    refine rt (vb false) ?_
    refine ⟨m201.keep0, ?_⟩
    have hF202 : sCr x_l = false := by have hz := allN_f (f := goodS x_l) (n := x_l.length) (k := k) (by omega) (by simp only [goodS, h6, h15, h19, h25]; simp); simp only [sCr, h6, h15, h19, h25, hz]; simp
    rw [hF202]
    exact rfl
  have q26 := spec_l1In_t h25
  refine wc_drawT ([(14, [], [], (fun _ v _ => v = (vs a1 x_l.length c2))), (15, [], [], (fun _ v _ => v = (vi ((k : Nat) : Int)))), (16, [], [0, 1], (fun _ v _ => v = (ve (vs a1 x_l.length c2) ((((k : Nat) : Int)).toNat * 4)))), (17, [], [0, 1, 2], (fun _ v _ => v = (ve (vs a1 x_l.length c2) ((((k : Nat) : Int)).toNat * 4 + 0)))), (18, [], [0, 1, 2, 3], (fun _ v _ => v = (va (L_26 ((x_l.getD k z_PCredit).A))))), (19, [], [0, 1, 2, 3, 4], (fun _ v w => v = .bool (F_spec_AddrOk ((x_l.getD k z_PCredit).A)))), (20, [], [0, 1, 2, 3, 4, 5], (fun _ v _ => v = (vb (!(F_spec_AddrOk ((x_l.getD k z_PCredit).A)))))), (21, [], [0, 1, 2, 3, 4, 5, 6], (fun _ v _ => v = (vb (!(F_spec_AddrOk ((x_l.getD k z_PCredit).A)))))), (22, [], [0, 1, 2, 3, 4, 5, 6, 7], (fun _ v _ => v = (vs a1 x_l.length c2))), (23, [], [0, 1, 2, 3, 4, 5, 6, 7], (fun _ v _ => v = (vi ((k : Nat) : Int)))), (24, [], [0, 1, 2, 3, 4, 5, 6, 7, 8, 9], (fun _ v _ => v = (ve (vs a1 x_l.length c2) ((((k : Nat) : Int)).toNat * 4)))), (25, [], [0, 1, 2, 3, 4, 5, 6, 7, 8, 9, 10], (fun _ v _ => v = (ve (vs a1 x_l.length c2) ((((k : Nat) : Int)).toNat * 4 + 2)))), (26, [], [0, 1, 2, 3, 4, 5, 6, 7, 8, 9, 10, 11], (fun _ v _ => v = (vi ((x_l.getD k z_PCredit).Got)))), (27, [], [0, 1, 2, 3, 4, 5, 6, 7, 8, 9, 10, 11, 12], (fun _ v w => v = .bool (F_spec_l1In ((x_l.getD k z_PCredit).Got) 0 1000000))), (28, [], [0, 1, 2, 3, 4, 5, 6, 7, 8, 9, 10, 11, 12, 13], (fun _ v _ => v = (vb (!(F_spec_l1In ((x_l.getD k z_PCredit).Got) 0 1000000))))), (29, [], [0, 1, 2, 3, 4, 5, 6, 7, 8, 9, 10, 11, 12, 13, 14], (fun _ v _ => v = (vb (!(F_spec_l1In ((x_l.getD k z_PCredit).Got) 0 1000000))))), (30, [], [0, 1, 2, 3, 4, 5, 6, 7, 8, 9, 10, 11, 12, 13, 14, 15], (fun _ v _ => v = (vb (!(F_spec_l1In ((x_l.getD k z_PCredit).Got) 0 1000000))))), (31, [], [0, 1, 2, 3, 4, 5, 6, 7, 8, 9, 10, 11, 12, 13, 14, 15, 16], (fun _ v _ => v = (vs a1 x_l.length c2))), (32, [], [0, 1, 2, 3, 4, 5, 6, 7, 8, 9, 10, 11, 12, 13, 14, 15, 16], (fun _ v _ => v = (vi ((k : Nat) : Int)))), (33, [], [0, 1, 2, 3, 4, 5, 6, 7, 8, 9, 10, 11, 12, 13, 14, 15, 16, 17, 18], (fun _ v _ => v = (ve (vs a1 x_l.length c2) ((((k : Nat) : Int)).toNat * 4)))), (34, [], [0, 1, 2, 3, 4, 5, 6, 7, 8, 9, 10, 11, 12, 13, 14, 15, 16, 17, 18, 19], (fun _ v _ => v = (ve (vs a1 x_l.length c2) ((((k : Nat) : Int)).toNat * 4 + 3)))), (35, [], [0, 1, 2, 3, 4, 5, 6, 7, 8, 9, 10, 11, 12, 13, 14, 15, 16, 17, 18, 19, 20], (fun _ v _ => v = (vi ((x_l.getD k z_PCredit).Sent)))), (36, [], [0, 1, 2, 3, 4, 5, 6, 7, 8, 9, 10, 11, 12, 13, 14, 15, 16], (fun _ v _ => v = (vs a1 x_l.length c2))), (37, [], [0, 1, 2, 3, 4, 5, 6, 7, 8, 9, 10, 11, 12, 13, 14, 15, 16], (fun _ v _ => v = (vi ((k : Nat) : Int)))), (38, [], [0, 1, 2, 3, 4, 5, 6, 7, 8, 9, 10, 11, 12, 13, 14, 15, 16, 22, 23], (fun _ v _ => v = (ve (vs a1 x_l.length c2) ((((k : Nat) : Int)).toNat * 4)))), (39, [], [0, 1, 2, 3, 4, 5, 6, 7, 8, 9, 10, 11, 12, 13, 14, 15, 16, 22, 23, 24], (fun _ v _ => v = (ve (vs a1 x_l.length c2) ((((k : Nat) : Int)).toNat * 4 + 2)))), (40, [], [0, 1, 2, 3, 4, 5, 6, 7, 8, 9, 10, 11, 12, 13, 14, 15, 16, 22, 23, 24, 25], (fun _ v _ => v = (vi ((x_l.getD k z_PCredit).Got)))), (41, [], [0, 1, 2, 3, 4, 5, 6, 7, 8, 9, 10, 11, 12, 13, 14, 15, 16, 22, 23, 24, 25, 26], (fun _ v _ => v = (vi (3 * ((x_l.getD k z_PCredit).Got)))))] : GV) (fun _ w' => Keep w1 w') [] mixed rfl (by kernel_rfl) (by kernel_rfl) ?_ (fun _ _ h => h) (fun _ _ _ _ h _ k => h.trans k) trivial ?_ ?_ ?_
  ·exact ⟨hV, hE, ⟨hV, hE, ⟨hV, hE, ⟨hV, hE, ⟨hV, hE, ⟨hV, hE, ⟨hV, hE, ⟨hV, hE, ⟨hV, hE, ⟨hV, hE, ⟨hV, hE, ⟨hV, hE, ⟨hV, hE, ⟨hV, hE, ⟨hV, hE, ⟨hV, hE, ⟨hV, hE, ⟨hV, hE, ⟨hV, hE, ⟨hV, hE, ⟨hV, hE, ⟨hV, hE, ⟨hV, hE, ⟨hV, hE, ⟨hV, hE, ⟨hV, hE, ⟨hV, hE, ⟨hV, hE, trivial⟩⟩⟩⟩⟩⟩⟩⟩⟩⟩⟩⟩⟩⟩⟩⟩⟩⟩⟩⟩⟩⟩⟩⟩⟩⟩⟩⟩
  ·exact trivial
  ·refine ⟨?_, ⟨?_, ⟨?_, ⟨?_, ⟨?_, ⟨?_, ⟨?_, ⟨?_, ⟨?_, ⟨?_, ⟨?_, ⟨?_, ⟨?_, ⟨?_, ⟨?_, ⟨?_, ⟨?_, ⟨?_, ⟨?_, ⟨?_, ⟨?_, ⟨?_, ⟨?_, ⟨?_, ⟨?_, ⟨?_, ⟨?_, ⟨?_, trivial⟩⟩⟩⟩⟩⟩⟩⟩⟩⟩⟩⟩⟩⟩⟩⟩⟩⟩⟩⟩⟩⟩⟩⟩⟩⟩⟩⟩
   ·intro _ w2 k33 _
    rintro _ _ _ _ _ _ _ _ _ _ _ _ _ _ _ _ _ _ _ _ _ _ _ _ _ _ _ _
    show WL _ _ _ _ _ _ _
    refine mw (vs a1 x_l.length c2) ?_
    exact f1
   ·intro _ w2 k35 _
    rintro _ _ _ _ _ _ _ _ _ _ _ _ _ _ _ _ _ _ _ _ _ _ _ _ _ _ _ _
    show WL _ _ _ _ _ _ _
    refine mw (vi ((k : Nat) : Int)) ?_
    exact f1
   ·intro _ w2 k37 _
    have m38 := m11.extk k37
    rintro _ rfl _ rfl _ _ _ _ _ _ _ _ _ _ _ _ _ _ _ _ _ _ _ _ _ _ _ _ _ _
    show WL _ _ _ _ _ _ _
    refine ix wN ((k : Nat) : Int) slTy_24 (r3.from0 m38) ?_
    exact f1
   ·intro _ w2 k39 _
    have m40 := m11.extk k39
    rintro _ rfl _ rfl _ rfl _ _ _ _ _ _ _ _ _ _ _ _ _ _ _ _ _ _ _ _ _ _ _ _ _
    show WL _ _ _ _ _ _ _
    refine wl_fieldE wN rfl rfl rfl fieldAt_33_0 rfl (r3.from0 m40) (by omega) ?_
    exact f1
   ·intro _ w2 k41 _
    have m42 := m11.extk k41
    rintro _ rfl _ rfl _ rfl _ rfl _ _ _ _ _ _ _ _ _ _ _ _ _ _ _ _ _ _ _ _ _ _ _ _
    show WL _ _ _ _ _ _ _
    refine wl_loadEN [(vi (((x_l.getD k z_PCredit).A).Host)), (vi (((x_l.getD k z_PCredit).A).Port))] wN rfl rfl rfl rfl isAgg_26 sizeOf_26 (r3.from0 m42) (by first | omega | (simp only [List.length_cons, List.length_nil, List.length_replicate, List.length_append, List.length_take, List.length_set, List.length_map]; omega)) ((rows_part (off := 0) (n := 2) enc_PCredit_len z_PCredit (by first | rfl | simp | omega) (by decide) (by first | omega | (simp only [List.length_cons, List.length_nil, List.length_replicate, List.length_append, List.length_take, List.length_set, List.length_map]; omega))).trans rfl) ?_
    exact f1
   ·intro _ w2 k43 _
    rintro _ rfl _ rfl _ rfl _ rfl _ rfl _ _ _ _ _ _ _ _ _ _ _ _ _ _ _ _ _ _ _ _ _ _ _
    show WL _ _ _ _ _ _ _
    refine cl wN (C_spec_AddrOk w2 _ ((x_l.getD k z_PCredit).A) (mR_26)) ?_
    rintro _ w3 ⟨k45, rfl⟩
    exact wl_finT k45 rfl
   ·intro _ w2 k47 _
    rintro _ rfl _ rfl _ rfl _ rfl _ rfl _ rfl _ _ _ _ _ _ _ _ _ _ _ _ _ _ _ _ _ _ _ _ _ _
    show WL _ _ _ _ _ _ _
    refine pu (vb (!(F_spec_AddrOk ((x_l.getD k z_PCredit).A)))) wN ?_
    exact f1
   ·intro _ w2 k49 _
    rintro _ rfl _ rfl _ rfl _ rfl _ rfl _ rfl _ rfl _ _ _ _ _ _ _ _ _ _ _ _ _ _ _ _ _ _ _ _ _
    show WL _ _ _ _ _ _ _
    refine mw (vb (!(F_spec_AddrOk ((x_l.getD k z_PCredit).A)))) ?_
    exact f1
   ·intro _ w2 k51 _
    rintro _ rfl _ rfl _ rfl _ rfl _ rfl _ rfl _ rfl _ rfl _ _ _ _ _ _ _ _ _ _ _ _ _ _ _ _ _ _ _ _
    show WL _ _ _ _ _ _ _
    refine mv (vs a1 x_l.length c2) (wS (congrArg not h19)) ?_
    exact f1
   ·intro _ w2 k53 _
    rintro _ rfl _ rfl _ rfl _ rfl _ rfl _ rfl _ rfl _ rfl _ _ _ _ _ _ _ _ _ _ _ _ _ _ _ _ _ _ _ _
    show WL _ _ _ _ _ _ _
    refine mv (vi ((k : Nat) : Int)) (wS (congrArg not h19)) ?_
    exact f1
   ·intro _ w2 k55 _
    have m56 := m11.extk k55
    rintro _ rfl _ rfl _ rfl _ rfl _ rfl _ rfl _ rfl _ rfl _ rfl _ rfl _ _ _ _ _ _ _ _ _ _ _ _ _ _ _ _ _ _
    show WL _ _ _ _ _ _ _
    refine ix (wS (congrArg not h19)) ((k : Nat) : Int) slTy_24 (r3.from0 m56) ?_
    exact f1
   ·intro _ w2 k57 _
    have m58 := m11.extk k57
    rintro _ rfl _ rfl _ rfl _ rfl _ rfl _ rfl _ rfl _ rfl _ rfl _ rfl _ rfl _ _ _ _ _ _ _ _ _ _ _ _ _ _ _ _ _
    show WL _ _ _ _ _ _ _
    refine wl_fieldE (wS (congrArg not h19)) rfl rfl rfl fieldAt_33_1 rfl (r3.from0 m58) (by omega) ?_
    exact f1
   ·intro _ w2 k59 _
    have m60 := m11.extk k59
    rintro _ rfl _ rfl _ rfl _ rfl _ rfl _ rfl _ rfl _ rfl _ rfl _ rfl _ rfl _ rfl _ _ _ _ _ _ _ _ _ _ _ _ _ _ _ _
    show WL _ _ _ _ _ _ _
    refine wl_loadE (vi ((x_l.getD k z_PCredit).Got)) (wS (congrArg not h19)) rfl rfl rfl rfl isAgg_3 (r3.from0 m60) ((rows_get (i := 2) enc_PCredit_len z_PCredit (by first | rfl | simp | omega) (by decide) (by first | omega | (simp only [List.length_cons, List.length_nil, List.length_replicate, List.length_append, List.length_take, List.length_set, List.length_map]; omega))).trans rfl) ?_
    exact f1
   ·intro _ w2 k61 _
    rintro _ rfl _ rfl _ rfl _ rfl _ rfl _ rfl _ rfl _ rfl _ rfl _ rfl _ rfl _ rfl _ rfl _ _ _ _ _ _ _ _ _ _ _ _ _ _ _
    show WL _ _ _ _ _ _ _
    refine cl (wS (congrArg not h19)) (C_spec_l1In w2 ((x_l.getD k z_PCredit).Got) 0 1000000) ?_
    rintro _ w3 ⟨k63, rfl⟩
    exact wl_finT k63 rfl
   ·intro _ w2 k65 _
    rintro _ rfl _ rfl _ rfl _ rfl _ rfl _ rfl _ rfl _ rfl _ rfl _ rfl _ rfl _ rfl _ rfl _ rfl _ _ _ _ _ _ _ _ _ _ _ _ _ _
    show WL _ _ _ _ _ _ _
    refine pu (vb (!(F_spec_l1In ((x_l.getD k z_PCredit).Got) 0 1000000))) (wS (congrArg not h19)) ?_
    exact f1
   ·intro _ w2 k67 _
    rintro _ rfl _ rfl _ rfl _ rfl _ rfl _ rfl _ rfl _ rfl _ rfl _ rfl _ rfl _ rfl _ rfl _ rfl _ rfl _ _ _ _ _ _ _ _ _ _ _ _ _
    show WL _ _ _ _ _ _ _
    refine pf (vb (!(F_spec_l1In ((x_l.getD k z_PCredit).Got) 0 1000000))) wN (congrArg not h19) ?_
    exact f1
   ·intro _ w2 k69 _
    rintro _ rfl _ rfl _ rfl _ rfl _ rfl _ rfl _ rfl _ rfl _ rfl _ rfl _ rfl _ rfl _ rfl _ rfl _ rfl _ rfl _ _ _ _ _ _ _ _ _ _ _ _
    show WL _ _ _ _ _ _ _
    refine mw (vb (!(F_spec_l1In ((x_l.getD k z_PCredit).Got) 0 1000000))) ?_
    exact f1
   ·intro _ w2 k71 _
    rintro _ rfl _ rfl _ rfl _ rfl _ rfl _ rfl _ rfl _ rfl _ rfl _ rfl _ rfl _ rfl _ rfl _ rfl _ rfl _ rfl _ rfl _ _ _ _ _ _ _ _ _ _ _
    show WL _ _ _ _ _ _ _
    refine mv (vs a1 x_l.length c2) (wS (congrArg not h25)) ?_
    exact f1
   ·intro _ w2 k73 _
    rintro _ rfl _ rfl _ rfl _ rfl _ rfl _ rfl _ rfl _ rfl _ rfl _ rfl _ rfl _ rfl _ rfl _ rfl _ rfl _ rfl _ rfl _ _ _ _ _ _ _ _ _ _ _
    show WL _ _ _ _ _ _ _
    refine mv (vi ((k : Nat) : Int)) (wS (congrArg not h25)) ?_
    exact f1
   ·intro _ w2 k75 _
    have m76 := m11.extk k75
    rintro _ rfl _ rfl _ rfl _ rfl _ rfl _ rfl _ rfl _ rfl _ rfl _ rfl _ rfl _ rfl _ rfl _ rfl _ rfl _ rfl _ rfl _ rfl _ rfl _ _ _ _ _ _ _ _ _
    show WL _ _ _ _ _ _ _
    refine ix (wS (congrArg not h25)) ((k : Nat) : Int) slTy_24 (r3.from0 m76) ?_
    exact f1
   ·intro _ w2 k77 _
    have m78 := m11.extk k77
    rintro _ rfl _ rfl _ rfl _ rfl _ rfl _ rfl _ rfl _ rfl _ rfl _ rfl _ rfl _ rfl _ rfl _ rfl _ rfl _ rfl _ rfl _ rfl _ rfl _ rfl _ _ _ _ _ _ _ _
    show WL _ _ _ _ _ _ _
    refine wl_fieldE (wS (congrArg not h25)) rfl rfl rfl fieldAt_33_2 rfl (r3.from0 m78) (by omega) ?_
    exact f1
   ·intro _ w2 k79 _
    have m80 := m11.extk k79
    rintro _ rfl _ rfl _ rfl _ rfl _ rfl _ rfl _ rfl _ rfl _ rfl _ rfl _ rfl _ rfl _ rfl _ rfl _ rfl _ rfl _ rfl _ rfl _ rfl _ rfl _ rfl _ _ _ _ _ _ _
    show WL _ _ _ _ _ _ _
    refine wl_loadE (vi ((x_l.getD k z_PCredit).Sent)) (wS (congrArg not h25)) rfl rfl rfl rfl isAgg_3 (r3.from0 m80) ((rows_get (i := 3) enc_PCredit_len z_PCredit (by first | rfl | simp | omega) (by decide) (by first | omega | (simp only [List.length_cons, List.length_nil, List.length_replicate, List.length_append, List.length_take, List.length_set, List.length_map]; omega))).trans rfl) ?_
    exact f1
   ·intro _ w2 k81 _
    rintro _ rfl _ rfl _ rfl _ rfl _ rfl _ rfl _ rfl _ rfl _ rfl _ rfl _ rfl _ rfl _ rfl _ rfl _ rfl _ rfl _ rfl _ _ _ _ _ _ _ _ _ _ _
    show WL _ _ _ _ _ _ _
    refine mv (vs a1 x_l.length c2) (wS (congrArg not h25)) ?_
    exact f1
   ·intro _ w2 k83 _
    rintro _ rfl _ rfl _ rfl _ rfl _ rfl _ rfl _ rfl _ rfl _ rfl _ rfl _ rfl _ rfl _ rfl _ rfl _ rfl _ rfl _ rfl _ _ _ _ _ _ _ _ _ _ _
    show WL _ _ _ _ _ _ _
    refine mv (vi ((k : Nat) : Int)) (wS (congrArg not h25)) ?_
    exact f1
   ·intro _ w2 k85 _
    have m86 := m11.extk k85
    rintro _ rfl _ rfl _ rfl _ rfl _ rfl _ rfl _ rfl _ rfl _ rfl _ rfl _ rfl _ rfl _ rfl _ rfl _ rfl _ rfl _ rfl _ _ _ _ _ _ rfl _ rfl _ _ _ _
    show WL _ _ _ _ _ _ _
    refine ix (wS (congrArg not h25)) ((k : Nat) : Int) slTy_24 (r3.from0 m86) ?_
    exact f1
   ·intro _ w2 k87 _
    have m88 := m11.extk k87
    rintro _ rfl _ rfl _ rfl _ rfl _ rfl _ rfl _ rfl _ rfl _ rfl _ rfl _ rfl _ rfl _ rfl _ rfl _ rfl _ rfl _ rfl _ _ _ _ _ _ rfl _ rfl _ rfl _ _ _
    show WL _ _ _ _ _ _ _
    refine wl_fieldE (wS (congrArg not h25)) rfl rfl rfl fieldAt_33_1 rfl (r3.from0 m88) (by omega) ?_
    exact f1
   ·intro _ w2 k89 _
    have m90 := m11.extk k89
    rintro _ rfl _ rfl _ rfl _ rfl _ rfl _ rfl _ rfl _ rfl _ rfl _ rfl _ rfl _ rfl _ rfl _ rfl _ rfl _ rfl _ rfl _ _ _ _ _ _ rfl _ rfl _ rfl _ rfl _ _
    show WL _ _ _ _ _ _ _
    refine wl_loadE (vi ((x_l.getD k z_PCredit).Got)) (wS (congrArg not h25)) rfl rfl rfl rfl isAgg_3 (r3.from0 m90) ((rows_get (i := 2) enc_PCredit_len z_PCredit (by first | rfl | simp | omega) (by decide) (by first | omega | (simp only [List.length_cons, List.length_nil, List.length_replicate, List.length_append, List.length_take, List.length_set, List.length_map]; omega))).trans rfl) ?_
    exact f1
   ·intro _ w2 k91 _
    rintro _ rfl _ rfl _ rfl _ rfl _ rfl _ rfl _ rfl _ rfl _ rfl _ rfl _ rfl _ rfl _ rfl _ rfl _ rfl _ rfl _ rfl _ _ _ _ _ _ rfl _ rfl _ rfl _ rfl _ rfl _
    show WL _ _ _ _ _ _ _
    refine ar (3 * ((x_l.getD k z_PCredit).Got)) (wS (congrArg not h25)) ?_
    exact f1
  ·intro _ w2 k93
   rintro _ rfl _ rfl _ rfl _ rfl _ rfl _ rfl _ rfl _ rfl _ rfl _ rfl _ rfl _ rfl _ rfl _ rfl _ rfl _ rfl _ rfl _ rfl _ rfl _ rfl _ rfl _ rfl _ rfl _ rfl _ rfl _ rfl _ rfl _ rfl
   show WL _ _ _ _ _ _ _
   refine cl (wS (congrArg not h25)) (C_spec_l1In w2 ((x_l.getD k z_PCredit).Sent) 0 (3 * ((x_l.getD k z_PCredit).Got))) ?_
   rintro _ w3 ⟨k95, rfl⟩
   have m96 := (m11.extk k93).extk k95
   refine pu (vb (!(F_spec_l1In ((x_l.getD k z_PCredit).Sent) 0 (3 * ((x_l.getD k z_PCredit).Got))))) (wS (congrArg not h25)) ?_
   refine pf (vb (!(F_spec_l1In ((x_l.getD k z_PCredit).Sent) 0 (3 * ((x_l.getD k z_PCredit).Got))))) wN (congrArg not h25) ?_
   refine n2 ?_
   rcases bf (F_spec_l1In ((x_l.getD k z_PCredit).Sent) 0 (3 * ((x_l.getD k z_PCredit).Got))) with h97 | h97
   ·have q133 := spec_l1In_f h97
    refine ct (congrArg not h97) ?_
    refine sr ?_
    refine aw (vb false) ?_
    refine wl_nil <| wq_then <| wc_ret <| wq_then_ret <| wq_blk_ret <| wq_then_ret <| wq_then_ret <| wq_blk_ret <| wq_then_ret ?_
    refine rt (vb false) ?_
    refine ⟨m96.keep0, ?_⟩
    have hF134 : sCr x_l = false := by have hz := allN_f (f := goodS x_l) (n := x_l.length) (k := k) (by omega) (by simp only [goodS, h6, h15, h19, h25, h97]; simp); simp only [sCr, h6, h15, h19, h25, h97, hz]; simp
    rw [hF134]
    exact rfl
   have q98 := spec_l1In_t h97
   refine cf (congrArg not h97) ?_
   refine y1 ?_
   refine aw (vi 0) ?_
   refine wl_nil <| wq_then <| wc_block ?_
   refine wc_loopP [(0, (vs a1 x_l.length c2)), (3, (vi ((k : Nat) : Int))), (4, (vi ((0 : Nat) : Int))), (8, (vi ((k : Nat) : Int))), (9, (vs a1 x_l.length c2)), (10, (vi (x_l.length : Int))), (11, (vb (decide (((k : Nat) : Int) < (x_l.length : Int))))), (14, (vs a1 x_l.length c2)), (15, (vi ((k : Nat) : Int))), (16, (ve (vs a1 x_l.length c2) ((((k : Nat) : Int)).toNat * 4))), (17, (ve (vs a1 x_l.length c2) ((((k : Nat) : Int)).toNat * 4 + 0))), (18, (va (L_26 ((x_l.getD k z_PCredit).A)))), (19, (vb (F_spec_AddrOk ((x_l.getD k z_PCredit).A)))), (20, (vb (!(F_spec_AddrOk ((x_l.getD k z_PCredit).A))))), (21, (vb (!(F_spec_AddrOk ((x_l.getD k z_PCredit).A))))), (22, (vs a1 x_l.length c2)), (23, (vi ((k : Nat) : Int))), (24, (ve (vs a1 x_l.length c2) ((((k : Nat) : Int)).toNat * 4))), (25, (ve (vs a1 x_l.length c2) ((((k : Nat) : Int)).toNat * 4 + 2))), (26, (vi ((x_l.getD k z_PCredit).Got))), (27, (vb (F_spec_l1In ((x_l.getD k z_PCredit).Got) 0 1000000))), (28, (vb (!(F_spec_l1In ((x_l.getD k z_PCredit).Got) 0 1000000)))), (29, (vb (!(F_spec_l1In ((x_l.getD k z_PCredit).Got) 0 1000000)))), (30, (vb (!(F_spec_l1In ((x_l.getD k z_PCredit).Got) 0 1000000)))), (31, (vs a1 x_l.length c2)), (32, (vi ((k : Nat) : Int))), (33, (ve (vs a1 x_l.length c2) ((((k : Nat) : Int)).toNat * 4))), (34, (ve (vs a1 x_l.length c2) ((((k : Nat) : Int)).toNat * 4 + 3))), (35, (vi ((x_l.getD k z_PCredit).Sent))), (36, (vs a1 x_l.length c2)), (37, (vi ((k : Nat) : Int))), (38, (ve (vs a1 x_l.length c2) ((((k : Nat) : Int)).toNat * 4))), (39, (ve (vs a1 x_l.length c2) ((((k : Nat) : Int)).toNat * 4 + 2))), (40, (vi ((x_l.getD k z_PCredit).Got))), (41, (vi (3 * ((x_l.getD k z_PCredit).Got)))), (42, (vb (F_spec_l1In ((x_l.getD k z_PCredit).Sent) 0 (3 * ((x_l.getD k z_PCredit).Got))))), (43, (vb (!(F_spec_l1In ((x_l.getD k z_PCredit).Sent) 0 (3 * ((x_l.getD k z_PCredit).Got)))))), (44, (vb (!(F_spec_l1In ((x_l.getD k z_PCredit).Sent) 0 (3 * ((x_l.getD k z_PCredit).Got))))))] ⟨rfl, rfl, (congrArg (Value.int .i64) (show (0 : Int) = ((0 : Nat) : Int) by omega)), rfl, rfl, rfl, rfl, rfl, rfl, rfl, rfl, rfl, rfl, rfl, rfl, rfl, rfl, rfl, rfl, rfl, rfl, rfl, rfl, rfl, rfl, rfl, rfl, rfl, rfl, rfl, rfl, rfl, rfl, rfl, rfl, rfl, rfl, rfl, trivial⟩ (fun e' w' => ∃ (j : Nat) (u99 : Env), e' = pt u99 [(0, (vs a1 x_l.length c2)), (3, (vi ((k : Nat) : Int))), (4, (vi ((j : Nat) : Int))), (8, (vi ((k : Nat) : Int))), (9, (vs a1 x_l.length c2)), (10, (vi (x_l.length : Int))), (11, (vb (decide (((k : Nat) : Int) < (x_l.length : Int))))), (14, (vs a1 x_l.length c2)), (15, (vi ((k : Nat) : Int))), (16, (ve (vs a1 x_l.length c2) ((((k : Nat) : Int)).toNat * 4))), (17, (ve (vs a1 x_l.length c2) ((((k : Nat) : Int)).toNat * 4 + 0))), (18, (va (L_26 ((x_l.getD k z_PCredit).A)))), (19, (vb (F_spec_AddrOk ((x_l.getD k z_PCredit).A)))), (20, (vb (!(F_spec_AddrOk ((x_l.getD k z_PCredit).A))))), (21, (vb (!(F_spec_AddrOk ((x_l.getD k z_PCredit).A))))), (22, (vs a1 x_l.length c2)), (23, (vi ((k : Nat) : Int))), (24, (ve (vs a1 x_l.length c2) ((((k : Nat) : Int)).toNat * 4))), (25, (ve (vs a1 x_l.length c2) ((((k : Nat) : Int)).toNat * 4 + 2))), (26, (vi ((x_l.getD k z_PCredit).Got))), (27, (vb (F_spec_l1In ((x_l.getD k z_PCredit).Got) 0 1000000))), (28, (vb (!(F_spec_l1In ((x_l.getD k z_PCredit).Got) 0 1000000)))), (29, (vb (!(F_spec_l1In ((x_l.getD k z_PCredit).Got) 0 1000000)))), (30, (vb (!(F_spec_l1In ((x_l.getD k z_PCredit).Got) 0 1000000)))), (31, (vs a1 x_l.length c2)), (32, (vi ((k : Nat) : Int))), (33, (ve (vs a1 x_l.length c2) ((((k : Nat) : Int)).toNat * 4))), (34, (ve (vs a1 x_l.length c2) ((((k : Nat) : Int)).toNat * 4 + 3))), (35, (vi ((x_l.getD k z_PCredit).Sent))), (36, (vs a1 x_l.length c2)), (37, (vi ((k : Nat) : Int))), (38, (ve (vs a1 x_l.length c2) ((((k : Nat) : Int)).toNat * 4))), (39, (ve (vs a1 x_l.length c2) ((((k : Nat) : Int)).toNat * 4 + 2))), (40, (vi ((x_l.getD k z_PCredit).Got))), (41, (vi (3 * ((x_l.getD k z_PCredit).Got)))), (42, (vb (F_spec_l1In ((x_l.getD k z_PCredit).Sent) 0 (3 * ((x_l.getD k z_PCredit).Got))))), (43, (vb (!(F_spec_l1In ((x_l.getD k z_PCredit).Sent) 0 (3 * ((x_l.getD k z_PCredit).Got)))))), (44, (vb (!(F_spec_l1In ((x_l.getD k z_PCredit).Sent) 0 (3 * ((x_l.getD k z_PCredit).Got))))))] ∧ Ch (fun k => w0.heap.size ≤ k) w0 w' ∧ Ch (fun k => w3.heap.size ≤ k) w3 w' ∧ j ≤ k ∧ ∀ m, m < j → sameJ x_l k m = true) (fun e' _ => k - ((intOf (e' 4))).toNat) ?_ ?_
   ·exact fun u => ⟨0, u, rfl, m96, (Ch.refl (fun k => w3.heap.size ≤ k) w3), (by omega), (by first | (intro m hm; omega) | exact allN_next (by assumption) (by simp only [sameJ, h6, h15, h19, h25, h97]; simp; done))⟩
   ·rintro _ w4 ⟨j, u99, rfl, m100, k101, i102, i103⟩
    refine wc_seq <| sr ?_
    refine mw (vi ((j : Nat) : Int)) ?_
    refine mw (vi ((k : Nat) : Int)) ?_
    refine pu (vb (decide (((j : Nat) : Int) < ((k : Nat) : Int)))) wN ?_
    refine n2 ?_
    rcases bf (decide (((j : Nat) : Int) < ((k : Nat) : Int))) with h104 | h104
    ·have q132 := of_decide_eq_false h104
     refine cf h104 ?_
     refine wc_exit <| wq_then_exit <| wq_then_exit <| wq_blk_exit <| wq_blk_normal <| wq_then <| wc_region ?_
     refine mw (vi ((k : Nat) : Int)) ?_
     refine ar (((k : Nat) : Int) + 1) wN ?_
     refine aw (vi (((k : Nat) : Int) + 1)) ?_
     refine wl_nil ?_
     refine wq_loopP (w0 := w1) [(0, (vs a1 x_l.length c2)), (3, (vi (((k + 1) : Nat) : Int)))] ?_ ?_ ?_
     · exact ⟨rfl, (congrArg (Value.int .i64) (show ((((k : Nat) : Int) + 1) : Int) = (((k + 1) : Nat) : Int) by omega)), trivial⟩
     · exact fun u => ⟨(k + 1), u, rfl, m100, (((((Ch.refl (fun k => w0.heap.size ≤ k) w0).ext k12 (fun k hk => hk)).extk k93).extk k95).ext k101 (fun k hk => Nat.le_trans (z3 k12 k93 k95) hk)), (by omega), (by first | (intro j hj; omega) | (have hy := allN_t (f := sameJ x_l k) (n := k) (k := j) (by assumption) (by omega); exact allN_next (by assumption) (by simp only [goodS, hy, h6, h15, h19, h25, h97, h104]; simp; done)))⟩
     · show x_l.length - ((((k + 1) : Nat) : Int)).toNat < x_l.length - (((k : Nat) : Int)).toNat; omega
    have q105 := of_decide_eq_true h104
    refine ct h104 ?_
    refine wc_skip <| wq_then <| wc_seq <| wc_block <| wc_seq ?_
    refine wc_drawT ([(50, [], [], (fun _ v _ => v = (vs a1 x_l.length c2))), (51, [], [], (fun _ v _ => v = (vi ((j : Nat) : Int)))), (52, [], [0, 1], (fun _ v _ => v = (ve (vs a1 x_l.length c2) ((((j : Nat) : Int)).toNat * 4)))), (53, [], [0, 1, 2], (fun _ v _ => v = (ve (vs a1 x_l.length c2) ((((j : Nat) : Int)).toNat * 4 + 0)))), (54, [], [0, 1, 2, 3], (fun _ v _ => v = (va (L_26 ((x_l.getD j z_PCredit).A))))), (55, [], [], (fun _ v _ => v = (vs a1 x_l.length c2))), (56, [], [], (fun _ v _ => v = (vi ((k : Nat) : Int)))), (57, [], [5, 6], (fun _ v _ => v = (ve (vs a1 x_l.length c2) ((((k : Nat) : Int)).toNat * 4)))), (58, [], [5, 6, 7], (fun _ v _ => v = (ve (vs a1 x_l.length c2) ((((k : Nat) : Int)).toNat * 4 + 0)))), (59, [], [5, 6, 7, 8], (fun _ v _ => v = (va (L_26 ((x_l.getD k z_PCredit).A)))))] : GV) (fun _ w' => Keep w4 w') [] mixed rfl (by kernel_rfl) (by kernel_rfl) ?_ (fun _ _ h => h) (fun _ _ _ _ h _ k => h.trans k) trivial ?_ ?_ ?_
    ·exact ⟨hV, hE, ⟨hV, hE, ⟨hV, hE, ⟨hV, hE, ⟨hV, hE, ⟨hV, hE, ⟨hV, hE, ⟨hV, hE, ⟨hV, hE, ⟨hV, hE, trivial⟩⟩⟩⟩⟩⟩⟩⟩⟩⟩
    ·exact trivial
    ·refine ⟨?_, ⟨?_, ⟨?_, ⟨?_, ⟨?_, ⟨?_, ⟨?_, ⟨?_, ⟨?_, ⟨?_, trivial⟩⟩⟩⟩⟩⟩⟩⟩⟩⟩
     ·intro _ w5 k106 _
      rintro _ _ _ _ _ _ _ _ _ _
      show WL _ _ _ _ _ _ _
      refine mw (vs a1 x_l.length c2) ?_
      exact f1
     ·intro _ w5 k108 _
      rintro _ _ _ _ _ _ _ _ _ _
      show WL _ _ _ _ _ _ _
      refine mw (vi ((j : Nat) : Int)) ?_
      exact f1
     ·intro _ w5 k110 _
      have m111 := m100.extk k110
      rintro _ rfl _ rfl _ _ _ _ _ _ _ _
      show WL _ _ _ _ _ _ _
      refine ix wN ((j : Nat) : Int) slTy_24 (r3.from0 m111) ?_
      exact f1
     ·intro _ w5 k112 _
      have m113 := m100.extk k112
      rintro _ rfl _ rfl _ rfl _ _ _ _ _ _ _
      show WL _ _ _ _ _ _ _
      refine wl_fieldE wN rfl rfl rfl fieldAt_33_0 rfl (r3.from0 m113) (by omega) ?_
      exact f1
     ·intro _ w5 k114 _
      have m115 := m100.extk k114
      rintro _ rfl _ rfl _ rfl _ rfl _ _ _ _ _ _
      show WL _ _ _ _ _ _ _
      refine wl_loadEN [(vi (((x_l.getD j z_PCredit).A).Host)), (vi (((x_l.getD j z_PCredit).A).Port))] wN rfl rfl rfl rfl isAgg_26 sizeOf_26 (r3.from0 m115) (by first | omega | (simp only [List.length_cons, List.length_nil, List.length_replicate, List.length_append, List.length_take, List.length_set, List.length_map]; omega)) ((rows_part (off := 0) (n := 2) enc_PCredit_len z_PCredit (by first | rfl | simp | omega) (by decide) (by first | omega | (simp only [List.length_cons, List.length_nil, List.length_replicate, List.length_append, List.length_take, List.length_set, List.length_map]; omega))).trans rfl) ?_
      exact f1
     ·intro _ w5 k116 _
      rintro _ _ _ _ _ _ _ _ _ _
      show WL _ _ _ _ _ _ _
      refine mw (vs a1 x_l.length c2) ?_
      exact f1
     ·intro _ w5 k118 _
      rintro _ _ _ _ _ _ _ _ _ _
      show WL _ _ _ _ _ _ _
      refine mw (vi ((k : Nat) : Int)) ?_
      exact f1
     ·intro _ w5 k120 _
      have m121 := m100.extk k120
      rintro _ _ _ _ _ _ rfl _ rfl _ _ _
      show WL _ _ _ _ _ _ _
      refine ix wN ((k : Nat) : Int) slTy_24 (r3.from0 m121) ?_
      exact f1
     ·intro _ w5 k122 _
      have m123 := m100.extk k122
      rintro _ _ _ _ _ _ rfl _ rfl _ rfl _ _
      show WL _ _ _ _ _ _ _
      refine wl_fieldE wN rfl rfl rfl fieldAt_33_0 rfl (r3.from0 m123) (by omega) ?_
      exact f1
     ·intro _ w5 k124 _
      have m125 := m100.extk k124
      rintro _ _ _ _ _ _ rfl _ rfl _ rfl _ rfl _
      show WL _ _ _ _ _ _ _
      refine wl_loadEN [(vi (((x_l.getD k z_PCredit).A).Host)), (vi (((x_l.getD k z_PCredit).A).Port))] wN rfl rfl rfl rfl isAgg_26 sizeOf_26 (r3.from0 m125) (by first | omega | (simp only [List.length_cons, List.length_nil, List.length_replicate, List.length_append, List.length_take, List.length_set, List.length_map]; omega)) ((rows_part (off := 0) (n := 2) enc_PCredit_len z_PCredit (by first | rfl | simp | omega) (by decide) (by first | omega | (simp only [List.length_cons, List.length_nil, List.length_replicate, List.length_append, List.length_take, List.length_set, List.length_map]; omega))).trans rfl) ?_
      exact f1
    ·intro _ w5 k126
     have m127 := m100.extk k126
     rintro _ rfl _ rfl _ rfl _ rfl _ rfl _ rfl _ rfl _ rfl _ rfl _ rfl
     show WL _ _ _ _ _ _ _
     refine wl_aggeq ((decide ((((x_l.getD j z_PCredit).A).Host) = (((x_l.getD k z_PCredit).A).Host)) && decide ((((x_l.getD j z_PCredit).A).Port) = (((x_l.getD k z_PCredit).A).Port)))) wN rfl rfl rfl rfl rfl guardt_26 (aggeq_26 (((x_l.getD j z_PCredit).A).Host) (((x_l.getD k z_PCredit).A).Host) (((x_l.getD j z_PCredit).A).Port) (((x_l.getD k z_PCredit).A).Port) w5) ?_
     refine n2 ?_
     rcases bt (decide ((((x_l.getD j z_PCredit).A).Host) = (((x_l.getD k z_PCredit).A).Host)) && decide ((((x_l.getD j z_PCredit).A).Port) = (((x_l.getD k z_PCredit).A).Port))) with h128 | h128
     ·refine ct h128 ?_
      refine sr ?_
      refine aw (vb false) ?_
      refine wl_nil <| wq_then <| wc_ret <| wq_blk_ret <| wq_then_ret <| wq_then_ret <| wq_blk_ret <| wq_blk_ret <| wq_then_ret <| wq_then_ret <| wq_blk_ret <| wq_then_ret ?_
      refine rt (vb false) ?_
      refine ⟨m127.keep0, ?_⟩
      have hF130 : sCr x_l = false := by have hy := allN_f (f := sameJ x_l k) (n := k) (k := j) (by omega) (by simp only [sameJ, h6, h15, h19, h25, h97, h104, h128]; simp); have hz := allN_f (f := goodS x_l) (n := x_l.length) (k := k) (by omega) (by simp only [goodS, hy, h6, h15, h19, h25, h97, h104, h128]; simp); simp only [sCr, h6, h15, h19, h25, h97, h104, h128, hz]; simp
      rw [hF130]
      exact rfl
     refine cf h128 ?_
     refine wc_skip <| wq_blk_normal <| wq_then <| wc_region ?_
     refine mw (vi ((j : Nat) : Int)) ?_
     refine ar (((j : Nat) : Int) + 1) wN ?_
     refine aw (vi (((j : Nat) : Int) + 1)) ?_
     refine wl_nil ?_
     refine wq_loopP (w0 := w4) [(0, (vs a1 x_l.length c2)), (3, (vi ((k : Nat) : Int))), (4, (vi (((j + 1) : Nat) : Int))), (8, (vi ((k : Nat) : Int))), (9, (vs a1 x_l.length c2)), (10, (vi (x_l.length : Int))), (11, (vb (decide (((k : Nat) : Int) < (x_l.length : Int))))), (14, (vs a1 x_l.length c2)), (15, (vi ((k : Nat) : Int))), (16, (ve (vs a1 x_l.length c2) ((((k : Nat) : Int)).toNat * 4))), (17, (ve (vs a1 x_l.length c2) ((((k : Nat) : Int)).toNat * 4 + 0))), (18, (va (L_26 ((x_l.getD k z_PCredit).A)))), (19, (vb (F_spec_AddrOk ((x_l.getD k z_PCredit).A)))), (20, (vb (!(F_spec_AddrOk ((x_l.getD k z_PCredit).A))))), (21, (vb (!(F_spec_AddrOk ((x_l.getD k z_PCredit).A))))), (22, (vs a1 x_l.length c2)), (23, (vi ((k : Nat) : Int))), (24, (ve (vs a1 x_l.length c2) ((((k : Nat) : Int)).toNat * 4))), (25, (ve (vs a1 x_l.length c2) ((((k : Nat) : Int)).toNat * 4 + 2))), (26, (vi ((x_l.getD k z_PCredit).Got))), (27, (vb (F_spec_l1In ((x_l.getD k z_PCredit).Got) 0 1000000))), (28, (vb (!(F_spec_l1In ((x_l.getD k z_PCredit).Got) 0 1000000)))), (29, (vb (!(F_spec_l1In ((x_l.getD k z_PCredit).Got) 0 1000000)))), (30, (vb (!(F_spec_l1In ((x_l.getD k z_PCredit).Got) 0 1000000)))), (31, (vs a1 x_l.length c2)), (32, (vi ((k : Nat) : Int))), (33, (ve (vs a1 x_l.length c2) ((((k : Nat) : Int)).toNat * 4))), (34, (ve (vs a1 x_l.length c2) ((((k : Nat) : Int)).toNat * 4 + 3))), (35, (vi ((x_l.getD k z_PCredit).Sent))), (36, (vs a1 x_l.length c2)), (37, (vi ((k : Nat) : Int))), (38, (ve (vs a1 x_l.length c2) ((((k : Nat) : Int)).toNat * 4))), (39, (ve (vs a1 x_l.length c2) ((((k : Nat) : Int)).toNat * 4 + 2))), (40, (vi ((x_l.getD k z_PCredit).Got))), (41, (vi (3 * ((x_l.getD k z_PCredit).Got)))), (42, (vb (F_spec_l1In ((x_l.getD k z_PCredit).Sent) 0 (3 * ((x_l.getD k z_PCredit).Got))))), (43, (vb (!(F_spec_l1In ((x_l.getD k z_PCredit).Sent) 0 (3 * ((x_l.getD k z_PCredit).Got)))))), (44, (vb (!(F_spec_l1In ((x_l.getD k z_PCredit).Sent) 0 (3 * ((x_l.getD k z_PCredit).Got))))))] ?_ ?_ ?_
     · exact ⟨rfl, rfl, (congrArg (Value.int .i64) (show ((((j : Nat) : Int) + 1) : Int) = (((j + 1) : Nat) : Int) by omega)), rfl, rfl, rfl, rfl, rfl, rfl, rfl, rfl, rfl, rfl, rfl, rfl, rfl, rfl, rfl, rfl, rfl, rfl, rfl, rfl, rfl, rfl, rfl, rfl, rfl, rfl, rfl, rfl, rfl, rfl, rfl, rfl, rfl, rfl, rfl, trivial⟩
     · exact fun u => ⟨(j + 1), u, rfl, m127, (((Ch.refl (fun k => w3.heap.size ≤ k) w3).ext k101 (fun k hk => hk)).extk k126), (by omega), (by first | (intro m hm; omega) | exact allN_next (by assumption) (by simp only [sameJ, h6, h15, h19, h25, h97, h104, h128]; simp; done))⟩
     · show k - ((((j + 1) : Nat) : Int)).toNat < k - (((j : Nat) : Int)).toNat; omega
theorem sCr_t {x : List PCredit} (h : sCr x = true) : (sCr x).toNat = 1 ∧ x.length ≤ 8 := by
  refine ⟨by rw [h]; rfl, ?_⟩
  cases h8 : decide (8 < (x.length : Int)) with
  | true => simp only [sCr, h8, cond_true] at h; cases h
  | false => have := of_decide_eq_false h8; omega
theorem sCr_got (x : List PCredit) (a : PAddr) : (sCr x).toNat = 0 ∨ creditAt x a < 0 ∨ (0 ≤ (x.getD (creditAt x a).toNat z_PCredit).Got ∧ (x.getD (creditAt x a).toNat z_PCredit).Got ≤ 1000000 ∧ 0 ≤ (x.getD (creditAt x a).toNat z_PCredit).Sent ∧ (x.getD (creditAt x a).toNat z_PCredit).Sent ≤ 3 * (x.getD (creditAt x a).toNat z_PCredit).Got) := by
  rcases Bool.eq_false_or_eq_true (sCr x) with h | h
  · by_cases h0 : creditAt x a < 0
    · exact .inr (.inl h0)
    · have hr := creditAt_range x a
      have hg : goodS x (creditAt x a).toNat = true := by
        cases h8 : decide (8 < (x.length : Int)) with
        | true => simp only [sCr, h8, cond_true] at h; cases h
        | false => simp only [sCr, h8, cond_false] at h; exact allN_iff.1 h _ (by omega)
      simp only [goodS, Bool.and_eq_true] at hg
      have h1 := spec_l1In_t hg.2.1
      have h2 := spec_l1In_t hg.2.2.1
      exact .inr (.inr ⟨h1.1, h1.2, h2.1, h2.2⟩)
  · exact .inl (by rw [h]; rfl)

theorem C_spec_l17At (w0 : World) (v_x_l : Value) (x_l : List PCredit) (r_x_l : R_24 w0 v_x_l x_l) (v_x_a : Value) (x_a : PAddr) (r_x_a : R_26 w0 v_x_a x_a)  : Fn Try.prog 76 #[v_x_l, v_x_a] w0 (fun v w' => Keep w0 w' ∧ O_3 w' w0.heap.size v (creditAt x_l x_a)) := by
 obtain ⟨a1, c2, rfl, r3, s4⟩ := r_x_l
 obtain rfl := r_x_a
 refine fn_ofS (n := 20) [(vs a1 x_l.length c2), (va (L_26 x_a))] Try.func76 rfl rfl ?_
 refine sr ?_
 refine bx (L_26 x_a) wN ?_
 intro g6 w1 p7 p8 k9 b10
 have m11 := (Ch.base w0).extk k9
 refine aw (vi 0) ?_
 refine n4 ?_
 refine aw (vi 0) ?_
 refine wl_nil <| wq_then <| wc_block ?_
 refine wc_loopP [(0, (vs a1 x_l.length c2)), (3, (vp g6 0)), (5, (vi ((0 : Nat) : Int)))] ⟨rfl, rfl, (congrArg (Value.int .i64) (show (0 : Int) = ((0 : Nat) : Int) by omega)), trivial⟩ (fun e' w' => ∃ (k : Nat) (u12 : Env), e' = pt u12 [(0, (vs a1 x_l.length c2)), (3, (vp g6 0)), (5, (vi ((k : Nat) : Int)))] ∧ Ch (fun k => w0.heap.size ≤ k) w0 w' ∧ Ch (fun k => w1.heap.size ≤ k) w1 w' ∧ k ≤ x_l.length ∧ ∀ j, j < k → (fun c : PCredit => decide (c.A.Host = x_a.Host) && decide (c.A.Port = x_a.Port)) (x_l.getD j z_PCredit) = false) (fun e' _ => x_l.length - ((intOf (e' 5))).toNat) ?_ ?_
 ·exact fun u => ⟨0, u, rfl, m11, (Ch.refl (fun k => w1.heap.size ≤ k) w1), (by omega), (by first | (intro j hj; omega) | exact find_next (p := (fun c : PCredit => decide (c.A.Host = x_a.Host) && decide (c.A.Port = x_a.Port))) (by assumption) (by assumption))⟩
 ·rintro _ w2 ⟨k, u12, rfl, m13, k14, i15, i16⟩
  refine wc_seq <| sr ?_
  refine mw (vi ((k : Nat) : Int)) ?_
  refine mw (vs a1 x_l.length c2) ?_
  refine ln wN slTy_24 (r3.from0 m13) ?_
  refine pu (vb (decide (((k : Nat) : Int) < (x_l.length : Int)))) wN ?_
  refine n2 ?_
  rcases bf (decide (((k : Nat) : Int) < (x_l.length : Int))) with h17 | h17
  ·have q41 := of_decide_eq_false h17
   refine cf h17 ?_
   refine wc_exit <| wq_then_exit <| wq_then_exit <| wq_blk_exit <| wq_then <| sr ?_
   refine aw (vi (-1)) ?_
   refine n3 ?_
   refine rt (vi (-1)) ?_
   refine ⟨m13.keep0, ?_⟩
   have hF42 : creditAt x_l x_a = (-1) := by first | exact findF_some (p := (fun c : PCredit => decide (c.A.Host = x_a.Host) && decide (c.A.Port = x_a.Port))) (z := z_PCredit) (by assumption) (by omega) (by assumption) | exact findF_none (p := (fun c : PCredit => decide (c.A.Host = x_a.Host) && decide (c.A.Port = x_a.Port))) (z := z_PCredit) (by assumption) (by omega)
   rw [hF42]
   exact rfl
  have q18 := of_decide_eq_true h17
  refine ct h17 ?_
  refine wc_skip <| wq_then <| wc_seq <| wc_block <| wc_seq ?_
  refine wc_drawT ([(12, [], [], (fun _ v _ => v = (vs a1 x_l.length c2))), (13, [], [], (fun _ v _ => v = (vi ((k : Nat) : Int)))), (14, [], [0, 1], (fun _ v _ => v = (ve (vs a1 x_l.length c2) ((((k : Nat) : Int)).toNat * 4)))), (15, [], [0, 1, 2], (fun _ v _ => v = (ve (vs a1 x_l.length c2) ((((k : Nat) : Int)).toNat * 4 + 0)))), (16, [], [0, 1, 2, 3], (fun _ v _ => v = (va (L_26 ((x_l.getD k z_PCredit).A))))), (17, [], [], (fun _ v _ => v = (va (L_26 x_a))))] : GV) (fun _ w' => Keep w2 w') [] mixed rfl (by kernel_rfl) (by kernel_rfl) ?_ (fun _ _ h => h) (fun _ _ _ _ h _ k => h.trans k) trivial ?_ ?_ ?_
  ·exact ⟨hV, hE, ⟨hV, hE, ⟨hV, hE, ⟨hV, hE, ⟨hV, hE, ⟨hV, hE, trivial⟩⟩⟩⟩⟩⟩
  ·exact trivial
  ·refine ⟨?_, ⟨?_, ⟨?_, ⟨?_, ⟨?_, ⟨?_, trivial⟩⟩⟩⟩⟩⟩
   ·intro _ w3 k21 _
    rintro _ _ _ _ _ _
    show WL _ _ _ _ _ _ _
    refine mw (vs a1 x_l.length c2) ?_
    exact f1
   ·intro _ w3 k23 _
    rintro _ _ _ _ _ _
    show WL _ _ _ _ _ _ _
    refine mw (vi ((k : Nat) : Int)) ?_
    exact f1
   ·intro _ w3 k25 _
    have m26 := m13.extk k25
    rintro _ rfl _ rfl _ _ _ _
    show WL _ _ _ _ _ _ _
    refine ix wN ((k : Nat) : Int) slTy_24 (r3.from0 m26) ?_
    exact f1
   ·intro _ w3 k27 _
    have m28 := m13.extk k27
    rintro _ rfl _ rfl _ rfl _ _ _
    show WL _ _ _ _ _ _ _
    refine wl_fieldE wN rfl rfl rfl fieldAt_33_0 rfl (r3.from0 m28) (by omega) ?_
    exact f1
   ·intro _ w3 k29 _
    have m30 := m13.extk k29
    rintro _ rfl _ rfl _ rfl _ rfl _ _
    show WL _ _ _ _ _ _ _
    refine wl_loadEN [(vi (((x_l.getD k z_PCredit).A).Host)), (vi (((x_l.getD k z_PCredit).A).Port))] wN rfl rfl rfl rfl isAgg_26 sizeOf_26 (r3.from0 m30) (by first | omega | (simp only [List.length_cons, List.length_nil, List.length_replicate, List.length_append, List.length_take, List.length_set, List.length_map]; omega)) ((rows_part (off := 0) (n := 2) enc_PCredit_len z_PCredit (by first | rfl | simp | omega) (by decide) (by first | omega | (simp only [List.length_cons, List.length_nil, List.length_replicate, List.length_append, List.length_take, List.length_set, List.length_map]; omega))).trans rfl) ?_
    exact f1
   ·intro _ w3 k31 _
    rintro _ _ _ _ _ _
    show WL _ _ _ _ _ _ _
    have b33 := ((b10.ch k14 (Nat.not_le.2 (p8))).kp k31)
    refine lN (L_26 x_a) wN isAgg_26 sizeOf_26 b33 ?_
    exact f1
  ·intro _ w3 k34
   have m35 := m13.extk k34
   rintro _ rfl _ rfl _ rfl _ rfl _ rfl _ rfl
   show WL _ _ _ _ _ _ _
   refine wl_aggeq ((decide ((((x_l.getD k z_PCredit).A).Host) = x_a.Host) && decide ((((x_l.getD k z_PCredit).A).Port) = x_a.Port))) wN rfl rfl rfl rfl rfl guardt_26 (aggeq_26 (((x_l.getD k z_PCredit).A).Host) x_a.Host (((x_l.getD k z_PCredit).A).Port) x_a.Port w3) ?_
   refine n2 ?_
   rcases bt (decide ((((x_l.getD k z_PCredit).A).Host) = x_a.Host) && decide ((((x_l.getD k z_PCredit).A).Port) = x_a.Port)) with h37 | h37
   ·refine ct h37 ?_
    refine sr ?_
    refine mw (vi ((k : Nat) : Int)) ?_
    refine aw (vi ((k : Nat) : Int)) ?_
    refine wl_nil <| wq_then <| wc_ret <| wq_blk_ret <| wq_then_ret <| wq_then_ret <| wq_blk_ret <| wq_then_ret ?_
    refine rt (vi ((k : Nat) : Int)) ?_
    refine ⟨m35.keep0, ?_⟩
    have hF39 : creditAt x_l x_a = ((k : Nat) : Int) := by first | exact findF_some (p := (fun c : PCredit => decide (c.A.Host = x_a.Host) && decide (c.A.Port = x_a.Port))) (z := z_PCredit) (by assumption) (by omega) (by assumption) | exact findF_none (p := (fun c : PCredit => decide (c.A.Host = x_a.Host) && decide (c.A.Port = x_a.Port))) (z := z_PCredit) (by assumption) (by omega)
    rw [hF39]
    exact rfl
   refine cf h37 ?_
   refine wc_skip <| wq_blk_normal <| wq_then <| wc_region ?_
   refine mw (vi ((k : Nat) : Int)) ?_
   refine ar (((k : Nat) : Int) + 1) wN ?_
   refine aw (vi (((k : Nat) : Int) + 1)) ?_
   refine wl_nil ?_
   refine wq_loopP (w0 := w2) [(0, (vs a1 x_l.length c2)), (3, (vp g6 0)), (5, (vi (((k + 1) : Nat) : Int)))] ?_ ?_ ?_
   · exact ⟨rfl, rfl, (congrArg (Value.int .i64) (show ((((k : Nat) : Int) + 1) : Int) = (((k + 1) : Nat) : Int) by omega)), trivial⟩
   · exact fun u => ⟨(k + 1), u, rfl, m35, (((Ch.refl (fun k => w1.heap.size ≤ k) w1).ext k14 (fun k hk => hk)).extk k34), (by omega), (by first | (intro j hj; omega) | exact find_next (p := (fun c : PCredit => decide (c.A.Host = x_a.Host) && decide (c.A.Port = x_a.Port))) (by assumption) (by assumption))⟩
   · show x_l.length - ((((k + 1) : Nat) : Int)).toNat < x_l.length - (((k : Nat) : Int)).toNat; omega

def O_24 (w : World) (lo : Nat) (v : Value) (x : (List PCredit)) : Prop := ∃ (a1 : Option Addr) (c1 : Nat), v = .slice a1 x.length c1 ∧ w.ownsRow lo 33 4 (.slice a1 x.length c1) x.length (x.flatMap enc_PCredit) ∧ x.length ≤ 1073741824 ∧ Aps [(a1, c1)]
theorem mR_24 {w : World} {x : List PCredit} {a1 : Option Addr} {c1 : Nat} (h1 : Rd w 4 (.slice a1 x.length c1) x.length (x.flatMap enc_PCredit)) (l1 : x.length ≤ 1073741824) : R_24 w (vs a1 x.length c1) x := ⟨_, _, rfl, h1, l1⟩
def F_spec_Gain (x_l : List PCredit) (x_a : PAddr) (x_n : Int) : (List PCredit) := bif (sCr x_l) then (bif (F_spec_AddrOk x_a) then (bif (F_spec_l1In x_n 0 1000000) then (bif (decide ((creditAt x_l x_a) < 0)) then (bif (decide ((x_l.length : Int) = 8)) then (x_l) else ((x_l ++ [{ A := x_a, Got := x_n, Sent := 0 : PCredit }]))) else (bif (decide (1000000 < ((x_l.set (((creditAt x_l x_a)).toNat) { A := ((x_l.getD ((creditAt x_l x_a)).toNat z_PCredit).A), Got := (((x_l.getD ((creditAt x_l x_a)).toNat z_PCredit).Got) + x_n), Sent := ((x_l.getD ((creditAt x_l x_a)).toNat z_PCredit).Sent) : PCredit }).getD ((creditAt x_l x_a)).toNat z_PCredit).Got)) then (((x_l.set (((creditAt x_l x_a)).toNat) { A := ((x_l.getD ((creditAt x_l x_a)).toNat z_PCredit).A), Got := (((x_l.getD ((creditAt x_l x_a)).toNat z_PCredit).Got) + x_n), Sent := ((x_l.getD ((creditAt x_l x_a)).toNat z_PCredit).Sent) : PCredit }).set (((creditAt x_l x_a)).toNat) { A := (((x_l.set (((creditAt x_l x_a)).toNat) { A := ((x_l.getD ((creditAt x_l x_a)).toNat z_PCredit).A), Got := (((x_l.getD ((creditAt x_l x_a)).toNat z_PCredit).Got) + x_n), Sent := ((x_l.getD ((creditAt x_l x_a)).toNat z_PCredit).Sent) : PCredit }).getD ((creditAt x_l x_a)).toNat z_PCredit).A), Got := 1000000, Sent := (((x_l.set (((creditAt x_l x_a)).toNat) { A := ((x_l.getD ((creditAt x_l x_a)).toNat z_PCredit).A), Got := (((x_l.getD ((creditAt x_l x_a)).toNat z_PCredit).Got) + x_n), Sent := ((x_l.getD ((creditAt x_l x_a)).toNat z_PCredit).Sent) : PCredit }).getD ((creditAt x_l x_a)).toNat z_PCredit).Sent) : PCredit })) else ((x_l.set (((creditAt x_l x_a)).toNat) { A := ((x_l.getD ((creditAt x_l x_a)).toNat z_PCredit).A), Got := (((x_l.getD ((creditAt x_l x_a)).toNat z_PCredit).Got) + x_n), Sent := ((x_l.getD ((creditAt x_l x_a)).toNat z_PCredit).Sent) : PCredit })))) else (x_l)) else (x_l)) else (x_l)
theorem C_spec_Gain (w0 : World) (v_x_l : Value) (x_l : List PCredit) (r_x_l : R_24 w0 v_x_l x_l) (v_x_a : Value) (x_a : PAddr) (r_x_a : R_26 w0 v_x_a x_a) (x_n : Int)  : Fn Try.prog 15 #[v_x_l, v_x_a, (vi x_n)] w0 (fun v w' => Keep w0 w' ∧ O_24 w' w0.heap.size v (F_spec_Gain x_l x_a x_n)) := by
 obtain ⟨a1, c2, rfl, r3, s4⟩ := r_x_l
 obtain rfl := r_x_a
 refine fn_ofS (n := 63) [(vs a1 x_l.length c2), (va (L_26 x_a)), (vi x_n)] Try.func15 rfl rfl ?_
 refine sr ?_
 refine bx (L_26 x_a) wN ?_
 intro g6 w1 p7 p8 k9 b10
 refine aw (vs none 0 0) ?_
 refine nx ?_
 refine wl_lit0 wN rfl rfl slTy_24 (fun w => by kernel_rfl) ?_
 intro a12 w2 k13 o14
 have m15 := ((Ch.base w0).extk k9).extk k13
 refine mw (vs a1 x_l.length c2) ?_
 refine wl_append0 wN rfl rfl rfl slTy_24 rfl rfl o14 (r3.from0 m15) (rows_one (fun u => u.oneCell' = true) enc_PCredit_one) (by first | (simp only [List.length_append, List.length_cons, List.length_nil, List.length_replicate, List.length_take, List.length_drop]; omega) | omega) (by simp only [maxLen]; first | (simp only [List.length_append, List.length_cons, List.length_nil, List.length_replicate, List.length_take, List.length_drop]; omega) | omega) k13.size ?_
 intro u17 w3 k18 o19 j20
 obtain ⟨a21, c22, rfl⟩ := own_form o19
 have n23 : New w2 a21 c22 := j20 _ _ rfl
 have m24 := m15.extk k18
 refine aw (vs a21 x_l.length c22) ?_
 refine n4 ?_
 refine jT1 [(0, (vs a1 x_l.length c2)), (2, (vi x_n)), (4, (vp g6 0)), (6, (vs none 0 0)), (7, (vs a21 x_l.length c22))] (F_spec_Gain x_l x_a x_n = x_l) ?_ fun J26 => ?_
 ·intro hA27 w4 k29 u28
  have m30 := m24.extk k29
  refine sr ?_
  refine mw (vs a21 x_l.length c22) ?_
  refine aw (vs a21 x_l.length c22) ?_
  refine n1 ?_
  have o31 := (own_kp o19 k29)
  refine rt (vs a21 x_l.length c22) ?_
  refine ⟨m30.keep0, ?_⟩
  rw [hA27]
  exact ⟨_, _, rfl, (own_lo o31 k9.size), s4, ⟨trivial, trivial⟩⟩
 refine mw (vs a1 x_l.length c2) ?_
 refine cl wN (C_spec_CreditsOk w3 _ x_l (mR_24 (r3.from0 m24) s4)) ?_
 rintro _ w4 ⟨k33, rfl⟩
 refine pu (vb (!(sCr x_l))) wN ?_
 refine mw (vb (!(sCr x_l))) ?_
 rcases bf (sCr x_l) with h35 | h35
 ·iterate 3 refine sk (congrArg not h35) ?_
  refine pk (vb true) wN (congrArg not h35) ?_
  refine mw (vb true) ?_
  iterate 3 refine sk (Eq.refl true) ?_
  refine pk (vb true) wN (Eq.refl true) ?_
  refine n2 ?_
  refine ct (Eq.refl true) ?_
  have hF99 : F_spec_Gain x_l x_a x_n = x_l := by simp only [F_spec_Gain, h35, cond_true, cond_false]
  exact wj (J26 hF99 _ k33)
 have q36 := sCr_t h35
 have b37 := (((b10.kp k13).kp k18).kp k33)
 refine lN (L_26 x_a) (wS (congrArg not h35)) isAgg_26 sizeOf_26 b37 ?_
 refine cl (wS (congrArg not h35)) (C_spec_AddrOk w4 _ x_a (mR_26)) ?_
 rintro _ w5 ⟨k38, rfl⟩
 refine pu (vb (!(F_spec_AddrOk x_a))) (wS (congrArg not h35)) ?_
 refine pf (vb (!(F_spec_AddrOk x_a))) wN (congrArg not h35) ?_
 refine mw (vb (!(F_spec_AddrOk x_a))) ?_
 rcases bf (F_spec_AddrOk x_a) with h40 | h40
 ·iterate 3 refine sk (congrArg not h40) ?_
  refine pk (vb true) wN (congrArg not h40) ?_
  refine n2 ?_
  refine ct (Eq.refl true) ?_
  have hF97 : F_spec_Gain x_l x_a x_n = x_l := by simp only [F_spec_Gain, h35, h40, cond_true, cond_false]
  exact wj (J26 hF97 _ (k33.trans k38))
 refine mv (vi x_n) (wS (congrArg not h40)) ?_
 refine cl (wS (congrArg not h40)) (C_spec_l1In w5 x_n 0 1000000) ?_
 rintro _ w6 ⟨k42, rfl⟩
 have m43 := ((m24.extk k33).extk k38).extk k42
 refine pu (vb (!(F_spec_l1In x_n 0 1000000))) (wS (congrArg not h40)) ?_
 refine pf (vb (!(F_spec_l1In x_n 0 1000000))) wN (congrArg not h40) ?_
 refine n2 ?_
 rcases bf (F_spec_l1In x_n 0 1000000) with h44 | h44
 ·have q94 := spec_l1In_f h44
  refine ct (congrArg not h44) ?_
  have hF95 : F_spec_Gain x_l x_a x_n = x_l := by simp only [F_spec_Gain, h35, h40, h44, cond_true, cond_false]
  exact wj (J26 hF95 _ ((k33.trans k38).trans k42))
 have q45 := spec_l1In_t h44
 refine cf (congrArg not h44) ?_
 refine y1 ?_
 refine mw (vs a1 x_l.length c2) ?_
 have b46 := ((b37.kp k38).kp k42)
 refine lN (L_26 x_a) wN isAgg_26 sizeOf_26 b46 ?_
 refine cl wN (C_spec_l17At w6 _ x_l (mR_24 (r3.from0 m43) s4) _ x_a (mR_26)) ?_
 rintro _ w7 ⟨k47, rfl⟩
 have m48 := m43.extk k47
 have q49 := creditAt_range x_l x_a
 have q50 := sCr_got x_l x_a
 refine aw (vi (creditAt x_l x_a)) ?_
 refine n4 ?_
 refine mw (vi (creditAt x_l x_a)) ?_
 refine pu (vb (decide ((creditAt x_l x_a) < 0))) wN ?_
 refine n2 ?_
 rcases bt (decide ((creditAt x_l x_a) < 0)) with h51 | h51
 ·have q52 := of_decide_eq_true h51
  refine ct h51 ?_
  refine wc_seq <| sr ?_
  refine mw (vs a1 x_l.length c2) ?_
  refine ln wN slTy_24 (r3.from0 m48) ?_
  refine pu (vb (decide ((x_l.length : Int) = 8))) wN ?_
  refine n2 ?_
  rcases bt (decide ((x_l.length : Int) = 8)) with h53 | h53
  ·have q54 := of_decide_eq_true h53
   refine ct h53 ?_
   refine sr ?_
   refine mw (vs a21 x_l.length c22) ?_
   refine aw (vs a21 x_l.length c22) ?_
   refine wl_nil <| wq_then <| wc_ret <| wq_then_ret <| wq_then_ret ?_
   have o55 := (own_kp (own_kp (own_kp (own_kp o19 k33) k38) k42) k47)
   refine rt (vs a21 x_l.length c22) ?_
   refine ⟨m48.keep0, ?_⟩
   simp only [F_spec_Gain, h35, h40, h44, h51, h53, cond_true, cond_false]
   exact ⟨_, _, rfl, (own_lo o55 k9.size), s4, ⟨trivial, trivial⟩⟩
  have q57 := of_decide_eq_false h53
  refine cf h53 ?_
  refine y1 ?_
  refine mw (vs a21 x_l.length c22) ?_
  have b58 := (b46.kp k47)
  refine lN (L_26 x_a) wN isAgg_26 sizeOf_26 b58 ?_
  refine mw (vi x_n) ?_
  refine pu (va [(vi x_a.Host), (vi x_a.Port), (vi x_n), (vi 0)]) wN ?_
  refine wl_lit [(vi x_a.Host), (vi x_a.Port), (vi x_n), (vi 0)] wN rfl rfl slTy_24 (m := 1) rfl (by simp only [maxLen]; omega) (fun w => by kernel_rfl) ?_
  intro u59 w8 k60 o61
  obtain ⟨a62, c63, rfl⟩ := own_form o61
  have o66 : w8.ownsRow w7.heap.size 33 4 (.slice a62 ([{ A := x_a, Got := x_n, Sent := 0 : PCredit }] : List PCredit).length c63) ([{ A := x_a, Got := x_n, Sent := 0 : PCredit }] : List PCredit).length (([{ A := x_a, Got := x_n, Sent := 0 : PCredit }] : List PCredit).flatMap enc_PCredit) := o61
  have o67 := (own_kp (own_kp (own_kp (own_kp (own_kp o19 k33) k38) k42) k47) k60)
  refine wl_append (v := (vs a21 x_l.length c22)) wN rfl rfl rfl slTy_24 rfl rfl o67 (Rd.of_own o66) (rows_one (fun u => u.oneCell' = true) enc_PCredit_one) (by first | (simp only [List.length_append, List.length_cons, List.length_nil, List.length_replicate, List.length_take, List.length_drop]; omega) | omega) (by simp only [maxLen]; first | (simp only [List.length_append, List.length_cons, List.length_nil, List.length_replicate, List.length_take, List.length_drop]; omega) | omega) (z7 k13 k18 k33 k38 k42 k47 k60) ?_
  intro u68 w9 k69 o70 j71
  have o74 : w9.ownsRow w1.heap.size 33 4 u68 ((x_l ++ [{ A := x_a, Got := x_n, Sent := 0 : PCredit }]) : List PCredit).length (((x_l ++ [{ A := x_a, Got := x_n, Sent := 0 : PCredit }]) : List PCredit).flatMap enc_PCredit) := by simpa [Nat.add_assoc, List.flatMap_append] using o70
  obtain ⟨a72, c73, rfl⟩ := own_form o74
  have m75 := (m48.extk k60).ext k69 (fun k hk => Nat.le_trans k9.size (own_lt o19 k hk).1)
  have s77 : (x_l ++ [{ A := x_a, Got := x_n, Sent := 0 : PCredit }]).length ≤ 1073741824 := by first | (simp only [List.length_append, List.length_cons, List.length_nil, List.length_replicate, List.length_take, List.length_drop]; omega) | omega | assumption
  refine aw (vs a72 (x_l ++ [{ A := x_a, Got := x_n, Sent := 0 : PCredit }]).length c73) ?_
  refine n1 ?_
  refine rt (vs a72 (x_l ++ [{ A := x_a, Got := x_n, Sent := 0 : PCredit }]).length c73) ?_
  refine ⟨m75.keep0, ?_⟩
  simp only [F_spec_Gain, h35, h40, h44, h51, h53, cond_true, cond_false]
  exact ⟨_, _, rfl, (own_lo o74 k9.size), s77, ⟨trivial, trivial⟩⟩
 have q79 := of_decide_eq_false h51
 refine cf h51 ?_
 refine y1 ?_
 refine mw (vs a21 x_l.length c22) ?_
 refine mw (vi (creditAt x_l x_a)) ?_
 refine mw (vs a21 x_l.length c22) ?_
 refine mw (vi (creditAt x_l x_a)) ?_
 have o80 := (own_kp (own_kp (own_kp (own_kp o19 k33) k38) k42) k47)
 refine ix wN (creditAt x_l x_a) slTy_24 (Rd.of_own o80) ?_
 refine wl_fieldE wN rfl rfl rfl fieldAt_33_1 rfl (Rd.of_own o80) (by omega) ?_
 refine wl_loadE (vi ((x_l.getD ((creditAt x_l x_a)).toNat z_PCredit).Got)) wN rfl rfl rfl rfl isAgg_3 (Rd.of_own o80) ((rows_get (i := 2) enc_PCredit_len z_PCredit (by first | rfl | simp | omega) (by decide) (by first | omega | (simp only [List.length_cons, List.length_nil, List.length_replicate, List.length_append, List.length_take, List.length_set, List.length_map]; omega))).trans rfl) ?_
 refine mw (vi x_n) ?_
 refine ar (((x_l.getD ((creditAt x_l x_a)).toNat z_PCredit).Got) + x_n) wN ?_
 refine ix wN (creditAt x_l x_a) slTy_24 (Rd.of_own o80) ?_
 refine wl_fieldE wN rfl rfl rfl fieldAt_33_1 rfl (Rd.of_own o80) (by omega) ?_
 refine wl_storeF enc_PCredit_len x_l (((creditAt x_l x_a)).toNat) 2 z_PCredit ({ A := ((x_l.getD ((creditAt x_l x_a)).toNat z_PCredit).A), Got := (((x_l.getD ((creditAt x_l x_a)).toNat z_PCredit).Got) + x_n), Sent := ((x_l.getD ((creditAt x_l x_a)).toNat z_PCredit).Sent) : PCredit }) (vi (((x_l.getD ((creditAt x_l x_a)).toNat z_PCredit).Got) + x_n)) [(vi (((x_l.getD ((creditAt x_l x_a)).toNat z_PCredit).Got) + x_n))] wN rfl rfl rfl (by first | rfl | simp | omega) rfl rfl (one_cons rfl one_nil) sizeOf_3 o80 (by first | omega | (simp only [List.length_append, List.length_replicate, List.length_take, List.length_set, List.length_map]; omega)) (by simp) (by simp) rfl ?_
 intro w8 k81 o82
 have m83 := m48.ext k81 (fun k hk => Nat.le_trans k9.size (own_lt o19 k hk).1)
 refine n4 ?_
 refine mw (vs a21 x_l.length c22) ?_
 refine mw (vi (creditAt x_l x_a)) ?_
 refine ix wN (creditAt x_l x_a) slTy_24 (Rd.of_own o82) ?_
 refine wl_fieldE wN rfl rfl rfl fieldAt_33_1 rfl (Rd.of_own o82) (by omega) ?_
 refine wl_loadE (vi (((x_l.set (((creditAt x_l x_a)).toNat) { A := ((x_l.getD ((creditAt x_l x_a)).toNat z_PCredit).A), Got := (((x_l.getD ((creditAt x_l x_a)).toNat z_PCredit).Got) + x_n), Sent := ((x_l.getD ((creditAt x_l x_a)).toNat z_PCredit).Sent) : PCredit }).getD ((creditAt x_l x_a)).toNat z_PCredit).Got)) wN rfl rfl rfl rfl isAgg_3 (Rd.of_own o82) ((rows_get (i := 2) enc_PCredit_len z_PCredit (by first | rfl | simp | omega) (by decide) (by first | omega | (simp only [List.length_cons, List.length_nil, List.length_replicate, List.length_append, List.length_take, List.length_set, List.length_map]; omega))).trans rfl) ?_
 refine pu (vb (decide (1000000 < ((x_l.set (((creditAt x_l x_a)).toNat) { A := ((x_l.getD ((creditAt x_l x_a)).toNat z_PCredit).A), Got := (((x_l.getD ((creditAt x_l x_a)).toNat z_PCredit).Got) + x_n), Sent := ((x_l.getD ((creditAt x_l x_a)).toNat z_PCredit).Sent) : PCredit }).getD ((creditAt x_l x_a)).toNat z_PCredit).Got))) wN ?_
 refine n2 ?_
 rcases bf (decide (1000000 < ((x_l.set (((creditAt x_l x_a)).toNat) { A := ((x_l.getD ((creditAt x_l x_a)).toNat z_PCredit).A), Got := (((x_l.getD ((creditAt x_l x_a)).toNat z_PCredit).Got) + x_n), Sent := ((x_l.getD ((creditAt x_l x_a)).toNat z_PCredit).Sent) : PCredit }).getD ((creditAt x_l x_a)).toNat z_PCredit).Got)) with h84 | h84
 ·have q91 := of_decide_eq_false h84
  refine cf h84 ?_
  refine y1 ?_
  refine mw (vs a21 x_l.length c22) ?_
  refine aw (vs a21 x_l.length c22) ?_
  refine n3 ?_
  refine rt (vs a21 x_l.length c22) ?_
  refine ⟨m83.keep0, ?_⟩
  simp only [F_spec_Gain, h35, h40, h44, h51, h84, cond_true, cond_false]
  have hN93 : x_l.length = ((x_l.set (((creditAt x_l x_a)).toNat) { A := ((x_l.getD ((creditAt x_l x_a)).toNat z_PCredit).A), Got := (((x_l.getD ((creditAt x_l x_a)).toNat z_PCredit).Got) + x_n), Sent := ((x_l.getD ((creditAt x_l x_a)).toNat z_PCredit).Sent) : PCredit })).length := by first | (simp only [List.length_append, List.length_take, List.length_replicate, List.length_set, List.length_map]; done) | (simp only [List.length_append, List.length_take, List.length_replicate, List.length_set, List.length_map]; omega)
  rw [hN93] at o82 ⊢
  exact ⟨_, _, rfl, (own_lo o82 k9.size), (by rw [← hN93]; exact s4), ⟨trivial, trivial⟩⟩
 have q85 := of_decide_eq_true h84
 refine ct h84 ?_
 refine wc_region ?_
 refine mw (vs a21 x_l.length c22) ?_
 refine mw (vi (creditAt x_l x_a)) ?_
 refine ix wN (creditAt x_l x_a) slTy_24 (Rd.of_own o82) ?_
 refine wl_fieldE wN rfl rfl rfl fieldAt_33_1 rfl (Rd.of_own o82) (by omega) ?_
 refine wl_storeF enc_PCredit_len (x_l.set (((creditAt x_l x_a)).toNat) { A := ((x_l.getD ((creditAt x_l x_a)).toNat z_PCredit).A), Got := (((x_l.getD ((creditAt x_l x_a)).toNat z_PCredit).Got) + x_n), Sent := ((x_l.getD ((creditAt x_l x_a)).toNat z_PCredit).Sent) : PCredit }) (((creditAt x_l x_a)).toNat) 2 z_PCredit ({ A := (((x_l.set (((creditAt x_l x_a)).toNat) { A := ((x_l.getD ((creditAt x_l x_a)).toNat z_PCredit).A), Got := (((x_l.getD ((creditAt x_l x_a)).toNat z_PCredit).Got) + x_n), Sent := ((x_l.getD ((creditAt x_l x_a)).toNat z_PCredit).Sent) : PCredit }).getD ((creditAt x_l x_a)).toNat z_PCredit).A), Got := 1000000, Sent := (((x_l.set (((creditAt x_l x_a)).toNat) { A := ((x_l.getD ((creditAt x_l x_a)).toNat z_PCredit).A), Got := (((x_l.getD ((creditAt x_l x_a)).toNat z_PCredit).Got) + x_n), Sent := ((x_l.getD ((creditAt x_l x_a)).toNat z_PCredit).Sent) : PCredit }).getD ((creditAt x_l x_a)).toNat z_PCredit).Sent) : PCredit }) (vi 1000000) [(vi 1000000)] wN rfl rfl rfl (by first | rfl | simp | omega) rfl rfl (one_cons rfl one_nil) sizeOf_3 o82 (by first | omega | (simp only [List.length_append, List.length_replicate, List.length_take, List.length_set, List.length_map]; omega)) (by simp) (by simp) rfl ?_
 intro w9 k86 o87
 have m88 := m83.ext k86 (fun k hk => Nat.le_trans k9.size (own_lt o19 k hk).1)
 refine nx ?_
 refine mw (vs a21 x_l.length c22) ?_
 refine aw (vs a21 x_l.length c22) ?_
 refine n3 ?_
 refine rt (vs a21 x_l.length c22) ?_
 refine ⟨m88.keep0, ?_⟩
 simp only [F_spec_Gain, h35, h40, h44, h51, h84, cond_true, cond_false]
 have hN90 : x_l.length = (((x_l.set (((creditAt x_l x_a)).toNat) { A := ((x_l.getD ((creditAt x_l x_a)).toNat z_PCredit).A), Got := (((x_l.getD ((creditAt x_l x_a)).toNat z_PCredit).Got) + x_n), Sent := ((x_l.getD ((creditAt x_l x_a)).toNat z_PCredit).Sent) : PCredit }).set (((creditAt x_l x_a)).toNat) { A := (((x_l.set (((creditAt x_l x_a)).toNat) { A := ((x_l.getD ((creditAt x_l x_a)).toNat z_PCredit).A), Got := (((x_l.getD ((creditAt x_l x_a)).toNat z_PCredit).Got) + x_n), Sent := ((x_l.getD ((creditAt x_l x_a)).toNat z_PCredit).Sent) : PCredit }).getD ((creditAt x_l x_a)).toNat z_PCredit).A), Got := 1000000, Sent := (((x_l.set (((creditAt x_l x_a)).toNat) { A := ((x_l.getD ((creditAt x_l x_a)).toNat z_PCredit).A), Got := (((x_l.getD ((creditAt x_l x_a)).toNat z_PCredit).Got) + x_n), Sent := ((x_l.getD ((creditAt x_l x_a)).toNat z_PCredit).Sent) : PCredit }).getD ((creditAt x_l x_a)).toNat z_PCredit).Sent) : PCredit })).length := by first | (simp only [List.length_append, List.length_take, List.length_replicate, List.length_set, List.length_map]; done) | (simp only [List.length_append, List.length_take, List.length_replicate, List.length_set, List.length_map]; omega)
 rw [hN90] at o87 ⊢
 exact ⟨_, _, rfl, (own_lo o87 k9.size), (by rw [← hN90]; exact s4), ⟨trivial, trivial⟩⟩
theorem sGain_len (l : List PCredit) (a : PAddr) (n : Int) : (F_spec_Gain l a n).length = l.length ∨ (F_spec_Gain l a n).length = l.length + 1 := by
  simp only [F_spec_Gain, cond_eq_ite]
  repeat' split
  all_goals first | (left; simp; done) | (right; simp; done)

def F_spec_RoomFor (x_l : List PCredit) (x_a : PAddr) : (Int) := bif (sCr x_l) then (bif (decide ((creditAt x_l x_a) < 0)) then (0) else (((3 * ((x_l.getD ((creditAt x_l x_a)).toNat z_PCredit).Got)) - ((x_l.getD ((creditAt x_l x_a)).toNat z_PCredit).Sent)))) else (0)
theorem C_spec_RoomFor (w0 : World) (v_x_l : Value) (x_l : List PCredit) (r_x_l : R_24 w0 v_x_l x_l) (v_x_a : Value) (x_a : PAddr) (r_x_a : R_26 w0 v_x_a x_a)  : Fn Try.prog 169 #[v_x_l, v_x_a] w0 (fun v w' => Keep w0 w' ∧ O_3 w' w0.heap.size v (F_spec_RoomFor x_l x_a)) := by
 obtain ⟨a1, c2, rfl, r3, s4⟩ := r_x_l
 obtain rfl := r_x_a
 refine fn_ofS (n := 28) [(vs a1 x_l.length c2), (va (L_26 x_a))] Try.func169 rfl rfl ?_
 refine sr ?_
 refine bx (L_26 x_a) wN ?_
 intro g6 w1 p7 p8 k9 b10
 have m11 := (Ch.base w0).extk k9
 refine aw (vi 0) ?_
 refine nx ?_
 refine mw (vs a1 x_l.length c2) ?_
 refine lN (L_26 x_a) wN isAgg_26 sizeOf_26 b10 ?_
 refine cl wN (C_spec_l17At w1 _ x_l (mR_24 (r3.from0 m11) s4) _ x_a (mR_26)) ?_
 rintro _ w2 ⟨k12, rfl⟩
 have m13 := m11.extk k12
 have q14 := creditAt_range x_l x_a
 have q15 := sCr_got x_l x_a
 refine aw (vi (creditAt x_l x_a)) ?_
 refine n4 ?_
 refine jT1 [(0, (vs a1 x_l.length c2)), (4, (vi 0)), (5, (vi (creditAt x_l x_a)))] (F_spec_RoomFor x_l x_a = 0) ?_ fun J16 => ?_
 ·intro hA17 w3 k19 u18
  have m20 := m13.extk k19
  refine sr ?_
  refine aw (vi 0) ?_
  refine n1 ?_
  refine rt (vi 0) ?_
  refine ⟨m20.keep0, ?_⟩
  rw [hA17]
  exact rfl
 refine mw (vs a1 x_l.length c2) ?_
 refine cl wN (C_spec_CreditsOk w2 _ x_l (mR_24 (r3.from0 m13) s4)) ?_
 rintro _ w3 ⟨k22, rfl⟩
 have m23 := m13.extk k22
 refine pu (vb (!(sCr x_l))) wN ?_
 refine mw (vb (!(sCr x_l))) ?_
 rcases bf (sCr x_l) with h24 | h24
 ·iterate 2 refine sk (congrArg not h24) ?_
  refine pk (vb true) wN (congrArg not h24) ?_
  refine n2 ?_
  refine ct (Eq.refl true) ?_
  have hF56 : F_spec_RoomFor x_l x_a = 0 := by simp only [F_spec_RoomFor, h24, cond_true, cond_false]
  exact wj (J16 hF56 _ k22)
 have q25 := sCr_t h24
 refine mv (vi (creditAt x_l x_a)) (wS (congrArg not h24)) ?_
 refine pu (vb (decide ((creditAt x_l x_a) < 0))) (wS (congrArg not h24)) ?_
 refine pf (vb (decide ((creditAt x_l x_a) < 0))) wN (congrArg not h24) ?_
 refine n2 ?_
 rcases bt (decide ((creditAt x_l x_a) < 0)) with h26 | h26
 ·have q27 := of_decide_eq_true h26
  refine ct h26 ?_
  have hF28 : F_spec_RoomFor x_l x_a = 0 := by simp only [F_spec_RoomFor, h24, h26, cond_true, cond_false]
  exact wj (J16 hF28 _ k22)
 have q29 := of_decide_eq_false h26
 refine cf h26 ?_
 refine wc_skip <| wq_then <| wc_seq ?_
 refine wc_drawT ([(16, [], [], (fun _ v _ => v = (vs a1 x_l.length c2))), (17, [], [], (fun _ v _ => v = (vi (creditAt x_l x_a)))), (18, [], [0, 1], (fun _ v _ => v = (ve (vs a1 x_l.length c2) (((creditAt x_l x_a)).toNat * 4)))), (19, [], [0, 1, 2], (fun _ v _ => v = (ve (vs a1 x_l.length c2) (((creditAt x_l x_a)).toNat * 4 + 2)))), (20, [], [0, 1, 2, 3], (fun _ v _ => v = (vi ((x_l.getD ((creditAt x_l x_a)).toNat z_PCredit).Got)))), (21, [], [0, 1, 2, 3, 4], (fun _ v _ => v = (vi (3 * ((x_l.getD ((creditAt x_l x_a)).toNat z_PCredit).Got))))), (22, [], [], (fun _ v _ => v = (vs a1 x_l.length c2))), (23, [], [], (fun _ v _ => v = (vi (creditAt x_l x_a)))), (24, [], [6, 7], (fun _ v _ => v = (ve (vs a1 x_l.length c2) (((creditAt x_l x_a)).toNat * 4)))), (25, [], [6, 7, 8], (fun _ v _ => v = (ve (vs a1 x_l.length c2) (((creditAt x_l x_a)).toNat * 4 + 3)))), (26, [], [6, 7, 8, 9], (fun _ v _ => v = (vi ((x_l.getD ((creditAt x_l x_a)).toNat z_PCredit).Sent))))] : GV) (fun _ w' => Keep w3 w') [] mixed rfl (by kernel_rfl) (by kernel_rfl) ?_ (fun _ _ h => h) (fun _ _ _ _ h _ k => h.trans k) trivial ?_ ?_ ?_
 ·exact ⟨hV, hE, ⟨hV, hE, ⟨hV, hE, ⟨hV, hE, ⟨hV, hE, ⟨hV, hE, ⟨hV, hE, ⟨hV, hE, ⟨hV, hE, ⟨hV, hE, ⟨hV, hE, trivial⟩⟩⟩⟩⟩⟩⟩⟩⟩⟩⟩
 ·exact trivial
 ·refine ⟨?_, ⟨?_, ⟨?_, ⟨?_, ⟨?_, ⟨?_, ⟨?_, ⟨?_, ⟨?_, ⟨?_, ⟨?_, trivial⟩⟩⟩⟩⟩⟩⟩⟩⟩⟩⟩
  ·intro _ w4 k30 _
   rintro _ _ _ _ _ _ _ _ _ _ _
   show WL _ _ _ _ _ _ _
   refine mw (vs a1 x_l.length c2) ?_
   exact f1
  ·intro _ w4 k32 _
   rintro _ _ _ _ _ _ _ _ _ _ _
   show WL _ _ _ _ _ _ _
   refine mw (vi (creditAt x_l x_a)) ?_
   exact f1
  ·intro _ w4 k34 _
   have m35 := m23.extk k34
   rintro _ rfl _ rfl _ _ _ _ _ _ _ _ _
   show WL _ _ _ _ _ _ _
   refine ix wN (creditAt x_l x_a) slTy_24 (r3.from0 m35) ?_
   exact f1
  ·intro _ w4 k36 _
   have m37 := m23.extk k36
   rintro _ rfl _ rfl _ rfl _ _ _ _ _ _ _ _
   show WL _ _ _ _ _ _ _
   refine wl_fieldE wN rfl rfl rfl fieldAt_33_1 rfl (r3.from0 m37) (by omega) ?_
   exact f1
  ·intro _ w4 k38 _
   have m39 := m23.extk k38
   rintro _ rfl _ rfl _ rfl _ rfl _ _ _ _ _ _ _
   show WL _ _ _ _ _ _ _
   refine wl_loadE (vi ((x_l.getD ((creditAt x_l x_a)).toNat z_PCredit).Got)) wN rfl rfl rfl rfl isAgg_3 (r3.from0 m39) ((rows_get (i := 2) enc_PCredit_len z_PCredit (by first | rfl | simp | omega) (by decide) (by first | omega | (simp only [List.length_cons, List.length_nil, List.length_replicate, List.length_append, List.length_take, List.length_set, List.length_map]; omega))).trans rfl) ?_
   exact f1
  ·intro _ w4 k40 _
   rintro _ rfl _ rfl _ rfl _ rfl _ rfl _ _ _ _ _ _
   show WL _ _ _ _ _ _ _
   refine ar (3 * ((x_l.getD ((creditAt x_l x_a)).toNat z_PCredit).Got)) wN ?_
   exact f1
  ·intro _ w4 k42 _
   rintro _ _ _ _ _ _ _ _ _ _ _
   show WL _ _ _ _ _ _ _
   refine mw (vs a1 x_l.length c2) ?_
   exact f1
  ·intro _ w4 k44 _
   rintro _ _ _ _ _ _ _ _ _ _ _
   show WL _ _ _ _ _ _ _
   refine mw (vi (creditAt x_l x_a)) ?_
   exact f1
  ·intro _ w4 k46 _
   have m47 := m23.extk k46
   rintro _ _ _ _ _ _ _ rfl _ rfl _ _ _
   show WL _ _ _ _ _ _ _
   refine ix wN (creditAt x_l x_a) slTy_24 (r3.from0 m47) ?_
   exact f1
  ·intro _ w4 k48 _
   have m49 := m23.extk k48
   rintro _ _ _ _ _ _ _ rfl _ rfl _ rfl _ _
   show WL _ _ _ _ _ _ _
   refine wl_fieldE wN rfl rfl rfl fieldAt_33_2 rfl (r3.from0 m49) (by omega) ?_
   exact f1
  ·intro _ w4 k50 _
   have m51 := m23.extk k50
   rintro _ _ _ _ _ _ _ rfl _ rfl _ rfl _ rfl _
   show WL _ _ _ _ _ _ _
   refine wl_loadE (vi ((x_l.getD ((creditAt x_l x_a)).toNat z_PCredit).Sent)) wN rfl rfl rfl rfl isAgg_3 (r3.from0 m51) ((rows_get (i := 3) enc_PCredit_len z_PCredit (by first | rfl | simp | omega) (by decide) (by first | omega | (simp only [List.length_cons, List.length_nil, List.length_replicate, List.length_append, List.length_take, List.length_set, List.length_map]; omega))).trans rfl) ?_
   exact f1
 ·intro _ w4 k52
  have m53 := m23.extk k52
  rintro _ rfl _ rfl _ rfl _ rfl _ rfl _ rfl _ rfl _ rfl _ rfl _ rfl _ rfl
  show WL _ _ _ _ _ _ _
  refine ar ((3 * ((x_l.getD ((creditAt x_l x_a)).toNat z_PCredit).Got)) - ((x_l.getD ((creditAt x_l x_a)).toNat z_PCredit).Sent)) wN ?_
  refine aw (vi ((3 * ((x_l.getD ((creditAt x_l x_a)).toNat z_PCredit).Got)) - ((x_l.getD ((creditAt x_l x_a)).toNat z_PCredit).Sent))) ?_
  refine n3 ?_
  refine rt (vi ((3 * ((x_l.getD ((creditAt x_l x_a)).toNat z_PCredit).Got)) - ((x_l.getD ((creditAt x_l x_a)).toNat z_PCredit).Sent))) ?_
  refine ⟨m53.keep0, ?_⟩
  simp only [F_spec_RoomFor, h24, h26, cond_true, cond_false]
  exact rfl
theorem sRoom_b (l : List PCredit) (a : PAddr) : 0 ≤ F_spec_RoomFor l a ∧ F_spec_RoomFor l a ≤ 3000000 := by
  have h := sCr_got l a
  simp only [F_spec_RoomFor, cond_eq_ite, decide_eq_true_eq]
  split
  · rename_i h1
    rw [h1] at h
    split
    · omega
    · rename_i h2
      rcases h with h | h | h
      · simp at h
      · omega
      · omega
  · omega

def O_24_4 (w : World) (lo : Nat) (v : Value) (x : (List PCredit) × (Bool)) : Prop := ∃ (a1 : Option Addr) (c1 : Nat), v = .tuple #[.slice a1 x.1.length c1, .bool x.2] ∧ w.ownsRow lo 33 4 (.slice a1 x.1.length c1) x.1.length (x.1.flatMap enc_PCredit) ∧ x.1.length ≤ 1073741824 ∧ Aps [(a1, c1)]
def F_spec_Spend (x_l : List PCredit) (x_a : PAddr) (x_n : Int) : (List PCredit) × (Bool) := bif (decide ((creditAt x_l x_a) < 0)) then ((x_l, false)) else (bif (sCr x_l) then (bif (F_spec_l1In x_n 0 (F_spec_RoomFor x_l x_a)) then (((x_l.set (((creditAt x_l x_a)).toNat) { A := ((x_l.getD ((creditAt x_l x_a)).toNat z_PCredit).A), Got := ((x_l.getD ((creditAt x_l x_a)).toNat z_PCredit).Got), Sent := (((x_l.getD ((creditAt x_l x_a)).toNat z_PCredit).Sent) + x_n) : PCredit }), true)) else ((x_l, false))) else ((x_l, false)))
theorem C_spec_Spend (w0 : World) (v_x_l : Value) (x_l : List PCredit) (r_x_l : R_24 w0 v_x_l x_l) (v_x_a : Value) (x_a : PAddr) (r_x_a : R_26 w0 v_x_a x_a) (x_n : Int)  : Fn Try.prog 144 #[v_x_l, v_x_a, (vi x_n)] w0 (fun v w' => Keep w0 w' ∧ O_24_4 w' w0.heap.size v (F_spec_Spend x_l x_a x_n)) := by
 obtain ⟨a1, c2, rfl, r3, s4⟩ := r_x_l
 obtain rfl := r_x_a
 refine fn_ofS (n := 44) [(vs a1 x_l.length c2), (va (L_26 x_a)), (vi x_n)] Try.func144 rfl rfl ?_
 refine sr ?_
 refine bx (L_26 x_a) wN ?_
 intro g6 w1 p7 p8 k9 b10
 refine aw (vs none 0 0) ?_
 refine aw (vb false) ?_
 refine nx ?_
 refine wl_lit0 wN rfl rfl slTy_24 (fun w => by kernel_rfl) ?_
 intro a12 w2 k13 o14
 have m15 := ((Ch.base w0).extk k9).extk k13
 refine mw (vs a1 x_l.length c2) ?_
 refine wl_append0 wN rfl rfl rfl slTy_24 rfl rfl o14 (r3.from0 m15) (rows_one (fun u => u.oneCell' = true) enc_PCredit_one) (by first | (simp only [List.length_append, List.length_cons, List.length_nil, List.length_replicate, List.length_take, List.length_drop]; omega) | omega) (by simp only [maxLen]; first | (simp only [List.length_append, List.length_cons, List.length_nil, List.length_replicate, List.length_take, List.length_drop]; omega) | omega) k13.size ?_
 intro u17 w3 k18 o19 j20
 obtain ⟨a21, c22, rfl⟩ := own_form o19
 have n23 : New w2 a21 c22 := j20 _ _ rfl
 have m24 := m15.extk k18
 refine aw (vs a21 x_l.length c22) ?_
 refine nx ?_
 refine mw (vs a1 x_l.length c2) ?_
 have b26 := ((b10.kp k13).kp k18)
 refine lN (L_26 x_a) wN isAgg_26 sizeOf_26 b26 ?_
 refine cl wN (C_spec_l17At w3 _ x_l (mR_24 (r3.from0 m24) s4) _ x_a (mR_26)) ?_
 rintro _ w4 ⟨k27, rfl⟩
 have m28 := m24.extk k27
 have q29 := creditAt_range x_l x_a
 have q30 := sCr_got x_l x_a
 refine aw (vi (creditAt x_l x_a)) ?_
 refine n4 ?_
 refine jT1 [(2, (vi x_n)), (6, (vs none 0 0)), (7, (vb false)), (8, (vs a21 x_l.length c22)), (9, (vi (creditAt x_l x_a)))] (F_spec_Spend x_l x_a x_n = (x_l, false)) ?_ fun J31 => ?_
 ·intro hA32 w5 k34 u33
  have m35 := m28.extk k34
  refine sr ?_
  refine mw (vs a21 x_l.length c22) ?_
  refine aw (vs a21 x_l.length c22) ?_
  refine aw (vb false) ?_
  refine n1 ?_
  have o36 := (own_kp (own_kp o19 k27) k34)
  refine ret_2 (.inl rfl) (vs a21 x_l.length c22) (vb false) rfl rfl rfl ?_
  refine ⟨m35.keep0, ?_⟩
  rw [hA32]
  exact ⟨_, _, rfl, (own_lo o36 k9.size), s4, ⟨trivial, trivial⟩⟩
 refine mw (vi (creditAt x_l x_a)) ?_
 refine pu (vb (decide ((creditAt x_l x_a) < 0))) wN ?_
 refine mw (vb (decide ((creditAt x_l x_a) < 0))) ?_
 rcases bt (decide ((creditAt x_l x_a) < 0)) with h38 | h38
 ·have q39 := of_decide_eq_true h38
  iterate 3 refine sk h38 ?_
  refine pk (vb true) wN h38 ?_
  refine mw (vb true) ?_
  iterate 6 refine sk (Eq.refl true) ?_
  refine pk (vb true) wN (Eq.refl true) ?_
  refine n2 ?_
  refine ct (Eq.refl true) ?_
  have hF40 : F_spec_Spend x_l x_a x_n = (x_l, false) := by simp only [F_spec_Spend, h38, cond_true, cond_false]
  exact wj (J31 hF40 _ (Ch.refl _ _))
 have q41 := of_decide_eq_false h38
 refine mv (vs a1 x_l.length c2) (wS h38) ?_
 refine cl (wS h38) (C_spec_CreditsOk w4 _ x_l (mR_24 (r3.from0 m28) s4)) ?_
 rintro _ w5 ⟨k42, rfl⟩
 have m43 := m28.extk k42
 refine pu (vb (!(sCr x_l))) (wS h38) ?_
 refine pf (vb (!(sCr x_l))) wN h38 ?_
 refine mw (vb (!(sCr x_l))) ?_
 rcases bf (sCr x_l) with h44 | h44
 ·iterate 6 refine sk (congrArg not h44) ?_
  refine pk (vb true) wN (congrArg not h44) ?_
  refine n2 ?_
  refine ct (Eq.refl true) ?_
  have hF63 : F_spec_Spend x_l x_a x_n = (x_l, false) := by simp only [F_spec_Spend, h38, h44, cond_true, cond_false]
  exact wj (J31 hF63 _ k42)
 have q45 := sCr_t h44
 refine mv (vi x_n) (wS (congrArg not h44)) ?_
 refine mv (vs a1 x_l.length c2) (wS (congrArg not h44)) ?_
 have b46 := ((b26.kp k27).kp k42)
 refine lN (L_26 x_a) (wS (congrArg not h44)) isAgg_26 sizeOf_26 b46 ?_
 refine cl (wS (congrArg not h44)) (C_spec_RoomFor w5 _ x_l (mR_24 (r3.from0 m43) s4) _ x_a (mR_26)) ?_
 rintro _ w6 ⟨k47, rfl⟩
 have q49 := sRoom_b x_l x_a
 refine cl (wS (congrArg not h44)) (C_spec_l1In w6 x_n 0 (F_spec_RoomFor x_l x_a)) ?_
 rintro _ w7 ⟨k50, rfl⟩
 refine pu (vb (!(F_spec_l1In x_n 0 (F_spec_RoomFor x_l x_a)))) (wS (congrArg not h44)) ?_
 refine pf (vb (!(F_spec_l1In x_n 0 (F_spec_RoomFor x_l x_a)))) wN (congrArg not h44) ?_
 refine n2 ?_
 rcases bf (F_spec_l1In x_n 0 (F_spec_RoomFor x_l x_a)) with h52 | h52
 ·have q60 := spec_l1In_f h52
  refine ct (congrArg not h52) ?_
  have hF61 : F_spec_Spend x_l x_a x_n = (x_l, false) := by simp only [F_spec_Spend, h38, h44, h52, cond_true, cond_false]
  exact wj (J31 hF61 _ ((k42.trans k47).trans k50))
 have q53 := spec_l1In_t h52
 refine cf (congrArg not h52) ?_
 refine y1 ?_
 refine mw (vs a21 x_l.length c22) ?_
 refine mw (vi (creditAt x_l x_a)) ?_
 refine mw (vs a21 x_l.length c22) ?_
 refine mw (vi (creditAt x_l x_a)) ?_
 have o54 := (own_kp (own_kp (own_kp (own_kp o19 k27) k42) k47) k50)
 refine ix wN (creditAt x_l x_a) slTy_24 (Rd.of_own o54) ?_
 refine wl_fieldE wN rfl rfl rfl fieldAt_33_2 rfl (Rd.of_own o54) (by omega) ?_
 refine wl_loadE (vi ((x_l.getD ((creditAt x_l x_a)).toNat z_PCredit).Sent)) wN rfl rfl rfl rfl isAgg_3 (Rd.of_own o54) ((rows_get (i := 3) enc_PCredit_len z_PCredit (by first | rfl | simp | omega) (by decide) (by first | omega | (simp only [List.length_cons, List.length_nil, List.length_replicate, List.length_append, List.length_take, List.length_set, List.length_map]; omega))).trans rfl) ?_
 refine mw (vi x_n) ?_
 refine ar (((x_l.getD ((creditAt x_l x_a)).toNat z_PCredit).Sent) + x_n) wN ?_
 refine ix wN (creditAt x_l x_a) slTy_24 (Rd.of_own o54) ?_
 refine wl_fieldE wN rfl rfl rfl fieldAt_33_2 rfl (Rd.of_own o54) (by omega) ?_
 refine wl_storeF enc_PCredit_len x_l (((creditAt x_l x_a)).toNat) 3 z_PCredit ({ A := ((x_l.getD ((creditAt x_l x_a)).toNat z_PCredit).A), Got := ((x_l.getD ((creditAt x_l x_a)).toNat z_PCredit).Got), Sent := (((x_l.getD ((creditAt x_l x_a)).toNat z_PCredit).Sent) + x_n) : PCredit }) (vi (((x_l.getD ((creditAt x_l x_a)).toNat z_PCredit).Sent) + x_n)) [(vi (((x_l.getD ((creditAt x_l x_a)).toNat z_PCredit).Sent) + x_n))] wN rfl rfl rfl (by first | rfl | simp | omega) rfl rfl (one_cons rfl one_nil) sizeOf_3 o54 (by first | omega | (simp only [List.length_append, List.length_replicate, List.length_take, List.length_set, List.length_map]; omega)) (by simp) (by simp) rfl ?_
 intro w8 k55 o56
 have m57 := ((m43.extk k47).extk k50).ext k55 (fun k hk => Nat.le_trans k9.size (own_lt o19 k hk).1)
 refine nx ?_
 refine mw (vs a21 x_l.length c22) ?_
 refine aw (vs a21 x_l.length c22) ?_
 refine aw (vb true) ?_
 refine n3 ?_
 refine ret_2 (.inl rfl) (vs a21 x_l.length c22) (vb true) rfl rfl rfl ?_
 refine ⟨m57.keep0, ?_⟩
 simp only [F_spec_Spend, h38, h44, h52, cond_true, cond_false]
 have hN59 : x_l.length = ((x_l.set (((creditAt x_l x_a)).toNat) { A := ((x_l.getD ((creditAt x_l x_a)).toNat z_PCredit).A), Got := ((x_l.getD ((creditAt x_l x_a)).toNat z_PCredit).Got), Sent := (((x_l.getD ((creditAt x_l x_a)).toNat z_PCredit).Sent) + x_n) : PCredit })).length := by first | (simp only [List.length_append, List.length_take, List.length_replicate, List.length_set, List.length_map]; done) | (simp only [List.length_append, List.length_take, List.length_replicate, List.length_set, List.length_map]; omega)
 rw [hN59] at o56 ⊢
 exact ⟨_, _, rfl, (own_lo o56 k9.size), (by rw [← hN59]; exact s4), ⟨trivial, trivial⟩⟩
theorem sSpend_len (l : List PCredit) (a : PAddr) (n : Int) : (F_spec_Spend l a n).1.length = l.length := by
  simp only [F_spec_Spend, cond_eq_ite]
  repeat' split
  all_goals simp

def R_77 (w : World) (v : Value) (x : (List Int)) : Prop := ∃ (a1 : Option Addr) (c1 : Nat), v = .slice a1 x.length c1 ∧ Rd w 1 (.slice a1 x.length c1) x.length (x.map iV) ∧ x.length ≤ 1073741824
theorem C_spec_l17Draw (w0 : World) (g : Nat) (ca : Option Addr) (cc : Nat) (cb : List UInt8) (r_c : CurX w0 g 138 ca cc cb) (x_most : Int) (pre0 : 0 ≤ x_most ∧ x_most ≤ 100) : Fn Try.prog 121 #[(vp g 0), (vi x_most)] w0 (fun v w' => ∃ x : (List PCredit), Ch (fun k => k = g) w0 w' ∧ CurX w' g 138 ca cc cb ∧ O_24 w' w0.heap.size v x ∧ (x.length ≤ 100)) := by
 obtain ⟨ci, chh, hcb, hcr, hcl, hci, hcn⟩ := r_c
 have hgl := Blk.lt hcb
 refine fn_ofS (n := 36) [(vp g 0), (vi x_most)] Try.func121 rfl rfl ?_
 refine sr ?_
 refine aw (vs none 0 0) ?_
 refine nx ?_
 refine wl_lit0 wN rfl rfl slTy_24 (fun w => by kernel_rfl) ?_
 intro a1 w1 k2 o3
 have m4 := ChG.extk (Ch.refl (fun k => k = g) w0) k2
 refine aw (vs (some a1) 0 0) ?_
 refine n4 ?_
 refine mw (vp g 0) ?_
 refine mw (vi x_most) ?_
 refine ar (x_most + 1) wN ?_
 have b6 := (hcb.kp k2)
 refine cl wN (C_spec_l1Below w1 g ca cc cb ⟨_, _, b6, (Rd.chP hcr m4 hcn), hcl, (by omega), hcn⟩ (x_most + 1)) ?_
 rintro _ w2 ⟨x8, k7, ⟨i10, h11, b12, r13, l14, p15, n16⟩, rfl, q9⟩
 have m17 := ChG.ext m4 k7 (fun k hk => .inl hk)
 refine aw (vi (x8)) ?_
 refine wl_nil <| wq_then <| wc_block ?_
 have o19 := (own_ch o3 k7 (ne1 o3 (hgl)))
 have hE20 : ([] : List PCredit) = ([] : List PCredit) := by simp
 have hN21 : 0 = (([] : List PCredit)).length := by rw [← hE20]; try (first | rfl | simp only [List.length_set] | simp)
 refine wc_loopP [(0, (vp g 0)), (4, (vs none 0 0)), (5, (.slice (some a1) (([] : List PCredit)).length 0)), (6, (vi (x8)))] ⟨rfl, rfl, rfl, rfl, trivial⟩ (fun e' w' => ∃ (l : List PCredit) (q : Int) (u18 : Env) (a5x : Option Addr) (c5x : Nat), e' = pt u18 [(0, (vp g 0)), (4, (vs none 0 0)), (5, (.slice a5x (l).length c5x)), (6, (vi q))] ∧ Ch (fun k => k = g) w0 w' ∧ Ch (fun k => k = g ∨ w0.heap.size ≤ k) w2 w' ∧ (l.length : Int) + q ≤ x_most ∧ 0 ≤ q ∧ (World.ownsRow w' w0.heap.size 33 4 (.slice a5x (l).length c5x) (l).length ((l).flatMap enc_PCredit) ∧ (l).length ≤ 1073741824) ∧ CurX w' g 138 ca cc cb) (fun e' _ => ((intOf (e' 6))).toNat) ?_ ?_
 ·exact fun u => ⟨([] : List PCredit), (x8), u, (some a1), 0, rfl, m17, (Ch.refl (fun k => k = g ∨ w0.heap.size ≤ k) w2), (by omega), (by omega), ⟨(by rw [← hN21, ← hE20]; exact o19), (by rw [← hN21]; first | exact (by simp) | (simp only [List.length_append, List.length_take, List.length_replicate]; omega))⟩, ⟨_, _, b12, (Rd.chP hcr m17 hcn), hcl, (by omega), hcn⟩⟩
 ·rintro _ w3 ⟨l, q, u18, a5x, c5x, rfl, m22, k23, i24, i25, ⟨o26, s27⟩, ⟨i28, h29, b30, r31, l32, p33, n34⟩⟩
  refine wc_seq <| sr ?_
  refine mw (vi q) ?_
  refine pu (vb (decide (0 < q))) wN ?_
  refine n2 ?_
  rcases bf (decide (0 < q)) with h36 | h36
  ·have q469 := of_decide_eq_false h36
   refine cf h36 ?_
   refine wc_exit <| wq_then_exit <| wq_then_exit <| wq_blk_exit <| wq_then <| sr ?_
   refine mw (vs a5x (l).length c5x) ?_
   refine aw (vs a5x (l).length c5x) ?_
   refine n3 ?_
   refine rt (vs a5x (l).length c5x) ?_
   have hN470 : (l).length = (l).length := by first | (simp only [List.length_append, List.length_take, List.length_replicate, List.length_set, List.length_map]; done) | (simp only [List.length_append, List.length_take, List.length_replicate, List.length_set, List.length_map]; omega)
   rw [hN470] at o26 ⊢
   exact ⟨l, m22, ⟨_, _, b30, (Rd.chP hcr m22 hcn), hcl, (by omega), hcn⟩, ⟨_, _, rfl, o26, (by rw [← hN470]; exact s27), ⟨trivial, trivial⟩⟩, (by omega)⟩
  have q37 := of_decide_eq_true h36
  refine ct h36 ?_
  refine wc_skip <| wq_then <| wc_seq <| wc_block <| sr ?_
  refine mw (vp g 0) ?_
  refine cl wN (C_spec_l1Below w3 g ca cc cb ⟨_, _, b30, (Rd.chP hcr m22 hcn), hcl, (by omega), hcn⟩ 10) ?_
  rintro _ w4 ⟨x39, k38, ⟨i41, h42, b43, r44, l45, p46, n47⟩, rfl, q40⟩
  have m48 := ChG.ext m22 k38 (fun k hk => .inl hk)
  refine cl wN (C_spec_Near w4 (x39)) ?_
  rintro _ w5 ⟨k49, rfl⟩
  have m50 := ChG.extk m48 k49
  refine al [(vi 0), (vi 0)] wN zero_26 ?_
  intro g51 w6 p52 p53 k54 b55
  have m56 := ChG.extk m50 k54
  refine st (va (L_26 (F_spec_Near (x39)))) (L_26 (F_spec_Near (x39))) (L_26 (F_spec_Near (x39))) wN sizeOf_26 b55 ?_
  intro w7 k57 b58 z59
  have m60 := ChG.ext m56 k57 (fun k hk => .inr (by subst hk; exact Nat.le_trans (z5 k2 k7 k23 k38 k49) p52))
  refine wl_nil <| wq_then <| wc_seq ?_
  have b96 := (((b43.kp k49).kp k54).ch k57 (Nat.ne_of_lt (Nat.lt_of_lt_of_le hgl (Nat.le_trans (z5 k2 k7 k23 k38 k49) p52))))
  refine wc_drawT ([(20, [], [], (fun _ v _ => v = (vs a5x (l).length c5x))), (21, [], [], (fun _ v _ => v = (va (L_26 (F_spec_Near (x39)))))), (22, [], [], (fun _ v _ => v = (vp g 0))), (23, [], [], (fun _ v w => ∃ (a1 : Option Addr) (c1 : Nat), v = .slice a1 ([0, 1, 34, 60, 999999, 1000000] : List Int).length c1 ∧ w.ownsRow w7.heap.size 3 1 (.slice a1 ([0, 1, 34, 60, 999999, 1000000] : List Int).length c1) ([0, 1, 34, 60, 999999, 1000000] : List Int).length (([0, 1, 34, 60, 999999, 1000000] : List Int).map iV) ∧ ([0, 1, 34, 60, 999999, 1000000] : List Int).length ≤ 1073741824 ∧ Aps [(a1, c1)])), (24, [], [2, 3], (fun _ v _ => ∃ x95 : Int, v = vi x95 ∧ x95 ∈ ([0, 1, 34, 60, 999999, 1000000] : List Int)))] : GV) (fun lf w' => Ch (fun k => k = g) w7 w' ∧ CurX w' g 138 ca cc cb) [(4, fun w w' => Ch (fun k => k = g) w w' ∧ (CurX w g 138 ca cc cb → CurX w' g 138 ca cc cb))] mixed rfl (by kernel_rfl) (by kernel_rfl) ?_ (fun _ _ h => ⟨h.to _, CurX.kp ⟨_, _, b96, (Rd.chP hcr m60 hcn), hcl, (by omega), hcn⟩ h⟩) (fun _ _ _ _ h mo k => by obtain ⟨hc, hcur⟩ := h; exact ⟨hc.comp k (fun _ _ q => q.elim), hcur.kp k⟩) ⟨(fun _ _ w w' h mo hj t => by obtain ⟨hc, hcur⟩ := h; exact ⟨hc.comp t.1 (fun _ _ q => q), t.2 hcur⟩), trivial⟩ ?_ ?_ ?_
  ·exact ⟨hV, hE, ⟨hV, hE, ⟨hV, hE, ⟨(fun e v w w1 h hk => by obtain ⟨a0x, c0x, he, o0x, l0x, hap⟩ := h; exact ⟨a0x, c0x, he, own_kp o0x hk, l0x, hap⟩), hE, ⟨hV, hE, trivial⟩⟩⟩⟩⟩
  ·exact ⟨⟨.inr hV, ⟨.inr hV, ⟨.inr hV, ⟨.inr (fun e v wX wY h ht => by obtain ⟨a0x, c0x, he, o0x, l0x, hap⟩ := h; exact ⟨a0x, c0x, he, own_ch o0x ht.1 (fun gq hg _ hk => by have h1 := (own_lt o0x gq hg).1; have h3 : gq = g := hk; have h4 := (Nat.lt_of_lt_of_le hgl (z7 k2 k7 k23 k38 k49 k54 k57)); omega), l0x, hap⟩), ⟨.inl rfl, trivial⟩⟩⟩⟩⟩, trivial⟩
  ·refine ⟨?_, ⟨?_, ⟨?_, ⟨?_, ⟨?_, trivial⟩⟩⟩⟩⟩
   ·rintro lf w8 ⟨k97, ⟨i99, h100, b101, r102, l103, p104, n105⟩⟩ ⟨n98, -⟩
    rintro _ _ _ _ _
    show WL _ _ _ _ _ _ _
    refine mw (vs a5x (l).length c5x) ?_
    exact f1
   ·rintro lf w8 ⟨k107, ⟨i109, h110, b111, r112, l113, p114, n115⟩⟩ ⟨n108, -⟩
    rintro _ _ _ _ _
    show WL _ _ _ _ _ _ _
    have b117 := (b58.ch k107 (Ne.symm (Nat.ne_of_lt (Nat.lt_of_lt_of_le hgl (Nat.le_trans (z5 k2 k7 k23 k38 k49) p52)))))
    refine lN (L_26 (F_spec_Near (x39))) wN isAgg_26 sizeOf_26 b117 ?_
    exact f1
   ·rintro lf w8 ⟨k118, ⟨i120, h121, b122, r123, l124, p125, n126⟩⟩ ⟨n119, -⟩
    rintro _ _ _ _ _
    show WL _ _ _ _ _ _ _
    refine mw (vp g 0) ?_
    exact f1
   ·rintro lf w8 ⟨k128, ⟨i130, h131, b132, r133, l134, p135, n136⟩⟩ ⟨n129, -⟩
    rintro _ _ _ _ _
    show WL _ _ _ _ _ _ _
    refine ltI ([0, 1, 34, 60, 999999, 1000000] : List Int) wN slTy_77 ?_
    intro a138 c139 w9 k140 o141
    exact wl_finT k140 ⟨_, _, rfl, (own_lo o141 k128.size), (by simp), ⟨trivial, trivial⟩⟩
   ·rintro lf w8 ⟨k144, ⟨i146, h147, b148, r149, l150, p151, n152⟩⟩ ⟨n145, -⟩
    have m153 := ChG.ext m60 k144 (fun k hk => .inl hk)
    rintro _ _ _ rfl _ ⟨a154, c155, rfl, o156, s157, -⟩ _
    show WL _ _ _ _ _ _ _
    refine cl wN (C_spec_l1Int w8 g ca cc cb ⟨_, _, b148, (Rd.chP hcr m153 hcn), hcl, (by omega), hcn⟩ _ ([0, 1, 34, 60, 999999, 1000000] : List Int) ⟨_, _, rfl, (Rd.of_own o156), s157, (fun _ z hz => by have h1 := (own_lt o156 z.block (by rw [hz]; rfl)).1; have h2 := Nat.lt_of_lt_of_le hgl (z7 k2 k7 k23 k38 k49 k54 k57); omega)⟩ (by simp)) ?_
    rintro _ w9 ⟨x160, k159, ⟨i162, h163, b164, r165, l166, p167, n168⟩, rfl, q161⟩
    have m169 := ChG.ext m153 k159 (fun k hk => .inl hk)
    have q161m : x160 = 0 ∨ x160 = 1 ∨ x160 = 34 ∨ x160 = 60 ∨ x160 = 999999 ∨ x160 = 1000000 := by simpa only [List.mem_cons, List.not_mem_nil, or_false] using q161
    exact wl_finT ⟨k159, fun _ => ⟨_, _, b164, (Rd.chP hcr m169 hcn), hcl, (by omega), hcn⟩⟩ ⟨_, rfl, q161⟩
  ·rintro lf w8 ⟨k170, ⟨i172, h173, b174, r175, l176, p177, n178⟩⟩
   have m179 := ChG.ext m60 k170 (fun k hk => .inl hk)
   rintro _ rfl _ rfl _ rfl _ ⟨a181, c182, rfl, o183, s184, -⟩ _ ⟨x95, rfl, q186⟩
   have q186m : x95 = 0 ∨ x95 = 1 ∨ x95 = 34 ∨ x95 = 60 ∨ x95 = 999999 ∨ x95 = 1000000 := by simpa only [List.mem_cons, List.not_mem_nil, or_false] using q186
   show WL _ _ _ _ _ _ _
   have o187 := (own_ch (own_ch (own_kp (own_kp (own_ch o26 k38 (ne1 o26 (hgl))) k49) k54) k57 (ne2 o26 (Nat.le_trans (z2 k38 k49) p52))) k170 (ne1 o26 (hgl)))
   refine cl wN (C_spec_Gain w8 _ l (mR_24 (Rd.of_own o187) s27) _ (F_spec_Near (x39)) (mR_26) x95) ?_
   rintro _ w9 ⟨k188, ⟨a189, c190, rfl, o191, s192, ap194⟩⟩
   have m195 := ChG.extk m179 k188
   have q196 := sGain_len l (F_spec_Near (x39)) x95
   refine aw (vs a189 (F_spec_Gain l (F_spec_Near (x39)) x95).length c190) ?_
   refine n2 ?_
   have b242 := (b174.kp k188)
   refine wc_drawW ([(27, [], [], (fun _ v _ => v = (vs a189 (F_spec_Gain l (F_spec_Near (x39)) x95).length c190))), (28, [], [], (fun _ v _ => v = (va (L_26 (F_spec_Near (x39)))))), (29, [], [], (fun _ v _ => v = (vp g 0))), (30, [], [], (fun _ v w => ∃ (a1 : Option Addr) (c1 : Nat), v = .slice a1 ([0, 3, 45, 102, 1000] : List Int).length c1 ∧ w.ownsRow w9.heap.size 3 1 (.slice a1 ([0, 3, 45, 102, 1000] : List Int).length c1) ([0, 3, 45, 102, 1000] : List Int).length (([0, 3, 45, 102, 1000] : List Int).map iV) ∧ ([0, 3, 45, 102, 1000] : List Int).length ≤ 1073741824 ∧ Aps [(a1, c1)])), (31, [], [2, 3], (fun _ v _ => ∃ x233 : Int, v = vi x233 ∧ x233 ∈ ([0, 3, 45, 102, 1000] : List Int))), (32, [30], [0, 1, 2, 3, 4], (fun e v w => ∃ (z234 : Int), ∃ (a1 : Option Addr) (c1 : Nat), v = .tuple #[.slice a1 ((F_spec_Spend (F_spec_Gain l (F_spec_Near (x39)) x95) (F_spec_Near (x39)) z234).1).length c1, .bool ((F_spec_Spend (F_spec_Gain l (F_spec_Near (x39)) x95) (F_spec_Near (x39)) z234).2)] ∧ w.ownsRow (w9.heap.size) 33 4 (.slice a1 ((F_spec_Spend (F_spec_Gain l (F_spec_Near (x39)) x95) (F_spec_Near (x39)) z234).1).length c1) ((F_spec_Spend (F_spec_Gain l (F_spec_Near (x39)) x95) (F_spec_Near (x39)) z234).1).length (((F_spec_Spend (F_spec_Gain l (F_spec_Near (x39)) x95) (F_spec_Near (x39)) z234).1).flatMap enc_PCredit) ∧ ((F_spec_Spend (F_spec_Gain l (F_spec_Near (x39)) x95) (F_spec_Near (x39)) z234).1).length ≤ 1073741824 ∧ Aps [(a1, c1)] ∧ Ap (sp (e 30)) (a1, c1))), (26, [32], [0, 1, 2, 3, 4, 5], (fun e v _ => v = (e 32))), (33, [32], [0, 1, 2, 3, 4, 5, 6], (fun e v _ => v = (tupAt (e 32) 0))), (34, [], [0, 1, 2, 3, 4, 5, 6], (fun _ v _ => ∃ z : Bool, v = vb z)), (5, [32], [0, 1, 2, 3, 4, 5, 6, 7], (fun e v _ => v = (tupAt (e 32) 0)))] : GV) [[5, 6, 7, 8, 9], [5, 6, 7, 8, 9], [4, 5, 6, 7, 8, 9], [4, 5, 6, 7, 8, 9], [5, 6, 7, 8, 9], [6, 7, 8, 9], [7, 8, 9], [9], [], []] (by kernel_rfl) (fun lf w' => Ch (fun k => k = g) w9 w' ∧ CurX w' g 138 ca cc cb) [(4, fun w w' => Ch (fun k => k = g) w w' ∧ (CurX w g 138 ca cc cb → CurX w' g 138 ca cc cb))] mixed rfl (by kernel_rfl) (by kernel_rfl) ?_ (fun _ _ h => ⟨h.to _, CurX.kp ⟨_, _, b242, (Rd.chP hcr m195 hcn), hcl, (by omega), hcn⟩ h⟩) (fun _ _ _ _ h mo k => by obtain ⟨hc, hcur⟩ := h; exact ⟨hc.comp k (fun _ _ q => q.elim), hcur.kp k⟩) ⟨(fun _ _ w w' h mo hj t => by obtain ⟨hc, hcur⟩ := h; exact ⟨hc.comp t.1 (fun _ _ q => q), t.2 hcur⟩), trivial⟩ ?_ ?_ ?_
   ·exact ⟨hV, hE, ⟨hV, hE, ⟨hV, hE, ⟨(fun e v w w1 h hk => by obtain ⟨a0x, c0x, he, o0x, l0x, hap⟩ := h; exact ⟨a0x, c0x, he, own_kp o0x hk, l0x, hap⟩), hE, ⟨hV, hE, ⟨(fun e v w w1 h hk => by obtain ⟨z0x, a0x, c0x, he, o0x, l0x, hap, hx⟩ := h; exact ⟨z0x, a0x, c0x, he, own_kp o0x hk, l0x, hap, hx⟩), (fun e1 e2 v w hx h => by have h30x := hx 30 (by simp); simp only [h30x] at h; exact h), ⟨hV, (fun e1 e2 v w hx h => by have h32x := hx 32 (by simp); simp only [h32x] at h; exact h), ⟨hV, (fun e1 e2 v w hx h => by have h32x := hx 32 (by simp); simp only [h32x] at h; exact h), ⟨hV, hE, ⟨hV, (fun e1 e2 v w hx h => by have h32x := hx 32 (by simp); simp only [h32x] at h; exact h), trivial⟩⟩⟩⟩⟩⟩⟩⟩⟩⟩
   ·exact ⟨⟨.inr hV, ⟨.inr hV, ⟨.inr hV, ⟨.inr (fun e v wX wY h ht => by obtain ⟨a0x, c0x, he, o0x, l0x, hap⟩ := h; exact ⟨a0x, c0x, he, own_ch o0x ht.1 (fun gq hg _ hk => by have h1 := (own_lt o0x gq hg).1; have h3 : gq = g := hk; have h4 := (Nat.lt_of_lt_of_le hgl (z9 k2 k7 k23 k38 k49 k54 k57 k170 k188)); omega), l0x, hap⟩), ⟨.inl rfl, ⟨.inr (fun e v wX wY h ht => by obtain ⟨z0x, a0x, c0x, he, o0x, l0x, hap, hx⟩ := h; exact ⟨z0x, a0x, c0x, he, own_ch o0x ht.1 (fun gq hg _ hk => by have h1 := (own_lt o0x gq hg).1; have h3 : gq = g := hk; have h4 := (Nat.lt_of_lt_of_le hgl (z9 k2 k7 k23 k38 k49 k54 k57 k170 k188)); omega), l0x, hap, hx⟩), ⟨.inr hV, ⟨.inr hV, ⟨.inr hV, ⟨.inr hV, trivial⟩⟩⟩⟩⟩⟩⟩⟩⟩⟩, trivial⟩
   ·refine ⟨?_, ⟨?_, ⟨?_, ⟨?_, ⟨?_, ⟨?_, ⟨?_, ⟨?_, ⟨?_, ⟨?_, trivial⟩⟩⟩⟩⟩⟩⟩⟩⟩⟩
    ·rintro lf w10 ⟨k243, ⟨i245, h246, b247, r248, l249, p250, n251⟩⟩ ⟨n244, -⟩
     rintro _ _ _ _ _
     show WL _ _ _ _ _ _ _
     refine mw (vs a189 (F_spec_Gain l (F_spec_Near (x39)) x95).length c190) ?_
     exact f1
    ·rintro lf w10 ⟨k253, ⟨i255, h256, b257, r258, l259, p260, n261⟩⟩ ⟨n254, -⟩
     rintro _ _ _ _ _
     show WL _ _ _ _ _ _ _
     have b263 := (((b58.ch k170 (Ne.symm (Nat.ne_of_lt (Nat.lt_of_lt_of_le hgl (Nat.le_trans (z5 k2 k7 k23 k38 k49) p52))))).kp k188).ch k253 (Ne.symm (Nat.ne_of_lt (Nat.lt_of_lt_of_le hgl (Nat.le_trans (z5 k2 k7 k23 k38 k49) p52)))))
     refine lN (L_26 (F_spec_Near (x39))) wN isAgg_26 sizeOf_26 b263 ?_
     exact f1
    ·rintro lf w10 ⟨k264, ⟨i266, h267, b268, r269, l270, p271, n272⟩⟩ ⟨n265, -⟩
     rintro _ _ _ _
     show WL _ _ _ _ _ _ _
     refine mw (vp g 0) ?_
     exact f1
    ·rintro lf w10 ⟨k274, ⟨i276, h277, b278, r279, l280, p281, n282⟩⟩ ⟨n275, -⟩
     rintro _ _ _ _
     show WL _ _ _ _ _ _ _
     refine ltI ([0, 3, 45, 102, 1000] : List Int) wN slTy_77 ?_
     intro a284 c285 w11 k286 o287
     exact wl_finT k286 ⟨_, _, rfl, (own_lo o287 k274.size), (by simp), ⟨trivial, trivial⟩⟩
    ·rintro lf w10 ⟨k290, ⟨i292, h293, b294, r295, l296, p297, n298⟩⟩ ⟨n291, -⟩
     have m299 := ChG.ext m195 k290 (fun k hk => .inl hk)
     rintro _ _ _ rfl _ ⟨a300, c301, rfl, o302, s303, -⟩ _
     show WL _ _ _ _ _ _ _
     refine cl wN (C_spec_l1Int w10 g ca cc cb ⟨_, _, b294, (Rd.chP hcr m299 hcn), hcl, (by omega), hcn⟩ _ ([0, 3, 45, 102, 1000] : List Int) ⟨_, _, rfl, (Rd.of_own o302), s303, (fun _ z hz => by have h1 := (own_lt o302 z.block (by rw [hz]; rfl)).1; have h2 := Nat.lt_of_lt_of_le hgl (z9 k2 k7 k23 k38 k49 k54 k57 k170 k188); omega)⟩ (by simp)) ?_
     rintro _ w11 ⟨x306, k305, ⟨i308, h309, b310, r311, l312, p313, n314⟩, rfl, q307⟩
     have m315 := ChG.ext m299 k305 (fun k hk => .inl hk)
     have q307m : x306 = 0 ∨ x306 = 3 ∨ x306 = 45 ∨ x306 = 102 ∨ x306 = 1000 := by simpa only [List.mem_cons, List.not_mem_nil, or_false] using q307
     exact wl_finT ⟨k305, fun _ => ⟨_, _, b310, (Rd.chP hcr m315 hcn), hcl, (by omega), hcn⟩⟩ ⟨_, rfl, q307⟩
    ·rintro lf w10 ⟨k316, ⟨i318, h319, b320, r321, l322, p323, n324⟩⟩ ⟨n317, -⟩
     rintro _ rfl _ rfl _ rfl _ ⟨a327, c328, rfl, o329, s330, -⟩ _ ⟨x233, rfl, q332⟩
     have q332m : x233 = 0 ∨ x233 = 3 ∨ x233 = 45 ∨ x233 = 102 ∨ x233 = 1000 := by simpa only [List.mem_cons, List.not_mem_nil, or_false] using q332
     intro _
     show WL _ _ _ _ _ _ _
     have o333 := (own_ch o191 k316 (ne1 o191 (Nat.lt_of_lt_of_le hgl (z8 k2 k7 k23 k38 k49 k54 k57 k170))))
     refine cl wN (C_spec_Spend w10 _ (F_spec_Gain l (F_spec_Near (x39)) x95) (mR_24 (Rd.of_own o333) s192) _ (F_spec_Near (x39)) (mR_26) x233) ?_
     rintro _ w11 ⟨k334, ⟨a335, c336, rfl, o337, s338, ap340⟩⟩
     have q342 := sSpend_len (F_spec_Gain l (F_spec_Near (x39)) x95) (F_spec_Near (x39)) x233
     exact wl_finT k334 ⟨x233, _, _, rfl, (own_lo o337 k316.size), s338, ap340, (Ap.lt o329 o337 (Nat.le_refl _))⟩
    ·rintro lf w10 ⟨k343, ⟨i345, h346, b347, r348, l349, p350, n351⟩⟩ ⟨n344, -⟩
     rintro _ rfl _ rfl _ rfl _ ⟨a354, c355, rfl, o356, s357, -⟩ _ ⟨x233, rfl, q359⟩
     have q359m : x233 = 0 ∨ x233 = 3 ∨ x233 = 45 ∨ x233 = 102 ∨ x233 = 1000 := by simpa only [List.mem_cons, List.not_mem_nil, or_false] using q359
     rintro _ ⟨z234, a360, c361, rfl, o362, s363, ap365, hx366⟩
     have q367 := sSpend_len (F_spec_Gain l (F_spec_Near (x39)) x95) (F_spec_Near (x39)) z234
     intro _
     show WL _ _ _ _ _ _ _
     refine mw (.tuple #[(vs a360 ((F_spec_Spend (F_spec_Gain l (F_spec_Near (x39)) x95) (F_spec_Near (x39)) z234).1).length c361), (vb ((F_spec_Spend (F_spec_Gain l (F_spec_Near (x39)) x95) (F_spec_Near (x39)) z234).2))]) ?_
     exact f1
    ·rintro lf w10 ⟨k368, ⟨i370, h371, b372, r373, l374, p375, n376⟩⟩ ⟨n369, -⟩
     rintro _ rfl _ rfl _ rfl _ ⟨a379, c380, rfl, o381, s382, -⟩ _ ⟨x233, rfl, q384⟩
     have q384m : x233 = 0 ∨ x233 = 3 ∨ x233 = 45 ∨ x233 = 102 ∨ x233 = 1000 := by simpa only [List.mem_cons, List.not_mem_nil, or_false] using q384
     rintro _ ⟨z234, a385, c386, rfl, o387, s388, ap390, hx391⟩
     have q392 := sSpend_len (F_spec_Gain l (F_spec_Near (x39)) x95) (F_spec_Near (x39)) z234
     rintro _ rfl _ _
     show WL _ _ _ _ _ _ _
     refine pu (vs a385 ((F_spec_Spend (F_spec_Gain l (F_spec_Near (x39)) x95) (F_spec_Near (x39)) z234).1).length c386) wN ?_
     exact f1
    ·rintro lf w10 ⟨k393, ⟨i395, h396, b397, r398, l399, p400, n401⟩⟩ ⟨n394, -⟩
     rintro _ rfl _ rfl _ rfl _ ⟨a404, c405, rfl, o406, s407, -⟩ _ ⟨x233, rfl, q409⟩
     have q409m : x233 = 0 ∨ x233 = 3 ∨ x233 = 45 ∨ x233 = 102 ∨ x233 = 1000 := by simpa only [List.mem_cons, List.not_mem_nil, or_false] using q409
     rintro _ ⟨z234, a410, c411, rfl, o412, s413, ap415, hx416⟩
     have q417 := sSpend_len (F_spec_Gain l (F_spec_Near (x39)) x95) (F_spec_Near (x39)) z234
     rintro _ rfl _ _ _
     show WL _ _ _ _ _ _ _
     refine pu (vb ((F_spec_Spend (F_spec_Gain l (F_spec_Near (x39)) x95) (F_spec_Near (x39)) z234).2)) wN ?_
     exact wl_finT (Ch.refl _ _) ⟨_, rfl⟩
    ·rintro lf w10 ⟨k418, ⟨i420, h421, b422, r423, l424, p425, n426⟩⟩ ⟨n419, -⟩
     rintro _ rfl _ rfl _ rfl _ ⟨a429, c430, rfl, o431, s432, -⟩ _ ⟨x233, rfl, q434⟩
     have q434m : x233 = 0 ∨ x233 = 3 ∨ x233 = 45 ∨ x233 = 102 ∨ x233 = 1000 := by simpa only [List.mem_cons, List.not_mem_nil, or_false] using q434
     rintro _ ⟨z234, a435, c436, rfl, o437, s438, ap440, hx441⟩
     have q442 := sSpend_len (F_spec_Gain l (F_spec_Near (x39)) x95) (F_spec_Near (x39)) z234
     rintro _ rfl _ rfl _ _
     show WL _ _ _ _ _ _ _
     refine aw (vs a435 ((F_spec_Spend (F_spec_Gain l (F_spec_Near (x39)) x95) (F_spec_Near (x39)) z234).1).length c436) ?_
     exact f1
   ·rintro lf w10 ⟨k443, ⟨i445, h446, b447, r448, l449, p450, n451⟩⟩
    have m452 := ChG.ext m195 k443 (fun k hk => .inl hk)
    rintro _ rfl _ rfl _ rfl _ ⟨a454, c455, rfl, o456, s457, -⟩ _ ⟨x233, rfl, q459⟩
    have q459m : x233 = 0 ∨ x233 = 3 ∨ x233 = 45 ∨ x233 = 102 ∨ x233 = 1000 := by simpa only [List.mem_cons, List.not_mem_nil, or_false] using q459
    rintro _ ⟨z234, a460, c461, rfl, o462, s463, ap465, hx466⟩
    have q467 := sSpend_len (F_spec_Gain l (F_spec_Near (x39)) x95) (F_spec_Near (x39)) z234
    rintro _ rfl _ rfl _ ⟨x241, rfl⟩ _ rfl
    show WL _ _ _ _ _ _ _
    refine wl_nil <| wq_blk_normal <| wq_then <| wc_region ?_
    refine mw (vi q) ?_
    refine ar (q - 1) wN ?_
    refine aw (vi (q - 1)) ?_
    refine wl_nil ?_
    have hE468 : ((F_spec_Spend (F_spec_Gain l (F_spec_Near (x39)) x95) (F_spec_Near (x39)) z234).1 : List PCredit) = (F_spec_Spend (F_spec_Gain l (F_spec_Near (x39)) x95) (F_spec_Near (x39)) z234).1 := by simp
    refine wq_loopP (w0 := w3) [(0, (vp g 0)), (4, (vs none 0 0)), (5, (.slice a460 ((F_spec_Spend (F_spec_Gain l (F_spec_Near (x39)) x95) (F_spec_Near (x39)) z234).1).length c461)), (6, (vi (q - 1)))] ?_ ?_ ?_
    · exact ⟨rfl, rfl, (congrArg (fun l : List PCredit => Value.slice a460 l.length c461) hE468), rfl, trivial⟩
    · exact fun u => ⟨(F_spec_Spend (F_spec_Gain l (F_spec_Near (x39)) x95) (F_spec_Near (x39)) z234).1, (q - 1), u, a460, c461, rfl, m452, (ChO.ext (ChO.extk (ChO.ext (ChO.ext (ChO.extk (ChO.extk (ChO.ext (ChO.ext (Ch.refl (fun k => k = g ∨ w0.heap.size ≤ k) w2) k23 (fun k hk => hk.elim .inl (fun hk => .inr (hk)))) k38 (fun k hk => .inl hk)) k49) k54) k57 (fun k hk => .inr (by subst hk; exact Nat.le_trans (z5 k2 k7 k23 k38 k49) p52))) k170 (fun k hk => .inl hk)) k188) k443 (fun k hk => .inl hk)), (by omega), (by omega), (hE468 ▸ ⟨(own_lo o462 (z9 k2 k7 k23 k38 k49 k54 k57 k170 k188)), s463⟩), ⟨_, _, b447, (Rd.chP hcr m452 hcn), hcl, (by omega), hcn⟩⟩
    · show ((q - 1)).toNat < (q).toNat; omega

theorem C_spec_l1Once (w0 : World) (g : Nat) (ca : Option Addr) (cc : Nat) (cb : List UInt8) (r_c : CurX w0 g 138 ca cc cb) (x_n : Int)  : Fn Try.prog 66 #[(vp g 0), (vi x_n)] w0 (fun v w' => ∃ x : (Bool), Ch (fun k => k = g) w0 w' ∧ CurX w' g 138 ca cc cb ∧ O_4 w' w0.heap.size v x ∧ (True)) := by
 obtain ⟨ci, chh, hcb, hcr, hcl, hci, hcn⟩ := r_c
 have hgl := Blk.lt hcb
 refine fn_ofS (n := 9) [(vp g 0), (vi x_n)] Try.func66 rfl rfl ?_
 refine sr ?_
 refine aw (vb false) ?_
 refine nx ?_
 refine mw (vp g 0) ?_
 refine mw (vi x_n) ?_
 refine cl wN (C_spec_l1Below w0 g ca cc cb ⟨_, _, hcb, hcr, hcl, (by omega), hcn⟩ x_n) ?_
 rintro _ w1 ⟨x2, k1, ⟨i4, h5, b6, r7, l8, p9, n10⟩, rfl, q3⟩
 have m11 := ChG.ext (Ch.refl (fun k => k = g) w0) k1 (fun k hk => .inl hk)
 refine pu (vb (decide ((x2) = 0))) wN ?_
 refine aw (vb (decide ((x2) = 0))) ?_
 refine n3 ?_
 refine rt (vb (decide ((x2) = 0))) ?_
 exact ⟨decide ((x2) = 0), m11, ⟨_, _, b6, (Rd.chP hcr m11 hcn), hcl, (by omega), hcn⟩, rfl, trivial⟩

theorem C_spec_l6Draw (w0 : World) (g : Nat) (ca : Option Addr) (cc : Nat) (cb : List UInt8) (r_c : CurX w0 g 138 ca cc cb)  : Fn Try.prog 123 #[(vp g 0)] w0 (fun v w' => ∃ x : (PAddr), Ch (fun k => k = g) w0 w' ∧ CurX w' g 138 ca cc cb ∧ O_26 w' w0.heap.size v x ∧ (True)) := by
 obtain ⟨ci, chh, hcb, hcr, hcl, hci, hcn⟩ := r_c
 have hgl := Blk.lt hcb
 refine fn_ofS (n := 17) [(vp g 0)] Try.func123 rfl rfl ?_
 refine sr ?_
 refine al [(vi 0), (vi 0)] wN zero_26 ?_
 intro g1 w1 p2 p3 k4 b5
 have m6 := ChG.extk (Ch.refl (fun k => k = g) w0) k4
 refine n4 ?_
 refine mw (vp g 0) ?_
 have b7 := (hcb.kp k4)
 refine cl wN (C_spec_l1Once w1 g ca cc cb ⟨_, _, b7, (Rd.chP hcr m6 hcn), hcl, (by omega), hcn⟩ 3) ?_
 rintro _ w2 ⟨x9, k8, ⟨i11, h12, b13, r14, l15, p16, n17⟩, rfl, q10⟩
 have m18 := ChG.ext m6 k8 (fun k hk => .inl hk)
 refine n2 ?_
 rcases bf x9 with h19 | h19
 ·refine cf h19 ?_
  refine y1 ?_
  refine mw (vp g 0) ?_
  refine cl wN (C_spec_l1Below w2 g ca cc cb ⟨_, _, b13, (Rd.chP hcr m18 hcn), hcl, (by omega), hcn⟩ 6) ?_
  rintro _ w3 ⟨x62, k61, ⟨i64, h65, b66, r67, l68, p69, n70⟩, rfl, q63⟩
  have m71 := ChG.ext m18 k61 (fun k hk => .inl hk)
  refine cl wN (C_spec_Near w3 (x62)) ?_
  rintro _ w4 ⟨k72, rfl⟩
  have m73 := ChG.extk m71 k72
  have b74 := (((b5.ch k8 (Ne.symm (Nat.ne_of_lt (Nat.lt_of_lt_of_le hgl (p2))))).ch k61 (Ne.symm (Nat.ne_of_lt (Nat.lt_of_lt_of_le hgl (p2))))).kp k72)
  refine st (va (L_26 (F_spec_Near (x62)))) (L_26 (F_spec_Near (x62))) (L_26 (F_spec_Near (x62))) wN sizeOf_26 b74 ?_
  intro w5 k75 b76 z77
  have m78 := ChG.ext m73 k75 (fun k hk => .inr (by subst hk; exact p2))
  refine n3 ?_
  refine ret_1 (.inl rfl) (va (L_26 (F_spec_Near (x62)))) rfl (rv_c (L_26 (F_spec_Near (x62))) rfl b76 isAgg_26 sizeOf_26) ?_
  have b79 := ((b66.kp k72).ch k75 (Nat.ne_of_lt (Nat.lt_of_lt_of_le hgl (p2))))
  exact ⟨(F_spec_Near (x62)), m78, ⟨_, _, b79, (Rd.chP hcr m78 hcn), hcl, (by omega), hcn⟩, rfl, trivial⟩
 refine ct h19 ?_
 refine sr ?_
 refine mw (vp g 0) ?_
 refine cl wN (C_spec_l1Below w2 g ca cc cb ⟨_, _, b13, (Rd.chP hcr m18 hcn), hcl, (by omega), hcn⟩ 16777216) ?_
 rintro _ w3 ⟨x22, k21, ⟨i24, h25, b26, r27, l28, p29, n30⟩, rfl, q23⟩
 have m31 := ChG.ext m18 k21 (fun k hk => .inl hk)
 refine ar ((x22) * 256) wN ?_
 refine mw (vp g 0) ?_
 refine cl wN (C_spec_l1Byte w3 g ca cc cb ⟨_, _, b26, (Rd.chP hcr m31 hcn), hcl, (by omega), hcn⟩) ?_
 rintro _ w4 ⟨x33, k32, ⟨i35, h36, b37, r38, l39, p40, n41⟩, rfl, q34⟩
 have m42 := ChG.ext m31 k32 (fun k hk => .inl hk)
 refine ar (((x22) * 256) + (x33)) wN ?_
 refine mw (vp g 0) ?_
 refine cl wN (C_spec_l1Below w4 g ca cc cb ⟨_, _, b37, (Rd.chP hcr m42 hcn), hcl, (by omega), hcn⟩ 65536) ?_
 rintro _ w5 ⟨x44, k43, ⟨i46, h47, b48, r49, l50, p51, n52⟩, rfl, q45⟩
 have m53 := ChG.ext m42 k43 (fun k hk => .inl hk)
 refine pu (va [(vi (((x22) * 256) + (x33))), (vi (x44))]) wN ?_
 have b54 := ((((b5.ch k8 (Ne.symm (Nat.ne_of_lt (Nat.lt_of_lt_of_le hgl (p2))))).ch k21 (Ne.symm (Nat.ne_of_lt (Nat.lt_of_lt_of_le hgl (p2))))).ch k32 (Ne.symm (Nat.ne_of_lt (Nat.lt_of_lt_of_le hgl (p2))))).ch k43 (Ne.symm (Nat.ne_of_lt (Nat.lt_of_lt_of_le hgl (p2)))))
 refine sv [(vi (((x22) * 256) + (x33))), (vi (x44))] wN sizeOf_26 b54 ?_
 intro w6 k55 b56 z57
 have m58 := ChG.ext m53 k55 (fun k hk => .inr (by subst hk; exact p2))
 refine n1 ?_
 refine ret_1 (.inl rfl) (va [(vi (((x22) * 256) + (x33))), (vi (x44))]) rfl (rv_c [(vi (((x22) * 256) + (x33))), (vi (x44))] rfl b56 isAgg_26 sizeOf_26) ?_
 have b59 := (b48.ch k55 (Nat.ne_of_lt (Nat.lt_of_lt_of_le hgl (p2))))
 exact ⟨{ Host := (((x22) * 256) + (x33)), Port := (x44) : PAddr }, m58, ⟨_, _, b59, (Rd.chP hcr m58 hcn), hcl, (by omega), hcn⟩, rfl, trivial⟩

theorem C_spec_l1Odd (w0 : World) (g : Nat) (ca : Option Addr) (cc : Nat) (cb : List UInt8) (r_c : CurX w0 g 138 ca cc cb)  : Fn Try.prog 124 #[(vp g 0)] w0 (fun v w' => ∃ x : (Int), Ch (fun k => k = g) w0 w' ∧ CurX w' g 138 ca cc cb ∧ O_3 w' w0.heap.size v x ∧ (True)) := by
 obtain ⟨ci, chh, hcb, hcr, hcl, hci, hcn⟩ := r_c
 have hgl := Blk.lt hcb
 refine fn_ofS (n := 6) [(vp g 0)] Try.func124 rfl rfl ?_
 refine sr ?_
 refine aw (vi 0) ?_
 refine nx ?_
 refine mw (vp g 0) ?_
 refine ltI ([(-1), 0, 1, 2, 255, 256, 65535, 2147483647, 2147483648, 4294967295, 4294967296, (-2147483648), 9223372036854775807, (-9223372036854775808)] : List Int) wN slTy_77 ?_
 intro a1 c2 w1 k3 o4
 have m5 := ChG.extk (Ch.refl (fun k => k = g) w0) k3
 have b7 := (hcb.kp k3)
 refine cl wN (C_spec_l1Int w1 g ca cc cb ⟨_, _, b7, (Rd.chP hcr m5 hcn), hcl, (by omega), hcn⟩ _ ([(-1), 0, 1, 2, 255, 256, 65535, 2147483647, 2147483648, 4294967295, 4294967296, (-2147483648), 9223372036854775807, (-9223372036854775808)] : List Int) ⟨_, _, rfl, (Rd.of_own o4), (by simp), (fun _ z hz => by have h1 := (own_lt o4 z.block (by rw [hz]; rfl)).1; have h2 := Nat.lt_of_lt_of_le hgl (Nat.le_refl w0.heap.size); omega)⟩ (by simp)) ?_
 rintro _ w2 ⟨x9, k8, ⟨i11, h12, b13, r14, l15, p16, n17⟩, rfl, q10⟩
 have m18 := ChG.ext m5 k8 (fun k hk => .inl hk)
 have q10m : x9 = (-1) ∨ x9 = 0 ∨ x9 = 1 ∨ x9 = 2 ∨ x9 = 255 ∨ x9 = 256 ∨ x9 = 65535 ∨ x9 = 2147483647 ∨ x9 = 2147483648 ∨ x9 = 4294967295 ∨ x9 = 4294967296 ∨ x9 = (-2147483648) ∨ x9 = 9223372036854775807 ∨ x9 = (-9223372036854775808) := by simpa only [List.mem_cons, List.not_mem_nil, or_false] using q10
 refine aw (vi (x9)) ?_
 refine n3 ?_
 refine rt (vi (x9)) ?_
 exact ⟨(x9), m18, ⟨_, _, b13, (Rd.chP hcr m18 hcn), hcl, (by omega), hcn⟩, rfl, trivial⟩

theorem C_spec_l6Any (w0 : World) (g : Nat) (ca : Option Addr) (cc : Nat) (cb : List UInt8) (r_c : CurX w0 g 138 ca cc cb)  : Fn Try.prog 67 #[(vp g 0)] w0 (fun v w' => ∃ x : (PAddr), Ch (fun k => k = g) w0 w' ∧ CurX w' g 138 ca cc cb ∧ O_26 w' w0.heap.size v x ∧ (True)) := by
 obtain ⟨ci, chh, hcb, hcr, hcl, hci, hcn⟩ := r_c
 have hgl := Blk.lt hcb
 refine fn_ofS (n := 20) [(vp g 0)] Try.func67 rfl rfl ?_
 refine sr ?_
 refine al [(vi 0), (vi 0)] wN zero_26 ?_
 intro g1 w1 p2 p3 k4 b5
 have m6 := ChG.extk (Ch.refl (fun k => k = g) w0) k4
 refine nx ?_
 refine mw (vp g 0) ?_
 have b7 := (hcb.kp k4)
 refine cl wN (C_spec_l6Draw w1 g ca cc cb ⟨_, _, b7, (Rd.chP hcr m6 hcn), hcl, (by omega), hcn⟩) ?_
 rintro _ w2 ⟨x9, k8, ⟨i11, h12, b13, r14, l15, p16, n17⟩, rfl, q10⟩
 have m18 := ChG.ext m6 k8 (fun k hk => .inl hk)
 refine al [(vi 0), (vi 0)] wN zero_26 ?_
 intro g19 w3 p20 p21 k22 b23
 have m24 := ChG.extk m18 k22
 refine st (va (L_26 (x9))) (L_26 (x9)) (L_26 (x9)) wN sizeOf_26 b23 ?_
 intro w4 k25 b26 z27
 have m28 := ChG.ext m24 k25 (fun k hk => .inr (by subst hk; exact Nat.le_trans (z2 k4 k8) p20))
 refine n4 ?_
 refine mw (vp g 0) ?_
 have b29 := ((b13.kp k22).ch k25 (Nat.ne_of_lt (Nat.lt_of_lt_of_le hgl (Nat.le_trans (z2 k4 k8) p20))))
 refine cl wN (C_spec_l1Below w4 g ca cc cb ⟨_, _, b29, (Rd.chP hcr m28 hcn), hcl, (by omega), hcn⟩ 10) ?_
 rintro _ w5 ⟨x31, k30, ⟨i33, h34, b35, r36, l37, p38, n39⟩, rfl, q32⟩
 have m40 := ChG.ext m28 k30 (fun k hk => .inl hk)
 refine wl_nil <| wq_then <| wc_block <| sr ?_
 refine pu (vb (decide ((x31) = 0))) wN ?_
 refine aw (vb (decide ((x31) = 0))) ?_
 refine n2 ?_
 rcases bt (decide ((x31) = 0)) with h41 | h41
 ·have q42 := of_decide_eq_true h41
  refine ct h41 ?_
  refine wc_region ?_
  refine mw (vp g 0) ?_
  refine cl wN (C_spec_l1Odd w5 g ca cc cb ⟨_, _, b35, (Rd.chP hcr m40 hcn), hcl, (by omega), hcn⟩) ?_
  rintro _ w6 ⟨x44, k43, ⟨i46, h47, b48, r49, l50, p51, n52⟩, rfl, q45⟩
  have m53 := ChG.ext m40 k43 (fun k hk => .inl hk)
  refine pu (vp g19 0) wN ?_
  have b54 := ((b26.ch k30 (Ne.symm (Nat.ne_of_lt (Nat.lt_of_lt_of_le hgl (Nat.le_trans (z2 k4 k8) p20))))).ch k43 (Ne.symm (Nat.ne_of_lt (Nat.lt_of_lt_of_le hgl (Nat.le_trans (z2 k4 k8) p20)))))
  refine st (vi (x44)) [(vi (x44))] [(vi (x44)), (vi ((x9).Port))] wN sizeOf_3 b54 ?_
  intro w7 k55 b56 z57
  have m58 := ChG.ext m53 k55 (fun k hk => .inr (by subst hk; exact Nat.le_trans (z2 k4 k8) p20))
  refine wl_nil <| wq_blk_normal <| wq_then <| sr ?_
  refine lN [(vi (x44)), (vi ((x9).Port))] wN isAgg_26 sizeOf_26 b56 ?_
  have b59 := ((((((b5.ch k8 (Ne.symm (Nat.ne_of_lt (Nat.lt_of_lt_of_le hgl (p2))))).kp k22).ch k25 (Nat.ne_of_lt (Nat.lt_of_lt_of_le p3 (Nat.le_trans k8.size p20)))).ch k30 (Ne.symm (Nat.ne_of_lt (Nat.lt_of_lt_of_le hgl (p2))))).ch k43 (Ne.symm (Nat.ne_of_lt (Nat.lt_of_lt_of_le hgl (p2))))).ch k55 (Nat.ne_of_lt (Nat.lt_of_lt_of_le p3 (Nat.le_trans k8.size p20))))
  refine sv [(vi (x44)), (vi ((x9).Port))] wN sizeOf_26 b59 ?_
  intro w8 k60 b61 z62
  have m63 := ChG.ext m58 k60 (fun k hk => .inr (by subst hk; exact p2))
  refine n3 ?_
  refine ret_1 (.inl rfl) (va [(vi (x44)), (vi ((x9).Port))]) rfl (rv_c [(vi (x44)), (vi ((x9).Port))] rfl b61 isAgg_26 sizeOf_26) ?_
  have b64 := ((b48.ch k55 (Nat.ne_of_lt (Nat.lt_of_lt_of_le hgl (Nat.le_trans (z2 k4 k8) p20)))).ch k60 (Nat.ne_of_lt (Nat.lt_of_lt_of_le hgl (p2))))
  exact ⟨{ Host := (x44), Port := (x9).Port : PAddr }, m63, ⟨_, _, b64, (Rd.chP hcr m63 hcn), hcl, (by omega), hcn⟩, rfl, trivial⟩
 have q65 := of_decide_eq_false h41
 refine cf h41 ?_
 refine sr ?_
 refine pu (vb (decide ((x31) = 1))) wN ?_
 refine aw (vb (decide ((x31) = 1))) ?_
 refine n2 ?_
 rcases bf (decide ((x31) = 1)) with h66 | h66
 ·have q97 := of_decide_eq_false h66
  refine cf h66 ?_
  refine wc_skip <| wq_blk_normal <| wq_then <| sr ?_
  have b98 := (b26.ch k30 (Ne.symm (Nat.ne_of_lt (Nat.lt_of_lt_of_le hgl (Nat.le_trans (z2 k4 k8) p20)))))
  refine lN (L_26 (x9)) wN isAgg_26 sizeOf_26 b98 ?_
  have b99 := ((((b5.ch k8 (Ne.symm (Nat.ne_of_lt (Nat.lt_of_lt_of_le hgl (p2))))).kp k22).ch k25 (Nat.ne_of_lt (Nat.lt_of_lt_of_le p3 (Nat.le_trans k8.size p20)))).ch k30 (Ne.symm (Nat.ne_of_lt (Nat.lt_of_lt_of_le hgl (p2)))))
  refine st (va (L_26 (x9))) (L_26 (x9)) (L_26 (x9)) wN sizeOf_26 b99 ?_
  intro w6 k100 b101 z102
  have m103 := ChG.ext m40 k100 (fun k hk => .inr (by subst hk; exact p2))
  refine n3 ?_
  refine ret_1 (.inl rfl) (va (L_26 (x9))) rfl (rv_c (L_26 (x9)) rfl b101 isAgg_26 sizeOf_26) ?_
  have b104 := (b35.ch k100 (Nat.ne_of_lt (Nat.lt_of_lt_of_le hgl (p2))))
  exact ⟨(x9), m103, ⟨_, _, b104, (Rd.chP hcr m103 hcn), hcl, (by omega), hcn⟩, rfl, trivial⟩
 have q67 := of_decide_eq_true h66
 refine ct h66 ?_
 refine wc_region ?_
 refine mw (vp g 0) ?_
 refine ltI ([(-1), 65535, 65536, 0] : List Int) wN slTy_77 ?_
 intro a68 c69 w6 k70 o71
 have m72 := ChG.extk m40 k70
 have b74 := (b35.kp k70)
 refine cl wN (C_spec_l1Int w6 g ca cc cb ⟨_, _, b74, (Rd.chP hcr m72 hcn), hcl, (by omega), hcn⟩ _ ([(-1), 65535, 65536, 0] : List Int) ⟨_, _, rfl, (Rd.of_own o71), (by simp), (fun _ z hz => by have h1 := (own_lt o71 z.block (by rw [hz]; rfl)).1; have h2 := Nat.lt_of_lt_of_le hgl (z5 k4 k8 k22 k25 k30); omega)⟩ (by simp)) ?_
 rintro _ w7 ⟨x76, k75, ⟨i78, h79, b80, r81, l82, p83, n84⟩, rfl, q77⟩
 have m85 := ChG.ext m72 k75 (fun k hk => .inl hk)
 have q77m : x76 = (-1) ∨ x76 = 65535 ∨ x76 = 65536 ∨ x76 = 0 := by simpa only [List.mem_cons, List.not_mem_nil, or_false] using q77
 refine pu (vp g19 1) wN ?_
 have b86 := (((b26.ch k30 (Ne.symm (Nat.ne_of_lt (Nat.lt_of_lt_of_le hgl (Nat.le_trans (z2 k4 k8) p20))))).kp k70).ch k75 (Ne.symm (Nat.ne_of_lt (Nat.lt_of_lt_of_le hgl (Nat.le_trans (z2 k4 k8) p20)))))
 refine st (vi (x76)) [(vi (x76))] [(vi ((x9).Host)), (vi (x76))] wN sizeOf_3 b86 ?_
 intro w8 k87 b88 z89
 have m90 := ChG.ext m85 k87 (fun k hk => .inr (by subst hk; exact Nat.le_trans (z2 k4 k8) p20))
 refine wl_nil <| wq_blk_normal <| wq_then <| sr ?_
 refine lN [(vi ((x9).Host)), (vi (x76))] wN isAgg_26 sizeOf_26 b88 ?_
 have b91 := (((((((b5.ch k8 (Ne.symm (Nat.ne_of_lt (Nat.lt_of_lt_of_le hgl (p2))))).kp k22).ch k25 (Nat.ne_of_lt (Nat.lt_of_lt_of_le p3 (Nat.le_trans k8.size p20)))).ch k30 (Ne.symm (Nat.ne_of_lt (Nat.lt_of_lt_of_le hgl (p2))))).kp k70).ch k75 (Ne.symm (Nat.ne_of_lt (Nat.lt_of_lt_of_le hgl (p2))))).ch k87 (Nat.ne_of_lt (Nat.lt_of_lt_of_le p3 (Nat.le_trans k8.size p20))))
 refine sv [(vi ((x9).Host)), (vi (x76))] wN sizeOf_26 b91 ?_
 intro w9 k92 b93 z94
 have m95 := ChG.ext m90 k92 (fun k hk => .inr (by subst hk; exact p2))
 refine n3 ?_
 refine ret_1 (.inl rfl) (va [(vi ((x9).Host)), (vi (x76))]) rfl (rv_c [(vi ((x9).Host)), (vi (x76))] rfl b93 isAgg_26 sizeOf_26) ?_
 have b96 := ((b80.ch k87 (Nat.ne_of_lt (Nat.lt_of_lt_of_le hgl (Nat.le_trans (z2 k4 k8) p20)))).ch k92 (Nat.ne_of_lt (Nat.lt_of_lt_of_le hgl (p2))))
 exact ⟨{ Host := (x9).Host, Port := (x76) : PAddr }, m95, ⟨_, _, b96, (Rd.chP hcr m95 hcn), hcl, (by omega), hcn⟩, rfl, trivial⟩

theorem isAgg_33 : ∀ w, (isAgg 33).run Try.prog w = .ok true w := fun w => by kernel_rfl
theorem sizeOf_33 : ∀ w, (sizeOf 33).run Try.prog w = .ok 4 w := fun w => by kernel_rfl
theorem C_spec_l17Any (w0 : World) (g : Nat) (ca : Option Addr) (cc : Nat) (cb : List UInt8) (r_c : CurX w0 g 138 ca cc cb)  : Fn Try.prog 63 #[(vp g 0)] w0 (fun v w' => ∃ x : (List PCredit), Ch (fun k => k = g) w0 w' ∧ CurX w' g 138 ca cc cb ∧ O_24 w' w0.heap.size v x ∧ (x.length ≤ 101)) := by
 obtain ⟨ci, chh, hcb, hcr, hcl, hci, hcn⟩ := r_c
 have hgl := Blk.lt hcb
 refine fn_ofS (n := 60) [(vp g 0)] Try.func63 rfl rfl ?_
 refine sr ?_
 refine aw (vs none 0 0) ?_
 refine nx ?_
 refine mw (vp g 0) ?_
 refine cl wN (C_spec_l17Draw w0 g ca cc cb ⟨_, _, hcb, hcr, hcl, (by omega), hcn⟩ 14 (by omega)) ?_
 rintro _ w1 ⟨x2, k1, ⟨i10, h11, b12, r13, l14, p15, n16⟩, ⟨a4, c5, rfl, o6, s7, ap9⟩, q3⟩
 have m17 := ChG.ext (Ch.refl (fun k => k = g) w0) k1 (fun k hk => .inl hk)
 refine aw (vs a4 (x2).length c5) ?_
 refine n4 ?_
 refine mw (vs a4 (x2).length c5) ?_
 refine ln wN slTy_24 (Rd.of_own o6) ?_
 refine pu (vb (decide (((x2).length : Int) = 0))) wN ?_
 refine n2 ?_
 rcases bt (decide (((x2).length : Int) = 0)) with h18 | h18
 ·have q19 := of_decide_eq_true h18
  refine ct h18 ?_
  refine sr ?_
  refine mw (vs a4 (x2).length c5) ?_
  refine aw (vs a4 (x2).length c5) ?_
  refine n1 ?_
  refine rt (vs a4 (x2).length c5) ?_
  exact ⟨(x2), m17, ⟨_, _, b12, (Rd.chP hcr m17 hcn), hcl, (by omega), hcn⟩, ⟨_, _, rfl, o6, s7, ⟨trivial, trivial⟩⟩, (by (first | omega | (simp <;> omega)))⟩
 have q20 := of_decide_eq_false h18
 refine cf h18 ?_
 refine y1 ?_
 refine mw (vp g 0) ?_
 refine mw (vs a4 (x2).length c5) ?_
 refine ln wN slTy_24 (Rd.of_own o6) ?_
 refine cl wN (C_spec_l1Below w1 g ca cc cb ⟨_, _, b12, (Rd.chP hcr m17 hcn), hcl, (by omega), hcn⟩ ((x2).length : Int)) ?_
 rintro _ w2 ⟨x22, k21, ⟨i24, h25, b26, r27, l28, p29, n30⟩, rfl, q23⟩
 have m31 := ChG.ext m17 k21 (fun k hk => .inl hk)
 refine aw (vi (x22)) ?_
 refine n4 ?_
 refine mw (vp g 0) ?_
 refine cl wN (C_spec_l1Below w2 g ca cc cb ⟨_, _, b26, (Rd.chP hcr m31 hcn), hcl, (by omega), hcn⟩ 10) ?_
 rintro _ w3 ⟨x33, k32, ⟨i35, h36, b37, r38, l39, p40, n41⟩, rfl, q34⟩
 have m42 := ChG.ext m31 k32 (fun k hk => .inl hk)
 refine wl_nil <| wq_then <| wc_block <| sr ?_
 refine pu (vb (decide ((x33) = 0))) wN ?_
 refine aw (vb (decide ((x33) = 0))) ?_
 refine n2 ?_
 rcases bt (decide ((x33) = 0)) with h43 | h43
 ·have q44 := of_decide_eq_true h43
  refine ct h43 ?_
  refine wc_region ?_
  refine mw (vs a4 (x2).length c5) ?_
  refine mw (vi (x22)) ?_
  refine mw (vp g 0) ?_
  refine cl wN (C_spec_l6Any w3 g ca cc cb ⟨_, _, b37, (Rd.chP hcr m42 hcn), hcl, (by omega), hcn⟩) ?_
  rintro _ w4 ⟨x46, k45, ⟨i48, h49, b50, r51, l52, p53, n54⟩, rfl, q47⟩
  have m55 := ChG.ext m42 k45 (fun k hk => .inl hk)
  have o56 := (own_ch (own_ch (own_ch o6 k21 (ne1 o6 (hgl))) k32 (ne1 o6 (hgl))) k45 (ne1 o6 (hgl)))
  refine ix wN (x22) slTy_24 (Rd.of_own o56) ?_
  refine wl_fieldE wN rfl rfl rfl fieldAt_33_0 rfl (Rd.of_own o56) (by omega) ?_
  refine wl_storeF enc_PCredit_len (x2) (((x22)).toNat) 0 z_PCredit ({ A := (x46), Got := (((x2).getD ((x22)).toNat z_PCredit).Got), Sent := (((x2).getD ((x22)).toNat z_PCredit).Sent) : PCredit }) (va (L_26 (x46))) [(vi ((x46).Host)), (vi ((x46).Port))] wN rfl rfl rfl (by first | rfl | simp | omega) rfl rfl (one_cons rfl (one_cons rfl one_nil)) sizeOf_26 o56 (by first | omega | (simp only [List.length_append, List.length_replicate, List.length_take, List.length_set, List.length_map]; omega)) (by simp) (by simp) rfl ?_
  intro w5 k57 o58
  have m59 := ChG.ext m55 k57 (fun k hk => .inr (Nat.le_trans (Nat.le_refl w0.heap.size) (own_lt o6 k hk).1))
  refine wl_nil <| wq_blk_normal <| wq_then <| sr ?_
  refine mw (vs a4 (x2).length c5) ?_
  refine aw (vs a4 (x2).length c5) ?_
  refine n3 ?_
  refine rt (vs a4 (x2).length c5) ?_
  have hN60 : (x2).length = (((x2).set (((x22)).toNat) { A := (x46), Got := (((x2).getD ((x22)).toNat z_PCredit).Got), Sent := (((x2).getD ((x22)).toNat z_PCredit).Sent) : PCredit })).length := by first | (simp only [List.length_append, List.length_take, List.length_replicate, List.length_set, List.length_map]; done) | (simp only [List.length_append, List.length_take, List.length_replicate, List.length_set, List.length_map]; omega)
  rw [hN60] at o58 ⊢
  have b61 := (b50.ch k57 (fun h => by have := (own_lt o6 _ h).1; have := Nat.lt_of_lt_of_le hgl (Nat.le_refl w0.heap.size); omega))
  exact ⟨((x2).set (((x22)).toNat) { A := (x46), Got := (((x2).getD ((x22)).toNat z_PCredit).Got), Sent := (((x2).getD ((x22)).toNat z_PCredit).Sent) : PCredit }), m59, ⟨_, _, b61, (Rd.chP hcr m59 hcn), hcl, (by omega), hcn⟩, ⟨_, _, rfl, o58, (by rw [← hN60]; exact s7), ⟨trivial, trivial⟩⟩, (by (first | omega | (simp <;> omega)))⟩
 have q62 := of_decide_eq_false h43
 refine cf h43 ?_
 refine sr ?_
 refine pu (vb (decide ((x33) = 1))) wN ?_
 refine aw (vb (decide ((x33) = 1))) ?_
 refine n2 ?_
 rcases bt (decide ((x33) = 1)) with h63 | h63
 ·have q64 := of_decide_eq_true h63
  refine ct h63 ?_
  refine wc_region ?_
  refine mw (vs a4 (x2).length c5) ?_
  refine mw (vi (x22)) ?_
  refine mw (vp g 0) ?_
  refine ltI ([(-1), 0, 1000001] : List Int) wN slTy_77 ?_
  intro a65 c66 w4 k67 o68
  have m69 := ChG.extk m42 k67
  have b71 := (b37.kp k67)
  refine cl wN (C_spec_l1Int w4 g ca cc cb ⟨_, _, b71, (Rd.chP hcr m69 hcn), hcl, (by omega), hcn⟩ _ ([(-1), 0, 1000001] : List Int) ⟨_, _, rfl, (Rd.of_own o68), (by simp), (fun _ z hz => by have h1 := (own_lt o68 z.block (by rw [hz]; rfl)).1; have h2 := Nat.lt_of_lt_of_le hgl (z3 k1 k21 k32); omega)⟩ (by simp)) ?_
  rintro _ w5 ⟨x73, k72, ⟨i75, h76, b77, r78, l79, p80, n81⟩, rfl, q74⟩
  have m82 := ChG.ext m69 k72 (fun k hk => .inl hk)
  have q74m : x73 = (-1) ∨ x73 = 0 ∨ x73 = 1000001 := by simpa only [List.mem_cons, List.not_mem_nil, or_false] using q74
  have o83 := (own_ch (own_kp (own_ch (own_ch o6 k21 (ne1 o6 (hgl))) k32 (ne1 o6 (hgl))) k67) k72 (ne1 o6 (hgl)))
  refine ix wN (x22) slTy_24 (Rd.of_own o83) ?_
  refine wl_fieldE wN rfl rfl rfl fieldAt_33_1 rfl (Rd.of_own o83) (by omega) ?_
  refine wl_storeF enc_PCredit_len (x2) (((x22)).toNat) 2 z_PCredit ({ A := (((x2).getD ((x22)).toNat z_PCredit).A), Got := (x73), Sent := (((x2).getD ((x22)).toNat z_PCredit).Sent) : PCredit }) (vi (x73)) [(vi (x73))] wN rfl rfl rfl (by first | rfl | simp | omega) rfl rfl (one_cons rfl one_nil) sizeOf_3 o83 (by first | omega | (simp only [List.length_append, List.length_replicate, List.length_take, List.length_set, List.length_map]; omega)) (by simp) (by simp) rfl ?_
  intro w6 k84 o85
  have m86 := ChG.ext m82 k84 (fun k hk => .inr (Nat.le_trans (Nat.le_refl w0.heap.size) (own_lt o6 k hk).1))
  refine wl_nil <| wq_blk_normal <| wq_then <| sr ?_
  refine mw (vs a4 (x2).length c5) ?_
  refine aw (vs a4 (x2).length c5) ?_
  refine n3 ?_
  refine rt (vs a4 (x2).length c5) ?_
  have hN87 : (x2).length = (((x2).set (((x22)).toNat) { A := (((x2).getD ((x22)).toNat z_PCredit).A), Got := (x73), Sent := (((x2).getD ((x22)).toNat z_PCredit).Sent) : PCredit })).length := by first | (simp only [List.length_append, List.length_take, List.length_replicate, List.length_set, List.length_map]; done) | (simp only [List.length_append, List.length_take, List.length_replicate, List.length_set, List.length_map]; omega)
  rw [hN87] at o85 ⊢
  have b88 := (b77.ch k84 (fun h => by have := (own_lt o6 _ h).1; have := Nat.lt_of_lt_of_le hgl (Nat.le_refl w0.heap.size); omega))
  exact ⟨((x2).set (((x22)).toNat) { A := (((x2).getD ((x22)).toNat z_PCredit).A), Got := (x73), Sent := (((x2).getD ((x22)).toNat z_PCredit).Sent) : PCredit }), m86, ⟨_, _, b88, (Rd.chP hcr m86 hcn), hcl, (by omega), hcn⟩, ⟨_, _, rfl, o85, (by rw [← hN87]; exact s7), ⟨trivial, trivial⟩⟩, (by (first | omega | (simp <;> omega)))⟩
 have q89 := of_decide_eq_false h63
 refine cf h63 ?_
 refine sr ?_
 refine pu (vb (decide ((x33) = 2))) wN ?_
 refine aw (vb (decide ((x33) = 2))) ?_
 refine n2 ?_
 rcases bt (decide ((x33) = 2)) with h90 | h90
 ·have q91 := of_decide_eq_true h90
  refine ct h90 ?_
  refine wc_region ?_
  refine mw (vs a4 (x2).length c5) ?_
  refine mw (vi (x22)) ?_
  refine mw (vp g 0) ?_
  refine mw (vs a4 (x2).length c5) ?_
  refine mw (vi (x22)) ?_
  have o92 := (own_ch (own_ch o6 k21 (ne1 o6 (hgl))) k32 (ne1 o6 (hgl)))
  refine ix wN (x22) slTy_24 (Rd.of_own o92) ?_
  refine wl_fieldE wN rfl rfl rfl fieldAt_33_1 rfl (Rd.of_own o92) (by omega) ?_
  refine wl_loadE (vi (((x2).getD ((x22)).toNat z_PCredit).Got)) wN rfl rfl rfl rfl isAgg_3 (Rd.of_own o92) ((rows_get (i := 2) enc_PCredit_len z_PCredit (by first | rfl | simp | omega) (by decide) (by first | omega | (simp only [List.length_cons, List.length_nil, List.length_replicate, List.length_append, List.length_take, List.length_set, List.length_map]; omega))).trans rfl) ?_
  refine wl_arb (IntKind.i64.wrap (3 * (((x2).getD ((x22)).toNat z_PCredit).Got))) wN rfl rfl (by kernel_rfl) ?_
  intro ab93
  refine wl_arb (IntKind.i64.wrap (ab93 + 1)) wN rfl rfl (by kernel_rfl) ?_
  intro ab94
  refine ltI ([(-1), 0, ab94] : List Int) wN slTy_77 ?_
  intro a95 c96 w4 k97 o98
  have m99 := ChG.extk m42 k97
  have b101 := (b37.kp k97)
  refine cl wN (C_spec_l1Int w4 g ca cc cb ⟨_, _, b101, (Rd.chP hcr m99 hcn), hcl, (by omega), hcn⟩ _ ([(-1), 0, ab94] : List Int) ⟨_, _, rfl, (Rd.of_own o98), (by simp), (fun _ z hz => by have h1 := (own_lt o98 z.block (by rw [hz]; rfl)).1; have h2 := Nat.lt_of_lt_of_le hgl (z3 k1 k21 k32); omega)⟩ (by simp)) ?_
  rintro _ w5 ⟨x103, k102, ⟨i105, h106, b107, r108, l109, p110, n111⟩, rfl, q104⟩
  have m112 := ChG.ext m99 k102 (fun k hk => .inl hk)
  have q104m : x103 = (-1) ∨ x103 = 0 ∨ x103 = ab94 := by simpa only [List.mem_cons, List.not_mem_nil, or_false] using q104
  have o113 := (own_ch (own_kp o92 k97) k102 (ne1 o6 (hgl)))
  refine ix wN (x22) slTy_24 (Rd.of_own o113) ?_
  refine wl_fieldE wN rfl rfl rfl fieldAt_33_2 rfl (Rd.of_own o113) (by omega) ?_
  refine wl_storeF enc_PCredit_len (x2) (((x22)).toNat) 3 z_PCredit ({ A := (((x2).getD ((x22)).toNat z_PCredit).A), Got := (((x2).getD ((x22)).toNat z_PCredit).Got), Sent := (x103) : PCredit }) (vi (x103)) [(vi (x103))] wN rfl rfl rfl (by first | rfl | simp | omega) rfl rfl (one_cons rfl one_nil) sizeOf_3 o113 (by first | omega | (simp only [List.length_append, List.length_replicate, List.length_take, List.length_set, List.length_map]; omega)) (by simp) (by simp) rfl ?_
  intro w6 k114 o115
  have m116 := ChG.ext m112 k114 (fun k hk => .inr (Nat.le_trans (Nat.le_refl w0.heap.size) (own_lt o6 k hk).1))
  refine wl_nil <| wq_blk_normal <| wq_then <| sr ?_
  refine mw (vs a4 (x2).length c5) ?_
  refine aw (vs a4 (x2).length c5) ?_
  refine n3 ?_
  refine rt (vs a4 (x2).length c5) ?_
  have hN117 : (x2).length = (((x2).set (((x22)).toNat) { A := (((x2).getD ((x22)).toNat z_PCredit).A), Got := (((x2).getD ((x22)).toNat z_PCredit).Got), Sent := (x103) : PCredit })).length := by first | (simp only [List.length_append, List.length_take, List.length_replicate, List.length_set, List.length_map]; done) | (simp only [List.length_append, List.length_take, List.length_replicate, List.length_set, List.length_map]; omega)
  rw [hN117] at o115 ⊢
  have b118 := (b107.ch k114 (fun h => by have := (own_lt o6 _ h).1; have := Nat.lt_of_lt_of_le hgl (Nat.le_refl w0.heap.size); omega))
  exact ⟨((x2).set (((x22)).toNat) { A := (((x2).getD ((x22)).toNat z_PCredit).A), Got := (((x2).getD ((x22)).toNat z_PCredit).Got), Sent := (x103) : PCredit }), m116, ⟨_, _, b118, (Rd.chP hcr m116 hcn), hcl, (by omega), hcn⟩, ⟨_, _, rfl, o115, (by rw [← hN117]; exact s7), ⟨trivial, trivial⟩⟩, (by (first | omega | (simp <;> omega)))⟩
 have q119 := of_decide_eq_false h90
 refine cf h90 ?_
 refine sr ?_
 refine pu (vb (decide ((x33) = 3))) wN ?_
 refine aw (vb (decide ((x33) = 3))) ?_
 refine n2 ?_
 rcases bf (decide ((x33) = 3)) with h120 | h120
 ·have q143 := of_decide_eq_false h120
  refine cf h120 ?_
  refine wc_skip <| wq_blk_normal <| wq_then <| sr ?_
  refine mw (vs a4 (x2).length c5) ?_
  refine aw (vs a4 (x2).length c5) ?_
  refine n3 ?_
  have o144 := (own_ch (own_ch o6 k21 (ne1 o6 (hgl))) k32 (ne1 o6 (hgl)))
  refine rt (vs a4 (x2).length c5) ?_
  exact ⟨(x2), m42, ⟨_, _, b37, (Rd.chP hcr m42 hcn), hcl, (by omega), hcn⟩, ⟨_, _, rfl, o144, s7, ⟨trivial, trivial⟩⟩, (by (first | omega | (simp <;> omega)))⟩
 have q121 := of_decide_eq_true h120
 refine ct h120 ?_
 refine wc_region ?_
 refine mw (vs a4 (x2).length c5) ?_
 refine mw (vs a4 (x2).length c5) ?_
 refine mw (vi (x22)) ?_
 have o122 := (own_ch (own_ch o6 k21 (ne1 o6 (hgl))) k32 (ne1 o6 (hgl)))
 refine ix wN (x22) slTy_24 (Rd.of_own o122) ?_
 refine wl_loadEN [(vi ((((x2).getD ((x22)).toNat z_PCredit).A).Host)), (vi ((((x2).getD ((x22)).toNat z_PCredit).A).Port)), (vi (((x2).getD ((x22)).toNat z_PCredit).Got)), (vi (((x2).getD ((x22)).toNat z_PCredit).Sent))] wN rfl rfl rfl rfl isAgg_33 sizeOf_33 (Rd.of_own o122) (by first | omega | (simp only [List.length_cons, List.length_nil, List.length_replicate, List.length_append, List.length_take, List.length_set, List.length_map]; omega)) ((rows_part (off := 0) (n := 4) enc_PCredit_len z_PCredit (by first | rfl | simp | omega) (by decide) (by first | omega | (simp only [List.length_cons, List.length_nil, List.length_replicate, List.length_append, List.length_take, List.length_set, List.length_map]; omega))).trans rfl) ?_
 refine wl_lit [(vi ((((x2).getD ((x22)).toNat z_PCredit).A).Host)), (vi ((((x2).getD ((x22)).toNat z_PCredit).A).Port)), (vi (((x2).getD ((x22)).toNat z_PCredit).Got)), (vi (((x2).getD ((x22)).toNat z_PCredit).Sent))] wN rfl rfl slTy_24 (m := 1) rfl (by simp only [maxLen]; omega) (fun w => by kernel_rfl) ?_
 intro u123 w4 k124 o125
 obtain ⟨a126, c127, rfl⟩ := own_form o125
 have m128 := ChG.extk m42 k124
 have o130 : w4.ownsRow w3.heap.size 33 4 (.slice a126 ([((x2).getD ((x22)).toNat z_PCredit)] : List PCredit).length c127) ([((x2).getD ((x22)).toNat z_PCredit)] : List PCredit).length (([((x2).getD ((x22)).toNat z_PCredit)] : List PCredit).flatMap enc_PCredit) := o125
 have o131 := (own_kp o122 k124)
 refine wl_append (v := (vs a4 (x2).length c5)) wN rfl rfl rfl slTy_24 rfl rfl o131 (Rd.of_own o130) (rows_one (fun u => u.oneCell' = true) enc_PCredit_one) (by first | (simp only [List.length_append, List.length_cons, List.length_nil, List.length_replicate, List.length_take, List.length_drop]; omega) | omega) (by simp only [maxLen]; first | (simp only [List.length_append, List.length_cons, List.length_nil, List.length_replicate, List.length_take, List.length_drop]; omega) | omega) (z4 k1 k21 k32 k124) ?_
 intro u132 w5 k133 o134 j135
 have o138 : w5.ownsRow w0.heap.size 33 4 u132 (((x2) ++ [((x2).getD ((x22)).toNat z_PCredit)]) : List PCredit).length ((((x2) ++ [((x2).getD ((x22)).toNat z_PCredit)]) : List PCredit).flatMap enc_PCredit) := by simpa [Nat.add_assoc, List.flatMap_append] using o134
 obtain ⟨a136, c137, rfl⟩ := own_form o138
 have m139 := ChG.ext m128 k133 (fun k hk => .inr (Nat.le_trans (Nat.le_refl w0.heap.size) (own_lt o6 k hk).1))
 have s141 : ((x2) ++ [((x2).getD ((x22)).toNat z_PCredit)]).length ≤ 1073741824 := by first | (simp only [List.length_append, List.length_cons, List.length_nil, List.length_replicate, List.length_take, List.length_drop]; omega) | omega | assumption
 refine aw (vs a136 ((x2) ++ [((x2).getD ((x22)).toNat z_PCredit)]).length c137) ?_
 refine wl_nil <| wq_blk_normal <| wq_then <| sr ?_
 refine mw (vs a136 ((x2) ++ [((x2).getD ((x22)).toNat z_PCredit)]).length c137) ?_
 refine aw (vs a136 ((x2) ++ [((x2).getD ((x22)).toNat z_PCredit)]).length c137) ?_
 refine n3 ?_
 refine rt (vs a136 ((x2) ++ [((x2).getD ((x22)).toNat z_PCredit)]).length c137) ?_
 have b142 := ((b37.kp k124).ch k133 (fun h => by have := (own_lt o6 _ h).1; have := Nat.lt_of_lt_of_le hgl (Nat.le_refl w0.heap.size); omega))
 exact ⟨((x2) ++ [((x2).getD ((x22)).toNat z_PCredit)]), m139, ⟨_, _, b142, (Rd.chP hcr m139 hcn), hcl, (by omega), hcn⟩, ⟨_, _, rfl, o138, s141, ⟨trivial, trivial⟩⟩, (by (first | omega | (simp <;> omega)))⟩

def O_24_26_3 (w : World) (lo : Nat) (v : Value) (x : (List PCredit) × (PAddr) × (Int)) : Prop := ∃ (a1 : Option Addr) (c1 : Nat), v = .tuple #[.slice a1 x.1.length c1, .agg #[.int .i64 x.2.1.Host, .int .i64 x.2.1.Port], .int .i64 x.2.2] ∧ w.ownsRow lo 33 4 (.slice a1 x.1.length c1) x.1.length (x.1.flatMap enc_PCredit) ∧ x.1.length ≤ 1073741824 ∧ Aps [(a1, c1)]
theorem mR_22 {w : World} {x : List UInt8} {a1 : Option Addr} {c1 : Nat} (h1 : Rd w 1 (.slice a1 x.length c1) x.length (x.map bV)) (l1 : x.length ≤ 1073741824) : R_22 w (vs a1 x.length c1) x := ⟨_, _, rfl, h1, l1⟩
theorem C_spec_DrawGain (w0 : World) (v_x_code : Value) (x_code : List UInt8) (r_x_code : R_22 w0 v_x_code x_code)  : Fn Try.prog 11 #[v_x_code] w0 (fun v w' => ∃ x : (List PCredit) × (PAddr) × (Int), Keep w0 w' ∧ O_24_26_3 w' w0.heap.size v x ∧ (x.1.length ≤ 101 ∧ -1 ≤ x.2.2 ∧ x.2.2 ≤ 1000001)) := by
 obtain ⟨a1, c2, rfl, r3, s4⟩ := r_x_code
 refine fn_ofS (n := 24) [(vs a1 x_code.length c2)] Try.func11 rfl rfl ?_
 refine sr ?_
 refine aw (vs none 0 0) ?_
 refine al [(vi 0), (vi 0)] wN zero_26 ?_
 intro g6 w1 p7 p8 k9 b10
 have m11 := (Ch.base w0).extk k9
 refine aw (vi 0) ?_
 refine nx ?_
 refine mw (vs a1 x_code.length c2) ?_
 refine cl wN (C_spec_l1New w1 _ x_code (mR_22 (r3.from0 m11) s4)) ?_
 rintro _ w2 ⟨g13, k12, p14, rfl, hc22⟩
 obtain ⟨i15, h16, b17, r18, l19, p20, n21⟩ := hc22 _ _ rfl
 have m23 := m11.extk k12
 refine aw (vp g13 0) ?_
 refine nx ?_
 refine mw (vp g13 0) ?_
 refine cl wN (C_spec_l17Any w2 g13 a1 c2 x_code ⟨_, _, b17, (r3.from0 m23), s4, (by omega), (fun h0 z hz => Nat.ne_of_lt (Nat.lt_of_lt_of_le (rd_posB r3 h0 z hz) (Nat.le_trans k9.size p14)))⟩) ?_
 rintro _ w3 ⟨x25, k24, ⟨i33, h34, b35, r36, l37, p38, n39⟩, ⟨a27, c28, rfl, o29, s30, ap32⟩, q26⟩
 have m40 := m23.ext k24 (fun k hk => by subst hk; exact Nat.le_trans k9.size p14)
 refine aw (vs a27 (x25).length c28) ?_
 refine nx ?_
 refine mw (vp g13 0) ?_
 refine cl wN (C_spec_l1Below w3 g13 a1 c2 x_code ⟨_, _, b35, (r3.from0 m40), s4, (by omega), (fun h0 z hz => Nat.ne_of_lt (Nat.lt_of_lt_of_le (rd_posB r3 h0 z hz) (Nat.le_trans k9.size p14)))⟩ 10) ?_
 rintro _ w4 ⟨x42, k41, ⟨i44, h45, b46, r47, l48, p49, n50⟩, rfl, q43⟩
 have m51 := m40.ext k41 (fun k hk => by subst hk; exact Nat.le_trans k9.size p14)
 refine cl wN (C_spec_Near w4 (x42)) ?_
 rintro _ w5 ⟨k52, rfl⟩
 refine al [(vi 0), (vi 0)] wN zero_26 ?_
 intro g54 w6 p55 p56 k57 b58
 refine st (va (L_26 (F_spec_Near (x42)))) (L_26 (F_spec_Near (x42))) (L_26 (F_spec_Near (x42))) wN sizeOf_26 b58 ?_
 intro w7 k60 b61 z62
 have m63 := ((m51.extk k52).extk k57).ext k60 (fun k hk => by subst hk; exact Nat.le_trans (z5 k9 k12 k24 k41 k52) p55)
 refine n4 ?_
 refine mw (vp g13 0) ?_
 have b64 := (((b46.kp k52).kp k57).ch k60 (Nat.ne_of_lt (Nat.lt_of_lt_of_le (Blk.lt b17) (Nat.le_trans (z3 k24 k41 k52) p55))))
 refine cl wN (C_spec_l1Once w7 g13 a1 c2 x_code ⟨_, _, b64, (r3.from0 m63), s4, (by omega), (fun h0 z hz => Nat.ne_of_lt (Nat.lt_of_lt_of_le (rd_posB r3 h0 z hz) (Nat.le_trans k9.size p14)))⟩ 8) ?_
 rintro _ w8 ⟨x66, k65, ⟨i68, h69, b70, r71, l72, p73, n74⟩, rfl, q67⟩
 have m75 := m63.ext k65 (fun k hk => by subst hk; exact Nat.le_trans k9.size p14)
 refine n2 ?_
 rcases bf x66 with h76 | h76
 ·refine cf h76 ?_
  refine wc_skip <| wq_then <| wc_seq ?_
  refine wc_drawT ([(19, [], [], (fun _ v _ => v = (vs a27 (x25).length c28))), (20, [], [], (fun _ v _ => v = (va (L_26 (F_spec_Near (x42)))))), (21, [], [], (fun _ v _ => v = (vp g13 0))), (22, [], [], (fun _ v w => ∃ (a1 : Option Addr) (c1 : Nat), v = .slice a1 ([0, 1, 34, 62, 1000000, 1000001, (-1)] : List Int).length c1 ∧ w.ownsRow w8.heap.size 3 1 (.slice a1 ([0, 1, 34, 62, 1000000, 1000001, (-1)] : List Int).length c1) ([0, 1, 34, 62, 1000000, 1000001, (-1)] : List Int).length (([0, 1, 34, 62, 1000000, 1000001, (-1)] : List Int).map iV) ∧ ([0, 1, 34, 62, 1000000, 1000001, (-1)] : List Int).length ≤ 1073741824 ∧ Aps [(a1, c1)])), (23, [], [2, 3], (fun _ v _ => ∃ x269 : Int, v = vi x269 ∧ x269 ∈ ([0, 1, 34, 62, 1000000, 1000001, (-1)] : List Int))), (2, [], [0, 2, 3, 4], (fun _ v _ => v = (vs a27 (x25).length c28)))] : GV) (fun lf w' => Ch (fun k => k = g13) w8 w' ∧ CurX w' g13 138 a1 c2 x_code) [(4, fun w w' => Ch (fun k => k = g13) w w' ∧ (CurX w g13 138 a1 c2 x_code → CurX w' g13 138 a1 c2 x_code))] mixed rfl (by kernel_rfl) (by kernel_rfl) ?_ (fun _ _ h => ⟨h.to _, CurX.kp ⟨_, _, b70, (r3.from0 m75), s4, (by omega), (fun h0 z hz => Nat.ne_of_lt (Nat.lt_of_lt_of_le (rd_posB r3 h0 z hz) (Nat.le_trans k9.size p14)))⟩ h⟩) (fun _ _ _ _ h mo k => by obtain ⟨hc, hcur⟩ := h; exact ⟨hc.comp k (fun _ _ q => q.elim), hcur.kp k⟩) ⟨(fun _ _ w w' h mo hj t => by obtain ⟨hc, hcur⟩ := h; exact ⟨hc.comp t.1 (fun _ _ q => q), t.2 hcur⟩), trivial⟩ ?_ ?_ ?_
  ·exact ⟨hV, hE, ⟨hV, hE, ⟨hV, hE, ⟨(fun e v w w1 h hk => by obtain ⟨a0x, c0x, he, o0x, l0x, hap⟩ := h; exact ⟨a0x, c0x, he, own_kp o0x hk, l0x, hap⟩), hE, ⟨hV, hE, ⟨hV, hE, trivial⟩⟩⟩⟩⟩⟩
  ·exact ⟨⟨.inr hV, ⟨.inr hV, ⟨.inr hV, ⟨.inr (fun e v wX wY h ht => by obtain ⟨a0x, c0x, he, o0x, l0x, hap⟩ := h; exact ⟨a0x, c0x, he, own_ch o0x ht.1 (fun gq hg _ hk => by have h1 := (own_lt o0x gq hg).1; have h3 : gq = g13 := hk; have h4 := (Nat.lt_of_lt_of_le (Blk.lt b17) (z6 k24 k41 k52 k57 k60 k65)); omega), l0x, hap⟩), ⟨.inl rfl, ⟨.inr hV, trivial⟩⟩⟩⟩⟩⟩, trivial⟩
  ·refine ⟨?_, ⟨?_, ⟨?_, ⟨?_, ⟨?_, ⟨?_, trivial⟩⟩⟩⟩⟩⟩
   ·rintro lf w9 ⟨k270, ⟨i272, h273, b274, r275, l276, p277, n278⟩⟩ ⟨n271, -⟩
    rintro _ _ _ _ _ _
    show WL _ _ _ _ _ _ _
    refine mw (vs a27 (x25).length c28) ?_
    exact f1
   ·rintro lf w9 ⟨k280, ⟨i282, h283, b284, r285, l286, p287, n288⟩⟩ ⟨n281, -⟩
    rintro _ _ _ _ _ _
    show WL _ _ _ _ _ _ _
    have b290 := ((b61.ch k65 (Ne.symm (Nat.ne_of_lt (Nat.lt_of_lt_of_le (Blk.lt b17) (Nat.le_trans (z3 k24 k41 k52) p55))))).ch k280 (Ne.symm (Nat.ne_of_lt (Nat.lt_of_lt_of_le (Blk.lt b17) (Nat.le_trans (z3 k24 k41 k52) p55)))))
    refine lN (L_26 (F_spec_Near (x42))) wN isAgg_26 sizeOf_26 b290 ?_
    exact f1
   ·rintro lf w9 ⟨k291, ⟨i293, h294, b295, r296, l297, p298, n299⟩⟩ ⟨n292, -⟩
    rintro _ _ _ _ _ _
    show WL _ _ _ _ _ _ _
    refine mw (vp g13 0) ?_
    exact f1
   ·rintro lf w9 ⟨k301, ⟨i303, h304, b305, r306, l307, p308, n309⟩⟩ ⟨n302, -⟩
    rintro _ _ _ _ _ _
    show WL _ _ _ _ _ _ _
    refine ltI ([0, 1, 34, 62, 1000000, 1000001, (-1)] : List Int) wN slTy_77 ?_
    intro a311 c312 w10 k313 o314
    exact wl_finT k313 ⟨_, _, rfl, (own_lo o314 k301.size), (by simp), ⟨trivial, trivial⟩⟩
   ·rintro lf w9 ⟨k317, ⟨i319, h320, b321, r322, l323, p324, n325⟩⟩ ⟨n318, -⟩
    have m326 := m75.ext k317 (fun k hk => by subst hk; exact Nat.le_trans k9.size p14)
    rintro _ _ _ rfl _ ⟨a327, c328, rfl, o329, s330, -⟩ _ _
    show WL _ _ _ _ _ _ _
    refine cl wN (C_spec_l1Int w9 g13 a1 c2 x_code ⟨_, _, b321, (r3.from0 m326), s4, (by omega), (fun h0 z hz => Nat.ne_of_lt (Nat.lt_of_lt_of_le (rd_posB r3 h0 z hz) (Nat.le_trans k9.size p14)))⟩ _ ([0, 1, 34, 62, 1000000, 1000001, (-1)] : List Int) ⟨_, _, rfl, (Rd.of_own o329), s330, (fun _ z hz => by have h1 := (own_lt o329 z.block (by rw [hz]; rfl)).1; have h2 := Nat.lt_of_lt_of_le (Blk.lt b17) (z6 k24 k41 k52 k57 k60 k65); omega)⟩ (by simp)) ?_
    rintro _ w10 ⟨x333, k332, ⟨i335, h336, b337, r338, l339, p340, n341⟩, rfl, q334⟩
    have m342 := m326.ext k332 (fun k hk => by subst hk; exact Nat.le_trans k9.size p14)
    have q334m : x333 = 0 ∨ x333 = 1 ∨ x333 = 34 ∨ x333 = 62 ∨ x333 = 1000000 ∨ x333 = 1000001 ∨ x333 = (-1) := by simpa only [List.mem_cons, List.not_mem_nil, or_false] using q334
    exact wl_finT ⟨k332, fun _ => ⟨_, _, b337, (r3.from0 m342), s4, (by omega), (fun h0 z hz => Nat.ne_of_lt (Nat.lt_of_lt_of_le (rd_posB r3 h0 z hz) (Nat.le_trans k9.size p14)))⟩⟩ ⟨_, rfl, q334⟩
   ·rintro lf w9 ⟨k343, ⟨i345, h346, b347, r348, l349, p350, n351⟩⟩ ⟨n344, -⟩
    rintro _ rfl _ _ rfl _ ⟨a353, c354, rfl, o355, s356, -⟩ _ ⟨x269, rfl, q358⟩
    have q358m : x269 = 0 ∨ x269 = 1 ∨ x269 = 34 ∨ x269 = 62 ∨ x269 = 1000000 ∨ x269 = 1000001 ∨ x269 = (-1) := by simpa only [List.mem_cons, List.not_mem_nil, or_false] using q358
    intro _
    show WL _ _ _ _ _ _ _
    refine aw (vs a27 (x25).length c28) ?_
    exact f1
  ·rintro lf w9 ⟨k359, ⟨i361, h362, b363, r364, l365, p366, n367⟩⟩
   have m368 := m75.ext k359 (fun k hk => by subst hk; exact Nat.le_trans k9.size p14)
   rintro _ rfl _ rfl _ rfl _ ⟨a370, c371, rfl, o372, s373, -⟩ _ ⟨x269, rfl, q375⟩
   have q375m : x269 = 0 ∨ x269 = 1 ∨ x269 = 34 ∨ x269 = 62 ∨ x269 = 1000000 ∨ x269 = 1000001 ∨ x269 = (-1) := by simpa only [List.mem_cons, List.not_mem_nil, or_false] using q375
   rintro _ rfl
   show WL _ _ _ _ _ _ _
   have zz1 := Nat.lt_of_lt_of_le p8 (p14)
   have b376 := ((((((((b10.kp k12).ch k24 (Nat.ne_of_lt zz1)).ch k41 (Nat.ne_of_lt zz1)).kp k52).kp k57).ch k60 (Nat.ne_of_lt (Nat.lt_of_lt_of_le p8 (Nat.le_trans (z4 k12 k24 k41 k52) p55)))).ch k65 (Nat.ne_of_lt zz1)).ch k359 (Nat.ne_of_lt zz1))
   refine st (va (L_26 (F_spec_Near (x42)))) (L_26 (F_spec_Near (x42))) (L_26 (F_spec_Near (x42))) wN sizeOf_26 b376 ?_
   intro w10 k377 b378 z379
   have m380 := m368.ext k377 (fun k hk => by subst hk; exact p7)
   refine aw (vi x269) ?_
   refine n3 ?_
   have zz2 := Nat.lt_of_lt_of_le (Blk.lt b17) (Nat.le_refl w2.heap.size)
   have o381 := (own_ch (own_ch (own_ch (own_ch (own_kp (own_kp (own_ch o29 k41 (ne1 o29 zz2)) k52) k57) k60 (ne2 o29 (Nat.le_trans (z2 k41 k52) p55))) k65 (ne1 o29 zz2)) k359 (ne1 o29 zz2)) k377 (ne1 o29 (Nat.lt_of_lt_of_le p8 k12.size)))
   refine ret_3 (.inl rfl) (vs a27 (x25).length c28) (va (L_26 (F_spec_Near (x42)))) (vi x269) rfl rfl (rv_c (L_26 (F_spec_Near (x42))) rfl b378 isAgg_26 sizeOf_26) rfl ?_
   exact ⟨((x25), (F_spec_Near (x42)), x269), m380.keep0, ⟨_, _, rfl, (own_lo o381 (z2 k9 k12)), s30, ⟨trivial, trivial⟩⟩, (by (simp only []; omega))⟩
 refine ct h76 ?_
 refine wc_region ?_
 refine mw (vp g13 0) ?_
 refine cl wN (C_spec_l6Any w8 g13 a1 c2 x_code ⟨_, _, b70, (r3.from0 m75), s4, (by omega), (fun h0 z hz => Nat.ne_of_lt (Nat.lt_of_lt_of_le (rd_posB r3 h0 z hz) (Nat.le_trans k9.size p14)))⟩) ?_
 rintro _ w9 ⟨x79, k78, ⟨i81, h82, b83, r84, l85, p86, n87⟩, rfl, q80⟩
 have m88 := m75.ext k78 (fun k hk => by subst hk; exact Nat.le_trans k9.size p14)
 have b89 := ((b61.ch k65 (Ne.symm (Nat.ne_of_lt (Nat.lt_of_lt_of_le (Blk.lt b17) (Nat.le_trans (z3 k24 k41 k52) p55))))).ch k78 (Ne.symm (Nat.ne_of_lt (Nat.lt_of_lt_of_le (Blk.lt b17) (Nat.le_trans (z3 k24 k41 k52) p55)))))
 refine st (va (L_26 (x79))) (L_26 (x79)) (L_26 (x79)) wN sizeOf_26 b89 ?_
 intro w10 k90 b91 z92
 have m93 := m88.ext k90 (fun k hk => by subst hk; exact Nat.le_trans (z5 k9 k12 k24 k41 k52) p55)
 refine wl_nil <| wq_then <| wc_seq ?_
 have b124 := (b83.ch k90 (Nat.ne_of_lt (Nat.lt_of_lt_of_le (Blk.lt b17) (Nat.le_trans (z3 k24 k41 k52) p55))))
 refine wc_drawT ([(19, [], [], (fun _ v _ => v = (vs a27 (x25).length c28))), (20, [], [], (fun _ v _ => v = (va (L_26 (x79))))), (21, [], [], (fun _ v _ => v = (vp g13 0))), (22, [], [], (fun _ v w => ∃ (a1 : Option Addr) (c1 : Nat), v = .slice a1 ([0, 1, 34, 62, 1000000, 1000001, (-1)] : List Int).length c1 ∧ w.ownsRow w10.heap.size 3 1 (.slice a1 ([0, 1, 34, 62, 1000000, 1000001, (-1)] : List Int).length c1) ([0, 1, 34, 62, 1000000, 1000001, (-1)] : List Int).length (([0, 1, 34, 62, 1000000, 1000001, (-1)] : List Int).map iV) ∧ ([0, 1, 34, 62, 1000000, 1000001, (-1)] : List Int).length ≤ 1073741824 ∧ Aps [(a1, c1)])), (23, [], [2, 3], (fun _ v _ => ∃ x123 : Int, v = vi x123 ∧ x123 ∈ ([0, 1, 34, 62, 1000000, 1000001, (-1)] : List Int))), (2, [], [0, 2, 3, 4], (fun _ v _ => v = (vs a27 (x25).length c28)))] : GV) (fun lf w' => Ch (fun k => k = g13) w10 w' ∧ CurX w' g13 138 a1 c2 x_code) [(4, fun w w' => Ch (fun k => k = g13) w w' ∧ (CurX w g13 138 a1 c2 x_code → CurX w' g13 138 a1 c2 x_code))] mixed rfl (by kernel_rfl) (by kernel_rfl) ?_ (fun _ _ h => ⟨h.to _, CurX.kp ⟨_, _, b124, (r3.from0 m93), s4, (by omega), (fun h0 z hz => Nat.ne_of_lt (Nat.lt_of_lt_of_le (rd_posB r3 h0 z hz) (Nat.le_trans k9.size p14)))⟩ h⟩) (fun _ _ _ _ h mo k => by obtain ⟨hc, hcur⟩ := h; exact ⟨hc.comp k (fun _ _ q => q.elim), hcur.kp k⟩) ⟨(fun _ _ w w' h mo hj t => by obtain ⟨hc, hcur⟩ := h; exact ⟨hc.comp t.1 (fun _ _ q => q), t.2 hcur⟩), trivial⟩ ?_ ?_ ?_
 ·exact ⟨hV, hE, ⟨hV, hE, ⟨hV, hE, ⟨(fun e v w w1 h hk => by obtain ⟨a0x, c0x, he, o0x, l0x, hap⟩ := h; exact ⟨a0x, c0x, he, own_kp o0x hk, l0x, hap⟩), hE, ⟨hV, hE, ⟨hV, hE, trivial⟩⟩⟩⟩⟩⟩
 ·exact ⟨⟨.inr hV, ⟨.inr hV, ⟨.inr hV, ⟨.inr (fun e v wX wY h ht => by obtain ⟨a0x, c0x, he, o0x, l0x, hap⟩ := h; exact ⟨a0x, c0x, he, own_ch o0x ht.1 (fun gq hg _ hk => by have h1 := (own_lt o0x gq hg).1; have h3 : gq = g13 := hk; have h4 := (Nat.lt_of_lt_of_le (Blk.lt b17) (z8 k24 k41 k52 k57 k60 k65 k78 k90)); omega), l0x, hap⟩), ⟨.inl rfl, ⟨.inr hV, trivial⟩⟩⟩⟩⟩⟩, trivial⟩
 ·refine ⟨?_, ⟨?_, ⟨?_, ⟨?_, ⟨?_, ⟨?_, trivial⟩⟩⟩⟩⟩⟩
  ·rintro lf w11 ⟨k125, ⟨i127, h128, b129, r130, l131, p132, n133⟩⟩ ⟨n126, -⟩
   rintro _ _ _ _ _ _
   show WL _ _ _ _ _ _ _
   refine mw (vs a27 (x25).length c28) ?_
   exact f1
  ·rintro lf w11 ⟨k135, ⟨i137, h138, b139, r140, l141, p142, n143⟩⟩ ⟨n136, -⟩
   rintro _ _ _ _ _ _
   show WL _ _ _ _ _ _ _
   have b145 := (b91.ch k135 (Ne.symm (Nat.ne_of_lt (Nat.lt_of_lt_of_le (Blk.lt b17) (Nat.le_trans (z3 k24 k41 k52) p55)))))
   refine lN (L_26 (x79)) wN isAgg_26 sizeOf_26 b145 ?_
   exact f1
  ·rintro lf w11 ⟨k146, ⟨i148, h149, b150, r151, l152, p153, n154⟩⟩ ⟨n147, -⟩
   rintro _ _ _ _ _ _
   show WL _ _ _ _ _ _ _
   refine mw (vp g13 0) ?_
   exact f1
  ·rintro lf w11 ⟨k156, ⟨i158, h159, b160, r161, l162, p163, n164⟩⟩ ⟨n157, -⟩
   rintro _ _ _ _ _ _
   show WL _ _ _ _ _ _ _
   refine ltI ([0, 1, 34, 62, 1000000, 1000001, (-1)] : List Int) wN slTy_77 ?_
   intro a166 c167 w12 k168 o169
   exact wl_finT k168 ⟨_, _, rfl, (own_lo o169 k156.size), (by simp), ⟨trivial, trivial⟩⟩
  ·rintro lf w11 ⟨k172, ⟨i174, h175, b176, r177, l178, p179, n180⟩⟩ ⟨n173, -⟩
   have m181 := m93.ext k172 (fun k hk => by subst hk; exact Nat.le_trans k9.size p14)
   rintro _ _ _ rfl _ ⟨a182, c183, rfl, o184, s185, -⟩ _ _
   show WL _ _ _ _ _ _ _
   refine cl wN (C_spec_l1Int w11 g13 a1 c2 x_code ⟨_, _, b176, (r3.from0 m181), s4, (by omega), (fun h0 z hz => Nat.ne_of_lt (Nat.lt_of_lt_of_le (rd_posB r3 h0 z hz) (Nat.le_trans k9.size p14)))⟩ _ ([0, 1, 34, 62, 1000000, 1000001, (-1)] : List Int) ⟨_, _, rfl, (Rd.of_own o184), s185, (fun _ z hz => by have h1 := (own_lt o184 z.block (by rw [hz]; rfl)).1; have h2 := Nat.lt_of_lt_of_le (Blk.lt b17) (z8 k24 k41 k52 k57 k60 k65 k78 k90); omega)⟩ (by simp)) ?_
   rintro _ w12 ⟨x188, k187, ⟨i190, h191, b192, r193, l194, p195, n196⟩, rfl, q189⟩
   have m197 := m181.ext k187 (fun k hk => by subst hk; exact Nat.le_trans k9.size p14)
   have q189m : x188 = 0 ∨ x188 = 1 ∨ x188 = 34 ∨ x188 = 62 ∨ x188 = 1000000 ∨ x188 = 1000001 ∨ x188 = (-1) := by simpa only [List.mem_cons, List.not_mem_nil, or_false] using q189
   exact wl_finT ⟨k187, fun _ => ⟨_, _, b192, (r3.from0 m197), s4, (by omega), (fun h0 z hz => Nat.ne_of_lt (Nat.lt_of_lt_of_le (rd_posB r3 h0 z hz) (Nat.le_trans k9.size p14)))⟩⟩ ⟨_, rfl, q189⟩
  ·rintro lf w11 ⟨k198, ⟨i200, h201, b202, r203, l204, p205, n206⟩⟩ ⟨n199, -⟩
   rintro _ rfl _ _ rfl _ ⟨a208, c209, rfl, o210, s211, -⟩ _ ⟨x123, rfl, q213⟩
   have q213m : x123 = 0 ∨ x123 = 1 ∨ x123 = 34 ∨ x123 = 62 ∨ x123 = 1000000 ∨ x123 = 1000001 ∨ x123 = (-1) := by simpa only [List.mem_cons, List.not_mem_nil, or_false] using q213
   intro _
   show WL _ _ _ _ _ _ _
   refine aw (vs a27 (x25).length c28) ?_
   exact f1
 ·rintro lf w11 ⟨k214, ⟨i216, h217, b218, r219, l220, p221, n222⟩⟩
  have m223 := m93.ext k214 (fun k hk => by subst hk; exact Nat.le_trans k9.size p14)
  rintro _ rfl _ rfl _ rfl _ ⟨a225, c226, rfl, o227, s228, -⟩ _ ⟨x123, rfl, q230⟩
  have q230m : x123 = 0 ∨ x123 = 1 ∨ x123 = 34 ∨ x123 = 62 ∨ x123 = 1000000 ∨ x123 = 1000001 ∨ x123 = (-1) := by simpa only [List.mem_cons, List.not_mem_nil, or_false] using q230
  rintro _ rfl
  show WL _ _ _ _ _ _ _
  have zz3 := Nat.lt_of_lt_of_le p8 (p14)
  have b231 := ((((((((((b10.kp k12).ch k24 (Nat.ne_of_lt zz3)).ch k41 (Nat.ne_of_lt zz3)).kp k52).kp k57).ch k60 (Nat.ne_of_lt (Nat.lt_of_lt_of_le p8 (Nat.le_trans (z4 k12 k24 k41 k52) p55)))).ch k65 (Nat.ne_of_lt zz3)).ch k78 (Nat.ne_of_lt zz3)).ch k90 (Nat.ne_of_lt (Nat.lt_of_lt_of_le p8 (Nat.le_trans (z4 k12 k24 k41 k52) p55)))).ch k214 (Nat.ne_of_lt zz3))
  refine st (va (L_26 (x79))) (L_26 (x79)) (L_26 (x79)) wN sizeOf_26 b231 ?_
  intro w12 k232 b233 z234
  have m235 := m223.ext k232 (fun k hk => by subst hk; exact p7)
  refine aw (vi x123) ?_
  refine n3 ?_
  have zz4 := Nat.lt_of_lt_of_le (Blk.lt b17) (Nat.le_refl w2.heap.size)
  have o236 := (own_ch (own_ch (own_ch (own_ch (own_ch (own_ch (own_kp (own_kp (own_ch o29 k41 (ne1 o29 zz4)) k52) k57) k60 (ne2 o29 (Nat.le_trans (z2 k41 k52) p55))) k65 (ne1 o29 zz4)) k78 (ne1 o29 zz4)) k90 (ne2 o29 (Nat.le_trans (z2 k41 k52) p55))) k214 (ne1 o29 zz4)) k232 (ne1 o29 (Nat.lt_of_lt_of_le p8 k12.size)))
  refine ret_3 (.inl rfl) (vs a27 (x25).length c28) (va (L_26 (x79))) (vi x123) rfl rfl (rv_c (L_26 (x79)) rfl b233 isAgg_26 sizeOf_26) rfl ?_
  exact ⟨((x25), (x79), x123), m235.keep0, ⟨_, _, rfl, (own_lo o236 (z2 k9 k12)), s30, ⟨trivial, trivial⟩⟩, (by (simp only []; omega))⟩

def F_impl_copyCredits (x_l : List PCredit) : (List PCredit) := x_l
theorem C_impl_copyCredits (w0 : World) (v_x_l : Value) (x_l : List PCredit) (r_x_l : R_24 w0 v_x_l x_l)  : Fn Try.prog 69 #[v_x_l] w0 (fun v w' => Keep w0 w' ∧ O_24 w' w0.heap.size v (x_l)) := by
 obtain ⟨a1, c2, rfl, r3, s4⟩ := r_x_l
 refine fn_ofS (n := 6) [(vs a1 x_l.length c2)] Try.func69 rfl rfl ?_
 refine sr ?_
 refine aw (vs none 0 0) ?_
 refine nx ?_
 refine wl_lit0 wN rfl rfl slTy_24 (fun w => by kernel_rfl) ?_
 intro a6 w1 k7 o8
 have m9 := (Ch.base w0).extk k7
 refine mw (vs a1 x_l.length c2) ?_
 refine wl_append0 wN rfl rfl rfl slTy_24 rfl rfl o8 (r3.from0 m9) (rows_one (fun u => u.oneCell' = true) enc_PCredit_one) (by first | (simp only [List.length_append, List.length_cons, List.length_nil, List.length_replicate, List.length_take, List.length_drop]; omega) | omega) (by simp only [maxLen]; first | (simp only [List.length_append, List.length_cons, List.length_nil, List.length_replicate, List.length_take, List.length_drop]; omega) | omega) k7.size ?_
 intro u11 w2 k12 o13 j14
 obtain ⟨a15, c16, rfl⟩ := own_form o13
 have n17 : New w1 a15 c16 := j14 _ _ rfl
 have m18 := m9.extk k12
 refine aw (vs a15 x_l.length c16) ?_
 refine n3 ?_
 refine rt (vs a15 x_l.length c16) ?_
 refine ⟨m18.keep0, ?_⟩
 have hF20 : x_l = x_l := by rfl
 rw [hF20]
 exact ⟨_, _, rfl, o13, s4, ⟨trivial, trivial⟩⟩

def F_impl_within (x_n : Int) (x_low : Int) (x_high : Int) : (Bool) := bif (decide (x_low ≤ x_n)) then (decide (x_n ≤ x_high)) else (false)
theorem C_impl_within (w0 : World) (x_n : Int) (x_low : Int) (x_high : Int)  : Fn Try.prog 71 #[(vi x_n), (vi x_low), (vi x_high)] w0 (fun v w' => Keep w0 w' ∧ O_4 w' w0.heap.size v (F_impl_within x_n x_low x_high)) := by
 refine fn_ofS (n := 15) [(vi x_n), (vi x_low), (vi x_high)] Try.func71 rfl rfl ?_
 refine sr ?_
 refine aw (vb false) ?_
 refine nx ?_
 refine mw (vi x_n) ?_
 refine mw (vi x_low) ?_
 refine pu (vb (decide (x_low ≤ x_n))) wN ?_
 refine mw (vb (decide (x_low ≤ x_n))) ?_
 rcases bf (decide (x_low ≤ x_n)) with h1 | h1
 ·have q4 := of_decide_eq_false h1
  iterate 3 refine sk h1 ?_
  refine pf (vb false) wN h1 ?_
  refine aw (vb false) ?_
  refine n3 ?_
  refine rt (vb false) ?_
  refine ⟨Ch.refl _ _, ?_⟩
  simp only [F_impl_within, h1, cond_true, cond_false]
  exact rfl
 have q2 := of_decide_eq_true h1
 refine mv (vi x_n) (wS h1) ?_
 refine mv (vi x_high) (wS h1) ?_
 refine pu (vb (decide (x_n ≤ x_high))) (wS h1) ?_
 refine pk (vb (decide (x_n ≤ x_high))) wN h1 ?_
 refine aw (vb (decide (x_n ≤ x_high))) ?_
 refine n3 ?_
 refine rt (vb (decide (x_n ≤ x_high))) ?_
 refine ⟨Ch.refl _ _, ?_⟩
 simp only [F_impl_within, h1, cond_true, cond_false]
 exact rfl
theorem impl_within_t {n a b : Int} (h : F_impl_within n a b = true) : a ≤ n ∧ n ≤ b := by
  unfold F_impl_within at h
  by_cases h1 : a ≤ n <;> simp [h1] at h
  exact ⟨h1, h⟩
theorem impl_within_f {n a b : Int} (h : F_impl_within n a b = false) : n < a ∨ b < n := by
  unfold F_impl_within at h
  by_cases h1 : a ≤ n <;> simp [h1] at h <;> omega

def F_impl_AddrOk (x_a : PAddr) : (Bool) := bif (F_impl_within x_a.Host 0 4294967295) then ((F_impl_within x_a.Port 0 65535)) else (false)
theorem C_impl_AddrOk (w0 : World) (v_x_a : Value) (x_a : PAddr) (r_x_a : R_26 w0 v_x_a x_a)  : Fn Try.prog 70 #[v_x_a] w0 (fun v w' => Keep w0 w' ∧ O_4 w' w0.heap.size v (F_impl_AddrOk x_a)) := by
 obtain rfl := r_x_a
 refine fn_ofS (n := 11) [(va (L_26 x_a))] Try.func70 rfl rfl ?_
 refine sr ?_
 refine bx (L_26 x_a) wN ?_
 intro g1 w1 p2 p3 k4 b5
 refine aw (vb false) ?_
 refine nx ?_
 refine pu (vp g1 0) wN ?_
 refine ld (vi x_a.Host) wN isAgg_3 b5 ?_
 refine cl wN (C_impl_within w1 x_a.Host 0 4294967295) ?_
 rintro _ w2 ⟨k7, rfl⟩
 have m8 := ((Ch.base w0).extk k4).extk k7
 refine mw (vb (F_impl_within x_a.Host 0 4294967295)) ?_
 rcases bf (F_impl_within x_a.Host 0 4294967295) with h9 | h9
 ·have q15 := impl_within_f h9
  iterate 3 refine sk h9 ?_
  refine pf (vb false) wN h9 ?_
  refine aw (vb false) ?_
  refine n3 ?_
  refine rt (vb false) ?_
  refine ⟨m8.keep0, ?_⟩
  simp only [F_impl_AddrOk, h9, cond_true, cond_false]
  exact rfl
 have q10 := impl_within_t h9
 refine pu (vp g1 1) (wS h9) ?_
 have b11 := (b5.kp k7)
 refine ld (vi x_a.Port) (wS h9) isAgg_3 b11 ?_
 refine cl (wS h9) (C_impl_within w2 x_a.Port 0 65535) ?_
 rintro _ w3 ⟨k12, rfl⟩
 have m13 := m8.extk k12
 refine pk (vb (F_impl_within x_a.Port 0 65535)) wN h9 ?_
 refine aw (vb (F_impl_within x_a.Port 0 65535)) ?_
 refine n3 ?_
 refine rt (vb (F_impl_within x_a.Port 0 65535)) ?_
 refine ⟨m13.keep0, ?_⟩
 simp only [F_impl_AddrOk, h9, cond_true, cond_false]
 exact rfl

theorem zero_33 : ∀ w, (zeroValue 33).run Try.prog w = .ok (va Z_33) w := fun w => by kernel_rfl
abbrev L_33 (x : PCredit)  : List Value := [vi x.A.Host, vi x.A.Port, vi x.Got, vi x.Sent]
theorem C_impl_creditAt (w0 : World) (v_x_l : Value) (x_l : List PCredit) (r_x_l : R_24 w0 v_x_l x_l) (v_x_a : Value) (x_a : PAddr) (r_x_a : R_26 w0 v_x_a x_a)  : Fn Try.prog 72 #[v_x_l, v_x_a] w0 (fun v w' => Keep w0 w' ∧ O_3 w' w0.heap.size v (creditAt x_l x_a)) := by
 obtain ⟨a1, c2, rfl, r3, s4⟩ := r_x_l
 obtain rfl := r_x_a
 refine fn_ofS (n := 20) [(vs a1 x_l.length c2), (va (L_26 x_a))] Try.func72 rfl rfl ?_
 refine sr ?_
 refine bx (L_26 x_a) wN ?_
 intro g6 w1 p7 p8 k9 b10
 have m11 := (Ch.base w0).extk k9
 refine aw (vi 0) ?_
 refine n4 ?_
 refine mw (vs a1 x_l.length c2) ?_
 refine ln wN slTy_24 (r3.from0 m11) ?_
 refine mw (vi 0) ?_
 refine wl_nil <| wq_then <| wc_block ?_
 refine wc_loopP [(3, (vp g6 0)), (7, (vs a1 x_l.length c2)), (8, (vi (x_l.length : Int))), (9, (vi ((0 : Nat) : Int)))] ⟨rfl, rfl, rfl, (congrArg (Value.int .i64) (show (0 : Int) = ((0 : Nat) : Int) by omega)), trivial⟩ (fun e' w' => ∃ (k : Nat) (u12 : Env), e' = pt u12 [(3, (vp g6 0)), (7, (vs a1 x_l.length c2)), (8, (vi (x_l.length : Int))), (9, (vi ((k : Nat) : Int)))] ∧ Ch (fun k => w0.heap.size ≤ k) w0 w' ∧ Ch (fun k => w1.heap.size ≤ k) w1 w' ∧ k ≤ x_l.length ∧ ∀ j, j < k → (fun c : PCredit => decide (c.A.Host = x_a.Host) && decide (c.A.Port = x_a.Port)) (x_l.getD j z_PCredit) = false) (fun e' _ => x_l.length - ((intOf (e' 9))).toNat) ?_ ?_
 ·exact fun u => ⟨0, u, rfl, m11, (Ch.refl (fun k => w1.heap.size ≤ k) w1), (by omega), (by first | (intro j hj; omega) | exact find_next (p := (fun c : PCredit => decide (c.A.Host = x_a.Host) && decide (c.A.Port = x_a.Port))) (by assumption) (by assumption))⟩
 ·rintro _ w2 ⟨k, u12, rfl, m13, k14, i15, i16⟩
  refine sr ?_
  refine pu (vb (decide (((k : Nat) : Int) < (x_l.length : Int)))) wN ?_
  refine wl_nil <| wq_then <| wc_seq ?_
  rcases bf (decide (((k : Nat) : Int) < (x_l.length : Int))) with h17 | h17
  ·have q34 := of_decide_eq_false h17
   refine cf h17 ?_
   refine wc_exit <| wq_then_exit <| wq_then_exit <| wq_blk_exit <| wq_then <| sr ?_
   refine aw (vi (-1)) ?_
   refine n3 ?_
   refine rt (vi (-1)) ?_
   refine ⟨m13.keep0, ?_⟩
   have hF35 : creditAt x_l x_a = (-1) := by first | exact findF_some (p := (fun c : PCredit => decide (c.A.Host = x_a.Host) && decide (c.A.Port = x_a.Port))) (z := z_PCredit) (by assumption) (by omega) (by assumption) | exact findF_none (p := (fun c : PCredit => decide (c.A.Host = x_a.Host) && decide (c.A.Port = x_a.Port))) (z := z_PCredit) (by assumption) (by omega)
   rw [hF35]
   exact rfl
  have q18 := of_decide_eq_true h17
  refine ct h17 ?_
  refine wc_skip <| wq_then <| wc_seq <| wc_block <| sr ?_
  refine mw (vi ((k : Nat) : Int)) ?_
  refine ix wN ((k : Nat) : Int) slTy_24 (r3.from0 m13) ?_
  refine wl_loadEN [(vi (((x_l.getD k z_PCredit).A).Host)), (vi (((x_l.getD k z_PCredit).A).Port)), (vi ((x_l.getD k z_PCredit).Got)), (vi ((x_l.getD k z_PCredit).Sent))] wN rfl rfl rfl rfl isAgg_33 sizeOf_33 (r3.from0 m13) (by first | omega | (simp only [List.length_cons, List.length_nil, List.length_replicate, List.length_append, List.length_take, List.length_set, List.length_map]; omega)) ((rows_part (off := 0) (n := 4) enc_PCredit_len z_PCredit (by first | rfl | simp | omega) (by decide) (by first | omega | (simp only [List.length_cons, List.length_nil, List.length_replicate, List.length_append, List.length_take, List.length_set, List.length_map]; omega))).trans rfl) ?_
  refine al Z_33 wN zero_33 ?_
  intro g19 w3 p20 p21 k22 b23
  refine aw (vi ((k : Nat) : Int)) ?_
  refine st (va (L_33 (x_l.getD k z_PCredit))) (L_33 (x_l.getD k z_PCredit)) (L_33 (x_l.getD k z_PCredit)) wN sizeOf_33 b23 ?_
  intro w4 k25 b26 z27
  have m28 := (m13.extk k22).ext k25 (fun k hk => by subst hk; exact Nat.le_trans (z2 k9 k14) p20)
  refine nx ?_
  refine pu (vp g19 0) wN ?_
  refine lN (L_26 ((x_l.getD k z_PCredit).A)) wN isAgg_26 sizeOf_26 b26 ?_
  have b29 := (((b10.ch k14 (Nat.not_le.2 (p8))).kp k22).ch k25 (Nat.ne_of_lt (Nat.lt_of_lt_of_le p8 (Nat.le_trans k14.size p20))))
  refine lN (L_26 x_a) wN isAgg_26 sizeOf_26 b29 ?_
  refine wl_aggeq ((decide ((((x_l.getD k z_PCredit).A).Host) = x_a.Host) && decide ((((x_l.getD k z_PCredit).A).Port) = x_a.Port))) wN rfl rfl rfl rfl rfl guardt_26 (aggeq_26 (((x_l.getD k z_PCredit).A).Host) x_a.Host (((x_l.getD k z_PCredit).A).Port) x_a.Port w4) ?_
  refine n2 ?_
  rcases bt (decide ((((x_l.getD k z_PCredit).A).Host) = x_a.Host) && decide ((((x_l.getD k z_PCredit).A).Port) = x_a.Port)) with h30 | h30
  ·refine ct h30 ?_
   refine sr ?_
   refine mw (vi ((k : Nat) : Int)) ?_
   refine aw (vi ((k : Nat) : Int)) ?_
   refine wl_nil <| wq_then <| wc_ret <| wq_blk_ret <| wq_then_ret <| wq_then_ret <| wq_blk_ret <| wq_then_ret ?_
   refine rt (vi ((k : Nat) : Int)) ?_
   refine ⟨m28.keep0, ?_⟩
   have hF32 : creditAt x_l x_a = ((k : Nat) : Int) := by first | exact findF_some (p := (fun c : PCredit => decide (c.A.Host = x_a.Host) && decide (c.A.Port = x_a.Port))) (z := z_PCredit) (by assumption) (by omega) (by assumption) | exact findF_none (p := (fun c : PCredit => decide (c.A.Host = x_a.Host) && decide (c.A.Port = x_a.Port))) (z := z_PCredit) (by assumption) (by omega)
   rw [hF32]
   exact rfl
  refine cf h30 ?_
  refine wc_skip <| wq_blk_normal <| wq_then <| wc_region ?_
  refine ar (((k : Nat) : Int) + 1) wN ?_
  refine mw (vi (((k : Nat) : Int) + 1)) ?_
  refine wl_nil ?_
  refine wq_loopP (w0 := w2) [(3, (vp g6 0)), (7, (vs a1 x_l.length c2)), (8, (vi (x_l.length : Int))), (9, (vi (((k + 1) : Nat) : Int)))] ?_ ?_ ?_
  · exact ⟨rfl, rfl, rfl, (congrArg (Value.int .i64) (show ((((k : Nat) : Int) + 1) : Int) = (((k + 1) : Nat) : Int) by omega)), trivial⟩
  · exact fun u => ⟨(k + 1), u, rfl, m28, ((((Ch.refl (fun k => w1.heap.size ≤ k) w1).ext k14 (fun k hk => hk)).extk k22).ext k25 (fun k hk => by subst hk; exact Nat.le_trans k14.size p20)), (by omega), (by first | (intro j hj; omega) | exact find_next (p := (fun c : PCredit => decide (c.A.Host = x_a.Host) && decide (c.A.Port = x_a.Port))) (by assumption) (by assumption))⟩
  · show x_l.length - ((((k + 1) : Nat) : Int)).toNat < x_l.length - (((k : Nat) : Int)).toNat; omega

def goodI (x_l : List PCredit) (i : Nat) : Bool := F_impl_AddrOk (x_l.getD i z_PCredit).A && (F_impl_within (x_l.getD i z_PCredit).Got 0 1000000 && (F_impl_within (x_l.getD i z_PCredit).Sent 0 (3 * (x_l.getD i z_PCredit).Got) && !decide (creditAt x_l (x_l.getD i z_PCredit).A < ((i : Nat) : Int))))
def iCr (x_l : List PCredit) : Bool := bif decide (8 < (x_l.length : Int)) then false else allN (goodI x_l) x_l.length
theorem C_impl_CreditsOk (w0 : World) (v_x_l : Value) (x_l : List PCredit) (r_x_l : R_24 w0 v_x_l x_l)  : Fn Try.prog 16 #[v_x_l] w0 (fun v w' => Keep w0 w' ∧ O_4 w' w0.heap.size v (iCr x_l)) := by
 obtain ⟨a1, c2, rfl, r3, s4⟩ := r_x_l
 refine fn_ofS (n := 43) [(vs a1 x_l.length c2)] Try.func16 rfl rfl ?_
 refine sr ?_
 refine aw (vb false) ?_
 refine n4 ?_
 refine mw (vs a1 x_l.length c2) ?_
 refine ln wN slTy_24 r3 ?_
 refine pu (vb (decide (8 < (x_l.length : Int)))) wN ?_
 refine n2 ?_
 rcases bt (decide (8 < (x_l.length : Int))) with h6 | h6
 ·have q7 := of_decide_eq_true h6
  refine ct h6 ?_
  refine sr ?_
  refine aw (vb false) ?_
  refine n1 ?_
  refine rt (vb false) ?_
  refine ⟨Ch.refl _ _, ?_⟩
  have hF8 : iCr x_l = false := by first | (simp [iCr, h6]; done) | (have hz := allN_f (f := goodI x_l) (n := x_l.length) (k := k) (by omega) (by simp only [goodI, h6]; simp); simp only [iCr, h6, hz]; simp) | (have hz := allN_t (f := goodI x_l) (n := x_l.length) (k := k) (by assumption) (by omega); simp only [iCr, h6, hz]; simp)
  rw [hF8]
  exact rfl
 have q9 := of_decide_eq_false h6
 refine cf h6 ?_
 refine y2 ?_
 refine mw (vs a1 x_l.length c2) ?_
 refine ln wN slTy_24 r3 ?_
 refine mw (vi 0) ?_
 refine wl_nil <| wq_then <| wc_block ?_
 refine wc_loopP [(0, (vs a1 x_l.length c2)), (8, (vs a1 x_l.length c2)), (9, (vi (x_l.length : Int))), (10, (vi ((0 : Nat) : Int)))] ⟨rfl, rfl, rfl, (congrArg (Value.int .i64) (show (0 : Int) = ((0 : Nat) : Int) by omega)), trivial⟩ (fun e' w' => ∃ (k : Nat) (u10 : Env), e' = pt u10 [(0, (vs a1 x_l.length c2)), (8, (vs a1 x_l.length c2)), (9, (vi (x_l.length : Int))), (10, (vi ((k : Nat) : Int)))] ∧ Ch (fun k => w0.heap.size ≤ k) w0 w' ∧ Ch (fun k => w0.heap.size ≤ k) w0 w' ∧ k ≤ x_l.length ∧ ∀ j, j < k → goodI x_l j = true) (fun e' _ => x_l.length - ((intOf (e' 10))).toNat) ?_ ?_
 ·exact fun u => ⟨0, u, rfl, (Ch.base w0), (Ch.refl (fun k => w0.heap.size ≤ k) w0), (by omega), (by first | (intro j hj; omega) | exact allN_next (by assumption) (by simp only [goodI, h6]; simp))⟩
 ·rintro _ w1 ⟨k, u10, rfl, m11, k12, i13, i14⟩
  refine sr ?_
  refine pu (vb (decide (((k : Nat) : Int) < (x_l.length : Int)))) wN ?_
  refine wl_nil <| wq_then <| wc_seq ?_
  rcases bf (decide (((k : Nat) : Int) < (x_l.length : Int))) with h15 | h15
  ·have q55 := of_decide_eq_false h15
   refine cf h15 ?_
   refine wc_exit <| wq_then_exit <| wq_then_exit <| wq_blk_exit <| wq_then <| sr ?_
   refine aw (vb true) ?_
   refine n3 ?_
   refine rt (vb true) ?_
   refine ⟨m11.keep0, ?_⟩
   have hF56 : iCr x_l = true := by first | (simp [iCr, h6, h15]; done) | (have hz := allN_f (f := goodI x_l) (n := x_l.length) (k := k) (by omega) (by simp only [goodI, h6, h15]; simp); simp only [iCr, h6, h15, hz]; simp) | (have hz := allN_t (f := goodI x_l) (n := x_l.length) (k := k) (by assumption) (by omega); simp only [iCr, h6, h15, hz]; simp)
   rw [hF56]
   exact rfl
  have q16 := of_decide_eq_true h15
  refine ct h15 ?_
  refine wc_skip <| wq_then <| wc_seq <| wc_block <| sr ?_
  refine mw (vi ((k : Nat) : Int)) ?_
  refine ix wN ((k : Nat) : Int) slTy_24 (r3.from0 m11) ?_
  refine wl_loadEN [(vi (((x_l.getD k z_PCredit).A).Host)), (vi (((x_l.getD k z_PCredit).A).Port)), (vi ((x_l.getD k z_PCredit).Got)), (vi ((x_l.getD k z_PCredit).Sent))] wN rfl rfl rfl rfl isAgg_33 sizeOf_33 (r3.from0 m11) (by first | omega | (simp only [List.length_cons, List.length_nil, List.length_replicate, List.length_append, List.length_take, List.length_set, List.length_map]; omega)) ((rows_part (off := 0) (n := 4) enc_PCredit_len z_PCredit (by first | rfl | simp | omega) (by decide) (by first | omega | (simp only [List.length_cons, List.length_nil, List.length_replicate, List.length_append, List.length_take, List.length_set, List.length_map]; omega))).trans rfl) ?_
  refine al Z_33 wN zero_33 ?_
  intro g17 w2 p18 p19 k20 b21
  refine aw (vi ((k : Nat) : Int)) ?_
  refine st (va (L_33 (x_l.getD k z_PCredit))) (L_33 (x_l.getD k z_PCredit)) (L_33 (x_l.getD k z_PCredit)) wN sizeOf_33 b21 ?_
  intro w3 k23 b24 z25
  have m26 := (m11.extk k20).ext k23 (fun k hk => by subst hk; exact Nat.le_trans k12.size p18)
  refine nx ?_
  refine pu (vp g17 0) wN ?_
  refine lN (L_26 ((x_l.getD k z_PCredit).A)) wN isAgg_26 sizeOf_26 b24 ?_
  refine cl wN (C_impl_AddrOk w3 _ ((x_l.getD k z_PCredit).A) (mR_26)) ?_
  rintro _ w4 ⟨k27, rfl⟩
  have m28 := m26.extk k27
  refine pu (vb (!(F_impl_AddrOk ((x_l.getD k z_PCredit).A)))) wN ?_
  refine mw (vb (!(F_impl_AddrOk ((x_l.getD k z_PCredit).A)))) ?_
  rcases bf (F_impl_AddrOk ((x_l.getD k z_PCredit).A)) with h29 | h29
  ·iterate 4 refine sk (congrArg not h29) ?_
   refine pk (vb true) wN (congrArg not h29) ?_
   refine mw (vb true) ?_
   iterate 7 refine sk (Eq.refl true) ?_
   refine pk (vb true) wN (Eq.refl true) ?_
   refine mw (vb true) ?_
   iterate 6 refine sk (Eq.refl true) ?_
   refine pk (vb true) wN (Eq.refl true) ?_
   refine n2 ?_
   refine ct (Eq.refl true) ?_
   refine sr ?_
   refine aw (vb false) ?_
   refine wl_nil <| wq_then <| wc_ret <| wq_blk_ret <| wq_then_ret <| wq_then_ret <| wq_blk_ret <| wq_then_ret ?_
   refine rt (vb false) ?_
   refine ⟨m28.keep0, ?_⟩
   have hF54 : iCr x_l = false := by first | (simp [iCr, h6, h15, h29]; done) | (have hz := allN_f (f := goodI x_l) (n := x_l.length) (k := k) (by omega) (by simp only [goodI, h6, h15, h29]; simp); simp only [iCr, h6, h15, h29, hz]; simp) | (have hz := allN_t (f := goodI x_l) (n := x_l.length) (k := k) (by assumption) (by omega); simp only [iCr, h6, h15, h29, hz]; simp)
   rw [hF54]
   exact rfl
  refine pu (vp g17 2) (wS (congrArg not h29)) ?_
  have b31 := (b24.kp k27)
  refine ld (vi ((x_l.getD k z_PCredit).Got)) (wS (congrArg not h29)) isAgg_3 b31 ?_
  refine cl (wS (congrArg not h29)) (C_impl_within w4 ((x_l.getD k z_PCredit).Got) 0 1000000) ?_
  rintro _ w5 ⟨k32, rfl⟩
  have m33 := m28.extk k32
  refine pu (vb (!(F_impl_within ((x_l.getD k z_PCredit).Got) 0 1000000))) (wS (congrArg not h29)) ?_
  refine pf (vb (!(F_impl_within ((x_l.getD k z_PCredit).Got) 0 1000000))) wN (congrArg not h29) ?_
  refine mw (vb (!(F_impl_within ((x_l.getD k z_PCredit).Got) 0 1000000))) ?_
  rcases bf (F_impl_within ((x_l.getD k z_PCredit).Got) 0 1000000) with h34 | h34
  ·have q51 := impl_within_f h34
   iterate 7 refine sk (congrArg not h34) ?_
   refine pk (vb true) wN (congrArg not h34) ?_
   refine mw (vb true) ?_
   iterate 6 refine sk (Eq.refl true) ?_
   refine pk (vb true) wN (Eq.refl true) ?_
   refine n2 ?_
   refine ct (Eq.refl true) ?_
   refine sr ?_
   refine aw (vb false) ?_
   refine wl_nil <| wq_then <| wc_ret <| wq_blk_ret <| wq_then_ret <| wq_then_ret <| wq_blk_ret <| wq_then_ret ?_
   refine rt (vb false) ?_
   refine ⟨m33.keep0, ?_⟩
   have hF52 : iCr x_l = false := by first | (simp [iCr, h6, h15, h29, h34]; done) | (have hz := allN_f (f := goodI x_l) (n := x_l.length) (k := k) (by omega) (by simp only [goodI, h6, h15, h29, h34]; simp); simp only [iCr, h6, h15, h29, h34, hz]; simp) | (have hz := allN_t (f := goodI x_l) (n := x_l.length) (k := k) (by assumption) (by omega); simp only [iCr, h6, h15, h29, h34, hz]; simp)
   rw [hF52]
   exact rfl
  have q35 := impl_within_t h34
  refine pu (vp g17 3) (wS (congrArg not h34)) ?_
  have b36 := (b31.kp k32)
  refine ld (vi ((x_l.getD k z_PCredit).Sent)) (wS (congrArg not h34)) isAgg_3 b36 ?_
  refine pu (vp g17 2) (wS (congrArg not h34)) ?_
  refine ld (vi ((x_l.getD k z_PCredit).Got)) (wS (congrArg not h34)) isAgg_3 b36 ?_
  refine ar (3 * ((x_l.getD k z_PCredit).Got)) (wS (congrArg not h34)) ?_
  refine cl (wS (congrArg not h34)) (C_impl_within w5 ((x_l.getD k z_PCredit).Sent) 0 (3 * ((x_l.getD k z_PCredit).Got))) ?_
  rintro _ w6 ⟨k37, rfl⟩
  have m38 := m33.extk k37
  refine pu (vb (!(F_impl_within ((x_l.getD k z_PCredit).Sent) 0 (3 * ((x_l.getD k z_PCredit).Got))))) (wS (congrArg not h34)) ?_
  refine pf (vb (!(F_impl_within ((x_l.getD k z_PCredit).Sent) 0 (3 * ((x_l.getD k z_PCredit).Got))))) wN (congrArg not h34) ?_
  refine mw (vb (!(F_impl_within ((x_l.getD k z_PCredit).Sent) 0 (3 * ((x_l.getD k z_PCredit).Got))))) ?_
  rcases bf (F_impl_within ((x_l.getD k z_PCredit).Sent) 0 (3 * ((x_l.getD k z_PCredit).Got))) with h39 | h39
  ·have q49 := impl_within_f h39
   iterate 6 refine sk (congrArg not h39) ?_
   refine pk (vb true) wN (congrArg not h39) ?_
   refine n2 ?_
   refine ct (Eq.refl true) ?_
   refine sr ?_
   refine aw (vb false) ?_
   refine wl_nil <| wq_then <| wc_ret <| wq_blk_ret <| wq_then_ret <| wq_then_ret <| wq_blk_ret <| wq_then_ret ?_
   refine rt (vb false) ?_
   refine ⟨m38.keep0, ?_⟩
   have hF50 : iCr x_l = false := by first | (simp [iCr, h6, h15, h29, h34, h39]; done) | (have hz := allN_f (f := goodI x_l) (n := x_l.length) (k := k) (by omega) (by simp only [goodI, h6, h15, h29, h34, h39]; simp); simp only [iCr, h6, h15, h29, h34, h39, hz]; simp) | (have hz := allN_t (f := goodI x_l) (n := x_l.length) (k := k) (by assumption) (by omega); simp only [iCr, h6, h15, h29, h34, h39, hz]; simp)
   rw [hF50]
   exact rfl
  have q40 := impl_within_t h39
  refine mv (vs a1 x_l.length c2) (wS (congrArg not h39)) ?_
  refine pu (vp g17 0) (wS (congrArg not h39)) ?_
  have b41 := (b36.kp k37)
  refine lN (L_26 ((x_l.getD k z_PCredit).A)) (wS (congrArg not h39)) isAgg_26 sizeOf_26 b41 ?_
  refine cl (wS (congrArg not h39)) (C_impl_creditAt w6 _ x_l (mR_24 (r3.from0 m38) s4) _ ((x_l.getD k z_PCredit).A) (mR_26)) ?_
  rintro _ w7 ⟨k42, rfl⟩
  have m43 := m38.extk k42
  have q44 := creditAt_range x_l ((x_l.getD k z_PCredit).A)
  refine mv (vi ((k : Nat) : Int)) (wS (congrArg not h39)) ?_
  refine pu (vb (decide ((creditAt x_l ((x_l.getD k z_PCredit).A)) < ((k : Nat) : Int)))) (wS (congrArg not h39)) ?_
  refine pf (vb (decide ((creditAt x_l ((x_l.getD k z_PCredit).A)) < ((k : Nat) : Int)))) wN (congrArg not h39) ?_
  refine n2 ?_
  rcases bt (decide ((creditAt x_l ((x_l.getD k z_PCredit).A)) < ((k : Nat) : Int))) with h45 | h45
  ·have q46 := of_decide_eq_true h45
   refine ct h45 ?_
   refine sr ?_
   refine aw (vb false) ?_
   refine wl_nil <| wq_then <| wc_ret <| wq_blk_ret <| wq_then_ret <| wq_then_ret <| wq_blk_ret <| wq_then_ret ?_
   refine rt (vb false) ?_
   refine ⟨m43.keep0, ?_⟩
   have hF47 : iCr x_l = false := by first | (simp [iCr, h6, h15, h29, h34, h39, h45]; done) | (have hz := allN_f (f := goodI x_l) (n := x_l.length) (k := k) (by omega) (by simp only [goodI, h6, h15, h29, h34, h39, h45]; simp); simp only [iCr, h6, h15, h29, h34, h39, h45, hz]; simp) | (have hz := allN_t (f := goodI x_l) (n := x_l.length) (k := k) (by assumption) (by omega); simp only [iCr, h6, h15, h29, h34, h39, h45, hz]; simp)
   rw [hF47]
   exact rfl
  have q48 := of_decide_eq_false h45
  refine cf h45 ?_
  refine wc_skip <| wq_blk_normal <| wq_then <| wc_region ?_
  refine ar (((k : Nat) : Int) + 1) wN ?_
  refine mw (vi (((k : Nat) : Int) + 1)) ?_
  refine wl_nil ?_
  refine wq_loopP (w0 := w1) [(0, (vs a1 x_l.length c2)), (8, (vs a1 x_l.length c2)), (9, (vi (x_l.length : Int))), (10, (vi (((k + 1) : Nat) : Int)))] ?_ ?_ ?_
  · exact ⟨rfl, rfl, rfl, (congrArg (Value.int .i64) (show ((((k : Nat) : Int) + 1) : Int) = (((k + 1) : Nat) : Int) by omega)), trivial⟩
  · exact fun u => ⟨(k + 1), u, rfl, m43, ((((((((Ch.refl (fun k => w0.heap.size ≤ k) w0).ext k12 (fun k hk => hk)).extk k20).ext k23 (fun k hk => by subst hk; exact Nat.le_trans k12.size p18)).extk k27).extk k32).extk k37).extk k42), (by omega), (by first | (intro j hj; omega) | exact allN_next (by assumption) (by simp only [goodI, h6, h15, h29, h34, h39, h45]; simp))⟩
  · show x_l.length - ((((k + 1) : Nat) : Int)).toNat < x_l.length - (((k : Nat) : Int)).toNat; omega
theorem iCr_t {x : List PCredit} (h : iCr x = true) : (iCr x).toNat = 1 ∧ x.length ≤ 8 := by
  refine ⟨by rw [h]; rfl, ?_⟩
  cases h8 : decide (8 < (x.length : Int)) with
  | true => simp only [iCr, h8, cond_true] at h; cases h
  | false => have := of_decide_eq_false h8; omega
theorem iCr_got (x : List PCredit) (a : PAddr) : (iCr x).toNat = 0 ∨ creditAt x a < 0 ∨ (0 ≤ (x.getD (creditAt x a).toNat z_PCredit).Got ∧ (x.getD (creditAt x a).toNat z_PCredit).Got ≤ 1000000 ∧ 0 ≤ (x.getD (creditAt x a).toNat z_PCredit).Sent ∧ (x.getD (creditAt x a).toNat z_PCredit).Sent ≤ 3 * (x.getD (creditAt x a).toNat z_PCredit).Got) := by
  rcases Bool.eq_false_or_eq_true (iCr x) with h | h
  · by_cases h0 : creditAt x a < 0
    · exact .inr (.inl h0)
    · have hr := creditAt_range x a
      have hg : goodI x (creditAt x a).toNat = true := by
        cases h8 : decide (8 < (x.length : Int)) with
        | true => simp only [iCr, h8, cond_true] at h; cases h
        | false => simp only [iCr, h8, cond_false] at h; exact allN_iff.1 h _ (by omega)
      simp only [goodI, Bool.and_eq_true] at hg
      have h1 := impl_within_t hg.2.1
      have h2 := impl_within_t hg.2.2.1
      exact .inr (.inr ⟨h1.1, h1.2, h2.1, h2.2⟩)
  · exact .inl (by rw [h]; rfl)
end Go.Proofs.Ytcbdmamfmcdlaaa.K
