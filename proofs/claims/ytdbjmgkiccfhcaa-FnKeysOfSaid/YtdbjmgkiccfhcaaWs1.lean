import Derived.Test.YtdbjmgkiccfhcaaCore
import Derived.Test.YtdbjmgkiccfhcaaProg
import Derived.Test.YtdbjmgkiccfhcaaHeld
import Derived.Test.YtdbjmgkiccfhcaaFun
import Derived.Test.YtdbjmgkiccfhcaaFunZ
import Derived.Test.YtdbjmgkiccfhcaaSqz
import Derived.Test.YtdbjmgkiccfhcaaCur
import Derived.Test.YtdbjmgkiccfhcaaDrawW
import Derived.Test.YtdbjmgkiccfhcaaAead
namespace Go.Proofs.Ytdbjmgkiccfhcaa.K
open Go.RowKit
set_option linter.unusedVariables false
set_option linter.unusedSimpArgs false
set_option maxRecDepth 100000
set_option maxHeartbeats 4000000
def LT_34 : LTy (PCand) := { E := 34, Eb := 5, sz := 4, enc := fun e => [vi e.1.A.Host, vi e.1.A.Port, vs (adr2 e.2 0).1 e.1.Draw.length (adr2 e.2 0).2, vi e.1.Until], bs := fun x => [x.Draw], len := fun _ => rfl, one := fun _ => one_all rfl, pos := by decide, ne := by decide }
def z_PCand : PCand := { A := { Host := 0, Port := 0 : PAddr }, Draw := [], Until := 0 : PCand }
def candAt (x_p : PPaths) (x_a : PAddr) : Int := findF (fun c : PCand => decide (c.A.Host = x_a.Host) && decide (c.A.Port = x_a.Port)) x_p.Cands
theorem candAt_range (x_p : PPaths) (x_a : PAddr) : -1 ≤ candAt x_p x_a ∧ candAt x_p x_a < (x_p.Cands.length : Int) := findF_range x_p.Cands
def LT_49 : LTy (PNote) := { E := 49, Eb := 5, sz := 12, enc := fun e => [vi e.1.Kind, vi e.1.Id, vi e.1.Role, vs (adr2 e.2 0).1 e.1.Cn.length (adr2 e.2 0).2, vs (adr2 e.2 1).1 e.1.Sn.length (adr2 e.2 1).2, vi e.1.Epoch, vi e.1.Seq, vs (adr2 e.2 2).1 e.1.Body.length (adr2 e.2 2).2, vs (adr2 e.2 3).1 e.1.Key.length (adr2 e.2 3).2, vi e.1.A.Host, vi e.1.A.Port, vi e.1.Now], bs := fun x => [x.Cn, x.Sn, x.Body, x.Key], len := fun _ => rfl, one := fun _ => one_all rfl, pos := by decide, ne := by decide }
def z_PNote : PNote := { Kind := 0, Id := 0, Role := 0, Cn := [], Sn := [], Epoch := 0, Seq := 0, Body := [], Key := [], A := { Host := 0, Port := 0 : PAddr }, Now := 0 : PNote }
theorem slTy_22 : SlTy Try.prog 22 5 1 1 (v8 0) := slTy Try.underlying22 (by kernel_rfl) rfl rfl
def Q_22 (w : World) (v : Value) (x : (List UInt8)) : Prop := ∃ (a1 : Option Addr) (c1 : Nat), v = .slice a1 x.length c1 ∧ Rd w 1 (.slice a1 x.length c1) x.length (x.map bV) ∧ x.length ≤ 9223372036854775807
def O_4 (w : World) (lo : Nat) (v : Value) (x : (Bool)) : Prop := v = .bool x
def F_laws_big (x_code : List UInt8) : (Bool) := decide (1048576 < (x_code.length : Int))
theorem C_laws_big (w0 : World) (v_x_code : Value) (x_code : List UInt8) (r_x_code : Q_22 w0 v_x_code x_code)  : Fn Try.prog 8 #[v_x_code] w0 (fun v w' => Keep w0 w' ∧ O_4 w' w0.heap.size v (F_laws_big x_code)) := by
 obtain ⟨a1, c2, rfl, r3, s4⟩ := r_x_code
 refine fn_ofS (n := 6) [(vs a1 x_code.length c2)] Try.func8 rfl rfl ?_
 refine sr ?_
 refine aw (vb false) ?_
 refine nx ?_
 refine mw (vs a1 x_code.length c2) ?_
 refine ln wN slTy_22 r3 ?_
 refine pu (vb (decide (1048576 < (x_code.length : Int)))) wN ?_
 refine aw (vb (decide (1048576 < (x_code.length : Int)))) ?_
 refine n3 ?_
 refine rt (vb (decide (1048576 < (x_code.length : Int)))) ?_
 refine ⟨Ch.refl _ _, ?_⟩
 have hF6 : F_laws_big x_code = decide (1048576 < (x_code.length : Int)) := by rfl
 rw [hF6]
 exact rfl
theorem big_f {x : List UInt8} (h : F_laws_big x = false) : x.length ≤ 1048576 := by
  have := of_decide_eq_false h
  omega

theorem isAgg_5 : ∀ w, (isAgg 5).run Try.prog w = .ok false w := fun w => by kernel_rfl
def R_22 (w : World) (v : Value) (x : (List UInt8)) : Prop := ∃ (a1 : Option Addr) (c1 : Nat), v = .slice a1 x.length c1 ∧ Rd w 1 (.slice a1 x.length c1) x.length (x.map bV) ∧ x.length ≤ 1073741824
theorem C_spec_l1New (w0 : World) (v_x_code : Value) (x_code : List UInt8) (r_x_code : R_22 w0 v_x_code x_code)  : Fn Try.prog 45 #[v_x_code] w0 (fun v w' => ∃ g, Keep w0 w' ∧ w0.heap.size ≤ g ∧ v = vp g 0 ∧ ∀ (a : Option Addr) (c : Nat), v_x_code = .slice a x_code.length c → CurX w' g 111 a c x_code) := by
 obtain ⟨a1, c2, rfl, r3, s4⟩ := r_x_code
 refine fn_ofS (n := 32) [(vs a1 x_code.length c2)] Try.func45 rfl rfl ?_
 refine sr ?_
 refine aw (.pointer none) ?_
 refine nx ?_
 refine mw (vs a1 x_code.length c2) ?_
 refine ln wN slTy_22 r3 ?_
 refine ar (127812 + (x_code.length : Int)) wN ?_
 refine aw (vi (127812 + (x_code.length : Int))) ?_
 refine n4 ?_
 refine aw (vi 0) ?_
 refine wl_nil <| wq_then <| wc_block ?_
 refine wc_loopP [(0, (vs a1 x_code.length c2)), (2, (.pointer none)), (3, (vi (127812 + (x_code.length : Int)))), (4, (vi ((0 : Nat) : Int)))] ⟨rfl, rfl, rfl, (congrArg (Value.int .i64) (show (0 : Int) = ((0 : Nat) : Int) by omega)), trivial⟩ (fun e' w' => ∃ (k : Nat) (q : Int) (u6 : Env), e' = pt u6 [(0, (vs a1 x_code.length c2)), (2, (.pointer none)), (3, (vi q)), (4, (vi ((k : Nat) : Int)))] ∧ Ch (fun k => w0.heap.size ≤ k) w0 w' ∧ Ch (fun k => w0.heap.size ≤ k) w0 w' ∧ k ≤ x_code.length ∧ 0 ≤ q ∧ q ≤ 1073869636) (fun e' _ => x_code.length - ((intOf (e' 4))).toNat) ?_ ?_
 ·exact fun u => ⟨0, (127812 + (x_code.length : Int)), u, rfl, (Ch.base w0), (Ch.refl (fun k => w0.heap.size ≤ k) w0), (by omega), (by omega), (by omega)⟩
 ·rintro _ w1 ⟨k, q, u6, rfl, m7, k8, i9, i10, i11⟩
  have hx8 : (x_code.getD k 0).toNat < 256 := UInt8.toNat_lt _
  refine wc_seq <| sr ?_
  refine mw (vi ((k : Nat) : Int)) ?_
  refine mw (vs a1 x_code.length c2) ?_
  refine ln wN slTy_22 (r3.from0 m7) ?_
  refine pu (vb (decide (((k : Nat) : Int) < (x_code.length : Int)))) wN ?_
  refine mw (vb (decide (((k : Nat) : Int) < (x_code.length : Int)))) ?_
  rcases bf (decide (((k : Nat) : Int) < (x_code.length : Int))) with h12 | h12
  ·have q23 := of_decide_eq_false h12
   iterate 2 refine sk h12 ?_
   refine pf (vb false) wN h12 ?_
   refine n2 ?_
   refine cf (Eq.refl false) ?_
   refine wc_exit <| wq_then_exit <| wq_then_exit <| wq_blk_exit <| wq_then <| sr ?_
   refine mw (vs a1 x_code.length c2) ?_
   refine mw (vi q) ?_
   refine pu (va [(vs a1 x_code.length c2), (vi 0), (vi q)]) wN ?_
   refine bx [(vs a1 x_code.length c2), (vi 0), (vi q)] wN ?_
   intro g24 w2 p25 p26 k27 b28
   have m29 := m7.extk k27
   refine aw (vp g24 0) ?_
   refine n3 ?_
   refine rt (vp g24 0) ?_
   refine ⟨g24, m29.keep0, (Nat.le_trans k8.size p25), rfl, fun a c hv => ?_⟩
   cases hv
   exact ⟨_, _, b28, (r3.from0 m29), s4, (by omega), (fun h0 z hz => Nat.ne_of_lt (Nat.lt_of_lt_of_le (rd_posB r3 h0 z hz) (Nat.le_trans k8.size p25)))⟩
  have q13 := of_decide_eq_true h12
  refine mv (vi ((k : Nat) : Int)) (wS h12) ?_
  refine pu (vb (decide (((k : Nat) : Int) < 4000))) (wS h12) ?_
  refine pk (vb (decide (((k : Nat) : Int) < 4000))) wN h12 ?_
  refine n2 ?_
  rcases bf (decide (((k : Nat) : Int) < 4000)) with h14 | h14
  ·have q16 := of_decide_eq_false h14
   refine cf h14 ?_
   refine wc_exit <| wq_then_exit <| wq_then_exit <| wq_blk_exit <| wq_then <| sr ?_
   refine mw (vs a1 x_code.length c2) ?_
   refine mw (vi q) ?_
   refine pu (va [(vs a1 x_code.length c2), (vi 0), (vi q)]) wN ?_
   refine bx [(vs a1 x_code.length c2), (vi 0), (vi q)] wN ?_
   intro g17 w2 p18 p19 k20 b21
   have m22 := m7.extk k20
   refine aw (vp g17 0) ?_
   refine n3 ?_
   refine rt (vp g17 0) ?_
   refine ⟨g17, m22.keep0, (Nat.le_trans k8.size p18), rfl, fun a c hv => ?_⟩
   cases hv
   exact ⟨_, _, b21, (r3.from0 m22), s4, (by omega), (fun h0 z hz => Nat.ne_of_lt (Nat.lt_of_lt_of_le (rd_posB r3 h0 z hz) (Nat.le_trans k8.size p18)))⟩
  have q15 := of_decide_eq_true h14
  refine ct h14 ?_
  refine wc_skip <| wq_then <| wc_seq <| wc_block <| wc_region ?_
  refine mw (vi q) ?_
  refine ar (q * 137) wN ?_
  refine mw (vs a1 x_code.length c2) ?_
  refine mw (vi ((k : Nat) : Int)) ?_
  refine ix wN ((k : Nat) : Int) slTy_22 (r3.from0 m7) ?_
  refine eb (x := x_code) k wN isAgg_5 (r3.from0 m7) ?_
  refine ar ((x_code.getD k 0).toNat : Int) wN ?_
  refine ar ((q * 137) + ((x_code.getD k 0).toNat : Int)) wN ?_
  refine ar (((q * 137) + ((x_code.getD k 0).toNat : Int)) + 11) wN ?_
  refine wl_and (((q * 137) + ((x_code.getD k 0).toNat : Int)) + 11) 1073741823 1073741824 30 wN rfl rfl (by decide) (by decide) (by decide) (by kernel_rfl) ?_
  refine aw (vi ((((q * 137) + ((x_code.getD k 0).toNat : Int)) + 11) % 1073741824)) ?_
  refine wl_nil <| wq_blk_normal <| wq_then <| wc_region ?_
  refine mw (vi ((k : Nat) : Int)) ?_
  refine ar (((k : Nat) : Int) + 1) wN ?_
  refine aw (vi (((k : Nat) : Int) + 1)) ?_
  refine wl_nil ?_
  refine wq_loopP (w0 := w1) [(0, (vs a1 x_code.length c2)), (2, (.pointer none)), (3, (vi ((((q * 137) + ((x_code.getD k 0).toNat : Int)) + 11) % 1073741824))), (4, (vi (((k + 1) : Nat) : Int)))] ?_ ?_ ?_
  · exact ⟨rfl, rfl, rfl, (congrArg (Value.int .i64) (show ((((k : Nat) : Int) + 1) : Int) = (((k + 1) : Nat) : Int) by omega)), trivial⟩
  · exact fun u => ⟨(k + 1), ((((q * 137) + ((x_code.getD k 0).toNat : Int)) + 11) % 1073741824), u, rfl, m7, ((Ch.refl (fun k => w0.heap.size ≤ k) w0).ext k8 (fun k hk => hk)), (by omega), (by omega), (by omega)⟩
  · show x_code.length - ((((k + 1) : Nat) : Int)).toNat < x_code.length - (((k : Nat) : Int)).toNat; omega

theorem isAgg_3 : ∀ w, (isAgg 3).run Try.prog w = .ok false w := fun w => by kernel_rfl
theorem sizeOf_3 : ∀ w, (sizeOf 3).run Try.prog w = .ok 1 w := fun w => by kernel_rfl
theorem mixed : Try.prog.follows .mixedOrders = true := by kernel_rfl
theorem isAgg_22 : ∀ w, (isAgg 22).run Try.prog w = .ok false w := fun w => by kernel_rfl
def O_3 (w : World) (lo : Nat) (v : Value) (x : (Int)) : Prop := v = .int .i64 x
theorem C_spec_l1Byte (w0 : World) (g : Nat) (ca : Option Addr) (cc : Nat) (cb : List UInt8) (r_c : CurX w0 g 111 ca cc cb)  : Fn Try.prog 93 #[(vp g 0)] w0 (fun v w' => ∃ x : (Int), Ch (fun k => k = g) w0 w' ∧ CurX w' g 111 ca cc cb ∧ O_3 w' w0.heap.size v x ∧ (0 ≤ x ∧ x ≤ 255)) := by
 obtain ⟨ci, chh, hcb, hcr, hcl, hci, hcn⟩ := r_c
 have hgl := Blk.lt hcb
 refine fn_ofS (n := 58) [(vp g 0)] Try.func93 rfl rfl ?_
 have hx8 : (cb.getD ci.toNat 0).toNat < 256 := UInt8.toNat_lt _
 refine sr ?_
 refine aw (vi 0) ?_
 refine nx ?_
 refine mw (vp g 0) ?_
 refine mw (vp g 0) ?_
 refine pu (vp g 0) wN ?_
 refine pu (vp g 2) wN ?_
 refine ld (vi chh) wN isAgg_3 hcb ?_
 refine wl_arb (IntKind.i64.wrap (chh * 6364136223846793005)) wN rfl rfl (by kernel_rfl) ?_
 intro ab1
 refine wl_arb (IntKind.i64.wrap (ab1 + 1442695040888963407)) wN rfl rfl (by kernel_rfl) ?_
 intro ab2
 refine pu (vp g 0) wN ?_
 refine pu (vp g 2) wN ?_
 refine st (vi ab2) [(vi ab2)] [(vs ca cb.length cc), (vi ci), (vi ab2)] wN sizeOf_3 hcb ?_
 intro w1 k3 b4 z5
 have m6 := ChG.ext (Ch.refl (fun k => k = g) w0) k3 (fun k hk => .inl hk)
 refine wl_nil <| wq_then <| wc_seq ?_
 refine wc_drawT ([(13, [], [], (fun _ v _ => v = (vp g 0))), (14, [], [0], (fun _ v _ => v = (vp g 0))), (15, [], [0, 1], (fun _ v _ => v = (vp g 2))), (16, [], [0, 1, 2], (fun _ v _ => v = (vi ab2))), (17, [], [0, 1, 2, 3], (fun _ v _ => v = (vi (ab2 / (2 : Int) ^ ((33 : Int)).toNat)))), (18, [], [], (fun _ v _ => v = (vp g 0))), (19, [], [5], (fun _ v _ => v = (vp g 0))), (20, [], [5, 6], (fun _ v _ => v = (vp g 2))), (21, [], [5, 6, 7], (fun _ v _ => v = (vi ab2))), (22, [], [5, 6, 7, 8], (fun _ v _ => v = (vi (ab2 / (2 : Int) ^ ((47 : Int)).toNat))))] : GV) (fun _ w' => Keep w1 w') [] mixed rfl (by kernel_rfl) (by kernel_rfl) ?_ (fun _ _ h => h) (fun _ _ _ _ h _ k => h.trans k) trivial ?_ ?_ ?_
 ·exact ⟨hV, hE, ⟨hV, hE, ⟨hV, hE, ⟨hV, hE, ⟨hV, hE, ⟨hV, hE, ⟨hV, hE, ⟨hV, hE, ⟨hV, hE, ⟨hV, hE, trivial⟩⟩⟩⟩⟩⟩⟩⟩⟩⟩
 ·exact trivial
 ·refine ⟨?_, ⟨?_, ⟨?_, ⟨?_, ⟨?_, ⟨?_, ⟨?_, ⟨?_, ⟨?_, ⟨?_, trivial⟩⟩⟩⟩⟩⟩⟩⟩⟩⟩
  ·intro _ w2 k8 _
   rintro _ _ _ _ _ _ _ _ _ _
   show WL _ _ _ _ _ _ _
   refine mw (vp g 0) ?_
   exact f1
  ·intro _ w2 k10 _
   rintro _ rfl _ _ _ _ _ _ _ _ _
   show WL _ _ _ _ _ _ _
   refine pu (vp g 0) wN ?_
   exact f1
  ·intro _ w2 k12 _
   rintro _ rfl _ rfl _ _ _ _ _ _ _ _
   show WL _ _ _ _ _ _ _
   refine pu (vp g 2) wN ?_
   exact f1
  ·intro _ w2 k14 _
   rintro _ rfl _ rfl _ rfl _ _ _ _ _ _ _
   show WL _ _ _ _ _ _ _
   have b16 := (b4.kp k14)
   refine ld (vi ab2) wN isAgg_3 b16 ?_
   exact f1
  ·intro _ w2 k17 _
   rintro _ rfl _ rfl _ rfl _ rfl _ _ _ _ _ _
   show WL _ _ _ _ _ _ _
   refine wl_shrU ab2 (33 : Int) wN rfl rfl rfl rfl rfl (by omega) (by omega) ?_
   exact f1
  ·intro _ w2 k20 _
   rintro _ _ _ _ _ _ _ _ _ _
   show WL _ _ _ _ _ _ _
   refine mw (vp g 0) ?_
   exact f1
  ·intro _ w2 k22 _
   rintro _ _ _ _ _ _ rfl _ _ _ _
   show WL _ _ _ _ _ _ _
   refine pu (vp g 0) wN ?_
   exact f1
  ·intro _ w2 k24 _
   rintro _ _ _ _ _ _ rfl _ rfl _ _ _
   show WL _ _ _ _ _ _ _
   refine pu (vp g 2) wN ?_
   exact f1
  ·intro _ w2 k26 _
   rintro _ _ _ _ _ _ rfl _ rfl _ rfl _ _
   show WL _ _ _ _ _ _ _
   have b28 := (b4.kp k26)
   refine ld (vi ab2) wN isAgg_3 b28 ?_
   exact f1
  ·intro _ w2 k29 _
   rintro _ _ _ _ _ _ rfl _ rfl _ rfl _ rfl _
   show WL _ _ _ _ _ _ _
   refine wl_shrU ab2 (47 : Int) wN rfl rfl rfl rfl rfl (by omega) (by omega) ?_
   exact f1
 ·intro _ w2 k32
  have m33 := ChG.extk m6 k32
  rintro _ rfl _ rfl _ rfl _ rfl _ rfl _ rfl _ rfl _ rfl _ rfl _ rfl
  show WL _ _ _ _ _ _ _
  refine wl_xorA (ab2 / (2 : Int) ^ ((33 : Int)).toNat) (ab2 / (2 : Int) ^ ((47 : Int)).toNat) wN rfl rfl (by kernel_rfl) ?_
  refine wl_and (xorA (ab2 / (2 : Int) ^ ((33 : Int)).toNat) (ab2 / (2 : Int) ^ ((47 : Int)).toNat)) 255 256 8 wN rfl rfl (by decide) (by decide) (by decide) (by kernel_rfl) ?_
  refine aw (vi ((xorA (ab2 / (2 : Int) ^ ((33 : Int)).toNat) (ab2 / (2 : Int) ^ ((47 : Int)).toNat)) % 256)) ?_
  refine wl_nil <| wq_then <| wc_seq <| wc_seq ?_
  refine wc_drawT ([(25, [], [], (fun _ v _ => v = (vp g 0))), (26, [], [0], (fun _ v _ => v = (vp g 0))), (27, [], [0, 1], (fun _ v _ => v = (vp g 1))), (28, [], [0, 1, 2], (fun _ v _ => v = (vi ci))), (29, [], [], (fun _ v _ => v = (vp g 0))), (30, [], [4], (fun _ v _ => v = (vp g 0))), (31, [], [4, 5], (fun _ v _ => v = (vp g 0))), (32, [], [4, 5, 6], (fun _ v _ => v = (vs ca cb.length cc))), (33, [], [4, 5, 6, 7], (fun _ v _ => v = (vi (cb.length : Int))))] : GV) (fun _ w' => Keep w2 w') [] mixed rfl (by kernel_rfl) (by kernel_rfl) ?_ (fun _ _ h => h) (fun _ _ _ _ h _ k => h.trans k) trivial ?_ ?_ ?_
  ·exact ⟨hV, hE, ⟨hV, hE, ⟨hV, hE, ⟨hV, hE, ⟨hV, hE, ⟨hV, hE, ⟨hV, hE, ⟨hV, hE, ⟨hV, hE, trivial⟩⟩⟩⟩⟩⟩⟩⟩⟩
  ·exact trivial
  ·refine ⟨?_, ⟨?_, ⟨?_, ⟨?_, ⟨?_, ⟨?_, ⟨?_, ⟨?_, ⟨?_, trivial⟩⟩⟩⟩⟩⟩⟩⟩⟩
   ·intro _ w3 k39 _
    rintro _ _ _ _ _ _ _ _ _
    show WL _ _ _ _ _ _ _
    refine mw (vp g 0) ?_
    exact f1
   ·intro _ w3 k41 _
    rintro _ rfl _ _ _ _ _ _ _ _
    show WL _ _ _ _ _ _ _
    refine pu (vp g 0) wN ?_
    exact f1
   ·intro _ w3 k43 _
    rintro _ rfl _ rfl _ _ _ _ _ _ _
    show WL _ _ _ _ _ _ _
    refine pu (vp g 1) wN ?_
    exact f1
   ·intro _ w3 k45 _
    rintro _ rfl _ rfl _ rfl _ _ _ _ _ _
    show WL _ _ _ _ _ _ _
    have b47 := ((b4.kp k32).kp k45)
    refine ld (vi ci) wN isAgg_3 b47 ?_
    exact f1
   ·intro _ w3 k48 _
    rintro _ _ _ _ _ _ _ _ _
    show WL _ _ _ _ _ _ _
    refine mw (vp g 0) ?_
    exact f1
   ·intro _ w3 k50 _
    rintro _ _ _ _ _ rfl _ _ _ _
    show WL _ _ _ _ _ _ _
    refine pu (vp g 0) wN ?_
    exact f1
   ·intro _ w3 k52 _
    rintro _ _ _ _ _ rfl _ rfl _ _ _
    show WL _ _ _ _ _ _ _
    refine pu (vp g 0) wN ?_
    exact f1
   ·intro _ w3 k54 _
    rintro _ _ _ _ _ rfl _ rfl _ rfl _ _
    show WL _ _ _ _ _ _ _
    have b56 := ((b4.kp k32).kp k54)
    refine ld (vs ca cb.length cc) wN isAgg_22 b56 ?_
    exact f1
   ·intro _ w3 k57 _
    have m58 := ChG.extk m33 k57
    rintro _ _ _ _ _ rfl _ rfl _ rfl _ rfl _
    show WL _ _ _ _ _ _ _
    refine ln wN slTy_22 (Rd.chP hcr m58 hcn) ?_
    exact f1
  ·intro _ w3 k60
   have m61 := ChG.extk m33 k60
   rintro _ rfl _ rfl _ rfl _ rfl _ rfl _ rfl _ rfl _ rfl _ rfl
   show WL _ _ _ _ _ _ _
   refine pu (vb (decide (ci < (cb.length : Int)))) wN ?_
   refine n2 ?_
   rcases bf (decide (ci < (cb.length : Int))) with h64 | h64
   ·have q111 := of_decide_eq_false h64
    refine cf h64 ?_
    refine y1 ?_
    refine mw (vi ((xorA (ab2 / (2 : Int) ^ ((33 : Int)).toNat) (ab2 / (2 : Int) ^ ((47 : Int)).toNat)) % 256)) ?_
    refine aw (vi ((xorA (ab2 / (2 : Int) ^ ((33 : Int)).toNat) (ab2 / (2 : Int) ^ ((47 : Int)).toNat)) % 256)) ?_
    refine n3 ?_
    refine rt (vi ((xorA (ab2 / (2 : Int) ^ ((33 : Int)).toNat) (ab2 / (2 : Int) ^ ((47 : Int)).toNat)) % 256)) ?_
    have b112 := ((b4.kp k32).kp k60)
    exact ⟨((xorA (ab2 / (2 : Int) ^ ((33 : Int)).toNat) (ab2 / (2 : Int) ^ ((47 : Int)).toNat)) % 256), m61, ⟨_, _, b112, (Rd.chP hcr m61 hcn), hcl, (by omega), hcn⟩, rfl, (by omega)⟩
   have q65 := of_decide_eq_true h64
   refine ct h64 ?_
   refine wc_seq ?_
   refine wc_drawT ([(35, [], [], (fun _ v _ => v = (vi ((xorA (ab2 / (2 : Int) ^ ((33 : Int)).toNat) (ab2 / (2 : Int) ^ ((47 : Int)).toNat)) % 256)))), (36, [], [], (fun _ v _ => v = (vp g 0))), (37, [], [1], (fun _ v _ => v = (vp g 0))), (38, [], [1, 2], (fun _ v _ => v = (vp g 0))), (39, [], [1, 2, 3], (fun _ v _ => v = (vs ca cb.length cc))), (40, [], [], (fun _ v _ => v = (vp g 0))), (41, [], [5], (fun _ v _ => v = (vp g 0))), (42, [], [5, 6], (fun _ v _ => v = (vp g 1))), (43, [], [5, 6, 7], (fun _ v _ => v = (vi ci))), (44, [], [1, 2, 3, 4, 5, 6, 7, 8], (fun _ v _ => v = (ve (vs ca cb.length cc) ((ci).toNat * 1)))), (45, [], [1, 2, 3, 4, 5, 6, 7, 8, 9], (fun _ v _ => v = (v8 ((cb.getD (ci).toNat 0).toNat : Int)))), (46, [], [1, 2, 3, 4, 5, 6, 7, 8, 9, 10], (fun _ v _ => v = (vi ((cb.getD (ci).toNat 0).toNat : Int))))] : GV) (fun _ w' => Keep w3 w') [] mixed rfl (by kernel_rfl) (by kernel_rfl) ?_ (fun _ _ h => h) (fun _ _ _ _ h _ k => h.trans k) trivial ?_ ?_ ?_
   ·exact ⟨hV, hE, ⟨hV, hE, ⟨hV, hE, ⟨hV, hE, ⟨hV, hE, ⟨hV, hE, ⟨hV, hE, ⟨hV, hE, ⟨hV, hE, ⟨hV, hE, ⟨hV, hE, ⟨hV, hE, trivial⟩⟩⟩⟩⟩⟩⟩⟩⟩⟩⟩⟩
   ·exact trivial
   ·refine ⟨?_, ⟨?_, ⟨?_, ⟨?_, ⟨?_, ⟨?_, ⟨?_, ⟨?_, ⟨?_, ⟨?_, ⟨?_, ⟨?_, trivial⟩⟩⟩⟩⟩⟩⟩⟩⟩⟩⟩⟩
    ·intro _ w4 k69 _
     rintro _ _ _ _ _ _ _ _ _ _ _ _
     show WL _ _ _ _ _ _ _
     refine mw (vi ((xorA (ab2 / (2 : Int) ^ ((33 : Int)).toNat) (ab2 / (2 : Int) ^ ((47 : Int)).toNat)) % 256)) ?_
     exact f1
    ·intro _ w4 k71 _
     rintro _ _ _ _ _ _ _ _ _ _ _ _
     show WL _ _ _ _ _ _ _
     refine mw (vp g 0) ?_
     exact f1
    ·intro _ w4 k73 _
     rintro _ _ rfl _ _ _ _ _ _ _ _ _ _
     show WL _ _ _ _ _ _ _
     refine pu (vp g 0) wN ?_
     exact f1
    ·intro _ w4 k75 _
     rintro _ _ rfl _ rfl _ _ _ _ _ _ _ _ _
     show WL _ _ _ _ _ _ _
     refine pu (vp g 0) wN ?_
     exact f1
    ·intro _ w4 k77 _
     rintro _ _ rfl _ rfl _ rfl _ _ _ _ _ _ _ _
     show WL _ _ _ _ _ _ _
     have b79 := (((b4.kp k32).kp k60).kp k77)
     refine ld (vs ca cb.length cc) wN isAgg_22 b79 ?_
     exact f1
    ·intro _ w4 k80 _
     rintro _ _ _ _ _ _ _ _ _ _ _ _
     show WL _ _ _ _ _ _ _
     refine mw (vp g 0) ?_
     exact f1
    ·intro _ w4 k82 _
     rintro _ _ _ _ _ _ rfl _ _ _ _ _ _
     show WL _ _ _ _ _ _ _
     refine pu (vp g 0) wN ?_
     exact f1
    ·intro _ w4 k84 _
     rintro _ _ _ _ _ _ rfl _ rfl _ _ _ _ _
     show WL _ _ _ _ _ _ _
     refine pu (vp g 1) wN ?_
     exact f1
    ·intro _ w4 k86 _
     rintro _ _ _ _ _ _ rfl _ rfl _ rfl _ _ _ _
     show WL _ _ _ _ _ _ _
     have b88 := (((b4.kp k32).kp k60).kp k86)
     refine ld (vi ci) wN isAgg_3 b88 ?_
     exact f1
    ·intro _ w4 k89 _
     have m90 := ChG.extk m61 k89
     rintro _ _ rfl _ rfl _ rfl _ rfl _ rfl _ rfl _ rfl _ rfl _ _ _
     show WL _ _ _ _ _ _ _
     refine ix wN ci slTy_22 (Rd.chP hcr m90 hcn) ?_
     exact f1
    ·intro _ w4 k93 _
     have m94 := ChG.extk m61 k93
     rintro _ _ rfl _ rfl _ rfl _ rfl _ rfl _ rfl _ rfl _ rfl _ rfl _ _
     show WL _ _ _ _ _ _ _
     refine eb (x := cb) ((ci).toNat) wN isAgg_5 (Rd.chP hcr m94 hcn) ?_
     exact f1
    ·intro _ w4 k97 _
     rintro _ _ rfl _ rfl _ rfl _ rfl _ rfl _ rfl _ rfl _ rfl _ rfl _ rfl _
     show WL _ _ _ _ _ _ _
     refine ar ((cb.getD (ci).toNat 0).toNat : Int) wN ?_
     exact f1
   ·intro _ w4 k101
    have m102 := ChG.extk m61 k101
    rintro _ rfl _ rfl _ rfl _ rfl _ rfl _ rfl _ rfl _ rfl _ rfl _ rfl _ rfl _ rfl
    show WL _ _ _ _ _ _ _
    refine wl_arb (IntKind.i64.wrap (((xorA (ab2 / (2 : Int) ^ ((33 : Int)).toNat) (ab2 / (2 : Int) ^ ((47 : Int)).toNat)) % 256) + ((cb.getD (ci).toNat 0).toNat : Int))) wN rfl rfl (by kernel_rfl) ?_
    intro ab105
    refine wl_and ab105 255 256 8 wN rfl rfl (by decide) (by decide) (by decide) (by kernel_rfl) ?_
    refine aw (vi (ab105 % 256)) ?_
    refine wl_nil <| wq_then <| wc_region ?_
    refine mw (vp g 0) ?_
    refine mw (vp g 0) ?_
    refine pu (vp g 0) wN ?_
    refine pu (vp g 1) wN ?_
    have b106 := (((b4.kp k32).kp k60).kp k101)
    refine ld (vi ci) wN isAgg_3 b106 ?_
    refine ar (ci + 1) wN ?_
    refine pu (vp g 0) wN ?_
    refine pu (vp g 1) wN ?_
    refine st (vi (ci + 1)) [(vi (ci + 1))] [(vs ca cb.length cc), (vi (ci + 1)), (vi ab2)] wN sizeOf_3 b106 ?_
    intro w5 k107 b108 z109
    have m110 := ChG.ext m102 k107 (fun k hk => .inl hk)
    refine nx ?_
    refine mw (vi (ab105 % 256)) ?_
    refine aw (vi (ab105 % 256)) ?_
    refine n3 ?_
    refine rt (vi (ab105 % 256)) ?_
    exact ⟨(ab105 % 256), m110, ⟨_, _, b108, (Rd.chP hcr m110 hcn), hcl, (by omega), hcn⟩, rfl, (by omega)⟩

theorem C_spec_l1Below (w0 : World) (g : Nat) (ca : Option Addr) (cc : Nat) (cb : List UInt8) (r_c : CurX w0 g 111 ca cc cb) (x_n : Int)  : Fn Try.prog 50 #[(vp g 0), (vi x_n)] w0 (fun v w' => ∃ x : (Int), Ch (fun k => k = g) w0 w' ∧ CurX w' g 111 ca cc cb ∧ O_3 w' w0.heap.size v x ∧ (0 ≤ x ∧ (x < x_n ∨ ((x_n : Int) ≤ 0 ∧ x = 0)))) := by
 obtain ⟨ci, chh, hcb, hcr, hcl, hci, hcn⟩ := r_c
 have hgl := Blk.lt hcb
 refine fn_ofS (n := 31) [(vp g 0), (vi x_n)] Try.func50 rfl rfl ?_
 refine sr ?_
 refine aw (vi 0) ?_
 refine n4 ?_
 refine mw (vi x_n) ?_
 refine pu (vb (decide (x_n ≤ 0))) wN ?_
 refine n2 ?_
 rcases bt (decide (x_n ≤ 0)) with h1 | h1
 ·have q2 := of_decide_eq_true h1
  refine ct h1 ?_
  refine sr ?_
  refine aw (vi 0) ?_
  refine n1 ?_
  refine rt (vi 0) ?_
  exact ⟨0, (Ch.refl (fun k => k = g) w0), ⟨_, _, hcb, hcr, hcl, (by omega), hcn⟩, rfl, (by omega)⟩
 have q3 := of_decide_eq_false h1
 refine cf h1 ?_
 refine y2 ?_
 refine mw (vi x_n) ?_
 refine pu (vb (decide (x_n ≤ 256))) wN ?_
 refine n2 ?_
 rcases bt (decide (x_n ≤ 256)) with h4 | h4
 ·have q5 := of_decide_eq_true h4
  refine ct h4 ?_
  refine sr ?_
  refine mw (vp g 0) ?_
  refine cl wN (C_spec_l1Byte w0 g ca cc cb ⟨_, _, hcb, hcr, hcl, (by omega), hcn⟩) ?_
  rintro _ w1 ⟨x7, k6, ⟨i9, h10, b11, r12, l13, p14, n15⟩, rfl, q8⟩
  have m16 := ChG.ext (Ch.refl (fun k => k = g) w0) k6 (fun k hk => .inl hk)
  refine mw (vi x_n) ?_
  refine wl_remv (x7) x_n wN rfl rfl rfl rfl rfl (by omega) (by omega) ?_
  have q17 := rem_b (a := (x7)) (m := x_n) (by omega)
  refine aw (vi ((x7) % x_n)) ?_
  refine n1 ?_
  refine rt (vi ((x7) % x_n)) ?_
  exact ⟨((x7) % x_n), m16, ⟨_, _, b11, (Rd.chP hcr m16 hcn), hcl, (by omega), hcn⟩, rfl, (by omega)⟩
 have q18 := of_decide_eq_false h4
 refine cf h4 ?_
 refine y1 ?_
 refine mw (vp g 0) ?_
 refine cl wN (C_spec_l1Byte w0 g ca cc cb ⟨_, _, hcb, hcr, hcl, (by omega), hcn⟩) ?_
 rintro _ w1 ⟨x20, k19, ⟨i22, h23, b24, r25, l26, p27, n28⟩, rfl, q21⟩
 have m29 := ChG.ext (Ch.refl (fun k => k = g) w0) k19 (fun k hk => .inl hk)
 refine aw (vi (x20)) ?_
 refine nx ?_
 refine mw (vp g 0) ?_
 refine cl wN (C_spec_l1Byte w1 g ca cc cb ⟨_, _, b24, (Rd.chP hcr m29 hcn), hcl, (by omega), hcn⟩) ?_
 rintro _ w2 ⟨x31, k30, ⟨i33, h34, b35, r36, l37, p38, n39⟩, rfl, q32⟩
 have m40 := ChG.ext m29 k30 (fun k hk => .inl hk)
 refine aw (vi (x31)) ?_
 refine nx ?_
 refine mw (vp g 0) ?_
 refine cl wN (C_spec_l1Byte w2 g ca cc cb ⟨_, _, b35, (Rd.chP hcr m40 hcn), hcl, (by omega), hcn⟩) ?_
 rintro _ w3 ⟨x42, k41, ⟨i44, h45, b46, r47, l48, p49, n50⟩, rfl, q43⟩
 have m51 := ChG.ext m40 k41 (fun k hk => .inl hk)
 refine aw (vi (x42)) ?_
 refine nx ?_
 refine mw (vi (x20)) ?_
 refine ar ((x20) * 65536) wN ?_
 refine mw (vi (x31)) ?_
 refine ar ((x31) * 256) wN ?_
 refine ar (((x20) * 65536) + ((x31) * 256)) wN ?_
 refine mw (vi (x42)) ?_
 refine ar ((((x20) * 65536) + ((x31) * 256)) + (x42)) wN ?_
 refine mw (vi x_n) ?_
 refine wl_remv ((((x20) * 65536) + ((x31) * 256)) + (x42)) x_n wN rfl rfl rfl rfl rfl (by omega) (by omega) ?_
 have q52 := rem_b (a := ((((x20) * 65536) + ((x31) * 256)) + (x42))) (m := x_n) (by omega)
 refine aw (vi (((((x20) * 65536) + ((x31) * 256)) + (x42)) % x_n)) ?_
 refine n3 ?_
 refine rt (vi (((((x20) * 65536) + ((x31) * 256)) + (x42)) % x_n)) ?_
 exact ⟨(((((x20) * 65536) + ((x31) * 256)) + (x42)) % x_n), m51, ⟨_, _, b46, (Rd.chP hcr m51 hcn), hcl, (by omega), hcn⟩, rfl, (by omega)⟩

def O_22 (w : World) (lo : Nat) (v : Value) (x : (List UInt8)) : Prop := ∃ (a1 : Option Addr) (c1 : Nat), v = .slice a1 x.length c1 ∧ w.ownsRow lo 5 1 (.slice a1 x.length c1) x.length (x.map bV) ∧ x.length ≤ 1073741824 ∧ Aps [(a1, c1)]
theorem C_spec_l1Bytes (w0 : World) (g : Nat) (ca : Option Addr) (cc : Nat) (cb : List UInt8) (r_c : CurX w0 g 111 ca cc cb) (x_n : Int) (pre0 : x_n ≤ 100000) : Fn Try.prog 49 #[(vp g 0), (vi x_n)] w0 (fun v w' => ∃ x : (List UInt8), Ch (fun k => k = g) w0 w' ∧ CurX w' g 111 ca cc cb ∧ O_22 w' w0.heap.size v x ∧ (x.length = (x_n : Int).toNat)) := by
 obtain ⟨ci, chh, hcb, hcr, hcl, hci, hcn⟩ := r_c
 have hgl := Blk.lt hcb
 refine fn_ofS (n := 20) [(vp g 0), (vi x_n)] Try.func49 rfl rfl ?_
 refine sr ?_
 refine aw (vs none 0 0) ?_
 refine nx ?_
 refine wl_lit0 wN rfl rfl slTy_22 (fun w => by kernel_rfl) ?_
 intro a1 w1 k2 o3
 have m4 := ChG.extk (Ch.refl (fun k => k = g) w0) k2
 refine aw (vs (some a1) 0 0) ?_
 refine n4 ?_
 refine aw (vi 0) ?_
 refine wl_nil <| wq_then <| wc_block ?_
 have hE7 : ([] : List UInt8) = ([] : List UInt8) := by simp
 have hN8 : 0 = (([] : List UInt8)).length := by rw [← hE7]; try (first | rfl | simp only [List.length_set] | simp)
 have b9 := (hcb.kp k2)
 refine wc_loopP [(0, (vp g 0)), (1, (vi x_n)), (4, (vs none 0 0)), (5, (.slice (some a1) (([] : List UInt8)).length 0)), (6, (vi ((0 : Nat) : Int)))] ⟨rfl, rfl, rfl, rfl, (congrArg (Value.int .i64) (show (0 : Int) = ((0 : Nat) : Int) by omega)), trivial⟩ (fun e' w' => ∃ (k : Nat) (l : List UInt8) (u6 : Env) (a5x : Option Addr) (c5x : Nat), e' = pt u6 [(0, (vp g 0)), (1, (vi x_n)), (4, (vs none 0 0)), (5, (.slice a5x (l).length c5x)), (6, (vi ((k : Nat) : Int)))] ∧ Ch (fun k => k = g) w0 w' ∧ Ch (fun k => k = g ∨ w0.heap.size ≤ k) w1 w' ∧ l.length = k ∧ k ≤ x_n.toNat ∧ (World.ownsRow w' w0.heap.size 5 1 (.slice a5x (l).length c5x) (l).length ((l).map bV) ∧ (l).length ≤ 1073741824) ∧ CurX w' g 111 ca cc cb) (fun e' _ => (x_n - (intOf (e' 6))).toNat) ?_ ?_
 ·exact fun u => ⟨0, ([] : List UInt8), u, (some a1), 0, rfl, m4, (Ch.refl (fun k => k = g ∨ w0.heap.size ≤ k) w1), (by first | omega | (simp only [List.length_append, List.length_cons, List.length_nil]; omega)), (by omega), ⟨(by rw [← hN8, ← hE7]; exact o3), (by rw [← hN8]; first | exact (by simp) | (simp only [List.length_append, List.length_take, List.length_replicate]; omega))⟩, ⟨_, _, b9, (Rd.chP hcr m4 hcn), hcl, (by omega), hcn⟩⟩
 ·rintro _ w2 ⟨k, l, u6, a5x, c5x, rfl, m10, k11, i12, i13, ⟨o14, s15⟩, ⟨i16, h17, b18, r19, l20, p21, n22⟩⟩
  refine wc_seq <| sr ?_
  refine mw (vi ((k : Nat) : Int)) ?_
  refine mw (vi x_n) ?_
  refine pu (vb (decide (((k : Nat) : Int) < x_n))) wN ?_
  refine n2 ?_
  rcases bf (decide (((k : Nat) : Int) < x_n)) with h24 | h24
  ·have q56 := of_decide_eq_false h24
   refine cf h24 ?_
   refine wc_exit <| wq_then_exit <| wq_then_exit <| wq_blk_exit <| wq_then <| sr ?_
   refine mw (vs a5x (l).length c5x) ?_
   refine aw (vs a5x (l).length c5x) ?_
   refine n3 ?_
   refine rt (vs a5x (l).length c5x) ?_
   have hN57 : (l).length = (l).length := by first | (simp only [List.length_append, List.length_take, List.length_replicate, List.length_set, List.length_map]; done) | (simp only [List.length_append, List.length_take, List.length_replicate, List.length_set, List.length_map]; omega)
   rw [hN57] at o14 ⊢
   exact ⟨l, m10, ⟨_, _, b18, (Rd.chP hcr m10 hcn), hcl, (by omega), hcn⟩, ⟨_, _, rfl, o14, (by rw [← hN57]; exact s15), ⟨trivial, trivial⟩⟩, (by omega)⟩
  have q25 := of_decide_eq_true h24
  refine ct h24 ?_
  refine wc_skip <| wq_then <| wc_seq <| wc_block <| wc_region ?_
  refine mw (vs a5x (l).length c5x) ?_
  refine mw (vp g 0) ?_
  refine cl wN (C_spec_l1Byte w2 g ca cc cb ⟨_, _, b18, (Rd.chP hcr m10 hcn), hcl, (by omega), hcn⟩) ?_
  rintro _ w3 ⟨x27, k26, ⟨i29, h30, b31, r32, l33, p34, n35⟩, rfl, q28⟩
  have m36 := ChG.ext m10 k26 (fun k hk => .inl hk)
  refine wl_conv8 (x27) wN rfl rfl (by kernel_rfl) ?_
  refine ltB ([(by8 (x27))] : List UInt8) wN slTy_22 ?_
  intro a37 c38 w4 k39 o40
  have m41 := ChG.extk m36 k39
  have o43 := (own_kp (own_ch o14 k26 (ne1 o14 (hgl))) k39)
  refine wl_append (v := (vs a5x (l).length c5x)) wN rfl rfl rfl slTy_22 rfl rfl o43 (Rd.of_own o40) (all_bV _) (by first | (simp only [List.length_append, List.length_cons, List.length_nil, List.length_replicate, List.length_take, List.length_drop]; omega) | omega) (by simp only [maxLen]; first | (simp only [List.length_append, List.length_cons, List.length_nil, List.length_replicate, List.length_take, List.length_drop]; omega) | omega) (z4 k2 k11 k26 k39) ?_
  intro u44 w5 k45 o46 j47
  have o50 : w5.ownsRow w0.heap.size 5 1 u44 ((l ++ ([(by8 (x27))] : List UInt8)) : List UInt8).length (((l ++ ([(by8 (x27))] : List UInt8)) : List UInt8).map bV) := by simpa [Nat.add_assoc] using o46
  obtain ⟨a48, c49, rfl⟩ := own_form o50
  have m51 := ChG.ext m41 k45 (fun k hk => .inr (Nat.le_trans (Nat.le_refl w0.heap.size) (own_lt o14 k hk).1))
  have s53 : (l ++ ([(by8 (x27))] : List UInt8)).length ≤ 1073741824 := by first | (simp only [List.length_append, List.length_cons, List.length_nil, List.length_replicate, List.length_take, List.length_drop]; omega) | omega | assumption
  refine aw (vs a48 (l ++ ([(by8 (x27))] : List UInt8)).length c49) ?_
  refine wl_nil <| wq_blk_normal <| wq_then <| wc_region ?_
  refine mw (vi ((k : Nat) : Int)) ?_
  refine ar (((k : Nat) : Int) + 1) wN ?_
  refine aw (vi (((k : Nat) : Int) + 1)) ?_
  refine wl_nil ?_
  have hE54 : ((l ++ ([(by8 (x27))] : List UInt8)) : List UInt8) = (l ++ ([(by8 (x27))] : List UInt8)) := by simp
  have b55 := ((b31.kp k39).ch k45 (fun h => by have := (own_lt o14 _ h).1; have := Nat.lt_of_lt_of_le hgl (Nat.le_refl w0.heap.size); omega))
  refine wq_loopP (w0 := w2) [(0, (vp g 0)), (1, (vi x_n)), (4, (vs none 0 0)), (5, (.slice a48 ((l ++ ([(by8 (x27))] : List UInt8))).length c49)), (6, (vi (((k + 1) : Nat) : Int)))] ?_ ?_ ?_
  · exact ⟨rfl, rfl, rfl, (congrArg (fun l : List UInt8 => Value.slice a48 l.length c49) hE54), (congrArg (Value.int .i64) (show ((((k : Nat) : Int) + 1) : Int) = (((k + 1) : Nat) : Int) by omega)), trivial⟩
  · exact fun u => ⟨(k + 1), (l ++ ([(by8 (x27))] : List UInt8)), u, a48, c49, rfl, m51, (ChO.ext (ChO.extk (ChO.ext (ChO.ext (Ch.refl (fun k => k = g ∨ w0.heap.size ≤ k) w1) k11 (fun k hk => hk.elim .inl (fun hk => .inr (hk)))) k26 (fun k hk => .inl hk)) k39) k45 (fun k hk => .inr (Nat.le_trans (Nat.le_refl w0.heap.size) (own_lt o14 k hk).1))), (by first | omega | (simp only [List.length_append, List.length_cons, List.length_nil]; omega)), (by omega), (hE54 ▸ ⟨o50, s53⟩), ⟨_, _, b55, (Rd.chP hcr m51 hcn), hcl, (by omega), hcn⟩⟩
  · show (x_n - (((k + 1) : Nat) : Int)).toNat < (x_n - ((k : Nat) : Int)).toNat; omega

def F_spec_l1In (x_x : Int) (x_least : Int) (x_most : Int) : (Bool) := bif (decide (x_least ≤ x_x)) then (decide (x_x ≤ x_most)) else (false)
theorem C_spec_l1In (w0 : World) (x_x : Int) (x_least : Int) (x_most : Int)  : Fn Try.prog 58 #[(vi x_x), (vi x_least), (vi x_most)] w0 (fun v w' => Keep w0 w' ∧ O_4 w' w0.heap.size v (F_spec_l1In x_x x_least x_most)) := by
 refine fn_ofS (n := 15) [(vi x_x), (vi x_least), (vi x_most)] Try.func58 rfl rfl ?_
 refine sr ?_
 refine aw (vb false) ?_
 refine nx ?_
 refine mw (vi x_x) ?_
 refine mw (vi x_least) ?_
 refine pu (vb (decide (x_least ≤ x_x))) wN ?_
 refine mw (vb (decide (x_least ≤ x_x))) ?_
 rcases bf (decide (x_least ≤ x_x)) with h1 | h1
 ·have q4 := of_decide_eq_false h1
  iterate 3 refine sk h1 ?_
  refine pf (vb false) wN h1 ?_
  refine aw (vb false) ?_
  refine n3 ?_
  refine rt (vb false) ?_
  refine ⟨Ch.refl _ _, ?_⟩
  simp only [F_spec_l1In, h1, cond_true, cond_false]
  exact rfl
 have q2 := of_decide_eq_true h1
 refine mv (vi x_x) (wS h1) ?_
 refine mv (vi x_most) (wS h1) ?_
 refine pu (vb (decide (x_x ≤ x_most))) (wS h1) ?_
 refine pk (vb (decide (x_x ≤ x_most))) wN h1 ?_
 refine aw (vb (decide (x_x ≤ x_most))) ?_
 refine n3 ?_
 refine rt (vb (decide (x_x ≤ x_most))) ?_
 refine ⟨Ch.refl _ _, ?_⟩
 simp only [F_spec_l1In, h1, cond_true, cond_false]
 exact rfl
theorem spec_l1In_t {n a b : Int} (h : F_spec_l1In n a b = true) : a ≤ n ∧ n ≤ b := by
  unfold F_spec_l1In at h
  by_cases h1 : a ≤ n <;> simp [h1] at h
  exact ⟨h1, h⟩
theorem spec_l1In_f {n a b : Int} (h : F_spec_l1In n a b = false) : n < a ∨ b < n := by
  unfold F_spec_l1In at h
  by_cases h1 : a ≤ n <;> simp [h1] at h <;> omega

theorem zero_58 : ∀ w, (zeroValue 58).run Try.prog w = .ok (va [(vi 0), (vs none 0 0)]) w := fun w => by kernel_rfl
theorem sizeOf_58 : ∀ w, (sizeOf 58).run Try.prog w = .ok 2 w := fun w => by kernel_rfl
theorem isAgg_56 : ∀ w, (isAgg 56).run Try.prog w = .ok false w := fun w => by kernel_rfl
theorem slTy_56 : SlTy Try.prog 56 3 1 8 (vi 0) := slTy Try.underlying56 (by kernel_rfl) rfl rfl
theorem sizeOf_56 : ∀ w, (sizeOf 56).run Try.prog w = .ok 1 w := fun w => by kernel_rfl
theorem isAgg_58 : ∀ w, (isAgg 58).run Try.prog w = .ok true w := fun w => by kernel_rfl
def O_58 (w : World) (lo : Nat) (v : Value) (x : (PWin)) : Prop := ∃ (a1 : Option Addr) (c1 : Nat), v = .agg #[.int .i64 x.Top, .slice a1 x.Bits.length c1] ∧ w.ownsRow lo 3 1 (.slice a1 x.Bits.length c1) x.Bits.length (x.Bits.map iV) ∧ x.Bits.length ≤ 1073741824 ∧ Aps [(a1, c1)]
def winNew : PWin := { Top := (-1), Bits := List.replicate 32 0 }
theorem C_spec_WinNew (w0 : World)   : Fn Try.prog 136 #[] w0 (fun v w' => Keep w0 w' ∧ O_58 w' w0.heap.size v (winNew)) := by
 refine fn_ofS (n := 14) [] Try.func136 rfl rfl ?_
 refine sr ?_
 refine al [(vi 0), (vs none 0 0)] wN zero_58 ?_
 intro g1 w1 p2 p3 k4 b5
 refine nx ?_
 refine pu (va [(vi (-1)), (vs none 0 0)]) wN ?_
 refine al [(vi 0), (vs none 0 0)] wN zero_58 ?_
 intro g7 w2 p8 p9 k10 b11
 refine sv [(vi (-1)), (vs none 0 0)] wN sizeOf_58 b11 ?_
 intro w3 k13 b14 z15
 have m16 := (((Ch.base w0).extk k4).extk k10).ext k13 (fun k hk => by subst hk; exact Nat.le_trans k4.size p8)
 refine n4 ?_
 refine aw (vi 0) ?_
 refine wl_nil <| wq_then <| wc_block ?_
 have hE18 : (([] : List Int) : List Int) = List.replicate 0 (0 : Int) := by first | rfl | exact List.replicate_succ'.symm
 refine wc_loopP [(0, (vp g1 0)), (1, (vp g7 0)), (2, (vi ((0 : Nat) : Int)))] ⟨rfl, rfl, (congrArg (Value.int .i64) (show (0 : Int) = ((0 : Nat) : Int) by omega)), trivial⟩ (fun e' w' => ∃ (k : Nat) (u17 : Env) (ab1_1x : Option Addr) (cb1_1x : Nat), e' = pt u17 [(0, (vp g1 0)), (1, (vp g7 0)), (2, (vi ((k : Nat) : Int)))] ∧ Ch (fun k => w0.heap.size ≤ k) w0 w' ∧ Ch (fun k => w1.heap.size ≤ k) w3 w' ∧ k ≤ 32 ∧ (World.ownsRow w' w3.heap.size 3 1 (.slice ab1_1x (List.replicate k (0 : Int)).length cb1_1x) (List.replicate k (0 : Int)).length ((List.replicate k (0 : Int)).map iV) ∧ (List.replicate k (0 : Int)).length ≤ 1073741824) ∧ Blk w' g7 58 [(vi (-1)), (.slice ab1_1x (List.replicate k (0 : Int)).length cb1_1x)]) (fun e' _ => (32 - (intOf (e' 2))).toNat) ?_ ?_
 ·exact fun u => ⟨0, u, none, 0, rfl, m16, (Ch.refl (fun k => w1.heap.size ≤ k) w3), (by omega), (hE18 ▸ ⟨(own_nil _ _ _ _), (by simp)⟩), b14⟩
 ·rintro _ w4 ⟨k, u17, ab1_1x, cb1_1x, rfl, m19, k20, i21, ⟨o22, s23⟩, hbx1⟩
  have hpl : (List.replicate k (0 : Int)).length = k := List.length_replicate
  refine wc_seq <| sr ?_
  refine mw (vi ((k : Nat) : Int)) ?_
  refine pu (vb (decide (((k : Nat) : Int) < 32))) wN ?_
  refine n2 ?_
  rcases bf (decide (((k : Nat) : Int) < 32)) with h25 | h25
  ·have q49 := of_decide_eq_false h25
   refine cf h25 ?_
   refine wc_exit <| wq_then_exit <| wq_then_exit <| wq_blk_exit <| wq_then <| sr ?_
   refine lN [(vi (-1)), (vs ab1_1x (List.replicate k (0 : Int)).length cb1_1x)] wN isAgg_58 sizeOf_58 hbx1 ?_
   have b50 := (((b5.kp k10).ch k13 (Nat.ne_of_lt (Nat.lt_of_lt_of_le p3 (p8)))).ch k20 (Nat.not_le.2 (p3)))
   refine sv [(vi (-1)), (vs ab1_1x (List.replicate k (0 : Int)).length cb1_1x)] wN sizeOf_58 b50 ?_
   intro w5 k51 b52 z53
   have m54 := m19.ext k51 (fun k hk => by subst hk; exact p2)
   refine n3 ?_
   have o55 := (own_ch o22 k51 (ne1 o22 (Nat.lt_of_lt_of_le p3 (z2 k10 k13))))
   refine ret_1 (.inl rfl) (va [(vi (-1)), (vs ab1_1x (List.replicate k (0 : Int)).length cb1_1x)]) rfl (rv_c [(vi (-1)), (vs ab1_1x (List.replicate k (0 : Int)).length cb1_1x)] rfl b52 isAgg_58 sizeOf_58) ?_
   refine ⟨m54.keep0, ?_⟩
   have hF56 : winNew = { Top := (-1), Bits := (List.replicate k (0 : Int)) : PWin } := by (obtain rfl : k = 32 := by omega); rfl
   rw [hF56]
   exact ⟨_, _, rfl, (own_lo o55 (z3 k4 k10 k13)), s23, ⟨trivial, trivial⟩⟩
  have q26 := of_decide_eq_true h25
  refine ct h25 ?_
  refine wc_skip <| wq_then <| wc_seq <| wc_block <| wc_region ?_
  refine pu (vp g7 1) wN ?_
  refine ld (vs ab1_1x (List.replicate k (0 : Int)).length cb1_1x) wN isAgg_56 hbx1 ?_
  refine ltI ([0] : List Int) wN slTy_56 ?_
  intro a27 c28 w5 k29 o30
  have o33 := (own_kp o22 k29)
  refine apI (List.replicate k (0 : Int)) ([0] : List Int) wN slTy_56 o33 (Rd.of_own o30) (z2 k20 k29) ?_
  intro a34 c35 w6 k36 o37 j38 s39
  have m40 := (m19.extk k29).ext k36 (fun k hk => Nat.le_trans (z3 k4 k10 k13) (own_lt o22 k hk).1)
  refine pu (vp g7 1) wN ?_
  have b42 := ((hbx1.kp k29).ch k36 (fun h => by have := (own_lt o22 _ h).1; have := Nat.lt_of_lt_of_le p9 k13.size; omega))
  refine st (vs a34 ((List.replicate k (0 : Int)) ++ ([0] : List Int)).length c35) [(vs a34 ((List.replicate k (0 : Int)) ++ ([0] : List Int)).length c35)] [(vi (-1)), (vs a34 ((List.replicate k (0 : Int)) ++ ([0] : List Int)).length c35)] wN sizeOf_56 b42 ?_
  intro w7 k43 b44 z45
  have m46 := m40.ext k43 (fun k hk => by subst hk; exact Nat.le_trans k4.size p8)
  refine wl_nil <| wq_blk_normal <| wq_then <| wc_region ?_
  refine mw (vi ((k : Nat) : Int)) ?_
  refine ar (((k : Nat) : Int) + 1) wN ?_
  refine aw (vi (((k : Nat) : Int) + 1)) ?_
  refine wl_nil ?_
  have o47 := (own_ch o37 k43 (ne1 o37 (Nat.lt_of_lt_of_le p9 k13.size)))
  have hE48 : (((List.replicate k (0 : Int)) ++ ([0] : List Int)) : List Int) = List.replicate (k + 1) (0 : Int) := by first | rfl | exact List.replicate_succ'.symm
  refine wq_loopP (w0 := w4) [(0, (vp g1 0)), (1, (vp g7 0)), (2, (vi (((k + 1) : Nat) : Int)))] ?_ ?_ ?_
  · exact ⟨rfl, rfl, (congrArg (Value.int .i64) (show ((((k : Nat) : Int) + 1) : Int) = (((k + 1) : Nat) : Int) by omega)), trivial⟩
  · exact fun u => ⟨(k + 1), u, a34, c35, rfl, m46, (((((Ch.refl (fun k => w1.heap.size ≤ k) w3).ext k20 (fun k hk => hk)).extk k29).ext k36 (fun k hk => Nat.le_trans (z2 k10 k13) (own_lt o22 k hk).1)).ext k43 (fun k hk => by subst hk; exact p8)), (by omega), (hE48 ▸ ⟨o47, s39⟩), (by have hb := b44; first | exact hb | (rw [hE48] at hb; exact hb))⟩
  · show (32 - (((k + 1) : Nat) : Int)).toNat < (32 - ((k : Nat) : Int)).toNat; omega

abbrev Z_60 : List Value := [(vi 0), (vs none 0 0), (vi 0), (vi 0), (vs none 0 0)]
theorem zero_60 : ∀ w, (zeroValue 60).run Try.prog w = .ok (va Z_60) w := fun w => by kernel_rfl
theorem sizeOf_60 : ∀ w, (sizeOf 60).run Try.prog w = .ok 5 w := fun w => by kernel_rfl
theorem isAgg_60 : ∀ w, (isAgg 60).run Try.prog w = .ok true w := fun w => by kernel_rfl
def O_60 (w : World) (lo : Nat) (v : Value) (x : (PEp)) : Prop := ∃ (a1 : Option Addr) (c1 : Nat) (a2 : Option Addr) (c2 : Nat), v = .agg #[.int .i64 x.N, .slice a1 x.Key.length c1, .int .i64 x.Seq, .int .i64 x.Win.Top, .slice a2 x.Win.Bits.length c2] ∧ w.ownsRow lo 5 1 (.slice a1 x.Key.length c1) x.Key.length (x.Key.map bV) ∧ x.Key.length ≤ 1073741824 ∧ w.ownsRow lo 3 1 (.slice a2 x.Win.Bits.length c2) x.Win.Bits.length (x.Win.Bits.map iV) ∧ x.Win.Bits.length ≤ 1073741824 ∧ Aps [(a1, c1), (a2, c2)]
def F_spec_EpNew (x_n : Int) (x_key : List UInt8) : (PEp) := bif (F_spec_l1In x_n 0 4294967295) then (bif (decide ((x_key.length : Int) = 32)) then ({ N := x_n, Key := x_key, Seq := 0, Win := (winNew) : PEp }) else ({ N := 0, Key := [], Seq := 0, Win := { Top := 0, Bits := [] : PWin } : PEp })) else ({ N := 0, Key := [], Seq := 0, Win := { Top := 0, Bits := [] : PWin } : PEp })
theorem C_spec_EpNew (w0 : World) (x_n : Int) (v_x_key : Value) (x_key : List UInt8) (r_x_key : R_22 w0 v_x_key x_key)  : Fn Try.prog 117 #[(vi x_n), v_x_key] w0 (fun v w' => Keep w0 w' ∧ O_60 w' w0.heap.size v (F_spec_EpNew x_n x_key)) := by
 obtain ⟨a1, c2, rfl, r3, s4⟩ := r_x_key
 refine fn_ofS (n := 20) [(vi x_n), (vs a1 x_key.length c2)] Try.func117 rfl rfl ?_
 refine sr ?_
 refine al Z_60 wN zero_60 ?_
 intro g6 w1 p7 p8 k9 b10
 have m11 := (Ch.base w0).extk k9
 refine n4 ?_
 refine jT1 [(0, (vi x_n)), (1, (vs a1 x_key.length c2)), (4, (vp g6 0))] (F_spec_EpNew x_n x_key = { N := 0, Key := [], Seq := 0, Win := { Top := 0, Bits := [] : PWin } : PEp }) ?_ fun J12 => ?_
 ·intro hA13 w2 k15 u14
  refine sr ?_
  refine pu (va Z_60) wN ?_
  have b17 := (b10.kp k15)
  refine sv Z_60 wN sizeOf_60 b17 ?_
  intro w3 k18 b19 z20
  have m21 := (m11.extk k15).ext k18 (fun k hk => by subst hk; exact p7)
  refine n1 ?_
  refine ret_1 (.inl rfl) (va Z_60) rfl (rv_c Z_60 rfl b19 isAgg_60 sizeOf_60) ?_
  refine ⟨m21.keep0, ?_⟩
  rw [hA13]
  exact ⟨_, _, _, _, rfl, (by first | exact own_nil _ _ _ _ | exact OLv.nil _ _ _ _), (by simp), (by first | exact own_nil _ _ _ _ | exact OLv.nil _ _ _ _), (by simp), ⟨⟨(Ap.nl _), trivial⟩, ⟨trivial, trivial⟩⟩⟩
 refine mw (vi x_n) ?_
 refine cl wN (C_spec_l1In w1 x_n 0 4294967295) ?_
 rintro _ w2 ⟨k23, rfl⟩
 have m24 := m11.extk k23
 refine pu (vb (!(F_spec_l1In x_n 0 4294967295))) wN ?_
 refine mw (vb (!(F_spec_l1In x_n 0 4294967295))) ?_
 rcases bf (F_spec_l1In x_n 0 4294967295) with h25 | h25
 ·have q59 := spec_l1In_f h25
  iterate 3 refine sk (congrArg not h25) ?_
  refine pk (vb true) wN (congrArg not h25) ?_
  refine n2 ?_
  refine ct (Eq.refl true) ?_
  have hF60 : F_spec_EpNew x_n x_key = { N := 0, Key := [], Seq := 0, Win := { Top := 0, Bits := [] : PWin } : PEp } := by simp only [F_spec_EpNew, h25, cond_true, cond_false]
  exact wj (J12 hF60 _ k23)
 have q26 := spec_l1In_t h25
 refine mv (vs a1 x_key.length c2) (wS (congrArg not h25)) ?_
 refine ln (wS (congrArg not h25)) slTy_22 (r3.from0 m24) ?_
 refine pu (vb (!(decide ((x_key.length : Int) = 32)))) (wS (congrArg not h25)) ?_
 refine pf (vb (!(decide ((x_key.length : Int) = 32)))) wN (congrArg not h25) ?_
 refine n2 ?_
 rcases bf (decide ((x_key.length : Int) = 32)) with h27 | h27
 ·have q57 := of_decide_eq_false h27
  refine ct (congrArg not h27) ?_
  have hF58 : F_spec_EpNew x_n x_key = { N := 0, Key := [], Seq := 0, Win := { Top := 0, Bits := [] : PWin } : PEp } := by simp only [F_spec_EpNew, h25, h27, cond_true, cond_false]
  exact wj (J12 hF58 _ k23)
 have q28 := of_decide_eq_true h27
 refine cf (congrArg not h27) ?_
 refine y1 ?_
 refine mw (vi x_n) ?_
 refine wl_lit0 wN rfl rfl slTy_22 (fun w => by kernel_rfl) ?_
 intro a29 w3 k30 o31
 have m32 := m24.extk k30
 refine mw (vs a1 x_key.length c2) ?_
 refine ap0 x_key wN slTy_22 o31 (r3.from0 m32) k30.size ?_
 intro a34 c35 w4 k36 o37 n38
 refine cl wN (C_spec_WinNew w4 ) ?_
 rintro _ w5 ⟨k41, ⟨a42, c43, rfl, o44, s45, ap47⟩⟩
 refine pu (va [(vi x_n), (vs a34 x_key.length c35), (vi 0), (vi ((winNew).Top)), (vs a42 ((winNew).Bits).length c43)]) wN ?_
 have b49 := ((((b10.kp k23).kp k30).kp k36).kp k41)
 refine sv [(vi x_n), (vs a34 x_key.length c35), (vi 0), (vi ((winNew).Top)), (vs a42 ((winNew).Bits).length c43)] wN sizeOf_60 b49 ?_
 intro w6 k50 b51 z52
 have m53 := ((m32.extk k36).extk k41).ext k50 (fun k hk => by subst hk; exact p7)
 refine n3 ?_
 have o54 := (own_ch (own_kp o37 k41) k50 (ne1 o37 (Nat.lt_of_lt_of_le p8 k23.size)))
 have o55 := (own_ch o44 k50 (ne1 o44 (Nat.lt_of_lt_of_le p8 (z3 k23 k30 k36))))
 refine ret_1 (.inl rfl) (va [(vi x_n), (vs a34 x_key.length c35), (vi 0), (vi ((winNew).Top)), (vs a42 ((winNew).Bits).length c43)]) rfl (rv_c [(vi x_n), (vs a34 x_key.length c35), (vi 0), (vi ((winNew).Top)), (vs a42 ((winNew).Bits).length c43)] rfl b51 isAgg_60 sizeOf_60) ?_
 refine ⟨m53.keep0, ?_⟩
 simp only [F_spec_EpNew, h25, h27, cond_true, cond_false]
 exact ⟨_, _, _, _, rfl, (own_lo o54 (z2 k9 k23)), s4, (own_lo o55 (z4 k9 k23 k30 k36)), s45, ⟨⟨(Ap.lt o37 o44 (Nat.le_refl w4.heap.size)), trivial⟩, ⟨trivial, trivial⟩⟩⟩
theorem epNew_N (n : Int) (k : List UInt8) : 0 ≤ (F_spec_EpNew n k).N ∧ (F_spec_EpNew n k).N ≤ 4294967295 := by
  unfold F_spec_EpNew
  cases h1 : F_spec_l1In n 0 4294967295 with
  | false => exact ⟨Int.le_refl _, (show (0 : Int) ≤ 4294967295 by decide)⟩
  | true =>
    cases decide ((k.length : Int) = 32) with
    | false => exact ⟨Int.le_refl _, (show (0 : Int) ≤ 4294967295 by decide)⟩
    | true => exact spec_l1In_t h1

abbrev Z_62 : List Value := [(vi 0), (vs none 0 0), (vi 0), (vs none 0 0), (vi 0), (vi 0), (vs none 0 0), (vi 0), (vs none 0 0), (vi 0), (vi 0), (vs none 0 0), (vb false), (vi 0), (vs none 0 0)]
theorem zero_62 : ∀ w, (zeroValue 62).run Try.prog w = .ok (va Z_62) w := fun w => by kernel_rfl
theorem sizeOf_62 : ∀ w, (sizeOf 62).run Try.prog w = .ok 15 w := fun w => by kernel_rfl
theorem isAgg_62 : ∀ w, (isAgg 62).run Try.prog w = .ok true w := fun w => by kernel_rfl
def O_62 (w : World) (lo : Nat) (v : Value) (x : (PChan)) : Prop := ∃ (a1 : Option Addr) (c1 : Nat) (a2 : Option Addr) (c2 : Nat) (a3 : Option Addr) (c3 : Nat) (a4 : Option Addr) (c4 : Nat) (a5 : Option Addr) (c5 : Nat) (a6 : Option Addr) (c6 : Nat), v = .agg #[.int .i64 x.Role, .slice a1 x.Sn.length c1, .int .i64 x.Cur.N, .slice a2 x.Cur.Key.length c2, .int .i64 x.Cur.Seq, .int .i64 x.Cur.Win.Top, .slice a3 x.Cur.Win.Bits.length c3, .int .i64 x.Old.N, .slice a4 x.Old.Key.length c4, .int .i64 x.Old.Seq, .int .i64 x.Old.Win.Top, .slice a5 x.Old.Win.Bits.length c5, .bool x.HasOld, .int .i64 x.Until, .slice a6 x.Next.length c6] ∧ w.ownsRow lo 5 1 (.slice a1 x.Sn.length c1) x.Sn.length (x.Sn.map bV) ∧ x.Sn.length ≤ 1073741824 ∧ w.ownsRow lo 5 1 (.slice a2 x.Cur.Key.length c2) x.Cur.Key.length (x.Cur.Key.map bV) ∧ x.Cur.Key.length ≤ 1073741824 ∧ w.ownsRow lo 3 1 (.slice a3 x.Cur.Win.Bits.length c3) x.Cur.Win.Bits.length (x.Cur.Win.Bits.map iV) ∧ x.Cur.Win.Bits.length ≤ 1073741824 ∧ w.ownsRow lo 5 1 (.slice a4 x.Old.Key.length c4) x.Old.Key.length (x.Old.Key.map bV) ∧ x.Old.Key.length ≤ 1073741824 ∧ w.ownsRow lo 3 1 (.slice a5 x.Old.Win.Bits.length c5) x.Old.Win.Bits.length (x.Old.Win.Bits.map iV) ∧ x.Old.Win.Bits.length ≤ 1073741824 ∧ w.ownsRow lo 5 1 (.slice a6 x.Next.length c6) x.Next.length (x.Next.map bV) ∧ x.Next.length ≤ 1073741824 ∧ Aps [(a1, c1), (a2, c2), (a3, c3), (a4, c4), (a5, c5), (a6, c6)]
theorem mR_22 {w : World} {x : List UInt8} {a1 : Option Addr} {c1 : Nat} (h1 : Rd w 1 (.slice a1 x.length c1) x.length (x.map bV)) (l1 : x.length ≤ 1073741824) : R_22 w (vs a1 x.length c1) x := ⟨_, _, rfl, h1, l1⟩
def F_spec_ChanNew (x_role : Int) (x_sn : List UInt8) (x_key : List UInt8) : (PChan) := bif (F_spec_l1In x_role 0 1) then (bif (decide ((x_sn.length : Int) = 12)) then (bif (decide ((x_key.length : Int) = 32)) then ({ Role := x_role, Sn := x_sn, Cur := (F_spec_EpNew 0 x_key), Old := { N := 0, Key := [], Seq := 0, Win := { Top := 0, Bits := [] : PWin } : PEp }, HasOld := false, Until := 0, Next := [] : PChan }) else ({ Role := 0, Sn := [], Cur := { N := 0, Key := [], Seq := 0, Win := { Top := 0, Bits := [] : PWin } : PEp }, Old := { N := 0, Key := [], Seq := 0, Win := { Top := 0, Bits := [] : PWin } : PEp }, HasOld := false, Until := 0, Next := [] : PChan })) else ({ Role := 0, Sn := [], Cur := { N := 0, Key := [], Seq := 0, Win := { Top := 0, Bits := [] : PWin } : PEp }, Old := { N := 0, Key := [], Seq := 0, Win := { Top := 0, Bits := [] : PWin } : PEp }, HasOld := false, Until := 0, Next := [] : PChan })) else ({ Role := 0, Sn := [], Cur := { N := 0, Key := [], Seq := 0, Win := { Top := 0, Bits := [] : PWin } : PEp }, Old := { N := 0, Key := [], Seq := 0, Win := { Top := 0, Bits := [] : PWin } : PEp }, HasOld := false, Until := 0, Next := [] : PChan })
theorem C_spec_ChanNew (w0 : World) (x_role : Int) (v_x_sn : Value) (x_sn : List UInt8) (r_x_sn : R_22 w0 v_x_sn x_sn) (v_x_key : Value) (x_key : List UInt8) (r_x_key : R_22 w0 v_x_key x_key)  : Fn Try.prog 115 #[(vi x_role), v_x_sn, v_x_key] w0 (fun v w' => Keep w0 w' ∧ O_62 w' w0.heap.size v (F_spec_ChanNew x_role x_sn x_key)) := by
 obtain ⟨a1, c2, rfl, r3, s4⟩ := r_x_sn
 obtain ⟨a6, c7, rfl, r8, s9⟩ := r_x_key
 refine fn_ofS (n := 28) [(vi x_role), (vs a1 x_sn.length c2), (vs a6 x_key.length c7)] Try.func115 rfl rfl ?_
 refine sr ?_
 refine al Z_62 wN zero_62 ?_
 intro g11 w1 p12 p13 k14 b15
 have m16 := (Ch.base w0).extk k14
 refine n4 ?_
 refine jT1 [(0, (vi x_role)), (1, (vs a1 x_sn.length c2)), (2, (vs a6 x_key.length c7)), (6, (vp g11 0))] (F_spec_ChanNew x_role x_sn x_key = { Role := 0, Sn := [], Cur := { N := 0, Key := [], Seq := 0, Win := { Top := 0, Bits := [] : PWin } : PEp }, Old := { N := 0, Key := [], Seq := 0, Win := { Top := 0, Bits := [] : PWin } : PEp }, HasOld := false, Until := 0, Next := [] : PChan }) ?_ fun J17 => ?_
 ·intro hA18 w2 k20 u19
  refine sr ?_
  refine pu (va Z_62) wN ?_
  have b22 := (b15.kp k20)
  refine sv Z_62 wN sizeOf_62 b22 ?_
  intro w3 k23 b24 z25
  have m26 := (m16.extk k20).ext k23 (fun k hk => by subst hk; exact p12)
  refine n1 ?_
  refine ret_1 (.inl rfl) (va Z_62) rfl (rv_c Z_62 rfl b24 isAgg_62 sizeOf_62) ?_
  refine ⟨m26.keep0, ?_⟩
  rw [hA18]
  exact ⟨_, _, _, _, _, _, _, _, _, _, _, _, rfl, (by first | exact own_nil _ _ _ _ | exact OLv.nil _ _ _ _), (by simp), (by first | exact own_nil _ _ _ _ | exact OLv.nil _ _ _ _), (by simp), (by first | exact own_nil _ _ _ _ | exact OLv.nil _ _ _ _), (by simp), (by first | exact own_nil _ _ _ _ | exact OLv.nil _ _ _ _), (by simp), (by first | exact own_nil _ _ _ _ | exact OLv.nil _ _ _ _), (by simp), (by first | exact own_nil _ _ _ _ | exact OLv.nil _ _ _ _), (by simp), ⟨⟨(Ap.nl _), ⟨(Ap.nl _), ⟨(Ap.nl _), ⟨(Ap.nl _), ⟨(Ap.nl _), trivial⟩⟩⟩⟩⟩, ⟨⟨(Ap.nl _), ⟨(Ap.nl _), ⟨(Ap.nl _), ⟨(Ap.nl _), trivial⟩⟩⟩⟩, ⟨⟨(Ap.nl _), ⟨(Ap.nl _), ⟨(Ap.nl _), trivial⟩⟩⟩, ⟨⟨(Ap.nl _), ⟨(Ap.nl _), trivial⟩⟩, ⟨⟨(Ap.nl _), trivial⟩, ⟨trivial, trivial⟩⟩⟩⟩⟩⟩⟩
 refine mw (vi x_role) ?_
 refine cl wN (C_spec_l1In w1 x_role 0 1) ?_
 rintro _ w2 ⟨k28, rfl⟩
 have m29 := m16.extk k28
 refine pu (vb (!(F_spec_l1In x_role 0 1))) wN ?_
 refine mw (vb (!(F_spec_l1In x_role 0 1))) ?_
 rcases bf (F_spec_l1In x_role 0 1) with h30 | h30
 ·have q74 := spec_l1In_f h30
  iterate 3 refine sk (congrArg not h30) ?_
  refine pk (vb true) wN (congrArg not h30) ?_
  refine mw (vb true) ?_
  iterate 3 refine sk (Eq.refl true) ?_
  refine pk (vb true) wN (Eq.refl true) ?_
  refine n2 ?_
  refine ct (Eq.refl true) ?_
  have hF75 : F_spec_ChanNew x_role x_sn x_key = { Role := 0, Sn := [], Cur := { N := 0, Key := [], Seq := 0, Win := { Top := 0, Bits := [] : PWin } : PEp }, Old := { N := 0, Key := [], Seq := 0, Win := { Top := 0, Bits := [] : PWin } : PEp }, HasOld := false, Until := 0, Next := [] : PChan } := by simp only [F_spec_ChanNew, h30, cond_true, cond_false]
  exact wj (J17 hF75 _ k28)
 have q31 := spec_l1In_t h30
 refine mv (vs a1 x_sn.length c2) (wS (congrArg not h30)) ?_
 refine ln (wS (congrArg not h30)) slTy_22 (r3.from0 m29) ?_
 refine pu (vb (!(decide ((x_sn.length : Int) = 12)))) (wS (congrArg not h30)) ?_
 refine pf (vb (!(decide ((x_sn.length : Int) = 12)))) wN (congrArg not h30) ?_
 refine mw (vb (!(decide ((x_sn.length : Int) = 12)))) ?_
 rcases bf (decide ((x_sn.length : Int) = 12)) with h32 | h32
 ·have q72 := of_decide_eq_false h32
  iterate 3 refine sk (congrArg not h32) ?_
  refine pk (vb true) wN (congrArg not h32) ?_
  refine n2 ?_
  refine ct (Eq.refl true) ?_
  have hF73 : F_spec_ChanNew x_role x_sn x_key = { Role := 0, Sn := [], Cur := { N := 0, Key := [], Seq := 0, Win := { Top := 0, Bits := [] : PWin } : PEp }, Old := { N := 0, Key := [], Seq := 0, Win := { Top := 0, Bits := [] : PWin } : PEp }, HasOld := false, Until := 0, Next := [] : PChan } := by simp only [F_spec_ChanNew, h30, h32, cond_true, cond_false]
  exact wj (J17 hF73 _ k28)
 have q33 := of_decide_eq_true h32
 refine mv (vs a6 x_key.length c7) (wS (congrArg not h32)) ?_
 refine ln (wS (congrArg not h32)) slTy_22 (r8.from0 m29) ?_
 refine pu (vb (!(decide ((x_key.length : Int) = 32)))) (wS (congrArg not h32)) ?_
 refine pf (vb (!(decide ((x_key.length : Int) = 32)))) wN (congrArg not h32) ?_
 refine n2 ?_
 rcases bf (decide ((x_key.length : Int) = 32)) with h34 | h34
 ·have q70 := of_decide_eq_false h34
  refine ct (congrArg not h34) ?_
  have hF71 : F_spec_ChanNew x_role x_sn x_key = { Role := 0, Sn := [], Cur := { N := 0, Key := [], Seq := 0, Win := { Top := 0, Bits := [] : PWin } : PEp }, Old := { N := 0, Key := [], Seq := 0, Win := { Top := 0, Bits := [] : PWin } : PEp }, HasOld := false, Until := 0, Next := [] : PChan } := by simp only [F_spec_ChanNew, h30, h32, h34, cond_true, cond_false]
  exact wj (J17 hF71 _ k28)
 have q35 := of_decide_eq_true h34
 refine cf (congrArg not h34) ?_
 refine y1 ?_
 refine mw (vi x_role) ?_
 refine wl_lit0 wN rfl rfl slTy_22 (fun w => by kernel_rfl) ?_
 intro a36 w3 k37 o38
 have m39 := m29.extk k37
 refine mw (vs a1 x_sn.length c2) ?_
 refine ap0 x_sn wN slTy_22 o38 (r3.from0 m39) k37.size ?_
 intro a41 c42 w4 k43 o44 n45
 have m46 := m39.extk k43
 refine mw (vs a6 x_key.length c7) ?_
 refine cl wN (C_spec_EpNew w4 0 _ x_key (mR_22 (r8.from0 m46) s9)) ?_
 rintro _ w5 ⟨k48, ⟨a49, c50, a54, c55, rfl, o51, s52, o56, s57, ap59⟩⟩
 refine pu (va [(vi x_role), (vs a41 x_sn.length c42), (vi ((F_spec_EpNew 0 x_key).N)), (vs a49 ((F_spec_EpNew 0 x_key).Key).length c50), (vi ((F_spec_EpNew 0 x_key).Seq)), (vi (((F_spec_EpNew 0 x_key).Win).Top)), (vs a54 (((F_spec_EpNew 0 x_key).Win).Bits).length c55), (vi 0), (vs none 0 0), (vi 0), (vi 0), (vs none 0 0), (vb false), (vi 0), (vs none 0 0)]) wN ?_
 have b61 := ((((b15.kp k28).kp k37).kp k43).kp k48)
 refine sv [(vi x_role), (vs a41 x_sn.length c42), (vi ((F_spec_EpNew 0 x_key).N)), (vs a49 ((F_spec_EpNew 0 x_key).Key).length c50), (vi ((F_spec_EpNew 0 x_key).Seq)), (vi (((F_spec_EpNew 0 x_key).Win).Top)), (vs a54 (((F_spec_EpNew 0 x_key).Win).Bits).length c55), (vi 0), (vs none 0 0), (vi 0), (vi 0), (vs none 0 0), (vb false), (vi 0), (vs none 0 0)] wN sizeOf_62 b61 ?_
 intro w6 k62 b63 z64
 have m65 := (m46.extk k48).ext k62 (fun k hk => by subst hk; exact p12)
 refine n3 ?_
 have o66 := (own_ch (own_kp o44 k48) k62 (ne1 o44 (Nat.lt_of_lt_of_le p13 k28.size)))
 have o67 := (own_ch o51 k62 (ne1 o51 (Nat.lt_of_lt_of_le p13 (z3 k28 k37 k43))))
 have o68 := (own_ch o56 k62 (ne1 o56 (Nat.lt_of_lt_of_le p13 (z3 k28 k37 k43))))
 refine ret_1 (.inl rfl) (va [(vi x_role), (vs a41 x_sn.length c42), (vi ((F_spec_EpNew 0 x_key).N)), (vs a49 ((F_spec_EpNew 0 x_key).Key).length c50), (vi ((F_spec_EpNew 0 x_key).Seq)), (vi (((F_spec_EpNew 0 x_key).Win).Top)), (vs a54 (((F_spec_EpNew 0 x_key).Win).Bits).length c55), (vi 0), (vs none 0 0), (vi 0), (vi 0), (vs none 0 0), (vb false), (vi 0), (vs none 0 0)]) rfl (rv_c [(vi x_role), (vs a41 x_sn.length c42), (vi ((F_spec_EpNew 0 x_key).N)), (vs a49 ((F_spec_EpNew 0 x_key).Key).length c50), (vi ((F_spec_EpNew 0 x_key).Seq)), (vi (((F_spec_EpNew 0 x_key).Win).Top)), (vs a54 (((F_spec_EpNew 0 x_key).Win).Bits).length c55), (vi 0), (vs none 0 0), (vi 0), (vi 0), (vs none 0 0), (vb false), (vi 0), (vs none 0 0)] rfl b63 isAgg_62 sizeOf_62) ?_
 refine ⟨m65.keep0, ?_⟩
 simp only [F_spec_ChanNew, h30, h32, h34, cond_true, cond_false]
 exact ⟨_, _, _, _, _, _, _, _, _, _, _, _, rfl, (own_lo o66 (z2 k14 k28)), s4, (own_lo o67 (z4 k14 k28 k37 k43)), s52, (own_lo o68 (z4 k14 k28 k37 k43)), s57, (by first | exact own_nil _ _ _ _ | exact OLv.nil _ _ _ _), (by simp), (by first | exact own_nil _ _ _ _ | exact OLv.nil _ _ _ _), (by simp), (by first | exact own_nil _ _ _ _ | exact OLv.nil _ _ _ _), (by simp), ⟨⟨(Ap.lt o44 o51 (Nat.le_refl w4.heap.size)), ⟨(Ap.lt o44 o56 (Nat.le_refl w4.heap.size)), ⟨(Ap.nr _), ⟨(Ap.nr _), ⟨(Ap.nr _), trivial⟩⟩⟩⟩⟩, ⟨⟨(ap59.1.1), ⟨(Ap.nr _), ⟨(Ap.nr _), ⟨(Ap.nr _), trivial⟩⟩⟩⟩, ⟨⟨(Ap.nr _), ⟨(Ap.nr _), ⟨(Ap.nr _), trivial⟩⟩⟩, ⟨⟨(Ap.nl _), ⟨(Ap.nl _), trivial⟩⟩, ⟨⟨(Ap.nl _), trivial⟩, ⟨trivial, trivial⟩⟩⟩⟩⟩⟩⟩

def N_56 (w : World) (g : Nat) (v : Value) (x : (List Int)) : Prop := ∃ (a1 : Option Addr) (c1 : Nat), v = .slice a1 x.length c1 ∧ Rd w 1 (.slice a1 x.length c1) x.length (x.map iV) ∧ x.length ≤ 1073741824 ∧ (0 < x.length → ∀ z, a1 = some z → z.block ≠ g)
theorem C_spec_l1Int (w0 : World) (g : Nat) (ca : Option Addr) (cc : Nat) (cb : List UInt8) (r_c : CurX w0 g 111 ca cc cb) (v_x_list : Value) (x_list : List Int) (r_x_list : N_56 w0 g v_x_list x_list) (pre0 : 0 < x_list.length) : Fn Try.prog 47 #[(vp g 0), v_x_list] w0 (fun v w' => ∃ x : (Int), Ch (fun k => k = g) w0 w' ∧ CurX w' g 111 ca cc cb ∧ O_3 w' w0.heap.size v x ∧ (x ∈ x_list)) := by
 obtain ⟨ci, chh, hcb, hcr, hcl, hci, hcn⟩ := r_c
 have hgl := Blk.lt hcb
 obtain ⟨a1, c2, rfl, r3, s4, n6⟩ := r_x_list
 refine fn_ofS (n := 12) [(vp g 0), (vs a1 x_list.length c2)] Try.func47 rfl rfl ?_
 refine sr ?_
 refine aw (vi 0) ?_
 refine nx ?_
 refine mw (vs a1 x_list.length c2) ?_
 refine mw (vp g 0) ?_
 refine mw (vs a1 x_list.length c2) ?_
 refine ln wN slTy_56 r3 ?_
 refine cl wN (C_spec_l1Below w0 g ca cc cb ⟨_, _, hcb, hcr, hcl, (by omega), hcn⟩ (x_list.length : Int)) ?_
 rintro _ w1 ⟨x8, k7, ⟨i10, h11, b12, r13, l14, p15, n16⟩, rfl, q9⟩
 have m17 := ChG.ext (Ch.refl (fun k => k = g) w0) k7 (fun k hk => .inl hk)
 refine ix wN (x8) slTy_56 (Rd.chP r3 m17 n6) ?_
 refine ei (x := x_list) (((x8)).toNat) wN isAgg_3 (Rd.chP r3 m17 n6) ?_
 refine aw (vi (x_list.getD ((x8)).toNat 0)) ?_
 refine n3 ?_
 refine rt (vi (x_list.getD ((x8)).toNat 0)) ?_
 exact ⟨(x_list.getD ((x8)).toNat 0), m17, ⟨_, _, b12, (Rd.chP hcr m17 hcn), hcl, (by omega), hcn⟩, rfl, (by exact getD_memI (by omega))⟩

theorem C_spec_l1Once (w0 : World) (g : Nat) (ca : Option Addr) (cc : Nat) (cb : List UInt8) (r_c : CurX w0 g 111 ca cc cb) (x_n : Int)  : Fn Try.prog 51 #[(vp g 0), (vi x_n)] w0 (fun v w' => ∃ x : (Bool), Ch (fun k => k = g) w0 w' ∧ CurX w' g 111 ca cc cb ∧ O_4 w' w0.heap.size v x ∧ (True)) := by
 obtain ⟨ci, chh, hcb, hcr, hcl, hci, hcn⟩ := r_c
 have hgl := Blk.lt hcb
 refine fn_ofS (n := 9) [(vp g 0), (vi x_n)] Try.func51 rfl rfl ?_
 refine sr ?_
 refine aw (vb false) ?_
 refine nx ?_
 refine mw (vp g 0) ?_
 refine mw (vi x_n) ?_
 refine cl wN (C_spec_l1Below w0 g ca cc cb ⟨_, _, hcb, hcr, hcl, (by omega), hcn⟩ x_n) ?_
 rintro _ w1 ⟨x2, k1, ⟨i4, h5, b6, r7, l8, p9, n10⟩, rfl, q3⟩
 have m11 := ChG.ext (Ch.refl (fun k => k = g) w0) k1 (fun k hk => .inl hk)
 refine pu (vb (decide ((x2) = 0))) wN ?_
 refine aw (vb (decide ((x2) = 0))) ?_
 refine n3 ?_
 refine rt (vb (decide ((x2) = 0))) ?_
 exact ⟨decide ((x2) = 0), m11, ⟨_, _, b6, (Rd.chP hcr m11 hcn), hcl, (by omega), hcn⟩, rfl, trivial⟩

def O_56 (w : World) (lo : Nat) (v : Value) (x : (List Int)) : Prop := ∃ (a1 : Option Addr) (c1 : Nat), v = .slice a1 x.length c1 ∧ w.ownsRow lo 3 1 (.slice a1 x.length c1) x.length (x.map iV) ∧ x.length ≤ 1073741824 ∧ Aps [(a1, c1)]
def R_56 (w : World) (v : Value) (x : (List Int)) : Prop := ∃ (a1 : Option Addr) (c1 : Nat), v = .slice a1 x.length c1 ∧ Rd w 1 (.slice a1 x.length c1) x.length (x.map iV) ∧ x.length ≤ 1073741824
theorem C_spec_l8Nums (w0 : World) (g : Nat) (ca : Option Addr) (cc : Nat) (cb : List UInt8) (r_c : CurX w0 g 111 ca cc cb) (x_most : Int) (pre0 : 0 ≤ x_most ∧ x_most ≤ 100) : Fn Try.prog 135 #[(vp g 0), (vi x_most)] w0 (fun v w' => ∃ x : (List Int), Ch (fun k => k = g) w0 w' ∧ CurX w' g 111 ca cc cb ∧ O_56 w' w0.heap.size v x ∧ (x.length ≤ 101)) := by
 obtain ⟨ci, chh, hcb, hcr, hcl, hci, hcn⟩ := r_c
 have hgl := Blk.lt hcb
 refine fn_ofS (n := 47) [(vp g 0), (vi x_most)] Try.func135 rfl rfl ?_
 refine sr ?_
 refine aw (vs none 0 0) ?_
 refine nx ?_
 refine wl_lit0 wN rfl rfl slTy_56 (fun w => by kernel_rfl) ?_
 intro a1 w1 k2 o3
 have m4 := ChG.extk (Ch.refl (fun k => k = g) w0) k2
 refine aw (vs (some a1) 0 0) ?_
 refine nx ?_
 refine mw (vp g 0) ?_
 refine ltI ([0, 0, 0, 1000, 5000, 281474976710000] : List Int) wN slTy_56 ?_
 intro a6 c7 w2 k8 o9
 have m10 := ChG.extk m4 k8
 have b12 := ((hcb.kp k2).kp k8)
 refine cl wN (C_spec_l1Int w2 g ca cc cb ⟨_, _, b12, (Rd.chP hcr m10 hcn), hcl, (by omega), hcn⟩ _ ([0, 0, 0, 1000, 5000, 281474976710000] : List Int) ⟨_, _, rfl, (Rd.of_own o9), (by simp), (fun _ z hz => by have h1 := (own_lt o9 z.block (by rw [hz]; rfl)).1; have h2 := Nat.lt_of_lt_of_le hgl k2.size; omega)⟩ (by simp)) ?_
 rintro _ w3 ⟨x14, k13, ⟨i16, h17, b18, r19, l20, p21, n22⟩, rfl, q15⟩
 have m23 := ChG.ext m10 k13 (fun k hk => .inl hk)
 have q15m : x14 = 0 ∨ x14 = 0 ∨ x14 = 0 ∨ x14 = 1000 ∨ x14 = 5000 ∨ x14 = 281474976710000 := by simpa only [List.mem_cons, List.not_mem_nil, or_false] using q15
 refine aw (vi (x14)) ?_
 refine n4 ?_
 refine mw (vp g 0) ?_
 refine mw (vi x_most) ?_
 refine ar (x_most + 1) wN ?_
 refine cl wN (C_spec_l1Below w3 g ca cc cb ⟨_, _, b18, (Rd.chP hcr m23 hcn), hcl, (by omega), hcn⟩ (x_most + 1)) ?_
 rintro _ w4 ⟨x25, k24, ⟨i27, h28, b29, r30, l31, p32, n33⟩, rfl, q26⟩
 have m34 := ChG.ext m23 k24 (fun k hk => .inl hk)
 refine aw (vi (x25)) ?_
 refine wl_nil <| wq_then <| wc_block ?_
 have o36 := (own_ch (own_ch (own_kp o3 k8) k13 (ne1 o3 (hgl))) k24 (ne1 o3 (hgl)))
 have hE37 : ([] : List Int) = ([] : List Int) := by simp
 have hN38 : 0 = (([] : List Int)).length := by rw [← hE37]; try (first | rfl | simp only [List.length_set] | simp)
 refine wc_loopP [(0, (vp g 0)), (4, (vs none 0 0)), (5, (.slice (some a1) (([] : List Int)).length 0)), (6, (vi (x14))), (7, (vi (x25)))] ⟨rfl, rfl, rfl, rfl, rfl, trivial⟩ (fun e' w' => ∃ (l : List Int) (b : Int) (q : Int) (u35 : Env) (a5x : Option Addr) (c5x : Nat), e' = pt u35 [(0, (vp g 0)), (4, (vs none 0 0)), (5, (.slice a5x (l).length c5x)), (6, (vi b)), (7, (vi q))] ∧ Ch (fun k => k = g) w0 w' ∧ Ch (fun k => k = g ∨ w0.heap.size ≤ k) w4 w' ∧ (l.length : Int) + q ≤ x_most ∧ 0 ≤ q ∧ 0 ≤ b ∧ b + 3000 * q ≤ 281474977010000 ∧ (World.ownsRow w' w0.heap.size 3 1 (.slice a5x (l).length c5x) (l).length ((l).map iV) ∧ (l).length ≤ 1073741824) ∧ CurX w' g 111 ca cc cb) (fun e' _ => ((intOf (e' 7))).toNat) ?_ ?_
 ·exact fun u => ⟨([] : List Int), (x14), (x25), u, (some a1), 0, rfl, m34, (Ch.refl (fun k => k = g ∨ w0.heap.size ≤ k) w4), (by first | omega | (simp only [List.length_append, List.length_cons, List.length_nil]; omega)), (by omega), (by omega), (by omega), ⟨(by rw [← hN38, ← hE37]; exact o36), (by rw [← hN38]; first | exact (by simp) | (simp only [List.length_append, List.length_take, List.length_replicate]; omega))⟩, ⟨_, _, b29, (Rd.chP hcr m34 hcn), hcl, (by omega), hcn⟩⟩
 ·rintro _ w5 ⟨l, b, q, u35, a5x, c5x, rfl, m39, k40, i41, i42, i43, i44, ⟨o45, s46⟩, ⟨i47, h48, b49, r50, l51, p52, n53⟩⟩
  refine wc_seq <| sr ?_
  refine mw (vi q) ?_
  refine pu (vb (decide (0 < q))) wN ?_
  refine n2 ?_
  rcases bf (decide (0 < q)) with h55 | h55
  ·have q185 := of_decide_eq_false h55
   refine cf h55 ?_
   refine wc_exit <| wq_then_exit <| wq_then_exit <| wq_blk_exit <| wq_then <| wc_seq <| sr ?_
   refine mw (vp g 0) ?_
   refine cl wN (C_spec_l1Once w5 g ca cc cb ⟨_, _, b49, (Rd.chP hcr m39 hcn), hcl, (by omega), hcn⟩ 5) ?_
   rintro _ w6 ⟨x187, k186, ⟨i189, h190, b191, r192, l193, p194, n195⟩, rfl, q188⟩
   have m196 := ChG.ext m39 k186 (fun k hk => .inl hk)
   refine n2 ?_
   rcases bf x187 with h197 | h197
   ·refine cf h197 ?_
    refine y1 ?_
    refine mw (vs a5x (l).length c5x) ?_
    refine aw (vs a5x (l).length c5x) ?_
    refine n3 ?_
    have o236 := (own_ch o45 k186 (ne1 o45 (hgl)))
    refine rt (vs a5x (l).length c5x) ?_
    have hN237 : (l).length = (l).length := by first | (simp only [List.length_append, List.length_take, List.length_replicate, List.length_set, List.length_map]; done) | (simp only [List.length_append, List.length_take, List.length_replicate, List.length_set, List.length_map]; omega)
    rw [hN237] at o236 ⊢
    exact ⟨l, m196, ⟨_, _, b191, (Rd.chP hcr m196 hcn), hcl, (by omega), hcn⟩, ⟨_, _, rfl, o236, (by rw [← hN237]; exact s46), ⟨trivial, trivial⟩⟩, (by (first | omega | (simp only [List.length_append, List.length_cons, List.length_nil]; omega)))⟩
   refine ct h197 ?_
   refine wc_region ?_
   refine mw (vs a5x (l).length c5x) ?_
   refine mw (vp g 0) ?_
   refine ltI ([(-1), 281474976710655, 281474976710656] : List Int) wN slTy_56 ?_
   intro a199 c200 w7 k201 o202
   have m203 := ChG.extk m196 k201
   have b205 := (b191.kp k201)
   refine cl wN (C_spec_l1Int w7 g ca cc cb ⟨_, _, b205, (Rd.chP hcr m203 hcn), hcl, (by omega), hcn⟩ _ ([(-1), 281474976710655, 281474976710656] : List Int) ⟨_, _, rfl, (Rd.of_own o202), (by simp), (fun _ z hz => by have h1 := (own_lt o202 z.block (by rw [hz]; rfl)).1; have h2 := Nat.lt_of_lt_of_le hgl (z6 k2 k8 k13 k24 k40 k186); omega)⟩ (by simp)) ?_
   rintro _ w8 ⟨x207, k206, ⟨i209, h210, b211, r212, l213, p214, n215⟩, rfl, q208⟩
   have m216 := ChG.ext m203 k206 (fun k hk => .inl hk)
   have q208m : x207 = (-1) ∨ x207 = 281474976710655 ∨ x207 = 281474976710656 := by simpa only [List.mem_cons, List.not_mem_nil, or_false] using q208
   refine ltI ([(x207)] : List Int) wN slTy_56 ?_
   intro a217 c218 w9 k219 o220
   have m221 := ChG.extk m216 k219
   have o223 := (own_kp (own_ch (own_kp (own_ch o45 k186 (ne1 o45 (hgl))) k201) k206 (ne1 o45 (hgl))) k219)
   refine wl_append (v := (vs a5x (l).length c5x)) wN rfl rfl rfl slTy_56 rfl rfl o223 (Rd.of_own o220) (all_iV _) (by first | (simp only [List.length_append, List.length_cons, List.length_nil, List.length_replicate, List.length_take, List.length_drop]; omega) | omega) (by simp only [maxLen]; first | (simp only [List.length_append, List.length_cons, List.length_nil, List.length_replicate, List.length_take, List.length_drop]; omega) | omega) (z9 k2 k8 k13 k24 k40 k186 k201 k206 k219) ?_
   intro u224 w10 k225 o226 j227
   have o230 : w10.ownsRow w0.heap.size 3 1 u224 ((l ++ ([(x207)] : List Int)) : List Int).length (((l ++ ([(x207)] : List Int)) : List Int).map iV) := by simpa [Nat.add_assoc] using o226
   obtain ⟨a228, c229, rfl⟩ := own_form o230
   have m231 := ChG.ext m221 k225 (fun k hk => .inr (Nat.le_trans (Nat.le_refl w0.heap.size) (own_lt o45 k hk).1))
   have s233 : (l ++ ([(x207)] : List Int)).length ≤ 1073741824 := by first | (simp only [List.length_append, List.length_cons, List.length_nil, List.length_replicate, List.length_take, List.length_drop]; omega) | omega | assumption
   refine aw (vs a228 (l ++ ([(x207)] : List Int)).length c229) ?_
   refine nx ?_
   refine mw (vs a228 (l ++ ([(x207)] : List Int)).length c229) ?_
   refine aw (vs a228 (l ++ ([(x207)] : List Int)).length c229) ?_
   refine n3 ?_
   refine rt (vs a228 (l ++ ([(x207)] : List Int)).length c229) ?_
   have b234 := ((b211.kp k219).ch k225 (fun h => by have := (own_lt o45 _ h).1; have := Nat.lt_of_lt_of_le hgl (Nat.le_refl w0.heap.size); omega))
   exact ⟨(l ++ ([(x207)] : List Int)), m231, ⟨_, _, b234, (Rd.chP hcr m231 hcn), hcl, (by omega), hcn⟩, ⟨_, _, rfl, o230, s233, ⟨trivial, trivial⟩⟩, (by (first | omega | (simp only [List.length_append, List.length_cons, List.length_nil]; omega)))⟩
  have q56 := of_decide_eq_true h55
  refine ct h55 ?_
  refine wc_skip <| wq_then <| wc_seq <| wc_block <| wc_seq <| sr ?_
  refine mw (vp g 0) ?_
  refine cl wN (C_spec_l1Once w5 g ca cc cb ⟨_, _, b49, (Rd.chP hcr m39 hcn), hcl, (by omega), hcn⟩ 6) ?_
  rintro _ w6 ⟨x58, k57, ⟨i60, h61, b62, r63, l64, p65, n66⟩, rfl, q59⟩
  have m67 := ChG.ext m39 k57 (fun k hk => .inl hk)
  refine n2 ?_
  rcases bf x58 with h68 | h68
  ·refine cf h68 ?_
   refine wc_skip <| wq_then <| wc_region ?_
   refine mw (vs a5x (l).length c5x) ?_
   refine mw (vi b) ?_
   refine mw (vp g 0) ?_
   refine cl wN (C_spec_l1Below w6 g ca cc cb ⟨_, _, b62, (Rd.chP hcr m67 hcn), hcl, (by omega), hcn⟩ 40) ?_
   rintro _ w7 ⟨x138, k137, ⟨i140, h141, b142, r143, l144, p145, n146⟩, rfl, q139⟩
   have m147 := ChG.ext m67 k137 (fun k hk => .inl hk)
   refine ar (b + (x138)) wN ?_
   refine mw (vp g 0) ?_
   refine ltI ([0, 0, 20, 1000] : List Int) wN slTy_56 ?_
   intro a148 c149 w8 k150 o151
   have m152 := ChG.extk m147 k150
   have b154 := (b142.kp k150)
   refine cl wN (C_spec_l1Int w8 g ca cc cb ⟨_, _, b154, (Rd.chP hcr m152 hcn), hcl, (by omega), hcn⟩ _ ([0, 0, 20, 1000] : List Int) ⟨_, _, rfl, (Rd.of_own o151), (by simp), (fun _ z hz => by have h1 := (own_lt o151 z.block (by rw [hz]; rfl)).1; have h2 := Nat.lt_of_lt_of_le hgl (z7 k2 k8 k13 k24 k40 k57 k137); omega)⟩ (by simp)) ?_
   rintro _ w9 ⟨x156, k155, ⟨i158, h159, b160, r161, l162, p163, n164⟩, rfl, q157⟩
   have m165 := ChG.ext m152 k155 (fun k hk => .inl hk)
   have q157m : x156 = 0 ∨ x156 = 0 ∨ x156 = 20 ∨ x156 = 1000 := by simpa only [List.mem_cons, List.not_mem_nil, or_false] using q157
   refine ar ((b + (x138)) - (x156)) wN ?_
   refine ltI ([((b + (x138)) - (x156))] : List Int) wN slTy_56 ?_
   intro a166 c167 w10 k168 o169
   have m170 := ChG.extk m165 k168
   have o172 := (own_kp (own_ch (own_kp (own_ch (own_ch o45 k57 (ne1 o45 (hgl))) k137 (ne1 o45 (hgl))) k150) k155 (ne1 o45 (hgl))) k168)
   refine wl_append (v := (vs a5x (l).length c5x)) wN rfl rfl rfl slTy_56 rfl rfl o172 (Rd.of_own o169) (all_iV _) (by first | (simp only [List.length_append, List.length_cons, List.length_nil, List.length_replicate, List.length_take, List.length_drop]; omega) | omega) (by simp only [maxLen]; first | (simp only [List.length_append, List.length_cons, List.length_nil, List.length_replicate, List.length_take, List.length_drop]; omega) | omega) (z10 k2 k8 k13 k24 k40 k57 k137 k150 k155 k168) ?_
   intro u173 w11 k174 o175 j176
   have o179 : w11.ownsRow w0.heap.size 3 1 u173 ((l ++ ([((b + (x138)) - (x156))] : List Int)) : List Int).length (((l ++ ([((b + (x138)) - (x156))] : List Int)) : List Int).map iV) := by simpa [Nat.add_assoc] using o175
   obtain ⟨a177, c178, rfl⟩ := own_form o179
   have m180 := ChG.ext m170 k174 (fun k hk => .inr (Nat.le_trans (Nat.le_refl w0.heap.size) (own_lt o45 k hk).1))
   have s182 : (l ++ ([((b + (x138)) - (x156))] : List Int)).length ≤ 1073741824 := by first | (simp only [List.length_append, List.length_cons, List.length_nil, List.length_replicate, List.length_take, List.length_drop]; omega) | omega | assumption
   refine aw (vs a177 (l ++ ([((b + (x138)) - (x156))] : List Int)).length c178) ?_
   refine wl_nil <| wq_blk_normal <| wq_then <| wc_region ?_
   refine mw (vi q) ?_
   refine ar (q - 1) wN ?_
   refine aw (vi (q - 1)) ?_
   refine wl_nil ?_
   have hE183 : ((l ++ ([((b + (x138)) - (x156))] : List Int)) : List Int) = (l ++ ([((b + (x138)) - (x156))] : List Int)) := by simp
   have b184 := ((b160.kp k168).ch k174 (fun h => by have := (own_lt o45 _ h).1; have := Nat.lt_of_lt_of_le hgl (Nat.le_refl w0.heap.size); omega))
   refine wq_loopP (w0 := w5) [(0, (vp g 0)), (4, (vs none 0 0)), (5, (.slice a177 ((l ++ ([((b + (x138)) - (x156))] : List Int))).length c178)), (6, (vi b)), (7, (vi (q - 1)))] ?_ ?_ ?_
   · exact ⟨rfl, rfl, (congrArg (fun l : List Int => Value.slice a177 l.length c178) hE183), rfl, rfl, trivial⟩
   · exact fun u => ⟨(l ++ ([((b + (x138)) - (x156))] : List Int)), b, (q - 1), u, a177, c178, rfl, m180, (ChO.ext (ChO.extk (ChO.ext (ChO.extk (ChO.ext (ChO.ext (ChO.ext (Ch.refl (fun k => k = g ∨ w0.heap.size ≤ k) w4) k40 (fun k hk => hk.elim .inl (fun hk => .inr (hk)))) k57 (fun k hk => .inl hk)) k137 (fun k hk => .inl hk)) k150) k155 (fun k hk => .inl hk)) k168) k174 (fun k hk => .inr (Nat.le_trans (Nat.le_refl w0.heap.size) (own_lt o45 k hk).1))), (by first | omega | (simp only [List.length_append, List.length_cons, List.length_nil]; omega)), (by omega), (by omega), (by omega), (hE183 ▸ ⟨o179, s182⟩), ⟨_, _, b184, (Rd.chP hcr m180 hcn), hcl, (by omega), hcn⟩⟩
   · show ((q - 1)).toNat < (q).toNat; omega
  refine ct h68 ?_
  refine wc_region ?_
  refine mw (vi b) ?_
  refine mw (vp g 0) ?_
  refine ltI ([1, 32, 900, 1023, 1024, 1025, 3000] : List Int) wN slTy_56 ?_
  intro a70 c71 w7 k72 o73
  have m74 := ChG.extk m67 k72
  have b76 := (b62.kp k72)
  refine cl wN (C_spec_l1Int w7 g ca cc cb ⟨_, _, b76, (Rd.chP hcr m74 hcn), hcl, (by omega), hcn⟩ _ ([1, 32, 900, 1023, 1024, 1025, 3000] : List Int) ⟨_, _, rfl, (Rd.of_own o73), (by simp), (fun _ z hz => by have h1 := (own_lt o73 z.block (by rw [hz]; rfl)).1; have h2 := Nat.lt_of_lt_of_le hgl (z6 k2 k8 k13 k24 k40 k57); omega)⟩ (by simp)) ?_
  rintro _ w8 ⟨x78, k77, ⟨i80, h81, b82, r83, l84, p85, n86⟩, rfl, q79⟩
  have m87 := ChG.ext m74 k77 (fun k hk => .inl hk)
  have q79m : x78 = 1 ∨ x78 = 32 ∨ x78 = 900 ∨ x78 = 1023 ∨ x78 = 1024 ∨ x78 = 1025 ∨ x78 = 3000 := by simpa only [List.mem_cons, List.not_mem_nil, or_false] using q79
  refine ar (b + (x78)) wN ?_
  refine aw (vi (b + (x78))) ?_
  refine wl_nil <| wq_then <| wc_region ?_
  refine mw (vs a5x (l).length c5x) ?_
  refine mw (vi (b + (x78))) ?_
  refine mw (vp g 0) ?_
  refine cl wN (C_spec_l1Below w8 g ca cc cb ⟨_, _, b82, (Rd.chP hcr m87 hcn), hcl, (by omega), hcn⟩ 40) ?_
  rintro _ w9 ⟨x89, k88, ⟨i91, h92, b93, r94, l95, p96, n97⟩, rfl, q90⟩
  have m98 := ChG.ext m87 k88 (fun k hk => .inl hk)
  refine ar ((b + (x78)) + (x89)) wN ?_
  refine mw (vp g 0) ?_
  refine ltI ([0, 0, 20, 1000] : List Int) wN slTy_56 ?_
  intro a99 c100 w10 k101 o102
  have m103 := ChG.extk m98 k101
  have b105 := (b93.kp k101)
  refine cl wN (C_spec_l1Int w10 g ca cc cb ⟨_, _, b105, (Rd.chP hcr m103 hcn), hcl, (by omega), hcn⟩ _ ([0, 0, 20, 1000] : List Int) ⟨_, _, rfl, (Rd.of_own o102), (by simp), (fun _ z hz => by have h1 := (own_lt o102 z.block (by rw [hz]; rfl)).1; have h2 := Nat.lt_of_lt_of_le hgl (z9 k2 k8 k13 k24 k40 k57 k72 k77 k88); omega)⟩ (by simp)) ?_
  rintro _ w11 ⟨x107, k106, ⟨i109, h110, b111, r112, l113, p114, n115⟩, rfl, q108⟩
  have m116 := ChG.ext m103 k106 (fun k hk => .inl hk)
  have q108m : x107 = 0 ∨ x107 = 0 ∨ x107 = 20 ∨ x107 = 1000 := by simpa only [List.mem_cons, List.not_mem_nil, or_false] using q108
  refine ar (((b + (x78)) + (x89)) - (x107)) wN ?_
  refine ltI ([(((b + (x78)) + (x89)) - (x107))] : List Int) wN slTy_56 ?_
  intro a117 c118 w12 k119 o120
  have m121 := ChG.extk m116 k119
  have o123 := (own_kp (own_ch (own_kp (own_ch (own_ch (own_kp (own_ch o45 k57 (ne1 o45 (hgl))) k72) k77 (ne1 o45 (hgl))) k88 (ne1 o45 (hgl))) k101) k106 (ne1 o45 (hgl))) k119)
  refine wl_append (v := (vs a5x (l).length c5x)) wN rfl rfl rfl slTy_56 rfl rfl o123 (Rd.of_own o120) (all_iV _) (by first | (simp only [List.length_append, List.length_cons, List.length_nil, List.length_replicate, List.length_take, List.length_drop]; omega) | omega) (by simp only [maxLen]; first | (simp only [List.length_append, List.length_cons, List.length_nil, List.length_replicate, List.length_take, List.length_drop]; omega) | omega) (z12 k2 k8 k13 k24 k40 k57 k72 k77 k88 k101 k106 k119) ?_
  intro u124 w13 k125 o126 j127
  have o130 : w13.ownsRow w0.heap.size 3 1 u124 ((l ++ ([(((b + (x78)) + (x89)) - (x107))] : List Int)) : List Int).length (((l ++ ([(((b + (x78)) + (x89)) - (x107))] : List Int)) : List Int).map iV) := by simpa [Nat.add_assoc] using o126
  obtain ⟨a128, c129, rfl⟩ := own_form o130
  have m131 := ChG.ext m121 k125 (fun k hk => .inr (Nat.le_trans (Nat.le_refl w0.heap.size) (own_lt o45 k hk).1))
  have s133 : (l ++ ([(((b + (x78)) + (x89)) - (x107))] : List Int)).length ≤ 1073741824 := by first | (simp only [List.length_append, List.length_cons, List.length_nil, List.length_replicate, List.length_take, List.length_drop]; omega) | omega | assumption
  refine aw (vs a128 (l ++ ([(((b + (x78)) + (x89)) - (x107))] : List Int)).length c129) ?_
  refine wl_nil <| wq_blk_normal <| wq_then <| wc_region ?_
  refine mw (vi q) ?_
  refine ar (q - 1) wN ?_
  refine aw (vi (q - 1)) ?_
  refine wl_nil ?_
  have hE134 : ((l ++ ([(((b + (x78)) + (x89)) - (x107))] : List Int)) : List Int) = (l ++ ([(((b + (x78)) + (x89)) - (x107))] : List Int)) := by simp
  have b135 := ((b111.kp k119).ch k125 (fun h => by have := (own_lt o45 _ h).1; have := Nat.lt_of_lt_of_le hgl (Nat.le_refl w0.heap.size); omega))
  refine wq_loopP (w0 := w5) [(0, (vp g 0)), (4, (vs none 0 0)), (5, (.slice a128 ((l ++ ([(((b + (x78)) + (x89)) - (x107))] : List Int))).length c129)), (6, (vi (b + (x78)))), (7, (vi (q - 1)))] ?_ ?_ ?_
  · exact ⟨rfl, rfl, (congrArg (fun l : List Int => Value.slice a128 l.length c129) hE134), rfl, rfl, trivial⟩
  · exact fun u => ⟨(l ++ ([(((b + (x78)) + (x89)) - (x107))] : List Int)), (b + (x78)), (q - 1), u, a128, c129, rfl, m131, (ChO.ext (ChO.extk (ChO.ext (ChO.extk (ChO.ext (ChO.ext (ChO.extk (ChO.ext (ChO.ext (Ch.refl (fun k => k = g ∨ w0.heap.size ≤ k) w4) k40 (fun k hk => hk.elim .inl (fun hk => .inr (hk)))) k57 (fun k hk => .inl hk)) k72) k77 (fun k hk => .inl hk)) k88 (fun k hk => .inl hk)) k101) k106 (fun k hk => .inl hk)) k119) k125 (fun k hk => .inr (Nat.le_trans (Nat.le_refl w0.heap.size) (own_lt o45 k hk).1))), (by first | omega | (simp only [List.length_append, List.length_cons, List.length_nil]; omega)), (by omega), (by omega), (by omega), (hE134 ▸ ⟨o130, s133⟩), ⟨_, _, b135, (Rd.chP hcr m131 hcn), hcl, (by omega), hcn⟩⟩
  · show ((q - 1)).toNat < (q).toNat; omega

abbrev L_58 (x : PWin) (a1 : Option Addr) (c1 : Nat) : List Value := [vi x.Top, vs a1 x.Bits.length c1]
def R_58 (w : World) (v : Value) (x : (PWin)) : Prop := ∃ (a1 : Option Addr) (c1 : Nat), v = .agg #[.int .i64 x.Top, .slice a1 x.Bits.length c1] ∧ Rd w 1 (.slice a1 x.Bits.length c1) x.Bits.length (x.Bits.map iV) ∧ x.Bits.length ≤ 1073741824
def F_spec_l8Copy (x_w : PWin) : (PWin) := x_w
theorem C_spec_l8Copy (w0 : World) (v_x_w : Value) (x_w : PWin) (r_x_w : R_58 w0 v_x_w x_w)  : Fn Try.prog 152 #[v_x_w] w0 (fun v w' => Keep w0 w' ∧ O_58 w' w0.heap.size v (x_w)) := by
 obtain ⟨a1, c2, rfl, r3, s4⟩ := r_x_w
 refine fn_ofS (n := 10) [(va (L_58 x_w a1 c2))] Try.func152 rfl rfl ?_
 refine sr ?_
 refine bx (L_58 x_w a1 c2) wN ?_
 intro g6 w1 p7 p8 k9 b10
 refine al [(vi 0), (vs none 0 0)] wN zero_58 ?_
 intro g12 w2 p13 p14 k15 b16
 have m17 := ((Ch.base w0).extk k9).extk k15
 refine wl_nil <| wq_then <| wc_seq ?_
 refine wc_drawT ([(3, [], [], (fun _ v _ => v = (vp g6 0))), (4, [], [0], (fun _ v _ => v = (vi x_w.Top))), (5, [], [], (fun _ v w => ∃ a0 : Addr, v = .slice (some a0) 0 0 ∧ w.ownsRow w2.heap.size 3 1 (.slice (some a0) 0 0) 0 [])), (6, [], [], (fun _ v _ => v = (vp g6 1))), (7, [], [3], (fun _ v _ => v = (vs a1 x_w.Bits.length c2))), (8, [], [2, 3, 4], (fun _ v w => ∃ (a1 : Option Addr) (c1 : Nat), v = .slice a1 x_w.Bits.length c1 ∧ w.ownsRow w2.heap.size 3 1 (.slice a1 x_w.Bits.length c1) x_w.Bits.length (x_w.Bits.map iV) ∧ x_w.Bits.length ≤ 1073741824 ∧ Aps [(a1, c1)]))] : GV) (fun _ w' => Keep w2 w') [] mixed rfl (by kernel_rfl) (by kernel_rfl) ?_ (fun _ _ h => h) (fun _ _ _ _ h _ k => h.trans k) trivial ?_ ?_ ?_
 ·exact ⟨hV, hE, ⟨hV, hE, ⟨(fun e v w w1 h hk => by obtain ⟨a0x, he, o0x⟩ := h; exact ⟨a0x, he, own_kp o0x hk⟩), hE, ⟨hV, hE, ⟨hV, hE, ⟨(fun e v w w1 h hk => by obtain ⟨a0x, c0x, he, o0x, l0x, hap⟩ := h; exact ⟨a0x, c0x, he, own_kp o0x hk, l0x, hap⟩), hE, trivial⟩⟩⟩⟩⟩⟩
 ·exact trivial
 ·refine ⟨?_, ⟨?_, ⟨?_, ⟨?_, ⟨?_, ⟨?_, trivial⟩⟩⟩⟩⟩⟩
  ·intro _ w3 k50 _
   rintro _ _ _ _ _ _
   show WL _ _ _ _ _ _ _
   refine pu (vp g6 0) wN ?_
   exact f1
  ·intro _ w3 k52 _
   rintro _ rfl _ _ _ _ _
   show WL _ _ _ _ _ _ _
   have b54 := ((b10.kp k15).kp k52)
   refine ld (vi x_w.Top) wN isAgg_3 b54 ?_
   exact f1
  ·intro _ w3 k55 _
   rintro _ _ _ _ _ _
   show WL _ _ _ _ _ _ _
   refine wl_lit0 wN rfl rfl slTy_56 (fun w => by kernel_rfl) ?_
   intro a57 w4 k58 o59
   exact wl_finT k58 ⟨_, rfl, own_lo o59 k55.size⟩
  ·intro _ w3 k62 _
   rintro _ _ _ _ _ _
   show WL _ _ _ _ _ _ _
   refine pu (vp g6 1) wN ?_
   exact f1
  ·intro _ w3 k64 _
   rintro _ _ _ _ rfl _ _
   show WL _ _ _ _ _ _ _
   have b66 := ((b10.kp k15).kp k64)
   refine ld (vs a1 x_w.Bits.length c2) wN isAgg_56 b66 ?_
   exact f1
  ·intro _ w3 k67 _
   have m68 := m17.extk k67
   rintro _ _ _ ⟨a69, rfl, o71⟩ _ rfl _ rfl _
   show WL _ _ _ _ _ _ _
   refine ap0I x_w.Bits wN slTy_56 o71 (r3.from0 m68) k67.size ?_
   intro a75 c76 w4 k77 o78 n79
   exact wl_finT k77 ⟨_, _, rfl, o78, s4, ⟨trivial, trivial⟩⟩
 ·intro _ w3 k82
  rintro _ rfl _ rfl _ ⟨a85, rfl, o87⟩ _ rfl _ rfl _ ⟨a91, c92, rfl, o93, s94, -⟩
  show WL _ _ _ _ _ _ _
  refine pu (va (L_58 x_w a91 c92)) wN ?_
  have b96 := (b16.kp k82)
  refine sv (L_58 x_w a91 c92) wN sizeOf_58 b96 ?_
  intro w4 k97 b98 z99
  have m100 := (m17.extk k82).ext k97 (fun k hk => by subst hk; exact Nat.le_trans k9.size p13)
  refine n3 ?_
  have o101 := (own_ch o93 k97 (ne1 o93 (p14)))
  refine ret_1 (.inl rfl) (va (L_58 x_w a91 c92)) rfl (rv_c (L_58 x_w a91 c92) rfl b98 isAgg_58 sizeOf_58) ?_
  refine ⟨m100.keep0, ?_⟩
  have hF102 : x_w = x_w := by rfl
  rw [hF102]
  exact ⟨_, _, rfl, (own_lo o101 (z2 k9 k15)), s94, ⟨trivial, trivial⟩⟩

def F_spec_l8Bit (x_w : PWin) (x_n : Int) : (Bool) := decide ((((x_w.Bits.getD (((x_n % 1024) / 32)).toNat 0) / (2 : Int) ^ (((x_n % 1024) % 32)).toNat) % 2) = 1)
theorem C_spec_l8Bit (w0 : World) (v_x_w : Value) (x_w : PWin) (r_x_w : R_58 w0 v_x_w x_w) (x_n : Int) (pre0 : x_w.Bits.length = 32) (pre1 : 0 ≤ x_n) : Fn Try.prog 165 #[v_x_w, (vi x_n)] w0 (fun v w' => Keep w0 w' ∧ O_4 w' w0.heap.size v (F_spec_l8Bit x_w x_n)) := by
 obtain ⟨a1, c2, rfl, r3, s4⟩ := r_x_w
 refine fn_ofS (n := 19) [(va (L_58 x_w a1 c2)), (vi x_n)] Try.func165 rfl rfl ?_
 refine sr ?_
 refine bx (L_58 x_w a1 c2) wN ?_
 intro g6 w1 p7 p8 k9 b10
 have m11 := (Ch.base w0).extk k9
 refine aw (vb false) ?_
 refine nx ?_
 refine mw (vi x_n) ?_
 refine wl_rem x_n 1024 wN rfl rfl (by kernel_rfl) (by first | omega | assumption) ?_
 refine aw (vi (x_n % 1024)) ?_
 refine nx ?_
 refine pu (vp g6 1) wN ?_
 refine ld (vs a1 x_w.Bits.length c2) wN isAgg_56 b10 ?_
 refine mw (vi (x_n % 1024)) ?_
 refine wl_quo (x_n % 1024) 32 wN rfl rfl (by kernel_rfl) (by omega) (by omega) (by omega) ?_
 refine ix wN ((x_n % 1024) / 32) slTy_56 (r3.from0 m11) ?_
 refine ei (x := x_w.Bits) ((((x_n % 1024) / 32)).toNat) wN isAgg_3 (r3.from0 m11) ?_
 refine mw (vi (x_n % 1024)) ?_
 refine wl_rem (x_n % 1024) 32 wN rfl rfl (by kernel_rfl) (by first | omega | assumption) ?_
 refine wl_shr (x_w.Bits.getD (((x_n % 1024) / 32)).toNat 0) ((x_n % 1024) % 32) wN rfl rfl rfl rfl rfl (by omega) (by omega) ?_
 refine wl_and ((x_w.Bits.getD (((x_n % 1024) / 32)).toNat 0) / (2 : Int) ^ (((x_n % 1024) % 32)).toNat) 1 2 1 wN rfl rfl (by decide) (by decide) (by decide) (by kernel_rfl) ?_
 refine pu (vb (decide ((((x_w.Bits.getD (((x_n % 1024) / 32)).toNat 0) / (2 : Int) ^ (((x_n % 1024) % 32)).toNat) % 2) = 1))) wN ?_
 refine aw (vb (decide ((((x_w.Bits.getD (((x_n % 1024) / 32)).toNat 0) / (2 : Int) ^ (((x_n % 1024) % 32)).toNat) % 2) = 1))) ?_
 refine n3 ?_
 refine rt (vb (decide ((((x_w.Bits.getD (((x_n % 1024) / 32)).toNat 0) / (2 : Int) ^ (((x_n % 1024) % 32)).toNat) % 2) = 1))) ?_
 refine ⟨m11.keep0, ?_⟩
 have hF12 : F_spec_l8Bit x_w x_n = decide ((((x_w.Bits.getD (((x_n % 1024) / 32)).toNat 0) / (2 : Int) ^ (((x_n % 1024) % 32)).toNat) % 2) = 1) := by rfl
 rw [hF12]
 exact rfl

theorem mR_58 {w : World} {x : PWin} {a1 : Option Addr} {c1 : Nat} (h1 : Rd w 1 (.slice a1 x.Bits.length c1) x.Bits.length (x.Bits.map iV)) (l1 : x.Bits.length ≤ 1073741824) : R_58 w (va (L_58 x a1 c1)) x := ⟨_, _, rfl, h1, l1⟩
def sWin (w : PWin) : Bool := bif (decide ((w.Bits.length : Int) = 32)) then (bif F_spec_l1In w.Top (-1) 281474976710655 then (bif allW w.Bits then (bif decide (0 ≤ w.Top) && !(F_spec_l8Bit w w.Top) then false else noneIn (F_spec_l8Bit w) (w.Top + 1) 1024) else false) else false) else false
theorem C_spec_WinOk (w0 : World) (v_x_w : Value) (x_w : PWin) (r_x_w : R_58 w0 v_x_w x_w)  : Fn Try.prog 163 #[v_x_w] w0 (fun v w' => Keep w0 w' ∧ O_4 w' w0.heap.size v (sWin x_w)) := by
 obtain ⟨a1, c2, rfl, r3, s4⟩ := r_x_w
 refine fn_ofS (n := 46) [(va (L_58 x_w a1 c2))] Try.func163 rfl rfl ?_
 refine sr ?_
 refine bx (L_58 x_w a1 c2) wN ?_
 intro g6 w1 p7 p8 k9 b10
 have m11 := (Ch.base w0).extk k9
 refine aw (vb false) ?_
 refine n4 ?_
 refine jT1 [(1, (vp g6 0)), (2, (vb false))] (sWin x_w = false) ?_ fun J12 => ?_
 ·intro hA13 w2 k15 u14
  have m16 := m11.extk k15
  refine sr ?_
  refine aw (vb false) ?_
  refine n1 ?_
  refine rt (vb false) ?_
  refine ⟨m16.keep0, ?_⟩
  rw [hA13]
  exact rfl
 refine pu (vp g6 1) wN ?_
 refine ld (vs a1 x_w.Bits.length c2) wN isAgg_56 b10 ?_
 refine ln wN slTy_56 (r3.from0 m11) ?_
 refine pu (vb (!(decide ((x_w.Bits.length : Int) = 32)))) wN ?_
 refine mw (vb (!(decide ((x_w.Bits.length : Int) = 32)))) ?_
 rcases bf (decide ((x_w.Bits.length : Int) = 32)) with h18 | h18
 ·have q90 := of_decide_eq_false h18
  iterate 4 refine sk (congrArg not h18) ?_
  refine pk (vb true) wN (congrArg not h18) ?_
  refine n2 ?_
  refine ct (Eq.refl true) ?_
  have hF91 : sWin x_w = false := by first | (simp [sWin, h18]; done) | (have hz := allW_no (x := x_w.Bits) (k := i) (by omega) (by assumption); simp [sWin, h18, hz]; done) | (have hy := allW_all (x := x_w.Bits) (k := i) (by assumption) (by omega); simp [sWin, h18, hy]; done) | (have hy := allW_all (x := x_w.Bits) (k := i) (by assumption) (by omega); have hz := noneIn_f (f := F_spec_l8Bit x_w) (a := x_w.Top + 1) (b := 1024) (q := q) (by assumption) (by omega) (by omega); simp [sWin, h18, hy, hz]; done) | (have hy := allW_all (x := x_w.Bits) (k := i) (by assumption) (by omega); have hz := noneIn_t (f := F_spec_l8Bit x_w) (a := x_w.Top + 1) (b := 1024) (q := q) (by assumption) (by omega); simp [sWin, h18, hy, hz]; done)
  exact wj (J12 hF91 _ (Ch.refl _ _))
 have q19 := of_decide_eq_true h18
 refine pu (vp g6 0) (wS (congrArg not h18)) ?_
 refine ld (vi x_w.Top) (wS (congrArg not h18)) isAgg_3 b10 ?_
 refine cl (wS (congrArg not h18)) (C_spec_l1In w1 x_w.Top (-1) 281474976710655) ?_
 rintro _ w2 ⟨k20, rfl⟩
 have m21 := m11.extk k20
 refine pu (vb (!(F_spec_l1In x_w.Top (-1) 281474976710655))) (wS (congrArg not h18)) ?_
 refine pf (vb (!(F_spec_l1In x_w.Top (-1) 281474976710655))) wN (congrArg not h18) ?_
 refine n2 ?_
 rcases bf (F_spec_l1In x_w.Top (-1) 281474976710655) with h22 | h22
 ·have q88 := spec_l1In_f h22
  refine ct (congrArg not h22) ?_
  have hF89 : sWin x_w = false := by first | (simp [sWin, h18, h22]; done) | (have hz := allW_no (x := x_w.Bits) (k := i) (by omega) (by assumption); simp [sWin, h18, h22, hz]; done) | (have hy := allW_all (x := x_w.Bits) (k := i) (by assumption) (by omega); simp [sWin, h18, h22, hy]; done) | (have hy := allW_all (x := x_w.Bits) (k := i) (by assumption) (by omega); have hz := noneIn_f (f := F_spec_l8Bit x_w) (a := x_w.Top + 1) (b := 1024) (q := q) (by assumption) (by omega) (by omega); simp [sWin, h18, h22, hy, hz]; done) | (have hy := allW_all (x := x_w.Bits) (k := i) (by assumption) (by omega); have hz := noneIn_t (f := F_spec_l8Bit x_w) (a := x_w.Top + 1) (b := 1024) (q := q) (by assumption) (by omega); simp [sWin, h18, h22, hy, hz]; done)
  exact wj (J12 hF89 _ k20)
 have q23 := spec_l1In_t h22
 refine cf (congrArg not h22) ?_
 refine y2 ?_
 refine aw (vi 0) ?_
 refine wl_nil <| wq_then <| wc_block ?_
 refine wc_loopP [(1, (vp g6 0)), (3, (vi ((0 : Nat) : Int)))] ⟨rfl, (congrArg (Value.int .i64) (show (0 : Int) = ((0 : Nat) : Int) by omega)), trivial⟩ (fun e' w' => ∃ (i : Nat) (u24 : Env), e' = pt u24 [(1, (vp g6 0)), (3, (vi ((i : Nat) : Int)))] ∧ Ch (fun k => w0.heap.size ≤ k) w0 w' ∧ Ch (fun k => w2.heap.size ≤ k) w2 w' ∧ i ≤ 32 ∧ allW (x_w.Bits.take i) = true) (fun e' _ => (32 - (intOf (e' 3))).toNat) ?_ ?_
 ·exact fun u => ⟨0, u, rfl, m21, (Ch.refl (fun k => w2.heap.size ≤ k) w2), (by omega), (by first | rfl | exact allW_next (by assumption) (by omega) (by assumption))⟩
 ·rintro _ w3 ⟨i, u24, rfl, m25, k26, i27, i28⟩
  refine wc_seq <| sr ?_
  refine mw (vi ((i : Nat) : Int)) ?_
  refine pu (vb (decide (((i : Nat) : Int) < 32))) wN ?_
  refine n2 ?_
  rcases bt (decide (((i : Nat) : Int) < 32)) with h29 | h29
  ·have q30 := of_decide_eq_true h29
   refine ct h29 ?_
   refine wc_skip <| wq_then <| wc_seq <| wc_block <| sr ?_
   refine pu (vp g6 1) wN ?_
   have b31 := ((b10.kp k20).ch k26 (Nat.not_le.2 (Nat.lt_of_lt_of_le p8 k20.size)))
   refine ld (vs a1 x_w.Bits.length c2) wN isAgg_56 b31 ?_
   refine mw (vi ((i : Nat) : Int)) ?_
   refine ix wN ((i : Nat) : Int) slTy_56 (r3.from0 m25) ?_
   refine ei (x := x_w.Bits) i wN isAgg_3 (r3.from0 m25) ?_
   refine cl wN (C_spec_l1In w3 (x_w.Bits.getD i 0) 0 4294967295) ?_
   rintro _ w4 ⟨k32, rfl⟩
   have m33 := m25.extk k32
   refine pu (vb (!(F_spec_l1In (x_w.Bits.getD i 0) 0 4294967295))) wN ?_
   refine n2 ?_
   rcases bt (F_spec_l1In (x_w.Bits.getD i 0) 0 4294967295) with h34 | h34
   ·have q35 := spec_l1In_t h34
    refine cf (congrArg not h34) ?_
    refine wc_skip <| wq_blk_normal <| wq_then <| wc_region ?_
    refine mw (vi ((i : Nat) : Int)) ?_
    refine ar (((i : Nat) : Int) + 1) wN ?_
    refine aw (vi (((i : Nat) : Int) + 1)) ?_
    refine wl_nil ?_
    refine wq_loopP (w0 := w3) [(1, (vp g6 0)), (3, (vi (((i + 1) : Nat) : Int)))] ?_ ?_ ?_
    · exact ⟨rfl, (congrArg (Value.int .i64) (show ((((i : Nat) : Int) + 1) : Int) = (((i + 1) : Nat) : Int) by omega)), trivial⟩
    · exact fun u => ⟨(i + 1), u, rfl, m33, (((Ch.refl (fun k => w2.heap.size ≤ k) w2).ext k26 (fun k hk => hk)).extk k32), (by omega), (by first | rfl | exact allW_next (by assumption) (by omega) (by assumption))⟩
    · show (32 - (((i + 1) : Nat) : Int)).toNat < (32 - ((i : Nat) : Int)).toNat; omega
   have q36 := spec_l1In_f h34
   refine ct (congrArg not h34) ?_
   refine sr ?_
   refine aw (vb false) ?_
   refine wl_nil <| wq_then <| wc_ret <| wq_blk_ret <| wq_then_ret <| wq_then_ret <| wq_blk_ret <| wq_then_ret ?_
   refine rt (vb false) ?_
   refine ⟨m33.keep0, ?_⟩
   have hF37 : sWin x_w = false := by first | (simp [sWin, h18, h22, h29, h34]; done) | (have hz := allW_no (x := x_w.Bits) (k := i) (by omega) (by assumption); simp [sWin, h18, h22, h29, h34, hz]; done) | (have hy := allW_all (x := x_w.Bits) (k := i) (by assumption) (by omega); simp [sWin, h18, h22, h29, h34, hy]; done) | (have hy := allW_all (x := x_w.Bits) (k := i) (by assumption) (by omega); have hz := noneIn_f (f := F_spec_l8Bit x_w) (a := x_w.Top + 1) (b := 1024) (q := q) (by assumption) (by omega) (by omega); simp [sWin, h18, h22, h29, h34, hy, hz]; done) | (have hy := allW_all (x := x_w.Bits) (k := i) (by assumption) (by omega); have hz := noneIn_t (f := F_spec_l8Bit x_w) (a := x_w.Top + 1) (b := 1024) (q := q) (by assumption) (by omega); simp [sWin, h18, h22, h29, h34, hy, hz]; done)
   rw [hF37]
   exact rfl
  have q38 := of_decide_eq_false h29
  refine cf h29 ?_
  refine wc_exit <| wq_then_exit <| wq_then_exit <| wq_blk_exit <| wq_then <| wc_seq <| sr ?_
  refine pu (vp g6 0) wN ?_
  have b43 := ((b10.kp k20).ch k26 (Nat.not_le.2 (Nat.lt_of_lt_of_le p8 k20.size)))
  refine ld (vi x_w.Top) wN isAgg_3 b43 ?_
  refine pu (vb (decide (0 ≤ x_w.Top))) wN ?_
  refine mw (vb (decide (0 ≤ x_w.Top))) ?_
  rcases bf (decide (0 ≤ x_w.Top)) with h44 | h44
  ·have q70 := of_decide_eq_false h44
   iterate 5 refine sk h44 ?_
   refine pf (vb false) wN h44 ?_
   refine n2 ?_
   refine cf (Eq.refl false) ?_
   refine y2 ?_
   refine pu (vp g6 0) wN ?_
   refine ld (vi x_w.Top) wN isAgg_3 b43 ?_
   refine ar (x_w.Top + 1) wN ?_
   refine aw (vi (x_w.Top + 1)) ?_
   refine wl_nil <| wq_then <| wc_block ?_
   refine wc_loopP [(1, (vp g6 0)), (4, (vi (x_w.Top + 1)))] ⟨rfl, rfl, trivial⟩ (fun e' w' => ∃ (q : Int) (u71 : Env), e' = pt u71 [(1, (vp g6 0)), (4, (vi q))] ∧ Ch (fun k => w0.heap.size ≤ k) w0 w' ∧ Ch (fun k => w3.heap.size ≤ k) w3 w' ∧ x_w.Top + 1 ≤ q ∧ q ≤ 281474976710656 ∧ (∀ m : Int, x_w.Top + 1 ≤ m → m < q → F_spec_l8Bit x_w m = false)) (fun e' _ => (1024 - (intOf (e' 4))).toNat) ?_ ?_
   ·exact fun u => ⟨(x_w.Top + 1), u, rfl, m25, (Ch.refl (fun k => w3.heap.size ≤ k) w3), (by omega), (by omega), (by first | (intro m h1 h2; omega) | exact none_next (by assumption) (by assumption))⟩
   ·rintro _ w4 ⟨q, u71, rfl, m72, k73, i74, i75, i76⟩
    refine wc_seq <| sr ?_
    refine mw (vi q) ?_
    refine pu (vb (decide (q < 1024))) wN ?_
    refine n2 ?_
    rcases bf (decide (q < 1024)) with h77 | h77
    ·have q86 := of_decide_eq_false h77
     refine cf h77 ?_
     refine wc_exit <| wq_then_exit <| wq_then_exit <| wq_blk_exit <| wq_then <| sr ?_
     refine aw (vb true) ?_
     refine n3 ?_
     refine rt (vb true) ?_
     refine ⟨m72.keep0, ?_⟩
     have hF87 : sWin x_w = true := by first | (simp [sWin, h18, h22, h29, h44, h77]; done) | (have hz := allW_no (x := x_w.Bits) (k := i) (by omega) (by assumption); simp [sWin, h18, h22, h29, h44, h77, hz]; done) | (have hy := allW_all (x := x_w.Bits) (k := i) (by assumption) (by omega); simp [sWin, h18, h22, h29, h44, h77, hy]; done) | (have hy := allW_all (x := x_w.Bits) (k := i) (by assumption) (by omega); have hz := noneIn_f (f := F_spec_l8Bit x_w) (a := x_w.Top + 1) (b := 1024) (q := q) (by assumption) (by omega) (by omega); simp [sWin, h18, h22, h29, h44, h77, hy, hz]; done) | (have hy := allW_all (x := x_w.Bits) (k := i) (by assumption) (by omega); have hz := noneIn_t (f := F_spec_l8Bit x_w) (a := x_w.Top + 1) (b := 1024) (q := q) (by assumption) (by omega); simp [sWin, h18, h22, h29, h44, h77, hy, hz]; done)
     rw [hF87]
     exact rfl
    have q78 := of_decide_eq_true h77
    refine ct h77 ?_
    refine wc_skip <| wq_then <| wc_seq <| wc_block <| sr ?_
    have b79 := (b43.ch k73 (Nat.not_le.2 (Nat.lt_of_lt_of_le p8 (z2 k20 k26))))
    refine lN (L_58 x_w a1 c2) wN isAgg_58 sizeOf_58 b79 ?_
    refine mw (vi q) ?_
    refine cl wN (C_spec_l8Bit w4 _ x_w (mR_58 (r3.from0 m72) s4) q (by first | assumption | omega) (by first | assumption | omega)) ?_
    rintro _ w5 ⟨k80, rfl⟩
    have m81 := m72.extk k80
    refine n2 ?_
    rcases bf (F_spec_l8Bit x_w q) with h82 | h82
    ·refine cf h82 ?_
     refine wc_skip <| wq_blk_normal <| wq_then <| wc_region ?_
     refine mw (vi q) ?_
     refine ar (q + 1) wN ?_
     refine aw (vi (q + 1)) ?_
     refine wl_nil ?_
     refine wq_loopP (w0 := w4) [(1, (vp g6 0)), (4, (vi (q + 1)))] ?_ ?_ ?_
     · exact ⟨rfl, rfl, trivial⟩
     · exact fun u => ⟨(q + 1), u, rfl, m81, (((Ch.refl (fun k => w3.heap.size ≤ k) w3).ext k73 (fun k hk => hk)).extk k80), (by omega), (by omega), (by first | (intro m h1 h2; omega) | exact none_next (by assumption) (by assumption))⟩
     · show (1024 - (q + 1)).toNat < (1024 - q).toNat; omega
    refine ct h82 ?_
    refine sr ?_
    refine aw (vb false) ?_
    refine wl_nil <| wq_then <| wc_ret <| wq_blk_ret <| wq_then_ret <| wq_then_ret <| wq_blk_ret <| wq_then_ret ?_
    refine rt (vb false) ?_
    refine ⟨m81.keep0, ?_⟩
    have hF84 : sWin x_w = false := by first | (simp [sWin, h18, h22, h29, h44, h77, h82]; done) | (have hz := allW_no (x := x_w.Bits) (k := i) (by omega) (by assumption); simp [sWin, h18, h22, h29, h44, h77, h82, hz]; done) | (have hy := allW_all (x := x_w.Bits) (k := i) (by assumption) (by omega); simp [sWin, h18, h22, h29, h44, h77, h82, hy]; done) | (have hy := allW_all (x := x_w.Bits) (k := i) (by assumption) (by omega); have hz := noneIn_f (f := F_spec_l8Bit x_w) (a := x_w.Top + 1) (b := 1024) (q := q) (by assumption) (by omega) (by omega); simp [sWin, h18, h22, h29, h44, h77, h82, hy, hz]; done) | (have hy := allW_all (x := x_w.Bits) (k := i) (by assumption) (by omega); have hz := noneIn_t (f := F_spec_l8Bit x_w) (a := x_w.Top + 1) (b := 1024) (q := q) (by assumption) (by omega); simp [sWin, h18, h22, h29, h44, h77, h82, hy, hz]; done)
    rw [hF84]
    exact rfl
  have q45 := of_decide_eq_true h44
  refine lN (L_58 x_w a1 c2) (wS h44) isAgg_58 sizeOf_58 b43 ?_
  refine pu (vp g6 0) (wS h44) ?_
  refine ld (vi x_w.Top) (wS h44) isAgg_3 b43 ?_
  refine cl (wS h44) (C_spec_l8Bit w3 _ x_w (mR_58 (r3.from0 m25) s4) x_w.Top (by first | assumption | omega) (by first | assumption | omega)) ?_
  rintro _ w4 ⟨k46, rfl⟩
  have m47 := m25.extk k46
  refine pu (vb (!(F_spec_l8Bit x_w x_w.Top))) (wS h44) ?_
  refine pk (vb (!(F_spec_l8Bit x_w x_w.Top))) wN h44 ?_
  refine n2 ?_
  rcases bf (F_spec_l8Bit x_w x_w.Top) with h48 | h48
  ·refine ct (congrArg not h48) ?_
   refine sr ?_
   refine aw (vb false) ?_
   refine n1 ?_
   refine rt (vb false) ?_
   refine ⟨m47.keep0, ?_⟩
   have hF69 : sWin x_w = false := by first | (simp [sWin, h18, h22, h29, h44, h48]; done) | (have hz := allW_no (x := x_w.Bits) (k := i) (by omega) (by assumption); simp [sWin, h18, h22, h29, h44, h48, hz]; done) | (have hy := allW_all (x := x_w.Bits) (k := i) (by assumption) (by omega); simp [sWin, h18, h22, h29, h44, h48, hy]; done) | (have hy := allW_all (x := x_w.Bits) (k := i) (by assumption) (by omega); have hz := noneIn_f (f := F_spec_l8Bit x_w) (a := x_w.Top + 1) (b := 1024) (q := q) (by assumption) (by omega) (by omega); simp [sWin, h18, h22, h29, h44, h48, hy, hz]; done) | (have hy := allW_all (x := x_w.Bits) (k := i) (by assumption) (by omega); have hz := noneIn_t (f := F_spec_l8Bit x_w) (a := x_w.Top + 1) (b := 1024) (q := q) (by assumption) (by omega); simp [sWin, h18, h22, h29, h44, h48, hy, hz]; done)
   rw [hF69]
   exact rfl
  refine cf (congrArg not h48) ?_
  refine y2 ?_
  refine pu (vp g6 0) wN ?_
  have b50 := (b43.kp k46)
  refine ld (vi x_w.Top) wN isAgg_3 b50 ?_
  refine ar (x_w.Top + 1) wN ?_
  refine aw (vi (x_w.Top + 1)) ?_
  refine wl_nil <| wq_then <| wc_block ?_
  refine wc_loopP [(1, (vp g6 0)), (4, (vi (x_w.Top + 1)))] ⟨rfl, rfl, trivial⟩ (fun e' w' => ∃ (q : Int) (u51 : Env), e' = pt u51 [(1, (vp g6 0)), (4, (vi q))] ∧ Ch (fun k => w0.heap.size ≤ k) w0 w' ∧ Ch (fun k => w4.heap.size ≤ k) w4 w' ∧ x_w.Top + 1 ≤ q ∧ q ≤ 281474976710656 ∧ (∀ m : Int, x_w.Top + 1 ≤ m → m < q → F_spec_l8Bit x_w m = false)) (fun e' _ => (1024 - (intOf (e' 4))).toNat) ?_ ?_
  ·exact fun u => ⟨(x_w.Top + 1), u, rfl, m47, (Ch.refl (fun k => w4.heap.size ≤ k) w4), (by omega), (by omega), (by first | (intro m h1 h2; omega) | exact none_next (by assumption) (by assumption))⟩
  ·rintro _ w5 ⟨q, u51, rfl, m52, k53, i54, i55, i56⟩
   refine wc_seq <| sr ?_
   refine mw (vi q) ?_
   refine pu (vb (decide (q < 1024))) wN ?_
   refine n2 ?_
   rcases bf (decide (q < 1024)) with h57 | h57
   ·have q66 := of_decide_eq_false h57
    refine cf h57 ?_
    refine wc_exit <| wq_then_exit <| wq_then_exit <| wq_blk_exit <| wq_then <| sr ?_
    refine aw (vb true) ?_
    refine n3 ?_
    refine rt (vb true) ?_
    refine ⟨m52.keep0, ?_⟩
    have hF67 : sWin x_w = true := by first | (simp [sWin, h18, h22, h29, h44, h48, h57]; done) | (have hz := allW_no (x := x_w.Bits) (k := i) (by omega) (by assumption); simp [sWin, h18, h22, h29, h44, h48, h57, hz]; done) | (have hy := allW_all (x := x_w.Bits) (k := i) (by assumption) (by omega); simp [sWin, h18, h22, h29, h44, h48, h57, hy]; done) | (have hy := allW_all (x := x_w.Bits) (k := i) (by assumption) (by omega); have hz := noneIn_f (f := F_spec_l8Bit x_w) (a := x_w.Top + 1) (b := 1024) (q := q) (by assumption) (by omega) (by omega); simp [sWin, h18, h22, h29, h44, h48, h57, hy, hz]; done) | (have hy := allW_all (x := x_w.Bits) (k := i) (by assumption) (by omega); have hz := noneIn_t (f := F_spec_l8Bit x_w) (a := x_w.Top + 1) (b := 1024) (q := q) (by assumption) (by omega); simp [sWin, h18, h22, h29, h44, h48, h57, hy, hz]; done)
    rw [hF67]
    exact rfl
   have q58 := of_decide_eq_true h57
   refine ct h57 ?_
   refine wc_skip <| wq_then <| wc_seq <| wc_block <| sr ?_
   have b59 := (b50.ch k53 (Nat.not_le.2 (Nat.lt_of_lt_of_le p8 (z3 k20 k26 k46))))
   refine lN (L_58 x_w a1 c2) wN isAgg_58 sizeOf_58 b59 ?_
   refine mw (vi q) ?_
   refine cl wN (C_spec_l8Bit w5 _ x_w (mR_58 (r3.from0 m52) s4) q (by first | assumption | omega) (by first | assumption | omega)) ?_
   rintro _ w6 ⟨k60, rfl⟩
   have m61 := m52.extk k60
   refine n2 ?_
   rcases bf (F_spec_l8Bit x_w q) with h62 | h62
   ·refine cf h62 ?_
    refine wc_skip <| wq_blk_normal <| wq_then <| wc_region ?_
    refine mw (vi q) ?_
    refine ar (q + 1) wN ?_
    refine aw (vi (q + 1)) ?_
    refine wl_nil ?_
    refine wq_loopP (w0 := w5) [(1, (vp g6 0)), (4, (vi (q + 1)))] ?_ ?_ ?_
    · exact ⟨rfl, rfl, trivial⟩
    · exact fun u => ⟨(q + 1), u, rfl, m61, (((Ch.refl (fun k => w4.heap.size ≤ k) w4).ext k53 (fun k hk => hk)).extk k60), (by omega), (by omega), (by first | (intro m h1 h2; omega) | exact none_next (by assumption) (by assumption))⟩
    · show (1024 - (q + 1)).toNat < (1024 - q).toNat; omega
   refine ct h62 ?_
   refine sr ?_
   refine aw (vb false) ?_
   refine wl_nil <| wq_then <| wc_ret <| wq_blk_ret <| wq_then_ret <| wq_then_ret <| wq_blk_ret <| wq_then_ret ?_
   refine rt (vb false) ?_
   refine ⟨m61.keep0, ?_⟩
   have hF64 : sWin x_w = false := by first | (simp [sWin, h18, h22, h29, h44, h48, h57, h62]; done) | (have hz := allW_no (x := x_w.Bits) (k := i) (by omega) (by assumption); simp [sWin, h18, h22, h29, h44, h48, h57, h62, hz]; done) | (have hy := allW_all (x := x_w.Bits) (k := i) (by assumption) (by omega); simp [sWin, h18, h22, h29, h44, h48, h57, h62, hy]; done) | (have hy := allW_all (x := x_w.Bits) (k := i) (by assumption) (by omega); have hz := noneIn_f (f := F_spec_l8Bit x_w) (a := x_w.Top + 1) (b := 1024) (q := q) (by assumption) (by omega) (by omega); simp [sWin, h18, h22, h29, h44, h48, h57, h62, hy, hz]; done) | (have hy := allW_all (x := x_w.Bits) (k := i) (by assumption) (by omega); have hz := noneIn_t (f := F_spec_l8Bit x_w) (a := x_w.Top + 1) (b := 1024) (q := q) (by assumption) (by omega); simp [sWin, h18, h22, h29, h44, h48, h57, h62, hy, hz]; done)
   rw [hF64]
   exact rfl
theorem sWin_t {w : PWin} (h : sWin w = true) : allW w.Bits = true ∧ w.Bits.length = 32 ∧ -1 ≤ w.Top ∧ w.Top ≤ 281474976710655 := by
  unfold sWin at h
  cases h0 : decide ((w.Bits.length : Int) = 32) with
  | false => simp only [h0, cond_false] at h; cases h
  | true =>
    cases h1 : F_spec_l1In w.Top (-1) 281474976710655 with
    | false => simp only [h0, h1, cond_true, cond_false] at h; cases h
    | true =>
      cases h2 : allW w.Bits with
      | false => simp only [h0, h1, h2, cond_true, cond_false] at h; cases h
      | true =>
        have h3 := of_decide_eq_true h0
        have h4 := spec_l1In_t h1
        exact ⟨rfl, by omega, h4.1, h4.2⟩

def F_spec_l8Least (x_top : Int) : (Int) := bif (decide (x_top < 1024)) then (0) else (((x_top - 1024) + 1))
theorem C_spec_l8Least (w0 : World) (x_top : Int) (pre0 : -1 ≤ x_top ∧ x_top ≤ 1000000000000000) : Fn Try.prog 164 #[(vi x_top)] w0 (fun v w' => Keep w0 w' ∧ O_3 w' w0.heap.size v (F_spec_l8Least x_top)) := by
 refine fn_ofS (n := 8) [(vi x_top)] Try.func164 rfl rfl ?_
 refine sr ?_
 refine aw (vi 0) ?_
 refine n4 ?_
 refine mw (vi x_top) ?_
 refine pu (vb (decide (x_top < 1024))) wN ?_
 refine n2 ?_
 rcases bt (decide (x_top < 1024)) with h1 | h1
 ·have q2 := of_decide_eq_true h1
  refine ct h1 ?_
  refine sr ?_
  refine aw (vi 0) ?_
  refine n1 ?_
  refine rt (vi 0) ?_
  refine ⟨Ch.refl _ _, ?_⟩
  simp only [F_spec_l8Least, h1, cond_true, cond_false]
  exact rfl
 have q4 := of_decide_eq_false h1
 refine cf h1 ?_
 refine y1 ?_
 refine mw (vi x_top) ?_
 refine ar (x_top - 1024) wN ?_
 refine ar ((x_top - 1024) + 1) wN ?_
 refine aw (vi ((x_top - 1024) + 1)) ?_
 refine n3 ?_
 refine rt (vi ((x_top - 1024) + 1)) ?_
 refine ⟨Ch.refl _ _, ?_⟩
 simp only [F_spec_l8Least, h1, cond_true, cond_false]
 exact rfl

def F_spec_WinMay (x_w : PWin) (x_n : Int) : (Bool) := bif (sWin x_w) then (bif (F_spec_l1In x_n 0 281474976710655) then (bif (decide (x_w.Top < x_n)) then (true) else (bif (decide ((F_spec_l8Least x_w.Top) ≤ x_n)) then (!(F_spec_l8Bit x_w x_n)) else (false))) else (false)) else (false)
theorem C_spec_WinMay (w0 : World) (v_x_w : Value) (x_w : PWin) (r_x_w : R_58 w0 v_x_w x_w) (x_n : Int)  : Fn Try.prog 153 #[v_x_w, (vi x_n)] w0 (fun v w' => Keep w0 w' ∧ O_4 w' w0.heap.size v (F_spec_WinMay x_w x_n)) := by
 obtain ⟨a1, c2, rfl, r3, s4⟩ := r_x_w
 refine fn_ofS (n := 30) [(va (L_58 x_w a1 c2)), (vi x_n)] Try.func153 rfl rfl ?_
 refine sr ?_
 refine bx (L_58 x_w a1 c2) wN ?_
 intro g6 w1 p7 p8 k9 b10
 have m11 := (Ch.base w0).extk k9
 refine aw (vb false) ?_
 refine n4 ?_
 refine jT1 [(1, (vi x_n)), (2, (vp g6 0)), (4, (vb false))] (F_spec_WinMay x_w x_n = false) ?_ fun J12 => ?_
 ·intro hA13 w2 k15 u14
  have m16 := m11.extk k15
  refine sr ?_
  refine aw (vb false) ?_
  refine n1 ?_
  refine rt (vb false) ?_
  refine ⟨m16.keep0, ?_⟩
  rw [hA13]
  exact rfl
 refine lN (L_58 x_w a1 c2) wN isAgg_58 sizeOf_58 b10 ?_
 refine cl wN (C_spec_WinOk w1 _ x_w (mR_58 (r3.from0 m11) s4)) ?_
 rintro _ w2 ⟨k18, rfl⟩
 refine pu (vb (!(sWin x_w))) wN ?_
 refine mw (vb (!(sWin x_w))) ?_
 rcases bf (sWin x_w) with h20 | h20
 ·iterate 3 refine sk (congrArg not h20) ?_
  refine pk (vb true) wN (congrArg not h20) ?_
  refine n2 ?_
  refine ct (Eq.refl true) ?_
  have hF44 : F_spec_WinMay x_w x_n = false := by simp only [F_spec_WinMay, h20, cond_true, cond_false]
  exact wj (J12 hF44 _ k18)
 have q21 := sWin_t h20
 refine mv (vi x_n) (wS (congrArg not h20)) ?_
 refine cl (wS (congrArg not h20)) (C_spec_l1In w2 x_n 0 281474976710655) ?_
 rintro _ w3 ⟨k22, rfl⟩
 have m23 := (m11.extk k18).extk k22
 refine pu (vb (!(F_spec_l1In x_n 0 281474976710655))) (wS (congrArg not h20)) ?_
 refine pf (vb (!(F_spec_l1In x_n 0 281474976710655))) wN (congrArg not h20) ?_
 refine n2 ?_
 rcases bf (F_spec_l1In x_n 0 281474976710655) with h24 | h24
 ·have q41 := spec_l1In_f h24
  refine ct (congrArg not h24) ?_
  have hF42 : F_spec_WinMay x_w x_n = false := by simp only [F_spec_WinMay, h20, h24, cond_true, cond_false]
  exact wj (J12 hF42 _ (k18.trans k22))
 have q25 := spec_l1In_t h24
 refine cf (congrArg not h24) ?_
 refine y1 ?_
 refine mw (vi x_n) ?_
 refine pu (vp g6 0) wN ?_
 have b26 := ((b10.kp k18).kp k22)
 refine ld (vi x_w.Top) wN isAgg_3 b26 ?_
 refine pu (vb (decide (x_w.Top < x_n))) wN ?_
 refine mw (vb (decide (x_w.Top < x_n))) ?_
 rcases bt (decide (x_w.Top < x_n)) with h27 | h27
 ·have q28 := of_decide_eq_true h27
  iterate 6 refine sk h27 ?_
  refine su ?_
  refine su ?_
  refine su ?_
  refine su ?_
  refine sk h27 ?_
  refine pk (vb true) wN h27 ?_
  refine aw (vb true) ?_
  refine n3 ?_
  refine rt (vb true) ?_
  refine ⟨m23.keep0, ?_⟩
  simp only [F_spec_WinMay, h20, h24, h27, cond_true, cond_false]
  exact rfl
 have q30 := of_decide_eq_false h27
 refine mv (vi x_n) (wS h27) ?_
 refine pu (vp g6 0) (wS h27) ?_
 refine ld (vi x_w.Top) (wS h27) isAgg_3 b26 ?_
 refine cl (wS h27) (C_spec_l8Least w3 x_w.Top (by omega)) ?_
 rintro _ w4 ⟨k31, rfl⟩
 have m32 := m23.extk k31
 refine pu (vb (decide ((F_spec_l8Least x_w.Top) ≤ x_n))) (wS h27) ?_
 refine mv (vb (decide ((F_spec_l8Least x_w.Top) ≤ x_n))) (wS h27) ?_
 rcases bf (decide ((F_spec_l8Least x_w.Top) ≤ x_n)) with h33 | h33
 ·have q39 := of_decide_eq_false h33
  iterate 4 refine sk h33 ?_
  refine pf (vb false) (wS h27) h33 ?_
  refine pf (vb false) wN h27 ?_
  refine aw (vb false) ?_
  refine n3 ?_
  refine rt (vb false) ?_
  refine ⟨m32.keep0, ?_⟩
  simp only [F_spec_WinMay, h20, h24, h27, h33, cond_true, cond_false]
  exact rfl
 have q34 := of_decide_eq_true h33
 have b35 := (b26.kp k31)
 refine lN (L_58 x_w a1 c2) (wS h33) isAgg_58 sizeOf_58 b35 ?_
 refine mv (vi x_n) (wS h33) ?_
 refine cl (wS h33) (C_spec_l8Bit w4 _ x_w (mR_58 (r3.from0 m32) s4) x_n (by first | assumption | omega) (by first | assumption | omega)) ?_
 rintro _ w5 ⟨k36, rfl⟩
 have m37 := m32.extk k36
 refine pu (vb (!(F_spec_l8Bit x_w x_n))) (wS h33) ?_
 refine pk (vb (!(F_spec_l8Bit x_w x_n))) (wS h27) h33 ?_
 refine pf (vb (!(F_spec_l8Bit x_w x_n))) wN h27 ?_
 refine aw (vb (!(F_spec_l8Bit x_w x_n))) ?_
 refine n3 ?_
 refine rt (vb (!(F_spec_l8Bit x_w x_n))) ?_
 refine ⟨m37.keep0, ?_⟩
 simp only [F_spec_WinMay, h20, h24, h27, h33, cond_true, cond_false]
 exact rfl
theorem sMay_t {w : PWin} {n : Int} (h : F_spec_WinMay w n = true) : allW w.Bits = true ∧ w.Bits.length = 32 ∧ -1 ≤ w.Top ∧ w.Top ≤ 281474976710655 ∧ 0 ≤ n ∧ n ≤ 281474976710655 := by
  unfold F_spec_WinMay at h
  cases h1 : sWin w with
  | false => simp only [h1, cond_false] at h; cases h
  | true =>
    cases h2 : F_spec_l1In n 0 281474976710655 with
    | false => simp only [h1, h2, cond_true, cond_false] at h; cases h
    | true =>
      have h3 := sWin_t h1
      have h4 := spec_l1In_t h2
      exact ⟨h3.1, h3.2.1, h3.2.2.1, h3.2.2.2, h4.1, h4.2⟩

def O_58_4 (w : World) (lo : Nat) (v : Value) (x : (PWin) × (Bool)) : Prop := ∃ (a1 : Option Addr) (c1 : Nat), v = .tuple #[.agg #[.int .i64 x.1.Top, .slice a1 x.1.Bits.length c1], .bool x.2] ∧ w.ownsRow lo 3 1 (.slice a1 x.1.Bits.length c1) x.1.Bits.length (x.1.Bits.map iV) ∧ x.1.Bits.length ≤ 1073741824 ∧ Aps [(a1, c1)]
def sAdd (w : PWin) (n : Int) : PWin × Bool := bif F_spec_WinMay w n then ({ Top := bif decide (w.Top < n) then n else w.Top, Bits := addW w.Bits w.Top n : PWin }, true) else (w, false)
theorem C_spec_WinAdd (w0 : World) (v_x_w : Value) (x_w : PWin) (r_x_w : R_58 w0 v_x_w x_w) (x_n : Int)  : Fn Try.prog 144 #[v_x_w, (vi x_n)] w0 (fun v w' => Keep w0 w' ∧ O_58_4 w' w0.heap.size v (sAdd x_w x_n)) := by
 obtain ⟨a1, c2, rfl, r3, s4⟩ := r_x_w
 refine fn_ofS (n := 73) [(va (L_58 x_w a1 c2)), (vi x_n)] Try.func144 rfl rfl ?_
 refine sr ?_
 refine bx (L_58 x_w a1 c2) wN ?_
 intro g6 w1 p7 p8 k9 b10
 refine al [(vi 0), (vs none 0 0)] wN zero_58 ?_
 intro g12 w2 p13 p14 k15 b16
 have m17 := ((Ch.base w0).extk k9).extk k15
 refine aw (vb false) ?_
 refine nx ?_
 have b18 := (b10.kp k15)
 refine lN (L_58 x_w a1 c2) wN isAgg_58 sizeOf_58 b18 ?_
 refine cl wN (C_spec_l8Copy w2 _ x_w (mR_58 (r3.from0 m17) s4)) ?_
 rintro _ w3 ⟨k19, ⟨a20, c21, rfl, o22, s23, ap25⟩⟩
 refine al [(vi 0), (vs none 0 0)] wN zero_58 ?_
 intro g27 w4 p28 p29 k30 b31
 refine sv (L_58 (x_w) a20 c21) wN sizeOf_58 b31 ?_
 intro w5 k33 b34 z35
 have m36 := ((m17.extk k19).extk k30).ext k33 (fun k hk => by subst hk; exact Nat.le_trans (z3 k9 k15 k19) p28)
 refine n4 ?_
 have b37 := (((b18.kp k19).kp k30).ch k33 (Nat.ne_of_lt (Nat.lt_of_lt_of_le p8 (Nat.le_trans (z2 k15 k19) p28))))
 refine lN (L_58 x_w a1 c2) wN isAgg_58 sizeOf_58 b37 ?_
 refine mw (vi x_n) ?_
 refine cl wN (C_spec_WinMay w5 _ x_w (mR_58 (r3.from0 m36) s4) x_n) ?_
 rintro _ w6 ⟨k38, rfl⟩
 have m39 := m36.extk k38
 refine pu (vb (!(F_spec_WinMay x_w x_n))) wN ?_
 refine n2 ?_
 rcases bf (F_spec_WinMay x_w x_n) with h40 | h40
 ·refine ct (congrArg not h40) ?_
  refine sr ?_
  have b293 := (b34.kp k38)
  refine lN (L_58 (x_w) a20 c21) wN isAgg_58 sizeOf_58 b293 ?_
  have b294 := ((((b16.kp k19).kp k30).ch k33 (Nat.ne_of_lt (Nat.lt_of_lt_of_le p14 (Nat.le_trans k19.size p28)))).kp k38)
  refine sv (L_58 (x_w) a20 c21) wN sizeOf_58 b294 ?_
  intro w7 k295 b296 z297
  have m298 := m39.ext k295 (fun k hk => by subst hk; exact Nat.le_trans k9.size p13)
  refine aw (vb false) ?_
  refine n1 ?_
  have o299 := (own_ch (own_kp (own_ch (own_kp o22 k30) k33 (ne2 o22 (p28))) k38) k295 (ne1 o22 (p14)))
  refine ret_2 (.inl rfl) (va (L_58 (x_w) a20 c21)) (vb false) rfl (rv_c (L_58 (x_w) a20 c21) rfl b296 isAgg_58 sizeOf_58) rfl ?_
  refine ⟨m298.keep0, ?_⟩
  have hF300 : sAdd x_w x_n = ((x_w), false) := by simp only [sAdd, h40, cond_true, cond_false]
  rw [hF300]
  exact ⟨_, _, rfl, (own_lo o299 (z2 k9 k15)), s23, ⟨trivial, trivial⟩⟩
 have q41 := sMay_t h40
 refine cf (congrArg not h40) ?_
 refine y1 ?_
 refine aw (vi 0) ?_
 refine n4 ?_
 refine pu (vp g6 0) wN ?_
 have b42 := (b37.kp k38)
 refine ld (vi x_w.Top) wN isAgg_3 b42 ?_
 refine ar (x_w.Top + 1) wN ?_
 refine aw (vi (x_w.Top + 1)) ?_
 refine wl_nil <| wq_then <| wc_block ?_
 have o45 := (own_kp (own_ch (own_kp o22 k30) k33 (ne2 o22 (p28))) k38)
 have hE44 : ((x_w).Bits : List Int) = clrN x_w.Bits (x_w.Top + 1) 0 := by rfl
 have b46 := (b34.kp k38)
 refine wc_loopP [(1, (vi x_n)), (2, (vp g6 0)), (4, (vp g12 0)), (5, (vb false)), (6, (vp g27 0)), (7, (vi ((0 : Nat) : Int))), (8, (vi ((x_w.Top + 1) + ((0 : Nat) : Int))))] ⟨rfl, rfl, rfl, rfl, rfl, (congrArg (Value.int .i64) (show (0 : Int) = ((0 : Nat) : Int) by omega)), (congrArg (Value.int .i64) (show ((x_w.Top + 1) : Int) = ((x_w.Top + 1) + ((0 : Nat) : Int)) by omega)), trivial⟩ (fun e' w' => ∃ (j : Nat) (u43 : Env), e' = pt u43 [(1, (vi x_n)), (2, (vp g6 0)), (4, (vp g12 0)), (5, (vb false)), (6, (vp g27 0)), (7, (vi ((j : Nat) : Int))), (8, (vi ((x_w.Top + 1) + ((j : Nat) : Int))))] ∧ Ch (fun k => w0.heap.size ≤ k) w0 w' ∧ Ch (fun k => w2.heap.size ≤ k) w6 w' ∧ j ≤ 1024 ∧ (x_w.Top + ((j : Nat) : Int) ≤ x_n ∨ j = 0) ∧ World.ownsRow w' w2.heap.size 3 1 (.slice a20 ((x_w).Bits).length c21) ((x_w).Bits).length ((clrN x_w.Bits (x_w.Top + 1) j).map iV) ∧ Blk w' g27 58 [(vi ((x_w).Top)), (vs a20 ((x_w).Bits).length c21)]) (fun e' _ => (1024 - (intOf (e' 7))).toNat) ?_ ?_
 ·exact fun u => ⟨0, u, rfl, m39, (Ch.refl (fun k => w2.heap.size ≤ k) w6), (by omega), (by omega), (by rw [← hE44]; exact o45), b46⟩
 ·rintro _ w7 ⟨j, u43, rfl, m47, k48, i49, i50, o51, hbx6⟩
  have hwl := clrN_len x_w.Bits (x_w.Top + 1) j
  have hwi := wget (clrN_w (l := x_w.Bits) (sMay_t (w := x_w) (n := x_n) (by assumption)).1 (x_w.Top + 1) j) ((((x_w.Top + 1) + ((j : Nat) : Int)) % 1024) / 32).toNat
  have hwn := wget (clrN_w (l := x_w.Bits) (sMay_t (w := x_w) (n := x_n) (by assumption)).1 (x_w.Top + 1) j) ((x_n % 1024) / 32).toNat
  refine wc_seq <| sr ?_
  refine mw (vi ((x_w.Top + 1) + ((j : Nat) : Int))) ?_
  refine mw (vi x_n) ?_
  refine pu (vb (decide (((x_w.Top + 1) + ((j : Nat) : Int)) ≤ x_n))) wN ?_
  refine mw (vb (decide (((x_w.Top + 1) + ((j : Nat) : Int)) ≤ x_n))) ?_
  rcases bf (decide (((x_w.Top + 1) + ((j : Nat) : Int)) ≤ x_n)) with h52 | h52
  ·have q205 := of_decide_eq_false h52
   iterate 2 refine sk h52 ?_
   refine pf (vb false) wN h52 ?_
   refine n2 ?_
   refine cf (Eq.refl false) ?_
   refine wc_exit <| wq_then_exit <| wq_then_exit <| wq_blk_exit <| wq_then <| sr ?_
   refine mw (vi x_n) ?_
   refine wl_rem x_n 1024 wN rfl rfl (by kernel_rfl) (by first | omega | assumption) ?_
   refine aw (vi (x_n % 1024)) ?_
   refine wl_nil <| wq_then <| wc_seq ?_
   refine wc_draw ([(51, [], [], (fun _ v _ => v = (vp g27 1))), (52, [], [0], (fun _ v _ => v = (vs a20 ((x_w).Bits).length c21))), (53, [], [], (fun _ v _ => v = (vi (x_n % 1024)))), (54, [], [2], (fun _ v _ => v = (vi ((x_n % 1024) / 32)))), (55, [], [], (fun _ v _ => v = (vp g27 1))), (56, [], [4], (fun _ v _ => v = (vs a20 ((x_w).Bits).length c21))), (57, [], [], (fun _ v _ => v = (vi (x_n % 1024)))), (58, [], [6], (fun _ v _ => v = (vi ((x_n % 1024) / 32)))), (59, [], [4, 5, 6, 7], (fun _ v _ => v = (ve (vs a20 ((x_w).Bits).length c21) ((((x_n % 1024) / 32)).toNat * 1)))), (60, [], [4, 5, 6, 7, 8], (fun _ v _ => v = (vi ((clrN x_w.Bits (x_w.Top + 1) j).getD (((x_n % 1024) / 32)).toNat 0)))), (61, [], [], (fun _ v _ => v = (vi (x_n % 1024)))), (62, [], [10], (fun _ v _ => v = (vi ((x_n % 1024) % 32)))), (63, [], [10, 11], (fun _ v _ => v = (vi (1 * (2 : Int) ^ (((x_n % 1024) % 32)).toNat)))), (64, [], [4, 5, 6, 7, 8, 9, 10, 11, 12], (fun _ v _ => v = (vi (orI ((clrN x_w.Bits (x_w.Top + 1) j).getD (((x_n % 1024) / 32)).toNat 0) (1 * (2 : Int) ^ (((x_n % 1024) % 32)).toNat)))))] : GV) mixed rfl (by kernel_rfl) (by kernel_rfl) ?_ ?_ ?_
   ·exact ⟨hV, hE, ⟨hV, hE, ⟨hV, hE, ⟨hV, hE, ⟨hV, hE, ⟨hV, hE, ⟨hV, hE, ⟨hV, hE, ⟨hV, hE, ⟨hV, hE, ⟨hV, hE, ⟨hV, hE, ⟨hV, hE, ⟨hV, hE, trivial⟩⟩⟩⟩⟩⟩⟩⟩⟩⟩⟩⟩⟩⟩
   ·refine ⟨?_, ⟨?_, ⟨?_, ⟨?_, ⟨?_, ⟨?_, ⟨?_, ⟨?_, ⟨?_, ⟨?_, ⟨?_, ⟨?_, ⟨?_, ⟨?_, trivial⟩⟩⟩⟩⟩⟩⟩⟩⟩⟩⟩⟩⟩⟩
    ·intro w8 k213
     rintro _ _ _ _ _ _ _ _ _ _ _ _ _ _
     show WL _ _ _ _ _ _ _
     refine pu (vp g27 1) wN ?_
     exact f2
    ·intro w8 k215
     rintro _ rfl _ _ _ _ _ _ _ _ _ _ _ _ _
     show WL _ _ _ _ _ _ _
     have b217 := (hbx6.kp k215)
     refine ld (vs a20 ((x_w).Bits).length c21) wN isAgg_56 b217 ?_
     exact f2
    ·intro w8 k218
     rintro _ _ _ _ _ _ _ _ _ _ _ _ _ _
     show WL _ _ _ _ _ _ _
     refine mw (vi (x_n % 1024)) ?_
     exact f2
    ·intro w8 k220
     rintro _ _ _ rfl _ _ _ _ _ _ _ _ _ _ _
     show WL _ _ _ _ _ _ _
     refine wl_quo (x_n % 1024) 32 wN rfl rfl (by kernel_rfl) (by omega) (by omega) (by omega) ?_
     exact f2
    ·intro w8 k222
     rintro _ _ _ _ _ _ _ _ _ _ _ _ _ _
     show WL _ _ _ _ _ _ _
     refine pu (vp g27 1) wN ?_
     exact f2
    ·intro w8 k224
     rintro _ _ _ _ _ rfl _ _ _ _ _ _ _ _ _
     show WL _ _ _ _ _ _ _
     have b226 := (hbx6.kp k224)
     refine ld (vs a20 ((x_w).Bits).length c21) wN isAgg_56 b226 ?_
     exact f2
    ·intro w8 k227
     rintro _ _ _ _ _ _ _ _ _ _ _ _ _ _
     show WL _ _ _ _ _ _ _
     refine mw (vi (x_n % 1024)) ?_
     exact f2
    ·intro w8 k229
     rintro _ _ _ _ _ _ _ rfl _ _ _ _ _ _ _
     show WL _ _ _ _ _ _ _
     refine wl_quo (x_n % 1024) 32 wN rfl rfl (by kernel_rfl) (by omega) (by omega) (by omega) ?_
     exact f2
    ·intro w8 k231
     rintro _ _ _ _ _ rfl _ rfl _ rfl _ rfl _ _ _ _ _ _
     show WL _ _ _ _ _ _ _
     have o234 := (own_kp o51 k231)
     refine ix wN ((x_n % 1024) / 32) slTy_56 (Rd.of_own o234) ?_
     exact f2
    ·intro w8 k235
     rintro _ _ _ _ _ rfl _ rfl _ rfl _ rfl _ rfl _ _ _ _ _
     show WL _ _ _ _ _ _ _
     have o239 := (own_kp o51 k235)
     refine ei (x := (clrN x_w.Bits (x_w.Top + 1) j)) ((((x_n % 1024) / 32)).toNat) wN isAgg_3 (Rd.of_own o239) ?_
     exact f2
    ·intro w8 k240
     rintro _ _ _ _ _ _ _ _ _ _ _ _ _ _
     show WL _ _ _ _ _ _ _
     refine mw (vi (x_n % 1024)) ?_
     exact f2
    ·intro w8 k242
     rintro _ _ _ _ _ _ _ _ _ _ _ rfl _ _ _
     show WL _ _ _ _ _ _ _
     refine wl_rem (x_n % 1024) 32 wN rfl rfl (by kernel_rfl) (by first | omega | assumption) ?_
     exact f2
    ·intro w8 k244
     rintro _ _ _ _ _ _ _ _ _ _ _ rfl _ rfl _ _
     show WL _ _ _ _ _ _ _
     refine wl_shl 1 ((x_n % 1024) % 32) wN rfl rfl rfl rfl rfl (by omega) (by omega) (by omega) (by omega) ?_
     have q246 := shl1_b (((x_n % 1024) % 32)).toNat (by omega)
     exact f2
    ·intro w8 k247
     rintro _ _ _ _ _ rfl _ rfl _ rfl _ rfl _ rfl _ rfl _ rfl _ rfl _ rfl
     have q252 := shl1_b (((x_n % 1024) % 32)).toNat (by omega)
     intro _
     show WL _ _ _ _ _ _ _
     refine wl_or ((clrN x_w.Bits (x_w.Top + 1) j).getD (((x_n % 1024) / 32)).toNat 0) (1 * (2 : Int) ^ (((x_n % 1024) % 32)).toNat) wN rfl rfl (by kernel_rfl) (by omega) (by omega) (by omega) (by omega) ?_
     have q253 := orI_b (a := ((clrN x_w.Bits (x_w.Top + 1) j).getD (((x_n % 1024) / 32)).toNat 0)) (b := (1 * (2 : Int) ^ (((x_n % 1024) % 32)).toNat)) (by omega) (by omega)
     exact f2
   ·intro w8 k254
    rintro _ rfl _ rfl _ rfl _ rfl _ rfl _ rfl _ rfl _ rfl _ rfl _ rfl _ rfl _ rfl _ rfl
    have q260 := shl1_b (((x_n % 1024) % 32)).toNat (by omega)
    rintro _ rfl
    have q261 := orI_b (a := ((clrN x_w.Bits (x_w.Top + 1) j).getD (((x_n % 1024) / 32)).toNat 0)) (b := (1 * (2 : Int) ^ (((x_n % 1024) % 32)).toNat)) (by omega) (by omega)
    show WL _ _ _ _ _ _ _
    have o262 := (own_kp o51 k254)
    refine ix wN ((x_n % 1024) / 32) slTy_56 (Rd.of_own o262) ?_
    refine wl_storeI (clrN x_w.Bits (x_w.Top + 1) j) ((((x_n % 1024) / 32)).toNat) ((orI ((clrN x_w.Bits (x_w.Top + 1) j).getD (((x_n % 1024) / 32)).toNat 0) (1 * (2 : Int) ^ (((x_n % 1024) % 32)).toNat))) wN rfl rfl rfl (by simp) rfl sizeOf_3 o262 (by first | omega | (simp only [List.length_append, List.length_replicate, List.length_take, List.length_set, List.length_map]; omega)) ?_
    intro w9 k263 o264
    have m265 := (m47.extk k254).ext k263 (fun k hk => Nat.le_trans (z2 k9 k15) (own_lt o22 k hk).1)
    refine n4 ?_
    refine mw (vi x_n) ?_
    refine pu (vp g6 0) wN ?_
    have b266 := (((b42.ch k48 (Nat.not_le.2 (Nat.lt_of_lt_of_le p8 k15.size))).kp k254).ch k263 (fun h => by have := (own_lt o22 _ h).1; have := Nat.lt_of_lt_of_le p8 k15.size; omega))
    refine ld (vi x_w.Top) wN isAgg_3 b266 ?_
    refine pu (vb (decide (x_w.Top < x_n))) wN ?_
    refine n2 ?_
    rcases bf (decide (x_w.Top < x_n)) with h267 | h267
    ·have q282 := of_decide_eq_false h267
     refine cf h267 ?_
     refine y1 ?_
     have b283 := ((hbx6.kp k254).ch k263 (fun h => by have := (own_lt o22 _ h).2; have := Nat.le_trans (Nat.le_refl w3.heap.size) p28; omega))
     refine lN [(vi ((x_w).Top)), (vs a20 ((x_w).Bits).length c21)] wN isAgg_58 sizeOf_58 b283 ?_
     have b284 := (((((((b16.kp k19).kp k30).ch k33 (Nat.ne_of_lt (Nat.lt_of_lt_of_le p14 (Nat.le_trans k19.size p28)))).kp k38).ch k48 (Nat.not_le.2 (p14))).kp k254).ch k263 (fun h => by have := (own_lt o22 _ h).1; have := Nat.lt_of_lt_of_le p14 (Nat.le_refl w2.heap.size); omega))
     refine sv [(vi ((x_w).Top)), (vs a20 ((x_w).Bits).length c21)] wN sizeOf_58 b284 ?_
     intro w10 k285 b286 z287
     have m288 := m265.ext k285 (fun k hk => by subst hk; exact Nat.le_trans k9.size p13)
     refine aw (vb true) ?_
     refine n3 ?_
     have o289 := (own_ch o264 k285 (ne1 o22 (p14)))
     refine ret_2 (.inl rfl) (va [(vi ((x_w).Top)), (vs a20 ((x_w).Bits).length c21)]) (vb true) rfl (rv_c [(vi ((x_w).Top)), (vs a20 ((x_w).Bits).length c21)] rfl b286 isAgg_58 sizeOf_58) rfl ?_
     refine ⟨m288.keep0, ?_⟩
     have hF290 : sAdd x_w x_n = ({ Top := (x_w).Top, Bits := ((clrN x_w.Bits (x_w.Top + 1) j).set ((((x_n % 1024) / 32)).toNat) (orI ((clrN x_w.Bits (x_w.Top + 1) j).getD (((x_n % 1024) / 32)).toNat 0) (1 * (2 : Int) ^ (((x_n % 1024) % 32)).toNat))) : PWin }, true) := by have hz := addW_spec (l := x_w.Bits) (top := x_w.Top) (n := x_n) (j := j) (sMay_t (w := x_w) (n := x_n) (by assumption)).1 (sMay_t (w := x_w) (n := x_n) (by assumption)).2.1 (by omega) (by omega) (by omega) (by omega); simp only [sAdd, h40, h52, h267, cond_true, cond_false]; rw [← hz]; first | rfl | (rw [setS]) | (rw [← setS])
     rw [hF290]
     have hN291 : ((x_w).Bits).length = (((clrN x_w.Bits (x_w.Top + 1) j).set ((((x_n % 1024) / 32)).toNat) (orI ((clrN x_w.Bits (x_w.Top + 1) j).getD (((x_n % 1024) / 32)).toNat 0) (1 * (2 : Int) ^ (((x_n % 1024) % 32)).toNat)))).length := by first | (simp only [List.length_append, List.length_take, List.length_replicate, List.length_set, List.length_map]; done) | (simp only [List.length_append, List.length_take, List.length_replicate, List.length_set, List.length_map]; omega)
     rw [hN291] at o289 ⊢
     exact ⟨_, _, rfl, (own_lo o289 (z2 k9 k15)), (by rw [← hN291]; exact s23), ⟨trivial, trivial⟩⟩
    have q268 := of_decide_eq_true h267
    refine ct h267 ?_
    refine wc_region ?_
    refine mw (vi x_n) ?_
    refine pu (vp g27 0) wN ?_
    have b269 := ((hbx6.kp k254).ch k263 (fun h => by have := (own_lt o22 _ h).2; have := Nat.le_trans (Nat.le_refl w3.heap.size) p28; omega))
    refine st (vi x_n) [(vi x_n)] [(vi x_n), (vs a20 ((x_w).Bits).length c21)] wN sizeOf_3 b269 ?_
    intro w10 k270 b271 z272
    have m273 := m265.ext k270 (fun k hk => by subst hk; exact Nat.le_trans (z3 k9 k15 k19) p28)
    refine nx ?_
    refine lN [(vi x_n), (vs a20 ((x_w).Bits).length c21)] wN isAgg_58 sizeOf_58 b271 ?_
    have b274 := ((((((((b16.kp k19).kp k30).ch k33 (Nat.ne_of_lt (Nat.lt_of_lt_of_le p14 (Nat.le_trans k19.size p28)))).kp k38).ch k48 (Nat.not_le.2 (p14))).kp k254).ch k263 (fun h => by have := (own_lt o22 _ h).1; have := Nat.lt_of_lt_of_le p14 (Nat.le_refl w2.heap.size); omega)).ch k270 (Nat.ne_of_lt (Nat.lt_of_lt_of_le p14 (Nat.le_trans k19.size p28))))
    refine sv [(vi x_n), (vs a20 ((x_w).Bits).length c21)] wN sizeOf_58 b274 ?_
    intro w11 k275 b276 z277
    have m278 := m273.ext k275 (fun k hk => by subst hk; exact Nat.le_trans k9.size p13)
    refine aw (vb true) ?_
    refine n3 ?_
    have o279 := (own_ch (own_ch o264 k270 (ne2 o22 (p28))) k275 (ne1 o22 (p14)))
    refine ret_2 (.inl rfl) (va [(vi x_n), (vs a20 ((x_w).Bits).length c21)]) (vb true) rfl (rv_c [(vi x_n), (vs a20 ((x_w).Bits).length c21)] rfl b276 isAgg_58 sizeOf_58) rfl ?_
    refine ⟨m278.keep0, ?_⟩
    have hF280 : sAdd x_w x_n = ({ Top := x_n, Bits := ((clrN x_w.Bits (x_w.Top + 1) j).set ((((x_n % 1024) / 32)).toNat) (orI ((clrN x_w.Bits (x_w.Top + 1) j).getD (((x_n % 1024) / 32)).toNat 0) (1 * (2 : Int) ^ (((x_n % 1024) % 32)).toNat))) : PWin }, true) := by have hz := addW_spec (l := x_w.Bits) (top := x_w.Top) (n := x_n) (j := j) (sMay_t (w := x_w) (n := x_n) (by assumption)).1 (sMay_t (w := x_w) (n := x_n) (by assumption)).2.1 (by omega) (by omega) (by omega) (by omega); simp only [sAdd, h40, h52, h267, cond_true, cond_false]; rw [← hz]; first | rfl | (rw [setS]) | (rw [← setS])
    rw [hF280]
    have hN281 : ((x_w).Bits).length = (((clrN x_w.Bits (x_w.Top + 1) j).set ((((x_n % 1024) / 32)).toNat) (orI ((clrN x_w.Bits (x_w.Top + 1) j).getD (((x_n % 1024) / 32)).toNat 0) (1 * (2 : Int) ^ (((x_n % 1024) % 32)).toNat)))).length := by first | (simp only [List.length_append, List.length_take, List.length_replicate, List.length_set, List.length_map]; done) | (simp only [List.length_append, List.length_take, List.length_replicate, List.length_set, List.length_map]; omega)
    rw [hN281] at o279 ⊢
    exact ⟨_, _, rfl, (own_lo o279 (z2 k9 k15)), (by rw [← hN281]; exact s23), ⟨trivial, trivial⟩⟩
  have q53 := of_decide_eq_true h52
  refine mv (vi ((j : Nat) : Int)) (wS h52) ?_
  refine pu (vb (decide (((j : Nat) : Int) < 1024))) (wS h52) ?_
  refine pk (vb (decide (((j : Nat) : Int) < 1024))) wN h52 ?_
  refine n2 ?_
  rcases bt (decide (((j : Nat) : Int) < 1024)) with h54 | h54
  ·have q55 := of_decide_eq_true h54
   refine ct h54 ?_
   refine wc_skip <| wq_then <| wc_seq <| wc_block <| sr ?_
   refine mw (vi ((x_w.Top + 1) + ((j : Nat) : Int))) ?_
   refine wl_rem ((x_w.Top + 1) + ((j : Nat) : Int)) 1024 wN rfl rfl (by kernel_rfl) (by first | omega | assumption) ?_
   refine aw (vi (((x_w.Top + 1) + ((j : Nat) : Int)) % 1024)) ?_
   refine wl_nil <| wq_then <| wc_seq ?_
   refine wc_draw ([(32, [], [], (fun _ v _ => v = (vp g27 1))), (33, [], [0], (fun _ v _ => v = (vs a20 ((x_w).Bits).length c21))), (34, [], [], (fun _ v _ => v = (vi (((x_w.Top + 1) + ((j : Nat) : Int)) % 1024)))), (35, [], [2], (fun _ v _ => v = (vi ((((x_w.Top + 1) + ((j : Nat) : Int)) % 1024) / 32)))), (36, [], [], (fun _ v _ => v = (vp g27 1))), (37, [], [4], (fun _ v _ => v = (vs a20 ((x_w).Bits).length c21))), (38, [], [], (fun _ v _ => v = (vi (((x_w.Top + 1) + ((j : Nat) : Int)) % 1024)))), (39, [], [6], (fun _ v _ => v = (vi ((((x_w.Top + 1) + ((j : Nat) : Int)) % 1024) / 32)))), (40, [], [4, 5, 6, 7], (fun _ v _ => v = (ve (vs a20 ((x_w).Bits).length c21) ((((((x_w.Top + 1) + ((j : Nat) : Int)) % 1024) / 32)).toNat * 1)))), (41, [], [4, 5, 6, 7, 8], (fun _ v _ => v = (vi ((clrN x_w.Bits (x_w.Top + 1) j).getD (((((x_w.Top + 1) + ((j : Nat) : Int)) % 1024) / 32)).toNat 0)))), (42, [], [], (fun _ v _ => v = (vi (((x_w.Top + 1) + ((j : Nat) : Int)) % 1024)))), (43, [], [10], (fun _ v _ => v = (vi ((((x_w.Top + 1) + ((j : Nat) : Int)) % 1024) % 32)))), (44, [], [10, 11], (fun _ v _ => v = (vi (1 * (2 : Int) ^ (((((x_w.Top + 1) + ((j : Nat) : Int)) % 1024) % 32)).toNat)))), (45, [], [4, 5, 6, 7, 8, 9, 10, 11, 12], (fun _ v _ => v = (vi (andnI ((clrN x_w.Bits (x_w.Top + 1) j).getD (((((x_w.Top + 1) + ((j : Nat) : Int)) % 1024) / 32)).toNat 0) (1 * (2 : Int) ^ (((((x_w.Top + 1) + ((j : Nat) : Int)) % 1024) % 32)).toNat)))))] : GV) mixed rfl (by kernel_rfl) (by kernel_rfl) ?_ ?_ ?_
   ·exact ⟨hV, hE, ⟨hV, hE, ⟨hV, hE, ⟨hV, hE, ⟨hV, hE, ⟨hV, hE, ⟨hV, hE, ⟨hV, hE, ⟨hV, hE, ⟨hV, hE, ⟨hV, hE, ⟨hV, hE, ⟨hV, hE, ⟨hV, hE, trivial⟩⟩⟩⟩⟩⟩⟩⟩⟩⟩⟩⟩⟩⟩
   ·refine ⟨?_, ⟨?_, ⟨?_, ⟨?_, ⟨?_, ⟨?_, ⟨?_, ⟨?_, ⟨?_, ⟨?_, ⟨?_, ⟨?_, ⟨?_, ⟨?_, trivial⟩⟩⟩⟩⟩⟩⟩⟩⟩⟩⟩⟩⟩⟩
    ·intro w8 k63
     rintro _ _ _ _ _ _ _ _ _ _ _ _ _ _
     show WL _ _ _ _ _ _ _
     refine pu (vp g27 1) wN ?_
     exact f2
    ·intro w8 k65
     rintro _ rfl _ _ _ _ _ _ _ _ _ _ _ _ _
     show WL _ _ _ _ _ _ _
     have b67 := (hbx6.kp k65)
     refine ld (vs a20 ((x_w).Bits).length c21) wN isAgg_56 b67 ?_
     exact f2
    ·intro w8 k68
     rintro _ _ _ _ _ _ _ _ _ _ _ _ _ _
     show WL _ _ _ _ _ _ _
     refine mw (vi (((x_w.Top + 1) + ((j : Nat) : Int)) % 1024)) ?_
     exact f2
    ·intro w8 k70
     rintro _ _ _ rfl _ _ _ _ _ _ _ _ _ _ _
     show WL _ _ _ _ _ _ _
     refine wl_quo (((x_w.Top + 1) + ((j : Nat) : Int)) % 1024) 32 wN rfl rfl (by kernel_rfl) (by omega) (by omega) (by omega) ?_
     exact f2
    ·intro w8 k72
     rintro _ _ _ _ _ _ _ _ _ _ _ _ _ _
     show WL _ _ _ _ _ _ _
     refine pu (vp g27 1) wN ?_
     exact f2
    ·intro w8 k74
     rintro _ _ _ _ _ rfl _ _ _ _ _ _ _ _ _
     show WL _ _ _ _ _ _ _
     have b76 := (hbx6.kp k74)
     refine ld (vs a20 ((x_w).Bits).length c21) wN isAgg_56 b76 ?_
     exact f2
    ·intro w8 k77
     rintro _ _ _ _ _ _ _ _ _ _ _ _ _ _
     show WL _ _ _ _ _ _ _
     refine mw (vi (((x_w.Top + 1) + ((j : Nat) : Int)) % 1024)) ?_
     exact f2
    ·intro w8 k79
     rintro _ _ _ _ _ _ _ rfl _ _ _ _ _ _ _
     show WL _ _ _ _ _ _ _
     refine wl_quo (((x_w.Top + 1) + ((j : Nat) : Int)) % 1024) 32 wN rfl rfl (by kernel_rfl) (by omega) (by omega) (by omega) ?_
     exact f2
    ·intro w8 k81
     rintro _ _ _ _ _ rfl _ rfl _ rfl _ rfl _ _ _ _ _ _
     show WL _ _ _ _ _ _ _
     have o84 := (own_kp o51 k81)
     refine ix wN ((((x_w.Top + 1) + ((j : Nat) : Int)) % 1024) / 32) slTy_56 (Rd.of_own o84) ?_
     exact f2
    ·intro w8 k85
     rintro _ _ _ _ _ rfl _ rfl _ rfl _ rfl _ rfl _ _ _ _ _
     show WL _ _ _ _ _ _ _
     have o89 := (own_kp o51 k85)
     refine ei (x := (clrN x_w.Bits (x_w.Top + 1) j)) ((((((x_w.Top + 1) + ((j : Nat) : Int)) % 1024) / 32)).toNat) wN isAgg_3 (Rd.of_own o89) ?_
     exact f2
    ·intro w8 k90
     rintro _ _ _ _ _ _ _ _ _ _ _ _ _ _
     show WL _ _ _ _ _ _ _
     refine mw (vi (((x_w.Top + 1) + ((j : Nat) : Int)) % 1024)) ?_
     exact f2
    ·intro w8 k92
     rintro _ _ _ _ _ _ _ _ _ _ _ rfl _ _ _
     show WL _ _ _ _ _ _ _
     refine wl_rem (((x_w.Top + 1) + ((j : Nat) : Int)) % 1024) 32 wN rfl rfl (by kernel_rfl) (by first | omega | assumption) ?_
     exact f2
    ·intro w8 k94
     rintro _ _ _ _ _ _ _ _ _ _ _ rfl _ rfl _ _
     show WL _ _ _ _ _ _ _
     refine wl_shl 1 ((((x_w.Top + 1) + ((j : Nat) : Int)) % 1024) % 32) wN rfl rfl rfl rfl rfl (by omega) (by omega) (by omega) (by omega) ?_
     have q96 := shl1_b (((((x_w.Top + 1) + ((j : Nat) : Int)) % 1024) % 32)).toNat (by omega)
     exact f2
    ·intro w8 k97
     rintro _ _ _ _ _ rfl _ rfl _ rfl _ rfl _ rfl _ rfl _ rfl _ rfl _ rfl
     have q102 := shl1_b (((((x_w.Top + 1) + ((j : Nat) : Int)) % 1024) % 32)).toNat (by omega)
     intro _
     show WL _ _ _ _ _ _ _
     refine wl_andn ((clrN x_w.Bits (x_w.Top + 1) j).getD (((((x_w.Top + 1) + ((j : Nat) : Int)) % 1024) / 32)).toNat 0) (1 * (2 : Int) ^ (((((x_w.Top + 1) + ((j : Nat) : Int)) % 1024) % 32)).toNat) wN rfl rfl (by kernel_rfl) (by omega) (by omega) (by omega) (by omega) ?_
     have q103 := andnI_b (a := ((clrN x_w.Bits (x_w.Top + 1) j).getD (((((x_w.Top + 1) + ((j : Nat) : Int)) % 1024) / 32)).toNat 0)) (b := (1 * (2 : Int) ^ (((((x_w.Top + 1) + ((j : Nat) : Int)) % 1024) % 32)).toNat)) (by omega)
     exact f2
   ·intro w8 k104
    rintro _ rfl _ rfl _ rfl _ rfl _ rfl _ rfl _ rfl _ rfl _ rfl _ rfl _ rfl _ rfl _ rfl
    have q110 := shl1_b (((((x_w.Top + 1) + ((j : Nat) : Int)) % 1024) % 32)).toNat (by omega)
    rintro _ rfl
    have q111 := andnI_b (a := ((clrN x_w.Bits (x_w.Top + 1) j).getD (((((x_w.Top + 1) + ((j : Nat) : Int)) % 1024) / 32)).toNat 0)) (b := (1 * (2 : Int) ^ (((((x_w.Top + 1) + ((j : Nat) : Int)) % 1024) % 32)).toNat)) (by omega)
    show WL _ _ _ _ _ _ _
    have o112 := (own_kp o51 k104)
    refine ix wN ((((x_w.Top + 1) + ((j : Nat) : Int)) % 1024) / 32) slTy_56 (Rd.of_own o112) ?_
    refine wl_storeI (clrN x_w.Bits (x_w.Top + 1) j) ((((((x_w.Top + 1) + ((j : Nat) : Int)) % 1024) / 32)).toNat) ((andnI ((clrN x_w.Bits (x_w.Top + 1) j).getD (((((x_w.Top + 1) + ((j : Nat) : Int)) % 1024) / 32)).toNat 0) (1 * (2 : Int) ^ (((((x_w.Top + 1) + ((j : Nat) : Int)) % 1024) % 32)).toNat))) wN rfl rfl rfl (by simp) rfl sizeOf_3 o112 (by first | omega | (simp only [List.length_append, List.length_replicate, List.length_take, List.length_set, List.length_map]; omega)) ?_
    intro w9 k113 o114
    have m115 := (m47.extk k104).ext k113 (fun k hk => Nat.le_trans (z2 k9 k15) (own_lt o22 k hk).1)
    refine wl_nil <| wq_then <| wc_region ?_
    refine mw (vi ((j : Nat) : Int)) ?_
    refine ar (((j : Nat) : Int) + 1) wN ?_
    refine aw (vi (((j : Nat) : Int) + 1)) ?_
    refine wl_nil <| wq_blk_normal <| wq_then <| wc_region ?_
    refine mw (vi ((x_w.Top + 1) + ((j : Nat) : Int))) ?_
    refine ar (((x_w.Top + 1) + ((j : Nat) : Int)) + 1) wN ?_
    refine aw (vi (((x_w.Top + 1) + ((j : Nat) : Int)) + 1)) ?_
    refine wl_nil ?_
    have hE116 : (((clrN x_w.Bits (x_w.Top + 1) j).set ((((((x_w.Top + 1) + ((j : Nat) : Int)) % 1024) / 32)).toNat) (andnI ((clrN x_w.Bits (x_w.Top + 1) j).getD (((((x_w.Top + 1) + ((j : Nat) : Int)) % 1024) / 32)).toNat 0) (1 * (2 : Int) ^ (((((x_w.Top + 1) + ((j : Nat) : Int)) % 1024) % 32)).toNat))) : List Int) = clrN x_w.Bits (x_w.Top + 1) (j + 1) := by first | rfl | exact clrS _ _
    have b117 := ((hbx6.kp k104).ch k113 (fun h => by have := (own_lt o22 _ h).2; have := Nat.le_trans (Nat.le_refl w3.heap.size) p28; omega))
    refine wq_loopP (w0 := w7) [(1, (vi x_n)), (2, (vp g6 0)), (4, (vp g12 0)), (5, (vb false)), (6, (vp g27 0)), (7, (vi (((j + 1) : Nat) : Int))), (8, (vi ((x_w.Top + 1) + (((j + 1) : Nat) : Int))))] ?_ ?_ ?_
    · exact ⟨rfl, rfl, rfl, rfl, rfl, (congrArg (Value.int .i64) (show ((((j : Nat) : Int) + 1) : Int) = (((j + 1) : Nat) : Int) by omega)), (congrArg (Value.int .i64) (show ((((x_w.Top + 1) + ((j : Nat) : Int)) + 1) : Int) = ((x_w.Top + 1) + (((j + 1) : Nat) : Int)) by omega)), trivial⟩
    · exact fun u => ⟨(j + 1), u, rfl, m115, ((((Ch.refl (fun k => w2.heap.size ≤ k) w6).ext k48 (fun k hk => hk)).extk k104).ext k113 (fun k hk => Nat.le_trans (Nat.le_refl w2.heap.size) (own_lt o22 k hk).1)), (by omega), (by omega), (by rw [← hE116]; exact o114), b117⟩
    · show (1024 - (((j + 1) : Nat) : Int)).toNat < (1024 - ((j : Nat) : Int)).toNat; omega
  have q118 := of_decide_eq_false h54
  refine cf h54 ?_
  refine wc_exit <| wq_then_exit <| wq_then_exit <| wq_blk_exit <| wq_then <| sr ?_
  refine mw (vi x_n) ?_
  refine wl_rem x_n 1024 wN rfl rfl (by kernel_rfl) (by first | omega | assumption) ?_
  refine aw (vi (x_n % 1024)) ?_
  refine wl_nil <| wq_then <| wc_seq ?_
  refine wc_draw ([(51, [], [], (fun _ v _ => v = (vp g27 1))), (52, [], [0], (fun _ v _ => v = (vs a20 ((x_w).Bits).length c21))), (53, [], [], (fun _ v _ => v = (vi (x_n % 1024)))), (54, [], [2], (fun _ v _ => v = (vi ((x_n % 1024) / 32)))), (55, [], [], (fun _ v _ => v = (vp g27 1))), (56, [], [4], (fun _ v _ => v = (vs a20 ((x_w).Bits).length c21))), (57, [], [], (fun _ v _ => v = (vi (x_n % 1024)))), (58, [], [6], (fun _ v _ => v = (vi ((x_n % 1024) / 32)))), (59, [], [4, 5, 6, 7], (fun _ v _ => v = (ve (vs a20 ((x_w).Bits).length c21) ((((x_n % 1024) / 32)).toNat * 1)))), (60, [], [4, 5, 6, 7, 8], (fun _ v _ => v = (vi ((clrN x_w.Bits (x_w.Top + 1) j).getD (((x_n % 1024) / 32)).toNat 0)))), (61, [], [], (fun _ v _ => v = (vi (x_n % 1024)))), (62, [], [10], (fun _ v _ => v = (vi ((x_n % 1024) % 32)))), (63, [], [10, 11], (fun _ v _ => v = (vi (1 * (2 : Int) ^ (((x_n % 1024) % 32)).toNat)))), (64, [], [4, 5, 6, 7, 8, 9, 10, 11, 12], (fun _ v _ => v = (vi (orI ((clrN x_w.Bits (x_w.Top + 1) j).getD (((x_n % 1024) / 32)).toNat 0) (1 * (2 : Int) ^ (((x_n % 1024) % 32)).toNat)))))] : GV) mixed rfl (by kernel_rfl) (by kernel_rfl) ?_ ?_ ?_
  ·exact ⟨hV, hE, ⟨hV, hE, ⟨hV, hE, ⟨hV, hE, ⟨hV, hE, ⟨hV, hE, ⟨hV, hE, ⟨hV, hE, ⟨hV, hE, ⟨hV, hE, ⟨hV, hE, ⟨hV, hE, ⟨hV, hE, ⟨hV, hE, trivial⟩⟩⟩⟩⟩⟩⟩⟩⟩⟩⟩⟩⟩⟩
  ·refine ⟨?_, ⟨?_, ⟨?_, ⟨?_, ⟨?_, ⟨?_, ⟨?_, ⟨?_, ⟨?_, ⟨?_, ⟨?_, ⟨?_, ⟨?_, ⟨?_, trivial⟩⟩⟩⟩⟩⟩⟩⟩⟩⟩⟩⟩⟩⟩
   ·intro w8 k126
    rintro _ _ _ _ _ _ _ _ _ _ _ _ _ _
    show WL _ _ _ _ _ _ _
    refine pu (vp g27 1) wN ?_
    exact f2
   ·intro w8 k128
    rintro _ rfl _ _ _ _ _ _ _ _ _ _ _ _ _
    show WL _ _ _ _ _ _ _
    have b130 := (hbx6.kp k128)
    refine ld (vs a20 ((x_w).Bits).length c21) wN isAgg_56 b130 ?_
    exact f2
   ·intro w8 k131
    rintro _ _ _ _ _ _ _ _ _ _ _ _ _ _
    show WL _ _ _ _ _ _ _
    refine mw (vi (x_n % 1024)) ?_
    exact f2
   ·intro w8 k133
    rintro _ _ _ rfl _ _ _ _ _ _ _ _ _ _ _
    show WL _ _ _ _ _ _ _
    refine wl_quo (x_n % 1024) 32 wN rfl rfl (by kernel_rfl) (by omega) (by omega) (by omega) ?_
    exact f2
   ·intro w8 k135
    rintro _ _ _ _ _ _ _ _ _ _ _ _ _ _
    show WL _ _ _ _ _ _ _
    refine pu (vp g27 1) wN ?_
    exact f2
   ·intro w8 k137
    rintro _ _ _ _ _ rfl _ _ _ _ _ _ _ _ _
    show WL _ _ _ _ _ _ _
    have b139 := (hbx6.kp k137)
    refine ld (vs a20 ((x_w).Bits).length c21) wN isAgg_56 b139 ?_
    exact f2
   ·intro w8 k140
    rintro _ _ _ _ _ _ _ _ _ _ _ _ _ _
    show WL _ _ _ _ _ _ _
    refine mw (vi (x_n % 1024)) ?_
    exact f2
   ·intro w8 k142
    rintro _ _ _ _ _ _ _ rfl _ _ _ _ _ _ _
    show WL _ _ _ _ _ _ _
    refine wl_quo (x_n % 1024) 32 wN rfl rfl (by kernel_rfl) (by omega) (by omega) (by omega) ?_
    exact f2
   ·intro w8 k144
    rintro _ _ _ _ _ rfl _ rfl _ rfl _ rfl _ _ _ _ _ _
    show WL _ _ _ _ _ _ _
    have o147 := (own_kp o51 k144)
    refine ix wN ((x_n % 1024) / 32) slTy_56 (Rd.of_own o147) ?_
    exact f2
   ·intro w8 k148
    rintro _ _ _ _ _ rfl _ rfl _ rfl _ rfl _ rfl _ _ _ _ _
    show WL _ _ _ _ _ _ _
    have o152 := (own_kp o51 k148)
    refine ei (x := (clrN x_w.Bits (x_w.Top + 1) j)) ((((x_n % 1024) / 32)).toNat) wN isAgg_3 (Rd.of_own o152) ?_
    exact f2
   ·intro w8 k153
    rintro _ _ _ _ _ _ _ _ _ _ _ _ _ _
    show WL _ _ _ _ _ _ _
    refine mw (vi (x_n % 1024)) ?_
    exact f2
   ·intro w8 k155
    rintro _ _ _ _ _ _ _ _ _ _ _ rfl _ _ _
    show WL _ _ _ _ _ _ _
    refine wl_rem (x_n % 1024) 32 wN rfl rfl (by kernel_rfl) (by first | omega | assumption) ?_
    exact f2
   ·intro w8 k157
    rintro _ _ _ _ _ _ _ _ _ _ _ rfl _ rfl _ _
    show WL _ _ _ _ _ _ _
    refine wl_shl 1 ((x_n % 1024) % 32) wN rfl rfl rfl rfl rfl (by omega) (by omega) (by omega) (by omega) ?_
    have q159 := shl1_b (((x_n % 1024) % 32)).toNat (by omega)
    exact f2
   ·intro w8 k160
    rintro _ _ _ _ _ rfl _ rfl _ rfl _ rfl _ rfl _ rfl _ rfl _ rfl _ rfl
    have q165 := shl1_b (((x_n % 1024) % 32)).toNat (by omega)
    intro _
    show WL _ _ _ _ _ _ _
    refine wl_or ((clrN x_w.Bits (x_w.Top + 1) j).getD (((x_n % 1024) / 32)).toNat 0) (1 * (2 : Int) ^ (((x_n % 1024) % 32)).toNat) wN rfl rfl (by kernel_rfl) (by omega) (by omega) (by omega) (by omega) ?_
    have q166 := orI_b (a := ((clrN x_w.Bits (x_w.Top + 1) j).getD (((x_n % 1024) / 32)).toNat 0)) (b := (1 * (2 : Int) ^ (((x_n % 1024) % 32)).toNat)) (by omega) (by omega)
    exact f2
  ·intro w8 k167
   rintro _ rfl _ rfl _ rfl _ rfl _ rfl _ rfl _ rfl _ rfl _ rfl _ rfl _ rfl _ rfl _ rfl
   have q173 := shl1_b (((x_n % 1024) % 32)).toNat (by omega)
   rintro _ rfl
   have q174 := orI_b (a := ((clrN x_w.Bits (x_w.Top + 1) j).getD (((x_n % 1024) / 32)).toNat 0)) (b := (1 * (2 : Int) ^ (((x_n % 1024) % 32)).toNat)) (by omega) (by omega)
   show WL _ _ _ _ _ _ _
   have o175 := (own_kp o51 k167)
   refine ix wN ((x_n % 1024) / 32) slTy_56 (Rd.of_own o175) ?_
   refine wl_storeI (clrN x_w.Bits (x_w.Top + 1) j) ((((x_n % 1024) / 32)).toNat) ((orI ((clrN x_w.Bits (x_w.Top + 1) j).getD (((x_n % 1024) / 32)).toNat 0) (1 * (2 : Int) ^ (((x_n % 1024) % 32)).toNat))) wN rfl rfl rfl (by simp) rfl sizeOf_3 o175 (by first | omega | (simp only [List.length_append, List.length_replicate, List.length_take, List.length_set, List.length_map]; omega)) ?_
   intro w9 k176 o177
   have m178 := (m47.extk k167).ext k176 (fun k hk => Nat.le_trans (z2 k9 k15) (own_lt o22 k hk).1)
   refine n4 ?_
   refine mw (vi x_n) ?_
   refine pu (vp g6 0) wN ?_
   have b179 := (((b42.ch k48 (Nat.not_le.2 (Nat.lt_of_lt_of_le p8 k15.size))).kp k167).ch k176 (fun h => by have := (own_lt o22 _ h).1; have := Nat.lt_of_lt_of_le p8 k15.size; omega))
   refine ld (vi x_w.Top) wN isAgg_3 b179 ?_
   refine pu (vb (decide (x_w.Top < x_n))) wN ?_
   refine n2 ?_
   rcases bf (decide (x_w.Top < x_n)) with h180 | h180
   ·have q195 := of_decide_eq_false h180
    refine cf h180 ?_
    refine y1 ?_
    have b196 := ((hbx6.kp k167).ch k176 (fun h => by have := (own_lt o22 _ h).2; have := Nat.le_trans (Nat.le_refl w3.heap.size) p28; omega))
    refine lN [(vi ((x_w).Top)), (vs a20 ((x_w).Bits).length c21)] wN isAgg_58 sizeOf_58 b196 ?_
    have b197 := (((((((b16.kp k19).kp k30).ch k33 (Nat.ne_of_lt (Nat.lt_of_lt_of_le p14 (Nat.le_trans k19.size p28)))).kp k38).ch k48 (Nat.not_le.2 (p14))).kp k167).ch k176 (fun h => by have := (own_lt o22 _ h).1; have := Nat.lt_of_lt_of_le p14 (Nat.le_refl w2.heap.size); omega))
    refine sv [(vi ((x_w).Top)), (vs a20 ((x_w).Bits).length c21)] wN sizeOf_58 b197 ?_
    intro w10 k198 b199 z200
    have m201 := m178.ext k198 (fun k hk => by subst hk; exact Nat.le_trans k9.size p13)
    refine aw (vb true) ?_
    refine n3 ?_
    have o202 := (own_ch o177 k198 (ne1 o22 (p14)))
    refine ret_2 (.inl rfl) (va [(vi ((x_w).Top)), (vs a20 ((x_w).Bits).length c21)]) (vb true) rfl (rv_c [(vi ((x_w).Top)), (vs a20 ((x_w).Bits).length c21)] rfl b199 isAgg_58 sizeOf_58) rfl ?_
    refine ⟨m201.keep0, ?_⟩
    have hF203 : sAdd x_w x_n = ({ Top := (x_w).Top, Bits := ((clrN x_w.Bits (x_w.Top + 1) j).set ((((x_n % 1024) / 32)).toNat) (orI ((clrN x_w.Bits (x_w.Top + 1) j).getD (((x_n % 1024) / 32)).toNat 0) (1 * (2 : Int) ^ (((x_n % 1024) % 32)).toNat))) : PWin }, true) := by have hz := addW_spec (l := x_w.Bits) (top := x_w.Top) (n := x_n) (j := j) (sMay_t (w := x_w) (n := x_n) (by assumption)).1 (sMay_t (w := x_w) (n := x_n) (by assumption)).2.1 (by omega) (by omega) (by omega) (by omega); simp only [sAdd, h40, h52, h54, h180, cond_true, cond_false]; rw [← hz]; first | rfl | (rw [setS]) | (rw [← setS])
    rw [hF203]
    have hN204 : ((x_w).Bits).length = (((clrN x_w.Bits (x_w.Top + 1) j).set ((((x_n % 1024) / 32)).toNat) (orI ((clrN x_w.Bits (x_w.Top + 1) j).getD (((x_n % 1024) / 32)).toNat 0) (1 * (2 : Int) ^ (((x_n % 1024) % 32)).toNat)))).length := by first | (simp only [List.length_append, List.length_take, List.length_replicate, List.length_set, List.length_map]; done) | (simp only [List.length_append, List.length_take, List.length_replicate, List.length_set, List.length_map]; omega)
    rw [hN204] at o202 ⊢
    exact ⟨_, _, rfl, (own_lo o202 (z2 k9 k15)), (by rw [← hN204]; exact s23), ⟨trivial, trivial⟩⟩
   have q181 := of_decide_eq_true h180
   refine ct h180 ?_
   refine wc_region ?_
   refine mw (vi x_n) ?_
   refine pu (vp g27 0) wN ?_
   have b182 := ((hbx6.kp k167).ch k176 (fun h => by have := (own_lt o22 _ h).2; have := Nat.le_trans (Nat.le_refl w3.heap.size) p28; omega))
   refine st (vi x_n) [(vi x_n)] [(vi x_n), (vs a20 ((x_w).Bits).length c21)] wN sizeOf_3 b182 ?_
   intro w10 k183 b184 z185
   have m186 := m178.ext k183 (fun k hk => by subst hk; exact Nat.le_trans (z3 k9 k15 k19) p28)
   refine nx ?_
   refine lN [(vi x_n), (vs a20 ((x_w).Bits).length c21)] wN isAgg_58 sizeOf_58 b184 ?_
   have b187 := ((((((((b16.kp k19).kp k30).ch k33 (Nat.ne_of_lt (Nat.lt_of_lt_of_le p14 (Nat.le_trans k19.size p28)))).kp k38).ch k48 (Nat.not_le.2 (p14))).kp k167).ch k176 (fun h => by have := (own_lt o22 _ h).1; have := Nat.lt_of_lt_of_le p14 (Nat.le_refl w2.heap.size); omega)).ch k183 (Nat.ne_of_lt (Nat.lt_of_lt_of_le p14 (Nat.le_trans k19.size p28))))
   refine sv [(vi x_n), (vs a20 ((x_w).Bits).length c21)] wN sizeOf_58 b187 ?_
   intro w11 k188 b189 z190
   have m191 := m186.ext k188 (fun k hk => by subst hk; exact Nat.le_trans k9.size p13)
   refine aw (vb true) ?_
   refine n3 ?_
   have o192 := (own_ch (own_ch o177 k183 (ne2 o22 (p28))) k188 (ne1 o22 (p14)))
   refine ret_2 (.inl rfl) (va [(vi x_n), (vs a20 ((x_w).Bits).length c21)]) (vb true) rfl (rv_c [(vi x_n), (vs a20 ((x_w).Bits).length c21)] rfl b189 isAgg_58 sizeOf_58) rfl ?_
   refine ⟨m191.keep0, ?_⟩
   have hF193 : sAdd x_w x_n = ({ Top := x_n, Bits := ((clrN x_w.Bits (x_w.Top + 1) j).set ((((x_n % 1024) / 32)).toNat) (orI ((clrN x_w.Bits (x_w.Top + 1) j).getD (((x_n % 1024) / 32)).toNat 0) (1 * (2 : Int) ^ (((x_n % 1024) % 32)).toNat))) : PWin }, true) := by have hz := addW_spec (l := x_w.Bits) (top := x_w.Top) (n := x_n) (j := j) (sMay_t (w := x_w) (n := x_n) (by assumption)).1 (sMay_t (w := x_w) (n := x_n) (by assumption)).2.1 (by omega) (by omega) (by omega) (by omega); simp only [sAdd, h40, h52, h54, h180, cond_true, cond_false]; rw [← hz]; first | rfl | (rw [setS]) | (rw [← setS])
   rw [hF193]
   have hN194 : ((x_w).Bits).length = (((clrN x_w.Bits (x_w.Top + 1) j).set ((((x_n % 1024) / 32)).toNat) (orI ((clrN x_w.Bits (x_w.Top + 1) j).getD (((x_n % 1024) / 32)).toNat 0) (1 * (2 : Int) ^ (((x_n % 1024) % 32)).toNat)))).length := by first | (simp only [List.length_append, List.length_take, List.length_replicate, List.length_set, List.length_map]; done) | (simp only [List.length_append, List.length_take, List.length_replicate, List.length_set, List.length_map]; omega)
   rw [hN194] at o192 ⊢
   exact ⟨_, _, rfl, (own_lo o192 (z2 k9 k15)), (by rw [← hN194]; exact s23), ⟨trivial, trivial⟩⟩
theorem sAdd_len (w : PWin) (n : Int) : (sAdd w n).1.Bits.length = w.Bits.length := by
  unfold sAdd
  cases h : F_spec_WinMay w n
  · rfl
  · have h1 := sMay_t h
    show (addW w.Bits w.Top n).length = w.Bits.length
    rw [addW, setB_len, clrN_len]

theorem C_spec_WinOf (w0 : World) (v_x_l : Value) (x_l : List Int) (r_x_l : R_56 w0 v_x_l x_l)  : Fn Try.prog 134 #[v_x_l] w0 (fun v w' => ∃ x : (PWin), Keep w0 w' ∧ O_58 w' w0.heap.size v x ∧ (x.Bits.length = 32)) := by
 obtain ⟨a1, c2, rfl, r3, s4⟩ := r_x_l
 refine fn_ofS (n := 22) [(vs a1 x_l.length c2)] Try.func134 rfl rfl ?_
 refine sr ?_
 refine al [(vi 0), (vs none 0 0)] wN zero_58 ?_
 intro g6 w1 p7 p8 k9 b10
 refine nx ?_
 refine cl wN (C_spec_WinNew w1 ) ?_
 rintro _ w2 ⟨k12, ⟨a13, c14, rfl, o15, s16, ap18⟩⟩
 have m19 := ((Ch.base w0).extk k9).extk k12
 refine al [(vi 0), (vs none 0 0)] wN zero_58 ?_
 intro g20 w3 p21 p22 k23 b24
 refine sv (L_58 (winNew) a13 c14) wN sizeOf_58 b24 ?_
 intro w4 k26 b27 z28
 have m29 := (m19.extk k23).ext k26 (fun k hk => by subst hk; exact Nat.le_trans (z2 k9 k12) p21)
 refine n4 ?_
 refine aw (vi 0) ?_
 refine wl_nil <| wq_then <| wc_block ?_
 have o31 := (own_ch (own_kp o15 k23) k26 (ne2 o15 (p21)))
 have hE32 : ((winNew).Bits : List Int) = (winNew).Bits := by rfl
 refine wc_loopP [(0, (vs a1 x_l.length c2)), (2, (vp g6 0)), (3, (vp g20 0)), (4, (vi ((0 : Nat) : Int)))] ⟨rfl, rfl, rfl, (congrArg (Value.int .i64) (show (0 : Int) = ((0 : Nat) : Int) by omega)), trivial⟩ (fun e' w' => ∃ (k : Nat) (t : Int) (b : List Int) (u30 : Env) (ab3_1x : Option Addr) (cb3_1x : Nat), e' = pt u30 [(0, (vs a1 x_l.length c2)), (2, (vp g6 0)), (3, (vp g20 0)), (4, (vi ((k : Nat) : Int)))] ∧ Ch (fun k => w0.heap.size ≤ k) w0 w' ∧ Ch (fun k => w2.heap.size ≤ k) w4 w' ∧ k ≤ x_l.length ∧ b.length = 32 ∧ (World.ownsRow w' w1.heap.size 3 1 (.slice ab3_1x (b).length cb3_1x) (b).length ((b).map iV) ∧ (b).length ≤ 1073741824) ∧ Blk w' g20 58 [(vi t), (.slice ab3_1x (b).length cb3_1x)]) (fun e' _ => x_l.length - ((intOf (e' 4))).toNat) ?_ ?_
 ·exact fun u => ⟨0, (winNew).Top, (winNew).Bits, u, a13, c14, rfl, m29, (Ch.refl (fun k => w2.heap.size ≤ k) w4), (by omega), (by first | rfl | omega | (rw [sAdd_len]; assumption) | (simp only [List.length_replicate])), (hE32 ▸ ⟨o31, s16⟩), (by have hb := b27; first | exact hb | (rw [hE32] at hb; exact hb))⟩
 ·rintro _ w5 ⟨k, t, b, u30, ab3_1x, cb3_1x, rfl, m33, k34, i35, i36, ⟨o37, s38⟩, hbx3⟩
  refine wc_seq <| sr ?_
  refine mw (vi ((k : Nat) : Int)) ?_
  refine mw (vs a1 x_l.length c2) ?_
  refine ln wN slTy_56 (r3.from0 m33) ?_
  refine pu (vb (decide (((k : Nat) : Int) < (x_l.length : Int)))) wN ?_
  refine n2 ?_
  rcases bf (decide (((k : Nat) : Int) < (x_l.length : Int))) with h40 | h40
  ·have q233 := of_decide_eq_false h40
   refine cf h40 ?_
   refine wc_exit <| wq_then_exit <| wq_then_exit <| wq_blk_exit <| wq_then <| sr ?_
   refine lN [(vi t), (vs ab3_1x (b).length cb3_1x)] wN isAgg_58 sizeOf_58 hbx3 ?_
   have b234 := ((((b10.kp k12).kp k23).ch k26 (Nat.ne_of_lt (Nat.lt_of_lt_of_le p8 (Nat.le_trans k12.size p21)))).ch k34 (Nat.not_le.2 (Nat.lt_of_lt_of_le p8 k12.size)))
   refine sv [(vi t), (vs ab3_1x (b).length cb3_1x)] wN sizeOf_58 b234 ?_
   intro w6 k235 b236 z237
   have m238 := m33.ext k235 (fun k hk => by subst hk; exact p7)
   refine n3 ?_
   have o239 := (own_ch o37 k235 (ne1 o37 (p8)))
   refine ret_1 (.inl rfl) (va [(vi t), (vs ab3_1x (b).length cb3_1x)]) rfl (rv_c [(vi t), (vs ab3_1x (b).length cb3_1x)] rfl b236 isAgg_58 sizeOf_58) ?_
   have hN240 : (b).length = (b).length := by first | (simp only [List.length_append, List.length_take, List.length_replicate, List.length_set, List.length_map]; done) | (simp only [List.length_append, List.length_take, List.length_replicate, List.length_set, List.length_map]; omega)
   rw [hN240] at o239 ⊢
   exact ⟨{ Top := t, Bits := b : PWin }, m238.keep0, ⟨_, _, rfl, (own_lo o239 k9.size), (by rw [← hN240]; exact s38), ⟨trivial, trivial⟩⟩, (by omega)⟩
  have q41 := of_decide_eq_true h40
  refine ct h40 ?_
  refine wc_skip <| wq_then <| wc_seq <| wc_block ?_
  refine wc_drawT ([(13, [], [], (fun _ v _ => v = (va [(vi t), (vs ab3_1x (b).length cb3_1x)]))), (14, [], [], (fun _ v _ => v = (vs a1 x_l.length c2))), (15, [], [], (fun _ v _ => v = (vi ((k : Nat) : Int)))), (16, [], [1, 2], (fun _ v _ => v = (ve (vs a1 x_l.length c2) ((((k : Nat) : Int)).toNat * 1)))), (17, [], [1, 2, 3], (fun _ v _ => v = (vi (x_l.getD k 0)))), (18, [], [0, 1, 2, 3, 4], (fun _ v w => ∃ (a1 : Option Addr) (c1 : Nat), v = .tuple #[.agg #[.int .i64 (((sAdd { Top := t, Bits := b : PWin } (x_l.getD k 0)).1).Top), .slice a1 (((sAdd { Top := t, Bits := b : PWin } (x_l.getD k 0)).1).Bits).length c1], .bool ((sAdd { Top := t, Bits := b : PWin } (x_l.getD k 0)).2)] ∧ w.ownsRow (w5.heap.size) 3 1 (.slice a1 (((sAdd { Top := t, Bits := b : PWin } (x_l.getD k 0)).1).Bits).length c1) (((sAdd { Top := t, Bits := b : PWin } (x_l.getD k 0)).1).Bits).length ((((sAdd { Top := t, Bits := b : PWin } (x_l.getD k 0)).1).Bits).map iV) ∧ (((sAdd { Top := t, Bits := b : PWin } (x_l.getD k 0)).1).Bits).length ≤ 1073741824 ∧ Aps [(a1, c1)])), (12, [18], [0, 1, 2, 3, 4, 5], (fun e v _ => v = (.tuple #[(.agg #[(vi (((sAdd { Top := t, Bits := b : PWin } (x_l.getD k 0)).1).Top)), (cellAt (tupAt (e 18) 0) 1)]), (vb ((sAdd { Top := t, Bits := b : PWin } (x_l.getD k 0)).2))]))), (19, [18], [0, 1, 2, 3, 4, 5, 6], (fun e v _ => v = (.agg #[(vi (((sAdd { Top := t, Bits := b : PWin } (x_l.getD k 0)).1).Top)), (cellAt (tupAt (e 18) 0) 1)]))), (20, [], [0, 1, 2, 3, 4, 5, 6], (fun _ v _ => v = (vb ((sAdd { Top := t, Bits := b : PWin } (x_l.getD k 0)).2)))), (31, [18], [0, 1, 2, 3, 4, 5, 6, 7], (fun e _ w => BK w g20 58 0 [(vi (((sAdd { Top := t, Bits := b : PWin } (x_l.getD k 0)).1).Top)), (cellAt (tupAt (e 18) 0) 1)]))] : GV) (fun lf w' => Ch (fun k => k = g20) w5 w' ∧ RK lf w' g20 58 [(vi t), (vs ab3_1x (b).length cb3_1x)] [(9, 0, 2)]) [(9, TK g20 58 0 2)] mixed rfl (by kernel_rfl) (by kernel_rfl) ?_ (fun _ _ h => ⟨h.to _, RK.z hbx3 h⟩) (fun _ _ _ _ h mo k => by obtain ⟨hc, hbg20⟩ := h; exact ⟨hc.comp k (fun _ _ q => q.elim), hbg20.kp mo k⟩) ⟨(fun _ _ w w' h mo hj t => by obtain ⟨hc, hbg20⟩ := h; exact ⟨hc.comp t.1 (fun _ _ q => q), hbg20.st mo hj (.head _) t⟩), trivial⟩ ?_ ?_ ?_
  ·exact ⟨hV, hE, ⟨hV, hE, ⟨hV, hE, ⟨hV, hE, ⟨hV, hE, ⟨(fun e v w w1 h hk => by obtain ⟨a0x, c0x, he, o0x, l0x, hap⟩ := h; exact ⟨a0x, c0x, he, own_kp o0x hk, l0x, hap⟩), hE, ⟨hV, (fun e1 e2 v w hx h => by have h18x := hx 18 (by simp); simp only [h18x] at h; exact h), ⟨hV, (fun e1 e2 v w hx h => by have h18x := hx 18 (by simp); simp only [h18x] at h; exact h), ⟨hV, hE, ⟨sK, (fun e1 e2 v w hx h => by have h18x := hx 18 (by simp); simp only [h18x] at h; exact h), trivial⟩⟩⟩⟩⟩⟩⟩⟩⟩⟩
  ·exact ⟨⟨.inr hV, ⟨.inr hV, ⟨.inr hV, ⟨.inr hV, ⟨.inr hV, ⟨.inr (fun e v wX wY h ht => by obtain ⟨a0x, c0x, he, o0x, l0x, hap⟩ := h; exact ⟨a0x, c0x, he, own_ch o0x ht.1 (fun gq hg _ hk => by have h1 := (own_lt o0x gq hg).1; have h3 : gq = g20 := hk; have h4 := (Nat.lt_of_lt_of_le p22 (z2 k26 k34)); omega), l0x, hap⟩), ⟨.inr hV, ⟨.inr hV, ⟨.inr hV, ⟨.inl rfl, trivial⟩⟩⟩⟩⟩⟩⟩⟩⟩⟩, trivial⟩
  ·refine ⟨?_, ⟨?_, ⟨?_, ⟨?_, ⟨?_, ⟨?_, ⟨?_, ⟨?_, ⟨?_, ⟨?_, trivial⟩⟩⟩⟩⟩⟩⟩⟩⟩⟩
   ·rintro lf w6 ⟨k62, b63⟩ ⟨n64, -⟩
    have b73 := RK.old b63 ⟨n64.resolve_left (fun h => Bool.noConfusion (show true = false from h.1)), trivial⟩
    rintro _ _ _ _ _ _ _ _ _ _
    show WL _ _ _ _ _ _ _
    refine lN [(vi t), (vs ab3_1x (b).length cb3_1x)] wN isAgg_58 sizeOf_58 b73 ?_
    exact f1
   ·rintro lf w6 ⟨k74, b75⟩ ⟨n76, -⟩
    rintro _ _ _ _ _ _ _ _ _ _
    show WL _ _ _ _ _ _ _
    refine mw (vs a1 x_l.length c2) ?_
    exact f1
   ·rintro lf w6 ⟨k85, b86⟩ ⟨n87, -⟩
    rintro _ _ _ _ _ _ _ _ _ _
    show WL _ _ _ _ _ _ _
    refine mw (vi ((k : Nat) : Int)) ?_
    exact f1
   ·rintro lf w6 ⟨k96, b97⟩ ⟨n98, -⟩
    have m106 := m33.ext k96 (fun k hk => by subst hk; exact Nat.le_trans (z2 k9 k12) p21)
    rintro _ _ rfl _ rfl _ _ _ _ _ _ _
    show WL _ _ _ _ _ _ _
    refine ix wN ((k : Nat) : Int) slTy_56 (r3.from0 m106) ?_
    exact f1
   ·rintro lf w6 ⟨k107, b108⟩ ⟨n109, -⟩
    have m117 := m33.ext k107 (fun k hk => by subst hk; exact Nat.le_trans (z2 k9 k12) p21)
    rintro _ _ rfl _ rfl _ rfl _ _ _ _ _ _
    show WL _ _ _ _ _ _ _
    refine ei (x := x_l) k wN isAgg_3 (r3.from0 m117) ?_
    exact f1
   ·rintro lf w6 ⟨k118, b119⟩ ⟨n120, -⟩
    rintro _ rfl _ rfl _ rfl _ rfl _ rfl _ _ _ _ _
    show WL _ _ _ _ _ _ _
    have o130 := (own_blk o37 hbx3 (by decide) k118)
    refine cl wN (C_spec_WinAdd w6 _ { Top := t, Bits := b : PWin } (mR_58 (Rd.of_own o130) s38) (x_l.getD k 0)) ?_
    rintro _ w7 ⟨k131, ⟨a132, c133, rfl, o134, s135, ap137⟩⟩
    have q139 := sAdd_len { Top := t, Bits := b : PWin } (x_l.getD k 0)
    exact wl_finT k131 ⟨_, _, rfl, (own_lo o134 k118.size), s135, ap137⟩
   ·rintro lf w6 ⟨k140, b141⟩ ⟨n142, -⟩
    rintro _ rfl _ rfl _ rfl _ rfl _ rfl _ ⟨a151, c152, rfl, o153, s154, ap156⟩
    have q157 := sAdd_len { Top := t, Bits := b : PWin } (x_l.getD k 0)
    rintro _ _ _ _
    show WL _ _ _ _ _ _ _
    refine mw (.tuple #[(va [(vi (((sAdd { Top := t, Bits := b : PWin } (x_l.getD k 0)).1).Top)), (vs a151 (((sAdd { Top := t, Bits := b : PWin } (x_l.getD k 0)).1).Bits).length c152)]), (vb ((sAdd { Top := t, Bits := b : PWin } (x_l.getD k 0)).2))]) ?_
    exact f1
   ·rintro lf w6 ⟨k158, b159⟩ ⟨n160, -⟩
    rintro _ rfl _ rfl _ rfl _ rfl _ rfl _ ⟨a169, c170, rfl, o171, s172, ap174⟩
    have q175 := sAdd_len { Top := t, Bits := b : PWin } (x_l.getD k 0)
    rintro _ rfl _ _ _
    show WL _ _ _ _ _ _ _
    refine pu (va [(vi (((sAdd { Top := t, Bits := b : PWin } (x_l.getD k 0)).1).Top)), (vs a169 (((sAdd { Top := t, Bits := b : PWin } (x_l.getD k 0)).1).Bits).length c170)]) wN ?_
    exact f1
   ·rintro lf w6 ⟨k176, b177⟩ ⟨n178, -⟩
    rintro _ rfl _ rfl _ rfl _ rfl _ rfl _ ⟨a187, c188, rfl, o189, s190, ap192⟩
    have q193 := sAdd_len { Top := t, Bits := b : PWin } (x_l.getD k 0)
    rintro _ rfl _ _ _
    show WL _ _ _ _ _ _ _
    refine pu (vb ((sAdd { Top := t, Bits := b : PWin } (x_l.getD k 0)).2)) wN ?_
    exact f1
   ·rintro lf w6 ⟨k194, b195⟩ ⟨n196, -⟩
    rintro _ rfl _ rfl _ rfl _ rfl _ rfl _ ⟨a205, c206, rfl, o207, s208, ap210⟩
    have q211 := sAdd_len { Top := t, Bits := b : PWin } (x_l.getD k 0)
    rintro _ rfl _ rfl _ _
    show WL _ _ _ _ _ _ _
    exact stK (va [(vi (((sAdd { Top := t, Bits := b : PWin } (x_l.getD k 0)).1).Top)), (vs a205 (((sAdd { Top := t, Bits := b : PWin } (x_l.getD k 0)).1).Bits).length c206)]) [(vi (((sAdd { Top := t, Bits := b : PWin } (x_l.getD k 0)).1).Top)), (vs a205 (((sAdd { Top := t, Bits := b : PWin } (x_l.getD k 0)).1).Bits).length c206)] wN sizeOf_58 b195 (fun _ h => h) (fun _ t => t)
  ·rintro lf w6 ⟨k212, b213⟩
   have m222 := m33.ext k212 (fun k hk => by subst hk; exact Nat.le_trans (z2 k9 k12) p21)
   rintro _ rfl _ rfl _ rfl _ rfl _ rfl _ ⟨a223, c224, rfl, o225, s226, ap228⟩
   have q229 := sAdd_len { Top := t, Bits := b : PWin } (x_l.getD k 0)
   rintro _ rfl _ rfl _ rfl _ b230
   have b231 : Blk w6 g20 58 [(vi (((sAdd { Top := t, Bits := b : PWin } (x_l.getD k 0)).1).Top)), (vs a223 (((sAdd { Top := t, Bits := b : PWin } (x_l.getD k 0)).1).Bits).length c224)] := RK.fin b213 [(0, [(vi (((sAdd { Top := t, Bits := b : PWin } (x_l.getD k 0)).1).Top)), (vs a223 (((sAdd { Top := t, Bits := b : PWin } (x_l.getD k 0)).1).Bits).length c224)])] ⟨b230, trivial⟩
   show WL _ _ _ _ _ _ _
   refine wl_nil <| wq_blk_normal <| wq_then <| wc_region ?_
   refine mw (vi ((k : Nat) : Int)) ?_
   refine ar (((k : Nat) : Int) + 1) wN ?_
   refine aw (vi (((k : Nat) : Int) + 1)) ?_
   refine wl_nil ?_
   have hE232 : (((sAdd { Top := t, Bits := b : PWin } (x_l.getD k 0)).1).Bits : List Int) = ((sAdd { Top := t, Bits := b : PWin } (x_l.getD k 0)).1).Bits := by rfl
   refine wq_loopP (w0 := w5) [(0, (vs a1 x_l.length c2)), (2, (vp g6 0)), (3, (vp g20 0)), (4, (vi (((k + 1) : Nat) : Int)))] ?_ ?_ ?_
   · exact ⟨rfl, rfl, rfl, (congrArg (Value.int .i64) (show ((((k : Nat) : Int) + 1) : Int) = (((k + 1) : Nat) : Int) by omega)), trivial⟩
   · exact fun u => ⟨(k + 1), ((sAdd { Top := t, Bits := b : PWin } (x_l.getD k 0)).1).Top, ((sAdd { Top := t, Bits := b : PWin } (x_l.getD k 0)).1).Bits, u, a223, c224, rfl, m222, (((Ch.refl (fun k => w2.heap.size ≤ k) w4).ext k34 (fun k hk => hk)).ext k212 (fun k hk => by subst hk; exact p21)), (by omega), (by first | rfl | omega | (rw [sAdd_len]; assumption) | (simp only [List.length_replicate])), (hE232 ▸ ⟨(own_lo o225 (z4 k12 k23 k26 k34)), s226⟩), (by have hb := b231; first | exact hb | (rw [hE232] at hb; exact hb))⟩
   · show x_l.length - ((((k + 1) : Nat) : Int)).toNat < x_l.length - (((k : Nat) : Int)).toNat; omega

theorem mR_56 {w : World} {x : List Int} {a1 : Option Addr} {c1 : Nat} (h1 : Rd w 1 (.slice a1 x.length c1) x.length (x.map iV)) (l1 : x.length ≤ 1073741824) : R_56 w (vs a1 x.length c1) x := ⟨_, _, rfl, h1, l1⟩
theorem C_spec_l8Draw (w0 : World) (g : Nat) (ca : Option Addr) (cc : Nat) (cb : List UInt8) (r_c : CurX w0 g 111 ca cc cb)  : Fn Try.prog 116 #[(vp g 0)] w0 (fun v w' => ∃ x : (PWin), Ch (fun k => k = g) w0 w' ∧ CurX w' g 111 ca cc cb ∧ O_58 w' w0.heap.size v x ∧ (x.Bits.length = 32)) := by
 obtain ⟨ci, chh, hcb, hcr, hcl, hci, hcn⟩ := r_c
 have hgl := Blk.lt hcb
 refine fn_ofS (n := 6) [(vp g 0)] Try.func116 rfl rfl ?_
 refine sr ?_
 refine al [(vi 0), (vs none 0 0)] wN zero_58 ?_
 intro g1 w1 p2 p3 k4 b5
 have m6 := ChG.extk (Ch.refl (fun k => k = g) w0) k4
 refine nx ?_
 refine mw (vp g 0) ?_
 have b7 := (hcb.kp k4)
 refine cl wN (C_spec_l8Nums w1 g ca cc cb ⟨_, _, b7, (Rd.chP hcr m6 hcn), hcl, (by omega), hcn⟩ 12 (by omega)) ?_
 rintro _ w2 ⟨x9, k8, ⟨i17, h18, b19, r20, l21, p22, n23⟩, ⟨a11, c12, rfl, o13, s14, ap16⟩, q10⟩
 have m24 := ChG.ext m6 k8 (fun k hk => .inl hk)
 refine cl wN (C_spec_WinOf w2 _ (x9) (mR_56 (Rd.of_own o13) s14)) ?_
 rintro _ w3 ⟨x26, k25, ⟨a28, c29, rfl, o30, s31, ap33⟩, q27⟩
 have m34 := ChG.extk m24 k25
 have b35 := ((b5.ch k8 (Ne.symm (Nat.ne_of_lt (Nat.lt_of_lt_of_le hgl (p2))))).kp k25)
 refine sv (L_58 (x26) a28 c29) wN sizeOf_58 b35 ?_
 intro w4 k36 b37 z38
 have m39 := ChG.ext m34 k36 (fun k hk => .inr (by subst hk; exact p2))
 refine n3 ?_
 have o40 := (own_ch o30 k36 (ne1 o30 (Nat.lt_of_lt_of_le p3 k8.size)))
 refine ret_1 (.inl rfl) (va (L_58 (x26) a28 c29)) rfl (rv_c (L_58 (x26) a28 c29) rfl b37 isAgg_58 sizeOf_58) ?_
 have b41 := ((b19.kp k25).ch k36 (Nat.ne_of_lt (Nat.lt_of_lt_of_le hgl (p2))))
 exact ⟨(x26), m39, ⟨_, _, b41, (Rd.chP hcr m39 hcn), hcl, (by omega), hcn⟩, ⟨_, _, rfl, (own_lo o40 (z2 k4 k8)), s31, ⟨trivial, trivial⟩⟩, (by first | assumption | omega)⟩

theorem C_spec_PutN (w0 : World) (v_x_b : Value) (x_b : List UInt8) (r_x_b : R_22 w0 v_x_b x_b) (x_n : Int) (x_k : Int) (pre0 : x_b.length ≤ 1000000) : Fn Try.prog 132 #[v_x_b, (vi x_n), (vi x_k)] w0 (fun v w' => Keep w0 w' ∧ O_22 w' w0.heap.size v (putN x_b x_n x_k)) := by
 obtain ⟨a1, c2, rfl, r3, s4⟩ := r_x_b
 refine fn_ofS (n := 35) [(vs a1 x_b.length c2), (vi x_n), (vi x_k)] Try.func132 rfl rfl ?_
 refine sr ?_
 refine aw (vs none 0 0) ?_
 refine nx ?_
 refine wl_lit0 wN rfl rfl slTy_22 (fun w => by kernel_rfl) ?_
 intro a6 w1 k7 o8
 have m9 := (Ch.base w0).extk k7
 refine mw (vs a1 x_b.length c2) ?_
 refine ap0 x_b wN slTy_22 o8 (r3.from0 m9) k7.size ?_
 intro a11 c12 w2 k13 o14 n15
 have m16 := m9.extk k13
 refine aw (vs a11 x_b.length c12) ?_
 refine n4 ?_
 refine jT1 [(1, (vi x_n)), (2, (vi x_k)), (6, (vs none 0 0)), (7, (vs a11 x_b.length c12))] (putN x_b x_n x_k = x_b) ?_ fun J18 => ?_
 ·intro hA19 w3 k21 u20
  have m22 := m16.extk k21
  refine sr ?_
  refine mw (vs a11 x_b.length c12) ?_
  refine aw (vs a11 x_b.length c12) ?_
  refine n1 ?_
  have o23 := (own_kp o14 k21)
  refine rt (vs a11 x_b.length c12) ?_
  refine ⟨m22.keep0, ?_⟩
  rw [hA19]
  exact ⟨_, _, rfl, o23, s4, ⟨trivial, trivial⟩⟩
 refine mw (vi x_k) ?_
 refine pu (vb (decide (x_k < 1))) wN ?_
 refine mw (vb (decide (x_k < 1))) ?_
 rcases bt (decide (x_k < 1)) with h25 | h25
 ·have q26 := of_decide_eq_true h25
  iterate 2 refine sk h25 ?_
  refine pk (vb true) wN h25 ?_
  refine n2 ?_
  refine ct (Eq.refl true) ?_
  have hF27 : putN x_b x_n x_k = x_b := by first | exact putN_out (by omega) | exact putN_end (by omega) (by omega) (by omega)
  exact wj (J18 hF27 _ (Ch.refl _ _))
 have q28 := of_decide_eq_false h25
 refine mv (vi x_k) (wS h25) ?_
 refine pu (vb (decide (6 < x_k))) (wS h25) ?_
 refine pf (vb (decide (6 < x_k))) wN h25 ?_
 refine n2 ?_
 rcases bt (decide (6 < x_k)) with h29 | h29
 ·have q30 := of_decide_eq_true h29
  refine ct h29 ?_
  have hF31 : putN x_b x_n x_k = x_b := by first | exact putN_out (by omega) | exact putN_end (by omega) (by omega) (by omega)
  exact wj (J18 hF31 _ (Ch.refl _ _))
 have q32 := of_decide_eq_false h29
 refine cf h29 ?_
 refine y2 ?_
 refine mw (vi x_k) ?_
 refine ar (x_k - 1) wN ?_
 refine aw (vi (x_k - 1)) ?_
 refine wl_nil <| wq_then <| wc_block ?_
 have hE34 : (x_b : List UInt8) = x_b ++ putK x_n x_k 0 := by simp [putK]
 refine wc_loopP [(1, (vi x_n)), (6, (vs none 0 0)), (7, (.slice a11 (x_b ++ putK x_n x_k 0).length c12)), (8, (vi (x_k - 1 - ((0 : Nat) : Int))))] ⟨rfl, rfl, (congrArg (fun l : List UInt8 => Value.slice a11 l.length c12) hE34), (congrArg (Value.int .i64) (show ((x_k - 1) : Int) = (x_k - 1 - ((0 : Nat) : Int)) by omega)), trivial⟩ (fun e' w' => ∃ (j : Nat) (u33 : Env) (a7x : Option Addr) (c7x : Nat), e' = pt u33 [(1, (vi x_n)), (6, (vs none 0 0)), (7, (.slice a7x (x_b ++ putK x_n x_k j).length c7x)), (8, (vi (x_k - 1 - ((j : Nat) : Int))))] ∧ Ch (fun k => w0.heap.size ≤ k) w0 w' ∧ Ch (fun k => w0.heap.size ≤ k) w2 w' ∧ ((j : Nat) : Int) ≤ x_k ∧ (World.ownsRow w' w0.heap.size 5 1 (.slice a7x (x_b ++ putK x_n x_k j).length c7x) (x_b ++ putK x_n x_k j).length ((x_b ++ putK x_n x_k j).map bV) ∧ (x_b ++ putK x_n x_k j).length ≤ 1073741824)) (fun e' _ => ((intOf (e' 8)) + 1).toNat) ?_ ?_
 ·exact fun u => ⟨0, u, a11, c12, rfl, m16, (Ch.refl (fun k => w0.heap.size ≤ k) w2), (by omega), (hE34 ▸ ⟨o14, s4⟩)⟩
 ·rintro _ w3 ⟨j, u33, a7x, c7x, rfl, m35, k36, i37, ⟨o38, s39⟩⟩
  have hpl := putK_len x_n x_k j
  refine wc_seq <| sr ?_
  refine mw (vi (x_k - 1 - ((j : Nat) : Int))) ?_
  refine pu (vb (decide (0 ≤ (x_k - 1 - ((j : Nat) : Int))))) wN ?_
  refine n2 ?_
  rcases bf (decide (0 ≤ (x_k - 1 - ((j : Nat) : Int)))) with h41 | h41
  ·have q59 := of_decide_eq_false h41
   refine cf h41 ?_
   refine wc_exit <| wq_then_exit <| wq_then_exit <| wq_blk_exit <| wq_then <| sr ?_
   refine mw (vs a7x (x_b ++ putK x_n x_k j).length c7x) ?_
   refine aw (vs a7x (x_b ++ putK x_n x_k j).length c7x) ?_
   refine n3 ?_
   refine rt (vs a7x (x_b ++ putK x_n x_k j).length c7x) ?_
   refine ⟨m35.keep0, ?_⟩
   have hF60 : putN x_b x_n x_k = (x_b ++ putK x_n x_k j) := by first | exact putN_out (by omega) | exact putN_end (by omega) (by omega) (by omega)
   rw [hF60]
   exact ⟨_, _, rfl, o38, s39, ⟨trivial, trivial⟩⟩
  have q42 := of_decide_eq_true h41
  refine ct h41 ?_
  refine wc_skip <| wq_then <| wc_seq <| wc_block <| wc_region ?_
  refine mw (vs a7x (x_b ++ putK x_n x_k j).length c7x) ?_
  refine mw (vi x_n) ?_
  refine mw (vi (x_k - 1 - ((j : Nat) : Int))) ?_
  refine ar (8 * (x_k - 1 - ((j : Nat) : Int))) wN ?_
  refine wl_shr x_n (8 * (x_k - 1 - ((j : Nat) : Int))) wN rfl rfl rfl rfl rfl (by omega) (by omega) ?_
  refine wl_and (x_n / (2 : Int) ^ ((8 * (x_k - 1 - ((j : Nat) : Int)))).toNat) 255 256 8 wN rfl rfl (by decide) (by decide) (by decide) (by kernel_rfl) ?_
  refine wl_conv8 ((x_n / (2 : Int) ^ ((8 * (x_k - 1 - ((j : Nat) : Int)))).toNat) % 256) wN rfl rfl (by kernel_rfl) ?_
  refine ltB ([(by8 ((x_n / (2 : Int) ^ ((8 * (x_k - 1 - ((j : Nat) : Int)))).toNat) % 256))] : List UInt8) wN slTy_22 ?_
  intro a43 c44 w4 k45 o46
  have o49 := (own_kp o38 k45)
  refine apB (x_b ++ putK x_n x_k j) ([(by8 ((x_n / (2 : Int) ^ ((8 * (x_k - 1 - ((j : Nat) : Int)))).toNat) % 256))] : List UInt8) wN slTy_22 o49 (Rd.of_own o46) (z4 k7 k13 k36 k45) ?_
  intro a50 c51 w5 k52 o53 j54 s55
  have m56 := (m35.extk k45).ext k52 (fun k hk => Nat.le_trans (Nat.le_refl w0.heap.size) (own_lt o38 k hk).1)
  refine aw (vs a50 ((x_b ++ putK x_n x_k j) ++ ([(by8 ((x_n / (2 : Int) ^ ((8 * (x_k - 1 - ((j : Nat) : Int)))).toNat) % 256))] : List UInt8)).length c51) ?_
  refine wl_nil <| wq_blk_normal <| wq_then <| wc_region ?_
  refine mw (vi (x_k - 1 - ((j : Nat) : Int))) ?_
  refine ar ((x_k - 1 - ((j : Nat) : Int)) - 1) wN ?_
  refine aw (vi ((x_k - 1 - ((j : Nat) : Int)) - 1)) ?_
  refine wl_nil ?_
  have hE58 : (((x_b ++ putK x_n x_k j) ++ ([(by8 ((x_n / (2 : Int) ^ ((8 * (x_k - 1 - ((j : Nat) : Int)))).toNat) % 256))] : List UInt8)) : List UInt8) = x_b ++ putK x_n x_k (j + 1) := by simp [putK]
  refine wq_loopP (w0 := w3) [(1, (vi x_n)), (6, (vs none 0 0)), (7, (.slice a50 (x_b ++ putK x_n x_k (j + 1)).length c51)), (8, (vi (x_k - 1 - (((j + 1) : Nat) : Int))))] ?_ ?_ ?_
  · exact ⟨rfl, rfl, (congrArg (fun l : List UInt8 => Value.slice a50 l.length c51) hE58), (congrArg (Value.int .i64) (show (((x_k - 1 - ((j : Nat) : Int)) - 1) : Int) = (x_k - 1 - (((j + 1) : Nat) : Int)) by omega)), trivial⟩
  · exact fun u => ⟨(j + 1), u, a50, c51, rfl, m56, ((((Ch.refl (fun k => w0.heap.size ≤ k) w2).ext k36 (fun k hk => hk)).extk k45).ext k52 (fun k hk => Nat.le_trans (Nat.le_refl w0.heap.size) (own_lt o38 k hk).1)), (by omega), (hE58 ▸ ⟨o53, s55⟩)⟩
  · show ((x_k - 1 - (((j + 1) : Nat) : Int)) + 1).toNat < ((x_k - 1 - ((j : Nat) : Int)) + 1).toNat; omega

theorem C_spec_Pad (w0 : World) (x_n : Int)  : Fn Try.prog 148 #[(vi x_n)] w0 (fun v w' => Keep w0 w' ∧ O_22 w' w0.heap.size v (padP x_n)) := by
 refine fn_ofS (n := 27) [(vi x_n)] Try.func148 rfl rfl ?_
 refine sr ?_
 refine aw (vs none 0 0) ?_
 refine n4 ?_
 refine jT1 [(0, (vi x_n)), (2, (vs none 0 0))] (padP x_n = []) ?_ fun J1 => ?_
 ·intro hA2 w1 k4 u3
  refine sr ?_
  refine wl_lit0 wN rfl rfl slTy_22 (fun w => by kernel_rfl) ?_
  intro a6 w2 k7 o8
  have m9 := ((Ch.base w0).extk k4).extk k7
  refine aw (vs (some a6) 0 0) ?_
  refine n1 ?_
  refine rt (vs (some a6) 0 0) ?_
  refine ⟨m9.keep0, ?_⟩
  rw [hA2]
  exact ⟨_, _, rfl, (own_lo o8 k4.size), (by simp), ⟨trivial, trivial⟩⟩
 refine mw (vi x_n) ?_
 refine pu (vb (decide (x_n < 0))) wN ?_
 refine mw (vb (decide (x_n < 0))) ?_
 rcases bt (decide (x_n < 0)) with h12 | h12
 ·have q13 := of_decide_eq_true h12
  iterate 2 refine sk h12 ?_
  refine pk (vb true) wN h12 ?_
  refine n2 ?_
  refine ct (Eq.refl true) ?_
  have hF14 : padP x_n = [] := by first | exact padP_f (by omega) | exact padP_s (by omega) (by omega) (by omega) (by omega)
  exact wj (J1 hF14 _ (Ch.refl _ _))
 have q15 := of_decide_eq_false h12
 refine mv (vi x_n) (wS h12) ?_
 refine pu (vb (decide (1048576 < x_n))) (wS h12) ?_
 refine pf (vb (decide (1048576 < x_n))) wN h12 ?_
 refine n2 ?_
 rcases bt (decide (1048576 < x_n)) with h16 | h16
 ·have q17 := of_decide_eq_true h16
  refine ct h16 ?_
  have hF18 : padP x_n = [] := by first | exact padP_f (by omega) | exact padP_s (by omega) (by omega) (by omega) (by omega)
  exact wj (J1 hF18 _ (Ch.refl _ _))
 have q19 := of_decide_eq_false h16
 refine cf h16 ?_
 refine y1 ?_
 refine ltB ([128] : List UInt8) wN slTy_22 ?_
 intro a20 c21 w1 k22 o23
 have m24 := (Ch.base w0).extk k22
 refine aw (vs a20 ([128] : List UInt8).length c21) ?_
 refine wl_nil <| wq_then <| wc_seq <| wc_block ?_
 have hE27 : (([128] : List UInt8) : List UInt8) = [(128 : UInt8)] ++ List.replicate 0 (0 : UInt8) := by first | rfl | (rw [List.replicate_succ', List.append_assoc])
 refine wc_loopP [(0, (vi x_n)), (2, (vs none 0 0)), (3, (.slice a20 ([(128 : UInt8)] ++ List.replicate 0 (0 : UInt8)).length c21))] ⟨rfl, rfl, (congrArg (fun l : List UInt8 => Value.slice a20 l.length c21) hE27), trivial⟩ (fun e' w' => ∃ (j : Nat) (u26 : Env) (a3x : Option Addr) (c3x : Nat), e' = pt u26 [(0, (vi x_n)), (2, (vs none 0 0)), (3, (.slice a3x ([(128 : UInt8)] ++ List.replicate j (0 : UInt8)).length c3x))] ∧ Ch (fun k => w0.heap.size ≤ k) w0 w' ∧ Ch (fun k => w0.heap.size ≤ k) w1 w' ∧ ((j : Nat) : Int) ≤ (64 - (x_n + 9) % 64) % 64 ∧ (World.ownsRow w' w0.heap.size 5 1 (.slice a3x ([(128 : UInt8)] ++ List.replicate j (0 : UInt8)).length c3x) ([(128 : UInt8)] ++ List.replicate j (0 : UInt8)).length (([(128 : UInt8)] ++ List.replicate j (0 : UInt8)).map bV) ∧ ([(128 : UInt8)] ++ List.replicate j (0 : UInt8)).length ≤ 1073741824)) (fun e' _ => 100 - (lenOf (e' 3))) ?_ ?_
 ·exact fun u => ⟨0, u, a20, c21, rfl, m24, (Ch.refl (fun k => w0.heap.size ≤ k) w1), (by omega), (hE27 ▸ ⟨o23, (by simp)⟩)⟩
 ·rintro _ w2 ⟨j, u26, a3x, c3x, rfl, m28, k29, i30, ⟨o31, s32⟩⟩
  have hpl : ([(128 : UInt8)] ++ List.replicate j (0 : UInt8)).length = 1 + j := by rw [List.length_append, List.length_replicate]; rfl
  refine wc_seq <| sr ?_
  refine mw (vi x_n) ?_
  refine mw (vs a3x ([(128 : UInt8)] ++ List.replicate j (0 : UInt8)).length c3x) ?_
  refine ln wN slTy_22 (Rd.of_own o31) ?_
  refine ar (x_n + (([(128 : UInt8)] ++ List.replicate j (0 : UInt8)).length : Int)) wN ?_
  refine ar ((x_n + (([(128 : UInt8)] ++ List.replicate j (0 : UInt8)).length : Int)) + 8) wN ?_
  refine wl_rem ((x_n + (([(128 : UInt8)] ++ List.replicate j (0 : UInt8)).length : Int)) + 8) 64 wN rfl rfl (by kernel_rfl) (by first | omega | assumption) ?_
  refine pu (vb (!(decide ((((x_n + (([(128 : UInt8)] ++ List.replicate j (0 : UInt8)).length : Int)) + 8) % 64) = 0)))) wN ?_
  refine n2 ?_
  rcases bf (decide ((((x_n + (([(128 : UInt8)] ++ List.replicate j (0 : UInt8)).length : Int)) + 8) % 64) = 0)) with h34 | h34
  ·have q55 := of_decide_eq_false h34
   refine ct (congrArg not h34) ?_
   refine wc_skip <| wq_then <| wc_block <| wc_region ?_
   refine mw (vs a3x ([(128 : UInt8)] ++ List.replicate j (0 : UInt8)).length c3x) ?_
   refine ltB ([0] : List UInt8) wN slTy_22 ?_
   intro a56 c57 w3 k58 o59
   have o62 := (own_kp o31 k58)
   refine apB ([(128 : UInt8)] ++ List.replicate j (0 : UInt8)) ([0] : List UInt8) wN slTy_22 o62 (Rd.of_own o59) (z3 k22 k29 k58) ?_
   intro a63 c64 w4 k65 o66 j67 s68
   have m69 := (m28.extk k58).ext k65 (fun k hk => Nat.le_trans (Nat.le_refl w0.heap.size) (own_lt o31 k hk).1)
   refine aw (vs a63 (([(128 : UInt8)] ++ List.replicate j (0 : UInt8)) ++ ([0] : List UInt8)).length c64) ?_
   refine wl_nil <| wq_blk_normal ?_
   have hE71 : ((([(128 : UInt8)] ++ List.replicate j (0 : UInt8)) ++ ([0] : List UInt8)) : List UInt8) = [(128 : UInt8)] ++ List.replicate (j + 1) (0 : UInt8) := by first | rfl | (rw [List.replicate_succ', List.append_assoc])
   refine wq_loopP (w0 := w2) [(0, (vi x_n)), (2, (vs none 0 0)), (3, (.slice a63 ([(128 : UInt8)] ++ List.replicate (j + 1) (0 : UInt8)).length c64))] ?_ ?_ ?_
   · exact ⟨rfl, rfl, (congrArg (fun l : List UInt8 => Value.slice a63 l.length c64) hE71), trivial⟩
   · exact fun u => ⟨(j + 1), u, a63, c64, rfl, m69, ((((Ch.refl (fun k => w0.heap.size ≤ k) w1).ext k29 (fun k hk => hk)).extk k58).ext k65 (fun k hk => Nat.le_trans (Nat.le_refl w0.heap.size) (own_lt o31 k hk).1)), (by omega), (hE71 ▸ ⟨o66, s68⟩)⟩
   · show 100 - ([(128 : UInt8)] ++ List.replicate (j + 1) (0 : UInt8)).length < 100 - ([(128 : UInt8)] ++ List.replicate j (0 : UInt8)).length; simp only [List.length_append, List.length_cons, List.length_nil, List.length_replicate]; omega
  have q35 := of_decide_eq_true h34
  refine cf (congrArg not h34) ?_
  refine wc_exit <| wq_then_exit <| wq_then_exit <| wq_blk_exit <| wq_then <| sr ?_
  refine mw (vs a3x ([(128 : UInt8)] ++ List.replicate j (0 : UInt8)).length c3x) ?_
  refine cl wN (C_spec_PutN w2 _ ([(128 : UInt8)] ++ List.replicate j (0 : UInt8)) (mR_22 (Rd.of_own o31) s32) 0 4 (by first | omega | (simp; done) | (simp; omega) | (simp only [List.length_append, List.length_cons, List.length_nil] at *; omega))) ?_
  rintro _ w3 ⟨k36, ⟨a37, c38, rfl, o39, s40, ap42⟩⟩
  have q44 := putN_len ([(128 : UInt8)] ++ List.replicate j (0 : UInt8)) 0 4
  refine mw (vi x_n) ?_
  refine ar (8 * x_n) wN ?_
  refine cl wN (C_spec_PutN w3 _ (putN ([(128 : UInt8)] ++ List.replicate j (0 : UInt8)) 0 4) (mR_22 (Rd.of_own o39) s40) (8 * x_n) 4 (by first | omega | (simp; done) | (simp; omega) | (simp only [List.length_append, List.length_cons, List.length_nil] at *; omega))) ?_
  rintro _ w4 ⟨k45, ⟨a46, c47, rfl, o48, s49, ap51⟩⟩
  have m52 := (m28.extk k36).extk k45
  have q53 := putN_len (putN ([(128 : UInt8)] ++ List.replicate j (0 : UInt8)) 0 4) (8 * x_n) 4
  refine aw (vs a46 (putN (putN ([(128 : UInt8)] ++ List.replicate j (0 : UInt8)) 0 4) (8 * x_n) 4).length c47) ?_
  refine n3 ?_
  refine rt (vs a46 (putN (putN ([(128 : UInt8)] ++ List.replicate j (0 : UInt8)) 0 4) (8 * x_n) 4).length c47) ?_
  refine ⟨m52.keep0, ?_⟩
  have hF54 : padP x_n = (putN (putN ([(128 : UInt8)] ++ List.replicate j (0 : UInt8)) 0 4) (8 * x_n) 4) := by first | exact padP_f (by omega) | exact padP_s (by omega) (by omega) (by omega) (by omega)
  rw [hF54]
  exact ⟨_, _, rfl, (own_lo o48 (z3 k22 k29 k36)), s49, ⟨trivial, trivial⟩⟩

theorem C_spec_Start (w0 : World)   : Fn Try.prog 149 #[] w0 (fun v w' => Keep w0 w' ∧ O_56 w' w0.heap.size v (k0)) := by
 refine fn_ofS (n := 2) [] Try.func149 rfl rfl ?_
 refine sr ?_
 refine aw (vs none 0 0) ?_
 refine nx ?_
 refine ltI ([1779033703, 3144134277, 1013904242, 2773480762, 1359893119, 2600822924, 528734635, 1541459225] : List Int) wN slTy_56 ?_
 intro a1 c2 w1 k3 o4
 have m5 := (Ch.base w0).extk k3
 refine aw (vs a1 ([1779033703, 3144134277, 1013904242, 2773480762, 1359893119, 2600822924, 528734635, 1541459225] : List Int).length c2) ?_
 refine n3 ?_
 refine rt (vs a1 ([1779033703, 3144134277, 1013904242, 2773480762, 1359893119, 2600822924, 528734635, 1541459225] : List Int).length c2) ?_
 refine ⟨m5.keep0, ?_⟩
 have hF7 : k0 = ([1779033703, 3144134277, 1013904242, 2773480762, 1359893119, 2600822924, 528734635, 1541459225] : List Int) := by rfl
 rw [hF7]
 exact ⟨_, _, rfl, o4, (by simp), ⟨trivial, trivial⟩⟩

def ws8 (x : List Int) : Bool := areW x 8
theorem ws8_t {x : List Int} (h : ws8 x = true) : allW x = true ∧ (x.length : Int) = 8 := areW_t h
theorem C_spec_l2Words (w0 : World) (v_x_h : Value) (x_h : List Int) (r_x_h : R_56 w0 v_x_h x_h)  : Fn Try.prog 159 #[v_x_h] w0 (fun v w' => Keep w0 w' ∧ O_4 w' w0.heap.size v (ws8 x_h)) := by
 obtain ⟨a1, c2, rfl, r3, s4⟩ := r_x_h
 refine fn_ofS (n := 19) [(vs a1 x_h.length c2)] Try.func159 rfl rfl ?_
 refine sr ?_
 refine aw (vb false) ?_
 refine n4 ?_
 refine aw (vi 0) ?_
 refine wl_nil <| wq_then <| wc_block ?_
 refine wc_loopP [(0, (vs a1 x_h.length c2)), (3, (vi ((0 : Nat) : Int)))] ⟨rfl, (congrArg (Value.int .i64) (show (0 : Int) = ((0 : Nat) : Int) by omega)), trivial⟩ (fun e' w' => ∃ (i : Nat) (u6 : Env), e' = pt u6 [(0, (vs a1 x_h.length c2)), (3, (vi ((i : Nat) : Int)))] ∧ Ch (fun k => w0.heap.size ≤ k) w0 w' ∧ Ch (fun k => w0.heap.size ≤ k) w0 w' ∧ i ≤ x_h.length ∧ allW (x_h.take i) = true) (fun e' _ => x_h.length - ((intOf (e' 3))).toNat) ?_ ?_
 ·exact fun u => ⟨0, u, rfl, (Ch.base w0), (Ch.refl (fun k => w0.heap.size ≤ k) w0), (by omega), (by first | rfl | exact allW_next (by assumption) (by omega) (by assumption))⟩
 ·rintro _ w1 ⟨i, u6, rfl, m7, k8, i9, i10⟩
  refine wc_seq <| sr ?_
  refine mw (vi ((i : Nat) : Int)) ?_
  refine mw (vs a1 x_h.length c2) ?_
  refine ln wN slTy_56 (r3.from0 m7) ?_
  refine pu (vb (decide (((i : Nat) : Int) < (x_h.length : Int)))) wN ?_
  refine n2 ?_
  rcases bf (decide (((i : Nat) : Int) < (x_h.length : Int))) with h11 | h11
  ·have q19 := of_decide_eq_false h11
   refine cf h11 ?_
   refine wc_exit <| wq_then_exit <| wq_then_exit <| wq_blk_exit <| wq_then <| sr ?_
   refine mw (vs a1 x_h.length c2) ?_
   refine ln wN slTy_56 (r3.from0 m7) ?_
   refine pu (vb (decide ((x_h.length : Int) = 8))) wN ?_
   refine aw (vb (decide ((x_h.length : Int) = 8))) ?_
   refine n3 ?_
   refine rt (vb (decide ((x_h.length : Int) = 8))) ?_
   refine ⟨m7.keep0, ?_⟩
   have hF20 : ws8 x_h = decide ((x_h.length : Int) = 8) := by first | (have hz := allW_no (x := x_h) (k := i) (by omega) (by first | assumption | omega); simp [ws8, areW, hz]) | (have hz := allW_all (x := x_h) (k := i) (by assumption) (by omega); simp [ws8, areW, hz])
   rw [hF20]
   exact rfl
  have q12 := of_decide_eq_true h11
  refine ct h11 ?_
  refine wc_skip <| wq_then <| wc_seq <| wc_block <| sr ?_
  refine mw (vs a1 x_h.length c2) ?_
  refine mw (vi ((i : Nat) : Int)) ?_
  refine ix wN ((i : Nat) : Int) slTy_56 (r3.from0 m7) ?_
  refine ei (x := x_h) i wN isAgg_3 (r3.from0 m7) ?_
  refine cl wN (C_spec_l1In w1 (x_h.getD i 0) 0 4294967295) ?_
  rintro _ w2 ⟨k13, rfl⟩
  have m14 := m7.extk k13
  refine pu (vb (!(F_spec_l1In (x_h.getD i 0) 0 4294967295))) wN ?_
  refine n2 ?_
  rcases bf (F_spec_l1In (x_h.getD i 0) 0 4294967295) with h15 | h15
  ·have q17 := spec_l1In_f h15
   refine ct (congrArg not h15) ?_
   refine sr ?_
   refine aw (vb false) ?_
   refine wl_nil <| wq_then <| wc_ret <| wq_blk_ret <| wq_then_ret <| wq_then_ret <| wq_blk_ret <| wq_then_ret ?_
   refine rt (vb false) ?_
   refine ⟨m14.keep0, ?_⟩
   have hF18 : ws8 x_h = false := by first | (have hz := allW_no (x := x_h) (k := i) (by omega) (by first | assumption | omega); simp [ws8, areW, hz]) | (have hz := allW_all (x := x_h) (k := i) (by assumption) (by omega); simp [ws8, areW, hz])
   rw [hF18]
   exact rfl
  have q16 := spec_l1In_t h15
  refine cf (congrArg not h15) ?_
  refine wc_skip <| wq_blk_normal <| wq_then <| wc_region ?_
  refine mw (vi ((i : Nat) : Int)) ?_
  refine ar (((i : Nat) : Int) + 1) wN ?_
  refine aw (vi (((i : Nat) : Int) + 1)) ?_
  refine wl_nil ?_
  refine wq_loopP (w0 := w1) [(0, (vs a1 x_h.length c2)), (3, (vi (((i + 1) : Nat) : Int)))] ?_ ?_ ?_
  · exact ⟨rfl, (congrArg (Value.int .i64) (show ((((i : Nat) : Int) + 1) : Int) = (((i + 1) : Nat) : Int) by omega)), trivial⟩
  · exact fun u => ⟨(i + 1), u, rfl, m14, (((Ch.refl (fun k => w0.heap.size ≤ k) w0).ext k8 (fun k hk => hk)).extk k13), (by omega), (by first | rfl | exact allW_next (by assumption) (by omega) (by assumption))⟩
  · show x_h.length - ((((i + 1) : Nat) : Int)).toNat < x_h.length - (((i : Nat) : Int)).toNat; omega

theorem C_spec_l2K (w0 : World)   : Fn Try.prog 160 #[] w0 (fun v w' => Keep w0 w' ∧ O_56 w' w0.heap.size v (kw)) := by
 refine fn_ofS (n := 2) [] Try.func160 rfl rfl ?_
 refine sr ?_
 refine aw (vs none 0 0) ?_
 refine nx ?_
 refine ltI ([1116352408, 1899447441, 3049323471, 3921009573, 961987163, 1508970993, 2453635748, 2870763221, 3624381080, 310598401, 607225278, 1426881987, 1925078388, 2162078206, 2614888103, 3248222580, 3835390401, 4022224774, 264347078, 604807628, 770255983, 1249150122, 1555081692, 1996064986, 2554220882, 2821834349, 2952996808, 3210313671, 3336571891, 3584528711, 113926993, 338241895, 666307205, 773529912, 1294757372, 1396182291, 1695183700, 1986661051, 2177026350, 2456956037, 2730485921, 2820302411, 3259730800, 3345764771, 3516065817, 3600352804, 4094571909, 275423344, 430227734, 506948616, 659060556, 883997877, 958139571, 1322822218, 1537002063, 1747873779, 1955562222, 2024104815, 2227730452, 2361852424, 2428436474, 2756734187, 3204031479, 3329325298] : List Int) wN slTy_56 ?_
 intro a1 c2 w1 k3 o4
 have m5 := (Ch.base w0).extk k3
 refine aw (vs a1 ([1116352408, 1899447441, 3049323471, 3921009573, 961987163, 1508970993, 2453635748, 2870763221, 3624381080, 310598401, 607225278, 1426881987, 1925078388, 2162078206, 2614888103, 3248222580, 3835390401, 4022224774, 264347078, 604807628, 770255983, 1249150122, 1555081692, 1996064986, 2554220882, 2821834349, 2952996808, 3210313671, 3336571891, 3584528711, 113926993, 338241895, 666307205, 773529912, 1294757372, 1396182291, 1695183700, 1986661051, 2177026350, 2456956037, 2730485921, 2820302411, 3259730800, 3345764771, 3516065817, 3600352804, 4094571909, 275423344, 430227734, 506948616, 659060556, 883997877, 958139571, 1322822218, 1537002063, 1747873779, 1955562222, 2024104815, 2227730452, 2361852424, 2428436474, 2756734187, 3204031479, 3329325298] : List Int).length c2) ?_
 refine n3 ?_
 refine rt (vs a1 ([1116352408, 1899447441, 3049323471, 3921009573, 961987163, 1508970993, 2453635748, 2870763221, 3624381080, 310598401, 607225278, 1426881987, 1925078388, 2162078206, 2614888103, 3248222580, 3835390401, 4022224774, 264347078, 604807628, 770255983, 1249150122, 1555081692, 1996064986, 2554220882, 2821834349, 2952996808, 3210313671, 3336571891, 3584528711, 113926993, 338241895, 666307205, 773529912, 1294757372, 1396182291, 1695183700, 1986661051, 2177026350, 2456956037, 2730485921, 2820302411, 3259730800, 3345764771, 3516065817, 3600352804, 4094571909, 275423344, 430227734, 506948616, 659060556, 883997877, 958139571, 1322822218, 1537002063, 1747873779, 1955562222, 2024104815, 2227730452, 2361852424, 2428436474, 2756734187, 3204031479, 3329325298] : List Int).length c2) ?_
 refine ⟨m5.keep0, ?_⟩
 have hF7 : kw = ([1116352408, 1899447441, 3049323471, 3921009573, 961987163, 1508970993, 2453635748, 2870763221, 3624381080, 310598401, 607225278, 1426881987, 1925078388, 2162078206, 2614888103, 3248222580, 3835390401, 4022224774, 264347078, 604807628, 770255983, 1249150122, 1555081692, 1996064986, 2554220882, 2821834349, 2952996808, 3210313671, 3336571891, 3584528711, 113926993, 338241895, 666307205, 773529912, 1294757372, 1396182291, 1695183700, 1986661051, 2177026350, 2456956037, 2730485921, 2820302411, 3259730800, 3345764771, 3516065817, 3600352804, 4094571909, 275423344, 430227734, 506948616, 659060556, 883997877, 958139571, 1322822218, 1537002063, 1747873779, 1955562222, 2024104815, 2227730452, 2361852424, 2428436474, 2756734187, 3204031479, 3329325298] : List Int) := by rfl
 rw [hF7]
 exact ⟨_, _, rfl, o4, (by simp), ⟨trivial, trivial⟩⟩

def O_3_3_4 (w : World) (lo : Nat) (v : Value) (x : (Int) × (Int) × (Bool)) : Prop := v = .tuple #[.int .i64 x.1, .int .i64 x.2.1, .bool x.2.2]
theorem C_spec_GetN (w0 : World) (v_x_b : Value) (x_b : List UInt8) (r_x_b : R_22 w0 v_x_b x_b) (x_at : Int) (x_k : Int)  : Fn Try.prog 167 #[v_x_b, (vi x_at), (vi x_k)] w0 (fun v w' => Keep w0 w' ∧ O_3_3_4 w' w0.heap.size v (getN3 x_b x_at x_k)) := by
 obtain ⟨a1, c2, rfl, r3, s4⟩ := r_x_b
 refine fn_ofS (n := 48) [(vs a1 x_b.length c2), (vi x_at), (vi x_k)] Try.func167 rfl rfl ?_
 refine sr ?_
 refine aw (vi 0) ?_
 refine aw (vi 0) ?_
 refine aw (vb false) ?_
 refine n4 ?_
 refine jT1 [(0, (vs a1 x_b.length c2)), (1, (vi x_at)), (2, (vi x_k)), (6, (vi 0)), (7, (vi 0)), (8, (vb false))] (getN3 x_b x_at x_k = (0, 0, false)) ?_ fun J6 => ?_
 ·intro hA7 w1 k9 u8
  have m10 := (Ch.base w0).extk k9
  refine sr ?_
  refine aw (vi 0) ?_
  refine aw (vi 0) ?_
  refine aw (vb false) ?_
  refine n1 ?_
  refine ret_3 (.inl rfl) (vi 0) (vi 0) (vb false) rfl rfl rfl rfl ?_
  refine ⟨m10.keep0, ?_⟩
  rw [hA7]
  exact rfl
 refine mw (vi x_k) ?_
 refine pu (vb (decide (x_k < 1))) wN ?_
 refine mw (vb (decide (x_k < 1))) ?_
 rcases bt (decide (x_k < 1)) with h12 | h12
 ·have q13 := of_decide_eq_true h12
  iterate 2 refine sk h12 ?_
  refine pk (vb true) wN h12 ?_
  refine mw (vb true) ?_
  iterate 2 refine sk (Eq.refl true) ?_
  refine pk (vb true) wN (Eq.refl true) ?_
  refine mw (vb true) ?_
  iterate 6 refine sk (Eq.refl true) ?_
  refine pk (vb true) wN (Eq.refl true) ?_
  refine n2 ?_
  refine ct (Eq.refl true) ?_
  have hF14 : getN3 x_b x_at x_k = (0, 0, false) := by first | exact getN3_f (by omega) | exact getN3_s (by omega) (by omega) (by omega) (by omega)
  exact wj (J6 hF14 _ (Ch.refl _ _))
 have q15 := of_decide_eq_false h12
 refine mv (vi x_k) (wS h12) ?_
 refine pu (vb (decide (6 < x_k))) (wS h12) ?_
 refine pf (vb (decide (6 < x_k))) wN h12 ?_
 refine mw (vb (decide (6 < x_k))) ?_
 rcases bt (decide (6 < x_k)) with h16 | h16
 ·have q17 := of_decide_eq_true h16
  iterate 2 refine sk h16 ?_
  refine pk (vb true) wN h16 ?_
  refine mw (vb true) ?_
  iterate 6 refine sk (Eq.refl true) ?_
  refine pk (vb true) wN (Eq.refl true) ?_
  refine n2 ?_
  refine ct (Eq.refl true) ?_
  have hF18 : getN3 x_b x_at x_k = (0, 0, false) := by first | exact getN3_f (by omega) | exact getN3_s (by omega) (by omega) (by omega) (by omega)
  exact wj (J6 hF18 _ (Ch.refl _ _))
 have q19 := of_decide_eq_false h16
 refine mv (vi x_at) (wS h16) ?_
 refine pu (vb (decide (x_at < 0))) (wS h16) ?_
 refine pf (vb (decide (x_at < 0))) wN h16 ?_
 refine mw (vb (decide (x_at < 0))) ?_
 rcases bt (decide (x_at < 0)) with h20 | h20
 ·have q21 := of_decide_eq_true h20
  iterate 6 refine sk h20 ?_
  refine pk (vb true) wN h20 ?_
  refine n2 ?_
  refine ct (Eq.refl true) ?_
  have hF22 : getN3 x_b x_at x_k = (0, 0, false) := by first | exact getN3_f (by omega) | exact getN3_s (by omega) (by omega) (by omega) (by omega)
  exact wj (J6 hF22 _ (Ch.refl _ _))
 have q23 := of_decide_eq_false h20
 refine mv (vi x_at) (wS h20) ?_
 refine mv (vs a1 x_b.length c2) (wS h20) ?_
 refine ln (wS h20) slTy_22 r3 ?_
 refine mv (vi x_k) (wS h20) ?_
 refine ar ((x_b.length : Int) - x_k) (wS h20) ?_
 refine pu (vb (decide (((x_b.length : Int) - x_k) < x_at))) (wS h20) ?_
 refine pf (vb (decide (((x_b.length : Int) - x_k) < x_at))) wN h20 ?_
 refine n2 ?_
 rcases bt (decide (((x_b.length : Int) - x_k) < x_at)) with h24 | h24
 ·have q25 := of_decide_eq_true h24
  refine ct h24 ?_
  have hF26 : getN3 x_b x_at x_k = (0, 0, false) := by first | exact getN3_f (by omega) | exact getN3_s (by omega) (by omega) (by omega) (by omega)
  exact wj (J6 hF26 _ (Ch.refl _ _))
 have q27 := of_decide_eq_false h24
 refine cf h24 ?_
 refine y1 ?_
 refine aw (vi 0) ?_
 refine n4 ?_
 refine aw (vi 0) ?_
 refine wl_nil <| wq_then <| wc_block ?_
 refine wc_loopP [(0, (vs a1 x_b.length c2)), (1, (vi x_at)), (2, (vi x_k)), (6, (vi 0)), (7, (vi 0)), (8, (vb false)), (9, (vi (getV ((x_b.drop x_at.toNat).take 0) 0))), (10, (vi ((0 : Nat) : Int)))] ⟨rfl, rfl, rfl, rfl, rfl, rfl, (congrArg (Value.int .i64) (show (0 : Int) = (getV ((x_b.drop x_at.toNat).take 0) 0) by rfl)), (congrArg (Value.int .i64) (show (0 : Int) = ((0 : Nat) : Int) by omega)), trivial⟩ (fun e' w' => ∃ (i : Nat) (u28 : Env), e' = pt u28 [(0, (vs a1 x_b.length c2)), (1, (vi x_at)), (2, (vi x_k)), (6, (vi 0)), (7, (vi 0)), (8, (vb false)), (9, (vi (getV ((x_b.drop x_at.toNat).take i) 0))), (10, (vi ((i : Nat) : Int)))] ∧ Ch (fun k => w0.heap.size ≤ k) w0 w' ∧ Ch (fun k => w0.heap.size ≤ k) w0 w' ∧ ((i : Nat) : Int) ≤ x_k) (fun e' _ => (x_k - (intOf (e' 10))).toNat) ?_ ?_
 ·exact fun u => ⟨0, u, rfl, (Ch.base w0), (Ch.refl (fun k => w0.heap.size ≤ k) w0), (by omega)⟩
 ·rintro _ w1 ⟨i, u28, rfl, m29, k30, i31⟩
  have hgb := getV_b6 (x_b.drop x_at.toNat) i (by omega)
  have hx8 : (x_b.getD (x_at + ((i : Nat) : Int)).toNat 0).toNat < 256 := UInt8.toNat_lt _
  refine wc_seq <| sr ?_
  refine mw (vi ((i : Nat) : Int)) ?_
  refine mw (vi x_k) ?_
  refine pu (vb (decide (((i : Nat) : Int) < x_k))) wN ?_
  refine n2 ?_
  rcases bf (decide (((i : Nat) : Int) < x_k)) with h32 | h32
  ·have q34 := of_decide_eq_false h32
   refine cf h32 ?_
   refine wc_exit <| wq_then_exit <| wq_then_exit <| wq_blk_exit <| wq_then <| sr ?_
   refine mw (vi (getV ((x_b.drop x_at.toNat).take i) 0)) ?_
   refine mw (vi x_at) ?_
   refine mw (vi x_k) ?_
   refine ar (x_at + x_k) wN ?_
   refine aw (vi (getV ((x_b.drop x_at.toNat).take i) 0)) ?_
   refine aw (vi (x_at + x_k)) ?_
   refine aw (vb true) ?_
   refine n3 ?_
   refine ret_3 (.inl rfl) (vi (getV ((x_b.drop x_at.toNat).take i) 0)) (vi (x_at + x_k)) (vb true) rfl rfl rfl rfl ?_
   refine ⟨m29.keep0, ?_⟩
   have hF35 : getN3 x_b x_at x_k = ((getV ((x_b.drop x_at.toNat).take i) 0), (x_at + x_k), true) := by first | exact getN3_f (by omega) | exact getN3_s (by omega) (by omega) (by omega) (by omega)
   rw [hF35]
   exact rfl
  have q33 := of_decide_eq_true h32
  refine ct h32 ?_
  refine wc_skip <| wq_then <| wc_seq <| wc_block <| wc_region ?_
  refine mw (vi (getV ((x_b.drop x_at.toNat).take i) 0)) ?_
  refine ar ((getV ((x_b.drop x_at.toNat).take i) 0) * 256) wN ?_
  refine mw (vs a1 x_b.length c2) ?_
  refine mw (vi x_at) ?_
  refine mw (vi ((i : Nat) : Int)) ?_
  refine ar (x_at + ((i : Nat) : Int)) wN ?_
  refine ix wN (x_at + ((i : Nat) : Int)) slTy_22 (r3.from0 m29) ?_
  refine eb (x := x_b) (((x_at + ((i : Nat) : Int))).toNat) wN isAgg_5 (r3.from0 m29) ?_
  refine ar ((x_b.getD ((x_at + ((i : Nat) : Int))).toNat 0).toNat : Int) wN ?_
  refine ar (((getV ((x_b.drop x_at.toNat).take i) 0) * 256) + ((x_b.getD ((x_at + ((i : Nat) : Int))).toNat 0).toNat : Int)) wN ?_
  refine aw (vi (((getV ((x_b.drop x_at.toNat).take i) 0) * 256) + ((x_b.getD ((x_at + ((i : Nat) : Int))).toNat 0).toNat : Int))) ?_
  refine wl_nil <| wq_blk_normal <| wq_then <| wc_region ?_
  refine mw (vi ((i : Nat) : Int)) ?_
  refine ar (((i : Nat) : Int) + 1) wN ?_
  refine aw (vi (((i : Nat) : Int) + 1)) ?_
  refine wl_nil ?_
  refine wq_loopP (w0 := w1) [(0, (vs a1 x_b.length c2)), (1, (vi x_at)), (2, (vi x_k)), (6, (vi 0)), (7, (vi 0)), (8, (vb false)), (9, (vi (getV ((x_b.drop x_at.toNat).take (i + 1)) 0))), (10, (vi (((i + 1) : Nat) : Int)))] ?_ ?_ ?_
  · exact ⟨rfl, rfl, rfl, rfl, rfl, rfl, (congrArg (Value.int .i64) (show ((((getV ((x_b.drop x_at.toNat).take i) 0) * 256) + ((x_b.getD ((x_at + ((i : Nat) : Int))).toNat 0).toNat : Int)) : Int) = (getV ((x_b.drop x_at.toNat).take (i + 1)) 0) by exact getV_nexts (by omega) (by omega))), (congrArg (Value.int .i64) (show ((((i : Nat) : Int) + 1) : Int) = (((i + 1) : Nat) : Int) by omega)), trivial⟩
  · exact fun u => ⟨(i + 1), u, rfl, m29, ((Ch.refl (fun k => w0.heap.size ≤ k) w0).ext k30 (fun k hk => hk)), (by omega)⟩
  · show (x_k - (((i + 1) : Nat) : Int)).toNat < (x_k - ((i : Nat) : Int)).toNat; omega

theorem C_spec_Rot (w0 : World) (x_x : Int) (x_n : Int) (pre0 : 1 ≤ x_n) (pre1 : x_n ≤ 31) : Fn Try.prog 162 #[(vi x_x), (vi x_n)] w0 (fun v w' => Keep w0 w' ∧ O_3 w' w0.heap.size v (rot x_x x_n)) := by
 refine fn_ofS (n := 24) [(vi x_x), (vi x_n)] Try.func162 rfl rfl ?_
 refine sr ?_
 refine aw (vi 0) ?_
 refine nx ?_
 refine mw (vi x_x) ?_
 refine wl_and x_x 4294967295 4294967296 32 wN rfl rfl (by decide) (by decide) (by decide) (by kernel_rfl) ?_
 refine aw (vi (x_x % 4294967296)) ?_
 refine n4 ?_
 refine jT1 [(1, (vi x_n)), (4, (vi 0)), (5, (vi (x_x % 4294967296)))] (rot x_x x_n = (x_x % 4294967296)) ?_ fun J1 => ?_
 ·intro hA2 w1 k4 u3
  have m5 := (Ch.base w0).extk k4
  refine sr ?_
  refine mw (vi (x_x % 4294967296)) ?_
  refine aw (vi (x_x % 4294967296)) ?_
  refine n1 ?_
  refine rt (vi (x_x % 4294967296)) ?_
  refine ⟨m5.keep0, ?_⟩
  rw [hA2]
  exact rfl
 refine mw (vi x_n) ?_
 refine pu (vb (decide (x_n < 1))) wN ?_
 refine mw (vb (decide (x_n < 1))) ?_
 rcases bt (decide (x_n < 1)) with h7 | h7
 ·have q8 := of_decide_eq_true h7
  iterate 2 refine sk h7 ?_
  refine pk (vb true) wN h7 ?_
  refine n2 ?_
  refine ct (Eq.refl true) ?_
  have hF9 : rot x_x x_n = (x_x % 4294967296) := by first | rfl | (exfalso; omega)
  exact wj (J1 hF9 _ (Ch.refl _ _))
 have q10 := of_decide_eq_false h7
 refine mv (vi x_n) (wS h7) ?_
 refine pu (vb (decide (31 < x_n))) (wS h7) ?_
 refine pf (vb (decide (31 < x_n))) wN h7 ?_
 refine n2 ?_
 rcases bt (decide (31 < x_n)) with h11 | h11
 ·have q12 := of_decide_eq_true h11
  refine ct h11 ?_
  have hF13 : rot x_x x_n = (x_x % 4294967296) := by first | rfl | (exfalso; omega)
  exact wj (J1 hF13 _ (Ch.refl _ _))
 have q14 := of_decide_eq_false h11
 refine cf h11 ?_
 refine wc_skip <| wq_then <| wc_seq ?_
 refine wc_drawT ([(15, [], [], (fun _ v _ => v = (vi (x_x % 4294967296)))), (16, [], [], (fun _ v _ => v = (vi x_n))), (17, [], [0, 1], (fun _ v _ => v = (vi ((x_x % 4294967296) / (2 : Int) ^ (x_n).toNat)))), (18, [], [], (fun _ v _ => v = (vi (x_x % 4294967296)))), (19, [], [], (fun _ v _ => v = (vi x_n))), (20, [], [4], (fun _ v _ => v = (vi (32 - x_n)))), (21, [], [3, 4, 5], (fun _ v _ => v = (vi ((x_x % 4294967296) * (2 : Int) ^ ((32 - x_n)).toNat))))] : GV) (fun _ w' => Keep w0 w') [] mixed rfl (by kernel_rfl) (by kernel_rfl) ?_ (fun _ _ h => h) (fun _ _ _ _ h _ k => h.trans k) trivial ?_ ?_ ?_
 ·exact ⟨hV, hE, ⟨hV, hE, ⟨hV, hE, ⟨hV, hE, ⟨hV, hE, ⟨hV, hE, ⟨hV, hE, trivial⟩⟩⟩⟩⟩⟩⟩
 ·exact trivial
 ·refine ⟨?_, ⟨?_, ⟨?_, ⟨?_, ⟨?_, ⟨?_, ⟨?_, trivial⟩⟩⟩⟩⟩⟩⟩
  ·intro _ w1 k20 _
   rintro _ _ _ _ _ _ _
   show WL _ _ _ _ _ _ _
   refine mw (vi (x_x % 4294967296)) ?_
   exact f1
  ·intro _ w1 k22 _
   rintro _ _ _ _ _ _ _
   show WL _ _ _ _ _ _ _
   refine mw (vi x_n) ?_
   exact f1
  ·intro _ w1 k24 _
   rintro _ rfl _ rfl _ _ _ _ _
   show WL _ _ _ _ _ _ _
   refine wl_shr (x_x % 4294967296) x_n wN rfl rfl rfl rfl rfl (by omega) (by omega) ?_
   have q26 := shr_b (a := (x_x % 4294967296)) (by omega) (x_n).toNat
   exact f1
  ·intro _ w1 k27 _
   rintro _ _ _ _ _ _ _
   show WL _ _ _ _ _ _ _
   refine mw (vi (x_x % 4294967296)) ?_
   exact f1
  ·intro _ w1 k29 _
   rintro _ _ _ _ _ _ _
   show WL _ _ _ _ _ _ _
   refine mw (vi x_n) ?_
   exact f1
  ·intro _ w1 k31 _
   rintro _ _ _ _ _ rfl _ _
   show WL _ _ _ _ _ _ _
   refine ar (32 - x_n) wN ?_
   exact f1
  ·intro _ w1 k33 _
   rintro _ _ _ _ rfl _ rfl _ rfl _
   show WL _ _ _ _ _ _ _
   refine wl_shl (x_x % 4294967296) (32 - x_n) wN rfl rfl rfl rfl rfl (by omega) (by omega) (by omega) (by omega) ?_
   have q35 := shl_b (a := (x_x % 4294967296)) (n := ((32 - x_n)).toNat) (by omega) (by omega) (by omega)
   exact f1
 ·intro _ w1 k36
  have m37 := (Ch.base w0).extk k36
  rintro _ rfl _ rfl _ rfl
  have q38 := shr_b (a := (x_x % 4294967296)) (by omega) (x_n).toNat
  rintro _ rfl _ rfl _ rfl _ rfl
  have q39 := shl_b (a := (x_x % 4294967296)) (n := ((32 - x_n)).toNat) (by omega) (by omega) (by omega)
  show WL _ _ _ _ _ _ _
  refine wl_or ((x_x % 4294967296) / (2 : Int) ^ (x_n).toNat) ((x_x % 4294967296) * (2 : Int) ^ ((32 - x_n)).toNat) wN rfl rfl (by kernel_rfl) (by omega) (by omega) (by omega) (by omega) ?_
  have q40 := orI_p (a := ((x_x % 4294967296) / (2 : Int) ^ (x_n).toNat)) (b := ((x_x % 4294967296) * (2 : Int) ^ ((32 - x_n)).toNat)) (by omega) (by omega)
  refine wl_and (orI ((x_x % 4294967296) / (2 : Int) ^ (x_n).toNat) ((x_x % 4294967296) * (2 : Int) ^ ((32 - x_n)).toNat)) 4294967295 4294967296 32 wN rfl rfl (by decide) (by decide) (by decide) (by kernel_rfl) ?_
  refine aw (vi ((orI ((x_x % 4294967296) / (2 : Int) ^ (x_n).toNat) ((x_x % 4294967296) * (2 : Int) ^ ((32 - x_n)).toNat)) % 4294967296)) ?_
  refine n3 ?_
  refine rt (vi ((orI ((x_x % 4294967296) / (2 : Int) ^ (x_n).toNat) ((x_x % 4294967296) * (2 : Int) ^ ((32 - x_n)).toNat)) % 4294967296)) ?_
  refine ⟨m37.keep0, ?_⟩
  have hF41 : rot x_x x_n = ((orI ((x_x % 4294967296) / (2 : Int) ^ (x_n).toNat) ((x_x % 4294967296) * (2 : Int) ^ ((32 - x_n)).toNat)) % 4294967296) := by first | rfl | (exfalso; omega)
  rw [hF41]
  exact rfl

theorem C_spec_Schedule (w0 : World) (v_x_block : Value) (x_block : List UInt8) (r_x_block : R_22 w0 v_x_block x_block)  : Fn Try.prog 161 #[v_x_block] w0 (fun v w' => Keep w0 w' ∧ O_56 w' w0.heap.size v (schedP x_block)) := by
 obtain ⟨a1, c2, rfl, r3, s4⟩ := r_x_block
 refine fn_ofS (n := 84) [(vs a1 x_block.length c2)] Try.func161 rfl rfl ?_
 refine sr ?_
 refine aw (vs none 0 0) ?_
 refine nx ?_
 refine wl_lit0 wN rfl rfl slTy_56 (fun w => by kernel_rfl) ?_
 intro a6 w1 k7 o8
 have m9 := (Ch.base w0).extk k7
 refine aw (vs (some a6) 0 0) ?_
 refine n4 ?_
 refine mw (vs a1 x_block.length c2) ?_
 refine ln wN slTy_22 (r3.from0 m9) ?_
 refine pu (vb (!(decide ((x_block.length : Int) = 64)))) wN ?_
 refine n2 ?_
 rcases bf (decide ((x_block.length : Int) = 64)) with h11 | h11
 ·have q185 := of_decide_eq_false h11
  refine ct (congrArg not h11) ?_
  refine sr ?_
  refine mw (vs (some a6) 0 0) ?_
  refine aw (vs (some a6) 0 0) ?_
  refine n1 ?_
  refine rt (vs (some a6) 0 0) ?_
  refine ⟨m9.keep0, ?_⟩
  have hF186 : schedP x_block = [] := by first | exact schedP_f (by omega) | exact schedP_u (by omega) (by omega) (by omega)
  rw [hF186]
  exact ⟨_, _, rfl, o8, (by simp), ⟨trivial, trivial⟩⟩
 have q12 := of_decide_eq_true h11
 refine cf (congrArg not h11) ?_
 refine y2 ?_
 refine aw (vi 0) ?_
 refine wl_nil <| wq_then <| wc_block ?_
 have hE14 : ([] : List Int) = sched16 x_block 0 := by rfl
 have hN15 : 0 = (sched16 x_block 0).length := by rw [← hE14]; try (first | rfl | simp only [List.length_set] | simp)
 refine wc_loopP [(0, (vs a1 x_block.length c2)), (2, (vs none 0 0)), (3, (.slice (some a6) (sched16 x_block 0).length 0)), (4, (vi ((0 : Nat) : Int)))] ⟨rfl, rfl, rfl, (congrArg (Value.int .i64) (show (0 : Int) = ((0 : Nat) : Int) by omega)), trivial⟩ (fun e' w' => ∃ (k : Nat) (u13 : Env) (a3x : Option Addr) (c3x : Nat), e' = pt u13 [(0, (vs a1 x_block.length c2)), (2, (vs none 0 0)), (3, (.slice a3x (sched16 x_block k).length c3x)), (4, (vi ((k : Nat) : Int)))] ∧ Ch (fun k => w0.heap.size ≤ k) w0 w' ∧ Ch (fun k => w0.heap.size ≤ k) w1 w' ∧ k ≤ 16 ∧ (World.ownsRow w' w0.heap.size 3 1 (.slice a3x (sched16 x_block k).length c3x) (sched16 x_block k).length ((sched16 x_block k).map iV) ∧ (sched16 x_block k).length ≤ 1073741824)) (fun e' _ => (16 - (intOf (e' 4))).toNat) ?_ ?_
 ·exact fun u => ⟨0, u, (some a6), 0, rfl, m9, (Ch.refl (fun k => w0.heap.size ≤ k) w1), (by omega), ⟨(by rw [← hN15, ← hE14]; exact o8), (by rw [← hN15]; first | exact (by simp) | (simp only [List.length_append, List.length_take, List.length_replicate]; omega))⟩⟩
 ·rintro _ w2 ⟨k, u13, a3x, c3x, rfl, m16, k17, i18, ⟨o19, s20⟩⟩
  have hsl := sched16_len x_block k
  refine wc_seq <| sr ?_
  refine mw (vi ((k : Nat) : Int)) ?_
  refine pu (vb (decide (((k : Nat) : Int) < 16))) wN ?_
  refine n2 ?_
  rcases bt (decide (((k : Nat) : Int) < 16)) with h22 | h22
  ·have q23 := of_decide_eq_true h22
   refine ct h22 ?_
   refine wc_skip <| wq_then <| wc_seq <| wc_block <| sr ?_
   refine mw (vs a1 x_block.length c2) ?_
   refine mw (vi ((k : Nat) : Int)) ?_
   refine ar (4 * ((k : Nat) : Int)) wN ?_
   refine cl wN (C_spec_GetN w2 _ x_block (mR_22 (r3.from0 m16) s4) (4 * ((k : Nat) : Int)) 4) ?_
   rintro _ w3 ⟨k24, rfl⟩
   refine mw (.tuple #[(vi ((getN3 x_block (4 * ((k : Nat) : Int)) 4).1)), (vi ((getN3 x_block (4 * ((k : Nat) : Int)) 4).2.1)), (vb ((getN3 x_block (4 * ((k : Nat) : Int)) 4).2.2))]) ?_
   refine pu (vi ((getN3 x_block (4 * ((k : Nat) : Int)) 4).1)) wN ?_
   refine pu (vi ((getN3 x_block (4 * ((k : Nat) : Int)) 4).2.1)) wN ?_
   refine pu (vb ((getN3 x_block (4 * ((k : Nat) : Int)) 4).2.2)) wN ?_
   refine aw (vi ((getN3 x_block (4 * ((k : Nat) : Int)) 4).1)) ?_
   refine aw (vi ((getN3 x_block (4 * ((k : Nat) : Int)) 4).2.1)) ?_
   refine aw (vb ((getN3 x_block (4 * ((k : Nat) : Int)) 4).2.2)) ?_
   refine wl_nil <| wq_then <| wc_region ?_
   refine mw (vs a3x (sched16 x_block k).length c3x) ?_
   refine mw (vi ((getN3 x_block (4 * ((k : Nat) : Int)) 4).1)) ?_
   refine ltI ([(getN3 x_block (4 * ((k : Nat) : Int)) 4).1] : List Int) wN slTy_56 ?_
   intro a26 c27 w4 k28 o29
   have o32 := (own_kp (own_kp o19 k24) k28)
   refine apI (sched16 x_block k) ([(getN3 x_block (4 * ((k : Nat) : Int)) 4).1] : List Int) wN slTy_56 o32 (Rd.of_own o29) (z4 k7 k17 k24 k28) ?_
   intro a33 c34 w5 k35 o36 j37 s38
   have m39 := ((m16.extk k24).extk k28).ext k35 (fun k hk => Nat.le_trans (Nat.le_refl w0.heap.size) (own_lt o19 k hk).1)
   refine aw (vs a33 ((sched16 x_block k) ++ ([(getN3 x_block (4 * ((k : Nat) : Int)) 4).1] : List Int)).length c34) ?_
   refine wl_nil <| wq_blk_normal <| wq_then <| wc_region ?_
   refine mw (vi ((k : Nat) : Int)) ?_
   refine ar (((k : Nat) : Int) + 1) wN ?_
   refine aw (vi (((k : Nat) : Int) + 1)) ?_
   refine wl_nil ?_
   have hE41 : (((sched16 x_block k) ++ ([(getN3 x_block (4 * ((k : Nat) : Int)) 4).1] : List Int)) : List Int) = sched16 x_block (k + 1) := by exact sched16_app (by omega) (by omega)
   refine wq_loopP (w0 := w2) [(0, (vs a1 x_block.length c2)), (2, (vs none 0 0)), (3, (.slice a33 (sched16 x_block (k + 1)).length c34)), (4, (vi (((k + 1) : Nat) : Int)))] ?_ ?_ ?_
   · exact ⟨rfl, rfl, (congrArg (fun l : List Int => Value.slice a33 l.length c34) hE41), (congrArg (Value.int .i64) (show ((((k : Nat) : Int) + 1) : Int) = (((k + 1) : Nat) : Int) by omega)), trivial⟩
   · exact fun u => ⟨(k + 1), u, a33, c34, rfl, m39, (((((Ch.refl (fun k => w0.heap.size ≤ k) w1).ext k17 (fun k hk => hk)).extk k24).extk k28).ext k35 (fun k hk => Nat.le_trans (Nat.le_refl w0.heap.size) (own_lt o19 k hk).1)), (by omega), (hE41 ▸ ⟨o36, s38⟩)⟩
   · show (16 - (((k + 1) : Nat) : Int)).toNat < (16 - ((k : Nat) : Int)).toNat; omega
  have q42 := of_decide_eq_false h22
  refine cf h22 ?_
  refine wc_exit <| wq_then_exit ?_
  obtain rfl : k = 16 := by omega
  refine wq_then_exit <| wq_blk_exit <| wq_then <| wc_seq <| sr ?_
  refine aw (vi 16) ?_
  refine wl_nil <| wq_then <| wc_block ?_
  have hE44 : ((sched16 x_block 16) : List Int) = schedN x_block 0 := by rfl
  refine wc_loopP [(2, (vs none 0 0)), (3, (.slice a3x (schedN x_block 0).length c3x)), (8, (vi (16 + ((0 : Nat) : Int))))] ⟨rfl, (congrArg (fun l : List Int => Value.slice a3x l.length c3x) hE44), (congrArg (Value.int .i64) (show (16 : Int) = (16 + ((0 : Nat) : Int)) by omega)), trivial⟩ (fun e' w' => ∃ (m : Nat) (u43 : Env) (a3x : Option Addr) (c3x : Nat), e' = pt u43 [(2, (vs none 0 0)), (3, (.slice a3x (schedN x_block m).length c3x)), (8, (vi (16 + ((m : Nat) : Int))))] ∧ Ch (fun k => w0.heap.size ≤ k) w0 w' ∧ Ch (fun k => w0.heap.size ≤ k) w2 w' ∧ m ≤ 48 ∧ (World.ownsRow w' w0.heap.size 3 1 (.slice a3x (schedN x_block m).length c3x) (schedN x_block m).length ((schedN x_block m).map iV) ∧ (schedN x_block m).length ≤ 1073741824)) (fun e' _ => (64 - (intOf (e' 8))).toNat) ?_ ?_
  ·exact fun u => ⟨0, u, a3x, c3x, rfl, m16, (Ch.refl (fun k => w0.heap.size ≤ k) w2), (by omega), (hE44 ▸ ⟨o19, s20⟩)⟩
  ·rintro _ w3 ⟨m, u43, a3x, c3x, rfl, m45, k46, i47, ⟨o48, s49⟩⟩
   have hsl := schedN_len x_block m
   obtain ⟨z7, hz7⟩ : ∃ z, (schedN x_block m).getD (((16 + ((m : Nat) : Int)) - 7)).toNat 0 = z := ⟨_, rfl⟩
   have hg7 : 0 ≤ z7 ∧ z7 < 4294967296 := hz7 ▸ wget (schedN_w x_block m) (((16 + ((m : Nat) : Int)) - 7)).toNat
   obtain ⟨z16, hz16⟩ : ∃ z, (schedN x_block m).getD (((16 + ((m : Nat) : Int)) - 16)).toNat 0 = z := ⟨_, rfl⟩
   have hg16 : 0 ≤ z16 ∧ z16 < 4294967296 := hz16 ▸ wget (schedN_w x_block m) (((16 + ((m : Nat) : Int)) - 16)).toNat
   obtain ⟨z15, hz15⟩ : ∃ z, (schedN x_block m).getD (((16 + ((m : Nat) : Int)) - 15)).toNat 0 = z := ⟨_, rfl⟩
   have hg15 : 0 ≤ z15 ∧ z15 < 4294967296 := hz15 ▸ wget (schedN_w x_block m) (((16 + ((m : Nat) : Int)) - 15)).toNat
   obtain ⟨z2, hz2⟩ : ∃ z, (schedN x_block m).getD (((16 + ((m : Nat) : Int)) - 2)).toNat 0 = z := ⟨_, rfl⟩
   have hg2 : 0 ≤ z2 ∧ z2 < 4294967296 := hz2 ▸ wget (schedN_w x_block m) (((16 + ((m : Nat) : Int)) - 2)).toNat
   refine wc_seq <| sr ?_
   refine mw (vi (16 + ((m : Nat) : Int))) ?_
   refine pu (vb (decide ((16 + ((m : Nat) : Int)) < 64))) wN ?_
   refine n2 ?_
   rcases bf (decide ((16 + ((m : Nat) : Int)) < 64)) with h51 | h51
   ·have q183 := of_decide_eq_false h51
    refine cf h51 ?_
    refine wc_exit <| wq_then_exit <| wq_then_exit <| wq_blk_exit <| wq_then <| sr ?_
    refine mw (vs a3x (schedN x_block m).length c3x) ?_
    refine aw (vs a3x (schedN x_block m).length c3x) ?_
    refine n3 ?_
    refine rt (vs a3x (schedN x_block m).length c3x) ?_
    refine ⟨m45.keep0, ?_⟩
    have hF184 : schedP x_block = (schedN x_block m) := by first | exact schedP_f (by omega) | exact schedP_u (by omega) (by omega) (by omega)
    rw [hF184]
    exact ⟨_, _, rfl, o48, s49, ⟨trivial, trivial⟩⟩
   have q52 := of_decide_eq_true h51
   refine ct h51 ?_
   refine wc_skip <| wq_then <| wc_seq <| wc_block <| sr ?_
   refine mw (vs a3x (schedN x_block m).length c3x) ?_
   refine mw (vi (16 + ((m : Nat) : Int))) ?_
   refine ar ((16 + ((m : Nat) : Int)) - 15) wN ?_
   refine ix wN ((16 + ((m : Nat) : Int)) - 15) slTy_56 (Rd.of_own o48) ?_
   refine wl_loadE (iV z15) wN rfl rfl rfl rfl isAgg_3 (Rd.of_own o48) (by rw [← hz15]; exact iget (by simp) (by first | omega | (simp only [List.length_cons, List.length_nil, List.length_replicate, List.length_append, List.length_take, List.length_set, List.length_map]; omega))) ?_
   refine aw (vi z15) ?_
   refine nx ?_
   refine mw (vs a3x (schedN x_block m).length c3x) ?_
   refine mw (vi (16 + ((m : Nat) : Int))) ?_
   refine ar ((16 + ((m : Nat) : Int)) - 2) wN ?_
   refine ix wN ((16 + ((m : Nat) : Int)) - 2) slTy_56 (Rd.of_own o48) ?_
   refine wl_loadE (iV z2) wN rfl rfl rfl rfl isAgg_3 (Rd.of_own o48) (by rw [← hz2]; exact iget (by simp) (by first | omega | (simp only [List.length_cons, List.length_nil, List.length_replicate, List.length_append, List.length_take, List.length_set, List.length_map]; omega))) ?_
   refine aw (vi z2) ?_
   refine nx ?_
   refine mw (vi z15) ?_
   refine cl wN (C_spec_Rot w3 z15 7 (by omega) (by omega)) ?_
   rintro _ w4 ⟨k53, rfl⟩
   have q55 := rot_b z15 7
   refine mw (vi z15) ?_
   refine cl wN (C_spec_Rot w4 z15 18 (by omega) (by omega)) ?_
   rintro _ w5 ⟨k56, rfl⟩
   have m57 := (m45.extk k53).extk k56
   have q58 := rot_b z15 18
   refine wl_xor (rot z15 7) (rot z15 18) wN rfl rfl (by kernel_rfl) (by omega) (by omega) (by omega) (by omega) ?_
   have q59 := xorI_b (a := (rot z15 7)) (b := (rot z15 18)) (by omega) (by omega)
   refine mw (vi z15) ?_
   refine wl_shrU z15 (3 : Int) wN rfl rfl rfl rfl rfl (by omega) (by omega) ?_
   have q60 := shr_b (a := z15) (by omega) ((3 : Int)).toNat
   refine wl_xor (xorI (rot z15 7) (rot z15 18)) (z15 / (2 : Int) ^ ((3 : Int)).toNat) wN rfl rfl (by kernel_rfl) (by omega) (by omega) (by omega) (by omega) ?_
   have q61 := xorI_b (a := (xorI (rot z15 7) (rot z15 18))) (b := (z15 / (2 : Int) ^ ((3 : Int)).toNat)) (by omega) (by omega)
   refine aw (vi (xorI (xorI (rot z15 7) (rot z15 18)) (z15 / (2 : Int) ^ ((3 : Int)).toNat))) ?_
   refine nx ?_
   refine mw (vi z2) ?_
   refine cl wN (C_spec_Rot w5 z2 17 (by omega) (by omega)) ?_
   rintro _ w6 ⟨k62, rfl⟩
   have q64 := rot_b z2 17
   refine mw (vi z2) ?_
   refine cl wN (C_spec_Rot w6 z2 19 (by omega) (by omega)) ?_
   rintro _ w7 ⟨k65, rfl⟩
   have m66 := (m57.extk k62).extk k65
   have q67 := rot_b z2 19
   refine wl_xor (rot z2 17) (rot z2 19) wN rfl rfl (by kernel_rfl) (by omega) (by omega) (by omega) (by omega) ?_
   have q68 := xorI_b (a := (rot z2 17)) (b := (rot z2 19)) (by omega) (by omega)
   refine mw (vi z2) ?_
   refine wl_shrU z2 (10 : Int) wN rfl rfl rfl rfl rfl (by omega) (by omega) ?_
   have q69 := shr_b (a := z2) (by omega) ((10 : Int)).toNat
   refine wl_xor (xorI (rot z2 17) (rot z2 19)) (z2 / (2 : Int) ^ ((10 : Int)).toNat) wN rfl rfl (by kernel_rfl) (by omega) (by omega) (by omega) (by omega) ?_
   have q70 := xorI_b (a := (xorI (rot z2 17) (rot z2 19))) (b := (z2 / (2 : Int) ^ ((10 : Int)).toNat)) (by omega) (by omega)
   refine aw (vi (xorI (xorI (rot z2 17) (rot z2 19)) (z2 / (2 : Int) ^ ((10 : Int)).toNat))) ?_
   refine n2 ?_
   refine wc_drawT ([(64, [], [], (fun _ v _ => v = (vs a3x (schedN x_block m).length c3x))), (65, [], [], (fun _ v _ => v = (vs a3x (schedN x_block m).length c3x))), (66, [], [], (fun _ v _ => v = (vi (16 + ((m : Nat) : Int))))), (67, [], [2], (fun _ v _ => v = (vi ((16 + ((m : Nat) : Int)) - 7)))), (68, [], [1, 2, 3], (fun _ v _ => v = (ve (vs a3x (schedN x_block m).length c3x) ((((16 + ((m : Nat) : Int)) - 7)).toNat * 1)))), (69, [], [1, 2, 3, 4], (fun _ v _ => v = (vi z7))), (70, [], [], (fun _ v _ => v = (vs a3x (schedN x_block m).length c3x))), (71, [], [], (fun _ v _ => v = (vi (16 + ((m : Nat) : Int))))), (72, [], [7], (fun _ v _ => v = (vi ((16 + ((m : Nat) : Int)) - 16)))), (73, [], [6, 7, 8], (fun _ v _ => v = (ve (vs a3x (schedN x_block m).length c3x) ((((16 + ((m : Nat) : Int)) - 16)).toNat * 1)))), (74, [], [6, 7, 8, 9], (fun _ v _ => v = (vi z16))), (75, [], [1, 2, 3, 4, 5, 6, 7, 8, 9, 10], (fun _ v _ => v = (vi (z7 + z16)))), (76, [], [], (fun _ v _ => v = (vi (xorI (xorI (rot z15 7) (rot z15 18)) (z15 / (2 : Int) ^ ((3 : Int)).toNat))))), (77, [], [1, 2, 3, 4, 5, 6, 7, 8, 9, 10, 11, 12], (fun _ v _ => v = (vi ((z7 + z16) + (xorI (xorI (rot z15 7) (rot z15 18)) (z15 / (2 : Int) ^ ((3 : Int)).toNat)))))), (78, [], [], (fun _ v _ => v = (vi (xorI (xorI (rot z2 17) (rot z2 19)) (z2 / (2 : Int) ^ ((10 : Int)).toNat))))), (79, [], [1, 2, 3, 4, 5, 6, 7, 8, 9, 10, 11, 12, 13, 14], (fun _ v _ => v = (vi (((z7 + z16) + (xorI (xorI (rot z15 7) (rot z15 18)) (z15 / (2 : Int) ^ ((3 : Int)).toNat))) + (xorI (xorI (rot z2 17) (rot z2 19)) (z2 / (2 : Int) ^ ((10 : Int)).toNat)))))), (80, [], [1, 2, 3, 4, 5, 6, 7, 8, 9, 10, 11, 12, 13, 14, 15], (fun _ v _ => v = (vi ((((z7 + z16) + (xorI (xorI (rot z15 7) (rot z15 18)) (z15 / (2 : Int) ^ ((3 : Int)).toNat))) + (xorI (xorI (rot z2 17) (rot z2 19)) (z2 / (2 : Int) ^ ((10 : Int)).toNat))) % 4294967296)))), (81, [], [1, 2, 3, 4, 5, 6, 7, 8, 9, 10, 11, 12, 13, 14, 15, 16], (fun _ v w => ∃ (a1 : Option Addr) (c1 : Nat), v = .slice a1 ([((((z7 + z16) + (xorI (xorI (rot z15 7) (rot z15 18)) (z15 / (2 : Int) ^ ((3 : Int)).toNat))) + (xorI (xorI (rot z2 17) (rot z2 19)) (z2 / (2 : Int) ^ ((10 : Int)).toNat))) % 4294967296)] : List Int).length c1 ∧ w.ownsRow w7.heap.size 3 1 (.slice a1 ([((((z7 + z16) + (xorI (xorI (rot z15 7) (rot z15 18)) (z15 / (2 : Int) ^ ((3 : Int)).toNat))) + (xorI (xorI (rot z2 17) (rot z2 19)) (z2 / (2 : Int) ^ ((10 : Int)).toNat))) % 4294967296)] : List Int).length c1) ([((((z7 + z16) + (xorI (xorI (rot z15 7) (rot z15 18)) (z15 / (2 : Int) ^ ((3 : Int)).toNat))) + (xorI (xorI (rot z2 17) (rot z2 19)) (z2 / (2 : Int) ^ ((10 : Int)).toNat))) % 4294967296)] : List Int).length (([((((z7 + z16) + (xorI (xorI (rot z15 7) (rot z15 18)) (z15 / (2 : Int) ^ ((3 : Int)).toNat))) + (xorI (xorI (rot z2 17) (rot z2 19)) (z2 / (2 : Int) ^ ((10 : Int)).toNat))) % 4294967296)] : List Int).map iV) ∧ ([((((z7 + z16) + (xorI (xorI (rot z15 7) (rot z15 18)) (z15 / (2 : Int) ^ ((3 : Int)).toNat))) + (xorI (xorI (rot z2 17) (rot z2 19)) (z2 / (2 : Int) ^ ((10 : Int)).toNat))) % 4294967296)] : List Int).length ≤ 1073741824 ∧ Aps [(a1, c1)]))] : GV) (fun _ w' => Keep w7 w') [] mixed rfl (by kernel_rfl) (by kernel_rfl) ?_ (fun _ _ h => h) (fun _ _ _ _ h _ k => h.trans k) trivial ?_ ?_ ?_
   ·exact ⟨hV, hE, ⟨hV, hE, ⟨hV, hE, ⟨hV, hE, ⟨hV, hE, ⟨hV, hE, ⟨hV, hE, ⟨hV, hE, ⟨hV, hE, ⟨hV, hE, ⟨hV, hE, ⟨hV, hE, ⟨hV, hE, ⟨hV, hE, ⟨hV, hE, ⟨hV, hE, ⟨hV, hE, ⟨(fun e v w w1 h hk => by obtain ⟨a0x, c0x, he, o0x, l0x, hap⟩ := h; exact ⟨a0x, c0x, he, own_kp o0x hk, l0x, hap⟩), hE, trivial⟩⟩⟩⟩⟩⟩⟩⟩⟩⟩⟩⟩⟩⟩⟩⟩⟩⟩
   ·exact trivial
   ·refine ⟨?_, ⟨?_, ⟨?_, ⟨?_, ⟨?_, ⟨?_, ⟨?_, ⟨?_, ⟨?_, ⟨?_, ⟨?_, ⟨?_, ⟨?_, ⟨?_, ⟨?_, ⟨?_, ⟨?_, ⟨?_, trivial⟩⟩⟩⟩⟩⟩⟩⟩⟩⟩⟩⟩⟩⟩⟩⟩⟩⟩
    ·intro _ w8 k94 _
     rintro _ _ _ _ _ _ _ _ _ _ _ _ _ _ _ _ _ _
     show WL _ _ _ _ _ _ _
     refine mw (vs a3x (schedN x_block m).length c3x) ?_
     exact f1
    ·intro _ w8 k96 _
     rintro _ _ _ _ _ _ _ _ _ _ _ _ _ _ _ _ _ _
     show WL _ _ _ _ _ _ _
     refine mw (vs a3x (schedN x_block m).length c3x) ?_
     exact f1
    ·intro _ w8 k98 _
     rintro _ _ _ _ _ _ _ _ _ _ _ _ _ _ _ _ _ _
     show WL _ _ _ _ _ _ _
     refine mw (vi (16 + ((m : Nat) : Int))) ?_
     exact f1
    ·intro _ w8 k100 _
     rintro _ _ _ rfl _ _ _ _ _ _ _ _ _ _ _ _ _ _ _
     show WL _ _ _ _ _ _ _
     refine ar ((16 + ((m : Nat) : Int)) - 7) wN ?_
     exact f1
    ·intro _ w8 k102 _
     rintro _ _ rfl _ rfl _ rfl _ _ _ _ _ _ _ _ _ _ _ _ _ _
     show WL _ _ _ _ _ _ _
     have o104 := (own_kp (own_kp (own_kp (own_kp (own_kp o48 k53) k56) k62) k65) k102)
     refine ix wN ((16 + ((m : Nat) : Int)) - 7) slTy_56 (Rd.of_own o104) ?_
     exact f1
    ·intro _ w8 k105 _
     rintro _ _ rfl _ rfl _ rfl _ rfl _ _ _ _ _ _ _ _ _ _ _ _ _
     show WL _ _ _ _ _ _ _
     have o108 := (own_kp (own_kp (own_kp (own_kp (own_kp o48 k53) k56) k62) k65) k105)
     refine wl_loadE (iV z7) wN rfl rfl rfl rfl isAgg_3 (Rd.of_own o108) (by rw [← hz7]; exact iget (by simp) (by first | omega | (simp only [List.length_cons, List.length_nil, List.length_replicate, List.length_append, List.length_take, List.length_set, List.length_map]; omega))) ?_
     exact f1
    ·intro _ w8 k109 _
     rintro _ _ _ _ _ _ _ _ _ _ _ _ _ _ _ _ _ _
     show WL _ _ _ _ _ _ _
     refine mw (vs a3x (schedN x_block m).length c3x) ?_
     exact f1
    ·intro _ w8 k111 _
     rintro _ _ _ _ _ _ _ _ _ _ _ _ _ _ _ _ _ _
     show WL _ _ _ _ _ _ _
     refine mw (vi (16 + ((m : Nat) : Int))) ?_
     exact f1
    ·intro _ w8 k113 _
     rintro _ _ _ _ _ _ _ _ rfl _ _ _ _ _ _ _ _ _ _
     show WL _ _ _ _ _ _ _
     refine ar ((16 + ((m : Nat) : Int)) - 16) wN ?_
     exact f1
    ·intro _ w8 k115 _
     rintro _ _ _ _ _ _ _ rfl _ rfl _ rfl _ _ _ _ _ _ _ _ _
     show WL _ _ _ _ _ _ _
     have o117 := (own_kp (own_kp (own_kp (own_kp (own_kp o48 k53) k56) k62) k65) k115)
     refine ix wN ((16 + ((m : Nat) : Int)) - 16) slTy_56 (Rd.of_own o117) ?_
     exact f1
    ·intro _ w8 k118 _
     rintro _ _ _ _ _ _ _ rfl _ rfl _ rfl _ rfl _ _ _ _ _ _ _ _
     show WL _ _ _ _ _ _ _
     have o121 := (own_kp (own_kp (own_kp (own_kp (own_kp o48 k53) k56) k62) k65) k118)
     refine wl_loadE (iV z16) wN rfl rfl rfl rfl isAgg_3 (Rd.of_own o121) (by rw [← hz16]; exact iget (by simp) (by first | omega | (simp only [List.length_cons, List.length_nil, List.length_replicate, List.length_append, List.length_take, List.length_set, List.length_map]; omega))) ?_
     exact f1
    ·intro _ w8 k122 _
     rintro _ _ rfl _ rfl _ rfl _ rfl _ rfl _ rfl _ rfl _ rfl _ rfl _ rfl _ _ _ _ _ _ _
     show WL _ _ _ _ _ _ _
     refine ar (z7 + z16) wN ?_
     exact f1
    ·intro _ w8 k128 _
     rintro _ _ _ _ _ _ _ _ _ _ _ _ _ _ _ _ _ _
     show WL _ _ _ _ _ _ _
     refine mw (vi (xorI (xorI (rot z15 7) (rot z15 18)) (z15 / (2 : Int) ^ ((3 : Int)).toNat))) ?_
     exact f1
    ·intro _ w8 k130 _
     rintro _ _ rfl _ rfl _ rfl _ rfl _ rfl _ rfl _ rfl _ rfl _ rfl _ rfl _ rfl _ rfl _ _ _ _ _
     show WL _ _ _ _ _ _ _
     refine ar ((z7 + z16) + (xorI (xorI (rot z15 7) (rot z15 18)) (z15 / (2 : Int) ^ ((3 : Int)).toNat))) wN ?_
     exact f1
    ·intro _ w8 k136 _
     rintro _ _ _ _ _ _ _ _ _ _ _ _ _ _ _ _ _ _
     show WL _ _ _ _ _ _ _
     refine mw (vi (xorI (xorI (rot z2 17) (rot z2 19)) (z2 / (2 : Int) ^ ((10 : Int)).toNat))) ?_
     exact f1
    ·intro _ w8 k138 _
     rintro _ _ rfl _ rfl _ rfl _ rfl _ rfl _ rfl _ rfl _ rfl _ rfl _ rfl _ rfl _ rfl _ rfl _ rfl _ _ _
     show WL _ _ _ _ _ _ _
     refine ar (((z7 + z16) + (xorI (xorI (rot z15 7) (rot z15 18)) (z15 / (2 : Int) ^ ((3 : Int)).toNat))) + (xorI (xorI (rot z2 17) (rot z2 19)) (z2 / (2 : Int) ^ ((10 : Int)).toNat))) wN ?_
     exact f1
    ·intro _ w8 k144 _
     rintro _ _ rfl _ rfl _ rfl _ rfl _ rfl _ rfl _ rfl _ rfl _ rfl _ rfl _ rfl _ rfl _ rfl _ rfl _ rfl _ _
     show WL _ _ _ _ _ _ _
     refine wl_and (((z7 + z16) + (xorI (xorI (rot z15 7) (rot z15 18)) (z15 / (2 : Int) ^ ((3 : Int)).toNat))) + (xorI (xorI (rot z2 17) (rot z2 19)) (z2 / (2 : Int) ^ ((10 : Int)).toNat))) 4294967295 4294967296 32 wN rfl rfl (by decide) (by decide) (by decide) (by kernel_rfl) ?_
     exact f1
    ·intro _ w8 k150 _
     rintro _ _ rfl _ rfl _ rfl _ rfl _ rfl _ rfl _ rfl _ rfl _ rfl _ rfl _ rfl _ rfl _ rfl _ rfl _ rfl _ rfl _
     show WL _ _ _ _ _ _ _
     refine ltI ([((((z7 + z16) + (xorI (xorI (rot z15 7) (rot z15 18)) (z15 / (2 : Int) ^ ((3 : Int)).toNat))) + (xorI (xorI (rot z2 17) (rot z2 19)) (z2 / (2 : Int) ^ ((10 : Int)).toNat))) % 4294967296)] : List Int) wN slTy_56 ?_
     intro a156 c157 w9 k158 o159
     exact wl_finT k158 ⟨_, _, rfl, (own_lo o159 k150.size), (by simp), ⟨trivial, trivial⟩⟩
   ·intro _ w8 k162
    rintro _ rfl _ rfl _ rfl _ rfl _ rfl _ rfl _ rfl _ rfl _ rfl _ rfl _ rfl _ rfl _ rfl _ rfl _ rfl _ rfl _ rfl _ ⟨a168, c169, rfl, o170, s171, -⟩
    show WL _ _ _ _ _ _ _
    have o173 := (own_kp (own_kp (own_kp (own_kp (own_kp o48 k53) k56) k62) k65) k162)
    refine apI (schedN x_block m) ([((((z7 + z16) + (xorI (xorI (rot z15 7) (rot z15 18)) (z15 / (2 : Int) ^ ((3 : Int)).toNat))) + (xorI (xorI (rot z2 17) (rot z2 19)) (z2 / (2 : Int) ^ ((10 : Int)).toNat))) % 4294967296)] : List Int) wN slTy_56 o173 (Rd.of_own o170) (z8 k7 k17 k46 k53 k56 k62 k65 k162) ?_
    intro a174 c175 w9 k176 o177 j178 s179
    have m180 := (m66.extk k162).ext k176 (fun k hk => Nat.le_trans (Nat.le_refl w0.heap.size) (own_lt o48 k hk).1)
    refine aw (vs a174 ((schedN x_block m) ++ ([((((z7 + z16) + (xorI (xorI (rot z15 7) (rot z15 18)) (z15 / (2 : Int) ^ ((3 : Int)).toNat))) + (xorI (xorI (rot z2 17) (rot z2 19)) (z2 / (2 : Int) ^ ((10 : Int)).toNat))) % 4294967296)] : List Int)).length c175) ?_
    refine wl_nil <| wq_blk_normal <| wq_then <| wc_region ?_
    refine mw (vi (16 + ((m : Nat) : Int))) ?_
    refine ar ((16 + ((m : Nat) : Int)) + 1) wN ?_
    refine aw (vi ((16 + ((m : Nat) : Int)) + 1)) ?_
    refine wl_nil ?_
    have hE182 : (((schedN x_block m) ++ ([((((z7 + z16) + (xorI (xorI (rot z15 7) (rot z15 18)) (z15 / (2 : Int) ^ ((3 : Int)).toNat))) + (xorI (xorI (rot z2 17) (rot z2 19)) (z2 / (2 : Int) ^ ((10 : Int)).toNat))) % 4294967296)] : List Int)) : List Int) = schedN x_block (m + 1) := by subst hz7 hz16 hz15 hz2; exact schedN_app
    refine wq_loopP (w0 := w3) [(2, (vs none 0 0)), (3, (.slice a174 (schedN x_block (m + 1)).length c175)), (8, (vi (16 + (((m + 1) : Nat) : Int))))] ?_ ?_ ?_
    · exact ⟨rfl, (congrArg (fun l : List Int => Value.slice a174 l.length c175) hE182), (congrArg (Value.int .i64) (show (((16 + ((m : Nat) : Int)) + 1) : Int) = (16 + (((m + 1) : Nat) : Int)) by omega)), trivial⟩
    · exact fun u => ⟨(m + 1), u, a174, c175, rfl, m180, ((((((((Ch.refl (fun k => w0.heap.size ≤ k) w2).ext k46 (fun k hk => hk)).extk k53).extk k56).extk k62).extk k65).extk k162).ext k176 (fun k hk => Nat.le_trans (Nat.le_refl w0.heap.size) (own_lt o48 k hk).1)), (by omega), (hE182 ▸ ⟨o177, s179⟩)⟩
    · show (64 - (16 + (((m + 1) : Nat) : Int))).toNat < (64 - (16 + ((m : Nat) : Int))).toNat; omega
end Go.Proofs.Ytdbjmgkiccfhcaa.K
