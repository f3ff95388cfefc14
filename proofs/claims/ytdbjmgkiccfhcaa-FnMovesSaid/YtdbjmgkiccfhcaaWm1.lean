import Derived.Test.YtdbjmgkiccfhcaaCore
import Derived.Test.YtdbjmgkiccfhcaaProg
import Derived.Test.YtdbjmgkiccfhcaaHeld
import Derived.Test.YtdbjmgkiccfhcaaFun
import Derived.Test.YtdbjmgkiccfhcaaFunZ
import Derived.Test.YtdbjmgkiccfhcaaSqz
import Derived.Test.YtdbjmgkiccfhcaaCur
import Derived.Test.YtdbjmgkiccfhcaaDrawW
import Derived.Test.YtdbjmgkiccfhcaaAead
import Derived.Test.YtdbjmgkiccfhcaaDrawK
namespace Go.Proofs.Ytdbjmgkiccfhcaa.K
open Go.RowKit
set_option linter.unusedVariables false
set_option linter.unusedSimpArgs false
set_option maxRecDepth 100000
set_option maxHeartbeats 4000000
def LT_34 : LTy (PCand) := { E := 34, Eb := 5, sz := 4, enc := fun e => [vi e.1.A.Host, vi e.1.A.Port, vs (adr2 e.2 0).1 e.1.Draw.length (adr2 e.2 0).2, vi e.1.Until], bs := fun x => [x.Draw], len := fun _ => rfl, one := fun _ => one_all rfl, pos := by decide, ne := by decide }
def z_PCand : PCand := { A := { Host := 0, Port := 0 : PAddr }, Draw := [], Until := 0 : PCand }
def candAt (x_p : PPaths) (x_a : PAddr) : Int := findF (fun c : PCand => decide (c.A.Host = x_a.Host) && decide (c.A.Port = x_a.Port)) x_p.Cands
theorem candAt_range (x_p : PPaths) (x_a : PAddr) : -1 ≤ candAt x_p x_a ∧ candAt x_p x_a < (x_p.Cands.length : Int) := findF_range x_p.Cands
def LT_49 : LTy (PNote) := { E := 49, Eb := 5, sz := 12, enc := fun e => [vi e.1.Kind, vi e.1.Id, vi e.1.Role, vs (adr2 e.2 0).1 e.1.Cn.length (adr2 e.2 0).2, vs (adr2 e.2 1).1 e.1.Sn.length (adr2 e.2 1).2, vi e.1.Epoch, vi e.1.Seq, vs (adr2 e.2 2).1 e.1.Body.length (adr2 e.2 2).2, vs (adr2 e.2 3).1 e.1.Key.length (adr2 e.2 3).2, vi e.1.A.Host, vi e.1.A.Port, vi e.1.Now], bs := fun x => [x.Cn, x.Sn, x.Body, x.Key], len := fun _ => rfl, one := fun _ => one_all rfl, pos := by decide, ne := by decide }
def z_PNote : PNote := { Kind := 0, Id := 0, Role := 0, Cn := [], Sn := [], Epoch := 0, Seq := 0, Body := [], Key := [], A := { Host := 0, Port := 0 : PAddr }, Now := 0 : PNote }
theorem slTy_22 : SlTy Try.prog 22 5 1 1 (v8 0) := slTy Try.underlying22 (by kernel_rfl) rfl rfl
def Q_22 (w : World) (v : Value) (x : (List UInt8)) : Prop := ∃ (a1 : Option Addr) (c1 : Nat), v = .slice a1 x.length c1 ∧ Rd w 1 (.slice a1 x.length c1) x.length (x.map bV) ∧ x.length ≤ 9223372036854775807
def O_4 (w : World) (lo : Nat) (v : Value) (x : (Bool)) : Prop := v = .bool x
def F_laws_big (x_code : List UInt8) : (Bool) := decide (1048576 < (x_code.length : Int))
theorem C_laws_big (w0 : World) (v_x_code : Value) (x_code : List UInt8) (r_x_code : Q_22 w0 v_x_code x_code)  : Fn Try.prog 8 #[v_x_code] w0 (fun v w' => Keep w0 w' ∧ O_4 w' w0.heap.size v (F_laws_big x_code)) := by
 obtain ⟨a1, c2, rfl, r3, s4⟩ := r_x_code
 refine fn_ofS (n := 6) [(vs a1 x_code.length c2)] Try.func8 rfl rfl ?_
 refine sr ?_
 refine aw (vb false) ?_
 refine nx ?_
 refine mw (vs a1 x_code.length c2) ?_
 refine ln wN slTy_22 r3 ?_
 refine pu (vb (decide (1048576 < (x_code.length : Int)))) wN ?_
 refine aw (vb (decide (1048576 < (x_code.length : Int)))) ?_
 refine n3 ?_
 refine rt (vb (decide (1048576 < (x_code.length : Int)))) ?_
 refine ⟨Ch.refl _ _, ?_⟩
 have hF6 : F_laws_big x_code = decide (1048576 < (x_code.length : Int)) := by rfl
 rw [hF6]
 exact rfl
theorem big_f {x : List UInt8} (h : F_laws_big x = false) : x.length ≤ 1048576 := by
  have := of_decide_eq_false h
  omega

theorem isAgg_5 : ∀ w, (isAgg 5).run Try.prog w = .ok false w := fun w => by kernel_rfl
def R_22 (w : World) (v : Value) (x : (List UInt8)) : Prop := ∃ (a1 : Option Addr) (c1 : Nat), v = .slice a1 x.length c1 ∧ Rd w 1 (.slice a1 x.length c1) x.length (x.map bV) ∧ x.length ≤ 1073741824
theorem C_spec_l1New (w0 : World) (v_x_code : Value) (x_code : List UInt8) (r_x_code : R_22 w0 v_x_code x_code)  : Fn Try.prog 45 #[v_x_code] w0 (fun v w' => ∃ g, Keep w0 w' ∧ w0.heap.size ≤ g ∧ v = vp g 0 ∧ ∀ (a : Option Addr) (c : Nat), v_x_code = .slice a x_code.length c → CurX w' g 111 a c x_code) := by
 obtain ⟨a1, c2, rfl, r3, s4⟩ := r_x_code
 refine fn_ofS (n := 32) [(vs a1 x_code.length c2)] Try.func45 rfl rfl ?_
 refine sr ?_
 refine aw (.pointer none) ?_
 refine nx ?_
 refine mw (vs a1 x_code.length c2) ?_
 refine ln wN slTy_22 r3 ?_
 refine ar (127812 + (x_code.length : Int)) wN ?_
 refine aw (vi (127812 + (x_code.length : Int))) ?_
 refine n4 ?_
 refine aw (vi 0) ?_
 refine wl_nil <| wq_then <| wc_block ?_
 refine wc_loopP [(0, (vs a1 x_code.length c2)), (2, (.pointer none)), (3, (vi (127812 + (x_code.length : Int)))), (4, (vi ((0 : Nat) : Int)))] ⟨rfl, rfl, rfl, (congrArg (Value.int .i64) (show (0 : Int) = ((0 : Nat) : Int) by omega)), trivial⟩ (fun e' w' => ∃ (k : Nat) (q : Int) (u6 : Env), e' = pt u6 [(0, (vs a1 x_code.length c2)), (2, (.pointer none)), (3, (vi q)), (4, (vi ((k : Nat) : Int)))] ∧ Ch (fun k => w0.heap.size ≤ k) w0 w' ∧ Ch (fun k => w0.heap.size ≤ k) w0 w' ∧ k ≤ x_code.length ∧ 0 ≤ q ∧ q ≤ 1073869636) (fun e' _ => x_code.length - ((intOf (e' 4))).toNat) ?_ ?_
 ·exact fun u => ⟨0, (127812 + (x_code.length : Int)), u, rfl, (Ch.base w0), (Ch.refl (fun k => w0.heap.size ≤ k) w0), (by omega), (by omega), (by omega)⟩
 ·rintro _ w1 ⟨k, q, u6, rfl, m7, k8, i9, i10, i11⟩
  have hx8 : (x_code.getD k 0).toNat < 256 := UInt8.toNat_lt _
  refine wc_seq <| sr ?_
  refine mw (vi ((k : Nat) : Int)) ?_
  refine mw (vs a1 x_code.length c2) ?_
  refine ln wN slTy_22 (r3.from0 m7) ?_
  refine pu (vb (decide (((k : Nat) : Int) < (x_code.length : Int)))) wN ?_
  refine mw (vb (decide (((k : Nat) : Int) < (x_code.length : Int)))) ?_
  rcases bf (decide (((k : Nat) : Int) < (x_code.length : Int))) with h12 | h12
  ·have q23 := of_decide_eq_false h12
   iterate 2 refine sk h12 ?_
   refine pf (vb false) wN h12 ?_
   refine n2 ?_
   refine cf (Eq.refl false) ?_
   refine wc_exit <| wq_then_exit <| wq_then_exit <| wq_blk_exit <| wq_then <| sr ?_
   refine mw (vs a1 x_code.length c2) ?_
   refine mw (vi q) ?_
   refine pu (va [(vs a1 x_code.length c2), (vi 0), (vi q)]) wN ?_
   refine bx [(vs a1 x_code.length c2), (vi 0), (vi q)] wN ?_
   intro g24 w2 p25 p26 k27 b28
   have m29 := m7.extk k27
   refine aw (vp g24 0) ?_
   refine n3 ?_
   refine rt (vp g24 0) ?_
   refine ⟨g24, m29.keep0, (Nat.le_trans k8.size p25), rfl, fun a c hv => ?_⟩
   cases hv
   exact ⟨_, _, b28, (r3.from0 m29), s4, (by omega), (fun h0 z hz => Nat.ne_of_lt (Nat.lt_of_lt_of_le (rd_posB r3 h0 z hz) (Nat.le_trans k8.size p25)))⟩
  have q13 := of_decide_eq_true h12
  refine mv (vi ((k : Nat) : Int)) (wS h12) ?_
  refine pu (vb (decide (((k : Nat) : Int) < 4000))) (wS h12) ?_
  refine pk (vb (decide (((k : Nat) : Int) < 4000))) wN h12 ?_
  refine n2 ?_
  rcases bf (decide (((k : Nat) : Int) < 4000)) with h14 | h14
  ·have q16 := of_decide_eq_false h14
   refine cf h14 ?_
   refine wc_exit <| wq_then_exit <| wq_then_exit <| wq_blk_exit <| wq_then <| sr ?_
   refine mw (vs a1 x_code.length c2) ?_
   refine mw (vi q) ?_
   refine pu (va [(vs a1 x_code.length c2), (vi 0), (vi q)]) wN ?_
   refine bx [(vs a1 x_code.length c2), (vi 0), (vi q)] wN ?_
   intro g17 w2 p18 p19 k20 b21
   have m22 := m7.extk k20
   refine aw (vp g17 0) ?_
   refine n3 ?_
   refine rt (vp g17 0) ?_
   refine ⟨g17, m22.keep0, (Nat.le_trans k8.size p18), rfl, fun a c hv => ?_⟩
   cases hv
   exact ⟨_, _, b21, (r3.from0 m22), s4, (by omega), (fun h0 z hz => Nat.ne_of_lt (Nat.lt_of_lt_of_le (rd_posB r3 h0 z hz) (Nat.le_trans k8.size p18)))⟩
  have q15 := of_decide_eq_true h14
  refine ct h14 ?_
  refine wc_skip <| wq_then <| wc_seq <| wc_block <| wc_region ?_
  refine mw (vi q) ?_
  refine ar (q * 137) wN ?_
  refine mw (vs a1 x_code.length c2) ?_
  refine mw (vi ((k : Nat) : Int)) ?_
  refine ix wN ((k : Nat) : Int) slTy_22 (r3.from0 m7) ?_
  refine eb (x := x_code) k wN isAgg_5 (r3.from0 m7) ?_
  refine ar ((x_code.getD k 0).toNat : Int) wN ?_
  refine ar ((q * 137) + ((x_code.getD k 0).toNat : Int)) wN ?_
  refine ar (((q * 137) + ((x_code.getD k 0).toNat : Int)) + 11) wN ?_
  refine wl_and (((q * 137) + ((x_code.getD k 0).toNat : Int)) + 11) 1073741823 1073741824 30 wN rfl rfl (by decide) (by decide) (by decide) (by kernel_rfl) ?_
  refine aw (vi ((((q * 137) + ((x_code.getD k 0).toNat : Int)) + 11) % 1073741824)) ?_
  refine wl_nil <| wq_blk_normal <| wq_then <| wc_region ?_
  refine mw (vi ((k : Nat) : Int)) ?_
  refine ar (((k : Nat) : Int) + 1) wN ?_
  refine aw (vi (((k : Nat) : Int) + 1)) ?_
  refine wl_nil ?_
  refine wq_loopP (w0 := w1) [(0, (vs a1 x_code.length c2)), (2, (.pointer none)), (3, (vi ((((q * 137) + ((x_code.getD k 0).toNat : Int)) + 11) % 1073741824))), (4, (vi (((k + 1) : Nat) : Int)))] ?_ ?_ ?_
  · exact ⟨rfl, rfl, rfl, (congrArg (Value.int .i64) (show ((((k : Nat) : Int) + 1) : Int) = (((k + 1) : Nat) : Int) by omega)), trivial⟩
  · exact fun u => ⟨(k + 1), ((((q * 137) + ((x_code.getD k 0).toNat : Int)) + 11) % 1073741824), u, rfl, m7, ((Ch.refl (fun k => w0.heap.size ≤ k) w0).ext k8 (fun k hk => hk)), (by omega), (by omega), (by omega)⟩
  · show x_code.length - ((((k + 1) : Nat) : Int)).toNat < x_code.length - (((k : Nat) : Int)).toNat; omega

theorem isAgg_3 : ∀ w, (isAgg 3).run Try.prog w = .ok false w := fun w => by kernel_rfl
theorem sizeOf_3 : ∀ w, (sizeOf 3).run Try.prog w = .ok 1 w := fun w => by kernel_rfl
theorem mixed : Try.prog.follows .mixedOrders = true := by kernel_rfl
theorem isAgg_22 : ∀ w, (isAgg 22).run Try.prog w = .ok false w := fun w => by kernel_rfl
def O_3 (w : World) (lo : Nat) (v : Value) (x : (Int)) : Prop := v = .int .i64 x
theorem C_spec_l1Byte (w0 : World) (g : Nat) (ca : Option Addr) (cc : Nat) (cb : List UInt8) (r_c : CurX w0 g 111 ca cc cb)  : Fn Try.prog 93 #[(vp g 0)] w0 (fun v w' => ∃ x : (Int), Ch (fun k => k = g) w0 w' ∧ CurX w' g 111 ca cc cb ∧ O_3 w' w0.heap.size v x ∧ (0 ≤ x ∧ x ≤ 255)) := by
 obtain ⟨ci, chh, hcb, hcr, hcl, hci, hcn⟩ := r_c
 have hgl := Blk.lt hcb
 refine fn_ofS (n := 58) [(vp g 0)] Try.func93 rfl rfl ?_
 have hx8 : (cb.getD ci.toNat 0).toNat < 256 := UInt8.toNat_lt _
 refine sr ?_
 refine aw (vi 0) ?_
 refine nx ?_
 refine mw (vp g 0) ?_
 refine mw (vp g 0) ?_
 refine pu (vp g 0) wN ?_
 refine pu (vp g 2) wN ?_
 refine ld (vi chh) wN isAgg_3 hcb ?_
 refine wl_arb (IntKind.i64.wrap (chh * 6364136223846793005)) wN rfl rfl (by kernel_rfl) ?_
 intro ab1
 refine wl_arb (IntKind.i64.wrap (ab1 + 1442695040888963407)) wN rfl rfl (by kernel_rfl) ?_
 intro ab2
 refine pu (vp g 0) wN ?_
 refine pu (vp g 2) wN ?_
 refine st (vi ab2) [(vi ab2)] [(vs ca cb.length cc), (vi ci), (vi ab2)] wN sizeOf_3 hcb ?_
 intro w1 k3 b4 z5
 have m6 := ChG.ext (Ch.refl (fun k => k = g) w0) k3 (fun k hk => .inl hk)
 refine wl_nil <| wq_then <| wc_seq ?_
 refine wc_drawT ([(13, [], [], (fun _ v _ => v = (vp g 0))), (14, [], [0], (fun _ v _ => v = (vp g 0))), (15, [], [0, 1], (fun _ v _ => v = (vp g 2))), (16, [], [0, 1, 2], (fun _ v _ => v = (vi ab2))), (17, [], [0, 1, 2, 3], (fun _ v _ => v = (vi (ab2 / (2 : Int) ^ ((33 : Int)).toNat)))), (18, [], [], (fun _ v _ => v = (vp g 0))), (19, [], [5], (fun _ v _ => v = (vp g 0))), (20, [], [5, 6], (fun _ v _ => v = (vp g 2))), (21, [], [5, 6, 7], (fun _ v _ => v = (vi ab2))), (22, [], [5, 6, 7, 8], (fun _ v _ => v = (vi (ab2 / (2 : Int) ^ ((47 : Int)).toNat))))] : GV) (fun _ w' => Keep w1 w') [] mixed rfl (by kernel_rfl) (by kernel_rfl) ?_ (fun _ _ h => h) (fun _ _ _ _ h _ k => h.trans k) trivial ?_ ?_ ?_
 ·exact ⟨hV, hE, ⟨hV, hE, ⟨hV, hE, ⟨hV, hE, ⟨hV, hE, ⟨hV, hE, ⟨hV, hE, ⟨hV, hE, ⟨hV, hE, ⟨hV, hE, trivial⟩⟩⟩⟩⟩⟩⟩⟩⟩⟩
 ·exact trivial
 ·refine ⟨?_, ⟨?_, ⟨?_, ⟨?_, ⟨?_, ⟨?_, ⟨?_, ⟨?_, ⟨?_, ⟨?_, trivial⟩⟩⟩⟩⟩⟩⟩⟩⟩⟩
  ·intro _ w2 k8 _
   rintro _ _ _ _ _ _ _ _ _ _
   show WL _ _ _ _ _ _ _
   refine mw (vp g 0) ?_
   exact f1
  ·intro _ w2 k10 _
   rintro _ rfl _ _ _ _ _ _ _ _ _
   show WL _ _ _ _ _ _ _
   refine pu (vp g 0) wN ?_
   exact f1
  ·intro _ w2 k12 _
   rintro _ rfl _ rfl _ _ _ _ _ _ _ _
   show WL _ _ _ _ _ _ _
   refine pu (vp g 2) wN ?_
   exact f1
  ·intro _ w2 k14 _
   rintro _ rfl _ rfl _ rfl _ _ _ _ _ _ _
   show WL _ _ _ _ _ _ _
   have b16 := (b4.kp k14)
   refine ld (vi ab2) wN isAgg_3 b16 ?_
   exact f1
  ·intro _ w2 k17 _
   rintro _ rfl _ rfl _ rfl _ rfl _ _ _ _ _ _
   show WL _ _ _ _ _ _ _
   refine wl_shrU ab2 (33 : Int) wN rfl rfl rfl rfl rfl (by omega) (by omega) ?_
   exact f1
  ·intro _ w2 k20 _
   rintro _ _ _ _ _ _ _ _ _ _
   show WL _ _ _ _ _ _ _
   refine mw (vp g 0) ?_
   exact f1
  ·intro _ w2 k22 _
   rintro _ _ _ _ _ _ rfl _ _ _ _
   show WL _ _ _ _ _ _ _
   refine pu (vp g 0) wN ?_
   exact f1
  ·intro _ w2 k24 _
   rintro _ _ _ _ _ _ rfl _ rfl _ _ _
   show WL _ _ _ _ _ _ _
   refine pu (vp g 2) wN ?_
   exact f1
  ·intro _ w2 k26 _
   rintro _ _ _ _ _ _ rfl _ rfl _ rfl _ _
   show WL _ _ _ _ _ _ _
   have b28 := (b4.kp k26)
   refine ld (vi ab2) wN isAgg_3 b28 ?_
   exact f1
  ·intro _ w2 k29 _
   rintro _ _ _ _ _ _ rfl _ rfl _ rfl _ rfl _
   show WL _ _ _ _ _ _ _
   refine wl_shrU ab2 (47 : Int) wN rfl rfl rfl rfl rfl (by omega) (by omega) ?_
   exact f1
 ·intro _ w2 k32
  have m33 := ChG.extk m6 k32
  rintro _ rfl _ rfl _ rfl _ rfl _ rfl _ rfl _ rfl _ rfl _ rfl _ rfl
  show WL _ _ _ _ _ _ _
  refine wl_xorA (ab2 / (2 : Int) ^ ((33 : Int)).toNat) (ab2 / (2 : Int) ^ ((47 : Int)).toNat) wN rfl rfl (by kernel_rfl) ?_
  refine wl_and (xorA (ab2 / (2 : Int) ^ ((33 : Int)).toNat) (ab2 / (2 : Int) ^ ((47 : Int)).toNat)) 255 256 8 wN rfl rfl (by decide) (by decide) (by decide) (by kernel_rfl) ?_
  refine aw (vi ((xorA (ab2 / (2 : Int) ^ ((33 : Int)).toNat) (ab2 / (2 : Int) ^ ((47 : Int)).toNat)) % 256)) ?_
  refine wl_nil <| wq_then <| wc_seq <| wc_seq ?_
  refine wc_drawT ([(25, [], [], (fun _ v _ => v = (vp g 0))), (26, [], [0], (fun _ v _ => v = (vp g 0))), (27, [], [0, 1], (fun _ v _ => v = (vp g 1))), (28, [], [0, 1, 2], (fun _ v _ => v = (vi ci))), (29, [], [], (fun _ v _ => v = (vp g 0))), (30, [], [4], (fun _ v _ => v = (vp g 0))), (31, [], [4, 5], (fun _ v _ => v = (vp g 0))), (32, [], [4, 5, 6], (fun _ v _ => v = (vs ca cb.length cc))), (33, [], [4, 5, 6, 7], (fun _ v _ => v = (vi (cb.length : Int))))] : GV) (fun _ w' => Keep w2 w') [] mixed rfl (by kernel_rfl) (by kernel_rfl) ?_ (fun _ _ h => h) (fun _ _ _ _ h _ k => h.trans k) trivial ?_ ?_ ?_
  ·exact ⟨hV, hE, ⟨hV, hE, ⟨hV, hE, ⟨hV, hE, ⟨hV, hE, ⟨hV, hE, ⟨hV, hE, ⟨hV, hE, ⟨hV, hE, trivial⟩⟩⟩⟩⟩⟩⟩⟩⟩
  ·exact trivial
  ·refine ⟨?_, ⟨?_, ⟨?_, ⟨?_, ⟨?_, ⟨?_, ⟨?_, ⟨?_, ⟨?_, trivial⟩⟩⟩⟩⟩⟩⟩⟩⟩
   ·intro _ w3 k39 _
    rintro _ _ _ _ _ _ _ _ _
    show WL _ _ _ _ _ _ _
    refine mw (vp g 0) ?_
    exact f1
   ·intro _ w3 k41 _
    rintro _ rfl _ _ _ _ _ _ _ _
    show WL _ _ _ _ _ _ _
    refine pu (vp g 0) wN ?_
    exact f1
   ·intro _ w3 k43 _
    rintro _ rfl _ rfl _ _ _ _ _ _ _
    show WL _ _ _ _ _ _ _
    refine pu (vp g 1) wN ?_
    exact f1
   ·intro _ w3 k45 _
    rintro _ rfl _ rfl _ rfl _ _ _ _ _ _
    show WL _ _ _ _ _ _ _
    have b47 := ((b4.kp k32).kp k45)
    refine ld (vi ci) wN isAgg_3 b47 ?_
    exact f1
   ·intro _ w3 k48 _
    rintro _ _ _ _ _ _ _ _ _
    show WL _ _ _ _ _ _ _
    refine mw (vp g 0) ?_
    exact f1
   ·intro _ w3 k50 _
    rintro _ _ _ _ _ rfl _ _ _ _
    show WL _ _ _ _ _ _ _
    refine pu (vp g 0) wN ?_
    exact f1
   ·intro _ w3 k52 _
    rintro _ _ _ _ _ rfl _ rfl _ _ _
    show WL _ _ _ _ _ _ _
    refine pu (vp g 0) wN ?_
    exact f1
   ·intro _ w3 k54 _
    rintro _ _ _ _ _ rfl _ rfl _ rfl _ _
    show WL _ _ _ _ _ _ _
    have b56 := ((b4.kp k32).kp k54)
    refine ld (vs ca cb.length cc) wN isAgg_22 b56 ?_
    exact f1
   ·intro _ w3 k57 _
    have m58 := ChG.extk m33 k57
    rintro _ _ _ _ _ rfl _ rfl _ rfl _ rfl _
    show WL _ _ _ _ _ _ _
    refine ln wN slTy_22 (Rd.chP hcr m58 hcn) ?_
    exact f1
  ·intro _ w3 k60
   have m61 := ChG.extk m33 k60
   rintro _ rfl _ rfl _ rfl _ rfl _ rfl _ rfl _ rfl _ rfl _ rfl
   show WL _ _ _ _ _ _ _
   refine pu (vb (decide (ci < (cb.length : Int)))) wN ?_
   refine n2 ?_
   rcases bf (decide (ci < (cb.length : Int))) with h64 | h64
   ·have q111 := of_decide_eq_false h64
    refine cf h64 ?_
    refine y1 ?_
    refine mw (vi ((xorA (ab2 / (2 : Int) ^ ((33 : Int)).toNat) (ab2 / (2 : Int) ^ ((47 : Int)).toNat)) % 256)) ?_
    refine aw (vi ((xorA (ab2 / (2 : Int) ^ ((33 : Int)).toNat) (ab2 / (2 : Int) ^ ((47 : Int)).toNat)) % 256)) ?_
    refine n3 ?_
    refine rt (vi ((xorA (ab2 / (2 : Int) ^ ((33 : Int)).toNat) (ab2 / (2 : Int) ^ ((47 : Int)).toNat)) % 256)) ?_
    have b112 := ((b4.kp k32).kp k60)
    exact ⟨((xorA (ab2 / (2 : Int) ^ ((33 : Int)).toNat) (ab2 / (2 : Int) ^ ((47 : Int)).toNat)) % 256), m61, ⟨_, _, b112, (Rd.chP hcr m61 hcn), hcl, (by omega), hcn⟩, rfl, (by omega)⟩
   have q65 := of_decide_eq_true h64
   refine ct h64 ?_
   refine wc_seq ?_
   refine wc_drawT ([(35, [], [], (fun _ v _ => v = (vi ((xorA (ab2 / (2 : Int) ^ ((33 : Int)).toNat) (ab2 / (2 : Int) ^ ((47 : Int)).toNat)) % 256)))), (36, [], [], (fun _ v _ => v = (vp g 0))), (37, [], [1], (fun _ v _ => v = (vp g 0))), (38, [], [1, 2], (fun _ v _ => v = (vp g 0))), (39, [], [1, 2, 3], (fun _ v _ => v = (vs ca cb.length cc))), (40, [], [], (fun _ v _ => v = (vp g 0))), (41, [], [5], (fun _ v _ => v = (vp g 0))), (42, [], [5, 6], (fun _ v _ => v = (vp g 1))), (43, [], [5, 6, 7], (fun _ v _ => v = (vi ci))), (44, [], [1, 2, 3, 4, 5, 6, 7, 8], (fun _ v _ => v = (ve (vs ca cb.length cc) ((ci).toNat * 1)))), (45, [], [1, 2, 3, 4, 5, 6, 7, 8, 9], (fun _ v _ => v = (v8 ((cb.getD (ci).toNat 0).toNat : Int)))), (46, [], [1, 2, 3, 4, 5, 6, 7, 8, 9, 10], (fun _ v _ => v = (vi ((cb.getD (ci).toNat 0).toNat : Int))))] : GV) (fun _ w' => Keep w3 w') [] mixed rfl (by kernel_rfl) (by kernel_rfl) ?_ (fun _ _ h => h) (fun _ _ _ _ h _ k => h.trans k) trivial ?_ ?_ ?_
   ·exact ⟨hV, hE, ⟨hV, hE, ⟨hV, hE, ⟨hV, hE, ⟨hV, hE, ⟨hV, hE, ⟨hV, hE, ⟨hV, hE, ⟨hV, hE, ⟨hV, hE, ⟨hV, hE, ⟨hV, hE, trivial⟩⟩⟩⟩⟩⟩⟩⟩⟩⟩⟩⟩
   ·exact trivial
   ·refine ⟨?_, ⟨?_, ⟨?_, ⟨?_, ⟨?_, ⟨?_, ⟨?_, ⟨?_, ⟨?_, ⟨?_, ⟨?_, ⟨?_, trivial⟩⟩⟩⟩⟩⟩⟩⟩⟩⟩⟩⟩
    ·intro _ w4 k69 _
     rintro _ _ _ _ _ _ _ _ _ _ _ _
     show WL _ _ _ _ _ _ _
     refine mw (vi ((xorA (ab2 / (2 : Int) ^ ((33 : Int)).toNat) (ab2 / (2 : Int) ^ ((47 : Int)).toNat)) % 256)) ?_
     exact f1
    ·intro _ w4 k71 _
     rintro _ _ _ _ _ _ _ _ _ _ _ _
     show WL _ _ _ _ _ _ _
     refine mw (vp g 0) ?_
     exact f1
    ·intro _ w4 k73 _
     rintro _ _ rfl _ _ _ _ _ _ _ _ _ _
     show WL _ _ _ _ _ _ _
     refine pu (vp g 0) wN ?_
     exact f1
    ·intro _ w4 k75 _
     rintro _ _ rfl _ rfl _ _ _ _ _ _ _ _ _
     show WL _ _ _ _ _ _ _
     refine pu (vp g 0) wN ?_
     exact f1
    ·intro _ w4 k77 _
     rintro _ _ rfl _ rfl _ rfl _ _ _ _ _ _ _ _
     show WL _ _ _ _ _ _ _
     have b79 := (((b4.kp k32).kp k60).kp k77)
     refine ld (vs ca cb.length cc) wN isAgg_22 b79 ?_
     exact f1
    ·intro _ w4 k80 _
     rintro _ _ _ _ _ _ _ _ _ _ _ _
     show WL _ _ _ _ _ _ _
     refine mw (vp g 0) ?_
     exact f1
    ·intro _ w4 k82 _
     rintro _ _ _ _ _ _ rfl _ _ _ _ _ _
     show WL _ _ _ _ _ _ _
     refine pu (vp g 0) wN ?_
     exact f1
    ·intro _ w4 k84 _
     rintro _ _ _ _ _ _ rfl _ rfl _ _ _ _ _
     show WL _ _ _ _ _ _ _
     refine pu (vp g 1) wN ?_
     exact f1
    ·intro _ w4 k86 _
     rintro _ _ _ _ _ _ rfl _ rfl _ rfl _ _ _ _
     show WL _ _ _ _ _ _ _
     have b88 := (((b4.kp k32).kp k60).kp k86)
     refine ld (vi ci) wN isAgg_3 b88 ?_
     exact f1
    ·intro _ w4 k89 _
     have m90 := ChG.extk m61 k89
     rintro _ _ rfl _ rfl _ rfl _ rfl _ rfl _ rfl _ rfl _ rfl _ _ _
     show WL _ _ _ _ _ _ _
     refine ix wN ci slTy_22 (Rd.chP hcr m90 hcn) ?_
     exact f1
    ·intro _ w4 k93 _
     have m94 := ChG.extk m61 k93
     rintro _ _ rfl _ rfl _ rfl _ rfl _ rfl _ rfl _ rfl _ rfl _ rfl _ _
     show WL _ _ _ _ _ _ _
     refine eb (x := cb) ((ci).toNat) wN isAgg_5 (Rd.chP hcr m94 hcn) ?_
     exact f1
    ·intro _ w4 k97 _
     rintro _ _ rfl _ rfl _ rfl _ rfl _ rfl _ rfl _ rfl _ rfl _ rfl _ rfl _
     show WL _ _ _ _ _ _ _
     refine ar ((cb.getD (ci).toNat 0).toNat : Int) wN ?_
     exact f1
   ·intro _ w4 k101
    have m102 := ChG.extk m61 k101
    rintro _ rfl _ rfl _ rfl _ rfl _ rfl _ rfl _ rfl _ rfl _ rfl _ rfl _ rfl _ rfl
    show WL _ _ _ _ _ _ _
    refine wl_arb (IntKind.i64.wrap (((xorA (ab2 / (2 : Int) ^ ((33 : Int)).toNat) (ab2 / (2 : Int) ^ ((47 : Int)).toNat)) % 256) + ((cb.getD (ci).toNat 0).toNat : Int))) wN rfl rfl (by kernel_rfl) ?_
    intro ab105
    refine wl_and ab105 255 256 8 wN rfl rfl (by decide) (by decide) (by decide) (by kernel_rfl) ?_
    refine aw (vi (ab105 % 256)) ?_
    refine wl_nil <| wq_then <| wc_region ?_
    refine mw (vp g 0) ?_
    refine mw (vp g 0) ?_
    refine pu (vp g 0) wN ?_
    refine pu (vp g 1) wN ?_
    have b106 := (((b4.kp k32).kp k60).kp k101)
    refine ld (vi ci) wN isAgg_3 b106 ?_
    refine ar (ci + 1) wN ?_
    refine pu (vp g 0) wN ?_
    refine pu (vp g 1) wN ?_
    refine st (vi (ci + 1)) [(vi (ci + 1))] [(vs ca cb.length cc), (vi (ci + 1)), (vi ab2)] wN sizeOf_3 b106 ?_
    intro w5 k107 b108 z109
    have m110 := ChG.ext m102 k107 (fun k hk => .inl hk)
    refine nx ?_
    refine mw (vi (ab105 % 256)) ?_
    refine aw (vi (ab105 % 256)) ?_
    refine n3 ?_
    refine rt (vi (ab105 % 256)) ?_
    exact ⟨(ab105 % 256), m110, ⟨_, _, b108, (Rd.chP hcr m110 hcn), hcl, (by omega), hcn⟩, rfl, (by omega)⟩

theorem C_spec_l1Below (w0 : World) (g : Nat) (ca : Option Addr) (cc : Nat) (cb : List UInt8) (r_c : CurX w0 g 111 ca cc cb) (x_n : Int)  : Fn Try.prog 50 #[(vp g 0), (vi x_n)] w0 (fun v w' => ∃ x : (Int), Ch (fun k => k = g) w0 w' ∧ CurX w' g 111 ca cc cb ∧ O_3 w' w0.heap.size v x ∧ (0 ≤ x ∧ (x < x_n ∨ ((x_n : Int) ≤ 0 ∧ x = 0)))) := by
 obtain ⟨ci, chh, hcb, hcr, hcl, hci, hcn⟩ := r_c
 have hgl := Blk.lt hcb
 refine fn_ofS (n := 31) [(vp g 0), (vi x_n)] Try.func50 rfl rfl ?_
 refine sr ?_
 refine aw (vi 0) ?_
 refine n4 ?_
 refine mw (vi x_n) ?_
 refine pu (vb (decide (x_n ≤ 0))) wN ?_
 refine n2 ?_
 rcases bt (decide (x_n ≤ 0)) with h1 | h1
 ·have q2 := of_decide_eq_true h1
  refine ct h1 ?_
  refine sr ?_
  refine aw (vi 0) ?_
  refine n1 ?_
  refine rt (vi 0) ?_
  exact ⟨0, (Ch.refl (fun k => k = g) w0), ⟨_, _, hcb, hcr, hcl, (by omega), hcn⟩, rfl, (by omega)⟩
 have q3 := of_decide_eq_false h1
 refine cf h1 ?_
 refine y2 ?_
 refine mw (vi x_n) ?_
 refine pu (vb (decide (x_n ≤ 256))) wN ?_
 refine n2 ?_
 rcases bt (decide (x_n ≤ 256)) with h4 | h4
 ·have q5 := of_decide_eq_true h4
  refine ct h4 ?_
  refine sr ?_
  refine mw (vp g 0) ?_
  refine cl wN (C_spec_l1Byte w0 g ca cc cb ⟨_, _, hcb, hcr, hcl, (by omega), hcn⟩) ?_
  rintro _ w1 ⟨x7, k6, ⟨i9, h10, b11, r12, l13, p14, n15⟩, rfl, q8⟩
  have m16 := ChG.ext (Ch.refl (fun k => k = g) w0) k6 (fun k hk => .inl hk)
  refine mw (vi x_n) ?_
  refine wl_remv (x7) x_n wN rfl rfl rfl rfl rfl (by omega) (by omega) ?_
  have q17 := rem_b (a := (x7)) (m := x_n) (by omega)
  refine aw (vi ((x7) % x_n)) ?_
  refine n1 ?_
  refine rt (vi ((x7) % x_n)) ?_
  exact ⟨((x7) % x_n), m16, ⟨_, _, b11, (Rd.chP hcr m16 hcn), hcl, (by omega), hcn⟩, rfl, (by omega)⟩
 have q18 := of_decide_eq_false h4
 refine cf h4 ?_
 refine y1 ?_
 refine mw (vp g 0) ?_
 refine cl wN (C_spec_l1Byte w0 g ca cc cb ⟨_, _, hcb, hcr, hcl, (by omega), hcn⟩) ?_
 rintro _ w1 ⟨x20, k19, ⟨i22, h23, b24, r25, l26, p27, n28⟩, rfl, q21⟩
 have m29 := ChG.ext (Ch.refl (fun k => k = g) w0) k19 (fun k hk => .inl hk)
 refine aw (vi (x20)) ?_
 refine nx ?_
 refine mw (vp g 0) ?_
 refine cl wN (C_spec_l1Byte w1 g ca cc cb ⟨_, _, b24, (Rd.chP hcr m29 hcn), hcl, (by omega), hcn⟩) ?_
 rintro _ w2 ⟨x31, k30, ⟨i33, h34, b35, r36, l37, p38, n39⟩, rfl, q32⟩
 have m40 := ChG.ext m29 k30 (fun k hk => .inl hk)
 refine aw (vi (x31)) ?_
 refine nx ?_
 refine mw (vp g 0) ?_
 refine cl wN (C_spec_l1Byte w2 g ca cc cb ⟨_, _, b35, (Rd.chP hcr m40 hcn), hcl, (by omega), hcn⟩) ?_
 rintro _ w3 ⟨x42, k41, ⟨i44, h45, b46, r47, l48, p49, n50⟩, rfl, q43⟩
 have m51 := ChG.ext m40 k41 (fun k hk => .inl hk)
 refine aw (vi (x42)) ?_
 refine nx ?_
 refine mw (vi (x20)) ?_
 refine ar ((x20) * 65536) wN ?_
 refine mw (vi (x31)) ?_
 refine ar ((x31) * 256) wN ?_
 refine ar (((x20) * 65536) + ((x31) * 256)) wN ?_
 refine mw (vi (x42)) ?_
 refine ar ((((x20) * 65536) + ((x31) * 256)) + (x42)) wN ?_
 refine mw (vi x_n) ?_
 refine wl_remv ((((x20) * 65536) + ((x31) * 256)) + (x42)) x_n wN rfl rfl rfl rfl rfl (by omega) (by omega) ?_
 have q52 := rem_b (a := ((((x20) * 65536) + ((x31) * 256)) + (x42))) (m := x_n) (by omega)
 refine aw (vi (((((x20) * 65536) + ((x31) * 256)) + (x42)) % x_n)) ?_
 refine n3 ?_
 refine rt (vi (((((x20) * 65536) + ((x31) * 256)) + (x42)) % x_n)) ?_
 exact ⟨(((((x20) * 65536) + ((x31) * 256)) + (x42)) % x_n), m51, ⟨_, _, b46, (Rd.chP hcr m51 hcn), hcl, (by omega), hcn⟩, rfl, (by omega)⟩

def F_spec_l1In (x_x : Int) (x_least : Int) (x_most : Int) : (Bool) := bif (decide (x_least ≤ x_x)) then (decide (x_x ≤ x_most)) else (false)
theorem C_spec_l1In (w0 : World) (x_x : Int) (x_least : Int) (x_most : Int)  : Fn Try.prog 58 #[(vi x_x), (vi x_least), (vi x_most)] w0 (fun v w' => Keep w0 w' ∧ O_4 w' w0.heap.size v (F_spec_l1In x_x x_least x_most)) := by
 refine fn_ofS (n := 15) [(vi x_x), (vi x_least), (vi x_most)] Try.func58 rfl rfl ?_
 refine sr ?_
 refine aw (vb false) ?_
 refine nx ?_
 refine mw (vi x_x) ?_
 refine mw (vi x_least) ?_
 refine pu (vb (decide (x_least ≤ x_x))) wN ?_
 refine mw (vb (decide (x_least ≤ x_x))) ?_
 rcases bf (decide (x_least ≤ x_x)) with h1 | h1
 ·have q4 := of_decide_eq_false h1
  iterate 3 refine sk h1 ?_
  refine pf (vb false) wN h1 ?_
  refine aw (vb false) ?_
  refine n3 ?_
  refine rt (vb false) ?_
  refine ⟨Ch.refl _ _, ?_⟩
  simp only [F_spec_l1In, h1, cond_true, cond_false]
  exact rfl
 have q2 := of_decide_eq_true h1
 refine mv (vi x_x) (wS h1) ?_
 refine mv (vi x_most) (wS h1) ?_
 refine pu (vb (decide (x_x ≤ x_most))) (wS h1) ?_
 refine pk (vb (decide (x_x ≤ x_most))) wN h1 ?_
 refine aw (vb (decide (x_x ≤ x_most))) ?_
 refine n3 ?_
 refine rt (vb (decide (x_x ≤ x_most))) ?_
 refine ⟨Ch.refl _ _, ?_⟩
 simp only [F_spec_l1In, h1, cond_true, cond_false]
 exact rfl
theorem spec_l1In_t {n a b : Int} (h : F_spec_l1In n a b = true) : a ≤ n ∧ n ≤ b := by
  unfold F_spec_l1In at h
  by_cases h1 : a ≤ n <;> simp [h1] at h
  exact ⟨h1, h⟩
theorem spec_l1In_f {n a b : Int} (h : F_spec_l1In n a b = false) : n < a ∨ b < n := by
  unfold F_spec_l1In at h
  by_cases h1 : a ≤ n <;> simp [h1] at h <;> omega

theorem zero_25 : ∀ w, (zeroValue 25).run Try.prog w = .ok (va [(vi 0), (vi 0)]) w := fun w => by kernel_rfl
theorem sizeOf_25 : ∀ w, (sizeOf 25).run Try.prog w = .ok 2 w := fun w => by kernel_rfl
theorem isAgg_25 : ∀ w, (isAgg 25).run Try.prog w = .ok true w := fun w => by kernel_rfl
def O_25 (w : World) (lo : Nat) (v : Value) (x : (PAddr)) : Prop := v = .agg #[.int .i64 x.Host, .int .i64 x.Port]
def F_spec_Near (x_i : Int) : (PAddr) := bif (F_spec_l1In x_i 0 255) then ({ Host := (167772160 + x_i), Port := (7000 + x_i) : PAddr }) else ({ Host := 0, Port := 0 : PAddr })
theorem C_spec_Near (w0 : World) (x_i : Int)  : Fn Try.prog 48 #[(vi x_i)] w0 (fun v w' => Keep w0 w' ∧ O_25 w' w0.heap.size v (F_spec_Near x_i)) := by
 refine fn_ofS (n := 12) [(vi x_i)] Try.func48 rfl rfl ?_
 refine sr ?_
 refine al [(vi 0), (vi 0)] wN zero_25 ?_
 intro g1 w1 p2 p3 k4 b5
 refine n4 ?_
 refine mw (vi x_i) ?_
 refine cl wN (C_spec_l1In w1 x_i 0 255) ?_
 rintro _ w2 ⟨k7, rfl⟩
 have m8 := ((Ch.base w0).extk k4).extk k7
 refine pu (vb (!(F_spec_l1In x_i 0 255))) wN ?_
 refine n2 ?_
 rcases bf (F_spec_l1In x_i 0 255) with h9 | h9
 ·have q17 := spec_l1In_f h9
  refine ct (congrArg not h9) ?_
  refine sr ?_
  refine pu (va [(vi 0), (vi 0)]) wN ?_
  have b18 := (b5.kp k7)
  refine sv [(vi 0), (vi 0)] wN sizeOf_25 b18 ?_
  intro w3 k19 b20 z21
  have m22 := m8.ext k19 (fun k hk => by subst hk; exact p2)
  refine n1 ?_
  refine ret_1 (.inl rfl) (va [(vi 0), (vi 0)]) rfl (rv_c [(vi 0), (vi 0)] rfl b20 isAgg_25 sizeOf_25) ?_
  refine ⟨m22.keep0, ?_⟩
  simp only [F_spec_Near, h9, cond_true, cond_false]
  exact rfl
 have q10 := spec_l1In_t h9
 refine cf (congrArg not h9) ?_
 refine y1 ?_
 refine mw (vi x_i) ?_
 refine ar (167772160 + x_i) wN ?_
 refine mw (vi x_i) ?_
 refine ar (7000 + x_i) wN ?_
 refine pu (va [(vi (167772160 + x_i)), (vi (7000 + x_i))]) wN ?_
 have b11 := (b5.kp k7)
 refine sv [(vi (167772160 + x_i)), (vi (7000 + x_i))] wN sizeOf_25 b11 ?_
 intro w3 k12 b13 z14
 have m15 := m8.ext k12 (fun k hk => by subst hk; exact p2)
 refine n3 ?_
 refine ret_1 (.inl rfl) (va [(vi (167772160 + x_i)), (vi (7000 + x_i))]) rfl (rv_c [(vi (167772160 + x_i)), (vi (7000 + x_i))] rfl b13 isAgg_25 sizeOf_25) ?_
 refine ⟨m15.keep0, ?_⟩
 simp only [F_spec_Near, h9, cond_true, cond_false]
 exact rfl

abbrev L_25 (x : PAddr)  : List Value := [vi x.Host, vi x.Port]
theorem zero_28 : ∀ w, (zeroValue 28).run Try.prog w = .ok (va [(vi 0), (vi 0), (vs none 0 0)]) w := fun w => by kernel_rfl
theorem sizeOf_28 : ∀ w, (sizeOf 28).run Try.prog w = .ok 3 w := fun w => by kernel_rfl
theorem isAgg_28 : ∀ w, (isAgg 28).run Try.prog w = .ok true w := fun w => by kernel_rfl
def R_25 (w : World) (v : Value) (x : (PAddr)) : Prop := v = .agg #[.int .i64 x.Host, .int .i64 x.Port]
def O_28 (w : World) (lo : Nat) (v : Value) (x : (PPaths)) : Prop := ∃ (a1 : Option Addr) (c1 : Nat), v = .agg #[.int .i64 x.At.Host, .int .i64 x.At.Port, .slice a1 x.Cands.length c1] ∧ OLv LT_34 w lo w.heap.size a1 x.Cands.length c1 x.Cands ∧ x.Cands.length ≤ 1073741824 ∧ Aps [(a1, c1)]
def F_spec_PathsNew (x_a : PAddr) : (PPaths) := { At := x_a, Cands := [] : PPaths }
theorem C_spec_PathsNew (w0 : World) (v_x_a : Value) (x_a : PAddr) (r_x_a : R_25 w0 v_x_a x_a)  : Fn Try.prog 112 #[v_x_a] w0 (fun v w' => Keep w0 w' ∧ O_28 w' w0.heap.size v (F_spec_PathsNew x_a)) := by
 obtain rfl := r_x_a
 refine fn_ofS (n := 5) [(va (L_25 x_a))] Try.func112 rfl rfl ?_
 refine sr ?_
 refine bx (L_25 x_a) wN ?_
 intro g1 w1 p2 p3 k4 b5
 refine al [(vi 0), (vi 0), (vs none 0 0)] wN zero_28 ?_
 intro g7 w2 p8 p9 k10 b11
 refine nx ?_
 have b13 := (b5.kp k10)
 refine lN (L_25 x_a) wN isAgg_25 sizeOf_25 b13 ?_
 refine pu (va [(vi x_a.Host), (vi x_a.Port), (vs none 0 0)]) wN ?_
 refine sv [(vi x_a.Host), (vi x_a.Port), (vs none 0 0)] wN sizeOf_28 b11 ?_
 intro w3 k14 b15 z16
 have m17 := (((Ch.base w0).extk k4).extk k10).ext k14 (fun k hk => by subst hk; exact Nat.le_trans k4.size p8)
 refine n3 ?_
 refine ret_1 (.inl rfl) (va [(vi x_a.Host), (vi x_a.Port), (vs none 0 0)]) rfl (rv_c [(vi x_a.Host), (vi x_a.Port), (vs none 0 0)] rfl b15 isAgg_28 sizeOf_28) ?_
 refine ⟨m17.keep0, ?_⟩
 have hF18 : F_spec_PathsNew x_a = { At := x_a, Cands := [] : PPaths } := by rfl
 rw [hF18]
 exact ⟨_, _, rfl, (by first | exact own_nil _ _ _ _ | exact OLv.nil _ _ _ _), (by simp), ⟨trivial, trivial⟩⟩

def O_22 (w : World) (lo : Nat) (v : Value) (x : (List UInt8)) : Prop := ∃ (a1 : Option Addr) (c1 : Nat), v = .slice a1 x.length c1 ∧ w.ownsRow lo 5 1 (.slice a1 x.length c1) x.length (x.map bV) ∧ x.length ≤ 1073741824 ∧ Aps [(a1, c1)]
theorem C_spec_l1Bytes (w0 : World) (g : Nat) (ca : Option Addr) (cc : Nat) (cb : List UInt8) (r_c : CurX w0 g 111 ca cc cb) (x_n : Int) (pre0 : x_n ≤ 100000) : Fn Try.prog 49 #[(vp g 0), (vi x_n)] w0 (fun v w' => ∃ x : (List UInt8), Ch (fun k => k = g) w0 w' ∧ CurX w' g 111 ca cc cb ∧ O_22 w' w0.heap.size v x ∧ (x.length = (x_n : Int).toNat)) := by
 obtain ⟨ci, chh, hcb, hcr, hcl, hci, hcn⟩ := r_c
 have hgl := Blk.lt hcb
 refine fn_ofS (n := 20) [(vp g 0), (vi x_n)] Try.func49 rfl rfl ?_
 refine sr ?_
 refine aw (vs none 0 0) ?_
 refine nx ?_
 refine wl_lit0 wN rfl rfl slTy_22 (fun w => by kernel_rfl) ?_
 intro a1 w1 k2 o3
 have m4 := ChG.extk (Ch.refl (fun k => k = g) w0) k2
 refine aw (vs (some a1) 0 0) ?_
 refine n4 ?_
 refine aw (vi 0) ?_
 refine wl_nil <| wq_then <| wc_block ?_
 have hE7 : ([] : List UInt8) = ([] : List UInt8) := by simp
 have hN8 : 0 = (([] : List UInt8)).length := by rw [← hE7]; try (first | rfl | simp only [List.length_set] | simp)
 have b9 := (hcb.kp k2)
 refine wc_loopP [(0, (vp g 0)), (1, (vi x_n)), (4, (vs none 0 0)), (5, (.slice (some a1) (([] : List UInt8)).length 0)), (6, (vi ((0 : Nat) : Int)))] ⟨rfl, rfl, rfl, rfl, (congrArg (Value.int .i64) (show (0 : Int) = ((0 : Nat) : Int) by omega)), trivial⟩ (fun e' w' => ∃ (k : Nat) (l : List UInt8) (u6 : Env) (a5x : Option Addr) (c5x : Nat), e' = pt u6 [(0, (vp g 0)), (1, (vi x_n)), (4, (vs none 0 0)), (5, (.slice a5x (l).length c5x)), (6, (vi ((k : Nat) : Int)))] ∧ Ch (fun k => k = g) w0 w' ∧ Ch (fun k => k = g ∨ w0.heap.size ≤ k) w1 w' ∧ l.length = k ∧ k ≤ x_n.toNat ∧ (World.ownsRow w' w0.heap.size 5 1 (.slice a5x (l).length c5x) (l).length ((l).map bV) ∧ (l).length ≤ 1073741824) ∧ CurX w' g 111 ca cc cb) (fun e' _ => (x_n - (intOf (e' 6))).toNat) ?_ ?_
 ·exact fun u => ⟨0, ([] : List UInt8), u, (some a1), 0, rfl, m4, (Ch.refl (fun k => k = g ∨ w0.heap.size ≤ k) w1), (by first | omega | (simp only [List.length_append, List.length_cons, List.length_nil]; omega)), (by omega), ⟨(by rw [← hN8, ← hE7]; exact o3), (by rw [← hN8]; first | exact (by simp) | (simp only [List.length_append, List.length_take, List.length_replicate]; omega))⟩, ⟨_, _, b9, (Rd.chP hcr m4 hcn), hcl, (by omega), hcn⟩⟩
 ·rintro _ w2 ⟨k, l, u6, a5x, c5x, rfl, m10, k11, i12, i13, ⟨o14, s15⟩, ⟨i16, h17, b18, r19, l20, p21, n22⟩⟩
  refine wc_seq <| sr ?_
  refine mw (vi ((k : Nat) : Int)) ?_
  refine mw (vi x_n) ?_
  refine pu (vb (decide (((k : Nat) : Int) < x_n))) wN ?_
  refine n2 ?_
  rcases bf (decide (((k : Nat) : Int) < x_n)) with h24 | h24
  ·have q56 := of_decide_eq_false h24
   refine cf h24 ?_
   refine wc_exit <| wq_then_exit <| wq_then_exit <| wq_blk_exit <| wq_then <| sr ?_
   refine mw (vs a5x (l).length c5x) ?_
   refine aw (vs a5x (l).length c5x) ?_
   refine n3 ?_
   refine rt (vs a5x (l).length c5x) ?_
   have hN57 : (l).length = (l).length := by first | (simp only [List.length_append, List.length_take, List.length_replicate, List.length_set, List.length_map]; done) | (simp only [List.length_append, List.length_take, List.length_replicate, List.length_set, List.length_map]; omega)
   rw [hN57] at o14 ⊢
   exact ⟨l, m10, ⟨_, _, b18, (Rd.chP hcr m10 hcn), hcl, (by omega), hcn⟩, ⟨_, _, rfl, o14, (by rw [← hN57]; exact s15), ⟨trivial, trivial⟩⟩, (by omega)⟩
  have q25 := of_decide_eq_true h24
  refine ct h24 ?_
  refine wc_skip <| wq_then <| wc_seq <| wc_block <| wc_region ?_
  refine mw (vs a5x (l).length c5x) ?_
  refine mw (vp g 0) ?_
  refine cl wN (C_spec_l1Byte w2 g ca cc cb ⟨_, _, b18, (Rd.chP hcr m10 hcn), hcl, (by omega), hcn⟩) ?_
  rintro _ w3 ⟨x27, k26, ⟨i29, h30, b31, r32, l33, p34, n35⟩, rfl, q28⟩
  have m36 := ChG.ext m10 k26 (fun k hk => .inl hk)
  refine wl_conv8 (x27) wN rfl rfl (by kernel_rfl) ?_
  refine ltB ([(by8 (x27))] : List UInt8) wN slTy_22 ?_
  intro a37 c38 w4 k39 o40
  have m41 := ChG.extk m36 k39
  have o43 := (own_kp (own_ch o14 k26 (ne1 o14 (hgl))) k39)
  refine wl_append (v := (vs a5x (l).length c5x)) wN rfl rfl rfl slTy_22 rfl rfl o43 (Rd.of_own o40) (all_bV _) (by first | (simp only [List.length_append, List.length_cons, List.length_nil, List.length_replicate, List.length_take, List.length_drop]; omega) | omega) (by simp only [maxLen]; first | (simp only [List.length_append, List.length_cons, List.length_nil, List.length_replicate, List.length_take, List.length_drop]; omega) | omega) (z4 k2 k11 k26 k39) ?_
  intro u44 w5 k45 o46 j47
  have o50 : w5.ownsRow w0.heap.size 5 1 u44 ((l ++ ([(by8 (x27))] : List UInt8)) : List UInt8).length (((l ++ ([(by8 (x27))] : List UInt8)) : List UInt8).map bV) := by simpa [Nat.add_assoc] using o46
  obtain ⟨a48, c49, rfl⟩ := own_form o50
  have m51 := ChG.ext m41 k45 (fun k hk => .inr (Nat.le_trans (Nat.le_refl w0.heap.size) (own_lt o14 k hk).1))
  have s53 : (l ++ ([(by8 (x27))] : List UInt8)).length ≤ 1073741824 := by first | (simp only [List.length_append, List.length_cons, List.length_nil, List.length_replicate, List.length_take, List.length_drop]; omega) | omega | assumption
  refine aw (vs a48 (l ++ ([(by8 (x27))] : List UInt8)).length c49) ?_
  refine wl_nil <| wq_blk_normal <| wq_then <| wc_region ?_
  refine mw (vi ((k : Nat) : Int)) ?_
  refine ar (((k : Nat) : Int) + 1) wN ?_
  refine aw (vi (((k : Nat) : Int) + 1)) ?_
  refine wl_nil ?_
  have hE54 : ((l ++ ([(by8 (x27))] : List UInt8)) : List UInt8) = (l ++ ([(by8 (x27))] : List UInt8)) := by simp
  have b55 := ((b31.kp k39).ch k45 (fun h => by have := (own_lt o14 _ h).1; have := Nat.lt_of_lt_of_le hgl (Nat.le_refl w0.heap.size); omega))
  refine wq_loopP (w0 := w2) [(0, (vp g 0)), (1, (vi x_n)), (4, (vs none 0 0)), (5, (.slice a48 ((l ++ ([(by8 (x27))] : List UInt8))).length c49)), (6, (vi (((k + 1) : Nat) : Int)))] ?_ ?_ ?_
  · exact ⟨rfl, rfl, rfl, (congrArg (fun l : List UInt8 => Value.slice a48 l.length c49) hE54), (congrArg (Value.int .i64) (show ((((k : Nat) : Int) + 1) : Int) = (((k + 1) : Nat) : Int) by omega)), trivial⟩
  · exact fun u => ⟨(k + 1), (l ++ ([(by8 (x27))] : List UInt8)), u, a48, c49, rfl, m51, (ChO.ext (ChO.extk (ChO.ext (ChO.ext (Ch.refl (fun k => k = g ∨ w0.heap.size ≤ k) w1) k11 (fun k hk => hk.elim .inl (fun hk => .inr (hk)))) k26 (fun k hk => .inl hk)) k39) k45 (fun k hk => .inr (Nat.le_trans (Nat.le_refl w0.heap.size) (own_lt o14 k hk).1))), (by first | omega | (simp only [List.length_append, List.length_cons, List.length_nil]; omega)), (by omega), (hE54 ▸ ⟨o50, s53⟩), ⟨_, _, b55, (Rd.chP hcr m51 hcn), hcl, (by omega), hcn⟩⟩
  · show (x_n - (((k + 1) : Nat) : Int)).toNat < (x_n - ((k : Nat) : Int)).toNat; omega

def F_spec_AddrOk (x_a : PAddr) : (Bool) := bif (F_spec_l1In x_a.Host 0 4294967295) then ((F_spec_l1In x_a.Port 0 65535)) else (false)
theorem C_spec_AddrOk (w0 : World) (v_x_a : Value) (x_a : PAddr) (r_x_a : R_25 w0 v_x_a x_a)  : Fn Try.prog 67 #[v_x_a] w0 (fun v w' => Keep w0 w' ∧ O_4 w' w0.heap.size v (F_spec_AddrOk x_a)) := by
 obtain rfl := r_x_a
 refine fn_ofS (n := 11) [(va (L_25 x_a))] Try.func67 rfl rfl ?_
 refine sr ?_
 refine bx (L_25 x_a) wN ?_
 intro g1 w1 p2 p3 k4 b5
 refine aw (vb false) ?_
 refine nx ?_
 refine pu (vp g1 0) wN ?_
 refine ld (vi x_a.Host) wN isAgg_3 b5 ?_
 refine cl wN (C_spec_l1In w1 x_a.Host 0 4294967295) ?_
 rintro _ w2 ⟨k7, rfl⟩
 have m8 := ((Ch.base w0).extk k4).extk k7
 refine mw (vb (F_spec_l1In x_a.Host 0 4294967295)) ?_
 rcases bf (F_spec_l1In x_a.Host 0 4294967295) with h9 | h9
 ·have q15 := spec_l1In_f h9
  iterate 3 refine sk h9 ?_
  refine pf (vb false) wN h9 ?_
  refine aw (vb false) ?_
  refine n3 ?_
  refine rt (vb false) ?_
  refine ⟨m8.keep0, ?_⟩
  simp only [F_spec_AddrOk, h9, cond_true, cond_false]
  exact rfl
 have q10 := spec_l1In_t h9
 refine pu (vp g1 1) (wS h9) ?_
 have b11 := (b5.kp k7)
 refine ld (vi x_a.Port) (wS h9) isAgg_3 b11 ?_
 refine cl (wS h9) (C_spec_l1In w2 x_a.Port 0 65535) ?_
 rintro _ w3 ⟨k12, rfl⟩
 have m13 := m8.extk k12
 refine pk (vb (F_spec_l1In x_a.Port 0 65535)) wN h9 ?_
 refine aw (vb (F_spec_l1In x_a.Port 0 65535)) ?_
 refine n3 ?_
 refine rt (vb (F_spec_l1In x_a.Port 0 65535)) ?_
 refine ⟨m13.keep0, ?_⟩
 simp only [F_spec_AddrOk, h9, cond_true, cond_false]
 exact rfl

abbrev L_28 (x : PPaths) (a1 : Option Addr) (c1 : Nat) : List Value := [vi x.At.Host, vi x.At.Port, vs a1 x.Cands.length c1]
theorem isAgg_26 : ∀ w, (isAgg 26).run Try.prog w = .ok false w := fun w => by kernel_rfl
abbrev Z_34 : List Value := [(vi 0), (vi 0), (vs none 0 0), (vi 0)]
theorem slTy_26 : SlTy Try.prog 26 34 4 48 (va Z_34) := slTy Try.underlying26 (by kernel_rfl) rfl rfl
theorem isAgg_34 : ∀ w, (isAgg 34).run Try.prog w = .ok true w := fun w => by kernel_rfl
theorem sizeOf_34 : ∀ w, (sizeOf 34).run Try.prog w = .ok 4 w := fun w => by kernel_rfl
theorem zero_34 : ∀ w, (zeroValue 34).run Try.prog w = .ok (va Z_34) w := fun w => by kernel_rfl
theorem guardt_25 : Try.prog.eqGuardType Try.prog.depth 25 = false := by kernel_rfl
theorem aggeq_25 (x0 y0 : Int) (x1 y1 : Int) (w : World) : (Op.equalIn 10000 25 (.agg #[.int .i64 x0, .int .i64 x1]) (.agg #[.int .i64 y0, .int .i64 y1])).run Try.prog w = .ok ((decide (x0 = y0) && decide (x1 = y1))) w := by
  rw [run_equalIn_struct w 9999 25 _ _ (by kernel_rfl) (by kernel_rfl)]
  simp [Program.fieldsOf, Op.eqFields, go_sem, Try.underlying3, Try.underlying25]
  by_cases h0 : x0 = y0 <;> by_cases h1 : x1 = y1 <;> simp [*]
theorem fieldAt_34_0 : ∀ a w, (Instr.fieldAt 34 (.pointer (some a)) 0).run Try.prog w = .ok (.pointer (some (a.add 0))) w := fun a w => by kernel_rfl
def R_28 (w : World) (v : Value) (x : (PPaths)) : Prop := ∃ (a1 : Option Addr) (c1 : Nat), v = .agg #[.int .i64 x.At.Host, .int .i64 x.At.Port, .slice a1 x.Cands.length c1] ∧ RLv LT_34 w 1073741824 a1 x.Cands.length c1 x.Cands ∧ x.Cands.length ≤ 1073741824
theorem mR_25 {w : World} {x : PAddr} : R_25 w (va (L_25 x)) x := rfl
def sPaJ (x_p : PPaths) (i j : Nat) : Bool := !(decide ((x_p.Cands.getD j z_PCand).A.Host = (x_p.Cands.getD i z_PCand).A.Host) && decide ((x_p.Cands.getD j z_PCand).A.Port = (x_p.Cands.getD i z_PCand).A.Port))
def sPaG (x_p : PPaths) (i : Nat) : Bool := (F_spec_AddrOk (x_p.Cands.getD i z_PCand).A) && ((decide (((x_p.Cands.getD i z_PCand).Draw.length : Int) = 12)) && ((F_spec_l1In (x_p.Cands.getD i z_PCand).Until 0 1000006) && ((!(decide ((x_p.Cands.getD i z_PCand).A.Host = x_p.At.Host) && decide ((x_p.Cands.getD i z_PCand).A.Port = x_p.At.Port))) && (allN (sPaJ x_p i) i))))
def sPa (x_p : PPaths) : Bool := bif F_spec_AddrOk x_p.At then (bif decide (3 < (x_p.Cands.length : Int)) then false else allN (sPaG x_p) x_p.Cands.length) else false
theorem C_spec_PathsOk (w0 : World) (v_x_p : Value) (x_p : PPaths) (r_x_p : R_28 w0 v_x_p x_p)  : Fn Try.prog 20 #[v_x_p] w0 (fun v w' => Keep w0 w' ∧ O_4 w' w0.heap.size v (sPa x_p)) := by
 obtain ⟨a1, c2, rfl, r3, s4⟩ := r_x_p
 refine fn_ofS (n := 65) [(va (L_28 x_p a1 c2))] Try.func20 rfl rfl ?_
 refine sr ?_
 refine bx (L_28 x_p a1 c2) wN ?_
 intro g6 w1 p7 p8 k9 b10
 have m11 := (Ch.base w0).extk k9
 refine aw (vb false) ?_
 refine n4 ?_
 refine jT1 [(1, (vp g6 0)), (2, (vb false))] (sPa x_p = false) ?_ fun J12 => ?_
 ·intro hA13 w2 k15 u14
  have m16 := m11.extk k15
  refine sr ?_
  refine aw (vb false) ?_
  refine n1 ?_
  refine rt (vb false) ?_
  refine ⟨m16.keep0, ?_⟩
  rw [hA13]
  exact rfl
 refine pu (vp g6 0) wN ?_
 refine lN (L_25 x_p.At) wN isAgg_25 sizeOf_25 b10 ?_
 refine cl wN (C_spec_AddrOk w1 _ x_p.At (mR_25)) ?_
 rintro _ w2 ⟨k18, rfl⟩
 have m19 := m11.extk k18
 refine pu (vb (!(F_spec_AddrOk x_p.At))) wN ?_
 refine mw (vb (!(F_spec_AddrOk x_p.At))) ?_
 rcases bf (F_spec_AddrOk x_p.At) with h20 | h20
 ·iterate 4 refine sk (congrArg not h20) ?_
  refine pk (vb true) wN (congrArg not h20) ?_
  refine n2 ?_
  refine ct (Eq.refl true) ?_
  have hF166 : sPa x_p = false := by simp [sPa, h20]
  exact wj (J12 hF166 _ k18)
 refine pu (vp g6 2) (wS (congrArg not h20)) ?_
 have b22 := (b10.kp k18)
 refine ld (vs a1 x_p.Cands.length c2) (wS (congrArg not h20)) isAgg_26 b22 ?_
 obtain ⟨y23, r24⟩ := RLv.row (r3.from0 m19)
 refine ln (wS (congrArg not h20)) slTy_26 r24 ?_
 refine pu (vb (decide (3 < (x_p.Cands.length : Int)))) (wS (congrArg not h20)) ?_
 refine pf (vb (decide (3 < (x_p.Cands.length : Int)))) wN (congrArg not h20) ?_
 refine n2 ?_
 rcases bt (decide (3 < (x_p.Cands.length : Int))) with h25 | h25
 ·have q26 := of_decide_eq_true h25
  refine ct h25 ?_
  have hF27 : sPa x_p = false := by simp [sPa, h20, h25]
  exact wj (J12 hF27 _ k18)
 have q28 := of_decide_eq_false h25
 refine cf h25 ?_
 refine y2 ?_
 refine aw (vi 0) ?_
 refine wl_nil <| wq_then <| wc_block ?_
 refine wc_loopP [(1, (vp g6 0)), (3, (vi ((0 : Nat) : Int)))] ⟨rfl, (congrArg (Value.int .i64) (show (0 : Int) = ((0 : Nat) : Int) by omega)), trivial⟩ (fun e' w' => ∃ (k : Nat) (u29 : Env), e' = pt u29 [(1, (vp g6 0)), (3, (vi ((k : Nat) : Int)))] ∧ Ch (fun k => w0.heap.size ≤ k) w0 w' ∧ Ch (fun k => w2.heap.size ≤ k) w2 w' ∧ k ≤ x_p.Cands.length ∧ (∀ j, j < k → sPaG x_p j = true)) (fun e' _ => x_p.Cands.length - ((intOf (e' 3))).toNat) ?_ ?_
 ·exact fun u => ⟨0, u, rfl, m19, (Ch.refl (fun k => w2.heap.size ≤ k) w2), (by omega), (by first | (intro j hj; omega) | (have hy := allN_t (f := sPaJ x_p k) (n := k) (k := j) (by assumption) (by omega); exact allN_next (by assumption) (by simp only [sPaG, hy, h20, h25]; simp)))⟩
 ·rintro _ w3 ⟨k, u29, rfl, m30, k31, i32, i33⟩
  refine wc_seq <| sr ?_
  refine mw (vi ((k : Nat) : Int)) ?_
  refine pu (vp g6 2) wN ?_
  have b34 := (b22.ch k31 (Nat.not_le.2 (Nat.lt_of_lt_of_le p8 k18.size)))
  refine ld (vs a1 x_p.Cands.length c2) wN isAgg_26 b34 ?_
  obtain ⟨y35, r36⟩ := RLv.row (r3.from0 m30)
  refine ln wN slTy_26 r36 ?_
  refine pu (vb (decide (((k : Nat) : Int) < (x_p.Cands.length : Int)))) wN ?_
  refine n2 ?_
  rcases bf (decide (((k : Nat) : Int) < (x_p.Cands.length : Int))) with h37 | h37
  ·have q163 := of_decide_eq_false h37
   refine cf h37 ?_
   refine wc_exit <| wq_then_exit <| wq_then_exit <| wq_blk_exit <| wq_then <| sr ?_
   refine aw (vb true) ?_
   refine n3 ?_
   refine rt (vb true) ?_
   refine ⟨m30.keep0, ?_⟩
   have hF164 : sPa x_p = true := by have hz := allN_t (f := sPaG x_p) (n := x_p.Cands.length) (k := k) (by assumption) (by omega); simp only [sPa, h20, h25, h37, hz]; simp
   rw [hF164]
   exact rfl
  have q38 := of_decide_eq_true h37
  refine ct h37 ?_
  refine wc_skip <| wq_then <| wc_seq <| wc_block <| sr ?_
  refine pu (vp g6 2) wN ?_
  refine ld (vs a1 x_p.Cands.length c2) wN isAgg_26 b34 ?_
  refine mw (vi ((k : Nat) : Int)) ?_
  obtain ⟨y39, r40⟩ := RLv.row (r3.from0 m30)
  refine ix wN ((k : Nat) : Int) slTy_26 r40 ?_
  obtain ⟨y41, l42, r43, e44, u45⟩ := RLv.el z_PCand (i := k) r3 (by first | omega | (simp only [List.length_cons, List.length_nil, List.length_replicate, List.length_append, List.length_take, List.length_set, List.length_map]; omega))
  obtain ⟨a46, c47, l51, rfl, r48, s49, u52⟩ := SubR.c u45
  obtain rfl := SubR.n u52
  refine wl_loadEN [(vi (((x_p.Cands.getD k z_PCand).A).Host)), (vi (((x_p.Cands.getD k z_PCand).A).Port)), (vs a46 (x_p.Cands.getD k z_PCand).Draw.length c47), (vi ((x_p.Cands.getD k z_PCand).Until))] wN rfl rfl rfl rfl isAgg_34 sizeOf_34 (r43.from0 m30) (by first | omega | (simp only [List.length_cons, List.length_nil, List.length_replicate, List.length_append, List.length_take, List.length_set, List.length_map]; omega)) ((part_of (off := 0) (n := 4) e44 (by first | rfl | simp | omega) (by decide)).trans rfl) ?_
  refine al Z_34 wN zero_34 ?_
  intro g53 w4 p54 p55 k56 b57
  refine sv [(vi (((x_p.Cands.getD k z_PCand).A).Host)), (vi (((x_p.Cands.getD k z_PCand).A).Port)), (vs a46 (x_p.Cands.getD k z_PCand).Draw.length c47), (vi ((x_p.Cands.getD k z_PCand).Until))] wN sizeOf_34 b57 ?_
  intro w5 k59 b60 z61
  have m62 := (m30.extk k56).ext k59 (fun k hk => by subst hk; exact Nat.le_trans (z3 k9 k18 k31) p54)
  refine n4 ?_
  refine pu (vp g53 0) wN ?_
  refine lN (L_25 ((x_p.Cands.getD k z_PCand).A)) wN isAgg_25 sizeOf_25 b60 ?_
  refine cl wN (C_spec_AddrOk w5 _ ((x_p.Cands.getD k z_PCand).A) (mR_25)) ?_
  rintro _ w6 ⟨k63, rfl⟩
  have m64 := m62.extk k63
  refine pu (vb (!(F_spec_AddrOk ((x_p.Cands.getD k z_PCand).A)))) wN ?_
  refine mw (vb (!(F_spec_AddrOk ((x_p.Cands.getD k z_PCand).A)))) ?_
  rcases bf (F_spec_AddrOk ((x_p.Cands.getD k z_PCand).A)) with h65 | h65
  ·iterate 4 refine sk (congrArg not h65) ?_
   refine pk (vb true) wN (congrArg not h65) ?_
   refine mw (vb true) ?_
   iterate 4 refine sk (Eq.refl true) ?_
   refine pk (vb true) wN (Eq.refl true) ?_
   refine mw (vb true) ?_
   iterate 5 refine sk (Eq.refl true) ?_
   refine pk (vb true) wN (Eq.refl true) ?_
   refine n2 ?_
   refine ct (Eq.refl true) ?_
   refine sr ?_
   refine aw (vb false) ?_
   refine wl_nil <| wq_then <| wc_ret <| wq_then_ret <| wq_blk_ret <| wq_then_ret <| wq_then_ret <| wq_blk_ret <| wq_then_ret ?_
   refine rt (vb false) ?_
   refine ⟨m64.keep0, ?_⟩
   have hF162 : sPa x_p = false := by have hz := allN_f (f := sPaG x_p) (n := x_p.Cands.length) (k := k) (by omega) (by simp only [sPaG, h20, h25, h37, h65]; simp); simp only [sPa, h20, h25, h37, h65, hz]; simp
   rw [hF162]
   exact rfl
  refine pu (vp g53 2) (wS (congrArg not h65)) ?_
  have b67 := (b60.kp k63)
  refine ld (vs a46 (x_p.Cands.getD k z_PCand).Draw.length c47) (wS (congrArg not h65)) isAgg_22 b67 ?_
  refine ln (wS (congrArg not h65)) slTy_22 (r48.from0 m64) ?_
  refine pu (vb (!(decide (((x_p.Cands.getD k z_PCand).Draw.length : Int) = 12)))) (wS (congrArg not h65)) ?_
  refine pf (vb (!(decide (((x_p.Cands.getD k z_PCand).Draw.length : Int) = 12)))) wN (congrArg not h65) ?_
  refine mw (vb (!(decide (((x_p.Cands.getD k z_PCand).Draw.length : Int) = 12)))) ?_
  rcases bf (decide (((x_p.Cands.getD k z_PCand).Draw.length : Int) = 12)) with h68 | h68
  ·have q159 := of_decide_eq_false h68
   iterate 4 refine sk (congrArg not h68) ?_
   refine pk (vb true) wN (congrArg not h68) ?_
   refine mw (vb true) ?_
   iterate 5 refine sk (Eq.refl true) ?_
   refine pk (vb true) wN (Eq.refl true) ?_
   refine n2 ?_
   refine ct (Eq.refl true) ?_
   refine sr ?_
   refine aw (vb false) ?_
   refine wl_nil <| wq_then <| wc_ret <| wq_then_ret <| wq_blk_ret <| wq_then_ret <| wq_then_ret <| wq_blk_ret <| wq_then_ret ?_
   refine rt (vb false) ?_
   refine ⟨m64.keep0, ?_⟩
   have hF160 : sPa x_p = false := by have hz := allN_f (f := sPaG x_p) (n := x_p.Cands.length) (k := k) (by omega) (by simp only [sPaG, h20, h25, h37, h65, h68]; simp); simp only [sPa, h20, h25, h37, h65, h68, hz]; simp
   rw [hF160]
   exact rfl
  have q69 := of_decide_eq_true h68
  refine pu (vp g53 3) (wS (congrArg not h68)) ?_
  refine ld (vi ((x_p.Cands.getD k z_PCand).Until)) (wS (congrArg not h68)) isAgg_3 b67 ?_
  refine cl (wS (congrArg not h68)) (C_spec_l1In w6 ((x_p.Cands.getD k z_PCand).Until) 0 1000006) ?_
  rintro _ w7 ⟨k70, rfl⟩
  have m71 := m64.extk k70
  refine pu (vb (!(F_spec_l1In ((x_p.Cands.getD k z_PCand).Until) 0 1000006))) (wS (congrArg not h68)) ?_
  refine pf (vb (!(F_spec_l1In ((x_p.Cands.getD k z_PCand).Until) 0 1000006))) wN (congrArg not h68) ?_
  refine mw (vb (!(F_spec_l1In ((x_p.Cands.getD k z_PCand).Until) 0 1000006))) ?_
  rcases bf (F_spec_l1In ((x_p.Cands.getD k z_PCand).Until) 0 1000006) with h72 | h72
  ·have q157 := spec_l1In_f h72
   iterate 5 refine sk (congrArg not h72) ?_
   refine pk (vb true) wN (congrArg not h72) ?_
   refine n2 ?_
   refine ct (Eq.refl true) ?_
   refine sr ?_
   refine aw (vb false) ?_
   refine wl_nil <| wq_then <| wc_ret <| wq_then_ret <| wq_blk_ret <| wq_then_ret <| wq_then_ret <| wq_blk_ret <| wq_then_ret ?_
   refine rt (vb false) ?_
   refine ⟨m71.keep0, ?_⟩
   have hF158 : sPa x_p = false := by have hz := allN_f (f := sPaG x_p) (n := x_p.Cands.length) (k := k) (by omega) (by simp only [sPaG, h20, h25, h37, h65, h68, h72]; simp); simp only [sPa, h20, h25, h37, h65, h68, h72, hz]; simp
   rw [hF158]
   exact rfl
  have q73 := spec_l1In_t h72
  refine pu (vp g53 0) (wS (congrArg not h72)) ?_
  have b74 := (b67.kp k70)
  refine lN (L_25 ((x_p.Cands.getD k z_PCand).A)) (wS (congrArg not h72)) isAgg_25 sizeOf_25 b74 ?_
  refine pu (vp g6 0) (wS (congrArg not h72)) ?_
  have b75 := ((((b34.kp k56).ch k59 (Nat.ne_of_lt (Nat.lt_of_lt_of_le p8 (Nat.le_trans (z2 k18 k31) p54)))).kp k63).kp k70)
  refine lN (L_25 x_p.At) (wS (congrArg not h72)) isAgg_25 sizeOf_25 b75 ?_
  refine wl_aggeq ((decide ((((x_p.Cands.getD k z_PCand).A).Host) = x_p.At.Host) && decide ((((x_p.Cands.getD k z_PCand).A).Port) = x_p.At.Port))) (wS (congrArg not h72)) rfl rfl rfl rfl rfl guardt_25 (aggeq_25 (((x_p.Cands.getD k z_PCand).A).Host) x_p.At.Host (((x_p.Cands.getD k z_PCand).A).Port) x_p.At.Port w7) ?_
  refine pf (vb (decide ((((x_p.Cands.getD k z_PCand).A).Host) = x_p.At.Host) && decide ((((x_p.Cands.getD k z_PCand).A).Port) = x_p.At.Port))) wN (congrArg not h72) ?_
  refine n2 ?_
  rcases bt (decide ((((x_p.Cands.getD k z_PCand).A).Host) = x_p.At.Host) && decide ((((x_p.Cands.getD k z_PCand).A).Port) = x_p.At.Port)) with h76 | h76
  ·refine ct h76 ?_
   refine sr ?_
   refine aw (vb false) ?_
   refine wl_nil <| wq_then <| wc_ret <| wq_then_ret <| wq_blk_ret <| wq_then_ret <| wq_then_ret <| wq_blk_ret <| wq_then_ret ?_
   refine rt (vb false) ?_
   refine ⟨m71.keep0, ?_⟩
   have hF78 : sPa x_p = false := by have hz := allN_f (f := sPaG x_p) (n := x_p.Cands.length) (k := k) (by omega) (by simp only [sPaG, h20, h25, h37, h65, h68, h72, h76]; simp); simp only [sPa, h20, h25, h37, h65, h68, h72, h76, hz]; simp
   rw [hF78]
   exact rfl
  refine cf h76 ?_
  refine y1 ?_
  refine aw (vi 0) ?_
  refine wl_nil <| wq_then <| wc_block ?_
  refine wc_loopP [(1, (vp g6 0)), (3, (vi ((k : Nat) : Int))), (4, (vp g53 0)), (5, (vi ((0 : Nat) : Int))), (16, (vi ((k : Nat) : Int))), (17, (vp g6 2)), (18, (vs a1 x_p.Cands.length c2)), (19, (vi (x_p.Cands.length : Int))), (20, (vb (decide (((k : Nat) : Int) < (x_p.Cands.length : Int))))), (23, (vp g6 2)), (24, (vs a1 x_p.Cands.length c2)), (25, (vi ((k : Nat) : Int))), (26, (ve (vs a1 x_p.Cands.length c2) ((((k : Nat) : Int)).toNat * 4))), (27, (va [(vi (((x_p.Cands.getD k z_PCand).A).Host)), (vi (((x_p.Cands.getD k z_PCand).A).Port)), (vs a46 (x_p.Cands.getD k z_PCand).Draw.length c47), (vi ((x_p.Cands.getD k z_PCand).Until))])), (28, (vp g53 0)), (29, (va (L_25 ((x_p.Cands.getD k z_PCand).A)))), (30, (vb (F_spec_AddrOk ((x_p.Cands.getD k z_PCand).A)))), (31, (vb (!(F_spec_AddrOk ((x_p.Cands.getD k z_PCand).A))))), (32, (vb (!(F_spec_AddrOk ((x_p.Cands.getD k z_PCand).A))))), (33, (vp g53 2)), (34, (vs a46 (x_p.Cands.getD k z_PCand).Draw.length c47)), (35, (vi ((x_p.Cands.getD k z_PCand).Draw.length : Int))), (36, (vb (!(decide (((x_p.Cands.getD k z_PCand).Draw.length : Int) = 12))))), (37, (vb (!(decide (((x_p.Cands.getD k z_PCand).Draw.length : Int) = 12))))), (38, (vb (!(decide (((x_p.Cands.getD k z_PCand).Draw.length : Int) = 12))))), (39, (vp g53 3)), (40, (vi ((x_p.Cands.getD k z_PCand).Until))), (41, (vb (F_spec_l1In ((x_p.Cands.getD k z_PCand).Until) 0 1000006))), (42, (vb (!(F_spec_l1In ((x_p.Cands.getD k z_PCand).Until) 0 1000006)))), (43, (vb (!(F_spec_l1In ((x_p.Cands.getD k z_PCand).Until) 0 1000006)))), (44, (vb (!(F_spec_l1In ((x_p.Cands.getD k z_PCand).Until) 0 1000006)))), (45, (vp g53 0)), (46, (va (L_25 ((x_p.Cands.getD k z_PCand).A)))), (47, (vp g6 0)), (48, (va (L_25 x_p.At))), (49, (vb (decide ((((x_p.Cands.getD k z_PCand).A).Host) = x_p.At.Host) && decide ((((x_p.Cands.getD k z_PCand).A).Port) = x_p.At.Port)))), (50, (vb (decide ((((x_p.Cands.getD k z_PCand).A).Host) = x_p.At.Host) && decide ((((x_p.Cands.getD k z_PCand).A).Port) = x_p.At.Port))))] ⟨rfl, rfl, rfl, (congrArg (Value.int .i64) (show (0 : Int) = ((0 : Nat) : Int) by omega)), rfl, rfl, rfl, rfl, rfl, rfl, rfl, rfl, rfl, rfl, rfl, rfl, rfl, rfl, rfl, rfl, rfl, rfl, rfl, rfl, rfl, rfl, rfl, rfl, rfl, rfl, rfl, rfl, rfl, rfl, rfl, rfl, rfl, trivial⟩ (fun e' w' => ∃ (j : Nat) (u80 : Env), e' = pt u80 [(1, (vp g6 0)), (3, (vi ((k : Nat) : Int))), (4, (vp g53 0)), (5, (vi ((j : Nat) : Int))), (16, (vi ((k : Nat) : Int))), (17, (vp g6 2)), (18, (vs a1 x_p.Cands.length c2)), (19, (vi (x_p.Cands.length : Int))), (20, (vb (decide (((k : Nat) : Int) < (x_p.Cands.length : Int))))), (23, (vp g6 2)), (24, (vs a1 x_p.Cands.length c2)), (25, (vi ((k : Nat) : Int))), (26, (ve (vs a1 x_p.Cands.length c2) ((((k : Nat) : Int)).toNat * 4))), (27, (va [(vi (((x_p.Cands.getD k z_PCand).A).Host)), (vi (((x_p.Cands.getD k z_PCand).A).Port)), (vs a46 (x_p.Cands.getD k z_PCand).Draw.length c47), (vi ((x_p.Cands.getD k z_PCand).Until))])), (28, (vp g53 0)), (29, (va (L_25 ((x_p.Cands.getD k z_PCand).A)))), (30, (vb (F_spec_AddrOk ((x_p.Cands.getD k z_PCand).A)))), (31, (vb (!(F_spec_AddrOk ((x_p.Cands.getD k z_PCand).A))))), (32, (vb (!(F_spec_AddrOk ((x_p.Cands.getD k z_PCand).A))))), (33, (vp g53 2)), (34, (vs a46 (x_p.Cands.getD k z_PCand).Draw.length c47)), (35, (vi ((x_p.Cands.getD k z_PCand).Draw.length : Int))), (36, (vb (!(decide (((x_p.Cands.getD k z_PCand).Draw.length : Int) = 12))))), (37, (vb (!(decide (((x_p.Cands.getD k z_PCand).Draw.length : Int) = 12))))), (38, (vb (!(decide (((x_p.Cands.getD k z_PCand).Draw.length : Int) = 12))))), (39, (vp g53 3)), (40, (vi ((x_p.Cands.getD k z_PCand).Until))), (41, (vb (F_spec_l1In ((x_p.Cands.getD k z_PCand).Until) 0 1000006))), (42, (vb (!(F_spec_l1In ((x_p.Cands.getD k z_PCand).Until) 0 1000006)))), (43, (vb (!(F_spec_l1In ((x_p.Cands.getD k z_PCand).Until) 0 1000006)))), (44, (vb (!(F_spec_l1In ((x_p.Cands.getD k z_PCand).Until) 0 1000006)))), (45, (vp g53 0)), (46, (va (L_25 ((x_p.Cands.getD k z_PCand).A)))), (47, (vp g6 0)), (48, (va (L_25 x_p.At))), (49, (vb (decide ((((x_p.Cands.getD k z_PCand).A).Host) = x_p.At.Host) && decide ((((x_p.Cands.getD k z_PCand).A).Port) = x_p.At.Port)))), (50, (vb (decide ((((x_p.Cands.getD k z_PCand).A).Host) = x_p.At.Host) && decide ((((x_p.Cands.getD k z_PCand).A).Port) = x_p.At.Port))))] ∧ Ch (fun k => w0.heap.size ≤ k) w0 w' ∧ Ch (fun k => w7.heap.size ≤ k) w7 w' ∧ j ≤ k ∧ (∀ m, m < j → sPaJ x_p k m = true)) (fun e' _ => k - ((intOf (e' 5))).toNat) ?_ ?_
  ·exact fun u => ⟨0, u, rfl, m71, (Ch.refl (fun k => w7.heap.size ≤ k) w7), (by omega), (by first | (intro m hm; omega) | exact allN_next (by assumption) (by simp only [sPaJ, h20, h25, h37, h65, h68, h72, h76]; simp))⟩
  ·rintro _ w8 ⟨j, u80, rfl, m81, k82, i83, i84⟩
   refine wc_seq <| sr ?_
   refine mw (vi ((j : Nat) : Int)) ?_
   refine mw (vi ((k : Nat) : Int)) ?_
   refine pu (vb (decide (((j : Nat) : Int) < ((k : Nat) : Int)))) wN ?_
   refine n2 ?_
   rcases bf (decide (((j : Nat) : Int) < ((k : Nat) : Int))) with h85 | h85
   ·have q156 := of_decide_eq_false h85
    refine cf h85 ?_
    refine wc_exit <| wq_then_exit <| wq_then_exit <| wq_blk_exit <| wq_blk_normal <| wq_then <| wc_region ?_
    refine mw (vi ((k : Nat) : Int)) ?_
    refine ar (((k : Nat) : Int) + 1) wN ?_
    refine aw (vi (((k : Nat) : Int) + 1)) ?_
    refine wl_nil ?_
    refine wq_loopP (w0 := w3) [(1, (vp g6 0)), (3, (vi (((k + 1) : Nat) : Int)))] ?_ ?_ ?_
    · exact ⟨rfl, (congrArg (Value.int .i64) (show ((((k : Nat) : Int) + 1) : Int) = (((k + 1) : Nat) : Int) by omega)), trivial⟩
    · exact fun u => ⟨(k + 1), u, rfl, m81, (((((((Ch.refl (fun k => w2.heap.size ≤ k) w2).ext k31 (fun k hk => hk)).extk k56).ext k59 (fun k hk => by subst hk; exact Nat.le_trans k31.size p54)).extk k63).extk k70).ext k82 (fun k hk => Nat.le_trans (z5 k31 k56 k59 k63 k70) hk)), (by omega), (by first | (intro j hj; omega) | (have hy := allN_t (f := sPaJ x_p k) (n := k) (k := j) (by assumption) (by omega); exact allN_next (by assumption) (by simp only [sPaG, hy, h20, h25, h37, h65, h68, h72, h76, h85]; simp)))⟩
    · show x_p.Cands.length - ((((k + 1) : Nat) : Int)).toNat < x_p.Cands.length - (((k : Nat) : Int)).toNat; omega
   have q86 := of_decide_eq_true h85
   refine ct h85 ?_
   refine wc_skip <| wq_then <| wc_seq <| wc_block <| wc_seq ?_
   obtain ⟨y103, l104, r105, e106, u107⟩ := RLv.el z_PCand (i := j) r3 (by first | omega | (simp only [List.length_cons, List.length_nil, List.length_replicate, List.length_append, List.length_take, List.length_set, List.length_map]; omega))
   obtain ⟨a108, c109, l113, rfl, r110, s111, u114⟩ := SubR.c u107
   obtain rfl := SubR.n u114
   refine wc_drawT ([(56, [], [], (fun _ v _ => v = (vp g6 2))), (57, [], [0], (fun _ v _ => v = (vs a1 x_p.Cands.length c2))), (58, [], [], (fun _ v _ => v = (vi ((j : Nat) : Int)))), (59, [], [0, 1, 2], (fun _ v _ => v = (ve (vs a1 x_p.Cands.length c2) ((((j : Nat) : Int)).toNat * 4)))), (60, [], [0, 1, 2, 3], (fun _ v _ => v = (ve (vs a1 x_p.Cands.length c2) ((((j : Nat) : Int)).toNat * 4 + 0)))), (61, [], [0, 1, 2, 3, 4], (fun _ v _ => v = (va (L_25 ((x_p.Cands.getD j z_PCand).A))))), (62, [], [], (fun _ v _ => v = (vp g53 0))), (63, [], [6], (fun _ v _ => v = (va (L_25 ((x_p.Cands.getD k z_PCand).A)))))] : GV) (fun _ w' => Keep w8 w') [] mixed rfl (by kernel_rfl) (by kernel_rfl) ?_ (fun _ _ h => h) (fun _ _ _ _ h _ k => h.trans k) trivial ?_ ?_ ?_
   ·exact ⟨hV, hE, ⟨hV, hE, ⟨hV, hE, ⟨hV, hE, ⟨hV, hE, ⟨hV, hE, ⟨hV, hE, ⟨hV, hE, trivial⟩⟩⟩⟩⟩⟩⟩⟩
   ·exact trivial
   ·refine ⟨?_, ⟨?_, ⟨?_, ⟨?_, ⟨?_, ⟨?_, ⟨?_, ⟨?_, trivial⟩⟩⟩⟩⟩⟩⟩⟩
    ·intro _ w9 k119 _
     rintro _ _ _ _ _ _ _ _
     show WL _ _ _ _ _ _ _
     refine pu (vp g6 2) wN ?_
     exact f1
    ·intro _ w9 k121 _
     rintro _ rfl _ _ _ _ _ _ _
     show WL _ _ _ _ _ _ _
     have b123 := ((b75.ch k82 (Nat.not_le.2 (Nat.lt_of_lt_of_le p8 (z6 k18 k31 k56 k59 k63 k70)))).kp k121)
     refine ld (vs a1 x_p.Cands.length c2) wN isAgg_26 b123 ?_
     exact f1
    ·intro _ w9 k124 _
     rintro _ _ _ _ _ _ _ _
     show WL _ _ _ _ _ _ _
     refine mw (vi ((j : Nat) : Int)) ?_
     exact f1
    ·intro _ w9 k126 _
     have m127 := m81.extk k126
     rintro _ rfl _ rfl _ rfl _ _ _ _ _
     show WL _ _ _ _ _ _ _
     obtain ⟨y129, r130⟩ := RLv.row (r3.from0 m127)
     refine ix wN ((j : Nat) : Int) slTy_26 r130 ?_
     exact f1
    ·intro _ w9 k131 _
     have m132 := m81.extk k131
     rintro _ rfl _ rfl _ rfl _ rfl _ _ _ _
     show WL _ _ _ _ _ _ _
     refine wl_fieldE wN rfl rfl rfl fieldAt_34_0 rfl (r105.from0 m132) (by omega) ?_
     exact f1
    ·intro _ w9 k136 _
     have m137 := m81.extk k136
     rintro _ rfl _ rfl _ rfl _ rfl _ rfl _ _ _
     show WL _ _ _ _ _ _ _
     refine wl_loadEN (L_25 ((x_p.Cands.getD j z_PCand).A)) wN rfl rfl rfl rfl isAgg_25 sizeOf_25 (r105.from0 m137) (by first | omega | (simp only [List.length_cons, List.length_nil, List.length_replicate, List.length_append, List.length_take, List.length_set, List.length_map]; omega)) ((part_of (off := 0) (n := 2) e106 (by first | rfl | simp | omega) (by decide)).trans rfl) ?_
     exact f1
    ·intro _ w9 k141 _
     rintro _ _ _ _ _ _ _ _
     show WL _ _ _ _ _ _ _
     refine pu (vp g53 0) wN ?_
     exact f1
    ·intro _ w9 k143 _
     rintro _ _ _ _ _ _ _ rfl _
     show WL _ _ _ _ _ _ _
     have b145 := ((b74.ch k82 (Nat.not_le.2 (Nat.lt_of_lt_of_le p55 (z3 k59 k63 k70)))).kp k143)
     refine lN (L_25 ((x_p.Cands.getD k z_PCand).A)) wN isAgg_25 sizeOf_25 b145 ?_
     exact f1
   ·intro _ w9 k146
    have m147 := m81.extk k146
    rintro _ rfl _ rfl _ rfl _ rfl _ rfl _ rfl _ rfl _ rfl
    show WL _ _ _ _ _ _ _
    refine wl_aggeq ((decide ((((x_p.Cands.getD j z_PCand).A).Host) = (((x_p.Cands.getD k z_PCand).A).Host)) && decide ((((x_p.Cands.getD j z_PCand).A).Port) = (((x_p.Cands.getD k z_PCand).A).Port)))) wN rfl rfl rfl rfl rfl guardt_25 (aggeq_25 (((x_p.Cands.getD j z_PCand).A).Host) (((x_p.Cands.getD k z_PCand).A).Host) (((x_p.Cands.getD j z_PCand).A).Port) (((x_p.Cands.getD k z_PCand).A).Port) w9) ?_
    refine n2 ?_
    rcases bt (decide ((((x_p.Cands.getD j z_PCand).A).Host) = (((x_p.Cands.getD k z_PCand).A).Host)) && decide ((((x_p.Cands.getD j z_PCand).A).Port) = (((x_p.Cands.getD k z_PCand).A).Port))) with h152 | h152
    ·refine ct h152 ?_
     refine sr ?_
     refine aw (vb false) ?_
     refine wl_nil <| wq_then <| wc_ret <| wq_blk_ret <| wq_then_ret <| wq_then_ret <| wq_blk_ret <| wq_blk_ret <| wq_then_ret <| wq_then_ret <| wq_blk_ret <| wq_then_ret ?_
     refine rt (vb false) ?_
     refine ⟨m147.keep0, ?_⟩
     have hF154 : sPa x_p = false := by have hy := allN_f (f := sPaJ x_p k) (n := k) (k := j) (by omega) (by simp only [sPaJ, h20, h25, h37, h65, h68, h72, h76, h85, h152]; simp); have hz := allN_f (f := sPaG x_p) (n := x_p.Cands.length) (k := k) (by omega) (by simp only [sPaG, hy, h20, h25, h37, h65, h68, h72, h76, h85, h152]; simp); simp only [sPa, h20, h25, h37, h65, h68, h72, h76, h85, h152, hz]; simp
     rw [hF154]
     exact rfl
    refine cf h152 ?_
    refine wc_skip <| wq_blk_normal <| wq_then <| wc_region ?_
    refine mw (vi ((j : Nat) : Int)) ?_
    refine ar (((j : Nat) : Int) + 1) wN ?_
    refine aw (vi (((j : Nat) : Int) + 1)) ?_
    refine wl_nil ?_
    refine wq_loopP (w0 := w8) [(1, (vp g6 0)), (3, (vi ((k : Nat) : Int))), (4, (vp g53 0)), (5, (vi (((j + 1) : Nat) : Int))), (16, (vi ((k : Nat) : Int))), (17, (vp g6 2)), (18, (vs a1 x_p.Cands.length c2)), (19, (vi (x_p.Cands.length : Int))), (20, (vb (decide (((k : Nat) : Int) < (x_p.Cands.length : Int))))), (23, (vp g6 2)), (24, (vs a1 x_p.Cands.length c2)), (25, (vi ((k : Nat) : Int))), (26, (ve (vs a1 x_p.Cands.length c2) ((((k : Nat) : Int)).toNat * 4))), (27, (va [(vi (((x_p.Cands.getD k z_PCand).A).Host)), (vi (((x_p.Cands.getD k z_PCand).A).Port)), (vs a46 (x_p.Cands.getD k z_PCand).Draw.length c47), (vi ((x_p.Cands.getD k z_PCand).Until))])), (28, (vp g53 0)), (29, (va (L_25 ((x_p.Cands.getD k z_PCand).A)))), (30, (vb (F_spec_AddrOk ((x_p.Cands.getD k z_PCand).A)))), (31, (vb (!(F_spec_AddrOk ((x_p.Cands.getD k z_PCand).A))))), (32, (vb (!(F_spec_AddrOk ((x_p.Cands.getD k z_PCand).A))))), (33, (vp g53 2)), (34, (vs a46 (x_p.Cands.getD k z_PCand).Draw.length c47)), (35, (vi ((x_p.Cands.getD k z_PCand).Draw.length : Int))), (36, (vb (!(decide (((x_p.Cands.getD k z_PCand).Draw.length : Int) = 12))))), (37, (vb (!(decide (((x_p.Cands.getD k z_PCand).Draw.length : Int) = 12))))), (38, (vb (!(decide (((x_p.Cands.getD k z_PCand).Draw.length : Int) = 12))))), (39, (vp g53 3)), (40, (vi ((x_p.Cands.getD k z_PCand).Until))), (41, (vb (F_spec_l1In ((x_p.Cands.getD k z_PCand).Until) 0 1000006))), (42, (vb (!(F_spec_l1In ((x_p.Cands.getD k z_PCand).Until) 0 1000006)))), (43, (vb (!(F_spec_l1In ((x_p.Cands.getD k z_PCand).Until) 0 1000006)))), (44, (vb (!(F_spec_l1In ((x_p.Cands.getD k z_PCand).Until) 0 1000006)))), (45, (vp g53 0)), (46, (va (L_25 ((x_p.Cands.getD k z_PCand).A)))), (47, (vp g6 0)), (48, (va (L_25 x_p.At))), (49, (vb (decide ((((x_p.Cands.getD k z_PCand).A).Host) = x_p.At.Host) && decide ((((x_p.Cands.getD k z_PCand).A).Port) = x_p.At.Port)))), (50, (vb (decide ((((x_p.Cands.getD k z_PCand).A).Host) = x_p.At.Host) && decide ((((x_p.Cands.getD k z_PCand).A).Port) = x_p.At.Port))))] ?_ ?_ ?_
    · exact ⟨rfl, rfl, rfl, (congrArg (Value.int .i64) (show ((((j : Nat) : Int) + 1) : Int) = (((j + 1) : Nat) : Int) by omega)), rfl, rfl, rfl, rfl, rfl, rfl, rfl, rfl, rfl, rfl, rfl, rfl, rfl, rfl, rfl, rfl, rfl, rfl, rfl, rfl, rfl, rfl, rfl, rfl, rfl, rfl, rfl, rfl, rfl, rfl, rfl, rfl, rfl, trivial⟩
    · exact fun u => ⟨(j + 1), u, rfl, m147, (((Ch.refl (fun k => w7.heap.size ≤ k) w7).ext k82 (fun k hk => hk)).extk k146), (by omega), (by first | (intro m hm; omega) | exact allN_next (by assumption) (by simp only [sPaJ, h20, h25, h37, h65, h68, h72, h76, h85, h152]; simp))⟩
    · show k - ((((j + 1) : Nat) : Int)).toNat < k - (((j : Nat) : Int)).toNat; omega
theorem sPa_t {p : PPaths} (h : sPa p = true) : p.Cands.length ≤ 3 := by
  unfold sPa at h
  cases h1 : F_spec_AddrOk p.At with
  | false => simp only [h1, cond_false] at h; cases h
  | true =>
    cases h8 : decide (3 < (p.Cands.length : Int)) with
    | true => simp only [h1, h8, cond_true] at h; cases h
    | false => have := of_decide_eq_false h8; omega

abbrev L_34 (x : PCand) (a1 : Option Addr) (c1 : Nat) : List Value := [vi x.A.Host, vi x.A.Port, vs a1 x.Draw.length c1, vi x.Until]
def R_34 (w : World) (v : Value) (x : (PCand)) : Prop := ∃ (a1 : Option Addr) (c1 : Nat), v = .agg #[.int .i64 x.A.Host, .int .i64 x.A.Port, .slice a1 x.Draw.length c1, .int .i64 x.Until] ∧ Rd w 1 (.slice a1 x.Draw.length c1) x.Draw.length (x.Draw.map bV) ∧ x.Draw.length ≤ 1073741824
def O_34 (w : World) (lo : Nat) (v : Value) (x : (PCand)) : Prop := ∃ (a1 : Option Addr) (c1 : Nat), v = .agg #[.int .i64 x.A.Host, .int .i64 x.A.Port, .slice a1 x.Draw.length c1, .int .i64 x.Until] ∧ w.ownsRow lo 5 1 (.slice a1 x.Draw.length c1) x.Draw.length (x.Draw.map bV) ∧ x.Draw.length ≤ 1073741824 ∧ Aps [(a1, c1)]
def F_spec_l16Cand (x_x : PCand) : (PCand) := x_x
theorem C_spec_l16Cand (w0 : World) (v_x_x : Value) (x_x : PCand) (r_x_x : R_34 w0 v_x_x x_x)  : Fn Try.prog 61 #[v_x_x] w0 (fun v w' => Keep w0 w' ∧ O_34 w' w0.heap.size v (F_spec_l16Cand x_x)) := by
 obtain ⟨a1, c2, rfl, r3, s4⟩ := r_x_x
 refine fn_ofS (n := 12) [(va (L_34 x_x a1 c2))] Try.func61 rfl rfl ?_
 refine sr ?_
 refine bx (L_34 x_x a1 c2) wN ?_
 intro g6 w1 p7 p8 k9 b10
 refine al Z_34 wN zero_34 ?_
 intro g12 w2 p13 p14 k15 b16
 have m17 := ((Ch.base w0).extk k9).extk k15
 refine wl_nil <| wq_then <| wc_seq ?_
 refine wc_drawT ([(3, [], [], (fun _ v _ => v = (vp g6 0))), (4, [], [0], (fun _ v _ => v = (va (L_25 x_x.A)))), (5, [], [], (fun _ v w => ∃ a0 : Addr, v = .slice (some a0) 0 0 ∧ w.ownsRow w2.heap.size 5 1 (.slice (some a0) 0 0) 0 [])), (6, [], [], (fun _ v _ => v = (vp g6 2))), (7, [], [3], (fun _ v _ => v = (vs a1 x_x.Draw.length c2))), (8, [], [2, 3, 4], (fun _ v w => ∃ (a1 : Option Addr) (c1 : Nat), v = .slice a1 x_x.Draw.length c1 ∧ w.ownsRow w2.heap.size 5 1 (.slice a1 x_x.Draw.length c1) x_x.Draw.length (x_x.Draw.map bV) ∧ x_x.Draw.length ≤ 1073741824 ∧ Aps [(a1, c1)])), (9, [], [], (fun _ v _ => v = (vp g6 3))), (10, [], [6], (fun _ v _ => v = (vi x_x.Until)))] : GV) (fun _ w' => Keep w2 w') [] mixed rfl (by kernel_rfl) (by kernel_rfl) ?_ (fun _ _ h => h) (fun _ _ _ _ h _ k => h.trans k) trivial ?_ ?_ ?_
 ·exact ⟨hV, hE, ⟨hV, hE, ⟨(fun e v w w1 h hk => by obtain ⟨a0x, he, o0x⟩ := h; exact ⟨a0x, he, own_kp o0x hk⟩), hE, ⟨hV, hE, ⟨hV, hE, ⟨(fun e v w w1 h hk => by obtain ⟨a0x, c0x, he, o0x, l0x, hap⟩ := h; exact ⟨a0x, c0x, he, own_kp o0x hk, l0x, hap⟩), hE, ⟨hV, hE, ⟨hV, hE, trivial⟩⟩⟩⟩⟩⟩⟩⟩
 ·exact trivial
 ·refine ⟨?_, ⟨?_, ⟨?_, ⟨?_, ⟨?_, ⟨?_, ⟨?_, ⟨?_, trivial⟩⟩⟩⟩⟩⟩⟩⟩
  ·intro _ w3 k51 _
   rintro _ _ _ _ _ _ _ _
   show WL _ _ _ _ _ _ _
   refine pu (vp g6 0) wN ?_
   exact f1
  ·intro _ w3 k53 _
   rintro _ rfl _ _ _ _ _ _ _
   show WL _ _ _ _ _ _ _
   have b55 := ((b10.kp k15).kp k53)
   refine lN (L_25 x_x.A) wN isAgg_25 sizeOf_25 b55 ?_
   exact f1
  ·intro _ w3 k56 _
   rintro _ _ _ _ _ _ _ _
   show WL _ _ _ _ _ _ _
   refine wl_lit0 wN rfl rfl slTy_22 (fun w => by kernel_rfl) ?_
   intro a58 w4 k59 o60
   exact wl_finT k59 ⟨_, rfl, own_lo o60 k56.size⟩
  ·intro _ w3 k63 _
   rintro _ _ _ _ _ _ _ _
   show WL _ _ _ _ _ _ _
   refine pu (vp g6 2) wN ?_
   exact f1
  ·intro _ w3 k65 _
   rintro _ _ _ _ rfl _ _ _ _
   show WL _ _ _ _ _ _ _
   have b67 := ((b10.kp k15).kp k65)
   refine ld (vs a1 x_x.Draw.length c2) wN isAgg_22 b67 ?_
   exact f1
  ·intro _ w3 k68 _
   have m69 := m17.extk k68
   rintro _ _ _ ⟨a70, rfl, o72⟩ _ rfl _ rfl _ _ _
   show WL _ _ _ _ _ _ _
   refine ap0 x_x.Draw wN slTy_22 o72 (r3.from0 m69) k68.size ?_
   intro a76 c77 w4 k78 o79 n80
   exact wl_finT k78 ⟨_, _, rfl, o79, s4, ⟨trivial, trivial⟩⟩
  ·intro _ w3 k83 _
   rintro _ _ _ _ _ _ _ _
   show WL _ _ _ _ _ _ _
   refine pu (vp g6 3) wN ?_
   exact f1
  ·intro _ w3 k85 _
   rintro _ _ _ _ _ _ _ rfl _
   show WL _ _ _ _ _ _ _
   have b87 := ((b10.kp k15).kp k85)
   refine ld (vi x_x.Until) wN isAgg_3 b87 ?_
   exact f1
 ·intro _ w3 k88
  rintro _ rfl _ rfl _ ⟨a91, rfl, o93⟩ _ rfl _ rfl _ ⟨a97, c98, rfl, o99, s100, -⟩ _ rfl _ rfl
  show WL _ _ _ _ _ _ _
  refine pu (va (L_34 x_x a97 c98)) wN ?_
  have b103 := (b16.kp k88)
  refine sv (L_34 x_x a97 c98) wN sizeOf_34 b103 ?_
  intro w4 k104 b105 z106
  have m107 := (m17.extk k88).ext k104 (fun k hk => by subst hk; exact Nat.le_trans k9.size p13)
  refine n3 ?_
  have o108 := (own_ch o99 k104 (ne1 o99 (p14)))
  refine ret_1 (.inl rfl) (va (L_34 x_x a97 c98)) rfl (rv_c (L_34 x_x a97 c98) rfl b105 isAgg_34 sizeOf_34) ?_
  refine ⟨m107.keep0, ?_⟩
  have hF109 : F_spec_l16Cand x_x = x_x := by rfl
  rw [hF109]
  exact ⟨_, _, rfl, (own_lo o108 (z2 k9 k15)), s100, ⟨trivial, trivial⟩⟩

theorem sizeOf_26 : ∀ w, (sizeOf 26).run Try.prog w = .ok 1 w := fun w => by kernel_rfl
theorem mR_34 {w : World} {x : PCand} {a1 : Option Addr} {c1 : Nat} (h1 : Rd w 1 (.slice a1 x.Draw.length c1) x.Draw.length (x.Draw.map bV)) (l1 : x.Draw.length ≤ 1073741824) : R_34 w (va (L_34 x a1 c1)) x := ⟨_, _, rfl, h1, l1⟩
def F_spec_l16Copy (x_p : PPaths) : (PPaths) := { At := x_p.At, Cands := (x_p.Cands.take x_p.Cands.length) : PPaths }
theorem C_spec_l16Copy (w0 : World) (v_x_p : Value) (x_p : PPaths) (r_x_p : R_28 w0 v_x_p x_p)  : Fn Try.prog 60 #[v_x_p] w0 (fun v w' => Keep w0 w' ∧ O_28 w' w0.heap.size v (x_p)) := by
 obtain ⟨a1, c2, rfl, r3, s4⟩ := r_x_p
 refine fn_ofS (n := 27) [(va (L_28 x_p a1 c2))] Try.func60 rfl rfl ?_
 refine sr ?_
 refine bx (L_28 x_p a1 c2) wN ?_
 intro g6 w1 p7 p8 k9 b10
 refine al [(vi 0), (vi 0), (vs none 0 0)] wN zero_28 ?_
 intro g12 w2 p13 p14 k15 b16
 have m17 := ((Ch.base w0).extk k9).extk k15
 refine nx ?_
 refine pu (vp g6 0) wN ?_
 have b18 := (b10.kp k15)
 refine lN (L_25 x_p.At) wN isAgg_25 sizeOf_25 b18 ?_
 refine pu (va [(vi x_p.At.Host), (vi x_p.At.Port), (vs none 0 0)]) wN ?_
 refine al [(vi 0), (vi 0), (vs none 0 0)] wN zero_28 ?_
 intro g19 w3 p20 p21 k22 b23
 refine sv [(vi x_p.At.Host), (vi x_p.At.Port), (vs none 0 0)] wN sizeOf_28 b23 ?_
 intro w4 k25 b26 z27
 have m28 := (m17.extk k22).ext k25 (fun k hk => by subst hk; exact Nat.le_trans (z2 k9 k15) p20)
 refine n4 ?_
 refine aw (vi 0) ?_
 refine wl_nil <| wq_then <| wc_block ?_
 have hE30 : (([] : List (PCand)) : List (PCand)) = x_p.Cands.take 0 := by first | rfl | exact take_snoc (z := z_PCand) (by omega)
 refine wc_loopP [(1, (vp g6 0)), (2, (vp g12 0)), (3, (vp g19 0)), (4, (vi ((0 : Nat) : Int)))] ⟨rfl, rfl, rfl, (congrArg (Value.int .i64) (show (0 : Int) = ((0 : Nat) : Int) by omega)), trivial⟩ (fun e' w' => ∃ (kq : Nat) (u29 : Env) (ab3_2x : Option Addr) (cb3_2x : Nat), e' = pt u29 [(1, (vp g6 0)), (2, (vp g12 0)), (3, (vp g19 0)), (4, (vi ((kq : Nat) : Int)))] ∧ Ch (fun k => w0.heap.size ≤ k) w0 w' ∧ Ch (fun k => w2.heap.size ≤ k) w4 w' ∧ kq ≤ x_p.Cands.length ∧ (OLv LT_34 w' w4.heap.size w'.heap.size ab3_2x (x_p.Cands.take kq).length cb3_2x (x_p.Cands.take kq) ∧ (x_p.Cands.take kq).length ≤ 1073741824) ∧ Blk w' g19 28 [(vi x_p.At.Host), (vi x_p.At.Port), (.slice ab3_2x (x_p.Cands.take kq).length cb3_2x)]) (fun e' _ => x_p.Cands.length - ((intOf (e' 4))).toNat) ?_ ?_
 ·exact fun u => ⟨0, u, none, 0, rfl, m28, (Ch.refl (fun k => w2.heap.size ≤ k) w4), (by omega), (hE30 ▸ ⟨(OLv.nil w4 w4.heap.size w4.heap.size LT_34), (by simp)⟩), b26⟩
 ·rintro _ w5 ⟨kq, u29, ab3_2x, cb3_2x, rfl, m31, k32, i33, ⟨o34, s35⟩, hbx3⟩
  obtain ⟨y37, o38⟩ := OLv.ow o34
  refine wc_seq <| sr ?_
  refine mw (vi ((kq : Nat) : Int)) ?_
  refine pu (vp g6 2) wN ?_
  have b39 := (((b18.kp k22).ch k25 (Nat.ne_of_lt (Nat.lt_of_lt_of_le p8 (Nat.le_trans k15.size p20)))).ch k32 (Nat.not_le.2 (Nat.lt_of_lt_of_le p8 k15.size)))
  refine ld (vs a1 x_p.Cands.length c2) wN isAgg_26 b39 ?_
  obtain ⟨y40, r41⟩ := RLv.row (r3.from0 m31)
  refine ln wN slTy_26 r41 ?_
  refine pu (vb (decide (((kq : Nat) : Int) < (x_p.Cands.length : Int)))) wN ?_
  refine n2 ?_
  rcases bf (decide (((kq : Nat) : Int) < (x_p.Cands.length : Int))) with h42 | h42
  ·have q202 := of_decide_eq_false h42
   refine cf h42 ?_
   refine wc_exit <| wq_then_exit ?_
   obtain rfl : kq = x_p.Cands.length := by omega
   refine wq_then_exit <| wq_blk_exit <| wq_then <| sr ?_
   refine lN [(vi x_p.At.Host), (vi x_p.At.Port), (vs ab3_2x (x_p.Cands.take x_p.Cands.length).length cb3_2x)] wN isAgg_28 sizeOf_28 hbx3 ?_
   have b203 := (((b16.kp k22).ch k25 (Nat.ne_of_lt (Nat.lt_of_lt_of_le p14 (p20)))).ch k32 (Nat.not_le.2 (p14)))
   refine sv [(vi x_p.At.Host), (vi x_p.At.Port), (vs ab3_2x (x_p.Cands.take x_p.Cands.length).length cb3_2x)] wN sizeOf_28 b203 ?_
   intro w6 k204 b205 z206
   have m207 := m31.ext k204 (fun k hk => by subst hk; exact Nat.le_trans k9.size p13)
   refine n3 ?_
   have o208 := (OLv.ch o34 k204 (fun g h1 h2 hk => by have h3 := Nat.lt_of_lt_of_le p14 (z2 k22 k25); omega))
   refine ret_1 (.inl rfl) (va [(vi x_p.At.Host), (vi x_p.At.Port), (vs ab3_2x (x_p.Cands.take x_p.Cands.length).length cb3_2x)]) rfl (rv_c [(vi x_p.At.Host), (vi x_p.At.Port), (vs ab3_2x (x_p.Cands.take x_p.Cands.length).length cb3_2x)] rfl b205 isAgg_28 sizeOf_28) ?_
   refine ⟨m207.keep0, ?_⟩
   have hF209 : x_p.Cands.take x_p.Cands.length = x_p.Cands := List.take_length
   rw [hF209] at o208 ⊢
   exact ⟨_, _, rfl, (OLv.now (OLv.low o208 (z4 k9 k15 k22 k25))), (by omega), ⟨trivial, trivial⟩⟩
  have q43 := of_decide_eq_true h42
  refine ct h42 ?_
  refine wc_skip <| wq_then <| wc_seq <| wc_block ?_
  obtain ⟨y89, l90, r91, e92, u93⟩ := RLv.el z_PCand (i := kq) r3 (by first | omega | (simp only [List.length_cons, List.length_nil, List.length_replicate, List.length_append, List.length_take, List.length_set, List.length_map]; omega))
  obtain ⟨a94, c95, l99, rfl, r96, s97, u100⟩ := SubR.c u93
  obtain rfl := SubR.n u100
  refine wc_drawT ([(15, [], [], (fun _ v _ => v = (vp g19 2))), (16, [], [0], (fun _ v _ => v = (vs ab3_2x (x_p.Cands.take kq).length cb3_2x))), (17, [], [], (fun _ v _ => v = (vp g6 2))), (18, [], [2], (fun _ v _ => v = (vs a1 x_p.Cands.length c2))), (19, [], [], (fun _ v _ => v = (vi ((kq : Nat) : Int)))), (20, [], [2, 3, 4], (fun _ v _ => v = (ve (vs a1 x_p.Cands.length c2) ((((kq : Nat) : Int)).toNat * 4)))), (21, [], [2, 3, 4, 5], (fun _ v _ => v = (va [(vi (((x_p.Cands.getD kq z_PCand).A).Host)), (vi (((x_p.Cands.getD kq z_PCand).A).Port)), (vs a94 (x_p.Cands.getD kq z_PCand).Draw.length c95), (vi ((x_p.Cands.getD kq z_PCand).Until))]))), (22, [], [2, 3, 4, 5, 6], (fun _ v w => ∃ (a1 : Option Addr) (c1 : Nat), v = .agg #[.int .i64 (((F_spec_l16Cand (x_p.Cands.getD kq z_PCand)).A).Host), .int .i64 (((F_spec_l16Cand (x_p.Cands.getD kq z_PCand)).A).Port), .slice a1 ((F_spec_l16Cand (x_p.Cands.getD kq z_PCand)).Draw).length c1, .int .i64 ((F_spec_l16Cand (x_p.Cands.getD kq z_PCand)).Until)] ∧ w.ownsRow (w5.heap.size) 5 1 (.slice a1 ((F_spec_l16Cand (x_p.Cands.getD kq z_PCand)).Draw).length c1) ((F_spec_l16Cand (x_p.Cands.getD kq z_PCand)).Draw).length (((F_spec_l16Cand (x_p.Cands.getD kq z_PCand)).Draw).map bV) ∧ ((F_spec_l16Cand (x_p.Cands.getD kq z_PCand)).Draw).length ≤ 1073741824 ∧ Aps [(a1, c1)])), (23, [22], [2, 3, 4, 5, 6, 7], (fun e v w => ∃ (a1 : Option Addr) (c1 : Nat), v = .slice a1 1 c1 ∧ w.ownsRow w5.heap.size 34 4 (.slice a1 1 c1) 1 [(vi (((F_spec_l16Cand (x_p.Cands.getD kq z_PCand)).A).Host)), (vi (((F_spec_l16Cand (x_p.Cands.getD kq z_PCand)).A).Port)), (cellAt (e 22) 2), (vi ((F_spec_l16Cand (x_p.Cands.getD kq z_PCand)).Until))]))] : GV) (fun _ w' => Keep w5 w') [] mixed rfl (by kernel_rfl) (by kernel_rfl) ?_ (fun _ _ h => h) (fun _ _ _ _ h _ k => h.trans k) trivial ?_ ?_ ?_
  ·exact ⟨hV, hE, ⟨hV, hE, ⟨hV, hE, ⟨hV, hE, ⟨hV, hE, ⟨hV, hE, ⟨hV, hE, ⟨(fun e v w w1 h hk => by obtain ⟨a0x, c0x, he, o0x, l0x, hap⟩ := h; exact ⟨a0x, c0x, he, own_kp o0x hk, l0x, hap⟩), hE, ⟨(fun e v w w1 h hk => by obtain ⟨a0x, c0x, he, o0x⟩ := h; exact ⟨a0x, c0x, he, own_kp o0x hk⟩), (fun e1 e2 v w hx h => by have h22x := hx 22 (by simp); simp only [h22x] at h; exact h), trivial⟩⟩⟩⟩⟩⟩⟩⟩⟩
  ·exact trivial
  ·refine ⟨?_, ⟨?_, ⟨?_, ⟨?_, ⟨?_, ⟨?_, ⟨?_, ⟨?_, ⟨?_, trivial⟩⟩⟩⟩⟩⟩⟩⟩⟩
   ·intro _ w6 k116 _
    rintro _ _ _ _ _ _ _ _ _
    show WL _ _ _ _ _ _ _
    refine pu (vp g19 2) wN ?_
    exact f1
   ·intro _ w6 k118 _
    rintro _ rfl _ _ _ _ _ _ _ _
    show WL _ _ _ _ _ _ _
    have b120 := (hbx3.kp k118)
    refine ld (vs ab3_2x (x_p.Cands.take kq).length cb3_2x) wN isAgg_26 b120 ?_
    exact f1
   ·intro _ w6 k121 _
    rintro _ _ _ _ _ _ _ _ _
    show WL _ _ _ _ _ _ _
    refine pu (vp g6 2) wN ?_
    exact f1
   ·intro _ w6 k123 _
    rintro _ _ _ rfl _ _ _ _ _ _
    show WL _ _ _ _ _ _ _
    have b125 := (b39.kp k123)
    refine ld (vs a1 x_p.Cands.length c2) wN isAgg_26 b125 ?_
    exact f1
   ·intro _ w6 k126 _
    rintro _ _ _ _ _ _ _ _ _
    show WL _ _ _ _ _ _ _
    refine mw (vi ((kq : Nat) : Int)) ?_
    exact f1
   ·intro _ w6 k128 _
    have m129 := m31.extk k128
    rintro _ _ _ rfl _ rfl _ rfl _ _ _ _
    show WL _ _ _ _ _ _ _
    obtain ⟨y131, r132⟩ := RLv.row (r3.from0 m129)
    refine ix wN ((kq : Nat) : Int) slTy_26 r132 ?_
    exact f1
   ·intro _ w6 k133 _
    have m134 := m31.extk k133
    rintro _ _ _ rfl _ rfl _ rfl _ rfl _ _ _
    show WL _ _ _ _ _ _ _
    refine wl_loadEN [(vi (((x_p.Cands.getD kq z_PCand).A).Host)), (vi (((x_p.Cands.getD kq z_PCand).A).Port)), (vs a94 (x_p.Cands.getD kq z_PCand).Draw.length c95), (vi ((x_p.Cands.getD kq z_PCand).Until))] wN rfl rfl rfl rfl isAgg_34 sizeOf_34 (r91.from0 m134) (by first | omega | (simp only [List.length_cons, List.length_nil, List.length_replicate, List.length_append, List.length_take, List.length_set, List.length_map]; omega)) ((part_of (off := 0) (n := 4) e92 (by first | rfl | simp | omega) (by decide)).trans rfl) ?_
    exact f1
   ·intro _ w6 k138 _
    have m139 := m31.extk k138
    rintro _ _ _ rfl _ rfl _ rfl _ rfl _ rfl _ _
    show WL _ _ _ _ _ _ _
    refine cl wN (C_spec_l16Cand w6 _ (x_p.Cands.getD kq z_PCand) (mR_34 (r96.from0 m139) s97)) ?_
    rintro _ w7 ⟨k143, ⟨a144, c145, rfl, o146, s147, ap149⟩⟩
    exact wl_finT k143 ⟨_, _, rfl, (own_lo o146 k138.size), s147, ap149⟩
   ·intro _ w6 k151 _
    rintro _ _ _ rfl _ rfl _ rfl _ rfl _ rfl _ ⟨a156, c157, rfl, o158, s159, ap161⟩ _
    show WL _ _ _ _ _ _ _
    refine wl_lit [(vi (((F_spec_l16Cand (x_p.Cands.getD kq z_PCand)).A).Host)), (vi (((F_spec_l16Cand (x_p.Cands.getD kq z_PCand)).A).Port)), (vs a156 ((F_spec_l16Cand (x_p.Cands.getD kq z_PCand)).Draw).length c157), (vi ((F_spec_l16Cand (x_p.Cands.getD kq z_PCand)).Until))] wN rfl rfl slTy_26 (m := 1) rfl (by simp only [maxLen]; omega) (fun w => by kernel_rfl) ?_
    intro u162 w7 k163 o164
    obtain ⟨a165, c166, rfl⟩ := own_form o164
    exact wl_finT k163 ⟨_, _, rfl, own_lo o164 k151.size⟩
  ·intro _ w6 k169
   rintro _ rfl _ rfl _ rfl _ rfl _ rfl _ rfl _ rfl _ ⟨a175, c176, rfl, o177, s178, ap180⟩ _ ⟨a181, c182, rfl, o183⟩
   show WL _ _ _ _ _ _ _
   have o185 := (OLv.kp o34 k169)
   refine wl_appL (L := LT_34) (xs := (x_p.Cands.take kq)) (el := (F_spec_l16Cand (x_p.Cands.getD kq z_PCand))) (l := [(a175, c176)]) wN slTy_26 o185 (Rd.of_own o183) ⟨⟨o177, s178⟩, trivial⟩ ⟨trivial, trivial⟩ (Nat.le_refl _) k32.size (by first | omega | (simp only [List.length_take, List.length_append, List.length_cons, List.length_nil]; omega) | (refine Nat.le_trans (Nat.succ_le_succ (List.length_filter_le _ _)) ?_; simp only [List.length_take]; omega)) (z2 k32 k169) ?_
   intro a186 c187 w7 k188 o189
   have m190 := (m31.extk k169).ext k188 (fun k hk => Nat.le_trans (z4 k9 k15 k22 k25) (own_lt o38 k hk).1)
   obtain ⟨y193, o194⟩ := OLv.ow o189
   refine pu (vp g19 2) wN ?_
   have b195 := ((hbx3.kp k169).ch k188 (fun h => by have := (own_lt o38 _ h).1; have := Nat.lt_of_lt_of_le p21 k25.size; omega))
   refine st (vs a186 ((x_p.Cands.take kq) ++ [(F_spec_l16Cand (x_p.Cands.getD kq z_PCand))]).length c187) [(vs a186 ((x_p.Cands.take kq) ++ [(F_spec_l16Cand (x_p.Cands.getD kq z_PCand))]).length c187)] [(vi x_p.At.Host), (vi x_p.At.Port), (vs a186 ((x_p.Cands.take kq) ++ [(F_spec_l16Cand (x_p.Cands.getD kq z_PCand))]).length c187)] wN sizeOf_26 b195 ?_
   intro w8 k196 b197 z198
   have m199 := m190.ext k196 (fun k hk => by subst hk; exact Nat.le_trans (z2 k9 k15) p20)
   refine wl_nil <| wq_blk_normal <| wq_then <| wc_region ?_
   refine mw (vi ((kq : Nat) : Int)) ?_
   refine ar (((kq : Nat) : Int) + 1) wN ?_
   refine aw (vi (((kq : Nat) : Int) + 1)) ?_
   refine wl_nil ?_
   have o200 := (OLv.ch o189 k196 (fun g h1 h2 hk => by have h3 := Nat.lt_of_lt_of_le p21 k25.size; omega))
   have hE201 : (((x_p.Cands.take kq) ++ [(F_spec_l16Cand (x_p.Cands.getD kq z_PCand))]) : List (PCand)) = x_p.Cands.take (kq + 1) := by first | rfl | exact take_snoc (z := z_PCand) (by omega)
   refine wq_loopP (w0 := w5) [(1, (vp g6 0)), (2, (vp g12 0)), (3, (vp g19 0)), (4, (vi (((kq + 1) : Nat) : Int)))] ?_ ?_ ?_
   · exact ⟨rfl, rfl, rfl, (congrArg (Value.int .i64) (show ((((kq : Nat) : Int) + 1) : Int) = (((kq + 1) : Nat) : Int) by omega)), trivial⟩
   · exact fun u => ⟨(kq + 1), u, a186, c187, rfl, m199, (((((Ch.refl (fun k => w2.heap.size ≤ k) w4).ext k32 (fun k hk => hk)).extk k169).ext k188 (fun k hk => Nat.le_trans (z2 k22 k25) (own_lt o38 k hk).1)).ext k196 (fun k hk => by subst hk; exact p20)), (by omega), (hE201 ▸ ⟨(OLv.now o200), (OLv.small o189)⟩), (by have hb := b197; first | exact hb | (rw [hE201] at hb; exact hb))⟩
   · show x_p.Cands.length - ((((kq + 1) : Nat) : Int)).toNat < x_p.Cands.length - (((kq : Nat) : Int)).toNat; omega

theorem fieldAt_34_2 : ∀ a w, (Instr.fieldAt 34 (.pointer (some a)) 2).run Try.prog w = .ok (.pointer (some (a.add 3))) w := fun a w => by kernel_rfl
theorem mR_28 {w : World} {x : PPaths} {a1 : Option Addr} {c1 : Nat} (h1 : RLv LT_34 w 1073741824 a1 x.Cands.length c1 x.Cands) (l1 : x.Cands.length ≤ 1073741824) : R_28 w (va (L_28 x a1 c1)) x := ⟨_, _, rfl, h1, l1⟩
def F_spec_PathTick (x_p : PPaths) (x_now : Int) : (PPaths) := bif (sPa x_p) then (bif (F_spec_l1In x_now 0 1000000) then ({ At := x_p.At, Cands := ((x_p.Cands.take x_p.Cands.length).filter (fun c : PCand => decide (x_now ≤ c.Until))) : PPaths }) else ((x_p))) else ((x_p))
theorem C_spec_PathTick (w0 : World) (v_x_p : Value) (x_p : PPaths) (r_x_p : R_28 w0 v_x_p x_p) (x_now : Int)  : Fn Try.prog 68 #[v_x_p, (vi x_now)] w0 (fun v w' => Keep w0 w' ∧ O_28 w' w0.heap.size v (F_spec_PathTick x_p x_now)) := by
 obtain ⟨a1, c2, rfl, r3, s4⟩ := r_x_p
 refine fn_ofS (n := 47) [(va (L_28 x_p a1 c2)), (vi x_now)] Try.func68 rfl rfl ?_
 refine sr ?_
 refine bx (L_28 x_p a1 c2) wN ?_
 intro g6 w1 p7 p8 k9 b10
 refine al [(vi 0), (vi 0), (vs none 0 0)] wN zero_28 ?_
 intro g12 w2 p13 p14 k15 b16
 have m17 := ((Ch.base w0).extk k9).extk k15
 refine n4 ?_
 refine jT1 [(1, (vi x_now)), (2, (vp g6 0)), (4, (vp g12 0))] (F_spec_PathTick x_p x_now = (x_p)) ?_ fun J18 => ?_
 ·intro hA19 w3 k21 u20
  have m22 := m17.extk k21
  refine sr ?_
  have b23 := ((b10.kp k15).kp k21)
  refine lN (L_28 x_p a1 c2) wN isAgg_28 sizeOf_28 b23 ?_
  refine cl wN (C_spec_l16Copy w3 _ x_p (mR_28 (r3.from0 m22) s4)) ?_
  rintro _ w4 ⟨k24, ⟨a25, c26, rfl, o27, s28, ap30⟩⟩
  obtain ⟨y32, o33⟩ := OLv.ow o27
  have b34 := ((b16.kp k21).kp k24)
  refine sv (L_28 (x_p) a25 c26) wN sizeOf_28 b34 ?_
  intro w5 k35 b36 z37
  have m38 := (m22.extk k24).ext k35 (fun k hk => by subst hk; exact Nat.le_trans k9.size p13)
  refine n1 ?_
  have o39 := (OLv.ch o27 k35 (fun g h1 h2 hk => by have h3 := Nat.lt_of_lt_of_le p14 k21.size; omega))
  refine ret_1 (.inl rfl) (va (L_28 (x_p) a25 c26)) rfl (rv_c (L_28 (x_p) a25 c26) rfl b36 isAgg_28 sizeOf_28) ?_
  refine ⟨m38.keep0, ?_⟩
  rw [hA19]
  exact ⟨_, _, rfl, (OLv.now (OLv.low o39 (z3 k9 k15 k21))), s28, ⟨trivial, trivial⟩⟩
 have b41 := (b10.kp k15)
 refine lN (L_28 x_p a1 c2) wN isAgg_28 sizeOf_28 b41 ?_
 refine cl wN (C_spec_PathsOk w2 _ x_p (mR_28 (r3.from0 m17) s4)) ?_
 rintro _ w3 ⟨k42, rfl⟩
 refine pu (vb (!(sPa x_p))) wN ?_
 refine mw (vb (!(sPa x_p))) ?_
 rcases bf (sPa x_p) with h44 | h44
 ·iterate 3 refine sk (congrArg not h44) ?_
  refine pk (vb true) wN (congrArg not h44) ?_
  refine n2 ?_
  refine ct (Eq.refl true) ?_
  have hF239 : F_spec_PathTick x_p x_now = (x_p) := by simp only [F_spec_PathTick, h44, cond_true, cond_false]
  exact wj (J18 hF239 _ k42)
 have q45 := sPa_t h44
 refine mv (vi x_now) (wS (congrArg not h44)) ?_
 refine cl (wS (congrArg not h44)) (C_spec_l1In w3 x_now 0 1000000) ?_
 rintro _ w4 ⟨k46, rfl⟩
 have m47 := (m17.extk k42).extk k46
 refine pu (vb (!(F_spec_l1In x_now 0 1000000))) (wS (congrArg not h44)) ?_
 refine pf (vb (!(F_spec_l1In x_now 0 1000000))) wN (congrArg not h44) ?_
 refine n2 ?_
 rcases bf (F_spec_l1In x_now 0 1000000) with h48 | h48
 ·have q236 := spec_l1In_f h48
  refine ct (congrArg not h48) ?_
  have hF237 : F_spec_PathTick x_p x_now = (x_p) := by simp only [F_spec_PathTick, h44, h48, cond_true, cond_false]
  exact wj (J18 hF237 _ (k42.trans k46))
 have q49 := spec_l1In_t h48
 refine cf (congrArg not h48) ?_
 refine y1 ?_
 refine pu (vp g6 0) wN ?_
 have b50 := ((b41.kp k42).kp k46)
 refine lN (L_25 x_p.At) wN isAgg_25 sizeOf_25 b50 ?_
 refine pu (va [(vi x_p.At.Host), (vi x_p.At.Port), (vs none 0 0)]) wN ?_
 refine al [(vi 0), (vi 0), (vs none 0 0)] wN zero_28 ?_
 intro g51 w5 p52 p53 k54 b55
 refine sv [(vi x_p.At.Host), (vi x_p.At.Port), (vs none 0 0)] wN sizeOf_28 b55 ?_
 intro w6 k57 b58 z59
 have m60 := (m47.extk k54).ext k57 (fun k hk => by subst hk; exact Nat.le_trans (z4 k9 k15 k42 k46) p52)
 refine n4 ?_
 refine aw (vi 0) ?_
 refine wl_nil <| wq_then <| wc_block ?_
 have hE62 : (([] : List (PCand)) : List (PCand)) = (x_p.Cands.take 0).filter (fun c : PCand => decide (x_now ≤ c.Until)) := by first | rfl | exact filt_t (z := z_PCand) (by omega) (by first | assumption | (simp only [Bool.not_eq_true']; assumption)) | exact filt_f (z := z_PCand) (by omega) (by first | assumption | (simp only [Bool.not_eq_false']; assumption))
 refine wc_loopP [(1, (vi x_now)), (2, (vp g6 0)), (4, (vp g12 0)), (5, (vp g51 0)), (6, (vi ((0 : Nat) : Int)))] ⟨rfl, rfl, rfl, rfl, (congrArg (Value.int .i64) (show (0 : Int) = ((0 : Nat) : Int) by omega)), trivial⟩ (fun e' w' => ∃ (kq : Nat) (u61 : Env) (ab5_2x : Option Addr) (cb5_2x : Nat), e' = pt u61 [(1, (vi x_now)), (2, (vp g6 0)), (4, (vp g12 0)), (5, (vp g51 0)), (6, (vi ((kq : Nat) : Int)))] ∧ Ch (fun k => w0.heap.size ≤ k) w0 w' ∧ Ch (fun k => w4.heap.size ≤ k) w6 w' ∧ kq ≤ x_p.Cands.length ∧ (OLv LT_34 w' w6.heap.size w'.heap.size ab5_2x ((x_p.Cands.take kq).filter (fun c : PCand => decide (x_now ≤ c.Until))).length cb5_2x ((x_p.Cands.take kq).filter (fun c : PCand => decide (x_now ≤ c.Until))) ∧ ((x_p.Cands.take kq).filter (fun c : PCand => decide (x_now ≤ c.Until))).length ≤ 1073741824) ∧ Blk w' g51 28 [(vi x_p.At.Host), (vi x_p.At.Port), (.slice ab5_2x ((x_p.Cands.take kq).filter (fun c : PCand => decide (x_now ≤ c.Until))).length cb5_2x)]) (fun e' _ => x_p.Cands.length - ((intOf (e' 6))).toNat) ?_ ?_
 ·exact fun u => ⟨0, u, none, 0, rfl, m60, (Ch.refl (fun k => w4.heap.size ≤ k) w6), (by omega), (hE62 ▸ ⟨(OLv.nil w6 w6.heap.size w6.heap.size LT_34), (by simp)⟩), b58⟩
 ·rintro _ w7 ⟨kq, u61, ab5_2x, cb5_2x, rfl, m63, k64, i65, ⟨o66, s67⟩, hbx5⟩
  obtain ⟨y69, o70⟩ := OLv.ow o66
  refine wc_seq <| sr ?_
  refine mw (vi ((kq : Nat) : Int)) ?_
  refine pu (vp g6 2) wN ?_
  have b71 := (((b50.kp k54).ch k57 (Nat.ne_of_lt (Nat.lt_of_lt_of_le p8 (Nat.le_trans (z3 k15 k42 k46) p52)))).ch k64 (Nat.not_le.2 (Nat.lt_of_lt_of_le p8 (z3 k15 k42 k46))))
  refine ld (vs a1 x_p.Cands.length c2) wN isAgg_26 b71 ?_
  obtain ⟨y72, r73⟩ := RLv.row (r3.from0 m63)
  refine ln wN slTy_26 r73 ?_
  refine pu (vb (decide (((kq : Nat) : Int) < (x_p.Cands.length : Int)))) wN ?_
  refine n2 ?_
  rcases bf (decide (((kq : Nat) : Int) < (x_p.Cands.length : Int))) with h74 | h74
  ·have q228 := of_decide_eq_false h74
   refine cf h74 ?_
   refine wc_exit <| wq_then_exit ?_
   obtain rfl : kq = x_p.Cands.length := by omega
   refine wq_then_exit <| wq_blk_exit <| wq_then <| sr ?_
   refine lN [(vi x_p.At.Host), (vi x_p.At.Port), (vs ab5_2x ((x_p.Cands.take x_p.Cands.length).filter (fun c : PCand => decide (x_now ≤ c.Until))).length cb5_2x)] wN isAgg_28 sizeOf_28 hbx5 ?_
   have b229 := (((((b16.kp k42).kp k46).kp k54).ch k57 (Nat.ne_of_lt (Nat.lt_of_lt_of_le p14 (Nat.le_trans (z2 k42 k46) p52)))).ch k64 (Nat.not_le.2 (Nat.lt_of_lt_of_le p14 (z2 k42 k46))))
   refine sv [(vi x_p.At.Host), (vi x_p.At.Port), (vs ab5_2x ((x_p.Cands.take x_p.Cands.length).filter (fun c : PCand => decide (x_now ≤ c.Until))).length cb5_2x)] wN sizeOf_28 b229 ?_
   intro w8 k230 b231 z232
   have m233 := m63.ext k230 (fun k hk => by subst hk; exact Nat.le_trans k9.size p13)
   refine n3 ?_
   have o234 := (OLv.ch o66 k230 (fun g h1 h2 hk => by have h3 := Nat.lt_of_lt_of_le p14 (z4 k42 k46 k54 k57); omega))
   refine ret_1 (.inl rfl) (va [(vi x_p.At.Host), (vi x_p.At.Port), (vs ab5_2x ((x_p.Cands.take x_p.Cands.length).filter (fun c : PCand => decide (x_now ≤ c.Until))).length cb5_2x)]) rfl (rv_c [(vi x_p.At.Host), (vi x_p.At.Port), (vs ab5_2x ((x_p.Cands.take x_p.Cands.length).filter (fun c : PCand => decide (x_now ≤ c.Until))).length cb5_2x)] rfl b231 isAgg_28 sizeOf_28) ?_
   refine ⟨m233.keep0, ?_⟩
   simp only [F_spec_PathTick, h44, h48, h74, cond_true, cond_false]
   exact ⟨_, _, rfl, (OLv.now (OLv.low o234 (z6 k9 k15 k42 k46 k54 k57))), s67, ⟨trivial, trivial⟩⟩
  have q75 := of_decide_eq_true h74
  refine ct h74 ?_
  refine wc_skip <| wq_then <| wc_seq <| wc_block <| sr ?_
  refine pu (vp g6 2) wN ?_
  refine ld (vs a1 x_p.Cands.length c2) wN isAgg_26 b71 ?_
  refine mw (vi ((kq : Nat) : Int)) ?_
  obtain ⟨y76, r77⟩ := RLv.row (r3.from0 m63)
  refine ix wN ((kq : Nat) : Int) slTy_26 r77 ?_
  obtain ⟨y78, l79, r80, e81, u82⟩ := RLv.el z_PCand (i := kq) r3 (by first | omega | (simp only [List.length_cons, List.length_nil, List.length_replicate, List.length_append, List.length_take, List.length_set, List.length_map]; omega))
  obtain ⟨a83, c84, l88, rfl, r85, s86, u89⟩ := SubR.c u82
  obtain rfl := SubR.n u89
  refine wl_fieldE wN rfl rfl rfl fieldAt_34_2 rfl (r80.from0 m63) (by omega) ?_
  refine wl_loadE (vi ((x_p.Cands.getD kq z_PCand).Until)) wN rfl rfl rfl rfl isAgg_3 (r80.from0 m63) ((get_of (off := 3) e81 (by first | rfl | simp | omega) (by decide)).trans rfl) ?_
  refine mw (vi x_now) ?_
  refine pu (vb (decide (x_now ≤ (x_p.Cands.getD kq z_PCand).Until))) wN ?_
  refine n2 ?_
  rcases bf (decide (x_now ≤ (x_p.Cands.getD kq z_PCand).Until)) with h90 | h90
  ·have q226 := of_decide_eq_false h90
   refine cf h90 ?_
   refine wc_skip <| wq_blk_normal <| wq_then <| wc_region ?_
   refine mw (vi ((kq : Nat) : Int)) ?_
   refine ar (((kq : Nat) : Int) + 1) wN ?_
   refine aw (vi (((kq : Nat) : Int) + 1)) ?_
   refine wl_nil ?_
   have hE227 : (((x_p.Cands.take kq).filter (fun c : PCand => decide (x_now ≤ c.Until))) : List (PCand)) = (x_p.Cands.take (kq + 1)).filter (fun c : PCand => decide (x_now ≤ c.Until)) := by first | rfl | exact filt_t (z := z_PCand) (by omega) (by first | assumption | (simp only [Bool.not_eq_true']; assumption)) | exact filt_f (z := z_PCand) (by omega) (by first | assumption | (simp only [Bool.not_eq_false']; assumption))
   refine wq_loopP (w0 := w7) [(1, (vi x_now)), (2, (vp g6 0)), (4, (vp g12 0)), (5, (vp g51 0)), (6, (vi (((kq + 1) : Nat) : Int)))] ?_ ?_ ?_
   · exact ⟨rfl, rfl, rfl, rfl, (congrArg (Value.int .i64) (show ((((kq : Nat) : Int) + 1) : Int) = (((kq + 1) : Nat) : Int) by omega)), trivial⟩
   · exact fun u => ⟨(kq + 1), u, ab5_2x, cb5_2x, rfl, m63, ((Ch.refl (fun k => w4.heap.size ≤ k) w6).ext k64 (fun k hk => hk)), (by omega), (hE227 ▸ ⟨(OLv.now o66), s67⟩), (by have hb := hbx5; first | exact hb | (rw [hE227] at hb; exact hb))⟩
   · show x_p.Cands.length - ((((kq + 1) : Nat) : Int)).toNat < x_p.Cands.length - (((kq : Nat) : Int)).toNat; omega
  have q91 := of_decide_eq_true h90
  refine ct h90 ?_
  refine wc_drawT ([(35, [], [], (fun _ v _ => v = (vp g51 2))), (36, [], [0], (fun _ v _ => v = (vs ab5_2x ((x_p.Cands.take kq).filter (fun c : PCand => decide (x_now ≤ c.Until))).length cb5_2x))), (37, [], [], (fun _ v _ => v = (vp g6 2))), (38, [], [2], (fun _ v _ => v = (vs a1 x_p.Cands.length c2))), (39, [], [], (fun _ v _ => v = (vi ((kq : Nat) : Int)))), (40, [], [2, 3, 4], (fun _ v _ => v = (ve (vs a1 x_p.Cands.length c2) ((((kq : Nat) : Int)).toNat * 4)))), (41, [], [2, 3, 4, 5], (fun _ v _ => v = (va [(vi (((x_p.Cands.getD kq z_PCand).A).Host)), (vi (((x_p.Cands.getD kq z_PCand).A).Port)), (vs a83 (x_p.Cands.getD kq z_PCand).Draw.length c84), (vi ((x_p.Cands.getD kq z_PCand).Until))]))), (42, [], [2, 3, 4, 5, 6], (fun _ v w => ∃ (a1 : Option Addr) (c1 : Nat), v = .agg #[.int .i64 (((F_spec_l16Cand (x_p.Cands.getD kq z_PCand)).A).Host), .int .i64 (((F_spec_l16Cand (x_p.Cands.getD kq z_PCand)).A).Port), .slice a1 ((F_spec_l16Cand (x_p.Cands.getD kq z_PCand)).Draw).length c1, .int .i64 ((F_spec_l16Cand (x_p.Cands.getD kq z_PCand)).Until)] ∧ w.ownsRow (w7.heap.size) 5 1 (.slice a1 ((F_spec_l16Cand (x_p.Cands.getD kq z_PCand)).Draw).length c1) ((F_spec_l16Cand (x_p.Cands.getD kq z_PCand)).Draw).length (((F_spec_l16Cand (x_p.Cands.getD kq z_PCand)).Draw).map bV) ∧ ((F_spec_l16Cand (x_p.Cands.getD kq z_PCand)).Draw).length ≤ 1073741824 ∧ Aps [(a1, c1)])), (43, [42], [2, 3, 4, 5, 6, 7], (fun e v w => ∃ (a1 : Option Addr) (c1 : Nat), v = .slice a1 1 c1 ∧ w.ownsRow w7.heap.size 34 4 (.slice a1 1 c1) 1 [(vi (((F_spec_l16Cand (x_p.Cands.getD kq z_PCand)).A).Host)), (vi (((F_spec_l16Cand (x_p.Cands.getD kq z_PCand)).A).Port)), (cellAt (e 42) 2), (vi ((F_spec_l16Cand (x_p.Cands.getD kq z_PCand)).Until))]))] : GV) (fun _ w' => Keep w7 w') [] mixed rfl (by kernel_rfl) (by kernel_rfl) ?_ (fun _ _ h => h) (fun _ _ _ _ h _ k => h.trans k) trivial ?_ ?_ ?_
  ·exact ⟨hV, hE, ⟨hV, hE, ⟨hV, hE, ⟨hV, hE, ⟨hV, hE, ⟨hV, hE, ⟨hV, hE, ⟨(fun e v w w1 h hk => by obtain ⟨a0x, c0x, he, o0x, l0x, hap⟩ := h; exact ⟨a0x, c0x, he, own_kp o0x hk, l0x, hap⟩), hE, ⟨(fun e v w w1 h hk => by obtain ⟨a0x, c0x, he, o0x⟩ := h; exact ⟨a0x, c0x, he, own_kp o0x hk⟩), (fun e1 e2 v w hx h => by have h42x := hx 42 (by simp); simp only [h42x] at h; exact h), trivial⟩⟩⟩⟩⟩⟩⟩⟩⟩
  ·exact trivial
  ·refine ⟨?_, ⟨?_, ⟨?_, ⟨?_, ⟨?_, ⟨?_, ⟨?_, ⟨?_, ⟨?_, trivial⟩⟩⟩⟩⟩⟩⟩⟩⟩
   ·intro _ w8 k140 _
    rintro _ _ _ _ _ _ _ _ _
    show WL _ _ _ _ _ _ _
    refine pu (vp g51 2) wN ?_
    exact f1
   ·intro _ w8 k142 _
    rintro _ rfl _ _ _ _ _ _ _ _
    show WL _ _ _ _ _ _ _
    have b144 := (hbx5.kp k142)
    refine ld (vs ab5_2x ((x_p.Cands.take kq).filter (fun c : PCand => decide (x_now ≤ c.Until))).length cb5_2x) wN isAgg_26 b144 ?_
    exact f1
   ·intro _ w8 k145 _
    rintro _ _ _ _ _ _ _ _ _
    show WL _ _ _ _ _ _ _
    refine pu (vp g6 2) wN ?_
    exact f1
   ·intro _ w8 k147 _
    rintro _ _ _ rfl _ _ _ _ _ _
    show WL _ _ _ _ _ _ _
    have b149 := (b71.kp k147)
    refine ld (vs a1 x_p.Cands.length c2) wN isAgg_26 b149 ?_
    exact f1
   ·intro _ w8 k150 _
    rintro _ _ _ _ _ _ _ _ _
    show WL _ _ _ _ _ _ _
    refine mw (vi ((kq : Nat) : Int)) ?_
    exact f1
   ·intro _ w8 k152 _
    have m153 := m63.extk k152
    rintro _ _ _ rfl _ rfl _ rfl _ _ _ _
    show WL _ _ _ _ _ _ _
    obtain ⟨y155, r156⟩ := RLv.row (r3.from0 m153)
    refine ix wN ((kq : Nat) : Int) slTy_26 r156 ?_
    exact f1
   ·intro _ w8 k157 _
    have m158 := m63.extk k157
    rintro _ _ _ rfl _ rfl _ rfl _ rfl _ _ _
    show WL _ _ _ _ _ _ _
    refine wl_loadEN [(vi (((x_p.Cands.getD kq z_PCand).A).Host)), (vi (((x_p.Cands.getD kq z_PCand).A).Port)), (vs a83 (x_p.Cands.getD kq z_PCand).Draw.length c84), (vi ((x_p.Cands.getD kq z_PCand).Until))] wN rfl rfl rfl rfl isAgg_34 sizeOf_34 (r80.from0 m158) (by first | omega | (simp only [List.length_cons, List.length_nil, List.length_replicate, List.length_append, List.length_take, List.length_set, List.length_map]; omega)) ((part_of (off := 0) (n := 4) e81 (by first | rfl | simp | omega) (by decide)).trans rfl) ?_
    exact f1
   ·intro _ w8 k162 _
    have m163 := m63.extk k162
    rintro _ _ _ rfl _ rfl _ rfl _ rfl _ rfl _ _
    show WL _ _ _ _ _ _ _
    refine cl wN (C_spec_l16Cand w8 _ (x_p.Cands.getD kq z_PCand) (mR_34 (r85.from0 m163) s86)) ?_
    rintro _ w9 ⟨k167, ⟨a168, c169, rfl, o170, s171, ap173⟩⟩
    exact wl_finT k167 ⟨_, _, rfl, (own_lo o170 k162.size), s171, ap173⟩
   ·intro _ w8 k175 _
    rintro _ _ _ rfl _ rfl _ rfl _ rfl _ rfl _ ⟨a180, c181, rfl, o182, s183, ap185⟩ _
    show WL _ _ _ _ _ _ _
    refine wl_lit [(vi (((F_spec_l16Cand (x_p.Cands.getD kq z_PCand)).A).Host)), (vi (((F_spec_l16Cand (x_p.Cands.getD kq z_PCand)).A).Port)), (vs a180 ((F_spec_l16Cand (x_p.Cands.getD kq z_PCand)).Draw).length c181), (vi ((F_spec_l16Cand (x_p.Cands.getD kq z_PCand)).Until))] wN rfl rfl slTy_26 (m := 1) rfl (by simp only [maxLen]; omega) (fun w => by kernel_rfl) ?_
    intro u186 w9 k187 o188
    obtain ⟨a189, c190, rfl⟩ := own_form o188
    exact wl_finT k187 ⟨_, _, rfl, own_lo o188 k175.size⟩
  ·intro _ w8 k193
   rintro _ rfl _ rfl _ rfl _ rfl _ rfl _ rfl _ rfl _ ⟨a199, c200, rfl, o201, s202, ap204⟩ _ ⟨a205, c206, rfl, o207⟩
   show WL _ _ _ _ _ _ _
   have o209 := (OLv.kp o66 k193)
   refine wl_appL (L := LT_34) (xs := ((x_p.Cands.take kq).filter (fun c : PCand => decide (x_now ≤ c.Until)))) (el := (F_spec_l16Cand (x_p.Cands.getD kq z_PCand))) (l := [(a199, c200)]) wN slTy_26 o209 (Rd.of_own o207) ⟨⟨o201, s202⟩, trivial⟩ ⟨trivial, trivial⟩ (Nat.le_refl _) k64.size (by first | omega | (simp only [List.length_take, List.length_append, List.length_cons, List.length_nil]; omega) | (refine Nat.le_trans (Nat.succ_le_succ (List.length_filter_le _ _)) ?_; simp only [List.length_take]; omega)) (z2 k64 k193) ?_
   intro a210 c211 w9 k212 o213
   have m214 := (m63.extk k193).ext k212 (fun k hk => Nat.le_trans (z6 k9 k15 k42 k46 k54 k57) (own_lt o70 k hk).1)
   obtain ⟨y217, o218⟩ := OLv.ow o213
   refine pu (vp g51 2) wN ?_
   have b219 := ((hbx5.kp k193).ch k212 (fun h => by have := (own_lt o70 _ h).1; have := Nat.lt_of_lt_of_le p53 k57.size; omega))
   refine st (vs a210 (((x_p.Cands.take kq).filter (fun c : PCand => decide (x_now ≤ c.Until))) ++ [(F_spec_l16Cand (x_p.Cands.getD kq z_PCand))]).length c211) [(vs a210 (((x_p.Cands.take kq).filter (fun c : PCand => decide (x_now ≤ c.Until))) ++ [(F_spec_l16Cand (x_p.Cands.getD kq z_PCand))]).length c211)] [(vi x_p.At.Host), (vi x_p.At.Port), (vs a210 (((x_p.Cands.take kq).filter (fun c : PCand => decide (x_now ≤ c.Until))) ++ [(F_spec_l16Cand (x_p.Cands.getD kq z_PCand))]).length c211)] wN sizeOf_26 b219 ?_
   intro w10 k220 b221 z222
   have m223 := m214.ext k220 (fun k hk => by subst hk; exact Nat.le_trans (z4 k9 k15 k42 k46) p52)
   refine wl_nil <| wq_blk_normal <| wq_then <| wc_region ?_
   refine mw (vi ((kq : Nat) : Int)) ?_
   refine ar (((kq : Nat) : Int) + 1) wN ?_
   refine aw (vi (((kq : Nat) : Int) + 1)) ?_
   refine wl_nil ?_
   have o224 := (OLv.ch o213 k220 (fun g h1 h2 hk => by have h3 := Nat.lt_of_lt_of_le p53 k57.size; omega))
   have hE225 : ((((x_p.Cands.take kq).filter (fun c : PCand => decide (x_now ≤ c.Until))) ++ [(F_spec_l16Cand (x_p.Cands.getD kq z_PCand))]) : List (PCand)) = (x_p.Cands.take (kq + 1)).filter (fun c : PCand => decide (x_now ≤ c.Until)) := by first | rfl | exact filt_t (z := z_PCand) (by omega) (by first | assumption | (simp only [Bool.not_eq_true']; assumption)) | exact filt_f (z := z_PCand) (by omega) (by first | assumption | (simp only [Bool.not_eq_false']; assumption))
   refine wq_loopP (w0 := w7) [(1, (vi x_now)), (2, (vp g6 0)), (4, (vp g12 0)), (5, (vp g51 0)), (6, (vi (((kq + 1) : Nat) : Int)))] ?_ ?_ ?_
   · exact ⟨rfl, rfl, rfl, rfl, (congrArg (Value.int .i64) (show ((((kq : Nat) : Int) + 1) : Int) = (((kq + 1) : Nat) : Int) by omega)), trivial⟩
   · exact fun u => ⟨(kq + 1), u, a210, c211, rfl, m223, (((((Ch.refl (fun k => w4.heap.size ≤ k) w6).ext k64 (fun k hk => hk)).extk k193).ext k212 (fun k hk => Nat.le_trans (z2 k54 k57) (own_lt o70 k hk).1)).ext k220 (fun k hk => by subst hk; exact p52)), (by omega), (hE225 ▸ ⟨(OLv.now o224), (OLv.small o213)⟩), (by have hb := b221; first | exact hb | (rw [hE225] at hb; exact hb))⟩
   · show x_p.Cands.length - ((((kq + 1) : Nat) : Int)).toNat < x_p.Cands.length - (((kq : Nat) : Int)).toNat; omega
theorem pathTick_len (p : PPaths) (n : Int) : (F_spec_PathTick p n).Cands.length ≤ p.Cands.length := by
  simp only [F_spec_PathTick, cond_eq_ite]
  (repeat' split) <;> first | exact Nat.le_refl _ | exact Nat.le_trans (List.length_filter_le _ _) (List.length_take_le _ _)

def O_28_4 (w : World) (lo : Nat) (v : Value) (x : (PPaths) × (Bool)) : Prop := ∃ (a1 : Option Addr) (c1 : Nat), v = .tuple #[.agg #[.int .i64 x.1.At.Host, .int .i64 x.1.At.Port, .slice a1 x.1.Cands.length c1], .bool x.2] ∧ OLv LT_34 w lo w.heap.size a1 x.1.Cands.length c1 x.1.Cands ∧ x.1.Cands.length ≤ 1073741824 ∧ Aps [(a1, c1)]
def offS (x_p : PPaths) (x_now : Int) (x_a : PAddr) (x_draw : List UInt8) : PPaths × Bool := bif sPa x_p then (bif F_spec_l1In x_now 0 1000000 then (bif F_spec_AddrOk x_a then (bif decide ((x_draw.length : Int) = 12) then (bif (decide (x_a.Host = x_p.At.Host) && decide (x_a.Port = x_p.At.Port)) then (x_p, false) else (bif decide (candAt (F_spec_PathTick x_p x_now) x_a < 0) then (bif decide (((F_spec_PathTick x_p x_now).Cands.length : Int) = 3) then (x_p, false) else ({ At := (F_spec_PathTick x_p x_now).At, Cands := (F_spec_PathTick x_p x_now).Cands ++ [{ A := x_a, Draw := x_draw, Until := (x_now + 6) : PCand }] : PPaths }, true)) else (x_p, false))) else (x_p, false)) else (x_p, false)) else (x_p, false)) else (x_p, false)
theorem C_spec_Offer (w0 : World) (v_x_p : Value) (x_p : PPaths) (r_x_p : R_28 w0 v_x_p x_p) (x_now : Int) (v_x_a : Value) (x_a : PAddr) (r_x_a : R_25 w0 v_x_a x_a) (v_x_draw : Value) (x_draw : List UInt8) (r_x_draw : R_22 w0 v_x_draw x_draw)  : Fn Try.prog 19 #[v_x_p, (vi x_now), v_x_a, v_x_draw] w0 (fun v w' => Keep w0 w' ∧ O_28_4 w' w0.heap.size v (offS x_p x_now x_a x_draw)) := by
 obtain ⟨a1, c2, rfl, r3, s4⟩ := r_x_p
 obtain rfl := r_x_a
 obtain ⟨a6, c7, rfl, r8, s9⟩ := r_x_draw
 refine fn_ofS (n := 77) [(va (L_28 x_p a1 c2)), (vi x_now), (va (L_25 x_a)), (vs a6 x_draw.length c7)] Try.func19 rfl rfl ?_
 refine sr ?_
 refine bx (L_28 x_p a1 c2) wN ?_
 intro g11 w1 p12 p13 k14 b15
 refine bx (L_25 x_a) wN ?_
 intro g17 w2 p18 p19 k20 b21
 refine al [(vi 0), (vi 0), (vs none 0 0)] wN zero_28 ?_
 intro g23 w3 p24 p25 k26 b27
 have m28 := (((Ch.base w0).extk k14).extk k20).extk k26
 refine aw (vb false) ?_
 refine n4 ?_
 refine jT1 [(1, (vi x_now)), (3, (vs a6 x_draw.length c7)), (4, (vp g11 0)), (6, (vp g17 0)), (8, (vp g23 0)), (9, (vb false))] (offS x_p x_now x_a x_draw = ((x_p), false)) ?_ fun J29 => ?_
 ·intro hA30 w4 k32 u31
  have m33 := m28.extk k32
  refine sr ?_
  have b34 := (((b15.kp k20).kp k26).kp k32)
  refine lN (L_28 x_p a1 c2) wN isAgg_28 sizeOf_28 b34 ?_
  refine cl wN (C_spec_l16Copy w4 _ x_p (mR_28 (r3.from0 m33) s4)) ?_
  rintro _ w5 ⟨k35, ⟨a36, c37, rfl, o38, s39, ap41⟩⟩
  obtain ⟨y43, o44⟩ := OLv.ow o38
  have b45 := ((b27.kp k32).kp k35)
  refine sv (L_28 (x_p) a36 c37) wN sizeOf_28 b45 ?_
  intro w6 k46 b47 z48
  have m49 := (m33.extk k35).ext k46 (fun k hk => by subst hk; exact Nat.le_trans (z2 k14 k20) p24)
  refine aw (vb false) ?_
  refine n1 ?_
  have o50 := (OLv.ch o38 k46 (fun g h1 h2 hk => by have h3 := Nat.lt_of_lt_of_le p25 k32.size; omega))
  refine ret_2 (.inl rfl) (va (L_28 (x_p) a36 c37)) (vb false) rfl (rv_c (L_28 (x_p) a36 c37) rfl b47 isAgg_28 sizeOf_28) rfl ?_
  refine ⟨m49.keep0, ?_⟩
  rw [hA30]
  exact ⟨_, _, rfl, (OLv.now (OLv.low o50 (z4 k14 k20 k26 k32))), s39, ⟨trivial, trivial⟩⟩
 have b52 := ((b15.kp k20).kp k26)
 refine lN (L_28 x_p a1 c2) wN isAgg_28 sizeOf_28 b52 ?_
 refine cl wN (C_spec_PathsOk w3 _ x_p (mR_28 (r3.from0 m28) s4)) ?_
 rintro _ w4 ⟨k53, rfl⟩
 refine pu (vb (!(sPa x_p))) wN ?_
 refine mw (vb (!(sPa x_p))) ?_
 rcases bf (sPa x_p) with h55 | h55
 ·iterate 3 refine sk (congrArg not h55) ?_
  refine pk (vb true) wN (congrArg not h55) ?_
  refine mw (vb true) ?_
  iterate 3 refine sk (Eq.refl true) ?_
  refine pk (vb true) wN (Eq.refl true) ?_
  refine mw (vb true) ?_
  iterate 3 refine sk (Eq.refl true) ?_
  refine pk (vb true) wN (Eq.refl true) ?_
  refine mw (vb true) ?_
  iterate 4 refine sk (Eq.refl true) ?_
  refine pk (vb true) wN (Eq.refl true) ?_
  refine n2 ?_
  refine ct (Eq.refl true) ?_
  have hF387 : offS x_p x_now x_a x_draw = ((x_p), false) := by simp only [offS, h55]; try rfl
  exact wj (J29 hF387 _ k53)
 have q56 := sPa_t h55
 refine mv (vi x_now) (wS (congrArg not h55)) ?_
 refine cl (wS (congrArg not h55)) (C_spec_l1In w4 x_now 0 1000000) ?_
 rintro _ w5 ⟨k57, rfl⟩
 refine pu (vb (!(F_spec_l1In x_now 0 1000000))) (wS (congrArg not h55)) ?_
 refine pf (vb (!(F_spec_l1In x_now 0 1000000))) wN (congrArg not h55) ?_
 refine mw (vb (!(F_spec_l1In x_now 0 1000000))) ?_
 rcases bf (F_spec_l1In x_now 0 1000000) with h59 | h59
 ·have q384 := spec_l1In_f h59
  iterate 3 refine sk (congrArg not h59) ?_
  refine pk (vb true) wN (congrArg not h59) ?_
  refine mw (vb true) ?_
  iterate 3 refine sk (Eq.refl true) ?_
  refine pk (vb true) wN (Eq.refl true) ?_
  refine mw (vb true) ?_
  iterate 4 refine sk (Eq.refl true) ?_
  refine pk (vb true) wN (Eq.refl true) ?_
  refine n2 ?_
  refine ct (Eq.refl true) ?_
  have hF385 : offS x_p x_now x_a x_draw = ((x_p), false) := by simp only [offS, h55, h59]; try rfl
  exact wj (J29 hF385 _ (k53.trans k57))
 have q60 := spec_l1In_t h59
 have b61 := (((b21.kp k26).kp k53).kp k57)
 refine lN (L_25 x_a) (wS (congrArg not h59)) isAgg_25 sizeOf_25 b61 ?_
 refine cl (wS (congrArg not h59)) (C_spec_AddrOk w5 _ x_a (mR_25)) ?_
 rintro _ w6 ⟨k62, rfl⟩
 have m63 := ((m28.extk k53).extk k57).extk k62
 refine pu (vb (!(F_spec_AddrOk x_a))) (wS (congrArg not h59)) ?_
 refine pf (vb (!(F_spec_AddrOk x_a))) wN (congrArg not h59) ?_
 refine mw (vb (!(F_spec_AddrOk x_a))) ?_
 rcases bf (F_spec_AddrOk x_a) with h64 | h64
 ·iterate 3 refine sk (congrArg not h64) ?_
  refine pk (vb true) wN (congrArg not h64) ?_
  refine mw (vb true) ?_
  iterate 4 refine sk (Eq.refl true) ?_
  refine pk (vb true) wN (Eq.refl true) ?_
  refine n2 ?_
  refine ct (Eq.refl true) ?_
  have hF383 : offS x_p x_now x_a x_draw = ((x_p), false) := by simp only [offS, h55, h59, h64]; try rfl
  exact wj (J29 hF383 _ ((k53.trans k57).trans k62))
 refine mv (vs a6 x_draw.length c7) (wS (congrArg not h64)) ?_
 refine ln (wS (congrArg not h64)) slTy_22 (r8.from0 m63) ?_
 refine pu (vb (!(decide ((x_draw.length : Int) = 12)))) (wS (congrArg not h64)) ?_
 refine pf (vb (!(decide ((x_draw.length : Int) = 12)))) wN (congrArg not h64) ?_
 refine mw (vb (!(decide ((x_draw.length : Int) = 12)))) ?_
 rcases bf (decide ((x_draw.length : Int) = 12)) with h66 | h66
 ·have q380 := of_decide_eq_false h66
  iterate 4 refine sk (congrArg not h66) ?_
  refine pk (vb true) wN (congrArg not h66) ?_
  refine n2 ?_
  refine ct (Eq.refl true) ?_
  have hF381 : offS x_p x_now x_a x_draw = ((x_p), false) := by simp only [offS, h55, h59, h64, h66]; try rfl
  exact wj (J29 hF381 _ ((k53.trans k57).trans k62))
 have q67 := of_decide_eq_true h66
 have b68 := (b61.kp k62)
 refine lN (L_25 x_a) (wS (congrArg not h66)) isAgg_25 sizeOf_25 b68 ?_
 refine pu (vp g11 0) (wS (congrArg not h66)) ?_
 have b69 := (((b52.kp k53).kp k57).kp k62)
 refine lN (L_25 x_p.At) (wS (congrArg not h66)) isAgg_25 sizeOf_25 b69 ?_
 refine wl_aggeq ((decide (x_a.Host = x_p.At.Host) && decide (x_a.Port = x_p.At.Port))) (wS (congrArg not h66)) rfl rfl rfl rfl rfl guardt_25 (aggeq_25 x_a.Host x_p.At.Host x_a.Port x_p.At.Port w6) ?_
 refine pf (vb (decide (x_a.Host = x_p.At.Host) && decide (x_a.Port = x_p.At.Port))) wN (congrArg not h66) ?_
 refine n2 ?_
 rcases bt (decide (x_a.Host = x_p.At.Host) && decide (x_a.Port = x_p.At.Port)) with h70 | h70
 ·refine ct h70 ?_
  have hF72 : offS x_p x_now x_a x_draw = ((x_p), false) := by simp only [offS, h55, h59, h64, h66, h70]; try rfl
  exact wj (J29 hF72 _ ((k53.trans k57).trans k62))
 refine cf h70 ?_
 refine y1 ?_
 refine lN (L_28 x_p a1 c2) wN isAgg_28 sizeOf_28 b69 ?_
 refine mw (vi x_now) ?_
 refine cl wN (C_spec_PathTick w6 _ x_p (mR_28 (r3.from0 m63) s4) x_now) ?_
 rintro _ w7 ⟨k74, ⟨a75, c76, rfl, o77, s78, ap80⟩⟩
 obtain ⟨y82, o83⟩ := OLv.ow o77
 have q84 := pathTick_len x_p x_now
 refine al [(vi 0), (vi 0), (vs none 0 0)] wN zero_28 ?_
 intro g85 w8 p86 p87 k88 b89
 refine sv (L_28 (F_spec_PathTick x_p x_now) a75 c76) wN sizeOf_28 b89 ?_
 intro w9 k91 b92 z93
 have m94 := ((m63.extk k74).extk k88).ext k91 (fun k hk => by subst hk; exact Nat.le_trans (z7 k14 k20 k26 k53 k57 k62 k74) p86)
 refine n4 ?_
 refine aw (vi 0) ?_
 refine wl_nil <| wq_then <| wc_block ?_
 refine wc_loopP [(1, (vi x_now)), (3, (vs a6 x_draw.length c7)), (4, (vp g11 0)), (6, (vp g17 0)), (8, (vp g23 0)), (10, (vp g85 0)), (11, (vi ((0 : Nat) : Int)))] ⟨rfl, rfl, rfl, rfl, rfl, rfl, (congrArg (Value.int .i64) (show (0 : Int) = ((0 : Nat) : Int) by omega)), trivial⟩ (fun e' w' => ∃ (k : Nat) (u95 : Env), e' = pt u95 [(1, (vi x_now)), (3, (vs a6 x_draw.length c7)), (4, (vp g11 0)), (6, (vp g17 0)), (8, (vp g23 0)), (10, (vp g85 0)), (11, (vi ((k : Nat) : Int)))] ∧ Ch (fun k => w0.heap.size ≤ k) w0 w' ∧ Ch (fun k => w9.heap.size ≤ k) w9 w' ∧ k ≤ (F_spec_PathTick x_p x_now).Cands.length ∧ (∀ j, j < k → (fun c : PCand => decide (c.A.Host = x_a.Host) && decide (c.A.Port = x_a.Port)) ((F_spec_PathTick x_p x_now).Cands.getD j z_PCand) = false)) (fun e' _ => (F_spec_PathTick x_p x_now).Cands.length - ((intOf (e' 11))).toNat) ?_ ?_
 ·exact fun u => ⟨0, u, rfl, m94, (Ch.refl (fun k => w9.heap.size ≤ k) w9), (by omega), (by first | (intro j hj; omega) | exact find_next (p := (fun c : PCand => decide (c.A.Host = x_a.Host) && decide (c.A.Port = x_a.Port))) (by assumption) (by assumption))⟩
 ·rintro _ w10 ⟨k, u95, rfl, m96, k97, i98, i99⟩
  refine wc_seq <| sr ?_
  refine mw (vi ((k : Nat) : Int)) ?_
  refine pu (vp g85 2) wN ?_
  have b100 := (b92.ch k97 (Nat.not_le.2 (Nat.lt_of_lt_of_le p87 k91.size)))
  refine ld (vs a75 ((F_spec_PathTick x_p x_now).Cands).length c76) wN isAgg_26 b100 ?_
  have o103 := (OLv.ch (OLv.ch (OLv.kp o77 k88) k91 (fun g h1 h2 hk => by have h3 := Nat.le_trans (Nat.le_refl w7.heap.size) p86; omega)) k97 (fun g h1 h2 hk => by have h3 : w7.heap.size ≤ w9.heap.size := (z2 k88 k91); have h4 : w9.heap.size ≤ g := hk; omega))
  obtain ⟨y101, r102⟩ := RLv.row (OLv.rl o103)
  refine ln wN slTy_26 r102 ?_
  refine pu (vb (decide (((k : Nat) : Int) < (((F_spec_PathTick x_p x_now).Cands).length : Int)))) wN ?_
  refine n2 ?_
  rcases bt (decide (((k : Nat) : Int) < (((F_spec_PathTick x_p x_now).Cands).length : Int))) with h104 | h104
  ·have q105 := of_decide_eq_true h104
   refine ct h104 ?_
   refine wc_skip <| wq_then <| wc_seq <| wc_block <| wc_seq ?_
   obtain ⟨y121, l122, r123, e124, u125⟩ := OLv.el z_PCand (i := k) o103 (by first | omega | (simp only [List.length_cons, List.length_nil, List.length_replicate, List.length_append, List.length_take, List.length_set, List.length_map]; omega))
   obtain ⟨a126, c127, l131, rfl, r128, s129, u132⟩ := SubO.c u125
   obtain rfl := SubO.n u132
   refine wc_drawT ([(48, [], [], (fun _ v _ => v = (vp g85 2))), (49, [], [0], (fun _ v _ => v = (vs a75 ((F_spec_PathTick x_p x_now).Cands).length c76))), (50, [], [], (fun _ v _ => v = (vi ((k : Nat) : Int)))), (51, [], [0, 1, 2], (fun _ v _ => v = (ve (vs a75 ((F_spec_PathTick x_p x_now).Cands).length c76) ((((k : Nat) : Int)).toNat * 4)))), (52, [], [0, 1, 2, 3], (fun _ v _ => v = (ve (vs a75 ((F_spec_PathTick x_p x_now).Cands).length c76) ((((k : Nat) : Int)).toNat * 4 + 0)))), (53, [], [0, 1, 2, 3, 4], (fun _ v _ => v = (va (L_25 ((((F_spec_PathTick x_p x_now).Cands).getD k z_PCand).A))))), (54, [], [], (fun _ v _ => v = (va (L_25 x_a))))] : GV) (fun _ w' => Keep w10 w') [] mixed rfl (by kernel_rfl) (by kernel_rfl) ?_ (fun _ _ h => h) (fun _ _ _ _ h _ k => h.trans k) trivial ?_ ?_ ?_
   ·exact ⟨hV, hE, ⟨hV, hE, ⟨hV, hE, ⟨hV, hE, ⟨hV, hE, ⟨hV, hE, ⟨hV, hE, trivial⟩⟩⟩⟩⟩⟩⟩
   ·exact trivial
   ·refine ⟨?_, ⟨?_, ⟨?_, ⟨?_, ⟨?_, ⟨?_, ⟨?_, trivial⟩⟩⟩⟩⟩⟩⟩
    ·intro _ w11 k136 _
     rintro _ _ _ _ _ _ _
     show WL _ _ _ _ _ _ _
     refine pu (vp g85 2) wN ?_
     exact f1
    ·intro _ w11 k138 _
     rintro _ rfl _ _ _ _ _ _
     show WL _ _ _ _ _ _ _
     have b140 := (b100.kp k138)
     refine ld (vs a75 ((F_spec_PathTick x_p x_now).Cands).length c76) wN isAgg_26 b140 ?_
     exact f1
    ·intro _ w11 k141 _
     rintro _ _ _ _ _ _ _
     show WL _ _ _ _ _ _ _
     refine mw (vi ((k : Nat) : Int)) ?_
     exact f1
    ·intro _ w11 k143 _
     rintro _ rfl _ rfl _ rfl _ _ _ _
     show WL _ _ _ _ _ _ _
     have o148 := (OLv.kp o103 k143)
     obtain ⟨y146, r147⟩ := RLv.row (OLv.rl o148)
     refine ix wN ((k : Nat) : Int) slTy_26 r147 ?_
     exact f1
    ·intro _ w11 k149 _
     rintro _ rfl _ rfl _ rfl _ rfl _ _ _
     show WL _ _ _ _ _ _ _
     refine wl_fieldE wN rfl rfl rfl fieldAt_34_0 rfl (r123.kp k149) (by omega) ?_
     exact f1
    ·intro _ w11 k155 _
     rintro _ rfl _ rfl _ rfl _ rfl _ rfl _ _
     show WL _ _ _ _ _ _ _
     refine wl_loadEN (L_25 ((((F_spec_PathTick x_p x_now).Cands).getD k z_PCand).A)) wN rfl rfl rfl rfl isAgg_25 sizeOf_25 (r123.kp k155) (by first | omega | (simp only [List.length_cons, List.length_nil, List.length_replicate, List.length_append, List.length_take, List.length_set, List.length_map]; omega)) ((part_of (off := 0) (n := 2) e124 (by first | rfl | simp | omega) (by decide)).trans rfl) ?_
     exact f1
    ·intro _ w11 k161 _
     rintro _ _ _ _ _ _ _
     show WL _ _ _ _ _ _ _
     have b163 := (((((b68.kp k74).kp k88).ch k91 (Nat.ne_of_lt (Nat.lt_of_lt_of_le p19 (Nat.le_trans (z5 k26 k53 k57 k62 k74) p86)))).ch k97 (Nat.not_le.2 (Nat.lt_of_lt_of_le p19 (z7 k26 k53 k57 k62 k74 k88 k91)))).kp k161)
     refine lN (L_25 x_a) wN isAgg_25 sizeOf_25 b163 ?_
     exact f1
   ·intro _ w11 k164
    have m165 := m96.extk k164
    rintro _ rfl _ rfl _ rfl _ rfl _ rfl _ rfl _ rfl
    show WL _ _ _ _ _ _ _
    refine wl_aggeq ((decide ((((((F_spec_PathTick x_p x_now).Cands).getD k z_PCand).A).Host) = x_a.Host) && decide ((((((F_spec_PathTick x_p x_now).Cands).getD k z_PCand).A).Port) = x_a.Port))) wN rfl rfl rfl rfl rfl guardt_25 (aggeq_25 (((((F_spec_PathTick x_p x_now).Cands).getD k z_PCand).A).Host) x_a.Host (((((F_spec_PathTick x_p x_now).Cands).getD k z_PCand).A).Port) x_a.Port w11) ?_
    refine n2 ?_
    rcases bf (decide ((((((F_spec_PathTick x_p x_now).Cands).getD k z_PCand).A).Host) = x_a.Host) && decide ((((((F_spec_PathTick x_p x_now).Cands).getD k z_PCand).A).Port) = x_a.Port)) with h171 | h171
    ·refine cf h171 ?_
     refine wc_skip <| wq_blk_normal <| wq_then <| wc_region ?_
     refine mw (vi ((k : Nat) : Int)) ?_
     refine ar (((k : Nat) : Int) + 1) wN ?_
     refine aw (vi (((k : Nat) : Int) + 1)) ?_
     refine wl_nil ?_
     refine wq_loopP (w0 := w10) [(1, (vi x_now)), (3, (vs a6 x_draw.length c7)), (4, (vp g11 0)), (6, (vp g17 0)), (8, (vp g23 0)), (10, (vp g85 0)), (11, (vi (((k + 1) : Nat) : Int)))] ?_ ?_ ?_
     · exact ⟨rfl, rfl, rfl, rfl, rfl, rfl, (congrArg (Value.int .i64) (show ((((k : Nat) : Int) + 1) : Int) = (((k + 1) : Nat) : Int) by omega)), trivial⟩
     · exact fun u => ⟨(k + 1), u, rfl, m165, (((Ch.refl (fun k => w9.heap.size ≤ k) w9).ext k97 (fun k hk => hk)).extk k164), (by omega), (by first | (intro j hj; omega) | exact find_next (p := (fun c : PCand => decide (c.A.Host = x_a.Host) && decide (c.A.Port = x_a.Port))) (by assumption) (by assumption))⟩
     · show (F_spec_PathTick x_p x_now).Cands.length - ((((k + 1) : Nat) : Int)).toNat < (F_spec_PathTick x_p x_now).Cands.length - (((k : Nat) : Int)).toNat; omega
    refine ct h171 ?_
    refine sr ?_
    have b173 := (((((b69.kp k74).kp k88).ch k91 (Nat.ne_of_lt (Nat.lt_of_lt_of_le p13 (Nat.le_trans (z6 k20 k26 k53 k57 k62 k74) p86)))).ch k97 (Nat.not_le.2 (Nat.lt_of_lt_of_le p13 (z8 k20 k26 k53 k57 k62 k74 k88 k91)))).kp k164)
    refine lN (L_28 x_p a1 c2) wN isAgg_28 sizeOf_28 b173 ?_
    refine cl wN (C_spec_l16Copy w11 _ x_p (mR_28 (r3.from0 m165) s4)) ?_
    rintro _ w12 ⟨k174, ⟨a175, c176, rfl, o177, s178, ap180⟩⟩
    obtain ⟨y182, o183⟩ := OLv.ow o177
    have b184 := (((((((((b27.kp k53).kp k57).kp k62).kp k74).kp k88).ch k91 (Nat.ne_of_lt (Nat.lt_of_lt_of_le p25 (Nat.le_trans (z4 k53 k57 k62 k74) p86)))).ch k97 (Nat.not_le.2 (Nat.lt_of_lt_of_le p25 (z6 k53 k57 k62 k74 k88 k91)))).kp k164).kp k174)
    refine sv (L_28 (x_p) a175 c176) wN sizeOf_28 b184 ?_
    intro w13 k185 b186 z187
    have m188 := (m165.extk k174).ext k185 (fun k hk => by subst hk; exact Nat.le_trans (z2 k14 k20) p24)
    refine aw (vb false) ?_
    refine wl_nil <| wq_then <| wc_ret <| wq_blk_ret <| wq_then_ret <| wq_then_ret <| wq_blk_ret <| wq_then_ret ?_
    have o189 := (OLv.ch o177 k185 (fun g h1 h2 hk => by have h3 := Nat.lt_of_lt_of_le p25 (z8 k53 k57 k62 k74 k88 k91 k97 k164); omega))
    refine ret_2 (.inl rfl) (va (L_28 (x_p) a175 c176)) (vb false) rfl (rv_c (L_28 (x_p) a175 c176) rfl b186 isAgg_28 sizeOf_28) rfl ?_
    refine ⟨m188.keep0, ?_⟩
    have hF190 : offS x_p x_now x_a x_draw = ((x_p), false) := by have hz : candAt (F_spec_PathTick x_p x_now) x_a = (k : Int) := findF_some (p := (fun c : PCand => decide (c.A.Host = x_a.Host) && decide (c.A.Port = x_a.Port))) (z := z_PCand) (by assumption) (by omega) (by assumption); have hw : decide (((k : Nat) : Int) < 0) = false := (by simp); simp only [offS, h55, h59, h64, h66, h70, h104, h171, hz, hw]; try rfl
    rw [hF190]
    exact ⟨_, _, rfl, (OLv.now (OLv.low o189 (z11 k14 k20 k26 k53 k57 k62 k74 k88 k91 k97 k164))), s178, ⟨trivial, trivial⟩⟩
  have q192 := of_decide_eq_false h104
  refine cf h104 ?_
  refine wc_exit <| wq_then_exit <| wq_then_exit <| wq_blk_exit <| wq_then <| wc_seq <| sr ?_
  refine pu (vp g85 2) wN ?_
  refine ld (vs a75 ((F_spec_PathTick x_p x_now).Cands).length c76) wN isAgg_26 b100 ?_
  obtain ⟨y193, r194⟩ := RLv.row (OLv.rl o103)
  refine ln wN slTy_26 r194 ?_
  refine pu (vb (decide ((((F_spec_PathTick x_p x_now).Cands).length : Int) = 3))) wN ?_
  refine n2 ?_
  rcases bt (decide ((((F_spec_PathTick x_p x_now).Cands).length : Int) = 3)) with h195 | h195
  ·have q196 := of_decide_eq_true h195
   refine ct h195 ?_
   refine sr ?_
   have b197 := ((((b69.kp k74).kp k88).ch k91 (Nat.ne_of_lt (Nat.lt_of_lt_of_le p13 (Nat.le_trans (z6 k20 k26 k53 k57 k62 k74) p86)))).ch k97 (Nat.not_le.2 (Nat.lt_of_lt_of_le p13 (z8 k20 k26 k53 k57 k62 k74 k88 k91))))
   refine lN (L_28 x_p a1 c2) wN isAgg_28 sizeOf_28 b197 ?_
   refine cl wN (C_spec_l16Copy w10 _ x_p (mR_28 (r3.from0 m96) s4)) ?_
   rintro _ w11 ⟨k198, ⟨a199, c200, rfl, o201, s202, ap204⟩⟩
   obtain ⟨y206, o207⟩ := OLv.ow o201
   have b208 := ((((((((b27.kp k53).kp k57).kp k62).kp k74).kp k88).ch k91 (Nat.ne_of_lt (Nat.lt_of_lt_of_le p25 (Nat.le_trans (z4 k53 k57 k62 k74) p86)))).ch k97 (Nat.not_le.2 (Nat.lt_of_lt_of_le p25 (z6 k53 k57 k62 k74 k88 k91)))).kp k198)
   refine sv (L_28 (x_p) a199 c200) wN sizeOf_28 b208 ?_
   intro w12 k209 b210 z211
   have m212 := (m96.extk k198).ext k209 (fun k hk => by subst hk; exact Nat.le_trans (z2 k14 k20) p24)
   refine aw (vb false) ?_
   refine n1 ?_
   have o213 := (OLv.ch o201 k209 (fun g h1 h2 hk => by have h3 := Nat.lt_of_lt_of_le p25 (z7 k53 k57 k62 k74 k88 k91 k97); omega))
   refine ret_2 (.inl rfl) (va (L_28 (x_p) a199 c200)) (vb false) rfl (rv_c (L_28 (x_p) a199 c200) rfl b210 isAgg_28 sizeOf_28) rfl ?_
   refine ⟨m212.keep0, ?_⟩
   have hF214 : offS x_p x_now x_a x_draw = ((x_p), false) := by have hz : candAt (F_spec_PathTick x_p x_now) x_a = -1 := findF_none (p := (fun c : PCand => decide (c.A.Host = x_a.Host) && decide (c.A.Port = x_a.Port))) (z := z_PCand) (by assumption) (by omega); simp only [offS, h55, h59, h64, h66, h70, h104, h195, hz]; try rfl
   rw [hF214]
   exact ⟨_, _, rfl, (OLv.now (OLv.low o213 (z10 k14 k20 k26 k53 k57 k62 k74 k88 k91 k97))), s202, ⟨trivial, trivial⟩⟩
  have q215 := of_decide_eq_false h195
  refine cf h195 ?_
  refine wc_skip <| wq_then <| wc_seq ?_
  refine wc_drawT ([(64, [], [], (fun _ v _ => v = (vp g85 2))), (65, [], [0], (fun _ v _ => v = (vs a75 ((F_spec_PathTick x_p x_now).Cands).length c76))), (66, [], [], (fun _ v _ => v = (va (L_25 x_a)))), (67, [], [], (fun _ v w => ∃ a0 : Addr, v = .slice (some a0) 0 0 ∧ w.ownsRow w10.heap.size 5 1 (.slice (some a0) 0 0) 0 [])), (68, [], [], (fun _ v _ => v = (vs a6 x_draw.length c7))), (69, [], [3, 4], (fun _ v w => ∃ (a1 : Option Addr) (c1 : Nat), v = .slice a1 x_draw.length c1 ∧ w.ownsRow w10.heap.size 5 1 (.slice a1 x_draw.length c1) x_draw.length (x_draw.map bV) ∧ x_draw.length ≤ 1073741824 ∧ Aps [(a1, c1)])), (70, [], [], (fun _ v _ => v = (vi x_now))), (71, [], [6], (fun _ v _ => v = (vi (x_now + 6)))), (72, [69], [2, 3, 4, 5, 6, 7], (fun e v _ => v = (.agg #[(vi x_a.Host), (vi x_a.Port), (e 69), (vi (x_now + 6))]))), (73, [69], [2, 3, 4, 5, 6, 7, 8], (fun e v w => ∃ (a1 : Option Addr) (c1 : Nat), v = .slice a1 1 c1 ∧ w.ownsRow w10.heap.size 34 4 (.slice a1 1 c1) 1 [(vi x_a.Host), (vi x_a.Port), (e 69), (vi (x_now + 6))]))] : GV) (fun _ w' => Keep w10 w') [] mixed rfl (by kernel_rfl) (by kernel_rfl) ?_ (fun _ _ h => h) (fun _ _ _ _ h _ k => h.trans k) trivial ?_ ?_ ?_
  ·exact ⟨hV, hE, ⟨hV, hE, ⟨hV, hE, ⟨(fun e v w w1 h hk => by obtain ⟨a0x, he, o0x⟩ := h; exact ⟨a0x, he, own_kp o0x hk⟩), hE, ⟨hV, hE, ⟨(fun e v w w1 h hk => by obtain ⟨a0x, c0x, he, o0x, l0x, hap⟩ := h; exact ⟨a0x, c0x, he, own_kp o0x hk, l0x, hap⟩), hE, ⟨hV, hE, ⟨hV, hE, ⟨hV, (fun e1 e2 v w hx h => by have h69x := hx 69 (by simp); simp only [h69x] at h; exact h), ⟨(fun e v w w1 h hk => by obtain ⟨a0x, c0x, he, o0x⟩ := h; exact ⟨a0x, c0x, he, own_kp o0x hk⟩), (fun e1 e2 v w hx h => by have h69x := hx 69 (by simp); simp only [h69x] at h; exact h), trivial⟩⟩⟩⟩⟩⟩⟩⟩⟩⟩
  ·exact trivial
  ·refine ⟨?_, ⟨?_, ⟨?_, ⟨?_, ⟨?_, ⟨?_, ⟨?_, ⟨?_, ⟨?_, ⟨?_, trivial⟩⟩⟩⟩⟩⟩⟩⟩⟩⟩
   ·intro _ w11 k272 _
    rintro _ _ _ _ _ _ _ _ _ _
    show WL _ _ _ _ _ _ _
    refine pu (vp g85 2) wN ?_
    exact f1
   ·intro _ w11 k274 _
    rintro _ rfl _ _ _ _ _ _ _ _ _
    show WL _ _ _ _ _ _ _
    have b276 := (b100.kp k274)
    refine ld (vs a75 ((F_spec_PathTick x_p x_now).Cands).length c76) wN isAgg_26 b276 ?_
    exact f1
   ·intro _ w11 k277 _
    rintro _ _ _ _ _ _ _ _ _ _
    show WL _ _ _ _ _ _ _
    have b279 := (((((b68.kp k74).kp k88).ch k91 (Nat.ne_of_lt (Nat.lt_of_lt_of_le p19 (Nat.le_trans (z5 k26 k53 k57 k62 k74) p86)))).ch k97 (Nat.not_le.2 (Nat.lt_of_lt_of_le p19 (z7 k26 k53 k57 k62 k74 k88 k91)))).kp k277)
    refine lN (L_25 x_a) wN isAgg_25 sizeOf_25 b279 ?_
    exact f1
   ·intro _ w11 k280 _
    rintro _ _ _ _ _ _ _ _ _ _
    show WL _ _ _ _ _ _ _
    refine wl_lit0 wN rfl rfl slTy_22 (fun w => by kernel_rfl) ?_
    intro a282 w12 k283 o284
    exact wl_finT k283 ⟨_, rfl, own_lo o284 k280.size⟩
   ·intro _ w11 k287 _
    rintro _ _ _ _ _ _ _ _ _ _
    show WL _ _ _ _ _ _ _
    refine mw (vs a6 x_draw.length c7) ?_
    exact f1
   ·intro _ w11 k289 _
    have m290 := m96.extk k289
    rintro _ _ _ _ ⟨a291, rfl, o293⟩ _ rfl _ _ _ _ _
    show WL _ _ _ _ _ _ _
    refine ap0 x_draw wN slTy_22 o293 (r8.from0 m290) k289.size ?_
    intro a296 c297 w12 k298 o299 n300
    exact wl_finT k298 ⟨_, _, rfl, o299, s9, ⟨trivial, trivial⟩⟩
   ·intro _ w11 k303 _
    rintro _ _ _ _ _ _ _ _ _ _
    show WL _ _ _ _ _ _ _
    refine mw (vi x_now) ?_
    exact f1
   ·intro _ w11 k305 _
    rintro _ _ _ _ _ _ _ rfl _ _ _
    show WL _ _ _ _ _ _ _
    refine ar (x_now + 6) wN ?_
    exact f1
   ·intro _ w11 k307 _
    rintro _ _ _ rfl _ ⟨a310, rfl, o312⟩ _ rfl _ ⟨a315, c316, rfl, o317, s318, -⟩ _ rfl _ rfl _ _
    show WL _ _ _ _ _ _ _
    refine pu (va [(vi x_a.Host), (vi x_a.Port), (vs a315 x_draw.length c316), (vi (x_now + 6))]) wN ?_
    exact f1
   ·intro _ w11 k320 _
    rintro _ _ _ rfl _ ⟨a323, rfl, o325⟩ _ rfl _ ⟨a328, c329, rfl, o330, s331, -⟩ _ rfl _ rfl _ rfl _
    show WL _ _ _ _ _ _ _
    refine wl_lit [(vi x_a.Host), (vi x_a.Port), (vs a328 x_draw.length c329), (vi (x_now + 6))] wN rfl rfl slTy_26 (m := 1) rfl (by simp only [maxLen]; omega) (fun w => by kernel_rfl) ?_
    intro u333 w12 k334 o335
    obtain ⟨a336, c337, rfl⟩ := own_form o335
    exact wl_finT k334 ⟨_, _, rfl, own_lo o335 k320.size⟩
  ·intro _ w11 k340
   rintro _ rfl _ rfl _ rfl _ ⟨a344, rfl, o346⟩ _ rfl _ ⟨a349, c350, rfl, o351, s352, -⟩ _ rfl _ rfl _ rfl _ ⟨a354, c355, rfl, o356⟩
   show WL _ _ _ _ _ _ _
   have o358 := (OLv.kp o103 k340)
   refine wl_appL (L := LT_34) (xs := (F_spec_PathTick x_p x_now).Cands) (el := { A := x_a, Draw := x_draw, Until := (x_now + 6) : PCand }) (l := [(a349, c350)]) wN slTy_26 o358 (Rd.of_own o356) ⟨⟨(own_lo o351 (z3 k88 k91 k97)), s352⟩, trivial⟩ ⟨trivial, trivial⟩ (Nat.le_refl _) k74.size (by first | omega | (simp only [List.length_take, List.length_append, List.length_cons, List.length_nil]; omega) | (refine Nat.le_trans (Nat.succ_le_succ (List.length_filter_le _ _)) ?_; simp only [List.length_take]; omega)) (z5 k74 k88 k91 k97 k340) ?_
   intro a359 c360 w12 k361 o362
   have m363 := (m96.extk k340).ext k361 (fun k hk => Nat.le_trans (z6 k14 k20 k26 k53 k57 k62) (own_lt o83 k hk).1)
   obtain ⟨y366, o367⟩ := OLv.ow o362
   refine pu (vp g85 2) wN ?_
   have b368 := ((b100.kp k340).ch k361 (fun h => by have := (own_lt o83 _ h).2; have := Nat.le_trans (Nat.le_refl w7.heap.size) p86; omega))
   refine st (vs a359 ((F_spec_PathTick x_p x_now).Cands ++ [{ A := x_a, Draw := x_draw, Until := (x_now + 6) : PCand }]).length c360) [(vs a359 ((F_spec_PathTick x_p x_now).Cands ++ [{ A := x_a, Draw := x_draw, Until := (x_now + 6) : PCand }]).length c360)] [(vi (((F_spec_PathTick x_p x_now).At).Host)), (vi (((F_spec_PathTick x_p x_now).At).Port)), (vs a359 ((F_spec_PathTick x_p x_now).Cands ++ [{ A := x_a, Draw := x_draw, Until := (x_now + 6) : PCand }]).length c360)] wN sizeOf_26 b368 ?_
   intro w13 k369 b370 z371
   have m372 := m363.ext k369 (fun k hk => by subst hk; exact Nat.le_trans (z7 k14 k20 k26 k53 k57 k62 k74) p86)
   refine nx ?_
   refine lN [(vi (((F_spec_PathTick x_p x_now).At).Host)), (vi (((F_spec_PathTick x_p x_now).At).Port)), (vs a359 ((F_spec_PathTick x_p x_now).Cands ++ [{ A := x_a, Draw := x_draw, Until := (x_now + 6) : PCand }]).length c360)] wN isAgg_28 sizeOf_28 b370 ?_
   have b373 := ((((((((((b27.kp k53).kp k57).kp k62).kp k74).kp k88).ch k91 (Nat.ne_of_lt (Nat.lt_of_lt_of_le p25 (Nat.le_trans (z4 k53 k57 k62 k74) p86)))).ch k97 (Nat.not_le.2 (Nat.lt_of_lt_of_le p25 (z6 k53 k57 k62 k74 k88 k91)))).kp k340).ch k361 (fun h => by have := (own_lt o83 _ h).1; have := Nat.lt_of_lt_of_le p25 (z3 k53 k57 k62); omega)).ch k369 (Nat.ne_of_lt (Nat.lt_of_lt_of_le p25 (Nat.le_trans (z4 k53 k57 k62 k74) p86))))
   refine sv [(vi (((F_spec_PathTick x_p x_now).At).Host)), (vi (((F_spec_PathTick x_p x_now).At).Port)), (vs a359 ((F_spec_PathTick x_p x_now).Cands ++ [{ A := x_a, Draw := x_draw, Until := (x_now + 6) : PCand }]).length c360)] wN sizeOf_28 b373 ?_
   intro w14 k374 b375 z376
   have m377 := m372.ext k374 (fun k hk => by subst hk; exact Nat.le_trans (z2 k14 k20) p24)
   refine aw (vb true) ?_
   refine n3 ?_
   have o378 := (OLv.ch (olv_blk o362 b368 (by decide) (by decide) k369) k374 (fun g h1 h2 hk => by have h3 := Nat.lt_of_lt_of_le p25 (z3 k53 k57 k62); omega))
   refine ret_2 (.inl rfl) (va [(vi (((F_spec_PathTick x_p x_now).At).Host)), (vi (((F_spec_PathTick x_p x_now).At).Port)), (vs a359 ((F_spec_PathTick x_p x_now).Cands ++ [{ A := x_a, Draw := x_draw, Until := (x_now + 6) : PCand }]).length c360)]) (vb true) rfl (rv_c [(vi (((F_spec_PathTick x_p x_now).At).Host)), (vi (((F_spec_PathTick x_p x_now).At).Port)), (vs a359 ((F_spec_PathTick x_p x_now).Cands ++ [{ A := x_a, Draw := x_draw, Until := (x_now + 6) : PCand }]).length c360)] rfl b375 isAgg_28 sizeOf_28) rfl ?_
   refine ⟨m377.keep0, ?_⟩
   have hF379 : offS x_p x_now x_a x_draw = ({ At := ((F_spec_PathTick x_p x_now).At), Cands := ((F_spec_PathTick x_p x_now).Cands ++ [{ A := x_a, Draw := x_draw, Until := (x_now + 6) : PCand }]) : PPaths }, true) := by have hz : candAt (F_spec_PathTick x_p x_now) x_a = -1 := findF_none (p := (fun c : PCand => decide (c.A.Host = x_a.Host) && decide (c.A.Port = x_a.Port))) (z := z_PCand) (by assumption) (by omega); simp only [offS, h55, h59, h64, h66, h70, h104, h195, hz]; try rfl
   rw [hF379]
   exact ⟨_, _, rfl, (OLv.now (OLv.low o378 (z6 k14 k20 k26 k53 k57 k62))), (OLv.small o362), ⟨trivial, trivial⟩⟩
theorem offS_small {p : PPaths} {n : Int} {a : PAddr} {b : List UInt8} (h : ∀ c ∈ p.Cands, c.Draw.length ≤ 100000) : ∀ c ∈ (offS p n a b).1.Cands, c.Draw.length ≤ 100000 := by
  have hT : ∀ c ∈ (F_spec_PathTick p n).Cands, c.Draw.length ≤ 100000 := by
    simp only [F_spec_PathTick, cond_eq_ite]
    repeat' split
    all_goals first | exact h | (intro c hc; exact h c (List.mem_of_mem_take (List.mem_filter.1 hc).1))
  by_cases hb : (b.length : Int) = 12
  · simp only [offS, cond_eq_ite]
    repeat' split
    all_goals first | exact h | (intro c hc; rcases List.mem_append.1 hc with hc | hc; (· exact hT c hc); (· rw [List.mem_singleton.1 hc]; show b.length ≤ 100000; omega))
  · simp only [offS, decide_eq_false hb, cond_eq_ite]
    repeat' split
    all_goals first | exact h | (exfalso; simp_all; done)
theorem small_el {l : List PCand} {i : Nat} (h : ∀ c ∈ l, c.Draw.length ≤ 100000) (hi : i < l.length) : (l.getD i z_PCand).Draw.length ≤ 100000 := by
  simp only [List.getD_eq_getElem?_getD, List.getElem?_eq_getElem hi, Option.getD_some]
  exact h _ (List.getElem_mem hi)
theorem small_set {l : List PCand} {i : Nat} {d : PCand} (h : ∀ c ∈ l, c.Draw.length ≤ 100000) (hd : d.Draw.length ≤ 100000) : ∀ c ∈ l.set i d, c.Draw.length ≤ 100000 := fun c hc => by
  rcases List.mem_or_eq_of_mem_set hc with hc | rfl
  · exact h c hc
  · exact hd

theorem mR_22 {w : World} {x : List UInt8} {a1 : Option Addr} {c1 : Nat} (h1 : Rd w 1 (.slice a1 x.length c1) x.length (x.map bV)) (l1 : x.length ≤ 1073741824) : R_22 w (vs a1 x.length c1) x := ⟨_, _, rfl, h1, l1⟩
theorem C_spec_l16Draw (w0 : World) (g : Nat) (ca : Option Addr) (cc : Nat) (cb : List UInt8) (r_c : CurX w0 g 111 ca cc cb)  : Fn Try.prog 92 #[(vp g 0)] w0 (fun v w' => ∃ x : (PPaths), Ch (fun k => k = g) w0 w' ∧ CurX w' g 111 ca cc cb ∧ O_28 w' w0.heap.size v x ∧ (∀ c ∈ x.Cands, c.Draw.length ≤ 100000)) := by
 obtain ⟨ci, chh, hcb, hcr, hcl, hci, hcn⟩ := r_c
 have hgl := Blk.lt hcb
 refine fn_ofS (n := 34) [(vp g 0)] Try.func92 rfl rfl ?_
 refine sr ?_
 refine al [(vi 0), (vi 0), (vs none 0 0)] wN zero_28 ?_
 intro g1 w1 p2 p3 k4 b5
 have m6 := ChG.extk (Ch.refl (fun k => k = g) w0) k4
 refine nx ?_
 refine mw (vp g 0) ?_
 have b7 := (hcb.kp k4)
 refine cl wN (C_spec_l1Below w1 g ca cc cb ⟨_, _, b7, (Rd.chP hcr m6 hcn), hcl, (by omega), hcn⟩ 5) ?_
 rintro _ w2 ⟨x9, k8, ⟨i11, h12, b13, r14, l15, p16, n17⟩, rfl, q10⟩
 have m18 := ChG.ext m6 k8 (fun k hk => .inl hk)
 refine cl wN (C_spec_Near w2 (x9)) ?_
 rintro _ w3 ⟨k19, rfl⟩
 have m20 := ChG.extk m18 k19
 refine cl wN (C_spec_PathsNew w3 _ (F_spec_Near (x9)) (mR_25)) ?_
 rintro _ w4 ⟨k21, ⟨a22, c23, rfl, o24, s25, ap27⟩⟩
 have m28 := ChG.extk m20 k21
 obtain ⟨y29, o30⟩ := OLv.ow o24
 refine al [(vi 0), (vi 0), (vs none 0 0)] wN zero_28 ?_
 intro g31 w5 p32 p33 k34 b35
 have m36 := ChG.extk m28 k34
 refine st (va (L_28 (F_spec_PathsNew (F_spec_Near (x9))) a22 c23)) (L_28 (F_spec_PathsNew (F_spec_Near (x9))) a22 c23) (L_28 (F_spec_PathsNew (F_spec_Near (x9))) a22 c23) wN sizeOf_28 b35 ?_
 intro w6 k37 b38 z39
 have m40 := ChG.ext m36 k37 (fun k hk => .inr (by subst hk; exact Nat.le_trans (z4 k4 k8 k19 k21) p32))
 refine nx ?_
 refine mw (vp g 0) ?_
 have b41 := ((((b13.kp k19).kp k21).kp k34).ch k37 (Nat.ne_of_lt (Nat.lt_of_lt_of_le hgl (Nat.le_trans (z4 k4 k8 k19 k21) p32))))
 refine cl wN (C_spec_l1Below w6 g ca cc cb ⟨_, _, b41, (Rd.chP hcr m40 hcn), hcl, (by omega), hcn⟩ 6) ?_
 rintro _ w7 ⟨x43, k42, ⟨i45, h46, b47, r48, l49, p50, n51⟩, rfl, q44⟩
 have m52 := ChG.ext m40 k42 (fun k hk => .inl hk)
 refine aw (vi (x43)) ?_
 refine n4 ?_
 refine mw (vp g 0) ?_
 refine cl wN (C_spec_l1Below w7 g ca cc cb ⟨_, _, b47, (Rd.chP hcr m52 hcn), hcl, (by omega), hcn⟩ 5) ?_
 rintro _ w8 ⟨x54, k53, ⟨i56, h57, b58, r59, l60, p61, n62⟩, rfl, q55⟩
 have m63 := ChG.ext m52 k53 (fun k hk => .inl hk)
 refine aw (vi (x54)) ?_
 refine wl_nil <| wq_then <| wc_block ?_
 have o65 := (OLv.ch (OLv.ch (OLv.ch (OLv.kp o24 k34) k37 (fun g h1 h2 hk => by have h3 := Nat.le_trans (Nat.le_refl w4.heap.size) p32; omega)) k42 (fun g h1 h2 hk => by have h3 := Nat.lt_of_lt_of_le hgl (z3 k4 k8 k19); omega)) k53 (fun g h1 h2 hk => by have h3 := Nat.lt_of_lt_of_le hgl (z3 k4 k8 k19); omega))
 have hE66 : ((F_spec_PathsNew (F_spec_Near (x9))).Cands : List (PCand)) = (F_spec_PathsNew (F_spec_Near (x9))).Cands := by rfl
 have b67 := ((b38.ch k42 (Ne.symm (Nat.ne_of_lt (Nat.lt_of_lt_of_le hgl (Nat.le_trans (z4 k4 k8 k19 k21) p32))))).ch k53 (Ne.symm (Nat.ne_of_lt (Nat.lt_of_lt_of_le hgl (Nat.le_trans (z4 k4 k8 k19 k21) p32)))))
 refine wc_loopP [(0, (vp g 0)), (2, (vp g1 0)), (3, (vp g31 0)), (4, (vi (x43))), (5, (vi (x54)))] ⟨rfl, rfl, rfl, rfl, rfl, trivial⟩ (fun e' w' => ∃ (p : PPaths) (n : Int) (q : Int) (u64 : Env) (ab3_2x : Option Addr) (cb3_2x : Nat), e' = pt u64 [(0, (vp g 0)), (2, (vp g1 0)), (3, (vp g31 0)), (4, (vi n)), (5, (vi q))] ∧ Ch (fun k => k = g) w0 w' ∧ Ch (fun k => k = g ∨ w4.heap.size ≤ k) w8 w' ∧ 0 ≤ q ∧ q ≤ 5 ∧ 0 ≤ n ∧ n + 3 * q ≤ 30 ∧ (∀ c ∈ p.Cands, c.Draw.length ≤ 100000) ∧ (OLv LT_34 w' w3.heap.size w'.heap.size ab3_2x (p.Cands).length cb3_2x (p.Cands) ∧ (p.Cands).length ≤ 1073741824) ∧ Blk w' g31 28 [(vi p.At.Host), (vi p.At.Port), (.slice ab3_2x (p.Cands).length cb3_2x)] ∧ CurX w' g 111 ca cc cb) (fun e' _ => ((intOf (e' 5))).toNat) ?_ ?_
 ·exact fun u => ⟨(F_spec_PathsNew (F_spec_Near (x9))), (x43), (x54), u, a22, c23, rfl, m63, (Ch.refl (fun k => k = g ∨ w4.heap.size ≤ k) w8), (by omega), (by omega), (by omega), (by omega), (by first | exact offS_small (by assumption) | (intro c hc; cases hc)), (hE66 ▸ ⟨(OLv.now o65), s25⟩), (by have hb := b67; first | exact hb | (rw [hE66] at hb; exact hb)), ⟨_, _, b58, (Rd.chP hcr m63 hcn), hcl, (by omega), hcn⟩⟩
 ·rintro _ w9 ⟨p, n, q, u64, ab3_2x, cb3_2x, rfl, m68, k69, i70, i71, i72, i73, i74, ⟨o75, s76⟩, hbx3, ⟨i77, h78, b79, r80, l81, p82, n83⟩⟩
  obtain ⟨y85, o86⟩ := OLv.ow o75
  refine wc_seq <| sr ?_
  refine mw (vi q) ?_
  refine pu (vb (decide (0 < q))) wN ?_
  refine n2 ?_
  rcases bf (decide (0 < q)) with h87 | h87
  ·have q464 := of_decide_eq_false h87
   refine cf h87 ?_
   refine wc_exit <| wq_then_exit <| wq_then_exit <| wq_blk_exit <| wq_then <| sr ?_
   refine lN [(vi p.At.Host), (vi p.At.Port), (vs ab3_2x (p.Cands).length cb3_2x)] wN isAgg_28 sizeOf_28 hbx3 ?_
   have b465 := ((((((((b5.ch k8 (Ne.symm (Nat.ne_of_lt (Nat.lt_of_lt_of_le hgl (p2))))).kp k19).kp k21).kp k34).ch k37 (Nat.ne_of_lt (Nat.lt_of_lt_of_le p3 (Nat.le_trans (z3 k8 k19 k21) p32)))).ch k42 (Ne.symm (Nat.ne_of_lt (Nat.lt_of_lt_of_le hgl (p2))))).ch k53 (Ne.symm (Nat.ne_of_lt (Nat.lt_of_lt_of_le hgl (p2))))).ch k69 (fun h => Or.elim h (Ne.symm (Nat.ne_of_lt (Nat.lt_of_lt_of_le hgl (p2)))) (Nat.not_le.2 (Nat.lt_of_lt_of_le p3 (z3 k8 k19 k21)))))
   refine sv [(vi p.At.Host), (vi p.At.Port), (vs ab3_2x (p.Cands).length cb3_2x)] wN sizeOf_28 b465 ?_
   intro w10 k466 b467 z468
   have m469 := ChG.ext m68 k466 (fun k hk => .inr (by subst hk; exact p2))
   refine n3 ?_
   have o470 := (OLv.ch o75 k466 (fun g h1 h2 hk => by have h3 := Nat.lt_of_lt_of_le p3 (z2 k8 k19); omega))
   refine ret_1 (.inl rfl) (va [(vi p.At.Host), (vi p.At.Port), (vs ab3_2x (p.Cands).length cb3_2x)]) rfl (rv_c [(vi p.At.Host), (vi p.At.Port), (vs ab3_2x (p.Cands).length cb3_2x)] rfl b467 isAgg_28 sizeOf_28) ?_
   have hN471 : (p.Cands).length = (p.Cands).length := by first | (simp only [List.length_append, List.length_take, List.length_replicate, List.length_set, List.length_map]; done) | (simp only [List.length_append, List.length_take, List.length_replicate, List.length_set, List.length_map]; omega)
   rw [hN471] at o470 ⊢
   have b472 := (b79.ch k466 (Nat.ne_of_lt (Nat.lt_of_lt_of_le hgl (p2))))
   exact ⟨p, m469, ⟨_, _, b472, (Rd.chP hcr m469 hcn), hcl, (by omega), hcn⟩, ⟨_, _, rfl, (OLv.now (OLv.low o470 (z3 k4 k8 k19))), (by rw [← hN471]; exact s76), ⟨trivial, trivial⟩⟩, (by assumption)⟩
  have q88 := of_decide_eq_true h87
  refine ct h87 ?_
  refine wc_skip <| wq_then <| wc_seq <| wc_block <| wc_seq ?_
  have zz1 := Nat.le_trans (z4 k4 k8 k19 k21) p32
  refine wc_drawT ([(19, [], [], (fun _ v _ => v = (va [(vi p.At.Host), (vi p.At.Port), (vs ab3_2x (p.Cands).length cb3_2x)]))), (20, [], [], (fun _ v _ => v = (vi n))), (21, [], [], (fun _ v _ => v = (vp g 0))), (22, [], [2], (fun _ v _ => ∃ x136 : Int, v = (vi x136) ∧ 0 ≤ x136 ∧ (x136 < 7 ∨ ((7 : Int) ≤ 0 ∧ x136 = 0)))), (23, [], [2, 3], (fun _ v w => ∃ (z137 : Int), v = .agg #[.int .i64 ((F_spec_Near z137).Host), .int .i64 ((F_spec_Near z137).Port)])), (24, [], [], (fun _ v _ => v = (vp g 0))), (25, [], [2, 3, 4, 5], (fun _ v w => ∃ (x138 : List UInt8) (a1 : Option Addr) (c1 : Nat), v = .slice a1 x138.length c1 ∧ w.ownsRow w9.heap.size 5 1 (.slice a1 x138.length c1) x138.length (x138.map bV) ∧ x138.length ≤ 1073741824 ∧ x138.length = (12 : Int).toNat)), (26, [], [0, 1, 2, 3, 4, 5, 6], (fun _ v w => ∃ (z140 : List UInt8) (z141 : Int), ∃ (a1 : Option Addr) (c1 : Nat), v = .tuple #[.agg #[.int .i64 ((((offS p n (F_spec_Near z141) z140).1).At).Host), .int .i64 ((((offS p n (F_spec_Near z141) z140).1).At).Port), .slice a1 (((offS p n (F_spec_Near z141) z140).1).Cands).length c1], .bool ((offS p n (F_spec_Near z141) z140).2)] ∧ OLv LT_34 w (w9.heap.size) w.heap.size a1 (((offS p n (F_spec_Near z141) z140).1).Cands).length c1 (((offS p n (F_spec_Near z141) z140).1).Cands) ∧ (((offS p n (F_spec_Near z141) z140).1).Cands).length ≤ 1073741824 ∧ Aps [(a1, c1)])), (18, [26], [0, 1, 2, 3, 4, 5, 6, 7], (fun e v _ => v = (e 26))), (27, [18], [0, 1, 2, 3, 4, 5, 6, 7, 8], (fun e v _ => v = (tupAt (e 18) 0))), (28, [], [0, 1, 2, 3, 4, 5, 6, 7, 8], (fun _ v _ => ∃ z : Bool, v = vb z)), (45, [27], [0, 1, 2, 3, 4, 5, 6, 7, 8, 9], (fun e _ w => BK w g31 28 0 [(cellAt (e 27) 0), (cellAt (e 27) 1), (cellAt (e 27) 2)]))] : GV) (fun lf w' => Ch (fun k => k = g31 ∨ k = g) w9 w' ∧ RK lf w' g31 28 [(vi p.At.Host), (vi p.At.Port), (vs ab3_2x (p.Cands).length cb3_2x)] [(11, 0, 3)] ∧ CurX w' g 111 ca cc cb) [(3, fun w w' => Ch (fun k => k = g) w w' ∧ (CurX w g 111 ca cc cb → CurX w' g 111 ca cc cb)), (6, fun w w' => Ch (fun k => k = g) w w' ∧ (CurX w g 111 ca cc cb → CurX w' g 111 ca cc cb)), (11, TK g31 28 0 3)] mixed rfl (by kernel_rfl) (by kernel_rfl) ?_ (fun _ _ h => ⟨h.to _, RK.z hbx3 h, CurX.kp ⟨_, _, b79, (Rd.chP hcr m68 hcn), hcl, (by omega), hcn⟩ h⟩) (fun _ _ _ _ h mo k => by obtain ⟨hc, hbg31, hcur⟩ := h; exact ⟨hc.comp k (fun _ _ q => q.elim), hbg31.kp mo k, hcur.kp k⟩) ⟨(fun _ _ w w' h mo hj t => by obtain ⟨hc, hbg31, hcur⟩ := h; exact ⟨hc.comp t.1 (fun _ _ q => (.inr q)), hbg31.ch mo t.1 (Ne.symm (Nat.ne_of_lt (Nat.lt_of_lt_of_le hgl zz1))), t.2 hcur⟩), ⟨(fun _ _ w w' h mo hj t => by obtain ⟨hc, hbg31, hcur⟩ := h; exact ⟨hc.comp t.1 (fun _ _ q => (.inr q)), hbg31.ch mo t.1 (Ne.symm (Nat.ne_of_lt (Nat.lt_of_lt_of_le hgl zz1))), t.2 hcur⟩), ⟨(fun _ _ w w' h mo hj t => by obtain ⟨hc, hbg31, hcur⟩ := h; exact ⟨hc.comp t.1 (fun _ _ q => (.inl q)), hbg31.st mo hj (.head _) t, hcur.ch t.1 (Nat.ne_of_lt (Nat.lt_of_lt_of_le hgl zz1)) (fun h0 z hz => Nat.ne_of_lt (Nat.lt_of_lt_of_le (rd_posB hcr h0 z hz) zz1))⟩), trivial⟩⟩⟩ ?_ ?_ ?_
  ·exact ⟨hV, hE, ⟨hV, hE, ⟨hV, hE, ⟨hV, hE, ⟨hV, hE, ⟨hV, hE, ⟨(fun e v w w1 h hk => by obtain ⟨x0x, a0x, c0x, he, o0x, l0x, p0x⟩ := h; exact ⟨x0x, a0x, c0x, he, own_kp o0x hk, l0x, p0x⟩), hE, ⟨(fun e v w w1 h hk => by obtain ⟨z0x, z1x, a0x, c0x, he, o0x, l0x, hap⟩ := h; exact ⟨z0x, z1x, a0x, c0x, he, OLv.now (OLv.kp o0x hk), l0x, hap⟩), hE, ⟨hV, (fun e1 e2 v w hx h => by have h26x := hx 26 (by simp); simp only [h26x] at h; exact h), ⟨hV, (fun e1 e2 v w hx h => by have h18x := hx 18 (by simp); simp only [h18x] at h; exact h), ⟨hV, hE, ⟨sK, (fun e1 e2 v w hx h => by have h27x := hx 27 (by simp); simp only [h27x] at h; exact h), trivial⟩⟩⟩⟩⟩⟩⟩⟩⟩⟩⟩⟩
  ·have zz2 := z9 k4 k8 k19 k21 k34 k37 k42 k53 k69
   exact ⟨⟨.inr hV, ⟨.inr hV, ⟨.inr hV, ⟨.inl rfl, ⟨.inr hV, ⟨.inr hV, ⟨.inr (fun e v wX wY h ht => by obtain ⟨x0x, a0x, c0x, he, o0x, l0x, p0x⟩ := h; exact ⟨x0x, a0x, c0x, he, own_ch o0x ht.1 (fun gq hg _ hk => by have h1 := (own_lt o0x gq hg).1; have h3 : gq = g := hk; have h4 := (Nat.lt_of_lt_of_le hgl zz2); omega), l0x, p0x⟩), ⟨.inr (fun e v wX wY h ht => by obtain ⟨z0x, z1x, a0x, c0x, he, o0x, l0x, hap⟩ := h; exact ⟨z0x, z1x, a0x, c0x, he, OLv.now (OLv.ch o0x ht.1 (fun gq h1 _ hk => by have h3 : gq = g := hk; have h4 := (Nat.lt_of_lt_of_le hgl zz2); omega)), l0x, hap⟩), ⟨.inr hV, ⟨.inr hV, ⟨.inr hV, ⟨.inr (sKo (fun _ _ t => t.1) (Ne.symm (Nat.ne_of_lt (Nat.lt_of_lt_of_le hgl (Nat.le_trans (z4 k4 k8 k19 k21) p32))))), trivial⟩⟩⟩⟩⟩⟩⟩⟩⟩⟩⟩⟩, ⟨⟨.inr hV, ⟨.inr hV, ⟨.inr hV, ⟨.inr hV, ⟨.inr hV, ⟨.inr hV, ⟨.inl rfl, ⟨.inr (fun e v wX wY h ht => by obtain ⟨z0x, z1x, a0x, c0x, he, o0x, l0x, hap⟩ := h; exact ⟨z0x, z1x, a0x, c0x, he, OLv.now (OLv.ch o0x ht.1 (fun gq h1 _ hk => by have h3 : gq = g := hk; have h4 := (Nat.lt_of_lt_of_le hgl zz2); omega)), l0x, hap⟩), ⟨.inr hV, ⟨.inr hV, ⟨.inr hV, ⟨.inr (sKo (fun _ _ t => t.1) (Ne.symm (Nat.ne_of_lt (Nat.lt_of_lt_of_le hgl (Nat.le_trans (z4 k4 k8 k19 k21) p32))))), trivial⟩⟩⟩⟩⟩⟩⟩⟩⟩⟩⟩⟩, ⟨⟨.inr hV, ⟨.inr hV, ⟨.inr hV, ⟨.inr hV, ⟨.inr hV, ⟨.inr hV, ⟨.inr (fun e v wX wY h ht => by obtain ⟨x0x, a0x, c0x, he, o0x, l0x, p0x⟩ := h; exact ⟨x0x, a0x, c0x, he, own_ch o0x ht.1 (fun gq hg _ hk => by have h1 := (own_lt o0x gq hg).1; have h3 : gq = g31 := hk; have h4 := (Nat.lt_of_lt_of_le p33 (z4 k37 k42 k53 k69)); omega), l0x, p0x⟩), ⟨.inr (fun e v wX wY h ht => by obtain ⟨z0x, z1x, a0x, c0x, he, o0x, l0x, hap⟩ := h; exact ⟨z0x, z1x, a0x, c0x, he, OLv.now (OLv.ch o0x ht.1 (fun gq h1 _ hk => by have h3 : gq = g31 := hk; have h4 := (Nat.lt_of_lt_of_le p33 (z4 k37 k42 k53 k69)); omega)), l0x, hap⟩), ⟨.inr hV, ⟨.inr hV, ⟨.inr hV, ⟨.inl rfl, trivial⟩⟩⟩⟩⟩⟩⟩⟩⟩⟩⟩⟩, trivial⟩⟩⟩
  ·refine ⟨?_, ⟨?_, ⟨?_, ⟨?_, ⟨?_, ⟨?_, ⟨?_, ⟨?_, ⟨?_, ⟨?_, ⟨?_, ⟨?_, trivial⟩⟩⟩⟩⟩⟩⟩⟩⟩⟩⟩⟩
   ·rintro lf w10 ⟨k149, b150, ⟨i154, h155, b156, r157, l158, p159, n160⟩⟩ ⟨n151, n152, n153, -⟩
    have b162 := RK.old b150 ⟨n153.resolve_left (fun h => Bool.noConfusion (show true = false from h.1)), trivial⟩
    rintro _ _ _ _ _ _ _ _ _ _ _ _
    show WL _ _ _ _ _ _ _
    refine lN [(vi p.At.Host), (vi p.At.Port), (vs ab3_2x (p.Cands).length cb3_2x)] wN isAgg_28 sizeOf_28 b162 ?_
    exact f1
   ·rintro lf w10 ⟨k163, b164, ⟨i168, h169, b170, r171, l172, p173, n174⟩⟩ ⟨n165, n166, n167, -⟩
    rintro _ _ _ _ _ _ _ _ _ _ _ _
    show WL _ _ _ _ _ _ _
    refine mw (vi n) ?_
    exact f1
   ·rintro lf w10 ⟨k176, b177, ⟨i181, h182, b183, r184, l185, p186, n187⟩⟩ ⟨n178, n179, n180, -⟩
    rintro _ _ _ _ _ _ _ _ _ _ _ _
    show WL _ _ _ _ _ _ _
    refine mw (vp g 0) ?_
    exact f1
   ·rintro lf w10 ⟨k189, b190, ⟨i194, h195, b196, r197, l198, p199, n200⟩⟩ ⟨n191, n192, n193, -⟩
    have m201 := ChG.ext m68 k189 (fun k hk => (fun hk => Or.elim hk (fun hk => .inr (by subst hk; exact Nat.le_trans (z4 k4 k8 k19 k21) p32)) (fun hk => .inl hk)) hk)
    rintro _ _ _ rfl _ _ _ _ _ _ _ _ _
    show WL _ _ _ _ _ _ _
    refine cl wN (C_spec_l1Below w10 g ca cc cb ⟨_, _, b196, (Rd.chP hcr m201 hcn), hcl, (by omega), hcn⟩ 7) ?_
    rintro _ w11 ⟨x204, k203, ⟨i206, h207, b208, r209, l210, p211, n212⟩, rfl, q205⟩
    have m213 := ChG.ext m201 k203 (fun k hk => .inl hk)
    exact wl_finT ⟨k203, fun _ => ⟨_, _, b208, (Rd.chP hcr m213 hcn), hcl, (by omega), hcn⟩⟩ ⟨_, rfl, q205⟩
   ·rintro lf w10 ⟨k214, b215, ⟨i219, h220, b221, r222, l223, p224, n225⟩⟩ ⟨n216, n217, n218, -⟩
    rintro _ _ _ rfl _ ⟨x136, rfl, q228⟩ _ _ _ _ _ _ _ _
    show WL _ _ _ _ _ _ _
    refine cl wN (C_spec_Near w10 x136) ?_
    rintro _ w11 ⟨k229, rfl⟩
    exact wl_finT k229 ⟨x136, rfl⟩
   ·rintro lf w10 ⟨k231, b232, ⟨i236, h237, b238, r239, l240, p241, n242⟩⟩ ⟨n233, n234, n235, -⟩
    rintro _ _ _ _ _ _ _ _ _ _ _ _
    show WL _ _ _ _ _ _ _
    refine mw (vp g 0) ?_
    exact f1
   ·rintro lf w10 ⟨k244, b245, ⟨i249, h250, b251, r252, l253, p254, n255⟩⟩ ⟨n246, n247, n248, -⟩
    have m256 := ChG.ext m68 k244 (fun k hk => (fun hk => Or.elim hk (fun hk => .inr (by subst hk; exact Nat.le_trans (z4 k4 k8 k19 k21) p32)) (fun hk => .inl hk)) hk)
    rintro _ _ _ rfl _ ⟨x136, rfl, q258⟩ _ ⟨z137, rfl⟩ _ rfl _ _ _ _ _ _
    show WL _ _ _ _ _ _ _
    refine cl wN (C_spec_l1Bytes w10 g ca cc cb ⟨_, _, b251, (Rd.chP hcr m256 hcn), hcl, (by omega), hcn⟩ 12 (by omega)) ?_
    rintro _ w11 ⟨x260, k259, ⟨i268, h269, b270, r271, l272, p273, n274⟩, ⟨a262, c263, rfl, o264, s265, ap267⟩, q261⟩
    have m275 := ChG.ext m256 k259 (fun k hk => .inl hk)
    exact wl_finT ⟨k259, fun _ => ⟨_, _, b270, (Rd.chP hcr m275 hcn), hcl, (by omega), hcn⟩⟩ ⟨_, _, _, rfl, own_lo o264 k244.size, s265, q261⟩
   ·rintro lf w10 ⟨k276, b277, ⟨i281, h282, b283, r284, l285, p286, n287⟩⟩ ⟨n278, n279, n280, -⟩
    rintro _ rfl _ rfl _ rfl _ ⟨x136, rfl, q290⟩ _ ⟨z137, rfl⟩ _ rfl _ ⟨x138, a292, c293, rfl, o294, s295, q291⟩ _ _ _ _ _
    show WL _ _ _ _ _ _ _
    have o297 := (olv_nb o75 k276 (fun k hk => (fun hk => Or.elim hk (fun hk => by subst hk; exact .inr (.inr ⟨_, _, hbx3, by decide, by decide⟩)) (fun hk => by subst hk; exact .inl (Nat.lt_of_lt_of_le hgl (z3 k4 k8 k19)))) hk))
    refine cl wN (C_spec_Offer w10 _ p (mR_28 (OLv.rl o297) s76) n _ (F_spec_Near z137) (mR_25) _ x138 (mR_22 (Rd.of_own o294) s295)) ?_
    rintro _ w11 ⟨k298, ⟨a299, c300, rfl, o301, s302, ap304⟩⟩
    obtain ⟨y306, o307⟩ := OLv.ow o301
    exact wl_finT k298 ⟨x138, z137, _, _, rfl, (OLv.now (OLv.low o301 k276.size)), s302, ap304⟩
   ·rintro lf w10 ⟨k308, b309, ⟨i313, h314, b315, r316, l317, p318, n319⟩⟩ ⟨n310, n311, n312, -⟩
    rintro _ rfl _ rfl _ rfl _ ⟨x136, rfl, q321⟩ _ ⟨z137, rfl⟩ _ rfl _ ⟨x138, a323, c324, rfl, o325, s326, q322⟩ _ ⟨z140, z141, a328, c329, rfl, o330, s331, ap333⟩
    obtain ⟨y334, o335⟩ := OLv.ow o330
    rintro _ _ _ _
    show WL _ _ _ _ _ _ _
    refine mw (.tuple #[(va (L_28 ((offS p n (F_spec_Near z141) z140).1) a328 c329)), (vb ((offS p n (F_spec_Near z141) z140).2))]) ?_
    exact f1
   ·rintro lf w10 ⟨k336, b337, ⟨i341, h342, b343, r344, l345, p346, n347⟩⟩ ⟨n338, n339, n340, -⟩
    rintro _ rfl _ rfl _ rfl _ ⟨x136, rfl, q349⟩ _ ⟨z137, rfl⟩ _ rfl _ ⟨x138, a351, c352, rfl, o353, s354, q350⟩ _ ⟨z140, z141, a356, c357, rfl, o358, s359, ap361⟩
    obtain ⟨y362, o363⟩ := OLv.ow o358
    rintro _ rfl _ _ _
    show WL _ _ _ _ _ _ _
    refine pu (va (L_28 ((offS p n (F_spec_Near z141) z140).1) a356 c357)) wN ?_
    exact f1
   ·rintro lf w10 ⟨k364, b365, ⟨i369, h370, b371, r372, l373, p374, n375⟩⟩ ⟨n366, n367, n368, -⟩
    rintro _ rfl _ rfl _ rfl _ ⟨x136, rfl, q377⟩ _ ⟨z137, rfl⟩ _ rfl _ ⟨x138, a379, c380, rfl, o381, s382, q378⟩ _ ⟨z140, z141, a384, c385, rfl, o386, s387, ap389⟩
    obtain ⟨y390, o391⟩ := OLv.ow o386
    rintro _ rfl _ _ _
    show WL _ _ _ _ _ _ _
    refine pu (vb ((offS p n (F_spec_Near z141) z140).2)) wN ?_
    exact wl_finT (Ch.refl _ _) ⟨_, rfl⟩
   ·rintro lf w10 ⟨k392, b393, ⟨i397, h398, b399, r400, l401, p402, n403⟩⟩ ⟨n394, n395, n396, -⟩
    rintro _ rfl _ rfl _ rfl _ ⟨x136, rfl, q405⟩ _ ⟨z137, rfl⟩ _ rfl _ ⟨x138, a407, c408, rfl, o409, s410, q406⟩ _ ⟨z140, z141, a412, c413, rfl, o414, s415, ap417⟩
    obtain ⟨y418, o419⟩ := OLv.ow o414
    rintro _ rfl _ rfl _ _
    show WL _ _ _ _ _ _ _
    exact stK (va (L_28 ((offS p n (F_spec_Near z141) z140).1) a412 c413)) (L_28 ((offS p n (F_spec_Near z141) z140).1) a412 c413) wN sizeOf_28 b393 (fun _ h => h) (fun _ t => t)
  ·rintro lf w10 ⟨k420, b421, ⟨i425, h426, b427, r428, l429, p430, n431⟩⟩
   have m432 := ChG.ext m68 k420 (fun k hk => (fun hk => Or.elim hk (fun hk => .inr (by subst hk; exact Nat.le_trans (z4 k4 k8 k19 k21) p32)) (fun hk => .inl hk)) hk)
   rintro _ rfl _ rfl _ rfl _ ⟨x136, rfl, q433⟩ _ ⟨z137, rfl⟩ _ rfl _ ⟨x138, a435, c436, rfl, o437, s438, q434⟩ _ ⟨z140, z141, a440, c441, rfl, o442, s443, ap445⟩
   obtain ⟨y446, o447⟩ := OLv.ow o442
   rintro _ rfl _ rfl _ ⟨x148, rfl⟩ _ b448
   have b449 : Blk w10 g31 28 (L_28 ((offS p n (F_spec_Near z141) z140).1) a440 c441) := RK.fin b421 [(0, (L_28 ((offS p n (F_spec_Near z141) z140).1) a440 c441))] ⟨b448, trivial⟩
   show WL _ _ _ _ _ _ _
   refine wl_nil <| wq_then <| wc_region ?_
   refine mw (vi n) ?_
   refine mw (vp g 0) ?_
   refine cl wN (C_spec_l1Below w10 g ca cc cb ⟨_, _, b427, (Rd.chP hcr m432 hcn), hcl, (by omega), hcn⟩ 3) ?_
   rintro _ w11 ⟨x451, k450, ⟨i453, h454, b455, r456, l457, p458, n459⟩, rfl, q452⟩
   have m460 := ChG.ext m432 k450 (fun k hk => .inl hk)
   refine ar (n + (x451)) wN ?_
   refine aw (vi (n + (x451))) ?_
   refine wl_nil <| wq_blk_normal <| wq_then <| wc_region ?_
   refine mw (vi q) ?_
   refine ar (q - 1) wN ?_
   refine aw (vi (q - 1)) ?_
   refine wl_nil ?_
   have o461 := (OLv.ch o442 k450 (fun g h1 h2 hk => by have h3 := Nat.lt_of_lt_of_le hgl (z9 k4 k8 k19 k21 k34 k37 k42 k53 k69); omega))
   have hE462 : (((offS p n (F_spec_Near z141) z140).1).Cands : List (PCand)) = ((offS p n (F_spec_Near z141) z140).1).Cands := by rfl
   have b463 := (b449.ch k450 (Ne.symm (Nat.ne_of_lt (Nat.lt_of_lt_of_le hgl (Nat.le_trans (z4 k4 k8 k19 k21) p32)))))
   refine wq_loopP (w0 := w9) [(0, (vp g 0)), (2, (vp g1 0)), (3, (vp g31 0)), (4, (vi (n + (x451)))), (5, (vi (q - 1)))] ?_ ?_ ?_
   · exact ⟨rfl, rfl, rfl, rfl, rfl, trivial⟩
   · exact fun u => ⟨((offS p n (F_spec_Near z141) z140).1), (n + (x451)), (q - 1), u, a440, c441, rfl, m460, (ChO.ext (ChO.ext (ChO.ext (Ch.refl (fun k => k = g ∨ w4.heap.size ≤ k) w8) k69 (fun k hk => hk.elim .inl (fun hk => .inr (hk)))) k420 (fun k hk => (fun hk => Or.elim hk (fun hk => .inr (by subst hk; exact p32)) (fun hk => .inl hk)) hk)) k450 (fun k hk => .inl hk)), (by omega), (by omega), (by omega), (by omega), (by first | exact offS_small (by assumption) | (intro c hc; cases hc)), (hE462 ▸ ⟨(OLv.low (OLv.now o461) (z6 k21 k34 k37 k42 k53 k69)), s443⟩), (by have hb := b463; first | exact hb | (rw [hE462] at hb; exact hb)), ⟨_, _, b455, (Rd.chP hcr m460 hcn), hcl, (by omega), hcn⟩⟩
   · show ((q - 1)).toNat < (q).toNat; omega

theorem C_spec_l1Once (w0 : World) (g : Nat) (ca : Option Addr) (cc : Nat) (cb : List UInt8) (r_c : CurX w0 g 111 ca cc cb) (x_n : Int)  : Fn Try.prog 51 #[(vp g 0), (vi x_n)] w0 (fun v w' => ∃ x : (Bool), Ch (fun k => k = g) w0 w' ∧ CurX w' g 111 ca cc cb ∧ O_4 w' w0.heap.size v x ∧ (True)) := by
 obtain ⟨ci, chh, hcb, hcr, hcl, hci, hcn⟩ := r_c
 have hgl := Blk.lt hcb
 refine fn_ofS (n := 9) [(vp g 0), (vi x_n)] Try.func51 rfl rfl ?_
 refine sr ?_
 refine aw (vb false) ?_
 refine nx ?_
 refine mw (vp g 0) ?_
 refine mw (vi x_n) ?_
 refine cl wN (C_spec_l1Below w0 g ca cc cb ⟨_, _, hcb, hcr, hcl, (by omega), hcn⟩ x_n) ?_
 rintro _ w1 ⟨x2, k1, ⟨i4, h5, b6, r7, l8, p9, n10⟩, rfl, q3⟩
 have m11 := ChG.ext (Ch.refl (fun k => k = g) w0) k1 (fun k hk => .inl hk)
 refine pu (vb (decide ((x2) = 0))) wN ?_
 refine aw (vb (decide ((x2) = 0))) ?_
 refine n3 ?_
 refine rt (vb (decide ((x2) = 0))) ?_
 exact ⟨decide ((x2) = 0), m11, ⟨_, _, b6, (Rd.chP hcr m11 hcn), hcl, (by omega), hcn⟩, rfl, trivial⟩

theorem C_spec_l6Draw (w0 : World) (g : Nat) (ca : Option Addr) (cc : Nat) (cb : List UInt8) (r_c : CurX w0 g 111 ca cc cb)  : Fn Try.prog 94 #[(vp g 0)] w0 (fun v w' => ∃ x : (PAddr), Ch (fun k => k = g) w0 w' ∧ CurX w' g 111 ca cc cb ∧ O_25 w' w0.heap.size v x ∧ (True)) := by
 obtain ⟨ci, chh, hcb, hcr, hcl, hci, hcn⟩ := r_c
 have hgl := Blk.lt hcb
 refine fn_ofS (n := 17) [(vp g 0)] Try.func94 rfl rfl ?_
 refine sr ?_
 refine al [(vi 0), (vi 0)] wN zero_25 ?_
 intro g1 w1 p2 p3 k4 b5
 have m6 := ChG.extk (Ch.refl (fun k => k = g) w0) k4
 refine n4 ?_
 refine mw (vp g 0) ?_
 have b7 := (hcb.kp k4)
 refine cl wN (C_spec_l1Once w1 g ca cc cb ⟨_, _, b7, (Rd.chP hcr m6 hcn), hcl, (by omega), hcn⟩ 3) ?_
 rintro _ w2 ⟨x9, k8, ⟨i11, h12, b13, r14, l15, p16, n17⟩, rfl, q10⟩
 have m18 := ChG.ext m6 k8 (fun k hk => .inl hk)
 refine n2 ?_
 rcases bf x9 with h19 | h19
 ·refine cf h19 ?_
  refine y1 ?_
  refine mw (vp g 0) ?_
  refine cl wN (C_spec_l1Below w2 g ca cc cb ⟨_, _, b13, (Rd.chP hcr m18 hcn), hcl, (by omega), hcn⟩ 6) ?_
  rintro _ w3 ⟨x62, k61, ⟨i64, h65, b66, r67, l68, p69, n70⟩, rfl, q63⟩
  have m71 := ChG.ext m18 k61 (fun k hk => .inl hk)
  refine cl wN (C_spec_Near w3 (x62)) ?_
  rintro _ w4 ⟨k72, rfl⟩
  have m73 := ChG.extk m71 k72
  have b74 := (((b5.ch k8 (Ne.symm (Nat.ne_of_lt (Nat.lt_of_lt_of_le hgl (p2))))).ch k61 (Ne.symm (Nat.ne_of_lt (Nat.lt_of_lt_of_le hgl (p2))))).kp k72)
  refine st (va (L_25 (F_spec_Near (x62)))) (L_25 (F_spec_Near (x62))) (L_25 (F_spec_Near (x62))) wN sizeOf_25 b74 ?_
  intro w5 k75 b76 z77
  have m78 := ChG.ext m73 k75 (fun k hk => .inr (by subst hk; exact p2))
  refine n3 ?_
  refine ret_1 (.inl rfl) (va (L_25 (F_spec_Near (x62)))) rfl (rv_c (L_25 (F_spec_Near (x62))) rfl b76 isAgg_25 sizeOf_25) ?_
  have b79 := ((b66.kp k72).ch k75 (Nat.ne_of_lt (Nat.lt_of_lt_of_le hgl (p2))))
  exact ⟨(F_spec_Near (x62)), m78, ⟨_, _, b79, (Rd.chP hcr m78 hcn), hcl, (by omega), hcn⟩, rfl, trivial⟩
 refine ct h19 ?_
 refine sr ?_
 refine mw (vp g 0) ?_
 refine cl wN (C_spec_l1Below w2 g ca cc cb ⟨_, _, b13, (Rd.chP hcr m18 hcn), hcl, (by omega), hcn⟩ 16777216) ?_
 rintro _ w3 ⟨x22, k21, ⟨i24, h25, b26, r27, l28, p29, n30⟩, rfl, q23⟩
 have m31 := ChG.ext m18 k21 (fun k hk => .inl hk)
 refine ar ((x22) * 256) wN ?_
 refine mw (vp g 0) ?_
 refine cl wN (C_spec_l1Byte w3 g ca cc cb ⟨_, _, b26, (Rd.chP hcr m31 hcn), hcl, (by omega), hcn⟩) ?_
 rintro _ w4 ⟨x33, k32, ⟨i35, h36, b37, r38, l39, p40, n41⟩, rfl, q34⟩
 have m42 := ChG.ext m31 k32 (fun k hk => .inl hk)
 refine ar (((x22) * 256) + (x33)) wN ?_
 refine mw (vp g 0) ?_
 refine cl wN (C_spec_l1Below w4 g ca cc cb ⟨_, _, b37, (Rd.chP hcr m42 hcn), hcl, (by omega), hcn⟩ 65536) ?_
 rintro _ w5 ⟨x44, k43, ⟨i46, h47, b48, r49, l50, p51, n52⟩, rfl, q45⟩
 have m53 := ChG.ext m42 k43 (fun k hk => .inl hk)
 refine pu (va [(vi (((x22) * 256) + (x33))), (vi (x44))]) wN ?_
 have b54 := ((((b5.ch k8 (Ne.symm (Nat.ne_of_lt (Nat.lt_of_lt_of_le hgl (p2))))).ch k21 (Ne.symm (Nat.ne_of_lt (Nat.lt_of_lt_of_le hgl (p2))))).ch k32 (Ne.symm (Nat.ne_of_lt (Nat.lt_of_lt_of_le hgl (p2))))).ch k43 (Ne.symm (Nat.ne_of_lt (Nat.lt_of_lt_of_le hgl (p2)))))
 refine sv [(vi (((x22) * 256) + (x33))), (vi (x44))] wN sizeOf_25 b54 ?_
 intro w6 k55 b56 z57
 have m58 := ChG.ext m53 k55 (fun k hk => .inr (by subst hk; exact p2))
 refine n1 ?_
 refine ret_1 (.inl rfl) (va [(vi (((x22) * 256) + (x33))), (vi (x44))]) rfl (rv_c [(vi (((x22) * 256) + (x33))), (vi (x44))] rfl b56 isAgg_25 sizeOf_25) ?_
 have b59 := (b48.ch k55 (Nat.ne_of_lt (Nat.lt_of_lt_of_le hgl (p2))))
 exact ⟨{ Host := (((x22) * 256) + (x33)), Port := (x44) : PAddr }, m58, ⟨_, _, b59, (Rd.chP hcr m58 hcn), hcl, (by omega), hcn⟩, rfl, trivial⟩

theorem slTy_56 : SlTy Try.prog 56 3 1 8 (vi 0) := slTy Try.underlying56 (by kernel_rfl) rfl rfl
def N_56 (w : World) (g : Nat) (v : Value) (x : (List Int)) : Prop := ∃ (a1 : Option Addr) (c1 : Nat), v = .slice a1 x.length c1 ∧ Rd w 1 (.slice a1 x.length c1) x.length (x.map iV) ∧ x.length ≤ 1073741824 ∧ (0 < x.length → ∀ z, a1 = some z → z.block ≠ g)
theorem C_spec_l1Int (w0 : World) (g : Nat) (ca : Option Addr) (cc : Nat) (cb : List UInt8) (r_c : CurX w0 g 111 ca cc cb) (v_x_list : Value) (x_list : List Int) (r_x_list : N_56 w0 g v_x_list x_list) (pre0 : 0 < x_list.length) : Fn Try.prog 47 #[(vp g 0), v_x_list] w0 (fun v w' => ∃ x : (Int), Ch (fun k => k = g) w0 w' ∧ CurX w' g 111 ca cc cb ∧ O_3 w' w0.heap.size v x ∧ (x ∈ x_list)) := by
 obtain ⟨ci, chh, hcb, hcr, hcl, hci, hcn⟩ := r_c
 have hgl := Blk.lt hcb
 obtain ⟨a1, c2, rfl, r3, s4, n6⟩ := r_x_list
 refine fn_ofS (n := 12) [(vp g 0), (vs a1 x_list.length c2)] Try.func47 rfl rfl ?_
 refine sr ?_
 refine aw (vi 0) ?_
 refine nx ?_
 refine mw (vs a1 x_list.length c2) ?_
 refine mw (vp g 0) ?_
 refine mw (vs a1 x_list.length c2) ?_
 refine ln wN slTy_56 r3 ?_
 refine cl wN (C_spec_l1Below w0 g ca cc cb ⟨_, _, hcb, hcr, hcl, (by omega), hcn⟩ (x_list.length : Int)) ?_
 rintro _ w1 ⟨x8, k7, ⟨i10, h11, b12, r13, l14, p15, n16⟩, rfl, q9⟩
 have m17 := ChG.ext (Ch.refl (fun k => k = g) w0) k7 (fun k hk => .inl hk)
 refine ix wN (x8) slTy_56 (Rd.chP r3 m17 n6) ?_
 refine ei (x := x_list) (((x8)).toNat) wN isAgg_3 (Rd.chP r3 m17 n6) ?_
 refine aw (vi (x_list.getD ((x8)).toNat 0)) ?_
 refine n3 ?_
 refine rt (vi (x_list.getD ((x8)).toNat 0)) ?_
 exact ⟨(x_list.getD ((x8)).toNat 0), m17, ⟨_, _, b12, (Rd.chP hcr m17 hcn), hcl, (by omega), hcn⟩, rfl, (by exact getD_memI (by omega))⟩

def R_56 (w : World) (v : Value) (x : (List Int)) : Prop := ∃ (a1 : Option Addr) (c1 : Nat), v = .slice a1 x.length c1 ∧ Rd w 1 (.slice a1 x.length c1) x.length (x.map iV) ∧ x.length ≤ 1073741824
theorem C_spec_l1Odd (w0 : World) (g : Nat) (ca : Option Addr) (cc : Nat) (cb : List UInt8) (r_c : CurX w0 g 111 ca cc cb)  : Fn Try.prog 95 #[(vp g 0)] w0 (fun v w' => ∃ x : (Int), Ch (fun k => k = g) w0 w' ∧ CurX w' g 111 ca cc cb ∧ O_3 w' w0.heap.size v x ∧ (True)) := by
 obtain ⟨ci, chh, hcb, hcr, hcl, hci, hcn⟩ := r_c
 have hgl := Blk.lt hcb
 refine fn_ofS (n := 6) [(vp g 0)] Try.func95 rfl rfl ?_
 refine sr ?_
 refine aw (vi 0) ?_
 refine nx ?_
 refine mw (vp g 0) ?_
 refine ltI ([(-1), 0, 1, 2, 255, 256, 65535, 2147483647, 2147483648, 4294967295, 4294967296, (-2147483648), 9223372036854775807, (-9223372036854775808)] : List Int) wN slTy_56 ?_
 intro a1 c2 w1 k3 o4
 have m5 := ChG.extk (Ch.refl (fun k => k = g) w0) k3
 have b7 := (hcb.kp k3)
 refine cl wN (C_spec_l1Int w1 g ca cc cb ⟨_, _, b7, (Rd.chP hcr m5 hcn), hcl, (by omega), hcn⟩ _ ([(-1), 0, 1, 2, 255, 256, 65535, 2147483647, 2147483648, 4294967295, 4294967296, (-2147483648), 9223372036854775807, (-9223372036854775808)] : List Int) ⟨_, _, rfl, (Rd.of_own o4), (by simp), (fun _ z hz => by have h1 := (own_lt o4 z.block (by rw [hz]; rfl)).1; have h2 := Nat.lt_of_lt_of_le hgl (Nat.le_refl w0.heap.size); omega)⟩ (by simp)) ?_
 rintro _ w2 ⟨x9, k8, ⟨i11, h12, b13, r14, l15, p16, n17⟩, rfl, q10⟩
 have m18 := ChG.ext m5 k8 (fun k hk => .inl hk)
 have q10m : x9 = (-1) ∨ x9 = 0 ∨ x9 = 1 ∨ x9 = 2 ∨ x9 = 255 ∨ x9 = 256 ∨ x9 = 65535 ∨ x9 = 2147483647 ∨ x9 = 2147483648 ∨ x9 = 4294967295 ∨ x9 = 4294967296 ∨ x9 = (-2147483648) ∨ x9 = 9223372036854775807 ∨ x9 = (-9223372036854775808) := by simpa only [List.mem_cons, List.not_mem_nil, or_false] using q10
 refine aw (vi (x9)) ?_
 refine n3 ?_
 refine rt (vi (x9)) ?_
 exact ⟨(x9), m18, ⟨_, _, b13, (Rd.chP hcr m18 hcn), hcl, (by omega), hcn⟩, rfl, trivial⟩

theorem C_spec_l6Any (w0 : World) (g : Nat) (ca : Option Addr) (cc : Nat) (cb : List UInt8) (r_c : CurX w0 g 111 ca cc cb)  : Fn Try.prog 65 #[(vp g 0)] w0 (fun v w' => ∃ x : (PAddr), Ch (fun k => k = g) w0 w' ∧ CurX w' g 111 ca cc cb ∧ O_25 w' w0.heap.size v x ∧ (True)) := by
 obtain ⟨ci, chh, hcb, hcr, hcl, hci, hcn⟩ := r_c
 have hgl := Blk.lt hcb
 refine fn_ofS (n := 20) [(vp g 0)] Try.func65 rfl rfl ?_
 refine sr ?_
 refine al [(vi 0), (vi 0)] wN zero_25 ?_
 intro g1 w1 p2 p3 k4 b5
 have m6 := ChG.extk (Ch.refl (fun k => k = g) w0) k4
 refine nx ?_
 refine mw (vp g 0) ?_
 have b7 := (hcb.kp k4)
 refine cl wN (C_spec_l6Draw w1 g ca cc cb ⟨_, _, b7, (Rd.chP hcr m6 hcn), hcl, (by omega), hcn⟩) ?_
 rintro _ w2 ⟨x9, k8, ⟨i11, h12, b13, r14, l15, p16, n17⟩, rfl, q10⟩
 have m18 := ChG.ext m6 k8 (fun k hk => .inl hk)
 refine al [(vi 0), (vi 0)] wN zero_25 ?_
 intro g19 w3 p20 p21 k22 b23
 have m24 := ChG.extk m18 k22
 refine st (va (L_25 (x9))) (L_25 (x9)) (L_25 (x9)) wN sizeOf_25 b23 ?_
 intro w4 k25 b26 z27
 have m28 := ChG.ext m24 k25 (fun k hk => .inr (by subst hk; exact Nat.le_trans (z2 k4 k8) p20))
 refine n4 ?_
 refine mw (vp g 0) ?_
 have b29 := ((b13.kp k22).ch k25 (Nat.ne_of_lt (Nat.lt_of_lt_of_le hgl (Nat.le_trans (z2 k4 k8) p20))))
 refine cl wN (C_spec_l1Below w4 g ca cc cb ⟨_, _, b29, (Rd.chP hcr m28 hcn), hcl, (by omega), hcn⟩ 10) ?_
 rintro _ w5 ⟨x31, k30, ⟨i33, h34, b35, r36, l37, p38, n39⟩, rfl, q32⟩
 have m40 := ChG.ext m28 k30 (fun k hk => .inl hk)
 refine wl_nil <| wq_then <| wc_block <| sr ?_
 refine pu (vb (decide ((x31) = 0))) wN ?_
 refine aw (vb (decide ((x31) = 0))) ?_
 refine n2 ?_
 rcases bt (decide ((x31) = 0)) with h41 | h41
 ·have q42 := of_decide_eq_true h41
  refine ct h41 ?_
  refine wc_region ?_
  refine mw (vp g 0) ?_
  refine cl wN (C_spec_l1Odd w5 g ca cc cb ⟨_, _, b35, (Rd.chP hcr m40 hcn), hcl, (by omega), hcn⟩) ?_
  rintro _ w6 ⟨x44, k43, ⟨i46, h47, b48, r49, l50, p51, n52⟩, rfl, q45⟩
  have m53 := ChG.ext m40 k43 (fun k hk => .inl hk)
  refine pu (vp g19 0) wN ?_
  have b54 := ((b26.ch k30 (Ne.symm (Nat.ne_of_lt (Nat.lt_of_lt_of_le hgl (Nat.le_trans (z2 k4 k8) p20))))).ch k43 (Ne.symm (Nat.ne_of_lt (Nat.lt_of_lt_of_le hgl (Nat.le_trans (z2 k4 k8) p20)))))
  refine st (vi (x44)) [(vi (x44))] [(vi (x44)), (vi ((x9).Port))] wN sizeOf_3 b54 ?_
  intro w7 k55 b56 z57
  have m58 := ChG.ext m53 k55 (fun k hk => .inr (by subst hk; exact Nat.le_trans (z2 k4 k8) p20))
  refine wl_nil <| wq_blk_normal <| wq_then <| sr ?_
  refine lN [(vi (x44)), (vi ((x9).Port))] wN isAgg_25 sizeOf_25 b56 ?_
  have b59 := ((((((b5.ch k8 (Ne.symm (Nat.ne_of_lt (Nat.lt_of_lt_of_le hgl (p2))))).kp k22).ch k25 (Nat.ne_of_lt (Nat.lt_of_lt_of_le p3 (Nat.le_trans k8.size p20)))).ch k30 (Ne.symm (Nat.ne_of_lt (Nat.lt_of_lt_of_le hgl (p2))))).ch k43 (Ne.symm (Nat.ne_of_lt (Nat.lt_of_lt_of_le hgl (p2))))).ch k55 (Nat.ne_of_lt (Nat.lt_of_lt_of_le p3 (Nat.le_trans k8.size p20))))
  refine sv [(vi (x44)), (vi ((x9).Port))] wN sizeOf_25 b59 ?_
  intro w8 k60 b61 z62
  have m63 := ChG.ext m58 k60 (fun k hk => .inr (by subst hk; exact p2))
  refine n3 ?_
  refine ret_1 (.inl rfl) (va [(vi (x44)), (vi ((x9).Port))]) rfl (rv_c [(vi (x44)), (vi ((x9).Port))] rfl b61 isAgg_25 sizeOf_25) ?_
  have b64 := ((b48.ch k55 (Nat.ne_of_lt (Nat.lt_of_lt_of_le hgl (Nat.le_trans (z2 k4 k8) p20)))).ch k60 (Nat.ne_of_lt (Nat.lt_of_lt_of_le hgl (p2))))
  exact ⟨{ Host := (x44), Port := (x9).Port : PAddr }, m63, ⟨_, _, b64, (Rd.chP hcr m63 hcn), hcl, (by omega), hcn⟩, rfl, trivial⟩
 have q65 := of_decide_eq_false h41
 refine cf h41 ?_
 refine sr ?_
 refine pu (vb (decide ((x31) = 1))) wN ?_
 refine aw (vb (decide ((x31) = 1))) ?_
 refine n2 ?_
 rcases bf (decide ((x31) = 1)) with h66 | h66
 ·have q97 := of_decide_eq_false h66
  refine cf h66 ?_
  refine wc_skip <| wq_blk_normal <| wq_then <| sr ?_
  have b98 := (b26.ch k30 (Ne.symm (Nat.ne_of_lt (Nat.lt_of_lt_of_le hgl (Nat.le_trans (z2 k4 k8) p20)))))
  refine lN (L_25 (x9)) wN isAgg_25 sizeOf_25 b98 ?_
  have b99 := ((((b5.ch k8 (Ne.symm (Nat.ne_of_lt (Nat.lt_of_lt_of_le hgl (p2))))).kp k22).ch k25 (Nat.ne_of_lt (Nat.lt_of_lt_of_le p3 (Nat.le_trans k8.size p20)))).ch k30 (Ne.symm (Nat.ne_of_lt (Nat.lt_of_lt_of_le hgl (p2)))))
  refine st (va (L_25 (x9))) (L_25 (x9)) (L_25 (x9)) wN sizeOf_25 b99 ?_
  intro w6 k100 b101 z102
  have m103 := ChG.ext m40 k100 (fun k hk => .inr (by subst hk; exact p2))
  refine n3 ?_
  refine ret_1 (.inl rfl) (va (L_25 (x9))) rfl (rv_c (L_25 (x9)) rfl b101 isAgg_25 sizeOf_25) ?_
  have b104 := (b35.ch k100 (Nat.ne_of_lt (Nat.lt_of_lt_of_le hgl (p2))))
  exact ⟨(x9), m103, ⟨_, _, b104, (Rd.chP hcr m103 hcn), hcl, (by omega), hcn⟩, rfl, trivial⟩
 have q67 := of_decide_eq_true h66
 refine ct h66 ?_
 refine wc_region ?_
 refine mw (vp g 0) ?_
 refine ltI ([(-1), 65535, 65536, 0] : List Int) wN slTy_56 ?_
 intro a68 c69 w6 k70 o71
 have m72 := ChG.extk m40 k70
 have b74 := (b35.kp k70)
 refine cl wN (C_spec_l1Int w6 g ca cc cb ⟨_, _, b74, (Rd.chP hcr m72 hcn), hcl, (by omega), hcn⟩ _ ([(-1), 65535, 65536, 0] : List Int) ⟨_, _, rfl, (Rd.of_own o71), (by simp), (fun _ z hz => by have h1 := (own_lt o71 z.block (by rw [hz]; rfl)).1; have h2 := Nat.lt_of_lt_of_le hgl (z5 k4 k8 k22 k25 k30); omega)⟩ (by simp)) ?_
 rintro _ w7 ⟨x76, k75, ⟨i78, h79, b80, r81, l82, p83, n84⟩, rfl, q77⟩
 have m85 := ChG.ext m72 k75 (fun k hk => .inl hk)
 have q77m : x76 = (-1) ∨ x76 = 65535 ∨ x76 = 65536 ∨ x76 = 0 := by simpa only [List.mem_cons, List.not_mem_nil, or_false] using q77
 refine pu (vp g19 1) wN ?_
 have b86 := (((b26.ch k30 (Ne.symm (Nat.ne_of_lt (Nat.lt_of_lt_of_le hgl (Nat.le_trans (z2 k4 k8) p20))))).kp k70).ch k75 (Ne.symm (Nat.ne_of_lt (Nat.lt_of_lt_of_le hgl (Nat.le_trans (z2 k4 k8) p20)))))
 refine st (vi (x76)) [(vi (x76))] [(vi ((x9).Host)), (vi (x76))] wN sizeOf_3 b86 ?_
 intro w8 k87 b88 z89
 have m90 := ChG.ext m85 k87 (fun k hk => .inr (by subst hk; exact Nat.le_trans (z2 k4 k8) p20))
 refine wl_nil <| wq_blk_normal <| wq_then <| sr ?_
 refine lN [(vi ((x9).Host)), (vi (x76))] wN isAgg_25 sizeOf_25 b88 ?_
 have b91 := (((((((b5.ch k8 (Ne.symm (Nat.ne_of_lt (Nat.lt_of_lt_of_le hgl (p2))))).kp k22).ch k25 (Nat.ne_of_lt (Nat.lt_of_lt_of_le p3 (Nat.le_trans k8.size p20)))).ch k30 (Ne.symm (Nat.ne_of_lt (Nat.lt_of_lt_of_le hgl (p2))))).kp k70).ch k75 (Ne.symm (Nat.ne_of_lt (Nat.lt_of_lt_of_le hgl (p2))))).ch k87 (Nat.ne_of_lt (Nat.lt_of_lt_of_le p3 (Nat.le_trans k8.size p20))))
 refine sv [(vi ((x9).Host)), (vi (x76))] wN sizeOf_25 b91 ?_
 intro w9 k92 b93 z94
 have m95 := ChG.ext m90 k92 (fun k hk => .inr (by subst hk; exact p2))
 refine n3 ?_
 refine ret_1 (.inl rfl) (va [(vi ((x9).Host)), (vi (x76))]) rfl (rv_c [(vi ((x9).Host)), (vi (x76))] rfl b93 isAgg_25 sizeOf_25) ?_
 have b96 := ((b80.ch k87 (Nat.ne_of_lt (Nat.lt_of_lt_of_le hgl (Nat.le_trans (z2 k4 k8) p20)))).ch k92 (Nat.ne_of_lt (Nat.lt_of_lt_of_le hgl (p2))))
 exact ⟨{ Host := (x9).Host, Port := (x76) : PAddr }, m95, ⟨_, _, b96, (Rd.chP hcr m95 hcn), hcl, (by omega), hcn⟩, rfl, trivial⟩

theorem fieldAt_34_1 : ∀ a w, (Instr.fieldAt 34 (.pointer (some a)) 1).run Try.prog w = .ok (.pointer (some (a.add 2))) w := fun a w => by kernel_rfl
theorem sizeOf_22 : ∀ w, (sizeOf 22).run Try.prog w = .ok 1 w := fun w => by kernel_rfl
theorem C_spec_l16Any (w0 : World) (g : Nat) (ca : Option Addr) (cc : Nat) (cb : List UInt8) (r_c : CurX w0 g 111 ca cc cb)  : Fn Try.prog 46 #[(vp g 0)] w0 (fun v w' => ∃ x : (PPaths), Ch (fun k => k = g) w0 w' ∧ CurX w' g 111 ca cc cb ∧ O_28 w' w0.heap.size v x ∧ (∀ c ∈ x.Cands, c.Draw.length ≤ 100000)) := by
 obtain ⟨ci, chh, hcb, hcr, hcl, hci, hcn⟩ := r_c
 have hgl := Blk.lt hcb
 refine fn_ofS (n := 66) [(vp g 0)] Try.func46 rfl rfl ?_
 refine sr ?_
 refine al [(vi 0), (vi 0), (vs none 0 0)] wN zero_28 ?_
 intro g1 w1 p2 p3 k4 b5
 have m6 := ChG.extk (Ch.refl (fun k => k = g) w0) k4
 refine nx ?_
 refine mw (vp g 0) ?_
 have b7 := (hcb.kp k4)
 refine cl wN (C_spec_l16Draw w1 g ca cc cb ⟨_, _, b7, (Rd.chP hcr m6 hcn), hcl, (by omega), hcn⟩) ?_
 rintro _ w2 ⟨x9, k8, ⟨i17, h18, b19, r20, l21, p22, n23⟩, ⟨a11, c12, rfl, o13, s14, ap16⟩, q10⟩
 have m24 := ChG.ext m6 k8 (fun k hk => .inl hk)
 obtain ⟨y25, o26⟩ := OLv.ow o13
 refine al [(vi 0), (vi 0), (vs none 0 0)] wN zero_28 ?_
 intro g27 w3 p28 p29 k30 b31
 have m32 := ChG.extk m24 k30
 refine sv (L_28 (x9) a11 c12) wN sizeOf_28 b31 ?_
 intro w4 k33 b34 z35
 have m36 := ChG.ext m32 k33 (fun k hk => .inr (by subst hk; exact Nat.le_trans (z2 k4 k8) p28))
 refine n4 ?_
 refine pu (vp g27 2) wN ?_
 refine ld (vs a11 ((x9).Cands).length c12) wN isAgg_26 b34 ?_
 have o39 := (OLv.ch (OLv.kp o13 k30) k33 (fun g h1 h2 hk => by have h3 := Nat.le_trans (Nat.le_refl w2.heap.size) p28; omega))
 obtain ⟨y37, r38⟩ := RLv.row (OLv.rl o39)
 refine ln wN slTy_26 r38 ?_
 refine pu (vb (decide ((((x9).Cands).length : Int) = 0))) wN ?_
 refine mw (vb (decide ((((x9).Cands).length : Int) = 0))) ?_
 rcases bt (decide ((((x9).Cands).length : Int) = 0)) with h40 | h40
 ·have q41 := of_decide_eq_true h40
  iterate 2 refine sk h40 ?_
  refine pk (vb true) wN h40 ?_
  refine n2 ?_
  refine ct (Eq.refl true) ?_
  refine sr ?_
  refine lN (L_28 (x9) a11 c12) wN isAgg_28 sizeOf_28 b34 ?_
  have b42 := (((b5.ch k8 (Ne.symm (Nat.ne_of_lt (Nat.lt_of_lt_of_le hgl (p2))))).kp k30).ch k33 (Nat.ne_of_lt (Nat.lt_of_lt_of_le p3 (Nat.le_trans k8.size p28))))
  refine sv (L_28 (x9) a11 c12) wN sizeOf_28 b42 ?_
  intro w5 k43 b44 z45
  have m46 := ChG.ext m36 k43 (fun k hk => .inr (by subst hk; exact p2))
  refine n1 ?_
  have o47 := (OLv.ch o39 k43 (fun g h1 h2 hk => by have h3 := Nat.lt_of_lt_of_le p3 (Nat.le_refl w1.heap.size); omega))
  refine ret_1 (.inl rfl) (va (L_28 (x9) a11 c12)) rfl (rv_c (L_28 (x9) a11 c12) rfl b44 isAgg_28 sizeOf_28) ?_
  have b48 := (((b19.kp k30).ch k33 (Nat.ne_of_lt (Nat.lt_of_lt_of_le hgl (Nat.le_trans (z2 k4 k8) p28)))).ch k43 (Nat.ne_of_lt (Nat.lt_of_lt_of_le hgl (p2))))
  exact ⟨(x9), m46, ⟨_, _, b48, (Rd.chP hcr m46 hcn), hcl, (by omega), hcn⟩, ⟨_, _, rfl, (OLv.now (OLv.low o47 k4.size)), s14, ⟨trivial, trivial⟩⟩, (by first | assumption | (refine small_set (by assumption) ?_; first | exact small_el (by assumption) (by omega) | (simp only []; omega)))⟩
 have q49 := of_decide_eq_false h40
 refine mv (vp g 0) (wS h40) ?_
 have b50 := ((b19.kp k30).ch k33 (Nat.ne_of_lt (Nat.lt_of_lt_of_le hgl (Nat.le_trans (z2 k4 k8) p28))))
 refine cl (wS h40) (C_spec_l1Once w4 g ca cc cb ⟨_, _, b50, (Rd.chP hcr m36 hcn), hcl, (by omega), hcn⟩ 2) ?_
 rintro _ w5 ⟨x52, k51, ⟨i54, h55, b56, r57, l58, p59, n60⟩, rfl, q53⟩
 have m61 := ChG.ext m36 k51 (fun k hk => .inl hk)
 refine pf (vb (x52)) wN h40 ?_
 refine n2 ?_
 rcases bt x52 with h62 | h62
 ·refine ct h62 ?_
  refine sr ?_
  have b64 := (b34.ch k51 (Ne.symm (Nat.ne_of_lt (Nat.lt_of_lt_of_le hgl (Nat.le_trans (z2 k4 k8) p28)))))
  refine lN (L_28 (x9) a11 c12) wN isAgg_28 sizeOf_28 b64 ?_
  have b65 := ((((b5.ch k8 (Ne.symm (Nat.ne_of_lt (Nat.lt_of_lt_of_le hgl (p2))))).kp k30).ch k33 (Nat.ne_of_lt (Nat.lt_of_lt_of_le p3 (Nat.le_trans k8.size p28)))).ch k51 (Ne.symm (Nat.ne_of_lt (Nat.lt_of_lt_of_le hgl (p2)))))
  refine sv (L_28 (x9) a11 c12) wN sizeOf_28 b65 ?_
  intro w6 k66 b67 z68
  have m69 := ChG.ext m61 k66 (fun k hk => .inr (by subst hk; exact p2))
  refine n1 ?_
  have o70 := (OLv.ch (OLv.ch o39 k51 (fun g h1 h2 hk => by have h3 := Nat.lt_of_lt_of_le hgl k4.size; omega)) k66 (fun g h1 h2 hk => by have h3 := Nat.lt_of_lt_of_le p3 (Nat.le_refl w1.heap.size); omega))
  refine ret_1 (.inl rfl) (va (L_28 (x9) a11 c12)) rfl (rv_c (L_28 (x9) a11 c12) rfl b67 isAgg_28 sizeOf_28) ?_
  have b71 := (b56.ch k66 (Nat.ne_of_lt (Nat.lt_of_lt_of_le hgl (p2))))
  exact ⟨(x9), m69, ⟨_, _, b71, (Rd.chP hcr m69 hcn), hcl, (by omega), hcn⟩, ⟨_, _, rfl, (OLv.now (OLv.low o70 k4.size)), s14, ⟨trivial, trivial⟩⟩, (by first | assumption | (refine small_set (by assumption) ?_; first | exact small_el (by assumption) (by omega) | (simp only []; omega)))⟩
 refine cf h62 ?_
 refine y1 ?_
 refine mw (vp g 0) ?_
 refine pu (vp g27 2) wN ?_
 have b73 := (b34.ch k51 (Ne.symm (Nat.ne_of_lt (Nat.lt_of_lt_of_le hgl (Nat.le_trans (z2 k4 k8) p28)))))
 refine ld (vs a11 ((x9).Cands).length c12) wN isAgg_26 b73 ?_
 have o76 := (OLv.ch o39 k51 (fun g h1 h2 hk => by have h3 := Nat.lt_of_lt_of_le hgl k4.size; omega))
 obtain ⟨y74, r75⟩ := RLv.row (OLv.rl o76)
 refine ln wN slTy_26 r75 ?_
 refine cl wN (C_spec_l1Below w5 g ca cc cb ⟨_, _, b56, (Rd.chP hcr m61 hcn), hcl, (by omega), hcn⟩ (((x9).Cands).length : Int)) ?_
 rintro _ w6 ⟨x78, k77, ⟨i80, h81, b82, r83, l84, p85, n86⟩, rfl, q79⟩
 have m87 := ChG.ext m61 k77 (fun k hk => .inl hk)
 refine aw (vi (x78)) ?_
 refine n4 ?_
 refine mw (vp g 0) ?_
 refine cl wN (C_spec_l1Below w6 g ca cc cb ⟨_, _, b82, (Rd.chP hcr m87 hcn), hcl, (by omega), hcn⟩ 6) ?_
 rintro _ w7 ⟨x89, k88, ⟨i91, h92, b93, r94, l95, p96, n97⟩, rfl, q90⟩
 have m98 := ChG.ext m87 k88 (fun k hk => .inl hk)
 refine wl_nil <| wq_then <| wc_block <| sr ?_
 refine pu (vb (decide ((x89) = 0))) wN ?_
 refine aw (vb (decide ((x89) = 0))) ?_
 refine n2 ?_
 rcases bt (decide ((x89) = 0)) with h99 | h99
 ·have q100 := of_decide_eq_true h99
  refine ct h99 ?_
  refine wc_region ?_
  refine mw (vp g 0) ?_
  refine cl wN (C_spec_l6Any w7 g ca cc cb ⟨_, _, b93, (Rd.chP hcr m98 hcn), hcl, (by omega), hcn⟩) ?_
  rintro _ w8 ⟨x102, k101, ⟨i104, h105, b106, r107, l108, p109, n110⟩, rfl, q103⟩
  have m111 := ChG.ext m98 k101 (fun k hk => .inl hk)
  refine pu (vp g27 0) wN ?_
  have zz3 := Nat.le_trans (z2 k4 k8) p28
  have b112 := (((b73.ch k77 (Ne.symm (Nat.ne_of_lt (Nat.lt_of_lt_of_le hgl zz3)))).ch k88 (Ne.symm (Nat.ne_of_lt (Nat.lt_of_lt_of_le hgl zz3)))).ch k101 (Ne.symm (Nat.ne_of_lt (Nat.lt_of_lt_of_le hgl zz3))))
  refine st (va (L_25 (x102))) (L_25 (x102)) [(vi ((x102).Host)), (vi ((x102).Port)), (vs a11 ((x9).Cands).length c12)] wN sizeOf_25 b112 ?_
  intro w9 k113 b114 z115
  have m116 := ChG.ext m111 k113 (fun k hk => .inr (by subst hk; exact Nat.le_trans (z2 k4 k8) p28))
  refine wl_nil <| wq_blk_normal <| wq_then <| sr ?_
  refine lN [(vi ((x102).Host)), (vi ((x102).Port)), (vs a11 ((x9).Cands).length c12)] wN isAgg_28 sizeOf_28 b114 ?_
  have b117 := ((((((((b5.ch k8 (Ne.symm (Nat.ne_of_lt (Nat.lt_of_lt_of_le hgl (p2))))).kp k30).ch k33 (Nat.ne_of_lt (Nat.lt_of_lt_of_le p3 (Nat.le_trans k8.size p28)))).ch k51 (Ne.symm (Nat.ne_of_lt (Nat.lt_of_lt_of_le hgl (p2))))).ch k77 (Ne.symm (Nat.ne_of_lt (Nat.lt_of_lt_of_le hgl (p2))))).ch k88 (Ne.symm (Nat.ne_of_lt (Nat.lt_of_lt_of_le hgl (p2))))).ch k101 (Ne.symm (Nat.ne_of_lt (Nat.lt_of_lt_of_le hgl (p2))))).ch k113 (Nat.ne_of_lt (Nat.lt_of_lt_of_le p3 (Nat.le_trans k8.size p28))))
  refine sv [(vi ((x102).Host)), (vi ((x102).Port)), (vs a11 ((x9).Cands).length c12)] wN sizeOf_28 b117 ?_
  intro w10 k118 b119 z120
  have m121 := ChG.ext m116 k118 (fun k hk => .inr (by subst hk; exact p2))
  refine n3 ?_
  have o122 := (OLv.ch (OLv.ch (OLv.ch (OLv.ch (OLv.ch o76 k77 (fun g h1 h2 hk => by have h3 := Nat.lt_of_lt_of_le hgl k4.size; omega)) k88 (fun g h1 h2 hk => by have h3 := Nat.lt_of_lt_of_le hgl k4.size; omega)) k101 (fun g h1 h2 hk => by have h3 := Nat.lt_of_lt_of_le hgl k4.size; omega)) k113 (fun g h1 h2 hk => by have h3 := Nat.le_trans (Nat.le_refl w2.heap.size) p28; omega)) k118 (fun g h1 h2 hk => by have h3 := Nat.lt_of_lt_of_le p3 (Nat.le_refl w1.heap.size); omega))
  refine ret_1 (.inl rfl) (va [(vi ((x102).Host)), (vi ((x102).Port)), (vs a11 ((x9).Cands).length c12)]) rfl (rv_c [(vi ((x102).Host)), (vi ((x102).Port)), (vs a11 ((x9).Cands).length c12)] rfl b119 isAgg_28 sizeOf_28) ?_
  have b123 := ((b106.ch k113 (Nat.ne_of_lt (Nat.lt_of_lt_of_le hgl (Nat.le_trans (z2 k4 k8) p28)))).ch k118 (Nat.ne_of_lt (Nat.lt_of_lt_of_le hgl (p2))))
  exact ⟨{ At := (x102), Cands := (x9).Cands : PPaths }, m121, ⟨_, _, b123, (Rd.chP hcr m121 hcn), hcl, (by omega), hcn⟩, ⟨_, _, rfl, (OLv.now (OLv.low o122 k4.size)), s14, ⟨trivial, trivial⟩⟩, (by first | assumption | (refine small_set (by assumption) ?_; first | exact small_el (by assumption) (by omega) | (simp only []; omega)))⟩
 have q124 := of_decide_eq_false h99
 refine cf h99 ?_
 refine sr ?_
 refine pu (vb (decide ((x89) = 1))) wN ?_
 refine aw (vb (decide ((x89) = 1))) ?_
 refine n2 ?_
 rcases bt (decide ((x89) = 1)) with h125 | h125
 ·have q126 := of_decide_eq_true h125
  refine ct h125 ?_
  have o157 := (OLv.ch (OLv.ch o76 k77 (fun g h1 h2 hk => by have h3 := Nat.lt_of_lt_of_le hgl k4.size; omega)) k88 (fun g h1 h2 hk => by have h3 := Nat.lt_of_lt_of_le hgl k4.size; omega))
  obtain ⟨y158, l159, r160, e161, u162⟩ := OLv.el z_PCand (i := ((x78)).toNat) o157 (by first | omega | (simp only [List.length_cons, List.length_nil, List.length_replicate, List.length_append, List.length_take, List.length_set, List.length_map]; omega))
  obtain ⟨a163, c164, l168, rfl, r165, s166, u169⟩ := SubO.c u162
  obtain rfl := SubO.n u169
  refine wc_drawT ([(30, [], [], (fun _ v _ => v = (vp g27 2))), (31, [], [0], (fun _ v _ => v = (vs a11 ((x9).Cands).length c12))), (32, [], [], (fun _ v _ => v = (vi (x78)))), (33, [], [], (fun _ v _ => v = (vp g 0))), (34, [], [3], (fun _ v _ => ∃ x171 : PAddr, v = (va (L_25 x171)) ∧ True))] : GV) (fun lf w' => Ch (fun k => k = g) w7 w' ∧ CurX w' g 111 ca cc cb) [(4, fun w w' => Ch (fun k => k = g) w w' ∧ (CurX w g 111 ca cc cb → CurX w' g 111 ca cc cb))] mixed rfl (by kernel_rfl) (by kernel_rfl) ?_ (fun _ _ h => ⟨h.to _, CurX.kp ⟨_, _, b93, (Rd.chP hcr m98 hcn), hcl, (by omega), hcn⟩ h⟩) (fun _ _ _ _ h mo k => by obtain ⟨hc, hcur⟩ := h; exact ⟨hc.comp k (fun _ _ q => q.elim), hcur.kp k⟩) ⟨(fun _ _ w w' h mo hj t => by obtain ⟨hc, hcur⟩ := h; exact ⟨hc.comp t.1 (fun _ _ q => q), t.2 hcur⟩), trivial⟩ ?_ ?_ ?_
  ·exact ⟨hV, hE, ⟨hV, hE, ⟨hV, hE, ⟨hV, hE, ⟨hV, hE, trivial⟩⟩⟩⟩⟩
  ·exact ⟨⟨.inr hV, ⟨.inr hV, ⟨.inr hV, ⟨.inr hV, ⟨.inl rfl, trivial⟩⟩⟩⟩⟩, trivial⟩
  ·refine ⟨?_, ⟨?_, ⟨?_, ⟨?_, ⟨?_, trivial⟩⟩⟩⟩⟩
   ·rintro lf w8 ⟨k172, ⟨i174, h175, b176, r177, l178, p179, n180⟩⟩ ⟨n173, -⟩
    rintro _ _ _ _ _
    show WL _ _ _ _ _ _ _
    refine pu (vp g27 2) wN ?_
    exact f1
   ·rintro lf w8 ⟨k182, ⟨i184, h185, b186, r187, l188, p189, n190⟩⟩ ⟨n183, -⟩
    rintro _ rfl _ _ _ _
    show WL _ _ _ _ _ _ _
    have zz4 := Nat.le_trans (z2 k4 k8) p28
    have b192 := (((b73.ch k77 (Ne.symm (Nat.ne_of_lt (Nat.lt_of_lt_of_le hgl zz4)))).ch k88 (Ne.symm (Nat.ne_of_lt (Nat.lt_of_lt_of_le hgl zz4)))).ch k182 (Ne.symm (Nat.ne_of_lt (Nat.lt_of_lt_of_le hgl zz4))))
    refine ld (vs a11 ((x9).Cands).length c12) wN isAgg_26 b192 ?_
    exact f1
   ·rintro lf w8 ⟨k193, ⟨i195, h196, b197, r198, l199, p200, n201⟩⟩ ⟨n194, -⟩
    rintro _ _ _ _ _
    show WL _ _ _ _ _ _ _
    refine mw (vi (x78)) ?_
    exact f1
   ·rintro lf w8 ⟨k203, ⟨i205, h206, b207, r208, l209, p210, n211⟩⟩ ⟨n204, -⟩
    rintro _ _ _ _ _
    show WL _ _ _ _ _ _ _
    refine mw (vp g 0) ?_
    exact f1
   ·rintro lf w8 ⟨k213, ⟨i215, h216, b217, r218, l219, p220, n221⟩⟩ ⟨n214, -⟩
    have m222 := ChG.ext m98 k213 (fun k hk => .inl hk)
    rintro _ _ _ _ rfl _
    show WL _ _ _ _ _ _ _
    refine cl wN (C_spec_l6Any w8 g ca cc cb ⟨_, _, b217, (Rd.chP hcr m222 hcn), hcl, (by omega), hcn⟩) ?_
    rintro _ w9 ⟨x224, k223, ⟨i226, h227, b228, r229, l230, p231, n232⟩, rfl, q225⟩
    have m233 := ChG.ext m222 k223 (fun k hk => .inl hk)
    exact wl_finT ⟨k223, fun _ => ⟨_, _, b228, (Rd.chP hcr m233 hcn), hcl, (by omega), hcn⟩⟩ ⟨_, rfl, trivial⟩
  ·rintro lf w8 ⟨k234, ⟨i236, h237, b238, r239, l240, p241, n242⟩⟩
   have m243 := ChG.ext m98 k234 (fun k hk => .inl hk)
   rintro _ rfl _ rfl _ rfl _ rfl _ ⟨x171, rfl, q245⟩
   show WL _ _ _ _ _ _ _
   have o248 := (OLv.ch o157 k234 (fun g h1 h2 hk => by have h3 := Nat.lt_of_lt_of_le hgl k4.size; omega))
   obtain ⟨y246, r247⟩ := RLv.row (OLv.rl o248)
   refine ix wN (x78) slTy_26 r247 ?_
   obtain ⟨y249, l250, r251, e252, u253⟩ := OLv.el z_PCand (i := ((x78)).toNat) o248 (by first | omega | (simp only [List.length_cons, List.length_nil, List.length_replicate, List.length_append, List.length_take, List.length_set, List.length_map]; omega))
   obtain ⟨a254, c255, l259, rfl, r256, s257, u260⟩ := SubO.c u253
   obtain rfl := SubO.n u260
   refine wl_fieldE wN rfl rfl rfl fieldAt_34_0 rfl r251 (by omega) ?_
   refine wl_setI z_PCand (((x78)).toNat) 0 { A := x171, Draw := ((((x9).Cands).getD ((x78)).toNat z_PCand).Draw), Until := ((((x9).Cands).getD ((x78)).toNat z_PCand).Until) : PCand } wN o248 (by first | omega | (simp only [List.length_cons, List.length_nil, List.length_replicate, List.length_append, List.length_take, List.length_set, List.length_map]; omega)) (us := (L_25 x171)) rfl (fun _ => rfl) (one_cons rfl (one_cons rfl one_nil)) (Nat.le_of_ble_eq_true rfl) (Nat.le_of_ble_eq_true rfl) sizeOf_25 ?_ (by first | rfl | simp | omega)
   intro w9 k261 o262
   have m263 := ChG.ext m243 k261 (fun k hk => .inr (Nat.le_trans k4.size (own_lt o26 k hk).1))
   refine wl_nil <| wq_blk_normal <| wq_then <| sr ?_
   have zz5 := Nat.le_trans (z2 k4 k8) p28
   have b264 := ((((b73.ch k77 (Ne.symm (Nat.ne_of_lt (Nat.lt_of_lt_of_le hgl zz5)))).ch k88 (Ne.symm (Nat.ne_of_lt (Nat.lt_of_lt_of_le hgl zz5)))).ch k234 (Ne.symm (Nat.ne_of_lt (Nat.lt_of_lt_of_le hgl zz5)))).ch k261 (fun h => by have := (own_lt o26 _ h).2; have := Nat.le_trans (Nat.le_refl w2.heap.size) p28; omega))
   refine lN [(vi (((x9).At).Host)), (vi (((x9).At).Port)), (vs a11 ((x9).Cands).length c12)] wN isAgg_28 sizeOf_28 b264 ?_
   have b265 := ((((((((b5.ch k8 (Ne.symm (Nat.ne_of_lt (Nat.lt_of_lt_of_le hgl (p2))))).kp k30).ch k33 (Nat.ne_of_lt (Nat.lt_of_lt_of_le p3 (Nat.le_trans k8.size p28)))).ch k51 (Ne.symm (Nat.ne_of_lt (Nat.lt_of_lt_of_le hgl (p2))))).ch k77 (Ne.symm (Nat.ne_of_lt (Nat.lt_of_lt_of_le hgl (p2))))).ch k88 (Ne.symm (Nat.ne_of_lt (Nat.lt_of_lt_of_le hgl (p2))))).ch k234 (Ne.symm (Nat.ne_of_lt (Nat.lt_of_lt_of_le hgl (p2))))).ch k261 (fun h => by have := (own_lt o26 _ h).1; have := Nat.lt_of_lt_of_le p3 (Nat.le_refl w1.heap.size); omega))
   refine sv [(vi (((x9).At).Host)), (vi (((x9).At).Port)), (vs a11 ((x9).Cands).length c12)] wN sizeOf_28 b265 ?_
   intro w10 k266 b267 z268
   have m269 := ChG.ext m263 k266 (fun k hk => .inr (by subst hk; exact p2))
   refine n3 ?_
   have o270 := (OLv.ch o262 k266 (fun g h1 h2 hk => by have h3 := Nat.lt_of_lt_of_le p3 (Nat.le_refl w1.heap.size); omega))
   refine ret_1 (.inl rfl) (va [(vi (((x9).At).Host)), (vi (((x9).At).Port)), (vs a11 ((x9).Cands).length c12)]) rfl (rv_c [(vi (((x9).At).Host)), (vi (((x9).At).Port)), (vs a11 ((x9).Cands).length c12)] rfl b267 isAgg_28 sizeOf_28) ?_
   have hN271 : ((x9).Cands).length = ((((x9).Cands).set (((x78)).toNat) { A := x171, Draw := ((((x9).Cands).getD ((x78)).toNat z_PCand).Draw), Until := ((((x9).Cands).getD ((x78)).toNat z_PCand).Until) : PCand })).length := by first | (simp only [List.length_append, List.length_take, List.length_replicate, List.length_set, List.length_map]; done) | (simp only [List.length_append, List.length_take, List.length_replicate, List.length_set, List.length_map]; omega)
   rw [hN271] at o270 ⊢
   have b272 := ((b238.ch k261 (fun h => by have := (own_lt o26 _ h).1; have := Nat.lt_of_lt_of_le hgl k4.size; omega)).ch k266 (Nat.ne_of_lt (Nat.lt_of_lt_of_le hgl (p2))))
   exact ⟨{ At := ((x9).At), Cands := (((x9).Cands).set (((x78)).toNat) { A := x171, Draw := ((((x9).Cands).getD ((x78)).toNat z_PCand).Draw), Until := ((((x9).Cands).getD ((x78)).toNat z_PCand).Until) : PCand }) : PPaths }, m269, ⟨_, _, b272, (Rd.chP hcr m269 hcn), hcl, (by omega), hcn⟩, ⟨_, _, rfl, (OLv.now (OLv.low o270 k4.size)), (by rw [← hN271]; exact s14), ⟨trivial, trivial⟩⟩, (by first | assumption | (refine small_set (by assumption) ?_; first | exact small_el (by assumption) (by omega) | (simp only []; omega)))⟩
 have q273 := of_decide_eq_false h125
 refine cf h125 ?_
 refine sr ?_
 refine pu (vb (decide ((x89) = 2))) wN ?_
 refine aw (vb (decide ((x89) = 2))) ?_
 refine n2 ?_
 rcases bt (decide ((x89) = 2)) with h274 | h274
 ·have q275 := of_decide_eq_true h274
  refine ct h274 ?_
  have o312 := (OLv.ch (OLv.ch o76 k77 (fun g h1 h2 hk => by have h3 := Nat.lt_of_lt_of_le hgl k4.size; omega)) k88 (fun g h1 h2 hk => by have h3 := Nat.lt_of_lt_of_le hgl k4.size; omega))
  obtain ⟨y313, l314, r315, e316, u317⟩ := OLv.el z_PCand (i := ((x78)).toNat) o312 (by first | omega | (simp only [List.length_cons, List.length_nil, List.length_replicate, List.length_append, List.length_take, List.length_set, List.length_map]; omega))
  obtain ⟨a318, c319, l323, rfl, r320, s321, u324⟩ := SubO.c u317
  obtain rfl := SubO.n u324
  refine wc_drawT ([(39, [], [], (fun _ v _ => v = (vp g27 2))), (40, [], [0], (fun _ v _ => v = (vs a11 ((x9).Cands).length c12))), (41, [], [], (fun _ v _ => v = (vi (x78)))), (42, [], [], (fun _ v _ => v = (vp g 0))), (43, [], [3], (fun _ v w => ∃ (x326 : List UInt8) (a1 : Option Addr) (c1 : Nat), v = .slice a1 x326.length c1 ∧ w.ownsRow w7.heap.size 5 1 (.slice a1 x326.length c1) x326.length (x326.map bV) ∧ x326.length ≤ 1073741824 ∧ x326.length = (11 : Int).toNat))] : GV) (fun lf w' => Ch (fun k => k = g) w7 w' ∧ CurX w' g 111 ca cc cb) [(4, fun w w' => Ch (fun k => k = g) w w' ∧ (CurX w g 111 ca cc cb → CurX w' g 111 ca cc cb))] mixed rfl (by kernel_rfl) (by kernel_rfl) ?_ (fun _ _ h => ⟨h.to _, CurX.kp ⟨_, _, b93, (Rd.chP hcr m98 hcn), hcl, (by omega), hcn⟩ h⟩) (fun _ _ _ _ h mo k => by obtain ⟨hc, hcur⟩ := h; exact ⟨hc.comp k (fun _ _ q => q.elim), hcur.kp k⟩) ⟨(fun _ _ w w' h mo hj t => by obtain ⟨hc, hcur⟩ := h; exact ⟨hc.comp t.1 (fun _ _ q => q), t.2 hcur⟩), trivial⟩ ?_ ?_ ?_
  ·exact ⟨hV, hE, ⟨hV, hE, ⟨hV, hE, ⟨hV, hE, ⟨(fun e v w w1 h hk => by obtain ⟨x0x, a0x, c0x, he, o0x, l0x, p0x⟩ := h; exact ⟨x0x, a0x, c0x, he, own_kp o0x hk, l0x, p0x⟩), hE, trivial⟩⟩⟩⟩⟩
  ·exact ⟨⟨.inr hV, ⟨.inr hV, ⟨.inr hV, ⟨.inr hV, ⟨.inl rfl, trivial⟩⟩⟩⟩⟩, trivial⟩
  ·refine ⟨?_, ⟨?_, ⟨?_, ⟨?_, ⟨?_, trivial⟩⟩⟩⟩⟩
   ·rintro lf w8 ⟨k328, ⟨i330, h331, b332, r333, l334, p335, n336⟩⟩ ⟨n329, -⟩
    rintro _ _ _ _ _
    show WL _ _ _ _ _ _ _
    refine pu (vp g27 2) wN ?_
    exact f1
   ·rintro lf w8 ⟨k338, ⟨i340, h341, b342, r343, l344, p345, n346⟩⟩ ⟨n339, -⟩
    rintro _ rfl _ _ _ _
    show WL _ _ _ _ _ _ _
    have zz6 := Nat.le_trans (z2 k4 k8) p28
    have b348 := (((b73.ch k77 (Ne.symm (Nat.ne_of_lt (Nat.lt_of_lt_of_le hgl zz6)))).ch k88 (Ne.symm (Nat.ne_of_lt (Nat.lt_of_lt_of_le hgl zz6)))).ch k338 (Ne.symm (Nat.ne_of_lt (Nat.lt_of_lt_of_le hgl zz6))))
    refine ld (vs a11 ((x9).Cands).length c12) wN isAgg_26 b348 ?_
    exact f1
   ·rintro lf w8 ⟨k349, ⟨i351, h352, b353, r354, l355, p356, n357⟩⟩ ⟨n350, -⟩
    rintro _ _ _ _ _
    show WL _ _ _ _ _ _ _
    refine mw (vi (x78)) ?_
    exact f1
   ·rintro lf w8 ⟨k359, ⟨i361, h362, b363, r364, l365, p366, n367⟩⟩ ⟨n360, -⟩
    rintro _ _ _ _ _
    show WL _ _ _ _ _ _ _
    refine mw (vp g 0) ?_
    exact f1
   ·rintro lf w8 ⟨k369, ⟨i371, h372, b373, r374, l375, p376, n377⟩⟩ ⟨n370, -⟩
    have m378 := ChG.ext m98 k369 (fun k hk => .inl hk)
    rintro _ _ _ _ rfl _
    show WL _ _ _ _ _ _ _
    refine cl wN (C_spec_l1Bytes w8 g ca cc cb ⟨_, _, b373, (Rd.chP hcr m378 hcn), hcl, (by omega), hcn⟩ 11 (by omega)) ?_
    rintro _ w9 ⟨x380, k379, ⟨i388, h389, b390, r391, l392, p393, n394⟩, ⟨a382, c383, rfl, o384, s385, ap387⟩, q381⟩
    have m395 := ChG.ext m378 k379 (fun k hk => .inl hk)
    exact wl_finT ⟨k379, fun _ => ⟨_, _, b390, (Rd.chP hcr m395 hcn), hcl, (by omega), hcn⟩⟩ ⟨_, _, _, rfl, own_lo o384 k369.size, s385, q381⟩
  ·rintro lf w8 ⟨k396, ⟨i398, h399, b400, r401, l402, p403, n404⟩⟩
   have m405 := ChG.ext m98 k396 (fun k hk => .inl hk)
   rintro _ rfl _ rfl _ rfl _ rfl _ ⟨x326, a408, c409, rfl, o410, s411, q407⟩
   show WL _ _ _ _ _ _ _
   have o415 := (OLv.ch o312 k396 (fun g h1 h2 hk => by have h3 := Nat.lt_of_lt_of_le hgl k4.size; omega))
   obtain ⟨y413, r414⟩ := RLv.row (OLv.rl o415)
   refine ix wN (x78) slTy_26 r414 ?_
   obtain ⟨y416, l417, r418, e419, u420⟩ := OLv.el z_PCand (i := ((x78)).toNat) o415 (by first | omega | (simp only [List.length_cons, List.length_nil, List.length_replicate, List.length_append, List.length_take, List.length_set, List.length_map]; omega))
   obtain ⟨a421, c422, l426, rfl, r423, s424, u427⟩ := SubO.c u420
   obtain rfl := SubO.n u427
   refine wl_fieldE wN rfl rfl rfl fieldAt_34_1 rfl r418 (by omega) ?_
   refine wl_setP z_PCand (((x78)).toNat) 2 { A := ((((x9).Cands).getD ((x78)).toNat z_PCand).A), Draw := x326, Until := (((x9).Cands).getD ((x78)).toNat z_PCand).Until : PCand } [(a408, c409)] wN o415 ⟨⟨(own_lo o410 (z5 k30 k33 k51 k77 k88)), s411⟩, trivial⟩ ⟨trivial, trivial⟩ (Nat.le_refl _) k8.size (by first | omega | (simp only [List.length_cons, List.length_nil, List.length_replicate, List.length_append, List.length_take, List.length_set, List.length_map]; omega)) (us := [(vs a408 x326.length c409)]) (fun _ => rfl) (one_cons rfl one_nil) (Nat.le_of_ble_eq_true rfl) (Nat.le_of_ble_eq_true rfl) sizeOf_22 ?_ (by first | rfl | simp | omega)
   intro w9 k428 o429
   have m430 := ChG.ext m405 k428 (fun k hk => .inr (Nat.le_trans k4.size (own_lt o26 k hk).1))
   refine wl_nil <| wq_blk_normal <| wq_then <| sr ?_
   have zz7 := Nat.le_trans (z2 k4 k8) p28
   have b431 := ((((b73.ch k77 (Ne.symm (Nat.ne_of_lt (Nat.lt_of_lt_of_le hgl zz7)))).ch k88 (Ne.symm (Nat.ne_of_lt (Nat.lt_of_lt_of_le hgl zz7)))).ch k396 (Ne.symm (Nat.ne_of_lt (Nat.lt_of_lt_of_le hgl zz7)))).ch k428 (fun h => by have := (own_lt o26 _ h).2; have := Nat.le_trans (Nat.le_refl w2.heap.size) p28; omega))
   refine lN [(vi (((x9).At).Host)), (vi (((x9).At).Port)), (vs a11 ((x9).Cands).length c12)] wN isAgg_28 sizeOf_28 b431 ?_
   have b432 := ((((((((b5.ch k8 (Ne.symm (Nat.ne_of_lt (Nat.lt_of_lt_of_le hgl (p2))))).kp k30).ch k33 (Nat.ne_of_lt (Nat.lt_of_lt_of_le p3 (Nat.le_trans k8.size p28)))).ch k51 (Ne.symm (Nat.ne_of_lt (Nat.lt_of_lt_of_le hgl (p2))))).ch k77 (Ne.symm (Nat.ne_of_lt (Nat.lt_of_lt_of_le hgl (p2))))).ch k88 (Ne.symm (Nat.ne_of_lt (Nat.lt_of_lt_of_le hgl (p2))))).ch k396 (Ne.symm (Nat.ne_of_lt (Nat.lt_of_lt_of_le hgl (p2))))).ch k428 (fun h => by have := (own_lt o26 _ h).1; have := Nat.lt_of_lt_of_le p3 (Nat.le_refl w1.heap.size); omega))
   refine sv [(vi (((x9).At).Host)), (vi (((x9).At).Port)), (vs a11 ((x9).Cands).length c12)] wN sizeOf_28 b432 ?_
   intro w10 k433 b434 z435
   have m436 := ChG.ext m430 k433 (fun k hk => .inr (by subst hk; exact p2))
   refine n3 ?_
   have o437 := (OLv.ch o429 k433 (fun g h1 h2 hk => by have h3 := Nat.lt_of_lt_of_le p3 (Nat.le_refl w1.heap.size); omega))
   refine ret_1 (.inl rfl) (va [(vi (((x9).At).Host)), (vi (((x9).At).Port)), (vs a11 ((x9).Cands).length c12)]) rfl (rv_c [(vi (((x9).At).Host)), (vi (((x9).At).Port)), (vs a11 ((x9).Cands).length c12)] rfl b434 isAgg_28 sizeOf_28) ?_
   have hN438 : ((x9).Cands).length = ((((x9).Cands).set (((x78)).toNat) { A := ((((x9).Cands).getD ((x78)).toNat z_PCand).A), Draw := x326, Until := (((x9).Cands).getD ((x78)).toNat z_PCand).Until : PCand })).length := by first | (simp only [List.length_append, List.length_take, List.length_replicate, List.length_set, List.length_map]; done) | (simp only [List.length_append, List.length_take, List.length_replicate, List.length_set, List.length_map]; omega)
   rw [hN438] at o437 ⊢
   have b439 := ((b400.ch k428 (fun h => by have := (own_lt o26 _ h).1; have := Nat.lt_of_lt_of_le hgl k4.size; omega)).ch k433 (Nat.ne_of_lt (Nat.lt_of_lt_of_le hgl (p2))))
   exact ⟨{ At := ((x9).At), Cands := (((x9).Cands).set (((x78)).toNat) { A := ((((x9).Cands).getD ((x78)).toNat z_PCand).A), Draw := x326, Until := (((x9).Cands).getD ((x78)).toNat z_PCand).Until : PCand }) : PPaths }, m436, ⟨_, _, b439, (Rd.chP hcr m436 hcn), hcl, (by omega), hcn⟩, ⟨_, _, rfl, (OLv.now (OLv.low o437 k4.size)), (by rw [← hN438]; exact s14), ⟨trivial, trivial⟩⟩, (by first | assumption | (refine small_set (by assumption) ?_; first | exact small_el (by assumption) (by omega) | (simp only []; omega)))⟩
 have q440 := of_decide_eq_false h274
 refine cf h274 ?_
 refine sr ?_
 refine pu (vb (decide ((x89) = 3))) wN ?_
 refine aw (vb (decide ((x89) = 3))) ?_
 refine n2 ?_
 rcases bf (decide ((x89) = 3)) with h441 | h441
 ·have q628 := of_decide_eq_false h441
  refine cf h441 ?_
  refine sr ?_
  refine pu (vb (decide ((x89) = 4))) wN ?_
  refine aw (vb (decide ((x89) = 4))) ?_
  refine n2 ?_
  rcases bf (decide ((x89) = 4)) with h629 | h629
  ·have q658 := of_decide_eq_false h629
   refine cf h629 ?_
   refine wc_skip <| wq_blk_normal <| wq_then <| sr ?_
   have b659 := ((b73.ch k77 (Ne.symm (Nat.ne_of_lt (Nat.lt_of_lt_of_le hgl (Nat.le_trans (z2 k4 k8) p28))))).ch k88 (Ne.symm (Nat.ne_of_lt (Nat.lt_of_lt_of_le hgl (Nat.le_trans (z2 k4 k8) p28)))))
   refine lN (L_28 (x9) a11 c12) wN isAgg_28 sizeOf_28 b659 ?_
   have b660 := ((((((b5.ch k8 (Ne.symm (Nat.ne_of_lt (Nat.lt_of_lt_of_le hgl (p2))))).kp k30).ch k33 (Nat.ne_of_lt (Nat.lt_of_lt_of_le p3 (Nat.le_trans k8.size p28)))).ch k51 (Ne.symm (Nat.ne_of_lt (Nat.lt_of_lt_of_le hgl (p2))))).ch k77 (Ne.symm (Nat.ne_of_lt (Nat.lt_of_lt_of_le hgl (p2))))).ch k88 (Ne.symm (Nat.ne_of_lt (Nat.lt_of_lt_of_le hgl (p2)))))
   refine sv (L_28 (x9) a11 c12) wN sizeOf_28 b660 ?_
   intro w8 k661 b662 z663
   have m664 := ChG.ext m98 k661 (fun k hk => .inr (by subst hk; exact p2))
   refine n3 ?_
   have o665 := (OLv.ch (OLv.ch (OLv.ch o76 k77 (fun g h1 h2 hk => by have h3 := Nat.lt_of_lt_of_le hgl k4.size; omega)) k88 (fun g h1 h2 hk => by have h3 := Nat.lt_of_lt_of_le hgl k4.size; omega)) k661 (fun g h1 h2 hk => by have h3 := Nat.lt_of_lt_of_le p3 (Nat.le_refl w1.heap.size); omega))
   refine ret_1 (.inl rfl) (va (L_28 (x9) a11 c12)) rfl (rv_c (L_28 (x9) a11 c12) rfl b662 isAgg_28 sizeOf_28) ?_
   have b666 := (b93.ch k661 (Nat.ne_of_lt (Nat.lt_of_lt_of_le hgl (p2))))
   exact ⟨(x9), m664, ⟨_, _, b666, (Rd.chP hcr m664 hcn), hcl, (by omega), hcn⟩, ⟨_, _, rfl, (OLv.now (OLv.low o665 k4.size)), s14, ⟨trivial, trivial⟩⟩, (by first | assumption | (refine small_set (by assumption) ?_; first | exact small_el (by assumption) (by omega) | (simp only []; omega)))⟩
  have q630 := of_decide_eq_true h629
  refine ct h629 ?_
  refine wc_region ?_
  refine pu (vp g27 2) wN ?_
  have b631 := ((b73.ch k77 (Ne.symm (Nat.ne_of_lt (Nat.lt_of_lt_of_le hgl (Nat.le_trans (z2 k4 k8) p28))))).ch k88 (Ne.symm (Nat.ne_of_lt (Nat.lt_of_lt_of_le hgl (Nat.le_trans (z2 k4 k8) p28)))))
  refine ld (vs a11 ((x9).Cands).length c12) wN isAgg_26 b631 ?_
  refine mw (vi (x78)) ?_
  have o634 := (OLv.ch (OLv.ch o76 k77 (fun g h1 h2 hk => by have h3 := Nat.lt_of_lt_of_le hgl k4.size; omega)) k88 (fun g h1 h2 hk => by have h3 := Nat.lt_of_lt_of_le hgl k4.size; omega))
  obtain ⟨y632, r633⟩ := RLv.row (OLv.rl o634)
  refine ix wN (x78) slTy_26 r633 ?_
  obtain ⟨y635, l636, r637, e638, u639⟩ := OLv.el z_PCand (i := ((x78)).toNat) o634 (by first | omega | (simp only [List.length_cons, List.length_nil, List.length_replicate, List.length_append, List.length_take, List.length_set, List.length_map]; omega))
  obtain ⟨a640, c641, l645, rfl, r642, s643, u646⟩ := SubO.c u639
  obtain rfl := SubO.n u646
  refine wl_fieldE wN rfl rfl rfl fieldAt_34_0 rfl r637 (by omega) ?_
  refine wl_loadEN (L_25 ((((x9).Cands).getD ((x78)).toNat z_PCand).A)) wN rfl rfl rfl rfl isAgg_25 sizeOf_25 r637 (by first | omega | (simp only [List.length_cons, List.length_nil, List.length_replicate, List.length_append, List.length_take, List.length_set, List.length_map]; omega)) ((part_of (off := 0) (n := 2) e638 (by first | rfl | simp | omega) (by decide)).trans rfl) ?_
  refine pu (vp g27 0) wN ?_
  refine st (va (L_25 ((((x9).Cands).getD ((x78)).toNat z_PCand).A))) (L_25 ((((x9).Cands).getD ((x78)).toNat z_PCand).A)) [(vi (((((x9).Cands).getD ((x78)).toNat z_PCand).A).Host)), (vi (((((x9).Cands).getD ((x78)).toNat z_PCand).A).Port)), (vs a11 ((x9).Cands).length c12)] wN sizeOf_25 b631 ?_
  intro w8 k647 b648 z649
  have m650 := ChG.ext m98 k647 (fun k hk => .inr (by subst hk; exact Nat.le_trans (z2 k4 k8) p28))
  refine wl_nil <| wq_blk_normal <| wq_then <| sr ?_
  refine lN [(vi (((((x9).Cands).getD ((x78)).toNat z_PCand).A).Host)), (vi (((((x9).Cands).getD ((x78)).toNat z_PCand).A).Port)), (vs a11 ((x9).Cands).length c12)] wN isAgg_28 sizeOf_28 b648 ?_
  have b651 := (((((((b5.ch k8 (Ne.symm (Nat.ne_of_lt (Nat.lt_of_lt_of_le hgl (p2))))).kp k30).ch k33 (Nat.ne_of_lt (Nat.lt_of_lt_of_le p3 (Nat.le_trans k8.size p28)))).ch k51 (Ne.symm (Nat.ne_of_lt (Nat.lt_of_lt_of_le hgl (p2))))).ch k77 (Ne.symm (Nat.ne_of_lt (Nat.lt_of_lt_of_le hgl (p2))))).ch k88 (Ne.symm (Nat.ne_of_lt (Nat.lt_of_lt_of_le hgl (p2))))).ch k647 (Nat.ne_of_lt (Nat.lt_of_lt_of_le p3 (Nat.le_trans k8.size p28))))
  refine sv [(vi (((((x9).Cands).getD ((x78)).toNat z_PCand).A).Host)), (vi (((((x9).Cands).getD ((x78)).toNat z_PCand).A).Port)), (vs a11 ((x9).Cands).length c12)] wN sizeOf_28 b651 ?_
  intro w9 k652 b653 z654
  have m655 := ChG.ext m650 k652 (fun k hk => .inr (by subst hk; exact p2))
  refine n3 ?_
  have o656 := (OLv.ch (OLv.ch o634 k647 (fun g h1 h2 hk => by have h3 := Nat.le_trans (Nat.le_refl w2.heap.size) p28; omega)) k652 (fun g h1 h2 hk => by have h3 := Nat.lt_of_lt_of_le p3 (Nat.le_refl w1.heap.size); omega))
  refine ret_1 (.inl rfl) (va [(vi (((((x9).Cands).getD ((x78)).toNat z_PCand).A).Host)), (vi (((((x9).Cands).getD ((x78)).toNat z_PCand).A).Port)), (vs a11 ((x9).Cands).length c12)]) rfl (rv_c [(vi (((((x9).Cands).getD ((x78)).toNat z_PCand).A).Host)), (vi (((((x9).Cands).getD ((x78)).toNat z_PCand).A).Port)), (vs a11 ((x9).Cands).length c12)] rfl b653 isAgg_28 sizeOf_28) ?_
  have b657 := ((b93.ch k647 (Nat.ne_of_lt (Nat.lt_of_lt_of_le hgl (Nat.le_trans (z2 k4 k8) p28)))).ch k652 (Nat.ne_of_lt (Nat.lt_of_lt_of_le hgl (p2))))
  exact ⟨{ At := ((((x9).Cands).getD ((x78)).toNat z_PCand).A), Cands := (x9).Cands : PPaths }, m655, ⟨_, _, b657, (Rd.chP hcr m655 hcn), hcl, (by omega), hcn⟩, ⟨_, _, rfl, (OLv.now (OLv.low o656 k4.size)), s14, ⟨trivial, trivial⟩⟩, (by first | assumption | (refine small_set (by assumption) ?_; first | exact small_el (by assumption) (by omega) | (simp only []; omega)))⟩
 have q442 := of_decide_eq_true h441
 refine ct h441 ?_
 have o480 := (OLv.ch (OLv.ch o76 k77 (fun g h1 h2 hk => by have h3 := Nat.lt_of_lt_of_le hgl k4.size; omega)) k88 (fun g h1 h2 hk => by have h3 := Nat.lt_of_lt_of_le hgl k4.size; omega))
 obtain ⟨y481, l482, r483, e484, u485⟩ := OLv.el z_PCand (i := ((x78)).toNat) o480 (by first | omega | (simp only [List.length_cons, List.length_nil, List.length_replicate, List.length_append, List.length_take, List.length_set, List.length_map]; omega))
 obtain ⟨a486, c487, l491, rfl, r488, s489, u492⟩ := SubO.c u485
 obtain rfl := SubO.n u492
 refine wc_drawT ([(48, [], [], (fun _ v _ => v = (vp g27 2))), (49, [], [0], (fun _ v _ => v = (vs a11 ((x9).Cands).length c12))), (50, [], [], (fun _ v _ => v = (vi (x78)))), (51, [], [], (fun _ v _ => v = (vp g 0))), (52, [], [], (fun _ v w => ∃ (a1 : Option Addr) (c1 : Nat), v = .slice a1 ([(-1), 1000006, 1000007] : List Int).length c1 ∧ w.ownsRow w7.heap.size 3 1 (.slice a1 ([(-1), 1000006, 1000007] : List Int).length c1) ([(-1), 1000006, 1000007] : List Int).length (([(-1), 1000006, 1000007] : List Int).map iV) ∧ ([(-1), 1000006, 1000007] : List Int).length ≤ 1073741824 ∧ Aps [(a1, c1)])), (53, [], [3, 4], (fun _ v _ => ∃ x500 : Int, v = (vi x500) ∧ x500 ∈ ([(-1), 1000006, 1000007] : List Int)))] : GV) (fun lf w' => Ch (fun k => k = g) w7 w' ∧ CurX w' g 111 ca cc cb) [(5, fun w w' => Ch (fun k => k = g) w w' ∧ (CurX w g 111 ca cc cb → CurX w' g 111 ca cc cb))] mixed rfl (by kernel_rfl) (by kernel_rfl) ?_ (fun _ _ h => ⟨h.to _, CurX.kp ⟨_, _, b93, (Rd.chP hcr m98 hcn), hcl, (by omega), hcn⟩ h⟩) (fun _ _ _ _ h mo k => by obtain ⟨hc, hcur⟩ := h; exact ⟨hc.comp k (fun _ _ q => q.elim), hcur.kp k⟩) ⟨(fun _ _ w w' h mo hj t => by obtain ⟨hc, hcur⟩ := h; exact ⟨hc.comp t.1 (fun _ _ q => q), t.2 hcur⟩), trivial⟩ ?_ ?_ ?_
 ·exact ⟨hV, hE, ⟨hV, hE, ⟨hV, hE, ⟨hV, hE, ⟨(fun e v w w1 h hk => by obtain ⟨a0x, c0x, he, o0x, l0x, hap⟩ := h; exact ⟨a0x, c0x, he, own_kp o0x hk, l0x, hap⟩), hE, ⟨hV, hE, trivial⟩⟩⟩⟩⟩⟩
 ·exact ⟨⟨.inr hV, ⟨.inr hV, ⟨.inr hV, ⟨.inr hV, ⟨.inr (fun e v wX wY h ht => by obtain ⟨a0x, c0x, he, o0x, l0x, hap⟩ := h; exact ⟨a0x, c0x, he, own_ch o0x ht.1 (fun gq hg _ hk => by have h1 := (own_lt o0x gq hg).1; have h3 : gq = g := hk; have h4 := (Nat.lt_of_lt_of_le hgl (z7 k4 k8 k30 k33 k51 k77 k88)); omega), l0x, hap⟩), ⟨.inl rfl, trivial⟩⟩⟩⟩⟩⟩, trivial⟩
 ·refine ⟨?_, ⟨?_, ⟨?_, ⟨?_, ⟨?_, ⟨?_, trivial⟩⟩⟩⟩⟩⟩
  ·rintro lf w8 ⟨k501, ⟨i503, h504, b505, r506, l507, p508, n509⟩⟩ ⟨n502, -⟩
   rintro _ _ _ _ _ _
   show WL _ _ _ _ _ _ _
   refine pu (vp g27 2) wN ?_
   exact f1
  ·rintro lf w8 ⟨k511, ⟨i513, h514, b515, r516, l517, p518, n519⟩⟩ ⟨n512, -⟩
   rintro _ rfl _ _ _ _ _
   show WL _ _ _ _ _ _ _
   have zz8 := Nat.le_trans (z2 k4 k8) p28
   have b521 := (((b73.ch k77 (Ne.symm (Nat.ne_of_lt (Nat.lt_of_lt_of_le hgl zz8)))).ch k88 (Ne.symm (Nat.ne_of_lt (Nat.lt_of_lt_of_le hgl zz8)))).ch k511 (Ne.symm (Nat.ne_of_lt (Nat.lt_of_lt_of_le hgl zz8))))
   refine ld (vs a11 ((x9).Cands).length c12) wN isAgg_26 b521 ?_
   exact f1
  ·rintro lf w8 ⟨k522, ⟨i524, h525, b526, r527, l528, p529, n530⟩⟩ ⟨n523, -⟩
   rintro _ _ _ _ _ _
   show WL _ _ _ _ _ _ _
   refine mw (vi (x78)) ?_
   exact f1
  ·rintro lf w8 ⟨k532, ⟨i534, h535, b536, r537, l538, p539, n540⟩⟩ ⟨n533, -⟩
   rintro _ _ _ _ _ _
   show WL _ _ _ _ _ _ _
   refine mw (vp g 0) ?_
   exact f1
  ·rintro lf w8 ⟨k542, ⟨i544, h545, b546, r547, l548, p549, n550⟩⟩ ⟨n543, -⟩
   rintro _ _ _ _ _ _
   show WL _ _ _ _ _ _ _
   refine ltI ([(-1), 1000006, 1000007] : List Int) wN slTy_56 ?_
   intro a552 c553 w9 k554 o555
   exact wl_finT k554 ⟨_, _, rfl, (own_lo o555 k542.size), (by simp), ⟨trivial, trivial⟩⟩
  ·rintro lf w8 ⟨k558, ⟨i560, h561, b562, r563, l564, p565, n566⟩⟩ ⟨n559, -⟩
   have m567 := ChG.ext m98 k558 (fun k hk => .inl hk)
   rintro _ _ _ _ rfl _ ⟨a568, c569, rfl, o570, s571, -⟩ _
   show WL _ _ _ _ _ _ _
   refine cl wN (C_spec_l1Int w8 g ca cc cb ⟨_, _, b562, (Rd.chP hcr m567 hcn), hcl, (by omega), hcn⟩ _ ([(-1), 1000006, 1000007] : List Int) ⟨_, _, rfl, (Rd.of_own o570), s571, (fun _ z hz => by have h1 := (own_lt o570 z.block (by rw [hz]; rfl)).1; have h2 := Nat.lt_of_lt_of_le hgl (z7 k4 k8 k30 k33 k51 k77 k88); omega)⟩ (by simp)) ?_
   rintro _ w9 ⟨x574, k573, ⟨i576, h577, b578, r579, l580, p581, n582⟩, rfl, q575⟩
   have m583 := ChG.ext m567 k573 (fun k hk => .inl hk)
   have q575m : x574 = (-1) ∨ x574 = 1000006 ∨ x574 = 1000007 := by simpa only [List.mem_cons, List.not_mem_nil, or_false] using q575
   exact wl_finT ⟨k573, fun _ => ⟨_, _, b578, (Rd.chP hcr m583 hcn), hcl, (by omega), hcn⟩⟩ ⟨_, rfl, q575⟩
 ·rintro lf w8 ⟨k584, ⟨i586, h587, b588, r589, l590, p591, n592⟩⟩
  have m593 := ChG.ext m98 k584 (fun k hk => .inl hk)
  rintro _ rfl _ rfl _ rfl _ rfl _ ⟨a595, c596, rfl, o597, s598, -⟩ _ ⟨x500, rfl, q600⟩
  have q600m : x500 = (-1) ∨ x500 = 1000006 ∨ x500 = 1000007 := by simpa only [List.mem_cons, List.not_mem_nil, or_false] using q600
  show WL _ _ _ _ _ _ _
  have o603 := (OLv.ch o480 k584 (fun g h1 h2 hk => by have h3 := Nat.lt_of_lt_of_le hgl k4.size; omega))
  obtain ⟨y601, r602⟩ := RLv.row (OLv.rl o603)
  refine ix wN (x78) slTy_26 r602 ?_
  obtain ⟨y604, l605, r606, e607, u608⟩ := OLv.el z_PCand (i := ((x78)).toNat) o603 (by first | omega | (simp only [List.length_cons, List.length_nil, List.length_replicate, List.length_append, List.length_take, List.length_set, List.length_map]; omega))
  obtain ⟨a609, c610, l614, rfl, r611, s612, u615⟩ := SubO.c u608
  obtain rfl := SubO.n u615
  refine wl_fieldE wN rfl rfl rfl fieldAt_34_2 rfl r606 (by omega) ?_
  refine wl_setI z_PCand (((x78)).toNat) 3 { A := ((((x9).Cands).getD ((x78)).toNat z_PCand).A), Draw := ((((x9).Cands).getD ((x78)).toNat z_PCand).Draw), Until := x500 : PCand } wN o603 (by first | omega | (simp only [List.length_cons, List.length_nil, List.length_replicate, List.length_append, List.length_take, List.length_set, List.length_map]; omega)) (us := [(vi x500)]) rfl (fun _ => rfl) (one_cons rfl one_nil) (Nat.le_of_ble_eq_true rfl) (Nat.le_of_ble_eq_true rfl) sizeOf_3 ?_ (by first | rfl | simp | omega)
  intro w9 k616 o617
  have m618 := ChG.ext m593 k616 (fun k hk => .inr (Nat.le_trans k4.size (own_lt o26 k hk).1))
  refine wl_nil <| wq_blk_normal <| wq_then <| sr ?_
  have zz9 := Nat.le_trans (z2 k4 k8) p28
  have b619 := ((((b73.ch k77 (Ne.symm (Nat.ne_of_lt (Nat.lt_of_lt_of_le hgl zz9)))).ch k88 (Ne.symm (Nat.ne_of_lt (Nat.lt_of_lt_of_le hgl zz9)))).ch k584 (Ne.symm (Nat.ne_of_lt (Nat.lt_of_lt_of_le hgl zz9)))).ch k616 (fun h => by have := (own_lt o26 _ h).2; have := Nat.le_trans (Nat.le_refl w2.heap.size) p28; omega))
  refine lN [(vi (((x9).At).Host)), (vi (((x9).At).Port)), (vs a11 ((x9).Cands).length c12)] wN isAgg_28 sizeOf_28 b619 ?_
  have b620 := ((((((((b5.ch k8 (Ne.symm (Nat.ne_of_lt (Nat.lt_of_lt_of_le hgl (p2))))).kp k30).ch k33 (Nat.ne_of_lt (Nat.lt_of_lt_of_le p3 (Nat.le_trans k8.size p28)))).ch k51 (Ne.symm (Nat.ne_of_lt (Nat.lt_of_lt_of_le hgl (p2))))).ch k77 (Ne.symm (Nat.ne_of_lt (Nat.lt_of_lt_of_le hgl (p2))))).ch k88 (Ne.symm (Nat.ne_of_lt (Nat.lt_of_lt_of_le hgl (p2))))).ch k584 (Ne.symm (Nat.ne_of_lt (Nat.lt_of_lt_of_le hgl (p2))))).ch k616 (fun h => by have := (own_lt o26 _ h).1; have := Nat.lt_of_lt_of_le p3 (Nat.le_refl w1.heap.size); omega))
  refine sv [(vi (((x9).At).Host)), (vi (((x9).At).Port)), (vs a11 ((x9).Cands).length c12)] wN sizeOf_28 b620 ?_
  intro w10 k621 b622 z623
  have m624 := ChG.ext m618 k621 (fun k hk => .inr (by subst hk; exact p2))
  refine n3 ?_
  have o625 := (OLv.ch o617 k621 (fun g h1 h2 hk => by have h3 := Nat.lt_of_lt_of_le p3 (Nat.le_refl w1.heap.size); omega))
  refine ret_1 (.inl rfl) (va [(vi (((x9).At).Host)), (vi (((x9).At).Port)), (vs a11 ((x9).Cands).length c12)]) rfl (rv_c [(vi (((x9).At).Host)), (vi (((x9).At).Port)), (vs a11 ((x9).Cands).length c12)] rfl b622 isAgg_28 sizeOf_28) ?_
  have hN626 : ((x9).Cands).length = ((((x9).Cands).set (((x78)).toNat) { A := ((((x9).Cands).getD ((x78)).toNat z_PCand).A), Draw := ((((x9).Cands).getD ((x78)).toNat z_PCand).Draw), Until := x500 : PCand })).length := by first | (simp only [List.length_append, List.length_take, List.length_replicate, List.length_set, List.length_map]; done) | (simp only [List.length_append, List.length_take, List.length_replicate, List.length_set, List.length_map]; omega)
  rw [hN626] at o625 ⊢
  have b627 := ((b588.ch k616 (fun h => by have := (own_lt o26 _ h).1; have := Nat.lt_of_lt_of_le hgl k4.size; omega)).ch k621 (Nat.ne_of_lt (Nat.lt_of_lt_of_le hgl (p2))))
  exact ⟨{ At := ((x9).At), Cands := (((x9).Cands).set (((x78)).toNat) { A := ((((x9).Cands).getD ((x78)).toNat z_PCand).A), Draw := ((((x9).Cands).getD ((x78)).toNat z_PCand).Draw), Until := x500 : PCand }) : PPaths }, m624, ⟨_, _, b627, (Rd.chP hcr m624 hcn), hcl, (by omega), hcn⟩, ⟨_, _, rfl, (OLv.now (OLv.low o625 k4.size)), (by rw [← hN626]; exact s14), ⟨trivial, trivial⟩⟩, (by first | assumption | (refine small_set (by assumption) ?_; first | exact small_el (by assumption) (by omega) | (simp only []; omega)))⟩
end Go.Proofs.Ytdbjmgkiccfhcaa.K
