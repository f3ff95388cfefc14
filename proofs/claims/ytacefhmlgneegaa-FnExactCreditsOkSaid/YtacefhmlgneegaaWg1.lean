import Derived.Test.YtacefhmlgneegaaCore
import Derived.Test.YtacefhmlgneegaaProg
import Derived.Test.YtacefhmlgneegaaHeld
import Derived.Test.YtacefhmlgneegaaFun
import Derived.Test.YtacefhmlgneegaaFunZ
import Derived.Test.YtacefhmlgneegaaList
namespace Go.Proofs.Ytacefhmlgneegaa.K
open Go.RowKit
set_option linter.unusedVariables false
set_option linter.unusedSimpArgs false
set_option maxRecDepth 100000
def enc_PCredit (x : PCredit) : List Value := [.int .i64 x.A.Host, .int .i64 x.A.Port, .int .i64 x.Got, .int .i64 x.Sent]
theorem enc_PCredit_len : ∀ a, (enc_PCredit a).length = 4 := fun _ => rfl
theorem enc_PCredit_one : ∀ a, ∀ u ∈ enc_PCredit a, u.oneCell' = true := fun _ => (one_cons rfl (one_cons rfl (one_cons rfl (one_cons rfl one_nil))))
def z_PCredit : PCredit := { A := { Host := 0, Port := 0 : PAddr }, Got := 0, Sent := 0 : PCredit }
def creditAt (x_l : List PCredit) (x_a : PAddr) : Int := findF (fun c : PCredit => decide (c.A.Host = x_a.Host) && decide (c.A.Port = x_a.Port)) x_l
theorem creditAt_range (x_l : List PCredit) (x_a : PAddr) : -1 ≤ creditAt x_l x_a ∧ creditAt x_l x_a < (x_l.length : Int) := findF_range x_l

theorem slTy_41 : SlTy Try.prog 41 71 4 32 (va [(vi 0), (vi 0), (vi 0), (vi 0)]) := slTy Try.underlying41 (by kernel_rfl) rfl rfl
def Q_41 (w : World) (v : Value) (x : (List PCredit)) : Prop := ∃ (a1 : Option Addr) (c1 : Nat), v = .slice a1 x.length c1 ∧ Rd w 4 (.slice a1 x.length c1) x.length (x.flatMap enc_PCredit) ∧ x.length ≤ 9223372036854775807
def O_3 (w : World) (lo : Nat) (v : Value) (x : (Int)) : Prop := v = .int .i64 x
def F_laws_szCreditS (x_a : List PCredit) (x_left : Int) : (Int) := bif (decide ((x_left - (x_a.length : Int)) < 0)) then ((-1)) else ((x_left - (x_a.length : Int)))
theorem C_laws_szCreditS (w0 : World) (v_x_a : Value) (x_a : List PCredit) (r_x_a : Q_41 w0 v_x_a x_a) (x_left : Int) (pre0 : 0 ≤ x_left) (pre1 : x_left ≤ 1048576) : Fn Try.prog 34 #[v_x_a, (vi x_left)] w0 (fun v w' => Keep w0 w' ∧ O_3 w' w0.heap.size v (F_laws_szCreditS x_a x_left)) := by
 obtain ⟨a1, c2, rfl, r3, s4⟩ := r_x_a
 refine fn_of (n := 12) (l := [(vs a1 x_a.length c2), (vi x_left), U, U, U, U, U, U, U, U, U, U]) Try.func34 rfl rfl (by kernel_rfl) rfl ?_
 refine sr ?_
 refine ag (vi 0) wN ?_
 refine nx ?_
 refine mv (vi x_left) wN ?_
 refine mv (vs a1 x_a.length c2) wN ?_
 refine ln wN slTy_41 r3 ?_
 refine ar (x_left - (x_a.length : Int)) wN ?_
 refine ag (vi (x_left - (x_a.length : Int))) wN ?_
 refine wl_nil <| wq_then <| wc_seq <| sr ?_
 refine mv (vi (x_left - (x_a.length : Int))) wN ?_
 refine pu (vb (decide ((x_left - (x_a.length : Int)) < 0))) wN ?_
 refine wl_nil <| wq_then ?_
 rcases bt (decide ((x_left - (x_a.length : Int)) < 0)) with h6 | h6
 ·have q7 := of_decide_eq_true h6
  refine ct h6 ?_
  refine sr ?_
  refine ag (vi (-1)) wN ?_
  refine wl_nil <| wq_then <| wc_ret <| wq_then_ret ?_
  refine ret_1 (.inl rfl) (vi (-1)) rfl rfl ?_
  refine ⟨Ch.refl _ _, ?_⟩
  have hF8 : F_laws_szCreditS x_a x_left = (-1) := by simp only [F_laws_szCreditS, h6, cond_true, cond_false]
  rw [hF8]
  exact rfl
 have q9 := of_decide_eq_false h6
 refine cf h6 ?_
 refine wc_skip <| wq_then <| sr ?_
 refine mv (vi (x_left - (x_a.length : Int))) wN ?_
 refine ag (vi (x_left - (x_a.length : Int))) wN ?_
 refine wl_nil <| wq_then <| wc_ret ?_
 refine ret_1 (.inl rfl) (vi (x_left - (x_a.length : Int))) rfl rfl ?_
 refine ⟨Ch.refl _ _, ?_⟩
 have hF10 : F_laws_szCreditS x_a x_left = (x_left - (x_a.length : Int)) := by simp only [F_laws_szCreditS, h6, cond_true, cond_false]
 rw [hF10]
 exact rfl
theorem laws_szCreditS_le (x : List PCredit) (l : Int) : F_laws_szCreditS x l = -1 ∨ (F_laws_szCreditS x l = l - ((x.length : Int)) ∧ (0 ≤ F_laws_szCreditS x l ∨ l < 0 ∨ False)) := by

  simp only [F_laws_szCreditS, cond_eq_ite, decide_eq_true_eq]
  (repeat' split) <;> omega

abbrev L_49 (x : PAddr)  : List Value := [vi x.Host, vi x.Port]
theorem zero_49 : ∀ w, (zeroValue 49).run Try.prog w = .ok (va [(vi 0), (vi 0)]) w := fun w => by kernel_rfl
theorem isAgg_3 : ∀ w, (isAgg 3).run Try.prog w = .ok false w := fun w => by kernel_rfl
theorem sizeOf_3 : ∀ w, (sizeOf 3).run Try.prog w = .ok 1 w := fun w => by kernel_rfl
theorem isAgg_49 : ∀ w, (isAgg 49).run Try.prog w = .ok true w := fun w => by kernel_rfl
theorem sizeOf_49 : ∀ w, (sizeOf 49).run Try.prog w = .ok 2 w := fun w => by kernel_rfl
def R_69 (w : World) (v : Value) (x : (PAddr)) : Prop := v = .agg #[.int .i64 x.Host, .int .i64 x.Port]
def O_49 (w : World) (lo : Nat) (v : Value) (x : (PAddr)) : Prop := v = .agg #[.int .i64 x.Host, .int .i64 x.Port]
def F_laws_toAddr (x_a : PAddr) : (PAddr) := x_a
theorem C_laws_toAddr (w0 : World) (v_x_a : Value) (x_a : PAddr) (r_x_a : R_69 w0 v_x_a x_a)  : Fn Try.prog 64 #[v_x_a] w0 (fun v w' => Keep w0 w' ∧ O_49 w' w0.heap.size v (F_laws_toAddr x_a)) := by
 obtain rfl := r_x_a
 refine fn_of (n := 11) (l := [(va (L_49 x_a)), U, U, U, U, U, U, U, U, U, U]) Try.func64 rfl rfl (by kernel_rfl) rfl ?_
 refine sr ?_
 refine bx (L_49 x_a) wN ?_
 intro g1 w1 p2 p3 k4 b5
 have m6 := (Ch.base w0).extk k4
 refine al [(vi 0), (vi 0)] wN zero_49 ?_
 intro g7 w2 p8 p9 k10 b11
 have m12 := m6.extk k10
 refine nx ?_
 refine al [(vi 0), (vi 0)] wN zero_49 ?_
 intro g13 w3 p14 p15 k16 b17
 have m18 := m12.extk k16
 refine nx ?_
 refine pu (vp g1 0) wN ?_
 have b19 := ((b5.kp k10).kp k16)
 refine ld (vi x_a.Host) wN isAgg_3 b19 ?_
 refine pu (vp g13 0) wN ?_
 refine st (vi x_a.Host) [(vi x_a.Host)] [(vi x_a.Host), (vi 0)] wN sizeOf_3 b17 ?_
 intro w4 k20 b21 z22
 have m23 := m18.ext k20 (fun k hk => by subst hk; exact Nat.le_trans (Nat.le_trans k4.size k10.size) p14)
 refine nx ?_
 refine pu (vp g1 1) wN ?_
 have b24 := (b19.ch k20 (Nat.ne_of_lt (Nat.lt_of_lt_of_le p3 (Nat.le_trans k10.size p14))))
 refine ld (vi x_a.Port) wN isAgg_3 b24 ?_
 refine pu (vp g13 1) wN ?_
 refine st (vi x_a.Port) [(vi x_a.Port)] (L_49 x_a) wN sizeOf_3 b21 ?_
 intro w5 k25 b26 z27
 have m28 := m23.ext k25 (fun k hk => by subst hk; exact Nat.le_trans (Nat.le_trans k4.size k10.size) p14)
 refine nx ?_
 refine lN (L_49 x_a) wN isAgg_49 sizeOf_49 b26 ?_
 have b29 := (((b11.kp k16).ch k20 (Nat.ne_of_lt (Nat.lt_of_lt_of_le p9 (Nat.le_trans (Nat.le_refl _) p14)))).ch k25 (Nat.ne_of_lt (Nat.lt_of_lt_of_le p9 (Nat.le_trans (Nat.le_refl _) p14))))
 refine st (va (L_49 x_a)) (L_49 x_a) (L_49 x_a) wN sizeOf_49 b29 ?_
 intro w6 k30 b31 z32
 have m33 := m28.ext k30 (fun k hk => by subst hk; exact Nat.le_trans k4.size p8)
 refine wl_nil <| wq_then <| wc_ret ?_
 refine ret_1 (.inl rfl) (va (L_49 x_a)) rfl (rv_c [(vi x_a.Host), (vi x_a.Port)] rfl b31 isAgg_49 sizeOf_49) ?_
 refine ⟨m33.keep0, ?_⟩
 have hF34 : F_laws_toAddr x_a = x_a := by rfl
 rw [hF34]
 exact rfl

abbrev L_67 (x : PCredit)  : List Value := [vi x.A.Host, vi x.A.Port, vi x.Got, vi x.Sent]
theorem zero_67 : ∀ w, (zeroValue 67).run Try.prog w = .ok (va [(vi 0), (vi 0), (vi 0), (vi 0)]) w := fun w => by kernel_rfl
theorem isAgg_69 : ∀ w, (isAgg 69).run Try.prog w = .ok true w := fun w => by kernel_rfl
theorem sizeOf_69 : ∀ w, (sizeOf 69).run Try.prog w = .ok 2 w := fun w => by kernel_rfl
abbrev L_69 (x : PAddr)  : List Value := [vi x.Host, vi x.Port]
theorem isAgg_67 : ∀ w, (isAgg 67).run Try.prog w = .ok true w := fun w => by kernel_rfl
theorem sizeOf_67 : ∀ w, (sizeOf 67).run Try.prog w = .ok 4 w := fun w => by kernel_rfl
def R_71 (w : World) (v : Value) (x : (PCredit)) : Prop := v = .agg #[.int .i64 x.A.Host, .int .i64 x.A.Port, .int .i64 x.Got, .int .i64 x.Sent]
def O_67 (w : World) (lo : Nat) (v : Value) (x : (PCredit)) : Prop := v = .agg #[.int .i64 x.A.Host, .int .i64 x.A.Port, .int .i64 x.Got, .int .i64 x.Sent]
theorem mR_69 {w : World} {x : PAddr} : R_69 w (va (L_69 x)) x := rfl
def F_laws_toCredit (x_a : PCredit) : (PCredit) := { A := (F_laws_toAddr x_a.A), Got := x_a.Got, Sent := x_a.Sent : PCredit }
theorem C_laws_toCredit (w0 : World) (v_x_a : Value) (x_a : PCredit) (r_x_a : R_71 w0 v_x_a x_a)  : Fn Try.prog 55 #[v_x_a] w0 (fun v w' => Keep w0 w' ∧ O_67 w' w0.heap.size v (F_laws_toCredit x_a)) := by
 obtain rfl := r_x_a
 refine fn_of (n := 15) (l := [(va (L_67 x_a)), U, U, U, U, U, U, U, U, U, U, U, U, U, U]) Try.func55 rfl rfl (by kernel_rfl) rfl ?_
 refine sr ?_
 refine bx (L_67 x_a) wN ?_
 intro g1 w1 p2 p3 k4 b5
 have m6 := (Ch.base w0).extk k4
 refine al [(vi 0), (vi 0), (vi 0), (vi 0)] wN zero_67 ?_
 intro g7 w2 p8 p9 k10 b11
 have m12 := m6.extk k10
 refine nx ?_
 refine al [(vi 0), (vi 0), (vi 0), (vi 0)] wN zero_67 ?_
 intro g13 w3 p14 p15 k16 b17
 have m18 := m12.extk k16
 refine nx ?_
 refine pu (vp g1 0) wN ?_
 have b19 := ((b5.kp k10).kp k16)
 refine lN (L_49 x_a.A) wN isAgg_69 sizeOf_69 b19 ?_
 refine cl wN (C_laws_toAddr w3 _ x_a.A (mR_69)) ?_
 rintro _ w4 ⟨k20, rfl⟩
 have m21 := m18.extk k20
 refine pu (vp g13 0) wN ?_
 have b22 := (b17.kp k20)
 refine st (va (L_49 (F_laws_toAddr x_a.A))) (L_49 (F_laws_toAddr x_a.A)) [(vi ((F_laws_toAddr x_a.A).Host)), (vi ((F_laws_toAddr x_a.A).Port)), (vi 0), (vi 0)] wN sizeOf_49 b22 ?_
 intro w5 k23 b24 z25
 have m26 := m21.ext k23 (fun k hk => by subst hk; exact Nat.le_trans (Nat.le_trans k4.size k10.size) p14)
 refine nx ?_
 refine pu (vp g1 2) wN ?_
 have b27 := ((b19.kp k20).ch k23 (Nat.ne_of_lt (Nat.lt_of_lt_of_le p3 (Nat.le_trans k10.size p14))))
 refine ld (vi x_a.Got) wN isAgg_3 b27 ?_
 refine pu (vp g13 2) wN ?_
 refine st (vi x_a.Got) [(vi x_a.Got)] [(vi ((F_laws_toAddr x_a.A).Host)), (vi ((F_laws_toAddr x_a.A).Port)), (vi x_a.Got), (vi 0)] wN sizeOf_3 b24 ?_
 intro w6 k28 b29 z30
 have m31 := m26.ext k28 (fun k hk => by subst hk; exact Nat.le_trans (Nat.le_trans k4.size k10.size) p14)
 refine nx ?_
 refine pu (vp g1 3) wN ?_
 have b32 := (b27.ch k28 (Nat.ne_of_lt (Nat.lt_of_lt_of_le p3 (Nat.le_trans k10.size p14))))
 refine ld (vi x_a.Sent) wN isAgg_3 b32 ?_
 refine pu (vp g13 3) wN ?_
 refine st (vi x_a.Sent) [(vi x_a.Sent)] [(vi ((F_laws_toAddr x_a.A).Host)), (vi ((F_laws_toAddr x_a.A).Port)), (vi x_a.Got), (vi x_a.Sent)] wN sizeOf_3 b29 ?_
 intro w7 k33 b34 z35
 have m36 := m31.ext k33 (fun k hk => by subst hk; exact Nat.le_trans (Nat.le_trans k4.size k10.size) p14)
 refine nx ?_
 refine lN [(vi ((F_laws_toAddr x_a.A).Host)), (vi ((F_laws_toAddr x_a.A).Port)), (vi x_a.Got), (vi x_a.Sent)] wN isAgg_67 sizeOf_67 b34 ?_
 have b37 := (((((b11.kp k16).kp k20).ch k23 (Nat.ne_of_lt (Nat.lt_of_lt_of_le p9 (Nat.le_trans (Nat.le_refl _) p14)))).ch k28 (Nat.ne_of_lt (Nat.lt_of_lt_of_le p9 (Nat.le_trans (Nat.le_refl _) p14)))).ch k33 (Nat.ne_of_lt (Nat.lt_of_lt_of_le p9 (Nat.le_trans (Nat.le_refl _) p14))))
 refine st (va [(vi ((F_laws_toAddr x_a.A).Host)), (vi ((F_laws_toAddr x_a.A).Port)), (vi x_a.Got), (vi x_a.Sent)]) [(vi ((F_laws_toAddr x_a.A).Host)), (vi ((F_laws_toAddr x_a.A).Port)), (vi x_a.Got), (vi x_a.Sent)] [(vi ((F_laws_toAddr x_a.A).Host)), (vi ((F_laws_toAddr x_a.A).Port)), (vi x_a.Got), (vi x_a.Sent)] wN sizeOf_67 b37 ?_
 intro w8 k38 b39 z40
 have m41 := m36.ext k38 (fun k hk => by subst hk; exact Nat.le_trans k4.size p8)
 refine wl_nil <| wq_then <| wc_ret ?_
 refine ret_1 (.inl rfl) (va [(vi ((F_laws_toAddr x_a.A).Host)), (vi ((F_laws_toAddr x_a.A).Port)), (vi x_a.Got), (vi x_a.Sent)]) rfl (rv_c [(vi ((F_laws_toAddr x_a.A).Host)), (vi ((F_laws_toAddr x_a.A).Port)), (vi x_a.Got), (vi x_a.Sent)] rfl b39 isAgg_67 sizeOf_67) ?_
 refine ⟨m41.keep0, ?_⟩
 have hF42 : F_laws_toCredit x_a = { A := (F_laws_toAddr x_a.A), Got := x_a.Got, Sent := x_a.Sent : PCredit } := by rfl
 rw [hF42]
 exact rfl

theorem slTy_44 : SlTy Try.prog 44 67 4 32 (va [(vi 0), (vi 0), (vi 0), (vi 0)]) := slTy Try.underlying44 (by kernel_rfl) rfl rfl
theorem isAgg_71 : ∀ w, (isAgg 71).run Try.prog w = .ok true w := fun w => by kernel_rfl
theorem sizeOf_71 : ∀ w, (sizeOf 71).run Try.prog w = .ok 4 w := fun w => by kernel_rfl
abbrev L_71 (x : PCredit)  : List Value := [vi x.A.Host, vi x.A.Port, vi x.Got, vi x.Sent]
def R_41 (w : World) (v : Value) (x : (List PCredit)) : Prop := ∃ (a1 : Option Addr) (c1 : Nat), v = .slice a1 x.length c1 ∧ Rd w 4 (.slice a1 x.length c1) x.length (x.flatMap enc_PCredit) ∧ x.length ≤ 1073741824
def O_44 (w : World) (lo : Nat) (v : Value) (x : (List PCredit)) : Prop := ∃ (a1 : Option Addr) (c1 : Nat), v = .slice a1 x.length c1 ∧ w.ownsRow lo 67 4 (.slice a1 x.length c1) x.length (x.flatMap enc_PCredit) ∧ x.length ≤ 1073741824 ∧ Aps [(a1, c1)]
theorem mR_71 {w : World} {x : PCredit} : R_71 w (va (L_71 x)) x := rfl
theorem C_laws_toCreditS (w0 : World) (v_x_a : Value) (x_a : List PCredit) (r_x_a : R_41 w0 v_x_a x_a)  : Fn Try.prog 36 #[v_x_a] w0 (fun v w' => Keep w0 w' ∧ O_44 w' w0.heap.size v (cpL x_a)) := by
 obtain ⟨a1, c2, rfl, r3, s4⟩ := r_x_a
 refine fn_of (n := 23) (l := [(vs a1 x_a.length c2), U, U, U, U, U, U, U, U, U, U, U, U, U, U, U, U, U, U, U, U, U, U]) Try.func36 rfl rfl (by kernel_rfl) rfl ?_
 refine sr ?_
 refine ag (vs none 0 0) wN ?_
 refine nx ?_
 refine mv (vs a1 x_a.length c2) wN ?_
 refine ln wN slTy_41 r3 ?_
 refine wl_makeF enc_PCredit_len z_PCredit (x_a.length) wN rfl rfl rfl slTy_44 rfl rfl (by decide) (x_a.length : Int) rfl (by omega) (by (try simp only [List.length_append, List.length_cons, List.length_nil]); omega) (by (try simp only [List.length_append, List.length_cons, List.length_nil]); omega) ?_
 intro a6 c7 w1 k8 o9
 have m10 := (Ch.base w0).extk k8
 refine ag (vs a6 (List.replicate x_a.length z_PCredit).length c7) wN ?_
 refine wl_nil <| wq_then <| wc_seq <| sr ?_
 refine ag (vi 0) wN ?_
 refine wl_nil <| wq_then <| wc_block ?_
 refine wc_norm [(vs a1 x_a.length c2), U, (vs none 0 0), (vs a6 (List.replicate x_a.length z_PCredit).length c7), (vi 0), (vs a1 x_a.length c2), (vi (x_a.length : Int)), (vs a6 (List.replicate x_a.length z_PCredit).length c7), U, U, U, U, U, U, U, U, U, U, U, U, U, U, U] rfl ⟨rfl, rfl, rfl, rfl, rfl, rfl, rfl, rfl, rfl, rfl, rfl, rfl, rfl, rfl, rfl, rfl, rfl, rfl, rfl, rfl, rfl, rfl, rfl, trivial⟩ ?_
 refine wc_loop (fun e' w' => ∃ (k : Nat) (u8x u9x u10x u11x u12x u13x u14x u15x u16x u17x u18x u19x u20x u21x : Value), e' = lst [(vs a1 x_a.length c2), U, (vs none 0 0), (vs a6 (List.replicate x_a.length z_PCredit).length c7), (vi ((k : Nat) : Int)), (vs a1 x_a.length c2), (vi (x_a.length : Int)), (vs a6 (List.replicate x_a.length z_PCredit).length c7), u8x, u9x, u10x, u11x, u12x, u13x, u14x, u15x, u16x, u17x, u18x, u19x, u20x, u21x, U] ∧ Ch (fun k => w0.heap.size ≤ k) w0 w' ∧ Ch (fun k => w0.heap.size ≤ k) w1 w' ∧ k ≤ x_a.length ∧ World.ownsRow w' w0.heap.size 67 4 (.slice a6 (List.replicate x_a.length z_PCredit).length c7) (List.replicate x_a.length z_PCredit).length ((x_a.take k ++ List.replicate (x_a.length - k) z_PCredit).flatMap enc_PCredit)) (fun e' _ => x_a.length - ((intOf (e' 4))).toNat) ?_ ?_
 ·have hE12 : ((List.replicate x_a.length z_PCredit) : List PCredit) = x_a.take 0 ++ List.replicate (x_a.length - 0) z_PCredit := by first | exact cp_next (by omega) | simp
  exact ⟨0, U, U, U, U, U, U, U, U, U, U, U, U, U, U, (congrArg (fun (x4z : Value) => lst [(vs a1 x_a.length c2), U, (vs none 0 0), (vs a6 (List.replicate x_a.length z_PCredit).length c7), x4z, (vs a1 x_a.length c2), (vi (x_a.length : Int)), (vs a6 (List.replicate x_a.length z_PCredit).length c7), U, U, U, U, U, U, U, U, U, U, U, U, U, U, U]) (congrArg (Value.int .i64) (show (0 : Int) = ((0 : Nat) : Int) by omega))), m10, (Ch.refl (fun k => w0.heap.size ≤ k) w1), (by omega), (by rw [← hE12]; exact o9)⟩
 ·rintro _ w2 ⟨k, u8x, u9x, u10x, u11x, u12x, u13x, u14x, u15x, u16x, u17x, u18x, u19x, u20x, u21x, rfl, m13, k14, i15, o16⟩
  refine wc_seq <| sr ?_
  refine mv (vi ((k : Nat) : Int)) wN ?_
  refine mv (vs a1 x_a.length c2) wN ?_
  refine ln wN slTy_41 (r3.from0 m13) ?_
  refine pu (vb (decide (((k : Nat) : Int) < (x_a.length : Int)))) wN ?_
  refine wl_nil <| wq_then ?_
  rcases bf (decide (((k : Nat) : Int) < (x_a.length : Int))) with h17 | h17
  ·have q26 := of_decide_eq_false h17
   refine cf h17 ?_
   refine wc_exit <| wq_then_exit <| wq_then_exit <| wq_blk_exit <| wq_then <| sr ?_
   refine mv (vs a6 (List.replicate x_a.length z_PCredit).length c7) wN ?_
   refine ag (vs a6 (List.replicate x_a.length z_PCredit).length c7) wN ?_
   refine wl_nil <| wq_then <| wc_ret ?_
   refine ret_1 (.inl rfl) (vs a6 (List.replicate x_a.length z_PCredit).length c7) rfl rfl ?_
   refine ⟨m13.keep0, ?_⟩
   have hF27 : cpL x_a = (x_a.take k ++ List.replicate (x_a.length - k) z_PCredit) := by exact cpL_end (by omega)
   rw [hF27]
   have hN28 : (List.replicate x_a.length z_PCredit).length = ((x_a.take k ++ List.replicate (x_a.length - k) z_PCredit)).length := by first | (simp only [List.length_append, List.length_take, List.length_replicate, List.length_set, List.length_map]; done) | (simp only [List.length_append, List.length_take, List.length_replicate, List.length_set, List.length_map]; omega)
   rw [hN28] at o16 ⊢
   exact ⟨_, _, rfl, o16, (by rw [← hN28]; rw [List.length_replicate]; first | assumption | omega), ⟨trivial, trivial⟩⟩
  have q18 := of_decide_eq_true h17
  refine ct h17 ?_
  refine wc_skip <| wq_then <| wc_seq <| wc_block <| wc_region ?_
  refine mv (vs a6 (List.replicate x_a.length z_PCredit).length c7) wN ?_
  refine mv (vi ((k : Nat) : Int)) wN ?_
  refine mv (vs a1 x_a.length c2) wN ?_
  refine mv (vi ((k : Nat) : Int)) wN ?_
  refine wl_index wN ((k : Nat) : Int) rfl rfl rfl slTy_41 rfl rfl (r3.from0 m13) (by first | omega | (simp only [List.length_cons, List.length_nil, List.length_replicate, List.length_append, List.length_take, List.length_set, List.length_map]; omega)) (by first | omega | (simp only [List.length_cons, List.length_nil, List.length_replicate, List.length_append, List.length_take, List.length_set, List.length_map]; omega)) ?_
  refine wl_loadEN [(vi (((x_a.getD k z_PCredit).A).Host)), (vi (((x_a.getD k z_PCredit).A).Port)), (vi ((x_a.getD k z_PCredit).Got)), (vi ((x_a.getD k z_PCredit).Sent))] wN rfl rfl rfl rfl isAgg_71 sizeOf_71 (r3.from0 m13) (by first | omega | (simp only [List.length_cons, List.length_nil, List.length_replicate, List.length_append, List.length_take, List.length_set, List.length_map]; omega)) ((rows_part (off := 0) (n := 4) enc_PCredit_len z_PCredit (by first | rfl | simp | omega) (by decide) (by first | omega | (simp only [List.length_cons, List.length_nil, List.length_replicate, List.length_append, List.length_take, List.length_set, List.length_map]; omega))).trans rfl) ?_
  refine cl wN (C_laws_toCredit w2 _ (x_a.getD k z_PCredit) (mR_71)) ?_
  rintro _ w3 ⟨k19, rfl⟩
  have m20 := m13.extk k19
  have o21 := (own_kp o16 k19)
  refine wl_index wN ((k : Nat) : Int) rfl rfl rfl slTy_44 rfl rfl (Rd.of_own o21) (by first | omega | (simp only [List.length_cons, List.length_nil, List.length_replicate, List.length_append, List.length_take, List.length_set, List.length_map]; omega)) (by first | omega | (simp only [List.length_cons, List.length_nil, List.length_replicate, List.length_append, List.length_take, List.length_set, List.length_map]; omega)) ?_
  refine wl_storeF enc_PCredit_len (x_a.take k ++ List.replicate (x_a.length - k) z_PCredit) (k) 0 z_PCredit ((F_laws_toCredit (x_a.getD k z_PCredit))) (va (L_67 (F_laws_toCredit (x_a.getD k z_PCredit)))) [(vi (((F_laws_toCredit (x_a.getD k z_PCredit)).A).Host)), (vi (((F_laws_toCredit (x_a.getD k z_PCredit)).A).Port)), (vi ((F_laws_toCredit (x_a.getD k z_PCredit)).Got)), (vi ((F_laws_toCredit (x_a.getD k z_PCredit)).Sent))] wN rfl rfl rfl (by first | rfl | simp | omega) rfl rfl (one_cons rfl (one_cons rfl (one_cons rfl (one_cons rfl one_nil)))) sizeOf_67 o21 (by first | omega | (simp only [List.length_append, List.length_replicate, List.length_take, List.length_set, List.length_map]; omega)) (by simp) (by simp) rfl ?_
  intro w4 k22 o23
  have m24 := m20.ext k22 (fun k hk => Nat.le_trans (Nat.le_refl _) (own_lt o9 k hk).1)
  refine wl_nil <| wq_blk_normal <| wq_then <| wc_region ?_
  refine mv (vi ((k : Nat) : Int)) wN ?_
  refine ar (((k : Nat) : Int) + 1) wN ?_
  refine ag (vi (((k : Nat) : Int) + 1)) wN ?_
  refine wl_nil ?_
  have hE25 : (((x_a.take k ++ List.replicate (x_a.length - k) z_PCredit).set k (F_laws_toCredit (x_a.getD k z_PCredit))) : List PCredit) = x_a.take (k + 1) ++ List.replicate (x_a.length - (k + 1)) z_PCredit := by first | exact cp_next (by omega) | simp
  refine wq_loopN (w0 := w2) [(vs a1 x_a.length c2), U, (vs none 0 0), (vs a6 (List.replicate x_a.length z_PCredit).length c7), (vi (((k + 1) : Nat) : Int)), (vs a1 x_a.length c2), (vi (x_a.length : Int)), (vs a6 (List.replicate x_a.length z_PCredit).length c7), (vi ((k : Nat) : Int)), (vs a1 x_a.length c2), (vi (x_a.length : Int)), (vb (decide (((k : Nat) : Int) < (x_a.length : Int)))), (vi ((k : Nat) : Int)), (vi (((k : Nat) : Int) + 1)), (vs a6 (List.replicate x_a.length z_PCredit).length c7), (vi ((k : Nat) : Int)), (vs a1 x_a.length c2), (vi ((k : Nat) : Int)), (ve (vs a1 x_a.length c2) ((((k : Nat) : Int)).toNat * 4)), (va (L_67 (x_a.getD k z_PCredit))), (va (L_67 (F_laws_toCredit (x_a.getD k z_PCredit)))), (ve (vs a6 (List.replicate x_a.length z_PCredit).length c7) ((((k : Nat) : Int)).toNat * 4)), U] rfl ?_ ?_ ?_
  · exact ⟨rfl, rfl, rfl, rfl, (congrArg (Value.int .i64) (show ((((k : Nat) : Int) + 1) : Int) = (((k + 1) : Nat) : Int) by omega)), rfl, rfl, rfl, rfl, rfl, rfl, rfl, rfl, rfl, rfl, rfl, rfl, rfl, rfl, rfl, rfl, rfl, rfl, trivial⟩
  · exact ⟨(k + 1), (vi ((k : Nat) : Int)), (vs a1 x_a.length c2), (vi (x_a.length : Int)), (vb (decide (((k : Nat) : Int) < (x_a.length : Int)))), (vi ((k : Nat) : Int)), (vi (((k : Nat) : Int) + 1)), (vs a6 (List.replicate x_a.length z_PCredit).length c7), (vi ((k : Nat) : Int)), (vs a1 x_a.length c2), (vi ((k : Nat) : Int)), (ve (vs a1 x_a.length c2) ((((k : Nat) : Int)).toNat * 4)), (va (L_67 (x_a.getD k z_PCredit))), (va (L_67 (F_laws_toCredit (x_a.getD k z_PCredit)))), (ve (vs a6 (List.replicate x_a.length z_PCredit).length c7) ((((k : Nat) : Int)).toNat * 4)), rfl, m24, ((((Ch.refl (fun k => w0.heap.size ≤ k) w1).ext k14 (fun k hk => Nat.le_trans (Nat.le_refl _) hk)).extk k19).ext k22 (fun k hk => Nat.le_trans (Nat.le_refl _) (own_lt o9 k hk).1)), (by omega), (by rw [← hE25]; exact o23)⟩
  · show x_a.length - ((((k + 1) : Nat) : Int)).toNat < x_a.length - (((k : Nat) : Int)).toNat; omega

def O_4 (w : World) (lo : Nat) (v : Value) (x : (Bool)) : Prop := v = .bool x
def F_spec_l1In (x_x : Int) (x_least : Int) (x_most : Int) : (Bool) := bif (decide (x_least ≤ x_x)) then (decide (x_x ≤ x_most)) else (false)
theorem C_spec_l1In (w0 : World) (x_x : Int) (x_least : Int) (x_most : Int)  : Fn Try.prog 50 #[(vi x_x), (vi x_least), (vi x_most)] w0 (fun v w' => Keep w0 w' ∧ O_4 w' w0.heap.size v (F_spec_l1In x_x x_least x_most)) := by
 refine fn_of (n := 15) (l := [(vi x_x), (vi x_least), (vi x_most), U, U, U, U, U, U, U, U, U, U, U, U]) Try.func50 rfl rfl (by kernel_rfl) rfl ?_
 refine sr ?_
 refine ag (vb false) wN ?_
 refine nx ?_
 refine mv (vi x_x) wN ?_
 refine mv (vi x_least) wN ?_
 refine pu (vb (decide (x_least ≤ x_x))) wN ?_
 refine mv (vb (decide (x_least ≤ x_x))) wN ?_
 rcases bf (decide (x_least ≤ x_x)) with h1 | h1
 ·have q4 := of_decide_eq_false h1
  refine sk h1 ?_
  refine sk h1 ?_
  refine sk h1 ?_
  refine pf (vb false) wN h1 ?_
  refine ag (vb false) wN ?_
  refine wl_nil <| wq_then <| wc_ret ?_
  refine ret_1 (.inl rfl) (vb false) rfl rfl ?_
  refine ⟨Ch.refl _ _, ?_⟩
  have hF5 : F_spec_l1In x_x x_least x_most = false := by simp only [F_spec_l1In, h1, cond_true, cond_false]
  rw [hF5]
  exact rfl
 have q2 := of_decide_eq_true h1
 refine mv (vi x_x) (wS h1) ?_
 refine mv (vi x_most) (wS h1) ?_
 refine pu (vb (decide (x_x ≤ x_most))) (wS h1) ?_
 refine pk (vb (decide (x_x ≤ x_most))) wN h1 ?_
 refine ag (vb (decide (x_x ≤ x_most))) wN ?_
 refine wl_nil <| wq_then <| wc_ret ?_
 refine ret_1 (.inl rfl) (vb (decide (x_x ≤ x_most))) rfl rfl ?_
 refine ⟨Ch.refl _ _, ?_⟩
 have hF3 : F_spec_l1In x_x x_least x_most = decide (x_x ≤ x_most) := by simp only [F_spec_l1In, h1, cond_true, cond_false]
 rw [hF3]
 exact rfl
theorem spec_l1In_t {n a b : Int} (h : F_spec_l1In n a b = true) : a ≤ n ∧ n ≤ b := by
  unfold F_spec_l1In at h
  by_cases h1 : a ≤ n <;> simp [h1] at h
  exact ⟨h1, h⟩
theorem spec_l1In_f {n a b : Int} (h : F_spec_l1In n a b = false) : n < a ∨ b < n := by
  unfold F_spec_l1In at h
  by_cases h1 : a ≤ n <;> simp [h1] at h <;> omega

def R_49 (w : World) (v : Value) (x : (PAddr)) : Prop := v = .agg #[.int .i64 x.Host, .int .i64 x.Port]
def F_spec_AddrOk (x_a : PAddr) : (Bool) := bif (F_spec_l1In x_a.Host 0 4294967295) then ((F_spec_l1In x_a.Port 0 65535)) else (false)
theorem C_spec_AddrOk (w0 : World) (v_x_a : Value) (x_a : PAddr) (r_x_a : R_49 w0 v_x_a x_a)  : Fn Try.prog 54 #[v_x_a] w0 (fun v w' => Keep w0 w' ∧ O_4 w' w0.heap.size v (F_spec_AddrOk x_a)) := by
 obtain rfl := r_x_a
 refine fn_of (n := 11) (l := [(va (L_49 x_a)), U, U, U, U, U, U, U, U, U, U]) Try.func54 rfl rfl (by kernel_rfl) rfl ?_
 refine sr ?_
 refine bx (L_49 x_a) wN ?_
 intro g1 w1 p2 p3 k4 b5
 have m6 := (Ch.base w0).extk k4
 refine ag (vb false) wN ?_
 refine nx ?_
 refine pu (vp g1 0) wN ?_
 refine ld (vi x_a.Host) wN isAgg_3 b5 ?_
 refine cl wN (C_spec_l1In w1 x_a.Host 0 4294967295) ?_
 rintro _ w2 ⟨k7, rfl⟩
 have m8 := m6.extk k7
 refine mv (vb (F_spec_l1In x_a.Host 0 4294967295)) wN ?_
 rcases bf (F_spec_l1In x_a.Host 0 4294967295) with h9 | h9
 ·have q15 := spec_l1In_f h9
  refine sk h9 ?_
  refine sk h9 ?_
  refine sk h9 ?_
  refine pf (vb false) wN h9 ?_
  refine ag (vb false) wN ?_
  refine wl_nil <| wq_then <| wc_ret ?_
  refine ret_1 (.inl rfl) (vb false) rfl rfl ?_
  refine ⟨m8.keep0, ?_⟩
  have hF16 : F_spec_AddrOk x_a = false := by simp only [F_spec_AddrOk, h9, cond_true, cond_false]
  rw [hF16]
  exact rfl
 have q10 := spec_l1In_t h9
 refine pu (vp g1 1) (wS h9) ?_
 have b11 := (b5.kp k7)
 refine ld (vi x_a.Port) (wS h9) isAgg_3 b11 ?_
 refine cl (wS h9) (C_spec_l1In w2 x_a.Port 0 65535) ?_
 rintro _ w3 ⟨k12, rfl⟩
 have m13 := m8.extk k12
 refine pk (vb (F_spec_l1In x_a.Port 0 65535)) wN h9 ?_
 refine ag (vb (F_spec_l1In x_a.Port 0 65535)) wN ?_
 refine wl_nil <| wq_then <| wc_ret ?_
 refine ret_1 (.inl rfl) (vb (F_spec_l1In x_a.Port 0 65535)) rfl rfl ?_
 refine ⟨m13.keep0, ?_⟩
 have hF14 : F_spec_AddrOk x_a = (F_spec_l1In x_a.Port 0 65535) := by simp only [F_spec_AddrOk, h9, cond_true, cond_false]
 rw [hF14]
 exact rfl

theorem fieldAt_67_0 : ∀ a w, (Instr.fieldAt 67 (.pointer (some a)) 0).run Try.prog w = .ok (.pointer (some (a.add 0))) w := fun a w => by kernel_rfl
theorem fieldAt_67_1 : ∀ a w, (Instr.fieldAt 67 (.pointer (some a)) 1).run Try.prog w = .ok (.pointer (some (a.add 2))) w := fun a w => by kernel_rfl
theorem fieldAt_67_2 : ∀ a w, (Instr.fieldAt 67 (.pointer (some a)) 2).run Try.prog w = .ok (.pointer (some (a.add 3))) w := fun a w => by kernel_rfl
theorem mixed : Try.prog.follows .mixedOrders = true := by kernel_rfl
theorem guardt_49 : Try.prog.eqGuardType Try.prog.depth 49 = false := by kernel_rfl
theorem aggeq_49 (x0 y0 : Int) (x1 y1 : Int) (w : World) : (Op.equalIn 10000 49 (.agg #[.int .i64 x0, .int .i64 x1]) (.agg #[.int .i64 y0, .int .i64 y1])).run Try.prog w = .ok ((decide (x0 = y0) && decide (x1 = y1))) w := by
  rw [run_equalIn_struct w 9999 49 _ _ (by kernel_rfl) (by kernel_rfl)]
  simp [Program.fieldsOf, Op.eqFields, go_sem, Try.underlying3, Try.underlying49]
  by_cases h0 : x0 = y0 <;> by_cases h1 : x1 = y1 <;> simp [*]
def R_44 (w : World) (v : Value) (x : (List PCredit)) : Prop := ∃ (a1 : Option Addr) (c1 : Nat), v = .slice a1 x.length c1 ∧ Rd w 4 (.slice a1 x.length c1) x.length (x.flatMap enc_PCredit) ∧ x.length ≤ 1073741824
theorem mR_49 {w : World} {x : PAddr} : R_49 w (va (L_49 x)) x := rfl
def sameJ (x_l : List PCredit) (i j : Nat) : Bool := !(decide ((x_l.getD j z_PCredit).A.Host = (x_l.getD i z_PCredit).A.Host) && decide ((x_l.getD j z_PCredit).A.Port = (x_l.getD i z_PCredit).A.Port))
def goodS (x_l : List PCredit) (i : Nat) : Bool := F_spec_AddrOk (x_l.getD i z_PCredit).A && (F_spec_l1In (x_l.getD i z_PCredit).Got 0 1000000 && (F_spec_l1In (x_l.getD i z_PCredit).Sent 0 (3 * (x_l.getD i z_PCredit).Got) && allN (sameJ x_l i) i))
def sCr (x_l : List PCredit) : Bool := bif decide (8 < (x_l.length : Int)) then false else allN (goodS x_l) x_l.length
theorem C_spec_CreditsOk (w0 : World) (v_x_l : Value) (x_l : List PCredit) (r_x_l : R_44 w0 v_x_l x_l)  : Fn Try.prog 35 #[v_x_l] w0 (fun v w' => Keep w0 w' ∧ O_4 w' w0.heap.size v (sCr x_l)) := by
 obtain ⟨a1, c2, rfl, r3, s4⟩ := r_x_l
 refine fn_of (n := 61) (l := [(vs a1 x_l.length c2), U, U, U, U, U, U, U, U, U, U, U, U, U, U, U, U, U, U, U, U, U, U, U, U, U, U, U, U, U, U, U, U, U, U, U, U, U, U, U, U, U, U, U, U, U, U, U, U, U, U, U, U, U, U, U, U, U, U, U, U]) Try.func35 rfl rfl (by kernel_rfl) rfl ?_
 refine sr ?_
 refine ag (vb false) wN ?_
 refine wl_nil <| wq_then <| wc_seq <| sr ?_
 refine mv (vs a1 x_l.length c2) wN ?_
 refine ln wN slTy_44 r3 ?_
 refine pu (vb (decide (8 < (x_l.length : Int)))) wN ?_
 refine wl_nil <| wq_then ?_
 rcases bt (decide (8 < (x_l.length : Int))) with h6 | h6
 ·have q7 := of_decide_eq_true h6
  refine ct h6 ?_
  refine sr ?_
  refine ag (vb false) wN ?_
  refine wl_nil <| wq_then <| wc_ret <| wq_then_ret ?_
  refine ret_1 (.inl rfl) (vb false) rfl rfl ?_
  refine ⟨Ch.refl _ _, ?_⟩
  have hF8 : sCr x_l = false := by simp [sCr, h6]
  rw [hF8]
  exact rfl
 have q9 := of_decide_eq_false h6
 refine cf h6 ?_
 refine wc_skip <| wq_then <| wc_seq <| sr ?_
 refine ag (vi 0) wN ?_
 refine wl_nil <| wq_then <| wc_block ?_
 refine wc_norm [(vs a1 x_l.length c2), U, (vb false), (vi 0), U, (vs a1 x_l.length c2), (vi (x_l.length : Int)), (vb (decide (8 < (x_l.length : Int)))), U, U, U, U, U, U, U, U, U, U, U, U, U, U, U, U, U, U, U, U, U, U, U, U, U, U, U, U, U, U, U, U, U, U, U, U, U, U, U, U, U, U, U, U, U, U, U, U, U, U, U, U, U] rfl ⟨rfl, rfl, rfl, rfl, rfl, rfl, rfl, rfl, rfl, rfl, rfl, rfl, rfl, rfl, rfl, rfl, rfl, rfl, rfl, rfl, rfl, rfl, rfl, rfl, rfl, rfl, rfl, rfl, rfl, rfl, rfl, rfl, rfl, rfl, rfl, rfl, rfl, rfl, rfl, rfl, rfl, rfl, rfl, rfl, rfl, rfl, rfl, rfl, rfl, rfl, rfl, rfl, rfl, rfl, rfl, rfl, rfl, rfl, rfl, rfl, rfl, trivial⟩ ?_
 refine wc_loop (fun e' w' => ∃ (k : Nat) (u2x u4x u8x u9x u10x u11x u12x u13x u14x u15x u16x u17x u18x u19x u20x u21x u22x u23x u24x u25x u26x u27x u28x u29x u30x u31x u32x u33x u34x u35x u36x u37x u38x u39x u40x u41x u42x u43x u44x u45x u46x u47x u48x u49x u50x u51x u52x u53x u54x u55x u56x u57x u58x u59x u60x : Value), e' = lst [(vs a1 x_l.length c2), U, u2x, (vi ((k : Nat) : Int)), u4x, (vs a1 x_l.length c2), (vi (x_l.length : Int)), (vb (decide (8 < (x_l.length : Int)))), u8x, u9x, u10x, u11x, u12x, u13x, u14x, u15x, u16x, u17x, u18x, u19x, u20x, u21x, u22x, u23x, u24x, u25x, u26x, u27x, u28x, u29x, u30x, u31x, u32x, u33x, u34x, u35x, u36x, u37x, u38x, u39x, u40x, u41x, u42x, u43x, u44x, u45x, u46x, u47x, u48x, u49x, u50x, u51x, u52x, u53x, u54x, u55x, u56x, u57x, u58x, u59x, u60x] ∧ Ch (fun k => w0.heap.size ≤ k) w0 w' ∧ Ch (fun k => w0.heap.size ≤ k) w0 w' ∧ k ≤ x_l.length ∧ ∀ j, j < k → goodS x_l j = true) (fun e' _ => x_l.length - ((intOf (e' 3))).toNat) ?_ ?_
 ·exact ⟨0, (vb false), U, U, U, U, U, U, U, U, U, U, U, U, U, U, U, U, U, U, U, U, U, U, U, U, U, U, U, U, U, U, U, U, U, U, U, U, U, U, U, U, U, U, U, U, U, U, U, U, U, U, U, U, U, U, (congrArg (fun (x3z : Value) => lst [(vs a1 x_l.length c2), U, (vb false), x3z, U, (vs a1 x_l.length c2), (vi (x_l.length : Int)), (vb (decide (8 < (x_l.length : Int)))), U, U, U, U, U, U, U, U, U, U, U, U, U, U, U, U, U, U, U, U, U, U, U, U, U, U, U, U, U, U, U, U, U, U, U, U, U, U, U, U, U, U, U, U, U, U, U, U, U, U, U, U, U]) (congrArg (Value.int .i64) (show (0 : Int) = ((0 : Nat) : Int) by omega))), (Ch.base w0), (Ch.refl (fun k => w0.heap.size ≤ k) w0), (by omega), (by first | (intro j hj; omega) | (have hy := allN_t (f := sameJ x_l k) (n := k) (k := j) (by assumption) (by omega); exact allN_next (by assumption) (by simp only [goodS, hy, h6]; simp; done)))⟩
 ·rintro _ w1 ⟨k, u2x, u4x, u8x, u9x, u10x, u11x, u12x, u13x, u14x, u15x, u16x, u17x, u18x, u19x, u20x, u21x, u22x, u23x, u24x, u25x, u26x, u27x, u28x, u29x, u30x, u31x, u32x, u33x, u34x, u35x, u36x, u37x, u38x, u39x, u40x, u41x, u42x, u43x, u44x, u45x, u46x, u47x, u48x, u49x, u50x, u51x, u52x, u53x, u54x, u55x, u56x, u57x, u58x, u59x, u60x, rfl, m10, k11, i12, i13⟩
  refine wc_seq <| sr ?_
  refine mv (vi ((k : Nat) : Int)) wN ?_
  refine mv (vs a1 x_l.length c2) wN ?_
  refine ln wN slTy_44 (r3.from0 m10) ?_
  refine pu (vb (decide (((k : Nat) : Int) < (x_l.length : Int)))) wN ?_
  refine wl_nil <| wq_then ?_
  rcases bf (decide (((k : Nat) : Int) < (x_l.length : Int))) with h14 | h14
  ·have q285 := of_decide_eq_false h14
   refine cf h14 ?_
   refine wc_exit <| wq_then_exit <| wq_then_exit <| wq_blk_exit <| wq_then <| sr ?_
   refine ag (vb true) wN ?_
   refine wl_nil <| wq_then <| wc_ret ?_
   refine ret_1 (.inl rfl) (vb true) rfl rfl ?_
   refine ⟨m10.keep0, ?_⟩
   have hF286 : sCr x_l = true := by have hz := allN_t (f := goodS x_l) (n := x_l.length) (k := k) (by assumption) (by omega); simp only [sCr, h6, h14, hz]; simp
   rw [hF286]
   exact rfl
  have q15 := of_decide_eq_true h14
  refine ct h14 ?_
  refine wc_skip <| wq_then <| wc_seq <| wc_block <| wc_seq <| wc_seq ?_
  rcases bf (F_spec_AddrOk ((x_l.getD k z_PCredit).A)) with h18 | h18
  ·refine wc_draw ([(14, [], [], (fun _ v _ => v = (vs a1 x_l.length c2))), (15, [], [], (fun _ v _ => v = (vi ((k : Nat) : Int)))), (16, [], [0, 1], (fun _ v _ => v = (ve (vs a1 x_l.length c2) ((((k : Nat) : Int)).toNat * 4)))), (17, [], [0, 1, 2], (fun _ v _ => v = (ve (vs a1 x_l.length c2) ((((k : Nat) : Int)).toNat * 4 + 0)))), (18, [], [0, 1, 2, 3], (fun _ v _ => v = (.agg #[(vi (((x_l.getD k z_PCredit).A).Host)), (vi (((x_l.getD k z_PCredit).A).Port))]))), (19, [], [0, 1, 2, 3, 4], (fun _ v w => v = .bool (F_spec_AddrOk ((x_l.getD k z_PCredit).A)))), (20, [], [0, 1, 2, 3, 4, 5], (fun _ v _ => v = (vb (!(F_spec_AddrOk ((x_l.getD k z_PCredit).A)))))), (21, [], [0, 1, 2, 3, 4, 5, 6], (fun _ v _ => v = (vb (!(F_spec_AddrOk ((x_l.getD k z_PCredit).A)))))), (22, [], [0, 1, 2, 3, 4, 5, 6, 7], (fun _ v _ => v = U)), (23, [], [0, 1, 2, 3, 4, 5, 6, 7], (fun _ v _ => v = U)), (24, [], [0, 1, 2, 3, 4, 5, 6, 7, 8, 9], (fun _ v _ => v = U)), (25, [], [0, 1, 2, 3, 4, 5, 6, 7, 8, 9, 10], (fun _ v _ => v = U)), (26, [], [0, 1, 2, 3, 4, 5, 6, 7, 8, 9, 10, 11], (fun _ v _ => v = U)), (27, [], [0, 1, 2, 3, 4, 5, 6, 7, 8, 9, 10, 11, 12], (fun _ v _ => v = U)), (28, [], [0, 1, 2, 3, 4, 5, 6, 7, 8, 9, 10, 11, 12, 13], (fun _ v _ => v = U)), (29, [], [0, 1, 2, 3, 4, 5, 6, 7, 8, 9, 10, 11, 12, 13, 14], (fun _ v _ => v = (vb true))), (30, [], [0, 1, 2, 3, 4, 5, 6, 7, 8, 9, 10, 11, 12, 13, 14, 15], (fun _ v _ => v = (vb true))), (31, [], [0, 1, 2, 3, 4, 5, 6, 7, 8, 9, 10, 11, 12, 13, 14, 15, 16], (fun _ v _ => v = U)), (32, [], [0, 1, 2, 3, 4, 5, 6, 7, 8, 9, 10, 11, 12, 13, 14, 15, 16], (fun _ v _ => v = U)), (33, [], [0, 1, 2, 3, 4, 5, 6, 7, 8, 9, 10, 11, 12, 13, 14, 15, 16, 17, 18], (fun _ v _ => v = U)), (34, [], [0, 1, 2, 3, 4, 5, 6, 7, 8, 9, 10, 11, 12, 13, 14, 15, 16, 17, 18, 19], (fun _ v _ => v = U)), (35, [], [0, 1, 2, 3, 4, 5, 6, 7, 8, 9, 10, 11, 12, 13, 14, 15, 16, 17, 18, 19, 20], (fun _ v _ => v = U)), (36, [], [0, 1, 2, 3, 4, 5, 6, 7, 8, 9, 10, 11, 12, 13, 14, 15, 16], (fun _ v _ => v = U)), (37, [], [0, 1, 2, 3, 4, 5, 6, 7, 8, 9, 10, 11, 12, 13, 14, 15, 16], (fun _ v _ => v = U)), (38, [], [0, 1, 2, 3, 4, 5, 6, 7, 8, 9, 10, 11, 12, 13, 14, 15, 16, 22, 23], (fun _ v _ => v = U)), (39, [], [0, 1, 2, 3, 4, 5, 6, 7, 8, 9, 10, 11, 12, 13, 14, 15, 16, 22, 23, 24], (fun _ v _ => v = U)), (40, [], [0, 1, 2, 3, 4, 5, 6, 7, 8, 9, 10, 11, 12, 13, 14, 15, 16, 22, 23, 24, 25], (fun _ v _ => v = U)), (41, [], [0, 1, 2, 3, 4, 5, 6, 7, 8, 9, 10, 11, 12, 13, 14, 15, 16, 22, 23, 24, 25, 26], (fun _ v _ => v = U)), (42, [], [0, 1, 2, 3, 4, 5, 6, 7, 8, 9, 10, 11, 12, 13, 14, 15, 16, 17, 18, 19, 20, 21, 22, 23, 24, 25, 26, 27], (fun _ v _ => v = U)), (43, [], [0, 1, 2, 3, 4, 5, 6, 7, 8, 9, 10, 11, 12, 13, 14, 15, 16, 17, 18, 19, 20, 21, 22, 23, 24, 25, 26, 27, 28], (fun _ v _ => v = U)), (44, [], [0, 1, 2, 3, 4, 5, 6, 7, 8, 9, 10, 11, 12, 13, 14, 15, 16, 17, 18, 19, 20, 21, 22, 23, 24, 25, 26, 27, 28, 29], (fun _ v _ => v = (vb true)))] : GV) mixed rfl (by kernel_rfl) (by kernel_rfl) ?_ ?_ ?_
   · exact ⟨(fun _ _ _ _ h _ => h), (fun _ _ _ _ _ h => h), ⟨(fun _ _ _ _ h _ => h), (fun _ _ _ _ _ h => h), ⟨(fun _ _ _ _ h _ => h), (fun _ _ _ _ _ h => h), ⟨(fun _ _ _ _ h _ => h), (fun _ _ _ _ _ h => h), ⟨(fun _ _ _ _ h _ => h), (fun _ _ _ _ _ h => h), ⟨(fun _ _ _ _ h _ => h), (fun _ _ _ _ _ h => h), ⟨(fun _ _ _ _ h _ => h), (fun _ _ _ _ _ h => h), ⟨(fun _ _ _ _ h _ => h), (fun _ _ _ _ _ h => h), ⟨(fun _ _ _ _ h _ => h), (fun _ _ _ _ _ h => h), ⟨(fun _ _ _ _ h _ => h), (fun _ _ _ _ _ h => h), ⟨(fun _ _ _ _ h _ => h), (fun _ _ _ _ _ h => h), ⟨(fun _ _ _ _ h _ => h), (fun _ _ _ _ _ h => h), ⟨(fun _ _ _ _ h _ => h), (fun _ _ _ _ _ h => h), ⟨(fun _ _ _ _ h _ => h), (fun _ _ _ _ _ h => h), ⟨(fun _ _ _ _ h _ => h), (fun _ _ _ _ _ h => h), ⟨(fun _ _ _ _ h _ => h), (fun _ _ _ _ _ h => h), ⟨(fun _ _ _ _ h _ => h), (fun _ _ _ _ _ h => h), ⟨(fun _ _ _ _ h _ => h), (fun _ _ _ _ _ h => h), ⟨(fun _ _ _ _ h _ => h), (fun _ _ _ _ _ h => h), ⟨(fun _ _ _ _ h _ => h), (fun _ _ _ _ _ h => h), ⟨(fun _ _ _ _ h _ => h), (fun _ _ _ _ _ h => h), ⟨(fun _ _ _ _ h _ => h), (fun _ _ _ _ _ h => h), ⟨(fun _ _ _ _ h _ => h), (fun _ _ _ _ _ h => h), ⟨(fun _ _ _ _ h _ => h), (fun _ _ _ _ _ h => h), ⟨(fun _ _ _ _ h _ => h), (fun _ _ _ _ _ h => h), ⟨(fun _ _ _ _ h _ => h), (fun _ _ _ _ _ h => h), ⟨(fun _ _ _ _ h _ => h), (fun _ _ _ _ _ h => h), ⟨(fun _ _ _ _ h _ => h), (fun _ _ _ _ _ h => h), ⟨(fun _ _ _ _ h _ => h), (fun _ _ _ _ _ h => h), ⟨(fun _ _ _ _ h _ => h), (fun _ _ _ _ _ h => h), ⟨(fun _ _ _ _ h _ => h), (fun _ _ _ _ _ h => h), trivial⟩⟩⟩⟩⟩⟩⟩⟩⟩⟩⟩⟩⟩⟩⟩⟩⟩⟩⟩⟩⟩⟩⟩⟩⟩⟩⟩⟩⟩⟩⟩
   ·refine ⟨?_, ⟨?_, ⟨?_, ⟨?_, ⟨?_, ⟨?_, ⟨?_, ⟨?_, ⟨?_, ⟨?_, ⟨?_, ⟨?_, ⟨?_, ⟨?_, ⟨?_, ⟨?_, ⟨?_, ⟨?_, ⟨?_, ⟨?_, ⟨?_, ⟨?_, ⟨?_, ⟨?_, ⟨?_, ⟨?_, ⟨?_, ⟨?_, ⟨?_, ⟨?_, ⟨?_, trivial⟩⟩⟩⟩⟩⟩⟩⟩⟩⟩⟩⟩⟩⟩⟩⟩⟩⟩⟩⟩⟩⟩⟩⟩⟩⟩⟩⟩⟩⟩⟩
    ·intro w2 k218
     have m219 := m10.extk k218
     rintro _ _ _ _ _ _ _ _ _ _ _ _ _ _ _ _ _ _ _ _ _ _ _ _ _ _ _ _ _ _ _
     show WL _ _ _ _ _ _ _
     refine mv (vs a1 x_l.length c2) wN ?_
     exact wl_fin (Ch.refl _ _) rfl
    ·intro w2 k220
     have m221 := m10.extk k220
     rintro _ _ _ _ _ _ _ _ _ _ _ _ _ _ _ _ _ _ _ _ _ _ _ _ _ _ _ _ _ _ _
     show WL _ _ _ _ _ _ _
     refine mv (vi ((k : Nat) : Int)) wN ?_
     exact wl_fin (Ch.refl _ _) rfl
    ·intro w2 k222
     have m223 := m10.extk k222
     rintro _ rfl _ rfl _ _ _ _ _ _ _ _ _ _ _ _ _ _ _ _ _ _ _ _ _ _ _ _ _ _ _ _ _
     show WL _ _ _ _ _ _ _
     refine wl_index wN ((k : Nat) : Int) rfl rfl rfl slTy_44 rfl rfl (r3.from0 m223) (by first | omega | (simp only [List.length_cons, List.length_nil, List.length_replicate, List.length_append, List.length_take, List.length_set, List.length_map]; omega)) (by first | omega | (simp only [List.length_cons, List.length_nil, List.length_replicate, List.length_append, List.length_take, List.length_set, List.length_map]; omega)) ?_
     exact wl_fin (Ch.refl _ _) rfl
    ·intro w2 k224
     have m225 := m10.extk k224
     rintro _ rfl _ rfl _ rfl _ _ _ _ _ _ _ _ _ _ _ _ _ _ _ _ _ _ _ _ _ _ _ _ _ _ _ _
     show WL _ _ _ _ _ _ _
     refine wl_fieldE wN rfl rfl rfl fieldAt_67_0 rfl (r3.from0 m225) (by omega) ?_
     exact wl_fin (Ch.refl _ _) rfl
    ·intro w2 k226
     have m227 := m10.extk k226
     rintro _ rfl _ rfl _ rfl _ rfl _ _ _ _ _ _ _ _ _ _ _ _ _ _ _ _ _ _ _ _ _ _ _ _ _ _ _
     show WL _ _ _ _ _ _ _
     refine wl_loadEN [(vi (((x_l.getD k z_PCredit).A).Host)), (vi (((x_l.getD k z_PCredit).A).Port))] wN rfl rfl rfl rfl isAgg_49 sizeOf_49 (r3.from0 m227) (by first | omega | (simp only [List.length_cons, List.length_nil, List.length_replicate, List.length_append, List.length_take, List.length_set, List.length_map]; omega)) ((rows_part (off := 0) (n := 2) enc_PCredit_len z_PCredit (by first | rfl | simp | omega) (by decide) (by first | omega | (simp only [List.length_cons, List.length_nil, List.length_replicate, List.length_append, List.length_take, List.length_set, List.length_map]; omega))).trans rfl) ?_
     exact wl_fin (Ch.refl _ _) rfl
    ·intro w2 k228
     have m229 := m10.extk k228
     rintro _ rfl _ rfl _ rfl _ rfl _ rfl _ _ _ _ _ _ _ _ _ _ _ _ _ _ _ _ _ _ _ _ _ _ _ _ _ _
     show WL _ _ _ _ _ _ _
     refine cl wN (C_spec_AddrOk w2 _ ((x_l.getD k z_PCredit).A) (mR_49)) ?_
     rintro _ w3 ⟨k230, rfl⟩
     have m231 := m229.extk k230
     exact wl_fin k230 rfl
    ·intro w2 k232
     have m233 := m10.extk k232
     rintro _ rfl _ rfl _ rfl _ rfl _ rfl _ rfl _ _ _ _ _ _ _ _ _ _ _ _ _ _ _ _ _ _ _ _ _ _ _ _ _
     show WL _ _ _ _ _ _ _
     refine pu (vb (!(F_spec_AddrOk ((x_l.getD k z_PCredit).A)))) wN ?_
     exact wl_fin (Ch.refl _ _) rfl
    ·intro w2 k234
     have m235 := m10.extk k234
     rintro _ rfl _ rfl _ rfl _ rfl _ rfl _ rfl _ rfl _ _ _ _ _ _ _ _ _ _ _ _ _ _ _ _ _ _ _ _ _ _ _ _
     show WL _ _ _ _ _ _ _
     refine mv (vb (!(F_spec_AddrOk ((x_l.getD k z_PCredit).A)))) wN ?_
     exact wl_fin (Ch.refl _ _) rfl
    ·intro w2 k236
     have m237 := m10.extk k236
     rintro _ rfl _ rfl _ rfl _ rfl _ rfl _ rfl _ rfl _ rfl _ _ _ _ _ _ _ _ _ _ _ _ _ _ _ _ _ _ _ _ _ _ _
     show WL _ _ _ _ _ _ _
     refine sk (congrArg not h18) ?_
     exact wl_fin (Ch.refl _ _) rfl
    ·intro w2 k238
     have m239 := m10.extk k238
     rintro _ rfl _ rfl _ rfl _ rfl _ rfl _ rfl _ rfl _ rfl _ _ _ _ _ _ _ _ _ _ _ _ _ _ _ _ _ _ _ _ _ _ _
     show WL _ _ _ _ _ _ _
     refine sk (congrArg not h18) ?_
     exact wl_fin (Ch.refl _ _) rfl
    ·intro w2 k240
     have m241 := m10.extk k240
     rintro _ rfl _ rfl _ rfl _ rfl _ rfl _ rfl _ rfl _ rfl _ rfl _ rfl _ _ _ _ _ _ _ _ _ _ _ _ _ _ _ _ _ _ _ _ _
     show WL _ _ _ _ _ _ _
     refine sk (congrArg not h18) ?_
     exact wl_fin (Ch.refl _ _) rfl
    ·intro w2 k242
     have m243 := m10.extk k242
     rintro _ rfl _ rfl _ rfl _ rfl _ rfl _ rfl _ rfl _ rfl _ rfl _ rfl _ rfl _ _ _ _ _ _ _ _ _ _ _ _ _ _ _ _ _ _ _ _
     show WL _ _ _ _ _ _ _
     refine sk (congrArg not h18) ?_
     exact wl_fin (Ch.refl _ _) rfl
    ·intro w2 k244
     have m245 := m10.extk k244
     rintro _ rfl _ rfl _ rfl _ rfl _ rfl _ rfl _ rfl _ rfl _ rfl _ rfl _ rfl _ rfl _ _ _ _ _ _ _ _ _ _ _ _ _ _ _ _ _ _ _
     show WL _ _ _ _ _ _ _
     refine sk (congrArg not h18) ?_
     exact wl_fin (Ch.refl _ _) rfl
    ·intro w2 k246
     have m247 := m10.extk k246
     rintro _ rfl _ rfl _ rfl _ rfl _ rfl _ rfl _ rfl _ rfl _ rfl _ rfl _ rfl _ rfl _ rfl _ _ _ _ _ _ _ _ _ _ _ _ _ _ _ _ _ _
     show WL _ _ _ _ _ _ _
     refine sk (congrArg not h18) ?_
     exact wl_fin (Ch.refl _ _) rfl
    ·intro w2 k248
     have m249 := m10.extk k248
     rintro _ rfl _ rfl _ rfl _ rfl _ rfl _ rfl _ rfl _ rfl _ rfl _ rfl _ rfl _ rfl _ rfl _ rfl _ _ _ _ _ _ _ _ _ _ _ _ _ _ _ _ _
     show WL _ _ _ _ _ _ _
     refine sk (congrArg not h18) ?_
     exact wl_fin (Ch.refl _ _) rfl
    ·intro w2 k250
     have m251 := m10.extk k250
     rintro _ rfl _ rfl _ rfl _ rfl _ rfl _ rfl _ rfl _ rfl _ rfl _ rfl _ rfl _ rfl _ rfl _ rfl _ rfl _ _ _ _ _ _ _ _ _ _ _ _ _ _ _ _
     show WL _ _ _ _ _ _ _
     refine pk (vb true) wN (congrArg not h18) ?_
     exact wl_fin (Ch.refl _ _) rfl
    ·intro w2 k252
     have m253 := m10.extk k252
     rintro _ rfl _ rfl _ rfl _ rfl _ rfl _ rfl _ rfl _ rfl _ rfl _ rfl _ rfl _ rfl _ rfl _ rfl _ rfl _ rfl _ _ _ _ _ _ _ _ _ _ _ _ _ _ _
     show WL _ _ _ _ _ _ _
     refine mv (vb true) wN ?_
     exact wl_fin (Ch.refl _ _) rfl
    ·intro w2 k254
     have m255 := m10.extk k254
     rintro _ rfl _ rfl _ rfl _ rfl _ rfl _ rfl _ rfl _ rfl _ rfl _ rfl _ rfl _ rfl _ rfl _ rfl _ rfl _ rfl _ rfl _ _ _ _ _ _ _ _ _ _ _ _ _ _
     show WL _ _ _ _ _ _ _
     refine sk (Eq.refl true) ?_
     exact wl_fin (Ch.refl _ _) rfl
    ·intro w2 k256
     have m257 := m10.extk k256
     rintro _ rfl _ rfl _ rfl _ rfl _ rfl _ rfl _ rfl _ rfl _ rfl _ rfl _ rfl _ rfl _ rfl _ rfl _ rfl _ rfl _ rfl _ _ _ _ _ _ _ _ _ _ _ _ _ _
     show WL _ _ _ _ _ _ _
     refine sk (Eq.refl true) ?_
     exact wl_fin (Ch.refl _ _) rfl
    ·intro w2 k258
     have m259 := m10.extk k258
     rintro _ rfl _ rfl _ rfl _ rfl _ rfl _ rfl _ rfl _ rfl _ rfl _ rfl _ rfl _ rfl _ rfl _ rfl _ rfl _ rfl _ rfl _ rfl _ rfl _ _ _ _ _ _ _ _ _ _ _ _
     show WL _ _ _ _ _ _ _
     refine sk (Eq.refl true) ?_
     exact wl_fin (Ch.refl _ _) rfl
    ·intro w2 k260
     have m261 := m10.extk k260
     rintro _ rfl _ rfl _ rfl _ rfl _ rfl _ rfl _ rfl _ rfl _ rfl _ rfl _ rfl _ rfl _ rfl _ rfl _ rfl _ rfl _ rfl _ rfl _ rfl _ rfl _ _ _ _ _ _ _ _ _ _ _
     show WL _ _ _ _ _ _ _
     refine sk (Eq.refl true) ?_
     exact wl_fin (Ch.refl _ _) rfl
    ·intro w2 k262
     have m263 := m10.extk k262
     rintro _ rfl _ rfl _ rfl _ rfl _ rfl _ rfl _ rfl _ rfl _ rfl _ rfl _ rfl _ rfl _ rfl _ rfl _ rfl _ rfl _ rfl _ rfl _ rfl _ rfl _ rfl _ _ _ _ _ _ _ _ _ _
     show WL _ _ _ _ _ _ _
     refine sk (Eq.refl true) ?_
     exact wl_fin (Ch.refl _ _) rfl
    ·intro w2 k264
     have m265 := m10.extk k264
     rintro _ rfl _ rfl _ rfl _ rfl _ rfl _ rfl _ rfl _ rfl _ rfl _ rfl _ rfl _ rfl _ rfl _ rfl _ rfl _ rfl _ rfl _ _ _ _ _ _ _ _ _ _ _ _ _ _
     show WL _ _ _ _ _ _ _
     refine sk (Eq.refl true) ?_
     exact wl_fin (Ch.refl _ _) rfl
    ·intro w2 k266
     have m267 := m10.extk k266
     rintro _ rfl _ rfl _ rfl _ rfl _ rfl _ rfl _ rfl _ rfl _ rfl _ rfl _ rfl _ rfl _ rfl _ rfl _ rfl _ rfl _ rfl _ _ _ _ _ _ _ _ _ _ _ _ _ _
     show WL _ _ _ _ _ _ _
     refine sk (Eq.refl true) ?_
     exact wl_fin (Ch.refl _ _) rfl
    ·intro w2 k268
     have m269 := m10.extk k268
     rintro _ rfl _ rfl _ rfl _ rfl _ rfl _ rfl _ rfl _ rfl _ rfl _ rfl _ rfl _ rfl _ rfl _ rfl _ rfl _ rfl _ rfl _ _ _ _ _ _ rfl _ rfl _ _ _ _ _ _ _
     show WL _ _ _ _ _ _ _
     refine sk (Eq.refl true) ?_
     exact wl_fin (Ch.refl _ _) rfl
    ·intro w2 k270
     have m271 := m10.extk k270
     rintro _ rfl _ rfl _ rfl _ rfl _ rfl _ rfl _ rfl _ rfl _ rfl _ rfl _ rfl _ rfl _ rfl _ rfl _ rfl _ rfl _ rfl _ _ _ _ _ _ rfl _ rfl _ rfl _ _ _ _ _ _
     show WL _ _ _ _ _ _ _
     refine sk (Eq.refl true) ?_
     exact wl_fin (Ch.refl _ _) rfl
    ·intro w2 k272
     have m273 := m10.extk k272
     rintro _ rfl _ rfl _ rfl _ rfl _ rfl _ rfl _ rfl _ rfl _ rfl _ rfl _ rfl _ rfl _ rfl _ rfl _ rfl _ rfl _ rfl _ _ _ _ _ _ rfl _ rfl _ rfl _ rfl _ _ _ _ _
     show WL _ _ _ _ _ _ _
     refine sk (Eq.refl true) ?_
     exact wl_fin (Ch.refl _ _) rfl
    ·intro w2 k274
     have m275 := m10.extk k274
     rintro _ rfl _ rfl _ rfl _ rfl _ rfl _ rfl _ rfl _ rfl _ rfl _ rfl _ rfl _ rfl _ rfl _ rfl _ rfl _ rfl _ rfl _ _ _ _ _ _ rfl _ rfl _ rfl _ rfl _ rfl _ _ _ _
     show WL _ _ _ _ _ _ _
     refine sk (Eq.refl true) ?_
     exact wl_fin (Ch.refl _ _) rfl
    ·intro w2 k276
     have m277 := m10.extk k276
     rintro _ rfl _ rfl _ rfl _ rfl _ rfl _ rfl _ rfl _ rfl _ rfl _ rfl _ rfl _ rfl _ rfl _ rfl _ rfl _ rfl _ rfl _ rfl _ rfl _ rfl _ rfl _ rfl _ rfl _ rfl _ rfl _ rfl _ rfl _ rfl _ _ _
     show WL _ _ _ _ _ _ _
     refine sk (Eq.refl true) ?_
     exact wl_fin (Ch.refl _ _) rfl
    ·intro w2 k278
     have m279 := m10.extk k278
     rintro _ rfl _ rfl _ rfl _ rfl _ rfl _ rfl _ rfl _ rfl _ rfl _ rfl _ rfl _ rfl _ rfl _ rfl _ rfl _ rfl _ rfl _ rfl _ rfl _ rfl _ rfl _ rfl _ rfl _ rfl _ rfl _ rfl _ rfl _ rfl _ rfl _ _
     show WL _ _ _ _ _ _ _
     refine sk (Eq.refl true) ?_
     exact wl_fin (Ch.refl _ _) rfl
    ·intro w2 k280
     have m281 := m10.extk k280
     rintro _ rfl _ rfl _ rfl _ rfl _ rfl _ rfl _ rfl _ rfl _ rfl _ rfl _ rfl _ rfl _ rfl _ rfl _ rfl _ rfl _ rfl _ rfl _ rfl _ rfl _ rfl _ rfl _ rfl _ rfl _ rfl _ rfl _ rfl _ rfl _ rfl _ rfl _
     show WL _ _ _ _ _ _ _
     refine pk (vb true) wN (Eq.refl true) ?_
     exact wl_fin (Ch.refl _ _) rfl
   ·intro w2 k282
    have m283 := m10.extk k282
    rintro _ rfl _ rfl _ rfl _ rfl _ rfl _ rfl _ rfl _ rfl _ rfl _ rfl _ rfl _ rfl _ rfl _ rfl _ rfl _ rfl _ rfl _ rfl _ rfl _ rfl _ rfl _ rfl _ rfl _ rfl _ rfl _ rfl _ rfl _ rfl _ rfl _ rfl _ rfl
    show WL _ _ _ _ _ _ _
    refine wl_nil <| wq_then ?_
    refine ct (Eq.refl true) ?_
    refine sr ?_
    refine ag (vb false) wN ?_
    refine wl_nil <| wq_then <| wc_ret <| wq_then_ret <| wq_blk_ret <| wq_then_ret <| wq_then_ret <| wq_blk_ret <| wq_then_ret ?_
    refine ret_1 (.inl rfl) (vb false) rfl rfl ?_
    refine ⟨m283.keep0, ?_⟩
    have hF284 : sCr x_l = false := by have hz := allN_f (f := goodS x_l) (n := x_l.length) (k := k) (by omega) (by simp only [goodS, h6, h14, h18]; simp); simp only [sCr, h6, h14, h18, hz]; simp
    rw [hF284]
    exact rfl
  rcases bf (F_spec_l1In ((x_l.getD k z_PCredit).Got) 0 1000000) with h24 | h24
  ·have q141 := spec_l1In_f h24
   refine wc_draw ([(14, [], [], (fun _ v _ => v = (vs a1 x_l.length c2))), (15, [], [], (fun _ v _ => v = (vi ((k : Nat) : Int)))), (16, [], [0, 1], (fun _ v _ => v = (ve (vs a1 x_l.length c2) ((((k : Nat) : Int)).toNat * 4)))), (17, [], [0, 1, 2], (fun _ v _ => v = (ve (vs a1 x_l.length c2) ((((k : Nat) : Int)).toNat * 4 + 0)))), (18, [], [0, 1, 2, 3], (fun _ v _ => v = (.agg #[(vi (((x_l.getD k z_PCredit).A).Host)), (vi (((x_l.getD k z_PCredit).A).Port))]))), (19, [], [0, 1, 2, 3, 4], (fun _ v w => v = .bool (F_spec_AddrOk ((x_l.getD k z_PCredit).A)))), (20, [], [0, 1, 2, 3, 4, 5], (fun _ v _ => v = (vb (!(F_spec_AddrOk ((x_l.getD k z_PCredit).A)))))), (21, [], [0, 1, 2, 3, 4, 5, 6], (fun _ v _ => v = (vb (!(F_spec_AddrOk ((x_l.getD k z_PCredit).A)))))), (22, [], [0, 1, 2, 3, 4, 5, 6, 7], (fun _ v _ => v = (vs a1 x_l.length c2))), (23, [], [0, 1, 2, 3, 4, 5, 6, 7], (fun _ v _ => v = (vi ((k : Nat) : Int)))), (24, [], [0, 1, 2, 3, 4, 5, 6, 7, 8, 9], (fun _ v _ => v = (ve (vs a1 x_l.length c2) ((((k : Nat) : Int)).toNat * 4)))), (25, [], [0, 1, 2, 3, 4, 5, 6, 7, 8, 9, 10], (fun _ v _ => v = (ve (vs a1 x_l.length c2) ((((k : Nat) : Int)).toNat * 4 + 2)))), (26, [], [0, 1, 2, 3, 4, 5, 6, 7, 8, 9, 10, 11], (fun _ v _ => v = (vi ((x_l.getD k z_PCredit).Got)))), (27, [], [0, 1, 2, 3, 4, 5, 6, 7, 8, 9, 10, 11, 12], (fun _ v w => v = .bool (F_spec_l1In ((x_l.getD k z_PCredit).Got) 0 1000000))), (28, [], [0, 1, 2, 3, 4, 5, 6, 7, 8, 9, 10, 11, 12, 13], (fun _ v _ => v = (vb (!(F_spec_l1In ((x_l.getD k z_PCredit).Got) 0 1000000))))), (29, [], [0, 1, 2, 3, 4, 5, 6, 7, 8, 9, 10, 11, 12, 13, 14], (fun _ v _ => v = (vb (!(F_spec_l1In ((x_l.getD k z_PCredit).Got) 0 1000000))))), (30, [], [0, 1, 2, 3, 4, 5, 6, 7, 8, 9, 10, 11, 12, 13, 14, 15], (fun _ v _ => v = (vb (!(F_spec_l1In ((x_l.getD k z_PCredit).Got) 0 1000000))))), (31, [], [0, 1, 2, 3, 4, 5, 6, 7, 8, 9, 10, 11, 12, 13, 14, 15, 16], (fun _ v _ => v = U)), (32, [], [0, 1, 2, 3, 4, 5, 6, 7, 8, 9, 10, 11, 12, 13, 14, 15, 16], (fun _ v _ => v = U)), (33, [], [0, 1, 2, 3, 4, 5, 6, 7, 8, 9, 10, 11, 12, 13, 14, 15, 16, 17, 18], (fun _ v _ => v = U)), (34, [], [0, 1, 2, 3, 4, 5, 6, 7, 8, 9, 10, 11, 12, 13, 14, 15, 16, 17, 18, 19], (fun _ v _ => v = U)), (35, [], [0, 1, 2, 3, 4, 5, 6, 7, 8, 9, 10, 11, 12, 13, 14, 15, 16, 17, 18, 19, 20], (fun _ v _ => v = U)), (36, [], [0, 1, 2, 3, 4, 5, 6, 7, 8, 9, 10, 11, 12, 13, 14, 15, 16], (fun _ v _ => v = U)), (37, [], [0, 1, 2, 3, 4, 5, 6, 7, 8, 9, 10, 11, 12, 13, 14, 15, 16], (fun _ v _ => v = U)), (38, [], [0, 1, 2, 3, 4, 5, 6, 7, 8, 9, 10, 11, 12, 13, 14, 15, 16, 22, 23], (fun _ v _ => v = U)), (39, [], [0, 1, 2, 3, 4, 5, 6, 7, 8, 9, 10, 11, 12, 13, 14, 15, 16, 22, 23, 24], (fun _ v _ => v = U)), (40, [], [0, 1, 2, 3, 4, 5, 6, 7, 8, 9, 10, 11, 12, 13, 14, 15, 16, 22, 23, 24, 25], (fun _ v _ => v = U)), (41, [], [0, 1, 2, 3, 4, 5, 6, 7, 8, 9, 10, 11, 12, 13, 14, 15, 16, 22, 23, 24, 25, 26], (fun _ v _ => v = U)), (42, [], [0, 1, 2, 3, 4, 5, 6, 7, 8, 9, 10, 11, 12, 13, 14, 15, 16, 17, 18, 19, 20, 21, 22, 23, 24, 25, 26, 27], (fun _ v _ => v = U)), (43, [], [0, 1, 2, 3, 4, 5, 6, 7, 8, 9, 10, 11, 12, 13, 14, 15, 16, 17, 18, 19, 20, 21, 22, 23, 24, 25, 26, 27, 28], (fun _ v _ => v = U)), (44, [], [0, 1, 2, 3, 4, 5, 6, 7, 8, 9, 10, 11, 12, 13, 14, 15, 16, 17, 18, 19, 20, 21, 22, 23, 24, 25, 26, 27, 28, 29], (fun _ v _ => v = (vb true)))] : GV) mixed rfl (by kernel_rfl) (by kernel_rfl) ?_ ?_ ?_
   · exact ⟨(fun _ _ _ _ h _ => h), (fun _ _ _ _ _ h => h), ⟨(fun _ _ _ _ h _ => h), (fun _ _ _ _ _ h => h), ⟨(fun _ _ _ _ h _ => h), (fun _ _ _ _ _ h => h), ⟨(fun _ _ _ _ h _ => h), (fun _ _ _ _ _ h => h), ⟨(fun _ _ _ _ h _ => h), (fun _ _ _ _ _ h => h), ⟨(fun _ _ _ _ h _ => h), (fun _ _ _ _ _ h => h), ⟨(fun _ _ _ _ h _ => h), (fun _ _ _ _ _ h => h), ⟨(fun _ _ _ _ h _ => h), (fun _ _ _ _ _ h => h), ⟨(fun _ _ _ _ h _ => h), (fun _ _ _ _ _ h => h), ⟨(fun _ _ _ _ h _ => h), (fun _ _ _ _ _ h => h), ⟨(fun _ _ _ _ h _ => h), (fun _ _ _ _ _ h => h), ⟨(fun _ _ _ _ h _ => h), (fun _ _ _ _ _ h => h), ⟨(fun _ _ _ _ h _ => h), (fun _ _ _ _ _ h => h), ⟨(fun _ _ _ _ h _ => h), (fun _ _ _ _ _ h => h), ⟨(fun _ _ _ _ h _ => h), (fun _ _ _ _ _ h => h), ⟨(fun _ _ _ _ h _ => h), (fun _ _ _ _ _ h => h), ⟨(fun _ _ _ _ h _ => h), (fun _ _ _ _ _ h => h), ⟨(fun _ _ _ _ h _ => h), (fun _ _ _ _ _ h => h), ⟨(fun _ _ _ _ h _ => h), (fun _ _ _ _ _ h => h), ⟨(fun _ _ _ _ h _ => h), (fun _ _ _ _ _ h => h), ⟨(fun _ _ _ _ h _ => h), (fun _ _ _ _ _ h => h), ⟨(fun _ _ _ _ h _ => h), (fun _ _ _ _ _ h => h), ⟨(fun _ _ _ _ h _ => h), (fun _ _ _ _ _ h => h), ⟨(fun _ _ _ _ h _ => h), (fun _ _ _ _ _ h => h), ⟨(fun _ _ _ _ h _ => h), (fun _ _ _ _ _ h => h), ⟨(fun _ _ _ _ h _ => h), (fun _ _ _ _ _ h => h), ⟨(fun _ _ _ _ h _ => h), (fun _ _ _ _ _ h => h), ⟨(fun _ _ _ _ h _ => h), (fun _ _ _ _ _ h => h), ⟨(fun _ _ _ _ h _ => h), (fun _ _ _ _ _ h => h), ⟨(fun _ _ _ _ h _ => h), (fun _ _ _ _ _ h => h), ⟨(fun _ _ _ _ h _ => h), (fun _ _ _ _ _ h => h), trivial⟩⟩⟩⟩⟩⟩⟩⟩⟩⟩⟩⟩⟩⟩⟩⟩⟩⟩⟩⟩⟩⟩⟩⟩⟩⟩⟩⟩⟩⟩⟩
   ·refine ⟨?_, ⟨?_, ⟨?_, ⟨?_, ⟨?_, ⟨?_, ⟨?_, ⟨?_, ⟨?_, ⟨?_, ⟨?_, ⟨?_, ⟨?_, ⟨?_, ⟨?_, ⟨?_, ⟨?_, ⟨?_, ⟨?_, ⟨?_, ⟨?_, ⟨?_, ⟨?_, ⟨?_, ⟨?_, ⟨?_, ⟨?_, ⟨?_, ⟨?_, ⟨?_, ⟨?_, trivial⟩⟩⟩⟩⟩⟩⟩⟩⟩⟩⟩⟩⟩⟩⟩⟩⟩⟩⟩⟩⟩⟩⟩⟩⟩⟩⟩⟩⟩⟩⟩
    ·intro w2 k146
     have m147 := m10.extk k146
     rintro _ _ _ _ _ _ _ _ _ _ _ _ _ _ _ _ _ _ _ _ _ _ _ _ _ _ _ _ _ _ _
     show WL _ _ _ _ _ _ _
     refine mv (vs a1 x_l.length c2) wN ?_
     exact wl_fin (Ch.refl _ _) rfl
    ·intro w2 k148
     have m149 := m10.extk k148
     rintro _ _ _ _ _ _ _ _ _ _ _ _ _ _ _ _ _ _ _ _ _ _ _ _ _ _ _ _ _ _ _
     show WL _ _ _ _ _ _ _
     refine mv (vi ((k : Nat) : Int)) wN ?_
     exact wl_fin (Ch.refl _ _) rfl
    ·intro w2 k150
     have m151 := m10.extk k150
     rintro _ rfl _ rfl _ _ _ _ _ _ _ _ _ _ _ _ _ _ _ _ _ _ _ _ _ _ _ _ _ _ _ _ _
     show WL _ _ _ _ _ _ _
     refine wl_index wN ((k : Nat) : Int) rfl rfl rfl slTy_44 rfl rfl (r3.from0 m151) (by first | omega | (simp only [List.length_cons, List.length_nil, List.length_replicate, List.length_append, List.length_take, List.length_set, List.length_map]; omega)) (by first | omega | (simp only [List.length_cons, List.length_nil, List.length_replicate, List.length_append, List.length_take, List.length_set, List.length_map]; omega)) ?_
     exact wl_fin (Ch.refl _ _) rfl
    ·intro w2 k152
     have m153 := m10.extk k152
     rintro _ rfl _ rfl _ rfl _ _ _ _ _ _ _ _ _ _ _ _ _ _ _ _ _ _ _ _ _ _ _ _ _ _ _ _
     show WL _ _ _ _ _ _ _
     refine wl_fieldE wN rfl rfl rfl fieldAt_67_0 rfl (r3.from0 m153) (by omega) ?_
     exact wl_fin (Ch.refl _ _) rfl
    ·intro w2 k154
     have m155 := m10.extk k154
     rintro _ rfl _ rfl _ rfl _ rfl _ _ _ _ _ _ _ _ _ _ _ _ _ _ _ _ _ _ _ _ _ _ _ _ _ _ _
     show WL _ _ _ _ _ _ _
     refine wl_loadEN [(vi (((x_l.getD k z_PCredit).A).Host)), (vi (((x_l.getD k z_PCredit).A).Port))] wN rfl rfl rfl rfl isAgg_49 sizeOf_49 (r3.from0 m155) (by first | omega | (simp only [List.length_cons, List.length_nil, List.length_replicate, List.length_append, List.length_take, List.length_set, List.length_map]; omega)) ((rows_part (off := 0) (n := 2) enc_PCredit_len z_PCredit (by first | rfl | simp | omega) (by decide) (by first | omega | (simp only [List.length_cons, List.length_nil, List.length_replicate, List.length_append, List.length_take, List.length_set, List.length_map]; omega))).trans rfl) ?_
     exact wl_fin (Ch.refl _ _) rfl
    ·intro w2 k156
     have m157 := m10.extk k156
     rintro _ rfl _ rfl _ rfl _ rfl _ rfl _ _ _ _ _ _ _ _ _ _ _ _ _ _ _ _ _ _ _ _ _ _ _ _ _ _
     show WL _ _ _ _ _ _ _
     refine cl wN (C_spec_AddrOk w2 _ ((x_l.getD k z_PCredit).A) (mR_49)) ?_
     rintro _ w3 ⟨k158, rfl⟩
     have m159 := m157.extk k158
     exact wl_fin k158 rfl
    ·intro w2 k160
     have m161 := m10.extk k160
     rintro _ rfl _ rfl _ rfl _ rfl _ rfl _ rfl _ _ _ _ _ _ _ _ _ _ _ _ _ _ _ _ _ _ _ _ _ _ _ _ _
     show WL _ _ _ _ _ _ _
     refine pu (vb (!(F_spec_AddrOk ((x_l.getD k z_PCredit).A)))) wN ?_
     exact wl_fin (Ch.refl _ _) rfl
    ·intro w2 k162
     have m163 := m10.extk k162
     rintro _ rfl _ rfl _ rfl _ rfl _ rfl _ rfl _ rfl _ _ _ _ _ _ _ _ _ _ _ _ _ _ _ _ _ _ _ _ _ _ _ _
     show WL _ _ _ _ _ _ _
     refine mv (vb (!(F_spec_AddrOk ((x_l.getD k z_PCredit).A)))) wN ?_
     exact wl_fin (Ch.refl _ _) rfl
    ·intro w2 k164
     have m165 := m10.extk k164
     rintro _ rfl _ rfl _ rfl _ rfl _ rfl _ rfl _ rfl _ rfl _ _ _ _ _ _ _ _ _ _ _ _ _ _ _ _ _ _ _ _ _ _ _
     show WL _ _ _ _ _ _ _
     refine mv (vs a1 x_l.length c2) (wS (congrArg not h18)) ?_
     exact wl_fin (Ch.refl _ _) rfl
    ·intro w2 k166
     have m167 := m10.extk k166
     rintro _ rfl _ rfl _ rfl _ rfl _ rfl _ rfl _ rfl _ rfl _ _ _ _ _ _ _ _ _ _ _ _ _ _ _ _ _ _ _ _ _ _ _
     show WL _ _ _ _ _ _ _
     refine mv (vi ((k : Nat) : Int)) (wS (congrArg not h18)) ?_
     exact wl_fin (Ch.refl _ _) rfl
    ·intro w2 k168
     have m169 := m10.extk k168
     rintro _ rfl _ rfl _ rfl _ rfl _ rfl _ rfl _ rfl _ rfl _ rfl _ rfl _ _ _ _ _ _ _ _ _ _ _ _ _ _ _ _ _ _ _ _ _
     show WL _ _ _ _ _ _ _
     refine wl_index (wS (congrArg not h18)) ((k : Nat) : Int) rfl rfl rfl slTy_44 rfl rfl (r3.from0 m169) (by first | omega | (simp only [List.length_cons, List.length_nil, List.length_replicate, List.length_append, List.length_take, List.length_set, List.length_map]; omega)) (by first | omega | (simp only [List.length_cons, List.length_nil, List.length_replicate, List.length_append, List.length_take, List.length_set, List.length_map]; omega)) ?_
     exact wl_fin (Ch.refl _ _) rfl
    ·intro w2 k170
     have m171 := m10.extk k170
     rintro _ rfl _ rfl _ rfl _ rfl _ rfl _ rfl _ rfl _ rfl _ rfl _ rfl _ rfl _ _ _ _ _ _ _ _ _ _ _ _ _ _ _ _ _ _ _ _
     show WL _ _ _ _ _ _ _
     refine wl_fieldE (wS (congrArg not h18)) rfl rfl rfl fieldAt_67_1 rfl (r3.from0 m171) (by omega) ?_
     exact wl_fin (Ch.refl _ _) rfl
    ·intro w2 k172
     have m173 := m10.extk k172
     rintro _ rfl _ rfl _ rfl _ rfl _ rfl _ rfl _ rfl _ rfl _ rfl _ rfl _ rfl _ rfl _ _ _ _ _ _ _ _ _ _ _ _ _ _ _ _ _ _ _
     show WL _ _ _ _ _ _ _
     refine wl_loadE (vi ((x_l.getD k z_PCredit).Got)) (wS (congrArg not h18)) rfl rfl rfl rfl isAgg_3 (r3.from0 m173) ((rows_get (i := 2) enc_PCredit_len z_PCredit (by first | rfl | simp | omega) (by decide) (by first | omega | (simp only [List.length_cons, List.length_nil, List.length_replicate, List.length_append, List.length_take, List.length_set, List.length_map]; omega))).trans rfl) ?_
     exact wl_fin (Ch.refl _ _) rfl
    ·intro w2 k174
     have m175 := m10.extk k174
     rintro _ rfl _ rfl _ rfl _ rfl _ rfl _ rfl _ rfl _ rfl _ rfl _ rfl _ rfl _ rfl _ rfl _ _ _ _ _ _ _ _ _ _ _ _ _ _ _ _ _ _
     show WL _ _ _ _ _ _ _
     refine cl (wS (congrArg not h18)) (C_spec_l1In w2 ((x_l.getD k z_PCredit).Got) 0 1000000) ?_
     rintro _ w3 ⟨k176, rfl⟩
     have m177 := m175.extk k176
     exact wl_fin k176 rfl
    ·intro w2 k178
     have m179 := m10.extk k178
     rintro _ rfl _ rfl _ rfl _ rfl _ rfl _ rfl _ rfl _ rfl _ rfl _ rfl _ rfl _ rfl _ rfl _ rfl _ _ _ _ _ _ _ _ _ _ _ _ _ _ _ _ _
     show WL _ _ _ _ _ _ _
     refine pu (vb (!(F_spec_l1In ((x_l.getD k z_PCredit).Got) 0 1000000))) (wS (congrArg not h18)) ?_
     exact wl_fin (Ch.refl _ _) rfl
    ·intro w2 k180
     have m181 := m10.extk k180
     rintro _ rfl _ rfl _ rfl _ rfl _ rfl _ rfl _ rfl _ rfl _ rfl _ rfl _ rfl _ rfl _ rfl _ rfl _ rfl _ _ _ _ _ _ _ _ _ _ _ _ _ _ _ _
     show WL _ _ _ _ _ _ _
     refine pf (vb (!(F_spec_l1In ((x_l.getD k z_PCredit).Got) 0 1000000))) wN (congrArg not h18) ?_
     exact wl_fin (Ch.refl _ _) rfl
    ·intro w2 k182
     have m183 := m10.extk k182
     rintro _ rfl _ rfl _ rfl _ rfl _ rfl _ rfl _ rfl _ rfl _ rfl _ rfl _ rfl _ rfl _ rfl _ rfl _ rfl _ rfl _ _ _ _ _ _ _ _ _ _ _ _ _ _ _
     show WL _ _ _ _ _ _ _
     refine mv (vb (!(F_spec_l1In ((x_l.getD k z_PCredit).Got) 0 1000000))) wN ?_
     exact wl_fin (Ch.refl _ _) rfl
    ·intro w2 k184
     have m185 := m10.extk k184
     rintro _ rfl _ rfl _ rfl _ rfl _ rfl _ rfl _ rfl _ rfl _ rfl _ rfl _ rfl _ rfl _ rfl _ rfl _ rfl _ rfl _ rfl _ _ _ _ _ _ _ _ _ _ _ _ _ _
     show WL _ _ _ _ _ _ _
     refine sk (congrArg not h24) ?_
     exact wl_fin (Ch.refl _ _) rfl
    ·intro w2 k186
     have m187 := m10.extk k186
     rintro _ rfl _ rfl _ rfl _ rfl _ rfl _ rfl _ rfl _ rfl _ rfl _ rfl _ rfl _ rfl _ rfl _ rfl _ rfl _ rfl _ rfl _ _ _ _ _ _ _ _ _ _ _ _ _ _
     show WL _ _ _ _ _ _ _
     refine sk (congrArg not h24) ?_
     exact wl_fin (Ch.refl _ _) rfl
    ·intro w2 k188
     have m189 := m10.extk k188
     rintro _ rfl _ rfl _ rfl _ rfl _ rfl _ rfl _ rfl _ rfl _ rfl _ rfl _ rfl _ rfl _ rfl _ rfl _ rfl _ rfl _ rfl _ rfl _ rfl _ _ _ _ _ _ _ _ _ _ _ _
     show WL _ _ _ _ _ _ _
     refine sk (congrArg not h24) ?_
     exact wl_fin (Ch.refl _ _) rfl
    ·intro w2 k190
     have m191 := m10.extk k190
     rintro _ rfl _ rfl _ rfl _ rfl _ rfl _ rfl _ rfl _ rfl _ rfl _ rfl _ rfl _ rfl _ rfl _ rfl _ rfl _ rfl _ rfl _ rfl _ rfl _ rfl _ _ _ _ _ _ _ _ _ _ _
     show WL _ _ _ _ _ _ _
     refine sk (congrArg not h24) ?_
     exact wl_fin (Ch.refl _ _) rfl
    ·intro w2 k192
     have m193 := m10.extk k192
     rintro _ rfl _ rfl _ rfl _ rfl _ rfl _ rfl _ rfl _ rfl _ rfl _ rfl _ rfl _ rfl _ rfl _ rfl _ rfl _ rfl _ rfl _ rfl _ rfl _ rfl _ rfl _ _ _ _ _ _ _ _ _ _
     show WL _ _ _ _ _ _ _
     refine sk (congrArg not h24) ?_
     exact wl_fin (Ch.refl _ _) rfl
    ·intro w2 k194
     have m195 := m10.extk k194
     rintro _ rfl _ rfl _ rfl _ rfl _ rfl _ rfl _ rfl _ rfl _ rfl _ rfl _ rfl _ rfl _ rfl _ rfl _ rfl _ rfl _ rfl _ _ _ _ _ _ _ _ _ _ _ _ _ _
     show WL _ _ _ _ _ _ _
     refine sk (congrArg not h24) ?_
     exact wl_fin (Ch.refl _ _) rfl
    ·intro w2 k196
     have m197 := m10.extk k196
     rintro _ rfl _ rfl _ rfl _ rfl _ rfl _ rfl _ rfl _ rfl _ rfl _ rfl _ rfl _ rfl _ rfl _ rfl _ rfl _ rfl _ rfl _ _ _ _ _ _ _ _ _ _ _ _ _ _
     show WL _ _ _ _ _ _ _
     refine sk (congrArg not h24) ?_
     exact wl_fin (Ch.refl _ _) rfl
    ·intro w2 k198
     have m199 := m10.extk k198
     rintro _ rfl _ rfl _ rfl _ rfl _ rfl _ rfl _ rfl _ rfl _ rfl _ rfl _ rfl _ rfl _ rfl _ rfl _ rfl _ rfl _ rfl _ _ _ _ _ _ rfl _ rfl _ _ _ _ _ _ _
     show WL _ _ _ _ _ _ _
     refine sk (congrArg not h24) ?_
     exact wl_fin (Ch.refl _ _) rfl
    ·intro w2 k200
     have m201 := m10.extk k200
     rintro _ rfl _ rfl _ rfl _ rfl _ rfl _ rfl _ rfl _ rfl _ rfl _ rfl _ rfl _ rfl _ rfl _ rfl _ rfl _ rfl _ rfl _ _ _ _ _ _ rfl _ rfl _ rfl _ _ _ _ _ _
     show WL _ _ _ _ _ _ _
     refine sk (congrArg not h24) ?_
     exact wl_fin (Ch.refl _ _) rfl
    ·intro w2 k202
     have m203 := m10.extk k202
     rintro _ rfl _ rfl _ rfl _ rfl _ rfl _ rfl _ rfl _ rfl _ rfl _ rfl _ rfl _ rfl _ rfl _ rfl _ rfl _ rfl _ rfl _ _ _ _ _ _ rfl _ rfl _ rfl _ rfl _ _ _ _ _
     show WL _ _ _ _ _ _ _
     refine sk (congrArg not h24) ?_
     exact wl_fin (Ch.refl _ _) rfl
    ·intro w2 k204
     have m205 := m10.extk k204
     rintro _ rfl _ rfl _ rfl _ rfl _ rfl _ rfl _ rfl _ rfl _ rfl _ rfl _ rfl _ rfl _ rfl _ rfl _ rfl _ rfl _ rfl _ _ _ _ _ _ rfl _ rfl _ rfl _ rfl _ rfl _ _ _ _
     show WL _ _ _ _ _ _ _
     refine sk (congrArg not h24) ?_
     exact wl_fin (Ch.refl _ _) rfl
    ·intro w2 k206
     have m207 := m10.extk k206
     rintro _ rfl _ rfl _ rfl _ rfl _ rfl _ rfl _ rfl _ rfl _ rfl _ rfl _ rfl _ rfl _ rfl _ rfl _ rfl _ rfl _ rfl _ rfl _ rfl _ rfl _ rfl _ rfl _ rfl _ rfl _ rfl _ rfl _ rfl _ rfl _ _ _
     show WL _ _ _ _ _ _ _
     refine sk (congrArg not h24) ?_
     exact wl_fin (Ch.refl _ _) rfl
    ·intro w2 k208
     have m209 := m10.extk k208
     rintro _ rfl _ rfl _ rfl _ rfl _ rfl _ rfl _ rfl _ rfl _ rfl _ rfl _ rfl _ rfl _ rfl _ rfl _ rfl _ rfl _ rfl _ rfl _ rfl _ rfl _ rfl _ rfl _ rfl _ rfl _ rfl _ rfl _ rfl _ rfl _ rfl _ _
     show WL _ _ _ _ _ _ _
     refine sk (congrArg not h24) ?_
     exact wl_fin (Ch.refl _ _) rfl
    ·intro w2 k210
     have m211 := m10.extk k210
     rintro _ rfl _ rfl _ rfl _ rfl _ rfl _ rfl _ rfl _ rfl _ rfl _ rfl _ rfl _ rfl _ rfl _ rfl _ rfl _ rfl _ rfl _ rfl _ rfl _ rfl _ rfl _ rfl _ rfl _ rfl _ rfl _ rfl _ rfl _ rfl _ rfl _ rfl _
     show WL _ _ _ _ _ _ _
     refine pk (vb true) wN (congrArg not h24) ?_
     exact wl_fin (Ch.refl _ _) rfl
   ·intro w2 k212
    have m213 := m10.extk k212
    rintro _ rfl _ rfl _ rfl _ rfl _ rfl _ rfl _ rfl _ rfl _ rfl _ rfl _ rfl _ rfl _ rfl _ rfl _ rfl _ rfl _ rfl _ rfl _ rfl _ rfl _ rfl _ rfl _ rfl _ rfl _ rfl _ rfl _ rfl _ rfl _ rfl _ rfl _ rfl
    show WL _ _ _ _ _ _ _
    refine wl_nil <| wq_then ?_
    refine ct (Eq.refl true) ?_
    refine sr ?_
    refine ag (vb false) wN ?_
    refine wl_nil <| wq_then <| wc_ret <| wq_then_ret <| wq_blk_ret <| wq_then_ret <| wq_then_ret <| wq_blk_ret <| wq_then_ret ?_
    refine ret_1 (.inl rfl) (vb false) rfl rfl ?_
    refine ⟨m213.keep0, ?_⟩
    have hF214 : sCr x_l = false := by have hz := allN_f (f := goodS x_l) (n := x_l.length) (k := k) (by omega) (by simp only [goodS, h6, h14, h18, h24]; simp); simp only [sCr, h6, h14, h18, h24, hz]; simp
    rw [hF214]
    exact rfl
  have q25 := spec_l1In_t h24
  refine wc_draw ([(14, [], [], (fun _ v _ => v = (vs a1 x_l.length c2))), (15, [], [], (fun _ v _ => v = (vi ((k : Nat) : Int)))), (16, [], [0, 1], (fun _ v _ => v = (ve (vs a1 x_l.length c2) ((((k : Nat) : Int)).toNat * 4)))), (17, [], [0, 1, 2], (fun _ v _ => v = (ve (vs a1 x_l.length c2) ((((k : Nat) : Int)).toNat * 4 + 0)))), (18, [], [0, 1, 2, 3], (fun _ v _ => v = (.agg #[(vi (((x_l.getD k z_PCredit).A).Host)), (vi (((x_l.getD k z_PCredit).A).Port))]))), (19, [], [0, 1, 2, 3, 4], (fun _ v w => v = .bool (F_spec_AddrOk ((x_l.getD k z_PCredit).A)))), (20, [], [0, 1, 2, 3, 4, 5], (fun _ v _ => v = (vb (!(F_spec_AddrOk ((x_l.getD k z_PCredit).A)))))), (21, [], [0, 1, 2, 3, 4, 5, 6], (fun _ v _ => v = (vb (!(F_spec_AddrOk ((x_l.getD k z_PCredit).A)))))), (22, [], [0, 1, 2, 3, 4, 5, 6, 7], (fun _ v _ => v = (vs a1 x_l.length c2))), (23, [], [0, 1, 2, 3, 4, 5, 6, 7], (fun _ v _ => v = (vi ((k : Nat) : Int)))), (24, [], [0, 1, 2, 3, 4, 5, 6, 7, 8, 9], (fun _ v _ => v = (ve (vs a1 x_l.length c2) ((((k : Nat) : Int)).toNat * 4)))), (25, [], [0, 1, 2, 3, 4, 5, 6, 7, 8, 9, 10], (fun _ v _ => v = (ve (vs a1 x_l.length c2) ((((k : Nat) : Int)).toNat * 4 + 2)))), (26, [], [0, 1, 2, 3, 4, 5, 6, 7, 8, 9, 10, 11], (fun _ v _ => v = (vi ((x_l.getD k z_PCredit).Got)))), (27, [], [0, 1, 2, 3, 4, 5, 6, 7, 8, 9, 10, 11, 12], (fun _ v w => v = .bool (F_spec_l1In ((x_l.getD k z_PCredit).Got) 0 1000000))), (28, [], [0, 1, 2, 3, 4, 5, 6, 7, 8, 9, 10, 11, 12, 13], (fun _ v _ => v = (vb (!(F_spec_l1In ((x_l.getD k z_PCredit).Got) 0 1000000))))), (29, [], [0, 1, 2, 3, 4, 5, 6, 7, 8, 9, 10, 11, 12, 13, 14], (fun _ v _ => v = (vb (!(F_spec_l1In ((x_l.getD k z_PCredit).Got) 0 1000000))))), (30, [], [0, 1, 2, 3, 4, 5, 6, 7, 8, 9, 10, 11, 12, 13, 14, 15], (fun _ v _ => v = (vb (!(F_spec_l1In ((x_l.getD k z_PCredit).Got) 0 1000000))))), (31, [], [0, 1, 2, 3, 4, 5, 6, 7, 8, 9, 10, 11, 12, 13, 14, 15, 16], (fun _ v _ => v = (vs a1 x_l.length c2))), (32, [], [0, 1, 2, 3, 4, 5, 6, 7, 8, 9, 10, 11, 12, 13, 14, 15, 16], (fun _ v _ => v = (vi ((k : Nat) : Int)))), (33, [], [0, 1, 2, 3, 4, 5, 6, 7, 8, 9, 10, 11, 12, 13, 14, 15, 16, 17, 18], (fun _ v _ => v = (ve (vs a1 x_l.length c2) ((((k : Nat) : Int)).toNat * 4)))), (34, [], [0, 1, 2, 3, 4, 5, 6, 7, 8, 9, 10, 11, 12, 13, 14, 15, 16, 17, 18, 19], (fun _ v _ => v = (ve (vs a1 x_l.length c2) ((((k : Nat) : Int)).toNat * 4 + 3)))), (35, [], [0, 1, 2, 3, 4, 5, 6, 7, 8, 9, 10, 11, 12, 13, 14, 15, 16, 17, 18, 19, 20], (fun _ v _ => v = (vi ((x_l.getD k z_PCredit).Sent)))), (36, [], [0, 1, 2, 3, 4, 5, 6, 7, 8, 9, 10, 11, 12, 13, 14, 15, 16], (fun _ v _ => v = (vs a1 x_l.length c2))), (37, [], [0, 1, 2, 3, 4, 5, 6, 7, 8, 9, 10, 11, 12, 13, 14, 15, 16], (fun _ v _ => v = (vi ((k : Nat) : Int)))), (38, [], [0, 1, 2, 3, 4, 5, 6, 7, 8, 9, 10, 11, 12, 13, 14, 15, 16, 22, 23], (fun _ v _ => v = (ve (vs a1 x_l.length c2) ((((k : Nat) : Int)).toNat * 4)))), (39, [], [0, 1, 2, 3, 4, 5, 6, 7, 8, 9, 10, 11, 12, 13, 14, 15, 16, 22, 23, 24], (fun _ v _ => v = (ve (vs a1 x_l.length c2) ((((k : Nat) : Int)).toNat * 4 + 2)))), (40, [], [0, 1, 2, 3, 4, 5, 6, 7, 8, 9, 10, 11, 12, 13, 14, 15, 16, 22, 23, 24, 25], (fun _ v _ => v = (vi ((x_l.getD k z_PCredit).Got)))), (41, [], [0, 1, 2, 3, 4, 5, 6, 7, 8, 9, 10, 11, 12, 13, 14, 15, 16, 22, 23, 24, 25, 26], (fun _ v _ => v = (vi (3 * ((x_l.getD k z_PCredit).Got))))), (42, [], [0, 1, 2, 3, 4, 5, 6, 7, 8, 9, 10, 11, 12, 13, 14, 15, 16, 17, 18, 19, 20, 21, 22, 23, 24, 25, 26, 27], (fun _ v w => v = .bool (F_spec_l1In ((x_l.getD k z_PCredit).Sent) 0 (3 * ((x_l.getD k z_PCredit).Got))))), (43, [], [0, 1, 2, 3, 4, 5, 6, 7, 8, 9, 10, 11, 12, 13, 14, 15, 16, 17, 18, 19, 20, 21, 22, 23, 24, 25, 26, 27, 28], (fun _ v _ => v = (vb (!(F_spec_l1In ((x_l.getD k z_PCredit).Sent) 0 (3 * ((x_l.getD k z_PCredit).Got))))))), (44, [], [0, 1, 2, 3, 4, 5, 6, 7, 8, 9, 10, 11, 12, 13, 14, 15, 16, 17, 18, 19, 20, 21, 22, 23, 24, 25, 26, 27, 28, 29], (fun _ v _ => v = (vb (!(F_spec_l1In ((x_l.getD k z_PCredit).Sent) 0 (3 * ((x_l.getD k z_PCredit).Got)))))))] : GV) mixed rfl (by kernel_rfl) (by kernel_rfl) ?_ ?_ ?_
  · exact ⟨(fun _ _ _ _ h _ => h), (fun _ _ _ _ _ h => h), ⟨(fun _ _ _ _ h _ => h), (fun _ _ _ _ _ h => h), ⟨(fun _ _ _ _ h _ => h), (fun _ _ _ _ _ h => h), ⟨(fun _ _ _ _ h _ => h), (fun _ _ _ _ _ h => h), ⟨(fun _ _ _ _ h _ => h), (fun _ _ _ _ _ h => h), ⟨(fun _ _ _ _ h _ => h), (fun _ _ _ _ _ h => h), ⟨(fun _ _ _ _ h _ => h), (fun _ _ _ _ _ h => h), ⟨(fun _ _ _ _ h _ => h), (fun _ _ _ _ _ h => h), ⟨(fun _ _ _ _ h _ => h), (fun _ _ _ _ _ h => h), ⟨(fun _ _ _ _ h _ => h), (fun _ _ _ _ _ h => h), ⟨(fun _ _ _ _ h _ => h), (fun _ _ _ _ _ h => h), ⟨(fun _ _ _ _ h _ => h), (fun _ _ _ _ _ h => h), ⟨(fun _ _ _ _ h _ => h), (fun _ _ _ _ _ h => h), ⟨(fun _ _ _ _ h _ => h), (fun _ _ _ _ _ h => h), ⟨(fun _ _ _ _ h _ => h), (fun _ _ _ _ _ h => h), ⟨(fun _ _ _ _ h _ => h), (fun _ _ _ _ _ h => h), ⟨(fun _ _ _ _ h _ => h), (fun _ _ _ _ _ h => h), ⟨(fun _ _ _ _ h _ => h), (fun _ _ _ _ _ h => h), ⟨(fun _ _ _ _ h _ => h), (fun _ _ _ _ _ h => h), ⟨(fun _ _ _ _ h _ => h), (fun _ _ _ _ _ h => h), ⟨(fun _ _ _ _ h _ => h), (fun _ _ _ _ _ h => h), ⟨(fun _ _ _ _ h _ => h), (fun _ _ _ _ _ h => h), ⟨(fun _ _ _ _ h _ => h), (fun _ _ _ _ _ h => h), ⟨(fun _ _ _ _ h _ => h), (fun _ _ _ _ _ h => h), ⟨(fun _ _ _ _ h _ => h), (fun _ _ _ _ _ h => h), ⟨(fun _ _ _ _ h _ => h), (fun _ _ _ _ _ h => h), ⟨(fun _ _ _ _ h _ => h), (fun _ _ _ _ _ h => h), ⟨(fun _ _ _ _ h _ => h), (fun _ _ _ _ _ h => h), ⟨(fun _ _ _ _ h _ => h), (fun _ _ _ _ _ h => h), ⟨(fun _ _ _ _ h _ => h), (fun _ _ _ _ _ h => h), ⟨(fun _ _ _ _ h _ => h), (fun _ _ _ _ _ h => h), trivial⟩⟩⟩⟩⟩⟩⟩⟩⟩⟩⟩⟩⟩⟩⟩⟩⟩⟩⟩⟩⟩⟩⟩⟩⟩⟩⟩⟩⟩⟩⟩
  ·refine ⟨?_, ⟨?_, ⟨?_, ⟨?_, ⟨?_, ⟨?_, ⟨?_, ⟨?_, ⟨?_, ⟨?_, ⟨?_, ⟨?_, ⟨?_, ⟨?_, ⟨?_, ⟨?_, ⟨?_, ⟨?_, ⟨?_, ⟨?_, ⟨?_, ⟨?_, ⟨?_, ⟨?_, ⟨?_, ⟨?_, ⟨?_, ⟨?_, ⟨?_, ⟨?_, ⟨?_, trivial⟩⟩⟩⟩⟩⟩⟩⟩⟩⟩⟩⟩⟩⟩⟩⟩⟩⟩⟩⟩⟩⟩⟩⟩⟩⟩⟩⟩⟩⟩⟩
   ·intro w2 k32
    have m33 := m10.extk k32
    rintro _ _ _ _ _ _ _ _ _ _ _ _ _ _ _ _ _ _ _ _ _ _ _ _ _ _ _ _ _ _ _
    show WL _ _ _ _ _ _ _
    refine mv (vs a1 x_l.length c2) wN ?_
    exact wl_fin (Ch.refl _ _) rfl
   ·intro w2 k34
    have m35 := m10.extk k34
    rintro _ _ _ _ _ _ _ _ _ _ _ _ _ _ _ _ _ _ _ _ _ _ _ _ _ _ _ _ _ _ _
    show WL _ _ _ _ _ _ _
    refine mv (vi ((k : Nat) : Int)) wN ?_
    exact wl_fin (Ch.refl _ _) rfl
   ·intro w2 k36
    have m37 := m10.extk k36
    rintro _ rfl _ rfl _ _ _ _ _ _ _ _ _ _ _ _ _ _ _ _ _ _ _ _ _ _ _ _ _ _ _ _ _
    show WL _ _ _ _ _ _ _
    refine wl_index wN ((k : Nat) : Int) rfl rfl rfl slTy_44 rfl rfl (r3.from0 m37) (by first | omega | (simp only [List.length_cons, List.length_nil, List.length_replicate, List.length_append, List.length_take, List.length_set, List.length_map]; omega)) (by first | omega | (simp only [List.length_cons, List.length_nil, List.length_replicate, List.length_append, List.length_take, List.length_set, List.length_map]; omega)) ?_
    exact wl_fin (Ch.refl _ _) rfl
   ·intro w2 k38
    have m39 := m10.extk k38
    rintro _ rfl _ rfl _ rfl _ _ _ _ _ _ _ _ _ _ _ _ _ _ _ _ _ _ _ _ _ _ _ _ _ _ _ _
    show WL _ _ _ _ _ _ _
    refine wl_fieldE wN rfl rfl rfl fieldAt_67_0 rfl (r3.from0 m39) (by omega) ?_
    exact wl_fin (Ch.refl _ _) rfl
   ·intro w2 k40
    have m41 := m10.extk k40
    rintro _ rfl _ rfl _ rfl _ rfl _ _ _ _ _ _ _ _ _ _ _ _ _ _ _ _ _ _ _ _ _ _ _ _ _ _ _
    show WL _ _ _ _ _ _ _
    refine wl_loadEN [(vi (((x_l.getD k z_PCredit).A).Host)), (vi (((x_l.getD k z_PCredit).A).Port))] wN rfl rfl rfl rfl isAgg_49 sizeOf_49 (r3.from0 m41) (by first | omega | (simp only [List.length_cons, List.length_nil, List.length_replicate, List.length_append, List.length_take, List.length_set, List.length_map]; omega)) ((rows_part (off := 0) (n := 2) enc_PCredit_len z_PCredit (by first | rfl | simp | omega) (by decide) (by first | omega | (simp only [List.length_cons, List.length_nil, List.length_replicate, List.length_append, List.length_take, List.length_set, List.length_map]; omega))).trans rfl) ?_
    exact wl_fin (Ch.refl _ _) rfl
   ·intro w2 k42
    have m43 := m10.extk k42
    rintro _ rfl _ rfl _ rfl _ rfl _ rfl _ _ _ _ _ _ _ _ _ _ _ _ _ _ _ _ _ _ _ _ _ _ _ _ _ _
    show WL _ _ _ _ _ _ _
    refine cl wN (C_spec_AddrOk w2 _ ((x_l.getD k z_PCredit).A) (mR_49)) ?_
    rintro _ w3 ⟨k44, rfl⟩
    have m45 := m43.extk k44
    exact wl_fin k44 rfl
   ·intro w2 k46
    have m47 := m10.extk k46
    rintro _ rfl _ rfl _ rfl _ rfl _ rfl _ rfl _ _ _ _ _ _ _ _ _ _ _ _ _ _ _ _ _ _ _ _ _ _ _ _ _
    show WL _ _ _ _ _ _ _
    refine pu (vb (!(F_spec_AddrOk ((x_l.getD k z_PCredit).A)))) wN ?_
    exact wl_fin (Ch.refl _ _) rfl
   ·intro w2 k48
    have m49 := m10.extk k48
    rintro _ rfl _ rfl _ rfl _ rfl _ rfl _ rfl _ rfl _ _ _ _ _ _ _ _ _ _ _ _ _ _ _ _ _ _ _ _ _ _ _ _
    show WL _ _ _ _ _ _ _
    refine mv (vb (!(F_spec_AddrOk ((x_l.getD k z_PCredit).A)))) wN ?_
    exact wl_fin (Ch.refl _ _) rfl
   ·intro w2 k50
    have m51 := m10.extk k50
    rintro _ rfl _ rfl _ rfl _ rfl _ rfl _ rfl _ rfl _ rfl _ _ _ _ _ _ _ _ _ _ _ _ _ _ _ _ _ _ _ _ _ _ _
    show WL _ _ _ _ _ _ _
    refine mv (vs a1 x_l.length c2) (wS (congrArg not h18)) ?_
    exact wl_fin (Ch.refl _ _) rfl
   ·intro w2 k52
    have m53 := m10.extk k52
    rintro _ rfl _ rfl _ rfl _ rfl _ rfl _ rfl _ rfl _ rfl _ _ _ _ _ _ _ _ _ _ _ _ _ _ _ _ _ _ _ _ _ _ _
    show WL _ _ _ _ _ _ _
    refine mv (vi ((k : Nat) : Int)) (wS (congrArg not h18)) ?_
    exact wl_fin (Ch.refl _ _) rfl
   ·intro w2 k54
    have m55 := m10.extk k54
    rintro _ rfl _ rfl _ rfl _ rfl _ rfl _ rfl _ rfl _ rfl _ rfl _ rfl _ _ _ _ _ _ _ _ _ _ _ _ _ _ _ _ _ _ _ _ _
    show WL _ _ _ _ _ _ _
    refine wl_index (wS (congrArg not h18)) ((k : Nat) : Int) rfl rfl rfl slTy_44 rfl rfl (r3.from0 m55) (by first | omega | (simp only [List.length_cons, List.length_nil, List.length_replicate, List.length_append, List.length_take, List.length_set, List.length_map]; omega)) (by first | omega | (simp only [List.length_cons, List.length_nil, List.length_replicate, List.length_append, List.length_take, List.length_set, List.length_map]; omega)) ?_
    exact wl_fin (Ch.refl _ _) rfl
   ·intro w2 k56
    have m57 := m10.extk k56
    rintro _ rfl _ rfl _ rfl _ rfl _ rfl _ rfl _ rfl _ rfl _ rfl _ rfl _ rfl _ _ _ _ _ _ _ _ _ _ _ _ _ _ _ _ _ _ _ _
    show WL _ _ _ _ _ _ _
    refine wl_fieldE (wS (congrArg not h18)) rfl rfl rfl fieldAt_67_1 rfl (r3.from0 m57) (by omega) ?_
    exact wl_fin (Ch.refl _ _) rfl
   ·intro w2 k58
    have m59 := m10.extk k58
    rintro _ rfl _ rfl _ rfl _ rfl _ rfl _ rfl _ rfl _ rfl _ rfl _ rfl _ rfl _ rfl _ _ _ _ _ _ _ _ _ _ _ _ _ _ _ _ _ _ _
    show WL _ _ _ _ _ _ _
    refine wl_loadE (vi ((x_l.getD k z_PCredit).Got)) (wS (congrArg not h18)) rfl rfl rfl rfl isAgg_3 (r3.from0 m59) ((rows_get (i := 2) enc_PCredit_len z_PCredit (by first | rfl | simp | omega) (by decide) (by first | omega | (simp only [List.length_cons, List.length_nil, List.length_replicate, List.length_append, List.length_take, List.length_set, List.length_map]; omega))).trans rfl) ?_
    exact wl_fin (Ch.refl _ _) rfl
   ·intro w2 k60
    have m61 := m10.extk k60
    rintro _ rfl _ rfl _ rfl _ rfl _ rfl _ rfl _ rfl _ rfl _ rfl _ rfl _ rfl _ rfl _ rfl _ _ _ _ _ _ _ _ _ _ _ _ _ _ _ _ _ _
    show WL _ _ _ _ _ _ _
    refine cl (wS (congrArg not h18)) (C_spec_l1In w2 ((x_l.getD k z_PCredit).Got) 0 1000000) ?_
    rintro _ w3 ⟨k62, rfl⟩
    have m63 := m61.extk k62
    exact wl_fin k62 rfl
   ·intro w2 k64
    have m65 := m10.extk k64
    rintro _ rfl _ rfl _ rfl _ rfl _ rfl _ rfl _ rfl _ rfl _ rfl _ rfl _ rfl _ rfl _ rfl _ rfl _ _ _ _ _ _ _ _ _ _ _ _ _ _ _ _ _
    show WL _ _ _ _ _ _ _
    refine pu (vb (!(F_spec_l1In ((x_l.getD k z_PCredit).Got) 0 1000000))) (wS (congrArg not h18)) ?_
    exact wl_fin (Ch.refl _ _) rfl
   ·intro w2 k66
    have m67 := m10.extk k66
    rintro _ rfl _ rfl _ rfl _ rfl _ rfl _ rfl _ rfl _ rfl _ rfl _ rfl _ rfl _ rfl _ rfl _ rfl _ rfl _ _ _ _ _ _ _ _ _ _ _ _ _ _ _ _
    show WL _ _ _ _ _ _ _
    refine pf (vb (!(F_spec_l1In ((x_l.getD k z_PCredit).Got) 0 1000000))) wN (congrArg not h18) ?_
    exact wl_fin (Ch.refl _ _) rfl
   ·intro w2 k68
    have m69 := m10.extk k68
    rintro _ rfl _ rfl _ rfl _ rfl _ rfl _ rfl _ rfl _ rfl _ rfl _ rfl _ rfl _ rfl _ rfl _ rfl _ rfl _ rfl _ _ _ _ _ _ _ _ _ _ _ _ _ _ _
    show WL _ _ _ _ _ _ _
    refine mv (vb (!(F_spec_l1In ((x_l.getD k z_PCredit).Got) 0 1000000))) wN ?_
    exact wl_fin (Ch.refl _ _) rfl
   ·intro w2 k70
    have m71 := m10.extk k70
    rintro _ rfl _ rfl _ rfl _ rfl _ rfl _ rfl _ rfl _ rfl _ rfl _ rfl _ rfl _ rfl _ rfl _ rfl _ rfl _ rfl _ rfl _ _ _ _ _ _ _ _ _ _ _ _ _ _
    show WL _ _ _ _ _ _ _
    refine mv (vs a1 x_l.length c2) (wS (congrArg not h24)) ?_
    exact wl_fin (Ch.refl _ _) rfl
   ·intro w2 k72
    have m73 := m10.extk k72
    rintro _ rfl _ rfl _ rfl _ rfl _ rfl _ rfl _ rfl _ rfl _ rfl _ rfl _ rfl _ rfl _ rfl _ rfl _ rfl _ rfl _ rfl _ _ _ _ _ _ _ _ _ _ _ _ _ _
    show WL _ _ _ _ _ _ _
    refine mv (vi ((k : Nat) : Int)) (wS (congrArg not h24)) ?_
    exact wl_fin (Ch.refl _ _) rfl
   ·intro w2 k74
    have m75 := m10.extk k74
    rintro _ rfl _ rfl _ rfl _ rfl _ rfl _ rfl _ rfl _ rfl _ rfl _ rfl _ rfl _ rfl _ rfl _ rfl _ rfl _ rfl _ rfl _ rfl _ rfl _ _ _ _ _ _ _ _ _ _ _ _
    show WL _ _ _ _ _ _ _
    refine wl_index (wS (congrArg not h24)) ((k : Nat) : Int) rfl rfl rfl slTy_44 rfl rfl (r3.from0 m75) (by first | omega | (simp only [List.length_cons, List.length_nil, List.length_replicate, List.length_append, List.length_take, List.length_set, List.length_map]; omega)) (by first | omega | (simp only [List.length_cons, List.length_nil, List.length_replicate, List.length_append, List.length_take, List.length_set, List.length_map]; omega)) ?_
    exact wl_fin (Ch.refl _ _) rfl
   ·intro w2 k76
    have m77 := m10.extk k76
    rintro _ rfl _ rfl _ rfl _ rfl _ rfl _ rfl _ rfl _ rfl _ rfl _ rfl _ rfl _ rfl _ rfl _ rfl _ rfl _ rfl _ rfl _ rfl _ rfl _ rfl _ _ _ _ _ _ _ _ _ _ _
    show WL _ _ _ _ _ _ _
    refine wl_fieldE (wS (congrArg not h24)) rfl rfl rfl fieldAt_67_2 rfl (r3.from0 m77) (by omega) ?_
    exact wl_fin (Ch.refl _ _) rfl
   ·intro w2 k78
    have m79 := m10.extk k78
    rintro _ rfl _ rfl _ rfl _ rfl _ rfl _ rfl _ rfl _ rfl _ rfl _ rfl _ rfl _ rfl _ rfl _ rfl _ rfl _ rfl _ rfl _ rfl _ rfl _ rfl _ rfl _ _ _ _ _ _ _ _ _ _
    show WL _ _ _ _ _ _ _
    refine wl_loadE (vi ((x_l.getD k z_PCredit).Sent)) (wS (congrArg not h24)) rfl rfl rfl rfl isAgg_3 (r3.from0 m79) ((rows_get (i := 3) enc_PCredit_len z_PCredit (by first | rfl | simp | omega) (by decide) (by first | omega | (simp only [List.length_cons, List.length_nil, List.length_replicate, List.length_append, List.length_take, List.length_set, List.length_map]; omega))).trans rfl) ?_
    exact wl_fin (Ch.refl _ _) rfl
   ·intro w2 k80
    have m81 := m10.extk k80
    rintro _ rfl _ rfl _ rfl _ rfl _ rfl _ rfl _ rfl _ rfl _ rfl _ rfl _ rfl _ rfl _ rfl _ rfl _ rfl _ rfl _ rfl _ _ _ _ _ _ _ _ _ _ _ _ _ _
    show WL _ _ _ _ _ _ _
    refine mv (vs a1 x_l.length c2) (wS (congrArg not h24)) ?_
    exact wl_fin (Ch.refl _ _) rfl
   ·intro w2 k82
    have m83 := m10.extk k82
    rintro _ rfl _ rfl _ rfl _ rfl _ rfl _ rfl _ rfl _ rfl _ rfl _ rfl _ rfl _ rfl _ rfl _ rfl _ rfl _ rfl _ rfl _ _ _ _ _ _ _ _ _ _ _ _ _ _
    show WL _ _ _ _ _ _ _
    refine mv (vi ((k : Nat) : Int)) (wS (congrArg not h24)) ?_
    exact wl_fin (Ch.refl _ _) rfl
   ·intro w2 k84
    have m85 := m10.extk k84
    rintro _ rfl _ rfl _ rfl _ rfl _ rfl _ rfl _ rfl _ rfl _ rfl _ rfl _ rfl _ rfl _ rfl _ rfl _ rfl _ rfl _ rfl _ _ _ _ _ _ rfl _ rfl _ _ _ _ _ _ _
    show WL _ _ _ _ _ _ _
    refine wl_index (wS (congrArg not h24)) ((k : Nat) : Int) rfl rfl rfl slTy_44 rfl rfl (r3.from0 m85) (by first | omega | (simp only [List.length_cons, List.length_nil, List.length_replicate, List.length_append, List.length_take, List.length_set, List.length_map]; omega)) (by first | omega | (simp only [List.length_cons, List.length_nil, List.length_replicate, List.length_append, List.length_take, List.length_set, List.length_map]; omega)) ?_
    exact wl_fin (Ch.refl _ _) rfl
   ·intro w2 k86
    have m87 := m10.extk k86
    rintro _ rfl _ rfl _ rfl _ rfl _ rfl _ rfl _ rfl _ rfl _ rfl _ rfl _ rfl _ rfl _ rfl _ rfl _ rfl _ rfl _ rfl _ _ _ _ _ _ rfl _ rfl _ rfl _ _ _ _ _ _
    show WL _ _ _ _ _ _ _
    refine wl_fieldE (wS (congrArg not h24)) rfl rfl rfl fieldAt_67_1 rfl (r3.from0 m87) (by omega) ?_
    exact wl_fin (Ch.refl _ _) rfl
   ·intro w2 k88
    have m89 := m10.extk k88
    rintro _ rfl _ rfl _ rfl _ rfl _ rfl _ rfl _ rfl _ rfl _ rfl _ rfl _ rfl _ rfl _ rfl _ rfl _ rfl _ rfl _ rfl _ _ _ _ _ _ rfl _ rfl _ rfl _ rfl _ _ _ _ _
    show WL _ _ _ _ _ _ _
    refine wl_loadE (vi ((x_l.getD k z_PCredit).Got)) (wS (congrArg not h24)) rfl rfl rfl rfl isAgg_3 (r3.from0 m89) ((rows_get (i := 2) enc_PCredit_len z_PCredit (by first | rfl | simp | omega) (by decide) (by first | omega | (simp only [List.length_cons, List.length_nil, List.length_replicate, List.length_append, List.length_take, List.length_set, List.length_map]; omega))).trans rfl) ?_
    exact wl_fin (Ch.refl _ _) rfl
   ·intro w2 k90
    have m91 := m10.extk k90
    rintro _ rfl _ rfl _ rfl _ rfl _ rfl _ rfl _ rfl _ rfl _ rfl _ rfl _ rfl _ rfl _ rfl _ rfl _ rfl _ rfl _ rfl _ _ _ _ _ _ rfl _ rfl _ rfl _ rfl _ rfl _ _ _ _
    show WL _ _ _ _ _ _ _
    refine ar (3 * ((x_l.getD k z_PCredit).Got)) (wS (congrArg not h24)) ?_
    exact wl_fin (Ch.refl _ _) rfl
   ·intro w2 k92
    have m93 := m10.extk k92
    rintro _ rfl _ rfl _ rfl _ rfl _ rfl _ rfl _ rfl _ rfl _ rfl _ rfl _ rfl _ rfl _ rfl _ rfl _ rfl _ rfl _ rfl _ rfl _ rfl _ rfl _ rfl _ rfl _ rfl _ rfl _ rfl _ rfl _ rfl _ rfl _ _ _
    show WL _ _ _ _ _ _ _
    refine cl (wS (congrArg not h24)) (C_spec_l1In w2 ((x_l.getD k z_PCredit).Sent) 0 (3 * ((x_l.getD k z_PCredit).Got))) ?_
    rintro _ w3 ⟨k94, rfl⟩
    have m95 := m93.extk k94
    exact wl_fin k94 rfl
   ·intro w2 k96
    have m97 := m10.extk k96
    rintro _ rfl _ rfl _ rfl _ rfl _ rfl _ rfl _ rfl _ rfl _ rfl _ rfl _ rfl _ rfl _ rfl _ rfl _ rfl _ rfl _ rfl _ rfl _ rfl _ rfl _ rfl _ rfl _ rfl _ rfl _ rfl _ rfl _ rfl _ rfl _ rfl _ _
    show WL _ _ _ _ _ _ _
    refine pu (vb (!(F_spec_l1In ((x_l.getD k z_PCredit).Sent) 0 (3 * ((x_l.getD k z_PCredit).Got))))) (wS (congrArg not h24)) ?_
    exact wl_fin (Ch.refl _ _) rfl
   ·intro w2 k98
    have m99 := m10.extk k98
    rintro _ rfl _ rfl _ rfl _ rfl _ rfl _ rfl _ rfl _ rfl _ rfl _ rfl _ rfl _ rfl _ rfl _ rfl _ rfl _ rfl _ rfl _ rfl _ rfl _ rfl _ rfl _ rfl _ rfl _ rfl _ rfl _ rfl _ rfl _ rfl _ rfl _ rfl _
    show WL _ _ _ _ _ _ _
    refine pf (vb (!(F_spec_l1In ((x_l.getD k z_PCredit).Sent) 0 (3 * ((x_l.getD k z_PCredit).Got))))) wN (congrArg not h24) ?_
    exact wl_fin (Ch.refl _ _) rfl
  ·intro w2 k100
   have m101 := m10.extk k100
   rintro _ rfl _ rfl _ rfl _ rfl _ rfl _ rfl _ rfl _ rfl _ rfl _ rfl _ rfl _ rfl _ rfl _ rfl _ rfl _ rfl _ rfl _ rfl _ rfl _ rfl _ rfl _ rfl _ rfl _ rfl _ rfl _ rfl _ rfl _ rfl _ rfl _ rfl _ rfl
   show WL _ _ _ _ _ _ _
   refine wl_nil <| wq_then ?_
   rcases bf (F_spec_l1In ((x_l.getD k z_PCredit).Sent) 0 (3 * ((x_l.getD k z_PCredit).Got))) with h102 | h102
   ·have q139 := spec_l1In_f h102
    refine ct (congrArg not h102) ?_
    refine sr ?_
    refine ag (vb false) wN ?_
    refine wl_nil <| wq_then <| wc_ret <| wq_then_ret <| wq_blk_ret <| wq_then_ret <| wq_then_ret <| wq_blk_ret <| wq_then_ret ?_
    refine ret_1 (.inl rfl) (vb false) rfl rfl ?_
    refine ⟨m101.keep0, ?_⟩
    have hF140 : sCr x_l = false := by have hz := allN_f (f := goodS x_l) (n := x_l.length) (k := k) (by omega) (by simp only [goodS, h6, h14, h18, h24, h102]; simp); simp only [sCr, h6, h14, h18, h24, h102, hz]; simp
    rw [hF140]
    exact rfl
   have q103 := spec_l1In_t h102
   refine cf (congrArg not h102) ?_
   refine wc_skip <| wq_then <| sr ?_
   refine ag (vi 0) wN ?_
   refine wl_nil <| wq_then <| wc_block ?_
   refine wc_norm [(vs a1 x_l.length c2), U, u2x, (vi ((k : Nat) : Int)), (vi 0), (vs a1 x_l.length c2), (vi (x_l.length : Int)), (vb (decide (8 < (x_l.length : Int)))), (vi ((k : Nat) : Int)), (vs a1 x_l.length c2), (vi (x_l.length : Int)), (vb (decide (((k : Nat) : Int) < (x_l.length : Int)))), u12x, u13x, (vs a1 x_l.length c2), (vi ((k : Nat) : Int)), (ve (vs a1 x_l.length c2) ((((k : Nat) : Int)).toNat * 4)), (ve (vs a1 x_l.length c2) ((((k : Nat) : Int)).toNat * 4 + 0)), (va (L_49 ((x_l.getD k z_PCredit).A))), (vb (F_spec_AddrOk ((x_l.getD k z_PCredit).A))), (vb (!(F_spec_AddrOk ((x_l.getD k z_PCredit).A)))), (vb (!(F_spec_AddrOk ((x_l.getD k z_PCredit).A)))), (vs a1 x_l.length c2), (vi ((k : Nat) : Int)), (ve (vs a1 x_l.length c2) ((((k : Nat) : Int)).toNat * 4)), (ve (vs a1 x_l.length c2) ((((k : Nat) : Int)).toNat * 4 + 2)), (vi ((x_l.getD k z_PCredit).Got)), (vb (F_spec_l1In ((x_l.getD k z_PCredit).Got) 0 1000000)), (vb (!(F_spec_l1In ((x_l.getD k z_PCredit).Got) 0 1000000))), (vb (!(F_spec_l1In ((x_l.getD k z_PCredit).Got) 0 1000000))), (vb (!(F_spec_l1In ((x_l.getD k z_PCredit).Got) 0 1000000))), (vs a1 x_l.length c2), (vi ((k : Nat) : Int)), (ve (vs a1 x_l.length c2) ((((k : Nat) : Int)).toNat * 4)), (ve (vs a1 x_l.length c2) ((((k : Nat) : Int)).toNat * 4 + 3)), (vi ((x_l.getD k z_PCredit).Sent)), (vs a1 x_l.length c2), (vi ((k : Nat) : Int)), (ve (vs a1 x_l.length c2) ((((k : Nat) : Int)).toNat * 4)), (ve (vs a1 x_l.length c2) ((((k : Nat) : Int)).toNat * 4 + 2)), (vi ((x_l.getD k z_PCredit).Got)), (vi (3 * ((x_l.getD k z_PCredit).Got))), (vb (F_spec_l1In ((x_l.getD k z_PCredit).Sent) 0 (3 * ((x_l.getD k z_PCredit).Got)))), (vb (!(F_spec_l1In ((x_l.getD k z_PCredit).Sent) 0 (3 * ((x_l.getD k z_PCredit).Got))))), (vb (!(F_spec_l1In ((x_l.getD k z_PCredit).Sent) 0 (3 * ((x_l.getD k z_PCredit).Got))))), u45x, u46x, u47x, u48x, u49x, u50x, u51x, u52x, u53x, u54x, u55x, u56x, u57x, u58x, u59x, u60x] rfl ⟨rfl, rfl, rfl, rfl, rfl, rfl, rfl, rfl, rfl, rfl, rfl, rfl, rfl, rfl, rfl, rfl, rfl, rfl, rfl, rfl, rfl, rfl, rfl, rfl, rfl, rfl, rfl, rfl, rfl, rfl, rfl, rfl, rfl, rfl, rfl, rfl, rfl, rfl, rfl, rfl, rfl, rfl, rfl, rfl, rfl, rfl, rfl, rfl, rfl, rfl, rfl, rfl, rfl, rfl, rfl, rfl, rfl, rfl, rfl, rfl, rfl, trivial⟩ ?_
   refine wc_loop (fun e' w' => ∃ (j : Nat) (u2x u45x u46x u47x u48x u49x u50x u51x u52x u53x u54x u55x u56x u57x u58x u59x u60x : Value), e' = lst [(vs a1 x_l.length c2), U, u2x, (vi ((k : Nat) : Int)), (vi ((j : Nat) : Int)), (vs a1 x_l.length c2), (vi (x_l.length : Int)), (vb (decide (8 < (x_l.length : Int)))), (vi ((k : Nat) : Int)), (vs a1 x_l.length c2), (vi (x_l.length : Int)), (vb (decide (((k : Nat) : Int) < (x_l.length : Int)))), u12x, u13x, (vs a1 x_l.length c2), (vi ((k : Nat) : Int)), (ve (vs a1 x_l.length c2) ((((k : Nat) : Int)).toNat * 4)), (ve (vs a1 x_l.length c2) ((((k : Nat) : Int)).toNat * 4 + 0)), (va (L_49 ((x_l.getD k z_PCredit).A))), (vb (F_spec_AddrOk ((x_l.getD k z_PCredit).A))), (vb (!(F_spec_AddrOk ((x_l.getD k z_PCredit).A)))), (vb (!(F_spec_AddrOk ((x_l.getD k z_PCredit).A)))), (vs a1 x_l.length c2), (vi ((k : Nat) : Int)), (ve (vs a1 x_l.length c2) ((((k : Nat) : Int)).toNat * 4)), (ve (vs a1 x_l.length c2) ((((k : Nat) : Int)).toNat * 4 + 2)), (vi ((x_l.getD k z_PCredit).Got)), (vb (F_spec_l1In ((x_l.getD k z_PCredit).Got) 0 1000000)), (vb (!(F_spec_l1In ((x_l.getD k z_PCredit).Got) 0 1000000))), (vb (!(F_spec_l1In ((x_l.getD k z_PCredit).Got) 0 1000000))), (vb (!(F_spec_l1In ((x_l.getD k z_PCredit).Got) 0 1000000))), (vs a1 x_l.length c2), (vi ((k : Nat) : Int)), (ve (vs a1 x_l.length c2) ((((k : Nat) : Int)).toNat * 4)), (ve (vs a1 x_l.length c2) ((((k : Nat) : Int)).toNat * 4 + 3)), (vi ((x_l.getD k z_PCredit).Sent)), (vs a1 x_l.length c2), (vi ((k : Nat) : Int)), (ve (vs a1 x_l.length c2) ((((k : Nat) : Int)).toNat * 4)), (ve (vs a1 x_l.length c2) ((((k : Nat) : Int)).toNat * 4 + 2)), (vi ((x_l.getD k z_PCredit).Got)), (vi (3 * ((x_l.getD k z_PCredit).Got))), (vb (F_spec_l1In ((x_l.getD k z_PCredit).Sent) 0 (3 * ((x_l.getD k z_PCredit).Got)))), (vb (!(F_spec_l1In ((x_l.getD k z_PCredit).Sent) 0 (3 * ((x_l.getD k z_PCredit).Got))))), (vb (!(F_spec_l1In ((x_l.getD k z_PCredit).Sent) 0 (3 * ((x_l.getD k z_PCredit).Got))))), u45x, u46x, u47x, u48x, u49x, u50x, u51x, u52x, u53x, u54x, u55x, u56x, u57x, u58x, u59x, u60x] ∧ Ch (fun k => w0.heap.size ≤ k) w0 w' ∧ Ch (fun k => w2.heap.size ≤ k) w2 w' ∧ j ≤ k ∧ ∀ m, m < j → sameJ x_l k m = true) (fun e' _ => k - ((intOf (e' 4))).toNat) ?_ ?_
   ·exact ⟨0, u2x, u45x, u46x, u47x, u48x, u49x, u50x, u51x, u52x, u53x, u54x, u55x, u56x, u57x, u58x, u59x, u60x, (congrArg (fun (x4z : Value) => lst [(vs a1 x_l.length c2), U, u2x, (vi ((k : Nat) : Int)), x4z, (vs a1 x_l.length c2), (vi (x_l.length : Int)), (vb (decide (8 < (x_l.length : Int)))), (vi ((k : Nat) : Int)), (vs a1 x_l.length c2), (vi (x_l.length : Int)), (vb (decide (((k : Nat) : Int) < (x_l.length : Int)))), u12x, u13x, (vs a1 x_l.length c2), (vi ((k : Nat) : Int)), (ve (vs a1 x_l.length c2) ((((k : Nat) : Int)).toNat * 4)), (ve (vs a1 x_l.length c2) ((((k : Nat) : Int)).toNat * 4 + 0)), (va (L_49 ((x_l.getD k z_PCredit).A))), (vb (F_spec_AddrOk ((x_l.getD k z_PCredit).A))), (vb (!(F_spec_AddrOk ((x_l.getD k z_PCredit).A)))), (vb (!(F_spec_AddrOk ((x_l.getD k z_PCredit).A)))), (vs a1 x_l.length c2), (vi ((k : Nat) : Int)), (ve (vs a1 x_l.length c2) ((((k : Nat) : Int)).toNat * 4)), (ve (vs a1 x_l.length c2) ((((k : Nat) : Int)).toNat * 4 + 2)), (vi ((x_l.getD k z_PCredit).Got)), (vb (F_spec_l1In ((x_l.getD k z_PCredit).Got) 0 1000000)), (vb (!(F_spec_l1In ((x_l.getD k z_PCredit).Got) 0 1000000))), (vb (!(F_spec_l1In ((x_l.getD k z_PCredit).Got) 0 1000000))), (vb (!(F_spec_l1In ((x_l.getD k z_PCredit).Got) 0 1000000))), (vs a1 x_l.length c2), (vi ((k : Nat) : Int)), (ve (vs a1 x_l.length c2) ((((k : Nat) : Int)).toNat * 4)), (ve (vs a1 x_l.length c2) ((((k : Nat) : Int)).toNat * 4 + 3)), (vi ((x_l.getD k z_PCredit).Sent)), (vs a1 x_l.length c2), (vi ((k : Nat) : Int)), (ve (vs a1 x_l.length c2) ((((k : Nat) : Int)).toNat * 4)), (ve (vs a1 x_l.length c2) ((((k : Nat) : Int)).toNat * 4 + 2)), (vi ((x_l.getD k z_PCredit).Got)), (vi (3 * ((x_l.getD k z_PCredit).Got))), (vb (F_spec_l1In ((x_l.getD k z_PCredit).Sent) 0 (3 * ((x_l.getD k z_PCredit).Got)))), (vb (!(F_spec_l1In ((x_l.getD k z_PCredit).Sent) 0 (3 * ((x_l.getD k z_PCredit).Got))))), (vb (!(F_spec_l1In ((x_l.getD k z_PCredit).Sent) 0 (3 * ((x_l.getD k z_PCredit).Got))))), u45x, u46x, u47x, u48x, u49x, u50x, u51x, u52x, u53x, u54x, u55x, u56x, u57x, u58x, u59x, u60x]) (congrArg (Value.int .i64) (show (0 : Int) = ((0 : Nat) : Int) by omega))), m101, (Ch.refl (fun k => w2.heap.size ≤ k) w2), (by omega), (by first | (intro m hm; omega) | exact allN_next (by assumption) (by simp only [sameJ, h6, h14, h18, h24, h102]; simp; done))⟩
   ·rintro _ w3 ⟨j, u2x, u45x, u46x, u47x, u48x, u49x, u50x, u51x, u52x, u53x, u54x, u55x, u56x, u57x, u58x, u59x, u60x, rfl, m104, k105, i106, i107⟩
    refine wc_seq <| sr ?_
    refine mv (vi ((j : Nat) : Int)) wN ?_
    refine mv (vi ((k : Nat) : Int)) wN ?_
    refine pu (vb (decide (((j : Nat) : Int) < ((k : Nat) : Int)))) wN ?_
    refine wl_nil <| wq_then ?_
    rcases bf (decide (((j : Nat) : Int) < ((k : Nat) : Int))) with h108 | h108
    ·have q138 := of_decide_eq_false h108
     refine cf h108 ?_
     refine wc_exit <| wq_then_exit <| wq_then_exit <| wq_blk_exit <| wq_blk_normal <| wq_then <| wc_region ?_
     refine mv (vi ((k : Nat) : Int)) wN ?_
     refine ar (((k : Nat) : Int) + 1) wN ?_
     refine ag (vi (((k : Nat) : Int) + 1)) wN ?_
     refine wl_nil ?_
     refine wq_loopN (w0 := w1) [(vs a1 x_l.length c2), U, u2x, (vi (((k + 1) : Nat) : Int)), (vi ((j : Nat) : Int)), (vs a1 x_l.length c2), (vi (x_l.length : Int)), (vb (decide (8 < (x_l.length : Int)))), (vi ((k : Nat) : Int)), (vs a1 x_l.length c2), (vi (x_l.length : Int)), (vb (decide (((k : Nat) : Int) < (x_l.length : Int)))), (vi ((k : Nat) : Int)), (vi (((k : Nat) : Int) + 1)), (vs a1 x_l.length c2), (vi ((k : Nat) : Int)), (ve (vs a1 x_l.length c2) ((((k : Nat) : Int)).toNat * 4)), (ve (vs a1 x_l.length c2) ((((k : Nat) : Int)).toNat * 4 + 0)), (va (L_49 ((x_l.getD k z_PCredit).A))), (vb (F_spec_AddrOk ((x_l.getD k z_PCredit).A))), (vb (!(F_spec_AddrOk ((x_l.getD k z_PCredit).A)))), (vb (!(F_spec_AddrOk ((x_l.getD k z_PCredit).A)))), (vs a1 x_l.length c2), (vi ((k : Nat) : Int)), (ve (vs a1 x_l.length c2) ((((k : Nat) : Int)).toNat * 4)), (ve (vs a1 x_l.length c2) ((((k : Nat) : Int)).toNat * 4 + 2)), (vi ((x_l.getD k z_PCredit).Got)), (vb (F_spec_l1In ((x_l.getD k z_PCredit).Got) 0 1000000)), (vb (!(F_spec_l1In ((x_l.getD k z_PCredit).Got) 0 1000000))), (vb (!(F_spec_l1In ((x_l.getD k z_PCredit).Got) 0 1000000))), (vb (!(F_spec_l1In ((x_l.getD k z_PCredit).Got) 0 1000000))), (vs a1 x_l.length c2), (vi ((k : Nat) : Int)), (ve (vs a1 x_l.length c2) ((((k : Nat) : Int)).toNat * 4)), (ve (vs a1 x_l.length c2) ((((k : Nat) : Int)).toNat * 4 + 3)), (vi ((x_l.getD k z_PCredit).Sent)), (vs a1 x_l.length c2), (vi ((k : Nat) : Int)), (ve (vs a1 x_l.length c2) ((((k : Nat) : Int)).toNat * 4)), (ve (vs a1 x_l.length c2) ((((k : Nat) : Int)).toNat * 4 + 2)), (vi ((x_l.getD k z_PCredit).Got)), (vi (3 * ((x_l.getD k z_PCredit).Got))), (vb (F_spec_l1In ((x_l.getD k z_PCredit).Sent) 0 (3 * ((x_l.getD k z_PCredit).Got)))), (vb (!(F_spec_l1In ((x_l.getD k z_PCredit).Sent) 0 (3 * ((x_l.getD k z_PCredit).Got))))), (vb (!(F_spec_l1In ((x_l.getD k z_PCredit).Sent) 0 (3 * ((x_l.getD k z_PCredit).Got))))), (vi ((j : Nat) : Int)), (vi ((k : Nat) : Int)), (vb (decide (((j : Nat) : Int) < ((k : Nat) : Int)))), u48x, u49x, u50x, u51x, u52x, u53x, u54x, u55x, u56x, u57x, u58x, u59x, u60x] rfl ?_ ?_ ?_
     · exact ⟨rfl, rfl, rfl, (congrArg (Value.int .i64) (show ((((k : Nat) : Int) + 1) : Int) = (((k + 1) : Nat) : Int) by omega)), rfl, rfl, rfl, rfl, rfl, rfl, rfl, rfl, rfl, rfl, rfl, rfl, rfl, rfl, rfl, rfl, rfl, rfl, rfl, rfl, rfl, rfl, rfl, rfl, rfl, rfl, rfl, rfl, rfl, rfl, rfl, rfl, rfl, rfl, rfl, rfl, rfl, rfl, rfl, rfl, rfl, rfl, rfl, rfl, rfl, rfl, rfl, rfl, rfl, rfl, rfl, rfl, rfl, rfl, rfl, rfl, rfl, trivial⟩
     · exact ⟨(k + 1), u2x, (vi ((j : Nat) : Int)), (vi ((k : Nat) : Int)), (vs a1 x_l.length c2), (vi (x_l.length : Int)), (vb (decide (((k : Nat) : Int) < (x_l.length : Int)))), (vi ((k : Nat) : Int)), (vi (((k : Nat) : Int) + 1)), (vs a1 x_l.length c2), (vi ((k : Nat) : Int)), (ve (vs a1 x_l.length c2) ((((k : Nat) : Int)).toNat * 4)), (ve (vs a1 x_l.length c2) ((((k : Nat) : Int)).toNat * 4 + 0)), (va (L_49 ((x_l.getD k z_PCredit).A))), (vb (F_spec_AddrOk ((x_l.getD k z_PCredit).A))), (vb (!(F_spec_AddrOk ((x_l.getD k z_PCredit).A)))), (vb (!(F_spec_AddrOk ((x_l.getD k z_PCredit).A)))), (vs a1 x_l.length c2), (vi ((k : Nat) : Int)), (ve (vs a1 x_l.length c2) ((((k : Nat) : Int)).toNat * 4)), (ve (vs a1 x_l.length c2) ((((k : Nat) : Int)).toNat * 4 + 2)), (vi ((x_l.getD k z_PCredit).Got)), (vb (F_spec_l1In ((x_l.getD k z_PCredit).Got) 0 1000000)), (vb (!(F_spec_l1In ((x_l.getD k z_PCredit).Got) 0 1000000))), (vb (!(F_spec_l1In ((x_l.getD k z_PCredit).Got) 0 1000000))), (vb (!(F_spec_l1In ((x_l.getD k z_PCredit).Got) 0 1000000))), (vs a1 x_l.length c2), (vi ((k : Nat) : Int)), (ve (vs a1 x_l.length c2) ((((k : Nat) : Int)).toNat * 4)), (ve (vs a1 x_l.length c2) ((((k : Nat) : Int)).toNat * 4 + 3)), (vi ((x_l.getD k z_PCredit).Sent)), (vs a1 x_l.length c2), (vi ((k : Nat) : Int)), (ve (vs a1 x_l.length c2) ((((k : Nat) : Int)).toNat * 4)), (ve (vs a1 x_l.length c2) ((((k : Nat) : Int)).toNat * 4 + 2)), (vi ((x_l.getD k z_PCredit).Got)), (vi (3 * ((x_l.getD k z_PCredit).Got))), (vb (F_spec_l1In ((x_l.getD k z_PCredit).Sent) 0 (3 * ((x_l.getD k z_PCredit).Got)))), (vb (!(F_spec_l1In ((x_l.getD k z_PCredit).Sent) 0 (3 * ((x_l.getD k z_PCredit).Got))))), (vb (!(F_spec_l1In ((x_l.getD k z_PCredit).Sent) 0 (3 * ((x_l.getD k z_PCredit).Got))))), (vi ((j : Nat) : Int)), (vi ((k : Nat) : Int)), (vb (decide (((j : Nat) : Int) < ((k : Nat) : Int)))), u48x, u49x, u50x, u51x, u52x, u53x, u54x, u55x, u56x, u57x, u58x, u59x, u60x, rfl, m104, ((((Ch.refl (fun k => w0.heap.size ≤ k) w0).ext k11 (fun k hk => Nat.le_trans (Nat.le_refl _) hk)).extk k100).ext k105 (fun k hk => Nat.le_trans (Nat.le_trans k11.size k100.size) hk)), (by omega), (by first | (intro j hj; omega) | (have hy := allN_t (f := sameJ x_l k) (n := k) (k := j) (by assumption) (by omega); exact allN_next (by assumption) (by simp only [goodS, hy, h6, h14, h18, h24, h102, h108]; simp; done)))⟩
     · show x_l.length - ((((k + 1) : Nat) : Int)).toNat < x_l.length - (((k : Nat) : Int)).toNat; omega
    have q109 := of_decide_eq_true h108
    refine ct h108 ?_
    refine wc_skip <| wq_then <| wc_seq <| wc_block <| wc_seq ?_
    refine wc_draw ([(50, [], [], (fun _ v _ => v = (vs a1 x_l.length c2))), (51, [], [], (fun _ v _ => v = (vi ((j : Nat) : Int)))), (52, [], [0, 1], (fun _ v _ => v = (ve (vs a1 x_l.length c2) ((((j : Nat) : Int)).toNat * 4)))), (53, [], [0, 1, 2], (fun _ v _ => v = (ve (vs a1 x_l.length c2) ((((j : Nat) : Int)).toNat * 4 + 0)))), (54, [], [0, 1, 2, 3], (fun _ v _ => v = (.agg #[(vi (((x_l.getD j z_PCredit).A).Host)), (vi (((x_l.getD j z_PCredit).A).Port))]))), (55, [], [], (fun _ v _ => v = (vs a1 x_l.length c2))), (56, [], [], (fun _ v _ => v = (vi ((k : Nat) : Int)))), (57, [], [5, 6], (fun _ v _ => v = (ve (vs a1 x_l.length c2) ((((k : Nat) : Int)).toNat * 4)))), (58, [], [5, 6, 7], (fun _ v _ => v = (ve (vs a1 x_l.length c2) ((((k : Nat) : Int)).toNat * 4 + 0)))), (59, [], [5, 6, 7, 8], (fun _ v _ => v = (.agg #[(vi (((x_l.getD k z_PCredit).A).Host)), (vi (((x_l.getD k z_PCredit).A).Port))]))), (60, [], [0, 1, 2, 3, 4, 5, 6, 7, 8, 9], (fun _ v _ => v = (vb (decide ((((x_l.getD j z_PCredit).A).Host) = (((x_l.getD k z_PCredit).A).Host)) && decide ((((x_l.getD j z_PCredit).A).Port) = (((x_l.getD k z_PCredit).A).Port))))))] : GV) mixed rfl (by kernel_rfl) (by kernel_rfl) ?_ ?_ ?_
    · exact ⟨(fun _ _ _ _ h _ => h), (fun _ _ _ _ _ h => h), ⟨(fun _ _ _ _ h _ => h), (fun _ _ _ _ _ h => h), ⟨(fun _ _ _ _ h _ => h), (fun _ _ _ _ _ h => h), ⟨(fun _ _ _ _ h _ => h), (fun _ _ _ _ _ h => h), ⟨(fun _ _ _ _ h _ => h), (fun _ _ _ _ _ h => h), ⟨(fun _ _ _ _ h _ => h), (fun _ _ _ _ _ h => h), ⟨(fun _ _ _ _ h _ => h), (fun _ _ _ _ _ h => h), ⟨(fun _ _ _ _ h _ => h), (fun _ _ _ _ _ h => h), ⟨(fun _ _ _ _ h _ => h), (fun _ _ _ _ _ h => h), ⟨(fun _ _ _ _ h _ => h), (fun _ _ _ _ _ h => h), ⟨(fun _ _ _ _ h _ => h), (fun _ _ _ _ _ h => h), trivial⟩⟩⟩⟩⟩⟩⟩⟩⟩⟩⟩
    ·refine ⟨?_, ⟨?_, ⟨?_, ⟨?_, ⟨?_, ⟨?_, ⟨?_, ⟨?_, ⟨?_, ⟨?_, ⟨?_, trivial⟩⟩⟩⟩⟩⟩⟩⟩⟩⟩⟩
     ·intro w4 k110
      have m111 := m104.extk k110
      rintro _ _ _ _ _ _ _ _ _ _ _
      show WL _ _ _ _ _ _ _
      refine mv (vs a1 x_l.length c2) wN ?_
      exact wl_fin (Ch.refl _ _) rfl
     ·intro w4 k112
      have m113 := m104.extk k112
      rintro _ _ _ _ _ _ _ _ _ _ _
      show WL _ _ _ _ _ _ _
      refine mv (vi ((j : Nat) : Int)) wN ?_
      exact wl_fin (Ch.refl _ _) rfl
     ·intro w4 k114
      have m115 := m104.extk k114
      rintro _ rfl _ rfl _ _ _ _ _ _ _ _ _
      show WL _ _ _ _ _ _ _
      refine wl_index wN ((j : Nat) : Int) rfl rfl rfl slTy_44 rfl rfl (r3.from0 m115) (by first | omega | (simp only [List.length_cons, List.length_nil, List.length_replicate, List.length_append, List.length_take, List.length_set, List.length_map]; omega)) (by first | omega | (simp only [List.length_cons, List.length_nil, List.length_replicate, List.length_append, List.length_take, List.length_set, List.length_map]; omega)) ?_
      exact wl_fin (Ch.refl _ _) rfl
     ·intro w4 k116
      have m117 := m104.extk k116
      rintro _ rfl _ rfl _ rfl _ _ _ _ _ _ _ _
      show WL _ _ _ _ _ _ _
      refine wl_fieldE wN rfl rfl rfl fieldAt_67_0 rfl (r3.from0 m117) (by omega) ?_
      exact wl_fin (Ch.refl _ _) rfl
     ·intro w4 k118
      have m119 := m104.extk k118
      rintro _ rfl _ rfl _ rfl _ rfl _ _ _ _ _ _ _
      show WL _ _ _ _ _ _ _
      refine wl_loadEN [(vi (((x_l.getD j z_PCredit).A).Host)), (vi (((x_l.getD j z_PCredit).A).Port))] wN rfl rfl rfl rfl isAgg_49 sizeOf_49 (r3.from0 m119) (by first | omega | (simp only [List.length_cons, List.length_nil, List.length_replicate, List.length_append, List.length_take, List.length_set, List.length_map]; omega)) ((rows_part (off := 0) (n := 2) enc_PCredit_len z_PCredit (by first | rfl | simp | omega) (by decide) (by first | omega | (simp only [List.length_cons, List.length_nil, List.length_replicate, List.length_append, List.length_take, List.length_set, List.length_map]; omega))).trans rfl) ?_
      exact wl_fin (Ch.refl _ _) rfl
     ·intro w4 k120
      have m121 := m104.extk k120
      rintro _ _ _ _ _ _ _ _ _ _ _
      show WL _ _ _ _ _ _ _
      refine mv (vs a1 x_l.length c2) wN ?_
      exact wl_fin (Ch.refl _ _) rfl
     ·intro w4 k122
      have m123 := m104.extk k122
      rintro _ _ _ _ _ _ _ _ _ _ _
      show WL _ _ _ _ _ _ _
      refine mv (vi ((k : Nat) : Int)) wN ?_
      exact wl_fin (Ch.refl _ _) rfl
     ·intro w4 k124
      have m125 := m104.extk k124
      rintro _ _ _ _ _ _ rfl _ rfl _ _ _ _
      show WL _ _ _ _ _ _ _
      refine wl_index wN ((k : Nat) : Int) rfl rfl rfl slTy_44 rfl rfl (r3.from0 m125) (by first | omega | (simp only [List.length_cons, List.length_nil, List.length_replicate, List.length_append, List.length_take, List.length_set, List.length_map]; omega)) (by first | omega | (simp only [List.length_cons, List.length_nil, List.length_replicate, List.length_append, List.length_take, List.length_set, List.length_map]; omega)) ?_
      exact wl_fin (Ch.refl _ _) rfl
     ·intro w4 k126
      have m127 := m104.extk k126
      rintro _ _ _ _ _ _ rfl _ rfl _ rfl _ _ _
      show WL _ _ _ _ _ _ _
      refine wl_fieldE wN rfl rfl rfl fieldAt_67_0 rfl (r3.from0 m127) (by omega) ?_
      exact wl_fin (Ch.refl _ _) rfl
     ·intro w4 k128
      have m129 := m104.extk k128
      rintro _ _ _ _ _ _ rfl _ rfl _ rfl _ rfl _ _
      show WL _ _ _ _ _ _ _
      refine wl_loadEN [(vi (((x_l.getD k z_PCredit).A).Host)), (vi (((x_l.getD k z_PCredit).A).Port))] wN rfl rfl rfl rfl isAgg_49 sizeOf_49 (r3.from0 m129) (by first | omega | (simp only [List.length_cons, List.length_nil, List.length_replicate, List.length_append, List.length_take, List.length_set, List.length_map]; omega)) ((rows_part (off := 0) (n := 2) enc_PCredit_len z_PCredit (by first | rfl | simp | omega) (by decide) (by first | omega | (simp only [List.length_cons, List.length_nil, List.length_replicate, List.length_append, List.length_take, List.length_set, List.length_map]; omega))).trans rfl) ?_
      exact wl_fin (Ch.refl _ _) rfl
     ·intro w4 k130
      have m131 := m104.extk k130
      rintro _ rfl _ rfl _ rfl _ rfl _ rfl _ rfl _ rfl _ rfl _ rfl _ rfl _
      show WL _ _ _ _ _ _ _
      refine wl_aggeq ((decide ((((x_l.getD j z_PCredit).A).Host) = (((x_l.getD k z_PCredit).A).Host)) && decide ((((x_l.getD j z_PCredit).A).Port) = (((x_l.getD k z_PCredit).A).Port)))) wN rfl rfl rfl rfl rfl guardt_49 (aggeq_49 (((x_l.getD j z_PCredit).A).Host) (((x_l.getD k z_PCredit).A).Host) (((x_l.getD j z_PCredit).A).Port) (((x_l.getD k z_PCredit).A).Port) w4) ?_
      exact wl_fin (Ch.refl _ _) rfl
    ·intro w4 k132
     have m133 := m104.extk k132
     rintro _ rfl _ rfl _ rfl _ rfl _ rfl _ rfl _ rfl _ rfl _ rfl _ rfl _ rfl
     show WL _ _ _ _ _ _ _
     refine wl_nil <| wq_then ?_
     rcases bt (decide ((((x_l.getD j z_PCredit).A).Host) = (((x_l.getD k z_PCredit).A).Host)) && decide ((((x_l.getD j z_PCredit).A).Port) = (((x_l.getD k z_PCredit).A).Port))) with h134 | h134
     ·refine ct h134 ?_
      refine sr ?_
      refine ag (vb false) wN ?_
      refine wl_nil <| wq_then <| wc_ret <| wq_blk_ret <| wq_then_ret <| wq_then_ret <| wq_blk_ret <| wq_blk_ret <| wq_then_ret <| wq_then_ret <| wq_blk_ret <| wq_then_ret ?_
      refine ret_1 (.inl rfl) (vb false) rfl rfl ?_
      refine ⟨m133.keep0, ?_⟩
      have hF136 : sCr x_l = false := by have hy := allN_f (f := sameJ x_l k) (n := k) (k := j) (by omega) (by simp only [sameJ, h6, h14, h18, h24, h102, h108, h134]; simp); have hz := allN_f (f := goodS x_l) (n := x_l.length) (k := k) (by omega) (by simp only [goodS, hy, h6, h14, h18, h24, h102, h108, h134]; simp); simp only [sCr, h6, h14, h18, h24, h102, h108, h134, hz]; simp
      rw [hF136]
      exact rfl
     refine cf h134 ?_
     refine wc_skip <| wq_blk_normal <| wq_then <| wc_region ?_
     refine mv (vi ((j : Nat) : Int)) wN ?_
     refine ar (((j : Nat) : Int) + 1) wN ?_
     refine ag (vi (((j : Nat) : Int) + 1)) wN ?_
     refine wl_nil ?_
     refine wq_loopN (w0 := w3) [(vs a1 x_l.length c2), U, u2x, (vi ((k : Nat) : Int)), (vi (((j + 1) : Nat) : Int)), (vs a1 x_l.length c2), (vi (x_l.length : Int)), (vb (decide (8 < (x_l.length : Int)))), (vi ((k : Nat) : Int)), (vs a1 x_l.length c2), (vi (x_l.length : Int)), (vb (decide (((k : Nat) : Int) < (x_l.length : Int)))), u12x, u13x, (vs a1 x_l.length c2), (vi ((k : Nat) : Int)), (ve (vs a1 x_l.length c2) ((((k : Nat) : Int)).toNat * 4)), (ve (vs a1 x_l.length c2) ((((k : Nat) : Int)).toNat * 4 + 0)), (va (L_49 ((x_l.getD k z_PCredit).A))), (vb (F_spec_AddrOk ((x_l.getD k z_PCredit).A))), (vb (!(F_spec_AddrOk ((x_l.getD k z_PCredit).A)))), (vb (!(F_spec_AddrOk ((x_l.getD k z_PCredit).A)))), (vs a1 x_l.length c2), (vi ((k : Nat) : Int)), (ve (vs a1 x_l.length c2) ((((k : Nat) : Int)).toNat * 4)), (ve (vs a1 x_l.length c2) ((((k : Nat) : Int)).toNat * 4 + 2)), (vi ((x_l.getD k z_PCredit).Got)), (vb (F_spec_l1In ((x_l.getD k z_PCredit).Got) 0 1000000)), (vb (!(F_spec_l1In ((x_l.getD k z_PCredit).Got) 0 1000000))), (vb (!(F_spec_l1In ((x_l.getD k z_PCredit).Got) 0 1000000))), (vb (!(F_spec_l1In ((x_l.getD k z_PCredit).Got) 0 1000000))), (vs a1 x_l.length c2), (vi ((k : Nat) : Int)), (ve (vs a1 x_l.length c2) ((((k : Nat) : Int)).toNat * 4)), (ve (vs a1 x_l.length c2) ((((k : Nat) : Int)).toNat * 4 + 3)), (vi ((x_l.getD k z_PCredit).Sent)), (vs a1 x_l.length c2), (vi ((k : Nat) : Int)), (ve (vs a1 x_l.length c2) ((((k : Nat) : Int)).toNat * 4)), (ve (vs a1 x_l.length c2) ((((k : Nat) : Int)).toNat * 4 + 2)), (vi ((x_l.getD k z_PCredit).Got)), (vi (3 * ((x_l.getD k z_PCredit).Got))), (vb (F_spec_l1In ((x_l.getD k z_PCredit).Sent) 0 (3 * ((x_l.getD k z_PCredit).Got)))), (vb (!(F_spec_l1In ((x_l.getD k z_PCredit).Sent) 0 (3 * ((x_l.getD k z_PCredit).Got))))), (vb (!(F_spec_l1In ((x_l.getD k z_PCredit).Sent) 0 (3 * ((x_l.getD k z_PCredit).Got))))), (vi ((j : Nat) : Int)), (vi ((k : Nat) : Int)), (vb (decide (((j : Nat) : Int) < ((k : Nat) : Int)))), (vi ((j : Nat) : Int)), (vi (((j : Nat) : Int) + 1)), (vs a1 x_l.length c2), (vi ((j : Nat) : Int)), (ve (vs a1 x_l.length c2) ((((j : Nat) : Int)).toNat * 4)), (ve (vs a1 x_l.length c2) ((((j : Nat) : Int)).toNat * 4 + 0)), (va (L_49 ((x_l.getD j z_PCredit).A))), (vs a1 x_l.length c2), (vi ((k : Nat) : Int)), (ve (vs a1 x_l.length c2) ((((k : Nat) : Int)).toNat * 4)), (ve (vs a1 x_l.length c2) ((((k : Nat) : Int)).toNat * 4 + 0)), (va (L_49 ((x_l.getD k z_PCredit).A))), (vb (decide ((((x_l.getD j z_PCredit).A).Host) = (((x_l.getD k z_PCredit).A).Host)) && decide ((((x_l.getD j z_PCredit).A).Port) = (((x_l.getD k z_PCredit).A).Port))))] rfl ?_ ?_ ?_
     · exact ⟨rfl, rfl, rfl, rfl, (congrArg (Value.int .i64) (show ((((j : Nat) : Int) + 1) : Int) = (((j + 1) : Nat) : Int) by omega)), rfl, rfl, rfl, rfl, rfl, rfl, rfl, rfl, rfl, rfl, rfl, rfl, rfl, rfl, rfl, rfl, rfl, rfl, rfl, rfl, rfl, rfl, rfl, rfl, rfl, rfl, rfl, rfl, rfl, rfl, rfl, rfl, rfl, rfl, rfl, rfl, rfl, rfl, rfl, rfl, rfl, rfl, rfl, rfl, rfl, rfl, rfl, rfl, rfl, rfl, rfl, rfl, rfl, rfl, rfl, rfl, trivial⟩
     · exact ⟨(j + 1), u2x, (vi ((j : Nat) : Int)), (vi ((k : Nat) : Int)), (vb (decide (((j : Nat) : Int) < ((k : Nat) : Int)))), (vi ((j : Nat) : Int)), (vi (((j : Nat) : Int) + 1)), (vs a1 x_l.length c2), (vi ((j : Nat) : Int)), (ve (vs a1 x_l.length c2) ((((j : Nat) : Int)).toNat * 4)), (ve (vs a1 x_l.length c2) ((((j : Nat) : Int)).toNat * 4 + 0)), (va (L_49 ((x_l.getD j z_PCredit).A))), (vs a1 x_l.length c2), (vi ((k : Nat) : Int)), (ve (vs a1 x_l.length c2) ((((k : Nat) : Int)).toNat * 4)), (ve (vs a1 x_l.length c2) ((((k : Nat) : Int)).toNat * 4 + 0)), (va (L_49 ((x_l.getD k z_PCredit).A))), (vb (decide ((((x_l.getD j z_PCredit).A).Host) = (((x_l.getD k z_PCredit).A).Host)) && decide ((((x_l.getD j z_PCredit).A).Port) = (((x_l.getD k z_PCredit).A).Port)))), rfl, m133, (((Ch.refl (fun k => w2.heap.size ≤ k) w2).ext k105 (fun k hk => Nat.le_trans (Nat.le_refl _) hk)).extk k132), (by omega), (by first | (intro m hm; omega) | exact allN_next (by assumption) (by simp only [sameJ, h6, h14, h18, h24, h102, h108, h134]; simp; done))⟩
     · show k - ((((j + 1) : Nat) : Int)).toNat < k - (((j : Nat) : Int)).toNat; omega
theorem sCr_t {x : List PCredit} (h : sCr x = true) : (sCr x).toNat = 1 ∧ x.length ≤ 8 := by
  refine ⟨by rw [h]; rfl, ?_⟩
  cases h8 : decide (8 < (x.length : Int)) with
  | true => simp only [sCr, h8, cond_true] at h; cases h
  | false => have := of_decide_eq_false h8; omega
theorem sCr_got (x : List PCredit) (a : PAddr) : (sCr x).toNat = 0 ∨ creditAt x a < 0 ∨ (0 ≤ (x.getD (creditAt x a).toNat z_PCredit).Got ∧ (x.getD (creditAt x a).toNat z_PCredit).Got ≤ 1000000 ∧ 0 ≤ (x.getD (creditAt x a).toNat z_PCredit).Sent ∧ (x.getD (creditAt x a).toNat z_PCredit).Sent ≤ 3 * (x.getD (creditAt x a).toNat z_PCredit).Got) := by
  rcases Bool.eq_false_or_eq_true (sCr x) with h | h
  · by_cases h0 : creditAt x a < 0
    · exact .inr (.inl h0)
    · have hr := creditAt_range x a
      have hg : goodS x (creditAt x a).toNat = true := by
        cases h8 : decide (8 < (x.length : Int)) with
        | true => simp only [sCr, h8, cond_true] at h; cases h
        | false => simp only [sCr, h8, cond_false] at h; exact allN_iff.1 h _ (by omega)
      simp only [goodS, Bool.and_eq_true] at hg
      have h1 := spec_l1In_t hg.2.1
      have h2 := spec_l1In_t hg.2.2.1
      exact .inr (.inr ⟨h1.1, h1.2, h2.1, h2.2⟩)
  · exact .inl (by rw [h]; rfl)

def F_impl_within (x_n : Int) (x_low : Int) (x_high : Int) : (Bool) := bif (decide (x_low ≤ x_n)) then (decide (x_n ≤ x_high)) else (false)
theorem C_impl_within (w0 : World) (x_n : Int) (x_low : Int) (x_high : Int)  : Fn Try.prog 51 #[(vi x_n), (vi x_low), (vi x_high)] w0 (fun v w' => Keep w0 w' ∧ O_4 w' w0.heap.size v (F_impl_within x_n x_low x_high)) := by
 refine fn_of (n := 15) (l := [(vi x_n), (vi x_low), (vi x_high), U, U, U, U, U, U, U, U, U, U, U, U]) Try.func51 rfl rfl (by kernel_rfl) rfl ?_
 refine sr ?_
 refine ag (vb false) wN ?_
 refine nx ?_
 refine mv (vi x_n) wN ?_
 refine mv (vi x_low) wN ?_
 refine pu (vb (decide (x_low ≤ x_n))) wN ?_
 refine mv (vb (decide (x_low ≤ x_n))) wN ?_
 rcases bf (decide (x_low ≤ x_n)) with h1 | h1
 ·have q4 := of_decide_eq_false h1
  refine sk h1 ?_
  refine sk h1 ?_
  refine sk h1 ?_
  refine pf (vb false) wN h1 ?_
  refine ag (vb false) wN ?_
  refine wl_nil <| wq_then <| wc_ret ?_
  refine ret_1 (.inl rfl) (vb false) rfl rfl ?_
  refine ⟨Ch.refl _ _, ?_⟩
  have hF5 : F_impl_within x_n x_low x_high = false := by simp only [F_impl_within, h1, cond_true, cond_false]
  rw [hF5]
  exact rfl
 have q2 := of_decide_eq_true h1
 refine mv (vi x_n) (wS h1) ?_
 refine mv (vi x_high) (wS h1) ?_
 refine pu (vb (decide (x_n ≤ x_high))) (wS h1) ?_
 refine pk (vb (decide (x_n ≤ x_high))) wN h1 ?_
 refine ag (vb (decide (x_n ≤ x_high))) wN ?_
 refine wl_nil <| wq_then <| wc_ret ?_
 refine ret_1 (.inl rfl) (vb (decide (x_n ≤ x_high))) rfl rfl ?_
 refine ⟨Ch.refl _ _, ?_⟩
 have hF3 : F_impl_within x_n x_low x_high = decide (x_n ≤ x_high) := by simp only [F_impl_within, h1, cond_true, cond_false]
 rw [hF3]
 exact rfl
theorem impl_within_t {n a b : Int} (h : F_impl_within n a b = true) : a ≤ n ∧ n ≤ b := by
  unfold F_impl_within at h
  by_cases h1 : a ≤ n <;> simp [h1] at h
  exact ⟨h1, h⟩
theorem impl_within_f {n a b : Int} (h : F_impl_within n a b = false) : n < a ∨ b < n := by
  unfold F_impl_within at h
  by_cases h1 : a ≤ n <;> simp [h1] at h <;> omega

def F_impl_AddrOk (x_a : PAddr) : (Bool) := bif (F_impl_within x_a.Host 0 4294967295) then ((F_impl_within x_a.Port 0 65535)) else (false)
theorem C_impl_AddrOk (w0 : World) (v_x_a : Value) (x_a : PAddr) (r_x_a : R_49 w0 v_x_a x_a)  : Fn Try.prog 56 #[v_x_a] w0 (fun v w' => Keep w0 w' ∧ O_4 w' w0.heap.size v (F_impl_AddrOk x_a)) := by
 obtain rfl := r_x_a
 refine fn_of (n := 11) (l := [(va (L_49 x_a)), U, U, U, U, U, U, U, U, U, U]) Try.func56 rfl rfl (by kernel_rfl) rfl ?_
 refine sr ?_
 refine bx (L_49 x_a) wN ?_
 intro g1 w1 p2 p3 k4 b5
 have m6 := (Ch.base w0).extk k4
 refine ag (vb false) wN ?_
 refine nx ?_
 refine pu (vp g1 0) wN ?_
 refine ld (vi x_a.Host) wN isAgg_3 b5 ?_
 refine cl wN (C_impl_within w1 x_a.Host 0 4294967295) ?_
 rintro _ w2 ⟨k7, rfl⟩
 have m8 := m6.extk k7
 refine mv (vb (F_impl_within x_a.Host 0 4294967295)) wN ?_
 rcases bf (F_impl_within x_a.Host 0 4294967295) with h9 | h9
 ·have q15 := impl_within_f h9
  refine sk h9 ?_
  refine sk h9 ?_
  refine sk h9 ?_
  refine pf (vb false) wN h9 ?_
  refine ag (vb false) wN ?_
  refine wl_nil <| wq_then <| wc_ret ?_
  refine ret_1 (.inl rfl) (vb false) rfl rfl ?_
  refine ⟨m8.keep0, ?_⟩
  have hF16 : F_impl_AddrOk x_a = false := by simp only [F_impl_AddrOk, h9, cond_true, cond_false]
  rw [hF16]
  exact rfl
 have q10 := impl_within_t h9
 refine pu (vp g1 1) (wS h9) ?_
 have b11 := (b5.kp k7)
 refine ld (vi x_a.Port) (wS h9) isAgg_3 b11 ?_
 refine cl (wS h9) (C_impl_within w2 x_a.Port 0 65535) ?_
 rintro _ w3 ⟨k12, rfl⟩
 have m13 := m8.extk k12
 refine pk (vb (F_impl_within x_a.Port 0 65535)) wN h9 ?_
 refine ag (vb (F_impl_within x_a.Port 0 65535)) wN ?_
 refine wl_nil <| wq_then <| wc_ret ?_
 refine ret_1 (.inl rfl) (vb (F_impl_within x_a.Port 0 65535)) rfl rfl ?_
 refine ⟨m13.keep0, ?_⟩
 have hF14 : F_impl_AddrOk x_a = (F_impl_within x_a.Port 0 65535) := by simp only [F_impl_AddrOk, h9, cond_true, cond_false]
 rw [hF14]
 exact rfl

theorem C_impl_creditAt (w0 : World) (v_x_l : Value) (x_l : List PCredit) (r_x_l : R_44 w0 v_x_l x_l) (v_x_a : Value) (x_a : PAddr) (r_x_a : R_49 w0 v_x_a x_a)  : Fn Try.prog 57 #[v_x_l, v_x_a] w0 (fun v w' => Keep w0 w' ∧ O_3 w' w0.heap.size v (creditAt x_l x_a)) := by
 obtain ⟨a1, c2, rfl, r3, s4⟩ := r_x_l
 obtain rfl := r_x_a
 refine fn_of (n := 20) (l := [(vs a1 x_l.length c2), (va (L_49 x_a)), U, U, U, U, U, U, U, U, U, U, U, U, U, U, U, U, U, U]) Try.func57 rfl rfl (by kernel_rfl) rfl ?_
 refine sr ?_
 refine bx (L_49 x_a) wN ?_
 intro g6 w1 p7 p8 k9 b10
 have m11 := (Ch.base w0).extk k9
 refine ag (vi 0) wN ?_
 refine wl_nil <| wq_then <| wc_seq <| sr ?_
 refine mv (vs a1 x_l.length c2) wN ?_
 refine ln wN slTy_44 (r3.from0 m11) ?_
 refine mv (vi 0) wN ?_
 refine wl_nil <| wq_then <| wc_block ?_
 refine wc_norm [(vs a1 x_l.length c2), (va (L_49 x_a)), U, (vp g6 0), (vi 0), U, U, (vs a1 x_l.length c2), (vi (x_l.length : Int)), (vi 0), U, U, U, U, U, U, U, U, U, U] rfl ⟨rfl, rfl, rfl, rfl, rfl, rfl, rfl, rfl, rfl, rfl, rfl, rfl, rfl, rfl, rfl, rfl, rfl, rfl, rfl, rfl, trivial⟩ ?_
 refine wc_loop (fun e' w' => ∃ (k : Nat) (u4x u5x u6x u10x u11x u12x u13x u14x u15x u16x u17x u18x u19x : Value), e' = lst [(vs a1 x_l.length c2), (va (L_49 x_a)), U, (vp g6 0), u4x, u5x, u6x, (vs a1 x_l.length c2), (vi (x_l.length : Int)), (vi ((k : Nat) : Int)), u10x, u11x, u12x, u13x, u14x, u15x, u16x, u17x, u18x, u19x] ∧ Ch (fun k => w0.heap.size ≤ k) w0 w' ∧ Ch (fun k => w1.heap.size ≤ k) w1 w' ∧ k ≤ x_l.length ∧ ∀ j, j < k → (fun c : PCredit => decide (c.A.Host = x_a.Host) && decide (c.A.Port = x_a.Port)) (x_l.getD j z_PCredit) = false) (fun e' _ => x_l.length - ((intOf (e' 9))).toNat) ?_ ?_
 ·exact ⟨0, (vi 0), U, U, U, U, U, U, U, U, U, U, U, U, (congrArg (fun (x9z : Value) => lst [(vs a1 x_l.length c2), (va (L_49 x_a)), U, (vp g6 0), (vi 0), U, U, (vs a1 x_l.length c2), (vi (x_l.length : Int)), x9z, U, U, U, U, U, U, U, U, U, U]) (congrArg (Value.int .i64) (show (0 : Int) = ((0 : Nat) : Int) by omega))), m11, (Ch.refl (fun k => w1.heap.size ≤ k) w1), (by omega), (by first | (intro j hj; omega) | exact find_next (p := (fun c : PCredit => decide (c.A.Host = x_a.Host) && decide (c.A.Port = x_a.Port))) (by assumption) (by assumption))⟩
 ·rintro _ w2 ⟨k, u4x, u5x, u6x, u10x, u11x, u12x, u13x, u14x, u15x, u16x, u17x, u18x, u19x, rfl, m12, k13, i14, i15⟩
  refine sr ?_
  refine pu (vb (decide (((k : Nat) : Int) < (x_l.length : Int)))) wN ?_
  refine wl_nil <| wq_then <| wc_seq ?_
  rcases bf (decide (((k : Nat) : Int) < (x_l.length : Int))) with h16 | h16
  ·have q33 := of_decide_eq_false h16
   refine cf h16 ?_
   refine wc_exit <| wq_then_exit <| wq_then_exit <| wq_blk_exit <| wq_then <| sr ?_
   refine ag (vi (-1)) wN ?_
   refine wl_nil <| wq_then <| wc_ret ?_
   refine ret_1 (.inl rfl) (vi (-1)) rfl rfl ?_
   refine ⟨m12.keep0, ?_⟩
   have hF34 : creditAt x_l x_a = (-1) := by first | exact findF_some (p := (fun c : PCredit => decide (c.A.Host = x_a.Host) && decide (c.A.Port = x_a.Port))) (z := z_PCredit) (by assumption) (by omega) (by assumption) | exact findF_none (p := (fun c : PCredit => decide (c.A.Host = x_a.Host) && decide (c.A.Port = x_a.Port))) (z := z_PCredit) (by assumption) (by omega)
   rw [hF34]
   exact rfl
  have q17 := of_decide_eq_true h16
  refine ct h16 ?_
  refine wc_skip <| wq_then <| wc_seq <| wc_block <| sr ?_
  refine mv (vi ((k : Nat) : Int)) wN ?_
  refine wl_index wN ((k : Nat) : Int) rfl rfl rfl slTy_44 rfl rfl (r3.from0 m12) (by first | omega | (simp only [List.length_cons, List.length_nil, List.length_replicate, List.length_append, List.length_take, List.length_set, List.length_map]; omega)) (by first | omega | (simp only [List.length_cons, List.length_nil, List.length_replicate, List.length_append, List.length_take, List.length_set, List.length_map]; omega)) ?_
  refine wl_loadEN [(vi (((x_l.getD k z_PCredit).A).Host)), (vi (((x_l.getD k z_PCredit).A).Port)), (vi ((x_l.getD k z_PCredit).Got)), (vi ((x_l.getD k z_PCredit).Sent))] wN rfl rfl rfl rfl isAgg_67 sizeOf_67 (r3.from0 m12) (by first | omega | (simp only [List.length_cons, List.length_nil, List.length_replicate, List.length_append, List.length_take, List.length_set, List.length_map]; omega)) ((rows_part (off := 0) (n := 4) enc_PCredit_len z_PCredit (by first | rfl | simp | omega) (by decide) (by first | omega | (simp only [List.length_cons, List.length_nil, List.length_replicate, List.length_append, List.length_take, List.length_set, List.length_map]; omega))).trans rfl) ?_
  refine al [(vi 0), (vi 0), (vi 0), (vi 0)] wN zero_67 ?_
  intro g18 w3 p19 p20 k21 b22
  have m23 := m12.extk k21
  refine ag (vi ((k : Nat) : Int)) wN ?_
  refine st (va (L_67 (x_l.getD k z_PCredit))) (L_67 (x_l.getD k z_PCredit)) (L_67 (x_l.getD k z_PCredit)) wN sizeOf_67 b22 ?_
  intro w4 k24 b25 z26
  have m27 := m23.ext k24 (fun k hk => by subst hk; exact Nat.le_trans (Nat.le_trans k9.size k13.size) p19)
  refine nx ?_
  refine pu (vp g18 0) wN ?_
  refine lN (L_49 ((x_l.getD k z_PCredit).A)) wN isAgg_49 sizeOf_49 b25 ?_
  have b28 := (((b10.ch k13 (Nat.not_le.2 (Nat.lt_of_lt_of_le p8 (Nat.le_refl _)))).kp k21).ch k24 (Nat.ne_of_lt (Nat.lt_of_lt_of_le p8 (Nat.le_trans k13.size p19))))
  refine lN (L_49 x_a) wN isAgg_49 sizeOf_49 b28 ?_
  refine wl_aggeq ((decide ((((x_l.getD k z_PCredit).A).Host) = x_a.Host) && decide ((((x_l.getD k z_PCredit).A).Port) = x_a.Port))) wN rfl rfl rfl rfl rfl guardt_49 (aggeq_49 (((x_l.getD k z_PCredit).A).Host) x_a.Host (((x_l.getD k z_PCredit).A).Port) x_a.Port w4) ?_
  refine wl_nil <| wq_then ?_
  rcases bt (decide ((((x_l.getD k z_PCredit).A).Host) = x_a.Host) && decide ((((x_l.getD k z_PCredit).A).Port) = x_a.Port)) with h29 | h29
  ·refine ct h29 ?_
   refine sr ?_
   refine mv (vi ((k : Nat) : Int)) wN ?_
   refine ag (vi ((k : Nat) : Int)) wN ?_
   refine wl_nil <| wq_then <| wc_ret <| wq_blk_ret <| wq_then_ret <| wq_then_ret <| wq_blk_ret <| wq_then_ret ?_
   refine ret_1 (.inl rfl) (vi ((k : Nat) : Int)) rfl rfl ?_
   refine ⟨m27.keep0, ?_⟩
   have hF31 : creditAt x_l x_a = ((k : Nat) : Int) := by first | exact findF_some (p := (fun c : PCredit => decide (c.A.Host = x_a.Host) && decide (c.A.Port = x_a.Port))) (z := z_PCredit) (by assumption) (by omega) (by assumption) | exact findF_none (p := (fun c : PCredit => decide (c.A.Host = x_a.Host) && decide (c.A.Port = x_a.Port))) (z := z_PCredit) (by assumption) (by omega)
   rw [hF31]
   exact rfl
  refine cf h29 ?_
  refine wc_skip <| wq_blk_normal <| wq_then <| wc_region ?_
  refine ar (((k : Nat) : Int) + 1) wN ?_
  refine mv (vi (((k : Nat) : Int) + 1)) wN ?_
  refine wl_nil ?_
  refine wq_loopN (w0 := w2) [(vs a1 x_l.length c2), (va (L_49 x_a)), U, (vp g6 0), u4x, (vi ((k : Nat) : Int)), (vp g18 0), (vs a1 x_l.length c2), (vi (x_l.length : Int)), (vi (((k + 1) : Nat) : Int)), (vb (decide (((k : Nat) : Int) < (x_l.length : Int)))), (vi ((k : Nat) : Int)), (ve (vs a1 x_l.length c2) ((((k : Nat) : Int)).toNat * 4)), (va (L_67 (x_l.getD k z_PCredit))), (vp g18 0), (va (L_49 ((x_l.getD k z_PCredit).A))), (va (L_49 x_a)), (vb (decide ((((x_l.getD k z_PCredit).A).Host) = x_a.Host) && decide ((((x_l.getD k z_PCredit).A).Port) = x_a.Port))), u18x, (vi (((k : Nat) : Int) + 1))] rfl ?_ ?_ ?_
  · exact ⟨rfl, rfl, rfl, rfl, rfl, rfl, rfl, rfl, rfl, (congrArg (Value.int .i64) (show ((((k : Nat) : Int) + 1) : Int) = (((k + 1) : Nat) : Int) by omega)), rfl, rfl, rfl, rfl, rfl, rfl, rfl, rfl, rfl, rfl, trivial⟩
  · exact ⟨(k + 1), u4x, (vi ((k : Nat) : Int)), (vp g18 0), (vb (decide (((k : Nat) : Int) < (x_l.length : Int)))), (vi ((k : Nat) : Int)), (ve (vs a1 x_l.length c2) ((((k : Nat) : Int)).toNat * 4)), (va (L_67 (x_l.getD k z_PCredit))), (vp g18 0), (va (L_49 ((x_l.getD k z_PCredit).A))), (va (L_49 x_a)), (vb (decide ((((x_l.getD k z_PCredit).A).Host) = x_a.Host) && decide ((((x_l.getD k z_PCredit).A).Port) = x_a.Port))), u18x, (vi (((k : Nat) : Int) + 1)), rfl, m27, ((((Ch.refl (fun k => w1.heap.size ≤ k) w1).ext k13 (fun k hk => Nat.le_trans (Nat.le_refl _) hk)).extk k21).ext k24 (fun k hk => by subst hk; exact Nat.le_trans k13.size p19)), (by omega), (by first | (intro j hj; omega) | exact find_next (p := (fun c : PCredit => decide (c.A.Host = x_a.Host) && decide (c.A.Port = x_a.Port))) (by assumption) (by assumption))⟩
  · show x_l.length - ((((k + 1) : Nat) : Int)).toNat < x_l.length - (((k : Nat) : Int)).toNat; omega

theorem mR_44 {w : World} {x : List PCredit} {a1 : Option Addr} {c1 : Nat} (h1 : Rd w 4 (.slice a1 x.length c1) x.length (x.flatMap enc_PCredit)) (l1 : x.length ≤ 1073741824) : R_44 w (vs a1 x.length c1) x := ⟨_, _, rfl, h1, l1⟩
def goodI (x_l : List PCredit) (i : Nat) : Bool := F_impl_AddrOk (x_l.getD i z_PCredit).A && (F_impl_within (x_l.getD i z_PCredit).Got 0 1000000 && (F_impl_within (x_l.getD i z_PCredit).Sent 0 (3 * (x_l.getD i z_PCredit).Got) && !decide (creditAt x_l (x_l.getD i z_PCredit).A < ((i : Nat) : Int))))
def iCr (x_l : List PCredit) : Bool := bif decide (8 < (x_l.length : Int)) then false else allN (goodI x_l) x_l.length
theorem C_impl_CreditsOk (w0 : World) (v_x_l : Value) (x_l : List PCredit) (r_x_l : R_44 w0 v_x_l x_l)  : Fn Try.prog 37 #[v_x_l] w0 (fun v w' => Keep w0 w' ∧ O_4 w' w0.heap.size v (iCr x_l)) := by
 obtain ⟨a1, c2, rfl, r3, s4⟩ := r_x_l
 refine fn_of (n := 43) (l := [(vs a1 x_l.length c2), U, U, U, U, U, U, U, U, U, U, U, U, U, U, U, U, U, U, U, U, U, U, U, U, U, U, U, U, U, U, U, U, U, U, U, U, U, U, U, U, U, U]) Try.func37 rfl rfl (by kernel_rfl) rfl ?_
 refine sr ?_
 refine ag (vb false) wN ?_
 refine wl_nil <| wq_then <| wc_seq <| sr ?_
 refine mv (vs a1 x_l.length c2) wN ?_
 refine ln wN slTy_44 r3 ?_
 refine pu (vb (decide (8 < (x_l.length : Int)))) wN ?_
 refine wl_nil <| wq_then ?_
 rcases bt (decide (8 < (x_l.length : Int))) with h6 | h6
 ·have q7 := of_decide_eq_true h6
  refine ct h6 ?_
  refine sr ?_
  refine ag (vb false) wN ?_
  refine wl_nil <| wq_then <| wc_ret <| wq_then_ret ?_
  refine ret_1 (.inl rfl) (vb false) rfl rfl ?_
  refine ⟨Ch.refl _ _, ?_⟩
  have hF8 : iCr x_l = false := by first | (simp [iCr, h6]; done) | (have hz := allN_f (f := goodI x_l) (n := x_l.length) (k := k) (by omega) (by simp only [goodI, h6]; simp); simp only [iCr, h6, hz]; simp) | (have hz := allN_t (f := goodI x_l) (n := x_l.length) (k := k) (by assumption) (by omega); simp only [iCr, h6, hz]; simp)
  rw [hF8]
  exact rfl
 have q9 := of_decide_eq_false h6
 refine cf h6 ?_
 refine wc_skip <| wq_then <| wc_seq <| sr ?_
 refine mv (vs a1 x_l.length c2) wN ?_
 refine ln wN slTy_44 r3 ?_
 refine mv (vi 0) wN ?_
 refine wl_nil <| wq_then <| wc_block ?_
 refine wc_norm [(vs a1 x_l.length c2), U, (vb false), U, U, (vs a1 x_l.length c2), (vi (x_l.length : Int)), (vb (decide (8 < (x_l.length : Int)))), (vs a1 x_l.length c2), (vi (x_l.length : Int)), (vi 0), U, U, U, U, U, U, U, U, U, U, U, U, U, U, U, U, U, U, U, U, U, U, U, U, U, U, U, U, U, U, U, U] rfl ⟨rfl, rfl, rfl, rfl, rfl, rfl, rfl, rfl, rfl, rfl, rfl, rfl, rfl, rfl, rfl, rfl, rfl, rfl, rfl, rfl, rfl, rfl, rfl, rfl, rfl, rfl, rfl, rfl, rfl, rfl, rfl, rfl, rfl, rfl, rfl, rfl, rfl, rfl, rfl, rfl, rfl, rfl, rfl, trivial⟩ ?_
 refine wc_loop (fun e' w' => ∃ (k : Nat) (u2x u3x u4x u11x u12x u13x u14x u15x u16x u17x u18x u19x u20x u21x u22x u23x u24x u25x u26x u27x u28x u29x u30x u31x u32x u33x u34x u35x u36x u37x u38x u39x u40x u41x u42x : Value), e' = lst [(vs a1 x_l.length c2), U, u2x, u3x, u4x, (vs a1 x_l.length c2), (vi (x_l.length : Int)), (vb (decide (8 < (x_l.length : Int)))), (vs a1 x_l.length c2), (vi (x_l.length : Int)), (vi ((k : Nat) : Int)), u11x, u12x, u13x, u14x, u15x, u16x, u17x, u18x, u19x, u20x, u21x, u22x, u23x, u24x, u25x, u26x, u27x, u28x, u29x, u30x, u31x, u32x, u33x, u34x, u35x, u36x, u37x, u38x, u39x, u40x, u41x, u42x] ∧ Ch (fun k => w0.heap.size ≤ k) w0 w' ∧ Ch (fun k => w0.heap.size ≤ k) w0 w' ∧ k ≤ x_l.length ∧ ∀ j, j < k → goodI x_l j = true) (fun e' _ => x_l.length - ((intOf (e' 10))).toNat) ?_ ?_
 ·exact ⟨0, (vb false), U, U, U, U, U, U, U, U, U, U, U, U, U, U, U, U, U, U, U, U, U, U, U, U, U, U, U, U, U, U, U, U, U, U, (congrArg (fun (x10z : Value) => lst [(vs a1 x_l.length c2), U, (vb false), U, U, (vs a1 x_l.length c2), (vi (x_l.length : Int)), (vb (decide (8 < (x_l.length : Int)))), (vs a1 x_l.length c2), (vi (x_l.length : Int)), x10z, U, U, U, U, U, U, U, U, U, U, U, U, U, U, U, U, U, U, U, U, U, U, U, U, U, U, U, U, U, U, U, U]) (congrArg (Value.int .i64) (show (0 : Int) = ((0 : Nat) : Int) by omega))), (Ch.base w0), (Ch.refl (fun k => w0.heap.size ≤ k) w0), (by omega), (by first | (intro j hj; omega) | exact allN_next (by assumption) (by simp only [goodI, h6]; simp))⟩
 ·rintro _ w1 ⟨k, u2x, u3x, u4x, u11x, u12x, u13x, u14x, u15x, u16x, u17x, u18x, u19x, u20x, u21x, u22x, u23x, u24x, u25x, u26x, u27x, u28x, u29x, u30x, u31x, u32x, u33x, u34x, u35x, u36x, u37x, u38x, u39x, u40x, u41x, u42x, rfl, m10, k11, i12, i13⟩
  refine sr ?_
  refine pu (vb (decide (((k : Nat) : Int) < (x_l.length : Int)))) wN ?_
  refine wl_nil <| wq_then <| wc_seq ?_
  rcases bf (decide (((k : Nat) : Int) < (x_l.length : Int))) with h14 | h14
  ·have q54 := of_decide_eq_false h14
   refine cf h14 ?_
   refine wc_exit <| wq_then_exit <| wq_then_exit <| wq_blk_exit <| wq_then <| sr ?_
   refine ag (vb true) wN ?_
   refine wl_nil <| wq_then <| wc_ret ?_
   refine ret_1 (.inl rfl) (vb true) rfl rfl ?_
   refine ⟨m10.keep0, ?_⟩
   have hF55 : iCr x_l = true := by first | (simp [iCr, h6, h14]; done) | (have hz := allN_f (f := goodI x_l) (n := x_l.length) (k := k) (by omega) (by simp only [goodI, h6, h14]; simp); simp only [iCr, h6, h14, hz]; simp) | (have hz := allN_t (f := goodI x_l) (n := x_l.length) (k := k) (by assumption) (by omega); simp only [iCr, h6, h14, hz]; simp)
   rw [hF55]
   exact rfl
  have q15 := of_decide_eq_true h14
  refine ct h14 ?_
  refine wc_skip <| wq_then <| wc_seq <| wc_block <| sr ?_
  refine mv (vi ((k : Nat) : Int)) wN ?_
  refine wl_index wN ((k : Nat) : Int) rfl rfl rfl slTy_44 rfl rfl (r3.from0 m10) (by first | omega | (simp only [List.length_cons, List.length_nil, List.length_replicate, List.length_append, List.length_take, List.length_set, List.length_map]; omega)) (by first | omega | (simp only [List.length_cons, List.length_nil, List.length_replicate, List.length_append, List.length_take, List.length_set, List.length_map]; omega)) ?_
  refine wl_loadEN [(vi (((x_l.getD k z_PCredit).A).Host)), (vi (((x_l.getD k z_PCredit).A).Port)), (vi ((x_l.getD k z_PCredit).Got)), (vi ((x_l.getD k z_PCredit).Sent))] wN rfl rfl rfl rfl isAgg_67 sizeOf_67 (r3.from0 m10) (by first | omega | (simp only [List.length_cons, List.length_nil, List.length_replicate, List.length_append, List.length_take, List.length_set, List.length_map]; omega)) ((rows_part (off := 0) (n := 4) enc_PCredit_len z_PCredit (by first | rfl | simp | omega) (by decide) (by first | omega | (simp only [List.length_cons, List.length_nil, List.length_replicate, List.length_append, List.length_take, List.length_set, List.length_map]; omega))).trans rfl) ?_
  refine al [(vi 0), (vi 0), (vi 0), (vi 0)] wN zero_67 ?_
  intro g16 w2 p17 p18 k19 b20
  have m21 := m10.extk k19
  refine ag (vi ((k : Nat) : Int)) wN ?_
  refine st (va (L_67 (x_l.getD k z_PCredit))) (L_67 (x_l.getD k z_PCredit)) (L_67 (x_l.getD k z_PCredit)) wN sizeOf_67 b20 ?_
  intro w3 k22 b23 z24
  have m25 := m21.ext k22 (fun k hk => by subst hk; exact Nat.le_trans k11.size p17)
  refine nx ?_
  refine pu (vp g16 0) wN ?_
  refine lN (L_49 ((x_l.getD k z_PCredit).A)) wN isAgg_49 sizeOf_49 b23 ?_
  refine cl wN (C_impl_AddrOk w3 _ ((x_l.getD k z_PCredit).A) (mR_49)) ?_
  rintro _ w4 ⟨k26, rfl⟩
  have m27 := m25.extk k26
  refine pu (vb (!(F_impl_AddrOk ((x_l.getD k z_PCredit).A)))) wN ?_
  refine mv (vb (!(F_impl_AddrOk ((x_l.getD k z_PCredit).A)))) wN ?_
  rcases bf (F_impl_AddrOk ((x_l.getD k z_PCredit).A)) with h28 | h28
  ·refine sk (congrArg not h28) ?_
   refine sk (congrArg not h28) ?_
   refine sk (congrArg not h28) ?_
   refine sk (congrArg not h28) ?_
   refine pk (vb true) wN (congrArg not h28) ?_
   refine mv (vb true) wN ?_
   refine sk (Eq.refl true) ?_
   refine sk (Eq.refl true) ?_
   refine sk (Eq.refl true) ?_
   refine sk (Eq.refl true) ?_
   refine sk (Eq.refl true) ?_
   refine sk (Eq.refl true) ?_
   refine sk (Eq.refl true) ?_
   refine pk (vb true) wN (Eq.refl true) ?_
   refine mv (vb true) wN ?_
   refine sk (Eq.refl true) ?_
   refine sk (Eq.refl true) ?_
   refine sk (Eq.refl true) ?_
   refine sk (Eq.refl true) ?_
   refine sk (Eq.refl true) ?_
   refine sk (Eq.refl true) ?_
   refine pk (vb true) wN (Eq.refl true) ?_
   refine wl_nil <| wq_then ?_
   refine ct (Eq.refl true) ?_
   refine sr ?_
   refine ag (vb false) wN ?_
   refine wl_nil <| wq_then <| wc_ret <| wq_blk_ret <| wq_then_ret <| wq_then_ret <| wq_blk_ret <| wq_then_ret ?_
   refine ret_1 (.inl rfl) (vb false) rfl rfl ?_
   refine ⟨m27.keep0, ?_⟩
   have hF53 : iCr x_l = false := by first | (simp [iCr, h6, h14, h28]; done) | (have hz := allN_f (f := goodI x_l) (n := x_l.length) (k := k) (by omega) (by simp only [goodI, h6, h14, h28]; simp); simp only [iCr, h6, h14, h28, hz]; simp) | (have hz := allN_t (f := goodI x_l) (n := x_l.length) (k := k) (by assumption) (by omega); simp only [iCr, h6, h14, h28, hz]; simp)
   rw [hF53]
   exact rfl
  refine pu (vp g16 2) (wS (congrArg not h28)) ?_
  have b30 := (b23.kp k26)
  refine ld (vi ((x_l.getD k z_PCredit).Got)) (wS (congrArg not h28)) isAgg_3 b30 ?_
  refine cl (wS (congrArg not h28)) (C_impl_within w4 ((x_l.getD k z_PCredit).Got) 0 1000000) ?_
  rintro _ w5 ⟨k31, rfl⟩
  have m32 := m27.extk k31
  refine pu (vb (!(F_impl_within ((x_l.getD k z_PCredit).Got) 0 1000000))) (wS (congrArg not h28)) ?_
  refine pf (vb (!(F_impl_within ((x_l.getD k z_PCredit).Got) 0 1000000))) wN (congrArg not h28) ?_
  refine mv (vb (!(F_impl_within ((x_l.getD k z_PCredit).Got) 0 1000000))) wN ?_
  rcases bf (F_impl_within ((x_l.getD k z_PCredit).Got) 0 1000000) with h33 | h33
  ·have q50 := impl_within_f h33
   refine sk (congrArg not h33) ?_
   refine sk (congrArg not h33) ?_
   refine sk (congrArg not h33) ?_
   refine sk (congrArg not h33) ?_
   refine sk (congrArg not h33) ?_
   refine sk (congrArg not h33) ?_
   refine sk (congrArg not h33) ?_
   refine pk (vb true) wN (congrArg not h33) ?_
   refine mv (vb true) wN ?_
   refine sk (Eq.refl true) ?_
   refine sk (Eq.refl true) ?_
   refine sk (Eq.refl true) ?_
   refine sk (Eq.refl true) ?_
   refine sk (Eq.refl true) ?_
   refine sk (Eq.refl true) ?_
   refine pk (vb true) wN (Eq.refl true) ?_
   refine wl_nil <| wq_then ?_
   refine ct (Eq.refl true) ?_
   refine sr ?_
   refine ag (vb false) wN ?_
   refine wl_nil <| wq_then <| wc_ret <| wq_blk_ret <| wq_then_ret <| wq_then_ret <| wq_blk_ret <| wq_then_ret ?_
   refine ret_1 (.inl rfl) (vb false) rfl rfl ?_
   refine ⟨m32.keep0, ?_⟩
   have hF51 : iCr x_l = false := by first | (simp [iCr, h6, h14, h28, h33]; done) | (have hz := allN_f (f := goodI x_l) (n := x_l.length) (k := k) (by omega) (by simp only [goodI, h6, h14, h28, h33]; simp); simp only [iCr, h6, h14, h28, h33, hz]; simp) | (have hz := allN_t (f := goodI x_l) (n := x_l.length) (k := k) (by assumption) (by omega); simp only [iCr, h6, h14, h28, h33, hz]; simp)
   rw [hF51]
   exact rfl
  have q34 := impl_within_t h33
  refine pu (vp g16 3) (wS (congrArg not h33)) ?_
  have b35 := (b30.kp k31)
  refine ld (vi ((x_l.getD k z_PCredit).Sent)) (wS (congrArg not h33)) isAgg_3 b35 ?_
  refine pu (vp g16 2) (wS (congrArg not h33)) ?_
  refine ld (vi ((x_l.getD k z_PCredit).Got)) (wS (congrArg not h33)) isAgg_3 b35 ?_
  refine ar (3 * ((x_l.getD k z_PCredit).Got)) (wS (congrArg not h33)) ?_
  refine cl (wS (congrArg not h33)) (C_impl_within w5 ((x_l.getD k z_PCredit).Sent) 0 (3 * ((x_l.getD k z_PCredit).Got))) ?_
  rintro _ w6 ⟨k36, rfl⟩
  have m37 := m32.extk k36
  refine pu (vb (!(F_impl_within ((x_l.getD k z_PCredit).Sent) 0 (3 * ((x_l.getD k z_PCredit).Got))))) (wS (congrArg not h33)) ?_
  refine pf (vb (!(F_impl_within ((x_l.getD k z_PCredit).Sent) 0 (3 * ((x_l.getD k z_PCredit).Got))))) wN (congrArg not h33) ?_
  refine mv (vb (!(F_impl_within ((x_l.getD k z_PCredit).Sent) 0 (3 * ((x_l.getD k z_PCredit).Got))))) wN ?_
  rcases bf (F_impl_within ((x_l.getD k z_PCredit).Sent) 0 (3 * ((x_l.getD k z_PCredit).Got))) with h38 | h38
  ·have q48 := impl_within_f h38
   refine sk (congrArg not h38) ?_
   refine sk (congrArg not h38) ?_
   refine sk (congrArg not h38) ?_
   refine sk (congrArg not h38) ?_
   refine sk (congrArg not h38) ?_
   refine sk (congrArg not h38) ?_
   refine pk (vb true) wN (congrArg not h38) ?_
   refine wl_nil <| wq_then ?_
   refine ct (Eq.refl true) ?_
   refine sr ?_
   refine ag (vb false) wN ?_
   refine wl_nil <| wq_then <| wc_ret <| wq_blk_ret <| wq_then_ret <| wq_then_ret <| wq_blk_ret <| wq_then_ret ?_
   refine ret_1 (.inl rfl) (vb false) rfl rfl ?_
   refine ⟨m37.keep0, ?_⟩
   have hF49 : iCr x_l = false := by first | (simp [iCr, h6, h14, h28, h33, h38]; done) | (have hz := allN_f (f := goodI x_l) (n := x_l.length) (k := k) (by omega) (by simp only [goodI, h6, h14, h28, h33, h38]; simp); simp only [iCr, h6, h14, h28, h33, h38, hz]; simp) | (have hz := allN_t (f := goodI x_l) (n := x_l.length) (k := k) (by assumption) (by omega); simp only [iCr, h6, h14, h28, h33, h38, hz]; simp)
   rw [hF49]
   exact rfl
  have q39 := impl_within_t h38
  refine mv (vs a1 x_l.length c2) (wS (congrArg not h38)) ?_
  refine pu (vp g16 0) (wS (congrArg not h38)) ?_
  have b40 := (b35.kp k36)
  refine lN (L_49 ((x_l.getD k z_PCredit).A)) (wS (congrArg not h38)) isAgg_49 sizeOf_49 b40 ?_
  refine cl (wS (congrArg not h38)) (C_impl_creditAt w6 _ x_l (mR_44 (r3.from0 m37) s4) _ ((x_l.getD k z_PCredit).A) (mR_49)) ?_
  rintro _ w7 ⟨k41, rfl⟩
  have m42 := m37.extk k41
  have q43 := creditAt_range x_l ((x_l.getD k z_PCredit).A)
  refine mv (vi ((k : Nat) : Int)) (wS (congrArg not h38)) ?_
  refine pu (vb (decide ((creditAt x_l ((x_l.getD k z_PCredit).A)) < ((k : Nat) : Int)))) (wS (congrArg not h38)) ?_
  refine pf (vb (decide ((creditAt x_l ((x_l.getD k z_PCredit).A)) < ((k : Nat) : Int)))) wN (congrArg not h38) ?_
  refine wl_nil <| wq_then ?_
  rcases bt (decide ((creditAt x_l ((x_l.getD k z_PCredit).A)) < ((k : Nat) : Int))) with h44 | h44
  ·have q45 := of_decide_eq_true h44
   refine ct h44 ?_
   refine sr ?_
   refine ag (vb false) wN ?_
   refine wl_nil <| wq_then <| wc_ret <| wq_blk_ret <| wq_then_ret <| wq_then_ret <| wq_blk_ret <| wq_then_ret ?_
   refine ret_1 (.inl rfl) (vb false) rfl rfl ?_
   refine ⟨m42.keep0, ?_⟩
   have hF46 : iCr x_l = false := by first | (simp [iCr, h6, h14, h28, h33, h38, h44]; done) | (have hz := allN_f (f := goodI x_l) (n := x_l.length) (k := k) (by omega) (by simp only [goodI, h6, h14, h28, h33, h38, h44]; simp); simp only [iCr, h6, h14, h28, h33, h38, h44, hz]; simp) | (have hz := allN_t (f := goodI x_l) (n := x_l.length) (k := k) (by assumption) (by omega); simp only [iCr, h6, h14, h28, h33, h38, h44, hz]; simp)
   rw [hF46]
   exact rfl
  have q47 := of_decide_eq_false h44
  refine cf h44 ?_
  refine wc_skip <| wq_blk_normal <| wq_then <| wc_region ?_
  refine ar (((k : Nat) : Int) + 1) wN ?_
  refine mv (vi (((k : Nat) : Int) + 1)) wN ?_
  refine wl_nil ?_
  refine wq_loopN (w0 := w1) [(vs a1 x_l.length c2), U, u2x, (vi ((k : Nat) : Int)), (vp g16 0), (vs a1 x_l.length c2), (vi (x_l.length : Int)), (vb (decide (8 < (x_l.length : Int)))), (vs a1 x_l.length c2), (vi (x_l.length : Int)), (vi (((k + 1) : Nat) : Int)), (vb (decide (((k : Nat) : Int) < (x_l.length : Int)))), (vi ((k : Nat) : Int)), (ve (vs a1 x_l.length c2) ((((k : Nat) : Int)).toNat * 4)), (va (L_67 (x_l.getD k z_PCredit))), (vp g16 0), (va (L_49 ((x_l.getD k z_PCredit).A))), (vb (F_impl_AddrOk ((x_l.getD k z_PCredit).A))), (vb (!(F_impl_AddrOk ((x_l.getD k z_PCredit).A)))), (vb (!(F_impl_AddrOk ((x_l.getD k z_PCredit).A)))), (vp g16 2), (vi ((x_l.getD k z_PCredit).Got)), (vb (F_impl_within ((x_l.getD k z_PCredit).Got) 0 1000000)), (vb (!(F_impl_within ((x_l.getD k z_PCredit).Got) 0 1000000))), (vb (!(F_impl_within ((x_l.getD k z_PCredit).Got) 0 1000000))), (vb (!(F_impl_within ((x_l.getD k z_PCredit).Got) 0 1000000))), (vp g16 3), (vi ((x_l.getD k z_PCredit).Sent)), (vp g16 2), (vi ((x_l.getD k z_PCredit).Got)), (vi (3 * ((x_l.getD k z_PCredit).Got))), (vb (F_impl_within ((x_l.getD k z_PCredit).Sent) 0 (3 * ((x_l.getD k z_PCredit).Got)))), (vb (!(F_impl_within ((x_l.getD k z_PCredit).Sent) 0 (3 * ((x_l.getD k z_PCredit).Got))))), (vb (!(F_impl_within ((x_l.getD k z_PCredit).Sent) 0 (3 * ((x_l.getD k z_PCredit).Got))))), (vb (!(F_impl_within ((x_l.getD k z_PCredit).Sent) 0 (3 * ((x_l.getD k z_PCredit).Got))))), (vs a1 x_l.length c2), (vp g16 0), (va (L_49 ((x_l.getD k z_PCredit).A))), (vi (creditAt x_l ((x_l.getD k z_PCredit).A))), (vi ((k : Nat) : Int)), (vb (decide ((creditAt x_l ((x_l.getD k z_PCredit).A)) < ((k : Nat) : Int)))), (vb (decide ((creditAt x_l ((x_l.getD k z_PCredit).A)) < ((k : Nat) : Int)))), (vi (((k : Nat) : Int) + 1))] rfl ?_ ?_ ?_
  · exact ⟨rfl, rfl, rfl, rfl, rfl, rfl, rfl, rfl, rfl, rfl, (congrArg (Value.int .i64) (show ((((k : Nat) : Int) + 1) : Int) = (((k + 1) : Nat) : Int) by omega)), rfl, rfl, rfl, rfl, rfl, rfl, rfl, rfl, rfl, rfl, rfl, rfl, rfl, rfl, rfl, rfl, rfl, rfl, rfl, rfl, rfl, rfl, rfl, rfl, rfl, rfl, rfl, rfl, rfl, rfl, rfl, rfl, trivial⟩
  · exact ⟨(k + 1), u2x, (vi ((k : Nat) : Int)), (vp g16 0), (vb (decide (((k : Nat) : Int) < (x_l.length : Int)))), (vi ((k : Nat) : Int)), (ve (vs a1 x_l.length c2) ((((k : Nat) : Int)).toNat * 4)), (va (L_67 (x_l.getD k z_PCredit))), (vp g16 0), (va (L_49 ((x_l.getD k z_PCredit).A))), (vb (F_impl_AddrOk ((x_l.getD k z_PCredit).A))), (vb (!(F_impl_AddrOk ((x_l.getD k z_PCredit).A)))), (vb (!(F_impl_AddrOk ((x_l.getD k z_PCredit).A)))), (vp g16 2), (vi ((x_l.getD k z_PCredit).Got)), (vb (F_impl_within ((x_l.getD k z_PCredit).Got) 0 1000000)), (vb (!(F_impl_within ((x_l.getD k z_PCredit).Got) 0 1000000))), (vb (!(F_impl_within ((x_l.getD k z_PCredit).Got) 0 1000000))), (vb (!(F_impl_within ((x_l.getD k z_PCredit).Got) 0 1000000))), (vp g16 3), (vi ((x_l.getD k z_PCredit).Sent)), (vp g16 2), (vi ((x_l.getD k z_PCredit).Got)), (vi (3 * ((x_l.getD k z_PCredit).Got))), (vb (F_impl_within ((x_l.getD k z_PCredit).Sent) 0 (3 * ((x_l.getD k z_PCredit).Got)))), (vb (!(F_impl_within ((x_l.getD k z_PCredit).Sent) 0 (3 * ((x_l.getD k z_PCredit).Got))))), (vb (!(F_impl_within ((x_l.getD k z_PCredit).Sent) 0 (3 * ((x_l.getD k z_PCredit).Got))))), (vb (!(F_impl_within ((x_l.getD k z_PCredit).Sent) 0 (3 * ((x_l.getD k z_PCredit).Got))))), (vs a1 x_l.length c2), (vp g16 0), (va (L_49 ((x_l.getD k z_PCredit).A))), (vi (creditAt x_l ((x_l.getD k z_PCredit).A))), (vi ((k : Nat) : Int)), (vb (decide ((creditAt x_l ((x_l.getD k z_PCredit).A)) < ((k : Nat) : Int)))), (vb (decide ((creditAt x_l ((x_l.getD k z_PCredit).A)) < ((k : Nat) : Int)))), (vi (((k : Nat) : Int) + 1)), rfl, m42, ((((((((Ch.refl (fun k => w0.heap.size ≤ k) w0).ext k11 (fun k hk => Nat.le_trans (Nat.le_refl _) hk)).extk k19).ext k22 (fun k hk => by subst hk; exact Nat.le_trans k11.size p17)).extk k26).extk k31).extk k36).extk k41), (by omega), (by first | (intro j hj; omega) | exact allN_next (by assumption) (by simp only [goodI, h6, h14, h28, h33, h38, h44]; simp))⟩
  · show x_l.length - ((((k + 1) : Nat) : Int)).toNat < x_l.length - (((k : Nat) : Int)).toNat; omega
theorem iCr_t {x : List PCredit} (h : iCr x = true) : (iCr x).toNat = 1 ∧ x.length ≤ 8 := by
  refine ⟨by rw [h]; rfl, ?_⟩
  cases h8 : decide (8 < (x.length : Int)) with
  | true => simp only [iCr, h8, cond_true] at h; cases h
  | false => have := of_decide_eq_false h8; omega
theorem iCr_got (x : List PCredit) (a : PAddr) : (iCr x).toNat = 0 ∨ creditAt x a < 0 ∨ (0 ≤ (x.getD (creditAt x a).toNat z_PCredit).Got ∧ (x.getD (creditAt x a).toNat z_PCredit).Got ≤ 1000000 ∧ 0 ≤ (x.getD (creditAt x a).toNat z_PCredit).Sent ∧ (x.getD (creditAt x a).toNat z_PCredit).Sent ≤ 3 * (x.getD (creditAt x a).toNat z_PCredit).Got) := by
  rcases Bool.eq_false_or_eq_true (iCr x) with h | h
  · by_cases h0 : creditAt x a < 0
    · exact .inr (.inl h0)
    · have hr := creditAt_range x a
      have hg : goodI x (creditAt x a).toNat = true := by
        cases h8 : decide (8 < (x.length : Int)) with
        | true => simp only [iCr, h8, cond_true] at h; cases h
        | false => simp only [iCr, h8, cond_false] at h; exact allN_iff.1 h _ (by omega)
      simp only [goodI, Bool.and_eq_true] at hg
      have h1 := impl_within_t hg.2.1
      have h2 := impl_within_t hg.2.2.1
      exact .inr (.inr ⟨h1.1, h1.2, h2.1, h2.2⟩)
  · exact .inl (by rw [h]; rfl)

def F_laws_eqAddr (x_a : PAddr) (x_b : PAddr) : (Bool) := bif (decide (x_a.Host = x_b.Host)) then (bif (decide (x_a.Port = x_b.Port)) then (true) else (false)) else (false)
theorem C_laws_eqAddr (w0 : World) (v_x_a : Value) (x_a : PAddr) (r_x_a : R_49 w0 v_x_a x_a) (v_x_b : Value) (x_b : PAddr) (r_x_b : R_49 w0 v_x_b x_b)  : Fn Try.prog 60 #[v_x_a, v_x_b] w0 (fun v w' => Keep w0 w' ∧ O_4 w' w0.heap.size v (F_laws_eqAddr x_a x_b)) := by
 obtain rfl := r_x_a
 obtain rfl := r_x_b
 refine fn_of (n := 15) (l := [(va (L_49 x_a)), (va (L_49 x_b)), U, U, U, U, U, U, U, U, U, U, U, U, U]) Try.func60 rfl rfl (by kernel_rfl) rfl ?_
 refine sr ?_
 refine bx (L_49 x_a) wN ?_
 intro g1 w1 p2 p3 k4 b5
 have m6 := (Ch.base w0).extk k4
 refine bx (L_49 x_b) wN ?_
 intro g7 w2 p8 p9 k10 b11
 have m12 := m6.extk k10
 refine ag (vb false) wN ?_
 refine wl_nil <| wq_then <| wc_seq <| sr ?_
 refine pu (vp g1 0) wN ?_
 have b13 := (b5.kp k10)
 refine ld (vi x_a.Host) wN isAgg_3 b13 ?_
 refine pu (vp g7 0) wN ?_
 refine ld (vi x_b.Host) wN isAgg_3 b11 ?_
 refine pu (vb (!(decide (x_a.Host = x_b.Host)))) wN ?_
 refine wl_nil <| wq_then ?_
 rcases bf (decide (x_a.Host = x_b.Host)) with h14 | h14
 ·have q21 := of_decide_eq_false h14
  refine ct (congrArg not h14) ?_
  refine sr ?_
  refine ag (vb false) wN ?_
  refine wl_nil <| wq_then <| wc_ret <| wq_then_ret ?_
  refine ret_1 (.inl rfl) (vb false) rfl rfl ?_
  refine ⟨m12.keep0, ?_⟩
  have hF22 : F_laws_eqAddr x_a x_b = false := by simp only [F_laws_eqAddr, h14, cond_true, cond_false]
  rw [hF22]
  exact rfl
 have q15 := of_decide_eq_true h14
 refine cf (congrArg not h14) ?_
 refine wc_skip <| wq_then <| wc_seq <| sr ?_
 refine pu (vp g1 1) wN ?_
 refine ld (vi x_a.Port) wN isAgg_3 b13 ?_
 refine pu (vp g7 1) wN ?_
 refine ld (vi x_b.Port) wN isAgg_3 b11 ?_
 refine pu (vb (!(decide (x_a.Port = x_b.Port)))) wN ?_
 refine wl_nil <| wq_then ?_
 rcases bf (decide (x_a.Port = x_b.Port)) with h16 | h16
 ·have q19 := of_decide_eq_false h16
  refine ct (congrArg not h16) ?_
  refine sr ?_
  refine ag (vb false) wN ?_
  refine wl_nil <| wq_then <| wc_ret <| wq_then_ret ?_
  refine ret_1 (.inl rfl) (vb false) rfl rfl ?_
  refine ⟨m12.keep0, ?_⟩
  have hF20 : F_laws_eqAddr x_a x_b = false := by simp only [F_laws_eqAddr, h14, h16, cond_true, cond_false]
  rw [hF20]
  exact rfl
 have q17 := of_decide_eq_true h16
 refine cf (congrArg not h16) ?_
 refine wc_skip <| wq_then <| sr ?_
 refine ag (vb true) wN ?_
 refine wl_nil <| wq_then <| wc_ret ?_
 refine ret_1 (.inl rfl) (vb true) rfl rfl ?_
 refine ⟨m12.keep0, ?_⟩
 have hF18 : F_laws_eqAddr x_a x_b = true := by simp only [F_laws_eqAddr, h14, h16, cond_true, cond_false]
 rw [hF18]
 exact rfl

def R_67 (w : World) (v : Value) (x : (PCredit)) : Prop := v = .agg #[.int .i64 x.A.Host, .int .i64 x.A.Port, .int .i64 x.Got, .int .i64 x.Sent]
def F_laws_eqCredit (x_a : PCredit) (x_b : PCredit) : (Bool) := bif (F_laws_eqAddr x_a.A x_b.A) then (bif (decide (x_a.Got = x_b.Got)) then (bif (decide (x_a.Sent = x_b.Sent)) then (true) else (false)) else (false)) else (false)
theorem C_laws_eqCredit (w0 : World) (v_x_a : Value) (x_a : PCredit) (r_x_a : R_67 w0 v_x_a x_a) (v_x_b : Value) (x_b : PCredit) (r_x_b : R_67 w0 v_x_b x_b)  : Fn Try.prog 58 #[v_x_a, v_x_b] w0 (fun v w' => Keep w0 w' ∧ O_4 w' w0.heap.size v (F_laws_eqCredit x_a x_b)) := by
 obtain rfl := r_x_a
 obtain rfl := r_x_b
 refine fn_of (n := 21) (l := [(va (L_67 x_a)), (va (L_67 x_b)), U, U, U, U, U, U, U, U, U, U, U, U, U, U, U, U, U, U, U]) Try.func58 rfl rfl (by kernel_rfl) rfl ?_
 refine sr ?_
 refine bx (L_67 x_a) wN ?_
 intro g1 w1 p2 p3 k4 b5
 have m6 := (Ch.base w0).extk k4
 refine bx (L_67 x_b) wN ?_
 intro g7 w2 p8 p9 k10 b11
 have m12 := m6.extk k10
 refine ag (vb false) wN ?_
 refine wl_nil <| wq_then <| wc_seq <| sr ?_
 refine pu (vp g1 0) wN ?_
 have b13 := (b5.kp k10)
 refine lN (L_49 x_a.A) wN isAgg_49 sizeOf_49 b13 ?_
 refine pu (vp g7 0) wN ?_
 refine lN (L_49 x_b.A) wN isAgg_49 sizeOf_49 b11 ?_
 refine cl wN (C_laws_eqAddr w2 _ x_a.A (mR_49) _ x_b.A (mR_49)) ?_
 rintro _ w3 ⟨k14, rfl⟩
 have m15 := m12.extk k14
 refine pu (vb (!(F_laws_eqAddr x_a.A x_b.A))) wN ?_
 refine wl_nil <| wq_then ?_
 rcases bf (F_laws_eqAddr x_a.A x_b.A) with h16 | h16
 ·refine ct (congrArg not h16) ?_
  refine sr ?_
  refine ag (vb false) wN ?_
  refine wl_nil <| wq_then <| wc_ret <| wq_then_ret ?_
  refine ret_1 (.inl rfl) (vb false) rfl rfl ?_
  refine ⟨m15.keep0, ?_⟩
  have hF30 : F_laws_eqCredit x_a x_b = false := by simp only [F_laws_eqCredit, h16, cond_true, cond_false]
  rw [hF30]
  exact rfl
 refine cf (congrArg not h16) ?_
 refine wc_skip <| wq_then <| wc_seq <| sr ?_
 refine pu (vp g1 2) wN ?_
 have b18 := (b13.kp k14)
 refine ld (vi x_a.Got) wN isAgg_3 b18 ?_
 refine pu (vp g7 2) wN ?_
 have b19 := (b11.kp k14)
 refine ld (vi x_b.Got) wN isAgg_3 b19 ?_
 refine pu (vb (!(decide (x_a.Got = x_b.Got)))) wN ?_
 refine wl_nil <| wq_then ?_
 rcases bf (decide (x_a.Got = x_b.Got)) with h20 | h20
 ·have q27 := of_decide_eq_false h20
  refine ct (congrArg not h20) ?_
  refine sr ?_
  refine ag (vb false) wN ?_
  refine wl_nil <| wq_then <| wc_ret <| wq_then_ret ?_
  refine ret_1 (.inl rfl) (vb false) rfl rfl ?_
  refine ⟨m15.keep0, ?_⟩
  have hF28 : F_laws_eqCredit x_a x_b = false := by simp only [F_laws_eqCredit, h16, h20, cond_true, cond_false]
  rw [hF28]
  exact rfl
 have q21 := of_decide_eq_true h20
 refine cf (congrArg not h20) ?_
 refine wc_skip <| wq_then <| wc_seq <| sr ?_
 refine pu (vp g1 3) wN ?_
 refine ld (vi x_a.Sent) wN isAgg_3 b18 ?_
 refine pu (vp g7 3) wN ?_
 refine ld (vi x_b.Sent) wN isAgg_3 b19 ?_
 refine pu (vb (!(decide (x_a.Sent = x_b.Sent)))) wN ?_
 refine wl_nil <| wq_then ?_
 rcases bf (decide (x_a.Sent = x_b.Sent)) with h22 | h22
 ·have q25 := of_decide_eq_false h22
  refine ct (congrArg not h22) ?_
  refine sr ?_
  refine ag (vb false) wN ?_
  refine wl_nil <| wq_then <| wc_ret <| wq_then_ret ?_
  refine ret_1 (.inl rfl) (vb false) rfl rfl ?_
  refine ⟨m15.keep0, ?_⟩
  have hF26 : F_laws_eqCredit x_a x_b = false := by simp only [F_laws_eqCredit, h16, h20, h22, cond_true, cond_false]
  rw [hF26]
  exact rfl
 have q23 := of_decide_eq_true h22
 refine cf (congrArg not h22) ?_
 refine wc_skip <| wq_then <| sr ?_
 refine ag (vb true) wN ?_
 refine wl_nil <| wq_then <| wc_ret ?_
 refine ret_1 (.inl rfl) (vb true) rfl rfl ?_
 refine ⟨m15.keep0, ?_⟩
 have hF24 : F_laws_eqCredit x_a x_b = true := by simp only [F_laws_eqCredit, h16, h20, h22, cond_true, cond_false]
 rw [hF24]
 exact rfl

theorem mR_67 {w : World} {x : PCredit} : R_67 w (va (L_67 x)) x := rfl
theorem eq_iff_PCredit (a b : PCredit) : F_laws_eqCredit a b = decide (a = b) := by
  obtain ⟨⟨a00, a01⟩, a1, a2⟩ := a
  obtain ⟨⟨b00, b01⟩, b1, b2⟩ := b
  simp only [cond_eq_ite, F_laws_eqCredit, F_laws_eqAddr, PCredit.mk.injEq, PAddr.mk.injEq]
  grind
def eqF_PCredit (a b : List PCredit) : Bool := decide (a = b)
theorem C_laws_eqCreditS (w0 : World) (v_x_a : Value) (x_a : List PCredit) (r_x_a : R_44 w0 v_x_a x_a) (v_x_b : Value) (x_b : List PCredit) (r_x_b : R_44 w0 v_x_b x_b)  : Fn Try.prog 38 #[v_x_a, v_x_b] w0 (fun v w' => Keep w0 w' ∧ O_4 w' w0.heap.size v (eqF_PCredit x_a x_b)) := by
 obtain ⟨a1, c2, rfl, r3, s4⟩ := r_x_a
 obtain ⟨a6, c7, rfl, r8, s9⟩ := r_x_b
 refine fn_of (n := 27) (l := [(vs a1 x_a.length c2), (vs a6 x_b.length c7), U, U, U, U, U, U, U, U, U, U, U, U, U, U, U, U, U, U, U, U, U, U, U, U, U]) Try.func38 rfl rfl (by kernel_rfl) rfl ?_
 refine sr ?_
 refine ag (vb false) wN ?_
 refine wl_nil <| wq_then <| wc_seq <| sr ?_
 refine mv (vs a1 x_a.length c2) wN ?_
 refine ln wN slTy_44 r3 ?_
 refine mv (vs a6 x_b.length c7) wN ?_
 refine ln wN slTy_44 r8 ?_
 refine pu (vb (!(decide ((x_a.length : Int) = (x_b.length : Int))))) wN ?_
 refine wl_nil <| wq_then ?_
 rcases bf (decide ((x_a.length : Int) = (x_b.length : Int))) with h11 | h11
 ·have q51 := of_decide_eq_false h11
  refine ct (congrArg not h11) ?_
  refine sr ?_
  refine ag (vb false) wN ?_
  refine wl_nil <| wq_then <| wc_ret <| wq_then_ret ?_
  refine ret_1 (.inl rfl) (vb false) rfl rfl ?_
  refine ⟨Ch.refl _ _, ?_⟩
  have hF52 : eqF_PCredit x_a x_b = false := by first | exact eqL_len (by assumption) | exact eqL_el (z := z_PCredit) (fun h => by have hq := ‹F_laws_eqCredit (x_a.getD k z_PCredit) (x_b.getD k z_PCredit) = false›; rw [eq_iff_PCredit, h] at hq; simp at hq) | exact eqL_all (by assumption) (by omega) (by omega)
  rw [hF52]
  exact rfl
 have q12 := of_decide_eq_true h11
 refine cf (congrArg not h11) ?_
 refine wc_skip <| wq_then <| wc_seq <| sr ?_
 refine ag (vi 0) wN ?_
 refine wl_nil <| wq_then <| wc_block ?_
 refine wc_norm [(vs a1 x_a.length c2), (vs a6 x_b.length c7), U, U, (vb false), (vi 0), (vs a1 x_a.length c2), (vi (x_a.length : Int)), (vs a6 x_b.length c7), (vi (x_b.length : Int)), (vb (!(decide ((x_a.length : Int) = (x_b.length : Int))))), U, U, U, U, U, U, U, U, U, U, U, U, U, U, U, U] rfl ⟨rfl, rfl, rfl, rfl, rfl, rfl, rfl, rfl, rfl, rfl, rfl, rfl, rfl, rfl, rfl, rfl, rfl, rfl, rfl, rfl, rfl, rfl, rfl, rfl, rfl, rfl, rfl, trivial⟩ ?_
 refine wc_loop (fun e' w' => ∃ (k : Nat) (u4x u11x u12x u13x u14x u15x u16x u17x u18x u19x u20x u21x u22x u23x u24x u25x u26x : Value), e' = lst [(vs a1 x_a.length c2), (vs a6 x_b.length c7), U, U, u4x, (vi ((k : Nat) : Int)), (vs a1 x_a.length c2), (vi (x_a.length : Int)), (vs a6 x_b.length c7), (vi (x_b.length : Int)), (vb (!(decide ((x_a.length : Int) = (x_b.length : Int))))), u11x, u12x, u13x, u14x, u15x, u16x, u17x, u18x, u19x, u20x, u21x, u22x, u23x, u24x, u25x, u26x] ∧ Ch (fun k => w0.heap.size ≤ k) w0 w' ∧ Ch (fun k => w0.heap.size ≤ k) w0 w' ∧ k ≤ x_a.length ∧ x_a.take k = x_b.take k) (fun e' _ => x_a.length - ((intOf (e' 5))).toNat) ?_ ?_
 ·exact ⟨0, (vb false), U, U, U, U, U, U, U, U, U, U, U, U, U, U, U, U, (congrArg (fun (x5z : Value) => lst [(vs a1 x_a.length c2), (vs a6 x_b.length c7), U, U, (vb false), x5z, (vs a1 x_a.length c2), (vi (x_a.length : Int)), (vs a6 x_b.length c7), (vi (x_b.length : Int)), (vb (!(decide ((x_a.length : Int) = (x_b.length : Int))))), U, U, U, U, U, U, U, U, U, U, U, U, U, U, U, U]) (congrArg (Value.int .i64) (show (0 : Int) = ((0 : Nat) : Int) by omega))), (Ch.base w0), (Ch.refl (fun k => w0.heap.size ≤ k) w0), (by omega), (by first | rfl | exact eqL_next (z := z_PCredit) (by assumption) (by omega) (by omega) (by have := eq_iff_PCredit; simp_all))⟩
 ·rintro _ w1 ⟨k, u4x, u11x, u12x, u13x, u14x, u15x, u16x, u17x, u18x, u19x, u20x, u21x, u22x, u23x, u24x, u25x, u26x, rfl, m13, k14, i15, i16⟩
  refine wc_seq <| sr ?_
  refine mv (vi ((k : Nat) : Int)) wN ?_
  refine mv (vs a1 x_a.length c2) wN ?_
  refine ln wN slTy_44 (r3.from0 m13) ?_
  refine pu (vb (decide (((k : Nat) : Int) < (x_a.length : Int)))) wN ?_
  refine wl_nil <| wq_then ?_
  rcases bf (decide (((k : Nat) : Int) < (x_a.length : Int))) with h17 | h17
  ·have q49 := of_decide_eq_false h17
   refine cf h17 ?_
   refine wc_exit <| wq_then_exit <| wq_then_exit <| wq_blk_exit <| wq_then <| sr ?_
   refine ag (vb true) wN ?_
   refine wl_nil <| wq_then <| wc_ret ?_
   refine ret_1 (.inl rfl) (vb true) rfl rfl ?_
   refine ⟨m13.keep0, ?_⟩
   have hF50 : eqF_PCredit x_a x_b = true := by first | exact eqL_len (by assumption) | exact eqL_el (z := z_PCredit) (fun h => by have hq := ‹F_laws_eqCredit (x_a.getD k z_PCredit) (x_b.getD k z_PCredit) = false›; rw [eq_iff_PCredit, h] at hq; simp at hq) | exact eqL_all (by assumption) (by omega) (by omega)
   rw [hF50]
   exact rfl
  have q18 := of_decide_eq_true h17
  refine ct h17 ?_
  refine wc_skip <| wq_then <| wc_seq <| wc_block <| wc_seq ?_
  refine wc_draw ([(17, [], [], (fun _ v _ => v = (vs a1 x_a.length c2))), (18, [], [], (fun _ v _ => v = (vi ((k : Nat) : Int)))), (19, [], [0, 1], (fun _ v _ => v = (ve (vs a1 x_a.length c2) ((((k : Nat) : Int)).toNat * 4)))), (20, [], [0, 1, 2], (fun _ v _ => v = (.agg #[(vi (((x_a.getD k z_PCredit).A).Host)), (vi (((x_a.getD k z_PCredit).A).Port)), (vi ((x_a.getD k z_PCredit).Got)), (vi ((x_a.getD k z_PCredit).Sent))]))), (21, [], [], (fun _ v _ => v = (vs a6 x_b.length c7))), (22, [], [], (fun _ v _ => v = (vi ((k : Nat) : Int)))), (23, [], [4, 5], (fun _ v _ => v = (ve (vs a6 x_b.length c7) ((((k : Nat) : Int)).toNat * 4)))), (24, [], [4, 5, 6], (fun _ v _ => v = (.agg #[(vi (((x_b.getD k z_PCredit).A).Host)), (vi (((x_b.getD k z_PCredit).A).Port)), (vi ((x_b.getD k z_PCredit).Got)), (vi ((x_b.getD k z_PCredit).Sent))]))), (25, [], [0, 1, 2, 3, 4, 5, 6, 7], (fun _ v w => v = .bool (F_laws_eqCredit (x_a.getD k z_PCredit) (x_b.getD k z_PCredit)))), (26, [], [0, 1, 2, 3, 4, 5, 6, 7, 8], (fun _ v _ => v = (vb (!(F_laws_eqCredit (x_a.getD k z_PCredit) (x_b.getD k z_PCredit))))))] : GV) mixed rfl (by kernel_rfl) (by kernel_rfl) ?_ ?_ ?_
  · exact ⟨(fun _ _ _ _ h _ => h), (fun _ _ _ _ _ h => h), ⟨(fun _ _ _ _ h _ => h), (fun _ _ _ _ _ h => h), ⟨(fun _ _ _ _ h _ => h), (fun _ _ _ _ _ h => h), ⟨(fun _ _ _ _ h _ => h), (fun _ _ _ _ _ h => h), ⟨(fun _ _ _ _ h _ => h), (fun _ _ _ _ _ h => h), ⟨(fun _ _ _ _ h _ => h), (fun _ _ _ _ _ h => h), ⟨(fun _ _ _ _ h _ => h), (fun _ _ _ _ _ h => h), ⟨(fun _ _ _ _ h _ => h), (fun _ _ _ _ _ h => h), ⟨(fun _ _ _ _ h _ => h), (fun _ _ _ _ _ h => h), ⟨(fun _ _ _ _ h _ => h), (fun _ _ _ _ _ h => h), trivial⟩⟩⟩⟩⟩⟩⟩⟩⟩⟩
  ·refine ⟨?_, ⟨?_, ⟨?_, ⟨?_, ⟨?_, ⟨?_, ⟨?_, ⟨?_, ⟨?_, ⟨?_, trivial⟩⟩⟩⟩⟩⟩⟩⟩⟩⟩
   ·intro w2 k21
    have m22 := m13.extk k21
    rintro _ _ _ _ _ _ _ _ _ _
    show WL _ _ _ _ _ _ _
    refine mv (vs a1 x_a.length c2) wN ?_
    exact wl_fin (Ch.refl _ _) rfl
   ·intro w2 k23
    have m24 := m13.extk k23
    rintro _ _ _ _ _ _ _ _ _ _
    show WL _ _ _ _ _ _ _
    refine mv (vi ((k : Nat) : Int)) wN ?_
    exact wl_fin (Ch.refl _ _) rfl
   ·intro w2 k25
    have m26 := m13.extk k25
    rintro _ rfl _ rfl _ _ _ _ _ _ _ _
    show WL _ _ _ _ _ _ _
    refine wl_index wN ((k : Nat) : Int) rfl rfl rfl slTy_44 rfl rfl (r3.from0 m26) (by first | omega | (simp only [List.length_cons, List.length_nil, List.length_replicate, List.length_append, List.length_take, List.length_set, List.length_map]; omega)) (by first | omega | (simp only [List.length_cons, List.length_nil, List.length_replicate, List.length_append, List.length_take, List.length_set, List.length_map]; omega)) ?_
    exact wl_fin (Ch.refl _ _) rfl
   ·intro w2 k27
    have m28 := m13.extk k27
    rintro _ rfl _ rfl _ rfl _ _ _ _ _ _ _
    show WL _ _ _ _ _ _ _
    refine wl_loadEN [(vi (((x_a.getD k z_PCredit).A).Host)), (vi (((x_a.getD k z_PCredit).A).Port)), (vi ((x_a.getD k z_PCredit).Got)), (vi ((x_a.getD k z_PCredit).Sent))] wN rfl rfl rfl rfl isAgg_67 sizeOf_67 (r3.from0 m28) (by first | omega | (simp only [List.length_cons, List.length_nil, List.length_replicate, List.length_append, List.length_take, List.length_set, List.length_map]; omega)) ((rows_part (off := 0) (n := 4) enc_PCredit_len z_PCredit (by first | rfl | simp | omega) (by decide) (by first | omega | (simp only [List.length_cons, List.length_nil, List.length_replicate, List.length_append, List.length_take, List.length_set, List.length_map]; omega))).trans rfl) ?_
    exact wl_fin (Ch.refl _ _) rfl
   ·intro w2 k29
    have m30 := m13.extk k29
    rintro _ _ _ _ _ _ _ _ _ _
    show WL _ _ _ _ _ _ _
    refine mv (vs a6 x_b.length c7) wN ?_
    exact wl_fin (Ch.refl _ _) rfl
   ·intro w2 k31
    have m32 := m13.extk k31
    rintro _ _ _ _ _ _ _ _ _ _
    show WL _ _ _ _ _ _ _
    refine mv (vi ((k : Nat) : Int)) wN ?_
    exact wl_fin (Ch.refl _ _) rfl
   ·intro w2 k33
    have m34 := m13.extk k33
    rintro _ _ _ _ _ rfl _ rfl _ _ _ _
    show WL _ _ _ _ _ _ _
    refine wl_index wN ((k : Nat) : Int) rfl rfl rfl slTy_44 rfl rfl (r8.from0 m34) (by first | omega | (simp only [List.length_cons, List.length_nil, List.length_replicate, List.length_append, List.length_take, List.length_set, List.length_map]; omega)) (by first | omega | (simp only [List.length_cons, List.length_nil, List.length_replicate, List.length_append, List.length_take, List.length_set, List.length_map]; omega)) ?_
    exact wl_fin (Ch.refl _ _) rfl
   ·intro w2 k35
    have m36 := m13.extk k35
    rintro _ _ _ _ _ rfl _ rfl _ rfl _ _ _
    show WL _ _ _ _ _ _ _
    refine wl_loadEN [(vi (((x_b.getD k z_PCredit).A).Host)), (vi (((x_b.getD k z_PCredit).A).Port)), (vi ((x_b.getD k z_PCredit).Got)), (vi ((x_b.getD k z_PCredit).Sent))] wN rfl rfl rfl rfl isAgg_67 sizeOf_67 (r8.from0 m36) (by first | omega | (simp only [List.length_cons, List.length_nil, List.length_replicate, List.length_append, List.length_take, List.length_set, List.length_map]; omega)) ((rows_part (off := 0) (n := 4) enc_PCredit_len z_PCredit (by first | rfl | simp | omega) (by decide) (by first | omega | (simp only [List.length_cons, List.length_nil, List.length_replicate, List.length_append, List.length_take, List.length_set, List.length_map]; omega))).trans rfl) ?_
    exact wl_fin (Ch.refl _ _) rfl
   ·intro w2 k37
    have m38 := m13.extk k37
    rintro _ rfl _ rfl _ rfl _ rfl _ rfl _ rfl _ rfl _ rfl _ _
    show WL _ _ _ _ _ _ _
    refine cl wN (C_laws_eqCredit w2 _ (x_a.getD k z_PCredit) (mR_67) _ (x_b.getD k z_PCredit) (mR_67)) ?_
    rintro _ w3 ⟨k39, rfl⟩
    have m40 := m38.extk k39
    exact wl_fin k39 rfl
   ·intro w2 k41
    have m42 := m13.extk k41
    rintro _ rfl _ rfl _ rfl _ rfl _ rfl _ rfl _ rfl _ rfl _ rfl _
    show WL _ _ _ _ _ _ _
    refine pu (vb (!(F_laws_eqCredit (x_a.getD k z_PCredit) (x_b.getD k z_PCredit)))) wN ?_
    exact wl_fin (Ch.refl _ _) rfl
  ·intro w2 k43
   have m44 := m13.extk k43
   rintro _ rfl _ rfl _ rfl _ rfl _ rfl _ rfl _ rfl _ rfl _ rfl _ rfl
   show WL _ _ _ _ _ _ _
   refine wl_nil <| wq_then ?_
   rcases bf (F_laws_eqCredit (x_a.getD k z_PCredit) (x_b.getD k z_PCredit)) with h45 | h45
   ·refine ct (congrArg not h45) ?_
    refine sr ?_
    refine ag (vb false) wN ?_
    refine wl_nil <| wq_then <| wc_ret <| wq_blk_ret <| wq_then_ret <| wq_then_ret <| wq_blk_ret <| wq_then_ret ?_
    refine ret_1 (.inl rfl) (vb false) rfl rfl ?_
    refine ⟨m44.keep0, ?_⟩
    have hF48 : eqF_PCredit x_a x_b = false := by first | exact eqL_len (by assumption) | exact eqL_el (z := z_PCredit) (fun h => by have hq := ‹F_laws_eqCredit (x_a.getD k z_PCredit) (x_b.getD k z_PCredit) = false›; rw [eq_iff_PCredit, h] at hq; simp at hq) | exact eqL_all (by assumption) (by omega) (by omega)
    rw [hF48]
    exact rfl
   refine cf (congrArg not h45) ?_
   refine wc_skip <| wq_blk_normal <| wq_then <| wc_region ?_
   refine mv (vi ((k : Nat) : Int)) wN ?_
   refine ar (((k : Nat) : Int) + 1) wN ?_
   refine ag (vi (((k : Nat) : Int) + 1)) wN ?_
   refine wl_nil ?_
   refine wq_loopN (w0 := w1) [(vs a1 x_a.length c2), (vs a6 x_b.length c7), U, U, u4x, (vi (((k + 1) : Nat) : Int)), (vs a1 x_a.length c2), (vi (x_a.length : Int)), (vs a6 x_b.length c7), (vi (x_b.length : Int)), (vb (!(decide ((x_a.length : Int) = (x_b.length : Int))))), (vi ((k : Nat) : Int)), (vs a1 x_a.length c2), (vi (x_a.length : Int)), (vb (decide (((k : Nat) : Int) < (x_a.length : Int)))), (vi ((k : Nat) : Int)), (vi (((k : Nat) : Int) + 1)), (vs a1 x_a.length c2), (vi ((k : Nat) : Int)), (ve (vs a1 x_a.length c2) ((((k : Nat) : Int)).toNat * 4)), (va (L_67 (x_a.getD k z_PCredit))), (vs a6 x_b.length c7), (vi ((k : Nat) : Int)), (ve (vs a6 x_b.length c7) ((((k : Nat) : Int)).toNat * 4)), (va (L_67 (x_b.getD k z_PCredit))), (vb (F_laws_eqCredit (x_a.getD k z_PCredit) (x_b.getD k z_PCredit))), (vb (!(F_laws_eqCredit (x_a.getD k z_PCredit) (x_b.getD k z_PCredit))))] rfl ?_ ?_ ?_
   · exact ⟨rfl, rfl, rfl, rfl, rfl, (congrArg (Value.int .i64) (show ((((k : Nat) : Int) + 1) : Int) = (((k + 1) : Nat) : Int) by omega)), rfl, rfl, rfl, rfl, rfl, rfl, rfl, rfl, rfl, rfl, rfl, rfl, rfl, rfl, rfl, rfl, rfl, rfl, rfl, rfl, rfl, trivial⟩
   · exact ⟨(k + 1), u4x, (vi ((k : Nat) : Int)), (vs a1 x_a.length c2), (vi (x_a.length : Int)), (vb (decide (((k : Nat) : Int) < (x_a.length : Int)))), (vi ((k : Nat) : Int)), (vi (((k : Nat) : Int) + 1)), (vs a1 x_a.length c2), (vi ((k : Nat) : Int)), (ve (vs a1 x_a.length c2) ((((k : Nat) : Int)).toNat * 4)), (va (L_67 (x_a.getD k z_PCredit))), (vs a6 x_b.length c7), (vi ((k : Nat) : Int)), (ve (vs a6 x_b.length c7) ((((k : Nat) : Int)).toNat * 4)), (va (L_67 (x_b.getD k z_PCredit))), (vb (F_laws_eqCredit (x_a.getD k z_PCredit) (x_b.getD k z_PCredit))), (vb (!(F_laws_eqCredit (x_a.getD k z_PCredit) (x_b.getD k z_PCredit)))), rfl, m44, (((Ch.refl (fun k => w0.heap.size ≤ k) w0).ext k14 (fun k hk => Nat.le_trans (Nat.le_refl _) hk)).extk k43), (by omega), (by first | rfl | exact eqL_next (z := z_PCredit) (by assumption) (by omega) (by omega) (by have := eq_iff_PCredit; simp_all))⟩
   · show x_a.length - ((((k + 1) : Nat) : Int)).toNat < x_a.length - (((k : Nat) : Int)).toNat; omega

theorem mQ_41 {w : World} {x : List PCredit} {a1 : Option Addr} {c1 : Nat} (h1 : Rd w 4 (.slice a1 x.length c1) x.length (x.flatMap enc_PCredit)) (l1 : x.length ≤ 9223372036854775807) : Q_41 w (vs a1 x.length c1) x := ⟨_, _, rfl, h1, l1⟩
theorem mR_41 {w : World} {x : List PCredit} {a1 : Option Addr} {c1 : Nat} (h1 : Rd w 4 (.slice a1 x.length c1) x.length (x.flatMap enc_PCredit)) (l1 : x.length ≤ 1073741824) : R_41 w (vs a1 x.length c1) x := ⟨_, _, rfl, h1, l1⟩
def F_laws_FnExactCreditsOk (x_aL : List PCredit) : (Bool) := bif (decide ((F_laws_szCreditS x_aL 1048576) < 0)) then (true) else (bif ((iCr (cpL x_aL)) == (sCr (cpL x_aL))) then (bif (eqF_PCredit (cpL x_aL) (cpL x_aL)) then (true) else (false)) else (false))
theorem C_laws_FnExactCreditsOk (w0 : World) (v_x_aL : Value) (x_aL : List PCredit) (r_x_aL : Q_41 w0 v_x_aL x_aL)  : Fn Try.prog 10 #[v_x_aL] w0 (fun v w' => Keep w0 w' ∧ O_4 w' w0.heap.size v (F_laws_FnExactCreditsOk x_aL)) := by
 obtain ⟨a1, c2, rfl, r3, s4⟩ := r_x_aL
 refine fn_of (n := 27) (l := [(vs a1 x_aL.length c2), U, U, U, U, U, U, U, U, U, U, U, U, U, U, U, U, U, U, U, U, U, U, U, U, U, U]) Try.func10 rfl rfl (by kernel_rfl) rfl ?_
 refine sr ?_
 refine ag (vb false) wN ?_
 refine nx ?_
 refine ag (vi 1048576) wN ?_
 refine nx ?_
 refine mv (vs a1 x_aL.length c2) wN ?_
 refine mv (vi 1048576) wN ?_
 refine cl wN (C_laws_szCreditS w0 _ x_aL (mQ_41 r3 s4) 1048576 (by omega) (by omega)) ?_
 rintro _ w1 ⟨k6, rfl⟩
 have m7 := (Ch.base w0).extk k6
 have q8 := laws_szCreditS_le x_aL 1048576
 refine ag (vi (F_laws_szCreditS x_aL 1048576)) wN ?_
 refine wl_nil <| wq_then <| wc_seq <| sr ?_
 refine mv (vi (F_laws_szCreditS x_aL 1048576)) wN ?_
 refine pu (vb (decide ((F_laws_szCreditS x_aL 1048576) < 0))) wN ?_
 refine wl_nil <| wq_then ?_
 rcases bt (decide ((F_laws_szCreditS x_aL 1048576) < 0)) with h9 | h9
 ·have q10 := of_decide_eq_true h9
  refine ct h9 ?_
  refine sr ?_
  refine ag (vb true) wN ?_
  refine wl_nil <| wq_then <| wc_ret <| wq_then_ret ?_
  refine ret_1 (.inl rfl) (vb true) rfl rfl ?_
  refine ⟨m7.keep0, ?_⟩
  have hF11 : F_laws_FnExactCreditsOk x_aL = true := by simp only [F_laws_FnExactCreditsOk, h9, cond_true, cond_false]
  rw [hF11]
  exact rfl
 have q12 := of_decide_eq_false h9
 refine cf h9 ?_
 refine wc_skip <| wq_then <| sr ?_
 refine mv (vs a1 x_aL.length c2) wN ?_
 refine cl wN (C_laws_toCreditS w1 _ x_aL (mR_41 (r3.from0 m7) (by omega))) ?_
 rintro _ w2 ⟨k13, ⟨a14, c15, rfl, o16, s17, ap19⟩⟩
 have m20 := m7.extk k13
 refine cl wN (C_spec_CreditsOk w2 _ (cpL x_aL) (mR_44 (Rd.of_own o16) s17)) ?_
 rintro _ w3 ⟨k21, rfl⟩
 have m22 := m20.extk k21
 refine ag (vb (sCr (cpL x_aL))) wN ?_
 refine nx ?_
 refine mv (vs a1 x_aL.length c2) wN ?_
 refine cl wN (C_laws_toCreditS w3 _ x_aL (mR_41 (r3.from0 m22) (by omega))) ?_
 rintro _ w4 ⟨k23, ⟨a24, c25, rfl, o26, s27, ap29⟩⟩
 have m30 := m22.extk k23
 refine ag (vs a24 (cpL x_aL).length c25) wN ?_
 refine nx ?_
 refine mv (vs a24 (cpL x_aL).length c25) wN ?_
 refine cl wN (C_impl_CreditsOk w4 _ (cpL x_aL) (mR_44 (Rd.of_own o26) s27)) ?_
 rintro _ w5 ⟨k31, rfl⟩
 have m32 := m30.extk k31
 refine ag (vb (iCr (cpL x_aL))) wN ?_
 refine wl_nil <| wq_then <| wc_seq <| sr ?_
 refine mv (vb (iCr (cpL x_aL))) wN ?_
 refine mv (vb (sCr (cpL x_aL))) wN ?_
 refine pu (vb (!((iCr (cpL x_aL)) == (sCr (cpL x_aL))))) wN ?_
 refine wl_nil <| wq_then ?_
 rcases bf ((iCr (cpL x_aL)) == (sCr (cpL x_aL))) with h33 | h33
 ·refine ct (congrArg not h33) ?_
  refine sr ?_
  refine ag (vb false) wN ?_
  refine wl_nil <| wq_then <| wc_ret <| wq_then_ret ?_
  refine ret_1 (.inl rfl) (vb false) rfl rfl ?_
  refine ⟨m32.keep0, ?_⟩
  have hF52 : F_laws_FnExactCreditsOk x_aL = false := by simp only [F_laws_FnExactCreditsOk, h9, h33, cond_true, cond_false]
  rw [hF52]
  exact rfl
 refine cf (congrArg not h33) ?_
 refine wc_skip <| wq_then <| wc_seq <| sr ?_
 refine mv (vs a24 (cpL x_aL).length c25) wN ?_
 refine mv (vs a1 x_aL.length c2) wN ?_
 refine cl wN (C_laws_toCreditS w5 _ x_aL (mR_41 (r3.from0 m32) (by omega))) ?_
 rintro _ w6 ⟨k35, ⟨a36, c37, rfl, o38, s39, ap41⟩⟩
 have m42 := m32.extk k35
 have o43 := (own_kp (own_kp o26 k31) k35)
 refine cl wN (C_laws_eqCreditS w6 _ (cpL x_aL) (mR_44 (Rd.of_own o43) s27) _ (cpL x_aL) (mR_44 (Rd.of_own o38) s39)) ?_
 rintro _ w7 ⟨k44, rfl⟩
 have m45 := m42.extk k44
 refine pu (vb (!(eqF_PCredit (cpL x_aL) (cpL x_aL)))) wN ?_
 refine wl_nil <| wq_then ?_
 rcases bf (eqF_PCredit (cpL x_aL) (cpL x_aL)) with h46 | h46
 ·refine ct (congrArg not h46) ?_
  refine sr ?_
  refine ag (vb false) wN ?_
  refine wl_nil <| wq_then <| wc_ret <| wq_then_ret ?_
  refine ret_1 (.inl rfl) (vb false) rfl rfl ?_
  refine ⟨m45.keep0, ?_⟩
  have hF50 : F_laws_FnExactCreditsOk x_aL = false := by simp only [F_laws_FnExactCreditsOk, h9, h33, h46, cond_true, cond_false]
  rw [hF50]
  exact rfl
 refine cf (congrArg not h46) ?_
 refine wc_skip <| wq_then <| sr ?_
 refine ag (vb true) wN ?_
 refine wl_nil <| wq_then <| wc_ret ?_
 refine ret_1 (.inl rfl) (vb true) rfl rfl ?_
 refine ⟨m45.keep0, ?_⟩
 have hF48 : F_laws_FnExactCreditsOk x_aL = true := by simp only [F_laws_FnExactCreditsOk, h9, h33, h46, cond_true, cond_false]
 rw [hF48]
 exact rfl
end Go.Proofs.Ytacefhmlgneegaa.K
