import Derived.Test.YtodlalolknldmaaCore
import Derived.Test.YtodlalolknldmaaProg
import Derived.Test.YtodlalolknldmaaHeld
import Derived.Test.YtodlalolknldmaaFun
import Derived.Test.YtodlalolknldmaaFunZ
import Derived.Test.YtodlalolknldmaaMark
namespace Go.Proofs.Ytodlalolknldmaa.K
open Go.RowKit
set_option linter.unusedVariables false
set_option linter.unusedSimpArgs false
set_option maxRecDepth 100000
def LT_B : LTy (List UInt8) := { E := 22, Eb := 5, sz := 1, enc := fun e => [vs (adr2 e.2 0).1 e.1.length (adr2 e.2 0).2], bs := fun x => [x], len := fun _ => rfl, one := fun _ => one_all rfl, pos := by decide, ne := by decide }
def z_B : List UInt8 := []
def enc_PCredit (x : PCredit) : List Value := [.int .i64 x.A.Host, .int .i64 x.A.Port, .int .i64 x.Got, .int .i64 x.Sent]
theorem enc_PCredit_len : ∀ a, (enc_PCredit a).length = 4 := fun _ => rfl
theorem enc_PCredit_one : ∀ a, ∀ u ∈ enc_PCredit a, u.oneCell' = true := fun _ => (one_cons rfl (one_cons rfl (one_cons rfl (one_cons rfl one_nil))))
def z_PCredit : PCredit := { A := { Host := 0, Port := 0 : PAddr }, Got := 0, Sent := 0 : PCredit }
def LT_PCand : LTy (PCand) := { E := 131, Eb := 5, sz := 4, enc := fun e => [vi e.1.A.Host, vi e.1.A.Port, vs (adr2 e.2 0).1 e.1.Draw.length (adr2 e.2 0).2, vi e.1.Until], bs := fun x => [x.Draw], len := fun _ => rfl, one := fun _ => one_all rfl, pos := by decide, ne := by decide }
def z_PCand : PCand := { A := { Host := 0, Port := 0 : PAddr }, Draw := [], Until := 0 : PCand }
def creditAt (x_l : List PCredit) (x_a : PAddr) : Int := findF (fun c : PCredit => decide (c.A.Host = x_a.Host) && decide (c.A.Port = x_a.Port)) x_l
theorem creditAt_range (x_l : List PCredit) (x_a : PAddr) : -1 ≤ creditAt x_l x_a ∧ creditAt x_l x_a < (x_l.length : Int) := findF_range x_l

theorem slTy_22 : SlTy Try.prog 22 5 1 1 (v8 0) := slTy Try.underlying22 (by kernel_rfl) rfl rfl
def Q_22 (w : World) (v : Value) (x : (List UInt8)) : Prop := ∃ (a1 : Option Addr) (c1 : Nat), v = .slice a1 x.length c1 ∧ Rd w 1 (.slice a1 x.length c1) x.length (x.map bV) ∧ x.length ≤ 9223372036854775807
def O_3 (w : World) (lo : Nat) (v : Value) (x : (Int)) : Prop := v = .int .i64 x
def F_laws_szByteS (x_a : List UInt8) (x_left : Int) : (Int) := bif (decide ((x_left - (x_a.length : Int)) < 0)) then ((-1)) else ((x_left - (x_a.length : Int)))
theorem C_laws_szByteS (w0 : World) (v_x_a : Value) (x_a : List UInt8) (r_x_a : Q_22 w0 v_x_a x_a) (x_left : Int) (pre0 : 0 ≤ x_left) (pre1 : x_left ≤ 1048576) : Fn Try.prog 74 #[v_x_a, (vi x_left)] w0 (fun v w' => Keep w0 w' ∧ O_3 w' w0.heap.size v (F_laws_szByteS x_a x_left)) := by
 obtain ⟨a1, c2, rfl, r3, s4⟩ := r_x_a
 refine fn_of (n := 12) (l := [(vs a1 x_a.length c2), (vi x_left), U, U, U, U, U, U, U, U, U, U]) Try.func74 rfl rfl (by kernel_rfl) rfl ?_
 refine sr ?_
 refine ag (vi 0) wN ?_
 refine nx ?_
 refine mv (vi x_left) wN ?_
 refine mv (vs a1 x_a.length c2) wN ?_
 refine ln wN slTy_22 r3 ?_
 refine ar (x_left - (x_a.length : Int)) wN ?_
 refine ag (vi (x_left - (x_a.length : Int))) wN ?_
 refine wl_nil <| wq_then <| wc_seq <| sr ?_
 refine mv (vi (x_left - (x_a.length : Int))) wN ?_
 refine pu (vb (decide ((x_left - (x_a.length : Int)) < 0))) wN ?_
 refine wl_nil <| wq_then ?_
 rcases bt (decide ((x_left - (x_a.length : Int)) < 0)) with h6 | h6
 ·have q7 := of_decide_eq_true h6
  refine ct h6 ?_
  refine sr ?_
  refine ag (vi (-1)) wN ?_
  refine wl_nil <| wq_then <| wc_ret <| wq_then_ret ?_
  refine ret_1 (.inl rfl) (vi (-1)) rfl rfl ?_
  refine ⟨Ch.refl _ _, ?_⟩
  have hF8 : F_laws_szByteS x_a x_left = (-1) := by simp only [F_laws_szByteS, h6, cond_true, cond_false]
  rw [hF8]
  exact rfl
 have q9 := of_decide_eq_false h6
 refine cf h6 ?_
 refine wc_skip <| wq_then <| sr ?_
 refine mv (vi (x_left - (x_a.length : Int))) wN ?_
 refine ag (vi (x_left - (x_a.length : Int))) wN ?_
 refine wl_nil <| wq_then <| wc_ret ?_
 refine ret_1 (.inl rfl) (vi (x_left - (x_a.length : Int))) rfl rfl ?_
 refine ⟨Ch.refl _ _, ?_⟩
 have hF10 : F_laws_szByteS x_a x_left = (x_left - (x_a.length : Int)) := by simp only [F_laws_szByteS, h6, cond_true, cond_false]
 rw [hF10]
 exact rfl
theorem laws_szByteS_le (x : List UInt8) (l : Int) : F_laws_szByteS x l = -1 ∨ (F_laws_szByteS x l = l - ((x.length : Int)) ∧ (0 ≤ F_laws_szByteS x l ∨ l < 0 ∨ False)) := by

  simp only [F_laws_szByteS, cond_eq_ite, decide_eq_true_eq]
  (repeat' split) <;> omega

theorem slTy_23 : SlTy Try.prog 23 3 1 8 (vi 0) := slTy Try.underlying23 (by kernel_rfl) rfl rfl
def Q_23 (w : World) (v : Value) (x : (List Int)) : Prop := ∃ (a1 : Option Addr) (c1 : Nat), v = .slice a1 x.length c1 ∧ Rd w 1 (.slice a1 x.length c1) x.length (x.map iV) ∧ x.length ≤ 9223372036854775807
def F_laws_szIntS (x_a : List Int) (x_left : Int) : (Int) := bif (decide ((x_left - (x_a.length : Int)) < 0)) then ((-1)) else ((x_left - (x_a.length : Int)))
theorem C_laws_szIntS (w0 : World) (v_x_a : Value) (x_a : List Int) (r_x_a : Q_23 w0 v_x_a x_a) (x_left : Int) (pre0 : 0 ≤ x_left) (pre1 : x_left ≤ 1048576) : Fn Try.prog 122 #[v_x_a, (vi x_left)] w0 (fun v w' => Keep w0 w' ∧ O_3 w' w0.heap.size v (F_laws_szIntS x_a x_left)) := by
 obtain ⟨a1, c2, rfl, r3, s4⟩ := r_x_a
 refine fn_of (n := 12) (l := [(vs a1 x_a.length c2), (vi x_left), U, U, U, U, U, U, U, U, U, U]) Try.func122 rfl rfl (by kernel_rfl) rfl ?_
 refine sr ?_
 refine ag (vi 0) wN ?_
 refine nx ?_
 refine mv (vi x_left) wN ?_
 refine mv (vs a1 x_a.length c2) wN ?_
 refine ln wN slTy_23 r3 ?_
 refine ar (x_left - (x_a.length : Int)) wN ?_
 refine ag (vi (x_left - (x_a.length : Int))) wN ?_
 refine wl_nil <| wq_then <| wc_seq <| sr ?_
 refine mv (vi (x_left - (x_a.length : Int))) wN ?_
 refine pu (vb (decide ((x_left - (x_a.length : Int)) < 0))) wN ?_
 refine wl_nil <| wq_then ?_
 rcases bt (decide ((x_left - (x_a.length : Int)) < 0)) with h6 | h6
 ·have q7 := of_decide_eq_true h6
  refine ct h6 ?_
  refine sr ?_
  refine ag (vi (-1)) wN ?_
  refine wl_nil <| wq_then <| wc_ret <| wq_then_ret ?_
  refine ret_1 (.inl rfl) (vi (-1)) rfl rfl ?_
  refine ⟨Ch.refl _ _, ?_⟩
  have hF8 : F_laws_szIntS x_a x_left = (-1) := by simp only [F_laws_szIntS, h6, cond_true, cond_false]
  rw [hF8]
  exact rfl
 have q9 := of_decide_eq_false h6
 refine cf h6 ?_
 refine wc_skip <| wq_then <| sr ?_
 refine mv (vi (x_left - (x_a.length : Int))) wN ?_
 refine ag (vi (x_left - (x_a.length : Int))) wN ?_
 refine wl_nil <| wq_then <| wc_ret ?_
 refine ret_1 (.inl rfl) (vi (x_left - (x_a.length : Int))) rfl rfl ?_
 refine ⟨Ch.refl _ _, ?_⟩
 have hF10 : F_laws_szIntS x_a x_left = (x_left - (x_a.length : Int)) := by simp only [F_laws_szIntS, h6, cond_true, cond_false]
 rw [hF10]
 exact rfl
theorem laws_szIntS_le (x : List Int) (l : Int) : F_laws_szIntS x l = -1 ∨ (F_laws_szIntS x l = l - ((x.length : Int)) ∧ (0 ≤ F_laws_szIntS x l ∨ l < 0 ∨ False)) := by

  simp only [F_laws_szIntS, cond_eq_ite, decide_eq_true_eq]
  (repeat' split) <;> omega

abbrev L_25 (x : PWin) (a1 : Option Addr) (c1 : Nat) : List Value := [vi x.Top, vs a1 x.Bits.length c1]
theorem isAgg_23 : ∀ w, (isAgg 23).run Try.prog w = .ok false w := fun w => by kernel_rfl
def Q_37 (w : World) (v : Value) (x : (PWin)) : Prop := ∃ (a1 : Option Addr) (c1 : Nat), v = .agg #[.int .i64 x.Top, .slice a1 x.Bits.length c1] ∧ Rd w 1 (.slice a1 x.Bits.length c1) x.Bits.length (x.Bits.map iV) ∧ x.Bits.length ≤ 9223372036854775807
theorem mQ_23 {w : World} {x : List Int} {a1 : Option Addr} {c1 : Nat} (h1 : Rd w 1 (.slice a1 x.length c1) x.length (x.map iV)) (l1 : x.length ≤ 9223372036854775807) : Q_23 w (vs a1 x.length c1) x := ⟨_, _, rfl, h1, l1⟩
def F_laws_szWin (x_a : PWin) (x_left : Int) : (Int) := bif (decide ((F_laws_szIntS x_a.Bits x_left) < 0)) then ((-1)) else ((F_laws_szIntS x_a.Bits x_left))
theorem C_laws_szWin (w0 : World) (v_x_a : Value) (x_a : PWin) (r_x_a : Q_37 w0 v_x_a x_a) (x_left : Int) (pre0 : 0 ≤ x_left) (pre1 : x_left ≤ 1048576) : Fn Try.prog 108 #[v_x_a, (vi x_left)] w0 (fun v w' => Keep w0 w' ∧ O_3 w' w0.heap.size v (F_laws_szWin x_a x_left)) := by
 obtain ⟨a1, c2, rfl, r3, s4⟩ := r_x_a
 refine fn_of (n := 12) (l := [(va (L_25 x_a a1 c2)), (vi x_left), U, U, U, U, U, U, U, U, U, U]) Try.func108 rfl rfl (by kernel_rfl) rfl ?_
 refine sr ?_
 refine bx (L_25 x_a a1 c2) wN ?_
 intro g6 w1 p7 p8 k9 b10
 have m11 := (Ch.base w0).extk k9
 refine ag (vi 0) wN ?_
 refine nx ?_
 refine pu (vp g6 1) wN ?_
 refine ld (vs a1 x_a.Bits.length c2) wN isAgg_23 b10 ?_
 refine mv (vi x_left) wN ?_
 refine cl wN (C_laws_szIntS w1 _ x_a.Bits (mQ_23 (r3.from0 m11) s4) x_left (by omega) (by omega)) ?_
 rintro _ w2 ⟨k12, rfl⟩
 have m13 := m11.extk k12
 have q14 := laws_szIntS_le x_a.Bits x_left
 refine ag (vi (F_laws_szIntS x_a.Bits x_left)) wN ?_
 refine wl_nil <| wq_then <| wc_seq <| sr ?_
 refine mv (vi (F_laws_szIntS x_a.Bits x_left)) wN ?_
 refine pu (vb (decide ((F_laws_szIntS x_a.Bits x_left) < 0))) wN ?_
 refine wl_nil <| wq_then ?_
 rcases bt (decide ((F_laws_szIntS x_a.Bits x_left) < 0)) with h15 | h15
 ·have q16 := of_decide_eq_true h15
  refine ct h15 ?_
  refine sr ?_
  refine ag (vi (-1)) wN ?_
  refine wl_nil <| wq_then <| wc_ret <| wq_then_ret ?_
  refine ret_1 (.inl rfl) (vi (-1)) rfl rfl ?_
  refine ⟨m13.keep0, ?_⟩
  have hF17 : F_laws_szWin x_a x_left = (-1) := by simp only [F_laws_szWin, h15, cond_true, cond_false]
  rw [hF17]
  exact rfl
 have q18 := of_decide_eq_false h15
 refine cf h15 ?_
 refine wc_skip <| wq_then <| sr ?_
 refine mv (vi (F_laws_szIntS x_a.Bits x_left)) wN ?_
 refine ag (vi (F_laws_szIntS x_a.Bits x_left)) wN ?_
 refine wl_nil <| wq_then <| wc_ret ?_
 refine ret_1 (.inl rfl) (vi (F_laws_szIntS x_a.Bits x_left)) rfl rfl ?_
 refine ⟨m13.keep0, ?_⟩
 have hF19 : F_laws_szWin x_a x_left = (F_laws_szIntS x_a.Bits x_left) := by simp only [F_laws_szWin, h15, cond_true, cond_false]
 rw [hF19]
 exact rfl
theorem laws_szWin_le (x : PWin) (l : Int) : F_laws_szWin x l = -1 ∨ (F_laws_szWin x l = l - ((x.Bits.length : Int)) ∧ (0 ≤ F_laws_szWin x l ∨ l < 0 ∨ False)) := by
  have h0 := laws_szIntS_le x.Bits l
  simp only [F_laws_szWin, cond_eq_ite, decide_eq_true_eq]
  (repeat' split) <;> omega

abbrev L_27 (x : PEp) (a1 : Option Addr) (c1 : Nat) (a2 : Option Addr) (c2 : Nat) : List Value := [vi x.N, vs a1 x.Key.length c1, vi x.Seq, vi x.Win.Top, vs a2 x.Win.Bits.length c2]
theorem isAgg_22 : ∀ w, (isAgg 22).run Try.prog w = .ok false w := fun w => by kernel_rfl
theorem isAgg_37 : ∀ w, (isAgg 37).run Try.prog w = .ok true w := fun w => by kernel_rfl
theorem sizeOf_37 : ∀ w, (sizeOf 37).run Try.prog w = .ok 2 w := fun w => by kernel_rfl
abbrev L_37 (x : PWin) (a1 : Option Addr) (c1 : Nat) : List Value := [vi x.Top, vs a1 x.Bits.length c1]
def Q_39 (w : World) (v : Value) (x : (PEp)) : Prop := ∃ (a1 : Option Addr) (c1 : Nat) (a2 : Option Addr) (c2 : Nat), v = .agg #[.int .i64 x.N, .slice a1 x.Key.length c1, .int .i64 x.Seq, .int .i64 x.Win.Top, .slice a2 x.Win.Bits.length c2] ∧ Rd w 1 (.slice a1 x.Key.length c1) x.Key.length (x.Key.map bV) ∧ x.Key.length ≤ 9223372036854775807 ∧ Rd w 1 (.slice a2 x.Win.Bits.length c2) x.Win.Bits.length (x.Win.Bits.map iV) ∧ x.Win.Bits.length ≤ 9223372036854775807
theorem mQ_22 {w : World} {x : List UInt8} {a1 : Option Addr} {c1 : Nat} (h1 : Rd w 1 (.slice a1 x.length c1) x.length (x.map bV)) (l1 : x.length ≤ 9223372036854775807) : Q_22 w (vs a1 x.length c1) x := ⟨_, _, rfl, h1, l1⟩
theorem mQ_37 {w : World} {x : PWin} {a1 : Option Addr} {c1 : Nat} (h1 : Rd w 1 (.slice a1 x.Bits.length c1) x.Bits.length (x.Bits.map iV)) (l1 : x.Bits.length ≤ 9223372036854775807) : Q_37 w (va (L_37 x a1 c1)) x := ⟨_, _, rfl, h1, l1⟩
def F_laws_szEp (x_a : PEp) (x_left : Int) : (Int) := bif (decide ((F_laws_szByteS x_a.Key x_left) < 0)) then ((-1)) else (bif (decide ((F_laws_szWin x_a.Win (F_laws_szByteS x_a.Key x_left)) < 0)) then ((-1)) else ((F_laws_szWin x_a.Win (F_laws_szByteS x_a.Key x_left))))
theorem C_laws_szEp (w0 : World) (v_x_a : Value) (x_a : PEp) (r_x_a : Q_39 w0 v_x_a x_a) (x_left : Int) (pre0 : 0 ≤ x_left) (pre1 : x_left ≤ 1048576) : Fn Try.prog 75 #[v_x_a, (vi x_left)] w0 (fun v w' => Keep w0 w' ∧ O_3 w' w0.heap.size v (F_laws_szEp x_a x_left)) := by
 obtain ⟨a1, c2, a6, c7, rfl, r3, s4, r8, s9⟩ := r_x_a
 refine fn_of (n := 18) (l := [(va (L_27 x_a a1 c2 a6 c7)), (vi x_left), U, U, U, U, U, U, U, U, U, U, U, U, U, U, U, U]) Try.func75 rfl rfl (by kernel_rfl) rfl ?_
 refine sr ?_
 refine bx (L_27 x_a a1 c2 a6 c7) wN ?_
 intro g11 w1 p12 p13 k14 b15
 have m16 := (Ch.base w0).extk k14
 refine ag (vi 0) wN ?_
 refine nx ?_
 refine pu (vp g11 1) wN ?_
 refine ld (vs a1 x_a.Key.length c2) wN isAgg_22 b15 ?_
 refine mv (vi x_left) wN ?_
 refine cl wN (C_laws_szByteS w1 _ x_a.Key (mQ_22 (r3.from0 m16) s4) x_left (by omega) (by omega)) ?_
 rintro _ w2 ⟨k17, rfl⟩
 have m18 := m16.extk k17
 have q19 := laws_szByteS_le x_a.Key x_left
 refine ag (vi (F_laws_szByteS x_a.Key x_left)) wN ?_
 refine wl_nil <| wq_then <| wc_seq <| sr ?_
 refine mv (vi (F_laws_szByteS x_a.Key x_left)) wN ?_
 refine pu (vb (decide ((F_laws_szByteS x_a.Key x_left) < 0))) wN ?_
 refine wl_nil <| wq_then ?_
 rcases bt (decide ((F_laws_szByteS x_a.Key x_left) < 0)) with h20 | h20
 ·have q21 := of_decide_eq_true h20
  refine ct h20 ?_
  refine sr ?_
  refine ag (vi (-1)) wN ?_
  refine wl_nil <| wq_then <| wc_ret <| wq_then_ret ?_
  refine ret_1 (.inl rfl) (vi (-1)) rfl rfl ?_
  refine ⟨m18.keep0, ?_⟩
  have hF22 : F_laws_szEp x_a x_left = (-1) := by simp only [F_laws_szEp, h20, cond_true, cond_false]
  rw [hF22]
  exact rfl
 have q23 := of_decide_eq_false h20
 refine cf h20 ?_
 refine wc_skip <| wq_then <| sr ?_
 refine pu (vp g11 3) wN ?_
 have b24 := (b15.kp k17)
 refine lN (L_25 x_a.Win a6 c7) wN isAgg_37 sizeOf_37 b24 ?_
 refine mv (vi (F_laws_szByteS x_a.Key x_left)) wN ?_
 refine cl wN (C_laws_szWin w2 _ x_a.Win (mQ_37 (r8.from0 m18) s9) (F_laws_szByteS x_a.Key x_left) (by omega) (by omega)) ?_
 rintro _ w3 ⟨k25, rfl⟩
 have m26 := m18.extk k25
 have q27 := laws_szWin_le x_a.Win (F_laws_szByteS x_a.Key x_left)
 refine ag (vi (F_laws_szWin x_a.Win (F_laws_szByteS x_a.Key x_left))) wN ?_
 refine wl_nil <| wq_then <| wc_seq <| sr ?_
 refine mv (vi (F_laws_szWin x_a.Win (F_laws_szByteS x_a.Key x_left))) wN ?_
 refine pu (vb (decide ((F_laws_szWin x_a.Win (F_laws_szByteS x_a.Key x_left)) < 0))) wN ?_
 refine wl_nil <| wq_then ?_
 rcases bt (decide ((F_laws_szWin x_a.Win (F_laws_szByteS x_a.Key x_left)) < 0)) with h28 | h28
 ·have q29 := of_decide_eq_true h28
  refine ct h28 ?_
  refine sr ?_
  refine ag (vi (-1)) wN ?_
  refine wl_nil <| wq_then <| wc_ret <| wq_then_ret ?_
  refine ret_1 (.inl rfl) (vi (-1)) rfl rfl ?_
  refine ⟨m26.keep0, ?_⟩
  have hF30 : F_laws_szEp x_a x_left = (-1) := by simp only [F_laws_szEp, h20, h28, cond_true, cond_false]
  rw [hF30]
  exact rfl
 have q31 := of_decide_eq_false h28
 refine cf h28 ?_
 refine wc_skip <| wq_then <| sr ?_
 refine mv (vi (F_laws_szWin x_a.Win (F_laws_szByteS x_a.Key x_left))) wN ?_
 refine ag (vi (F_laws_szWin x_a.Win (F_laws_szByteS x_a.Key x_left))) wN ?_
 refine wl_nil <| wq_then <| wc_ret ?_
 refine ret_1 (.inl rfl) (vi (F_laws_szWin x_a.Win (F_laws_szByteS x_a.Key x_left))) rfl rfl ?_
 refine ⟨m26.keep0, ?_⟩
 have hF32 : F_laws_szEp x_a x_left = (F_laws_szWin x_a.Win (F_laws_szByteS x_a.Key x_left)) := by simp only [F_laws_szEp, h20, h28, cond_true, cond_false]
 rw [hF32]
 exact rfl
theorem laws_szEp_le (x : PEp) (l : Int) : F_laws_szEp x l = -1 ∨ (F_laws_szEp x l = l - ((x.Key.length : Int) + (x.Win.Bits.length : Int)) ∧ (0 ≤ F_laws_szEp x l ∨ l < 0 ∨ False)) := by
  have h0 := laws_szByteS_le x.Key l
  have h1 := laws_szWin_le x.Win (F_laws_szByteS x.Key l)
  simp only [F_laws_szEp, cond_eq_ite, decide_eq_true_eq]
  (repeat' split) <;> omega

abbrev L_29 (x : PChan) (a1 : Option Addr) (c1 : Nat) (a2 : Option Addr) (c2 : Nat) (a3 : Option Addr) (c3 : Nat) (a4 : Option Addr) (c4 : Nat) (a5 : Option Addr) (c5 : Nat) (a6 : Option Addr) (c6 : Nat) : List Value := [vi x.Role, vs a1 x.Sn.length c1, vi x.Cur.N, vs a2 x.Cur.Key.length c2, vi x.Cur.Seq, vi x.Cur.Win.Top, vs a3 x.Cur.Win.Bits.length c3, vi x.Old.N, vs a4 x.Old.Key.length c4, vi x.Old.Seq, vi x.Old.Win.Top, vs a5 x.Old.Win.Bits.length c5, vb x.HasOld, vi x.Until, vs a6 x.Next.length c6]
theorem isAgg_39 : ∀ w, (isAgg 39).run Try.prog w = .ok true w := fun w => by kernel_rfl
theorem sizeOf_39 : ∀ w, (sizeOf 39).run Try.prog w = .ok 5 w := fun w => by kernel_rfl
abbrev L_39 (x : PEp) (a1 : Option Addr) (c1 : Nat) (a2 : Option Addr) (c2 : Nat) : List Value := [vi x.N, vs a1 x.Key.length c1, vi x.Seq, vi x.Win.Top, vs a2 x.Win.Bits.length c2]
def Q_41 (w : World) (v : Value) (x : (PChan)) : Prop := ∃ (a1 : Option Addr) (c1 : Nat) (a2 : Option Addr) (c2 : Nat) (a3 : Option Addr) (c3 : Nat) (a4 : Option Addr) (c4 : Nat) (a5 : Option Addr) (c5 : Nat) (a6 : Option Addr) (c6 : Nat), v = .agg #[.int .i64 x.Role, .slice a1 x.Sn.length c1, .int .i64 x.Cur.N, .slice a2 x.Cur.Key.length c2, .int .i64 x.Cur.Seq, .int .i64 x.Cur.Win.Top, .slice a3 x.Cur.Win.Bits.length c3, .int .i64 x.Old.N, .slice a4 x.Old.Key.length c4, .int .i64 x.Old.Seq, .int .i64 x.Old.Win.Top, .slice a5 x.Old.Win.Bits.length c5, .bool x.HasOld, .int .i64 x.Until, .slice a6 x.Next.length c6] ∧ Rd w 1 (.slice a1 x.Sn.length c1) x.Sn.length (x.Sn.map bV) ∧ x.Sn.length ≤ 9223372036854775807 ∧ Rd w 1 (.slice a2 x.Cur.Key.length c2) x.Cur.Key.length (x.Cur.Key.map bV) ∧ x.Cur.Key.length ≤ 9223372036854775807 ∧ Rd w 1 (.slice a3 x.Cur.Win.Bits.length c3) x.Cur.Win.Bits.length (x.Cur.Win.Bits.map iV) ∧ x.Cur.Win.Bits.length ≤ 9223372036854775807 ∧ Rd w 1 (.slice a4 x.Old.Key.length c4) x.Old.Key.length (x.Old.Key.map bV) ∧ x.Old.Key.length ≤ 9223372036854775807 ∧ Rd w 1 (.slice a5 x.Old.Win.Bits.length c5) x.Old.Win.Bits.length (x.Old.Win.Bits.map iV) ∧ x.Old.Win.Bits.length ≤ 9223372036854775807 ∧ Rd w 1 (.slice a6 x.Next.length c6) x.Next.length (x.Next.map bV) ∧ x.Next.length ≤ 9223372036854775807
theorem mQ_39 {w : World} {x : PEp} {a1 : Option Addr} {c1 : Nat} {a2 : Option Addr} {c2 : Nat} (h1 : Rd w 1 (.slice a1 x.Key.length c1) x.Key.length (x.Key.map bV)) (l1 : x.Key.length ≤ 9223372036854775807) (h2 : Rd w 1 (.slice a2 x.Win.Bits.length c2) x.Win.Bits.length (x.Win.Bits.map iV)) (l2 : x.Win.Bits.length ≤ 9223372036854775807) : Q_39 w (va (L_39 x a1 c1 a2 c2)) x := ⟨_, _, _, _, rfl, h1, l1, h2, l2⟩
def F_laws_szChan (x_a : PChan) (x_left : Int) : (Int) := bif (decide ((F_laws_szByteS x_a.Sn x_left) < 0)) then ((-1)) else (bif (decide ((F_laws_szEp x_a.Cur (F_laws_szByteS x_a.Sn x_left)) < 0)) then ((-1)) else (bif (decide ((F_laws_szEp x_a.Old (F_laws_szEp x_a.Cur (F_laws_szByteS x_a.Sn x_left))) < 0)) then ((-1)) else (bif (decide ((F_laws_szByteS x_a.Next (F_laws_szEp x_a.Old (F_laws_szEp x_a.Cur (F_laws_szByteS x_a.Sn x_left)))) < 0)) then ((-1)) else ((F_laws_szByteS x_a.Next (F_laws_szEp x_a.Old (F_laws_szEp x_a.Cur (F_laws_szByteS x_a.Sn x_left))))))))
theorem C_laws_szChan (w0 : World) (v_x_a : Value) (x_a : PChan) (r_x_a : Q_41 w0 v_x_a x_a) (x_left : Int) (pre0 : 0 ≤ x_left) (pre1 : x_left ≤ 1048576) : Fn Try.prog 23 #[v_x_a, (vi x_left)] w0 (fun v w' => Keep w0 w' ∧ O_3 w' w0.heap.size v (F_laws_szChan x_a x_left)) := by
 obtain ⟨a1, c2, a6, c7, a11, c12, a16, c17, a21, c22, a26, c27, rfl, r3, s4, r8, s9, r13, s14, r18, s19, r23, s24, r28, s29⟩ := r_x_a
 refine fn_of (n := 30) (l := [(va (L_29 x_a a1 c2 a6 c7 a11 c12 a16 c17 a21 c22 a26 c27)), (vi x_left), U, U, U, U, U, U, U, U, U, U, U, U, U, U, U, U, U, U, U, U, U, U, U, U, U, U, U, U]) Try.func23 rfl rfl (by kernel_rfl) rfl ?_
 refine sr ?_
 refine bx (L_29 x_a a1 c2 a6 c7 a11 c12 a16 c17 a21 c22 a26 c27) wN ?_
 intro g31 w1 p32 p33 k34 b35
 have m36 := (Ch.base w0).extk k34
 refine ag (vi 0) wN ?_
 refine nx ?_
 refine pu (vp g31 1) wN ?_
 refine ld (vs a1 x_a.Sn.length c2) wN isAgg_22 b35 ?_
 refine mv (vi x_left) wN ?_
 refine cl wN (C_laws_szByteS w1 _ x_a.Sn (mQ_22 (r3.from0 m36) s4) x_left (by omega) (by omega)) ?_
 rintro _ w2 ⟨k37, rfl⟩
 have m38 := m36.extk k37
 have q39 := laws_szByteS_le x_a.Sn x_left
 refine ag (vi (F_laws_szByteS x_a.Sn x_left)) wN ?_
 refine wl_nil <| wq_then <| wc_seq <| sr ?_
 refine mv (vi (F_laws_szByteS x_a.Sn x_left)) wN ?_
 refine pu (vb (decide ((F_laws_szByteS x_a.Sn x_left) < 0))) wN ?_
 refine wl_nil <| wq_then ?_
 rcases bt (decide ((F_laws_szByteS x_a.Sn x_left) < 0)) with h40 | h40
 ·have q41 := of_decide_eq_true h40
  refine ct h40 ?_
  refine sr ?_
  refine ag (vi (-1)) wN ?_
  refine wl_nil <| wq_then <| wc_ret <| wq_then_ret ?_
  refine ret_1 (.inl rfl) (vi (-1)) rfl rfl ?_
  refine ⟨m38.keep0, ?_⟩
  have hF42 : F_laws_szChan x_a x_left = (-1) := by simp only [F_laws_szChan, h40, cond_true, cond_false]
  rw [hF42]
  exact rfl
 have q43 := of_decide_eq_false h40
 refine cf h40 ?_
 refine wc_skip <| wq_then <| sr ?_
 refine pu (vp g31 2) wN ?_
 have b44 := (b35.kp k37)
 refine lN (L_27 x_a.Cur a6 c7 a11 c12) wN isAgg_39 sizeOf_39 b44 ?_
 refine mv (vi (F_laws_szByteS x_a.Sn x_left)) wN ?_
 refine cl wN (C_laws_szEp w2 _ x_a.Cur (mQ_39 (r8.from0 m38) s9 (r13.from0 m38) s14) (F_laws_szByteS x_a.Sn x_left) (by omega) (by omega)) ?_
 rintro _ w3 ⟨k45, rfl⟩
 have m46 := m38.extk k45
 have q47 := laws_szEp_le x_a.Cur (F_laws_szByteS x_a.Sn x_left)
 refine ag (vi (F_laws_szEp x_a.Cur (F_laws_szByteS x_a.Sn x_left))) wN ?_
 refine wl_nil <| wq_then <| wc_seq <| sr ?_
 refine mv (vi (F_laws_szEp x_a.Cur (F_laws_szByteS x_a.Sn x_left))) wN ?_
 refine pu (vb (decide ((F_laws_szEp x_a.Cur (F_laws_szByteS x_a.Sn x_left)) < 0))) wN ?_
 refine wl_nil <| wq_then ?_
 rcases bt (decide ((F_laws_szEp x_a.Cur (F_laws_szByteS x_a.Sn x_left)) < 0)) with h48 | h48
 ·have q49 := of_decide_eq_true h48
  refine ct h48 ?_
  refine sr ?_
  refine ag (vi (-1)) wN ?_
  refine wl_nil <| wq_then <| wc_ret <| wq_then_ret ?_
  refine ret_1 (.inl rfl) (vi (-1)) rfl rfl ?_
  refine ⟨m46.keep0, ?_⟩
  have hF50 : F_laws_szChan x_a x_left = (-1) := by simp only [F_laws_szChan, h40, h48, cond_true, cond_false]
  rw [hF50]
  exact rfl
 have q51 := of_decide_eq_false h48
 refine cf h48 ?_
 refine wc_skip <| wq_then <| sr ?_
 refine pu (vp g31 7) wN ?_
 have b52 := (b44.kp k45)
 refine lN (L_27 x_a.Old a16 c17 a21 c22) wN isAgg_39 sizeOf_39 b52 ?_
 refine mv (vi (F_laws_szEp x_a.Cur (F_laws_szByteS x_a.Sn x_left))) wN ?_
 refine cl wN (C_laws_szEp w3 _ x_a.Old (mQ_39 (r18.from0 m46) s19 (r23.from0 m46) s24) (F_laws_szEp x_a.Cur (F_laws_szByteS x_a.Sn x_left)) (by omega) (by omega)) ?_
 rintro _ w4 ⟨k53, rfl⟩
 have m54 := m46.extk k53
 have q55 := laws_szEp_le x_a.Old (F_laws_szEp x_a.Cur (F_laws_szByteS x_a.Sn x_left))
 refine ag (vi (F_laws_szEp x_a.Old (F_laws_szEp x_a.Cur (F_laws_szByteS x_a.Sn x_left)))) wN ?_
 refine wl_nil <| wq_then <| wc_seq <| sr ?_
 refine mv (vi (F_laws_szEp x_a.Old (F_laws_szEp x_a.Cur (F_laws_szByteS x_a.Sn x_left)))) wN ?_
 refine pu (vb (decide ((F_laws_szEp x_a.Old (F_laws_szEp x_a.Cur (F_laws_szByteS x_a.Sn x_left))) < 0))) wN ?_
 refine wl_nil <| wq_then ?_
 rcases bt (decide ((F_laws_szEp x_a.Old (F_laws_szEp x_a.Cur (F_laws_szByteS x_a.Sn x_left))) < 0)) with h56 | h56
 ·have q57 := of_decide_eq_true h56
  refine ct h56 ?_
  refine sr ?_
  refine ag (vi (-1)) wN ?_
  refine wl_nil <| wq_then <| wc_ret <| wq_then_ret ?_
  refine ret_1 (.inl rfl) (vi (-1)) rfl rfl ?_
  refine ⟨m54.keep0, ?_⟩
  have hF58 : F_laws_szChan x_a x_left = (-1) := by simp only [F_laws_szChan, h40, h48, h56, cond_true, cond_false]
  rw [hF58]
  exact rfl
 have q59 := of_decide_eq_false h56
 refine cf h56 ?_
 refine wc_skip <| wq_then <| sr ?_
 refine pu (vp g31 14) wN ?_
 have b60 := (b52.kp k53)
 refine ld (vs a26 x_a.Next.length c27) wN isAgg_22 b60 ?_
 refine mv (vi (F_laws_szEp x_a.Old (F_laws_szEp x_a.Cur (F_laws_szByteS x_a.Sn x_left)))) wN ?_
 refine cl wN (C_laws_szByteS w4 _ x_a.Next (mQ_22 (r28.from0 m54) s29) (F_laws_szEp x_a.Old (F_laws_szEp x_a.Cur (F_laws_szByteS x_a.Sn x_left))) (by omega) (by omega)) ?_
 rintro _ w5 ⟨k61, rfl⟩
 have m62 := m54.extk k61
 have q63 := laws_szByteS_le x_a.Next (F_laws_szEp x_a.Old (F_laws_szEp x_a.Cur (F_laws_szByteS x_a.Sn x_left)))
 refine ag (vi (F_laws_szByteS x_a.Next (F_laws_szEp x_a.Old (F_laws_szEp x_a.Cur (F_laws_szByteS x_a.Sn x_left))))) wN ?_
 refine wl_nil <| wq_then <| wc_seq <| sr ?_
 refine mv (vi (F_laws_szByteS x_a.Next (F_laws_szEp x_a.Old (F_laws_szEp x_a.Cur (F_laws_szByteS x_a.Sn x_left))))) wN ?_
 refine pu (vb (decide ((F_laws_szByteS x_a.Next (F_laws_szEp x_a.Old (F_laws_szEp x_a.Cur (F_laws_szByteS x_a.Sn x_left)))) < 0))) wN ?_
 refine wl_nil <| wq_then ?_
 rcases bt (decide ((F_laws_szByteS x_a.Next (F_laws_szEp x_a.Old (F_laws_szEp x_a.Cur (F_laws_szByteS x_a.Sn x_left)))) < 0)) with h64 | h64
 ·have q65 := of_decide_eq_true h64
  refine ct h64 ?_
  refine sr ?_
  refine ag (vi (-1)) wN ?_
  refine wl_nil <| wq_then <| wc_ret <| wq_then_ret ?_
  refine ret_1 (.inl rfl) (vi (-1)) rfl rfl ?_
  refine ⟨m62.keep0, ?_⟩
  have hF66 : F_laws_szChan x_a x_left = (-1) := by simp only [F_laws_szChan, h40, h48, h56, h64, cond_true, cond_false]
  rw [hF66]
  exact rfl
 have q67 := of_decide_eq_false h64
 refine cf h64 ?_
 refine wc_skip <| wq_then <| sr ?_
 refine mv (vi (F_laws_szByteS x_a.Next (F_laws_szEp x_a.Old (F_laws_szEp x_a.Cur (F_laws_szByteS x_a.Sn x_left))))) wN ?_
 refine ag (vi (F_laws_szByteS x_a.Next (F_laws_szEp x_a.Old (F_laws_szEp x_a.Cur (F_laws_szByteS x_a.Sn x_left))))) wN ?_
 refine wl_nil <| wq_then <| wc_ret ?_
 refine ret_1 (.inl rfl) (vi (F_laws_szByteS x_a.Next (F_laws_szEp x_a.Old (F_laws_szEp x_a.Cur (F_laws_szByteS x_a.Sn x_left))))) rfl rfl ?_
 refine ⟨m62.keep0, ?_⟩
 have hF68 : F_laws_szChan x_a x_left = (F_laws_szByteS x_a.Next (F_laws_szEp x_a.Old (F_laws_szEp x_a.Cur (F_laws_szByteS x_a.Sn x_left)))) := by simp only [F_laws_szChan, h40, h48, h56, h64, cond_true, cond_false]
 rw [hF68]
 exact rfl
theorem laws_szChan_le (x : PChan) (l : Int) : F_laws_szChan x l = -1 ∨ (F_laws_szChan x l = l - ((x.Sn.length : Int) + (x.Cur.Key.length : Int) + (x.Cur.Win.Bits.length : Int) + (x.Old.Key.length : Int) + (x.Old.Win.Bits.length : Int) + (x.Next.length : Int)) ∧ (0 ≤ F_laws_szChan x l ∨ l < 0 ∨ False)) := by
  have h0 := laws_szByteS_le x.Sn l
  have h1 := laws_szEp_le x.Cur (F_laws_szByteS x.Sn l)
  have h2 := laws_szEp_le x.Old (F_laws_szEp x.Cur (F_laws_szByteS x.Sn l))
  have h3 := laws_szByteS_le x.Next (F_laws_szEp x.Old (F_laws_szEp x.Cur (F_laws_szByteS x.Sn l)))
  simp only [F_laws_szChan, cond_eq_ite, decide_eq_true_eq]
  (repeat' split) <;> omega

theorem isAgg_5 : ∀ w, (isAgg 5).run Try.prog w = .ok false w := fun w => by kernel_rfl
theorem sizeOf_5 : ∀ w, (sizeOf 5).run Try.prog w = .ok 1 w := fun w => by kernel_rfl
def R_22 (w : World) (v : Value) (x : (List UInt8)) : Prop := ∃ (a1 : Option Addr) (c1 : Nat), v = .slice a1 x.length c1 ∧ Rd w 1 (.slice a1 x.length c1) x.length (x.map bV) ∧ x.length ≤ 1073741824
def O_22 (w : World) (lo : Nat) (v : Value) (x : (List UInt8)) : Prop := ∃ (a1 : Option Addr) (c1 : Nat), v = .slice a1 x.length c1 ∧ w.ownsRow lo 5 1 (.slice a1 x.length c1) x.length (x.map bV) ∧ x.length ≤ 1073741824 ∧ Aps [(a1, c1)]
theorem C_laws_toByteS (w0 : World) (v_x_a : Value) (x_a : List UInt8) (r_x_a : R_22 w0 v_x_a x_a)  : Fn Try.prog 16 #[v_x_a] w0 (fun v w' => Keep w0 w' ∧ O_22 w' w0.heap.size v (cpB x_a)) := by
 obtain ⟨a1, c2, rfl, r3, s4⟩ := r_x_a
 refine fn_of (n := 22) (l := [(vs a1 x_a.length c2), U, U, U, U, U, U, U, U, U, U, U, U, U, U, U, U, U, U, U, U, U]) Try.func16 rfl rfl (by kernel_rfl) rfl ?_
 refine sr ?_
 refine ag (vs none 0 0) wN ?_
 refine nx ?_
 refine mv (vs a1 x_a.length c2) wN ?_
 refine ln wN slTy_22 r3 ?_
 refine wl_makeB (x_a.length) wN rfl rfl rfl slTy_22 (x_a.length : Int) rfl (by omega) (by (try simp only [List.length_append, List.length_cons, List.length_nil]); omega) (by (try simp only [List.length_append, List.length_cons, List.length_nil]); omega) ?_
 intro a6 c7 w1 k8 o9
 have m10 := (Ch.base w0).extk k8
 refine ag (vs a6 (List.replicate x_a.length (0 : UInt8)).length c7) wN ?_
 refine wl_nil <| wq_then <| wc_seq <| sr ?_
 refine ag (vi 0) wN ?_
 refine wl_nil <| wq_then <| wc_block ?_
 refine wc_norm [(vs a1 x_a.length c2), U, (vs none 0 0), (vs a6 (List.replicate x_a.length (0 : UInt8)).length c7), (vi 0), (vs a1 x_a.length c2), (vi (x_a.length : Int)), (vs a6 (List.replicate x_a.length (0 : UInt8)).length c7), U, U, U, U, U, U, U, U, U, U, U, U, U, U] rfl ⟨rfl, rfl, rfl, rfl, rfl, rfl, rfl, rfl, rfl, rfl, rfl, rfl, rfl, rfl, rfl, rfl, rfl, rfl, rfl, rfl, rfl, rfl, trivial⟩ ?_
 refine wc_loop (fun e' w' => ∃ (k : Nat) (u8x u9x u10x u11x u12x u13x u14x u15x u16x u17x u18x u19x u20x : Value), e' = lst [(vs a1 x_a.length c2), U, (vs none 0 0), (vs a6 (List.replicate x_a.length (0 : UInt8)).length c7), (vi ((k : Nat) : Int)), (vs a1 x_a.length c2), (vi (x_a.length : Int)), (vs a6 (List.replicate x_a.length (0 : UInt8)).length c7), u8x, u9x, u10x, u11x, u12x, u13x, u14x, u15x, u16x, u17x, u18x, u19x, u20x, U] ∧ Ch (fun k => w0.heap.size ≤ k) w0 w' ∧ Ch (fun k => w0.heap.size ≤ k) w1 w' ∧ k ≤ x_a.length ∧ World.ownsRow w' w0.heap.size 5 1 (.slice a6 (List.replicate x_a.length (0 : UInt8)).length c7) (List.replicate x_a.length (0 : UInt8)).length ((x_a.take k ++ List.replicate (x_a.length - k) (0 : UInt8)).map bV)) (fun e' _ => x_a.length - ((intOf (e' 4))).toNat) ?_ ?_
 ·have hE12 : ((List.replicate x_a.length (0 : UInt8)) : List UInt8) = x_a.take 0 ++ List.replicate (x_a.length - 0) (0 : UInt8) := by first | exact cpB_next (by omega) | simp
  exact ⟨0, U, U, U, U, U, U, U, U, U, U, U, U, U, (congrArg (fun (x4z : Value) => lst [(vs a1 x_a.length c2), U, (vs none 0 0), (vs a6 (List.replicate x_a.length (0 : UInt8)).length c7), x4z, (vs a1 x_a.length c2), (vi (x_a.length : Int)), (vs a6 (List.replicate x_a.length (0 : UInt8)).length c7), U, U, U, U, U, U, U, U, U, U, U, U, U, U]) (congrArg (Value.int .i64) (show (0 : Int) = ((0 : Nat) : Int) by omega))), m10, (Ch.refl (fun k => w0.heap.size ≤ k) w1), (by omega), (by rw [← hE12]; exact o9)⟩
 ·rintro _ w2 ⟨k, u8x, u9x, u10x, u11x, u12x, u13x, u14x, u15x, u16x, u17x, u18x, u19x, u20x, rfl, m13, k14, i15, o16⟩
  refine wc_seq <| sr ?_
  refine mv (vi ((k : Nat) : Int)) wN ?_
  refine mv (vs a1 x_a.length c2) wN ?_
  refine ln wN slTy_22 (r3.from0 m13) ?_
  refine pu (vb (decide (((k : Nat) : Int) < (x_a.length : Int)))) wN ?_
  refine wl_nil <| wq_then ?_
  rcases bf (decide (((k : Nat) : Int) < (x_a.length : Int))) with h17 | h17
  ·have q23 := of_decide_eq_false h17
   refine cf h17 ?_
   refine wc_exit <| wq_then_exit <| wq_then_exit <| wq_blk_exit <| wq_then <| sr ?_
   refine mv (vs a6 (List.replicate x_a.length (0 : UInt8)).length c7) wN ?_
   refine ag (vs a6 (List.replicate x_a.length (0 : UInt8)).length c7) wN ?_
   refine wl_nil <| wq_then <| wc_ret ?_
   refine ret_1 (.inl rfl) (vs a6 (List.replicate x_a.length (0 : UInt8)).length c7) rfl rfl ?_
   refine ⟨m13.keep0, ?_⟩
   have hF24 : cpB x_a = (x_a.take k ++ List.replicate (x_a.length - k) (0 : UInt8)) := by exact cpB_end (by omega)
   rw [hF24]
   have hN25 : (List.replicate x_a.length (0 : UInt8)).length = ((x_a.take k ++ List.replicate (x_a.length - k) (0 : UInt8))).length := by first | (simp only [List.length_append, List.length_take, List.length_replicate, List.length_set, List.length_map]; done) | (simp only [List.length_append, List.length_take, List.length_replicate, List.length_set, List.length_map]; omega)
   rw [hN25] at o16 ⊢
   exact ⟨_, _, rfl, o16, (by rw [← hN25]; rw [List.length_replicate]; first | assumption | omega), ⟨trivial, trivial⟩⟩
  have q18 := of_decide_eq_true h17
  refine ct h17 ?_
  refine wc_skip <| wq_then <| wc_seq <| wc_block <| wc_region ?_
  refine mv (vs a6 (List.replicate x_a.length (0 : UInt8)).length c7) wN ?_
  refine mv (vi ((k : Nat) : Int)) wN ?_
  refine mv (vs a1 x_a.length c2) wN ?_
  refine mv (vi ((k : Nat) : Int)) wN ?_
  refine wl_index wN ((k : Nat) : Int) rfl rfl rfl slTy_22 rfl rfl (r3.from0 m13) (by first | omega | (simp only [List.length_cons, List.length_nil, List.length_replicate, List.length_append, List.length_take, List.length_set, List.length_map]; omega)) (by first | omega | (simp only [List.length_cons, List.length_nil, List.length_replicate, List.length_append, List.length_take, List.length_set, List.length_map]; omega)) ?_
  refine wl_loadE (bV (x_a.getD k 0)) wN rfl rfl rfl rfl isAgg_5 (r3.from0 m13) (bget (by simp) (by first | omega | (simp only [List.length_cons, List.length_nil, List.length_replicate, List.length_append, List.length_take, List.length_set, List.length_map]; omega))) ?_
  refine wl_index wN ((k : Nat) : Int) rfl rfl rfl slTy_22 rfl rfl (Rd.of_own o16) (by first | omega | (simp only [List.length_cons, List.length_nil, List.length_replicate, List.length_append, List.length_take, List.length_set, List.length_map]; omega)) (by first | omega | (simp only [List.length_cons, List.length_nil, List.length_replicate, List.length_append, List.length_take, List.length_set, List.length_map]; omega)) ?_
  refine wl_storeB (x_a.take k ++ List.replicate (x_a.length - k) (0 : UInt8)) (k) ((x_a.getD k 0)) wN rfl rfl rfl (by simp) rfl sizeOf_5 o16 (by first | omega | (simp only [List.length_append, List.length_replicate, List.length_take, List.length_set, List.length_map]; omega)) ?_
  intro w3 k19 o20
  have m21 := m13.ext k19 (fun k hk => Nat.le_trans (Nat.le_refl _) (own_lt o9 k hk).1)
  refine wl_nil <| wq_blk_normal <| wq_then <| wc_region ?_
  refine mv (vi ((k : Nat) : Int)) wN ?_
  refine ar (((k : Nat) : Int) + 1) wN ?_
  refine ag (vi (((k : Nat) : Int) + 1)) wN ?_
  refine wl_nil ?_
  have hE22 : (((x_a.take k ++ List.replicate (x_a.length - k) (0 : UInt8)).set k (x_a.getD k 0)) : List UInt8) = x_a.take (k + 1) ++ List.replicate (x_a.length - (k + 1)) (0 : UInt8) := by first | exact cpB_next (by omega) | simp
  refine wq_loopN (w0 := w2) [(vs a1 x_a.length c2), U, (vs none 0 0), (vs a6 (List.replicate x_a.length (0 : UInt8)).length c7), (vi (((k + 1) : Nat) : Int)), (vs a1 x_a.length c2), (vi (x_a.length : Int)), (vs a6 (List.replicate x_a.length (0 : UInt8)).length c7), (vi ((k : Nat) : Int)), (vs a1 x_a.length c2), (vi (x_a.length : Int)), (vb (decide (((k : Nat) : Int) < (x_a.length : Int)))), (vi ((k : Nat) : Int)), (vi (((k : Nat) : Int) + 1)), (vs a6 (List.replicate x_a.length (0 : UInt8)).length c7), (vi ((k : Nat) : Int)), (vs a1 x_a.length c2), (vi ((k : Nat) : Int)), (ve (vs a1 x_a.length c2) ((((k : Nat) : Int)).toNat * 1)), (v8 ((x_a.getD k 0).toNat : Int)), (ve (vs a6 (List.replicate x_a.length (0 : UInt8)).length c7) ((((k : Nat) : Int)).toNat * 1)), U] rfl ?_ ?_ ?_
  · exact ⟨rfl, rfl, rfl, rfl, (congrArg (Value.int .i64) (show ((((k : Nat) : Int) + 1) : Int) = (((k + 1) : Nat) : Int) by omega)), rfl, rfl, rfl, rfl, rfl, rfl, rfl, rfl, rfl, rfl, rfl, rfl, rfl, rfl, rfl, rfl, rfl, trivial⟩
  · exact ⟨(k + 1), (vi ((k : Nat) : Int)), (vs a1 x_a.length c2), (vi (x_a.length : Int)), (vb (decide (((k : Nat) : Int) < (x_a.length : Int)))), (vi ((k : Nat) : Int)), (vi (((k : Nat) : Int) + 1)), (vs a6 (List.replicate x_a.length (0 : UInt8)).length c7), (vi ((k : Nat) : Int)), (vs a1 x_a.length c2), (vi ((k : Nat) : Int)), (ve (vs a1 x_a.length c2) ((((k : Nat) : Int)).toNat * 1)), (v8 ((x_a.getD k 0).toNat : Int)), (ve (vs a6 (List.replicate x_a.length (0 : UInt8)).length c7) ((((k : Nat) : Int)).toNat * 1)), rfl, m21, (((Ch.refl (fun k => w0.heap.size ≤ k) w1).ext k14 (fun k hk => Nat.le_trans (Nat.le_refl _) hk)).ext k19 (fun k hk => Nat.le_trans (Nat.le_refl _) (own_lt o9 k hk).1)), (by omega), (by rw [← hE22]; exact o20)⟩
  · show x_a.length - ((((k + 1) : Nat) : Int)).toNat < x_a.length - (((k : Nat) : Int)).toNat; omega

theorem isAgg_3 : ∀ w, (isAgg 3).run Try.prog w = .ok false w := fun w => by kernel_rfl
theorem sizeOf_3 : ∀ w, (sizeOf 3).run Try.prog w = .ok 1 w := fun w => by kernel_rfl
def R_23 (w : World) (v : Value) (x : (List Int)) : Prop := ∃ (a1 : Option Addr) (c1 : Nat), v = .slice a1 x.length c1 ∧ Rd w 1 (.slice a1 x.length c1) x.length (x.map iV) ∧ x.length ≤ 1073741824
def O_23 (w : World) (lo : Nat) (v : Value) (x : (List Int)) : Prop := ∃ (a1 : Option Addr) (c1 : Nat), v = .slice a1 x.length c1 ∧ w.ownsRow lo 3 1 (.slice a1 x.length c1) x.length (x.map iV) ∧ x.length ≤ 1073741824 ∧ Aps [(a1, c1)]
theorem C_laws_toIntS (w0 : World) (v_x_a : Value) (x_a : List Int) (r_x_a : R_23 w0 v_x_a x_a)  : Fn Try.prog 124 #[v_x_a] w0 (fun v w' => Keep w0 w' ∧ O_23 w' w0.heap.size v (cpI x_a)) := by
 obtain ⟨a1, c2, rfl, r3, s4⟩ := r_x_a
 refine fn_of (n := 22) (l := [(vs a1 x_a.length c2), U, U, U, U, U, U, U, U, U, U, U, U, U, U, U, U, U, U, U, U, U]) Try.func124 rfl rfl (by kernel_rfl) rfl ?_
 refine sr ?_
 refine ag (vs none 0 0) wN ?_
 refine nx ?_
 refine mv (vs a1 x_a.length c2) wN ?_
 refine ln wN slTy_23 r3 ?_
 refine wl_makeI (x_a.length) wN rfl rfl rfl slTy_23 (x_a.length : Int) rfl (by omega) (by (try simp only [List.length_append, List.length_cons, List.length_nil]); omega) (by (try simp only [List.length_append, List.length_cons, List.length_nil]); omega) ?_
 intro a6 c7 w1 k8 o9
 have m10 := (Ch.base w0).extk k8
 refine ag (vs a6 (List.replicate x_a.length (0 : Int)).length c7) wN ?_
 refine wl_nil <| wq_then <| wc_seq <| sr ?_
 refine ag (vi 0) wN ?_
 refine wl_nil <| wq_then <| wc_block ?_
 refine wc_norm [(vs a1 x_a.length c2), U, (vs none 0 0), (vs a6 (List.replicate x_a.length (0 : Int)).length c7), (vi 0), (vs a1 x_a.length c2), (vi (x_a.length : Int)), (vs a6 (List.replicate x_a.length (0 : Int)).length c7), U, U, U, U, U, U, U, U, U, U, U, U, U, U] rfl ⟨rfl, rfl, rfl, rfl, rfl, rfl, rfl, rfl, rfl, rfl, rfl, rfl, rfl, rfl, rfl, rfl, rfl, rfl, rfl, rfl, rfl, rfl, trivial⟩ ?_
 refine wc_loop (fun e' w' => ∃ (k : Nat) (u8x u9x u10x u11x u12x u13x u14x u15x u16x u17x u18x u19x u20x : Value), e' = lst [(vs a1 x_a.length c2), U, (vs none 0 0), (vs a6 (List.replicate x_a.length (0 : Int)).length c7), (vi ((k : Nat) : Int)), (vs a1 x_a.length c2), (vi (x_a.length : Int)), (vs a6 (List.replicate x_a.length (0 : Int)).length c7), u8x, u9x, u10x, u11x, u12x, u13x, u14x, u15x, u16x, u17x, u18x, u19x, u20x, U] ∧ Ch (fun k => w0.heap.size ≤ k) w0 w' ∧ Ch (fun k => w0.heap.size ≤ k) w1 w' ∧ k ≤ x_a.length ∧ World.ownsRow w' w0.heap.size 3 1 (.slice a6 (List.replicate x_a.length (0 : Int)).length c7) (List.replicate x_a.length (0 : Int)).length ((x_a.take k ++ List.replicate (x_a.length - k) (0 : Int)).map iV)) (fun e' _ => x_a.length - ((intOf (e' 4))).toNat) ?_ ?_
 ·have hE12 : ((List.replicate x_a.length (0 : Int)) : List Int) = x_a.take 0 ++ List.replicate (x_a.length - 0) (0 : Int) := by first | exact cpI_next (by omega) | simp
  exact ⟨0, U, U, U, U, U, U, U, U, U, U, U, U, U, (congrArg (fun (x4z : Value) => lst [(vs a1 x_a.length c2), U, (vs none 0 0), (vs a6 (List.replicate x_a.length (0 : Int)).length c7), x4z, (vs a1 x_a.length c2), (vi (x_a.length : Int)), (vs a6 (List.replicate x_a.length (0 : Int)).length c7), U, U, U, U, U, U, U, U, U, U, U, U, U, U]) (congrArg (Value.int .i64) (show (0 : Int) = ((0 : Nat) : Int) by omega))), m10, (Ch.refl (fun k => w0.heap.size ≤ k) w1), (by omega), (by rw [← hE12]; exact o9)⟩
 ·rintro _ w2 ⟨k, u8x, u9x, u10x, u11x, u12x, u13x, u14x, u15x, u16x, u17x, u18x, u19x, u20x, rfl, m13, k14, i15, o16⟩
  refine wc_seq <| sr ?_
  refine mv (vi ((k : Nat) : Int)) wN ?_
  refine mv (vs a1 x_a.length c2) wN ?_
  refine ln wN slTy_23 (r3.from0 m13) ?_
  refine pu (vb (decide (((k : Nat) : Int) < (x_a.length : Int)))) wN ?_
  refine wl_nil <| wq_then ?_
  rcases bf (decide (((k : Nat) : Int) < (x_a.length : Int))) with h17 | h17
  ·have q23 := of_decide_eq_false h17
   refine cf h17 ?_
   refine wc_exit <| wq_then_exit <| wq_then_exit <| wq_blk_exit <| wq_then <| sr ?_
   refine mv (vs a6 (List.replicate x_a.length (0 : Int)).length c7) wN ?_
   refine ag (vs a6 (List.replicate x_a.length (0 : Int)).length c7) wN ?_
   refine wl_nil <| wq_then <| wc_ret ?_
   refine ret_1 (.inl rfl) (vs a6 (List.replicate x_a.length (0 : Int)).length c7) rfl rfl ?_
   refine ⟨m13.keep0, ?_⟩
   have hF24 : cpI x_a = (x_a.take k ++ List.replicate (x_a.length - k) (0 : Int)) := by exact cpI_end (by omega)
   rw [hF24]
   have hN25 : (List.replicate x_a.length (0 : Int)).length = ((x_a.take k ++ List.replicate (x_a.length - k) (0 : Int))).length := by first | (simp only [List.length_append, List.length_take, List.length_replicate, List.length_set, List.length_map]; done) | (simp only [List.length_append, List.length_take, List.length_replicate, List.length_set, List.length_map]; omega)
   rw [hN25] at o16 ⊢
   exact ⟨_, _, rfl, o16, (by rw [← hN25]; rw [List.length_replicate]; first | assumption | omega), ⟨trivial, trivial⟩⟩
  have q18 := of_decide_eq_true h17
  refine ct h17 ?_
  refine wc_skip <| wq_then <| wc_seq <| wc_block <| wc_region ?_
  refine mv (vs a6 (List.replicate x_a.length (0 : Int)).length c7) wN ?_
  refine mv (vi ((k : Nat) : Int)) wN ?_
  refine mv (vs a1 x_a.length c2) wN ?_
  refine mv (vi ((k : Nat) : Int)) wN ?_
  refine wl_index wN ((k : Nat) : Int) rfl rfl rfl slTy_23 rfl rfl (r3.from0 m13) (by first | omega | (simp only [List.length_cons, List.length_nil, List.length_replicate, List.length_append, List.length_take, List.length_set, List.length_map]; omega)) (by first | omega | (simp only [List.length_cons, List.length_nil, List.length_replicate, List.length_append, List.length_take, List.length_set, List.length_map]; omega)) ?_
  refine wl_loadE (iV (x_a.getD k 0)) wN rfl rfl rfl rfl isAgg_3 (r3.from0 m13) (iget (by simp) (by first | omega | (simp only [List.length_cons, List.length_nil, List.length_replicate, List.length_append, List.length_take, List.length_set, List.length_map]; omega))) ?_
  refine wl_index wN ((k : Nat) : Int) rfl rfl rfl slTy_23 rfl rfl (Rd.of_own o16) (by first | omega | (simp only [List.length_cons, List.length_nil, List.length_replicate, List.length_append, List.length_take, List.length_set, List.length_map]; omega)) (by first | omega | (simp only [List.length_cons, List.length_nil, List.length_replicate, List.length_append, List.length_take, List.length_set, List.length_map]; omega)) ?_
  refine wl_storeI (x_a.take k ++ List.replicate (x_a.length - k) (0 : Int)) (k) ((x_a.getD k 0)) wN rfl rfl rfl (by simp) rfl sizeOf_3 o16 (by first | omega | (simp only [List.length_append, List.length_replicate, List.length_take, List.length_set, List.length_map]; omega)) ?_
  intro w3 k19 o20
  have m21 := m13.ext k19 (fun k hk => Nat.le_trans (Nat.le_refl _) (own_lt o9 k hk).1)
  refine wl_nil <| wq_blk_normal <| wq_then <| wc_region ?_
  refine mv (vi ((k : Nat) : Int)) wN ?_
  refine ar (((k : Nat) : Int) + 1) wN ?_
  refine ag (vi (((k : Nat) : Int) + 1)) wN ?_
  refine wl_nil ?_
  have hE22 : (((x_a.take k ++ List.replicate (x_a.length - k) (0 : Int)).set k (x_a.getD k 0)) : List Int) = x_a.take (k + 1) ++ List.replicate (x_a.length - (k + 1)) (0 : Int) := by first | exact cpI_next (by omega) | simp
  refine wq_loopN (w0 := w2) [(vs a1 x_a.length c2), U, (vs none 0 0), (vs a6 (List.replicate x_a.length (0 : Int)).length c7), (vi (((k + 1) : Nat) : Int)), (vs a1 x_a.length c2), (vi (x_a.length : Int)), (vs a6 (List.replicate x_a.length (0 : Int)).length c7), (vi ((k : Nat) : Int)), (vs a1 x_a.length c2), (vi (x_a.length : Int)), (vb (decide (((k : Nat) : Int) < (x_a.length : Int)))), (vi ((k : Nat) : Int)), (vi (((k : Nat) : Int) + 1)), (vs a6 (List.replicate x_a.length (0 : Int)).length c7), (vi ((k : Nat) : Int)), (vs a1 x_a.length c2), (vi ((k : Nat) : Int)), (ve (vs a1 x_a.length c2) ((((k : Nat) : Int)).toNat * 1)), (vi (x_a.getD k 0)), (ve (vs a6 (List.replicate x_a.length (0 : Int)).length c7) ((((k : Nat) : Int)).toNat * 1)), U] rfl ?_ ?_ ?_
  · exact ⟨rfl, rfl, rfl, rfl, (congrArg (Value.int .i64) (show ((((k : Nat) : Int) + 1) : Int) = (((k + 1) : Nat) : Int) by omega)), rfl, rfl, rfl, rfl, rfl, rfl, rfl, rfl, rfl, rfl, rfl, rfl, rfl, rfl, rfl, rfl, rfl, trivial⟩
  · exact ⟨(k + 1), (vi ((k : Nat) : Int)), (vs a1 x_a.length c2), (vi (x_a.length : Int)), (vb (decide (((k : Nat) : Int) < (x_a.length : Int)))), (vi ((k : Nat) : Int)), (vi (((k : Nat) : Int) + 1)), (vs a6 (List.replicate x_a.length (0 : Int)).length c7), (vi ((k : Nat) : Int)), (vs a1 x_a.length c2), (vi ((k : Nat) : Int)), (ve (vs a1 x_a.length c2) ((((k : Nat) : Int)).toNat * 1)), (vi (x_a.getD k 0)), (ve (vs a6 (List.replicate x_a.length (0 : Int)).length c7) ((((k : Nat) : Int)).toNat * 1)), rfl, m21, (((Ch.refl (fun k => w0.heap.size ≤ k) w1).ext k14 (fun k hk => Nat.le_trans (Nat.le_refl _) hk)).ext k19 (fun k hk => Nat.le_trans (Nat.le_refl _) (own_lt o9 k hk).1)), (by omega), (by rw [← hE22]; exact o20)⟩
  · show x_a.length - ((((k + 1) : Nat) : Int)).toNat < x_a.length - (((k : Nat) : Int)).toNat; omega

theorem zero_25 : ∀ w, (zeroValue 25).run Try.prog w = .ok (va [(vi 0), (vs none 0 0)]) w := fun w => by kernel_rfl
theorem sizeOf_23 : ∀ w, (sizeOf 23).run Try.prog w = .ok 1 w := fun w => by kernel_rfl
theorem isAgg_25 : ∀ w, (isAgg 25).run Try.prog w = .ok true w := fun w => by kernel_rfl
theorem sizeOf_25 : ∀ w, (sizeOf 25).run Try.prog w = .ok 2 w := fun w => by kernel_rfl
def R_37 (w : World) (v : Value) (x : (PWin)) : Prop := ∃ (a1 : Option Addr) (c1 : Nat), v = .agg #[.int .i64 x.Top, .slice a1 x.Bits.length c1] ∧ Rd w 1 (.slice a1 x.Bits.length c1) x.Bits.length (x.Bits.map iV) ∧ x.Bits.length ≤ 1073741824
def O_25 (w : World) (lo : Nat) (v : Value) (x : (PWin)) : Prop := ∃ (a1 : Option Addr) (c1 : Nat), v = .agg #[.int .i64 x.Top, .slice a1 x.Bits.length c1] ∧ w.ownsRow lo 3 1 (.slice a1 x.Bits.length c1) x.Bits.length (x.Bits.map iV) ∧ x.Bits.length ≤ 1073741824 ∧ Aps [(a1, c1)]
theorem mR_23 {w : World} {x : List Int} {a1 : Option Addr} {c1 : Nat} (h1 : Rd w 1 (.slice a1 x.length c1) x.length (x.map iV)) (l1 : x.length ≤ 1073741824) : R_23 w (vs a1 x.length c1) x := ⟨_, _, rfl, h1, l1⟩
def F_laws_toWin (x_a : PWin) : (PWin) := { Top := x_a.Top, Bits := (cpI x_a.Bits) : PWin }
theorem C_laws_toWin (w0 : World) (v_x_a : Value) (x_a : PWin) (r_x_a : R_37 w0 v_x_a x_a)  : Fn Try.prog 110 #[v_x_a] w0 (fun v w' => Keep w0 w' ∧ O_25 w' w0.heap.size v (F_laws_toWin x_a)) := by
 obtain ⟨a1, c2, rfl, r3, s4⟩ := r_x_a
 refine fn_of (n := 12) (l := [(va (L_25 x_a a1 c2)), U, U, U, U, U, U, U, U, U, U, U]) Try.func110 rfl rfl (by kernel_rfl) rfl ?_
 refine sr ?_
 refine bx (L_25 x_a a1 c2) wN ?_
 intro g6 w1 p7 p8 k9 b10
 have m11 := (Ch.base w0).extk k9
 refine al [(vi 0), (vs none 0 0)] wN zero_25 ?_
 intro g12 w2 p13 p14 k15 b16
 have m17 := m11.extk k15
 refine nx ?_
 refine al [(vi 0), (vs none 0 0)] wN zero_25 ?_
 intro g18 w3 p19 p20 k21 b22
 have m23 := m17.extk k21
 refine nx ?_
 refine pu (vp g6 0) wN ?_
 have b24 := ((b10.kp k15).kp k21)
 refine ld (vi x_a.Top) wN isAgg_3 b24 ?_
 refine pu (vp g18 0) wN ?_
 refine st (vi x_a.Top) [(vi x_a.Top)] [(vi x_a.Top), (vs none 0 0)] wN sizeOf_3 b22 ?_
 intro w4 k25 b26 z27
 have m28 := m23.ext k25 (fun k hk => by subst hk; exact Nat.le_trans (Nat.le_trans k9.size k15.size) p19)
 refine nx ?_
 refine pu (vp g6 1) wN ?_
 have b29 := (b24.ch k25 (Nat.ne_of_lt (Nat.lt_of_lt_of_le p8 (Nat.le_trans k15.size p19))))
 refine ld (vs a1 x_a.Bits.length c2) wN isAgg_23 b29 ?_
 refine cl wN (C_laws_toIntS w4 _ x_a.Bits (mR_23 (r3.from0 m28) s4)) ?_
 rintro _ w5 ⟨k30, ⟨a31, c32, rfl, o33, s34, ap36⟩⟩
 have m37 := m28.extk k30
 refine pu (vp g18 1) wN ?_
 have b38 := (b26.kp k30)
 refine st (vs a31 (cpI x_a.Bits).length c32) [(vs a31 (cpI x_a.Bits).length c32)] [(vi x_a.Top), (vs a31 (cpI x_a.Bits).length c32)] wN sizeOf_23 b38 ?_
 intro w6 k39 b40 z41
 have m42 := m37.ext k39 (fun k hk => by subst hk; exact Nat.le_trans (Nat.le_trans k9.size k15.size) p19)
 refine nx ?_
 refine lN [(vi x_a.Top), (vs a31 (cpI x_a.Bits).length c32)] wN isAgg_25 sizeOf_25 b40 ?_
 have b43 := ((((b16.kp k21).ch k25 (Nat.ne_of_lt (Nat.lt_of_lt_of_le p14 (Nat.le_trans (Nat.le_refl _) p19)))).kp k30).ch k39 (Nat.ne_of_lt (Nat.lt_of_lt_of_le p14 (Nat.le_trans (Nat.le_refl _) p19))))
 refine st (va [(vi x_a.Top), (vs a31 (cpI x_a.Bits).length c32)]) [(vi x_a.Top), (vs a31 (cpI x_a.Bits).length c32)] [(vi x_a.Top), (vs a31 (cpI x_a.Bits).length c32)] wN sizeOf_25 b43 ?_
 intro w7 k44 b45 z46
 have m47 := m42.ext k44 (fun k hk => by subst hk; exact Nat.le_trans k9.size p13)
 refine wl_nil <| wq_then <| wc_ret ?_
 have o48 := (own_ch (own_ch o33 k39 (fun g hg hlt hk => by have h1 := (own_lt o33 g hg).1; have h2 := Nat.lt_of_lt_of_le p20 k25.size; omega)) k44 (fun g hg hlt hk => by have h1 := (own_lt o33 g hg).1; have h2 := Nat.lt_of_lt_of_le p14 (Nat.le_trans k21.size k25.size); omega))
 refine ret_1 (.inl rfl) (va [(vi x_a.Top), (vs a31 (cpI x_a.Bits).length c32)]) rfl (rv_c [(vi x_a.Top), (vs a31 (cpI x_a.Bits).length c32)] rfl b45 isAgg_25 sizeOf_25) ?_
 refine ⟨m47.keep0, ?_⟩
 have hF49 : F_laws_toWin x_a = { Top := x_a.Top, Bits := (cpI x_a.Bits) : PWin } := by rfl
 rw [hF49]
 exact ⟨_, _, rfl, (own_lo o48 (Nat.le_trans (Nat.le_trans (Nat.le_trans k9.size k15.size) k21.size) k25.size)), s34, ⟨trivial, trivial⟩⟩

theorem zero_27 : ∀ w, (zeroValue 27).run Try.prog w = .ok (va [(vi 0), (vs none 0 0), (vi 0), (vi 0), (vs none 0 0)]) w := fun w => by kernel_rfl
theorem sizeOf_22 : ∀ w, (sizeOf 22).run Try.prog w = .ok 1 w := fun w => by kernel_rfl
theorem isAgg_27 : ∀ w, (isAgg 27).run Try.prog w = .ok true w := fun w => by kernel_rfl
theorem sizeOf_27 : ∀ w, (sizeOf 27).run Try.prog w = .ok 5 w := fun w => by kernel_rfl
def R_39 (w : World) (v : Value) (x : (PEp)) : Prop := ∃ (a1 : Option Addr) (c1 : Nat) (a2 : Option Addr) (c2 : Nat), v = .agg #[.int .i64 x.N, .slice a1 x.Key.length c1, .int .i64 x.Seq, .int .i64 x.Win.Top, .slice a2 x.Win.Bits.length c2] ∧ Rd w 1 (.slice a1 x.Key.length c1) x.Key.length (x.Key.map bV) ∧ x.Key.length ≤ 1073741824 ∧ Rd w 1 (.slice a2 x.Win.Bits.length c2) x.Win.Bits.length (x.Win.Bits.map iV) ∧ x.Win.Bits.length ≤ 1073741824
def O_27 (w : World) (lo : Nat) (v : Value) (x : (PEp)) : Prop := ∃ (a1 : Option Addr) (c1 : Nat) (a2 : Option Addr) (c2 : Nat), v = .agg #[.int .i64 x.N, .slice a1 x.Key.length c1, .int .i64 x.Seq, .int .i64 x.Win.Top, .slice a2 x.Win.Bits.length c2] ∧ w.ownsRow lo 5 1 (.slice a1 x.Key.length c1) x.Key.length (x.Key.map bV) ∧ x.Key.length ≤ 1073741824 ∧ w.ownsRow lo 3 1 (.slice a2 x.Win.Bits.length c2) x.Win.Bits.length (x.Win.Bits.map iV) ∧ x.Win.Bits.length ≤ 1073741824 ∧ Aps [(a1, c1), (a2, c2)]
theorem mR_22 {w : World} {x : List UInt8} {a1 : Option Addr} {c1 : Nat} (h1 : Rd w 1 (.slice a1 x.length c1) x.length (x.map bV)) (l1 : x.length ≤ 1073741824) : R_22 w (vs a1 x.length c1) x := ⟨_, _, rfl, h1, l1⟩
theorem mR_37 {w : World} {x : PWin} {a1 : Option Addr} {c1 : Nat} (h1 : Rd w 1 (.slice a1 x.Bits.length c1) x.Bits.length (x.Bits.map iV)) (l1 : x.Bits.length ≤ 1073741824) : R_37 w (va (L_37 x a1 c1)) x := ⟨_, _, rfl, h1, l1⟩
def F_laws_toEp (x_a : PEp) : (PEp) := { N := x_a.N, Key := (cpB x_a.Key), Seq := x_a.Seq, Win := (F_laws_toWin x_a.Win) : PEp }
theorem C_laws_toEp (w0 : World) (v_x_a : Value) (x_a : PEp) (r_x_a : R_39 w0 v_x_a x_a)  : Fn Try.prog 78 #[v_x_a] w0 (fun v w' => Keep w0 w' ∧ O_27 w' w0.heap.size v (F_laws_toEp x_a)) := by
 obtain ⟨a1, c2, a6, c7, rfl, r3, s4, r8, s9⟩ := r_x_a
 refine fn_of (n := 19) (l := [(va (L_27 x_a a1 c2 a6 c7)), U, U, U, U, U, U, U, U, U, U, U, U, U, U, U, U, U, U]) Try.func78 rfl rfl (by kernel_rfl) rfl ?_
 refine sr ?_
 refine bx (L_27 x_a a1 c2 a6 c7) wN ?_
 intro g11 w1 p12 p13 k14 b15
 have m16 := (Ch.base w0).extk k14
 refine al [(vi 0), (vs none 0 0), (vi 0), (vi 0), (vs none 0 0)] wN zero_27 ?_
 intro g17 w2 p18 p19 k20 b21
 have m22 := m16.extk k20
 refine nx ?_
 refine al [(vi 0), (vs none 0 0), (vi 0), (vi 0), (vs none 0 0)] wN zero_27 ?_
 intro g23 w3 p24 p25 k26 b27
 have m28 := m22.extk k26
 refine nx ?_
 refine pu (vp g11 0) wN ?_
 have b29 := ((b15.kp k20).kp k26)
 refine ld (vi x_a.N) wN isAgg_3 b29 ?_
 refine pu (vp g23 0) wN ?_
 refine st (vi x_a.N) [(vi x_a.N)] [(vi x_a.N), (vs none 0 0), (vi 0), (vi 0), (vs none 0 0)] wN sizeOf_3 b27 ?_
 intro w4 k30 b31 z32
 have m33 := m28.ext k30 (fun k hk => by subst hk; exact Nat.le_trans (Nat.le_trans k14.size k20.size) p24)
 refine nx ?_
 refine pu (vp g11 1) wN ?_
 have b34 := (b29.ch k30 (Nat.ne_of_lt (Nat.lt_of_lt_of_le p13 (Nat.le_trans k20.size p24))))
 refine ld (vs a1 x_a.Key.length c2) wN isAgg_22 b34 ?_
 refine cl wN (C_laws_toByteS w4 _ x_a.Key (mR_22 (r3.from0 m33) s4)) ?_
 rintro _ w5 ⟨k35, ⟨a36, c37, rfl, o38, s39, ap41⟩⟩
 have m42 := m33.extk k35
 refine pu (vp g23 1) wN ?_
 have b43 := (b31.kp k35)
 refine st (vs a36 (cpB x_a.Key).length c37) [(vs a36 (cpB x_a.Key).length c37)] [(vi x_a.N), (vs a36 (cpB x_a.Key).length c37), (vi 0), (vi 0), (vs none 0 0)] wN sizeOf_22 b43 ?_
 intro w6 k44 b45 z46
 have m47 := m42.ext k44 (fun k hk => by subst hk; exact Nat.le_trans (Nat.le_trans k14.size k20.size) p24)
 refine nx ?_
 refine pu (vp g11 2) wN ?_
 have b48 := ((b34.kp k35).ch k44 (Nat.ne_of_lt (Nat.lt_of_lt_of_le p13 (Nat.le_trans k20.size p24))))
 refine ld (vi x_a.Seq) wN isAgg_3 b48 ?_
 refine pu (vp g23 2) wN ?_
 refine st (vi x_a.Seq) [(vi x_a.Seq)] [(vi x_a.N), (vs a36 (cpB x_a.Key).length c37), (vi x_a.Seq), (vi 0), (vs none 0 0)] wN sizeOf_3 b45 ?_
 intro w7 k49 b50 z51
 have m52 := m47.ext k49 (fun k hk => by subst hk; exact Nat.le_trans (Nat.le_trans k14.size k20.size) p24)
 refine nx ?_
 refine pu (vp g11 3) wN ?_
 have b53 := (b48.ch k49 (Nat.ne_of_lt (Nat.lt_of_lt_of_le p13 (Nat.le_trans k20.size p24))))
 refine lN (L_25 x_a.Win a6 c7) wN isAgg_37 sizeOf_37 b53 ?_
 refine cl wN (C_laws_toWin w7 _ x_a.Win (mR_37 (r8.from0 m52) s9)) ?_
 rintro _ w8 ⟨k54, ⟨a55, c56, rfl, o57, s58, ap60⟩⟩
 have m61 := m52.extk k54
 refine pu (vp g23 3) wN ?_
 have b62 := (b50.kp k54)
 refine st (va (L_25 (F_laws_toWin x_a.Win) a55 c56)) (L_25 (F_laws_toWin x_a.Win) a55 c56) [(vi x_a.N), (vs a36 (cpB x_a.Key).length c37), (vi x_a.Seq), (vi ((F_laws_toWin x_a.Win).Top)), (vs a55 ((F_laws_toWin x_a.Win).Bits).length c56)] wN sizeOf_25 b62 ?_
 intro w9 k63 b64 z65
 have m66 := m61.ext k63 (fun k hk => by subst hk; exact Nat.le_trans (Nat.le_trans k14.size k20.size) p24)
 refine nx ?_
 refine lN [(vi x_a.N), (vs a36 (cpB x_a.Key).length c37), (vi x_a.Seq), (vi ((F_laws_toWin x_a.Win).Top)), (vs a55 ((F_laws_toWin x_a.Win).Bits).length c56)] wN isAgg_27 sizeOf_27 b64 ?_
 have b67 := (((((((b21.kp k26).ch k30 (Nat.ne_of_lt (Nat.lt_of_lt_of_le p19 (Nat.le_trans (Nat.le_refl _) p24)))).kp k35).ch k44 (Nat.ne_of_lt (Nat.lt_of_lt_of_le p19 (Nat.le_trans (Nat.le_refl _) p24)))).ch k49 (Nat.ne_of_lt (Nat.lt_of_lt_of_le p19 (Nat.le_trans (Nat.le_refl _) p24)))).kp k54).ch k63 (Nat.ne_of_lt (Nat.lt_of_lt_of_le p19 (Nat.le_trans (Nat.le_refl _) p24))))
 refine st (va [(vi x_a.N), (vs a36 (cpB x_a.Key).length c37), (vi x_a.Seq), (vi ((F_laws_toWin x_a.Win).Top)), (vs a55 ((F_laws_toWin x_a.Win).Bits).length c56)]) [(vi x_a.N), (vs a36 (cpB x_a.Key).length c37), (vi x_a.Seq), (vi ((F_laws_toWin x_a.Win).Top)), (vs a55 ((F_laws_toWin x_a.Win).Bits).length c56)] [(vi x_a.N), (vs a36 (cpB x_a.Key).length c37), (vi x_a.Seq), (vi ((F_laws_toWin x_a.Win).Top)), (vs a55 ((F_laws_toWin x_a.Win).Bits).length c56)] wN sizeOf_27 b67 ?_
 intro w10 k68 b69 z70
 have m71 := m66.ext k68 (fun k hk => by subst hk; exact Nat.le_trans k14.size p18)
 refine wl_nil <| wq_then <| wc_ret ?_
 have o72 := (own_ch (own_ch (own_kp (own_ch (own_ch o38 k44 (fun g hg hlt hk => by have h1 := (own_lt o38 g hg).1; have h2 := Nat.lt_of_lt_of_le p25 k30.size; omega)) k49 (fun g hg hlt hk => by have h1 := (own_lt o38 g hg).1; have h2 := Nat.lt_of_lt_of_le p25 k30.size; omega)) k54) k63 (fun g hg hlt hk => by have h1 := (own_lt o38 g hg).1; have h2 := Nat.lt_of_lt_of_le p25 k30.size; omega)) k68 (fun g hg hlt hk => by have h1 := (own_lt o38 g hg).1; have h2 := Nat.lt_of_lt_of_le p19 (Nat.le_trans k26.size k30.size); omega))
 have o73 := (own_ch (own_ch o57 k63 (fun g hg hlt hk => by have h1 := (own_lt o57 g hg).1; have h2 := Nat.lt_of_lt_of_le p25 (Nat.le_trans (Nat.le_trans (Nat.le_trans k30.size k35.size) k44.size) k49.size); omega)) k68 (fun g hg hlt hk => by have h1 := (own_lt o57 g hg).1; have h2 := Nat.lt_of_lt_of_le p19 (Nat.le_trans (Nat.le_trans (Nat.le_trans (Nat.le_trans k26.size k30.size) k35.size) k44.size) k49.size); omega))
 refine ret_1 (.inl rfl) (va [(vi x_a.N), (vs a36 (cpB x_a.Key).length c37), (vi x_a.Seq), (vi ((F_laws_toWin x_a.Win).Top)), (vs a55 ((F_laws_toWin x_a.Win).Bits).length c56)]) rfl (rv_c [(vi x_a.N), (vs a36 (cpB x_a.Key).length c37), (vi x_a.Seq), (vi ((F_laws_toWin x_a.Win).Top)), (vs a55 ((F_laws_toWin x_a.Win).Bits).length c56)] rfl b69 isAgg_27 sizeOf_27) ?_
 refine ⟨m71.keep0, ?_⟩
 have hF74 : F_laws_toEp x_a = { N := x_a.N, Key := (cpB x_a.Key), Seq := x_a.Seq, Win := (F_laws_toWin x_a.Win) : PEp } := by rfl
 rw [hF74]
 exact ⟨_, _, _, _, rfl, (own_lo o72 (Nat.le_trans (Nat.le_trans (Nat.le_trans k14.size k20.size) k26.size) k30.size)), s39, (own_lo o73 (Nat.le_trans (Nat.le_trans (Nat.le_trans (Nat.le_trans (Nat.le_trans (Nat.le_trans k14.size k20.size) k26.size) k30.size) k35.size) k44.size) k49.size)), s58, ⟨⟨(Ap.lt o38 o57 (Nat.le_trans k44.size k49.size)), trivial⟩, ⟨trivial, trivial⟩⟩⟩

theorem zero_29 : ∀ w, (zeroValue 29).run Try.prog w = .ok (va [(vi 0), (vs none 0 0), (vi 0), (vs none 0 0), (vi 0), (vi 0), (vs none 0 0), (vi 0), (vs none 0 0), (vi 0), (vi 0), (vs none 0 0), (vb false), (vi 0), (vs none 0 0)]) w := fun w => by kernel_rfl
theorem isAgg_4 : ∀ w, (isAgg 4).run Try.prog w = .ok false w := fun w => by kernel_rfl
theorem sizeOf_4 : ∀ w, (sizeOf 4).run Try.prog w = .ok 1 w := fun w => by kernel_rfl
theorem isAgg_29 : ∀ w, (isAgg 29).run Try.prog w = .ok true w := fun w => by kernel_rfl
theorem sizeOf_29 : ∀ w, (sizeOf 29).run Try.prog w = .ok 15 w := fun w => by kernel_rfl
def R_41 (w : World) (v : Value) (x : (PChan)) : Prop := ∃ (a1 : Option Addr) (c1 : Nat) (a2 : Option Addr) (c2 : Nat) (a3 : Option Addr) (c3 : Nat) (a4 : Option Addr) (c4 : Nat) (a5 : Option Addr) (c5 : Nat) (a6 : Option Addr) (c6 : Nat), v = .agg #[.int .i64 x.Role, .slice a1 x.Sn.length c1, .int .i64 x.Cur.N, .slice a2 x.Cur.Key.length c2, .int .i64 x.Cur.Seq, .int .i64 x.Cur.Win.Top, .slice a3 x.Cur.Win.Bits.length c3, .int .i64 x.Old.N, .slice a4 x.Old.Key.length c4, .int .i64 x.Old.Seq, .int .i64 x.Old.Win.Top, .slice a5 x.Old.Win.Bits.length c5, .bool x.HasOld, .int .i64 x.Until, .slice a6 x.Next.length c6] ∧ Rd w 1 (.slice a1 x.Sn.length c1) x.Sn.length (x.Sn.map bV) ∧ x.Sn.length ≤ 1073741824 ∧ Rd w 1 (.slice a2 x.Cur.Key.length c2) x.Cur.Key.length (x.Cur.Key.map bV) ∧ x.Cur.Key.length ≤ 1073741824 ∧ Rd w 1 (.slice a3 x.Cur.Win.Bits.length c3) x.Cur.Win.Bits.length (x.Cur.Win.Bits.map iV) ∧ x.Cur.Win.Bits.length ≤ 1073741824 ∧ Rd w 1 (.slice a4 x.Old.Key.length c4) x.Old.Key.length (x.Old.Key.map bV) ∧ x.Old.Key.length ≤ 1073741824 ∧ Rd w 1 (.slice a5 x.Old.Win.Bits.length c5) x.Old.Win.Bits.length (x.Old.Win.Bits.map iV) ∧ x.Old.Win.Bits.length ≤ 1073741824 ∧ Rd w 1 (.slice a6 x.Next.length c6) x.Next.length (x.Next.map bV) ∧ x.Next.length ≤ 1073741824
def O_29 (w : World) (lo : Nat) (v : Value) (x : (PChan)) : Prop := ∃ (a1 : Option Addr) (c1 : Nat) (a2 : Option Addr) (c2 : Nat) (a3 : Option Addr) (c3 : Nat) (a4 : Option Addr) (c4 : Nat) (a5 : Option Addr) (c5 : Nat) (a6 : Option Addr) (c6 : Nat), v = .agg #[.int .i64 x.Role, .slice a1 x.Sn.length c1, .int .i64 x.Cur.N, .slice a2 x.Cur.Key.length c2, .int .i64 x.Cur.Seq, .int .i64 x.Cur.Win.Top, .slice a3 x.Cur.Win.Bits.length c3, .int .i64 x.Old.N, .slice a4 x.Old.Key.length c4, .int .i64 x.Old.Seq, .int .i64 x.Old.Win.Top, .slice a5 x.Old.Win.Bits.length c5, .bool x.HasOld, .int .i64 x.Until, .slice a6 x.Next.length c6] ∧ w.ownsRow lo 5 1 (.slice a1 x.Sn.length c1) x.Sn.length (x.Sn.map bV) ∧ x.Sn.length ≤ 1073741824 ∧ w.ownsRow lo 5 1 (.slice a2 x.Cur.Key.length c2) x.Cur.Key.length (x.Cur.Key.map bV) ∧ x.Cur.Key.length ≤ 1073741824 ∧ w.ownsRow lo 3 1 (.slice a3 x.Cur.Win.Bits.length c3) x.Cur.Win.Bits.length (x.Cur.Win.Bits.map iV) ∧ x.Cur.Win.Bits.length ≤ 1073741824 ∧ w.ownsRow lo 5 1 (.slice a4 x.Old.Key.length c4) x.Old.Key.length (x.Old.Key.map bV) ∧ x.Old.Key.length ≤ 1073741824 ∧ w.ownsRow lo 3 1 (.slice a5 x.Old.Win.Bits.length c5) x.Old.Win.Bits.length (x.Old.Win.Bits.map iV) ∧ x.Old.Win.Bits.length ≤ 1073741824 ∧ w.ownsRow lo 5 1 (.slice a6 x.Next.length c6) x.Next.length (x.Next.map bV) ∧ x.Next.length ≤ 1073741824 ∧ Aps [(a1, c1), (a2, c2), (a3, c3), (a4, c4), (a5, c5), (a6, c6)]
theorem mR_39 {w : World} {x : PEp} {a1 : Option Addr} {c1 : Nat} {a2 : Option Addr} {c2 : Nat} (h1 : Rd w 1 (.slice a1 x.Key.length c1) x.Key.length (x.Key.map bV)) (l1 : x.Key.length ≤ 1073741824) (h2 : Rd w 1 (.slice a2 x.Win.Bits.length c2) x.Win.Bits.length (x.Win.Bits.map iV)) (l2 : x.Win.Bits.length ≤ 1073741824) : R_39 w (va (L_39 x a1 c1 a2 c2)) x := ⟨_, _, _, _, rfl, h1, l1, h2, l2⟩
def F_laws_toChan (x_a : PChan) : (PChan) := { Role := x_a.Role, Sn := (cpB x_a.Sn), Cur := (F_laws_toEp x_a.Cur), Old := (F_laws_toEp x_a.Old), HasOld := x_a.HasOld, Until := x_a.Until, Next := (cpB x_a.Next) : PChan }
theorem C_laws_toChan (w0 : World) (v_x_a : Value) (x_a : PChan) (r_x_a : R_41 w0 v_x_a x_a)  : Fn Try.prog 25 #[v_x_a] w0 (fun v w' => Keep w0 w' ∧ O_29 w' w0.heap.size v (F_laws_toChan x_a)) := by
 obtain ⟨a1, c2, a6, c7, a11, c12, a16, c17, a21, c22, a26, c27, rfl, r3, s4, r8, s9, r13, s14, r18, s19, r23, s24, r28, s29⟩ := r_x_a
 refine fn_of (n := 30) (l := [(va (L_29 x_a a1 c2 a6 c7 a11 c12 a16 c17 a21 c22 a26 c27)), U, U, U, U, U, U, U, U, U, U, U, U, U, U, U, U, U, U, U, U, U, U, U, U, U, U, U, U, U]) Try.func25 rfl rfl (by kernel_rfl) rfl ?_
 refine sr ?_
 refine bx (L_29 x_a a1 c2 a6 c7 a11 c12 a16 c17 a21 c22 a26 c27) wN ?_
 intro g31 w1 p32 p33 k34 b35
 have m36 := (Ch.base w0).extk k34
 refine al [(vi 0), (vs none 0 0), (vi 0), (vs none 0 0), (vi 0), (vi 0), (vs none 0 0), (vi 0), (vs none 0 0), (vi 0), (vi 0), (vs none 0 0), (vb false), (vi 0), (vs none 0 0)] wN zero_29 ?_
 intro g37 w2 p38 p39 k40 b41
 have m42 := m36.extk k40
 refine nx ?_
 refine al [(vi 0), (vs none 0 0), (vi 0), (vs none 0 0), (vi 0), (vi 0), (vs none 0 0), (vi 0), (vs none 0 0), (vi 0), (vi 0), (vs none 0 0), (vb false), (vi 0), (vs none 0 0)] wN zero_29 ?_
 intro g43 w3 p44 p45 k46 b47
 have m48 := m42.extk k46
 refine nx ?_
 refine pu (vp g31 0) wN ?_
 have b49 := ((b35.kp k40).kp k46)
 refine ld (vi x_a.Role) wN isAgg_3 b49 ?_
 refine pu (vp g43 0) wN ?_
 refine st (vi x_a.Role) [(vi x_a.Role)] [(vi x_a.Role), (vs none 0 0), (vi 0), (vs none 0 0), (vi 0), (vi 0), (vs none 0 0), (vi 0), (vs none 0 0), (vi 0), (vi 0), (vs none 0 0), (vb false), (vi 0), (vs none 0 0)] wN sizeOf_3 b47 ?_
 intro w4 k50 b51 z52
 have m53 := m48.ext k50 (fun k hk => by subst hk; exact Nat.le_trans (Nat.le_trans k34.size k40.size) p44)
 refine nx ?_
 refine pu (vp g31 1) wN ?_
 have b54 := (b49.ch k50 (Nat.ne_of_lt (Nat.lt_of_lt_of_le p33 (Nat.le_trans k40.size p44))))
 refine ld (vs a1 x_a.Sn.length c2) wN isAgg_22 b54 ?_
 refine cl wN (C_laws_toByteS w4 _ x_a.Sn (mR_22 (r3.from0 m53) s4)) ?_
 rintro _ w5 ⟨k55, ⟨a56, c57, rfl, o58, s59, ap61⟩⟩
 have m62 := m53.extk k55
 refine pu (vp g43 1) wN ?_
 have b63 := (b51.kp k55)
 refine st (vs a56 (cpB x_a.Sn).length c57) [(vs a56 (cpB x_a.Sn).length c57)] [(vi x_a.Role), (vs a56 (cpB x_a.Sn).length c57), (vi 0), (vs none 0 0), (vi 0), (vi 0), (vs none 0 0), (vi 0), (vs none 0 0), (vi 0), (vi 0), (vs none 0 0), (vb false), (vi 0), (vs none 0 0)] wN sizeOf_22 b63 ?_
 intro w6 k64 b65 z66
 have m67 := m62.ext k64 (fun k hk => by subst hk; exact Nat.le_trans (Nat.le_trans k34.size k40.size) p44)
 refine nx ?_
 refine pu (vp g31 2) wN ?_
 have b68 := ((b54.kp k55).ch k64 (Nat.ne_of_lt (Nat.lt_of_lt_of_le p33 (Nat.le_trans k40.size p44))))
 refine lN (L_27 x_a.Cur a6 c7 a11 c12) wN isAgg_39 sizeOf_39 b68 ?_
 refine cl wN (C_laws_toEp w6 _ x_a.Cur (mR_39 (r8.from0 m67) s9 (r13.from0 m67) s14)) ?_
 rintro _ w7 ⟨k69, ⟨a70, c71, a75, c76, rfl, o72, s73, o77, s78, ap80⟩⟩
 have m81 := m67.extk k69
 refine pu (vp g43 2) wN ?_
 have b82 := (b65.kp k69)
 refine st (va (L_27 (F_laws_toEp x_a.Cur) a70 c71 a75 c76)) (L_27 (F_laws_toEp x_a.Cur) a70 c71 a75 c76) [(vi x_a.Role), (vs a56 (cpB x_a.Sn).length c57), (vi ((F_laws_toEp x_a.Cur).N)), (vs a70 ((F_laws_toEp x_a.Cur).Key).length c71), (vi ((F_laws_toEp x_a.Cur).Seq)), (vi (((F_laws_toEp x_a.Cur).Win).Top)), (vs a75 (((F_laws_toEp x_a.Cur).Win).Bits).length c76), (vi 0), (vs none 0 0), (vi 0), (vi 0), (vs none 0 0), (vb false), (vi 0), (vs none 0 0)] wN sizeOf_27 b82 ?_
 intro w8 k83 b84 z85
 have m86 := m81.ext k83 (fun k hk => by subst hk; exact Nat.le_trans (Nat.le_trans k34.size k40.size) p44)
 refine nx ?_
 refine pu (vp g31 7) wN ?_
 have b87 := ((b68.kp k69).ch k83 (Nat.ne_of_lt (Nat.lt_of_lt_of_le p33 (Nat.le_trans k40.size p44))))
 refine lN (L_27 x_a.Old a16 c17 a21 c22) wN isAgg_39 sizeOf_39 b87 ?_
 refine cl wN (C_laws_toEp w8 _ x_a.Old (mR_39 (r18.from0 m86) s19 (r23.from0 m86) s24)) ?_
 rintro _ w9 ⟨k88, ⟨a89, c90, a94, c95, rfl, o91, s92, o96, s97, ap99⟩⟩
 have m100 := m86.extk k88
 refine pu (vp g43 7) wN ?_
 have b101 := (b84.kp k88)
 refine st (va (L_27 (F_laws_toEp x_a.Old) a89 c90 a94 c95)) (L_27 (F_laws_toEp x_a.Old) a89 c90 a94 c95) [(vi x_a.Role), (vs a56 (cpB x_a.Sn).length c57), (vi ((F_laws_toEp x_a.Cur).N)), (vs a70 ((F_laws_toEp x_a.Cur).Key).length c71), (vi ((F_laws_toEp x_a.Cur).Seq)), (vi (((F_laws_toEp x_a.Cur).Win).Top)), (vs a75 (((F_laws_toEp x_a.Cur).Win).Bits).length c76), (vi ((F_laws_toEp x_a.Old).N)), (vs a89 ((F_laws_toEp x_a.Old).Key).length c90), (vi ((F_laws_toEp x_a.Old).Seq)), (vi (((F_laws_toEp x_a.Old).Win).Top)), (vs a94 (((F_laws_toEp x_a.Old).Win).Bits).length c95), (vb false), (vi 0), (vs none 0 0)] wN sizeOf_27 b101 ?_
 intro w10 k102 b103 z104
 have m105 := m100.ext k102 (fun k hk => by subst hk; exact Nat.le_trans (Nat.le_trans k34.size k40.size) p44)
 refine nx ?_
 refine pu (vp g31 12) wN ?_
 have b106 := ((b87.kp k88).ch k102 (Nat.ne_of_lt (Nat.lt_of_lt_of_le p33 (Nat.le_trans k40.size p44))))
 refine ld (vb x_a.HasOld) wN isAgg_4 b106 ?_
 refine pu (vp g43 12) wN ?_
 refine st (vb x_a.HasOld) [(vb x_a.HasOld)] [(vi x_a.Role), (vs a56 (cpB x_a.Sn).length c57), (vi ((F_laws_toEp x_a.Cur).N)), (vs a70 ((F_laws_toEp x_a.Cur).Key).length c71), (vi ((F_laws_toEp x_a.Cur).Seq)), (vi (((F_laws_toEp x_a.Cur).Win).Top)), (vs a75 (((F_laws_toEp x_a.Cur).Win).Bits).length c76), (vi ((F_laws_toEp x_a.Old).N)), (vs a89 ((F_laws_toEp x_a.Old).Key).length c90), (vi ((F_laws_toEp x_a.Old).Seq)), (vi (((F_laws_toEp x_a.Old).Win).Top)), (vs a94 (((F_laws_toEp x_a.Old).Win).Bits).length c95), (vb x_a.HasOld), (vi 0), (vs none 0 0)] wN sizeOf_4 b103 ?_
 intro w11 k107 b108 z109
 have m110 := m105.ext k107 (fun k hk => by subst hk; exact Nat.le_trans (Nat.le_trans k34.size k40.size) p44)
 refine nx ?_
 refine pu (vp g31 13) wN ?_
 have b111 := (b106.ch k107 (Nat.ne_of_lt (Nat.lt_of_lt_of_le p33 (Nat.le_trans k40.size p44))))
 refine ld (vi x_a.Until) wN isAgg_3 b111 ?_
 refine pu (vp g43 13) wN ?_
 refine st (vi x_a.Until) [(vi x_a.Until)] [(vi x_a.Role), (vs a56 (cpB x_a.Sn).length c57), (vi ((F_laws_toEp x_a.Cur).N)), (vs a70 ((F_laws_toEp x_a.Cur).Key).length c71), (vi ((F_laws_toEp x_a.Cur).Seq)), (vi (((F_laws_toEp x_a.Cur).Win).Top)), (vs a75 (((F_laws_toEp x_a.Cur).Win).Bits).length c76), (vi ((F_laws_toEp x_a.Old).N)), (vs a89 ((F_laws_toEp x_a.Old).Key).length c90), (vi ((F_laws_toEp x_a.Old).Seq)), (vi (((F_laws_toEp x_a.Old).Win).Top)), (vs a94 (((F_laws_toEp x_a.Old).Win).Bits).length c95), (vb x_a.HasOld), (vi x_a.Until), (vs none 0 0)] wN sizeOf_3 b108 ?_
 intro w12 k112 b113 z114
 have m115 := m110.ext k112 (fun k hk => by subst hk; exact Nat.le_trans (Nat.le_trans k34.size k40.size) p44)
 refine nx ?_
 refine pu (vp g31 14) wN ?_
 have b116 := (b111.ch k112 (Nat.ne_of_lt (Nat.lt_of_lt_of_le p33 (Nat.le_trans k40.size p44))))
 refine ld (vs a26 x_a.Next.length c27) wN isAgg_22 b116 ?_
 refine cl wN (C_laws_toByteS w12 _ x_a.Next (mR_22 (r28.from0 m115) s29)) ?_
 rintro _ w13 ⟨k117, ⟨a118, c119, rfl, o120, s121, ap123⟩⟩
 have m124 := m115.extk k117
 refine pu (vp g43 14) wN ?_
 have b125 := (b113.kp k117)
 refine st (vs a118 (cpB x_a.Next).length c119) [(vs a118 (cpB x_a.Next).length c119)] [(vi x_a.Role), (vs a56 (cpB x_a.Sn).length c57), (vi ((F_laws_toEp x_a.Cur).N)), (vs a70 ((F_laws_toEp x_a.Cur).Key).length c71), (vi ((F_laws_toEp x_a.Cur).Seq)), (vi (((F_laws_toEp x_a.Cur).Win).Top)), (vs a75 (((F_laws_toEp x_a.Cur).Win).Bits).length c76), (vi ((F_laws_toEp x_a.Old).N)), (vs a89 ((F_laws_toEp x_a.Old).Key).length c90), (vi ((F_laws_toEp x_a.Old).Seq)), (vi (((F_laws_toEp x_a.Old).Win).Top)), (vs a94 (((F_laws_toEp x_a.Old).Win).Bits).length c95), (vb x_a.HasOld), (vi x_a.Until), (vs a118 (cpB x_a.Next).length c119)] wN sizeOf_22 b125 ?_
 intro w14 k126 b127 z128
 have m129 := m124.ext k126 (fun k hk => by subst hk; exact Nat.le_trans (Nat.le_trans k34.size k40.size) p44)
 refine nx ?_
 refine lN [(vi x_a.Role), (vs a56 (cpB x_a.Sn).length c57), (vi ((F_laws_toEp x_a.Cur).N)), (vs a70 ((F_laws_toEp x_a.Cur).Key).length c71), (vi ((F_laws_toEp x_a.Cur).Seq)), (vi (((F_laws_toEp x_a.Cur).Win).Top)), (vs a75 (((F_laws_toEp x_a.Cur).Win).Bits).length c76), (vi ((F_laws_toEp x_a.Old).N)), (vs a89 ((F_laws_toEp x_a.Old).Key).length c90), (vi ((F_laws_toEp x_a.Old).Seq)), (vi (((F_laws_toEp x_a.Old).Win).Top)), (vs a94 (((F_laws_toEp x_a.Old).Win).Bits).length c95), (vb x_a.HasOld), (vi x_a.Until), (vs a118 (cpB x_a.Next).length c119)] wN isAgg_29 sizeOf_29 b127 ?_
 have b130 := ((((((((((((b41.kp k46).ch k50 (Nat.ne_of_lt (Nat.lt_of_lt_of_le p39 (Nat.le_trans (Nat.le_refl _) p44)))).kp k55).ch k64 (Nat.ne_of_lt (Nat.lt_of_lt_of_le p39 (Nat.le_trans (Nat.le_refl _) p44)))).kp k69).ch k83 (Nat.ne_of_lt (Nat.lt_of_lt_of_le p39 (Nat.le_trans (Nat.le_refl _) p44)))).kp k88).ch k102 (Nat.ne_of_lt (Nat.lt_of_lt_of_le p39 (Nat.le_trans (Nat.le_refl _) p44)))).ch k107 (Nat.ne_of_lt (Nat.lt_of_lt_of_le p39 (Nat.le_trans (Nat.le_refl _) p44)))).ch k112 (Nat.ne_of_lt (Nat.lt_of_lt_of_le p39 (Nat.le_trans (Nat.le_refl _) p44)))).kp k117).ch k126 (Nat.ne_of_lt (Nat.lt_of_lt_of_le p39 (Nat.le_trans (Nat.le_refl _) p44))))
 refine st (va [(vi x_a.Role), (vs a56 (cpB x_a.Sn).length c57), (vi ((F_laws_toEp x_a.Cur).N)), (vs a70 ((F_laws_toEp x_a.Cur).Key).length c71), (vi ((F_laws_toEp x_a.Cur).Seq)), (vi (((F_laws_toEp x_a.Cur).Win).Top)), (vs a75 (((F_laws_toEp x_a.Cur).Win).Bits).length c76), (vi ((F_laws_toEp x_a.Old).N)), (vs a89 ((F_laws_toEp x_a.Old).Key).length c90), (vi ((F_laws_toEp x_a.Old).Seq)), (vi (((F_laws_toEp x_a.Old).Win).Top)), (vs a94 (((F_laws_toEp x_a.Old).Win).Bits).length c95), (vb x_a.HasOld), (vi x_a.Until), (vs a118 (cpB x_a.Next).length c119)]) [(vi x_a.Role), (vs a56 (cpB x_a.Sn).length c57), (vi ((F_laws_toEp x_a.Cur).N)), (vs a70 ((F_laws_toEp x_a.Cur).Key).length c71), (vi ((F_laws_toEp x_a.Cur).Seq)), (vi (((F_laws_toEp x_a.Cur).Win).Top)), (vs a75 (((F_laws_toEp x_a.Cur).Win).Bits).length c76), (vi ((F_laws_toEp x_a.Old).N)), (vs a89 ((F_laws_toEp x_a.Old).Key).length c90), (vi ((F_laws_toEp x_a.Old).Seq)), (vi (((F_laws_toEp x_a.Old).Win).Top)), (vs a94 (((F_laws_toEp x_a.Old).Win).Bits).length c95), (vb x_a.HasOld), (vi x_a.Until), (vs a118 (cpB x_a.Next).length c119)] [(vi x_a.Role), (vs a56 (cpB x_a.Sn).length c57), (vi ((F_laws_toEp x_a.Cur).N)), (vs a70 ((F_laws_toEp x_a.Cur).Key).length c71), (vi ((F_laws_toEp x_a.Cur).Seq)), (vi (((F_laws_toEp x_a.Cur).Win).Top)), (vs a75 (((F_laws_toEp x_a.Cur).Win).Bits).length c76), (vi ((F_laws_toEp x_a.Old).N)), (vs a89 ((F_laws_toEp x_a.Old).Key).length c90), (vi ((F_laws_toEp x_a.Old).Seq)), (vi (((F_laws_toEp x_a.Old).Win).Top)), (vs a94 (((F_laws_toEp x_a.Old).Win).Bits).length c95), (vb x_a.HasOld), (vi x_a.Until), (vs a118 (cpB x_a.Next).length c119)] wN sizeOf_29 b130 ?_
 intro w15 k131 b132 z133
 have m134 := m129.ext k131 (fun k hk => by subst hk; exact Nat.le_trans k34.size p38)
 refine wl_nil <| wq_then <| wc_ret ?_
 have o135 := (own_ch (own_ch (own_kp (own_ch (own_ch (own_ch (own_kp (own_ch (own_kp (own_ch o58 k64 (fun g hg hlt hk => by have h1 := (own_lt o58 g hg).1; have h2 := Nat.lt_of_lt_of_le p45 k50.size; omega)) k69) k83 (fun g hg hlt hk => by have h1 := (own_lt o58 g hg).1; have h2 := Nat.lt_of_lt_of_le p45 k50.size; omega)) k88) k102 (fun g hg hlt hk => by have h1 := (own_lt o58 g hg).1; have h2 := Nat.lt_of_lt_of_le p45 k50.size; omega)) k107 (fun g hg hlt hk => by have h1 := (own_lt o58 g hg).1; have h2 := Nat.lt_of_lt_of_le p45 k50.size; omega)) k112 (fun g hg hlt hk => by have h1 := (own_lt o58 g hg).1; have h2 := Nat.lt_of_lt_of_le p45 k50.size; omega)) k117) k126 (fun g hg hlt hk => by have h1 := (own_lt o58 g hg).1; have h2 := Nat.lt_of_lt_of_le p45 k50.size; omega)) k131 (fun g hg hlt hk => by have h1 := (own_lt o58 g hg).1; have h2 := Nat.lt_of_lt_of_le p39 (Nat.le_trans k46.size k50.size); omega))
 have o136 := (own_ch (own_ch (own_kp (own_ch (own_ch (own_ch (own_kp (own_ch o72 k83 (fun g hg hlt hk => by have h1 := (own_lt o72 g hg).1; have h2 := Nat.lt_of_lt_of_le p45 (Nat.le_trans (Nat.le_trans k50.size k55.size) k64.size); omega)) k88) k102 (fun g hg hlt hk => by have h1 := (own_lt o72 g hg).1; have h2 := Nat.lt_of_lt_of_le p45 (Nat.le_trans (Nat.le_trans k50.size k55.size) k64.size); omega)) k107 (fun g hg hlt hk => by have h1 := (own_lt o72 g hg).1; have h2 := Nat.lt_of_lt_of_le p45 (Nat.le_trans (Nat.le_trans k50.size k55.size) k64.size); omega)) k112 (fun g hg hlt hk => by have h1 := (own_lt o72 g hg).1; have h2 := Nat.lt_of_lt_of_le p45 (Nat.le_trans (Nat.le_trans k50.size k55.size) k64.size); omega)) k117) k126 (fun g hg hlt hk => by have h1 := (own_lt o72 g hg).1; have h2 := Nat.lt_of_lt_of_le p45 (Nat.le_trans (Nat.le_trans k50.size k55.size) k64.size); omega)) k131 (fun g hg hlt hk => by have h1 := (own_lt o72 g hg).1; have h2 := Nat.lt_of_lt_of_le p39 (Nat.le_trans (Nat.le_trans (Nat.le_trans k46.size k50.size) k55.size) k64.size); omega))
 have o137 := (own_ch (own_ch (own_kp (own_ch (own_ch (own_ch (own_kp (own_ch o77 k83 (fun g hg hlt hk => by have h1 := (own_lt o77 g hg).1; have h2 := Nat.lt_of_lt_of_le p45 (Nat.le_trans (Nat.le_trans k50.size k55.size) k64.size); omega)) k88) k102 (fun g hg hlt hk => by have h1 := (own_lt o77 g hg).1; have h2 := Nat.lt_of_lt_of_le p45 (Nat.le_trans (Nat.le_trans k50.size k55.size) k64.size); omega)) k107 (fun g hg hlt hk => by have h1 := (own_lt o77 g hg).1; have h2 := Nat.lt_of_lt_of_le p45 (Nat.le_trans (Nat.le_trans k50.size k55.size) k64.size); omega)) k112 (fun g hg hlt hk => by have h1 := (own_lt o77 g hg).1; have h2 := Nat.lt_of_lt_of_le p45 (Nat.le_trans (Nat.le_trans k50.size k55.size) k64.size); omega)) k117) k126 (fun g hg hlt hk => by have h1 := (own_lt o77 g hg).1; have h2 := Nat.lt_of_lt_of_le p45 (Nat.le_trans (Nat.le_trans k50.size k55.size) k64.size); omega)) k131 (fun g hg hlt hk => by have h1 := (own_lt o77 g hg).1; have h2 := Nat.lt_of_lt_of_le p39 (Nat.le_trans (Nat.le_trans (Nat.le_trans k46.size k50.size) k55.size) k64.size); omega))
 have o138 := (own_ch (own_ch (own_kp (own_ch (own_ch (own_ch o91 k102 (fun g hg hlt hk => by have h1 := (own_lt o91 g hg).1; have h2 := Nat.lt_of_lt_of_le p45 (Nat.le_trans (Nat.le_trans (Nat.le_trans (Nat.le_trans k50.size k55.size) k64.size) k69.size) k83.size); omega)) k107 (fun g hg hlt hk => by have h1 := (own_lt o91 g hg).1; have h2 := Nat.lt_of_lt_of_le p45 (Nat.le_trans (Nat.le_trans (Nat.le_trans (Nat.le_trans k50.size k55.size) k64.size) k69.size) k83.size); omega)) k112 (fun g hg hlt hk => by have h1 := (own_lt o91 g hg).1; have h2 := Nat.lt_of_lt_of_le p45 (Nat.le_trans (Nat.le_trans (Nat.le_trans (Nat.le_trans k50.size k55.size) k64.size) k69.size) k83.size); omega)) k117) k126 (fun g hg hlt hk => by have h1 := (own_lt o91 g hg).1; have h2 := Nat.lt_of_lt_of_le p45 (Nat.le_trans (Nat.le_trans (Nat.le_trans (Nat.le_trans k50.size k55.size) k64.size) k69.size) k83.size); omega)) k131 (fun g hg hlt hk => by have h1 := (own_lt o91 g hg).1; have h2 := Nat.lt_of_lt_of_le p39 (Nat.le_trans (Nat.le_trans (Nat.le_trans (Nat.le_trans (Nat.le_trans k46.size k50.size) k55.size) k64.size) k69.size) k83.size); omega))
 have o139 := (own_ch (own_ch (own_kp (own_ch (own_ch (own_ch o96 k102 (fun g hg hlt hk => by have h1 := (own_lt o96 g hg).1; have h2 := Nat.lt_of_lt_of_le p45 (Nat.le_trans (Nat.le_trans (Nat.le_trans (Nat.le_trans k50.size k55.size) k64.size) k69.size) k83.size); omega)) k107 (fun g hg hlt hk => by have h1 := (own_lt o96 g hg).1; have h2 := Nat.lt_of_lt_of_le p45 (Nat.le_trans (Nat.le_trans (Nat.le_trans (Nat.le_trans k50.size k55.size) k64.size) k69.size) k83.size); omega)) k112 (fun g hg hlt hk => by have h1 := (own_lt o96 g hg).1; have h2 := Nat.lt_of_lt_of_le p45 (Nat.le_trans (Nat.le_trans (Nat.le_trans (Nat.le_trans k50.size k55.size) k64.size) k69.size) k83.size); omega)) k117) k126 (fun g hg hlt hk => by have h1 := (own_lt o96 g hg).1; have h2 := Nat.lt_of_lt_of_le p45 (Nat.le_trans (Nat.le_trans (Nat.le_trans (Nat.le_trans k50.size k55.size) k64.size) k69.size) k83.size); omega)) k131 (fun g hg hlt hk => by have h1 := (own_lt o96 g hg).1; have h2 := Nat.lt_of_lt_of_le p39 (Nat.le_trans (Nat.le_trans (Nat.le_trans (Nat.le_trans (Nat.le_trans k46.size k50.size) k55.size) k64.size) k69.size) k83.size); omega))
 have o140 := (own_ch (own_ch o120 k126 (fun g hg hlt hk => by have h1 := (own_lt o120 g hg).1; have h2 := Nat.lt_of_lt_of_le p45 (Nat.le_trans (Nat.le_trans (Nat.le_trans (Nat.le_trans (Nat.le_trans (Nat.le_trans (Nat.le_trans (Nat.le_trans k50.size k55.size) k64.size) k69.size) k83.size) k88.size) k102.size) k107.size) k112.size); omega)) k131 (fun g hg hlt hk => by have h1 := (own_lt o120 g hg).1; have h2 := Nat.lt_of_lt_of_le p39 (Nat.le_trans (Nat.le_trans (Nat.le_trans (Nat.le_trans (Nat.le_trans (Nat.le_trans (Nat.le_trans (Nat.le_trans (Nat.le_trans k46.size k50.size) k55.size) k64.size) k69.size) k83.size) k88.size) k102.size) k107.size) k112.size); omega))
 refine ret_1 (.inl rfl) (va [(vi x_a.Role), (vs a56 (cpB x_a.Sn).length c57), (vi ((F_laws_toEp x_a.Cur).N)), (vs a70 ((F_laws_toEp x_a.Cur).Key).length c71), (vi ((F_laws_toEp x_a.Cur).Seq)), (vi (((F_laws_toEp x_a.Cur).Win).Top)), (vs a75 (((F_laws_toEp x_a.Cur).Win).Bits).length c76), (vi ((F_laws_toEp x_a.Old).N)), (vs a89 ((F_laws_toEp x_a.Old).Key).length c90), (vi ((F_laws_toEp x_a.Old).Seq)), (vi (((F_laws_toEp x_a.Old).Win).Top)), (vs a94 (((F_laws_toEp x_a.Old).Win).Bits).length c95), (vb x_a.HasOld), (vi x_a.Until), (vs a118 (cpB x_a.Next).length c119)]) rfl (rv_c [(vi x_a.Role), (vs a56 (cpB x_a.Sn).length c57), (vi ((F_laws_toEp x_a.Cur).N)), (vs a70 ((F_laws_toEp x_a.Cur).Key).length c71), (vi ((F_laws_toEp x_a.Cur).Seq)), (vi (((F_laws_toEp x_a.Cur).Win).Top)), (vs a75 (((F_laws_toEp x_a.Cur).Win).Bits).length c76), (vi ((F_laws_toEp x_a.Old).N)), (vs a89 ((F_laws_toEp x_a.Old).Key).length c90), (vi ((F_laws_toEp x_a.Old).Seq)), (vi (((F_laws_toEp x_a.Old).Win).Top)), (vs a94 (((F_laws_toEp x_a.Old).Win).Bits).length c95), (vb x_a.HasOld), (vi x_a.Until), (vs a118 (cpB x_a.Next).length c119)] rfl b132 isAgg_29 sizeOf_29) ?_
 refine ⟨m134.keep0, ?_⟩
 have hF141 : F_laws_toChan x_a = { Role := x_a.Role, Sn := (cpB x_a.Sn), Cur := (F_laws_toEp x_a.Cur), Old := (F_laws_toEp x_a.Old), HasOld := x_a.HasOld, Until := x_a.Until, Next := (cpB x_a.Next) : PChan } := by rfl
 rw [hF141]
 exact ⟨_, _, _, _, _, _, _, _, _, _, _, _, rfl, (own_lo o135 (Nat.le_trans (Nat.le_trans (Nat.le_trans k34.size k40.size) k46.size) k50.size)), s59, (own_lo o136 (Nat.le_trans (Nat.le_trans (Nat.le_trans (Nat.le_trans (Nat.le_trans k34.size k40.size) k46.size) k50.size) k55.size) k64.size)), s73, (own_lo o137 (Nat.le_trans (Nat.le_trans (Nat.le_trans (Nat.le_trans (Nat.le_trans k34.size k40.size) k46.size) k50.size) k55.size) k64.size)), s78, (own_lo o138 (Nat.le_trans (Nat.le_trans (Nat.le_trans (Nat.le_trans (Nat.le_trans (Nat.le_trans (Nat.le_trans k34.size k40.size) k46.size) k50.size) k55.size) k64.size) k69.size) k83.size)), s92, (own_lo o139 (Nat.le_trans (Nat.le_trans (Nat.le_trans (Nat.le_trans (Nat.le_trans (Nat.le_trans (Nat.le_trans k34.size k40.size) k46.size) k50.size) k55.size) k64.size) k69.size) k83.size)), s97, (own_lo o140 (Nat.le_trans (Nat.le_trans (Nat.le_trans (Nat.le_trans (Nat.le_trans (Nat.le_trans (Nat.le_trans (Nat.le_trans (Nat.le_trans (Nat.le_trans (Nat.le_trans k34.size k40.size) k46.size) k50.size) k55.size) k64.size) k69.size) k83.size) k88.size) k102.size) k107.size) k112.size)), s121, ⟨⟨(Ap.lt o58 o72 k64.size), ⟨(Ap.lt o58 o77 k64.size), ⟨(Ap.lt o58 o91 (Nat.le_trans (Nat.le_trans k64.size k69.size) k83.size)), ⟨(Ap.lt o58 o96 (Nat.le_trans (Nat.le_trans k64.size k69.size) k83.size)), ⟨(Ap.lt o58 o120 (Nat.le_trans (Nat.le_trans (Nat.le_trans (Nat.le_trans (Nat.le_trans (Nat.le_trans k64.size k69.size) k83.size) k88.size) k102.size) k107.size) k112.size)), trivial⟩⟩⟩⟩⟩, ⟨⟨(ap80.1.1), ⟨(Ap.lt o72 o91 k83.size), ⟨(Ap.lt o72 o96 k83.size), ⟨(Ap.lt o72 o120 (Nat.le_trans (Nat.le_trans (Nat.le_trans (Nat.le_trans k83.size k88.size) k102.size) k107.size) k112.size)), trivial⟩⟩⟩⟩, ⟨⟨(Ap.lt o77 o91 k83.size), ⟨(Ap.lt o77 o96 k83.size), ⟨(Ap.lt o77 o120 (Nat.le_trans (Nat.le_trans (Nat.le_trans (Nat.le_trans k83.size k88.size) k102.size) k107.size) k112.size)), trivial⟩⟩⟩, ⟨⟨(ap99.1.1), ⟨(Ap.lt o91 o120 (Nat.le_trans (Nat.le_trans k102.size k107.size) k112.size)), trivial⟩⟩, ⟨⟨(Ap.lt o96 o120 (Nat.le_trans (Nat.le_trans k102.size k107.size) k112.size)), trivial⟩, ⟨trivial, trivial⟩⟩⟩⟩⟩⟩⟩

def O_4 (w : World) (lo : Nat) (v : Value) (x : (Bool)) : Prop := v = .bool x
def F_spec_l1In (x_x : Int) (x_least : Int) (x_most : Int) : (Bool) := bif (decide (x_least ≤ x_x)) then (decide (x_x ≤ x_most)) else (false)
theorem C_spec_l1In (w0 : World) (x_x : Int) (x_least : Int) (x_most : Int)  : Fn Try.prog 65 #[(vi x_x), (vi x_least), (vi x_most)] w0 (fun v w' => Keep w0 w' ∧ O_4 w' w0.heap.size v (F_spec_l1In x_x x_least x_most)) := by
 refine fn_of (n := 15) (l := [(vi x_x), (vi x_least), (vi x_most), U, U, U, U, U, U, U, U, U, U, U, U]) Try.func65 rfl rfl (by kernel_rfl) rfl ?_
 refine sr ?_
 refine ag (vb false) wN ?_
 refine nx ?_
 refine mv (vi x_x) wN ?_
 refine mv (vi x_least) wN ?_
 refine pu (vb (decide (x_least ≤ x_x))) wN ?_
 refine mv (vb (decide (x_least ≤ x_x))) wN ?_
 rcases bf (decide (x_least ≤ x_x)) with h1 | h1
 ·have q4 := of_decide_eq_false h1
  refine sk h1 ?_
  refine sk h1 ?_
  refine sk h1 ?_
  refine pf (vb false) wN h1 ?_
  refine ag (vb false) wN ?_
  refine wl_nil <| wq_then <| wc_ret ?_
  refine ret_1 (.inl rfl) (vb false) rfl rfl ?_
  refine ⟨Ch.refl _ _, ?_⟩
  have hF5 : F_spec_l1In x_x x_least x_most = false := by simp only [F_spec_l1In, h1, cond_true, cond_false]
  rw [hF5]
  exact rfl
 have q2 := of_decide_eq_true h1
 refine mv (vi x_x) (wS h1) ?_
 refine mv (vi x_most) (wS h1) ?_
 refine pu (vb (decide (x_x ≤ x_most))) (wS h1) ?_
 refine pk (vb (decide (x_x ≤ x_most))) wN h1 ?_
 refine ag (vb (decide (x_x ≤ x_most))) wN ?_
 refine wl_nil <| wq_then <| wc_ret ?_
 refine ret_1 (.inl rfl) (vb (decide (x_x ≤ x_most))) rfl rfl ?_
 refine ⟨Ch.refl _ _, ?_⟩
 have hF3 : F_spec_l1In x_x x_least x_most = decide (x_x ≤ x_most) := by simp only [F_spec_l1In, h1, cond_true, cond_false]
 rw [hF3]
 exact rfl
theorem spec_l1In_t {n a b : Int} (h : F_spec_l1In n a b = true) : a ≤ n ∧ n ≤ b := by
  unfold F_spec_l1In at h
  by_cases h1 : a ≤ n <;> simp [h1] at h
  exact ⟨h1, h⟩
theorem spec_l1In_f {n a b : Int} (h : F_spec_l1In n a b = false) : n < a ∨ b < n := by
  unfold F_spec_l1In at h
  by_cases h1 : a ≤ n <;> simp [h1] at h <;> omega

def R_25 (w : World) (v : Value) (x : (PWin)) : Prop := ∃ (a1 : Option Addr) (c1 : Nat), v = .agg #[.int .i64 x.Top, .slice a1 x.Bits.length c1] ∧ Rd w 1 (.slice a1 x.Bits.length c1) x.Bits.length (x.Bits.map iV) ∧ x.Bits.length ≤ 1073741824
def F_spec_l8Bit (x_w : PWin) (x_n : Int) : (Bool) := decide ((((x_w.Bits.getD (((x_n % 1024) / 32)).toNat 0) / (2 : Int) ^ (((x_n % 1024) % 32)).toNat) % 2) = 1)
theorem C_spec_l8Bit (w0 : World) (v_x_w : Value) (x_w : PWin) (r_x_w : R_25 w0 v_x_w x_w) (x_n : Int) (pre0 : x_w.Bits.length = 32) (pre1 : 0 ≤ x_n) : Fn Try.prog 123 #[v_x_w, (vi x_n)] w0 (fun v w' => Keep w0 w' ∧ O_4 w' w0.heap.size v (F_spec_l8Bit x_w x_n)) := by
 obtain ⟨a1, c2, rfl, r3, s4⟩ := r_x_w
 refine fn_of (n := 19) (l := [(va (L_25 x_w a1 c2)), (vi x_n), U, U, U, U, U, U, U, U, U, U, U, U, U, U, U, U, U]) Try.func123 rfl rfl (by kernel_rfl) rfl ?_
 refine sr ?_
 refine bx (L_25 x_w a1 c2) wN ?_
 intro g6 w1 p7 p8 k9 b10
 have m11 := (Ch.base w0).extk k9
 refine ag (vb false) wN ?_
 refine nx ?_
 refine mv (vi x_n) wN ?_
 refine wl_rem x_n 1024 wN rfl rfl (by kernel_rfl) (by first | omega | assumption) ?_
 refine ag (vi (x_n % 1024)) wN ?_
 refine nx ?_
 refine pu (vp g6 1) wN ?_
 refine ld (vs a1 x_w.Bits.length c2) wN isAgg_23 b10 ?_
 refine mv (vi (x_n % 1024)) wN ?_
 refine wl_quo (x_n % 1024) 32 wN rfl rfl (by kernel_rfl) (by omega) (by omega) (by omega) ?_
 refine wl_index wN ((x_n % 1024) / 32) rfl rfl rfl slTy_23 rfl rfl (r3.from0 m11) (by first | omega | (simp only [List.length_cons, List.length_nil, List.length_replicate, List.length_append, List.length_take, List.length_set, List.length_map]; omega)) (by first | omega | (simp only [List.length_cons, List.length_nil, List.length_replicate, List.length_append, List.length_take, List.length_set, List.length_map]; omega)) ?_
 refine wl_loadE (iV (x_w.Bits.getD (((x_n % 1024) / 32)).toNat 0)) wN rfl rfl rfl rfl isAgg_3 (r3.from0 m11) (iget (by simp) (by first | omega | (simp only [List.length_cons, List.length_nil, List.length_replicate, List.length_append, List.length_take, List.length_set, List.length_map]; omega))) ?_
 refine mv (vi (x_n % 1024)) wN ?_
 refine wl_rem (x_n % 1024) 32 wN rfl rfl (by kernel_rfl) (by first | omega | assumption) ?_
 refine wl_shr (x_w.Bits.getD (((x_n % 1024) / 32)).toNat 0) ((x_n % 1024) % 32) wN rfl rfl rfl rfl rfl (by omega) (by omega) ?_
 refine wl_and ((x_w.Bits.getD (((x_n % 1024) / 32)).toNat 0) / (2 : Int) ^ (((x_n % 1024) % 32)).toNat) 1 2 1 wN rfl rfl (by decide) (by decide) (by decide) (by kernel_rfl) ?_
 refine pu (vb (decide ((((x_w.Bits.getD (((x_n % 1024) / 32)).toNat 0) / (2 : Int) ^ (((x_n % 1024) % 32)).toNat) % 2) = 1))) wN ?_
 refine ag (vb (decide ((((x_w.Bits.getD (((x_n % 1024) / 32)).toNat 0) / (2 : Int) ^ (((x_n % 1024) % 32)).toNat) % 2) = 1))) wN ?_
 refine wl_nil <| wq_then <| wc_ret ?_
 refine ret_1 (.inl rfl) (vb (decide ((((x_w.Bits.getD (((x_n % 1024) / 32)).toNat 0) / (2 : Int) ^ (((x_n % 1024) % 32)).toNat) % 2) = 1))) rfl rfl ?_
 refine ⟨m11.keep0, ?_⟩
 have hF12 : F_spec_l8Bit x_w x_n = decide ((((x_w.Bits.getD (((x_n % 1024) / 32)).toNat 0) / (2 : Int) ^ (((x_n % 1024) % 32)).toNat) % 2) = 1) := by rfl
 rw [hF12]
 exact rfl

theorem mR_25 {w : World} {x : PWin} {a1 : Option Addr} {c1 : Nat} (h1 : Rd w 1 (.slice a1 x.Bits.length c1) x.Bits.length (x.Bits.map iV)) (l1 : x.Bits.length ≤ 1073741824) : R_25 w (va (L_25 x a1 c1)) x := ⟨_, _, rfl, h1, l1⟩
def sWin (w : PWin) : Bool := bif (decide ((w.Bits.length : Int) = 32)) then (bif F_spec_l1In w.Top (-1) 281474976710655 then (bif allW w.Bits then (bif decide (0 ≤ w.Top) && !(F_spec_l8Bit w w.Top) then false else noneIn (F_spec_l8Bit w) (w.Top + 1) 1024) else false) else false) else false
theorem C_spec_WinOk (w0 : World) (v_x_w : Value) (x_w : PWin) (r_x_w : R_25 w0 v_x_w x_w)  : Fn Try.prog 109 #[v_x_w] w0 (fun v w' => Keep w0 w' ∧ O_4 w' w0.heap.size v (sWin x_w)) := by
 obtain ⟨a1, c2, rfl, r3, s4⟩ := r_x_w
 refine fn_of (n := 46) (l := [(va (L_25 x_w a1 c2)), U, U, U, U, U, U, U, U, U, U, U, U, U, U, U, U, U, U, U, U, U, U, U, U, U, U, U, U, U, U, U, U, U, U, U, U, U, U, U, U, U, U, U, U, U]) Try.func109 rfl rfl (by kernel_rfl) rfl ?_
 refine sr ?_
 refine bx (L_25 x_w a1 c2) wN ?_
 intro g6 w1 p7 p8 k9 b10
 have m11 := (Ch.base w0).extk k9
 refine ag (vb false) wN ?_
 refine wl_nil <| wq_then <| wc_seq <| sr ?_
 refine pu (vp g6 1) wN ?_
 refine ld (vs a1 x_w.Bits.length c2) wN isAgg_23 b10 ?_
 refine ln wN slTy_23 (r3.from0 m11) ?_
 refine pu (vb (!(decide ((x_w.Bits.length : Int) = 32)))) wN ?_
 refine mv (vb (!(decide ((x_w.Bits.length : Int) = 32)))) wN ?_
 rcases bf (decide ((x_w.Bits.length : Int) = 32)) with h12 | h12
 ·have q77 := of_decide_eq_false h12
  refine sk (congrArg not h12) ?_
  refine sk (congrArg not h12) ?_
  refine sk (congrArg not h12) ?_
  refine sk (congrArg not h12) ?_
  refine pk (vb true) wN (congrArg not h12) ?_
  refine wl_nil <| wq_then ?_
  refine ct (Eq.refl true) ?_
  refine sr ?_
  refine ag (vb false) wN ?_
  refine wl_nil <| wq_then <| wc_ret <| wq_then_ret ?_
  refine ret_1 (.inl rfl) (vb false) rfl rfl ?_
  refine ⟨m11.keep0, ?_⟩
  have hF78 : sWin x_w = false := by first | (simp [sWin, h12]; done) | (have hz := allW_no (x := x_w.Bits) (k := i) (by omega) (by assumption); simp [sWin, h12, hz]; done) | (have hy := allW_all (x := x_w.Bits) (k := i) (by assumption) (by omega); simp [sWin, h12, hy]; done) | (have hy := allW_all (x := x_w.Bits) (k := i) (by assumption) (by omega); have hz := noneIn_f (f := F_spec_l8Bit x_w) (a := x_w.Top + 1) (b := 1024) (q := q) (by assumption) (by omega) (by omega); simp [sWin, h12, hy, hz]; done) | (have hy := allW_all (x := x_w.Bits) (k := i) (by assumption) (by omega); have hz := noneIn_t (f := F_spec_l8Bit x_w) (a := x_w.Top + 1) (b := 1024) (q := q) (by assumption) (by omega); simp [sWin, h12, hy, hz]; done)
  rw [hF78]
  exact rfl
 have q13 := of_decide_eq_true h12
 refine pu (vp g6 0) (wS (congrArg not h12)) ?_
 refine ld (vi x_w.Top) (wS (congrArg not h12)) isAgg_3 b10 ?_
 refine cl (wS (congrArg not h12)) (C_spec_l1In w1 x_w.Top (-1) 281474976710655) ?_
 rintro _ w2 ⟨k14, rfl⟩
 have m15 := m11.extk k14
 refine pu (vb (!(F_spec_l1In x_w.Top (-1) 281474976710655))) (wS (congrArg not h12)) ?_
 refine pf (vb (!(F_spec_l1In x_w.Top (-1) 281474976710655))) wN (congrArg not h12) ?_
 refine wl_nil <| wq_then ?_
 rcases bf (F_spec_l1In x_w.Top (-1) 281474976710655) with h16 | h16
 ·have q75 := spec_l1In_f h16
  refine ct (congrArg not h16) ?_
  refine sr ?_
  refine ag (vb false) wN ?_
  refine wl_nil <| wq_then <| wc_ret <| wq_then_ret ?_
  refine ret_1 (.inl rfl) (vb false) rfl rfl ?_
  refine ⟨m15.keep0, ?_⟩
  have hF76 : sWin x_w = false := by first | (simp [sWin, h12, h16]; done) | (have hz := allW_no (x := x_w.Bits) (k := i) (by omega) (by assumption); simp [sWin, h12, h16, hz]; done) | (have hy := allW_all (x := x_w.Bits) (k := i) (by assumption) (by omega); simp [sWin, h12, h16, hy]; done) | (have hy := allW_all (x := x_w.Bits) (k := i) (by assumption) (by omega); have hz := noneIn_f (f := F_spec_l8Bit x_w) (a := x_w.Top + 1) (b := 1024) (q := q) (by assumption) (by omega) (by omega); simp [sWin, h12, h16, hy, hz]; done) | (have hy := allW_all (x := x_w.Bits) (k := i) (by assumption) (by omega); have hz := noneIn_t (f := F_spec_l8Bit x_w) (a := x_w.Top + 1) (b := 1024) (q := q) (by assumption) (by omega); simp [sWin, h12, h16, hy, hz]; done)
  rw [hF76]
  exact rfl
 have q17 := spec_l1In_t h16
 refine cf (congrArg not h16) ?_
 refine wc_skip <| wq_then <| wc_seq <| sr ?_
 refine ag (vi 0) wN ?_
 refine wl_nil <| wq_then <| wc_block ?_
 refine wc_norm [(va (L_25 x_w a1 c2)), (vp g6 0), (vb false), (vi 0), U, (vp g6 1), (vs a1 x_w.Bits.length c2), (vi (x_w.Bits.length : Int)), (vb (!(decide ((x_w.Bits.length : Int) = 32)))), (vb (!(decide ((x_w.Bits.length : Int) = 32)))), (vp g6 0), (vi x_w.Top), (vb (F_spec_l1In x_w.Top (-1) 281474976710655)), (vb (!(F_spec_l1In x_w.Top (-1) 281474976710655))), (vb (!(F_spec_l1In x_w.Top (-1) 281474976710655))), U, U, U, U, U, U, U, U, U, U, U, U, U, U, U, U, U, U, U, U, U, U, U, U, U, U, U, U, U, U, U] rfl ⟨rfl, rfl, rfl, rfl, rfl, rfl, rfl, rfl, rfl, rfl, rfl, rfl, rfl, rfl, rfl, rfl, rfl, rfl, rfl, rfl, rfl, rfl, rfl, rfl, rfl, rfl, rfl, rfl, rfl, rfl, rfl, rfl, rfl, rfl, rfl, rfl, rfl, rfl, rfl, rfl, rfl, rfl, rfl, rfl, rfl, rfl, trivial⟩ ?_
 refine wc_loop (fun e' w' => ∃ (i : Nat) (u2x u15x u16x u17x u18x u19x u20x u21x u22x u23x u24x u25x : Value), e' = lst [(va (L_25 x_w a1 c2)), (vp g6 0), u2x, (vi ((i : Nat) : Int)), U, (vp g6 1), (vs a1 x_w.Bits.length c2), (vi (x_w.Bits.length : Int)), (vb (!(decide ((x_w.Bits.length : Int) = 32)))), (vb (!(decide ((x_w.Bits.length : Int) = 32)))), (vp g6 0), (vi x_w.Top), (vb (F_spec_l1In x_w.Top (-1) 281474976710655)), (vb (!(F_spec_l1In x_w.Top (-1) 281474976710655))), (vb (!(F_spec_l1In x_w.Top (-1) 281474976710655))), u15x, u16x, u17x, u18x, u19x, u20x, u21x, u22x, u23x, u24x, u25x, U, U, U, U, U, U, U, U, U, U, U, U, U, U, U, U, U, U, U, U] ∧ Ch (fun k => w0.heap.size ≤ k) w0 w' ∧ Ch (fun k => w2.heap.size ≤ k) w2 w' ∧ i ≤ 32 ∧ allW (x_w.Bits.take i) = true) (fun e' _ => (32 - (intOf (e' 3))).toNat) ?_ ?_
 ·exact ⟨0, (vb false), U, U, U, U, U, U, U, U, U, U, U, (congrArg (fun (x3z : Value) => lst [(va (L_25 x_w a1 c2)), (vp g6 0), (vb false), x3z, U, (vp g6 1), (vs a1 x_w.Bits.length c2), (vi (x_w.Bits.length : Int)), (vb (!(decide ((x_w.Bits.length : Int) = 32)))), (vb (!(decide ((x_w.Bits.length : Int) = 32)))), (vp g6 0), (vi x_w.Top), (vb (F_spec_l1In x_w.Top (-1) 281474976710655)), (vb (!(F_spec_l1In x_w.Top (-1) 281474976710655))), (vb (!(F_spec_l1In x_w.Top (-1) 281474976710655))), U, U, U, U, U, U, U, U, U, U, U, U, U, U, U, U, U, U, U, U, U, U, U, U, U, U, U, U, U, U, U]) (congrArg (Value.int .i64) (show (0 : Int) = ((0 : Nat) : Int) by omega))), m15, (Ch.refl (fun k => w2.heap.size ≤ k) w2), (by omega), (by first | rfl | exact allW_next (by assumption) (by omega) (by assumption))⟩
 ·rintro _ w3 ⟨i, u2x, u15x, u16x, u17x, u18x, u19x, u20x, u21x, u22x, u23x, u24x, u25x, rfl, m18, k19, i20, i21⟩
  refine wc_seq <| sr ?_
  refine mv (vi ((i : Nat) : Int)) wN ?_
  refine pu (vb (decide (((i : Nat) : Int) < 32))) wN ?_
  refine wl_nil <| wq_then ?_
  rcases bt (decide (((i : Nat) : Int) < 32)) with h22 | h22
  ·have q23 := of_decide_eq_true h22
   refine ct h22 ?_
   refine wc_skip <| wq_then <| wc_seq <| wc_block <| sr ?_
   refine pu (vp g6 1) wN ?_
   have b24 := ((b10.kp k14).ch k19 (Nat.not_le.2 (Nat.lt_of_lt_of_le p8 k14.size)))
   refine ld (vs a1 x_w.Bits.length c2) wN isAgg_23 b24 ?_
   refine mv (vi ((i : Nat) : Int)) wN ?_
   refine wl_index wN ((i : Nat) : Int) rfl rfl rfl slTy_23 rfl rfl (r3.from0 m18) (by first | omega | (simp only [List.length_cons, List.length_nil, List.length_replicate, List.length_append, List.length_take, List.length_set, List.length_map]; omega)) (by first | omega | (simp only [List.length_cons, List.length_nil, List.length_replicate, List.length_append, List.length_take, List.length_set, List.length_map]; omega)) ?_
   refine wl_loadE (iV (x_w.Bits.getD i 0)) wN rfl rfl rfl rfl isAgg_3 (r3.from0 m18) (iget (by simp) (by first | omega | (simp only [List.length_cons, List.length_nil, List.length_replicate, List.length_append, List.length_take, List.length_set, List.length_map]; omega))) ?_
   refine cl wN (C_spec_l1In w3 (x_w.Bits.getD i 0) 0 4294967295) ?_
   rintro _ w4 ⟨k25, rfl⟩
   have m26 := m18.extk k25
   refine pu (vb (!(F_spec_l1In (x_w.Bits.getD i 0) 0 4294967295))) wN ?_
   refine wl_nil <| wq_then ?_
   rcases bf (F_spec_l1In (x_w.Bits.getD i 0) 0 4294967295) with h27 | h27
   ·have q29 := spec_l1In_f h27
    refine ct (congrArg not h27) ?_
    refine sr ?_
    refine ag (vb false) wN ?_
    refine wl_nil <| wq_then <| wc_ret <| wq_blk_ret <| wq_then_ret <| wq_then_ret <| wq_blk_ret <| wq_then_ret ?_
    refine ret_1 (.inl rfl) (vb false) rfl rfl ?_
    refine ⟨m26.keep0, ?_⟩
    have hF30 : sWin x_w = false := by first | (simp [sWin, h12, h16, h22, h27]; done) | (have hz := allW_no (x := x_w.Bits) (k := i) (by omega) (by assumption); simp [sWin, h12, h16, h22, h27, hz]; done) | (have hy := allW_all (x := x_w.Bits) (k := i) (by assumption) (by omega); simp [sWin, h12, h16, h22, h27, hy]; done) | (have hy := allW_all (x := x_w.Bits) (k := i) (by assumption) (by omega); have hz := noneIn_f (f := F_spec_l8Bit x_w) (a := x_w.Top + 1) (b := 1024) (q := q) (by assumption) (by omega) (by omega); simp [sWin, h12, h16, h22, h27, hy, hz]; done) | (have hy := allW_all (x := x_w.Bits) (k := i) (by assumption) (by omega); have hz := noneIn_t (f := F_spec_l8Bit x_w) (a := x_w.Top + 1) (b := 1024) (q := q) (by assumption) (by omega); simp [sWin, h12, h16, h22, h27, hy, hz]; done)
    rw [hF30]
    exact rfl
   have q28 := spec_l1In_t h27
   refine cf (congrArg not h27) ?_
   refine wc_skip <| wq_blk_normal <| wq_then <| wc_region ?_
   refine mv (vi ((i : Nat) : Int)) wN ?_
   refine ar (((i : Nat) : Int) + 1) wN ?_
   refine ag (vi (((i : Nat) : Int) + 1)) wN ?_
   refine wl_nil ?_
   refine wq_loopN (w0 := w3) [(va (L_25 x_w a1 c2)), (vp g6 0), u2x, (vi (((i + 1) : Nat) : Int)), U, (vp g6 1), (vs a1 x_w.Bits.length c2), (vi (x_w.Bits.length : Int)), (vb (!(decide ((x_w.Bits.length : Int) = 32)))), (vb (!(decide ((x_w.Bits.length : Int) = 32)))), (vp g6 0), (vi x_w.Top), (vb (F_spec_l1In x_w.Top (-1) 281474976710655)), (vb (!(F_spec_l1In x_w.Top (-1) 281474976710655))), (vb (!(F_spec_l1In x_w.Top (-1) 281474976710655))), (vi ((i : Nat) : Int)), (vb (decide (((i : Nat) : Int) < 32))), (vi ((i : Nat) : Int)), (vi (((i : Nat) : Int) + 1)), (vp g6 1), (vs a1 x_w.Bits.length c2), (vi ((i : Nat) : Int)), (ve (vs a1 x_w.Bits.length c2) ((((i : Nat) : Int)).toNat * 1)), (vi (x_w.Bits.getD i 0)), (vb (F_spec_l1In (x_w.Bits.getD i 0) 0 4294967295)), (vb (!(F_spec_l1In (x_w.Bits.getD i 0) 0 4294967295))), U, U, U, U, U, U, U, U, U, U, U, U, U, U, U, U, U, U, U, U] rfl ?_ ?_ ?_
   · exact ⟨rfl, rfl, rfl, (congrArg (Value.int .i64) (show ((((i : Nat) : Int) + 1) : Int) = (((i + 1) : Nat) : Int) by omega)), rfl, rfl, rfl, rfl, rfl, rfl, rfl, rfl, rfl, rfl, rfl, rfl, rfl, rfl, rfl, rfl, rfl, rfl, rfl, rfl, rfl, rfl, rfl, rfl, rfl, rfl, rfl, rfl, rfl, rfl, rfl, rfl, rfl, rfl, rfl, rfl, rfl, rfl, rfl, rfl, rfl, rfl, trivial⟩
   · exact ⟨(i + 1), u2x, (vi ((i : Nat) : Int)), (vb (decide (((i : Nat) : Int) < 32))), (vi ((i : Nat) : Int)), (vi (((i : Nat) : Int) + 1)), (vp g6 1), (vs a1 x_w.Bits.length c2), (vi ((i : Nat) : Int)), (ve (vs a1 x_w.Bits.length c2) ((((i : Nat) : Int)).toNat * 1)), (vi (x_w.Bits.getD i 0)), (vb (F_spec_l1In (x_w.Bits.getD i 0) 0 4294967295)), (vb (!(F_spec_l1In (x_w.Bits.getD i 0) 0 4294967295))), rfl, m26, (((Ch.refl (fun k => w2.heap.size ≤ k) w2).ext k19 (fun k hk => Nat.le_trans (Nat.le_refl _) hk)).extk k25), (by omega), (by first | rfl | exact allW_next (by assumption) (by omega) (by assumption))⟩
   · show (32 - (((i + 1) : Nat) : Int)).toNat < (32 - ((i : Nat) : Int)).toNat; omega
  have q31 := of_decide_eq_false h22
  refine cf h22 ?_
  refine wc_exit <| wq_then_exit <| wq_then_exit <| wq_blk_exit <| wq_then <| wc_seq <| sr ?_
  refine pu (vp g6 0) wN ?_
  have b32 := ((b10.kp k14).ch k19 (Nat.not_le.2 (Nat.lt_of_lt_of_le p8 k14.size)))
  refine ld (vi x_w.Top) wN isAgg_3 b32 ?_
  refine pu (vb (decide (0 ≤ x_w.Top))) wN ?_
  refine mv (vb (decide (0 ≤ x_w.Top))) wN ?_
  rcases bf (decide (0 ≤ x_w.Top)) with h33 | h33
  ·have q58 := of_decide_eq_false h33
   refine sk h33 ?_
   refine sk h33 ?_
   refine sk h33 ?_
   refine sk h33 ?_
   refine sk h33 ?_
   refine pf (vb false) wN h33 ?_
   refine wl_nil <| wq_then ?_
   refine cf (Eq.refl false) ?_
   refine wc_skip <| wq_then <| wc_seq <| sr ?_
   refine pu (vp g6 0) wN ?_
   refine ld (vi x_w.Top) wN isAgg_3 b32 ?_
   refine ar (x_w.Top + 1) wN ?_
   refine ag (vi (x_w.Top + 1)) wN ?_
   refine wl_nil <| wq_then <| wc_block ?_
   refine wc_norm [(va (L_25 x_w a1 c2)), (vp g6 0), u2x, (vi ((i : Nat) : Int)), (vi (x_w.Top + 1)), (vp g6 1), (vs a1 x_w.Bits.length c2), (vi (x_w.Bits.length : Int)), (vb (!(decide ((x_w.Bits.length : Int) = 32)))), (vb (!(decide ((x_w.Bits.length : Int) = 32)))), (vp g6 0), (vi x_w.Top), (vb (F_spec_l1In x_w.Top (-1) 281474976710655)), (vb (!(F_spec_l1In x_w.Top (-1) 281474976710655))), (vb (!(F_spec_l1In x_w.Top (-1) 281474976710655))), (vi ((i : Nat) : Int)), (vb (decide (((i : Nat) : Int) < 32))), u17x, u18x, u19x, u20x, u21x, u22x, u23x, u24x, u25x, (vp g6 0), (vi x_w.Top), (vb (decide (0 ≤ x_w.Top))), (vb (decide (0 ≤ x_w.Top))), U, U, U, U, U, (vb false), (vp g6 0), (vi x_w.Top), (vi (x_w.Top + 1)), U, U, U, U, U, U, U] rfl ⟨rfl, rfl, rfl, rfl, rfl, rfl, rfl, rfl, rfl, rfl, rfl, rfl, rfl, rfl, rfl, rfl, rfl, rfl, rfl, rfl, rfl, rfl, rfl, rfl, rfl, rfl, rfl, rfl, rfl, rfl, rfl, rfl, rfl, rfl, rfl, rfl, rfl, rfl, rfl, rfl, rfl, rfl, rfl, rfl, rfl, rfl, trivial⟩ ?_
   refine wc_loop (fun e' w' => ∃ (q : Int) (u2x u39x u40x u41x u42x u43x u44x u45x : Value), e' = lst [(va (L_25 x_w a1 c2)), (vp g6 0), u2x, (vi ((i : Nat) : Int)), (vi q), (vp g6 1), (vs a1 x_w.Bits.length c2), (vi (x_w.Bits.length : Int)), (vb (!(decide ((x_w.Bits.length : Int) = 32)))), (vb (!(decide ((x_w.Bits.length : Int) = 32)))), (vp g6 0), (vi x_w.Top), (vb (F_spec_l1In x_w.Top (-1) 281474976710655)), (vb (!(F_spec_l1In x_w.Top (-1) 281474976710655))), (vb (!(F_spec_l1In x_w.Top (-1) 281474976710655))), (vi ((i : Nat) : Int)), (vb (decide (((i : Nat) : Int) < 32))), u17x, u18x, u19x, u20x, u21x, u22x, u23x, u24x, u25x, (vp g6 0), (vi x_w.Top), (vb (decide (0 ≤ x_w.Top))), (vb (decide (0 ≤ x_w.Top))), U, U, U, U, U, (vb false), (vp g6 0), (vi x_w.Top), (vi (x_w.Top + 1)), u39x, u40x, u41x, u42x, u43x, u44x, u45x] ∧ Ch (fun k => w0.heap.size ≤ k) w0 w' ∧ Ch (fun k => w3.heap.size ≤ k) w3 w' ∧ x_w.Top + 1 ≤ q ∧ q ≤ 281474976710656 ∧ ∀ m : Int, x_w.Top + 1 ≤ m → m < q → F_spec_l8Bit x_w m = false) (fun e' _ => (1024 - (intOf (e' 4))).toNat) ?_ ?_
   ·exact ⟨(x_w.Top + 1), u2x, U, U, U, U, U, U, U, rfl, m18, (Ch.refl (fun k => w3.heap.size ≤ k) w3), (by omega), (by omega), (by first | (intro m h1 h2; omega) | exact none_next (by assumption) (by assumption))⟩
   ·rintro _ w4 ⟨q, u2x, u39x, u40x, u41x, u42x, u43x, u44x, u45x, rfl, m59, k60, i61, i62, i63⟩
    refine wc_seq <| sr ?_
    refine mv (vi q) wN ?_
    refine pu (vb (decide (q < 1024))) wN ?_
    refine wl_nil <| wq_then ?_
    rcases bf (decide (q < 1024)) with h64 | h64
    ·have q73 := of_decide_eq_false h64
     refine cf h64 ?_
     refine wc_exit <| wq_then_exit <| wq_then_exit <| wq_blk_exit <| wq_then <| sr ?_
     refine ag (vb true) wN ?_
     refine wl_nil <| wq_then <| wc_ret ?_
     refine ret_1 (.inl rfl) (vb true) rfl rfl ?_
     refine ⟨m59.keep0, ?_⟩
     have hF74 : sWin x_w = true := by first | (simp [sWin, h12, h16, h22, h33, h64]; done) | (have hz := allW_no (x := x_w.Bits) (k := i) (by omega) (by assumption); simp [sWin, h12, h16, h22, h33, h64, hz]; done) | (have hy := allW_all (x := x_w.Bits) (k := i) (by assumption) (by omega); simp [sWin, h12, h16, h22, h33, h64, hy]; done) | (have hy := allW_all (x := x_w.Bits) (k := i) (by assumption) (by omega); have hz := noneIn_f (f := F_spec_l8Bit x_w) (a := x_w.Top + 1) (b := 1024) (q := q) (by assumption) (by omega) (by omega); simp [sWin, h12, h16, h22, h33, h64, hy, hz]; done) | (have hy := allW_all (x := x_w.Bits) (k := i) (by assumption) (by omega); have hz := noneIn_t (f := F_spec_l8Bit x_w) (a := x_w.Top + 1) (b := 1024) (q := q) (by assumption) (by omega); simp [sWin, h12, h16, h22, h33, h64, hy, hz]; done)
     rw [hF74]
     exact rfl
    have q65 := of_decide_eq_true h64
    refine ct h64 ?_
    refine wc_skip <| wq_then <| wc_seq <| wc_block <| sr ?_
    have b66 := (b32.ch k60 (Nat.not_le.2 (Nat.lt_of_lt_of_le p8 (Nat.le_trans k14.size k19.size))))
    refine lN (L_25 x_w a1 c2) wN isAgg_25 sizeOf_25 b66 ?_
    refine mv (vi q) wN ?_
    refine cl wN (C_spec_l8Bit w4 _ x_w (mR_25 (r3.from0 m59) s4) q (by first | assumption | omega) (by first | assumption | omega)) ?_
    rintro _ w5 ⟨k67, rfl⟩
    have m68 := m59.extk k67
    refine wl_nil <| wq_then ?_
    rcases bt (F_spec_l8Bit x_w q) with h69 | h69
    ·refine ct h69 ?_
     refine sr ?_
     refine ag (vb false) wN ?_
     refine wl_nil <| wq_then <| wc_ret <| wq_blk_ret <| wq_then_ret <| wq_then_ret <| wq_blk_ret <| wq_then_ret ?_
     refine ret_1 (.inl rfl) (vb false) rfl rfl ?_
     refine ⟨m68.keep0, ?_⟩
     have hF71 : sWin x_w = false := by first | (simp [sWin, h12, h16, h22, h33, h64, h69]; done) | (have hz := allW_no (x := x_w.Bits) (k := i) (by omega) (by assumption); simp [sWin, h12, h16, h22, h33, h64, h69, hz]; done) | (have hy := allW_all (x := x_w.Bits) (k := i) (by assumption) (by omega); simp [sWin, h12, h16, h22, h33, h64, h69, hy]; done) | (have hy := allW_all (x := x_w.Bits) (k := i) (by assumption) (by omega); have hz := noneIn_f (f := F_spec_l8Bit x_w) (a := x_w.Top + 1) (b := 1024) (q := q) (by assumption) (by omega) (by omega); simp [sWin, h12, h16, h22, h33, h64, h69, hy, hz]; done) | (have hy := allW_all (x := x_w.Bits) (k := i) (by assumption) (by omega); have hz := noneIn_t (f := F_spec_l8Bit x_w) (a := x_w.Top + 1) (b := 1024) (q := q) (by assumption) (by omega); simp [sWin, h12, h16, h22, h33, h64, h69, hy, hz]; done)
     rw [hF71]
     exact rfl
    refine cf h69 ?_
    refine wc_skip <| wq_blk_normal <| wq_then <| wc_region ?_
    refine mv (vi q) wN ?_
    refine ar (q + 1) wN ?_
    refine ag (vi (q + 1)) wN ?_
    refine wl_nil ?_
    refine wq_loopN (w0 := w4) [(va (L_25 x_w a1 c2)), (vp g6 0), u2x, (vi ((i : Nat) : Int)), (vi (q + 1)), (vp g6 1), (vs a1 x_w.Bits.length c2), (vi (x_w.Bits.length : Int)), (vb (!(decide ((x_w.Bits.length : Int) = 32)))), (vb (!(decide ((x_w.Bits.length : Int) = 32)))), (vp g6 0), (vi x_w.Top), (vb (F_spec_l1In x_w.Top (-1) 281474976710655)), (vb (!(F_spec_l1In x_w.Top (-1) 281474976710655))), (vb (!(F_spec_l1In x_w.Top (-1) 281474976710655))), (vi ((i : Nat) : Int)), (vb (decide (((i : Nat) : Int) < 32))), u17x, u18x, u19x, u20x, u21x, u22x, u23x, u24x, u25x, (vp g6 0), (vi x_w.Top), (vb (decide (0 ≤ x_w.Top))), (vb (decide (0 ≤ x_w.Top))), U, U, U, U, U, (vb false), (vp g6 0), (vi x_w.Top), (vi (x_w.Top + 1)), (vi q), (vb (decide (q < 1024))), (vi q), (vi (q + 1)), (va (L_25 x_w a1 c2)), (vi q), (vb (F_spec_l8Bit x_w q))] rfl ?_ ?_ ?_
    · exact ⟨rfl, rfl, rfl, rfl, rfl, rfl, rfl, rfl, rfl, rfl, rfl, rfl, rfl, rfl, rfl, rfl, rfl, rfl, rfl, rfl, rfl, rfl, rfl, rfl, rfl, rfl, rfl, rfl, rfl, rfl, rfl, rfl, rfl, rfl, rfl, rfl, rfl, rfl, rfl, rfl, rfl, rfl, rfl, rfl, rfl, rfl, trivial⟩
    · exact ⟨(q + 1), u2x, (vi q), (vb (decide (q < 1024))), (vi q), (vi (q + 1)), (va (L_25 x_w a1 c2)), (vi q), (vb (F_spec_l8Bit x_w q)), rfl, m68, (((Ch.refl (fun k => w3.heap.size ≤ k) w3).ext k60 (fun k hk => Nat.le_trans (Nat.le_refl _) hk)).extk k67), (by omega), (by omega), (by first | (intro m h1 h2; omega) | exact none_next (by assumption) (by assumption))⟩
    · show (1024 - (q + 1)).toNat < (1024 - q).toNat; omega
  have q34 := of_decide_eq_true h33
  refine lN (L_25 x_w a1 c2) (wS h33) isAgg_25 sizeOf_25 b32 ?_
  refine pu (vp g6 0) (wS h33) ?_
  refine ld (vi x_w.Top) (wS h33) isAgg_3 b32 ?_
  refine cl (wS h33) (C_spec_l8Bit w3 _ x_w (mR_25 (r3.from0 m18) s4) x_w.Top (by first | assumption | omega) (by first | assumption | omega)) ?_
  rintro _ w4 ⟨k35, rfl⟩
  have m36 := m18.extk k35
  refine pu (vb (!(F_spec_l8Bit x_w x_w.Top))) (wS h33) ?_
  refine pk (vb (!(F_spec_l8Bit x_w x_w.Top))) wN h33 ?_
  refine wl_nil <| wq_then ?_
  rcases bf (F_spec_l8Bit x_w x_w.Top) with h37 | h37
  ·refine ct (congrArg not h37) ?_
   refine sr ?_
   refine ag (vb false) wN ?_
   refine wl_nil <| wq_then <| wc_ret <| wq_then_ret ?_
   refine ret_1 (.inl rfl) (vb false) rfl rfl ?_
   refine ⟨m36.keep0, ?_⟩
   have hF57 : sWin x_w = false := by first | (simp [sWin, h12, h16, h22, h33, h37]; done) | (have hz := allW_no (x := x_w.Bits) (k := i) (by omega) (by assumption); simp [sWin, h12, h16, h22, h33, h37, hz]; done) | (have hy := allW_all (x := x_w.Bits) (k := i) (by assumption) (by omega); simp [sWin, h12, h16, h22, h33, h37, hy]; done) | (have hy := allW_all (x := x_w.Bits) (k := i) (by assumption) (by omega); have hz := noneIn_f (f := F_spec_l8Bit x_w) (a := x_w.Top + 1) (b := 1024) (q := q) (by assumption) (by omega) (by omega); simp [sWin, h12, h16, h22, h33, h37, hy, hz]; done) | (have hy := allW_all (x := x_w.Bits) (k := i) (by assumption) (by omega); have hz := noneIn_t (f := F_spec_l8Bit x_w) (a := x_w.Top + 1) (b := 1024) (q := q) (by assumption) (by omega); simp [sWin, h12, h16, h22, h33, h37, hy, hz]; done)
   rw [hF57]
   exact rfl
  refine cf (congrArg not h37) ?_
  refine wc_skip <| wq_then <| wc_seq <| sr ?_
  refine pu (vp g6 0) wN ?_
  have b39 := (b32.kp k35)
  refine ld (vi x_w.Top) wN isAgg_3 b39 ?_
  refine ar (x_w.Top + 1) wN ?_
  refine ag (vi (x_w.Top + 1)) wN ?_
  refine wl_nil <| wq_then <| wc_block ?_
  refine wc_norm [(va (L_25 x_w a1 c2)), (vp g6 0), u2x, (vi ((i : Nat) : Int)), (vi (x_w.Top + 1)), (vp g6 1), (vs a1 x_w.Bits.length c2), (vi (x_w.Bits.length : Int)), (vb (!(decide ((x_w.Bits.length : Int) = 32)))), (vb (!(decide ((x_w.Bits.length : Int) = 32)))), (vp g6 0), (vi x_w.Top), (vb (F_spec_l1In x_w.Top (-1) 281474976710655)), (vb (!(F_spec_l1In x_w.Top (-1) 281474976710655))), (vb (!(F_spec_l1In x_w.Top (-1) 281474976710655))), (vi ((i : Nat) : Int)), (vb (decide (((i : Nat) : Int) < 32))), u17x, u18x, u19x, u20x, u21x, u22x, u23x, u24x, u25x, (vp g6 0), (vi x_w.Top), (vb (decide (0 ≤ x_w.Top))), (vb (decide (0 ≤ x_w.Top))), (va (L_25 x_w a1 c2)), (vp g6 0), (vi x_w.Top), (vb (F_spec_l8Bit x_w x_w.Top)), (vb (!(F_spec_l8Bit x_w x_w.Top))), (vb (!(F_spec_l8Bit x_w x_w.Top))), (vp g6 0), (vi x_w.Top), (vi (x_w.Top + 1)), U, U, U, U, U, U, U] rfl ⟨rfl, rfl, rfl, rfl, rfl, rfl, rfl, rfl, rfl, rfl, rfl, rfl, rfl, rfl, rfl, rfl, rfl, rfl, rfl, rfl, rfl, rfl, rfl, rfl, rfl, rfl, rfl, rfl, rfl, rfl, rfl, rfl, rfl, rfl, rfl, rfl, rfl, rfl, rfl, rfl, rfl, rfl, rfl, rfl, rfl, rfl, trivial⟩ ?_
  refine wc_loop (fun e' w' => ∃ (q : Int) (u2x u39x u40x u41x u42x u43x u44x u45x : Value), e' = lst [(va (L_25 x_w a1 c2)), (vp g6 0), u2x, (vi ((i : Nat) : Int)), (vi q), (vp g6 1), (vs a1 x_w.Bits.length c2), (vi (x_w.Bits.length : Int)), (vb (!(decide ((x_w.Bits.length : Int) = 32)))), (vb (!(decide ((x_w.Bits.length : Int) = 32)))), (vp g6 0), (vi x_w.Top), (vb (F_spec_l1In x_w.Top (-1) 281474976710655)), (vb (!(F_spec_l1In x_w.Top (-1) 281474976710655))), (vb (!(F_spec_l1In x_w.Top (-1) 281474976710655))), (vi ((i : Nat) : Int)), (vb (decide (((i : Nat) : Int) < 32))), u17x, u18x, u19x, u20x, u21x, u22x, u23x, u24x, u25x, (vp g6 0), (vi x_w.Top), (vb (decide (0 ≤ x_w.Top))), (vb (decide (0 ≤ x_w.Top))), (va (L_25 x_w a1 c2)), (vp g6 0), (vi x_w.Top), (vb (F_spec_l8Bit x_w x_w.Top)), (vb (!(F_spec_l8Bit x_w x_w.Top))), (vb (!(F_spec_l8Bit x_w x_w.Top))), (vp g6 0), (vi x_w.Top), (vi (x_w.Top + 1)), u39x, u40x, u41x, u42x, u43x, u44x, u45x] ∧ Ch (fun k => w0.heap.size ≤ k) w0 w' ∧ Ch (fun k => w4.heap.size ≤ k) w4 w' ∧ x_w.Top + 1 ≤ q ∧ q ≤ 281474976710656 ∧ ∀ m : Int, x_w.Top + 1 ≤ m → m < q → F_spec_l8Bit x_w m = false) (fun e' _ => (1024 - (intOf (e' 4))).toNat) ?_ ?_
  ·exact ⟨(x_w.Top + 1), u2x, U, U, U, U, U, U, U, rfl, m36, (Ch.refl (fun k => w4.heap.size ≤ k) w4), (by omega), (by omega), (by first | (intro m h1 h2; omega) | exact none_next (by assumption) (by assumption))⟩
  ·rintro _ w5 ⟨q, u2x, u39x, u40x, u41x, u42x, u43x, u44x, u45x, rfl, m40, k41, i42, i43, i44⟩
   refine wc_seq <| sr ?_
   refine mv (vi q) wN ?_
   refine pu (vb (decide (q < 1024))) wN ?_
   refine wl_nil <| wq_then ?_
   rcases bf (decide (q < 1024)) with h45 | h45
   ·have q54 := of_decide_eq_false h45
    refine cf h45 ?_
    refine wc_exit <| wq_then_exit <| wq_then_exit <| wq_blk_exit <| wq_then <| sr ?_
    refine ag (vb true) wN ?_
    refine wl_nil <| wq_then <| wc_ret ?_
    refine ret_1 (.inl rfl) (vb true) rfl rfl ?_
    refine ⟨m40.keep0, ?_⟩
    have hF55 : sWin x_w = true := by first | (simp [sWin, h12, h16, h22, h33, h37, h45]; done) | (have hz := allW_no (x := x_w.Bits) (k := i) (by omega) (by assumption); simp [sWin, h12, h16, h22, h33, h37, h45, hz]; done) | (have hy := allW_all (x := x_w.Bits) (k := i) (by assumption) (by omega); simp [sWin, h12, h16, h22, h33, h37, h45, hy]; done) | (have hy := allW_all (x := x_w.Bits) (k := i) (by assumption) (by omega); have hz := noneIn_f (f := F_spec_l8Bit x_w) (a := x_w.Top + 1) (b := 1024) (q := q) (by assumption) (by omega) (by omega); simp [sWin, h12, h16, h22, h33, h37, h45, hy, hz]; done) | (have hy := allW_all (x := x_w.Bits) (k := i) (by assumption) (by omega); have hz := noneIn_t (f := F_spec_l8Bit x_w) (a := x_w.Top + 1) (b := 1024) (q := q) (by assumption) (by omega); simp [sWin, h12, h16, h22, h33, h37, h45, hy, hz]; done)
    rw [hF55]
    exact rfl
   have q46 := of_decide_eq_true h45
   refine ct h45 ?_
   refine wc_skip <| wq_then <| wc_seq <| wc_block <| sr ?_
   have b47 := (b39.ch k41 (Nat.not_le.2 (Nat.lt_of_lt_of_le p8 (Nat.le_trans (Nat.le_trans k14.size k19.size) k35.size))))
   refine lN (L_25 x_w a1 c2) wN isAgg_25 sizeOf_25 b47 ?_
   refine mv (vi q) wN ?_
   refine cl wN (C_spec_l8Bit w5 _ x_w (mR_25 (r3.from0 m40) s4) q (by first | assumption | omega) (by first | assumption | omega)) ?_
   rintro _ w6 ⟨k48, rfl⟩
   have m49 := m40.extk k48
   refine wl_nil <| wq_then ?_
   rcases bt (F_spec_l8Bit x_w q) with h50 | h50
   ·refine ct h50 ?_
    refine sr ?_
    refine ag (vb false) wN ?_
    refine wl_nil <| wq_then <| wc_ret <| wq_blk_ret <| wq_then_ret <| wq_then_ret <| wq_blk_ret <| wq_then_ret ?_
    refine ret_1 (.inl rfl) (vb false) rfl rfl ?_
    refine ⟨m49.keep0, ?_⟩
    have hF52 : sWin x_w = false := by first | (simp [sWin, h12, h16, h22, h33, h37, h45, h50]; done) | (have hz := allW_no (x := x_w.Bits) (k := i) (by omega) (by assumption); simp [sWin, h12, h16, h22, h33, h37, h45, h50, hz]; done) | (have hy := allW_all (x := x_w.Bits) (k := i) (by assumption) (by omega); simp [sWin, h12, h16, h22, h33, h37, h45, h50, hy]; done) | (have hy := allW_all (x := x_w.Bits) (k := i) (by assumption) (by omega); have hz := noneIn_f (f := F_spec_l8Bit x_w) (a := x_w.Top + 1) (b := 1024) (q := q) (by assumption) (by omega) (by omega); simp [sWin, h12, h16, h22, h33, h37, h45, h50, hy, hz]; done) | (have hy := allW_all (x := x_w.Bits) (k := i) (by assumption) (by omega); have hz := noneIn_t (f := F_spec_l8Bit x_w) (a := x_w.Top + 1) (b := 1024) (q := q) (by assumption) (by omega); simp [sWin, h12, h16, h22, h33, h37, h45, h50, hy, hz]; done)
    rw [hF52]
    exact rfl
   refine cf h50 ?_
   refine wc_skip <| wq_blk_normal <| wq_then <| wc_region ?_
   refine mv (vi q) wN ?_
   refine ar (q + 1) wN ?_
   refine ag (vi (q + 1)) wN ?_
   refine wl_nil ?_
   refine wq_loopN (w0 := w5) [(va (L_25 x_w a1 c2)), (vp g6 0), u2x, (vi ((i : Nat) : Int)), (vi (q + 1)), (vp g6 1), (vs a1 x_w.Bits.length c2), (vi (x_w.Bits.length : Int)), (vb (!(decide ((x_w.Bits.length : Int) = 32)))), (vb (!(decide ((x_w.Bits.length : Int) = 32)))), (vp g6 0), (vi x_w.Top), (vb (F_spec_l1In x_w.Top (-1) 281474976710655)), (vb (!(F_spec_l1In x_w.Top (-1) 281474976710655))), (vb (!(F_spec_l1In x_w.Top (-1) 281474976710655))), (vi ((i : Nat) : Int)), (vb (decide (((i : Nat) : Int) < 32))), u17x, u18x, u19x, u20x, u21x, u22x, u23x, u24x, u25x, (vp g6 0), (vi x_w.Top), (vb (decide (0 ≤ x_w.Top))), (vb (decide (0 ≤ x_w.Top))), (va (L_25 x_w a1 c2)), (vp g6 0), (vi x_w.Top), (vb (F_spec_l8Bit x_w x_w.Top)), (vb (!(F_spec_l8Bit x_w x_w.Top))), (vb (!(F_spec_l8Bit x_w x_w.Top))), (vp g6 0), (vi x_w.Top), (vi (x_w.Top + 1)), (vi q), (vb (decide (q < 1024))), (vi q), (vi (q + 1)), (va (L_25 x_w a1 c2)), (vi q), (vb (F_spec_l8Bit x_w q))] rfl ?_ ?_ ?_
   · exact ⟨rfl, rfl, rfl, rfl, rfl, rfl, rfl, rfl, rfl, rfl, rfl, rfl, rfl, rfl, rfl, rfl, rfl, rfl, rfl, rfl, rfl, rfl, rfl, rfl, rfl, rfl, rfl, rfl, rfl, rfl, rfl, rfl, rfl, rfl, rfl, rfl, rfl, rfl, rfl, rfl, rfl, rfl, rfl, rfl, rfl, rfl, trivial⟩
   · exact ⟨(q + 1), u2x, (vi q), (vb (decide (q < 1024))), (vi q), (vi (q + 1)), (va (L_25 x_w a1 c2)), (vi q), (vb (F_spec_l8Bit x_w q)), rfl, m49, (((Ch.refl (fun k => w4.heap.size ≤ k) w4).ext k41 (fun k hk => Nat.le_trans (Nat.le_refl _) hk)).extk k48), (by omega), (by omega), (by first | (intro m h1 h2; omega) | exact none_next (by assumption) (by assumption))⟩
   · show (1024 - (q + 1)).toNat < (1024 - q).toNat; omega

def R_27 (w : World) (v : Value) (x : (PEp)) : Prop := ∃ (a1 : Option Addr) (c1 : Nat) (a2 : Option Addr) (c2 : Nat), v = .agg #[.int .i64 x.N, .slice a1 x.Key.length c1, .int .i64 x.Seq, .int .i64 x.Win.Top, .slice a2 x.Win.Bits.length c2] ∧ Rd w 1 (.slice a1 x.Key.length c1) x.Key.length (x.Key.map bV) ∧ x.Key.length ≤ 1073741824 ∧ Rd w 1 (.slice a2 x.Win.Bits.length c2) x.Win.Bits.length (x.Win.Bits.map iV) ∧ x.Win.Bits.length ≤ 1073741824
def F_spec_EpOk (x_e : PEp) : (Bool) := bif (F_spec_l1In x_e.N 0 4294967295) then (bif (decide ((x_e.Key.length : Int) = 32)) then (bif (F_spec_l1In x_e.Seq 0 281474976710656) then ((sWin x_e.Win)) else (false)) else (false)) else (false)
theorem C_spec_EpOk (w0 : World) (v_x_e : Value) (x_e : PEp) (r_x_e : R_27 w0 v_x_e x_e)  : Fn Try.prog 76 #[v_x_e] w0 (fun v w' => Keep w0 w' ∧ O_4 w' w0.heap.size v (F_spec_EpOk x_e)) := by
 obtain ⟨a1, c2, a6, c7, rfl, r3, s4, r8, s9⟩ := r_x_e
 refine fn_of (n := 22) (l := [(va (L_27 x_e a1 c2 a6 c7)), U, U, U, U, U, U, U, U, U, U, U, U, U, U, U, U, U, U, U, U, U]) Try.func76 rfl rfl (by kernel_rfl) rfl ?_
 refine sr ?_
 refine bx (L_27 x_e a1 c2 a6 c7) wN ?_
 intro g11 w1 p12 p13 k14 b15
 have m16 := (Ch.base w0).extk k14
 refine ag (vb false) wN ?_
 refine nx ?_
 refine pu (vp g11 0) wN ?_
 refine ld (vi x_e.N) wN isAgg_3 b15 ?_
 refine cl wN (C_spec_l1In w1 x_e.N 0 4294967295) ?_
 rintro _ w2 ⟨k17, rfl⟩
 have m18 := m16.extk k17
 refine mv (vb (F_spec_l1In x_e.N 0 4294967295)) wN ?_
 rcases bf (F_spec_l1In x_e.N 0 4294967295) with h19 | h19
 ·have q36 := spec_l1In_f h19
  refine sk h19 ?_
  refine sk h19 ?_
  refine sk h19 ?_
  refine sk h19 ?_
  refine pf (vb false) wN h19 ?_
  refine mv (vb false) wN ?_
  refine sk (Eq.refl false) ?_
  refine sk (Eq.refl false) ?_
  refine sk (Eq.refl false) ?_
  refine pf (vb false) wN (Eq.refl false) ?_
  refine mv (vb false) wN ?_
  refine sk (Eq.refl false) ?_
  refine sk (Eq.refl false) ?_
  refine sk (Eq.refl false) ?_
  refine pf (vb false) wN (Eq.refl false) ?_
  refine ag (vb false) wN ?_
  refine wl_nil <| wq_then <| wc_ret ?_
  refine ret_1 (.inl rfl) (vb false) rfl rfl ?_
  refine ⟨m18.keep0, ?_⟩
  have hF37 : F_spec_EpOk x_e = false := by simp only [F_spec_EpOk, h19, cond_true, cond_false]
  rw [hF37]
  exact rfl
 have q20 := spec_l1In_t h19
 refine pu (vp g11 1) (wS h19) ?_
 have b21 := (b15.kp k17)
 refine ld (vs a1 x_e.Key.length c2) (wS h19) isAgg_22 b21 ?_
 refine ln (wS h19) slTy_22 (r3.from0 m18) ?_
 refine pu (vb (decide ((x_e.Key.length : Int) = 32))) (wS h19) ?_
 refine pk (vb (decide ((x_e.Key.length : Int) = 32))) wN h19 ?_
 refine mv (vb (decide ((x_e.Key.length : Int) = 32))) wN ?_
 rcases bf (decide ((x_e.Key.length : Int) = 32)) with h22 | h22
 ·have q34 := of_decide_eq_false h22
  refine sk h22 ?_
  refine sk h22 ?_
  refine sk h22 ?_
  refine pf (vb false) wN h22 ?_
  refine mv (vb false) wN ?_
  refine sk (Eq.refl false) ?_
  refine sk (Eq.refl false) ?_
  refine sk (Eq.refl false) ?_
  refine pf (vb false) wN (Eq.refl false) ?_
  refine ag (vb false) wN ?_
  refine wl_nil <| wq_then <| wc_ret ?_
  refine ret_1 (.inl rfl) (vb false) rfl rfl ?_
  refine ⟨m18.keep0, ?_⟩
  have hF35 : F_spec_EpOk x_e = false := by simp only [F_spec_EpOk, h19, h22, cond_true, cond_false]
  rw [hF35]
  exact rfl
 have q23 := of_decide_eq_true h22
 refine pu (vp g11 2) (wS h22) ?_
 refine ld (vi x_e.Seq) (wS h22) isAgg_3 b21 ?_
 refine cl (wS h22) (C_spec_l1In w2 x_e.Seq 0 281474976710656) ?_
 rintro _ w3 ⟨k24, rfl⟩
 have m25 := m18.extk k24
 refine pk (vb (F_spec_l1In x_e.Seq 0 281474976710656)) wN h22 ?_
 refine mv (vb (F_spec_l1In x_e.Seq 0 281474976710656)) wN ?_
 rcases bf (F_spec_l1In x_e.Seq 0 281474976710656) with h26 | h26
 ·have q32 := spec_l1In_f h26
  refine sk h26 ?_
  refine sk h26 ?_
  refine sk h26 ?_
  refine pf (vb false) wN h26 ?_
  refine ag (vb false) wN ?_
  refine wl_nil <| wq_then <| wc_ret ?_
  refine ret_1 (.inl rfl) (vb false) rfl rfl ?_
  refine ⟨m25.keep0, ?_⟩
  have hF33 : F_spec_EpOk x_e = false := by simp only [F_spec_EpOk, h19, h22, h26, cond_true, cond_false]
  rw [hF33]
  exact rfl
 have q27 := spec_l1In_t h26
 refine pu (vp g11 3) (wS h26) ?_
 have b28 := (b21.kp k24)
 refine lN (L_25 x_e.Win a6 c7) (wS h26) isAgg_25 sizeOf_25 b28 ?_
 refine cl (wS h26) (C_spec_WinOk w3 _ x_e.Win (mR_25 (r8.from0 m25) s9)) ?_
 rintro _ w4 ⟨k29, rfl⟩
 have m30 := m25.extk k29
 refine pk (vb (sWin x_e.Win)) wN h26 ?_
 refine ag (vb (sWin x_e.Win)) wN ?_
 refine wl_nil <| wq_then <| wc_ret ?_
 refine ret_1 (.inl rfl) (vb (sWin x_e.Win)) rfl rfl ?_
 refine ⟨m30.keep0, ?_⟩
 have hF31 : F_spec_EpOk x_e = (sWin x_e.Win) := by simp only [F_spec_EpOk, h19, h22, h26, cond_true, cond_false]
 rw [hF31]
 exact rfl
theorem spec_EpOk_t {e : PEp} (h : F_spec_EpOk e = true) : 0 ≤ e.N ∧ e.N ≤ 4294967295 ∧ (e.Key.length : Int) = 32 := by
  cases h1 : F_spec_l1In e.N 0 4294967295 with
  | false => simp [F_spec_EpOk, h1] at h
  | true =>
    have := spec_l1In_t h1
    by_cases h2 : (e.Key.length : Int) = 32
    · exact ⟨this.1, this.2, h2⟩
    · simp [F_spec_EpOk, h1, h2] at h

def F_spec_l14None (x_e : PEp) : (Bool) := bif (decide (x_e.N = 0)) then (bif (decide ((x_e.Key.length : Int) = 0)) then (bif (decide (x_e.Seq = 0)) then (bif (decide (x_e.Win.Top = 0)) then (decide ((x_e.Win.Bits.length : Int) = 0)) else (false)) else (false)) else (false)) else (false)
theorem C_spec_l14None (w0 : World) (v_x_e : Value) (x_e : PEp) (r_x_e : R_27 w0 v_x_e x_e)  : Fn Try.prog 77 #[v_x_e] w0 (fun v w' => Keep w0 w' ∧ O_4 w' w0.heap.size v (F_spec_l14None x_e)) := by
 obtain ⟨a1, c2, a6, c7, rfl, r3, s4, r8, s9⟩ := r_x_e
 refine fn_of (n := 30) (l := [(va (L_27 x_e a1 c2 a6 c7)), U, U, U, U, U, U, U, U, U, U, U, U, U, U, U, U, U, U, U, U, U, U, U, U, U, U, U, U, U]) Try.func77 rfl rfl (by kernel_rfl) rfl ?_
 refine sr ?_
 refine bx (L_27 x_e a1 c2 a6 c7) wN ?_
 intro g11 w1 p12 p13 k14 b15
 have m16 := (Ch.base w0).extk k14
 refine ag (vb false) wN ?_
 refine nx ?_
 refine pu (vp g11 0) wN ?_
 refine ld (vi x_e.N) wN isAgg_3 b15 ?_
 refine pu (vb (decide (x_e.N = 0))) wN ?_
 refine mv (vb (decide (x_e.N = 0))) wN ?_
 rcases bf (decide (x_e.N = 0)) with h17 | h17
 ·have q32 := of_decide_eq_false h17
  refine sk h17 ?_
  refine sk h17 ?_
  refine sk h17 ?_
  refine sk h17 ?_
  refine pf (vb false) wN h17 ?_
  refine mv (vb false) wN ?_
  refine sk (Eq.refl false) ?_
  refine sk (Eq.refl false) ?_
  refine sk (Eq.refl false) ?_
  refine pf (vb false) wN (Eq.refl false) ?_
  refine mv (vb false) wN ?_
  refine sk (Eq.refl false) ?_
  refine sk (Eq.refl false) ?_
  refine sk (Eq.refl false) ?_
  refine sk (Eq.refl false) ?_
  refine pf (vb false) wN (Eq.refl false) ?_
  refine mv (vb false) wN ?_
  refine sk (Eq.refl false) ?_
  refine sk (Eq.refl false) ?_
  refine sk (Eq.refl false) ?_
  refine sk (Eq.refl false) ?_
  refine sk (Eq.refl false) ?_
  refine pf (vb false) wN (Eq.refl false) ?_
  refine ag (vb false) wN ?_
  refine wl_nil <| wq_then <| wc_ret ?_
  refine ret_1 (.inl rfl) (vb false) rfl rfl ?_
  refine ⟨m16.keep0, ?_⟩
  have hF33 : F_spec_l14None x_e = false := by simp only [F_spec_l14None, h17, cond_true, cond_false]
  rw [hF33]
  exact rfl
 have q18 := of_decide_eq_true h17
 refine pu (vp g11 1) (wS h17) ?_
 refine ld (vs a1 x_e.Key.length c2) (wS h17) isAgg_22 b15 ?_
 refine ln (wS h17) slTy_22 (r3.from0 m16) ?_
 refine pu (vb (decide ((x_e.Key.length : Int) = 0))) (wS h17) ?_
 refine pk (vb (decide ((x_e.Key.length : Int) = 0))) wN h17 ?_
 refine mv (vb (decide ((x_e.Key.length : Int) = 0))) wN ?_
 rcases bf (decide ((x_e.Key.length : Int) = 0)) with h19 | h19
 ·have q30 := of_decide_eq_false h19
  refine sk h19 ?_
  refine sk h19 ?_
  refine sk h19 ?_
  refine pf (vb false) wN h19 ?_
  refine mv (vb false) wN ?_
  refine sk (Eq.refl false) ?_
  refine sk (Eq.refl false) ?_
  refine sk (Eq.refl false) ?_
  refine sk (Eq.refl false) ?_
  refine pf (vb false) wN (Eq.refl false) ?_
  refine mv (vb false) wN ?_
  refine sk (Eq.refl false) ?_
  refine sk (Eq.refl false) ?_
  refine sk (Eq.refl false) ?_
  refine sk (Eq.refl false) ?_
  refine sk (Eq.refl false) ?_
  refine pf (vb false) wN (Eq.refl false) ?_
  refine ag (vb false) wN ?_
  refine wl_nil <| wq_then <| wc_ret ?_
  refine ret_1 (.inl rfl) (vb false) rfl rfl ?_
  refine ⟨m16.keep0, ?_⟩
  have hF31 : F_spec_l14None x_e = false := by simp only [F_spec_l14None, h17, h19, cond_true, cond_false]
  rw [hF31]
  exact rfl
 have q20 := of_decide_eq_true h19
 refine pu (vp g11 2) (wS h19) ?_
 refine ld (vi x_e.Seq) (wS h19) isAgg_3 b15 ?_
 refine pu (vb (decide (x_e.Seq = 0))) (wS h19) ?_
 refine pk (vb (decide (x_e.Seq = 0))) wN h19 ?_
 refine mv (vb (decide (x_e.Seq = 0))) wN ?_
 rcases bf (decide (x_e.Seq = 0)) with h21 | h21
 ·have q28 := of_decide_eq_false h21
  refine sk h21 ?_
  refine sk h21 ?_
  refine sk h21 ?_
  refine sk h21 ?_
  refine pf (vb false) wN h21 ?_
  refine mv (vb false) wN ?_
  refine sk (Eq.refl false) ?_
  refine sk (Eq.refl false) ?_
  refine sk (Eq.refl false) ?_
  refine sk (Eq.refl false) ?_
  refine sk (Eq.refl false) ?_
  refine pf (vb false) wN (Eq.refl false) ?_
  refine ag (vb false) wN ?_
  refine wl_nil <| wq_then <| wc_ret ?_
  refine ret_1 (.inl rfl) (vb false) rfl rfl ?_
  refine ⟨m16.keep0, ?_⟩
  have hF29 : F_spec_l14None x_e = false := by simp only [F_spec_l14None, h17, h19, h21, cond_true, cond_false]
  rw [hF29]
  exact rfl
 have q22 := of_decide_eq_true h21
 refine pu (vp g11 3) (wS h21) ?_
 refine pu (vp g11 3) (wS h21) ?_
 refine ld (vi x_e.Win.Top) (wS h21) isAgg_3 b15 ?_
 refine pu (vb (decide (x_e.Win.Top = 0))) (wS h21) ?_
 refine pk (vb (decide (x_e.Win.Top = 0))) wN h21 ?_
 refine mv (vb (decide (x_e.Win.Top = 0))) wN ?_
 rcases bf (decide (x_e.Win.Top = 0)) with h23 | h23
 ·have q26 := of_decide_eq_false h23
  refine sk h23 ?_
  refine sk h23 ?_
  refine sk h23 ?_
  refine sk h23 ?_
  refine sk h23 ?_
  refine pf (vb false) wN h23 ?_
  refine ag (vb false) wN ?_
  refine wl_nil <| wq_then <| wc_ret ?_
  refine ret_1 (.inl rfl) (vb false) rfl rfl ?_
  refine ⟨m16.keep0, ?_⟩
  have hF27 : F_spec_l14None x_e = false := by simp only [F_spec_l14None, h17, h19, h21, h23, cond_true, cond_false]
  rw [hF27]
  exact rfl
 have q24 := of_decide_eq_true h23
 refine pu (vp g11 3) (wS h23) ?_
 refine pu (vp g11 4) (wS h23) ?_
 refine ld (vs a6 x_e.Win.Bits.length c7) (wS h23) isAgg_23 b15 ?_
 refine ln (wS h23) slTy_23 (r8.from0 m16) ?_
 refine pu (vb (decide ((x_e.Win.Bits.length : Int) = 0))) (wS h23) ?_
 refine pk (vb (decide ((x_e.Win.Bits.length : Int) = 0))) wN h23 ?_
 refine ag (vb (decide ((x_e.Win.Bits.length : Int) = 0))) wN ?_
 refine wl_nil <| wq_then <| wc_ret ?_
 refine ret_1 (.inl rfl) (vb (decide ((x_e.Win.Bits.length : Int) = 0))) rfl rfl ?_
 refine ⟨m16.keep0, ?_⟩
 have hF25 : F_spec_l14None x_e = decide ((x_e.Win.Bits.length : Int) = 0) := by simp only [F_spec_l14None, h17, h19, h21, h23, cond_true, cond_false]
 rw [hF25]
 exact rfl

def R_29 (w : World) (v : Value) (x : (PChan)) : Prop := ∃ (a1 : Option Addr) (c1 : Nat) (a2 : Option Addr) (c2 : Nat) (a3 : Option Addr) (c3 : Nat) (a4 : Option Addr) (c4 : Nat) (a5 : Option Addr) (c5 : Nat) (a6 : Option Addr) (c6 : Nat), v = .agg #[.int .i64 x.Role, .slice a1 x.Sn.length c1, .int .i64 x.Cur.N, .slice a2 x.Cur.Key.length c2, .int .i64 x.Cur.Seq, .int .i64 x.Cur.Win.Top, .slice a3 x.Cur.Win.Bits.length c3, .int .i64 x.Old.N, .slice a4 x.Old.Key.length c4, .int .i64 x.Old.Seq, .int .i64 x.Old.Win.Top, .slice a5 x.Old.Win.Bits.length c5, .bool x.HasOld, .int .i64 x.Until, .slice a6 x.Next.length c6] ∧ Rd w 1 (.slice a1 x.Sn.length c1) x.Sn.length (x.Sn.map bV) ∧ x.Sn.length ≤ 1073741824 ∧ Rd w 1 (.slice a2 x.Cur.Key.length c2) x.Cur.Key.length (x.Cur.Key.map bV) ∧ x.Cur.Key.length ≤ 1073741824 ∧ Rd w 1 (.slice a3 x.Cur.Win.Bits.length c3) x.Cur.Win.Bits.length (x.Cur.Win.Bits.map iV) ∧ x.Cur.Win.Bits.length ≤ 1073741824 ∧ Rd w 1 (.slice a4 x.Old.Key.length c4) x.Old.Key.length (x.Old.Key.map bV) ∧ x.Old.Key.length ≤ 1073741824 ∧ Rd w 1 (.slice a5 x.Old.Win.Bits.length c5) x.Old.Win.Bits.length (x.Old.Win.Bits.map iV) ∧ x.Old.Win.Bits.length ≤ 1073741824 ∧ Rd w 1 (.slice a6 x.Next.length c6) x.Next.length (x.Next.map bV) ∧ x.Next.length ≤ 1073741824
theorem mR_27 {w : World} {x : PEp} {a1 : Option Addr} {c1 : Nat} {a2 : Option Addr} {c2 : Nat} (h1 : Rd w 1 (.slice a1 x.Key.length c1) x.Key.length (x.Key.map bV)) (l1 : x.Key.length ≤ 1073741824) (h2 : Rd w 1 (.slice a2 x.Win.Bits.length c2) x.Win.Bits.length (x.Win.Bits.map iV)) (l2 : x.Win.Bits.length ≤ 1073741824) : R_27 w (va (L_27 x a1 c1 a2 c2)) x := ⟨_, _, _, _, rfl, h1, l1, h2, l2⟩
def F_spec_ChanOk (x_c : PChan) : (Bool) := bif (F_spec_l1In x_c.Role 0 1) then (bif (decide ((x_c.Sn.length : Int) = 12)) then (bif (F_spec_EpOk x_c.Cur) then (bif x_c.HasOld then (bif (decide (x_c.Role = 0)) then (bif (F_spec_EpOk x_c.Old) then (bif (decide (x_c.Old.N = (x_c.Cur.N - 1))) then (bif (F_spec_l1In x_c.Until 0 1000005) then (bif (decide ((x_c.Next.length : Int) = 0)) then (true) else (bif (decide ((x_c.Next.length : Int) = 32)) then (decide (x_c.Cur.N < 4294967295)) else (false))) else (false)) else (false)) else (false)) else (bif (F_spec_EpOk x_c.Old) then (bif (decide (x_c.Old.N = (x_c.Cur.N - 1))) then (bif (F_spec_l1In x_c.Until (-1) 1000005) then (bif (decide ((x_c.Next.length : Int) = 0)) then (true) else (false)) else (false)) else (false)) else (false))) else (bif (F_spec_l14None x_c.Old) then (bif (decide (x_c.Until = 0)) then (bif (decide ((x_c.Next.length : Int) = 0)) then (true) else (bif (decide (x_c.Role = 0)) then (bif (decide ((x_c.Next.length : Int) = 32)) then (decide (x_c.Cur.N < 4294967295)) else (false)) else (false))) else (false)) else (false))) else (false)) else (false)) else (false)
theorem C_spec_ChanOk (w0 : World) (v_x_c : Value) (x_c : PChan) (r_x_c : R_29 w0 v_x_c x_c)  : Fn Try.prog 24 #[v_x_c] w0 (fun v w' => Keep w0 w' ∧ O_4 w' w0.heap.size v (F_spec_ChanOk x_c)) := by
 obtain ⟨a1, c2, a6, c7, a11, c12, a16, c17, a21, c22, a26, c27, rfl, r3, s4, r8, s9, r13, s14, r18, s19, r23, s24, r28, s29⟩ := r_x_c
 refine fn_of (n := 74) (l := [(va (L_29 x_c a1 c2 a6 c7 a11 c12 a16 c17 a21 c22 a26 c27)), U, U, U, U, U, U, U, U, U, U, U, U, U, U, U, U, U, U, U, U, U, U, U, U, U, U, U, U, U, U, U, U, U, U, U, U, U, U, U, U, U, U, U, U, U, U, U, U, U, U, U, U, U, U, U, U, U, U, U, U, U, U, U, U, U, U, U, U, U, U, U, U, U]) Try.func24 rfl rfl (by kernel_rfl) rfl ?_
 refine sr ?_
 refine bx (L_29 x_c a1 c2 a6 c7 a11 c12 a16 c17 a21 c22 a26 c27) wN ?_
 intro g31 w1 p32 p33 k34 b35
 have m36 := (Ch.base w0).extk k34
 refine ag (vb false) wN ?_
 refine wl_nil <| wq_then <| wc_seq <| sr ?_
 refine pu (vp g31 0) wN ?_
 refine ld (vi x_c.Role) wN isAgg_3 b35 ?_
 refine cl wN (C_spec_l1In w1 x_c.Role 0 1) ?_
 rintro _ w2 ⟨k37, rfl⟩
 have m38 := m36.extk k37
 refine pu (vb (!(F_spec_l1In x_c.Role 0 1))) wN ?_
 refine mv (vb (!(F_spec_l1In x_c.Role 0 1))) wN ?_
 rcases bf (F_spec_l1In x_c.Role 0 1) with h39 | h39
 ·have q133 := spec_l1In_f h39
  refine sk (congrArg not h39) ?_
  refine sk (congrArg not h39) ?_
  refine sk (congrArg not h39) ?_
  refine sk (congrArg not h39) ?_
  refine pk (vb true) wN (congrArg not h39) ?_
  refine mv (vb true) wN ?_
  refine sk (Eq.refl true) ?_
  refine sk (Eq.refl true) ?_
  refine sk (Eq.refl true) ?_
  refine sk (Eq.refl true) ?_
  refine pk (vb true) wN (Eq.refl true) ?_
  refine wl_nil <| wq_then ?_
  refine ct (Eq.refl true) ?_
  refine sr ?_
  refine ag (vb false) wN ?_
  refine wl_nil <| wq_then <| wc_ret <| wq_then_ret ?_
  refine ret_1 (.inl rfl) (vb false) rfl rfl ?_
  refine ⟨m38.keep0, ?_⟩
  have hF134 : F_spec_ChanOk x_c = false := by simp only [F_spec_ChanOk, h39, cond_true, cond_false]
  rw [hF134]
  exact rfl
 have q40 := spec_l1In_t h39
 refine pu (vp g31 1) (wS (congrArg not h39)) ?_
 have b41 := (b35.kp k37)
 refine ld (vs a1 x_c.Sn.length c2) (wS (congrArg not h39)) isAgg_22 b41 ?_
 refine ln (wS (congrArg not h39)) slTy_22 (r3.from0 m38) ?_
 refine pu (vb (!(decide ((x_c.Sn.length : Int) = 12)))) (wS (congrArg not h39)) ?_
 refine pf (vb (!(decide ((x_c.Sn.length : Int) = 12)))) wN (congrArg not h39) ?_
 refine mv (vb (!(decide ((x_c.Sn.length : Int) = 12)))) wN ?_
 rcases bf (decide ((x_c.Sn.length : Int) = 12)) with h42 | h42
 ·have q131 := of_decide_eq_false h42
  refine sk (congrArg not h42) ?_
  refine sk (congrArg not h42) ?_
  refine sk (congrArg not h42) ?_
  refine sk (congrArg not h42) ?_
  refine pk (vb true) wN (congrArg not h42) ?_
  refine wl_nil <| wq_then ?_
  refine ct (Eq.refl true) ?_
  refine sr ?_
  refine ag (vb false) wN ?_
  refine wl_nil <| wq_then <| wc_ret <| wq_then_ret ?_
  refine ret_1 (.inl rfl) (vb false) rfl rfl ?_
  refine ⟨m38.keep0, ?_⟩
  have hF132 : F_spec_ChanOk x_c = false := by simp only [F_spec_ChanOk, h39, h42, cond_true, cond_false]
  rw [hF132]
  exact rfl
 have q43 := of_decide_eq_true h42
 refine pu (vp g31 2) (wS (congrArg not h42)) ?_
 refine lN (L_27 x_c.Cur a6 c7 a11 c12) (wS (congrArg not h42)) isAgg_27 sizeOf_27 b41 ?_
 refine cl (wS (congrArg not h42)) (C_spec_EpOk w2 _ x_c.Cur (mR_27 (r8.from0 m38) s9 (r13.from0 m38) s14)) ?_
 rintro _ w3 ⟨k44, rfl⟩
 have m45 := m38.extk k44
 refine pu (vb (!(F_spec_EpOk x_c.Cur))) (wS (congrArg not h42)) ?_
 refine pf (vb (!(F_spec_EpOk x_c.Cur))) wN (congrArg not h42) ?_
 refine wl_nil <| wq_then ?_
 rcases bf (F_spec_EpOk x_c.Cur) with h46 | h46
 ·refine ct (congrArg not h46) ?_
  refine sr ?_
  refine ag (vb false) wN ?_
  refine wl_nil <| wq_then <| wc_ret <| wq_then_ret ?_
  refine ret_1 (.inl rfl) (vb false) rfl rfl ?_
  refine ⟨m45.keep0, ?_⟩
  have hF130 : F_spec_ChanOk x_c = false := by simp only [F_spec_ChanOk, h39, h42, h46, cond_true, cond_false]
  rw [hF130]
  exact rfl
 have q47 := spec_EpOk_t h46
 refine cf (congrArg not h46) ?_
 refine wc_skip <| wq_then <| wc_seq <| sr ?_
 refine pu (vp g31 12) wN ?_
 have b48 := (b41.kp k44)
 refine ld (vb x_c.HasOld) wN isAgg_4 b48 ?_
 refine wl_nil <| wq_then ?_
 rcases bf x_c.HasOld with h49 | h49
 ·refine cf h49 ?_
  refine sr ?_
  refine pu (vp g31 7) wN ?_
  refine lN (L_27 x_c.Old a16 c17 a21 c22) wN isAgg_27 sizeOf_27 b48 ?_
  refine cl wN (C_spec_l14None w3 _ x_c.Old (mR_27 (r18.from0 m45) s19 (r23.from0 m45) s24)) ?_
  rintro _ w4 ⟨k105, rfl⟩
  have m106 := m45.extk k105
  refine pu (vb (!(F_spec_l14None x_c.Old))) wN ?_
  refine mv (vb (!(F_spec_l14None x_c.Old))) wN ?_
  rcases bf (F_spec_l14None x_c.Old) with h107 | h107
  ·refine sk (congrArg not h107) ?_
   refine sk (congrArg not h107) ?_
   refine sk (congrArg not h107) ?_
   refine pk (vb true) wN (congrArg not h107) ?_
   refine wl_nil <| wq_then ?_
   refine ct (Eq.refl true) ?_
   refine sr ?_
   refine ag (vb false) wN ?_
   refine wl_nil <| wq_then <| wc_ret <| wq_then_ret ?_
   refine ret_1 (.inl rfl) (vb false) rfl rfl ?_
   refine ⟨m106.keep0, ?_⟩
   have hF128 : F_spec_ChanOk x_c = false := by simp only [F_spec_ChanOk, h39, h42, h46, h49, h107, cond_true, cond_false]
   rw [hF128]
   exact rfl
  refine pu (vp g31 13) (wS (congrArg not h107)) ?_
  have b109 := (b48.kp k105)
  refine ld (vi x_c.Until) (wS (congrArg not h107)) isAgg_3 b109 ?_
  refine pu (vb (!(decide (x_c.Until = 0)))) (wS (congrArg not h107)) ?_
  refine pf (vb (!(decide (x_c.Until = 0)))) wN (congrArg not h107) ?_
  refine wl_nil <| wq_then ?_
  rcases bf (decide (x_c.Until = 0)) with h110 | h110
  ·have q125 := of_decide_eq_false h110
   refine ct (congrArg not h110) ?_
   refine sr ?_
   refine ag (vb false) wN ?_
   refine wl_nil <| wq_then <| wc_ret <| wq_then_ret ?_
   refine ret_1 (.inl rfl) (vb false) rfl rfl ?_
   refine ⟨m106.keep0, ?_⟩
   have hF126 : F_spec_ChanOk x_c = false := by simp only [F_spec_ChanOk, h39, h42, h46, h49, h107, h110, cond_true, cond_false]
   rw [hF126]
   exact rfl
  have q111 := of_decide_eq_true h110
  refine cf (congrArg not h110) ?_
  refine wc_skip <| wq_then <| wc_seq <| sr ?_
  refine pu (vp g31 14) wN ?_
  refine ld (vs a26 x_c.Next.length c27) wN isAgg_22 b109 ?_
  refine ln wN slTy_22 (r28.from0 m106) ?_
  refine pu (vb (decide ((x_c.Next.length : Int) = 0))) wN ?_
  refine wl_nil <| wq_then ?_
  rcases bt (decide ((x_c.Next.length : Int) = 0)) with h112 | h112
  ·have q113 := of_decide_eq_true h112
   refine ct h112 ?_
   refine sr ?_
   refine ag (vb true) wN ?_
   refine wl_nil <| wq_then <| wc_ret <| wq_then_ret ?_
   refine ret_1 (.inl rfl) (vb true) rfl rfl ?_
   refine ⟨m106.keep0, ?_⟩
   have hF114 : F_spec_ChanOk x_c = true := by simp only [F_spec_ChanOk, h39, h42, h46, h49, h107, h110, h112, cond_true, cond_false]
   rw [hF114]
   exact rfl
  have q115 := of_decide_eq_false h112
  refine cf h112 ?_
  refine wc_skip <| wq_then <| sr ?_
  refine pu (vp g31 0) wN ?_
  refine ld (vi x_c.Role) wN isAgg_3 b109 ?_
  refine pu (vb (decide (x_c.Role = 0))) wN ?_
  refine mv (vb (decide (x_c.Role = 0))) wN ?_
  rcases bf (decide (x_c.Role = 0)) with h116 | h116
  ·have q123 := of_decide_eq_false h116
   refine sk h116 ?_
   refine sk h116 ?_
   refine sk h116 ?_
   refine sk h116 ?_
   refine pf (vb false) wN h116 ?_
   refine mv (vb false) wN ?_
   refine sk (Eq.refl false) ?_
   refine sk (Eq.refl false) ?_
   refine sk (Eq.refl false) ?_
   refine sk (Eq.refl false) ?_
   refine pf (vb false) wN (Eq.refl false) ?_
   refine ag (vb false) wN ?_
   refine wl_nil <| wq_then <| wc_ret ?_
   refine ret_1 (.inl rfl) (vb false) rfl rfl ?_
   refine ⟨m106.keep0, ?_⟩
   have hF124 : F_spec_ChanOk x_c = false := by simp only [F_spec_ChanOk, h39, h42, h46, h49, h107, h110, h112, h116, cond_true, cond_false]
   rw [hF124]
   exact rfl
  have q117 := of_decide_eq_true h116
  refine pu (vp g31 14) (wS h116) ?_
  refine ld (vs a26 x_c.Next.length c27) (wS h116) isAgg_22 b109 ?_
  refine ln (wS h116) slTy_22 (r28.from0 m106) ?_
  refine pu (vb (decide ((x_c.Next.length : Int) = 32))) (wS h116) ?_
  refine pk (vb (decide ((x_c.Next.length : Int) = 32))) wN h116 ?_
  refine mv (vb (decide ((x_c.Next.length : Int) = 32))) wN ?_
  rcases bf (decide ((x_c.Next.length : Int) = 32)) with h118 | h118
  ·have q121 := of_decide_eq_false h118
   refine sk h118 ?_
   refine sk h118 ?_
   refine sk h118 ?_
   refine sk h118 ?_
   refine pf (vb false) wN h118 ?_
   refine ag (vb false) wN ?_
   refine wl_nil <| wq_then <| wc_ret ?_
   refine ret_1 (.inl rfl) (vb false) rfl rfl ?_
   refine ⟨m106.keep0, ?_⟩
   have hF122 : F_spec_ChanOk x_c = false := by simp only [F_spec_ChanOk, h39, h42, h46, h49, h107, h110, h112, h116, h118, cond_true, cond_false]
   rw [hF122]
   exact rfl
  have q119 := of_decide_eq_true h118
  refine pu (vp g31 2) (wS h118) ?_
  refine pu (vp g31 2) (wS h118) ?_
  refine ld (vi x_c.Cur.N) (wS h118) isAgg_3 b109 ?_
  refine pu (vb (decide (x_c.Cur.N < 4294967295))) (wS h118) ?_
  refine pk (vb (decide (x_c.Cur.N < 4294967295))) wN h118 ?_
  refine ag (vb (decide (x_c.Cur.N < 4294967295))) wN ?_
  refine wl_nil <| wq_then <| wc_ret ?_
  refine ret_1 (.inl rfl) (vb (decide (x_c.Cur.N < 4294967295))) rfl rfl ?_
  refine ⟨m106.keep0, ?_⟩
  have hF120 : F_spec_ChanOk x_c = decide (x_c.Cur.N < 4294967295) := by simp only [F_spec_ChanOk, h39, h42, h46, h49, h107, h110, h112, h116, h118, cond_true, cond_false]
  rw [hF120]
  exact rfl
 refine ct h49 ?_
 refine sr ?_
 refine ag (vi (-1)) wN ?_
 refine wl_nil <| wq_then <| wc_seq <| sr ?_
 refine pu (vp g31 0) wN ?_
 refine ld (vi x_c.Role) wN isAgg_3 b48 ?_
 refine pu (vb (decide (x_c.Role = 0))) wN ?_
 refine wl_nil <| wq_then ?_
 rcases bf (decide (x_c.Role = 0)) with h51 | h51
 ·have q80 := of_decide_eq_false h51
  refine cf h51 ?_
  refine wc_skip <| wq_then <| sr ?_
  refine pu (vp g31 7) wN ?_
  refine lN (L_27 x_c.Old a16 c17 a21 c22) wN isAgg_27 sizeOf_27 b48 ?_
  refine cl wN (C_spec_EpOk w3 _ x_c.Old (mR_27 (r18.from0 m45) s19 (r23.from0 m45) s24)) ?_
  rintro _ w4 ⟨k81, rfl⟩
  have m82 := m45.extk k81
  refine pu (vb (!(F_spec_EpOk x_c.Old))) wN ?_
  refine mv (vb (!(F_spec_EpOk x_c.Old))) wN ?_
  rcases bf (F_spec_EpOk x_c.Old) with h83 | h83
  ·refine sk (congrArg not h83) ?_
   refine sk (congrArg not h83) ?_
   refine sk (congrArg not h83) ?_
   refine sk (congrArg not h83) ?_
   refine sk (congrArg not h83) ?_
   refine sk (congrArg not h83) ?_
   refine sk (congrArg not h83) ?_
   refine sk (congrArg not h83) ?_
   refine pk (vb true) wN (congrArg not h83) ?_
   refine mv (vb true) wN ?_
   refine sk (Eq.refl true) ?_
   refine sk (Eq.refl true) ?_
   refine sk (Eq.refl true) ?_
   refine sk (Eq.refl true) ?_
   refine sk (Eq.refl true) ?_
   refine pk (vb true) wN (Eq.refl true) ?_
   refine wl_nil <| wq_then ?_
   refine ct (Eq.refl true) ?_
   refine sr ?_
   refine ag (vb false) wN ?_
   refine wl_nil <| wq_then <| wc_ret <| wq_then_ret ?_
   refine ret_1 (.inl rfl) (vb false) rfl rfl ?_
   refine ⟨m82.keep0, ?_⟩
   have hF103 : F_spec_ChanOk x_c = false := by simp only [F_spec_ChanOk, h39, h42, h46, h49, h51, h83, cond_true, cond_false]
   rw [hF103]
   exact rfl
  have q84 := spec_EpOk_t h83
  refine pu (vp g31 7) (wS (congrArg not h83)) ?_
  refine pu (vp g31 7) (wS (congrArg not h83)) ?_
  have b85 := (b48.kp k81)
  refine ld (vi x_c.Old.N) (wS (congrArg not h83)) isAgg_3 b85 ?_
  refine pu (vp g31 2) (wS (congrArg not h83)) ?_
  refine pu (vp g31 2) (wS (congrArg not h83)) ?_
  refine ld (vi x_c.Cur.N) (wS (congrArg not h83)) isAgg_3 b85 ?_
  refine ar (x_c.Cur.N - 1) (wS (congrArg not h83)) ?_
  refine pu (vb (!(decide (x_c.Old.N = (x_c.Cur.N - 1))))) (wS (congrArg not h83)) ?_
  refine pf (vb (!(decide (x_c.Old.N = (x_c.Cur.N - 1))))) wN (congrArg not h83) ?_
  refine mv (vb (!(decide (x_c.Old.N = (x_c.Cur.N - 1))))) wN ?_
  rcases bf (decide (x_c.Old.N = (x_c.Cur.N - 1))) with h86 | h86
  ·have q100 := of_decide_eq_false h86
   refine sk (congrArg not h86) ?_
   refine sk (congrArg not h86) ?_
   refine sk (congrArg not h86) ?_
   refine sk (congrArg not h86) ?_
   refine sk (congrArg not h86) ?_
   refine pk (vb true) wN (congrArg not h86) ?_
   refine wl_nil <| wq_then ?_
   refine ct (Eq.refl true) ?_
   refine sr ?_
   refine ag (vb false) wN ?_
   refine wl_nil <| wq_then <| wc_ret <| wq_then_ret ?_
   refine ret_1 (.inl rfl) (vb false) rfl rfl ?_
   refine ⟨m82.keep0, ?_⟩
   have hF101 : F_spec_ChanOk x_c = false := by simp only [F_spec_ChanOk, h39, h42, h46, h49, h51, h83, h86, cond_true, cond_false]
   rw [hF101]
   exact rfl
  have q87 := of_decide_eq_true h86
  refine pu (vp g31 13) (wS (congrArg not h86)) ?_
  refine ld (vi x_c.Until) (wS (congrArg not h86)) isAgg_3 b85 ?_
  refine mv (vi (-1)) (wS (congrArg not h86)) ?_
  refine cl (wS (congrArg not h86)) (C_spec_l1In w4 x_c.Until (-1) 1000005) ?_
  rintro _ w5 ⟨k88, rfl⟩
  have m89 := m82.extk k88
  refine pu (vb (!(F_spec_l1In x_c.Until (-1) 1000005))) (wS (congrArg not h86)) ?_
  refine pf (vb (!(F_spec_l1In x_c.Until (-1) 1000005))) wN (congrArg not h86) ?_
  refine wl_nil <| wq_then ?_
  rcases bf (F_spec_l1In x_c.Until (-1) 1000005) with h90 | h90
  ·have q98 := spec_l1In_f h90
   refine ct (congrArg not h90) ?_
   refine sr ?_
   refine ag (vb false) wN ?_
   refine wl_nil <| wq_then <| wc_ret <| wq_then_ret ?_
   refine ret_1 (.inl rfl) (vb false) rfl rfl ?_
   refine ⟨m89.keep0, ?_⟩
   have hF99 : F_spec_ChanOk x_c = false := by simp only [F_spec_ChanOk, h39, h42, h46, h49, h51, h83, h86, h90, cond_true, cond_false]
   rw [hF99]
   exact rfl
  have q91 := spec_l1In_t h90
  refine cf (congrArg not h90) ?_
  refine wc_skip <| wq_then <| wc_seq <| sr ?_
  refine pu (vp g31 14) wN ?_
  have b92 := (b85.kp k88)
  refine ld (vs a26 x_c.Next.length c27) wN isAgg_22 b92 ?_
  refine ln wN slTy_22 (r28.from0 m89) ?_
  refine pu (vb (decide ((x_c.Next.length : Int) = 0))) wN ?_
  refine wl_nil <| wq_then ?_
  rcases bt (decide ((x_c.Next.length : Int) = 0)) with h93 | h93
  ·have q94 := of_decide_eq_true h93
   refine ct h93 ?_
   refine sr ?_
   refine ag (vb true) wN ?_
   refine wl_nil <| wq_then <| wc_ret <| wq_then_ret ?_
   refine ret_1 (.inl rfl) (vb true) rfl rfl ?_
   refine ⟨m89.keep0, ?_⟩
   have hF95 : F_spec_ChanOk x_c = true := by simp only [F_spec_ChanOk, h39, h42, h46, h49, h51, h83, h86, h90, h93, cond_true, cond_false]
   rw [hF95]
   exact rfl
  have q96 := of_decide_eq_false h93
  refine cf h93 ?_
  refine wc_skip <| wq_then <| sr ?_
  refine pu (vp g31 0) wN ?_
  refine ld (vi x_c.Role) wN isAgg_3 b92 ?_
  refine pu (vb (decide (x_c.Role = 0))) wN ?_
  refine mv (vb (decide (x_c.Role = 0))) wN ?_
  refine sk h51 ?_
  refine sk h51 ?_
  refine sk h51 ?_
  refine sk h51 ?_
  refine pf (vb false) wN h51 ?_
  refine mv (vb false) wN ?_
  refine sk (Eq.refl false) ?_
  refine sk (Eq.refl false) ?_
  refine sk (Eq.refl false) ?_
  refine sk (Eq.refl false) ?_
  refine pf (vb false) wN (Eq.refl false) ?_
  refine ag (vb false) wN ?_
  refine wl_nil <| wq_then <| wc_ret ?_
  refine ret_1 (.inl rfl) (vb false) rfl rfl ?_
  refine ⟨m89.keep0, ?_⟩
  have hF97 : F_spec_ChanOk x_c = false := by simp only [F_spec_ChanOk, h39, h42, h46, h49, h51, h83, h86, h90, h93, cond_true, cond_false]
  rw [hF97]
  exact rfl
 have q52 := of_decide_eq_true h51
 refine ct h51 ?_
 refine wc_region ?_
 refine ag (vi 0) wN ?_
 refine nx ?_
 refine pu (vp g31 7) wN ?_
 refine lN (L_27 x_c.Old a16 c17 a21 c22) wN isAgg_27 sizeOf_27 b48 ?_
 refine cl wN (C_spec_EpOk w3 _ x_c.Old (mR_27 (r18.from0 m45) s19 (r23.from0 m45) s24)) ?_
 rintro _ w4 ⟨k53, rfl⟩
 have m54 := m45.extk k53
 refine pu (vb (!(F_spec_EpOk x_c.Old))) wN ?_
 refine mv (vb (!(F_spec_EpOk x_c.Old))) wN ?_
 rcases bf (F_spec_EpOk x_c.Old) with h55 | h55
 ·refine sk (congrArg not h55) ?_
  refine sk (congrArg not h55) ?_
  refine sk (congrArg not h55) ?_
  refine sk (congrArg not h55) ?_
  refine sk (congrArg not h55) ?_
  refine sk (congrArg not h55) ?_
  refine sk (congrArg not h55) ?_
  refine sk (congrArg not h55) ?_
  refine pk (vb true) wN (congrArg not h55) ?_
  refine mv (vb true) wN ?_
  refine sk (Eq.refl true) ?_
  refine sk (Eq.refl true) ?_
  refine sk (Eq.refl true) ?_
  refine sk (Eq.refl true) ?_
  refine sk (Eq.refl true) ?_
  refine pk (vb true) wN (Eq.refl true) ?_
  refine wl_nil <| wq_then ?_
  refine ct (Eq.refl true) ?_
  refine sr ?_
  refine ag (vb false) wN ?_
  refine wl_nil <| wq_then <| wc_ret <| wq_then_ret ?_
  refine ret_1 (.inl rfl) (vb false) rfl rfl ?_
  refine ⟨m54.keep0, ?_⟩
  have hF79 : F_spec_ChanOk x_c = false := by simp only [F_spec_ChanOk, h39, h42, h46, h49, h51, h55, cond_true, cond_false]
  rw [hF79]
  exact rfl
 have q56 := spec_EpOk_t h55
 refine pu (vp g31 7) (wS (congrArg not h55)) ?_
 refine pu (vp g31 7) (wS (congrArg not h55)) ?_
 have b57 := (b48.kp k53)
 refine ld (vi x_c.Old.N) (wS (congrArg not h55)) isAgg_3 b57 ?_
 refine pu (vp g31 2) (wS (congrArg not h55)) ?_
 refine pu (vp g31 2) (wS (congrArg not h55)) ?_
 refine ld (vi x_c.Cur.N) (wS (congrArg not h55)) isAgg_3 b57 ?_
 refine ar (x_c.Cur.N - 1) (wS (congrArg not h55)) ?_
 refine pu (vb (!(decide (x_c.Old.N = (x_c.Cur.N - 1))))) (wS (congrArg not h55)) ?_
 refine pf (vb (!(decide (x_c.Old.N = (x_c.Cur.N - 1))))) wN (congrArg not h55) ?_
 refine mv (vb (!(decide (x_c.Old.N = (x_c.Cur.N - 1))))) wN ?_
 rcases bf (decide (x_c.Old.N = (x_c.Cur.N - 1))) with h58 | h58
 ·have q76 := of_decide_eq_false h58
  refine sk (congrArg not h58) ?_
  refine sk (congrArg not h58) ?_
  refine sk (congrArg not h58) ?_
  refine sk (congrArg not h58) ?_
  refine sk (congrArg not h58) ?_
  refine pk (vb true) wN (congrArg not h58) ?_
  refine wl_nil <| wq_then ?_
  refine ct (Eq.refl true) ?_
  refine sr ?_
  refine ag (vb false) wN ?_
  refine wl_nil <| wq_then <| wc_ret <| wq_then_ret ?_
  refine ret_1 (.inl rfl) (vb false) rfl rfl ?_
  refine ⟨m54.keep0, ?_⟩
  have hF77 : F_spec_ChanOk x_c = false := by simp only [F_spec_ChanOk, h39, h42, h46, h49, h51, h55, h58, cond_true, cond_false]
  rw [hF77]
  exact rfl
 have q59 := of_decide_eq_true h58
 refine pu (vp g31 13) (wS (congrArg not h58)) ?_
 refine ld (vi x_c.Until) (wS (congrArg not h58)) isAgg_3 b57 ?_
 refine mv (vi 0) (wS (congrArg not h58)) ?_
 refine cl (wS (congrArg not h58)) (C_spec_l1In w4 x_c.Until 0 1000005) ?_
 rintro _ w5 ⟨k60, rfl⟩
 have m61 := m54.extk k60
 refine pu (vb (!(F_spec_l1In x_c.Until 0 1000005))) (wS (congrArg not h58)) ?_
 refine pf (vb (!(F_spec_l1In x_c.Until 0 1000005))) wN (congrArg not h58) ?_
 refine wl_nil <| wq_then ?_
 rcases bf (F_spec_l1In x_c.Until 0 1000005) with h62 | h62
 ·have q74 := spec_l1In_f h62
  refine ct (congrArg not h62) ?_
  refine sr ?_
  refine ag (vb false) wN ?_
  refine wl_nil <| wq_then <| wc_ret <| wq_then_ret ?_
  refine ret_1 (.inl rfl) (vb false) rfl rfl ?_
  refine ⟨m61.keep0, ?_⟩
  have hF75 : F_spec_ChanOk x_c = false := by simp only [F_spec_ChanOk, h39, h42, h46, h49, h51, h55, h58, h62, cond_true, cond_false]
  rw [hF75]
  exact rfl
 have q63 := spec_l1In_t h62
 refine cf (congrArg not h62) ?_
 refine wc_skip <| wq_then <| wc_seq <| sr ?_
 refine pu (vp g31 14) wN ?_
 have b64 := (b57.kp k60)
 refine ld (vs a26 x_c.Next.length c27) wN isAgg_22 b64 ?_
 refine ln wN slTy_22 (r28.from0 m61) ?_
 refine pu (vb (decide ((x_c.Next.length : Int) = 0))) wN ?_
 refine wl_nil <| wq_then ?_
 rcases bt (decide ((x_c.Next.length : Int) = 0)) with h65 | h65
 ·have q66 := of_decide_eq_true h65
  refine ct h65 ?_
  refine sr ?_
  refine ag (vb true) wN ?_
  refine wl_nil <| wq_then <| wc_ret <| wq_then_ret ?_
  refine ret_1 (.inl rfl) (vb true) rfl rfl ?_
  refine ⟨m61.keep0, ?_⟩
  have hF67 : F_spec_ChanOk x_c = true := by simp only [F_spec_ChanOk, h39, h42, h46, h49, h51, h55, h58, h62, h65, cond_true, cond_false]
  rw [hF67]
  exact rfl
 have q68 := of_decide_eq_false h65
 refine cf h65 ?_
 refine wc_skip <| wq_then <| sr ?_
 refine pu (vp g31 0) wN ?_
 refine ld (vi x_c.Role) wN isAgg_3 b64 ?_
 refine pu (vb (decide (x_c.Role = 0))) wN ?_
 refine mv (vb (decide (x_c.Role = 0))) wN ?_
 refine pu (vp g31 14) (wS h51) ?_
 refine ld (vs a26 x_c.Next.length c27) (wS h51) isAgg_22 b64 ?_
 refine ln (wS h51) slTy_22 (r28.from0 m61) ?_
 refine pu (vb (decide ((x_c.Next.length : Int) = 32))) (wS h51) ?_
 refine pk (vb (decide ((x_c.Next.length : Int) = 32))) wN h51 ?_
 refine mv (vb (decide ((x_c.Next.length : Int) = 32))) wN ?_
 rcases bf (decide ((x_c.Next.length : Int) = 32)) with h69 | h69
 ·have q72 := of_decide_eq_false h69
  refine sk h69 ?_
  refine sk h69 ?_
  refine sk h69 ?_
  refine sk h69 ?_
  refine pf (vb false) wN h69 ?_
  refine ag (vb false) wN ?_
  refine wl_nil <| wq_then <| wc_ret ?_
  refine ret_1 (.inl rfl) (vb false) rfl rfl ?_
  refine ⟨m61.keep0, ?_⟩
  have hF73 : F_spec_ChanOk x_c = false := by simp only [F_spec_ChanOk, h39, h42, h46, h49, h51, h55, h58, h62, h65, h69, cond_true, cond_false]
  rw [hF73]
  exact rfl
 have q70 := of_decide_eq_true h69
 refine pu (vp g31 2) (wS h69) ?_
 refine pu (vp g31 2) (wS h69) ?_
 refine ld (vi x_c.Cur.N) (wS h69) isAgg_3 b64 ?_
 refine pu (vb (decide (x_c.Cur.N < 4294967295))) (wS h69) ?_
 refine pk (vb (decide (x_c.Cur.N < 4294967295))) wN h69 ?_
 refine ag (vb (decide (x_c.Cur.N < 4294967295))) wN ?_
 refine wl_nil <| wq_then <| wc_ret ?_
 refine ret_1 (.inl rfl) (vb (decide (x_c.Cur.N < 4294967295))) rfl rfl ?_
 refine ⟨m61.keep0, ?_⟩
 have hF71 : F_spec_ChanOk x_c = decide (x_c.Cur.N < 4294967295) := by simp only [F_spec_ChanOk, h39, h42, h46, h49, h51, h55, h58, h62, h65, h69, cond_true, cond_false]
 rw [hF71]
 exact rfl
theorem spec_ChanOk_t {c : PChan} (h : F_spec_ChanOk c = true) : 0 ≤ c.Cur.N ∧ c.Cur.N ≤ 4294967295 := by
  cases h1 : F_spec_EpOk c.Cur with
  | false => simp [F_spec_ChanOk, h1] at h
  | true => exact ⟨(spec_EpOk_t h1).1, (spec_EpOk_t h1).2.1⟩

theorem slTy_50 : SlTy Try.prog 50 22 1 24 (vs none 0 0) := slTy Try.underlying50 (by kernel_rfl) rfl rfl
def O_50 (w : World) (lo : Nat) (v : Value) (x : (List (List UInt8))) : Prop := ∃ (a1 : Option Addr) (c1 : Nat), v = .slice a1 x.length c1 ∧ OLv LT_B w lo w.heap.size a1 x.length c1 x ∧ x.length ≤ 1073741824 ∧ Aps [(a1, c1)]
theorem mR_29 {w : World} {x : PChan} {a1 : Option Addr} {c1 : Nat} {a2 : Option Addr} {c2 : Nat} {a3 : Option Addr} {c3 : Nat} {a4 : Option Addr} {c4 : Nat} {a5 : Option Addr} {c5 : Nat} {a6 : Option Addr} {c6 : Nat} (h1 : Rd w 1 (.slice a1 x.Sn.length c1) x.Sn.length (x.Sn.map bV)) (l1 : x.Sn.length ≤ 1073741824) (h2 : Rd w 1 (.slice a2 x.Cur.Key.length c2) x.Cur.Key.length (x.Cur.Key.map bV)) (l2 : x.Cur.Key.length ≤ 1073741824) (h3 : Rd w 1 (.slice a3 x.Cur.Win.Bits.length c3) x.Cur.Win.Bits.length (x.Cur.Win.Bits.map iV)) (l3 : x.Cur.Win.Bits.length ≤ 1073741824) (h4 : Rd w 1 (.slice a4 x.Old.Key.length c4) x.Old.Key.length (x.Old.Key.map bV)) (l4 : x.Old.Key.length ≤ 1073741824) (h5 : Rd w 1 (.slice a5 x.Old.Win.Bits.length c5) x.Old.Win.Bits.length (x.Old.Win.Bits.map iV)) (l5 : x.Old.Win.Bits.length ≤ 1073741824) (h6 : Rd w 1 (.slice a6 x.Next.length c6) x.Next.length (x.Next.map bV)) (l6 : x.Next.length ≤ 1073741824) : R_29 w (va (L_29 x a1 c1 a2 c2 a3 c3 a4 c4 a5 c5 a6 c6)) x := ⟨_, _, _, _, _, _, _, _, _, _, _, _, rfl, h1, l1, h2, l2, h3, l3, h4, l4, h5, l5, h6, l6⟩
def F_spec_KeysOf (x_c : PChan) : (List (List UInt8)) := bif (F_spec_ChanOk x_c) then (bif x_c.HasOld then (bif (decide (0 < (x_c.Next.length : Int))) then ((((([] : List (List UInt8)) ++ [x_c.Old.Key]) ++ [x_c.Cur.Key]) ++ [x_c.Next])) else (((([] : List (List UInt8)) ++ [x_c.Old.Key]) ++ [x_c.Cur.Key]))) else (bif (decide (0 < (x_c.Next.length : Int))) then (((([] : List (List UInt8)) ++ [x_c.Cur.Key]) ++ [x_c.Next])) else ((([] : List (List UInt8)) ++ [x_c.Cur.Key])))) else ([])
theorem C_spec_KeysOf (w0 : World) (v_x_c : Value) (x_c : PChan) (r_x_c : R_29 w0 v_x_c x_c)  : Fn Try.prog 32 #[v_x_c] w0 (fun v w' => Keep w0 w' ∧ O_50 w' w0.heap.size v (F_spec_KeysOf x_c)) := by
 obtain ⟨a1, c2, a6, c7, a11, c12, a16, c17, a21, c22, a26, c27, rfl, r3, s4, r8, s9, r13, s14, r18, s19, r23, s24, r28, s29⟩ := r_x_c
 refine fn_of (n := 39) (l := [(va (L_29 x_c a1 c2 a6 c7 a11 c12 a16 c17 a21 c22 a26 c27)), U, U, U, U, U, U, U, U, U, U, U, U, U, U, U, U, U, U, U, U, U, U, U, U, U, U, U, U, U, U, U, U, U, U, U, U, U, U]) Try.func32 rfl rfl (by kernel_rfl) rfl ?_
 refine sr ?_
 refine bx (L_29 x_c a1 c2 a6 c7 a11 c12 a16 c17 a21 c22 a26 c27) wN ?_
 intro g31 w1 p32 p33 k34 b35
 have m36 := (Ch.base w0).extk k34
 refine ag (vs none 0 0) wN ?_
 refine nx ?_
 refine wl_lit0 wN rfl rfl slTy_50 (fun w => by kernel_rfl) ?_
 intro a37 w2 k38 o39
 have m40 := m36.extk k38
 have o42 : OLv LT_B w2 w1.heap.size w2.heap.size (some a37) 0 0 [] := OLv.of0 o39
 refine ag (vs (some a37) 0 0) wN ?_
 refine wl_nil <| wq_then <| wc_seq <| sr ?_
 have b43 := (b35.kp k38)
 refine lN (L_29 x_c a1 c2 a6 c7 a11 c12 a16 c17 a21 c22 a26 c27) wN isAgg_29 sizeOf_29 b43 ?_
 refine cl wN (C_spec_ChanOk w2 _ x_c (mR_29 (r3.from0 m40) s4 (r8.from0 m40) s9 (r13.from0 m40) s14 (r18.from0 m40) s19 (r23.from0 m40) s24 (r28.from0 m40) s29)) ?_
 rintro _ w3 ⟨k44, rfl⟩
 have m45 := m40.extk k44
 refine pu (vb (!(F_spec_ChanOk x_c))) wN ?_
 refine wl_nil <| wq_then ?_
 rcases bf (F_spec_ChanOk x_c) with h46 | h46
 ·refine ct (congrArg not h46) ?_
  refine sr ?_
  refine mv (vs (some a37) 0 0) wN ?_
  refine ag (vs (some a37) 0 0) wN ?_
  refine wl_nil <| wq_then <| wc_ret <| wq_then_ret ?_
  have o230 := (OLv.kp o42 k44)
  refine ret_1 (.inl rfl) (vs (some a37) 0 0) rfl rfl ?_
  refine ⟨m45.keep0, ?_⟩
  have hF231 : F_spec_KeysOf x_c = [] := by simp only [F_spec_KeysOf, h46, cond_true, cond_false]
  rw [hF231]
  exact ⟨_, _, rfl, (OLv.now (OLv.low o230 k34.size)), (by simp), ⟨trivial, trivial⟩⟩
 have q47 := spec_ChanOk_t h46
 refine cf (congrArg not h46) ?_
 refine wc_skip <| wq_then <| wc_seq <| sr ?_
 refine pu (vp g31 12) wN ?_
 have b48 := (b43.kp k44)
 refine ld (vb x_c.HasOld) wN isAgg_4 b48 ?_
 refine wl_nil <| wq_then ?_
 rcases bf x_c.HasOld with h49 | h49
 ·refine cf h49 ?_
  refine wc_skip <| wq_then <| sr ?_
  refine mv (vs (some a37) 0 0) wN ?_
  refine wl_lit0 wN rfl rfl slTy_22 (fun w => by kernel_rfl) ?_
  intro a157 w4 k158 o159
  have m160 := m45.extk k158
  refine pu (vp g31 2) wN ?_
  refine pu (vp g31 3) wN ?_
  have b162 := (b48.kp k158)
  refine ld (vs a6 x_c.Cur.Key.length c7) wN isAgg_22 b162 ?_
  refine wl_append0 wN rfl rfl rfl slTy_22 rfl rfl o159 (r8.from0 m160) (all_bV _) (by (try simp only [List.length_append, List.length_cons, List.length_nil]); omega) (by simp only [maxLen]; (try simp only [List.length_append, List.length_cons, List.length_nil]); omega) k158.size ?_
  intro u163 w5 k164 o165 j166
  obtain ⟨a167, c168, rfl⟩ := own_form o165
  have n169 : New w4 a167 c168 := j166 _ _ rfl
  have m170 := m160.extk k164
  refine wl_lit [(vs a167 x_c.Cur.Key.length c168)] wN rfl rfl slTy_50 (m := 1) rfl (by simp only [maxLen]; omega) (fun w => by kernel_rfl) ?_
  intro u172 w6 k173 o174
  obtain ⟨a175, c176, rfl⟩ := own_form o174
  have m177 := m170.extk k173
  have o179 := (OLv.kp (OLv.kp (OLv.kp (OLv.kp o42 k44) k158) k164) k173)
  have o180 := (own_kp o165 k173)
  refine wl_appL (L := LT_B) (xs := []) (el := x_c.Cur.Key) (l := [(a167, c168)]) wN slTy_50 o179 (Rd.of_own o174) ⟨⟨(own_lo o180 k44.size), s9⟩, trivial⟩ ⟨trivial, trivial⟩ (Nat.le_refl _) k38.size (by first | assumption | ((try simp only [List.length_append, List.length_cons, List.length_nil]); omega)) (Nat.le_trans (Nat.le_trans (Nat.le_trans (Nat.le_trans k38.size k44.size) k158.size) k164.size) k173.size) ?_
  intro a181 c182 w7 k183 o184
  have m185 := m177.ext k183 (fun k hk => Nat.le_trans k34.size (own_lt o39 k hk).1)
  obtain ⟨y188, o189⟩ := OLv.ow o184
  refine ag (vs a181 (([] : List (List UInt8)) ++ [x_c.Cur.Key]).length c182) wN ?_
  refine wl_nil <| wq_then <| wc_seq <| sr ?_
  refine pu (vp g31 14) wN ?_
  have b190 := (((b162.kp k164).kp k173).ch k183 (fun h => by have := (own_lt o39 _ h).1; have := Nat.lt_of_lt_of_le p33 (Nat.le_refl _); omega))
  refine ld (vs a26 x_c.Next.length c27) wN isAgg_22 b190 ?_
  refine ln wN slTy_22 (r28.from0 m185) ?_
  refine pu (vb (decide (0 < (x_c.Next.length : Int)))) wN ?_
  refine wl_nil <| wq_then ?_
  rcases bf (decide (0 < (x_c.Next.length : Int))) with h191 | h191
  ·have q227 := of_decide_eq_false h191
   refine cf h191 ?_
   refine wc_skip <| wq_then <| sr ?_
   refine mv (vs a181 (([] : List (List UInt8)) ++ [x_c.Cur.Key]).length c182) wN ?_
   refine ag (vs a181 (([] : List (List UInt8)) ++ [x_c.Cur.Key]).length c182) wN ?_
   refine wl_nil <| wq_then <| wc_ret ?_
   refine ret_1 (.inl rfl) (vs a181 (([] : List (List UInt8)) ++ [x_c.Cur.Key]).length c182) rfl rfl ?_
   refine ⟨m185.keep0, ?_⟩
   have hF228 : F_spec_KeysOf x_c = (([] : List (List UInt8)) ++ [x_c.Cur.Key]) := by simp only [F_spec_KeysOf, h46, h49, h191, cond_true, cond_false]
   rw [hF228]
   exact ⟨_, _, rfl, (OLv.now (OLv.low o184 k34.size)), (OLv.small o184), ⟨trivial, trivial⟩⟩
  have q192 := of_decide_eq_true h191
  refine ct h191 ?_
  refine wc_region ?_
  refine mv (vs a181 (([] : List (List UInt8)) ++ [x_c.Cur.Key]).length c182) wN ?_
  refine wl_lit0 wN rfl rfl slTy_22 (fun w => by kernel_rfl) ?_
  intro a193 w8 k194 o195
  have m196 := m185.extk k194
  refine pu (vp g31 14) wN ?_
  have b198 := (b190.kp k194)
  refine ld (vs a26 x_c.Next.length c27) wN isAgg_22 b198 ?_
  refine wl_append0 wN rfl rfl rfl slTy_22 rfl rfl o195 (r28.from0 m196) (all_bV _) (by (try simp only [List.length_append, List.length_cons, List.length_nil]); omega) (by simp only [maxLen]; (try simp only [List.length_append, List.length_cons, List.length_nil]); omega) k194.size ?_
  intro u199 w9 k200 o201 j202
  obtain ⟨a203, c204, rfl⟩ := own_form o201
  have n205 : New w8 a203 c204 := j202 _ _ rfl
  have m206 := m196.extk k200
  refine wl_lit [(vs a203 x_c.Next.length c204)] wN rfl rfl slTy_50 (m := 1) rfl (by simp only [maxLen]; omega) (fun w => by kernel_rfl) ?_
  intro u208 w10 k209 o210
  obtain ⟨a211, c212, rfl⟩ := own_form o210
  have m213 := m206.extk k209
  have o215 := (OLv.kp (OLv.kp (OLv.kp o184 k194) k200) k209)
  have o216 := (own_kp o201 k209)
  refine wl_appL (L := LT_B) (xs := (([] : List (List UInt8)) ++ [x_c.Cur.Key])) (el := x_c.Next) (l := [(a203, c204)]) wN slTy_50 o215 (Rd.of_own o210) ⟨⟨o216, s29⟩, trivial⟩ ⟨trivial, trivial⟩ (Nat.le_refl _) (Nat.le_trans (Nat.le_trans (Nat.le_trans (Nat.le_trans (Nat.le_trans k38.size k44.size) k158.size) k164.size) k173.size) k183.size) (by first | assumption | ((try simp only [List.length_append, List.length_cons, List.length_nil]); omega)) (Nat.le_trans (Nat.le_trans (Nat.le_trans (Nat.le_trans (Nat.le_trans (Nat.le_trans (Nat.le_trans (Nat.le_trans k38.size k44.size) k158.size) k164.size) k173.size) k183.size) k194.size) k200.size) k209.size) ?_
  intro a217 c218 w11 k219 o220
  have m221 := m213.ext k219 (fun k hk => Nat.le_trans k34.size (own_lt o189 k hk).1)
  obtain ⟨y224, o225⟩ := OLv.ow o220
  refine ag (vs a217 ((([] : List (List UInt8)) ++ [x_c.Cur.Key]) ++ [x_c.Next]).length c218) wN ?_
  refine nx ?_
  refine mv (vs a217 ((([] : List (List UInt8)) ++ [x_c.Cur.Key]) ++ [x_c.Next]).length c218) wN ?_
  refine ag (vs a217 ((([] : List (List UInt8)) ++ [x_c.Cur.Key]) ++ [x_c.Next]).length c218) wN ?_
  refine wl_nil <| wq_then <| wc_ret ?_
  refine ret_1 (.inl rfl) (vs a217 ((([] : List (List UInt8)) ++ [x_c.Cur.Key]) ++ [x_c.Next]).length c218) rfl rfl ?_
  refine ⟨m221.keep0, ?_⟩
  have hF226 : F_spec_KeysOf x_c = ((([] : List (List UInt8)) ++ [x_c.Cur.Key]) ++ [x_c.Next]) := by simp only [F_spec_KeysOf, h46, h49, h191, cond_true, cond_false]
  rw [hF226]
  exact ⟨_, _, rfl, (OLv.now (OLv.low o220 k34.size)), (OLv.small o220), ⟨trivial, trivial⟩⟩
 refine ct h49 ?_
 refine wc_region ?_
 refine mv (vs (some a37) 0 0) wN ?_
 refine wl_lit0 wN rfl rfl slTy_22 (fun w => by kernel_rfl) ?_
 intro a51 w4 k52 o53
 have m54 := m45.extk k52
 refine pu (vp g31 7) wN ?_
 refine pu (vp g31 8) wN ?_
 have b56 := (b48.kp k52)
 refine ld (vs a16 x_c.Old.Key.length c17) wN isAgg_22 b56 ?_
 refine wl_append0 wN rfl rfl rfl slTy_22 rfl rfl o53 (r18.from0 m54) (all_bV _) (by (try simp only [List.length_append, List.length_cons, List.length_nil]); omega) (by simp only [maxLen]; (try simp only [List.length_append, List.length_cons, List.length_nil]); omega) k52.size ?_
 intro u57 w5 k58 o59 j60
 obtain ⟨a61, c62, rfl⟩ := own_form o59
 have n63 : New w4 a61 c62 := j60 _ _ rfl
 have m64 := m54.extk k58
 refine wl_lit [(vs a61 x_c.Old.Key.length c62)] wN rfl rfl slTy_50 (m := 1) rfl (by simp only [maxLen]; omega) (fun w => by kernel_rfl) ?_
 intro u66 w6 k67 o68
 obtain ⟨a69, c70, rfl⟩ := own_form o68
 have m71 := m64.extk k67
 have o73 := (OLv.kp (OLv.kp (OLv.kp (OLv.kp o42 k44) k52) k58) k67)
 have o74 := (own_kp o59 k67)
 refine wl_appL (L := LT_B) (xs := []) (el := x_c.Old.Key) (l := [(a61, c62)]) wN slTy_50 o73 (Rd.of_own o68) ⟨⟨(own_lo o74 k44.size), s19⟩, trivial⟩ ⟨trivial, trivial⟩ (Nat.le_refl _) k38.size (by first | assumption | ((try simp only [List.length_append, List.length_cons, List.length_nil]); omega)) (Nat.le_trans (Nat.le_trans (Nat.le_trans (Nat.le_trans k38.size k44.size) k52.size) k58.size) k67.size) ?_
 intro a75 c76 w7 k77 o78
 have m79 := m71.ext k77 (fun k hk => Nat.le_trans k34.size (own_lt o39 k hk).1)
 obtain ⟨y82, o83⟩ := OLv.ow o78
 refine ag (vs a75 (([] : List (List UInt8)) ++ [x_c.Old.Key]).length c76) wN ?_
 refine nx ?_
 refine mv (vs a75 (([] : List (List UInt8)) ++ [x_c.Old.Key]).length c76) wN ?_
 refine wl_lit0 wN rfl rfl slTy_22 (fun w => by kernel_rfl) ?_
 intro a84 w8 k85 o86
 have m87 := m79.extk k85
 refine pu (vp g31 2) wN ?_
 refine pu (vp g31 3) wN ?_
 have b89 := ((((b56.kp k58).kp k67).ch k77 (fun h => by have := (own_lt o39 _ h).1; have := Nat.lt_of_lt_of_le p33 (Nat.le_refl _); omega)).kp k85)
 refine ld (vs a6 x_c.Cur.Key.length c7) wN isAgg_22 b89 ?_
 refine wl_append0 wN rfl rfl rfl slTy_22 rfl rfl o86 (r8.from0 m87) (all_bV _) (by (try simp only [List.length_append, List.length_cons, List.length_nil]); omega) (by simp only [maxLen]; (try simp only [List.length_append, List.length_cons, List.length_nil]); omega) k85.size ?_
 intro u90 w9 k91 o92 j93
 obtain ⟨a94, c95, rfl⟩ := own_form o92
 have n96 : New w8 a94 c95 := j93 _ _ rfl
 have m97 := m87.extk k91
 refine wl_lit [(vs a94 x_c.Cur.Key.length c95)] wN rfl rfl slTy_50 (m := 1) rfl (by simp only [maxLen]; omega) (fun w => by kernel_rfl) ?_
 intro u99 w10 k100 o101
 obtain ⟨a102, c103, rfl⟩ := own_form o101
 have m104 := m97.extk k100
 have o106 := (OLv.kp (OLv.kp (OLv.kp o78 k85) k91) k100)
 have o107 := (own_kp o92 k100)
 refine wl_appL (L := LT_B) (xs := (([] : List (List UInt8)) ++ [x_c.Old.Key])) (el := x_c.Cur.Key) (l := [(a94, c95)]) wN slTy_50 o106 (Rd.of_own o101) ⟨⟨o107, s9⟩, trivial⟩ ⟨trivial, trivial⟩ (Nat.le_refl _) (Nat.le_trans (Nat.le_trans (Nat.le_trans (Nat.le_trans (Nat.le_trans k38.size k44.size) k52.size) k58.size) k67.size) k77.size) (by first | assumption | ((try simp only [List.length_append, List.length_cons, List.length_nil]); omega)) (Nat.le_trans (Nat.le_trans (Nat.le_trans (Nat.le_trans (Nat.le_trans (Nat.le_trans (Nat.le_trans (Nat.le_trans k38.size k44.size) k52.size) k58.size) k67.size) k77.size) k85.size) k91.size) k100.size) ?_
 intro a108 c109 w11 k110 o111
 have m112 := m104.ext k110 (fun k hk => Nat.le_trans k34.size (own_lt o83 k hk).1)
 obtain ⟨y115, o116⟩ := OLv.ow o111
 refine ag (vs a108 ((([] : List (List UInt8)) ++ [x_c.Old.Key]) ++ [x_c.Cur.Key]).length c109) wN ?_
 refine wl_nil <| wq_then <| wc_seq <| sr ?_
 refine pu (vp g31 14) wN ?_
 have b117 := (((b89.kp k91).kp k100).ch k110 (fun h => by have := (own_lt o83 _ h).1; have := Nat.lt_of_lt_of_le p33 (Nat.le_refl _); omega))
 refine ld (vs a26 x_c.Next.length c27) wN isAgg_22 b117 ?_
 refine ln wN slTy_22 (r28.from0 m112) ?_
 refine pu (vb (decide (0 < (x_c.Next.length : Int)))) wN ?_
 refine wl_nil <| wq_then ?_
 rcases bf (decide (0 < (x_c.Next.length : Int))) with h118 | h118
 ·have q154 := of_decide_eq_false h118
  refine cf h118 ?_
  refine wc_skip <| wq_then <| sr ?_
  refine mv (vs a108 ((([] : List (List UInt8)) ++ [x_c.Old.Key]) ++ [x_c.Cur.Key]).length c109) wN ?_
  refine ag (vs a108 ((([] : List (List UInt8)) ++ [x_c.Old.Key]) ++ [x_c.Cur.Key]).length c109) wN ?_
  refine wl_nil <| wq_then <| wc_ret ?_
  refine ret_1 (.inl rfl) (vs a108 ((([] : List (List UInt8)) ++ [x_c.Old.Key]) ++ [x_c.Cur.Key]).length c109) rfl rfl ?_
  refine ⟨m112.keep0, ?_⟩
  have hF155 : F_spec_KeysOf x_c = ((([] : List (List UInt8)) ++ [x_c.Old.Key]) ++ [x_c.Cur.Key]) := by simp only [F_spec_KeysOf, h46, h49, h118, cond_true, cond_false]
  rw [hF155]
  exact ⟨_, _, rfl, (OLv.now (OLv.low o111 k34.size)), (OLv.small o111), ⟨trivial, trivial⟩⟩
 have q119 := of_decide_eq_true h118
 refine ct h118 ?_
 refine wc_region ?_
 refine mv (vs a108 ((([] : List (List UInt8)) ++ [x_c.Old.Key]) ++ [x_c.Cur.Key]).length c109) wN ?_
 refine wl_lit0 wN rfl rfl slTy_22 (fun w => by kernel_rfl) ?_
 intro a120 w12 k121 o122
 have m123 := m112.extk k121
 refine pu (vp g31 14) wN ?_
 have b125 := (b117.kp k121)
 refine ld (vs a26 x_c.Next.length c27) wN isAgg_22 b125 ?_
 refine wl_append0 wN rfl rfl rfl slTy_22 rfl rfl o122 (r28.from0 m123) (all_bV _) (by (try simp only [List.length_append, List.length_cons, List.length_nil]); omega) (by simp only [maxLen]; (try simp only [List.length_append, List.length_cons, List.length_nil]); omega) k121.size ?_
 intro u126 w13 k127 o128 j129
 obtain ⟨a130, c131, rfl⟩ := own_form o128
 have n132 : New w12 a130 c131 := j129 _ _ rfl
 have m133 := m123.extk k127
 refine wl_lit [(vs a130 x_c.Next.length c131)] wN rfl rfl slTy_50 (m := 1) rfl (by simp only [maxLen]; omega) (fun w => by kernel_rfl) ?_
 intro u135 w14 k136 o137
 obtain ⟨a138, c139, rfl⟩ := own_form o137
 have m140 := m133.extk k136
 have o142 := (OLv.kp (OLv.kp (OLv.kp o111 k121) k127) k136)
 have o143 := (own_kp o128 k136)
 refine wl_appL (L := LT_B) (xs := ((([] : List (List UInt8)) ++ [x_c.Old.Key]) ++ [x_c.Cur.Key])) (el := x_c.Next) (l := [(a130, c131)]) wN slTy_50 o142 (Rd.of_own o137) ⟨⟨o143, s29⟩, trivial⟩ ⟨trivial, trivial⟩ (Nat.le_refl _) (Nat.le_trans (Nat.le_trans (Nat.le_trans (Nat.le_trans (Nat.le_trans (Nat.le_trans (Nat.le_trans (Nat.le_trans (Nat.le_trans k38.size k44.size) k52.size) k58.size) k67.size) k77.size) k85.size) k91.size) k100.size) k110.size) (by first | assumption | ((try simp only [List.length_append, List.length_cons, List.length_nil]); omega)) (Nat.le_trans (Nat.le_trans (Nat.le_trans (Nat.le_trans (Nat.le_trans (Nat.le_trans (Nat.le_trans (Nat.le_trans (Nat.le_trans (Nat.le_trans (Nat.le_trans (Nat.le_trans k38.size k44.size) k52.size) k58.size) k67.size) k77.size) k85.size) k91.size) k100.size) k110.size) k121.size) k127.size) k136.size) ?_
 intro a144 c145 w15 k146 o147
 have m148 := m140.ext k146 (fun k hk => Nat.le_trans k34.size (own_lt o116 k hk).1)
 obtain ⟨y151, o152⟩ := OLv.ow o147
 refine ag (vs a144 (((([] : List (List UInt8)) ++ [x_c.Old.Key]) ++ [x_c.Cur.Key]) ++ [x_c.Next]).length c145) wN ?_
 refine nx ?_
 refine mv (vs a144 (((([] : List (List UInt8)) ++ [x_c.Old.Key]) ++ [x_c.Cur.Key]) ++ [x_c.Next]).length c145) wN ?_
 refine ag (vs a144 (((([] : List (List UInt8)) ++ [x_c.Old.Key]) ++ [x_c.Cur.Key]) ++ [x_c.Next]).length c145) wN ?_
 refine wl_nil <| wq_then <| wc_ret ?_
 refine ret_1 (.inl rfl) (vs a144 (((([] : List (List UInt8)) ++ [x_c.Old.Key]) ++ [x_c.Cur.Key]) ++ [x_c.Next]).length c145) rfl rfl ?_
 refine ⟨m148.keep0, ?_⟩
 have hF153 : F_spec_KeysOf x_c = (((([] : List (List UInt8)) ++ [x_c.Old.Key]) ++ [x_c.Cur.Key]) ++ [x_c.Next]) := by simp only [F_spec_KeysOf, h46, h49, h118, cond_true, cond_false]
 rw [hF153]
 exact ⟨_, _, rfl, (OLv.now (OLv.low o147 k34.size)), (OLv.small o147), ⟨trivial, trivial⟩⟩

def F_impl_isRole (x_role : Int) : (Bool) := bif (decide (x_role = 0)) then (true) else (decide (x_role = 1))
theorem C_impl_isRole (w0 : World) (x_role : Int)  : Fn Try.prog 67 #[(vi x_role)] w0 (fun v w' => Keep w0 w' ∧ O_4 w' w0.heap.size v (F_impl_isRole x_role)) := by
 refine fn_of (n := 9) (l := [(vi x_role), U, U, U, U, U, U, U, U]) Try.func67 rfl rfl (by kernel_rfl) rfl ?_
 refine sr ?_
 refine ag (vb false) wN ?_
 refine nx ?_
 refine mv (vi x_role) wN ?_
 refine pu (vb (decide (x_role = 0))) wN ?_
 refine mv (vb (decide (x_role = 0))) wN ?_
 rcases bt (decide (x_role = 0)) with h1 | h1
 ·have q2 := of_decide_eq_true h1
  refine sk h1 ?_
  refine sk h1 ?_
  refine pk (vb true) wN h1 ?_
  refine ag (vb true) wN ?_
  refine wl_nil <| wq_then <| wc_ret ?_
  refine ret_1 (.inl rfl) (vb true) rfl rfl ?_
  refine ⟨Ch.refl _ _, ?_⟩
  have hF3 : F_impl_isRole x_role = true := by simp only [F_impl_isRole, h1, cond_true, cond_false]
  rw [hF3]
  exact rfl
 have q4 := of_decide_eq_false h1
 refine mv (vi x_role) (wS h1) ?_
 refine pu (vb (decide (x_role = 1))) (wS h1) ?_
 refine pf (vb (decide (x_role = 1))) wN h1 ?_
 refine ag (vb (decide (x_role = 1))) wN ?_
 refine wl_nil <| wq_then <| wc_ret ?_
 refine ret_1 (.inl rfl) (vb (decide (x_role = 1))) rfl rfl ?_
 refine ⟨Ch.refl _ _, ?_⟩
 have hF5 : F_impl_isRole x_role = decide (x_role = 1) := by simp only [F_impl_isRole, h1, cond_true, cond_false]
 rw [hF5]
 exact rfl

def F_impl_isNonce (x_b : List UInt8) : (Bool) := decide ((x_b.length : Int) = 12)
theorem C_impl_isNonce (w0 : World) (v_x_b : Value) (x_b : List UInt8) (r_x_b : R_22 w0 v_x_b x_b)  : Fn Try.prog 68 #[v_x_b] w0 (fun v w' => Keep w0 w' ∧ O_4 w' w0.heap.size v (F_impl_isNonce x_b)) := by
 obtain ⟨a1, c2, rfl, r3, s4⟩ := r_x_b
 refine fn_of (n := 6) (l := [(vs a1 x_b.length c2), U, U, U, U, U]) Try.func68 rfl rfl (by kernel_rfl) rfl ?_
 refine sr ?_
 refine ag (vb false) wN ?_
 refine nx ?_
 refine mv (vs a1 x_b.length c2) wN ?_
 refine ln wN slTy_22 r3 ?_
 refine pu (vb (decide ((x_b.length : Int) = 12))) wN ?_
 refine ag (vb (decide ((x_b.length : Int) = 12))) wN ?_
 refine wl_nil <| wq_then <| wc_ret ?_
 refine ret_1 (.inl rfl) (vb (decide ((x_b.length : Int) = 12))) rfl rfl ?_
 refine ⟨Ch.refl _ _, ?_⟩
 have hF6 : F_impl_isNonce x_b = decide ((x_b.length : Int) = 12) := by rfl
 rw [hF6]
 exact rfl

def F_impl_within (x_n : Int) (x_low : Int) (x_high : Int) : (Bool) := bif (decide (x_low ≤ x_n)) then (decide (x_n ≤ x_high)) else (false)
theorem C_impl_within (w0 : World) (x_n : Int) (x_low : Int) (x_high : Int)  : Fn Try.prog 83 #[(vi x_n), (vi x_low), (vi x_high)] w0 (fun v w' => Keep w0 w' ∧ O_4 w' w0.heap.size v (F_impl_within x_n x_low x_high)) := by
 refine fn_of (n := 15) (l := [(vi x_n), (vi x_low), (vi x_high), U, U, U, U, U, U, U, U, U, U, U, U]) Try.func83 rfl rfl (by kernel_rfl) rfl ?_
 refine sr ?_
 refine ag (vb false) wN ?_
 refine nx ?_
 refine mv (vi x_n) wN ?_
 refine mv (vi x_low) wN ?_
 refine pu (vb (decide (x_low ≤ x_n))) wN ?_
 refine mv (vb (decide (x_low ≤ x_n))) wN ?_
 rcases bf (decide (x_low ≤ x_n)) with h1 | h1
 ·have q4 := of_decide_eq_false h1
  refine sk h1 ?_
  refine sk h1 ?_
  refine sk h1 ?_
  refine pf (vb false) wN h1 ?_
  refine ag (vb false) wN ?_
  refine wl_nil <| wq_then <| wc_ret ?_
  refine ret_1 (.inl rfl) (vb false) rfl rfl ?_
  refine ⟨Ch.refl _ _, ?_⟩
  have hF5 : F_impl_within x_n x_low x_high = false := by simp only [F_impl_within, h1, cond_true, cond_false]
  rw [hF5]
  exact rfl
 have q2 := of_decide_eq_true h1
 refine mv (vi x_n) (wS h1) ?_
 refine mv (vi x_high) (wS h1) ?_
 refine pu (vb (decide (x_n ≤ x_high))) (wS h1) ?_
 refine pk (vb (decide (x_n ≤ x_high))) wN h1 ?_
 refine ag (vb (decide (x_n ≤ x_high))) wN ?_
 refine wl_nil <| wq_then <| wc_ret ?_
 refine ret_1 (.inl rfl) (vb (decide (x_n ≤ x_high))) rfl rfl ?_
 refine ⟨Ch.refl _ _, ?_⟩
 have hF3 : F_impl_within x_n x_low x_high = decide (x_n ≤ x_high) := by simp only [F_impl_within, h1, cond_true, cond_false]
 rw [hF3]
 exact rfl
theorem impl_within_t {n a b : Int} (h : F_impl_within n a b = true) : a ≤ n ∧ n ≤ b := by
  unfold F_impl_within at h
  by_cases h1 : a ≤ n <;> simp [h1] at h
  exact ⟨h1, h⟩
theorem impl_within_f {n a b : Int} (h : F_impl_within n a b = false) : n < a ∨ b < n := by
  unfold F_impl_within at h
  by_cases h1 : a ≤ n <;> simp [h1] at h <;> omega

theorem C_impl_areWords (w0 : World) (v_x_l : Value) (x_l : List Int) (r_x_l : R_23 w0 v_x_l x_l) (x_n : Int)  : Fn Try.prog 125 #[v_x_l, (vi x_n)] w0 (fun v w' => Keep w0 w' ∧ O_4 w' w0.heap.size v (areW x_l x_n)) := by
 obtain ⟨a1, c2, rfl, r3, s4⟩ := r_x_l
 refine fn_of (n := 21) (l := [(vs a1 x_l.length c2), (vi x_n), U, U, U, U, U, U, U, U, U, U, U, U, U, U, U, U, U, U, U]) Try.func125 rfl rfl (by kernel_rfl) rfl ?_
 refine sr ?_
 refine ag (vb false) wN ?_
 refine wl_nil <| wq_then <| wc_seq <| sr ?_
 refine mv (vs a1 x_l.length c2) wN ?_
 refine ln wN slTy_23 r3 ?_
 refine mv (vi 0) wN ?_
 refine wl_nil <| wq_then <| wc_block ?_
 refine wc_norm [(vs a1 x_l.length c2), (vi x_n), U, U, (vb false), U, U, (vs a1 x_l.length c2), (vi (x_l.length : Int)), (vi 0), U, U, U, U, U, U, U, U, U, U, U] rfl ⟨rfl, rfl, rfl, rfl, rfl, rfl, rfl, rfl, rfl, rfl, rfl, rfl, rfl, rfl, rfl, rfl, rfl, rfl, rfl, rfl, rfl, trivial⟩ ?_
 refine wc_loop (fun e' w' => ∃ (k : Nat) (u4x u6x u10x u11x u12x u13x u14x u15x u16x : Value), e' = lst [(vs a1 x_l.length c2), (vi x_n), U, U, u4x, U, u6x, (vs a1 x_l.length c2), (vi (x_l.length : Int)), (vi ((k : Nat) : Int)), u10x, u11x, u12x, u13x, u14x, u15x, u16x, U, U, U, U] ∧ Ch (fun k => w0.heap.size ≤ k) w0 w' ∧ Ch (fun k => w0.heap.size ≤ k) w0 w' ∧ k ≤ x_l.length ∧ allW (x_l.take k) = true) (fun e' _ => x_l.length - ((intOf (e' 9))).toNat) ?_ ?_
 ·exact ⟨0, (vb false), U, U, U, U, U, U, U, U, (congrArg (fun (x9z : Value) => lst [(vs a1 x_l.length c2), (vi x_n), U, U, (vb false), U, U, (vs a1 x_l.length c2), (vi (x_l.length : Int)), x9z, U, U, U, U, U, U, U, U, U, U, U]) (congrArg (Value.int .i64) (show (0 : Int) = ((0 : Nat) : Int) by omega))), (Ch.base w0), (Ch.refl (fun k => w0.heap.size ≤ k) w0), (by omega), (by first | rfl | exact allW_next (by assumption) (by omega) (by assumption))⟩
 ·rintro _ w1 ⟨k, u4x, u6x, u10x, u11x, u12x, u13x, u14x, u15x, u16x, rfl, m6, k7, i8, i9⟩
  refine sr ?_
  refine pu (vb (decide (((k : Nat) : Int) < (x_l.length : Int)))) wN ?_
  refine wl_nil <| wq_then <| wc_seq ?_
  rcases bf (decide (((k : Nat) : Int) < (x_l.length : Int))) with h10 | h10
  ·have q18 := of_decide_eq_false h10
   refine cf h10 ?_
   refine wc_exit <| wq_then_exit <| wq_then_exit <| wq_blk_exit <| wq_then <| sr ?_
   refine mv (vs a1 x_l.length c2) wN ?_
   refine ln wN slTy_23 (r3.from0 m6) ?_
   refine mv (vi x_n) wN ?_
   refine pu (vb (decide ((x_l.length : Int) = x_n))) wN ?_
   refine ag (vb (decide ((x_l.length : Int) = x_n))) wN ?_
   refine wl_nil <| wq_then <| wc_ret ?_
   refine ret_1 (.inl rfl) (vb (decide ((x_l.length : Int) = x_n))) rfl rfl ?_
   refine ⟨m6.keep0, ?_⟩
   have hF19 : areW x_l x_n = decide ((x_l.length : Int) = x_n) := by first | (have hz := allW_no (x := x_l) (k := k) (by omega) (by assumption); simp [areW, hz]) | (have hz := allW_all (x := x_l) (k := k) (by assumption) (by omega); simp [areW, hz])
   rw [hF19]
   exact rfl
  have q11 := of_decide_eq_true h10
  refine ct h10 ?_
  refine wc_skip <| wq_then <| wc_seq <| wc_block <| sr ?_
  refine wl_index wN ((k : Nat) : Int) rfl rfl rfl slTy_23 rfl rfl (r3.from0 m6) (by first | omega | (simp only [List.length_cons, List.length_nil, List.length_replicate, List.length_append, List.length_take, List.length_set, List.length_map]; omega)) (by first | omega | (simp only [List.length_cons, List.length_nil, List.length_replicate, List.length_append, List.length_take, List.length_set, List.length_map]; omega)) ?_
  refine wl_loadE (iV (x_l.getD k 0)) wN rfl rfl rfl rfl isAgg_3 (r3.from0 m6) (iget (by simp) (by first | omega | (simp only [List.length_cons, List.length_nil, List.length_replicate, List.length_append, List.length_take, List.length_set, List.length_map]; omega))) ?_
  refine ag (vi (x_l.getD k 0)) wN ?_
  refine nx ?_
  refine mv (vi (x_l.getD k 0)) wN ?_
  refine cl wN (C_impl_within w1 (x_l.getD k 0) 0 4294967295) ?_
  rintro _ w2 ⟨k12, rfl⟩
  have m13 := m6.extk k12
  refine pu (vb (!(F_impl_within (x_l.getD k 0) 0 4294967295))) wN ?_
  refine wl_nil <| wq_then ?_
  rcases bf (F_impl_within (x_l.getD k 0) 0 4294967295) with h14 | h14
  ·have q16 := impl_within_f h14
   refine ct (congrArg not h14) ?_
   refine sr ?_
   refine ag (vb false) wN ?_
   refine wl_nil <| wq_then <| wc_ret <| wq_blk_ret <| wq_then_ret <| wq_then_ret <| wq_blk_ret <| wq_then_ret ?_
   refine ret_1 (.inl rfl) (vb false) rfl rfl ?_
   refine ⟨m13.keep0, ?_⟩
   have hF17 : areW x_l x_n = false := by first | (have hz := allW_no (x := x_l) (k := k) (by omega) (by assumption); simp [areW, hz]) | (have hz := allW_all (x := x_l) (k := k) (by assumption) (by omega); simp [areW, hz])
   rw [hF17]
   exact rfl
  have q15 := impl_within_t h14
  refine cf (congrArg not h14) ?_
  refine wc_skip <| wq_blk_normal <| wq_then <| wc_region ?_
  refine ar (((k : Nat) : Int) + 1) wN ?_
  refine mv (vi (((k : Nat) : Int) + 1)) wN ?_
  refine wl_nil ?_
  refine wq_loopN (w0 := w1) [(vs a1 x_l.length c2), (vi x_n), U, U, u4x, U, (vi (x_l.getD k 0)), (vs a1 x_l.length c2), (vi (x_l.length : Int)), (vi (((k + 1) : Nat) : Int)), (vb (decide (((k : Nat) : Int) < (x_l.length : Int)))), (ve (vs a1 x_l.length c2) ((((k : Nat) : Int)).toNat * 1)), (vi (x_l.getD k 0)), (vi (x_l.getD k 0)), (vb (F_impl_within (x_l.getD k 0) 0 4294967295)), (vb (!(F_impl_within (x_l.getD k 0) 0 4294967295))), (vi (((k : Nat) : Int) + 1)), U, U, U, U] rfl ?_ ?_ ?_
  · exact ⟨rfl, rfl, rfl, rfl, rfl, rfl, rfl, rfl, rfl, (congrArg (Value.int .i64) (show ((((k : Nat) : Int) + 1) : Int) = (((k + 1) : Nat) : Int) by omega)), rfl, rfl, rfl, rfl, rfl, rfl, rfl, rfl, rfl, rfl, rfl, trivial⟩
  · exact ⟨(k + 1), u4x, (vi (x_l.getD k 0)), (vb (decide (((k : Nat) : Int) < (x_l.length : Int)))), (ve (vs a1 x_l.length c2) ((((k : Nat) : Int)).toNat * 1)), (vi (x_l.getD k 0)), (vi (x_l.getD k 0)), (vb (F_impl_within (x_l.getD k 0) 0 4294967295)), (vb (!(F_impl_within (x_l.getD k 0) 0 4294967295))), (vi (((k : Nat) : Int) + 1)), rfl, m13, (((Ch.refl (fun k => w0.heap.size ≤ k) w0).ext k7 (fun k hk => Nat.le_trans (Nat.le_refl _) hk)).extk k12), (by omega), (by first | rfl | exact allW_next (by assumption) (by omega) (by assumption))⟩
  · show x_l.length - ((((k + 1) : Nat) : Int)).toNat < x_l.length - (((k : Nat) : Int)).toNat; omega

def F_impl_hasBit (x_w : PWin) (x_n : Int) : (Bool) := decide ((((x_w.Bits.getD (((x_n % 1024) / 32)).toNat 0) / (2 : Int) ^ ((x_n % 32)).toNat) % 2) = 1)
theorem C_impl_hasBit (w0 : World) (v_x_w : Value) (x_w : PWin) (r_x_w : R_25 w0 v_x_w x_w) (x_n : Int) (pre0 : x_w.Bits.length = 32) (pre1 : 0 ≤ x_n) : Fn Try.prog 126 #[v_x_w, (vi x_n)] w0 (fun v w' => Keep w0 w' ∧ O_4 w' w0.heap.size v (F_impl_hasBit x_w x_n)) := by
 obtain ⟨a1, c2, rfl, r3, s4⟩ := r_x_w
 refine fn_of (n := 17) (l := [(va (L_25 x_w a1 c2)), (vi x_n), U, U, U, U, U, U, U, U, U, U, U, U, U, U, U]) Try.func126 rfl rfl (by kernel_rfl) rfl ?_
 refine sr ?_
 refine bx (L_25 x_w a1 c2) wN ?_
 intro g6 w1 p7 p8 k9 b10
 have m11 := (Ch.base w0).extk k9
 refine ag (vb false) wN ?_
 refine nx ?_
 refine pu (vp g6 1) wN ?_
 refine ld (vs a1 x_w.Bits.length c2) wN isAgg_23 b10 ?_
 refine mv (vi x_n) wN ?_
 refine wl_rem x_n 1024 wN rfl rfl (by kernel_rfl) (by first | omega | assumption) ?_
 refine wl_quo (x_n % 1024) 32 wN rfl rfl (by kernel_rfl) (by omega) (by omega) (by omega) ?_
 refine wl_index wN ((x_n % 1024) / 32) rfl rfl rfl slTy_23 rfl rfl (r3.from0 m11) (by first | omega | (simp only [List.length_cons, List.length_nil, List.length_replicate, List.length_append, List.length_take, List.length_set, List.length_map]; omega)) (by first | omega | (simp only [List.length_cons, List.length_nil, List.length_replicate, List.length_append, List.length_take, List.length_set, List.length_map]; omega)) ?_
 refine wl_loadE (iV (x_w.Bits.getD (((x_n % 1024) / 32)).toNat 0)) wN rfl rfl rfl rfl isAgg_3 (r3.from0 m11) (iget (by simp) (by first | omega | (simp only [List.length_cons, List.length_nil, List.length_replicate, List.length_append, List.length_take, List.length_set, List.length_map]; omega))) ?_
 refine mv (vi x_n) wN ?_
 refine wl_rem x_n 32 wN rfl rfl (by kernel_rfl) (by first | omega | assumption) ?_
 refine wl_shr (x_w.Bits.getD (((x_n % 1024) / 32)).toNat 0) (x_n % 32) wN rfl rfl rfl rfl rfl (by omega) (by omega) ?_
 refine wl_and ((x_w.Bits.getD (((x_n % 1024) / 32)).toNat 0) / (2 : Int) ^ ((x_n % 32)).toNat) 1 2 1 wN rfl rfl (by decide) (by decide) (by decide) (by kernel_rfl) ?_
 refine pu (vb (decide ((((x_w.Bits.getD (((x_n % 1024) / 32)).toNat 0) / (2 : Int) ^ ((x_n % 32)).toNat) % 2) = 1))) wN ?_
 refine ag (vb (decide ((((x_w.Bits.getD (((x_n % 1024) / 32)).toNat 0) / (2 : Int) ^ ((x_n % 32)).toNat) % 2) = 1))) wN ?_
 refine wl_nil <| wq_then <| wc_ret ?_
 refine ret_1 (.inl rfl) (vb (decide ((((x_w.Bits.getD (((x_n % 1024) / 32)).toNat 0) / (2 : Int) ^ ((x_n % 32)).toNat) % 2) = 1))) rfl rfl ?_
 refine ⟨m11.keep0, ?_⟩
 have hF12 : F_impl_hasBit x_w x_n = decide ((((x_w.Bits.getD (((x_n % 1024) / 32)).toNat 0) / (2 : Int) ^ ((x_n % 32)).toNat) % 2) = 1) := by rfl
 rw [hF12]
 exact rfl

def iWin (w : PWin) : Bool := bif F_impl_within w.Top (-1) 281474976710655 then (bif areW w.Bits 32 then (bif noneIn (F_impl_hasBit w) (w.Top + 1) 1024 then (decide (w.Top = -1) || F_impl_hasBit w w.Top) else false) else false) else false
theorem C_impl_WinOk (w0 : World) (v_x_w : Value) (x_w : PWin) (r_x_w : R_25 w0 v_x_w x_w)  : Fn Try.prog 111 #[v_x_w] w0 (fun v w' => Keep w0 w' ∧ O_4 w' w0.heap.size v (iWin x_w)) := by
 obtain ⟨a1, c2, rfl, r3, s4⟩ := r_x_w
 refine fn_of (n := 33) (l := [(va (L_25 x_w a1 c2)), U, U, U, U, U, U, U, U, U, U, U, U, U, U, U, U, U, U, U, U, U, U, U, U, U, U, U, U, U, U, U, U]) Try.func111 rfl rfl (by kernel_rfl) rfl ?_
 refine sr ?_
 refine bx (L_25 x_w a1 c2) wN ?_
 intro g6 w1 p7 p8 k9 b10
 have m11 := (Ch.base w0).extk k9
 refine ag (vb false) wN ?_
 refine wl_nil <| wq_then <| wc_seq <| sr ?_
 refine pu (vp g6 0) wN ?_
 refine ld (vi x_w.Top) wN isAgg_3 b10 ?_
 refine cl wN (C_impl_within w1 x_w.Top (-1) 281474976710655) ?_
 rintro _ w2 ⟨k12, rfl⟩
 have m13 := m11.extk k12
 refine pu (vb (!(F_impl_within x_w.Top (-1) 281474976710655))) wN ?_
 refine mv (vb (!(F_impl_within x_w.Top (-1) 281474976710655))) wN ?_
 rcases bf (F_impl_within x_w.Top (-1) 281474976710655) with h14 | h14
 ·have q47 := impl_within_f h14
  refine sk (congrArg not h14) ?_
  refine sk (congrArg not h14) ?_
  refine sk (congrArg not h14) ?_
  refine sk (congrArg not h14) ?_
  refine pk (vb true) wN (congrArg not h14) ?_
  refine wl_nil <| wq_then ?_
  refine ct (Eq.refl true) ?_
  refine sr ?_
  refine ag (vb false) wN ?_
  refine wl_nil <| wq_then <| wc_ret <| wq_then_ret ?_
  refine ret_1 (.inl rfl) (vb false) rfl rfl ?_
  refine ⟨m13.keep0, ?_⟩
  have hF48 : iWin x_w = false := by first | (simp [iWin, h14]; done) | (have hz := noneIn_f (f := F_impl_hasBit x_w) (a := x_w.Top + 1) (b := 1024) (q := q) (by assumption) (by omega) (by omega); simp [iWin, h14, hz]; done) | (have hz := noneIn_t (f := F_impl_hasBit x_w) (a := x_w.Top + 1) (b := 1024) (q := q) (by assumption) (by omega); simp [iWin, h14, hz]; done)
  rw [hF48]
  exact rfl
 have q15 := impl_within_t h14
 refine pu (vp g6 1) (wS (congrArg not h14)) ?_
 have b16 := (b10.kp k12)
 refine ld (vs a1 x_w.Bits.length c2) (wS (congrArg not h14)) isAgg_23 b16 ?_
 refine cl (wS (congrArg not h14)) (C_impl_areWords w2 _ x_w.Bits (mR_23 (r3.from0 m13) s4) 32) ?_
 rintro _ w3 ⟨k17, rfl⟩
 have m18 := m13.extk k17
 refine pu (vb (!(areW x_w.Bits 32))) (wS (congrArg not h14)) ?_
 refine pf (vb (!(areW x_w.Bits 32))) wN (congrArg not h14) ?_
 refine wl_nil <| wq_then ?_
 rcases bf (areW x_w.Bits 32) with h19 | h19
 ·refine ct (congrArg not h19) ?_
  refine sr ?_
  refine ag (vb false) wN ?_
  refine wl_nil <| wq_then <| wc_ret <| wq_then_ret ?_
  refine ret_1 (.inl rfl) (vb false) rfl rfl ?_
  refine ⟨m18.keep0, ?_⟩
  have hF46 : iWin x_w = false := by first | (simp [iWin, h14, h19]; done) | (have hz := noneIn_f (f := F_impl_hasBit x_w) (a := x_w.Top + 1) (b := 1024) (q := q) (by assumption) (by omega) (by omega); simp [iWin, h14, h19, hz]; done) | (have hz := noneIn_t (f := F_impl_hasBit x_w) (a := x_w.Top + 1) (b := 1024) (q := q) (by assumption) (by omega); simp [iWin, h14, h19, hz]; done)
  rw [hF46]
  exact rfl
 have q20 := areW_t h19
 refine cf (congrArg not h19) ?_
 refine wc_skip <| wq_then <| wc_seq <| sr ?_
 refine pu (vp g6 0) wN ?_
 have b21 := (b16.kp k17)
 refine ld (vi x_w.Top) wN isAgg_3 b21 ?_
 refine ar (x_w.Top + 1) wN ?_
 refine ag (vi (x_w.Top + 1)) wN ?_
 refine wl_nil <| wq_then <| wc_block ?_
 refine wc_norm [(va (L_25 x_w a1 c2)), (vp g6 0), (vb false), (vi (x_w.Top + 1)), (vp g6 0), (vi x_w.Top), (vb (F_impl_within x_w.Top (-1) 281474976710655)), (vb (!(F_impl_within x_w.Top (-1) 281474976710655))), (vb (!(F_impl_within x_w.Top (-1) 281474976710655))), (vp g6 1), (vs a1 x_w.Bits.length c2), (vb (areW x_w.Bits 32)), (vb (!(areW x_w.Bits 32))), (vb (!(areW x_w.Bits 32))), (vp g6 0), (vi x_w.Top), (vi (x_w.Top + 1)), U, U, U, U, U, U, U, U, U, U, U, U, U, U, U, U] rfl ⟨rfl, rfl, rfl, rfl, rfl, rfl, rfl, rfl, rfl, rfl, rfl, rfl, rfl, rfl, rfl, rfl, rfl, rfl, rfl, rfl, rfl, rfl, rfl, rfl, rfl, rfl, rfl, rfl, rfl, rfl, rfl, rfl, rfl, trivial⟩ ?_
 refine wc_loop (fun e' w' => ∃ (q : Int) (u2x u17x u18x u19x u20x u21x u22x u23x : Value), e' = lst [(va (L_25 x_w a1 c2)), (vp g6 0), u2x, (vi q), (vp g6 0), (vi x_w.Top), (vb (F_impl_within x_w.Top (-1) 281474976710655)), (vb (!(F_impl_within x_w.Top (-1) 281474976710655))), (vb (!(F_impl_within x_w.Top (-1) 281474976710655))), (vp g6 1), (vs a1 x_w.Bits.length c2), (vb (areW x_w.Bits 32)), (vb (!(areW x_w.Bits 32))), (vb (!(areW x_w.Bits 32))), (vp g6 0), (vi x_w.Top), (vi (x_w.Top + 1)), u17x, u18x, u19x, u20x, u21x, u22x, u23x, U, U, U, U, U, U, U, U, U] ∧ Ch (fun k => w0.heap.size ≤ k) w0 w' ∧ Ch (fun k => w3.heap.size ≤ k) w3 w' ∧ x_w.Top + 1 ≤ q ∧ q ≤ 281474976710656 ∧ ∀ m : Int, x_w.Top + 1 ≤ m → m < q → F_impl_hasBit x_w m = false) (fun e' _ => (1024 - (intOf (e' 3))).toNat) ?_ ?_
 ·exact ⟨(x_w.Top + 1), (vb false), U, U, U, U, U, U, U, rfl, m18, (Ch.refl (fun k => w3.heap.size ≤ k) w3), (by omega), (by omega), (by first | (intro m h1 h2; omega) | exact none_next (by assumption) (by assumption))⟩
 ·rintro _ w4 ⟨q, u2x, u17x, u18x, u19x, u20x, u21x, u22x, u23x, rfl, m22, k23, i24, i25, i26⟩
  refine wc_seq <| sr ?_
  refine mv (vi q) wN ?_
  refine pu (vb (decide (q < 1024))) wN ?_
  refine wl_nil <| wq_then ?_
  rcases bf (decide (q < 1024)) with h27 | h27
  ·have q36 := of_decide_eq_false h27
   refine cf h27 ?_
   refine wc_exit <| wq_then_exit <| wq_then_exit <| wq_blk_exit <| wq_then <| sr ?_
   refine pu (vp g6 0) wN ?_
   have b37 := (b21.ch k23 (Nat.not_le.2 (Nat.lt_of_lt_of_le p8 (Nat.le_trans k12.size k17.size))))
   refine ld (vi x_w.Top) wN isAgg_3 b37 ?_
   refine pu (vb (decide (x_w.Top = (-1)))) wN ?_
   refine mv (vb (decide (x_w.Top = (-1)))) wN ?_
   rcases bt (decide (x_w.Top = (-1))) with h38 | h38
   ·have q39 := of_decide_eq_true h38
    refine sk h38 ?_
    refine sk h38 ?_
    refine sk h38 ?_
    refine sk h38 ?_
    refine pk (vb true) wN h38 ?_
    refine ag (vb true) wN ?_
    refine wl_nil <| wq_then <| wc_ret ?_
    refine ret_1 (.inl rfl) (vb true) rfl rfl ?_
    refine ⟨m22.keep0, ?_⟩
    have hF40 : iWin x_w = true := by first | (simp [iWin, h14, h19, h27, h38]; done) | (have hz := noneIn_f (f := F_impl_hasBit x_w) (a := x_w.Top + 1) (b := 1024) (q := q) (by assumption) (by omega) (by omega); simp [iWin, h14, h19, h27, h38, hz]; done) | (have hz := noneIn_t (f := F_impl_hasBit x_w) (a := x_w.Top + 1) (b := 1024) (q := q) (by assumption) (by omega); simp [iWin, h14, h19, h27, h38, hz]; done)
    rw [hF40]
    exact rfl
   have q41 := of_decide_eq_false h38
   refine lN (L_25 x_w a1 c2) (wS h38) isAgg_25 sizeOf_25 b37 ?_
   refine pu (vp g6 0) (wS h38) ?_
   refine ld (vi x_w.Top) (wS h38) isAgg_3 b37 ?_
   refine cl (wS h38) (C_impl_hasBit w4 _ x_w (mR_25 (r3.from0 m22) s4) x_w.Top (by first | assumption | omega) (by first | assumption | omega)) ?_
   rintro _ w5 ⟨k42, rfl⟩
   have m43 := m22.extk k42
   refine pf (vb (F_impl_hasBit x_w x_w.Top)) wN h38 ?_
   refine ag (vb (F_impl_hasBit x_w x_w.Top)) wN ?_
   refine wl_nil <| wq_then <| wc_ret ?_
   refine ret_1 (.inl rfl) (vb (F_impl_hasBit x_w x_w.Top)) rfl rfl ?_
   refine ⟨m43.keep0, ?_⟩
   have hF44 : iWin x_w = (F_impl_hasBit x_w x_w.Top) := by first | (simp [iWin, h14, h19, h27, h38]; done) | (have hz := noneIn_f (f := F_impl_hasBit x_w) (a := x_w.Top + 1) (b := 1024) (q := q) (by assumption) (by omega) (by omega); simp [iWin, h14, h19, h27, h38, hz]; done) | (have hz := noneIn_t (f := F_impl_hasBit x_w) (a := x_w.Top + 1) (b := 1024) (q := q) (by assumption) (by omega); simp [iWin, h14, h19, h27, h38, hz]; done)
   rw [hF44]
   exact rfl
  have q28 := of_decide_eq_true h27
  refine ct h27 ?_
  refine wc_skip <| wq_then <| wc_seq <| wc_block <| sr ?_
  have b29 := (b21.ch k23 (Nat.not_le.2 (Nat.lt_of_lt_of_le p8 (Nat.le_trans k12.size k17.size))))
  refine lN (L_25 x_w a1 c2) wN isAgg_25 sizeOf_25 b29 ?_
  refine mv (vi q) wN ?_
  refine cl wN (C_impl_hasBit w4 _ x_w (mR_25 (r3.from0 m22) s4) q (by first | assumption | omega) (by first | assumption | omega)) ?_
  rintro _ w5 ⟨k30, rfl⟩
  have m31 := m22.extk k30
  refine wl_nil <| wq_then ?_
  rcases bt (F_impl_hasBit x_w q) with h32 | h32
  ·refine ct h32 ?_
   refine sr ?_
   refine ag (vb false) wN ?_
   refine wl_nil <| wq_then <| wc_ret <| wq_blk_ret <| wq_then_ret <| wq_then_ret <| wq_blk_ret <| wq_then_ret ?_
   refine ret_1 (.inl rfl) (vb false) rfl rfl ?_
   refine ⟨m31.keep0, ?_⟩
   have hF34 : iWin x_w = false := by first | (simp [iWin, h14, h19, h27, h32]; done) | (have hz := noneIn_f (f := F_impl_hasBit x_w) (a := x_w.Top + 1) (b := 1024) (q := q) (by assumption) (by omega) (by omega); simp [iWin, h14, h19, h27, h32, hz]; done) | (have hz := noneIn_t (f := F_impl_hasBit x_w) (a := x_w.Top + 1) (b := 1024) (q := q) (by assumption) (by omega); simp [iWin, h14, h19, h27, h32, hz]; done)
   rw [hF34]
   exact rfl
  refine cf h32 ?_
  refine wc_skip <| wq_blk_normal <| wq_then <| wc_region ?_
  refine mv (vi q) wN ?_
  refine ar (q + 1) wN ?_
  refine ag (vi (q + 1)) wN ?_
  refine wl_nil ?_
  refine wq_loopN (w0 := w4) [(va (L_25 x_w a1 c2)), (vp g6 0), u2x, (vi (q + 1)), (vp g6 0), (vi x_w.Top), (vb (F_impl_within x_w.Top (-1) 281474976710655)), (vb (!(F_impl_within x_w.Top (-1) 281474976710655))), (vb (!(F_impl_within x_w.Top (-1) 281474976710655))), (vp g6 1), (vs a1 x_w.Bits.length c2), (vb (areW x_w.Bits 32)), (vb (!(areW x_w.Bits 32))), (vb (!(areW x_w.Bits 32))), (vp g6 0), (vi x_w.Top), (vi (x_w.Top + 1)), (vi q), (vb (decide (q < 1024))), (vi q), (vi (q + 1)), (va (L_25 x_w a1 c2)), (vi q), (vb (F_impl_hasBit x_w q)), U, U, U, U, U, U, U, U, U] rfl ?_ ?_ ?_
  · exact ⟨rfl, rfl, rfl, rfl, rfl, rfl, rfl, rfl, rfl, rfl, rfl, rfl, rfl, rfl, rfl, rfl, rfl, rfl, rfl, rfl, rfl, rfl, rfl, rfl, rfl, rfl, rfl, rfl, rfl, rfl, rfl, rfl, rfl, trivial⟩
  · exact ⟨(q + 1), u2x, (vi q), (vb (decide (q < 1024))), (vi q), (vi (q + 1)), (va (L_25 x_w a1 c2)), (vi q), (vb (F_impl_hasBit x_w q)), rfl, m31, (((Ch.refl (fun k => w3.heap.size ≤ k) w3).ext k23 (fun k hk => Nat.le_trans (Nat.le_refl _) hk)).extk k30), (by omega), (by omega), (by first | (intro m h1 h2; omega) | exact none_next (by assumption) (by assumption))⟩
  · show (1024 - (q + 1)).toNat < (1024 - q).toNat; omega

def F_impl_EpOk (x_e : PEp) : (Bool) := bif (F_impl_within x_e.N 0 4294967295) then (bif (decide ((x_e.Key.length : Int) = 32)) then (bif (F_impl_within x_e.Seq 0 281474976710656) then ((iWin x_e.Win)) else (false)) else (false)) else (false)
theorem C_impl_EpOk (w0 : World) (v_x_e : Value) (x_e : PEp) (r_x_e : R_27 w0 v_x_e x_e)  : Fn Try.prog 79 #[v_x_e] w0 (fun v w' => Keep w0 w' ∧ O_4 w' w0.heap.size v (F_impl_EpOk x_e)) := by
 obtain ⟨a1, c2, a6, c7, rfl, r3, s4, r8, s9⟩ := r_x_e
 refine fn_of (n := 22) (l := [(va (L_27 x_e a1 c2 a6 c7)), U, U, U, U, U, U, U, U, U, U, U, U, U, U, U, U, U, U, U, U, U]) Try.func79 rfl rfl (by kernel_rfl) rfl ?_
 refine sr ?_
 refine bx (L_27 x_e a1 c2 a6 c7) wN ?_
 intro g11 w1 p12 p13 k14 b15
 have m16 := (Ch.base w0).extk k14
 refine ag (vb false) wN ?_
 refine nx ?_
 refine pu (vp g11 0) wN ?_
 refine ld (vi x_e.N) wN isAgg_3 b15 ?_
 refine cl wN (C_impl_within w1 x_e.N 0 4294967295) ?_
 rintro _ w2 ⟨k17, rfl⟩
 have m18 := m16.extk k17
 refine mv (vb (F_impl_within x_e.N 0 4294967295)) wN ?_
 rcases bf (F_impl_within x_e.N 0 4294967295) with h19 | h19
 ·have q36 := impl_within_f h19
  refine sk h19 ?_
  refine sk h19 ?_
  refine sk h19 ?_
  refine sk h19 ?_
  refine pf (vb false) wN h19 ?_
  refine mv (vb false) wN ?_
  refine sk (Eq.refl false) ?_
  refine sk (Eq.refl false) ?_
  refine sk (Eq.refl false) ?_
  refine pf (vb false) wN (Eq.refl false) ?_
  refine mv (vb false) wN ?_
  refine sk (Eq.refl false) ?_
  refine sk (Eq.refl false) ?_
  refine sk (Eq.refl false) ?_
  refine pf (vb false) wN (Eq.refl false) ?_
  refine ag (vb false) wN ?_
  refine wl_nil <| wq_then <| wc_ret ?_
  refine ret_1 (.inl rfl) (vb false) rfl rfl ?_
  refine ⟨m18.keep0, ?_⟩
  have hF37 : F_impl_EpOk x_e = false := by simp only [F_impl_EpOk, h19, cond_true, cond_false]
  rw [hF37]
  exact rfl
 have q20 := impl_within_t h19
 refine pu (vp g11 1) (wS h19) ?_
 have b21 := (b15.kp k17)
 refine ld (vs a1 x_e.Key.length c2) (wS h19) isAgg_22 b21 ?_
 refine ln (wS h19) slTy_22 (r3.from0 m18) ?_
 refine pu (vb (decide ((x_e.Key.length : Int) = 32))) (wS h19) ?_
 refine pk (vb (decide ((x_e.Key.length : Int) = 32))) wN h19 ?_
 refine mv (vb (decide ((x_e.Key.length : Int) = 32))) wN ?_
 rcases bf (decide ((x_e.Key.length : Int) = 32)) with h22 | h22
 ·have q34 := of_decide_eq_false h22
  refine sk h22 ?_
  refine sk h22 ?_
  refine sk h22 ?_
  refine pf (vb false) wN h22 ?_
  refine mv (vb false) wN ?_
  refine sk (Eq.refl false) ?_
  refine sk (Eq.refl false) ?_
  refine sk (Eq.refl false) ?_
  refine pf (vb false) wN (Eq.refl false) ?_
  refine ag (vb false) wN ?_
  refine wl_nil <| wq_then <| wc_ret ?_
  refine ret_1 (.inl rfl) (vb false) rfl rfl ?_
  refine ⟨m18.keep0, ?_⟩
  have hF35 : F_impl_EpOk x_e = false := by simp only [F_impl_EpOk, h19, h22, cond_true, cond_false]
  rw [hF35]
  exact rfl
 have q23 := of_decide_eq_true h22
 refine pu (vp g11 2) (wS h22) ?_
 refine ld (vi x_e.Seq) (wS h22) isAgg_3 b21 ?_
 refine cl (wS h22) (C_impl_within w2 x_e.Seq 0 281474976710656) ?_
 rintro _ w3 ⟨k24, rfl⟩
 have m25 := m18.extk k24
 refine pk (vb (F_impl_within x_e.Seq 0 281474976710656)) wN h22 ?_
 refine mv (vb (F_impl_within x_e.Seq 0 281474976710656)) wN ?_
 rcases bf (F_impl_within x_e.Seq 0 281474976710656) with h26 | h26
 ·have q32 := impl_within_f h26
  refine sk h26 ?_
  refine sk h26 ?_
  refine sk h26 ?_
  refine pf (vb false) wN h26 ?_
  refine ag (vb false) wN ?_
  refine wl_nil <| wq_then <| wc_ret ?_
  refine ret_1 (.inl rfl) (vb false) rfl rfl ?_
  refine ⟨m25.keep0, ?_⟩
  have hF33 : F_impl_EpOk x_e = false := by simp only [F_impl_EpOk, h19, h22, h26, cond_true, cond_false]
  rw [hF33]
  exact rfl
 have q27 := impl_within_t h26
 refine pu (vp g11 3) (wS h26) ?_
 have b28 := (b21.kp k24)
 refine lN (L_25 x_e.Win a6 c7) (wS h26) isAgg_25 sizeOf_25 b28 ?_
 refine cl (wS h26) (C_impl_WinOk w3 _ x_e.Win (mR_25 (r8.from0 m25) s9)) ?_
 rintro _ w4 ⟨k29, rfl⟩
 have m30 := m25.extk k29
 refine pk (vb (iWin x_e.Win)) wN h26 ?_
 refine ag (vb (iWin x_e.Win)) wN ?_
 refine wl_nil <| wq_then <| wc_ret ?_
 refine ret_1 (.inl rfl) (vb (iWin x_e.Win)) rfl rfl ?_
 refine ⟨m30.keep0, ?_⟩
 have hF31 : F_impl_EpOk x_e = (iWin x_e.Win) := by simp only [F_impl_EpOk, h19, h22, h26, cond_true, cond_false]
 rw [hF31]
 exact rfl
theorem impl_EpOk_t {e : PEp} (h : F_impl_EpOk e = true) : 0 ≤ e.N ∧ e.N ≤ 4294967295 ∧ (e.Key.length : Int) = 32 := by
  cases h1 : F_impl_within e.N 0 4294967295 with
  | false => simp [F_impl_EpOk, h1] at h
  | true =>
    have := impl_within_t h1
    by_cases h2 : (e.Key.length : Int) = 32
    · exact ⟨this.1, this.2, h2⟩
    · simp [F_impl_EpOk, h1, h2] at h

def F_bytes_Equal (x_a : List UInt8) (x_b : List UInt8) : (Bool) := (eqS (ByteArray.mk x_a.toArray) (ByteArray.mk x_b.toArray))
theorem C_bytes_Equal (w0 : World) (v_x_a : Value) (x_a : List UInt8) (r_x_a : R_22 w0 v_x_a x_a) (v_x_b : Value) (x_b : List UInt8) (r_x_b : R_22 w0 v_x_b x_b)  : Fn Try.prog 85 #[v_x_a, v_x_b] w0 (fun v w' => Keep w0 w' ∧ O_4 w' w0.heap.size v (F_bytes_Equal x_a x_b)) := by
 obtain ⟨a1, c2, rfl, r3, s4⟩ := r_x_a
 obtain ⟨a6, c7, rfl, r8, s9⟩ := r_x_b
 refine fn_of (n := 10) (l := [(vs a1 x_a.length c2), (vs a6 x_b.length c7), U, U, U, U, U, U, U, U]) Try.func85 rfl rfl (by kernel_rfl) rfl ?_
 refine sr ?_
 refine ag (vb false) wN ?_
 refine nx ?_
 refine mv (vs a1 x_a.length c2) wN ?_
 refine wl_b2s x_a wN rfl rfl rfl rfl Try.underlying22 Try.underlying5 Try.underlying9 r3 ?_
 refine mv (vs a6 x_b.length c7) wN ?_
 refine wl_b2s x_b wN rfl rfl rfl rfl Try.underlying22 Try.underlying5 Try.underlying9 r8 ?_
 refine pu (vb (eqS (ByteArray.mk x_a.toArray) (ByteArray.mk x_b.toArray))) wN ?_
 refine ag (vb (eqS (ByteArray.mk x_a.toArray) (ByteArray.mk x_b.toArray))) wN ?_
 refine wl_nil <| wq_then <| wc_ret ?_
 refine ret_1 (.inl rfl) (vb (eqS (ByteArray.mk x_a.toArray) (ByteArray.mk x_b.toArray))) rfl rfl ?_
 refine ⟨Ch.refl _ _, ?_⟩
 have hF11 : F_bytes_Equal x_a x_b = (eqS (ByteArray.mk x_a.toArray) (ByteArray.mk x_b.toArray)) := by rfl
 rw [hF11]
 exact rfl

theorem C_impl_sameInts (w0 : World) (v_x_a : Value) (x_a : List Int) (r_x_a : R_23 w0 v_x_a x_a) (v_x_b : Value) (x_b : List Int) (r_x_b : R_23 w0 v_x_b x_b)  : Fn Try.prog 127 #[v_x_a, v_x_b] w0 (fun v w' => Keep w0 w' ∧ O_4 w' w0.heap.size v (eqI x_a x_b)) := by
 obtain ⟨a1, c2, rfl, r3, s4⟩ := r_x_a
 obtain ⟨a6, c7, rfl, r8, s9⟩ := r_x_b
 refine fn_of (n := 26) (l := [(vs a1 x_a.length c2), (vs a6 x_b.length c7), U, U, U, U, U, U, U, U, U, U, U, U, U, U, U, U, U, U, U, U, U, U, U, U]) Try.func127 rfl rfl (by kernel_rfl) rfl ?_
 refine sr ?_
 refine ag (vb false) wN ?_
 refine wl_nil <| wq_then <| wc_seq <| sr ?_
 refine mv (vs a1 x_a.length c2) wN ?_
 refine ln wN slTy_23 r3 ?_
 refine mv (vs a6 x_b.length c7) wN ?_
 refine ln wN slTy_23 r8 ?_
 refine pu (vb (!(decide ((x_a.length : Int) = (x_b.length : Int))))) wN ?_
 refine wl_nil <| wq_then ?_
 rcases bf (decide ((x_a.length : Int) = (x_b.length : Int))) with h11 | h11
 ·have q25 := of_decide_eq_false h11
  refine ct (congrArg not h11) ?_
  refine sr ?_
  refine ag (vb false) wN ?_
  refine wl_nil <| wq_then <| wc_ret <| wq_then_ret ?_
  refine ret_1 (.inl rfl) (vb false) rfl rfl ?_
  refine ⟨Ch.refl _ _, ?_⟩
  have hF26 : eqI x_a x_b = false := by first | exact eqI_len (by assumption) | exact eqI_el (by assumption) | exact eqI_all (by assumption) (by omega) (by omega)
  rw [hF26]
  exact rfl
 have q12 := of_decide_eq_true h11
 refine cf (congrArg not h11) ?_
 refine wc_skip <| wq_then <| wc_seq <| sr ?_
 refine mv (vs a1 x_a.length c2) wN ?_
 refine ln wN slTy_23 r3 ?_
 refine mv (vi 0) wN ?_
 refine wl_nil <| wq_then <| wc_block ?_
 refine wc_norm [(vs a1 x_a.length c2), (vs a6 x_b.length c7), U, U, (vb false), U, U, (vs a1 x_a.length c2), (vi (x_a.length : Int)), (vs a6 x_b.length c7), (vi (x_b.length : Int)), (vb (!(decide ((x_a.length : Int) = (x_b.length : Int))))), (vs a1 x_a.length c2), (vi (x_a.length : Int)), (vi 0), U, U, U, U, U, U, U, U, U, U, U] rfl ⟨rfl, rfl, rfl, rfl, rfl, rfl, rfl, rfl, rfl, rfl, rfl, rfl, rfl, rfl, rfl, rfl, rfl, rfl, rfl, rfl, rfl, rfl, rfl, rfl, rfl, rfl, trivial⟩ ?_
 refine wc_loop (fun e' w' => ∃ (k : Nat) (u4x u5x u6x u15x u16x u17x u18x u19x u20x u21x u22x u23x u24x u25x : Value), e' = lst [(vs a1 x_a.length c2), (vs a6 x_b.length c7), U, U, u4x, u5x, u6x, (vs a1 x_a.length c2), (vi (x_a.length : Int)), (vs a6 x_b.length c7), (vi (x_b.length : Int)), (vb (!(decide ((x_a.length : Int) = (x_b.length : Int))))), (vs a1 x_a.length c2), (vi (x_a.length : Int)), (vi ((k : Nat) : Int)), u15x, u16x, u17x, u18x, u19x, u20x, u21x, u22x, u23x, u24x, u25x] ∧ Ch (fun k => w0.heap.size ≤ k) w0 w' ∧ Ch (fun k => w0.heap.size ≤ k) w0 w' ∧ k ≤ x_a.length ∧ x_a.take k = x_b.take k) (fun e' _ => x_a.length - ((intOf (e' 14))).toNat) ?_ ?_
 ·exact ⟨0, (vb false), U, U, U, U, U, U, U, U, U, U, U, U, U, (congrArg (fun (x14z : Value) => lst [(vs a1 x_a.length c2), (vs a6 x_b.length c7), U, U, (vb false), U, U, (vs a1 x_a.length c2), (vi (x_a.length : Int)), (vs a6 x_b.length c7), (vi (x_b.length : Int)), (vb (!(decide ((x_a.length : Int) = (x_b.length : Int))))), (vs a1 x_a.length c2), (vi (x_a.length : Int)), x14z, U, U, U, U, U, U, U, U, U, U, U]) (congrArg (Value.int .i64) (show (0 : Int) = ((0 : Nat) : Int) by omega))), (Ch.base w0), (Ch.refl (fun k => w0.heap.size ≤ k) w0), (by omega), (by first | rfl | exact eqI_next (by assumption) (by omega) (by omega) (by assumption))⟩
 ·rintro _ w1 ⟨k, u4x, u5x, u6x, u15x, u16x, u17x, u18x, u19x, u20x, u21x, u22x, u23x, u24x, u25x, rfl, m13, k14, i15, i16⟩
  refine sr ?_
  refine pu (vb (decide (((k : Nat) : Int) < (x_a.length : Int)))) wN ?_
  refine wl_nil <| wq_then <| wc_seq ?_
  rcases bf (decide (((k : Nat) : Int) < (x_a.length : Int))) with h17 | h17
  ·have q23 := of_decide_eq_false h17
   refine cf h17 ?_
   refine wc_exit <| wq_then_exit <| wq_then_exit <| wq_blk_exit <| wq_then <| sr ?_
   refine ag (vb true) wN ?_
   refine wl_nil <| wq_then <| wc_ret ?_
   refine ret_1 (.inl rfl) (vb true) rfl rfl ?_
   refine ⟨m13.keep0, ?_⟩
   have hF24 : eqI x_a x_b = true := by first | exact eqI_len (by assumption) | exact eqI_el (by assumption) | exact eqI_all (by assumption) (by omega) (by omega)
   rw [hF24]
   exact rfl
  have q18 := of_decide_eq_true h17
  refine ct h17 ?_
  refine wc_skip <| wq_then <| wc_seq <| wc_block <| sr ?_
  refine mv (vi ((k : Nat) : Int)) wN ?_
  refine wl_index wN ((k : Nat) : Int) rfl rfl rfl slTy_23 rfl rfl (r3.from0 m13) (by first | omega | (simp only [List.length_cons, List.length_nil, List.length_replicate, List.length_append, List.length_take, List.length_set, List.length_map]; omega)) (by first | omega | (simp only [List.length_cons, List.length_nil, List.length_replicate, List.length_append, List.length_take, List.length_set, List.length_map]; omega)) ?_
  refine wl_loadE (iV (x_a.getD k 0)) wN rfl rfl rfl rfl isAgg_3 (r3.from0 m13) (iget (by simp) (by first | omega | (simp only [List.length_cons, List.length_nil, List.length_replicate, List.length_append, List.length_take, List.length_set, List.length_map]; omega))) ?_
  refine ag (vi ((k : Nat) : Int)) wN ?_
  refine ag (vi (x_a.getD k 0)) wN ?_
  refine nx ?_
  refine mv (vi (x_a.getD k 0)) wN ?_
  refine mv (vs a6 x_b.length c7) wN ?_
  refine mv (vi ((k : Nat) : Int)) wN ?_
  refine wl_index wN ((k : Nat) : Int) rfl rfl rfl slTy_23 rfl rfl (r8.from0 m13) (by first | omega | (simp only [List.length_cons, List.length_nil, List.length_replicate, List.length_append, List.length_take, List.length_set, List.length_map]; omega)) (by first | omega | (simp only [List.length_cons, List.length_nil, List.length_replicate, List.length_append, List.length_take, List.length_set, List.length_map]; omega)) ?_
  refine wl_loadE (iV (x_b.getD k 0)) wN rfl rfl rfl rfl isAgg_3 (r8.from0 m13) (iget (by simp) (by first | omega | (simp only [List.length_cons, List.length_nil, List.length_replicate, List.length_append, List.length_take, List.length_set, List.length_map]; omega))) ?_
  refine pu (vb (!(decide ((x_a.getD k 0) = (x_b.getD k 0))))) wN ?_
  refine wl_nil <| wq_then ?_
  rcases bf (decide ((x_a.getD k 0) = (x_b.getD k 0))) with h19 | h19
  ·have q21 := of_decide_eq_false h19
   refine ct (congrArg not h19) ?_
   refine sr ?_
   refine ag (vb false) wN ?_
   refine wl_nil <| wq_then <| wc_ret <| wq_blk_ret <| wq_then_ret <| wq_then_ret <| wq_blk_ret <| wq_then_ret ?_
   refine ret_1 (.inl rfl) (vb false) rfl rfl ?_
   refine ⟨m13.keep0, ?_⟩
   have hF22 : eqI x_a x_b = false := by first | exact eqI_len (by assumption) | exact eqI_el (by assumption) | exact eqI_all (by assumption) (by omega) (by omega)
   rw [hF22]
   exact rfl
  have q20 := of_decide_eq_true h19
  refine cf (congrArg not h19) ?_
  refine wc_skip <| wq_blk_normal <| wq_then <| wc_region ?_
  refine ar (((k : Nat) : Int) + 1) wN ?_
  refine mv (vi (((k : Nat) : Int) + 1)) wN ?_
  refine wl_nil ?_
  refine wq_loopN (w0 := w1) [(vs a1 x_a.length c2), (vs a6 x_b.length c7), U, U, u4x, (vi ((k : Nat) : Int)), (vi (x_a.getD k 0)), (vs a1 x_a.length c2), (vi (x_a.length : Int)), (vs a6 x_b.length c7), (vi (x_b.length : Int)), (vb (!(decide ((x_a.length : Int) = (x_b.length : Int))))), (vs a1 x_a.length c2), (vi (x_a.length : Int)), (vi (((k + 1) : Nat) : Int)), (vb (decide (((k : Nat) : Int) < (x_a.length : Int)))), (vi ((k : Nat) : Int)), (ve (vs a1 x_a.length c2) ((((k : Nat) : Int)).toNat * 1)), (vi (x_a.getD k 0)), (vi (x_a.getD k 0)), (vs a6 x_b.length c7), (vi ((k : Nat) : Int)), (ve (vs a6 x_b.length c7) ((((k : Nat) : Int)).toNat * 1)), (vi (x_b.getD k 0)), (vb (!(decide ((x_a.getD k 0) = (x_b.getD k 0))))), (vi (((k : Nat) : Int) + 1))] rfl ?_ ?_ ?_
  · exact ⟨rfl, rfl, rfl, rfl, rfl, rfl, rfl, rfl, rfl, rfl, rfl, rfl, rfl, rfl, (congrArg (Value.int .i64) (show ((((k : Nat) : Int) + 1) : Int) = (((k + 1) : Nat) : Int) by omega)), rfl, rfl, rfl, rfl, rfl, rfl, rfl, rfl, rfl, rfl, rfl, trivial⟩
  · exact ⟨(k + 1), u4x, (vi ((k : Nat) : Int)), (vi (x_a.getD k 0)), (vb (decide (((k : Nat) : Int) < (x_a.length : Int)))), (vi ((k : Nat) : Int)), (ve (vs a1 x_a.length c2) ((((k : Nat) : Int)).toNat * 1)), (vi (x_a.getD k 0)), (vi (x_a.getD k 0)), (vs a6 x_b.length c7), (vi ((k : Nat) : Int)), (ve (vs a6 x_b.length c7) ((((k : Nat) : Int)).toNat * 1)), (vi (x_b.getD k 0)), (vb (!(decide ((x_a.getD k 0) = (x_b.getD k 0))))), (vi (((k : Nat) : Int) + 1)), rfl, m13, ((Ch.refl (fun k => w0.heap.size ≤ k) w0).ext k14 (fun k hk => Nat.le_trans (Nat.le_refl _) hk)), (by omega), (by first | rfl | exact eqI_next (by assumption) (by omega) (by omega) (by assumption))⟩
  · show x_a.length - ((((k + 1) : Nat) : Int)).toNat < x_a.length - (((k : Nat) : Int)).toNat; omega

def F_impl_sameEp (x_a : PEp) (x_b : PEp) : (Bool) := bif (decide (x_a.N = x_b.N)) then (bif (F_bytes_Equal x_a.Key x_b.Key) then (bif (decide (x_a.Seq = x_b.Seq)) then (bif (decide (x_a.Win.Top = x_b.Win.Top)) then ((eqI x_a.Win.Bits x_b.Win.Bits)) else (false)) else (false)) else (false)) else (false)
theorem C_impl_sameEp (w0 : World) (v_x_a : Value) (x_a : PEp) (r_x_a : R_27 w0 v_x_a x_a) (v_x_b : Value) (x_b : PEp) (r_x_b : R_27 w0 v_x_b x_b)  : Fn Try.prog 112 #[v_x_a, v_x_b] w0 (fun v w' => Keep w0 w' ∧ O_4 w' w0.heap.size v (F_impl_sameEp x_a x_b)) := by
 obtain ⟨a1, c2, a6, c7, rfl, r3, s4, r8, s9⟩ := r_x_a
 obtain ⟨a11, c12, a16, c17, rfl, r13, s14, r18, s19⟩ := r_x_b
 refine fn_of (n := 42) (l := [(va (L_27 x_a a1 c2 a6 c7)), (va (L_27 x_b a11 c12 a16 c17)), U, U, U, U, U, U, U, U, U, U, U, U, U, U, U, U, U, U, U, U, U, U, U, U, U, U, U, U, U, U, U, U, U, U, U, U, U, U, U, U]) Try.func112 rfl rfl (by kernel_rfl) rfl ?_
 refine sr ?_
 refine bx (L_27 x_a a1 c2 a6 c7) wN ?_
 intro g21 w1 p22 p23 k24 b25
 have m26 := (Ch.base w0).extk k24
 refine bx (L_27 x_b a11 c12 a16 c17) wN ?_
 intro g27 w2 p28 p29 k30 b31
 have m32 := m26.extk k30
 refine ag (vb false) wN ?_
 refine nx ?_
 refine pu (vp g21 0) wN ?_
 have b33 := (b25.kp k30)
 refine ld (vi x_a.N) wN isAgg_3 b33 ?_
 refine pu (vp g27 0) wN ?_
 refine ld (vi x_b.N) wN isAgg_3 b31 ?_
 refine pu (vb (decide (x_a.N = x_b.N))) wN ?_
 refine mv (vb (decide (x_a.N = x_b.N))) wN ?_
 rcases bf (decide (x_a.N = x_b.N)) with h34 | h34
 ·have q55 := of_decide_eq_false h34
  refine sk h34 ?_
  refine sk h34 ?_
  refine sk h34 ?_
  refine sk h34 ?_
  refine sk h34 ?_
  refine pf (vb false) wN h34 ?_
  refine mv (vb false) wN ?_
  refine sk (Eq.refl false) ?_
  refine sk (Eq.refl false) ?_
  refine sk (Eq.refl false) ?_
  refine sk (Eq.refl false) ?_
  refine sk (Eq.refl false) ?_
  refine pf (vb false) wN (Eq.refl false) ?_
  refine mv (vb false) wN ?_
  refine sk (Eq.refl false) ?_
  refine sk (Eq.refl false) ?_
  refine sk (Eq.refl false) ?_
  refine sk (Eq.refl false) ?_
  refine sk (Eq.refl false) ?_
  refine sk (Eq.refl false) ?_
  refine sk (Eq.refl false) ?_
  refine pf (vb false) wN (Eq.refl false) ?_
  refine mv (vb false) wN ?_
  refine sk (Eq.refl false) ?_
  refine sk (Eq.refl false) ?_
  refine sk (Eq.refl false) ?_
  refine sk (Eq.refl false) ?_
  refine sk (Eq.refl false) ?_
  refine sk (Eq.refl false) ?_
  refine sk (Eq.refl false) ?_
  refine pf (vb false) wN (Eq.refl false) ?_
  refine ag (vb false) wN ?_
  refine wl_nil <| wq_then <| wc_ret ?_
  refine ret_1 (.inl rfl) (vb false) rfl rfl ?_
  refine ⟨m32.keep0, ?_⟩
  have hF56 : F_impl_sameEp x_a x_b = false := by simp only [F_impl_sameEp, h34, cond_true, cond_false]
  rw [hF56]
  exact rfl
 have q35 := of_decide_eq_true h34
 refine pu (vp g21 1) (wS h34) ?_
 refine ld (vs a1 x_a.Key.length c2) (wS h34) isAgg_22 b33 ?_
 refine pu (vp g27 1) (wS h34) ?_
 refine ld (vs a11 x_b.Key.length c12) (wS h34) isAgg_22 b31 ?_
 refine cl (wS h34) (C_bytes_Equal w2 _ x_a.Key (mR_22 (r3.from0 m32) s4) _ x_b.Key (mR_22 (r13.from0 m32) s14)) ?_
 rintro _ w3 ⟨k36, rfl⟩
 have m37 := m32.extk k36
 refine pk (vb (F_bytes_Equal x_a.Key x_b.Key)) wN h34 ?_
 refine mv (vb (F_bytes_Equal x_a.Key x_b.Key)) wN ?_
 rcases bf (F_bytes_Equal x_a.Key x_b.Key) with h38 | h38
 ·refine sk h38 ?_
  refine sk h38 ?_
  refine sk h38 ?_
  refine sk h38 ?_
  refine sk h38 ?_
  refine pf (vb false) wN h38 ?_
  refine mv (vb false) wN ?_
  refine sk (Eq.refl false) ?_
  refine sk (Eq.refl false) ?_
  refine sk (Eq.refl false) ?_
  refine sk (Eq.refl false) ?_
  refine sk (Eq.refl false) ?_
  refine sk (Eq.refl false) ?_
  refine sk (Eq.refl false) ?_
  refine pf (vb false) wN (Eq.refl false) ?_
  refine mv (vb false) wN ?_
  refine sk (Eq.refl false) ?_
  refine sk (Eq.refl false) ?_
  refine sk (Eq.refl false) ?_
  refine sk (Eq.refl false) ?_
  refine sk (Eq.refl false) ?_
  refine sk (Eq.refl false) ?_
  refine sk (Eq.refl false) ?_
  refine pf (vb false) wN (Eq.refl false) ?_
  refine ag (vb false) wN ?_
  refine wl_nil <| wq_then <| wc_ret ?_
  refine ret_1 (.inl rfl) (vb false) rfl rfl ?_
  refine ⟨m37.keep0, ?_⟩
  have hF54 : F_impl_sameEp x_a x_b = false := by simp only [F_impl_sameEp, h34, h38, cond_true, cond_false]
  rw [hF54]
  exact rfl
 refine pu (vp g21 2) (wS h38) ?_
 have b40 := (b33.kp k36)
 refine ld (vi x_a.Seq) (wS h38) isAgg_3 b40 ?_
 refine pu (vp g27 2) (wS h38) ?_
 have b41 := (b31.kp k36)
 refine ld (vi x_b.Seq) (wS h38) isAgg_3 b41 ?_
 refine pu (vb (decide (x_a.Seq = x_b.Seq))) (wS h38) ?_
 refine pk (vb (decide (x_a.Seq = x_b.Seq))) wN h38 ?_
 refine mv (vb (decide (x_a.Seq = x_b.Seq))) wN ?_
 rcases bf (decide (x_a.Seq = x_b.Seq)) with h42 | h42
 ·have q51 := of_decide_eq_false h42
  refine sk h42 ?_
  refine sk h42 ?_
  refine sk h42 ?_
  refine sk h42 ?_
  refine sk h42 ?_
  refine sk h42 ?_
  refine sk h42 ?_
  refine pf (vb false) wN h42 ?_
  refine mv (vb false) wN ?_
  refine sk (Eq.refl false) ?_
  refine sk (Eq.refl false) ?_
  refine sk (Eq.refl false) ?_
  refine sk (Eq.refl false) ?_
  refine sk (Eq.refl false) ?_
  refine sk (Eq.refl false) ?_
  refine sk (Eq.refl false) ?_
  refine pf (vb false) wN (Eq.refl false) ?_
  refine ag (vb false) wN ?_
  refine wl_nil <| wq_then <| wc_ret ?_
  refine ret_1 (.inl rfl) (vb false) rfl rfl ?_
  refine ⟨m37.keep0, ?_⟩
  have hF52 : F_impl_sameEp x_a x_b = false := by simp only [F_impl_sameEp, h34, h38, h42, cond_true, cond_false]
  rw [hF52]
  exact rfl
 have q43 := of_decide_eq_true h42
 refine pu (vp g21 3) (wS h42) ?_
 refine pu (vp g21 3) (wS h42) ?_
 refine ld (vi x_a.Win.Top) (wS h42) isAgg_3 b40 ?_
 refine pu (vp g27 3) (wS h42) ?_
 refine pu (vp g27 3) (wS h42) ?_
 refine ld (vi x_b.Win.Top) (wS h42) isAgg_3 b41 ?_
 refine pu (vb (decide (x_a.Win.Top = x_b.Win.Top))) (wS h42) ?_
 refine pk (vb (decide (x_a.Win.Top = x_b.Win.Top))) wN h42 ?_
 refine mv (vb (decide (x_a.Win.Top = x_b.Win.Top))) wN ?_
 rcases bf (decide (x_a.Win.Top = x_b.Win.Top)) with h44 | h44
 ·have q49 := of_decide_eq_false h44
  refine sk h44 ?_
  refine sk h44 ?_
  refine sk h44 ?_
  refine sk h44 ?_
  refine sk h44 ?_
  refine sk h44 ?_
  refine sk h44 ?_
  refine pf (vb false) wN h44 ?_
  refine ag (vb false) wN ?_
  refine wl_nil <| wq_then <| wc_ret ?_
  refine ret_1 (.inl rfl) (vb false) rfl rfl ?_
  refine ⟨m37.keep0, ?_⟩
  have hF50 : F_impl_sameEp x_a x_b = false := by simp only [F_impl_sameEp, h34, h38, h42, h44, cond_true, cond_false]
  rw [hF50]
  exact rfl
 have q45 := of_decide_eq_true h44
 refine pu (vp g21 3) (wS h44) ?_
 refine pu (vp g21 4) (wS h44) ?_
 refine ld (vs a6 x_a.Win.Bits.length c7) (wS h44) isAgg_23 b40 ?_
 refine pu (vp g27 3) (wS h44) ?_
 refine pu (vp g27 4) (wS h44) ?_
 refine ld (vs a16 x_b.Win.Bits.length c17) (wS h44) isAgg_23 b41 ?_
 refine cl (wS h44) (C_impl_sameInts w3 _ x_a.Win.Bits (mR_23 (r8.from0 m37) s9) _ x_b.Win.Bits (mR_23 (r18.from0 m37) s19)) ?_
 rintro _ w4 ⟨k46, rfl⟩
 have m47 := m37.extk k46
 refine pk (vb (eqI x_a.Win.Bits x_b.Win.Bits)) wN h44 ?_
 refine ag (vb (eqI x_a.Win.Bits x_b.Win.Bits)) wN ?_
 refine wl_nil <| wq_then <| wc_ret ?_
 refine ret_1 (.inl rfl) (vb (eqI x_a.Win.Bits x_b.Win.Bits)) rfl rfl ?_
 refine ⟨m47.keep0, ?_⟩
 have hF48 : F_impl_sameEp x_a x_b = (eqI x_a.Win.Bits x_b.Win.Bits) := by simp only [F_impl_sameEp, h34, h38, h42, h44, cond_true, cond_false]
 rw [hF48]
 exact rfl

def F_impl_oldOk (x_c : PChan) : (Bool) := bif x_c.HasOld then (bif (F_impl_EpOk x_c.Old) then (bif (decide (x_c.Old.N = (x_c.Cur.N - 1))) then (bif (F_impl_within x_c.Until 0 1000005) then (true) else (bif (decide (x_c.Until = (-1))) then (decide (x_c.Role = 1)) else (false))) else (false)) else (false)) else (bif (F_impl_sameEp x_c.Old { N := 0, Key := [], Seq := 0, Win := { Top := 0, Bits := [] : PWin } : PEp }) then (decide (x_c.Until = 0)) else (false))
theorem C_impl_oldOk (w0 : World) (v_x_c : Value) (x_c : PChan) (r_x_c : R_29 w0 v_x_c x_c) (pre0 : 0 ≤ x_c.Cur.N) (pre1 : x_c.Cur.N ≤ 4294967295) : Fn Try.prog 80 #[v_x_c] w0 (fun v w' => Keep w0 w' ∧ O_4 w' w0.heap.size v (F_impl_oldOk x_c)) := by
 obtain ⟨a1, c2, a6, c7, a11, c12, a16, c17, a21, c22, a26, c27, rfl, r3, s4, r8, s9, r13, s14, r18, s19, r23, s24, r28, s29⟩ := r_x_c
 refine fn_of (n := 42) (l := [(va (L_29 x_c a1 c2 a6 c7 a11 c12 a16 c17 a21 c22 a26 c27)), U, U, U, U, U, U, U, U, U, U, U, U, U, U, U, U, U, U, U, U, U, U, U, U, U, U, U, U, U, U, U, U, U, U, U, U, U, U, U, U, U]) Try.func80 rfl rfl (by kernel_rfl) rfl ?_
 refine sr ?_
 refine bx (L_29 x_c a1 c2 a6 c7 a11 c12 a16 c17 a21 c22 a26 c27) wN ?_
 intro g31 w1 p32 p33 k34 b35
 have m36 := (Ch.base w0).extk k34
 refine ag (vb false) wN ?_
 refine wl_nil <| wq_then <| wc_seq <| sr ?_
 refine pu (vp g31 12) wN ?_
 refine ld (vb x_c.HasOld) wN isAgg_4 b35 ?_
 refine pu (vb (!x_c.HasOld)) wN ?_
 refine wl_nil <| wq_then ?_
 rcases bf x_c.HasOld with h37 | h37
 ·refine ct (congrArg not h37) ?_
  refine sr ?_
  refine pu (vp g31 7) wN ?_
  refine lN (L_27 x_c.Old a16 c17 a21 c22) wN isAgg_27 sizeOf_27 b35 ?_
  refine pu (va [(vi 0), (vs none 0 0), (vi 0), (vi 0), (vs none 0 0)]) wN ?_
  refine cl wN (C_impl_sameEp w1 _ x_c.Old (mR_27 (r18.from0 m36) s19 (r23.from0 m36) s24) (va [(vi 0), (vs none 0 0), (vi 0), (vi 0), (vs none 0 0)]) { N := 0, Key := [], Seq := 0, Win := { Top := 0, Bits := [] : PWin } : PEp } (show R_27 w1 (va [(vi 0), (vs none 0 0), (vi 0), (vi 0), (vs none 0 0)]) { N := 0, Key := [], Seq := 0, Win := { Top := 0, Bits := [] : PWin } : PEp } from ⟨_, _, _, _, rfl, (Rd.nil _ _), (by simp), (Rd.nil _ _), (by simp)⟩)) ?_
  rintro _ w2 ⟨k63, rfl⟩
  have m64 := m36.extk k63
  refine mv (vb (F_impl_sameEp x_c.Old { N := 0, Key := [], Seq := 0, Win := { Top := 0, Bits := [] : PWin } : PEp })) wN ?_
  rcases bf (F_impl_sameEp x_c.Old { N := 0, Key := [], Seq := 0, Win := { Top := 0, Bits := [] : PWin } : PEp }) with h65 | h65
  ·refine sk h65 ?_
   refine sk h65 ?_
   refine sk h65 ?_
   refine pf (vb false) wN h65 ?_
   refine ag (vb false) wN ?_
   refine wl_nil <| wq_then <| wc_ret <| wq_then_ret ?_
   refine ret_1 (.inl rfl) (vb false) rfl rfl ?_
   refine ⟨m64.keep0, ?_⟩
   have hF70 : F_impl_oldOk x_c = false := by simp only [F_impl_oldOk, h37, h65, cond_true, cond_false]
   rw [hF70]
   exact rfl
  refine pu (vp g31 13) (wS h65) ?_
  have b67 := (b35.kp k63)
  refine ld (vi x_c.Until) (wS h65) isAgg_3 b67 ?_
  refine pu (vb (decide (x_c.Until = 0))) (wS h65) ?_
  refine pk (vb (decide (x_c.Until = 0))) wN h65 ?_
  refine ag (vb (decide (x_c.Until = 0))) wN ?_
  refine wl_nil <| wq_then <| wc_ret <| wq_then_ret ?_
  refine ret_1 (.inl rfl) (vb (decide (x_c.Until = 0))) rfl rfl ?_
  refine ⟨m64.keep0, ?_⟩
  have hF68 : F_impl_oldOk x_c = decide (x_c.Until = 0) := by simp only [F_impl_oldOk, h37, h65, cond_true, cond_false]
  rw [hF68]
  exact rfl
 refine cf (congrArg not h37) ?_
 refine wc_skip <| wq_then <| wc_seq <| sr ?_
 refine pu (vp g31 7) wN ?_
 refine lN (L_27 x_c.Old a16 c17 a21 c22) wN isAgg_27 sizeOf_27 b35 ?_
 refine cl wN (C_impl_EpOk w1 _ x_c.Old (mR_27 (r18.from0 m36) s19 (r23.from0 m36) s24)) ?_
 rintro _ w2 ⟨k39, rfl⟩
 have m40 := m36.extk k39
 refine pu (vb (!(F_impl_EpOk x_c.Old))) wN ?_
 refine mv (vb (!(F_impl_EpOk x_c.Old))) wN ?_
 rcases bf (F_impl_EpOk x_c.Old) with h41 | h41
 ·refine sk (congrArg not h41) ?_
  refine sk (congrArg not h41) ?_
  refine sk (congrArg not h41) ?_
  refine sk (congrArg not h41) ?_
  refine sk (congrArg not h41) ?_
  refine sk (congrArg not h41) ?_
  refine sk (congrArg not h41) ?_
  refine sk (congrArg not h41) ?_
  refine pk (vb true) wN (congrArg not h41) ?_
  refine wl_nil <| wq_then ?_
  refine ct (Eq.refl true) ?_
  refine sr ?_
  refine ag (vb false) wN ?_
  refine wl_nil <| wq_then <| wc_ret <| wq_then_ret ?_
  refine ret_1 (.inl rfl) (vb false) rfl rfl ?_
  refine ⟨m40.keep0, ?_⟩
  have hF61 : F_impl_oldOk x_c = false := by simp only [F_impl_oldOk, h37, h41, cond_true, cond_false]
  rw [hF61]
  exact rfl
 have q42 := impl_EpOk_t h41
 refine pu (vp g31 7) (wS (congrArg not h41)) ?_
 refine pu (vp g31 7) (wS (congrArg not h41)) ?_
 have b43 := (b35.kp k39)
 refine ld (vi x_c.Old.N) (wS (congrArg not h41)) isAgg_3 b43 ?_
 refine pu (vp g31 2) (wS (congrArg not h41)) ?_
 refine pu (vp g31 2) (wS (congrArg not h41)) ?_
 refine ld (vi x_c.Cur.N) (wS (congrArg not h41)) isAgg_3 b43 ?_
 refine ar (x_c.Cur.N - 1) (wS (congrArg not h41)) ?_
 refine pu (vb (!(decide (x_c.Old.N = (x_c.Cur.N - 1))))) (wS (congrArg not h41)) ?_
 refine pf (vb (!(decide (x_c.Old.N = (x_c.Cur.N - 1))))) wN (congrArg not h41) ?_
 refine wl_nil <| wq_then ?_
 rcases bf (decide (x_c.Old.N = (x_c.Cur.N - 1))) with h44 | h44
 ·have q58 := of_decide_eq_false h44
  refine ct (congrArg not h44) ?_
  refine sr ?_
  refine ag (vb false) wN ?_
  refine wl_nil <| wq_then <| wc_ret <| wq_then_ret ?_
  refine ret_1 (.inl rfl) (vb false) rfl rfl ?_
  refine ⟨m40.keep0, ?_⟩
  have hF59 : F_impl_oldOk x_c = false := by simp only [F_impl_oldOk, h37, h41, h44, cond_true, cond_false]
  rw [hF59]
  exact rfl
 have q45 := of_decide_eq_true h44
 refine cf (congrArg not h44) ?_
 refine wc_skip <| wq_then <| sr ?_
 refine pu (vp g31 13) wN ?_
 refine ld (vi x_c.Until) wN isAgg_3 b43 ?_
 refine cl wN (C_impl_within w2 x_c.Until 0 1000005) ?_
 rintro _ w3 ⟨k46, rfl⟩
 have m47 := m40.extk k46
 refine mv (vb (F_impl_within x_c.Until 0 1000005)) wN ?_
 rcases bt (F_impl_within x_c.Until 0 1000005) with h48 | h48
 ·have q49 := impl_within_t h48
  refine sk h48 ?_
  refine sk h48 ?_
  refine sk h48 ?_
  refine sk h48 ?_
  refine su ?_
  refine su ?_
  refine su ?_
  refine sk h48 ?_
  refine pk (vb true) wN h48 ?_
  refine ag (vb true) wN ?_
  refine wl_nil <| wq_then <| wc_ret ?_
  refine ret_1 (.inl rfl) (vb true) rfl rfl ?_
  refine ⟨m47.keep0, ?_⟩
  have hF50 : F_impl_oldOk x_c = true := by simp only [F_impl_oldOk, h37, h41, h44, h48, cond_true, cond_false]
  rw [hF50]
  exact rfl
 have q51 := impl_within_f h48
 refine pu (vp g31 13) (wS h48) ?_
 have b52 := (b43.kp k46)
 refine ld (vi x_c.Until) (wS h48) isAgg_3 b52 ?_
 refine pu (vb (decide (x_c.Until = (-1)))) (wS h48) ?_
 refine mv (vb (decide (x_c.Until = (-1)))) (wS h48) ?_
 rcases bf (decide (x_c.Until = (-1))) with h53 | h53
 ·have q56 := of_decide_eq_false h53
  refine sk h53 ?_
  refine sk h53 ?_
  refine sk h53 ?_
  refine pf (vb false) (wS h48) h53 ?_
  refine pf (vb false) wN h48 ?_
  refine ag (vb false) wN ?_
  refine wl_nil <| wq_then <| wc_ret ?_
  refine ret_1 (.inl rfl) (vb false) rfl rfl ?_
  refine ⟨m47.keep0, ?_⟩
  have hF57 : F_impl_oldOk x_c = false := by simp only [F_impl_oldOk, h37, h41, h44, h48, h53, cond_true, cond_false]
  rw [hF57]
  exact rfl
 have q54 := of_decide_eq_true h53
 refine pu (vp g31 0) (wS h53) ?_
 refine ld (vi x_c.Role) (wS h53) isAgg_3 b52 ?_
 refine pu (vb (decide (x_c.Role = 1))) (wS h53) ?_
 refine pk (vb (decide (x_c.Role = 1))) (wS h48) h53 ?_
 refine pf (vb (decide (x_c.Role = 1))) wN h48 ?_
 refine ag (vb (decide (x_c.Role = 1))) wN ?_
 refine wl_nil <| wq_then <| wc_ret ?_
 refine ret_1 (.inl rfl) (vb (decide (x_c.Role = 1))) rfl rfl ?_
 refine ⟨m47.keep0, ?_⟩
 have hF55 : F_impl_oldOk x_c = decide (x_c.Role = 1) := by simp only [F_impl_oldOk, h37, h41, h44, h48, h53, cond_true, cond_false]
 rw [hF55]
 exact rfl

def F_impl_ChanOk (x_c : PChan) : (Bool) := bif (F_impl_isRole x_c.Role) then (bif (F_impl_isNonce x_c.Sn) then (bif (F_impl_EpOk x_c.Cur) then (bif (F_impl_oldOk x_c) then (bif (decide ((x_c.Next.length : Int) = 0)) then (true) else (bif (decide (x_c.Role = 0)) then (bif (decide ((x_c.Next.length : Int) = 32)) then (decide (x_c.Cur.N < 4294967295)) else (false)) else (false))) else (false)) else (false)) else (false)) else (false)
theorem C_impl_ChanOk (w0 : World) (v_x_c : Value) (x_c : PChan) (r_x_c : R_29 w0 v_x_c x_c)  : Fn Try.prog 26 #[v_x_c] w0 (fun v w' => Keep w0 w' ∧ O_4 w' w0.heap.size v (F_impl_ChanOk x_c)) := by
 obtain ⟨a1, c2, a6, c7, a11, c12, a16, c17, a21, c22, a26, c27, rfl, r3, s4, r8, s9, r13, s14, r18, s19, r23, s24, r28, s29⟩ := r_x_c
 refine fn_of (n := 45) (l := [(va (L_29 x_c a1 c2 a6 c7 a11 c12 a16 c17 a21 c22 a26 c27)), U, U, U, U, U, U, U, U, U, U, U, U, U, U, U, U, U, U, U, U, U, U, U, U, U, U, U, U, U, U, U, U, U, U, U, U, U, U, U, U, U, U, U, U]) Try.func26 rfl rfl (by kernel_rfl) rfl ?_
 refine sr ?_
 refine bx (L_29 x_c a1 c2 a6 c7 a11 c12 a16 c17 a21 c22 a26 c27) wN ?_
 intro g31 w1 p32 p33 k34 b35
 have m36 := (Ch.base w0).extk k34
 refine ag (vb false) wN ?_
 refine wl_nil <| wq_then <| wc_seq <| sr ?_
 refine pu (vp g31 0) wN ?_
 refine ld (vi x_c.Role) wN isAgg_3 b35 ?_
 refine cl wN (C_impl_isRole w1 x_c.Role) ?_
 rintro _ w2 ⟨k37, rfl⟩
 have m38 := m36.extk k37
 refine pu (vb (!(F_impl_isRole x_c.Role))) wN ?_
 refine mv (vb (!(F_impl_isRole x_c.Role))) wN ?_
 rcases bf (F_impl_isRole x_c.Role) with h39 | h39
 ·refine sk (congrArg not h39) ?_
  refine sk (congrArg not h39) ?_
  refine sk (congrArg not h39) ?_
  refine sk (congrArg not h39) ?_
  refine pk (vb true) wN (congrArg not h39) ?_
  refine mv (vb true) wN ?_
  refine sk (Eq.refl true) ?_
  refine sk (Eq.refl true) ?_
  refine sk (Eq.refl true) ?_
  refine sk (Eq.refl true) ?_
  refine pk (vb true) wN (Eq.refl true) ?_
  refine mv (vb true) wN ?_
  refine sk (Eq.refl true) ?_
  refine sk (Eq.refl true) ?_
  refine sk (Eq.refl true) ?_
  refine pk (vb true) wN (Eq.refl true) ?_
  refine wl_nil <| wq_then ?_
  refine ct (Eq.refl true) ?_
  refine sr ?_
  refine ag (vb false) wN ?_
  refine wl_nil <| wq_then <| wc_ret <| wq_then_ret ?_
  refine ret_1 (.inl rfl) (vb false) rfl rfl ?_
  refine ⟨m38.keep0, ?_⟩
  have hF77 : F_impl_ChanOk x_c = false := by simp only [F_impl_ChanOk, h39, cond_true, cond_false]
  rw [hF77]
  exact rfl
 refine pu (vp g31 1) (wS (congrArg not h39)) ?_
 have b41 := (b35.kp k37)
 refine ld (vs a1 x_c.Sn.length c2) (wS (congrArg not h39)) isAgg_22 b41 ?_
 refine cl (wS (congrArg not h39)) (C_impl_isNonce w2 _ x_c.Sn (mR_22 (r3.from0 m38) s4)) ?_
 rintro _ w3 ⟨k42, rfl⟩
 have m43 := m38.extk k42
 refine pu (vb (!(F_impl_isNonce x_c.Sn))) (wS (congrArg not h39)) ?_
 refine pf (vb (!(F_impl_isNonce x_c.Sn))) wN (congrArg not h39) ?_
 refine mv (vb (!(F_impl_isNonce x_c.Sn))) wN ?_
 rcases bf (F_impl_isNonce x_c.Sn) with h44 | h44
 ·refine sk (congrArg not h44) ?_
  refine sk (congrArg not h44) ?_
  refine sk (congrArg not h44) ?_
  refine sk (congrArg not h44) ?_
  refine pk (vb true) wN (congrArg not h44) ?_
  refine mv (vb true) wN ?_
  refine sk (Eq.refl true) ?_
  refine sk (Eq.refl true) ?_
  refine sk (Eq.refl true) ?_
  refine pk (vb true) wN (Eq.refl true) ?_
  refine wl_nil <| wq_then ?_
  refine ct (Eq.refl true) ?_
  refine sr ?_
  refine ag (vb false) wN ?_
  refine wl_nil <| wq_then <| wc_ret <| wq_then_ret ?_
  refine ret_1 (.inl rfl) (vb false) rfl rfl ?_
  refine ⟨m43.keep0, ?_⟩
  have hF75 : F_impl_ChanOk x_c = false := by simp only [F_impl_ChanOk, h39, h44, cond_true, cond_false]
  rw [hF75]
  exact rfl
 refine pu (vp g31 2) (wS (congrArg not h44)) ?_
 have b46 := (b41.kp k42)
 refine lN (L_27 x_c.Cur a6 c7 a11 c12) (wS (congrArg not h44)) isAgg_27 sizeOf_27 b46 ?_
 refine cl (wS (congrArg not h44)) (C_impl_EpOk w3 _ x_c.Cur (mR_27 (r8.from0 m43) s9 (r13.from0 m43) s14)) ?_
 rintro _ w4 ⟨k47, rfl⟩
 have m48 := m43.extk k47
 refine pu (vb (!(F_impl_EpOk x_c.Cur))) (wS (congrArg not h44)) ?_
 refine pf (vb (!(F_impl_EpOk x_c.Cur))) wN (congrArg not h44) ?_
 refine mv (vb (!(F_impl_EpOk x_c.Cur))) wN ?_
 rcases bf (F_impl_EpOk x_c.Cur) with h49 | h49
 ·refine sk (congrArg not h49) ?_
  refine sk (congrArg not h49) ?_
  refine sk (congrArg not h49) ?_
  refine pk (vb true) wN (congrArg not h49) ?_
  refine wl_nil <| wq_then ?_
  refine ct (Eq.refl true) ?_
  refine sr ?_
  refine ag (vb false) wN ?_
  refine wl_nil <| wq_then <| wc_ret <| wq_then_ret ?_
  refine ret_1 (.inl rfl) (vb false) rfl rfl ?_
  refine ⟨m48.keep0, ?_⟩
  have hF73 : F_impl_ChanOk x_c = false := by simp only [F_impl_ChanOk, h39, h44, h49, cond_true, cond_false]
  rw [hF73]
  exact rfl
 have q50 := impl_EpOk_t h49
 have b51 := (b46.kp k47)
 refine lN (L_29 x_c a1 c2 a6 c7 a11 c12 a16 c17 a21 c22 a26 c27) (wS (congrArg not h49)) isAgg_29 sizeOf_29 b51 ?_
 refine cl (wS (congrArg not h49)) (C_impl_oldOk w4 _ x_c (mR_29 (r3.from0 m48) s4 (r8.from0 m48) s9 (r13.from0 m48) s14 (r18.from0 m48) s19 (r23.from0 m48) s24 (r28.from0 m48) s29) (by omega) (by omega)) ?_
 rintro _ w5 ⟨k52, rfl⟩
 have m53 := m48.extk k52
 refine pu (vb (!(F_impl_oldOk x_c))) (wS (congrArg not h49)) ?_
 refine pf (vb (!(F_impl_oldOk x_c))) wN (congrArg not h49) ?_
 refine wl_nil <| wq_then ?_
 rcases bf (F_impl_oldOk x_c) with h54 | h54
 ·refine ct (congrArg not h54) ?_
  refine sr ?_
  refine ag (vb false) wN ?_
  refine wl_nil <| wq_then <| wc_ret <| wq_then_ret ?_
  refine ret_1 (.inl rfl) (vb false) rfl rfl ?_
  refine ⟨m53.keep0, ?_⟩
  have hF71 : F_impl_ChanOk x_c = false := by simp only [F_impl_ChanOk, h39, h44, h49, h54, cond_true, cond_false]
  rw [hF71]
  exact rfl
 refine cf (congrArg not h54) ?_
 refine wc_skip <| wq_then <| sr ?_
 refine pu (vp g31 14) wN ?_
 have b56 := (b51.kp k52)
 refine ld (vs a26 x_c.Next.length c27) wN isAgg_22 b56 ?_
 refine ln wN slTy_22 (r28.from0 m53) ?_
 refine pu (vb (decide ((x_c.Next.length : Int) = 0))) wN ?_
 refine mv (vb (decide ((x_c.Next.length : Int) = 0))) wN ?_
 rcases bt (decide ((x_c.Next.length : Int) = 0)) with h57 | h57
 ·have q58 := of_decide_eq_true h57
  refine sk h57 ?_
  refine sk h57 ?_
  refine sk h57 ?_
  refine sk h57 ?_
  refine su ?_
  refine su ?_
  refine su ?_
  refine su ?_
  refine sk h57 ?_
  refine sk h57 ?_
  refine su ?_
  refine su ?_
  refine su ?_
  refine su ?_
  refine sk h57 ?_
  refine pk (vb true) wN h57 ?_
  refine ag (vb true) wN ?_
  refine wl_nil <| wq_then <| wc_ret ?_
  refine ret_1 (.inl rfl) (vb true) rfl rfl ?_
  refine ⟨m53.keep0, ?_⟩
  have hF59 : F_impl_ChanOk x_c = true := by simp only [F_impl_ChanOk, h39, h44, h49, h54, h57, cond_true, cond_false]
  rw [hF59]
  exact rfl
 have q60 := of_decide_eq_false h57
 refine pu (vp g31 0) (wS h57) ?_
 refine ld (vi x_c.Role) (wS h57) isAgg_3 b56 ?_
 refine pu (vb (decide (x_c.Role = 0))) (wS h57) ?_
 refine mv (vb (decide (x_c.Role = 0))) (wS h57) ?_
 rcases bf (decide (x_c.Role = 0)) with h61 | h61
 ·have q68 := of_decide_eq_false h61
  refine sk h61 ?_
  refine sk h61 ?_
  refine sk h61 ?_
  refine sk h61 ?_
  refine pf (vb false) (wS h57) h61 ?_
  refine mv (vb false) (wS h57) ?_
  refine sk (Eq.refl false) ?_
  refine sk (Eq.refl false) ?_
  refine sk (Eq.refl false) ?_
  refine sk (Eq.refl false) ?_
  refine pf (vb false) (wS h57) (Eq.refl false) ?_
  refine pf (vb false) wN h57 ?_
  refine ag (vb false) wN ?_
  refine wl_nil <| wq_then <| wc_ret ?_
  refine ret_1 (.inl rfl) (vb false) rfl rfl ?_
  refine ⟨m53.keep0, ?_⟩
  have hF69 : F_impl_ChanOk x_c = false := by simp only [F_impl_ChanOk, h39, h44, h49, h54, h57, h61, cond_true, cond_false]
  rw [hF69]
  exact rfl
 have q62 := of_decide_eq_true h61
 refine pu (vp g31 14) (wS h61) ?_
 refine ld (vs a26 x_c.Next.length c27) (wS h61) isAgg_22 b56 ?_
 refine ln (wS h61) slTy_22 (r28.from0 m53) ?_
 refine pu (vb (decide ((x_c.Next.length : Int) = 32))) (wS h61) ?_
 refine pk (vb (decide ((x_c.Next.length : Int) = 32))) (wS h57) h61 ?_
 refine mv (vb (decide ((x_c.Next.length : Int) = 32))) (wS h57) ?_
 rcases bf (decide ((x_c.Next.length : Int) = 32)) with h63 | h63
 ·have q66 := of_decide_eq_false h63
  refine sk h63 ?_
  refine sk h63 ?_
  refine sk h63 ?_
  refine sk h63 ?_
  refine pf (vb false) (wS h57) h63 ?_
  refine pf (vb false) wN h57 ?_
  refine ag (vb false) wN ?_
  refine wl_nil <| wq_then <| wc_ret ?_
  refine ret_1 (.inl rfl) (vb false) rfl rfl ?_
  refine ⟨m53.keep0, ?_⟩
  have hF67 : F_impl_ChanOk x_c = false := by simp only [F_impl_ChanOk, h39, h44, h49, h54, h57, h61, h63, cond_true, cond_false]
  rw [hF67]
  exact rfl
 have q64 := of_decide_eq_true h63
 refine pu (vp g31 2) (wS h63) ?_
 refine pu (vp g31 2) (wS h63) ?_
 refine ld (vi x_c.Cur.N) (wS h63) isAgg_3 b56 ?_
 refine pu (vb (decide (x_c.Cur.N < 4294967295))) (wS h63) ?_
 refine pk (vb (decide (x_c.Cur.N < 4294967295))) (wS h57) h63 ?_
 refine pf (vb (decide (x_c.Cur.N < 4294967295))) wN h57 ?_
 refine ag (vb (decide (x_c.Cur.N < 4294967295))) wN ?_
 refine wl_nil <| wq_then <| wc_ret ?_
 refine ret_1 (.inl rfl) (vb (decide (x_c.Cur.N < 4294967295))) rfl rfl ?_
 refine ⟨m53.keep0, ?_⟩
 have hF65 : F_impl_ChanOk x_c = decide (x_c.Cur.N < 4294967295) := by simp only [F_impl_ChanOk, h39, h44, h49, h54, h57, h61, h63, cond_true, cond_false]
 rw [hF65]
 exact rfl
theorem impl_ChanOk_t {c : PChan} (h : F_impl_ChanOk c = true) : 0 ≤ c.Cur.N ∧ c.Cur.N ≤ 4294967295 := by
  cases h1 : F_impl_EpOk c.Cur with
  | false => simp [F_impl_ChanOk, h1] at h
  | true => exact ⟨(impl_EpOk_t h1).1, (impl_EpOk_t h1).2.1⟩

def F_impl_clone (x_b : List UInt8) : (List UInt8) := x_b
theorem C_impl_clone (w0 : World) (v_x_b : Value) (x_b : List UInt8) (r_x_b : R_22 w0 v_x_b x_b)  : Fn Try.prog 69 #[v_x_b] w0 (fun v w' => Keep w0 w' ∧ O_22 w' w0.heap.size v (F_impl_clone x_b)) := by
 obtain ⟨a1, c2, rfl, r3, s4⟩ := r_x_b
 refine fn_of (n := 6) (l := [(vs a1 x_b.length c2), U, U, U, U, U]) Try.func69 rfl rfl (by kernel_rfl) rfl ?_
 refine sr ?_
 refine ag (vs none 0 0) wN ?_
 refine nx ?_
 refine wl_lit0 wN rfl rfl slTy_22 (fun w => by kernel_rfl) ?_
 intro a6 w1 k7 o8
 have m9 := (Ch.base w0).extk k7
 refine mv (vs a1 x_b.length c2) wN ?_
 refine wl_append0 wN rfl rfl rfl slTy_22 rfl rfl o8 (r3.from0 m9) (all_bV _) (by (try simp only [List.length_append, List.length_cons, List.length_nil]); omega) (by simp only [maxLen]; (try simp only [List.length_append, List.length_cons, List.length_nil]); omega) k7.size ?_
 intro u11 w2 k12 o13 j14
 obtain ⟨a15, c16, rfl⟩ := own_form o13
 have n17 : New w1 a15 c16 := j14 _ _ rfl
 have m18 := m9.extk k12
 refine ag (vs a15 x_b.length c16) wN ?_
 refine wl_nil <| wq_then <| wc_ret ?_
 refine ret_1 (.inl rfl) (vs a15 x_b.length c16) rfl rfl ?_
 refine ⟨m18.keep0, ?_⟩
 have hF20 : F_impl_clone x_b = x_b := by rfl
 rw [hF20]
 exact ⟨_, _, rfl, o13, s4, ⟨trivial, trivial⟩⟩
end Go.Proofs.Ytodlalolknldmaa.K
