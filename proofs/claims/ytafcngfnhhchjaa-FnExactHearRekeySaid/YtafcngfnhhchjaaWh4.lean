import Derived.Test.YtafcngfnhhchjaaCore
import Derived.Test.YtafcngfnhhchjaaProg
import Derived.Test.YtafcngfnhhchjaaHeld
import Derived.Test.YtafcngfnhhchjaaFun
import Derived.Test.YtafcngfnhhchjaaFunZ
import Derived.Test.YtafcngfnhhchjaaSqz
import Derived.Test.YtafcngfnhhchjaaHash
import Derived.Test.YtafcngfnhhchjaaWh3
namespace Go.Proofs.Ytafcngfnhhchjaa.K
open Go.RowKit
set_option linter.unusedVariables false
set_option linter.unusedSimpArgs false
set_option maxRecDepth 100000
set_option maxHeartbeats 4000000
def Q_22 (w : World) (v : Value) (x : (List UInt8)) : Prop := ∃ (a1 : Option Addr) (c1 : Nat), v = .slice a1 x.length c1 ∧ Rd w 1 (.slice a1 x.length c1) x.length (x.map bV) ∧ x.length ≤ 9223372036854775807
def F_laws_szByteS (x_a : List UInt8) (x_left : Int) : (Int) := bif (decide ((x_left - (x_a.length : Int)) < 0)) then ((-1)) else ((x_left - (x_a.length : Int)))
theorem C_laws_szByteS (w0 : World) (v_x_a : Value) (x_a : List UInt8) (r_x_a : Q_22 w0 v_x_a x_a) (x_left : Int) (pre0 : 0 ≤ x_left) (pre1 : x_left ≤ 1048576) : Fn Try.prog 63 #[v_x_a, (vi x_left)] w0 (fun v w' => Keep w0 w' ∧ O_3 w' w0.heap.size v (F_laws_szByteS x_a x_left)) := by
 obtain ⟨a1, c2, rfl, r3, s4⟩ := r_x_a
 refine fn_of (n := 12) (l := [(vs a1 x_a.length c2), (vi x_left), U, U, U, U, U, U, U, U, U, U]) Try.func63 rfl rfl (by kernel_rfl) rfl ?_
 refine sr ?_
 refine aw (vi 0) ?_
 refine nx ?_
 refine mw (vi x_left) ?_
 refine mw (vs a1 x_a.length c2) ?_
 refine ln wN slTy_22 r3 ?_
 refine ar (x_left - (x_a.length : Int)) wN ?_
 refine aw (vi (x_left - (x_a.length : Int))) ?_
 refine n4 ?_
 refine mw (vi (x_left - (x_a.length : Int))) ?_
 refine pu (vb (decide ((x_left - (x_a.length : Int)) < 0))) wN ?_
 refine n2 ?_
 rcases bt (decide ((x_left - (x_a.length : Int)) < 0)) with h6 | h6
 ·have q7 := of_decide_eq_true h6
  refine ct h6 ?_
  refine sr ?_
  refine aw (vi (-1)) ?_
  refine n1 ?_
  refine rt (vi (-1)) ?_
  refine ⟨Ch.refl _ _, ?_⟩
  have hF8 : F_laws_szByteS x_a x_left = (-1) := by simp only [F_laws_szByteS, h6, cond_true, cond_false]
  rw [hF8]
  exact rfl
 have q9 := of_decide_eq_false h6
 refine cf h6 ?_
 refine y1 ?_
 refine mw (vi (x_left - (x_a.length : Int))) ?_
 refine aw (vi (x_left - (x_a.length : Int))) ?_
 refine n3 ?_
 refine rt (vi (x_left - (x_a.length : Int))) ?_
 refine ⟨Ch.refl _ _, ?_⟩
 have hF10 : F_laws_szByteS x_a x_left = (x_left - (x_a.length : Int)) := by simp only [F_laws_szByteS, h6, cond_true, cond_false]
 rw [hF10]
 exact rfl
theorem laws_szByteS_le (x : List UInt8) (l : Int) : F_laws_szByteS x l = -1 ∨ (F_laws_szByteS x l = l - ((x.length : Int)) ∧ (0 ≤ F_laws_szByteS x l ∨ l < 0 ∨ False)) := by

  simp only [F_laws_szByteS, cond_eq_ite, decide_eq_true_eq]
  (repeat' split) <;> omega

def Q_32 (w : World) (v : Value) (x : (List Int)) : Prop := ∃ (a1 : Option Addr) (c1 : Nat), v = .slice a1 x.length c1 ∧ Rd w 1 (.slice a1 x.length c1) x.length (x.map iV) ∧ x.length ≤ 9223372036854775807
def F_laws_szIntS (x_a : List Int) (x_left : Int) : (Int) := bif (decide ((x_left - (x_a.length : Int)) < 0)) then ((-1)) else ((x_left - (x_a.length : Int)))
theorem C_laws_szIntS (w0 : World) (v_x_a : Value) (x_a : List Int) (r_x_a : Q_32 w0 v_x_a x_a) (x_left : Int) (pre0 : 0 ≤ x_left) (pre1 : x_left ≤ 1048576) : Fn Try.prog 132 #[v_x_a, (vi x_left)] w0 (fun v w' => Keep w0 w' ∧ O_3 w' w0.heap.size v (F_laws_szIntS x_a x_left)) := by
 obtain ⟨a1, c2, rfl, r3, s4⟩ := r_x_a
 refine fn_of (n := 12) (l := [(vs a1 x_a.length c2), (vi x_left), U, U, U, U, U, U, U, U, U, U]) Try.func132 rfl rfl (by kernel_rfl) rfl ?_
 refine sr ?_
 refine aw (vi 0) ?_
 refine nx ?_
 refine mw (vi x_left) ?_
 refine mw (vs a1 x_a.length c2) ?_
 refine ln wN slTy_32 r3 ?_
 refine ar (x_left - (x_a.length : Int)) wN ?_
 refine aw (vi (x_left - (x_a.length : Int))) ?_
 refine n4 ?_
 refine mw (vi (x_left - (x_a.length : Int))) ?_
 refine pu (vb (decide ((x_left - (x_a.length : Int)) < 0))) wN ?_
 refine n2 ?_
 rcases bt (decide ((x_left - (x_a.length : Int)) < 0)) with h6 | h6
 ·have q7 := of_decide_eq_true h6
  refine ct h6 ?_
  refine sr ?_
  refine aw (vi (-1)) ?_
  refine n1 ?_
  refine rt (vi (-1)) ?_
  refine ⟨Ch.refl _ _, ?_⟩
  have hF8 : F_laws_szIntS x_a x_left = (-1) := by simp only [F_laws_szIntS, h6, cond_true, cond_false]
  rw [hF8]
  exact rfl
 have q9 := of_decide_eq_false h6
 refine cf h6 ?_
 refine y1 ?_
 refine mw (vi (x_left - (x_a.length : Int))) ?_
 refine aw (vi (x_left - (x_a.length : Int))) ?_
 refine n3 ?_
 refine rt (vi (x_left - (x_a.length : Int))) ?_
 refine ⟨Ch.refl _ _, ?_⟩
 have hF10 : F_laws_szIntS x_a x_left = (x_left - (x_a.length : Int)) := by simp only [F_laws_szIntS, h6, cond_true, cond_false]
 rw [hF10]
 exact rfl
theorem laws_szIntS_le (x : List Int) (l : Int) : F_laws_szIntS x l = -1 ∨ (F_laws_szIntS x l = l - ((x.length : Int)) ∧ (0 ≤ F_laws_szIntS x l ∨ l < 0 ∨ False)) := by

  simp only [F_laws_szIntS, cond_eq_ite, decide_eq_true_eq]
  (repeat' split) <;> omega

abbrev L_34 (x : PWin) (a1 : Option Addr) (c1 : Nat) : List Value := [vi x.Top, vs a1 x.Bits.length c1]
def Q_46 (w : World) (v : Value) (x : (PWin)) : Prop := ∃ (a1 : Option Addr) (c1 : Nat), v = .agg #[.int .i64 x.Top, .slice a1 x.Bits.length c1] ∧ Rd w 1 (.slice a1 x.Bits.length c1) x.Bits.length (x.Bits.map iV) ∧ x.Bits.length ≤ 9223372036854775807
theorem mQ_32 {w : World} {x : List Int} {a1 : Option Addr} {c1 : Nat} (h1 : Rd w 1 (.slice a1 x.length c1) x.length (x.map iV)) (l1 : x.length ≤ 9223372036854775807) : Q_32 w (vs a1 x.length c1) x := ⟨_, _, rfl, h1, l1⟩
def F_laws_szWin (x_a : PWin) (x_left : Int) : (Int) := bif (decide ((F_laws_szIntS x_a.Bits x_left) < 0)) then ((-1)) else ((F_laws_szIntS x_a.Bits x_left))
theorem C_laws_szWin (w0 : World) (v_x_a : Value) (x_a : PWin) (r_x_a : Q_46 w0 v_x_a x_a) (x_left : Int) (pre0 : 0 ≤ x_left) (pre1 : x_left ≤ 1048576) : Fn Try.prog 97 #[v_x_a, (vi x_left)] w0 (fun v w' => Keep w0 w' ∧ O_3 w' w0.heap.size v (F_laws_szWin x_a x_left)) := by
 obtain ⟨a1, c2, rfl, r3, s4⟩ := r_x_a
 refine fn_of (n := 12) (l := [(va (L_34 x_a a1 c2)), (vi x_left), U, U, U, U, U, U, U, U, U, U]) Try.func97 rfl rfl (by kernel_rfl) rfl ?_
 refine sr ?_
 refine bx (L_34 x_a a1 c2) wN ?_
 intro g6 w1 p7 p8 k9 b10
 have m11 := (Ch.base w0).extk k9
 refine aw (vi 0) ?_
 refine nx ?_
 refine pu (vp g6 1) wN ?_
 refine ld (vs a1 x_a.Bits.length c2) wN isAgg_32 b10 ?_
 refine mw (vi x_left) ?_
 refine cl wN (C_laws_szIntS w1 _ x_a.Bits (mQ_32 (r3.from0 m11) s4) x_left (by omega) (by omega)) ?_
 rintro _ w2 ⟨k12, rfl⟩
 have m13 := m11.extk k12
 have q14 := laws_szIntS_le x_a.Bits x_left
 refine aw (vi (F_laws_szIntS x_a.Bits x_left)) ?_
 refine n4 ?_
 refine mw (vi (F_laws_szIntS x_a.Bits x_left)) ?_
 refine pu (vb (decide ((F_laws_szIntS x_a.Bits x_left) < 0))) wN ?_
 refine n2 ?_
 rcases bt (decide ((F_laws_szIntS x_a.Bits x_left) < 0)) with h15 | h15
 ·have q16 := of_decide_eq_true h15
  refine ct h15 ?_
  refine sr ?_
  refine aw (vi (-1)) ?_
  refine n1 ?_
  refine rt (vi (-1)) ?_
  refine ⟨m13.keep0, ?_⟩
  have hF17 : F_laws_szWin x_a x_left = (-1) := by simp only [F_laws_szWin, h15, cond_true, cond_false]
  rw [hF17]
  exact rfl
 have q18 := of_decide_eq_false h15
 refine cf h15 ?_
 refine y1 ?_
 refine mw (vi (F_laws_szIntS x_a.Bits x_left)) ?_
 refine aw (vi (F_laws_szIntS x_a.Bits x_left)) ?_
 refine n3 ?_
 refine rt (vi (F_laws_szIntS x_a.Bits x_left)) ?_
 refine ⟨m13.keep0, ?_⟩
 have hF19 : F_laws_szWin x_a x_left = (F_laws_szIntS x_a.Bits x_left) := by simp only [F_laws_szWin, h15, cond_true, cond_false]
 rw [hF19]
 exact rfl
theorem laws_szWin_le (x : PWin) (l : Int) : F_laws_szWin x l = -1 ∨ (F_laws_szWin x l = l - ((x.Bits.length : Int)) ∧ (0 ≤ F_laws_szWin x l ∨ l < 0 ∨ False)) := by
  have h0 := laws_szIntS_le x.Bits l
  simp only [F_laws_szWin, cond_eq_ite, decide_eq_true_eq]
  (repeat' split) <;> omega

abbrev L_36 (x : PEp) (a1 : Option Addr) (c1 : Nat) (a2 : Option Addr) (c2 : Nat) : List Value := [vi x.N, vs a1 x.Key.length c1, vi x.Seq, vi x.Win.Top, vs a2 x.Win.Bits.length c2]
theorem isAgg_46 : ∀ w, (isAgg 46).run Try.prog w = .ok true w := fun w => by kernel_rfl
theorem sizeOf_46 : ∀ w, (sizeOf 46).run Try.prog w = .ok 2 w := fun w => by kernel_rfl
abbrev L_46 (x : PWin) (a1 : Option Addr) (c1 : Nat) : List Value := [vi x.Top, vs a1 x.Bits.length c1]
def Q_48 (w : World) (v : Value) (x : (PEp)) : Prop := ∃ (a1 : Option Addr) (c1 : Nat) (a2 : Option Addr) (c2 : Nat), v = .agg #[.int .i64 x.N, .slice a1 x.Key.length c1, .int .i64 x.Seq, .int .i64 x.Win.Top, .slice a2 x.Win.Bits.length c2] ∧ Rd w 1 (.slice a1 x.Key.length c1) x.Key.length (x.Key.map bV) ∧ x.Key.length ≤ 9223372036854775807 ∧ Rd w 1 (.slice a2 x.Win.Bits.length c2) x.Win.Bits.length (x.Win.Bits.map iV) ∧ x.Win.Bits.length ≤ 9223372036854775807
theorem mQ_22 {w : World} {x : List UInt8} {a1 : Option Addr} {c1 : Nat} (h1 : Rd w 1 (.slice a1 x.length c1) x.length (x.map bV)) (l1 : x.length ≤ 9223372036854775807) : Q_22 w (vs a1 x.length c1) x := ⟨_, _, rfl, h1, l1⟩
theorem mQ_46 {w : World} {x : PWin} {a1 : Option Addr} {c1 : Nat} (h1 : Rd w 1 (.slice a1 x.Bits.length c1) x.Bits.length (x.Bits.map iV)) (l1 : x.Bits.length ≤ 9223372036854775807) : Q_46 w (va (L_46 x a1 c1)) x := ⟨_, _, rfl, h1, l1⟩
def F_laws_szEp (x_a : PEp) (x_left : Int) : (Int) := bif (decide ((F_laws_szByteS x_a.Key x_left) < 0)) then ((-1)) else (bif (decide ((F_laws_szWin x_a.Win (F_laws_szByteS x_a.Key x_left)) < 0)) then ((-1)) else ((F_laws_szWin x_a.Win (F_laws_szByteS x_a.Key x_left))))
theorem C_laws_szEp (w0 : World) (v_x_a : Value) (x_a : PEp) (r_x_a : Q_48 w0 v_x_a x_a) (x_left : Int) (pre0 : 0 ≤ x_left) (pre1 : x_left ≤ 1048576) : Fn Try.prog 64 #[v_x_a, (vi x_left)] w0 (fun v w' => Keep w0 w' ∧ O_3 w' w0.heap.size v (F_laws_szEp x_a x_left)) := by
 obtain ⟨a1, c2, a6, c7, rfl, r3, s4, r8, s9⟩ := r_x_a
 refine fn_of (n := 18) (l := [(va (L_36 x_a a1 c2 a6 c7)), (vi x_left), U, U, U, U, U, U, U, U, U, U, U, U, U, U, U, U]) Try.func64 rfl rfl (by kernel_rfl) rfl ?_
 refine sr ?_
 refine bx (L_36 x_a a1 c2 a6 c7) wN ?_
 intro g11 w1 p12 p13 k14 b15
 have m16 := (Ch.base w0).extk k14
 refine aw (vi 0) ?_
 refine nx ?_
 refine pu (vp g11 1) wN ?_
 refine ld (vs a1 x_a.Key.length c2) wN isAgg_22 b15 ?_
 refine mw (vi x_left) ?_
 refine cl wN (C_laws_szByteS w1 _ x_a.Key (mQ_22 (r3.from0 m16) s4) x_left (by omega) (by omega)) ?_
 rintro _ w2 ⟨k17, rfl⟩
 have m18 := m16.extk k17
 have q19 := laws_szByteS_le x_a.Key x_left
 refine aw (vi (F_laws_szByteS x_a.Key x_left)) ?_
 refine n4 ?_
 refine mw (vi (F_laws_szByteS x_a.Key x_left)) ?_
 refine pu (vb (decide ((F_laws_szByteS x_a.Key x_left) < 0))) wN ?_
 refine n2 ?_
 rcases bt (decide ((F_laws_szByteS x_a.Key x_left) < 0)) with h20 | h20
 ·have q21 := of_decide_eq_true h20
  refine ct h20 ?_
  refine sr ?_
  refine aw (vi (-1)) ?_
  refine n1 ?_
  refine rt (vi (-1)) ?_
  refine ⟨m18.keep0, ?_⟩
  have hF22 : F_laws_szEp x_a x_left = (-1) := by simp only [F_laws_szEp, h20, cond_true, cond_false]
  rw [hF22]
  exact rfl
 have q23 := of_decide_eq_false h20
 refine cf h20 ?_
 refine y1 ?_
 refine pu (vp g11 3) wN ?_
 have b24 := (b15.kp k17)
 refine lN (L_34 x_a.Win a6 c7) wN isAgg_46 sizeOf_46 b24 ?_
 refine mw (vi (F_laws_szByteS x_a.Key x_left)) ?_
 refine cl wN (C_laws_szWin w2 _ x_a.Win (mQ_46 (r8.from0 m18) s9) (F_laws_szByteS x_a.Key x_left) (by omega) (by omega)) ?_
 rintro _ w3 ⟨k25, rfl⟩
 have m26 := m18.extk k25
 have q27 := laws_szWin_le x_a.Win (F_laws_szByteS x_a.Key x_left)
 refine aw (vi (F_laws_szWin x_a.Win (F_laws_szByteS x_a.Key x_left))) ?_
 refine n4 ?_
 refine mw (vi (F_laws_szWin x_a.Win (F_laws_szByteS x_a.Key x_left))) ?_
 refine pu (vb (decide ((F_laws_szWin x_a.Win (F_laws_szByteS x_a.Key x_left)) < 0))) wN ?_
 refine n2 ?_
 rcases bt (decide ((F_laws_szWin x_a.Win (F_laws_szByteS x_a.Key x_left)) < 0)) with h28 | h28
 ·have q29 := of_decide_eq_true h28
  refine ct h28 ?_
  refine sr ?_
  refine aw (vi (-1)) ?_
  refine n1 ?_
  refine rt (vi (-1)) ?_
  refine ⟨m26.keep0, ?_⟩
  have hF30 : F_laws_szEp x_a x_left = (-1) := by simp only [F_laws_szEp, h20, h28, cond_true, cond_false]
  rw [hF30]
  exact rfl
 have q31 := of_decide_eq_false h28
 refine cf h28 ?_
 refine y1 ?_
 refine mw (vi (F_laws_szWin x_a.Win (F_laws_szByteS x_a.Key x_left))) ?_
 refine aw (vi (F_laws_szWin x_a.Win (F_laws_szByteS x_a.Key x_left))) ?_
 refine n3 ?_
 refine rt (vi (F_laws_szWin x_a.Win (F_laws_szByteS x_a.Key x_left))) ?_
 refine ⟨m26.keep0, ?_⟩
 have hF32 : F_laws_szEp x_a x_left = (F_laws_szWin x_a.Win (F_laws_szByteS x_a.Key x_left)) := by simp only [F_laws_szEp, h20, h28, cond_true, cond_false]
 rw [hF32]
 exact rfl
theorem laws_szEp_le (x : PEp) (l : Int) : F_laws_szEp x l = -1 ∨ (F_laws_szEp x l = l - ((x.Key.length : Int) + (x.Win.Bits.length : Int)) ∧ (0 ≤ F_laws_szEp x l ∨ l < 0 ∨ False)) := by
  have h0 := laws_szByteS_le x.Key l
  have h1 := laws_szWin_le x.Win (F_laws_szByteS x.Key l)
  simp only [F_laws_szEp, cond_eq_ite, decide_eq_true_eq]
  (repeat' split) <;> omega

abbrev L_38 (x : PChan) (a1 : Option Addr) (c1 : Nat) (a2 : Option Addr) (c2 : Nat) (a3 : Option Addr) (c3 : Nat) (a4 : Option Addr) (c4 : Nat) (a5 : Option Addr) (c5 : Nat) (a6 : Option Addr) (c6 : Nat) : List Value := [vi x.Role, vs a1 x.Sn.length c1, vi x.Cur.N, vs a2 x.Cur.Key.length c2, vi x.Cur.Seq, vi x.Cur.Win.Top, vs a3 x.Cur.Win.Bits.length c3, vi x.Old.N, vs a4 x.Old.Key.length c4, vi x.Old.Seq, vi x.Old.Win.Top, vs a5 x.Old.Win.Bits.length c5, vb x.HasOld, vi x.Until, vs a6 x.Next.length c6]
theorem isAgg_48 : ∀ w, (isAgg 48).run Try.prog w = .ok true w := fun w => by kernel_rfl
theorem sizeOf_48 : ∀ w, (sizeOf 48).run Try.prog w = .ok 5 w := fun w => by kernel_rfl
abbrev L_48 (x : PEp) (a1 : Option Addr) (c1 : Nat) (a2 : Option Addr) (c2 : Nat) : List Value := [vi x.N, vs a1 x.Key.length c1, vi x.Seq, vi x.Win.Top, vs a2 x.Win.Bits.length c2]
def Q_50 (w : World) (v : Value) (x : (PChan)) : Prop := ∃ (a1 : Option Addr) (c1 : Nat) (a2 : Option Addr) (c2 : Nat) (a3 : Option Addr) (c3 : Nat) (a4 : Option Addr) (c4 : Nat) (a5 : Option Addr) (c5 : Nat) (a6 : Option Addr) (c6 : Nat), v = .agg #[.int .i64 x.Role, .slice a1 x.Sn.length c1, .int .i64 x.Cur.N, .slice a2 x.Cur.Key.length c2, .int .i64 x.Cur.Seq, .int .i64 x.Cur.Win.Top, .slice a3 x.Cur.Win.Bits.length c3, .int .i64 x.Old.N, .slice a4 x.Old.Key.length c4, .int .i64 x.Old.Seq, .int .i64 x.Old.Win.Top, .slice a5 x.Old.Win.Bits.length c5, .bool x.HasOld, .int .i64 x.Until, .slice a6 x.Next.length c6] ∧ Rd w 1 (.slice a1 x.Sn.length c1) x.Sn.length (x.Sn.map bV) ∧ x.Sn.length ≤ 9223372036854775807 ∧ Rd w 1 (.slice a2 x.Cur.Key.length c2) x.Cur.Key.length (x.Cur.Key.map bV) ∧ x.Cur.Key.length ≤ 9223372036854775807 ∧ Rd w 1 (.slice a3 x.Cur.Win.Bits.length c3) x.Cur.Win.Bits.length (x.Cur.Win.Bits.map iV) ∧ x.Cur.Win.Bits.length ≤ 9223372036854775807 ∧ Rd w 1 (.slice a4 x.Old.Key.length c4) x.Old.Key.length (x.Old.Key.map bV) ∧ x.Old.Key.length ≤ 9223372036854775807 ∧ Rd w 1 (.slice a5 x.Old.Win.Bits.length c5) x.Old.Win.Bits.length (x.Old.Win.Bits.map iV) ∧ x.Old.Win.Bits.length ≤ 9223372036854775807 ∧ Rd w 1 (.slice a6 x.Next.length c6) x.Next.length (x.Next.map bV) ∧ x.Next.length ≤ 9223372036854775807
theorem mQ_48 {w : World} {x : PEp} {a1 : Option Addr} {c1 : Nat} {a2 : Option Addr} {c2 : Nat} (h1 : Rd w 1 (.slice a1 x.Key.length c1) x.Key.length (x.Key.map bV)) (l1 : x.Key.length ≤ 9223372036854775807) (h2 : Rd w 1 (.slice a2 x.Win.Bits.length c2) x.Win.Bits.length (x.Win.Bits.map iV)) (l2 : x.Win.Bits.length ≤ 9223372036854775807) : Q_48 w (va (L_48 x a1 c1 a2 c2)) x := ⟨_, _, _, _, rfl, h1, l1, h2, l2⟩
def F_laws_szChan (x_a : PChan) (x_left : Int) : (Int) := bif (decide ((F_laws_szByteS x_a.Sn x_left) < 0)) then ((-1)) else (bif (decide ((F_laws_szEp x_a.Cur (F_laws_szByteS x_a.Sn x_left)) < 0)) then ((-1)) else (bif (decide ((F_laws_szEp x_a.Old (F_laws_szEp x_a.Cur (F_laws_szByteS x_a.Sn x_left))) < 0)) then ((-1)) else (bif (decide ((F_laws_szByteS x_a.Next (F_laws_szEp x_a.Old (F_laws_szEp x_a.Cur (F_laws_szByteS x_a.Sn x_left)))) < 0)) then ((-1)) else ((F_laws_szByteS x_a.Next (F_laws_szEp x_a.Old (F_laws_szEp x_a.Cur (F_laws_szByteS x_a.Sn x_left))))))))
theorem C_laws_szChan (w0 : World) (v_x_a : Value) (x_a : PChan) (r_x_a : Q_50 w0 v_x_a x_a) (x_left : Int) (pre0 : 0 ≤ x_left) (pre1 : x_left ≤ 1048576) : Fn Try.prog 24 #[v_x_a, (vi x_left)] w0 (fun v w' => Keep w0 w' ∧ O_3 w' w0.heap.size v (F_laws_szChan x_a x_left)) := by
 obtain ⟨a1, c2, a6, c7, a11, c12, a16, c17, a21, c22, a26, c27, rfl, r3, s4, r8, s9, r13, s14, r18, s19, r23, s24, r28, s29⟩ := r_x_a
 refine fn_of (n := 30) (l := [(va (L_38 x_a a1 c2 a6 c7 a11 c12 a16 c17 a21 c22 a26 c27)), (vi x_left), U, U, U, U, U, U, U, U, U, U, U, U, U, U, U, U, U, U, U, U, U, U, U, U, U, U, U, U]) Try.func24 rfl rfl (by kernel_rfl) rfl ?_
 refine sr ?_
 refine bx (L_38 x_a a1 c2 a6 c7 a11 c12 a16 c17 a21 c22 a26 c27) wN ?_
 intro g31 w1 p32 p33 k34 b35
 have m36 := (Ch.base w0).extk k34
 refine aw (vi 0) ?_
 refine nx ?_
 refine pu (vp g31 1) wN ?_
 refine ld (vs a1 x_a.Sn.length c2) wN isAgg_22 b35 ?_
 refine mw (vi x_left) ?_
 refine cl wN (C_laws_szByteS w1 _ x_a.Sn (mQ_22 (r3.from0 m36) s4) x_left (by omega) (by omega)) ?_
 rintro _ w2 ⟨k37, rfl⟩
 have m38 := m36.extk k37
 have q39 := laws_szByteS_le x_a.Sn x_left
 refine aw (vi (F_laws_szByteS x_a.Sn x_left)) ?_
 refine n4 ?_
 refine mw (vi (F_laws_szByteS x_a.Sn x_left)) ?_
 refine pu (vb (decide ((F_laws_szByteS x_a.Sn x_left) < 0))) wN ?_
 refine n2 ?_
 rcases bt (decide ((F_laws_szByteS x_a.Sn x_left) < 0)) with h40 | h40
 ·have q41 := of_decide_eq_true h40
  refine ct h40 ?_
  refine sr ?_
  refine aw (vi (-1)) ?_
  refine n1 ?_
  refine rt (vi (-1)) ?_
  refine ⟨m38.keep0, ?_⟩
  have hF42 : F_laws_szChan x_a x_left = (-1) := by simp only [F_laws_szChan, h40, cond_true, cond_false]
  rw [hF42]
  exact rfl
 have q43 := of_decide_eq_false h40
 refine cf h40 ?_
 refine y1 ?_
 refine pu (vp g31 2) wN ?_
 have b44 := (b35.kp k37)
 refine lN (L_36 x_a.Cur a6 c7 a11 c12) wN isAgg_48 sizeOf_48 b44 ?_
 refine mw (vi (F_laws_szByteS x_a.Sn x_left)) ?_
 refine cl wN (C_laws_szEp w2 _ x_a.Cur (mQ_48 (r8.from0 m38) s9 (r13.from0 m38) s14) (F_laws_szByteS x_a.Sn x_left) (by omega) (by omega)) ?_
 rintro _ w3 ⟨k45, rfl⟩
 have m46 := m38.extk k45
 have q47 := laws_szEp_le x_a.Cur (F_laws_szByteS x_a.Sn x_left)
 refine aw (vi (F_laws_szEp x_a.Cur (F_laws_szByteS x_a.Sn x_left))) ?_
 refine n4 ?_
 refine mw (vi (F_laws_szEp x_a.Cur (F_laws_szByteS x_a.Sn x_left))) ?_
 refine pu (vb (decide ((F_laws_szEp x_a.Cur (F_laws_szByteS x_a.Sn x_left)) < 0))) wN ?_
 refine n2 ?_
 rcases bt (decide ((F_laws_szEp x_a.Cur (F_laws_szByteS x_a.Sn x_left)) < 0)) with h48 | h48
 ·have q49 := of_decide_eq_true h48
  refine ct h48 ?_
  refine sr ?_
  refine aw (vi (-1)) ?_
  refine n1 ?_
  refine rt (vi (-1)) ?_
  refine ⟨m46.keep0, ?_⟩
  have hF50 : F_laws_szChan x_a x_left = (-1) := by simp only [F_laws_szChan, h40, h48, cond_true, cond_false]
  rw [hF50]
  exact rfl
 have q51 := of_decide_eq_false h48
 refine cf h48 ?_
 refine y1 ?_
 refine pu (vp g31 7) wN ?_
 have b52 := (b44.kp k45)
 refine lN (L_36 x_a.Old a16 c17 a21 c22) wN isAgg_48 sizeOf_48 b52 ?_
 refine mw (vi (F_laws_szEp x_a.Cur (F_laws_szByteS x_a.Sn x_left))) ?_
 refine cl wN (C_laws_szEp w3 _ x_a.Old (mQ_48 (r18.from0 m46) s19 (r23.from0 m46) s24) (F_laws_szEp x_a.Cur (F_laws_szByteS x_a.Sn x_left)) (by omega) (by omega)) ?_
 rintro _ w4 ⟨k53, rfl⟩
 have m54 := m46.extk k53
 have q55 := laws_szEp_le x_a.Old (F_laws_szEp x_a.Cur (F_laws_szByteS x_a.Sn x_left))
 refine aw (vi (F_laws_szEp x_a.Old (F_laws_szEp x_a.Cur (F_laws_szByteS x_a.Sn x_left)))) ?_
 refine n4 ?_
 refine mw (vi (F_laws_szEp x_a.Old (F_laws_szEp x_a.Cur (F_laws_szByteS x_a.Sn x_left)))) ?_
 refine pu (vb (decide ((F_laws_szEp x_a.Old (F_laws_szEp x_a.Cur (F_laws_szByteS x_a.Sn x_left))) < 0))) wN ?_
 refine n2 ?_
 rcases bt (decide ((F_laws_szEp x_a.Old (F_laws_szEp x_a.Cur (F_laws_szByteS x_a.Sn x_left))) < 0)) with h56 | h56
 ·have q57 := of_decide_eq_true h56
  refine ct h56 ?_
  refine sr ?_
  refine aw (vi (-1)) ?_
  refine n1 ?_
  refine rt (vi (-1)) ?_
  refine ⟨m54.keep0, ?_⟩
  have hF58 : F_laws_szChan x_a x_left = (-1) := by simp only [F_laws_szChan, h40, h48, h56, cond_true, cond_false]
  rw [hF58]
  exact rfl
 have q59 := of_decide_eq_false h56
 refine cf h56 ?_
 refine y1 ?_
 refine pu (vp g31 14) wN ?_
 have b60 := (b52.kp k53)
 refine ld (vs a26 x_a.Next.length c27) wN isAgg_22 b60 ?_
 refine mw (vi (F_laws_szEp x_a.Old (F_laws_szEp x_a.Cur (F_laws_szByteS x_a.Sn x_left)))) ?_
 refine cl wN (C_laws_szByteS w4 _ x_a.Next (mQ_22 (r28.from0 m54) s29) (F_laws_szEp x_a.Old (F_laws_szEp x_a.Cur (F_laws_szByteS x_a.Sn x_left))) (by omega) (by omega)) ?_
 rintro _ w5 ⟨k61, rfl⟩
 have m62 := m54.extk k61
 have q63 := laws_szByteS_le x_a.Next (F_laws_szEp x_a.Old (F_laws_szEp x_a.Cur (F_laws_szByteS x_a.Sn x_left)))
 refine aw (vi (F_laws_szByteS x_a.Next (F_laws_szEp x_a.Old (F_laws_szEp x_a.Cur (F_laws_szByteS x_a.Sn x_left))))) ?_
 refine n4 ?_
 refine mw (vi (F_laws_szByteS x_a.Next (F_laws_szEp x_a.Old (F_laws_szEp x_a.Cur (F_laws_szByteS x_a.Sn x_left))))) ?_
 refine pu (vb (decide ((F_laws_szByteS x_a.Next (F_laws_szEp x_a.Old (F_laws_szEp x_a.Cur (F_laws_szByteS x_a.Sn x_left)))) < 0))) wN ?_
 refine n2 ?_
 rcases bt (decide ((F_laws_szByteS x_a.Next (F_laws_szEp x_a.Old (F_laws_szEp x_a.Cur (F_laws_szByteS x_a.Sn x_left)))) < 0)) with h64 | h64
 ·have q65 := of_decide_eq_true h64
  refine ct h64 ?_
  refine sr ?_
  refine aw (vi (-1)) ?_
  refine n1 ?_
  refine rt (vi (-1)) ?_
  refine ⟨m62.keep0, ?_⟩
  have hF66 : F_laws_szChan x_a x_left = (-1) := by simp only [F_laws_szChan, h40, h48, h56, h64, cond_true, cond_false]
  rw [hF66]
  exact rfl
 have q67 := of_decide_eq_false h64
 refine cf h64 ?_
 refine y1 ?_
 refine mw (vi (F_laws_szByteS x_a.Next (F_laws_szEp x_a.Old (F_laws_szEp x_a.Cur (F_laws_szByteS x_a.Sn x_left))))) ?_
 refine aw (vi (F_laws_szByteS x_a.Next (F_laws_szEp x_a.Old (F_laws_szEp x_a.Cur (F_laws_szByteS x_a.Sn x_left))))) ?_
 refine n3 ?_
 refine rt (vi (F_laws_szByteS x_a.Next (F_laws_szEp x_a.Old (F_laws_szEp x_a.Cur (F_laws_szByteS x_a.Sn x_left))))) ?_
 refine ⟨m62.keep0, ?_⟩
 have hF68 : F_laws_szChan x_a x_left = (F_laws_szByteS x_a.Next (F_laws_szEp x_a.Old (F_laws_szEp x_a.Cur (F_laws_szByteS x_a.Sn x_left)))) := by simp only [F_laws_szChan, h40, h48, h56, h64, cond_true, cond_false]
 rw [hF68]
 exact rfl
theorem laws_szChan_le (x : PChan) (l : Int) : F_laws_szChan x l = -1 ∨ (F_laws_szChan x l = l - ((x.Sn.length : Int) + (x.Cur.Key.length : Int) + (x.Cur.Win.Bits.length : Int) + (x.Old.Key.length : Int) + (x.Old.Win.Bits.length : Int) + (x.Next.length : Int)) ∧ (0 ≤ F_laws_szChan x l ∨ l < 0 ∨ False)) := by
  have h0 := laws_szByteS_le x.Sn l
  have h1 := laws_szEp_le x.Cur (F_laws_szByteS x.Sn l)
  have h2 := laws_szEp_le x.Old (F_laws_szEp x.Cur (F_laws_szByteS x.Sn l))
  have h3 := laws_szByteS_le x.Next (F_laws_szEp x.Old (F_laws_szEp x.Cur (F_laws_szByteS x.Sn l)))
  simp only [F_laws_szChan, cond_eq_ite, decide_eq_true_eq]
  (repeat' split) <;> omega

theorem C_laws_toIntS (w0 : World) (v_x_a : Value) (x_a : List Int) (r_x_a : R_32 w0 v_x_a x_a)  : Fn Try.prog 135 #[v_x_a] w0 (fun v w' => Keep w0 w' ∧ O_32 w' w0.heap.size v (cpI x_a)) := by
 obtain ⟨a1, c2, rfl, r3, s4⟩ := r_x_a
 refine fn_of (n := 22) (l := [(vs a1 x_a.length c2), U, U, U, U, U, U, U, U, U, U, U, U, U, U, U, U, U, U, U, U, U]) Try.func135 rfl rfl (by kernel_rfl) rfl ?_
 refine sr ?_
 refine aw (vs none 0 0) ?_
 refine nx ?_
 refine mw (vs a1 x_a.length c2) ?_
 refine ln wN slTy_32 r3 ?_
 refine wl_makeI (x_a.length) wN rfl rfl rfl slTy_32 (x_a.length : Int) rfl (by omega) (by first | (simp only [List.length_append, List.length_cons, List.length_nil, List.length_replicate, List.length_take, List.length_drop]; omega) | omega) (by first | (simp only [List.length_append, List.length_cons, List.length_nil, List.length_replicate, List.length_take, List.length_drop]; omega) | omega) ?_
 intro a6 c7 w1 k8 o9
 have m10 := (Ch.base w0).extk k8
 refine aw (vs a6 (List.replicate x_a.length (0 : Int)).length c7) ?_
 refine n4 ?_
 refine aw (vi 0) ?_
 refine wl_nil <| wq_then <| wc_block ?_
 have hE13 : ((List.replicate x_a.length (0 : Int)) : List Int) = x_a.take 0 ++ List.replicate (x_a.length - 0) (0 : Int) := by first | exact cpI_next (by omega) | simp
 refine wc_loopQ (fun e => [(vs a1 x_a.length c2), e 1, (vs none 0 0), (vs a6 (List.replicate x_a.length (0 : Int)).length c7), (vi ((0 : Nat) : Int)), e 5, e 6, e 7, e 8, e 9, e 10, e 11, e 12, e 13, e 14, e 15, e 16, e 17, e 18, e 19, e 20, U]) rfl ⟨rfl, rfl, rfl, rfl, (congrArg (Value.int .i64) (show (0 : Int) = ((0 : Nat) : Int) by omega)), rfl, rfl, rfl, rfl, rfl, rfl, rfl, rfl, rfl, rfl, rfl, rfl, rfl, rfl, rfl, rfl, rfl, trivial⟩ (fun e' w' => ∃ (k : Nat) (u12 : Nat → Value), e' = lst [(vs a1 x_a.length c2), (u12 0), (vs none 0 0), (vs a6 (List.replicate x_a.length (0 : Int)).length c7), (vi ((k : Nat) : Int)), (u12 1), (u12 2), (u12 3), (u12 4), (u12 5), (u12 6), (u12 7), (u12 8), (u12 9), (u12 10), (u12 11), (u12 12), (u12 13), (u12 14), (u12 15), (u12 16), U] ∧ Ch (fun k => w0.heap.size ≤ k) w0 w' ∧ Ch (fun k => w0.heap.size ≤ k) w1 w' ∧ k ≤ x_a.length ∧ World.ownsRow w' w0.heap.size 3 1 (.slice a6 (List.replicate x_a.length (0 : Int)).length c7) (List.replicate x_a.length (0 : Int)).length ((x_a.take k ++ List.replicate (x_a.length - k) (0 : Int)).map iV)) (fun e' _ => x_a.length - ((intOf (e' 4))).toNat) ?_ ?_
 ·exact fun u => ⟨0, (unL [u 1, u 5, u 6, u 7, u 8, u 9, u 10, u 11, u 12, u 13, u 14, u 15, u 16, u 17, u 18, u 19, u 20]), rfl, m10, (Ch.refl (fun k => w0.heap.size ≤ k) w1), (by omega), (by rw [← hE13]; exact o9)⟩
 ·rintro _ w2 ⟨k, u12, rfl, m14, k15, i16, o17⟩
  refine wc_seq <| sr ?_
  refine mw (vi ((k : Nat) : Int)) ?_
  refine mw (vs a1 x_a.length c2) ?_
  refine ln wN slTy_32 (r3.from0 m14) ?_
  refine pu (vb (decide (((k : Nat) : Int) < (x_a.length : Int)))) wN ?_
  refine n2 ?_
  rcases bf (decide (((k : Nat) : Int) < (x_a.length : Int))) with h18 | h18
  ·have q24 := of_decide_eq_false h18
   refine cf h18 ?_
   refine wc_exit <| wq_then_exit <| wq_then_exit <| wq_blk_exit <| wq_then <| sr ?_
   refine mw (vs a6 (List.replicate x_a.length (0 : Int)).length c7) ?_
   refine aw (vs a6 (List.replicate x_a.length (0 : Int)).length c7) ?_
   refine n3 ?_
   refine rt (vs a6 (List.replicate x_a.length (0 : Int)).length c7) ?_
   refine ⟨m14.keep0, ?_⟩
   have hF25 : cpI x_a = (x_a.take k ++ List.replicate (x_a.length - k) (0 : Int)) := by exact cpI_end (by omega)
   rw [hF25]
   have hN26 : (List.replicate x_a.length (0 : Int)).length = ((x_a.take k ++ List.replicate (x_a.length - k) (0 : Int))).length := by first | (simp only [List.length_append, List.length_take, List.length_replicate, List.length_set, List.length_map]; done) | (simp only [List.length_append, List.length_take, List.length_replicate, List.length_set, List.length_map]; omega)
   rw [hN26] at o17 ⊢
   exact ⟨_, _, rfl, o17, (by rw [← hN26]; rw [List.length_replicate]; first | assumption | omega), ⟨trivial, trivial⟩⟩
  have q19 := of_decide_eq_true h18
  refine ct h18 ?_
  refine wc_skip <| wq_then <| wc_seq <| wc_block <| wc_region ?_
  refine mw (vs a6 (List.replicate x_a.length (0 : Int)).length c7) ?_
  refine mw (vi ((k : Nat) : Int)) ?_
  refine mw (vs a1 x_a.length c2) ?_
  refine mw (vi ((k : Nat) : Int)) ?_
  refine wl_index (v := (vs a1 x_a.length c2)) wN ((k : Nat) : Int) rfl rfl rfl slTy_32 rfl rfl (r3.from0 m14) (by first | omega | (simp only [List.length_cons, List.length_nil, List.length_replicate, List.length_append, List.length_take, List.length_set, List.length_map]; omega)) (by first | omega | (simp only [List.length_cons, List.length_nil, List.length_replicate, List.length_append, List.length_take, List.length_set, List.length_map]; omega)) ?_
  refine wl_loadE (iV (x_a.getD k 0)) wN rfl rfl rfl rfl isAgg_3 (r3.from0 m14) (iget (by simp) (by first | omega | (simp only [List.length_cons, List.length_nil, List.length_replicate, List.length_append, List.length_take, List.length_set, List.length_map]; omega))) ?_
  refine wl_index (v := (vs a6 (List.replicate x_a.length (0 : Int)).length c7)) wN ((k : Nat) : Int) rfl rfl rfl slTy_32 rfl rfl (Rd.of_own o17) (by first | omega | (simp only [List.length_cons, List.length_nil, List.length_replicate, List.length_append, List.length_take, List.length_set, List.length_map]; omega)) (by first | omega | (simp only [List.length_cons, List.length_nil, List.length_replicate, List.length_append, List.length_take, List.length_set, List.length_map]; omega)) ?_
  refine wl_storeI (x_a.take k ++ List.replicate (x_a.length - k) (0 : Int)) (k) ((x_a.getD k 0)) wN rfl rfl rfl (by simp) rfl sizeOf_3 o17 (by first | omega | (simp only [List.length_append, List.length_replicate, List.length_take, List.length_set, List.length_map]; omega)) ?_
  intro w3 k20 o21
  have m22 := m14.ext k20 (fun k hk => Nat.le_trans (Nat.le_refl w0.heap.size) (own_lt o9 k hk).1)
  refine wl_nil <| wq_blk_normal <| wq_then <| wc_region ?_
  refine mw (vi ((k : Nat) : Int)) ?_
  refine ar (((k : Nat) : Int) + 1) wN ?_
  refine aw (vi (((k : Nat) : Int) + 1)) ?_
  refine wl_nil ?_
  have hE23 : (((x_a.take k ++ List.replicate (x_a.length - k) (0 : Int)).set k (x_a.getD k 0)) : List Int) = x_a.take (k + 1) ++ List.replicate (x_a.length - (k + 1)) (0 : Int) := by first | exact cpI_next (by omega) | simp
  refine wq_loopQ (w0 := w2) (fun e => [(vs a1 x_a.length c2), e 1, (vs none 0 0), (vs a6 (List.replicate x_a.length (0 : Int)).length c7), (vi (((k + 1) : Nat) : Int)), e 5, e 6, e 7, e 8, e 9, e 10, e 11, e 12, e 13, e 14, e 15, e 16, e 17, e 18, e 19, e 20, U]) rfl ?_ ?_ ?_
  · exact ⟨rfl, rfl, rfl, rfl, (congrArg (Value.int .i64) (show ((((k : Nat) : Int) + 1) : Int) = (((k + 1) : Nat) : Int) by omega)), rfl, rfl, rfl, rfl, rfl, rfl, rfl, rfl, rfl, rfl, rfl, rfl, rfl, rfl, rfl, rfl, rfl, trivial⟩
  · exact fun u => ⟨(k + 1), (unL [u 1, u 5, u 6, u 7, u 8, u 9, u 10, u 11, u 12, u 13, u 14, u 15, u 16, u 17, u 18, u 19, u 20]), rfl, m22, (((Ch.refl (fun k => w0.heap.size ≤ k) w1).ext k15 (fun k hk => hk)).ext k20 (fun k hk => Nat.le_trans (Nat.le_refl w0.heap.size) (own_lt o9 k hk).1)), (by omega), (by rw [← hE23]; exact o21)⟩
  · show x_a.length - ((((k + 1) : Nat) : Int)).toNat < x_a.length - (((k : Nat) : Int)).toNat; omega

theorem zero_34 : ∀ w, (zeroValue 34).run Try.prog w = .ok (va [(vi 0), (vs none 0 0)]) w := fun w => by kernel_rfl
theorem sizeOf_32 : ∀ w, (sizeOf 32).run Try.prog w = .ok 1 w := fun w => by kernel_rfl
theorem isAgg_34 : ∀ w, (isAgg 34).run Try.prog w = .ok true w := fun w => by kernel_rfl
theorem sizeOf_34 : ∀ w, (sizeOf 34).run Try.prog w = .ok 2 w := fun w => by kernel_rfl
def R_46 (w : World) (v : Value) (x : (PWin)) : Prop := ∃ (a1 : Option Addr) (c1 : Nat), v = .agg #[.int .i64 x.Top, .slice a1 x.Bits.length c1] ∧ Rd w 1 (.slice a1 x.Bits.length c1) x.Bits.length (x.Bits.map iV) ∧ x.Bits.length ≤ 1073741824
def O_34 (w : World) (lo : Nat) (v : Value) (x : (PWin)) : Prop := ∃ (a1 : Option Addr) (c1 : Nat), v = .agg #[.int .i64 x.Top, .slice a1 x.Bits.length c1] ∧ w.ownsRow lo 3 1 (.slice a1 x.Bits.length c1) x.Bits.length (x.Bits.map iV) ∧ x.Bits.length ≤ 1073741824 ∧ Aps [(a1, c1)]
def F_laws_toWin (x_a : PWin) : (PWin) := { Top := x_a.Top, Bits := (cpI x_a.Bits) : PWin }
theorem C_laws_toWin (w0 : World) (v_x_a : Value) (x_a : PWin) (r_x_a : R_46 w0 v_x_a x_a)  : Fn Try.prog 102 #[v_x_a] w0 (fun v w' => Keep w0 w' ∧ O_34 w' w0.heap.size v (F_laws_toWin x_a)) := by
 obtain ⟨a1, c2, rfl, r3, s4⟩ := r_x_a
 refine fn_of (n := 12) (l := [(va (L_34 x_a a1 c2)), U, U, U, U, U, U, U, U, U, U, U]) Try.func102 rfl rfl (by kernel_rfl) rfl ?_
 refine sr ?_
 refine bx (L_34 x_a a1 c2) wN ?_
 intro g6 w1 p7 p8 k9 b10
 have m11 := (Ch.base w0).extk k9
 refine al [(vi 0), (vs none 0 0)] wN zero_34 ?_
 intro g12 w2 p13 p14 k15 b16
 have m17 := m11.extk k15
 refine nx ?_
 refine al [(vi 0), (vs none 0 0)] wN zero_34 ?_
 intro g18 w3 p19 p20 k21 b22
 have m23 := m17.extk k21
 refine nx ?_
 refine pu (vp g6 0) wN ?_
 have b24 := ((b10.kp k15).kp k21)
 refine ld (vi x_a.Top) wN isAgg_3 b24 ?_
 refine pu (vp g18 0) wN ?_
 refine st (vi x_a.Top) [(vi x_a.Top)] [(vi x_a.Top), (vs none 0 0)] wN sizeOf_3 b22 ?_
 intro w4 k25 b26 z27
 have m28 := m23.ext k25 (fun k hk => by subst hk; exact Nat.le_trans (z2 k9 k15) p19)
 refine nx ?_
 refine pu (vp g6 1) wN ?_
 have b29 := (b24.ch k25 (Nat.ne_of_lt (Nat.lt_of_lt_of_le p8 (Nat.le_trans k15.size p19))))
 refine ld (vs a1 x_a.Bits.length c2) wN isAgg_32 b29 ?_
 refine cl wN (C_laws_toIntS w4 _ x_a.Bits (mR_32 (r3.from0 m28) s4)) ?_
 rintro _ w5 ⟨k30, ⟨a31, c32, rfl, o33, s34, ap36⟩⟩
 have m37 := m28.extk k30
 refine pu (vp g18 1) wN ?_
 have b38 := (b26.kp k30)
 refine st (vs a31 (cpI x_a.Bits).length c32) [(vs a31 (cpI x_a.Bits).length c32)] [(vi x_a.Top), (vs a31 (cpI x_a.Bits).length c32)] wN sizeOf_32 b38 ?_
 intro w6 k39 b40 z41
 have m42 := m37.ext k39 (fun k hk => by subst hk; exact Nat.le_trans (z2 k9 k15) p19)
 refine nx ?_
 refine lN [(vi x_a.Top), (vs a31 (cpI x_a.Bits).length c32)] wN isAgg_34 sizeOf_34 b40 ?_
 have b43 := ((((b16.kp k21).ch k25 (Nat.ne_of_lt (Nat.lt_of_lt_of_le p14 (p19)))).kp k30).ch k39 (Nat.ne_of_lt (Nat.lt_of_lt_of_le p14 (p19))))
 refine st (va [(vi x_a.Top), (vs a31 (cpI x_a.Bits).length c32)]) [(vi x_a.Top), (vs a31 (cpI x_a.Bits).length c32)] [(vi x_a.Top), (vs a31 (cpI x_a.Bits).length c32)] wN sizeOf_34 b43 ?_
 intro w7 k44 b45 z46
 have m47 := m42.ext k44 (fun k hk => by subst hk; exact Nat.le_trans k9.size p13)
 refine n3 ?_
 have o48 := (own_ch (own_ch o33 k39 (ne1 o33 (Nat.lt_of_lt_of_le p20 k25.size))) k44 (ne1 o33 (Nat.lt_of_lt_of_le p14 (z2 k21 k25))))
 refine ret_1 (.inl rfl) (va [(vi x_a.Top), (vs a31 (cpI x_a.Bits).length c32)]) rfl (rv_c [(vi x_a.Top), (vs a31 (cpI x_a.Bits).length c32)] rfl b45 isAgg_34 sizeOf_34) ?_
 refine ⟨m47.keep0, ?_⟩
 have hF49 : F_laws_toWin x_a = { Top := x_a.Top, Bits := (cpI x_a.Bits) : PWin } := by rfl
 rw [hF49]
 exact ⟨_, _, rfl, (own_lo o48 (z4 k9 k15 k21 k25)), s34, ⟨trivial, trivial⟩⟩

theorem zero_36 : ∀ w, (zeroValue 36).run Try.prog w = .ok (va [(vi 0), (vs none 0 0), (vi 0), (vi 0), (vs none 0 0)]) w := fun w => by kernel_rfl
theorem sizeOf_22 : ∀ w, (sizeOf 22).run Try.prog w = .ok 1 w := fun w => by kernel_rfl
theorem isAgg_36 : ∀ w, (isAgg 36).run Try.prog w = .ok true w := fun w => by kernel_rfl
theorem sizeOf_36 : ∀ w, (sizeOf 36).run Try.prog w = .ok 5 w := fun w => by kernel_rfl
def R_48 (w : World) (v : Value) (x : (PEp)) : Prop := ∃ (a1 : Option Addr) (c1 : Nat) (a2 : Option Addr) (c2 : Nat), v = .agg #[.int .i64 x.N, .slice a1 x.Key.length c1, .int .i64 x.Seq, .int .i64 x.Win.Top, .slice a2 x.Win.Bits.length c2] ∧ Rd w 1 (.slice a1 x.Key.length c1) x.Key.length (x.Key.map bV) ∧ x.Key.length ≤ 1073741824 ∧ Rd w 1 (.slice a2 x.Win.Bits.length c2) x.Win.Bits.length (x.Win.Bits.map iV) ∧ x.Win.Bits.length ≤ 1073741824
def O_36 (w : World) (lo : Nat) (v : Value) (x : (PEp)) : Prop := ∃ (a1 : Option Addr) (c1 : Nat) (a2 : Option Addr) (c2 : Nat), v = .agg #[.int .i64 x.N, .slice a1 x.Key.length c1, .int .i64 x.Seq, .int .i64 x.Win.Top, .slice a2 x.Win.Bits.length c2] ∧ w.ownsRow lo 5 1 (.slice a1 x.Key.length c1) x.Key.length (x.Key.map bV) ∧ x.Key.length ≤ 1073741824 ∧ w.ownsRow lo 3 1 (.slice a2 x.Win.Bits.length c2) x.Win.Bits.length (x.Win.Bits.map iV) ∧ x.Win.Bits.length ≤ 1073741824 ∧ Aps [(a1, c1), (a2, c2)]
theorem mR_46 {w : World} {x : PWin} {a1 : Option Addr} {c1 : Nat} (h1 : Rd w 1 (.slice a1 x.Bits.length c1) x.Bits.length (x.Bits.map iV)) (l1 : x.Bits.length ≤ 1073741824) : R_46 w (va (L_46 x a1 c1)) x := ⟨_, _, rfl, h1, l1⟩
def F_laws_toEp (x_a : PEp) : (PEp) := { N := x_a.N, Key := (cpB x_a.Key), Seq := x_a.Seq, Win := (F_laws_toWin x_a.Win) : PEp }
theorem C_laws_toEp (w0 : World) (v_x_a : Value) (x_a : PEp) (r_x_a : R_48 w0 v_x_a x_a)  : Fn Try.prog 67 #[v_x_a] w0 (fun v w' => Keep w0 w' ∧ O_36 w' w0.heap.size v (F_laws_toEp x_a)) := by
 obtain ⟨a1, c2, a6, c7, rfl, r3, s4, r8, s9⟩ := r_x_a
 refine fn_of (n := 19) (l := [(va (L_36 x_a a1 c2 a6 c7)), U, U, U, U, U, U, U, U, U, U, U, U, U, U, U, U, U, U]) Try.func67 rfl rfl (by kernel_rfl) rfl ?_
 refine sr ?_
 refine bx (L_36 x_a a1 c2 a6 c7) wN ?_
 intro g11 w1 p12 p13 k14 b15
 have m16 := (Ch.base w0).extk k14
 refine al [(vi 0), (vs none 0 0), (vi 0), (vi 0), (vs none 0 0)] wN zero_36 ?_
 intro g17 w2 p18 p19 k20 b21
 have m22 := m16.extk k20
 refine nx ?_
 refine al [(vi 0), (vs none 0 0), (vi 0), (vi 0), (vs none 0 0)] wN zero_36 ?_
 intro g23 w3 p24 p25 k26 b27
 have m28 := m22.extk k26
 refine nx ?_
 refine pu (vp g11 0) wN ?_
 have b29 := ((b15.kp k20).kp k26)
 refine ld (vi x_a.N) wN isAgg_3 b29 ?_
 refine pu (vp g23 0) wN ?_
 refine st (vi x_a.N) [(vi x_a.N)] [(vi x_a.N), (vs none 0 0), (vi 0), (vi 0), (vs none 0 0)] wN sizeOf_3 b27 ?_
 intro w4 k30 b31 z32
 have m33 := m28.ext k30 (fun k hk => by subst hk; exact Nat.le_trans (z2 k14 k20) p24)
 refine nx ?_
 refine pu (vp g11 1) wN ?_
 have b34 := (b29.ch k30 (Nat.ne_of_lt (Nat.lt_of_lt_of_le p13 (Nat.le_trans k20.size p24))))
 refine ld (vs a1 x_a.Key.length c2) wN isAgg_22 b34 ?_
 refine cl wN (C_laws_toByteS w4 _ x_a.Key (mR_22 (r3.from0 m33) s4)) ?_
 rintro _ w5 ⟨k35, ⟨a36, c37, rfl, o38, s39, ap41⟩⟩
 have m42 := m33.extk k35
 refine pu (vp g23 1) wN ?_
 have b43 := (b31.kp k35)
 refine st (vs a36 (cpB x_a.Key).length c37) [(vs a36 (cpB x_a.Key).length c37)] [(vi x_a.N), (vs a36 (cpB x_a.Key).length c37), (vi 0), (vi 0), (vs none 0 0)] wN sizeOf_22 b43 ?_
 intro w6 k44 b45 z46
 have m47 := m42.ext k44 (fun k hk => by subst hk; exact Nat.le_trans (z2 k14 k20) p24)
 refine nx ?_
 refine pu (vp g11 2) wN ?_
 have b48 := ((b34.kp k35).ch k44 (Nat.ne_of_lt (Nat.lt_of_lt_of_le p13 (Nat.le_trans k20.size p24))))
 refine ld (vi x_a.Seq) wN isAgg_3 b48 ?_
 refine pu (vp g23 2) wN ?_
 refine st (vi x_a.Seq) [(vi x_a.Seq)] [(vi x_a.N), (vs a36 (cpB x_a.Key).length c37), (vi x_a.Seq), (vi 0), (vs none 0 0)] wN sizeOf_3 b45 ?_
 intro w7 k49 b50 z51
 have m52 := m47.ext k49 (fun k hk => by subst hk; exact Nat.le_trans (z2 k14 k20) p24)
 refine nx ?_
 refine pu (vp g11 3) wN ?_
 have b53 := (b48.ch k49 (Nat.ne_of_lt (Nat.lt_of_lt_of_le p13 (Nat.le_trans k20.size p24))))
 refine lN (L_34 x_a.Win a6 c7) wN isAgg_46 sizeOf_46 b53 ?_
 refine cl wN (C_laws_toWin w7 _ x_a.Win (mR_46 (r8.from0 m52) s9)) ?_
 rintro _ w8 ⟨k54, ⟨a55, c56, rfl, o57, s58, ap60⟩⟩
 have m61 := m52.extk k54
 refine pu (vp g23 3) wN ?_
 have b62 := (b50.kp k54)
 refine st (va (L_34 (F_laws_toWin x_a.Win) a55 c56)) (L_34 (F_laws_toWin x_a.Win) a55 c56) [(vi x_a.N), (vs a36 (cpB x_a.Key).length c37), (vi x_a.Seq), (vi ((F_laws_toWin x_a.Win).Top)), (vs a55 ((F_laws_toWin x_a.Win).Bits).length c56)] wN sizeOf_34 b62 ?_
 intro w9 k63 b64 z65
 have m66 := m61.ext k63 (fun k hk => by subst hk; exact Nat.le_trans (z2 k14 k20) p24)
 refine nx ?_
 refine lN [(vi x_a.N), (vs a36 (cpB x_a.Key).length c37), (vi x_a.Seq), (vi ((F_laws_toWin x_a.Win).Top)), (vs a55 ((F_laws_toWin x_a.Win).Bits).length c56)] wN isAgg_36 sizeOf_36 b64 ?_
 have zz1 := Nat.lt_of_lt_of_le p19 (p24)
 have b67 := (((((((b21.kp k26).ch k30 (Nat.ne_of_lt zz1)).kp k35).ch k44 (Nat.ne_of_lt zz1)).ch k49 (Nat.ne_of_lt zz1)).kp k54).ch k63 (Nat.ne_of_lt zz1))
 refine st (va [(vi x_a.N), (vs a36 (cpB x_a.Key).length c37), (vi x_a.Seq), (vi ((F_laws_toWin x_a.Win).Top)), (vs a55 ((F_laws_toWin x_a.Win).Bits).length c56)]) [(vi x_a.N), (vs a36 (cpB x_a.Key).length c37), (vi x_a.Seq), (vi ((F_laws_toWin x_a.Win).Top)), (vs a55 ((F_laws_toWin x_a.Win).Bits).length c56)] [(vi x_a.N), (vs a36 (cpB x_a.Key).length c37), (vi x_a.Seq), (vi ((F_laws_toWin x_a.Win).Top)), (vs a55 ((F_laws_toWin x_a.Win).Bits).length c56)] wN sizeOf_36 b67 ?_
 intro w10 k68 b69 z70
 have m71 := m66.ext k68 (fun k hk => by subst hk; exact Nat.le_trans k14.size p18)
 refine n3 ?_
 have zz2 := Nat.lt_of_lt_of_le p25 k30.size
 have o72 := (own_ch (own_ch (own_kp (own_ch (own_ch o38 k44 (ne1 o38 zz2)) k49 (ne1 o38 zz2)) k54) k63 (ne1 o38 zz2)) k68 (ne1 o38 (Nat.lt_of_lt_of_le p19 (z2 k26 k30))))
 have o73 := (own_ch (own_ch o57 k63 (ne1 o57 (Nat.lt_of_lt_of_le p25 (z4 k30 k35 k44 k49)))) k68 (ne1 o57 (Nat.lt_of_lt_of_le p19 (z5 k26 k30 k35 k44 k49))))
 refine ret_1 (.inl rfl) (va [(vi x_a.N), (vs a36 (cpB x_a.Key).length c37), (vi x_a.Seq), (vi ((F_laws_toWin x_a.Win).Top)), (vs a55 ((F_laws_toWin x_a.Win).Bits).length c56)]) rfl (rv_c [(vi x_a.N), (vs a36 (cpB x_a.Key).length c37), (vi x_a.Seq), (vi ((F_laws_toWin x_a.Win).Top)), (vs a55 ((F_laws_toWin x_a.Win).Bits).length c56)] rfl b69 isAgg_36 sizeOf_36) ?_
 refine ⟨m71.keep0, ?_⟩
 have hF74 : F_laws_toEp x_a = { N := x_a.N, Key := (cpB x_a.Key), Seq := x_a.Seq, Win := (F_laws_toWin x_a.Win) : PEp } := by rfl
 rw [hF74]
 exact ⟨_, _, _, _, rfl, (own_lo o72 (z4 k14 k20 k26 k30)), s39, (own_lo o73 (z7 k14 k20 k26 k30 k35 k44 k49)), s58, ⟨⟨(Ap.lt o38 o57 (z2 k44 k49)), trivial⟩, ⟨trivial, trivial⟩⟩⟩

theorem zero_38 : ∀ w, (zeroValue 38).run Try.prog w = .ok (va [(vi 0), (vs none 0 0), (vi 0), (vs none 0 0), (vi 0), (vi 0), (vs none 0 0), (vi 0), (vs none 0 0), (vi 0), (vi 0), (vs none 0 0), (vb false), (vi 0), (vs none 0 0)]) w := fun w => by kernel_rfl
theorem isAgg_4 : ∀ w, (isAgg 4).run Try.prog w = .ok false w := fun w => by kernel_rfl
theorem sizeOf_4 : ∀ w, (sizeOf 4).run Try.prog w = .ok 1 w := fun w => by kernel_rfl
theorem isAgg_38 : ∀ w, (isAgg 38).run Try.prog w = .ok true w := fun w => by kernel_rfl
theorem sizeOf_38 : ∀ w, (sizeOf 38).run Try.prog w = .ok 15 w := fun w => by kernel_rfl
def R_50 (w : World) (v : Value) (x : (PChan)) : Prop := ∃ (a1 : Option Addr) (c1 : Nat) (a2 : Option Addr) (c2 : Nat) (a3 : Option Addr) (c3 : Nat) (a4 : Option Addr) (c4 : Nat) (a5 : Option Addr) (c5 : Nat) (a6 : Option Addr) (c6 : Nat), v = .agg #[.int .i64 x.Role, .slice a1 x.Sn.length c1, .int .i64 x.Cur.N, .slice a2 x.Cur.Key.length c2, .int .i64 x.Cur.Seq, .int .i64 x.Cur.Win.Top, .slice a3 x.Cur.Win.Bits.length c3, .int .i64 x.Old.N, .slice a4 x.Old.Key.length c4, .int .i64 x.Old.Seq, .int .i64 x.Old.Win.Top, .slice a5 x.Old.Win.Bits.length c5, .bool x.HasOld, .int .i64 x.Until, .slice a6 x.Next.length c6] ∧ Rd w 1 (.slice a1 x.Sn.length c1) x.Sn.length (x.Sn.map bV) ∧ x.Sn.length ≤ 1073741824 ∧ Rd w 1 (.slice a2 x.Cur.Key.length c2) x.Cur.Key.length (x.Cur.Key.map bV) ∧ x.Cur.Key.length ≤ 1073741824 ∧ Rd w 1 (.slice a3 x.Cur.Win.Bits.length c3) x.Cur.Win.Bits.length (x.Cur.Win.Bits.map iV) ∧ x.Cur.Win.Bits.length ≤ 1073741824 ∧ Rd w 1 (.slice a4 x.Old.Key.length c4) x.Old.Key.length (x.Old.Key.map bV) ∧ x.Old.Key.length ≤ 1073741824 ∧ Rd w 1 (.slice a5 x.Old.Win.Bits.length c5) x.Old.Win.Bits.length (x.Old.Win.Bits.map iV) ∧ x.Old.Win.Bits.length ≤ 1073741824 ∧ Rd w 1 (.slice a6 x.Next.length c6) x.Next.length (x.Next.map bV) ∧ x.Next.length ≤ 1073741824
def O_38 (w : World) (lo : Nat) (v : Value) (x : (PChan)) : Prop := ∃ (a1 : Option Addr) (c1 : Nat) (a2 : Option Addr) (c2 : Nat) (a3 : Option Addr) (c3 : Nat) (a4 : Option Addr) (c4 : Nat) (a5 : Option Addr) (c5 : Nat) (a6 : Option Addr) (c6 : Nat), v = .agg #[.int .i64 x.Role, .slice a1 x.Sn.length c1, .int .i64 x.Cur.N, .slice a2 x.Cur.Key.length c2, .int .i64 x.Cur.Seq, .int .i64 x.Cur.Win.Top, .slice a3 x.Cur.Win.Bits.length c3, .int .i64 x.Old.N, .slice a4 x.Old.Key.length c4, .int .i64 x.Old.Seq, .int .i64 x.Old.Win.Top, .slice a5 x.Old.Win.Bits.length c5, .bool x.HasOld, .int .i64 x.Until, .slice a6 x.Next.length c6] ∧ w.ownsRow lo 5 1 (.slice a1 x.Sn.length c1) x.Sn.length (x.Sn.map bV) ∧ x.Sn.length ≤ 1073741824 ∧ w.ownsRow lo 5 1 (.slice a2 x.Cur.Key.length c2) x.Cur.Key.length (x.Cur.Key.map bV) ∧ x.Cur.Key.length ≤ 1073741824 ∧ w.ownsRow lo 3 1 (.slice a3 x.Cur.Win.Bits.length c3) x.Cur.Win.Bits.length (x.Cur.Win.Bits.map iV) ∧ x.Cur.Win.Bits.length ≤ 1073741824 ∧ w.ownsRow lo 5 1 (.slice a4 x.Old.Key.length c4) x.Old.Key.length (x.Old.Key.map bV) ∧ x.Old.Key.length ≤ 1073741824 ∧ w.ownsRow lo 3 1 (.slice a5 x.Old.Win.Bits.length c5) x.Old.Win.Bits.length (x.Old.Win.Bits.map iV) ∧ x.Old.Win.Bits.length ≤ 1073741824 ∧ w.ownsRow lo 5 1 (.slice a6 x.Next.length c6) x.Next.length (x.Next.map bV) ∧ x.Next.length ≤ 1073741824 ∧ Aps [(a1, c1), (a2, c2), (a3, c3), (a4, c4), (a5, c5), (a6, c6)]
theorem mR_48 {w : World} {x : PEp} {a1 : Option Addr} {c1 : Nat} {a2 : Option Addr} {c2 : Nat} (h1 : Rd w 1 (.slice a1 x.Key.length c1) x.Key.length (x.Key.map bV)) (l1 : x.Key.length ≤ 1073741824) (h2 : Rd w 1 (.slice a2 x.Win.Bits.length c2) x.Win.Bits.length (x.Win.Bits.map iV)) (l2 : x.Win.Bits.length ≤ 1073741824) : R_48 w (va (L_48 x a1 c1 a2 c2)) x := ⟨_, _, _, _, rfl, h1, l1, h2, l2⟩
def F_laws_toChan (x_a : PChan) : (PChan) := { Role := x_a.Role, Sn := (cpB x_a.Sn), Cur := (F_laws_toEp x_a.Cur), Old := (F_laws_toEp x_a.Old), HasOld := x_a.HasOld, Until := x_a.Until, Next := (cpB x_a.Next) : PChan }
theorem C_laws_toChan (w0 : World) (v_x_a : Value) (x_a : PChan) (r_x_a : R_50 w0 v_x_a x_a)  : Fn Try.prog 26 #[v_x_a] w0 (fun v w' => Keep w0 w' ∧ O_38 w' w0.heap.size v (F_laws_toChan x_a)) := by
 obtain ⟨a1, c2, a6, c7, a11, c12, a16, c17, a21, c22, a26, c27, rfl, r3, s4, r8, s9, r13, s14, r18, s19, r23, s24, r28, s29⟩ := r_x_a
 refine fn_of (n := 30) (l := [(va (L_38 x_a a1 c2 a6 c7 a11 c12 a16 c17 a21 c22 a26 c27)), U, U, U, U, U, U, U, U, U, U, U, U, U, U, U, U, U, U, U, U, U, U, U, U, U, U, U, U, U]) Try.func26 rfl rfl (by kernel_rfl) rfl ?_
 refine sr ?_
 refine bx (L_38 x_a a1 c2 a6 c7 a11 c12 a16 c17 a21 c22 a26 c27) wN ?_
 intro g31 w1 p32 p33 k34 b35
 have m36 := (Ch.base w0).extk k34
 refine al [(vi 0), (vs none 0 0), (vi 0), (vs none 0 0), (vi 0), (vi 0), (vs none 0 0), (vi 0), (vs none 0 0), (vi 0), (vi 0), (vs none 0 0), (vb false), (vi 0), (vs none 0 0)] wN zero_38 ?_
 intro g37 w2 p38 p39 k40 b41
 have m42 := m36.extk k40
 refine nx ?_
 refine al [(vi 0), (vs none 0 0), (vi 0), (vs none 0 0), (vi 0), (vi 0), (vs none 0 0), (vi 0), (vs none 0 0), (vi 0), (vi 0), (vs none 0 0), (vb false), (vi 0), (vs none 0 0)] wN zero_38 ?_
 intro g43 w3 p44 p45 k46 b47
 have m48 := m42.extk k46
 refine nx ?_
 refine pu (vp g31 0) wN ?_
 have b49 := ((b35.kp k40).kp k46)
 refine ld (vi x_a.Role) wN isAgg_3 b49 ?_
 refine pu (vp g43 0) wN ?_
 refine st (vi x_a.Role) [(vi x_a.Role)] [(vi x_a.Role), (vs none 0 0), (vi 0), (vs none 0 0), (vi 0), (vi 0), (vs none 0 0), (vi 0), (vs none 0 0), (vi 0), (vi 0), (vs none 0 0), (vb false), (vi 0), (vs none 0 0)] wN sizeOf_3 b47 ?_
 intro w4 k50 b51 z52
 have m53 := m48.ext k50 (fun k hk => by subst hk; exact Nat.le_trans (z2 k34 k40) p44)
 refine nx ?_
 refine pu (vp g31 1) wN ?_
 have b54 := (b49.ch k50 (Nat.ne_of_lt (Nat.lt_of_lt_of_le p33 (Nat.le_trans k40.size p44))))
 refine ld (vs a1 x_a.Sn.length c2) wN isAgg_22 b54 ?_
 refine cl wN (C_laws_toByteS w4 _ x_a.Sn (mR_22 (r3.from0 m53) s4)) ?_
 rintro _ w5 ⟨k55, ⟨a56, c57, rfl, o58, s59, ap61⟩⟩
 have m62 := m53.extk k55
 refine pu (vp g43 1) wN ?_
 have b63 := (b51.kp k55)
 refine st (vs a56 (cpB x_a.Sn).length c57) [(vs a56 (cpB x_a.Sn).length c57)] [(vi x_a.Role), (vs a56 (cpB x_a.Sn).length c57), (vi 0), (vs none 0 0), (vi 0), (vi 0), (vs none 0 0), (vi 0), (vs none 0 0), (vi 0), (vi 0), (vs none 0 0), (vb false), (vi 0), (vs none 0 0)] wN sizeOf_22 b63 ?_
 intro w6 k64 b65 z66
 have m67 := m62.ext k64 (fun k hk => by subst hk; exact Nat.le_trans (z2 k34 k40) p44)
 refine nx ?_
 refine pu (vp g31 2) wN ?_
 have b68 := ((b54.kp k55).ch k64 (Nat.ne_of_lt (Nat.lt_of_lt_of_le p33 (Nat.le_trans k40.size p44))))
 refine lN (L_36 x_a.Cur a6 c7 a11 c12) wN isAgg_48 sizeOf_48 b68 ?_
 refine cl wN (C_laws_toEp w6 _ x_a.Cur (mR_48 (r8.from0 m67) s9 (r13.from0 m67) s14)) ?_
 rintro _ w7 ⟨k69, ⟨a70, c71, a75, c76, rfl, o72, s73, o77, s78, ap80⟩⟩
 have m81 := m67.extk k69
 refine pu (vp g43 2) wN ?_
 have b82 := (b65.kp k69)
 refine st (va (L_36 (F_laws_toEp x_a.Cur) a70 c71 a75 c76)) (L_36 (F_laws_toEp x_a.Cur) a70 c71 a75 c76) [(vi x_a.Role), (vs a56 (cpB x_a.Sn).length c57), (vi ((F_laws_toEp x_a.Cur).N)), (vs a70 ((F_laws_toEp x_a.Cur).Key).length c71), (vi ((F_laws_toEp x_a.Cur).Seq)), (vi (((F_laws_toEp x_a.Cur).Win).Top)), (vs a75 (((F_laws_toEp x_a.Cur).Win).Bits).length c76), (vi 0), (vs none 0 0), (vi 0), (vi 0), (vs none 0 0), (vb false), (vi 0), (vs none 0 0)] wN sizeOf_36 b82 ?_
 intro w8 k83 b84 z85
 have m86 := m81.ext k83 (fun k hk => by subst hk; exact Nat.le_trans (z2 k34 k40) p44)
 refine nx ?_
 refine pu (vp g31 7) wN ?_
 have b87 := ((b68.kp k69).ch k83 (Nat.ne_of_lt (Nat.lt_of_lt_of_le p33 (Nat.le_trans k40.size p44))))
 refine lN (L_36 x_a.Old a16 c17 a21 c22) wN isAgg_48 sizeOf_48 b87 ?_
 refine cl wN (C_laws_toEp w8 _ x_a.Old (mR_48 (r18.from0 m86) s19 (r23.from0 m86) s24)) ?_
 rintro _ w9 ⟨k88, ⟨a89, c90, a94, c95, rfl, o91, s92, o96, s97, ap99⟩⟩
 have m100 := m86.extk k88
 refine pu (vp g43 7) wN ?_
 have b101 := (b84.kp k88)
 refine st (va (L_36 (F_laws_toEp x_a.Old) a89 c90 a94 c95)) (L_36 (F_laws_toEp x_a.Old) a89 c90 a94 c95) [(vi x_a.Role), (vs a56 (cpB x_a.Sn).length c57), (vi ((F_laws_toEp x_a.Cur).N)), (vs a70 ((F_laws_toEp x_a.Cur).Key).length c71), (vi ((F_laws_toEp x_a.Cur).Seq)), (vi (((F_laws_toEp x_a.Cur).Win).Top)), (vs a75 (((F_laws_toEp x_a.Cur).Win).Bits).length c76), (vi ((F_laws_toEp x_a.Old).N)), (vs a89 ((F_laws_toEp x_a.Old).Key).length c90), (vi ((F_laws_toEp x_a.Old).Seq)), (vi (((F_laws_toEp x_a.Old).Win).Top)), (vs a94 (((F_laws_toEp x_a.Old).Win).Bits).length c95), (vb false), (vi 0), (vs none 0 0)] wN sizeOf_36 b101 ?_
 intro w10 k102 b103 z104
 have m105 := m100.ext k102 (fun k hk => by subst hk; exact Nat.le_trans (z2 k34 k40) p44)
 refine nx ?_
 refine pu (vp g31 12) wN ?_
 have b106 := ((b87.kp k88).ch k102 (Nat.ne_of_lt (Nat.lt_of_lt_of_le p33 (Nat.le_trans k40.size p44))))
 refine ld (vb x_a.HasOld) wN isAgg_4 b106 ?_
 refine pu (vp g43 12) wN ?_
 refine st (vb x_a.HasOld) [(vb x_a.HasOld)] [(vi x_a.Role), (vs a56 (cpB x_a.Sn).length c57), (vi ((F_laws_toEp x_a.Cur).N)), (vs a70 ((F_laws_toEp x_a.Cur).Key).length c71), (vi ((F_laws_toEp x_a.Cur).Seq)), (vi (((F_laws_toEp x_a.Cur).Win).Top)), (vs a75 (((F_laws_toEp x_a.Cur).Win).Bits).length c76), (vi ((F_laws_toEp x_a.Old).N)), (vs a89 ((F_laws_toEp x_a.Old).Key).length c90), (vi ((F_laws_toEp x_a.Old).Seq)), (vi (((F_laws_toEp x_a.Old).Win).Top)), (vs a94 (((F_laws_toEp x_a.Old).Win).Bits).length c95), (vb x_a.HasOld), (vi 0), (vs none 0 0)] wN sizeOf_4 b103 ?_
 intro w11 k107 b108 z109
 have m110 := m105.ext k107 (fun k hk => by subst hk; exact Nat.le_trans (z2 k34 k40) p44)
 refine nx ?_
 refine pu (vp g31 13) wN ?_
 have b111 := (b106.ch k107 (Nat.ne_of_lt (Nat.lt_of_lt_of_le p33 (Nat.le_trans k40.size p44))))
 refine ld (vi x_a.Until) wN isAgg_3 b111 ?_
 refine pu (vp g43 13) wN ?_
 refine st (vi x_a.Until) [(vi x_a.Until)] [(vi x_a.Role), (vs a56 (cpB x_a.Sn).length c57), (vi ((F_laws_toEp x_a.Cur).N)), (vs a70 ((F_laws_toEp x_a.Cur).Key).length c71), (vi ((F_laws_toEp x_a.Cur).Seq)), (vi (((F_laws_toEp x_a.Cur).Win).Top)), (vs a75 (((F_laws_toEp x_a.Cur).Win).Bits).length c76), (vi ((F_laws_toEp x_a.Old).N)), (vs a89 ((F_laws_toEp x_a.Old).Key).length c90), (vi ((F_laws_toEp x_a.Old).Seq)), (vi (((F_laws_toEp x_a.Old).Win).Top)), (vs a94 (((F_laws_toEp x_a.Old).Win).Bits).length c95), (vb x_a.HasOld), (vi x_a.Until), (vs none 0 0)] wN sizeOf_3 b108 ?_
 intro w12 k112 b113 z114
 have m115 := m110.ext k112 (fun k hk => by subst hk; exact Nat.le_trans (z2 k34 k40) p44)
 refine nx ?_
 refine pu (vp g31 14) wN ?_
 have b116 := (b111.ch k112 (Nat.ne_of_lt (Nat.lt_of_lt_of_le p33 (Nat.le_trans k40.size p44))))
 refine ld (vs a26 x_a.Next.length c27) wN isAgg_22 b116 ?_
 refine cl wN (C_laws_toByteS w12 _ x_a.Next (mR_22 (r28.from0 m115) s29)) ?_
 rintro _ w13 ⟨k117, ⟨a118, c119, rfl, o120, s121, ap123⟩⟩
 have m124 := m115.extk k117
 refine pu (vp g43 14) wN ?_
 have b125 := (b113.kp k117)
 refine st (vs a118 (cpB x_a.Next).length c119) [(vs a118 (cpB x_a.Next).length c119)] [(vi x_a.Role), (vs a56 (cpB x_a.Sn).length c57), (vi ((F_laws_toEp x_a.Cur).N)), (vs a70 ((F_laws_toEp x_a.Cur).Key).length c71), (vi ((F_laws_toEp x_a.Cur).Seq)), (vi (((F_laws_toEp x_a.Cur).Win).Top)), (vs a75 (((F_laws_toEp x_a.Cur).Win).Bits).length c76), (vi ((F_laws_toEp x_a.Old).N)), (vs a89 ((F_laws_toEp x_a.Old).Key).length c90), (vi ((F_laws_toEp x_a.Old).Seq)), (vi (((F_laws_toEp x_a.Old).Win).Top)), (vs a94 (((F_laws_toEp x_a.Old).Win).Bits).length c95), (vb x_a.HasOld), (vi x_a.Until), (vs a118 (cpB x_a.Next).length c119)] wN sizeOf_22 b125 ?_
 intro w14 k126 b127 z128
 have m129 := m124.ext k126 (fun k hk => by subst hk; exact Nat.le_trans (z2 k34 k40) p44)
 refine nx ?_
 refine lN [(vi x_a.Role), (vs a56 (cpB x_a.Sn).length c57), (vi ((F_laws_toEp x_a.Cur).N)), (vs a70 ((F_laws_toEp x_a.Cur).Key).length c71), (vi ((F_laws_toEp x_a.Cur).Seq)), (vi (((F_laws_toEp x_a.Cur).Win).Top)), (vs a75 (((F_laws_toEp x_a.Cur).Win).Bits).length c76), (vi ((F_laws_toEp x_a.Old).N)), (vs a89 ((F_laws_toEp x_a.Old).Key).length c90), (vi ((F_laws_toEp x_a.Old).Seq)), (vi (((F_laws_toEp x_a.Old).Win).Top)), (vs a94 (((F_laws_toEp x_a.Old).Win).Bits).length c95), (vb x_a.HasOld), (vi x_a.Until), (vs a118 (cpB x_a.Next).length c119)] wN isAgg_38 sizeOf_38 b127 ?_
 have zz3 := Nat.lt_of_lt_of_le p39 (p44)
 have b130 := ((((((((((((b41.kp k46).ch k50 (Nat.ne_of_lt zz3)).kp k55).ch k64 (Nat.ne_of_lt zz3)).kp k69).ch k83 (Nat.ne_of_lt zz3)).kp k88).ch k102 (Nat.ne_of_lt zz3)).ch k107 (Nat.ne_of_lt zz3)).ch k112 (Nat.ne_of_lt zz3)).kp k117).ch k126 (Nat.ne_of_lt zz3))
 refine st (va [(vi x_a.Role), (vs a56 (cpB x_a.Sn).length c57), (vi ((F_laws_toEp x_a.Cur).N)), (vs a70 ((F_laws_toEp x_a.Cur).Key).length c71), (vi ((F_laws_toEp x_a.Cur).Seq)), (vi (((F_laws_toEp x_a.Cur).Win).Top)), (vs a75 (((F_laws_toEp x_a.Cur).Win).Bits).length c76), (vi ((F_laws_toEp x_a.Old).N)), (vs a89 ((F_laws_toEp x_a.Old).Key).length c90), (vi ((F_laws_toEp x_a.Old).Seq)), (vi (((F_laws_toEp x_a.Old).Win).Top)), (vs a94 (((F_laws_toEp x_a.Old).Win).Bits).length c95), (vb x_a.HasOld), (vi x_a.Until), (vs a118 (cpB x_a.Next).length c119)]) [(vi x_a.Role), (vs a56 (cpB x_a.Sn).length c57), (vi ((F_laws_toEp x_a.Cur).N)), (vs a70 ((F_laws_toEp x_a.Cur).Key).length c71), (vi ((F_laws_toEp x_a.Cur).Seq)), (vi (((F_laws_toEp x_a.Cur).Win).Top)), (vs a75 (((F_laws_toEp x_a.Cur).Win).Bits).length c76), (vi ((F_laws_toEp x_a.Old).N)), (vs a89 ((F_laws_toEp x_a.Old).Key).length c90), (vi ((F_laws_toEp x_a.Old).Seq)), (vi (((F_laws_toEp x_a.Old).Win).Top)), (vs a94 (((F_laws_toEp x_a.Old).Win).Bits).length c95), (vb x_a.HasOld), (vi x_a.Until), (vs a118 (cpB x_a.Next).length c119)] [(vi x_a.Role), (vs a56 (cpB x_a.Sn).length c57), (vi ((F_laws_toEp x_a.Cur).N)), (vs a70 ((F_laws_toEp x_a.Cur).Key).length c71), (vi ((F_laws_toEp x_a.Cur).Seq)), (vi (((F_laws_toEp x_a.Cur).Win).Top)), (vs a75 (((F_laws_toEp x_a.Cur).Win).Bits).length c76), (vi ((F_laws_toEp x_a.Old).N)), (vs a89 ((F_laws_toEp x_a.Old).Key).length c90), (vi ((F_laws_toEp x_a.Old).Seq)), (vi (((F_laws_toEp x_a.Old).Win).Top)), (vs a94 (((F_laws_toEp x_a.Old).Win).Bits).length c95), (vb x_a.HasOld), (vi x_a.Until), (vs a118 (cpB x_a.Next).length c119)] wN sizeOf_38 b130 ?_
 intro w15 k131 b132 z133
 have m134 := m129.ext k131 (fun k hk => by subst hk; exact Nat.le_trans k34.size p38)
 refine n3 ?_
 have zz4 := Nat.lt_of_lt_of_le p45 k50.size
 have o135 := (own_ch (own_ch (own_kp (own_ch (own_ch (own_ch (own_kp (own_ch (own_kp (own_ch o58 k64 (ne1 o58 zz4)) k69) k83 (ne1 o58 zz4)) k88) k102 (ne1 o58 zz4)) k107 (ne1 o58 zz4)) k112 (ne1 o58 zz4)) k117) k126 (ne1 o58 zz4)) k131 (ne1 o58 (Nat.lt_of_lt_of_le p39 (z2 k46 k50))))
 have zz5 := Nat.lt_of_lt_of_le p45 (z3 k50 k55 k64)
 have o136 := (own_ch (own_ch (own_kp (own_ch (own_ch (own_ch (own_kp (own_ch o72 k83 (ne1 o72 zz5)) k88) k102 (ne1 o72 zz5)) k107 (ne1 o72 zz5)) k112 (ne1 o72 zz5)) k117) k126 (ne1 o72 zz5)) k131 (ne1 o72 (Nat.lt_of_lt_of_le p39 (z4 k46 k50 k55 k64))))
 have zz6 := Nat.lt_of_lt_of_le p45 (z3 k50 k55 k64)
 have o137 := (own_ch (own_ch (own_kp (own_ch (own_ch (own_ch (own_kp (own_ch o77 k83 (ne1 o77 zz6)) k88) k102 (ne1 o77 zz6)) k107 (ne1 o77 zz6)) k112 (ne1 o77 zz6)) k117) k126 (ne1 o77 zz6)) k131 (ne1 o77 (Nat.lt_of_lt_of_le p39 (z4 k46 k50 k55 k64))))
 have zz7 := Nat.lt_of_lt_of_le p45 (z5 k50 k55 k64 k69 k83)
 have o138 := (own_ch (own_ch (own_kp (own_ch (own_ch (own_ch o91 k102 (ne1 o91 zz7)) k107 (ne1 o91 zz7)) k112 (ne1 o91 zz7)) k117) k126 (ne1 o91 zz7)) k131 (ne1 o91 (Nat.lt_of_lt_of_le p39 (z6 k46 k50 k55 k64 k69 k83))))
 have zz8 := Nat.lt_of_lt_of_le p45 (z5 k50 k55 k64 k69 k83)
 have o139 := (own_ch (own_ch (own_kp (own_ch (own_ch (own_ch o96 k102 (ne1 o96 zz8)) k107 (ne1 o96 zz8)) k112 (ne1 o96 zz8)) k117) k126 (ne1 o96 zz8)) k131 (ne1 o96 (Nat.lt_of_lt_of_le p39 (z6 k46 k50 k55 k64 k69 k83))))
 have o140 := (own_ch (own_ch o120 k126 (ne1 o120 (Nat.lt_of_lt_of_le p45 (z9 k50 k55 k64 k69 k83 k88 k102 k107 k112)))) k131 (ne1 o120 (Nat.lt_of_lt_of_le p39 (z10 k46 k50 k55 k64 k69 k83 k88 k102 k107 k112))))
 refine ret_1 (.inl rfl) (va [(vi x_a.Role), (vs a56 (cpB x_a.Sn).length c57), (vi ((F_laws_toEp x_a.Cur).N)), (vs a70 ((F_laws_toEp x_a.Cur).Key).length c71), (vi ((F_laws_toEp x_a.Cur).Seq)), (vi (((F_laws_toEp x_a.Cur).Win).Top)), (vs a75 (((F_laws_toEp x_a.Cur).Win).Bits).length c76), (vi ((F_laws_toEp x_a.Old).N)), (vs a89 ((F_laws_toEp x_a.Old).Key).length c90), (vi ((F_laws_toEp x_a.Old).Seq)), (vi (((F_laws_toEp x_a.Old).Win).Top)), (vs a94 (((F_laws_toEp x_a.Old).Win).Bits).length c95), (vb x_a.HasOld), (vi x_a.Until), (vs a118 (cpB x_a.Next).length c119)]) rfl (rv_c [(vi x_a.Role), (vs a56 (cpB x_a.Sn).length c57), (vi ((F_laws_toEp x_a.Cur).N)), (vs a70 ((F_laws_toEp x_a.Cur).Key).length c71), (vi ((F_laws_toEp x_a.Cur).Seq)), (vi (((F_laws_toEp x_a.Cur).Win).Top)), (vs a75 (((F_laws_toEp x_a.Cur).Win).Bits).length c76), (vi ((F_laws_toEp x_a.Old).N)), (vs a89 ((F_laws_toEp x_a.Old).Key).length c90), (vi ((F_laws_toEp x_a.Old).Seq)), (vi (((F_laws_toEp x_a.Old).Win).Top)), (vs a94 (((F_laws_toEp x_a.Old).Win).Bits).length c95), (vb x_a.HasOld), (vi x_a.Until), (vs a118 (cpB x_a.Next).length c119)] rfl b132 isAgg_38 sizeOf_38) ?_
 refine ⟨m134.keep0, ?_⟩
 have hF141 : F_laws_toChan x_a = { Role := x_a.Role, Sn := (cpB x_a.Sn), Cur := (F_laws_toEp x_a.Cur), Old := (F_laws_toEp x_a.Old), HasOld := x_a.HasOld, Until := x_a.Until, Next := (cpB x_a.Next) : PChan } := by rfl
 rw [hF141]
 exact ⟨_, _, _, _, _, _, _, _, _, _, _, _, rfl, (own_lo o135 (z4 k34 k40 k46 k50)), s59, (own_lo o136 (z6 k34 k40 k46 k50 k55 k64)), s73, (own_lo o137 (z6 k34 k40 k46 k50 k55 k64)), s78, (own_lo o138 (z8 k34 k40 k46 k50 k55 k64 k69 k83)), s92, (own_lo o139 (z8 k34 k40 k46 k50 k55 k64 k69 k83)), s97, (own_lo o140 (z12 k34 k40 k46 k50 k55 k64 k69 k83 k88 k102 k107 k112)), s121, ⟨⟨(Ap.lt o58 o72 k64.size), ⟨(Ap.lt o58 o77 k64.size), ⟨(Ap.lt o58 o91 (z3 k64 k69 k83)), ⟨(Ap.lt o58 o96 (z3 k64 k69 k83)), ⟨(Ap.lt o58 o120 (z7 k64 k69 k83 k88 k102 k107 k112)), trivial⟩⟩⟩⟩⟩, ⟨⟨(ap80.1.1), ⟨(Ap.lt o72 o91 k83.size), ⟨(Ap.lt o72 o96 k83.size), ⟨(Ap.lt o72 o120 (z5 k83 k88 k102 k107 k112)), trivial⟩⟩⟩⟩, ⟨⟨(Ap.lt o77 o91 k83.size), ⟨(Ap.lt o77 o96 k83.size), ⟨(Ap.lt o77 o120 (z5 k83 k88 k102 k107 k112)), trivial⟩⟩⟩, ⟨⟨(ap99.1.1), ⟨(Ap.lt o91 o120 (z3 k102 k107 k112)), trivial⟩⟩, ⟨⟨(Ap.lt o96 o120 (z3 k102 k107 k112)), trivial⟩, ⟨trivial, trivial⟩⟩⟩⟩⟩⟩⟩

def R_34 (w : World) (v : Value) (x : (PWin)) : Prop := ∃ (a1 : Option Addr) (c1 : Nat), v = .agg #[.int .i64 x.Top, .slice a1 x.Bits.length c1] ∧ Rd w 1 (.slice a1 x.Bits.length c1) x.Bits.length (x.Bits.map iV) ∧ x.Bits.length ≤ 1073741824
def F_spec_l8Copy (x_w : PWin) : (PWin) := x_w
theorem C_spec_l8Copy (w0 : World) (v_x_w : Value) (x_w : PWin) (r_x_w : R_34 w0 v_x_w x_w)  : Fn Try.prog 133 #[v_x_w] w0 (fun v w' => Keep w0 w' ∧ O_34 w' w0.heap.size v (F_spec_l8Copy x_w)) := by
 obtain ⟨a1, c2, rfl, r3, s4⟩ := r_x_w
 refine fn_of (n := 10) (l := [(va (L_34 x_w a1 c2)), U, U, U, U, U, U, U, U, U]) Try.func133 rfl rfl (by kernel_rfl) rfl ?_
 refine sr ?_
 refine bx (L_34 x_w a1 c2) wN ?_
 intro g6 w1 p7 p8 k9 b10
 have m11 := (Ch.base w0).extk k9
 refine al [(vi 0), (vs none 0 0)] wN zero_34 ?_
 intro g12 w2 p13 p14 k15 b16
 have m17 := m11.extk k15
 refine wl_nil <| wq_then <| wc_seq ?_
 refine wc_drawT ([(3, [], [], (fun _ v _ => v = (vp g6 0))), (4, [], [0], (fun _ v _ => v = (vi x_w.Top))), (5, [], [], (fun _ v w => ∃ a0 : Addr, v = .slice (some a0) 0 0 ∧ w.ownsRow w2.heap.size 3 1 (.slice (some a0) 0 0) 0 [])), (6, [], [], (fun _ v _ => v = (vp g6 1))), (7, [], [3], (fun _ v _ => v = (vs a1 x_w.Bits.length c2))), (8, [], [2, 3, 4], (fun _ v w => ∃ (a1 : Option Addr) (c1 : Nat), v = .slice a1 x_w.Bits.length c1 ∧ w.ownsRow w2.heap.size 3 1 (.slice a1 x_w.Bits.length c1) x_w.Bits.length (x_w.Bits.map iV) ∧ x_w.Bits.length ≤ 1073741824 ∧ Aps [(a1, c1)]))] : GV) (fun _ w' => Keep w2 w') [] mixed rfl (by kernel_rfl) (by kernel_rfl) ?_ (fun _ _ h => h) (fun _ _ _ _ h _ k => h.trans k) trivial ?_ ?_ ?_
 ·exact ⟨(fun _ _ _ _ h _ => h), (fun _ _ _ _ _ h => h), ⟨(fun _ _ _ _ h _ => h), (fun _ _ _ _ _ h => h), ⟨(fun e v w w1 h hk => by obtain ⟨a0x, he, o0x⟩ := h; exact ⟨a0x, he, own_kp o0x hk⟩), (fun _ _ _ _ _ h => h), ⟨(fun _ _ _ _ h _ => h), (fun _ _ _ _ _ h => h), ⟨(fun _ _ _ _ h _ => h), (fun _ _ _ _ _ h => h), ⟨(fun e v w w1 h hk => by obtain ⟨a0x, c0x, he, o0x, l0x, hap⟩ := h; exact ⟨a0x, c0x, he, own_kp o0x hk, l0x, hap⟩), (fun _ _ _ _ _ h => h), trivial⟩⟩⟩⟩⟩⟩
 ·exact trivial
 ·refine ⟨?_, ⟨?_, ⟨?_, ⟨?_, ⟨?_, ⟨?_, trivial⟩⟩⟩⟩⟩⟩
  ·intro _ w3 k54 _
   have m55 := m17.extk k54
   rintro _ _ _ _ _ _
   show WL _ _ _ _ _ _ _
   refine pu (vp g6 0) wN ?_
   exact f1
  ·intro _ w3 k56 _
   have m57 := m17.extk k56
   rintro _ rfl _ _ _ _ _
   show WL _ _ _ _ _ _ _
   have b58 := ((b10.kp k15).kp k56)
   refine ld (vi x_w.Top) wN isAgg_3 b58 ?_
   exact f1
  ·intro _ w3 k59 _
   have m60 := m17.extk k59
   rintro _ _ _ _ _ _
   show WL _ _ _ _ _ _ _
   refine wl_lit0 wN rfl rfl slTy_32 (fun w => by kernel_rfl) ?_
   intro a61 w4 k62 o63
   have m64 := m60.extk k62
   exact wl_finT k62 ⟨_, rfl, own_lo o63 k59.size⟩
  ·intro _ w3 k66 _
   have m67 := m17.extk k66
   rintro _ _ _ _ _ _
   show WL _ _ _ _ _ _ _
   refine pu (vp g6 1) wN ?_
   exact f1
  ·intro _ w3 k68 _
   have m69 := m17.extk k68
   rintro _ _ _ _ rfl _ _
   show WL _ _ _ _ _ _ _
   have b70 := ((b10.kp k15).kp k68)
   refine ld (vs a1 x_w.Bits.length c2) wN isAgg_32 b70 ?_
   exact f1
  ·intro _ w3 k71 _
   have m72 := m17.extk k71
   rintro _ _ _ ⟨a73, rfl, o75⟩ _ rfl _ rfl _
   show WL _ _ _ _ _ _ _
   refine wl_append0 wN rfl rfl rfl slTy_32 rfl rfl o75 (r3.from0 m72) (all_iV _) (by first | (simp only [List.length_append, List.length_cons, List.length_nil, List.length_replicate, List.length_take, List.length_drop]; omega) | omega) (by simp only [maxLen]; first | (simp only [List.length_append, List.length_cons, List.length_nil, List.length_replicate, List.length_take, List.length_drop]; omega) | omega) k71.size ?_
   intro u79 w4 k80 o81 j82
   obtain ⟨a83, c84, rfl⟩ := own_form o81
   have n85 : New w3 a83 c84 := j82 _ _ rfl
   have m86 := m72.extk k80
   exact wl_finT k80 ⟨_, _, rfl, o81, s4, ⟨trivial, trivial⟩⟩
 ·intro _ w3 k88
  have m89 := m17.extk k88
  rintro _ rfl _ rfl _ ⟨a91, rfl, o93⟩ _ rfl _ rfl _ ⟨a97, c98, rfl, o99, s100, -⟩
  show WL _ _ _ _ _ _ _
  refine pu (va (L_34 x_w a97 c98)) wN ?_
  have b102 := (b16.kp k88)
  refine sv (L_34 x_w a97 c98) wN sizeOf_34 b102 ?_
  intro w4 k103 b104 z105
  have m106 := m89.ext k103 (fun k hk => by subst hk; exact Nat.le_trans k9.size p13)
  refine n3 ?_
  have o107 := (own_ch o99 k103 (ne1 o99 (p14)))
  refine ret_1 (.inl rfl) (va (L_34 x_w a97 c98)) rfl (rv_c [(vi x_w.Top), (vs a97 x_w.Bits.length c98)] rfl b104 isAgg_34 sizeOf_34) ?_
  refine ⟨m106.keep0, ?_⟩
  have hF108 : F_spec_l8Copy x_w = x_w := by rfl
  rw [hF108]
  exact ⟨_, _, rfl, (own_lo o107 (z2 k9 k15)), s100, ⟨trivial, trivial⟩⟩

def R_36 (w : World) (v : Value) (x : (PEp)) : Prop := ∃ (a1 : Option Addr) (c1 : Nat) (a2 : Option Addr) (c2 : Nat), v = .agg #[.int .i64 x.N, .slice a1 x.Key.length c1, .int .i64 x.Seq, .int .i64 x.Win.Top, .slice a2 x.Win.Bits.length c2] ∧ Rd w 1 (.slice a1 x.Key.length c1) x.Key.length (x.Key.map bV) ∧ x.Key.length ≤ 1073741824 ∧ Rd w 1 (.slice a2 x.Win.Bits.length c2) x.Win.Bits.length (x.Win.Bits.map iV) ∧ x.Win.Bits.length ≤ 1073741824
theorem mR_34 {w : World} {x : PWin} {a1 : Option Addr} {c1 : Nat} (h1 : Rd w 1 (.slice a1 x.Bits.length c1) x.Bits.length (x.Bits.map iV)) (l1 : x.Bits.length ≤ 1073741824) : R_34 w (va (L_34 x a1 c1)) x := ⟨_, _, rfl, h1, l1⟩
def F_spec_l9Copy (x_e : PEp) : (PEp) := { N := x_e.N, Key := x_e.Key, Seq := x_e.Seq, Win := (F_spec_l8Copy x_e.Win) : PEp }
theorem C_spec_l9Copy (w0 : World) (v_x_e : Value) (x_e : PEp) (r_x_e : R_36 w0 v_x_e x_e)  : Fn Try.prog 98 #[v_x_e] w0 (fun v w' => Keep w0 w' ∧ O_36 w' w0.heap.size v (F_spec_l9Copy x_e)) := by
 obtain ⟨a1, c2, a6, c7, rfl, r3, s4, r8, s9⟩ := r_x_e
 refine fn_of (n := 15) (l := [(va (L_36 x_e a1 c2 a6 c7)), U, U, U, U, U, U, U, U, U, U, U, U, U, U]) Try.func98 rfl rfl (by kernel_rfl) rfl ?_
 refine sr ?_
 refine bx (L_36 x_e a1 c2 a6 c7) wN ?_
 intro g11 w1 p12 p13 k14 b15
 have m16 := (Ch.base w0).extk k14
 refine al [(vi 0), (vs none 0 0), (vi 0), (vi 0), (vs none 0 0)] wN zero_36 ?_
 intro g17 w2 p18 p19 k20 b21
 have m22 := m16.extk k20
 refine wl_nil <| wq_then <| wc_seq ?_
 refine wc_drawT ([(3, [], [], (fun _ v _ => v = (vp g11 0))), (4, [], [0], (fun _ v _ => v = (vi x_e.N))), (5, [], [], (fun _ v w => ∃ a0 : Addr, v = .slice (some a0) 0 0 ∧ w.ownsRow w2.heap.size 5 1 (.slice (some a0) 0 0) 0 [])), (6, [], [], (fun _ v _ => v = (vp g11 1))), (7, [], [3], (fun _ v _ => v = (vs a1 x_e.Key.length c2))), (8, [], [2, 3, 4], (fun _ v w => ∃ (a1 : Option Addr) (c1 : Nat), v = .slice a1 x_e.Key.length c1 ∧ w.ownsRow w2.heap.size 5 1 (.slice a1 x_e.Key.length c1) x_e.Key.length (x_e.Key.map bV) ∧ x_e.Key.length ≤ 1073741824 ∧ Aps [(a1, c1)])), (9, [], [], (fun _ v _ => v = (vp g11 2))), (10, [], [6], (fun _ v _ => v = (vi x_e.Seq))), (11, [], [], (fun _ v _ => v = (vp g11 3))), (12, [], [8], (fun _ v _ => v = (.agg #[(vi x_e.Win.Top), (vs a6 x_e.Win.Bits.length c7)]))), (13, [8], [2, 3, 4, 5, 8, 9], (fun e v w => ∃ (a1 : Option Addr) (c1 : Nat), v = .agg #[.int .i64 ((F_spec_l8Copy x_e.Win).Top), .slice a1 ((F_spec_l8Copy x_e.Win).Bits).length c1] ∧ w.ownsRow (w2.heap.size) 3 1 (.slice a1 ((F_spec_l8Copy x_e.Win).Bits).length c1) ((F_spec_l8Copy x_e.Win).Bits).length (((F_spec_l8Copy x_e.Win).Bits).map iV) ∧ ((F_spec_l8Copy x_e.Win).Bits).length ≤ 1073741824 ∧ Aps [(a1, c1)] ∧ Ap (sp (e 8)) (a1, c1)))] : GV) (fun _ w' => Keep w2 w') [] mixed rfl (by kernel_rfl) (by kernel_rfl) ?_ (fun _ _ h => h) (fun _ _ _ _ h _ k => h.trans k) trivial ?_ ?_ ?_
 ·exact ⟨(fun _ _ _ _ h _ => h), (fun _ _ _ _ _ h => h), ⟨(fun _ _ _ _ h _ => h), (fun _ _ _ _ _ h => h), ⟨(fun e v w w1 h hk => by obtain ⟨a0x, he, o0x⟩ := h; exact ⟨a0x, he, own_kp o0x hk⟩), (fun _ _ _ _ _ h => h), ⟨(fun _ _ _ _ h _ => h), (fun _ _ _ _ _ h => h), ⟨(fun _ _ _ _ h _ => h), (fun _ _ _ _ _ h => h), ⟨(fun e v w w1 h hk => by obtain ⟨a0x, c0x, he, o0x, l0x, hap⟩ := h; exact ⟨a0x, c0x, he, own_kp o0x hk, l0x, hap⟩), (fun _ _ _ _ _ h => h), ⟨(fun _ _ _ _ h _ => h), (fun _ _ _ _ _ h => h), ⟨(fun _ _ _ _ h _ => h), (fun _ _ _ _ _ h => h), ⟨(fun _ _ _ _ h _ => h), (fun _ _ _ _ _ h => h), ⟨(fun _ _ _ _ h _ => h), (fun _ _ _ _ _ h => h), ⟨(fun e v w w1 h hk => by obtain ⟨a0x, c0x, he, o0x, l0x, hap, hx⟩ := h; exact ⟨a0x, c0x, he, own_kp o0x hk, l0x, hap, hx⟩), (fun e1 e2 v w hx h => by have h8x := hx 8 (by simp); simp only [h8x] at h; exact h), trivial⟩⟩⟩⟩⟩⟩⟩⟩⟩⟩⟩
 ·exact trivial
 ·refine ⟨?_, ⟨?_, ⟨?_, ⟨?_, ⟨?_, ⟨?_, ⟨?_, ⟨?_, ⟨?_, ⟨?_, ⟨?_, trivial⟩⟩⟩⟩⟩⟩⟩⟩⟩⟩⟩
  ·intro _ w3 k74 _
   have m75 := m22.extk k74
   rintro _ _ _ _ _ _ _ _ _ _ _
   show WL _ _ _ _ _ _ _
   refine pu (vp g11 0) wN ?_
   exact f1
  ·intro _ w3 k76 _
   have m77 := m22.extk k76
   rintro _ rfl _ _ _ _ _ _ _ _ _ _
   show WL _ _ _ _ _ _ _
   have b78 := ((b15.kp k20).kp k76)
   refine ld (vi x_e.N) wN isAgg_3 b78 ?_
   exact f1
  ·intro _ w3 k79 _
   have m80 := m22.extk k79
   rintro _ _ _ _ _ _ _ _ _ _ _
   show WL _ _ _ _ _ _ _
   refine wl_lit0 wN rfl rfl slTy_22 (fun w => by kernel_rfl) ?_
   intro a81 w4 k82 o83
   have m84 := m80.extk k82
   exact wl_finT k82 ⟨_, rfl, own_lo o83 k79.size⟩
  ·intro _ w3 k86 _
   have m87 := m22.extk k86
   rintro _ _ _ _ _ _ _ _ _ _ _
   show WL _ _ _ _ _ _ _
   refine pu (vp g11 1) wN ?_
   exact f1
  ·intro _ w3 k88 _
   have m89 := m22.extk k88
   rintro _ _ _ _ rfl _ _ _ _ _ _ _
   show WL _ _ _ _ _ _ _
   have b90 := ((b15.kp k20).kp k88)
   refine ld (vs a1 x_e.Key.length c2) wN isAgg_22 b90 ?_
   exact f1
  ·intro _ w3 k91 _
   have m92 := m22.extk k91
   rintro _ _ _ ⟨a93, rfl, o95⟩ _ rfl _ rfl _ _ _ _ _ _
   show WL _ _ _ _ _ _ _
   refine wl_append0 wN rfl rfl rfl slTy_22 rfl rfl o95 (r3.from0 m92) (all_bV _) (by first | (simp only [List.length_append, List.length_cons, List.length_nil, List.length_replicate, List.length_take, List.length_drop]; omega) | omega) (by simp only [maxLen]; first | (simp only [List.length_append, List.length_cons, List.length_nil, List.length_replicate, List.length_take, List.length_drop]; omega) | omega) k91.size ?_
   intro u99 w4 k100 o101 j102
   obtain ⟨a103, c104, rfl⟩ := own_form o101
   have n105 : New w3 a103 c104 := j102 _ _ rfl
   have m106 := m92.extk k100
   exact wl_finT k100 ⟨_, _, rfl, o101, s4, ⟨trivial, trivial⟩⟩
  ·intro _ w3 k108 _
   have m109 := m22.extk k108
   rintro _ _ _ _ _ _ _ _ _ _ _
   show WL _ _ _ _ _ _ _
   refine pu (vp g11 2) wN ?_
   exact f1
  ·intro _ w3 k110 _
   have m111 := m22.extk k110
   rintro _ _ _ _ _ _ _ rfl _ _ _ _
   show WL _ _ _ _ _ _ _
   have b112 := ((b15.kp k20).kp k110)
   refine ld (vi x_e.Seq) wN isAgg_3 b112 ?_
   exact f1
  ·intro _ w3 k113 _
   have m114 := m22.extk k113
   rintro _ _ _ _ _ _ _ _ _ _ _
   show WL _ _ _ _ _ _ _
   refine pu (vp g11 3) wN ?_
   exact f1
  ·intro _ w3 k115 _
   have m116 := m22.extk k115
   rintro _ _ _ _ _ _ _ _ _ rfl _ _
   show WL _ _ _ _ _ _ _
   have b117 := ((b15.kp k20).kp k115)
   refine lN (L_34 x_e.Win a6 c7) wN isAgg_34 sizeOf_34 b117 ?_
   exact f1
  ·intro _ w3 k118 _
   have m119 := m22.extk k118
   rintro _ _ _ ⟨a120, rfl, o122⟩ _ rfl _ rfl _ ⟨a126, c127, rfl, o128, s129, -⟩ _ _ _ rfl _ rfl _
   show WL _ _ _ _ _ _ _
   refine cl wN (C_spec_l8Copy w3 _ x_e.Win (mR_34 (r8.from0 m119) s9)) ?_
   rintro _ w4 ⟨k132, ⟨a133, c134, rfl, o135, s136, ap138⟩⟩
   have m139 := m119.extk k132
   exact wl_finT k132 ⟨_, _, rfl, (own_lo o135 k118.size), s136, ap138, (Ap.lt o128 o135 (Nat.le_refl _))⟩
 ·intro _ w3 k140
  have m141 := m22.extk k140
  rintro _ rfl _ rfl _ ⟨a143, rfl, o145⟩ _ rfl _ rfl _ ⟨a149, c150, rfl, o151, s152, -⟩ _ rfl _ rfl _ rfl _ rfl _ ⟨a156, c157, rfl, o158, s159, ap161, hx162⟩
  show WL _ _ _ _ _ _ _
  refine pu (va [(vi x_e.N), (vs a149 x_e.Key.length c150), (vi x_e.Seq), (vi ((F_spec_l8Copy x_e.Win).Top)), (vs a156 ((F_spec_l8Copy x_e.Win).Bits).length c157)]) wN ?_
  have b163 := (b21.kp k140)
  refine st (va [(vi x_e.N), (vs a149 x_e.Key.length c150), (vi x_e.Seq), (vi ((F_spec_l8Copy x_e.Win).Top)), (vs a156 ((F_spec_l8Copy x_e.Win).Bits).length c157)]) [(vi x_e.N), (vs a149 x_e.Key.length c150), (vi x_e.Seq), (vi ((F_spec_l8Copy x_e.Win).Top)), (vs a156 ((F_spec_l8Copy x_e.Win).Bits).length c157)] [(vi x_e.N), (vs a149 x_e.Key.length c150), (vi x_e.Seq), (vi ((F_spec_l8Copy x_e.Win).Top)), (vs a156 ((F_spec_l8Copy x_e.Win).Bits).length c157)] wN sizeOf_36 b163 ?_
  intro w4 k164 b165 z166
  have m167 := m141.ext k164 (fun k hk => by subst hk; exact Nat.le_trans k14.size p18)
  refine n3 ?_
  have o168 := (own_ch o151 k164 (ne1 o151 (p19)))
  have o169 := (own_ch o158 k164 (ne1 o158 (p19)))
  refine ret_1 (.inl rfl) (va [(vi x_e.N), (vs a149 x_e.Key.length c150), (vi x_e.Seq), (vi ((F_spec_l8Copy x_e.Win).Top)), (vs a156 ((F_spec_l8Copy x_e.Win).Bits).length c157)]) rfl (rv_c [(vi x_e.N), (vs a149 x_e.Key.length c150), (vi x_e.Seq), (vi ((F_spec_l8Copy x_e.Win).Top)), (vs a156 ((F_spec_l8Copy x_e.Win).Bits).length c157)] rfl b165 isAgg_36 sizeOf_36) ?_
  refine ⟨m167.keep0, ?_⟩
  have hF170 : F_spec_l9Copy x_e = { N := x_e.N, Key := x_e.Key, Seq := x_e.Seq, Win := (F_spec_l8Copy x_e.Win) : PEp } := by rfl
  rw [hF170]
  exact ⟨_, _, _, _, rfl, (own_lo o168 (z2 k14 k20)), s152, (own_lo o169 (z2 k14 k20)), s159, ⟨⟨hx162, trivial⟩, ⟨trivial, trivial⟩⟩⟩

theorem mR_36 {w : World} {x : PEp} {a1 : Option Addr} {c1 : Nat} {a2 : Option Addr} {c2 : Nat} (h1 : Rd w 1 (.slice a1 x.Key.length c1) x.Key.length (x.Key.map bV)) (l1 : x.Key.length ≤ 1073741824) (h2 : Rd w 1 (.slice a2 x.Win.Bits.length c2) x.Win.Bits.length (x.Win.Bits.map iV)) (l2 : x.Win.Bits.length ≤ 1073741824) : R_36 w (va (L_36 x a1 c1 a2 c2)) x := ⟨_, _, _, _, rfl, h1, l1, h2, l2⟩
def F_spec_l14Ep (x_e : PEp) (x_has : Bool) : (PEp) := bif x_has then ((F_spec_l9Copy x_e)) else (x_e)
theorem C_spec_l14Ep (w0 : World) (v_x_e : Value) (x_e : PEp) (r_x_e : R_36 w0 v_x_e x_e) (x_has : Bool)  : Fn Try.prog 99 #[v_x_e, (vb x_has)] w0 (fun v w' => Keep w0 w' ∧ O_36 w' w0.heap.size v (F_spec_l14Ep x_e x_has)) := by
 obtain ⟨a1, c2, a6, c7, rfl, r3, s4, r8, s9⟩ := r_x_e
 refine fn_of (n := 27) (l := [(va (L_36 x_e a1 c2 a6 c7)), (vb x_has), U, U, U, U, U, U, U, U, U, U, U, U, U, U, U, U, U, U, U, U, U, U, U, U, U]) Try.func99 rfl rfl (by kernel_rfl) rfl ?_
 refine sr ?_
 refine bx (L_36 x_e a1 c2 a6 c7) wN ?_
 intro g11 w1 p12 p13 k14 b15
 have m16 := (Ch.base w0).extk k14
 refine al [(vi 0), (vs none 0 0), (vi 0), (vi 0), (vs none 0 0)] wN zero_36 ?_
 intro g17 w2 p18 p19 k20 b21
 have m22 := m16.extk k20
 refine n4 ?_
 refine mw (vb x_has) ?_
 refine pu (vb (!x_has)) wN ?_
 refine n2 ?_
 rcases bt x_has with h23 | h23
 ·refine cf (congrArg not h23) ?_
  refine y1 ?_
  have b25 := (b15.kp k20)
  refine lN (L_36 x_e a1 c2 a6 c7) wN isAgg_36 sizeOf_36 b25 ?_
  refine cl wN (C_spec_l9Copy w2 _ x_e (mR_36 (r3.from0 m22) s4 (r8.from0 m22) s9)) ?_
  rintro _ w3 ⟨k26, ⟨a27, c28, a32, c33, rfl, o29, s30, o34, s35, ap37⟩⟩
  have m38 := m22.extk k26
  have b39 := (b21.kp k26)
  refine sv (L_36 (F_spec_l9Copy x_e) a27 c28 a32 c33) wN sizeOf_36 b39 ?_
  intro w4 k40 b41 z42
  have m43 := m38.ext k40 (fun k hk => by subst hk; exact Nat.le_trans k14.size p18)
  refine n3 ?_
  have o44 := (own_ch o29 k40 (ne1 o29 (p19)))
  have o45 := (own_ch o34 k40 (ne1 o34 (p19)))
  refine ret_1 (.inl rfl) (va (L_36 (F_spec_l9Copy x_e) a27 c28 a32 c33)) rfl (rv_c [(vi ((F_spec_l9Copy x_e).N)), (vs a27 ((F_spec_l9Copy x_e).Key).length c28), (vi ((F_spec_l9Copy x_e).Seq)), (vi (((F_spec_l9Copy x_e).Win).Top)), (vs a32 (((F_spec_l9Copy x_e).Win).Bits).length c33)] rfl b41 isAgg_36 sizeOf_36) ?_
  refine ⟨m43.keep0, ?_⟩
  have hF46 : F_spec_l14Ep x_e x_has = (F_spec_l9Copy x_e) := by simp only [F_spec_l14Ep, h23, cond_true, cond_false]
  rw [hF46]
  exact ⟨_, _, _, _, rfl, (own_lo o44 (z2 k14 k20)), s30, (own_lo o45 (z2 k14 k20)), s35, ⟨⟨(ap37.1.1), trivial⟩, ⟨trivial, trivial⟩⟩⟩
 refine ct (congrArg not h23) ?_
 refine wc_seq ?_
 refine wc_drawT ([(7, [], [], (fun _ v _ => v = (vp g11 0))), (8, [], [0], (fun _ v _ => v = (vi x_e.N))), (9, [], [], (fun _ v w => ∃ a0 : Addr, v = .slice (some a0) 0 0 ∧ w.ownsRow w2.heap.size 5 1 (.slice (some a0) 0 0) 0 [])), (10, [], [], (fun _ v _ => v = (vp g11 1))), (11, [], [3], (fun _ v _ => v = (vs a1 x_e.Key.length c2))), (12, [], [2, 3, 4], (fun _ v w => ∃ (a1 : Option Addr) (c1 : Nat), v = .slice a1 x_e.Key.length c1 ∧ w.ownsRow w2.heap.size 5 1 (.slice a1 x_e.Key.length c1) x_e.Key.length (x_e.Key.map bV) ∧ x_e.Key.length ≤ 1073741824 ∧ Aps [(a1, c1)])), (13, [], [], (fun _ v _ => v = (vp g11 2))), (14, [], [6], (fun _ v _ => v = (vi x_e.Seq))), (15, [], [], (fun _ v _ => v = (vp g11 3))), (16, [], [8], (fun _ v _ => v = (vp g11 3))), (17, [], [8, 9], (fun _ v _ => v = (vi x_e.Win.Top))), (18, [], [], (fun _ v w => ∃ a0 : Addr, v = .slice (some a0) 0 0 ∧ w.ownsRow w2.heap.size 3 1 (.slice (some a0) 0 0) 0 [])), (19, [], [], (fun _ v _ => v = (vp g11 3))), (20, [], [12], (fun _ v _ => v = (vp g11 4))), (21, [], [12, 13], (fun _ v _ => v = (vs a6 x_e.Win.Bits.length c7))), (22, [12], [2, 3, 4, 5, 11, 12, 13, 14], (fun e v w => ∃ (a1 : Option Addr) (c1 : Nat), v = .slice a1 x_e.Win.Bits.length c1 ∧ w.ownsRow w2.heap.size 3 1 (.slice a1 x_e.Win.Bits.length c1) x_e.Win.Bits.length (x_e.Win.Bits.map iV) ∧ x_e.Win.Bits.length ≤ 1073741824 ∧ Aps [(a1, c1)] ∧ Ap (sp (e 12)) (a1, c1))), (23, [22], [2, 3, 4, 5, 8, 9, 10, 11, 12, 13, 14, 15], (fun e v _ => v = (.agg #[(vi x_e.Win.Top), (e 22)])))] : GV) (fun _ w' => Keep w2 w') [] mixed rfl (by kernel_rfl) (by kernel_rfl) ?_ (fun _ _ h => h) (fun _ _ _ _ h _ k => h.trans k) trivial ?_ ?_ ?_
 ·exact ⟨(fun _ _ _ _ h _ => h), (fun _ _ _ _ _ h => h), ⟨(fun _ _ _ _ h _ => h), (fun _ _ _ _ _ h => h), ⟨(fun e v w w1 h hk => by obtain ⟨a0x, he, o0x⟩ := h; exact ⟨a0x, he, own_kp o0x hk⟩), (fun _ _ _ _ _ h => h), ⟨(fun _ _ _ _ h _ => h), (fun _ _ _ _ _ h => h), ⟨(fun _ _ _ _ h _ => h), (fun _ _ _ _ _ h => h), ⟨(fun e v w w1 h hk => by obtain ⟨a0x, c0x, he, o0x, l0x, hap⟩ := h; exact ⟨a0x, c0x, he, own_kp o0x hk, l0x, hap⟩), (fun _ _ _ _ _ h => h), ⟨(fun _ _ _ _ h _ => h), (fun _ _ _ _ _ h => h), ⟨(fun _ _ _ _ h _ => h), (fun _ _ _ _ _ h => h), ⟨(fun _ _ _ _ h _ => h), (fun _ _ _ _ _ h => h), ⟨(fun _ _ _ _ h _ => h), (fun _ _ _ _ _ h => h), ⟨(fun _ _ _ _ h _ => h), (fun _ _ _ _ _ h => h), ⟨(fun e v w w1 h hk => by obtain ⟨a0x, he, o0x⟩ := h; exact ⟨a0x, he, own_kp o0x hk⟩), (fun _ _ _ _ _ h => h), ⟨(fun _ _ _ _ h _ => h), (fun _ _ _ _ _ h => h), ⟨(fun _ _ _ _ h _ => h), (fun _ _ _ _ _ h => h), ⟨(fun _ _ _ _ h _ => h), (fun _ _ _ _ _ h => h), ⟨(fun e v w w1 h hk => by obtain ⟨a0x, c0x, he, o0x, l0x, hap, hx⟩ := h; exact ⟨a0x, c0x, he, own_kp o0x hk, l0x, hap, hx⟩), (fun e1 e2 v w hx h => by have h12x := hx 12 (by simp); simp only [h12x] at h; exact h), ⟨(fun _ _ _ _ h _ => h), (fun e1 e2 v w hx h => by have h22x := hx 22 (by simp); simp only [h22x] at h; exact h), trivial⟩⟩⟩⟩⟩⟩⟩⟩⟩⟩⟩⟩⟩⟩⟩⟩⟩
 ·exact trivial
 ·refine ⟨?_, ⟨?_, ⟨?_, ⟨?_, ⟨?_, ⟨?_, ⟨?_, ⟨?_, ⟨?_, ⟨?_, ⟨?_, ⟨?_, ⟨?_, ⟨?_, ⟨?_, ⟨?_, ⟨?_, trivial⟩⟩⟩⟩⟩⟩⟩⟩⟩⟩⟩⟩⟩⟩⟩⟩⟩
  ·intro _ w3 k114 _
   have m115 := m22.extk k114
   rintro _ _ _ _ _ _ _ _ _ _ _ _ _ _ _ _ _
   show WL _ _ _ _ _ _ _
   refine pu (vp g11 0) wN ?_
   exact f1
  ·intro _ w3 k116 _
   have m117 := m22.extk k116
   rintro _ rfl _ _ _ _ _ _ _ _ _ _ _ _ _ _ _ _
   show WL _ _ _ _ _ _ _
   have b118 := ((b15.kp k20).kp k116)
   refine ld (vi x_e.N) wN isAgg_3 b118 ?_
   exact f1
  ·intro _ w3 k119 _
   have m120 := m22.extk k119
   rintro _ _ _ _ _ _ _ _ _ _ _ _ _ _ _ _ _
   show WL _ _ _ _ _ _ _
   refine wl_lit0 wN rfl rfl slTy_22 (fun w => by kernel_rfl) ?_
   intro a121 w4 k122 o123
   have m124 := m120.extk k122
   exact wl_finT k122 ⟨_, rfl, own_lo o123 k119.size⟩
  ·intro _ w3 k126 _
   have m127 := m22.extk k126
   rintro _ _ _ _ _ _ _ _ _ _ _ _ _ _ _ _ _
   show WL _ _ _ _ _ _ _
   refine pu (vp g11 1) wN ?_
   exact f1
  ·intro _ w3 k128 _
   have m129 := m22.extk k128
   rintro _ _ _ _ rfl _ _ _ _ _ _ _ _ _ _ _ _ _
   show WL _ _ _ _ _ _ _
   have b130 := ((b15.kp k20).kp k128)
   refine ld (vs a1 x_e.Key.length c2) wN isAgg_22 b130 ?_
   exact f1
  ·intro _ w3 k131 _
   have m132 := m22.extk k131
   rintro _ _ _ ⟨a133, rfl, o135⟩ _ rfl _ rfl _ _ _ _ _ _ _ _ _ _ _ _
   show WL _ _ _ _ _ _ _
   refine wl_append0 wN rfl rfl rfl slTy_22 rfl rfl o135 (r3.from0 m132) (all_bV _) (by first | (simp only [List.length_append, List.length_cons, List.length_nil, List.length_replicate, List.length_take, List.length_drop]; omega) | omega) (by simp only [maxLen]; first | (simp only [List.length_append, List.length_cons, List.length_nil, List.length_replicate, List.length_take, List.length_drop]; omega) | omega) k131.size ?_
   intro u139 w4 k140 o141 j142
   obtain ⟨a143, c144, rfl⟩ := own_form o141
   have n145 : New w3 a143 c144 := j142 _ _ rfl
   have m146 := m132.extk k140
   exact wl_finT k140 ⟨_, _, rfl, o141, s4, ⟨trivial, trivial⟩⟩
  ·intro _ w3 k148 _
   have m149 := m22.extk k148
   rintro _ _ _ _ _ _ _ _ _ _ _ _ _ _ _ _ _
   show WL _ _ _ _ _ _ _
   refine pu (vp g11 2) wN ?_
   exact f1
  ·intro _ w3 k150 _
   have m151 := m22.extk k150
   rintro _ _ _ _ _ _ _ rfl _ _ _ _ _ _ _ _ _ _
   show WL _ _ _ _ _ _ _
   have b152 := ((b15.kp k20).kp k150)
   refine ld (vi x_e.Seq) wN isAgg_3 b152 ?_
   exact f1
  ·intro _ w3 k153 _
   have m154 := m22.extk k153
   rintro _ _ _ _ _ _ _ _ _ _ _ _ _ _ _ _ _
   show WL _ _ _ _ _ _ _
   refine pu (vp g11 3) wN ?_
   exact f1
  ·intro _ w3 k155 _
   have m156 := m22.extk k155
   rintro _ _ _ _ _ _ _ _ _ rfl _ _ _ _ _ _ _ _
   show WL _ _ _ _ _ _ _
   refine pu (vp g11 3) wN ?_
   exact f1
  ·intro _ w3 k157 _
   have m158 := m22.extk k157
   rintro _ _ _ _ _ _ _ _ _ rfl _ rfl _ _ _ _ _ _ _
   show WL _ _ _ _ _ _ _
   have b159 := ((b15.kp k20).kp k157)
   refine ld (vi x_e.Win.Top) wN isAgg_3 b159 ?_
   exact f1
  ·intro _ w3 k160 _
   have m161 := m22.extk k160
   rintro _ _ _ _ _ _ _ _ _ _ _ _ _ _ _ _ _
   show WL _ _ _ _ _ _ _
   refine wl_lit0 wN rfl rfl slTy_32 (fun w => by kernel_rfl) ?_
   intro a162 w4 k163 o164
   have m165 := m161.extk k163
   exact wl_finT k163 ⟨_, rfl, own_lo o164 k160.size⟩
  ·intro _ w3 k167 _
   have m168 := m22.extk k167
   rintro _ _ _ _ _ _ _ _ _ _ _ _ _ _ _ _ _
   show WL _ _ _ _ _ _ _
   refine pu (vp g11 3) wN ?_
   exact f1
  ·intro _ w3 k169 _
   have m170 := m22.extk k169
   rintro _ _ _ _ _ _ _ _ _ _ _ _ _ rfl _ _ _ _
   show WL _ _ _ _ _ _ _
   refine pu (vp g11 4) wN ?_
   exact f1
  ·intro _ w3 k171 _
   have m172 := m22.extk k171
   rintro _ _ _ _ _ _ _ _ _ _ _ _ _ rfl _ rfl _ _ _
   show WL _ _ _ _ _ _ _
   have b173 := ((b15.kp k20).kp k171)
   refine ld (vs a6 x_e.Win.Bits.length c7) wN isAgg_32 b173 ?_
   exact f1
  ·intro _ w3 k174 _
   have m175 := m22.extk k174
   rintro _ _ _ ⟨a176, rfl, o178⟩ _ rfl _ rfl _ ⟨a182, c183, rfl, o184, s185, -⟩ _ _ _ _ _ _ ⟨a187, rfl, o189⟩ _ rfl _ rfl _ rfl _ _
   show WL _ _ _ _ _ _ _
   refine wl_append0 wN rfl rfl rfl slTy_32 rfl rfl o189 (r8.from0 m175) (all_iV _) (by first | (simp only [List.length_append, List.length_cons, List.length_nil, List.length_replicate, List.length_take, List.length_drop]; omega) | omega) (by simp only [maxLen]; first | (simp only [List.length_append, List.length_cons, List.length_nil, List.length_replicate, List.length_take, List.length_drop]; omega) | omega) k174.size ?_
   intro u193 w4 k194 o195 j196
   obtain ⟨a197, c198, rfl⟩ := own_form o195
   have n199 : New w3 a197 c198 := j196 _ _ rfl
   have m200 := m175.extk k194
   exact wl_finT k194 ⟨_, _, rfl, o195, s9, ⟨trivial, trivial⟩, (Ap.new o184 n199 (Nat.le_refl _))⟩
  ·intro _ w3 k202 _
   have m203 := m22.extk k202
   rintro _ _ _ ⟨a204, rfl, o206⟩ _ rfl _ rfl _ ⟨a210, c211, rfl, o212, s213, -⟩ _ _ _ rfl _ rfl _ rfl _ ⟨a216, rfl, o218⟩ _ rfl _ rfl _ rfl _ ⟨a222, c223, rfl, o224, s225, -, hx227⟩ _
   show WL _ _ _ _ _ _ _
   refine pu (va (L_34 x_e.Win a222 c223)) wN ?_
   exact f1
 ·intro _ w3 k228
  have m229 := m22.extk k228
  rintro _ rfl _ rfl _ ⟨a231, rfl, o233⟩ _ rfl _ rfl _ ⟨a237, c238, rfl, o239, s240, -⟩ _ rfl _ rfl _ rfl _ rfl _ rfl _ ⟨a244, rfl, o246⟩ _ rfl _ rfl _ rfl _ ⟨a250, c251, rfl, o252, s253, -, hx255⟩ _ rfl
  show WL _ _ _ _ _ _ _
  refine pu (va (L_36 x_e a237 c238 a250 c251)) wN ?_
  have b256 := (b21.kp k228)
  refine sv (L_36 x_e a237 c238 a250 c251) wN sizeOf_36 b256 ?_
  intro w4 k257 b258 z259
  have m260 := m229.ext k257 (fun k hk => by subst hk; exact Nat.le_trans k14.size p18)
  refine n1 ?_
  have o261 := (own_ch o239 k257 (ne1 o239 (p19)))
  have o262 := (own_ch o252 k257 (ne1 o252 (p19)))
  refine ret_1 (.inl rfl) (va (L_36 x_e a237 c238 a250 c251)) rfl (rv_c [(vi x_e.N), (vs a237 x_e.Key.length c238), (vi x_e.Seq), (vi x_e.Win.Top), (vs a250 x_e.Win.Bits.length c251)] rfl b258 isAgg_36 sizeOf_36) ?_
  refine ⟨m260.keep0, ?_⟩
  have hF263 : F_spec_l14Ep x_e x_has = x_e := by simp only [F_spec_l14Ep, h23, cond_true, cond_false]
  rw [hF263]
  exact ⟨_, _, _, _, rfl, (own_lo o261 (z2 k14 k20)), s240, (own_lo o262 (z2 k14 k20)), s253, ⟨⟨hx255, trivial⟩, ⟨trivial, trivial⟩⟩⟩

def R_38 (w : World) (v : Value) (x : (PChan)) : Prop := ∃ (a1 : Option Addr) (c1 : Nat) (a2 : Option Addr) (c2 : Nat) (a3 : Option Addr) (c3 : Nat) (a4 : Option Addr) (c4 : Nat) (a5 : Option Addr) (c5 : Nat) (a6 : Option Addr) (c6 : Nat), v = .agg #[.int .i64 x.Role, .slice a1 x.Sn.length c1, .int .i64 x.Cur.N, .slice a2 x.Cur.Key.length c2, .int .i64 x.Cur.Seq, .int .i64 x.Cur.Win.Top, .slice a3 x.Cur.Win.Bits.length c3, .int .i64 x.Old.N, .slice a4 x.Old.Key.length c4, .int .i64 x.Old.Seq, .int .i64 x.Old.Win.Top, .slice a5 x.Old.Win.Bits.length c5, .bool x.HasOld, .int .i64 x.Until, .slice a6 x.Next.length c6] ∧ Rd w 1 (.slice a1 x.Sn.length c1) x.Sn.length (x.Sn.map bV) ∧ x.Sn.length ≤ 1073741824 ∧ Rd w 1 (.slice a2 x.Cur.Key.length c2) x.Cur.Key.length (x.Cur.Key.map bV) ∧ x.Cur.Key.length ≤ 1073741824 ∧ Rd w 1 (.slice a3 x.Cur.Win.Bits.length c3) x.Cur.Win.Bits.length (x.Cur.Win.Bits.map iV) ∧ x.Cur.Win.Bits.length ≤ 1073741824 ∧ Rd w 1 (.slice a4 x.Old.Key.length c4) x.Old.Key.length (x.Old.Key.map bV) ∧ x.Old.Key.length ≤ 1073741824 ∧ Rd w 1 (.slice a5 x.Old.Win.Bits.length c5) x.Old.Win.Bits.length (x.Old.Win.Bits.map iV) ∧ x.Old.Win.Bits.length ≤ 1073741824 ∧ Rd w 1 (.slice a6 x.Next.length c6) x.Next.length (x.Next.map bV) ∧ x.Next.length ≤ 1073741824
def F_spec_l14Copy (x_c : PChan) : (PChan) := { Role := x_c.Role, Sn := x_c.Sn, Cur := (F_spec_l9Copy x_c.Cur), Old := (F_spec_l14Ep x_c.Old x_c.HasOld), HasOld := x_c.HasOld, Until := x_c.Until, Next := x_c.Next : PChan }
theorem C_spec_l14Copy (w0 : World) (v_x_c : Value) (x_c : PChan) (r_x_c : R_38 w0 v_x_c x_c)  : Fn Try.prog 65 #[v_x_c] w0 (fun v w' => Keep w0 w' ∧ O_38 w' w0.heap.size v (F_spec_l14Copy x_c)) := by
 obtain ⟨a1, c2, a6, c7, a11, c12, a16, c17, a21, c22, a26, c27, rfl, r3, s4, r8, s9, r13, s14, r18, s19, r23, s24, r28, s29⟩ := r_x_c
 refine fn_of (n := 26) (l := [(va (L_38 x_c a1 c2 a6 c7 a11 c12 a16 c17 a21 c22 a26 c27)), U, U, U, U, U, U, U, U, U, U, U, U, U, U, U, U, U, U, U, U, U, U, U, U, U]) Try.func65 rfl rfl (by kernel_rfl) rfl ?_
 refine sr ?_
 refine bx (L_38 x_c a1 c2 a6 c7 a11 c12 a16 c17 a21 c22 a26 c27) wN ?_
 intro g31 w1 p32 p33 k34 b35
 have m36 := (Ch.base w0).extk k34
 refine al [(vi 0), (vs none 0 0), (vi 0), (vs none 0 0), (vi 0), (vi 0), (vs none 0 0), (vi 0), (vs none 0 0), (vi 0), (vi 0), (vs none 0 0), (vb false), (vi 0), (vs none 0 0)] wN zero_38 ?_
 intro g37 w2 p38 p39 k40 b41
 have m42 := m36.extk k40
 refine wl_nil <| wq_then <| wc_seq ?_
 refine wc_drawT ([(3, [], [], (fun _ v _ => v = (vp g31 0))), (4, [], [0], (fun _ v _ => v = (vi x_c.Role))), (5, [], [], (fun _ v w => ∃ a0 : Addr, v = .slice (some a0) 0 0 ∧ w.ownsRow w2.heap.size 5 1 (.slice (some a0) 0 0) 0 [])), (6, [], [], (fun _ v _ => v = (vp g31 1))), (7, [], [3], (fun _ v _ => v = (vs a1 x_c.Sn.length c2))), (8, [], [2, 3, 4], (fun _ v w => ∃ (a1 : Option Addr) (c1 : Nat), v = .slice a1 x_c.Sn.length c1 ∧ w.ownsRow w2.heap.size 5 1 (.slice a1 x_c.Sn.length c1) x_c.Sn.length (x_c.Sn.map bV) ∧ x_c.Sn.length ≤ 1073741824 ∧ Aps [(a1, c1)])), (9, [], [], (fun _ v _ => v = (vp g31 2))), (10, [], [6], (fun _ v _ => v = (.agg #[(vi x_c.Cur.N), (vs a6 x_c.Cur.Key.length c7), (vi x_c.Cur.Seq), (vi x_c.Cur.Win.Top), (vs a11 x_c.Cur.Win.Bits.length c12)]))), (11, [8], [2, 3, 4, 5, 6, 7], (fun e v w => ∃ (a1 : Option Addr) (c1 : Nat) (a2 : Option Addr) (c2 : Nat), v = .agg #[.int .i64 ((F_spec_l9Copy x_c.Cur).N), .slice a1 ((F_spec_l9Copy x_c.Cur).Key).length c1, .int .i64 ((F_spec_l9Copy x_c.Cur).Seq), .int .i64 (((F_spec_l9Copy x_c.Cur).Win).Top), .slice a2 (((F_spec_l9Copy x_c.Cur).Win).Bits).length c2] ∧ w.ownsRow (w2.heap.size) 5 1 (.slice a1 ((F_spec_l9Copy x_c.Cur).Key).length c1) ((F_spec_l9Copy x_c.Cur).Key).length (((F_spec_l9Copy x_c.Cur).Key).map bV) ∧ ((F_spec_l9Copy x_c.Cur).Key).length ≤ 1073741824 ∧ w.ownsRow (w2.heap.size) 3 1 (.slice a2 (((F_spec_l9Copy x_c.Cur).Win).Bits).length c2) (((F_spec_l9Copy x_c.Cur).Win).Bits).length ((((F_spec_l9Copy x_c.Cur).Win).Bits).map iV) ∧ (((F_spec_l9Copy x_c.Cur).Win).Bits).length ≤ 1073741824 ∧ Aps [(a1, c1), (a2, c2)] ∧ Ap (sp (e 8)) (a1, c1) ∧ Ap (sp (e 8)) (a2, c2))), (12, [], [], (fun _ v _ => v = (vp g31 7))), (13, [], [9], (fun _ v _ => v = (.agg #[(vi x_c.Old.N), (vs a16 x_c.Old.Key.length c17), (vi x_c.Old.Seq), (vi x_c.Old.Win.Top), (vs a21 x_c.Old.Win.Bits.length c22)]))), (14, [], [], (fun _ v _ => v = (vp g31 12))), (15, [], [11], (fun _ v _ => v = (vb x_c.HasOld))), (16, [8, 11], [2, 3, 4, 5, 6, 7, 8, 9, 10, 11, 12], (fun e v w => ∃ (a1 : Option Addr) (c1 : Nat) (a2 : Option Addr) (c2 : Nat), v = .agg #[.int .i64 ((F_spec_l14Ep x_c.Old x_c.HasOld).N), .slice a1 ((F_spec_l14Ep x_c.Old x_c.HasOld).Key).length c1, .int .i64 ((F_spec_l14Ep x_c.Old x_c.HasOld).Seq), .int .i64 (((F_spec_l14Ep x_c.Old x_c.HasOld).Win).Top), .slice a2 (((F_spec_l14Ep x_c.Old x_c.HasOld).Win).Bits).length c2] ∧ w.ownsRow (w2.heap.size) 5 1 (.slice a1 ((F_spec_l14Ep x_c.Old x_c.HasOld).Key).length c1) ((F_spec_l14Ep x_c.Old x_c.HasOld).Key).length (((F_spec_l14Ep x_c.Old x_c.HasOld).Key).map bV) ∧ ((F_spec_l14Ep x_c.Old x_c.HasOld).Key).length ≤ 1073741824 ∧ w.ownsRow (w2.heap.size) 3 1 (.slice a2 (((F_spec_l14Ep x_c.Old x_c.HasOld).Win).Bits).length c2) (((F_spec_l14Ep x_c.Old x_c.HasOld).Win).Bits).length ((((F_spec_l14Ep x_c.Old x_c.HasOld).Win).Bits).map iV) ∧ (((F_spec_l14Ep x_c.Old x_c.HasOld).Win).Bits).length ≤ 1073741824 ∧ Aps [(a1, c1), (a2, c2)] ∧ Ap (sp (e 8)) (a1, c1) ∧ Ap (sp (e 8)) (a2, c2) ∧ Ap (sp (cellAt (e 11) 1)) (a1, c1) ∧ Ap (sp (cellAt (e 11) 1)) (a2, c2) ∧ Ap (sp (cellAt (e 11) 4)) (a1, c1) ∧ Ap (sp (cellAt (e 11) 4)) (a2, c2))), (17, [], [], (fun _ v _ => v = (vp g31 12))), (18, [], [14], (fun _ v _ => v = (vb x_c.HasOld))), (19, [], [], (fun _ v _ => v = (vp g31 13))), (20, [], [16], (fun _ v _ => v = (vi x_c.Until))), (21, [], [], (fun _ v w => ∃ a0 : Addr, v = .slice (some a0) 0 0 ∧ w.ownsRow w2.heap.size 5 1 (.slice (some a0) 0 0) 0 [])), (22, [], [], (fun _ v _ => v = (vp g31 14))), (23, [], [19], (fun _ v _ => v = (vs a26 x_c.Next.length c27))), (24, [8, 11, 16], [2, 3, 4, 5, 6, 7, 8, 9, 10, 11, 12, 13, 18, 19, 20], (fun e v w => ∃ (a1 : Option Addr) (c1 : Nat), v = .slice a1 x_c.Next.length c1 ∧ w.ownsRow w2.heap.size 5 1 (.slice a1 x_c.Next.length c1) x_c.Next.length (x_c.Next.map bV) ∧ x_c.Next.length ≤ 1073741824 ∧ Aps [(a1, c1)] ∧ Ap (sp (e 8)) (a1, c1) ∧ Ap (sp (cellAt (e 11) 1)) (a1, c1) ∧ Ap (sp (cellAt (e 11) 4)) (a1, c1) ∧ Ap (sp (cellAt (e 16) 1)) (a1, c1) ∧ Ap (sp (cellAt (e 16) 4)) (a1, c1)))] : GV) (fun _ w' => Keep w2 w') [] mixed rfl (by kernel_rfl) (by kernel_rfl) ?_ (fun _ _ h => h) (fun _ _ _ _ h _ k => h.trans k) trivial ?_ ?_ ?_
 ·exact ⟨(fun _ _ _ _ h _ => h), (fun _ _ _ _ _ h => h), ⟨(fun _ _ _ _ h _ => h), (fun _ _ _ _ _ h => h), ⟨(fun e v w w1 h hk => by obtain ⟨a0x, he, o0x⟩ := h; exact ⟨a0x, he, own_kp o0x hk⟩), (fun _ _ _ _ _ h => h), ⟨(fun _ _ _ _ h _ => h), (fun _ _ _ _ _ h => h), ⟨(fun _ _ _ _ h _ => h), (fun _ _ _ _ _ h => h), ⟨(fun e v w w1 h hk => by obtain ⟨a0x, c0x, he, o0x, l0x, hap⟩ := h; exact ⟨a0x, c0x, he, own_kp o0x hk, l0x, hap⟩), (fun _ _ _ _ _ h => h), ⟨(fun _ _ _ _ h _ => h), (fun _ _ _ _ _ h => h), ⟨(fun _ _ _ _ h _ => h), (fun _ _ _ _ _ h => h), ⟨(fun e v w w1 h hk => by obtain ⟨a0x, c0x, a1x, c1x, he, o0x, l0x, o1x, l1x, hap, hx⟩ := h; exact ⟨a0x, c0x, a1x, c1x, he, own_kp o0x hk, l0x, own_kp o1x hk, l1x, hap, hx⟩), (fun e1 e2 v w hx h => by have h8x := hx 8 (by simp); simp only [h8x] at h; exact h), ⟨(fun _ _ _ _ h _ => h), (fun _ _ _ _ _ h => h), ⟨(fun _ _ _ _ h _ => h), (fun _ _ _ _ _ h => h), ⟨(fun _ _ _ _ h _ => h), (fun _ _ _ _ _ h => h), ⟨(fun _ _ _ _ h _ => h), (fun _ _ _ _ _ h => h), ⟨(fun e v w w1 h hk => by obtain ⟨a0x, c0x, a1x, c1x, he, o0x, l0x, o1x, l1x, hap, hx⟩ := h; exact ⟨a0x, c0x, a1x, c1x, he, own_kp o0x hk, l0x, own_kp o1x hk, l1x, hap, hx⟩), (fun e1 e2 v w hx h => by have h8x := hx 8 (by simp); have h11x := hx 11 (by simp); simp only [h8x, h11x] at h; exact h), ⟨(fun _ _ _ _ h _ => h), (fun _ _ _ _ _ h => h), ⟨(fun _ _ _ _ h _ => h), (fun _ _ _ _ _ h => h), ⟨(fun _ _ _ _ h _ => h), (fun _ _ _ _ _ h => h), ⟨(fun _ _ _ _ h _ => h), (fun _ _ _ _ _ h => h), ⟨(fun e v w w1 h hk => by obtain ⟨a0x, he, o0x⟩ := h; exact ⟨a0x, he, own_kp o0x hk⟩), (fun _ _ _ _ _ h => h), ⟨(fun _ _ _ _ h _ => h), (fun _ _ _ _ _ h => h), ⟨(fun _ _ _ _ h _ => h), (fun _ _ _ _ _ h => h), ⟨(fun e v w w1 h hk => by obtain ⟨a0x, c0x, he, o0x, l0x, hap, hx⟩ := h; exact ⟨a0x, c0x, he, own_kp o0x hk, l0x, hap, hx⟩), (fun e1 e2 v w hx h => by have h8x := hx 8 (by simp); have h11x := hx 11 (by simp); have h16x := hx 16 (by simp); simp only [h8x, h11x, h16x] at h; exact h), trivial⟩⟩⟩⟩⟩⟩⟩⟩⟩⟩⟩⟩⟩⟩⟩⟩⟩⟩⟩⟩⟩⟩
 ·exact trivial
 ·refine ⟨?_, ⟨?_, ⟨?_, ⟨?_, ⟨?_, ⟨?_, ⟨?_, ⟨?_, ⟨?_, ⟨?_, ⟨?_, ⟨?_, ⟨?_, ⟨?_, ⟨?_, ⟨?_, ⟨?_, ⟨?_, ⟨?_, ⟨?_, ⟨?_, ⟨?_, trivial⟩⟩⟩⟩⟩⟩⟩⟩⟩⟩⟩⟩⟩⟩⟩⟩⟩⟩⟩⟩⟩⟩
  ·intro _ w3 k159 _
   have m160 := m42.extk k159
   rintro _ _ _ _ _ _ _ _ _ _ _ _ _ _ _ _ _ _ _ _ _ _
   show WL _ _ _ _ _ _ _
   refine pu (vp g31 0) wN ?_
   exact f1
  ·intro _ w3 k161 _
   have m162 := m42.extk k161
   rintro _ rfl _ _ _ _ _ _ _ _ _ _ _ _ _ _ _ _ _ _ _ _ _
   show WL _ _ _ _ _ _ _
   have b163 := ((b35.kp k40).kp k161)
   refine ld (vi x_c.Role) wN isAgg_3 b163 ?_
   exact f1
  ·intro _ w3 k164 _
   have m165 := m42.extk k164
   rintro _ _ _ _ _ _ _ _ _ _ _ _ _ _ _ _ _ _ _ _ _ _
   show WL _ _ _ _ _ _ _
   refine wl_lit0 wN rfl rfl slTy_22 (fun w => by kernel_rfl) ?_
   intro a166 w4 k167 o168
   have m169 := m165.extk k167
   exact wl_finT k167 ⟨_, rfl, own_lo o168 k164.size⟩
  ·intro _ w3 k171 _
   have m172 := m42.extk k171
   rintro _ _ _ _ _ _ _ _ _ _ _ _ _ _ _ _ _ _ _ _ _ _
   show WL _ _ _ _ _ _ _
   refine pu (vp g31 1) wN ?_
   exact f1
  ·intro _ w3 k173 _
   have m174 := m42.extk k173
   rintro _ _ _ _ rfl _ _ _ _ _ _ _ _ _ _ _ _ _ _ _ _ _ _
   show WL _ _ _ _ _ _ _
   have b175 := ((b35.kp k40).kp k173)
   refine ld (vs a1 x_c.Sn.length c2) wN isAgg_22 b175 ?_
   exact f1
  ·intro _ w3 k176 _
   have m177 := m42.extk k176
   rintro _ _ _ ⟨a178, rfl, o180⟩ _ rfl _ rfl _ _ _ _ _ _ _ _ _ _ _ _ _ _ _ _ _
   show WL _ _ _ _ _ _ _
   refine wl_append0 wN rfl rfl rfl slTy_22 rfl rfl o180 (r3.from0 m177) (all_bV _) (by first | (simp only [List.length_append, List.length_cons, List.length_nil, List.length_replicate, List.length_take, List.length_drop]; omega) | omega) (by simp only [maxLen]; first | (simp only [List.length_append, List.length_cons, List.length_nil, List.length_replicate, List.length_take, List.length_drop]; omega) | omega) k176.size ?_
   intro u184 w4 k185 o186 j187
   obtain ⟨a188, c189, rfl⟩ := own_form o186
   have n190 : New w3 a188 c189 := j187 _ _ rfl
   have m191 := m177.extk k185
   exact wl_finT k185 ⟨_, _, rfl, o186, s4, ⟨trivial, trivial⟩⟩
  ·intro _ w3 k193 _
   have m194 := m42.extk k193
   rintro _ _ _ _ _ _ _ _ _ _ _ _ _ _ _ _ _ _ _ _ _ _
   show WL _ _ _ _ _ _ _
   refine pu (vp g31 2) wN ?_
   exact f1
  ·intro _ w3 k195 _
   have m196 := m42.extk k195
   rintro _ _ _ _ _ _ _ rfl _ _ _ _ _ _ _ _ _ _ _ _ _ _ _
   show WL _ _ _ _ _ _ _
   have b197 := ((b35.kp k40).kp k195)
   refine lN (L_36 x_c.Cur a6 c7 a11 c12) wN isAgg_36 sizeOf_36 b197 ?_
   exact f1
  ·intro _ w3 k198 _
   have m199 := m42.extk k198
   rintro _ _ _ ⟨a200, rfl, o202⟩ _ rfl _ rfl _ ⟨a206, c207, rfl, o208, s209, -⟩ _ rfl _ rfl _ _ _ _ _ _ _ _ _ _ _ _ _ _
   show WL _ _ _ _ _ _ _
   refine cl wN (C_spec_l9Copy w3 _ x_c.Cur (mR_36 (r8.from0 m199) s9 (r13.from0 m199) s14)) ?_
   rintro _ w4 ⟨k212, ⟨a213, c214, a218, c219, rfl, o215, s216, o220, s221, ap223⟩⟩
   have m224 := m199.extk k212
   exact wl_finT k212 ⟨_, _, _, _, rfl, (own_lo o215 k198.size), s216, (own_lo o220 k198.size), s221, ap223, ⟨(Ap.lt o208 o215 (Nat.le_refl _)), (Ap.lt o208 o220 (Nat.le_refl _))⟩⟩
  ·intro _ w3 k225 _
   have m226 := m42.extk k225
   rintro _ _ _ _ _ _ _ _ _ _ _ _ _ _ _ _ _ _ _ _ _ _
   show WL _ _ _ _ _ _ _
   refine pu (vp g31 7) wN ?_
   exact f1
  ·intro _ w3 k227 _
   have m228 := m42.extk k227
   rintro _ _ _ _ _ _ _ _ _ _ rfl _ _ _ _ _ _ _ _ _ _ _ _
   show WL _ _ _ _ _ _ _
   have b229 := ((b35.kp k40).kp k227)
   refine lN (L_36 x_c.Old a16 c17 a21 c22) wN isAgg_36 sizeOf_36 b229 ?_
   exact f1
  ·intro _ w3 k230 _
   have m231 := m42.extk k230
   rintro _ _ _ _ _ _ _ _ _ _ _ _ _ _ _ _ _ _ _ _ _ _
   show WL _ _ _ _ _ _ _
   refine pu (vp g31 12) wN ?_
   exact f1
  ·intro _ w3 k232 _
   have m233 := m42.extk k232
   rintro _ _ _ _ _ _ _ _ _ _ _ _ rfl _ _ _ _ _ _ _ _ _ _
   show WL _ _ _ _ _ _ _
   have b234 := ((b35.kp k40).kp k232)
   refine ld (vb x_c.HasOld) wN isAgg_4 b234 ?_
   exact f1
  ·intro _ w3 k235 _
   have m236 := m42.extk k235
   rintro _ _ _ ⟨a237, rfl, o239⟩ _ rfl _ rfl _ ⟨a243, c244, rfl, o245, s246, -⟩ _ rfl _ rfl _ ⟨a249, c250, a254, c255, rfl, o251, s252, o256, s257, ap259, hx260⟩ _ rfl _ rfl _ rfl _ rfl _ _ _ _ _ _ _ _ _
   show WL _ _ _ _ _ _ _
   refine cl wN (C_spec_l14Ep w3 _ x_c.Old (mR_36 (r18.from0 m236) s19 (r23.from0 m236) s24) x_c.HasOld) ?_
   rintro _ w4 ⟨k263, ⟨a264, c265, a269, c270, rfl, o266, s267, o271, s272, ap274⟩⟩
   have m275 := m236.extk k263
   exact wl_finT k263 ⟨_, _, _, _, rfl, (own_lo o266 k235.size), s267, (own_lo o271 k235.size), s272, ap274, ⟨(Ap.lt o245 o266 (Nat.le_refl _)), (Ap.lt o245 o271 (Nat.le_refl _)), (Ap.lt o251 o266 (Nat.le_refl _)), (Ap.lt o251 o271 (Nat.le_refl _)), (Ap.lt o256 o266 (Nat.le_refl _)), (Ap.lt o256 o271 (Nat.le_refl _))⟩⟩
  ·intro _ w3 k276 _
   have m277 := m42.extk k276
   rintro _ _ _ _ _ _ _ _ _ _ _ _ _ _ _ _ _ _ _ _ _ _
   show WL _ _ _ _ _ _ _
   refine pu (vp g31 12) wN ?_
   exact f1
  ·intro _ w3 k278 _
   have m279 := m42.extk k278
   rintro _ _ _ _ _ _ _ _ _ _ _ _ _ _ _ rfl _ _ _ _ _ _ _
   show WL _ _ _ _ _ _ _
   have b280 := ((b35.kp k40).kp k278)
   refine ld (vb x_c.HasOld) wN isAgg_4 b280 ?_
   exact f1
  ·intro _ w3 k281 _
   have m282 := m42.extk k281
   rintro _ _ _ _ _ _ _ _ _ _ _ _ _ _ _ _ _ _ _ _ _ _
   show WL _ _ _ _ _ _ _
   refine pu (vp g31 13) wN ?_
   exact f1
  ·intro _ w3 k283 _
   have m284 := m42.extk k283
   rintro _ _ _ _ _ _ _ _ _ _ _ _ _ _ _ _ _ rfl _ _ _ _ _
   show WL _ _ _ _ _ _ _
   have b285 := ((b35.kp k40).kp k283)
   refine ld (vi x_c.Until) wN isAgg_3 b285 ?_
   exact f1
  ·intro _ w3 k286 _
   have m287 := m42.extk k286
   rintro _ _ _ _ _ _ _ _ _ _ _ _ _ _ _ _ _ _ _ _ _ _
   show WL _ _ _ _ _ _ _
   refine wl_lit0 wN rfl rfl slTy_22 (fun w => by kernel_rfl) ?_
   intro a288 w4 k289 o290
   have m291 := m287.extk k289
   exact wl_finT k289 ⟨_, rfl, own_lo o290 k286.size⟩
  ·intro _ w3 k293 _
   have m294 := m42.extk k293
   rintro _ _ _ _ _ _ _ _ _ _ _ _ _ _ _ _ _ _ _ _ _ _
   show WL _ _ _ _ _ _ _
   refine pu (vp g31 14) wN ?_
   exact f1
  ·intro _ w3 k295 _
   have m296 := m42.extk k295
   rintro _ _ _ _ _ _ _ _ _ _ _ _ _ _ _ _ _ _ _ _ rfl _ _
   show WL _ _ _ _ _ _ _
   have b297 := ((b35.kp k40).kp k295)
   refine ld (vs a26 x_c.Next.length c27) wN isAgg_22 b297 ?_
   exact f1
  ·intro _ w3 k298 _
   have m299 := m42.extk k298
   rintro _ _ _ ⟨a300, rfl, o302⟩ _ rfl _ rfl _ ⟨a306, c307, rfl, o308, s309, -⟩ _ rfl _ rfl _ ⟨a312, c313, a317, c318, rfl, o314, s315, o319, s320, ap322, hx323⟩ _ rfl _ rfl _ rfl _ rfl _ ⟨a326, c327, a331, c332, rfl, o328, s329, o333, s334, ap336, hx337⟩ _ _ _ _ _ ⟨a338, rfl, o340⟩ _ rfl _ rfl _
   show WL _ _ _ _ _ _ _
   refine wl_append0 wN rfl rfl rfl slTy_22 rfl rfl o340 (r28.from0 m299) (all_bV _) (by first | (simp only [List.length_append, List.length_cons, List.length_nil, List.length_replicate, List.length_take, List.length_drop]; omega) | omega) (by simp only [maxLen]; first | (simp only [List.length_append, List.length_cons, List.length_nil, List.length_replicate, List.length_take, List.length_drop]; omega) | omega) k298.size ?_
   intro u344 w4 k345 o346 j347
   obtain ⟨a348, c349, rfl⟩ := own_form o346
   have n350 : New w3 a348 c349 := j347 _ _ rfl
   have m351 := m299.extk k345
   exact wl_finT k345 ⟨_, _, rfl, o346, s29, ⟨trivial, trivial⟩, ⟨(Ap.new o308 n350 (Nat.le_refl _)), (Ap.new o314 n350 (Nat.le_refl _)), (Ap.new o319 n350 (Nat.le_refl _)), (Ap.new o328 n350 (Nat.le_refl _)), (Ap.new o333 n350 (Nat.le_refl _))⟩⟩
 ·intro _ w3 k353
  have m354 := m42.extk k353
  rintro _ rfl _ rfl _ ⟨a356, rfl, o358⟩ _ rfl _ rfl _ ⟨a362, c363, rfl, o364, s365, -⟩ _ rfl _ rfl _ ⟨a368, c369, a373, c374, rfl, o370, s371, o375, s376, ap378, hx379⟩ _ rfl _ rfl _ rfl _ rfl _ ⟨a382, c383, a387, c388, rfl, o384, s385, o389, s390, ap392, hx393⟩ _ rfl _ rfl _ rfl _ rfl _ ⟨a396, rfl, o398⟩ _ rfl _ rfl _ ⟨a402, c403, rfl, o404, s405, -, hx407⟩
  show WL _ _ _ _ _ _ _
  refine pu (va [(vi x_c.Role), (vs a362 x_c.Sn.length c363), (vi ((F_spec_l9Copy x_c.Cur).N)), (vs a368 ((F_spec_l9Copy x_c.Cur).Key).length c369), (vi ((F_spec_l9Copy x_c.Cur).Seq)), (vi (((F_spec_l9Copy x_c.Cur).Win).Top)), (vs a373 (((F_spec_l9Copy x_c.Cur).Win).Bits).length c374), (vi ((F_spec_l14Ep x_c.Old x_c.HasOld).N)), (vs a382 ((F_spec_l14Ep x_c.Old x_c.HasOld).Key).length c383), (vi ((F_spec_l14Ep x_c.Old x_c.HasOld).Seq)), (vi (((F_spec_l14Ep x_c.Old x_c.HasOld).Win).Top)), (vs a387 (((F_spec_l14Ep x_c.Old x_c.HasOld).Win).Bits).length c388), (vb x_c.HasOld), (vi x_c.Until), (vs a402 x_c.Next.length c403)]) wN ?_
  have b408 := (b41.kp k353)
  refine st (va [(vi x_c.Role), (vs a362 x_c.Sn.length c363), (vi ((F_spec_l9Copy x_c.Cur).N)), (vs a368 ((F_spec_l9Copy x_c.Cur).Key).length c369), (vi ((F_spec_l9Copy x_c.Cur).Seq)), (vi (((F_spec_l9Copy x_c.Cur).Win).Top)), (vs a373 (((F_spec_l9Copy x_c.Cur).Win).Bits).length c374), (vi ((F_spec_l14Ep x_c.Old x_c.HasOld).N)), (vs a382 ((F_spec_l14Ep x_c.Old x_c.HasOld).Key).length c383), (vi ((F_spec_l14Ep x_c.Old x_c.HasOld).Seq)), (vi (((F_spec_l14Ep x_c.Old x_c.HasOld).Win).Top)), (vs a387 (((F_spec_l14Ep x_c.Old x_c.HasOld).Win).Bits).length c388), (vb x_c.HasOld), (vi x_c.Until), (vs a402 x_c.Next.length c403)]) [(vi x_c.Role), (vs a362 x_c.Sn.length c363), (vi ((F_spec_l9Copy x_c.Cur).N)), (vs a368 ((F_spec_l9Copy x_c.Cur).Key).length c369), (vi ((F_spec_l9Copy x_c.Cur).Seq)), (vi (((F_spec_l9Copy x_c.Cur).Win).Top)), (vs a373 (((F_spec_l9Copy x_c.Cur).Win).Bits).length c374), (vi ((F_spec_l14Ep x_c.Old x_c.HasOld).N)), (vs a382 ((F_spec_l14Ep x_c.Old x_c.HasOld).Key).length c383), (vi ((F_spec_l14Ep x_c.Old x_c.HasOld).Seq)), (vi (((F_spec_l14Ep x_c.Old x_c.HasOld).Win).Top)), (vs a387 (((F_spec_l14Ep x_c.Old x_c.HasOld).Win).Bits).length c388), (vb x_c.HasOld), (vi x_c.Until), (vs a402 x_c.Next.length c403)] [(vi x_c.Role), (vs a362 x_c.Sn.length c363), (vi ((F_spec_l9Copy x_c.Cur).N)), (vs a368 ((F_spec_l9Copy x_c.Cur).Key).length c369), (vi ((F_spec_l9Copy x_c.Cur).Seq)), (vi (((F_spec_l9Copy x_c.Cur).Win).Top)), (vs a373 (((F_spec_l9Copy x_c.Cur).Win).Bits).length c374), (vi ((F_spec_l14Ep x_c.Old x_c.HasOld).N)), (vs a382 ((F_spec_l14Ep x_c.Old x_c.HasOld).Key).length c383), (vi ((F_spec_l14Ep x_c.Old x_c.HasOld).Seq)), (vi (((F_spec_l14Ep x_c.Old x_c.HasOld).Win).Top)), (vs a387 (((F_spec_l14Ep x_c.Old x_c.HasOld).Win).Bits).length c388), (vb x_c.HasOld), (vi x_c.Until), (vs a402 x_c.Next.length c403)] wN sizeOf_38 b408 ?_
  intro w4 k409 b410 z411
  have m412 := m354.ext k409 (fun k hk => by subst hk; exact Nat.le_trans k34.size p38)
  refine n3 ?_
  have o413 := (own_ch o364 k409 (ne1 o364 (p39)))
  have o414 := (own_ch o370 k409 (ne1 o370 (p39)))
  have o415 := (own_ch o375 k409 (ne1 o375 (p39)))
  have o416 := (own_ch o384 k409 (ne1 o384 (p39)))
  have o417 := (own_ch o389 k409 (ne1 o389 (p39)))
  have o418 := (own_ch o404 k409 (ne1 o404 (p39)))
  refine ret_1 (.inl rfl) (va [(vi x_c.Role), (vs a362 x_c.Sn.length c363), (vi ((F_spec_l9Copy x_c.Cur).N)), (vs a368 ((F_spec_l9Copy x_c.Cur).Key).length c369), (vi ((F_spec_l9Copy x_c.Cur).Seq)), (vi (((F_spec_l9Copy x_c.Cur).Win).Top)), (vs a373 (((F_spec_l9Copy x_c.Cur).Win).Bits).length c374), (vi ((F_spec_l14Ep x_c.Old x_c.HasOld).N)), (vs a382 ((F_spec_l14Ep x_c.Old x_c.HasOld).Key).length c383), (vi ((F_spec_l14Ep x_c.Old x_c.HasOld).Seq)), (vi (((F_spec_l14Ep x_c.Old x_c.HasOld).Win).Top)), (vs a387 (((F_spec_l14Ep x_c.Old x_c.HasOld).Win).Bits).length c388), (vb x_c.HasOld), (vi x_c.Until), (vs a402 x_c.Next.length c403)]) rfl (rv_c [(vi x_c.Role), (vs a362 x_c.Sn.length c363), (vi ((F_spec_l9Copy x_c.Cur).N)), (vs a368 ((F_spec_l9Copy x_c.Cur).Key).length c369), (vi ((F_spec_l9Copy x_c.Cur).Seq)), (vi (((F_spec_l9Copy x_c.Cur).Win).Top)), (vs a373 (((F_spec_l9Copy x_c.Cur).Win).Bits).length c374), (vi ((F_spec_l14Ep x_c.Old x_c.HasOld).N)), (vs a382 ((F_spec_l14Ep x_c.Old x_c.HasOld).Key).length c383), (vi ((F_spec_l14Ep x_c.Old x_c.HasOld).Seq)), (vi (((F_spec_l14Ep x_c.Old x_c.HasOld).Win).Top)), (vs a387 (((F_spec_l14Ep x_c.Old x_c.HasOld).Win).Bits).length c388), (vb x_c.HasOld), (vi x_c.Until), (vs a402 x_c.Next.length c403)] rfl b410 isAgg_38 sizeOf_38) ?_
  refine ⟨m412.keep0, ?_⟩
  have hF419 : F_spec_l14Copy x_c = { Role := x_c.Role, Sn := x_c.Sn, Cur := (F_spec_l9Copy x_c.Cur), Old := (F_spec_l14Ep x_c.Old x_c.HasOld), HasOld := x_c.HasOld, Until := x_c.Until, Next := x_c.Next : PChan } := by rfl
  rw [hF419]
  exact ⟨_, _, _, _, _, _, _, _, _, _, _, _, rfl, (own_lo o413 (z2 k34 k40)), s365, (own_lo o414 (z2 k34 k40)), s371, (own_lo o415 (z2 k34 k40)), s376, (own_lo o416 (z2 k34 k40)), s385, (own_lo o417 (z2 k34 k40)), s390, (own_lo o418 (z2 k34 k40)), s405, ⟨⟨(hx379.1), ⟨(hx379.2), ⟨(hx393.1), ⟨(hx393.2.1), ⟨(hx407.1), trivial⟩⟩⟩⟩⟩, ⟨⟨(ap378.1.1), ⟨(hx393.2.2.1), ⟨(hx393.2.2.2.1), ⟨(hx407.2.1), trivial⟩⟩⟩⟩, ⟨⟨(hx393.2.2.2.2.1), ⟨(hx393.2.2.2.2.2), ⟨(hx407.2.2.1), trivial⟩⟩⟩, ⟨⟨(ap392.1.1), ⟨(hx407.2.2.2.1), trivial⟩⟩, ⟨⟨(hx407.2.2.2.2), trivial⟩, ⟨trivial, trivial⟩⟩⟩⟩⟩⟩⟩

def F_spec_l8Bit (x_w : PWin) (x_n : Int) : (Bool) := decide ((((x_w.Bits.getD (((x_n % 1024) / 32)).toNat 0) / (2 : Int) ^ (((x_n % 1024) % 32)).toNat) % 2) = 1)
theorem C_spec_l8Bit (w0 : World) (v_x_w : Value) (x_w : PWin) (r_x_w : R_34 w0 v_x_w x_w) (x_n : Int) (pre0 : x_w.Bits.length = 32) (pre1 : 0 ≤ x_n) : Fn Try.prog 151 #[v_x_w, (vi x_n)] w0 (fun v w' => Keep w0 w' ∧ O_4 w' w0.heap.size v (F_spec_l8Bit x_w x_n)) := by
 obtain ⟨a1, c2, rfl, r3, s4⟩ := r_x_w
 refine fn_of (n := 19) (l := [(va (L_34 x_w a1 c2)), (vi x_n), U, U, U, U, U, U, U, U, U, U, U, U, U, U, U, U, U]) Try.func151 rfl rfl (by kernel_rfl) rfl ?_
 refine sr ?_
 refine bx (L_34 x_w a1 c2) wN ?_
 intro g6 w1 p7 p8 k9 b10
 have m11 := (Ch.base w0).extk k9
 refine aw (vb false) ?_
 refine nx ?_
 refine mw (vi x_n) ?_
 refine wl_rem x_n 1024 wN rfl rfl (by kernel_rfl) (by first | omega | assumption) ?_
 refine aw (vi (x_n % 1024)) ?_
 refine nx ?_
 refine pu (vp g6 1) wN ?_
 refine ld (vs a1 x_w.Bits.length c2) wN isAgg_32 b10 ?_
 refine mw (vi (x_n % 1024)) ?_
 refine wl_quo (x_n % 1024) 32 wN rfl rfl (by kernel_rfl) (by omega) (by omega) (by omega) ?_
 refine wl_index (v := (vs a1 x_w.Bits.length c2)) wN ((x_n % 1024) / 32) rfl rfl rfl slTy_32 rfl rfl (r3.from0 m11) (by first | omega | (simp only [List.length_cons, List.length_nil, List.length_replicate, List.length_append, List.length_take, List.length_set, List.length_map]; omega)) (by first | omega | (simp only [List.length_cons, List.length_nil, List.length_replicate, List.length_append, List.length_take, List.length_set, List.length_map]; omega)) ?_
 refine wl_loadE (iV (x_w.Bits.getD (((x_n % 1024) / 32)).toNat 0)) wN rfl rfl rfl rfl isAgg_3 (r3.from0 m11) (iget (by simp) (by first | omega | (simp only [List.length_cons, List.length_nil, List.length_replicate, List.length_append, List.length_take, List.length_set, List.length_map]; omega))) ?_
 refine mw (vi (x_n % 1024)) ?_
 refine wl_rem (x_n % 1024) 32 wN rfl rfl (by kernel_rfl) (by first | omega | assumption) ?_
 refine wl_shr (x_w.Bits.getD (((x_n % 1024) / 32)).toNat 0) ((x_n % 1024) % 32) wN rfl rfl rfl rfl rfl (by omega) (by omega) ?_
 refine wl_and ((x_w.Bits.getD (((x_n % 1024) / 32)).toNat 0) / (2 : Int) ^ (((x_n % 1024) % 32)).toNat) 1 2 1 wN rfl rfl (by decide) (by decide) (by decide) (by kernel_rfl) ?_
 refine pu (vb (decide ((((x_w.Bits.getD (((x_n % 1024) / 32)).toNat 0) / (2 : Int) ^ (((x_n % 1024) % 32)).toNat) % 2) = 1))) wN ?_
 refine aw (vb (decide ((((x_w.Bits.getD (((x_n % 1024) / 32)).toNat 0) / (2 : Int) ^ (((x_n % 1024) % 32)).toNat) % 2) = 1))) ?_
 refine n3 ?_
 refine rt (vb (decide ((((x_w.Bits.getD (((x_n % 1024) / 32)).toNat 0) / (2 : Int) ^ (((x_n % 1024) % 32)).toNat) % 2) = 1))) ?_
 refine ⟨m11.keep0, ?_⟩
 have hF12 : F_spec_l8Bit x_w x_n = decide ((((x_w.Bits.getD (((x_n % 1024) / 32)).toNat 0) / (2 : Int) ^ (((x_n % 1024) % 32)).toNat) % 2) = 1) := by rfl
 rw [hF12]
 exact rfl

def sWin (w : PWin) : Bool := bif (decide ((w.Bits.length : Int) = 32)) then (bif F_spec_l1In w.Top (-1) 281474976710655 then (bif allW w.Bits then (bif decide (0 ≤ w.Top) && !(F_spec_l8Bit w w.Top) then false else noneIn (F_spec_l8Bit w) (w.Top + 1) 1024) else false) else false) else false
theorem C_spec_WinOk (w0 : World) (v_x_w : Value) (x_w : PWin) (r_x_w : R_34 w0 v_x_w x_w)  : Fn Try.prog 134 #[v_x_w] w0 (fun v w' => Keep w0 w' ∧ O_4 w' w0.heap.size v (sWin x_w)) := by
 obtain ⟨a1, c2, rfl, r3, s4⟩ := r_x_w
 refine fn_of (n := 46) (l := [(va (L_34 x_w a1 c2)), U, U, U, U, U, U, U, U, U, U, U, U, U, U, U, U, U, U, U, U, U, U, U, U, U, U, U, U, U, U, U, U, U, U, U, U, U, U, U, U, U, U, U, U, U]) Try.func134 rfl rfl (by kernel_rfl) rfl ?_
 refine sr ?_
 refine bx (L_34 x_w a1 c2) wN ?_
 intro g6 w1 p7 p8 k9 b10
 have m11 := (Ch.base w0).extk k9
 refine aw (vb false) ?_
 refine n4 ?_
 refine pu (vp g6 1) wN ?_
 refine ld (vs a1 x_w.Bits.length c2) wN isAgg_32 b10 ?_
 refine ln wN slTy_32 (r3.from0 m11) ?_
 refine pu (vb (!(decide ((x_w.Bits.length : Int) = 32)))) wN ?_
 refine mw (vb (!(decide ((x_w.Bits.length : Int) = 32)))) ?_
 rcases bf (decide ((x_w.Bits.length : Int) = 32)) with h12 | h12
 ·have q80 := of_decide_eq_false h12
  refine sk (congrArg not h12) ?_
  refine sk (congrArg not h12) ?_
  refine sk (congrArg not h12) ?_
  refine sk (congrArg not h12) ?_
  refine pk (vb true) wN (congrArg not h12) ?_
  refine n2 ?_
  refine ct (Eq.refl true) ?_
  refine sr ?_
  refine aw (vb false) ?_
  refine n1 ?_
  refine rt (vb false) ?_
  refine ⟨m11.keep0, ?_⟩
  have hF81 : sWin x_w = false := by first | (simp [sWin, h12]; done) | (have hz := allW_no (x := x_w.Bits) (k := i) (by omega) (by assumption); simp [sWin, h12, hz]; done) | (have hy := allW_all (x := x_w.Bits) (k := i) (by assumption) (by omega); simp [sWin, h12, hy]; done) | (have hy := allW_all (x := x_w.Bits) (k := i) (by assumption) (by omega); have hz := noneIn_f (f := F_spec_l8Bit x_w) (a := x_w.Top + 1) (b := 1024) (q := q) (by assumption) (by omega) (by omega); simp [sWin, h12, hy, hz]; done) | (have hy := allW_all (x := x_w.Bits) (k := i) (by assumption) (by omega); have hz := noneIn_t (f := F_spec_l8Bit x_w) (a := x_w.Top + 1) (b := 1024) (q := q) (by assumption) (by omega); simp [sWin, h12, hy, hz]; done)
  rw [hF81]
  exact rfl
 have q13 := of_decide_eq_true h12
 refine pu (vp g6 0) (wS (congrArg not h12)) ?_
 refine ld (vi x_w.Top) (wS (congrArg not h12)) isAgg_3 b10 ?_
 refine cl (wS (congrArg not h12)) (C_spec_l1In w1 x_w.Top (-1) 281474976710655) ?_
 rintro _ w2 ⟨k14, rfl⟩
 have m15 := m11.extk k14
 refine pu (vb (!(F_spec_l1In x_w.Top (-1) 281474976710655))) (wS (congrArg not h12)) ?_
 refine pf (vb (!(F_spec_l1In x_w.Top (-1) 281474976710655))) wN (congrArg not h12) ?_
 refine n2 ?_
 rcases bf (F_spec_l1In x_w.Top (-1) 281474976710655) with h16 | h16
 ·have q78 := spec_l1In_f h16
  refine ct (congrArg not h16) ?_
  refine sr ?_
  refine aw (vb false) ?_
  refine n1 ?_
  refine rt (vb false) ?_
  refine ⟨m15.keep0, ?_⟩
  have hF79 : sWin x_w = false := by first | (simp [sWin, h12, h16]; done) | (have hz := allW_no (x := x_w.Bits) (k := i) (by omega) (by assumption); simp [sWin, h12, h16, hz]; done) | (have hy := allW_all (x := x_w.Bits) (k := i) (by assumption) (by omega); simp [sWin, h12, h16, hy]; done) | (have hy := allW_all (x := x_w.Bits) (k := i) (by assumption) (by omega); have hz := noneIn_f (f := F_spec_l8Bit x_w) (a := x_w.Top + 1) (b := 1024) (q := q) (by assumption) (by omega) (by omega); simp [sWin, h12, h16, hy, hz]; done) | (have hy := allW_all (x := x_w.Bits) (k := i) (by assumption) (by omega); have hz := noneIn_t (f := F_spec_l8Bit x_w) (a := x_w.Top + 1) (b := 1024) (q := q) (by assumption) (by omega); simp [sWin, h12, h16, hy, hz]; done)
  rw [hF79]
  exact rfl
 have q17 := spec_l1In_t h16
 refine cf (congrArg not h16) ?_
 refine y2 ?_
 refine aw (vi 0) ?_
 refine wl_nil <| wq_then <| wc_block ?_
 refine wc_loopQ (fun e => [e 0, (vp g6 0), e 2, (vi ((0 : Nat) : Int)), U, e 5, e 6, e 7, e 8, e 9, e 10, e 11, e 12, e 13, e 14, e 15, e 16, e 17, e 18, e 19, e 20, e 21, e 22, e 23, e 24, e 25, U, U, U, U, U, U, U, U, U, U, U, U, U, U, U, U, U, U, U, U]) rfl ⟨rfl, rfl, rfl, (congrArg (Value.int .i64) (show (0 : Int) = ((0 : Nat) : Int) by omega)), rfl, rfl, rfl, rfl, rfl, rfl, rfl, rfl, rfl, rfl, rfl, rfl, rfl, rfl, rfl, rfl, rfl, rfl, rfl, rfl, rfl, rfl, rfl, rfl, rfl, rfl, rfl, rfl, rfl, rfl, rfl, rfl, rfl, rfl, rfl, rfl, rfl, rfl, rfl, rfl, rfl, rfl, trivial⟩ (fun e' w' => ∃ (i : Nat) (u18 : Nat → Value), e' = lst [(u18 0), (vp g6 0), (u18 1), (vi ((i : Nat) : Int)), U, (u18 2), (u18 3), (u18 4), (u18 5), (u18 6), (u18 7), (u18 8), (u18 9), (u18 10), (u18 11), (u18 12), (u18 13), (u18 14), (u18 15), (u18 16), (u18 17), (u18 18), (u18 19), (u18 20), (u18 21), (u18 22), U, U, U, U, U, U, U, U, U, U, U, U, U, U, U, U, U, U, U, U] ∧ Ch (fun k => w0.heap.size ≤ k) w0 w' ∧ Ch (fun k => w2.heap.size ≤ k) w2 w' ∧ i ≤ 32 ∧ allW (x_w.Bits.take i) = true) (fun e' _ => (32 - (intOf (e' 3))).toNat) ?_ ?_
 ·exact fun u => ⟨0, (unL [u 0, u 2, u 5, u 6, u 7, u 8, u 9, u 10, u 11, u 12, u 13, u 14, u 15, u 16, u 17, u 18, u 19, u 20, u 21, u 22, u 23, u 24, u 25]), rfl, m15, (Ch.refl (fun k => w2.heap.size ≤ k) w2), (by omega), (by first | rfl | exact allW_next (by assumption) (by omega) (by assumption))⟩
 ·rintro _ w3 ⟨i, u18, rfl, m19, k20, i21, i22⟩
  refine wc_seq <| sr ?_
  refine mw (vi ((i : Nat) : Int)) ?_
  refine pu (vb (decide (((i : Nat) : Int) < 32))) wN ?_
  refine n2 ?_
  rcases bt (decide (((i : Nat) : Int) < 32)) with h23 | h23
  ·have q24 := of_decide_eq_true h23
   refine ct h23 ?_
   refine wc_skip <| wq_then <| wc_seq <| wc_block <| sr ?_
   refine pu (vp g6 1) wN ?_
   have b25 := ((b10.kp k14).ch k20 (Nat.not_le.2 (Nat.lt_of_lt_of_le p8 k14.size)))
   refine ld (vs a1 x_w.Bits.length c2) wN isAgg_32 b25 ?_
   refine mw (vi ((i : Nat) : Int)) ?_
   refine wl_index (v := (vs a1 x_w.Bits.length c2)) wN ((i : Nat) : Int) rfl rfl rfl slTy_32 rfl rfl (r3.from0 m19) (by first | omega | (simp only [List.length_cons, List.length_nil, List.length_replicate, List.length_append, List.length_take, List.length_set, List.length_map]; omega)) (by first | omega | (simp only [List.length_cons, List.length_nil, List.length_replicate, List.length_append, List.length_take, List.length_set, List.length_map]; omega)) ?_
   refine wl_loadE (iV (x_w.Bits.getD i 0)) wN rfl rfl rfl rfl isAgg_3 (r3.from0 m19) (iget (by simp) (by first | omega | (simp only [List.length_cons, List.length_nil, List.length_replicate, List.length_append, List.length_take, List.length_set, List.length_map]; omega))) ?_
   refine cl wN (C_spec_l1In w3 (x_w.Bits.getD i 0) 0 4294967295) ?_
   rintro _ w4 ⟨k26, rfl⟩
   have m27 := m19.extk k26
   refine pu (vb (!(F_spec_l1In (x_w.Bits.getD i 0) 0 4294967295))) wN ?_
   refine n2 ?_
   rcases bf (F_spec_l1In (x_w.Bits.getD i 0) 0 4294967295) with h28 | h28
   ·have q30 := spec_l1In_f h28
    refine ct (congrArg not h28) ?_
    refine sr ?_
    refine aw (vb false) ?_
    refine wl_nil <| wq_then <| wc_ret <| wq_blk_ret <| wq_then_ret <| wq_then_ret <| wq_blk_ret <| wq_then_ret ?_
    refine rt (vb false) ?_
    refine ⟨m27.keep0, ?_⟩
    have hF31 : sWin x_w = false := by first | (simp [sWin, h12, h16, h23, h28]; done) | (have hz := allW_no (x := x_w.Bits) (k := i) (by omega) (by assumption); simp [sWin, h12, h16, h23, h28, hz]; done) | (have hy := allW_all (x := x_w.Bits) (k := i) (by assumption) (by omega); simp [sWin, h12, h16, h23, h28, hy]; done) | (have hy := allW_all (x := x_w.Bits) (k := i) (by assumption) (by omega); have hz := noneIn_f (f := F_spec_l8Bit x_w) (a := x_w.Top + 1) (b := 1024) (q := q) (by assumption) (by omega) (by omega); simp [sWin, h12, h16, h23, h28, hy, hz]; done) | (have hy := allW_all (x := x_w.Bits) (k := i) (by assumption) (by omega); have hz := noneIn_t (f := F_spec_l8Bit x_w) (a := x_w.Top + 1) (b := 1024) (q := q) (by assumption) (by omega); simp [sWin, h12, h16, h23, h28, hy, hz]; done)
    rw [hF31]
    exact rfl
   have q29 := spec_l1In_t h28
   refine cf (congrArg not h28) ?_
   refine wc_skip <| wq_blk_normal <| wq_then <| wc_region ?_
   refine mw (vi ((i : Nat) : Int)) ?_
   refine ar (((i : Nat) : Int) + 1) wN ?_
   refine aw (vi (((i : Nat) : Int) + 1)) ?_
   refine wl_nil ?_
   refine wq_loopQ (w0 := w3) (fun e => [e 0, (vp g6 0), e 2, (vi (((i + 1) : Nat) : Int)), U, e 5, e 6, e 7, e 8, e 9, e 10, e 11, e 12, e 13, e 14, e 15, e 16, e 17, e 18, e 19, e 20, e 21, e 22, e 23, e 24, e 25, U, U, U, U, U, U, U, U, U, U, U, U, U, U, U, U, U, U, U, U]) rfl ?_ ?_ ?_
   · exact ⟨rfl, rfl, rfl, (congrArg (Value.int .i64) (show ((((i : Nat) : Int) + 1) : Int) = (((i + 1) : Nat) : Int) by omega)), rfl, rfl, rfl, rfl, rfl, rfl, rfl, rfl, rfl, rfl, rfl, rfl, rfl, rfl, rfl, rfl, rfl, rfl, rfl, rfl, rfl, rfl, rfl, rfl, rfl, rfl, rfl, rfl, rfl, rfl, rfl, rfl, rfl, rfl, rfl, rfl, rfl, rfl, rfl, rfl, rfl, rfl, trivial⟩
   · exact fun u => ⟨(i + 1), (unL [u 0, u 2, u 5, u 6, u 7, u 8, u 9, u 10, u 11, u 12, u 13, u 14, u 15, u 16, u 17, u 18, u 19, u 20, u 21, u 22, u 23, u 24, u 25]), rfl, m27, (((Ch.refl (fun k => w2.heap.size ≤ k) w2).ext k20 (fun k hk => hk)).extk k26), (by omega), (by first | rfl | exact allW_next (by assumption) (by omega) (by assumption))⟩
   · show (32 - (((i + 1) : Nat) : Int)).toNat < (32 - ((i : Nat) : Int)).toNat; omega
  have q32 := of_decide_eq_false h23
  refine cf h23 ?_
  refine wc_exit <| wq_then_exit <| wq_then_exit <| wq_blk_exit <| wq_then <| wc_seq <| sr ?_
  refine pu (vp g6 0) wN ?_
  have b33 := ((b10.kp k14).ch k20 (Nat.not_le.2 (Nat.lt_of_lt_of_le p8 k14.size)))
  refine ld (vi x_w.Top) wN isAgg_3 b33 ?_
  refine pu (vb (decide (0 ≤ x_w.Top))) wN ?_
  refine mw (vb (decide (0 ≤ x_w.Top))) ?_
  rcases bf (decide (0 ≤ x_w.Top)) with h34 | h34
  ·have q60 := of_decide_eq_false h34
   refine sk h34 ?_
   refine sk h34 ?_
   refine sk h34 ?_
   refine sk h34 ?_
   refine sk h34 ?_
   refine pf (vb false) wN h34 ?_
   refine n2 ?_
   refine cf (Eq.refl false) ?_
   refine y2 ?_
   refine pu (vp g6 0) wN ?_
   refine ld (vi x_w.Top) wN isAgg_3 b33 ?_
   refine ar (x_w.Top + 1) wN ?_
   refine aw (vi (x_w.Top + 1)) ?_
   refine wl_nil <| wq_then <| wc_block ?_
   refine wc_loopQ (fun e => [e 0, (vp g6 0), e 2, e 3, (vi (x_w.Top + 1)), e 5, e 6, e 7, e 8, e 9, e 10, e 11, e 12, e 13, e 14, e 15, e 16, e 17, e 18, e 19, e 20, e 21, e 22, e 23, e 24, e 25, e 26, e 27, e 28, e 29, e 30, e 31, e 32, e 33, e 34, e 35, e 36, e 37, e 38, e 39, e 40, e 41, e 42, e 43, e 44, e 45]) rfl ⟨rfl, rfl, rfl, rfl, rfl, rfl, rfl, rfl, rfl, rfl, rfl, rfl, rfl, rfl, rfl, rfl, rfl, rfl, rfl, rfl, rfl, rfl, rfl, rfl, rfl, rfl, rfl, rfl, rfl, rfl, rfl, rfl, rfl, rfl, rfl, rfl, rfl, rfl, rfl, rfl, rfl, rfl, rfl, rfl, rfl, rfl, trivial⟩ (fun e' w' => ∃ (q : Int) (u61 : Nat → Value), e' = lst [(u61 0), (vp g6 0), (u61 1), (u61 2), (vi q), (u61 3), (u61 4), (u61 5), (u61 6), (u61 7), (u61 8), (u61 9), (u61 10), (u61 11), (u61 12), (u61 13), (u61 14), (u61 15), (u61 16), (u61 17), (u61 18), (u61 19), (u61 20), (u61 21), (u61 22), (u61 23), (u61 24), (u61 25), (u61 26), (u61 27), (u61 28), (u61 29), (u61 30), (u61 31), (u61 32), (u61 33), (u61 34), (u61 35), (u61 36), (u61 37), (u61 38), (u61 39), (u61 40), (u61 41), (u61 42), (u61 43)] ∧ Ch (fun k => w0.heap.size ≤ k) w0 w' ∧ Ch (fun k => w3.heap.size ≤ k) w3 w' ∧ x_w.Top + 1 ≤ q ∧ q ≤ 281474976710656 ∧ ∀ m : Int, x_w.Top + 1 ≤ m → m < q → F_spec_l8Bit x_w m = false) (fun e' _ => (1024 - (intOf (e' 4))).toNat) ?_ ?_
   ·exact fun u => ⟨(x_w.Top + 1), (unL [u 0, u 2, u 3, u 5, u 6, u 7, u 8, u 9, u 10, u 11, u 12, u 13, u 14, u 15, u 16, u 17, u 18, u 19, u 20, u 21, u 22, u 23, u 24, u 25, u 26, u 27, u 28, u 29, u 30, u 31, u 32, u 33, u 34, u 35, u 36, u 37, u 38, u 39, u 40, u 41, u 42, u 43, u 44, u 45]), rfl, m19, (Ch.refl (fun k => w3.heap.size ≤ k) w3), (by omega), (by omega), (by first | (intro m h1 h2; omega) | exact none_next (by assumption) (by assumption))⟩
   ·rintro _ w4 ⟨q, u61, rfl, m62, k63, i64, i65, i66⟩
    refine wc_seq <| sr ?_
    refine mw (vi q) ?_
    refine pu (vb (decide (q < 1024))) wN ?_
    refine n2 ?_
    rcases bf (decide (q < 1024)) with h67 | h67
    ·have q76 := of_decide_eq_false h67
     refine cf h67 ?_
     refine wc_exit <| wq_then_exit <| wq_then_exit <| wq_blk_exit <| wq_then <| sr ?_
     refine aw (vb true) ?_
     refine n3 ?_
     refine rt (vb true) ?_
     refine ⟨m62.keep0, ?_⟩
     have hF77 : sWin x_w = true := by first | (simp [sWin, h12, h16, h23, h34, h67]; done) | (have hz := allW_no (x := x_w.Bits) (k := i) (by omega) (by assumption); simp [sWin, h12, h16, h23, h34, h67, hz]; done) | (have hy := allW_all (x := x_w.Bits) (k := i) (by assumption) (by omega); simp [sWin, h12, h16, h23, h34, h67, hy]; done) | (have hy := allW_all (x := x_w.Bits) (k := i) (by assumption) (by omega); have hz := noneIn_f (f := F_spec_l8Bit x_w) (a := x_w.Top + 1) (b := 1024) (q := q) (by assumption) (by omega) (by omega); simp [sWin, h12, h16, h23, h34, h67, hy, hz]; done) | (have hy := allW_all (x := x_w.Bits) (k := i) (by assumption) (by omega); have hz := noneIn_t (f := F_spec_l8Bit x_w) (a := x_w.Top + 1) (b := 1024) (q := q) (by assumption) (by omega); simp [sWin, h12, h16, h23, h34, h67, hy, hz]; done)
     rw [hF77]
     exact rfl
    have q68 := of_decide_eq_true h67
    refine ct h67 ?_
    refine wc_skip <| wq_then <| wc_seq <| wc_block <| sr ?_
    have b69 := (b33.ch k63 (Nat.not_le.2 (Nat.lt_of_lt_of_le p8 (z2 k14 k20))))
    refine lN (L_34 x_w a1 c2) wN isAgg_34 sizeOf_34 b69 ?_
    refine mw (vi q) ?_
    refine cl wN (C_spec_l8Bit w4 _ x_w (mR_34 (r3.from0 m62) s4) q (by first | assumption | omega) (by first | assumption | omega)) ?_
    rintro _ w5 ⟨k70, rfl⟩
    have m71 := m62.extk k70
    refine n2 ?_
    rcases bt (F_spec_l8Bit x_w q) with h72 | h72
    ·refine ct h72 ?_
     refine sr ?_
     refine aw (vb false) ?_
     refine wl_nil <| wq_then <| wc_ret <| wq_blk_ret <| wq_then_ret <| wq_then_ret <| wq_blk_ret <| wq_then_ret ?_
     refine rt (vb false) ?_
     refine ⟨m71.keep0, ?_⟩
     have hF74 : sWin x_w = false := by first | (simp [sWin, h12, h16, h23, h34, h67, h72]; done) | (have hz := allW_no (x := x_w.Bits) (k := i) (by omega) (by assumption); simp [sWin, h12, h16, h23, h34, h67, h72, hz]; done) | (have hy := allW_all (x := x_w.Bits) (k := i) (by assumption) (by omega); simp [sWin, h12, h16, h23, h34, h67, h72, hy]; done) | (have hy := allW_all (x := x_w.Bits) (k := i) (by assumption) (by omega); have hz := noneIn_f (f := F_spec_l8Bit x_w) (a := x_w.Top + 1) (b := 1024) (q := q) (by assumption) (by omega) (by omega); simp [sWin, h12, h16, h23, h34, h67, h72, hy, hz]; done) | (have hy := allW_all (x := x_w.Bits) (k := i) (by assumption) (by omega); have hz := noneIn_t (f := F_spec_l8Bit x_w) (a := x_w.Top + 1) (b := 1024) (q := q) (by assumption) (by omega); simp [sWin, h12, h16, h23, h34, h67, h72, hy, hz]; done)
     rw [hF74]
     exact rfl
    refine cf h72 ?_
    refine wc_skip <| wq_blk_normal <| wq_then <| wc_region ?_
    refine mw (vi q) ?_
    refine ar (q + 1) wN ?_
    refine aw (vi (q + 1)) ?_
    refine wl_nil ?_
    refine wq_loopQ (w0 := w4) (fun e => [e 0, (vp g6 0), e 2, e 3, (vi (q + 1)), e 5, e 6, e 7, e 8, e 9, e 10, e 11, e 12, e 13, e 14, e 15, e 16, e 17, e 18, e 19, e 20, e 21, e 22, e 23, e 24, e 25, e 26, e 27, e 28, e 29, e 30, e 31, e 32, e 33, e 34, e 35, e 36, e 37, e 38, e 39, e 40, e 41, e 42, e 43, e 44, e 45]) rfl ?_ ?_ ?_
    · exact ⟨rfl, rfl, rfl, rfl, rfl, rfl, rfl, rfl, rfl, rfl, rfl, rfl, rfl, rfl, rfl, rfl, rfl, rfl, rfl, rfl, rfl, rfl, rfl, rfl, rfl, rfl, rfl, rfl, rfl, rfl, rfl, rfl, rfl, rfl, rfl, rfl, rfl, rfl, rfl, rfl, rfl, rfl, rfl, rfl, rfl, rfl, trivial⟩
    · exact fun u => ⟨(q + 1), (unL [u 0, u 2, u 3, u 5, u 6, u 7, u 8, u 9, u 10, u 11, u 12, u 13, u 14, u 15, u 16, u 17, u 18, u 19, u 20, u 21, u 22, u 23, u 24, u 25, u 26, u 27, u 28, u 29, u 30, u 31, u 32, u 33, u 34, u 35, u 36, u 37, u 38, u 39, u 40, u 41, u 42, u 43, u 44, u 45]), rfl, m71, (((Ch.refl (fun k => w3.heap.size ≤ k) w3).ext k63 (fun k hk => hk)).extk k70), (by omega), (by omega), (by first | (intro m h1 h2; omega) | exact none_next (by assumption) (by assumption))⟩
    · show (1024 - (q + 1)).toNat < (1024 - q).toNat; omega
  have q35 := of_decide_eq_true h34
  refine lN (L_34 x_w a1 c2) (wS h34) isAgg_34 sizeOf_34 b33 ?_
  refine pu (vp g6 0) (wS h34) ?_
  refine ld (vi x_w.Top) (wS h34) isAgg_3 b33 ?_
  refine cl (wS h34) (C_spec_l8Bit w3 _ x_w (mR_34 (r3.from0 m19) s4) x_w.Top (by first | assumption | omega) (by first | assumption | omega)) ?_
  rintro _ w4 ⟨k36, rfl⟩
  have m37 := m19.extk k36
  refine pu (vb (!(F_spec_l8Bit x_w x_w.Top))) (wS h34) ?_
  refine pk (vb (!(F_spec_l8Bit x_w x_w.Top))) wN h34 ?_
  refine n2 ?_
  rcases bf (F_spec_l8Bit x_w x_w.Top) with h38 | h38
  ·refine ct (congrArg not h38) ?_
   refine sr ?_
   refine aw (vb false) ?_
   refine n1 ?_
   refine rt (vb false) ?_
   refine ⟨m37.keep0, ?_⟩
   have hF59 : sWin x_w = false := by first | (simp [sWin, h12, h16, h23, h34, h38]; done) | (have hz := allW_no (x := x_w.Bits) (k := i) (by omega) (by assumption); simp [sWin, h12, h16, h23, h34, h38, hz]; done) | (have hy := allW_all (x := x_w.Bits) (k := i) (by assumption) (by omega); simp [sWin, h12, h16, h23, h34, h38, hy]; done) | (have hy := allW_all (x := x_w.Bits) (k := i) (by assumption) (by omega); have hz := noneIn_f (f := F_spec_l8Bit x_w) (a := x_w.Top + 1) (b := 1024) (q := q) (by assumption) (by omega) (by omega); simp [sWin, h12, h16, h23, h34, h38, hy, hz]; done) | (have hy := allW_all (x := x_w.Bits) (k := i) (by assumption) (by omega); have hz := noneIn_t (f := F_spec_l8Bit x_w) (a := x_w.Top + 1) (b := 1024) (q := q) (by assumption) (by omega); simp [sWin, h12, h16, h23, h34, h38, hy, hz]; done)
   rw [hF59]
   exact rfl
  refine cf (congrArg not h38) ?_
  refine y2 ?_
  refine pu (vp g6 0) wN ?_
  have b40 := (b33.kp k36)
  refine ld (vi x_w.Top) wN isAgg_3 b40 ?_
  refine ar (x_w.Top + 1) wN ?_
  refine aw (vi (x_w.Top + 1)) ?_
  refine wl_nil <| wq_then <| wc_block ?_
  refine wc_loopQ (fun e => [e 0, (vp g6 0), e 2, e 3, (vi (x_w.Top + 1)), e 5, e 6, e 7, e 8, e 9, e 10, e 11, e 12, e 13, e 14, e 15, e 16, e 17, e 18, e 19, e 20, e 21, e 22, e 23, e 24, e 25, e 26, e 27, e 28, e 29, e 30, e 31, e 32, e 33, e 34, e 35, e 36, e 37, e 38, e 39, e 40, e 41, e 42, e 43, e 44, e 45]) rfl ⟨rfl, rfl, rfl, rfl, rfl, rfl, rfl, rfl, rfl, rfl, rfl, rfl, rfl, rfl, rfl, rfl, rfl, rfl, rfl, rfl, rfl, rfl, rfl, rfl, rfl, rfl, rfl, rfl, rfl, rfl, rfl, rfl, rfl, rfl, rfl, rfl, rfl, rfl, rfl, rfl, rfl, rfl, rfl, rfl, rfl, rfl, trivial⟩ (fun e' w' => ∃ (q : Int) (u41 : Nat → Value), e' = lst [(u41 0), (vp g6 0), (u41 1), (u41 2), (vi q), (u41 3), (u41 4), (u41 5), (u41 6), (u41 7), (u41 8), (u41 9), (u41 10), (u41 11), (u41 12), (u41 13), (u41 14), (u41 15), (u41 16), (u41 17), (u41 18), (u41 19), (u41 20), (u41 21), (u41 22), (u41 23), (u41 24), (u41 25), (u41 26), (u41 27), (u41 28), (u41 29), (u41 30), (u41 31), (u41 32), (u41 33), (u41 34), (u41 35), (u41 36), (u41 37), (u41 38), (u41 39), (u41 40), (u41 41), (u41 42), (u41 43)] ∧ Ch (fun k => w0.heap.size ≤ k) w0 w' ∧ Ch (fun k => w4.heap.size ≤ k) w4 w' ∧ x_w.Top + 1 ≤ q ∧ q ≤ 281474976710656 ∧ ∀ m : Int, x_w.Top + 1 ≤ m → m < q → F_spec_l8Bit x_w m = false) (fun e' _ => (1024 - (intOf (e' 4))).toNat) ?_ ?_
  ·exact fun u => ⟨(x_w.Top + 1), (unL [u 0, u 2, u 3, u 5, u 6, u 7, u 8, u 9, u 10, u 11, u 12, u 13, u 14, u 15, u 16, u 17, u 18, u 19, u 20, u 21, u 22, u 23, u 24, u 25, u 26, u 27, u 28, u 29, u 30, u 31, u 32, u 33, u 34, u 35, u 36, u 37, u 38, u 39, u 40, u 41, u 42, u 43, u 44, u 45]), rfl, m37, (Ch.refl (fun k => w4.heap.size ≤ k) w4), (by omega), (by omega), (by first | (intro m h1 h2; omega) | exact none_next (by assumption) (by assumption))⟩
  ·rintro _ w5 ⟨q, u41, rfl, m42, k43, i44, i45, i46⟩
   refine wc_seq <| sr ?_
   refine mw (vi q) ?_
   refine pu (vb (decide (q < 1024))) wN ?_
   refine n2 ?_
   rcases bf (decide (q < 1024)) with h47 | h47
   ·have q56 := of_decide_eq_false h47
    refine cf h47 ?_
    refine wc_exit <| wq_then_exit <| wq_then_exit <| wq_blk_exit <| wq_then <| sr ?_
    refine aw (vb true) ?_
    refine n3 ?_
    refine rt (vb true) ?_
    refine ⟨m42.keep0, ?_⟩
    have hF57 : sWin x_w = true := by first | (simp [sWin, h12, h16, h23, h34, h38, h47]; done) | (have hz := allW_no (x := x_w.Bits) (k := i) (by omega) (by assumption); simp [sWin, h12, h16, h23, h34, h38, h47, hz]; done) | (have hy := allW_all (x := x_w.Bits) (k := i) (by assumption) (by omega); simp [sWin, h12, h16, h23, h34, h38, h47, hy]; done) | (have hy := allW_all (x := x_w.Bits) (k := i) (by assumption) (by omega); have hz := noneIn_f (f := F_spec_l8Bit x_w) (a := x_w.Top + 1) (b := 1024) (q := q) (by assumption) (by omega) (by omega); simp [sWin, h12, h16, h23, h34, h38, h47, hy, hz]; done) | (have hy := allW_all (x := x_w.Bits) (k := i) (by assumption) (by omega); have hz := noneIn_t (f := F_spec_l8Bit x_w) (a := x_w.Top + 1) (b := 1024) (q := q) (by assumption) (by omega); simp [sWin, h12, h16, h23, h34, h38, h47, hy, hz]; done)
    rw [hF57]
    exact rfl
   have q48 := of_decide_eq_true h47
   refine ct h47 ?_
   refine wc_skip <| wq_then <| wc_seq <| wc_block <| sr ?_
   have b49 := (b40.ch k43 (Nat.not_le.2 (Nat.lt_of_lt_of_le p8 (z3 k14 k20 k36))))
   refine lN (L_34 x_w a1 c2) wN isAgg_34 sizeOf_34 b49 ?_
   refine mw (vi q) ?_
   refine cl wN (C_spec_l8Bit w5 _ x_w (mR_34 (r3.from0 m42) s4) q (by first | assumption | omega) (by first | assumption | omega)) ?_
   rintro _ w6 ⟨k50, rfl⟩
   have m51 := m42.extk k50
   refine n2 ?_
   rcases bt (F_spec_l8Bit x_w q) with h52 | h52
   ·refine ct h52 ?_
    refine sr ?_
    refine aw (vb false) ?_
    refine wl_nil <| wq_then <| wc_ret <| wq_blk_ret <| wq_then_ret <| wq_then_ret <| wq_blk_ret <| wq_then_ret ?_
    refine rt (vb false) ?_
    refine ⟨m51.keep0, ?_⟩
    have hF54 : sWin x_w = false := by first | (simp [sWin, h12, h16, h23, h34, h38, h47, h52]; done) | (have hz := allW_no (x := x_w.Bits) (k := i) (by omega) (by assumption); simp [sWin, h12, h16, h23, h34, h38, h47, h52, hz]; done) | (have hy := allW_all (x := x_w.Bits) (k := i) (by assumption) (by omega); simp [sWin, h12, h16, h23, h34, h38, h47, h52, hy]; done) | (have hy := allW_all (x := x_w.Bits) (k := i) (by assumption) (by omega); have hz := noneIn_f (f := F_spec_l8Bit x_w) (a := x_w.Top + 1) (b := 1024) (q := q) (by assumption) (by omega) (by omega); simp [sWin, h12, h16, h23, h34, h38, h47, h52, hy, hz]; done) | (have hy := allW_all (x := x_w.Bits) (k := i) (by assumption) (by omega); have hz := noneIn_t (f := F_spec_l8Bit x_w) (a := x_w.Top + 1) (b := 1024) (q := q) (by assumption) (by omega); simp [sWin, h12, h16, h23, h34, h38, h47, h52, hy, hz]; done)
    rw [hF54]
    exact rfl
   refine cf h52 ?_
   refine wc_skip <| wq_blk_normal <| wq_then <| wc_region ?_
   refine mw (vi q) ?_
   refine ar (q + 1) wN ?_
   refine aw (vi (q + 1)) ?_
   refine wl_nil ?_
   refine wq_loopQ (w0 := w5) (fun e => [e 0, (vp g6 0), e 2, e 3, (vi (q + 1)), e 5, e 6, e 7, e 8, e 9, e 10, e 11, e 12, e 13, e 14, e 15, e 16, e 17, e 18, e 19, e 20, e 21, e 22, e 23, e 24, e 25, e 26, e 27, e 28, e 29, e 30, e 31, e 32, e 33, e 34, e 35, e 36, e 37, e 38, e 39, e 40, e 41, e 42, e 43, e 44, e 45]) rfl ?_ ?_ ?_
   · exact ⟨rfl, rfl, rfl, rfl, rfl, rfl, rfl, rfl, rfl, rfl, rfl, rfl, rfl, rfl, rfl, rfl, rfl, rfl, rfl, rfl, rfl, rfl, rfl, rfl, rfl, rfl, rfl, rfl, rfl, rfl, rfl, rfl, rfl, rfl, rfl, rfl, rfl, rfl, rfl, rfl, rfl, rfl, rfl, rfl, rfl, rfl, trivial⟩
   · exact fun u => ⟨(q + 1), (unL [u 0, u 2, u 3, u 5, u 6, u 7, u 8, u 9, u 10, u 11, u 12, u 13, u 14, u 15, u 16, u 17, u 18, u 19, u 20, u 21, u 22, u 23, u 24, u 25, u 26, u 27, u 28, u 29, u 30, u 31, u 32, u 33, u 34, u 35, u 36, u 37, u 38, u 39, u 40, u 41, u 42, u 43, u 44, u 45]), rfl, m51, (((Ch.refl (fun k => w4.heap.size ≤ k) w4).ext k43 (fun k hk => hk)).extk k50), (by omega), (by omega), (by first | (intro m h1 h2; omega) | exact none_next (by assumption) (by assumption))⟩
   · show (1024 - (q + 1)).toNat < (1024 - q).toNat; omega

def F_spec_EpOk (x_e : PEp) : (Bool) := bif (F_spec_l1In x_e.N 0 4294967295) then (bif (decide ((x_e.Key.length : Int) = 32)) then (bif (F_spec_l1In x_e.Seq 0 281474976710656) then ((sWin x_e.Win)) else (false)) else (false)) else (false)
theorem C_spec_EpOk (w0 : World) (v_x_e : Value) (x_e : PEp) (r_x_e : R_36 w0 v_x_e x_e)  : Fn Try.prog 100 #[v_x_e] w0 (fun v w' => Keep w0 w' ∧ O_4 w' w0.heap.size v (F_spec_EpOk x_e)) := by
 obtain ⟨a1, c2, a6, c7, rfl, r3, s4, r8, s9⟩ := r_x_e
 refine fn_of (n := 22) (l := [(va (L_36 x_e a1 c2 a6 c7)), U, U, U, U, U, U, U, U, U, U, U, U, U, U, U, U, U, U, U, U, U]) Try.func100 rfl rfl (by kernel_rfl) rfl ?_
 refine sr ?_
 refine bx (L_36 x_e a1 c2 a6 c7) wN ?_
 intro g11 w1 p12 p13 k14 b15
 have m16 := (Ch.base w0).extk k14
 refine aw (vb false) ?_
 refine nx ?_
 refine pu (vp g11 0) wN ?_
 refine ld (vi x_e.N) wN isAgg_3 b15 ?_
 refine cl wN (C_spec_l1In w1 x_e.N 0 4294967295) ?_
 rintro _ w2 ⟨k17, rfl⟩
 have m18 := m16.extk k17
 refine mw (vb (F_spec_l1In x_e.N 0 4294967295)) ?_
 rcases bf (F_spec_l1In x_e.N 0 4294967295) with h19 | h19
 ·have q36 := spec_l1In_f h19
  refine sk h19 ?_
  refine sk h19 ?_
  refine sk h19 ?_
  refine sk h19 ?_
  refine pf (vb false) wN h19 ?_
  refine mw (vb false) ?_
  refine sk F1 ?_
  refine sk F1 ?_
  refine sk F1 ?_
  refine pf (vb false) wN (Eq.refl false) ?_
  refine mw (vb false) ?_
  refine sk F1 ?_
  refine sk F1 ?_
  refine sk F1 ?_
  refine pf (vb false) wN (Eq.refl false) ?_
  refine aw (vb false) ?_
  refine n3 ?_
  refine rt (vb false) ?_
  refine ⟨m18.keep0, ?_⟩
  have hF37 : F_spec_EpOk x_e = false := by simp only [F_spec_EpOk, h19, cond_true, cond_false]
  rw [hF37]
  exact rfl
 have q20 := spec_l1In_t h19
 refine pu (vp g11 1) (wS h19) ?_
 have b21 := (b15.kp k17)
 refine ld (vs a1 x_e.Key.length c2) (wS h19) isAgg_22 b21 ?_
 refine ln (wS h19) slTy_22 (r3.from0 m18) ?_
 refine pu (vb (decide ((x_e.Key.length : Int) = 32))) (wS h19) ?_
 refine pk (vb (decide ((x_e.Key.length : Int) = 32))) wN h19 ?_
 refine mw (vb (decide ((x_e.Key.length : Int) = 32))) ?_
 rcases bf (decide ((x_e.Key.length : Int) = 32)) with h22 | h22
 ·have q34 := of_decide_eq_false h22
  refine sk h22 ?_
  refine sk h22 ?_
  refine sk h22 ?_
  refine pf (vb false) wN h22 ?_
  refine mw (vb false) ?_
  refine sk F1 ?_
  refine sk F1 ?_
  refine sk F1 ?_
  refine pf (vb false) wN (Eq.refl false) ?_
  refine aw (vb false) ?_
  refine n3 ?_
  refine rt (vb false) ?_
  refine ⟨m18.keep0, ?_⟩
  have hF35 : F_spec_EpOk x_e = false := by simp only [F_spec_EpOk, h19, h22, cond_true, cond_false]
  rw [hF35]
  exact rfl
 have q23 := of_decide_eq_true h22
 refine pu (vp g11 2) (wS h22) ?_
 refine ld (vi x_e.Seq) (wS h22) isAgg_3 b21 ?_
 refine cl (wS h22) (C_spec_l1In w2 x_e.Seq 0 281474976710656) ?_
 rintro _ w3 ⟨k24, rfl⟩
 have m25 := m18.extk k24
 refine pk (vb (F_spec_l1In x_e.Seq 0 281474976710656)) wN h22 ?_
 refine mw (vb (F_spec_l1In x_e.Seq 0 281474976710656)) ?_
 rcases bf (F_spec_l1In x_e.Seq 0 281474976710656) with h26 | h26
 ·have q32 := spec_l1In_f h26
  refine sk h26 ?_
  refine sk h26 ?_
  refine sk h26 ?_
  refine pf (vb false) wN h26 ?_
  refine aw (vb false) ?_
  refine n3 ?_
  refine rt (vb false) ?_
  refine ⟨m25.keep0, ?_⟩
  have hF33 : F_spec_EpOk x_e = false := by simp only [F_spec_EpOk, h19, h22, h26, cond_true, cond_false]
  rw [hF33]
  exact rfl
 have q27 := spec_l1In_t h26
 refine pu (vp g11 3) (wS h26) ?_
 have b28 := (b21.kp k24)
 refine lN (L_34 x_e.Win a6 c7) (wS h26) isAgg_34 sizeOf_34 b28 ?_
 refine cl (wS h26) (C_spec_WinOk w3 _ x_e.Win (mR_34 (r8.from0 m25) s9)) ?_
 rintro _ w4 ⟨k29, rfl⟩
 have m30 := m25.extk k29
 refine pk (vb (sWin x_e.Win)) wN h26 ?_
 refine aw (vb (sWin x_e.Win)) ?_
 refine n3 ?_
 refine rt (vb (sWin x_e.Win)) ?_
 refine ⟨m30.keep0, ?_⟩
 have hF31 : F_spec_EpOk x_e = (sWin x_e.Win) := by simp only [F_spec_EpOk, h19, h22, h26, cond_true, cond_false]
 rw [hF31]
 exact rfl
theorem spec_EpOk_t {e : PEp} (h : F_spec_EpOk e = true) : 0 ≤ e.N ∧ e.N ≤ 4294967295 ∧ (e.Key.length : Int) = 32 := by
  cases h1 : F_spec_l1In e.N 0 4294967295 with
  | false => simp [F_spec_EpOk, h1] at h
  | true =>
    have := spec_l1In_t h1
    by_cases h2 : (e.Key.length : Int) = 32
    · exact ⟨this.1, this.2, h2⟩
    · simp [F_spec_EpOk, h1, h2] at h

def F_spec_l14None (x_e : PEp) : (Bool) := bif (decide (x_e.N = 0)) then (bif (decide ((x_e.Key.length : Int) = 0)) then (bif (decide (x_e.Seq = 0)) then (bif (decide (x_e.Win.Top = 0)) then (decide ((x_e.Win.Bits.length : Int) = 0)) else (false)) else (false)) else (false)) else (false)
theorem C_spec_l14None (w0 : World) (v_x_e : Value) (x_e : PEp) (r_x_e : R_36 w0 v_x_e x_e)  : Fn Try.prog 101 #[v_x_e] w0 (fun v w' => Keep w0 w' ∧ O_4 w' w0.heap.size v (F_spec_l14None x_e)) := by
 obtain ⟨a1, c2, a6, c7, rfl, r3, s4, r8, s9⟩ := r_x_e
 refine fn_of (n := 30) (l := [(va (L_36 x_e a1 c2 a6 c7)), U, U, U, U, U, U, U, U, U, U, U, U, U, U, U, U, U, U, U, U, U, U, U, U, U, U, U, U, U]) Try.func101 rfl rfl (by kernel_rfl) rfl ?_
 refine sr ?_
 refine bx (L_36 x_e a1 c2 a6 c7) wN ?_
 intro g11 w1 p12 p13 k14 b15
 have m16 := (Ch.base w0).extk k14
 refine aw (vb false) ?_
 refine nx ?_
 refine pu (vp g11 0) wN ?_
 refine ld (vi x_e.N) wN isAgg_3 b15 ?_
 refine pu (vb (decide (x_e.N = 0))) wN ?_
 refine mw (vb (decide (x_e.N = 0))) ?_
 rcases bf (decide (x_e.N = 0)) with h17 | h17
 ·have q32 := of_decide_eq_false h17
  refine sk h17 ?_
  refine sk h17 ?_
  refine sk h17 ?_
  refine sk h17 ?_
  refine pf (vb false) wN h17 ?_
  refine mw (vb false) ?_
  refine sk F1 ?_
  refine sk F1 ?_
  refine sk F1 ?_
  refine pf (vb false) wN (Eq.refl false) ?_
  refine mw (vb false) ?_
  refine sk F1 ?_
  refine sk F1 ?_
  refine sk F1 ?_
  refine sk F1 ?_
  refine pf (vb false) wN (Eq.refl false) ?_
  refine mw (vb false) ?_
  refine sk F1 ?_
  refine sk F1 ?_
  refine sk F1 ?_
  refine sk F1 ?_
  refine sk F1 ?_
  refine pf (vb false) wN (Eq.refl false) ?_
  refine aw (vb false) ?_
  refine n3 ?_
  refine rt (vb false) ?_
  refine ⟨m16.keep0, ?_⟩
  have hF33 : F_spec_l14None x_e = false := by simp only [F_spec_l14None, h17, cond_true, cond_false]
  rw [hF33]
  exact rfl
 have q18 := of_decide_eq_true h17
 refine pu (vp g11 1) (wS h17) ?_
 refine ld (vs a1 x_e.Key.length c2) (wS h17) isAgg_22 b15 ?_
 refine ln (wS h17) slTy_22 (r3.from0 m16) ?_
 refine pu (vb (decide ((x_e.Key.length : Int) = 0))) (wS h17) ?_
 refine pk (vb (decide ((x_e.Key.length : Int) = 0))) wN h17 ?_
 refine mw (vb (decide ((x_e.Key.length : Int) = 0))) ?_
 rcases bf (decide ((x_e.Key.length : Int) = 0)) with h19 | h19
 ·have q30 := of_decide_eq_false h19
  refine sk h19 ?_
  refine sk h19 ?_
  refine sk h19 ?_
  refine pf (vb false) wN h19 ?_
  refine mw (vb false) ?_
  refine sk F1 ?_
  refine sk F1 ?_
  refine sk F1 ?_
  refine sk F1 ?_
  refine pf (vb false) wN (Eq.refl false) ?_
  refine mw (vb false) ?_
  refine sk F1 ?_
  refine sk F1 ?_
  refine sk F1 ?_
  refine sk F1 ?_
  refine sk F1 ?_
  refine pf (vb false) wN (Eq.refl false) ?_
  refine aw (vb false) ?_
  refine n3 ?_
  refine rt (vb false) ?_
  refine ⟨m16.keep0, ?_⟩
  have hF31 : F_spec_l14None x_e = false := by simp only [F_spec_l14None, h17, h19, cond_true, cond_false]
  rw [hF31]
  exact rfl
 have q20 := of_decide_eq_true h19
 refine pu (vp g11 2) (wS h19) ?_
 refine ld (vi x_e.Seq) (wS h19) isAgg_3 b15 ?_
 refine pu (vb (decide (x_e.Seq = 0))) (wS h19) ?_
 refine pk (vb (decide (x_e.Seq = 0))) wN h19 ?_
 refine mw (vb (decide (x_e.Seq = 0))) ?_
 rcases bf (decide (x_e.Seq = 0)) with h21 | h21
 ·have q28 := of_decide_eq_false h21
  refine sk h21 ?_
  refine sk h21 ?_
  refine sk h21 ?_
  refine sk h21 ?_
  refine pf (vb false) wN h21 ?_
  refine mw (vb false) ?_
  refine sk F1 ?_
  refine sk F1 ?_
  refine sk F1 ?_
  refine sk F1 ?_
  refine sk F1 ?_
  refine pf (vb false) wN (Eq.refl false) ?_
  refine aw (vb false) ?_
  refine n3 ?_
  refine rt (vb false) ?_
  refine ⟨m16.keep0, ?_⟩
  have hF29 : F_spec_l14None x_e = false := by simp only [F_spec_l14None, h17, h19, h21, cond_true, cond_false]
  rw [hF29]
  exact rfl
 have q22 := of_decide_eq_true h21
 refine pu (vp g11 3) (wS h21) ?_
 refine pu (vp g11 3) (wS h21) ?_
 refine ld (vi x_e.Win.Top) (wS h21) isAgg_3 b15 ?_
 refine pu (vb (decide (x_e.Win.Top = 0))) (wS h21) ?_
 refine pk (vb (decide (x_e.Win.Top = 0))) wN h21 ?_
 refine mw (vb (decide (x_e.Win.Top = 0))) ?_
 rcases bf (decide (x_e.Win.Top = 0)) with h23 | h23
 ·have q26 := of_decide_eq_false h23
  refine sk h23 ?_
  refine sk h23 ?_
  refine sk h23 ?_
  refine sk h23 ?_
  refine sk h23 ?_
  refine pf (vb false) wN h23 ?_
  refine aw (vb false) ?_
  refine n3 ?_
  refine rt (vb false) ?_
  refine ⟨m16.keep0, ?_⟩
  have hF27 : F_spec_l14None x_e = false := by simp only [F_spec_l14None, h17, h19, h21, h23, cond_true, cond_false]
  rw [hF27]
  exact rfl
 have q24 := of_decide_eq_true h23
 refine pu (vp g11 3) (wS h23) ?_
 refine pu (vp g11 4) (wS h23) ?_
 refine ld (vs a6 x_e.Win.Bits.length c7) (wS h23) isAgg_32 b15 ?_
 refine ln (wS h23) slTy_32 (r8.from0 m16) ?_
 refine pu (vb (decide ((x_e.Win.Bits.length : Int) = 0))) (wS h23) ?_
 refine pk (vb (decide ((x_e.Win.Bits.length : Int) = 0))) wN h23 ?_
 refine aw (vb (decide ((x_e.Win.Bits.length : Int) = 0))) ?_
 refine n3 ?_
 refine rt (vb (decide ((x_e.Win.Bits.length : Int) = 0))) ?_
 refine ⟨m16.keep0, ?_⟩
 have hF25 : F_spec_l14None x_e = decide ((x_e.Win.Bits.length : Int) = 0) := by simp only [F_spec_l14None, h17, h19, h21, h23, cond_true, cond_false]
 rw [hF25]
 exact rfl

def F_spec_ChanOk (x_c : PChan) : (Bool) := bif (F_spec_l1In x_c.Role 0 1) then (bif (decide ((x_c.Sn.length : Int) = 12)) then (bif (F_spec_EpOk x_c.Cur) then (bif x_c.HasOld then (bif (decide (x_c.Role = 0)) then (bif (F_spec_EpOk x_c.Old) then (bif (decide (x_c.Old.N = (x_c.Cur.N - 1))) then (bif (F_spec_l1In x_c.Until 0 1000005) then (bif (decide ((x_c.Next.length : Int) = 0)) then (true) else (bif (decide ((x_c.Next.length : Int) = 32)) then (decide (x_c.Cur.N < 4294967295)) else (false))) else (false)) else (false)) else (false)) else (bif (F_spec_EpOk x_c.Old) then (bif (decide (x_c.Old.N = (x_c.Cur.N - 1))) then (bif (F_spec_l1In x_c.Until (-1) 1000005) then (bif (decide ((x_c.Next.length : Int) = 0)) then (true) else (false)) else (false)) else (false)) else (false))) else (bif (F_spec_l14None x_c.Old) then (bif (decide (x_c.Until = 0)) then (bif (decide ((x_c.Next.length : Int) = 0)) then (true) else (bif (decide (x_c.Role = 0)) then (bif (decide ((x_c.Next.length : Int) = 32)) then (decide (x_c.Cur.N < 4294967295)) else (false)) else (false))) else (false)) else (false))) else (false)) else (false)) else (false)
theorem C_spec_ChanOk (w0 : World) (v_x_c : Value) (x_c : PChan) (r_x_c : R_38 w0 v_x_c x_c)  : Fn Try.prog 66 #[v_x_c] w0 (fun v w' => Keep w0 w' ∧ O_4 w' w0.heap.size v (F_spec_ChanOk x_c)) := by
 obtain ⟨a1, c2, a6, c7, a11, c12, a16, c17, a21, c22, a26, c27, rfl, r3, s4, r8, s9, r13, s14, r18, s19, r23, s24, r28, s29⟩ := r_x_c
 refine fn_of (n := 74) (l := [(va (L_38 x_c a1 c2 a6 c7 a11 c12 a16 c17 a21 c22 a26 c27)), U, U, U, U, U, U, U, U, U, U, U, U, U, U, U, U, U, U, U, U, U, U, U, U, U, U, U, U, U, U, U, U, U, U, U, U, U, U, U, U, U, U, U, U, U, U, U, U, U, U, U, U, U, U, U, U, U, U, U, U, U, U, U, U, U, U, U, U, U, U, U, U, U]) Try.func66 rfl rfl (by kernel_rfl) rfl ?_
 refine sr ?_
 refine bx (L_38 x_c a1 c2 a6 c7 a11 c12 a16 c17 a21 c22 a26 c27) wN ?_
 intro g31 w1 p32 p33 k34 b35
 have m36 := (Ch.base w0).extk k34
 refine aw (vb false) ?_
 refine n4 ?_
 refine pu (vp g31 0) wN ?_
 refine ld (vi x_c.Role) wN isAgg_3 b35 ?_
 refine cl wN (C_spec_l1In w1 x_c.Role 0 1) ?_
 rintro _ w2 ⟨k37, rfl⟩
 have m38 := m36.extk k37
 refine pu (vb (!(F_spec_l1In x_c.Role 0 1))) wN ?_
 refine mw (vb (!(F_spec_l1In x_c.Role 0 1))) ?_
 rcases bf (F_spec_l1In x_c.Role 0 1) with h39 | h39
 ·have q133 := spec_l1In_f h39
  refine sk (congrArg not h39) ?_
  refine sk (congrArg not h39) ?_
  refine sk (congrArg not h39) ?_
  refine sk (congrArg not h39) ?_
  refine pk (vb true) wN (congrArg not h39) ?_
  refine mw (vb true) ?_
  refine sk T1 ?_
  refine sk T1 ?_
  refine sk T1 ?_
  refine sk T1 ?_
  refine pk (vb true) wN (Eq.refl true) ?_
  refine n2 ?_
  refine ct (Eq.refl true) ?_
  refine sr ?_
  refine aw (vb false) ?_
  refine n1 ?_
  refine rt (vb false) ?_
  refine ⟨m38.keep0, ?_⟩
  have hF134 : F_spec_ChanOk x_c = false := by simp only [F_spec_ChanOk, h39, cond_true, cond_false]
  rw [hF134]
  exact rfl
 have q40 := spec_l1In_t h39
 refine pu (vp g31 1) (wS (congrArg not h39)) ?_
 have b41 := (b35.kp k37)
 refine ld (vs a1 x_c.Sn.length c2) (wS (congrArg not h39)) isAgg_22 b41 ?_
 refine ln (wS (congrArg not h39)) slTy_22 (r3.from0 m38) ?_
 refine pu (vb (!(decide ((x_c.Sn.length : Int) = 12)))) (wS (congrArg not h39)) ?_
 refine pf (vb (!(decide ((x_c.Sn.length : Int) = 12)))) wN (congrArg not h39) ?_
 refine mw (vb (!(decide ((x_c.Sn.length : Int) = 12)))) ?_
 rcases bf (decide ((x_c.Sn.length : Int) = 12)) with h42 | h42
 ·have q131 := of_decide_eq_false h42
  refine sk (congrArg not h42) ?_
  refine sk (congrArg not h42) ?_
  refine sk (congrArg not h42) ?_
  refine sk (congrArg not h42) ?_
  refine pk (vb true) wN (congrArg not h42) ?_
  refine n2 ?_
  refine ct (Eq.refl true) ?_
  refine sr ?_
  refine aw (vb false) ?_
  refine n1 ?_
  refine rt (vb false) ?_
  refine ⟨m38.keep0, ?_⟩
  have hF132 : F_spec_ChanOk x_c = false := by simp only [F_spec_ChanOk, h39, h42, cond_true, cond_false]
  rw [hF132]
  exact rfl
 have q43 := of_decide_eq_true h42
 refine pu (vp g31 2) (wS (congrArg not h42)) ?_
 refine lN (L_36 x_c.Cur a6 c7 a11 c12) (wS (congrArg not h42)) isAgg_36 sizeOf_36 b41 ?_
 refine cl (wS (congrArg not h42)) (C_spec_EpOk w2 _ x_c.Cur (mR_36 (r8.from0 m38) s9 (r13.from0 m38) s14)) ?_
 rintro _ w3 ⟨k44, rfl⟩
 have m45 := m38.extk k44
 refine pu (vb (!(F_spec_EpOk x_c.Cur))) (wS (congrArg not h42)) ?_
 refine pf (vb (!(F_spec_EpOk x_c.Cur))) wN (congrArg not h42) ?_
 refine n2 ?_
 rcases bf (F_spec_EpOk x_c.Cur) with h46 | h46
 ·refine ct (congrArg not h46) ?_
  refine sr ?_
  refine aw (vb false) ?_
  refine n1 ?_
  refine rt (vb false) ?_
  refine ⟨m45.keep0, ?_⟩
  have hF130 : F_spec_ChanOk x_c = false := by simp only [F_spec_ChanOk, h39, h42, h46, cond_true, cond_false]
  rw [hF130]
  exact rfl
 have q47 := spec_EpOk_t h46
 refine cf (congrArg not h46) ?_
 refine y2 ?_
 refine pu (vp g31 12) wN ?_
 have b48 := (b41.kp k44)
 refine ld (vb x_c.HasOld) wN isAgg_4 b48 ?_
 refine n2 ?_
 rcases bf x_c.HasOld with h49 | h49
 ·refine cf h49 ?_
  refine sr ?_
  refine pu (vp g31 7) wN ?_
  refine lN (L_36 x_c.Old a16 c17 a21 c22) wN isAgg_36 sizeOf_36 b48 ?_
  refine cl wN (C_spec_l14None w3 _ x_c.Old (mR_36 (r18.from0 m45) s19 (r23.from0 m45) s24)) ?_
  rintro _ w4 ⟨k105, rfl⟩
  have m106 := m45.extk k105
  refine pu (vb (!(F_spec_l14None x_c.Old))) wN ?_
  refine mw (vb (!(F_spec_l14None x_c.Old))) ?_
  rcases bf (F_spec_l14None x_c.Old) with h107 | h107
  ·refine sk (congrArg not h107) ?_
   refine sk (congrArg not h107) ?_
   refine sk (congrArg not h107) ?_
   refine pk (vb true) wN (congrArg not h107) ?_
   refine n2 ?_
   refine ct (Eq.refl true) ?_
   refine sr ?_
   refine aw (vb false) ?_
   refine n1 ?_
   refine rt (vb false) ?_
   refine ⟨m106.keep0, ?_⟩
   have hF128 : F_spec_ChanOk x_c = false := by simp only [F_spec_ChanOk, h39, h42, h46, h49, h107, cond_true, cond_false]
   rw [hF128]
   exact rfl
  refine pu (vp g31 13) (wS (congrArg not h107)) ?_
  have b109 := (b48.kp k105)
  refine ld (vi x_c.Until) (wS (congrArg not h107)) isAgg_3 b109 ?_
  refine pu (vb (!(decide (x_c.Until = 0)))) (wS (congrArg not h107)) ?_
  refine pf (vb (!(decide (x_c.Until = 0)))) wN (congrArg not h107) ?_
  refine n2 ?_
  rcases bf (decide (x_c.Until = 0)) with h110 | h110
  ·have q125 := of_decide_eq_false h110
   refine ct (congrArg not h110) ?_
   refine sr ?_
   refine aw (vb false) ?_
   refine n1 ?_
   refine rt (vb false) ?_
   refine ⟨m106.keep0, ?_⟩
   have hF126 : F_spec_ChanOk x_c = false := by simp only [F_spec_ChanOk, h39, h42, h46, h49, h107, h110, cond_true, cond_false]
   rw [hF126]
   exact rfl
  have q111 := of_decide_eq_true h110
  refine cf (congrArg not h110) ?_
  refine y2 ?_
  refine pu (vp g31 14) wN ?_
  refine ld (vs a26 x_c.Next.length c27) wN isAgg_22 b109 ?_
  refine ln wN slTy_22 (r28.from0 m106) ?_
  refine pu (vb (decide ((x_c.Next.length : Int) = 0))) wN ?_
  refine n2 ?_
  rcases bt (decide ((x_c.Next.length : Int) = 0)) with h112 | h112
  ·have q113 := of_decide_eq_true h112
   refine ct h112 ?_
   refine sr ?_
   refine aw (vb true) ?_
   refine n1 ?_
   refine rt (vb true) ?_
   refine ⟨m106.keep0, ?_⟩
   have hF114 : F_spec_ChanOk x_c = true := by simp only [F_spec_ChanOk, h39, h42, h46, h49, h107, h110, h112, cond_true, cond_false]
   rw [hF114]
   exact rfl
  have q115 := of_decide_eq_false h112
  refine cf h112 ?_
  refine y1 ?_
  refine pu (vp g31 0) wN ?_
  refine ld (vi x_c.Role) wN isAgg_3 b109 ?_
  refine pu (vb (decide (x_c.Role = 0))) wN ?_
  refine mw (vb (decide (x_c.Role = 0))) ?_
  rcases bf (decide (x_c.Role = 0)) with h116 | h116
  ·have q123 := of_decide_eq_false h116
   refine sk h116 ?_
   refine sk h116 ?_
   refine sk h116 ?_
   refine sk h116 ?_
   refine pf (vb false) wN h116 ?_
   refine mw (vb false) ?_
   refine sk F1 ?_
   refine sk F1 ?_
   refine sk F1 ?_
   refine sk F1 ?_
   refine pf (vb false) wN (Eq.refl false) ?_
   refine aw (vb false) ?_
   refine n3 ?_
   refine rt (vb false) ?_
   refine ⟨m106.keep0, ?_⟩
   have hF124 : F_spec_ChanOk x_c = false := by simp only [F_spec_ChanOk, h39, h42, h46, h49, h107, h110, h112, h116, cond_true, cond_false]
   rw [hF124]
   exact rfl
  have q117 := of_decide_eq_true h116
  refine pu (vp g31 14) (wS h116) ?_
  refine ld (vs a26 x_c.Next.length c27) (wS h116) isAgg_22 b109 ?_
  refine ln (wS h116) slTy_22 (r28.from0 m106) ?_
  refine pu (vb (decide ((x_c.Next.length : Int) = 32))) (wS h116) ?_
  refine pk (vb (decide ((x_c.Next.length : Int) = 32))) wN h116 ?_
  refine mw (vb (decide ((x_c.Next.length : Int) = 32))) ?_
  rcases bf (decide ((x_c.Next.length : Int) = 32)) with h118 | h118
  ·have q121 := of_decide_eq_false h118
   refine sk h118 ?_
   refine sk h118 ?_
   refine sk h118 ?_
   refine sk h118 ?_
   refine pf (vb false) wN h118 ?_
   refine aw (vb false) ?_
   refine n3 ?_
   refine rt (vb false) ?_
   refine ⟨m106.keep0, ?_⟩
   have hF122 : F_spec_ChanOk x_c = false := by simp only [F_spec_ChanOk, h39, h42, h46, h49, h107, h110, h112, h116, h118, cond_true, cond_false]
   rw [hF122]
   exact rfl
  have q119 := of_decide_eq_true h118
  refine pu (vp g31 2) (wS h118) ?_
  refine pu (vp g31 2) (wS h118) ?_
  refine ld (vi x_c.Cur.N) (wS h118) isAgg_3 b109 ?_
  refine pu (vb (decide (x_c.Cur.N < 4294967295))) (wS h118) ?_
  refine pk (vb (decide (x_c.Cur.N < 4294967295))) wN h118 ?_
  refine aw (vb (decide (x_c.Cur.N < 4294967295))) ?_
  refine n3 ?_
  refine rt (vb (decide (x_c.Cur.N < 4294967295))) ?_
  refine ⟨m106.keep0, ?_⟩
  have hF120 : F_spec_ChanOk x_c = decide (x_c.Cur.N < 4294967295) := by simp only [F_spec_ChanOk, h39, h42, h46, h49, h107, h110, h112, h116, h118, cond_true, cond_false]
  rw [hF120]
  exact rfl
 refine ct h49 ?_
 refine sr ?_
 refine aw (vi (-1)) ?_
 refine n4 ?_
 refine pu (vp g31 0) wN ?_
 refine ld (vi x_c.Role) wN isAgg_3 b48 ?_
 refine pu (vb (decide (x_c.Role = 0))) wN ?_
 refine n2 ?_
 rcases bf (decide (x_c.Role = 0)) with h51 | h51
 ·have q80 := of_decide_eq_false h51
  refine cf h51 ?_
  refine y1 ?_
  refine pu (vp g31 7) wN ?_
  refine lN (L_36 x_c.Old a16 c17 a21 c22) wN isAgg_36 sizeOf_36 b48 ?_
  refine cl wN (C_spec_EpOk w3 _ x_c.Old (mR_36 (r18.from0 m45) s19 (r23.from0 m45) s24)) ?_
  rintro _ w4 ⟨k81, rfl⟩
  have m82 := m45.extk k81
  refine pu (vb (!(F_spec_EpOk x_c.Old))) wN ?_
  refine mw (vb (!(F_spec_EpOk x_c.Old))) ?_
  rcases bf (F_spec_EpOk x_c.Old) with h83 | h83
  ·refine sk (congrArg not h83) ?_
   refine sk (congrArg not h83) ?_
   refine sk (congrArg not h83) ?_
   refine sk (congrArg not h83) ?_
   refine sk (congrArg not h83) ?_
   refine sk (congrArg not h83) ?_
   refine sk (congrArg not h83) ?_
   refine sk (congrArg not h83) ?_
   refine pk (vb true) wN (congrArg not h83) ?_
   refine mw (vb true) ?_
   refine sk T1 ?_
   refine sk T1 ?_
   refine sk T1 ?_
   refine sk T1 ?_
   refine sk T1 ?_
   refine pk (vb true) wN (Eq.refl true) ?_
   refine n2 ?_
   refine ct (Eq.refl true) ?_
   refine sr ?_
   refine aw (vb false) ?_
   refine n1 ?_
   refine rt (vb false) ?_
   refine ⟨m82.keep0, ?_⟩
   have hF103 : F_spec_ChanOk x_c = false := by simp only [F_spec_ChanOk, h39, h42, h46, h49, h51, h83, cond_true, cond_false]
   rw [hF103]
   exact rfl
  have q84 := spec_EpOk_t h83
  refine pu (vp g31 7) (wS (congrArg not h83)) ?_
  refine pu (vp g31 7) (wS (congrArg not h83)) ?_
  have b85 := (b48.kp k81)
  refine ld (vi x_c.Old.N) (wS (congrArg not h83)) isAgg_3 b85 ?_
  refine pu (vp g31 2) (wS (congrArg not h83)) ?_
  refine pu (vp g31 2) (wS (congrArg not h83)) ?_
  refine ld (vi x_c.Cur.N) (wS (congrArg not h83)) isAgg_3 b85 ?_
  refine ar (x_c.Cur.N - 1) (wS (congrArg not h83)) ?_
  refine pu (vb (!(decide (x_c.Old.N = (x_c.Cur.N - 1))))) (wS (congrArg not h83)) ?_
  refine pf (vb (!(decide (x_c.Old.N = (x_c.Cur.N - 1))))) wN (congrArg not h83) ?_
  refine mw (vb (!(decide (x_c.Old.N = (x_c.Cur.N - 1))))) ?_
  rcases bf (decide (x_c.Old.N = (x_c.Cur.N - 1))) with h86 | h86
  ·have q100 := of_decide_eq_false h86
   refine sk (congrArg not h86) ?_
   refine sk (congrArg not h86) ?_
   refine sk (congrArg not h86) ?_
   refine sk (congrArg not h86) ?_
   refine sk (congrArg not h86) ?_
   refine pk (vb true) wN (congrArg not h86) ?_
   refine n2 ?_
   refine ct (Eq.refl true) ?_
   refine sr ?_
   refine aw (vb false) ?_
   refine n1 ?_
   refine rt (vb false) ?_
   refine ⟨m82.keep0, ?_⟩
   have hF101 : F_spec_ChanOk x_c = false := by simp only [F_spec_ChanOk, h39, h42, h46, h49, h51, h83, h86, cond_true, cond_false]
   rw [hF101]
   exact rfl
  have q87 := of_decide_eq_true h86
  refine pu (vp g31 13) (wS (congrArg not h86)) ?_
  refine ld (vi x_c.Until) (wS (congrArg not h86)) isAgg_3 b85 ?_
  refine mv (vi (-1)) (wS (congrArg not h86)) ?_
  refine cl (wS (congrArg not h86)) (C_spec_l1In w4 x_c.Until (-1) 1000005) ?_
  rintro _ w5 ⟨k88, rfl⟩
  have m89 := m82.extk k88
  refine pu (vb (!(F_spec_l1In x_c.Until (-1) 1000005))) (wS (congrArg not h86)) ?_
  refine pf (vb (!(F_spec_l1In x_c.Until (-1) 1000005))) wN (congrArg not h86) ?_
  refine n2 ?_
  rcases bf (F_spec_l1In x_c.Until (-1) 1000005) with h90 | h90
  ·have q98 := spec_l1In_f h90
   refine ct (congrArg not h90) ?_
   refine sr ?_
   refine aw (vb false) ?_
   refine n1 ?_
   refine rt (vb false) ?_
   refine ⟨m89.keep0, ?_⟩
   have hF99 : F_spec_ChanOk x_c = false := by simp only [F_spec_ChanOk, h39, h42, h46, h49, h51, h83, h86, h90, cond_true, cond_false]
   rw [hF99]
   exact rfl
  have q91 := spec_l1In_t h90
  refine cf (congrArg not h90) ?_
  refine y2 ?_
  refine pu (vp g31 14) wN ?_
  have b92 := (b85.kp k88)
  refine ld (vs a26 x_c.Next.length c27) wN isAgg_22 b92 ?_
  refine ln wN slTy_22 (r28.from0 m89) ?_
  refine pu (vb (decide ((x_c.Next.length : Int) = 0))) wN ?_
  refine n2 ?_
  rcases bt (decide ((x_c.Next.length : Int) = 0)) with h93 | h93
  ·have q94 := of_decide_eq_true h93
   refine ct h93 ?_
   refine sr ?_
   refine aw (vb true) ?_
   refine n1 ?_
   refine rt (vb true) ?_
   refine ⟨m89.keep0, ?_⟩
   have hF95 : F_spec_ChanOk x_c = true := by simp only [F_spec_ChanOk, h39, h42, h46, h49, h51, h83, h86, h90, h93, cond_true, cond_false]
   rw [hF95]
   exact rfl
  have q96 := of_decide_eq_false h93
  refine cf h93 ?_
  refine y1 ?_
  refine pu (vp g31 0) wN ?_
  refine ld (vi x_c.Role) wN isAgg_3 b92 ?_
  refine pu (vb (decide (x_c.Role = 0))) wN ?_
  refine mw (vb (decide (x_c.Role = 0))) ?_
  refine sk h51 ?_
  refine sk h51 ?_
  refine sk h51 ?_
  refine sk h51 ?_
  refine pf (vb false) wN h51 ?_
  refine mw (vb false) ?_
  refine sk F1 ?_
  refine sk F1 ?_
  refine sk F1 ?_
  refine sk F1 ?_
  refine pf (vb false) wN (Eq.refl false) ?_
  refine aw (vb false) ?_
  refine n3 ?_
  refine rt (vb false) ?_
  refine ⟨m89.keep0, ?_⟩
  have hF97 : F_spec_ChanOk x_c = false := by simp only [F_spec_ChanOk, h39, h42, h46, h49, h51, h83, h86, h90, h93, cond_true, cond_false]
  rw [hF97]
  exact rfl
 have q52 := of_decide_eq_true h51
 refine ct h51 ?_
 refine wc_region ?_
 refine aw (vi 0) ?_
 refine nx ?_
 refine pu (vp g31 7) wN ?_
 refine lN (L_36 x_c.Old a16 c17 a21 c22) wN isAgg_36 sizeOf_36 b48 ?_
 refine cl wN (C_spec_EpOk w3 _ x_c.Old (mR_36 (r18.from0 m45) s19 (r23.from0 m45) s24)) ?_
 rintro _ w4 ⟨k53, rfl⟩
 have m54 := m45.extk k53
 refine pu (vb (!(F_spec_EpOk x_c.Old))) wN ?_
 refine mw (vb (!(F_spec_EpOk x_c.Old))) ?_
 rcases bf (F_spec_EpOk x_c.Old) with h55 | h55
 ·refine sk (congrArg not h55) ?_
  refine sk (congrArg not h55) ?_
  refine sk (congrArg not h55) ?_
  refine sk (congrArg not h55) ?_
  refine sk (congrArg not h55) ?_
  refine sk (congrArg not h55) ?_
  refine sk (congrArg not h55) ?_
  refine sk (congrArg not h55) ?_
  refine pk (vb true) wN (congrArg not h55) ?_
  refine mw (vb true) ?_
  refine sk T1 ?_
  refine sk T1 ?_
  refine sk T1 ?_
  refine sk T1 ?_
  refine sk T1 ?_
  refine pk (vb true) wN (Eq.refl true) ?_
  refine n2 ?_
  refine ct (Eq.refl true) ?_
  refine sr ?_
  refine aw (vb false) ?_
  refine n1 ?_
  refine rt (vb false) ?_
  refine ⟨m54.keep0, ?_⟩
  have hF79 : F_spec_ChanOk x_c = false := by simp only [F_spec_ChanOk, h39, h42, h46, h49, h51, h55, cond_true, cond_false]
  rw [hF79]
  exact rfl
 have q56 := spec_EpOk_t h55
 refine pu (vp g31 7) (wS (congrArg not h55)) ?_
 refine pu (vp g31 7) (wS (congrArg not h55)) ?_
 have b57 := (b48.kp k53)
 refine ld (vi x_c.Old.N) (wS (congrArg not h55)) isAgg_3 b57 ?_
 refine pu (vp g31 2) (wS (congrArg not h55)) ?_
 refine pu (vp g31 2) (wS (congrArg not h55)) ?_
 refine ld (vi x_c.Cur.N) (wS (congrArg not h55)) isAgg_3 b57 ?_
 refine ar (x_c.Cur.N - 1) (wS (congrArg not h55)) ?_
 refine pu (vb (!(decide (x_c.Old.N = (x_c.Cur.N - 1))))) (wS (congrArg not h55)) ?_
 refine pf (vb (!(decide (x_c.Old.N = (x_c.Cur.N - 1))))) wN (congrArg not h55) ?_
 refine mw (vb (!(decide (x_c.Old.N = (x_c.Cur.N - 1))))) ?_
 rcases bf (decide (x_c.Old.N = (x_c.Cur.N - 1))) with h58 | h58
 ·have q76 := of_decide_eq_false h58
  refine sk (congrArg not h58) ?_
  refine sk (congrArg not h58) ?_
  refine sk (congrArg not h58) ?_
  refine sk (congrArg not h58) ?_
  refine sk (congrArg not h58) ?_
  refine pk (vb true) wN (congrArg not h58) ?_
  refine n2 ?_
  refine ct (Eq.refl true) ?_
  refine sr ?_
  refine aw (vb false) ?_
  refine n1 ?_
  refine rt (vb false) ?_
  refine ⟨m54.keep0, ?_⟩
  have hF77 : F_spec_ChanOk x_c = false := by simp only [F_spec_ChanOk, h39, h42, h46, h49, h51, h55, h58, cond_true, cond_false]
  rw [hF77]
  exact rfl
 have q59 := of_decide_eq_true h58
 refine pu (vp g31 13) (wS (congrArg not h58)) ?_
 refine ld (vi x_c.Until) (wS (congrArg not h58)) isAgg_3 b57 ?_
 refine mv (vi 0) (wS (congrArg not h58)) ?_
 refine cl (wS (congrArg not h58)) (C_spec_l1In w4 x_c.Until 0 1000005) ?_
 rintro _ w5 ⟨k60, rfl⟩
 have m61 := m54.extk k60
 refine pu (vb (!(F_spec_l1In x_c.Until 0 1000005))) (wS (congrArg not h58)) ?_
 refine pf (vb (!(F_spec_l1In x_c.Until 0 1000005))) wN (congrArg not h58) ?_
 refine n2 ?_
 rcases bf (F_spec_l1In x_c.Until 0 1000005) with h62 | h62
 ·have q74 := spec_l1In_f h62
  refine ct (congrArg not h62) ?_
  refine sr ?_
  refine aw (vb false) ?_
  refine n1 ?_
  refine rt (vb false) ?_
  refine ⟨m61.keep0, ?_⟩
  have hF75 : F_spec_ChanOk x_c = false := by simp only [F_spec_ChanOk, h39, h42, h46, h49, h51, h55, h58, h62, cond_true, cond_false]
  rw [hF75]
  exact rfl
 have q63 := spec_l1In_t h62
 refine cf (congrArg not h62) ?_
 refine y2 ?_
 refine pu (vp g31 14) wN ?_
 have b64 := (b57.kp k60)
 refine ld (vs a26 x_c.Next.length c27) wN isAgg_22 b64 ?_
 refine ln wN slTy_22 (r28.from0 m61) ?_
 refine pu (vb (decide ((x_c.Next.length : Int) = 0))) wN ?_
 refine n2 ?_
 rcases bt (decide ((x_c.Next.length : Int) = 0)) with h65 | h65
 ·have q66 := of_decide_eq_true h65
  refine ct h65 ?_
  refine sr ?_
  refine aw (vb true) ?_
  refine n1 ?_
  refine rt (vb true) ?_
  refine ⟨m61.keep0, ?_⟩
  have hF67 : F_spec_ChanOk x_c = true := by simp only [F_spec_ChanOk, h39, h42, h46, h49, h51, h55, h58, h62, h65, cond_true, cond_false]
  rw [hF67]
  exact rfl
 have q68 := of_decide_eq_false h65
 refine cf h65 ?_
 refine y1 ?_
 refine pu (vp g31 0) wN ?_
 refine ld (vi x_c.Role) wN isAgg_3 b64 ?_
 refine pu (vb (decide (x_c.Role = 0))) wN ?_
 refine mw (vb (decide (x_c.Role = 0))) ?_
 refine pu (vp g31 14) (wS h51) ?_
 refine ld (vs a26 x_c.Next.length c27) (wS h51) isAgg_22 b64 ?_
 refine ln (wS h51) slTy_22 (r28.from0 m61) ?_
 refine pu (vb (decide ((x_c.Next.length : Int) = 32))) (wS h51) ?_
 refine pk (vb (decide ((x_c.Next.length : Int) = 32))) wN h51 ?_
 refine mw (vb (decide ((x_c.Next.length : Int) = 32))) ?_
 rcases bf (decide ((x_c.Next.length : Int) = 32)) with h69 | h69
 ·have q72 := of_decide_eq_false h69
  refine sk h69 ?_
  refine sk h69 ?_
  refine sk h69 ?_
  refine sk h69 ?_
  refine pf (vb false) wN h69 ?_
  refine aw (vb false) ?_
  refine n3 ?_
  refine rt (vb false) ?_
  refine ⟨m61.keep0, ?_⟩
  have hF73 : F_spec_ChanOk x_c = false := by simp only [F_spec_ChanOk, h39, h42, h46, h49, h51, h55, h58, h62, h65, h69, cond_true, cond_false]
  rw [hF73]
  exact rfl
 have q70 := of_decide_eq_true h69
 refine pu (vp g31 2) (wS h69) ?_
 refine pu (vp g31 2) (wS h69) ?_
 refine ld (vi x_c.Cur.N) (wS h69) isAgg_3 b64 ?_
 refine pu (vb (decide (x_c.Cur.N < 4294967295))) (wS h69) ?_
 refine pk (vb (decide (x_c.Cur.N < 4294967295))) wN h69 ?_
 refine aw (vb (decide (x_c.Cur.N < 4294967295))) ?_
 refine n3 ?_
 refine rt (vb (decide (x_c.Cur.N < 4294967295))) ?_
 refine ⟨m61.keep0, ?_⟩
 have hF71 : F_spec_ChanOk x_c = decide (x_c.Cur.N < 4294967295) := by simp only [F_spec_ChanOk, h39, h42, h46, h49, h51, h55, h58, h62, h65, h69, cond_true, cond_false]
 rw [hF71]
 exact rfl
theorem spec_ChanOk_t {c : PChan} (h : F_spec_ChanOk c = true) : 0 ≤ c.Cur.N ∧ c.Cur.N ≤ 4294967295 := by
  cases h1 : F_spec_EpOk c.Cur with
  | false => simp [F_spec_ChanOk, h1] at h
  | true => exact ⟨(spec_EpOk_t h1).1, (spec_EpOk_t h1).2.1⟩

def F_impl_copyWin (x_w : PWin) : (PWin) := x_w
theorem C_impl_copyWin (w0 : World) (v_x_w : Value) (x_w : PWin) (r_x_w : R_34 w0 v_x_w x_w)  : Fn Try.prog 136 #[v_x_w] w0 (fun v w' => Keep w0 w' ∧ O_34 w' w0.heap.size v (F_impl_copyWin x_w)) := by
 obtain ⟨a1, c2, rfl, r3, s4⟩ := r_x_w
 refine fn_of (n := 10) (l := [(va (L_34 x_w a1 c2)), U, U, U, U, U, U, U, U, U]) Try.func136 rfl rfl (by kernel_rfl) rfl ?_
 refine sr ?_
 refine bx (L_34 x_w a1 c2) wN ?_
 intro g6 w1 p7 p8 k9 b10
 have m11 := (Ch.base w0).extk k9
 refine al [(vi 0), (vs none 0 0)] wN zero_34 ?_
 intro g12 w2 p13 p14 k15 b16
 have m17 := m11.extk k15
 refine wl_nil <| wq_then <| wc_seq ?_
 refine wc_drawT ([(3, [], [], (fun _ v _ => v = (vp g6 0))), (4, [], [0], (fun _ v _ => v = (vi x_w.Top))), (5, [], [], (fun _ v w => ∃ a0 : Addr, v = .slice (some a0) 0 0 ∧ w.ownsRow w2.heap.size 3 1 (.slice (some a0) 0 0) 0 [])), (6, [], [], (fun _ v _ => v = (vp g6 1))), (7, [], [3], (fun _ v _ => v = (vs a1 x_w.Bits.length c2))), (8, [], [2, 3, 4], (fun _ v w => ∃ (a1 : Option Addr) (c1 : Nat), v = .slice a1 x_w.Bits.length c1 ∧ w.ownsRow w2.heap.size 3 1 (.slice a1 x_w.Bits.length c1) x_w.Bits.length (x_w.Bits.map iV) ∧ x_w.Bits.length ≤ 1073741824 ∧ Aps [(a1, c1)]))] : GV) (fun _ w' => Keep w2 w') [] mixed rfl (by kernel_rfl) (by kernel_rfl) ?_ (fun _ _ h => h) (fun _ _ _ _ h _ k => h.trans k) trivial ?_ ?_ ?_
 ·exact ⟨(fun _ _ _ _ h _ => h), (fun _ _ _ _ _ h => h), ⟨(fun _ _ _ _ h _ => h), (fun _ _ _ _ _ h => h), ⟨(fun e v w w1 h hk => by obtain ⟨a0x, he, o0x⟩ := h; exact ⟨a0x, he, own_kp o0x hk⟩), (fun _ _ _ _ _ h => h), ⟨(fun _ _ _ _ h _ => h), (fun _ _ _ _ _ h => h), ⟨(fun _ _ _ _ h _ => h), (fun _ _ _ _ _ h => h), ⟨(fun e v w w1 h hk => by obtain ⟨a0x, c0x, he, o0x, l0x, hap⟩ := h; exact ⟨a0x, c0x, he, own_kp o0x hk, l0x, hap⟩), (fun _ _ _ _ _ h => h), trivial⟩⟩⟩⟩⟩⟩
 ·exact trivial
 ·refine ⟨?_, ⟨?_, ⟨?_, ⟨?_, ⟨?_, ⟨?_, trivial⟩⟩⟩⟩⟩⟩
  ·intro _ w3 k54 _
   have m55 := m17.extk k54
   rintro _ _ _ _ _ _
   show WL _ _ _ _ _ _ _
   refine pu (vp g6 0) wN ?_
   exact f1
  ·intro _ w3 k56 _
   have m57 := m17.extk k56
   rintro _ rfl _ _ _ _ _
   show WL _ _ _ _ _ _ _
   have b58 := ((b10.kp k15).kp k56)
   refine ld (vi x_w.Top) wN isAgg_3 b58 ?_
   exact f1
  ·intro _ w3 k59 _
   have m60 := m17.extk k59
   rintro _ _ _ _ _ _
   show WL _ _ _ _ _ _ _
   refine wl_lit0 wN rfl rfl slTy_32 (fun w => by kernel_rfl) ?_
   intro a61 w4 k62 o63
   have m64 := m60.extk k62
   exact wl_finT k62 ⟨_, rfl, own_lo o63 k59.size⟩
  ·intro _ w3 k66 _
   have m67 := m17.extk k66
   rintro _ _ _ _ _ _
   show WL _ _ _ _ _ _ _
   refine pu (vp g6 1) wN ?_
   exact f1
  ·intro _ w3 k68 _
   have m69 := m17.extk k68
   rintro _ _ _ _ rfl _ _
   show WL _ _ _ _ _ _ _
   have b70 := ((b10.kp k15).kp k68)
   refine ld (vs a1 x_w.Bits.length c2) wN isAgg_32 b70 ?_
   exact f1
  ·intro _ w3 k71 _
   have m72 := m17.extk k71
   rintro _ _ _ ⟨a73, rfl, o75⟩ _ rfl _ rfl _
   show WL _ _ _ _ _ _ _
   refine wl_append0 wN rfl rfl rfl slTy_32 rfl rfl o75 (r3.from0 m72) (all_iV _) (by first | (simp only [List.length_append, List.length_cons, List.length_nil, List.length_replicate, List.length_take, List.length_drop]; omega) | omega) (by simp only [maxLen]; first | (simp only [List.length_append, List.length_cons, List.length_nil, List.length_replicate, List.length_take, List.length_drop]; omega) | omega) k71.size ?_
   intro u79 w4 k80 o81 j82
   obtain ⟨a83, c84, rfl⟩ := own_form o81
   have n85 : New w3 a83 c84 := j82 _ _ rfl
   have m86 := m72.extk k80
   exact wl_finT k80 ⟨_, _, rfl, o81, s4, ⟨trivial, trivial⟩⟩
 ·intro _ w3 k88
  have m89 := m17.extk k88
  rintro _ rfl _ rfl _ ⟨a91, rfl, o93⟩ _ rfl _ rfl _ ⟨a97, c98, rfl, o99, s100, -⟩
  show WL _ _ _ _ _ _ _
  refine pu (va (L_34 x_w a97 c98)) wN ?_
  have b102 := (b16.kp k88)
  refine sv (L_34 x_w a97 c98) wN sizeOf_34 b102 ?_
  intro w4 k103 b104 z105
  have m106 := m89.ext k103 (fun k hk => by subst hk; exact Nat.le_trans k9.size p13)
  refine n3 ?_
  have o107 := (own_ch o99 k103 (ne1 o99 (p14)))
  refine ret_1 (.inl rfl) (va (L_34 x_w a97 c98)) rfl (rv_c [(vi x_w.Top), (vs a97 x_w.Bits.length c98)] rfl b104 isAgg_34 sizeOf_34) ?_
  refine ⟨m106.keep0, ?_⟩
  have hF108 : F_impl_copyWin x_w = x_w := by rfl
  rw [hF108]
  exact ⟨_, _, rfl, (own_lo o107 (z2 k9 k15)), s100, ⟨trivial, trivial⟩⟩

def F_impl_copyEp (x_e : PEp) : (PEp) := { N := x_e.N, Key := (x_e.Key), Seq := x_e.Seq, Win := (F_impl_copyWin x_e.Win) : PEp }
theorem C_impl_copyEp (w0 : World) (v_x_e : Value) (x_e : PEp) (r_x_e : R_36 w0 v_x_e x_e)  : Fn Try.prog 103 #[v_x_e] w0 (fun v w' => Keep w0 w' ∧ O_36 w' w0.heap.size v (F_impl_copyEp x_e)) := by
 obtain ⟨a1, c2, a6, c7, rfl, r3, s4, r8, s9⟩ := r_x_e
 refine fn_of (n := 14) (l := [(va (L_36 x_e a1 c2 a6 c7)), U, U, U, U, U, U, U, U, U, U, U, U, U]) Try.func103 rfl rfl (by kernel_rfl) rfl ?_
 refine sr ?_
 refine bx (L_36 x_e a1 c2 a6 c7) wN ?_
 intro g11 w1 p12 p13 k14 b15
 have m16 := (Ch.base w0).extk k14
 refine al [(vi 0), (vs none 0 0), (vi 0), (vi 0), (vs none 0 0)] wN zero_36 ?_
 intro g17 w2 p18 p19 k20 b21
 have m22 := m16.extk k20
 refine wl_nil <| wq_then <| wc_seq ?_
 refine wc_drawT ([(3, [], [], (fun _ v _ => v = (vp g11 0))), (4, [], [0], (fun _ v _ => v = (vi x_e.N))), (5, [], [], (fun _ v _ => v = (vp g11 1))), (6, [], [2], (fun _ v _ => v = (vs a1 x_e.Key.length c2))), (7, [], [2, 3], (fun _ v w => ∃ (a1 : Option Addr) (c1 : Nat), v = .slice a1 (x_e.Key).length c1 ∧ w.ownsRow (w2.heap.size) 5 1 (.slice a1 (x_e.Key).length c1) (x_e.Key).length ((x_e.Key).map bV) ∧ (x_e.Key).length ≤ 1073741824 ∧ Aps [(a1, c1)])), (8, [], [], (fun _ v _ => v = (vp g11 2))), (9, [], [5], (fun _ v _ => v = (vi x_e.Seq))), (10, [], [], (fun _ v _ => v = (vp g11 3))), (11, [], [7], (fun _ v _ => v = (.agg #[(vi x_e.Win.Top), (vs a6 x_e.Win.Bits.length c7)]))), (12, [7], [2, 3, 4, 7, 8], (fun e v w => ∃ (a1 : Option Addr) (c1 : Nat), v = .agg #[.int .i64 ((F_impl_copyWin x_e.Win).Top), .slice a1 ((F_impl_copyWin x_e.Win).Bits).length c1] ∧ w.ownsRow (w2.heap.size) 3 1 (.slice a1 ((F_impl_copyWin x_e.Win).Bits).length c1) ((F_impl_copyWin x_e.Win).Bits).length (((F_impl_copyWin x_e.Win).Bits).map iV) ∧ ((F_impl_copyWin x_e.Win).Bits).length ≤ 1073741824 ∧ Aps [(a1, c1)] ∧ Ap (sp (e 7)) (a1, c1)))] : GV) (fun _ w' => Keep w2 w') [] mixed rfl (by kernel_rfl) (by kernel_rfl) ?_ (fun _ _ h => h) (fun _ _ _ _ h _ k => h.trans k) trivial ?_ ?_ ?_
 ·exact ⟨(fun _ _ _ _ h _ => h), (fun _ _ _ _ _ h => h), ⟨(fun _ _ _ _ h _ => h), (fun _ _ _ _ _ h => h), ⟨(fun _ _ _ _ h _ => h), (fun _ _ _ _ _ h => h), ⟨(fun _ _ _ _ h _ => h), (fun _ _ _ _ _ h => h), ⟨(fun e v w w1 h hk => by obtain ⟨a0x, c0x, he, o0x, l0x, hap⟩ := h; exact ⟨a0x, c0x, he, own_kp o0x hk, l0x, hap⟩), (fun _ _ _ _ _ h => h), ⟨(fun _ _ _ _ h _ => h), (fun _ _ _ _ _ h => h), ⟨(fun _ _ _ _ h _ => h), (fun _ _ _ _ _ h => h), ⟨(fun _ _ _ _ h _ => h), (fun _ _ _ _ _ h => h), ⟨(fun _ _ _ _ h _ => h), (fun _ _ _ _ _ h => h), ⟨(fun e v w w1 h hk => by obtain ⟨a0x, c0x, he, o0x, l0x, hap, hx⟩ := h; exact ⟨a0x, c0x, he, own_kp o0x hk, l0x, hap, hx⟩), (fun e1 e2 v w hx h => by have h7x := hx 7 (by simp); simp only [h7x] at h; exact h), trivial⟩⟩⟩⟩⟩⟩⟩⟩⟩⟩
 ·exact trivial
 ·refine ⟨?_, ⟨?_, ⟨?_, ⟨?_, ⟨?_, ⟨?_, ⟨?_, ⟨?_, ⟨?_, ⟨?_, trivial⟩⟩⟩⟩⟩⟩⟩⟩⟩⟩
  ·intro _ w3 k59 _
   have m60 := m22.extk k59
   rintro _ _ _ _ _ _ _ _ _ _
   show WL _ _ _ _ _ _ _
   refine pu (vp g11 0) wN ?_
   exact f1
  ·intro _ w3 k61 _
   have m62 := m22.extk k61
   rintro _ rfl _ _ _ _ _ _ _ _ _
   show WL _ _ _ _ _ _ _
   have b63 := ((b15.kp k20).kp k61)
   refine ld (vi x_e.N) wN isAgg_3 b63 ?_
   exact f1
  ·intro _ w3 k64 _
   have m65 := m22.extk k64
   rintro _ _ _ _ _ _ _ _ _ _
   show WL _ _ _ _ _ _ _
   refine pu (vp g11 1) wN ?_
   exact f1
  ·intro _ w3 k66 _
   have m67 := m22.extk k66
   rintro _ _ _ rfl _ _ _ _ _ _ _
   show WL _ _ _ _ _ _ _
   have b68 := ((b15.kp k20).kp k66)
   refine ld (vs a1 x_e.Key.length c2) wN isAgg_22 b68 ?_
   exact f1
  ·intro _ w3 k69 _
   have m70 := m22.extk k69
   rintro _ _ _ rfl _ rfl _ _ _ _ _ _
   show WL _ _ _ _ _ _ _
   refine cl wN (C_impl_clone w3 _ x_e.Key (mR_22 (r3.from0 m70) s4)) ?_
   rintro _ w4 ⟨k72, ⟨a73, c74, rfl, o75, s76, ap78⟩⟩
   have m79 := m70.extk k72
   exact wl_finT k72 ⟨_, _, rfl, (own_lo o75 k69.size), s76, ap78⟩
  ·intro _ w3 k80 _
   have m81 := m22.extk k80
   rintro _ _ _ _ _ _ _ _ _ _
   show WL _ _ _ _ _ _ _
   refine pu (vp g11 2) wN ?_
   exact f1
  ·intro _ w3 k82 _
   have m83 := m22.extk k82
   rintro _ _ _ _ _ _ rfl _ _ _ _
   show WL _ _ _ _ _ _ _
   have b84 := ((b15.kp k20).kp k82)
   refine ld (vi x_e.Seq) wN isAgg_3 b84 ?_
   exact f1
  ·intro _ w3 k85 _
   have m86 := m22.extk k85
   rintro _ _ _ _ _ _ _ _ _ _
   show WL _ _ _ _ _ _ _
   refine pu (vp g11 3) wN ?_
   exact f1
  ·intro _ w3 k87 _
   have m88 := m22.extk k87
   rintro _ _ _ _ _ _ _ _ rfl _ _
   show WL _ _ _ _ _ _ _
   have b89 := ((b15.kp k20).kp k87)
   refine lN (L_34 x_e.Win a6 c7) wN isAgg_34 sizeOf_34 b89 ?_
   exact f1
  ·intro _ w3 k90 _
   have m91 := m22.extk k90
   rintro _ _ _ rfl _ rfl _ ⟨a93, c94, rfl, o95, s96, ap98⟩ _ _ _ rfl _ rfl _
   show WL _ _ _ _ _ _ _
   refine cl wN (C_impl_copyWin w3 _ x_e.Win (mR_34 (r8.from0 m91) s9)) ?_
   rintro _ w4 ⟨k100, ⟨a101, c102, rfl, o103, s104, ap106⟩⟩
   have m107 := m91.extk k100
   exact wl_finT k100 ⟨_, _, rfl, (own_lo o103 k90.size), s104, ap106, (Ap.lt o95 o103 (Nat.le_refl _))⟩
 ·intro _ w3 k108
  have m109 := m22.extk k108
  rintro _ rfl _ rfl _ rfl _ rfl _ ⟨a112, c113, rfl, o114, s115, ap117⟩ _ rfl _ rfl _ rfl _ rfl _ ⟨a120, c121, rfl, o122, s123, ap125, hx126⟩
  show WL _ _ _ _ _ _ _
  refine pu (va [(vi x_e.N), (vs a112 (x_e.Key).length c113), (vi x_e.Seq), (vi ((F_impl_copyWin x_e.Win).Top)), (vs a120 ((F_impl_copyWin x_e.Win).Bits).length c121)]) wN ?_
  have b127 := (b21.kp k108)
  refine st (va [(vi x_e.N), (vs a112 (x_e.Key).length c113), (vi x_e.Seq), (vi ((F_impl_copyWin x_e.Win).Top)), (vs a120 ((F_impl_copyWin x_e.Win).Bits).length c121)]) [(vi x_e.N), (vs a112 (x_e.Key).length c113), (vi x_e.Seq), (vi ((F_impl_copyWin x_e.Win).Top)), (vs a120 ((F_impl_copyWin x_e.Win).Bits).length c121)] [(vi x_e.N), (vs a112 (x_e.Key).length c113), (vi x_e.Seq), (vi ((F_impl_copyWin x_e.Win).Top)), (vs a120 ((F_impl_copyWin x_e.Win).Bits).length c121)] wN sizeOf_36 b127 ?_
  intro w4 k128 b129 z130
  have m131 := m109.ext k128 (fun k hk => by subst hk; exact Nat.le_trans k14.size p18)
  refine n3 ?_
  have o132 := (own_ch o114 k128 (ne1 o114 (p19)))
  have o133 := (own_ch o122 k128 (ne1 o122 (p19)))
  refine ret_1 (.inl rfl) (va [(vi x_e.N), (vs a112 (x_e.Key).length c113), (vi x_e.Seq), (vi ((F_impl_copyWin x_e.Win).Top)), (vs a120 ((F_impl_copyWin x_e.Win).Bits).length c121)]) rfl (rv_c [(vi x_e.N), (vs a112 (x_e.Key).length c113), (vi x_e.Seq), (vi ((F_impl_copyWin x_e.Win).Top)), (vs a120 ((F_impl_copyWin x_e.Win).Bits).length c121)] rfl b129 isAgg_36 sizeOf_36) ?_
  refine ⟨m131.keep0, ?_⟩
  have hF134 : F_impl_copyEp x_e = { N := x_e.N, Key := (x_e.Key), Seq := x_e.Seq, Win := (F_impl_copyWin x_e.Win) : PEp } := by rfl
  rw [hF134]
  exact ⟨_, _, _, _, rfl, (own_lo o132 (z2 k14 k20)), s115, (own_lo o133 (z2 k14 k20)), s123, ⟨⟨hx126, trivial⟩, ⟨trivial, trivial⟩⟩⟩

def F_impl_copyChan (x_c : PChan) : (PChan) := { Role := x_c.Role, Sn := (x_c.Sn), Cur := (F_impl_copyEp x_c.Cur), Old := (F_impl_copyEp x_c.Old), HasOld := x_c.HasOld, Until := x_c.Until, Next := (x_c.Next) : PChan }
theorem C_impl_copyChan (w0 : World) (v_x_c : Value) (x_c : PChan) (r_x_c : R_38 w0 v_x_c x_c)  : Fn Try.prog 68 #[v_x_c] w0 (fun v w' => Keep w0 w' ∧ O_38 w' w0.heap.size v (F_impl_copyChan x_c)) := by
 obtain ⟨a1, c2, a6, c7, a11, c12, a16, c17, a21, c22, a26, c27, rfl, r3, s4, r8, s9, r13, s14, r18, s19, r23, s24, r28, s29⟩ := r_x_c
 refine fn_of (n := 20) (l := [(va (L_38 x_c a1 c2 a6 c7 a11 c12 a16 c17 a21 c22 a26 c27)), U, U, U, U, U, U, U, U, U, U, U, U, U, U, U, U, U, U, U]) Try.func68 rfl rfl (by kernel_rfl) rfl ?_
 refine sr ?_
 refine bx (L_38 x_c a1 c2 a6 c7 a11 c12 a16 c17 a21 c22 a26 c27) wN ?_
 intro g31 w1 p32 p33 k34 b35
 have m36 := (Ch.base w0).extk k34
 refine al [(vi 0), (vs none 0 0), (vi 0), (vs none 0 0), (vi 0), (vi 0), (vs none 0 0), (vi 0), (vs none 0 0), (vi 0), (vi 0), (vs none 0 0), (vb false), (vi 0), (vs none 0 0)] wN zero_38 ?_
 intro g37 w2 p38 p39 k40 b41
 have m42 := m36.extk k40
 refine wl_nil <| wq_then <| wc_seq ?_
 refine wc_draw ([(3, [], [], (fun _ v _ => v = (vp g31 1))), (4, [], [0], (fun _ v _ => v = (vs a1 x_c.Sn.length c2))), (5, [], [0, 1], (fun _ v w => ∃ (a1 : Option Addr) (c1 : Nat), v = .slice a1 (x_c.Sn).length c1 ∧ w.ownsRow (w2.heap.size) 5 1 (.slice a1 (x_c.Sn).length c1) (x_c.Sn).length ((x_c.Sn).map bV) ∧ (x_c.Sn).length ≤ 1073741824 ∧ Aps [(a1, c1)])), (6, [], [], (fun _ v _ => v = (vp g31 14))), (7, [], [3], (fun _ v _ => v = (vs a26 x_c.Next.length c27))), (8, [5], [0, 1, 2, 3, 4], (fun e v w => ∃ (a1 : Option Addr) (c1 : Nat), v = .slice a1 (x_c.Next).length c1 ∧ w.ownsRow (w2.heap.size) 5 1 (.slice a1 (x_c.Next).length c1) (x_c.Next).length ((x_c.Next).map bV) ∧ (x_c.Next).length ≤ 1073741824 ∧ Aps [(a1, c1)] ∧ Ap (sp (e 5)) (a1, c1))), (9, [], [0, 1, 2, 3, 4], (fun _ v _ => v = (vp g31 1)))] : GV) mixed rfl (by kernel_rfl) (by kernel_rfl) ?_ ?_ ?_
 ·exact ⟨(fun _ _ _ _ h _ => h), (fun _ _ _ _ _ h => h), ⟨(fun _ _ _ _ h _ => h), (fun _ _ _ _ _ h => h), ⟨(fun e v w w1 h hk => by obtain ⟨a0x, c0x, he, o0x, l0x, hap⟩ := h; exact ⟨a0x, c0x, he, own_kp o0x hk, l0x, hap⟩), (fun _ _ _ _ _ h => h), ⟨(fun _ _ _ _ h _ => h), (fun _ _ _ _ _ h => h), ⟨(fun _ _ _ _ h _ => h), (fun _ _ _ _ _ h => h), ⟨(fun e v w w1 h hk => by obtain ⟨a0x, c0x, he, o0x, l0x, hap, hx⟩ := h; exact ⟨a0x, c0x, he, own_kp o0x hk, l0x, hap, hx⟩), (fun e1 e2 v w hx h => by have h5x := hx 5 (by simp); simp only [h5x] at h; exact h), ⟨(fun _ _ _ _ h _ => h), (fun _ _ _ _ _ h => h), trivial⟩⟩⟩⟩⟩⟩⟩
 ·refine ⟨?_, ⟨?_, ⟨?_, ⟨?_, ⟨?_, ⟨?_, ⟨?_, trivial⟩⟩⟩⟩⟩⟩⟩
  ·intro w3 k83
   have m84 := m42.extk k83
   rintro _ _ _ _ _ _ _
   show WL _ _ _ _ _ _ _
   refine pu (vp g31 1) wN ?_
   exact f2
  ·intro w3 k85
   have m86 := m42.extk k85
   rintro _ rfl _ _ _ _ _ _
   show WL _ _ _ _ _ _ _
   have b87 := ((b35.kp k40).kp k85)
   refine ld (vs a1 x_c.Sn.length c2) wN isAgg_22 b87 ?_
   exact f2
  ·intro w3 k88
   have m89 := m42.extk k88
   rintro _ rfl _ rfl _ _ _ _ _
   show WL _ _ _ _ _ _ _
   refine cl wN (C_impl_clone w3 _ x_c.Sn (mR_22 (r3.from0 m89) s4)) ?_
   rintro _ w4 ⟨k91, ⟨a92, c93, rfl, o94, s95, ap97⟩⟩
   have m98 := m89.extk k91
   exact wl_fin k91 ⟨_, _, rfl, (own_lo o94 k88.size), s95, ap97⟩
  ·intro w3 k99
   have m100 := m42.extk k99
   rintro _ _ _ _ _ _ _
   show WL _ _ _ _ _ _ _
   refine pu (vp g31 14) wN ?_
   exact f2
  ·intro w3 k101
   have m102 := m42.extk k101
   rintro _ _ _ _ rfl _ _ _
   show WL _ _ _ _ _ _ _
   have b103 := ((b35.kp k40).kp k101)
   refine ld (vs a26 x_c.Next.length c27) wN isAgg_22 b103 ?_
   exact f2
  ·intro w3 k104
   have m105 := m42.extk k104
   rintro _ rfl _ rfl _ ⟨a107, c108, rfl, o109, s110, ap112⟩ _ rfl _ rfl _ _
   show WL _ _ _ _ _ _ _
   refine cl wN (C_impl_clone w3 _ x_c.Next (mR_22 (r28.from0 m105) s29)) ?_
   rintro _ w4 ⟨k114, ⟨a115, c116, rfl, o117, s118, ap120⟩⟩
   have m121 := m105.extk k114
   exact wl_fin k114 ⟨_, _, rfl, (own_lo o117 k104.size), s118, ap120, (Ap.lt o109 o117 (Nat.le_refl _))⟩
  ·intro w3 k122
   have m123 := m42.extk k122
   rintro _ rfl _ rfl _ ⟨a125, c126, rfl, o127, s128, ap130⟩ _ rfl _ rfl _ _
   show WL _ _ _ _ _ _ _
   refine pu (vp g31 1) wN ?_
   exact f2
 ·intro w3 k132
  have m133 := m42.extk k132
  rintro _ rfl _ rfl _ ⟨a135, c136, rfl, o137, s138, ap140⟩ _ rfl _ rfl _ ⟨a142, c143, rfl, o144, s145, ap147, hx148⟩ _ rfl
  show WL _ _ _ _ _ _ _
  have b149 := ((b35.kp k40).kp k132)
  refine st (vs a135 (x_c.Sn).length c136) [(vs a135 (x_c.Sn).length c136)] (L_38 x_c a135 c136 a6 c7 a11 c12 a16 c17 a21 c22 a26 c27) wN sizeOf_22 b149 ?_
  intro w4 k150 b151 z152
  have m153 := m133.ext k150 (fun k hk => by subst hk; exact p32)
  refine pu (vp g31 14) wN ?_
  refine st (vs a142 (x_c.Next).length c143) [(vs a142 (x_c.Next).length c143)] (L_38 x_c a135 c136 a6 c7 a11 c12 a16 c17 a21 c22 a142 c143) wN sizeOf_22 b151 ?_
  intro w5 k154 b155 z156
  have m157 := m153.ext k154 (fun k hk => by subst hk; exact p32)
  refine wl_nil <| wq_then <| wc_seq ?_
  refine wc_draw ([(11, [], [], (fun _ v _ => v = (vp g31 2))), (12, [], [0], (fun _ v _ => v = (.agg #[(vi x_c.Cur.N), (vs a6 x_c.Cur.Key.length c7), (vi x_c.Cur.Seq), (vi x_c.Cur.Win.Top), (vs a11 x_c.Cur.Win.Bits.length c12)]))), (13, [], [0, 1], (fun _ v w => ∃ (a1 : Option Addr) (c1 : Nat) (a2 : Option Addr) (c2 : Nat), v = .agg #[.int .i64 ((F_impl_copyEp x_c.Cur).N), .slice a1 ((F_impl_copyEp x_c.Cur).Key).length c1, .int .i64 ((F_impl_copyEp x_c.Cur).Seq), .int .i64 (((F_impl_copyEp x_c.Cur).Win).Top), .slice a2 (((F_impl_copyEp x_c.Cur).Win).Bits).length c2] ∧ w.ownsRow (w5.heap.size) 5 1 (.slice a1 ((F_impl_copyEp x_c.Cur).Key).length c1) ((F_impl_copyEp x_c.Cur).Key).length (((F_impl_copyEp x_c.Cur).Key).map bV) ∧ ((F_impl_copyEp x_c.Cur).Key).length ≤ 1073741824 ∧ w.ownsRow (w5.heap.size) 3 1 (.slice a2 (((F_impl_copyEp x_c.Cur).Win).Bits).length c2) (((F_impl_copyEp x_c.Cur).Win).Bits).length ((((F_impl_copyEp x_c.Cur).Win).Bits).map iV) ∧ (((F_impl_copyEp x_c.Cur).Win).Bits).length ≤ 1073741824 ∧ Aps [(a1, c1), (a2, c2)])), (14, [], [], (fun _ v _ => v = (vp g31 7))), (15, [], [3], (fun _ v _ => v = (.agg #[(vi x_c.Old.N), (vs a16 x_c.Old.Key.length c17), (vi x_c.Old.Seq), (vi x_c.Old.Win.Top), (vs a21 x_c.Old.Win.Bits.length c22)]))), (16, [13], [0, 1, 2, 3, 4], (fun e v w => ∃ (a1 : Option Addr) (c1 : Nat) (a2 : Option Addr) (c2 : Nat), v = .agg #[.int .i64 ((F_impl_copyEp x_c.Old).N), .slice a1 ((F_impl_copyEp x_c.Old).Key).length c1, .int .i64 ((F_impl_copyEp x_c.Old).Seq), .int .i64 (((F_impl_copyEp x_c.Old).Win).Top), .slice a2 (((F_impl_copyEp x_c.Old).Win).Bits).length c2] ∧ w.ownsRow (w5.heap.size) 5 1 (.slice a1 ((F_impl_copyEp x_c.Old).Key).length c1) ((F_impl_copyEp x_c.Old).Key).length (((F_impl_copyEp x_c.Old).Key).map bV) ∧ ((F_impl_copyEp x_c.Old).Key).length ≤ 1073741824 ∧ w.ownsRow (w5.heap.size) 3 1 (.slice a2 (((F_impl_copyEp x_c.Old).Win).Bits).length c2) (((F_impl_copyEp x_c.Old).Win).Bits).length ((((F_impl_copyEp x_c.Old).Win).Bits).map iV) ∧ (((F_impl_copyEp x_c.Old).Win).Bits).length ≤ 1073741824 ∧ Aps [(a1, c1), (a2, c2)] ∧ Ap (sp (cellAt (e 13) 1)) (a1, c1) ∧ Ap (sp (cellAt (e 13) 1)) (a2, c2) ∧ Ap (sp (cellAt (e 13) 4)) (a1, c1) ∧ Ap (sp (cellAt (e 13) 4)) (a2, c2))), (17, [], [0, 1, 2, 3, 4], (fun _ v _ => v = (vp g31 2)))] : GV) mixed rfl (by kernel_rfl) (by kernel_rfl) ?_ ?_ ?_
  ·exact ⟨(fun _ _ _ _ h _ => h), (fun _ _ _ _ _ h => h), ⟨(fun _ _ _ _ h _ => h), (fun _ _ _ _ _ h => h), ⟨(fun e v w w1 h hk => by obtain ⟨a0x, c0x, a1x, c1x, he, o0x, l0x, o1x, l1x, hap⟩ := h; exact ⟨a0x, c0x, a1x, c1x, he, own_kp o0x hk, l0x, own_kp o1x hk, l1x, hap⟩), (fun _ _ _ _ _ h => h), ⟨(fun _ _ _ _ h _ => h), (fun _ _ _ _ _ h => h), ⟨(fun _ _ _ _ h _ => h), (fun _ _ _ _ _ h => h), ⟨(fun e v w w1 h hk => by obtain ⟨a0x, c0x, a1x, c1x, he, o0x, l0x, o1x, l1x, hap, hx⟩ := h; exact ⟨a0x, c0x, a1x, c1x, he, own_kp o0x hk, l0x, own_kp o1x hk, l1x, hap, hx⟩), (fun e1 e2 v w hx h => by have h13x := hx 13 (by simp); simp only [h13x] at h; exact h), ⟨(fun _ _ _ _ h _ => h), (fun _ _ _ _ _ h => h), trivial⟩⟩⟩⟩⟩⟩⟩
  ·refine ⟨?_, ⟨?_, ⟨?_, ⟨?_, ⟨?_, ⟨?_, ⟨?_, trivial⟩⟩⟩⟩⟩⟩⟩
   ·intro w6 k216
    have m217 := m157.extk k216
    rintro _ _ _ _ _ _ _
    show WL _ _ _ _ _ _ _
    refine pu (vp g31 2) wN ?_
    exact f2
   ·intro w6 k218
    have m219 := m157.extk k218
    rintro _ rfl _ _ _ _ _ _
    show WL _ _ _ _ _ _ _
    have b220 := (b155.kp k218)
    refine lN (L_36 x_c.Cur a6 c7 a11 c12) wN isAgg_36 sizeOf_36 b220 ?_
    exact f2
   ·intro w6 k221
    have m222 := m157.extk k221
    rintro _ rfl _ rfl _ _ _ _ _
    show WL _ _ _ _ _ _ _
    refine cl wN (C_impl_copyEp w6 _ x_c.Cur (mR_36 (r8.from0 m222) s9 (r13.from0 m222) s14)) ?_
    rintro _ w7 ⟨k224, ⟨a225, c226, a230, c231, rfl, o227, s228, o232, s233, ap235⟩⟩
    have m236 := m222.extk k224
    exact wl_fin k224 ⟨_, _, _, _, rfl, (own_lo o227 k221.size), s228, (own_lo o232 k221.size), s233, ap235⟩
   ·intro w6 k237
    have m238 := m157.extk k237
    rintro _ _ _ _ _ _ _
    show WL _ _ _ _ _ _ _
    refine pu (vp g31 7) wN ?_
    exact f2
   ·intro w6 k239
    have m240 := m157.extk k239
    rintro _ _ _ _ rfl _ _ _
    show WL _ _ _ _ _ _ _
    have b241 := (b155.kp k239)
    refine lN (L_36 x_c.Old a16 c17 a21 c22) wN isAgg_36 sizeOf_36 b241 ?_
    exact f2
   ·intro w6 k242
    have m243 := m157.extk k242
    rintro _ rfl _ rfl _ ⟨a245, c246, a250, c251, rfl, o247, s248, o252, s253, ap255⟩ _ rfl _ rfl _ _
    show WL _ _ _ _ _ _ _
    refine cl wN (C_impl_copyEp w6 _ x_c.Old (mR_36 (r18.from0 m243) s19 (r23.from0 m243) s24)) ?_
    rintro _ w7 ⟨k257, ⟨a258, c259, a263, c264, rfl, o260, s261, o265, s266, ap268⟩⟩
    have m269 := m243.extk k257
    exact wl_fin k257 ⟨_, _, _, _, rfl, (own_lo o260 k242.size), s261, (own_lo o265 k242.size), s266, ap268, ⟨(Ap.lt o247 o260 (Nat.le_refl _)), (Ap.lt o247 o265 (Nat.le_refl _)), (Ap.lt o252 o260 (Nat.le_refl _)), (Ap.lt o252 o265 (Nat.le_refl _))⟩⟩
   ·intro w6 k270
    have m271 := m157.extk k270
    rintro _ rfl _ rfl _ ⟨a273, c274, a278, c279, rfl, o275, s276, o280, s281, ap283⟩ _ rfl _ rfl _ _
    show WL _ _ _ _ _ _ _
    refine pu (vp g31 2) wN ?_
    exact f2
  ·intro w6 k285
   have m286 := m157.extk k285
   rintro _ rfl _ rfl _ ⟨a288, c289, a293, c294, rfl, o290, s291, o295, s296, ap298⟩ _ rfl _ rfl _ ⟨a300, c301, a305, c306, rfl, o302, s303, o307, s308, ap310, hx311⟩ _ rfl
   show WL _ _ _ _ _ _ _
   have b312 := (b155.kp k285)
   refine st (va (L_36 (F_impl_copyEp x_c.Cur) a288 c289 a293 c294)) (L_36 (F_impl_copyEp x_c.Cur) a288 c289 a293 c294) [(vi x_c.Role), (vs a135 (x_c.Sn).length c136), (vi ((F_impl_copyEp x_c.Cur).N)), (vs a288 ((F_impl_copyEp x_c.Cur).Key).length c289), (vi ((F_impl_copyEp x_c.Cur).Seq)), (vi (((F_impl_copyEp x_c.Cur).Win).Top)), (vs a293 (((F_impl_copyEp x_c.Cur).Win).Bits).length c294), (vi x_c.Old.N), (vs a16 x_c.Old.Key.length c17), (vi x_c.Old.Seq), (vi x_c.Old.Win.Top), (vs a21 x_c.Old.Win.Bits.length c22), (vb x_c.HasOld), (vi x_c.Until), (vs a142 (x_c.Next).length c143)] wN sizeOf_36 b312 ?_
   intro w7 k313 b314 z315
   have m316 := m286.ext k313 (fun k hk => by subst hk; exact p32)
   refine pu (vp g31 7) wN ?_
   refine st (va (L_36 (F_impl_copyEp x_c.Old) a300 c301 a305 c306)) (L_36 (F_impl_copyEp x_c.Old) a300 c301 a305 c306) [(vi x_c.Role), (vs a135 (x_c.Sn).length c136), (vi ((F_impl_copyEp x_c.Cur).N)), (vs a288 ((F_impl_copyEp x_c.Cur).Key).length c289), (vi ((F_impl_copyEp x_c.Cur).Seq)), (vi (((F_impl_copyEp x_c.Cur).Win).Top)), (vs a293 (((F_impl_copyEp x_c.Cur).Win).Bits).length c294), (vi ((F_impl_copyEp x_c.Old).N)), (vs a300 ((F_impl_copyEp x_c.Old).Key).length c301), (vi ((F_impl_copyEp x_c.Old).Seq)), (vi (((F_impl_copyEp x_c.Old).Win).Top)), (vs a305 (((F_impl_copyEp x_c.Old).Win).Bits).length c306), (vb x_c.HasOld), (vi x_c.Until), (vs a142 (x_c.Next).length c143)] wN sizeOf_36 b314 ?_
   intro w8 k317 b318 z319
   have m320 := m316.ext k317 (fun k hk => by subst hk; exact p32)
   refine nx ?_
   refine lN [(vi x_c.Role), (vs a135 (x_c.Sn).length c136), (vi ((F_impl_copyEp x_c.Cur).N)), (vs a288 ((F_impl_copyEp x_c.Cur).Key).length c289), (vi ((F_impl_copyEp x_c.Cur).Seq)), (vi (((F_impl_copyEp x_c.Cur).Win).Top)), (vs a293 (((F_impl_copyEp x_c.Cur).Win).Bits).length c294), (vi ((F_impl_copyEp x_c.Old).N)), (vs a300 ((F_impl_copyEp x_c.Old).Key).length c301), (vi ((F_impl_copyEp x_c.Old).Seq)), (vi (((F_impl_copyEp x_c.Old).Win).Top)), (vs a305 (((F_impl_copyEp x_c.Old).Win).Bits).length c306), (vb x_c.HasOld), (vi x_c.Until), (vs a142 (x_c.Next).length c143)] wN isAgg_38 sizeOf_38 b318 ?_
   have zz9 := Nat.lt_of_lt_of_le p33 (p38)
   have b321 := ((((((b41.kp k132).ch k150 (Ne.symm (Nat.ne_of_lt zz9))).ch k154 (Ne.symm (Nat.ne_of_lt zz9))).kp k285).ch k313 (Ne.symm (Nat.ne_of_lt zz9))).ch k317 (Ne.symm (Nat.ne_of_lt zz9)))
   refine st (va [(vi x_c.Role), (vs a135 (x_c.Sn).length c136), (vi ((F_impl_copyEp x_c.Cur).N)), (vs a288 ((F_impl_copyEp x_c.Cur).Key).length c289), (vi ((F_impl_copyEp x_c.Cur).Seq)), (vi (((F_impl_copyEp x_c.Cur).Win).Top)), (vs a293 (((F_impl_copyEp x_c.Cur).Win).Bits).length c294), (vi ((F_impl_copyEp x_c.Old).N)), (vs a300 ((F_impl_copyEp x_c.Old).Key).length c301), (vi ((F_impl_copyEp x_c.Old).Seq)), (vi (((F_impl_copyEp x_c.Old).Win).Top)), (vs a305 (((F_impl_copyEp x_c.Old).Win).Bits).length c306), (vb x_c.HasOld), (vi x_c.Until), (vs a142 (x_c.Next).length c143)]) [(vi x_c.Role), (vs a135 (x_c.Sn).length c136), (vi ((F_impl_copyEp x_c.Cur).N)), (vs a288 ((F_impl_copyEp x_c.Cur).Key).length c289), (vi ((F_impl_copyEp x_c.Cur).Seq)), (vi (((F_impl_copyEp x_c.Cur).Win).Top)), (vs a293 (((F_impl_copyEp x_c.Cur).Win).Bits).length c294), (vi ((F_impl_copyEp x_c.Old).N)), (vs a300 ((F_impl_copyEp x_c.Old).Key).length c301), (vi ((F_impl_copyEp x_c.Old).Seq)), (vi (((F_impl_copyEp x_c.Old).Win).Top)), (vs a305 (((F_impl_copyEp x_c.Old).Win).Bits).length c306), (vb x_c.HasOld), (vi x_c.Until), (vs a142 (x_c.Next).length c143)] [(vi x_c.Role), (vs a135 (x_c.Sn).length c136), (vi ((F_impl_copyEp x_c.Cur).N)), (vs a288 ((F_impl_copyEp x_c.Cur).Key).length c289), (vi ((F_impl_copyEp x_c.Cur).Seq)), (vi (((F_impl_copyEp x_c.Cur).Win).Top)), (vs a293 (((F_impl_copyEp x_c.Cur).Win).Bits).length c294), (vi ((F_impl_copyEp x_c.Old).N)), (vs a300 ((F_impl_copyEp x_c.Old).Key).length c301), (vi ((F_impl_copyEp x_c.Old).Seq)), (vi (((F_impl_copyEp x_c.Old).Win).Top)), (vs a305 (((F_impl_copyEp x_c.Old).Win).Bits).length c306), (vb x_c.HasOld), (vi x_c.Until), (vs a142 (x_c.Next).length c143)] wN sizeOf_38 b321 ?_
   intro w9 k322 b323 z324
   have m325 := m320.ext k322 (fun k hk => by subst hk; exact Nat.le_trans k34.size p38)
   refine n3 ?_
   have zz10 := Nat.lt_of_lt_of_le p33 k40.size
   have o326 := (own_ch (own_ch (own_ch (own_kp (own_ch (own_ch o137 k150 (ne1 o137 zz10)) k154 (ne1 o137 zz10)) k285) k313 (ne1 o137 zz10)) k317 (ne1 o137 zz10)) k322 (ne1 o137 (p39)))
   have o327 := (own_ch (own_ch (own_ch o290 k313 (ne1 o290 (Nat.lt_of_lt_of_le p33 (z4 k40 k132 k150 k154)))) k317 (ne1 o290 (Nat.lt_of_lt_of_le p33 (z4 k40 k132 k150 k154)))) k322 (ne1 o290 (Nat.lt_of_lt_of_le p39 (z3 k132 k150 k154))))
   have o328 := (own_ch (own_ch (own_ch o295 k313 (ne1 o295 (Nat.lt_of_lt_of_le p33 (z4 k40 k132 k150 k154)))) k317 (ne1 o295 (Nat.lt_of_lt_of_le p33 (z4 k40 k132 k150 k154)))) k322 (ne1 o295 (Nat.lt_of_lt_of_le p39 (z3 k132 k150 k154))))
   have o329 := (own_ch (own_ch (own_ch o302 k313 (ne1 o302 (Nat.lt_of_lt_of_le p33 (z4 k40 k132 k150 k154)))) k317 (ne1 o302 (Nat.lt_of_lt_of_le p33 (z4 k40 k132 k150 k154)))) k322 (ne1 o302 (Nat.lt_of_lt_of_le p39 (z3 k132 k150 k154))))
   have o330 := (own_ch (own_ch (own_ch o307 k313 (ne1 o307 (Nat.lt_of_lt_of_le p33 (z4 k40 k132 k150 k154)))) k317 (ne1 o307 (Nat.lt_of_lt_of_le p33 (z4 k40 k132 k150 k154)))) k322 (ne1 o307 (Nat.lt_of_lt_of_le p39 (z3 k132 k150 k154))))
   have zz11 := Nat.lt_of_lt_of_le p33 k40.size
   have o331 := (own_ch (own_ch (own_ch (own_kp (own_ch (own_ch o144 k150 (ne1 o144 zz11)) k154 (ne1 o144 zz11)) k285) k313 (ne1 o144 zz11)) k317 (ne1 o144 zz11)) k322 (ne1 o144 (p39)))
   refine ret_1 (.inl rfl) (va [(vi x_c.Role), (vs a135 (x_c.Sn).length c136), (vi ((F_impl_copyEp x_c.Cur).N)), (vs a288 ((F_impl_copyEp x_c.Cur).Key).length c289), (vi ((F_impl_copyEp x_c.Cur).Seq)), (vi (((F_impl_copyEp x_c.Cur).Win).Top)), (vs a293 (((F_impl_copyEp x_c.Cur).Win).Bits).length c294), (vi ((F_impl_copyEp x_c.Old).N)), (vs a300 ((F_impl_copyEp x_c.Old).Key).length c301), (vi ((F_impl_copyEp x_c.Old).Seq)), (vi (((F_impl_copyEp x_c.Old).Win).Top)), (vs a305 (((F_impl_copyEp x_c.Old).Win).Bits).length c306), (vb x_c.HasOld), (vi x_c.Until), (vs a142 (x_c.Next).length c143)]) rfl (rv_c [(vi x_c.Role), (vs a135 (x_c.Sn).length c136), (vi ((F_impl_copyEp x_c.Cur).N)), (vs a288 ((F_impl_copyEp x_c.Cur).Key).length c289), (vi ((F_impl_copyEp x_c.Cur).Seq)), (vi (((F_impl_copyEp x_c.Cur).Win).Top)), (vs a293 (((F_impl_copyEp x_c.Cur).Win).Bits).length c294), (vi ((F_impl_copyEp x_c.Old).N)), (vs a300 ((F_impl_copyEp x_c.Old).Key).length c301), (vi ((F_impl_copyEp x_c.Old).Seq)), (vi (((F_impl_copyEp x_c.Old).Win).Top)), (vs a305 (((F_impl_copyEp x_c.Old).Win).Bits).length c306), (vb x_c.HasOld), (vi x_c.Until), (vs a142 (x_c.Next).length c143)] rfl b323 isAgg_38 sizeOf_38) ?_
   refine ⟨m325.keep0, ?_⟩
   have hF332 : F_impl_copyChan x_c = { Role := x_c.Role, Sn := (x_c.Sn), Cur := (F_impl_copyEp x_c.Cur), Old := (F_impl_copyEp x_c.Old), HasOld := x_c.HasOld, Until := x_c.Until, Next := (x_c.Next) : PChan } := by rfl
   rw [hF332]
   have zz12 := z5 k34 k40 k132 k150 k154
   exact ⟨_, _, _, _, _, _, _, _, _, _, _, _, rfl, (own_lo o326 (z2 k34 k40)), s138, (own_lo o327 zz12), s291, (own_lo o328 zz12), s296, (own_lo o329 zz12), s303, (own_lo o330 zz12), s308, (own_lo o331 (z2 k34 k40)), s145, ⟨⟨(Ap.lt o137 o290 (z2 k150 k154)), ⟨(Ap.lt o137 o295 (z2 k150 k154)), ⟨(Ap.lt o137 o302 (z2 k150 k154)), ⟨(Ap.lt o137 o307 (z2 k150 k154)), ⟨hx148, trivial⟩⟩⟩⟩⟩, ⟨⟨(ap298.1.1), ⟨(hx311.1), ⟨(hx311.2.1), ⟨(Ap.lt o144 o290 (z2 k150 k154)).symm, trivial⟩⟩⟩⟩, ⟨⟨(hx311.2.2.1), ⟨(hx311.2.2.2), ⟨(Ap.lt o144 o295 (z2 k150 k154)).symm, trivial⟩⟩⟩, ⟨⟨(ap310.1.1), ⟨(Ap.lt o144 o302 (z2 k150 k154)).symm, trivial⟩⟩, ⟨⟨(Ap.lt o144 o307 (z2 k150 k154)).symm, trivial⟩, ⟨trivial, trivial⟩⟩⟩⟩⟩⟩⟩

def F_impl_isRole (x_role : Int) : (Bool) := bif (decide (x_role = 0)) then (true) else (decide (x_role = 1))
theorem C_impl_isRole (w0 : World) (x_role : Int)  : Fn Try.prog 59 #[(vi x_role)] w0 (fun v w' => Keep w0 w' ∧ O_4 w' w0.heap.size v (F_impl_isRole x_role)) := by
 refine fn_of (n := 9) (l := [(vi x_role), U, U, U, U, U, U, U, U]) Try.func59 rfl rfl (by kernel_rfl) rfl ?_
 refine sr ?_
 refine aw (vb false) ?_
 refine nx ?_
 refine mw (vi x_role) ?_
 refine pu (vb (decide (x_role = 0))) wN ?_
 refine mw (vb (decide (x_role = 0))) ?_
 rcases bt (decide (x_role = 0)) with h1 | h1
 ·have q2 := of_decide_eq_true h1
  refine sk h1 ?_
  refine sk h1 ?_
  refine pk (vb true) wN h1 ?_
  refine aw (vb true) ?_
  refine n3 ?_
  refine rt (vb true) ?_
  refine ⟨Ch.refl _ _, ?_⟩
  have hF3 : F_impl_isRole x_role = true := by simp only [F_impl_isRole, h1, cond_true, cond_false]
  rw [hF3]
  exact rfl
 have q4 := of_decide_eq_false h1
 refine mv (vi x_role) (wS h1) ?_
 refine pu (vb (decide (x_role = 1))) (wS h1) ?_
 refine pf (vb (decide (x_role = 1))) wN h1 ?_
 refine aw (vb (decide (x_role = 1))) ?_
 refine n3 ?_
 refine rt (vb (decide (x_role = 1))) ?_
 refine ⟨Ch.refl _ _, ?_⟩
 have hF5 : F_impl_isRole x_role = decide (x_role = 1) := by simp only [F_impl_isRole, h1, cond_true, cond_false]
 rw [hF5]
 exact rfl

def F_impl_isNonce (x_b : List UInt8) : (Bool) := decide ((x_b.length : Int) = 12)
theorem C_impl_isNonce (w0 : World) (v_x_b : Value) (x_b : List UInt8) (r_x_b : R_22 w0 v_x_b x_b)  : Fn Try.prog 60 #[v_x_b] w0 (fun v w' => Keep w0 w' ∧ O_4 w' w0.heap.size v (F_impl_isNonce x_b)) := by
 obtain ⟨a1, c2, rfl, r3, s4⟩ := r_x_b
 refine fn_of (n := 6) (l := [(vs a1 x_b.length c2), U, U, U, U, U]) Try.func60 rfl rfl (by kernel_rfl) rfl ?_
 refine sr ?_
 refine aw (vb false) ?_
 refine nx ?_
 refine mw (vs a1 x_b.length c2) ?_
 refine ln wN slTy_22 r3 ?_
 refine pu (vb (decide ((x_b.length : Int) = 12))) wN ?_
 refine aw (vb (decide ((x_b.length : Int) = 12))) ?_
 refine n3 ?_
 refine rt (vb (decide ((x_b.length : Int) = 12))) ?_
 refine ⟨Ch.refl _ _, ?_⟩
 have hF6 : F_impl_isNonce x_b = decide ((x_b.length : Int) = 12) := by rfl
 rw [hF6]
 exact rfl

def F_impl_hasBit (x_w : PWin) (x_n : Int) : (Bool) := decide ((((x_w.Bits.getD (((x_n % 1024) / 32)).toNat 0) / (2 : Int) ^ ((x_n % 32)).toNat) % 2) = 1)
theorem C_impl_hasBit (w0 : World) (v_x_w : Value) (x_w : PWin) (r_x_w : R_34 w0 v_x_w x_w) (x_n : Int) (pre0 : x_w.Bits.length = 32) (pre1 : 0 ≤ x_n) : Fn Try.prog 130 #[v_x_w, (vi x_n)] w0 (fun v w' => Keep w0 w' ∧ O_4 w' w0.heap.size v (F_impl_hasBit x_w x_n)) := by
 obtain ⟨a1, c2, rfl, r3, s4⟩ := r_x_w
 refine fn_of (n := 17) (l := [(va (L_34 x_w a1 c2)), (vi x_n), U, U, U, U, U, U, U, U, U, U, U, U, U, U, U]) Try.func130 rfl rfl (by kernel_rfl) rfl ?_
 refine sr ?_
 refine bx (L_34 x_w a1 c2) wN ?_
 intro g6 w1 p7 p8 k9 b10
 have m11 := (Ch.base w0).extk k9
 refine aw (vb false) ?_
 refine nx ?_
 refine pu (vp g6 1) wN ?_
 refine ld (vs a1 x_w.Bits.length c2) wN isAgg_32 b10 ?_
 refine mw (vi x_n) ?_
 refine wl_rem x_n 1024 wN rfl rfl (by kernel_rfl) (by first | omega | assumption) ?_
 refine wl_quo (x_n % 1024) 32 wN rfl rfl (by kernel_rfl) (by omega) (by omega) (by omega) ?_
 refine wl_index (v := (vs a1 x_w.Bits.length c2)) wN ((x_n % 1024) / 32) rfl rfl rfl slTy_32 rfl rfl (r3.from0 m11) (by first | omega | (simp only [List.length_cons, List.length_nil, List.length_replicate, List.length_append, List.length_take, List.length_set, List.length_map]; omega)) (by first | omega | (simp only [List.length_cons, List.length_nil, List.length_replicate, List.length_append, List.length_take, List.length_set, List.length_map]; omega)) ?_
 refine wl_loadE (iV (x_w.Bits.getD (((x_n % 1024) / 32)).toNat 0)) wN rfl rfl rfl rfl isAgg_3 (r3.from0 m11) (iget (by simp) (by first | omega | (simp only [List.length_cons, List.length_nil, List.length_replicate, List.length_append, List.length_take, List.length_set, List.length_map]; omega))) ?_
 refine mw (vi x_n) ?_
 refine wl_rem x_n 32 wN rfl rfl (by kernel_rfl) (by first | omega | assumption) ?_
 refine wl_shr (x_w.Bits.getD (((x_n % 1024) / 32)).toNat 0) (x_n % 32) wN rfl rfl rfl rfl rfl (by omega) (by omega) ?_
 refine wl_and ((x_w.Bits.getD (((x_n % 1024) / 32)).toNat 0) / (2 : Int) ^ ((x_n % 32)).toNat) 1 2 1 wN rfl rfl (by decide) (by decide) (by decide) (by kernel_rfl) ?_
 refine pu (vb (decide ((((x_w.Bits.getD (((x_n % 1024) / 32)).toNat 0) / (2 : Int) ^ ((x_n % 32)).toNat) % 2) = 1))) wN ?_
 refine aw (vb (decide ((((x_w.Bits.getD (((x_n % 1024) / 32)).toNat 0) / (2 : Int) ^ ((x_n % 32)).toNat) % 2) = 1))) ?_
 refine n3 ?_
 refine rt (vb (decide ((((x_w.Bits.getD (((x_n % 1024) / 32)).toNat 0) / (2 : Int) ^ ((x_n % 32)).toNat) % 2) = 1))) ?_
 refine ⟨m11.keep0, ?_⟩
 have hF12 : F_impl_hasBit x_w x_n = decide ((((x_w.Bits.getD (((x_n % 1024) / 32)).toNat 0) / (2 : Int) ^ ((x_n % 32)).toNat) % 2) = 1) := by rfl
 rw [hF12]
 exact rfl

def iWin (w : PWin) : Bool := bif F_impl_within w.Top (-1) 281474976710655 then (bif areW w.Bits 32 then (bif noneIn (F_impl_hasBit w) (w.Top + 1) 1024 then (decide (w.Top = -1) || F_impl_hasBit w w.Top) else false) else false) else false
theorem C_impl_WinOk (w0 : World) (v_x_w : Value) (x_w : PWin) (r_x_w : R_34 w0 v_x_w x_w)  : Fn Try.prog 95 #[v_x_w] w0 (fun v w' => Keep w0 w' ∧ O_4 w' w0.heap.size v (iWin x_w)) := by
 obtain ⟨a1, c2, rfl, r3, s4⟩ := r_x_w
 refine fn_of (n := 33) (l := [(va (L_34 x_w a1 c2)), U, U, U, U, U, U, U, U, U, U, U, U, U, U, U, U, U, U, U, U, U, U, U, U, U, U, U, U, U, U, U, U]) Try.func95 rfl rfl (by kernel_rfl) rfl ?_
 refine sr ?_
 refine bx (L_34 x_w a1 c2) wN ?_
 intro g6 w1 p7 p8 k9 b10
 have m11 := (Ch.base w0).extk k9
 refine aw (vb false) ?_
 refine n4 ?_
 refine pu (vp g6 0) wN ?_
 refine ld (vi x_w.Top) wN isAgg_3 b10 ?_
 refine cl wN (C_impl_within w1 x_w.Top (-1) 281474976710655) ?_
 rintro _ w2 ⟨k12, rfl⟩
 have m13 := m11.extk k12
 refine pu (vb (!(F_impl_within x_w.Top (-1) 281474976710655))) wN ?_
 refine mw (vb (!(F_impl_within x_w.Top (-1) 281474976710655))) ?_
 rcases bf (F_impl_within x_w.Top (-1) 281474976710655) with h14 | h14
 ·have q48 := impl_within_f h14
  refine sk (congrArg not h14) ?_
  refine sk (congrArg not h14) ?_
  refine sk (congrArg not h14) ?_
  refine sk (congrArg not h14) ?_
  refine pk (vb true) wN (congrArg not h14) ?_
  refine n2 ?_
  refine ct (Eq.refl true) ?_
  refine sr ?_
  refine aw (vb false) ?_
  refine n1 ?_
  refine rt (vb false) ?_
  refine ⟨m13.keep0, ?_⟩
  have hF49 : iWin x_w = false := by first | (simp [iWin, h14]; done) | (have hz := noneIn_f (f := F_impl_hasBit x_w) (a := x_w.Top + 1) (b := 1024) (q := q) (by assumption) (by omega) (by omega); simp [iWin, h14, hz]; done) | (have hz := noneIn_t (f := F_impl_hasBit x_w) (a := x_w.Top + 1) (b := 1024) (q := q) (by assumption) (by omega); simp [iWin, h14, hz]; done)
  rw [hF49]
  exact rfl
 have q15 := impl_within_t h14
 refine pu (vp g6 1) (wS (congrArg not h14)) ?_
 have b16 := (b10.kp k12)
 refine ld (vs a1 x_w.Bits.length c2) (wS (congrArg not h14)) isAgg_32 b16 ?_
 refine cl (wS (congrArg not h14)) (C_impl_areWords w2 _ x_w.Bits (mR_32 (r3.from0 m13) s4) 32) ?_
 rintro _ w3 ⟨k17, rfl⟩
 have m18 := m13.extk k17
 refine pu (vb (!(areW x_w.Bits 32))) (wS (congrArg not h14)) ?_
 refine pf (vb (!(areW x_w.Bits 32))) wN (congrArg not h14) ?_
 refine n2 ?_
 rcases bf (areW x_w.Bits 32) with h19 | h19
 ·refine ct (congrArg not h19) ?_
  refine sr ?_
  refine aw (vb false) ?_
  refine n1 ?_
  refine rt (vb false) ?_
  refine ⟨m18.keep0, ?_⟩
  have hF47 : iWin x_w = false := by first | (simp [iWin, h14, h19]; done) | (have hz := noneIn_f (f := F_impl_hasBit x_w) (a := x_w.Top + 1) (b := 1024) (q := q) (by assumption) (by omega) (by omega); simp [iWin, h14, h19, hz]; done) | (have hz := noneIn_t (f := F_impl_hasBit x_w) (a := x_w.Top + 1) (b := 1024) (q := q) (by assumption) (by omega); simp [iWin, h14, h19, hz]; done)
  rw [hF47]
  exact rfl
 have q20 := areW_t h19
 refine cf (congrArg not h19) ?_
 refine y2 ?_
 refine pu (vp g6 0) wN ?_
 have b21 := (b16.kp k17)
 refine ld (vi x_w.Top) wN isAgg_3 b21 ?_
 refine ar (x_w.Top + 1) wN ?_
 refine aw (vi (x_w.Top + 1)) ?_
 refine wl_nil <| wq_then <| wc_block ?_
 refine wc_loopQ (fun e => [e 0, (vp g6 0), e 2, (vi (x_w.Top + 1)), e 4, e 5, e 6, e 7, e 8, e 9, e 10, e 11, e 12, e 13, e 14, e 15, e 16, e 17, e 18, e 19, e 20, e 21, e 22, e 23, U, U, U, U, U, U, U, U, U]) rfl ⟨rfl, rfl, rfl, rfl, rfl, rfl, rfl, rfl, rfl, rfl, rfl, rfl, rfl, rfl, rfl, rfl, rfl, rfl, rfl, rfl, rfl, rfl, rfl, rfl, rfl, rfl, rfl, rfl, rfl, rfl, rfl, rfl, rfl, trivial⟩ (fun e' w' => ∃ (q : Int) (u22 : Nat → Value), e' = lst [(u22 0), (vp g6 0), (u22 1), (vi q), (u22 2), (u22 3), (u22 4), (u22 5), (u22 6), (u22 7), (u22 8), (u22 9), (u22 10), (u22 11), (u22 12), (u22 13), (u22 14), (u22 15), (u22 16), (u22 17), (u22 18), (u22 19), (u22 20), (u22 21), U, U, U, U, U, U, U, U, U] ∧ Ch (fun k => w0.heap.size ≤ k) w0 w' ∧ Ch (fun k => w3.heap.size ≤ k) w3 w' ∧ x_w.Top + 1 ≤ q ∧ q ≤ 281474976710656 ∧ ∀ m : Int, x_w.Top + 1 ≤ m → m < q → F_impl_hasBit x_w m = false) (fun e' _ => (1024 - (intOf (e' 3))).toNat) ?_ ?_
 ·exact fun u => ⟨(x_w.Top + 1), (unL [u 0, u 2, u 4, u 5, u 6, u 7, u 8, u 9, u 10, u 11, u 12, u 13, u 14, u 15, u 16, u 17, u 18, u 19, u 20, u 21, u 22, u 23]), rfl, m18, (Ch.refl (fun k => w3.heap.size ≤ k) w3), (by omega), (by omega), (by first | (intro m h1 h2; omega) | exact none_next (by assumption) (by assumption))⟩
 ·rintro _ w4 ⟨q, u22, rfl, m23, k24, i25, i26, i27⟩
  refine wc_seq <| sr ?_
  refine mw (vi q) ?_
  refine pu (vb (decide (q < 1024))) wN ?_
  refine n2 ?_
  rcases bf (decide (q < 1024)) with h28 | h28
  ·have q37 := of_decide_eq_false h28
   refine cf h28 ?_
   refine wc_exit <| wq_then_exit <| wq_then_exit <| wq_blk_exit <| wq_then <| sr ?_
   refine pu (vp g6 0) wN ?_
   have b38 := (b21.ch k24 (Nat.not_le.2 (Nat.lt_of_lt_of_le p8 (z2 k12 k17))))
   refine ld (vi x_w.Top) wN isAgg_3 b38 ?_
   refine pu (vb (decide (x_w.Top = (-1)))) wN ?_
   refine mw (vb (decide (x_w.Top = (-1)))) ?_
   rcases bt (decide (x_w.Top = (-1))) with h39 | h39
   ·have q40 := of_decide_eq_true h39
    refine sk h39 ?_
    refine sk h39 ?_
    refine sk h39 ?_
    refine sk h39 ?_
    refine pk (vb true) wN h39 ?_
    refine aw (vb true) ?_
    refine n3 ?_
    refine rt (vb true) ?_
    refine ⟨m23.keep0, ?_⟩
    have hF41 : iWin x_w = true := by first | (simp [iWin, h14, h19, h28, h39]; done) | (have hz := noneIn_f (f := F_impl_hasBit x_w) (a := x_w.Top + 1) (b := 1024) (q := q) (by assumption) (by omega) (by omega); simp [iWin, h14, h19, h28, h39, hz]; done) | (have hz := noneIn_t (f := F_impl_hasBit x_w) (a := x_w.Top + 1) (b := 1024) (q := q) (by assumption) (by omega); simp [iWin, h14, h19, h28, h39, hz]; done)
    rw [hF41]
    exact rfl
   have q42 := of_decide_eq_false h39
   refine lN (L_34 x_w a1 c2) (wS h39) isAgg_34 sizeOf_34 b38 ?_
   refine pu (vp g6 0) (wS h39) ?_
   refine ld (vi x_w.Top) (wS h39) isAgg_3 b38 ?_
   refine cl (wS h39) (C_impl_hasBit w4 _ x_w (mR_34 (r3.from0 m23) s4) x_w.Top (by first | assumption | omega) (by first | assumption | omega)) ?_
   rintro _ w5 ⟨k43, rfl⟩
   have m44 := m23.extk k43
   refine pf (vb (F_impl_hasBit x_w x_w.Top)) wN h39 ?_
   refine aw (vb (F_impl_hasBit x_w x_w.Top)) ?_
   refine n3 ?_
   refine rt (vb (F_impl_hasBit x_w x_w.Top)) ?_
   refine ⟨m44.keep0, ?_⟩
   have hF45 : iWin x_w = (F_impl_hasBit x_w x_w.Top) := by first | (simp [iWin, h14, h19, h28, h39]; done) | (have hz := noneIn_f (f := F_impl_hasBit x_w) (a := x_w.Top + 1) (b := 1024) (q := q) (by assumption) (by omega) (by omega); simp [iWin, h14, h19, h28, h39, hz]; done) | (have hz := noneIn_t (f := F_impl_hasBit x_w) (a := x_w.Top + 1) (b := 1024) (q := q) (by assumption) (by omega); simp [iWin, h14, h19, h28, h39, hz]; done)
   rw [hF45]
   exact rfl
  have q29 := of_decide_eq_true h28
  refine ct h28 ?_
  refine wc_skip <| wq_then <| wc_seq <| wc_block <| sr ?_
  have b30 := (b21.ch k24 (Nat.not_le.2 (Nat.lt_of_lt_of_le p8 (z2 k12 k17))))
  refine lN (L_34 x_w a1 c2) wN isAgg_34 sizeOf_34 b30 ?_
  refine mw (vi q) ?_
  refine cl wN (C_impl_hasBit w4 _ x_w (mR_34 (r3.from0 m23) s4) q (by first | assumption | omega) (by first | assumption | omega)) ?_
  rintro _ w5 ⟨k31, rfl⟩
  have m32 := m23.extk k31
  refine n2 ?_
  rcases bt (F_impl_hasBit x_w q) with h33 | h33
  ·refine ct h33 ?_
   refine sr ?_
   refine aw (vb false) ?_
   refine wl_nil <| wq_then <| wc_ret <| wq_blk_ret <| wq_then_ret <| wq_then_ret <| wq_blk_ret <| wq_then_ret ?_
   refine rt (vb false) ?_
   refine ⟨m32.keep0, ?_⟩
   have hF35 : iWin x_w = false := by first | (simp [iWin, h14, h19, h28, h33]; done) | (have hz := noneIn_f (f := F_impl_hasBit x_w) (a := x_w.Top + 1) (b := 1024) (q := q) (by assumption) (by omega) (by omega); simp [iWin, h14, h19, h28, h33, hz]; done) | (have hz := noneIn_t (f := F_impl_hasBit x_w) (a := x_w.Top + 1) (b := 1024) (q := q) (by assumption) (by omega); simp [iWin, h14, h19, h28, h33, hz]; done)
   rw [hF35]
   exact rfl
  refine cf h33 ?_
  refine wc_skip <| wq_blk_normal <| wq_then <| wc_region ?_
  refine mw (vi q) ?_
  refine ar (q + 1) wN ?_
  refine aw (vi (q + 1)) ?_
  refine wl_nil ?_
  refine wq_loopQ (w0 := w4) (fun e => [e 0, (vp g6 0), e 2, (vi (q + 1)), e 4, e 5, e 6, e 7, e 8, e 9, e 10, e 11, e 12, e 13, e 14, e 15, e 16, e 17, e 18, e 19, e 20, e 21, e 22, e 23, U, U, U, U, U, U, U, U, U]) rfl ?_ ?_ ?_
  · exact ⟨rfl, rfl, rfl, rfl, rfl, rfl, rfl, rfl, rfl, rfl, rfl, rfl, rfl, rfl, rfl, rfl, rfl, rfl, rfl, rfl, rfl, rfl, rfl, rfl, rfl, rfl, rfl, rfl, rfl, rfl, rfl, rfl, rfl, trivial⟩
  · exact fun u => ⟨(q + 1), (unL [u 0, u 2, u 4, u 5, u 6, u 7, u 8, u 9, u 10, u 11, u 12, u 13, u 14, u 15, u 16, u 17, u 18, u 19, u 20, u 21, u 22, u 23]), rfl, m32, (((Ch.refl (fun k => w3.heap.size ≤ k) w3).ext k24 (fun k hk => hk)).extk k31), (by omega), (by omega), (by first | (intro m h1 h2; omega) | exact none_next (by assumption) (by assumption))⟩
  · show (1024 - (q + 1)).toNat < (1024 - q).toNat; omega

def F_impl_EpOk (x_e : PEp) : (Bool) := bif (F_impl_within x_e.N 0 4294967295) then (bif (decide ((x_e.Key.length : Int) = 32)) then (bif (F_impl_within x_e.Seq 0 281474976710656) then ((iWin x_e.Win)) else (false)) else (false)) else (false)
theorem C_impl_EpOk (w0 : World) (v_x_e : Value) (x_e : PEp) (r_x_e : R_36 w0 v_x_e x_e)  : Fn Try.prog 61 #[v_x_e] w0 (fun v w' => Keep w0 w' ∧ O_4 w' w0.heap.size v (F_impl_EpOk x_e)) := by
 obtain ⟨a1, c2, a6, c7, rfl, r3, s4, r8, s9⟩ := r_x_e
 refine fn_of (n := 22) (l := [(va (L_36 x_e a1 c2 a6 c7)), U, U, U, U, U, U, U, U, U, U, U, U, U, U, U, U, U, U, U, U, U]) Try.func61 rfl rfl (by kernel_rfl) rfl ?_
 refine sr ?_
 refine bx (L_36 x_e a1 c2 a6 c7) wN ?_
 intro g11 w1 p12 p13 k14 b15
 have m16 := (Ch.base w0).extk k14
 refine aw (vb false) ?_
 refine nx ?_
 refine pu (vp g11 0) wN ?_
 refine ld (vi x_e.N) wN isAgg_3 b15 ?_
 refine cl wN (C_impl_within w1 x_e.N 0 4294967295) ?_
 rintro _ w2 ⟨k17, rfl⟩
 have m18 := m16.extk k17
 refine mw (vb (F_impl_within x_e.N 0 4294967295)) ?_
 rcases bf (F_impl_within x_e.N 0 4294967295) with h19 | h19
 ·have q36 := impl_within_f h19
  refine sk h19 ?_
  refine sk h19 ?_
  refine sk h19 ?_
  refine sk h19 ?_
  refine pf (vb false) wN h19 ?_
  refine mw (vb false) ?_
  refine sk F1 ?_
  refine sk F1 ?_
  refine sk F1 ?_
  refine pf (vb false) wN (Eq.refl false) ?_
  refine mw (vb false) ?_
  refine sk F1 ?_
  refine sk F1 ?_
  refine sk F1 ?_
  refine pf (vb false) wN (Eq.refl false) ?_
  refine aw (vb false) ?_
  refine n3 ?_
  refine rt (vb false) ?_
  refine ⟨m18.keep0, ?_⟩
  have hF37 : F_impl_EpOk x_e = false := by simp only [F_impl_EpOk, h19, cond_true, cond_false]
  rw [hF37]
  exact rfl
 have q20 := impl_within_t h19
 refine pu (vp g11 1) (wS h19) ?_
 have b21 := (b15.kp k17)
 refine ld (vs a1 x_e.Key.length c2) (wS h19) isAgg_22 b21 ?_
 refine ln (wS h19) slTy_22 (r3.from0 m18) ?_
 refine pu (vb (decide ((x_e.Key.length : Int) = 32))) (wS h19) ?_
 refine pk (vb (decide ((x_e.Key.length : Int) = 32))) wN h19 ?_
 refine mw (vb (decide ((x_e.Key.length : Int) = 32))) ?_
 rcases bf (decide ((x_e.Key.length : Int) = 32)) with h22 | h22
 ·have q34 := of_decide_eq_false h22
  refine sk h22 ?_
  refine sk h22 ?_
  refine sk h22 ?_
  refine pf (vb false) wN h22 ?_
  refine mw (vb false) ?_
  refine sk F1 ?_
  refine sk F1 ?_
  refine sk F1 ?_
  refine pf (vb false) wN (Eq.refl false) ?_
  refine aw (vb false) ?_
  refine n3 ?_
  refine rt (vb false) ?_
  refine ⟨m18.keep0, ?_⟩
  have hF35 : F_impl_EpOk x_e = false := by simp only [F_impl_EpOk, h19, h22, cond_true, cond_false]
  rw [hF35]
  exact rfl
 have q23 := of_decide_eq_true h22
 refine pu (vp g11 2) (wS h22) ?_
 refine ld (vi x_e.Seq) (wS h22) isAgg_3 b21 ?_
 refine cl (wS h22) (C_impl_within w2 x_e.Seq 0 281474976710656) ?_
 rintro _ w3 ⟨k24, rfl⟩
 have m25 := m18.extk k24
 refine pk (vb (F_impl_within x_e.Seq 0 281474976710656)) wN h22 ?_
 refine mw (vb (F_impl_within x_e.Seq 0 281474976710656)) ?_
 rcases bf (F_impl_within x_e.Seq 0 281474976710656) with h26 | h26
 ·have q32 := impl_within_f h26
  refine sk h26 ?_
  refine sk h26 ?_
  refine sk h26 ?_
  refine pf (vb false) wN h26 ?_
  refine aw (vb false) ?_
  refine n3 ?_
  refine rt (vb false) ?_
  refine ⟨m25.keep0, ?_⟩
  have hF33 : F_impl_EpOk x_e = false := by simp only [F_impl_EpOk, h19, h22, h26, cond_true, cond_false]
  rw [hF33]
  exact rfl
 have q27 := impl_within_t h26
 refine pu (vp g11 3) (wS h26) ?_
 have b28 := (b21.kp k24)
 refine lN (L_34 x_e.Win a6 c7) (wS h26) isAgg_34 sizeOf_34 b28 ?_
 refine cl (wS h26) (C_impl_WinOk w3 _ x_e.Win (mR_34 (r8.from0 m25) s9)) ?_
 rintro _ w4 ⟨k29, rfl⟩
 have m30 := m25.extk k29
 refine pk (vb (iWin x_e.Win)) wN h26 ?_
 refine aw (vb (iWin x_e.Win)) ?_
 refine n3 ?_
 refine rt (vb (iWin x_e.Win)) ?_
 refine ⟨m30.keep0, ?_⟩
 have hF31 : F_impl_EpOk x_e = (iWin x_e.Win) := by simp only [F_impl_EpOk, h19, h22, h26, cond_true, cond_false]
 rw [hF31]
 exact rfl
theorem impl_EpOk_t {e : PEp} (h : F_impl_EpOk e = true) : 0 ≤ e.N ∧ e.N ≤ 4294967295 ∧ (e.Key.length : Int) = 32 := by
  cases h1 : F_impl_within e.N 0 4294967295 with
  | false => simp [F_impl_EpOk, h1] at h
  | true =>
    have := impl_within_t h1
    by_cases h2 : (e.Key.length : Int) = 32
    · exact ⟨this.1, this.2, h2⟩
    · simp [F_impl_EpOk, h1, h2] at h

theorem C_impl_sameInts (w0 : World) (v_x_a : Value) (x_a : List Int) (r_x_a : R_32 w0 v_x_a x_a) (v_x_b : Value) (x_b : List Int) (r_x_b : R_32 w0 v_x_b x_b)  : Fn Try.prog 131 #[v_x_a, v_x_b] w0 (fun v w' => Keep w0 w' ∧ O_4 w' w0.heap.size v (eqI x_a x_b)) := by
 obtain ⟨a1, c2, rfl, r3, s4⟩ := r_x_a
 obtain ⟨a6, c7, rfl, r8, s9⟩ := r_x_b
 refine fn_of (n := 26) (l := [(vs a1 x_a.length c2), (vs a6 x_b.length c7), U, U, U, U, U, U, U, U, U, U, U, U, U, U, U, U, U, U, U, U, U, U, U, U]) Try.func131 rfl rfl (by kernel_rfl) rfl ?_
 refine sr ?_
 refine aw (vb false) ?_
 refine n4 ?_
 refine mw (vs a1 x_a.length c2) ?_
 refine ln wN slTy_32 r3 ?_
 refine mw (vs a6 x_b.length c7) ?_
 refine ln wN slTy_32 r8 ?_
 refine pu (vb (!(decide ((x_a.length : Int) = (x_b.length : Int))))) wN ?_
 refine n2 ?_
 rcases bf (decide ((x_a.length : Int) = (x_b.length : Int))) with h11 | h11
 ·have q26 := of_decide_eq_false h11
  refine ct (congrArg not h11) ?_
  refine sr ?_
  refine aw (vb false) ?_
  refine n1 ?_
  refine rt (vb false) ?_
  refine ⟨Ch.refl _ _, ?_⟩
  have hF27 : eqI x_a x_b = false := by first | exact eqI_len (by assumption) | exact eqI_el (by assumption) | exact eqI_all (by assumption) (by omega) (by omega)
  rw [hF27]
  exact rfl
 have q12 := of_decide_eq_true h11
 refine cf (congrArg not h11) ?_
 refine y2 ?_
 refine mw (vs a1 x_a.length c2) ?_
 refine ln wN slTy_32 r3 ?_
 refine mw (vi 0) ?_
 refine wl_nil <| wq_then <| wc_block ?_
 refine wc_loopQ (fun e => [e 0, (vs a6 x_b.length c7), e 2, e 3, e 4, e 5, e 6, e 7, e 8, e 9, e 10, e 11, (vs a1 x_a.length c2), (vi (x_a.length : Int)), (vi ((0 : Nat) : Int)), e 15, e 16, e 17, e 18, e 19, e 20, e 21, e 22, e 23, e 24, e 25]) rfl ⟨rfl, rfl, rfl, rfl, rfl, rfl, rfl, rfl, rfl, rfl, rfl, rfl, rfl, rfl, (congrArg (Value.int .i64) (show (0 : Int) = ((0 : Nat) : Int) by omega)), rfl, rfl, rfl, rfl, rfl, rfl, rfl, rfl, rfl, rfl, rfl, trivial⟩ (fun e' w' => ∃ (k : Nat) (u13 : Nat → Value), e' = lst [(u13 0), (vs a6 x_b.length c7), (u13 1), (u13 2), (u13 3), (u13 4), (u13 5), (u13 6), (u13 7), (u13 8), (u13 9), (u13 10), (vs a1 x_a.length c2), (vi (x_a.length : Int)), (vi ((k : Nat) : Int)), (u13 11), (u13 12), (u13 13), (u13 14), (u13 15), (u13 16), (u13 17), (u13 18), (u13 19), (u13 20), (u13 21)] ∧ Ch (fun k => w0.heap.size ≤ k) w0 w' ∧ Ch (fun k => w0.heap.size ≤ k) w0 w' ∧ k ≤ x_a.length ∧ x_a.take k = x_b.take k) (fun e' _ => x_a.length - ((intOf (e' 14))).toNat) ?_ ?_
 ·exact fun u => ⟨0, (unL [u 0, u 2, u 3, u 4, u 5, u 6, u 7, u 8, u 9, u 10, u 11, u 15, u 16, u 17, u 18, u 19, u 20, u 21, u 22, u 23, u 24, u 25]), rfl, (Ch.base w0), (Ch.refl (fun k => w0.heap.size ≤ k) w0), (by omega), (by first | rfl | exact eqI_next (by assumption) (by omega) (by omega) (by assumption))⟩
 ·rintro _ w1 ⟨k, u13, rfl, m14, k15, i16, i17⟩
  refine sr ?_
  refine pu (vb (decide (((k : Nat) : Int) < (x_a.length : Int)))) wN ?_
  refine wl_nil <| wq_then <| wc_seq ?_
  rcases bf (decide (((k : Nat) : Int) < (x_a.length : Int))) with h18 | h18
  ·have q24 := of_decide_eq_false h18
   refine cf h18 ?_
   refine wc_exit <| wq_then_exit <| wq_then_exit <| wq_blk_exit <| wq_then <| sr ?_
   refine aw (vb true) ?_
   refine n3 ?_
   refine rt (vb true) ?_
   refine ⟨m14.keep0, ?_⟩
   have hF25 : eqI x_a x_b = true := by first | exact eqI_len (by assumption) | exact eqI_el (by assumption) | exact eqI_all (by assumption) (by omega) (by omega)
   rw [hF25]
   exact rfl
  have q19 := of_decide_eq_true h18
  refine ct h18 ?_
  refine wc_skip <| wq_then <| wc_seq <| wc_block <| sr ?_
  refine mw (vi ((k : Nat) : Int)) ?_
  refine wl_index (v := (vs a1 x_a.length c2)) wN ((k : Nat) : Int) rfl rfl rfl slTy_32 rfl rfl (r3.from0 m14) (by first | omega | (simp only [List.length_cons, List.length_nil, List.length_replicate, List.length_append, List.length_take, List.length_set, List.length_map]; omega)) (by first | omega | (simp only [List.length_cons, List.length_nil, List.length_replicate, List.length_append, List.length_take, List.length_set, List.length_map]; omega)) ?_
  refine wl_loadE (iV (x_a.getD k 0)) wN rfl rfl rfl rfl isAgg_3 (r3.from0 m14) (iget (by simp) (by first | omega | (simp only [List.length_cons, List.length_nil, List.length_replicate, List.length_append, List.length_take, List.length_set, List.length_map]; omega))) ?_
  refine aw (vi ((k : Nat) : Int)) ?_
  refine aw (vi (x_a.getD k 0)) ?_
  refine nx ?_
  refine mw (vi (x_a.getD k 0)) ?_
  refine mw (vs a6 x_b.length c7) ?_
  refine mw (vi ((k : Nat) : Int)) ?_
  refine wl_index (v := (vs a6 x_b.length c7)) wN ((k : Nat) : Int) rfl rfl rfl slTy_32 rfl rfl (r8.from0 m14) (by first | omega | (simp only [List.length_cons, List.length_nil, List.length_replicate, List.length_append, List.length_take, List.length_set, List.length_map]; omega)) (by first | omega | (simp only [List.length_cons, List.length_nil, List.length_replicate, List.length_append, List.length_take, List.length_set, List.length_map]; omega)) ?_
  refine wl_loadE (iV (x_b.getD k 0)) wN rfl rfl rfl rfl isAgg_3 (r8.from0 m14) (iget (by simp) (by first | omega | (simp only [List.length_cons, List.length_nil, List.length_replicate, List.length_append, List.length_take, List.length_set, List.length_map]; omega))) ?_
  refine pu (vb (!(decide ((x_a.getD k 0) = (x_b.getD k 0))))) wN ?_
  refine n2 ?_
  rcases bf (decide ((x_a.getD k 0) = (x_b.getD k 0))) with h20 | h20
  ·have q22 := of_decide_eq_false h20
   refine ct (congrArg not h20) ?_
   refine sr ?_
   refine aw (vb false) ?_
   refine wl_nil <| wq_then <| wc_ret <| wq_blk_ret <| wq_then_ret <| wq_then_ret <| wq_blk_ret <| wq_then_ret ?_
   refine rt (vb false) ?_
   refine ⟨m14.keep0, ?_⟩
   have hF23 : eqI x_a x_b = false := by first | exact eqI_len (by assumption) | exact eqI_el (by assumption) | exact eqI_all (by assumption) (by omega) (by omega)
   rw [hF23]
   exact rfl
  have q21 := of_decide_eq_true h20
  refine cf (congrArg not h20) ?_
  refine wc_skip <| wq_blk_normal <| wq_then <| wc_region ?_
  refine ar (((k : Nat) : Int) + 1) wN ?_
  refine mw (vi (((k : Nat) : Int) + 1)) ?_
  refine wl_nil ?_
  refine wq_loopQ (w0 := w1) (fun e => [e 0, (vs a6 x_b.length c7), e 2, e 3, e 4, e 5, e 6, e 7, e 8, e 9, e 10, e 11, (vs a1 x_a.length c2), (vi (x_a.length : Int)), (vi (((k + 1) : Nat) : Int)), e 15, e 16, e 17, e 18, e 19, e 20, e 21, e 22, e 23, e 24, e 25]) rfl ?_ ?_ ?_
  · exact ⟨rfl, rfl, rfl, rfl, rfl, rfl, rfl, rfl, rfl, rfl, rfl, rfl, rfl, rfl, (congrArg (Value.int .i64) (show ((((k : Nat) : Int) + 1) : Int) = (((k + 1) : Nat) : Int) by omega)), rfl, rfl, rfl, rfl, rfl, rfl, rfl, rfl, rfl, rfl, rfl, trivial⟩
  · exact fun u => ⟨(k + 1), (unL [u 0, u 2, u 3, u 4, u 5, u 6, u 7, u 8, u 9, u 10, u 11, u 15, u 16, u 17, u 18, u 19, u 20, u 21, u 22, u 23, u 24, u 25]), rfl, m14, ((Ch.refl (fun k => w0.heap.size ≤ k) w0).ext k15 (fun k hk => hk)), (by omega), (by first | rfl | exact eqI_next (by assumption) (by omega) (by omega) (by assumption))⟩
  · show x_a.length - ((((k + 1) : Nat) : Int)).toNat < x_a.length - (((k : Nat) : Int)).toNat; omega

def F_impl_sameEp (x_a : PEp) (x_b : PEp) : (Bool) := bif (decide (x_a.N = x_b.N)) then (bif (F_bytes_Equal x_a.Key x_b.Key) then (bif (decide (x_a.Seq = x_b.Seq)) then (bif (decide (x_a.Win.Top = x_b.Win.Top)) then ((eqI x_a.Win.Bits x_b.Win.Bits)) else (false)) else (false)) else (false)) else (false)
theorem C_impl_sameEp (w0 : World) (v_x_a : Value) (x_a : PEp) (r_x_a : R_36 w0 v_x_a x_a) (v_x_b : Value) (x_b : PEp) (r_x_b : R_36 w0 v_x_b x_b)  : Fn Try.prog 96 #[v_x_a, v_x_b] w0 (fun v w' => Keep w0 w' ∧ O_4 w' w0.heap.size v (F_impl_sameEp x_a x_b)) := by
 obtain ⟨a1, c2, a6, c7, rfl, r3, s4, r8, s9⟩ := r_x_a
 obtain ⟨a11, c12, a16, c17, rfl, r13, s14, r18, s19⟩ := r_x_b
 refine fn_of (n := 42) (l := [(va (L_36 x_a a1 c2 a6 c7)), (va (L_36 x_b a11 c12 a16 c17)), U, U, U, U, U, U, U, U, U, U, U, U, U, U, U, U, U, U, U, U, U, U, U, U, U, U, U, U, U, U, U, U, U, U, U, U, U, U, U, U]) Try.func96 rfl rfl (by kernel_rfl) rfl ?_
 refine sr ?_
 refine bx (L_36 x_a a1 c2 a6 c7) wN ?_
 intro g21 w1 p22 p23 k24 b25
 have m26 := (Ch.base w0).extk k24
 refine bx (L_36 x_b a11 c12 a16 c17) wN ?_
 intro g27 w2 p28 p29 k30 b31
 have m32 := m26.extk k30
 refine aw (vb false) ?_
 refine nx ?_
 refine pu (vp g21 0) wN ?_
 have b33 := (b25.kp k30)
 refine ld (vi x_a.N) wN isAgg_3 b33 ?_
 refine pu (vp g27 0) wN ?_
 refine ld (vi x_b.N) wN isAgg_3 b31 ?_
 refine pu (vb (decide (x_a.N = x_b.N))) wN ?_
 refine mw (vb (decide (x_a.N = x_b.N))) ?_
 rcases bf (decide (x_a.N = x_b.N)) with h34 | h34
 ·have q55 := of_decide_eq_false h34
  refine sk h34 ?_
  refine sk h34 ?_
  refine sk h34 ?_
  refine sk h34 ?_
  refine sk h34 ?_
  refine pf (vb false) wN h34 ?_
  refine mw (vb false) ?_
  refine sk F1 ?_
  refine sk F1 ?_
  refine sk F1 ?_
  refine sk F1 ?_
  refine sk F1 ?_
  refine pf (vb false) wN (Eq.refl false) ?_
  refine mw (vb false) ?_
  refine sk F1 ?_
  refine sk F1 ?_
  refine sk F1 ?_
  refine sk F1 ?_
  refine sk F1 ?_
  refine sk F1 ?_
  refine sk F1 ?_
  refine pf (vb false) wN (Eq.refl false) ?_
  refine mw (vb false) ?_
  refine sk F1 ?_
  refine sk F1 ?_
  refine sk F1 ?_
  refine sk F1 ?_
  refine sk F1 ?_
  refine sk F1 ?_
  refine sk F1 ?_
  refine pf (vb false) wN (Eq.refl false) ?_
  refine aw (vb false) ?_
  refine n3 ?_
  refine rt (vb false) ?_
  refine ⟨m32.keep0, ?_⟩
  have hF56 : F_impl_sameEp x_a x_b = false := by simp only [F_impl_sameEp, h34, cond_true, cond_false]
  rw [hF56]
  exact rfl
 have q35 := of_decide_eq_true h34
 refine pu (vp g21 1) (wS h34) ?_
 refine ld (vs a1 x_a.Key.length c2) (wS h34) isAgg_22 b33 ?_
 refine pu (vp g27 1) (wS h34) ?_
 refine ld (vs a11 x_b.Key.length c12) (wS h34) isAgg_22 b31 ?_
 refine cl (wS h34) (C_bytes_Equal w2 _ x_a.Key (mR_22 (r3.from0 m32) s4) _ x_b.Key (mR_22 (r13.from0 m32) s14)) ?_
 rintro _ w3 ⟨k36, rfl⟩
 have m37 := m32.extk k36
 refine pk (vb (F_bytes_Equal x_a.Key x_b.Key)) wN h34 ?_
 refine mw (vb (F_bytes_Equal x_a.Key x_b.Key)) ?_
 rcases bf (F_bytes_Equal x_a.Key x_b.Key) with h38 | h38
 ·refine sk h38 ?_
  refine sk h38 ?_
  refine sk h38 ?_
  refine sk h38 ?_
  refine sk h38 ?_
  refine pf (vb false) wN h38 ?_
  refine mw (vb false) ?_
  refine sk F1 ?_
  refine sk F1 ?_
  refine sk F1 ?_
  refine sk F1 ?_
  refine sk F1 ?_
  refine sk F1 ?_
  refine sk F1 ?_
  refine pf (vb false) wN (Eq.refl false) ?_
  refine mw (vb false) ?_
  refine sk F1 ?_
  refine sk F1 ?_
  refine sk F1 ?_
  refine sk F1 ?_
  refine sk F1 ?_
  refine sk F1 ?_
  refine sk F1 ?_
  refine pf (vb false) wN (Eq.refl false) ?_
  refine aw (vb false) ?_
  refine n3 ?_
  refine rt (vb false) ?_
  refine ⟨m37.keep0, ?_⟩
  have hF54 : F_impl_sameEp x_a x_b = false := by simp only [F_impl_sameEp, h34, h38, cond_true, cond_false]
  rw [hF54]
  exact rfl
 refine pu (vp g21 2) (wS h38) ?_
 have b40 := (b33.kp k36)
 refine ld (vi x_a.Seq) (wS h38) isAgg_3 b40 ?_
 refine pu (vp g27 2) (wS h38) ?_
 have b41 := (b31.kp k36)
 refine ld (vi x_b.Seq) (wS h38) isAgg_3 b41 ?_
 refine pu (vb (decide (x_a.Seq = x_b.Seq))) (wS h38) ?_
 refine pk (vb (decide (x_a.Seq = x_b.Seq))) wN h38 ?_
 refine mw (vb (decide (x_a.Seq = x_b.Seq))) ?_
 rcases bf (decide (x_a.Seq = x_b.Seq)) with h42 | h42
 ·have q51 := of_decide_eq_false h42
  refine sk h42 ?_
  refine sk h42 ?_
  refine sk h42 ?_
  refine sk h42 ?_
  refine sk h42 ?_
  refine sk h42 ?_
  refine sk h42 ?_
  refine pf (vb false) wN h42 ?_
  refine mw (vb false) ?_
  refine sk F1 ?_
  refine sk F1 ?_
  refine sk F1 ?_
  refine sk F1 ?_
  refine sk F1 ?_
  refine sk F1 ?_
  refine sk F1 ?_
  refine pf (vb false) wN (Eq.refl false) ?_
  refine aw (vb false) ?_
  refine n3 ?_
  refine rt (vb false) ?_
  refine ⟨m37.keep0, ?_⟩
  have hF52 : F_impl_sameEp x_a x_b = false := by simp only [F_impl_sameEp, h34, h38, h42, cond_true, cond_false]
  rw [hF52]
  exact rfl
 have q43 := of_decide_eq_true h42
 refine pu (vp g21 3) (wS h42) ?_
 refine pu (vp g21 3) (wS h42) ?_
 refine ld (vi x_a.Win.Top) (wS h42) isAgg_3 b40 ?_
 refine pu (vp g27 3) (wS h42) ?_
 refine pu (vp g27 3) (wS h42) ?_
 refine ld (vi x_b.Win.Top) (wS h42) isAgg_3 b41 ?_
 refine pu (vb (decide (x_a.Win.Top = x_b.Win.Top))) (wS h42) ?_
 refine pk (vb (decide (x_a.Win.Top = x_b.Win.Top))) wN h42 ?_
 refine mw (vb (decide (x_a.Win.Top = x_b.Win.Top))) ?_
 rcases bf (decide (x_a.Win.Top = x_b.Win.Top)) with h44 | h44
 ·have q49 := of_decide_eq_false h44
  refine sk h44 ?_
  refine sk h44 ?_
  refine sk h44 ?_
  refine sk h44 ?_
  refine sk h44 ?_
  refine sk h44 ?_
  refine sk h44 ?_
  refine pf (vb false) wN h44 ?_
  refine aw (vb false) ?_
  refine n3 ?_
  refine rt (vb false) ?_
  refine ⟨m37.keep0, ?_⟩
  have hF50 : F_impl_sameEp x_a x_b = false := by simp only [F_impl_sameEp, h34, h38, h42, h44, cond_true, cond_false]
  rw [hF50]
  exact rfl
 have q45 := of_decide_eq_true h44
 refine pu (vp g21 3) (wS h44) ?_
 refine pu (vp g21 4) (wS h44) ?_
 refine ld (vs a6 x_a.Win.Bits.length c7) (wS h44) isAgg_32 b40 ?_
 refine pu (vp g27 3) (wS h44) ?_
 refine pu (vp g27 4) (wS h44) ?_
 refine ld (vs a16 x_b.Win.Bits.length c17) (wS h44) isAgg_32 b41 ?_
 refine cl (wS h44) (C_impl_sameInts w3 _ x_a.Win.Bits (mR_32 (r8.from0 m37) s9) _ x_b.Win.Bits (mR_32 (r18.from0 m37) s19)) ?_
 rintro _ w4 ⟨k46, rfl⟩
 have m47 := m37.extk k46
 refine pk (vb (eqI x_a.Win.Bits x_b.Win.Bits)) wN h44 ?_
 refine aw (vb (eqI x_a.Win.Bits x_b.Win.Bits)) ?_
 refine n3 ?_
 refine rt (vb (eqI x_a.Win.Bits x_b.Win.Bits)) ?_
 refine ⟨m47.keep0, ?_⟩
 have hF48 : F_impl_sameEp x_a x_b = (eqI x_a.Win.Bits x_b.Win.Bits) := by simp only [F_impl_sameEp, h34, h38, h42, h44, cond_true, cond_false]
 rw [hF48]
 exact rfl
end Go.Proofs.Ytafcngfnhhchjaa.K
