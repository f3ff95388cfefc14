import Derived.Test.YtjcahjhnnagkdaaCore
import Derived.Test.YtjcahjhnnagkdaaProg
import Derived.Test.YtjcahjhnnagkdaaHeld
import Derived.Test.YtjcahjhnnagkdaaFun
import Derived.Test.YtjcahjhnnagkdaaFunZ
import Derived.Test.YtjcahjhnnagkdaaDraw
namespace Go.Proofs.Ytjcahjhnnagkdaa.K
open Go.RowKit
set_option linter.unusedVariables false
set_option linter.unusedSimpArgs false
set_option maxRecDepth 100000
def LT_PNote : LTy (PNote) := { E := 144, Eb := 5, sz := 12, enc := fun e => [vi e.1.Kind, vi e.1.Id, vi e.1.Role, vs (adr2 e.2 0).1 e.1.Cn.length (adr2 e.2 0).2, vs (adr2 e.2 1).1 e.1.Sn.length (adr2 e.2 1).2, vi e.1.Epoch, vi e.1.Seq, vs (adr2 e.2 2).1 e.1.Body.length (adr2 e.2 2).2, vs (adr2 e.2 3).1 e.1.Key.length (adr2 e.2 3).2, vi e.1.A.Host, vi e.1.A.Port, vi e.1.Now], bs := fun x => [x.Cn, x.Sn, x.Body, x.Key], len := fun _ => rfl, one := fun _ => one_all rfl, pos := by decide, ne := by decide }
def z_PNote : PNote := { Kind := 0, Id := 0, Role := 0, Cn := [], Sn := [], Epoch := 0, Seq := 0, Body := [], Key := [], A := { Host := 0, Port := 0 : PAddr }, Now := 0 : PNote }
def LT_PCand : LTy (PCand) := { E := 166, Eb := 5, sz := 4, enc := fun e => [vi e.1.A.Host, vi e.1.A.Port, vs (adr2 e.2 0).1 e.1.Draw.length (adr2 e.2 0).2, vi e.1.Until], bs := fun x => [x.Draw], len := fun _ => rfl, one := fun _ => one_all rfl, pos := by decide, ne := by decide }
def z_PCand : PCand := { A := { Host := 0, Port := 0 : PAddr }, Draw := [], Until := 0 : PCand }
def enc_PCredit (x : PCredit) : List Value := [.int .i64 x.A.Host, .int .i64 x.A.Port, .int .i64 x.Got, .int .i64 x.Sent]
theorem enc_PCredit_len : ∀ a, (enc_PCredit a).length = 4 := fun _ => rfl
theorem enc_PCredit_one : ∀ a, ∀ u ∈ enc_PCredit a, u.oneCell' = true := fun _ => (one_cons rfl (one_cons rfl (one_cons rfl (one_cons rfl one_nil))))
def z_PCredit : PCredit := { A := { Host := 0, Port := 0 : PAddr }, Got := 0, Sent := 0 : PCredit }
def creditAt (x_l : List PCredit) (x_a : PAddr) : Int := findF (fun c : PCredit => decide (c.A.Host = x_a.Host) && decide (c.A.Port = x_a.Port)) x_l
theorem creditAt_range (x_l : List PCredit) (x_a : PAddr) : -1 ≤ creditAt x_l x_a ∧ creditAt x_l x_a < (x_l.length : Int) := findF_range x_l

theorem slTy_22 : SlTy Try.prog 22 5 1 1 (v8 0) := slTy Try.underlying22 (by kernel_rfl) rfl rfl
def Q_22 (w : World) (v : Value) (x : (List UInt8)) : Prop := ∃ (a1 : Option Addr) (c1 : Nat), v = .slice a1 x.length c1 ∧ Rd w 1 (.slice a1 x.length c1) x.length (x.map bV) ∧ x.length ≤ 9223372036854775807
def O_3 (w : World) (lo : Nat) (v : Value) (x : (Int)) : Prop := v = .int .i64 x
def F_laws_szByteS (x_a : List UInt8) (x_left : Int) : (Int) := bif (decide ((x_left - (x_a.length : Int)) < 0)) then ((-1)) else ((x_left - (x_a.length : Int)))
theorem C_laws_szByteS (w0 : World) (v_x_a : Value) (x_a : List UInt8) (r_x_a : Q_22 w0 v_x_a x_a) (x_left : Int) (pre0 : 0 ≤ x_left) (pre1 : x_left ≤ 1048576) : Fn Try.prog 125 #[v_x_a, (vi x_left)] w0 (fun v w' => Keep w0 w' ∧ O_3 w' w0.heap.size v (F_laws_szByteS x_a x_left)) := by
 obtain ⟨a1, c2, rfl, r3, s4⟩ := r_x_a
 refine fn_of (n := 12) (l := [(vs a1 x_a.length c2), (vi x_left), U, U, U, U, U, U, U, U, U, U]) Try.func125 rfl rfl (by kernel_rfl) rfl ?_
 refine sr ?_
 refine ag (vi 0) wN ?_
 refine nx ?_
 refine mv (vi x_left) wN ?_
 refine mv (vs a1 x_a.length c2) wN ?_
 refine ln wN slTy_22 r3 ?_
 refine ar (x_left - (x_a.length : Int)) wN ?_
 refine ag (vi (x_left - (x_a.length : Int))) wN ?_
 refine wl_nil <| wq_then <| wc_seq <| sr ?_
 refine mv (vi (x_left - (x_a.length : Int))) wN ?_
 refine pu (vb (decide ((x_left - (x_a.length : Int)) < 0))) wN ?_
 refine wl_nil <| wq_then ?_
 rcases bt (decide ((x_left - (x_a.length : Int)) < 0)) with h6 | h6
 ·have q7 := of_decide_eq_true h6
  refine ct h6 ?_
  refine sr ?_
  refine ag (vi (-1)) wN ?_
  refine wl_nil <| wq_then <| wc_ret <| wq_then_ret ?_
  refine ret_1 (.inl rfl) (vi (-1)) rfl rfl ?_
  refine ⟨Ch.refl _ _, ?_⟩
  have hF8 : F_laws_szByteS x_a x_left = (-1) := by simp only [F_laws_szByteS, h6, cond_true, cond_false]
  rw [hF8]
  exact rfl
 have q9 := of_decide_eq_false h6
 refine cf h6 ?_
 refine wc_skip <| wq_then <| sr ?_
 refine mv (vi (x_left - (x_a.length : Int))) wN ?_
 refine ag (vi (x_left - (x_a.length : Int))) wN ?_
 refine wl_nil <| wq_then <| wc_ret ?_
 refine ret_1 (.inl rfl) (vi (x_left - (x_a.length : Int))) rfl rfl ?_
 refine ⟨Ch.refl _ _, ?_⟩
 have hF10 : F_laws_szByteS x_a x_left = (x_left - (x_a.length : Int)) := by simp only [F_laws_szByteS, h6, cond_true, cond_false]
 rw [hF10]
 exact rfl
theorem laws_szByteS_le (x : List UInt8) (l : Int) : F_laws_szByteS x l = -1 ∨ (F_laws_szByteS x l = l - ((x.length : Int)) ∧ (0 ≤ F_laws_szByteS x l ∨ l < 0 ∨ False)) := by

  simp only [F_laws_szByteS, cond_eq_ite, decide_eq_true_eq]
  (repeat' split) <;> omega

abbrev L_87 (x : PFrame) (a1 : Option Addr) (c1 : Nat) (a2 : Option Addr) (c2 : Nat) (a3 : Option Addr) (c3 : Nat) (a4 : Option Addr) (c4 : Nat) (a5 : Option Addr) (c5 : Nat) (a6 : Option Addr) (c6 : Nat) : List Value := [vi x.Kind, vi x.Id, vs a1 x.Cn.length c1, vs a2 x.Sn.length c2, vi x.Tick, vs a3 x.Cookie.length c3, vs a4 x.Proof.length c4, vi x.Epoch, vi x.Seq, vs a5 x.Body.length c5, vs a6 x.Tag.length c6]
theorem isAgg_22 : ∀ w, (isAgg 22).run Try.prog w = .ok false w := fun w => by kernel_rfl
def Q_103 (w : World) (v : Value) (x : (PFrame)) : Prop := ∃ (a1 : Option Addr) (c1 : Nat) (a2 : Option Addr) (c2 : Nat) (a3 : Option Addr) (c3 : Nat) (a4 : Option Addr) (c4 : Nat) (a5 : Option Addr) (c5 : Nat) (a6 : Option Addr) (c6 : Nat), v = .agg #[.int .i64 x.Kind, .int .i64 x.Id, .slice a1 x.Cn.length c1, .slice a2 x.Sn.length c2, .int .i64 x.Tick, .slice a3 x.Cookie.length c3, .slice a4 x.Proof.length c4, .int .i64 x.Epoch, .int .i64 x.Seq, .slice a5 x.Body.length c5, .slice a6 x.Tag.length c6] ∧ Rd w 1 (.slice a1 x.Cn.length c1) x.Cn.length (x.Cn.map bV) ∧ x.Cn.length ≤ 9223372036854775807 ∧ Rd w 1 (.slice a2 x.Sn.length c2) x.Sn.length (x.Sn.map bV) ∧ x.Sn.length ≤ 9223372036854775807 ∧ Rd w 1 (.slice a3 x.Cookie.length c3) x.Cookie.length (x.Cookie.map bV) ∧ x.Cookie.length ≤ 9223372036854775807 ∧ Rd w 1 (.slice a4 x.Proof.length c4) x.Proof.length (x.Proof.map bV) ∧ x.Proof.length ≤ 9223372036854775807 ∧ Rd w 1 (.slice a5 x.Body.length c5) x.Body.length (x.Body.map bV) ∧ x.Body.length ≤ 9223372036854775807 ∧ Rd w 1 (.slice a6 x.Tag.length c6) x.Tag.length (x.Tag.map bV) ∧ x.Tag.length ≤ 9223372036854775807
theorem mQ_22 {w : World} {x : List UInt8} {a1 : Option Addr} {c1 : Nat} (h1 : Rd w 1 (.slice a1 x.length c1) x.length (x.map bV)) (l1 : x.length ≤ 9223372036854775807) : Q_22 w (vs a1 x.length c1) x := ⟨_, _, rfl, h1, l1⟩
def F_laws_szFrame (x_a : PFrame) (x_left : Int) : (Int) := bif (decide ((F_laws_szByteS x_a.Cn x_left) < 0)) then ((-1)) else (bif (decide ((F_laws_szByteS x_a.Sn (F_laws_szByteS x_a.Cn x_left)) < 0)) then ((-1)) else (bif (decide ((F_laws_szByteS x_a.Cookie (F_laws_szByteS x_a.Sn (F_laws_szByteS x_a.Cn x_left))) < 0)) then ((-1)) else (bif (decide ((F_laws_szByteS x_a.Proof (F_laws_szByteS x_a.Cookie (F_laws_szByteS x_a.Sn (F_laws_szByteS x_a.Cn x_left)))) < 0)) then ((-1)) else (bif (decide ((F_laws_szByteS x_a.Body (F_laws_szByteS x_a.Proof (F_laws_szByteS x_a.Cookie (F_laws_szByteS x_a.Sn (F_laws_szByteS x_a.Cn x_left))))) < 0)) then ((-1)) else (bif (decide ((F_laws_szByteS x_a.Tag (F_laws_szByteS x_a.Body (F_laws_szByteS x_a.Proof (F_laws_szByteS x_a.Cookie (F_laws_szByteS x_a.Sn (F_laws_szByteS x_a.Cn x_left)))))) < 0)) then ((-1)) else ((F_laws_szByteS x_a.Tag (F_laws_szByteS x_a.Body (F_laws_szByteS x_a.Proof (F_laws_szByteS x_a.Cookie (F_laws_szByteS x_a.Sn (F_laws_szByteS x_a.Cn x_left))))))))))))
theorem C_laws_szFrame (w0 : World) (v_x_a : Value) (x_a : PFrame) (r_x_a : Q_103 w0 v_x_a x_a) (x_left : Int) (pre0 : 0 ≤ x_left) (pre1 : x_left ≤ 1048576) : Fn Try.prog 126 #[v_x_a, (vi x_left)] w0 (fun v w' => Keep w0 w' ∧ O_3 w' w0.heap.size v (F_laws_szFrame x_a x_left)) := by
 obtain ⟨a1, c2, a6, c7, a11, c12, a16, c17, a21, c22, a26, c27, rfl, r3, s4, r8, s9, r13, s14, r18, s19, r23, s24, r28, s29⟩ := r_x_a
 refine fn_of (n := 42) (l := [(va (L_87 x_a a1 c2 a6 c7 a11 c12 a16 c17 a21 c22 a26 c27)), (vi x_left), U, U, U, U, U, U, U, U, U, U, U, U, U, U, U, U, U, U, U, U, U, U, U, U, U, U, U, U, U, U, U, U, U, U, U, U, U, U, U, U]) Try.func126 rfl rfl (by kernel_rfl) rfl ?_
 refine sr ?_
 refine bx (L_87 x_a a1 c2 a6 c7 a11 c12 a16 c17 a21 c22 a26 c27) wN ?_
 intro g31 w1 p32 p33 k34 b35
 have m36 := (Ch.base w0).extk k34
 refine ag (vi 0) wN ?_
 refine nx ?_
 refine pu (vp g31 2) wN ?_
 refine ld (vs a1 x_a.Cn.length c2) wN isAgg_22 b35 ?_
 refine mv (vi x_left) wN ?_
 refine cl wN (C_laws_szByteS w1 _ x_a.Cn (mQ_22 (r3.from0 m36) s4) x_left (by omega) (by omega)) ?_
 rintro _ w2 ⟨k37, rfl⟩
 have m38 := m36.extk k37
 have q39 := laws_szByteS_le x_a.Cn x_left
 refine ag (vi (F_laws_szByteS x_a.Cn x_left)) wN ?_
 refine wl_nil <| wq_then <| wc_seq <| sr ?_
 refine mv (vi (F_laws_szByteS x_a.Cn x_left)) wN ?_
 refine pu (vb (decide ((F_laws_szByteS x_a.Cn x_left) < 0))) wN ?_
 refine wl_nil <| wq_then ?_
 rcases bt (decide ((F_laws_szByteS x_a.Cn x_left) < 0)) with h40 | h40
 ·have q41 := of_decide_eq_true h40
  refine ct h40 ?_
  refine sr ?_
  refine ag (vi (-1)) wN ?_
  refine wl_nil <| wq_then <| wc_ret <| wq_then_ret ?_
  refine ret_1 (.inl rfl) (vi (-1)) rfl rfl ?_
  refine ⟨m38.keep0, ?_⟩
  have hF42 : F_laws_szFrame x_a x_left = (-1) := by simp only [F_laws_szFrame, h40, cond_true, cond_false]
  rw [hF42]
  exact rfl
 have q43 := of_decide_eq_false h40
 refine cf h40 ?_
 refine wc_skip <| wq_then <| sr ?_
 refine pu (vp g31 3) wN ?_
 have b44 := (b35.kp k37)
 refine ld (vs a6 x_a.Sn.length c7) wN isAgg_22 b44 ?_
 refine mv (vi (F_laws_szByteS x_a.Cn x_left)) wN ?_
 refine cl wN (C_laws_szByteS w2 _ x_a.Sn (mQ_22 (r8.from0 m38) s9) (F_laws_szByteS x_a.Cn x_left) (by omega) (by omega)) ?_
 rintro _ w3 ⟨k45, rfl⟩
 have m46 := m38.extk k45
 have q47 := laws_szByteS_le x_a.Sn (F_laws_szByteS x_a.Cn x_left)
 refine ag (vi (F_laws_szByteS x_a.Sn (F_laws_szByteS x_a.Cn x_left))) wN ?_
 refine wl_nil <| wq_then <| wc_seq <| sr ?_
 refine mv (vi (F_laws_szByteS x_a.Sn (F_laws_szByteS x_a.Cn x_left))) wN ?_
 refine pu (vb (decide ((F_laws_szByteS x_a.Sn (F_laws_szByteS x_a.Cn x_left)) < 0))) wN ?_
 refine wl_nil <| wq_then ?_
 rcases bt (decide ((F_laws_szByteS x_a.Sn (F_laws_szByteS x_a.Cn x_left)) < 0)) with h48 | h48
 ·have q49 := of_decide_eq_true h48
  refine ct h48 ?_
  refine sr ?_
  refine ag (vi (-1)) wN ?_
  refine wl_nil <| wq_then <| wc_ret <| wq_then_ret ?_
  refine ret_1 (.inl rfl) (vi (-1)) rfl rfl ?_
  refine ⟨m46.keep0, ?_⟩
  have hF50 : F_laws_szFrame x_a x_left = (-1) := by simp only [F_laws_szFrame, h40, h48, cond_true, cond_false]
  rw [hF50]
  exact rfl
 have q51 := of_decide_eq_false h48
 refine cf h48 ?_
 refine wc_skip <| wq_then <| sr ?_
 refine pu (vp g31 5) wN ?_
 have b52 := (b44.kp k45)
 refine ld (vs a11 x_a.Cookie.length c12) wN isAgg_22 b52 ?_
 refine mv (vi (F_laws_szByteS x_a.Sn (F_laws_szByteS x_a.Cn x_left))) wN ?_
 refine cl wN (C_laws_szByteS w3 _ x_a.Cookie (mQ_22 (r13.from0 m46) s14) (F_laws_szByteS x_a.Sn (F_laws_szByteS x_a.Cn x_left)) (by omega) (by omega)) ?_
 rintro _ w4 ⟨k53, rfl⟩
 have m54 := m46.extk k53
 have q55 := laws_szByteS_le x_a.Cookie (F_laws_szByteS x_a.Sn (F_laws_szByteS x_a.Cn x_left))
 refine ag (vi (F_laws_szByteS x_a.Cookie (F_laws_szByteS x_a.Sn (F_laws_szByteS x_a.Cn x_left)))) wN ?_
 refine wl_nil <| wq_then <| wc_seq <| sr ?_
 refine mv (vi (F_laws_szByteS x_a.Cookie (F_laws_szByteS x_a.Sn (F_laws_szByteS x_a.Cn x_left)))) wN ?_
 refine pu (vb (decide ((F_laws_szByteS x_a.Cookie (F_laws_szByteS x_a.Sn (F_laws_szByteS x_a.Cn x_left))) < 0))) wN ?_
 refine wl_nil <| wq_then ?_
 rcases bt (decide ((F_laws_szByteS x_a.Cookie (F_laws_szByteS x_a.Sn (F_laws_szByteS x_a.Cn x_left))) < 0)) with h56 | h56
 ·have q57 := of_decide_eq_true h56
  refine ct h56 ?_
  refine sr ?_
  refine ag (vi (-1)) wN ?_
  refine wl_nil <| wq_then <| wc_ret <| wq_then_ret ?_
  refine ret_1 (.inl rfl) (vi (-1)) rfl rfl ?_
  refine ⟨m54.keep0, ?_⟩
  have hF58 : F_laws_szFrame x_a x_left = (-1) := by simp only [F_laws_szFrame, h40, h48, h56, cond_true, cond_false]
  rw [hF58]
  exact rfl
 have q59 := of_decide_eq_false h56
 refine cf h56 ?_
 refine wc_skip <| wq_then <| sr ?_
 refine pu (vp g31 6) wN ?_
 have b60 := (b52.kp k53)
 refine ld (vs a16 x_a.Proof.length c17) wN isAgg_22 b60 ?_
 refine mv (vi (F_laws_szByteS x_a.Cookie (F_laws_szByteS x_a.Sn (F_laws_szByteS x_a.Cn x_left)))) wN ?_
 refine cl wN (C_laws_szByteS w4 _ x_a.Proof (mQ_22 (r18.from0 m54) s19) (F_laws_szByteS x_a.Cookie (F_laws_szByteS x_a.Sn (F_laws_szByteS x_a.Cn x_left))) (by omega) (by omega)) ?_
 rintro _ w5 ⟨k61, rfl⟩
 have m62 := m54.extk k61
 have q63 := laws_szByteS_le x_a.Proof (F_laws_szByteS x_a.Cookie (F_laws_szByteS x_a.Sn (F_laws_szByteS x_a.Cn x_left)))
 refine ag (vi (F_laws_szByteS x_a.Proof (F_laws_szByteS x_a.Cookie (F_laws_szByteS x_a.Sn (F_laws_szByteS x_a.Cn x_left))))) wN ?_
 refine wl_nil <| wq_then <| wc_seq <| sr ?_
 refine mv (vi (F_laws_szByteS x_a.Proof (F_laws_szByteS x_a.Cookie (F_laws_szByteS x_a.Sn (F_laws_szByteS x_a.Cn x_left))))) wN ?_
 refine pu (vb (decide ((F_laws_szByteS x_a.Proof (F_laws_szByteS x_a.Cookie (F_laws_szByteS x_a.Sn (F_laws_szByteS x_a.Cn x_left)))) < 0))) wN ?_
 refine wl_nil <| wq_then ?_
 rcases bt (decide ((F_laws_szByteS x_a.Proof (F_laws_szByteS x_a.Cookie (F_laws_szByteS x_a.Sn (F_laws_szByteS x_a.Cn x_left)))) < 0)) with h64 | h64
 ·have q65 := of_decide_eq_true h64
  refine ct h64 ?_
  refine sr ?_
  refine ag (vi (-1)) wN ?_
  refine wl_nil <| wq_then <| wc_ret <| wq_then_ret ?_
  refine ret_1 (.inl rfl) (vi (-1)) rfl rfl ?_
  refine ⟨m62.keep0, ?_⟩
  have hF66 : F_laws_szFrame x_a x_left = (-1) := by simp only [F_laws_szFrame, h40, h48, h56, h64, cond_true, cond_false]
  rw [hF66]
  exact rfl
 have q67 := of_decide_eq_false h64
 refine cf h64 ?_
 refine wc_skip <| wq_then <| sr ?_
 refine pu (vp g31 9) wN ?_
 have b68 := (b60.kp k61)
 refine ld (vs a21 x_a.Body.length c22) wN isAgg_22 b68 ?_
 refine mv (vi (F_laws_szByteS x_a.Proof (F_laws_szByteS x_a.Cookie (F_laws_szByteS x_a.Sn (F_laws_szByteS x_a.Cn x_left))))) wN ?_
 refine cl wN (C_laws_szByteS w5 _ x_a.Body (mQ_22 (r23.from0 m62) s24) (F_laws_szByteS x_a.Proof (F_laws_szByteS x_a.Cookie (F_laws_szByteS x_a.Sn (F_laws_szByteS x_a.Cn x_left)))) (by omega) (by omega)) ?_
 rintro _ w6 ⟨k69, rfl⟩
 have m70 := m62.extk k69
 have q71 := laws_szByteS_le x_a.Body (F_laws_szByteS x_a.Proof (F_laws_szByteS x_a.Cookie (F_laws_szByteS x_a.Sn (F_laws_szByteS x_a.Cn x_left))))
 refine ag (vi (F_laws_szByteS x_a.Body (F_laws_szByteS x_a.Proof (F_laws_szByteS x_a.Cookie (F_laws_szByteS x_a.Sn (F_laws_szByteS x_a.Cn x_left)))))) wN ?_
 refine wl_nil <| wq_then <| wc_seq <| sr ?_
 refine mv (vi (F_laws_szByteS x_a.Body (F_laws_szByteS x_a.Proof (F_laws_szByteS x_a.Cookie (F_laws_szByteS x_a.Sn (F_laws_szByteS x_a.Cn x_left)))))) wN ?_
 refine pu (vb (decide ((F_laws_szByteS x_a.Body (F_laws_szByteS x_a.Proof (F_laws_szByteS x_a.Cookie (F_laws_szByteS x_a.Sn (F_laws_szByteS x_a.Cn x_left))))) < 0))) wN ?_
 refine wl_nil <| wq_then ?_
 rcases bt (decide ((F_laws_szByteS x_a.Body (F_laws_szByteS x_a.Proof (F_laws_szByteS x_a.Cookie (F_laws_szByteS x_a.Sn (F_laws_szByteS x_a.Cn x_left))))) < 0)) with h72 | h72
 ·have q73 := of_decide_eq_true h72
  refine ct h72 ?_
  refine sr ?_
  refine ag (vi (-1)) wN ?_
  refine wl_nil <| wq_then <| wc_ret <| wq_then_ret ?_
  refine ret_1 (.inl rfl) (vi (-1)) rfl rfl ?_
  refine ⟨m70.keep0, ?_⟩
  have hF74 : F_laws_szFrame x_a x_left = (-1) := by simp only [F_laws_szFrame, h40, h48, h56, h64, h72, cond_true, cond_false]
  rw [hF74]
  exact rfl
 have q75 := of_decide_eq_false h72
 refine cf h72 ?_
 refine wc_skip <| wq_then <| sr ?_
 refine pu (vp g31 10) wN ?_
 have b76 := (b68.kp k69)
 refine ld (vs a26 x_a.Tag.length c27) wN isAgg_22 b76 ?_
 refine mv (vi (F_laws_szByteS x_a.Body (F_laws_szByteS x_a.Proof (F_laws_szByteS x_a.Cookie (F_laws_szByteS x_a.Sn (F_laws_szByteS x_a.Cn x_left)))))) wN ?_
 refine cl wN (C_laws_szByteS w6 _ x_a.Tag (mQ_22 (r28.from0 m70) s29) (F_laws_szByteS x_a.Body (F_laws_szByteS x_a.Proof (F_laws_szByteS x_a.Cookie (F_laws_szByteS x_a.Sn (F_laws_szByteS x_a.Cn x_left))))) (by omega) (by omega)) ?_
 rintro _ w7 ⟨k77, rfl⟩
 have m78 := m70.extk k77
 have q79 := laws_szByteS_le x_a.Tag (F_laws_szByteS x_a.Body (F_laws_szByteS x_a.Proof (F_laws_szByteS x_a.Cookie (F_laws_szByteS x_a.Sn (F_laws_szByteS x_a.Cn x_left)))))
 refine ag (vi (F_laws_szByteS x_a.Tag (F_laws_szByteS x_a.Body (F_laws_szByteS x_a.Proof (F_laws_szByteS x_a.Cookie (F_laws_szByteS x_a.Sn (F_laws_szByteS x_a.Cn x_left))))))) wN ?_
 refine wl_nil <| wq_then <| wc_seq <| sr ?_
 refine mv (vi (F_laws_szByteS x_a.Tag (F_laws_szByteS x_a.Body (F_laws_szByteS x_a.Proof (F_laws_szByteS x_a.Cookie (F_laws_szByteS x_a.Sn (F_laws_szByteS x_a.Cn x_left))))))) wN ?_
 refine pu (vb (decide ((F_laws_szByteS x_a.Tag (F_laws_szByteS x_a.Body (F_laws_szByteS x_a.Proof (F_laws_szByteS x_a.Cookie (F_laws_szByteS x_a.Sn (F_laws_szByteS x_a.Cn x_left)))))) < 0))) wN ?_
 refine wl_nil <| wq_then ?_
 rcases bt (decide ((F_laws_szByteS x_a.Tag (F_laws_szByteS x_a.Body (F_laws_szByteS x_a.Proof (F_laws_szByteS x_a.Cookie (F_laws_szByteS x_a.Sn (F_laws_szByteS x_a.Cn x_left)))))) < 0)) with h80 | h80
 ·have q81 := of_decide_eq_true h80
  refine ct h80 ?_
  refine sr ?_
  refine ag (vi (-1)) wN ?_
  refine wl_nil <| wq_then <| wc_ret <| wq_then_ret ?_
  refine ret_1 (.inl rfl) (vi (-1)) rfl rfl ?_
  refine ⟨m78.keep0, ?_⟩
  have hF82 : F_laws_szFrame x_a x_left = (-1) := by simp only [F_laws_szFrame, h40, h48, h56, h64, h72, h80, cond_true, cond_false]
  rw [hF82]
  exact rfl
 have q83 := of_decide_eq_false h80
 refine cf h80 ?_
 refine wc_skip <| wq_then <| sr ?_
 refine mv (vi (F_laws_szByteS x_a.Tag (F_laws_szByteS x_a.Body (F_laws_szByteS x_a.Proof (F_laws_szByteS x_a.Cookie (F_laws_szByteS x_a.Sn (F_laws_szByteS x_a.Cn x_left))))))) wN ?_
 refine ag (vi (F_laws_szByteS x_a.Tag (F_laws_szByteS x_a.Body (F_laws_szByteS x_a.Proof (F_laws_szByteS x_a.Cookie (F_laws_szByteS x_a.Sn (F_laws_szByteS x_a.Cn x_left))))))) wN ?_
 refine wl_nil <| wq_then <| wc_ret ?_
 refine ret_1 (.inl rfl) (vi (F_laws_szByteS x_a.Tag (F_laws_szByteS x_a.Body (F_laws_szByteS x_a.Proof (F_laws_szByteS x_a.Cookie (F_laws_szByteS x_a.Sn (F_laws_szByteS x_a.Cn x_left))))))) rfl rfl ?_
 refine ⟨m78.keep0, ?_⟩
 have hF84 : F_laws_szFrame x_a x_left = (F_laws_szByteS x_a.Tag (F_laws_szByteS x_a.Body (F_laws_szByteS x_a.Proof (F_laws_szByteS x_a.Cookie (F_laws_szByteS x_a.Sn (F_laws_szByteS x_a.Cn x_left)))))) := by simp only [F_laws_szFrame, h40, h48, h56, h64, h72, h80, cond_true, cond_false]
 rw [hF84]
 exact rfl
theorem laws_szFrame_le (x : PFrame) (l : Int) : F_laws_szFrame x l = -1 ∨ (F_laws_szFrame x l = l - ((x.Cn.length : Int) + (x.Sn.length : Int) + (x.Cookie.length : Int) + (x.Proof.length : Int) + (x.Body.length : Int) + (x.Tag.length : Int)) ∧ (0 ≤ F_laws_szFrame x l ∨ l < 0 ∨ False)) := by
  have h0 := laws_szByteS_le x.Cn l
  have h1 := laws_szByteS_le x.Sn (F_laws_szByteS x.Cn l)
  have h2 := laws_szByteS_le x.Cookie (F_laws_szByteS x.Sn (F_laws_szByteS x.Cn l))
  have h3 := laws_szByteS_le x.Proof (F_laws_szByteS x.Cookie (F_laws_szByteS x.Sn (F_laws_szByteS x.Cn l)))
  have h4 := laws_szByteS_le x.Body (F_laws_szByteS x.Proof (F_laws_szByteS x.Cookie (F_laws_szByteS x.Sn (F_laws_szByteS x.Cn l))))
  have h5 := laws_szByteS_le x.Tag (F_laws_szByteS x.Body (F_laws_szByteS x.Proof (F_laws_szByteS x.Cookie (F_laws_szByteS x.Sn (F_laws_szByteS x.Cn l)))))
  simp only [F_laws_szFrame, cond_eq_ite, decide_eq_true_eq]
  (repeat' split) <;> omega

theorem slTy_88 : SlTy Try.prog 88 3 1 8 (vi 0) := slTy Try.underlying88 (by kernel_rfl) rfl rfl
def Q_88 (w : World) (v : Value) (x : (List Int)) : Prop := ∃ (a1 : Option Addr) (c1 : Nat), v = .slice a1 x.length c1 ∧ Rd w 1 (.slice a1 x.length c1) x.length (x.map iV) ∧ x.length ≤ 9223372036854775807
def F_laws_szIntS (x_a : List Int) (x_left : Int) : (Int) := bif (decide ((x_left - (x_a.length : Int)) < 0)) then ((-1)) else ((x_left - (x_a.length : Int)))
theorem C_laws_szIntS (w0 : World) (v_x_a : Value) (x_a : List Int) (r_x_a : Q_88 w0 v_x_a x_a) (x_left : Int) (pre0 : 0 ≤ x_left) (pre1 : x_left ≤ 1048576) : Fn Try.prog 182 #[v_x_a, (vi x_left)] w0 (fun v w' => Keep w0 w' ∧ O_3 w' w0.heap.size v (F_laws_szIntS x_a x_left)) := by
 obtain ⟨a1, c2, rfl, r3, s4⟩ := r_x_a
 refine fn_of (n := 12) (l := [(vs a1 x_a.length c2), (vi x_left), U, U, U, U, U, U, U, U, U, U]) Try.func182 rfl rfl (by kernel_rfl) rfl ?_
 refine sr ?_
 refine ag (vi 0) wN ?_
 refine nx ?_
 refine mv (vi x_left) wN ?_
 refine mv (vs a1 x_a.length c2) wN ?_
 refine ln wN slTy_88 r3 ?_
 refine ar (x_left - (x_a.length : Int)) wN ?_
 refine ag (vi (x_left - (x_a.length : Int))) wN ?_
 refine wl_nil <| wq_then <| wc_seq <| sr ?_
 refine mv (vi (x_left - (x_a.length : Int))) wN ?_
 refine pu (vb (decide ((x_left - (x_a.length : Int)) < 0))) wN ?_
 refine wl_nil <| wq_then ?_
 rcases bt (decide ((x_left - (x_a.length : Int)) < 0)) with h6 | h6
 ·have q7 := of_decide_eq_true h6
  refine ct h6 ?_
  refine sr ?_
  refine ag (vi (-1)) wN ?_
  refine wl_nil <| wq_then <| wc_ret <| wq_then_ret ?_
  refine ret_1 (.inl rfl) (vi (-1)) rfl rfl ?_
  refine ⟨Ch.refl _ _, ?_⟩
  have hF8 : F_laws_szIntS x_a x_left = (-1) := by simp only [F_laws_szIntS, h6, cond_true, cond_false]
  rw [hF8]
  exact rfl
 have q9 := of_decide_eq_false h6
 refine cf h6 ?_
 refine wc_skip <| wq_then <| sr ?_
 refine mv (vi (x_left - (x_a.length : Int))) wN ?_
 refine ag (vi (x_left - (x_a.length : Int))) wN ?_
 refine wl_nil <| wq_then <| wc_ret ?_
 refine ret_1 (.inl rfl) (vi (x_left - (x_a.length : Int))) rfl rfl ?_
 refine ⟨Ch.refl _ _, ?_⟩
 have hF10 : F_laws_szIntS x_a x_left = (x_left - (x_a.length : Int)) := by simp only [F_laws_szIntS, h6, cond_true, cond_false]
 rw [hF10]
 exact rfl
theorem laws_szIntS_le (x : List Int) (l : Int) : F_laws_szIntS x l = -1 ∨ (F_laws_szIntS x l = l - ((x.length : Int)) ∧ (0 ≤ F_laws_szIntS x l ∨ l < 0 ∨ False)) := by

  simp only [F_laws_szIntS, cond_eq_ite, decide_eq_true_eq]
  (repeat' split) <;> omega

abbrev L_90 (x : PWin) (a1 : Option Addr) (c1 : Nat) : List Value := [vi x.Top, vs a1 x.Bits.length c1]
theorem isAgg_88 : ∀ w, (isAgg 88).run Try.prog w = .ok false w := fun w => by kernel_rfl
def Q_104 (w : World) (v : Value) (x : (PWin)) : Prop := ∃ (a1 : Option Addr) (c1 : Nat), v = .agg #[.int .i64 x.Top, .slice a1 x.Bits.length c1] ∧ Rd w 1 (.slice a1 x.Bits.length c1) x.Bits.length (x.Bits.map iV) ∧ x.Bits.length ≤ 9223372036854775807
theorem mQ_88 {w : World} {x : List Int} {a1 : Option Addr} {c1 : Nat} (h1 : Rd w 1 (.slice a1 x.length c1) x.length (x.map iV)) (l1 : x.length ≤ 9223372036854775807) : Q_88 w (vs a1 x.length c1) x := ⟨_, _, rfl, h1, l1⟩
def F_laws_szWin (x_a : PWin) (x_left : Int) : (Int) := bif (decide ((F_laws_szIntS x_a.Bits x_left) < 0)) then ((-1)) else ((F_laws_szIntS x_a.Bits x_left))
theorem C_laws_szWin (w0 : World) (v_x_a : Value) (x_a : PWin) (r_x_a : Q_104 w0 v_x_a x_a) (x_left : Int) (pre0 : 0 ≤ x_left) (pre1 : x_left ≤ 1048576) : Fn Try.prog 171 #[v_x_a, (vi x_left)] w0 (fun v w' => Keep w0 w' ∧ O_3 w' w0.heap.size v (F_laws_szWin x_a x_left)) := by
 obtain ⟨a1, c2, rfl, r3, s4⟩ := r_x_a
 refine fn_of (n := 12) (l := [(va (L_90 x_a a1 c2)), (vi x_left), U, U, U, U, U, U, U, U, U, U]) Try.func171 rfl rfl (by kernel_rfl) rfl ?_
 refine sr ?_
 refine bx (L_90 x_a a1 c2) wN ?_
 intro g6 w1 p7 p8 k9 b10
 have m11 := (Ch.base w0).extk k9
 refine ag (vi 0) wN ?_
 refine nx ?_
 refine pu (vp g6 1) wN ?_
 refine ld (vs a1 x_a.Bits.length c2) wN isAgg_88 b10 ?_
 refine mv (vi x_left) wN ?_
 refine cl wN (C_laws_szIntS w1 _ x_a.Bits (mQ_88 (r3.from0 m11) s4) x_left (by omega) (by omega)) ?_
 rintro _ w2 ⟨k12, rfl⟩
 have m13 := m11.extk k12
 have q14 := laws_szIntS_le x_a.Bits x_left
 refine ag (vi (F_laws_szIntS x_a.Bits x_left)) wN ?_
 refine wl_nil <| wq_then <| wc_seq <| sr ?_
 refine mv (vi (F_laws_szIntS x_a.Bits x_left)) wN ?_
 refine pu (vb (decide ((F_laws_szIntS x_a.Bits x_left) < 0))) wN ?_
 refine wl_nil <| wq_then ?_
 rcases bt (decide ((F_laws_szIntS x_a.Bits x_left) < 0)) with h15 | h15
 ·have q16 := of_decide_eq_true h15
  refine ct h15 ?_
  refine sr ?_
  refine ag (vi (-1)) wN ?_
  refine wl_nil <| wq_then <| wc_ret <| wq_then_ret ?_
  refine ret_1 (.inl rfl) (vi (-1)) rfl rfl ?_
  refine ⟨m13.keep0, ?_⟩
  have hF17 : F_laws_szWin x_a x_left = (-1) := by simp only [F_laws_szWin, h15, cond_true, cond_false]
  rw [hF17]
  exact rfl
 have q18 := of_decide_eq_false h15
 refine cf h15 ?_
 refine wc_skip <| wq_then <| sr ?_
 refine mv (vi (F_laws_szIntS x_a.Bits x_left)) wN ?_
 refine ag (vi (F_laws_szIntS x_a.Bits x_left)) wN ?_
 refine wl_nil <| wq_then <| wc_ret ?_
 refine ret_1 (.inl rfl) (vi (F_laws_szIntS x_a.Bits x_left)) rfl rfl ?_
 refine ⟨m13.keep0, ?_⟩
 have hF19 : F_laws_szWin x_a x_left = (F_laws_szIntS x_a.Bits x_left) := by simp only [F_laws_szWin, h15, cond_true, cond_false]
 rw [hF19]
 exact rfl
theorem laws_szWin_le (x : PWin) (l : Int) : F_laws_szWin x l = -1 ∨ (F_laws_szWin x l = l - ((x.Bits.length : Int)) ∧ (0 ≤ F_laws_szWin x l ∨ l < 0 ∨ False)) := by
  have h0 := laws_szIntS_le x.Bits l
  simp only [F_laws_szWin, cond_eq_ite, decide_eq_true_eq]
  (repeat' split) <;> omega

abbrev L_92 (x : PEp) (a1 : Option Addr) (c1 : Nat) (a2 : Option Addr) (c2 : Nat) : List Value := [vi x.N, vs a1 x.Key.length c1, vi x.Seq, vi x.Win.Top, vs a2 x.Win.Bits.length c2]
theorem isAgg_104 : ∀ w, (isAgg 104).run Try.prog w = .ok true w := fun w => by kernel_rfl
theorem sizeOf_104 : ∀ w, (sizeOf 104).run Try.prog w = .ok 2 w := fun w => by kernel_rfl
abbrev L_104 (x : PWin) (a1 : Option Addr) (c1 : Nat) : List Value := [vi x.Top, vs a1 x.Bits.length c1]
def Q_106 (w : World) (v : Value) (x : (PEp)) : Prop := ∃ (a1 : Option Addr) (c1 : Nat) (a2 : Option Addr) (c2 : Nat), v = .agg #[.int .i64 x.N, .slice a1 x.Key.length c1, .int .i64 x.Seq, .int .i64 x.Win.Top, .slice a2 x.Win.Bits.length c2] ∧ Rd w 1 (.slice a1 x.Key.length c1) x.Key.length (x.Key.map bV) ∧ x.Key.length ≤ 9223372036854775807 ∧ Rd w 1 (.slice a2 x.Win.Bits.length c2) x.Win.Bits.length (x.Win.Bits.map iV) ∧ x.Win.Bits.length ≤ 9223372036854775807
theorem mQ_104 {w : World} {x : PWin} {a1 : Option Addr} {c1 : Nat} (h1 : Rd w 1 (.slice a1 x.Bits.length c1) x.Bits.length (x.Bits.map iV)) (l1 : x.Bits.length ≤ 9223372036854775807) : Q_104 w (va (L_104 x a1 c1)) x := ⟨_, _, rfl, h1, l1⟩
def F_laws_szEp (x_a : PEp) (x_left : Int) : (Int) := bif (decide ((F_laws_szByteS x_a.Key x_left) < 0)) then ((-1)) else (bif (decide ((F_laws_szWin x_a.Win (F_laws_szByteS x_a.Key x_left)) < 0)) then ((-1)) else ((F_laws_szWin x_a.Win (F_laws_szByteS x_a.Key x_left))))
theorem C_laws_szEp (w0 : World) (v_x_a : Value) (x_a : PEp) (r_x_a : Q_106 w0 v_x_a x_a) (x_left : Int) (pre0 : 0 ≤ x_left) (pre1 : x_left ≤ 1048576) : Fn Try.prog 153 #[v_x_a, (vi x_left)] w0 (fun v w' => Keep w0 w' ∧ O_3 w' w0.heap.size v (F_laws_szEp x_a x_left)) := by
 obtain ⟨a1, c2, a6, c7, rfl, r3, s4, r8, s9⟩ := r_x_a
 refine fn_of (n := 18) (l := [(va (L_92 x_a a1 c2 a6 c7)), (vi x_left), U, U, U, U, U, U, U, U, U, U, U, U, U, U, U, U]) Try.func153 rfl rfl (by kernel_rfl) rfl ?_
 refine sr ?_
 refine bx (L_92 x_a a1 c2 a6 c7) wN ?_
 intro g11 w1 p12 p13 k14 b15
 have m16 := (Ch.base w0).extk k14
 refine ag (vi 0) wN ?_
 refine nx ?_
 refine pu (vp g11 1) wN ?_
 refine ld (vs a1 x_a.Key.length c2) wN isAgg_22 b15 ?_
 refine mv (vi x_left) wN ?_
 refine cl wN (C_laws_szByteS w1 _ x_a.Key (mQ_22 (r3.from0 m16) s4) x_left (by omega) (by omega)) ?_
 rintro _ w2 ⟨k17, rfl⟩
 have m18 := m16.extk k17
 have q19 := laws_szByteS_le x_a.Key x_left
 refine ag (vi (F_laws_szByteS x_a.Key x_left)) wN ?_
 refine wl_nil <| wq_then <| wc_seq <| sr ?_
 refine mv (vi (F_laws_szByteS x_a.Key x_left)) wN ?_
 refine pu (vb (decide ((F_laws_szByteS x_a.Key x_left) < 0))) wN ?_
 refine wl_nil <| wq_then ?_
 rcases bt (decide ((F_laws_szByteS x_a.Key x_left) < 0)) with h20 | h20
 ·have q21 := of_decide_eq_true h20
  refine ct h20 ?_
  refine sr ?_
  refine ag (vi (-1)) wN ?_
  refine wl_nil <| wq_then <| wc_ret <| wq_then_ret ?_
  refine ret_1 (.inl rfl) (vi (-1)) rfl rfl ?_
  refine ⟨m18.keep0, ?_⟩
  have hF22 : F_laws_szEp x_a x_left = (-1) := by simp only [F_laws_szEp, h20, cond_true, cond_false]
  rw [hF22]
  exact rfl
 have q23 := of_decide_eq_false h20
 refine cf h20 ?_
 refine wc_skip <| wq_then <| sr ?_
 refine pu (vp g11 3) wN ?_
 have b24 := (b15.kp k17)
 refine lN (L_90 x_a.Win a6 c7) wN isAgg_104 sizeOf_104 b24 ?_
 refine mv (vi (F_laws_szByteS x_a.Key x_left)) wN ?_
 refine cl wN (C_laws_szWin w2 _ x_a.Win (mQ_104 (r8.from0 m18) s9) (F_laws_szByteS x_a.Key x_left) (by omega) (by omega)) ?_
 rintro _ w3 ⟨k25, rfl⟩
 have m26 := m18.extk k25
 have q27 := laws_szWin_le x_a.Win (F_laws_szByteS x_a.Key x_left)
 refine ag (vi (F_laws_szWin x_a.Win (F_laws_szByteS x_a.Key x_left))) wN ?_
 refine wl_nil <| wq_then <| wc_seq <| sr ?_
 refine mv (vi (F_laws_szWin x_a.Win (F_laws_szByteS x_a.Key x_left))) wN ?_
 refine pu (vb (decide ((F_laws_szWin x_a.Win (F_laws_szByteS x_a.Key x_left)) < 0))) wN ?_
 refine wl_nil <| wq_then ?_
 rcases bt (decide ((F_laws_szWin x_a.Win (F_laws_szByteS x_a.Key x_left)) < 0)) with h28 | h28
 ·have q29 := of_decide_eq_true h28
  refine ct h28 ?_
  refine sr ?_
  refine ag (vi (-1)) wN ?_
  refine wl_nil <| wq_then <| wc_ret <| wq_then_ret ?_
  refine ret_1 (.inl rfl) (vi (-1)) rfl rfl ?_
  refine ⟨m26.keep0, ?_⟩
  have hF30 : F_laws_szEp x_a x_left = (-1) := by simp only [F_laws_szEp, h20, h28, cond_true, cond_false]
  rw [hF30]
  exact rfl
 have q31 := of_decide_eq_false h28
 refine cf h28 ?_
 refine wc_skip <| wq_then <| sr ?_
 refine mv (vi (F_laws_szWin x_a.Win (F_laws_szByteS x_a.Key x_left))) wN ?_
 refine ag (vi (F_laws_szWin x_a.Win (F_laws_szByteS x_a.Key x_left))) wN ?_
 refine wl_nil <| wq_then <| wc_ret ?_
 refine ret_1 (.inl rfl) (vi (F_laws_szWin x_a.Win (F_laws_szByteS x_a.Key x_left))) rfl rfl ?_
 refine ⟨m26.keep0, ?_⟩
 have hF32 : F_laws_szEp x_a x_left = (F_laws_szWin x_a.Win (F_laws_szByteS x_a.Key x_left)) := by simp only [F_laws_szEp, h20, h28, cond_true, cond_false]
 rw [hF32]
 exact rfl
theorem laws_szEp_le (x : PEp) (l : Int) : F_laws_szEp x l = -1 ∨ (F_laws_szEp x l = l - ((x.Key.length : Int) + (x.Win.Bits.length : Int)) ∧ (0 ≤ F_laws_szEp x l ∨ l < 0 ∨ False)) := by
  have h0 := laws_szByteS_le x.Key l
  have h1 := laws_szWin_le x.Win (F_laws_szByteS x.Key l)
  simp only [F_laws_szEp, cond_eq_ite, decide_eq_true_eq]
  (repeat' split) <;> omega

abbrev L_94 (x : PChan) (a1 : Option Addr) (c1 : Nat) (a2 : Option Addr) (c2 : Nat) (a3 : Option Addr) (c3 : Nat) (a4 : Option Addr) (c4 : Nat) (a5 : Option Addr) (c5 : Nat) (a6 : Option Addr) (c6 : Nat) : List Value := [vi x.Role, vs a1 x.Sn.length c1, vi x.Cur.N, vs a2 x.Cur.Key.length c2, vi x.Cur.Seq, vi x.Cur.Win.Top, vs a3 x.Cur.Win.Bits.length c3, vi x.Old.N, vs a4 x.Old.Key.length c4, vi x.Old.Seq, vi x.Old.Win.Top, vs a5 x.Old.Win.Bits.length c5, vb x.HasOld, vi x.Until, vs a6 x.Next.length c6]
theorem isAgg_106 : ∀ w, (isAgg 106).run Try.prog w = .ok true w := fun w => by kernel_rfl
theorem sizeOf_106 : ∀ w, (sizeOf 106).run Try.prog w = .ok 5 w := fun w => by kernel_rfl
abbrev L_106 (x : PEp) (a1 : Option Addr) (c1 : Nat) (a2 : Option Addr) (c2 : Nat) : List Value := [vi x.N, vs a1 x.Key.length c1, vi x.Seq, vi x.Win.Top, vs a2 x.Win.Bits.length c2]
def Q_108 (w : World) (v : Value) (x : (PChan)) : Prop := ∃ (a1 : Option Addr) (c1 : Nat) (a2 : Option Addr) (c2 : Nat) (a3 : Option Addr) (c3 : Nat) (a4 : Option Addr) (c4 : Nat) (a5 : Option Addr) (c5 : Nat) (a6 : Option Addr) (c6 : Nat), v = .agg #[.int .i64 x.Role, .slice a1 x.Sn.length c1, .int .i64 x.Cur.N, .slice a2 x.Cur.Key.length c2, .int .i64 x.Cur.Seq, .int .i64 x.Cur.Win.Top, .slice a3 x.Cur.Win.Bits.length c3, .int .i64 x.Old.N, .slice a4 x.Old.Key.length c4, .int .i64 x.Old.Seq, .int .i64 x.Old.Win.Top, .slice a5 x.Old.Win.Bits.length c5, .bool x.HasOld, .int .i64 x.Until, .slice a6 x.Next.length c6] ∧ Rd w 1 (.slice a1 x.Sn.length c1) x.Sn.length (x.Sn.map bV) ∧ x.Sn.length ≤ 9223372036854775807 ∧ Rd w 1 (.slice a2 x.Cur.Key.length c2) x.Cur.Key.length (x.Cur.Key.map bV) ∧ x.Cur.Key.length ≤ 9223372036854775807 ∧ Rd w 1 (.slice a3 x.Cur.Win.Bits.length c3) x.Cur.Win.Bits.length (x.Cur.Win.Bits.map iV) ∧ x.Cur.Win.Bits.length ≤ 9223372036854775807 ∧ Rd w 1 (.slice a4 x.Old.Key.length c4) x.Old.Key.length (x.Old.Key.map bV) ∧ x.Old.Key.length ≤ 9223372036854775807 ∧ Rd w 1 (.slice a5 x.Old.Win.Bits.length c5) x.Old.Win.Bits.length (x.Old.Win.Bits.map iV) ∧ x.Old.Win.Bits.length ≤ 9223372036854775807 ∧ Rd w 1 (.slice a6 x.Next.length c6) x.Next.length (x.Next.map bV) ∧ x.Next.length ≤ 9223372036854775807
theorem mQ_106 {w : World} {x : PEp} {a1 : Option Addr} {c1 : Nat} {a2 : Option Addr} {c2 : Nat} (h1 : Rd w 1 (.slice a1 x.Key.length c1) x.Key.length (x.Key.map bV)) (l1 : x.Key.length ≤ 9223372036854775807) (h2 : Rd w 1 (.slice a2 x.Win.Bits.length c2) x.Win.Bits.length (x.Win.Bits.map iV)) (l2 : x.Win.Bits.length ≤ 9223372036854775807) : Q_106 w (va (L_106 x a1 c1 a2 c2)) x := ⟨_, _, _, _, rfl, h1, l1, h2, l2⟩
def F_laws_szChan (x_a : PChan) (x_left : Int) : (Int) := bif (decide ((F_laws_szByteS x_a.Sn x_left) < 0)) then ((-1)) else (bif (decide ((F_laws_szEp x_a.Cur (F_laws_szByteS x_a.Sn x_left)) < 0)) then ((-1)) else (bif (decide ((F_laws_szEp x_a.Old (F_laws_szEp x_a.Cur (F_laws_szByteS x_a.Sn x_left))) < 0)) then ((-1)) else (bif (decide ((F_laws_szByteS x_a.Next (F_laws_szEp x_a.Old (F_laws_szEp x_a.Cur (F_laws_szByteS x_a.Sn x_left)))) < 0)) then ((-1)) else ((F_laws_szByteS x_a.Next (F_laws_szEp x_a.Old (F_laws_szEp x_a.Cur (F_laws_szByteS x_a.Sn x_left))))))))
theorem C_laws_szChan (w0 : World) (v_x_a : Value) (x_a : PChan) (r_x_a : Q_108 w0 v_x_a x_a) (x_left : Int) (pre0 : 0 ≤ x_left) (pre1 : x_left ≤ 1048576) : Fn Try.prog 127 #[v_x_a, (vi x_left)] w0 (fun v w' => Keep w0 w' ∧ O_3 w' w0.heap.size v (F_laws_szChan x_a x_left)) := by
 obtain ⟨a1, c2, a6, c7, a11, c12, a16, c17, a21, c22, a26, c27, rfl, r3, s4, r8, s9, r13, s14, r18, s19, r23, s24, r28, s29⟩ := r_x_a
 refine fn_of (n := 30) (l := [(va (L_94 x_a a1 c2 a6 c7 a11 c12 a16 c17 a21 c22 a26 c27)), (vi x_left), U, U, U, U, U, U, U, U, U, U, U, U, U, U, U, U, U, U, U, U, U, U, U, U, U, U, U, U]) Try.func127 rfl rfl (by kernel_rfl) rfl ?_
 refine sr ?_
 refine bx (L_94 x_a a1 c2 a6 c7 a11 c12 a16 c17 a21 c22 a26 c27) wN ?_
 intro g31 w1 p32 p33 k34 b35
 have m36 := (Ch.base w0).extk k34
 refine ag (vi 0) wN ?_
 refine nx ?_
 refine pu (vp g31 1) wN ?_
 refine ld (vs a1 x_a.Sn.length c2) wN isAgg_22 b35 ?_
 refine mv (vi x_left) wN ?_
 refine cl wN (C_laws_szByteS w1 _ x_a.Sn (mQ_22 (r3.from0 m36) s4) x_left (by omega) (by omega)) ?_
 rintro _ w2 ⟨k37, rfl⟩
 have m38 := m36.extk k37
 have q39 := laws_szByteS_le x_a.Sn x_left
 refine ag (vi (F_laws_szByteS x_a.Sn x_left)) wN ?_
 refine wl_nil <| wq_then <| wc_seq <| sr ?_
 refine mv (vi (F_laws_szByteS x_a.Sn x_left)) wN ?_
 refine pu (vb (decide ((F_laws_szByteS x_a.Sn x_left) < 0))) wN ?_
 refine wl_nil <| wq_then ?_
 rcases bt (decide ((F_laws_szByteS x_a.Sn x_left) < 0)) with h40 | h40
 ·have q41 := of_decide_eq_true h40
  refine ct h40 ?_
  refine sr ?_
  refine ag (vi (-1)) wN ?_
  refine wl_nil <| wq_then <| wc_ret <| wq_then_ret ?_
  refine ret_1 (.inl rfl) (vi (-1)) rfl rfl ?_
  refine ⟨m38.keep0, ?_⟩
  have hF42 : F_laws_szChan x_a x_left = (-1) := by simp only [F_laws_szChan, h40, cond_true, cond_false]
  rw [hF42]
  exact rfl
 have q43 := of_decide_eq_false h40
 refine cf h40 ?_
 refine wc_skip <| wq_then <| sr ?_
 refine pu (vp g31 2) wN ?_
 have b44 := (b35.kp k37)
 refine lN (L_92 x_a.Cur a6 c7 a11 c12) wN isAgg_106 sizeOf_106 b44 ?_
 refine mv (vi (F_laws_szByteS x_a.Sn x_left)) wN ?_
 refine cl wN (C_laws_szEp w2 _ x_a.Cur (mQ_106 (r8.from0 m38) s9 (r13.from0 m38) s14) (F_laws_szByteS x_a.Sn x_left) (by omega) (by omega)) ?_
 rintro _ w3 ⟨k45, rfl⟩
 have m46 := m38.extk k45
 have q47 := laws_szEp_le x_a.Cur (F_laws_szByteS x_a.Sn x_left)
 refine ag (vi (F_laws_szEp x_a.Cur (F_laws_szByteS x_a.Sn x_left))) wN ?_
 refine wl_nil <| wq_then <| wc_seq <| sr ?_
 refine mv (vi (F_laws_szEp x_a.Cur (F_laws_szByteS x_a.Sn x_left))) wN ?_
 refine pu (vb (decide ((F_laws_szEp x_a.Cur (F_laws_szByteS x_a.Sn x_left)) < 0))) wN ?_
 refine wl_nil <| wq_then ?_
 rcases bt (decide ((F_laws_szEp x_a.Cur (F_laws_szByteS x_a.Sn x_left)) < 0)) with h48 | h48
 ·have q49 := of_decide_eq_true h48
  refine ct h48 ?_
  refine sr ?_
  refine ag (vi (-1)) wN ?_
  refine wl_nil <| wq_then <| wc_ret <| wq_then_ret ?_
  refine ret_1 (.inl rfl) (vi (-1)) rfl rfl ?_
  refine ⟨m46.keep0, ?_⟩
  have hF50 : F_laws_szChan x_a x_left = (-1) := by simp only [F_laws_szChan, h40, h48, cond_true, cond_false]
  rw [hF50]
  exact rfl
 have q51 := of_decide_eq_false h48
 refine cf h48 ?_
 refine wc_skip <| wq_then <| sr ?_
 refine pu (vp g31 7) wN ?_
 have b52 := (b44.kp k45)
 refine lN (L_92 x_a.Old a16 c17 a21 c22) wN isAgg_106 sizeOf_106 b52 ?_
 refine mv (vi (F_laws_szEp x_a.Cur (F_laws_szByteS x_a.Sn x_left))) wN ?_
 refine cl wN (C_laws_szEp w3 _ x_a.Old (mQ_106 (r18.from0 m46) s19 (r23.from0 m46) s24) (F_laws_szEp x_a.Cur (F_laws_szByteS x_a.Sn x_left)) (by omega) (by omega)) ?_
 rintro _ w4 ⟨k53, rfl⟩
 have m54 := m46.extk k53
 have q55 := laws_szEp_le x_a.Old (F_laws_szEp x_a.Cur (F_laws_szByteS x_a.Sn x_left))
 refine ag (vi (F_laws_szEp x_a.Old (F_laws_szEp x_a.Cur (F_laws_szByteS x_a.Sn x_left)))) wN ?_
 refine wl_nil <| wq_then <| wc_seq <| sr ?_
 refine mv (vi (F_laws_szEp x_a.Old (F_laws_szEp x_a.Cur (F_laws_szByteS x_a.Sn x_left)))) wN ?_
 refine pu (vb (decide ((F_laws_szEp x_a.Old (F_laws_szEp x_a.Cur (F_laws_szByteS x_a.Sn x_left))) < 0))) wN ?_
 refine wl_nil <| wq_then ?_
 rcases bt (decide ((F_laws_szEp x_a.Old (F_laws_szEp x_a.Cur (F_laws_szByteS x_a.Sn x_left))) < 0)) with h56 | h56
 ·have q57 := of_decide_eq_true h56
  refine ct h56 ?_
  refine sr ?_
  refine ag (vi (-1)) wN ?_
  refine wl_nil <| wq_then <| wc_ret <| wq_then_ret ?_
  refine ret_1 (.inl rfl) (vi (-1)) rfl rfl ?_
  refine ⟨m54.keep0, ?_⟩
  have hF58 : F_laws_szChan x_a x_left = (-1) := by simp only [F_laws_szChan, h40, h48, h56, cond_true, cond_false]
  rw [hF58]
  exact rfl
 have q59 := of_decide_eq_false h56
 refine cf h56 ?_
 refine wc_skip <| wq_then <| sr ?_
 refine pu (vp g31 14) wN ?_
 have b60 := (b52.kp k53)
 refine ld (vs a26 x_a.Next.length c27) wN isAgg_22 b60 ?_
 refine mv (vi (F_laws_szEp x_a.Old (F_laws_szEp x_a.Cur (F_laws_szByteS x_a.Sn x_left)))) wN ?_
 refine cl wN (C_laws_szByteS w4 _ x_a.Next (mQ_22 (r28.from0 m54) s29) (F_laws_szEp x_a.Old (F_laws_szEp x_a.Cur (F_laws_szByteS x_a.Sn x_left))) (by omega) (by omega)) ?_
 rintro _ w5 ⟨k61, rfl⟩
 have m62 := m54.extk k61
 have q63 := laws_szByteS_le x_a.Next (F_laws_szEp x_a.Old (F_laws_szEp x_a.Cur (F_laws_szByteS x_a.Sn x_left)))
 refine ag (vi (F_laws_szByteS x_a.Next (F_laws_szEp x_a.Old (F_laws_szEp x_a.Cur (F_laws_szByteS x_a.Sn x_left))))) wN ?_
 refine wl_nil <| wq_then <| wc_seq <| sr ?_
 refine mv (vi (F_laws_szByteS x_a.Next (F_laws_szEp x_a.Old (F_laws_szEp x_a.Cur (F_laws_szByteS x_a.Sn x_left))))) wN ?_
 refine pu (vb (decide ((F_laws_szByteS x_a.Next (F_laws_szEp x_a.Old (F_laws_szEp x_a.Cur (F_laws_szByteS x_a.Sn x_left)))) < 0))) wN ?_
 refine wl_nil <| wq_then ?_
 rcases bt (decide ((F_laws_szByteS x_a.Next (F_laws_szEp x_a.Old (F_laws_szEp x_a.Cur (F_laws_szByteS x_a.Sn x_left)))) < 0)) with h64 | h64
 ·have q65 := of_decide_eq_true h64
  refine ct h64 ?_
  refine sr ?_
  refine ag (vi (-1)) wN ?_
  refine wl_nil <| wq_then <| wc_ret <| wq_then_ret ?_
  refine ret_1 (.inl rfl) (vi (-1)) rfl rfl ?_
  refine ⟨m62.keep0, ?_⟩
  have hF66 : F_laws_szChan x_a x_left = (-1) := by simp only [F_laws_szChan, h40, h48, h56, h64, cond_true, cond_false]
  rw [hF66]
  exact rfl
 have q67 := of_decide_eq_false h64
 refine cf h64 ?_
 refine wc_skip <| wq_then <| sr ?_
 refine mv (vi (F_laws_szByteS x_a.Next (F_laws_szEp x_a.Old (F_laws_szEp x_a.Cur (F_laws_szByteS x_a.Sn x_left))))) wN ?_
 refine ag (vi (F_laws_szByteS x_a.Next (F_laws_szEp x_a.Old (F_laws_szEp x_a.Cur (F_laws_szByteS x_a.Sn x_left))))) wN ?_
 refine wl_nil <| wq_then <| wc_ret ?_
 refine ret_1 (.inl rfl) (vi (F_laws_szByteS x_a.Next (F_laws_szEp x_a.Old (F_laws_szEp x_a.Cur (F_laws_szByteS x_a.Sn x_left))))) rfl rfl ?_
 refine ⟨m62.keep0, ?_⟩
 have hF68 : F_laws_szChan x_a x_left = (F_laws_szByteS x_a.Next (F_laws_szEp x_a.Old (F_laws_szEp x_a.Cur (F_laws_szByteS x_a.Sn x_left)))) := by simp only [F_laws_szChan, h40, h48, h56, h64, cond_true, cond_false]
 rw [hF68]
 exact rfl
theorem laws_szChan_le (x : PChan) (l : Int) : F_laws_szChan x l = -1 ∨ (F_laws_szChan x l = l - ((x.Sn.length : Int) + (x.Cur.Key.length : Int) + (x.Cur.Win.Bits.length : Int) + (x.Old.Key.length : Int) + (x.Old.Win.Bits.length : Int) + (x.Next.length : Int)) ∧ (0 ≤ F_laws_szChan x l ∨ l < 0 ∨ False)) := by
  have h0 := laws_szByteS_le x.Sn l
  have h1 := laws_szEp_le x.Cur (F_laws_szByteS x.Sn l)
  have h2 := laws_szEp_le x.Old (F_laws_szEp x.Cur (F_laws_szByteS x.Sn l))
  have h3 := laws_szByteS_le x.Next (F_laws_szEp x.Old (F_laws_szEp x.Cur (F_laws_szByteS x.Sn l)))
  simp only [F_laws_szChan, cond_eq_ite, decide_eq_true_eq]
  (repeat' split) <;> omega

abbrev L_98 (x : PClient) (a1 : Option Addr) (c1 : Nat) (a2 : Option Addr) (c2 : Nat) (a3 : Option Addr) (c3 : Nat) (a4 : Option Addr) (c4 : Nat) (a5 : Option Addr) (c5 : Nat) (a6 : Option Addr) (c6 : Nat) (a7 : Option Addr) (c7 : Nat) (a8 : Option Addr) (c8 : Nat) (a9 : Option Addr) (c9 : Nat) (a10 : Option Addr) (c10 : Nat) (a11 : Option Addr) (c11 : Nat) (a12 : Option Addr) (c12 : Nat) (a13 : Option Addr) (c13 : Nat) (a14 : Option Addr) (c14 : Nat) : List Value := [vi x.Id, vs a1 x.Psk.length c1, vi x.At.Host, vi x.At.Port, vi x.St, vs a2 x.Cn.length c2, vi x.Fin.Kind, vi x.Fin.Id, vs a3 x.Fin.Cn.length c3, vs a4 x.Fin.Sn.length c4, vi x.Fin.Tick, vs a5 x.Fin.Cookie.length c5, vs a6 x.Fin.Proof.length c6, vi x.Fin.Epoch, vi x.Fin.Seq, vs a7 x.Fin.Body.length c7, vs a8 x.Fin.Tag.length c8, vi x.C.Role, vs a9 x.C.Sn.length c9, vi x.C.Cur.N, vs a10 x.C.Cur.Key.length c10, vi x.C.Cur.Seq, vi x.C.Cur.Win.Top, vs a11 x.C.Cur.Win.Bits.length c11, vi x.C.Old.N, vs a12 x.C.Old.Key.length c12, vi x.C.Old.Seq, vi x.C.Old.Win.Top, vs a13 x.C.Old.Win.Bits.length c13, vb x.C.HasOld, vi x.C.Until, vs a14 x.C.Next.length c14, vb x.T.On, vi x.T.Due, vi x.T.Wait, vi x.T.Tries, vb x.R.On, vi x.R.Due, vi x.R.Wait, vi x.R.Tries, vi x.Last]
theorem isAgg_103 : ∀ w, (isAgg 103).run Try.prog w = .ok true w := fun w => by kernel_rfl
theorem sizeOf_103 : ∀ w, (sizeOf 103).run Try.prog w = .ok 11 w := fun w => by kernel_rfl
abbrev L_103 (x : PFrame) (a1 : Option Addr) (c1 : Nat) (a2 : Option Addr) (c2 : Nat) (a3 : Option Addr) (c3 : Nat) (a4 : Option Addr) (c4 : Nat) (a5 : Option Addr) (c5 : Nat) (a6 : Option Addr) (c6 : Nat) : List Value := [vi x.Kind, vi x.Id, vs a1 x.Cn.length c1, vs a2 x.Sn.length c2, vi x.Tick, vs a3 x.Cookie.length c3, vs a4 x.Proof.length c4, vi x.Epoch, vi x.Seq, vs a5 x.Body.length c5, vs a6 x.Tag.length c6]
theorem isAgg_108 : ∀ w, (isAgg 108).run Try.prog w = .ok true w := fun w => by kernel_rfl
theorem sizeOf_108 : ∀ w, (sizeOf 108).run Try.prog w = .ok 15 w := fun w => by kernel_rfl
abbrev L_108 (x : PChan) (a1 : Option Addr) (c1 : Nat) (a2 : Option Addr) (c2 : Nat) (a3 : Option Addr) (c3 : Nat) (a4 : Option Addr) (c4 : Nat) (a5 : Option Addr) (c5 : Nat) (a6 : Option Addr) (c6 : Nat) : List Value := [vi x.Role, vs a1 x.Sn.length c1, vi x.Cur.N, vs a2 x.Cur.Key.length c2, vi x.Cur.Seq, vi x.Cur.Win.Top, vs a3 x.Cur.Win.Bits.length c3, vi x.Old.N, vs a4 x.Old.Key.length c4, vi x.Old.Seq, vi x.Old.Win.Top, vs a5 x.Old.Win.Bits.length c5, vb x.HasOld, vi x.Until, vs a6 x.Next.length c6]
def Q_111 (w : World) (v : Value) (x : (PClient)) : Prop := ∃ (a1 : Option Addr) (c1 : Nat) (a2 : Option Addr) (c2 : Nat) (a3 : Option Addr) (c3 : Nat) (a4 : Option Addr) (c4 : Nat) (a5 : Option Addr) (c5 : Nat) (a6 : Option Addr) (c6 : Nat) (a7 : Option Addr) (c7 : Nat) (a8 : Option Addr) (c8 : Nat) (a9 : Option Addr) (c9 : Nat) (a10 : Option Addr) (c10 : Nat) (a11 : Option Addr) (c11 : Nat) (a12 : Option Addr) (c12 : Nat) (a13 : Option Addr) (c13 : Nat) (a14 : Option Addr) (c14 : Nat), v = .agg #[.int .i64 x.Id, .slice a1 x.Psk.length c1, .int .i64 x.At.Host, .int .i64 x.At.Port, .int .i64 x.St, .slice a2 x.Cn.length c2, .int .i64 x.Fin.Kind, .int .i64 x.Fin.Id, .slice a3 x.Fin.Cn.length c3, .slice a4 x.Fin.Sn.length c4, .int .i64 x.Fin.Tick, .slice a5 x.Fin.Cookie.length c5, .slice a6 x.Fin.Proof.length c6, .int .i64 x.Fin.Epoch, .int .i64 x.Fin.Seq, .slice a7 x.Fin.Body.length c7, .slice a8 x.Fin.Tag.length c8, .int .i64 x.C.Role, .slice a9 x.C.Sn.length c9, .int .i64 x.C.Cur.N, .slice a10 x.C.Cur.Key.length c10, .int .i64 x.C.Cur.Seq, .int .i64 x.C.Cur.Win.Top, .slice a11 x.C.Cur.Win.Bits.length c11, .int .i64 x.C.Old.N, .slice a12 x.C.Old.Key.length c12, .int .i64 x.C.Old.Seq, .int .i64 x.C.Old.Win.Top, .slice a13 x.C.Old.Win.Bits.length c13, .bool x.C.HasOld, .int .i64 x.C.Until, .slice a14 x.C.Next.length c14, .bool x.T.On, .int .i64 x.T.Due, .int .i64 x.T.Wait, .int .i64 x.T.Tries, .bool x.R.On, .int .i64 x.R.Due, .int .i64 x.R.Wait, .int .i64 x.R.Tries, .int .i64 x.Last] ∧ Rd w 1 (.slice a1 x.Psk.length c1) x.Psk.length (x.Psk.map bV) ∧ x.Psk.length ≤ 9223372036854775807 ∧ Rd w 1 (.slice a2 x.Cn.length c2) x.Cn.length (x.Cn.map bV) ∧ x.Cn.length ≤ 9223372036854775807 ∧ Rd w 1 (.slice a3 x.Fin.Cn.length c3) x.Fin.Cn.length (x.Fin.Cn.map bV) ∧ x.Fin.Cn.length ≤ 9223372036854775807 ∧ Rd w 1 (.slice a4 x.Fin.Sn.length c4) x.Fin.Sn.length (x.Fin.Sn.map bV) ∧ x.Fin.Sn.length ≤ 9223372036854775807 ∧ Rd w 1 (.slice a5 x.Fin.Cookie.length c5) x.Fin.Cookie.length (x.Fin.Cookie.map bV) ∧ x.Fin.Cookie.length ≤ 9223372036854775807 ∧ Rd w 1 (.slice a6 x.Fin.Proof.length c6) x.Fin.Proof.length (x.Fin.Proof.map bV) ∧ x.Fin.Proof.length ≤ 9223372036854775807 ∧ Rd w 1 (.slice a7 x.Fin.Body.length c7) x.Fin.Body.length (x.Fin.Body.map bV) ∧ x.Fin.Body.length ≤ 9223372036854775807 ∧ Rd w 1 (.slice a8 x.Fin.Tag.length c8) x.Fin.Tag.length (x.Fin.Tag.map bV) ∧ x.Fin.Tag.length ≤ 9223372036854775807 ∧ Rd w 1 (.slice a9 x.C.Sn.length c9) x.C.Sn.length (x.C.Sn.map bV) ∧ x.C.Sn.length ≤ 9223372036854775807 ∧ Rd w 1 (.slice a10 x.C.Cur.Key.length c10) x.C.Cur.Key.length (x.C.Cur.Key.map bV) ∧ x.C.Cur.Key.length ≤ 9223372036854775807 ∧ Rd w 1 (.slice a11 x.C.Cur.Win.Bits.length c11) x.C.Cur.Win.Bits.length (x.C.Cur.Win.Bits.map iV) ∧ x.C.Cur.Win.Bits.length ≤ 9223372036854775807 ∧ Rd w 1 (.slice a12 x.C.Old.Key.length c12) x.C.Old.Key.length (x.C.Old.Key.map bV) ∧ x.C.Old.Key.length ≤ 9223372036854775807 ∧ Rd w 1 (.slice a13 x.C.Old.Win.Bits.length c13) x.C.Old.Win.Bits.length (x.C.Old.Win.Bits.map iV) ∧ x.C.Old.Win.Bits.length ≤ 9223372036854775807 ∧ Rd w 1 (.slice a14 x.C.Next.length c14) x.C.Next.length (x.C.Next.map bV) ∧ x.C.Next.length ≤ 9223372036854775807
theorem mQ_103 {w : World} {x : PFrame} {a1 : Option Addr} {c1 : Nat} {a2 : Option Addr} {c2 : Nat} {a3 : Option Addr} {c3 : Nat} {a4 : Option Addr} {c4 : Nat} {a5 : Option Addr} {c5 : Nat} {a6 : Option Addr} {c6 : Nat} (h1 : Rd w 1 (.slice a1 x.Cn.length c1) x.Cn.length (x.Cn.map bV)) (l1 : x.Cn.length ≤ 9223372036854775807) (h2 : Rd w 1 (.slice a2 x.Sn.length c2) x.Sn.length (x.Sn.map bV)) (l2 : x.Sn.length ≤ 9223372036854775807) (h3 : Rd w 1 (.slice a3 x.Cookie.length c3) x.Cookie.length (x.Cookie.map bV)) (l3 : x.Cookie.length ≤ 9223372036854775807) (h4 : Rd w 1 (.slice a4 x.Proof.length c4) x.Proof.length (x.Proof.map bV)) (l4 : x.Proof.length ≤ 9223372036854775807) (h5 : Rd w 1 (.slice a5 x.Body.length c5) x.Body.length (x.Body.map bV)) (l5 : x.Body.length ≤ 9223372036854775807) (h6 : Rd w 1 (.slice a6 x.Tag.length c6) x.Tag.length (x.Tag.map bV)) (l6 : x.Tag.length ≤ 9223372036854775807) : Q_103 w (va (L_103 x a1 c1 a2 c2 a3 c3 a4 c4 a5 c5 a6 c6)) x := ⟨_, _, _, _, _, _, _, _, _, _, _, _, rfl, h1, l1, h2, l2, h3, l3, h4, l4, h5, l5, h6, l6⟩
theorem mQ_108 {w : World} {x : PChan} {a1 : Option Addr} {c1 : Nat} {a2 : Option Addr} {c2 : Nat} {a3 : Option Addr} {c3 : Nat} {a4 : Option Addr} {c4 : Nat} {a5 : Option Addr} {c5 : Nat} {a6 : Option Addr} {c6 : Nat} (h1 : Rd w 1 (.slice a1 x.Sn.length c1) x.Sn.length (x.Sn.map bV)) (l1 : x.Sn.length ≤ 9223372036854775807) (h2 : Rd w 1 (.slice a2 x.Cur.Key.length c2) x.Cur.Key.length (x.Cur.Key.map bV)) (l2 : x.Cur.Key.length ≤ 9223372036854775807) (h3 : Rd w 1 (.slice a3 x.Cur.Win.Bits.length c3) x.Cur.Win.Bits.length (x.Cur.Win.Bits.map iV)) (l3 : x.Cur.Win.Bits.length ≤ 9223372036854775807) (h4 : Rd w 1 (.slice a4 x.Old.Key.length c4) x.Old.Key.length (x.Old.Key.map bV)) (l4 : x.Old.Key.length ≤ 9223372036854775807) (h5 : Rd w 1 (.slice a5 x.Old.Win.Bits.length c5) x.Old.Win.Bits.length (x.Old.Win.Bits.map iV)) (l5 : x.Old.Win.Bits.length ≤ 9223372036854775807) (h6 : Rd w 1 (.slice a6 x.Next.length c6) x.Next.length (x.Next.map bV)) (l6 : x.Next.length ≤ 9223372036854775807) : Q_108 w (va (L_108 x a1 c1 a2 c2 a3 c3 a4 c4 a5 c5 a6 c6)) x := ⟨_, _, _, _, _, _, _, _, _, _, _, _, rfl, h1, l1, h2, l2, h3, l3, h4, l4, h5, l5, h6, l6⟩
def F_laws_szClient (x_a : PClient) (x_left : Int) : (Int) := bif (decide ((F_laws_szByteS x_a.Psk x_left) < 0)) then ((-1)) else (bif (decide ((F_laws_szByteS x_a.Cn (F_laws_szByteS x_a.Psk x_left)) < 0)) then ((-1)) else (bif (decide ((F_laws_szFrame x_a.Fin (F_laws_szByteS x_a.Cn (F_laws_szByteS x_a.Psk x_left))) < 0)) then ((-1)) else (bif (decide ((F_laws_szChan x_a.C (F_laws_szFrame x_a.Fin (F_laws_szByteS x_a.Cn (F_laws_szByteS x_a.Psk x_left)))) < 0)) then ((-1)) else ((F_laws_szChan x_a.C (F_laws_szFrame x_a.Fin (F_laws_szByteS x_a.Cn (F_laws_szByteS x_a.Psk x_left))))))))
theorem C_laws_szClient (w0 : World) (v_x_a : Value) (x_a : PClient) (r_x_a : Q_111 w0 v_x_a x_a) (x_left : Int) (pre0 : 0 ≤ x_left) (pre1 : x_left ≤ 1048576) : Fn Try.prog 69 #[v_x_a, (vi x_left)] w0 (fun v w' => Keep w0 w' ∧ O_3 w' w0.heap.size v (F_laws_szClient x_a x_left)) := by
 obtain ⟨a1, c2, a6, c7, a11, c12, a16, c17, a21, c22, a26, c27, a31, c32, a36, c37, a41, c42, a46, c47, a51, c52, a56, c57, a61, c62, a66, c67, rfl, r3, s4, r8, s9, r13, s14, r18, s19, r23, s24, r28, s29, r33, s34, r38, s39, r43, s44, r48, s49, r53, s54, r58, s59, r63, s64, r68, s69⟩ := r_x_a
 refine fn_of (n := 30) (l := [(va (L_98 x_a a1 c2 a6 c7 a11 c12 a16 c17 a21 c22 a26 c27 a31 c32 a36 c37 a41 c42 a46 c47 a51 c52 a56 c57 a61 c62 a66 c67)), (vi x_left), U, U, U, U, U, U, U, U, U, U, U, U, U, U, U, U, U, U, U, U, U, U, U, U, U, U, U, U]) Try.func69 rfl rfl (by kernel_rfl) rfl ?_
 refine sr ?_
 refine bx (L_98 x_a a1 c2 a6 c7 a11 c12 a16 c17 a21 c22 a26 c27 a31 c32 a36 c37 a41 c42 a46 c47 a51 c52 a56 c57 a61 c62 a66 c67) wN ?_
 intro g71 w1 p72 p73 k74 b75
 have m76 := (Ch.base w0).extk k74
 refine ag (vi 0) wN ?_
 refine nx ?_
 refine pu (vp g71 1) wN ?_
 refine ld (vs a1 x_a.Psk.length c2) wN isAgg_22 b75 ?_
 refine mv (vi x_left) wN ?_
 refine cl wN (C_laws_szByteS w1 _ x_a.Psk (mQ_22 (r3.from0 m76) s4) x_left (by omega) (by omega)) ?_
 rintro _ w2 ⟨k77, rfl⟩
 have m78 := m76.extk k77
 have q79 := laws_szByteS_le x_a.Psk x_left
 refine ag (vi (F_laws_szByteS x_a.Psk x_left)) wN ?_
 refine wl_nil <| wq_then <| wc_seq <| sr ?_
 refine mv (vi (F_laws_szByteS x_a.Psk x_left)) wN ?_
 refine pu (vb (decide ((F_laws_szByteS x_a.Psk x_left) < 0))) wN ?_
 refine wl_nil <| wq_then ?_
 rcases bt (decide ((F_laws_szByteS x_a.Psk x_left) < 0)) with h80 | h80
 ·have q81 := of_decide_eq_true h80
  refine ct h80 ?_
  refine sr ?_
  refine ag (vi (-1)) wN ?_
  refine wl_nil <| wq_then <| wc_ret <| wq_then_ret ?_
  refine ret_1 (.inl rfl) (vi (-1)) rfl rfl ?_
  refine ⟨m78.keep0, ?_⟩
  have hF82 : F_laws_szClient x_a x_left = (-1) := by simp only [F_laws_szClient, h80, cond_true, cond_false]
  rw [hF82]
  exact rfl
 have q83 := of_decide_eq_false h80
 refine cf h80 ?_
 refine wc_skip <| wq_then <| sr ?_
 refine pu (vp g71 5) wN ?_
 have b84 := (b75.kp k77)
 refine ld (vs a6 x_a.Cn.length c7) wN isAgg_22 b84 ?_
 refine mv (vi (F_laws_szByteS x_a.Psk x_left)) wN ?_
 refine cl wN (C_laws_szByteS w2 _ x_a.Cn (mQ_22 (r8.from0 m78) s9) (F_laws_szByteS x_a.Psk x_left) (by omega) (by omega)) ?_
 rintro _ w3 ⟨k85, rfl⟩
 have m86 := m78.extk k85
 have q87 := laws_szByteS_le x_a.Cn (F_laws_szByteS x_a.Psk x_left)
 refine ag (vi (F_laws_szByteS x_a.Cn (F_laws_szByteS x_a.Psk x_left))) wN ?_
 refine wl_nil <| wq_then <| wc_seq <| sr ?_
 refine mv (vi (F_laws_szByteS x_a.Cn (F_laws_szByteS x_a.Psk x_left))) wN ?_
 refine pu (vb (decide ((F_laws_szByteS x_a.Cn (F_laws_szByteS x_a.Psk x_left)) < 0))) wN ?_
 refine wl_nil <| wq_then ?_
 rcases bt (decide ((F_laws_szByteS x_a.Cn (F_laws_szByteS x_a.Psk x_left)) < 0)) with h88 | h88
 ·have q89 := of_decide_eq_true h88
  refine ct h88 ?_
  refine sr ?_
  refine ag (vi (-1)) wN ?_
  refine wl_nil <| wq_then <| wc_ret <| wq_then_ret ?_
  refine ret_1 (.inl rfl) (vi (-1)) rfl rfl ?_
  refine ⟨m86.keep0, ?_⟩
  have hF90 : F_laws_szClient x_a x_left = (-1) := by simp only [F_laws_szClient, h80, h88, cond_true, cond_false]
  rw [hF90]
  exact rfl
 have q91 := of_decide_eq_false h88
 refine cf h88 ?_
 refine wc_skip <| wq_then <| sr ?_
 refine pu (vp g71 6) wN ?_
 have b92 := (b84.kp k85)
 refine lN (L_87 x_a.Fin a11 c12 a16 c17 a21 c22 a26 c27 a31 c32 a36 c37) wN isAgg_103 sizeOf_103 b92 ?_
 refine mv (vi (F_laws_szByteS x_a.Cn (F_laws_szByteS x_a.Psk x_left))) wN ?_
 refine cl wN (C_laws_szFrame w3 _ x_a.Fin (mQ_103 (r13.from0 m86) s14 (r18.from0 m86) s19 (r23.from0 m86) s24 (r28.from0 m86) s29 (r33.from0 m86) s34 (r38.from0 m86) s39) (F_laws_szByteS x_a.Cn (F_laws_szByteS x_a.Psk x_left)) (by omega) (by omega)) ?_
 rintro _ w4 ⟨k93, rfl⟩
 have m94 := m86.extk k93
 have q95 := laws_szFrame_le x_a.Fin (F_laws_szByteS x_a.Cn (F_laws_szByteS x_a.Psk x_left))
 refine ag (vi (F_laws_szFrame x_a.Fin (F_laws_szByteS x_a.Cn (F_laws_szByteS x_a.Psk x_left)))) wN ?_
 refine wl_nil <| wq_then <| wc_seq <| sr ?_
 refine mv (vi (F_laws_szFrame x_a.Fin (F_laws_szByteS x_a.Cn (F_laws_szByteS x_a.Psk x_left)))) wN ?_
 refine pu (vb (decide ((F_laws_szFrame x_a.Fin (F_laws_szByteS x_a.Cn (F_laws_szByteS x_a.Psk x_left))) < 0))) wN ?_
 refine wl_nil <| wq_then ?_
 rcases bt (decide ((F_laws_szFrame x_a.Fin (F_laws_szByteS x_a.Cn (F_laws_szByteS x_a.Psk x_left))) < 0)) with h96 | h96
 ·have q97 := of_decide_eq_true h96
  refine ct h96 ?_
  refine sr ?_
  refine ag (vi (-1)) wN ?_
  refine wl_nil <| wq_then <| wc_ret <| wq_then_ret ?_
  refine ret_1 (.inl rfl) (vi (-1)) rfl rfl ?_
  refine ⟨m94.keep0, ?_⟩
  have hF98 : F_laws_szClient x_a x_left = (-1) := by simp only [F_laws_szClient, h80, h88, h96, cond_true, cond_false]
  rw [hF98]
  exact rfl
 have q99 := of_decide_eq_false h96
 refine cf h96 ?_
 refine wc_skip <| wq_then <| sr ?_
 refine pu (vp g71 17) wN ?_
 have b100 := (b92.kp k93)
 refine lN (L_94 x_a.C a41 c42 a46 c47 a51 c52 a56 c57 a61 c62 a66 c67) wN isAgg_108 sizeOf_108 b100 ?_
 refine mv (vi (F_laws_szFrame x_a.Fin (F_laws_szByteS x_a.Cn (F_laws_szByteS x_a.Psk x_left)))) wN ?_
 refine cl wN (C_laws_szChan w4 _ x_a.C (mQ_108 (r43.from0 m94) s44 (r48.from0 m94) s49 (r53.from0 m94) s54 (r58.from0 m94) s59 (r63.from0 m94) s64 (r68.from0 m94) s69) (F_laws_szFrame x_a.Fin (F_laws_szByteS x_a.Cn (F_laws_szByteS x_a.Psk x_left))) (by omega) (by omega)) ?_
 rintro _ w5 ⟨k101, rfl⟩
 have m102 := m94.extk k101
 have q103 := laws_szChan_le x_a.C (F_laws_szFrame x_a.Fin (F_laws_szByteS x_a.Cn (F_laws_szByteS x_a.Psk x_left)))
 refine ag (vi (F_laws_szChan x_a.C (F_laws_szFrame x_a.Fin (F_laws_szByteS x_a.Cn (F_laws_szByteS x_a.Psk x_left))))) wN ?_
 refine wl_nil <| wq_then <| wc_seq <| sr ?_
 refine mv (vi (F_laws_szChan x_a.C (F_laws_szFrame x_a.Fin (F_laws_szByteS x_a.Cn (F_laws_szByteS x_a.Psk x_left))))) wN ?_
 refine pu (vb (decide ((F_laws_szChan x_a.C (F_laws_szFrame x_a.Fin (F_laws_szByteS x_a.Cn (F_laws_szByteS x_a.Psk x_left)))) < 0))) wN ?_
 refine wl_nil <| wq_then ?_
 rcases bt (decide ((F_laws_szChan x_a.C (F_laws_szFrame x_a.Fin (F_laws_szByteS x_a.Cn (F_laws_szByteS x_a.Psk x_left)))) < 0)) with h104 | h104
 ·have q105 := of_decide_eq_true h104
  refine ct h104 ?_
  refine sr ?_
  refine ag (vi (-1)) wN ?_
  refine wl_nil <| wq_then <| wc_ret <| wq_then_ret ?_
  refine ret_1 (.inl rfl) (vi (-1)) rfl rfl ?_
  refine ⟨m102.keep0, ?_⟩
  have hF106 : F_laws_szClient x_a x_left = (-1) := by simp only [F_laws_szClient, h80, h88, h96, h104, cond_true, cond_false]
  rw [hF106]
  exact rfl
 have q107 := of_decide_eq_false h104
 refine cf h104 ?_
 refine wc_skip <| wq_then <| sr ?_
 refine mv (vi (F_laws_szChan x_a.C (F_laws_szFrame x_a.Fin (F_laws_szByteS x_a.Cn (F_laws_szByteS x_a.Psk x_left))))) wN ?_
 refine ag (vi (F_laws_szChan x_a.C (F_laws_szFrame x_a.Fin (F_laws_szByteS x_a.Cn (F_laws_szByteS x_a.Psk x_left))))) wN ?_
 refine wl_nil <| wq_then <| wc_ret ?_
 refine ret_1 (.inl rfl) (vi (F_laws_szChan x_a.C (F_laws_szFrame x_a.Fin (F_laws_szByteS x_a.Cn (F_laws_szByteS x_a.Psk x_left))))) rfl rfl ?_
 refine ⟨m102.keep0, ?_⟩
 have hF108 : F_laws_szClient x_a x_left = (F_laws_szChan x_a.C (F_laws_szFrame x_a.Fin (F_laws_szByteS x_a.Cn (F_laws_szByteS x_a.Psk x_left)))) := by simp only [F_laws_szClient, h80, h88, h96, h104, cond_true, cond_false]
 rw [hF108]
 exact rfl
theorem laws_szClient_le (x : PClient) (l : Int) : F_laws_szClient x l = -1 ∨ (F_laws_szClient x l = l - ((x.Psk.length : Int) + (x.Cn.length : Int) + (x.Fin.Cn.length : Int) + (x.Fin.Sn.length : Int) + (x.Fin.Cookie.length : Int) + (x.Fin.Proof.length : Int) + (x.Fin.Body.length : Int) + (x.Fin.Tag.length : Int) + (x.C.Sn.length : Int) + (x.C.Cur.Key.length : Int) + (x.C.Cur.Win.Bits.length : Int) + (x.C.Old.Key.length : Int) + (x.C.Old.Win.Bits.length : Int) + (x.C.Next.length : Int)) ∧ (0 ≤ F_laws_szClient x l ∨ l < 0 ∨ False)) := by
  have h0 := laws_szByteS_le x.Psk l
  have h1 := laws_szByteS_le x.Cn (F_laws_szByteS x.Psk l)
  have h2 := laws_szFrame_le x.Fin (F_laws_szByteS x.Cn (F_laws_szByteS x.Psk l))
  have h3 := laws_szChan_le x.C (F_laws_szFrame x.Fin (F_laws_szByteS x.Cn (F_laws_szByteS x.Psk l)))
  simp only [F_laws_szClient, cond_eq_ite, decide_eq_true_eq]
  (repeat' split) <;> omega

theorem isAgg_5 : ∀ w, (isAgg 5).run Try.prog w = .ok false w := fun w => by kernel_rfl
theorem sizeOf_5 : ∀ w, (sizeOf 5).run Try.prog w = .ok 1 w := fun w => by kernel_rfl
def R_22 (w : World) (v : Value) (x : (List UInt8)) : Prop := ∃ (a1 : Option Addr) (c1 : Nat), v = .slice a1 x.length c1 ∧ Rd w 1 (.slice a1 x.length c1) x.length (x.map bV) ∧ x.length ≤ 1073741824
def O_22 (w : World) (lo : Nat) (v : Value) (x : (List UInt8)) : Prop := ∃ (a1 : Option Addr) (c1 : Nat), v = .slice a1 x.length c1 ∧ w.ownsRow lo 5 1 (.slice a1 x.length c1) x.length (x.map bV) ∧ x.length ≤ 1073741824 ∧ Aps [(a1, c1)]
theorem C_laws_toByteS (w0 : World) (v_x_a : Value) (x_a : List UInt8) (r_x_a : R_22 w0 v_x_a x_a)  : Fn Try.prog 58 #[v_x_a] w0 (fun v w' => Keep w0 w' ∧ O_22 w' w0.heap.size v (cpB x_a)) := by
 obtain ⟨a1, c2, rfl, r3, s4⟩ := r_x_a
 refine fn_of (n := 22) (l := [(vs a1 x_a.length c2), U, U, U, U, U, U, U, U, U, U, U, U, U, U, U, U, U, U, U, U, U]) Try.func58 rfl rfl (by kernel_rfl) rfl ?_
 refine sr ?_
 refine ag (vs none 0 0) wN ?_
 refine nx ?_
 refine mv (vs a1 x_a.length c2) wN ?_
 refine ln wN slTy_22 r3 ?_
 refine wl_makeB (x_a.length) wN rfl rfl rfl slTy_22 (x_a.length : Int) rfl (by omega) (by (try simp only [List.length_append, List.length_cons, List.length_nil]); omega) (by (try simp only [List.length_append, List.length_cons, List.length_nil]); omega) ?_
 intro a6 c7 w1 k8 o9
 have m10 := (Ch.base w0).extk k8
 refine ag (vs a6 (List.replicate x_a.length (0 : UInt8)).length c7) wN ?_
 refine wl_nil <| wq_then <| wc_seq <| sr ?_
 refine ag (vi 0) wN ?_
 refine wl_nil <| wq_then <| wc_block ?_
 refine wc_norm [(vs a1 x_a.length c2), U, (vs none 0 0), (vs a6 (List.replicate x_a.length (0 : UInt8)).length c7), (vi 0), (vs a1 x_a.length c2), (vi (x_a.length : Int)), (vs a6 (List.replicate x_a.length (0 : UInt8)).length c7), U, U, U, U, U, U, U, U, U, U, U, U, U, U] rfl ⟨rfl, rfl, rfl, rfl, rfl, rfl, rfl, rfl, rfl, rfl, rfl, rfl, rfl, rfl, rfl, rfl, rfl, rfl, rfl, rfl, rfl, rfl, trivial⟩ ?_
 refine wc_loop (fun e' w' => ∃ (k : Nat) (u8x u9x u10x u11x u12x u13x u14x u15x u16x u17x u18x u19x u20x : Value), e' = lst [(vs a1 x_a.length c2), U, (vs none 0 0), (vs a6 (List.replicate x_a.length (0 : UInt8)).length c7), (vi ((k : Nat) : Int)), (vs a1 x_a.length c2), (vi (x_a.length : Int)), (vs a6 (List.replicate x_a.length (0 : UInt8)).length c7), u8x, u9x, u10x, u11x, u12x, u13x, u14x, u15x, u16x, u17x, u18x, u19x, u20x, U] ∧ Ch (fun k => w0.heap.size ≤ k) w0 w' ∧ Ch (fun k => w0.heap.size ≤ k) w1 w' ∧ k ≤ x_a.length ∧ World.ownsRow w' w0.heap.size 5 1 (.slice a6 (List.replicate x_a.length (0 : UInt8)).length c7) (List.replicate x_a.length (0 : UInt8)).length ((x_a.take k ++ List.replicate (x_a.length - k) (0 : UInt8)).map bV)) (fun e' _ => x_a.length - ((intOf (e' 4))).toNat) ?_ ?_
 ·have hE12 : ((List.replicate x_a.length (0 : UInt8)) : List UInt8) = x_a.take 0 ++ List.replicate (x_a.length - 0) (0 : UInt8) := by first | exact cpB_next (by omega) | simp
  exact ⟨0, U, U, U, U, U, U, U, U, U, U, U, U, U, (congrArg (fun (x4z : Value) => lst [(vs a1 x_a.length c2), U, (vs none 0 0), (vs a6 (List.replicate x_a.length (0 : UInt8)).length c7), x4z, (vs a1 x_a.length c2), (vi (x_a.length : Int)), (vs a6 (List.replicate x_a.length (0 : UInt8)).length c7), U, U, U, U, U, U, U, U, U, U, U, U, U, U]) (congrArg (Value.int .i64) (show (0 : Int) = ((0 : Nat) : Int) by omega))), m10, (Ch.refl (fun k => w0.heap.size ≤ k) w1), (by omega), (by rw [← hE12]; exact o9)⟩
 ·rintro _ w2 ⟨k, u8x, u9x, u10x, u11x, u12x, u13x, u14x, u15x, u16x, u17x, u18x, u19x, u20x, rfl, m13, k14, i15, o16⟩
  refine wc_seq <| sr ?_
  refine mv (vi ((k : Nat) : Int)) wN ?_
  refine mv (vs a1 x_a.length c2) wN ?_
  refine ln wN slTy_22 (r3.from0 m13) ?_
  refine pu (vb (decide (((k : Nat) : Int) < (x_a.length : Int)))) wN ?_
  refine wl_nil <| wq_then ?_
  rcases bf (decide (((k : Nat) : Int) < (x_a.length : Int))) with h17 | h17
  ·have q23 := of_decide_eq_false h17
   refine cf h17 ?_
   refine wc_exit <| wq_then_exit <| wq_then_exit <| wq_blk_exit <| wq_then <| sr ?_
   refine mv (vs a6 (List.replicate x_a.length (0 : UInt8)).length c7) wN ?_
   refine ag (vs a6 (List.replicate x_a.length (0 : UInt8)).length c7) wN ?_
   refine wl_nil <| wq_then <| wc_ret ?_
   refine ret_1 (.inl rfl) (vs a6 (List.replicate x_a.length (0 : UInt8)).length c7) rfl rfl ?_
   refine ⟨m13.keep0, ?_⟩
   have hF24 : cpB x_a = (x_a.take k ++ List.replicate (x_a.length - k) (0 : UInt8)) := by exact cpB_end (by omega)
   rw [hF24]
   have hN25 : (List.replicate x_a.length (0 : UInt8)).length = ((x_a.take k ++ List.replicate (x_a.length - k) (0 : UInt8))).length := by first | (simp only [List.length_append, List.length_take, List.length_replicate, List.length_set, List.length_map]; done) | (simp only [List.length_append, List.length_take, List.length_replicate, List.length_set, List.length_map]; omega)
   rw [hN25] at o16 ⊢
   exact ⟨_, _, rfl, o16, (by rw [← hN25]; rw [List.length_replicate]; first | assumption | omega), ⟨trivial, trivial⟩⟩
  have q18 := of_decide_eq_true h17
  refine ct h17 ?_
  refine wc_skip <| wq_then <| wc_seq <| wc_block <| wc_region ?_
  refine mv (vs a6 (List.replicate x_a.length (0 : UInt8)).length c7) wN ?_
  refine mv (vi ((k : Nat) : Int)) wN ?_
  refine mv (vs a1 x_a.length c2) wN ?_
  refine mv (vi ((k : Nat) : Int)) wN ?_
  refine wl_index wN ((k : Nat) : Int) rfl rfl rfl slTy_22 rfl rfl (r3.from0 m13) (by first | omega | (simp only [List.length_cons, List.length_nil, List.length_replicate, List.length_append, List.length_take, List.length_set, List.length_map]; omega)) (by first | omega | (simp only [List.length_cons, List.length_nil, List.length_replicate, List.length_append, List.length_take, List.length_set, List.length_map]; omega)) ?_
  refine wl_loadE (bV (x_a.getD k 0)) wN rfl rfl rfl rfl isAgg_5 (r3.from0 m13) (bget (by simp) (by first | omega | (simp only [List.length_cons, List.length_nil, List.length_replicate, List.length_append, List.length_take, List.length_set, List.length_map]; omega))) ?_
  refine wl_index wN ((k : Nat) : Int) rfl rfl rfl slTy_22 rfl rfl (Rd.of_own o16) (by first | omega | (simp only [List.length_cons, List.length_nil, List.length_replicate, List.length_append, List.length_take, List.length_set, List.length_map]; omega)) (by first | omega | (simp only [List.length_cons, List.length_nil, List.length_replicate, List.length_append, List.length_take, List.length_set, List.length_map]; omega)) ?_
  refine wl_storeB (x_a.take k ++ List.replicate (x_a.length - k) (0 : UInt8)) (k) ((x_a.getD k 0)) wN rfl rfl rfl (by simp) rfl sizeOf_5 o16 (by first | omega | (simp only [List.length_append, List.length_replicate, List.length_take, List.length_set, List.length_map]; omega)) ?_
  intro w3 k19 o20
  have m21 := m13.ext k19 (fun k hk => Nat.le_trans (Nat.le_refl _) (own_lt o9 k hk).1)
  refine wl_nil <| wq_blk_normal <| wq_then <| wc_region ?_
  refine mv (vi ((k : Nat) : Int)) wN ?_
  refine ar (((k : Nat) : Int) + 1) wN ?_
  refine ag (vi (((k : Nat) : Int) + 1)) wN ?_
  refine wl_nil ?_
  have hE22 : (((x_a.take k ++ List.replicate (x_a.length - k) (0 : UInt8)).set k (x_a.getD k 0)) : List UInt8) = x_a.take (k + 1) ++ List.replicate (x_a.length - (k + 1)) (0 : UInt8) := by first | exact cpB_next (by omega) | simp
  refine wq_loopN (w0 := w2) [(vs a1 x_a.length c2), U, (vs none 0 0), (vs a6 (List.replicate x_a.length (0 : UInt8)).length c7), (vi (((k + 1) : Nat) : Int)), (vs a1 x_a.length c2), (vi (x_a.length : Int)), (vs a6 (List.replicate x_a.length (0 : UInt8)).length c7), (vi ((k : Nat) : Int)), (vs a1 x_a.length c2), (vi (x_a.length : Int)), (vb (decide (((k : Nat) : Int) < (x_a.length : Int)))), (vi ((k : Nat) : Int)), (vi (((k : Nat) : Int) + 1)), (vs a6 (List.replicate x_a.length (0 : UInt8)).length c7), (vi ((k : Nat) : Int)), (vs a1 x_a.length c2), (vi ((k : Nat) : Int)), (ve (vs a1 x_a.length c2) ((((k : Nat) : Int)).toNat * 1)), (v8 ((x_a.getD k 0).toNat : Int)), (ve (vs a6 (List.replicate x_a.length (0 : UInt8)).length c7) ((((k : Nat) : Int)).toNat * 1)), U] rfl ?_ ?_ ?_
  · exact ⟨rfl, rfl, rfl, rfl, (congrArg (Value.int .i64) (show ((((k : Nat) : Int) + 1) : Int) = (((k + 1) : Nat) : Int) by omega)), rfl, rfl, rfl, rfl, rfl, rfl, rfl, rfl, rfl, rfl, rfl, rfl, rfl, rfl, rfl, rfl, rfl, trivial⟩
  · exact ⟨(k + 1), (vi ((k : Nat) : Int)), (vs a1 x_a.length c2), (vi (x_a.length : Int)), (vb (decide (((k : Nat) : Int) < (x_a.length : Int)))), (vi ((k : Nat) : Int)), (vi (((k : Nat) : Int) + 1)), (vs a6 (List.replicate x_a.length (0 : UInt8)).length c7), (vi ((k : Nat) : Int)), (vs a1 x_a.length c2), (vi ((k : Nat) : Int)), (ve (vs a1 x_a.length c2) ((((k : Nat) : Int)).toNat * 1)), (v8 ((x_a.getD k 0).toNat : Int)), (ve (vs a6 (List.replicate x_a.length (0 : UInt8)).length c7) ((((k : Nat) : Int)).toNat * 1)), rfl, m21, (((Ch.refl (fun k => w0.heap.size ≤ k) w1).ext k14 (fun k hk => Nat.le_trans (Nat.le_refl _) hk)).ext k19 (fun k hk => Nat.le_trans (Nat.le_refl _) (own_lt o9 k hk).1)), (by omega), (by rw [← hE22]; exact o20)⟩
  · show x_a.length - ((((k + 1) : Nat) : Int)).toNat < x_a.length - (((k : Nat) : Int)).toNat; omega

abbrev L_26 (x : PAddr)  : List Value := [vi x.Host, vi x.Port]
theorem zero_26 : ∀ w, (zeroValue 26).run Try.prog w = .ok (va [(vi 0), (vi 0)]) w := fun w => by kernel_rfl
theorem isAgg_3 : ∀ w, (isAgg 3).run Try.prog w = .ok false w := fun w => by kernel_rfl
theorem sizeOf_3 : ∀ w, (sizeOf 3).run Try.prog w = .ok 1 w := fun w => by kernel_rfl
theorem isAgg_26 : ∀ w, (isAgg 26).run Try.prog w = .ok true w := fun w => by kernel_rfl
theorem sizeOf_26 : ∀ w, (sizeOf 26).run Try.prog w = .ok 2 w := fun w => by kernel_rfl
def R_48 (w : World) (v : Value) (x : (PAddr)) : Prop := v = .agg #[.int .i64 x.Host, .int .i64 x.Port]
def O_26 (w : World) (lo : Nat) (v : Value) (x : (PAddr)) : Prop := v = .agg #[.int .i64 x.Host, .int .i64 x.Port]
def F_laws_toAddr (x_a : PAddr) : (PAddr) := x_a
theorem C_laws_toAddr (w0 : World) (v_x_a : Value) (x_a : PAddr) (r_x_a : R_48 w0 v_x_a x_a)  : Fn Try.prog 34 #[v_x_a] w0 (fun v w' => Keep w0 w' ∧ O_26 w' w0.heap.size v (F_laws_toAddr x_a)) := by
 obtain rfl := r_x_a
 refine fn_of (n := 11) (l := [(va (L_26 x_a)), U, U, U, U, U, U, U, U, U, U]) Try.func34 rfl rfl (by kernel_rfl) rfl ?_
 refine sr ?_
 refine bx (L_26 x_a) wN ?_
 intro g1 w1 p2 p3 k4 b5
 have m6 := (Ch.base w0).extk k4
 refine al [(vi 0), (vi 0)] wN zero_26 ?_
 intro g7 w2 p8 p9 k10 b11
 have m12 := m6.extk k10
 refine nx ?_
 refine al [(vi 0), (vi 0)] wN zero_26 ?_
 intro g13 w3 p14 p15 k16 b17
 have m18 := m12.extk k16
 refine nx ?_
 refine pu (vp g1 0) wN ?_
 have b19 := ((b5.kp k10).kp k16)
 refine ld (vi x_a.Host) wN isAgg_3 b19 ?_
 refine pu (vp g13 0) wN ?_
 refine st (vi x_a.Host) [(vi x_a.Host)] [(vi x_a.Host), (vi 0)] wN sizeOf_3 b17 ?_
 intro w4 k20 b21 z22
 have m23 := m18.ext k20 (fun k hk => by subst hk; exact Nat.le_trans (Nat.le_trans k4.size k10.size) p14)
 refine nx ?_
 refine pu (vp g1 1) wN ?_
 have b24 := (b19.ch k20 (Nat.ne_of_lt (Nat.lt_of_lt_of_le p3 (Nat.le_trans k10.size p14))))
 refine ld (vi x_a.Port) wN isAgg_3 b24 ?_
 refine pu (vp g13 1) wN ?_
 refine st (vi x_a.Port) [(vi x_a.Port)] (L_26 x_a) wN sizeOf_3 b21 ?_
 intro w5 k25 b26 z27
 have m28 := m23.ext k25 (fun k hk => by subst hk; exact Nat.le_trans (Nat.le_trans k4.size k10.size) p14)
 refine nx ?_
 refine lN (L_26 x_a) wN isAgg_26 sizeOf_26 b26 ?_
 have b29 := (((b11.kp k16).ch k20 (Nat.ne_of_lt (Nat.lt_of_lt_of_le p9 (Nat.le_trans (Nat.le_refl _) p14)))).ch k25 (Nat.ne_of_lt (Nat.lt_of_lt_of_le p9 (Nat.le_trans (Nat.le_refl _) p14))))
 refine st (va (L_26 x_a)) (L_26 x_a) (L_26 x_a) wN sizeOf_26 b29 ?_
 intro w6 k30 b31 z32
 have m33 := m28.ext k30 (fun k hk => by subst hk; exact Nat.le_trans k4.size p8)
 refine wl_nil <| wq_then <| wc_ret ?_
 refine ret_1 (.inl rfl) (va (L_26 x_a)) rfl (rv_c [(vi x_a.Host), (vi x_a.Port)] rfl b31 isAgg_26 sizeOf_26) ?_
 refine ⟨m33.keep0, ?_⟩
 have hF34 : F_laws_toAddr x_a = x_a := by rfl
 rw [hF34]
 exact rfl

theorem zero_87 : ∀ w, (zeroValue 87).run Try.prog w = .ok (va [(vi 0), (vi 0), (vs none 0 0), (vs none 0 0), (vi 0), (vs none 0 0), (vs none 0 0), (vi 0), (vi 0), (vs none 0 0), (vs none 0 0)]) w := fun w => by kernel_rfl
theorem sizeOf_22 : ∀ w, (sizeOf 22).run Try.prog w = .ok 1 w := fun w => by kernel_rfl
theorem isAgg_87 : ∀ w, (isAgg 87).run Try.prog w = .ok true w := fun w => by kernel_rfl
theorem sizeOf_87 : ∀ w, (sizeOf 87).run Try.prog w = .ok 11 w := fun w => by kernel_rfl
def R_103 (w : World) (v : Value) (x : (PFrame)) : Prop := ∃ (a1 : Option Addr) (c1 : Nat) (a2 : Option Addr) (c2 : Nat) (a3 : Option Addr) (c3 : Nat) (a4 : Option Addr) (c4 : Nat) (a5 : Option Addr) (c5 : Nat) (a6 : Option Addr) (c6 : Nat), v = .agg #[.int .i64 x.Kind, .int .i64 x.Id, .slice a1 x.Cn.length c1, .slice a2 x.Sn.length c2, .int .i64 x.Tick, .slice a3 x.Cookie.length c3, .slice a4 x.Proof.length c4, .int .i64 x.Epoch, .int .i64 x.Seq, .slice a5 x.Body.length c5, .slice a6 x.Tag.length c6] ∧ Rd w 1 (.slice a1 x.Cn.length c1) x.Cn.length (x.Cn.map bV) ∧ x.Cn.length ≤ 1073741824 ∧ Rd w 1 (.slice a2 x.Sn.length c2) x.Sn.length (x.Sn.map bV) ∧ x.Sn.length ≤ 1073741824 ∧ Rd w 1 (.slice a3 x.Cookie.length c3) x.Cookie.length (x.Cookie.map bV) ∧ x.Cookie.length ≤ 1073741824 ∧ Rd w 1 (.slice a4 x.Proof.length c4) x.Proof.length (x.Proof.map bV) ∧ x.Proof.length ≤ 1073741824 ∧ Rd w 1 (.slice a5 x.Body.length c5) x.Body.length (x.Body.map bV) ∧ x.Body.length ≤ 1073741824 ∧ Rd w 1 (.slice a6 x.Tag.length c6) x.Tag.length (x.Tag.map bV) ∧ x.Tag.length ≤ 1073741824
def O_87 (w : World) (lo : Nat) (v : Value) (x : (PFrame)) : Prop := ∃ (a1 : Option Addr) (c1 : Nat) (a2 : Option Addr) (c2 : Nat) (a3 : Option Addr) (c3 : Nat) (a4 : Option Addr) (c4 : Nat) (a5 : Option Addr) (c5 : Nat) (a6 : Option Addr) (c6 : Nat), v = .agg #[.int .i64 x.Kind, .int .i64 x.Id, .slice a1 x.Cn.length c1, .slice a2 x.Sn.length c2, .int .i64 x.Tick, .slice a3 x.Cookie.length c3, .slice a4 x.Proof.length c4, .int .i64 x.Epoch, .int .i64 x.Seq, .slice a5 x.Body.length c5, .slice a6 x.Tag.length c6] ∧ w.ownsRow lo 5 1 (.slice a1 x.Cn.length c1) x.Cn.length (x.Cn.map bV) ∧ x.Cn.length ≤ 1073741824 ∧ w.ownsRow lo 5 1 (.slice a2 x.Sn.length c2) x.Sn.length (x.Sn.map bV) ∧ x.Sn.length ≤ 1073741824 ∧ w.ownsRow lo 5 1 (.slice a3 x.Cookie.length c3) x.Cookie.length (x.Cookie.map bV) ∧ x.Cookie.length ≤ 1073741824 ∧ w.ownsRow lo 5 1 (.slice a4 x.Proof.length c4) x.Proof.length (x.Proof.map bV) ∧ x.Proof.length ≤ 1073741824 ∧ w.ownsRow lo 5 1 (.slice a5 x.Body.length c5) x.Body.length (x.Body.map bV) ∧ x.Body.length ≤ 1073741824 ∧ w.ownsRow lo 5 1 (.slice a6 x.Tag.length c6) x.Tag.length (x.Tag.map bV) ∧ x.Tag.length ≤ 1073741824 ∧ Aps [(a1, c1), (a2, c2), (a3, c3), (a4, c4), (a5, c5), (a6, c6)]
theorem mR_22 {w : World} {x : List UInt8} {a1 : Option Addr} {c1 : Nat} (h1 : Rd w 1 (.slice a1 x.length c1) x.length (x.map bV)) (l1 : x.length ≤ 1073741824) : R_22 w (vs a1 x.length c1) x := ⟨_, _, rfl, h1, l1⟩
def F_laws_toFrame (x_a : PFrame) : (PFrame) := { Kind := x_a.Kind, Id := x_a.Id, Cn := (cpB x_a.Cn), Sn := (cpB x_a.Sn), Tick := x_a.Tick, Cookie := (cpB x_a.Cookie), Proof := (cpB x_a.Proof), Epoch := x_a.Epoch, Seq := x_a.Seq, Body := (cpB x_a.Body), Tag := (cpB x_a.Tag) : PFrame }
theorem C_laws_toFrame (w0 : World) (v_x_a : Value) (x_a : PFrame) (r_x_a : R_103 w0 v_x_a x_a)  : Fn Try.prog 133 #[v_x_a] w0 (fun v w' => Keep w0 w' ∧ O_87 w' w0.heap.size v (F_laws_toFrame x_a)) := by
 obtain ⟨a1, c2, a6, c7, a11, c12, a16, c17, a21, c22, a26, c27, rfl, r3, s4, r8, s9, r13, s14, r18, s19, r23, s24, r28, s29⟩ := r_x_a
 refine fn_of (n := 44) (l := [(va (L_87 x_a a1 c2 a6 c7 a11 c12 a16 c17 a21 c22 a26 c27)), U, U, U, U, U, U, U, U, U, U, U, U, U, U, U, U, U, U, U, U, U, U, U, U, U, U, U, U, U, U, U, U, U, U, U, U, U, U, U, U, U, U, U]) Try.func133 rfl rfl (by kernel_rfl) rfl ?_
 refine sr ?_
 refine bx (L_87 x_a a1 c2 a6 c7 a11 c12 a16 c17 a21 c22 a26 c27) wN ?_
 intro g31 w1 p32 p33 k34 b35
 have m36 := (Ch.base w0).extk k34
 refine al [(vi 0), (vi 0), (vs none 0 0), (vs none 0 0), (vi 0), (vs none 0 0), (vs none 0 0), (vi 0), (vi 0), (vs none 0 0), (vs none 0 0)] wN zero_87 ?_
 intro g37 w2 p38 p39 k40 b41
 have m42 := m36.extk k40
 refine nx ?_
 refine al [(vi 0), (vi 0), (vs none 0 0), (vs none 0 0), (vi 0), (vs none 0 0), (vs none 0 0), (vi 0), (vi 0), (vs none 0 0), (vs none 0 0)] wN zero_87 ?_
 intro g43 w3 p44 p45 k46 b47
 have m48 := m42.extk k46
 refine nx ?_
 refine pu (vp g31 0) wN ?_
 have b49 := ((b35.kp k40).kp k46)
 refine ld (vi x_a.Kind) wN isAgg_3 b49 ?_
 refine pu (vp g43 0) wN ?_
 refine st (vi x_a.Kind) [(vi x_a.Kind)] [(vi x_a.Kind), (vi 0), (vs none 0 0), (vs none 0 0), (vi 0), (vs none 0 0), (vs none 0 0), (vi 0), (vi 0), (vs none 0 0), (vs none 0 0)] wN sizeOf_3 b47 ?_
 intro w4 k50 b51 z52
 have m53 := m48.ext k50 (fun k hk => by subst hk; exact Nat.le_trans (Nat.le_trans k34.size k40.size) p44)
 refine nx ?_
 refine pu (vp g31 1) wN ?_
 have b54 := (b49.ch k50 (Nat.ne_of_lt (Nat.lt_of_lt_of_le p33 (Nat.le_trans k40.size p44))))
 refine ld (vi x_a.Id) wN isAgg_3 b54 ?_
 refine pu (vp g43 1) wN ?_
 refine st (vi x_a.Id) [(vi x_a.Id)] [(vi x_a.Kind), (vi x_a.Id), (vs none 0 0), (vs none 0 0), (vi 0), (vs none 0 0), (vs none 0 0), (vi 0), (vi 0), (vs none 0 0), (vs none 0 0)] wN sizeOf_3 b51 ?_
 intro w5 k55 b56 z57
 have m58 := m53.ext k55 (fun k hk => by subst hk; exact Nat.le_trans (Nat.le_trans k34.size k40.size) p44)
 refine nx ?_
 refine pu (vp g31 2) wN ?_
 have b59 := (b54.ch k55 (Nat.ne_of_lt (Nat.lt_of_lt_of_le p33 (Nat.le_trans k40.size p44))))
 refine ld (vs a1 x_a.Cn.length c2) wN isAgg_22 b59 ?_
 refine cl wN (C_laws_toByteS w5 _ x_a.Cn (mR_22 (r3.from0 m58) s4)) ?_
 rintro _ w6 ⟨k60, ⟨a61, c62, rfl, o63, s64, ap66⟩⟩
 have m67 := m58.extk k60
 refine pu (vp g43 2) wN ?_
 have b68 := (b56.kp k60)
 refine st (vs a61 (cpB x_a.Cn).length c62) [(vs a61 (cpB x_a.Cn).length c62)] [(vi x_a.Kind), (vi x_a.Id), (vs a61 (cpB x_a.Cn).length c62), (vs none 0 0), (vi 0), (vs none 0 0), (vs none 0 0), (vi 0), (vi 0), (vs none 0 0), (vs none 0 0)] wN sizeOf_22 b68 ?_
 intro w7 k69 b70 z71
 have m72 := m67.ext k69 (fun k hk => by subst hk; exact Nat.le_trans (Nat.le_trans k34.size k40.size) p44)
 refine nx ?_
 refine pu (vp g31 3) wN ?_
 have b73 := ((b59.kp k60).ch k69 (Nat.ne_of_lt (Nat.lt_of_lt_of_le p33 (Nat.le_trans k40.size p44))))
 refine ld (vs a6 x_a.Sn.length c7) wN isAgg_22 b73 ?_
 refine cl wN (C_laws_toByteS w7 _ x_a.Sn (mR_22 (r8.from0 m72) s9)) ?_
 rintro _ w8 ⟨k74, ⟨a75, c76, rfl, o77, s78, ap80⟩⟩
 have m81 := m72.extk k74
 refine pu (vp g43 3) wN ?_
 have b82 := (b70.kp k74)
 refine st (vs a75 (cpB x_a.Sn).length c76) [(vs a75 (cpB x_a.Sn).length c76)] [(vi x_a.Kind), (vi x_a.Id), (vs a61 (cpB x_a.Cn).length c62), (vs a75 (cpB x_a.Sn).length c76), (vi 0), (vs none 0 0), (vs none 0 0), (vi 0), (vi 0), (vs none 0 0), (vs none 0 0)] wN sizeOf_22 b82 ?_
 intro w9 k83 b84 z85
 have m86 := m81.ext k83 (fun k hk => by subst hk; exact Nat.le_trans (Nat.le_trans k34.size k40.size) p44)
 refine nx ?_
 refine pu (vp g31 4) wN ?_
 have b87 := ((b73.kp k74).ch k83 (Nat.ne_of_lt (Nat.lt_of_lt_of_le p33 (Nat.le_trans k40.size p44))))
 refine ld (vi x_a.Tick) wN isAgg_3 b87 ?_
 refine pu (vp g43 4) wN ?_
 refine st (vi x_a.Tick) [(vi x_a.Tick)] [(vi x_a.Kind), (vi x_a.Id), (vs a61 (cpB x_a.Cn).length c62), (vs a75 (cpB x_a.Sn).length c76), (vi x_a.Tick), (vs none 0 0), (vs none 0 0), (vi 0), (vi 0), (vs none 0 0), (vs none 0 0)] wN sizeOf_3 b84 ?_
 intro w10 k88 b89 z90
 have m91 := m86.ext k88 (fun k hk => by subst hk; exact Nat.le_trans (Nat.le_trans k34.size k40.size) p44)
 refine nx ?_
 refine pu (vp g31 5) wN ?_
 have b92 := (b87.ch k88 (Nat.ne_of_lt (Nat.lt_of_lt_of_le p33 (Nat.le_trans k40.size p44))))
 refine ld (vs a11 x_a.Cookie.length c12) wN isAgg_22 b92 ?_
 refine cl wN (C_laws_toByteS w10 _ x_a.Cookie (mR_22 (r13.from0 m91) s14)) ?_
 rintro _ w11 ⟨k93, ⟨a94, c95, rfl, o96, s97, ap99⟩⟩
 have m100 := m91.extk k93
 refine pu (vp g43 5) wN ?_
 have b101 := (b89.kp k93)
 refine st (vs a94 (cpB x_a.Cookie).length c95) [(vs a94 (cpB x_a.Cookie).length c95)] [(vi x_a.Kind), (vi x_a.Id), (vs a61 (cpB x_a.Cn).length c62), (vs a75 (cpB x_a.Sn).length c76), (vi x_a.Tick), (vs a94 (cpB x_a.Cookie).length c95), (vs none 0 0), (vi 0), (vi 0), (vs none 0 0), (vs none 0 0)] wN sizeOf_22 b101 ?_
 intro w12 k102 b103 z104
 have m105 := m100.ext k102 (fun k hk => by subst hk; exact Nat.le_trans (Nat.le_trans k34.size k40.size) p44)
 refine nx ?_
 refine pu (vp g31 6) wN ?_
 have b106 := ((b92.kp k93).ch k102 (Nat.ne_of_lt (Nat.lt_of_lt_of_le p33 (Nat.le_trans k40.size p44))))
 refine ld (vs a16 x_a.Proof.length c17) wN isAgg_22 b106 ?_
 refine cl wN (C_laws_toByteS w12 _ x_a.Proof (mR_22 (r18.from0 m105) s19)) ?_
 rintro _ w13 ⟨k107, ⟨a108, c109, rfl, o110, s111, ap113⟩⟩
 have m114 := m105.extk k107
 refine pu (vp g43 6) wN ?_
 have b115 := (b103.kp k107)
 refine st (vs a108 (cpB x_a.Proof).length c109) [(vs a108 (cpB x_a.Proof).length c109)] [(vi x_a.Kind), (vi x_a.Id), (vs a61 (cpB x_a.Cn).length c62), (vs a75 (cpB x_a.Sn).length c76), (vi x_a.Tick), (vs a94 (cpB x_a.Cookie).length c95), (vs a108 (cpB x_a.Proof).length c109), (vi 0), (vi 0), (vs none 0 0), (vs none 0 0)] wN sizeOf_22 b115 ?_
 intro w14 k116 b117 z118
 have m119 := m114.ext k116 (fun k hk => by subst hk; exact Nat.le_trans (Nat.le_trans k34.size k40.size) p44)
 refine nx ?_
 refine pu (vp g31 7) wN ?_
 have b120 := ((b106.kp k107).ch k116 (Nat.ne_of_lt (Nat.lt_of_lt_of_le p33 (Nat.le_trans k40.size p44))))
 refine ld (vi x_a.Epoch) wN isAgg_3 b120 ?_
 refine pu (vp g43 7) wN ?_
 refine st (vi x_a.Epoch) [(vi x_a.Epoch)] [(vi x_a.Kind), (vi x_a.Id), (vs a61 (cpB x_a.Cn).length c62), (vs a75 (cpB x_a.Sn).length c76), (vi x_a.Tick), (vs a94 (cpB x_a.Cookie).length c95), (vs a108 (cpB x_a.Proof).length c109), (vi x_a.Epoch), (vi 0), (vs none 0 0), (vs none 0 0)] wN sizeOf_3 b117 ?_
 intro w15 k121 b122 z123
 have m124 := m119.ext k121 (fun k hk => by subst hk; exact Nat.le_trans (Nat.le_trans k34.size k40.size) p44)
 refine nx ?_
 refine pu (vp g31 8) wN ?_
 have b125 := (b120.ch k121 (Nat.ne_of_lt (Nat.lt_of_lt_of_le p33 (Nat.le_trans k40.size p44))))
 refine ld (vi x_a.Seq) wN isAgg_3 b125 ?_
 refine pu (vp g43 8) wN ?_
 refine st (vi x_a.Seq) [(vi x_a.Seq)] [(vi x_a.Kind), (vi x_a.Id), (vs a61 (cpB x_a.Cn).length c62), (vs a75 (cpB x_a.Sn).length c76), (vi x_a.Tick), (vs a94 (cpB x_a.Cookie).length c95), (vs a108 (cpB x_a.Proof).length c109), (vi x_a.Epoch), (vi x_a.Seq), (vs none 0 0), (vs none 0 0)] wN sizeOf_3 b122 ?_
 intro w16 k126 b127 z128
 have m129 := m124.ext k126 (fun k hk => by subst hk; exact Nat.le_trans (Nat.le_trans k34.size k40.size) p44)
 refine nx ?_
 refine pu (vp g31 9) wN ?_
 have b130 := (b125.ch k126 (Nat.ne_of_lt (Nat.lt_of_lt_of_le p33 (Nat.le_trans k40.size p44))))
 refine ld (vs a21 x_a.Body.length c22) wN isAgg_22 b130 ?_
 refine cl wN (C_laws_toByteS w16 _ x_a.Body (mR_22 (r23.from0 m129) s24)) ?_
 rintro _ w17 ⟨k131, ⟨a132, c133, rfl, o134, s135, ap137⟩⟩
 have m138 := m129.extk k131
 refine pu (vp g43 9) wN ?_
 have b139 := (b127.kp k131)
 refine st (vs a132 (cpB x_a.Body).length c133) [(vs a132 (cpB x_a.Body).length c133)] [(vi x_a.Kind), (vi x_a.Id), (vs a61 (cpB x_a.Cn).length c62), (vs a75 (cpB x_a.Sn).length c76), (vi x_a.Tick), (vs a94 (cpB x_a.Cookie).length c95), (vs a108 (cpB x_a.Proof).length c109), (vi x_a.Epoch), (vi x_a.Seq), (vs a132 (cpB x_a.Body).length c133), (vs none 0 0)] wN sizeOf_22 b139 ?_
 intro w18 k140 b141 z142
 have m143 := m138.ext k140 (fun k hk => by subst hk; exact Nat.le_trans (Nat.le_trans k34.size k40.size) p44)
 refine nx ?_
 refine pu (vp g31 10) wN ?_
 have b144 := ((b130.kp k131).ch k140 (Nat.ne_of_lt (Nat.lt_of_lt_of_le p33 (Nat.le_trans k40.size p44))))
 refine ld (vs a26 x_a.Tag.length c27) wN isAgg_22 b144 ?_
 refine cl wN (C_laws_toByteS w18 _ x_a.Tag (mR_22 (r28.from0 m143) s29)) ?_
 rintro _ w19 ⟨k145, ⟨a146, c147, rfl, o148, s149, ap151⟩⟩
 have m152 := m143.extk k145
 refine pu (vp g43 10) wN ?_
 have b153 := (b141.kp k145)
 refine st (vs a146 (cpB x_a.Tag).length c147) [(vs a146 (cpB x_a.Tag).length c147)] [(vi x_a.Kind), (vi x_a.Id), (vs a61 (cpB x_a.Cn).length c62), (vs a75 (cpB x_a.Sn).length c76), (vi x_a.Tick), (vs a94 (cpB x_a.Cookie).length c95), (vs a108 (cpB x_a.Proof).length c109), (vi x_a.Epoch), (vi x_a.Seq), (vs a132 (cpB x_a.Body).length c133), (vs a146 (cpB x_a.Tag).length c147)] wN sizeOf_22 b153 ?_
 intro w20 k154 b155 z156
 have m157 := m152.ext k154 (fun k hk => by subst hk; exact Nat.le_trans (Nat.le_trans k34.size k40.size) p44)
 refine nx ?_
 refine lN [(vi x_a.Kind), (vi x_a.Id), (vs a61 (cpB x_a.Cn).length c62), (vs a75 (cpB x_a.Sn).length c76), (vi x_a.Tick), (vs a94 (cpB x_a.Cookie).length c95), (vs a108 (cpB x_a.Proof).length c109), (vi x_a.Epoch), (vi x_a.Seq), (vs a132 (cpB x_a.Body).length c133), (vs a146 (cpB x_a.Tag).length c147)] wN isAgg_87 sizeOf_87 b155 ?_
 have b158 := ((((((((((((((((((b41.kp k46).ch k50 (Nat.ne_of_lt (Nat.lt_of_lt_of_le p39 (Nat.le_trans (Nat.le_refl _) p44)))).ch k55 (Nat.ne_of_lt (Nat.lt_of_lt_of_le p39 (Nat.le_trans (Nat.le_refl _) p44)))).kp k60).ch k69 (Nat.ne_of_lt (Nat.lt_of_lt_of_le p39 (Nat.le_trans (Nat.le_refl _) p44)))).kp k74).ch k83 (Nat.ne_of_lt (Nat.lt_of_lt_of_le p39 (Nat.le_trans (Nat.le_refl _) p44)))).ch k88 (Nat.ne_of_lt (Nat.lt_of_lt_of_le p39 (Nat.le_trans (Nat.le_refl _) p44)))).kp k93).ch k102 (Nat.ne_of_lt (Nat.lt_of_lt_of_le p39 (Nat.le_trans (Nat.le_refl _) p44)))).kp k107).ch k116 (Nat.ne_of_lt (Nat.lt_of_lt_of_le p39 (Nat.le_trans (Nat.le_refl _) p44)))).ch k121 (Nat.ne_of_lt (Nat.lt_of_lt_of_le p39 (Nat.le_trans (Nat.le_refl _) p44)))).ch k126 (Nat.ne_of_lt (Nat.lt_of_lt_of_le p39 (Nat.le_trans (Nat.le_refl _) p44)))).kp k131).ch k140 (Nat.ne_of_lt (Nat.lt_of_lt_of_le p39 (Nat.le_trans (Nat.le_refl _) p44)))).kp k145).ch k154 (Nat.ne_of_lt (Nat.lt_of_lt_of_le p39 (Nat.le_trans (Nat.le_refl _) p44))))
 refine st (va [(vi x_a.Kind), (vi x_a.Id), (vs a61 (cpB x_a.Cn).length c62), (vs a75 (cpB x_a.Sn).length c76), (vi x_a.Tick), (vs a94 (cpB x_a.Cookie).length c95), (vs a108 (cpB x_a.Proof).length c109), (vi x_a.Epoch), (vi x_a.Seq), (vs a132 (cpB x_a.Body).length c133), (vs a146 (cpB x_a.Tag).length c147)]) [(vi x_a.Kind), (vi x_a.Id), (vs a61 (cpB x_a.Cn).length c62), (vs a75 (cpB x_a.Sn).length c76), (vi x_a.Tick), (vs a94 (cpB x_a.Cookie).length c95), (vs a108 (cpB x_a.Proof).length c109), (vi x_a.Epoch), (vi x_a.Seq), (vs a132 (cpB x_a.Body).length c133), (vs a146 (cpB x_a.Tag).length c147)] [(vi x_a.Kind), (vi x_a.Id), (vs a61 (cpB x_a.Cn).length c62), (vs a75 (cpB x_a.Sn).length c76), (vi x_a.Tick), (vs a94 (cpB x_a.Cookie).length c95), (vs a108 (cpB x_a.Proof).length c109), (vi x_a.Epoch), (vi x_a.Seq), (vs a132 (cpB x_a.Body).length c133), (vs a146 (cpB x_a.Tag).length c147)] wN sizeOf_87 b158 ?_
 intro w21 k159 b160 z161
 have m162 := m157.ext k159 (fun k hk => by subst hk; exact Nat.le_trans k34.size p38)
 refine wl_nil <| wq_then <| wc_ret ?_
 have o163 := (own_ch (own_ch (own_kp (own_ch (own_kp (own_ch (own_ch (own_ch (own_kp (own_ch (own_kp (own_ch (own_ch (own_kp (own_ch o63 k69 (fun g hg hlt hk => by have h1 := (own_lt o63 g hg).1; have h2 := Nat.lt_of_lt_of_le p45 (Nat.le_trans k50.size k55.size); omega)) k74) k83 (fun g hg hlt hk => by have h1 := (own_lt o63 g hg).1; have h2 := Nat.lt_of_lt_of_le p45 (Nat.le_trans k50.size k55.size); omega)) k88 (fun g hg hlt hk => by have h1 := (own_lt o63 g hg).1; have h2 := Nat.lt_of_lt_of_le p45 (Nat.le_trans k50.size k55.size); omega)) k93) k102 (fun g hg hlt hk => by have h1 := (own_lt o63 g hg).1; have h2 := Nat.lt_of_lt_of_le p45 (Nat.le_trans k50.size k55.size); omega)) k107) k116 (fun g hg hlt hk => by have h1 := (own_lt o63 g hg).1; have h2 := Nat.lt_of_lt_of_le p45 (Nat.le_trans k50.size k55.size); omega)) k121 (fun g hg hlt hk => by have h1 := (own_lt o63 g hg).1; have h2 := Nat.lt_of_lt_of_le p45 (Nat.le_trans k50.size k55.size); omega)) k126 (fun g hg hlt hk => by have h1 := (own_lt o63 g hg).1; have h2 := Nat.lt_of_lt_of_le p45 (Nat.le_trans k50.size k55.size); omega)) k131) k140 (fun g hg hlt hk => by have h1 := (own_lt o63 g hg).1; have h2 := Nat.lt_of_lt_of_le p45 (Nat.le_trans k50.size k55.size); omega)) k145) k154 (fun g hg hlt hk => by have h1 := (own_lt o63 g hg).1; have h2 := Nat.lt_of_lt_of_le p45 (Nat.le_trans k50.size k55.size); omega)) k159 (fun g hg hlt hk => by have h1 := (own_lt o63 g hg).1; have h2 := Nat.lt_of_lt_of_le p39 (Nat.le_trans (Nat.le_trans k46.size k50.size) k55.size); omega))
 have o164 := (own_ch (own_ch (own_kp (own_ch (own_kp (own_ch (own_ch (own_ch (own_kp (own_ch (own_kp (own_ch (own_ch o77 k83 (fun g hg hlt hk => by have h1 := (own_lt o77 g hg).1; have h2 := Nat.lt_of_lt_of_le p45 (Nat.le_trans (Nat.le_trans (Nat.le_trans k50.size k55.size) k60.size) k69.size); omega)) k88 (fun g hg hlt hk => by have h1 := (own_lt o77 g hg).1; have h2 := Nat.lt_of_lt_of_le p45 (Nat.le_trans (Nat.le_trans (Nat.le_trans k50.size k55.size) k60.size) k69.size); omega)) k93) k102 (fun g hg hlt hk => by have h1 := (own_lt o77 g hg).1; have h2 := Nat.lt_of_lt_of_le p45 (Nat.le_trans (Nat.le_trans (Nat.le_trans k50.size k55.size) k60.size) k69.size); omega)) k107) k116 (fun g hg hlt hk => by have h1 := (own_lt o77 g hg).1; have h2 := Nat.lt_of_lt_of_le p45 (Nat.le_trans (Nat.le_trans (Nat.le_trans k50.size k55.size) k60.size) k69.size); omega)) k121 (fun g hg hlt hk => by have h1 := (own_lt o77 g hg).1; have h2 := Nat.lt_of_lt_of_le p45 (Nat.le_trans (Nat.le_trans (Nat.le_trans k50.size k55.size) k60.size) k69.size); omega)) k126 (fun g hg hlt hk => by have h1 := (own_lt o77 g hg).1; have h2 := Nat.lt_of_lt_of_le p45 (Nat.le_trans (Nat.le_trans (Nat.le_trans k50.size k55.size) k60.size) k69.size); omega)) k131) k140 (fun g hg hlt hk => by have h1 := (own_lt o77 g hg).1; have h2 := Nat.lt_of_lt_of_le p45 (Nat.le_trans (Nat.le_trans (Nat.le_trans k50.size k55.size) k60.size) k69.size); omega)) k145) k154 (fun g hg hlt hk => by have h1 := (own_lt o77 g hg).1; have h2 := Nat.lt_of_lt_of_le p45 (Nat.le_trans (Nat.le_trans (Nat.le_trans k50.size k55.size) k60.size) k69.size); omega)) k159 (fun g hg hlt hk => by have h1 := (own_lt o77 g hg).1; have h2 := Nat.lt_of_lt_of_le p39 (Nat.le_trans (Nat.le_trans (Nat.le_trans (Nat.le_trans k46.size k50.size) k55.size) k60.size) k69.size); omega))
 have o165 := (own_ch (own_ch (own_kp (own_ch (own_kp (own_ch (own_ch (own_ch (own_kp (own_ch o96 k102 (fun g hg hlt hk => by have h1 := (own_lt o96 g hg).1; have h2 := Nat.lt_of_lt_of_le p45 (Nat.le_trans (Nat.le_trans (Nat.le_trans (Nat.le_trans (Nat.le_trans (Nat.le_trans k50.size k55.size) k60.size) k69.size) k74.size) k83.size) k88.size); omega)) k107) k116 (fun g hg hlt hk => by have h1 := (own_lt o96 g hg).1; have h2 := Nat.lt_of_lt_of_le p45 (Nat.le_trans (Nat.le_trans (Nat.le_trans (Nat.le_trans (Nat.le_trans (Nat.le_trans k50.size k55.size) k60.size) k69.size) k74.size) k83.size) k88.size); omega)) k121 (fun g hg hlt hk => by have h1 := (own_lt o96 g hg).1; have h2 := Nat.lt_of_lt_of_le p45 (Nat.le_trans (Nat.le_trans (Nat.le_trans (Nat.le_trans (Nat.le_trans (Nat.le_trans k50.size k55.size) k60.size) k69.size) k74.size) k83.size) k88.size); omega)) k126 (fun g hg hlt hk => by have h1 := (own_lt o96 g hg).1; have h2 := Nat.lt_of_lt_of_le p45 (Nat.le_trans (Nat.le_trans (Nat.le_trans (Nat.le_trans (Nat.le_trans (Nat.le_trans k50.size k55.size) k60.size) k69.size) k74.size) k83.size) k88.size); omega)) k131) k140 (fun g hg hlt hk => by have h1 := (own_lt o96 g hg).1; have h2 := Nat.lt_of_lt_of_le p45 (Nat.le_trans (Nat.le_trans (Nat.le_trans (Nat.le_trans (Nat.le_trans (Nat.le_trans k50.size k55.size) k60.size) k69.size) k74.size) k83.size) k88.size); omega)) k145) k154 (fun g hg hlt hk => by have h1 := (own_lt o96 g hg).1; have h2 := Nat.lt_of_lt_of_le p45 (Nat.le_trans (Nat.le_trans (Nat.le_trans (Nat.le_trans (Nat.le_trans (Nat.le_trans k50.size k55.size) k60.size) k69.size) k74.size) k83.size) k88.size); omega)) k159 (fun g hg hlt hk => by have h1 := (own_lt o96 g hg).1; have h2 := Nat.lt_of_lt_of_le p39 (Nat.le_trans (Nat.le_trans (Nat.le_trans (Nat.le_trans (Nat.le_trans (Nat.le_trans (Nat.le_trans k46.size k50.size) k55.size) k60.size) k69.size) k74.size) k83.size) k88.size); omega))
 have o166 := (own_ch (own_ch (own_kp (own_ch (own_kp (own_ch (own_ch (own_ch o110 k116 (fun g hg hlt hk => by have h1 := (own_lt o110 g hg).1; have h2 := Nat.lt_of_lt_of_le p45 (Nat.le_trans (Nat.le_trans (Nat.le_trans (Nat.le_trans (Nat.le_trans (Nat.le_trans (Nat.le_trans (Nat.le_trans k50.size k55.size) k60.size) k69.size) k74.size) k83.size) k88.size) k93.size) k102.size); omega)) k121 (fun g hg hlt hk => by have h1 := (own_lt o110 g hg).1; have h2 := Nat.lt_of_lt_of_le p45 (Nat.le_trans (Nat.le_trans (Nat.le_trans (Nat.le_trans (Nat.le_trans (Nat.le_trans (Nat.le_trans (Nat.le_trans k50.size k55.size) k60.size) k69.size) k74.size) k83.size) k88.size) k93.size) k102.size); omega)) k126 (fun g hg hlt hk => by have h1 := (own_lt o110 g hg).1; have h2 := Nat.lt_of_lt_of_le p45 (Nat.le_trans (Nat.le_trans (Nat.le_trans (Nat.le_trans (Nat.le_trans (Nat.le_trans (Nat.le_trans (Nat.le_trans k50.size k55.size) k60.size) k69.size) k74.size) k83.size) k88.size) k93.size) k102.size); omega)) k131) k140 (fun g hg hlt hk => by have h1 := (own_lt o110 g hg).1; have h2 := Nat.lt_of_lt_of_le p45 (Nat.le_trans (Nat.le_trans (Nat.le_trans (Nat.le_trans (Nat.le_trans (Nat.le_trans (Nat.le_trans (Nat.le_trans k50.size k55.size) k60.size) k69.size) k74.size) k83.size) k88.size) k93.size) k102.size); omega)) k145) k154 (fun g hg hlt hk => by have h1 := (own_lt o110 g hg).1; have h2 := Nat.lt_of_lt_of_le p45 (Nat.le_trans (Nat.le_trans (Nat.le_trans (Nat.le_trans (Nat.le_trans (Nat.le_trans (Nat.le_trans (Nat.le_trans k50.size k55.size) k60.size) k69.size) k74.size) k83.size) k88.size) k93.size) k102.size); omega)) k159 (fun g hg hlt hk => by have h1 := (own_lt o110 g hg).1; have h2 := Nat.lt_of_lt_of_le p39 (Nat.le_trans (Nat.le_trans (Nat.le_trans (Nat.le_trans (Nat.le_trans (Nat.le_trans (Nat.le_trans (Nat.le_trans (Nat.le_trans k46.size k50.size) k55.size) k60.size) k69.size) k74.size) k83.size) k88.size) k93.size) k102.size); omega))
 have o167 := (own_ch (own_ch (own_kp (own_ch o134 k140 (fun g hg hlt hk => by have h1 := (own_lt o134 g hg).1; have h2 := Nat.lt_of_lt_of_le p45 (Nat.le_trans (Nat.le_trans (Nat.le_trans (Nat.le_trans (Nat.le_trans (Nat.le_trans (Nat.le_trans (Nat.le_trans (Nat.le_trans (Nat.le_trans (Nat.le_trans (Nat.le_trans k50.size k55.size) k60.size) k69.size) k74.size) k83.size) k88.size) k93.size) k102.size) k107.size) k116.size) k121.size) k126.size); omega)) k145) k154 (fun g hg hlt hk => by have h1 := (own_lt o134 g hg).1; have h2 := Nat.lt_of_lt_of_le p45 (Nat.le_trans (Nat.le_trans (Nat.le_trans (Nat.le_trans (Nat.le_trans (Nat.le_trans (Nat.le_trans (Nat.le_trans (Nat.le_trans (Nat.le_trans (Nat.le_trans (Nat.le_trans k50.size k55.size) k60.size) k69.size) k74.size) k83.size) k88.size) k93.size) k102.size) k107.size) k116.size) k121.size) k126.size); omega)) k159 (fun g hg hlt hk => by have h1 := (own_lt o134 g hg).1; have h2 := Nat.lt_of_lt_of_le p39 (Nat.le_trans (Nat.le_trans (Nat.le_trans (Nat.le_trans (Nat.le_trans (Nat.le_trans (Nat.le_trans (Nat.le_trans (Nat.le_trans (Nat.le_trans (Nat.le_trans (Nat.le_trans (Nat.le_trans k46.size k50.size) k55.size) k60.size) k69.size) k74.size) k83.size) k88.size) k93.size) k102.size) k107.size) k116.size) k121.size) k126.size); omega))
 have o168 := (own_ch (own_ch o148 k154 (fun g hg hlt hk => by have h1 := (own_lt o148 g hg).1; have h2 := Nat.lt_of_lt_of_le p45 (Nat.le_trans (Nat.le_trans (Nat.le_trans (Nat.le_trans (Nat.le_trans (Nat.le_trans (Nat.le_trans (Nat.le_trans (Nat.le_trans (Nat.le_trans (Nat.le_trans (Nat.le_trans (Nat.le_trans (Nat.le_trans k50.size k55.size) k60.size) k69.size) k74.size) k83.size) k88.size) k93.size) k102.size) k107.size) k116.size) k121.size) k126.size) k131.size) k140.size); omega)) k159 (fun g hg hlt hk => by have h1 := (own_lt o148 g hg).1; have h2 := Nat.lt_of_lt_of_le p39 (Nat.le_trans (Nat.le_trans (Nat.le_trans (Nat.le_trans (Nat.le_trans (Nat.le_trans (Nat.le_trans (Nat.le_trans (Nat.le_trans (Nat.le_trans (Nat.le_trans (Nat.le_trans (Nat.le_trans (Nat.le_trans (Nat.le_trans k46.size k50.size) k55.size) k60.size) k69.size) k74.size) k83.size) k88.size) k93.size) k102.size) k107.size) k116.size) k121.size) k126.size) k131.size) k140.size); omega))
 refine ret_1 (.inl rfl) (va [(vi x_a.Kind), (vi x_a.Id), (vs a61 (cpB x_a.Cn).length c62), (vs a75 (cpB x_a.Sn).length c76), (vi x_a.Tick), (vs a94 (cpB x_a.Cookie).length c95), (vs a108 (cpB x_a.Proof).length c109), (vi x_a.Epoch), (vi x_a.Seq), (vs a132 (cpB x_a.Body).length c133), (vs a146 (cpB x_a.Tag).length c147)]) rfl (rv_c [(vi x_a.Kind), (vi x_a.Id), (vs a61 (cpB x_a.Cn).length c62), (vs a75 (cpB x_a.Sn).length c76), (vi x_a.Tick), (vs a94 (cpB x_a.Cookie).length c95), (vs a108 (cpB x_a.Proof).length c109), (vi x_a.Epoch), (vi x_a.Seq), (vs a132 (cpB x_a.Body).length c133), (vs a146 (cpB x_a.Tag).length c147)] rfl b160 isAgg_87 sizeOf_87) ?_
 refine ⟨m162.keep0, ?_⟩
 have hF169 : F_laws_toFrame x_a = { Kind := x_a.Kind, Id := x_a.Id, Cn := (cpB x_a.Cn), Sn := (cpB x_a.Sn), Tick := x_a.Tick, Cookie := (cpB x_a.Cookie), Proof := (cpB x_a.Proof), Epoch := x_a.Epoch, Seq := x_a.Seq, Body := (cpB x_a.Body), Tag := (cpB x_a.Tag) : PFrame } := by rfl
 rw [hF169]
 exact ⟨_, _, _, _, _, _, _, _, _, _, _, _, rfl, (own_lo o163 (Nat.le_trans (Nat.le_trans (Nat.le_trans (Nat.le_trans k34.size k40.size) k46.size) k50.size) k55.size)), s64, (own_lo o164 (Nat.le_trans (Nat.le_trans (Nat.le_trans (Nat.le_trans (Nat.le_trans (Nat.le_trans k34.size k40.size) k46.size) k50.size) k55.size) k60.size) k69.size)), s78, (own_lo o165 (Nat.le_trans (Nat.le_trans (Nat.le_trans (Nat.le_trans (Nat.le_trans (Nat.le_trans (Nat.le_trans (Nat.le_trans (Nat.le_trans k34.size k40.size) k46.size) k50.size) k55.size) k60.size) k69.size) k74.size) k83.size) k88.size)), s97, (own_lo o166 (Nat.le_trans (Nat.le_trans (Nat.le_trans (Nat.le_trans (Nat.le_trans (Nat.le_trans (Nat.le_trans (Nat.le_trans (Nat.le_trans (Nat.le_trans (Nat.le_trans k34.size k40.size) k46.size) k50.size) k55.size) k60.size) k69.size) k74.size) k83.size) k88.size) k93.size) k102.size)), s111, (own_lo o167 (Nat.le_trans (Nat.le_trans (Nat.le_trans (Nat.le_trans (Nat.le_trans (Nat.le_trans (Nat.le_trans (Nat.le_trans (Nat.le_trans (Nat.le_trans (Nat.le_trans (Nat.le_trans (Nat.le_trans (Nat.le_trans (Nat.le_trans k34.size k40.size) k46.size) k50.size) k55.size) k60.size) k69.size) k74.size) k83.size) k88.size) k93.size) k102.size) k107.size) k116.size) k121.size) k126.size)), s135, (own_lo o168 (Nat.le_trans (Nat.le_trans (Nat.le_trans (Nat.le_trans (Nat.le_trans (Nat.le_trans (Nat.le_trans (Nat.le_trans (Nat.le_trans (Nat.le_trans (Nat.le_trans (Nat.le_trans (Nat.le_trans (Nat.le_trans (Nat.le_trans (Nat.le_trans (Nat.le_trans k34.size k40.size) k46.size) k50.size) k55.size) k60.size) k69.size) k74.size) k83.size) k88.size) k93.size) k102.size) k107.size) k116.size) k121.size) k126.size) k131.size) k140.size)), s149, ⟨⟨(Ap.lt o63 o77 k69.size), ⟨(Ap.lt o63 o96 (Nat.le_trans (Nat.le_trans (Nat.le_trans k69.size k74.size) k83.size) k88.size)), ⟨(Ap.lt o63 o110 (Nat.le_trans (Nat.le_trans (Nat.le_trans (Nat.le_trans (Nat.le_trans k69.size k74.size) k83.size) k88.size) k93.size) k102.size)), ⟨(Ap.lt o63 o134 (Nat.le_trans (Nat.le_trans (Nat.le_trans (Nat.le_trans (Nat.le_trans (Nat.le_trans (Nat.le_trans (Nat.le_trans (Nat.le_trans k69.size k74.size) k83.size) k88.size) k93.size) k102.size) k107.size) k116.size) k121.size) k126.size)), ⟨(Ap.lt o63 o148 (Nat.le_trans (Nat.le_trans (Nat.le_trans (Nat.le_trans (Nat.le_trans (Nat.le_trans (Nat.le_trans (Nat.le_trans (Nat.le_trans (Nat.le_trans (Nat.le_trans k69.size k74.size) k83.size) k88.size) k93.size) k102.size) k107.size) k116.size) k121.size) k126.size) k131.size) k140.size)), trivial⟩⟩⟩⟩⟩, ⟨⟨(Ap.lt o77 o96 (Nat.le_trans k83.size k88.size)), ⟨(Ap.lt o77 o110 (Nat.le_trans (Nat.le_trans (Nat.le_trans k83.size k88.size) k93.size) k102.size)), ⟨(Ap.lt o77 o134 (Nat.le_trans (Nat.le_trans (Nat.le_trans (Nat.le_trans (Nat.le_trans (Nat.le_trans (Nat.le_trans k83.size k88.size) k93.size) k102.size) k107.size) k116.size) k121.size) k126.size)), ⟨(Ap.lt o77 o148 (Nat.le_trans (Nat.le_trans (Nat.le_trans (Nat.le_trans (Nat.le_trans (Nat.le_trans (Nat.le_trans (Nat.le_trans (Nat.le_trans k83.size k88.size) k93.size) k102.size) k107.size) k116.size) k121.size) k126.size) k131.size) k140.size)), trivial⟩⟩⟩⟩, ⟨⟨(Ap.lt o96 o110 k102.size), ⟨(Ap.lt o96 o134 (Nat.le_trans (Nat.le_trans (Nat.le_trans (Nat.le_trans k102.size k107.size) k116.size) k121.size) k126.size)), ⟨(Ap.lt o96 o148 (Nat.le_trans (Nat.le_trans (Nat.le_trans (Nat.le_trans (Nat.le_trans (Nat.le_trans k102.size k107.size) k116.size) k121.size) k126.size) k131.size) k140.size)), trivial⟩⟩⟩, ⟨⟨(Ap.lt o110 o134 (Nat.le_trans (Nat.le_trans k116.size k121.size) k126.size)), ⟨(Ap.lt o110 o148 (Nat.le_trans (Nat.le_trans (Nat.le_trans (Nat.le_trans k116.size k121.size) k126.size) k131.size) k140.size)), trivial⟩⟩, ⟨⟨(Ap.lt o134 o148 k140.size), trivial⟩, ⟨trivial, trivial⟩⟩⟩⟩⟩⟩⟩

def R_88 (w : World) (v : Value) (x : (List Int)) : Prop := ∃ (a1 : Option Addr) (c1 : Nat), v = .slice a1 x.length c1 ∧ Rd w 1 (.slice a1 x.length c1) x.length (x.map iV) ∧ x.length ≤ 1073741824
def O_88 (w : World) (lo : Nat) (v : Value) (x : (List Int)) : Prop := ∃ (a1 : Option Addr) (c1 : Nat), v = .slice a1 x.length c1 ∧ w.ownsRow lo 3 1 (.slice a1 x.length c1) x.length (x.map iV) ∧ x.length ≤ 1073741824 ∧ Aps [(a1, c1)]
theorem C_laws_toIntS (w0 : World) (v_x_a : Value) (x_a : List Int) (r_x_a : R_88 w0 v_x_a x_a)  : Fn Try.prog 184 #[v_x_a] w0 (fun v w' => Keep w0 w' ∧ O_88 w' w0.heap.size v (cpI x_a)) := by
 obtain ⟨a1, c2, rfl, r3, s4⟩ := r_x_a
 refine fn_of (n := 22) (l := [(vs a1 x_a.length c2), U, U, U, U, U, U, U, U, U, U, U, U, U, U, U, U, U, U, U, U, U]) Try.func184 rfl rfl (by kernel_rfl) rfl ?_
 refine sr ?_
 refine ag (vs none 0 0) wN ?_
 refine nx ?_
 refine mv (vs a1 x_a.length c2) wN ?_
 refine ln wN slTy_88 r3 ?_
 refine wl_makeI (x_a.length) wN rfl rfl rfl slTy_88 (x_a.length : Int) rfl (by omega) (by (try simp only [List.length_append, List.length_cons, List.length_nil]); omega) (by (try simp only [List.length_append, List.length_cons, List.length_nil]); omega) ?_
 intro a6 c7 w1 k8 o9
 have m10 := (Ch.base w0).extk k8
 refine ag (vs a6 (List.replicate x_a.length (0 : Int)).length c7) wN ?_
 refine wl_nil <| wq_then <| wc_seq <| sr ?_
 refine ag (vi 0) wN ?_
 refine wl_nil <| wq_then <| wc_block ?_
 refine wc_norm [(vs a1 x_a.length c2), U, (vs none 0 0), (vs a6 (List.replicate x_a.length (0 : Int)).length c7), (vi 0), (vs a1 x_a.length c2), (vi (x_a.length : Int)), (vs a6 (List.replicate x_a.length (0 : Int)).length c7), U, U, U, U, U, U, U, U, U, U, U, U, U, U] rfl ⟨rfl, rfl, rfl, rfl, rfl, rfl, rfl, rfl, rfl, rfl, rfl, rfl, rfl, rfl, rfl, rfl, rfl, rfl, rfl, rfl, rfl, rfl, trivial⟩ ?_
 refine wc_loop (fun e' w' => ∃ (k : Nat) (u8x u9x u10x u11x u12x u13x u14x u15x u16x u17x u18x u19x u20x : Value), e' = lst [(vs a1 x_a.length c2), U, (vs none 0 0), (vs a6 (List.replicate x_a.length (0 : Int)).length c7), (vi ((k : Nat) : Int)), (vs a1 x_a.length c2), (vi (x_a.length : Int)), (vs a6 (List.replicate x_a.length (0 : Int)).length c7), u8x, u9x, u10x, u11x, u12x, u13x, u14x, u15x, u16x, u17x, u18x, u19x, u20x, U] ∧ Ch (fun k => w0.heap.size ≤ k) w0 w' ∧ Ch (fun k => w0.heap.size ≤ k) w1 w' ∧ k ≤ x_a.length ∧ World.ownsRow w' w0.heap.size 3 1 (.slice a6 (List.replicate x_a.length (0 : Int)).length c7) (List.replicate x_a.length (0 : Int)).length ((x_a.take k ++ List.replicate (x_a.length - k) (0 : Int)).map iV)) (fun e' _ => x_a.length - ((intOf (e' 4))).toNat) ?_ ?_
 ·have hE12 : ((List.replicate x_a.length (0 : Int)) : List Int) = x_a.take 0 ++ List.replicate (x_a.length - 0) (0 : Int) := by first | exact cpI_next (by omega) | simp
  exact ⟨0, U, U, U, U, U, U, U, U, U, U, U, U, U, (congrArg (fun (x4z : Value) => lst [(vs a1 x_a.length c2), U, (vs none 0 0), (vs a6 (List.replicate x_a.length (0 : Int)).length c7), x4z, (vs a1 x_a.length c2), (vi (x_a.length : Int)), (vs a6 (List.replicate x_a.length (0 : Int)).length c7), U, U, U, U, U, U, U, U, U, U, U, U, U, U]) (congrArg (Value.int .i64) (show (0 : Int) = ((0 : Nat) : Int) by omega))), m10, (Ch.refl (fun k => w0.heap.size ≤ k) w1), (by omega), (by rw [← hE12]; exact o9)⟩
 ·rintro _ w2 ⟨k, u8x, u9x, u10x, u11x, u12x, u13x, u14x, u15x, u16x, u17x, u18x, u19x, u20x, rfl, m13, k14, i15, o16⟩
  refine wc_seq <| sr ?_
  refine mv (vi ((k : Nat) : Int)) wN ?_
  refine mv (vs a1 x_a.length c2) wN ?_
  refine ln wN slTy_88 (r3.from0 m13) ?_
  refine pu (vb (decide (((k : Nat) : Int) < (x_a.length : Int)))) wN ?_
  refine wl_nil <| wq_then ?_
  rcases bf (decide (((k : Nat) : Int) < (x_a.length : Int))) with h17 | h17
  ·have q23 := of_decide_eq_false h17
   refine cf h17 ?_
   refine wc_exit <| wq_then_exit <| wq_then_exit <| wq_blk_exit <| wq_then <| sr ?_
   refine mv (vs a6 (List.replicate x_a.length (0 : Int)).length c7) wN ?_
   refine ag (vs a6 (List.replicate x_a.length (0 : Int)).length c7) wN ?_
   refine wl_nil <| wq_then <| wc_ret ?_
   refine ret_1 (.inl rfl) (vs a6 (List.replicate x_a.length (0 : Int)).length c7) rfl rfl ?_
   refine ⟨m13.keep0, ?_⟩
   have hF24 : cpI x_a = (x_a.take k ++ List.replicate (x_a.length - k) (0 : Int)) := by exact cpI_end (by omega)
   rw [hF24]
   have hN25 : (List.replicate x_a.length (0 : Int)).length = ((x_a.take k ++ List.replicate (x_a.length - k) (0 : Int))).length := by first | (simp only [List.length_append, List.length_take, List.length_replicate, List.length_set, List.length_map]; done) | (simp only [List.length_append, List.length_take, List.length_replicate, List.length_set, List.length_map]; omega)
   rw [hN25] at o16 ⊢
   exact ⟨_, _, rfl, o16, (by rw [← hN25]; rw [List.length_replicate]; first | assumption | omega), ⟨trivial, trivial⟩⟩
  have q18 := of_decide_eq_true h17
  refine ct h17 ?_
  refine wc_skip <| wq_then <| wc_seq <| wc_block <| wc_region ?_
  refine mv (vs a6 (List.replicate x_a.length (0 : Int)).length c7) wN ?_
  refine mv (vi ((k : Nat) : Int)) wN ?_
  refine mv (vs a1 x_a.length c2) wN ?_
  refine mv (vi ((k : Nat) : Int)) wN ?_
  refine wl_index wN ((k : Nat) : Int) rfl rfl rfl slTy_88 rfl rfl (r3.from0 m13) (by first | omega | (simp only [List.length_cons, List.length_nil, List.length_replicate, List.length_append, List.length_take, List.length_set, List.length_map]; omega)) (by first | omega | (simp only [List.length_cons, List.length_nil, List.length_replicate, List.length_append, List.length_take, List.length_set, List.length_map]; omega)) ?_
  refine wl_loadE (iV (x_a.getD k 0)) wN rfl rfl rfl rfl isAgg_3 (r3.from0 m13) (iget (by simp) (by first | omega | (simp only [List.length_cons, List.length_nil, List.length_replicate, List.length_append, List.length_take, List.length_set, List.length_map]; omega))) ?_
  refine wl_index wN ((k : Nat) : Int) rfl rfl rfl slTy_88 rfl rfl (Rd.of_own o16) (by first | omega | (simp only [List.length_cons, List.length_nil, List.length_replicate, List.length_append, List.length_take, List.length_set, List.length_map]; omega)) (by first | omega | (simp only [List.length_cons, List.length_nil, List.length_replicate, List.length_append, List.length_take, List.length_set, List.length_map]; omega)) ?_
  refine wl_storeI (x_a.take k ++ List.replicate (x_a.length - k) (0 : Int)) (k) ((x_a.getD k 0)) wN rfl rfl rfl (by simp) rfl sizeOf_3 o16 (by first | omega | (simp only [List.length_append, List.length_replicate, List.length_take, List.length_set, List.length_map]; omega)) ?_
  intro w3 k19 o20
  have m21 := m13.ext k19 (fun k hk => Nat.le_trans (Nat.le_refl _) (own_lt o9 k hk).1)
  refine wl_nil <| wq_blk_normal <| wq_then <| wc_region ?_
  refine mv (vi ((k : Nat) : Int)) wN ?_
  refine ar (((k : Nat) : Int) + 1) wN ?_
  refine ag (vi (((k : Nat) : Int) + 1)) wN ?_
  refine wl_nil ?_
  have hE22 : (((x_a.take k ++ List.replicate (x_a.length - k) (0 : Int)).set k (x_a.getD k 0)) : List Int) = x_a.take (k + 1) ++ List.replicate (x_a.length - (k + 1)) (0 : Int) := by first | exact cpI_next (by omega) | simp
  refine wq_loopN (w0 := w2) [(vs a1 x_a.length c2), U, (vs none 0 0), (vs a6 (List.replicate x_a.length (0 : Int)).length c7), (vi (((k + 1) : Nat) : Int)), (vs a1 x_a.length c2), (vi (x_a.length : Int)), (vs a6 (List.replicate x_a.length (0 : Int)).length c7), (vi ((k : Nat) : Int)), (vs a1 x_a.length c2), (vi (x_a.length : Int)), (vb (decide (((k : Nat) : Int) < (x_a.length : Int)))), (vi ((k : Nat) : Int)), (vi (((k : Nat) : Int) + 1)), (vs a6 (List.replicate x_a.length (0 : Int)).length c7), (vi ((k : Nat) : Int)), (vs a1 x_a.length c2), (vi ((k : Nat) : Int)), (ve (vs a1 x_a.length c2) ((((k : Nat) : Int)).toNat * 1)), (vi (x_a.getD k 0)), (ve (vs a6 (List.replicate x_a.length (0 : Int)).length c7) ((((k : Nat) : Int)).toNat * 1)), U] rfl ?_ ?_ ?_
  · exact ⟨rfl, rfl, rfl, rfl, (congrArg (Value.int .i64) (show ((((k : Nat) : Int) + 1) : Int) = (((k + 1) : Nat) : Int) by omega)), rfl, rfl, rfl, rfl, rfl, rfl, rfl, rfl, rfl, rfl, rfl, rfl, rfl, rfl, rfl, rfl, rfl, trivial⟩
  · exact ⟨(k + 1), (vi ((k : Nat) : Int)), (vs a1 x_a.length c2), (vi (x_a.length : Int)), (vb (decide (((k : Nat) : Int) < (x_a.length : Int)))), (vi ((k : Nat) : Int)), (vi (((k : Nat) : Int) + 1)), (vs a6 (List.replicate x_a.length (0 : Int)).length c7), (vi ((k : Nat) : Int)), (vs a1 x_a.length c2), (vi ((k : Nat) : Int)), (ve (vs a1 x_a.length c2) ((((k : Nat) : Int)).toNat * 1)), (vi (x_a.getD k 0)), (ve (vs a6 (List.replicate x_a.length (0 : Int)).length c7) ((((k : Nat) : Int)).toNat * 1)), rfl, m21, (((Ch.refl (fun k => w0.heap.size ≤ k) w1).ext k14 (fun k hk => Nat.le_trans (Nat.le_refl _) hk)).ext k19 (fun k hk => Nat.le_trans (Nat.le_refl _) (own_lt o9 k hk).1)), (by omega), (by rw [← hE22]; exact o20)⟩
  · show x_a.length - ((((k + 1) : Nat) : Int)).toNat < x_a.length - (((k : Nat) : Int)).toNat; omega

theorem zero_90 : ∀ w, (zeroValue 90).run Try.prog w = .ok (va [(vi 0), (vs none 0 0)]) w := fun w => by kernel_rfl
theorem sizeOf_88 : ∀ w, (sizeOf 88).run Try.prog w = .ok 1 w := fun w => by kernel_rfl
theorem isAgg_90 : ∀ w, (isAgg 90).run Try.prog w = .ok true w := fun w => by kernel_rfl
theorem sizeOf_90 : ∀ w, (sizeOf 90).run Try.prog w = .ok 2 w := fun w => by kernel_rfl
def R_104 (w : World) (v : Value) (x : (PWin)) : Prop := ∃ (a1 : Option Addr) (c1 : Nat), v = .agg #[.int .i64 x.Top, .slice a1 x.Bits.length c1] ∧ Rd w 1 (.slice a1 x.Bits.length c1) x.Bits.length (x.Bits.map iV) ∧ x.Bits.length ≤ 1073741824
def O_90 (w : World) (lo : Nat) (v : Value) (x : (PWin)) : Prop := ∃ (a1 : Option Addr) (c1 : Nat), v = .agg #[.int .i64 x.Top, .slice a1 x.Bits.length c1] ∧ w.ownsRow lo 3 1 (.slice a1 x.Bits.length c1) x.Bits.length (x.Bits.map iV) ∧ x.Bits.length ≤ 1073741824 ∧ Aps [(a1, c1)]
theorem mR_88 {w : World} {x : List Int} {a1 : Option Addr} {c1 : Nat} (h1 : Rd w 1 (.slice a1 x.length c1) x.length (x.map iV)) (l1 : x.length ≤ 1073741824) : R_88 w (vs a1 x.length c1) x := ⟨_, _, rfl, h1, l1⟩
def F_laws_toWin (x_a : PWin) : (PWin) := { Top := x_a.Top, Bits := (cpI x_a.Bits) : PWin }
theorem C_laws_toWin (w0 : World) (v_x_a : Value) (x_a : PWin) (r_x_a : R_104 w0 v_x_a x_a)  : Fn Try.prog 173 #[v_x_a] w0 (fun v w' => Keep w0 w' ∧ O_90 w' w0.heap.size v (F_laws_toWin x_a)) := by
 obtain ⟨a1, c2, rfl, r3, s4⟩ := r_x_a
 refine fn_of (n := 12) (l := [(va (L_90 x_a a1 c2)), U, U, U, U, U, U, U, U, U, U, U]) Try.func173 rfl rfl (by kernel_rfl) rfl ?_
 refine sr ?_
 refine bx (L_90 x_a a1 c2) wN ?_
 intro g6 w1 p7 p8 k9 b10
 have m11 := (Ch.base w0).extk k9
 refine al [(vi 0), (vs none 0 0)] wN zero_90 ?_
 intro g12 w2 p13 p14 k15 b16
 have m17 := m11.extk k15
 refine nx ?_
 refine al [(vi 0), (vs none 0 0)] wN zero_90 ?_
 intro g18 w3 p19 p20 k21 b22
 have m23 := m17.extk k21
 refine nx ?_
 refine pu (vp g6 0) wN ?_
 have b24 := ((b10.kp k15).kp k21)
 refine ld (vi x_a.Top) wN isAgg_3 b24 ?_
 refine pu (vp g18 0) wN ?_
 refine st (vi x_a.Top) [(vi x_a.Top)] [(vi x_a.Top), (vs none 0 0)] wN sizeOf_3 b22 ?_
 intro w4 k25 b26 z27
 have m28 := m23.ext k25 (fun k hk => by subst hk; exact Nat.le_trans (Nat.le_trans k9.size k15.size) p19)
 refine nx ?_
 refine pu (vp g6 1) wN ?_
 have b29 := (b24.ch k25 (Nat.ne_of_lt (Nat.lt_of_lt_of_le p8 (Nat.le_trans k15.size p19))))
 refine ld (vs a1 x_a.Bits.length c2) wN isAgg_88 b29 ?_
 refine cl wN (C_laws_toIntS w4 _ x_a.Bits (mR_88 (r3.from0 m28) s4)) ?_
 rintro _ w5 ⟨k30, ⟨a31, c32, rfl, o33, s34, ap36⟩⟩
 have m37 := m28.extk k30
 refine pu (vp g18 1) wN ?_
 have b38 := (b26.kp k30)
 refine st (vs a31 (cpI x_a.Bits).length c32) [(vs a31 (cpI x_a.Bits).length c32)] [(vi x_a.Top), (vs a31 (cpI x_a.Bits).length c32)] wN sizeOf_88 b38 ?_
 intro w6 k39 b40 z41
 have m42 := m37.ext k39 (fun k hk => by subst hk; exact Nat.le_trans (Nat.le_trans k9.size k15.size) p19)
 refine nx ?_
 refine lN [(vi x_a.Top), (vs a31 (cpI x_a.Bits).length c32)] wN isAgg_90 sizeOf_90 b40 ?_
 have b43 := ((((b16.kp k21).ch k25 (Nat.ne_of_lt (Nat.lt_of_lt_of_le p14 (Nat.le_trans (Nat.le_refl _) p19)))).kp k30).ch k39 (Nat.ne_of_lt (Nat.lt_of_lt_of_le p14 (Nat.le_trans (Nat.le_refl _) p19))))
 refine st (va [(vi x_a.Top), (vs a31 (cpI x_a.Bits).length c32)]) [(vi x_a.Top), (vs a31 (cpI x_a.Bits).length c32)] [(vi x_a.Top), (vs a31 (cpI x_a.Bits).length c32)] wN sizeOf_90 b43 ?_
 intro w7 k44 b45 z46
 have m47 := m42.ext k44 (fun k hk => by subst hk; exact Nat.le_trans k9.size p13)
 refine wl_nil <| wq_then <| wc_ret ?_
 have o48 := (own_ch (own_ch o33 k39 (fun g hg hlt hk => by have h1 := (own_lt o33 g hg).1; have h2 := Nat.lt_of_lt_of_le p20 k25.size; omega)) k44 (fun g hg hlt hk => by have h1 := (own_lt o33 g hg).1; have h2 := Nat.lt_of_lt_of_le p14 (Nat.le_trans k21.size k25.size); omega))
 refine ret_1 (.inl rfl) (va [(vi x_a.Top), (vs a31 (cpI x_a.Bits).length c32)]) rfl (rv_c [(vi x_a.Top), (vs a31 (cpI x_a.Bits).length c32)] rfl b45 isAgg_90 sizeOf_90) ?_
 refine ⟨m47.keep0, ?_⟩
 have hF49 : F_laws_toWin x_a = { Top := x_a.Top, Bits := (cpI x_a.Bits) : PWin } := by rfl
 rw [hF49]
 exact ⟨_, _, rfl, (own_lo o48 (Nat.le_trans (Nat.le_trans (Nat.le_trans k9.size k15.size) k21.size) k25.size)), s34, ⟨trivial, trivial⟩⟩

theorem zero_92 : ∀ w, (zeroValue 92).run Try.prog w = .ok (va [(vi 0), (vs none 0 0), (vi 0), (vi 0), (vs none 0 0)]) w := fun w => by kernel_rfl
theorem isAgg_92 : ∀ w, (isAgg 92).run Try.prog w = .ok true w := fun w => by kernel_rfl
theorem sizeOf_92 : ∀ w, (sizeOf 92).run Try.prog w = .ok 5 w := fun w => by kernel_rfl
def R_106 (w : World) (v : Value) (x : (PEp)) : Prop := ∃ (a1 : Option Addr) (c1 : Nat) (a2 : Option Addr) (c2 : Nat), v = .agg #[.int .i64 x.N, .slice a1 x.Key.length c1, .int .i64 x.Seq, .int .i64 x.Win.Top, .slice a2 x.Win.Bits.length c2] ∧ Rd w 1 (.slice a1 x.Key.length c1) x.Key.length (x.Key.map bV) ∧ x.Key.length ≤ 1073741824 ∧ Rd w 1 (.slice a2 x.Win.Bits.length c2) x.Win.Bits.length (x.Win.Bits.map iV) ∧ x.Win.Bits.length ≤ 1073741824
def O_92 (w : World) (lo : Nat) (v : Value) (x : (PEp)) : Prop := ∃ (a1 : Option Addr) (c1 : Nat) (a2 : Option Addr) (c2 : Nat), v = .agg #[.int .i64 x.N, .slice a1 x.Key.length c1, .int .i64 x.Seq, .int .i64 x.Win.Top, .slice a2 x.Win.Bits.length c2] ∧ w.ownsRow lo 5 1 (.slice a1 x.Key.length c1) x.Key.length (x.Key.map bV) ∧ x.Key.length ≤ 1073741824 ∧ w.ownsRow lo 3 1 (.slice a2 x.Win.Bits.length c2) x.Win.Bits.length (x.Win.Bits.map iV) ∧ x.Win.Bits.length ≤ 1073741824 ∧ Aps [(a1, c1), (a2, c2)]
theorem mR_104 {w : World} {x : PWin} {a1 : Option Addr} {c1 : Nat} (h1 : Rd w 1 (.slice a1 x.Bits.length c1) x.Bits.length (x.Bits.map iV)) (l1 : x.Bits.length ≤ 1073741824) : R_104 w (va (L_104 x a1 c1)) x := ⟨_, _, rfl, h1, l1⟩
def F_laws_toEp (x_a : PEp) : (PEp) := { N := x_a.N, Key := (cpB x_a.Key), Seq := x_a.Seq, Win := (F_laws_toWin x_a.Win) : PEp }
theorem C_laws_toEp (w0 : World) (v_x_a : Value) (x_a : PEp) (r_x_a : R_106 w0 v_x_a x_a)  : Fn Try.prog 158 #[v_x_a] w0 (fun v w' => Keep w0 w' ∧ O_92 w' w0.heap.size v (F_laws_toEp x_a)) := by
 obtain ⟨a1, c2, a6, c7, rfl, r3, s4, r8, s9⟩ := r_x_a
 refine fn_of (n := 19) (l := [(va (L_92 x_a a1 c2 a6 c7)), U, U, U, U, U, U, U, U, U, U, U, U, U, U, U, U, U, U]) Try.func158 rfl rfl (by kernel_rfl) rfl ?_
 refine sr ?_
 refine bx (L_92 x_a a1 c2 a6 c7) wN ?_
 intro g11 w1 p12 p13 k14 b15
 have m16 := (Ch.base w0).extk k14
 refine al [(vi 0), (vs none 0 0), (vi 0), (vi 0), (vs none 0 0)] wN zero_92 ?_
 intro g17 w2 p18 p19 k20 b21
 have m22 := m16.extk k20
 refine nx ?_
 refine al [(vi 0), (vs none 0 0), (vi 0), (vi 0), (vs none 0 0)] wN zero_92 ?_
 intro g23 w3 p24 p25 k26 b27
 have m28 := m22.extk k26
 refine nx ?_
 refine pu (vp g11 0) wN ?_
 have b29 := ((b15.kp k20).kp k26)
 refine ld (vi x_a.N) wN isAgg_3 b29 ?_
 refine pu (vp g23 0) wN ?_
 refine st (vi x_a.N) [(vi x_a.N)] [(vi x_a.N), (vs none 0 0), (vi 0), (vi 0), (vs none 0 0)] wN sizeOf_3 b27 ?_
 intro w4 k30 b31 z32
 have m33 := m28.ext k30 (fun k hk => by subst hk; exact Nat.le_trans (Nat.le_trans k14.size k20.size) p24)
 refine nx ?_
 refine pu (vp g11 1) wN ?_
 have b34 := (b29.ch k30 (Nat.ne_of_lt (Nat.lt_of_lt_of_le p13 (Nat.le_trans k20.size p24))))
 refine ld (vs a1 x_a.Key.length c2) wN isAgg_22 b34 ?_
 refine cl wN (C_laws_toByteS w4 _ x_a.Key (mR_22 (r3.from0 m33) s4)) ?_
 rintro _ w5 ⟨k35, ⟨a36, c37, rfl, o38, s39, ap41⟩⟩
 have m42 := m33.extk k35
 refine pu (vp g23 1) wN ?_
 have b43 := (b31.kp k35)
 refine st (vs a36 (cpB x_a.Key).length c37) [(vs a36 (cpB x_a.Key).length c37)] [(vi x_a.N), (vs a36 (cpB x_a.Key).length c37), (vi 0), (vi 0), (vs none 0 0)] wN sizeOf_22 b43 ?_
 intro w6 k44 b45 z46
 have m47 := m42.ext k44 (fun k hk => by subst hk; exact Nat.le_trans (Nat.le_trans k14.size k20.size) p24)
 refine nx ?_
 refine pu (vp g11 2) wN ?_
 have b48 := ((b34.kp k35).ch k44 (Nat.ne_of_lt (Nat.lt_of_lt_of_le p13 (Nat.le_trans k20.size p24))))
 refine ld (vi x_a.Seq) wN isAgg_3 b48 ?_
 refine pu (vp g23 2) wN ?_
 refine st (vi x_a.Seq) [(vi x_a.Seq)] [(vi x_a.N), (vs a36 (cpB x_a.Key).length c37), (vi x_a.Seq), (vi 0), (vs none 0 0)] wN sizeOf_3 b45 ?_
 intro w7 k49 b50 z51
 have m52 := m47.ext k49 (fun k hk => by subst hk; exact Nat.le_trans (Nat.le_trans k14.size k20.size) p24)
 refine nx ?_
 refine pu (vp g11 3) wN ?_
 have b53 := (b48.ch k49 (Nat.ne_of_lt (Nat.lt_of_lt_of_le p13 (Nat.le_trans k20.size p24))))
 refine lN (L_90 x_a.Win a6 c7) wN isAgg_104 sizeOf_104 b53 ?_
 refine cl wN (C_laws_toWin w7 _ x_a.Win (mR_104 (r8.from0 m52) s9)) ?_
 rintro _ w8 ⟨k54, ⟨a55, c56, rfl, o57, s58, ap60⟩⟩
 have m61 := m52.extk k54
 refine pu (vp g23 3) wN ?_
 have b62 := (b50.kp k54)
 refine st (va (L_90 (F_laws_toWin x_a.Win) a55 c56)) (L_90 (F_laws_toWin x_a.Win) a55 c56) [(vi x_a.N), (vs a36 (cpB x_a.Key).length c37), (vi x_a.Seq), (vi ((F_laws_toWin x_a.Win).Top)), (vs a55 ((F_laws_toWin x_a.Win).Bits).length c56)] wN sizeOf_90 b62 ?_
 intro w9 k63 b64 z65
 have m66 := m61.ext k63 (fun k hk => by subst hk; exact Nat.le_trans (Nat.le_trans k14.size k20.size) p24)
 refine nx ?_
 refine lN [(vi x_a.N), (vs a36 (cpB x_a.Key).length c37), (vi x_a.Seq), (vi ((F_laws_toWin x_a.Win).Top)), (vs a55 ((F_laws_toWin x_a.Win).Bits).length c56)] wN isAgg_92 sizeOf_92 b64 ?_
 have b67 := (((((((b21.kp k26).ch k30 (Nat.ne_of_lt (Nat.lt_of_lt_of_le p19 (Nat.le_trans (Nat.le_refl _) p24)))).kp k35).ch k44 (Nat.ne_of_lt (Nat.lt_of_lt_of_le p19 (Nat.le_trans (Nat.le_refl _) p24)))).ch k49 (Nat.ne_of_lt (Nat.lt_of_lt_of_le p19 (Nat.le_trans (Nat.le_refl _) p24)))).kp k54).ch k63 (Nat.ne_of_lt (Nat.lt_of_lt_of_le p19 (Nat.le_trans (Nat.le_refl _) p24))))
 refine st (va [(vi x_a.N), (vs a36 (cpB x_a.Key).length c37), (vi x_a.Seq), (vi ((F_laws_toWin x_a.Win).Top)), (vs a55 ((F_laws_toWin x_a.Win).Bits).length c56)]) [(vi x_a.N), (vs a36 (cpB x_a.Key).length c37), (vi x_a.Seq), (vi ((F_laws_toWin x_a.Win).Top)), (vs a55 ((F_laws_toWin x_a.Win).Bits).length c56)] [(vi x_a.N), (vs a36 (cpB x_a.Key).length c37), (vi x_a.Seq), (vi ((F_laws_toWin x_a.Win).Top)), (vs a55 ((F_laws_toWin x_a.Win).Bits).length c56)] wN sizeOf_92 b67 ?_
 intro w10 k68 b69 z70
 have m71 := m66.ext k68 (fun k hk => by subst hk; exact Nat.le_trans k14.size p18)
 refine wl_nil <| wq_then <| wc_ret ?_
 have o72 := (own_ch (own_ch (own_kp (own_ch (own_ch o38 k44 (fun g hg hlt hk => by have h1 := (own_lt o38 g hg).1; have h2 := Nat.lt_of_lt_of_le p25 k30.size; omega)) k49 (fun g hg hlt hk => by have h1 := (own_lt o38 g hg).1; have h2 := Nat.lt_of_lt_of_le p25 k30.size; omega)) k54) k63 (fun g hg hlt hk => by have h1 := (own_lt o38 g hg).1; have h2 := Nat.lt_of_lt_of_le p25 k30.size; omega)) k68 (fun g hg hlt hk => by have h1 := (own_lt o38 g hg).1; have h2 := Nat.lt_of_lt_of_le p19 (Nat.le_trans k26.size k30.size); omega))
 have o73 := (own_ch (own_ch o57 k63 (fun g hg hlt hk => by have h1 := (own_lt o57 g hg).1; have h2 := Nat.lt_of_lt_of_le p25 (Nat.le_trans (Nat.le_trans (Nat.le_trans k30.size k35.size) k44.size) k49.size); omega)) k68 (fun g hg hlt hk => by have h1 := (own_lt o57 g hg).1; have h2 := Nat.lt_of_lt_of_le p19 (Nat.le_trans (Nat.le_trans (Nat.le_trans (Nat.le_trans k26.size k30.size) k35.size) k44.size) k49.size); omega))
 refine ret_1 (.inl rfl) (va [(vi x_a.N), (vs a36 (cpB x_a.Key).length c37), (vi x_a.Seq), (vi ((F_laws_toWin x_a.Win).Top)), (vs a55 ((F_laws_toWin x_a.Win).Bits).length c56)]) rfl (rv_c [(vi x_a.N), (vs a36 (cpB x_a.Key).length c37), (vi x_a.Seq), (vi ((F_laws_toWin x_a.Win).Top)), (vs a55 ((F_laws_toWin x_a.Win).Bits).length c56)] rfl b69 isAgg_92 sizeOf_92) ?_
 refine ⟨m71.keep0, ?_⟩
 have hF74 : F_laws_toEp x_a = { N := x_a.N, Key := (cpB x_a.Key), Seq := x_a.Seq, Win := (F_laws_toWin x_a.Win) : PEp } := by rfl
 rw [hF74]
 exact ⟨_, _, _, _, rfl, (own_lo o72 (Nat.le_trans (Nat.le_trans (Nat.le_trans k14.size k20.size) k26.size) k30.size)), s39, (own_lo o73 (Nat.le_trans (Nat.le_trans (Nat.le_trans (Nat.le_trans (Nat.le_trans (Nat.le_trans k14.size k20.size) k26.size) k30.size) k35.size) k44.size) k49.size)), s58, ⟨⟨(Ap.lt o38 o57 (Nat.le_trans k44.size k49.size)), trivial⟩, ⟨trivial, trivial⟩⟩⟩

theorem zero_94 : ∀ w, (zeroValue 94).run Try.prog w = .ok (va [(vi 0), (vs none 0 0), (vi 0), (vs none 0 0), (vi 0), (vi 0), (vs none 0 0), (vi 0), (vs none 0 0), (vi 0), (vi 0), (vs none 0 0), (vb false), (vi 0), (vs none 0 0)]) w := fun w => by kernel_rfl
theorem isAgg_4 : ∀ w, (isAgg 4).run Try.prog w = .ok false w := fun w => by kernel_rfl
theorem sizeOf_4 : ∀ w, (sizeOf 4).run Try.prog w = .ok 1 w := fun w => by kernel_rfl
theorem isAgg_94 : ∀ w, (isAgg 94).run Try.prog w = .ok true w := fun w => by kernel_rfl
theorem sizeOf_94 : ∀ w, (sizeOf 94).run Try.prog w = .ok 15 w := fun w => by kernel_rfl
def R_108 (w : World) (v : Value) (x : (PChan)) : Prop := ∃ (a1 : Option Addr) (c1 : Nat) (a2 : Option Addr) (c2 : Nat) (a3 : Option Addr) (c3 : Nat) (a4 : Option Addr) (c4 : Nat) (a5 : Option Addr) (c5 : Nat) (a6 : Option Addr) (c6 : Nat), v = .agg #[.int .i64 x.Role, .slice a1 x.Sn.length c1, .int .i64 x.Cur.N, .slice a2 x.Cur.Key.length c2, .int .i64 x.Cur.Seq, .int .i64 x.Cur.Win.Top, .slice a3 x.Cur.Win.Bits.length c3, .int .i64 x.Old.N, .slice a4 x.Old.Key.length c4, .int .i64 x.Old.Seq, .int .i64 x.Old.Win.Top, .slice a5 x.Old.Win.Bits.length c5, .bool x.HasOld, .int .i64 x.Until, .slice a6 x.Next.length c6] ∧ Rd w 1 (.slice a1 x.Sn.length c1) x.Sn.length (x.Sn.map bV) ∧ x.Sn.length ≤ 1073741824 ∧ Rd w 1 (.slice a2 x.Cur.Key.length c2) x.Cur.Key.length (x.Cur.Key.map bV) ∧ x.Cur.Key.length ≤ 1073741824 ∧ Rd w 1 (.slice a3 x.Cur.Win.Bits.length c3) x.Cur.Win.Bits.length (x.Cur.Win.Bits.map iV) ∧ x.Cur.Win.Bits.length ≤ 1073741824 ∧ Rd w 1 (.slice a4 x.Old.Key.length c4) x.Old.Key.length (x.Old.Key.map bV) ∧ x.Old.Key.length ≤ 1073741824 ∧ Rd w 1 (.slice a5 x.Old.Win.Bits.length c5) x.Old.Win.Bits.length (x.Old.Win.Bits.map iV) ∧ x.Old.Win.Bits.length ≤ 1073741824 ∧ Rd w 1 (.slice a6 x.Next.length c6) x.Next.length (x.Next.map bV) ∧ x.Next.length ≤ 1073741824
def O_94 (w : World) (lo : Nat) (v : Value) (x : (PChan)) : Prop := ∃ (a1 : Option Addr) (c1 : Nat) (a2 : Option Addr) (c2 : Nat) (a3 : Option Addr) (c3 : Nat) (a4 : Option Addr) (c4 : Nat) (a5 : Option Addr) (c5 : Nat) (a6 : Option Addr) (c6 : Nat), v = .agg #[.int .i64 x.Role, .slice a1 x.Sn.length c1, .int .i64 x.Cur.N, .slice a2 x.Cur.Key.length c2, .int .i64 x.Cur.Seq, .int .i64 x.Cur.Win.Top, .slice a3 x.Cur.Win.Bits.length c3, .int .i64 x.Old.N, .slice a4 x.Old.Key.length c4, .int .i64 x.Old.Seq, .int .i64 x.Old.Win.Top, .slice a5 x.Old.Win.Bits.length c5, .bool x.HasOld, .int .i64 x.Until, .slice a6 x.Next.length c6] ∧ w.ownsRow lo 5 1 (.slice a1 x.Sn.length c1) x.Sn.length (x.Sn.map bV) ∧ x.Sn.length ≤ 1073741824 ∧ w.ownsRow lo 5 1 (.slice a2 x.Cur.Key.length c2) x.Cur.Key.length (x.Cur.Key.map bV) ∧ x.Cur.Key.length ≤ 1073741824 ∧ w.ownsRow lo 3 1 (.slice a3 x.Cur.Win.Bits.length c3) x.Cur.Win.Bits.length (x.Cur.Win.Bits.map iV) ∧ x.Cur.Win.Bits.length ≤ 1073741824 ∧ w.ownsRow lo 5 1 (.slice a4 x.Old.Key.length c4) x.Old.Key.length (x.Old.Key.map bV) ∧ x.Old.Key.length ≤ 1073741824 ∧ w.ownsRow lo 3 1 (.slice a5 x.Old.Win.Bits.length c5) x.Old.Win.Bits.length (x.Old.Win.Bits.map iV) ∧ x.Old.Win.Bits.length ≤ 1073741824 ∧ w.ownsRow lo 5 1 (.slice a6 x.Next.length c6) x.Next.length (x.Next.map bV) ∧ x.Next.length ≤ 1073741824 ∧ Aps [(a1, c1), (a2, c2), (a3, c3), (a4, c4), (a5, c5), (a6, c6)]
theorem mR_106 {w : World} {x : PEp} {a1 : Option Addr} {c1 : Nat} {a2 : Option Addr} {c2 : Nat} (h1 : Rd w 1 (.slice a1 x.Key.length c1) x.Key.length (x.Key.map bV)) (l1 : x.Key.length ≤ 1073741824) (h2 : Rd w 1 (.slice a2 x.Win.Bits.length c2) x.Win.Bits.length (x.Win.Bits.map iV)) (l2 : x.Win.Bits.length ≤ 1073741824) : R_106 w (va (L_106 x a1 c1 a2 c2)) x := ⟨_, _, _, _, rfl, h1, l1, h2, l2⟩
def F_laws_toChan (x_a : PChan) : (PChan) := { Role := x_a.Role, Sn := (cpB x_a.Sn), Cur := (F_laws_toEp x_a.Cur), Old := (F_laws_toEp x_a.Old), HasOld := x_a.HasOld, Until := x_a.Until, Next := (cpB x_a.Next) : PChan }
theorem C_laws_toChan (w0 : World) (v_x_a : Value) (x_a : PChan) (r_x_a : R_108 w0 v_x_a x_a)  : Fn Try.prog 134 #[v_x_a] w0 (fun v w' => Keep w0 w' ∧ O_94 w' w0.heap.size v (F_laws_toChan x_a)) := by
 obtain ⟨a1, c2, a6, c7, a11, c12, a16, c17, a21, c22, a26, c27, rfl, r3, s4, r8, s9, r13, s14, r18, s19, r23, s24, r28, s29⟩ := r_x_a
 refine fn_of (n := 30) (l := [(va (L_94 x_a a1 c2 a6 c7 a11 c12 a16 c17 a21 c22 a26 c27)), U, U, U, U, U, U, U, U, U, U, U, U, U, U, U, U, U, U, U, U, U, U, U, U, U, U, U, U, U]) Try.func134 rfl rfl (by kernel_rfl) rfl ?_
 refine sr ?_
 refine bx (L_94 x_a a1 c2 a6 c7 a11 c12 a16 c17 a21 c22 a26 c27) wN ?_
 intro g31 w1 p32 p33 k34 b35
 have m36 := (Ch.base w0).extk k34
 refine al [(vi 0), (vs none 0 0), (vi 0), (vs none 0 0), (vi 0), (vi 0), (vs none 0 0), (vi 0), (vs none 0 0), (vi 0), (vi 0), (vs none 0 0), (vb false), (vi 0), (vs none 0 0)] wN zero_94 ?_
 intro g37 w2 p38 p39 k40 b41
 have m42 := m36.extk k40
 refine nx ?_
 refine al [(vi 0), (vs none 0 0), (vi 0), (vs none 0 0), (vi 0), (vi 0), (vs none 0 0), (vi 0), (vs none 0 0), (vi 0), (vi 0), (vs none 0 0), (vb false), (vi 0), (vs none 0 0)] wN zero_94 ?_
 intro g43 w3 p44 p45 k46 b47
 have m48 := m42.extk k46
 refine nx ?_
 refine pu (vp g31 0) wN ?_
 have b49 := ((b35.kp k40).kp k46)
 refine ld (vi x_a.Role) wN isAgg_3 b49 ?_
 refine pu (vp g43 0) wN ?_
 refine st (vi x_a.Role) [(vi x_a.Role)] [(vi x_a.Role), (vs none 0 0), (vi 0), (vs none 0 0), (vi 0), (vi 0), (vs none 0 0), (vi 0), (vs none 0 0), (vi 0), (vi 0), (vs none 0 0), (vb false), (vi 0), (vs none 0 0)] wN sizeOf_3 b47 ?_
 intro w4 k50 b51 z52
 have m53 := m48.ext k50 (fun k hk => by subst hk; exact Nat.le_trans (Nat.le_trans k34.size k40.size) p44)
 refine nx ?_
 refine pu (vp g31 1) wN ?_
 have b54 := (b49.ch k50 (Nat.ne_of_lt (Nat.lt_of_lt_of_le p33 (Nat.le_trans k40.size p44))))
 refine ld (vs a1 x_a.Sn.length c2) wN isAgg_22 b54 ?_
 refine cl wN (C_laws_toByteS w4 _ x_a.Sn (mR_22 (r3.from0 m53) s4)) ?_
 rintro _ w5 ⟨k55, ⟨a56, c57, rfl, o58, s59, ap61⟩⟩
 have m62 := m53.extk k55
 refine pu (vp g43 1) wN ?_
 have b63 := (b51.kp k55)
 refine st (vs a56 (cpB x_a.Sn).length c57) [(vs a56 (cpB x_a.Sn).length c57)] [(vi x_a.Role), (vs a56 (cpB x_a.Sn).length c57), (vi 0), (vs none 0 0), (vi 0), (vi 0), (vs none 0 0), (vi 0), (vs none 0 0), (vi 0), (vi 0), (vs none 0 0), (vb false), (vi 0), (vs none 0 0)] wN sizeOf_22 b63 ?_
 intro w6 k64 b65 z66
 have m67 := m62.ext k64 (fun k hk => by subst hk; exact Nat.le_trans (Nat.le_trans k34.size k40.size) p44)
 refine nx ?_
 refine pu (vp g31 2) wN ?_
 have b68 := ((b54.kp k55).ch k64 (Nat.ne_of_lt (Nat.lt_of_lt_of_le p33 (Nat.le_trans k40.size p44))))
 refine lN (L_92 x_a.Cur a6 c7 a11 c12) wN isAgg_106 sizeOf_106 b68 ?_
 refine cl wN (C_laws_toEp w6 _ x_a.Cur (mR_106 (r8.from0 m67) s9 (r13.from0 m67) s14)) ?_
 rintro _ w7 ⟨k69, ⟨a70, c71, a75, c76, rfl, o72, s73, o77, s78, ap80⟩⟩
 have m81 := m67.extk k69
 refine pu (vp g43 2) wN ?_
 have b82 := (b65.kp k69)
 refine st (va (L_92 (F_laws_toEp x_a.Cur) a70 c71 a75 c76)) (L_92 (F_laws_toEp x_a.Cur) a70 c71 a75 c76) [(vi x_a.Role), (vs a56 (cpB x_a.Sn).length c57), (vi ((F_laws_toEp x_a.Cur).N)), (vs a70 ((F_laws_toEp x_a.Cur).Key).length c71), (vi ((F_laws_toEp x_a.Cur).Seq)), (vi (((F_laws_toEp x_a.Cur).Win).Top)), (vs a75 (((F_laws_toEp x_a.Cur).Win).Bits).length c76), (vi 0), (vs none 0 0), (vi 0), (vi 0), (vs none 0 0), (vb false), (vi 0), (vs none 0 0)] wN sizeOf_92 b82 ?_
 intro w8 k83 b84 z85
 have m86 := m81.ext k83 (fun k hk => by subst hk; exact Nat.le_trans (Nat.le_trans k34.size k40.size) p44)
 refine nx ?_
 refine pu (vp g31 7) wN ?_
 have b87 := ((b68.kp k69).ch k83 (Nat.ne_of_lt (Nat.lt_of_lt_of_le p33 (Nat.le_trans k40.size p44))))
 refine lN (L_92 x_a.Old a16 c17 a21 c22) wN isAgg_106 sizeOf_106 b87 ?_
 refine cl wN (C_laws_toEp w8 _ x_a.Old (mR_106 (r18.from0 m86) s19 (r23.from0 m86) s24)) ?_
 rintro _ w9 ⟨k88, ⟨a89, c90, a94, c95, rfl, o91, s92, o96, s97, ap99⟩⟩
 have m100 := m86.extk k88
 refine pu (vp g43 7) wN ?_
 have b101 := (b84.kp k88)
 refine st (va (L_92 (F_laws_toEp x_a.Old) a89 c90 a94 c95)) (L_92 (F_laws_toEp x_a.Old) a89 c90 a94 c95) [(vi x_a.Role), (vs a56 (cpB x_a.Sn).length c57), (vi ((F_laws_toEp x_a.Cur).N)), (vs a70 ((F_laws_toEp x_a.Cur).Key).length c71), (vi ((F_laws_toEp x_a.Cur).Seq)), (vi (((F_laws_toEp x_a.Cur).Win).Top)), (vs a75 (((F_laws_toEp x_a.Cur).Win).Bits).length c76), (vi ((F_laws_toEp x_a.Old).N)), (vs a89 ((F_laws_toEp x_a.Old).Key).length c90), (vi ((F_laws_toEp x_a.Old).Seq)), (vi (((F_laws_toEp x_a.Old).Win).Top)), (vs a94 (((F_laws_toEp x_a.Old).Win).Bits).length c95), (vb false), (vi 0), (vs none 0 0)] wN sizeOf_92 b101 ?_
 intro w10 k102 b103 z104
 have m105 := m100.ext k102 (fun k hk => by subst hk; exact Nat.le_trans (Nat.le_trans k34.size k40.size) p44)
 refine nx ?_
 refine pu (vp g31 12) wN ?_
 have b106 := ((b87.kp k88).ch k102 (Nat.ne_of_lt (Nat.lt_of_lt_of_le p33 (Nat.le_trans k40.size p44))))
 refine ld (vb x_a.HasOld) wN isAgg_4 b106 ?_
 refine pu (vp g43 12) wN ?_
 refine st (vb x_a.HasOld) [(vb x_a.HasOld)] [(vi x_a.Role), (vs a56 (cpB x_a.Sn).length c57), (vi ((F_laws_toEp x_a.Cur).N)), (vs a70 ((F_laws_toEp x_a.Cur).Key).length c71), (vi ((F_laws_toEp x_a.Cur).Seq)), (vi (((F_laws_toEp x_a.Cur).Win).Top)), (vs a75 (((F_laws_toEp x_a.Cur).Win).Bits).length c76), (vi ((F_laws_toEp x_a.Old).N)), (vs a89 ((F_laws_toEp x_a.Old).Key).length c90), (vi ((F_laws_toEp x_a.Old).Seq)), (vi (((F_laws_toEp x_a.Old).Win).Top)), (vs a94 (((F_laws_toEp x_a.Old).Win).Bits).length c95), (vb x_a.HasOld), (vi 0), (vs none 0 0)] wN sizeOf_4 b103 ?_
 intro w11 k107 b108 z109
 have m110 := m105.ext k107 (fun k hk => by subst hk; exact Nat.le_trans (Nat.le_trans k34.size k40.size) p44)
 refine nx ?_
 refine pu (vp g31 13) wN ?_
 have b111 := (b106.ch k107 (Nat.ne_of_lt (Nat.lt_of_lt_of_le p33 (Nat.le_trans k40.size p44))))
 refine ld (vi x_a.Until) wN isAgg_3 b111 ?_
 refine pu (vp g43 13) wN ?_
 refine st (vi x_a.Until) [(vi x_a.Until)] [(vi x_a.Role), (vs a56 (cpB x_a.Sn).length c57), (vi ((F_laws_toEp x_a.Cur).N)), (vs a70 ((F_laws_toEp x_a.Cur).Key).length c71), (vi ((F_laws_toEp x_a.Cur).Seq)), (vi (((F_laws_toEp x_a.Cur).Win).Top)), (vs a75 (((F_laws_toEp x_a.Cur).Win).Bits).length c76), (vi ((F_laws_toEp x_a.Old).N)), (vs a89 ((F_laws_toEp x_a.Old).Key).length c90), (vi ((F_laws_toEp x_a.Old).Seq)), (vi (((F_laws_toEp x_a.Old).Win).Top)), (vs a94 (((F_laws_toEp x_a.Old).Win).Bits).length c95), (vb x_a.HasOld), (vi x_a.Until), (vs none 0 0)] wN sizeOf_3 b108 ?_
 intro w12 k112 b113 z114
 have m115 := m110.ext k112 (fun k hk => by subst hk; exact Nat.le_trans (Nat.le_trans k34.size k40.size) p44)
 refine nx ?_
 refine pu (vp g31 14) wN ?_
 have b116 := (b111.ch k112 (Nat.ne_of_lt (Nat.lt_of_lt_of_le p33 (Nat.le_trans k40.size p44))))
 refine ld (vs a26 x_a.Next.length c27) wN isAgg_22 b116 ?_
 refine cl wN (C_laws_toByteS w12 _ x_a.Next (mR_22 (r28.from0 m115) s29)) ?_
 rintro _ w13 ⟨k117, ⟨a118, c119, rfl, o120, s121, ap123⟩⟩
 have m124 := m115.extk k117
 refine pu (vp g43 14) wN ?_
 have b125 := (b113.kp k117)
 refine st (vs a118 (cpB x_a.Next).length c119) [(vs a118 (cpB x_a.Next).length c119)] [(vi x_a.Role), (vs a56 (cpB x_a.Sn).length c57), (vi ((F_laws_toEp x_a.Cur).N)), (vs a70 ((F_laws_toEp x_a.Cur).Key).length c71), (vi ((F_laws_toEp x_a.Cur).Seq)), (vi (((F_laws_toEp x_a.Cur).Win).Top)), (vs a75 (((F_laws_toEp x_a.Cur).Win).Bits).length c76), (vi ((F_laws_toEp x_a.Old).N)), (vs a89 ((F_laws_toEp x_a.Old).Key).length c90), (vi ((F_laws_toEp x_a.Old).Seq)), (vi (((F_laws_toEp x_a.Old).Win).Top)), (vs a94 (((F_laws_toEp x_a.Old).Win).Bits).length c95), (vb x_a.HasOld), (vi x_a.Until), (vs a118 (cpB x_a.Next).length c119)] wN sizeOf_22 b125 ?_
 intro w14 k126 b127 z128
 have m129 := m124.ext k126 (fun k hk => by subst hk; exact Nat.le_trans (Nat.le_trans k34.size k40.size) p44)
 refine nx ?_
 refine lN [(vi x_a.Role), (vs a56 (cpB x_a.Sn).length c57), (vi ((F_laws_toEp x_a.Cur).N)), (vs a70 ((F_laws_toEp x_a.Cur).Key).length c71), (vi ((F_laws_toEp x_a.Cur).Seq)), (vi (((F_laws_toEp x_a.Cur).Win).Top)), (vs a75 (((F_laws_toEp x_a.Cur).Win).Bits).length c76), (vi ((F_laws_toEp x_a.Old).N)), (vs a89 ((F_laws_toEp x_a.Old).Key).length c90), (vi ((F_laws_toEp x_a.Old).Seq)), (vi (((F_laws_toEp x_a.Old).Win).Top)), (vs a94 (((F_laws_toEp x_a.Old).Win).Bits).length c95), (vb x_a.HasOld), (vi x_a.Until), (vs a118 (cpB x_a.Next).length c119)] wN isAgg_94 sizeOf_94 b127 ?_
 have b130 := ((((((((((((b41.kp k46).ch k50 (Nat.ne_of_lt (Nat.lt_of_lt_of_le p39 (Nat.le_trans (Nat.le_refl _) p44)))).kp k55).ch k64 (Nat.ne_of_lt (Nat.lt_of_lt_of_le p39 (Nat.le_trans (Nat.le_refl _) p44)))).kp k69).ch k83 (Nat.ne_of_lt (Nat.lt_of_lt_of_le p39 (Nat.le_trans (Nat.le_refl _) p44)))).kp k88).ch k102 (Nat.ne_of_lt (Nat.lt_of_lt_of_le p39 (Nat.le_trans (Nat.le_refl _) p44)))).ch k107 (Nat.ne_of_lt (Nat.lt_of_lt_of_le p39 (Nat.le_trans (Nat.le_refl _) p44)))).ch k112 (Nat.ne_of_lt (Nat.lt_of_lt_of_le p39 (Nat.le_trans (Nat.le_refl _) p44)))).kp k117).ch k126 (Nat.ne_of_lt (Nat.lt_of_lt_of_le p39 (Nat.le_trans (Nat.le_refl _) p44))))
 refine st (va [(vi x_a.Role), (vs a56 (cpB x_a.Sn).length c57), (vi ((F_laws_toEp x_a.Cur).N)), (vs a70 ((F_laws_toEp x_a.Cur).Key).length c71), (vi ((F_laws_toEp x_a.Cur).Seq)), (vi (((F_laws_toEp x_a.Cur).Win).Top)), (vs a75 (((F_laws_toEp x_a.Cur).Win).Bits).length c76), (vi ((F_laws_toEp x_a.Old).N)), (vs a89 ((F_laws_toEp x_a.Old).Key).length c90), (vi ((F_laws_toEp x_a.Old).Seq)), (vi (((F_laws_toEp x_a.Old).Win).Top)), (vs a94 (((F_laws_toEp x_a.Old).Win).Bits).length c95), (vb x_a.HasOld), (vi x_a.Until), (vs a118 (cpB x_a.Next).length c119)]) [(vi x_a.Role), (vs a56 (cpB x_a.Sn).length c57), (vi ((F_laws_toEp x_a.Cur).N)), (vs a70 ((F_laws_toEp x_a.Cur).Key).length c71), (vi ((F_laws_toEp x_a.Cur).Seq)), (vi (((F_laws_toEp x_a.Cur).Win).Top)), (vs a75 (((F_laws_toEp x_a.Cur).Win).Bits).length c76), (vi ((F_laws_toEp x_a.Old).N)), (vs a89 ((F_laws_toEp x_a.Old).Key).length c90), (vi ((F_laws_toEp x_a.Old).Seq)), (vi (((F_laws_toEp x_a.Old).Win).Top)), (vs a94 (((F_laws_toEp x_a.Old).Win).Bits).length c95), (vb x_a.HasOld), (vi x_a.Until), (vs a118 (cpB x_a.Next).length c119)] [(vi x_a.Role), (vs a56 (cpB x_a.Sn).length c57), (vi ((F_laws_toEp x_a.Cur).N)), (vs a70 ((F_laws_toEp x_a.Cur).Key).length c71), (vi ((F_laws_toEp x_a.Cur).Seq)), (vi (((F_laws_toEp x_a.Cur).Win).Top)), (vs a75 (((F_laws_toEp x_a.Cur).Win).Bits).length c76), (vi ((F_laws_toEp x_a.Old).N)), (vs a89 ((F_laws_toEp x_a.Old).Key).length c90), (vi ((F_laws_toEp x_a.Old).Seq)), (vi (((F_laws_toEp x_a.Old).Win).Top)), (vs a94 (((F_laws_toEp x_a.Old).Win).Bits).length c95), (vb x_a.HasOld), (vi x_a.Until), (vs a118 (cpB x_a.Next).length c119)] wN sizeOf_94 b130 ?_
 intro w15 k131 b132 z133
 have m134 := m129.ext k131 (fun k hk => by subst hk; exact Nat.le_trans k34.size p38)
 refine wl_nil <| wq_then <| wc_ret ?_
 have o135 := (own_ch (own_ch (own_kp (own_ch (own_ch (own_ch (own_kp (own_ch (own_kp (own_ch o58 k64 (fun g hg hlt hk => by have h1 := (own_lt o58 g hg).1; have h2 := Nat.lt_of_lt_of_le p45 k50.size; omega)) k69) k83 (fun g hg hlt hk => by have h1 := (own_lt o58 g hg).1; have h2 := Nat.lt_of_lt_of_le p45 k50.size; omega)) k88) k102 (fun g hg hlt hk => by have h1 := (own_lt o58 g hg).1; have h2 := Nat.lt_of_lt_of_le p45 k50.size; omega)) k107 (fun g hg hlt hk => by have h1 := (own_lt o58 g hg).1; have h2 := Nat.lt_of_lt_of_le p45 k50.size; omega)) k112 (fun g hg hlt hk => by have h1 := (own_lt o58 g hg).1; have h2 := Nat.lt_of_lt_of_le p45 k50.size; omega)) k117) k126 (fun g hg hlt hk => by have h1 := (own_lt o58 g hg).1; have h2 := Nat.lt_of_lt_of_le p45 k50.size; omega)) k131 (fun g hg hlt hk => by have h1 := (own_lt o58 g hg).1; have h2 := Nat.lt_of_lt_of_le p39 (Nat.le_trans k46.size k50.size); omega))
 have o136 := (own_ch (own_ch (own_kp (own_ch (own_ch (own_ch (own_kp (own_ch o72 k83 (fun g hg hlt hk => by have h1 := (own_lt o72 g hg).1; have h2 := Nat.lt_of_lt_of_le p45 (Nat.le_trans (Nat.le_trans k50.size k55.size) k64.size); omega)) k88) k102 (fun g hg hlt hk => by have h1 := (own_lt o72 g hg).1; have h2 := Nat.lt_of_lt_of_le p45 (Nat.le_trans (Nat.le_trans k50.size k55.size) k64.size); omega)) k107 (fun g hg hlt hk => by have h1 := (own_lt o72 g hg).1; have h2 := Nat.lt_of_lt_of_le p45 (Nat.le_trans (Nat.le_trans k50.size k55.size) k64.size); omega)) k112 (fun g hg hlt hk => by have h1 := (own_lt o72 g hg).1; have h2 := Nat.lt_of_lt_of_le p45 (Nat.le_trans (Nat.le_trans k50.size k55.size) k64.size); omega)) k117) k126 (fun g hg hlt hk => by have h1 := (own_lt o72 g hg).1; have h2 := Nat.lt_of_lt_of_le p45 (Nat.le_trans (Nat.le_trans k50.size k55.size) k64.size); omega)) k131 (fun g hg hlt hk => by have h1 := (own_lt o72 g hg).1; have h2 := Nat.lt_of_lt_of_le p39 (Nat.le_trans (Nat.le_trans (Nat.le_trans k46.size k50.size) k55.size) k64.size); omega))
 have o137 := (own_ch (own_ch (own_kp (own_ch (own_ch (own_ch (own_kp (own_ch o77 k83 (fun g hg hlt hk => by have h1 := (own_lt o77 g hg).1; have h2 := Nat.lt_of_lt_of_le p45 (Nat.le_trans (Nat.le_trans k50.size k55.size) k64.size); omega)) k88) k102 (fun g hg hlt hk => by have h1 := (own_lt o77 g hg).1; have h2 := Nat.lt_of_lt_of_le p45 (Nat.le_trans (Nat.le_trans k50.size k55.size) k64.size); omega)) k107 (fun g hg hlt hk => by have h1 := (own_lt o77 g hg).1; have h2 := Nat.lt_of_lt_of_le p45 (Nat.le_trans (Nat.le_trans k50.size k55.size) k64.size); omega)) k112 (fun g hg hlt hk => by have h1 := (own_lt o77 g hg).1; have h2 := Nat.lt_of_lt_of_le p45 (Nat.le_trans (Nat.le_trans k50.size k55.size) k64.size); omega)) k117) k126 (fun g hg hlt hk => by have h1 := (own_lt o77 g hg).1; have h2 := Nat.lt_of_lt_of_le p45 (Nat.le_trans (Nat.le_trans k50.size k55.size) k64.size); omega)) k131 (fun g hg hlt hk => by have h1 := (own_lt o77 g hg).1; have h2 := Nat.lt_of_lt_of_le p39 (Nat.le_trans (Nat.le_trans (Nat.le_trans k46.size k50.size) k55.size) k64.size); omega))
 have o138 := (own_ch (own_ch (own_kp (own_ch (own_ch (own_ch o91 k102 (fun g hg hlt hk => by have h1 := (own_lt o91 g hg).1; have h2 := Nat.lt_of_lt_of_le p45 (Nat.le_trans (Nat.le_trans (Nat.le_trans (Nat.le_trans k50.size k55.size) k64.size) k69.size) k83.size); omega)) k107 (fun g hg hlt hk => by have h1 := (own_lt o91 g hg).1; have h2 := Nat.lt_of_lt_of_le p45 (Nat.le_trans (Nat.le_trans (Nat.le_trans (Nat.le_trans k50.size k55.size) k64.size) k69.size) k83.size); omega)) k112 (fun g hg hlt hk => by have h1 := (own_lt o91 g hg).1; have h2 := Nat.lt_of_lt_of_le p45 (Nat.le_trans (Nat.le_trans (Nat.le_trans (Nat.le_trans k50.size k55.size) k64.size) k69.size) k83.size); omega)) k117) k126 (fun g hg hlt hk => by have h1 := (own_lt o91 g hg).1; have h2 := Nat.lt_of_lt_of_le p45 (Nat.le_trans (Nat.le_trans (Nat.le_trans (Nat.le_trans k50.size k55.size) k64.size) k69.size) k83.size); omega)) k131 (fun g hg hlt hk => by have h1 := (own_lt o91 g hg).1; have h2 := Nat.lt_of_lt_of_le p39 (Nat.le_trans (Nat.le_trans (Nat.le_trans (Nat.le_trans (Nat.le_trans k46.size k50.size) k55.size) k64.size) k69.size) k83.size); omega))
 have o139 := (own_ch (own_ch (own_kp (own_ch (own_ch (own_ch o96 k102 (fun g hg hlt hk => by have h1 := (own_lt o96 g hg).1; have h2 := Nat.lt_of_lt_of_le p45 (Nat.le_trans (Nat.le_trans (Nat.le_trans (Nat.le_trans k50.size k55.size) k64.size) k69.size) k83.size); omega)) k107 (fun g hg hlt hk => by have h1 := (own_lt o96 g hg).1; have h2 := Nat.lt_of_lt_of_le p45 (Nat.le_trans (Nat.le_trans (Nat.le_trans (Nat.le_trans k50.size k55.size) k64.size) k69.size) k83.size); omega)) k112 (fun g hg hlt hk => by have h1 := (own_lt o96 g hg).1; have h2 := Nat.lt_of_lt_of_le p45 (Nat.le_trans (Nat.le_trans (Nat.le_trans (Nat.le_trans k50.size k55.size) k64.size) k69.size) k83.size); omega)) k117) k126 (fun g hg hlt hk => by have h1 := (own_lt o96 g hg).1; have h2 := Nat.lt_of_lt_of_le p45 (Nat.le_trans (Nat.le_trans (Nat.le_trans (Nat.le_trans k50.size k55.size) k64.size) k69.size) k83.size); omega)) k131 (fun g hg hlt hk => by have h1 := (own_lt o96 g hg).1; have h2 := Nat.lt_of_lt_of_le p39 (Nat.le_trans (Nat.le_trans (Nat.le_trans (Nat.le_trans (Nat.le_trans k46.size k50.size) k55.size) k64.size) k69.size) k83.size); omega))
 have o140 := (own_ch (own_ch o120 k126 (fun g hg hlt hk => by have h1 := (own_lt o120 g hg).1; have h2 := Nat.lt_of_lt_of_le p45 (Nat.le_trans (Nat.le_trans (Nat.le_trans (Nat.le_trans (Nat.le_trans (Nat.le_trans (Nat.le_trans (Nat.le_trans k50.size k55.size) k64.size) k69.size) k83.size) k88.size) k102.size) k107.size) k112.size); omega)) k131 (fun g hg hlt hk => by have h1 := (own_lt o120 g hg).1; have h2 := Nat.lt_of_lt_of_le p39 (Nat.le_trans (Nat.le_trans (Nat.le_trans (Nat.le_trans (Nat.le_trans (Nat.le_trans (Nat.le_trans (Nat.le_trans (Nat.le_trans k46.size k50.size) k55.size) k64.size) k69.size) k83.size) k88.size) k102.size) k107.size) k112.size); omega))
 refine ret_1 (.inl rfl) (va [(vi x_a.Role), (vs a56 (cpB x_a.Sn).length c57), (vi ((F_laws_toEp x_a.Cur).N)), (vs a70 ((F_laws_toEp x_a.Cur).Key).length c71), (vi ((F_laws_toEp x_a.Cur).Seq)), (vi (((F_laws_toEp x_a.Cur).Win).Top)), (vs a75 (((F_laws_toEp x_a.Cur).Win).Bits).length c76), (vi ((F_laws_toEp x_a.Old).N)), (vs a89 ((F_laws_toEp x_a.Old).Key).length c90), (vi ((F_laws_toEp x_a.Old).Seq)), (vi (((F_laws_toEp x_a.Old).Win).Top)), (vs a94 (((F_laws_toEp x_a.Old).Win).Bits).length c95), (vb x_a.HasOld), (vi x_a.Until), (vs a118 (cpB x_a.Next).length c119)]) rfl (rv_c [(vi x_a.Role), (vs a56 (cpB x_a.Sn).length c57), (vi ((F_laws_toEp x_a.Cur).N)), (vs a70 ((F_laws_toEp x_a.Cur).Key).length c71), (vi ((F_laws_toEp x_a.Cur).Seq)), (vi (((F_laws_toEp x_a.Cur).Win).Top)), (vs a75 (((F_laws_toEp x_a.Cur).Win).Bits).length c76), (vi ((F_laws_toEp x_a.Old).N)), (vs a89 ((F_laws_toEp x_a.Old).Key).length c90), (vi ((F_laws_toEp x_a.Old).Seq)), (vi (((F_laws_toEp x_a.Old).Win).Top)), (vs a94 (((F_laws_toEp x_a.Old).Win).Bits).length c95), (vb x_a.HasOld), (vi x_a.Until), (vs a118 (cpB x_a.Next).length c119)] rfl b132 isAgg_94 sizeOf_94) ?_
 refine ⟨m134.keep0, ?_⟩
 have hF141 : F_laws_toChan x_a = { Role := x_a.Role, Sn := (cpB x_a.Sn), Cur := (F_laws_toEp x_a.Cur), Old := (F_laws_toEp x_a.Old), HasOld := x_a.HasOld, Until := x_a.Until, Next := (cpB x_a.Next) : PChan } := by rfl
 rw [hF141]
 exact ⟨_, _, _, _, _, _, _, _, _, _, _, _, rfl, (own_lo o135 (Nat.le_trans (Nat.le_trans (Nat.le_trans k34.size k40.size) k46.size) k50.size)), s59, (own_lo o136 (Nat.le_trans (Nat.le_trans (Nat.le_trans (Nat.le_trans (Nat.le_trans k34.size k40.size) k46.size) k50.size) k55.size) k64.size)), s73, (own_lo o137 (Nat.le_trans (Nat.le_trans (Nat.le_trans (Nat.le_trans (Nat.le_trans k34.size k40.size) k46.size) k50.size) k55.size) k64.size)), s78, (own_lo o138 (Nat.le_trans (Nat.le_trans (Nat.le_trans (Nat.le_trans (Nat.le_trans (Nat.le_trans (Nat.le_trans k34.size k40.size) k46.size) k50.size) k55.size) k64.size) k69.size) k83.size)), s92, (own_lo o139 (Nat.le_trans (Nat.le_trans (Nat.le_trans (Nat.le_trans (Nat.le_trans (Nat.le_trans (Nat.le_trans k34.size k40.size) k46.size) k50.size) k55.size) k64.size) k69.size) k83.size)), s97, (own_lo o140 (Nat.le_trans (Nat.le_trans (Nat.le_trans (Nat.le_trans (Nat.le_trans (Nat.le_trans (Nat.le_trans (Nat.le_trans (Nat.le_trans (Nat.le_trans (Nat.le_trans k34.size k40.size) k46.size) k50.size) k55.size) k64.size) k69.size) k83.size) k88.size) k102.size) k107.size) k112.size)), s121, ⟨⟨(Ap.lt o58 o72 k64.size), ⟨(Ap.lt o58 o77 k64.size), ⟨(Ap.lt o58 o91 (Nat.le_trans (Nat.le_trans k64.size k69.size) k83.size)), ⟨(Ap.lt o58 o96 (Nat.le_trans (Nat.le_trans k64.size k69.size) k83.size)), ⟨(Ap.lt o58 o120 (Nat.le_trans (Nat.le_trans (Nat.le_trans (Nat.le_trans (Nat.le_trans (Nat.le_trans k64.size k69.size) k83.size) k88.size) k102.size) k107.size) k112.size)), trivial⟩⟩⟩⟩⟩, ⟨⟨(ap80.1.1), ⟨(Ap.lt o72 o91 k83.size), ⟨(Ap.lt o72 o96 k83.size), ⟨(Ap.lt o72 o120 (Nat.le_trans (Nat.le_trans (Nat.le_trans (Nat.le_trans k83.size k88.size) k102.size) k107.size) k112.size)), trivial⟩⟩⟩⟩, ⟨⟨(Ap.lt o77 o91 k83.size), ⟨(Ap.lt o77 o96 k83.size), ⟨(Ap.lt o77 o120 (Nat.le_trans (Nat.le_trans (Nat.le_trans (Nat.le_trans k83.size k88.size) k102.size) k107.size) k112.size)), trivial⟩⟩⟩, ⟨⟨(ap99.1.1), ⟨(Ap.lt o91 o120 (Nat.le_trans (Nat.le_trans k102.size k107.size) k112.size)), trivial⟩⟩, ⟨⟨(Ap.lt o96 o120 (Nat.le_trans (Nat.le_trans k102.size k107.size) k112.size)), trivial⟩, ⟨trivial, trivial⟩⟩⟩⟩⟩⟩⟩

abbrev L_96 (x : PTimer)  : List Value := [vb x.On, vi x.Due, vi x.Wait, vi x.Tries]
theorem zero_96 : ∀ w, (zeroValue 96).run Try.prog w = .ok (va [(vb false), (vi 0), (vi 0), (vi 0)]) w := fun w => by kernel_rfl
theorem isAgg_96 : ∀ w, (isAgg 96).run Try.prog w = .ok true w := fun w => by kernel_rfl
theorem sizeOf_96 : ∀ w, (sizeOf 96).run Try.prog w = .ok 4 w := fun w => by kernel_rfl
def R_109 (w : World) (v : Value) (x : (PTimer)) : Prop := v = .agg #[.bool x.On, .int .i64 x.Due, .int .i64 x.Wait, .int .i64 x.Tries]
def O_96 (w : World) (lo : Nat) (v : Value) (x : (PTimer)) : Prop := v = .agg #[.bool x.On, .int .i64 x.Due, .int .i64 x.Wait, .int .i64 x.Tries]
def F_laws_toTimer (x_a : PTimer) : (PTimer) := x_a
theorem C_laws_toTimer (w0 : World) (v_x_a : Value) (x_a : PTimer) (r_x_a : R_109 w0 v_x_a x_a)  : Fn Try.prog 135 #[v_x_a] w0 (fun v w' => Keep w0 w' ∧ O_96 w' w0.heap.size v (F_laws_toTimer x_a)) := by
 obtain rfl := r_x_a
 refine fn_of (n := 17) (l := [(va (L_96 x_a)), U, U, U, U, U, U, U, U, U, U, U, U, U, U, U, U]) Try.func135 rfl rfl (by kernel_rfl) rfl ?_
 refine sr ?_
 refine bx (L_96 x_a) wN ?_
 intro g1 w1 p2 p3 k4 b5
 have m6 := (Ch.base w0).extk k4
 refine al [(vb false), (vi 0), (vi 0), (vi 0)] wN zero_96 ?_
 intro g7 w2 p8 p9 k10 b11
 have m12 := m6.extk k10
 refine nx ?_
 refine al [(vb false), (vi 0), (vi 0), (vi 0)] wN zero_96 ?_
 intro g13 w3 p14 p15 k16 b17
 have m18 := m12.extk k16
 refine nx ?_
 refine pu (vp g1 0) wN ?_
 have b19 := ((b5.kp k10).kp k16)
 refine ld (vb x_a.On) wN isAgg_4 b19 ?_
 refine pu (vp g13 0) wN ?_
 refine st (vb x_a.On) [(vb x_a.On)] [(vb x_a.On), (vi 0), (vi 0), (vi 0)] wN sizeOf_4 b17 ?_
 intro w4 k20 b21 z22
 have m23 := m18.ext k20 (fun k hk => by subst hk; exact Nat.le_trans (Nat.le_trans k4.size k10.size) p14)
 refine nx ?_
 refine pu (vp g1 1) wN ?_
 have b24 := (b19.ch k20 (Nat.ne_of_lt (Nat.lt_of_lt_of_le p3 (Nat.le_trans k10.size p14))))
 refine ld (vi x_a.Due) wN isAgg_3 b24 ?_
 refine pu (vp g13 1) wN ?_
 refine st (vi x_a.Due) [(vi x_a.Due)] [(vb x_a.On), (vi x_a.Due), (vi 0), (vi 0)] wN sizeOf_3 b21 ?_
 intro w5 k25 b26 z27
 have m28 := m23.ext k25 (fun k hk => by subst hk; exact Nat.le_trans (Nat.le_trans k4.size k10.size) p14)
 refine nx ?_
 refine pu (vp g1 2) wN ?_
 have b29 := (b24.ch k25 (Nat.ne_of_lt (Nat.lt_of_lt_of_le p3 (Nat.le_trans k10.size p14))))
 refine ld (vi x_a.Wait) wN isAgg_3 b29 ?_
 refine pu (vp g13 2) wN ?_
 refine st (vi x_a.Wait) [(vi x_a.Wait)] [(vb x_a.On), (vi x_a.Due), (vi x_a.Wait), (vi 0)] wN sizeOf_3 b26 ?_
 intro w6 k30 b31 z32
 have m33 := m28.ext k30 (fun k hk => by subst hk; exact Nat.le_trans (Nat.le_trans k4.size k10.size) p14)
 refine nx ?_
 refine pu (vp g1 3) wN ?_
 have b34 := (b29.ch k30 (Nat.ne_of_lt (Nat.lt_of_lt_of_le p3 (Nat.le_trans k10.size p14))))
 refine ld (vi x_a.Tries) wN isAgg_3 b34 ?_
 refine pu (vp g13 3) wN ?_
 refine st (vi x_a.Tries) [(vi x_a.Tries)] (L_96 x_a) wN sizeOf_3 b31 ?_
 intro w7 k35 b36 z37
 have m38 := m33.ext k35 (fun k hk => by subst hk; exact Nat.le_trans (Nat.le_trans k4.size k10.size) p14)
 refine nx ?_
 refine lN (L_96 x_a) wN isAgg_96 sizeOf_96 b36 ?_
 have b39 := (((((b11.kp k16).ch k20 (Nat.ne_of_lt (Nat.lt_of_lt_of_le p9 (Nat.le_trans (Nat.le_refl _) p14)))).ch k25 (Nat.ne_of_lt (Nat.lt_of_lt_of_le p9 (Nat.le_trans (Nat.le_refl _) p14)))).ch k30 (Nat.ne_of_lt (Nat.lt_of_lt_of_le p9 (Nat.le_trans (Nat.le_refl _) p14)))).ch k35 (Nat.ne_of_lt (Nat.lt_of_lt_of_le p9 (Nat.le_trans (Nat.le_refl _) p14))))
 refine st (va (L_96 x_a)) (L_96 x_a) (L_96 x_a) wN sizeOf_96 b39 ?_
 intro w8 k40 b41 z42
 have m43 := m38.ext k40 (fun k hk => by subst hk; exact Nat.le_trans k4.size p8)
 refine wl_nil <| wq_then <| wc_ret ?_
 refine ret_1 (.inl rfl) (va (L_96 x_a)) rfl (rv_c [(vb x_a.On), (vi x_a.Due), (vi x_a.Wait), (vi x_a.Tries)] rfl b41 isAgg_96 sizeOf_96) ?_
 refine ⟨m43.keep0, ?_⟩
 have hF44 : F_laws_toTimer x_a = x_a := by rfl
 rw [hF44]
 exact rfl

theorem zero_98 : ∀ w, (zeroValue 98).run Try.prog w = .ok (va [(vi 0), (vs none 0 0), (vi 0), (vi 0), (vi 0), (vs none 0 0), (vi 0), (vi 0), (vs none 0 0), (vs none 0 0), (vi 0), (vs none 0 0), (vs none 0 0), (vi 0), (vi 0), (vs none 0 0), (vs none 0 0), (vi 0), (vs none 0 0), (vi 0), (vs none 0 0), (vi 0), (vi 0), (vs none 0 0), (vi 0), (vs none 0 0), (vi 0), (vi 0), (vs none 0 0), (vb false), (vi 0), (vs none 0 0), (vb false), (vi 0), (vi 0), (vi 0), (vb false), (vi 0), (vi 0), (vi 0), (vi 0)]) w := fun w => by kernel_rfl
theorem isAgg_48 : ∀ w, (isAgg 48).run Try.prog w = .ok true w := fun w => by kernel_rfl
theorem sizeOf_48 : ∀ w, (sizeOf 48).run Try.prog w = .ok 2 w := fun w => by kernel_rfl
abbrev L_48 (x : PAddr)  : List Value := [vi x.Host, vi x.Port]
theorem isAgg_109 : ∀ w, (isAgg 109).run Try.prog w = .ok true w := fun w => by kernel_rfl
theorem sizeOf_109 : ∀ w, (sizeOf 109).run Try.prog w = .ok 4 w := fun w => by kernel_rfl
abbrev L_109 (x : PTimer)  : List Value := [vb x.On, vi x.Due, vi x.Wait, vi x.Tries]
theorem isAgg_98 : ∀ w, (isAgg 98).run Try.prog w = .ok true w := fun w => by kernel_rfl
theorem sizeOf_98 : ∀ w, (sizeOf 98).run Try.prog w = .ok 41 w := fun w => by kernel_rfl
def R_111 (w : World) (v : Value) (x : (PClient)) : Prop := ∃ (a1 : Option Addr) (c1 : Nat) (a2 : Option Addr) (c2 : Nat) (a3 : Option Addr) (c3 : Nat) (a4 : Option Addr) (c4 : Nat) (a5 : Option Addr) (c5 : Nat) (a6 : Option Addr) (c6 : Nat) (a7 : Option Addr) (c7 : Nat) (a8 : Option Addr) (c8 : Nat) (a9 : Option Addr) (c9 : Nat) (a10 : Option Addr) (c10 : Nat) (a11 : Option Addr) (c11 : Nat) (a12 : Option Addr) (c12 : Nat) (a13 : Option Addr) (c13 : Nat) (a14 : Option Addr) (c14 : Nat), v = .agg #[.int .i64 x.Id, .slice a1 x.Psk.length c1, .int .i64 x.At.Host, .int .i64 x.At.Port, .int .i64 x.St, .slice a2 x.Cn.length c2, .int .i64 x.Fin.Kind, .int .i64 x.Fin.Id, .slice a3 x.Fin.Cn.length c3, .slice a4 x.Fin.Sn.length c4, .int .i64 x.Fin.Tick, .slice a5 x.Fin.Cookie.length c5, .slice a6 x.Fin.Proof.length c6, .int .i64 x.Fin.Epoch, .int .i64 x.Fin.Seq, .slice a7 x.Fin.Body.length c7, .slice a8 x.Fin.Tag.length c8, .int .i64 x.C.Role, .slice a9 x.C.Sn.length c9, .int .i64 x.C.Cur.N, .slice a10 x.C.Cur.Key.length c10, .int .i64 x.C.Cur.Seq, .int .i64 x.C.Cur.Win.Top, .slice a11 x.C.Cur.Win.Bits.length c11, .int .i64 x.C.Old.N, .slice a12 x.C.Old.Key.length c12, .int .i64 x.C.Old.Seq, .int .i64 x.C.Old.Win.Top, .slice a13 x.C.Old.Win.Bits.length c13, .bool x.C.HasOld, .int .i64 x.C.Until, .slice a14 x.C.Next.length c14, .bool x.T.On, .int .i64 x.T.Due, .int .i64 x.T.Wait, .int .i64 x.T.Tries, .bool x.R.On, .int .i64 x.R.Due, .int .i64 x.R.Wait, .int .i64 x.R.Tries, .int .i64 x.Last] ∧ Rd w 1 (.slice a1 x.Psk.length c1) x.Psk.length (x.Psk.map bV) ∧ x.Psk.length ≤ 1073741824 ∧ Rd w 1 (.slice a2 x.Cn.length c2) x.Cn.length (x.Cn.map bV) ∧ x.Cn.length ≤ 1073741824 ∧ Rd w 1 (.slice a3 x.Fin.Cn.length c3) x.Fin.Cn.length (x.Fin.Cn.map bV) ∧ x.Fin.Cn.length ≤ 1073741824 ∧ Rd w 1 (.slice a4 x.Fin.Sn.length c4) x.Fin.Sn.length (x.Fin.Sn.map bV) ∧ x.Fin.Sn.length ≤ 1073741824 ∧ Rd w 1 (.slice a5 x.Fin.Cookie.length c5) x.Fin.Cookie.length (x.Fin.Cookie.map bV) ∧ x.Fin.Cookie.length ≤ 1073741824 ∧ Rd w 1 (.slice a6 x.Fin.Proof.length c6) x.Fin.Proof.length (x.Fin.Proof.map bV) ∧ x.Fin.Proof.length ≤ 1073741824 ∧ Rd w 1 (.slice a7 x.Fin.Body.length c7) x.Fin.Body.length (x.Fin.Body.map bV) ∧ x.Fin.Body.length ≤ 1073741824 ∧ Rd w 1 (.slice a8 x.Fin.Tag.length c8) x.Fin.Tag.length (x.Fin.Tag.map bV) ∧ x.Fin.Tag.length ≤ 1073741824 ∧ Rd w 1 (.slice a9 x.C.Sn.length c9) x.C.Sn.length (x.C.Sn.map bV) ∧ x.C.Sn.length ≤ 1073741824 ∧ Rd w 1 (.slice a10 x.C.Cur.Key.length c10) x.C.Cur.Key.length (x.C.Cur.Key.map bV) ∧ x.C.Cur.Key.length ≤ 1073741824 ∧ Rd w 1 (.slice a11 x.C.Cur.Win.Bits.length c11) x.C.Cur.Win.Bits.length (x.C.Cur.Win.Bits.map iV) ∧ x.C.Cur.Win.Bits.length ≤ 1073741824 ∧ Rd w 1 (.slice a12 x.C.Old.Key.length c12) x.C.Old.Key.length (x.C.Old.Key.map bV) ∧ x.C.Old.Key.length ≤ 1073741824 ∧ Rd w 1 (.slice a13 x.C.Old.Win.Bits.length c13) x.C.Old.Win.Bits.length (x.C.Old.Win.Bits.map iV) ∧ x.C.Old.Win.Bits.length ≤ 1073741824 ∧ Rd w 1 (.slice a14 x.C.Next.length c14) x.C.Next.length (x.C.Next.map bV) ∧ x.C.Next.length ≤ 1073741824
def O_98 (w : World) (lo : Nat) (v : Value) (x : (PClient)) : Prop := ∃ (a1 : Option Addr) (c1 : Nat) (a2 : Option Addr) (c2 : Nat) (a3 : Option Addr) (c3 : Nat) (a4 : Option Addr) (c4 : Nat) (a5 : Option Addr) (c5 : Nat) (a6 : Option Addr) (c6 : Nat) (a7 : Option Addr) (c7 : Nat) (a8 : Option Addr) (c8 : Nat) (a9 : Option Addr) (c9 : Nat) (a10 : Option Addr) (c10 : Nat) (a11 : Option Addr) (c11 : Nat) (a12 : Option Addr) (c12 : Nat) (a13 : Option Addr) (c13 : Nat) (a14 : Option Addr) (c14 : Nat), v = .agg #[.int .i64 x.Id, .slice a1 x.Psk.length c1, .int .i64 x.At.Host, .int .i64 x.At.Port, .int .i64 x.St, .slice a2 x.Cn.length c2, .int .i64 x.Fin.Kind, .int .i64 x.Fin.Id, .slice a3 x.Fin.Cn.length c3, .slice a4 x.Fin.Sn.length c4, .int .i64 x.Fin.Tick, .slice a5 x.Fin.Cookie.length c5, .slice a6 x.Fin.Proof.length c6, .int .i64 x.Fin.Epoch, .int .i64 x.Fin.Seq, .slice a7 x.Fin.Body.length c7, .slice a8 x.Fin.Tag.length c8, .int .i64 x.C.Role, .slice a9 x.C.Sn.length c9, .int .i64 x.C.Cur.N, .slice a10 x.C.Cur.Key.length c10, .int .i64 x.C.Cur.Seq, .int .i64 x.C.Cur.Win.Top, .slice a11 x.C.Cur.Win.Bits.length c11, .int .i64 x.C.Old.N, .slice a12 x.C.Old.Key.length c12, .int .i64 x.C.Old.Seq, .int .i64 x.C.Old.Win.Top, .slice a13 x.C.Old.Win.Bits.length c13, .bool x.C.HasOld, .int .i64 x.C.Until, .slice a14 x.C.Next.length c14, .bool x.T.On, .int .i64 x.T.Due, .int .i64 x.T.Wait, .int .i64 x.T.Tries, .bool x.R.On, .int .i64 x.R.Due, .int .i64 x.R.Wait, .int .i64 x.R.Tries, .int .i64 x.Last] ∧ w.ownsRow lo 5 1 (.slice a1 x.Psk.length c1) x.Psk.length (x.Psk.map bV) ∧ x.Psk.length ≤ 1073741824 ∧ w.ownsRow lo 5 1 (.slice a2 x.Cn.length c2) x.Cn.length (x.Cn.map bV) ∧ x.Cn.length ≤ 1073741824 ∧ w.ownsRow lo 5 1 (.slice a3 x.Fin.Cn.length c3) x.Fin.Cn.length (x.Fin.Cn.map bV) ∧ x.Fin.Cn.length ≤ 1073741824 ∧ w.ownsRow lo 5 1 (.slice a4 x.Fin.Sn.length c4) x.Fin.Sn.length (x.Fin.Sn.map bV) ∧ x.Fin.Sn.length ≤ 1073741824 ∧ w.ownsRow lo 5 1 (.slice a5 x.Fin.Cookie.length c5) x.Fin.Cookie.length (x.Fin.Cookie.map bV) ∧ x.Fin.Cookie.length ≤ 1073741824 ∧ w.ownsRow lo 5 1 (.slice a6 x.Fin.Proof.length c6) x.Fin.Proof.length (x.Fin.Proof.map bV) ∧ x.Fin.Proof.length ≤ 1073741824 ∧ w.ownsRow lo 5 1 (.slice a7 x.Fin.Body.length c7) x.Fin.Body.length (x.Fin.Body.map bV) ∧ x.Fin.Body.length ≤ 1073741824 ∧ w.ownsRow lo 5 1 (.slice a8 x.Fin.Tag.length c8) x.Fin.Tag.length (x.Fin.Tag.map bV) ∧ x.Fin.Tag.length ≤ 1073741824 ∧ w.ownsRow lo 5 1 (.slice a9 x.C.Sn.length c9) x.C.Sn.length (x.C.Sn.map bV) ∧ x.C.Sn.length ≤ 1073741824 ∧ w.ownsRow lo 5 1 (.slice a10 x.C.Cur.Key.length c10) x.C.Cur.Key.length (x.C.Cur.Key.map bV) ∧ x.C.Cur.Key.length ≤ 1073741824 ∧ w.ownsRow lo 3 1 (.slice a11 x.C.Cur.Win.Bits.length c11) x.C.Cur.Win.Bits.length (x.C.Cur.Win.Bits.map iV) ∧ x.C.Cur.Win.Bits.length ≤ 1073741824 ∧ w.ownsRow lo 5 1 (.slice a12 x.C.Old.Key.length c12) x.C.Old.Key.length (x.C.Old.Key.map bV) ∧ x.C.Old.Key.length ≤ 1073741824 ∧ w.ownsRow lo 3 1 (.slice a13 x.C.Old.Win.Bits.length c13) x.C.Old.Win.Bits.length (x.C.Old.Win.Bits.map iV) ∧ x.C.Old.Win.Bits.length ≤ 1073741824 ∧ w.ownsRow lo 5 1 (.slice a14 x.C.Next.length c14) x.C.Next.length (x.C.Next.map bV) ∧ x.C.Next.length ≤ 1073741824 ∧ Aps [(a1, c1), (a2, c2), (a3, c3), (a4, c4), (a5, c5), (a6, c6), (a7, c7), (a8, c8), (a9, c9), (a10, c10), (a11, c11), (a12, c12), (a13, c13), (a14, c14)]
theorem mR_48 {w : World} {x : PAddr} : R_48 w (va (L_48 x)) x := rfl
theorem mR_103 {w : World} {x : PFrame} {a1 : Option Addr} {c1 : Nat} {a2 : Option Addr} {c2 : Nat} {a3 : Option Addr} {c3 : Nat} {a4 : Option Addr} {c4 : Nat} {a5 : Option Addr} {c5 : Nat} {a6 : Option Addr} {c6 : Nat} (h1 : Rd w 1 (.slice a1 x.Cn.length c1) x.Cn.length (x.Cn.map bV)) (l1 : x.Cn.length ≤ 1073741824) (h2 : Rd w 1 (.slice a2 x.Sn.length c2) x.Sn.length (x.Sn.map bV)) (l2 : x.Sn.length ≤ 1073741824) (h3 : Rd w 1 (.slice a3 x.Cookie.length c3) x.Cookie.length (x.Cookie.map bV)) (l3 : x.Cookie.length ≤ 1073741824) (h4 : Rd w 1 (.slice a4 x.Proof.length c4) x.Proof.length (x.Proof.map bV)) (l4 : x.Proof.length ≤ 1073741824) (h5 : Rd w 1 (.slice a5 x.Body.length c5) x.Body.length (x.Body.map bV)) (l5 : x.Body.length ≤ 1073741824) (h6 : Rd w 1 (.slice a6 x.Tag.length c6) x.Tag.length (x.Tag.map bV)) (l6 : x.Tag.length ≤ 1073741824) : R_103 w (va (L_103 x a1 c1 a2 c2 a3 c3 a4 c4 a5 c5 a6 c6)) x := ⟨_, _, _, _, _, _, _, _, _, _, _, _, rfl, h1, l1, h2, l2, h3, l3, h4, l4, h5, l5, h6, l6⟩
theorem mR_108 {w : World} {x : PChan} {a1 : Option Addr} {c1 : Nat} {a2 : Option Addr} {c2 : Nat} {a3 : Option Addr} {c3 : Nat} {a4 : Option Addr} {c4 : Nat} {a5 : Option Addr} {c5 : Nat} {a6 : Option Addr} {c6 : Nat} (h1 : Rd w 1 (.slice a1 x.Sn.length c1) x.Sn.length (x.Sn.map bV)) (l1 : x.Sn.length ≤ 1073741824) (h2 : Rd w 1 (.slice a2 x.Cur.Key.length c2) x.Cur.Key.length (x.Cur.Key.map bV)) (l2 : x.Cur.Key.length ≤ 1073741824) (h3 : Rd w 1 (.slice a3 x.Cur.Win.Bits.length c3) x.Cur.Win.Bits.length (x.Cur.Win.Bits.map iV)) (l3 : x.Cur.Win.Bits.length ≤ 1073741824) (h4 : Rd w 1 (.slice a4 x.Old.Key.length c4) x.Old.Key.length (x.Old.Key.map bV)) (l4 : x.Old.Key.length ≤ 1073741824) (h5 : Rd w 1 (.slice a5 x.Old.Win.Bits.length c5) x.Old.Win.Bits.length (x.Old.Win.Bits.map iV)) (l5 : x.Old.Win.Bits.length ≤ 1073741824) (h6 : Rd w 1 (.slice a6 x.Next.length c6) x.Next.length (x.Next.map bV)) (l6 : x.Next.length ≤ 1073741824) : R_108 w (va (L_108 x a1 c1 a2 c2 a3 c3 a4 c4 a5 c5 a6 c6)) x := ⟨_, _, _, _, _, _, _, _, _, _, _, _, rfl, h1, l1, h2, l2, h3, l3, h4, l4, h5, l5, h6, l6⟩
theorem mR_109 {w : World} {x : PTimer} : R_109 w (va (L_109 x)) x := rfl
def F_laws_toClient (x_a : PClient) : (PClient) := { Id := x_a.Id, Psk := (cpB x_a.Psk), At := (F_laws_toAddr x_a.At), St := x_a.St, Cn := (cpB x_a.Cn), Fin := (F_laws_toFrame x_a.Fin), C := (F_laws_toChan x_a.C), T := (F_laws_toTimer x_a.T), R := (F_laws_toTimer x_a.R), Last := x_a.Last : PClient }
theorem C_laws_toClient (w0 : World) (v_x_a : Value) (x_a : PClient) (r_x_a : R_111 w0 v_x_a x_a)  : Fn Try.prog 71 #[v_x_a] w0 (fun v w' => Keep w0 w' ∧ O_98 w' w0.heap.size v (F_laws_toClient x_a)) := by
 obtain ⟨a1, c2, a6, c7, a11, c12, a16, c17, a21, c22, a26, c27, a31, c32, a36, c37, a41, c42, a46, c47, a51, c52, a56, c57, a61, c62, a66, c67, rfl, r3, s4, r8, s9, r13, s14, r18, s19, r23, s24, r28, s29, r33, s34, r38, s39, r43, s44, r48, s49, r53, s54, r58, s59, r63, s64, r68, s69⟩ := r_x_a
 refine fn_of (n := 42) (l := [(va (L_98 x_a a1 c2 a6 c7 a11 c12 a16 c17 a21 c22 a26 c27 a31 c32 a36 c37 a41 c42 a46 c47 a51 c52 a56 c57 a61 c62 a66 c67)), U, U, U, U, U, U, U, U, U, U, U, U, U, U, U, U, U, U, U, U, U, U, U, U, U, U, U, U, U, U, U, U, U, U, U, U, U, U, U, U, U]) Try.func71 rfl rfl (by kernel_rfl) rfl ?_
 refine sr ?_
 refine bx (L_98 x_a a1 c2 a6 c7 a11 c12 a16 c17 a21 c22 a26 c27 a31 c32 a36 c37 a41 c42 a46 c47 a51 c52 a56 c57 a61 c62 a66 c67) wN ?_
 intro g71 w1 p72 p73 k74 b75
 have m76 := (Ch.base w0).extk k74
 refine al [(vi 0), (vs none 0 0), (vi 0), (vi 0), (vi 0), (vs none 0 0), (vi 0), (vi 0), (vs none 0 0), (vs none 0 0), (vi 0), (vs none 0 0), (vs none 0 0), (vi 0), (vi 0), (vs none 0 0), (vs none 0 0), (vi 0), (vs none 0 0), (vi 0), (vs none 0 0), (vi 0), (vi 0), (vs none 0 0), (vi 0), (vs none 0 0), (vi 0), (vi 0), (vs none 0 0), (vb false), (vi 0), (vs none 0 0), (vb false), (vi 0), (vi 0), (vi 0), (vb false), (vi 0), (vi 0), (vi 0), (vi 0)] wN zero_98 ?_
 intro g77 w2 p78 p79 k80 b81
 have m82 := m76.extk k80
 refine nx ?_
 refine al [(vi 0), (vs none 0 0), (vi 0), (vi 0), (vi 0), (vs none 0 0), (vi 0), (vi 0), (vs none 0 0), (vs none 0 0), (vi 0), (vs none 0 0), (vs none 0 0), (vi 0), (vi 0), (vs none 0 0), (vs none 0 0), (vi 0), (vs none 0 0), (vi 0), (vs none 0 0), (vi 0), (vi 0), (vs none 0 0), (vi 0), (vs none 0 0), (vi 0), (vi 0), (vs none 0 0), (vb false), (vi 0), (vs none 0 0), (vb false), (vi 0), (vi 0), (vi 0), (vb false), (vi 0), (vi 0), (vi 0), (vi 0)] wN zero_98 ?_
 intro g83 w3 p84 p85 k86 b87
 have m88 := m82.extk k86
 refine nx ?_
 refine pu (vp g71 0) wN ?_
 have b89 := ((b75.kp k80).kp k86)
 refine ld (vi x_a.Id) wN isAgg_3 b89 ?_
 refine pu (vp g83 0) wN ?_
 refine st (vi x_a.Id) [(vi x_a.Id)] [(vi x_a.Id), (vs none 0 0), (vi 0), (vi 0), (vi 0), (vs none 0 0), (vi 0), (vi 0), (vs none 0 0), (vs none 0 0), (vi 0), (vs none 0 0), (vs none 0 0), (vi 0), (vi 0), (vs none 0 0), (vs none 0 0), (vi 0), (vs none 0 0), (vi 0), (vs none 0 0), (vi 0), (vi 0), (vs none 0 0), (vi 0), (vs none 0 0), (vi 0), (vi 0), (vs none 0 0), (vb false), (vi 0), (vs none 0 0), (vb false), (vi 0), (vi 0), (vi 0), (vb false), (vi 0), (vi 0), (vi 0), (vi 0)] wN sizeOf_3 b87 ?_
 intro w4 k90 b91 z92
 have m93 := m88.ext k90 (fun k hk => by subst hk; exact Nat.le_trans (Nat.le_trans k74.size k80.size) p84)
 refine nx ?_
 refine pu (vp g71 1) wN ?_
 have b94 := (b89.ch k90 (Nat.ne_of_lt (Nat.lt_of_lt_of_le p73 (Nat.le_trans k80.size p84))))
 refine ld (vs a1 x_a.Psk.length c2) wN isAgg_22 b94 ?_
 refine cl wN (C_laws_toByteS w4 _ x_a.Psk (mR_22 (r3.from0 m93) s4)) ?_
 rintro _ w5 ⟨k95, ⟨a96, c97, rfl, o98, s99, ap101⟩⟩
 have m102 := m93.extk k95
 refine pu (vp g83 1) wN ?_
 have b103 := (b91.kp k95)
 refine st (vs a96 (cpB x_a.Psk).length c97) [(vs a96 (cpB x_a.Psk).length c97)] [(vi x_a.Id), (vs a96 (cpB x_a.Psk).length c97), (vi 0), (vi 0), (vi 0), (vs none 0 0), (vi 0), (vi 0), (vs none 0 0), (vs none 0 0), (vi 0), (vs none 0 0), (vs none 0 0), (vi 0), (vi 0), (vs none 0 0), (vs none 0 0), (vi 0), (vs none 0 0), (vi 0), (vs none 0 0), (vi 0), (vi 0), (vs none 0 0), (vi 0), (vs none 0 0), (vi 0), (vi 0), (vs none 0 0), (vb false), (vi 0), (vs none 0 0), (vb false), (vi 0), (vi 0), (vi 0), (vb false), (vi 0), (vi 0), (vi 0), (vi 0)] wN sizeOf_22 b103 ?_
 intro w6 k104 b105 z106
 have m107 := m102.ext k104 (fun k hk => by subst hk; exact Nat.le_trans (Nat.le_trans k74.size k80.size) p84)
 refine nx ?_
 refine pu (vp g71 2) wN ?_
 have b108 := ((b94.kp k95).ch k104 (Nat.ne_of_lt (Nat.lt_of_lt_of_le p73 (Nat.le_trans k80.size p84))))
 refine lN (L_26 x_a.At) wN isAgg_48 sizeOf_48 b108 ?_
 refine cl wN (C_laws_toAddr w6 _ x_a.At (mR_48)) ?_
 rintro _ w7 ⟨k109, rfl⟩
 have m110 := m107.extk k109
 refine pu (vp g83 2) wN ?_
 have b111 := (b105.kp k109)
 refine st (va (L_26 (F_laws_toAddr x_a.At))) (L_26 (F_laws_toAddr x_a.At)) [(vi x_a.Id), (vs a96 (cpB x_a.Psk).length c97), (vi ((F_laws_toAddr x_a.At).Host)), (vi ((F_laws_toAddr x_a.At).Port)), (vi 0), (vs none 0 0), (vi 0), (vi 0), (vs none 0 0), (vs none 0 0), (vi 0), (vs none 0 0), (vs none 0 0), (vi 0), (vi 0), (vs none 0 0), (vs none 0 0), (vi 0), (vs none 0 0), (vi 0), (vs none 0 0), (vi 0), (vi 0), (vs none 0 0), (vi 0), (vs none 0 0), (vi 0), (vi 0), (vs none 0 0), (vb false), (vi 0), (vs none 0 0), (vb false), (vi 0), (vi 0), (vi 0), (vb false), (vi 0), (vi 0), (vi 0), (vi 0)] wN sizeOf_26 b111 ?_
 intro w8 k112 b113 z114
 have m115 := m110.ext k112 (fun k hk => by subst hk; exact Nat.le_trans (Nat.le_trans k74.size k80.size) p84)
 refine nx ?_
 refine pu (vp g71 4) wN ?_
 have b116 := ((b108.kp k109).ch k112 (Nat.ne_of_lt (Nat.lt_of_lt_of_le p73 (Nat.le_trans k80.size p84))))
 refine ld (vi x_a.St) wN isAgg_3 b116 ?_
 refine pu (vp g83 4) wN ?_
 refine st (vi x_a.St) [(vi x_a.St)] [(vi x_a.Id), (vs a96 (cpB x_a.Psk).length c97), (vi ((F_laws_toAddr x_a.At).Host)), (vi ((F_laws_toAddr x_a.At).Port)), (vi x_a.St), (vs none 0 0), (vi 0), (vi 0), (vs none 0 0), (vs none 0 0), (vi 0), (vs none 0 0), (vs none 0 0), (vi 0), (vi 0), (vs none 0 0), (vs none 0 0), (vi 0), (vs none 0 0), (vi 0), (vs none 0 0), (vi 0), (vi 0), (vs none 0 0), (vi 0), (vs none 0 0), (vi 0), (vi 0), (vs none 0 0), (vb false), (vi 0), (vs none 0 0), (vb false), (vi 0), (vi 0), (vi 0), (vb false), (vi 0), (vi 0), (vi 0), (vi 0)] wN sizeOf_3 b113 ?_
 intro w9 k117 b118 z119
 have m120 := m115.ext k117 (fun k hk => by subst hk; exact Nat.le_trans (Nat.le_trans k74.size k80.size) p84)
 refine nx ?_
 refine pu (vp g71 5) wN ?_
 have b121 := (b116.ch k117 (Nat.ne_of_lt (Nat.lt_of_lt_of_le p73 (Nat.le_trans k80.size p84))))
 refine ld (vs a6 x_a.Cn.length c7) wN isAgg_22 b121 ?_
 refine cl wN (C_laws_toByteS w9 _ x_a.Cn (mR_22 (r8.from0 m120) s9)) ?_
 rintro _ w10 ⟨k122, ⟨a123, c124, rfl, o125, s126, ap128⟩⟩
 have m129 := m120.extk k122
 refine pu (vp g83 5) wN ?_
 have b130 := (b118.kp k122)
 refine st (vs a123 (cpB x_a.Cn).length c124) [(vs a123 (cpB x_a.Cn).length c124)] [(vi x_a.Id), (vs a96 (cpB x_a.Psk).length c97), (vi ((F_laws_toAddr x_a.At).Host)), (vi ((F_laws_toAddr x_a.At).Port)), (vi x_a.St), (vs a123 (cpB x_a.Cn).length c124), (vi 0), (vi 0), (vs none 0 0), (vs none 0 0), (vi 0), (vs none 0 0), (vs none 0 0), (vi 0), (vi 0), (vs none 0 0), (vs none 0 0), (vi 0), (vs none 0 0), (vi 0), (vs none 0 0), (vi 0), (vi 0), (vs none 0 0), (vi 0), (vs none 0 0), (vi 0), (vi 0), (vs none 0 0), (vb false), (vi 0), (vs none 0 0), (vb false), (vi 0), (vi 0), (vi 0), (vb false), (vi 0), (vi 0), (vi 0), (vi 0)] wN sizeOf_22 b130 ?_
 intro w11 k131 b132 z133
 have m134 := m129.ext k131 (fun k hk => by subst hk; exact Nat.le_trans (Nat.le_trans k74.size k80.size) p84)
 refine nx ?_
 refine pu (vp g71 6) wN ?_
 have b135 := ((b121.kp k122).ch k131 (Nat.ne_of_lt (Nat.lt_of_lt_of_le p73 (Nat.le_trans k80.size p84))))
 refine lN (L_87 x_a.Fin a11 c12 a16 c17 a21 c22 a26 c27 a31 c32 a36 c37) wN isAgg_103 sizeOf_103 b135 ?_
 refine cl wN (C_laws_toFrame w11 _ x_a.Fin (mR_103 (r13.from0 m134) s14 (r18.from0 m134) s19 (r23.from0 m134) s24 (r28.from0 m134) s29 (r33.from0 m134) s34 (r38.from0 m134) s39)) ?_
 rintro _ w12 ⟨k136, ⟨a137, c138, a142, c143, a147, c148, a152, c153, a157, c158, a162, c163, rfl, o139, s140, o144, s145, o149, s150, o154, s155, o159, s160, o164, s165, ap167⟩⟩
 have m168 := m134.extk k136
 refine pu (vp g83 6) wN ?_
 have b169 := (b132.kp k136)
 refine st (va (L_87 (F_laws_toFrame x_a.Fin) a137 c138 a142 c143 a147 c148 a152 c153 a157 c158 a162 c163)) (L_87 (F_laws_toFrame x_a.Fin) a137 c138 a142 c143 a147 c148 a152 c153 a157 c158 a162 c163) [(vi x_a.Id), (vs a96 (cpB x_a.Psk).length c97), (vi ((F_laws_toAddr x_a.At).Host)), (vi ((F_laws_toAddr x_a.At).Port)), (vi x_a.St), (vs a123 (cpB x_a.Cn).length c124), (vi ((F_laws_toFrame x_a.Fin).Kind)), (vi ((F_laws_toFrame x_a.Fin).Id)), (vs a137 ((F_laws_toFrame x_a.Fin).Cn).length c138), (vs a142 ((F_laws_toFrame x_a.Fin).Sn).length c143), (vi ((F_laws_toFrame x_a.Fin).Tick)), (vs a147 ((F_laws_toFrame x_a.Fin).Cookie).length c148), (vs a152 ((F_laws_toFrame x_a.Fin).Proof).length c153), (vi ((F_laws_toFrame x_a.Fin).Epoch)), (vi ((F_laws_toFrame x_a.Fin).Seq)), (vs a157 ((F_laws_toFrame x_a.Fin).Body).length c158), (vs a162 ((F_laws_toFrame x_a.Fin).Tag).length c163), (vi 0), (vs none 0 0), (vi 0), (vs none 0 0), (vi 0), (vi 0), (vs none 0 0), (vi 0), (vs none 0 0), (vi 0), (vi 0), (vs none 0 0), (vb false), (vi 0), (vs none 0 0), (vb false), (vi 0), (vi 0), (vi 0), (vb false), (vi 0), (vi 0), (vi 0), (vi 0)] wN sizeOf_87 b169 ?_
 intro w13 k170 b171 z172
 have m173 := m168.ext k170 (fun k hk => by subst hk; exact Nat.le_trans (Nat.le_trans k74.size k80.size) p84)
 refine nx ?_
 refine pu (vp g71 17) wN ?_
 have b174 := ((b135.kp k136).ch k170 (Nat.ne_of_lt (Nat.lt_of_lt_of_le p73 (Nat.le_trans k80.size p84))))
 refine lN (L_94 x_a.C a41 c42 a46 c47 a51 c52 a56 c57 a61 c62 a66 c67) wN isAgg_108 sizeOf_108 b174 ?_
 refine cl wN (C_laws_toChan w13 _ x_a.C (mR_108 (r43.from0 m173) s44 (r48.from0 m173) s49 (r53.from0 m173) s54 (r58.from0 m173) s59 (r63.from0 m173) s64 (r68.from0 m173) s69)) ?_
 rintro _ w14 ⟨k175, ⟨a176, c177, a181, c182, a186, c187, a191, c192, a196, c197, a201, c202, rfl, o178, s179, o183, s184, o188, s189, o193, s194, o198, s199, o203, s204, ap206⟩⟩
 have m207 := m173.extk k175
 refine pu (vp g83 17) wN ?_
 have b208 := (b171.kp k175)
 refine st (va (L_94 (F_laws_toChan x_a.C) a176 c177 a181 c182 a186 c187 a191 c192 a196 c197 a201 c202)) (L_94 (F_laws_toChan x_a.C) a176 c177 a181 c182 a186 c187 a191 c192 a196 c197 a201 c202) [(vi x_a.Id), (vs a96 (cpB x_a.Psk).length c97), (vi ((F_laws_toAddr x_a.At).Host)), (vi ((F_laws_toAddr x_a.At).Port)), (vi x_a.St), (vs a123 (cpB x_a.Cn).length c124), (vi ((F_laws_toFrame x_a.Fin).Kind)), (vi ((F_laws_toFrame x_a.Fin).Id)), (vs a137 ((F_laws_toFrame x_a.Fin).Cn).length c138), (vs a142 ((F_laws_toFrame x_a.Fin).Sn).length c143), (vi ((F_laws_toFrame x_a.Fin).Tick)), (vs a147 ((F_laws_toFrame x_a.Fin).Cookie).length c148), (vs a152 ((F_laws_toFrame x_a.Fin).Proof).length c153), (vi ((F_laws_toFrame x_a.Fin).Epoch)), (vi ((F_laws_toFrame x_a.Fin).Seq)), (vs a157 ((F_laws_toFrame x_a.Fin).Body).length c158), (vs a162 ((F_laws_toFrame x_a.Fin).Tag).length c163), (vi ((F_laws_toChan x_a.C).Role)), (vs a176 ((F_laws_toChan x_a.C).Sn).length c177), (vi (((F_laws_toChan x_a.C).Cur).N)), (vs a181 (((F_laws_toChan x_a.C).Cur).Key).length c182), (vi (((F_laws_toChan x_a.C).Cur).Seq)), (vi ((((F_laws_toChan x_a.C).Cur).Win).Top)), (vs a186 ((((F_laws_toChan x_a.C).Cur).Win).Bits).length c187), (vi (((F_laws_toChan x_a.C).Old).N)), (vs a191 (((F_laws_toChan x_a.C).Old).Key).length c192), (vi (((F_laws_toChan x_a.C).Old).Seq)), (vi ((((F_laws_toChan x_a.C).Old).Win).Top)), (vs a196 ((((F_laws_toChan x_a.C).Old).Win).Bits).length c197), (vb ((F_laws_toChan x_a.C).HasOld)), (vi ((F_laws_toChan x_a.C).Until)), (vs a201 ((F_laws_toChan x_a.C).Next).length c202), (vb false), (vi 0), (vi 0), (vi 0), (vb false), (vi 0), (vi 0), (vi 0), (vi 0)] wN sizeOf_94 b208 ?_
 intro w15 k209 b210 z211
 have m212 := m207.ext k209 (fun k hk => by subst hk; exact Nat.le_trans (Nat.le_trans k74.size k80.size) p84)
 refine nx ?_
 refine pu (vp g71 32) wN ?_
 have b213 := ((b174.kp k175).ch k209 (Nat.ne_of_lt (Nat.lt_of_lt_of_le p73 (Nat.le_trans k80.size p84))))
 refine lN (L_96 x_a.T) wN isAgg_109 sizeOf_109 b213 ?_
 refine cl wN (C_laws_toTimer w15 _ x_a.T (mR_109)) ?_
 rintro _ w16 ⟨k214, rfl⟩
 have m215 := m212.extk k214
 refine pu (vp g83 32) wN ?_
 have b216 := (b210.kp k214)
 refine st (va (L_96 (F_laws_toTimer x_a.T))) (L_96 (F_laws_toTimer x_a.T)) [(vi x_a.Id), (vs a96 (cpB x_a.Psk).length c97), (vi ((F_laws_toAddr x_a.At).Host)), (vi ((F_laws_toAddr x_a.At).Port)), (vi x_a.St), (vs a123 (cpB x_a.Cn).length c124), (vi ((F_laws_toFrame x_a.Fin).Kind)), (vi ((F_laws_toFrame x_a.Fin).Id)), (vs a137 ((F_laws_toFrame x_a.Fin).Cn).length c138), (vs a142 ((F_laws_toFrame x_a.Fin).Sn).length c143), (vi ((F_laws_toFrame x_a.Fin).Tick)), (vs a147 ((F_laws_toFrame x_a.Fin).Cookie).length c148), (vs a152 ((F_laws_toFrame x_a.Fin).Proof).length c153), (vi ((F_laws_toFrame x_a.Fin).Epoch)), (vi ((F_laws_toFrame x_a.Fin).Seq)), (vs a157 ((F_laws_toFrame x_a.Fin).Body).length c158), (vs a162 ((F_laws_toFrame x_a.Fin).Tag).length c163), (vi ((F_laws_toChan x_a.C).Role)), (vs a176 ((F_laws_toChan x_a.C).Sn).length c177), (vi (((F_laws_toChan x_a.C).Cur).N)), (vs a181 (((F_laws_toChan x_a.C).Cur).Key).length c182), (vi (((F_laws_toChan x_a.C).Cur).Seq)), (vi ((((F_laws_toChan x_a.C).Cur).Win).Top)), (vs a186 ((((F_laws_toChan x_a.C).Cur).Win).Bits).length c187), (vi (((F_laws_toChan x_a.C).Old).N)), (vs a191 (((F_laws_toChan x_a.C).Old).Key).length c192), (vi (((F_laws_toChan x_a.C).Old).Seq)), (vi ((((F_laws_toChan x_a.C).Old).Win).Top)), (vs a196 ((((F_laws_toChan x_a.C).Old).Win).Bits).length c197), (vb ((F_laws_toChan x_a.C).HasOld)), (vi ((F_laws_toChan x_a.C).Until)), (vs a201 ((F_laws_toChan x_a.C).Next).length c202), (vb ((F_laws_toTimer x_a.T).On)), (vi ((F_laws_toTimer x_a.T).Due)), (vi ((F_laws_toTimer x_a.T).Wait)), (vi ((F_laws_toTimer x_a.T).Tries)), (vb false), (vi 0), (vi 0), (vi 0), (vi 0)] wN sizeOf_96 b216 ?_
 intro w17 k217 b218 z219
 have m220 := m215.ext k217 (fun k hk => by subst hk; exact Nat.le_trans (Nat.le_trans k74.size k80.size) p84)
 refine nx ?_
 refine pu (vp g71 36) wN ?_
 have b221 := ((b213.kp k214).ch k217 (Nat.ne_of_lt (Nat.lt_of_lt_of_le p73 (Nat.le_trans k80.size p84))))
 refine lN (L_96 x_a.R) wN isAgg_109 sizeOf_109 b221 ?_
 refine cl wN (C_laws_toTimer w17 _ x_a.R (mR_109)) ?_
 rintro _ w18 ⟨k222, rfl⟩
 have m223 := m220.extk k222
 refine pu (vp g83 36) wN ?_
 have b224 := (b218.kp k222)
 refine st (va (L_96 (F_laws_toTimer x_a.R))) (L_96 (F_laws_toTimer x_a.R)) [(vi x_a.Id), (vs a96 (cpB x_a.Psk).length c97), (vi ((F_laws_toAddr x_a.At).Host)), (vi ((F_laws_toAddr x_a.At).Port)), (vi x_a.St), (vs a123 (cpB x_a.Cn).length c124), (vi ((F_laws_toFrame x_a.Fin).Kind)), (vi ((F_laws_toFrame x_a.Fin).Id)), (vs a137 ((F_laws_toFrame x_a.Fin).Cn).length c138), (vs a142 ((F_laws_toFrame x_a.Fin).Sn).length c143), (vi ((F_laws_toFrame x_a.Fin).Tick)), (vs a147 ((F_laws_toFrame x_a.Fin).Cookie).length c148), (vs a152 ((F_laws_toFrame x_a.Fin).Proof).length c153), (vi ((F_laws_toFrame x_a.Fin).Epoch)), (vi ((F_laws_toFrame x_a.Fin).Seq)), (vs a157 ((F_laws_toFrame x_a.Fin).Body).length c158), (vs a162 ((F_laws_toFrame x_a.Fin).Tag).length c163), (vi ((F_laws_toChan x_a.C).Role)), (vs a176 ((F_laws_toChan x_a.C).Sn).length c177), (vi (((F_laws_toChan x_a.C).Cur).N)), (vs a181 (((F_laws_toChan x_a.C).Cur).Key).length c182), (vi (((F_laws_toChan x_a.C).Cur).Seq)), (vi ((((F_laws_toChan x_a.C).Cur).Win).Top)), (vs a186 ((((F_laws_toChan x_a.C).Cur).Win).Bits).length c187), (vi (((F_laws_toChan x_a.C).Old).N)), (vs a191 (((F_laws_toChan x_a.C).Old).Key).length c192), (vi (((F_laws_toChan x_a.C).Old).Seq)), (vi ((((F_laws_toChan x_a.C).Old).Win).Top)), (vs a196 ((((F_laws_toChan x_a.C).Old).Win).Bits).length c197), (vb ((F_laws_toChan x_a.C).HasOld)), (vi ((F_laws_toChan x_a.C).Until)), (vs a201 ((F_laws_toChan x_a.C).Next).length c202), (vb ((F_laws_toTimer x_a.T).On)), (vi ((F_laws_toTimer x_a.T).Due)), (vi ((F_laws_toTimer x_a.T).Wait)), (vi ((F_laws_toTimer x_a.T).Tries)), (vb ((F_laws_toTimer x_a.R).On)), (vi ((F_laws_toTimer x_a.R).Due)), (vi ((F_laws_toTimer x_a.R).Wait)), (vi ((F_laws_toTimer x_a.R).Tries)), (vi 0)] wN sizeOf_96 b224 ?_
 intro w19 k225 b226 z227
 have m228 := m223.ext k225 (fun k hk => by subst hk; exact Nat.le_trans (Nat.le_trans k74.size k80.size) p84)
 refine nx ?_
 refine pu (vp g71 40) wN ?_
 have b229 := ((b221.kp k222).ch k225 (Nat.ne_of_lt (Nat.lt_of_lt_of_le p73 (Nat.le_trans k80.size p84))))
 refine ld (vi x_a.Last) wN isAgg_3 b229 ?_
 refine pu (vp g83 40) wN ?_
 refine st (vi x_a.Last) [(vi x_a.Last)] [(vi x_a.Id), (vs a96 (cpB x_a.Psk).length c97), (vi ((F_laws_toAddr x_a.At).Host)), (vi ((F_laws_toAddr x_a.At).Port)), (vi x_a.St), (vs a123 (cpB x_a.Cn).length c124), (vi ((F_laws_toFrame x_a.Fin).Kind)), (vi ((F_laws_toFrame x_a.Fin).Id)), (vs a137 ((F_laws_toFrame x_a.Fin).Cn).length c138), (vs a142 ((F_laws_toFrame x_a.Fin).Sn).length c143), (vi ((F_laws_toFrame x_a.Fin).Tick)), (vs a147 ((F_laws_toFrame x_a.Fin).Cookie).length c148), (vs a152 ((F_laws_toFrame x_a.Fin).Proof).length c153), (vi ((F_laws_toFrame x_a.Fin).Epoch)), (vi ((F_laws_toFrame x_a.Fin).Seq)), (vs a157 ((F_laws_toFrame x_a.Fin).Body).length c158), (vs a162 ((F_laws_toFrame x_a.Fin).Tag).length c163), (vi ((F_laws_toChan x_a.C).Role)), (vs a176 ((F_laws_toChan x_a.C).Sn).length c177), (vi (((F_laws_toChan x_a.C).Cur).N)), (vs a181 (((F_laws_toChan x_a.C).Cur).Key).length c182), (vi (((F_laws_toChan x_a.C).Cur).Seq)), (vi ((((F_laws_toChan x_a.C).Cur).Win).Top)), (vs a186 ((((F_laws_toChan x_a.C).Cur).Win).Bits).length c187), (vi (((F_laws_toChan x_a.C).Old).N)), (vs a191 (((F_laws_toChan x_a.C).Old).Key).length c192), (vi (((F_laws_toChan x_a.C).Old).Seq)), (vi ((((F_laws_toChan x_a.C).Old).Win).Top)), (vs a196 ((((F_laws_toChan x_a.C).Old).Win).Bits).length c197), (vb ((F_laws_toChan x_a.C).HasOld)), (vi ((F_laws_toChan x_a.C).Until)), (vs a201 ((F_laws_toChan x_a.C).Next).length c202), (vb ((F_laws_toTimer x_a.T).On)), (vi ((F_laws_toTimer x_a.T).Due)), (vi ((F_laws_toTimer x_a.T).Wait)), (vi ((F_laws_toTimer x_a.T).Tries)), (vb ((F_laws_toTimer x_a.R).On)), (vi ((F_laws_toTimer x_a.R).Due)), (vi ((F_laws_toTimer x_a.R).Wait)), (vi ((F_laws_toTimer x_a.R).Tries)), (vi x_a.Last)] wN sizeOf_3 b226 ?_
 intro w20 k230 b231 z232
 have m233 := m228.ext k230 (fun k hk => by subst hk; exact Nat.le_trans (Nat.le_trans k74.size k80.size) p84)
 refine nx ?_
 refine lN [(vi x_a.Id), (vs a96 (cpB x_a.Psk).length c97), (vi ((F_laws_toAddr x_a.At).Host)), (vi ((F_laws_toAddr x_a.At).Port)), (vi x_a.St), (vs a123 (cpB x_a.Cn).length c124), (vi ((F_laws_toFrame x_a.Fin).Kind)), (vi ((F_laws_toFrame x_a.Fin).Id)), (vs a137 ((F_laws_toFrame x_a.Fin).Cn).length c138), (vs a142 ((F_laws_toFrame x_a.Fin).Sn).length c143), (vi ((F_laws_toFrame x_a.Fin).Tick)), (vs a147 ((F_laws_toFrame x_a.Fin).Cookie).length c148), (vs a152 ((F_laws_toFrame x_a.Fin).Proof).length c153), (vi ((F_laws_toFrame x_a.Fin).Epoch)), (vi ((F_laws_toFrame x_a.Fin).Seq)), (vs a157 ((F_laws_toFrame x_a.Fin).Body).length c158), (vs a162 ((F_laws_toFrame x_a.Fin).Tag).length c163), (vi ((F_laws_toChan x_a.C).Role)), (vs a176 ((F_laws_toChan x_a.C).Sn).length c177), (vi (((F_laws_toChan x_a.C).Cur).N)), (vs a181 (((F_laws_toChan x_a.C).Cur).Key).length c182), (vi (((F_laws_toChan x_a.C).Cur).Seq)), (vi ((((F_laws_toChan x_a.C).Cur).Win).Top)), (vs a186 ((((F_laws_toChan x_a.C).Cur).Win).Bits).length c187), (vi (((F_laws_toChan x_a.C).Old).N)), (vs a191 (((F_laws_toChan x_a.C).Old).Key).length c192), (vi (((F_laws_toChan x_a.C).Old).Seq)), (vi ((((F_laws_toChan x_a.C).Old).Win).Top)), (vs a196 ((((F_laws_toChan x_a.C).Old).Win).Bits).length c197), (vb ((F_laws_toChan x_a.C).HasOld)), (vi ((F_laws_toChan x_a.C).Until)), (vs a201 ((F_laws_toChan x_a.C).Next).length c202), (vb ((F_laws_toTimer x_a.T).On)), (vi ((F_laws_toTimer x_a.T).Due)), (vi ((F_laws_toTimer x_a.T).Wait)), (vi ((F_laws_toTimer x_a.T).Tries)), (vb ((F_laws_toTimer x_a.R).On)), (vi ((F_laws_toTimer x_a.R).Due)), (vi ((F_laws_toTimer x_a.R).Wait)), (vi ((F_laws_toTimer x_a.R).Tries)), (vi x_a.Last)] wN isAgg_98 sizeOf_98 b231 ?_
 have b234 := ((((((((((((((((((b81.kp k86).ch k90 (Nat.ne_of_lt (Nat.lt_of_lt_of_le p79 (Nat.le_trans (Nat.le_refl _) p84)))).kp k95).ch k104 (Nat.ne_of_lt (Nat.lt_of_lt_of_le p79 (Nat.le_trans (Nat.le_refl _) p84)))).kp k109).ch k112 (Nat.ne_of_lt (Nat.lt_of_lt_of_le p79 (Nat.le_trans (Nat.le_refl _) p84)))).ch k117 (Nat.ne_of_lt (Nat.lt_of_lt_of_le p79 (Nat.le_trans (Nat.le_refl _) p84)))).kp k122).ch k131 (Nat.ne_of_lt (Nat.lt_of_lt_of_le p79 (Nat.le_trans (Nat.le_refl _) p84)))).kp k136).ch k170 (Nat.ne_of_lt (Nat.lt_of_lt_of_le p79 (Nat.le_trans (Nat.le_refl _) p84)))).kp k175).ch k209 (Nat.ne_of_lt (Nat.lt_of_lt_of_le p79 (Nat.le_trans (Nat.le_refl _) p84)))).kp k214).ch k217 (Nat.ne_of_lt (Nat.lt_of_lt_of_le p79 (Nat.le_trans (Nat.le_refl _) p84)))).kp k222).ch k225 (Nat.ne_of_lt (Nat.lt_of_lt_of_le p79 (Nat.le_trans (Nat.le_refl _) p84)))).ch k230 (Nat.ne_of_lt (Nat.lt_of_lt_of_le p79 (Nat.le_trans (Nat.le_refl _) p84))))
 refine st (va [(vi x_a.Id), (vs a96 (cpB x_a.Psk).length c97), (vi ((F_laws_toAddr x_a.At).Host)), (vi ((F_laws_toAddr x_a.At).Port)), (vi x_a.St), (vs a123 (cpB x_a.Cn).length c124), (vi ((F_laws_toFrame x_a.Fin).Kind)), (vi ((F_laws_toFrame x_a.Fin).Id)), (vs a137 ((F_laws_toFrame x_a.Fin).Cn).length c138), (vs a142 ((F_laws_toFrame x_a.Fin).Sn).length c143), (vi ((F_laws_toFrame x_a.Fin).Tick)), (vs a147 ((F_laws_toFrame x_a.Fin).Cookie).length c148), (vs a152 ((F_laws_toFrame x_a.Fin).Proof).length c153), (vi ((F_laws_toFrame x_a.Fin).Epoch)), (vi ((F_laws_toFrame x_a.Fin).Seq)), (vs a157 ((F_laws_toFrame x_a.Fin).Body).length c158), (vs a162 ((F_laws_toFrame x_a.Fin).Tag).length c163), (vi ((F_laws_toChan x_a.C).Role)), (vs a176 ((F_laws_toChan x_a.C).Sn).length c177), (vi (((F_laws_toChan x_a.C).Cur).N)), (vs a181 (((F_laws_toChan x_a.C).Cur).Key).length c182), (vi (((F_laws_toChan x_a.C).Cur).Seq)), (vi ((((F_laws_toChan x_a.C).Cur).Win).Top)), (vs a186 ((((F_laws_toChan x_a.C).Cur).Win).Bits).length c187), (vi (((F_laws_toChan x_a.C).Old).N)), (vs a191 (((F_laws_toChan x_a.C).Old).Key).length c192), (vi (((F_laws_toChan x_a.C).Old).Seq)), (vi ((((F_laws_toChan x_a.C).Old).Win).Top)), (vs a196 ((((F_laws_toChan x_a.C).Old).Win).Bits).length c197), (vb ((F_laws_toChan x_a.C).HasOld)), (vi ((F_laws_toChan x_a.C).Until)), (vs a201 ((F_laws_toChan x_a.C).Next).length c202), (vb ((F_laws_toTimer x_a.T).On)), (vi ((F_laws_toTimer x_a.T).Due)), (vi ((F_laws_toTimer x_a.T).Wait)), (vi ((F_laws_toTimer x_a.T).Tries)), (vb ((F_laws_toTimer x_a.R).On)), (vi ((F_laws_toTimer x_a.R).Due)), (vi ((F_laws_toTimer x_a.R).Wait)), (vi ((F_laws_toTimer x_a.R).Tries)), (vi x_a.Last)]) [(vi x_a.Id), (vs a96 (cpB x_a.Psk).length c97), (vi ((F_laws_toAddr x_a.At).Host)), (vi ((F_laws_toAddr x_a.At).Port)), (vi x_a.St), (vs a123 (cpB x_a.Cn).length c124), (vi ((F_laws_toFrame x_a.Fin).Kind)), (vi ((F_laws_toFrame x_a.Fin).Id)), (vs a137 ((F_laws_toFrame x_a.Fin).Cn).length c138), (vs a142 ((F_laws_toFrame x_a.Fin).Sn).length c143), (vi ((F_laws_toFrame x_a.Fin).Tick)), (vs a147 ((F_laws_toFrame x_a.Fin).Cookie).length c148), (vs a152 ((F_laws_toFrame x_a.Fin).Proof).length c153), (vi ((F_laws_toFrame x_a.Fin).Epoch)), (vi ((F_laws_toFrame x_a.Fin).Seq)), (vs a157 ((F_laws_toFrame x_a.Fin).Body).length c158), (vs a162 ((F_laws_toFrame x_a.Fin).Tag).length c163), (vi ((F_laws_toChan x_a.C).Role)), (vs a176 ((F_laws_toChan x_a.C).Sn).length c177), (vi (((F_laws_toChan x_a.C).Cur).N)), (vs a181 (((F_laws_toChan x_a.C).Cur).Key).length c182), (vi (((F_laws_toChan x_a.C).Cur).Seq)), (vi ((((F_laws_toChan x_a.C).Cur).Win).Top)), (vs a186 ((((F_laws_toChan x_a.C).Cur).Win).Bits).length c187), (vi (((F_laws_toChan x_a.C).Old).N)), (vs a191 (((F_laws_toChan x_a.C).Old).Key).length c192), (vi (((F_laws_toChan x_a.C).Old).Seq)), (vi ((((F_laws_toChan x_a.C).Old).Win).Top)), (vs a196 ((((F_laws_toChan x_a.C).Old).Win).Bits).length c197), (vb ((F_laws_toChan x_a.C).HasOld)), (vi ((F_laws_toChan x_a.C).Until)), (vs a201 ((F_laws_toChan x_a.C).Next).length c202), (vb ((F_laws_toTimer x_a.T).On)), (vi ((F_laws_toTimer x_a.T).Due)), (vi ((F_laws_toTimer x_a.T).Wait)), (vi ((F_laws_toTimer x_a.T).Tries)), (vb ((F_laws_toTimer x_a.R).On)), (vi ((F_laws_toTimer x_a.R).Due)), (vi ((F_laws_toTimer x_a.R).Wait)), (vi ((F_laws_toTimer x_a.R).Tries)), (vi x_a.Last)] [(vi x_a.Id), (vs a96 (cpB x_a.Psk).length c97), (vi ((F_laws_toAddr x_a.At).Host)), (vi ((F_laws_toAddr x_a.At).Port)), (vi x_a.St), (vs a123 (cpB x_a.Cn).length c124), (vi ((F_laws_toFrame x_a.Fin).Kind)), (vi ((F_laws_toFrame x_a.Fin).Id)), (vs a137 ((F_laws_toFrame x_a.Fin).Cn).length c138), (vs a142 ((F_laws_toFrame x_a.Fin).Sn).length c143), (vi ((F_laws_toFrame x_a.Fin).Tick)), (vs a147 ((F_laws_toFrame x_a.Fin).Cookie).length c148), (vs a152 ((F_laws_toFrame x_a.Fin).Proof).length c153), (vi ((F_laws_toFrame x_a.Fin).Epoch)), (vi ((F_laws_toFrame x_a.Fin).Seq)), (vs a157 ((F_laws_toFrame x_a.Fin).Body).length c158), (vs a162 ((F_laws_toFrame x_a.Fin).Tag).length c163), (vi ((F_laws_toChan x_a.C).Role)), (vs a176 ((F_laws_toChan x_a.C).Sn).length c177), (vi (((F_laws_toChan x_a.C).Cur).N)), (vs a181 (((F_laws_toChan x_a.C).Cur).Key).length c182), (vi (((F_laws_toChan x_a.C).Cur).Seq)), (vi ((((F_laws_toChan x_a.C).Cur).Win).Top)), (vs a186 ((((F_laws_toChan x_a.C).Cur).Win).Bits).length c187), (vi (((F_laws_toChan x_a.C).Old).N)), (vs a191 (((F_laws_toChan x_a.C).Old).Key).length c192), (vi (((F_laws_toChan x_a.C).Old).Seq)), (vi ((((F_laws_toChan x_a.C).Old).Win).Top)), (vs a196 ((((F_laws_toChan x_a.C).Old).Win).Bits).length c197), (vb ((F_laws_toChan x_a.C).HasOld)), (vi ((F_laws_toChan x_a.C).Until)), (vs a201 ((F_laws_toChan x_a.C).Next).length c202), (vb ((F_laws_toTimer x_a.T).On)), (vi ((F_laws_toTimer x_a.T).Due)), (vi ((F_laws_toTimer x_a.T).Wait)), (vi ((F_laws_toTimer x_a.T).Tries)), (vb ((F_laws_toTimer x_a.R).On)), (vi ((F_laws_toTimer x_a.R).Due)), (vi ((F_laws_toTimer x_a.R).Wait)), (vi ((F_laws_toTimer x_a.R).Tries)), (vi x_a.Last)] wN sizeOf_98 b234 ?_
 intro w21 k235 b236 z237
 have m238 := m233.ext k235 (fun k hk => by subst hk; exact Nat.le_trans k74.size p78)
 refine wl_nil <| wq_then <| wc_ret ?_
 have o239 := (own_ch (own_ch (own_ch (own_kp (own_ch (own_kp (own_ch (own_kp (own_ch (own_kp (own_ch (own_kp (own_ch (own_ch (own_kp (own_ch o98 k104 (fun g hg hlt hk => by have h1 := (own_lt o98 g hg).1; have h2 := Nat.lt_of_lt_of_le p85 k90.size; omega)) k109) k112 (fun g hg hlt hk => by have h1 := (own_lt o98 g hg).1; have h2 := Nat.lt_of_lt_of_le p85 k90.size; omega)) k117 (fun g hg hlt hk => by have h1 := (own_lt o98 g hg).1; have h2 := Nat.lt_of_lt_of_le p85 k90.size; omega)) k122) k131 (fun g hg hlt hk => by have h1 := (own_lt o98 g hg).1; have h2 := Nat.lt_of_lt_of_le p85 k90.size; omega)) k136) k170 (fun g hg hlt hk => by have h1 := (own_lt o98 g hg).1; have h2 := Nat.lt_of_lt_of_le p85 k90.size; omega)) k175) k209 (fun g hg hlt hk => by have h1 := (own_lt o98 g hg).1; have h2 := Nat.lt_of_lt_of_le p85 k90.size; omega)) k214) k217 (fun g hg hlt hk => by have h1 := (own_lt o98 g hg).1; have h2 := Nat.lt_of_lt_of_le p85 k90.size; omega)) k222) k225 (fun g hg hlt hk => by have h1 := (own_lt o98 g hg).1; have h2 := Nat.lt_of_lt_of_le p85 k90.size; omega)) k230 (fun g hg hlt hk => by have h1 := (own_lt o98 g hg).1; have h2 := Nat.lt_of_lt_of_le p85 k90.size; omega)) k235 (fun g hg hlt hk => by have h1 := (own_lt o98 g hg).1; have h2 := Nat.lt_of_lt_of_le p79 (Nat.le_trans k86.size k90.size); omega))
 have o240 := (own_ch (own_ch (own_ch (own_kp (own_ch (own_kp (own_ch (own_kp (own_ch (own_kp (own_ch o125 k131 (fun g hg hlt hk => by have h1 := (own_lt o125 g hg).1; have h2 := Nat.lt_of_lt_of_le p85 (Nat.le_trans (Nat.le_trans (Nat.le_trans (Nat.le_trans (Nat.le_trans k90.size k95.size) k104.size) k109.size) k112.size) k117.size); omega)) k136) k170 (fun g hg hlt hk => by have h1 := (own_lt o125 g hg).1; have h2 := Nat.lt_of_lt_of_le p85 (Nat.le_trans (Nat.le_trans (Nat.le_trans (Nat.le_trans (Nat.le_trans k90.size k95.size) k104.size) k109.size) k112.size) k117.size); omega)) k175) k209 (fun g hg hlt hk => by have h1 := (own_lt o125 g hg).1; have h2 := Nat.lt_of_lt_of_le p85 (Nat.le_trans (Nat.le_trans (Nat.le_trans (Nat.le_trans (Nat.le_trans k90.size k95.size) k104.size) k109.size) k112.size) k117.size); omega)) k214) k217 (fun g hg hlt hk => by have h1 := (own_lt o125 g hg).1; have h2 := Nat.lt_of_lt_of_le p85 (Nat.le_trans (Nat.le_trans (Nat.le_trans (Nat.le_trans (Nat.le_trans k90.size k95.size) k104.size) k109.size) k112.size) k117.size); omega)) k222) k225 (fun g hg hlt hk => by have h1 := (own_lt o125 g hg).1; have h2 := Nat.lt_of_lt_of_le p85 (Nat.le_trans (Nat.le_trans (Nat.le_trans (Nat.le_trans (Nat.le_trans k90.size k95.size) k104.size) k109.size) k112.size) k117.size); omega)) k230 (fun g hg hlt hk => by have h1 := (own_lt o125 g hg).1; have h2 := Nat.lt_of_lt_of_le p85 (Nat.le_trans (Nat.le_trans (Nat.le_trans (Nat.le_trans (Nat.le_trans k90.size k95.size) k104.size) k109.size) k112.size) k117.size); omega)) k235 (fun g hg hlt hk => by have h1 := (own_lt o125 g hg).1; have h2 := Nat.lt_of_lt_of_le p79 (Nat.le_trans (Nat.le_trans (Nat.le_trans (Nat.le_trans (Nat.le_trans (Nat.le_trans k86.size k90.size) k95.size) k104.size) k109.size) k112.size) k117.size); omega))
 have o241 := (own_ch (own_ch (own_ch (own_kp (own_ch (own_kp (own_ch (own_kp (own_ch o139 k170 (fun g hg hlt hk => by have h1 := (own_lt o139 g hg).1; have h2 := Nat.lt_of_lt_of_le p85 (Nat.le_trans (Nat.le_trans (Nat.le_trans (Nat.le_trans (Nat.le_trans (Nat.le_trans (Nat.le_trans k90.size k95.size) k104.size) k109.size) k112.size) k117.size) k122.size) k131.size); omega)) k175) k209 (fun g hg hlt hk => by have h1 := (own_lt o139 g hg).1; have h2 := Nat.lt_of_lt_of_le p85 (Nat.le_trans (Nat.le_trans (Nat.le_trans (Nat.le_trans (Nat.le_trans (Nat.le_trans (Nat.le_trans k90.size k95.size) k104.size) k109.size) k112.size) k117.size) k122.size) k131.size); omega)) k214) k217 (fun g hg hlt hk => by have h1 := (own_lt o139 g hg).1; have h2 := Nat.lt_of_lt_of_le p85 (Nat.le_trans (Nat.le_trans (Nat.le_trans (Nat.le_trans (Nat.le_trans (Nat.le_trans (Nat.le_trans k90.size k95.size) k104.size) k109.size) k112.size) k117.size) k122.size) k131.size); omega)) k222) k225 (fun g hg hlt hk => by have h1 := (own_lt o139 g hg).1; have h2 := Nat.lt_of_lt_of_le p85 (Nat.le_trans (Nat.le_trans (Nat.le_trans (Nat.le_trans (Nat.le_trans (Nat.le_trans (Nat.le_trans k90.size k95.size) k104.size) k109.size) k112.size) k117.size) k122.size) k131.size); omega)) k230 (fun g hg hlt hk => by have h1 := (own_lt o139 g hg).1; have h2 := Nat.lt_of_lt_of_le p85 (Nat.le_trans (Nat.le_trans (Nat.le_trans (Nat.le_trans (Nat.le_trans (Nat.le_trans (Nat.le_trans k90.size k95.size) k104.size) k109.size) k112.size) k117.size) k122.size) k131.size); omega)) k235 (fun g hg hlt hk => by have h1 := (own_lt o139 g hg).1; have h2 := Nat.lt_of_lt_of_le p79 (Nat.le_trans (Nat.le_trans (Nat.le_trans (Nat.le_trans (Nat.le_trans (Nat.le_trans (Nat.le_trans (Nat.le_trans k86.size k90.size) k95.size) k104.size) k109.size) k112.size) k117.size) k122.size) k131.size); omega))
 have o242 := (own_ch (own_ch (own_ch (own_kp (own_ch (own_kp (own_ch (own_kp (own_ch o144 k170 (fun g hg hlt hk => by have h1 := (own_lt o144 g hg).1; have h2 := Nat.lt_of_lt_of_le p85 (Nat.le_trans (Nat.le_trans (Nat.le_trans (Nat.le_trans (Nat.le_trans (Nat.le_trans (Nat.le_trans k90.size k95.size) k104.size) k109.size) k112.size) k117.size) k122.size) k131.size); omega)) k175) k209 (fun g hg hlt hk => by have h1 := (own_lt o144 g hg).1; have h2 := Nat.lt_of_lt_of_le p85 (Nat.le_trans (Nat.le_trans (Nat.le_trans (Nat.le_trans (Nat.le_trans (Nat.le_trans (Nat.le_trans k90.size k95.size) k104.size) k109.size) k112.size) k117.size) k122.size) k131.size); omega)) k214) k217 (fun g hg hlt hk => by have h1 := (own_lt o144 g hg).1; have h2 := Nat.lt_of_lt_of_le p85 (Nat.le_trans (Nat.le_trans (Nat.le_trans (Nat.le_trans (Nat.le_trans (Nat.le_trans (Nat.le_trans k90.size k95.size) k104.size) k109.size) k112.size) k117.size) k122.size) k131.size); omega)) k222) k225 (fun g hg hlt hk => by have h1 := (own_lt o144 g hg).1; have h2 := Nat.lt_of_lt_of_le p85 (Nat.le_trans (Nat.le_trans (Nat.le_trans (Nat.le_trans (Nat.le_trans (Nat.le_trans (Nat.le_trans k90.size k95.size) k104.size) k109.size) k112.size) k117.size) k122.size) k131.size); omega)) k230 (fun g hg hlt hk => by have h1 := (own_lt o144 g hg).1; have h2 := Nat.lt_of_lt_of_le p85 (Nat.le_trans (Nat.le_trans (Nat.le_trans (Nat.le_trans (Nat.le_trans (Nat.le_trans (Nat.le_trans k90.size k95.size) k104.size) k109.size) k112.size) k117.size) k122.size) k131.size); omega)) k235 (fun g hg hlt hk => by have h1 := (own_lt o144 g hg).1; have h2 := Nat.lt_of_lt_of_le p79 (Nat.le_trans (Nat.le_trans (Nat.le_trans (Nat.le_trans (Nat.le_trans (Nat.le_trans (Nat.le_trans (Nat.le_trans k86.size k90.size) k95.size) k104.size) k109.size) k112.size) k117.size) k122.size) k131.size); omega))
 have o243 := (own_ch (own_ch (own_ch (own_kp (own_ch (own_kp (own_ch (own_kp (own_ch o149 k170 (fun g hg hlt hk => by have h1 := (own_lt o149 g hg).1; have h2 := Nat.lt_of_lt_of_le p85 (Nat.le_trans (Nat.le_trans (Nat.le_trans (Nat.le_trans (Nat.le_trans (Nat.le_trans (Nat.le_trans k90.size k95.size) k104.size) k109.size) k112.size) k117.size) k122.size) k131.size); omega)) k175) k209 (fun g hg hlt hk => by have h1 := (own_lt o149 g hg).1; have h2 := Nat.lt_of_lt_of_le p85 (Nat.le_trans (Nat.le_trans (Nat.le_trans (Nat.le_trans (Nat.le_trans (Nat.le_trans (Nat.le_trans k90.size k95.size) k104.size) k109.size) k112.size) k117.size) k122.size) k131.size); omega)) k214) k217 (fun g hg hlt hk => by have h1 := (own_lt o149 g hg).1; have h2 := Nat.lt_of_lt_of_le p85 (Nat.le_trans (Nat.le_trans (Nat.le_trans (Nat.le_trans (Nat.le_trans (Nat.le_trans (Nat.le_trans k90.size k95.size) k104.size) k109.size) k112.size) k117.size) k122.size) k131.size); omega)) k222) k225 (fun g hg hlt hk => by have h1 := (own_lt o149 g hg).1; have h2 := Nat.lt_of_lt_of_le p85 (Nat.le_trans (Nat.le_trans (Nat.le_trans (Nat.le_trans (Nat.le_trans (Nat.le_trans (Nat.le_trans k90.size k95.size) k104.size) k109.size) k112.size) k117.size) k122.size) k131.size); omega)) k230 (fun g hg hlt hk => by have h1 := (own_lt o149 g hg).1; have h2 := Nat.lt_of_lt_of_le p85 (Nat.le_trans (Nat.le_trans (Nat.le_trans (Nat.le_trans (Nat.le_trans (Nat.le_trans (Nat.le_trans k90.size k95.size) k104.size) k109.size) k112.size) k117.size) k122.size) k131.size); omega)) k235 (fun g hg hlt hk => by have h1 := (own_lt o149 g hg).1; have h2 := Nat.lt_of_lt_of_le p79 (Nat.le_trans (Nat.le_trans (Nat.le_trans (Nat.le_trans (Nat.le_trans (Nat.le_trans (Nat.le_trans (Nat.le_trans k86.size k90.size) k95.size) k104.size) k109.size) k112.size) k117.size) k122.size) k131.size); omega))
 have o244 := (own_ch (own_ch (own_ch (own_kp (own_ch (own_kp (own_ch (own_kp (own_ch o154 k170 (fun g hg hlt hk => by have h1 := (own_lt o154 g hg).1; have h2 := Nat.lt_of_lt_of_le p85 (Nat.le_trans (Nat.le_trans (Nat.le_trans (Nat.le_trans (Nat.le_trans (Nat.le_trans (Nat.le_trans k90.size k95.size) k104.size) k109.size) k112.size) k117.size) k122.size) k131.size); omega)) k175) k209 (fun g hg hlt hk => by have h1 := (own_lt o154 g hg).1; have h2 := Nat.lt_of_lt_of_le p85 (Nat.le_trans (Nat.le_trans (Nat.le_trans (Nat.le_trans (Nat.le_trans (Nat.le_trans (Nat.le_trans k90.size k95.size) k104.size) k109.size) k112.size) k117.size) k122.size) k131.size); omega)) k214) k217 (fun g hg hlt hk => by have h1 := (own_lt o154 g hg).1; have h2 := Nat.lt_of_lt_of_le p85 (Nat.le_trans (Nat.le_trans (Nat.le_trans (Nat.le_trans (Nat.le_trans (Nat.le_trans (Nat.le_trans k90.size k95.size) k104.size) k109.size) k112.size) k117.size) k122.size) k131.size); omega)) k222) k225 (fun g hg hlt hk => by have h1 := (own_lt o154 g hg).1; have h2 := Nat.lt_of_lt_of_le p85 (Nat.le_trans (Nat.le_trans (Nat.le_trans (Nat.le_trans (Nat.le_trans (Nat.le_trans (Nat.le_trans k90.size k95.size) k104.size) k109.size) k112.size) k117.size) k122.size) k131.size); omega)) k230 (fun g hg hlt hk => by have h1 := (own_lt o154 g hg).1; have h2 := Nat.lt_of_lt_of_le p85 (Nat.le_trans (Nat.le_trans (Nat.le_trans (Nat.le_trans (Nat.le_trans (Nat.le_trans (Nat.le_trans k90.size k95.size) k104.size) k109.size) k112.size) k117.size) k122.size) k131.size); omega)) k235 (fun g hg hlt hk => by have h1 := (own_lt o154 g hg).1; have h2 := Nat.lt_of_lt_of_le p79 (Nat.le_trans (Nat.le_trans (Nat.le_trans (Nat.le_trans (Nat.le_trans (Nat.le_trans (Nat.le_trans (Nat.le_trans k86.size k90.size) k95.size) k104.size) k109.size) k112.size) k117.size) k122.size) k131.size); omega))
 have o245 := (own_ch (own_ch (own_ch (own_kp (own_ch (own_kp (own_ch (own_kp (own_ch o159 k170 (fun g hg hlt hk => by have h1 := (own_lt o159 g hg).1; have h2 := Nat.lt_of_lt_of_le p85 (Nat.le_trans (Nat.le_trans (Nat.le_trans (Nat.le_trans (Nat.le_trans (Nat.le_trans (Nat.le_trans k90.size k95.size) k104.size) k109.size) k112.size) k117.size) k122.size) k131.size); omega)) k175) k209 (fun g hg hlt hk => by have h1 := (own_lt o159 g hg).1; have h2 := Nat.lt_of_lt_of_le p85 (Nat.le_trans (Nat.le_trans (Nat.le_trans (Nat.le_trans (Nat.le_trans (Nat.le_trans (Nat.le_trans k90.size k95.size) k104.size) k109.size) k112.size) k117.size) k122.size) k131.size); omega)) k214) k217 (fun g hg hlt hk => by have h1 := (own_lt o159 g hg).1; have h2 := Nat.lt_of_lt_of_le p85 (Nat.le_trans (Nat.le_trans (Nat.le_trans (Nat.le_trans (Nat.le_trans (Nat.le_trans (Nat.le_trans k90.size k95.size) k104.size) k109.size) k112.size) k117.size) k122.size) k131.size); omega)) k222) k225 (fun g hg hlt hk => by have h1 := (own_lt o159 g hg).1; have h2 := Nat.lt_of_lt_of_le p85 (Nat.le_trans (Nat.le_trans (Nat.le_trans (Nat.le_trans (Nat.le_trans (Nat.le_trans (Nat.le_trans k90.size k95.size) k104.size) k109.size) k112.size) k117.size) k122.size) k131.size); omega)) k230 (fun g hg hlt hk => by have h1 := (own_lt o159 g hg).1; have h2 := Nat.lt_of_lt_of_le p85 (Nat.le_trans (Nat.le_trans (Nat.le_trans (Nat.le_trans (Nat.le_trans (Nat.le_trans (Nat.le_trans k90.size k95.size) k104.size) k109.size) k112.size) k117.size) k122.size) k131.size); omega)) k235 (fun g hg hlt hk => by have h1 := (own_lt o159 g hg).1; have h2 := Nat.lt_of_lt_of_le p79 (Nat.le_trans (Nat.le_trans (Nat.le_trans (Nat.le_trans (Nat.le_trans (Nat.le_trans (Nat.le_trans (Nat.le_trans k86.size k90.size) k95.size) k104.size) k109.size) k112.size) k117.size) k122.size) k131.size); omega))
 have o246 := (own_ch (own_ch (own_ch (own_kp (own_ch (own_kp (own_ch (own_kp (own_ch o164 k170 (fun g hg hlt hk => by have h1 := (own_lt o164 g hg).1; have h2 := Nat.lt_of_lt_of_le p85 (Nat.le_trans (Nat.le_trans (Nat.le_trans (Nat.le_trans (Nat.le_trans (Nat.le_trans (Nat.le_trans k90.size k95.size) k104.size) k109.size) k112.size) k117.size) k122.size) k131.size); omega)) k175) k209 (fun g hg hlt hk => by have h1 := (own_lt o164 g hg).1; have h2 := Nat.lt_of_lt_of_le p85 (Nat.le_trans (Nat.le_trans (Nat.le_trans (Nat.le_trans (Nat.le_trans (Nat.le_trans (Nat.le_trans k90.size k95.size) k104.size) k109.size) k112.size) k117.size) k122.size) k131.size); omega)) k214) k217 (fun g hg hlt hk => by have h1 := (own_lt o164 g hg).1; have h2 := Nat.lt_of_lt_of_le p85 (Nat.le_trans (Nat.le_trans (Nat.le_trans (Nat.le_trans (Nat.le_trans (Nat.le_trans (Nat.le_trans k90.size k95.size) k104.size) k109.size) k112.size) k117.size) k122.size) k131.size); omega)) k222) k225 (fun g hg hlt hk => by have h1 := (own_lt o164 g hg).1; have h2 := Nat.lt_of_lt_of_le p85 (Nat.le_trans (Nat.le_trans (Nat.le_trans (Nat.le_trans (Nat.le_trans (Nat.le_trans (Nat.le_trans k90.size k95.size) k104.size) k109.size) k112.size) k117.size) k122.size) k131.size); omega)) k230 (fun g hg hlt hk => by have h1 := (own_lt o164 g hg).1; have h2 := Nat.lt_of_lt_of_le p85 (Nat.le_trans (Nat.le_trans (Nat.le_trans (Nat.le_trans (Nat.le_trans (Nat.le_trans (Nat.le_trans k90.size k95.size) k104.size) k109.size) k112.size) k117.size) k122.size) k131.size); omega)) k235 (fun g hg hlt hk => by have h1 := (own_lt o164 g hg).1; have h2 := Nat.lt_of_lt_of_le p79 (Nat.le_trans (Nat.le_trans (Nat.le_trans (Nat.le_trans (Nat.le_trans (Nat.le_trans (Nat.le_trans (Nat.le_trans k86.size k90.size) k95.size) k104.size) k109.size) k112.size) k117.size) k122.size) k131.size); omega))
 have o247 := (own_ch (own_ch (own_ch (own_kp (own_ch (own_kp (own_ch o178 k209 (fun g hg hlt hk => by have h1 := (own_lt o178 g hg).1; have h2 := Nat.lt_of_lt_of_le p85 (Nat.le_trans (Nat.le_trans (Nat.le_trans (Nat.le_trans (Nat.le_trans (Nat.le_trans (Nat.le_trans (Nat.le_trans (Nat.le_trans k90.size k95.size) k104.size) k109.size) k112.size) k117.size) k122.size) k131.size) k136.size) k170.size); omega)) k214) k217 (fun g hg hlt hk => by have h1 := (own_lt o178 g hg).1; have h2 := Nat.lt_of_lt_of_le p85 (Nat.le_trans (Nat.le_trans (Nat.le_trans (Nat.le_trans (Nat.le_trans (Nat.le_trans (Nat.le_trans (Nat.le_trans (Nat.le_trans k90.size k95.size) k104.size) k109.size) k112.size) k117.size) k122.size) k131.size) k136.size) k170.size); omega)) k222) k225 (fun g hg hlt hk => by have h1 := (own_lt o178 g hg).1; have h2 := Nat.lt_of_lt_of_le p85 (Nat.le_trans (Nat.le_trans (Nat.le_trans (Nat.le_trans (Nat.le_trans (Nat.le_trans (Nat.le_trans (Nat.le_trans (Nat.le_trans k90.size k95.size) k104.size) k109.size) k112.size) k117.size) k122.size) k131.size) k136.size) k170.size); omega)) k230 (fun g hg hlt hk => by have h1 := (own_lt o178 g hg).1; have h2 := Nat.lt_of_lt_of_le p85 (Nat.le_trans (Nat.le_trans (Nat.le_trans (Nat.le_trans (Nat.le_trans (Nat.le_trans (Nat.le_trans (Nat.le_trans (Nat.le_trans k90.size k95.size) k104.size) k109.size) k112.size) k117.size) k122.size) k131.size) k136.size) k170.size); omega)) k235 (fun g hg hlt hk => by have h1 := (own_lt o178 g hg).1; have h2 := Nat.lt_of_lt_of_le p79 (Nat.le_trans (Nat.le_trans (Nat.le_trans (Nat.le_trans (Nat.le_trans (Nat.le_trans (Nat.le_trans (Nat.le_trans (Nat.le_trans (Nat.le_trans k86.size k90.size) k95.size) k104.size) k109.size) k112.size) k117.size) k122.size) k131.size) k136.size) k170.size); omega))
 have o248 := (own_ch (own_ch (own_ch (own_kp (own_ch (own_kp (own_ch o183 k209 (fun g hg hlt hk => by have h1 := (own_lt o183 g hg).1; have h2 := Nat.lt_of_lt_of_le p85 (Nat.le_trans (Nat.le_trans (Nat.le_trans (Nat.le_trans (Nat.le_trans (Nat.le_trans (Nat.le_trans (Nat.le_trans (Nat.le_trans k90.size k95.size) k104.size) k109.size) k112.size) k117.size) k122.size) k131.size) k136.size) k170.size); omega)) k214) k217 (fun g hg hlt hk => by have h1 := (own_lt o183 g hg).1; have h2 := Nat.lt_of_lt_of_le p85 (Nat.le_trans (Nat.le_trans (Nat.le_trans (Nat.le_trans (Nat.le_trans (Nat.le_trans (Nat.le_trans (Nat.le_trans (Nat.le_trans k90.size k95.size) k104.size) k109.size) k112.size) k117.size) k122.size) k131.size) k136.size) k170.size); omega)) k222) k225 (fun g hg hlt hk => by have h1 := (own_lt o183 g hg).1; have h2 := Nat.lt_of_lt_of_le p85 (Nat.le_trans (Nat.le_trans (Nat.le_trans (Nat.le_trans (Nat.le_trans (Nat.le_trans (Nat.le_trans (Nat.le_trans (Nat.le_trans k90.size k95.size) k104.size) k109.size) k112.size) k117.size) k122.size) k131.size) k136.size) k170.size); omega)) k230 (fun g hg hlt hk => by have h1 := (own_lt o183 g hg).1; have h2 := Nat.lt_of_lt_of_le p85 (Nat.le_trans (Nat.le_trans (Nat.le_trans (Nat.le_trans (Nat.le_trans (Nat.le_trans (Nat.le_trans (Nat.le_trans (Nat.le_trans k90.size k95.size) k104.size) k109.size) k112.size) k117.size) k122.size) k131.size) k136.size) k170.size); omega)) k235 (fun g hg hlt hk => by have h1 := (own_lt o183 g hg).1; have h2 := Nat.lt_of_lt_of_le p79 (Nat.le_trans (Nat.le_trans (Nat.le_trans (Nat.le_trans (Nat.le_trans (Nat.le_trans (Nat.le_trans (Nat.le_trans (Nat.le_trans (Nat.le_trans k86.size k90.size) k95.size) k104.size) k109.size) k112.size) k117.size) k122.size) k131.size) k136.size) k170.size); omega))
 have o249 := (own_ch (own_ch (own_ch (own_kp (own_ch (own_kp (own_ch o188 k209 (fun g hg hlt hk => by have h1 := (own_lt o188 g hg).1; have h2 := Nat.lt_of_lt_of_le p85 (Nat.le_trans (Nat.le_trans (Nat.le_trans (Nat.le_trans (Nat.le_trans (Nat.le_trans (Nat.le_trans (Nat.le_trans (Nat.le_trans k90.size k95.size) k104.size) k109.size) k112.size) k117.size) k122.size) k131.size) k136.size) k170.size); omega)) k214) k217 (fun g hg hlt hk => by have h1 := (own_lt o188 g hg).1; have h2 := Nat.lt_of_lt_of_le p85 (Nat.le_trans (Nat.le_trans (Nat.le_trans (Nat.le_trans (Nat.le_trans (Nat.le_trans (Nat.le_trans (Nat.le_trans (Nat.le_trans k90.size k95.size) k104.size) k109.size) k112.size) k117.size) k122.size) k131.size) k136.size) k170.size); omega)) k222) k225 (fun g hg hlt hk => by have h1 := (own_lt o188 g hg).1; have h2 := Nat.lt_of_lt_of_le p85 (Nat.le_trans (Nat.le_trans (Nat.le_trans (Nat.le_trans (Nat.le_trans (Nat.le_trans (Nat.le_trans (Nat.le_trans (Nat.le_trans k90.size k95.size) k104.size) k109.size) k112.size) k117.size) k122.size) k131.size) k136.size) k170.size); omega)) k230 (fun g hg hlt hk => by have h1 := (own_lt o188 g hg).1; have h2 := Nat.lt_of_lt_of_le p85 (Nat.le_trans (Nat.le_trans (Nat.le_trans (Nat.le_trans (Nat.le_trans (Nat.le_trans (Nat.le_trans (Nat.le_trans (Nat.le_trans k90.size k95.size) k104.size) k109.size) k112.size) k117.size) k122.size) k131.size) k136.size) k170.size); omega)) k235 (fun g hg hlt hk => by have h1 := (own_lt o188 g hg).1; have h2 := Nat.lt_of_lt_of_le p79 (Nat.le_trans (Nat.le_trans (Nat.le_trans (Nat.le_trans (Nat.le_trans (Nat.le_trans (Nat.le_trans (Nat.le_trans (Nat.le_trans (Nat.le_trans k86.size k90.size) k95.size) k104.size) k109.size) k112.size) k117.size) k122.size) k131.size) k136.size) k170.size); omega))
 have o250 := (own_ch (own_ch (own_ch (own_kp (own_ch (own_kp (own_ch o193 k209 (fun g hg hlt hk => by have h1 := (own_lt o193 g hg).1; have h2 := Nat.lt_of_lt_of_le p85 (Nat.le_trans (Nat.le_trans (Nat.le_trans (Nat.le_trans (Nat.le_trans (Nat.le_trans (Nat.le_trans (Nat.le_trans (Nat.le_trans k90.size k95.size) k104.size) k109.size) k112.size) k117.size) k122.size) k131.size) k136.size) k170.size); omega)) k214) k217 (fun g hg hlt hk => by have h1 := (own_lt o193 g hg).1; have h2 := Nat.lt_of_lt_of_le p85 (Nat.le_trans (Nat.le_trans (Nat.le_trans (Nat.le_trans (Nat.le_trans (Nat.le_trans (Nat.le_trans (Nat.le_trans (Nat.le_trans k90.size k95.size) k104.size) k109.size) k112.size) k117.size) k122.size) k131.size) k136.size) k170.size); omega)) k222) k225 (fun g hg hlt hk => by have h1 := (own_lt o193 g hg).1; have h2 := Nat.lt_of_lt_of_le p85 (Nat.le_trans (Nat.le_trans (Nat.le_trans (Nat.le_trans (Nat.le_trans (Nat.le_trans (Nat.le_trans (Nat.le_trans (Nat.le_trans k90.size k95.size) k104.size) k109.size) k112.size) k117.size) k122.size) k131.size) k136.size) k170.size); omega)) k230 (fun g hg hlt hk => by have h1 := (own_lt o193 g hg).1; have h2 := Nat.lt_of_lt_of_le p85 (Nat.le_trans (Nat.le_trans (Nat.le_trans (Nat.le_trans (Nat.le_trans (Nat.le_trans (Nat.le_trans (Nat.le_trans (Nat.le_trans k90.size k95.size) k104.size) k109.size) k112.size) k117.size) k122.size) k131.size) k136.size) k170.size); omega)) k235 (fun g hg hlt hk => by have h1 := (own_lt o193 g hg).1; have h2 := Nat.lt_of_lt_of_le p79 (Nat.le_trans (Nat.le_trans (Nat.le_trans (Nat.le_trans (Nat.le_trans (Nat.le_trans (Nat.le_trans (Nat.le_trans (Nat.le_trans (Nat.le_trans k86.size k90.size) k95.size) k104.size) k109.size) k112.size) k117.size) k122.size) k131.size) k136.size) k170.size); omega))
 have o251 := (own_ch (own_ch (own_ch (own_kp (own_ch (own_kp (own_ch o198 k209 (fun g hg hlt hk => by have h1 := (own_lt o198 g hg).1; have h2 := Nat.lt_of_lt_of_le p85 (Nat.le_trans (Nat.le_trans (Nat.le_trans (Nat.le_trans (Nat.le_trans (Nat.le_trans (Nat.le_trans (Nat.le_trans (Nat.le_trans k90.size k95.size) k104.size) k109.size) k112.size) k117.size) k122.size) k131.size) k136.size) k170.size); omega)) k214) k217 (fun g hg hlt hk => by have h1 := (own_lt o198 g hg).1; have h2 := Nat.lt_of_lt_of_le p85 (Nat.le_trans (Nat.le_trans (Nat.le_trans (Nat.le_trans (Nat.le_trans (Nat.le_trans (Nat.le_trans (Nat.le_trans (Nat.le_trans k90.size k95.size) k104.size) k109.size) k112.size) k117.size) k122.size) k131.size) k136.size) k170.size); omega)) k222) k225 (fun g hg hlt hk => by have h1 := (own_lt o198 g hg).1; have h2 := Nat.lt_of_lt_of_le p85 (Nat.le_trans (Nat.le_trans (Nat.le_trans (Nat.le_trans (Nat.le_trans (Nat.le_trans (Nat.le_trans (Nat.le_trans (Nat.le_trans k90.size k95.size) k104.size) k109.size) k112.size) k117.size) k122.size) k131.size) k136.size) k170.size); omega)) k230 (fun g hg hlt hk => by have h1 := (own_lt o198 g hg).1; have h2 := Nat.lt_of_lt_of_le p85 (Nat.le_trans (Nat.le_trans (Nat.le_trans (Nat.le_trans (Nat.le_trans (Nat.le_trans (Nat.le_trans (Nat.le_trans (Nat.le_trans k90.size k95.size) k104.size) k109.size) k112.size) k117.size) k122.size) k131.size) k136.size) k170.size); omega)) k235 (fun g hg hlt hk => by have h1 := (own_lt o198 g hg).1; have h2 := Nat.lt_of_lt_of_le p79 (Nat.le_trans (Nat.le_trans (Nat.le_trans (Nat.le_trans (Nat.le_trans (Nat.le_trans (Nat.le_trans (Nat.le_trans (Nat.le_trans (Nat.le_trans k86.size k90.size) k95.size) k104.size) k109.size) k112.size) k117.size) k122.size) k131.size) k136.size) k170.size); omega))
 have o252 := (own_ch (own_ch (own_ch (own_kp (own_ch (own_kp (own_ch o203 k209 (fun g hg hlt hk => by have h1 := (own_lt o203 g hg).1; have h2 := Nat.lt_of_lt_of_le p85 (Nat.le_trans (Nat.le_trans (Nat.le_trans (Nat.le_trans (Nat.le_trans (Nat.le_trans (Nat.le_trans (Nat.le_trans (Nat.le_trans k90.size k95.size) k104.size) k109.size) k112.size) k117.size) k122.size) k131.size) k136.size) k170.size); omega)) k214) k217 (fun g hg hlt hk => by have h1 := (own_lt o203 g hg).1; have h2 := Nat.lt_of_lt_of_le p85 (Nat.le_trans (Nat.le_trans (Nat.le_trans (Nat.le_trans (Nat.le_trans (Nat.le_trans (Nat.le_trans (Nat.le_trans (Nat.le_trans k90.size k95.size) k104.size) k109.size) k112.size) k117.size) k122.size) k131.size) k136.size) k170.size); omega)) k222) k225 (fun g hg hlt hk => by have h1 := (own_lt o203 g hg).1; have h2 := Nat.lt_of_lt_of_le p85 (Nat.le_trans (Nat.le_trans (Nat.le_trans (Nat.le_trans (Nat.le_trans (Nat.le_trans (Nat.le_trans (Nat.le_trans (Nat.le_trans k90.size k95.size) k104.size) k109.size) k112.size) k117.size) k122.size) k131.size) k136.size) k170.size); omega)) k230 (fun g hg hlt hk => by have h1 := (own_lt o203 g hg).1; have h2 := Nat.lt_of_lt_of_le p85 (Nat.le_trans (Nat.le_trans (Nat.le_trans (Nat.le_trans (Nat.le_trans (Nat.le_trans (Nat.le_trans (Nat.le_trans (Nat.le_trans k90.size k95.size) k104.size) k109.size) k112.size) k117.size) k122.size) k131.size) k136.size) k170.size); omega)) k235 (fun g hg hlt hk => by have h1 := (own_lt o203 g hg).1; have h2 := Nat.lt_of_lt_of_le p79 (Nat.le_trans (Nat.le_trans (Nat.le_trans (Nat.le_trans (Nat.le_trans (Nat.le_trans (Nat.le_trans (Nat.le_trans (Nat.le_trans (Nat.le_trans k86.size k90.size) k95.size) k104.size) k109.size) k112.size) k117.size) k122.size) k131.size) k136.size) k170.size); omega))
 refine ret_1 (.inl rfl) (va [(vi x_a.Id), (vs a96 (cpB x_a.Psk).length c97), (vi ((F_laws_toAddr x_a.At).Host)), (vi ((F_laws_toAddr x_a.At).Port)), (vi x_a.St), (vs a123 (cpB x_a.Cn).length c124), (vi ((F_laws_toFrame x_a.Fin).Kind)), (vi ((F_laws_toFrame x_a.Fin).Id)), (vs a137 ((F_laws_toFrame x_a.Fin).Cn).length c138), (vs a142 ((F_laws_toFrame x_a.Fin).Sn).length c143), (vi ((F_laws_toFrame x_a.Fin).Tick)), (vs a147 ((F_laws_toFrame x_a.Fin).Cookie).length c148), (vs a152 ((F_laws_toFrame x_a.Fin).Proof).length c153), (vi ((F_laws_toFrame x_a.Fin).Epoch)), (vi ((F_laws_toFrame x_a.Fin).Seq)), (vs a157 ((F_laws_toFrame x_a.Fin).Body).length c158), (vs a162 ((F_laws_toFrame x_a.Fin).Tag).length c163), (vi ((F_laws_toChan x_a.C).Role)), (vs a176 ((F_laws_toChan x_a.C).Sn).length c177), (vi (((F_laws_toChan x_a.C).Cur).N)), (vs a181 (((F_laws_toChan x_a.C).Cur).Key).length c182), (vi (((F_laws_toChan x_a.C).Cur).Seq)), (vi ((((F_laws_toChan x_a.C).Cur).Win).Top)), (vs a186 ((((F_laws_toChan x_a.C).Cur).Win).Bits).length c187), (vi (((F_laws_toChan x_a.C).Old).N)), (vs a191 (((F_laws_toChan x_a.C).Old).Key).length c192), (vi (((F_laws_toChan x_a.C).Old).Seq)), (vi ((((F_laws_toChan x_a.C).Old).Win).Top)), (vs a196 ((((F_laws_toChan x_a.C).Old).Win).Bits).length c197), (vb ((F_laws_toChan x_a.C).HasOld)), (vi ((F_laws_toChan x_a.C).Until)), (vs a201 ((F_laws_toChan x_a.C).Next).length c202), (vb ((F_laws_toTimer x_a.T).On)), (vi ((F_laws_toTimer x_a.T).Due)), (vi ((F_laws_toTimer x_a.T).Wait)), (vi ((F_laws_toTimer x_a.T).Tries)), (vb ((F_laws_toTimer x_a.R).On)), (vi ((F_laws_toTimer x_a.R).Due)), (vi ((F_laws_toTimer x_a.R).Wait)), (vi ((F_laws_toTimer x_a.R).Tries)), (vi x_a.Last)]) rfl (rv_c [(vi x_a.Id), (vs a96 (cpB x_a.Psk).length c97), (vi ((F_laws_toAddr x_a.At).Host)), (vi ((F_laws_toAddr x_a.At).Port)), (vi x_a.St), (vs a123 (cpB x_a.Cn).length c124), (vi ((F_laws_toFrame x_a.Fin).Kind)), (vi ((F_laws_toFrame x_a.Fin).Id)), (vs a137 ((F_laws_toFrame x_a.Fin).Cn).length c138), (vs a142 ((F_laws_toFrame x_a.Fin).Sn).length c143), (vi ((F_laws_toFrame x_a.Fin).Tick)), (vs a147 ((F_laws_toFrame x_a.Fin).Cookie).length c148), (vs a152 ((F_laws_toFrame x_a.Fin).Proof).length c153), (vi ((F_laws_toFrame x_a.Fin).Epoch)), (vi ((F_laws_toFrame x_a.Fin).Seq)), (vs a157 ((F_laws_toFrame x_a.Fin).Body).length c158), (vs a162 ((F_laws_toFrame x_a.Fin).Tag).length c163), (vi ((F_laws_toChan x_a.C).Role)), (vs a176 ((F_laws_toChan x_a.C).Sn).length c177), (vi (((F_laws_toChan x_a.C).Cur).N)), (vs a181 (((F_laws_toChan x_a.C).Cur).Key).length c182), (vi (((F_laws_toChan x_a.C).Cur).Seq)), (vi ((((F_laws_toChan x_a.C).Cur).Win).Top)), (vs a186 ((((F_laws_toChan x_a.C).Cur).Win).Bits).length c187), (vi (((F_laws_toChan x_a.C).Old).N)), (vs a191 (((F_laws_toChan x_a.C).Old).Key).length c192), (vi (((F_laws_toChan x_a.C).Old).Seq)), (vi ((((F_laws_toChan x_a.C).Old).Win).Top)), (vs a196 ((((F_laws_toChan x_a.C).Old).Win).Bits).length c197), (vb ((F_laws_toChan x_a.C).HasOld)), (vi ((F_laws_toChan x_a.C).Until)), (vs a201 ((F_laws_toChan x_a.C).Next).length c202), (vb ((F_laws_toTimer x_a.T).On)), (vi ((F_laws_toTimer x_a.T).Due)), (vi ((F_laws_toTimer x_a.T).Wait)), (vi ((F_laws_toTimer x_a.T).Tries)), (vb ((F_laws_toTimer x_a.R).On)), (vi ((F_laws_toTimer x_a.R).Due)), (vi ((F_laws_toTimer x_a.R).Wait)), (vi ((F_laws_toTimer x_a.R).Tries)), (vi x_a.Last)] rfl b236 isAgg_98 sizeOf_98) ?_
 refine ⟨m238.keep0, ?_⟩
 have hF253 : F_laws_toClient x_a = { Id := x_a.Id, Psk := (cpB x_a.Psk), At := (F_laws_toAddr x_a.At), St := x_a.St, Cn := (cpB x_a.Cn), Fin := (F_laws_toFrame x_a.Fin), C := (F_laws_toChan x_a.C), T := (F_laws_toTimer x_a.T), R := (F_laws_toTimer x_a.R), Last := x_a.Last : PClient } := by rfl
 rw [hF253]
 exact ⟨_, _, _, _, _, _, _, _, _, _, _, _, _, _, _, _, _, _, _, _, _, _, _, _, _, _, _, _, rfl, (own_lo o239 (Nat.le_trans (Nat.le_trans (Nat.le_trans k74.size k80.size) k86.size) k90.size)), s99, (own_lo o240 (Nat.le_trans (Nat.le_trans (Nat.le_trans (Nat.le_trans (Nat.le_trans (Nat.le_trans (Nat.le_trans (Nat.le_trans k74.size k80.size) k86.size) k90.size) k95.size) k104.size) k109.size) k112.size) k117.size)), s126, (own_lo o241 (Nat.le_trans (Nat.le_trans (Nat.le_trans (Nat.le_trans (Nat.le_trans (Nat.le_trans (Nat.le_trans (Nat.le_trans (Nat.le_trans (Nat.le_trans k74.size k80.size) k86.size) k90.size) k95.size) k104.size) k109.size) k112.size) k117.size) k122.size) k131.size)), s140, (own_lo o242 (Nat.le_trans (Nat.le_trans (Nat.le_trans (Nat.le_trans (Nat.le_trans (Nat.le_trans (Nat.le_trans (Nat.le_trans (Nat.le_trans (Nat.le_trans k74.size k80.size) k86.size) k90.size) k95.size) k104.size) k109.size) k112.size) k117.size) k122.size) k131.size)), s145, (own_lo o243 (Nat.le_trans (Nat.le_trans (Nat.le_trans (Nat.le_trans (Nat.le_trans (Nat.le_trans (Nat.le_trans (Nat.le_trans (Nat.le_trans (Nat.le_trans k74.size k80.size) k86.size) k90.size) k95.size) k104.size) k109.size) k112.size) k117.size) k122.size) k131.size)), s150, (own_lo o244 (Nat.le_trans (Nat.le_trans (Nat.le_trans (Nat.le_trans (Nat.le_trans (Nat.le_trans (Nat.le_trans (Nat.le_trans (Nat.le_trans (Nat.le_trans k74.size k80.size) k86.size) k90.size) k95.size) k104.size) k109.size) k112.size) k117.size) k122.size) k131.size)), s155, (own_lo o245 (Nat.le_trans (Nat.le_trans (Nat.le_trans (Nat.le_trans (Nat.le_trans (Nat.le_trans (Nat.le_trans (Nat.le_trans (Nat.le_trans (Nat.le_trans k74.size k80.size) k86.size) k90.size) k95.size) k104.size) k109.size) k112.size) k117.size) k122.size) k131.size)), s160, (own_lo o246 (Nat.le_trans (Nat.le_trans (Nat.le_trans (Nat.le_trans (Nat.le_trans (Nat.le_trans (Nat.le_trans (Nat.le_trans (Nat.le_trans (Nat.le_trans k74.size k80.size) k86.size) k90.size) k95.size) k104.size) k109.size) k112.size) k117.size) k122.size) k131.size)), s165, (own_lo o247 (Nat.le_trans (Nat.le_trans (Nat.le_trans (Nat.le_trans (Nat.le_trans (Nat.le_trans (Nat.le_trans (Nat.le_trans (Nat.le_trans (Nat.le_trans (Nat.le_trans (Nat.le_trans k74.size k80.size) k86.size) k90.size) k95.size) k104.size) k109.size) k112.size) k117.size) k122.size) k131.size) k136.size) k170.size)), s179, (own_lo o248 (Nat.le_trans (Nat.le_trans (Nat.le_trans (Nat.le_trans (Nat.le_trans (Nat.le_trans (Nat.le_trans (Nat.le_trans (Nat.le_trans (Nat.le_trans (Nat.le_trans (Nat.le_trans k74.size k80.size) k86.size) k90.size) k95.size) k104.size) k109.size) k112.size) k117.size) k122.size) k131.size) k136.size) k170.size)), s184, (own_lo o249 (Nat.le_trans (Nat.le_trans (Nat.le_trans (Nat.le_trans (Nat.le_trans (Nat.le_trans (Nat.le_trans (Nat.le_trans (Nat.le_trans (Nat.le_trans (Nat.le_trans (Nat.le_trans k74.size k80.size) k86.size) k90.size) k95.size) k104.size) k109.size) k112.size) k117.size) k122.size) k131.size) k136.size) k170.size)), s189, (own_lo o250 (Nat.le_trans (Nat.le_trans (Nat.le_trans (Nat.le_trans (Nat.le_trans (Nat.le_trans (Nat.le_trans (Nat.le_trans (Nat.le_trans (Nat.le_trans (Nat.le_trans (Nat.le_trans k74.size k80.size) k86.size) k90.size) k95.size) k104.size) k109.size) k112.size) k117.size) k122.size) k131.size) k136.size) k170.size)), s194, (own_lo o251 (Nat.le_trans (Nat.le_trans (Nat.le_trans (Nat.le_trans (Nat.le_trans (Nat.le_trans (Nat.le_trans (Nat.le_trans (Nat.le_trans (Nat.le_trans (Nat.le_trans (Nat.le_trans k74.size k80.size) k86.size) k90.size) k95.size) k104.size) k109.size) k112.size) k117.size) k122.size) k131.size) k136.size) k170.size)), s199, (own_lo o252 (Nat.le_trans (Nat.le_trans (Nat.le_trans (Nat.le_trans (Nat.le_trans (Nat.le_trans (Nat.le_trans (Nat.le_trans (Nat.le_trans (Nat.le_trans (Nat.le_trans (Nat.le_trans k74.size k80.size) k86.size) k90.size) k95.size) k104.size) k109.size) k112.size) k117.size) k122.size) k131.size) k136.size) k170.size)), s204, ⟨⟨(Ap.lt o98 o125 (Nat.le_trans (Nat.le_trans (Nat.le_trans k104.size k109.size) k112.size) k117.size)), ⟨(Ap.lt o98 o139 (Nat.le_trans (Nat.le_trans (Nat.le_trans (Nat.le_trans (Nat.le_trans k104.size k109.size) k112.size) k117.size) k122.size) k131.size)), ⟨(Ap.lt o98 o144 (Nat.le_trans (Nat.le_trans (Nat.le_trans (Nat.le_trans (Nat.le_trans k104.size k109.size) k112.size) k117.size) k122.size) k131.size)), ⟨(Ap.lt o98 o149 (Nat.le_trans (Nat.le_trans (Nat.le_trans (Nat.le_trans (Nat.le_trans k104.size k109.size) k112.size) k117.size) k122.size) k131.size)), ⟨(Ap.lt o98 o154 (Nat.le_trans (Nat.le_trans (Nat.le_trans (Nat.le_trans (Nat.le_trans k104.size k109.size) k112.size) k117.size) k122.size) k131.size)), ⟨(Ap.lt o98 o159 (Nat.le_trans (Nat.le_trans (Nat.le_trans (Nat.le_trans (Nat.le_trans k104.size k109.size) k112.size) k117.size) k122.size) k131.size)), ⟨(Ap.lt o98 o164 (Nat.le_trans (Nat.le_trans (Nat.le_trans (Nat.le_trans (Nat.le_trans k104.size k109.size) k112.size) k117.size) k122.size) k131.size)), ⟨(Ap.lt o98 o178 (Nat.le_trans (Nat.le_trans (Nat.le_trans (Nat.le_trans (Nat.le_trans (Nat.le_trans (Nat.le_trans k104.size k109.size) k112.size) k117.size) k122.size) k131.size) k136.size) k170.size)), ⟨(Ap.lt o98 o183 (Nat.le_trans (Nat.le_trans (Nat.le_trans (Nat.le_trans (Nat.le_trans (Nat.le_trans (Nat.le_trans k104.size k109.size) k112.size) k117.size) k122.size) k131.size) k136.size) k170.size)), ⟨(Ap.lt o98 o188 (Nat.le_trans (Nat.le_trans (Nat.le_trans (Nat.le_trans (Nat.le_trans (Nat.le_trans (Nat.le_trans k104.size k109.size) k112.size) k117.size) k122.size) k131.size) k136.size) k170.size)), ⟨(Ap.lt o98 o193 (Nat.le_trans (Nat.le_trans (Nat.le_trans (Nat.le_trans (Nat.le_trans (Nat.le_trans (Nat.le_trans k104.size k109.size) k112.size) k117.size) k122.size) k131.size) k136.size) k170.size)), ⟨(Ap.lt o98 o198 (Nat.le_trans (Nat.le_trans (Nat.le_trans (Nat.le_trans (Nat.le_trans (Nat.le_trans (Nat.le_trans k104.size k109.size) k112.size) k117.size) k122.size) k131.size) k136.size) k170.size)), ⟨(Ap.lt o98 o203 (Nat.le_trans (Nat.le_trans (Nat.le_trans (Nat.le_trans (Nat.le_trans (Nat.le_trans (Nat.le_trans k104.size k109.size) k112.size) k117.size) k122.size) k131.size) k136.size) k170.size)), trivial⟩⟩⟩⟩⟩⟩⟩⟩⟩⟩⟩⟩⟩, ⟨⟨(Ap.lt o125 o139 k131.size), ⟨(Ap.lt o125 o144 k131.size), ⟨(Ap.lt o125 o149 k131.size), ⟨(Ap.lt o125 o154 k131.size), ⟨(Ap.lt o125 o159 k131.size), ⟨(Ap.lt o125 o164 k131.size), ⟨(Ap.lt o125 o178 (Nat.le_trans (Nat.le_trans k131.size k136.size) k170.size)), ⟨(Ap.lt o125 o183 (Nat.le_trans (Nat.le_trans k131.size k136.size) k170.size)), ⟨(Ap.lt o125 o188 (Nat.le_trans (Nat.le_trans k131.size k136.size) k170.size)), ⟨(Ap.lt o125 o193 (Nat.le_trans (Nat.le_trans k131.size k136.size) k170.size)), ⟨(Ap.lt o125 o198 (Nat.le_trans (Nat.le_trans k131.size k136.size) k170.size)), ⟨(Ap.lt o125 o203 (Nat.le_trans (Nat.le_trans k131.size k136.size) k170.size)), trivial⟩⟩⟩⟩⟩⟩⟩⟩⟩⟩⟩⟩, ⟨⟨(ap167.1.1), ⟨(ap167.1.2.1), ⟨(ap167.1.2.2.1), ⟨(ap167.1.2.2.2.1), ⟨(ap167.1.2.2.2.2.1), ⟨(Ap.lt o139 o178 k170.size), ⟨(Ap.lt o139 o183 k170.size), ⟨(Ap.lt o139 o188 k170.size), ⟨(Ap.lt o139 o193 k170.size), ⟨(Ap.lt o139 o198 k170.size), ⟨(Ap.lt o139 o203 k170.size), trivial⟩⟩⟩⟩⟩⟩⟩⟩⟩⟩⟩, ⟨⟨(ap167.2.1.1), ⟨(ap167.2.1.2.1), ⟨(ap167.2.1.2.2.1), ⟨(ap167.2.1.2.2.2.1), ⟨(Ap.lt o144 o178 k170.size), ⟨(Ap.lt o144 o183 k170.size), ⟨(Ap.lt o144 o188 k170.size), ⟨(Ap.lt o144 o193 k170.size), ⟨(Ap.lt o144 o198 k170.size), ⟨(Ap.lt o144 o203 k170.size), trivial⟩⟩⟩⟩⟩⟩⟩⟩⟩⟩, ⟨⟨(ap167.2.2.1.1), ⟨(ap167.2.2.1.2.1), ⟨(ap167.2.2.1.2.2.1), ⟨(Ap.lt o149 o178 k170.size), ⟨(Ap.lt o149 o183 k170.size), ⟨(Ap.lt o149 o188 k170.size), ⟨(Ap.lt o149 o193 k170.size), ⟨(Ap.lt o149 o198 k170.size), ⟨(Ap.lt o149 o203 k170.size), trivial⟩⟩⟩⟩⟩⟩⟩⟩⟩, ⟨⟨(ap167.2.2.2.1.1), ⟨(ap167.2.2.2.1.2.1), ⟨(Ap.lt o154 o178 k170.size), ⟨(Ap.lt o154 o183 k170.size), ⟨(Ap.lt o154 o188 k170.size), ⟨(Ap.lt o154 o193 k170.size), ⟨(Ap.lt o154 o198 k170.size), ⟨(Ap.lt o154 o203 k170.size), trivial⟩⟩⟩⟩⟩⟩⟩⟩, ⟨⟨(ap167.2.2.2.2.1.1), ⟨(Ap.lt o159 o178 k170.size), ⟨(Ap.lt o159 o183 k170.size), ⟨(Ap.lt o159 o188 k170.size), ⟨(Ap.lt o159 o193 k170.size), ⟨(Ap.lt o159 o198 k170.size), ⟨(Ap.lt o159 o203 k170.size), trivial⟩⟩⟩⟩⟩⟩⟩, ⟨⟨(Ap.lt o164 o178 k170.size), ⟨(Ap.lt o164 o183 k170.size), ⟨(Ap.lt o164 o188 k170.size), ⟨(Ap.lt o164 o193 k170.size), ⟨(Ap.lt o164 o198 k170.size), ⟨(Ap.lt o164 o203 k170.size), trivial⟩⟩⟩⟩⟩⟩, ⟨⟨(ap206.1.1), ⟨(ap206.1.2.1), ⟨(ap206.1.2.2.1), ⟨(ap206.1.2.2.2.1), ⟨(ap206.1.2.2.2.2.1), trivial⟩⟩⟩⟩⟩, ⟨⟨(ap206.2.1.1), ⟨(ap206.2.1.2.1), ⟨(ap206.2.1.2.2.1), ⟨(ap206.2.1.2.2.2.1), trivial⟩⟩⟩⟩, ⟨⟨(ap206.2.2.1.1), ⟨(ap206.2.2.1.2.1), ⟨(ap206.2.2.1.2.2.1), trivial⟩⟩⟩, ⟨⟨(ap206.2.2.2.1.1), ⟨(ap206.2.2.2.1.2.1), trivial⟩⟩, ⟨⟨(ap206.2.2.2.2.1.1), trivial⟩, ⟨trivial, trivial⟩⟩⟩⟩⟩⟩⟩⟩⟩⟩⟩⟩⟩⟩⟩

def O_4 (w : World) (lo : Nat) (v : Value) (x : (Bool)) : Prop := v = .bool x
def F_spec_l1In (x_x : Int) (x_least : Int) (x_most : Int) : (Bool) := bif (decide (x_least ≤ x_x)) then (decide (x_x ≤ x_most)) else (false)
theorem C_spec_l1In (w0 : World) (x_x : Int) (x_least : Int) (x_most : Int)  : Fn Try.prog 86 #[(vi x_x), (vi x_least), (vi x_most)] w0 (fun v w' => Keep w0 w' ∧ O_4 w' w0.heap.size v (F_spec_l1In x_x x_least x_most)) := by
 refine fn_of (n := 15) (l := [(vi x_x), (vi x_least), (vi x_most), U, U, U, U, U, U, U, U, U, U, U, U]) Try.func86 rfl rfl (by kernel_rfl) rfl ?_
 refine sr ?_
 refine ag (vb false) wN ?_
 refine nx ?_
 refine mv (vi x_x) wN ?_
 refine mv (vi x_least) wN ?_
 refine pu (vb (decide (x_least ≤ x_x))) wN ?_
 refine mv (vb (decide (x_least ≤ x_x))) wN ?_
 rcases bf (decide (x_least ≤ x_x)) with h1 | h1
 ·have q4 := of_decide_eq_false h1
  refine sk h1 ?_
  refine sk h1 ?_
  refine sk h1 ?_
  refine pf (vb false) wN h1 ?_
  refine ag (vb false) wN ?_
  refine wl_nil <| wq_then <| wc_ret ?_
  refine ret_1 (.inl rfl) (vb false) rfl rfl ?_
  refine ⟨Ch.refl _ _, ?_⟩
  have hF5 : F_spec_l1In x_x x_least x_most = false := by simp only [F_spec_l1In, h1, cond_true, cond_false]
  rw [hF5]
  exact rfl
 have q2 := of_decide_eq_true h1
 refine mv (vi x_x) (wS h1) ?_
 refine mv (vi x_most) (wS h1) ?_
 refine pu (vb (decide (x_x ≤ x_most))) (wS h1) ?_
 refine pk (vb (decide (x_x ≤ x_most))) wN h1 ?_
 refine ag (vb (decide (x_x ≤ x_most))) wN ?_
 refine wl_nil <| wq_then <| wc_ret ?_
 refine ret_1 (.inl rfl) (vb (decide (x_x ≤ x_most))) rfl rfl ?_
 refine ⟨Ch.refl _ _, ?_⟩
 have hF3 : F_spec_l1In x_x x_least x_most = decide (x_x ≤ x_most) := by simp only [F_spec_l1In, h1, cond_true, cond_false]
 rw [hF3]
 exact rfl
theorem spec_l1In_t {n a b : Int} (h : F_spec_l1In n a b = true) : a ≤ n ∧ n ≤ b := by
  unfold F_spec_l1In at h
  by_cases h1 : a ≤ n <;> simp [h1] at h
  exact ⟨h1, h⟩
theorem spec_l1In_f {n a b : Int} (h : F_spec_l1In n a b = false) : n < a ∨ b < n := by
  unfold F_spec_l1In at h
  by_cases h1 : a ≤ n <;> simp [h1] at h <;> omega

def F_spec_PskOk (x_psk : List UInt8) : (Bool) := (F_spec_l1In (x_psk.length : Int) 1 32)
theorem C_spec_PskOk (w0 : World) (v_x_psk : Value) (x_psk : List UInt8) (r_x_psk : R_22 w0 v_x_psk x_psk)  : Fn Try.prog 117 #[v_x_psk] w0 (fun v w' => Keep w0 w' ∧ O_4 w' w0.heap.size v (F_spec_PskOk x_psk)) := by
 obtain ⟨a1, c2, rfl, r3, s4⟩ := r_x_psk
 refine fn_of (n := 6) (l := [(vs a1 x_psk.length c2), U, U, U, U, U]) Try.func117 rfl rfl (by kernel_rfl) rfl ?_
 refine sr ?_
 refine ag (vb false) wN ?_
 refine nx ?_
 refine mv (vs a1 x_psk.length c2) wN ?_
 refine ln wN slTy_22 r3 ?_
 refine cl wN (C_spec_l1In w0 (x_psk.length : Int) 1 32) ?_
 rintro _ w1 ⟨k6, rfl⟩
 have m7 := (Ch.base w0).extk k6
 refine ag (vb (F_spec_l1In (x_psk.length : Int) 1 32)) wN ?_
 refine wl_nil <| wq_then <| wc_ret ?_
 refine ret_1 (.inl rfl) (vb (F_spec_l1In (x_psk.length : Int) 1 32)) rfl rfl ?_
 refine ⟨m7.keep0, ?_⟩
 have hF8 : F_spec_PskOk x_psk = (F_spec_l1In (x_psk.length : Int) 1 32) := by rfl
 rw [hF8]
 exact rfl

def R_26 (w : World) (v : Value) (x : (PAddr)) : Prop := v = .agg #[.int .i64 x.Host, .int .i64 x.Port]
def F_spec_AddrOk (x_a : PAddr) : (Bool) := bif (F_spec_l1In x_a.Host 0 4294967295) then ((F_spec_l1In x_a.Port 0 65535)) else (false)
theorem C_spec_AddrOk (w0 : World) (v_x_a : Value) (x_a : PAddr) (r_x_a : R_26 w0 v_x_a x_a)  : Fn Try.prog 85 #[v_x_a] w0 (fun v w' => Keep w0 w' ∧ O_4 w' w0.heap.size v (F_spec_AddrOk x_a)) := by
 obtain rfl := r_x_a
 refine fn_of (n := 11) (l := [(va (L_26 x_a)), U, U, U, U, U, U, U, U, U, U]) Try.func85 rfl rfl (by kernel_rfl) rfl ?_
 refine sr ?_
 refine bx (L_26 x_a) wN ?_
 intro g1 w1 p2 p3 k4 b5
 have m6 := (Ch.base w0).extk k4
 refine ag (vb false) wN ?_
 refine nx ?_
 refine pu (vp g1 0) wN ?_
 refine ld (vi x_a.Host) wN isAgg_3 b5 ?_
 refine cl wN (C_spec_l1In w1 x_a.Host 0 4294967295) ?_
 rintro _ w2 ⟨k7, rfl⟩
 have m8 := m6.extk k7
 refine mv (vb (F_spec_l1In x_a.Host 0 4294967295)) wN ?_
 rcases bf (F_spec_l1In x_a.Host 0 4294967295) with h9 | h9
 ·have q15 := spec_l1In_f h9
  refine sk h9 ?_
  refine sk h9 ?_
  refine sk h9 ?_
  refine pf (vb false) wN h9 ?_
  refine ag (vb false) wN ?_
  refine wl_nil <| wq_then <| wc_ret ?_
  refine ret_1 (.inl rfl) (vb false) rfl rfl ?_
  refine ⟨m8.keep0, ?_⟩
  have hF16 : F_spec_AddrOk x_a = false := by simp only [F_spec_AddrOk, h9, cond_true, cond_false]
  rw [hF16]
  exact rfl
 have q10 := spec_l1In_t h9
 refine pu (vp g1 1) (wS h9) ?_
 have b11 := (b5.kp k7)
 refine ld (vi x_a.Port) (wS h9) isAgg_3 b11 ?_
 refine cl (wS h9) (C_spec_l1In w2 x_a.Port 0 65535) ?_
 rintro _ w3 ⟨k12, rfl⟩
 have m13 := m8.extk k12
 refine pk (vb (F_spec_l1In x_a.Port 0 65535)) wN h9 ?_
 refine ag (vb (F_spec_l1In x_a.Port 0 65535)) wN ?_
 refine wl_nil <| wq_then <| wc_ret ?_
 refine ret_1 (.inl rfl) (vb (F_spec_l1In x_a.Port 0 65535)) rfl rfl ?_
 refine ⟨m13.keep0, ?_⟩
 have hF14 : F_spec_AddrOk x_a = (F_spec_l1In x_a.Port 0 65535) := by simp only [F_spec_AddrOk, h9, cond_true, cond_false]
 rw [hF14]
 exact rfl

theorem guardt_96 : Try.prog.eqGuardType Try.prog.depth 96 = false := by kernel_rfl
theorem aggeq_96 (x0 y0 : Bool) (x1 y1 : Int) (x2 y2 : Int) (x3 y3 : Int) (w : World) : (Op.equalIn 10000 96 (.agg #[.bool x0, .int .i64 x1, .int .i64 x2, .int .i64 x3]) (.agg #[.bool y0, .int .i64 y1, .int .i64 y2, .int .i64 y3])).run Try.prog w = .ok (((x0 == y0) && (decide (x1 = y1) && (decide (x2 = y2) && decide (x3 = y3))))) w := by
  rw [run_equalIn_struct w 9999 96 _ _ (by kernel_rfl) (by kernel_rfl)]
  simp [Program.fieldsOf, Op.eqFields, go_sem, Try.underlying3, Try.underlying4, Try.underlying96]
  by_cases h0 : x0 = y0 <;> by_cases h1 : x1 = y1 <;> by_cases h2 : x2 = y2 <;> by_cases h3 : x3 = y3 <;> simp [*]
def R_96 (w : World) (v : Value) (x : (PTimer)) : Prop := v = .agg #[.bool x.On, .int .i64 x.Due, .int .i64 x.Wait, .int .i64 x.Tries]
def F_spec_TimerOk (x_t : PTimer) : (Bool) := bif x_t.On then (bif (F_spec_l1In x_t.Due 0 1000008) then (bif (decide (x_t.Wait = 1)) then ((F_spec_l1In x_t.Tries 1 5)) else (bif (decide (x_t.Wait = 2)) then ((F_spec_l1In x_t.Tries 1 5)) else (bif (decide (x_t.Wait = 4)) then ((F_spec_l1In x_t.Tries 1 5)) else (bif (decide (x_t.Wait = 8)) then ((F_spec_l1In x_t.Tries 1 5)) else (false))))) else (false)) else (((x_t.On == false) && (decide (x_t.Due = 0) && (decide (x_t.Wait = 0) && decide (x_t.Tries = 0)))))
theorem C_spec_TimerOk (w0 : World) (v_x_t : Value) (x_t : PTimer) (r_x_t : R_96 w0 v_x_t x_t)  : Fn Try.prog 128 #[v_x_t] w0 (fun v w' => Keep w0 w' ∧ O_4 w' w0.heap.size v (F_spec_TimerOk x_t)) := by
 obtain rfl := r_x_t
 refine fn_of (n := 37) (l := [(va (L_96 x_t)), U, U, U, U, U, U, U, U, U, U, U, U, U, U, U, U, U, U, U, U, U, U, U, U, U, U, U, U, U, U, U, U, U, U, U, U]) Try.func128 rfl rfl (by kernel_rfl) rfl ?_
 refine sr ?_
 refine bx (L_96 x_t) wN ?_
 intro g1 w1 p2 p3 k4 b5
 have m6 := (Ch.base w0).extk k4
 refine ag (vb false) wN ?_
 refine wl_nil <| wq_then <| wc_seq <| sr ?_
 refine pu (vp g1 0) wN ?_
 refine ld (vb x_t.On) wN isAgg_4 b5 ?_
 refine pu (vb (!x_t.On)) wN ?_
 refine wl_nil <| wq_then ?_
 rcases bf x_t.On with h7 | h7
 ·refine ct (congrArg not h7) ?_
  refine sr ?_
  refine lN (L_96 x_t) wN isAgg_96 sizeOf_96 b5 ?_
  refine pu (va [(vb false), (vi 0), (vi 0), (vi 0)]) wN ?_
  refine wl_aggeq (((x_t.On == false) && (decide (x_t.Due = 0) && (decide (x_t.Wait = 0) && decide (x_t.Tries = 0))))) wN rfl rfl rfl rfl rfl guardt_96 (aggeq_96 x_t.On false x_t.Due 0 x_t.Wait 0 x_t.Tries 0 w1) ?_
  refine ag (vb ((x_t.On == false) && (decide (x_t.Due = 0) && (decide (x_t.Wait = 0) && decide (x_t.Tries = 0))))) wN ?_
  refine wl_nil <| wq_then <| wc_ret <| wq_then_ret ?_
  refine ret_1 (.inl rfl) (vb ((x_t.On == false) && (decide (x_t.Due = 0) && (decide (x_t.Wait = 0) && decide (x_t.Tries = 0))))) rfl rfl ?_
  refine ⟨m6.keep0, ?_⟩
  have hF42 : F_spec_TimerOk x_t = ((x_t.On == false) && (decide (x_t.Due = 0) && (decide (x_t.Wait = 0) && decide (x_t.Tries = 0)))) := by simp only [F_spec_TimerOk, h7, cond_true, cond_false]
  rw [hF42]
  exact rfl
 refine cf (congrArg not h7) ?_
 refine wc_skip <| wq_then <| sr ?_
 refine pu (vp g1 1) wN ?_
 refine ld (vi x_t.Due) wN isAgg_3 b5 ?_
 refine cl wN (C_spec_l1In w1 x_t.Due 0 1000008) ?_
 rintro _ w2 ⟨k9, rfl⟩
 have m10 := m6.extk k9
 refine mv (vb (F_spec_l1In x_t.Due 0 1000008)) wN ?_
 rcases bf (F_spec_l1In x_t.Due 0 1000008) with h11 | h11
 ·have q39 := spec_l1In_f h11
  refine sk h11 ?_
  refine sk h11 ?_
  refine sk h11 ?_
  refine sk h11 ?_
  refine su ?_
  refine su ?_
  refine su ?_
  refine sk h11 ?_
  refine sk h11 ?_
  refine su ?_
  refine su ?_
  refine su ?_
  refine sk h11 ?_
  refine sk h11 ?_
  refine su ?_
  refine su ?_
  refine su ?_
  refine sk h11 ?_
  refine pf (vb false) wN h11 ?_
  refine mv (vb false) wN ?_
  refine sk (Eq.refl false) ?_
  refine sk (Eq.refl false) ?_
  refine sk (Eq.refl false) ?_
  refine pf (vb false) wN (Eq.refl false) ?_
  refine ag (vb false) wN ?_
  refine wl_nil <| wq_then <| wc_ret ?_
  refine ret_1 (.inl rfl) (vb false) rfl rfl ?_
  refine ⟨m10.keep0, ?_⟩
  have hF40 : F_spec_TimerOk x_t = false := by simp only [F_spec_TimerOk, h7, h11, cond_true, cond_false]
  rw [hF40]
  exact rfl
 have q12 := spec_l1In_t h11
 refine pu (vp g1 2) (wS h11) ?_
 have b13 := (b5.kp k9)
 refine ld (vi x_t.Wait) (wS h11) isAgg_3 b13 ?_
 refine pu (vb (decide (x_t.Wait = 1))) (wS h11) ?_
 refine mv (vb (decide (x_t.Wait = 1))) (wS h11) ?_
 rcases bt (decide (x_t.Wait = 1)) with h14 | h14
 ·have q15 := of_decide_eq_true h14
  refine sk h14 ?_
  refine sk h14 ?_
  refine sk h14 ?_
  refine pk (vb true) (wS h11) h14 ?_
  refine mv (vb true) (wS h11) ?_
  refine sk (Eq.refl true) ?_
  refine sk (Eq.refl true) ?_
  refine sk (Eq.refl true) ?_
  refine pk (vb true) (wS h11) (Eq.refl true) ?_
  refine mv (vb true) (wS h11) ?_
  refine sk (Eq.refl true) ?_
  refine sk (Eq.refl true) ?_
  refine sk (Eq.refl true) ?_
  refine pk (vb true) (wS h11) (Eq.refl true) ?_
  refine pk (vb true) wN h11 ?_
  refine mv (vb true) wN ?_
  refine pu (vp g1 3) (wS (Eq.refl true)) ?_
  refine ld (vi x_t.Tries) (wS (Eq.refl true)) isAgg_3 b13 ?_
  refine cl (wS (Eq.refl true)) (C_spec_l1In w2 x_t.Tries 1 5) ?_
  rintro _ w3 ⟨k16, rfl⟩
  have m17 := m10.extk k16
  refine pk (vb (F_spec_l1In x_t.Tries 1 5)) wN (Eq.refl true) ?_
  refine ag (vb (F_spec_l1In x_t.Tries 1 5)) wN ?_
  refine wl_nil <| wq_then <| wc_ret ?_
  refine ret_1 (.inl rfl) (vb (F_spec_l1In x_t.Tries 1 5)) rfl rfl ?_
  refine ⟨m17.keep0, ?_⟩
  have hF18 : F_spec_TimerOk x_t = (F_spec_l1In x_t.Tries 1 5) := by simp only [F_spec_TimerOk, h7, h11, h14, cond_true, cond_false]
  rw [hF18]
  exact rfl
 have q19 := of_decide_eq_false h14
 refine pu (vp g1 2) (wS h14) ?_
 refine ld (vi x_t.Wait) (wS h14) isAgg_3 b13 ?_
 refine pu (vb (decide (x_t.Wait = 2))) (wS h14) ?_
 refine pf (vb (decide (x_t.Wait = 2))) (wS h11) h14 ?_
 refine mv (vb (decide (x_t.Wait = 2))) (wS h11) ?_
 rcases bt (decide (x_t.Wait = 2)) with h20 | h20
 ·have q21 := of_decide_eq_true h20
  refine sk h20 ?_
  refine sk h20 ?_
  refine sk h20 ?_
  refine pk (vb true) (wS h11) h20 ?_
  refine mv (vb true) (wS h11) ?_
  refine sk (Eq.refl true) ?_
  refine sk (Eq.refl true) ?_
  refine sk (Eq.refl true) ?_
  refine pk (vb true) (wS h11) (Eq.refl true) ?_
  refine pk (vb true) wN h11 ?_
  refine mv (vb true) wN ?_
  refine pu (vp g1 3) (wS (Eq.refl true)) ?_
  refine ld (vi x_t.Tries) (wS (Eq.refl true)) isAgg_3 b13 ?_
  refine cl (wS (Eq.refl true)) (C_spec_l1In w2 x_t.Tries 1 5) ?_
  rintro _ w3 ⟨k22, rfl⟩
  have m23 := m10.extk k22
  refine pk (vb (F_spec_l1In x_t.Tries 1 5)) wN (Eq.refl true) ?_
  refine ag (vb (F_spec_l1In x_t.Tries 1 5)) wN ?_
  refine wl_nil <| wq_then <| wc_ret ?_
  refine ret_1 (.inl rfl) (vb (F_spec_l1In x_t.Tries 1 5)) rfl rfl ?_
  refine ⟨m23.keep0, ?_⟩
  have hF24 : F_spec_TimerOk x_t = (F_spec_l1In x_t.Tries 1 5) := by simp only [F_spec_TimerOk, h7, h11, h14, h20, cond_true, cond_false]
  rw [hF24]
  exact rfl
 have q25 := of_decide_eq_false h20
 refine pu (vp g1 2) (wS h20) ?_
 refine ld (vi x_t.Wait) (wS h20) isAgg_3 b13 ?_
 refine pu (vb (decide (x_t.Wait = 4))) (wS h20) ?_
 refine pf (vb (decide (x_t.Wait = 4))) (wS h11) h20 ?_
 refine mv (vb (decide (x_t.Wait = 4))) (wS h11) ?_
 rcases bt (decide (x_t.Wait = 4)) with h26 | h26
 ·have q27 := of_decide_eq_true h26
  refine sk h26 ?_
  refine sk h26 ?_
  refine sk h26 ?_
  refine pk (vb true) (wS h11) h26 ?_
  refine pk (vb true) wN h11 ?_
  refine mv (vb true) wN ?_
  refine pu (vp g1 3) (wS (Eq.refl true)) ?_
  refine ld (vi x_t.Tries) (wS (Eq.refl true)) isAgg_3 b13 ?_
  refine cl (wS (Eq.refl true)) (C_spec_l1In w2 x_t.Tries 1 5) ?_
  rintro _ w3 ⟨k28, rfl⟩
  have m29 := m10.extk k28
  refine pk (vb (F_spec_l1In x_t.Tries 1 5)) wN (Eq.refl true) ?_
  refine ag (vb (F_spec_l1In x_t.Tries 1 5)) wN ?_
  refine wl_nil <| wq_then <| wc_ret ?_
  refine ret_1 (.inl rfl) (vb (F_spec_l1In x_t.Tries 1 5)) rfl rfl ?_
  refine ⟨m29.keep0, ?_⟩
  have hF30 : F_spec_TimerOk x_t = (F_spec_l1In x_t.Tries 1 5) := by simp only [F_spec_TimerOk, h7, h11, h14, h20, h26, cond_true, cond_false]
  rw [hF30]
  exact rfl
 have q31 := of_decide_eq_false h26
 refine pu (vp g1 2) (wS h26) ?_
 refine ld (vi x_t.Wait) (wS h26) isAgg_3 b13 ?_
 refine pu (vb (decide (x_t.Wait = 8))) (wS h26) ?_
 refine pf (vb (decide (x_t.Wait = 8))) (wS h11) h26 ?_
 refine pk (vb (decide (x_t.Wait = 8))) wN h11 ?_
 refine mv (vb (decide (x_t.Wait = 8))) wN ?_
 rcases bf (decide (x_t.Wait = 8)) with h32 | h32
 ·have q37 := of_decide_eq_false h32
  refine sk h32 ?_
  refine sk h32 ?_
  refine sk h32 ?_
  refine pf (vb false) wN h32 ?_
  refine ag (vb false) wN ?_
  refine wl_nil <| wq_then <| wc_ret ?_
  refine ret_1 (.inl rfl) (vb false) rfl rfl ?_
  refine ⟨m10.keep0, ?_⟩
  have hF38 : F_spec_TimerOk x_t = false := by simp only [F_spec_TimerOk, h7, h11, h14, h20, h26, h32, cond_true, cond_false]
  rw [hF38]
  exact rfl
 have q33 := of_decide_eq_true h32
 refine pu (vp g1 3) (wS h32) ?_
 refine ld (vi x_t.Tries) (wS h32) isAgg_3 b13 ?_
 refine cl (wS h32) (C_spec_l1In w2 x_t.Tries 1 5) ?_
 rintro _ w3 ⟨k34, rfl⟩
 have m35 := m10.extk k34
 refine pk (vb (F_spec_l1In x_t.Tries 1 5)) wN h32 ?_
 refine ag (vb (F_spec_l1In x_t.Tries 1 5)) wN ?_
 refine wl_nil <| wq_then <| wc_ret ?_
 refine ret_1 (.inl rfl) (vb (F_spec_l1In x_t.Tries 1 5)) rfl rfl ?_
 refine ⟨m35.keep0, ?_⟩
 have hF36 : F_spec_TimerOk x_t = (F_spec_l1In x_t.Tries 1 5) := by simp only [F_spec_TimerOk, h7, h11, h14, h20, h26, h32, cond_true, cond_false]
 rw [hF36]
 exact rfl
theorem spec_TimerOk_t {t : PTimer} (h : F_spec_TimerOk t = true) (h0 : t.On = true) : 0 ≤ t.Due ∧ t.Due ≤ 1000008 ∧ 1 ≤ t.Wait ∧ t.Wait ≤ 8 ∧ 1 ≤ t.Tries ∧ t.Tries ≤ 5 := by
  simp only [F_spec_TimerOk, F_spec_l1In, cond_eq_ite] at h
  grind
end Go.Proofs.Ytjcahjhnnagkdaa.K
