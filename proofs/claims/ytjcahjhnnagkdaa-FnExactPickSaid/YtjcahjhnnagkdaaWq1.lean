import Derived.Test.YtjcahjhnnagkdaaCore
import Derived.Test.YtjcahjhnnagkdaaProg
import Derived.Test.YtjcahjhnnagkdaaHeld
import Derived.Test.YtjcahjhnnagkdaaFun
import Derived.Test.YtjcahjhnnagkdaaFunZ
import Derived.Test.YtjcahjhnnagkdaaMark
namespace Go.Proofs.Ytjcahjhnnagkdaa.K
open Go.RowKit
set_option linter.unusedVariables false
set_option linter.unusedSimpArgs false
set_option maxRecDepth 100000
set_option maxHeartbeats 4000000
def LT_144 : LTy (PNote) := { E := 144, Eb := 5, sz := 12, enc := fun e => [vi e.1.Kind, vi e.1.Id, vi e.1.Role, vs (adr2 e.2 0).1 e.1.Cn.length (adr2 e.2 0).2, vs (adr2 e.2 1).1 e.1.Sn.length (adr2 e.2 1).2, vi e.1.Epoch, vi e.1.Seq, vs (adr2 e.2 2).1 e.1.Body.length (adr2 e.2 2).2, vs (adr2 e.2 3).1 e.1.Key.length (adr2 e.2 3).2, vi e.1.A.Host, vi e.1.A.Port, vi e.1.Now], bs := fun x => [x.Cn, x.Sn, x.Body, x.Key], len := fun _ => rfl, one := fun _ => one_all rfl, pos := by decide, ne := by decide }
def z_PNote : PNote := { Kind := 0, Id := 0, Role := 0, Cn := [], Sn := [], Epoch := 0, Seq := 0, Body := [], Key := [], A := { Host := 0, Port := 0 : PAddr }, Now := 0 : PNote }
def LT_41 : LTy (PNote) := { E := 41, Eb := 5, sz := 12, enc := fun e => [vi e.1.Kind, vi e.1.Id, vi e.1.Role, vs (adr2 e.2 0).1 e.1.Cn.length (adr2 e.2 0).2, vs (adr2 e.2 1).1 e.1.Sn.length (adr2 e.2 1).2, vi e.1.Epoch, vi e.1.Seq, vs (adr2 e.2 2).1 e.1.Body.length (adr2 e.2 2).2, vs (adr2 e.2 3).1 e.1.Key.length (adr2 e.2 3).2, vi e.1.A.Host, vi e.1.A.Port, vi e.1.Now], bs := fun x => [x.Cn, x.Sn, x.Body, x.Key], len := fun _ => rfl, one := fun _ => one_all rfl, pos := by decide, ne := by decide }
def LT_166 : LTy (PCand) := { E := 166, Eb := 5, sz := 4, enc := fun e => [vi e.1.A.Host, vi e.1.A.Port, vs (adr2 e.2 0).1 e.1.Draw.length (adr2 e.2 0).2, vi e.1.Until], bs := fun x => [x.Draw], len := fun _ => rfl, one := fun _ => one_all rfl, pos := by decide, ne := by decide }
def z_PCand : PCand := { A := { Host := 0, Port := 0 : PAddr }, Draw := [], Until := 0 : PCand }
def LT_54 : LTy (PCand) := { E := 54, Eb := 5, sz := 4, enc := fun e => [vi e.1.A.Host, vi e.1.A.Port, vs (adr2 e.2 0).1 e.1.Draw.length (adr2 e.2 0).2, vi e.1.Until], bs := fun x => [x.Draw], len := fun _ => rfl, one := fun _ => one_all rfl, pos := by decide, ne := by decide }
def enc_PCredit (x : PCredit) : List Value := [.int .i64 x.A.Host, .int .i64 x.A.Port, .int .i64 x.Got, .int .i64 x.Sent]
theorem enc_PCredit_len : ∀ a, (enc_PCredit a).length = 4 := fun _ => rfl
theorem enc_PCredit_one : ∀ a, ∀ u ∈ enc_PCredit a, u.oneCell' = true := fun _ => (one_cons rfl (one_cons rfl (one_cons rfl (one_cons rfl one_nil))))
def z_PCredit : PCredit := { A := { Host := 0, Port := 0 : PAddr }, Got := 0, Sent := 0 : PCredit }
def creditAt (x_l : List PCredit) (x_a : PAddr) : Int := findF (fun c : PCredit => decide (c.A.Host = x_a.Host) && decide (c.A.Port = x_a.Port)) x_l
theorem creditAt_range (x_l : List PCredit) (x_a : PAddr) : -1 ≤ creditAt x_l x_a ∧ creditAt x_l x_a < (x_l.length : Int) := findF_range x_l

def candAt (x_p : PPaths) (x_a : PAddr) : Int := findF (fun c : PCand => decide (c.A.Host = x_a.Host) && decide (c.A.Port = x_a.Port)) x_p.Cands
theorem candAt_range (x_p : PPaths) (x_a : PAddr) : -1 ≤ candAt x_p x_a ∧ candAt x_p x_a < (x_p.Cands.length : Int) := findF_range x_p.Cands
theorem slTy_22 : SlTy Try.prog 22 5 1 1 (v8 0) := slTy Try.underlying22 (by kernel_rfl) rfl rfl
def Q_22 (w : World) (v : Value) (x : (List UInt8)) : Prop := ∃ (a1 : Option Addr) (c1 : Nat), v = .slice a1 x.length c1 ∧ Rd w 1 (.slice a1 x.length c1) x.length (x.map bV) ∧ x.length ≤ 9223372036854775807
def O_3 (w : World) (lo : Nat) (v : Value) (x : (Int)) : Prop := v = .int .i64 x
def F_laws_szByteS (x_a : List UInt8) (x_left : Int) : (Int) := bif (decide ((x_left - (x_a.length : Int)) < 0)) then ((-1)) else ((x_left - (x_a.length : Int)))
theorem C_laws_szByteS (w0 : World) (v_x_a : Value) (x_a : List UInt8) (r_x_a : Q_22 w0 v_x_a x_a) (x_left : Int) (pre0 : 0 ≤ x_left) (pre1 : x_left ≤ 1048576) : Fn Try.prog 125 #[v_x_a, (vi x_left)] w0 (fun v w' => Keep w0 w' ∧ O_3 w' w0.heap.size v (F_laws_szByteS x_a x_left)) := by
 obtain ⟨a1, c2, rfl, r3, s4⟩ := r_x_a
 refine fn_of (n := 12) (l := [(vs a1 x_a.length c2), (vi x_left), U, U, U, U, U, U, U, U, U, U]) Try.func125 rfl rfl (by kernel_rfl) rfl ?_
 refine sr ?_
 refine ag (vi 0) wN ?_
 refine nx ?_
 refine mv (vi x_left) wN ?_
 refine mv (vs a1 x_a.length c2) wN ?_
 refine ln wN slTy_22 r3 ?_
 refine ar (x_left - (x_a.length : Int)) wN ?_
 refine ag (vi (x_left - (x_a.length : Int))) wN ?_
 refine wl_nil <| wq_then <| wc_seq <| sr ?_
 refine mv (vi (x_left - (x_a.length : Int))) wN ?_
 refine pu (vb (decide ((x_left - (x_a.length : Int)) < 0))) wN ?_
 refine wl_nil <| wq_then ?_
 rcases bt (decide ((x_left - (x_a.length : Int)) < 0)) with h6 | h6
 ·have q7 := of_decide_eq_true h6
  refine ct h6 ?_
  refine sr ?_
  refine ag (vi (-1)) wN ?_
  refine wl_nil <| wq_then <| wc_ret <| wq_then_ret ?_
  refine ret_1 (.inl rfl) (vi (-1)) rfl rfl ?_
  refine ⟨Ch.refl _ _, ?_⟩
  have hF8 : F_laws_szByteS x_a x_left = (-1) := by simp only [F_laws_szByteS, h6, cond_true, cond_false]
  rw [hF8]
  exact rfl
 have q9 := of_decide_eq_false h6
 refine cf h6 ?_
 refine wc_skip <| wq_then <| sr ?_
 refine mv (vi (x_left - (x_a.length : Int))) wN ?_
 refine ag (vi (x_left - (x_a.length : Int))) wN ?_
 refine wl_nil <| wq_then <| wc_ret ?_
 refine ret_1 (.inl rfl) (vi (x_left - (x_a.length : Int))) rfl rfl ?_
 refine ⟨Ch.refl _ _, ?_⟩
 have hF10 : F_laws_szByteS x_a x_left = (x_left - (x_a.length : Int)) := by simp only [F_laws_szByteS, h6, cond_true, cond_false]
 rw [hF10]
 exact rfl
theorem laws_szByteS_le (x : List UInt8) (l : Int) : F_laws_szByteS x l = -1 ∨ (F_laws_szByteS x l = l - ((x.length : Int)) ∧ (0 ≤ F_laws_szByteS x l ∨ l < 0 ∨ False)) := by

  simp only [F_laws_szByteS, cond_eq_ite, decide_eq_true_eq]
  (repeat' split) <;> omega

abbrev L_41 (x : PNote) (a1 : Option Addr) (c1 : Nat) (a2 : Option Addr) (c2 : Nat) (a3 : Option Addr) (c3 : Nat) (a4 : Option Addr) (c4 : Nat) : List Value := [vi x.Kind, vi x.Id, vi x.Role, vs a1 x.Cn.length c1, vs a2 x.Sn.length c2, vi x.Epoch, vi x.Seq, vs a3 x.Body.length c3, vs a4 x.Key.length c4, vi x.A.Host, vi x.A.Port, vi x.Now]
theorem isAgg_22 : ∀ w, (isAgg 22).run Try.prog w = .ok false w := fun w => by kernel_rfl
def Q_144 (w : World) (v : Value) (x : (PNote)) : Prop := ∃ (a1 : Option Addr) (c1 : Nat) (a2 : Option Addr) (c2 : Nat) (a3 : Option Addr) (c3 : Nat) (a4 : Option Addr) (c4 : Nat), v = .agg #[.int .i64 x.Kind, .int .i64 x.Id, .int .i64 x.Role, .slice a1 x.Cn.length c1, .slice a2 x.Sn.length c2, .int .i64 x.Epoch, .int .i64 x.Seq, .slice a3 x.Body.length c3, .slice a4 x.Key.length c4, .int .i64 x.A.Host, .int .i64 x.A.Port, .int .i64 x.Now] ∧ Rd w 1 (.slice a1 x.Cn.length c1) x.Cn.length (x.Cn.map bV) ∧ x.Cn.length ≤ 9223372036854775807 ∧ Rd w 1 (.slice a2 x.Sn.length c2) x.Sn.length (x.Sn.map bV) ∧ x.Sn.length ≤ 9223372036854775807 ∧ Rd w 1 (.slice a3 x.Body.length c3) x.Body.length (x.Body.map bV) ∧ x.Body.length ≤ 9223372036854775807 ∧ Rd w 1 (.slice a4 x.Key.length c4) x.Key.length (x.Key.map bV) ∧ x.Key.length ≤ 9223372036854775807
theorem mQ_22 {w : World} {x : List UInt8} {a1 : Option Addr} {c1 : Nat} (h1 : Rd w 1 (.slice a1 x.length c1) x.length (x.map bV)) (l1 : x.length ≤ 9223372036854775807) : Q_22 w (vs a1 x.length c1) x := ⟨_, _, rfl, h1, l1⟩
def F_laws_szNote (x_a : PNote) (x_left : Int) : (Int) := bif (decide ((F_laws_szByteS x_a.Cn x_left) < 0)) then ((-1)) else (bif (decide ((F_laws_szByteS x_a.Sn (F_laws_szByteS x_a.Cn x_left)) < 0)) then ((-1)) else (bif (decide ((F_laws_szByteS x_a.Body (F_laws_szByteS x_a.Sn (F_laws_szByteS x_a.Cn x_left))) < 0)) then ((-1)) else (bif (decide ((F_laws_szByteS x_a.Key (F_laws_szByteS x_a.Body (F_laws_szByteS x_a.Sn (F_laws_szByteS x_a.Cn x_left)))) < 0)) then ((-1)) else ((F_laws_szByteS x_a.Key (F_laws_szByteS x_a.Body (F_laws_szByteS x_a.Sn (F_laws_szByteS x_a.Cn x_left))))))))
theorem C_laws_szNote (w0 : World) (v_x_a : Value) (x_a : PNote) (r_x_a : Q_144 w0 v_x_a x_a) (x_left : Int) (pre0 : 0 ≤ x_left) (pre1 : x_left ≤ 1048576) : Fn Try.prog 113 #[v_x_a, (vi x_left)] w0 (fun v w' => Keep w0 w' ∧ O_3 w' w0.heap.size v (F_laws_szNote x_a x_left)) := by
 obtain ⟨a1, c2, a6, c7, a11, c12, a16, c17, rfl, r3, s4, r8, s9, r13, s14, r18, s19⟩ := r_x_a
 refine fn_of (n := 30) (l := [(va (L_41 x_a a1 c2 a6 c7 a11 c12 a16 c17)), (vi x_left), U, U, U, U, U, U, U, U, U, U, U, U, U, U, U, U, U, U, U, U, U, U, U, U, U, U, U, U]) Try.func113 rfl rfl (by kernel_rfl) rfl ?_
 refine sr ?_
 refine bx (L_41 x_a a1 c2 a6 c7 a11 c12 a16 c17) wN ?_
 intro g21 w1 p22 p23 k24 b25
 have m26 := (Ch.base w0).extk k24
 refine ag (vi 0) wN ?_
 refine nx ?_
 refine pu (vp g21 3) wN ?_
 refine ld (vs a1 x_a.Cn.length c2) wN isAgg_22 b25 ?_
 refine mv (vi x_left) wN ?_
 refine cl wN (C_laws_szByteS w1 _ x_a.Cn (mQ_22 (r3.from0 m26) s4) x_left (by omega) (by omega)) ?_
 rintro _ w2 ⟨k27, rfl⟩
 have m28 := m26.extk k27
 have q29 := laws_szByteS_le x_a.Cn x_left
 refine ag (vi (F_laws_szByteS x_a.Cn x_left)) wN ?_
 refine wl_nil <| wq_then <| wc_seq <| sr ?_
 refine mv (vi (F_laws_szByteS x_a.Cn x_left)) wN ?_
 refine pu (vb (decide ((F_laws_szByteS x_a.Cn x_left) < 0))) wN ?_
 refine wl_nil <| wq_then ?_
 rcases bt (decide ((F_laws_szByteS x_a.Cn x_left) < 0)) with h30 | h30
 ·have q31 := of_decide_eq_true h30
  refine ct h30 ?_
  refine sr ?_
  refine ag (vi (-1)) wN ?_
  refine wl_nil <| wq_then <| wc_ret <| wq_then_ret ?_
  refine ret_1 (.inl rfl) (vi (-1)) rfl rfl ?_
  refine ⟨m28.keep0, ?_⟩
  have hF32 : F_laws_szNote x_a x_left = (-1) := by simp only [F_laws_szNote, h30, cond_true, cond_false]
  rw [hF32]
  exact rfl
 have q33 := of_decide_eq_false h30
 refine cf h30 ?_
 refine wc_skip <| wq_then <| sr ?_
 refine pu (vp g21 4) wN ?_
 have b34 := (b25.kp k27)
 refine ld (vs a6 x_a.Sn.length c7) wN isAgg_22 b34 ?_
 refine mv (vi (F_laws_szByteS x_a.Cn x_left)) wN ?_
 refine cl wN (C_laws_szByteS w2 _ x_a.Sn (mQ_22 (r8.from0 m28) s9) (F_laws_szByteS x_a.Cn x_left) (by omega) (by omega)) ?_
 rintro _ w3 ⟨k35, rfl⟩
 have m36 := m28.extk k35
 have q37 := laws_szByteS_le x_a.Sn (F_laws_szByteS x_a.Cn x_left)
 refine ag (vi (F_laws_szByteS x_a.Sn (F_laws_szByteS x_a.Cn x_left))) wN ?_
 refine wl_nil <| wq_then <| wc_seq <| sr ?_
 refine mv (vi (F_laws_szByteS x_a.Sn (F_laws_szByteS x_a.Cn x_left))) wN ?_
 refine pu (vb (decide ((F_laws_szByteS x_a.Sn (F_laws_szByteS x_a.Cn x_left)) < 0))) wN ?_
 refine wl_nil <| wq_then ?_
 rcases bt (decide ((F_laws_szByteS x_a.Sn (F_laws_szByteS x_a.Cn x_left)) < 0)) with h38 | h38
 ·have q39 := of_decide_eq_true h38
  refine ct h38 ?_
  refine sr ?_
  refine ag (vi (-1)) wN ?_
  refine wl_nil <| wq_then <| wc_ret <| wq_then_ret ?_
  refine ret_1 (.inl rfl) (vi (-1)) rfl rfl ?_
  refine ⟨m36.keep0, ?_⟩
  have hF40 : F_laws_szNote x_a x_left = (-1) := by simp only [F_laws_szNote, h30, h38, cond_true, cond_false]
  rw [hF40]
  exact rfl
 have q41 := of_decide_eq_false h38
 refine cf h38 ?_
 refine wc_skip <| wq_then <| sr ?_
 refine pu (vp g21 7) wN ?_
 have b42 := (b34.kp k35)
 refine ld (vs a11 x_a.Body.length c12) wN isAgg_22 b42 ?_
 refine mv (vi (F_laws_szByteS x_a.Sn (F_laws_szByteS x_a.Cn x_left))) wN ?_
 refine cl wN (C_laws_szByteS w3 _ x_a.Body (mQ_22 (r13.from0 m36) s14) (F_laws_szByteS x_a.Sn (F_laws_szByteS x_a.Cn x_left)) (by omega) (by omega)) ?_
 rintro _ w4 ⟨k43, rfl⟩
 have m44 := m36.extk k43
 have q45 := laws_szByteS_le x_a.Body (F_laws_szByteS x_a.Sn (F_laws_szByteS x_a.Cn x_left))
 refine ag (vi (F_laws_szByteS x_a.Body (F_laws_szByteS x_a.Sn (F_laws_szByteS x_a.Cn x_left)))) wN ?_
 refine wl_nil <| wq_then <| wc_seq <| sr ?_
 refine mv (vi (F_laws_szByteS x_a.Body (F_laws_szByteS x_a.Sn (F_laws_szByteS x_a.Cn x_left)))) wN ?_
 refine pu (vb (decide ((F_laws_szByteS x_a.Body (F_laws_szByteS x_a.Sn (F_laws_szByteS x_a.Cn x_left))) < 0))) wN ?_
 refine wl_nil <| wq_then ?_
 rcases bt (decide ((F_laws_szByteS x_a.Body (F_laws_szByteS x_a.Sn (F_laws_szByteS x_a.Cn x_left))) < 0)) with h46 | h46
 ·have q47 := of_decide_eq_true h46
  refine ct h46 ?_
  refine sr ?_
  refine ag (vi (-1)) wN ?_
  refine wl_nil <| wq_then <| wc_ret <| wq_then_ret ?_
  refine ret_1 (.inl rfl) (vi (-1)) rfl rfl ?_
  refine ⟨m44.keep0, ?_⟩
  have hF48 : F_laws_szNote x_a x_left = (-1) := by simp only [F_laws_szNote, h30, h38, h46, cond_true, cond_false]
  rw [hF48]
  exact rfl
 have q49 := of_decide_eq_false h46
 refine cf h46 ?_
 refine wc_skip <| wq_then <| sr ?_
 refine pu (vp g21 8) wN ?_
 have b50 := (b42.kp k43)
 refine ld (vs a16 x_a.Key.length c17) wN isAgg_22 b50 ?_
 refine mv (vi (F_laws_szByteS x_a.Body (F_laws_szByteS x_a.Sn (F_laws_szByteS x_a.Cn x_left)))) wN ?_
 refine cl wN (C_laws_szByteS w4 _ x_a.Key (mQ_22 (r18.from0 m44) s19) (F_laws_szByteS x_a.Body (F_laws_szByteS x_a.Sn (F_laws_szByteS x_a.Cn x_left))) (by omega) (by omega)) ?_
 rintro _ w5 ⟨k51, rfl⟩
 have m52 := m44.extk k51
 have q53 := laws_szByteS_le x_a.Key (F_laws_szByteS x_a.Body (F_laws_szByteS x_a.Sn (F_laws_szByteS x_a.Cn x_left)))
 refine ag (vi (F_laws_szByteS x_a.Key (F_laws_szByteS x_a.Body (F_laws_szByteS x_a.Sn (F_laws_szByteS x_a.Cn x_left))))) wN ?_
 refine wl_nil <| wq_then <| wc_seq <| sr ?_
 refine mv (vi (F_laws_szByteS x_a.Key (F_laws_szByteS x_a.Body (F_laws_szByteS x_a.Sn (F_laws_szByteS x_a.Cn x_left))))) wN ?_
 refine pu (vb (decide ((F_laws_szByteS x_a.Key (F_laws_szByteS x_a.Body (F_laws_szByteS x_a.Sn (F_laws_szByteS x_a.Cn x_left)))) < 0))) wN ?_
 refine wl_nil <| wq_then ?_
 rcases bt (decide ((F_laws_szByteS x_a.Key (F_laws_szByteS x_a.Body (F_laws_szByteS x_a.Sn (F_laws_szByteS x_a.Cn x_left)))) < 0)) with h54 | h54
 ·have q55 := of_decide_eq_true h54
  refine ct h54 ?_
  refine sr ?_
  refine ag (vi (-1)) wN ?_
  refine wl_nil <| wq_then <| wc_ret <| wq_then_ret ?_
  refine ret_1 (.inl rfl) (vi (-1)) rfl rfl ?_
  refine ⟨m52.keep0, ?_⟩
  have hF56 : F_laws_szNote x_a x_left = (-1) := by simp only [F_laws_szNote, h30, h38, h46, h54, cond_true, cond_false]
  rw [hF56]
  exact rfl
 have q57 := of_decide_eq_false h54
 refine cf h54 ?_
 refine wc_skip <| wq_then <| sr ?_
 refine mv (vi (F_laws_szByteS x_a.Key (F_laws_szByteS x_a.Body (F_laws_szByteS x_a.Sn (F_laws_szByteS x_a.Cn x_left))))) wN ?_
 refine ag (vi (F_laws_szByteS x_a.Key (F_laws_szByteS x_a.Body (F_laws_szByteS x_a.Sn (F_laws_szByteS x_a.Cn x_left))))) wN ?_
 refine wl_nil <| wq_then <| wc_ret ?_
 refine ret_1 (.inl rfl) (vi (F_laws_szByteS x_a.Key (F_laws_szByteS x_a.Body (F_laws_szByteS x_a.Sn (F_laws_szByteS x_a.Cn x_left))))) rfl rfl ?_
 refine ⟨m52.keep0, ?_⟩
 have hF58 : F_laws_szNote x_a x_left = (F_laws_szByteS x_a.Key (F_laws_szByteS x_a.Body (F_laws_szByteS x_a.Sn (F_laws_szByteS x_a.Cn x_left)))) := by simp only [F_laws_szNote, h30, h38, h46, h54, cond_true, cond_false]
 rw [hF58]
 exact rfl
theorem laws_szNote_le (x : PNote) (l : Int) : F_laws_szNote x l = -1 ∨ (F_laws_szNote x l = l - ((x.Cn.length : Int) + (x.Sn.length : Int) + (x.Body.length : Int) + (x.Key.length : Int)) ∧ (0 ≤ F_laws_szNote x l ∨ l < 0 ∨ False)) := by
  have h0 := laws_szByteS_le x.Cn l
  have h1 := laws_szByteS_le x.Sn (F_laws_szByteS x.Cn l)
  have h2 := laws_szByteS_le x.Body (F_laws_szByteS x.Sn (F_laws_szByteS x.Cn l))
  have h3 := laws_szByteS_le x.Key (F_laws_szByteS x.Body (F_laws_szByteS x.Sn (F_laws_szByteS x.Cn l)))
  simp only [F_laws_szNote, cond_eq_ite, decide_eq_true_eq]
  (repeat' split) <;> omega

theorem slTy_75 : SlTy Try.prog 75 144 12 160 (va [(vi 0), (vi 0), (vi 0), (vs none 0 0), (vs none 0 0), (vi 0), (vi 0), (vs none 0 0), (vs none 0 0), (vi 0), (vi 0), (vi 0)]) := slTy Try.underlying75 (by kernel_rfl) rfl rfl
theorem isAgg_144 : ∀ w, (isAgg 144).run Try.prog w = .ok true w := fun w => by kernel_rfl
theorem sizeOf_144 : ∀ w, (sizeOf 144).run Try.prog w = .ok 12 w := fun w => by kernel_rfl
abbrev L_144 (x : PNote) (a1 : Option Addr) (c1 : Nat) (a2 : Option Addr) (c2 : Nat) (a3 : Option Addr) (c3 : Nat) (a4 : Option Addr) (c4 : Nat) : List Value := [vi x.Kind, vi x.Id, vi x.Role, vs a1 x.Cn.length c1, vs a2 x.Sn.length c2, vi x.Epoch, vi x.Seq, vs a3 x.Body.length c3, vs a4 x.Key.length c4, vi x.A.Host, vi x.A.Port, vi x.Now]
def Q_75 (w : World) (v : Value) (x : (List PNote)) : Prop := ∃ (a1 : Option Addr) (c1 : Nat), v = .slice a1 x.length c1 ∧ RLv LT_144 w 9223372036854775807 a1 x.length c1 x ∧ x.length ≤ 9223372036854775807
theorem mQ_144 {w : World} {x : PNote} {a1 : Option Addr} {c1 : Nat} {a2 : Option Addr} {c2 : Nat} {a3 : Option Addr} {c3 : Nat} {a4 : Option Addr} {c4 : Nat} (h1 : Rd w 1 (.slice a1 x.Cn.length c1) x.Cn.length (x.Cn.map bV)) (l1 : x.Cn.length ≤ 9223372036854775807) (h2 : Rd w 1 (.slice a2 x.Sn.length c2) x.Sn.length (x.Sn.map bV)) (l2 : x.Sn.length ≤ 9223372036854775807) (h3 : Rd w 1 (.slice a3 x.Body.length c3) x.Body.length (x.Body.map bV)) (l3 : x.Body.length ≤ 9223372036854775807) (h4 : Rd w 1 (.slice a4 x.Key.length c4) x.Key.length (x.Key.map bV)) (l4 : x.Key.length ≤ 9223372036854775807) : Q_144 w (va (L_144 x a1 c1 a2 c2 a3 c3 a4 c4)) x := ⟨_, _, _, _, _, _, _, _, rfl, h1, l1, h2, l2, h3, l3, h4, l4⟩
def szT_PNote (x : List PNote) (l : Int) : Int := bif decide (l - (x.length : Int) < 0) then -1 else heldL F_laws_szNote x (l - (x.length : Int))
theorem C_laws_szNoteS (w0 : World) (v_x_a : Value) (x_a : List PNote) (r_x_a : Q_75 w0 v_x_a x_a) (x_left : Int) (pre0 : 0 ≤ x_left) (pre1 : x_left ≤ 1048576) : Fn Try.prog 51 #[v_x_a, (vi x_left)] w0 (fun v w' => Keep w0 w' ∧ O_3 w' w0.heap.size v (szT_PNote x_a x_left)) := by
 obtain ⟨a1, c2, rfl, r3, s4⟩ := r_x_a
 refine fn_of (n := 27) (l := [(vs a1 x_a.length c2), (vi x_left), U, U, U, U, U, U, U, U, U, U, U, U, U, U, U, U, U, U, U, U, U, U, U, U, U]) Try.func51 rfl rfl (by kernel_rfl) rfl ?_
 refine sr ?_
 refine ag (vi 0) wN ?_
 refine nx ?_
 refine mv (vi x_left) wN ?_
 refine mv (vs a1 x_a.length c2) wN ?_
 obtain ⟨y6, r7⟩ := RLv.row r3
 refine ln wN slTy_75 r7 ?_
 refine ar (x_left - (x_a.length : Int)) wN ?_
 refine ag (vi (x_left - (x_a.length : Int))) wN ?_
 refine wl_nil <| wq_then <| wc_seq <| sr ?_
 refine mv (vi (x_left - (x_a.length : Int))) wN ?_
 refine pu (vb (decide ((x_left - (x_a.length : Int)) < 0))) wN ?_
 refine wl_nil <| wq_then ?_
 rcases bt (decide ((x_left - (x_a.length : Int)) < 0)) with h8 | h8
 ·have q9 := of_decide_eq_true h8
  refine ct h8 ?_
  refine sr ?_
  refine ag (vi (-1)) wN ?_
  refine wl_nil <| wq_then <| wc_ret <| wq_then_ret ?_
  refine ret_1 (.inl rfl) (vi (-1)) rfl rfl ?_
  refine ⟨Ch.refl _ _, ?_⟩
  have hF10 : szT_PNote x_a x_left = (-1) := by first | (simp only [szT_PNote, h8]; simp; done) | (have hz := heldL_ne (h := F_laws_szNote) (z := z_PNote) (by assumption) (by omega) (of_decide_eq_true (by assumption)); simp only [szT_PNote, h8, hz]; simp; done) | (have hz := heldL_end (h := F_laws_szNote) (by assumption) (by omega); simp only [szT_PNote, h8, hz]; simp; done)
  rw [hF10]
  exact rfl
 have q11 := of_decide_eq_false h8
 refine cf h8 ?_
 refine wc_skip <| wq_then <| wc_seq <| sr ?_
 refine ag (vi 0) wN ?_
 refine wl_nil <| wq_then <| wc_block ?_
 refine wc_normQ (fun e => [e 0, (vi (x_left - (x_a.length : Int))), e 2, e 3, e 4, (vi ((0 : Nat) : Int)), e 6, e 7, e 8, e 9, e 10, e 11, e 12, e 13, e 14, e 15, e 16, e 17, e 18, e 19, e 20, e 21, e 22, e 23, e 24, e 25, e 26]) rfl ⟨rfl, rfl, rfl, rfl, rfl, (congrArg (Value.int .i64) (show (0 : Int) = ((0 : Nat) : Int) by omega)), rfl, rfl, rfl, rfl, rfl, rfl, rfl, rfl, rfl, rfl, rfl, rfl, rfl, rfl, rfl, rfl, rfl, rfl, rfl, rfl, rfl, trivial⟩ ?_
 refine wc_loop (fun e' w' => ∃ (i : Nat) (q : Int) (u12 : Nat → Value), e' = lst [(vs a1 x_a.length c2), (vi q), (u12 0), (u12 1), (u12 2), (vi ((i : Nat) : Int)), (u12 3), (u12 4), (u12 5), (u12 6), (u12 7), (u12 8), (u12 9), (u12 10), (u12 11), (u12 12), (u12 13), (u12 14), (u12 15), (u12 16), (u12 17), (u12 18), (u12 19), (u12 20), (u12 21), (u12 22), U] ∧ Ch (fun k => w0.heap.size ≤ k) w0 w' ∧ Ch (fun k => w0.heap.size ≤ k) w0 w' ∧ i ≤ x_a.length ∧ heldL F_laws_szNote x_a (x_left - (x_a.length : Int)) = heldL F_laws_szNote (x_a.drop i) q ∧ 0 ≤ q ∧ q ≤ 1048576) (fun e' _ => x_a.length - ((intOf (e' 5))).toNat) ?_ ?_
 ·exact ⟨0, (x_left - (x_a.length : Int)), (unL [U, U, _, _, _, _, _, _, _, U, U, U, U, U, U, U, U, U, U, U, U, U, U]), rfl, (Ch.base w0), (Ch.refl (fun k => w0.heap.size ≤ k) w0), (by omega), (by first | (simp; done) | exact heldL_next (z := z_PNote) (by assumption) (by omega) rfl (by omega)), (by omega), (by omega)⟩
 ·rintro _ w1 ⟨i, q, u12, rfl, m13, k14, i15, i16, i17, i18⟩
  refine wc_seq <| sr ?_
  refine mv (vi ((i : Nat) : Int)) wN ?_
  refine mv (vs a1 x_a.length c2) wN ?_
  obtain ⟨y19, r20⟩ := RLv.row (r3.from0 m13)
  refine ln wN slTy_75 r20 ?_
  refine pu (vb (decide (((i : Nat) : Int) < (x_a.length : Int)))) wN ?_
  refine wl_nil <| wq_then ?_
  rcases bf (decide (((i : Nat) : Int) < (x_a.length : Int))) with h21 | h21
  ·have q65 := of_decide_eq_false h21
   refine cf h21 ?_
   refine wc_exit <| wq_then_exit <| wq_then_exit <| wq_blk_exit <| wq_then <| sr ?_
   refine mv (vi q) wN ?_
   refine ag (vi q) wN ?_
   refine wl_nil <| wq_then <| wc_ret ?_
   refine ret_1 (.inl rfl) (vi q) rfl rfl ?_
   refine ⟨m13.keep0, ?_⟩
   have hF66 : szT_PNote x_a x_left = q := by first | (simp only [szT_PNote, h8, h21]; simp; done) | (have hz := heldL_ne (h := F_laws_szNote) (z := z_PNote) (by assumption) (by omega) (of_decide_eq_true (by assumption)); simp only [szT_PNote, h8, h21, hz]; simp; done) | (have hz := heldL_end (h := F_laws_szNote) (by assumption) (by omega); simp only [szT_PNote, h8, h21, hz]; simp; done)
   rw [hF66]
   exact rfl
  have q22 := of_decide_eq_true h21
  refine ct h21 ?_
  refine wc_skip <| wq_then <| wc_seq <| wc_block <| sr ?_
  refine mv (vs a1 x_a.length c2) wN ?_
  refine mv (vi ((i : Nat) : Int)) wN ?_
  obtain ⟨y23, r24⟩ := RLv.row (r3.from0 m13)
  refine wl_index (v := (vs a1 x_a.length c2)) wN ((i : Nat) : Int) rfl rfl rfl slTy_75 rfl rfl r24 (by first | omega | (simp only [List.length_cons, List.length_nil, List.length_replicate, List.length_append, List.length_take, List.length_set, List.length_map]; omega)) (by first | omega | (simp only [List.length_cons, List.length_nil, List.length_replicate, List.length_append, List.length_take, List.length_set, List.length_map]; omega)) ?_
  obtain ⟨y25, l26, r27, e28, u29⟩ := RLv.el z_PNote (i := i) r3 (by first | omega | (simp only [List.length_cons, List.length_nil, List.length_replicate, List.length_append, List.length_take, List.length_set, List.length_map]; omega))
  obtain ⟨a30, c31, l35, rfl, r32, s33, u36⟩ := SubR.c u29
  obtain ⟨a37, c38, l42, rfl, r39, s40, u43⟩ := SubR.c u36
  obtain ⟨a44, c45, l49, rfl, r46, s47, u50⟩ := SubR.c u43
  obtain ⟨a51, c52, l56, rfl, r53, s54, u57⟩ := SubR.c u50
  obtain rfl := SubR.n u57
  refine wl_loadEN [(vi ((x_a.getD i z_PNote).Kind)), (vi ((x_a.getD i z_PNote).Id)), (vi ((x_a.getD i z_PNote).Role)), (vs a30 (x_a.getD i z_PNote).Cn.length c31), (vs a37 (x_a.getD i z_PNote).Sn.length c38), (vi ((x_a.getD i z_PNote).Epoch)), (vi ((x_a.getD i z_PNote).Seq)), (vs a44 (x_a.getD i z_PNote).Body.length c45), (vs a51 (x_a.getD i z_PNote).Key.length c52), (vi (((x_a.getD i z_PNote).A).Host)), (vi (((x_a.getD i z_PNote).A).Port)), (vi ((x_a.getD i z_PNote).Now))] wN rfl rfl rfl rfl isAgg_144 sizeOf_144 (r27.from0 m13) (by first | omega | (simp only [List.length_cons, List.length_nil, List.length_replicate, List.length_append, List.length_take, List.length_set, List.length_map]; omega)) ((part_of (off := 0) (n := 12) e28 (by first | rfl | simp | omega) (by decide)).trans rfl) ?_
  refine mv (vi q) wN ?_
  refine cl wN (C_laws_szNote w1 _ (x_a.getD i z_PNote) (mQ_144 (r32.from0 m13) s33 (r39.from0 m13) s40 (r46.from0 m13) s47 (r53.from0 m13) s54) q (by omega) (by omega)) ?_
  rintro _ w2 ⟨k58, rfl⟩
  have m59 := m13.extk k58
  have q60 := laws_szNote_le (x_a.getD i z_PNote) q
  refine ag (vi (F_laws_szNote (x_a.getD i z_PNote) q)) wN ?_
  refine nx ?_
  refine mv (vi (F_laws_szNote (x_a.getD i z_PNote) q)) wN ?_
  refine pu (vb (decide ((F_laws_szNote (x_a.getD i z_PNote) q) < 0))) wN ?_
  refine wl_nil <| wq_then ?_
  rcases bt (decide ((F_laws_szNote (x_a.getD i z_PNote) q) < 0)) with h61 | h61
  ·have q62 := of_decide_eq_true h61
   refine ct h61 ?_
   refine sr ?_
   refine ag (vi (-1)) wN ?_
   refine wl_nil <| wq_then <| wc_ret <| wq_blk_ret <| wq_then_ret <| wq_then_ret <| wq_blk_ret <| wq_then_ret ?_
   refine ret_1 (.inl rfl) (vi (-1)) rfl rfl ?_
   refine ⟨m59.keep0, ?_⟩
   have hF63 : szT_PNote x_a x_left = (-1) := by first | (simp only [szT_PNote, h8, h21, h61]; simp; done) | (have hz := heldL_ne (h := F_laws_szNote) (z := z_PNote) (by assumption) (by omega) (of_decide_eq_true (by assumption)); simp only [szT_PNote, h8, h21, h61, hz]; simp; done) | (have hz := heldL_end (h := F_laws_szNote) (by assumption) (by omega); simp only [szT_PNote, h8, h21, h61, hz]; simp; done)
   rw [hF63]
   exact rfl
  have q64 := of_decide_eq_false h61
  refine cf h61 ?_
  refine wc_skip <| wq_blk_normal <| wq_then <| wc_region ?_
  refine mv (vi ((i : Nat) : Int)) wN ?_
  refine ar (((i : Nat) : Int) + 1) wN ?_
  refine ag (vi (((i : Nat) : Int) + 1)) wN ?_
  refine wl_nil ?_
  refine wq_loopQ (w0 := w1) (fun e => [e 0, (vi (F_laws_szNote (x_a.getD i z_PNote) q)), e 2, e 3, e 4, (vi (((i + 1) : Nat) : Int)), e 6, e 7, e 8, e 9, e 10, e 11, e 12, e 13, e 14, e 15, e 16, e 17, e 18, e 19, e 20, e 21, e 22, e 23, e 24, e 25, e 26]) rfl ?_ ?_ ?_
  · exact ⟨rfl, rfl, rfl, rfl, rfl, (congrArg (Value.int .i64) (show ((((i : Nat) : Int) + 1) : Int) = (((i + 1) : Nat) : Int) by omega)), rfl, rfl, rfl, rfl, rfl, rfl, rfl, rfl, rfl, rfl, rfl, rfl, rfl, rfl, rfl, rfl, rfl, rfl, rfl, rfl, rfl, trivial⟩
  · exact ⟨(i + 1), (F_laws_szNote (x_a.getD i z_PNote) q), (unL [_, _, _, _, _, _, _, _, _, _, _, _, _, _, _, _, _, _, _, _, _, _, _]), rfl, m59, (((Ch.refl (fun k => w0.heap.size ≤ k) w0).ext k14 (fun k hk => Nat.le_trans (Nat.le_refl w0.heap.size) hk)).extk k58), (by omega), (by first | (simp; done) | exact heldL_next (z := z_PNote) (by assumption) (by omega) rfl (by omega)), (by omega), (by omega)⟩
  · show x_a.length - ((((i + 1) : Nat) : Int)).toNat < x_a.length - (((i : Nat) : Int)).toNat; omega
theorem ok_szT_PNote {x : List PNote} (h : ¬ szT_PNote x 1048576 < 0) : x.length ≤ 1048576 ∧ ∀ e ∈ x, ∀ b ∈ LT_144.bs e, b.length ≤ 1048576 := by
  unfold szT_PNote at h
  cases h1 : decide ((1048576 : Int) - (x.length : Int) < 0) with
  | true => rw [h1] at h; exact absurd (by decide : (-1 : Int) < 0) h
  | false =>
    rw [h1] at h
    have h2 := of_decide_eq_false h1
    refine ⟨by omega, fun e he b hb => ?_⟩
    obtain ⟨l, hl, hp⟩ := held_pos (g := F_laws_szNote) (fun a l => by simp only [F_laws_szNote, F_laws_szByteS, cond_eq_ite, decide_eq_true_eq]; (repeat' split) <;> omega) x (1048576 - (x.length : Int)) (by have h3 : ¬ heldL F_laws_szNote x (1048576 - (x.length : Int)) < 0 := h; omega) e he
    simp only [F_laws_szNote, F_laws_szByteS, cond_eq_ite, decide_eq_true_eq] at hp
    simp only [LT_144, List.mem_cons, List.not_mem_nil, or_false] at hb
    (repeat' split at hp) <;> first | omega | (rcases hb with rfl | hb <;> first | omega | (rcases hb with rfl | hb <;> first | omega | (rcases hb with rfl | hb <;> first | omega | (subst hb; omega))) | (subst hb; omega)) | (subst hb; omega)

theorem isAgg_5 : ∀ w, (isAgg 5).run Try.prog w = .ok false w := fun w => by kernel_rfl
theorem sizeOf_5 : ∀ w, (sizeOf 5).run Try.prog w = .ok 1 w := fun w => by kernel_rfl
def R_22 (w : World) (v : Value) (x : (List UInt8)) : Prop := ∃ (a1 : Option Addr) (c1 : Nat), v = .slice a1 x.length c1 ∧ Rd w 1 (.slice a1 x.length c1) x.length (x.map bV) ∧ x.length ≤ 1073741824
def O_22 (w : World) (lo : Nat) (v : Value) (x : (List UInt8)) : Prop := ∃ (a1 : Option Addr) (c1 : Nat), v = .slice a1 x.length c1 ∧ w.ownsRow lo 5 1 (.slice a1 x.length c1) x.length (x.map bV) ∧ x.length ≤ 1073741824 ∧ Aps [(a1, c1)]
theorem C_laws_toByteS (w0 : World) (v_x_a : Value) (x_a : List UInt8) (r_x_a : R_22 w0 v_x_a x_a)  : Fn Try.prog 58 #[v_x_a] w0 (fun v w' => Keep w0 w' ∧ O_22 w' w0.heap.size v (cpB x_a)) := by
 obtain ⟨a1, c2, rfl, r3, s4⟩ := r_x_a
 refine fn_of (n := 22) (l := [(vs a1 x_a.length c2), U, U, U, U, U, U, U, U, U, U, U, U, U, U, U, U, U, U, U, U, U]) Try.func58 rfl rfl (by kernel_rfl) rfl ?_
 refine sr ?_
 refine ag (vs none 0 0) wN ?_
 refine nx ?_
 refine mv (vs a1 x_a.length c2) wN ?_
 refine ln wN slTy_22 r3 ?_
 refine wl_makeB (x_a.length) wN rfl rfl rfl slTy_22 (x_a.length : Int) rfl (by omega) (by first | (simp only [List.length_append, List.length_cons, List.length_nil, List.length_replicate]; omega) | omega) (by first | (simp only [List.length_append, List.length_cons, List.length_nil, List.length_replicate]; omega) | omega) ?_
 intro a6 c7 w1 k8 o9
 have m10 := (Ch.base w0).extk k8
 refine ag (vs a6 (List.replicate x_a.length (0 : UInt8)).length c7) wN ?_
 refine wl_nil <| wq_then <| wc_seq <| sr ?_
 refine ag (vi 0) wN ?_
 refine wl_nil <| wq_then <| wc_block ?_
 have hE13 : ((List.replicate x_a.length (0 : UInt8)) : List UInt8) = x_a.take 0 ++ List.replicate (x_a.length - 0) (0 : UInt8) := by first | exact cpB_next (by omega) | simp
 refine wc_normQ (fun e => [e 0, e 1, e 2, e 3, (vi ((0 : Nat) : Int)), e 5, e 6, e 7, e 8, e 9, e 10, e 11, e 12, e 13, e 14, e 15, e 16, e 17, e 18, e 19, e 20, e 21]) rfl ⟨rfl, rfl, rfl, rfl, (congrArg (Value.int .i64) (show (0 : Int) = ((0 : Nat) : Int) by omega)), rfl, rfl, rfl, rfl, rfl, rfl, rfl, rfl, rfl, rfl, rfl, rfl, rfl, rfl, rfl, rfl, rfl, trivial⟩ ?_
 refine wc_loop (fun e' w' => ∃ (k : Nat) (u12 : Nat → Value), e' = lst [(vs a1 x_a.length c2), (u12 0), (vs none 0 0), (vs a6 (List.replicate x_a.length (0 : UInt8)).length c7), (vi ((k : Nat) : Int)), (u12 1), (u12 2), (u12 3), (u12 4), (u12 5), (u12 6), (u12 7), (u12 8), (u12 9), (u12 10), (u12 11), (u12 12), (u12 13), (u12 14), (u12 15), (u12 16), U] ∧ Ch (fun k => w0.heap.size ≤ k) w0 w' ∧ Ch (fun k => w0.heap.size ≤ k) w1 w' ∧ k ≤ x_a.length ∧ World.ownsRow w' w0.heap.size 5 1 (.slice a6 (List.replicate x_a.length (0 : UInt8)).length c7) (List.replicate x_a.length (0 : UInt8)).length ((x_a.take k ++ List.replicate (x_a.length - k) (0 : UInt8)).map bV)) (fun e' _ => x_a.length - ((intOf (e' 4))).toNat) ?_ ?_
 ·exact ⟨0, (unL [U, _, _, _, U, U, U, U, U, U, U, U, U, U, U, U, U]), rfl, m10, (Ch.refl (fun k => w0.heap.size ≤ k) w1), (by omega), (by rw [← hE13]; exact o9)⟩
 ·rintro _ w2 ⟨k, u12, rfl, m14, k15, i16, o17⟩
  refine wc_seq <| sr ?_
  refine mv (vi ((k : Nat) : Int)) wN ?_
  refine mv (vs a1 x_a.length c2) wN ?_
  refine ln wN slTy_22 (r3.from0 m14) ?_
  refine pu (vb (decide (((k : Nat) : Int) < (x_a.length : Int)))) wN ?_
  refine wl_nil <| wq_then ?_
  rcases bf (decide (((k : Nat) : Int) < (x_a.length : Int))) with h18 | h18
  ·have q24 := of_decide_eq_false h18
   refine cf h18 ?_
   refine wc_exit <| wq_then_exit <| wq_then_exit <| wq_blk_exit <| wq_then <| sr ?_
   refine mv (vs a6 (List.replicate x_a.length (0 : UInt8)).length c7) wN ?_
   refine ag (vs a6 (List.replicate x_a.length (0 : UInt8)).length c7) wN ?_
   refine wl_nil <| wq_then <| wc_ret ?_
   refine ret_1 (.inl rfl) (vs a6 (List.replicate x_a.length (0 : UInt8)).length c7) rfl rfl ?_
   refine ⟨m14.keep0, ?_⟩
   have hF25 : cpB x_a = (x_a.take k ++ List.replicate (x_a.length - k) (0 : UInt8)) := by exact cpB_end (by omega)
   rw [hF25]
   have hN26 : (List.replicate x_a.length (0 : UInt8)).length = ((x_a.take k ++ List.replicate (x_a.length - k) (0 : UInt8))).length := by first | (simp only [List.length_append, List.length_take, List.length_replicate, List.length_set, List.length_map]; done) | (simp only [List.length_append, List.length_take, List.length_replicate, List.length_set, List.length_map]; omega)
   rw [hN26] at o17 ⊢
   exact ⟨_, _, rfl, o17, (by rw [← hN26]; rw [List.length_replicate]; first | assumption | omega), ⟨trivial, trivial⟩⟩
  have q19 := of_decide_eq_true h18
  refine ct h18 ?_
  refine wc_skip <| wq_then <| wc_seq <| wc_block <| wc_region ?_
  refine mv (vs a6 (List.replicate x_a.length (0 : UInt8)).length c7) wN ?_
  refine mv (vi ((k : Nat) : Int)) wN ?_
  refine mv (vs a1 x_a.length c2) wN ?_
  refine mv (vi ((k : Nat) : Int)) wN ?_
  refine wl_index (v := (vs a1 x_a.length c2)) wN ((k : Nat) : Int) rfl rfl rfl slTy_22 rfl rfl (r3.from0 m14) (by first | omega | (simp only [List.length_cons, List.length_nil, List.length_replicate, List.length_append, List.length_take, List.length_set, List.length_map]; omega)) (by first | omega | (simp only [List.length_cons, List.length_nil, List.length_replicate, List.length_append, List.length_take, List.length_set, List.length_map]; omega)) ?_
  refine wl_loadE (bV (x_a.getD k 0)) wN rfl rfl rfl rfl isAgg_5 (r3.from0 m14) (bget (by simp) (by first | omega | (simp only [List.length_cons, List.length_nil, List.length_replicate, List.length_append, List.length_take, List.length_set, List.length_map]; omega))) ?_
  refine wl_index (v := (vs a6 (List.replicate x_a.length (0 : UInt8)).length c7)) wN ((k : Nat) : Int) rfl rfl rfl slTy_22 rfl rfl (Rd.of_own o17) (by first | omega | (simp only [List.length_cons, List.length_nil, List.length_replicate, List.length_append, List.length_take, List.length_set, List.length_map]; omega)) (by first | omega | (simp only [List.length_cons, List.length_nil, List.length_replicate, List.length_append, List.length_take, List.length_set, List.length_map]; omega)) ?_
  refine wl_storeB (x_a.take k ++ List.replicate (x_a.length - k) (0 : UInt8)) (k) ((x_a.getD k 0)) wN rfl rfl rfl (by simp) rfl sizeOf_5 o17 (by first | omega | (simp only [List.length_append, List.length_replicate, List.length_take, List.length_set, List.length_map]; omega)) ?_
  intro w3 k20 o21
  have m22 := m14.ext k20 (fun k hk => Nat.le_trans (Nat.le_refl w0.heap.size) (own_lt o9 k hk).1)
  refine wl_nil <| wq_blk_normal <| wq_then <| wc_region ?_
  refine mv (vi ((k : Nat) : Int)) wN ?_
  refine ar (((k : Nat) : Int) + 1) wN ?_
  refine ag (vi (((k : Nat) : Int) + 1)) wN ?_
  refine wl_nil ?_
  have hE23 : (((x_a.take k ++ List.replicate (x_a.length - k) (0 : UInt8)).set k (x_a.getD k 0)) : List UInt8) = x_a.take (k + 1) ++ List.replicate (x_a.length - (k + 1)) (0 : UInt8) := by first | exact cpB_next (by omega) | simp
  refine wq_loopQ (w0 := w2) (fun e => [e 0, e 1, e 2, e 3, (vi (((k + 1) : Nat) : Int)), e 5, e 6, e 7, e 8, e 9, e 10, e 11, e 12, e 13, e 14, e 15, e 16, e 17, e 18, e 19, e 20, e 21]) rfl ?_ ?_ ?_
  · exact ⟨rfl, rfl, rfl, rfl, (congrArg (Value.int .i64) (show ((((k : Nat) : Int) + 1) : Int) = (((k + 1) : Nat) : Int) by omega)), rfl, rfl, rfl, rfl, rfl, rfl, rfl, rfl, rfl, rfl, rfl, rfl, rfl, rfl, rfl, rfl, rfl, trivial⟩
  · exact ⟨(k + 1), (unL [_, _, _, _, _, _, _, _, _, _, _, _, _, _, _, _, _]), rfl, m22, (((Ch.refl (fun k => w0.heap.size ≤ k) w1).ext k15 (fun k hk => Nat.le_trans (Nat.le_refl w0.heap.size) hk)).ext k20 (fun k hk => Nat.le_trans (Nat.le_refl w0.heap.size) (own_lt o9 k hk).1)), (by omega), (by rw [← hE23]; exact o21)⟩
  · show x_a.length - ((((k + 1) : Nat) : Int)).toNat < x_a.length - (((k : Nat) : Int)).toNat; omega

abbrev L_26 (x : PAddr)  : List Value := [vi x.Host, vi x.Port]
theorem zero_26 : ∀ w, (zeroValue 26).run Try.prog w = .ok (va [(vi 0), (vi 0)]) w := fun w => by kernel_rfl
theorem isAgg_3 : ∀ w, (isAgg 3).run Try.prog w = .ok false w := fun w => by kernel_rfl
theorem sizeOf_3 : ∀ w, (sizeOf 3).run Try.prog w = .ok 1 w := fun w => by kernel_rfl
theorem isAgg_26 : ∀ w, (isAgg 26).run Try.prog w = .ok true w := fun w => by kernel_rfl
theorem sizeOf_26 : ∀ w, (sizeOf 26).run Try.prog w = .ok 2 w := fun w => by kernel_rfl
def R_48 (w : World) (v : Value) (x : (PAddr)) : Prop := v = .agg #[.int .i64 x.Host, .int .i64 x.Port]
def O_26 (w : World) (lo : Nat) (v : Value) (x : (PAddr)) : Prop := v = .agg #[.int .i64 x.Host, .int .i64 x.Port]
def F_laws_toAddr (x_a : PAddr) : (PAddr) := x_a
theorem C_laws_toAddr (w0 : World) (v_x_a : Value) (x_a : PAddr) (r_x_a : R_48 w0 v_x_a x_a)  : Fn Try.prog 34 #[v_x_a] w0 (fun v w' => Keep w0 w' ∧ O_26 w' w0.heap.size v (F_laws_toAddr x_a)) := by
 obtain rfl := r_x_a
 refine fn_of (n := 11) (l := [(va (L_26 x_a)), U, U, U, U, U, U, U, U, U, U]) Try.func34 rfl rfl (by kernel_rfl) rfl ?_
 refine sr ?_
 refine bx (L_26 x_a) wN ?_
 intro g1 w1 p2 p3 k4 b5
 have m6 := (Ch.base w0).extk k4
 refine al [(vi 0), (vi 0)] wN zero_26 ?_
 intro g7 w2 p8 p9 k10 b11
 have m12 := m6.extk k10
 refine nx ?_
 refine al [(vi 0), (vi 0)] wN zero_26 ?_
 intro g13 w3 p14 p15 k16 b17
 have m18 := m12.extk k16
 refine nx ?_
 refine pu (vp g1 0) wN ?_
 have b19 := ((b5.kp k10).kp k16)
 refine ld (vi x_a.Host) wN isAgg_3 b19 ?_
 refine pu (vp g13 0) wN ?_
 refine st (vi x_a.Host) [(vi x_a.Host)] [(vi x_a.Host), (vi 0)] wN sizeOf_3 b17 ?_
 intro w4 k20 b21 z22
 have m23 := m18.ext k20 (fun k hk => by subst hk; exact Nat.le_trans (Nat.le_trans k4.size k10.size) p14)
 refine nx ?_
 refine pu (vp g1 1) wN ?_
 have b24 := (b19.ch k20 (Nat.ne_of_lt (Nat.lt_of_lt_of_le p3 (Nat.le_trans k10.size p14))))
 refine ld (vi x_a.Port) wN isAgg_3 b24 ?_
 refine pu (vp g13 1) wN ?_
 refine st (vi x_a.Port) [(vi x_a.Port)] (L_26 x_a) wN sizeOf_3 b21 ?_
 intro w5 k25 b26 z27
 have m28 := m23.ext k25 (fun k hk => by subst hk; exact Nat.le_trans (Nat.le_trans k4.size k10.size) p14)
 refine nx ?_
 refine lN (L_26 x_a) wN isAgg_26 sizeOf_26 b26 ?_
 have b29 := (((b11.kp k16).ch k20 (Nat.ne_of_lt (Nat.lt_of_lt_of_le p9 (Nat.le_trans (Nat.le_refl w2.heap.size) p14)))).ch k25 (Nat.ne_of_lt (Nat.lt_of_lt_of_le p9 (Nat.le_trans (Nat.le_refl w2.heap.size) p14))))
 refine st (va (L_26 x_a)) (L_26 x_a) (L_26 x_a) wN sizeOf_26 b29 ?_
 intro w6 k30 b31 z32
 have m33 := m28.ext k30 (fun k hk => by subst hk; exact Nat.le_trans k4.size p8)
 refine wl_nil <| wq_then <| wc_ret ?_
 refine ret_1 (.inl rfl) (va (L_26 x_a)) rfl (rv_c [(vi x_a.Host), (vi x_a.Port)] rfl b31 isAgg_26 sizeOf_26) ?_
 refine ⟨m33.keep0, ?_⟩
 have hF34 : F_laws_toAddr x_a = x_a := by rfl
 rw [hF34]
 exact rfl

theorem zero_41 : ∀ w, (zeroValue 41).run Try.prog w = .ok (va [(vi 0), (vi 0), (vi 0), (vs none 0 0), (vs none 0 0), (vi 0), (vi 0), (vs none 0 0), (vs none 0 0), (vi 0), (vi 0), (vi 0)]) w := fun w => by kernel_rfl
theorem sizeOf_22 : ∀ w, (sizeOf 22).run Try.prog w = .ok 1 w := fun w => by kernel_rfl
theorem isAgg_48 : ∀ w, (isAgg 48).run Try.prog w = .ok true w := fun w => by kernel_rfl
theorem sizeOf_48 : ∀ w, (sizeOf 48).run Try.prog w = .ok 2 w := fun w => by kernel_rfl
abbrev L_48 (x : PAddr)  : List Value := [vi x.Host, vi x.Port]
theorem isAgg_41 : ∀ w, (isAgg 41).run Try.prog w = .ok true w := fun w => by kernel_rfl
theorem sizeOf_41 : ∀ w, (sizeOf 41).run Try.prog w = .ok 12 w := fun w => by kernel_rfl
def R_144 (w : World) (v : Value) (x : (PNote)) : Prop := ∃ (a1 : Option Addr) (c1 : Nat) (a2 : Option Addr) (c2 : Nat) (a3 : Option Addr) (c3 : Nat) (a4 : Option Addr) (c4 : Nat), v = .agg #[.int .i64 x.Kind, .int .i64 x.Id, .int .i64 x.Role, .slice a1 x.Cn.length c1, .slice a2 x.Sn.length c2, .int .i64 x.Epoch, .int .i64 x.Seq, .slice a3 x.Body.length c3, .slice a4 x.Key.length c4, .int .i64 x.A.Host, .int .i64 x.A.Port, .int .i64 x.Now] ∧ Rd w 1 (.slice a1 x.Cn.length c1) x.Cn.length (x.Cn.map bV) ∧ x.Cn.length ≤ 1073741824 ∧ Rd w 1 (.slice a2 x.Sn.length c2) x.Sn.length (x.Sn.map bV) ∧ x.Sn.length ≤ 1073741824 ∧ Rd w 1 (.slice a3 x.Body.length c3) x.Body.length (x.Body.map bV) ∧ x.Body.length ≤ 1073741824 ∧ Rd w 1 (.slice a4 x.Key.length c4) x.Key.length (x.Key.map bV) ∧ x.Key.length ≤ 1073741824
def O_41 (w : World) (lo : Nat) (v : Value) (x : (PNote)) : Prop := ∃ (a1 : Option Addr) (c1 : Nat) (a2 : Option Addr) (c2 : Nat) (a3 : Option Addr) (c3 : Nat) (a4 : Option Addr) (c4 : Nat), v = .agg #[.int .i64 x.Kind, .int .i64 x.Id, .int .i64 x.Role, .slice a1 x.Cn.length c1, .slice a2 x.Sn.length c2, .int .i64 x.Epoch, .int .i64 x.Seq, .slice a3 x.Body.length c3, .slice a4 x.Key.length c4, .int .i64 x.A.Host, .int .i64 x.A.Port, .int .i64 x.Now] ∧ w.ownsRow lo 5 1 (.slice a1 x.Cn.length c1) x.Cn.length (x.Cn.map bV) ∧ x.Cn.length ≤ 1073741824 ∧ w.ownsRow lo 5 1 (.slice a2 x.Sn.length c2) x.Sn.length (x.Sn.map bV) ∧ x.Sn.length ≤ 1073741824 ∧ w.ownsRow lo 5 1 (.slice a3 x.Body.length c3) x.Body.length (x.Body.map bV) ∧ x.Body.length ≤ 1073741824 ∧ w.ownsRow lo 5 1 (.slice a4 x.Key.length c4) x.Key.length (x.Key.map bV) ∧ x.Key.length ≤ 1073741824 ∧ Aps [(a1, c1), (a2, c2), (a3, c3), (a4, c4)]
theorem mR_22 {w : World} {x : List UInt8} {a1 : Option Addr} {c1 : Nat} (h1 : Rd w 1 (.slice a1 x.length c1) x.length (x.map bV)) (l1 : x.length ≤ 1073741824) : R_22 w (vs a1 x.length c1) x := ⟨_, _, rfl, h1, l1⟩
theorem mR_48 {w : World} {x : PAddr} : R_48 w (va (L_48 x)) x := rfl
def F_laws_toNote (x_a : PNote) : (PNote) := { Kind := x_a.Kind, Id := x_a.Id, Role := x_a.Role, Cn := (cpB x_a.Cn), Sn := (cpB x_a.Sn), Epoch := x_a.Epoch, Seq := x_a.Seq, Body := (cpB x_a.Body), Key := (cpB x_a.Key), A := (F_laws_toAddr x_a.A), Now := x_a.Now : PNote }
theorem C_laws_toNote (w0 : World) (v_x_a : Value) (x_a : PNote) (r_x_a : R_144 w0 v_x_a x_a)  : Fn Try.prog 114 #[v_x_a] w0 (fun v w' => Keep w0 w' ∧ O_41 w' w0.heap.size v (F_laws_toNote x_a)) := by
 obtain ⟨a1, c2, a6, c7, a11, c12, a16, c17, rfl, r3, s4, r8, s9, r13, s14, r18, s19⟩ := r_x_a
 refine fn_of (n := 43) (l := [(va (L_41 x_a a1 c2 a6 c7 a11 c12 a16 c17)), U, U, U, U, U, U, U, U, U, U, U, U, U, U, U, U, U, U, U, U, U, U, U, U, U, U, U, U, U, U, U, U, U, U, U, U, U, U, U, U, U, U]) Try.func114 rfl rfl (by kernel_rfl) rfl ?_
 refine sr ?_
 refine bx (L_41 x_a a1 c2 a6 c7 a11 c12 a16 c17) wN ?_
 intro g21 w1 p22 p23 k24 b25
 have m26 := (Ch.base w0).extk k24
 refine al [(vi 0), (vi 0), (vi 0), (vs none 0 0), (vs none 0 0), (vi 0), (vi 0), (vs none 0 0), (vs none 0 0), (vi 0), (vi 0), (vi 0)] wN zero_41 ?_
 intro g27 w2 p28 p29 k30 b31
 have m32 := m26.extk k30
 refine nx ?_
 refine al [(vi 0), (vi 0), (vi 0), (vs none 0 0), (vs none 0 0), (vi 0), (vi 0), (vs none 0 0), (vs none 0 0), (vi 0), (vi 0), (vi 0)] wN zero_41 ?_
 intro g33 w3 p34 p35 k36 b37
 have m38 := m32.extk k36
 refine nx ?_
 refine pu (vp g21 0) wN ?_
 have b39 := ((b25.kp k30).kp k36)
 refine ld (vi x_a.Kind) wN isAgg_3 b39 ?_
 refine pu (vp g33 0) wN ?_
 refine st (vi x_a.Kind) [(vi x_a.Kind)] [(vi x_a.Kind), (vi 0), (vi 0), (vs none 0 0), (vs none 0 0), (vi 0), (vi 0), (vs none 0 0), (vs none 0 0), (vi 0), (vi 0), (vi 0)] wN sizeOf_3 b37 ?_
 intro w4 k40 b41 z42
 have m43 := m38.ext k40 (fun k hk => by subst hk; exact Nat.le_trans (Nat.le_trans k24.size k30.size) p34)
 refine nx ?_
 refine pu (vp g21 1) wN ?_
 have b44 := (b39.ch k40 (Nat.ne_of_lt (Nat.lt_of_lt_of_le p23 (Nat.le_trans k30.size p34))))
 refine ld (vi x_a.Id) wN isAgg_3 b44 ?_
 refine pu (vp g33 1) wN ?_
 refine st (vi x_a.Id) [(vi x_a.Id)] [(vi x_a.Kind), (vi x_a.Id), (vi 0), (vs none 0 0), (vs none 0 0), (vi 0), (vi 0), (vs none 0 0), (vs none 0 0), (vi 0), (vi 0), (vi 0)] wN sizeOf_3 b41 ?_
 intro w5 k45 b46 z47
 have m48 := m43.ext k45 (fun k hk => by subst hk; exact Nat.le_trans (Nat.le_trans k24.size k30.size) p34)
 refine nx ?_
 refine pu (vp g21 2) wN ?_
 have b49 := (b44.ch k45 (Nat.ne_of_lt (Nat.lt_of_lt_of_le p23 (Nat.le_trans k30.size p34))))
 refine ld (vi x_a.Role) wN isAgg_3 b49 ?_
 refine pu (vp g33 2) wN ?_
 refine st (vi x_a.Role) [(vi x_a.Role)] [(vi x_a.Kind), (vi x_a.Id), (vi x_a.Role), (vs none 0 0), (vs none 0 0), (vi 0), (vi 0), (vs none 0 0), (vs none 0 0), (vi 0), (vi 0), (vi 0)] wN sizeOf_3 b46 ?_
 intro w6 k50 b51 z52
 have m53 := m48.ext k50 (fun k hk => by subst hk; exact Nat.le_trans (Nat.le_trans k24.size k30.size) p34)
 refine nx ?_
 refine pu (vp g21 3) wN ?_
 have b54 := (b49.ch k50 (Nat.ne_of_lt (Nat.lt_of_lt_of_le p23 (Nat.le_trans k30.size p34))))
 refine ld (vs a1 x_a.Cn.length c2) wN isAgg_22 b54 ?_
 refine cl wN (C_laws_toByteS w6 _ x_a.Cn (mR_22 (r3.from0 m53) s4)) ?_
 rintro _ w7 ⟨k55, ⟨a56, c57, rfl, o58, s59, ap61⟩⟩
 have m62 := m53.extk k55
 refine pu (vp g33 3) wN ?_
 have b63 := (b51.kp k55)
 refine st (vs a56 (cpB x_a.Cn).length c57) [(vs a56 (cpB x_a.Cn).length c57)] [(vi x_a.Kind), (vi x_a.Id), (vi x_a.Role), (vs a56 (cpB x_a.Cn).length c57), (vs none 0 0), (vi 0), (vi 0), (vs none 0 0), (vs none 0 0), (vi 0), (vi 0), (vi 0)] wN sizeOf_22 b63 ?_
 intro w8 k64 b65 z66
 have m67 := m62.ext k64 (fun k hk => by subst hk; exact Nat.le_trans (Nat.le_trans k24.size k30.size) p34)
 refine nx ?_
 refine pu (vp g21 4) wN ?_
 have b68 := ((b54.kp k55).ch k64 (Nat.ne_of_lt (Nat.lt_of_lt_of_le p23 (Nat.le_trans k30.size p34))))
 refine ld (vs a6 x_a.Sn.length c7) wN isAgg_22 b68 ?_
 refine cl wN (C_laws_toByteS w8 _ x_a.Sn (mR_22 (r8.from0 m67) s9)) ?_
 rintro _ w9 ⟨k69, ⟨a70, c71, rfl, o72, s73, ap75⟩⟩
 have m76 := m67.extk k69
 refine pu (vp g33 4) wN ?_
 have b77 := (b65.kp k69)
 refine st (vs a70 (cpB x_a.Sn).length c71) [(vs a70 (cpB x_a.Sn).length c71)] [(vi x_a.Kind), (vi x_a.Id), (vi x_a.Role), (vs a56 (cpB x_a.Cn).length c57), (vs a70 (cpB x_a.Sn).length c71), (vi 0), (vi 0), (vs none 0 0), (vs none 0 0), (vi 0), (vi 0), (vi 0)] wN sizeOf_22 b77 ?_
 intro w10 k78 b79 z80
 have m81 := m76.ext k78 (fun k hk => by subst hk; exact Nat.le_trans (Nat.le_trans k24.size k30.size) p34)
 refine nx ?_
 refine pu (vp g21 5) wN ?_
 have b82 := ((b68.kp k69).ch k78 (Nat.ne_of_lt (Nat.lt_of_lt_of_le p23 (Nat.le_trans k30.size p34))))
 refine ld (vi x_a.Epoch) wN isAgg_3 b82 ?_
 refine pu (vp g33 5) wN ?_
 refine st (vi x_a.Epoch) [(vi x_a.Epoch)] [(vi x_a.Kind), (vi x_a.Id), (vi x_a.Role), (vs a56 (cpB x_a.Cn).length c57), (vs a70 (cpB x_a.Sn).length c71), (vi x_a.Epoch), (vi 0), (vs none 0 0), (vs none 0 0), (vi 0), (vi 0), (vi 0)] wN sizeOf_3 b79 ?_
 intro w11 k83 b84 z85
 have m86 := m81.ext k83 (fun k hk => by subst hk; exact Nat.le_trans (Nat.le_trans k24.size k30.size) p34)
 refine nx ?_
 refine pu (vp g21 6) wN ?_
 have b87 := (b82.ch k83 (Nat.ne_of_lt (Nat.lt_of_lt_of_le p23 (Nat.le_trans k30.size p34))))
 refine ld (vi x_a.Seq) wN isAgg_3 b87 ?_
 refine pu (vp g33 6) wN ?_
 refine st (vi x_a.Seq) [(vi x_a.Seq)] [(vi x_a.Kind), (vi x_a.Id), (vi x_a.Role), (vs a56 (cpB x_a.Cn).length c57), (vs a70 (cpB x_a.Sn).length c71), (vi x_a.Epoch), (vi x_a.Seq), (vs none 0 0), (vs none 0 0), (vi 0), (vi 0), (vi 0)] wN sizeOf_3 b84 ?_
 intro w12 k88 b89 z90
 have m91 := m86.ext k88 (fun k hk => by subst hk; exact Nat.le_trans (Nat.le_trans k24.size k30.size) p34)
 refine nx ?_
 refine pu (vp g21 7) wN ?_
 have b92 := (b87.ch k88 (Nat.ne_of_lt (Nat.lt_of_lt_of_le p23 (Nat.le_trans k30.size p34))))
 refine ld (vs a11 x_a.Body.length c12) wN isAgg_22 b92 ?_
 refine cl wN (C_laws_toByteS w12 _ x_a.Body (mR_22 (r13.from0 m91) s14)) ?_
 rintro _ w13 ⟨k93, ⟨a94, c95, rfl, o96, s97, ap99⟩⟩
 have m100 := m91.extk k93
 refine pu (vp g33 7) wN ?_
 have b101 := (b89.kp k93)
 refine st (vs a94 (cpB x_a.Body).length c95) [(vs a94 (cpB x_a.Body).length c95)] [(vi x_a.Kind), (vi x_a.Id), (vi x_a.Role), (vs a56 (cpB x_a.Cn).length c57), (vs a70 (cpB x_a.Sn).length c71), (vi x_a.Epoch), (vi x_a.Seq), (vs a94 (cpB x_a.Body).length c95), (vs none 0 0), (vi 0), (vi 0), (vi 0)] wN sizeOf_22 b101 ?_
 intro w14 k102 b103 z104
 have m105 := m100.ext k102 (fun k hk => by subst hk; exact Nat.le_trans (Nat.le_trans k24.size k30.size) p34)
 refine nx ?_
 refine pu (vp g21 8) wN ?_
 have b106 := ((b92.kp k93).ch k102 (Nat.ne_of_lt (Nat.lt_of_lt_of_le p23 (Nat.le_trans k30.size p34))))
 refine ld (vs a16 x_a.Key.length c17) wN isAgg_22 b106 ?_
 refine cl wN (C_laws_toByteS w14 _ x_a.Key (mR_22 (r18.from0 m105) s19)) ?_
 rintro _ w15 ⟨k107, ⟨a108, c109, rfl, o110, s111, ap113⟩⟩
 have m114 := m105.extk k107
 refine pu (vp g33 8) wN ?_
 have b115 := (b103.kp k107)
 refine st (vs a108 (cpB x_a.Key).length c109) [(vs a108 (cpB x_a.Key).length c109)] [(vi x_a.Kind), (vi x_a.Id), (vi x_a.Role), (vs a56 (cpB x_a.Cn).length c57), (vs a70 (cpB x_a.Sn).length c71), (vi x_a.Epoch), (vi x_a.Seq), (vs a94 (cpB x_a.Body).length c95), (vs a108 (cpB x_a.Key).length c109), (vi 0), (vi 0), (vi 0)] wN sizeOf_22 b115 ?_
 intro w16 k116 b117 z118
 have m119 := m114.ext k116 (fun k hk => by subst hk; exact Nat.le_trans (Nat.le_trans k24.size k30.size) p34)
 refine nx ?_
 refine pu (vp g21 9) wN ?_
 have b120 := ((b106.kp k107).ch k116 (Nat.ne_of_lt (Nat.lt_of_lt_of_le p23 (Nat.le_trans k30.size p34))))
 refine lN (L_26 x_a.A) wN isAgg_48 sizeOf_48 b120 ?_
 refine cl wN (C_laws_toAddr w16 _ x_a.A (mR_48)) ?_
 rintro _ w17 ⟨k121, rfl⟩
 have m122 := m119.extk k121
 refine pu (vp g33 9) wN ?_
 have b123 := (b117.kp k121)
 refine st (va (L_26 (F_laws_toAddr x_a.A))) (L_26 (F_laws_toAddr x_a.A)) [(vi x_a.Kind), (vi x_a.Id), (vi x_a.Role), (vs a56 (cpB x_a.Cn).length c57), (vs a70 (cpB x_a.Sn).length c71), (vi x_a.Epoch), (vi x_a.Seq), (vs a94 (cpB x_a.Body).length c95), (vs a108 (cpB x_a.Key).length c109), (vi ((F_laws_toAddr x_a.A).Host)), (vi ((F_laws_toAddr x_a.A).Port)), (vi 0)] wN sizeOf_26 b123 ?_
 intro w18 k124 b125 z126
 have m127 := m122.ext k124 (fun k hk => by subst hk; exact Nat.le_trans (Nat.le_trans k24.size k30.size) p34)
 refine nx ?_
 refine pu (vp g21 11) wN ?_
 have b128 := ((b120.kp k121).ch k124 (Nat.ne_of_lt (Nat.lt_of_lt_of_le p23 (Nat.le_trans k30.size p34))))
 refine ld (vi x_a.Now) wN isAgg_3 b128 ?_
 refine pu (vp g33 11) wN ?_
 refine st (vi x_a.Now) [(vi x_a.Now)] [(vi x_a.Kind), (vi x_a.Id), (vi x_a.Role), (vs a56 (cpB x_a.Cn).length c57), (vs a70 (cpB x_a.Sn).length c71), (vi x_a.Epoch), (vi x_a.Seq), (vs a94 (cpB x_a.Body).length c95), (vs a108 (cpB x_a.Key).length c109), (vi ((F_laws_toAddr x_a.A).Host)), (vi ((F_laws_toAddr x_a.A).Port)), (vi x_a.Now)] wN sizeOf_3 b125 ?_
 intro w19 k129 b130 z131
 have m132 := m127.ext k129 (fun k hk => by subst hk; exact Nat.le_trans (Nat.le_trans k24.size k30.size) p34)
 refine nx ?_
 refine lN [(vi x_a.Kind), (vi x_a.Id), (vi x_a.Role), (vs a56 (cpB x_a.Cn).length c57), (vs a70 (cpB x_a.Sn).length c71), (vi x_a.Epoch), (vi x_a.Seq), (vs a94 (cpB x_a.Body).length c95), (vs a108 (cpB x_a.Key).length c109), (vi ((F_laws_toAddr x_a.A).Host)), (vi ((F_laws_toAddr x_a.A).Port)), (vi x_a.Now)] wN isAgg_41 sizeOf_41 b130 ?_
 have b133 := (((((((((((((((((b31.kp k36).ch k40 (Nat.ne_of_lt (Nat.lt_of_lt_of_le p29 (Nat.le_trans (Nat.le_refl w2.heap.size) p34)))).ch k45 (Nat.ne_of_lt (Nat.lt_of_lt_of_le p29 (Nat.le_trans (Nat.le_refl w2.heap.size) p34)))).ch k50 (Nat.ne_of_lt (Nat.lt_of_lt_of_le p29 (Nat.le_trans (Nat.le_refl w2.heap.size) p34)))).kp k55).ch k64 (Nat.ne_of_lt (Nat.lt_of_lt_of_le p29 (Nat.le_trans (Nat.le_refl w2.heap.size) p34)))).kp k69).ch k78 (Nat.ne_of_lt (Nat.lt_of_lt_of_le p29 (Nat.le_trans (Nat.le_refl w2.heap.size) p34)))).ch k83 (Nat.ne_of_lt (Nat.lt_of_lt_of_le p29 (Nat.le_trans (Nat.le_refl w2.heap.size) p34)))).ch k88 (Nat.ne_of_lt (Nat.lt_of_lt_of_le p29 (Nat.le_trans (Nat.le_refl w2.heap.size) p34)))).kp k93).ch k102 (Nat.ne_of_lt (Nat.lt_of_lt_of_le p29 (Nat.le_trans (Nat.le_refl w2.heap.size) p34)))).kp k107).ch k116 (Nat.ne_of_lt (Nat.lt_of_lt_of_le p29 (Nat.le_trans (Nat.le_refl w2.heap.size) p34)))).kp k121).ch k124 (Nat.ne_of_lt (Nat.lt_of_lt_of_le p29 (Nat.le_trans (Nat.le_refl w2.heap.size) p34)))).ch k129 (Nat.ne_of_lt (Nat.lt_of_lt_of_le p29 (Nat.le_trans (Nat.le_refl w2.heap.size) p34))))
 refine st (va [(vi x_a.Kind), (vi x_a.Id), (vi x_a.Role), (vs a56 (cpB x_a.Cn).length c57), (vs a70 (cpB x_a.Sn).length c71), (vi x_a.Epoch), (vi x_a.Seq), (vs a94 (cpB x_a.Body).length c95), (vs a108 (cpB x_a.Key).length c109), (vi ((F_laws_toAddr x_a.A).Host)), (vi ((F_laws_toAddr x_a.A).Port)), (vi x_a.Now)]) [(vi x_a.Kind), (vi x_a.Id), (vi x_a.Role), (vs a56 (cpB x_a.Cn).length c57), (vs a70 (cpB x_a.Sn).length c71), (vi x_a.Epoch), (vi x_a.Seq), (vs a94 (cpB x_a.Body).length c95), (vs a108 (cpB x_a.Key).length c109), (vi ((F_laws_toAddr x_a.A).Host)), (vi ((F_laws_toAddr x_a.A).Port)), (vi x_a.Now)] [(vi x_a.Kind), (vi x_a.Id), (vi x_a.Role), (vs a56 (cpB x_a.Cn).length c57), (vs a70 (cpB x_a.Sn).length c71), (vi x_a.Epoch), (vi x_a.Seq), (vs a94 (cpB x_a.Body).length c95), (vs a108 (cpB x_a.Key).length c109), (vi ((F_laws_toAddr x_a.A).Host)), (vi ((F_laws_toAddr x_a.A).Port)), (vi x_a.Now)] wN sizeOf_41 b133 ?_
 intro w20 k134 b135 z136
 have m137 := m132.ext k134 (fun k hk => by subst hk; exact Nat.le_trans k24.size p28)
 refine wl_nil <| wq_then <| wc_ret ?_
 have o138 := (own_ch (own_ch (own_ch (own_kp (own_ch (own_kp (own_ch (own_kp (own_ch (own_ch (own_ch (own_kp (own_ch o58 k64 (fun g hg hlt hk => by have h1 := (own_lt o58 g hg).1; have h2 := Nat.lt_of_lt_of_le p35 (t3 k40.size k45.size k50.size); omega)) k69) k78 (fun g hg hlt hk => by have h1 := (own_lt o58 g hg).1; have h2 := Nat.lt_of_lt_of_le p35 (t3 k40.size k45.size k50.size); omega)) k83 (fun g hg hlt hk => by have h1 := (own_lt o58 g hg).1; have h2 := Nat.lt_of_lt_of_le p35 (t3 k40.size k45.size k50.size); omega)) k88 (fun g hg hlt hk => by have h1 := (own_lt o58 g hg).1; have h2 := Nat.lt_of_lt_of_le p35 (t3 k40.size k45.size k50.size); omega)) k93) k102 (fun g hg hlt hk => by have h1 := (own_lt o58 g hg).1; have h2 := Nat.lt_of_lt_of_le p35 (t3 k40.size k45.size k50.size); omega)) k107) k116 (fun g hg hlt hk => by have h1 := (own_lt o58 g hg).1; have h2 := Nat.lt_of_lt_of_le p35 (t3 k40.size k45.size k50.size); omega)) k121) k124 (fun g hg hlt hk => by have h1 := (own_lt o58 g hg).1; have h2 := Nat.lt_of_lt_of_le p35 (t3 k40.size k45.size k50.size); omega)) k129 (fun g hg hlt hk => by have h1 := (own_lt o58 g hg).1; have h2 := Nat.lt_of_lt_of_le p35 (t3 k40.size k45.size k50.size); omega)) k134 (fun g hg hlt hk => by have h1 := (own_lt o58 g hg).1; have h2 := Nat.lt_of_lt_of_le p29 (t4 k36.size k40.size k45.size k50.size); omega))
 have o139 := (own_ch (own_ch (own_ch (own_kp (own_ch (own_kp (own_ch (own_kp (own_ch (own_ch (own_ch o72 k78 (fun g hg hlt hk => by have h1 := (own_lt o72 g hg).1; have h2 := Nat.lt_of_lt_of_le p35 (t5 k40.size k45.size k50.size k55.size k64.size); omega)) k83 (fun g hg hlt hk => by have h1 := (own_lt o72 g hg).1; have h2 := Nat.lt_of_lt_of_le p35 (t5 k40.size k45.size k50.size k55.size k64.size); omega)) k88 (fun g hg hlt hk => by have h1 := (own_lt o72 g hg).1; have h2 := Nat.lt_of_lt_of_le p35 (t5 k40.size k45.size k50.size k55.size k64.size); omega)) k93) k102 (fun g hg hlt hk => by have h1 := (own_lt o72 g hg).1; have h2 := Nat.lt_of_lt_of_le p35 (t5 k40.size k45.size k50.size k55.size k64.size); omega)) k107) k116 (fun g hg hlt hk => by have h1 := (own_lt o72 g hg).1; have h2 := Nat.lt_of_lt_of_le p35 (t5 k40.size k45.size k50.size k55.size k64.size); omega)) k121) k124 (fun g hg hlt hk => by have h1 := (own_lt o72 g hg).1; have h2 := Nat.lt_of_lt_of_le p35 (t5 k40.size k45.size k50.size k55.size k64.size); omega)) k129 (fun g hg hlt hk => by have h1 := (own_lt o72 g hg).1; have h2 := Nat.lt_of_lt_of_le p35 (t5 k40.size k45.size k50.size k55.size k64.size); omega)) k134 (fun g hg hlt hk => by have h1 := (own_lt o72 g hg).1; have h2 := Nat.lt_of_lt_of_le p29 (t6 k36.size k40.size k45.size k50.size k55.size k64.size); omega))
 have o140 := (own_ch (own_ch (own_ch (own_kp (own_ch (own_kp (own_ch o96 k102 (fun g hg hlt hk => by have h1 := (own_lt o96 g hg).1; have h2 := Nat.lt_of_lt_of_le p35 (t9 k40.size k45.size k50.size k55.size k64.size k69.size k78.size k83.size k88.size); omega)) k107) k116 (fun g hg hlt hk => by have h1 := (own_lt o96 g hg).1; have h2 := Nat.lt_of_lt_of_le p35 (t9 k40.size k45.size k50.size k55.size k64.size k69.size k78.size k83.size k88.size); omega)) k121) k124 (fun g hg hlt hk => by have h1 := (own_lt o96 g hg).1; have h2 := Nat.lt_of_lt_of_le p35 (t9 k40.size k45.size k50.size k55.size k64.size k69.size k78.size k83.size k88.size); omega)) k129 (fun g hg hlt hk => by have h1 := (own_lt o96 g hg).1; have h2 := Nat.lt_of_lt_of_le p35 (t9 k40.size k45.size k50.size k55.size k64.size k69.size k78.size k83.size k88.size); omega)) k134 (fun g hg hlt hk => by have h1 := (own_lt o96 g hg).1; have h2 := Nat.lt_of_lt_of_le p29 (t10 k36.size k40.size k45.size k50.size k55.size k64.size k69.size k78.size k83.size k88.size); omega))
 have o141 := (own_ch (own_ch (own_ch (own_kp (own_ch o110 k116 (fun g hg hlt hk => by have h1 := (own_lt o110 g hg).1; have h2 := Nat.lt_of_lt_of_le p35 (t11 k40.size k45.size k50.size k55.size k64.size k69.size k78.size k83.size k88.size k93.size k102.size); omega)) k121) k124 (fun g hg hlt hk => by have h1 := (own_lt o110 g hg).1; have h2 := Nat.lt_of_lt_of_le p35 (t11 k40.size k45.size k50.size k55.size k64.size k69.size k78.size k83.size k88.size k93.size k102.size); omega)) k129 (fun g hg hlt hk => by have h1 := (own_lt o110 g hg).1; have h2 := Nat.lt_of_lt_of_le p35 (t11 k40.size k45.size k50.size k55.size k64.size k69.size k78.size k83.size k88.size k93.size k102.size); omega)) k134 (fun g hg hlt hk => by have h1 := (own_lt o110 g hg).1; have h2 := Nat.lt_of_lt_of_le p29 (t12 k36.size k40.size k45.size k50.size k55.size k64.size k69.size k78.size k83.size k88.size k93.size k102.size); omega))
 refine ret_1 (.inl rfl) (va [(vi x_a.Kind), (vi x_a.Id), (vi x_a.Role), (vs a56 (cpB x_a.Cn).length c57), (vs a70 (cpB x_a.Sn).length c71), (vi x_a.Epoch), (vi x_a.Seq), (vs a94 (cpB x_a.Body).length c95), (vs a108 (cpB x_a.Key).length c109), (vi ((F_laws_toAddr x_a.A).Host)), (vi ((F_laws_toAddr x_a.A).Port)), (vi x_a.Now)]) rfl (rv_c [(vi x_a.Kind), (vi x_a.Id), (vi x_a.Role), (vs a56 (cpB x_a.Cn).length c57), (vs a70 (cpB x_a.Sn).length c71), (vi x_a.Epoch), (vi x_a.Seq), (vs a94 (cpB x_a.Body).length c95), (vs a108 (cpB x_a.Key).length c109), (vi ((F_laws_toAddr x_a.A).Host)), (vi ((F_laws_toAddr x_a.A).Port)), (vi x_a.Now)] rfl b135 isAgg_41 sizeOf_41) ?_
 refine ⟨m137.keep0, ?_⟩
 have hF142 : F_laws_toNote x_a = { Kind := x_a.Kind, Id := x_a.Id, Role := x_a.Role, Cn := (cpB x_a.Cn), Sn := (cpB x_a.Sn), Epoch := x_a.Epoch, Seq := x_a.Seq, Body := (cpB x_a.Body), Key := (cpB x_a.Key), A := (F_laws_toAddr x_a.A), Now := x_a.Now : PNote } := by rfl
 rw [hF142]
 exact ⟨_, _, _, _, _, _, _, _, rfl, (own_lo o138 (t6 k24.size k30.size k36.size k40.size k45.size k50.size)), s59, (own_lo o139 (t8 k24.size k30.size k36.size k40.size k45.size k50.size k55.size k64.size)), s73, (own_lo o140 (t12 k24.size k30.size k36.size k40.size k45.size k50.size k55.size k64.size k69.size k78.size k83.size k88.size)), s97, (own_lo o141 (t3 (t12 k24.size k30.size k36.size k40.size k45.size k50.size k55.size k64.size k69.size k78.size k83.size k88.size) k93.size k102.size)), s111, ⟨⟨(Ap.lt o58 o72 k64.size), ⟨(Ap.lt o58 o96 (t5 k64.size k69.size k78.size k83.size k88.size)), ⟨(Ap.lt o58 o110 (t7 k64.size k69.size k78.size k83.size k88.size k93.size k102.size)), trivial⟩⟩⟩, ⟨⟨(Ap.lt o72 o96 (t3 k78.size k83.size k88.size)), ⟨(Ap.lt o72 o110 (t5 k78.size k83.size k88.size k93.size k102.size)), trivial⟩⟩, ⟨⟨(Ap.lt o96 o110 k102.size), trivial⟩, ⟨trivial, trivial⟩⟩⟩⟩⟩

theorem slTy_36 : SlTy Try.prog 36 41 12 160 (va [(vi 0), (vi 0), (vi 0), (vs none 0 0), (vs none 0 0), (vi 0), (vi 0), (vs none 0 0), (vs none 0 0), (vi 0), (vi 0), (vi 0)]) := slTy Try.underlying36 (by kernel_rfl) rfl rfl
def R_75 (w : World) (v : Value) (x : (List PNote)) : Prop := ∃ (a1 : Option Addr) (c1 : Nat), v = .slice a1 x.length c1 ∧ RLv LT_144 w 1073741824 a1 x.length c1 x ∧ x.length ≤ 1073741824
def O_36 (w : World) (lo : Nat) (v : Value) (x : (List PNote)) : Prop := ∃ (a1 : Option Addr) (c1 : Nat), v = .slice a1 x.length c1 ∧ OLv LT_41 w lo w.heap.size a1 x.length c1 x ∧ x.length ≤ 1073741824 ∧ Aps [(a1, c1)]
theorem mR_144 {w : World} {x : PNote} {a1 : Option Addr} {c1 : Nat} {a2 : Option Addr} {c2 : Nat} {a3 : Option Addr} {c3 : Nat} {a4 : Option Addr} {c4 : Nat} (h1 : Rd w 1 (.slice a1 x.Cn.length c1) x.Cn.length (x.Cn.map bV)) (l1 : x.Cn.length ≤ 1073741824) (h2 : Rd w 1 (.slice a2 x.Sn.length c2) x.Sn.length (x.Sn.map bV)) (l2 : x.Sn.length ≤ 1073741824) (h3 : Rd w 1 (.slice a3 x.Body.length c3) x.Body.length (x.Body.map bV)) (l3 : x.Body.length ≤ 1073741824) (h4 : Rd w 1 (.slice a4 x.Key.length c4) x.Key.length (x.Key.map bV)) (l4 : x.Key.length ≤ 1073741824) : R_144 w (va (L_144 x a1 c1 a2 c2 a3 c3 a4 c4)) x := ⟨_, _, _, _, _, _, _, _, rfl, h1, l1, h2, l2, h3, l3, h4, l4⟩
theorem C_laws_toNoteS (w0 : World) (v_x_a : Value) (x_a : List PNote) (r_x_a : R_75 w0 v_x_a x_a)  : Fn Try.prog 53 #[v_x_a] w0 (fun v w' => Keep w0 w' ∧ O_36 w' w0.heap.size v (cpL x_a)) := by
 obtain ⟨a1, c2, rfl, r3, s4⟩ := r_x_a
 refine fn_of (n := 23) (l := [(vs a1 x_a.length c2), U, U, U, U, U, U, U, U, U, U, U, U, U, U, U, U, U, U, U, U, U, U]) Try.func53 rfl rfl (by kernel_rfl) rfl ?_
 refine sr ?_
 refine ag (vs none 0 0) wN ?_
 refine nx ?_
 refine mv (vs a1 x_a.length c2) wN ?_
 obtain ⟨y6, r7⟩ := RLv.row r3
 refine ln wN slTy_75 r7 ?_
 refine wl_makeL LT_41 z_PNote [(none, 0), (none, 0), (none, 0), (none, 0)] (x_a.length) wN slTy_36 rfl rfl (fun w lo => ⟨⟨own_nil _ _ _ _, Nat.zero_le _⟩, ⟨⟨own_nil _ _ _ _, Nat.zero_le _⟩, ⟨⟨own_nil _ _ _ _, Nat.zero_le _⟩, ⟨⟨own_nil _ _ _ _, Nat.zero_le _⟩, trivial⟩⟩⟩⟩) (by simp) (x_a.length : Int) rfl (by omega) ?_
 intro a8 c9 w1 k10 o11
 have m12 := (Ch.base w0).extk k10
 obtain ⟨y14, o15⟩ := OLv.ow o11
 refine ag (vs a8 (List.replicate x_a.length z_PNote).length c9) wN ?_
 refine wl_nil <| wq_then <| wc_seq <| sr ?_
 refine ag (vi 0) wN ?_
 refine wl_nil <| wq_then <| wc_block ?_
 have hE17 : ((List.replicate x_a.length z_PNote) : List (PNote)) = x_a.take 0 ++ List.replicate (x_a.length - 0) z_PNote := by first | exact cp_next (by omega) | simp
 refine wc_normQ (fun e => [e 0, e 1, e 2, e 3, (vi ((0 : Nat) : Int)), e 5, e 6, e 7, e 8, e 9, e 10, e 11, e 12, e 13, e 14, e 15, e 16, e 17, e 18, e 19, e 20, e 21, e 22]) rfl ⟨rfl, rfl, rfl, rfl, (congrArg (Value.int .i64) (show (0 : Int) = ((0 : Nat) : Int) by omega)), rfl, rfl, rfl, rfl, rfl, rfl, rfl, rfl, rfl, rfl, rfl, rfl, rfl, rfl, rfl, rfl, rfl, rfl, trivial⟩ ?_
 refine wc_loop (fun e' w' => ∃ (k : Nat) (u16 : Nat → Value), e' = lst [(vs a1 x_a.length c2), (u16 0), (vs none 0 0), (vs a8 (List.replicate x_a.length z_PNote).length c9), (vi ((k : Nat) : Int)), (u16 1), (u16 2), (u16 3), (u16 4), (u16 5), (u16 6), (u16 7), (u16 8), (u16 9), (u16 10), (u16 11), (u16 12), (u16 13), (u16 14), (u16 15), (u16 16), (u16 17), U] ∧ Ch (fun k => w0.heap.size ≤ k) w0 w' ∧ Ch (fun k => w0.heap.size ≤ k) w1 w' ∧ k ≤ x_a.length ∧ OLv LT_41 w' w0.heap.size w'.heap.size a8 ((List.replicate x_a.length z_PNote).length) c9 (x_a.take k ++ List.replicate (x_a.length - k) z_PNote)) (fun e' _ => x_a.length - ((intOf (e' 4))).toNat) ?_ ?_
 ·exact ⟨0, (unL [U, _, _, _, U, U, U, U, U, U, U, U, U, U, U, U, U, U]), rfl, m12, (Ch.refl (fun k => w0.heap.size ≤ k) w1), (by omega), (by rw [← hE17]; exact (OLv.now o11))⟩
 ·rintro _ w2 ⟨k, u16, rfl, m18, k19, i20, o21⟩
  refine wc_seq <| sr ?_
  refine mv (vi ((k : Nat) : Int)) wN ?_
  refine mv (vs a1 x_a.length c2) wN ?_
  obtain ⟨y22, r23⟩ := RLv.row (r3.from0 m18)
  refine ln wN slTy_75 r23 ?_
  refine pu (vb (decide (((k : Nat) : Int) < (x_a.length : Int)))) wN ?_
  refine wl_nil <| wq_then ?_
  rcases bf (decide (((k : Nat) : Int) < (x_a.length : Int))) with h24 | h24
  ·have q91 := of_decide_eq_false h24
   refine cf h24 ?_
   refine wc_exit <| wq_then_exit <| wq_then_exit <| wq_blk_exit <| wq_then <| sr ?_
   refine mv (vs a8 (List.replicate x_a.length z_PNote).length c9) wN ?_
   refine ag (vs a8 (List.replicate x_a.length z_PNote).length c9) wN ?_
   refine wl_nil <| wq_then <| wc_ret ?_
   refine ret_1 (.inl rfl) (vs a8 (List.replicate x_a.length z_PNote).length c9) rfl rfl ?_
   refine ⟨m18.keep0, ?_⟩
   have hF92 : cpL x_a = (x_a.take k ++ List.replicate (x_a.length - k) z_PNote) := by exact cpL_end (by omega)
   rw [hF92]
   have hN93 : (List.replicate x_a.length z_PNote).length = ((x_a.take k ++ List.replicate (x_a.length - k) z_PNote)).length := by first | (simp only [List.length_append, List.length_take, List.length_replicate, List.length_set, List.length_map]; done) | (simp only [List.length_append, List.length_take, List.length_replicate, List.length_set, List.length_map]; omega)
   rw [hN93] at o21 ⊢
   exact ⟨_, _, rfl, (OLv.now (OLv.low o21 (Nat.le_refl w0.heap.size))), (by rw [← hN93]; rw [List.length_replicate]; first | assumption | omega), ⟨trivial, trivial⟩⟩
  have q25 := of_decide_eq_true h24
  refine ct h24 ?_
  refine wc_skip <| wq_then <| wc_seq <| wc_block <| wc_region ?_
  refine mv (vs a8 (List.replicate x_a.length z_PNote).length c9) wN ?_
  refine mv (vi ((k : Nat) : Int)) wN ?_
  refine mv (vs a1 x_a.length c2) wN ?_
  refine mv (vi ((k : Nat) : Int)) wN ?_
  obtain ⟨y26, r27⟩ := RLv.row (r3.from0 m18)
  refine wl_index (v := (vs a1 x_a.length c2)) wN ((k : Nat) : Int) rfl rfl rfl slTy_75 rfl rfl r27 (by first | omega | (simp only [List.length_cons, List.length_nil, List.length_replicate, List.length_append, List.length_take, List.length_set, List.length_map]; omega)) (by first | omega | (simp only [List.length_cons, List.length_nil, List.length_replicate, List.length_append, List.length_take, List.length_set, List.length_map]; omega)) ?_
  obtain ⟨y28, l29, r30, e31, u32⟩ := RLv.el z_PNote (i := k) r3 (by first | omega | (simp only [List.length_cons, List.length_nil, List.length_replicate, List.length_append, List.length_take, List.length_set, List.length_map]; omega))
  obtain ⟨a33, c34, l38, rfl, r35, s36, u39⟩ := SubR.c u32
  obtain ⟨a40, c41, l45, rfl, r42, s43, u46⟩ := SubR.c u39
  obtain ⟨a47, c48, l52, rfl, r49, s50, u53⟩ := SubR.c u46
  obtain ⟨a54, c55, l59, rfl, r56, s57, u60⟩ := SubR.c u53
  obtain rfl := SubR.n u60
  refine wl_loadEN [(vi ((x_a.getD k z_PNote).Kind)), (vi ((x_a.getD k z_PNote).Id)), (vi ((x_a.getD k z_PNote).Role)), (vs a33 (x_a.getD k z_PNote).Cn.length c34), (vs a40 (x_a.getD k z_PNote).Sn.length c41), (vi ((x_a.getD k z_PNote).Epoch)), (vi ((x_a.getD k z_PNote).Seq)), (vs a47 (x_a.getD k z_PNote).Body.length c48), (vs a54 (x_a.getD k z_PNote).Key.length c55), (vi (((x_a.getD k z_PNote).A).Host)), (vi (((x_a.getD k z_PNote).A).Port)), (vi ((x_a.getD k z_PNote).Now))] wN rfl rfl rfl rfl isAgg_144 sizeOf_144 (r30.from0 m18) (by first | omega | (simp only [List.length_cons, List.length_nil, List.length_replicate, List.length_append, List.length_take, List.length_set, List.length_map]; omega)) ((part_of (off := 0) (n := 12) e31 (by first | rfl | simp | omega) (by decide)).trans rfl) ?_
  refine cl wN (C_laws_toNote w2 _ (x_a.getD k z_PNote) (mR_144 (r35.from0 m18) s36 (r42.from0 m18) s43 (r49.from0 m18) s50 (r56.from0 m18) s57)) ?_
  rintro _ w3 ⟨k61, ⟨a62, c63, a67, c68, a72, c73, a77, c78, rfl, o64, s65, o69, s70, o74, s75, o79, s80, ap82⟩⟩
  have m83 := m18.extk k61
  have o86 := (OLv.kp o21 k61)
  obtain ⟨y84, r85⟩ := RLv.row (OLv.rl o86)
  refine wl_index (v := (vs a8 (List.replicate x_a.length z_PNote).length c9)) wN ((k : Nat) : Int) rfl rfl rfl slTy_36 rfl rfl r85 (by first | omega | (simp only [List.length_cons, List.length_nil, List.length_replicate, List.length_append, List.length_take, List.length_set, List.length_map]; omega)) (by first | omega | (simp only [List.length_cons, List.length_nil, List.length_replicate, List.length_append, List.length_take, List.length_set, List.length_map]; omega)) ?_
  refine wl_setL z_PNote (k) (F_laws_toNote (x_a.getD k z_PNote)) [(a62, c63), (a67, c68), (a72, c73), (a77, c78)] wN o86 ⟨⟨o64, s65⟩, ⟨⟨o69, s70⟩, ⟨⟨o74, s75⟩, ⟨⟨o79, s80⟩, trivial⟩⟩⟩⟩ ⟨⟨(ap82.1.1), ⟨(ap82.1.2.1), ⟨(ap82.1.2.2.1), trivial⟩⟩⟩, ⟨⟨(ap82.2.1.1), ⟨(ap82.2.1.2.1), trivial⟩⟩, ⟨⟨(ap82.2.2.1.1), trivial⟩, ⟨trivial, trivial⟩⟩⟩⟩ (Nat.le_refl _) (Nat.le_trans k10.size k19.size) (by first | omega | (simp only [List.length_cons, List.length_nil, List.length_replicate, List.length_append, List.length_take, List.length_set, List.length_map]; omega)) (us := (L_41 (F_laws_toNote (x_a.getD k z_PNote)) a62 c63 a67 c68 a72 c73 a77 c78)) rfl sizeOf_41 ?_ (by first | rfl | simp | omega)
  intro w4 k87 o88
  have m89 := m83.ext k87 (fun k hk => Nat.le_trans (Nat.le_refl w0.heap.size) (own_lt o15 k hk).1)
  refine wl_nil <| wq_blk_normal <| wq_then <| wc_region ?_
  refine mv (vi ((k : Nat) : Int)) wN ?_
  refine ar (((k : Nat) : Int) + 1) wN ?_
  refine ag (vi (((k : Nat) : Int) + 1)) wN ?_
  refine wl_nil ?_
  have hE90 : (((x_a.take k ++ List.replicate (x_a.length - k) z_PNote).set k (F_laws_toNote (x_a.getD k z_PNote))) : List (PNote)) = x_a.take (k + 1) ++ List.replicate (x_a.length - (k + 1)) z_PNote := by first | exact cp_next (by omega) | simp
  refine wq_loopQ (w0 := w2) (fun e => [e 0, e 1, e 2, e 3, (vi (((k + 1) : Nat) : Int)), e 5, e 6, e 7, e 8, e 9, e 10, e 11, e 12, e 13, e 14, e 15, e 16, e 17, e 18, e 19, e 20, e 21, e 22]) rfl ?_ ?_ ?_
  · exact ⟨rfl, rfl, rfl, rfl, (congrArg (Value.int .i64) (show ((((k : Nat) : Int) + 1) : Int) = (((k + 1) : Nat) : Int) by omega)), rfl, rfl, rfl, rfl, rfl, rfl, rfl, rfl, rfl, rfl, rfl, rfl, rfl, rfl, rfl, rfl, rfl, rfl, trivial⟩
  · exact ⟨(k + 1), (unL [_, _, _, _, _, _, _, _, _, _, _, _, _, _, _, _, _, _]), rfl, m89, ((((Ch.refl (fun k => w0.heap.size ≤ k) w1).ext k19 (fun k hk => Nat.le_trans (Nat.le_refl w0.heap.size) hk)).extk k61).ext k87 (fun k hk => Nat.le_trans (Nat.le_refl w0.heap.size) (own_lt o15 k hk).1)), (by omega), (by rw [← hE90]; exact (OLv.now o88))⟩
  · show x_a.length - ((((k + 1) : Nat) : Int)).toNat < x_a.length - (((k : Nat) : Int)).toNat; omega

def R_41 (w : World) (v : Value) (x : (PNote)) : Prop := ∃ (a1 : Option Addr) (c1 : Nat) (a2 : Option Addr) (c2 : Nat) (a3 : Option Addr) (c3 : Nat) (a4 : Option Addr) (c4 : Nat), v = .agg #[.int .i64 x.Kind, .int .i64 x.Id, .int .i64 x.Role, .slice a1 x.Cn.length c1, .slice a2 x.Sn.length c2, .int .i64 x.Epoch, .int .i64 x.Seq, .slice a3 x.Body.length c3, .slice a4 x.Key.length c4, .int .i64 x.A.Host, .int .i64 x.A.Port, .int .i64 x.Now] ∧ Rd w 1 (.slice a1 x.Cn.length c1) x.Cn.length (x.Cn.map bV) ∧ x.Cn.length ≤ 1073741824 ∧ Rd w 1 (.slice a2 x.Sn.length c2) x.Sn.length (x.Sn.map bV) ∧ x.Sn.length ≤ 1073741824 ∧ Rd w 1 (.slice a3 x.Body.length c3) x.Body.length (x.Body.map bV) ∧ x.Body.length ≤ 1073741824 ∧ Rd w 1 (.slice a4 x.Key.length c4) x.Key.length (x.Key.map bV) ∧ x.Key.length ≤ 1073741824
def F_spec_l18Copy (x_n : PNote) : (PNote) := x_n
theorem C_spec_l18Copy (w0 : World) (v_x_n : Value) (x_n : PNote) (r_x_n : R_41 w0 v_x_n x_n)  : Fn Try.prog 92 #[v_x_n] w0 (fun v w' => Keep w0 w' ∧ O_41 w' w0.heap.size v (F_spec_l18Copy x_n)) := by
 obtain ⟨a1, c2, a6, c7, a11, c12, a16, c17, rfl, r3, s4, r8, s9, r13, s14, r18, s19⟩ := r_x_n
 refine fn_of (n := 24) (l := [(va (L_41 x_n a1 c2 a6 c7 a11 c12 a16 c17)), U, U, U, U, U, U, U, U, U, U, U, U, U, U, U, U, U, U, U, U, U, U, U]) Try.func92 rfl rfl (by kernel_rfl) rfl ?_
 refine sr ?_
 refine bx (L_41 x_n a1 c2 a6 c7 a11 c12 a16 c17) wN ?_
 intro g21 w1 p22 p23 k24 b25
 have m26 := (Ch.base w0).extk k24
 refine al [(vi 0), (vi 0), (vi 0), (vs none 0 0), (vs none 0 0), (vi 0), (vi 0), (vs none 0 0), (vs none 0 0), (vi 0), (vi 0), (vi 0)] wN zero_41 ?_
 intro g27 w2 p28 p29 k30 b31
 have m32 := m26.extk k30
 refine nx ?_
 refine wl_lit0 wN rfl rfl slTy_22 (fun w => by kernel_rfl) ?_
 intro a33 w3 k34 o35
 have m36 := m32.extk k34
 refine pu (vp g21 3) wN ?_
 have b38 := ((b25.kp k30).kp k34)
 refine ld (vs a1 x_n.Cn.length c2) wN isAgg_22 b38 ?_
 refine wl_append0 wN rfl rfl rfl slTy_22 rfl rfl o35 (r3.from0 m36) (all_bV _) (by first | (simp only [List.length_append, List.length_cons, List.length_nil, List.length_replicate]; omega) | omega) (by simp only [maxLen]; first | (simp only [List.length_append, List.length_cons, List.length_nil, List.length_replicate]; omega) | omega) k34.size ?_
 intro u39 w4 k40 o41 j42
 obtain ⟨a43, c44, rfl⟩ := own_form o41
 have n45 : New w3 a43 c44 := j42 _ _ rfl
 have m46 := m36.extk k40
 refine pu (vp g21 3) wN ?_
 have b48 := (b38.kp k40)
 refine st (vs a43 x_n.Cn.length c44) [(vs a43 x_n.Cn.length c44)] (L_41 x_n a43 c44 a6 c7 a11 c12 a16 c17) wN sizeOf_22 b48 ?_
 intro w5 k49 b50 z51
 have m52 := m46.ext k49 (fun k hk => by subst hk; exact Nat.le_trans (Nat.le_refl w0.heap.size) p22)
 refine nx ?_
 refine wl_lit0 wN rfl rfl slTy_22 (fun w => by kernel_rfl) ?_
 intro a53 w6 k54 o55
 have m56 := m52.extk k54
 refine pu (vp g21 4) wN ?_
 have b58 := (b50.kp k54)
 refine ld (vs a6 x_n.Sn.length c7) wN isAgg_22 b58 ?_
 refine wl_append0 wN rfl rfl rfl slTy_22 rfl rfl o55 (r8.from0 m56) (all_bV _) (by first | (simp only [List.length_append, List.length_cons, List.length_nil, List.length_replicate]; omega) | omega) (by simp only [maxLen]; first | (simp only [List.length_append, List.length_cons, List.length_nil, List.length_replicate]; omega) | omega) k54.size ?_
 intro u59 w7 k60 o61 j62
 obtain ⟨a63, c64, rfl⟩ := own_form o61
 have n65 : New w6 a63 c64 := j62 _ _ rfl
 have m66 := m56.extk k60
 refine pu (vp g21 4) wN ?_
 have b68 := (b58.kp k60)
 refine st (vs a63 x_n.Sn.length c64) [(vs a63 x_n.Sn.length c64)] (L_41 x_n a43 c44 a63 c64 a11 c12 a16 c17) wN sizeOf_22 b68 ?_
 intro w8 k69 b70 z71
 have m72 := m66.ext k69 (fun k hk => by subst hk; exact Nat.le_trans (Nat.le_refl w0.heap.size) p22)
 refine nx ?_
 refine wl_lit0 wN rfl rfl slTy_22 (fun w => by kernel_rfl) ?_
 intro a73 w9 k74 o75
 have m76 := m72.extk k74
 refine pu (vp g21 7) wN ?_
 have b78 := (b70.kp k74)
 refine ld (vs a11 x_n.Body.length c12) wN isAgg_22 b78 ?_
 refine wl_append0 wN rfl rfl rfl slTy_22 rfl rfl o75 (r13.from0 m76) (all_bV _) (by first | (simp only [List.length_append, List.length_cons, List.length_nil, List.length_replicate]; omega) | omega) (by simp only [maxLen]; first | (simp only [List.length_append, List.length_cons, List.length_nil, List.length_replicate]; omega) | omega) k74.size ?_
 intro u79 w10 k80 o81 j82
 obtain ⟨a83, c84, rfl⟩ := own_form o81
 have n85 : New w9 a83 c84 := j82 _ _ rfl
 have m86 := m76.extk k80
 refine pu (vp g21 7) wN ?_
 have b88 := (b78.kp k80)
 refine st (vs a83 x_n.Body.length c84) [(vs a83 x_n.Body.length c84)] (L_41 x_n a43 c44 a63 c64 a83 c84 a16 c17) wN sizeOf_22 b88 ?_
 intro w11 k89 b90 z91
 have m92 := m86.ext k89 (fun k hk => by subst hk; exact Nat.le_trans (Nat.le_refl w0.heap.size) p22)
 refine nx ?_
 refine wl_lit0 wN rfl rfl slTy_22 (fun w => by kernel_rfl) ?_
 intro a93 w12 k94 o95
 have m96 := m92.extk k94
 refine pu (vp g21 8) wN ?_
 have b98 := (b90.kp k94)
 refine ld (vs a16 x_n.Key.length c17) wN isAgg_22 b98 ?_
 refine wl_append0 wN rfl rfl rfl slTy_22 rfl rfl o95 (r18.from0 m96) (all_bV _) (by first | (simp only [List.length_append, List.length_cons, List.length_nil, List.length_replicate]; omega) | omega) (by simp only [maxLen]; first | (simp only [List.length_append, List.length_cons, List.length_nil, List.length_replicate]; omega) | omega) k94.size ?_
 intro u99 w13 k100 o101 j102
 obtain ⟨a103, c104, rfl⟩ := own_form o101
 have n105 : New w12 a103 c104 := j102 _ _ rfl
 have m106 := m96.extk k100
 refine pu (vp g21 8) wN ?_
 have b108 := (b98.kp k100)
 refine st (vs a103 x_n.Key.length c104) [(vs a103 x_n.Key.length c104)] (L_41 x_n a43 c44 a63 c64 a83 c84 a103 c104) wN sizeOf_22 b108 ?_
 intro w14 k109 b110 z111
 have m112 := m106.ext k109 (fun k hk => by subst hk; exact Nat.le_trans (Nat.le_refl w0.heap.size) p22)
 refine nx ?_
 refine lN (L_41 x_n a43 c44 a63 c64 a83 c84 a103 c104) wN isAgg_41 sizeOf_41 b110 ?_
 have b113 := ((((((((((((b31.kp k34).kp k40).ch k49 (Ne.symm (Nat.ne_of_lt (Nat.lt_of_lt_of_le p23 (Nat.le_trans (Nat.le_refl w1.heap.size) p28))))).kp k54).kp k60).ch k69 (Ne.symm (Nat.ne_of_lt (Nat.lt_of_lt_of_le p23 (Nat.le_trans (Nat.le_refl w1.heap.size) p28))))).kp k74).kp k80).ch k89 (Ne.symm (Nat.ne_of_lt (Nat.lt_of_lt_of_le p23 (Nat.le_trans (Nat.le_refl w1.heap.size) p28))))).kp k94).kp k100).ch k109 (Ne.symm (Nat.ne_of_lt (Nat.lt_of_lt_of_le p23 (Nat.le_trans (Nat.le_refl w1.heap.size) p28)))))
 refine st (va (L_41 x_n a43 c44 a63 c64 a83 c84 a103 c104)) (L_41 x_n a43 c44 a63 c64 a83 c84 a103 c104) (L_41 x_n a43 c44 a63 c64 a83 c84 a103 c104) wN sizeOf_41 b113 ?_
 intro w15 k114 b115 z116
 have m117 := m112.ext k114 (fun k hk => by subst hk; exact Nat.le_trans k24.size p28)
 refine wl_nil <| wq_then <| wc_ret ?_
 have o118 := (own_ch (own_ch (own_kp (own_kp (own_ch (own_kp (own_kp (own_ch (own_kp (own_kp (own_ch o41 k49 (fun g hg hlt hk => by have h1 := (own_lt o41 g hg).1; have h2 := Nat.lt_of_lt_of_le p23 k30.size; omega)) k54) k60) k69 (fun g hg hlt hk => by have h1 := (own_lt o41 g hg).1; have h2 := Nat.lt_of_lt_of_le p23 k30.size; omega)) k74) k80) k89 (fun g hg hlt hk => by have h1 := (own_lt o41 g hg).1; have h2 := Nat.lt_of_lt_of_le p23 k30.size; omega)) k94) k100) k109 (fun g hg hlt hk => by have h1 := (own_lt o41 g hg).1; have h2 := Nat.lt_of_lt_of_le p23 k30.size; omega)) k114 (fun g hg hlt hk => by have h1 := (own_lt o41 g hg).1; have h2 := Nat.lt_of_lt_of_le p29 (Nat.le_refl w2.heap.size); omega))
 have o119 := (own_ch (own_ch (own_kp (own_kp (own_ch (own_kp (own_kp (own_ch o61 k69 (fun g hg hlt hk => by have h1 := (own_lt o61 g hg).1; have h2 := Nat.lt_of_lt_of_le p23 (t4 k30.size k34.size k40.size k49.size); omega)) k74) k80) k89 (fun g hg hlt hk => by have h1 := (own_lt o61 g hg).1; have h2 := Nat.lt_of_lt_of_le p23 (t4 k30.size k34.size k40.size k49.size); omega)) k94) k100) k109 (fun g hg hlt hk => by have h1 := (own_lt o61 g hg).1; have h2 := Nat.lt_of_lt_of_le p23 (t4 k30.size k34.size k40.size k49.size); omega)) k114 (fun g hg hlt hk => by have h1 := (own_lt o61 g hg).1; have h2 := Nat.lt_of_lt_of_le p29 (t3 k34.size k40.size k49.size); omega))
 have o120 := (own_ch (own_ch (own_kp (own_kp (own_ch o81 k89 (fun g hg hlt hk => by have h1 := (own_lt o81 g hg).1; have h2 := Nat.lt_of_lt_of_le p23 (t7 k30.size k34.size k40.size k49.size k54.size k60.size k69.size); omega)) k94) k100) k109 (fun g hg hlt hk => by have h1 := (own_lt o81 g hg).1; have h2 := Nat.lt_of_lt_of_le p23 (t7 k30.size k34.size k40.size k49.size k54.size k60.size k69.size); omega)) k114 (fun g hg hlt hk => by have h1 := (own_lt o81 g hg).1; have h2 := Nat.lt_of_lt_of_le p29 (t6 k34.size k40.size k49.size k54.size k60.size k69.size); omega))
 have o121 := (own_ch (own_ch o101 k109 (fun g hg hlt hk => by have h1 := (own_lt o101 g hg).1; have h2 := Nat.lt_of_lt_of_le p23 (t10 k30.size k34.size k40.size k49.size k54.size k60.size k69.size k74.size k80.size k89.size); omega)) k114 (fun g hg hlt hk => by have h1 := (own_lt o101 g hg).1; have h2 := Nat.lt_of_lt_of_le p29 (t9 k34.size k40.size k49.size k54.size k60.size k69.size k74.size k80.size k89.size); omega))
 refine ret_1 (.inl rfl) (va (L_41 x_n a43 c44 a63 c64 a83 c84 a103 c104)) rfl (rv_c [(vi x_n.Kind), (vi x_n.Id), (vi x_n.Role), (vs a43 x_n.Cn.length c44), (vs a63 x_n.Sn.length c64), (vi x_n.Epoch), (vi x_n.Seq), (vs a83 x_n.Body.length c84), (vs a103 x_n.Key.length c104), (vi x_n.A.Host), (vi x_n.A.Port), (vi x_n.Now)] rfl b115 isAgg_41 sizeOf_41) ?_
 refine ⟨m117.keep0, ?_⟩
 have hF122 : F_spec_l18Copy x_n = x_n := by rfl
 rw [hF122]
 exact ⟨_, _, _, _, _, _, _, _, rfl, (own_lo o118 (Nat.le_trans k24.size k30.size)), s4, (own_lo o119 (t5 k24.size k30.size k34.size k40.size k49.size)), s9, (own_lo o120 (t8 k24.size k30.size k34.size k40.size k49.size k54.size k60.size k69.size)), s14, (own_lo o121 (t11 k24.size k30.size k34.size k40.size k49.size k54.size k60.size k69.size k74.size k80.size k89.size)), s19, ⟨⟨(Ap.new o41 n65 (Nat.le_trans k49.size k54.size)), ⟨(Ap.new o41 n85 (t5 k49.size k54.size k60.size k69.size k74.size)), ⟨(Ap.new o41 n105 (t8 k49.size k54.size k60.size k69.size k74.size k80.size k89.size k94.size)), trivial⟩⟩⟩, ⟨⟨(Ap.new o61 n85 (Nat.le_trans k69.size k74.size)), ⟨(Ap.new o61 n105 (t5 k69.size k74.size k80.size k89.size k94.size)), trivial⟩⟩, ⟨⟨(Ap.new o81 n105 (Nat.le_trans k89.size k94.size)), trivial⟩, ⟨trivial, trivial⟩⟩⟩⟩⟩

theorem fieldAt_41_0 : ∀ a w, (Instr.fieldAt 41 (.pointer (some a)) 0).run Try.prog w = .ok (.pointer (some (a.add 0))) w := fun a w => by kernel_rfl
def R_36 (w : World) (v : Value) (x : (List PNote)) : Prop := ∃ (a1 : Option Addr) (c1 : Nat), v = .slice a1 x.length c1 ∧ RLv LT_41 w 1073741824 a1 x.length c1 x ∧ x.length ≤ 1073741824
theorem mR_41 {w : World} {x : PNote} {a1 : Option Addr} {c1 : Nat} {a2 : Option Addr} {c2 : Nat} {a3 : Option Addr} {c3 : Nat} {a4 : Option Addr} {c4 : Nat} (h1 : Rd w 1 (.slice a1 x.Cn.length c1) x.Cn.length (x.Cn.map bV)) (l1 : x.Cn.length ≤ 1073741824) (h2 : Rd w 1 (.slice a2 x.Sn.length c2) x.Sn.length (x.Sn.map bV)) (l2 : x.Sn.length ≤ 1073741824) (h3 : Rd w 1 (.slice a3 x.Body.length c3) x.Body.length (x.Body.map bV)) (l3 : x.Body.length ≤ 1073741824) (h4 : Rd w 1 (.slice a4 x.Key.length c4) x.Key.length (x.Key.map bV)) (l4 : x.Key.length ≤ 1073741824) : R_41 w (va (L_41 x a1 c1 a2 c2 a3 c3 a4 c4)) x := ⟨_, _, _, _, _, _, _, _, rfl, h1, l1, h2, l2, h3, l3, h4, l4⟩
def F_spec_Pick (x_l : List PNote) (x_kind : Int) : (List PNote) := ((x_l.take x_l.length).filter (fun n : PNote => decide (n.Kind = x_kind)))
theorem C_spec_Pick (w0 : World) (v_x_l : Value) (x_l : List PNote) (r_x_l : R_36 w0 v_x_l x_l) (x_kind : Int)  : Fn Try.prog 52 #[v_x_l, (vi x_kind)] w0 (fun v w' => Keep w0 w' ∧ O_36 w' w0.heap.size v (F_spec_Pick x_l x_kind)) := by
 obtain ⟨a1, c2, rfl, r3, s4⟩ := r_x_l
 refine fn_of (n := 30) (l := [(vs a1 x_l.length c2), (vi x_kind), U, U, U, U, U, U, U, U, U, U, U, U, U, U, U, U, U, U, U, U, U, U, U, U, U, U, U, U]) Try.func52 rfl rfl (by kernel_rfl) rfl ?_
 refine sr ?_
 refine ag (vs none 0 0) wN ?_
 refine nx ?_
 refine wl_lit0 wN rfl rfl slTy_36 (fun w => by kernel_rfl) ?_
 intro a6 w1 k7 o8
 have m9 := (Ch.base w0).extk k7
 have o11 : OLv LT_41 w1 w0.heap.size w1.heap.size (some a6) 0 0 [] := OLv.of0 o8
 refine ag (vs (some a6) 0 0) wN ?_
 refine wl_nil <| wq_then <| wc_seq <| sr ?_
 refine ag (vi 0) wN ?_
 refine wl_nil <| wq_then <| wc_block ?_
 have hE13 : ([] : List (PNote)) = (x_l.take 0).filter (fun n : PNote => decide (n.Kind = x_kind)) := by first | rfl | exact filt_t (z := z_PNote) (by omega) (by assumption) | exact filt_f (z := z_PNote) (by omega) (by assumption)
 have hN14 : 0 = ((x_l.take 0).filter (fun n : PNote => decide (n.Kind = x_kind))).length := by rw [← hE13]; rfl
 refine wc_normQ (fun e => [e 0, e 1, e 2, e 3, e 4, (.slice (some a6) ((x_l.take 0).filter (fun n : PNote => decide (n.Kind = x_kind))).length 0), (vi ((0 : Nat) : Int)), e 7, e 8, e 9, e 10, e 11, e 12, e 13, e 14, e 15, e 16, e 17, e 18, e 19, e 20, e 21, e 22, e 23, e 24, e 25, e 26, e 27, e 28, e 29]) rfl ⟨rfl, rfl, rfl, rfl, rfl, (congrArg (fun m : Nat => Value.slice (some a6) m 0) hN14), (congrArg (Value.int .i64) (show (0 : Int) = ((0 : Nat) : Int) by omega)), rfl, rfl, rfl, rfl, rfl, rfl, rfl, rfl, rfl, rfl, rfl, rfl, rfl, rfl, rfl, rfl, rfl, rfl, rfl, rfl, rfl, rfl, rfl, trivial⟩ ?_
 refine wc_loop (fun e' w' => ∃ (kq : Nat) (u12 : Nat → Value) (a5x : Option Addr) (c5x : Nat), e' = lst [(vs a1 x_l.length c2), (vi x_kind), (u12 0), (u12 1), (vs none 0 0), (.slice a5x ((x_l.take kq).filter (fun n : PNote => decide (n.Kind = x_kind))).length c5x), (vi ((kq : Nat) : Int)), (u12 2), (u12 3), (u12 4), (u12 5), (u12 6), (u12 7), (u12 8), (u12 9), (u12 10), (u12 11), (u12 12), (u12 13), (u12 14), (u12 15), (u12 16), (u12 17), (u12 18), (u12 19), (u12 20), (u12 21), (u12 22), (u12 23), U] ∧ Ch (fun k => w0.heap.size ≤ k) w0 w' ∧ Ch (fun k => w0.heap.size ≤ k) w1 w' ∧ kq ≤ x_l.length ∧ (OLv LT_41 w' w0.heap.size w'.heap.size a5x ((x_l.take kq).filter (fun n : PNote => decide (n.Kind = x_kind))).length c5x ((x_l.take kq).filter (fun n : PNote => decide (n.Kind = x_kind))) ∧ ((x_l.take kq).filter (fun n : PNote => decide (n.Kind = x_kind))).length ≤ 1073741824)) (fun e' _ => x_l.length - ((intOf (e' 6))).toNat) ?_ ?_
 ·exact ⟨0, (unL [U, U, _, U, U, U, U, U, U, U, U, U, U, U, U, U, U, U, U, U, U, U, U, U]), (some a6), 0, rfl, m9, (Ch.refl (fun k => w0.heap.size ≤ k) w1), (by omega), ⟨(by rw [← hN14, ← hE13]; exact (OLv.now o11)), (by rw [← hN14]; first | exact (by simp) | (simp only [List.length_append, List.length_take, List.length_replicate]; omega))⟩⟩
 ·rintro _ w2 ⟨kq, u12, a5x, c5x, rfl, m15, k16, i17, ⟨o18, s19⟩⟩
  obtain ⟨y21, o22⟩ := OLv.ow o18
  refine wc_seq <| sr ?_
  refine mv (vi ((kq : Nat) : Int)) wN ?_
  refine mv (vs a1 x_l.length c2) wN ?_
  obtain ⟨y23, r24⟩ := RLv.row (r3.from0 m15)
  refine ln wN slTy_36 r24 ?_
  refine pu (vb (decide (((kq : Nat) : Int) < (x_l.length : Int)))) wN ?_
  refine wl_nil <| wq_then ?_
  rcases bf (decide (((kq : Nat) : Int) < (x_l.length : Int))) with h25 | h25
  ·have q113 := of_decide_eq_false h25
   refine cf h25 ?_
   refine wc_exit <| wq_then_exit ?_
   obtain rfl : kq = x_l.length := by omega
   refine wq_then_exit <| wq_blk_exit <| wq_then <| sr ?_
   refine mv (vs a5x ((x_l.take x_l.length).filter (fun n : PNote => decide (n.Kind = x_kind))).length c5x) wN ?_
   refine ag (vs a5x ((x_l.take x_l.length).filter (fun n : PNote => decide (n.Kind = x_kind))).length c5x) wN ?_
   refine wl_nil <| wq_then <| wc_ret ?_
   refine ret_1 (.inl rfl) (vs a5x ((x_l.take x_l.length).filter (fun n : PNote => decide (n.Kind = x_kind))).length c5x) rfl rfl ?_
   refine ⟨m15.keep0, ?_⟩
   have hF114 : F_spec_Pick x_l x_kind = ((x_l.take x_l.length).filter (fun n : PNote => decide (n.Kind = x_kind))) := by simp only [F_spec_Pick, h25, cond_true, cond_false]
   rw [hF114]
   exact ⟨_, _, rfl, (OLv.now (OLv.low o18 (Nat.le_refl w0.heap.size))), s19, ⟨trivial, trivial⟩⟩
  have q26 := of_decide_eq_true h25
  refine ct h25 ?_
  refine wc_skip <| wq_then <| wc_seq <| wc_block <| sr ?_
  refine mv (vs a1 x_l.length c2) wN ?_
  refine mv (vi ((kq : Nat) : Int)) wN ?_
  obtain ⟨y27, r28⟩ := RLv.row (r3.from0 m15)
  refine wl_index (v := (vs a1 x_l.length c2)) wN ((kq : Nat) : Int) rfl rfl rfl slTy_36 rfl rfl r28 (by first | omega | (simp only [List.length_cons, List.length_nil, List.length_replicate, List.length_append, List.length_take, List.length_set, List.length_map]; omega)) (by first | omega | (simp only [List.length_cons, List.length_nil, List.length_replicate, List.length_append, List.length_take, List.length_set, List.length_map]; omega)) ?_
  obtain ⟨y29, l30, r31, e32, u33⟩ := RLv.el z_PNote (i := kq) r3 (by first | omega | (simp only [List.length_cons, List.length_nil, List.length_replicate, List.length_append, List.length_take, List.length_set, List.length_map]; omega))
  obtain ⟨a34, c35, l39, rfl, r36, s37, u40⟩ := SubR.c u33
  obtain ⟨a41, c42, l46, rfl, r43, s44, u47⟩ := SubR.c u40
  obtain ⟨a48, c49, l53, rfl, r50, s51, u54⟩ := SubR.c u47
  obtain ⟨a55, c56, l60, rfl, r57, s58, u61⟩ := SubR.c u54
  obtain rfl := SubR.n u61
  refine wl_fieldE wN rfl rfl rfl fieldAt_41_0 rfl (r31.from0 m15) (by omega) ?_
  refine wl_loadE (vi ((x_l.getD kq z_PNote).Kind)) wN rfl rfl rfl rfl isAgg_3 (r31.from0 m15) ((get_of (off := 0) e32 (by first | rfl | simp | omega) (by decide)).trans rfl) ?_
  refine mv (vi x_kind) wN ?_
  refine pu (vb (decide ((x_l.getD kq z_PNote).Kind = x_kind))) wN ?_
  refine wl_nil <| wq_then ?_
  rcases bf (decide ((x_l.getD kq z_PNote).Kind = x_kind)) with h62 | h62
  ·have q111 := of_decide_eq_false h62
   refine cf h62 ?_
   refine wc_skip <| wq_blk_normal <| wq_then <| wc_region ?_
   refine mv (vi ((kq : Nat) : Int)) wN ?_
   refine ar (((kq : Nat) : Int) + 1) wN ?_
   refine ag (vi (((kq : Nat) : Int) + 1)) wN ?_
   refine wl_nil ?_
   have hE112 : (((x_l.take kq).filter (fun n : PNote => decide (n.Kind = x_kind))) : List (PNote)) = (x_l.take (kq + 1)).filter (fun n : PNote => decide (n.Kind = x_kind)) := by first | rfl | exact filt_t (z := z_PNote) (by omega) (by assumption) | exact filt_f (z := z_PNote) (by omega) (by assumption)
   refine wq_loopQ (w0 := w2) (fun e => [e 0, e 1, e 2, e 3, e 4, (.slice a5x ((x_l.take (kq + 1)).filter (fun n : PNote => decide (n.Kind = x_kind))).length c5x), (vi (((kq + 1) : Nat) : Int)), e 7, e 8, e 9, e 10, e 11, e 12, e 13, e 14, e 15, e 16, e 17, e 18, e 19, e 20, e 21, e 22, e 23, e 24, e 25, e 26, e 27, e 28, e 29]) rfl ?_ ?_ ?_
   · exact ⟨rfl, rfl, rfl, rfl, rfl, (congrArg (fun l : List (PNote) => Value.slice a5x l.length c5x) hE112), (congrArg (Value.int .i64) (show ((((kq : Nat) : Int) + 1) : Int) = (((kq + 1) : Nat) : Int) by omega)), rfl, rfl, rfl, rfl, rfl, rfl, rfl, rfl, rfl, rfl, rfl, rfl, rfl, rfl, rfl, rfl, rfl, rfl, rfl, rfl, rfl, rfl, rfl, trivial⟩
   · exact ⟨(kq + 1), (unL [_, _, _, _, _, _, _, _, _, _, _, _, _, _, _, _, _, _, _, _, _, _, _, _]), a5x, c5x, rfl, m15, ((Ch.refl (fun k => w0.heap.size ≤ k) w1).ext k16 (fun k hk => Nat.le_trans (Nat.le_refl w0.heap.size) hk)), (by omega), (hE112 ▸ ⟨(OLv.now o18), s19⟩)⟩
   · show x_l.length - ((((kq + 1) : Nat) : Int)).toNat < x_l.length - (((kq : Nat) : Int)).toNat; omega
  have q63 := of_decide_eq_true h62
  refine ct h62 ?_
  refine wc_region ?_
  refine mv (vs a5x ((x_l.take kq).filter (fun n : PNote => decide (n.Kind = x_kind))).length c5x) wN ?_
  refine mv (vs a1 x_l.length c2) wN ?_
  refine mv (vi ((kq : Nat) : Int)) wN ?_
  obtain ⟨y64, r65⟩ := RLv.row (r3.from0 m15)
  refine wl_index (v := (vs a1 x_l.length c2)) wN ((kq : Nat) : Int) rfl rfl rfl slTy_36 rfl rfl r65 (by first | omega | (simp only [List.length_cons, List.length_nil, List.length_replicate, List.length_append, List.length_take, List.length_set, List.length_map]; omega)) (by first | omega | (simp only [List.length_cons, List.length_nil, List.length_replicate, List.length_append, List.length_take, List.length_set, List.length_map]; omega)) ?_
  refine wl_loadEN [(vi ((x_l.getD kq z_PNote).Kind)), (vi ((x_l.getD kq z_PNote).Id)), (vi ((x_l.getD kq z_PNote).Role)), (vs a34 (x_l.getD kq z_PNote).Cn.length c35), (vs a41 (x_l.getD kq z_PNote).Sn.length c42), (vi ((x_l.getD kq z_PNote).Epoch)), (vi ((x_l.getD kq z_PNote).Seq)), (vs a48 (x_l.getD kq z_PNote).Body.length c49), (vs a55 (x_l.getD kq z_PNote).Key.length c56), (vi (((x_l.getD kq z_PNote).A).Host)), (vi (((x_l.getD kq z_PNote).A).Port)), (vi ((x_l.getD kq z_PNote).Now))] wN rfl rfl rfl rfl isAgg_41 sizeOf_41 (r31.from0 m15) (by first | omega | (simp only [List.length_cons, List.length_nil, List.length_replicate, List.length_append, List.length_take, List.length_set, List.length_map]; omega)) ((part_of (off := 0) (n := 12) e32 (by first | rfl | simp | omega) (by decide)).trans rfl) ?_
  refine cl wN (C_spec_l18Copy w2 _ (x_l.getD kq z_PNote) (mR_41 (r36.from0 m15) s37 (r43.from0 m15) s44 (r50.from0 m15) s51 (r57.from0 m15) s58)) ?_
  rintro _ w3 ⟨k66, ⟨a67, c68, a72, c73, a77, c78, a82, c83, rfl, o69, s70, o74, s75, o79, s80, o84, s85, ap87⟩⟩
  have m88 := m15.extk k66
  refine wl_lit [(vi ((F_spec_l18Copy (x_l.getD kq z_PNote)).Kind)), (vi ((F_spec_l18Copy (x_l.getD kq z_PNote)).Id)), (vi ((F_spec_l18Copy (x_l.getD kq z_PNote)).Role)), (vs a67 ((F_spec_l18Copy (x_l.getD kq z_PNote)).Cn).length c68), (vs a72 ((F_spec_l18Copy (x_l.getD kq z_PNote)).Sn).length c73), (vi ((F_spec_l18Copy (x_l.getD kq z_PNote)).Epoch)), (vi ((F_spec_l18Copy (x_l.getD kq z_PNote)).Seq)), (vs a77 ((F_spec_l18Copy (x_l.getD kq z_PNote)).Body).length c78), (vs a82 ((F_spec_l18Copy (x_l.getD kq z_PNote)).Key).length c83), (vi (((F_spec_l18Copy (x_l.getD kq z_PNote)).A).Host)), (vi (((F_spec_l18Copy (x_l.getD kq z_PNote)).A).Port)), (vi ((F_spec_l18Copy (x_l.getD kq z_PNote)).Now))] wN rfl rfl slTy_36 (m := 1) rfl (by simp only [maxLen]; omega) (fun w => by kernel_rfl) ?_
  intro u89 w4 k90 o91
  obtain ⟨a92, c93, rfl⟩ := own_form o91
  have m94 := m88.extk k90
  have o96 := (OLv.kp (OLv.kp o18 k66) k90)
  have o97 := (own_kp o84 k90)
  have o98 := (own_kp o79 k90)
  have o99 := (own_kp o74 k90)
  have o100 := (own_kp o69 k90)
  refine wl_appL (L := LT_41) (xs := ((x_l.take kq).filter (fun n : PNote => decide (n.Kind = x_kind)))) (el := (F_spec_l18Copy (x_l.getD kq z_PNote))) (l := [(a67, c68), (a72, c73), (a77, c78), (a82, c83)]) wN slTy_36 o96 (Rd.of_own o91) ⟨⟨o100, s70⟩, ⟨⟨o99, s75⟩, ⟨⟨o98, s80⟩, ⟨⟨o97, s85⟩, trivial⟩⟩⟩⟩ ⟨⟨(ap87.1.1), ⟨(ap87.1.2.1), ⟨(ap87.1.2.2.1), trivial⟩⟩⟩, ⟨⟨(ap87.2.1.1), ⟨(ap87.2.1.2.1), trivial⟩⟩, ⟨⟨(ap87.2.2.1.1), trivial⟩, ⟨trivial, trivial⟩⟩⟩⟩ (Nat.le_refl _) (Nat.le_trans k7.size k16.size) (by first | omega | (simp only [List.length_take, List.length_append, List.length_cons, List.length_nil]; omega) | (refine Nat.le_trans (Nat.succ_le_succ (List.length_filter_le _ _)) ?_; simp only [List.length_take]; omega)) (t4 k7.size k16.size k66.size k90.size) ?_
  intro a101 c102 w5 k103 o104
  have m105 := m94.ext k103 (fun k hk => Nat.le_trans (Nat.le_refl w0.heap.size) (own_lt o22 k hk).1)
  obtain ⟨y108, o109⟩ := OLv.ow o104
  refine ag (vs a101 (((x_l.take kq).filter (fun n : PNote => decide (n.Kind = x_kind))) ++ [(F_spec_l18Copy (x_l.getD kq z_PNote))]).length c102) wN ?_
  refine wl_nil <| wq_blk_normal <| wq_then <| wc_region ?_
  refine mv (vi ((kq : Nat) : Int)) wN ?_
  refine ar (((kq : Nat) : Int) + 1) wN ?_
  refine ag (vi (((kq : Nat) : Int) + 1)) wN ?_
  refine wl_nil ?_
  have hE110 : ((((x_l.take kq).filter (fun n : PNote => decide (n.Kind = x_kind))) ++ [(F_spec_l18Copy (x_l.getD kq z_PNote))]) : List (PNote)) = (x_l.take (kq + 1)).filter (fun n : PNote => decide (n.Kind = x_kind)) := by first | rfl | exact filt_t (z := z_PNote) (by omega) (by assumption) | exact filt_f (z := z_PNote) (by omega) (by assumption)
  refine wq_loopQ (w0 := w2) (fun e => [e 0, e 1, e 2, e 3, e 4, (.slice a101 ((x_l.take (kq + 1)).filter (fun n : PNote => decide (n.Kind = x_kind))).length c102), (vi (((kq + 1) : Nat) : Int)), e 7, e 8, e 9, e 10, e 11, e 12, e 13, e 14, e 15, e 16, e 17, e 18, e 19, e 20, e 21, e 22, e 23, e 24, e 25, e 26, e 27, e 28, e 29]) rfl ?_ ?_ ?_
  · exact ⟨rfl, rfl, rfl, rfl, rfl, (congrArg (fun l : List (PNote) => Value.slice a101 l.length c102) hE110), (congrArg (Value.int .i64) (show ((((kq : Nat) : Int) + 1) : Int) = (((kq + 1) : Nat) : Int) by omega)), rfl, rfl, rfl, rfl, rfl, rfl, rfl, rfl, rfl, rfl, rfl, rfl, rfl, rfl, rfl, rfl, rfl, rfl, rfl, rfl, rfl, rfl, rfl, trivial⟩
  · exact ⟨(kq + 1), (unL [_, _, _, _, _, _, _, _, _, _, _, _, _, _, _, _, _, _, _, _, _, _, _, _]), a101, c102, rfl, m105, (((((Ch.refl (fun k => w0.heap.size ≤ k) w1).ext k16 (fun k hk => Nat.le_trans (Nat.le_refl w0.heap.size) hk)).extk k66).extk k90).ext k103 (fun k hk => Nat.le_trans (Nat.le_refl w0.heap.size) (own_lt o22 k hk).1)), (by omega), (hE110 ▸ ⟨(OLv.now o104), (OLv.small o104)⟩)⟩
  · show x_l.length - ((((kq + 1) : Nat) : Int)).toNat < x_l.length - (((kq : Nat) : Int)).toNat; omega

def F_impl_clone (x_b : List UInt8) : (List UInt8) := x_b
theorem C_impl_clone (w0 : World) (v_x_b : Value) (x_b : List UInt8) (r_x_b : R_22 w0 v_x_b x_b)  : Fn Try.prog 110 #[v_x_b] w0 (fun v w' => Keep w0 w' ∧ O_22 w' w0.heap.size v (F_impl_clone x_b)) := by
 obtain ⟨a1, c2, rfl, r3, s4⟩ := r_x_b
 refine fn_of (n := 6) (l := [(vs a1 x_b.length c2), U, U, U, U, U]) Try.func110 rfl rfl (by kernel_rfl) rfl ?_
 refine sr ?_
 refine ag (vs none 0 0) wN ?_
 refine nx ?_
 refine wl_lit0 wN rfl rfl slTy_22 (fun w => by kernel_rfl) ?_
 intro a6 w1 k7 o8
 have m9 := (Ch.base w0).extk k7
 refine mv (vs a1 x_b.length c2) wN ?_
 refine wl_append0 wN rfl rfl rfl slTy_22 rfl rfl o8 (r3.from0 m9) (all_bV _) (by first | (simp only [List.length_append, List.length_cons, List.length_nil, List.length_replicate]; omega) | omega) (by simp only [maxLen]; first | (simp only [List.length_append, List.length_cons, List.length_nil, List.length_replicate]; omega) | omega) k7.size ?_
 intro u11 w2 k12 o13 j14
 obtain ⟨a15, c16, rfl⟩ := own_form o13
 have n17 : New w1 a15 c16 := j14 _ _ rfl
 have m18 := m9.extk k12
 refine ag (vs a15 x_b.length c16) wN ?_
 refine wl_nil <| wq_then <| wc_ret ?_
 refine ret_1 (.inl rfl) (vs a15 x_b.length c16) rfl rfl ?_
 refine ⟨m18.keep0, ?_⟩
 have hF20 : F_impl_clone x_b = x_b := by rfl
 rw [hF20]
 exact ⟨_, _, rfl, o13, s4, ⟨trivial, trivial⟩⟩

theorem mixed : Try.prog.follows .mixedOrders = true := by kernel_rfl
def F_impl_copyNote (x_n : PNote) : (PNote) := { Kind := x_n.Kind, Id := x_n.Id, Role := x_n.Role, Cn := (F_impl_clone x_n.Cn), Sn := (F_impl_clone x_n.Sn), Epoch := x_n.Epoch, Seq := x_n.Seq, Body := (F_impl_clone x_n.Body), Key := (F_impl_clone x_n.Key), A := x_n.A, Now := x_n.Now : PNote }
theorem C_impl_copyNote (w0 : World) (v_x_n : Value) (x_n : PNote) (r_x_n : R_41 w0 v_x_n x_n)  : Fn Try.prog 90 #[v_x_n] w0 (fun v w' => Keep w0 w' ∧ O_41 w' w0.heap.size v (F_impl_copyNote x_n)) := by
 obtain ⟨a1, c2, a6, c7, a11, c12, a16, c17, rfl, r3, s4, r8, s9, r13, s14, r18, s19⟩ := r_x_n
 refine fn_of (n := 20) (l := [(va (L_41 x_n a1 c2 a6 c7 a11 c12 a16 c17)), U, U, U, U, U, U, U, U, U, U, U, U, U, U, U, U, U, U, U]) Try.func90 rfl rfl (by kernel_rfl) rfl ?_
 refine sr ?_
 refine bx (L_41 x_n a1 c2 a6 c7 a11 c12 a16 c17) wN ?_
 intro g21 w1 p22 p23 k24 b25
 have m26 := (Ch.base w0).extk k24
 refine al [(vi 0), (vi 0), (vi 0), (vs none 0 0), (vs none 0 0), (vi 0), (vi 0), (vs none 0 0), (vs none 0 0), (vi 0), (vi 0), (vi 0)] wN zero_41 ?_
 intro g27 w2 p28 p29 k30 b31
 have m32 := m26.extk k30
 refine wl_nil <| wq_then <| wc_seq ?_
 refine wc_drawT ([(3, [], [], (fun _ v _ => v = (vp g21 3))), (4, [], [0], (fun _ v _ => v = (vs a1 x_n.Cn.length c2))), (5, [], [0, 1], (fun _ v w => ∃ (a1 : Option Addr) (c1 : Nat), v = .slice a1 (F_impl_clone x_n.Cn).length c1 ∧ w.ownsRow (w2.heap.size) 5 1 (.slice a1 (F_impl_clone x_n.Cn).length c1) (F_impl_clone x_n.Cn).length ((F_impl_clone x_n.Cn).map bV) ∧ (F_impl_clone x_n.Cn).length ≤ 1073741824 ∧ Aps [(a1, c1)])), (6, [], [], (fun _ v _ => v = (vp g21 4))), (7, [], [3], (fun _ v _ => v = (vs a6 x_n.Sn.length c7))), (8, [5], [0, 1, 2, 3, 4], (fun e v w => ∃ (a1 : Option Addr) (c1 : Nat), v = .slice a1 (F_impl_clone x_n.Sn).length c1 ∧ w.ownsRow (w2.heap.size) 5 1 (.slice a1 (F_impl_clone x_n.Sn).length c1) (F_impl_clone x_n.Sn).length ((F_impl_clone x_n.Sn).map bV) ∧ (F_impl_clone x_n.Sn).length ≤ 1073741824 ∧ Aps [(a1, c1)] ∧ Ap (sp (e 5)) (a1, c1))), (9, [], [], (fun _ v _ => v = (vp g21 7))), (10, [], [6], (fun _ v _ => v = (vs a11 x_n.Body.length c12))), (11, [5, 8], [0, 1, 2, 3, 4, 5, 6, 7], (fun e v w => ∃ (a1 : Option Addr) (c1 : Nat), v = .slice a1 (F_impl_clone x_n.Body).length c1 ∧ w.ownsRow (w2.heap.size) 5 1 (.slice a1 (F_impl_clone x_n.Body).length c1) (F_impl_clone x_n.Body).length ((F_impl_clone x_n.Body).map bV) ∧ (F_impl_clone x_n.Body).length ≤ 1073741824 ∧ Aps [(a1, c1)] ∧ Ap (sp (e 5)) (a1, c1) ∧ Ap (sp (e 8)) (a1, c1))), (12, [], [], (fun _ v _ => v = (vp g21 8))), (13, [], [9], (fun _ v _ => v = (vs a16 x_n.Key.length c17))), (14, [5, 8, 11], [0, 1, 2, 3, 4, 5, 6, 7, 8, 9, 10], (fun e v w => ∃ (a1 : Option Addr) (c1 : Nat), v = .slice a1 (F_impl_clone x_n.Key).length c1 ∧ w.ownsRow (w2.heap.size) 5 1 (.slice a1 (F_impl_clone x_n.Key).length c1) (F_impl_clone x_n.Key).length ((F_impl_clone x_n.Key).map bV) ∧ (F_impl_clone x_n.Key).length ≤ 1073741824 ∧ Aps [(a1, c1)] ∧ Ap (sp (e 5)) (a1, c1) ∧ Ap (sp (e 8)) (a1, c1) ∧ Ap (sp (e 11)) (a1, c1))), (15, [], [0, 1, 2, 3, 4, 6, 7, 9, 10], (fun _ v _ => v = (vp g21 3)))] : GV) (fun _ w' => Keep w2 w') [] mixed rfl (by kernel_rfl) (by kernel_rfl) ?_ (fun _ _ h => h) (fun _ _ _ _ h _ k => h.trans k) trivial ?_ ?_ ?_
 ·exact ⟨(fun _ _ _ _ h _ => h), (fun _ _ _ _ _ h => h), ⟨(fun _ _ _ _ h _ => h), (fun _ _ _ _ _ h => h), ⟨(fun e v w w1 h hk => by obtain ⟨a0x, c0x, he, o0x, l0x, hap⟩ := h; exact ⟨a0x, c0x, he, own_kp o0x hk, l0x, hap⟩), (fun _ _ _ _ _ h => h), ⟨(fun _ _ _ _ h _ => h), (fun _ _ _ _ _ h => h), ⟨(fun _ _ _ _ h _ => h), (fun _ _ _ _ _ h => h), ⟨(fun e v w w1 h hk => by obtain ⟨a0x, c0x, he, o0x, l0x, hap, hx⟩ := h; exact ⟨a0x, c0x, he, own_kp o0x hk, l0x, hap, hx⟩), (fun e1 e2 v w hx h => by have h5x := hx 5 (by simp); simp only [h5x] at h; exact h), ⟨(fun _ _ _ _ h _ => h), (fun _ _ _ _ _ h => h), ⟨(fun _ _ _ _ h _ => h), (fun _ _ _ _ _ h => h), ⟨(fun e v w w1 h hk => by obtain ⟨a0x, c0x, he, o0x, l0x, hap, hx⟩ := h; exact ⟨a0x, c0x, he, own_kp o0x hk, l0x, hap, hx⟩), (fun e1 e2 v w hx h => by have h5x := hx 5 (by simp); have h8x := hx 8 (by simp); simp only [h5x, h8x] at h; exact h), ⟨(fun _ _ _ _ h _ => h), (fun _ _ _ _ _ h => h), ⟨(fun _ _ _ _ h _ => h), (fun _ _ _ _ _ h => h), ⟨(fun e v w w1 h hk => by obtain ⟨a0x, c0x, he, o0x, l0x, hap, hx⟩ := h; exact ⟨a0x, c0x, he, own_kp o0x hk, l0x, hap, hx⟩), (fun e1 e2 v w hx h => by have h5x := hx 5 (by simp); have h8x := hx 8 (by simp); have h11x := hx 11 (by simp); simp only [h5x, h8x, h11x] at h; exact h), ⟨(fun _ _ _ _ h _ => h), (fun _ _ _ _ _ h => h), trivial⟩⟩⟩⟩⟩⟩⟩⟩⟩⟩⟩⟩⟩
 ·exact trivial
 ·refine ⟨?_, ⟨?_, ⟨?_, ⟨?_, ⟨?_, ⟨?_, ⟨?_, ⟨?_, ⟨?_, ⟨?_, ⟨?_, ⟨?_, ⟨?_, trivial⟩⟩⟩⟩⟩⟩⟩⟩⟩⟩⟩⟩⟩
  ·intro _ w3 k111 _
   have m112 := m32.extk k111
   rintro _ _ _ _ _ _ _ _ _ _ _ _ _
   show WL _ _ _ _ _ _ _
   refine pu (vp g21 3) wN ?_
   exact wl_finT (Ch.refl _ _) rfl
  ·intro _ w3 k113 _
   have m114 := m32.extk k113
   rintro _ rfl _ _ _ _ _ _ _ _ _ _ _ _
   show WL _ _ _ _ _ _ _
   have b115 := ((b25.kp k30).kp k113)
   refine ld (vs a1 x_n.Cn.length c2) wN isAgg_22 b115 ?_
   exact wl_finT (Ch.refl _ _) rfl
  ·intro _ w3 k116 _
   have m117 := m32.extk k116
   rintro _ rfl _ rfl _ _ _ _ _ _ _ _ _ _ _
   show WL _ _ _ _ _ _ _
   refine cl wN (C_impl_clone w3 _ x_n.Cn (mR_22 (r3.from0 m117) s4)) ?_
   rintro _ w4 ⟨k119, ⟨a120, c121, rfl, o122, s123, ap125⟩⟩
   have m126 := m117.extk k119
   exact wl_finT k119 ⟨_, _, rfl, (own_lo o122 k116.size), s123, ap125⟩
  ·intro _ w3 k127 _
   have m128 := m32.extk k127
   rintro _ _ _ _ _ _ _ _ _ _ _ _ _
   show WL _ _ _ _ _ _ _
   refine pu (vp g21 4) wN ?_
   exact wl_finT (Ch.refl _ _) rfl
  ·intro _ w3 k129 _
   have m130 := m32.extk k129
   rintro _ _ _ _ rfl _ _ _ _ _ _ _ _ _
   show WL _ _ _ _ _ _ _
   have b131 := ((b25.kp k30).kp k129)
   refine ld (vs a6 x_n.Sn.length c7) wN isAgg_22 b131 ?_
   exact wl_finT (Ch.refl _ _) rfl
  ·intro _ w3 k132 _
   have m133 := m32.extk k132
   rintro _ rfl _ rfl _ ⟨a135, c136, rfl, o137, s138, ap140⟩ _ rfl _ rfl _ _ _ _ _ _ _ _
   show WL _ _ _ _ _ _ _
   refine cl wN (C_impl_clone w3 _ x_n.Sn (mR_22 (r8.from0 m133) s9)) ?_
   rintro _ w4 ⟨k142, ⟨a143, c144, rfl, o145, s146, ap148⟩⟩
   have m149 := m133.extk k142
   exact wl_finT k142 ⟨_, _, rfl, (own_lo o145 k132.size), s146, ap148, (Ap.lt o137 o145 (Nat.le_refl _))⟩
  ·intro _ w3 k150 _
   have m151 := m32.extk k150
   rintro _ _ _ _ _ _ _ _ _ _ _ _ _
   show WL _ _ _ _ _ _ _
   refine pu (vp g21 7) wN ?_
   exact wl_finT (Ch.refl _ _) rfl
  ·intro _ w3 k152 _
   have m153 := m32.extk k152
   rintro _ _ _ _ _ _ _ rfl _ _ _ _ _ _
   show WL _ _ _ _ _ _ _
   have b154 := ((b25.kp k30).kp k152)
   refine ld (vs a11 x_n.Body.length c12) wN isAgg_22 b154 ?_
   exact wl_finT (Ch.refl _ _) rfl
  ·intro _ w3 k155 _
   have m156 := m32.extk k155
   rintro _ rfl _ rfl _ ⟨a158, c159, rfl, o160, s161, ap163⟩ _ rfl _ rfl _ ⟨a165, c166, rfl, o167, s168, ap170, hx171⟩ _ rfl _ rfl _ _ _ _ _
   show WL _ _ _ _ _ _ _
   refine cl wN (C_impl_clone w3 _ x_n.Body (mR_22 (r13.from0 m156) s14)) ?_
   rintro _ w4 ⟨k173, ⟨a174, c175, rfl, o176, s177, ap179⟩⟩
   have m180 := m156.extk k173
   exact wl_finT k173 ⟨_, _, rfl, (own_lo o176 k155.size), s177, ap179, ⟨(Ap.lt o160 o176 (Nat.le_refl _)), (Ap.lt o167 o176 (Nat.le_refl _))⟩⟩
  ·intro _ w3 k181 _
   have m182 := m32.extk k181
   rintro _ _ _ _ _ _ _ _ _ _ _ _ _
   show WL _ _ _ _ _ _ _
   refine pu (vp g21 8) wN ?_
   exact wl_finT (Ch.refl _ _) rfl
  ·intro _ w3 k183 _
   have m184 := m32.extk k183
   rintro _ _ _ _ _ _ _ _ _ _ rfl _ _ _
   show WL _ _ _ _ _ _ _
   have b185 := ((b25.kp k30).kp k183)
   refine ld (vs a16 x_n.Key.length c17) wN isAgg_22 b185 ?_
   exact wl_finT (Ch.refl _ _) rfl
  ·intro _ w3 k186 _
   have m187 := m32.extk k186
   rintro _ rfl _ rfl _ ⟨a189, c190, rfl, o191, s192, ap194⟩ _ rfl _ rfl _ ⟨a196, c197, rfl, o198, s199, ap201, hx202⟩ _ rfl _ rfl _ ⟨a204, c205, rfl, o206, s207, ap209, hx210⟩ _ rfl _ rfl _ _
   show WL _ _ _ _ _ _ _
   refine cl wN (C_impl_clone w3 _ x_n.Key (mR_22 (r18.from0 m187) s19)) ?_
   rintro _ w4 ⟨k212, ⟨a213, c214, rfl, o215, s216, ap218⟩⟩
   have m219 := m187.extk k212
   exact wl_finT k212 ⟨_, _, rfl, (own_lo o215 k186.size), s216, ap218, ⟨(Ap.lt o191 o215 (Nat.le_refl _)), (Ap.lt o198 o215 (Nat.le_refl _)), (Ap.lt o206 o215 (Nat.le_refl _))⟩⟩
  ·intro _ w3 k220 _
   have m221 := m32.extk k220
   rintro _ rfl _ rfl _ ⟨a223, c224, rfl, o225, s226, ap228⟩ _ rfl _ rfl _ _ rfl _ rfl _ _ rfl _ rfl _ _
   show WL _ _ _ _ _ _ _
   refine pu (vp g21 3) wN ?_
   exact wl_finT (Ch.refl _ _) rfl
 ·intro _ w3 k232
  have m233 := m32.extk k232
  rintro _ rfl _ rfl _ ⟨a235, c236, rfl, o237, s238, ap240⟩ _ rfl _ rfl _ ⟨a242, c243, rfl, o244, s245, ap247, hx248⟩ _ rfl _ rfl _ ⟨a250, c251, rfl, o252, s253, ap255, hx256⟩ _ rfl _ rfl _ ⟨a258, c259, rfl, o260, s261, ap263, hx264⟩ _ rfl
  show WL _ _ _ _ _ _ _
  have b265 := ((b25.kp k30).kp k232)
  refine st (vs a235 (F_impl_clone x_n.Cn).length c236) [(vs a235 (F_impl_clone x_n.Cn).length c236)] [(vi x_n.Kind), (vi x_n.Id), (vi x_n.Role), (vs a235 (F_impl_clone x_n.Cn).length c236), (vs a6 x_n.Sn.length c7), (vi x_n.Epoch), (vi x_n.Seq), (vs a11 x_n.Body.length c12), (vs a16 x_n.Key.length c17), (vi x_n.A.Host), (vi x_n.A.Port), (vi x_n.Now)] wN sizeOf_22 b265 ?_
  intro w4 k266 b267 z268
  have m269 := m233.ext k266 (fun k hk => by subst hk; exact Nat.le_trans (Nat.le_refl w0.heap.size) p22)
  refine pu (vp g21 4) wN ?_
  refine st (vs a242 (F_impl_clone x_n.Sn).length c243) [(vs a242 (F_impl_clone x_n.Sn).length c243)] [(vi x_n.Kind), (vi x_n.Id), (vi x_n.Role), (vs a235 (F_impl_clone x_n.Cn).length c236), (vs a242 (F_impl_clone x_n.Sn).length c243), (vi x_n.Epoch), (vi x_n.Seq), (vs a11 x_n.Body.length c12), (vs a16 x_n.Key.length c17), (vi x_n.A.Host), (vi x_n.A.Port), (vi x_n.Now)] wN sizeOf_22 b267 ?_
  intro w5 k270 b271 z272
  have m273 := m269.ext k270 (fun k hk => by subst hk; exact Nat.le_trans (Nat.le_refl w0.heap.size) p22)
  refine pu (vp g21 7) wN ?_
  refine st (vs a250 (F_impl_clone x_n.Body).length c251) [(vs a250 (F_impl_clone x_n.Body).length c251)] [(vi x_n.Kind), (vi x_n.Id), (vi x_n.Role), (vs a235 (F_impl_clone x_n.Cn).length c236), (vs a242 (F_impl_clone x_n.Sn).length c243), (vi x_n.Epoch), (vi x_n.Seq), (vs a250 (F_impl_clone x_n.Body).length c251), (vs a16 x_n.Key.length c17), (vi x_n.A.Host), (vi x_n.A.Port), (vi x_n.Now)] wN sizeOf_22 b271 ?_
  intro w6 k274 b275 z276
  have m277 := m273.ext k274 (fun k hk => by subst hk; exact Nat.le_trans (Nat.le_refl w0.heap.size) p22)
  refine pu (vp g21 8) wN ?_
  refine st (vs a258 (F_impl_clone x_n.Key).length c259) [(vs a258 (F_impl_clone x_n.Key).length c259)] [(vi x_n.Kind), (vi x_n.Id), (vi x_n.Role), (vs a235 (F_impl_clone x_n.Cn).length c236), (vs a242 (F_impl_clone x_n.Sn).length c243), (vi x_n.Epoch), (vi x_n.Seq), (vs a250 (F_impl_clone x_n.Body).length c251), (vs a258 (F_impl_clone x_n.Key).length c259), (vi x_n.A.Host), (vi x_n.A.Port), (vi x_n.Now)] wN sizeOf_22 b275 ?_
  intro w7 k278 b279 z280
  have m281 := m277.ext k278 (fun k hk => by subst hk; exact Nat.le_trans (Nat.le_refl w0.heap.size) p22)
  refine nx ?_
  refine lN [(vi x_n.Kind), (vi x_n.Id), (vi x_n.Role), (vs a235 (F_impl_clone x_n.Cn).length c236), (vs a242 (F_impl_clone x_n.Sn).length c243), (vi x_n.Epoch), (vi x_n.Seq), (vs a250 (F_impl_clone x_n.Body).length c251), (vs a258 (F_impl_clone x_n.Key).length c259), (vi x_n.A.Host), (vi x_n.A.Port), (vi x_n.Now)] wN isAgg_41 sizeOf_41 b279 ?_
  have b282 := (((((b31.kp k232).ch k266 (Ne.symm (Nat.ne_of_lt (Nat.lt_of_lt_of_le p23 (Nat.le_trans (Nat.le_refl w1.heap.size) p28))))).ch k270 (Ne.symm (Nat.ne_of_lt (Nat.lt_of_lt_of_le p23 (Nat.le_trans (Nat.le_refl w1.heap.size) p28))))).ch k274 (Ne.symm (Nat.ne_of_lt (Nat.lt_of_lt_of_le p23 (Nat.le_trans (Nat.le_refl w1.heap.size) p28))))).ch k278 (Ne.symm (Nat.ne_of_lt (Nat.lt_of_lt_of_le p23 (Nat.le_trans (Nat.le_refl w1.heap.size) p28)))))
  refine st (va [(vi x_n.Kind), (vi x_n.Id), (vi x_n.Role), (vs a235 (F_impl_clone x_n.Cn).length c236), (vs a242 (F_impl_clone x_n.Sn).length c243), (vi x_n.Epoch), (vi x_n.Seq), (vs a250 (F_impl_clone x_n.Body).length c251), (vs a258 (F_impl_clone x_n.Key).length c259), (vi x_n.A.Host), (vi x_n.A.Port), (vi x_n.Now)]) [(vi x_n.Kind), (vi x_n.Id), (vi x_n.Role), (vs a235 (F_impl_clone x_n.Cn).length c236), (vs a242 (F_impl_clone x_n.Sn).length c243), (vi x_n.Epoch), (vi x_n.Seq), (vs a250 (F_impl_clone x_n.Body).length c251), (vs a258 (F_impl_clone x_n.Key).length c259), (vi x_n.A.Host), (vi x_n.A.Port), (vi x_n.Now)] [(vi x_n.Kind), (vi x_n.Id), (vi x_n.Role), (vs a235 (F_impl_clone x_n.Cn).length c236), (vs a242 (F_impl_clone x_n.Sn).length c243), (vi x_n.Epoch), (vi x_n.Seq), (vs a250 (F_impl_clone x_n.Body).length c251), (vs a258 (F_impl_clone x_n.Key).length c259), (vi x_n.A.Host), (vi x_n.A.Port), (vi x_n.Now)] wN sizeOf_41 b282 ?_
  intro w8 k283 b284 z285
  have m286 := m281.ext k283 (fun k hk => by subst hk; exact Nat.le_trans k24.size p28)
  refine wl_nil <| wq_then <| wc_ret ?_
  have o287 := (own_ch (own_ch (own_ch (own_ch (own_ch o237 k266 (fun g hg hlt hk => by have h1 := (own_lt o237 g hg).1; have h2 := Nat.lt_of_lt_of_le p23 k30.size; omega)) k270 (fun g hg hlt hk => by have h1 := (own_lt o237 g hg).1; have h2 := Nat.lt_of_lt_of_le p23 k30.size; omega)) k274 (fun g hg hlt hk => by have h1 := (own_lt o237 g hg).1; have h2 := Nat.lt_of_lt_of_le p23 k30.size; omega)) k278 (fun g hg hlt hk => by have h1 := (own_lt o237 g hg).1; have h2 := Nat.lt_of_lt_of_le p23 k30.size; omega)) k283 (fun g hg hlt hk => by have h1 := (own_lt o237 g hg).1; have h2 := Nat.lt_of_lt_of_le p29 (Nat.le_refl w2.heap.size); omega))
  have o288 := (own_ch (own_ch (own_ch (own_ch (own_ch o244 k266 (fun g hg hlt hk => by have h1 := (own_lt o244 g hg).1; have h2 := Nat.lt_of_lt_of_le p23 k30.size; omega)) k270 (fun g hg hlt hk => by have h1 := (own_lt o244 g hg).1; have h2 := Nat.lt_of_lt_of_le p23 k30.size; omega)) k274 (fun g hg hlt hk => by have h1 := (own_lt o244 g hg).1; have h2 := Nat.lt_of_lt_of_le p23 k30.size; omega)) k278 (fun g hg hlt hk => by have h1 := (own_lt o244 g hg).1; have h2 := Nat.lt_of_lt_of_le p23 k30.size; omega)) k283 (fun g hg hlt hk => by have h1 := (own_lt o244 g hg).1; have h2 := Nat.lt_of_lt_of_le p29 (Nat.le_refl w2.heap.size); omega))
  have o289 := (own_ch (own_ch (own_ch (own_ch (own_ch o252 k266 (fun g hg hlt hk => by have h1 := (own_lt o252 g hg).1; have h2 := Nat.lt_of_lt_of_le p23 k30.size; omega)) k270 (fun g hg hlt hk => by have h1 := (own_lt o252 g hg).1; have h2 := Nat.lt_of_lt_of_le p23 k30.size; omega)) k274 (fun g hg hlt hk => by have h1 := (own_lt o252 g hg).1; have h2 := Nat.lt_of_lt_of_le p23 k30.size; omega)) k278 (fun g hg hlt hk => by have h1 := (own_lt o252 g hg).1; have h2 := Nat.lt_of_lt_of_le p23 k30.size; omega)) k283 (fun g hg hlt hk => by have h1 := (own_lt o252 g hg).1; have h2 := Nat.lt_of_lt_of_le p29 (Nat.le_refl w2.heap.size); omega))
  have o290 := (own_ch (own_ch (own_ch (own_ch (own_ch o260 k266 (fun g hg hlt hk => by have h1 := (own_lt o260 g hg).1; have h2 := Nat.lt_of_lt_of_le p23 k30.size; omega)) k270 (fun g hg hlt hk => by have h1 := (own_lt o260 g hg).1; have h2 := Nat.lt_of_lt_of_le p23 k30.size; omega)) k274 (fun g hg hlt hk => by have h1 := (own_lt o260 g hg).1; have h2 := Nat.lt_of_lt_of_le p23 k30.size; omega)) k278 (fun g hg hlt hk => by have h1 := (own_lt o260 g hg).1; have h2 := Nat.lt_of_lt_of_le p23 k30.size; omega)) k283 (fun g hg hlt hk => by have h1 := (own_lt o260 g hg).1; have h2 := Nat.lt_of_lt_of_le p29 (Nat.le_refl w2.heap.size); omega))
  refine ret_1 (.inl rfl) (va [(vi x_n.Kind), (vi x_n.Id), (vi x_n.Role), (vs a235 (F_impl_clone x_n.Cn).length c236), (vs a242 (F_impl_clone x_n.Sn).length c243), (vi x_n.Epoch), (vi x_n.Seq), (vs a250 (F_impl_clone x_n.Body).length c251), (vs a258 (F_impl_clone x_n.Key).length c259), (vi x_n.A.Host), (vi x_n.A.Port), (vi x_n.Now)]) rfl (rv_c [(vi x_n.Kind), (vi x_n.Id), (vi x_n.Role), (vs a235 (F_impl_clone x_n.Cn).length c236), (vs a242 (F_impl_clone x_n.Sn).length c243), (vi x_n.Epoch), (vi x_n.Seq), (vs a250 (F_impl_clone x_n.Body).length c251), (vs a258 (F_impl_clone x_n.Key).length c259), (vi x_n.A.Host), (vi x_n.A.Port), (vi x_n.Now)] rfl b284 isAgg_41 sizeOf_41) ?_
  refine ⟨m286.keep0, ?_⟩
  have hF291 : F_impl_copyNote x_n = { Kind := x_n.Kind, Id := x_n.Id, Role := x_n.Role, Cn := (F_impl_clone x_n.Cn), Sn := (F_impl_clone x_n.Sn), Epoch := x_n.Epoch, Seq := x_n.Seq, Body := (F_impl_clone x_n.Body), Key := (F_impl_clone x_n.Key), A := x_n.A, Now := x_n.Now : PNote } := by rfl
  rw [hF291]
  exact ⟨_, _, _, _, _, _, _, _, rfl, (own_lo o287 (Nat.le_trans k24.size k30.size)), s238, (own_lo o288 (Nat.le_trans k24.size k30.size)), s245, (own_lo o289 (Nat.le_trans k24.size k30.size)), s253, (own_lo o290 (Nat.le_trans k24.size k30.size)), s261, ⟨⟨hx248, ⟨(hx256.1), ⟨(hx264.1), trivial⟩⟩⟩, ⟨⟨(hx256.2), ⟨(hx264.2.1), trivial⟩⟩, ⟨⟨(hx264.2.2), trivial⟩, ⟨trivial, trivial⟩⟩⟩⟩⟩

def F_impl_Pick (x_l : List PNote) (x_kind : Int) : (List PNote) := ((x_l.take x_l.length).filter (fun n : PNote => decide (n.Kind = x_kind)))
theorem C_impl_Pick (w0 : World) (v_x_l : Value) (x_l : List PNote) (r_x_l : R_36 w0 v_x_l x_l) (x_kind : Int)  : Fn Try.prog 23 #[v_x_l, (vi x_kind)] w0 (fun v w' => Keep w0 w' ∧ O_36 w' w0.heap.size v (F_impl_Pick x_l x_kind)) := by
 obtain ⟨a1, c2, rfl, r3, s4⟩ := r_x_l
 refine fn_of (n := 26) (l := [(vs a1 x_l.length c2), (vi x_kind), U, U, U, U, U, U, U, U, U, U, U, U, U, U, U, U, U, U, U, U, U, U, U, U]) Try.func23 rfl rfl (by kernel_rfl) rfl ?_
 refine sr ?_
 refine ag (vs none 0 0) wN ?_
 refine nx ?_
 refine wl_lit0 wN rfl rfl slTy_36 (fun w => by kernel_rfl) ?_
 intro a6 w1 k7 o8
 have m9 := (Ch.base w0).extk k7
 have o11 : OLv LT_41 w1 w0.heap.size w1.heap.size (some a6) 0 0 [] := OLv.of0 o8
 refine ag (vs (some a6) 0 0) wN ?_
 refine wl_nil <| wq_then <| wc_seq <| sr ?_
 refine mv (vs a1 x_l.length c2) wN ?_
 obtain ⟨y12, r13⟩ := RLv.row (r3.from0 m9)
 refine ln wN slTy_36 r13 ?_
 refine mv (vi 0) wN ?_
 refine wl_nil <| wq_then <| wc_block ?_
 have hE15 : ([] : List (PNote)) = (x_l.take 0).filter (fun n : PNote => decide (n.Kind = x_kind)) := by first | rfl | exact filt_t (z := z_PNote) (by omega) (by assumption) | exact filt_f (z := z_PNote) (by omega) (by assumption)
 have hN16 : 0 = ((x_l.take 0).filter (fun n : PNote => decide (n.Kind = x_kind))).length := by rw [← hE15]; rfl
 refine wc_normQ (fun e => [e 0, e 1, e 2, e 3, e 4, (.slice (some a6) ((x_l.take 0).filter (fun n : PNote => decide (n.Kind = x_kind))).length 0), e 6, e 7, e 8, e 9, e 10, (vi ((0 : Nat) : Int)), e 12, e 13, e 14, e 15, e 16, e 17, e 18, e 19, e 20, e 21, e 22, e 23, e 24, e 25]) rfl ⟨rfl, rfl, rfl, rfl, rfl, (congrArg (fun m : Nat => Value.slice (some a6) m 0) hN16), rfl, rfl, rfl, rfl, rfl, (congrArg (Value.int .i64) (show (0 : Int) = ((0 : Nat) : Int) by omega)), rfl, rfl, rfl, rfl, rfl, rfl, rfl, rfl, rfl, rfl, rfl, rfl, rfl, rfl, trivial⟩ ?_
 refine wc_loop (fun e' w' => ∃ (kq : Nat) (u14 : Nat → Value) (a5x : Option Addr) (c5x : Nat), e' = lst [(u14 0), (vi x_kind), (u14 1), (u14 2), (vs none 0 0), (.slice a5x ((x_l.take kq).filter (fun n : PNote => decide (n.Kind = x_kind))).length c5x), (u14 3), (u14 4), (u14 5), (vs a1 x_l.length c2), (vi (x_l.length : Int)), (vi ((kq : Nat) : Int)), (u14 6), (u14 7), (u14 8), (u14 9), (u14 10), (u14 11), (u14 12), (u14 13), (u14 14), (u14 15), (u14 16), (u14 17), (u14 18), U] ∧ Ch (fun k => w0.heap.size ≤ k) w0 w' ∧ Ch (fun k => w0.heap.size ≤ k) w1 w' ∧ kq ≤ x_l.length ∧ (OLv LT_41 w' w0.heap.size w'.heap.size a5x ((x_l.take kq).filter (fun n : PNote => decide (n.Kind = x_kind))).length c5x ((x_l.take kq).filter (fun n : PNote => decide (n.Kind = x_kind))) ∧ ((x_l.take kq).filter (fun n : PNote => decide (n.Kind = x_kind))).length ≤ 1073741824)) (fun e' _ => x_l.length - ((intOf (e' 11))).toNat) ?_ ?_
 ·exact ⟨0, (unL [_, U, U, U, U, _, U, U, U, U, U, U, U, U, U, U, U, U, U]), (some a6), 0, rfl, m9, (Ch.refl (fun k => w0.heap.size ≤ k) w1), (by omega), ⟨(by rw [← hN16, ← hE15]; exact (OLv.now o11)), (by rw [← hN16]; first | exact (by simp) | (simp only [List.length_append, List.length_take, List.length_replicate]; omega))⟩⟩
 ·rintro _ w2 ⟨kq, u14, a5x, c5x, rfl, m17, k18, i19, ⟨o20, s21⟩⟩
  obtain ⟨y23, o24⟩ := OLv.ow o20
  refine sr ?_
  refine pu (vb (decide (((kq : Nat) : Int) < (x_l.length : Int)))) wN ?_
  refine wl_nil <| wq_then <| wc_seq ?_
  rcases bf (decide (((kq : Nat) : Int) < (x_l.length : Int))) with h25 | h25
  ·have q122 := of_decide_eq_false h25
   refine cf h25 ?_
   refine wc_exit <| wq_then_exit ?_
   obtain rfl : kq = x_l.length := by omega
   refine wq_then_exit <| wq_blk_exit <| wq_then <| sr ?_
   refine mv (vs a5x ((x_l.take x_l.length).filter (fun n : PNote => decide (n.Kind = x_kind))).length c5x) wN ?_
   refine ag (vs a5x ((x_l.take x_l.length).filter (fun n : PNote => decide (n.Kind = x_kind))).length c5x) wN ?_
   refine wl_nil <| wq_then <| wc_ret ?_
   refine ret_1 (.inl rfl) (vs a5x ((x_l.take x_l.length).filter (fun n : PNote => decide (n.Kind = x_kind))).length c5x) rfl rfl ?_
   refine ⟨m17.keep0, ?_⟩
   have hF123 : F_impl_Pick x_l x_kind = ((x_l.take x_l.length).filter (fun n : PNote => decide (n.Kind = x_kind))) := by simp only [F_impl_Pick, h25, cond_true, cond_false]
   rw [hF123]
   exact ⟨_, _, rfl, (OLv.now (OLv.low o20 (Nat.le_refl w0.heap.size))), s21, ⟨trivial, trivial⟩⟩
  have q26 := of_decide_eq_true h25
  refine ct h25 ?_
  refine wc_skip <| wq_then <| wc_seq <| wc_block <| sr ?_
  obtain ⟨y27, r28⟩ := RLv.row (r3.from0 m17)
  refine wl_index (v := (vs a1 x_l.length c2)) wN ((kq : Nat) : Int) rfl rfl rfl slTy_36 rfl rfl r28 (by first | omega | (simp only [List.length_cons, List.length_nil, List.length_replicate, List.length_append, List.length_take, List.length_set, List.length_map]; omega)) (by first | omega | (simp only [List.length_cons, List.length_nil, List.length_replicate, List.length_append, List.length_take, List.length_set, List.length_map]; omega)) ?_
  obtain ⟨y29, l30, r31, e32, u33⟩ := RLv.el z_PNote (i := kq) r3 (by first | omega | (simp only [List.length_cons, List.length_nil, List.length_replicate, List.length_append, List.length_take, List.length_set, List.length_map]; omega))
  obtain ⟨a34, c35, l39, rfl, r36, s37, u40⟩ := SubR.c u33
  obtain ⟨a41, c42, l46, rfl, r43, s44, u47⟩ := SubR.c u40
  obtain ⟨a48, c49, l53, rfl, r50, s51, u54⟩ := SubR.c u47
  obtain ⟨a55, c56, l60, rfl, r57, s58, u61⟩ := SubR.c u54
  obtain rfl := SubR.n u61
  refine wl_loadEN [(vi ((x_l.getD kq z_PNote).Kind)), (vi ((x_l.getD kq z_PNote).Id)), (vi ((x_l.getD kq z_PNote).Role)), (vs a34 (x_l.getD kq z_PNote).Cn.length c35), (vs a41 (x_l.getD kq z_PNote).Sn.length c42), (vi ((x_l.getD kq z_PNote).Epoch)), (vi ((x_l.getD kq z_PNote).Seq)), (vs a48 (x_l.getD kq z_PNote).Body.length c49), (vs a55 (x_l.getD kq z_PNote).Key.length c56), (vi (((x_l.getD kq z_PNote).A).Host)), (vi (((x_l.getD kq z_PNote).A).Port)), (vi ((x_l.getD kq z_PNote).Now))] wN rfl rfl rfl rfl isAgg_41 sizeOf_41 (r31.from0 m17) (by first | omega | (simp only [List.length_cons, List.length_nil, List.length_replicate, List.length_append, List.length_take, List.length_set, List.length_map]; omega)) ((part_of (off := 0) (n := 12) e32 (by first | rfl | simp | omega) (by decide)).trans rfl) ?_
  refine al [(vi 0), (vi 0), (vi 0), (vs none 0 0), (vs none 0 0), (vi 0), (vi 0), (vs none 0 0), (vs none 0 0), (vi 0), (vi 0), (vi 0)] wN zero_41 ?_
  intro g62 w3 p63 p64 k65 b66
  have m67 := m17.extk k65
  refine st (va [(vi ((x_l.getD kq z_PNote).Kind)), (vi ((x_l.getD kq z_PNote).Id)), (vi ((x_l.getD kq z_PNote).Role)), (vs a34 (x_l.getD kq z_PNote).Cn.length c35), (vs a41 (x_l.getD kq z_PNote).Sn.length c42), (vi ((x_l.getD kq z_PNote).Epoch)), (vi ((x_l.getD kq z_PNote).Seq)), (vs a48 (x_l.getD kq z_PNote).Body.length c49), (vs a55 (x_l.getD kq z_PNote).Key.length c56), (vi (((x_l.getD kq z_PNote).A).Host)), (vi (((x_l.getD kq z_PNote).A).Port)), (vi ((x_l.getD kq z_PNote).Now))]) [(vi ((x_l.getD kq z_PNote).Kind)), (vi ((x_l.getD kq z_PNote).Id)), (vi ((x_l.getD kq z_PNote).Role)), (vs a34 (x_l.getD kq z_PNote).Cn.length c35), (vs a41 (x_l.getD kq z_PNote).Sn.length c42), (vi ((x_l.getD kq z_PNote).Epoch)), (vi ((x_l.getD kq z_PNote).Seq)), (vs a48 (x_l.getD kq z_PNote).Body.length c49), (vs a55 (x_l.getD kq z_PNote).Key.length c56), (vi (((x_l.getD kq z_PNote).A).Host)), (vi (((x_l.getD kq z_PNote).A).Port)), (vi ((x_l.getD kq z_PNote).Now))] [(vi ((x_l.getD kq z_PNote).Kind)), (vi ((x_l.getD kq z_PNote).Id)), (vi ((x_l.getD kq z_PNote).Role)), (vs a34 (x_l.getD kq z_PNote).Cn.length c35), (vs a41 (x_l.getD kq z_PNote).Sn.length c42), (vi ((x_l.getD kq z_PNote).Epoch)), (vi ((x_l.getD kq z_PNote).Seq)), (vs a48 (x_l.getD kq z_PNote).Body.length c49), (vs a55 (x_l.getD kq z_PNote).Key.length c56), (vi (((x_l.getD kq z_PNote).A).Host)), (vi (((x_l.getD kq z_PNote).A).Port)), (vi ((x_l.getD kq z_PNote).Now))] wN sizeOf_41 b66 ?_
  intro w4 k68 b69 z70
  have m71 := m67.ext k68 (fun k hk => by subst hk; exact Nat.le_trans (Nat.le_trans k7.size k18.size) p63)
  refine nx ?_
  refine pu (vp g62 0) wN ?_
  refine ld (vi ((x_l.getD kq z_PNote).Kind)) wN isAgg_3 b69 ?_
  refine mv (vi x_kind) wN ?_
  refine pu (vb (decide ((x_l.getD kq z_PNote).Kind = x_kind))) wN ?_
  refine wl_nil <| wq_then ?_
  rcases bf (decide ((x_l.getD kq z_PNote).Kind = x_kind)) with h72 | h72
  ·have q119 := of_decide_eq_false h72
   refine cf h72 ?_
   refine wc_skip <| wq_blk_normal <| wq_then <| wc_region ?_
   refine ar (((kq : Nat) : Int) + 1) wN ?_
   refine mv (vi (((kq : Nat) : Int) + 1)) wN ?_
   refine wl_nil ?_
   have o120 := (OLv.ch (OLv.kp o20 k65) k68 (fun g h1 h2 hk => by have h3 := Nat.le_trans (Nat.le_refl w2.heap.size) p63; omega))
   have hE121 : (((x_l.take kq).filter (fun n : PNote => decide (n.Kind = x_kind))) : List (PNote)) = (x_l.take (kq + 1)).filter (fun n : PNote => decide (n.Kind = x_kind)) := by first | rfl | exact filt_t (z := z_PNote) (by omega) (by assumption) | exact filt_f (z := z_PNote) (by omega) (by assumption)
   refine wq_loopQ (w0 := w2) (fun e => [e 0, e 1, e 2, e 3, e 4, (.slice a5x ((x_l.take (kq + 1)).filter (fun n : PNote => decide (n.Kind = x_kind))).length c5x), e 6, e 7, e 8, e 9, e 10, (vi (((kq + 1) : Nat) : Int)), e 12, e 13, e 14, e 15, e 16, e 17, e 18, e 19, e 20, e 21, e 22, e 23, e 24, e 25]) rfl ?_ ?_ ?_
   · exact ⟨rfl, rfl, rfl, rfl, rfl, (congrArg (fun l : List (PNote) => Value.slice a5x l.length c5x) hE121), rfl, rfl, rfl, rfl, rfl, (congrArg (Value.int .i64) (show ((((kq : Nat) : Int) + 1) : Int) = (((kq + 1) : Nat) : Int) by omega)), rfl, rfl, rfl, rfl, rfl, rfl, rfl, rfl, rfl, rfl, rfl, rfl, rfl, rfl, trivial⟩
   · exact ⟨(kq + 1), (unL [_, _, _, _, _, _, _, _, _, _, _, _, _, _, _, _, _, _, _]), a5x, c5x, rfl, m71, ((((Ch.refl (fun k => w0.heap.size ≤ k) w1).ext k18 (fun k hk => Nat.le_trans (Nat.le_refl w0.heap.size) hk)).extk k65).ext k68 (fun k hk => by subst hk; exact Nat.le_trans (Nat.le_trans k7.size k18.size) p63)), (by omega), (hE121 ▸ ⟨(OLv.now o120), s21⟩)⟩
   · show x_l.length - ((((kq + 1) : Nat) : Int)).toNat < x_l.length - (((kq : Nat) : Int)).toNat; omega
  have q73 := of_decide_eq_true h72
  refine ct h72 ?_
  refine wc_region ?_
  refine mv (vs a5x ((x_l.take kq).filter (fun n : PNote => decide (n.Kind = x_kind))).length c5x) wN ?_
  refine lN [(vi ((x_l.getD kq z_PNote).Kind)), (vi ((x_l.getD kq z_PNote).Id)), (vi ((x_l.getD kq z_PNote).Role)), (vs a34 (x_l.getD kq z_PNote).Cn.length c35), (vs a41 (x_l.getD kq z_PNote).Sn.length c42), (vi ((x_l.getD kq z_PNote).Epoch)), (vi ((x_l.getD kq z_PNote).Seq)), (vs a48 (x_l.getD kq z_PNote).Body.length c49), (vs a55 (x_l.getD kq z_PNote).Key.length c56), (vi (((x_l.getD kq z_PNote).A).Host)), (vi (((x_l.getD kq z_PNote).A).Port)), (vi ((x_l.getD kq z_PNote).Now))] wN isAgg_41 sizeOf_41 b69 ?_
  refine cl wN (C_impl_copyNote w4 _ (x_l.getD kq z_PNote) (mR_41 (r36.from0 m71) s37 (r43.from0 m71) s44 (r50.from0 m71) s51 (r57.from0 m71) s58)) ?_
  rintro _ w5 ⟨k74, ⟨a75, c76, a80, c81, a85, c86, a90, c91, rfl, o77, s78, o82, s83, o87, s88, o92, s93, ap95⟩⟩
  have m96 := m71.extk k74
  refine wl_lit [(vi ((F_impl_copyNote (x_l.getD kq z_PNote)).Kind)), (vi ((F_impl_copyNote (x_l.getD kq z_PNote)).Id)), (vi ((F_impl_copyNote (x_l.getD kq z_PNote)).Role)), (vs a75 ((F_impl_copyNote (x_l.getD kq z_PNote)).Cn).length c76), (vs a80 ((F_impl_copyNote (x_l.getD kq z_PNote)).Sn).length c81), (vi ((F_impl_copyNote (x_l.getD kq z_PNote)).Epoch)), (vi ((F_impl_copyNote (x_l.getD kq z_PNote)).Seq)), (vs a85 ((F_impl_copyNote (x_l.getD kq z_PNote)).Body).length c86), (vs a90 ((F_impl_copyNote (x_l.getD kq z_PNote)).Key).length c91), (vi (((F_impl_copyNote (x_l.getD kq z_PNote)).A).Host)), (vi (((F_impl_copyNote (x_l.getD kq z_PNote)).A).Port)), (vi ((F_impl_copyNote (x_l.getD kq z_PNote)).Now))] wN rfl rfl slTy_36 (m := 1) rfl (by simp only [maxLen]; omega) (fun w => by kernel_rfl) ?_
  intro u97 w6 k98 o99
  obtain ⟨a100, c101, rfl⟩ := own_form o99
  have m102 := m96.extk k98
  have o104 := (OLv.kp (OLv.kp (OLv.ch (OLv.kp o20 k65) k68 (fun g h1 h2 hk => by have h3 := Nat.le_trans (Nat.le_refl w2.heap.size) p63; omega)) k74) k98)
  have o105 := (own_kp o92 k98)
  have o106 := (own_kp o87 k98)
  have o107 := (own_kp o82 k98)
  have o108 := (own_kp o77 k98)
  refine wl_appL (L := LT_41) (xs := ((x_l.take kq).filter (fun n : PNote => decide (n.Kind = x_kind)))) (el := (F_impl_copyNote (x_l.getD kq z_PNote))) (l := [(a75, c76), (a80, c81), (a85, c86), (a90, c91)]) wN slTy_36 o104 (Rd.of_own o99) ⟨⟨(own_lo o108 (Nat.le_trans k65.size k68.size)), s78⟩, ⟨⟨(own_lo o107 (Nat.le_trans k65.size k68.size)), s83⟩, ⟨⟨(own_lo o106 (Nat.le_trans k65.size k68.size)), s88⟩, ⟨⟨(own_lo o105 (Nat.le_trans k65.size k68.size)), s93⟩, trivial⟩⟩⟩⟩ ⟨⟨(ap95.1.1), ⟨(ap95.1.2.1), ⟨(ap95.1.2.2.1), trivial⟩⟩⟩, ⟨⟨(ap95.2.1.1), ⟨(ap95.2.1.2.1), trivial⟩⟩, ⟨⟨(ap95.2.2.1.1), trivial⟩, ⟨trivial, trivial⟩⟩⟩⟩ (Nat.le_refl _) (Nat.le_trans k7.size k18.size) (by first | omega | (simp only [List.length_take, List.length_append, List.length_cons, List.length_nil]; omega) | (refine Nat.le_trans (Nat.succ_le_succ (List.length_filter_le _ _)) ?_; simp only [List.length_take]; omega)) (t6 k7.size k18.size k65.size k68.size k74.size k98.size) ?_
  intro a109 c110 w7 k111 o112
  have m113 := m102.ext k111 (fun k hk => Nat.le_trans (Nat.le_refl w0.heap.size) (own_lt o24 k hk).1)
  obtain ⟨y116, o117⟩ := OLv.ow o112
  refine ag (vs a109 (((x_l.take kq).filter (fun n : PNote => decide (n.Kind = x_kind))) ++ [(F_impl_copyNote (x_l.getD kq z_PNote))]).length c110) wN ?_
  refine wl_nil <| wq_blk_normal <| wq_then <| wc_region ?_
  refine ar (((kq : Nat) : Int) + 1) wN ?_
  refine mv (vi (((kq : Nat) : Int) + 1)) wN ?_
  refine wl_nil ?_
  have hE118 : ((((x_l.take kq).filter (fun n : PNote => decide (n.Kind = x_kind))) ++ [(F_impl_copyNote (x_l.getD kq z_PNote))]) : List (PNote)) = (x_l.take (kq + 1)).filter (fun n : PNote => decide (n.Kind = x_kind)) := by first | rfl | exact filt_t (z := z_PNote) (by omega) (by assumption) | exact filt_f (z := z_PNote) (by omega) (by assumption)
  refine wq_loopQ (w0 := w2) (fun e => [e 0, e 1, e 2, e 3, e 4, (.slice a109 ((x_l.take (kq + 1)).filter (fun n : PNote => decide (n.Kind = x_kind))).length c110), e 6, e 7, e 8, e 9, e 10, (vi (((kq + 1) : Nat) : Int)), e 12, e 13, e 14, e 15, e 16, e 17, e 18, e 19, e 20, e 21, e 22, e 23, e 24, e 25]) rfl ?_ ?_ ?_
  · exact ⟨rfl, rfl, rfl, rfl, rfl, (congrArg (fun l : List (PNote) => Value.slice a109 l.length c110) hE118), rfl, rfl, rfl, rfl, rfl, (congrArg (Value.int .i64) (show ((((kq : Nat) : Int) + 1) : Int) = (((kq + 1) : Nat) : Int) by omega)), rfl, rfl, rfl, rfl, rfl, rfl, rfl, rfl, rfl, rfl, rfl, rfl, rfl, rfl, trivial⟩
  · exact ⟨(kq + 1), (unL [_, _, _, _, _, _, _, _, _, _, _, _, _, _, _, _, _, _, _]), a109, c110, rfl, m113, (((((((Ch.refl (fun k => w0.heap.size ≤ k) w1).ext k18 (fun k hk => Nat.le_trans (Nat.le_refl w0.heap.size) hk)).extk k65).ext k68 (fun k hk => by subst hk; exact Nat.le_trans (Nat.le_trans k7.size k18.size) p63)).extk k74).extk k98).ext k111 (fun k hk => Nat.le_trans (Nat.le_refl w0.heap.size) (own_lt o24 k hk).1)), (by omega), (hE118 ▸ ⟨(OLv.now o112), (OLv.small o112)⟩)⟩
  · show x_l.length - ((((kq + 1) : Nat) : Int)).toNat < x_l.length - (((kq : Nat) : Int)).toNat; omega

def O_4 (w : World) (lo : Nat) (v : Value) (x : (Bool)) : Prop := v = .bool x
theorem C_laws_eqByteS (w0 : World) (v_x_a : Value) (x_a : List UInt8) (r_x_a : R_22 w0 v_x_a x_a) (v_x_b : Value) (x_b : List UInt8) (r_x_b : R_22 w0 v_x_b x_b)  : Fn Try.prog 59 #[v_x_a, v_x_b] w0 (fun v w' => Keep w0 w' ∧ O_4 w' w0.heap.size v (eqB x_a x_b)) := by
 obtain ⟨a1, c2, rfl, r3, s4⟩ := r_x_a
 obtain ⟨a6, c7, rfl, r8, s9⟩ := r_x_b
 refine fn_of (n := 26) (l := [(vs a1 x_a.length c2), (vs a6 x_b.length c7), U, U, U, U, U, U, U, U, U, U, U, U, U, U, U, U, U, U, U, U, U, U, U, U]) Try.func59 rfl rfl (by kernel_rfl) rfl ?_
 refine sr ?_
 refine ag (vb false) wN ?_
 refine wl_nil <| wq_then <| wc_seq <| sr ?_
 refine mv (vs a1 x_a.length c2) wN ?_
 refine ln wN slTy_22 r3 ?_
 refine mv (vs a6 x_b.length c7) wN ?_
 refine ln wN slTy_22 r8 ?_
 refine pu (vb (!(decide ((x_a.length : Int) = (x_b.length : Int))))) wN ?_
 refine wl_nil <| wq_then ?_
 rcases bf (decide ((x_a.length : Int) = (x_b.length : Int))) with h11 | h11
 ·have q44 := of_decide_eq_false h11
  refine ct (congrArg not h11) ?_
  refine sr ?_
  refine ag (vb false) wN ?_
  refine wl_nil <| wq_then <| wc_ret <| wq_then_ret ?_
  refine ret_1 (.inl rfl) (vb false) rfl rfl ?_
  refine ⟨Ch.refl _ _, ?_⟩
  have hF45 : eqB x_a x_b = false := by first | exact eqB_len (by assumption) | exact eqB_el (by assumption) | exact eqB_all (by assumption) (by omega) (by omega)
  rw [hF45]
  exact rfl
 have q12 := of_decide_eq_true h11
 refine cf (congrArg not h11) ?_
 refine wc_skip <| wq_then <| wc_seq <| sr ?_
 refine ag (vi 0) wN ?_
 refine wl_nil <| wq_then <| wc_block ?_
 refine wc_normQ (fun e => [e 0, e 1, e 2, e 3, e 4, (vi ((0 : Nat) : Int)), e 6, e 7, e 8, e 9, e 10, e 11, e 12, e 13, e 14, e 15, e 16, e 17, e 18, e 19, e 20, e 21, e 22, e 23, e 24, e 25]) rfl ⟨rfl, rfl, rfl, rfl, rfl, (congrArg (Value.int .i64) (show (0 : Int) = ((0 : Nat) : Int) by omega)), rfl, rfl, rfl, rfl, rfl, rfl, rfl, rfl, rfl, rfl, rfl, rfl, rfl, rfl, rfl, rfl, rfl, rfl, rfl, rfl, trivial⟩ ?_
 refine wc_loop (fun e' w' => ∃ (k : Nat) (u13 : Nat → Value), e' = lst [(vs a1 x_a.length c2), (vs a6 x_b.length c7), (u13 0), (u13 1), (u13 2), (vi ((k : Nat) : Int)), (u13 3), (u13 4), (u13 5), (u13 6), (u13 7), (u13 8), (u13 9), (u13 10), (u13 11), (u13 12), (u13 13), (u13 14), (u13 15), (u13 16), (u13 17), (u13 18), (u13 19), (u13 20), (u13 21), (u13 22)] ∧ Ch (fun k => w0.heap.size ≤ k) w0 w' ∧ Ch (fun k => w0.heap.size ≤ k) w0 w' ∧ k ≤ x_a.length ∧ x_a.take k = x_b.take k) (fun e' _ => x_a.length - ((intOf (e' 5))).toNat) ?_ ?_
 ·exact ⟨0, (unL [U, U, _, _, _, _, _, _, U, U, U, U, U, U, U, U, U, U, U, U, U, U, U]), rfl, (Ch.base w0), (Ch.refl (fun k => w0.heap.size ≤ k) w0), (by omega), (by first | rfl | exact eqB_next (by assumption) (by omega) (by omega) (by assumption))⟩
 ·rintro _ w1 ⟨k, u13, rfl, m14, k15, i16, i17⟩
  refine wc_seq <| sr ?_
  refine mv (vi ((k : Nat) : Int)) wN ?_
  refine mv (vs a1 x_a.length c2) wN ?_
  refine ln wN slTy_22 (r3.from0 m14) ?_
  refine pu (vb (decide (((k : Nat) : Int) < (x_a.length : Int)))) wN ?_
  refine wl_nil <| wq_then ?_
  rcases bf (decide (((k : Nat) : Int) < (x_a.length : Int))) with h18 | h18
  ·have q42 := of_decide_eq_false h18
   refine cf h18 ?_
   refine wc_exit <| wq_then_exit <| wq_then_exit <| wq_blk_exit <| wq_then <| sr ?_
   refine ag (vb true) wN ?_
   refine wl_nil <| wq_then <| wc_ret ?_
   refine ret_1 (.inl rfl) (vb true) rfl rfl ?_
   refine ⟨m14.keep0, ?_⟩
   have hF43 : eqB x_a x_b = true := by first | exact eqB_len (by assumption) | exact eqB_el (by assumption) | exact eqB_all (by assumption) (by omega) (by omega)
   rw [hF43]
   exact rfl
  have q19 := of_decide_eq_true h18
  refine ct h18 ?_
  refine wc_skip <| wq_then <| wc_seq <| wc_block <| wc_seq ?_
  refine wc_drawT ([(17, [], [], (fun _ v _ => v = (vs a1 x_a.length c2))), (18, [], [], (fun _ v _ => v = (vi ((k : Nat) : Int)))), (19, [], [0, 1], (fun _ v _ => v = (ve (vs a1 x_a.length c2) ((((k : Nat) : Int)).toNat * 1)))), (20, [], [0, 1, 2], (fun _ v _ => v = (v8 ((x_a.getD k 0).toNat : Int)))), (21, [], [], (fun _ v _ => v = (vs a6 x_b.length c7))), (22, [], [], (fun _ v _ => v = (vi ((k : Nat) : Int)))), (23, [], [4, 5], (fun _ v _ => v = (ve (vs a6 x_b.length c7) ((((k : Nat) : Int)).toNat * 1)))), (24, [], [4, 5, 6], (fun _ v _ => v = (v8 ((x_b.getD k 0).toNat : Int))))] : GV) (fun _ w' => Keep w1 w') [] mixed rfl (by kernel_rfl) (by kernel_rfl) ?_ (fun _ _ h => h) (fun _ _ _ _ h _ k => h.trans k) trivial ?_ ?_ ?_
  ·exact ⟨(fun _ _ _ _ h _ => h), (fun _ _ _ _ _ h => h), ⟨(fun _ _ _ _ h _ => h), (fun _ _ _ _ _ h => h), ⟨(fun _ _ _ _ h _ => h), (fun _ _ _ _ _ h => h), ⟨(fun _ _ _ _ h _ => h), (fun _ _ _ _ _ h => h), ⟨(fun _ _ _ _ h _ => h), (fun _ _ _ _ _ h => h), ⟨(fun _ _ _ _ h _ => h), (fun _ _ _ _ _ h => h), ⟨(fun _ _ _ _ h _ => h), (fun _ _ _ _ _ h => h), ⟨(fun _ _ _ _ h _ => h), (fun _ _ _ _ _ h => h), trivial⟩⟩⟩⟩⟩⟩⟩⟩
  ·exact trivial
  ·refine ⟨?_, ⟨?_, ⟨?_, ⟨?_, ⟨?_, ⟨?_, ⟨?_, ⟨?_, trivial⟩⟩⟩⟩⟩⟩⟩⟩
   ·intro _ w2 k20 _
    have m21 := m14.extk k20
    rintro _ _ _ _ _ _ _ _
    show WL _ _ _ _ _ _ _
    refine mv (vs a1 x_a.length c2) wN ?_
    exact wl_finT (Ch.refl _ _) rfl
   ·intro _ w2 k22 _
    have m23 := m14.extk k22
    rintro _ _ _ _ _ _ _ _
    show WL _ _ _ _ _ _ _
    refine mv (vi ((k : Nat) : Int)) wN ?_
    exact wl_finT (Ch.refl _ _) rfl
   ·intro _ w2 k24 _
    have m25 := m14.extk k24
    rintro _ rfl _ rfl _ _ _ _ _ _
    show WL _ _ _ _ _ _ _
    refine wl_index (v := (vs a1 x_a.length c2)) wN ((k : Nat) : Int) rfl rfl rfl slTy_22 rfl rfl (r3.from0 m25) (by first | omega | (simp only [List.length_cons, List.length_nil, List.length_replicate, List.length_append, List.length_take, List.length_set, List.length_map]; omega)) (by first | omega | (simp only [List.length_cons, List.length_nil, List.length_replicate, List.length_append, List.length_take, List.length_set, List.length_map]; omega)) ?_
    exact wl_finT (Ch.refl _ _) rfl
   ·intro _ w2 k26 _
    have m27 := m14.extk k26
    rintro _ rfl _ rfl _ rfl _ _ _ _ _
    show WL _ _ _ _ _ _ _
    refine wl_loadE (bV (x_a.getD k 0)) wN rfl rfl rfl rfl isAgg_5 (r3.from0 m27) (bget (by simp) (by first | omega | (simp only [List.length_cons, List.length_nil, List.length_replicate, List.length_append, List.length_take, List.length_set, List.length_map]; omega))) ?_
    exact wl_finT (Ch.refl _ _) rfl
   ·intro _ w2 k28 _
    have m29 := m14.extk k28
    rintro _ _ _ _ _ _ _ _
    show WL _ _ _ _ _ _ _
    refine mv (vs a6 x_b.length c7) wN ?_
    exact wl_finT (Ch.refl _ _) rfl
   ·intro _ w2 k30 _
    have m31 := m14.extk k30
    rintro _ _ _ _ _ _ _ _
    show WL _ _ _ _ _ _ _
    refine mv (vi ((k : Nat) : Int)) wN ?_
    exact wl_finT (Ch.refl _ _) rfl
   ·intro _ w2 k32 _
    have m33 := m14.extk k32
    rintro _ _ _ _ _ rfl _ rfl _ _
    show WL _ _ _ _ _ _ _
    refine wl_index (v := (vs a6 x_b.length c7)) wN ((k : Nat) : Int) rfl rfl rfl slTy_22 rfl rfl (r8.from0 m33) (by first | omega | (simp only [List.length_cons, List.length_nil, List.length_replicate, List.length_append, List.length_take, List.length_set, List.length_map]; omega)) (by first | omega | (simp only [List.length_cons, List.length_nil, List.length_replicate, List.length_append, List.length_take, List.length_set, List.length_map]; omega)) ?_
    exact wl_finT (Ch.refl _ _) rfl
   ·intro _ w2 k34 _
    have m35 := m14.extk k34
    rintro _ _ _ _ _ rfl _ rfl _ rfl _
    show WL _ _ _ _ _ _ _
    refine wl_loadE (bV (x_b.getD k 0)) wN rfl rfl rfl rfl isAgg_5 (r8.from0 m35) (bget (by simp) (by first | omega | (simp only [List.length_cons, List.length_nil, List.length_replicate, List.length_append, List.length_take, List.length_set, List.length_map]; omega))) ?_
    exact wl_finT (Ch.refl _ _) rfl
  ·intro _ w2 k36
   have m37 := m14.extk k36
   rintro _ rfl _ rfl _ rfl _ rfl _ rfl _ rfl _ rfl _ rfl
   show WL _ _ _ _ _ _ _
   refine pu (vb (!(decide (((x_a.getD k 0).toNat : Int) = ((x_b.getD k 0).toNat : Int))))) wN ?_
   refine wl_nil <| wq_then ?_
   rcases bf (decide (((x_a.getD k 0).toNat : Int) = ((x_b.getD k 0).toNat : Int))) with h38 | h38
   ·have q40 := of_decide_eq_false h38
    refine ct (congrArg not h38) ?_
    refine sr ?_
    refine ag (vb false) wN ?_
    refine wl_nil <| wq_then <| wc_ret <| wq_blk_ret <| wq_then_ret <| wq_then_ret <| wq_blk_ret <| wq_then_ret ?_
    refine ret_1 (.inl rfl) (vb false) rfl rfl ?_
    refine ⟨m37.keep0, ?_⟩
    have hF41 : eqB x_a x_b = false := by first | exact eqB_len (by assumption) | exact eqB_el (by assumption) | exact eqB_all (by assumption) (by omega) (by omega)
    rw [hF41]
    exact rfl
   have q39 := of_decide_eq_true h38
   refine cf (congrArg not h38) ?_
   refine wc_skip <| wq_blk_normal <| wq_then <| wc_region ?_
   refine mv (vi ((k : Nat) : Int)) wN ?_
   refine ar (((k : Nat) : Int) + 1) wN ?_
   refine ag (vi (((k : Nat) : Int) + 1)) wN ?_
   refine wl_nil ?_
   refine wq_loopQ (w0 := w1) (fun e => [e 0, e 1, e 2, e 3, e 4, (vi (((k + 1) : Nat) : Int)), e 6, e 7, e 8, e 9, e 10, e 11, e 12, e 13, e 14, e 15, e 16, e 17, e 18, e 19, e 20, e 21, e 22, e 23, e 24, e 25]) rfl ?_ ?_ ?_
   · exact ⟨rfl, rfl, rfl, rfl, rfl, (congrArg (Value.int .i64) (show ((((k : Nat) : Int) + 1) : Int) = (((k + 1) : Nat) : Int) by omega)), rfl, rfl, rfl, rfl, rfl, rfl, rfl, rfl, rfl, rfl, rfl, rfl, rfl, rfl, rfl, rfl, rfl, rfl, rfl, rfl, trivial⟩
   · exact ⟨(k + 1), (unL [_, _, _, _, _, _, _, _, _, _, _, _, _, _, _, _, _, _, _, _, _, _, _]), rfl, m37, (((Ch.refl (fun k => w0.heap.size ≤ k) w0).ext k15 (fun k hk => Nat.le_trans (Nat.le_refl w0.heap.size) hk)).extk k36), (by omega), (by first | rfl | exact eqB_next (by assumption) (by omega) (by omega) (by assumption))⟩
   · show x_a.length - ((((k + 1) : Nat) : Int)).toNat < x_a.length - (((k : Nat) : Int)).toNat; omega

def R_26 (w : World) (v : Value) (x : (PAddr)) : Prop := v = .agg #[.int .i64 x.Host, .int .i64 x.Port]
def F_laws_eqAddr (x_a : PAddr) (x_b : PAddr) : (Bool) := bif (decide (x_a.Host = x_b.Host)) then (bif (decide (x_a.Port = x_b.Port)) then (true) else (false)) else (false)
theorem C_laws_eqAddr (w0 : World) (v_x_a : Value) (x_a : PAddr) (r_x_a : R_26 w0 v_x_a x_a) (v_x_b : Value) (x_b : PAddr) (r_x_b : R_26 w0 v_x_b x_b)  : Fn Try.prog 102 #[v_x_a, v_x_b] w0 (fun v w' => Keep w0 w' ∧ O_4 w' w0.heap.size v (F_laws_eqAddr x_a x_b)) := by
 obtain rfl := r_x_a
 obtain rfl := r_x_b
 refine fn_of (n := 15) (l := [(va (L_26 x_a)), (va (L_26 x_b)), U, U, U, U, U, U, U, U, U, U, U, U, U]) Try.func102 rfl rfl (by kernel_rfl) rfl ?_
 refine sr ?_
 refine bx (L_26 x_a) wN ?_
 intro g1 w1 p2 p3 k4 b5
 have m6 := (Ch.base w0).extk k4
 refine bx (L_26 x_b) wN ?_
 intro g7 w2 p8 p9 k10 b11
 have m12 := m6.extk k10
 refine ag (vb false) wN ?_
 refine wl_nil <| wq_then <| wc_seq <| sr ?_
 refine pu (vp g1 0) wN ?_
 have b13 := (b5.kp k10)
 refine ld (vi x_a.Host) wN isAgg_3 b13 ?_
 refine pu (vp g7 0) wN ?_
 refine ld (vi x_b.Host) wN isAgg_3 b11 ?_
 refine pu (vb (!(decide (x_a.Host = x_b.Host)))) wN ?_
 refine wl_nil <| wq_then ?_
 rcases bf (decide (x_a.Host = x_b.Host)) with h14 | h14
 ·have q21 := of_decide_eq_false h14
  refine ct (congrArg not h14) ?_
  refine sr ?_
  refine ag (vb false) wN ?_
  refine wl_nil <| wq_then <| wc_ret <| wq_then_ret ?_
  refine ret_1 (.inl rfl) (vb false) rfl rfl ?_
  refine ⟨m12.keep0, ?_⟩
  have hF22 : F_laws_eqAddr x_a x_b = false := by simp only [F_laws_eqAddr, h14, cond_true, cond_false]
  rw [hF22]
  exact rfl
 have q15 := of_decide_eq_true h14
 refine cf (congrArg not h14) ?_
 refine wc_skip <| wq_then <| wc_seq <| sr ?_
 refine pu (vp g1 1) wN ?_
 refine ld (vi x_a.Port) wN isAgg_3 b13 ?_
 refine pu (vp g7 1) wN ?_
 refine ld (vi x_b.Port) wN isAgg_3 b11 ?_
 refine pu (vb (!(decide (x_a.Port = x_b.Port)))) wN ?_
 refine wl_nil <| wq_then ?_
 rcases bf (decide (x_a.Port = x_b.Port)) with h16 | h16
 ·have q19 := of_decide_eq_false h16
  refine ct (congrArg not h16) ?_
  refine sr ?_
  refine ag (vb false) wN ?_
  refine wl_nil <| wq_then <| wc_ret <| wq_then_ret ?_
  refine ret_1 (.inl rfl) (vb false) rfl rfl ?_
  refine ⟨m12.keep0, ?_⟩
  have hF20 : F_laws_eqAddr x_a x_b = false := by simp only [F_laws_eqAddr, h14, h16, cond_true, cond_false]
  rw [hF20]
  exact rfl
 have q17 := of_decide_eq_true h16
 refine cf (congrArg not h16) ?_
 refine wc_skip <| wq_then <| sr ?_
 refine ag (vb true) wN ?_
 refine wl_nil <| wq_then <| wc_ret ?_
 refine ret_1 (.inl rfl) (vb true) rfl rfl ?_
 refine ⟨m12.keep0, ?_⟩
 have hF18 : F_laws_eqAddr x_a x_b = true := by simp only [F_laws_eqAddr, h14, h16, cond_true, cond_false]
 rw [hF18]
 exact rfl

theorem mR_26 {w : World} {x : PAddr} : R_26 w (va (L_26 x)) x := rfl
def F_laws_eqNote (x_a : PNote) (x_b : PNote) : (Bool) := bif (decide (x_a.Kind = x_b.Kind)) then (bif (decide (x_a.Id = x_b.Id)) then (bif (decide (x_a.Role = x_b.Role)) then (bif (eqB x_a.Cn x_b.Cn) then (bif (eqB x_a.Sn x_b.Sn) then (bif (decide (x_a.Epoch = x_b.Epoch)) then (bif (decide (x_a.Seq = x_b.Seq)) then (bif (eqB x_a.Body x_b.Body) then (bif (eqB x_a.Key x_b.Key) then (bif (F_laws_eqAddr x_a.A x_b.A) then (bif (decide (x_a.Now = x_b.Now)) then (true) else (false)) else (false)) else (false)) else (false)) else (false)) else (false)) else (false)) else (false)) else (false)) else (false)) else (false)
theorem C_laws_eqNote (w0 : World) (v_x_a : Value) (x_a : PNote) (r_x_a : R_41 w0 v_x_a x_a) (v_x_b : Value) (x_b : PNote) (r_x_b : R_41 w0 v_x_b x_b)  : Fn Try.prog 115 #[v_x_a, v_x_b] w0 (fun v w' => Keep w0 w' ∧ O_4 w' w0.heap.size v (F_laws_eqNote x_a x_b)) := by
 obtain ⟨a1, c2, a6, c7, a11, c12, a16, c17, rfl, r3, s4, r8, s9, r13, s14, r18, s19⟩ := r_x_a
 obtain ⟨a21, c22, a26, c27, a31, c32, a36, c37, rfl, r23, s24, r28, s29, r33, s34, r38, s39⟩ := r_x_b
 refine fn_of (n := 65) (l := [(va (L_41 x_a a1 c2 a6 c7 a11 c12 a16 c17)), (va (L_41 x_b a21 c22 a26 c27 a31 c32 a36 c37)), U, U, U, U, U, U, U, U, U, U, U, U, U, U, U, U, U, U, U, U, U, U, U, U, U, U, U, U, U, U, U, U, U, U, U, U, U, U, U, U, U, U, U, U, U, U, U, U, U, U, U, U, U, U, U, U, U, U, U, U, U, U, U]) Try.func115 rfl rfl (by kernel_rfl) rfl ?_
 refine sr ?_
 refine bx (L_41 x_a a1 c2 a6 c7 a11 c12 a16 c17) wN ?_
 intro g41 w1 p42 p43 k44 b45
 have m46 := (Ch.base w0).extk k44
 refine bx (L_41 x_b a21 c22 a26 c27 a31 c32 a36 c37) wN ?_
 intro g47 w2 p48 p49 k50 b51
 have m52 := m46.extk k50
 refine ag (vb false) wN ?_
 refine wl_nil <| wq_then <| wc_seq <| sr ?_
 refine pu (vp g41 0) wN ?_
 have b53 := (b45.kp k50)
 refine ld (vi x_a.Kind) wN isAgg_3 b53 ?_
 refine pu (vp g47 0) wN ?_
 refine ld (vi x_b.Kind) wN isAgg_3 b51 ?_
 refine pu (vb (!(decide (x_a.Kind = x_b.Kind)))) wN ?_
 refine wl_nil <| wq_then ?_
 rcases bf (decide (x_a.Kind = x_b.Kind)) with h54 | h54
 ·have q117 := of_decide_eq_false h54
  refine ct (congrArg not h54) ?_
  refine sr ?_
  refine ag (vb false) wN ?_
  refine wl_nil <| wq_then <| wc_ret <| wq_then_ret ?_
  refine ret_1 (.inl rfl) (vb false) rfl rfl ?_
  refine ⟨m52.keep0, ?_⟩
  have hF118 : F_laws_eqNote x_a x_b = false := by simp only [F_laws_eqNote, h54, cond_true, cond_false]
  rw [hF118]
  exact rfl
 have q55 := of_decide_eq_true h54
 refine cf (congrArg not h54) ?_
 refine wc_skip <| wq_then <| wc_seq <| sr ?_
 refine pu (vp g41 1) wN ?_
 refine ld (vi x_a.Id) wN isAgg_3 b53 ?_
 refine pu (vp g47 1) wN ?_
 refine ld (vi x_b.Id) wN isAgg_3 b51 ?_
 refine pu (vb (!(decide (x_a.Id = x_b.Id)))) wN ?_
 refine wl_nil <| wq_then ?_
 rcases bf (decide (x_a.Id = x_b.Id)) with h56 | h56
 ·have q115 := of_decide_eq_false h56
  refine ct (congrArg not h56) ?_
  refine sr ?_
  refine ag (vb false) wN ?_
  refine wl_nil <| wq_then <| wc_ret <| wq_then_ret ?_
  refine ret_1 (.inl rfl) (vb false) rfl rfl ?_
  refine ⟨m52.keep0, ?_⟩
  have hF116 : F_laws_eqNote x_a x_b = false := by simp only [F_laws_eqNote, h54, h56, cond_true, cond_false]
  rw [hF116]
  exact rfl
 have q57 := of_decide_eq_true h56
 refine cf (congrArg not h56) ?_
 refine wc_skip <| wq_then <| wc_seq <| sr ?_
 refine pu (vp g41 2) wN ?_
 refine ld (vi x_a.Role) wN isAgg_3 b53 ?_
 refine pu (vp g47 2) wN ?_
 refine ld (vi x_b.Role) wN isAgg_3 b51 ?_
 refine pu (vb (!(decide (x_a.Role = x_b.Role)))) wN ?_
 refine wl_nil <| wq_then ?_
 rcases bf (decide (x_a.Role = x_b.Role)) with h58 | h58
 ·have q113 := of_decide_eq_false h58
  refine ct (congrArg not h58) ?_
  refine sr ?_
  refine ag (vb false) wN ?_
  refine wl_nil <| wq_then <| wc_ret <| wq_then_ret ?_
  refine ret_1 (.inl rfl) (vb false) rfl rfl ?_
  refine ⟨m52.keep0, ?_⟩
  have hF114 : F_laws_eqNote x_a x_b = false := by simp only [F_laws_eqNote, h54, h56, h58, cond_true, cond_false]
  rw [hF114]
  exact rfl
 have q59 := of_decide_eq_true h58
 refine cf (congrArg not h58) ?_
 refine wc_skip <| wq_then <| wc_seq <| sr ?_
 refine pu (vp g41 3) wN ?_
 refine ld (vs a1 x_a.Cn.length c2) wN isAgg_22 b53 ?_
 refine pu (vp g47 3) wN ?_
 refine ld (vs a21 x_b.Cn.length c22) wN isAgg_22 b51 ?_
 refine cl wN (C_laws_eqByteS w2 _ x_a.Cn (mR_22 (r3.from0 m52) s4) _ x_b.Cn (mR_22 (r23.from0 m52) s24)) ?_
 rintro _ w3 ⟨k60, rfl⟩
 have m61 := m52.extk k60
 refine pu (vb (!(eqB x_a.Cn x_b.Cn))) wN ?_
 refine wl_nil <| wq_then ?_
 rcases bf (eqB x_a.Cn x_b.Cn) with h62 | h62
 ·refine ct (congrArg not h62) ?_
  refine sr ?_
  refine ag (vb false) wN ?_
  refine wl_nil <| wq_then <| wc_ret <| wq_then_ret ?_
  refine ret_1 (.inl rfl) (vb false) rfl rfl ?_
  refine ⟨m61.keep0, ?_⟩
  have hF112 : F_laws_eqNote x_a x_b = false := by simp only [F_laws_eqNote, h54, h56, h58, h62, cond_true, cond_false]
  rw [hF112]
  exact rfl
 refine cf (congrArg not h62) ?_
 refine wc_skip <| wq_then <| wc_seq <| sr ?_
 refine pu (vp g41 4) wN ?_
 have b64 := (b53.kp k60)
 refine ld (vs a6 x_a.Sn.length c7) wN isAgg_22 b64 ?_
 refine pu (vp g47 4) wN ?_
 have b65 := (b51.kp k60)
 refine ld (vs a26 x_b.Sn.length c27) wN isAgg_22 b65 ?_
 refine cl wN (C_laws_eqByteS w3 _ x_a.Sn (mR_22 (r8.from0 m61) s9) _ x_b.Sn (mR_22 (r28.from0 m61) s29)) ?_
 rintro _ w4 ⟨k66, rfl⟩
 have m67 := m61.extk k66
 refine pu (vb (!(eqB x_a.Sn x_b.Sn))) wN ?_
 refine wl_nil <| wq_then ?_
 rcases bf (eqB x_a.Sn x_b.Sn) with h68 | h68
 ·refine ct (congrArg not h68) ?_
  refine sr ?_
  refine ag (vb false) wN ?_
  refine wl_nil <| wq_then <| wc_ret <| wq_then_ret ?_
  refine ret_1 (.inl rfl) (vb false) rfl rfl ?_
  refine ⟨m67.keep0, ?_⟩
  have hF110 : F_laws_eqNote x_a x_b = false := by simp only [F_laws_eqNote, h54, h56, h58, h62, h68, cond_true, cond_false]
  rw [hF110]
  exact rfl
 refine cf (congrArg not h68) ?_
 refine wc_skip <| wq_then <| wc_seq <| sr ?_
 refine pu (vp g41 5) wN ?_
 have b70 := (b64.kp k66)
 refine ld (vi x_a.Epoch) wN isAgg_3 b70 ?_
 refine pu (vp g47 5) wN ?_
 have b71 := (b65.kp k66)
 refine ld (vi x_b.Epoch) wN isAgg_3 b71 ?_
 refine pu (vb (!(decide (x_a.Epoch = x_b.Epoch)))) wN ?_
 refine wl_nil <| wq_then ?_
 rcases bf (decide (x_a.Epoch = x_b.Epoch)) with h72 | h72
 ·have q107 := of_decide_eq_false h72
  refine ct (congrArg not h72) ?_
  refine sr ?_
  refine ag (vb false) wN ?_
  refine wl_nil <| wq_then <| wc_ret <| wq_then_ret ?_
  refine ret_1 (.inl rfl) (vb false) rfl rfl ?_
  refine ⟨m67.keep0, ?_⟩
  have hF108 : F_laws_eqNote x_a x_b = false := by simp only [F_laws_eqNote, h54, h56, h58, h62, h68, h72, cond_true, cond_false]
  rw [hF108]
  exact rfl
 have q73 := of_decide_eq_true h72
 refine cf (congrArg not h72) ?_
 refine wc_skip <| wq_then <| wc_seq <| sr ?_
 refine pu (vp g41 6) wN ?_
 refine ld (vi x_a.Seq) wN isAgg_3 b70 ?_
 refine pu (vp g47 6) wN ?_
 refine ld (vi x_b.Seq) wN isAgg_3 b71 ?_
 refine pu (vb (!(decide (x_a.Seq = x_b.Seq)))) wN ?_
 refine wl_nil <| wq_then ?_
 rcases bf (decide (x_a.Seq = x_b.Seq)) with h74 | h74
 ·have q105 := of_decide_eq_false h74
  refine ct (congrArg not h74) ?_
  refine sr ?_
  refine ag (vb false) wN ?_
  refine wl_nil <| wq_then <| wc_ret <| wq_then_ret ?_
  refine ret_1 (.inl rfl) (vb false) rfl rfl ?_
  refine ⟨m67.keep0, ?_⟩
  have hF106 : F_laws_eqNote x_a x_b = false := by simp only [F_laws_eqNote, h54, h56, h58, h62, h68, h72, h74, cond_true, cond_false]
  rw [hF106]
  exact rfl
 have q75 := of_decide_eq_true h74
 refine cf (congrArg not h74) ?_
 refine wc_skip <| wq_then <| wc_seq <| sr ?_
 refine pu (vp g41 7) wN ?_
 refine ld (vs a11 x_a.Body.length c12) wN isAgg_22 b70 ?_
 refine pu (vp g47 7) wN ?_
 refine ld (vs a31 x_b.Body.length c32) wN isAgg_22 b71 ?_
 refine cl wN (C_laws_eqByteS w4 _ x_a.Body (mR_22 (r13.from0 m67) s14) _ x_b.Body (mR_22 (r33.from0 m67) s34)) ?_
 rintro _ w5 ⟨k76, rfl⟩
 have m77 := m67.extk k76
 refine pu (vb (!(eqB x_a.Body x_b.Body))) wN ?_
 refine wl_nil <| wq_then ?_
 rcases bf (eqB x_a.Body x_b.Body) with h78 | h78
 ·refine ct (congrArg not h78) ?_
  refine sr ?_
  refine ag (vb false) wN ?_
  refine wl_nil <| wq_then <| wc_ret <| wq_then_ret ?_
  refine ret_1 (.inl rfl) (vb false) rfl rfl ?_
  refine ⟨m77.keep0, ?_⟩
  have hF104 : F_laws_eqNote x_a x_b = false := by simp only [F_laws_eqNote, h54, h56, h58, h62, h68, h72, h74, h78, cond_true, cond_false]
  rw [hF104]
  exact rfl
 refine cf (congrArg not h78) ?_
 refine wc_skip <| wq_then <| wc_seq <| sr ?_
 refine pu (vp g41 8) wN ?_
 have b80 := (b70.kp k76)
 refine ld (vs a16 x_a.Key.length c17) wN isAgg_22 b80 ?_
 refine pu (vp g47 8) wN ?_
 have b81 := (b71.kp k76)
 refine ld (vs a36 x_b.Key.length c37) wN isAgg_22 b81 ?_
 refine cl wN (C_laws_eqByteS w5 _ x_a.Key (mR_22 (r18.from0 m77) s19) _ x_b.Key (mR_22 (r38.from0 m77) s39)) ?_
 rintro _ w6 ⟨k82, rfl⟩
 have m83 := m77.extk k82
 refine pu (vb (!(eqB x_a.Key x_b.Key))) wN ?_
 refine wl_nil <| wq_then ?_
 rcases bf (eqB x_a.Key x_b.Key) with h84 | h84
 ·refine ct (congrArg not h84) ?_
  refine sr ?_
  refine ag (vb false) wN ?_
  refine wl_nil <| wq_then <| wc_ret <| wq_then_ret ?_
  refine ret_1 (.inl rfl) (vb false) rfl rfl ?_
  refine ⟨m83.keep0, ?_⟩
  have hF102 : F_laws_eqNote x_a x_b = false := by simp only [F_laws_eqNote, h54, h56, h58, h62, h68, h72, h74, h78, h84, cond_true, cond_false]
  rw [hF102]
  exact rfl
 refine cf (congrArg not h84) ?_
 refine wc_skip <| wq_then <| wc_seq <| sr ?_
 refine pu (vp g41 9) wN ?_
 have b86 := (b80.kp k82)
 refine lN (L_26 x_a.A) wN isAgg_26 sizeOf_26 b86 ?_
 refine pu (vp g47 9) wN ?_
 have b87 := (b81.kp k82)
 refine lN (L_26 x_b.A) wN isAgg_26 sizeOf_26 b87 ?_
 refine cl wN (C_laws_eqAddr w6 _ x_a.A (mR_26) _ x_b.A (mR_26)) ?_
 rintro _ w7 ⟨k88, rfl⟩
 have m89 := m83.extk k88
 refine pu (vb (!(F_laws_eqAddr x_a.A x_b.A))) wN ?_
 refine wl_nil <| wq_then ?_
 rcases bf (F_laws_eqAddr x_a.A x_b.A) with h90 | h90
 ·refine ct (congrArg not h90) ?_
  refine sr ?_
  refine ag (vb false) wN ?_
  refine wl_nil <| wq_then <| wc_ret <| wq_then_ret ?_
  refine ret_1 (.inl rfl) (vb false) rfl rfl ?_
  refine ⟨m89.keep0, ?_⟩
  have hF100 : F_laws_eqNote x_a x_b = false := by simp only [F_laws_eqNote, h54, h56, h58, h62, h68, h72, h74, h78, h84, h90, cond_true, cond_false]
  rw [hF100]
  exact rfl
 refine cf (congrArg not h90) ?_
 refine wc_skip <| wq_then <| wc_seq <| sr ?_
 refine pu (vp g41 11) wN ?_
 have b92 := (b86.kp k88)
 refine ld (vi x_a.Now) wN isAgg_3 b92 ?_
 refine pu (vp g47 11) wN ?_
 have b93 := (b87.kp k88)
 refine ld (vi x_b.Now) wN isAgg_3 b93 ?_
 refine pu (vb (!(decide (x_a.Now = x_b.Now)))) wN ?_
 refine wl_nil <| wq_then ?_
 rcases bf (decide (x_a.Now = x_b.Now)) with h94 | h94
 ·have q97 := of_decide_eq_false h94
  refine ct (congrArg not h94) ?_
  refine sr ?_
  refine ag (vb false) wN ?_
  refine wl_nil <| wq_then <| wc_ret <| wq_then_ret ?_
  refine ret_1 (.inl rfl) (vb false) rfl rfl ?_
  refine ⟨m89.keep0, ?_⟩
  have hF98 : F_laws_eqNote x_a x_b = false := by simp only [F_laws_eqNote, h54, h56, h58, h62, h68, h72, h74, h78, h84, h90, h94, cond_true, cond_false]
  rw [hF98]
  exact rfl
 have q95 := of_decide_eq_true h94
 refine cf (congrArg not h94) ?_
 refine wc_skip <| wq_then <| sr ?_
 refine ag (vb true) wN ?_
 refine wl_nil <| wq_then <| wc_ret ?_
 refine ret_1 (.inl rfl) (vb true) rfl rfl ?_
 refine ⟨m89.keep0, ?_⟩
 have hF96 : F_laws_eqNote x_a x_b = true := by simp only [F_laws_eqNote, h54, h56, h58, h62, h68, h72, h74, h78, h84, h90, h94, cond_true, cond_false]
 rw [hF96]
 exact rfl

theorem eq_iff_PNote (a b : PNote) : F_laws_eqNote a b = decide (a = b) := by
  obtain ⟨a0, a1, a2, a3, a4, a5, a6, a7, a8, ⟨a90, a91⟩, a10⟩ := a
  obtain ⟨b0, b1, b2, b3, b4, b5, b6, b7, b8, ⟨b90, b91⟩, b10⟩ := b
  simp only [cond_eq_ite, eqB, F_laws_eqNote, F_laws_eqAddr, PNote.mk.injEq, PAddr.mk.injEq]
  grind
def eqF_PNote (a b : List PNote) : Bool := decide (a = b)
theorem C_laws_eqNoteS (w0 : World) (v_x_a : Value) (x_a : List PNote) (r_x_a : R_36 w0 v_x_a x_a) (v_x_b : Value) (x_b : List PNote) (r_x_b : R_36 w0 v_x_b x_b)  : Fn Try.prog 54 #[v_x_a, v_x_b] w0 (fun v w' => Keep w0 w' ∧ O_4 w' w0.heap.size v (eqF_PNote x_a x_b)) := by
 obtain ⟨a1, c2, rfl, r3, s4⟩ := r_x_a
 obtain ⟨a6, c7, rfl, r8, s9⟩ := r_x_b
 refine fn_of (n := 27) (l := [(vs a1 x_a.length c2), (vs a6 x_b.length c7), U, U, U, U, U, U, U, U, U, U, U, U, U, U, U, U, U, U, U, U, U, U, U, U, U]) Try.func54 rfl rfl (by kernel_rfl) rfl ?_
 refine sr ?_
 refine ag (vb false) wN ?_
 refine wl_nil <| wq_then <| wc_seq <| sr ?_
 refine mv (vs a1 x_a.length c2) wN ?_
 obtain ⟨y11, r12⟩ := RLv.row r3
 refine ln wN slTy_36 r12 ?_
 refine mv (vs a6 x_b.length c7) wN ?_
 obtain ⟨y13, r14⟩ := RLv.row r8
 refine ln wN slTy_36 r14 ?_
 refine pu (vb (!(decide ((x_a.length : Int) = (x_b.length : Int))))) wN ?_
 refine wl_nil <| wq_then ?_
 rcases bf (decide ((x_a.length : Int) = (x_b.length : Int))) with h15 | h15
 ·have q206 := of_decide_eq_false h15
  refine ct (congrArg not h15) ?_
  refine sr ?_
  refine ag (vb false) wN ?_
  refine wl_nil <| wq_then <| wc_ret <| wq_then_ret ?_
  refine ret_1 (.inl rfl) (vb false) rfl rfl ?_
  refine ⟨Ch.refl _ _, ?_⟩
  have hF207 : eqF_PNote x_a x_b = false := by first | exact eqL_len (by assumption) | exact eqL_el (z := z_PNote) (fun h => by have hq := ‹F_laws_eqNote (x_a.getD k z_PNote) (x_b.getD k z_PNote) = false›; rw [eq_iff_PNote, h] at hq; simp at hq) | exact eqL_all (by assumption) (by omega) (by omega)
  rw [hF207]
  exact rfl
 have q16 := of_decide_eq_true h15
 refine cf (congrArg not h15) ?_
 refine wc_skip <| wq_then <| wc_seq <| sr ?_
 refine ag (vi 0) wN ?_
 refine wl_nil <| wq_then <| wc_block ?_
 refine wc_normQ (fun e => [e 0, e 1, e 2, e 3, e 4, (vi ((0 : Nat) : Int)), e 6, e 7, e 8, e 9, e 10, e 11, e 12, e 13, e 14, e 15, e 16, e 17, e 18, e 19, e 20, e 21, e 22, e 23, e 24, e 25, e 26]) rfl ⟨rfl, rfl, rfl, rfl, rfl, (congrArg (Value.int .i64) (show (0 : Int) = ((0 : Nat) : Int) by omega)), rfl, rfl, rfl, rfl, rfl, rfl, rfl, rfl, rfl, rfl, rfl, rfl, rfl, rfl, rfl, rfl, rfl, rfl, rfl, rfl, rfl, trivial⟩ ?_
 refine wc_loop (fun e' w' => ∃ (k : Nat) (u17 : Nat → Value), e' = lst [(vs a1 x_a.length c2), (vs a6 x_b.length c7), (u17 0), (u17 1), (u17 2), (vi ((k : Nat) : Int)), (u17 3), (u17 4), (u17 5), (u17 6), (u17 7), (u17 8), (u17 9), (u17 10), (u17 11), (u17 12), (u17 13), (u17 14), (u17 15), (u17 16), (u17 17), (u17 18), (u17 19), (u17 20), (u17 21), (u17 22), (u17 23)] ∧ Ch (fun k => w0.heap.size ≤ k) w0 w' ∧ Ch (fun k => w0.heap.size ≤ k) w0 w' ∧ k ≤ x_a.length ∧ x_a.take k = x_b.take k) (fun e' _ => x_a.length - ((intOf (e' 5))).toNat) ?_ ?_
 ·exact ⟨0, (unL [U, U, _, _, _, _, _, _, U, U, U, U, U, U, U, U, U, U, U, U, U, U, U, U]), rfl, (Ch.base w0), (Ch.refl (fun k => w0.heap.size ≤ k) w0), (by omega), (by first | rfl | exact eqL_next (z := z_PNote) (by assumption) (by omega) (by omega) (by have := eq_iff_PNote; simp_all))⟩
 ·rintro _ w1 ⟨k, u17, rfl, m18, k19, i20, i21⟩
  refine wc_seq <| sr ?_
  refine mv (vi ((k : Nat) : Int)) wN ?_
  refine mv (vs a1 x_a.length c2) wN ?_
  obtain ⟨y22, r23⟩ := RLv.row (r3.from0 m18)
  refine ln wN slTy_36 r23 ?_
  refine pu (vb (decide (((k : Nat) : Int) < (x_a.length : Int)))) wN ?_
  refine wl_nil <| wq_then ?_
  rcases bf (decide (((k : Nat) : Int) < (x_a.length : Int))) with h24 | h24
  ·have q204 := of_decide_eq_false h24
   refine cf h24 ?_
   refine wc_exit <| wq_then_exit <| wq_then_exit <| wq_blk_exit <| wq_then <| sr ?_
   refine ag (vb true) wN ?_
   refine wl_nil <| wq_then <| wc_ret ?_
   refine ret_1 (.inl rfl) (vb true) rfl rfl ?_
   refine ⟨m18.keep0, ?_⟩
   have hF205 : eqF_PNote x_a x_b = true := by first | exact eqL_len (by assumption) | exact eqL_el (z := z_PNote) (fun h => by have hq := ‹F_laws_eqNote (x_a.getD k z_PNote) (x_b.getD k z_PNote) = false›; rw [eq_iff_PNote, h] at hq; simp at hq) | exact eqL_all (by assumption) (by omega) (by omega)
   rw [hF205]
   exact rfl
  have q25 := of_decide_eq_true h24
  refine ct h24 ?_
  refine wc_skip <| wq_then <| wc_seq <| wc_block <| wc_seq ?_
  obtain ⟨y98, l99, r100, e101, u102⟩ := RLv.el z_PNote (i := k) r3 (by first | omega | (simp only [List.length_cons, List.length_nil, List.length_replicate, List.length_append, List.length_take, List.length_set, List.length_map]; omega))
  obtain ⟨a103, c104, l108, rfl, r105, s106, u109⟩ := SubR.c u102
  obtain ⟨a110, c111, l115, rfl, r112, s113, u116⟩ := SubR.c u109
  obtain ⟨a117, c118, l122, rfl, r119, s120, u123⟩ := SubR.c u116
  obtain ⟨a124, c125, l129, rfl, r126, s127, u130⟩ := SubR.c u123
  obtain rfl := SubR.n u130
  obtain ⟨y131, l132, r133, e134, u135⟩ := RLv.el z_PNote (i := k) r8 (by first | omega | (simp only [List.length_cons, List.length_nil, List.length_replicate, List.length_append, List.length_take, List.length_set, List.length_map]; omega))
  obtain ⟨a136, c137, l141, rfl, r138, s139, u142⟩ := SubR.c u135
  obtain ⟨a143, c144, l148, rfl, r145, s146, u149⟩ := SubR.c u142
  obtain ⟨a150, c151, l155, rfl, r152, s153, u156⟩ := SubR.c u149
  obtain ⟨a157, c158, l162, rfl, r159, s160, u163⟩ := SubR.c u156
  obtain rfl := SubR.n u163
  refine wc_drawT ([(17, [], [], (fun _ v _ => v = (vs a1 x_a.length c2))), (18, [], [], (fun _ v _ => v = (vi ((k : Nat) : Int)))), (19, [], [0, 1], (fun _ v _ => v = (ve (vs a1 x_a.length c2) ((((k : Nat) : Int)).toNat * 12)))), (20, [], [0, 1, 2], (fun _ v _ => v = (.agg #[(vi ((x_a.getD k z_PNote).Kind)), (vi ((x_a.getD k z_PNote).Id)), (vi ((x_a.getD k z_PNote).Role)), (vs a103 (x_a.getD k z_PNote).Cn.length c104), (vs a110 (x_a.getD k z_PNote).Sn.length c111), (vi ((x_a.getD k z_PNote).Epoch)), (vi ((x_a.getD k z_PNote).Seq)), (vs a117 (x_a.getD k z_PNote).Body.length c118), (vs a124 (x_a.getD k z_PNote).Key.length c125), (vi (((x_a.getD k z_PNote).A).Host)), (vi (((x_a.getD k z_PNote).A).Port)), (vi ((x_a.getD k z_PNote).Now))]))), (21, [], [], (fun _ v _ => v = (vs a6 x_b.length c7))), (22, [], [], (fun _ v _ => v = (vi ((k : Nat) : Int)))), (23, [], [4, 5], (fun _ v _ => v = (ve (vs a6 x_b.length c7) ((((k : Nat) : Int)).toNat * 12)))), (24, [], [4, 5, 6], (fun _ v _ => v = (.agg #[(vi ((x_b.getD k z_PNote).Kind)), (vi ((x_b.getD k z_PNote).Id)), (vi ((x_b.getD k z_PNote).Role)), (vs a136 (x_b.getD k z_PNote).Cn.length c137), (vs a143 (x_b.getD k z_PNote).Sn.length c144), (vi ((x_b.getD k z_PNote).Epoch)), (vi ((x_b.getD k z_PNote).Seq)), (vs a150 (x_b.getD k z_PNote).Body.length c151), (vs a157 (x_b.getD k z_PNote).Key.length c158), (vi (((x_b.getD k z_PNote).A).Host)), (vi (((x_b.getD k z_PNote).A).Port)), (vi ((x_b.getD k z_PNote).Now))])))] : GV) (fun _ w' => Keep w1 w') [] mixed rfl (by kernel_rfl) (by kernel_rfl) ?_ (fun _ _ h => h) (fun _ _ _ _ h _ k => h.trans k) trivial ?_ ?_ ?_
  ·exact ⟨(fun _ _ _ _ h _ => h), (fun _ _ _ _ _ h => h), ⟨(fun _ _ _ _ h _ => h), (fun _ _ _ _ _ h => h), ⟨(fun _ _ _ _ h _ => h), (fun _ _ _ _ _ h => h), ⟨(fun _ _ _ _ h _ => h), (fun _ _ _ _ _ h => h), ⟨(fun _ _ _ _ h _ => h), (fun _ _ _ _ _ h => h), ⟨(fun _ _ _ _ h _ => h), (fun _ _ _ _ _ h => h), ⟨(fun _ _ _ _ h _ => h), (fun _ _ _ _ _ h => h), ⟨(fun _ _ _ _ h _ => h), (fun _ _ _ _ _ h => h), trivial⟩⟩⟩⟩⟩⟩⟩⟩
  ·exact trivial
  ·refine ⟨?_, ⟨?_, ⟨?_, ⟨?_, ⟨?_, ⟨?_, ⟨?_, ⟨?_, trivial⟩⟩⟩⟩⟩⟩⟩⟩
   ·intro _ w2 k168 _
    have m169 := m18.extk k168
    rintro _ _ _ _ _ _ _ _
    show WL _ _ _ _ _ _ _
    refine mv (vs a1 x_a.length c2) wN ?_
    exact wl_finT (Ch.refl _ _) rfl
   ·intro _ w2 k170 _
    have m171 := m18.extk k170
    rintro _ _ _ _ _ _ _ _
    show WL _ _ _ _ _ _ _
    refine mv (vi ((k : Nat) : Int)) wN ?_
    exact wl_finT (Ch.refl _ _) rfl
   ·intro _ w2 k172 _
    have m173 := m18.extk k172
    rintro _ rfl _ rfl _ _ _ _ _ _
    show WL _ _ _ _ _ _ _
    obtain ⟨y174, r175⟩ := RLv.row (r3.from0 m173)
    refine wl_index (v := (vs a1 x_a.length c2)) wN ((k : Nat) : Int) rfl rfl rfl slTy_36 rfl rfl r175 (by first | omega | (simp only [List.length_cons, List.length_nil, List.length_replicate, List.length_append, List.length_take, List.length_set, List.length_map]; omega)) (by first | omega | (simp only [List.length_cons, List.length_nil, List.length_replicate, List.length_append, List.length_take, List.length_set, List.length_map]; omega)) ?_
    exact wl_finT (Ch.refl _ _) rfl
   ·intro _ w2 k176 _
    have m177 := m18.extk k176
    rintro _ rfl _ rfl _ rfl _ _ _ _ _
    show WL _ _ _ _ _ _ _
    refine wl_loadEN [(vi ((x_a.getD k z_PNote).Kind)), (vi ((x_a.getD k z_PNote).Id)), (vi ((x_a.getD k z_PNote).Role)), (vs a103 (x_a.getD k z_PNote).Cn.length c104), (vs a110 (x_a.getD k z_PNote).Sn.length c111), (vi ((x_a.getD k z_PNote).Epoch)), (vi ((x_a.getD k z_PNote).Seq)), (vs a117 (x_a.getD k z_PNote).Body.length c118), (vs a124 (x_a.getD k z_PNote).Key.length c125), (vi (((x_a.getD k z_PNote).A).Host)), (vi (((x_a.getD k z_PNote).A).Port)), (vi ((x_a.getD k z_PNote).Now))] wN rfl rfl rfl rfl isAgg_41 sizeOf_41 (r100.from0 m177) (by first | omega | (simp only [List.length_cons, List.length_nil, List.length_replicate, List.length_append, List.length_take, List.length_set, List.length_map]; omega)) ((part_of (off := 0) (n := 12) e101 (by first | rfl | simp | omega) (by decide)).trans rfl) ?_
    exact wl_finT (Ch.refl _ _) rfl
   ·intro _ w2 k180 _
    have m181 := m18.extk k180
    rintro _ _ _ _ _ _ _ _
    show WL _ _ _ _ _ _ _
    refine mv (vs a6 x_b.length c7) wN ?_
    exact wl_finT (Ch.refl _ _) rfl
   ·intro _ w2 k182 _
    have m183 := m18.extk k182
    rintro _ _ _ _ _ _ _ _
    show WL _ _ _ _ _ _ _
    refine mv (vi ((k : Nat) : Int)) wN ?_
    exact wl_finT (Ch.refl _ _) rfl
   ·intro _ w2 k184 _
    have m185 := m18.extk k184
    rintro _ _ _ _ _ rfl _ rfl _ _
    show WL _ _ _ _ _ _ _
    obtain ⟨y186, r187⟩ := RLv.row (r8.from0 m185)
    refine wl_index (v := (vs a6 x_b.length c7)) wN ((k : Nat) : Int) rfl rfl rfl slTy_36 rfl rfl r187 (by first | omega | (simp only [List.length_cons, List.length_nil, List.length_replicate, List.length_append, List.length_take, List.length_set, List.length_map]; omega)) (by first | omega | (simp only [List.length_cons, List.length_nil, List.length_replicate, List.length_append, List.length_take, List.length_set, List.length_map]; omega)) ?_
    exact wl_finT (Ch.refl _ _) rfl
   ·intro _ w2 k188 _
    have m189 := m18.extk k188
    rintro _ _ _ _ _ rfl _ rfl _ rfl _
    show WL _ _ _ _ _ _ _
    refine wl_loadEN [(vi ((x_b.getD k z_PNote).Kind)), (vi ((x_b.getD k z_PNote).Id)), (vi ((x_b.getD k z_PNote).Role)), (vs a136 (x_b.getD k z_PNote).Cn.length c137), (vs a143 (x_b.getD k z_PNote).Sn.length c144), (vi ((x_b.getD k z_PNote).Epoch)), (vi ((x_b.getD k z_PNote).Seq)), (vs a150 (x_b.getD k z_PNote).Body.length c151), (vs a157 (x_b.getD k z_PNote).Key.length c158), (vi (((x_b.getD k z_PNote).A).Host)), (vi (((x_b.getD k z_PNote).A).Port)), (vi ((x_b.getD k z_PNote).Now))] wN rfl rfl rfl rfl isAgg_41 sizeOf_41 (r133.from0 m189) (by first | omega | (simp only [List.length_cons, List.length_nil, List.length_replicate, List.length_append, List.length_take, List.length_set, List.length_map]; omega)) ((part_of (off := 0) (n := 12) e134 (by first | rfl | simp | omega) (by decide)).trans rfl) ?_
    exact wl_finT (Ch.refl _ _) rfl
  ·intro _ w2 k192
   have m193 := m18.extk k192
   rintro _ rfl _ rfl _ rfl _ rfl _ rfl _ rfl _ rfl _ rfl
   show WL _ _ _ _ _ _ _
   refine cl wN (C_laws_eqNote w2 _ (x_a.getD k z_PNote) (mR_41 (r105.from0 m193) s106 (r112.from0 m193) s113 (r119.from0 m193) s120 (r126.from0 m193) s127) _ (x_b.getD k z_PNote) (mR_41 (r138.from0 m193) s139 (r145.from0 m193) s146 (r152.from0 m193) s153 (r159.from0 m193) s160)) ?_
   rintro _ w3 ⟨k198, rfl⟩
   have m199 := m193.extk k198
   refine pu (vb (!(F_laws_eqNote (x_a.getD k z_PNote) (x_b.getD k z_PNote)))) wN ?_
   refine wl_nil <| wq_then ?_
   rcases bf (F_laws_eqNote (x_a.getD k z_PNote) (x_b.getD k z_PNote)) with h200 | h200
   ·refine ct (congrArg not h200) ?_
    refine sr ?_
    refine ag (vb false) wN ?_
    refine wl_nil <| wq_then <| wc_ret <| wq_blk_ret <| wq_then_ret <| wq_then_ret <| wq_blk_ret <| wq_then_ret ?_
    refine ret_1 (.inl rfl) (vb false) rfl rfl ?_
    refine ⟨m199.keep0, ?_⟩
    have hF203 : eqF_PNote x_a x_b = false := by first | exact eqL_len (by assumption) | exact eqL_el (z := z_PNote) (fun h => by have hq := ‹F_laws_eqNote (x_a.getD k z_PNote) (x_b.getD k z_PNote) = false›; rw [eq_iff_PNote, h] at hq; simp at hq) | exact eqL_all (by assumption) (by omega) (by omega)
    rw [hF203]
    exact rfl
   refine cf (congrArg not h200) ?_
   refine wc_skip <| wq_blk_normal <| wq_then <| wc_region ?_
   refine mv (vi ((k : Nat) : Int)) wN ?_
   refine ar (((k : Nat) : Int) + 1) wN ?_
   refine ag (vi (((k : Nat) : Int) + 1)) wN ?_
   refine wl_nil ?_
   refine wq_loopQ (w0 := w1) (fun e => [e 0, e 1, e 2, e 3, e 4, (vi (((k + 1) : Nat) : Int)), e 6, e 7, e 8, e 9, e 10, e 11, e 12, e 13, e 14, e 15, e 16, e 17, e 18, e 19, e 20, e 21, e 22, e 23, e 24, e 25, e 26]) rfl ?_ ?_ ?_
   · exact ⟨rfl, rfl, rfl, rfl, rfl, (congrArg (Value.int .i64) (show ((((k : Nat) : Int) + 1) : Int) = (((k + 1) : Nat) : Int) by omega)), rfl, rfl, rfl, rfl, rfl, rfl, rfl, rfl, rfl, rfl, rfl, rfl, rfl, rfl, rfl, rfl, rfl, rfl, rfl, rfl, rfl, trivial⟩
   · exact ⟨(k + 1), (unL [_, _, _, _, _, _, _, _, _, _, _, _, _, _, _, _, _, _, _, _, _, _, _, _]), rfl, m199, ((((Ch.refl (fun k => w0.heap.size ≤ k) w0).ext k19 (fun k hk => Nat.le_trans (Nat.le_refl w0.heap.size) hk)).extk k192).extk k198), (by omega), (by first | rfl | exact eqL_next (z := z_PNote) (by assumption) (by omega) (by omega) (by have := eq_iff_PNote; simp_all))⟩
   · show x_a.length - ((((k + 1) : Nat) : Int)).toNat < x_a.length - (((k : Nat) : Int)).toNat; omega

theorem C_laws_markByteS_own (w0 : World) (a : Option Addr) (c : Nat) (x : List UInt8) (lo : Nat) (k : Int) (h0 : 0 ≤ k) (h1 : k ≤ 9000000000000000000) (hs : x.length ≤ 1073741824) (r : w0.ownsRow lo 5 1 (.slice a x.length c) x.length (x.map bV)) :
    Fn Try.prog 60 #[(.slice a x.length c), .int .i64 k] w0 (fun v w' => v = .int .i64 (k + x.length) ∧ Ch (fun b => (Value.slice a x.length c).ownBlock = some b) w0 w' ∧ w'.ownsRow lo 5 1 (.slice a x.length c) x.length ((marksB k x.length).map bV)) := by
 refine fn_of (n := 20) (l := [(.slice a x.length c), (.int .i64 k), undef, undef, undef, undef, undef, undef, undef, undef, undef, undef, undef, undef, undef, undef, undef, undef, undef, undef]) Try.func60 rfl rfl (by kernel_rfl) rfl ?_
 refine sr ?_
 refine ag (vi 0) wN ?_
 refine wl_nil <| wq_then <| wc_seq <| sr ?_
 refine ag (vi 0) wN ?_
 refine wl_nil <| wq_then <| wc_block ?_
 refine wc_norm [(vs a x.length c), (vi k), U, U, (vi 0), (vi 0), U, U, U, U, U, U, U, U, U, U, U, U, U, U] rfl ⟨rfl, rfl, rfl, rfl, rfl, rfl, rfl, rfl, rfl, rfl, rfl, rfl, rfl, rfl, rfl, rfl, rfl, rfl, rfl, rfl, trivial⟩ ?_
 refine wc_loop (fun e' w' => ∃ (i : Nat) (u6x u7x u8x u9x u10x u11x u12x u13x u14x u15x u16x u17x u18x : Value), e' = lst [(vs a x.length c), (vi (k + ((i : Nat) : Int))), U, U, (vi 0), (vi ((i : Nat) : Int)), u6x, u7x, u8x, u9x, u10x, u11x, u12x, u13x, u14x, u15x, u16x, u17x, u18x, U] ∧ i ≤ x.length ∧ Ch (fun b => (Value.slice a x.length c).ownBlock = some b) w0 w' ∧ w'.ownsRow lo 5 1 (.slice a x.length c) x.length ((marksB k i ++ x.drop i).map bV)) (fun e' _ => x.length - (intOf (e' 5)).toNat) ?_ ?_
 ·exact ⟨0, U, U, U, U, U, U, U, U, U, U, U, U, U, congrArg (fun (p : Value) => lst [(vs a x.length c), p, U, U, (vi 0), (vi 0), U, U, U, U, U, U, U, U, U, U, U, U, U, U]) (congrArg (Value.int .i64) (show k = k + ((0 : Nat) : Int) by omega)), Nat.zero_le _, Ch.refl _ _, by simpa [marksB] using r⟩
 ·rintro _ w1 ⟨i, u6x, u7x, u8x, u9x, u10x, u11x, u12x, u13x, u14x, u15x, u16x, u17x, u18x, rfl, hi, hc, ho⟩
  refine wc_seq <| sr ?_
  refine mv (vi ((i : Nat) : Int)) wN ?_
  refine mv (vs a x.length c) wN ?_
  refine ln wN slTy_22 (Rd.of_own ho) ?_
  refine pu (vb (decide (((i : Nat) : Int) < (x.length : Int)))) wN ?_
  refine wl_nil <| wq_then ?_
  rcases bf (decide (((i : Nat) : Int) < (x.length : Int))) with h101 | h101
  ·have q105 := of_decide_eq_false h101
   refine cf h101 ?_
   refine wc_exit <| wq_then_exit <| wq_then_exit <| wq_blk_exit <| wq_then <| sr ?_
   refine mv (vi (k + ((i : Nat) : Int))) wN ?_
   refine ag (vi (k + ((i : Nat) : Int))) wN ?_
   refine wl_nil <| wq_then <| wc_ret ?_
   have hI : i = x.length := by omega
   subst hI
   refine ret_1 (.inl rfl) (vi (k + ((x.length : Nat) : Int))) rfl rfl ⟨rfl, hc, ?_⟩
   simpa using ho
  have q102 := of_decide_eq_true h101
  refine ct h101 ?_
  refine wc_skip <| wq_then <| wc_seq <| wc_block <| sr ?_
  refine mv (vs a x.length c) wN ?_
  refine mv (vi ((i : Nat) : Int)) wN ?_
  refine mv (vi (k + ((i : Nat) : Int))) wN ?_
  refine wl_conv8 (k + ((i : Nat) : Int)) wN rfl rfl (by kernel_rfl) ?_
  refine wl_index (v := (vs a x.length c)) wN ((i : Nat) : Int) rfl rfl rfl slTy_22 rfl rfl (Rd.of_own ho) (by first | omega | (simp only [List.length_cons, List.length_nil, List.length_replicate, List.length_append, List.length_take, List.length_set, List.length_map]; omega)) (by first | omega | (simp only [List.length_cons, List.length_nil, List.length_replicate, List.length_append, List.length_take, List.length_set, List.length_map]; omega)) ?_
  refine wl_storeB ((marksB k i ++ x.drop i)) i ((by8 (k + ((i : Nat) : Int)))) wN rfl rfl rfl (by simp) rfl sizeOf_5 ho (by simp only [List.length_append, List.length_drop, marksB_len]; omega) ?_
  intro w2 k103 o104
  refine wl_nil <| wq_then <| wc_region ?_
  refine mv (vi (k + ((i : Nat) : Int))) wN ?_
  refine ar ((k + ((i : Nat) : Int)) + 1) wN ?_
  refine ag (vi ((k + ((i : Nat) : Int)) + 1)) wN ?_
  refine wl_nil <| wq_blk_normal <| wq_then <| wc_region ?_
  refine mv (vi ((i : Nat) : Int)) wN ?_
  refine ar (((i : Nat) : Int) + 1) wN ?_
  refine ag (vi (((i : Nat) : Int) + 1)) wN ?_
  refine wl_nil ?_
  have hE : (((marksB k i ++ x.drop i)).set i ((by8 (k + ((i : Nat) : Int))))) = marksB k (i + 1) ++ x.drop (i + 1) := by
   rw [List.set_append_right _ _ (by rw [marksB_len]; omega), marksB_len, Nat.sub_self, List.drop_eq_getElem_cons (by omega), List.set_cons_zero, marksB_snoc]
   simp
  rw [hE] at o104
  exact wq_loopN (w0 := w1) [(vs a x.length c), (vi (k + ((i + 1 : Nat) : Int))), U, U, (vi 0), (vi ((i + 1 : Nat) : Int)), (vi ((i : Nat) : Int)), (vs a x.length c), (vi (x.length : Int)), (vb (decide (((i : Nat) : Int) < (x.length : Int)))), (vi ((i : Nat) : Int)), (vi (((i : Nat) : Int) + 1)), (vs a x.length c), (vi ((i : Nat) : Int)), (vi (k + ((i : Nat) : Int))), (v8 ((by8 (k + ((i : Nat) : Int))).toNat : Int)), (ve (vs a x.length c) ((((i : Nat) : Int)).toNat * 1)), (vi (k + ((i : Nat) : Int))), (vi ((k + ((i : Nat) : Int)) + 1)), U] rfl ⟨rfl, (congrArg (Value.int .i64) (show (((k + ((i : Nat) : Int)) + 1) : Int) = (k + ((i + 1 : Nat) : Int)) by omega)), rfl, rfl, rfl, (congrArg (Value.int .i64) (show ((((i : Nat) : Int) + 1) : Int) = ((i + 1 : Nat) : Int) by omega)), rfl, rfl, rfl, rfl, rfl, rfl, rfl, rfl, rfl, rfl, rfl, rfl, rfl, rfl, trivial⟩ ⟨i + 1, (vi ((i : Nat) : Int)), (vs a x.length c), (vi (x.length : Int)), (vb (decide (((i : Nat) : Int) < (x.length : Int)))), (vi ((i : Nat) : Int)), (vi (((i : Nat) : Int) + 1)), (vs a x.length c), (vi ((i : Nat) : Int)), (vi (k + ((i : Nat) : Int))), (v8 ((by8 (k + ((i : Nat) : Int))).toNat : Int)), (ve (vs a x.length c) ((((i : Nat) : Int)).toNat * 1)), (vi (k + ((i : Nat) : Int))), (vi ((k + ((i : Nat) : Int)) + 1)), rfl, by omega, hc.comp k103 (fun _ _ h => h), o104⟩ (by show x.length - (((i + 1 : Nat) : Int)).toNat < x.length - (((i : Nat) : Int)).toNat; omega)
theorem C_laws_markByteS_nil (w0 : World) (a : Option Addr) (c : Nat) (k : Int) (r : Rd w0 1 (.slice a 0 c) 0 []) :
    Fn Try.prog 60 #[.slice a 0 c, .int .i64 k] w0 (fun v w' => v = .int .i64 k ∧ w' = w0) := by
 have hz : decide ((0 : Int) < ((0 : Nat) : Int)) = false := by decide
 refine fn_of (n := 20) (l := [(.slice a 0 c), (.int .i64 k), undef, undef, undef, undef, undef, undef, undef, undef, undef, undef, undef, undef, undef, undef, undef, undef, undef, undef]) Try.func60 rfl rfl (by kernel_rfl) rfl ?_
 refine sr ?_
 refine ag (vi 0) wN ?_
 refine wl_nil <| wq_then <| wc_seq <| sr ?_
 refine ag (vi 0) wN ?_
 refine wl_nil <| wq_then <| wc_block ?_
 refine wc_norm [(vs a 0 c), (vi k), U, U, (vi 0), (vi 0), U, U, U, U, U, U, U, U, U, U, U, U, U, U] rfl ⟨rfl, rfl, rfl, rfl, rfl, rfl, rfl, rfl, rfl, rfl, rfl, rfl, rfl, rfl, rfl, rfl, rfl, rfl, rfl, rfl, trivial⟩ ?_
 refine wc_loop (fun e' w' => e' = lst [(vs a 0 c), (vi k), U, U, (vi 0), (vi 0), U, U, U, U, U, U, U, U, U, U, U, U, U, U] ∧ w' = w0) (fun _ _ => 0) ⟨rfl, rfl⟩ ?_
 rintro _ _ ⟨rfl, rfl⟩
 refine wc_seq <| sr ?_
 refine mv (vi 0) wN ?_
 refine mv (vs a 0 c) wN ?_
 refine ln wN slTy_22 r ?_
 refine pu (vb (decide (0 < ((0 : Nat) : Int)))) wN ?_
 refine wl_nil <| wq_then ?_
 refine cf hz ?_
 refine wc_exit <| wq_then_exit <| wq_then_exit <| wq_blk_exit <| wq_then <| sr ?_
 refine mv (vi k) wN ?_
 refine ag (vi k) wN ?_
 refine wl_nil <| wq_then <| wc_ret ?_
 exact ret_1 (.inl rfl) (vi k) rfl rfl ⟨rfl, rfl⟩
theorem C_laws_markByteS (w0 : World) (a : Option Addr) (c : Nat) (x : List UInt8) (k : Int) (h0 : 0 ≤ k) (h1 : k ≤ 9000000000000000000) (hs : x.length ≤ 1073741824) (r : Rd w0 1 (.slice a x.length c) x.length (x.map bV)) (hw : Wp w0 5 a x.length c (x.map bV)) :
    Fn Try.prog 60 #[.slice a x.length c, .int .i64 k] w0 (fun v w' => v = .int .i64 (k + x.length) ∧ Ch (MS [(a, x.length)]) w0 w' ∧ Rd w' 1 (.slice a x.length c) x.length ((marksB k x.length).map bV)) := by
  rcases Nat.eq_zero_or_pos x.length with hz | hz
  · obtain rfl : x = [] := List.eq_nil_of_length_eq_zero hz
    refine (C_laws_markByteS_nil w0 a c k r).mono ?_
    rintro _ _ ⟨rfl, rfl⟩
    exact ⟨by simp, Ch.refl _ _, r⟩
  · rcases hw with hw | ⟨lo, hw⟩
    · omega
    · refine (C_laws_markByteS_own w0 a c x lo k h0 h1 hs hw).mono ?_
      rintro _ w' ⟨rfl, hc, ho⟩
      refine ⟨rfl, hc.mono fun b _ hb => ?_, Rd.of_own ho⟩
      rcases a with _ | ad
      · cases hb
      · exact .inl ⟨hz, ad, rfl, by simpa [Value.ownBlock] using hb⟩
theorem C_laws_markByteS_w (w0 : World) (a : Option Addr) (c : Nat) (x : List UInt8) (k : Int) (h0 : 0 ≤ k) (h1 : k ≤ 9000000000000000000) (h : W1 w0 5 (a, c) x) :
    Fn Try.prog 60 #[.slice a x.length c, .int .i64 k] w0 (fun v w' => v = .int .i64 (k + x.length) ∧ Ch (MS [(a, x.length)]) w0 w' ∧ W1 w' 5 (a, c) (marksB k x.length)) := by
  rcases Nat.eq_zero_or_pos x.length with hz | hz
  · obtain rfl : x = [] := List.eq_nil_of_length_eq_zero hz
    refine (C_laws_markByteS_nil w0 a c k h.2.1).mono ?_
    rintro _ _ ⟨rfl, rfl⟩
    exact ⟨by simp, Ch.refl _ _, h⟩
  · rcases h.1 with hw | ⟨lo, hw⟩
    · omega
    · refine (C_laws_markByteS_own w0 a c x lo k h0 h1 h.2.2 hw).mono ?_
      rintro _ w' ⟨rfl, hc, ho⟩
      have hl : (marksB k x.length).length = x.length := marksB_len _ _
      refine ⟨rfl, hc.mono fun b _ hb => ?_, .inr ⟨lo, by rw [hl]; exact ho⟩, by rw [hl]; exact Rd.of_own ho, by rw [hl]; exact h.2.2⟩
      rcases a with _ | ad
      · cases hb
      · exact .inl ⟨hz, ad, rfl, by simpa [Value.ownBlock] using hb⟩
end Go.Proofs.Ytjcahjhnnagkdaa.K
