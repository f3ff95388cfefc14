import Derived.Test.YtjcahjhnnagkdaaCore
import Derived.Test.YtjcahjhnnagkdaaProg
import Derived.Test.YtjcahjhnnagkdaaHeld
import Derived.Test.YtjcahjhnnagkdaaFun
import Derived.Test.YtjcahjhnnagkdaaFunZ
import Derived.Test.YtjcahjhnnagkdaaMark
namespace Go.Proofs.Ytjcahjhnnagkdaa.K
open Go.RowKit
set_option linter.unusedVariables false
set_option linter.unusedSimpArgs false
set_option maxRecDepth 100000
def LT_144 : LTy (PNote) := { E := 144, Eb := 5, sz := 12, enc := fun e => [vi e.1.Kind, vi e.1.Id, vi e.1.Role, vs (adr2 e.2 0).1 e.1.Cn.length (adr2 e.2 0).2, vs (adr2 e.2 1).1 e.1.Sn.length (adr2 e.2 1).2, vi e.1.Epoch, vi e.1.Seq, vs (adr2 e.2 2).1 e.1.Body.length (adr2 e.2 2).2, vs (adr2 e.2 3).1 e.1.Key.length (adr2 e.2 3).2, vi e.1.A.Host, vi e.1.A.Port, vi e.1.Now], bs := fun x => [x.Cn, x.Sn, x.Body, x.Key], len := fun _ => rfl, one := fun _ => one_all rfl, pos := by decide, ne := by decide }
def z_PNote : PNote := { Kind := 0, Id := 0, Role := 0, Cn := [], Sn := [], Epoch := 0, Seq := 0, Body := [], Key := [], A := { Host := 0, Port := 0 : PAddr }, Now := 0 : PNote }
def LT_41 : LTy (PNote) := { E := 41, Eb := 5, sz := 12, enc := fun e => [vi e.1.Kind, vi e.1.Id, vi e.1.Role, vs (adr2 e.2 0).1 e.1.Cn.length (adr2 e.2 0).2, vs (adr2 e.2 1).1 e.1.Sn.length (adr2 e.2 1).2, vi e.1.Epoch, vi e.1.Seq, vs (adr2 e.2 2).1 e.1.Body.length (adr2 e.2 2).2, vs (adr2 e.2 3).1 e.1.Key.length (adr2 e.2 3).2, vi e.1.A.Host, vi e.1.A.Port, vi e.1.Now], bs := fun x => [x.Cn, x.Sn, x.Body, x.Key], len := fun _ => rfl, one := fun _ => one_all rfl, pos := by decide, ne := by decide }
def LT_166 : LTy (PCand) := { E := 166, Eb := 5, sz := 4, enc := fun e => [vi e.1.A.Host, vi e.1.A.Port, vs (adr2 e.2 0).1 e.1.Draw.length (adr2 e.2 0).2, vi e.1.Until], bs := fun x => [x.Draw], len := fun _ => rfl, one := fun _ => one_all rfl, pos := by decide, ne := by decide }
def z_PCand : PCand := { A := { Host := 0, Port := 0 : PAddr }, Draw := [], Until := 0 : PCand }
def LT_54 : LTy (PCand) := { E := 54, Eb := 5, sz := 4, enc := fun e => [vi e.1.A.Host, vi e.1.A.Port, vs (adr2 e.2 0).1 e.1.Draw.length (adr2 e.2 0).2, vi e.1.Until], bs := fun x => [x.Draw], len := fun _ => rfl, one := fun _ => one_all rfl, pos := by decide, ne := by decide }
def enc_PCredit (x : PCredit) : List Value := [.int .i64 x.A.Host, .int .i64 x.A.Port, .int .i64 x.Got, .int .i64 x.Sent]
theorem enc_PCredit_len : ∀ a, (enc_PCredit a).length = 4 := fun _ => rfl
theorem enc_PCredit_one : ∀ a, ∀ u ∈ enc_PCredit a, u.oneCell' = true := fun _ => (one_cons rfl (one_cons rfl (one_cons rfl (one_cons rfl one_nil))))
def z_PCredit : PCredit := { A := { Host := 0, Port := 0 : PAddr }, Got := 0, Sent := 0 : PCredit }
def creditAt (x_l : List PCredit) (x_a : PAddr) : Int := findF (fun c : PCredit => decide (c.A.Host = x_a.Host) && decide (c.A.Port = x_a.Port)) x_l
theorem creditAt_range (x_l : List PCredit) (x_a : PAddr) : -1 ≤ creditAt x_l x_a ∧ creditAt x_l x_a < (x_l.length : Int) := findF_range x_l

def candAt (x_p : PPaths) (x_a : PAddr) : Int := findF (fun c : PCand => decide (c.A.Host = x_a.Host) && decide (c.A.Port = x_a.Port)) x_p.Cands
theorem candAt_range (x_p : PPaths) (x_a : PAddr) : -1 ≤ candAt x_p x_a ∧ candAt x_p x_a < (x_p.Cands.length : Int) := findF_range x_p.Cands
theorem slTy_22 : SlTy Try.prog 22 5 1 1 (v8 0) := slTy Try.underlying22 (by kernel_rfl) rfl rfl
def Q_22 (w : World) (v : Value) (x : (List UInt8)) : Prop := ∃ (a1 : Option Addr) (c1 : Nat), v = .slice a1 x.length c1 ∧ Rd w 1 (.slice a1 x.length c1) x.length (x.map bV) ∧ x.length ≤ 9223372036854775807
def O_3 (w : World) (lo : Nat) (v : Value) (x : (Int)) : Prop := v = .int .i64 x
def F_laws_szByteS (x_a : List UInt8) (x_left : Int) : (Int) := bif (decide ((x_left - (x_a.length : Int)) < 0)) then ((-1)) else ((x_left - (x_a.length : Int)))
theorem C_laws_szByteS (w0 : World) (v_x_a : Value) (x_a : List UInt8) (r_x_a : Q_22 w0 v_x_a x_a) (x_left : Int) (pre0 : 0 ≤ x_left) (pre1 : x_left ≤ 1048576) : Fn Try.prog 125 #[v_x_a, (vi x_left)] w0 (fun v w' => Keep w0 w' ∧ O_3 w' w0.heap.size v (F_laws_szByteS x_a x_left)) := by
 obtain ⟨a1, c2, rfl, r3, s4⟩ := r_x_a
 refine fn_of (n := 12) (l := [(vs a1 x_a.length c2), (vi x_left), U, U, U, U, U, U, U, U, U, U]) Try.func125 rfl rfl (by kernel_rfl) rfl ?_
 refine sr ?_
 refine ag (vi 0) wN ?_
 refine nx ?_
 refine mv (vi x_left) wN ?_
 refine mv (vs a1 x_a.length c2) wN ?_
 refine ln wN slTy_22 r3 ?_
 refine ar (x_left - (x_a.length : Int)) wN ?_
 refine ag (vi (x_left - (x_a.length : Int))) wN ?_
 refine wl_nil <| wq_then <| wc_seq <| sr ?_
 refine mv (vi (x_left - (x_a.length : Int))) wN ?_
 refine pu (vb (decide ((x_left - (x_a.length : Int)) < 0))) wN ?_
 refine wl_nil <| wq_then ?_
 rcases bt (decide ((x_left - (x_a.length : Int)) < 0)) with h6 | h6
 ·have q7 := of_decide_eq_true h6
  refine ct h6 ?_
  refine sr ?_
  refine ag (vi (-1)) wN ?_
  refine wl_nil <| wq_then <| wc_ret <| wq_then_ret ?_
  refine ret_1 (.inl rfl) (vi (-1)) rfl rfl ?_
  refine ⟨Ch.refl _ _, ?_⟩
  have hF8 : F_laws_szByteS x_a x_left = (-1) := by simp only [F_laws_szByteS, h6, cond_true, cond_false]
  rw [hF8]
  exact rfl
 have q9 := of_decide_eq_false h6
 refine cf h6 ?_
 refine wc_skip <| wq_then <| sr ?_
 refine mv (vi (x_left - (x_a.length : Int))) wN ?_
 refine ag (vi (x_left - (x_a.length : Int))) wN ?_
 refine wl_nil <| wq_then <| wc_ret ?_
 refine ret_1 (.inl rfl) (vi (x_left - (x_a.length : Int))) rfl rfl ?_
 refine ⟨Ch.refl _ _, ?_⟩
 have hF10 : F_laws_szByteS x_a x_left = (x_left - (x_a.length : Int)) := by simp only [F_laws_szByteS, h6, cond_true, cond_false]
 rw [hF10]
 exact rfl
theorem laws_szByteS_le (x : List UInt8) (l : Int) : F_laws_szByteS x l = -1 ∨ (F_laws_szByteS x l = l - ((x.length : Int)) ∧ (0 ≤ F_laws_szByteS x l ∨ l < 0 ∨ False)) := by

  simp only [F_laws_szByteS, cond_eq_ite, decide_eq_true_eq]
  (repeat' split) <;> omega

abbrev L_54 (x : PCand) (a1 : Option Addr) (c1 : Nat) : List Value := [vi x.A.Host, vi x.A.Port, vs a1 x.Draw.length c1, vi x.Until]
theorem isAgg_22 : ∀ w, (isAgg 22).run Try.prog w = .ok false w := fun w => by kernel_rfl
def Q_166 (w : World) (v : Value) (x : (PCand)) : Prop := ∃ (a1 : Option Addr) (c1 : Nat), v = .agg #[.int .i64 x.A.Host, .int .i64 x.A.Port, .slice a1 x.Draw.length c1, .int .i64 x.Until] ∧ Rd w 1 (.slice a1 x.Draw.length c1) x.Draw.length (x.Draw.map bV) ∧ x.Draw.length ≤ 9223372036854775807
theorem mQ_22 {w : World} {x : List UInt8} {a1 : Option Addr} {c1 : Nat} (h1 : Rd w 1 (.slice a1 x.length c1) x.length (x.map bV)) (l1 : x.length ≤ 9223372036854775807) : Q_22 w (vs a1 x.length c1) x := ⟨_, _, rfl, h1, l1⟩
def F_laws_szCand (x_a : PCand) (x_left : Int) : (Int) := bif (decide ((F_laws_szByteS x_a.Draw x_left) < 0)) then ((-1)) else ((F_laws_szByteS x_a.Draw x_left))
theorem C_laws_szCand (w0 : World) (v_x_a : Value) (x_a : PCand) (r_x_a : Q_166 w0 v_x_a x_a) (x_left : Int) (pre0 : 0 ≤ x_left) (pre1 : x_left ≤ 1048576) : Fn Try.prog 147 #[v_x_a, (vi x_left)] w0 (fun v w' => Keep w0 w' ∧ O_3 w' w0.heap.size v (F_laws_szCand x_a x_left)) := by
 obtain ⟨a1, c2, rfl, r3, s4⟩ := r_x_a
 refine fn_of (n := 12) (l := [(va (L_54 x_a a1 c2)), (vi x_left), U, U, U, U, U, U, U, U, U, U]) Try.func147 rfl rfl (by kernel_rfl) rfl ?_
 refine sr ?_
 refine bx (L_54 x_a a1 c2) wN ?_
 intro g6 w1 p7 p8 k9 b10
 have m11 := (Ch.base w0).extk k9
 refine ag (vi 0) wN ?_
 refine nx ?_
 refine pu (vp g6 2) wN ?_
 refine ld (vs a1 x_a.Draw.length c2) wN isAgg_22 b10 ?_
 refine mv (vi x_left) wN ?_
 refine cl wN (C_laws_szByteS w1 _ x_a.Draw (mQ_22 (r3.from0 m11) s4) x_left (by omega) (by omega)) ?_
 rintro _ w2 ⟨k12, rfl⟩
 have m13 := m11.extk k12
 have q14 := laws_szByteS_le x_a.Draw x_left
 refine ag (vi (F_laws_szByteS x_a.Draw x_left)) wN ?_
 refine wl_nil <| wq_then <| wc_seq <| sr ?_
 refine mv (vi (F_laws_szByteS x_a.Draw x_left)) wN ?_
 refine pu (vb (decide ((F_laws_szByteS x_a.Draw x_left) < 0))) wN ?_
 refine wl_nil <| wq_then ?_
 rcases bt (decide ((F_laws_szByteS x_a.Draw x_left) < 0)) with h15 | h15
 ·have q16 := of_decide_eq_true h15
  refine ct h15 ?_
  refine sr ?_
  refine ag (vi (-1)) wN ?_
  refine wl_nil <| wq_then <| wc_ret <| wq_then_ret ?_
  refine ret_1 (.inl rfl) (vi (-1)) rfl rfl ?_
  refine ⟨m13.keep0, ?_⟩
  have hF17 : F_laws_szCand x_a x_left = (-1) := by simp only [F_laws_szCand, h15, cond_true, cond_false]
  rw [hF17]
  exact rfl
 have q18 := of_decide_eq_false h15
 refine cf h15 ?_
 refine wc_skip <| wq_then <| sr ?_
 refine mv (vi (F_laws_szByteS x_a.Draw x_left)) wN ?_
 refine ag (vi (F_laws_szByteS x_a.Draw x_left)) wN ?_
 refine wl_nil <| wq_then <| wc_ret ?_
 refine ret_1 (.inl rfl) (vi (F_laws_szByteS x_a.Draw x_left)) rfl rfl ?_
 refine ⟨m13.keep0, ?_⟩
 have hF19 : F_laws_szCand x_a x_left = (F_laws_szByteS x_a.Draw x_left) := by simp only [F_laws_szCand, h15, cond_true, cond_false]
 rw [hF19]
 exact rfl
theorem laws_szCand_le (x : PCand) (l : Int) : F_laws_szCand x l = -1 ∨ (F_laws_szCand x l = l - ((x.Draw.length : Int)) ∧ (0 ≤ F_laws_szCand x l ∨ l < 0 ∨ False)) := by
  have h0 := laws_szByteS_le x.Draw l
  simp only [F_laws_szCand, cond_eq_ite, decide_eq_true_eq]
  (repeat' split) <;> omega

theorem slTy_49 : SlTy Try.prog 49 166 4 48 (va [(vi 0), (vi 0), (vs none 0 0), (vi 0)]) := slTy Try.underlying49 (by kernel_rfl) rfl rfl
theorem isAgg_166 : ∀ w, (isAgg 166).run Try.prog w = .ok true w := fun w => by kernel_rfl
theorem sizeOf_166 : ∀ w, (sizeOf 166).run Try.prog w = .ok 4 w := fun w => by kernel_rfl
abbrev L_166 (x : PCand) (a1 : Option Addr) (c1 : Nat) : List Value := [vi x.A.Host, vi x.A.Port, vs a1 x.Draw.length c1, vi x.Until]
def Q_49 (w : World) (v : Value) (x : (List PCand)) : Prop := ∃ (a1 : Option Addr) (c1 : Nat), v = .slice a1 x.length c1 ∧ RLv LT_166 w 9223372036854775807 a1 x.length c1 x ∧ x.length ≤ 9223372036854775807
theorem mQ_166 {w : World} {x : PCand} {a1 : Option Addr} {c1 : Nat} (h1 : Rd w 1 (.slice a1 x.Draw.length c1) x.Draw.length (x.Draw.map bV)) (l1 : x.Draw.length ≤ 9223372036854775807) : Q_166 w (va (L_166 x a1 c1)) x := ⟨_, _, rfl, h1, l1⟩
def szT_PCand (x : List PCand) (l : Int) : Int := bif decide (l - (x.length : Int) < 0) then -1 else heldL F_laws_szCand x (l - (x.length : Int))
theorem C_laws_szCandS (w0 : World) (v_x_a : Value) (x_a : List PCand) (r_x_a : Q_49 w0 v_x_a x_a) (x_left : Int) (pre0 : 0 ≤ x_left) (pre1 : x_left ≤ 1048576) : Fn Try.prog 97 #[v_x_a, (vi x_left)] w0 (fun v w' => Keep w0 w' ∧ O_3 w' w0.heap.size v (szT_PCand x_a x_left)) := by
 obtain ⟨a1, c2, rfl, r3, s4⟩ := r_x_a
 refine fn_of (n := 27) (l := [(vs a1 x_a.length c2), (vi x_left), U, U, U, U, U, U, U, U, U, U, U, U, U, U, U, U, U, U, U, U, U, U, U, U, U]) Try.func97 rfl rfl (by kernel_rfl) rfl ?_
 refine sr ?_
 refine ag (vi 0) wN ?_
 refine nx ?_
 refine mv (vi x_left) wN ?_
 refine mv (vs a1 x_a.length c2) wN ?_
 obtain ⟨y6, r7⟩ := RLv.row r3
 refine ln wN slTy_49 r7 ?_
 refine ar (x_left - (x_a.length : Int)) wN ?_
 refine ag (vi (x_left - (x_a.length : Int))) wN ?_
 refine wl_nil <| wq_then <| wc_seq <| sr ?_
 refine mv (vi (x_left - (x_a.length : Int))) wN ?_
 refine pu (vb (decide ((x_left - (x_a.length : Int)) < 0))) wN ?_
 refine wl_nil <| wq_then ?_
 rcases bt (decide ((x_left - (x_a.length : Int)) < 0)) with h8 | h8
 ·have q9 := of_decide_eq_true h8
  refine ct h8 ?_
  refine sr ?_
  refine ag (vi (-1)) wN ?_
  refine wl_nil <| wq_then <| wc_ret <| wq_then_ret ?_
  refine ret_1 (.inl rfl) (vi (-1)) rfl rfl ?_
  refine ⟨Ch.refl _ _, ?_⟩
  have hF10 : szT_PCand x_a x_left = (-1) := by first | (simp only [szT_PCand, h8]; simp; done) | (have hz := heldL_ne (h := F_laws_szCand) (z := z_PCand) (by assumption) (by omega) (of_decide_eq_true (by assumption)); simp only [szT_PCand, h8, hz]; simp; done) | (have hz := heldL_end (h := F_laws_szCand) (by assumption) (by omega); simp only [szT_PCand, h8, hz]; simp; done)
  rw [hF10]
  exact rfl
 have q11 := of_decide_eq_false h8
 refine cf h8 ?_
 refine wc_skip <| wq_then <| wc_seq <| sr ?_
 refine ag (vi 0) wN ?_
 refine wl_nil <| wq_then <| wc_block ?_
 refine wc_normQ (fun e => [e 0, (vi (x_left - (x_a.length : Int))), e 2, e 3, e 4, (vi ((0 : Nat) : Int)), e 6, e 7, e 8, e 9, e 10, e 11, e 12, e 13, e 14, e 15, e 16, e 17, e 18, e 19, e 20, e 21, e 22, e 23, e 24, e 25, e 26]) rfl ⟨rfl, rfl, rfl, rfl, rfl, (congrArg (Value.int .i64) (show (0 : Int) = ((0 : Nat) : Int) by omega)), rfl, rfl, rfl, rfl, rfl, rfl, rfl, rfl, rfl, rfl, rfl, rfl, rfl, rfl, rfl, rfl, rfl, rfl, rfl, rfl, rfl, trivial⟩ ?_
 refine wc_loop (fun e' w' => ∃ (i : Nat) (q : Int) (u12 : Nat → Value), e' = lst [(vs a1 x_a.length c2), (vi q), (u12 0), (u12 1), (u12 2), (vi ((i : Nat) : Int)), (u12 3), (u12 4), (u12 5), (u12 6), (u12 7), (u12 8), (u12 9), (u12 10), (u12 11), (u12 12), (u12 13), (u12 14), (u12 15), (u12 16), (u12 17), (u12 18), (u12 19), (u12 20), (u12 21), (u12 22), U] ∧ Ch (fun k => w0.heap.size ≤ k) w0 w' ∧ Ch (fun k => w0.heap.size ≤ k) w0 w' ∧ i ≤ x_a.length ∧ heldL F_laws_szCand x_a (x_left - (x_a.length : Int)) = heldL F_laws_szCand (x_a.drop i) q ∧ 0 ≤ q ∧ q ≤ 1048576) (fun e' _ => x_a.length - ((intOf (e' 5))).toNat) ?_ ?_
 ·exact ⟨0, (x_left - (x_a.length : Int)), (unL [U, U, _, _, _, _, _, _, _, U, U, U, U, U, U, U, U, U, U, U, U, U, U]), rfl, (Ch.base w0), (Ch.refl (fun k => w0.heap.size ≤ k) w0), (by omega), (by first | (simp; done) | exact heldL_next (z := z_PCand) (by assumption) (by omega) rfl (by omega)), (by omega), (by omega)⟩
 ·rintro _ w1 ⟨i, q, u12, rfl, m13, k14, i15, i16, i17, i18⟩
  refine wc_seq <| sr ?_
  refine mv (vi ((i : Nat) : Int)) wN ?_
  refine mv (vs a1 x_a.length c2) wN ?_
  obtain ⟨y19, r20⟩ := RLv.row (r3.from0 m13)
  refine ln wN slTy_49 r20 ?_
  refine pu (vb (decide (((i : Nat) : Int) < (x_a.length : Int)))) wN ?_
  refine wl_nil <| wq_then ?_
  rcases bf (decide (((i : Nat) : Int) < (x_a.length : Int))) with h21 | h21
  ·have q44 := of_decide_eq_false h21
   refine cf h21 ?_
   refine wc_exit <| wq_then_exit <| wq_then_exit <| wq_blk_exit <| wq_then <| sr ?_
   refine mv (vi q) wN ?_
   refine ag (vi q) wN ?_
   refine wl_nil <| wq_then <| wc_ret ?_
   refine ret_1 (.inl rfl) (vi q) rfl rfl ?_
   refine ⟨m13.keep0, ?_⟩
   have hF45 : szT_PCand x_a x_left = q := by first | (simp only [szT_PCand, h8, h21]; simp; done) | (have hz := heldL_ne (h := F_laws_szCand) (z := z_PCand) (by assumption) (by omega) (of_decide_eq_true (by assumption)); simp only [szT_PCand, h8, h21, hz]; simp; done) | (have hz := heldL_end (h := F_laws_szCand) (by assumption) (by omega); simp only [szT_PCand, h8, h21, hz]; simp; done)
   rw [hF45]
   exact rfl
  have q22 := of_decide_eq_true h21
  refine ct h21 ?_
  refine wc_skip <| wq_then <| wc_seq <| wc_block <| sr ?_
  refine mv (vs a1 x_a.length c2) wN ?_
  refine mv (vi ((i : Nat) : Int)) wN ?_
  obtain ⟨y23, r24⟩ := RLv.row (r3.from0 m13)
  refine wl_index wN ((i : Nat) : Int) rfl rfl rfl slTy_49 rfl rfl r24 (by first | omega | (simp only [List.length_cons, List.length_nil, List.length_replicate, List.length_append, List.length_take, List.length_set, List.length_map]; omega)) (by first | omega | (simp only [List.length_cons, List.length_nil, List.length_replicate, List.length_append, List.length_take, List.length_set, List.length_map]; omega)) ?_
  obtain ⟨y25, l26, r27, e28, u29⟩ := RLv.el z_PCand (i := i) r3 (by first | omega | (simp only [List.length_cons, List.length_nil, List.length_replicate, List.length_append, List.length_take, List.length_set, List.length_map]; omega))
  obtain ⟨a30, c31, l35, rfl, r32, s33, u36⟩ := SubR.c u29
  obtain rfl := SubR.n u36
  refine wl_loadEN [(vi (((x_a.getD i z_PCand).A).Host)), (vi (((x_a.getD i z_PCand).A).Port)), (vs a30 (x_a.getD i z_PCand).Draw.length c31), (vi ((x_a.getD i z_PCand).Until))] wN rfl rfl rfl rfl isAgg_166 sizeOf_166 (r27.from0 m13) (by first | omega | (simp only [List.length_cons, List.length_nil, List.length_replicate, List.length_append, List.length_take, List.length_set, List.length_map]; omega)) ((part_of (off := 0) (n := 4) e28 (by first | rfl | simp | omega) (by decide)).trans rfl) ?_
  refine mv (vi q) wN ?_
  refine cl wN (C_laws_szCand w1 _ (x_a.getD i z_PCand) (mQ_166 (r32.from0 m13) s33) q (by omega) (by omega)) ?_
  rintro _ w2 ⟨k37, rfl⟩
  have m38 := m13.extk k37
  have q39 := laws_szCand_le (x_a.getD i z_PCand) q
  refine ag (vi (F_laws_szCand (x_a.getD i z_PCand) q)) wN ?_
  refine nx ?_
  refine mv (vi (F_laws_szCand (x_a.getD i z_PCand) q)) wN ?_
  refine pu (vb (decide ((F_laws_szCand (x_a.getD i z_PCand) q) < 0))) wN ?_
  refine wl_nil <| wq_then ?_
  rcases bt (decide ((F_laws_szCand (x_a.getD i z_PCand) q) < 0)) with h40 | h40
  ·have q41 := of_decide_eq_true h40
   refine ct h40 ?_
   refine sr ?_
   refine ag (vi (-1)) wN ?_
   refine wl_nil <| wq_then <| wc_ret <| wq_blk_ret <| wq_then_ret <| wq_then_ret <| wq_blk_ret <| wq_then_ret ?_
   refine ret_1 (.inl rfl) (vi (-1)) rfl rfl ?_
   refine ⟨m38.keep0, ?_⟩
   have hF42 : szT_PCand x_a x_left = (-1) := by first | (simp only [szT_PCand, h8, h21, h40]; simp; done) | (have hz := heldL_ne (h := F_laws_szCand) (z := z_PCand) (by assumption) (by omega) (of_decide_eq_true (by assumption)); simp only [szT_PCand, h8, h21, h40, hz]; simp; done) | (have hz := heldL_end (h := F_laws_szCand) (by assumption) (by omega); simp only [szT_PCand, h8, h21, h40, hz]; simp; done)
   rw [hF42]
   exact rfl
  have q43 := of_decide_eq_false h40
  refine cf h40 ?_
  refine wc_skip <| wq_blk_normal <| wq_then <| wc_region ?_
  refine mv (vi ((i : Nat) : Int)) wN ?_
  refine ar (((i : Nat) : Int) + 1) wN ?_
  refine ag (vi (((i : Nat) : Int) + 1)) wN ?_
  refine wl_nil ?_
  refine wq_loopQ (w0 := w1) (fun e => [e 0, (vi (F_laws_szCand (x_a.getD i z_PCand) q)), e 2, e 3, e 4, (vi (((i + 1) : Nat) : Int)), e 6, e 7, e 8, e 9, e 10, e 11, e 12, e 13, e 14, e 15, e 16, e 17, e 18, e 19, e 20, e 21, e 22, e 23, e 24, e 25, e 26]) rfl ?_ ?_ ?_
  · exact ⟨rfl, rfl, rfl, rfl, rfl, (congrArg (Value.int .i64) (show ((((i : Nat) : Int) + 1) : Int) = (((i + 1) : Nat) : Int) by omega)), rfl, rfl, rfl, rfl, rfl, rfl, rfl, rfl, rfl, rfl, rfl, rfl, rfl, rfl, rfl, rfl, rfl, rfl, rfl, rfl, rfl, trivial⟩
  · exact ⟨(i + 1), (F_laws_szCand (x_a.getD i z_PCand) q), (unL [_, _, _, _, _, _, _, _, _, _, _, _, _, _, _, _, _, _, _, _, _, _, _]), rfl, m38, (((Ch.refl (fun k => w0.heap.size ≤ k) w0).ext k14 (fun k hk => Nat.le_trans (Nat.le_refl w0.heap.size) hk)).extk k37), (by omega), (by first | (simp; done) | exact heldL_next (z := z_PCand) (by assumption) (by omega) rfl (by omega)), (by omega), (by omega)⟩
  · show x_a.length - ((((i + 1) : Nat) : Int)).toNat < x_a.length - (((i : Nat) : Int)).toNat; omega
theorem ok_szT_PCand {x : List PCand} (h : ¬ szT_PCand x 1048576 < 0) : x.length ≤ 1048576 ∧ ∀ e ∈ x, ∀ b ∈ LT_166.bs e, b.length ≤ 1048576 := by
  unfold szT_PCand at h
  cases h1 : decide ((1048576 : Int) - (x.length : Int) < 0) with
  | true => rw [h1] at h; exact absurd (by decide : (-1 : Int) < 0) h
  | false =>
    rw [h1] at h
    have h2 := of_decide_eq_false h1
    refine ⟨by omega, fun e he b hb => ?_⟩
    obtain ⟨l, hl, hp⟩ := held_pos (g := F_laws_szCand) (fun a l => by simp only [F_laws_szCand, F_laws_szByteS, cond_eq_ite, decide_eq_true_eq]; (repeat' split) <;> omega) x (1048576 - (x.length : Int)) (by have h3 : ¬ heldL F_laws_szCand x (1048576 - (x.length : Int)) < 0 := h; omega) e he
    simp only [F_laws_szCand, F_laws_szByteS, cond_eq_ite, decide_eq_true_eq] at hp
    simp only [LT_166, List.mem_cons, List.not_mem_nil, or_false] at hb
    (repeat' split at hp) <;> first | omega | (rcases hb with rfl | hb <;> first | omega | (rcases hb with rfl | hb <;> first | omega | (rcases hb with rfl | hb <;> first | omega | (subst hb; omega))) | (subst hb; omega)) | (subst hb; omega)

abbrev L_59 (x : PPaths) (a1 : Option Addr) (c1 : Nat) : List Value := [vi x.At.Host, vi x.At.Port, vs a1 x.Cands.length c1]
theorem isAgg_49 : ∀ w, (isAgg 49).run Try.prog w = .ok false w := fun w => by kernel_rfl
def Q_51 (w : World) (v : Value) (x : (PPaths)) : Prop := ∃ (a1 : Option Addr) (c1 : Nat), v = .agg #[.int .i64 x.At.Host, .int .i64 x.At.Port, .slice a1 x.Cands.length c1] ∧ RLv LT_166 w 9223372036854775807 a1 x.Cands.length c1 x.Cands ∧ x.Cands.length ≤ 9223372036854775807
theorem mQ_49 {w : World} {x : List PCand} {a1 : Option Addr} {c1 : Nat} (h1 : RLv LT_166 w 9223372036854775807 a1 x.length c1 x) (l1 : x.length ≤ 9223372036854775807) : Q_49 w (vs a1 x.length c1) x := ⟨_, _, rfl, h1, l1⟩
def F_laws_szPaths (x_a : PPaths) (x_left : Int) : (Int) := bif (decide ((szT_PCand x_a.Cands x_left) < 0)) then ((-1)) else ((szT_PCand x_a.Cands x_left))
theorem C_laws_szPaths (w0 : World) (v_x_a : Value) (x_a : PPaths) (r_x_a : Q_51 w0 v_x_a x_a) (x_left : Int) (pre0 : 0 ≤ x_left) (pre1 : x_left ≤ 1048576) : Fn Try.prog 31 #[v_x_a, (vi x_left)] w0 (fun v w' => Keep w0 w' ∧ O_3 w' w0.heap.size v (F_laws_szPaths x_a x_left)) := by
 obtain ⟨a1, c2, rfl, r3, s4⟩ := r_x_a
 refine fn_of (n := 12) (l := [(va (L_59 x_a a1 c2)), (vi x_left), U, U, U, U, U, U, U, U, U, U]) Try.func31 rfl rfl (by kernel_rfl) rfl ?_
 refine sr ?_
 refine bx (L_59 x_a a1 c2) wN ?_
 intro g6 w1 p7 p8 k9 b10
 have m11 := (Ch.base w0).extk k9
 refine ag (vi 0) wN ?_
 refine nx ?_
 refine pu (vp g6 2) wN ?_
 refine ld (vs a1 x_a.Cands.length c2) wN isAgg_49 b10 ?_
 refine mv (vi x_left) wN ?_
 refine cl wN (C_laws_szCandS w1 _ x_a.Cands (mQ_49 (r3.from0 m11) s4) x_left (by omega) (by omega)) ?_
 rintro _ w2 ⟨k12, rfl⟩
 have m13 := m11.extk k12
 refine ag (vi (szT_PCand x_a.Cands x_left)) wN ?_
 refine wl_nil <| wq_then <| wc_seq <| sr ?_
 refine mv (vi (szT_PCand x_a.Cands x_left)) wN ?_
 refine pu (vb (decide ((szT_PCand x_a.Cands x_left) < 0))) wN ?_
 refine wl_nil <| wq_then ?_
 rcases bt (decide ((szT_PCand x_a.Cands x_left) < 0)) with h14 | h14
 ·have q15 := of_decide_eq_true h14
  refine ct h14 ?_
  refine sr ?_
  refine ag (vi (-1)) wN ?_
  refine wl_nil <| wq_then <| wc_ret <| wq_then_ret ?_
  refine ret_1 (.inl rfl) (vi (-1)) rfl rfl ?_
  refine ⟨m13.keep0, ?_⟩
  have hF16 : F_laws_szPaths x_a x_left = (-1) := by simp only [F_laws_szPaths, h14, cond_true, cond_false]
  rw [hF16]
  exact rfl
 have q17 := of_decide_eq_false h14
 refine cf h14 ?_
 refine wc_skip <| wq_then <| sr ?_
 refine mv (vi (szT_PCand x_a.Cands x_left)) wN ?_
 refine ag (vi (szT_PCand x_a.Cands x_left)) wN ?_
 refine wl_nil <| wq_then <| wc_ret ?_
 refine ret_1 (.inl rfl) (vi (szT_PCand x_a.Cands x_left)) rfl rfl ?_
 refine ⟨m13.keep0, ?_⟩
 have hF18 : F_laws_szPaths x_a x_left = (szT_PCand x_a.Cands x_left) := by simp only [F_laws_szPaths, h14, cond_true, cond_false]
 rw [hF18]
 exact rfl
theorem ok_F_laws_szPaths {x : PPaths} (h : ¬ F_laws_szPaths x 1048576 < 0) : x.Cands.length ≤ 1048576 ∧ ∀ e ∈ x.Cands, ∀ b ∈ LT_166.bs e, b.length ≤ 1048576 := ok_szT_PCand (fun h0 => h (by simp only [F_laws_szPaths, h0, decide_true, cond_true]; decide))

abbrev L_26 (x : PAddr)  : List Value := [vi x.Host, vi x.Port]
theorem zero_26 : ∀ w, (zeroValue 26).run Try.prog w = .ok (va [(vi 0), (vi 0)]) w := fun w => by kernel_rfl
theorem isAgg_3 : ∀ w, (isAgg 3).run Try.prog w = .ok false w := fun w => by kernel_rfl
theorem sizeOf_3 : ∀ w, (sizeOf 3).run Try.prog w = .ok 1 w := fun w => by kernel_rfl
theorem isAgg_26 : ∀ w, (isAgg 26).run Try.prog w = .ok true w := fun w => by kernel_rfl
theorem sizeOf_26 : ∀ w, (sizeOf 26).run Try.prog w = .ok 2 w := fun w => by kernel_rfl
def R_48 (w : World) (v : Value) (x : (PAddr)) : Prop := v = .agg #[.int .i64 x.Host, .int .i64 x.Port]
def O_26 (w : World) (lo : Nat) (v : Value) (x : (PAddr)) : Prop := v = .agg #[.int .i64 x.Host, .int .i64 x.Port]
def F_laws_toAddr (x_a : PAddr) : (PAddr) := x_a
theorem C_laws_toAddr (w0 : World) (v_x_a : Value) (x_a : PAddr) (r_x_a : R_48 w0 v_x_a x_a)  : Fn Try.prog 34 #[v_x_a] w0 (fun v w' => Keep w0 w' ∧ O_26 w' w0.heap.size v (F_laws_toAddr x_a)) := by
 obtain rfl := r_x_a
 refine fn_of (n := 11) (l := [(va (L_26 x_a)), U, U, U, U, U, U, U, U, U, U]) Try.func34 rfl rfl (by kernel_rfl) rfl ?_
 refine sr ?_
 refine bx (L_26 x_a) wN ?_
 intro g1 w1 p2 p3 k4 b5
 have m6 := (Ch.base w0).extk k4
 refine al [(vi 0), (vi 0)] wN zero_26 ?_
 intro g7 w2 p8 p9 k10 b11
 have m12 := m6.extk k10
 refine nx ?_
 refine al [(vi 0), (vi 0)] wN zero_26 ?_
 intro g13 w3 p14 p15 k16 b17
 have m18 := m12.extk k16
 refine nx ?_
 refine pu (vp g1 0) wN ?_
 have b19 := ((b5.kp k10).kp k16)
 refine ld (vi x_a.Host) wN isAgg_3 b19 ?_
 refine pu (vp g13 0) wN ?_
 refine st (vi x_a.Host) [(vi x_a.Host)] [(vi x_a.Host), (vi 0)] wN sizeOf_3 b17 ?_
 intro w4 k20 b21 z22
 have m23 := m18.ext k20 (fun k hk => by subst hk; exact Nat.le_trans (Nat.le_trans k4.size k10.size) p14)
 refine nx ?_
 refine pu (vp g1 1) wN ?_
 have b24 := (b19.ch k20 (Nat.ne_of_lt (Nat.lt_of_lt_of_le p3 (Nat.le_trans k10.size p14))))
 refine ld (vi x_a.Port) wN isAgg_3 b24 ?_
 refine pu (vp g13 1) wN ?_
 refine st (vi x_a.Port) [(vi x_a.Port)] (L_26 x_a) wN sizeOf_3 b21 ?_
 intro w5 k25 b26 z27
 have m28 := m23.ext k25 (fun k hk => by subst hk; exact Nat.le_trans (Nat.le_trans k4.size k10.size) p14)
 refine nx ?_
 refine lN (L_26 x_a) wN isAgg_26 sizeOf_26 b26 ?_
 have b29 := (((b11.kp k16).ch k20 (Nat.ne_of_lt (Nat.lt_of_lt_of_le p9 (Nat.le_trans (Nat.le_refl w2.heap.size) p14)))).ch k25 (Nat.ne_of_lt (Nat.lt_of_lt_of_le p9 (Nat.le_trans (Nat.le_refl w2.heap.size) p14))))
 refine st (va (L_26 x_a)) (L_26 x_a) (L_26 x_a) wN sizeOf_26 b29 ?_
 intro w6 k30 b31 z32
 have m33 := m28.ext k30 (fun k hk => by subst hk; exact Nat.le_trans k4.size p8)
 refine wl_nil <| wq_then <| wc_ret ?_
 refine ret_1 (.inl rfl) (va (L_26 x_a)) rfl (rv_c [(vi x_a.Host), (vi x_a.Port)] rfl b31 isAgg_26 sizeOf_26) ?_
 refine ⟨m33.keep0, ?_⟩
 have hF34 : F_laws_toAddr x_a = x_a := by rfl
 rw [hF34]
 exact rfl

theorem isAgg_5 : ∀ w, (isAgg 5).run Try.prog w = .ok false w := fun w => by kernel_rfl
theorem sizeOf_5 : ∀ w, (sizeOf 5).run Try.prog w = .ok 1 w := fun w => by kernel_rfl
def R_22 (w : World) (v : Value) (x : (List UInt8)) : Prop := ∃ (a1 : Option Addr) (c1 : Nat), v = .slice a1 x.length c1 ∧ Rd w 1 (.slice a1 x.length c1) x.length (x.map bV) ∧ x.length ≤ 1073741824
def O_22 (w : World) (lo : Nat) (v : Value) (x : (List UInt8)) : Prop := ∃ (a1 : Option Addr) (c1 : Nat), v = .slice a1 x.length c1 ∧ w.ownsRow lo 5 1 (.slice a1 x.length c1) x.length (x.map bV) ∧ x.length ≤ 1073741824 ∧ Aps [(a1, c1)]
theorem C_laws_toByteS (w0 : World) (v_x_a : Value) (x_a : List UInt8) (r_x_a : R_22 w0 v_x_a x_a)  : Fn Try.prog 58 #[v_x_a] w0 (fun v w' => Keep w0 w' ∧ O_22 w' w0.heap.size v (cpB x_a)) := by
 obtain ⟨a1, c2, rfl, r3, s4⟩ := r_x_a
 refine fn_of (n := 22) (l := [(vs a1 x_a.length c2), U, U, U, U, U, U, U, U, U, U, U, U, U, U, U, U, U, U, U, U, U]) Try.func58 rfl rfl (by kernel_rfl) rfl ?_
 refine sr ?_
 refine ag (vs none 0 0) wN ?_
 refine nx ?_
 refine mv (vs a1 x_a.length c2) wN ?_
 refine ln wN slTy_22 r3 ?_
 refine wl_makeB (x_a.length) wN rfl rfl rfl slTy_22 (x_a.length : Int) rfl (by omega) (by first | (simp only [List.length_append, List.length_cons, List.length_nil, List.length_replicate]; omega) | omega) (by first | (simp only [List.length_append, List.length_cons, List.length_nil, List.length_replicate]; omega) | omega) ?_
 intro a6 c7 w1 k8 o9
 have m10 := (Ch.base w0).extk k8
 refine ag (vs a6 (List.replicate x_a.length (0 : UInt8)).length c7) wN ?_
 refine wl_nil <| wq_then <| wc_seq <| sr ?_
 refine ag (vi 0) wN ?_
 refine wl_nil <| wq_then <| wc_block ?_
 have hE13 : ((List.replicate x_a.length (0 : UInt8)) : List UInt8) = x_a.take 0 ++ List.replicate (x_a.length - 0) (0 : UInt8) := by first | exact cpB_next (by omega) | simp
 refine wc_normQ (fun e => [e 0, e 1, e 2, e 3, (vi ((0 : Nat) : Int)), e 5, e 6, e 7, e 8, e 9, e 10, e 11, e 12, e 13, e 14, e 15, e 16, e 17, e 18, e 19, e 20, e 21]) rfl ⟨rfl, rfl, rfl, rfl, (congrArg (Value.int .i64) (show (0 : Int) = ((0 : Nat) : Int) by omega)), rfl, rfl, rfl, rfl, rfl, rfl, rfl, rfl, rfl, rfl, rfl, rfl, rfl, rfl, rfl, rfl, rfl, trivial⟩ ?_
 refine wc_loop (fun e' w' => ∃ (k : Nat) (u12 : Nat → Value), e' = lst [(vs a1 x_a.length c2), (u12 0), (vs none 0 0), (vs a6 (List.replicate x_a.length (0 : UInt8)).length c7), (vi ((k : Nat) : Int)), (u12 1), (u12 2), (u12 3), (u12 4), (u12 5), (u12 6), (u12 7), (u12 8), (u12 9), (u12 10), (u12 11), (u12 12), (u12 13), (u12 14), (u12 15), (u12 16), U] ∧ Ch (fun k => w0.heap.size ≤ k) w0 w' ∧ Ch (fun k => w0.heap.size ≤ k) w1 w' ∧ k ≤ x_a.length ∧ World.ownsRow w' w0.heap.size 5 1 (.slice a6 (List.replicate x_a.length (0 : UInt8)).length c7) (List.replicate x_a.length (0 : UInt8)).length ((x_a.take k ++ List.replicate (x_a.length - k) (0 : UInt8)).map bV)) (fun e' _ => x_a.length - ((intOf (e' 4))).toNat) ?_ ?_
 ·exact ⟨0, (unL [U, _, _, _, U, U, U, U, U, U, U, U, U, U, U, U, U]), rfl, m10, (Ch.refl (fun k => w0.heap.size ≤ k) w1), (by omega), (by rw [← hE13]; exact o9)⟩
 ·rintro _ w2 ⟨k, u12, rfl, m14, k15, i16, o17⟩
  refine wc_seq <| sr ?_
  refine mv (vi ((k : Nat) : Int)) wN ?_
  refine mv (vs a1 x_a.length c2) wN ?_
  refine ln wN slTy_22 (r3.from0 m14) ?_
  refine pu (vb (decide (((k : Nat) : Int) < (x_a.length : Int)))) wN ?_
  refine wl_nil <| wq_then ?_
  rcases bf (decide (((k : Nat) : Int) < (x_a.length : Int))) with h18 | h18
  ·have q24 := of_decide_eq_false h18
   refine cf h18 ?_
   refine wc_exit <| wq_then_exit <| wq_then_exit <| wq_blk_exit <| wq_then <| sr ?_
   refine mv (vs a6 (List.replicate x_a.length (0 : UInt8)).length c7) wN ?_
   refine ag (vs a6 (List.replicate x_a.length (0 : UInt8)).length c7) wN ?_
   refine wl_nil <| wq_then <| wc_ret ?_
   refine ret_1 (.inl rfl) (vs a6 (List.replicate x_a.length (0 : UInt8)).length c7) rfl rfl ?_
   refine ⟨m14.keep0, ?_⟩
   have hF25 : cpB x_a = (x_a.take k ++ List.replicate (x_a.length - k) (0 : UInt8)) := by exact cpB_end (by omega)
   rw [hF25]
   have hN26 : (List.replicate x_a.length (0 : UInt8)).length = ((x_a.take k ++ List.replicate (x_a.length - k) (0 : UInt8))).length := by first | (simp only [List.length_append, List.length_take, List.length_replicate, List.length_set, List.length_map]; done) | (simp only [List.length_append, List.length_take, List.length_replicate, List.length_set, List.length_map]; omega)
   rw [hN26] at o17 ⊢
   exact ⟨_, _, rfl, o17, (by rw [← hN26]; rw [List.length_replicate]; first | assumption | omega), ⟨trivial, trivial⟩⟩
  have q19 := of_decide_eq_true h18
  refine ct h18 ?_
  refine wc_skip <| wq_then <| wc_seq <| wc_block <| wc_region ?_
  refine mv (vs a6 (List.replicate x_a.length (0 : UInt8)).length c7) wN ?_
  refine mv (vi ((k : Nat) : Int)) wN ?_
  refine mv (vs a1 x_a.length c2) wN ?_
  refine mv (vi ((k : Nat) : Int)) wN ?_
  refine wl_index wN ((k : Nat) : Int) rfl rfl rfl slTy_22 rfl rfl (r3.from0 m14) (by first | omega | (simp only [List.length_cons, List.length_nil, List.length_replicate, List.length_append, List.length_take, List.length_set, List.length_map]; omega)) (by first | omega | (simp only [List.length_cons, List.length_nil, List.length_replicate, List.length_append, List.length_take, List.length_set, List.length_map]; omega)) ?_
  refine wl_loadE (bV (x_a.getD k 0)) wN rfl rfl rfl rfl isAgg_5 (r3.from0 m14) (bget (by simp) (by first | omega | (simp only [List.length_cons, List.length_nil, List.length_replicate, List.length_append, List.length_take, List.length_set, List.length_map]; omega))) ?_
  refine wl_index wN ((k : Nat) : Int) rfl rfl rfl slTy_22 rfl rfl (Rd.of_own o17) (by first | omega | (simp only [List.length_cons, List.length_nil, List.length_replicate, List.length_append, List.length_take, List.length_set, List.length_map]; omega)) (by first | omega | (simp only [List.length_cons, List.length_nil, List.length_replicate, List.length_append, List.length_take, List.length_set, List.length_map]; omega)) ?_
  refine wl_storeB (x_a.take k ++ List.replicate (x_a.length - k) (0 : UInt8)) (k) ((x_a.getD k 0)) wN rfl rfl rfl (by simp) rfl sizeOf_5 o17 (by first | omega | (simp only [List.length_append, List.length_replicate, List.length_take, List.length_set, List.length_map]; omega)) ?_
  intro w3 k20 o21
  have m22 := m14.ext k20 (fun k hk => Nat.le_trans (Nat.le_refl w0.heap.size) (own_lt o9 k hk).1)
  refine wl_nil <| wq_blk_normal <| wq_then <| wc_region ?_
  refine mv (vi ((k : Nat) : Int)) wN ?_
  refine ar (((k : Nat) : Int) + 1) wN ?_
  refine ag (vi (((k : Nat) : Int) + 1)) wN ?_
  refine wl_nil ?_
  have hE23 : (((x_a.take k ++ List.replicate (x_a.length - k) (0 : UInt8)).set k (x_a.getD k 0)) : List UInt8) = x_a.take (k + 1) ++ List.replicate (x_a.length - (k + 1)) (0 : UInt8) := by first | exact cpB_next (by omega) | simp
  refine wq_loopQ (w0 := w2) (fun e => [e 0, e 1, e 2, e 3, (vi (((k + 1) : Nat) : Int)), e 5, e 6, e 7, e 8, e 9, e 10, e 11, e 12, e 13, e 14, e 15, e 16, e 17, e 18, e 19, e 20, e 21]) rfl ?_ ?_ ?_
  · exact ⟨rfl, rfl, rfl, rfl, (congrArg (Value.int .i64) (show ((((k : Nat) : Int) + 1) : Int) = (((k + 1) : Nat) : Int) by omega)), rfl, rfl, rfl, rfl, rfl, rfl, rfl, rfl, rfl, rfl, rfl, rfl, rfl, rfl, rfl, rfl, rfl, trivial⟩
  · exact ⟨(k + 1), (unL [_, _, _, _, _, _, _, _, _, _, _, _, _, _, _, _, _]), rfl, m22, (((Ch.refl (fun k => w0.heap.size ≤ k) w1).ext k15 (fun k hk => Nat.le_trans (Nat.le_refl w0.heap.size) hk)).ext k20 (fun k hk => Nat.le_trans (Nat.le_refl w0.heap.size) (own_lt o9 k hk).1)), (by omega), (by rw [← hE23]; exact o21)⟩
  · show x_a.length - ((((k + 1) : Nat) : Int)).toNat < x_a.length - (((k : Nat) : Int)).toNat; omega

theorem zero_54 : ∀ w, (zeroValue 54).run Try.prog w = .ok (va [(vi 0), (vi 0), (vs none 0 0), (vi 0)]) w := fun w => by kernel_rfl
theorem isAgg_48 : ∀ w, (isAgg 48).run Try.prog w = .ok true w := fun w => by kernel_rfl
theorem sizeOf_48 : ∀ w, (sizeOf 48).run Try.prog w = .ok 2 w := fun w => by kernel_rfl
abbrev L_48 (x : PAddr)  : List Value := [vi x.Host, vi x.Port]
theorem sizeOf_22 : ∀ w, (sizeOf 22).run Try.prog w = .ok 1 w := fun w => by kernel_rfl
theorem isAgg_54 : ∀ w, (isAgg 54).run Try.prog w = .ok true w := fun w => by kernel_rfl
theorem sizeOf_54 : ∀ w, (sizeOf 54).run Try.prog w = .ok 4 w := fun w => by kernel_rfl
def R_166 (w : World) (v : Value) (x : (PCand)) : Prop := ∃ (a1 : Option Addr) (c1 : Nat), v = .agg #[.int .i64 x.A.Host, .int .i64 x.A.Port, .slice a1 x.Draw.length c1, .int .i64 x.Until] ∧ Rd w 1 (.slice a1 x.Draw.length c1) x.Draw.length (x.Draw.map bV) ∧ x.Draw.length ≤ 1073741824
def O_54 (w : World) (lo : Nat) (v : Value) (x : (PCand)) : Prop := ∃ (a1 : Option Addr) (c1 : Nat), v = .agg #[.int .i64 x.A.Host, .int .i64 x.A.Port, .slice a1 x.Draw.length c1, .int .i64 x.Until] ∧ w.ownsRow lo 5 1 (.slice a1 x.Draw.length c1) x.Draw.length (x.Draw.map bV) ∧ x.Draw.length ≤ 1073741824 ∧ Aps [(a1, c1)]
theorem mR_48 {w : World} {x : PAddr} : R_48 w (va (L_48 x)) x := rfl
theorem mR_22 {w : World} {x : List UInt8} {a1 : Option Addr} {c1 : Nat} (h1 : Rd w 1 (.slice a1 x.length c1) x.length (x.map bV)) (l1 : x.length ≤ 1073741824) : R_22 w (vs a1 x.length c1) x := ⟨_, _, rfl, h1, l1⟩
def F_laws_toCand (x_a : PCand) : (PCand) := { A := (F_laws_toAddr x_a.A), Draw := (cpB x_a.Draw), Until := x_a.Until : PCand }
theorem C_laws_toCand (w0 : World) (v_x_a : Value) (x_a : PCand) (r_x_a : R_166 w0 v_x_a x_a)  : Fn Try.prog 148 #[v_x_a] w0 (fun v w' => Keep w0 w' ∧ O_54 w' w0.heap.size v (F_laws_toCand x_a)) := by
 obtain ⟨a1, c2, rfl, r3, s4⟩ := r_x_a
 refine fn_of (n := 16) (l := [(va (L_54 x_a a1 c2)), U, U, U, U, U, U, U, U, U, U, U, U, U, U, U]) Try.func148 rfl rfl (by kernel_rfl) rfl ?_
 refine sr ?_
 refine bx (L_54 x_a a1 c2) wN ?_
 intro g6 w1 p7 p8 k9 b10
 have m11 := (Ch.base w0).extk k9
 refine al [(vi 0), (vi 0), (vs none 0 0), (vi 0)] wN zero_54 ?_
 intro g12 w2 p13 p14 k15 b16
 have m17 := m11.extk k15
 refine nx ?_
 refine al [(vi 0), (vi 0), (vs none 0 0), (vi 0)] wN zero_54 ?_
 intro g18 w3 p19 p20 k21 b22
 have m23 := m17.extk k21
 refine nx ?_
 refine pu (vp g6 0) wN ?_
 have b24 := ((b10.kp k15).kp k21)
 refine lN (L_26 x_a.A) wN isAgg_48 sizeOf_48 b24 ?_
 refine cl wN (C_laws_toAddr w3 _ x_a.A (mR_48)) ?_
 rintro _ w4 ⟨k25, rfl⟩
 have m26 := m23.extk k25
 refine pu (vp g18 0) wN ?_
 have b27 := (b22.kp k25)
 refine st (va (L_26 (F_laws_toAddr x_a.A))) (L_26 (F_laws_toAddr x_a.A)) [(vi ((F_laws_toAddr x_a.A).Host)), (vi ((F_laws_toAddr x_a.A).Port)), (vs none 0 0), (vi 0)] wN sizeOf_26 b27 ?_
 intro w5 k28 b29 z30
 have m31 := m26.ext k28 (fun k hk => by subst hk; exact Nat.le_trans (Nat.le_trans k9.size k15.size) p19)
 refine nx ?_
 refine pu (vp g6 2) wN ?_
 have b32 := ((b24.kp k25).ch k28 (Nat.ne_of_lt (Nat.lt_of_lt_of_le p8 (Nat.le_trans k15.size p19))))
 refine ld (vs a1 x_a.Draw.length c2) wN isAgg_22 b32 ?_
 refine cl wN (C_laws_toByteS w5 _ x_a.Draw (mR_22 (r3.from0 m31) s4)) ?_
 rintro _ w6 ⟨k33, ⟨a34, c35, rfl, o36, s37, ap39⟩⟩
 have m40 := m31.extk k33
 refine pu (vp g18 2) wN ?_
 have b41 := (b29.kp k33)
 refine st (vs a34 (cpB x_a.Draw).length c35) [(vs a34 (cpB x_a.Draw).length c35)] [(vi ((F_laws_toAddr x_a.A).Host)), (vi ((F_laws_toAddr x_a.A).Port)), (vs a34 (cpB x_a.Draw).length c35), (vi 0)] wN sizeOf_22 b41 ?_
 intro w7 k42 b43 z44
 have m45 := m40.ext k42 (fun k hk => by subst hk; exact Nat.le_trans (Nat.le_trans k9.size k15.size) p19)
 refine nx ?_
 refine pu (vp g6 3) wN ?_
 have b46 := ((b32.kp k33).ch k42 (Nat.ne_of_lt (Nat.lt_of_lt_of_le p8 (Nat.le_trans k15.size p19))))
 refine ld (vi x_a.Until) wN isAgg_3 b46 ?_
 refine pu (vp g18 3) wN ?_
 refine st (vi x_a.Until) [(vi x_a.Until)] [(vi ((F_laws_toAddr x_a.A).Host)), (vi ((F_laws_toAddr x_a.A).Port)), (vs a34 (cpB x_a.Draw).length c35), (vi x_a.Until)] wN sizeOf_3 b43 ?_
 intro w8 k47 b48 z49
 have m50 := m45.ext k47 (fun k hk => by subst hk; exact Nat.le_trans (Nat.le_trans k9.size k15.size) p19)
 refine nx ?_
 refine lN [(vi ((F_laws_toAddr x_a.A).Host)), (vi ((F_laws_toAddr x_a.A).Port)), (vs a34 (cpB x_a.Draw).length c35), (vi x_a.Until)] wN isAgg_54 sizeOf_54 b48 ?_
 have b51 := ((((((b16.kp k21).kp k25).ch k28 (Nat.ne_of_lt (Nat.lt_of_lt_of_le p14 (Nat.le_trans (Nat.le_refl w2.heap.size) p19)))).kp k33).ch k42 (Nat.ne_of_lt (Nat.lt_of_lt_of_le p14 (Nat.le_trans (Nat.le_refl w2.heap.size) p19)))).ch k47 (Nat.ne_of_lt (Nat.lt_of_lt_of_le p14 (Nat.le_trans (Nat.le_refl w2.heap.size) p19))))
 refine st (va [(vi ((F_laws_toAddr x_a.A).Host)), (vi ((F_laws_toAddr x_a.A).Port)), (vs a34 (cpB x_a.Draw).length c35), (vi x_a.Until)]) [(vi ((F_laws_toAddr x_a.A).Host)), (vi ((F_laws_toAddr x_a.A).Port)), (vs a34 (cpB x_a.Draw).length c35), (vi x_a.Until)] [(vi ((F_laws_toAddr x_a.A).Host)), (vi ((F_laws_toAddr x_a.A).Port)), (vs a34 (cpB x_a.Draw).length c35), (vi x_a.Until)] wN sizeOf_54 b51 ?_
 intro w9 k52 b53 z54
 have m55 := m50.ext k52 (fun k hk => by subst hk; exact Nat.le_trans k9.size p13)
 refine wl_nil <| wq_then <| wc_ret ?_
 have o56 := (own_ch (own_ch (own_ch o36 k42 (fun g hg hlt hk => by have h1 := (own_lt o36 g hg).1; have h2 := Nat.lt_of_lt_of_le p20 (Nat.le_trans k25.size k28.size); omega)) k47 (fun g hg hlt hk => by have h1 := (own_lt o36 g hg).1; have h2 := Nat.lt_of_lt_of_le p20 (Nat.le_trans k25.size k28.size); omega)) k52 (fun g hg hlt hk => by have h1 := (own_lt o36 g hg).1; have h2 := Nat.lt_of_lt_of_le p14 (t3 k21.size k25.size k28.size); omega))
 refine ret_1 (.inl rfl) (va [(vi ((F_laws_toAddr x_a.A).Host)), (vi ((F_laws_toAddr x_a.A).Port)), (vs a34 (cpB x_a.Draw).length c35), (vi x_a.Until)]) rfl (rv_c [(vi ((F_laws_toAddr x_a.A).Host)), (vi ((F_laws_toAddr x_a.A).Port)), (vs a34 (cpB x_a.Draw).length c35), (vi x_a.Until)] rfl b53 isAgg_54 sizeOf_54) ?_
 refine ⟨m55.keep0, ?_⟩
 have hF57 : F_laws_toCand x_a = { A := (F_laws_toAddr x_a.A), Draw := (cpB x_a.Draw), Until := x_a.Until : PCand } := by rfl
 rw [hF57]
 exact ⟨_, _, rfl, (own_lo o56 (t5 k9.size k15.size k21.size k25.size k28.size)), s37, ⟨trivial, trivial⟩⟩

theorem slTy_57 : SlTy Try.prog 57 54 4 48 (va [(vi 0), (vi 0), (vs none 0 0), (vi 0)]) := slTy Try.underlying57 (by kernel_rfl) rfl rfl
def R_49 (w : World) (v : Value) (x : (List PCand)) : Prop := ∃ (a1 : Option Addr) (c1 : Nat), v = .slice a1 x.length c1 ∧ RLv LT_166 w 1073741824 a1 x.length c1 x ∧ x.length ≤ 1073741824
def O_57 (w : World) (lo : Nat) (v : Value) (x : (List PCand)) : Prop := ∃ (a1 : Option Addr) (c1 : Nat), v = .slice a1 x.length c1 ∧ OLv LT_54 w lo w.heap.size a1 x.length c1 x ∧ x.length ≤ 1073741824 ∧ Aps [(a1, c1)]
theorem mR_166 {w : World} {x : PCand} {a1 : Option Addr} {c1 : Nat} (h1 : Rd w 1 (.slice a1 x.Draw.length c1) x.Draw.length (x.Draw.map bV)) (l1 : x.Draw.length ≤ 1073741824) : R_166 w (va (L_166 x a1 c1)) x := ⟨_, _, rfl, h1, l1⟩
theorem C_laws_toCandS (w0 : World) (v_x_a : Value) (x_a : List PCand) (r_x_a : R_49 w0 v_x_a x_a)  : Fn Try.prog 99 #[v_x_a] w0 (fun v w' => Keep w0 w' ∧ O_57 w' w0.heap.size v (cpL x_a)) := by
 obtain ⟨a1, c2, rfl, r3, s4⟩ := r_x_a
 refine fn_of (n := 23) (l := [(vs a1 x_a.length c2), U, U, U, U, U, U, U, U, U, U, U, U, U, U, U, U, U, U, U, U, U, U]) Try.func99 rfl rfl (by kernel_rfl) rfl ?_
 refine sr ?_
 refine ag (vs none 0 0) wN ?_
 refine nx ?_
 refine mv (vs a1 x_a.length c2) wN ?_
 obtain ⟨y6, r7⟩ := RLv.row r3
 refine ln wN slTy_49 r7 ?_
 refine wl_makeL LT_54 z_PCand [(none, 0)] (x_a.length) wN slTy_57 rfl rfl (fun w lo => ⟨⟨own_nil _ _ _ _, Nat.zero_le _⟩, trivial⟩) (by simp) (x_a.length : Int) rfl (by omega) ?_
 intro a8 c9 w1 k10 o11
 have m12 := (Ch.base w0).extk k10
 obtain ⟨y14, o15⟩ := OLv.ow o11
 refine ag (vs a8 (List.replicate x_a.length z_PCand).length c9) wN ?_
 refine wl_nil <| wq_then <| wc_seq <| sr ?_
 refine ag (vi 0) wN ?_
 refine wl_nil <| wq_then <| wc_block ?_
 have hE17 : ((List.replicate x_a.length z_PCand) : List (PCand)) = x_a.take 0 ++ List.replicate (x_a.length - 0) z_PCand := by first | exact cp_next (by omega) | simp
 refine wc_normQ (fun e => [e 0, e 1, e 2, e 3, (vi ((0 : Nat) : Int)), e 5, e 6, e 7, e 8, e 9, e 10, e 11, e 12, e 13, e 14, e 15, e 16, e 17, e 18, e 19, e 20, e 21, e 22]) rfl ⟨rfl, rfl, rfl, rfl, (congrArg (Value.int .i64) (show (0 : Int) = ((0 : Nat) : Int) by omega)), rfl, rfl, rfl, rfl, rfl, rfl, rfl, rfl, rfl, rfl, rfl, rfl, rfl, rfl, rfl, rfl, rfl, rfl, trivial⟩ ?_
 refine wc_loop (fun e' w' => ∃ (k : Nat) (u16 : Nat → Value), e' = lst [(vs a1 x_a.length c2), (u16 0), (vs none 0 0), (vs a8 (List.replicate x_a.length z_PCand).length c9), (vi ((k : Nat) : Int)), (u16 1), (u16 2), (u16 3), (u16 4), (u16 5), (u16 6), (u16 7), (u16 8), (u16 9), (u16 10), (u16 11), (u16 12), (u16 13), (u16 14), (u16 15), (u16 16), (u16 17), U] ∧ Ch (fun k => w0.heap.size ≤ k) w0 w' ∧ Ch (fun k => w0.heap.size ≤ k) w1 w' ∧ k ≤ x_a.length ∧ OLv LT_54 w' w0.heap.size w'.heap.size a8 ((List.replicate x_a.length z_PCand).length) c9 (x_a.take k ++ List.replicate (x_a.length - k) z_PCand)) (fun e' _ => x_a.length - ((intOf (e' 4))).toNat) ?_ ?_
 ·exact ⟨0, (unL [U, _, _, _, U, U, U, U, U, U, U, U, U, U, U, U, U, U]), rfl, m12, (Ch.refl (fun k => w0.heap.size ≤ k) w1), (by omega), (by rw [← hE17]; exact (OLv.now o11))⟩
 ·rintro _ w2 ⟨k, u16, rfl, m18, k19, i20, o21⟩
  refine wc_seq <| sr ?_
  refine mv (vi ((k : Nat) : Int)) wN ?_
  refine mv (vs a1 x_a.length c2) wN ?_
  obtain ⟨y22, r23⟩ := RLv.row (r3.from0 m18)
  refine ln wN slTy_49 r23 ?_
  refine pu (vb (decide (((k : Nat) : Int) < (x_a.length : Int)))) wN ?_
  refine wl_nil <| wq_then ?_
  rcases bf (decide (((k : Nat) : Int) < (x_a.length : Int))) with h24 | h24
  ·have q55 := of_decide_eq_false h24
   refine cf h24 ?_
   refine wc_exit <| wq_then_exit <| wq_then_exit <| wq_blk_exit <| wq_then <| sr ?_
   refine mv (vs a8 (List.replicate x_a.length z_PCand).length c9) wN ?_
   refine ag (vs a8 (List.replicate x_a.length z_PCand).length c9) wN ?_
   refine wl_nil <| wq_then <| wc_ret ?_
   refine ret_1 (.inl rfl) (vs a8 (List.replicate x_a.length z_PCand).length c9) rfl rfl ?_
   refine ⟨m18.keep0, ?_⟩
   have hF56 : cpL x_a = (x_a.take k ++ List.replicate (x_a.length - k) z_PCand) := by exact cpL_end (by omega)
   rw [hF56]
   have hN57 : (List.replicate x_a.length z_PCand).length = ((x_a.take k ++ List.replicate (x_a.length - k) z_PCand)).length := by first | (simp only [List.length_append, List.length_take, List.length_replicate, List.length_set, List.length_map]; done) | (simp only [List.length_append, List.length_take, List.length_replicate, List.length_set, List.length_map]; omega)
   rw [hN57] at o21 ⊢
   exact ⟨_, _, rfl, (OLv.now (OLv.low o21 (Nat.le_refl w0.heap.size))), (by rw [← hN57]; rw [List.length_replicate]; first | assumption | omega), ⟨trivial, trivial⟩⟩
  have q25 := of_decide_eq_true h24
  refine ct h24 ?_
  refine wc_skip <| wq_then <| wc_seq <| wc_block <| wc_region ?_
  refine mv (vs a8 (List.replicate x_a.length z_PCand).length c9) wN ?_
  refine mv (vi ((k : Nat) : Int)) wN ?_
  refine mv (vs a1 x_a.length c2) wN ?_
  refine mv (vi ((k : Nat) : Int)) wN ?_
  obtain ⟨y26, r27⟩ := RLv.row (r3.from0 m18)
  refine wl_index wN ((k : Nat) : Int) rfl rfl rfl slTy_49 rfl rfl r27 (by first | omega | (simp only [List.length_cons, List.length_nil, List.length_replicate, List.length_append, List.length_take, List.length_set, List.length_map]; omega)) (by first | omega | (simp only [List.length_cons, List.length_nil, List.length_replicate, List.length_append, List.length_take, List.length_set, List.length_map]; omega)) ?_
  obtain ⟨y28, l29, r30, e31, u32⟩ := RLv.el z_PCand (i := k) r3 (by first | omega | (simp only [List.length_cons, List.length_nil, List.length_replicate, List.length_append, List.length_take, List.length_set, List.length_map]; omega))
  obtain ⟨a33, c34, l38, rfl, r35, s36, u39⟩ := SubR.c u32
  obtain rfl := SubR.n u39
  refine wl_loadEN [(vi (((x_a.getD k z_PCand).A).Host)), (vi (((x_a.getD k z_PCand).A).Port)), (vs a33 (x_a.getD k z_PCand).Draw.length c34), (vi ((x_a.getD k z_PCand).Until))] wN rfl rfl rfl rfl isAgg_166 sizeOf_166 (r30.from0 m18) (by first | omega | (simp only [List.length_cons, List.length_nil, List.length_replicate, List.length_append, List.length_take, List.length_set, List.length_map]; omega)) ((part_of (off := 0) (n := 4) e31 (by first | rfl | simp | omega) (by decide)).trans rfl) ?_
  refine cl wN (C_laws_toCand w2 _ (x_a.getD k z_PCand) (mR_166 (r35.from0 m18) s36)) ?_
  rintro _ w3 ⟨k40, ⟨a41, c42, rfl, o43, s44, ap46⟩⟩
  have m47 := m18.extk k40
  have o50 := (OLv.kp o21 k40)
  obtain ⟨y48, r49⟩ := RLv.row (OLv.rl o50)
  refine wl_index wN ((k : Nat) : Int) rfl rfl rfl slTy_57 rfl rfl r49 (by first | omega | (simp only [List.length_cons, List.length_nil, List.length_replicate, List.length_append, List.length_take, List.length_set, List.length_map]; omega)) (by first | omega | (simp only [List.length_cons, List.length_nil, List.length_replicate, List.length_append, List.length_take, List.length_set, List.length_map]; omega)) ?_
  refine wl_setL z_PCand (k) (F_laws_toCand (x_a.getD k z_PCand)) [(a41, c42)] wN o50 ⟨⟨o43, s44⟩, trivial⟩ ⟨trivial, trivial⟩ (Nat.le_refl _) (Nat.le_trans k10.size k19.size) (by first | omega | (simp only [List.length_cons, List.length_nil, List.length_replicate, List.length_append, List.length_take, List.length_set, List.length_map]; omega)) (us := (L_54 (F_laws_toCand (x_a.getD k z_PCand)) a41 c42)) rfl sizeOf_54 ?_ (by first | rfl | simp | omega)
  intro w4 k51 o52
  have m53 := m47.ext k51 (fun k hk => Nat.le_trans (Nat.le_refl w0.heap.size) (own_lt o15 k hk).1)
  refine wl_nil <| wq_blk_normal <| wq_then <| wc_region ?_
  refine mv (vi ((k : Nat) : Int)) wN ?_
  refine ar (((k : Nat) : Int) + 1) wN ?_
  refine ag (vi (((k : Nat) : Int) + 1)) wN ?_
  refine wl_nil ?_
  have hE54 : (((x_a.take k ++ List.replicate (x_a.length - k) z_PCand).set k (F_laws_toCand (x_a.getD k z_PCand))) : List (PCand)) = x_a.take (k + 1) ++ List.replicate (x_a.length - (k + 1)) z_PCand := by first | exact cp_next (by omega) | simp
  refine wq_loopQ (w0 := w2) (fun e => [e 0, e 1, e 2, e 3, (vi (((k + 1) : Nat) : Int)), e 5, e 6, e 7, e 8, e 9, e 10, e 11, e 12, e 13, e 14, e 15, e 16, e 17, e 18, e 19, e 20, e 21, e 22]) rfl ?_ ?_ ?_
  · exact ⟨rfl, rfl, rfl, rfl, (congrArg (Value.int .i64) (show ((((k : Nat) : Int) + 1) : Int) = (((k + 1) : Nat) : Int) by omega)), rfl, rfl, rfl, rfl, rfl, rfl, rfl, rfl, rfl, rfl, rfl, rfl, rfl, rfl, rfl, rfl, rfl, rfl, trivial⟩
  · exact ⟨(k + 1), (unL [_, _, _, _, _, _, _, _, _, _, _, _, _, _, _, _, _, _]), rfl, m53, ((((Ch.refl (fun k => w0.heap.size ≤ k) w1).ext k19 (fun k hk => Nat.le_trans (Nat.le_refl w0.heap.size) hk)).extk k40).ext k51 (fun k hk => Nat.le_trans (Nat.le_refl w0.heap.size) (own_lt o15 k hk).1)), (by omega), (by rw [← hE54]; exact (OLv.now o52))⟩
  · show x_a.length - ((((k + 1) : Nat) : Int)).toNat < x_a.length - (((k : Nat) : Int)).toNat; omega

theorem zero_59 : ∀ w, (zeroValue 59).run Try.prog w = .ok (va [(vi 0), (vi 0), (vs none 0 0)]) w := fun w => by kernel_rfl
theorem sizeOf_57 : ∀ w, (sizeOf 57).run Try.prog w = .ok 1 w := fun w => by kernel_rfl
theorem isAgg_59 : ∀ w, (isAgg 59).run Try.prog w = .ok true w := fun w => by kernel_rfl
theorem sizeOf_59 : ∀ w, (sizeOf 59).run Try.prog w = .ok 3 w := fun w => by kernel_rfl
def R_51 (w : World) (v : Value) (x : (PPaths)) : Prop := ∃ (a1 : Option Addr) (c1 : Nat), v = .agg #[.int .i64 x.At.Host, .int .i64 x.At.Port, .slice a1 x.Cands.length c1] ∧ RLv LT_166 w 1073741824 a1 x.Cands.length c1 x.Cands ∧ x.Cands.length ≤ 1073741824
def O_59 (w : World) (lo : Nat) (v : Value) (x : (PPaths)) : Prop := ∃ (a1 : Option Addr) (c1 : Nat), v = .agg #[.int .i64 x.At.Host, .int .i64 x.At.Port, .slice a1 x.Cands.length c1] ∧ OLv LT_54 w lo w.heap.size a1 x.Cands.length c1 x.Cands ∧ x.Cands.length ≤ 1073741824 ∧ Aps [(a1, c1)]
theorem mR_49 {w : World} {x : List PCand} {a1 : Option Addr} {c1 : Nat} (h1 : RLv LT_166 w 1073741824 a1 x.length c1 x) (l1 : x.length ≤ 1073741824) : R_49 w (vs a1 x.length c1) x := ⟨_, _, rfl, h1, l1⟩
def F_laws_toPaths (x_a : PPaths) : (PPaths) := { At := (F_laws_toAddr x_a.At), Cands := (cpL x_a.Cands) : PPaths }
theorem C_laws_toPaths (w0 : World) (v_x_a : Value) (x_a : PPaths) (r_x_a : R_51 w0 v_x_a x_a)  : Fn Try.prog 33 #[v_x_a] w0 (fun v w' => Keep w0 w' ∧ O_59 w' w0.heap.size v (F_laws_toPaths x_a)) := by
 obtain ⟨a1, c2, rfl, r3, s4⟩ := r_x_a
 refine fn_of (n := 13) (l := [(va (L_59 x_a a1 c2)), U, U, U, U, U, U, U, U, U, U, U, U]) Try.func33 rfl rfl (by kernel_rfl) rfl ?_
 refine sr ?_
 refine bx (L_59 x_a a1 c2) wN ?_
 intro g6 w1 p7 p8 k9 b10
 have m11 := (Ch.base w0).extk k9
 refine al [(vi 0), (vi 0), (vs none 0 0)] wN zero_59 ?_
 intro g12 w2 p13 p14 k15 b16
 have m17 := m11.extk k15
 refine nx ?_
 refine al [(vi 0), (vi 0), (vs none 0 0)] wN zero_59 ?_
 intro g18 w3 p19 p20 k21 b22
 have m23 := m17.extk k21
 refine nx ?_
 refine pu (vp g6 0) wN ?_
 have b24 := ((b10.kp k15).kp k21)
 refine lN (L_26 x_a.At) wN isAgg_48 sizeOf_48 b24 ?_
 refine cl wN (C_laws_toAddr w3 _ x_a.At (mR_48)) ?_
 rintro _ w4 ⟨k25, rfl⟩
 have m26 := m23.extk k25
 refine pu (vp g18 0) wN ?_
 have b27 := (b22.kp k25)
 refine st (va (L_26 (F_laws_toAddr x_a.At))) (L_26 (F_laws_toAddr x_a.At)) [(vi ((F_laws_toAddr x_a.At).Host)), (vi ((F_laws_toAddr x_a.At).Port)), (vs none 0 0)] wN sizeOf_26 b27 ?_
 intro w5 k28 b29 z30
 have m31 := m26.ext k28 (fun k hk => by subst hk; exact Nat.le_trans (Nat.le_trans k9.size k15.size) p19)
 refine nx ?_
 refine pu (vp g6 2) wN ?_
 have b32 := ((b24.kp k25).ch k28 (Nat.ne_of_lt (Nat.lt_of_lt_of_le p8 (Nat.le_trans k15.size p19))))
 refine ld (vs a1 x_a.Cands.length c2) wN isAgg_49 b32 ?_
 refine cl wN (C_laws_toCandS w5 _ x_a.Cands (mR_49 (r3.from0 m31) s4)) ?_
 rintro _ w6 ⟨k33, ⟨a34, c35, rfl, o36, s37, ap39⟩⟩
 have m40 := m31.extk k33
 obtain ⟨y41, o42⟩ := OLv.ow o36
 refine pu (vp g18 2) wN ?_
 have b43 := (b29.kp k33)
 refine st (vs a34 (cpL x_a.Cands).length c35) [(vs a34 (cpL x_a.Cands).length c35)] [(vi ((F_laws_toAddr x_a.At).Host)), (vi ((F_laws_toAddr x_a.At).Port)), (vs a34 (cpL x_a.Cands).length c35)] wN sizeOf_57 b43 ?_
 intro w7 k44 b45 z46
 have m47 := m40.ext k44 (fun k hk => by subst hk; exact Nat.le_trans (Nat.le_trans k9.size k15.size) p19)
 refine nx ?_
 refine lN [(vi ((F_laws_toAddr x_a.At).Host)), (vi ((F_laws_toAddr x_a.At).Port)), (vs a34 (cpL x_a.Cands).length c35)] wN isAgg_59 sizeOf_59 b45 ?_
 have b48 := (((((b16.kp k21).kp k25).ch k28 (Nat.ne_of_lt (Nat.lt_of_lt_of_le p14 (Nat.le_trans (Nat.le_refl w2.heap.size) p19)))).kp k33).ch k44 (Nat.ne_of_lt (Nat.lt_of_lt_of_le p14 (Nat.le_trans (Nat.le_refl w2.heap.size) p19))))
 refine st (va [(vi ((F_laws_toAddr x_a.At).Host)), (vi ((F_laws_toAddr x_a.At).Port)), (vs a34 (cpL x_a.Cands).length c35)]) [(vi ((F_laws_toAddr x_a.At).Host)), (vi ((F_laws_toAddr x_a.At).Port)), (vs a34 (cpL x_a.Cands).length c35)] [(vi ((F_laws_toAddr x_a.At).Host)), (vi ((F_laws_toAddr x_a.At).Port)), (vs a34 (cpL x_a.Cands).length c35)] wN sizeOf_59 b48 ?_
 intro w8 k49 b50 z51
 have m52 := m47.ext k49 (fun k hk => by subst hk; exact Nat.le_trans k9.size p13)
 refine wl_nil <| wq_then <| wc_ret ?_
 have o53 := (OLv.ch (OLv.ch o36 k44 (fun g h1 h2 hk => by have h3 := Nat.lt_of_lt_of_le p20 (Nat.le_trans k25.size k28.size); omega)) k49 (fun g h1 h2 hk => by have h3 := Nat.lt_of_lt_of_le p14 (t3 k21.size k25.size k28.size); omega))
 refine ret_1 (.inl rfl) (va [(vi ((F_laws_toAddr x_a.At).Host)), (vi ((F_laws_toAddr x_a.At).Port)), (vs a34 (cpL x_a.Cands).length c35)]) rfl (rv_c [(vi ((F_laws_toAddr x_a.At).Host)), (vi ((F_laws_toAddr x_a.At).Port)), (vs a34 (cpL x_a.Cands).length c35)] rfl b50 isAgg_59 sizeOf_59) ?_
 refine ⟨m52.keep0, ?_⟩
 have hF54 : F_laws_toPaths x_a = { At := (F_laws_toAddr x_a.At), Cands := (cpL x_a.Cands) : PPaths } := by rfl
 rw [hF54]
 exact ⟨_, _, rfl, (OLv.now (OLv.low o53 (t5 k9.size k15.size k21.size k25.size k28.size))), s37, ⟨trivial, trivial⟩⟩

def O_4 (w : World) (lo : Nat) (v : Value) (x : (Bool)) : Prop := v = .bool x
def F_spec_l1In (x_x : Int) (x_least : Int) (x_most : Int) : (Bool) := bif (decide (x_least ≤ x_x)) then (decide (x_x ≤ x_most)) else (false)
theorem C_spec_l1In (w0 : World) (x_x : Int) (x_least : Int) (x_most : Int)  : Fn Try.prog 86 #[(vi x_x), (vi x_least), (vi x_most)] w0 (fun v w' => Keep w0 w' ∧ O_4 w' w0.heap.size v (F_spec_l1In x_x x_least x_most)) := by
 refine fn_of (n := 15) (l := [(vi x_x), (vi x_least), (vi x_most), U, U, U, U, U, U, U, U, U, U, U, U]) Try.func86 rfl rfl (by kernel_rfl) rfl ?_
 refine sr ?_
 refine ag (vb false) wN ?_
 refine nx ?_
 refine mv (vi x_x) wN ?_
 refine mv (vi x_least) wN ?_
 refine pu (vb (decide (x_least ≤ x_x))) wN ?_
 refine mv (vb (decide (x_least ≤ x_x))) wN ?_
 rcases bf (decide (x_least ≤ x_x)) with h1 | h1
 ·have q4 := of_decide_eq_false h1
  refine sk h1 ?_
  refine sk h1 ?_
  refine sk h1 ?_
  refine pf (vb false) wN h1 ?_
  refine ag (vb false) wN ?_
  refine wl_nil <| wq_then <| wc_ret ?_
  refine ret_1 (.inl rfl) (vb false) rfl rfl ?_
  refine ⟨Ch.refl _ _, ?_⟩
  have hF5 : F_spec_l1In x_x x_least x_most = false := by simp only [F_spec_l1In, h1, cond_true, cond_false]
  rw [hF5]
  exact rfl
 have q2 := of_decide_eq_true h1
 refine mv (vi x_x) (wS h1) ?_
 refine mv (vi x_most) (wS h1) ?_
 refine pu (vb (decide (x_x ≤ x_most))) (wS h1) ?_
 refine pk (vb (decide (x_x ≤ x_most))) wN h1 ?_
 refine ag (vb (decide (x_x ≤ x_most))) wN ?_
 refine wl_nil <| wq_then <| wc_ret ?_
 refine ret_1 (.inl rfl) (vb (decide (x_x ≤ x_most))) rfl rfl ?_
 refine ⟨Ch.refl _ _, ?_⟩
 have hF3 : F_spec_l1In x_x x_least x_most = decide (x_x ≤ x_most) := by simp only [F_spec_l1In, h1, cond_true, cond_false]
 rw [hF3]
 exact rfl
theorem spec_l1In_t {n a b : Int} (h : F_spec_l1In n a b = true) : a ≤ n ∧ n ≤ b := by
  unfold F_spec_l1In at h
  by_cases h1 : a ≤ n <;> simp [h1] at h
  exact ⟨h1, h⟩
theorem spec_l1In_f {n a b : Int} (h : F_spec_l1In n a b = false) : n < a ∨ b < n := by
  unfold F_spec_l1In at h
  by_cases h1 : a ≤ n <;> simp [h1] at h <;> omega

def R_26 (w : World) (v : Value) (x : (PAddr)) : Prop := v = .agg #[.int .i64 x.Host, .int .i64 x.Port]
def F_spec_AddrOk (x_a : PAddr) : (Bool) := bif (F_spec_l1In x_a.Host 0 4294967295) then ((F_spec_l1In x_a.Port 0 65535)) else (false)
theorem C_spec_AddrOk (w0 : World) (v_x_a : Value) (x_a : PAddr) (r_x_a : R_26 w0 v_x_a x_a)  : Fn Try.prog 85 #[v_x_a] w0 (fun v w' => Keep w0 w' ∧ O_4 w' w0.heap.size v (F_spec_AddrOk x_a)) := by
 obtain rfl := r_x_a
 refine fn_of (n := 11) (l := [(va (L_26 x_a)), U, U, U, U, U, U, U, U, U, U]) Try.func85 rfl rfl (by kernel_rfl) rfl ?_
 refine sr ?_
 refine bx (L_26 x_a) wN ?_
 intro g1 w1 p2 p3 k4 b5
 have m6 := (Ch.base w0).extk k4
 refine ag (vb false) wN ?_
 refine nx ?_
 refine pu (vp g1 0) wN ?_
 refine ld (vi x_a.Host) wN isAgg_3 b5 ?_
 refine cl wN (C_spec_l1In w1 x_a.Host 0 4294967295) ?_
 rintro _ w2 ⟨k7, rfl⟩
 have m8 := m6.extk k7
 refine mv (vb (F_spec_l1In x_a.Host 0 4294967295)) wN ?_
 rcases bf (F_spec_l1In x_a.Host 0 4294967295) with h9 | h9
 ·have q15 := spec_l1In_f h9
  refine sk h9 ?_
  refine sk h9 ?_
  refine sk h9 ?_
  refine pf (vb false) wN h9 ?_
  refine ag (vb false) wN ?_
  refine wl_nil <| wq_then <| wc_ret ?_
  refine ret_1 (.inl rfl) (vb false) rfl rfl ?_
  refine ⟨m8.keep0, ?_⟩
  have hF16 : F_spec_AddrOk x_a = false := by simp only [F_spec_AddrOk, h9, cond_true, cond_false]
  rw [hF16]
  exact rfl
 have q10 := spec_l1In_t h9
 refine pu (vp g1 1) (wS h9) ?_
 have b11 := (b5.kp k7)
 refine ld (vi x_a.Port) (wS h9) isAgg_3 b11 ?_
 refine cl (wS h9) (C_spec_l1In w2 x_a.Port 0 65535) ?_
 rintro _ w3 ⟨k12, rfl⟩
 have m13 := m8.extk k12
 refine pk (vb (F_spec_l1In x_a.Port 0 65535)) wN h9 ?_
 refine ag (vb (F_spec_l1In x_a.Port 0 65535)) wN ?_
 refine wl_nil <| wq_then <| wc_ret ?_
 refine ret_1 (.inl rfl) (vb (F_spec_l1In x_a.Port 0 65535)) rfl rfl ?_
 refine ⟨m13.keep0, ?_⟩
 have hF14 : F_spec_AddrOk x_a = (F_spec_l1In x_a.Port 0 65535) := by simp only [F_spec_AddrOk, h9, cond_true, cond_false]
 rw [hF14]
 exact rfl

theorem isAgg_57 : ∀ w, (isAgg 57).run Try.prog w = .ok false w := fun w => by kernel_rfl
theorem guardt_26 : Try.prog.eqGuardType Try.prog.depth 26 = false := by kernel_rfl
theorem aggeq_26 (x0 y0 : Int) (x1 y1 : Int) (w : World) : (Op.equalIn 10000 26 (.agg #[.int .i64 x0, .int .i64 x1]) (.agg #[.int .i64 y0, .int .i64 y1])).run Try.prog w = .ok ((decide (x0 = y0) && decide (x1 = y1))) w := by
  rw [run_equalIn_struct w 9999 26 _ _ (by kernel_rfl) (by kernel_rfl)]
  simp [Program.fieldsOf, Op.eqFields, go_sem, Try.underlying3, Try.underlying26]
  by_cases h0 : x0 = y0 <;> by_cases h1 : x1 = y1 <;> simp [*]
theorem fieldAt_54_0 : ∀ a w, (Instr.fieldAt 54 (.pointer (some a)) 0).run Try.prog w = .ok (.pointer (some (a.add 0))) w := fun a w => by kernel_rfl
theorem mixed : Try.prog.follows .mixedOrders = true := by kernel_rfl
def R_59 (w : World) (v : Value) (x : (PPaths)) : Prop := ∃ (a1 : Option Addr) (c1 : Nat), v = .agg #[.int .i64 x.At.Host, .int .i64 x.At.Port, .slice a1 x.Cands.length c1] ∧ RLv LT_54 w 1073741824 a1 x.Cands.length c1 x.Cands ∧ x.Cands.length ≤ 1073741824
theorem mR_26 {w : World} {x : PAddr} : R_26 w (va (L_26 x)) x := rfl
def sPaJ (x_p : PPaths) (i j : Nat) : Bool := !(decide ((x_p.Cands.getD j z_PCand).A.Host = (x_p.Cands.getD i z_PCand).A.Host) && decide ((x_p.Cands.getD j z_PCand).A.Port = (x_p.Cands.getD i z_PCand).A.Port))
def sPaG (x_p : PPaths) (i : Nat) : Bool := (F_spec_AddrOk (x_p.Cands.getD i z_PCand).A) && ((decide (((x_p.Cands.getD i z_PCand).Draw.length : Int) = 12)) && ((F_spec_l1In (x_p.Cands.getD i z_PCand).Until 0 1000006) && ((!(decide ((x_p.Cands.getD i z_PCand).A.Host = x_p.At.Host) && decide ((x_p.Cands.getD i z_PCand).A.Port = x_p.At.Port))) && (allN (sPaJ x_p i) i))))
def sPa (x_p : PPaths) : Bool := bif F_spec_AddrOk x_p.At then (bif decide (3 < (x_p.Cands.length : Int)) then false else allN (sPaG x_p) x_p.Cands.length) else false
theorem C_spec_PathsOk (w0 : World) (v_x_p : Value) (x_p : PPaths) (r_x_p : R_59 w0 v_x_p x_p)  : Fn Try.prog 45 #[v_x_p] w0 (fun v w' => Keep w0 w' ∧ O_4 w' w0.heap.size v (sPa x_p)) := by
 obtain ⟨a1, c2, rfl, r3, s4⟩ := r_x_p
 refine fn_of (n := 65) (l := [(va (L_59 x_p a1 c2)), U, U, U, U, U, U, U, U, U, U, U, U, U, U, U, U, U, U, U, U, U, U, U, U, U, U, U, U, U, U, U, U, U, U, U, U, U, U, U, U, U, U, U, U, U, U, U, U, U, U, U, U, U, U, U, U, U, U, U, U, U, U, U, U]) Try.func45 rfl rfl (by kernel_rfl) rfl ?_
 refine sr ?_
 refine bx (L_59 x_p a1 c2) wN ?_
 intro g6 w1 p7 p8 k9 b10
 have m11 := (Ch.base w0).extk k9
 refine ag (vb false) wN ?_
 refine wl_nil <| wq_then <| wc_seq <| sr ?_
 refine pu (vp g6 0) wN ?_
 refine lN (L_26 x_p.At) wN isAgg_26 sizeOf_26 b10 ?_
 refine cl wN (C_spec_AddrOk w1 _ x_p.At (mR_26)) ?_
 rintro _ w2 ⟨k12, rfl⟩
 have m13 := m11.extk k12
 refine pu (vb (!(F_spec_AddrOk x_p.At))) wN ?_
 refine mv (vb (!(F_spec_AddrOk x_p.At))) wN ?_
 rcases bf (F_spec_AddrOk x_p.At) with h14 | h14
 ·refine sk (congrArg not h14) ?_
  refine sk (congrArg not h14) ?_
  refine sk (congrArg not h14) ?_
  refine sk (congrArg not h14) ?_
  refine pk (vb true) wN (congrArg not h14) ?_
  refine wl_nil <| wq_then ?_
  refine ct (Eq.refl true) ?_
  refine sr ?_
  refine ag (vb false) wN ?_
  refine wl_nil <| wq_then <| wc_ret <| wq_then_ret ?_
  refine ret_1 (.inl rfl) (vb false) rfl rfl ?_
  refine ⟨m13.keep0, ?_⟩
  have hF160 : sPa x_p = false := by simp [sPa, h14]
  rw [hF160]
  exact rfl
 refine pu (vp g6 2) (wS (congrArg not h14)) ?_
 have b16 := (b10.kp k12)
 refine ld (vs a1 x_p.Cands.length c2) (wS (congrArg not h14)) isAgg_57 b16 ?_
 obtain ⟨y17, r18⟩ := RLv.row (r3.from0 m13)
 refine ln (wS (congrArg not h14)) slTy_57 r18 ?_
 refine pu (vb (decide (3 < (x_p.Cands.length : Int)))) (wS (congrArg not h14)) ?_
 refine pf (vb (decide (3 < (x_p.Cands.length : Int)))) wN (congrArg not h14) ?_
 refine wl_nil <| wq_then ?_
 rcases bt (decide (3 < (x_p.Cands.length : Int))) with h19 | h19
 ·have q20 := of_decide_eq_true h19
  refine ct h19 ?_
  refine sr ?_
  refine ag (vb false) wN ?_
  refine wl_nil <| wq_then <| wc_ret <| wq_then_ret ?_
  refine ret_1 (.inl rfl) (vb false) rfl rfl ?_
  refine ⟨m13.keep0, ?_⟩
  have hF21 : sPa x_p = false := by simp [sPa, h14, h19]
  rw [hF21]
  exact rfl
 have q22 := of_decide_eq_false h19
 refine cf h19 ?_
 refine wc_skip <| wq_then <| wc_seq <| sr ?_
 refine ag (vi 0) wN ?_
 refine wl_nil <| wq_then <| wc_block ?_
 refine wc_normQ (fun e => [e 0, e 1, e 2, (vi ((0 : Nat) : Int)), e 4, e 5, e 6, e 7, e 8, e 9, e 10, e 11, e 12, e 13, e 14, e 15, e 16, e 17, e 18, e 19, e 20, e 21, e 22, e 23, e 24, e 25, e 26, e 27, e 28, e 29, e 30, e 31, e 32, e 33, e 34, e 35, e 36, e 37, e 38, e 39, e 40, e 41, e 42, e 43, e 44, e 45, e 46, e 47, e 48, e 49, e 50, e 51, e 52, e 53, e 54, e 55, e 56, e 57, e 58, e 59, e 60, e 61, e 62, e 63, e 64]) rfl ⟨rfl, rfl, rfl, (congrArg (Value.int .i64) (show (0 : Int) = ((0 : Nat) : Int) by omega)), rfl, rfl, rfl, rfl, rfl, rfl, rfl, rfl, rfl, rfl, rfl, rfl, rfl, rfl, rfl, rfl, rfl, rfl, rfl, rfl, rfl, rfl, rfl, rfl, rfl, rfl, rfl, rfl, rfl, rfl, rfl, rfl, rfl, rfl, rfl, rfl, rfl, rfl, rfl, rfl, rfl, rfl, rfl, rfl, rfl, rfl, rfl, rfl, rfl, rfl, rfl, rfl, rfl, rfl, rfl, rfl, rfl, rfl, rfl, rfl, rfl, trivial⟩ ?_
 refine wc_loop (fun e' w' => ∃ (k : Nat) (u23 : Nat → Value), e' = lst [(u23 0), (vp g6 0), (u23 1), (vi ((k : Nat) : Int)), (u23 2), (u23 3), (u23 4), (u23 5), (u23 6), (u23 7), (u23 8), (u23 9), (u23 10), (u23 11), (u23 12), (u23 13), (u23 14), (u23 15), (u23 16), (u23 17), (u23 18), (u23 19), (u23 20), (u23 21), (u23 22), (u23 23), (u23 24), (u23 25), (u23 26), (u23 27), (u23 28), (u23 29), (u23 30), (u23 31), (u23 32), (u23 33), (u23 34), (u23 35), (u23 36), (u23 37), (u23 38), (u23 39), (u23 40), (u23 41), (u23 42), (u23 43), (u23 44), (u23 45), (u23 46), (u23 47), (u23 48), (u23 49), (u23 50), (u23 51), (u23 52), (u23 53), (u23 54), (u23 55), (u23 56), (u23 57), (u23 58), (u23 59), (u23 60), (u23 61), (u23 62)] ∧ Ch (fun k => w0.heap.size ≤ k) w0 w' ∧ Ch (fun k => w2.heap.size ≤ k) w2 w' ∧ k ≤ x_p.Cands.length ∧ ∀ j, j < k → sPaG x_p j = true) (fun e' _ => x_p.Cands.length - ((intOf (e' 3))).toNat) ?_ ?_
 ·exact ⟨0, (unL [_, _, U, U, _, _, _, _, _, _, _, _, _, _, U, U, U, U, U, U, U, U, U, U, U, U, U, U, U, U, U, U, U, U, U, U, U, U, U, U, U, U, U, U, U, U, U, U, U, U, U, U, U, U, U, U, U, U, U, U, U, U, U]), rfl, m13, (Ch.refl (fun k => w2.heap.size ≤ k) w2), (by omega), (by first | (intro j hj; omega) | (have hy := allN_t (f := sPaJ x_p k) (n := k) (k := j) (by assumption) (by omega); exact allN_next (by assumption) (by simp only [sPaG, hy, h14, h19]; simp)))⟩
 ·rintro _ w3 ⟨k, u23, rfl, m24, k25, i26, i27⟩
  refine wc_seq <| sr ?_
  refine mv (vi ((k : Nat) : Int)) wN ?_
  refine pu (vp g6 2) wN ?_
  have b28 := (b16.ch k25 (Nat.not_le.2 (Nat.lt_of_lt_of_le p8 k12.size)))
  refine ld (vs a1 x_p.Cands.length c2) wN isAgg_57 b28 ?_
  obtain ⟨y29, r30⟩ := RLv.row (r3.from0 m24)
  refine ln wN slTy_57 r30 ?_
  refine pu (vb (decide (((k : Nat) : Int) < (x_p.Cands.length : Int)))) wN ?_
  refine wl_nil <| wq_then ?_
  rcases bf (decide (((k : Nat) : Int) < (x_p.Cands.length : Int))) with h31 | h31
  ·have q157 := of_decide_eq_false h31
   refine cf h31 ?_
   refine wc_exit <| wq_then_exit <| wq_then_exit <| wq_blk_exit <| wq_then <| sr ?_
   refine ag (vb true) wN ?_
   refine wl_nil <| wq_then <| wc_ret ?_
   refine ret_1 (.inl rfl) (vb true) rfl rfl ?_
   refine ⟨m24.keep0, ?_⟩
   have hF158 : sPa x_p = true := by have hz := allN_t (f := sPaG x_p) (n := x_p.Cands.length) (k := k) (by assumption) (by omega); simp only [sPa, h14, h19, h31, hz]; simp
   rw [hF158]
   exact rfl
  have q32 := of_decide_eq_true h31
  refine ct h31 ?_
  refine wc_skip <| wq_then <| wc_seq <| wc_block <| sr ?_
  refine pu (vp g6 2) wN ?_
  refine ld (vs a1 x_p.Cands.length c2) wN isAgg_57 b28 ?_
  refine mv (vi ((k : Nat) : Int)) wN ?_
  obtain ⟨y33, r34⟩ := RLv.row (r3.from0 m24)
  refine wl_index wN ((k : Nat) : Int) rfl rfl rfl slTy_57 rfl rfl r34 (by first | omega | (simp only [List.length_cons, List.length_nil, List.length_replicate, List.length_append, List.length_take, List.length_set, List.length_map]; omega)) (by first | omega | (simp only [List.length_cons, List.length_nil, List.length_replicate, List.length_append, List.length_take, List.length_set, List.length_map]; omega)) ?_
  obtain ⟨y35, l36, r37, e38, u39⟩ := RLv.el z_PCand (i := k) r3 (by first | omega | (simp only [List.length_cons, List.length_nil, List.length_replicate, List.length_append, List.length_take, List.length_set, List.length_map]; omega))
  obtain ⟨a40, c41, l45, rfl, r42, s43, u46⟩ := SubR.c u39
  obtain rfl := SubR.n u46
  refine wl_loadEN [(vi (((x_p.Cands.getD k z_PCand).A).Host)), (vi (((x_p.Cands.getD k z_PCand).A).Port)), (vs a40 (x_p.Cands.getD k z_PCand).Draw.length c41), (vi ((x_p.Cands.getD k z_PCand).Until))] wN rfl rfl rfl rfl isAgg_54 sizeOf_54 (r37.from0 m24) (by first | omega | (simp only [List.length_cons, List.length_nil, List.length_replicate, List.length_append, List.length_take, List.length_set, List.length_map]; omega)) ((part_of (off := 0) (n := 4) e38 (by first | rfl | simp | omega) (by decide)).trans rfl) ?_
  refine al [(vi 0), (vi 0), (vs none 0 0), (vi 0)] wN zero_54 ?_
  intro g47 w4 p48 p49 k50 b51
  have m52 := m24.extk k50
  refine st (va [(vi (((x_p.Cands.getD k z_PCand).A).Host)), (vi (((x_p.Cands.getD k z_PCand).A).Port)), (vs a40 (x_p.Cands.getD k z_PCand).Draw.length c41), (vi ((x_p.Cands.getD k z_PCand).Until))]) [(vi (((x_p.Cands.getD k z_PCand).A).Host)), (vi (((x_p.Cands.getD k z_PCand).A).Port)), (vs a40 (x_p.Cands.getD k z_PCand).Draw.length c41), (vi ((x_p.Cands.getD k z_PCand).Until))] [(vi (((x_p.Cands.getD k z_PCand).A).Host)), (vi (((x_p.Cands.getD k z_PCand).A).Port)), (vs a40 (x_p.Cands.getD k z_PCand).Draw.length c41), (vi ((x_p.Cands.getD k z_PCand).Until))] wN sizeOf_54 b51 ?_
  intro w5 k53 b54 z55
  have m56 := m52.ext k53 (fun k hk => by subst hk; exact Nat.le_trans (t3 k9.size k12.size k25.size) p48)
  refine wl_nil <| wq_then <| wc_seq <| sr ?_
  refine pu (vp g47 0) wN ?_
  refine lN (L_26 ((x_p.Cands.getD k z_PCand).A)) wN isAgg_26 sizeOf_26 b54 ?_
  refine cl wN (C_spec_AddrOk w5 _ ((x_p.Cands.getD k z_PCand).A) (mR_26)) ?_
  rintro _ w6 ⟨k57, rfl⟩
  have m58 := m56.extk k57
  refine pu (vb (!(F_spec_AddrOk ((x_p.Cands.getD k z_PCand).A)))) wN ?_
  refine mv (vb (!(F_spec_AddrOk ((x_p.Cands.getD k z_PCand).A)))) wN ?_
  rcases bf (F_spec_AddrOk ((x_p.Cands.getD k z_PCand).A)) with h59 | h59
  ·refine sk (congrArg not h59) ?_
   refine sk (congrArg not h59) ?_
   refine sk (congrArg not h59) ?_
   refine sk (congrArg not h59) ?_
   refine pk (vb true) wN (congrArg not h59) ?_
   refine mv (vb true) wN ?_
   refine sk (Eq.refl true) ?_
   refine sk (Eq.refl true) ?_
   refine sk (Eq.refl true) ?_
   refine sk (Eq.refl true) ?_
   refine pk (vb true) wN (Eq.refl true) ?_
   refine mv (vb true) wN ?_
   refine sk (Eq.refl true) ?_
   refine sk (Eq.refl true) ?_
   refine sk (Eq.refl true) ?_
   refine sk (Eq.refl true) ?_
   refine sk (Eq.refl true) ?_
   refine pk (vb true) wN (Eq.refl true) ?_
   refine wl_nil <| wq_then ?_
   refine ct (Eq.refl true) ?_
   refine sr ?_
   refine ag (vb false) wN ?_
   refine wl_nil <| wq_then <| wc_ret <| wq_then_ret <| wq_blk_ret <| wq_then_ret <| wq_then_ret <| wq_blk_ret <| wq_then_ret ?_
   refine ret_1 (.inl rfl) (vb false) rfl rfl ?_
   refine ⟨m58.keep0, ?_⟩
   have hF156 : sPa x_p = false := by have hz := allN_f (f := sPaG x_p) (n := x_p.Cands.length) (k := k) (by omega) (by simp only [sPaG, h14, h19, h31, h59]; simp); simp only [sPa, h14, h19, h31, h59, hz]; simp
   rw [hF156]
   exact rfl
  refine pu (vp g47 2) (wS (congrArg not h59)) ?_
  have b61 := (b54.kp k57)
  refine ld (vs a40 (x_p.Cands.getD k z_PCand).Draw.length c41) (wS (congrArg not h59)) isAgg_22 b61 ?_
  refine ln (wS (congrArg not h59)) slTy_22 (r42.from0 m58) ?_
  refine pu (vb (!(decide (((x_p.Cands.getD k z_PCand).Draw.length : Int) = 12)))) (wS (congrArg not h59)) ?_
  refine pf (vb (!(decide (((x_p.Cands.getD k z_PCand).Draw.length : Int) = 12)))) wN (congrArg not h59) ?_
  refine mv (vb (!(decide (((x_p.Cands.getD k z_PCand).Draw.length : Int) = 12)))) wN ?_
  rcases bf (decide (((x_p.Cands.getD k z_PCand).Draw.length : Int) = 12)) with h62 | h62
  ·have q153 := of_decide_eq_false h62
   refine sk (congrArg not h62) ?_
   refine sk (congrArg not h62) ?_
   refine sk (congrArg not h62) ?_
   refine sk (congrArg not h62) ?_
   refine pk (vb true) wN (congrArg not h62) ?_
   refine mv (vb true) wN ?_
   refine sk (Eq.refl true) ?_
   refine sk (Eq.refl true) ?_
   refine sk (Eq.refl true) ?_
   refine sk (Eq.refl true) ?_
   refine sk (Eq.refl true) ?_
   refine pk (vb true) wN (Eq.refl true) ?_
   refine wl_nil <| wq_then ?_
   refine ct (Eq.refl true) ?_
   refine sr ?_
   refine ag (vb false) wN ?_
   refine wl_nil <| wq_then <| wc_ret <| wq_then_ret <| wq_blk_ret <| wq_then_ret <| wq_then_ret <| wq_blk_ret <| wq_then_ret ?_
   refine ret_1 (.inl rfl) (vb false) rfl rfl ?_
   refine ⟨m58.keep0, ?_⟩
   have hF154 : sPa x_p = false := by have hz := allN_f (f := sPaG x_p) (n := x_p.Cands.length) (k := k) (by omega) (by simp only [sPaG, h14, h19, h31, h59, h62]; simp); simp only [sPa, h14, h19, h31, h59, h62, hz]; simp
   rw [hF154]
   exact rfl
  have q63 := of_decide_eq_true h62
  refine pu (vp g47 3) (wS (congrArg not h62)) ?_
  refine ld (vi ((x_p.Cands.getD k z_PCand).Until)) (wS (congrArg not h62)) isAgg_3 b61 ?_
  refine cl (wS (congrArg not h62)) (C_spec_l1In w6 ((x_p.Cands.getD k z_PCand).Until) 0 1000006) ?_
  rintro _ w7 ⟨k64, rfl⟩
  have m65 := m58.extk k64
  refine pu (vb (!(F_spec_l1In ((x_p.Cands.getD k z_PCand).Until) 0 1000006))) (wS (congrArg not h62)) ?_
  refine pf (vb (!(F_spec_l1In ((x_p.Cands.getD k z_PCand).Until) 0 1000006))) wN (congrArg not h62) ?_
  refine mv (vb (!(F_spec_l1In ((x_p.Cands.getD k z_PCand).Until) 0 1000006))) wN ?_
  rcases bf (F_spec_l1In ((x_p.Cands.getD k z_PCand).Until) 0 1000006) with h66 | h66
  ·have q151 := spec_l1In_f h66
   refine sk (congrArg not h66) ?_
   refine sk (congrArg not h66) ?_
   refine sk (congrArg not h66) ?_
   refine sk (congrArg not h66) ?_
   refine sk (congrArg not h66) ?_
   refine pk (vb true) wN (congrArg not h66) ?_
   refine wl_nil <| wq_then ?_
   refine ct (Eq.refl true) ?_
   refine sr ?_
   refine ag (vb false) wN ?_
   refine wl_nil <| wq_then <| wc_ret <| wq_then_ret <| wq_blk_ret <| wq_then_ret <| wq_then_ret <| wq_blk_ret <| wq_then_ret ?_
   refine ret_1 (.inl rfl) (vb false) rfl rfl ?_
   refine ⟨m65.keep0, ?_⟩
   have hF152 : sPa x_p = false := by have hz := allN_f (f := sPaG x_p) (n := x_p.Cands.length) (k := k) (by omega) (by simp only [sPaG, h14, h19, h31, h59, h62, h66]; simp); simp only [sPa, h14, h19, h31, h59, h62, h66, hz]; simp
   rw [hF152]
   exact rfl
  have q67 := spec_l1In_t h66
  refine pu (vp g47 0) (wS (congrArg not h66)) ?_
  have b68 := (b61.kp k64)
  refine lN (L_26 ((x_p.Cands.getD k z_PCand).A)) (wS (congrArg not h66)) isAgg_26 sizeOf_26 b68 ?_
  refine pu (vp g6 0) (wS (congrArg not h66)) ?_
  have b69 := ((((b28.kp k50).ch k53 (Nat.ne_of_lt (Nat.lt_of_lt_of_le p8 (Nat.le_trans (Nat.le_trans k12.size k25.size) p48)))).kp k57).kp k64)
  refine lN (L_26 x_p.At) (wS (congrArg not h66)) isAgg_26 sizeOf_26 b69 ?_
  refine wl_aggeq ((decide ((((x_p.Cands.getD k z_PCand).A).Host) = x_p.At.Host) && decide ((((x_p.Cands.getD k z_PCand).A).Port) = x_p.At.Port))) (wS (congrArg not h66)) rfl rfl rfl rfl rfl guardt_26 (aggeq_26 (((x_p.Cands.getD k z_PCand).A).Host) x_p.At.Host (((x_p.Cands.getD k z_PCand).A).Port) x_p.At.Port w7) ?_
  refine pf (vb (decide ((((x_p.Cands.getD k z_PCand).A).Host) = x_p.At.Host) && decide ((((x_p.Cands.getD k z_PCand).A).Port) = x_p.At.Port))) wN (congrArg not h66) ?_
  refine wl_nil <| wq_then ?_
  rcases bt (decide ((((x_p.Cands.getD k z_PCand).A).Host) = x_p.At.Host) && decide ((((x_p.Cands.getD k z_PCand).A).Port) = x_p.At.Port)) with h70 | h70
  ·refine ct h70 ?_
   refine sr ?_
   refine ag (vb false) wN ?_
   refine wl_nil <| wq_then <| wc_ret <| wq_then_ret <| wq_blk_ret <| wq_then_ret <| wq_then_ret <| wq_blk_ret <| wq_then_ret ?_
   refine ret_1 (.inl rfl) (vb false) rfl rfl ?_
   refine ⟨m65.keep0, ?_⟩
   have hF72 : sPa x_p = false := by have hz := allN_f (f := sPaG x_p) (n := x_p.Cands.length) (k := k) (by omega) (by simp only [sPaG, h14, h19, h31, h59, h62, h66, h70]; simp); simp only [sPa, h14, h19, h31, h59, h62, h66, h70, hz]; simp
   rw [hF72]
   exact rfl
  refine cf h70 ?_
  refine wc_skip <| wq_then <| sr ?_
  refine ag (vi 0) wN ?_
  refine wl_nil <| wq_then <| wc_block ?_
  refine wc_normQ (fun e => [e 0, e 1, e 2, e 3, e 4, (vi ((0 : Nat) : Int)), e 6, e 7, e 8, e 9, e 10, e 11, e 12, e 13, e 14, e 15, e 16, e 17, e 18, e 19, e 20, e 21, e 22, e 23, e 24, e 25, e 26, e 27, e 28, e 29, e 30, e 31, e 32, e 33, e 34, e 35, e 36, e 37, e 38, e 39, e 40, e 41, e 42, e 43, e 44, e 45, e 46, e 47, e 48, e 49, e 50, e 51, e 52, e 53, e 54, e 55, e 56, e 57, e 58, e 59, e 60, e 61, e 62, e 63, e 64]) rfl ⟨rfl, rfl, rfl, rfl, rfl, (congrArg (Value.int .i64) (show (0 : Int) = ((0 : Nat) : Int) by omega)), rfl, rfl, rfl, rfl, rfl, rfl, rfl, rfl, rfl, rfl, rfl, rfl, rfl, rfl, rfl, rfl, rfl, rfl, rfl, rfl, rfl, rfl, rfl, rfl, rfl, rfl, rfl, rfl, rfl, rfl, rfl, rfl, rfl, rfl, rfl, rfl, rfl, rfl, rfl, rfl, rfl, rfl, rfl, rfl, rfl, rfl, rfl, rfl, rfl, rfl, rfl, rfl, rfl, rfl, rfl, rfl, rfl, rfl, rfl, trivial⟩ ?_
  refine wc_loop (fun e' w' => ∃ (j : Nat) (u74 : Nat → Value), e' = lst [(u74 0), (vp g6 0), (u74 1), (vi ((k : Nat) : Int)), (vp g47 0), (vi ((j : Nat) : Int)), (u74 2), (u74 3), (u74 4), (u74 5), (u74 6), (u74 7), (u74 8), (u74 9), (u74 10), (u74 11), (vi ((k : Nat) : Int)), (vp g6 2), (vs a1 x_p.Cands.length c2), (vi (x_p.Cands.length : Int)), (vb (decide (((k : Nat) : Int) < (x_p.Cands.length : Int)))), (u23 19), (u23 20), (vp g6 2), (vs a1 x_p.Cands.length c2), (vi ((k : Nat) : Int)), (ve (vs a1 x_p.Cands.length c2) ((((k : Nat) : Int)).toNat * 4)), (va [(vi (((x_p.Cands.getD k z_PCand).A).Host)), (vi (((x_p.Cands.getD k z_PCand).A).Port)), (vs a40 (x_p.Cands.getD k z_PCand).Draw.length c41), (vi ((x_p.Cands.getD k z_PCand).Until))]), (vp g47 0), (va (L_26 ((x_p.Cands.getD k z_PCand).A))), (vb (F_spec_AddrOk ((x_p.Cands.getD k z_PCand).A))), (vb (!(F_spec_AddrOk ((x_p.Cands.getD k z_PCand).A)))), (vb (!(F_spec_AddrOk ((x_p.Cands.getD k z_PCand).A)))), (vp g47 2), (vs a40 (x_p.Cands.getD k z_PCand).Draw.length c41), (vi ((x_p.Cands.getD k z_PCand).Draw.length : Int)), (vb (!(decide (((x_p.Cands.getD k z_PCand).Draw.length : Int) = 12)))), (vb (!(decide (((x_p.Cands.getD k z_PCand).Draw.length : Int) = 12)))), (vb (!(decide (((x_p.Cands.getD k z_PCand).Draw.length : Int) = 12)))), (vp g47 3), (vi ((x_p.Cands.getD k z_PCand).Until)), (vb (F_spec_l1In ((x_p.Cands.getD k z_PCand).Until) 0 1000006)), (vb (!(F_spec_l1In ((x_p.Cands.getD k z_PCand).Until) 0 1000006))), (vb (!(F_spec_l1In ((x_p.Cands.getD k z_PCand).Until) 0 1000006))), (vb (!(F_spec_l1In ((x_p.Cands.getD k z_PCand).Until) 0 1000006))), (vp g47 0), (va (L_26 ((x_p.Cands.getD k z_PCand).A))), (vp g6 0), (va (L_26 x_p.At)), (vb (decide ((((x_p.Cands.getD k z_PCand).A).Host) = x_p.At.Host) && decide ((((x_p.Cands.getD k z_PCand).A).Port) = x_p.At.Port))), (vb (decide ((((x_p.Cands.getD k z_PCand).A).Host) = x_p.At.Host) && decide ((((x_p.Cands.getD k z_PCand).A).Port) = x_p.At.Port))), (u74 12), (u74 13), (u74 14), (u74 15), (u74 16), (u74 17), (u74 18), (u74 19), (u74 20), (u74 21), (u74 22), (u74 23), (u74 24), (u74 25)] ∧ Ch (fun k => w0.heap.size ≤ k) w0 w' ∧ Ch (fun k => w7.heap.size ≤ k) w7 w' ∧ j ≤ k ∧ ∀ m, m < j → sPaJ x_p k m = true) (fun e' _ => k - ((intOf (e' 5))).toNat) ?_ ?_
  ·exact ⟨0, (unL [_, _, _, _, _, _, _, _, _, _, _, _, _, _, _, _, _, _, _, _, _, _, _, _, _, _]), rfl, m65, (Ch.refl (fun k => w7.heap.size ≤ k) w7), (by omega), (by first | (intro m hm; omega) | exact allN_next (by assumption) (by simp only [sPaJ, h14, h19, h31, h59, h62, h66, h70]; simp))⟩
  ·rintro _ w8 ⟨j, u74, rfl, m75, k76, i77, i78⟩
   refine wc_seq <| sr ?_
   refine mv (vi ((j : Nat) : Int)) wN ?_
   refine mv (vi ((k : Nat) : Int)) wN ?_
   refine pu (vb (decide (((j : Nat) : Int) < ((k : Nat) : Int)))) wN ?_
   refine wl_nil <| wq_then ?_
   rcases bf (decide (((j : Nat) : Int) < ((k : Nat) : Int))) with h79 | h79
   ·have q150 := of_decide_eq_false h79
    refine cf h79 ?_
    refine wc_exit <| wq_then_exit <| wq_then_exit <| wq_blk_exit <| wq_blk_normal <| wq_then <| wc_region ?_
    refine mv (vi ((k : Nat) : Int)) wN ?_
    refine ar (((k : Nat) : Int) + 1) wN ?_
    refine ag (vi (((k : Nat) : Int) + 1)) wN ?_
    refine wl_nil ?_
    refine wq_loopQ (w0 := w3) (fun e => [e 0, e 1, e 2, (vi (((k + 1) : Nat) : Int)), e 4, e 5, e 6, e 7, e 8, e 9, e 10, e 11, e 12, e 13, e 14, e 15, e 16, e 17, e 18, e 19, e 20, e 21, e 22, e 23, e 24, e 25, e 26, e 27, e 28, e 29, e 30, e 31, e 32, e 33, e 34, e 35, e 36, e 37, e 38, e 39, e 40, e 41, e 42, e 43, e 44, e 45, e 46, e 47, e 48, e 49, e 50, e 51, e 52, e 53, e 54, e 55, e 56, e 57, e 58, e 59, e 60, e 61, e 62, e 63, e 64]) rfl ?_ ?_ ?_
    · exact ⟨rfl, rfl, rfl, (congrArg (Value.int .i64) (show ((((k : Nat) : Int) + 1) : Int) = (((k + 1) : Nat) : Int) by omega)), rfl, rfl, rfl, rfl, rfl, rfl, rfl, rfl, rfl, rfl, rfl, rfl, rfl, rfl, rfl, rfl, rfl, rfl, rfl, rfl, rfl, rfl, rfl, rfl, rfl, rfl, rfl, rfl, rfl, rfl, rfl, rfl, rfl, rfl, rfl, rfl, rfl, rfl, rfl, rfl, rfl, rfl, rfl, rfl, rfl, rfl, rfl, rfl, rfl, rfl, rfl, rfl, rfl, rfl, rfl, rfl, rfl, rfl, rfl, rfl, rfl, trivial⟩
    · exact ⟨(k + 1), (unL [_, _, _, _, _, _, _, _, _, _, _, _, _, _, _, _, _, _, _, _, _, _, _, _, _, _, _, _, _, _, _, _, _, _, _, _, _, _, _, _, _, _, _, _, _, _, _, _, _, _, _, _, _, _, _, _, _, _, _, _, _, _, _]), rfl, m75, (((((((Ch.refl (fun k => w2.heap.size ≤ k) w2).ext k25 (fun k hk => Nat.le_trans (Nat.le_refl w2.heap.size) hk)).extk k50).ext k53 (fun k hk => by subst hk; exact Nat.le_trans k25.size p48)).extk k57).extk k64).ext k76 (fun k hk => Nat.le_trans (t5 k25.size k50.size k53.size k57.size k64.size) hk)), (by omega), (by first | (intro j hj; omega) | (have hy := allN_t (f := sPaJ x_p k) (n := k) (k := j) (by assumption) (by omega); exact allN_next (by assumption) (by simp only [sPaG, hy, h14, h19, h31, h59, h62, h66, h70, h79]; simp)))⟩
    · show x_p.Cands.length - ((((k + 1) : Nat) : Int)).toNat < x_p.Cands.length - (((k : Nat) : Int)).toNat; omega
   have q80 := of_decide_eq_true h79
   refine ct h79 ?_
   refine wc_skip <| wq_then <| wc_seq <| wc_block <| wc_seq ?_
   obtain ⟨y97, l98, r99, e100, u101⟩ := RLv.el z_PCand (i := j) r3 (by first | omega | (simp only [List.length_cons, List.length_nil, List.length_replicate, List.length_append, List.length_take, List.length_set, List.length_map]; omega))
   obtain ⟨a102, c103, l107, rfl, r104, s105, u108⟩ := SubR.c u101
   obtain rfl := SubR.n u108
   refine wc_drawT ([(56, [], [], (fun _ v _ => v = (vp g6 2))), (57, [], [0], (fun _ v _ => v = (vs a1 x_p.Cands.length c2))), (58, [], [], (fun _ v _ => v = (vi ((j : Nat) : Int)))), (59, [], [0, 1, 2], (fun _ v _ => v = (ve (vs a1 x_p.Cands.length c2) ((((j : Nat) : Int)).toNat * 4)))), (60, [], [0, 1, 2, 3], (fun _ v _ => v = (ve (vs a1 x_p.Cands.length c2) ((((j : Nat) : Int)).toNat * 4 + 0)))), (61, [], [0, 1, 2, 3, 4], (fun _ v _ => v = (.agg #[(vi (((x_p.Cands.getD j z_PCand).A).Host)), (vi (((x_p.Cands.getD j z_PCand).A).Port))]))), (62, [], [], (fun _ v _ => v = (vp g47 0))), (63, [], [6], (fun _ v _ => v = (.agg #[(vi (((x_p.Cands.getD k z_PCand).A).Host)), (vi (((x_p.Cands.getD k z_PCand).A).Port))])))] : GV) (fun _ w' => Keep w8 w') [] mixed rfl (by kernel_rfl) (by kernel_rfl) ?_ (fun _ _ h => h) (fun _ _ _ _ h _ k => h.trans k) trivial ?_ ?_ ?_
   ·exact ⟨(fun _ _ _ _ h _ => h), (fun _ _ _ _ _ h => h), ⟨(fun _ _ _ _ h _ => h), (fun _ _ _ _ _ h => h), ⟨(fun _ _ _ _ h _ => h), (fun _ _ _ _ _ h => h), ⟨(fun _ _ _ _ h _ => h), (fun _ _ _ _ _ h => h), ⟨(fun _ _ _ _ h _ => h), (fun _ _ _ _ _ h => h), ⟨(fun _ _ _ _ h _ => h), (fun _ _ _ _ _ h => h), ⟨(fun _ _ _ _ h _ => h), (fun _ _ _ _ _ h => h), ⟨(fun _ _ _ _ h _ => h), (fun _ _ _ _ _ h => h), trivial⟩⟩⟩⟩⟩⟩⟩⟩
   ·exact trivial
   ·refine ⟨?_, ⟨?_, ⟨?_, ⟨?_, ⟨?_, ⟨?_, ⟨?_, ⟨?_, trivial⟩⟩⟩⟩⟩⟩⟩⟩
    ·intro _ w9 k113 _
     have m114 := m75.extk k113
     rintro _ _ _ _ _ _ _ _
     show WL _ _ _ _ _ _ _
     refine pu (vp g6 2) wN ?_
     exact wl_finT (Ch.refl _ _) rfl
    ·intro _ w9 k115 _
     have m116 := m75.extk k115
     rintro _ rfl _ _ _ _ _ _ _
     show WL _ _ _ _ _ _ _
     have b117 := ((b69.ch k76 (Nat.not_le.2 (Nat.lt_of_lt_of_le p8 (t6 k12.size k25.size k50.size k53.size k57.size k64.size)))).kp k115)
     refine ld (vs a1 x_p.Cands.length c2) wN isAgg_57 b117 ?_
     exact wl_finT (Ch.refl _ _) rfl
    ·intro _ w9 k118 _
     have m119 := m75.extk k118
     rintro _ _ _ _ _ _ _ _
     show WL _ _ _ _ _ _ _
     refine mv (vi ((j : Nat) : Int)) wN ?_
     exact wl_finT (Ch.refl _ _) rfl
    ·intro _ w9 k120 _
     have m121 := m75.extk k120
     rintro _ rfl _ rfl _ rfl _ _ _ _ _
     show WL _ _ _ _ _ _ _
     obtain ⟨y123, r124⟩ := RLv.row (r3.from0 m121)
     refine wl_index wN ((j : Nat) : Int) rfl rfl rfl slTy_57 rfl rfl r124 (by first | omega | (simp only [List.length_cons, List.length_nil, List.length_replicate, List.length_append, List.length_take, List.length_set, List.length_map]; omega)) (by first | omega | (simp only [List.length_cons, List.length_nil, List.length_replicate, List.length_append, List.length_take, List.length_set, List.length_map]; omega)) ?_
     exact wl_finT (Ch.refl _ _) rfl
    ·intro _ w9 k125 _
     have m126 := m75.extk k125
     rintro _ rfl _ rfl _ rfl _ rfl _ _ _ _
     show WL _ _ _ _ _ _ _
     refine wl_fieldE wN rfl rfl rfl fieldAt_54_0 rfl (r99.from0 m126) (by omega) ?_
     exact wl_finT (Ch.refl _ _) rfl
    ·intro _ w9 k130 _
     have m131 := m75.extk k130
     rintro _ rfl _ rfl _ rfl _ rfl _ rfl _ _ _
     show WL _ _ _ _ _ _ _
     refine wl_loadEN (L_26 ((x_p.Cands.getD j z_PCand).A)) wN rfl rfl rfl rfl isAgg_26 sizeOf_26 (r99.from0 m131) (by first | omega | (simp only [List.length_cons, List.length_nil, List.length_replicate, List.length_append, List.length_take, List.length_set, List.length_map]; omega)) ((part_of (off := 0) (n := 2) e100 (by first | rfl | simp | omega) (by decide)).trans rfl) ?_
     exact wl_finT (Ch.refl _ _) rfl
    ·intro _ w9 k135 _
     have m136 := m75.extk k135
     rintro _ _ _ _ _ _ _ _
     show WL _ _ _ _ _ _ _
     refine pu (vp g47 0) wN ?_
     exact wl_finT (Ch.refl _ _) rfl
    ·intro _ w9 k137 _
     have m138 := m75.extk k137
     rintro _ _ _ _ _ _ _ rfl _
     show WL _ _ _ _ _ _ _
     have b139 := ((b68.ch k76 (Nat.not_le.2 (Nat.lt_of_lt_of_le p49 (t3 k53.size k57.size k64.size)))).kp k137)
     refine lN (L_26 ((x_p.Cands.getD k z_PCand).A)) wN isAgg_26 sizeOf_26 b139 ?_
     exact wl_finT (Ch.refl _ _) rfl
   ·intro _ w9 k140
    have m141 := m75.extk k140
    rintro _ rfl _ rfl _ rfl _ rfl _ rfl _ rfl _ rfl _ rfl
    show WL _ _ _ _ _ _ _
    refine wl_aggeq ((decide ((((x_p.Cands.getD j z_PCand).A).Host) = (((x_p.Cands.getD k z_PCand).A).Host)) && decide ((((x_p.Cands.getD j z_PCand).A).Port) = (((x_p.Cands.getD k z_PCand).A).Port)))) wN rfl rfl rfl rfl rfl guardt_26 (aggeq_26 (((x_p.Cands.getD j z_PCand).A).Host) (((x_p.Cands.getD k z_PCand).A).Host) (((x_p.Cands.getD j z_PCand).A).Port) (((x_p.Cands.getD k z_PCand).A).Port) w9) ?_
    refine wl_nil <| wq_then ?_
    rcases bt (decide ((((x_p.Cands.getD j z_PCand).A).Host) = (((x_p.Cands.getD k z_PCand).A).Host)) && decide ((((x_p.Cands.getD j z_PCand).A).Port) = (((x_p.Cands.getD k z_PCand).A).Port))) with h146 | h146
    ·refine ct h146 ?_
     refine sr ?_
     refine ag (vb false) wN ?_
     refine wl_nil <| wq_then <| wc_ret <| wq_blk_ret <| wq_then_ret <| wq_then_ret <| wq_blk_ret <| wq_blk_ret <| wq_then_ret <| wq_then_ret <| wq_blk_ret <| wq_then_ret ?_
     refine ret_1 (.inl rfl) (vb false) rfl rfl ?_
     refine ⟨m141.keep0, ?_⟩
     have hF148 : sPa x_p = false := by have hy := allN_f (f := sPaJ x_p k) (n := k) (k := j) (by omega) (by simp only [sPaJ, h14, h19, h31, h59, h62, h66, h70, h79, h146]; simp); have hz := allN_f (f := sPaG x_p) (n := x_p.Cands.length) (k := k) (by omega) (by simp only [sPaG, hy, h14, h19, h31, h59, h62, h66, h70, h79, h146]; simp); simp only [sPa, h14, h19, h31, h59, h62, h66, h70, h79, h146, hz]; simp
     rw [hF148]
     exact rfl
    refine cf h146 ?_
    refine wc_skip <| wq_blk_normal <| wq_then <| wc_region ?_
    refine mv (vi ((j : Nat) : Int)) wN ?_
    refine ar (((j : Nat) : Int) + 1) wN ?_
    refine ag (vi (((j : Nat) : Int) + 1)) wN ?_
    refine wl_nil ?_
    refine wq_loopQ (w0 := w8) (fun e => [e 0, e 1, e 2, e 3, e 4, (vi (((j + 1) : Nat) : Int)), e 6, e 7, e 8, e 9, e 10, e 11, e 12, e 13, e 14, e 15, e 16, e 17, e 18, e 19, e 20, e 21, e 22, e 23, e 24, e 25, e 26, e 27, e 28, e 29, e 30, e 31, e 32, e 33, e 34, e 35, e 36, e 37, e 38, e 39, e 40, e 41, e 42, e 43, e 44, e 45, e 46, e 47, e 48, e 49, e 50, e 51, e 52, e 53, e 54, e 55, e 56, e 57, e 58, e 59, e 60, e 61, e 62, e 63, e 64]) rfl ?_ ?_ ?_
    · exact ⟨rfl, rfl, rfl, rfl, rfl, (congrArg (Value.int .i64) (show ((((j : Nat) : Int) + 1) : Int) = (((j + 1) : Nat) : Int) by omega)), rfl, rfl, rfl, rfl, rfl, rfl, rfl, rfl, rfl, rfl, rfl, rfl, rfl, rfl, rfl, rfl, rfl, rfl, rfl, rfl, rfl, rfl, rfl, rfl, rfl, rfl, rfl, rfl, rfl, rfl, rfl, rfl, rfl, rfl, rfl, rfl, rfl, rfl, rfl, rfl, rfl, rfl, rfl, rfl, rfl, rfl, rfl, rfl, rfl, rfl, rfl, rfl, rfl, rfl, rfl, rfl, rfl, rfl, rfl, trivial⟩
    · exact ⟨(j + 1), (unL [_, _, _, _, _, _, _, _, _, _, _, _, _, _, _, _, _, _, _, _, _, _, _, _, _, _]), rfl, m141, (((Ch.refl (fun k => w7.heap.size ≤ k) w7).ext k76 (fun k hk => Nat.le_trans (Nat.le_refl w7.heap.size) hk)).extk k140), (by omega), (by first | (intro m hm; omega) | exact allN_next (by assumption) (by simp only [sPaJ, h14, h19, h31, h59, h62, h66, h70, h79, h146]; simp))⟩
    · show k - ((((j + 1) : Nat) : Int)).toNat < k - (((j : Nat) : Int)).toNat; omega
theorem sPa_t {p : PPaths} (h : sPa p = true) : p.Cands.length ≤ 3 := by
  unfold sPa at h
  cases h1 : F_spec_AddrOk p.At with
  | false => simp only [h1, cond_false] at h; cases h
  | true =>
    cases h8 : decide (3 < (p.Cands.length : Int)) with
    | true => simp only [h1, h8, cond_true] at h; cases h
    | false => have := of_decide_eq_false h8; omega

def R_54 (w : World) (v : Value) (x : (PCand)) : Prop := ∃ (a1 : Option Addr) (c1 : Nat), v = .agg #[.int .i64 x.A.Host, .int .i64 x.A.Port, .slice a1 x.Draw.length c1, .int .i64 x.Until] ∧ Rd w 1 (.slice a1 x.Draw.length c1) x.Draw.length (x.Draw.map bV) ∧ x.Draw.length ≤ 1073741824
def F_spec_l16Cand (x_x : PCand) : (PCand) := x_x
theorem C_spec_l16Cand (w0 : World) (v_x_x : Value) (x_x : PCand) (r_x_x : R_54 w0 v_x_x x_x)  : Fn Try.prog 98 #[v_x_x] w0 (fun v w' => Keep w0 w' ∧ O_54 w' w0.heap.size v (F_spec_l16Cand x_x)) := by
 obtain ⟨a1, c2, rfl, r3, s4⟩ := r_x_x
 refine fn_of (n := 12) (l := [(va (L_54 x_x a1 c2)), U, U, U, U, U, U, U, U, U, U, U]) Try.func98 rfl rfl (by kernel_rfl) rfl ?_
 refine sr ?_
 refine bx (L_54 x_x a1 c2) wN ?_
 intro g6 w1 p7 p8 k9 b10
 have m11 := (Ch.base w0).extk k9
 refine al [(vi 0), (vi 0), (vs none 0 0), (vi 0)] wN zero_54 ?_
 intro g12 w2 p13 p14 k15 b16
 have m17 := m11.extk k15
 refine wl_nil <| wq_then <| wc_seq ?_
 refine wc_drawT ([(3, [], [], (fun _ v _ => v = (vp g6 0))), (4, [], [0], (fun _ v _ => v = (.agg #[(vi x_x.A.Host), (vi x_x.A.Port)]))), (5, [], [], (fun _ v w => ∃ a0 : Addr, v = .slice (some a0) 0 0 ∧ w.ownsRow w2.heap.size 5 1 (.slice (some a0) 0 0) 0 [])), (6, [], [], (fun _ v _ => v = (vp g6 2))), (7, [], [3], (fun _ v _ => v = (vs a1 x_x.Draw.length c2))), (8, [], [2, 3, 4], (fun _ v w => ∃ (a1 : Option Addr) (c1 : Nat), v = .slice a1 x_x.Draw.length c1 ∧ w.ownsRow w2.heap.size 5 1 (.slice a1 x_x.Draw.length c1) x_x.Draw.length (x_x.Draw.map bV) ∧ x_x.Draw.length ≤ 1073741824 ∧ Aps [(a1, c1)])), (9, [], [], (fun _ v _ => v = (vp g6 3))), (10, [], [6], (fun _ v _ => v = (vi x_x.Until)))] : GV) (fun _ w' => Keep w2 w') [] mixed rfl (by kernel_rfl) (by kernel_rfl) ?_ (fun _ _ h => h) (fun _ _ _ _ h _ k => h.trans k) trivial ?_ ?_ ?_
 ·exact ⟨(fun _ _ _ _ h _ => h), (fun _ _ _ _ _ h => h), ⟨(fun _ _ _ _ h _ => h), (fun _ _ _ _ _ h => h), ⟨(fun e v w w1 h hk => by obtain ⟨a0x, he, o0x⟩ := h; exact ⟨a0x, he, own_kp o0x hk⟩), (fun _ _ _ _ _ h => h), ⟨(fun _ _ _ _ h _ => h), (fun _ _ _ _ _ h => h), ⟨(fun _ _ _ _ h _ => h), (fun _ _ _ _ _ h => h), ⟨(fun e v w w1 h hk => by obtain ⟨a0x, c0x, he, o0x, l0x, hap⟩ := h; exact ⟨a0x, c0x, he, own_kp o0x hk, l0x, hap⟩), (fun _ _ _ _ _ h => h), ⟨(fun _ _ _ _ h _ => h), (fun _ _ _ _ _ h => h), ⟨(fun _ _ _ _ h _ => h), (fun _ _ _ _ _ h => h), trivial⟩⟩⟩⟩⟩⟩⟩⟩
 ·exact trivial
 ·refine ⟨?_, ⟨?_, ⟨?_, ⟨?_, ⟨?_, ⟨?_, ⟨?_, ⟨?_, trivial⟩⟩⟩⟩⟩⟩⟩⟩
  ·intro _ w3 k55 _
   have m56 := m17.extk k55
   rintro _ _ _ _ _ _ _ _
   show WL _ _ _ _ _ _ _
   refine pu (vp g6 0) wN ?_
   exact wl_finT (Ch.refl _ _) rfl
  ·intro _ w3 k57 _
   have m58 := m17.extk k57
   rintro _ rfl _ _ _ _ _ _ _
   show WL _ _ _ _ _ _ _
   have b59 := ((b10.kp k15).kp k57)
   refine lN (L_26 x_x.A) wN isAgg_26 sizeOf_26 b59 ?_
   exact wl_finT (Ch.refl _ _) rfl
  ·intro _ w3 k60 _
   have m61 := m17.extk k60
   rintro _ _ _ _ _ _ _ _
   show WL _ _ _ _ _ _ _
   refine wl_lit0 wN rfl rfl slTy_22 (fun w => by kernel_rfl) ?_
   intro a62 w4 k63 o64
   have m65 := m61.extk k63
   exact wl_finT k63 ⟨_, rfl, own_lo o64 k60.size⟩
  ·intro _ w3 k67 _
   have m68 := m17.extk k67
   rintro _ _ _ _ _ _ _ _
   show WL _ _ _ _ _ _ _
   refine pu (vp g6 2) wN ?_
   exact wl_finT (Ch.refl _ _) rfl
  ·intro _ w3 k69 _
   have m70 := m17.extk k69
   rintro _ _ _ _ rfl _ _ _ _
   show WL _ _ _ _ _ _ _
   have b71 := ((b10.kp k15).kp k69)
   refine ld (vs a1 x_x.Draw.length c2) wN isAgg_22 b71 ?_
   exact wl_finT (Ch.refl _ _) rfl
  ·intro _ w3 k72 _
   have m73 := m17.extk k72
   rintro _ _ _ ⟨a74, rfl, o76⟩ _ rfl _ rfl _ _ _
   show WL _ _ _ _ _ _ _
   refine wl_append0 wN rfl rfl rfl slTy_22 rfl rfl o76 (r3.from0 m73) (all_bV _) (by first | (simp only [List.length_append, List.length_cons, List.length_nil, List.length_replicate]; omega) | omega) (by simp only [maxLen]; first | (simp only [List.length_append, List.length_cons, List.length_nil, List.length_replicate]; omega) | omega) k72.size ?_
   intro u80 w4 k81 o82 j83
   obtain ⟨a84, c85, rfl⟩ := own_form o82
   have n86 : New w3 a84 c85 := j83 _ _ rfl
   have m87 := m73.extk k81
   exact wl_finT k81 ⟨_, _, rfl, o82, s4, ⟨trivial, trivial⟩⟩
  ·intro _ w3 k89 _
   have m90 := m17.extk k89
   rintro _ _ _ _ _ _ _ _
   show WL _ _ _ _ _ _ _
   refine pu (vp g6 3) wN ?_
   exact wl_finT (Ch.refl _ _) rfl
  ·intro _ w3 k91 _
   have m92 := m17.extk k91
   rintro _ _ _ _ _ _ _ rfl _
   show WL _ _ _ _ _ _ _
   have b93 := ((b10.kp k15).kp k91)
   refine ld (vi x_x.Until) wN isAgg_3 b93 ?_
   exact wl_finT (Ch.refl _ _) rfl
 ·intro _ w3 k94
  have m95 := m17.extk k94
  rintro _ rfl _ rfl _ ⟨a97, rfl, o99⟩ _ rfl _ rfl _ ⟨a103, c104, rfl, o105, s106, -⟩ _ rfl _ rfl
  show WL _ _ _ _ _ _ _
  refine pu (va (L_54 x_x a103 c104)) wN ?_
  have b109 := (b16.kp k94)
  refine st (va (L_54 x_x a103 c104)) (L_54 x_x a103 c104) (L_54 x_x a103 c104) wN sizeOf_54 b109 ?_
  intro w4 k110 b111 z112
  have m113 := m95.ext k110 (fun k hk => by subst hk; exact Nat.le_trans k9.size p13)
  refine wl_nil <| wq_then <| wc_ret ?_
  have o114 := (own_ch o105 k110 (fun g hg hlt hk => by have h1 := (own_lt o105 g hg).1; have h2 := Nat.lt_of_lt_of_le p14 (Nat.le_refl w2.heap.size); omega))
  refine ret_1 (.inl rfl) (va (L_54 x_x a103 c104)) rfl (rv_c [(vi x_x.A.Host), (vi x_x.A.Port), (vs a103 x_x.Draw.length c104), (vi x_x.Until)] rfl b111 isAgg_54 sizeOf_54) ?_
  refine ⟨m113.keep0, ?_⟩
  have hF115 : F_spec_l16Cand x_x = x_x := by rfl
  rw [hF115]
  exact ⟨_, _, rfl, (own_lo o114 (Nat.le_trans k9.size k15.size)), s106, ⟨trivial, trivial⟩⟩

theorem mR_54 {w : World} {x : PCand} {a1 : Option Addr} {c1 : Nat} (h1 : Rd w 1 (.slice a1 x.Draw.length c1) x.Draw.length (x.Draw.map bV)) (l1 : x.Draw.length ≤ 1073741824) : R_54 w (va (L_54 x a1 c1)) x := ⟨_, _, rfl, h1, l1⟩
def F_spec_l16Copy (x_p : PPaths) : (PPaths) := { At := x_p.At, Cands := (x_p.Cands.take x_p.Cands.length) : PPaths }
theorem C_spec_l16Copy (w0 : World) (v_x_p : Value) (x_p : PPaths) (r_x_p : R_59 w0 v_x_p x_p)  : Fn Try.prog 111 #[v_x_p] w0 (fun v w' => Keep w0 w' ∧ O_59 w' w0.heap.size v (x_p)) := by
 obtain ⟨a1, c2, rfl, r3, s4⟩ := r_x_p
 refine fn_of (n := 27) (l := [(va (L_59 x_p a1 c2)), U, U, U, U, U, U, U, U, U, U, U, U, U, U, U, U, U, U, U, U, U, U, U, U, U, U]) Try.func111 rfl rfl (by kernel_rfl) rfl ?_
 refine sr ?_
 refine bx (L_59 x_p a1 c2) wN ?_
 intro g6 w1 p7 p8 k9 b10
 have m11 := (Ch.base w0).extk k9
 refine al [(vi 0), (vi 0), (vs none 0 0)] wN zero_59 ?_
 intro g12 w2 p13 p14 k15 b16
 have m17 := m11.extk k15
 refine nx ?_
 refine pu (vp g6 0) wN ?_
 have b18 := (b10.kp k15)
 refine lN (L_26 x_p.At) wN isAgg_26 sizeOf_26 b18 ?_
 refine pu (va [(vi x_p.At.Host), (vi x_p.At.Port), (vs none 0 0)]) wN ?_
 refine al [(vi 0), (vi 0), (vs none 0 0)] wN zero_59 ?_
 intro g19 w3 p20 p21 k22 b23
 have m24 := m17.extk k22
 refine st (va [(vi x_p.At.Host), (vi x_p.At.Port), (vs none 0 0)]) [(vi x_p.At.Host), (vi x_p.At.Port), (vs none 0 0)] [(vi x_p.At.Host), (vi x_p.At.Port), (vs none 0 0)] wN sizeOf_59 b23 ?_
 intro w4 k25 b26 z27
 have m28 := m24.ext k25 (fun k hk => by subst hk; exact Nat.le_trans (Nat.le_trans k9.size k15.size) p20)
 refine wl_nil <| wq_then <| wc_seq <| sr ?_
 refine ag (vi 0) wN ?_
 refine wl_nil <| wq_then <| wc_block ?_
 have hE30 : (([] : List (PCand)) : List (PCand)) = x_p.Cands.take 0 := by first | rfl | exact take_snoc (z := z_PCand) (by omega)
 refine wc_normQ (fun e => [e 0, e 1, e 2, e 3, (vi ((0 : Nat) : Int)), e 5, e 6, e 7, e 8, e 9, e 10, e 11, e 12, e 13, e 14, e 15, e 16, e 17, e 18, e 19, e 20, e 21, e 22, e 23, e 24, e 25, e 26]) rfl ⟨rfl, rfl, rfl, rfl, (congrArg (Value.int .i64) (show (0 : Int) = ((0 : Nat) : Int) by omega)), rfl, rfl, rfl, rfl, rfl, rfl, rfl, rfl, rfl, rfl, rfl, rfl, rfl, rfl, rfl, rfl, rfl, rfl, rfl, rfl, rfl, rfl, trivial⟩ ?_
 refine wc_loop (fun e' w' => ∃ (kq : Nat) (u29 : Nat → Value) (ab3_2x : Option Addr) (cb3_2x : Nat), e' = lst [(u29 0), (vp g6 0), (vp g12 0), (vp g19 0), (vi ((kq : Nat) : Int)), (u29 1), (u29 2), (u29 3), (u29 4), (u29 5), (u29 6), (u29 7), (u29 8), (u29 9), (u29 10), (u29 11), (u29 12), (u29 13), (u29 14), (u29 15), (u29 16), (u29 17), (u29 18), (u29 19), (u29 20), (u29 21), U] ∧ Ch (fun k => w0.heap.size ≤ k) w0 w' ∧ Ch (fun k => w2.heap.size ≤ k) w4 w' ∧ kq ≤ x_p.Cands.length ∧ (OLv LT_54 w' w4.heap.size w'.heap.size ab3_2x (x_p.Cands.take kq).length cb3_2x (x_p.Cands.take kq) ∧ (x_p.Cands.take kq).length ≤ 1073741824) ∧ Blk w' g19 59 [(vi x_p.At.Host), (vi x_p.At.Port), (.slice ab3_2x (x_p.Cands.take kq).length cb3_2x)]) (fun e' _ => x_p.Cands.length - ((intOf (e' 4))).toNat) ?_ ?_
 ·exact ⟨0, (unL [_, _, _, _, U, U, U, U, U, U, U, U, U, U, U, U, U, U, U, U, U, U]), none, 0, rfl, m28, (Ch.refl (fun k => w2.heap.size ≤ k) w4), (by omega), (hE30 ▸ ⟨(OLv.nil w4 w4.heap.size w4.heap.size LT_54), (by simp)⟩), b26⟩
 ·rintro _ w5 ⟨kq, u29, ab3_2x, cb3_2x, rfl, m31, k32, i33, ⟨o34, s35⟩, hbx3⟩
  obtain ⟨y37, o38⟩ := OLv.ow o34
  refine wc_seq <| sr ?_
  refine mv (vi ((kq : Nat) : Int)) wN ?_
  refine pu (vp g6 2) wN ?_
  have b39 := (((b18.kp k22).ch k25 (Nat.ne_of_lt (Nat.lt_of_lt_of_le p8 (Nat.le_trans k15.size p20)))).ch k32 (Nat.not_le.2 (Nat.lt_of_lt_of_le p8 k15.size)))
  refine ld (vs a1 x_p.Cands.length c2) wN isAgg_57 b39 ?_
  obtain ⟨y40, r41⟩ := RLv.row (r3.from0 m31)
  refine ln wN slTy_57 r41 ?_
  refine pu (vb (decide (((kq : Nat) : Int) < (x_p.Cands.length : Int)))) wN ?_
  refine wl_nil <| wq_then ?_
  rcases bf (decide (((kq : Nat) : Int) < (x_p.Cands.length : Int))) with h42 | h42
  ·have q202 := of_decide_eq_false h42
   refine cf h42 ?_
   refine wc_exit <| wq_then_exit ?_
   obtain rfl : kq = x_p.Cands.length := by omega
   refine wq_then_exit <| wq_blk_exit <| wq_then <| sr ?_
   refine lN [(vi x_p.At.Host), (vi x_p.At.Port), (vs ab3_2x (x_p.Cands.take x_p.Cands.length).length cb3_2x)] wN isAgg_59 sizeOf_59 hbx3 ?_
   have b203 := (((b16.kp k22).ch k25 (Nat.ne_of_lt (Nat.lt_of_lt_of_le p14 (Nat.le_trans (Nat.le_refl w2.heap.size) p20)))).ch k32 (Nat.not_le.2 (Nat.lt_of_lt_of_le p14 (Nat.le_refl w2.heap.size))))
   refine st (va [(vi x_p.At.Host), (vi x_p.At.Port), (vs ab3_2x (x_p.Cands.take x_p.Cands.length).length cb3_2x)]) [(vi x_p.At.Host), (vi x_p.At.Port), (vs ab3_2x (x_p.Cands.take x_p.Cands.length).length cb3_2x)] [(vi x_p.At.Host), (vi x_p.At.Port), (vs ab3_2x (x_p.Cands.take x_p.Cands.length).length cb3_2x)] wN sizeOf_59 b203 ?_
   intro w6 k204 b205 z206
   have m207 := m31.ext k204 (fun k hk => by subst hk; exact Nat.le_trans k9.size p13)
   refine wl_nil <| wq_then <| wc_ret ?_
   have o208 := (OLv.ch o34 k204 (fun g h1 h2 hk => by have h3 := Nat.lt_of_lt_of_le p14 (Nat.le_trans k22.size k25.size); omega))
   refine ret_1 (.inl rfl) (va [(vi x_p.At.Host), (vi x_p.At.Port), (vs ab3_2x (x_p.Cands.take x_p.Cands.length).length cb3_2x)]) rfl (rv_c [(vi x_p.At.Host), (vi x_p.At.Port), (vs ab3_2x (x_p.Cands.take x_p.Cands.length).length cb3_2x)] rfl b205 isAgg_59 sizeOf_59) ?_
   refine ⟨m207.keep0, ?_⟩
   have hF209 : x_p.Cands.take x_p.Cands.length = x_p.Cands := List.take_length
   rw [hF209] at o208 ⊢
   exact ⟨_, _, rfl, (OLv.now (OLv.low o208 (t4 k9.size k15.size k22.size k25.size))), (by omega), ⟨trivial, trivial⟩⟩
  have q43 := of_decide_eq_true h42
  refine ct h42 ?_
  refine wc_skip <| wq_then <| wc_seq <| wc_block ?_
  obtain ⟨y89, l90, r91, e92, u93⟩ := RLv.el z_PCand (i := kq) r3 (by first | omega | (simp only [List.length_cons, List.length_nil, List.length_replicate, List.length_append, List.length_take, List.length_set, List.length_map]; omega))
  obtain ⟨a94, c95, l99, rfl, r96, s97, u100⟩ := SubR.c u93
  obtain rfl := SubR.n u100
  refine wc_drawT ([(15, [], [], (fun _ v _ => v = (vp g19 2))), (16, [], [0], (fun _ v _ => v = (vs ab3_2x (x_p.Cands.take kq).length cb3_2x))), (17, [], [], (fun _ v _ => v = (vp g6 2))), (18, [], [2], (fun _ v _ => v = (vs a1 x_p.Cands.length c2))), (19, [], [], (fun _ v _ => v = (vi ((kq : Nat) : Int)))), (20, [], [2, 3, 4], (fun _ v _ => v = (ve (vs a1 x_p.Cands.length c2) ((((kq : Nat) : Int)).toNat * 4)))), (21, [], [2, 3, 4, 5], (fun _ v _ => v = (.agg #[(vi (((x_p.Cands.getD kq z_PCand).A).Host)), (vi (((x_p.Cands.getD kq z_PCand).A).Port)), (vs a94 (x_p.Cands.getD kq z_PCand).Draw.length c95), (vi ((x_p.Cands.getD kq z_PCand).Until))]))), (22, [], [2, 3, 4, 5, 6], (fun _ v w => ∃ (a1 : Option Addr) (c1 : Nat), v = .agg #[.int .i64 (((F_spec_l16Cand (x_p.Cands.getD kq z_PCand)).A).Host), .int .i64 (((F_spec_l16Cand (x_p.Cands.getD kq z_PCand)).A).Port), .slice a1 ((F_spec_l16Cand (x_p.Cands.getD kq z_PCand)).Draw).length c1, .int .i64 ((F_spec_l16Cand (x_p.Cands.getD kq z_PCand)).Until)] ∧ w.ownsRow (w5.heap.size) 5 1 (.slice a1 ((F_spec_l16Cand (x_p.Cands.getD kq z_PCand)).Draw).length c1) ((F_spec_l16Cand (x_p.Cands.getD kq z_PCand)).Draw).length (((F_spec_l16Cand (x_p.Cands.getD kq z_PCand)).Draw).map bV) ∧ ((F_spec_l16Cand (x_p.Cands.getD kq z_PCand)).Draw).length ≤ 1073741824 ∧ Aps [(a1, c1)])), (23, [22], [2, 3, 4, 5, 6, 7], (fun e v w => ∃ (a1 : Option Addr) (c1 : Nat), v = .slice a1 1 c1 ∧ w.ownsRow w5.heap.size 54 4 (.slice a1 1 c1) 1 [(vi (((F_spec_l16Cand (x_p.Cands.getD kq z_PCand)).A).Host)), (vi (((F_spec_l16Cand (x_p.Cands.getD kq z_PCand)).A).Port)), (cellAt (e 22) 2), (vi ((F_spec_l16Cand (x_p.Cands.getD kq z_PCand)).Until))]))] : GV) (fun _ w' => Keep w5 w') [] mixed rfl (by kernel_rfl) (by kernel_rfl) ?_ (fun _ _ h => h) (fun _ _ _ _ h _ k => h.trans k) trivial ?_ ?_ ?_
  ·exact ⟨(fun _ _ _ _ h _ => h), (fun _ _ _ _ _ h => h), ⟨(fun _ _ _ _ h _ => h), (fun _ _ _ _ _ h => h), ⟨(fun _ _ _ _ h _ => h), (fun _ _ _ _ _ h => h), ⟨(fun _ _ _ _ h _ => h), (fun _ _ _ _ _ h => h), ⟨(fun _ _ _ _ h _ => h), (fun _ _ _ _ _ h => h), ⟨(fun _ _ _ _ h _ => h), (fun _ _ _ _ _ h => h), ⟨(fun _ _ _ _ h _ => h), (fun _ _ _ _ _ h => h), ⟨(fun e v w w1 h hk => by obtain ⟨a0x, c0x, he, o0x, l0x, hap⟩ := h; exact ⟨a0x, c0x, he, own_kp o0x hk, l0x, hap⟩), (fun _ _ _ _ _ h => h), ⟨(fun e v w w1 h hk => by obtain ⟨a0x, c0x, he, o0x⟩ := h; exact ⟨a0x, c0x, he, own_kp o0x hk⟩), (fun e1 e2 v w hx h => by have h22x := hx 22 (by simp); simp only [h22x] at h; exact h), trivial⟩⟩⟩⟩⟩⟩⟩⟩⟩
  ·exact trivial
  ·refine ⟨?_, ⟨?_, ⟨?_, ⟨?_, ⟨?_, ⟨?_, ⟨?_, ⟨?_, ⟨?_, trivial⟩⟩⟩⟩⟩⟩⟩⟩⟩
   ·intro _ w6 k116 _
    have m117 := m31.extk k116
    rintro _ _ _ _ _ _ _ _ _
    show WL _ _ _ _ _ _ _
    refine pu (vp g19 2) wN ?_
    exact wl_finT (Ch.refl _ _) rfl
   ·intro _ w6 k118 _
    have m119 := m31.extk k118
    rintro _ rfl _ _ _ _ _ _ _ _
    show WL _ _ _ _ _ _ _
    have b120 := (hbx3.kp k118)
    refine ld (vs ab3_2x (x_p.Cands.take kq).length cb3_2x) wN isAgg_57 b120 ?_
    exact wl_finT (Ch.refl _ _) rfl
   ·intro _ w6 k121 _
    have m122 := m31.extk k121
    rintro _ _ _ _ _ _ _ _ _
    show WL _ _ _ _ _ _ _
    refine pu (vp g6 2) wN ?_
    exact wl_finT (Ch.refl _ _) rfl
   ·intro _ w6 k123 _
    have m124 := m31.extk k123
    rintro _ _ _ rfl _ _ _ _ _ _
    show WL _ _ _ _ _ _ _
    have b125 := (b39.kp k123)
    refine ld (vs a1 x_p.Cands.length c2) wN isAgg_57 b125 ?_
    exact wl_finT (Ch.refl _ _) rfl
   ·intro _ w6 k126 _
    have m127 := m31.extk k126
    rintro _ _ _ _ _ _ _ _ _
    show WL _ _ _ _ _ _ _
    refine mv (vi ((kq : Nat) : Int)) wN ?_
    exact wl_finT (Ch.refl _ _) rfl
   ·intro _ w6 k128 _
    have m129 := m31.extk k128
    rintro _ _ _ rfl _ rfl _ rfl _ _ _ _
    show WL _ _ _ _ _ _ _
    obtain ⟨y131, r132⟩ := RLv.row (r3.from0 m129)
    refine wl_index wN ((kq : Nat) : Int) rfl rfl rfl slTy_57 rfl rfl r132 (by first | omega | (simp only [List.length_cons, List.length_nil, List.length_replicate, List.length_append, List.length_take, List.length_set, List.length_map]; omega)) (by first | omega | (simp only [List.length_cons, List.length_nil, List.length_replicate, List.length_append, List.length_take, List.length_set, List.length_map]; omega)) ?_
    exact wl_finT (Ch.refl _ _) rfl
   ·intro _ w6 k133 _
    have m134 := m31.extk k133
    rintro _ _ _ rfl _ rfl _ rfl _ rfl _ _ _
    show WL _ _ _ _ _ _ _
    refine wl_loadEN [(vi (((x_p.Cands.getD kq z_PCand).A).Host)), (vi (((x_p.Cands.getD kq z_PCand).A).Port)), (vs a94 (x_p.Cands.getD kq z_PCand).Draw.length c95), (vi ((x_p.Cands.getD kq z_PCand).Until))] wN rfl rfl rfl rfl isAgg_54 sizeOf_54 (r91.from0 m134) (by first | omega | (simp only [List.length_cons, List.length_nil, List.length_replicate, List.length_append, List.length_take, List.length_set, List.length_map]; omega)) ((part_of (off := 0) (n := 4) e92 (by first | rfl | simp | omega) (by decide)).trans rfl) ?_
    exact wl_finT (Ch.refl _ _) rfl
   ·intro _ w6 k138 _
    have m139 := m31.extk k138
    rintro _ _ _ rfl _ rfl _ rfl _ rfl _ rfl _ _
    show WL _ _ _ _ _ _ _
    refine cl wN (C_spec_l16Cand w6 _ (x_p.Cands.getD kq z_PCand) (mR_54 (r96.from0 m139) s97)) ?_
    rintro _ w7 ⟨k143, ⟨a144, c145, rfl, o146, s147, ap149⟩⟩
    have m150 := m139.extk k143
    exact wl_finT k143 ⟨_, _, rfl, (own_lo o146 k138.size), s147, ap149⟩
   ·intro _ w6 k151 _
    have m152 := m31.extk k151
    rintro _ _ _ rfl _ rfl _ rfl _ rfl _ rfl _ ⟨a156, c157, rfl, o158, s159, ap161⟩ _
    show WL _ _ _ _ _ _ _
    refine wl_lit [(vi (((F_spec_l16Cand (x_p.Cands.getD kq z_PCand)).A).Host)), (vi (((F_spec_l16Cand (x_p.Cands.getD kq z_PCand)).A).Port)), (vs a156 ((F_spec_l16Cand (x_p.Cands.getD kq z_PCand)).Draw).length c157), (vi ((F_spec_l16Cand (x_p.Cands.getD kq z_PCand)).Until))] wN rfl rfl slTy_57 (m := 1) rfl (by simp only [maxLen]; omega) (fun w => by kernel_rfl) ?_
    intro u162 w7 k163 o164
    obtain ⟨a165, c166, rfl⟩ := own_form o164
    have m167 := m152.extk k163
    exact wl_finT k163 ⟨_, _, rfl, own_lo o164 k151.size⟩
  ·intro _ w6 k169
   have m170 := m31.extk k169
   rintro _ rfl _ rfl _ rfl _ rfl _ rfl _ rfl _ rfl _ ⟨a175, c176, rfl, o177, s178, ap180⟩ _ ⟨a181, c182, rfl, o183⟩
   show WL _ _ _ _ _ _ _
   have o185 := (OLv.kp o34 k169)
   refine wl_appL (L := LT_54) (xs := (x_p.Cands.take kq)) (el := (F_spec_l16Cand (x_p.Cands.getD kq z_PCand))) (l := [(a175, c176)]) wN slTy_57 o185 (Rd.of_own o183) ⟨⟨o177, s178⟩, trivial⟩ ⟨trivial, trivial⟩ (Nat.le_refl _) k32.size (by first | omega | (simp only [List.length_take, List.length_append, List.length_cons, List.length_nil]; omega) | (refine Nat.le_trans (Nat.succ_le_succ (List.length_filter_le _ _)) ?_; simp only [List.length_take]; omega)) (Nat.le_trans k32.size k169.size) ?_
   intro a186 c187 w7 k188 o189
   have m190 := m170.ext k188 (fun k hk => Nat.le_trans (t4 k9.size k15.size k22.size k25.size) (own_lt o38 k hk).1)
   obtain ⟨y193, o194⟩ := OLv.ow o189
   refine pu (vp g19 2) wN ?_
   have b195 := ((hbx3.kp k169).ch k188 (fun h => by have := (own_lt o38 _ h).1; have := Nat.lt_of_lt_of_le p21 k25.size; omega))
   refine st (vs a186 ((x_p.Cands.take kq) ++ [(F_spec_l16Cand (x_p.Cands.getD kq z_PCand))]).length c187) [(vs a186 ((x_p.Cands.take kq) ++ [(F_spec_l16Cand (x_p.Cands.getD kq z_PCand))]).length c187)] [(vi x_p.At.Host), (vi x_p.At.Port), (vs a186 ((x_p.Cands.take kq) ++ [(F_spec_l16Cand (x_p.Cands.getD kq z_PCand))]).length c187)] wN sizeOf_57 b195 ?_
   intro w8 k196 b197 z198
   have m199 := m190.ext k196 (fun k hk => by subst hk; exact Nat.le_trans (Nat.le_trans k9.size k15.size) p20)
   refine wl_nil <| wq_blk_normal <| wq_then <| wc_region ?_
   refine mv (vi ((kq : Nat) : Int)) wN ?_
   refine ar (((kq : Nat) : Int) + 1) wN ?_
   refine ag (vi (((kq : Nat) : Int) + 1)) wN ?_
   refine wl_nil ?_
   have o200 := (OLv.ch o189 k196 (fun g h1 h2 hk => by have h3 := Nat.lt_of_lt_of_le p21 k25.size; omega))
   have hE201 : (((x_p.Cands.take kq) ++ [(F_spec_l16Cand (x_p.Cands.getD kq z_PCand))]) : List (PCand)) = x_p.Cands.take (kq + 1) := by first | rfl | exact take_snoc (z := z_PCand) (by omega)
   refine wq_loopQ (w0 := w5) (fun e => [e 0, e 1, e 2, e 3, (vi (((kq + 1) : Nat) : Int)), e 5, e 6, e 7, e 8, e 9, e 10, e 11, e 12, e 13, e 14, e 15, e 16, e 17, e 18, e 19, e 20, e 21, e 22, e 23, e 24, e 25, e 26]) rfl ?_ ?_ ?_
   · exact ⟨rfl, rfl, rfl, rfl, (congrArg (Value.int .i64) (show ((((kq : Nat) : Int) + 1) : Int) = (((kq + 1) : Nat) : Int) by omega)), rfl, rfl, rfl, rfl, rfl, rfl, rfl, rfl, rfl, rfl, rfl, rfl, rfl, rfl, rfl, rfl, rfl, rfl, rfl, rfl, rfl, rfl, trivial⟩
   · exact ⟨(kq + 1), (unL [_, _, _, _, _, _, _, _, _, _, _, _, _, _, _, _, _, _, _, _, _, _]), a186, c187, rfl, m199, (((((Ch.refl (fun k => w2.heap.size ≤ k) w4).ext k32 (fun k hk => Nat.le_trans (Nat.le_refl w2.heap.size) hk)).extk k169).ext k188 (fun k hk => Nat.le_trans (Nat.le_trans k22.size k25.size) (own_lt o38 k hk).1)).ext k196 (fun k hk => by subst hk; exact Nat.le_trans (Nat.le_refl w2.heap.size) p20)), (by omega), (hE201 ▸ ⟨(OLv.now o200), (OLv.small o189)⟩), (by have hb := b197; rw [hE201] at hb; exact hb)⟩
   · show x_p.Cands.length - ((((kq + 1) : Nat) : Int)).toNat < x_p.Cands.length - (((kq : Nat) : Int)).toNat; omega

theorem fieldAt_54_2 : ∀ a w, (Instr.fieldAt 54 (.pointer (some a)) 2).run Try.prog w = .ok (.pointer (some (a.add 3))) w := fun a w => by kernel_rfl
theorem mR_59 {w : World} {x : PPaths} {a1 : Option Addr} {c1 : Nat} (h1 : RLv LT_54 w 1073741824 a1 x.Cands.length c1 x.Cands) (l1 : x.Cands.length ≤ 1073741824) : R_59 w (va (L_59 x a1 c1)) x := ⟨_, _, rfl, h1, l1⟩
def F_spec_PathTick (x_p : PPaths) (x_now : Int) : (PPaths) := bif (sPa x_p) then (bif (F_spec_l1In x_now 0 1000000) then ({ At := x_p.At, Cands := ((x_p.Cands.take x_p.Cands.length).filter (fun c : PCand => decide (x_now ≤ c.Until))) : PPaths }) else ((x_p))) else ((x_p))
theorem C_spec_PathTick (w0 : World) (v_x_p : Value) (x_p : PPaths) (r_x_p : R_59 w0 v_x_p x_p) (x_now : Int)  : Fn Try.prog 48 #[v_x_p, (vi x_now)] w0 (fun v w' => Keep w0 w' ∧ O_59 w' w0.heap.size v (F_spec_PathTick x_p x_now)) := by
 obtain ⟨a1, c2, rfl, r3, s4⟩ := r_x_p
 refine fn_of (n := 47) (l := [(va (L_59 x_p a1 c2)), (vi x_now), U, U, U, U, U, U, U, U, U, U, U, U, U, U, U, U, U, U, U, U, U, U, U, U, U, U, U, U, U, U, U, U, U, U, U, U, U, U, U, U, U, U, U, U, U]) Try.func48 rfl rfl (by kernel_rfl) rfl ?_
 refine sr ?_
 refine bx (L_59 x_p a1 c2) wN ?_
 intro g6 w1 p7 p8 k9 b10
 have m11 := (Ch.base w0).extk k9
 refine al [(vi 0), (vi 0), (vs none 0 0)] wN zero_59 ?_
 intro g12 w2 p13 p14 k15 b16
 have m17 := m11.extk k15
 refine wl_nil <| wq_then <| wc_seq <| sr ?_
 have b18 := (b10.kp k15)
 refine lN (L_59 x_p a1 c2) wN isAgg_59 sizeOf_59 b18 ?_
 refine cl wN (C_spec_PathsOk w2 _ x_p (mR_59 (r3.from0 m17) s4)) ?_
 rintro _ w3 ⟨k19, rfl⟩
 have m20 := m17.extk k19
 refine pu (vb (!(sPa x_p))) wN ?_
 refine mv (vb (!(sPa x_p))) wN ?_
 rcases bf (sPa x_p) with h21 | h21
 ·refine sk (congrArg not h21) ?_
  refine sk (congrArg not h21) ?_
  refine sk (congrArg not h21) ?_
  refine pk (vb true) wN (congrArg not h21) ?_
  refine wl_nil <| wq_then ?_
  refine ct (Eq.refl true) ?_
  refine sr ?_
  have b233 := (b18.kp k19)
  refine lN (L_59 x_p a1 c2) wN isAgg_59 sizeOf_59 b233 ?_
  refine cl wN (C_spec_l16Copy w3 _ x_p (mR_59 (r3.from0 m20) s4)) ?_
  rintro _ w4 ⟨k234, ⟨a235, c236, rfl, o237, s238, ap240⟩⟩
  have m241 := m20.extk k234
  obtain ⟨y242, o243⟩ := OLv.ow o237
  have b244 := ((b16.kp k19).kp k234)
  refine st (va (L_59 (x_p) a235 c236)) (L_59 (x_p) a235 c236) (L_59 (x_p) a235 c236) wN sizeOf_59 b244 ?_
  intro w5 k245 b246 z247
  have m248 := m241.ext k245 (fun k hk => by subst hk; exact Nat.le_trans k9.size p13)
  refine wl_nil <| wq_then <| wc_ret <| wq_then_ret ?_
  have o249 := (OLv.ch o237 k245 (fun g h1 h2 hk => by have h3 := Nat.lt_of_lt_of_le p14 k19.size; omega))
  refine ret_1 (.inl rfl) (va (L_59 (x_p) a235 c236)) rfl (rv_c [(vi (((x_p).At).Host)), (vi (((x_p).At).Port)), (vs a235 ((x_p).Cands).length c236)] rfl b246 isAgg_59 sizeOf_59) ?_
  refine ⟨m248.keep0, ?_⟩
  have hF250 : F_spec_PathTick x_p x_now = (x_p) := by simp only [F_spec_PathTick, h21, cond_true, cond_false]
  rw [hF250]
  exact ⟨_, _, rfl, (OLv.now (OLv.low o249 (t3 k9.size k15.size k19.size))), s238, ⟨trivial, trivial⟩⟩
 have q22 := sPa_t h21
 refine mv (vi x_now) (wS (congrArg not h21)) ?_
 refine cl (wS (congrArg not h21)) (C_spec_l1In w3 x_now 0 1000000) ?_
 rintro _ w4 ⟨k23, rfl⟩
 have m24 := m20.extk k23
 refine pu (vb (!(F_spec_l1In x_now 0 1000000))) (wS (congrArg not h21)) ?_
 refine pf (vb (!(F_spec_l1In x_now 0 1000000))) wN (congrArg not h21) ?_
 refine wl_nil <| wq_then ?_
 rcases bf (F_spec_l1In x_now 0 1000000) with h25 | h25
 ·have q213 := spec_l1In_f h25
  refine ct (congrArg not h25) ?_
  refine sr ?_
  have b214 := ((b18.kp k19).kp k23)
  refine lN (L_59 x_p a1 c2) wN isAgg_59 sizeOf_59 b214 ?_
  refine cl wN (C_spec_l16Copy w4 _ x_p (mR_59 (r3.from0 m24) s4)) ?_
  rintro _ w5 ⟨k215, ⟨a216, c217, rfl, o218, s219, ap221⟩⟩
  have m222 := m24.extk k215
  obtain ⟨y223, o224⟩ := OLv.ow o218
  have b225 := (((b16.kp k19).kp k23).kp k215)
  refine st (va (L_59 (x_p) a216 c217)) (L_59 (x_p) a216 c217) (L_59 (x_p) a216 c217) wN sizeOf_59 b225 ?_
  intro w6 k226 b227 z228
  have m229 := m222.ext k226 (fun k hk => by subst hk; exact Nat.le_trans k9.size p13)
  refine wl_nil <| wq_then <| wc_ret <| wq_then_ret ?_
  have o230 := (OLv.ch o218 k226 (fun g h1 h2 hk => by have h3 := Nat.lt_of_lt_of_le p14 (Nat.le_trans k19.size k23.size); omega))
  refine ret_1 (.inl rfl) (va (L_59 (x_p) a216 c217)) rfl (rv_c [(vi (((x_p).At).Host)), (vi (((x_p).At).Port)), (vs a216 ((x_p).Cands).length c217)] rfl b227 isAgg_59 sizeOf_59) ?_
  refine ⟨m229.keep0, ?_⟩
  have hF231 : F_spec_PathTick x_p x_now = (x_p) := by simp only [F_spec_PathTick, h21, h25, cond_true, cond_false]
  rw [hF231]
  exact ⟨_, _, rfl, (OLv.now (OLv.low o230 (t4 k9.size k15.size k19.size k23.size))), s219, ⟨trivial, trivial⟩⟩
 have q26 := spec_l1In_t h25
 refine cf (congrArg not h25) ?_
 refine wc_skip <| wq_then <| sr ?_
 refine pu (vp g6 0) wN ?_
 have b27 := ((b18.kp k19).kp k23)
 refine lN (L_26 x_p.At) wN isAgg_26 sizeOf_26 b27 ?_
 refine pu (va [(vi x_p.At.Host), (vi x_p.At.Port), (vs none 0 0)]) wN ?_
 refine al [(vi 0), (vi 0), (vs none 0 0)] wN zero_59 ?_
 intro g28 w5 p29 p30 k31 b32
 have m33 := m24.extk k31
 refine st (va [(vi x_p.At.Host), (vi x_p.At.Port), (vs none 0 0)]) [(vi x_p.At.Host), (vi x_p.At.Port), (vs none 0 0)] [(vi x_p.At.Host), (vi x_p.At.Port), (vs none 0 0)] wN sizeOf_59 b32 ?_
 intro w6 k34 b35 z36
 have m37 := m33.ext k34 (fun k hk => by subst hk; exact Nat.le_trans (t4 k9.size k15.size k19.size k23.size) p29)
 refine wl_nil <| wq_then <| wc_seq <| sr ?_
 refine ag (vi 0) wN ?_
 refine wl_nil <| wq_then <| wc_block ?_
 have hE39 : (([] : List (PCand)) : List (PCand)) = (x_p.Cands.take 0).filter (fun c : PCand => decide (x_now ≤ c.Until)) := by first | rfl | exact filt_t (z := z_PCand) (by omega) (by first | assumption | (simp only [Bool.not_eq_true']; assumption)) | exact filt_f (z := z_PCand) (by omega) (by first | assumption | (simp only [Bool.not_eq_false']; assumption))
 refine wc_normQ (fun e => [e 0, e 1, e 2, e 3, e 4, e 5, (vi ((0 : Nat) : Int)), e 7, e 8, e 9, e 10, e 11, e 12, e 13, e 14, e 15, e 16, e 17, e 18, e 19, e 20, e 21, e 22, e 23, e 24, e 25, e 26, e 27, e 28, e 29, e 30, e 31, e 32, e 33, e 34, e 35, e 36, e 37, e 38, e 39, e 40, e 41, e 42, e 43, e 44, e 45, e 46]) rfl ⟨rfl, rfl, rfl, rfl, rfl, rfl, (congrArg (Value.int .i64) (show (0 : Int) = ((0 : Nat) : Int) by omega)), rfl, rfl, rfl, rfl, rfl, rfl, rfl, rfl, rfl, rfl, rfl, rfl, rfl, rfl, rfl, rfl, rfl, rfl, rfl, rfl, rfl, rfl, rfl, rfl, rfl, rfl, rfl, rfl, rfl, rfl, rfl, rfl, rfl, rfl, rfl, rfl, rfl, rfl, rfl, rfl, trivial⟩ ?_
 refine wc_loop (fun e' w' => ∃ (kq : Nat) (u38 : Nat → Value) (ab5_2x : Option Addr) (cb5_2x : Nat), e' = lst [(u38 0), (vi x_now), (vp g6 0), (u38 1), (vp g12 0), (vp g28 0), (vi ((kq : Nat) : Int)), (u38 2), (u38 3), (u38 4), (u38 5), (u38 6), (u38 7), (u38 8), (u38 9), (u38 10), (u38 11), (u38 12), (u38 13), (u38 14), (u38 15), (u38 16), (u38 17), (u38 18), (u38 19), (u38 20), (u38 21), (u38 22), (u38 23), (u38 24), (u38 25), (u38 26), (u38 27), (u38 28), (u38 29), (u38 30), (u38 31), (u38 32), (u38 33), (u38 34), (u38 35), (u38 36), (u38 37), (u38 38), (u38 39), (u38 40), U] ∧ Ch (fun k => w0.heap.size ≤ k) w0 w' ∧ Ch (fun k => w4.heap.size ≤ k) w6 w' ∧ kq ≤ x_p.Cands.length ∧ (OLv LT_54 w' w6.heap.size w'.heap.size ab5_2x ((x_p.Cands.take kq).filter (fun c : PCand => decide (x_now ≤ c.Until))).length cb5_2x ((x_p.Cands.take kq).filter (fun c : PCand => decide (x_now ≤ c.Until))) ∧ ((x_p.Cands.take kq).filter (fun c : PCand => decide (x_now ≤ c.Until))).length ≤ 1073741824) ∧ Blk w' g28 59 [(vi x_p.At.Host), (vi x_p.At.Port), (.slice ab5_2x ((x_p.Cands.take kq).filter (fun c : PCand => decide (x_now ≤ c.Until))).length cb5_2x)]) (fun e' _ => x_p.Cands.length - ((intOf (e' 6))).toNat) ?_ ?_
 ·exact ⟨0, (unL [_, U, _, _, _, _, _, _, _, _, U, U, _, _, _, U, U, U, U, U, U, U, U, U, U, U, U, U, U, U, U, U, U, U, U, U, U, U, U, U, U]), none, 0, rfl, m37, (Ch.refl (fun k => w4.heap.size ≤ k) w6), (by omega), (hE39 ▸ ⟨(OLv.nil w6 w6.heap.size w6.heap.size LT_54), (by simp)⟩), b35⟩
 ·rintro _ w7 ⟨kq, u38, ab5_2x, cb5_2x, rfl, m40, k41, i42, ⟨o43, s44⟩, hbx5⟩
  obtain ⟨y46, o47⟩ := OLv.ow o43
  refine wc_seq <| sr ?_
  refine mv (vi ((kq : Nat) : Int)) wN ?_
  refine pu (vp g6 2) wN ?_
  have b48 := (((b27.kp k31).ch k34 (Nat.ne_of_lt (Nat.lt_of_lt_of_le p8 (Nat.le_trans (t3 k15.size k19.size k23.size) p29)))).ch k41 (Nat.not_le.2 (Nat.lt_of_lt_of_le p8 (t3 k15.size k19.size k23.size))))
  refine ld (vs a1 x_p.Cands.length c2) wN isAgg_57 b48 ?_
  obtain ⟨y49, r50⟩ := RLv.row (r3.from0 m40)
  refine ln wN slTy_57 r50 ?_
  refine pu (vb (decide (((kq : Nat) : Int) < (x_p.Cands.length : Int)))) wN ?_
  refine wl_nil <| wq_then ?_
  rcases bf (decide (((kq : Nat) : Int) < (x_p.Cands.length : Int))) with h51 | h51
  ·have q205 := of_decide_eq_false h51
   refine cf h51 ?_
   refine wc_exit <| wq_then_exit ?_
   obtain rfl : kq = x_p.Cands.length := by omega
   refine wq_then_exit <| wq_blk_exit <| wq_then <| sr ?_
   refine lN [(vi x_p.At.Host), (vi x_p.At.Port), (vs ab5_2x ((x_p.Cands.take x_p.Cands.length).filter (fun c : PCand => decide (x_now ≤ c.Until))).length cb5_2x)] wN isAgg_59 sizeOf_59 hbx5 ?_
   have b206 := (((((b16.kp k19).kp k23).kp k31).ch k34 (Nat.ne_of_lt (Nat.lt_of_lt_of_le p14 (Nat.le_trans (Nat.le_trans k19.size k23.size) p29)))).ch k41 (Nat.not_le.2 (Nat.lt_of_lt_of_le p14 (Nat.le_trans k19.size k23.size))))
   refine st (va [(vi x_p.At.Host), (vi x_p.At.Port), (vs ab5_2x ((x_p.Cands.take x_p.Cands.length).filter (fun c : PCand => decide (x_now ≤ c.Until))).length cb5_2x)]) [(vi x_p.At.Host), (vi x_p.At.Port), (vs ab5_2x ((x_p.Cands.take x_p.Cands.length).filter (fun c : PCand => decide (x_now ≤ c.Until))).length cb5_2x)] [(vi x_p.At.Host), (vi x_p.At.Port), (vs ab5_2x ((x_p.Cands.take x_p.Cands.length).filter (fun c : PCand => decide (x_now ≤ c.Until))).length cb5_2x)] wN sizeOf_59 b206 ?_
   intro w8 k207 b208 z209
   have m210 := m40.ext k207 (fun k hk => by subst hk; exact Nat.le_trans k9.size p13)
   refine wl_nil <| wq_then <| wc_ret ?_
   have o211 := (OLv.ch o43 k207 (fun g h1 h2 hk => by have h3 := Nat.lt_of_lt_of_le p14 (t4 k19.size k23.size k31.size k34.size); omega))
   refine ret_1 (.inl rfl) (va [(vi x_p.At.Host), (vi x_p.At.Port), (vs ab5_2x ((x_p.Cands.take x_p.Cands.length).filter (fun c : PCand => decide (x_now ≤ c.Until))).length cb5_2x)]) rfl (rv_c [(vi x_p.At.Host), (vi x_p.At.Port), (vs ab5_2x ((x_p.Cands.take x_p.Cands.length).filter (fun c : PCand => decide (x_now ≤ c.Until))).length cb5_2x)] rfl b208 isAgg_59 sizeOf_59) ?_
   refine ⟨m210.keep0, ?_⟩
   have hF212 : F_spec_PathTick x_p x_now = { At := x_p.At, Cands := ((x_p.Cands.take x_p.Cands.length).filter (fun c : PCand => decide (x_now ≤ c.Until))) : PPaths } := by simp only [F_spec_PathTick, h21, h25, h51, cond_true, cond_false]
   rw [hF212]
   exact ⟨_, _, rfl, (OLv.now (OLv.low o211 (t6 k9.size k15.size k19.size k23.size k31.size k34.size))), s44, ⟨trivial, trivial⟩⟩
  have q52 := of_decide_eq_true h51
  refine ct h51 ?_
  refine wc_skip <| wq_then <| wc_seq <| wc_block <| sr ?_
  refine pu (vp g6 2) wN ?_
  refine ld (vs a1 x_p.Cands.length c2) wN isAgg_57 b48 ?_
  refine mv (vi ((kq : Nat) : Int)) wN ?_
  obtain ⟨y53, r54⟩ := RLv.row (r3.from0 m40)
  refine wl_index wN ((kq : Nat) : Int) rfl rfl rfl slTy_57 rfl rfl r54 (by first | omega | (simp only [List.length_cons, List.length_nil, List.length_replicate, List.length_append, List.length_take, List.length_set, List.length_map]; omega)) (by first | omega | (simp only [List.length_cons, List.length_nil, List.length_replicate, List.length_append, List.length_take, List.length_set, List.length_map]; omega)) ?_
  obtain ⟨y55, l56, r57, e58, u59⟩ := RLv.el z_PCand (i := kq) r3 (by first | omega | (simp only [List.length_cons, List.length_nil, List.length_replicate, List.length_append, List.length_take, List.length_set, List.length_map]; omega))
  obtain ⟨a60, c61, l65, rfl, r62, s63, u66⟩ := SubR.c u59
  obtain rfl := SubR.n u66
  refine wl_fieldE wN rfl rfl rfl fieldAt_54_2 rfl (r57.from0 m40) (by omega) ?_
  refine wl_loadE (vi ((x_p.Cands.getD kq z_PCand).Until)) wN rfl rfl rfl rfl isAgg_3 (r57.from0 m40) ((get_of (off := 3) e58 (by first | rfl | simp | omega) (by decide)).trans rfl) ?_
  refine mv (vi x_now) wN ?_
  refine pu (vb (decide (x_now ≤ (x_p.Cands.getD kq z_PCand).Until))) wN ?_
  refine wl_nil <| wq_then ?_
  rcases bf (decide (x_now ≤ (x_p.Cands.getD kq z_PCand).Until)) with h67 | h67
  ·have q203 := of_decide_eq_false h67
   refine cf h67 ?_
   refine wc_skip <| wq_blk_normal <| wq_then <| wc_region ?_
   refine mv (vi ((kq : Nat) : Int)) wN ?_
   refine ar (((kq : Nat) : Int) + 1) wN ?_
   refine ag (vi (((kq : Nat) : Int) + 1)) wN ?_
   refine wl_nil ?_
   have hE204 : (((x_p.Cands.take kq).filter (fun c : PCand => decide (x_now ≤ c.Until))) : List (PCand)) = (x_p.Cands.take (kq + 1)).filter (fun c : PCand => decide (x_now ≤ c.Until)) := by first | rfl | exact filt_t (z := z_PCand) (by omega) (by first | assumption | (simp only [Bool.not_eq_true']; assumption)) | exact filt_f (z := z_PCand) (by omega) (by first | assumption | (simp only [Bool.not_eq_false']; assumption))
   refine wq_loopQ (w0 := w7) (fun e => [e 0, e 1, e 2, e 3, e 4, e 5, (vi (((kq + 1) : Nat) : Int)), e 7, e 8, e 9, e 10, e 11, e 12, e 13, e 14, e 15, e 16, e 17, e 18, e 19, e 20, e 21, e 22, e 23, e 24, e 25, e 26, e 27, e 28, e 29, e 30, e 31, e 32, e 33, e 34, e 35, e 36, e 37, e 38, e 39, e 40, e 41, e 42, e 43, e 44, e 45, e 46]) rfl ?_ ?_ ?_
   · exact ⟨rfl, rfl, rfl, rfl, rfl, rfl, (congrArg (Value.int .i64) (show ((((kq : Nat) : Int) + 1) : Int) = (((kq + 1) : Nat) : Int) by omega)), rfl, rfl, rfl, rfl, rfl, rfl, rfl, rfl, rfl, rfl, rfl, rfl, rfl, rfl, rfl, rfl, rfl, rfl, rfl, rfl, rfl, rfl, rfl, rfl, rfl, rfl, rfl, rfl, rfl, rfl, rfl, rfl, rfl, rfl, rfl, rfl, rfl, rfl, rfl, rfl, trivial⟩
   · exact ⟨(kq + 1), (unL [_, _, _, _, _, _, _, _, _, _, _, _, _, _, _, _, _, _, _, _, _, _, _, _, _, _, _, _, _, _, _, _, _, _, _, _, _, _, _, _, _]), ab5_2x, cb5_2x, rfl, m40, ((Ch.refl (fun k => w4.heap.size ≤ k) w6).ext k41 (fun k hk => Nat.le_trans (Nat.le_refl w4.heap.size) hk)), (by omega), (hE204 ▸ ⟨(OLv.now o43), s44⟩), (by have hb := hbx5; rw [hE204] at hb; exact hb)⟩
   · show x_p.Cands.length - ((((kq + 1) : Nat) : Int)).toNat < x_p.Cands.length - (((kq : Nat) : Int)).toNat; omega
  have q68 := of_decide_eq_true h67
  refine ct h67 ?_
  refine wc_drawT ([(35, [], [], (fun _ v _ => v = (vp g28 2))), (36, [], [0], (fun _ v _ => v = (vs ab5_2x ((x_p.Cands.take kq).filter (fun c : PCand => decide (x_now ≤ c.Until))).length cb5_2x))), (37, [], [], (fun _ v _ => v = (vp g6 2))), (38, [], [2], (fun _ v _ => v = (vs a1 x_p.Cands.length c2))), (39, [], [], (fun _ v _ => v = (vi ((kq : Nat) : Int)))), (40, [], [2, 3, 4], (fun _ v _ => v = (ve (vs a1 x_p.Cands.length c2) ((((kq : Nat) : Int)).toNat * 4)))), (41, [], [2, 3, 4, 5], (fun _ v _ => v = (.agg #[(vi (((x_p.Cands.getD kq z_PCand).A).Host)), (vi (((x_p.Cands.getD kq z_PCand).A).Port)), (vs a60 (x_p.Cands.getD kq z_PCand).Draw.length c61), (vi ((x_p.Cands.getD kq z_PCand).Until))]))), (42, [], [2, 3, 4, 5, 6], (fun _ v w => ∃ (a1 : Option Addr) (c1 : Nat), v = .agg #[.int .i64 (((F_spec_l16Cand (x_p.Cands.getD kq z_PCand)).A).Host), .int .i64 (((F_spec_l16Cand (x_p.Cands.getD kq z_PCand)).A).Port), .slice a1 ((F_spec_l16Cand (x_p.Cands.getD kq z_PCand)).Draw).length c1, .int .i64 ((F_spec_l16Cand (x_p.Cands.getD kq z_PCand)).Until)] ∧ w.ownsRow (w7.heap.size) 5 1 (.slice a1 ((F_spec_l16Cand (x_p.Cands.getD kq z_PCand)).Draw).length c1) ((F_spec_l16Cand (x_p.Cands.getD kq z_PCand)).Draw).length (((F_spec_l16Cand (x_p.Cands.getD kq z_PCand)).Draw).map bV) ∧ ((F_spec_l16Cand (x_p.Cands.getD kq z_PCand)).Draw).length ≤ 1073741824 ∧ Aps [(a1, c1)])), (43, [42], [2, 3, 4, 5, 6, 7], (fun e v w => ∃ (a1 : Option Addr) (c1 : Nat), v = .slice a1 1 c1 ∧ w.ownsRow w7.heap.size 54 4 (.slice a1 1 c1) 1 [(vi (((F_spec_l16Cand (x_p.Cands.getD kq z_PCand)).A).Host)), (vi (((F_spec_l16Cand (x_p.Cands.getD kq z_PCand)).A).Port)), (cellAt (e 42) 2), (vi ((F_spec_l16Cand (x_p.Cands.getD kq z_PCand)).Until))]))] : GV) (fun _ w' => Keep w7 w') [] mixed rfl (by kernel_rfl) (by kernel_rfl) ?_ (fun _ _ h => h) (fun _ _ _ _ h _ k => h.trans k) trivial ?_ ?_ ?_
  ·exact ⟨(fun _ _ _ _ h _ => h), (fun _ _ _ _ _ h => h), ⟨(fun _ _ _ _ h _ => h), (fun _ _ _ _ _ h => h), ⟨(fun _ _ _ _ h _ => h), (fun _ _ _ _ _ h => h), ⟨(fun _ _ _ _ h _ => h), (fun _ _ _ _ _ h => h), ⟨(fun _ _ _ _ h _ => h), (fun _ _ _ _ _ h => h), ⟨(fun _ _ _ _ h _ => h), (fun _ _ _ _ _ h => h), ⟨(fun _ _ _ _ h _ => h), (fun _ _ _ _ _ h => h), ⟨(fun e v w w1 h hk => by obtain ⟨a0x, c0x, he, o0x, l0x, hap⟩ := h; exact ⟨a0x, c0x, he, own_kp o0x hk, l0x, hap⟩), (fun _ _ _ _ _ h => h), ⟨(fun e v w w1 h hk => by obtain ⟨a0x, c0x, he, o0x⟩ := h; exact ⟨a0x, c0x, he, own_kp o0x hk⟩), (fun e1 e2 v w hx h => by have h42x := hx 42 (by simp); simp only [h42x] at h; exact h), trivial⟩⟩⟩⟩⟩⟩⟩⟩⟩
  ·exact trivial
  ·refine ⟨?_, ⟨?_, ⟨?_, ⟨?_, ⟨?_, ⟨?_, ⟨?_, ⟨?_, ⟨?_, trivial⟩⟩⟩⟩⟩⟩⟩⟩⟩
   ·intro _ w8 k117 _
    have m118 := m40.extk k117
    rintro _ _ _ _ _ _ _ _ _
    show WL _ _ _ _ _ _ _
    refine pu (vp g28 2) wN ?_
    exact wl_finT (Ch.refl _ _) rfl
   ·intro _ w8 k119 _
    have m120 := m40.extk k119
    rintro _ rfl _ _ _ _ _ _ _ _
    show WL _ _ _ _ _ _ _
    have b121 := (hbx5.kp k119)
    refine ld (vs ab5_2x ((x_p.Cands.take kq).filter (fun c : PCand => decide (x_now ≤ c.Until))).length cb5_2x) wN isAgg_57 b121 ?_
    exact wl_finT (Ch.refl _ _) rfl
   ·intro _ w8 k122 _
    have m123 := m40.extk k122
    rintro _ _ _ _ _ _ _ _ _
    show WL _ _ _ _ _ _ _
    refine pu (vp g6 2) wN ?_
    exact wl_finT (Ch.refl _ _) rfl
   ·intro _ w8 k124 _
    have m125 := m40.extk k124
    rintro _ _ _ rfl _ _ _ _ _ _
    show WL _ _ _ _ _ _ _
    have b126 := (b48.kp k124)
    refine ld (vs a1 x_p.Cands.length c2) wN isAgg_57 b126 ?_
    exact wl_finT (Ch.refl _ _) rfl
   ·intro _ w8 k127 _
    have m128 := m40.extk k127
    rintro _ _ _ _ _ _ _ _ _
    show WL _ _ _ _ _ _ _
    refine mv (vi ((kq : Nat) : Int)) wN ?_
    exact wl_finT (Ch.refl _ _) rfl
   ·intro _ w8 k129 _
    have m130 := m40.extk k129
    rintro _ _ _ rfl _ rfl _ rfl _ _ _ _
    show WL _ _ _ _ _ _ _
    obtain ⟨y132, r133⟩ := RLv.row (r3.from0 m130)
    refine wl_index wN ((kq : Nat) : Int) rfl rfl rfl slTy_57 rfl rfl r133 (by first | omega | (simp only [List.length_cons, List.length_nil, List.length_replicate, List.length_append, List.length_take, List.length_set, List.length_map]; omega)) (by first | omega | (simp only [List.length_cons, List.length_nil, List.length_replicate, List.length_append, List.length_take, List.length_set, List.length_map]; omega)) ?_
    exact wl_finT (Ch.refl _ _) rfl
   ·intro _ w8 k134 _
    have m135 := m40.extk k134
    rintro _ _ _ rfl _ rfl _ rfl _ rfl _ _ _
    show WL _ _ _ _ _ _ _
    refine wl_loadEN [(vi (((x_p.Cands.getD kq z_PCand).A).Host)), (vi (((x_p.Cands.getD kq z_PCand).A).Port)), (vs a60 (x_p.Cands.getD kq z_PCand).Draw.length c61), (vi ((x_p.Cands.getD kq z_PCand).Until))] wN rfl rfl rfl rfl isAgg_54 sizeOf_54 (r57.from0 m135) (by first | omega | (simp only [List.length_cons, List.length_nil, List.length_replicate, List.length_append, List.length_take, List.length_set, List.length_map]; omega)) ((part_of (off := 0) (n := 4) e58 (by first | rfl | simp | omega) (by decide)).trans rfl) ?_
    exact wl_finT (Ch.refl _ _) rfl
   ·intro _ w8 k139 _
    have m140 := m40.extk k139
    rintro _ _ _ rfl _ rfl _ rfl _ rfl _ rfl _ _
    show WL _ _ _ _ _ _ _
    refine cl wN (C_spec_l16Cand w8 _ (x_p.Cands.getD kq z_PCand) (mR_54 (r62.from0 m140) s63)) ?_
    rintro _ w9 ⟨k144, ⟨a145, c146, rfl, o147, s148, ap150⟩⟩
    have m151 := m140.extk k144
    exact wl_finT k144 ⟨_, _, rfl, (own_lo o147 k139.size), s148, ap150⟩
   ·intro _ w8 k152 _
    have m153 := m40.extk k152
    rintro _ _ _ rfl _ rfl _ rfl _ rfl _ rfl _ ⟨a157, c158, rfl, o159, s160, ap162⟩ _
    show WL _ _ _ _ _ _ _
    refine wl_lit [(vi (((F_spec_l16Cand (x_p.Cands.getD kq z_PCand)).A).Host)), (vi (((F_spec_l16Cand (x_p.Cands.getD kq z_PCand)).A).Port)), (vs a157 ((F_spec_l16Cand (x_p.Cands.getD kq z_PCand)).Draw).length c158), (vi ((F_spec_l16Cand (x_p.Cands.getD kq z_PCand)).Until))] wN rfl rfl slTy_57 (m := 1) rfl (by simp only [maxLen]; omega) (fun w => by kernel_rfl) ?_
    intro u163 w9 k164 o165
    obtain ⟨a166, c167, rfl⟩ := own_form o165
    have m168 := m153.extk k164
    exact wl_finT k164 ⟨_, _, rfl, own_lo o165 k152.size⟩
  ·intro _ w8 k170
   have m171 := m40.extk k170
   rintro _ rfl _ rfl _ rfl _ rfl _ rfl _ rfl _ rfl _ ⟨a176, c177, rfl, o178, s179, ap181⟩ _ ⟨a182, c183, rfl, o184⟩
   show WL _ _ _ _ _ _ _
   have o186 := (OLv.kp o43 k170)
   refine wl_appL (L := LT_54) (xs := ((x_p.Cands.take kq).filter (fun c : PCand => decide (x_now ≤ c.Until)))) (el := (F_spec_l16Cand (x_p.Cands.getD kq z_PCand))) (l := [(a176, c177)]) wN slTy_57 o186 (Rd.of_own o184) ⟨⟨o178, s179⟩, trivial⟩ ⟨trivial, trivial⟩ (Nat.le_refl _) k41.size (by first | omega | (simp only [List.length_take, List.length_append, List.length_cons, List.length_nil]; omega) | (refine Nat.le_trans (Nat.succ_le_succ (List.length_filter_le _ _)) ?_; simp only [List.length_take]; omega)) (Nat.le_trans k41.size k170.size) ?_
   intro a187 c188 w9 k189 o190
   have m191 := m171.ext k189 (fun k hk => Nat.le_trans (t6 k9.size k15.size k19.size k23.size k31.size k34.size) (own_lt o47 k hk).1)
   obtain ⟨y194, o195⟩ := OLv.ow o190
   refine pu (vp g28 2) wN ?_
   have b196 := ((hbx5.kp k170).ch k189 (fun h => by have := (own_lt o47 _ h).1; have := Nat.lt_of_lt_of_le p30 k34.size; omega))
   refine st (vs a187 (((x_p.Cands.take kq).filter (fun c : PCand => decide (x_now ≤ c.Until))) ++ [(F_spec_l16Cand (x_p.Cands.getD kq z_PCand))]).length c188) [(vs a187 (((x_p.Cands.take kq).filter (fun c : PCand => decide (x_now ≤ c.Until))) ++ [(F_spec_l16Cand (x_p.Cands.getD kq z_PCand))]).length c188)] [(vi x_p.At.Host), (vi x_p.At.Port), (vs a187 (((x_p.Cands.take kq).filter (fun c : PCand => decide (x_now ≤ c.Until))) ++ [(F_spec_l16Cand (x_p.Cands.getD kq z_PCand))]).length c188)] wN sizeOf_57 b196 ?_
   intro w10 k197 b198 z199
   have m200 := m191.ext k197 (fun k hk => by subst hk; exact Nat.le_trans (t4 k9.size k15.size k19.size k23.size) p29)
   refine wl_nil <| wq_blk_normal <| wq_then <| wc_region ?_
   refine mv (vi ((kq : Nat) : Int)) wN ?_
   refine ar (((kq : Nat) : Int) + 1) wN ?_
   refine ag (vi (((kq : Nat) : Int) + 1)) wN ?_
   refine wl_nil ?_
   have o201 := (OLv.ch o190 k197 (fun g h1 h2 hk => by have h3 := Nat.lt_of_lt_of_le p30 k34.size; omega))
   have hE202 : ((((x_p.Cands.take kq).filter (fun c : PCand => decide (x_now ≤ c.Until))) ++ [(F_spec_l16Cand (x_p.Cands.getD kq z_PCand))]) : List (PCand)) = (x_p.Cands.take (kq + 1)).filter (fun c : PCand => decide (x_now ≤ c.Until)) := by first | rfl | exact filt_t (z := z_PCand) (by omega) (by first | assumption | (simp only [Bool.not_eq_true']; assumption)) | exact filt_f (z := z_PCand) (by omega) (by first | assumption | (simp only [Bool.not_eq_false']; assumption))
   refine wq_loopQ (w0 := w7) (fun e => [e 0, e 1, e 2, e 3, e 4, e 5, (vi (((kq + 1) : Nat) : Int)), e 7, e 8, e 9, e 10, e 11, e 12, e 13, e 14, e 15, e 16, e 17, e 18, e 19, e 20, e 21, e 22, e 23, e 24, e 25, e 26, e 27, e 28, e 29, e 30, e 31, e 32, e 33, e 34, e 35, e 36, e 37, e 38, e 39, e 40, e 41, e 42, e 43, e 44, e 45, e 46]) rfl ?_ ?_ ?_
   · exact ⟨rfl, rfl, rfl, rfl, rfl, rfl, (congrArg (Value.int .i64) (show ((((kq : Nat) : Int) + 1) : Int) = (((kq + 1) : Nat) : Int) by omega)), rfl, rfl, rfl, rfl, rfl, rfl, rfl, rfl, rfl, rfl, rfl, rfl, rfl, rfl, rfl, rfl, rfl, rfl, rfl, rfl, rfl, rfl, rfl, rfl, rfl, rfl, rfl, rfl, rfl, rfl, rfl, rfl, rfl, rfl, rfl, rfl, rfl, rfl, rfl, rfl, trivial⟩
   · exact ⟨(kq + 1), (unL [_, _, _, _, _, _, _, _, _, _, _, _, _, _, _, _, _, _, _, _, _, _, _, _, _, _, _, _, _, _, _, _, _, _, _, _, _, _, _, _, _]), a187, c188, rfl, m200, (((((Ch.refl (fun k => w4.heap.size ≤ k) w6).ext k41 (fun k hk => Nat.le_trans (Nat.le_refl w4.heap.size) hk)).extk k170).ext k189 (fun k hk => Nat.le_trans (Nat.le_trans k31.size k34.size) (own_lt o47 k hk).1)).ext k197 (fun k hk => by subst hk; exact Nat.le_trans (Nat.le_refl w4.heap.size) p29)), (by omega), (hE202 ▸ ⟨(OLv.now o201), (OLv.small o190)⟩), (by have hb := b198; rw [hE202] at hb; exact hb)⟩
   · show x_p.Cands.length - ((((kq + 1) : Nat) : Int)).toNat < x_p.Cands.length - (((kq : Nat) : Int)).toNat; omega
theorem pathTick_len (p : PPaths) (n : Int) : (F_spec_PathTick p n).Cands.length ≤ p.Cands.length := by
  simp only [F_spec_PathTick, cond_eq_ite]
  (repeat' split) <;> first | exact Nat.le_refl _ | exact Nat.le_trans (List.length_filter_le _ _) (List.length_take_le _ _)

def F_impl_within (x_n : Int) (x_low : Int) (x_high : Int) : (Bool) := bif (decide (x_low ≤ x_n)) then (decide (x_n ≤ x_high)) else (false)
theorem C_impl_within (w0 : World) (x_n : Int) (x_low : Int) (x_high : Int)  : Fn Try.prog 82 #[(vi x_n), (vi x_low), (vi x_high)] w0 (fun v w' => Keep w0 w' ∧ O_4 w' w0.heap.size v (F_impl_within x_n x_low x_high)) := by
 refine fn_of (n := 15) (l := [(vi x_n), (vi x_low), (vi x_high), U, U, U, U, U, U, U, U, U, U, U, U]) Try.func82 rfl rfl (by kernel_rfl) rfl ?_
 refine sr ?_
 refine ag (vb false) wN ?_
 refine nx ?_
 refine mv (vi x_n) wN ?_
 refine mv (vi x_low) wN ?_
 refine pu (vb (decide (x_low ≤ x_n))) wN ?_
 refine mv (vb (decide (x_low ≤ x_n))) wN ?_
 rcases bf (decide (x_low ≤ x_n)) with h1 | h1
 ·have q4 := of_decide_eq_false h1
  refine sk h1 ?_
  refine sk h1 ?_
  refine sk h1 ?_
  refine pf (vb false) wN h1 ?_
  refine ag (vb false) wN ?_
  refine wl_nil <| wq_then <| wc_ret ?_
  refine ret_1 (.inl rfl) (vb false) rfl rfl ?_
  refine ⟨Ch.refl _ _, ?_⟩
  have hF5 : F_impl_within x_n x_low x_high = false := by simp only [F_impl_within, h1, cond_true, cond_false]
  rw [hF5]
  exact rfl
 have q2 := of_decide_eq_true h1
 refine mv (vi x_n) (wS h1) ?_
 refine mv (vi x_high) (wS h1) ?_
 refine pu (vb (decide (x_n ≤ x_high))) (wS h1) ?_
 refine pk (vb (decide (x_n ≤ x_high))) wN h1 ?_
 refine ag (vb (decide (x_n ≤ x_high))) wN ?_
 refine wl_nil <| wq_then <| wc_ret ?_
 refine ret_1 (.inl rfl) (vb (decide (x_n ≤ x_high))) rfl rfl ?_
 refine ⟨Ch.refl _ _, ?_⟩
 have hF3 : F_impl_within x_n x_low x_high = decide (x_n ≤ x_high) := by simp only [F_impl_within, h1, cond_true, cond_false]
 rw [hF3]
 exact rfl
theorem impl_within_t {n a b : Int} (h : F_impl_within n a b = true) : a ≤ n ∧ n ≤ b := by
  unfold F_impl_within at h
  by_cases h1 : a ≤ n <;> simp [h1] at h
  exact ⟨h1, h⟩
theorem impl_within_f {n a b : Int} (h : F_impl_within n a b = false) : n < a ∨ b < n := by
  unfold F_impl_within at h
  by_cases h1 : a ≤ n <;> simp [h1] at h <;> omega

def F_impl_AddrOk (x_a : PAddr) : (Bool) := bif (F_impl_within x_a.Host 0 4294967295) then ((F_impl_within x_a.Port 0 65535)) else (false)
theorem C_impl_AddrOk (w0 : World) (v_x_a : Value) (x_a : PAddr) (r_x_a : R_26 w0 v_x_a x_a)  : Fn Try.prog 81 #[v_x_a] w0 (fun v w' => Keep w0 w' ∧ O_4 w' w0.heap.size v (F_impl_AddrOk x_a)) := by
 obtain rfl := r_x_a
 refine fn_of (n := 11) (l := [(va (L_26 x_a)), U, U, U, U, U, U, U, U, U, U]) Try.func81 rfl rfl (by kernel_rfl) rfl ?_
 refine sr ?_
 refine bx (L_26 x_a) wN ?_
 intro g1 w1 p2 p3 k4 b5
 have m6 := (Ch.base w0).extk k4
 refine ag (vb false) wN ?_
 refine nx ?_
 refine pu (vp g1 0) wN ?_
 refine ld (vi x_a.Host) wN isAgg_3 b5 ?_
 refine cl wN (C_impl_within w1 x_a.Host 0 4294967295) ?_
 rintro _ w2 ⟨k7, rfl⟩
 have m8 := m6.extk k7
 refine mv (vb (F_impl_within x_a.Host 0 4294967295)) wN ?_
 rcases bf (F_impl_within x_a.Host 0 4294967295) with h9 | h9
 ·have q15 := impl_within_f h9
  refine sk h9 ?_
  refine sk h9 ?_
  refine sk h9 ?_
  refine pf (vb false) wN h9 ?_
  refine ag (vb false) wN ?_
  refine wl_nil <| wq_then <| wc_ret ?_
  refine ret_1 (.inl rfl) (vb false) rfl rfl ?_
  refine ⟨m8.keep0, ?_⟩
  have hF16 : F_impl_AddrOk x_a = false := by simp only [F_impl_AddrOk, h9, cond_true, cond_false]
  rw [hF16]
  exact rfl
 have q10 := impl_within_t h9
 refine pu (vp g1 1) (wS h9) ?_
 have b11 := (b5.kp k7)
 refine ld (vi x_a.Port) (wS h9) isAgg_3 b11 ?_
 refine cl (wS h9) (C_impl_within w2 x_a.Port 0 65535) ?_
 rintro _ w3 ⟨k12, rfl⟩
 have m13 := m8.extk k12
 refine pk (vb (F_impl_within x_a.Port 0 65535)) wN h9 ?_
 refine ag (vb (F_impl_within x_a.Port 0 65535)) wN ?_
 refine wl_nil <| wq_then <| wc_ret ?_
 refine ret_1 (.inl rfl) (vb (F_impl_within x_a.Port 0 65535)) rfl rfl ?_
 refine ⟨m13.keep0, ?_⟩
 have hF14 : F_impl_AddrOk x_a = (F_impl_within x_a.Port 0 65535) := by simp only [F_impl_AddrOk, h9, cond_true, cond_false]
 rw [hF14]
 exact rfl

def F_impl_isNonce (x_b : List UInt8) : (Bool) := decide ((x_b.length : Int) = 12)
theorem C_impl_isNonce (w0 : World) (v_x_b : Value) (x_b : List UInt8) (r_x_b : R_22 w0 v_x_b x_b)  : Fn Try.prog 108 #[v_x_b] w0 (fun v w' => Keep w0 w' ∧ O_4 w' w0.heap.size v (F_impl_isNonce x_b)) := by
 obtain ⟨a1, c2, rfl, r3, s4⟩ := r_x_b
 refine fn_of (n := 6) (l := [(vs a1 x_b.length c2), U, U, U, U, U]) Try.func108 rfl rfl (by kernel_rfl) rfl ?_
 refine sr ?_
 refine ag (vb false) wN ?_
 refine nx ?_
 refine mv (vs a1 x_b.length c2) wN ?_
 refine ln wN slTy_22 r3 ?_
 refine pu (vb (decide ((x_b.length : Int) = 12))) wN ?_
 refine ag (vb (decide ((x_b.length : Int) = 12))) wN ?_
 refine wl_nil <| wq_then <| wc_ret ?_
 refine ret_1 (.inl rfl) (vb (decide ((x_b.length : Int) = 12))) rfl rfl ?_
 refine ⟨Ch.refl _ _, ?_⟩
 have hF6 : F_impl_isNonce x_b = decide ((x_b.length : Int) = 12) := by rfl
 rw [hF6]
 exact rfl

def iPaJ (x_p : PPaths) (i j : Nat) : Bool := !(decide (((x_p.Cands.take i).getD j z_PCand).A.Host = (x_p.Cands.getD i z_PCand).A.Host) && decide (((x_p.Cands.take i).getD j z_PCand).A.Port = (x_p.Cands.getD i z_PCand).A.Port))
def iPaG (x_p : PPaths) (i : Nat) : Bool := (F_impl_AddrOk (x_p.Cands.getD i z_PCand).A) && ((!(decide ((x_p.Cands.getD i z_PCand).A.Host = x_p.At.Host) && decide ((x_p.Cands.getD i z_PCand).A.Port = x_p.At.Port))) && ((F_impl_isNonce (x_p.Cands.getD i z_PCand).Draw) && ((F_impl_within (x_p.Cands.getD i z_PCand).Until 0 1000006) && (allN (iPaJ x_p i) i))))
def iPa (x_p : PPaths) : Bool := bif F_impl_AddrOk x_p.At then (bif decide (3 < (x_p.Cands.length : Int)) then false else allN (iPaG x_p) x_p.Cands.length) else false
theorem C_impl_PathsOk (w0 : World) (v_x_p : Value) (x_p : PPaths) (r_x_p : R_59 w0 v_x_p x_p)  : Fn Try.prog 44 #[v_x_p] w0 (fun v w' => Keep w0 w' ∧ O_4 w' w0.heap.size v (iPa x_p)) := by
 obtain ⟨a1, c2, rfl, r3, s4⟩ := r_x_p
 refine fn_of (n := 64) (l := [(va (L_59 x_p a1 c2)), U, U, U, U, U, U, U, U, U, U, U, U, U, U, U, U, U, U, U, U, U, U, U, U, U, U, U, U, U, U, U, U, U, U, U, U, U, U, U, U, U, U, U, U, U, U, U, U, U, U, U, U, U, U, U, U, U, U, U, U, U, U, U]) Try.func44 rfl rfl (by kernel_rfl) rfl ?_
 refine sr ?_
 refine bx (L_59 x_p a1 c2) wN ?_
 intro g6 w1 p7 p8 k9 b10
 have m11 := (Ch.base w0).extk k9
 refine ag (vb false) wN ?_
 refine wl_nil <| wq_then <| wc_seq <| sr ?_
 refine pu (vp g6 0) wN ?_
 refine lN (L_26 x_p.At) wN isAgg_26 sizeOf_26 b10 ?_
 refine cl wN (C_impl_AddrOk w1 _ x_p.At (mR_26)) ?_
 rintro _ w2 ⟨k12, rfl⟩
 have m13 := m11.extk k12
 refine pu (vb (!(F_impl_AddrOk x_p.At))) wN ?_
 refine mv (vb (!(F_impl_AddrOk x_p.At))) wN ?_
 rcases bf (F_impl_AddrOk x_p.At) with h14 | h14
 ·refine sk (congrArg not h14) ?_
  refine sk (congrArg not h14) ?_
  refine sk (congrArg not h14) ?_
  refine sk (congrArg not h14) ?_
  refine pk (vb true) wN (congrArg not h14) ?_
  refine wl_nil <| wq_then ?_
  refine ct (Eq.refl true) ?_
  refine sr ?_
  refine ag (vb false) wN ?_
  refine wl_nil <| wq_then <| wc_ret <| wq_then_ret ?_
  refine ret_1 (.inl rfl) (vb false) rfl rfl ?_
  refine ⟨m13.keep0, ?_⟩
  have hF131 : iPa x_p = false := by simp [iPa, h14]
  rw [hF131]
  exact rfl
 refine pu (vp g6 2) (wS (congrArg not h14)) ?_
 have b16 := (b10.kp k12)
 refine ld (vs a1 x_p.Cands.length c2) (wS (congrArg not h14)) isAgg_57 b16 ?_
 obtain ⟨y17, r18⟩ := RLv.row (r3.from0 m13)
 refine ln (wS (congrArg not h14)) slTy_57 r18 ?_
 refine pu (vb (decide (3 < (x_p.Cands.length : Int)))) (wS (congrArg not h14)) ?_
 refine pf (vb (decide (3 < (x_p.Cands.length : Int)))) wN (congrArg not h14) ?_
 refine wl_nil <| wq_then ?_
 rcases bt (decide (3 < (x_p.Cands.length : Int))) with h19 | h19
 ·have q20 := of_decide_eq_true h19
  refine ct h19 ?_
  refine sr ?_
  refine ag (vb false) wN ?_
  refine wl_nil <| wq_then <| wc_ret <| wq_then_ret ?_
  refine ret_1 (.inl rfl) (vb false) rfl rfl ?_
  refine ⟨m13.keep0, ?_⟩
  have hF21 : iPa x_p = false := by simp [iPa, h14, h19]
  rw [hF21]
  exact rfl
 have q22 := of_decide_eq_false h19
 refine cf h19 ?_
 refine wc_skip <| wq_then <| wc_seq <| sr ?_
 refine pu (vp g6 2) wN ?_
 refine ld (vs a1 x_p.Cands.length c2) wN isAgg_57 b16 ?_
 obtain ⟨y23, r24⟩ := RLv.row (r3.from0 m13)
 refine ln wN slTy_57 r24 ?_
 refine mv (vi 0) wN ?_
 refine wl_nil <| wq_then <| wc_block ?_
 refine wc_normQ (fun e => [e 0, e 1, e 2, e 3, e 4, e 5, e 6, e 7, e 8, e 9, e 10, e 11, e 12, e 13, e 14, e 15, e 16, e 17, e 18, e 19, (vi ((0 : Nat) : Int)), e 21, e 22, e 23, e 24, e 25, e 26, e 27, e 28, e 29, e 30, e 31, e 32, e 33, e 34, e 35, e 36, e 37, e 38, e 39, e 40, e 41, e 42, e 43, e 44, e 45, e 46, e 47, e 48, e 49, e 50, e 51, e 52, e 53, e 54, e 55, e 56, e 57, e 58, e 59, e 60, e 61, e 62, e 63]) rfl ⟨rfl, rfl, rfl, rfl, rfl, rfl, rfl, rfl, rfl, rfl, rfl, rfl, rfl, rfl, rfl, rfl, rfl, rfl, rfl, rfl, (congrArg (Value.int .i64) (show (0 : Int) = ((0 : Nat) : Int) by omega)), rfl, rfl, rfl, rfl, rfl, rfl, rfl, rfl, rfl, rfl, rfl, rfl, rfl, rfl, rfl, rfl, rfl, rfl, rfl, rfl, rfl, rfl, rfl, rfl, rfl, rfl, rfl, rfl, rfl, rfl, rfl, rfl, rfl, rfl, rfl, rfl, rfl, rfl, rfl, rfl, rfl, rfl, rfl, trivial⟩ ?_
 refine wc_loop (fun e' w' => ∃ (k : Nat) (u25 : Nat → Value), e' = lst [(u25 0), (vp g6 0), (u25 1), (u25 2), (u25 3), (u25 4), (u25 5), (u25 6), (u25 7), (u25 8), (u25 9), (u25 10), (u25 11), (u25 12), (u25 13), (u25 14), (u25 15), (u25 16), (vs a1 x_p.Cands.length c2), (vi (x_p.Cands.length : Int)), (vi ((k : Nat) : Int)), (u25 17), (u25 18), (u25 19), (u25 20), (u25 21), (u25 22), (u25 23), (u25 24), (u25 25), (u25 26), (u25 27), (u25 28), (u25 29), (u25 30), (u25 31), (u25 32), (u25 33), (u25 34), (u25 35), (u25 36), (u25 37), (u25 38), (u25 39), (u25 40), (u25 41), (u25 42), (u25 43), (u25 44), (u25 45), (u25 46), (u25 47), (u25 48), (u25 49), (u25 50), (u25 51), (u25 52), (u25 53), (u25 54), (u25 55), (u25 56), (u25 57), (u25 58), (u25 59)] ∧ Ch (fun k => w0.heap.size ≤ k) w0 w' ∧ Ch (fun k => w2.heap.size ≤ k) w2 w' ∧ k ≤ x_p.Cands.length ∧ ∀ j, j < k → iPaG x_p j = true) (fun e' _ => x_p.Cands.length - ((intOf (e' 20))).toNat) ?_ ?_
 ·exact ⟨0, (unL [_, _, U, U, U, U, _, _, _, _, _, _, _, _, _, _, _, U, U, U, U, U, U, U, U, U, U, U, U, U, U, U, U, U, U, U, U, U, U, U, U, U, U, U, U, U, U, U, U, U, U, U, U, U, U, U, U, U, U, U]), rfl, m13, (Ch.refl (fun k => w2.heap.size ≤ k) w2), (by omega), (by first | (intro j hj; omega) | (have hy := allN_t (f := iPaJ x_p k) (n := k) (k := j) (by assumption) (by omega); exact allN_next (by assumption) (by simp only [iPaG, hy, h14, h19]; simp)))⟩
 ·rintro _ w3 ⟨k, u25, rfl, m26, k27, i28, i29⟩
  refine sr ?_
  refine pu (vb (decide (((k : Nat) : Int) < (x_p.Cands.length : Int)))) wN ?_
  refine wl_nil <| wq_then <| wc_seq ?_
  rcases bf (decide (((k : Nat) : Int) < (x_p.Cands.length : Int))) with h30 | h30
  ·have q128 := of_decide_eq_false h30
   refine cf h30 ?_
   refine wc_exit <| wq_then_exit <| wq_then_exit <| wq_blk_exit <| wq_then <| sr ?_
   refine ag (vb true) wN ?_
   refine wl_nil <| wq_then <| wc_ret ?_
   refine ret_1 (.inl rfl) (vb true) rfl rfl ?_
   refine ⟨m26.keep0, ?_⟩
   have hF129 : iPa x_p = true := by have hz := allN_t (f := iPaG x_p) (n := x_p.Cands.length) (k := k) (by assumption) (by omega); simp only [iPa, h14, h19, h30, hz]; simp
   rw [hF129]
   exact rfl
  have q31 := of_decide_eq_true h30
  refine ct h30 ?_
  refine wc_skip <| wq_then <| wc_seq <| wc_block <| sr ?_
  refine mv (vi ((k : Nat) : Int)) wN ?_
  obtain ⟨y32, r33⟩ := RLv.row (r3.from0 m26)
  refine wl_index wN ((k : Nat) : Int) rfl rfl rfl slTy_57 rfl rfl r33 (by first | omega | (simp only [List.length_cons, List.length_nil, List.length_replicate, List.length_append, List.length_take, List.length_set, List.length_map]; omega)) (by first | omega | (simp only [List.length_cons, List.length_nil, List.length_replicate, List.length_append, List.length_take, List.length_set, List.length_map]; omega)) ?_
  obtain ⟨y34, l35, r36, e37, u38⟩ := RLv.el z_PCand (i := k) r3 (by first | omega | (simp only [List.length_cons, List.length_nil, List.length_replicate, List.length_append, List.length_take, List.length_set, List.length_map]; omega))
  obtain ⟨a39, c40, l44, rfl, r41, s42, u45⟩ := SubR.c u38
  obtain rfl := SubR.n u45
  refine wl_loadEN [(vi (((x_p.Cands.getD k z_PCand).A).Host)), (vi (((x_p.Cands.getD k z_PCand).A).Port)), (vs a39 (x_p.Cands.getD k z_PCand).Draw.length c40), (vi ((x_p.Cands.getD k z_PCand).Until))] wN rfl rfl rfl rfl isAgg_54 sizeOf_54 (r36.from0 m26) (by first | omega | (simp only [List.length_cons, List.length_nil, List.length_replicate, List.length_append, List.length_take, List.length_set, List.length_map]; omega)) ((part_of (off := 0) (n := 4) e37 (by first | rfl | simp | omega) (by decide)).trans rfl) ?_
  refine al [(vi 0), (vi 0), (vs none 0 0), (vi 0)] wN zero_54 ?_
  intro g46 w4 p47 p48 k49 b50
  have m51 := m26.extk k49
  refine ag (vi ((k : Nat) : Int)) wN ?_
  refine st (va [(vi (((x_p.Cands.getD k z_PCand).A).Host)), (vi (((x_p.Cands.getD k z_PCand).A).Port)), (vs a39 (x_p.Cands.getD k z_PCand).Draw.length c40), (vi ((x_p.Cands.getD k z_PCand).Until))]) [(vi (((x_p.Cands.getD k z_PCand).A).Host)), (vi (((x_p.Cands.getD k z_PCand).A).Port)), (vs a39 (x_p.Cands.getD k z_PCand).Draw.length c40), (vi ((x_p.Cands.getD k z_PCand).Until))] [(vi (((x_p.Cands.getD k z_PCand).A).Host)), (vi (((x_p.Cands.getD k z_PCand).A).Port)), (vs a39 (x_p.Cands.getD k z_PCand).Draw.length c40), (vi ((x_p.Cands.getD k z_PCand).Until))] wN sizeOf_54 b50 ?_
  intro w5 k52 b53 z54
  have m55 := m51.ext k52 (fun k hk => by subst hk; exact Nat.le_trans (t3 k9.size k12.size k27.size) p47)
  refine wl_nil <| wq_then <| wc_seq <| sr ?_
  refine pu (vp g46 0) wN ?_
  refine lN (L_26 ((x_p.Cands.getD k z_PCand).A)) wN isAgg_26 sizeOf_26 b53 ?_
  refine cl wN (C_impl_AddrOk w5 _ ((x_p.Cands.getD k z_PCand).A) (mR_26)) ?_
  rintro _ w6 ⟨k56, rfl⟩
  have m57 := m55.extk k56
  refine pu (vb (!(F_impl_AddrOk ((x_p.Cands.getD k z_PCand).A)))) wN ?_
  refine mv (vb (!(F_impl_AddrOk ((x_p.Cands.getD k z_PCand).A)))) wN ?_
  rcases bf (F_impl_AddrOk ((x_p.Cands.getD k z_PCand).A)) with h58 | h58
  ·refine sk (congrArg not h58) ?_
   refine sk (congrArg not h58) ?_
   refine sk (congrArg not h58) ?_
   refine sk (congrArg not h58) ?_
   refine sk (congrArg not h58) ?_
   refine pk (vb true) wN (congrArg not h58) ?_
   refine mv (vb true) wN ?_
   refine sk (Eq.refl true) ?_
   refine sk (Eq.refl true) ?_
   refine sk (Eq.refl true) ?_
   refine sk (Eq.refl true) ?_
   refine pk (vb true) wN (Eq.refl true) ?_
   refine mv (vb true) wN ?_
   refine sk (Eq.refl true) ?_
   refine sk (Eq.refl true) ?_
   refine sk (Eq.refl true) ?_
   refine sk (Eq.refl true) ?_
   refine pk (vb true) wN (Eq.refl true) ?_
   refine wl_nil <| wq_then ?_
   refine ct (Eq.refl true) ?_
   refine sr ?_
   refine ag (vb false) wN ?_
   refine wl_nil <| wq_then <| wc_ret <| wq_then_ret <| wq_blk_ret <| wq_then_ret <| wq_then_ret <| wq_blk_ret <| wq_then_ret ?_
   refine ret_1 (.inl rfl) (vb false) rfl rfl ?_
   refine ⟨m57.keep0, ?_⟩
   have hF127 : iPa x_p = false := by have hz := allN_f (f := iPaG x_p) (n := x_p.Cands.length) (k := k) (by omega) (by simp only [iPaG, h14, h19, h30, h58]; simp); simp only [iPa, h14, h19, h30, h58, hz]; simp
   rw [hF127]
   exact rfl
  refine pu (vp g46 0) (wS (congrArg not h58)) ?_
  have b60 := (b53.kp k56)
  refine lN (L_26 ((x_p.Cands.getD k z_PCand).A)) (wS (congrArg not h58)) isAgg_26 sizeOf_26 b60 ?_
  refine pu (vp g6 0) (wS (congrArg not h58)) ?_
  have b61 := ((((b16.ch k27 (Nat.not_le.2 (Nat.lt_of_lt_of_le p8 k12.size))).kp k49).ch k52 (Nat.ne_of_lt (Nat.lt_of_lt_of_le p8 (Nat.le_trans (Nat.le_trans k12.size k27.size) p47)))).kp k56)
  refine lN (L_26 x_p.At) (wS (congrArg not h58)) isAgg_26 sizeOf_26 b61 ?_
  refine wl_aggeq ((decide ((((x_p.Cands.getD k z_PCand).A).Host) = x_p.At.Host) && decide ((((x_p.Cands.getD k z_PCand).A).Port) = x_p.At.Port))) (wS (congrArg not h58)) rfl rfl rfl rfl rfl guardt_26 (aggeq_26 (((x_p.Cands.getD k z_PCand).A).Host) x_p.At.Host (((x_p.Cands.getD k z_PCand).A).Port) x_p.At.Port w6) ?_
  refine pf (vb (decide ((((x_p.Cands.getD k z_PCand).A).Host) = x_p.At.Host) && decide ((((x_p.Cands.getD k z_PCand).A).Port) = x_p.At.Port))) wN (congrArg not h58) ?_
  refine mv (vb (decide ((((x_p.Cands.getD k z_PCand).A).Host) = x_p.At.Host) && decide ((((x_p.Cands.getD k z_PCand).A).Port) = x_p.At.Port))) wN ?_
  rcases bt (decide ((((x_p.Cands.getD k z_PCand).A).Host) = x_p.At.Host) && decide ((((x_p.Cands.getD k z_PCand).A).Port) = x_p.At.Port)) with h62 | h62
  ·refine sk h62 ?_
   refine sk h62 ?_
   refine sk h62 ?_
   refine sk h62 ?_
   refine pk (vb true) wN h62 ?_
   refine mv (vb true) wN ?_
   refine sk (Eq.refl true) ?_
   refine sk (Eq.refl true) ?_
   refine sk (Eq.refl true) ?_
   refine sk (Eq.refl true) ?_
   refine pk (vb true) wN (Eq.refl true) ?_
   refine wl_nil <| wq_then ?_
   refine ct (Eq.refl true) ?_
   refine sr ?_
   refine ag (vb false) wN ?_
   refine wl_nil <| wq_then <| wc_ret <| wq_then_ret <| wq_blk_ret <| wq_then_ret <| wq_then_ret <| wq_blk_ret <| wq_then_ret ?_
   refine ret_1 (.inl rfl) (vb false) rfl rfl ?_
   refine ⟨m57.keep0, ?_⟩
   have hF64 : iPa x_p = false := by have hz := allN_f (f := iPaG x_p) (n := x_p.Cands.length) (k := k) (by omega) (by simp only [iPaG, h14, h19, h30, h58, h62]; simp); simp only [iPa, h14, h19, h30, h58, h62, hz]; simp
   rw [hF64]
   exact rfl
  refine pu (vp g46 2) (wS h62) ?_
  refine ld (vs a39 (x_p.Cands.getD k z_PCand).Draw.length c40) (wS h62) isAgg_22 b60 ?_
  refine cl (wS h62) (C_impl_isNonce w6 _ ((x_p.Cands.getD k z_PCand).Draw) (mR_22 (r41.from0 m57) s42)) ?_
  rintro _ w7 ⟨k66, rfl⟩
  have m67 := m57.extk k66
  refine pu (vb (!(F_impl_isNonce ((x_p.Cands.getD k z_PCand).Draw)))) (wS h62) ?_
  refine pf (vb (!(F_impl_isNonce ((x_p.Cands.getD k z_PCand).Draw)))) wN h62 ?_
  refine mv (vb (!(F_impl_isNonce ((x_p.Cands.getD k z_PCand).Draw)))) wN ?_
  rcases bf (F_impl_isNonce ((x_p.Cands.getD k z_PCand).Draw)) with h68 | h68
  ·refine sk (congrArg not h68) ?_
   refine sk (congrArg not h68) ?_
   refine sk (congrArg not h68) ?_
   refine sk (congrArg not h68) ?_
   refine pk (vb true) wN (congrArg not h68) ?_
   refine wl_nil <| wq_then ?_
   refine ct (Eq.refl true) ?_
   refine sr ?_
   refine ag (vb false) wN ?_
   refine wl_nil <| wq_then <| wc_ret <| wq_then_ret <| wq_blk_ret <| wq_then_ret <| wq_then_ret <| wq_blk_ret <| wq_then_ret ?_
   refine ret_1 (.inl rfl) (vb false) rfl rfl ?_
   refine ⟨m67.keep0, ?_⟩
   have hF125 : iPa x_p = false := by have hz := allN_f (f := iPaG x_p) (n := x_p.Cands.length) (k := k) (by omega) (by simp only [iPaG, h14, h19, h30, h58, h62, h68]; simp); simp only [iPa, h14, h19, h30, h58, h62, h68, hz]; simp
   rw [hF125]
   exact rfl
  refine pu (vp g46 3) (wS (congrArg not h68)) ?_
  have b70 := (b60.kp k66)
  refine ld (vi ((x_p.Cands.getD k z_PCand).Until)) (wS (congrArg not h68)) isAgg_3 b70 ?_
  refine cl (wS (congrArg not h68)) (C_impl_within w7 ((x_p.Cands.getD k z_PCand).Until) 0 1000006) ?_
  rintro _ w8 ⟨k71, rfl⟩
  have m72 := m67.extk k71
  refine pu (vb (!(F_impl_within ((x_p.Cands.getD k z_PCand).Until) 0 1000006))) (wS (congrArg not h68)) ?_
  refine pf (vb (!(F_impl_within ((x_p.Cands.getD k z_PCand).Until) 0 1000006))) wN (congrArg not h68) ?_
  refine wl_nil <| wq_then ?_
  rcases bf (F_impl_within ((x_p.Cands.getD k z_PCand).Until) 0 1000006) with h73 | h73
  ·have q122 := impl_within_f h73
   refine ct (congrArg not h73) ?_
   refine sr ?_
   refine ag (vb false) wN ?_
   refine wl_nil <| wq_then <| wc_ret <| wq_then_ret <| wq_blk_ret <| wq_then_ret <| wq_then_ret <| wq_blk_ret <| wq_then_ret ?_
   refine ret_1 (.inl rfl) (vb false) rfl rfl ?_
   refine ⟨m72.keep0, ?_⟩
   have hF123 : iPa x_p = false := by have hz := allN_f (f := iPaG x_p) (n := x_p.Cands.length) (k := k) (by omega) (by simp only [iPaG, h14, h19, h30, h58, h62, h68, h73]; simp); simp only [iPa, h14, h19, h30, h58, h62, h68, h73, hz]; simp
   rw [hF123]
   exact rfl
  have q74 := impl_within_t h73
  refine cf (congrArg not h73) ?_
  refine wc_skip <| wq_then <| sr ?_
  refine pu (vp g6 2) wN ?_
  have b75 := ((b61.kp k66).kp k71)
  refine ld (vs a1 x_p.Cands.length c2) wN isAgg_57 b75 ?_
  refine mv (vi ((k : Nat) : Int)) wN ?_
  have q77 : 0 ≤ k := (by first | omega | (simp only [List.length_cons, List.length_nil, List.length_replicate, List.length_append, List.length_take, List.length_set, List.length_map]; omega))
  have q78 : k ≤ x_p.Cands.length := (by first | omega | (simp only [List.length_cons, List.length_nil, List.length_replicate, List.length_append, List.length_take, List.length_set, List.length_map]; omega))
  obtain ⟨y79, r80⟩ := RLv.row (r3.from0 m72)
  refine slvR 0 k wN slTy_57 r80 q77 q78 rfl rfl rfl rfl (.inl ⟨rfl, rfl⟩) (.inr ⟨_, _, _, rfl, rfl, by omega⟩) ?_
  have r81 := RLv.sub (x' := (x_p.Cands.take k)) r3 q77 q78 (by first | rfl | simp | (rw [List.take_of_length_le (by simp)]))
  obtain ⟨y83, r84⟩ := RLv.row (r81.from0 m72)
  refine ln wN slTy_57 r84 ?_
  refine mv (vi 0) wN ?_
  refine wl_nil <| wq_then <| wc_block ?_
  refine wc_normQ (fun e => [e 0, e 1, e 2, e 3, e 4, e 5, e 6, e 7, e 8, e 9, e 10, e 11, e 12, e 13, e 14, e 15, e 16, e 17, e 18, e 19, e 20, e 21, e 22, e 23, e 24, e 25, e 26, e 27, e 28, e 29, e 30, e 31, e 32, e 33, e 34, e 35, e 36, e 37, e 38, e 39, e 40, e 41, e 42, e 43, e 44, e 45, e 46, e 47, e 48, e 49, e 50, e 51, e 52, (vi ((0 : Nat) : Int)), e 54, e 55, e 56, e 57, e 58, e 59, e 60, e 61, e 62, e 63]) rfl ⟨rfl, rfl, rfl, rfl, rfl, rfl, rfl, rfl, rfl, rfl, rfl, rfl, rfl, rfl, rfl, rfl, rfl, rfl, rfl, rfl, rfl, rfl, rfl, rfl, rfl, rfl, rfl, rfl, rfl, rfl, rfl, rfl, rfl, rfl, rfl, rfl, rfl, rfl, rfl, rfl, rfl, rfl, rfl, rfl, rfl, rfl, rfl, rfl, rfl, rfl, rfl, rfl, rfl, (congrArg (Value.int .i64) (show (0 : Int) = ((0 : Nat) : Int) by omega)), rfl, rfl, rfl, rfl, rfl, rfl, rfl, rfl, rfl, rfl, trivial⟩ ?_
  refine wc_loop (fun e' w' => ∃ (j : Nat) (u85 : Nat → Value), e' = lst [(u85 0), (vp g6 0), (u85 1), (vi ((k : Nat) : Int)), (vp g46 0), (u85 2), (u85 3), (u85 4), (u85 5), (u85 6), (u85 7), (u85 8), (u85 9), (u85 10), (u85 11), (u85 12), (u85 13), (u85 14), (vs a1 x_p.Cands.length c2), (vi (x_p.Cands.length : Int)), (vi ((k : Nat) : Int)), (vb (decide (((k : Nat) : Int) < (x_p.Cands.length : Int)))), (vi ((k : Nat) : Int)), (ve (vs a1 x_p.Cands.length c2) ((((k : Nat) : Int)).toNat * 4)), (va [(vi (((x_p.Cands.getD k z_PCand).A).Host)), (vi (((x_p.Cands.getD k z_PCand).A).Port)), (vs a39 (x_p.Cands.getD k z_PCand).Draw.length c40), (vi ((x_p.Cands.getD k z_PCand).Until))]), (vp g46 0), (va (L_26 ((x_p.Cands.getD k z_PCand).A))), (vb (F_impl_AddrOk ((x_p.Cands.getD k z_PCand).A))), (vb (!(F_impl_AddrOk ((x_p.Cands.getD k z_PCand).A)))), (vb (!(F_impl_AddrOk ((x_p.Cands.getD k z_PCand).A)))), (vp g46 0), (va (L_26 ((x_p.Cands.getD k z_PCand).A))), (vp g6 0), (va (L_26 x_p.At)), (vb (decide ((((x_p.Cands.getD k z_PCand).A).Host) = x_p.At.Host) && decide ((((x_p.Cands.getD k z_PCand).A).Port) = x_p.At.Port))), (vb (decide ((((x_p.Cands.getD k z_PCand).A).Host) = x_p.At.Host) && decide ((((x_p.Cands.getD k z_PCand).A).Port) = x_p.At.Port))), (vb (decide ((((x_p.Cands.getD k z_PCand).A).Host) = x_p.At.Host) && decide ((((x_p.Cands.getD k z_PCand).A).Port) = x_p.At.Port))), (vp g46 2), (vs a39 (x_p.Cands.getD k z_PCand).Draw.length c40), (vb (F_impl_isNonce ((x_p.Cands.getD k z_PCand).Draw))), (vb (!(F_impl_isNonce ((x_p.Cands.getD k z_PCand).Draw)))), (vb (!(F_impl_isNonce ((x_p.Cands.getD k z_PCand).Draw)))), (vb (!(F_impl_isNonce ((x_p.Cands.getD k z_PCand).Draw)))), (vp g46 3), (vi ((x_p.Cands.getD k z_PCand).Until)), (vb (F_impl_within ((x_p.Cands.getD k z_PCand).Until) 0 1000006)), (vb (!(F_impl_within ((x_p.Cands.getD k z_PCand).Until) 0 1000006))), (vb (!(F_impl_within ((x_p.Cands.getD k z_PCand).Until) 0 1000006))), (vp g6 2), (vs a1 x_p.Cands.length c2), (vi ((k : Nat) : Int)), (vs (subA a1 c2 0 4) (k - 0) (c2 - 0)), (vi ((k - 0) : Int)), (vi ((j : Nat) : Int)), (u85 15), (u85 16), (u85 17), (u85 18), (u85 19), (u85 20), (u85 21), (u85 22), (u85 23), (u25 59)] ∧ Ch (fun k => w0.heap.size ≤ k) w0 w' ∧ Ch (fun k => w8.heap.size ≤ k) w8 w' ∧ j ≤ k ∧ ∀ m, m < j → iPaJ x_p k m = true) (fun e' _ => k - ((intOf (e' 53))).toNat) ?_ ?_
  ·exact ⟨0, (unL [_, _, _, _, _, _, _, _, _, _, _, _, _, _, _, _, _, _, _, _, _, _, _, _]), rfl, m72, (Ch.refl (fun k => w8.heap.size ≤ k) w8), (by omega), (by first | (intro m hm; omega) | exact allN_next (by assumption) (by simp only [iPaJ, h14, h19, h30, h58, h62, h68, h73]; simp))⟩
  ·rintro _ w9 ⟨j, u85, rfl, m86, k87, i88, i89⟩
   refine sr ?_
   refine pu (vb (decide (((j : Nat) : Int) < ((k - 0) : Int)))) wN ?_
   refine wl_nil <| wq_then <| wc_seq ?_
   rcases bf (decide (((j : Nat) : Int) < ((k - 0) : Int))) with h90 | h90
   ·have q121 := of_decide_eq_false h90
    refine cf h90 ?_
    refine wc_exit <| wq_then_exit <| wq_then_exit <| wq_blk_exit <| wq_blk_normal <| wq_then <| wc_region ?_
    refine ar (((k : Nat) : Int) + 1) wN ?_
    refine mv (vi (((k : Nat) : Int) + 1)) wN ?_
    refine wl_nil ?_
    refine wq_loopQ (w0 := w3) (fun e => [e 0, e 1, e 2, e 3, e 4, e 5, e 6, e 7, e 8, e 9, e 10, e 11, e 12, e 13, e 14, e 15, e 16, e 17, e 18, e 19, (vi (((k + 1) : Nat) : Int)), e 21, e 22, e 23, e 24, e 25, e 26, e 27, e 28, e 29, e 30, e 31, e 32, e 33, e 34, e 35, e 36, e 37, e 38, e 39, e 40, e 41, e 42, e 43, e 44, e 45, e 46, e 47, e 48, e 49, e 50, e 51, e 52, e 53, e 54, e 55, e 56, e 57, e 58, e 59, e 60, e 61, e 62, e 63]) rfl ?_ ?_ ?_
    · exact ⟨rfl, rfl, rfl, rfl, rfl, rfl, rfl, rfl, rfl, rfl, rfl, rfl, rfl, rfl, rfl, rfl, rfl, rfl, rfl, rfl, (congrArg (Value.int .i64) (show ((((k : Nat) : Int) + 1) : Int) = (((k + 1) : Nat) : Int) by omega)), rfl, rfl, rfl, rfl, rfl, rfl, rfl, rfl, rfl, rfl, rfl, rfl, rfl, rfl, rfl, rfl, rfl, rfl, rfl, rfl, rfl, rfl, rfl, rfl, rfl, rfl, rfl, rfl, rfl, rfl, rfl, rfl, rfl, rfl, rfl, rfl, rfl, rfl, rfl, rfl, rfl, rfl, rfl, trivial⟩
    · exact ⟨(k + 1), (unL [_, _, _, _, _, _, _, _, _, _, _, _, _, _, _, _, _, _, _, _, _, _, _, _, _, _, _, _, _, _, _, _, _, _, _, _, _, _, _, _, _, _, _, _, _, _, _, _, _, _, _, _, _, _, _, _, _, _, _, _]), rfl, m86, ((((((((Ch.refl (fun k => w2.heap.size ≤ k) w2).ext k27 (fun k hk => Nat.le_trans (Nat.le_refl w2.heap.size) hk)).extk k49).ext k52 (fun k hk => by subst hk; exact Nat.le_trans k27.size p47)).extk k56).extk k66).extk k71).ext k87 (fun k hk => Nat.le_trans (t6 k27.size k49.size k52.size k56.size k66.size k71.size) hk)), (by omega), (by first | (intro j hj; omega) | (have hy := allN_t (f := iPaJ x_p k) (n := k) (k := j) (by assumption) (by omega); exact allN_next (by assumption) (by simp only [iPaG, hy, h14, h19, h30, h58, h62, h68, h73, h90]; simp)))⟩
    · show x_p.Cands.length - ((((k + 1) : Nat) : Int)).toNat < x_p.Cands.length - (((k : Nat) : Int)).toNat; omega
   have q91 := of_decide_eq_true h90
   refine ct h90 ?_
   refine wc_skip <| wq_then <| wc_seq <| wc_block <| sr ?_
   obtain ⟨y92, r93⟩ := RLv.row (r81.from0 m86)
   refine wl_index wN ((j : Nat) : Int) rfl rfl rfl slTy_57 rfl rfl r93 (by first | omega | (simp only [List.length_cons, List.length_nil, List.length_replicate, List.length_append, List.length_take, List.length_set, List.length_map]; omega)) (by first | omega | (simp only [List.length_cons, List.length_nil, List.length_replicate, List.length_append, List.length_take, List.length_set, List.length_map]; omega)) ?_
   obtain ⟨y94, l95, r96, e97, u98⟩ := RLv.el z_PCand (i := j) r81 (by first | omega | (simp only [List.length_cons, List.length_nil, List.length_replicate, List.length_append, List.length_take, List.length_set, List.length_map]; omega))
   obtain ⟨a99, c100, l104, rfl, r101, s102, u105⟩ := SubR.c u98
   obtain rfl := SubR.n u105
   refine wl_loadEN [(vi ((((x_p.Cands.take k).getD j z_PCand).A).Host)), (vi ((((x_p.Cands.take k).getD j z_PCand).A).Port)), (vs a99 ((x_p.Cands.take k).getD j z_PCand).Draw.length c100), (vi (((x_p.Cands.take k).getD j z_PCand).Until))] wN rfl rfl rfl rfl isAgg_54 sizeOf_54 (r96.from0 m86) (by first | omega | (simp only [List.length_cons, List.length_nil, List.length_replicate, List.length_append, List.length_take, List.length_set, List.length_map]; omega)) ((part_of (off := 0) (n := 4) e97 (by first | rfl | simp | omega) (by decide)).trans rfl) ?_
   refine al [(vi 0), (vi 0), (vs none 0 0), (vi 0)] wN zero_54 ?_
   intro g106 w10 p107 p108 k109 b110
   have m111 := m86.extk k109
   refine st (va [(vi ((((x_p.Cands.take k).getD j z_PCand).A).Host)), (vi ((((x_p.Cands.take k).getD j z_PCand).A).Port)), (vs a99 ((x_p.Cands.take k).getD j z_PCand).Draw.length c100), (vi (((x_p.Cands.take k).getD j z_PCand).Until))]) [(vi ((((x_p.Cands.take k).getD j z_PCand).A).Host)), (vi ((((x_p.Cands.take k).getD j z_PCand).A).Port)), (vs a99 ((x_p.Cands.take k).getD j z_PCand).Draw.length c100), (vi (((x_p.Cands.take k).getD j z_PCand).Until))] [(vi ((((x_p.Cands.take k).getD j z_PCand).A).Host)), (vi ((((x_p.Cands.take k).getD j z_PCand).A).Port)), (vs a99 ((x_p.Cands.take k).getD j z_PCand).Draw.length c100), (vi (((x_p.Cands.take k).getD j z_PCand).Until))] wN sizeOf_54 b110 ?_
   intro w11 k112 b113 z114
   have m115 := m111.ext k112 (fun k hk => by subst hk; exact Nat.le_trans (t9 k9.size k12.size k27.size k49.size k52.size k56.size k66.size k71.size k87.size) p107)
   refine nx ?_
   refine pu (vp g106 0) wN ?_
   refine lN (L_26 (((x_p.Cands.take k).getD j z_PCand).A)) wN isAgg_26 sizeOf_26 b113 ?_
   refine pu (vp g46 0) wN ?_
   have b116 := ((((b70.kp k71).ch k87 (Nat.not_le.2 (Nat.lt_of_lt_of_le p48 (t4 k52.size k56.size k66.size k71.size)))).kp k109).ch k112 (Nat.ne_of_lt (Nat.lt_of_lt_of_le p48 (Nat.le_trans (t5 k52.size k56.size k66.size k71.size k87.size) p107))))
   refine lN (L_26 ((x_p.Cands.getD k z_PCand).A)) wN isAgg_26 sizeOf_26 b116 ?_
   refine wl_aggeq ((decide (((((x_p.Cands.take k).getD j z_PCand).A).Host) = (((x_p.Cands.getD k z_PCand).A).Host)) && decide (((((x_p.Cands.take k).getD j z_PCand).A).Port) = (((x_p.Cands.getD k z_PCand).A).Port)))) wN rfl rfl rfl rfl rfl guardt_26 (aggeq_26 ((((x_p.Cands.take k).getD j z_PCand).A).Host) (((x_p.Cands.getD k z_PCand).A).Host) ((((x_p.Cands.take k).getD j z_PCand).A).Port) (((x_p.Cands.getD k z_PCand).A).Port) w11) ?_
   refine wl_nil <| wq_then ?_
   rcases bt (decide (((((x_p.Cands.take k).getD j z_PCand).A).Host) = (((x_p.Cands.getD k z_PCand).A).Host)) && decide (((((x_p.Cands.take k).getD j z_PCand).A).Port) = (((x_p.Cands.getD k z_PCand).A).Port))) with h117 | h117
   ·refine ct h117 ?_
    refine sr ?_
    refine ag (vb false) wN ?_
    refine wl_nil <| wq_then <| wc_ret <| wq_blk_ret <| wq_then_ret <| wq_then_ret <| wq_blk_ret <| wq_blk_ret <| wq_then_ret <| wq_then_ret <| wq_blk_ret <| wq_then_ret ?_
    refine ret_1 (.inl rfl) (vb false) rfl rfl ?_
    refine ⟨m115.keep0, ?_⟩
    have hF119 : iPa x_p = false := by have hy := allN_f (f := iPaJ x_p k) (n := k) (k := j) (by omega) (by simp only [iPaJ, h14, h19, h30, h58, h62, h68, h73, h90, h117]; simp); have hz := allN_f (f := iPaG x_p) (n := x_p.Cands.length) (k := k) (by omega) (by simp only [iPaG, hy, h14, h19, h30, h58, h62, h68, h73, h90, h117]; simp); simp only [iPa, h14, h19, h30, h58, h62, h68, h73, h90, h117, hz]; simp
    rw [hF119]
    exact rfl
   refine cf h117 ?_
   refine wc_skip <| wq_blk_normal <| wq_then <| wc_region ?_
   refine ar (((j : Nat) : Int) + 1) wN ?_
   refine mv (vi (((j : Nat) : Int) + 1)) wN ?_
   refine wl_nil ?_
   refine wq_loopQ (w0 := w9) (fun e => [e 0, e 1, e 2, e 3, e 4, e 5, e 6, e 7, e 8, e 9, e 10, e 11, e 12, e 13, e 14, e 15, e 16, e 17, e 18, e 19, e 20, e 21, e 22, e 23, e 24, e 25, e 26, e 27, e 28, e 29, e 30, e 31, e 32, e 33, e 34, e 35, e 36, e 37, e 38, e 39, e 40, e 41, e 42, e 43, e 44, e 45, e 46, e 47, e 48, e 49, e 50, e 51, e 52, (vi (((j + 1) : Nat) : Int)), e 54, e 55, e 56, e 57, e 58, e 59, e 60, e 61, e 62, e 63]) rfl ?_ ?_ ?_
   · exact ⟨rfl, rfl, rfl, rfl, rfl, rfl, rfl, rfl, rfl, rfl, rfl, rfl, rfl, rfl, rfl, rfl, rfl, rfl, rfl, rfl, rfl, rfl, rfl, rfl, rfl, rfl, rfl, rfl, rfl, rfl, rfl, rfl, rfl, rfl, rfl, rfl, rfl, rfl, rfl, rfl, rfl, rfl, rfl, rfl, rfl, rfl, rfl, rfl, rfl, rfl, rfl, rfl, rfl, (congrArg (Value.int .i64) (show ((((j : Nat) : Int) + 1) : Int) = (((j + 1) : Nat) : Int) by omega)), rfl, rfl, rfl, rfl, rfl, rfl, rfl, rfl, rfl, rfl, trivial⟩
   · exact ⟨(j + 1), (unL [_, _, _, _, _, _, _, _, _, _, _, _, _, _, _, _, _, _, _, _, _, _, _, _]), rfl, m115, ((((Ch.refl (fun k => w8.heap.size ≤ k) w8).ext k87 (fun k hk => Nat.le_trans (Nat.le_refl w8.heap.size) hk)).extk k109).ext k112 (fun k hk => by subst hk; exact Nat.le_trans k87.size p107)), (by omega), (by first | (intro m hm; omega) | exact allN_next (by assumption) (by simp only [iPaJ, h14, h19, h30, h58, h62, h68, h73, h90, h117]; simp))⟩
   · show k - ((((j + 1) : Nat) : Int)).toNat < k - (((j : Nat) : Int)).toNat; omega
theorem iPa_t {p : PPaths} (h : iPa p = true) : p.Cands.length ≤ 3 := by
  unfold iPa at h
  cases h1 : F_impl_AddrOk p.At with
  | false => simp only [h1, cond_false] at h; cases h
  | true =>
    cases h8 : decide (3 < (p.Cands.length : Int)) with
    | true => simp only [h1, h8, cond_true] at h; cases h
    | false => have := of_decide_eq_false h8; omega

def F_impl_clone (x_b : List UInt8) : (List UInt8) := x_b
theorem C_impl_clone (w0 : World) (v_x_b : Value) (x_b : List UInt8) (r_x_b : R_22 w0 v_x_b x_b)  : Fn Try.prog 110 #[v_x_b] w0 (fun v w' => Keep w0 w' ∧ O_22 w' w0.heap.size v (F_impl_clone x_b)) := by
 obtain ⟨a1, c2, rfl, r3, s4⟩ := r_x_b
 refine fn_of (n := 6) (l := [(vs a1 x_b.length c2), U, U, U, U, U]) Try.func110 rfl rfl (by kernel_rfl) rfl ?_
 refine sr ?_
 refine ag (vs none 0 0) wN ?_
 refine nx ?_
 refine wl_lit0 wN rfl rfl slTy_22 (fun w => by kernel_rfl) ?_
 intro a6 w1 k7 o8
 have m9 := (Ch.base w0).extk k7
 refine mv (vs a1 x_b.length c2) wN ?_
 refine wl_append0 wN rfl rfl rfl slTy_22 rfl rfl o8 (r3.from0 m9) (all_bV _) (by first | (simp only [List.length_append, List.length_cons, List.length_nil, List.length_replicate]; omega) | omega) (by simp only [maxLen]; first | (simp only [List.length_append, List.length_cons, List.length_nil, List.length_replicate]; omega) | omega) k7.size ?_
 intro u11 w2 k12 o13 j14
 obtain ⟨a15, c16, rfl⟩ := own_form o13
 have n17 : New w1 a15 c16 := j14 _ _ rfl
 have m18 := m9.extk k12
 refine ag (vs a15 x_b.length c16) wN ?_
 refine wl_nil <| wq_then <| wc_ret ?_
 refine ret_1 (.inl rfl) (vs a15 x_b.length c16) rfl rfl ?_
 refine ⟨m18.keep0, ?_⟩
 have hF20 : F_impl_clone x_b = x_b := by rfl
 rw [hF20]
 exact ⟨_, _, rfl, o13, s4, ⟨trivial, trivial⟩⟩

def F_impl_copyPaths (x_p : PPaths) : (PPaths) := { At := x_p.At, Cands := (x_p.Cands.take x_p.Cands.length) : PPaths }
theorem C_impl_copyPaths (w0 : World) (v_x_p : Value) (x_p : PPaths) (r_x_p : R_59 w0 v_x_p x_p)  : Fn Try.prog 101 #[v_x_p] w0 (fun v w' => Keep w0 w' ∧ O_59 w' w0.heap.size v (x_p)) := by
 obtain ⟨a1, c2, rfl, r3, s4⟩ := r_x_p
 refine fn_of (n := 31) (l := [(va (L_59 x_p a1 c2)), U, U, U, U, U, U, U, U, U, U, U, U, U, U, U, U, U, U, U, U, U, U, U, U, U, U, U, U, U, U]) Try.func101 rfl rfl (by kernel_rfl) rfl ?_
 refine sr ?_
 refine bx (L_59 x_p a1 c2) wN ?_
 intro g6 w1 p7 p8 k9 b10
 have m11 := (Ch.base w0).extk k9
 refine al [(vi 0), (vi 0), (vs none 0 0)] wN zero_59 ?_
 intro g12 w2 p13 p14 k15 b16
 have m17 := m11.extk k15
 refine nx ?_
 refine pu (vp g6 0) wN ?_
 have b18 := (b10.kp k15)
 refine lN (L_26 x_p.At) wN isAgg_26 sizeOf_26 b18 ?_
 refine pu (va [(vi x_p.At.Host), (vi x_p.At.Port), (vs none 0 0)]) wN ?_
 refine al [(vi 0), (vi 0), (vs none 0 0)] wN zero_59 ?_
 intro g19 w3 p20 p21 k22 b23
 have m24 := m17.extk k22
 refine st (va [(vi x_p.At.Host), (vi x_p.At.Port), (vs none 0 0)]) [(vi x_p.At.Host), (vi x_p.At.Port), (vs none 0 0)] [(vi x_p.At.Host), (vi x_p.At.Port), (vs none 0 0)] wN sizeOf_59 b23 ?_
 intro w4 k25 b26 z27
 have m28 := m24.ext k25 (fun k hk => by subst hk; exact Nat.le_trans (Nat.le_trans k9.size k15.size) p20)
 refine wl_nil <| wq_then <| wc_seq <| sr ?_
 refine pu (vp g6 2) wN ?_
 have b29 := ((b18.kp k22).ch k25 (Nat.ne_of_lt (Nat.lt_of_lt_of_le p8 (Nat.le_trans k15.size p20))))
 refine ld (vs a1 x_p.Cands.length c2) wN isAgg_57 b29 ?_
 obtain ⟨y30, r31⟩ := RLv.row (r3.from0 m28)
 refine ln wN slTy_57 r31 ?_
 refine mv (vi 0) wN ?_
 refine wl_nil <| wq_then <| wc_block ?_
 have hE33 : (([] : List (PCand)) : List (PCand)) = x_p.Cands.take 0 := by first | rfl | exact take_snoc (z := z_PCand) (by omega)
 refine wc_normQ (fun e => [e 0, e 1, e 2, e 3, e 4, e 5, e 6, e 7, e 8, e 9, e 10, e 11, (vi ((0 : Nat) : Int)), e 13, e 14, e 15, e 16, e 17, e 18, e 19, e 20, e 21, e 22, e 23, e 24, e 25, e 26, e 27, e 28, e 29, e 30]) rfl ⟨rfl, rfl, rfl, rfl, rfl, rfl, rfl, rfl, rfl, rfl, rfl, rfl, (congrArg (Value.int .i64) (show (0 : Int) = ((0 : Nat) : Int) by omega)), rfl, rfl, rfl, rfl, rfl, rfl, rfl, rfl, rfl, rfl, rfl, rfl, rfl, rfl, rfl, rfl, rfl, rfl, trivial⟩ ?_
 refine wc_loop (fun e' w' => ∃ (kq : Nat) (u32 : Nat → Value) (ab3_2x : Option Addr) (cb3_2x : Nat), e' = lst [(u32 0), (u32 1), (vp g12 0), (vp g19 0), (u32 2), (u32 3), (u32 4), (u32 5), (u32 6), (u32 7), (vs a1 x_p.Cands.length c2), (vi (x_p.Cands.length : Int)), (vi ((kq : Nat) : Int)), (u32 8), (u32 9), (u32 10), (u32 11), (u32 12), (u32 13), (u32 14), (u32 15), (u32 16), (u32 17), (u32 18), (u32 19), (u32 20), (u32 21), (u32 22), (u32 23), (u32 24), U] ∧ Ch (fun k => w0.heap.size ≤ k) w0 w' ∧ Ch (fun k => w2.heap.size ≤ k) w4 w' ∧ kq ≤ x_p.Cands.length ∧ (OLv LT_54 w' w4.heap.size w'.heap.size ab3_2x (x_p.Cands.take kq).length cb3_2x (x_p.Cands.take kq) ∧ (x_p.Cands.take kq).length ≤ 1073741824) ∧ Blk w' g19 59 [(vi x_p.At.Host), (vi x_p.At.Port), (.slice ab3_2x (x_p.Cands.take kq).length cb3_2x)]) (fun e' _ => x_p.Cands.length - ((intOf (e' 12))).toNat) ?_ ?_
 ·exact ⟨0, (unL [_, _, U, U, _, _, _, _, U, U, U, U, U, U, U, U, U, U, U, U, U, U, U, U, U]), none, 0, rfl, m28, (Ch.refl (fun k => w2.heap.size ≤ k) w4), (by omega), (hE33 ▸ ⟨(OLv.nil w4 w4.heap.size w4.heap.size LT_54), (by simp)⟩), b26⟩
 ·rintro _ w5 ⟨kq, u32, ab3_2x, cb3_2x, rfl, m34, k35, i36, ⟨o37, s38⟩, hbx3⟩
  obtain ⟨y40, o41⟩ := OLv.ow o37
  refine sr ?_
  refine pu (vb (decide (((kq : Nat) : Int) < (x_p.Cands.length : Int)))) wN ?_
  refine wl_nil <| wq_then <| wc_seq ?_
  rcases bf (decide (((kq : Nat) : Int) < (x_p.Cands.length : Int))) with h42 | h42
  ·have q208 := of_decide_eq_false h42
   refine cf h42 ?_
   refine wc_exit <| wq_then_exit ?_
   obtain rfl : kq = x_p.Cands.length := by omega
   refine wq_then_exit <| wq_blk_exit <| wq_then <| sr ?_
   refine lN [(vi x_p.At.Host), (vi x_p.At.Port), (vs ab3_2x (x_p.Cands.take x_p.Cands.length).length cb3_2x)] wN isAgg_59 sizeOf_59 hbx3 ?_
   have b209 := (((b16.kp k22).ch k25 (Nat.ne_of_lt (Nat.lt_of_lt_of_le p14 (Nat.le_trans (Nat.le_refl w2.heap.size) p20)))).ch k35 (Nat.not_le.2 (Nat.lt_of_lt_of_le p14 (Nat.le_refl w2.heap.size))))
   refine st (va [(vi x_p.At.Host), (vi x_p.At.Port), (vs ab3_2x (x_p.Cands.take x_p.Cands.length).length cb3_2x)]) [(vi x_p.At.Host), (vi x_p.At.Port), (vs ab3_2x (x_p.Cands.take x_p.Cands.length).length cb3_2x)] [(vi x_p.At.Host), (vi x_p.At.Port), (vs ab3_2x (x_p.Cands.take x_p.Cands.length).length cb3_2x)] wN sizeOf_59 b209 ?_
   intro w6 k210 b211 z212
   have m213 := m34.ext k210 (fun k hk => by subst hk; exact Nat.le_trans k9.size p13)
   refine wl_nil <| wq_then <| wc_ret ?_
   have o214 := (OLv.ch o37 k210 (fun g h1 h2 hk => by have h3 := Nat.lt_of_lt_of_le p14 (Nat.le_trans k22.size k25.size); omega))
   refine ret_1 (.inl rfl) (va [(vi x_p.At.Host), (vi x_p.At.Port), (vs ab3_2x (x_p.Cands.take x_p.Cands.length).length cb3_2x)]) rfl (rv_c [(vi x_p.At.Host), (vi x_p.At.Port), (vs ab3_2x (x_p.Cands.take x_p.Cands.length).length cb3_2x)] rfl b211 isAgg_59 sizeOf_59) ?_
   refine ⟨m213.keep0, ?_⟩
   have hF215 : x_p.Cands.take x_p.Cands.length = x_p.Cands := List.take_length
   rw [hF215] at o214 ⊢
   exact ⟨_, _, rfl, (OLv.now (OLv.low o214 (t4 k9.size k15.size k22.size k25.size))), (by omega), ⟨trivial, trivial⟩⟩
  have q43 := of_decide_eq_true h42
  refine ct h42 ?_
  refine wc_skip <| wq_then <| wc_seq <| wc_block <| sr ?_
  obtain ⟨y44, r45⟩ := RLv.row (r3.from0 m34)
  refine wl_index wN ((kq : Nat) : Int) rfl rfl rfl slTy_57 rfl rfl r45 (by first | omega | (simp only [List.length_cons, List.length_nil, List.length_replicate, List.length_append, List.length_take, List.length_set, List.length_map]; omega)) (by first | omega | (simp only [List.length_cons, List.length_nil, List.length_replicate, List.length_append, List.length_take, List.length_set, List.length_map]; omega)) ?_
  obtain ⟨y46, l47, r48, e49, u50⟩ := RLv.el z_PCand (i := kq) r3 (by first | omega | (simp only [List.length_cons, List.length_nil, List.length_replicate, List.length_append, List.length_take, List.length_set, List.length_map]; omega))
  obtain ⟨a51, c52, l56, rfl, r53, s54, u57⟩ := SubR.c u50
  obtain rfl := SubR.n u57
  refine wl_loadEN [(vi (((x_p.Cands.getD kq z_PCand).A).Host)), (vi (((x_p.Cands.getD kq z_PCand).A).Port)), (vs a51 (x_p.Cands.getD kq z_PCand).Draw.length c52), (vi ((x_p.Cands.getD kq z_PCand).Until))] wN rfl rfl rfl rfl isAgg_54 sizeOf_54 (r48.from0 m34) (by first | omega | (simp only [List.length_cons, List.length_nil, List.length_replicate, List.length_append, List.length_take, List.length_set, List.length_map]; omega)) ((part_of (off := 0) (n := 4) e49 (by first | rfl | simp | omega) (by decide)).trans rfl) ?_
  refine al [(vi 0), (vi 0), (vs none 0 0), (vi 0)] wN zero_54 ?_
  intro g58 w6 p59 p60 k61 b62
  have m63 := m34.extk k61
  refine st (va [(vi (((x_p.Cands.getD kq z_PCand).A).Host)), (vi (((x_p.Cands.getD kq z_PCand).A).Port)), (vs a51 (x_p.Cands.getD kq z_PCand).Draw.length c52), (vi ((x_p.Cands.getD kq z_PCand).Until))]) [(vi (((x_p.Cands.getD kq z_PCand).A).Host)), (vi (((x_p.Cands.getD kq z_PCand).A).Port)), (vs a51 (x_p.Cands.getD kq z_PCand).Draw.length c52), (vi ((x_p.Cands.getD kq z_PCand).Until))] [(vi (((x_p.Cands.getD kq z_PCand).A).Host)), (vi (((x_p.Cands.getD kq z_PCand).A).Port)), (vs a51 (x_p.Cands.getD kq z_PCand).Draw.length c52), (vi ((x_p.Cands.getD kq z_PCand).Until))] wN sizeOf_54 b62 ?_
  intro w7 k64 b65 z66
  have m67 := m63.ext k64 (fun k hk => by subst hk; exact Nat.le_trans (t5 k9.size k15.size k22.size k25.size k35.size) p59)
  refine wl_nil <| wq_then ?_
  refine wc_drawT ([(16, [], [], (fun _ v _ => v = (vp g19 2))), (17, [], [0], (fun _ v _ => v = (vs ab3_2x (x_p.Cands.take kq).length cb3_2x))), (18, [], [], (fun _ v _ => v = (vp g58 0))), (19, [], [2], (fun _ v _ => v = (.agg #[(vi (((x_p.Cands.getD kq z_PCand).A).Host)), (vi (((x_p.Cands.getD kq z_PCand).A).Port))]))), (20, [], [], (fun _ v _ => v = (vp g58 2))), (21, [], [4], (fun _ v _ => v = (vs a51 (x_p.Cands.getD kq z_PCand).Draw.length c52))), (22, [], [4, 5], (fun _ v w => ∃ (a1 : Option Addr) (c1 : Nat), v = .slice a1 (F_impl_clone ((x_p.Cands.getD kq z_PCand).Draw)).length c1 ∧ w.ownsRow (w7.heap.size) 5 1 (.slice a1 (F_impl_clone ((x_p.Cands.getD kq z_PCand).Draw)).length c1) (F_impl_clone ((x_p.Cands.getD kq z_PCand).Draw)).length ((F_impl_clone ((x_p.Cands.getD kq z_PCand).Draw)).map bV) ∧ (F_impl_clone ((x_p.Cands.getD kq z_PCand).Draw)).length ≤ 1073741824 ∧ Aps [(a1, c1)])), (23, [], [], (fun _ v _ => v = (vp g58 3))), (24, [], [7], (fun _ v _ => v = (vi ((x_p.Cands.getD kq z_PCand).Until)))), (25, [22], [2, 3, 4, 5, 6, 7, 8], (fun e v _ => v = (.agg #[(vi (((x_p.Cands.getD kq z_PCand).A).Host)), (vi (((x_p.Cands.getD kq z_PCand).A).Port)), (e 22), (vi ((x_p.Cands.getD kq z_PCand).Until))]))), (26, [22], [2, 3, 4, 5, 6, 7, 8, 9], (fun e v w => ∃ (a1 : Option Addr) (c1 : Nat), v = .slice a1 1 c1 ∧ w.ownsRow w7.heap.size 54 4 (.slice a1 1 c1) 1 [(vi (((x_p.Cands.getD kq z_PCand).A).Host)), (vi (((x_p.Cands.getD kq z_PCand).A).Port)), (e 22), (vi ((x_p.Cands.getD kq z_PCand).Until))]))] : GV) (fun _ w' => Keep w7 w') [] mixed rfl (by kernel_rfl) (by kernel_rfl) ?_ (fun _ _ h => h) (fun _ _ _ _ h _ k => h.trans k) trivial ?_ ?_ ?_
  ·exact ⟨(fun _ _ _ _ h _ => h), (fun _ _ _ _ _ h => h), ⟨(fun _ _ _ _ h _ => h), (fun _ _ _ _ _ h => h), ⟨(fun _ _ _ _ h _ => h), (fun _ _ _ _ _ h => h), ⟨(fun _ _ _ _ h _ => h), (fun _ _ _ _ _ h => h), ⟨(fun _ _ _ _ h _ => h), (fun _ _ _ _ _ h => h), ⟨(fun _ _ _ _ h _ => h), (fun _ _ _ _ _ h => h), ⟨(fun e v w w1 h hk => by obtain ⟨a0x, c0x, he, o0x, l0x, hap⟩ := h; exact ⟨a0x, c0x, he, own_kp o0x hk, l0x, hap⟩), (fun _ _ _ _ _ h => h), ⟨(fun _ _ _ _ h _ => h), (fun _ _ _ _ _ h => h), ⟨(fun _ _ _ _ h _ => h), (fun _ _ _ _ _ h => h), ⟨(fun _ _ _ _ h _ => h), (fun e1 e2 v w hx h => by have h22x := hx 22 (by simp); simp only [h22x] at h; exact h), ⟨(fun e v w w1 h hk => by obtain ⟨a0x, c0x, he, o0x⟩ := h; exact ⟨a0x, c0x, he, own_kp o0x hk⟩), (fun e1 e2 v w hx h => by have h22x := hx 22 (by simp); simp only [h22x] at h; exact h), trivial⟩⟩⟩⟩⟩⟩⟩⟩⟩⟩⟩
  ·exact trivial
  ·refine ⟨?_, ⟨?_, ⟨?_, ⟨?_, ⟨?_, ⟨?_, ⟨?_, ⟨?_, ⟨?_, ⟨?_, ⟨?_, trivial⟩⟩⟩⟩⟩⟩⟩⟩⟩⟩⟩
   ·intro _ w8 k115 _
    have m116 := m67.extk k115
    rintro _ _ _ _ _ _ _ _ _ _ _
    show WL _ _ _ _ _ _ _
    refine pu (vp g19 2) wN ?_
    exact wl_finT (Ch.refl _ _) rfl
   ·intro _ w8 k117 _
    have m118 := m67.extk k117
    rintro _ rfl _ _ _ _ _ _ _ _ _ _
    show WL _ _ _ _ _ _ _
    have b119 := (((hbx3.kp k61).ch k64 (Nat.ne_of_lt (Nat.lt_of_lt_of_le p21 (Nat.le_trans (Nat.le_trans k25.size k35.size) p59)))).kp k117)
    refine ld (vs ab3_2x (x_p.Cands.take kq).length cb3_2x) wN isAgg_57 b119 ?_
    exact wl_finT (Ch.refl _ _) rfl
   ·intro _ w8 k120 _
    have m121 := m67.extk k120
    rintro _ _ _ _ _ _ _ _ _ _ _
    show WL _ _ _ _ _ _ _
    refine pu (vp g58 0) wN ?_
    exact wl_finT (Ch.refl _ _) rfl
   ·intro _ w8 k122 _
    have m123 := m67.extk k122
    rintro _ _ _ rfl _ _ _ _ _ _ _ _
    show WL _ _ _ _ _ _ _
    have b124 := (b65.kp k122)
    refine lN (L_26 ((x_p.Cands.getD kq z_PCand).A)) wN isAgg_26 sizeOf_26 b124 ?_
    exact wl_finT (Ch.refl _ _) rfl
   ·intro _ w8 k125 _
    have m126 := m67.extk k125
    rintro _ _ _ _ _ _ _ _ _ _ _
    show WL _ _ _ _ _ _ _
    refine pu (vp g58 2) wN ?_
    exact wl_finT (Ch.refl _ _) rfl
   ·intro _ w8 k127 _
    have m128 := m67.extk k127
    rintro _ _ _ _ _ rfl _ _ _ _ _ _
    show WL _ _ _ _ _ _ _
    have b129 := (b65.kp k127)
    refine ld (vs a51 (x_p.Cands.getD kq z_PCand).Draw.length c52) wN isAgg_22 b129 ?_
    exact wl_finT (Ch.refl _ _) rfl
   ·intro _ w8 k130 _
    have m131 := m67.extk k130
    rintro _ _ _ _ _ rfl _ rfl _ _ _ _ _
    show WL _ _ _ _ _ _ _
    refine cl wN (C_impl_clone w8 _ ((x_p.Cands.getD kq z_PCand).Draw) (mR_22 (r53.from0 m131) s54)) ?_
    rintro _ w9 ⟨k133, ⟨a134, c135, rfl, o136, s137, ap139⟩⟩
    have m140 := m131.extk k133
    exact wl_finT k133 ⟨_, _, rfl, (own_lo o136 k130.size), s137, ap139⟩
   ·intro _ w8 k141 _
    have m142 := m67.extk k141
    rintro _ _ _ _ _ _ _ _ _ _ _
    show WL _ _ _ _ _ _ _
    refine pu (vp g58 3) wN ?_
    exact wl_finT (Ch.refl _ _) rfl
   ·intro _ w8 k143 _
    have m144 := m67.extk k143
    rintro _ _ _ _ _ _ _ _ rfl _ _ _
    show WL _ _ _ _ _ _ _
    have b145 := (b65.kp k143)
    refine ld (vi ((x_p.Cands.getD kq z_PCand).Until)) wN isAgg_3 b145 ?_
    exact wl_finT (Ch.refl _ _) rfl
   ·intro _ w8 k146 _
    have m147 := m67.extk k146
    rintro _ _ _ rfl _ rfl _ rfl _ rfl _ ⟨a150, c151, rfl, o152, s153, ap155⟩ _ rfl _ rfl _ _
    show WL _ _ _ _ _ _ _
    refine pu (va [(vi (((x_p.Cands.getD kq z_PCand).A).Host)), (vi (((x_p.Cands.getD kq z_PCand).A).Port)), (vs a150 (F_impl_clone ((x_p.Cands.getD kq z_PCand).Draw)).length c151), (vi ((x_p.Cands.getD kq z_PCand).Until))]) wN ?_
    exact wl_finT (Ch.refl _ _) rfl
   ·intro _ w8 k157 _
    have m158 := m67.extk k157
    rintro _ _ _ rfl _ rfl _ rfl _ rfl _ ⟨a161, c162, rfl, o163, s164, ap166⟩ _ rfl _ rfl _ rfl _
    show WL _ _ _ _ _ _ _
    refine wl_lit [(vi (((x_p.Cands.getD kq z_PCand).A).Host)), (vi (((x_p.Cands.getD kq z_PCand).A).Port)), (vs a161 (F_impl_clone ((x_p.Cands.getD kq z_PCand).Draw)).length c162), (vi ((x_p.Cands.getD kq z_PCand).Until))] wN rfl rfl slTy_57 (m := 1) rfl (by simp only [maxLen]; omega) (fun w => by kernel_rfl) ?_
    intro u168 w9 k169 o170
    obtain ⟨a171, c172, rfl⟩ := own_form o170
    have m173 := m158.extk k169
    exact wl_finT k169 ⟨_, _, rfl, own_lo o170 k157.size⟩
  ·intro _ w8 k175
   have m176 := m67.extk k175
   rintro _ rfl _ rfl _ rfl _ rfl _ rfl _ rfl _ ⟨a180, c181, rfl, o182, s183, ap185⟩ _ rfl _ rfl _ rfl _ ⟨a187, c188, rfl, o189⟩
   show WL _ _ _ _ _ _ _
   have o191 := (OLv.kp (OLv.ch (OLv.kp o37 k61) k64 (fun g h1 h2 hk => by have h3 := Nat.le_trans (Nat.le_refl w5.heap.size) p59; omega)) k175)
   refine wl_appL (L := LT_54) (xs := (x_p.Cands.take kq)) (el := { A := ((x_p.Cands.getD kq z_PCand).A), Draw := (F_impl_clone ((x_p.Cands.getD kq z_PCand).Draw)), Until := (x_p.Cands.getD kq z_PCand).Until : PCand }) (l := [(a180, c181)]) wN slTy_57 o191 (Rd.of_own o189) ⟨⟨(own_lo o182 (Nat.le_trans k61.size k64.size)), s183⟩, trivial⟩ ⟨trivial, trivial⟩ (Nat.le_refl _) k35.size (by first | omega | (simp only [List.length_take, List.length_append, List.length_cons, List.length_nil]; omega) | (refine Nat.le_trans (Nat.succ_le_succ (List.length_filter_le _ _)) ?_; simp only [List.length_take]; omega)) (t4 k35.size k61.size k64.size k175.size) ?_
   intro a192 c193 w9 k194 o195
   have m196 := m176.ext k194 (fun k hk => Nat.le_trans (t4 k9.size k15.size k22.size k25.size) (own_lt o41 k hk).1)
   obtain ⟨y199, o200⟩ := OLv.ow o195
   refine pu (vp g19 2) wN ?_
   have b201 := ((((hbx3.kp k61).ch k64 (Nat.ne_of_lt (Nat.lt_of_lt_of_le p21 (Nat.le_trans (Nat.le_trans k25.size k35.size) p59)))).kp k175).ch k194 (fun h => by have := (own_lt o41 _ h).1; have := Nat.lt_of_lt_of_le p21 k25.size; omega))
   refine st (vs a192 ((x_p.Cands.take kq) ++ [{ A := ((x_p.Cands.getD kq z_PCand).A), Draw := (F_impl_clone ((x_p.Cands.getD kq z_PCand).Draw)), Until := (x_p.Cands.getD kq z_PCand).Until : PCand }]).length c193) [(vs a192 ((x_p.Cands.take kq) ++ [{ A := ((x_p.Cands.getD kq z_PCand).A), Draw := (F_impl_clone ((x_p.Cands.getD kq z_PCand).Draw)), Until := (x_p.Cands.getD kq z_PCand).Until : PCand }]).length c193)] [(vi x_p.At.Host), (vi x_p.At.Port), (vs a192 ((x_p.Cands.take kq) ++ [{ A := ((x_p.Cands.getD kq z_PCand).A), Draw := (F_impl_clone ((x_p.Cands.getD kq z_PCand).Draw)), Until := (x_p.Cands.getD kq z_PCand).Until : PCand }]).length c193)] wN sizeOf_57 b201 ?_
   intro w10 k202 b203 z204
   have m205 := m196.ext k202 (fun k hk => by subst hk; exact Nat.le_trans (Nat.le_trans k9.size k15.size) p20)
   refine wl_nil <| wq_blk_normal <| wq_then <| wc_region ?_
   refine ar (((kq : Nat) : Int) + 1) wN ?_
   refine mv (vi (((kq : Nat) : Int) + 1)) wN ?_
   refine wl_nil ?_
   have o206 := (OLv.ch o195 k202 (fun g h1 h2 hk => by have h3 := Nat.lt_of_lt_of_le p21 k25.size; omega))
   have hE207 : (((x_p.Cands.take kq) ++ [{ A := ((x_p.Cands.getD kq z_PCand).A), Draw := (F_impl_clone ((x_p.Cands.getD kq z_PCand).Draw)), Until := (x_p.Cands.getD kq z_PCand).Until : PCand }]) : List (PCand)) = x_p.Cands.take (kq + 1) := by first | rfl | exact take_snoc (z := z_PCand) (by omega)
   refine wq_loopQ (w0 := w5) (fun e => [e 0, e 1, e 2, e 3, e 4, e 5, e 6, e 7, e 8, e 9, e 10, e 11, (vi (((kq + 1) : Nat) : Int)), e 13, e 14, e 15, e 16, e 17, e 18, e 19, e 20, e 21, e 22, e 23, e 24, e 25, e 26, e 27, e 28, e 29, e 30]) rfl ?_ ?_ ?_
   · exact ⟨rfl, rfl, rfl, rfl, rfl, rfl, rfl, rfl, rfl, rfl, rfl, rfl, (congrArg (Value.int .i64) (show ((((kq : Nat) : Int) + 1) : Int) = (((kq + 1) : Nat) : Int) by omega)), rfl, rfl, rfl, rfl, rfl, rfl, rfl, rfl, rfl, rfl, rfl, rfl, rfl, rfl, rfl, rfl, rfl, rfl, trivial⟩
   · exact ⟨(kq + 1), (unL [_, _, _, _, _, _, _, _, _, _, _, _, _, _, _, _, _, _, _, _, _, _, _, _, _]), a192, c193, rfl, m205, (((((((Ch.refl (fun k => w2.heap.size ≤ k) w4).ext k35 (fun k hk => Nat.le_trans (Nat.le_refl w2.heap.size) hk)).extk k61).ext k64 (fun k hk => by subst hk; exact Nat.le_trans (t3 k22.size k25.size k35.size) p59)).extk k175).ext k194 (fun k hk => Nat.le_trans (Nat.le_trans k22.size k25.size) (own_lt o41 k hk).1)).ext k202 (fun k hk => by subst hk; exact Nat.le_trans (Nat.le_refl w2.heap.size) p20)), (by omega), (hE207 ▸ ⟨(OLv.now o206), (OLv.small o195)⟩), (by have hb := b203; rw [hE207] at hb; exact hb)⟩
   · show x_p.Cands.length - ((((kq + 1) : Nat) : Int)).toNat < x_p.Cands.length - (((kq : Nat) : Int)).toNat; omega

def F_impl_withoutExpired (x_p : PPaths) (x_now : Int) : (PPaths) := { At := x_p.At, Cands := ((((x_p).Cands).take x_p.Cands.length).filter (fun c : PCand => decide (x_now ≤ c.Until))) : PPaths }
theorem C_impl_withoutExpired (w0 : World) (v_x_p : Value) (x_p : PPaths) (r_x_p : R_59 w0 v_x_p x_p) (x_now : Int)  : Fn Try.prog 109 #[v_x_p, (vi x_now)] w0 (fun v w' => Keep w0 w' ∧ O_59 w' w0.heap.size v (F_impl_withoutExpired x_p x_now)) := by
 obtain ⟨a1, c2, rfl, r3, s4⟩ := r_x_p
 refine fn_of (n := 31) (l := [(va (L_59 x_p a1 c2)), (vi x_now), U, U, U, U, U, U, U, U, U, U, U, U, U, U, U, U, U, U, U, U, U, U, U, U, U, U, U, U, U]) Try.func109 rfl rfl (by kernel_rfl) rfl ?_
 refine sr ?_
 refine bx (L_59 x_p a1 c2) wN ?_
 intro g6 w1 p7 p8 k9 b10
 have m11 := (Ch.base w0).extk k9
 refine al [(vi 0), (vi 0), (vs none 0 0)] wN zero_59 ?_
 intro g12 w2 p13 p14 k15 b16
 have m17 := m11.extk k15
 refine nx ?_
 refine pu (vp g6 0) wN ?_
 have b18 := (b10.kp k15)
 refine lN (L_26 x_p.At) wN isAgg_26 sizeOf_26 b18 ?_
 refine pu (va [(vi x_p.At.Host), (vi x_p.At.Port), (vs none 0 0)]) wN ?_
 refine al [(vi 0), (vi 0), (vs none 0 0)] wN zero_59 ?_
 intro g19 w3 p20 p21 k22 b23
 have m24 := m17.extk k22
 refine st (va [(vi x_p.At.Host), (vi x_p.At.Port), (vs none 0 0)]) [(vi x_p.At.Host), (vi x_p.At.Port), (vs none 0 0)] [(vi x_p.At.Host), (vi x_p.At.Port), (vs none 0 0)] wN sizeOf_59 b23 ?_
 intro w4 k25 b26 z27
 have m28 := m24.ext k25 (fun k hk => by subst hk; exact Nat.le_trans (Nat.le_trans k9.size k15.size) p20)
 refine wl_nil <| wq_then <| wc_seq <| sr ?_
 have b29 := ((b18.kp k22).ch k25 (Nat.ne_of_lt (Nat.lt_of_lt_of_le p8 (Nat.le_trans k15.size p20))))
 refine lN (L_59 x_p a1 c2) wN isAgg_59 sizeOf_59 b29 ?_
 refine cl wN (C_impl_copyPaths w4 _ x_p (mR_59 (r3.from0 m28) s4)) ?_
 rintro _ w5 ⟨k30, ⟨a31, c32, rfl, o33, s34, ap36⟩⟩
 have m37 := m28.extk k30
 obtain ⟨y38, o39⟩ := OLv.ow o33
 refine pu (vs a31 ((x_p).Cands).length c32) wN ?_
 obtain ⟨y40, r41⟩ := RLv.row (OLv.rl o33)
 refine ln wN slTy_57 r41 ?_
 refine mv (vi 0) wN ?_
 refine wl_nil <| wq_then <| wc_block ?_
 obtain ⟨y42, h43, h44, o45, s46, p47, h48, l49⟩ := OLv.op o33
 have hE51 : (([] : List (El PCand)) : List (El PCand)) = (y42.take 0).filter (fun e : El PCand => decide (x_now ≤ e.1.Until)) := by first | rfl | exact filt_t (z := (z_PCand, [])) (by omega) (by assumption) | exact filt_f (z := (z_PCand, [])) (by omega) (by assumption)
 have b52 := (b26.kp k30)
 refine wc_normQ (fun e => [e 0, e 1, e 2, e 3, e 4, e 5, e 6, e 7, e 8, e 9, e 10, e 11, e 12, e 13, e 14, (vi ((0 : Nat) : Int)), e 16, e 17, e 18, e 19, e 20, e 21, e 22, e 23, e 24, e 25, e 26, e 27, e 28, e 29, e 30]) rfl ⟨rfl, rfl, rfl, rfl, rfl, rfl, rfl, rfl, rfl, rfl, rfl, rfl, rfl, rfl, rfl, (congrArg (Value.int .i64) (show (0 : Int) = ((0 : Nat) : Int) by omega)), rfl, rfl, rfl, rfl, rfl, rfl, rfl, rfl, rfl, rfl, rfl, rfl, rfl, rfl, rfl, trivial⟩ ?_
 refine wc_loop (fun e' w' => ∃ (kq : Nat) (u50 : Nat → Value) (ab5_2x : Option Addr) (cb5_2x : Nat), e' = lst [(u50 0), (vi x_now), (u50 1), (u50 2), (vp g12 0), (vp g19 0), (u50 3), (u50 4), (u50 5), (u50 6), (u50 7), (u50 8), (u50 9), (vs a31 ((x_p).Cands).length c32), (vi (((x_p).Cands).length : Int)), (vi ((kq : Nat) : Int)), (u50 10), (u50 11), (u50 12), (u50 13), (u50 14), (u50 15), (u50 16), (u50 17), (u50 18), (u50 19), (u50 20), (u50 21), (u50 22), (u50 23), U] ∧ Ch (fun k => w0.heap.size ≤ k) w0 w' ∧ Ch (fun k => w2.heap.size ≤ k) w5 w' ∧ kq ≤ x_p.Cands.length ∧ (World.ownsRow w' w5.heap.size 54 4 (.slice ab5_2x ((y42.take kq).filter (fun e : El PCand => decide (x_now ≤ e.1.Until))).length cb5_2x) ((y42.take kq).filter (fun e : El PCand => decide (x_now ≤ e.1.Until))).length (((y42.take kq).filter (fun e : El PCand => decide (x_now ≤ e.1.Until))).flatMap LT_54.enc) ∧ ((y42.take kq).filter (fun e : El PCand => decide (x_now ≤ e.1.Until))).length ≤ 1073741824) ∧ World.ownsRow w' w4.heap.size 54 4 (.slice a31 ((x_p).Cands).length c32) ((x_p).Cands).length (y42.flatMap LT_54.enc) ∧ SubA LT_54 w' w4.heap.size y42 ∧ Blk w' g19 59 [(vi x_p.At.Host), (vi x_p.At.Port), (.slice ab5_2x ((y42.take kq).filter (fun e : El PCand => decide (x_now ≤ e.1.Until))).length cb5_2x)]) (fun e' _ => x_p.Cands.length - ((intOf (e' 15))).toNat) ?_ ?_
 ·exact ⟨0, (unL [_, _, U, U, U, _, _, _, _, _, U, U, U, U, U, U, U, U, U, U, U, U, U, U]), none, 0, rfl, m37, (Ch.refl (fun k => w2.heap.size ≤ k) w5), (by omega), (hE51 ▸ ⟨(own_nil _ _ _ _), (by simp)⟩), o45, s46, b52⟩
 ·rintro _ w6 ⟨kq, u50, ab5_2x, cb5_2x, rfl, m53, k54, i55, ⟨o56, s57⟩, hsy1, hsy2, hbx5⟩
  refine sr ?_
  refine pu (vb (decide (((kq : Nat) : Int) < (((x_p).Cands).length : Int)))) wN ?_
  refine wl_nil <| wq_then <| wc_seq ?_
  rcases bf (decide (((kq : Nat) : Int) < (((x_p).Cands).length : Int))) with h59 | h59
  ·have q109 := of_decide_eq_false h59
   refine cf h59 ?_
   refine wc_exit <| wq_then_exit ?_
   obtain rfl : kq = x_p.Cands.length := by omega
   refine wq_then_exit <| wq_blk_exit <| wq_then <| sr ?_
   refine lN [(vi x_p.At.Host), (vi x_p.At.Port), (vs ab5_2x ((y42.take x_p.Cands.length).filter (fun e : El PCand => decide (x_now ≤ e.1.Until))).length cb5_2x)] wN isAgg_59 sizeOf_59 hbx5 ?_
   have b110 := ((((b16.kp k22).ch k25 (Nat.ne_of_lt (Nat.lt_of_lt_of_le p14 (Nat.le_trans (Nat.le_refl w2.heap.size) p20)))).kp k30).ch k54 (Nat.not_le.2 (Nat.lt_of_lt_of_le p14 (Nat.le_refl w2.heap.size))))
   refine st (va [(vi x_p.At.Host), (vi x_p.At.Port), (vs ab5_2x ((y42.take x_p.Cands.length).filter (fun e : El PCand => decide (x_now ≤ e.1.Until))).length cb5_2x)]) [(vi x_p.At.Host), (vi x_p.At.Port), (vs ab5_2x ((y42.take x_p.Cands.length).filter (fun e : El PCand => decide (x_now ≤ e.1.Until))).length cb5_2x)] [(vi x_p.At.Host), (vi x_p.At.Port), (vs ab5_2x ((y42.take x_p.Cands.length).filter (fun e : El PCand => decide (x_now ≤ e.1.Until))).length cb5_2x)] wN sizeOf_59 b110 ?_
   intro w7 k111 b112 z113
   have m114 := m53.ext k111 (fun k hk => by subst hk; exact Nat.le_trans k9.size p13)
   refine wl_nil <| wq_then <| wc_ret ?_
   have o115 := (own_ch o56 k111 (fun g hg hlt hk => by have h1 := (own_lt o56 g hg).1; have h2 := Nat.lt_of_lt_of_le p14 (t3 k22.size k25.size k30.size); omega))
   refine ret_1 (.inl rfl) (va [(vi x_p.At.Host), (vi x_p.At.Port), (vs ab5_2x ((y42.take x_p.Cands.length).filter (fun e : El PCand => decide (x_now ≤ e.1.Until))).length cb5_2x)]) rfl (rv_c [(vi x_p.At.Host), (vi x_p.At.Port), (vs ab5_2x ((y42.take x_p.Cands.length).filter (fun e : El PCand => decide (x_now ≤ e.1.Until))).length cb5_2x)] rfl b112 isAgg_59 sizeOf_59) ?_
   refine ⟨m114.keep0, ?_⟩
   have hF116 : F_impl_withoutExpired x_p x_now = { At := x_p.At, Cands := ((((x_p).Cands).take x_p.Cands.length).filter (fun c : PCand => decide (x_now ≤ c.Until))) : PPaths } := by simp only [F_impl_withoutExpired, h59, cond_true, cond_false]
   rw [hF116]
   have s117 := (SubA.ch hsy2 h48 k111 (fun g h1 h2 hk => by have h3 := Nat.lt_of_lt_of_le p14 (Nat.le_trans k22.size k25.size); omega))
   have h119 : (((y42.take x_p.Cands.length).filter (fun e : El PCand => decide (x_now ≤ e.1.Until)))).map Prod.fst = ((((x_p).Cands).take x_p.Cands.length).filter (fun c : PCand => decide (x_now ≤ c.Until))) := (by rw [fst_filter (f := (fun c : PCand => decide (x_now ≤ c.Until))), List.map_take, h43])
   have o118 := OLv.subl (own_lo o115 k30.size) rfl s117 (List.filter_sublist.trans (List.take_sublist _ _)) p47 s57
   rw [h119] at o118
   have hN120 : ((y42.take x_p.Cands.length).filter (fun e : El PCand => decide (x_now ≤ e.1.Until))).length = (((((x_p).Cands).take x_p.Cands.length).filter (fun c : PCand => decide (x_now ≤ c.Until)))).length := by rw [← h119, List.length_map]
   rw [hN120] at o118 ⊢
   exact ⟨_, _, rfl, (OLv.now (OLv.low o118 (t4 k9.size k15.size k22.size k25.size))), (by rw [← hN120]; exact s57), ⟨trivial, trivial⟩⟩
  have q60 := of_decide_eq_true h59
  refine ct h59 ?_
  refine wc_skip <| wq_then <| wc_seq <| wc_block <| sr ?_
  refine wl_index wN ((kq : Nat) : Int) rfl rfl rfl slTy_57 rfl rfl (Rd.of_own hsy1) (by first | omega | (simp only [List.length_cons, List.length_nil, List.length_replicate, List.length_append, List.length_take, List.length_set, List.length_map]; omega)) (by first | omega | (simp only [List.length_cons, List.length_nil, List.length_replicate, List.length_append, List.length_take, List.length_set, List.length_map]; omega)) ?_
  refine wl_loadEN [(vi ((((y42.getD kq (z_PCand, [])).1).A).Host)), (vi ((((y42.getD kq (z_PCand, [])).1).A).Port)), (vs (adr2 (y42.getD kq (z_PCand, [])).2 0).1 ((y42.getD kq (z_PCand, [])).1).Draw.length (adr2 (y42.getD kq (z_PCand, [])).2 0).2), (vi (((y42.getD kq (z_PCand, [])).1).Until))] wN rfl rfl rfl rfl isAgg_54 sizeOf_54 (Rd.of_own hsy1) (by first | omega | (simp only [List.length_cons, List.length_nil, List.length_replicate, List.length_append, List.length_take, List.length_set, List.length_map]; omega)) ((rows_part (k := kq) (off := 0) (n := 4) LT_54.len (z_PCand, []) (by first | rfl | simp | omega) (Nat.le_of_ble_eq_true rfl) (by omega)).trans rfl) ?_
  refine al [(vi 0), (vi 0), (vs none 0 0), (vi 0)] wN zero_54 ?_
  intro g62 w7 p63 p64 k65 b66
  have m67 := m53.extk k65
  refine st (va [(vi ((((y42.getD kq (z_PCand, [])).1).A).Host)), (vi ((((y42.getD kq (z_PCand, [])).1).A).Port)), (vs (adr2 (y42.getD kq (z_PCand, [])).2 0).1 ((y42.getD kq (z_PCand, [])).1).Draw.length (adr2 (y42.getD kq (z_PCand, [])).2 0).2), (vi (((y42.getD kq (z_PCand, [])).1).Until))]) [(vi ((((y42.getD kq (z_PCand, [])).1).A).Host)), (vi ((((y42.getD kq (z_PCand, [])).1).A).Port)), (vs (adr2 (y42.getD kq (z_PCand, [])).2 0).1 ((y42.getD kq (z_PCand, [])).1).Draw.length (adr2 (y42.getD kq (z_PCand, [])).2 0).2), (vi (((y42.getD kq (z_PCand, [])).1).Until))] [(vi ((((y42.getD kq (z_PCand, [])).1).A).Host)), (vi ((((y42.getD kq (z_PCand, [])).1).A).Port)), (vs (adr2 (y42.getD kq (z_PCand, [])).2 0).1 ((y42.getD kq (z_PCand, [])).1).Draw.length (adr2 (y42.getD kq (z_PCand, [])).2 0).2), (vi (((y42.getD kq (z_PCand, [])).1).Until))] wN sizeOf_54 b66 ?_
  intro w8 k68 b69 z70
  have m71 := m67.ext k68 (fun k hk => by subst hk; exact Nat.le_trans (t6 k9.size k15.size k22.size k25.size k30.size k54.size) p63)
  refine nx ?_
  refine pu (vp g62 3) wN ?_
  refine ld (vi (((y42.getD kq (z_PCand, [])).1).Until)) wN isAgg_3 b69 ?_
  refine mv (vi x_now) wN ?_
  refine pu (vb (decide (x_now ≤ ((y42.getD kq (z_PCand, [])).1).Until))) wN ?_
  refine wl_nil <| wq_then ?_
  rcases bf (decide (x_now ≤ ((y42.getD kq (z_PCand, [])).1).Until)) with h72 | h72
  ·have q103 := of_decide_eq_false h72
   refine cf h72 ?_
   refine wc_skip <| wq_blk_normal <| wq_then <| wc_region ?_
   refine ar (((kq : Nat) : Int) + 1) wN ?_
   refine mv (vi (((kq : Nat) : Int) + 1)) wN ?_
   refine wl_nil ?_
   have o104 := (own_ch (own_kp o56 k65) k68 (fun g hg hlt hk => by have h1 := (own_lt o56 g hg).2; have h2 := Nat.le_trans (Nat.le_refl w6.heap.size) p63; omega))
   have hE105 : (((y42.take kq).filter (fun e : El PCand => decide (x_now ≤ e.1.Until))) : List (El PCand)) = (y42.take (kq + 1)).filter (fun e : El PCand => decide (x_now ≤ e.1.Until)) := by first | rfl | exact filt_t (z := (z_PCand, [])) (by omega) (by assumption) | exact filt_f (z := (z_PCand, [])) (by omega) (by assumption)
   have o106 := (own_ch (own_kp hsy1 k65) k68 (fun g hg hlt hk => by have h1 := (own_lt o39 g hg).2; have h2 := Nat.le_trans k54.size p63; omega))
   have s107 := (SubA.ch (SubA.kp hsy2 k65) h48 k68 (fun g h1 h2 hk => by have h3 := Nat.le_trans k54.size p63; omega))
   have b108 := ((hbx5.kp k65).ch k68 (Nat.ne_of_lt (Nat.lt_of_lt_of_le p21 (Nat.le_trans (t3 k25.size k30.size k54.size) p63))))
   refine wq_loopQ (w0 := w6) (fun e => [e 0, e 1, e 2, e 3, e 4, e 5, e 6, e 7, e 8, e 9, e 10, e 11, e 12, e 13, e 14, (vi (((kq + 1) : Nat) : Int)), e 16, e 17, e 18, e 19, e 20, e 21, e 22, e 23, e 24, e 25, e 26, e 27, e 28, e 29, e 30]) rfl ?_ ?_ ?_
   · exact ⟨rfl, rfl, rfl, rfl, rfl, rfl, rfl, rfl, rfl, rfl, rfl, rfl, rfl, rfl, rfl, (congrArg (Value.int .i64) (show ((((kq : Nat) : Int) + 1) : Int) = (((kq + 1) : Nat) : Int) by omega)), rfl, rfl, rfl, rfl, rfl, rfl, rfl, rfl, rfl, rfl, rfl, rfl, rfl, rfl, rfl, trivial⟩
   · exact ⟨(kq + 1), (unL [_, _, _, _, _, _, _, _, _, _, _, _, _, _, _, _, _, _, _, _, _, _, _, _]), ab5_2x, cb5_2x, rfl, m71, ((((Ch.refl (fun k => w2.heap.size ≤ k) w5).ext k54 (fun k hk => Nat.le_trans (Nat.le_refl w2.heap.size) hk)).extk k65).ext k68 (fun k hk => by subst hk; exact Nat.le_trans (t4 k22.size k25.size k30.size k54.size) p63)), (by omega), (hE105 ▸ ⟨o104, s57⟩), o106, s107, (by have hb := b108; rw [hE105] at hb; exact hb)⟩
   · show x_p.Cands.length - ((((kq + 1) : Nat) : Int)).toNat < x_p.Cands.length - (((kq : Nat) : Int)).toNat; omega
  have q73 := of_decide_eq_true h72
  refine ct h72 ?_
  refine wc_region ?_
  refine pu (vp g19 2) wN ?_
  have b74 := ((hbx5.kp k65).ch k68 (Nat.ne_of_lt (Nat.lt_of_lt_of_le p21 (Nat.le_trans (t3 k25.size k30.size k54.size) p63))))
  refine ld (vs ab5_2x ((y42.take kq).filter (fun e : El PCand => decide (x_now ≤ e.1.Until))).length cb5_2x) wN isAgg_57 b74 ?_
  refine lN [(vi ((((y42.getD kq (z_PCand, [])).1).A).Host)), (vi ((((y42.getD kq (z_PCand, [])).1).A).Port)), (vs (adr2 (y42.getD kq (z_PCand, [])).2 0).1 ((y42.getD kq (z_PCand, [])).1).Draw.length (adr2 (y42.getD kq (z_PCand, [])).2 0).2), (vi (((y42.getD kq (z_PCand, [])).1).Until))] wN isAgg_54 sizeOf_54 b69 ?_
  refine wl_lit [(vi ((((y42.getD kq (z_PCand, [])).1).A).Host)), (vi ((((y42.getD kq (z_PCand, [])).1).A).Port)), (vs (adr2 (y42.getD kq (z_PCand, [])).2 0).1 ((y42.getD kq (z_PCand, [])).1).Draw.length (adr2 (y42.getD kq (z_PCand, [])).2 0).2), (vi (((y42.getD kq (z_PCand, [])).1).Until))] wN rfl rfl slTy_57 (m := 1) rfl (by simp only [maxLen]; omega) (fun w => by kernel_rfl) ?_
  intro u75 w9 k76 o77
  obtain ⟨a78, c79, rfl⟩ := own_form o77
  have m80 := m71.extk k76
  have o82 := (own_kp (own_ch (own_kp o56 k65) k68 (fun g hg hlt hk => by have h1 := (own_lt o56 g hg).2; have h2 := Nat.le_trans (Nat.le_refl w6.heap.size) p63; omega)) k76)
  refine wl_append wN rfl rfl rfl slTy_57 rfl rfl o82 (ys := LT_54.enc (y42.getD kq (z_PCand, []))) (Rd.of_own o77) (LT_54.one _) (by have hq9 : (((y42.take kq).filter (fun e : El PCand => decide (x_now ≤ e.1.Until)))).length = (((y42.take kq).filter (fun e : El PCand => decide (x_now ≤ e.1.Until)))).length := rfl; omega) (by simp only [maxLen]; omega) (t4 k54.size k65.size k68.size k76.size) ?_
  intro u83 w10 k84 o85 j86
  have o89 : w10.ownsRow w5.heap.size 54 4 u83 ((((y42.take kq).filter (fun e : El PCand => decide (x_now ≤ e.1.Until))) ++ [(y42.getD kq (z_PCand, []))])).length (((((y42.take kq).filter (fun e : El PCand => decide (x_now ≤ e.1.Until))) ++ [(y42.getD kq (z_PCand, []))])).flatMap LT_54.enc) := by simpa [List.flatMap_append] using o85
  obtain ⟨a87, c88, rfl⟩ := own_form o89
  have m90 := m80.ext k84 (fun k hk => Nat.le_trans (t5 k9.size k15.size k22.size k25.size k30.size) (own_lt o56 k hk).1)
  have s92 : ((((y42.take kq).filter (fun e : El PCand => decide (x_now ≤ e.1.Until))) ++ [(y42.getD kq (z_PCand, []))])).length ≤ 1073741824 := by first | (simp only [List.length_append, List.length_cons, List.length_nil]; omega) | (simp only [List.length_append, List.length_singleton]; refine Nat.le_trans (Nat.succ_le_succ (Nat.le_trans (List.length_filter_le _ _) (List.length_take_le _ _))) ?_; omega)
  refine pu (vp g19 2) wN ?_
  have b93 := ((b74.kp k76).ch k84 (fun h => by have := (own_lt o56 _ h).1; have := Nat.lt_of_lt_of_le p21 (Nat.le_trans k25.size k30.size); omega))
  refine st (vs a87 ((((y42.take kq).filter (fun e : El PCand => decide (x_now ≤ e.1.Until))) ++ [(y42.getD kq (z_PCand, []))])).length c88) [(vs a87 ((((y42.take kq).filter (fun e : El PCand => decide (x_now ≤ e.1.Until))) ++ [(y42.getD kq (z_PCand, []))])).length c88)] [(vi x_p.At.Host), (vi x_p.At.Port), (vs a87 ((((y42.take kq).filter (fun e : El PCand => decide (x_now ≤ e.1.Until))) ++ [(y42.getD kq (z_PCand, []))])).length c88)] wN sizeOf_57 b93 ?_
  intro w11 k94 b95 z96
  have m97 := m90.ext k94 (fun k hk => by subst hk; exact Nat.le_trans (Nat.le_trans k9.size k15.size) p20)
  refine wl_nil <| wq_blk_normal <| wq_then <| wc_region ?_
  refine ar (((kq : Nat) : Int) + 1) wN ?_
  refine mv (vi (((kq : Nat) : Int) + 1)) wN ?_
  refine wl_nil ?_
  have o98 := (own_ch o89 k94 (fun g hg hlt hk => by have h1 := (own_lt o89 g hg).1; have h2 := Nat.lt_of_lt_of_le p21 (Nat.le_trans k25.size k30.size); omega))
  have hE99 : ((((y42.take kq).filter (fun e : El PCand => decide (x_now ≤ e.1.Until))) ++ [(y42.getD kq (z_PCand, []))]) : List (El PCand)) = (y42.take (kq + 1)).filter (fun e : El PCand => decide (x_now ≤ e.1.Until)) := by first | rfl | exact filt_t (z := (z_PCand, [])) (by omega) (by assumption) | exact filt_f (z := (z_PCand, [])) (by omega) (by assumption)
  have hN100 : ((((y42.take kq).filter (fun e : El PCand => decide (x_now ≤ e.1.Until))) ++ [(y42.getD kq (z_PCand, []))])).length = ((y42.take (kq + 1)).filter (fun e : El PCand => decide (x_now ≤ e.1.Until))).length := by rw [← hE99]; try (first | rfl | simp only [List.length_set] | simp)
  have o101 := (own_ch (own_ch (own_kp (own_ch (own_kp hsy1 k65) k68 (fun g hg hlt hk => by have h1 := (own_lt o39 g hg).2; have h2 := Nat.le_trans k54.size p63; omega)) k76) k84 (fun g hg hlt hk => by have h1 := (own_lt o39 g hg).2; have h2 := (own_lt o56 g hk).1; have h3 := (Nat.le_refl w5.heap.size); omega)) k94 (fun g hg hlt hk => by have h1 := (own_lt o39 g hg).1; have h2 := Nat.lt_of_lt_of_le p21 k25.size; omega))
  have s102 := (SubA.ch (SubA.ch (SubA.kp (SubA.ch (SubA.kp hsy2 k65) h48 k68 (fun g h1 h2 hk => by have h3 := Nat.le_trans k54.size p63; omega)) k76) h48 k84 (fun g h1 h2 hk => by have h3 := (own_lt o56 g hk).1; have h4 := (Nat.le_refl w5.heap.size); omega)) h48 k94 (fun g h1 h2 hk => by have h3 := Nat.lt_of_lt_of_le p21 k25.size; omega))
  refine wq_loopQ (w0 := w6) (fun e => [e 0, e 1, e 2, e 3, e 4, e 5, e 6, e 7, e 8, e 9, e 10, e 11, e 12, e 13, e 14, (vi (((kq + 1) : Nat) : Int)), e 16, e 17, e 18, e 19, e 20, e 21, e 22, e 23, e 24, e 25, e 26, e 27, e 28, e 29, e 30]) rfl ?_ ?_ ?_
  · exact ⟨rfl, rfl, rfl, rfl, rfl, rfl, rfl, rfl, rfl, rfl, rfl, rfl, rfl, rfl, rfl, (congrArg (Value.int .i64) (show ((((kq : Nat) : Int) + 1) : Int) = (((kq + 1) : Nat) : Int) by omega)), rfl, rfl, rfl, rfl, rfl, rfl, rfl, rfl, rfl, rfl, rfl, rfl, rfl, rfl, rfl, trivial⟩
  · exact ⟨(kq + 1), (unL [_, _, _, _, _, _, _, _, _, _, _, _, _, _, _, _, _, _, _, _, _, _, _, _]), a87, c88, rfl, m97, (((((((Ch.refl (fun k => w2.heap.size ≤ k) w5).ext k54 (fun k hk => Nat.le_trans (Nat.le_refl w2.heap.size) hk)).extk k65).ext k68 (fun k hk => by subst hk; exact Nat.le_trans (t4 k22.size k25.size k30.size k54.size) p63)).extk k76).ext k84 (fun k hk => Nat.le_trans (t3 k22.size k25.size k30.size) (own_lt o56 k hk).1)).ext k94 (fun k hk => by subst hk; exact Nat.le_trans (Nat.le_refl w2.heap.size) p20)), (by omega), ⟨(by rw [← hN100, ← hE99]; exact o98), (by rw [← hN100]; first | exact s92 | (simp only [List.length_append, List.length_take, List.length_replicate]; omega))⟩, o101, s102, (by have hb := b95; rw [hE99] at hb; exact hb)⟩
  · show x_p.Cands.length - ((((kq + 1) : Nat) : Int)).toNat < x_p.Cands.length - (((kq : Nat) : Int)).toNat; omega

def F_laws_eqAddr (x_a : PAddr) (x_b : PAddr) : (Bool) := bif (decide (x_a.Host = x_b.Host)) then (bif (decide (x_a.Port = x_b.Port)) then (true) else (false)) else (false)
theorem C_laws_eqAddr (w0 : World) (v_x_a : Value) (x_a : PAddr) (r_x_a : R_26 w0 v_x_a x_a) (v_x_b : Value) (x_b : PAddr) (r_x_b : R_26 w0 v_x_b x_b)  : Fn Try.prog 102 #[v_x_a, v_x_b] w0 (fun v w' => Keep w0 w' ∧ O_4 w' w0.heap.size v (F_laws_eqAddr x_a x_b)) := by
 obtain rfl := r_x_a
 obtain rfl := r_x_b
 refine fn_of (n := 15) (l := [(va (L_26 x_a)), (va (L_26 x_b)), U, U, U, U, U, U, U, U, U, U, U, U, U]) Try.func102 rfl rfl (by kernel_rfl) rfl ?_
 refine sr ?_
 refine bx (L_26 x_a) wN ?_
 intro g1 w1 p2 p3 k4 b5
 have m6 := (Ch.base w0).extk k4
 refine bx (L_26 x_b) wN ?_
 intro g7 w2 p8 p9 k10 b11
 have m12 := m6.extk k10
 refine ag (vb false) wN ?_
 refine wl_nil <| wq_then <| wc_seq <| sr ?_
 refine pu (vp g1 0) wN ?_
 have b13 := (b5.kp k10)
 refine ld (vi x_a.Host) wN isAgg_3 b13 ?_
 refine pu (vp g7 0) wN ?_
 refine ld (vi x_b.Host) wN isAgg_3 b11 ?_
 refine pu (vb (!(decide (x_a.Host = x_b.Host)))) wN ?_
 refine wl_nil <| wq_then ?_
 rcases bf (decide (x_a.Host = x_b.Host)) with h14 | h14
 ·have q21 := of_decide_eq_false h14
  refine ct (congrArg not h14) ?_
  refine sr ?_
  refine ag (vb false) wN ?_
  refine wl_nil <| wq_then <| wc_ret <| wq_then_ret ?_
  refine ret_1 (.inl rfl) (vb false) rfl rfl ?_
  refine ⟨m12.keep0, ?_⟩
  have hF22 : F_laws_eqAddr x_a x_b = false := by simp only [F_laws_eqAddr, h14, cond_true, cond_false]
  rw [hF22]
  exact rfl
 have q15 := of_decide_eq_true h14
 refine cf (congrArg not h14) ?_
 refine wc_skip <| wq_then <| wc_seq <| sr ?_
 refine pu (vp g1 1) wN ?_
 refine ld (vi x_a.Port) wN isAgg_3 b13 ?_
 refine pu (vp g7 1) wN ?_
 refine ld (vi x_b.Port) wN isAgg_3 b11 ?_
 refine pu (vb (!(decide (x_a.Port = x_b.Port)))) wN ?_
 refine wl_nil <| wq_then ?_
 rcases bf (decide (x_a.Port = x_b.Port)) with h16 | h16
 ·have q19 := of_decide_eq_false h16
  refine ct (congrArg not h16) ?_
  refine sr ?_
  refine ag (vb false) wN ?_
  refine wl_nil <| wq_then <| wc_ret <| wq_then_ret ?_
  refine ret_1 (.inl rfl) (vb false) rfl rfl ?_
  refine ⟨m12.keep0, ?_⟩
  have hF20 : F_laws_eqAddr x_a x_b = false := by simp only [F_laws_eqAddr, h14, h16, cond_true, cond_false]
  rw [hF20]
  exact rfl
 have q17 := of_decide_eq_true h16
 refine cf (congrArg not h16) ?_
 refine wc_skip <| wq_then <| sr ?_
 refine ag (vb true) wN ?_
 refine wl_nil <| wq_then <| wc_ret ?_
 refine ret_1 (.inl rfl) (vb true) rfl rfl ?_
 refine ⟨m12.keep0, ?_⟩
 have hF18 : F_laws_eqAddr x_a x_b = true := by simp only [F_laws_eqAddr, h14, h16, cond_true, cond_false]
 rw [hF18]
 exact rfl

theorem C_laws_eqByteS (w0 : World) (v_x_a : Value) (x_a : List UInt8) (r_x_a : R_22 w0 v_x_a x_a) (v_x_b : Value) (x_b : List UInt8) (r_x_b : R_22 w0 v_x_b x_b)  : Fn Try.prog 59 #[v_x_a, v_x_b] w0 (fun v w' => Keep w0 w' ∧ O_4 w' w0.heap.size v (eqB x_a x_b)) := by
 obtain ⟨a1, c2, rfl, r3, s4⟩ := r_x_a
 obtain ⟨a6, c7, rfl, r8, s9⟩ := r_x_b
 refine fn_of (n := 26) (l := [(vs a1 x_a.length c2), (vs a6 x_b.length c7), U, U, U, U, U, U, U, U, U, U, U, U, U, U, U, U, U, U, U, U, U, U, U, U]) Try.func59 rfl rfl (by kernel_rfl) rfl ?_
 refine sr ?_
 refine ag (vb false) wN ?_
 refine wl_nil <| wq_then <| wc_seq <| sr ?_
 refine mv (vs a1 x_a.length c2) wN ?_
 refine ln wN slTy_22 r3 ?_
 refine mv (vs a6 x_b.length c7) wN ?_
 refine ln wN slTy_22 r8 ?_
 refine pu (vb (!(decide ((x_a.length : Int) = (x_b.length : Int))))) wN ?_
 refine wl_nil <| wq_then ?_
 rcases bf (decide ((x_a.length : Int) = (x_b.length : Int))) with h11 | h11
 ·have q44 := of_decide_eq_false h11
  refine ct (congrArg not h11) ?_
  refine sr ?_
  refine ag (vb false) wN ?_
  refine wl_nil <| wq_then <| wc_ret <| wq_then_ret ?_
  refine ret_1 (.inl rfl) (vb false) rfl rfl ?_
  refine ⟨Ch.refl _ _, ?_⟩
  have hF45 : eqB x_a x_b = false := by first | exact eqB_len (by assumption) | exact eqB_el (by assumption) | exact eqB_all (by assumption) (by omega) (by omega)
  rw [hF45]
  exact rfl
 have q12 := of_decide_eq_true h11
 refine cf (congrArg not h11) ?_
 refine wc_skip <| wq_then <| wc_seq <| sr ?_
 refine ag (vi 0) wN ?_
 refine wl_nil <| wq_then <| wc_block ?_
 refine wc_normQ (fun e => [e 0, e 1, e 2, e 3, e 4, (vi ((0 : Nat) : Int)), e 6, e 7, e 8, e 9, e 10, e 11, e 12, e 13, e 14, e 15, e 16, e 17, e 18, e 19, e 20, e 21, e 22, e 23, e 24, e 25]) rfl ⟨rfl, rfl, rfl, rfl, rfl, (congrArg (Value.int .i64) (show (0 : Int) = ((0 : Nat) : Int) by omega)), rfl, rfl, rfl, rfl, rfl, rfl, rfl, rfl, rfl, rfl, rfl, rfl, rfl, rfl, rfl, rfl, rfl, rfl, rfl, rfl, trivial⟩ ?_
 refine wc_loop (fun e' w' => ∃ (k : Nat) (u13 : Nat → Value), e' = lst [(vs a1 x_a.length c2), (vs a6 x_b.length c7), (u13 0), (u13 1), (u13 2), (vi ((k : Nat) : Int)), (u13 3), (u13 4), (u13 5), (u13 6), (u13 7), (u13 8), (u13 9), (u13 10), (u13 11), (u13 12), (u13 13), (u13 14), (u13 15), (u13 16), (u13 17), (u13 18), (u13 19), (u13 20), (u13 21), (u13 22)] ∧ Ch (fun k => w0.heap.size ≤ k) w0 w' ∧ Ch (fun k => w0.heap.size ≤ k) w0 w' ∧ k ≤ x_a.length ∧ x_a.take k = x_b.take k) (fun e' _ => x_a.length - ((intOf (e' 5))).toNat) ?_ ?_
 ·exact ⟨0, (unL [U, U, _, _, _, _, _, _, U, U, U, U, U, U, U, U, U, U, U, U, U, U, U]), rfl, (Ch.base w0), (Ch.refl (fun k => w0.heap.size ≤ k) w0), (by omega), (by first | rfl | exact eqB_next (by assumption) (by omega) (by omega) (by assumption))⟩
 ·rintro _ w1 ⟨k, u13, rfl, m14, k15, i16, i17⟩
  refine wc_seq <| sr ?_
  refine mv (vi ((k : Nat) : Int)) wN ?_
  refine mv (vs a1 x_a.length c2) wN ?_
  refine ln wN slTy_22 (r3.from0 m14) ?_
  refine pu (vb (decide (((k : Nat) : Int) < (x_a.length : Int)))) wN ?_
  refine wl_nil <| wq_then ?_
  rcases bf (decide (((k : Nat) : Int) < (x_a.length : Int))) with h18 | h18
  ·have q42 := of_decide_eq_false h18
   refine cf h18 ?_
   refine wc_exit <| wq_then_exit <| wq_then_exit <| wq_blk_exit <| wq_then <| sr ?_
   refine ag (vb true) wN ?_
   refine wl_nil <| wq_then <| wc_ret ?_
   refine ret_1 (.inl rfl) (vb true) rfl rfl ?_
   refine ⟨m14.keep0, ?_⟩
   have hF43 : eqB x_a x_b = true := by first | exact eqB_len (by assumption) | exact eqB_el (by assumption) | exact eqB_all (by assumption) (by omega) (by omega)
   rw [hF43]
   exact rfl
  have q19 := of_decide_eq_true h18
  refine ct h18 ?_
  refine wc_skip <| wq_then <| wc_seq <| wc_block <| wc_seq ?_
  refine wc_drawT ([(17, [], [], (fun _ v _ => v = (vs a1 x_a.length c2))), (18, [], [], (fun _ v _ => v = (vi ((k : Nat) : Int)))), (19, [], [0, 1], (fun _ v _ => v = (ve (vs a1 x_a.length c2) ((((k : Nat) : Int)).toNat * 1)))), (20, [], [0, 1, 2], (fun _ v _ => v = (v8 ((x_a.getD k 0).toNat : Int)))), (21, [], [], (fun _ v _ => v = (vs a6 x_b.length c7))), (22, [], [], (fun _ v _ => v = (vi ((k : Nat) : Int)))), (23, [], [4, 5], (fun _ v _ => v = (ve (vs a6 x_b.length c7) ((((k : Nat) : Int)).toNat * 1)))), (24, [], [4, 5, 6], (fun _ v _ => v = (v8 ((x_b.getD k 0).toNat : Int))))] : GV) (fun _ w' => Keep w1 w') [] mixed rfl (by kernel_rfl) (by kernel_rfl) ?_ (fun _ _ h => h) (fun _ _ _ _ h _ k => h.trans k) trivial ?_ ?_ ?_
  ·exact ⟨(fun _ _ _ _ h _ => h), (fun _ _ _ _ _ h => h), ⟨(fun _ _ _ _ h _ => h), (fun _ _ _ _ _ h => h), ⟨(fun _ _ _ _ h _ => h), (fun _ _ _ _ _ h => h), ⟨(fun _ _ _ _ h _ => h), (fun _ _ _ _ _ h => h), ⟨(fun _ _ _ _ h _ => h), (fun _ _ _ _ _ h => h), ⟨(fun _ _ _ _ h _ => h), (fun _ _ _ _ _ h => h), ⟨(fun _ _ _ _ h _ => h), (fun _ _ _ _ _ h => h), ⟨(fun _ _ _ _ h _ => h), (fun _ _ _ _ _ h => h), trivial⟩⟩⟩⟩⟩⟩⟩⟩
  ·exact trivial
  ·refine ⟨?_, ⟨?_, ⟨?_, ⟨?_, ⟨?_, ⟨?_, ⟨?_, ⟨?_, trivial⟩⟩⟩⟩⟩⟩⟩⟩
   ·intro _ w2 k20 _
    have m21 := m14.extk k20
    rintro _ _ _ _ _ _ _ _
    show WL _ _ _ _ _ _ _
    refine mv (vs a1 x_a.length c2) wN ?_
    exact wl_finT (Ch.refl _ _) rfl
   ·intro _ w2 k22 _
    have m23 := m14.extk k22
    rintro _ _ _ _ _ _ _ _
    show WL _ _ _ _ _ _ _
    refine mv (vi ((k : Nat) : Int)) wN ?_
    exact wl_finT (Ch.refl _ _) rfl
   ·intro _ w2 k24 _
    have m25 := m14.extk k24
    rintro _ rfl _ rfl _ _ _ _ _ _
    show WL _ _ _ _ _ _ _
    refine wl_index wN ((k : Nat) : Int) rfl rfl rfl slTy_22 rfl rfl (r3.from0 m25) (by first | omega | (simp only [List.length_cons, List.length_nil, List.length_replicate, List.length_append, List.length_take, List.length_set, List.length_map]; omega)) (by first | omega | (simp only [List.length_cons, List.length_nil, List.length_replicate, List.length_append, List.length_take, List.length_set, List.length_map]; omega)) ?_
    exact wl_finT (Ch.refl _ _) rfl
   ·intro _ w2 k26 _
    have m27 := m14.extk k26
    rintro _ rfl _ rfl _ rfl _ _ _ _ _
    show WL _ _ _ _ _ _ _
    refine wl_loadE (bV (x_a.getD k 0)) wN rfl rfl rfl rfl isAgg_5 (r3.from0 m27) (bget (by simp) (by first | omega | (simp only [List.length_cons, List.length_nil, List.length_replicate, List.length_append, List.length_take, List.length_set, List.length_map]; omega))) ?_
    exact wl_finT (Ch.refl _ _) rfl
   ·intro _ w2 k28 _
    have m29 := m14.extk k28
    rintro _ _ _ _ _ _ _ _
    show WL _ _ _ _ _ _ _
    refine mv (vs a6 x_b.length c7) wN ?_
    exact wl_finT (Ch.refl _ _) rfl
   ·intro _ w2 k30 _
    have m31 := m14.extk k30
    rintro _ _ _ _ _ _ _ _
    show WL _ _ _ _ _ _ _
    refine mv (vi ((k : Nat) : Int)) wN ?_
    exact wl_finT (Ch.refl _ _) rfl
   ·intro _ w2 k32 _
    have m33 := m14.extk k32
    rintro _ _ _ _ _ rfl _ rfl _ _
    show WL _ _ _ _ _ _ _
    refine wl_index wN ((k : Nat) : Int) rfl rfl rfl slTy_22 rfl rfl (r8.from0 m33) (by first | omega | (simp only [List.length_cons, List.length_nil, List.length_replicate, List.length_append, List.length_take, List.length_set, List.length_map]; omega)) (by first | omega | (simp only [List.length_cons, List.length_nil, List.length_replicate, List.length_append, List.length_take, List.length_set, List.length_map]; omega)) ?_
    exact wl_finT (Ch.refl _ _) rfl
   ·intro _ w2 k34 _
    have m35 := m14.extk k34
    rintro _ _ _ _ _ rfl _ rfl _ rfl _
    show WL _ _ _ _ _ _ _
    refine wl_loadE (bV (x_b.getD k 0)) wN rfl rfl rfl rfl isAgg_5 (r8.from0 m35) (bget (by simp) (by first | omega | (simp only [List.length_cons, List.length_nil, List.length_replicate, List.length_append, List.length_take, List.length_set, List.length_map]; omega))) ?_
    exact wl_finT (Ch.refl _ _) rfl
  ·intro _ w2 k36
   have m37 := m14.extk k36
   rintro _ rfl _ rfl _ rfl _ rfl _ rfl _ rfl _ rfl _ rfl
   show WL _ _ _ _ _ _ _
   refine pu (vb (!(decide (((x_a.getD k 0).toNat : Int) = ((x_b.getD k 0).toNat : Int))))) wN ?_
   refine wl_nil <| wq_then ?_
   rcases bf (decide (((x_a.getD k 0).toNat : Int) = ((x_b.getD k 0).toNat : Int))) with h38 | h38
   ·have q40 := of_decide_eq_false h38
    refine ct (congrArg not h38) ?_
    refine sr ?_
    refine ag (vb false) wN ?_
    refine wl_nil <| wq_then <| wc_ret <| wq_blk_ret <| wq_then_ret <| wq_then_ret <| wq_blk_ret <| wq_then_ret ?_
    refine ret_1 (.inl rfl) (vb false) rfl rfl ?_
    refine ⟨m37.keep0, ?_⟩
    have hF41 : eqB x_a x_b = false := by first | exact eqB_len (by assumption) | exact eqB_el (by assumption) | exact eqB_all (by assumption) (by omega) (by omega)
    rw [hF41]
    exact rfl
   have q39 := of_decide_eq_true h38
   refine cf (congrArg not h38) ?_
   refine wc_skip <| wq_blk_normal <| wq_then <| wc_region ?_
   refine mv (vi ((k : Nat) : Int)) wN ?_
   refine ar (((k : Nat) : Int) + 1) wN ?_
   refine ag (vi (((k : Nat) : Int) + 1)) wN ?_
   refine wl_nil ?_
   refine wq_loopQ (w0 := w1) (fun e => [e 0, e 1, e 2, e 3, e 4, (vi (((k + 1) : Nat) : Int)), e 6, e 7, e 8, e 9, e 10, e 11, e 12, e 13, e 14, e 15, e 16, e 17, e 18, e 19, e 20, e 21, e 22, e 23, e 24, e 25]) rfl ?_ ?_ ?_
   · exact ⟨rfl, rfl, rfl, rfl, rfl, (congrArg (Value.int .i64) (show ((((k : Nat) : Int) + 1) : Int) = (((k + 1) : Nat) : Int) by omega)), rfl, rfl, rfl, rfl, rfl, rfl, rfl, rfl, rfl, rfl, rfl, rfl, rfl, rfl, rfl, rfl, rfl, rfl, rfl, rfl, trivial⟩
   · exact ⟨(k + 1), (unL [_, _, _, _, _, _, _, _, _, _, _, _, _, _, _, _, _, _, _, _, _, _, _]), rfl, m37, (((Ch.refl (fun k => w0.heap.size ≤ k) w0).ext k15 (fun k hk => Nat.le_trans (Nat.le_refl w0.heap.size) hk)).extk k36), (by omega), (by first | rfl | exact eqB_next (by assumption) (by omega) (by omega) (by assumption))⟩
   · show x_a.length - ((((k + 1) : Nat) : Int)).toNat < x_a.length - (((k : Nat) : Int)).toNat; omega

def F_laws_eqCand (x_a : PCand) (x_b : PCand) : (Bool) := bif (F_laws_eqAddr x_a.A x_b.A) then (bif (eqB x_a.Draw x_b.Draw) then (bif (decide (x_a.Until = x_b.Until)) then (true) else (false)) else (false)) else (false)
theorem C_laws_eqCand (w0 : World) (v_x_a : Value) (x_a : PCand) (r_x_a : R_54 w0 v_x_a x_a) (v_x_b : Value) (x_b : PCand) (r_x_b : R_54 w0 v_x_b x_b)  : Fn Try.prog 36 #[v_x_a, v_x_b] w0 (fun v w' => Keep w0 w' ∧ O_4 w' w0.heap.size v (F_laws_eqCand x_a x_b)) := by
 obtain ⟨a1, c2, rfl, r3, s4⟩ := r_x_a
 obtain ⟨a6, c7, rfl, r8, s9⟩ := r_x_b
 refine fn_of (n := 22) (l := [(va (L_54 x_a a1 c2)), (va (L_54 x_b a6 c7)), U, U, U, U, U, U, U, U, U, U, U, U, U, U, U, U, U, U, U, U]) Try.func36 rfl rfl (by kernel_rfl) rfl ?_
 refine sr ?_
 refine bx (L_54 x_a a1 c2) wN ?_
 intro g11 w1 p12 p13 k14 b15
 have m16 := (Ch.base w0).extk k14
 refine bx (L_54 x_b a6 c7) wN ?_
 intro g17 w2 p18 p19 k20 b21
 have m22 := m16.extk k20
 refine ag (vb false) wN ?_
 refine wl_nil <| wq_then <| wc_seq <| sr ?_
 refine pu (vp g11 0) wN ?_
 have b23 := (b15.kp k20)
 refine lN (L_26 x_a.A) wN isAgg_26 sizeOf_26 b23 ?_
 refine pu (vp g17 0) wN ?_
 refine lN (L_26 x_b.A) wN isAgg_26 sizeOf_26 b21 ?_
 refine cl wN (C_laws_eqAddr w2 _ x_a.A (mR_26) _ x_b.A (mR_26)) ?_
 rintro _ w3 ⟨k24, rfl⟩
 have m25 := m22.extk k24
 refine pu (vb (!(F_laws_eqAddr x_a.A x_b.A))) wN ?_
 refine wl_nil <| wq_then ?_
 rcases bf (F_laws_eqAddr x_a.A x_b.A) with h26 | h26
 ·refine ct (congrArg not h26) ?_
  refine sr ?_
  refine ag (vb false) wN ?_
  refine wl_nil <| wq_then <| wc_ret <| wq_then_ret ?_
  refine ret_1 (.inl rfl) (vb false) rfl rfl ?_
  refine ⟨m25.keep0, ?_⟩
  have hF44 : F_laws_eqCand x_a x_b = false := by simp only [F_laws_eqCand, h26, cond_true, cond_false]
  rw [hF44]
  exact rfl
 refine cf (congrArg not h26) ?_
 refine wc_skip <| wq_then <| wc_seq <| sr ?_
 refine pu (vp g11 2) wN ?_
 have b28 := (b23.kp k24)
 refine ld (vs a1 x_a.Draw.length c2) wN isAgg_22 b28 ?_
 refine pu (vp g17 2) wN ?_
 have b29 := (b21.kp k24)
 refine ld (vs a6 x_b.Draw.length c7) wN isAgg_22 b29 ?_
 refine cl wN (C_laws_eqByteS w3 _ x_a.Draw (mR_22 (r3.from0 m25) s4) _ x_b.Draw (mR_22 (r8.from0 m25) s9)) ?_
 rintro _ w4 ⟨k30, rfl⟩
 have m31 := m25.extk k30
 refine pu (vb (!(eqB x_a.Draw x_b.Draw))) wN ?_
 refine wl_nil <| wq_then ?_
 rcases bf (eqB x_a.Draw x_b.Draw) with h32 | h32
 ·refine ct (congrArg not h32) ?_
  refine sr ?_
  refine ag (vb false) wN ?_
  refine wl_nil <| wq_then <| wc_ret <| wq_then_ret ?_
  refine ret_1 (.inl rfl) (vb false) rfl rfl ?_
  refine ⟨m31.keep0, ?_⟩
  have hF42 : F_laws_eqCand x_a x_b = false := by simp only [F_laws_eqCand, h26, h32, cond_true, cond_false]
  rw [hF42]
  exact rfl
 refine cf (congrArg not h32) ?_
 refine wc_skip <| wq_then <| wc_seq <| sr ?_
 refine pu (vp g11 3) wN ?_
 have b34 := (b28.kp k30)
 refine ld (vi x_a.Until) wN isAgg_3 b34 ?_
 refine pu (vp g17 3) wN ?_
 have b35 := (b29.kp k30)
 refine ld (vi x_b.Until) wN isAgg_3 b35 ?_
 refine pu (vb (!(decide (x_a.Until = x_b.Until)))) wN ?_
 refine wl_nil <| wq_then ?_
 rcases bf (decide (x_a.Until = x_b.Until)) with h36 | h36
 ·have q39 := of_decide_eq_false h36
  refine ct (congrArg not h36) ?_
  refine sr ?_
  refine ag (vb false) wN ?_
  refine wl_nil <| wq_then <| wc_ret <| wq_then_ret ?_
  refine ret_1 (.inl rfl) (vb false) rfl rfl ?_
  refine ⟨m31.keep0, ?_⟩
  have hF40 : F_laws_eqCand x_a x_b = false := by simp only [F_laws_eqCand, h26, h32, h36, cond_true, cond_false]
  rw [hF40]
  exact rfl
 have q37 := of_decide_eq_true h36
 refine cf (congrArg not h36) ?_
 refine wc_skip <| wq_then <| sr ?_
 refine ag (vb true) wN ?_
 refine wl_nil <| wq_then <| wc_ret ?_
 refine ret_1 (.inl rfl) (vb true) rfl rfl ?_
 refine ⟨m31.keep0, ?_⟩
 have hF38 : F_laws_eqCand x_a x_b = true := by simp only [F_laws_eqCand, h26, h32, h36, cond_true, cond_false]
 rw [hF38]
 exact rfl

def R_57 (w : World) (v : Value) (x : (List PCand)) : Prop := ∃ (a1 : Option Addr) (c1 : Nat), v = .slice a1 x.length c1 ∧ RLv LT_54 w 1073741824 a1 x.length c1 x ∧ x.length ≤ 1073741824
theorem eq_iff_PCand (a b : PCand) : F_laws_eqCand a b = decide (a = b) := by
  obtain ⟨⟨a00, a01⟩, a1, a2⟩ := a
  obtain ⟨⟨b00, b01⟩, b1, b2⟩ := b
  simp only [cond_eq_ite, eqB, F_laws_eqCand, F_laws_eqAddr, PCand.mk.injEq, PAddr.mk.injEq]
  grind
def eqF_PCand (a b : List PCand) : Bool := decide (a = b)
theorem C_laws_eqCandS (w0 : World) (v_x_a : Value) (x_a : List PCand) (r_x_a : R_57 w0 v_x_a x_a) (v_x_b : Value) (x_b : List PCand) (r_x_b : R_57 w0 v_x_b x_b)  : Fn Try.prog 103 #[v_x_a, v_x_b] w0 (fun v w' => Keep w0 w' ∧ O_4 w' w0.heap.size v (eqF_PCand x_a x_b)) := by
 obtain ⟨a1, c2, rfl, r3, s4⟩ := r_x_a
 obtain ⟨a6, c7, rfl, r8, s9⟩ := r_x_b
 refine fn_of (n := 27) (l := [(vs a1 x_a.length c2), (vs a6 x_b.length c7), U, U, U, U, U, U, U, U, U, U, U, U, U, U, U, U, U, U, U, U, U, U, U, U, U]) Try.func103 rfl rfl (by kernel_rfl) rfl ?_
 refine sr ?_
 refine ag (vb false) wN ?_
 refine wl_nil <| wq_then <| wc_seq <| sr ?_
 refine mv (vs a1 x_a.length c2) wN ?_
 obtain ⟨y11, r12⟩ := RLv.row r3
 refine ln wN slTy_57 r12 ?_
 refine mv (vs a6 x_b.length c7) wN ?_
 obtain ⟨y13, r14⟩ := RLv.row r8
 refine ln wN slTy_57 r14 ?_
 refine pu (vb (!(decide ((x_a.length : Int) = (x_b.length : Int))))) wN ?_
 refine wl_nil <| wq_then ?_
 rcases bf (decide ((x_a.length : Int) = (x_b.length : Int))) with h15 | h15
 ·have q122 := of_decide_eq_false h15
  refine ct (congrArg not h15) ?_
  refine sr ?_
  refine ag (vb false) wN ?_
  refine wl_nil <| wq_then <| wc_ret <| wq_then_ret ?_
  refine ret_1 (.inl rfl) (vb false) rfl rfl ?_
  refine ⟨Ch.refl _ _, ?_⟩
  have hF123 : eqF_PCand x_a x_b = false := by first | exact eqL_len (by assumption) | exact eqL_el (z := z_PCand) (fun h => by have hq := ‹F_laws_eqCand (x_a.getD k z_PCand) (x_b.getD k z_PCand) = false›; rw [eq_iff_PCand, h] at hq; simp at hq) | exact eqL_all (by assumption) (by omega) (by omega)
  rw [hF123]
  exact rfl
 have q16 := of_decide_eq_true h15
 refine cf (congrArg not h15) ?_
 refine wc_skip <| wq_then <| wc_seq <| sr ?_
 refine ag (vi 0) wN ?_
 refine wl_nil <| wq_then <| wc_block ?_
 refine wc_normQ (fun e => [e 0, e 1, e 2, e 3, e 4, (vi ((0 : Nat) : Int)), e 6, e 7, e 8, e 9, e 10, e 11, e 12, e 13, e 14, e 15, e 16, e 17, e 18, e 19, e 20, e 21, e 22, e 23, e 24, e 25, e 26]) rfl ⟨rfl, rfl, rfl, rfl, rfl, (congrArg (Value.int .i64) (show (0 : Int) = ((0 : Nat) : Int) by omega)), rfl, rfl, rfl, rfl, rfl, rfl, rfl, rfl, rfl, rfl, rfl, rfl, rfl, rfl, rfl, rfl, rfl, rfl, rfl, rfl, rfl, trivial⟩ ?_
 refine wc_loop (fun e' w' => ∃ (k : Nat) (u17 : Nat → Value), e' = lst [(vs a1 x_a.length c2), (vs a6 x_b.length c7), (u17 0), (u17 1), (u17 2), (vi ((k : Nat) : Int)), (u17 3), (u17 4), (u17 5), (u17 6), (u17 7), (u17 8), (u17 9), (u17 10), (u17 11), (u17 12), (u17 13), (u17 14), (u17 15), (u17 16), (u17 17), (u17 18), (u17 19), (u17 20), (u17 21), (u17 22), (u17 23)] ∧ Ch (fun k => w0.heap.size ≤ k) w0 w' ∧ Ch (fun k => w0.heap.size ≤ k) w0 w' ∧ k ≤ x_a.length ∧ x_a.take k = x_b.take k) (fun e' _ => x_a.length - ((intOf (e' 5))).toNat) ?_ ?_
 ·exact ⟨0, (unL [U, U, _, _, _, _, _, _, U, U, U, U, U, U, U, U, U, U, U, U, U, U, U, U]), rfl, (Ch.base w0), (Ch.refl (fun k => w0.heap.size ≤ k) w0), (by omega), (by first | rfl | exact eqL_next (z := z_PCand) (by assumption) (by omega) (by omega) (by have := eq_iff_PCand; simp_all))⟩
 ·rintro _ w1 ⟨k, u17, rfl, m18, k19, i20, i21⟩
  refine wc_seq <| sr ?_
  refine mv (vi ((k : Nat) : Int)) wN ?_
  refine mv (vs a1 x_a.length c2) wN ?_
  obtain ⟨y22, r23⟩ := RLv.row (r3.from0 m18)
  refine ln wN slTy_57 r23 ?_
  refine pu (vb (decide (((k : Nat) : Int) < (x_a.length : Int)))) wN ?_
  refine wl_nil <| wq_then ?_
  rcases bf (decide (((k : Nat) : Int) < (x_a.length : Int))) with h24 | h24
  ·have q120 := of_decide_eq_false h24
   refine cf h24 ?_
   refine wc_exit <| wq_then_exit <| wq_then_exit <| wq_blk_exit <| wq_then <| sr ?_
   refine ag (vb true) wN ?_
   refine wl_nil <| wq_then <| wc_ret ?_
   refine ret_1 (.inl rfl) (vb true) rfl rfl ?_
   refine ⟨m18.keep0, ?_⟩
   have hF121 : eqF_PCand x_a x_b = true := by first | exact eqL_len (by assumption) | exact eqL_el (z := z_PCand) (fun h => by have hq := ‹F_laws_eqCand (x_a.getD k z_PCand) (x_b.getD k z_PCand) = false›; rw [eq_iff_PCand, h] at hq; simp at hq) | exact eqL_all (by assumption) (by omega) (by omega)
   rw [hF121]
   exact rfl
  have q25 := of_decide_eq_true h24
  refine ct h24 ?_
  refine wc_skip <| wq_then <| wc_seq <| wc_block <| wc_seq ?_
  obtain ⟨y56, l57, r58, e59, u60⟩ := RLv.el z_PCand (i := k) r3 (by first | omega | (simp only [List.length_cons, List.length_nil, List.length_replicate, List.length_append, List.length_take, List.length_set, List.length_map]; omega))
  obtain ⟨a61, c62, l66, rfl, r63, s64, u67⟩ := SubR.c u60
  obtain rfl := SubR.n u67
  obtain ⟨y68, l69, r70, e71, u72⟩ := RLv.el z_PCand (i := k) r8 (by first | omega | (simp only [List.length_cons, List.length_nil, List.length_replicate, List.length_append, List.length_take, List.length_set, List.length_map]; omega))
  obtain ⟨a73, c74, l78, rfl, r75, s76, u79⟩ := SubR.c u72
  obtain rfl := SubR.n u79
  refine wc_drawT ([(17, [], [], (fun _ v _ => v = (vs a1 x_a.length c2))), (18, [], [], (fun _ v _ => v = (vi ((k : Nat) : Int)))), (19, [], [0, 1], (fun _ v _ => v = (ve (vs a1 x_a.length c2) ((((k : Nat) : Int)).toNat * 4)))), (20, [], [0, 1, 2], (fun _ v _ => v = (.agg #[(vi (((x_a.getD k z_PCand).A).Host)), (vi (((x_a.getD k z_PCand).A).Port)), (vs a61 (x_a.getD k z_PCand).Draw.length c62), (vi ((x_a.getD k z_PCand).Until))]))), (21, [], [], (fun _ v _ => v = (vs a6 x_b.length c7))), (22, [], [], (fun _ v _ => v = (vi ((k : Nat) : Int)))), (23, [], [4, 5], (fun _ v _ => v = (ve (vs a6 x_b.length c7) ((((k : Nat) : Int)).toNat * 4)))), (24, [], [4, 5, 6], (fun _ v _ => v = (.agg #[(vi (((x_b.getD k z_PCand).A).Host)), (vi (((x_b.getD k z_PCand).A).Port)), (vs a73 (x_b.getD k z_PCand).Draw.length c74), (vi ((x_b.getD k z_PCand).Until))])))] : GV) (fun _ w' => Keep w1 w') [] mixed rfl (by kernel_rfl) (by kernel_rfl) ?_ (fun _ _ h => h) (fun _ _ _ _ h _ k => h.trans k) trivial ?_ ?_ ?_
  ·exact ⟨(fun _ _ _ _ h _ => h), (fun _ _ _ _ _ h => h), ⟨(fun _ _ _ _ h _ => h), (fun _ _ _ _ _ h => h), ⟨(fun _ _ _ _ h _ => h), (fun _ _ _ _ _ h => h), ⟨(fun _ _ _ _ h _ => h), (fun _ _ _ _ _ h => h), ⟨(fun _ _ _ _ h _ => h), (fun _ _ _ _ _ h => h), ⟨(fun _ _ _ _ h _ => h), (fun _ _ _ _ _ h => h), ⟨(fun _ _ _ _ h _ => h), (fun _ _ _ _ _ h => h), ⟨(fun _ _ _ _ h _ => h), (fun _ _ _ _ _ h => h), trivial⟩⟩⟩⟩⟩⟩⟩⟩
  ·exact trivial
  ·refine ⟨?_, ⟨?_, ⟨?_, ⟨?_, ⟨?_, ⟨?_, ⟨?_, ⟨?_, trivial⟩⟩⟩⟩⟩⟩⟩⟩
   ·intro _ w2 k84 _
    have m85 := m18.extk k84
    rintro _ _ _ _ _ _ _ _
    show WL _ _ _ _ _ _ _
    refine mv (vs a1 x_a.length c2) wN ?_
    exact wl_finT (Ch.refl _ _) rfl
   ·intro _ w2 k86 _
    have m87 := m18.extk k86
    rintro _ _ _ _ _ _ _ _
    show WL _ _ _ _ _ _ _
    refine mv (vi ((k : Nat) : Int)) wN ?_
    exact wl_finT (Ch.refl _ _) rfl
   ·intro _ w2 k88 _
    have m89 := m18.extk k88
    rintro _ rfl _ rfl _ _ _ _ _ _
    show WL _ _ _ _ _ _ _
    obtain ⟨y90, r91⟩ := RLv.row (r3.from0 m89)
    refine wl_index wN ((k : Nat) : Int) rfl rfl rfl slTy_57 rfl rfl r91 (by first | omega | (simp only [List.length_cons, List.length_nil, List.length_replicate, List.length_append, List.length_take, List.length_set, List.length_map]; omega)) (by first | omega | (simp only [List.length_cons, List.length_nil, List.length_replicate, List.length_append, List.length_take, List.length_set, List.length_map]; omega)) ?_
    exact wl_finT (Ch.refl _ _) rfl
   ·intro _ w2 k92 _
    have m93 := m18.extk k92
    rintro _ rfl _ rfl _ rfl _ _ _ _ _
    show WL _ _ _ _ _ _ _
    refine wl_loadEN [(vi (((x_a.getD k z_PCand).A).Host)), (vi (((x_a.getD k z_PCand).A).Port)), (vs a61 (x_a.getD k z_PCand).Draw.length c62), (vi ((x_a.getD k z_PCand).Until))] wN rfl rfl rfl rfl isAgg_54 sizeOf_54 (r58.from0 m93) (by first | omega | (simp only [List.length_cons, List.length_nil, List.length_replicate, List.length_append, List.length_take, List.length_set, List.length_map]; omega)) ((part_of (off := 0) (n := 4) e59 (by first | rfl | simp | omega) (by decide)).trans rfl) ?_
    exact wl_finT (Ch.refl _ _) rfl
   ·intro _ w2 k96 _
    have m97 := m18.extk k96
    rintro _ _ _ _ _ _ _ _
    show WL _ _ _ _ _ _ _
    refine mv (vs a6 x_b.length c7) wN ?_
    exact wl_finT (Ch.refl _ _) rfl
   ·intro _ w2 k98 _
    have m99 := m18.extk k98
    rintro _ _ _ _ _ _ _ _
    show WL _ _ _ _ _ _ _
    refine mv (vi ((k : Nat) : Int)) wN ?_
    exact wl_finT (Ch.refl _ _) rfl
   ·intro _ w2 k100 _
    have m101 := m18.extk k100
    rintro _ _ _ _ _ rfl _ rfl _ _
    show WL _ _ _ _ _ _ _
    obtain ⟨y102, r103⟩ := RLv.row (r8.from0 m101)
    refine wl_index wN ((k : Nat) : Int) rfl rfl rfl slTy_57 rfl rfl r103 (by first | omega | (simp only [List.length_cons, List.length_nil, List.length_replicate, List.length_append, List.length_take, List.length_set, List.length_map]; omega)) (by first | omega | (simp only [List.length_cons, List.length_nil, List.length_replicate, List.length_append, List.length_take, List.length_set, List.length_map]; omega)) ?_
    exact wl_finT (Ch.refl _ _) rfl
   ·intro _ w2 k104 _
    have m105 := m18.extk k104
    rintro _ _ _ _ _ rfl _ rfl _ rfl _
    show WL _ _ _ _ _ _ _
    refine wl_loadEN [(vi (((x_b.getD k z_PCand).A).Host)), (vi (((x_b.getD k z_PCand).A).Port)), (vs a73 (x_b.getD k z_PCand).Draw.length c74), (vi ((x_b.getD k z_PCand).Until))] wN rfl rfl rfl rfl isAgg_54 sizeOf_54 (r70.from0 m105) (by first | omega | (simp only [List.length_cons, List.length_nil, List.length_replicate, List.length_append, List.length_take, List.length_set, List.length_map]; omega)) ((part_of (off := 0) (n := 4) e71 (by first | rfl | simp | omega) (by decide)).trans rfl) ?_
    exact wl_finT (Ch.refl _ _) rfl
  ·intro _ w2 k108
   have m109 := m18.extk k108
   rintro _ rfl _ rfl _ rfl _ rfl _ rfl _ rfl _ rfl _ rfl
   show WL _ _ _ _ _ _ _
   refine cl wN (C_laws_eqCand w2 _ (x_a.getD k z_PCand) (mR_54 (r63.from0 m109) s64) _ (x_b.getD k z_PCand) (mR_54 (r75.from0 m109) s76)) ?_
   rintro _ w3 ⟨k114, rfl⟩
   have m115 := m109.extk k114
   refine pu (vb (!(F_laws_eqCand (x_a.getD k z_PCand) (x_b.getD k z_PCand)))) wN ?_
   refine wl_nil <| wq_then ?_
   rcases bf (F_laws_eqCand (x_a.getD k z_PCand) (x_b.getD k z_PCand)) with h116 | h116
   ·refine ct (congrArg not h116) ?_
    refine sr ?_
    refine ag (vb false) wN ?_
    refine wl_nil <| wq_then <| wc_ret <| wq_blk_ret <| wq_then_ret <| wq_then_ret <| wq_blk_ret <| wq_then_ret ?_
    refine ret_1 (.inl rfl) (vb false) rfl rfl ?_
    refine ⟨m115.keep0, ?_⟩
    have hF119 : eqF_PCand x_a x_b = false := by first | exact eqL_len (by assumption) | exact eqL_el (z := z_PCand) (fun h => by have hq := ‹F_laws_eqCand (x_a.getD k z_PCand) (x_b.getD k z_PCand) = false›; rw [eq_iff_PCand, h] at hq; simp at hq) | exact eqL_all (by assumption) (by omega) (by omega)
    rw [hF119]
    exact rfl
   refine cf (congrArg not h116) ?_
   refine wc_skip <| wq_blk_normal <| wq_then <| wc_region ?_
   refine mv (vi ((k : Nat) : Int)) wN ?_
   refine ar (((k : Nat) : Int) + 1) wN ?_
   refine ag (vi (((k : Nat) : Int) + 1)) wN ?_
   refine wl_nil ?_
   refine wq_loopQ (w0 := w1) (fun e => [e 0, e 1, e 2, e 3, e 4, (vi (((k + 1) : Nat) : Int)), e 6, e 7, e 8, e 9, e 10, e 11, e 12, e 13, e 14, e 15, e 16, e 17, e 18, e 19, e 20, e 21, e 22, e 23, e 24, e 25, e 26]) rfl ?_ ?_ ?_
   · exact ⟨rfl, rfl, rfl, rfl, rfl, (congrArg (Value.int .i64) (show ((((k : Nat) : Int) + 1) : Int) = (((k + 1) : Nat) : Int) by omega)), rfl, rfl, rfl, rfl, rfl, rfl, rfl, rfl, rfl, rfl, rfl, rfl, rfl, rfl, rfl, rfl, rfl, rfl, rfl, rfl, rfl, trivial⟩
   · exact ⟨(k + 1), (unL [_, _, _, _, _, _, _, _, _, _, _, _, _, _, _, _, _, _, _, _, _, _, _, _]), rfl, m115, ((((Ch.refl (fun k => w0.heap.size ≤ k) w0).ext k19 (fun k hk => Nat.le_trans (Nat.le_refl w0.heap.size) hk)).extk k108).extk k114), (by omega), (by first | rfl | exact eqL_next (z := z_PCand) (by assumption) (by omega) (by omega) (by have := eq_iff_PCand; simp_all))⟩
   · show x_a.length - ((((k + 1) : Nat) : Int)).toNat < x_a.length - (((k : Nat) : Int)).toNat; omega

theorem mR_57 {w : World} {x : List PCand} {a1 : Option Addr} {c1 : Nat} (h1 : RLv LT_54 w 1073741824 a1 x.length c1 x) (l1 : x.length ≤ 1073741824) : R_57 w (vs a1 x.length c1) x := ⟨_, _, rfl, h1, l1⟩
def F_laws_eqPaths (x_a : PPaths) (x_b : PPaths) : (Bool) := bif (F_laws_eqAddr x_a.At x_b.At) then (bif (eqF_PCand x_a.Cands x_b.Cands) then (true) else (false)) else (false)
theorem C_laws_eqPaths (w0 : World) (v_x_a : Value) (x_a : PPaths) (r_x_a : R_59 w0 v_x_a x_a) (v_x_b : Value) (x_b : PPaths) (r_x_b : R_59 w0 v_x_b x_b)  : Fn Try.prog 37 #[v_x_a, v_x_b] w0 (fun v w' => Keep w0 w' ∧ O_4 w' w0.heap.size v (F_laws_eqPaths x_a x_b)) := by
 obtain ⟨a1, c2, rfl, r3, s4⟩ := r_x_a
 obtain ⟨a6, c7, rfl, r8, s9⟩ := r_x_b
 refine fn_of (n := 17) (l := [(va (L_59 x_a a1 c2)), (va (L_59 x_b a6 c7)), U, U, U, U, U, U, U, U, U, U, U, U, U, U, U]) Try.func37 rfl rfl (by kernel_rfl) rfl ?_
 refine sr ?_
 refine bx (L_59 x_a a1 c2) wN ?_
 intro g11 w1 p12 p13 k14 b15
 have m16 := (Ch.base w0).extk k14
 refine bx (L_59 x_b a6 c7) wN ?_
 intro g17 w2 p18 p19 k20 b21
 have m22 := m16.extk k20
 refine ag (vb false) wN ?_
 refine wl_nil <| wq_then <| wc_seq <| sr ?_
 refine pu (vp g11 0) wN ?_
 have b23 := (b15.kp k20)
 refine lN (L_26 x_a.At) wN isAgg_26 sizeOf_26 b23 ?_
 refine pu (vp g17 0) wN ?_
 refine lN (L_26 x_b.At) wN isAgg_26 sizeOf_26 b21 ?_
 refine cl wN (C_laws_eqAddr w2 _ x_a.At (mR_26) _ x_b.At (mR_26)) ?_
 rintro _ w3 ⟨k24, rfl⟩
 have m25 := m22.extk k24
 refine pu (vb (!(F_laws_eqAddr x_a.At x_b.At))) wN ?_
 refine wl_nil <| wq_then ?_
 rcases bf (F_laws_eqAddr x_a.At x_b.At) with h26 | h26
 ·refine ct (congrArg not h26) ?_
  refine sr ?_
  refine ag (vb false) wN ?_
  refine wl_nil <| wq_then <| wc_ret <| wq_then_ret ?_
  refine ret_1 (.inl rfl) (vb false) rfl rfl ?_
  refine ⟨m25.keep0, ?_⟩
  have hF38 : F_laws_eqPaths x_a x_b = false := by simp only [F_laws_eqPaths, h26, cond_true, cond_false]
  rw [hF38]
  exact rfl
 refine cf (congrArg not h26) ?_
 refine wc_skip <| wq_then <| wc_seq <| sr ?_
 refine pu (vp g11 2) wN ?_
 have b28 := (b23.kp k24)
 refine ld (vs a1 x_a.Cands.length c2) wN isAgg_57 b28 ?_
 refine pu (vp g17 2) wN ?_
 have b29 := (b21.kp k24)
 refine ld (vs a6 x_b.Cands.length c7) wN isAgg_57 b29 ?_
 refine cl wN (C_laws_eqCandS w3 _ x_a.Cands (mR_57 (r3.from0 m25) s4) _ x_b.Cands (mR_57 (r8.from0 m25) s9)) ?_
 rintro _ w4 ⟨k30, rfl⟩
 have m31 := m25.extk k30
 refine pu (vb (!(eqF_PCand x_a.Cands x_b.Cands))) wN ?_
 refine wl_nil <| wq_then ?_
 rcases bf (eqF_PCand x_a.Cands x_b.Cands) with h32 | h32
 ·refine ct (congrArg not h32) ?_
  refine sr ?_
  refine ag (vb false) wN ?_
  refine wl_nil <| wq_then <| wc_ret <| wq_then_ret ?_
  refine ret_1 (.inl rfl) (vb false) rfl rfl ?_
  refine ⟨m31.keep0, ?_⟩
  have hF36 : F_laws_eqPaths x_a x_b = false := by simp only [F_laws_eqPaths, h26, h32, cond_true, cond_false]
  rw [hF36]
  exact rfl
 refine cf (congrArg not h32) ?_
 refine wc_skip <| wq_then <| sr ?_
 refine ag (vb true) wN ?_
 refine wl_nil <| wq_then <| wc_ret ?_
 refine ret_1 (.inl rfl) (vb true) rfl rfl ?_
 refine ⟨m31.keep0, ?_⟩
 have hF34 : F_laws_eqPaths x_a x_b = true := by simp only [F_laws_eqPaths, h26, h32, cond_true, cond_false]
 rw [hF34]
 exact rfl
end Go.Proofs.Ytjcahjhnnagkdaa.K
