import Derived.Test.YtodlalolknldmaaCore
import Derived.Test.YtodlalolknldmaaProg
import Derived.Test.YtodlalolknldmaaHeld
import Derived.Test.YtodlalolknldmaaFun
import Derived.Test.YtodlalolknldmaaFunZ
import Derived.Test.YtodlalolknldmaaMark
namespace Go.Proofs.Ytodlalolknldmaa.K
open Go.RowKit
set_option linter.unusedVariables false
set_option linter.unusedSimpArgs false
set_option maxRecDepth 100000
def LT_22 : LTy (List UInt8) := { E := 22, Eb := 5, sz := 1, enc := fun e => [vs (adr2 e.2 0).1 e.1.length (adr2 e.2 0).2], bs := fun x => [x], len := fun _ => rfl, one := fun _ => one_all rfl, pos := by decide, ne := by decide }
def z_B : List UInt8 := []
def enc_PCredit (x : PCredit) : List Value := [.int .i64 x.A.Host, .int .i64 x.A.Port, .int .i64 x.Got, .int .i64 x.Sent]
theorem enc_PCredit_len : ∀ a, (enc_PCredit a).length = 4 := fun _ => rfl
theorem enc_PCredit_one : ∀ a, ∀ u ∈ enc_PCredit a, u.oneCell' = true := fun _ => (one_cons rfl (one_cons rfl (one_cons rfl (one_cons rfl one_nil))))
def z_PCredit : PCredit := { A := { Host := 0, Port := 0 : PAddr }, Got := 0, Sent := 0 : PCredit }
def LT_131 : LTy (PCand) := { E := 131, Eb := 5, sz := 4, enc := fun e => [vi e.1.A.Host, vi e.1.A.Port, vs (adr2 e.2 0).1 e.1.Draw.length (adr2 e.2 0).2, vi e.1.Until], bs := fun x => [x.Draw], len := fun _ => rfl, one := fun _ => one_all rfl, pos := by decide, ne := by decide }
def z_PCand : PCand := { A := { Host := 0, Port := 0 : PAddr }, Draw := [], Until := 0 : PCand }
def LT_109 : LTy (PCand) := { E := 109, Eb := 5, sz := 4, enc := fun e => [vi e.1.A.Host, vi e.1.A.Port, vs (adr2 e.2 0).1 e.1.Draw.length (adr2 e.2 0).2, vi e.1.Until], bs := fun x => [x.Draw], len := fun _ => rfl, one := fun _ => one_all rfl, pos := by decide, ne := by decide }
def creditAt (x_l : List PCredit) (x_a : PAddr) : Int := findF (fun c : PCredit => decide (c.A.Host = x_a.Host) && decide (c.A.Port = x_a.Port)) x_l
theorem creditAt_range (x_l : List PCredit) (x_a : PAddr) : -1 ≤ creditAt x_l x_a ∧ creditAt x_l x_a < (x_l.length : Int) := findF_range x_l

def candAt (x_p : PPaths) (x_a : PAddr) : Int := findF (fun c : PCand => decide (c.A.Host = x_a.Host) && decide (c.A.Port = x_a.Port)) x_p.Cands
theorem candAt_range (x_p : PPaths) (x_a : PAddr) : -1 ≤ candAt x_p x_a ∧ candAt x_p x_a < (x_p.Cands.length : Int) := findF_range x_p.Cands
theorem slTy_22 : SlTy Try.prog 22 5 1 1 (v8 0) := slTy Try.underlying22 (by kernel_rfl) rfl rfl
def Q_22 (w : World) (v : Value) (x : (List UInt8)) : Prop := ∃ (a1 : Option Addr) (c1 : Nat), v = .slice a1 x.length c1 ∧ Rd w 1 (.slice a1 x.length c1) x.length (x.map bV) ∧ x.length ≤ 9223372036854775807
def O_3 (w : World) (lo : Nat) (v : Value) (x : (Int)) : Prop := v = .int .i64 x
def F_laws_szByteS (x_a : List UInt8) (x_left : Int) : (Int) := bif (decide ((x_left - (x_a.length : Int)) < 0)) then ((-1)) else ((x_left - (x_a.length : Int)))
theorem C_laws_szByteS (w0 : World) (v_x_a : Value) (x_a : List UInt8) (r_x_a : Q_22 w0 v_x_a x_a) (x_left : Int) (pre0 : 0 ≤ x_left) (pre1 : x_left ≤ 1048576) : Fn Try.prog 74 #[v_x_a, (vi x_left)] w0 (fun v w' => Keep w0 w' ∧ O_3 w' w0.heap.size v (F_laws_szByteS x_a x_left)) := by
 obtain ⟨a1, c2, rfl, r3, s4⟩ := r_x_a
 refine fn_of (n := 12) (l := [(vs a1 x_a.length c2), (vi x_left), U, U, U, U, U, U, U, U, U, U]) Try.func74 rfl rfl (by kernel_rfl) rfl ?_
 refine sr ?_
 refine ag (vi 0) wN ?_
 refine nx ?_
 refine mv (vi x_left) wN ?_
 refine mv (vs a1 x_a.length c2) wN ?_
 refine ln wN slTy_22 r3 ?_
 refine ar (x_left - (x_a.length : Int)) wN ?_
 refine ag (vi (x_left - (x_a.length : Int))) wN ?_
 refine wl_nil <| wq_then <| wc_seq <| sr ?_
 refine mv (vi (x_left - (x_a.length : Int))) wN ?_
 refine pu (vb (decide ((x_left - (x_a.length : Int)) < 0))) wN ?_
 refine wl_nil <| wq_then ?_
 rcases bt (decide ((x_left - (x_a.length : Int)) < 0)) with h6 | h6
 ·have q7 := of_decide_eq_true h6
  refine ct h6 ?_
  refine sr ?_
  refine ag (vi (-1)) wN ?_
  refine wl_nil <| wq_then <| wc_ret <| wq_then_ret ?_
  refine ret_1 (.inl rfl) (vi (-1)) rfl rfl ?_
  refine ⟨Ch.refl _ _, ?_⟩
  have hF8 : F_laws_szByteS x_a x_left = (-1) := by simp only [F_laws_szByteS, h6, cond_true, cond_false]
  rw [hF8]
  exact rfl
 have q9 := of_decide_eq_false h6
 refine cf h6 ?_
 refine wc_skip <| wq_then <| sr ?_
 refine mv (vi (x_left - (x_a.length : Int))) wN ?_
 refine ag (vi (x_left - (x_a.length : Int))) wN ?_
 refine wl_nil <| wq_then <| wc_ret ?_
 refine ret_1 (.inl rfl) (vi (x_left - (x_a.length : Int))) rfl rfl ?_
 refine ⟨Ch.refl _ _, ?_⟩
 have hF10 : F_laws_szByteS x_a x_left = (x_left - (x_a.length : Int)) := by simp only [F_laws_szByteS, h6, cond_true, cond_false]
 rw [hF10]
 exact rfl
theorem laws_szByteS_le (x : List UInt8) (l : Int) : F_laws_szByteS x l = -1 ∨ (F_laws_szByteS x l = l - ((x.length : Int)) ∧ (0 ≤ F_laws_szByteS x l ∨ l < 0 ∨ False)) := by

  simp only [F_laws_szByteS, cond_eq_ite, decide_eq_true_eq]
  (repeat' split) <;> omega

abbrev L_109 (x : PCand) (a1 : Option Addr) (c1 : Nat) : List Value := [vi x.A.Host, vi x.A.Port, vs a1 x.Draw.length c1, vi x.Until]
theorem isAgg_22 : ∀ w, (isAgg 22).run Try.prog w = .ok false w := fun w => by kernel_rfl
def Q_131 (w : World) (v : Value) (x : (PCand)) : Prop := ∃ (a1 : Option Addr) (c1 : Nat), v = .agg #[.int .i64 x.A.Host, .int .i64 x.A.Port, .slice a1 x.Draw.length c1, .int .i64 x.Until] ∧ Rd w 1 (.slice a1 x.Draw.length c1) x.Draw.length (x.Draw.map bV) ∧ x.Draw.length ≤ 9223372036854775807
theorem mQ_22 {w : World} {x : List UInt8} {a1 : Option Addr} {c1 : Nat} (h1 : Rd w 1 (.slice a1 x.length c1) x.length (x.map bV)) (l1 : x.length ≤ 9223372036854775807) : Q_22 w (vs a1 x.length c1) x := ⟨_, _, rfl, h1, l1⟩
def F_laws_szCand (x_a : PCand) (x_left : Int) : (Int) := bif (decide ((F_laws_szByteS x_a.Draw x_left) < 0)) then ((-1)) else ((F_laws_szByteS x_a.Draw x_left))
theorem C_laws_szCand (w0 : World) (v_x_a : Value) (x_a : PCand) (r_x_a : Q_131 w0 v_x_a x_a) (x_left : Int) (pre0 : 0 ≤ x_left) (pre1 : x_left ≤ 1048576) : Fn Try.prog 116 #[v_x_a, (vi x_left)] w0 (fun v w' => Keep w0 w' ∧ O_3 w' w0.heap.size v (F_laws_szCand x_a x_left)) := by
 obtain ⟨a1, c2, rfl, r3, s4⟩ := r_x_a
 refine fn_of (n := 12) (l := [(va (L_109 x_a a1 c2)), (vi x_left), U, U, U, U, U, U, U, U, U, U]) Try.func116 rfl rfl (by kernel_rfl) rfl ?_
 refine sr ?_
 refine bx (L_109 x_a a1 c2) wN ?_
 intro g6 w1 p7 p8 k9 b10
 have m11 := (Ch.base w0).extk k9
 refine ag (vi 0) wN ?_
 refine nx ?_
 refine pu (vp g6 2) wN ?_
 refine ld (vs a1 x_a.Draw.length c2) wN isAgg_22 b10 ?_
 refine mv (vi x_left) wN ?_
 refine cl wN (C_laws_szByteS w1 _ x_a.Draw (mQ_22 (r3.from0 m11) s4) x_left (by omega) (by omega)) ?_
 rintro _ w2 ⟨k12, rfl⟩
 have m13 := m11.extk k12
 have q14 := laws_szByteS_le x_a.Draw x_left
 refine ag (vi (F_laws_szByteS x_a.Draw x_left)) wN ?_
 refine wl_nil <| wq_then <| wc_seq <| sr ?_
 refine mv (vi (F_laws_szByteS x_a.Draw x_left)) wN ?_
 refine pu (vb (decide ((F_laws_szByteS x_a.Draw x_left) < 0))) wN ?_
 refine wl_nil <| wq_then ?_
 rcases bt (decide ((F_laws_szByteS x_a.Draw x_left) < 0)) with h15 | h15
 ·have q16 := of_decide_eq_true h15
  refine ct h15 ?_
  refine sr ?_
  refine ag (vi (-1)) wN ?_
  refine wl_nil <| wq_then <| wc_ret <| wq_then_ret ?_
  refine ret_1 (.inl rfl) (vi (-1)) rfl rfl ?_
  refine ⟨m13.keep0, ?_⟩
  have hF17 : F_laws_szCand x_a x_left = (-1) := by simp only [F_laws_szCand, h15, cond_true, cond_false]
  rw [hF17]
  exact rfl
 have q18 := of_decide_eq_false h15
 refine cf h15 ?_
 refine wc_skip <| wq_then <| sr ?_
 refine mv (vi (F_laws_szByteS x_a.Draw x_left)) wN ?_
 refine ag (vi (F_laws_szByteS x_a.Draw x_left)) wN ?_
 refine wl_nil <| wq_then <| wc_ret ?_
 refine ret_1 (.inl rfl) (vi (F_laws_szByteS x_a.Draw x_left)) rfl rfl ?_
 refine ⟨m13.keep0, ?_⟩
 have hF19 : F_laws_szCand x_a x_left = (F_laws_szByteS x_a.Draw x_left) := by simp only [F_laws_szCand, h15, cond_true, cond_false]
 rw [hF19]
 exact rfl
theorem laws_szCand_le (x : PCand) (l : Int) : F_laws_szCand x l = -1 ∨ (F_laws_szCand x l = l - ((x.Draw.length : Int)) ∧ (0 ≤ F_laws_szCand x l ∨ l < 0 ∨ False)) := by
  have h0 := laws_szByteS_le x.Draw l
  simp only [F_laws_szCand, cond_eq_ite, decide_eq_true_eq]
  (repeat' split) <;> omega

theorem slTy_68 : SlTy Try.prog 68 131 4 48 (va [(vi 0), (vi 0), (vs none 0 0), (vi 0)]) := slTy Try.underlying68 (by kernel_rfl) rfl rfl
theorem isAgg_131 : ∀ w, (isAgg 131).run Try.prog w = .ok true w := fun w => by kernel_rfl
theorem sizeOf_131 : ∀ w, (sizeOf 131).run Try.prog w = .ok 4 w := fun w => by kernel_rfl
abbrev L_131 (x : PCand) (a1 : Option Addr) (c1 : Nat) : List Value := [vi x.A.Host, vi x.A.Port, vs a1 x.Draw.length c1, vi x.Until]
def Q_68 (w : World) (v : Value) (x : (List PCand)) : Prop := ∃ (a1 : Option Addr) (c1 : Nat), v = .slice a1 x.length c1 ∧ RLv LT_131 w 9223372036854775807 a1 x.length c1 x ∧ x.length ≤ 9223372036854775807
theorem mQ_131 {w : World} {x : PCand} {a1 : Option Addr} {c1 : Nat} (h1 : Rd w 1 (.slice a1 x.Draw.length c1) x.Draw.length (x.Draw.map bV)) (l1 : x.Draw.length ≤ 9223372036854775807) : Q_131 w (va (L_131 x a1 c1)) x := ⟨_, _, rfl, h1, l1⟩
def szT_PCand (x : List PCand) (l : Int) : Int := bif decide (l - (x.length : Int) < 0) then -1 else heldL F_laws_szCand x (l - (x.length : Int))
theorem C_laws_szCandS (w0 : World) (v_x_a : Value) (x_a : List PCand) (r_x_a : Q_68 w0 v_x_a x_a) (x_left : Int) (pre0 : 0 ≤ x_left) (pre1 : x_left ≤ 1048576) : Fn Try.prog 91 #[v_x_a, (vi x_left)] w0 (fun v w' => Keep w0 w' ∧ O_3 w' w0.heap.size v (szT_PCand x_a x_left)) := by
 obtain ⟨a1, c2, rfl, r3, s4⟩ := r_x_a
 refine fn_of (n := 27) (l := [(vs a1 x_a.length c2), (vi x_left), U, U, U, U, U, U, U, U, U, U, U, U, U, U, U, U, U, U, U, U, U, U, U, U, U]) Try.func91 rfl rfl (by kernel_rfl) rfl ?_
 refine sr ?_
 refine ag (vi 0) wN ?_
 refine nx ?_
 refine mv (vi x_left) wN ?_
 refine mv (vs a1 x_a.length c2) wN ?_
 obtain ⟨y6, r7⟩ := RLv.row r3
 refine ln wN slTy_68 r7 ?_
 refine ar (x_left - (x_a.length : Int)) wN ?_
 refine ag (vi (x_left - (x_a.length : Int))) wN ?_
 refine wl_nil <| wq_then <| wc_seq <| sr ?_
 refine mv (vi (x_left - (x_a.length : Int))) wN ?_
 refine pu (vb (decide ((x_left - (x_a.length : Int)) < 0))) wN ?_
 refine wl_nil <| wq_then ?_
 rcases bt (decide ((x_left - (x_a.length : Int)) < 0)) with h8 | h8
 ·have q9 := of_decide_eq_true h8
  refine ct h8 ?_
  refine sr ?_
  refine ag (vi (-1)) wN ?_
  refine wl_nil <| wq_then <| wc_ret <| wq_then_ret ?_
  refine ret_1 (.inl rfl) (vi (-1)) rfl rfl ?_
  refine ⟨Ch.refl _ _, ?_⟩
  have hF10 : szT_PCand x_a x_left = (-1) := by first | (simp only [szT_PCand, h8]; simp; done) | (have hz := heldL_ne (h := F_laws_szCand) (z := z_PCand) (by assumption) (by omega) (of_decide_eq_true (by assumption)); simp only [szT_PCand, h8, hz]; simp; done) | (have hz := heldL_end (h := F_laws_szCand) (by assumption) (by omega); simp only [szT_PCand, h8, hz]; simp; done)
  rw [hF10]
  exact rfl
 have q11 := of_decide_eq_false h8
 refine cf h8 ?_
 refine wc_skip <| wq_then <| wc_seq <| sr ?_
 refine ag (vi 0) wN ?_
 refine wl_nil <| wq_then <| wc_block ?_
 refine wc_norm [(vs a1 x_a.length c2), (vi (x_left - (x_a.length : Int))), U, U, (vi 0), (vi 0), (vi x_left), (vs a1 x_a.length c2), (vi (x_a.length : Int)), (vi (x_left - (x_a.length : Int))), (vi (x_left - (x_a.length : Int))), (vb (decide ((x_left - (x_a.length : Int)) < 0))), U, U, U, U, U, U, U, U, U, U, U, U, U, U, U] rfl ⟨rfl, rfl, rfl, rfl, rfl, rfl, rfl, rfl, rfl, rfl, rfl, rfl, rfl, rfl, rfl, rfl, rfl, rfl, rfl, rfl, rfl, rfl, rfl, rfl, rfl, rfl, rfl, trivial⟩ ?_
 refine wc_loop (fun e' w' => ∃ (i : Nat) (q : Int) (u4x u12x u13x u14x u15x u16x u17x u18x u19x u20x u21x u22x u23x u24x u25x : Value), e' = lst [(vs a1 x_a.length c2), (vi q), U, U, u4x, (vi ((i : Nat) : Int)), (vi x_left), (vs a1 x_a.length c2), (vi (x_a.length : Int)), (vi (x_left - (x_a.length : Int))), (vi (x_left - (x_a.length : Int))), (vb (decide ((x_left - (x_a.length : Int)) < 0))), u12x, u13x, u14x, u15x, u16x, u17x, u18x, u19x, u20x, u21x, u22x, u23x, u24x, u25x, U] ∧ Ch (fun k => w0.heap.size ≤ k) w0 w' ∧ Ch (fun k => w0.heap.size ≤ k) w0 w' ∧ i ≤ x_a.length ∧ heldL F_laws_szCand x_a (x_left - (x_a.length : Int)) = heldL F_laws_szCand (x_a.drop i) q ∧ 0 ≤ q ∧ q ≤ 1048576) (fun e' _ => x_a.length - ((intOf (e' 5))).toNat) ?_ ?_
 ·exact ⟨0, (x_left - (x_a.length : Int)), (vi 0), U, U, U, U, U, U, U, U, U, U, U, U, U, U, (congrArg (fun (x5z : Value) => lst [(vs a1 x_a.length c2), (vi (x_left - (x_a.length : Int))), U, U, (vi 0), x5z, (vi x_left), (vs a1 x_a.length c2), (vi (x_a.length : Int)), (vi (x_left - (x_a.length : Int))), (vi (x_left - (x_a.length : Int))), (vb (decide ((x_left - (x_a.length : Int)) < 0))), U, U, U, U, U, U, U, U, U, U, U, U, U, U, U]) (congrArg (Value.int .i64) (show (0 : Int) = ((0 : Nat) : Int) by omega))), (Ch.base w0), (Ch.refl (fun k => w0.heap.size ≤ k) w0), (by omega), (by first | (simp; done) | exact heldL_next (z := z_PCand) (by assumption) (by omega) rfl (by omega)), (by omega), (by omega)⟩
 ·rintro _ w1 ⟨i, q, u4x, u12x, u13x, u14x, u15x, u16x, u17x, u18x, u19x, u20x, u21x, u22x, u23x, u24x, u25x, rfl, m12, k13, i14, i15, i16, i17⟩
  refine wc_seq <| sr ?_
  refine mv (vi ((i : Nat) : Int)) wN ?_
  refine mv (vs a1 x_a.length c2) wN ?_
  obtain ⟨y18, r19⟩ := RLv.row (r3.from0 m12)
  refine ln wN slTy_68 r19 ?_
  refine pu (vb (decide (((i : Nat) : Int) < (x_a.length : Int)))) wN ?_
  refine wl_nil <| wq_then ?_
  rcases bf (decide (((i : Nat) : Int) < (x_a.length : Int))) with h20 | h20
  ·have q43 := of_decide_eq_false h20
   refine cf h20 ?_
   refine wc_exit <| wq_then_exit <| wq_then_exit <| wq_blk_exit <| wq_then <| sr ?_
   refine mv (vi q) wN ?_
   refine ag (vi q) wN ?_
   refine wl_nil <| wq_then <| wc_ret ?_
   refine ret_1 (.inl rfl) (vi q) rfl rfl ?_
   refine ⟨m12.keep0, ?_⟩
   have hF44 : szT_PCand x_a x_left = q := by first | (simp only [szT_PCand, h8, h20]; simp; done) | (have hz := heldL_ne (h := F_laws_szCand) (z := z_PCand) (by assumption) (by omega) (of_decide_eq_true (by assumption)); simp only [szT_PCand, h8, h20, hz]; simp; done) | (have hz := heldL_end (h := F_laws_szCand) (by assumption) (by omega); simp only [szT_PCand, h8, h20, hz]; simp; done)
   rw [hF44]
   exact rfl
  have q21 := of_decide_eq_true h20
  refine ct h20 ?_
  refine wc_skip <| wq_then <| wc_seq <| wc_block <| sr ?_
  refine mv (vs a1 x_a.length c2) wN ?_
  refine mv (vi ((i : Nat) : Int)) wN ?_
  obtain ⟨y22, r23⟩ := RLv.row (r3.from0 m12)
  refine wl_index wN ((i : Nat) : Int) rfl rfl rfl slTy_68 rfl rfl r23 (by first | omega | (simp only [List.length_cons, List.length_nil, List.length_replicate, List.length_append, List.length_take, List.length_set, List.length_map]; omega)) (by first | omega | (simp only [List.length_cons, List.length_nil, List.length_replicate, List.length_append, List.length_take, List.length_set, List.length_map]; omega)) ?_
  obtain ⟨y24, l25, r26, e27, u28⟩ := RLv.el z_PCand (i := i) r3 (by first | omega | (simp only [List.length_cons, List.length_nil, List.length_replicate, List.length_append, List.length_take, List.length_set, List.length_map]; omega))
  obtain ⟨a29, c30, l34, rfl, r31, s32, u35⟩ := SubR.c u28
  obtain rfl := SubR.n u35
  refine wl_loadEN [(vi (((x_a.getD i z_PCand).A).Host)), (vi (((x_a.getD i z_PCand).A).Port)), (vs a29 (x_a.getD i z_PCand).Draw.length c30), (vi ((x_a.getD i z_PCand).Until))] wN rfl rfl rfl rfl isAgg_131 sizeOf_131 (r26.from0 m12) (by first | omega | (simp only [List.length_cons, List.length_nil, List.length_replicate, List.length_append, List.length_take, List.length_set, List.length_map]; omega)) ((part_of (off := 0) (n := 4) e27 (by first | rfl | simp | omega) (by decide)).trans rfl) ?_
  refine mv (vi q) wN ?_
  refine cl wN (C_laws_szCand w1 _ (x_a.getD i z_PCand) (mQ_131 (r31.from0 m12) s32) q (by omega) (by omega)) ?_
  rintro _ w2 ⟨k36, rfl⟩
  have m37 := m12.extk k36
  have q38 := laws_szCand_le (x_a.getD i z_PCand) q
  refine ag (vi (F_laws_szCand (x_a.getD i z_PCand) q)) wN ?_
  refine nx ?_
  refine mv (vi (F_laws_szCand (x_a.getD i z_PCand) q)) wN ?_
  refine pu (vb (decide ((F_laws_szCand (x_a.getD i z_PCand) q) < 0))) wN ?_
  refine wl_nil <| wq_then ?_
  rcases bt (decide ((F_laws_szCand (x_a.getD i z_PCand) q) < 0)) with h39 | h39
  ·have q40 := of_decide_eq_true h39
   refine ct h39 ?_
   refine sr ?_
   refine ag (vi (-1)) wN ?_
   refine wl_nil <| wq_then <| wc_ret <| wq_blk_ret <| wq_then_ret <| wq_then_ret <| wq_blk_ret <| wq_then_ret ?_
   refine ret_1 (.inl rfl) (vi (-1)) rfl rfl ?_
   refine ⟨m37.keep0, ?_⟩
   have hF41 : szT_PCand x_a x_left = (-1) := by first | (simp only [szT_PCand, h8, h20, h39]; simp; done) | (have hz := heldL_ne (h := F_laws_szCand) (z := z_PCand) (by assumption) (by omega) (of_decide_eq_true (by assumption)); simp only [szT_PCand, h8, h20, h39, hz]; simp; done) | (have hz := heldL_end (h := F_laws_szCand) (by assumption) (by omega); simp only [szT_PCand, h8, h20, h39, hz]; simp; done)
   rw [hF41]
   exact rfl
  have q42 := of_decide_eq_false h39
  refine cf h39 ?_
  refine wc_skip <| wq_blk_normal <| wq_then <| wc_region ?_
  refine mv (vi ((i : Nat) : Int)) wN ?_
  refine ar (((i : Nat) : Int) + 1) wN ?_
  refine ag (vi (((i : Nat) : Int) + 1)) wN ?_
  refine wl_nil ?_
  refine wq_loopN (w0 := w1) [(vs a1 x_a.length c2), (vi (F_laws_szCand (x_a.getD i z_PCand) q)), U, U, u4x, (vi (((i + 1) : Nat) : Int)), (vi x_left), (vs a1 x_a.length c2), (vi (x_a.length : Int)), (vi (x_left - (x_a.length : Int))), (vi (x_left - (x_a.length : Int))), (vb (decide ((x_left - (x_a.length : Int)) < 0))), (vi ((i : Nat) : Int)), (vs a1 x_a.length c2), (vi (x_a.length : Int)), (vb (decide (((i : Nat) : Int) < (x_a.length : Int)))), (vi ((i : Nat) : Int)), (vi (((i : Nat) : Int) + 1)), (vs a1 x_a.length c2), (vi ((i : Nat) : Int)), (ve (vs a1 x_a.length c2) ((((i : Nat) : Int)).toNat * 4)), (va [(vi (((x_a.getD i z_PCand).A).Host)), (vi (((x_a.getD i z_PCand).A).Port)), (vs a29 (x_a.getD i z_PCand).Draw.length c30), (vi ((x_a.getD i z_PCand).Until))]), (vi q), (vi (F_laws_szCand (x_a.getD i z_PCand) q)), (vi (F_laws_szCand (x_a.getD i z_PCand) q)), (vb (decide ((F_laws_szCand (x_a.getD i z_PCand) q) < 0))), U] rfl ?_ ?_ ?_
  · exact ⟨rfl, rfl, rfl, rfl, rfl, (congrArg (Value.int .i64) (show ((((i : Nat) : Int) + 1) : Int) = (((i + 1) : Nat) : Int) by omega)), rfl, rfl, rfl, rfl, rfl, rfl, rfl, rfl, rfl, rfl, rfl, rfl, rfl, rfl, rfl, rfl, rfl, rfl, rfl, rfl, rfl, trivial⟩
  · exact ⟨(i + 1), (F_laws_szCand (x_a.getD i z_PCand) q), u4x, (vi ((i : Nat) : Int)), (vs a1 x_a.length c2), (vi (x_a.length : Int)), (vb (decide (((i : Nat) : Int) < (x_a.length : Int)))), (vi ((i : Nat) : Int)), (vi (((i : Nat) : Int) + 1)), (vs a1 x_a.length c2), (vi ((i : Nat) : Int)), (ve (vs a1 x_a.length c2) ((((i : Nat) : Int)).toNat * 4)), (va [(vi (((x_a.getD i z_PCand).A).Host)), (vi (((x_a.getD i z_PCand).A).Port)), (vs a29 (x_a.getD i z_PCand).Draw.length c30), (vi ((x_a.getD i z_PCand).Until))]), (vi q), (vi (F_laws_szCand (x_a.getD i z_PCand) q)), (vi (F_laws_szCand (x_a.getD i z_PCand) q)), (vb (decide ((F_laws_szCand (x_a.getD i z_PCand) q) < 0))), rfl, m37, (((Ch.refl (fun k => w0.heap.size ≤ k) w0).ext k13 (fun k hk => Nat.le_trans (Nat.le_refl _) hk)).extk k36), (by omega), (by first | (simp; done) | exact heldL_next (z := z_PCand) (by assumption) (by omega) rfl (by omega)), (by omega), (by omega)⟩
  · show x_a.length - ((((i + 1) : Nat) : Int)).toNat < x_a.length - (((i : Nat) : Int)).toNat; omega
theorem ok_szT_PCand {x : List PCand} (h : ¬ szT_PCand x 1048576 < 0) : x.length ≤ 1048576 ∧ ∀ e ∈ x, ∀ b ∈ LT_131.bs e, b.length ≤ 1048576 := by
  unfold szT_PCand at h
  cases h1 : decide ((1048576 : Int) - (x.length : Int) < 0) with
  | true => rw [h1] at h; exact absurd (by decide : (-1 : Int) < 0) h
  | false =>
    rw [h1] at h
    have h2 := of_decide_eq_false h1
    refine ⟨by omega, fun e he b hb => ?_⟩
    obtain ⟨l, hl, hp⟩ := held_pos (g := F_laws_szCand) (fun a l => by simp only [F_laws_szCand, F_laws_szByteS, cond_eq_ite, decide_eq_true_eq]; (repeat' split) <;> omega) x (1048576 - (x.length : Int)) (by have h3 : ¬ heldL F_laws_szCand x (1048576 - (x.length : Int)) < 0 := h; omega) e he
    simp only [F_laws_szCand, F_laws_szByteS, cond_eq_ite, decide_eq_true_eq] at hp
    simp only [LT_131, List.mem_cons, List.not_mem_nil, or_false] at hb
    (repeat' split at hp) <;> first | omega | (rcases hb with rfl | hb <;> first | omega | (rcases hb with rfl | hb <;> first | omega | (rcases hb with rfl | hb <;> first | omega | (subst hb; omega))) | (subst hb; omega)) | (subst hb; omega)

abbrev L_75 (x : PPaths) (a1 : Option Addr) (c1 : Nat) : List Value := [vi x.At.Host, vi x.At.Port, vs a1 x.Cands.length c1]
theorem isAgg_68 : ∀ w, (isAgg 68).run Try.prog w = .ok false w := fun w => by kernel_rfl
def Q_70 (w : World) (v : Value) (x : (PPaths)) : Prop := ∃ (a1 : Option Addr) (c1 : Nat), v = .agg #[.int .i64 x.At.Host, .int .i64 x.At.Port, .slice a1 x.Cands.length c1] ∧ RLv LT_131 w 9223372036854775807 a1 x.Cands.length c1 x.Cands ∧ x.Cands.length ≤ 9223372036854775807
theorem mQ_68 {w : World} {x : List PCand} {a1 : Option Addr} {c1 : Nat} (h1 : RLv LT_131 w 9223372036854775807 a1 x.length c1 x) (l1 : x.length ≤ 9223372036854775807) : Q_68 w (vs a1 x.length c1) x := ⟨_, _, rfl, h1, l1⟩
def F_laws_szPaths (x_a : PPaths) (x_left : Int) : (Int) := bif (decide ((szT_PCand x_a.Cands x_left) < 0)) then ((-1)) else ((szT_PCand x_a.Cands x_left))
theorem C_laws_szPaths (w0 : World) (v_x_a : Value) (x_a : PPaths) (r_x_a : Q_70 w0 v_x_a x_a) (x_left : Int) (pre0 : 0 ≤ x_left) (pre1 : x_left ≤ 1048576) : Fn Try.prog 46 #[v_x_a, (vi x_left)] w0 (fun v w' => Keep w0 w' ∧ O_3 w' w0.heap.size v (F_laws_szPaths x_a x_left)) := by
 obtain ⟨a1, c2, rfl, r3, s4⟩ := r_x_a
 refine fn_of (n := 12) (l := [(va (L_75 x_a a1 c2)), (vi x_left), U, U, U, U, U, U, U, U, U, U]) Try.func46 rfl rfl (by kernel_rfl) rfl ?_
 refine sr ?_
 refine bx (L_75 x_a a1 c2) wN ?_
 intro g6 w1 p7 p8 k9 b10
 have m11 := (Ch.base w0).extk k9
 refine ag (vi 0) wN ?_
 refine nx ?_
 refine pu (vp g6 2) wN ?_
 refine ld (vs a1 x_a.Cands.length c2) wN isAgg_68 b10 ?_
 refine mv (vi x_left) wN ?_
 refine cl wN (C_laws_szCandS w1 _ x_a.Cands (mQ_68 (r3.from0 m11) s4) x_left (by omega) (by omega)) ?_
 rintro _ w2 ⟨k12, rfl⟩
 have m13 := m11.extk k12
 refine ag (vi (szT_PCand x_a.Cands x_left)) wN ?_
 refine wl_nil <| wq_then <| wc_seq <| sr ?_
 refine mv (vi (szT_PCand x_a.Cands x_left)) wN ?_
 refine pu (vb (decide ((szT_PCand x_a.Cands x_left) < 0))) wN ?_
 refine wl_nil <| wq_then ?_
 rcases bt (decide ((szT_PCand x_a.Cands x_left) < 0)) with h14 | h14
 ·have q15 := of_decide_eq_true h14
  refine ct h14 ?_
  refine sr ?_
  refine ag (vi (-1)) wN ?_
  refine wl_nil <| wq_then <| wc_ret <| wq_then_ret ?_
  refine ret_1 (.inl rfl) (vi (-1)) rfl rfl ?_
  refine ⟨m13.keep0, ?_⟩
  have hF16 : F_laws_szPaths x_a x_left = (-1) := by simp only [F_laws_szPaths, h14, cond_true, cond_false]
  rw [hF16]
  exact rfl
 have q17 := of_decide_eq_false h14
 refine cf h14 ?_
 refine wc_skip <| wq_then <| sr ?_
 refine mv (vi (szT_PCand x_a.Cands x_left)) wN ?_
 refine ag (vi (szT_PCand x_a.Cands x_left)) wN ?_
 refine wl_nil <| wq_then <| wc_ret ?_
 refine ret_1 (.inl rfl) (vi (szT_PCand x_a.Cands x_left)) rfl rfl ?_
 refine ⟨m13.keep0, ?_⟩
 have hF18 : F_laws_szPaths x_a x_left = (szT_PCand x_a.Cands x_left) := by simp only [F_laws_szPaths, h14, cond_true, cond_false]
 rw [hF18]
 exact rfl
theorem ok_F_laws_szPaths {x : PPaths} (h : ¬ F_laws_szPaths x 1048576 < 0) : x.Cands.length ≤ 1048576 ∧ ∀ e ∈ x.Cands, ∀ b ∈ LT_131.bs e, b.length ≤ 1048576 := ok_szT_PCand (fun h0 => h (by simp only [F_laws_szPaths, h0, decide_true, cond_true]; decide))

abbrev L_61 (x : PAddr)  : List Value := [vi x.Host, vi x.Port]
theorem zero_61 : ∀ w, (zeroValue 61).run Try.prog w = .ok (va [(vi 0), (vi 0)]) w := fun w => by kernel_rfl
theorem isAgg_3 : ∀ w, (isAgg 3).run Try.prog w = .ok false w := fun w => by kernel_rfl
theorem sizeOf_3 : ∀ w, (sizeOf 3).run Try.prog w = .ok 1 w := fun w => by kernel_rfl
theorem isAgg_61 : ∀ w, (isAgg 61).run Try.prog w = .ok true w := fun w => by kernel_rfl
theorem sizeOf_61 : ∀ w, (sizeOf 61).run Try.prog w = .ok 2 w := fun w => by kernel_rfl
def R_56 (w : World) (v : Value) (x : (PAddr)) : Prop := v = .agg #[.int .i64 x.Host, .int .i64 x.Port]
def O_61 (w : World) (lo : Nat) (v : Value) (x : (PAddr)) : Prop := v = .agg #[.int .i64 x.Host, .int .i64 x.Port]
def F_laws_toAddr (x_a : PAddr) : (PAddr) := x_a
theorem C_laws_toAddr (w0 : World) (v_x_a : Value) (x_a : PAddr) (r_x_a : R_56 w0 v_x_a x_a)  : Fn Try.prog 54 #[v_x_a] w0 (fun v w' => Keep w0 w' ∧ O_61 w' w0.heap.size v (F_laws_toAddr x_a)) := by
 obtain rfl := r_x_a
 refine fn_of (n := 11) (l := [(va (L_61 x_a)), U, U, U, U, U, U, U, U, U, U]) Try.func54 rfl rfl (by kernel_rfl) rfl ?_
 refine sr ?_
 refine bx (L_61 x_a) wN ?_
 intro g1 w1 p2 p3 k4 b5
 have m6 := (Ch.base w0).extk k4
 refine al [(vi 0), (vi 0)] wN zero_61 ?_
 intro g7 w2 p8 p9 k10 b11
 have m12 := m6.extk k10
 refine nx ?_
 refine al [(vi 0), (vi 0)] wN zero_61 ?_
 intro g13 w3 p14 p15 k16 b17
 have m18 := m12.extk k16
 refine nx ?_
 refine pu (vp g1 0) wN ?_
 have b19 := ((b5.kp k10).kp k16)
 refine ld (vi x_a.Host) wN isAgg_3 b19 ?_
 refine pu (vp g13 0) wN ?_
 refine st (vi x_a.Host) [(vi x_a.Host)] [(vi x_a.Host), (vi 0)] wN sizeOf_3 b17 ?_
 intro w4 k20 b21 z22
 have m23 := m18.ext k20 (fun k hk => by subst hk; exact Nat.le_trans (Nat.le_trans k4.size k10.size) p14)
 refine nx ?_
 refine pu (vp g1 1) wN ?_
 have b24 := (b19.ch k20 (Nat.ne_of_lt (Nat.lt_of_lt_of_le p3 (Nat.le_trans k10.size p14))))
 refine ld (vi x_a.Port) wN isAgg_3 b24 ?_
 refine pu (vp g13 1) wN ?_
 refine st (vi x_a.Port) [(vi x_a.Port)] (L_61 x_a) wN sizeOf_3 b21 ?_
 intro w5 k25 b26 z27
 have m28 := m23.ext k25 (fun k hk => by subst hk; exact Nat.le_trans (Nat.le_trans k4.size k10.size) p14)
 refine nx ?_
 refine lN (L_61 x_a) wN isAgg_61 sizeOf_61 b26 ?_
 have b29 := (((b11.kp k16).ch k20 (Nat.ne_of_lt (Nat.lt_of_lt_of_le p9 (Nat.le_trans (Nat.le_refl _) p14)))).ch k25 (Nat.ne_of_lt (Nat.lt_of_lt_of_le p9 (Nat.le_trans (Nat.le_refl _) p14))))
 refine st (va (L_61 x_a)) (L_61 x_a) (L_61 x_a) wN sizeOf_61 b29 ?_
 intro w6 k30 b31 z32
 have m33 := m28.ext k30 (fun k hk => by subst hk; exact Nat.le_trans k4.size p8)
 refine wl_nil <| wq_then <| wc_ret ?_
 refine ret_1 (.inl rfl) (va (L_61 x_a)) rfl (rv_c [(vi x_a.Host), (vi x_a.Port)] rfl b31 isAgg_61 sizeOf_61) ?_
 refine ⟨m33.keep0, ?_⟩
 have hF34 : F_laws_toAddr x_a = x_a := by rfl
 rw [hF34]
 exact rfl

theorem isAgg_5 : ∀ w, (isAgg 5).run Try.prog w = .ok false w := fun w => by kernel_rfl
theorem sizeOf_5 : ∀ w, (sizeOf 5).run Try.prog w = .ok 1 w := fun w => by kernel_rfl
def R_22 (w : World) (v : Value) (x : (List UInt8)) : Prop := ∃ (a1 : Option Addr) (c1 : Nat), v = .slice a1 x.length c1 ∧ Rd w 1 (.slice a1 x.length c1) x.length (x.map bV) ∧ x.length ≤ 1073741824
def O_22 (w : World) (lo : Nat) (v : Value) (x : (List UInt8)) : Prop := ∃ (a1 : Option Addr) (c1 : Nat), v = .slice a1 x.length c1 ∧ w.ownsRow lo 5 1 (.slice a1 x.length c1) x.length (x.map bV) ∧ x.length ≤ 1073741824 ∧ Aps [(a1, c1)]
theorem C_laws_toByteS (w0 : World) (v_x_a : Value) (x_a : List UInt8) (r_x_a : R_22 w0 v_x_a x_a)  : Fn Try.prog 16 #[v_x_a] w0 (fun v w' => Keep w0 w' ∧ O_22 w' w0.heap.size v (cpB x_a)) := by
 obtain ⟨a1, c2, rfl, r3, s4⟩ := r_x_a
 refine fn_of (n := 22) (l := [(vs a1 x_a.length c2), U, U, U, U, U, U, U, U, U, U, U, U, U, U, U, U, U, U, U, U, U]) Try.func16 rfl rfl (by kernel_rfl) rfl ?_
 refine sr ?_
 refine ag (vs none 0 0) wN ?_
 refine nx ?_
 refine mv (vs a1 x_a.length c2) wN ?_
 refine ln wN slTy_22 r3 ?_
 refine wl_makeB (x_a.length) wN rfl rfl rfl slTy_22 (x_a.length : Int) rfl (by omega) (by (try simp only [List.length_append, List.length_cons, List.length_nil]); omega) (by (try simp only [List.length_append, List.length_cons, List.length_nil]); omega) ?_
 intro a6 c7 w1 k8 o9
 have m10 := (Ch.base w0).extk k8
 refine ag (vs a6 (List.replicate x_a.length (0 : UInt8)).length c7) wN ?_
 refine wl_nil <| wq_then <| wc_seq <| sr ?_
 refine ag (vi 0) wN ?_
 refine wl_nil <| wq_then <| wc_block ?_
 refine wc_norm [(vs a1 x_a.length c2), U, (vs none 0 0), (vs a6 (List.replicate x_a.length (0 : UInt8)).length c7), (vi 0), (vs a1 x_a.length c2), (vi (x_a.length : Int)), (vs a6 (List.replicate x_a.length (0 : UInt8)).length c7), U, U, U, U, U, U, U, U, U, U, U, U, U, U] rfl ⟨rfl, rfl, rfl, rfl, rfl, rfl, rfl, rfl, rfl, rfl, rfl, rfl, rfl, rfl, rfl, rfl, rfl, rfl, rfl, rfl, rfl, rfl, trivial⟩ ?_
 refine wc_loop (fun e' w' => ∃ (k : Nat) (u8x u9x u10x u11x u12x u13x u14x u15x u16x u17x u18x u19x u20x : Value), e' = lst [(vs a1 x_a.length c2), U, (vs none 0 0), (vs a6 (List.replicate x_a.length (0 : UInt8)).length c7), (vi ((k : Nat) : Int)), (vs a1 x_a.length c2), (vi (x_a.length : Int)), (vs a6 (List.replicate x_a.length (0 : UInt8)).length c7), u8x, u9x, u10x, u11x, u12x, u13x, u14x, u15x, u16x, u17x, u18x, u19x, u20x, U] ∧ Ch (fun k => w0.heap.size ≤ k) w0 w' ∧ Ch (fun k => w0.heap.size ≤ k) w1 w' ∧ k ≤ x_a.length ∧ World.ownsRow w' w0.heap.size 5 1 (.slice a6 (List.replicate x_a.length (0 : UInt8)).length c7) (List.replicate x_a.length (0 : UInt8)).length ((x_a.take k ++ List.replicate (x_a.length - k) (0 : UInt8)).map bV)) (fun e' _ => x_a.length - ((intOf (e' 4))).toNat) ?_ ?_
 ·have hE12 : ((List.replicate x_a.length (0 : UInt8)) : List UInt8) = x_a.take 0 ++ List.replicate (x_a.length - 0) (0 : UInt8) := by first | exact cpB_next (by omega) | simp
  exact ⟨0, U, U, U, U, U, U, U, U, U, U, U, U, U, (congrArg (fun (x4z : Value) => lst [(vs a1 x_a.length c2), U, (vs none 0 0), (vs a6 (List.replicate x_a.length (0 : UInt8)).length c7), x4z, (vs a1 x_a.length c2), (vi (x_a.length : Int)), (vs a6 (List.replicate x_a.length (0 : UInt8)).length c7), U, U, U, U, U, U, U, U, U, U, U, U, U, U]) (congrArg (Value.int .i64) (show (0 : Int) = ((0 : Nat) : Int) by omega))), m10, (Ch.refl (fun k => w0.heap.size ≤ k) w1), (by omega), (by rw [← hE12]; exact o9)⟩
 ·rintro _ w2 ⟨k, u8x, u9x, u10x, u11x, u12x, u13x, u14x, u15x, u16x, u17x, u18x, u19x, u20x, rfl, m13, k14, i15, o16⟩
  refine wc_seq <| sr ?_
  refine mv (vi ((k : Nat) : Int)) wN ?_
  refine mv (vs a1 x_a.length c2) wN ?_
  refine ln wN slTy_22 (r3.from0 m13) ?_
  refine pu (vb (decide (((k : Nat) : Int) < (x_a.length : Int)))) wN ?_
  refine wl_nil <| wq_then ?_
  rcases bf (decide (((k : Nat) : Int) < (x_a.length : Int))) with h17 | h17
  ·have q23 := of_decide_eq_false h17
   refine cf h17 ?_
   refine wc_exit <| wq_then_exit <| wq_then_exit <| wq_blk_exit <| wq_then <| sr ?_
   refine mv (vs a6 (List.replicate x_a.length (0 : UInt8)).length c7) wN ?_
   refine ag (vs a6 (List.replicate x_a.length (0 : UInt8)).length c7) wN ?_
   refine wl_nil <| wq_then <| wc_ret ?_
   refine ret_1 (.inl rfl) (vs a6 (List.replicate x_a.length (0 : UInt8)).length c7) rfl rfl ?_
   refine ⟨m13.keep0, ?_⟩
   have hF24 : cpB x_a = (x_a.take k ++ List.replicate (x_a.length - k) (0 : UInt8)) := by exact cpB_end (by omega)
   rw [hF24]
   have hN25 : (List.replicate x_a.length (0 : UInt8)).length = ((x_a.take k ++ List.replicate (x_a.length - k) (0 : UInt8))).length := by first | (simp only [List.length_append, List.length_take, List.length_replicate, List.length_set, List.length_map]; done) | (simp only [List.length_append, List.length_take, List.length_replicate, List.length_set, List.length_map]; omega)
   rw [hN25] at o16 ⊢
   exact ⟨_, _, rfl, o16, (by rw [← hN25]; rw [List.length_replicate]; first | assumption | omega), ⟨trivial, trivial⟩⟩
  have q18 := of_decide_eq_true h17
  refine ct h17 ?_
  refine wc_skip <| wq_then <| wc_seq <| wc_block <| wc_region ?_
  refine mv (vs a6 (List.replicate x_a.length (0 : UInt8)).length c7) wN ?_
  refine mv (vi ((k : Nat) : Int)) wN ?_
  refine mv (vs a1 x_a.length c2) wN ?_
  refine mv (vi ((k : Nat) : Int)) wN ?_
  refine wl_index wN ((k : Nat) : Int) rfl rfl rfl slTy_22 rfl rfl (r3.from0 m13) (by first | omega | (simp only [List.length_cons, List.length_nil, List.length_replicate, List.length_append, List.length_take, List.length_set, List.length_map]; omega)) (by first | omega | (simp only [List.length_cons, List.length_nil, List.length_replicate, List.length_append, List.length_take, List.length_set, List.length_map]; omega)) ?_
  refine wl_loadE (bV (x_a.getD k 0)) wN rfl rfl rfl rfl isAgg_5 (r3.from0 m13) (bget (by simp) (by first | omega | (simp only [List.length_cons, List.length_nil, List.length_replicate, List.length_append, List.length_take, List.length_set, List.length_map]; omega))) ?_
  refine wl_index wN ((k : Nat) : Int) rfl rfl rfl slTy_22 rfl rfl (Rd.of_own o16) (by first | omega | (simp only [List.length_cons, List.length_nil, List.length_replicate, List.length_append, List.length_take, List.length_set, List.length_map]; omega)) (by first | omega | (simp only [List.length_cons, List.length_nil, List.length_replicate, List.length_append, List.length_take, List.length_set, List.length_map]; omega)) ?_
  refine wl_storeB (x_a.take k ++ List.replicate (x_a.length - k) (0 : UInt8)) (k) ((x_a.getD k 0)) wN rfl rfl rfl (by simp) rfl sizeOf_5 o16 (by first | omega | (simp only [List.length_append, List.length_replicate, List.length_take, List.length_set, List.length_map]; omega)) ?_
  intro w3 k19 o20
  have m21 := m13.ext k19 (fun k hk => Nat.le_trans (Nat.le_refl _) (own_lt o9 k hk).1)
  refine wl_nil <| wq_blk_normal <| wq_then <| wc_region ?_
  refine mv (vi ((k : Nat) : Int)) wN ?_
  refine ar (((k : Nat) : Int) + 1) wN ?_
  refine ag (vi (((k : Nat) : Int) + 1)) wN ?_
  refine wl_nil ?_
  have hE22 : (((x_a.take k ++ List.replicate (x_a.length - k) (0 : UInt8)).set k (x_a.getD k 0)) : List UInt8) = x_a.take (k + 1) ++ List.replicate (x_a.length - (k + 1)) (0 : UInt8) := by first | exact cpB_next (by omega) | simp
  refine wq_loopN (w0 := w2) [(vs a1 x_a.length c2), U, (vs none 0 0), (vs a6 (List.replicate x_a.length (0 : UInt8)).length c7), (vi (((k + 1) : Nat) : Int)), (vs a1 x_a.length c2), (vi (x_a.length : Int)), (vs a6 (List.replicate x_a.length (0 : UInt8)).length c7), (vi ((k : Nat) : Int)), (vs a1 x_a.length c2), (vi (x_a.length : Int)), (vb (decide (((k : Nat) : Int) < (x_a.length : Int)))), (vi ((k : Nat) : Int)), (vi (((k : Nat) : Int) + 1)), (vs a6 (List.replicate x_a.length (0 : UInt8)).length c7), (vi ((k : Nat) : Int)), (vs a1 x_a.length c2), (vi ((k : Nat) : Int)), (ve (vs a1 x_a.length c2) ((((k : Nat) : Int)).toNat * 1)), (v8 ((x_a.getD k 0).toNat : Int)), (ve (vs a6 (List.replicate x_a.length (0 : UInt8)).length c7) ((((k : Nat) : Int)).toNat * 1)), U] rfl ?_ ?_ ?_
  · exact ⟨rfl, rfl, rfl, rfl, (congrArg (Value.int .i64) (show ((((k : Nat) : Int) + 1) : Int) = (((k + 1) : Nat) : Int) by omega)), rfl, rfl, rfl, rfl, rfl, rfl, rfl, rfl, rfl, rfl, rfl, rfl, rfl, rfl, rfl, rfl, rfl, trivial⟩
  · exact ⟨(k + 1), (vi ((k : Nat) : Int)), (vs a1 x_a.length c2), (vi (x_a.length : Int)), (vb (decide (((k : Nat) : Int) < (x_a.length : Int)))), (vi ((k : Nat) : Int)), (vi (((k : Nat) : Int) + 1)), (vs a6 (List.replicate x_a.length (0 : UInt8)).length c7), (vi ((k : Nat) : Int)), (vs a1 x_a.length c2), (vi ((k : Nat) : Int)), (ve (vs a1 x_a.length c2) ((((k : Nat) : Int)).toNat * 1)), (v8 ((x_a.getD k 0).toNat : Int)), (ve (vs a6 (List.replicate x_a.length (0 : UInt8)).length c7) ((((k : Nat) : Int)).toNat * 1)), rfl, m21, (((Ch.refl (fun k => w0.heap.size ≤ k) w1).ext k14 (fun k hk => Nat.le_trans (Nat.le_refl _) hk)).ext k19 (fun k hk => Nat.le_trans (Nat.le_refl _) (own_lt o9 k hk).1)), (by omega), (by rw [← hE22]; exact o20)⟩
  · show x_a.length - ((((k + 1) : Nat) : Int)).toNat < x_a.length - (((k : Nat) : Int)).toNat; omega

theorem zero_109 : ∀ w, (zeroValue 109).run Try.prog w = .ok (va [(vi 0), (vi 0), (vs none 0 0), (vi 0)]) w := fun w => by kernel_rfl
theorem isAgg_56 : ∀ w, (isAgg 56).run Try.prog w = .ok true w := fun w => by kernel_rfl
theorem sizeOf_56 : ∀ w, (sizeOf 56).run Try.prog w = .ok 2 w := fun w => by kernel_rfl
abbrev L_56 (x : PAddr)  : List Value := [vi x.Host, vi x.Port]
theorem sizeOf_22 : ∀ w, (sizeOf 22).run Try.prog w = .ok 1 w := fun w => by kernel_rfl
theorem isAgg_109 : ∀ w, (isAgg 109).run Try.prog w = .ok true w := fun w => by kernel_rfl
theorem sizeOf_109 : ∀ w, (sizeOf 109).run Try.prog w = .ok 4 w := fun w => by kernel_rfl
def R_131 (w : World) (v : Value) (x : (PCand)) : Prop := ∃ (a1 : Option Addr) (c1 : Nat), v = .agg #[.int .i64 x.A.Host, .int .i64 x.A.Port, .slice a1 x.Draw.length c1, .int .i64 x.Until] ∧ Rd w 1 (.slice a1 x.Draw.length c1) x.Draw.length (x.Draw.map bV) ∧ x.Draw.length ≤ 1073741824
def O_109 (w : World) (lo : Nat) (v : Value) (x : (PCand)) : Prop := ∃ (a1 : Option Addr) (c1 : Nat), v = .agg #[.int .i64 x.A.Host, .int .i64 x.A.Port, .slice a1 x.Draw.length c1, .int .i64 x.Until] ∧ w.ownsRow lo 5 1 (.slice a1 x.Draw.length c1) x.Draw.length (x.Draw.map bV) ∧ x.Draw.length ≤ 1073741824 ∧ Aps [(a1, c1)]
theorem mR_56 {w : World} {x : PAddr} : R_56 w (va (L_56 x)) x := rfl
theorem mR_22 {w : World} {x : List UInt8} {a1 : Option Addr} {c1 : Nat} (h1 : Rd w 1 (.slice a1 x.length c1) x.length (x.map bV)) (l1 : x.length ≤ 1073741824) : R_22 w (vs a1 x.length c1) x := ⟨_, _, rfl, h1, l1⟩
def F_laws_toCand (x_a : PCand) : (PCand) := { A := (F_laws_toAddr x_a.A), Draw := (cpB x_a.Draw), Until := x_a.Until : PCand }
theorem C_laws_toCand (w0 : World) (v_x_a : Value) (x_a : PCand) (r_x_a : R_131 w0 v_x_a x_a)  : Fn Try.prog 117 #[v_x_a] w0 (fun v w' => Keep w0 w' ∧ O_109 w' w0.heap.size v (F_laws_toCand x_a)) := by
 obtain ⟨a1, c2, rfl, r3, s4⟩ := r_x_a
 refine fn_of (n := 16) (l := [(va (L_109 x_a a1 c2)), U, U, U, U, U, U, U, U, U, U, U, U, U, U, U]) Try.func117 rfl rfl (by kernel_rfl) rfl ?_
 refine sr ?_
 refine bx (L_109 x_a a1 c2) wN ?_
 intro g6 w1 p7 p8 k9 b10
 have m11 := (Ch.base w0).extk k9
 refine al [(vi 0), (vi 0), (vs none 0 0), (vi 0)] wN zero_109 ?_
 intro g12 w2 p13 p14 k15 b16
 have m17 := m11.extk k15
 refine nx ?_
 refine al [(vi 0), (vi 0), (vs none 0 0), (vi 0)] wN zero_109 ?_
 intro g18 w3 p19 p20 k21 b22
 have m23 := m17.extk k21
 refine nx ?_
 refine pu (vp g6 0) wN ?_
 have b24 := ((b10.kp k15).kp k21)
 refine lN (L_61 x_a.A) wN isAgg_56 sizeOf_56 b24 ?_
 refine cl wN (C_laws_toAddr w3 _ x_a.A (mR_56)) ?_
 rintro _ w4 ⟨k25, rfl⟩
 have m26 := m23.extk k25
 refine pu (vp g18 0) wN ?_
 have b27 := (b22.kp k25)
 refine st (va (L_61 (F_laws_toAddr x_a.A))) (L_61 (F_laws_toAddr x_a.A)) [(vi ((F_laws_toAddr x_a.A).Host)), (vi ((F_laws_toAddr x_a.A).Port)), (vs none 0 0), (vi 0)] wN sizeOf_61 b27 ?_
 intro w5 k28 b29 z30
 have m31 := m26.ext k28 (fun k hk => by subst hk; exact Nat.le_trans (Nat.le_trans k9.size k15.size) p19)
 refine nx ?_
 refine pu (vp g6 2) wN ?_
 have b32 := ((b24.kp k25).ch k28 (Nat.ne_of_lt (Nat.lt_of_lt_of_le p8 (Nat.le_trans k15.size p19))))
 refine ld (vs a1 x_a.Draw.length c2) wN isAgg_22 b32 ?_
 refine cl wN (C_laws_toByteS w5 _ x_a.Draw (mR_22 (r3.from0 m31) s4)) ?_
 rintro _ w6 ⟨k33, ⟨a34, c35, rfl, o36, s37, ap39⟩⟩
 have m40 := m31.extk k33
 refine pu (vp g18 2) wN ?_
 have b41 := (b29.kp k33)
 refine st (vs a34 (cpB x_a.Draw).length c35) [(vs a34 (cpB x_a.Draw).length c35)] [(vi ((F_laws_toAddr x_a.A).Host)), (vi ((F_laws_toAddr x_a.A).Port)), (vs a34 (cpB x_a.Draw).length c35), (vi 0)] wN sizeOf_22 b41 ?_
 intro w7 k42 b43 z44
 have m45 := m40.ext k42 (fun k hk => by subst hk; exact Nat.le_trans (Nat.le_trans k9.size k15.size) p19)
 refine nx ?_
 refine pu (vp g6 3) wN ?_
 have b46 := ((b32.kp k33).ch k42 (Nat.ne_of_lt (Nat.lt_of_lt_of_le p8 (Nat.le_trans k15.size p19))))
 refine ld (vi x_a.Until) wN isAgg_3 b46 ?_
 refine pu (vp g18 3) wN ?_
 refine st (vi x_a.Until) [(vi x_a.Until)] [(vi ((F_laws_toAddr x_a.A).Host)), (vi ((F_laws_toAddr x_a.A).Port)), (vs a34 (cpB x_a.Draw).length c35), (vi x_a.Until)] wN sizeOf_3 b43 ?_
 intro w8 k47 b48 z49
 have m50 := m45.ext k47 (fun k hk => by subst hk; exact Nat.le_trans (Nat.le_trans k9.size k15.size) p19)
 refine nx ?_
 refine lN [(vi ((F_laws_toAddr x_a.A).Host)), (vi ((F_laws_toAddr x_a.A).Port)), (vs a34 (cpB x_a.Draw).length c35), (vi x_a.Until)] wN isAgg_109 sizeOf_109 b48 ?_
 have b51 := ((((((b16.kp k21).kp k25).ch k28 (Nat.ne_of_lt (Nat.lt_of_lt_of_le p14 (Nat.le_trans (Nat.le_refl _) p19)))).kp k33).ch k42 (Nat.ne_of_lt (Nat.lt_of_lt_of_le p14 (Nat.le_trans (Nat.le_refl _) p19)))).ch k47 (Nat.ne_of_lt (Nat.lt_of_lt_of_le p14 (Nat.le_trans (Nat.le_refl _) p19))))
 refine st (va [(vi ((F_laws_toAddr x_a.A).Host)), (vi ((F_laws_toAddr x_a.A).Port)), (vs a34 (cpB x_a.Draw).length c35), (vi x_a.Until)]) [(vi ((F_laws_toAddr x_a.A).Host)), (vi ((F_laws_toAddr x_a.A).Port)), (vs a34 (cpB x_a.Draw).length c35), (vi x_a.Until)] [(vi ((F_laws_toAddr x_a.A).Host)), (vi ((F_laws_toAddr x_a.A).Port)), (vs a34 (cpB x_a.Draw).length c35), (vi x_a.Until)] wN sizeOf_109 b51 ?_
 intro w9 k52 b53 z54
 have m55 := m50.ext k52 (fun k hk => by subst hk; exact Nat.le_trans k9.size p13)
 refine wl_nil <| wq_then <| wc_ret ?_
 have o56 := (own_ch (own_ch (own_ch o36 k42 (fun g hg hlt hk => by have h1 := (own_lt o36 g hg).1; have h2 := Nat.lt_of_lt_of_le p20 (Nat.le_trans k25.size k28.size); omega)) k47 (fun g hg hlt hk => by have h1 := (own_lt o36 g hg).1; have h2 := Nat.lt_of_lt_of_le p20 (Nat.le_trans k25.size k28.size); omega)) k52 (fun g hg hlt hk => by have h1 := (own_lt o36 g hg).1; have h2 := Nat.lt_of_lt_of_le p14 (Nat.le_trans (Nat.le_trans k21.size k25.size) k28.size); omega))
 refine ret_1 (.inl rfl) (va [(vi ((F_laws_toAddr x_a.A).Host)), (vi ((F_laws_toAddr x_a.A).Port)), (vs a34 (cpB x_a.Draw).length c35), (vi x_a.Until)]) rfl (rv_c [(vi ((F_laws_toAddr x_a.A).Host)), (vi ((F_laws_toAddr x_a.A).Port)), (vs a34 (cpB x_a.Draw).length c35), (vi x_a.Until)] rfl b53 isAgg_109 sizeOf_109) ?_
 refine ⟨m55.keep0, ?_⟩
 have hF57 : F_laws_toCand x_a = { A := (F_laws_toAddr x_a.A), Draw := (cpB x_a.Draw), Until := x_a.Until : PCand } := by rfl
 rw [hF57]
 exact ⟨_, _, rfl, (own_lo o56 (Nat.le_trans (Nat.le_trans (Nat.le_trans (Nat.le_trans k9.size k15.size) k21.size) k25.size) k28.size)), s37, ⟨trivial, trivial⟩⟩

theorem slTy_73 : SlTy Try.prog 73 109 4 48 (va [(vi 0), (vi 0), (vs none 0 0), (vi 0)]) := slTy Try.underlying73 (by kernel_rfl) rfl rfl
def R_68 (w : World) (v : Value) (x : (List PCand)) : Prop := ∃ (a1 : Option Addr) (c1 : Nat), v = .slice a1 x.length c1 ∧ RLv LT_131 w 1073741824 a1 x.length c1 x ∧ x.length ≤ 1073741824
def O_73 (w : World) (lo : Nat) (v : Value) (x : (List PCand)) : Prop := ∃ (a1 : Option Addr) (c1 : Nat), v = .slice a1 x.length c1 ∧ OLv LT_109 w lo w.heap.size a1 x.length c1 x ∧ x.length ≤ 1073741824 ∧ Aps [(a1, c1)]
theorem mR_131 {w : World} {x : PCand} {a1 : Option Addr} {c1 : Nat} (h1 : Rd w 1 (.slice a1 x.Draw.length c1) x.Draw.length (x.Draw.map bV)) (l1 : x.Draw.length ≤ 1073741824) : R_131 w (va (L_131 x a1 c1)) x := ⟨_, _, rfl, h1, l1⟩
theorem C_laws_toCandS (w0 : World) (v_x_a : Value) (x_a : List PCand) (r_x_a : R_68 w0 v_x_a x_a)  : Fn Try.prog 92 #[v_x_a] w0 (fun v w' => Keep w0 w' ∧ O_73 w' w0.heap.size v (cpL x_a)) := by
 obtain ⟨a1, c2, rfl, r3, s4⟩ := r_x_a
 refine fn_of (n := 23) (l := [(vs a1 x_a.length c2), U, U, U, U, U, U, U, U, U, U, U, U, U, U, U, U, U, U, U, U, U, U]) Try.func92 rfl rfl (by kernel_rfl) rfl ?_
 refine sr ?_
 refine ag (vs none 0 0) wN ?_
 refine nx ?_
 refine mv (vs a1 x_a.length c2) wN ?_
 obtain ⟨y6, r7⟩ := RLv.row r3
 refine ln wN slTy_68 r7 ?_
 refine wl_makeL LT_109 z_PCand [(none, 0)] (x_a.length) wN slTy_73 rfl rfl (fun w lo => ⟨⟨own_nil _ _ _ _, Nat.zero_le _⟩, trivial⟩) (by simp) (x_a.length : Int) rfl (by omega) ?_
 intro a8 c9 w1 k10 o11
 have m12 := (Ch.base w0).extk k10
 obtain ⟨y14, o15⟩ := OLv.ow o11
 refine ag (vs a8 (List.replicate x_a.length z_PCand).length c9) wN ?_
 refine wl_nil <| wq_then <| wc_seq <| sr ?_
 refine ag (vi 0) wN ?_
 refine wl_nil <| wq_then <| wc_block ?_
 refine wc_norm [(vs a1 x_a.length c2), U, (vs none 0 0), (vs a8 (List.replicate x_a.length z_PCand).length c9), (vi 0), (vs a1 x_a.length c2), (vi (x_a.length : Int)), (vs a8 (List.replicate x_a.length z_PCand).length c9), U, U, U, U, U, U, U, U, U, U, U, U, U, U, U] rfl ⟨rfl, rfl, rfl, rfl, rfl, rfl, rfl, rfl, rfl, rfl, rfl, rfl, rfl, rfl, rfl, rfl, rfl, rfl, rfl, rfl, rfl, rfl, rfl, trivial⟩ ?_
 refine wc_loop (fun e' w' => ∃ (k : Nat) (u8x u9x u10x u11x u12x u13x u14x u15x u16x u17x u18x u19x u20x u21x : Value), e' = lst [(vs a1 x_a.length c2), U, (vs none 0 0), (vs a8 (List.replicate x_a.length z_PCand).length c9), (vi ((k : Nat) : Int)), (vs a1 x_a.length c2), (vi (x_a.length : Int)), (vs a8 (List.replicate x_a.length z_PCand).length c9), u8x, u9x, u10x, u11x, u12x, u13x, u14x, u15x, u16x, u17x, u18x, u19x, u20x, u21x, U] ∧ Ch (fun k => w0.heap.size ≤ k) w0 w' ∧ Ch (fun k => w0.heap.size ≤ k) w1 w' ∧ k ≤ x_a.length ∧ OLv LT_109 w' w0.heap.size w'.heap.size a8 ((List.replicate x_a.length z_PCand).length) c9 (x_a.take k ++ List.replicate (x_a.length - k) z_PCand)) (fun e' _ => x_a.length - ((intOf (e' 4))).toNat) ?_ ?_
 ·have hE16 : ((List.replicate x_a.length z_PCand) : List (PCand)) = x_a.take 0 ++ List.replicate (x_a.length - 0) z_PCand := by first | exact cp_next (by omega) | simp
  exact ⟨0, U, U, U, U, U, U, U, U, U, U, U, U, U, U, (congrArg (fun (x4z : Value) => lst [(vs a1 x_a.length c2), U, (vs none 0 0), (vs a8 (List.replicate x_a.length z_PCand).length c9), x4z, (vs a1 x_a.length c2), (vi (x_a.length : Int)), (vs a8 (List.replicate x_a.length z_PCand).length c9), U, U, U, U, U, U, U, U, U, U, U, U, U, U, U]) (congrArg (Value.int .i64) (show (0 : Int) = ((0 : Nat) : Int) by omega))), m12, (Ch.refl (fun k => w0.heap.size ≤ k) w1), (by omega), (by rw [← hE16]; exact (OLv.now o11))⟩
 ·rintro _ w2 ⟨k, u8x, u9x, u10x, u11x, u12x, u13x, u14x, u15x, u16x, u17x, u18x, u19x, u20x, u21x, rfl, m17, k18, i19, o20⟩
  refine wc_seq <| sr ?_
  refine mv (vi ((k : Nat) : Int)) wN ?_
  refine mv (vs a1 x_a.length c2) wN ?_
  obtain ⟨y21, r22⟩ := RLv.row (r3.from0 m17)
  refine ln wN slTy_68 r22 ?_
  refine pu (vb (decide (((k : Nat) : Int) < (x_a.length : Int)))) wN ?_
  refine wl_nil <| wq_then ?_
  rcases bf (decide (((k : Nat) : Int) < (x_a.length : Int))) with h23 | h23
  ·have q54 := of_decide_eq_false h23
   refine cf h23 ?_
   refine wc_exit <| wq_then_exit <| wq_then_exit <| wq_blk_exit <| wq_then <| sr ?_
   refine mv (vs a8 (List.replicate x_a.length z_PCand).length c9) wN ?_
   refine ag (vs a8 (List.replicate x_a.length z_PCand).length c9) wN ?_
   refine wl_nil <| wq_then <| wc_ret ?_
   refine ret_1 (.inl rfl) (vs a8 (List.replicate x_a.length z_PCand).length c9) rfl rfl ?_
   refine ⟨m17.keep0, ?_⟩
   have hF55 : cpL x_a = (x_a.take k ++ List.replicate (x_a.length - k) z_PCand) := by exact cpL_end (by omega)
   rw [hF55]
   have hN56 : (List.replicate x_a.length z_PCand).length = ((x_a.take k ++ List.replicate (x_a.length - k) z_PCand)).length := by first | (simp only [List.length_append, List.length_take, List.length_replicate, List.length_set, List.length_map]; done) | (simp only [List.length_append, List.length_take, List.length_replicate, List.length_set, List.length_map]; omega)
   rw [hN56] at o20 ⊢
   exact ⟨_, _, rfl, (OLv.now (OLv.low o20 (Nat.le_refl _))), (by rw [← hN56]; rw [List.length_replicate]; first | assumption | omega), ⟨trivial, trivial⟩⟩
  have q24 := of_decide_eq_true h23
  refine ct h23 ?_
  refine wc_skip <| wq_then <| wc_seq <| wc_block <| wc_region ?_
  refine mv (vs a8 (List.replicate x_a.length z_PCand).length c9) wN ?_
  refine mv (vi ((k : Nat) : Int)) wN ?_
  refine mv (vs a1 x_a.length c2) wN ?_
  refine mv (vi ((k : Nat) : Int)) wN ?_
  obtain ⟨y25, r26⟩ := RLv.row (r3.from0 m17)
  refine wl_index wN ((k : Nat) : Int) rfl rfl rfl slTy_68 rfl rfl r26 (by first | omega | (simp only [List.length_cons, List.length_nil, List.length_replicate, List.length_append, List.length_take, List.length_set, List.length_map]; omega)) (by first | omega | (simp only [List.length_cons, List.length_nil, List.length_replicate, List.length_append, List.length_take, List.length_set, List.length_map]; omega)) ?_
  obtain ⟨y27, l28, r29, e30, u31⟩ := RLv.el z_PCand (i := k) r3 (by first | omega | (simp only [List.length_cons, List.length_nil, List.length_replicate, List.length_append, List.length_take, List.length_set, List.length_map]; omega))
  obtain ⟨a32, c33, l37, rfl, r34, s35, u38⟩ := SubR.c u31
  obtain rfl := SubR.n u38
  refine wl_loadEN [(vi (((x_a.getD k z_PCand).A).Host)), (vi (((x_a.getD k z_PCand).A).Port)), (vs a32 (x_a.getD k z_PCand).Draw.length c33), (vi ((x_a.getD k z_PCand).Until))] wN rfl rfl rfl rfl isAgg_131 sizeOf_131 (r29.from0 m17) (by first | omega | (simp only [List.length_cons, List.length_nil, List.length_replicate, List.length_append, List.length_take, List.length_set, List.length_map]; omega)) ((part_of (off := 0) (n := 4) e30 (by first | rfl | simp | omega) (by decide)).trans rfl) ?_
  refine cl wN (C_laws_toCand w2 _ (x_a.getD k z_PCand) (mR_131 (r34.from0 m17) s35)) ?_
  rintro _ w3 ⟨k39, ⟨a40, c41, rfl, o42, s43, ap45⟩⟩
  have m46 := m17.extk k39
  have o49 := (OLv.kp o20 k39)
  obtain ⟨y47, r48⟩ := RLv.row (OLv.rl o49)
  refine wl_index wN ((k : Nat) : Int) rfl rfl rfl slTy_73 rfl rfl r48 (by first | omega | (simp only [List.length_cons, List.length_nil, List.length_replicate, List.length_append, List.length_take, List.length_set, List.length_map]; omega)) (by first | omega | (simp only [List.length_cons, List.length_nil, List.length_replicate, List.length_append, List.length_take, List.length_set, List.length_map]; omega)) ?_
  refine wl_setL z_PCand (k) (F_laws_toCand (x_a.getD k z_PCand)) [(a40, c41)] wN o49 ⟨⟨o42, s43⟩, trivial⟩ ⟨trivial, trivial⟩ (Nat.le_refl _) (Nat.le_trans k10.size k18.size) (by first | omega | (simp only [List.length_cons, List.length_nil, List.length_replicate, List.length_append, List.length_take, List.length_set, List.length_map]; omega)) (us := (L_109 (F_laws_toCand (x_a.getD k z_PCand)) a40 c41)) rfl sizeOf_109 ?_ (by first | rfl | simp | omega)
  intro w4 k50 o51
  have m52 := m46.ext k50 (fun k hk => Nat.le_trans (Nat.le_refl _) (own_lt o15 k hk).1)
  refine wl_nil <| wq_blk_normal <| wq_then <| wc_region ?_
  refine mv (vi ((k : Nat) : Int)) wN ?_
  refine ar (((k : Nat) : Int) + 1) wN ?_
  refine ag (vi (((k : Nat) : Int) + 1)) wN ?_
  refine wl_nil ?_
  have hE53 : (((x_a.take k ++ List.replicate (x_a.length - k) z_PCand).set k (F_laws_toCand (x_a.getD k z_PCand))) : List (PCand)) = x_a.take (k + 1) ++ List.replicate (x_a.length - (k + 1)) z_PCand := by first | exact cp_next (by omega) | simp
  refine wq_loopN (w0 := w2) [(vs a1 x_a.length c2), U, (vs none 0 0), (vs a8 (List.replicate x_a.length z_PCand).length c9), (vi (((k + 1) : Nat) : Int)), (vs a1 x_a.length c2), (vi (x_a.length : Int)), (vs a8 (List.replicate x_a.length z_PCand).length c9), (vi ((k : Nat) : Int)), (vs a1 x_a.length c2), (vi (x_a.length : Int)), (vb (decide (((k : Nat) : Int) < (x_a.length : Int)))), (vi ((k : Nat) : Int)), (vi (((k : Nat) : Int) + 1)), (vs a8 (List.replicate x_a.length z_PCand).length c9), (vi ((k : Nat) : Int)), (vs a1 x_a.length c2), (vi ((k : Nat) : Int)), (ve (vs a1 x_a.length c2) ((((k : Nat) : Int)).toNat * 4)), (va [(vi (((x_a.getD k z_PCand).A).Host)), (vi (((x_a.getD k z_PCand).A).Port)), (vs a32 (x_a.getD k z_PCand).Draw.length c33), (vi ((x_a.getD k z_PCand).Until))]), (va (L_109 (F_laws_toCand (x_a.getD k z_PCand)) a40 c41)), (ve (vs a8 (List.replicate x_a.length z_PCand).length c9) ((((k : Nat) : Int)).toNat * 4)), U] rfl ?_ ?_ ?_
  · exact ⟨rfl, rfl, rfl, rfl, (congrArg (Value.int .i64) (show ((((k : Nat) : Int) + 1) : Int) = (((k + 1) : Nat) : Int) by omega)), rfl, rfl, rfl, rfl, rfl, rfl, rfl, rfl, rfl, rfl, rfl, rfl, rfl, rfl, rfl, rfl, rfl, rfl, trivial⟩
  · exact ⟨(k + 1), (vi ((k : Nat) : Int)), (vs a1 x_a.length c2), (vi (x_a.length : Int)), (vb (decide (((k : Nat) : Int) < (x_a.length : Int)))), (vi ((k : Nat) : Int)), (vi (((k : Nat) : Int) + 1)), (vs a8 (List.replicate x_a.length z_PCand).length c9), (vi ((k : Nat) : Int)), (vs a1 x_a.length c2), (vi ((k : Nat) : Int)), (ve (vs a1 x_a.length c2) ((((k : Nat) : Int)).toNat * 4)), (va [(vi (((x_a.getD k z_PCand).A).Host)), (vi (((x_a.getD k z_PCand).A).Port)), (vs a32 (x_a.getD k z_PCand).Draw.length c33), (vi ((x_a.getD k z_PCand).Until))]), (va (L_109 (F_laws_toCand (x_a.getD k z_PCand)) a40 c41)), (ve (vs a8 (List.replicate x_a.length z_PCand).length c9) ((((k : Nat) : Int)).toNat * 4)), rfl, m52, ((((Ch.refl (fun k => w0.heap.size ≤ k) w1).ext k18 (fun k hk => Nat.le_trans (Nat.le_refl _) hk)).extk k39).ext k50 (fun k hk => Nat.le_trans (Nat.le_refl _) (own_lt o15 k hk).1)), (by omega), (by rw [← hE53]; exact (OLv.now o51))⟩
  · show x_a.length - ((((k + 1) : Nat) : Int)).toNat < x_a.length - (((k : Nat) : Int)).toNat; omega

theorem zero_75 : ∀ w, (zeroValue 75).run Try.prog w = .ok (va [(vi 0), (vi 0), (vs none 0 0)]) w := fun w => by kernel_rfl
theorem sizeOf_73 : ∀ w, (sizeOf 73).run Try.prog w = .ok 1 w := fun w => by kernel_rfl
theorem isAgg_75 : ∀ w, (isAgg 75).run Try.prog w = .ok true w := fun w => by kernel_rfl
theorem sizeOf_75 : ∀ w, (sizeOf 75).run Try.prog w = .ok 3 w := fun w => by kernel_rfl
def R_70 (w : World) (v : Value) (x : (PPaths)) : Prop := ∃ (a1 : Option Addr) (c1 : Nat), v = .agg #[.int .i64 x.At.Host, .int .i64 x.At.Port, .slice a1 x.Cands.length c1] ∧ RLv LT_131 w 1073741824 a1 x.Cands.length c1 x.Cands ∧ x.Cands.length ≤ 1073741824
def O_75 (w : World) (lo : Nat) (v : Value) (x : (PPaths)) : Prop := ∃ (a1 : Option Addr) (c1 : Nat), v = .agg #[.int .i64 x.At.Host, .int .i64 x.At.Port, .slice a1 x.Cands.length c1] ∧ OLv LT_109 w lo w.heap.size a1 x.Cands.length c1 x.Cands ∧ x.Cands.length ≤ 1073741824 ∧ Aps [(a1, c1)]
theorem mR_68 {w : World} {x : List PCand} {a1 : Option Addr} {c1 : Nat} (h1 : RLv LT_131 w 1073741824 a1 x.length c1 x) (l1 : x.length ≤ 1073741824) : R_68 w (vs a1 x.length c1) x := ⟨_, _, rfl, h1, l1⟩
def F_laws_toPaths (x_a : PPaths) : (PPaths) := { At := (F_laws_toAddr x_a.At), Cands := (cpL x_a.Cands) : PPaths }
theorem C_laws_toPaths (w0 : World) (v_x_a : Value) (x_a : PPaths) (r_x_a : R_70 w0 v_x_a x_a)  : Fn Try.prog 48 #[v_x_a] w0 (fun v w' => Keep w0 w' ∧ O_75 w' w0.heap.size v (F_laws_toPaths x_a)) := by
 obtain ⟨a1, c2, rfl, r3, s4⟩ := r_x_a
 refine fn_of (n := 13) (l := [(va (L_75 x_a a1 c2)), U, U, U, U, U, U, U, U, U, U, U, U]) Try.func48 rfl rfl (by kernel_rfl) rfl ?_
 refine sr ?_
 refine bx (L_75 x_a a1 c2) wN ?_
 intro g6 w1 p7 p8 k9 b10
 have m11 := (Ch.base w0).extk k9
 refine al [(vi 0), (vi 0), (vs none 0 0)] wN zero_75 ?_
 intro g12 w2 p13 p14 k15 b16
 have m17 := m11.extk k15
 refine nx ?_
 refine al [(vi 0), (vi 0), (vs none 0 0)] wN zero_75 ?_
 intro g18 w3 p19 p20 k21 b22
 have m23 := m17.extk k21
 refine nx ?_
 refine pu (vp g6 0) wN ?_
 have b24 := ((b10.kp k15).kp k21)
 refine lN (L_61 x_a.At) wN isAgg_56 sizeOf_56 b24 ?_
 refine cl wN (C_laws_toAddr w3 _ x_a.At (mR_56)) ?_
 rintro _ w4 ⟨k25, rfl⟩
 have m26 := m23.extk k25
 refine pu (vp g18 0) wN ?_
 have b27 := (b22.kp k25)
 refine st (va (L_61 (F_laws_toAddr x_a.At))) (L_61 (F_laws_toAddr x_a.At)) [(vi ((F_laws_toAddr x_a.At).Host)), (vi ((F_laws_toAddr x_a.At).Port)), (vs none 0 0)] wN sizeOf_61 b27 ?_
 intro w5 k28 b29 z30
 have m31 := m26.ext k28 (fun k hk => by subst hk; exact Nat.le_trans (Nat.le_trans k9.size k15.size) p19)
 refine nx ?_
 refine pu (vp g6 2) wN ?_
 have b32 := ((b24.kp k25).ch k28 (Nat.ne_of_lt (Nat.lt_of_lt_of_le p8 (Nat.le_trans k15.size p19))))
 refine ld (vs a1 x_a.Cands.length c2) wN isAgg_68 b32 ?_
 refine cl wN (C_laws_toCandS w5 _ x_a.Cands (mR_68 (r3.from0 m31) s4)) ?_
 rintro _ w6 ⟨k33, ⟨a34, c35, rfl, o36, s37, ap39⟩⟩
 have m40 := m31.extk k33
 obtain ⟨y41, o42⟩ := OLv.ow o36
 refine pu (vp g18 2) wN ?_
 have b43 := (b29.kp k33)
 refine st (vs a34 (cpL x_a.Cands).length c35) [(vs a34 (cpL x_a.Cands).length c35)] [(vi ((F_laws_toAddr x_a.At).Host)), (vi ((F_laws_toAddr x_a.At).Port)), (vs a34 (cpL x_a.Cands).length c35)] wN sizeOf_73 b43 ?_
 intro w7 k44 b45 z46
 have m47 := m40.ext k44 (fun k hk => by subst hk; exact Nat.le_trans (Nat.le_trans k9.size k15.size) p19)
 refine nx ?_
 refine lN [(vi ((F_laws_toAddr x_a.At).Host)), (vi ((F_laws_toAddr x_a.At).Port)), (vs a34 (cpL x_a.Cands).length c35)] wN isAgg_75 sizeOf_75 b45 ?_
 have b48 := (((((b16.kp k21).kp k25).ch k28 (Nat.ne_of_lt (Nat.lt_of_lt_of_le p14 (Nat.le_trans (Nat.le_refl _) p19)))).kp k33).ch k44 (Nat.ne_of_lt (Nat.lt_of_lt_of_le p14 (Nat.le_trans (Nat.le_refl _) p19))))
 refine st (va [(vi ((F_laws_toAddr x_a.At).Host)), (vi ((F_laws_toAddr x_a.At).Port)), (vs a34 (cpL x_a.Cands).length c35)]) [(vi ((F_laws_toAddr x_a.At).Host)), (vi ((F_laws_toAddr x_a.At).Port)), (vs a34 (cpL x_a.Cands).length c35)] [(vi ((F_laws_toAddr x_a.At).Host)), (vi ((F_laws_toAddr x_a.At).Port)), (vs a34 (cpL x_a.Cands).length c35)] wN sizeOf_75 b48 ?_
 intro w8 k49 b50 z51
 have m52 := m47.ext k49 (fun k hk => by subst hk; exact Nat.le_trans k9.size p13)
 refine wl_nil <| wq_then <| wc_ret ?_
 have o53 := (OLv.ch (OLv.ch o36 k44 (fun g h1 h2 hk => by have h3 := Nat.lt_of_lt_of_le p20 (Nat.le_trans k25.size k28.size); omega)) k49 (fun g h1 h2 hk => by have h3 := Nat.lt_of_lt_of_le p14 (Nat.le_trans (Nat.le_trans k21.size k25.size) k28.size); omega))
 refine ret_1 (.inl rfl) (va [(vi ((F_laws_toAddr x_a.At).Host)), (vi ((F_laws_toAddr x_a.At).Port)), (vs a34 (cpL x_a.Cands).length c35)]) rfl (rv_c [(vi ((F_laws_toAddr x_a.At).Host)), (vi ((F_laws_toAddr x_a.At).Port)), (vs a34 (cpL x_a.Cands).length c35)] rfl b50 isAgg_75 sizeOf_75) ?_
 refine ⟨m52.keep0, ?_⟩
 have hF54 : F_laws_toPaths x_a = { At := (F_laws_toAddr x_a.At), Cands := (cpL x_a.Cands) : PPaths } := by rfl
 rw [hF54]
 exact ⟨_, _, rfl, (OLv.now (OLv.low o53 (Nat.le_trans (Nat.le_trans (Nat.le_trans (Nat.le_trans k9.size k15.size) k21.size) k25.size) k28.size))), s37, ⟨trivial, trivial⟩⟩

def O_4 (w : World) (lo : Nat) (v : Value) (x : (Bool)) : Prop := v = .bool x
def F_spec_l1In (x_x : Int) (x_least : Int) (x_most : Int) : (Bool) := bif (decide (x_least ≤ x_x)) then (decide (x_x ≤ x_most)) else (false)
theorem C_spec_l1In (w0 : World) (x_x : Int) (x_least : Int) (x_most : Int)  : Fn Try.prog 65 #[(vi x_x), (vi x_least), (vi x_most)] w0 (fun v w' => Keep w0 w' ∧ O_4 w' w0.heap.size v (F_spec_l1In x_x x_least x_most)) := by
 refine fn_of (n := 15) (l := [(vi x_x), (vi x_least), (vi x_most), U, U, U, U, U, U, U, U, U, U, U, U]) Try.func65 rfl rfl (by kernel_rfl) rfl ?_
 refine sr ?_
 refine ag (vb false) wN ?_
 refine nx ?_
 refine mv (vi x_x) wN ?_
 refine mv (vi x_least) wN ?_
 refine pu (vb (decide (x_least ≤ x_x))) wN ?_
 refine mv (vb (decide (x_least ≤ x_x))) wN ?_
 rcases bf (decide (x_least ≤ x_x)) with h1 | h1
 ·have q4 := of_decide_eq_false h1
  refine sk h1 ?_
  refine sk h1 ?_
  refine sk h1 ?_
  refine pf (vb false) wN h1 ?_
  refine ag (vb false) wN ?_
  refine wl_nil <| wq_then <| wc_ret ?_
  refine ret_1 (.inl rfl) (vb false) rfl rfl ?_
  refine ⟨Ch.refl _ _, ?_⟩
  have hF5 : F_spec_l1In x_x x_least x_most = false := by simp only [F_spec_l1In, h1, cond_true, cond_false]
  rw [hF5]
  exact rfl
 have q2 := of_decide_eq_true h1
 refine mv (vi x_x) (wS h1) ?_
 refine mv (vi x_most) (wS h1) ?_
 refine pu (vb (decide (x_x ≤ x_most))) (wS h1) ?_
 refine pk (vb (decide (x_x ≤ x_most))) wN h1 ?_
 refine ag (vb (decide (x_x ≤ x_most))) wN ?_
 refine wl_nil <| wq_then <| wc_ret ?_
 refine ret_1 (.inl rfl) (vb (decide (x_x ≤ x_most))) rfl rfl ?_
 refine ⟨Ch.refl _ _, ?_⟩
 have hF3 : F_spec_l1In x_x x_least x_most = decide (x_x ≤ x_most) := by simp only [F_spec_l1In, h1, cond_true, cond_false]
 rw [hF3]
 exact rfl
theorem spec_l1In_t {n a b : Int} (h : F_spec_l1In n a b = true) : a ≤ n ∧ n ≤ b := by
  unfold F_spec_l1In at h
  by_cases h1 : a ≤ n <;> simp [h1] at h
  exact ⟨h1, h⟩
theorem spec_l1In_f {n a b : Int} (h : F_spec_l1In n a b = false) : n < a ∨ b < n := by
  unfold F_spec_l1In at h
  by_cases h1 : a ≤ n <;> simp [h1] at h <;> omega

def R_61 (w : World) (v : Value) (x : (PAddr)) : Prop := v = .agg #[.int .i64 x.Host, .int .i64 x.Port]
def F_spec_AddrOk (x_a : PAddr) : (Bool) := bif (F_spec_l1In x_a.Host 0 4294967295) then ((F_spec_l1In x_a.Port 0 65535)) else (false)
theorem C_spec_AddrOk (w0 : World) (v_x_a : Value) (x_a : PAddr) (r_x_a : R_61 w0 v_x_a x_a)  : Fn Try.prog 88 #[v_x_a] w0 (fun v w' => Keep w0 w' ∧ O_4 w' w0.heap.size v (F_spec_AddrOk x_a)) := by
 obtain rfl := r_x_a
 refine fn_of (n := 11) (l := [(va (L_61 x_a)), U, U, U, U, U, U, U, U, U, U]) Try.func88 rfl rfl (by kernel_rfl) rfl ?_
 refine sr ?_
 refine bx (L_61 x_a) wN ?_
 intro g1 w1 p2 p3 k4 b5
 have m6 := (Ch.base w0).extk k4
 refine ag (vb false) wN ?_
 refine nx ?_
 refine pu (vp g1 0) wN ?_
 refine ld (vi x_a.Host) wN isAgg_3 b5 ?_
 refine cl wN (C_spec_l1In w1 x_a.Host 0 4294967295) ?_
 rintro _ w2 ⟨k7, rfl⟩
 have m8 := m6.extk k7
 refine mv (vb (F_spec_l1In x_a.Host 0 4294967295)) wN ?_
 rcases bf (F_spec_l1In x_a.Host 0 4294967295) with h9 | h9
 ·have q15 := spec_l1In_f h9
  refine sk h9 ?_
  refine sk h9 ?_
  refine sk h9 ?_
  refine pf (vb false) wN h9 ?_
  refine ag (vb false) wN ?_
  refine wl_nil <| wq_then <| wc_ret ?_
  refine ret_1 (.inl rfl) (vb false) rfl rfl ?_
  refine ⟨m8.keep0, ?_⟩
  have hF16 : F_spec_AddrOk x_a = false := by simp only [F_spec_AddrOk, h9, cond_true, cond_false]
  rw [hF16]
  exact rfl
 have q10 := spec_l1In_t h9
 refine pu (vp g1 1) (wS h9) ?_
 have b11 := (b5.kp k7)
 refine ld (vi x_a.Port) (wS h9) isAgg_3 b11 ?_
 refine cl (wS h9) (C_spec_l1In w2 x_a.Port 0 65535) ?_
 rintro _ w3 ⟨k12, rfl⟩
 have m13 := m8.extk k12
 refine pk (vb (F_spec_l1In x_a.Port 0 65535)) wN h9 ?_
 refine ag (vb (F_spec_l1In x_a.Port 0 65535)) wN ?_
 refine wl_nil <| wq_then <| wc_ret ?_
 refine ret_1 (.inl rfl) (vb (F_spec_l1In x_a.Port 0 65535)) rfl rfl ?_
 refine ⟨m13.keep0, ?_⟩
 have hF14 : F_spec_AddrOk x_a = (F_spec_l1In x_a.Port 0 65535) := by simp only [F_spec_AddrOk, h9, cond_true, cond_false]
 rw [hF14]
 exact rfl

theorem isAgg_73 : ∀ w, (isAgg 73).run Try.prog w = .ok false w := fun w => by kernel_rfl
theorem guardt_61 : Try.prog.eqGuardType Try.prog.depth 61 = false := by kernel_rfl
theorem aggeq_61 (x0 y0 : Int) (x1 y1 : Int) (w : World) : (Op.equalIn 10000 61 (.agg #[.int .i64 x0, .int .i64 x1]) (.agg #[.int .i64 y0, .int .i64 y1])).run Try.prog w = .ok ((decide (x0 = y0) && decide (x1 = y1))) w := by
  rw [run_equalIn_struct w 9999 61 _ _ (by kernel_rfl) (by kernel_rfl)]
  simp [Program.fieldsOf, Op.eqFields, go_sem, Try.underlying3, Try.underlying61]
  by_cases h0 : x0 = y0 <;> by_cases h1 : x1 = y1 <;> simp [*]
theorem fieldAt_109_0 : ∀ a w, (Instr.fieldAt 109 (.pointer (some a)) 0).run Try.prog w = .ok (.pointer (some (a.add 0))) w := fun a w => by kernel_rfl
theorem mixed : Try.prog.follows .mixedOrders = true := by kernel_rfl
def R_75 (w : World) (v : Value) (x : (PPaths)) : Prop := ∃ (a1 : Option Addr) (c1 : Nat), v = .agg #[.int .i64 x.At.Host, .int .i64 x.At.Port, .slice a1 x.Cands.length c1] ∧ RLv LT_109 w 1073741824 a1 x.Cands.length c1 x.Cands ∧ x.Cands.length ≤ 1073741824
theorem mR_61 {w : World} {x : PAddr} : R_61 w (va (L_61 x)) x := rfl
def sPaJ (x_p : PPaths) (i j : Nat) : Bool := !(decide ((x_p.Cands.getD j z_PCand).A.Host = (x_p.Cands.getD i z_PCand).A.Host) && decide ((x_p.Cands.getD j z_PCand).A.Port = (x_p.Cands.getD i z_PCand).A.Port))
def sPaG (x_p : PPaths) (i : Nat) : Bool := (F_spec_AddrOk (x_p.Cands.getD i z_PCand).A) && ((decide (((x_p.Cands.getD i z_PCand).Draw.length : Int) = 12)) && ((F_spec_l1In (x_p.Cands.getD i z_PCand).Until 0 1000006) && ((!(decide ((x_p.Cands.getD i z_PCand).A.Host = x_p.At.Host) && decide ((x_p.Cands.getD i z_PCand).A.Port = x_p.At.Port))) && (allN (sPaJ x_p i) i))))
def sPa (x_p : PPaths) : Bool := bif F_spec_AddrOk x_p.At then (bif decide (3 < (x_p.Cands.length : Int)) then false else allN (sPaG x_p) x_p.Cands.length) else false
theorem C_spec_PathsOk (w0 : World) (v_x_p : Value) (x_p : PPaths) (r_x_p : R_75 w0 v_x_p x_p)  : Fn Try.prog 47 #[v_x_p] w0 (fun v w' => Keep w0 w' ∧ O_4 w' w0.heap.size v (sPa x_p)) := by
 obtain ⟨a1, c2, rfl, r3, s4⟩ := r_x_p
 refine fn_of (n := 65) (l := [(va (L_75 x_p a1 c2)), U, U, U, U, U, U, U, U, U, U, U, U, U, U, U, U, U, U, U, U, U, U, U, U, U, U, U, U, U, U, U, U, U, U, U, U, U, U, U, U, U, U, U, U, U, U, U, U, U, U, U, U, U, U, U, U, U, U, U, U, U, U, U, U]) Try.func47 rfl rfl (by kernel_rfl) rfl ?_
 refine sr ?_
 refine bx (L_75 x_p a1 c2) wN ?_
 intro g6 w1 p7 p8 k9 b10
 have m11 := (Ch.base w0).extk k9
 refine ag (vb false) wN ?_
 refine wl_nil <| wq_then <| wc_seq <| sr ?_
 refine pu (vp g6 0) wN ?_
 refine lN (L_61 x_p.At) wN isAgg_61 sizeOf_61 b10 ?_
 refine cl wN (C_spec_AddrOk w1 _ x_p.At (mR_61)) ?_
 rintro _ w2 ⟨k12, rfl⟩
 have m13 := m11.extk k12
 refine pu (vb (!(F_spec_AddrOk x_p.At))) wN ?_
 refine mv (vb (!(F_spec_AddrOk x_p.At))) wN ?_
 rcases bf (F_spec_AddrOk x_p.At) with h14 | h14
 ·refine sk (congrArg not h14) ?_
  refine sk (congrArg not h14) ?_
  refine sk (congrArg not h14) ?_
  refine sk (congrArg not h14) ?_
  refine pk (vb true) wN (congrArg not h14) ?_
  refine wl_nil <| wq_then ?_
  refine ct (Eq.refl true) ?_
  refine sr ?_
  refine ag (vb false) wN ?_
  refine wl_nil <| wq_then <| wc_ret <| wq_then_ret ?_
  refine ret_1 (.inl rfl) (vb false) rfl rfl ?_
  refine ⟨m13.keep0, ?_⟩
  have hF158 : sPa x_p = false := by simp [sPa, h14]
  rw [hF158]
  exact rfl
 refine pu (vp g6 2) (wS (congrArg not h14)) ?_
 have b16 := (b10.kp k12)
 refine ld (vs a1 x_p.Cands.length c2) (wS (congrArg not h14)) isAgg_73 b16 ?_
 obtain ⟨y17, r18⟩ := RLv.row (r3.from0 m13)
 refine ln (wS (congrArg not h14)) slTy_73 r18 ?_
 refine pu (vb (decide (3 < (x_p.Cands.length : Int)))) (wS (congrArg not h14)) ?_
 refine pf (vb (decide (3 < (x_p.Cands.length : Int)))) wN (congrArg not h14) ?_
 refine wl_nil <| wq_then ?_
 rcases bt (decide (3 < (x_p.Cands.length : Int))) with h19 | h19
 ·have q20 := of_decide_eq_true h19
  refine ct h19 ?_
  refine sr ?_
  refine ag (vb false) wN ?_
  refine wl_nil <| wq_then <| wc_ret <| wq_then_ret ?_
  refine ret_1 (.inl rfl) (vb false) rfl rfl ?_
  refine ⟨m13.keep0, ?_⟩
  have hF21 : sPa x_p = false := by simp [sPa, h14, h19]
  rw [hF21]
  exact rfl
 have q22 := of_decide_eq_false h19
 refine cf h19 ?_
 refine wc_skip <| wq_then <| wc_seq <| sr ?_
 refine ag (vi 0) wN ?_
 refine wl_nil <| wq_then <| wc_block ?_
 refine wc_norm [(va (L_75 x_p a1 c2)), (vp g6 0), (vb false), (vi 0), U, U, (vp g6 0), (va (L_61 x_p.At)), (vb (F_spec_AddrOk x_p.At)), (vb (!(F_spec_AddrOk x_p.At))), (vb (!(F_spec_AddrOk x_p.At))), (vp g6 2), (vs a1 x_p.Cands.length c2), (vi (x_p.Cands.length : Int)), (vb (decide (3 < (x_p.Cands.length : Int)))), (vb (decide (3 < (x_p.Cands.length : Int)))), U, U, U, U, U, U, U, U, U, U, U, U, U, U, U, U, U, U, U, U, U, U, U, U, U, U, U, U, U, U, U, U, U, U, U, U, U, U, U, U, U, U, U, U, U, U, U, U, U] rfl ⟨rfl, rfl, rfl, rfl, rfl, rfl, rfl, rfl, rfl, rfl, rfl, rfl, rfl, rfl, rfl, rfl, rfl, rfl, rfl, rfl, rfl, rfl, rfl, rfl, rfl, rfl, rfl, rfl, rfl, rfl, rfl, rfl, rfl, rfl, rfl, rfl, rfl, rfl, rfl, rfl, rfl, rfl, rfl, rfl, rfl, rfl, rfl, rfl, rfl, rfl, rfl, rfl, rfl, rfl, rfl, rfl, rfl, rfl, rfl, rfl, rfl, rfl, rfl, rfl, rfl, trivial⟩ ?_
 refine wc_loop (fun e' w' => ∃ (k : Nat) (u2x u4x u5x u16x u17x u18x u19x u20x u21x u22x u23x u24x u25x u26x u27x u28x u29x u30x u31x u32x u33x u34x u35x u36x u37x u38x u39x u40x u41x u42x u43x u44x u45x u46x u47x u48x u49x u50x u51x u52x u53x u54x u55x u56x u57x u58x u59x u60x u61x u62x u63x u64x : Value), e' = lst [(va (L_75 x_p a1 c2)), (vp g6 0), u2x, (vi ((k : Nat) : Int)), u4x, u5x, (vp g6 0), (va (L_61 x_p.At)), (vb (F_spec_AddrOk x_p.At)), (vb (!(F_spec_AddrOk x_p.At))), (vb (!(F_spec_AddrOk x_p.At))), (vp g6 2), (vs a1 x_p.Cands.length c2), (vi (x_p.Cands.length : Int)), (vb (decide (3 < (x_p.Cands.length : Int)))), (vb (decide (3 < (x_p.Cands.length : Int)))), u16x, u17x, u18x, u19x, u20x, u21x, u22x, u23x, u24x, u25x, u26x, u27x, u28x, u29x, u30x, u31x, u32x, u33x, u34x, u35x, u36x, u37x, u38x, u39x, u40x, u41x, u42x, u43x, u44x, u45x, u46x, u47x, u48x, u49x, u50x, u51x, u52x, u53x, u54x, u55x, u56x, u57x, u58x, u59x, u60x, u61x, u62x, u63x, u64x] ∧ Ch (fun k => w0.heap.size ≤ k) w0 w' ∧ Ch (fun k => w2.heap.size ≤ k) w2 w' ∧ k ≤ x_p.Cands.length ∧ ∀ j, j < k → sPaG x_p j = true) (fun e' _ => x_p.Cands.length - ((intOf (e' 3))).toNat) ?_ ?_
 ·exact ⟨0, (vb false), U, U, U, U, U, U, U, U, U, U, U, U, U, U, U, U, U, U, U, U, U, U, U, U, U, U, U, U, U, U, U, U, U, U, U, U, U, U, U, U, U, U, U, U, U, U, U, U, U, U, U, (congrArg (fun (x3z : Value) => lst [(va (L_75 x_p a1 c2)), (vp g6 0), (vb false), x3z, U, U, (vp g6 0), (va (L_61 x_p.At)), (vb (F_spec_AddrOk x_p.At)), (vb (!(F_spec_AddrOk x_p.At))), (vb (!(F_spec_AddrOk x_p.At))), (vp g6 2), (vs a1 x_p.Cands.length c2), (vi (x_p.Cands.length : Int)), (vb (decide (3 < (x_p.Cands.length : Int)))), (vb (decide (3 < (x_p.Cands.length : Int)))), U, U, U, U, U, U, U, U, U, U, U, U, U, U, U, U, U, U, U, U, U, U, U, U, U, U, U, U, U, U, U, U, U, U, U, U, U, U, U, U, U, U, U, U, U, U, U, U, U]) (congrArg (Value.int .i64) (show (0 : Int) = ((0 : Nat) : Int) by omega))), m13, (Ch.refl (fun k => w2.heap.size ≤ k) w2), (by omega), (by first | (intro j hj; omega) | (have hy := allN_t (f := sPaJ x_p k) (n := k) (k := j) (by assumption) (by omega); exact allN_next (by assumption) (by simp only [sPaG, hy, h14, h19]; simp)))⟩
 ·rintro _ w3 ⟨k, u2x, u4x, u5x, u16x, u17x, u18x, u19x, u20x, u21x, u22x, u23x, u24x, u25x, u26x, u27x, u28x, u29x, u30x, u31x, u32x, u33x, u34x, u35x, u36x, u37x, u38x, u39x, u40x, u41x, u42x, u43x, u44x, u45x, u46x, u47x, u48x, u49x, u50x, u51x, u52x, u53x, u54x, u55x, u56x, u57x, u58x, u59x, u60x, u61x, u62x, u63x, u64x, rfl, m23, k24, i25, i26⟩
  refine wc_seq <| sr ?_
  refine mv (vi ((k : Nat) : Int)) wN ?_
  refine pu (vp g6 2) wN ?_
  have b27 := (b16.ch k24 (Nat.not_le.2 (Nat.lt_of_lt_of_le p8 k12.size)))
  refine ld (vs a1 x_p.Cands.length c2) wN isAgg_73 b27 ?_
  obtain ⟨y28, r29⟩ := RLv.row (r3.from0 m23)
  refine ln wN slTy_73 r29 ?_
  refine pu (vb (decide (((k : Nat) : Int) < (x_p.Cands.length : Int)))) wN ?_
  refine wl_nil <| wq_then ?_
  rcases bf (decide (((k : Nat) : Int) < (x_p.Cands.length : Int))) with h30 | h30
  ·have q155 := of_decide_eq_false h30
   refine cf h30 ?_
   refine wc_exit <| wq_then_exit <| wq_then_exit <| wq_blk_exit <| wq_then <| sr ?_
   refine ag (vb true) wN ?_
   refine wl_nil <| wq_then <| wc_ret ?_
   refine ret_1 (.inl rfl) (vb true) rfl rfl ?_
   refine ⟨m23.keep0, ?_⟩
   have hF156 : sPa x_p = true := by have hz := allN_t (f := sPaG x_p) (n := x_p.Cands.length) (k := k) (by assumption) (by omega); simp only [sPa, h14, h19, h30, hz]; simp
   rw [hF156]
   exact rfl
  have q31 := of_decide_eq_true h30
  refine ct h30 ?_
  refine wc_skip <| wq_then <| wc_seq <| wc_block <| sr ?_
  refine pu (vp g6 2) wN ?_
  refine ld (vs a1 x_p.Cands.length c2) wN isAgg_73 b27 ?_
  refine mv (vi ((k : Nat) : Int)) wN ?_
  obtain ⟨y32, r33⟩ := RLv.row (r3.from0 m23)
  refine wl_index wN ((k : Nat) : Int) rfl rfl rfl slTy_73 rfl rfl r33 (by first | omega | (simp only [List.length_cons, List.length_nil, List.length_replicate, List.length_append, List.length_take, List.length_set, List.length_map]; omega)) (by first | omega | (simp only [List.length_cons, List.length_nil, List.length_replicate, List.length_append, List.length_take, List.length_set, List.length_map]; omega)) ?_
  obtain ⟨y34, l35, r36, e37, u38⟩ := RLv.el z_PCand (i := k) r3 (by first | omega | (simp only [List.length_cons, List.length_nil, List.length_replicate, List.length_append, List.length_take, List.length_set, List.length_map]; omega))
  obtain ⟨a39, c40, l44, rfl, r41, s42, u45⟩ := SubR.c u38
  obtain rfl := SubR.n u45
  refine wl_loadEN [(vi (((x_p.Cands.getD k z_PCand).A).Host)), (vi (((x_p.Cands.getD k z_PCand).A).Port)), (vs a39 (x_p.Cands.getD k z_PCand).Draw.length c40), (vi ((x_p.Cands.getD k z_PCand).Until))] wN rfl rfl rfl rfl isAgg_109 sizeOf_109 (r36.from0 m23) (by first | omega | (simp only [List.length_cons, List.length_nil, List.length_replicate, List.length_append, List.length_take, List.length_set, List.length_map]; omega)) ((part_of (off := 0) (n := 4) e37 (by first | rfl | simp | omega) (by decide)).trans rfl) ?_
  refine al [(vi 0), (vi 0), (vs none 0 0), (vi 0)] wN zero_109 ?_
  intro g46 w4 p47 p48 k49 b50
  have m51 := m23.extk k49
  refine st (va [(vi (((x_p.Cands.getD k z_PCand).A).Host)), (vi (((x_p.Cands.getD k z_PCand).A).Port)), (vs a39 (x_p.Cands.getD k z_PCand).Draw.length c40), (vi ((x_p.Cands.getD k z_PCand).Until))]) [(vi (((x_p.Cands.getD k z_PCand).A).Host)), (vi (((x_p.Cands.getD k z_PCand).A).Port)), (vs a39 (x_p.Cands.getD k z_PCand).Draw.length c40), (vi ((x_p.Cands.getD k z_PCand).Until))] [(vi (((x_p.Cands.getD k z_PCand).A).Host)), (vi (((x_p.Cands.getD k z_PCand).A).Port)), (vs a39 (x_p.Cands.getD k z_PCand).Draw.length c40), (vi ((x_p.Cands.getD k z_PCand).Until))] wN sizeOf_109 b50 ?_
  intro w5 k52 b53 z54
  have m55 := m51.ext k52 (fun k hk => by subst hk; exact Nat.le_trans (Nat.le_trans (Nat.le_trans k9.size k12.size) k24.size) p47)
  refine wl_nil <| wq_then <| wc_seq <| sr ?_
  refine pu (vp g46 0) wN ?_
  refine lN (L_61 ((x_p.Cands.getD k z_PCand).A)) wN isAgg_61 sizeOf_61 b53 ?_
  refine cl wN (C_spec_AddrOk w5 _ ((x_p.Cands.getD k z_PCand).A) (mR_61)) ?_
  rintro _ w6 ⟨k56, rfl⟩
  have m57 := m55.extk k56
  refine pu (vb (!(F_spec_AddrOk ((x_p.Cands.getD k z_PCand).A)))) wN ?_
  refine mv (vb (!(F_spec_AddrOk ((x_p.Cands.getD k z_PCand).A)))) wN ?_
  rcases bf (F_spec_AddrOk ((x_p.Cands.getD k z_PCand).A)) with h58 | h58
  ·refine sk (congrArg not h58) ?_
   refine sk (congrArg not h58) ?_
   refine sk (congrArg not h58) ?_
   refine sk (congrArg not h58) ?_
   refine pk (vb true) wN (congrArg not h58) ?_
   refine mv (vb true) wN ?_
   refine sk (Eq.refl true) ?_
   refine sk (Eq.refl true) ?_
   refine sk (Eq.refl true) ?_
   refine sk (Eq.refl true) ?_
   refine pk (vb true) wN (Eq.refl true) ?_
   refine mv (vb true) wN ?_
   refine sk (Eq.refl true) ?_
   refine sk (Eq.refl true) ?_
   refine sk (Eq.refl true) ?_
   refine sk (Eq.refl true) ?_
   refine sk (Eq.refl true) ?_
   refine pk (vb true) wN (Eq.refl true) ?_
   refine wl_nil <| wq_then ?_
   refine ct (Eq.refl true) ?_
   refine sr ?_
   refine ag (vb false) wN ?_
   refine wl_nil <| wq_then <| wc_ret <| wq_then_ret <| wq_blk_ret <| wq_then_ret <| wq_then_ret <| wq_blk_ret <| wq_then_ret ?_
   refine ret_1 (.inl rfl) (vb false) rfl rfl ?_
   refine ⟨m57.keep0, ?_⟩
   have hF154 : sPa x_p = false := by have hz := allN_f (f := sPaG x_p) (n := x_p.Cands.length) (k := k) (by omega) (by simp only [sPaG, h14, h19, h30, h58]; simp); simp only [sPa, h14, h19, h30, h58, hz]; simp
   rw [hF154]
   exact rfl
  refine pu (vp g46 2) (wS (congrArg not h58)) ?_
  have b60 := (b53.kp k56)
  refine ld (vs a39 (x_p.Cands.getD k z_PCand).Draw.length c40) (wS (congrArg not h58)) isAgg_22 b60 ?_
  refine ln (wS (congrArg not h58)) slTy_22 (r41.from0 m57) ?_
  refine pu (vb (!(decide (((x_p.Cands.getD k z_PCand).Draw.length : Int) = 12)))) (wS (congrArg not h58)) ?_
  refine pf (vb (!(decide (((x_p.Cands.getD k z_PCand).Draw.length : Int) = 12)))) wN (congrArg not h58) ?_
  refine mv (vb (!(decide (((x_p.Cands.getD k z_PCand).Draw.length : Int) = 12)))) wN ?_
  rcases bf (decide (((x_p.Cands.getD k z_PCand).Draw.length : Int) = 12)) with h61 | h61
  ·have q151 := of_decide_eq_false h61
   refine sk (congrArg not h61) ?_
   refine sk (congrArg not h61) ?_
   refine sk (congrArg not h61) ?_
   refine sk (congrArg not h61) ?_
   refine pk (vb true) wN (congrArg not h61) ?_
   refine mv (vb true) wN ?_
   refine sk (Eq.refl true) ?_
   refine sk (Eq.refl true) ?_
   refine sk (Eq.refl true) ?_
   refine sk (Eq.refl true) ?_
   refine sk (Eq.refl true) ?_
   refine pk (vb true) wN (Eq.refl true) ?_
   refine wl_nil <| wq_then ?_
   refine ct (Eq.refl true) ?_
   refine sr ?_
   refine ag (vb false) wN ?_
   refine wl_nil <| wq_then <| wc_ret <| wq_then_ret <| wq_blk_ret <| wq_then_ret <| wq_then_ret <| wq_blk_ret <| wq_then_ret ?_
   refine ret_1 (.inl rfl) (vb false) rfl rfl ?_
   refine ⟨m57.keep0, ?_⟩
   have hF152 : sPa x_p = false := by have hz := allN_f (f := sPaG x_p) (n := x_p.Cands.length) (k := k) (by omega) (by simp only [sPaG, h14, h19, h30, h58, h61]; simp); simp only [sPa, h14, h19, h30, h58, h61, hz]; simp
   rw [hF152]
   exact rfl
  have q62 := of_decide_eq_true h61
  refine pu (vp g46 3) (wS (congrArg not h61)) ?_
  refine ld (vi ((x_p.Cands.getD k z_PCand).Until)) (wS (congrArg not h61)) isAgg_3 b60 ?_
  refine cl (wS (congrArg not h61)) (C_spec_l1In w6 ((x_p.Cands.getD k z_PCand).Until) 0 1000006) ?_
  rintro _ w7 ⟨k63, rfl⟩
  have m64 := m57.extk k63
  refine pu (vb (!(F_spec_l1In ((x_p.Cands.getD k z_PCand).Until) 0 1000006))) (wS (congrArg not h61)) ?_
  refine pf (vb (!(F_spec_l1In ((x_p.Cands.getD k z_PCand).Until) 0 1000006))) wN (congrArg not h61) ?_
  refine mv (vb (!(F_spec_l1In ((x_p.Cands.getD k z_PCand).Until) 0 1000006))) wN ?_
  rcases bf (F_spec_l1In ((x_p.Cands.getD k z_PCand).Until) 0 1000006) with h65 | h65
  ·have q149 := spec_l1In_f h65
   refine sk (congrArg not h65) ?_
   refine sk (congrArg not h65) ?_
   refine sk (congrArg not h65) ?_
   refine sk (congrArg not h65) ?_
   refine sk (congrArg not h65) ?_
   refine pk (vb true) wN (congrArg not h65) ?_
   refine wl_nil <| wq_then ?_
   refine ct (Eq.refl true) ?_
   refine sr ?_
   refine ag (vb false) wN ?_
   refine wl_nil <| wq_then <| wc_ret <| wq_then_ret <| wq_blk_ret <| wq_then_ret <| wq_then_ret <| wq_blk_ret <| wq_then_ret ?_
   refine ret_1 (.inl rfl) (vb false) rfl rfl ?_
   refine ⟨m64.keep0, ?_⟩
   have hF150 : sPa x_p = false := by have hz := allN_f (f := sPaG x_p) (n := x_p.Cands.length) (k := k) (by omega) (by simp only [sPaG, h14, h19, h30, h58, h61, h65]; simp); simp only [sPa, h14, h19, h30, h58, h61, h65, hz]; simp
   rw [hF150]
   exact rfl
  have q66 := spec_l1In_t h65
  refine pu (vp g46 0) (wS (congrArg not h65)) ?_
  have b67 := (b60.kp k63)
  refine lN (L_61 ((x_p.Cands.getD k z_PCand).A)) (wS (congrArg not h65)) isAgg_61 sizeOf_61 b67 ?_
  refine pu (vp g6 0) (wS (congrArg not h65)) ?_
  have b68 := ((((b27.kp k49).ch k52 (Nat.ne_of_lt (Nat.lt_of_lt_of_le p8 (Nat.le_trans (Nat.le_trans k12.size k24.size) p47)))).kp k56).kp k63)
  refine lN (L_61 x_p.At) (wS (congrArg not h65)) isAgg_61 sizeOf_61 b68 ?_
  refine wl_aggeq ((decide ((((x_p.Cands.getD k z_PCand).A).Host) = x_p.At.Host) && decide ((((x_p.Cands.getD k z_PCand).A).Port) = x_p.At.Port))) (wS (congrArg not h65)) rfl rfl rfl rfl rfl guardt_61 (aggeq_61 (((x_p.Cands.getD k z_PCand).A).Host) x_p.At.Host (((x_p.Cands.getD k z_PCand).A).Port) x_p.At.Port w7) ?_
  refine pf (vb (decide ((((x_p.Cands.getD k z_PCand).A).Host) = x_p.At.Host) && decide ((((x_p.Cands.getD k z_PCand).A).Port) = x_p.At.Port))) wN (congrArg not h65) ?_
  refine wl_nil <| wq_then ?_
  rcases bt (decide ((((x_p.Cands.getD k z_PCand).A).Host) = x_p.At.Host) && decide ((((x_p.Cands.getD k z_PCand).A).Port) = x_p.At.Port)) with h69 | h69
  ·refine ct h69 ?_
   refine sr ?_
   refine ag (vb false) wN ?_
   refine wl_nil <| wq_then <| wc_ret <| wq_then_ret <| wq_blk_ret <| wq_then_ret <| wq_then_ret <| wq_blk_ret <| wq_then_ret ?_
   refine ret_1 (.inl rfl) (vb false) rfl rfl ?_
   refine ⟨m64.keep0, ?_⟩
   have hF71 : sPa x_p = false := by have hz := allN_f (f := sPaG x_p) (n := x_p.Cands.length) (k := k) (by omega) (by simp only [sPaG, h14, h19, h30, h58, h61, h65, h69]; simp); simp only [sPa, h14, h19, h30, h58, h61, h65, h69, hz]; simp
   rw [hF71]
   exact rfl
  refine cf h69 ?_
  refine wc_skip <| wq_then <| sr ?_
  refine ag (vi 0) wN ?_
  refine wl_nil <| wq_then <| wc_block ?_
  refine wc_norm [(va (L_75 x_p a1 c2)), (vp g6 0), u2x, (vi ((k : Nat) : Int)), (vp g46 0), (vi 0), (vp g6 0), (va (L_61 x_p.At)), (vb (F_spec_AddrOk x_p.At)), (vb (!(F_spec_AddrOk x_p.At))), (vb (!(F_spec_AddrOk x_p.At))), (vp g6 2), (vs a1 x_p.Cands.length c2), (vi (x_p.Cands.length : Int)), (vb (decide (3 < (x_p.Cands.length : Int)))), (vb (decide (3 < (x_p.Cands.length : Int)))), (vi ((k : Nat) : Int)), (vp g6 2), (vs a1 x_p.Cands.length c2), (vi (x_p.Cands.length : Int)), (vb (decide (((k : Nat) : Int) < (x_p.Cands.length : Int)))), u21x, u22x, (vp g6 2), (vs a1 x_p.Cands.length c2), (vi ((k : Nat) : Int)), (ve (vs a1 x_p.Cands.length c2) ((((k : Nat) : Int)).toNat * 4)), (va [(vi (((x_p.Cands.getD k z_PCand).A).Host)), (vi (((x_p.Cands.getD k z_PCand).A).Port)), (vs a39 (x_p.Cands.getD k z_PCand).Draw.length c40), (vi ((x_p.Cands.getD k z_PCand).Until))]), (vp g46 0), (va (L_61 ((x_p.Cands.getD k z_PCand).A))), (vb (F_spec_AddrOk ((x_p.Cands.getD k z_PCand).A))), (vb (!(F_spec_AddrOk ((x_p.Cands.getD k z_PCand).A)))), (vb (!(F_spec_AddrOk ((x_p.Cands.getD k z_PCand).A)))), (vp g46 2), (vs a39 (x_p.Cands.getD k z_PCand).Draw.length c40), (vi ((x_p.Cands.getD k z_PCand).Draw.length : Int)), (vb (!(decide (((x_p.Cands.getD k z_PCand).Draw.length : Int) = 12)))), (vb (!(decide (((x_p.Cands.getD k z_PCand).Draw.length : Int) = 12)))), (vb (!(decide (((x_p.Cands.getD k z_PCand).Draw.length : Int) = 12)))), (vp g46 3), (vi ((x_p.Cands.getD k z_PCand).Until)), (vb (F_spec_l1In ((x_p.Cands.getD k z_PCand).Until) 0 1000006)), (vb (!(F_spec_l1In ((x_p.Cands.getD k z_PCand).Until) 0 1000006))), (vb (!(F_spec_l1In ((x_p.Cands.getD k z_PCand).Until) 0 1000006))), (vb (!(F_spec_l1In ((x_p.Cands.getD k z_PCand).Until) 0 1000006))), (vp g46 0), (va (L_61 ((x_p.Cands.getD k z_PCand).A))), (vp g6 0), (va (L_61 x_p.At)), (vb (decide ((((x_p.Cands.getD k z_PCand).A).Host) = x_p.At.Host) && decide ((((x_p.Cands.getD k z_PCand).A).Port) = x_p.At.Port))), (vb (decide ((((x_p.Cands.getD k z_PCand).A).Host) = x_p.At.Host) && decide ((((x_p.Cands.getD k z_PCand).A).Port) = x_p.At.Port))), u51x, u52x, u53x, u54x, u55x, u56x, u57x, u58x, u59x, u60x, u61x, u62x, u63x, u64x] rfl ⟨rfl, rfl, rfl, rfl, rfl, rfl, rfl, rfl, rfl, rfl, rfl, rfl, rfl, rfl, rfl, rfl, rfl, rfl, rfl, rfl, rfl, rfl, rfl, rfl, rfl, rfl, rfl, rfl, rfl, rfl, rfl, rfl, rfl, rfl, rfl, rfl, rfl, rfl, rfl, rfl, rfl, rfl, rfl, rfl, rfl, rfl, rfl, rfl, rfl, rfl, rfl, rfl, rfl, rfl, rfl, rfl, rfl, rfl, rfl, rfl, rfl, rfl, rfl, rfl, rfl, trivial⟩ ?_
  refine wc_loop (fun e' w' => ∃ (j : Nat) (u2x u51x u52x u53x u54x u55x u56x u57x u58x u59x u60x u61x u62x u63x u64x : Value), e' = lst [(va (L_75 x_p a1 c2)), (vp g6 0), u2x, (vi ((k : Nat) : Int)), (vp g46 0), (vi ((j : Nat) : Int)), (vp g6 0), (va (L_61 x_p.At)), (vb (F_spec_AddrOk x_p.At)), (vb (!(F_spec_AddrOk x_p.At))), (vb (!(F_spec_AddrOk x_p.At))), (vp g6 2), (vs a1 x_p.Cands.length c2), (vi (x_p.Cands.length : Int)), (vb (decide (3 < (x_p.Cands.length : Int)))), (vb (decide (3 < (x_p.Cands.length : Int)))), (vi ((k : Nat) : Int)), (vp g6 2), (vs a1 x_p.Cands.length c2), (vi (x_p.Cands.length : Int)), (vb (decide (((k : Nat) : Int) < (x_p.Cands.length : Int)))), u21x, u22x, (vp g6 2), (vs a1 x_p.Cands.length c2), (vi ((k : Nat) : Int)), (ve (vs a1 x_p.Cands.length c2) ((((k : Nat) : Int)).toNat * 4)), (va [(vi (((x_p.Cands.getD k z_PCand).A).Host)), (vi (((x_p.Cands.getD k z_PCand).A).Port)), (vs a39 (x_p.Cands.getD k z_PCand).Draw.length c40), (vi ((x_p.Cands.getD k z_PCand).Until))]), (vp g46 0), (va (L_61 ((x_p.Cands.getD k z_PCand).A))), (vb (F_spec_AddrOk ((x_p.Cands.getD k z_PCand).A))), (vb (!(F_spec_AddrOk ((x_p.Cands.getD k z_PCand).A)))), (vb (!(F_spec_AddrOk ((x_p.Cands.getD k z_PCand).A)))), (vp g46 2), (vs a39 (x_p.Cands.getD k z_PCand).Draw.length c40), (vi ((x_p.Cands.getD k z_PCand).Draw.length : Int)), (vb (!(decide (((x_p.Cands.getD k z_PCand).Draw.length : Int) = 12)))), (vb (!(decide (((x_p.Cands.getD k z_PCand).Draw.length : Int) = 12)))), (vb (!(decide (((x_p.Cands.getD k z_PCand).Draw.length : Int) = 12)))), (vp g46 3), (vi ((x_p.Cands.getD k z_PCand).Until)), (vb (F_spec_l1In ((x_p.Cands.getD k z_PCand).Until) 0 1000006)), (vb (!(F_spec_l1In ((x_p.Cands.getD k z_PCand).Until) 0 1000006))), (vb (!(F_spec_l1In ((x_p.Cands.getD k z_PCand).Until) 0 1000006))), (vb (!(F_spec_l1In ((x_p.Cands.getD k z_PCand).Until) 0 1000006))), (vp g46 0), (va (L_61 ((x_p.Cands.getD k z_PCand).A))), (vp g6 0), (va (L_61 x_p.At)), (vb (decide ((((x_p.Cands.getD k z_PCand).A).Host) = x_p.At.Host) && decide ((((x_p.Cands.getD k z_PCand).A).Port) = x_p.At.Port))), (vb (decide ((((x_p.Cands.getD k z_PCand).A).Host) = x_p.At.Host) && decide ((((x_p.Cands.getD k z_PCand).A).Port) = x_p.At.Port))), u51x, u52x, u53x, u54x, u55x, u56x, u57x, u58x, u59x, u60x, u61x, u62x, u63x, u64x] ∧ Ch (fun k => w0.heap.size ≤ k) w0 w' ∧ Ch (fun k => w7.heap.size ≤ k) w7 w' ∧ j ≤ k ∧ ∀ m, m < j → sPaJ x_p k m = true) (fun e' _ => k - ((intOf (e' 5))).toNat) ?_ ?_
  ·exact ⟨0, u2x, u51x, u52x, u53x, u54x, u55x, u56x, u57x, u58x, u59x, u60x, u61x, u62x, u63x, u64x, (congrArg (fun (x5z : Value) => lst [(va (L_75 x_p a1 c2)), (vp g6 0), u2x, (vi ((k : Nat) : Int)), (vp g46 0), x5z, (vp g6 0), (va (L_61 x_p.At)), (vb (F_spec_AddrOk x_p.At)), (vb (!(F_spec_AddrOk x_p.At))), (vb (!(F_spec_AddrOk x_p.At))), (vp g6 2), (vs a1 x_p.Cands.length c2), (vi (x_p.Cands.length : Int)), (vb (decide (3 < (x_p.Cands.length : Int)))), (vb (decide (3 < (x_p.Cands.length : Int)))), (vi ((k : Nat) : Int)), (vp g6 2), (vs a1 x_p.Cands.length c2), (vi (x_p.Cands.length : Int)), (vb (decide (((k : Nat) : Int) < (x_p.Cands.length : Int)))), u21x, u22x, (vp g6 2), (vs a1 x_p.Cands.length c2), (vi ((k : Nat) : Int)), (ve (vs a1 x_p.Cands.length c2) ((((k : Nat) : Int)).toNat * 4)), (va [(vi (((x_p.Cands.getD k z_PCand).A).Host)), (vi (((x_p.Cands.getD k z_PCand).A).Port)), (vs a39 (x_p.Cands.getD k z_PCand).Draw.length c40), (vi ((x_p.Cands.getD k z_PCand).Until))]), (vp g46 0), (va (L_61 ((x_p.Cands.getD k z_PCand).A))), (vb (F_spec_AddrOk ((x_p.Cands.getD k z_PCand).A))), (vb (!(F_spec_AddrOk ((x_p.Cands.getD k z_PCand).A)))), (vb (!(F_spec_AddrOk ((x_p.Cands.getD k z_PCand).A)))), (vp g46 2), (vs a39 (x_p.Cands.getD k z_PCand).Draw.length c40), (vi ((x_p.Cands.getD k z_PCand).Draw.length : Int)), (vb (!(decide (((x_p.Cands.getD k z_PCand).Draw.length : Int) = 12)))), (vb (!(decide (((x_p.Cands.getD k z_PCand).Draw.length : Int) = 12)))), (vb (!(decide (((x_p.Cands.getD k z_PCand).Draw.length : Int) = 12)))), (vp g46 3), (vi ((x_p.Cands.getD k z_PCand).Until)), (vb (F_spec_l1In ((x_p.Cands.getD k z_PCand).Until) 0 1000006)), (vb (!(F_spec_l1In ((x_p.Cands.getD k z_PCand).Until) 0 1000006))), (vb (!(F_spec_l1In ((x_p.Cands.getD k z_PCand).Until) 0 1000006))), (vb (!(F_spec_l1In ((x_p.Cands.getD k z_PCand).Until) 0 1000006))), (vp g46 0), (va (L_61 ((x_p.Cands.getD k z_PCand).A))), (vp g6 0), (va (L_61 x_p.At)), (vb (decide ((((x_p.Cands.getD k z_PCand).A).Host) = x_p.At.Host) && decide ((((x_p.Cands.getD k z_PCand).A).Port) = x_p.At.Port))), (vb (decide ((((x_p.Cands.getD k z_PCand).A).Host) = x_p.At.Host) && decide ((((x_p.Cands.getD k z_PCand).A).Port) = x_p.At.Port))), u51x, u52x, u53x, u54x, u55x, u56x, u57x, u58x, u59x, u60x, u61x, u62x, u63x, u64x]) (congrArg (Value.int .i64) (show (0 : Int) = ((0 : Nat) : Int) by omega))), m64, (Ch.refl (fun k => w7.heap.size ≤ k) w7), (by omega), (by first | (intro m hm; omega) | exact allN_next (by assumption) (by simp only [sPaJ, h14, h19, h30, h58, h61, h65, h69]; simp))⟩
  ·rintro _ w8 ⟨j, u2x, u51x, u52x, u53x, u54x, u55x, u56x, u57x, u58x, u59x, u60x, u61x, u62x, u63x, u64x, rfl, m73, k74, i75, i76⟩
   refine wc_seq <| sr ?_
   refine mv (vi ((j : Nat) : Int)) wN ?_
   refine mv (vi ((k : Nat) : Int)) wN ?_
   refine pu (vb (decide (((j : Nat) : Int) < ((k : Nat) : Int)))) wN ?_
   refine wl_nil <| wq_then ?_
   rcases bf (decide (((j : Nat) : Int) < ((k : Nat) : Int))) with h77 | h77
   ·have q148 := of_decide_eq_false h77
    refine cf h77 ?_
    refine wc_exit <| wq_then_exit <| wq_then_exit <| wq_blk_exit <| wq_blk_normal <| wq_then <| wc_region ?_
    refine mv (vi ((k : Nat) : Int)) wN ?_
    refine ar (((k : Nat) : Int) + 1) wN ?_
    refine ag (vi (((k : Nat) : Int) + 1)) wN ?_
    refine wl_nil ?_
    refine wq_loopN (w0 := w3) [(va (L_75 x_p a1 c2)), (vp g6 0), u2x, (vi (((k + 1) : Nat) : Int)), (vp g46 0), (vi ((j : Nat) : Int)), (vp g6 0), (va (L_61 x_p.At)), (vb (F_spec_AddrOk x_p.At)), (vb (!(F_spec_AddrOk x_p.At))), (vb (!(F_spec_AddrOk x_p.At))), (vp g6 2), (vs a1 x_p.Cands.length c2), (vi (x_p.Cands.length : Int)), (vb (decide (3 < (x_p.Cands.length : Int)))), (vb (decide (3 < (x_p.Cands.length : Int)))), (vi ((k : Nat) : Int)), (vp g6 2), (vs a1 x_p.Cands.length c2), (vi (x_p.Cands.length : Int)), (vb (decide (((k : Nat) : Int) < (x_p.Cands.length : Int)))), (vi ((k : Nat) : Int)), (vi (((k : Nat) : Int) + 1)), (vp g6 2), (vs a1 x_p.Cands.length c2), (vi ((k : Nat) : Int)), (ve (vs a1 x_p.Cands.length c2) ((((k : Nat) : Int)).toNat * 4)), (va [(vi (((x_p.Cands.getD k z_PCand).A).Host)), (vi (((x_p.Cands.getD k z_PCand).A).Port)), (vs a39 (x_p.Cands.getD k z_PCand).Draw.length c40), (vi ((x_p.Cands.getD k z_PCand).Until))]), (vp g46 0), (va (L_61 ((x_p.Cands.getD k z_PCand).A))), (vb (F_spec_AddrOk ((x_p.Cands.getD k z_PCand).A))), (vb (!(F_spec_AddrOk ((x_p.Cands.getD k z_PCand).A)))), (vb (!(F_spec_AddrOk ((x_p.Cands.getD k z_PCand).A)))), (vp g46 2), (vs a39 (x_p.Cands.getD k z_PCand).Draw.length c40), (vi ((x_p.Cands.getD k z_PCand).Draw.length : Int)), (vb (!(decide (((x_p.Cands.getD k z_PCand).Draw.length : Int) = 12)))), (vb (!(decide (((x_p.Cands.getD k z_PCand).Draw.length : Int) = 12)))), (vb (!(decide (((x_p.Cands.getD k z_PCand).Draw.length : Int) = 12)))), (vp g46 3), (vi ((x_p.Cands.getD k z_PCand).Until)), (vb (F_spec_l1In ((x_p.Cands.getD k z_PCand).Until) 0 1000006)), (vb (!(F_spec_l1In ((x_p.Cands.getD k z_PCand).Until) 0 1000006))), (vb (!(F_spec_l1In ((x_p.Cands.getD k z_PCand).Until) 0 1000006))), (vb (!(F_spec_l1In ((x_p.Cands.getD k z_PCand).Until) 0 1000006))), (vp g46 0), (va (L_61 ((x_p.Cands.getD k z_PCand).A))), (vp g6 0), (va (L_61 x_p.At)), (vb (decide ((((x_p.Cands.getD k z_PCand).A).Host) = x_p.At.Host) && decide ((((x_p.Cands.getD k z_PCand).A).Port) = x_p.At.Port))), (vb (decide ((((x_p.Cands.getD k z_PCand).A).Host) = x_p.At.Host) && decide ((((x_p.Cands.getD k z_PCand).A).Port) = x_p.At.Port))), (vi ((j : Nat) : Int)), (vi ((k : Nat) : Int)), (vb (decide (((j : Nat) : Int) < ((k : Nat) : Int)))), u54x, u55x, u56x, u57x, u58x, u59x, u60x, u61x, u62x, u63x, u64x] rfl ?_ ?_ ?_
    · exact ⟨rfl, rfl, rfl, (congrArg (Value.int .i64) (show ((((k : Nat) : Int) + 1) : Int) = (((k + 1) : Nat) : Int) by omega)), rfl, rfl, rfl, rfl, rfl, rfl, rfl, rfl, rfl, rfl, rfl, rfl, rfl, rfl, rfl, rfl, rfl, rfl, rfl, rfl, rfl, rfl, rfl, rfl, rfl, rfl, rfl, rfl, rfl, rfl, rfl, rfl, rfl, rfl, rfl, rfl, rfl, rfl, rfl, rfl, rfl, rfl, rfl, rfl, rfl, rfl, rfl, rfl, rfl, rfl, rfl, rfl, rfl, rfl, rfl, rfl, rfl, rfl, rfl, rfl, rfl, trivial⟩
    · exact ⟨(k + 1), u2x, (vp g46 0), (vi ((j : Nat) : Int)), (vi ((k : Nat) : Int)), (vp g6 2), (vs a1 x_p.Cands.length c2), (vi (x_p.Cands.length : Int)), (vb (decide (((k : Nat) : Int) < (x_p.Cands.length : Int)))), (vi ((k : Nat) : Int)), (vi (((k : Nat) : Int) + 1)), (vp g6 2), (vs a1 x_p.Cands.length c2), (vi ((k : Nat) : Int)), (ve (vs a1 x_p.Cands.length c2) ((((k : Nat) : Int)).toNat * 4)), (va [(vi (((x_p.Cands.getD k z_PCand).A).Host)), (vi (((x_p.Cands.getD k z_PCand).A).Port)), (vs a39 (x_p.Cands.getD k z_PCand).Draw.length c40), (vi ((x_p.Cands.getD k z_PCand).Until))]), (vp g46 0), (va (L_61 ((x_p.Cands.getD k z_PCand).A))), (vb (F_spec_AddrOk ((x_p.Cands.getD k z_PCand).A))), (vb (!(F_spec_AddrOk ((x_p.Cands.getD k z_PCand).A)))), (vb (!(F_spec_AddrOk ((x_p.Cands.getD k z_PCand).A)))), (vp g46 2), (vs a39 (x_p.Cands.getD k z_PCand).Draw.length c40), (vi ((x_p.Cands.getD k z_PCand).Draw.length : Int)), (vb (!(decide (((x_p.Cands.getD k z_PCand).Draw.length : Int) = 12)))), (vb (!(decide (((x_p.Cands.getD k z_PCand).Draw.length : Int) = 12)))), (vb (!(decide (((x_p.Cands.getD k z_PCand).Draw.length : Int) = 12)))), (vp g46 3), (vi ((x_p.Cands.getD k z_PCand).Until)), (vb (F_spec_l1In ((x_p.Cands.getD k z_PCand).Until) 0 1000006)), (vb (!(F_spec_l1In ((x_p.Cands.getD k z_PCand).Until) 0 1000006))), (vb (!(F_spec_l1In ((x_p.Cands.getD k z_PCand).Until) 0 1000006))), (vb (!(F_spec_l1In ((x_p.Cands.getD k z_PCand).Until) 0 1000006))), (vp g46 0), (va (L_61 ((x_p.Cands.getD k z_PCand).A))), (vp g6 0), (va (L_61 x_p.At)), (vb (decide ((((x_p.Cands.getD k z_PCand).A).Host) = x_p.At.Host) && decide ((((x_p.Cands.getD k z_PCand).A).Port) = x_p.At.Port))), (vb (decide ((((x_p.Cands.getD k z_PCand).A).Host) = x_p.At.Host) && decide ((((x_p.Cands.getD k z_PCand).A).Port) = x_p.At.Port))), (vi ((j : Nat) : Int)), (vi ((k : Nat) : Int)), (vb (decide (((j : Nat) : Int) < ((k : Nat) : Int)))), u54x, u55x, u56x, u57x, u58x, u59x, u60x, u61x, u62x, u63x, u64x, rfl, m73, (((((((Ch.refl (fun k => w2.heap.size ≤ k) w2).ext k24 (fun k hk => Nat.le_trans (Nat.le_refl _) hk)).extk k49).ext k52 (fun k hk => by subst hk; exact Nat.le_trans k24.size p47)).extk k56).extk k63).ext k74 (fun k hk => Nat.le_trans (Nat.le_trans (Nat.le_trans (Nat.le_trans (Nat.le_trans k24.size k49.size) k52.size) k56.size) k63.size) hk)), (by omega), (by first | (intro j hj; omega) | (have hy := allN_t (f := sPaJ x_p k) (n := k) (k := j) (by assumption) (by omega); exact allN_next (by assumption) (by simp only [sPaG, hy, h14, h19, h30, h58, h61, h65, h69, h77]; simp)))⟩
    · show x_p.Cands.length - ((((k + 1) : Nat) : Int)).toNat < x_p.Cands.length - (((k : Nat) : Int)).toNat; omega
   have q78 := of_decide_eq_true h77
   refine ct h77 ?_
   refine wc_skip <| wq_then <| wc_seq <| wc_block <| wc_seq ?_
   obtain ⟨y95, l96, r97, e98, u99⟩ := RLv.el z_PCand (i := j) r3 (by first | omega | (simp only [List.length_cons, List.length_nil, List.length_replicate, List.length_append, List.length_take, List.length_set, List.length_map]; omega))
   obtain ⟨a100, c101, l105, rfl, r102, s103, u106⟩ := SubR.c u99
   obtain rfl := SubR.n u106
   refine wc_drawT ([(56, [], [], (fun _ v _ => v = (vp g6 2))), (57, [], [0], (fun _ v _ => v = (vs a1 x_p.Cands.length c2))), (58, [], [], (fun _ v _ => v = (vi ((j : Nat) : Int)))), (59, [], [0, 1, 2], (fun _ v _ => v = (ve (vs a1 x_p.Cands.length c2) ((((j : Nat) : Int)).toNat * 4)))), (60, [], [0, 1, 2, 3], (fun _ v _ => v = (ve (vs a1 x_p.Cands.length c2) ((((j : Nat) : Int)).toNat * 4 + 0)))), (61, [], [0, 1, 2, 3, 4], (fun _ v _ => v = (.agg #[(vi (((x_p.Cands.getD j z_PCand).A).Host)), (vi (((x_p.Cands.getD j z_PCand).A).Port))]))), (62, [], [], (fun _ v _ => v = (vp g46 0))), (63, [], [6], (fun _ v _ => v = (.agg #[(vi (((x_p.Cands.getD k z_PCand).A).Host)), (vi (((x_p.Cands.getD k z_PCand).A).Port))])))] : GV) (fun _ w' => Keep w8 w') [] mixed rfl (by kernel_rfl) (by kernel_rfl) ?_ (fun _ _ h => h) (fun _ _ _ _ h _ k => h.trans k) trivial ?_ ?_ ?_
   ·exact ⟨(fun _ _ _ _ h _ => h), (fun _ _ _ _ _ h => h), ⟨(fun _ _ _ _ h _ => h), (fun _ _ _ _ _ h => h), ⟨(fun _ _ _ _ h _ => h), (fun _ _ _ _ _ h => h), ⟨(fun _ _ _ _ h _ => h), (fun _ _ _ _ _ h => h), ⟨(fun _ _ _ _ h _ => h), (fun _ _ _ _ _ h => h), ⟨(fun _ _ _ _ h _ => h), (fun _ _ _ _ _ h => h), ⟨(fun _ _ _ _ h _ => h), (fun _ _ _ _ _ h => h), ⟨(fun _ _ _ _ h _ => h), (fun _ _ _ _ _ h => h), trivial⟩⟩⟩⟩⟩⟩⟩⟩
   ·exact trivial
   ·refine ⟨?_, ⟨?_, ⟨?_, ⟨?_, ⟨?_, ⟨?_, ⟨?_, ⟨?_, trivial⟩⟩⟩⟩⟩⟩⟩⟩
    ·intro _ w9 k111 _
     have m112 := m73.extk k111
     rintro _ _ _ _ _ _ _ _
     show WL _ _ _ _ _ _ _
     refine pu (vp g6 2) wN ?_
     exact wl_finT (Ch.refl _ _) rfl
    ·intro _ w9 k113 _
     have m114 := m73.extk k113
     rintro _ rfl _ _ _ _ _ _ _
     show WL _ _ _ _ _ _ _
     have b115 := ((b68.ch k74 (Nat.not_le.2 (Nat.lt_of_lt_of_le p8 (Nat.le_trans (Nat.le_trans (Nat.le_trans (Nat.le_trans (Nat.le_trans k12.size k24.size) k49.size) k52.size) k56.size) k63.size)))).kp k113)
     refine ld (vs a1 x_p.Cands.length c2) wN isAgg_73 b115 ?_
     exact wl_finT (Ch.refl _ _) rfl
    ·intro _ w9 k116 _
     have m117 := m73.extk k116
     rintro _ _ _ _ _ _ _ _
     show WL _ _ _ _ _ _ _
     refine mv (vi ((j : Nat) : Int)) wN ?_
     exact wl_finT (Ch.refl _ _) rfl
    ·intro _ w9 k118 _
     have m119 := m73.extk k118
     rintro _ rfl _ rfl _ rfl _ _ _ _ _
     show WL _ _ _ _ _ _ _
     obtain ⟨y121, r122⟩ := RLv.row (r3.from0 m119)
     refine wl_index wN ((j : Nat) : Int) rfl rfl rfl slTy_73 rfl rfl r122 (by first | omega | (simp only [List.length_cons, List.length_nil, List.length_replicate, List.length_append, List.length_take, List.length_set, List.length_map]; omega)) (by first | omega | (simp only [List.length_cons, List.length_nil, List.length_replicate, List.length_append, List.length_take, List.length_set, List.length_map]; omega)) ?_
     exact wl_finT (Ch.refl _ _) rfl
    ·intro _ w9 k123 _
     have m124 := m73.extk k123
     rintro _ rfl _ rfl _ rfl _ rfl _ _ _ _
     show WL _ _ _ _ _ _ _
     refine wl_fieldE wN rfl rfl rfl fieldAt_109_0 rfl (r97.from0 m124) (by omega) ?_
     exact wl_finT (Ch.refl _ _) rfl
    ·intro _ w9 k128 _
     have m129 := m73.extk k128
     rintro _ rfl _ rfl _ rfl _ rfl _ rfl _ _ _
     show WL _ _ _ _ _ _ _
     refine wl_loadEN (L_61 ((x_p.Cands.getD j z_PCand).A)) wN rfl rfl rfl rfl isAgg_61 sizeOf_61 (r97.from0 m129) (by first | omega | (simp only [List.length_cons, List.length_nil, List.length_replicate, List.length_append, List.length_take, List.length_set, List.length_map]; omega)) ((part_of (off := 0) (n := 2) e98 (by first | rfl | simp | omega) (by decide)).trans rfl) ?_
     exact wl_finT (Ch.refl _ _) rfl
    ·intro _ w9 k133 _
     have m134 := m73.extk k133
     rintro _ _ _ _ _ _ _ _
     show WL _ _ _ _ _ _ _
     refine pu (vp g46 0) wN ?_
     exact wl_finT (Ch.refl _ _) rfl
    ·intro _ w9 k135 _
     have m136 := m73.extk k135
     rintro _ _ _ _ _ _ _ rfl _
     show WL _ _ _ _ _ _ _
     have b137 := ((b67.ch k74 (Nat.not_le.2 (Nat.lt_of_lt_of_le p48 (Nat.le_trans (Nat.le_trans k52.size k56.size) k63.size)))).kp k135)
     refine lN (L_61 ((x_p.Cands.getD k z_PCand).A)) wN isAgg_61 sizeOf_61 b137 ?_
     exact wl_finT (Ch.refl _ _) rfl
   ·intro _ w9 k138
    have m139 := m73.extk k138
    rintro _ rfl _ rfl _ rfl _ rfl _ rfl _ rfl _ rfl _ rfl
    show WL _ _ _ _ _ _ _
    refine wl_aggeq ((decide ((((x_p.Cands.getD j z_PCand).A).Host) = (((x_p.Cands.getD k z_PCand).A).Host)) && decide ((((x_p.Cands.getD j z_PCand).A).Port) = (((x_p.Cands.getD k z_PCand).A).Port)))) wN rfl rfl rfl rfl rfl guardt_61 (aggeq_61 (((x_p.Cands.getD j z_PCand).A).Host) (((x_p.Cands.getD k z_PCand).A).Host) (((x_p.Cands.getD j z_PCand).A).Port) (((x_p.Cands.getD k z_PCand).A).Port) w9) ?_
    refine wl_nil <| wq_then ?_
    rcases bt (decide ((((x_p.Cands.getD j z_PCand).A).Host) = (((x_p.Cands.getD k z_PCand).A).Host)) && decide ((((x_p.Cands.getD j z_PCand).A).Port) = (((x_p.Cands.getD k z_PCand).A).Port))) with h144 | h144
    ·refine ct h144 ?_
     refine sr ?_
     refine ag (vb false) wN ?_
     refine wl_nil <| wq_then <| wc_ret <| wq_blk_ret <| wq_then_ret <| wq_then_ret <| wq_blk_ret <| wq_blk_ret <| wq_then_ret <| wq_then_ret <| wq_blk_ret <| wq_then_ret ?_
     refine ret_1 (.inl rfl) (vb false) rfl rfl ?_
     refine ⟨m139.keep0, ?_⟩
     have hF146 : sPa x_p = false := by have hy := allN_f (f := sPaJ x_p k) (n := k) (k := j) (by omega) (by simp only [sPaJ, h14, h19, h30, h58, h61, h65, h69, h77, h144]; simp); have hz := allN_f (f := sPaG x_p) (n := x_p.Cands.length) (k := k) (by omega) (by simp only [sPaG, hy, h14, h19, h30, h58, h61, h65, h69, h77, h144]; simp); simp only [sPa, h14, h19, h30, h58, h61, h65, h69, h77, h144, hz]; simp
     rw [hF146]
     exact rfl
    refine cf h144 ?_
    refine wc_skip <| wq_blk_normal <| wq_then <| wc_region ?_
    refine mv (vi ((j : Nat) : Int)) wN ?_
    refine ar (((j : Nat) : Int) + 1) wN ?_
    refine ag (vi (((j : Nat) : Int) + 1)) wN ?_
    refine wl_nil ?_
    refine wq_loopN (w0 := w8) [(va (L_75 x_p a1 c2)), (vp g6 0), u2x, (vi ((k : Nat) : Int)), (vp g46 0), (vi (((j + 1) : Nat) : Int)), (vp g6 0), (va (L_61 x_p.At)), (vb (F_spec_AddrOk x_p.At)), (vb (!(F_spec_AddrOk x_p.At))), (vb (!(F_spec_AddrOk x_p.At))), (vp g6 2), (vs a1 x_p.Cands.length c2), (vi (x_p.Cands.length : Int)), (vb (decide (3 < (x_p.Cands.length : Int)))), (vb (decide (3 < (x_p.Cands.length : Int)))), (vi ((k : Nat) : Int)), (vp g6 2), (vs a1 x_p.Cands.length c2), (vi (x_p.Cands.length : Int)), (vb (decide (((k : Nat) : Int) < (x_p.Cands.length : Int)))), u21x, u22x, (vp g6 2), (vs a1 x_p.Cands.length c2), (vi ((k : Nat) : Int)), (ve (vs a1 x_p.Cands.length c2) ((((k : Nat) : Int)).toNat * 4)), (va [(vi (((x_p.Cands.getD k z_PCand).A).Host)), (vi (((x_p.Cands.getD k z_PCand).A).Port)), (vs a39 (x_p.Cands.getD k z_PCand).Draw.length c40), (vi ((x_p.Cands.getD k z_PCand).Until))]), (vp g46 0), (va (L_61 ((x_p.Cands.getD k z_PCand).A))), (vb (F_spec_AddrOk ((x_p.Cands.getD k z_PCand).A))), (vb (!(F_spec_AddrOk ((x_p.Cands.getD k z_PCand).A)))), (vb (!(F_spec_AddrOk ((x_p.Cands.getD k z_PCand).A)))), (vp g46 2), (vs a39 (x_p.Cands.getD k z_PCand).Draw.length c40), (vi ((x_p.Cands.getD k z_PCand).Draw.length : Int)), (vb (!(decide (((x_p.Cands.getD k z_PCand).Draw.length : Int) = 12)))), (vb (!(decide (((x_p.Cands.getD k z_PCand).Draw.length : Int) = 12)))), (vb (!(decide (((x_p.Cands.getD k z_PCand).Draw.length : Int) = 12)))), (vp g46 3), (vi ((x_p.Cands.getD k z_PCand).Until)), (vb (F_spec_l1In ((x_p.Cands.getD k z_PCand).Until) 0 1000006)), (vb (!(F_spec_l1In ((x_p.Cands.getD k z_PCand).Until) 0 1000006))), (vb (!(F_spec_l1In ((x_p.Cands.getD k z_PCand).Until) 0 1000006))), (vb (!(F_spec_l1In ((x_p.Cands.getD k z_PCand).Until) 0 1000006))), (vp g46 0), (va (L_61 ((x_p.Cands.getD k z_PCand).A))), (vp g6 0), (va (L_61 x_p.At)), (vb (decide ((((x_p.Cands.getD k z_PCand).A).Host) = x_p.At.Host) && decide ((((x_p.Cands.getD k z_PCand).A).Port) = x_p.At.Port))), (vb (decide ((((x_p.Cands.getD k z_PCand).A).Host) = x_p.At.Host) && decide ((((x_p.Cands.getD k z_PCand).A).Port) = x_p.At.Port))), (vi ((j : Nat) : Int)), (vi ((k : Nat) : Int)), (vb (decide (((j : Nat) : Int) < ((k : Nat) : Int)))), (vi ((j : Nat) : Int)), (vi (((j : Nat) : Int) + 1)), (vp g6 2), (vs a1 x_p.Cands.length c2), (vi ((j : Nat) : Int)), (ve (vs a1 x_p.Cands.length c2) ((((j : Nat) : Int)).toNat * 4)), (ve (vs a1 x_p.Cands.length c2) ((((j : Nat) : Int)).toNat * 4 + 0)), (va (L_61 ((x_p.Cands.getD j z_PCand).A))), (vp g46 0), (va (L_61 ((x_p.Cands.getD k z_PCand).A))), (vb (decide ((((x_p.Cands.getD j z_PCand).A).Host) = (((x_p.Cands.getD k z_PCand).A).Host)) && decide ((((x_p.Cands.getD j z_PCand).A).Port) = (((x_p.Cands.getD k z_PCand).A).Port))))] rfl ?_ ?_ ?_
    · exact ⟨rfl, rfl, rfl, rfl, rfl, (congrArg (Value.int .i64) (show ((((j : Nat) : Int) + 1) : Int) = (((j + 1) : Nat) : Int) by omega)), rfl, rfl, rfl, rfl, rfl, rfl, rfl, rfl, rfl, rfl, rfl, rfl, rfl, rfl, rfl, rfl, rfl, rfl, rfl, rfl, rfl, rfl, rfl, rfl, rfl, rfl, rfl, rfl, rfl, rfl, rfl, rfl, rfl, rfl, rfl, rfl, rfl, rfl, rfl, rfl, rfl, rfl, rfl, rfl, rfl, rfl, rfl, rfl, rfl, rfl, rfl, rfl, rfl, rfl, rfl, rfl, rfl, rfl, rfl, trivial⟩
    · exact ⟨(j + 1), u2x, (vi ((j : Nat) : Int)), (vi ((k : Nat) : Int)), (vb (decide (((j : Nat) : Int) < ((k : Nat) : Int)))), (vi ((j : Nat) : Int)), (vi (((j : Nat) : Int) + 1)), (vp g6 2), (vs a1 x_p.Cands.length c2), (vi ((j : Nat) : Int)), (ve (vs a1 x_p.Cands.length c2) ((((j : Nat) : Int)).toNat * 4)), (ve (vs a1 x_p.Cands.length c2) ((((j : Nat) : Int)).toNat * 4 + 0)), (va (L_61 ((x_p.Cands.getD j z_PCand).A))), (vp g46 0), (va (L_61 ((x_p.Cands.getD k z_PCand).A))), (vb (decide ((((x_p.Cands.getD j z_PCand).A).Host) = (((x_p.Cands.getD k z_PCand).A).Host)) && decide ((((x_p.Cands.getD j z_PCand).A).Port) = (((x_p.Cands.getD k z_PCand).A).Port)))), rfl, m139, (((Ch.refl (fun k => w7.heap.size ≤ k) w7).ext k74 (fun k hk => Nat.le_trans (Nat.le_refl _) hk)).extk k138), (by omega), (by first | (intro m hm; omega) | exact allN_next (by assumption) (by simp only [sPaJ, h14, h19, h30, h58, h61, h65, h69, h77, h144]; simp))⟩
    · show k - ((((j + 1) : Nat) : Int)).toNat < k - (((j : Nat) : Int)).toNat; omega

def F_impl_within (x_n : Int) (x_low : Int) (x_high : Int) : (Bool) := bif (decide (x_low ≤ x_n)) then (decide (x_n ≤ x_high)) else (false)
theorem C_impl_within (w0 : World) (x_n : Int) (x_low : Int) (x_high : Int)  : Fn Try.prog 83 #[(vi x_n), (vi x_low), (vi x_high)] w0 (fun v w' => Keep w0 w' ∧ O_4 w' w0.heap.size v (F_impl_within x_n x_low x_high)) := by
 refine fn_of (n := 15) (l := [(vi x_n), (vi x_low), (vi x_high), U, U, U, U, U, U, U, U, U, U, U, U]) Try.func83 rfl rfl (by kernel_rfl) rfl ?_
 refine sr ?_
 refine ag (vb false) wN ?_
 refine nx ?_
 refine mv (vi x_n) wN ?_
 refine mv (vi x_low) wN ?_
 refine pu (vb (decide (x_low ≤ x_n))) wN ?_
 refine mv (vb (decide (x_low ≤ x_n))) wN ?_
 rcases bf (decide (x_low ≤ x_n)) with h1 | h1
 ·have q4 := of_decide_eq_false h1
  refine sk h1 ?_
  refine sk h1 ?_
  refine sk h1 ?_
  refine pf (vb false) wN h1 ?_
  refine ag (vb false) wN ?_
  refine wl_nil <| wq_then <| wc_ret ?_
  refine ret_1 (.inl rfl) (vb false) rfl rfl ?_
  refine ⟨Ch.refl _ _, ?_⟩
  have hF5 : F_impl_within x_n x_low x_high = false := by simp only [F_impl_within, h1, cond_true, cond_false]
  rw [hF5]
  exact rfl
 have q2 := of_decide_eq_true h1
 refine mv (vi x_n) (wS h1) ?_
 refine mv (vi x_high) (wS h1) ?_
 refine pu (vb (decide (x_n ≤ x_high))) (wS h1) ?_
 refine pk (vb (decide (x_n ≤ x_high))) wN h1 ?_
 refine ag (vb (decide (x_n ≤ x_high))) wN ?_
 refine wl_nil <| wq_then <| wc_ret ?_
 refine ret_1 (.inl rfl) (vb (decide (x_n ≤ x_high))) rfl rfl ?_
 refine ⟨Ch.refl _ _, ?_⟩
 have hF3 : F_impl_within x_n x_low x_high = decide (x_n ≤ x_high) := by simp only [F_impl_within, h1, cond_true, cond_false]
 rw [hF3]
 exact rfl
theorem impl_within_t {n a b : Int} (h : F_impl_within n a b = true) : a ≤ n ∧ n ≤ b := by
  unfold F_impl_within at h
  by_cases h1 : a ≤ n <;> simp [h1] at h
  exact ⟨h1, h⟩
theorem impl_within_f {n a b : Int} (h : F_impl_within n a b = false) : n < a ∨ b < n := by
  unfold F_impl_within at h
  by_cases h1 : a ≤ n <;> simp [h1] at h <;> omega

def F_impl_AddrOk (x_a : PAddr) : (Bool) := bif (F_impl_within x_a.Host 0 4294967295) then ((F_impl_within x_a.Port 0 65535)) else (false)
theorem C_impl_AddrOk (w0 : World) (v_x_a : Value) (x_a : PAddr) (r_x_a : R_61 w0 v_x_a x_a)  : Fn Try.prog 90 #[v_x_a] w0 (fun v w' => Keep w0 w' ∧ O_4 w' w0.heap.size v (F_impl_AddrOk x_a)) := by
 obtain rfl := r_x_a
 refine fn_of (n := 11) (l := [(va (L_61 x_a)), U, U, U, U, U, U, U, U, U, U]) Try.func90 rfl rfl (by kernel_rfl) rfl ?_
 refine sr ?_
 refine bx (L_61 x_a) wN ?_
 intro g1 w1 p2 p3 k4 b5
 have m6 := (Ch.base w0).extk k4
 refine ag (vb false) wN ?_
 refine nx ?_
 refine pu (vp g1 0) wN ?_
 refine ld (vi x_a.Host) wN isAgg_3 b5 ?_
 refine cl wN (C_impl_within w1 x_a.Host 0 4294967295) ?_
 rintro _ w2 ⟨k7, rfl⟩
 have m8 := m6.extk k7
 refine mv (vb (F_impl_within x_a.Host 0 4294967295)) wN ?_
 rcases bf (F_impl_within x_a.Host 0 4294967295) with h9 | h9
 ·have q15 := impl_within_f h9
  refine sk h9 ?_
  refine sk h9 ?_
  refine sk h9 ?_
  refine pf (vb false) wN h9 ?_
  refine ag (vb false) wN ?_
  refine wl_nil <| wq_then <| wc_ret ?_
  refine ret_1 (.inl rfl) (vb false) rfl rfl ?_
  refine ⟨m8.keep0, ?_⟩
  have hF16 : F_impl_AddrOk x_a = false := by simp only [F_impl_AddrOk, h9, cond_true, cond_false]
  rw [hF16]
  exact rfl
 have q10 := impl_within_t h9
 refine pu (vp g1 1) (wS h9) ?_
 have b11 := (b5.kp k7)
 refine ld (vi x_a.Port) (wS h9) isAgg_3 b11 ?_
 refine cl (wS h9) (C_impl_within w2 x_a.Port 0 65535) ?_
 rintro _ w3 ⟨k12, rfl⟩
 have m13 := m8.extk k12
 refine pk (vb (F_impl_within x_a.Port 0 65535)) wN h9 ?_
 refine ag (vb (F_impl_within x_a.Port 0 65535)) wN ?_
 refine wl_nil <| wq_then <| wc_ret ?_
 refine ret_1 (.inl rfl) (vb (F_impl_within x_a.Port 0 65535)) rfl rfl ?_
 refine ⟨m13.keep0, ?_⟩
 have hF14 : F_impl_AddrOk x_a = (F_impl_within x_a.Port 0 65535) := by simp only [F_impl_AddrOk, h9, cond_true, cond_false]
 rw [hF14]
 exact rfl

def F_impl_isNonce (x_b : List UInt8) : (Bool) := decide ((x_b.length : Int) = 12)
theorem C_impl_isNonce (w0 : World) (v_x_b : Value) (x_b : List UInt8) (r_x_b : R_22 w0 v_x_b x_b)  : Fn Try.prog 68 #[v_x_b] w0 (fun v w' => Keep w0 w' ∧ O_4 w' w0.heap.size v (F_impl_isNonce x_b)) := by
 obtain ⟨a1, c2, rfl, r3, s4⟩ := r_x_b
 refine fn_of (n := 6) (l := [(vs a1 x_b.length c2), U, U, U, U, U]) Try.func68 rfl rfl (by kernel_rfl) rfl ?_
 refine sr ?_
 refine ag (vb false) wN ?_
 refine nx ?_
 refine mv (vs a1 x_b.length c2) wN ?_
 refine ln wN slTy_22 r3 ?_
 refine pu (vb (decide ((x_b.length : Int) = 12))) wN ?_
 refine ag (vb (decide ((x_b.length : Int) = 12))) wN ?_
 refine wl_nil <| wq_then <| wc_ret ?_
 refine ret_1 (.inl rfl) (vb (decide ((x_b.length : Int) = 12))) rfl rfl ?_
 refine ⟨Ch.refl _ _, ?_⟩
 have hF6 : F_impl_isNonce x_b = decide ((x_b.length : Int) = 12) := by rfl
 rw [hF6]
 exact rfl

def iPaJ (x_p : PPaths) (i j : Nat) : Bool := !(decide (((x_p.Cands.take i).getD j z_PCand).A.Host = (x_p.Cands.getD i z_PCand).A.Host) && decide (((x_p.Cands.take i).getD j z_PCand).A.Port = (x_p.Cands.getD i z_PCand).A.Port))
def iPaG (x_p : PPaths) (i : Nat) : Bool := (F_impl_AddrOk (x_p.Cands.getD i z_PCand).A) && ((!(decide ((x_p.Cands.getD i z_PCand).A.Host = x_p.At.Host) && decide ((x_p.Cands.getD i z_PCand).A.Port = x_p.At.Port))) && ((F_impl_isNonce (x_p.Cands.getD i z_PCand).Draw) && ((F_impl_within (x_p.Cands.getD i z_PCand).Until 0 1000006) && (allN (iPaJ x_p i) i))))
def iPa (x_p : PPaths) : Bool := bif F_impl_AddrOk x_p.At then (bif decide (3 < (x_p.Cands.length : Int)) then false else allN (iPaG x_p) x_p.Cands.length) else false
theorem C_impl_PathsOk (w0 : World) (v_x_p : Value) (x_p : PPaths) (r_x_p : R_75 w0 v_x_p x_p)  : Fn Try.prog 49 #[v_x_p] w0 (fun v w' => Keep w0 w' ∧ O_4 w' w0.heap.size v (iPa x_p)) := by
 obtain ⟨a1, c2, rfl, r3, s4⟩ := r_x_p
 refine fn_of (n := 64) (l := [(va (L_75 x_p a1 c2)), U, U, U, U, U, U, U, U, U, U, U, U, U, U, U, U, U, U, U, U, U, U, U, U, U, U, U, U, U, U, U, U, U, U, U, U, U, U, U, U, U, U, U, U, U, U, U, U, U, U, U, U, U, U, U, U, U, U, U, U, U, U, U]) Try.func49 rfl rfl (by kernel_rfl) rfl ?_
 refine sr ?_
 refine bx (L_75 x_p a1 c2) wN ?_
 intro g6 w1 p7 p8 k9 b10
 have m11 := (Ch.base w0).extk k9
 refine ag (vb false) wN ?_
 refine wl_nil <| wq_then <| wc_seq <| sr ?_
 refine pu (vp g6 0) wN ?_
 refine lN (L_61 x_p.At) wN isAgg_61 sizeOf_61 b10 ?_
 refine cl wN (C_impl_AddrOk w1 _ x_p.At (mR_61)) ?_
 rintro _ w2 ⟨k12, rfl⟩
 have m13 := m11.extk k12
 refine pu (vb (!(F_impl_AddrOk x_p.At))) wN ?_
 refine mv (vb (!(F_impl_AddrOk x_p.At))) wN ?_
 rcases bf (F_impl_AddrOk x_p.At) with h14 | h14
 ·refine sk (congrArg not h14) ?_
  refine sk (congrArg not h14) ?_
  refine sk (congrArg not h14) ?_
  refine sk (congrArg not h14) ?_
  refine pk (vb true) wN (congrArg not h14) ?_
  refine wl_nil <| wq_then ?_
  refine ct (Eq.refl true) ?_
  refine sr ?_
  refine ag (vb false) wN ?_
  refine wl_nil <| wq_then <| wc_ret <| wq_then_ret ?_
  refine ret_1 (.inl rfl) (vb false) rfl rfl ?_
  refine ⟨m13.keep0, ?_⟩
  have hF129 : iPa x_p = false := by simp [iPa, h14]
  rw [hF129]
  exact rfl
 refine pu (vp g6 2) (wS (congrArg not h14)) ?_
 have b16 := (b10.kp k12)
 refine ld (vs a1 x_p.Cands.length c2) (wS (congrArg not h14)) isAgg_73 b16 ?_
 obtain ⟨y17, r18⟩ := RLv.row (r3.from0 m13)
 refine ln (wS (congrArg not h14)) slTy_73 r18 ?_
 refine pu (vb (decide (3 < (x_p.Cands.length : Int)))) (wS (congrArg not h14)) ?_
 refine pf (vb (decide (3 < (x_p.Cands.length : Int)))) wN (congrArg not h14) ?_
 refine wl_nil <| wq_then ?_
 rcases bt (decide (3 < (x_p.Cands.length : Int))) with h19 | h19
 ·have q20 := of_decide_eq_true h19
  refine ct h19 ?_
  refine sr ?_
  refine ag (vb false) wN ?_
  refine wl_nil <| wq_then <| wc_ret <| wq_then_ret ?_
  refine ret_1 (.inl rfl) (vb false) rfl rfl ?_
  refine ⟨m13.keep0, ?_⟩
  have hF21 : iPa x_p = false := by simp [iPa, h14, h19]
  rw [hF21]
  exact rfl
 have q22 := of_decide_eq_false h19
 refine cf h19 ?_
 refine wc_skip <| wq_then <| wc_seq <| sr ?_
 refine pu (vp g6 2) wN ?_
 refine ld (vs a1 x_p.Cands.length c2) wN isAgg_73 b16 ?_
 obtain ⟨y23, r24⟩ := RLv.row (r3.from0 m13)
 refine ln wN slTy_73 r24 ?_
 refine mv (vi 0) wN ?_
 refine wl_nil <| wq_then <| wc_block ?_
 refine wc_norm [(va (L_75 x_p a1 c2)), (vp g6 0), (vb false), U, U, U, U, (vp g6 0), (va (L_61 x_p.At)), (vb (F_impl_AddrOk x_p.At)), (vb (!(F_impl_AddrOk x_p.At))), (vb (!(F_impl_AddrOk x_p.At))), (vp g6 2), (vs a1 x_p.Cands.length c2), (vi (x_p.Cands.length : Int)), (vb (decide (3 < (x_p.Cands.length : Int)))), (vb (decide (3 < (x_p.Cands.length : Int)))), (vp g6 2), (vs a1 x_p.Cands.length c2), (vi (x_p.Cands.length : Int)), (vi 0), U, U, U, U, U, U, U, U, U, U, U, U, U, U, U, U, U, U, U, U, U, U, U, U, U, U, U, U, U, U, U, U, U, U, U, U, U, U, U, U, U, U, U] rfl ⟨rfl, rfl, rfl, rfl, rfl, rfl, rfl, rfl, rfl, rfl, rfl, rfl, rfl, rfl, rfl, rfl, rfl, rfl, rfl, rfl, rfl, rfl, rfl, rfl, rfl, rfl, rfl, rfl, rfl, rfl, rfl, rfl, rfl, rfl, rfl, rfl, rfl, rfl, rfl, rfl, rfl, rfl, rfl, rfl, rfl, rfl, rfl, rfl, rfl, rfl, rfl, rfl, rfl, rfl, rfl, rfl, rfl, rfl, rfl, rfl, rfl, rfl, rfl, rfl, trivial⟩ ?_
 refine wc_loop (fun e' w' => ∃ (k : Nat) (u2x u3x u4x u6x u21x u22x u23x u24x u25x u26x u27x u28x u29x u30x u31x u32x u33x u34x u35x u36x u37x u38x u39x u40x u41x u42x u43x u44x u45x u46x u47x u48x u49x u50x u51x u52x u53x u54x u55x u56x u57x u58x u59x u60x u61x u62x u63x : Value), e' = lst [(va (L_75 x_p a1 c2)), (vp g6 0), u2x, u3x, u4x, U, u6x, (vp g6 0), (va (L_61 x_p.At)), (vb (F_impl_AddrOk x_p.At)), (vb (!(F_impl_AddrOk x_p.At))), (vb (!(F_impl_AddrOk x_p.At))), (vp g6 2), (vs a1 x_p.Cands.length c2), (vi (x_p.Cands.length : Int)), (vb (decide (3 < (x_p.Cands.length : Int)))), (vb (decide (3 < (x_p.Cands.length : Int)))), (vp g6 2), (vs a1 x_p.Cands.length c2), (vi (x_p.Cands.length : Int)), (vi ((k : Nat) : Int)), u21x, u22x, u23x, u24x, u25x, u26x, u27x, u28x, u29x, u30x, u31x, u32x, u33x, u34x, u35x, u36x, u37x, u38x, u39x, u40x, u41x, u42x, u43x, u44x, u45x, u46x, u47x, u48x, u49x, u50x, u51x, u52x, u53x, u54x, u55x, u56x, u57x, u58x, u59x, u60x, u61x, u62x, u63x] ∧ Ch (fun k => w0.heap.size ≤ k) w0 w' ∧ Ch (fun k => w2.heap.size ≤ k) w2 w' ∧ k ≤ x_p.Cands.length ∧ ∀ j, j < k → iPaG x_p j = true) (fun e' _ => x_p.Cands.length - ((intOf (e' 20))).toNat) ?_ ?_
 ·exact ⟨0, (vb false), U, U, U, U, U, U, U, U, U, U, U, U, U, U, U, U, U, U, U, U, U, U, U, U, U, U, U, U, U, U, U, U, U, U, U, U, U, U, U, U, U, U, U, U, U, U, (congrArg (fun (x20z : Value) => lst [(va (L_75 x_p a1 c2)), (vp g6 0), (vb false), U, U, U, U, (vp g6 0), (va (L_61 x_p.At)), (vb (F_impl_AddrOk x_p.At)), (vb (!(F_impl_AddrOk x_p.At))), (vb (!(F_impl_AddrOk x_p.At))), (vp g6 2), (vs a1 x_p.Cands.length c2), (vi (x_p.Cands.length : Int)), (vb (decide (3 < (x_p.Cands.length : Int)))), (vb (decide (3 < (x_p.Cands.length : Int)))), (vp g6 2), (vs a1 x_p.Cands.length c2), (vi (x_p.Cands.length : Int)), x20z, U, U, U, U, U, U, U, U, U, U, U, U, U, U, U, U, U, U, U, U, U, U, U, U, U, U, U, U, U, U, U, U, U, U, U, U, U, U, U, U, U, U, U]) (congrArg (Value.int .i64) (show (0 : Int) = ((0 : Nat) : Int) by omega))), m13, (Ch.refl (fun k => w2.heap.size ≤ k) w2), (by omega), (by first | (intro j hj; omega) | (have hy := allN_t (f := iPaJ x_p k) (n := k) (k := j) (by assumption) (by omega); exact allN_next (by assumption) (by simp only [iPaG, hy, h14, h19]; simp)))⟩
 ·rintro _ w3 ⟨k, u2x, u3x, u4x, u6x, u21x, u22x, u23x, u24x, u25x, u26x, u27x, u28x, u29x, u30x, u31x, u32x, u33x, u34x, u35x, u36x, u37x, u38x, u39x, u40x, u41x, u42x, u43x, u44x, u45x, u46x, u47x, u48x, u49x, u50x, u51x, u52x, u53x, u54x, u55x, u56x, u57x, u58x, u59x, u60x, u61x, u62x, u63x, rfl, m25, k26, i27, i28⟩
  refine sr ?_
  refine pu (vb (decide (((k : Nat) : Int) < (x_p.Cands.length : Int)))) wN ?_
  refine wl_nil <| wq_then <| wc_seq ?_
  rcases bf (decide (((k : Nat) : Int) < (x_p.Cands.length : Int))) with h29 | h29
  ·have q126 := of_decide_eq_false h29
   refine cf h29 ?_
   refine wc_exit <| wq_then_exit <| wq_then_exit <| wq_blk_exit <| wq_then <| sr ?_
   refine ag (vb true) wN ?_
   refine wl_nil <| wq_then <| wc_ret ?_
   refine ret_1 (.inl rfl) (vb true) rfl rfl ?_
   refine ⟨m25.keep0, ?_⟩
   have hF127 : iPa x_p = true := by have hz := allN_t (f := iPaG x_p) (n := x_p.Cands.length) (k := k) (by assumption) (by omega); simp only [iPa, h14, h19, h29, hz]; simp
   rw [hF127]
   exact rfl
  have q30 := of_decide_eq_true h29
  refine ct h29 ?_
  refine wc_skip <| wq_then <| wc_seq <| wc_block <| sr ?_
  refine mv (vi ((k : Nat) : Int)) wN ?_
  obtain ⟨y31, r32⟩ := RLv.row (r3.from0 m25)
  refine wl_index wN ((k : Nat) : Int) rfl rfl rfl slTy_73 rfl rfl r32 (by first | omega | (simp only [List.length_cons, List.length_nil, List.length_replicate, List.length_append, List.length_take, List.length_set, List.length_map]; omega)) (by first | omega | (simp only [List.length_cons, List.length_nil, List.length_replicate, List.length_append, List.length_take, List.length_set, List.length_map]; omega)) ?_
  obtain ⟨y33, l34, r35, e36, u37⟩ := RLv.el z_PCand (i := k) r3 (by first | omega | (simp only [List.length_cons, List.length_nil, List.length_replicate, List.length_append, List.length_take, List.length_set, List.length_map]; omega))
  obtain ⟨a38, c39, l43, rfl, r40, s41, u44⟩ := SubR.c u37
  obtain rfl := SubR.n u44
  refine wl_loadEN [(vi (((x_p.Cands.getD k z_PCand).A).Host)), (vi (((x_p.Cands.getD k z_PCand).A).Port)), (vs a38 (x_p.Cands.getD k z_PCand).Draw.length c39), (vi ((x_p.Cands.getD k z_PCand).Until))] wN rfl rfl rfl rfl isAgg_109 sizeOf_109 (r35.from0 m25) (by first | omega | (simp only [List.length_cons, List.length_nil, List.length_replicate, List.length_append, List.length_take, List.length_set, List.length_map]; omega)) ((part_of (off := 0) (n := 4) e36 (by first | rfl | simp | omega) (by decide)).trans rfl) ?_
  refine al [(vi 0), (vi 0), (vs none 0 0), (vi 0)] wN zero_109 ?_
  intro g45 w4 p46 p47 k48 b49
  have m50 := m25.extk k48
  refine ag (vi ((k : Nat) : Int)) wN ?_
  refine st (va [(vi (((x_p.Cands.getD k z_PCand).A).Host)), (vi (((x_p.Cands.getD k z_PCand).A).Port)), (vs a38 (x_p.Cands.getD k z_PCand).Draw.length c39), (vi ((x_p.Cands.getD k z_PCand).Until))]) [(vi (((x_p.Cands.getD k z_PCand).A).Host)), (vi (((x_p.Cands.getD k z_PCand).A).Port)), (vs a38 (x_p.Cands.getD k z_PCand).Draw.length c39), (vi ((x_p.Cands.getD k z_PCand).Until))] [(vi (((x_p.Cands.getD k z_PCand).A).Host)), (vi (((x_p.Cands.getD k z_PCand).A).Port)), (vs a38 (x_p.Cands.getD k z_PCand).Draw.length c39), (vi ((x_p.Cands.getD k z_PCand).Until))] wN sizeOf_109 b49 ?_
  intro w5 k51 b52 z53
  have m54 := m50.ext k51 (fun k hk => by subst hk; exact Nat.le_trans (Nat.le_trans (Nat.le_trans k9.size k12.size) k26.size) p46)
  refine wl_nil <| wq_then <| wc_seq <| sr ?_
  refine pu (vp g45 0) wN ?_
  refine lN (L_61 ((x_p.Cands.getD k z_PCand).A)) wN isAgg_61 sizeOf_61 b52 ?_
  refine cl wN (C_impl_AddrOk w5 _ ((x_p.Cands.getD k z_PCand).A) (mR_61)) ?_
  rintro _ w6 ⟨k55, rfl⟩
  have m56 := m54.extk k55
  refine pu (vb (!(F_impl_AddrOk ((x_p.Cands.getD k z_PCand).A)))) wN ?_
  refine mv (vb (!(F_impl_AddrOk ((x_p.Cands.getD k z_PCand).A)))) wN ?_
  rcases bf (F_impl_AddrOk ((x_p.Cands.getD k z_PCand).A)) with h57 | h57
  ·refine sk (congrArg not h57) ?_
   refine sk (congrArg not h57) ?_
   refine sk (congrArg not h57) ?_
   refine sk (congrArg not h57) ?_
   refine sk (congrArg not h57) ?_
   refine pk (vb true) wN (congrArg not h57) ?_
   refine mv (vb true) wN ?_
   refine sk (Eq.refl true) ?_
   refine sk (Eq.refl true) ?_
   refine sk (Eq.refl true) ?_
   refine sk (Eq.refl true) ?_
   refine pk (vb true) wN (Eq.refl true) ?_
   refine mv (vb true) wN ?_
   refine sk (Eq.refl true) ?_
   refine sk (Eq.refl true) ?_
   refine sk (Eq.refl true) ?_
   refine sk (Eq.refl true) ?_
   refine pk (vb true) wN (Eq.refl true) ?_
   refine wl_nil <| wq_then ?_
   refine ct (Eq.refl true) ?_
   refine sr ?_
   refine ag (vb false) wN ?_
   refine wl_nil <| wq_then <| wc_ret <| wq_then_ret <| wq_blk_ret <| wq_then_ret <| wq_then_ret <| wq_blk_ret <| wq_then_ret ?_
   refine ret_1 (.inl rfl) (vb false) rfl rfl ?_
   refine ⟨m56.keep0, ?_⟩
   have hF125 : iPa x_p = false := by have hz := allN_f (f := iPaG x_p) (n := x_p.Cands.length) (k := k) (by omega) (by simp only [iPaG, h14, h19, h29, h57]; simp); simp only [iPa, h14, h19, h29, h57, hz]; simp
   rw [hF125]
   exact rfl
  refine pu (vp g45 0) (wS (congrArg not h57)) ?_
  have b59 := (b52.kp k55)
  refine lN (L_61 ((x_p.Cands.getD k z_PCand).A)) (wS (congrArg not h57)) isAgg_61 sizeOf_61 b59 ?_
  refine pu (vp g6 0) (wS (congrArg not h57)) ?_
  have b60 := ((((b16.ch k26 (Nat.not_le.2 (Nat.lt_of_lt_of_le p8 k12.size))).kp k48).ch k51 (Nat.ne_of_lt (Nat.lt_of_lt_of_le p8 (Nat.le_trans (Nat.le_trans k12.size k26.size) p46)))).kp k55)
  refine lN (L_61 x_p.At) (wS (congrArg not h57)) isAgg_61 sizeOf_61 b60 ?_
  refine wl_aggeq ((decide ((((x_p.Cands.getD k z_PCand).A).Host) = x_p.At.Host) && decide ((((x_p.Cands.getD k z_PCand).A).Port) = x_p.At.Port))) (wS (congrArg not h57)) rfl rfl rfl rfl rfl guardt_61 (aggeq_61 (((x_p.Cands.getD k z_PCand).A).Host) x_p.At.Host (((x_p.Cands.getD k z_PCand).A).Port) x_p.At.Port w6) ?_
  refine pf (vb (decide ((((x_p.Cands.getD k z_PCand).A).Host) = x_p.At.Host) && decide ((((x_p.Cands.getD k z_PCand).A).Port) = x_p.At.Port))) wN (congrArg not h57) ?_
  refine mv (vb (decide ((((x_p.Cands.getD k z_PCand).A).Host) = x_p.At.Host) && decide ((((x_p.Cands.getD k z_PCand).A).Port) = x_p.At.Port))) wN ?_
  rcases bt (decide ((((x_p.Cands.getD k z_PCand).A).Host) = x_p.At.Host) && decide ((((x_p.Cands.getD k z_PCand).A).Port) = x_p.At.Port)) with h61 | h61
  ·refine sk h61 ?_
   refine sk h61 ?_
   refine sk h61 ?_
   refine sk h61 ?_
   refine pk (vb true) wN h61 ?_
   refine mv (vb true) wN ?_
   refine sk (Eq.refl true) ?_
   refine sk (Eq.refl true) ?_
   refine sk (Eq.refl true) ?_
   refine sk (Eq.refl true) ?_
   refine pk (vb true) wN (Eq.refl true) ?_
   refine wl_nil <| wq_then ?_
   refine ct (Eq.refl true) ?_
   refine sr ?_
   refine ag (vb false) wN ?_
   refine wl_nil <| wq_then <| wc_ret <| wq_then_ret <| wq_blk_ret <| wq_then_ret <| wq_then_ret <| wq_blk_ret <| wq_then_ret ?_
   refine ret_1 (.inl rfl) (vb false) rfl rfl ?_
   refine ⟨m56.keep0, ?_⟩
   have hF63 : iPa x_p = false := by have hz := allN_f (f := iPaG x_p) (n := x_p.Cands.length) (k := k) (by omega) (by simp only [iPaG, h14, h19, h29, h57, h61]; simp); simp only [iPa, h14, h19, h29, h57, h61, hz]; simp
   rw [hF63]
   exact rfl
  refine pu (vp g45 2) (wS h61) ?_
  refine ld (vs a38 (x_p.Cands.getD k z_PCand).Draw.length c39) (wS h61) isAgg_22 b59 ?_
  refine cl (wS h61) (C_impl_isNonce w6 _ ((x_p.Cands.getD k z_PCand).Draw) (mR_22 (r40.from0 m56) s41)) ?_
  rintro _ w7 ⟨k65, rfl⟩
  have m66 := m56.extk k65
  refine pu (vb (!(F_impl_isNonce ((x_p.Cands.getD k z_PCand).Draw)))) (wS h61) ?_
  refine pf (vb (!(F_impl_isNonce ((x_p.Cands.getD k z_PCand).Draw)))) wN h61 ?_
  refine mv (vb (!(F_impl_isNonce ((x_p.Cands.getD k z_PCand).Draw)))) wN ?_
  rcases bf (F_impl_isNonce ((x_p.Cands.getD k z_PCand).Draw)) with h67 | h67
  ·refine sk (congrArg not h67) ?_
   refine sk (congrArg not h67) ?_
   refine sk (congrArg not h67) ?_
   refine sk (congrArg not h67) ?_
   refine pk (vb true) wN (congrArg not h67) ?_
   refine wl_nil <| wq_then ?_
   refine ct (Eq.refl true) ?_
   refine sr ?_
   refine ag (vb false) wN ?_
   refine wl_nil <| wq_then <| wc_ret <| wq_then_ret <| wq_blk_ret <| wq_then_ret <| wq_then_ret <| wq_blk_ret <| wq_then_ret ?_
   refine ret_1 (.inl rfl) (vb false) rfl rfl ?_
   refine ⟨m66.keep0, ?_⟩
   have hF123 : iPa x_p = false := by have hz := allN_f (f := iPaG x_p) (n := x_p.Cands.length) (k := k) (by omega) (by simp only [iPaG, h14, h19, h29, h57, h61, h67]; simp); simp only [iPa, h14, h19, h29, h57, h61, h67, hz]; simp
   rw [hF123]
   exact rfl
  refine pu (vp g45 3) (wS (congrArg not h67)) ?_
  have b69 := (b59.kp k65)
  refine ld (vi ((x_p.Cands.getD k z_PCand).Until)) (wS (congrArg not h67)) isAgg_3 b69 ?_
  refine cl (wS (congrArg not h67)) (C_impl_within w7 ((x_p.Cands.getD k z_PCand).Until) 0 1000006) ?_
  rintro _ w8 ⟨k70, rfl⟩
  have m71 := m66.extk k70
  refine pu (vb (!(F_impl_within ((x_p.Cands.getD k z_PCand).Until) 0 1000006))) (wS (congrArg not h67)) ?_
  refine pf (vb (!(F_impl_within ((x_p.Cands.getD k z_PCand).Until) 0 1000006))) wN (congrArg not h67) ?_
  refine wl_nil <| wq_then ?_
  rcases bf (F_impl_within ((x_p.Cands.getD k z_PCand).Until) 0 1000006) with h72 | h72
  ·have q120 := impl_within_f h72
   refine ct (congrArg not h72) ?_
   refine sr ?_
   refine ag (vb false) wN ?_
   refine wl_nil <| wq_then <| wc_ret <| wq_then_ret <| wq_blk_ret <| wq_then_ret <| wq_then_ret <| wq_blk_ret <| wq_then_ret ?_
   refine ret_1 (.inl rfl) (vb false) rfl rfl ?_
   refine ⟨m71.keep0, ?_⟩
   have hF121 : iPa x_p = false := by have hz := allN_f (f := iPaG x_p) (n := x_p.Cands.length) (k := k) (by omega) (by simp only [iPaG, h14, h19, h29, h57, h61, h67, h72]; simp); simp only [iPa, h14, h19, h29, h57, h61, h67, h72, hz]; simp
   rw [hF121]
   exact rfl
  have q73 := impl_within_t h72
  refine cf (congrArg not h72) ?_
  refine wc_skip <| wq_then <| sr ?_
  refine pu (vp g6 2) wN ?_
  have b74 := ((b60.kp k65).kp k70)
  refine ld (vs a1 x_p.Cands.length c2) wN isAgg_73 b74 ?_
  refine mv (vi ((k : Nat) : Int)) wN ?_
  have q76 : 0 ≤ k := (by first | omega | (simp only [List.length_cons, List.length_nil, List.length_replicate, List.length_append, List.length_take, List.length_set, List.length_map]; omega))
  have q77 : k ≤ x_p.Cands.length := (by first | omega | (simp only [List.length_cons, List.length_nil, List.length_replicate, List.length_append, List.length_take, List.length_set, List.length_map]; omega))
  obtain ⟨y78, r79⟩ := RLv.row (r3.from0 m71)
  refine slvR 0 k wN slTy_73 r79 q76 q77 rfl rfl rfl rfl (.inl ⟨rfl, rfl⟩) (.inr ⟨_, _, _, rfl, rfl, by omega⟩) ?_
  have r80 := RLv.sub (x' := (x_p.Cands.take k)) r3 q76 q77 (by first | rfl | simp | (rw [List.take_of_length_le (by simp)]))
  obtain ⟨y82, r83⟩ := RLv.row (r80.from0 m71)
  refine ln wN slTy_73 r83 ?_
  refine mv (vi 0) wN ?_
  refine wl_nil <| wq_then <| wc_block ?_
  refine wc_norm [(va (L_75 x_p a1 c2)), (vp g6 0), u2x, (vi ((k : Nat) : Int)), (vp g45 0), U, u6x, (vp g6 0), (va (L_61 x_p.At)), (vb (F_impl_AddrOk x_p.At)), (vb (!(F_impl_AddrOk x_p.At))), (vb (!(F_impl_AddrOk x_p.At))), (vp g6 2), (vs a1 x_p.Cands.length c2), (vi (x_p.Cands.length : Int)), (vb (decide (3 < (x_p.Cands.length : Int)))), (vb (decide (3 < (x_p.Cands.length : Int)))), (vp g6 2), (vs a1 x_p.Cands.length c2), (vi (x_p.Cands.length : Int)), (vi ((k : Nat) : Int)), (vb (decide (((k : Nat) : Int) < (x_p.Cands.length : Int)))), (vi ((k : Nat) : Int)), (ve (vs a1 x_p.Cands.length c2) ((((k : Nat) : Int)).toNat * 4)), (va [(vi (((x_p.Cands.getD k z_PCand).A).Host)), (vi (((x_p.Cands.getD k z_PCand).A).Port)), (vs a38 (x_p.Cands.getD k z_PCand).Draw.length c39), (vi ((x_p.Cands.getD k z_PCand).Until))]), (vp g45 0), (va (L_61 ((x_p.Cands.getD k z_PCand).A))), (vb (F_impl_AddrOk ((x_p.Cands.getD k z_PCand).A))), (vb (!(F_impl_AddrOk ((x_p.Cands.getD k z_PCand).A)))), (vb (!(F_impl_AddrOk ((x_p.Cands.getD k z_PCand).A)))), (vp g45 0), (va (L_61 ((x_p.Cands.getD k z_PCand).A))), (vp g6 0), (va (L_61 x_p.At)), (vb (decide ((((x_p.Cands.getD k z_PCand).A).Host) = x_p.At.Host) && decide ((((x_p.Cands.getD k z_PCand).A).Port) = x_p.At.Port))), (vb (decide ((((x_p.Cands.getD k z_PCand).A).Host) = x_p.At.Host) && decide ((((x_p.Cands.getD k z_PCand).A).Port) = x_p.At.Port))), (vb (decide ((((x_p.Cands.getD k z_PCand).A).Host) = x_p.At.Host) && decide ((((x_p.Cands.getD k z_PCand).A).Port) = x_p.At.Port))), (vp g45 2), (vs a38 (x_p.Cands.getD k z_PCand).Draw.length c39), (vb (F_impl_isNonce ((x_p.Cands.getD k z_PCand).Draw))), (vb (!(F_impl_isNonce ((x_p.Cands.getD k z_PCand).Draw)))), (vb (!(F_impl_isNonce ((x_p.Cands.getD k z_PCand).Draw)))), (vb (!(F_impl_isNonce ((x_p.Cands.getD k z_PCand).Draw)))), (vp g45 3), (vi ((x_p.Cands.getD k z_PCand).Until)), (vb (F_impl_within ((x_p.Cands.getD k z_PCand).Until) 0 1000006)), (vb (!(F_impl_within ((x_p.Cands.getD k z_PCand).Until) 0 1000006))), (vb (!(F_impl_within ((x_p.Cands.getD k z_PCand).Until) 0 1000006))), (vp g6 2), (vs a1 x_p.Cands.length c2), (vi ((k : Nat) : Int)), (vs (subA a1 c2 0 4) (k - 0) (c2 - 0)), (vi ((k - 0) : Int)), (vi 0), u54x, u55x, u56x, u57x, u58x, u59x, u60x, u61x, u62x, u63x] rfl ⟨rfl, rfl, rfl, rfl, rfl, rfl, rfl, rfl, rfl, rfl, rfl, rfl, rfl, rfl, rfl, rfl, rfl, rfl, rfl, rfl, rfl, rfl, rfl, rfl, rfl, rfl, rfl, rfl, rfl, rfl, rfl, rfl, rfl, rfl, rfl, rfl, rfl, rfl, rfl, rfl, rfl, rfl, rfl, rfl, rfl, rfl, rfl, rfl, rfl, rfl, rfl, rfl, rfl, rfl, rfl, rfl, rfl, rfl, rfl, rfl, rfl, rfl, rfl, rfl, trivial⟩ ?_
  refine wc_loop (fun e' w' => ∃ (j : Nat) (u2x u6x u54x u55x u56x u57x u58x u59x u60x u61x u62x : Value), e' = lst [(va (L_75 x_p a1 c2)), (vp g6 0), u2x, (vi ((k : Nat) : Int)), (vp g45 0), U, u6x, (vp g6 0), (va (L_61 x_p.At)), (vb (F_impl_AddrOk x_p.At)), (vb (!(F_impl_AddrOk x_p.At))), (vb (!(F_impl_AddrOk x_p.At))), (vp g6 2), (vs a1 x_p.Cands.length c2), (vi (x_p.Cands.length : Int)), (vb (decide (3 < (x_p.Cands.length : Int)))), (vb (decide (3 < (x_p.Cands.length : Int)))), (vp g6 2), (vs a1 x_p.Cands.length c2), (vi (x_p.Cands.length : Int)), (vi ((k : Nat) : Int)), (vb (decide (((k : Nat) : Int) < (x_p.Cands.length : Int)))), (vi ((k : Nat) : Int)), (ve (vs a1 x_p.Cands.length c2) ((((k : Nat) : Int)).toNat * 4)), (va [(vi (((x_p.Cands.getD k z_PCand).A).Host)), (vi (((x_p.Cands.getD k z_PCand).A).Port)), (vs a38 (x_p.Cands.getD k z_PCand).Draw.length c39), (vi ((x_p.Cands.getD k z_PCand).Until))]), (vp g45 0), (va (L_61 ((x_p.Cands.getD k z_PCand).A))), (vb (F_impl_AddrOk ((x_p.Cands.getD k z_PCand).A))), (vb (!(F_impl_AddrOk ((x_p.Cands.getD k z_PCand).A)))), (vb (!(F_impl_AddrOk ((x_p.Cands.getD k z_PCand).A)))), (vp g45 0), (va (L_61 ((x_p.Cands.getD k z_PCand).A))), (vp g6 0), (va (L_61 x_p.At)), (vb (decide ((((x_p.Cands.getD k z_PCand).A).Host) = x_p.At.Host) && decide ((((x_p.Cands.getD k z_PCand).A).Port) = x_p.At.Port))), (vb (decide ((((x_p.Cands.getD k z_PCand).A).Host) = x_p.At.Host) && decide ((((x_p.Cands.getD k z_PCand).A).Port) = x_p.At.Port))), (vb (decide ((((x_p.Cands.getD k z_PCand).A).Host) = x_p.At.Host) && decide ((((x_p.Cands.getD k z_PCand).A).Port) = x_p.At.Port))), (vp g45 2), (vs a38 (x_p.Cands.getD k z_PCand).Draw.length c39), (vb (F_impl_isNonce ((x_p.Cands.getD k z_PCand).Draw))), (vb (!(F_impl_isNonce ((x_p.Cands.getD k z_PCand).Draw)))), (vb (!(F_impl_isNonce ((x_p.Cands.getD k z_PCand).Draw)))), (vb (!(F_impl_isNonce ((x_p.Cands.getD k z_PCand).Draw)))), (vp g45 3), (vi ((x_p.Cands.getD k z_PCand).Until)), (vb (F_impl_within ((x_p.Cands.getD k z_PCand).Until) 0 1000006)), (vb (!(F_impl_within ((x_p.Cands.getD k z_PCand).Until) 0 1000006))), (vb (!(F_impl_within ((x_p.Cands.getD k z_PCand).Until) 0 1000006))), (vp g6 2), (vs a1 x_p.Cands.length c2), (vi ((k : Nat) : Int)), (vs (subA a1 c2 0 4) (k - 0) (c2 - 0)), (vi ((k - 0) : Int)), (vi ((j : Nat) : Int)), u54x, u55x, u56x, u57x, u58x, u59x, u60x, u61x, u62x, u63x] ∧ Ch (fun k => w0.heap.size ≤ k) w0 w' ∧ Ch (fun k => w8.heap.size ≤ k) w8 w' ∧ j ≤ k ∧ ∀ m, m < j → iPaJ x_p k m = true) (fun e' _ => k - ((intOf (e' 53))).toNat) ?_ ?_
  ·exact ⟨0, u2x, u6x, u54x, u55x, u56x, u57x, u58x, u59x, u60x, u61x, u62x, (congrArg (fun (x53z : Value) => lst [(va (L_75 x_p a1 c2)), (vp g6 0), u2x, (vi ((k : Nat) : Int)), (vp g45 0), U, u6x, (vp g6 0), (va (L_61 x_p.At)), (vb (F_impl_AddrOk x_p.At)), (vb (!(F_impl_AddrOk x_p.At))), (vb (!(F_impl_AddrOk x_p.At))), (vp g6 2), (vs a1 x_p.Cands.length c2), (vi (x_p.Cands.length : Int)), (vb (decide (3 < (x_p.Cands.length : Int)))), (vb (decide (3 < (x_p.Cands.length : Int)))), (vp g6 2), (vs a1 x_p.Cands.length c2), (vi (x_p.Cands.length : Int)), (vi ((k : Nat) : Int)), (vb (decide (((k : Nat) : Int) < (x_p.Cands.length : Int)))), (vi ((k : Nat) : Int)), (ve (vs a1 x_p.Cands.length c2) ((((k : Nat) : Int)).toNat * 4)), (va [(vi (((x_p.Cands.getD k z_PCand).A).Host)), (vi (((x_p.Cands.getD k z_PCand).A).Port)), (vs a38 (x_p.Cands.getD k z_PCand).Draw.length c39), (vi ((x_p.Cands.getD k z_PCand).Until))]), (vp g45 0), (va (L_61 ((x_p.Cands.getD k z_PCand).A))), (vb (F_impl_AddrOk ((x_p.Cands.getD k z_PCand).A))), (vb (!(F_impl_AddrOk ((x_p.Cands.getD k z_PCand).A)))), (vb (!(F_impl_AddrOk ((x_p.Cands.getD k z_PCand).A)))), (vp g45 0), (va (L_61 ((x_p.Cands.getD k z_PCand).A))), (vp g6 0), (va (L_61 x_p.At)), (vb (decide ((((x_p.Cands.getD k z_PCand).A).Host) = x_p.At.Host) && decide ((((x_p.Cands.getD k z_PCand).A).Port) = x_p.At.Port))), (vb (decide ((((x_p.Cands.getD k z_PCand).A).Host) = x_p.At.Host) && decide ((((x_p.Cands.getD k z_PCand).A).Port) = x_p.At.Port))), (vb (decide ((((x_p.Cands.getD k z_PCand).A).Host) = x_p.At.Host) && decide ((((x_p.Cands.getD k z_PCand).A).Port) = x_p.At.Port))), (vp g45 2), (vs a38 (x_p.Cands.getD k z_PCand).Draw.length c39), (vb (F_impl_isNonce ((x_p.Cands.getD k z_PCand).Draw))), (vb (!(F_impl_isNonce ((x_p.Cands.getD k z_PCand).Draw)))), (vb (!(F_impl_isNonce ((x_p.Cands.getD k z_PCand).Draw)))), (vb (!(F_impl_isNonce ((x_p.Cands.getD k z_PCand).Draw)))), (vp g45 3), (vi ((x_p.Cands.getD k z_PCand).Until)), (vb (F_impl_within ((x_p.Cands.getD k z_PCand).Until) 0 1000006)), (vb (!(F_impl_within ((x_p.Cands.getD k z_PCand).Until) 0 1000006))), (vb (!(F_impl_within ((x_p.Cands.getD k z_PCand).Until) 0 1000006))), (vp g6 2), (vs a1 x_p.Cands.length c2), (vi ((k : Nat) : Int)), (vs (subA a1 c2 0 4) (k - 0) (c2 - 0)), (vi ((k - 0) : Int)), x53z, u54x, u55x, u56x, u57x, u58x, u59x, u60x, u61x, u62x, u63x]) (congrArg (Value.int .i64) (show (0 : Int) = ((0 : Nat) : Int) by omega))), m71, (Ch.refl (fun k => w8.heap.size ≤ k) w8), (by omega), (by first | (intro m hm; omega) | exact allN_next (by assumption) (by simp only [iPaJ, h14, h19, h29, h57, h61, h67, h72]; simp))⟩
  ·rintro _ w9 ⟨j, u2x, u6x, u54x, u55x, u56x, u57x, u58x, u59x, u60x, u61x, u62x, rfl, m84, k85, i86, i87⟩
   refine sr ?_
   refine pu (vb (decide (((j : Nat) : Int) < ((k - 0) : Int)))) wN ?_
   refine wl_nil <| wq_then <| wc_seq ?_
   rcases bf (decide (((j : Nat) : Int) < ((k - 0) : Int))) with h88 | h88
   ·have q119 := of_decide_eq_false h88
    refine cf h88 ?_
    refine wc_exit <| wq_then_exit <| wq_then_exit <| wq_blk_exit <| wq_blk_normal <| wq_then <| wc_region ?_
    refine ar (((k : Nat) : Int) + 1) wN ?_
    refine mv (vi (((k : Nat) : Int) + 1)) wN ?_
    refine wl_nil ?_
    refine wq_loopN (w0 := w3) [(va (L_75 x_p a1 c2)), (vp g6 0), u2x, (vi ((k : Nat) : Int)), (vp g45 0), U, u6x, (vp g6 0), (va (L_61 x_p.At)), (vb (F_impl_AddrOk x_p.At)), (vb (!(F_impl_AddrOk x_p.At))), (vb (!(F_impl_AddrOk x_p.At))), (vp g6 2), (vs a1 x_p.Cands.length c2), (vi (x_p.Cands.length : Int)), (vb (decide (3 < (x_p.Cands.length : Int)))), (vb (decide (3 < (x_p.Cands.length : Int)))), (vp g6 2), (vs a1 x_p.Cands.length c2), (vi (x_p.Cands.length : Int)), (vi (((k + 1) : Nat) : Int)), (vb (decide (((k : Nat) : Int) < (x_p.Cands.length : Int)))), (vi ((k : Nat) : Int)), (ve (vs a1 x_p.Cands.length c2) ((((k : Nat) : Int)).toNat * 4)), (va [(vi (((x_p.Cands.getD k z_PCand).A).Host)), (vi (((x_p.Cands.getD k z_PCand).A).Port)), (vs a38 (x_p.Cands.getD k z_PCand).Draw.length c39), (vi ((x_p.Cands.getD k z_PCand).Until))]), (vp g45 0), (va (L_61 ((x_p.Cands.getD k z_PCand).A))), (vb (F_impl_AddrOk ((x_p.Cands.getD k z_PCand).A))), (vb (!(F_impl_AddrOk ((x_p.Cands.getD k z_PCand).A)))), (vb (!(F_impl_AddrOk ((x_p.Cands.getD k z_PCand).A)))), (vp g45 0), (va (L_61 ((x_p.Cands.getD k z_PCand).A))), (vp g6 0), (va (L_61 x_p.At)), (vb (decide ((((x_p.Cands.getD k z_PCand).A).Host) = x_p.At.Host) && decide ((((x_p.Cands.getD k z_PCand).A).Port) = x_p.At.Port))), (vb (decide ((((x_p.Cands.getD k z_PCand).A).Host) = x_p.At.Host) && decide ((((x_p.Cands.getD k z_PCand).A).Port) = x_p.At.Port))), (vb (decide ((((x_p.Cands.getD k z_PCand).A).Host) = x_p.At.Host) && decide ((((x_p.Cands.getD k z_PCand).A).Port) = x_p.At.Port))), (vp g45 2), (vs a38 (x_p.Cands.getD k z_PCand).Draw.length c39), (vb (F_impl_isNonce ((x_p.Cands.getD k z_PCand).Draw))), (vb (!(F_impl_isNonce ((x_p.Cands.getD k z_PCand).Draw)))), (vb (!(F_impl_isNonce ((x_p.Cands.getD k z_PCand).Draw)))), (vb (!(F_impl_isNonce ((x_p.Cands.getD k z_PCand).Draw)))), (vp g45 3), (vi ((x_p.Cands.getD k z_PCand).Until)), (vb (F_impl_within ((x_p.Cands.getD k z_PCand).Until) 0 1000006)), (vb (!(F_impl_within ((x_p.Cands.getD k z_PCand).Until) 0 1000006))), (vb (!(F_impl_within ((x_p.Cands.getD k z_PCand).Until) 0 1000006))), (vp g6 2), (vs a1 x_p.Cands.length c2), (vi ((k : Nat) : Int)), (vs (subA a1 c2 0 4) (k - 0) (c2 - 0)), (vi ((k - 0) : Int)), (vi ((j : Nat) : Int)), (vb (decide (((j : Nat) : Int) < ((k - 0) : Int)))), u55x, u56x, u57x, u58x, u59x, u60x, u61x, u62x, (vi (((k : Nat) : Int) + 1))] rfl ?_ ?_ ?_
    · exact ⟨rfl, rfl, rfl, rfl, rfl, rfl, rfl, rfl, rfl, rfl, rfl, rfl, rfl, rfl, rfl, rfl, rfl, rfl, rfl, rfl, (congrArg (Value.int .i64) (show ((((k : Nat) : Int) + 1) : Int) = (((k + 1) : Nat) : Int) by omega)), rfl, rfl, rfl, rfl, rfl, rfl, rfl, rfl, rfl, rfl, rfl, rfl, rfl, rfl, rfl, rfl, rfl, rfl, rfl, rfl, rfl, rfl, rfl, rfl, rfl, rfl, rfl, rfl, rfl, rfl, rfl, rfl, rfl, rfl, rfl, rfl, rfl, rfl, rfl, rfl, rfl, rfl, rfl, trivial⟩
    · exact ⟨(k + 1), u2x, (vi ((k : Nat) : Int)), (vp g45 0), u6x, (vb (decide (((k : Nat) : Int) < (x_p.Cands.length : Int)))), (vi ((k : Nat) : Int)), (ve (vs a1 x_p.Cands.length c2) ((((k : Nat) : Int)).toNat * 4)), (va [(vi (((x_p.Cands.getD k z_PCand).A).Host)), (vi (((x_p.Cands.getD k z_PCand).A).Port)), (vs a38 (x_p.Cands.getD k z_PCand).Draw.length c39), (vi ((x_p.Cands.getD k z_PCand).Until))]), (vp g45 0), (va (L_61 ((x_p.Cands.getD k z_PCand).A))), (vb (F_impl_AddrOk ((x_p.Cands.getD k z_PCand).A))), (vb (!(F_impl_AddrOk ((x_p.Cands.getD k z_PCand).A)))), (vb (!(F_impl_AddrOk ((x_p.Cands.getD k z_PCand).A)))), (vp g45 0), (va (L_61 ((x_p.Cands.getD k z_PCand).A))), (vp g6 0), (va (L_61 x_p.At)), (vb (decide ((((x_p.Cands.getD k z_PCand).A).Host) = x_p.At.Host) && decide ((((x_p.Cands.getD k z_PCand).A).Port) = x_p.At.Port))), (vb (decide ((((x_p.Cands.getD k z_PCand).A).Host) = x_p.At.Host) && decide ((((x_p.Cands.getD k z_PCand).A).Port) = x_p.At.Port))), (vb (decide ((((x_p.Cands.getD k z_PCand).A).Host) = x_p.At.Host) && decide ((((x_p.Cands.getD k z_PCand).A).Port) = x_p.At.Port))), (vp g45 2), (vs a38 (x_p.Cands.getD k z_PCand).Draw.length c39), (vb (F_impl_isNonce ((x_p.Cands.getD k z_PCand).Draw))), (vb (!(F_impl_isNonce ((x_p.Cands.getD k z_PCand).Draw)))), (vb (!(F_impl_isNonce ((x_p.Cands.getD k z_PCand).Draw)))), (vb (!(F_impl_isNonce ((x_p.Cands.getD k z_PCand).Draw)))), (vp g45 3), (vi ((x_p.Cands.getD k z_PCand).Until)), (vb (F_impl_within ((x_p.Cands.getD k z_PCand).Until) 0 1000006)), (vb (!(F_impl_within ((x_p.Cands.getD k z_PCand).Until) 0 1000006))), (vb (!(F_impl_within ((x_p.Cands.getD k z_PCand).Until) 0 1000006))), (vp g6 2), (vs a1 x_p.Cands.length c2), (vi ((k : Nat) : Int)), (vs (subA a1 c2 0 4) (k - 0) (c2 - 0)), (vi ((k - 0) : Int)), (vi ((j : Nat) : Int)), (vb (decide (((j : Nat) : Int) < ((k - 0) : Int)))), u55x, u56x, u57x, u58x, u59x, u60x, u61x, u62x, (vi (((k : Nat) : Int) + 1)), rfl, m84, ((((((((Ch.refl (fun k => w2.heap.size ≤ k) w2).ext k26 (fun k hk => Nat.le_trans (Nat.le_refl _) hk)).extk k48).ext k51 (fun k hk => by subst hk; exact Nat.le_trans k26.size p46)).extk k55).extk k65).extk k70).ext k85 (fun k hk => Nat.le_trans (Nat.le_trans (Nat.le_trans (Nat.le_trans (Nat.le_trans (Nat.le_trans k26.size k48.size) k51.size) k55.size) k65.size) k70.size) hk)), (by omega), (by first | (intro j hj; omega) | (have hy := allN_t (f := iPaJ x_p k) (n := k) (k := j) (by assumption) (by omega); exact allN_next (by assumption) (by simp only [iPaG, hy, h14, h19, h29, h57, h61, h67, h72, h88]; simp)))⟩
    · show x_p.Cands.length - ((((k + 1) : Nat) : Int)).toNat < x_p.Cands.length - (((k : Nat) : Int)).toNat; omega
   have q89 := of_decide_eq_true h88
   refine ct h88 ?_
   refine wc_skip <| wq_then <| wc_seq <| wc_block <| sr ?_
   obtain ⟨y90, r91⟩ := RLv.row (r80.from0 m84)
   refine wl_index wN ((j : Nat) : Int) rfl rfl rfl slTy_73 rfl rfl r91 (by first | omega | (simp only [List.length_cons, List.length_nil, List.length_replicate, List.length_append, List.length_take, List.length_set, List.length_map]; omega)) (by first | omega | (simp only [List.length_cons, List.length_nil, List.length_replicate, List.length_append, List.length_take, List.length_set, List.length_map]; omega)) ?_
   obtain ⟨y92, l93, r94, e95, u96⟩ := RLv.el z_PCand (i := j) r80 (by first | omega | (simp only [List.length_cons, List.length_nil, List.length_replicate, List.length_append, List.length_take, List.length_set, List.length_map]; omega))
   obtain ⟨a97, c98, l102, rfl, r99, s100, u103⟩ := SubR.c u96
   obtain rfl := SubR.n u103
   refine wl_loadEN [(vi ((((x_p.Cands.take k).getD j z_PCand).A).Host)), (vi ((((x_p.Cands.take k).getD j z_PCand).A).Port)), (vs a97 ((x_p.Cands.take k).getD j z_PCand).Draw.length c98), (vi (((x_p.Cands.take k).getD j z_PCand).Until))] wN rfl rfl rfl rfl isAgg_109 sizeOf_109 (r94.from0 m84) (by first | omega | (simp only [List.length_cons, List.length_nil, List.length_replicate, List.length_append, List.length_take, List.length_set, List.length_map]; omega)) ((part_of (off := 0) (n := 4) e95 (by first | rfl | simp | omega) (by decide)).trans rfl) ?_
   refine al [(vi 0), (vi 0), (vs none 0 0), (vi 0)] wN zero_109 ?_
   intro g104 w10 p105 p106 k107 b108
   have m109 := m84.extk k107
   refine st (va [(vi ((((x_p.Cands.take k).getD j z_PCand).A).Host)), (vi ((((x_p.Cands.take k).getD j z_PCand).A).Port)), (vs a97 ((x_p.Cands.take k).getD j z_PCand).Draw.length c98), (vi (((x_p.Cands.take k).getD j z_PCand).Until))]) [(vi ((((x_p.Cands.take k).getD j z_PCand).A).Host)), (vi ((((x_p.Cands.take k).getD j z_PCand).A).Port)), (vs a97 ((x_p.Cands.take k).getD j z_PCand).Draw.length c98), (vi (((x_p.Cands.take k).getD j z_PCand).Until))] [(vi ((((x_p.Cands.take k).getD j z_PCand).A).Host)), (vi ((((x_p.Cands.take k).getD j z_PCand).A).Port)), (vs a97 ((x_p.Cands.take k).getD j z_PCand).Draw.length c98), (vi (((x_p.Cands.take k).getD j z_PCand).Until))] wN sizeOf_109 b108 ?_
   intro w11 k110 b111 z112
   have m113 := m109.ext k110 (fun k hk => by subst hk; exact Nat.le_trans (Nat.le_trans (Nat.le_trans (Nat.le_trans (Nat.le_trans (Nat.le_trans (Nat.le_trans (Nat.le_trans (Nat.le_trans k9.size k12.size) k26.size) k48.size) k51.size) k55.size) k65.size) k70.size) k85.size) p105)
   refine nx ?_
   refine pu (vp g104 0) wN ?_
   refine lN (L_61 (((x_p.Cands.take k).getD j z_PCand).A)) wN isAgg_61 sizeOf_61 b111 ?_
   refine pu (vp g45 0) wN ?_
   have b114 := ((((b69.kp k70).ch k85 (Nat.not_le.2 (Nat.lt_of_lt_of_le p47 (Nat.le_trans (Nat.le_trans (Nat.le_trans k51.size k55.size) k65.size) k70.size)))).kp k107).ch k110 (Nat.ne_of_lt (Nat.lt_of_lt_of_le p47 (Nat.le_trans (Nat.le_trans (Nat.le_trans (Nat.le_trans (Nat.le_trans k51.size k55.size) k65.size) k70.size) k85.size) p105))))
   refine lN (L_61 ((x_p.Cands.getD k z_PCand).A)) wN isAgg_61 sizeOf_61 b114 ?_
   refine wl_aggeq ((decide (((((x_p.Cands.take k).getD j z_PCand).A).Host) = (((x_p.Cands.getD k z_PCand).A).Host)) && decide (((((x_p.Cands.take k).getD j z_PCand).A).Port) = (((x_p.Cands.getD k z_PCand).A).Port)))) wN rfl rfl rfl rfl rfl guardt_61 (aggeq_61 ((((x_p.Cands.take k).getD j z_PCand).A).Host) (((x_p.Cands.getD k z_PCand).A).Host) ((((x_p.Cands.take k).getD j z_PCand).A).Port) (((x_p.Cands.getD k z_PCand).A).Port) w11) ?_
   refine wl_nil <| wq_then ?_
   rcases bt (decide (((((x_p.Cands.take k).getD j z_PCand).A).Host) = (((x_p.Cands.getD k z_PCand).A).Host)) && decide (((((x_p.Cands.take k).getD j z_PCand).A).Port) = (((x_p.Cands.getD k z_PCand).A).Port))) with h115 | h115
   ·refine ct h115 ?_
    refine sr ?_
    refine ag (vb false) wN ?_
    refine wl_nil <| wq_then <| wc_ret <| wq_blk_ret <| wq_then_ret <| wq_then_ret <| wq_blk_ret <| wq_blk_ret <| wq_then_ret <| wq_then_ret <| wq_blk_ret <| wq_then_ret ?_
    refine ret_1 (.inl rfl) (vb false) rfl rfl ?_
    refine ⟨m113.keep0, ?_⟩
    have hF117 : iPa x_p = false := by have hy := allN_f (f := iPaJ x_p k) (n := k) (k := j) (by omega) (by simp only [iPaJ, h14, h19, h29, h57, h61, h67, h72, h88, h115]; simp); have hz := allN_f (f := iPaG x_p) (n := x_p.Cands.length) (k := k) (by omega) (by simp only [iPaG, hy, h14, h19, h29, h57, h61, h67, h72, h88, h115]; simp); simp only [iPa, h14, h19, h29, h57, h61, h67, h72, h88, h115, hz]; simp
    rw [hF117]
    exact rfl
   refine cf h115 ?_
   refine wc_skip <| wq_blk_normal <| wq_then <| wc_region ?_
   refine ar (((j : Nat) : Int) + 1) wN ?_
   refine mv (vi (((j : Nat) : Int) + 1)) wN ?_
   refine wl_nil ?_
   refine wq_loopN (w0 := w9) [(va (L_75 x_p a1 c2)), (vp g6 0), u2x, (vi ((k : Nat) : Int)), (vp g45 0), U, (vp g104 0), (vp g6 0), (va (L_61 x_p.At)), (vb (F_impl_AddrOk x_p.At)), (vb (!(F_impl_AddrOk x_p.At))), (vb (!(F_impl_AddrOk x_p.At))), (vp g6 2), (vs a1 x_p.Cands.length c2), (vi (x_p.Cands.length : Int)), (vb (decide (3 < (x_p.Cands.length : Int)))), (vb (decide (3 < (x_p.Cands.length : Int)))), (vp g6 2), (vs a1 x_p.Cands.length c2), (vi (x_p.Cands.length : Int)), (vi ((k : Nat) : Int)), (vb (decide (((k : Nat) : Int) < (x_p.Cands.length : Int)))), (vi ((k : Nat) : Int)), (ve (vs a1 x_p.Cands.length c2) ((((k : Nat) : Int)).toNat * 4)), (va [(vi (((x_p.Cands.getD k z_PCand).A).Host)), (vi (((x_p.Cands.getD k z_PCand).A).Port)), (vs a38 (x_p.Cands.getD k z_PCand).Draw.length c39), (vi ((x_p.Cands.getD k z_PCand).Until))]), (vp g45 0), (va (L_61 ((x_p.Cands.getD k z_PCand).A))), (vb (F_impl_AddrOk ((x_p.Cands.getD k z_PCand).A))), (vb (!(F_impl_AddrOk ((x_p.Cands.getD k z_PCand).A)))), (vb (!(F_impl_AddrOk ((x_p.Cands.getD k z_PCand).A)))), (vp g45 0), (va (L_61 ((x_p.Cands.getD k z_PCand).A))), (vp g6 0), (va (L_61 x_p.At)), (vb (decide ((((x_p.Cands.getD k z_PCand).A).Host) = x_p.At.Host) && decide ((((x_p.Cands.getD k z_PCand).A).Port) = x_p.At.Port))), (vb (decide ((((x_p.Cands.getD k z_PCand).A).Host) = x_p.At.Host) && decide ((((x_p.Cands.getD k z_PCand).A).Port) = x_p.At.Port))), (vb (decide ((((x_p.Cands.getD k z_PCand).A).Host) = x_p.At.Host) && decide ((((x_p.Cands.getD k z_PCand).A).Port) = x_p.At.Port))), (vp g45 2), (vs a38 (x_p.Cands.getD k z_PCand).Draw.length c39), (vb (F_impl_isNonce ((x_p.Cands.getD k z_PCand).Draw))), (vb (!(F_impl_isNonce ((x_p.Cands.getD k z_PCand).Draw)))), (vb (!(F_impl_isNonce ((x_p.Cands.getD k z_PCand).Draw)))), (vb (!(F_impl_isNonce ((x_p.Cands.getD k z_PCand).Draw)))), (vp g45 3), (vi ((x_p.Cands.getD k z_PCand).Until)), (vb (F_impl_within ((x_p.Cands.getD k z_PCand).Until) 0 1000006)), (vb (!(F_impl_within ((x_p.Cands.getD k z_PCand).Until) 0 1000006))), (vb (!(F_impl_within ((x_p.Cands.getD k z_PCand).Until) 0 1000006))), (vp g6 2), (vs a1 x_p.Cands.length c2), (vi ((k : Nat) : Int)), (vs (subA a1 c2 0 4) (k - 0) (c2 - 0)), (vi ((k - 0) : Int)), (vi (((j + 1) : Nat) : Int)), (vb (decide (((j : Nat) : Int) < ((k - 0) : Int)))), (ve (vs (subA a1 c2 0 4) (k - 0) (c2 - 0)) ((((j : Nat) : Int)).toNat * 4)), (va [(vi ((((x_p.Cands.take k).getD j z_PCand).A).Host)), (vi ((((x_p.Cands.take k).getD j z_PCand).A).Port)), (vs a97 ((x_p.Cands.take k).getD j z_PCand).Draw.length c98), (vi (((x_p.Cands.take k).getD j z_PCand).Until))]), (vp g104 0), (va (L_61 (((x_p.Cands.take k).getD j z_PCand).A))), (vp g45 0), (va (L_61 ((x_p.Cands.getD k z_PCand).A))), (vb (decide (((((x_p.Cands.take k).getD j z_PCand).A).Host) = (((x_p.Cands.getD k z_PCand).A).Host)) && decide (((((x_p.Cands.take k).getD j z_PCand).A).Port) = (((x_p.Cands.getD k z_PCand).A).Port)))), (vi (((j : Nat) : Int) + 1)), u63x] rfl ?_ ?_ ?_
   · exact ⟨rfl, rfl, rfl, rfl, rfl, rfl, rfl, rfl, rfl, rfl, rfl, rfl, rfl, rfl, rfl, rfl, rfl, rfl, rfl, rfl, rfl, rfl, rfl, rfl, rfl, rfl, rfl, rfl, rfl, rfl, rfl, rfl, rfl, rfl, rfl, rfl, rfl, rfl, rfl, rfl, rfl, rfl, rfl, rfl, rfl, rfl, rfl, rfl, rfl, rfl, rfl, rfl, rfl, (congrArg (Value.int .i64) (show ((((j : Nat) : Int) + 1) : Int) = (((j + 1) : Nat) : Int) by omega)), rfl, rfl, rfl, rfl, rfl, rfl, rfl, rfl, rfl, rfl, trivial⟩
   · exact ⟨(j + 1), u2x, (vp g104 0), (vb (decide (((j : Nat) : Int) < ((k - 0) : Int)))), (ve (vs (subA a1 c2 0 4) (k - 0) (c2 - 0)) ((((j : Nat) : Int)).toNat * 4)), (va [(vi ((((x_p.Cands.take k).getD j z_PCand).A).Host)), (vi ((((x_p.Cands.take k).getD j z_PCand).A).Port)), (vs a97 ((x_p.Cands.take k).getD j z_PCand).Draw.length c98), (vi (((x_p.Cands.take k).getD j z_PCand).Until))]), (vp g104 0), (va (L_61 (((x_p.Cands.take k).getD j z_PCand).A))), (vp g45 0), (va (L_61 ((x_p.Cands.getD k z_PCand).A))), (vb (decide (((((x_p.Cands.take k).getD j z_PCand).A).Host) = (((x_p.Cands.getD k z_PCand).A).Host)) && decide (((((x_p.Cands.take k).getD j z_PCand).A).Port) = (((x_p.Cands.getD k z_PCand).A).Port)))), (vi (((j : Nat) : Int) + 1)), rfl, m113, ((((Ch.refl (fun k => w8.heap.size ≤ k) w8).ext k85 (fun k hk => Nat.le_trans (Nat.le_refl _) hk)).extk k107).ext k110 (fun k hk => by subst hk; exact Nat.le_trans k85.size p105)), (by omega), (by first | (intro m hm; omega) | exact allN_next (by assumption) (by simp only [iPaJ, h14, h19, h29, h57, h61, h67, h72, h88, h115]; simp))⟩
   · show k - ((((j + 1) : Nat) : Int)).toNat < k - (((j : Nat) : Int)).toNat; omega

def F_laws_eqAddr (x_a : PAddr) (x_b : PAddr) : (Bool) := bif (decide (x_a.Host = x_b.Host)) then (bif (decide (x_a.Port = x_b.Port)) then (true) else (false)) else (false)
theorem C_laws_eqAddr (w0 : World) (v_x_a : Value) (x_a : PAddr) (r_x_a : R_61 w0 v_x_a x_a) (v_x_b : Value) (x_b : PAddr) (r_x_b : R_61 w0 v_x_b x_b)  : Fn Try.prog 86 #[v_x_a, v_x_b] w0 (fun v w' => Keep w0 w' ∧ O_4 w' w0.heap.size v (F_laws_eqAddr x_a x_b)) := by
 obtain rfl := r_x_a
 obtain rfl := r_x_b
 refine fn_of (n := 15) (l := [(va (L_61 x_a)), (va (L_61 x_b)), U, U, U, U, U, U, U, U, U, U, U, U, U]) Try.func86 rfl rfl (by kernel_rfl) rfl ?_
 refine sr ?_
 refine bx (L_61 x_a) wN ?_
 intro g1 w1 p2 p3 k4 b5
 have m6 := (Ch.base w0).extk k4
 refine bx (L_61 x_b) wN ?_
 intro g7 w2 p8 p9 k10 b11
 have m12 := m6.extk k10
 refine ag (vb false) wN ?_
 refine wl_nil <| wq_then <| wc_seq <| sr ?_
 refine pu (vp g1 0) wN ?_
 have b13 := (b5.kp k10)
 refine ld (vi x_a.Host) wN isAgg_3 b13 ?_
 refine pu (vp g7 0) wN ?_
 refine ld (vi x_b.Host) wN isAgg_3 b11 ?_
 refine pu (vb (!(decide (x_a.Host = x_b.Host)))) wN ?_
 refine wl_nil <| wq_then ?_
 rcases bf (decide (x_a.Host = x_b.Host)) with h14 | h14
 ·have q21 := of_decide_eq_false h14
  refine ct (congrArg not h14) ?_
  refine sr ?_
  refine ag (vb false) wN ?_
  refine wl_nil <| wq_then <| wc_ret <| wq_then_ret ?_
  refine ret_1 (.inl rfl) (vb false) rfl rfl ?_
  refine ⟨m12.keep0, ?_⟩
  have hF22 : F_laws_eqAddr x_a x_b = false := by simp only [F_laws_eqAddr, h14, cond_true, cond_false]
  rw [hF22]
  exact rfl
 have q15 := of_decide_eq_true h14
 refine cf (congrArg not h14) ?_
 refine wc_skip <| wq_then <| wc_seq <| sr ?_
 refine pu (vp g1 1) wN ?_
 refine ld (vi x_a.Port) wN isAgg_3 b13 ?_
 refine pu (vp g7 1) wN ?_
 refine ld (vi x_b.Port) wN isAgg_3 b11 ?_
 refine pu (vb (!(decide (x_a.Port = x_b.Port)))) wN ?_
 refine wl_nil <| wq_then ?_
 rcases bf (decide (x_a.Port = x_b.Port)) with h16 | h16
 ·have q19 := of_decide_eq_false h16
  refine ct (congrArg not h16) ?_
  refine sr ?_
  refine ag (vb false) wN ?_
  refine wl_nil <| wq_then <| wc_ret <| wq_then_ret ?_
  refine ret_1 (.inl rfl) (vb false) rfl rfl ?_
  refine ⟨m12.keep0, ?_⟩
  have hF20 : F_laws_eqAddr x_a x_b = false := by simp only [F_laws_eqAddr, h14, h16, cond_true, cond_false]
  rw [hF20]
  exact rfl
 have q17 := of_decide_eq_true h16
 refine cf (congrArg not h16) ?_
 refine wc_skip <| wq_then <| sr ?_
 refine ag (vb true) wN ?_
 refine wl_nil <| wq_then <| wc_ret ?_
 refine ret_1 (.inl rfl) (vb true) rfl rfl ?_
 refine ⟨m12.keep0, ?_⟩
 have hF18 : F_laws_eqAddr x_a x_b = true := by simp only [F_laws_eqAddr, h14, h16, cond_true, cond_false]
 rw [hF18]
 exact rfl

theorem C_laws_eqByteS (w0 : World) (v_x_a : Value) (x_a : List UInt8) (r_x_a : R_22 w0 v_x_a x_a) (v_x_b : Value) (x_b : List UInt8) (r_x_b : R_22 w0 v_x_b x_b)  : Fn Try.prog 19 #[v_x_a, v_x_b] w0 (fun v w' => Keep w0 w' ∧ O_4 w' w0.heap.size v (eqB x_a x_b)) := by
 obtain ⟨a1, c2, rfl, r3, s4⟩ := r_x_a
 obtain ⟨a6, c7, rfl, r8, s9⟩ := r_x_b
 refine fn_of (n := 26) (l := [(vs a1 x_a.length c2), (vs a6 x_b.length c7), U, U, U, U, U, U, U, U, U, U, U, U, U, U, U, U, U, U, U, U, U, U, U, U]) Try.func19 rfl rfl (by kernel_rfl) rfl ?_
 refine sr ?_
 refine ag (vb false) wN ?_
 refine wl_nil <| wq_then <| wc_seq <| sr ?_
 refine mv (vs a1 x_a.length c2) wN ?_
 refine ln wN slTy_22 r3 ?_
 refine mv (vs a6 x_b.length c7) wN ?_
 refine ln wN slTy_22 r8 ?_
 refine pu (vb (!(decide ((x_a.length : Int) = (x_b.length : Int))))) wN ?_
 refine wl_nil <| wq_then ?_
 rcases bf (decide ((x_a.length : Int) = (x_b.length : Int))) with h11 | h11
 ·have q43 := of_decide_eq_false h11
  refine ct (congrArg not h11) ?_
  refine sr ?_
  refine ag (vb false) wN ?_
  refine wl_nil <| wq_then <| wc_ret <| wq_then_ret ?_
  refine ret_1 (.inl rfl) (vb false) rfl rfl ?_
  refine ⟨Ch.refl _ _, ?_⟩
  have hF44 : eqB x_a x_b = false := by first | exact eqB_len (by assumption) | exact eqB_el (by assumption) | exact eqB_all (by assumption) (by omega) (by omega)
  rw [hF44]
  exact rfl
 have q12 := of_decide_eq_true h11
 refine cf (congrArg not h11) ?_
 refine wc_skip <| wq_then <| wc_seq <| sr ?_
 refine ag (vi 0) wN ?_
 refine wl_nil <| wq_then <| wc_block ?_
 refine wc_norm [(vs a1 x_a.length c2), (vs a6 x_b.length c7), U, U, (vb false), (vi 0), (vs a1 x_a.length c2), (vi (x_a.length : Int)), (vs a6 x_b.length c7), (vi (x_b.length : Int)), (vb (!(decide ((x_a.length : Int) = (x_b.length : Int))))), U, U, U, U, U, U, U, U, U, U, U, U, U, U, U] rfl ⟨rfl, rfl, rfl, rfl, rfl, rfl, rfl, rfl, rfl, rfl, rfl, rfl, rfl, rfl, rfl, rfl, rfl, rfl, rfl, rfl, rfl, rfl, rfl, rfl, rfl, rfl, trivial⟩ ?_
 refine wc_loop (fun e' w' => ∃ (k : Nat) (u4x u11x u12x u13x u14x u15x u16x u17x u18x u19x u20x u21x u22x u23x u24x u25x : Value), e' = lst [(vs a1 x_a.length c2), (vs a6 x_b.length c7), U, U, u4x, (vi ((k : Nat) : Int)), (vs a1 x_a.length c2), (vi (x_a.length : Int)), (vs a6 x_b.length c7), (vi (x_b.length : Int)), (vb (!(decide ((x_a.length : Int) = (x_b.length : Int))))), u11x, u12x, u13x, u14x, u15x, u16x, u17x, u18x, u19x, u20x, u21x, u22x, u23x, u24x, u25x] ∧ Ch (fun k => w0.heap.size ≤ k) w0 w' ∧ Ch (fun k => w0.heap.size ≤ k) w0 w' ∧ k ≤ x_a.length ∧ x_a.take k = x_b.take k) (fun e' _ => x_a.length - ((intOf (e' 5))).toNat) ?_ ?_
 ·exact ⟨0, (vb false), U, U, U, U, U, U, U, U, U, U, U, U, U, U, U, (congrArg (fun (x5z : Value) => lst [(vs a1 x_a.length c2), (vs a6 x_b.length c7), U, U, (vb false), x5z, (vs a1 x_a.length c2), (vi (x_a.length : Int)), (vs a6 x_b.length c7), (vi (x_b.length : Int)), (vb (!(decide ((x_a.length : Int) = (x_b.length : Int))))), U, U, U, U, U, U, U, U, U, U, U, U, U, U, U]) (congrArg (Value.int .i64) (show (0 : Int) = ((0 : Nat) : Int) by omega))), (Ch.base w0), (Ch.refl (fun k => w0.heap.size ≤ k) w0), (by omega), (by first | rfl | exact eqB_next (by assumption) (by omega) (by omega) (by assumption))⟩
 ·rintro _ w1 ⟨k, u4x, u11x, u12x, u13x, u14x, u15x, u16x, u17x, u18x, u19x, u20x, u21x, u22x, u23x, u24x, u25x, rfl, m13, k14, i15, i16⟩
  refine wc_seq <| sr ?_
  refine mv (vi ((k : Nat) : Int)) wN ?_
  refine mv (vs a1 x_a.length c2) wN ?_
  refine ln wN slTy_22 (r3.from0 m13) ?_
  refine pu (vb (decide (((k : Nat) : Int) < (x_a.length : Int)))) wN ?_
  refine wl_nil <| wq_then ?_
  rcases bf (decide (((k : Nat) : Int) < (x_a.length : Int))) with h17 | h17
  ·have q41 := of_decide_eq_false h17
   refine cf h17 ?_
   refine wc_exit <| wq_then_exit <| wq_then_exit <| wq_blk_exit <| wq_then <| sr ?_
   refine ag (vb true) wN ?_
   refine wl_nil <| wq_then <| wc_ret ?_
   refine ret_1 (.inl rfl) (vb true) rfl rfl ?_
   refine ⟨m13.keep0, ?_⟩
   have hF42 : eqB x_a x_b = true := by first | exact eqB_len (by assumption) | exact eqB_el (by assumption) | exact eqB_all (by assumption) (by omega) (by omega)
   rw [hF42]
   exact rfl
  have q18 := of_decide_eq_true h17
  refine ct h17 ?_
  refine wc_skip <| wq_then <| wc_seq <| wc_block <| wc_seq ?_
  refine wc_drawT ([(17, [], [], (fun _ v _ => v = (vs a1 x_a.length c2))), (18, [], [], (fun _ v _ => v = (vi ((k : Nat) : Int)))), (19, [], [0, 1], (fun _ v _ => v = (ve (vs a1 x_a.length c2) ((((k : Nat) : Int)).toNat * 1)))), (20, [], [0, 1, 2], (fun _ v _ => v = (v8 ((x_a.getD k 0).toNat : Int)))), (21, [], [], (fun _ v _ => v = (vs a6 x_b.length c7))), (22, [], [], (fun _ v _ => v = (vi ((k : Nat) : Int)))), (23, [], [4, 5], (fun _ v _ => v = (ve (vs a6 x_b.length c7) ((((k : Nat) : Int)).toNat * 1)))), (24, [], [4, 5, 6], (fun _ v _ => v = (v8 ((x_b.getD k 0).toNat : Int))))] : GV) (fun _ w' => Keep w1 w') [] mixed rfl (by kernel_rfl) (by kernel_rfl) ?_ (fun _ _ h => h) (fun _ _ _ _ h _ k => h.trans k) trivial ?_ ?_ ?_
  ·exact ⟨(fun _ _ _ _ h _ => h), (fun _ _ _ _ _ h => h), ⟨(fun _ _ _ _ h _ => h), (fun _ _ _ _ _ h => h), ⟨(fun _ _ _ _ h _ => h), (fun _ _ _ _ _ h => h), ⟨(fun _ _ _ _ h _ => h), (fun _ _ _ _ _ h => h), ⟨(fun _ _ _ _ h _ => h), (fun _ _ _ _ _ h => h), ⟨(fun _ _ _ _ h _ => h), (fun _ _ _ _ _ h => h), ⟨(fun _ _ _ _ h _ => h), (fun _ _ _ _ _ h => h), ⟨(fun _ _ _ _ h _ => h), (fun _ _ _ _ _ h => h), trivial⟩⟩⟩⟩⟩⟩⟩⟩
  ·exact trivial
  ·refine ⟨?_, ⟨?_, ⟨?_, ⟨?_, ⟨?_, ⟨?_, ⟨?_, ⟨?_, trivial⟩⟩⟩⟩⟩⟩⟩⟩
   ·intro _ w2 k19 _
    have m20 := m13.extk k19
    rintro _ _ _ _ _ _ _ _
    show WL _ _ _ _ _ _ _
    refine mv (vs a1 x_a.length c2) wN ?_
    exact wl_finT (Ch.refl _ _) rfl
   ·intro _ w2 k21 _
    have m22 := m13.extk k21
    rintro _ _ _ _ _ _ _ _
    show WL _ _ _ _ _ _ _
    refine mv (vi ((k : Nat) : Int)) wN ?_
    exact wl_finT (Ch.refl _ _) rfl
   ·intro _ w2 k23 _
    have m24 := m13.extk k23
    rintro _ rfl _ rfl _ _ _ _ _ _
    show WL _ _ _ _ _ _ _
    refine wl_index wN ((k : Nat) : Int) rfl rfl rfl slTy_22 rfl rfl (r3.from0 m24) (by first | omega | (simp only [List.length_cons, List.length_nil, List.length_replicate, List.length_append, List.length_take, List.length_set, List.length_map]; omega)) (by first | omega | (simp only [List.length_cons, List.length_nil, List.length_replicate, List.length_append, List.length_take, List.length_set, List.length_map]; omega)) ?_
    exact wl_finT (Ch.refl _ _) rfl
   ·intro _ w2 k25 _
    have m26 := m13.extk k25
    rintro _ rfl _ rfl _ rfl _ _ _ _ _
    show WL _ _ _ _ _ _ _
    refine wl_loadE (bV (x_a.getD k 0)) wN rfl rfl rfl rfl isAgg_5 (r3.from0 m26) (bget (by simp) (by first | omega | (simp only [List.length_cons, List.length_nil, List.length_replicate, List.length_append, List.length_take, List.length_set, List.length_map]; omega))) ?_
    exact wl_finT (Ch.refl _ _) rfl
   ·intro _ w2 k27 _
    have m28 := m13.extk k27
    rintro _ _ _ _ _ _ _ _
    show WL _ _ _ _ _ _ _
    refine mv (vs a6 x_b.length c7) wN ?_
    exact wl_finT (Ch.refl _ _) rfl
   ·intro _ w2 k29 _
    have m30 := m13.extk k29
    rintro _ _ _ _ _ _ _ _
    show WL _ _ _ _ _ _ _
    refine mv (vi ((k : Nat) : Int)) wN ?_
    exact wl_finT (Ch.refl _ _) rfl
   ·intro _ w2 k31 _
    have m32 := m13.extk k31
    rintro _ _ _ _ _ rfl _ rfl _ _
    show WL _ _ _ _ _ _ _
    refine wl_index wN ((k : Nat) : Int) rfl rfl rfl slTy_22 rfl rfl (r8.from0 m32) (by first | omega | (simp only [List.length_cons, List.length_nil, List.length_replicate, List.length_append, List.length_take, List.length_set, List.length_map]; omega)) (by first | omega | (simp only [List.length_cons, List.length_nil, List.length_replicate, List.length_append, List.length_take, List.length_set, List.length_map]; omega)) ?_
    exact wl_finT (Ch.refl _ _) rfl
   ·intro _ w2 k33 _
    have m34 := m13.extk k33
    rintro _ _ _ _ _ rfl _ rfl _ rfl _
    show WL _ _ _ _ _ _ _
    refine wl_loadE (bV (x_b.getD k 0)) wN rfl rfl rfl rfl isAgg_5 (r8.from0 m34) (bget (by simp) (by first | omega | (simp only [List.length_cons, List.length_nil, List.length_replicate, List.length_append, List.length_take, List.length_set, List.length_map]; omega))) ?_
    exact wl_finT (Ch.refl _ _) rfl
  ·intro _ w2 k35
   have m36 := m13.extk k35
   rintro _ rfl _ rfl _ rfl _ rfl _ rfl _ rfl _ rfl _ rfl
   show WL _ _ _ _ _ _ _
   refine pu (vb (!(decide (((x_a.getD k 0).toNat : Int) = ((x_b.getD k 0).toNat : Int))))) wN ?_
   refine wl_nil <| wq_then ?_
   rcases bf (decide (((x_a.getD k 0).toNat : Int) = ((x_b.getD k 0).toNat : Int))) with h37 | h37
   ·have q39 := of_decide_eq_false h37
    refine ct (congrArg not h37) ?_
    refine sr ?_
    refine ag (vb false) wN ?_
    refine wl_nil <| wq_then <| wc_ret <| wq_blk_ret <| wq_then_ret <| wq_then_ret <| wq_blk_ret <| wq_then_ret ?_
    refine ret_1 (.inl rfl) (vb false) rfl rfl ?_
    refine ⟨m36.keep0, ?_⟩
    have hF40 : eqB x_a x_b = false := by first | exact eqB_len (by assumption) | exact eqB_el (by assumption) | exact eqB_all (by assumption) (by omega) (by omega)
    rw [hF40]
    exact rfl
   have q38 := of_decide_eq_true h37
   refine cf (congrArg not h37) ?_
   refine wc_skip <| wq_blk_normal <| wq_then <| wc_region ?_
   refine mv (vi ((k : Nat) : Int)) wN ?_
   refine ar (((k : Nat) : Int) + 1) wN ?_
   refine ag (vi (((k : Nat) : Int) + 1)) wN ?_
   refine wl_nil ?_
   refine wq_loopN (w0 := w1) [(vs a1 x_a.length c2), (vs a6 x_b.length c7), U, U, u4x, (vi (((k + 1) : Nat) : Int)), (vs a1 x_a.length c2), (vi (x_a.length : Int)), (vs a6 x_b.length c7), (vi (x_b.length : Int)), (vb (!(decide ((x_a.length : Int) = (x_b.length : Int))))), (vi ((k : Nat) : Int)), (vs a1 x_a.length c2), (vi (x_a.length : Int)), (vb (decide (((k : Nat) : Int) < (x_a.length : Int)))), (vi ((k : Nat) : Int)), (vi (((k : Nat) : Int) + 1)), (vs a1 x_a.length c2), (vi ((k : Nat) : Int)), (ve (vs a1 x_a.length c2) ((((k : Nat) : Int)).toNat * 1)), (v8 ((x_a.getD k 0).toNat : Int)), (vs a6 x_b.length c7), (vi ((k : Nat) : Int)), (ve (vs a6 x_b.length c7) ((((k : Nat) : Int)).toNat * 1)), (v8 ((x_b.getD k 0).toNat : Int)), (vb (!(decide (((x_a.getD k 0).toNat : Int) = ((x_b.getD k 0).toNat : Int)))))] rfl ?_ ?_ ?_
   · exact ⟨rfl, rfl, rfl, rfl, rfl, (congrArg (Value.int .i64) (show ((((k : Nat) : Int) + 1) : Int) = (((k + 1) : Nat) : Int) by omega)), rfl, rfl, rfl, rfl, rfl, rfl, rfl, rfl, rfl, rfl, rfl, rfl, rfl, rfl, rfl, rfl, rfl, rfl, rfl, rfl, trivial⟩
   · exact ⟨(k + 1), u4x, (vi ((k : Nat) : Int)), (vs a1 x_a.length c2), (vi (x_a.length : Int)), (vb (decide (((k : Nat) : Int) < (x_a.length : Int)))), (vi ((k : Nat) : Int)), (vi (((k : Nat) : Int) + 1)), (vs a1 x_a.length c2), (vi ((k : Nat) : Int)), (ve (vs a1 x_a.length c2) ((((k : Nat) : Int)).toNat * 1)), (v8 ((x_a.getD k 0).toNat : Int)), (vs a6 x_b.length c7), (vi ((k : Nat) : Int)), (ve (vs a6 x_b.length c7) ((((k : Nat) : Int)).toNat * 1)), (v8 ((x_b.getD k 0).toNat : Int)), (vb (!(decide (((x_a.getD k 0).toNat : Int) = ((x_b.getD k 0).toNat : Int))))), rfl, m36, (((Ch.refl (fun k => w0.heap.size ≤ k) w0).ext k14 (fun k hk => Nat.le_trans (Nat.le_refl _) hk)).extk k35), (by omega), (by first | rfl | exact eqB_next (by assumption) (by omega) (by omega) (by assumption))⟩
   · show x_a.length - ((((k + 1) : Nat) : Int)).toNat < x_a.length - (((k : Nat) : Int)).toNat; omega

def R_109 (w : World) (v : Value) (x : (PCand)) : Prop := ∃ (a1 : Option Addr) (c1 : Nat), v = .agg #[.int .i64 x.A.Host, .int .i64 x.A.Port, .slice a1 x.Draw.length c1, .int .i64 x.Until] ∧ Rd w 1 (.slice a1 x.Draw.length c1) x.Draw.length (x.Draw.map bV) ∧ x.Draw.length ≤ 1073741824
def F_laws_eqCand (x_a : PCand) (x_b : PCand) : (Bool) := bif (F_laws_eqAddr x_a.A x_b.A) then (bif (eqB x_a.Draw x_b.Draw) then (bif (decide (x_a.Until = x_b.Until)) then (true) else (false)) else (false)) else (false)
theorem C_laws_eqCand (w0 : World) (v_x_a : Value) (x_a : PCand) (r_x_a : R_109 w0 v_x_a x_a) (v_x_b : Value) (x_b : PCand) (r_x_b : R_109 w0 v_x_b x_b)  : Fn Try.prog 118 #[v_x_a, v_x_b] w0 (fun v w' => Keep w0 w' ∧ O_4 w' w0.heap.size v (F_laws_eqCand x_a x_b)) := by
 obtain ⟨a1, c2, rfl, r3, s4⟩ := r_x_a
 obtain ⟨a6, c7, rfl, r8, s9⟩ := r_x_b
 refine fn_of (n := 22) (l := [(va (L_109 x_a a1 c2)), (va (L_109 x_b a6 c7)), U, U, U, U, U, U, U, U, U, U, U, U, U, U, U, U, U, U, U, U]) Try.func118 rfl rfl (by kernel_rfl) rfl ?_
 refine sr ?_
 refine bx (L_109 x_a a1 c2) wN ?_
 intro g11 w1 p12 p13 k14 b15
 have m16 := (Ch.base w0).extk k14
 refine bx (L_109 x_b a6 c7) wN ?_
 intro g17 w2 p18 p19 k20 b21
 have m22 := m16.extk k20
 refine ag (vb false) wN ?_
 refine wl_nil <| wq_then <| wc_seq <| sr ?_
 refine pu (vp g11 0) wN ?_
 have b23 := (b15.kp k20)
 refine lN (L_61 x_a.A) wN isAgg_61 sizeOf_61 b23 ?_
 refine pu (vp g17 0) wN ?_
 refine lN (L_61 x_b.A) wN isAgg_61 sizeOf_61 b21 ?_
 refine cl wN (C_laws_eqAddr w2 _ x_a.A (mR_61) _ x_b.A (mR_61)) ?_
 rintro _ w3 ⟨k24, rfl⟩
 have m25 := m22.extk k24
 refine pu (vb (!(F_laws_eqAddr x_a.A x_b.A))) wN ?_
 refine wl_nil <| wq_then ?_
 rcases bf (F_laws_eqAddr x_a.A x_b.A) with h26 | h26
 ·refine ct (congrArg not h26) ?_
  refine sr ?_
  refine ag (vb false) wN ?_
  refine wl_nil <| wq_then <| wc_ret <| wq_then_ret ?_
  refine ret_1 (.inl rfl) (vb false) rfl rfl ?_
  refine ⟨m25.keep0, ?_⟩
  have hF44 : F_laws_eqCand x_a x_b = false := by simp only [F_laws_eqCand, h26, cond_true, cond_false]
  rw [hF44]
  exact rfl
 refine cf (congrArg not h26) ?_
 refine wc_skip <| wq_then <| wc_seq <| sr ?_
 refine pu (vp g11 2) wN ?_
 have b28 := (b23.kp k24)
 refine ld (vs a1 x_a.Draw.length c2) wN isAgg_22 b28 ?_
 refine pu (vp g17 2) wN ?_
 have b29 := (b21.kp k24)
 refine ld (vs a6 x_b.Draw.length c7) wN isAgg_22 b29 ?_
 refine cl wN (C_laws_eqByteS w3 _ x_a.Draw (mR_22 (r3.from0 m25) s4) _ x_b.Draw (mR_22 (r8.from0 m25) s9)) ?_
 rintro _ w4 ⟨k30, rfl⟩
 have m31 := m25.extk k30
 refine pu (vb (!(eqB x_a.Draw x_b.Draw))) wN ?_
 refine wl_nil <| wq_then ?_
 rcases bf (eqB x_a.Draw x_b.Draw) with h32 | h32
 ·refine ct (congrArg not h32) ?_
  refine sr ?_
  refine ag (vb false) wN ?_
  refine wl_nil <| wq_then <| wc_ret <| wq_then_ret ?_
  refine ret_1 (.inl rfl) (vb false) rfl rfl ?_
  refine ⟨m31.keep0, ?_⟩
  have hF42 : F_laws_eqCand x_a x_b = false := by simp only [F_laws_eqCand, h26, h32, cond_true, cond_false]
  rw [hF42]
  exact rfl
 refine cf (congrArg not h32) ?_
 refine wc_skip <| wq_then <| wc_seq <| sr ?_
 refine pu (vp g11 3) wN ?_
 have b34 := (b28.kp k30)
 refine ld (vi x_a.Until) wN isAgg_3 b34 ?_
 refine pu (vp g17 3) wN ?_
 have b35 := (b29.kp k30)
 refine ld (vi x_b.Until) wN isAgg_3 b35 ?_
 refine pu (vb (!(decide (x_a.Until = x_b.Until)))) wN ?_
 refine wl_nil <| wq_then ?_
 rcases bf (decide (x_a.Until = x_b.Until)) with h36 | h36
 ·have q39 := of_decide_eq_false h36
  refine ct (congrArg not h36) ?_
  refine sr ?_
  refine ag (vb false) wN ?_
  refine wl_nil <| wq_then <| wc_ret <| wq_then_ret ?_
  refine ret_1 (.inl rfl) (vb false) rfl rfl ?_
  refine ⟨m31.keep0, ?_⟩
  have hF40 : F_laws_eqCand x_a x_b = false := by simp only [F_laws_eqCand, h26, h32, h36, cond_true, cond_false]
  rw [hF40]
  exact rfl
 have q37 := of_decide_eq_true h36
 refine cf (congrArg not h36) ?_
 refine wc_skip <| wq_then <| sr ?_
 refine ag (vb true) wN ?_
 refine wl_nil <| wq_then <| wc_ret ?_
 refine ret_1 (.inl rfl) (vb true) rfl rfl ?_
 refine ⟨m31.keep0, ?_⟩
 have hF38 : F_laws_eqCand x_a x_b = true := by simp only [F_laws_eqCand, h26, h32, h36, cond_true, cond_false]
 rw [hF38]
 exact rfl

def R_73 (w : World) (v : Value) (x : (List PCand)) : Prop := ∃ (a1 : Option Addr) (c1 : Nat), v = .slice a1 x.length c1 ∧ RLv LT_109 w 1073741824 a1 x.length c1 x ∧ x.length ≤ 1073741824
theorem mR_109 {w : World} {x : PCand} {a1 : Option Addr} {c1 : Nat} (h1 : Rd w 1 (.slice a1 x.Draw.length c1) x.Draw.length (x.Draw.map bV)) (l1 : x.Draw.length ≤ 1073741824) : R_109 w (va (L_109 x a1 c1)) x := ⟨_, _, rfl, h1, l1⟩
theorem eq_iff_PCand (a b : PCand) : F_laws_eqCand a b = decide (a = b) := by
  obtain ⟨⟨a00, a01⟩, a1, a2⟩ := a
  obtain ⟨⟨b00, b01⟩, b1, b2⟩ := b
  simp only [cond_eq_ite, eqB, F_laws_eqCand, F_laws_eqAddr, PCand.mk.injEq, PAddr.mk.injEq]
  grind
def eqF_PCand (a b : List PCand) : Bool := decide (a = b)
theorem C_laws_eqCandS (w0 : World) (v_x_a : Value) (x_a : List PCand) (r_x_a : R_73 w0 v_x_a x_a) (v_x_b : Value) (x_b : List PCand) (r_x_b : R_73 w0 v_x_b x_b)  : Fn Try.prog 93 #[v_x_a, v_x_b] w0 (fun v w' => Keep w0 w' ∧ O_4 w' w0.heap.size v (eqF_PCand x_a x_b)) := by
 obtain ⟨a1, c2, rfl, r3, s4⟩ := r_x_a
 obtain ⟨a6, c7, rfl, r8, s9⟩ := r_x_b
 refine fn_of (n := 27) (l := [(vs a1 x_a.length c2), (vs a6 x_b.length c7), U, U, U, U, U, U, U, U, U, U, U, U, U, U, U, U, U, U, U, U, U, U, U, U, U]) Try.func93 rfl rfl (by kernel_rfl) rfl ?_
 refine sr ?_
 refine ag (vb false) wN ?_
 refine wl_nil <| wq_then <| wc_seq <| sr ?_
 refine mv (vs a1 x_a.length c2) wN ?_
 obtain ⟨y11, r12⟩ := RLv.row r3
 refine ln wN slTy_73 r12 ?_
 refine mv (vs a6 x_b.length c7) wN ?_
 obtain ⟨y13, r14⟩ := RLv.row r8
 refine ln wN slTy_73 r14 ?_
 refine pu (vb (!(decide ((x_a.length : Int) = (x_b.length : Int))))) wN ?_
 refine wl_nil <| wq_then ?_
 rcases bf (decide ((x_a.length : Int) = (x_b.length : Int))) with h15 | h15
 ·have q121 := of_decide_eq_false h15
  refine ct (congrArg not h15) ?_
  refine sr ?_
  refine ag (vb false) wN ?_
  refine wl_nil <| wq_then <| wc_ret <| wq_then_ret ?_
  refine ret_1 (.inl rfl) (vb false) rfl rfl ?_
  refine ⟨Ch.refl _ _, ?_⟩
  have hF122 : eqF_PCand x_a x_b = false := by first | exact eqL_len (by assumption) | exact eqL_el (z := z_PCand) (fun h => by have hq := ‹F_laws_eqCand (x_a.getD k z_PCand) (x_b.getD k z_PCand) = false›; rw [eq_iff_PCand, h] at hq; simp at hq) | exact eqL_all (by assumption) (by omega) (by omega)
  rw [hF122]
  exact rfl
 have q16 := of_decide_eq_true h15
 refine cf (congrArg not h15) ?_
 refine wc_skip <| wq_then <| wc_seq <| sr ?_
 refine ag (vi 0) wN ?_
 refine wl_nil <| wq_then <| wc_block ?_
 refine wc_norm [(vs a1 x_a.length c2), (vs a6 x_b.length c7), U, U, (vb false), (vi 0), (vs a1 x_a.length c2), (vi (x_a.length : Int)), (vs a6 x_b.length c7), (vi (x_b.length : Int)), (vb (!(decide ((x_a.length : Int) = (x_b.length : Int))))), U, U, U, U, U, U, U, U, U, U, U, U, U, U, U, U] rfl ⟨rfl, rfl, rfl, rfl, rfl, rfl, rfl, rfl, rfl, rfl, rfl, rfl, rfl, rfl, rfl, rfl, rfl, rfl, rfl, rfl, rfl, rfl, rfl, rfl, rfl, rfl, rfl, trivial⟩ ?_
 refine wc_loop (fun e' w' => ∃ (k : Nat) (u4x u11x u12x u13x u14x u15x u16x u17x u18x u19x u20x u21x u22x u23x u24x u25x u26x : Value), e' = lst [(vs a1 x_a.length c2), (vs a6 x_b.length c7), U, U, u4x, (vi ((k : Nat) : Int)), (vs a1 x_a.length c2), (vi (x_a.length : Int)), (vs a6 x_b.length c7), (vi (x_b.length : Int)), (vb (!(decide ((x_a.length : Int) = (x_b.length : Int))))), u11x, u12x, u13x, u14x, u15x, u16x, u17x, u18x, u19x, u20x, u21x, u22x, u23x, u24x, u25x, u26x] ∧ Ch (fun k => w0.heap.size ≤ k) w0 w' ∧ Ch (fun k => w0.heap.size ≤ k) w0 w' ∧ k ≤ x_a.length ∧ x_a.take k = x_b.take k) (fun e' _ => x_a.length - ((intOf (e' 5))).toNat) ?_ ?_
 ·exact ⟨0, (vb false), U, U, U, U, U, U, U, U, U, U, U, U, U, U, U, U, (congrArg (fun (x5z : Value) => lst [(vs a1 x_a.length c2), (vs a6 x_b.length c7), U, U, (vb false), x5z, (vs a1 x_a.length c2), (vi (x_a.length : Int)), (vs a6 x_b.length c7), (vi (x_b.length : Int)), (vb (!(decide ((x_a.length : Int) = (x_b.length : Int))))), U, U, U, U, U, U, U, U, U, U, U, U, U, U, U, U]) (congrArg (Value.int .i64) (show (0 : Int) = ((0 : Nat) : Int) by omega))), (Ch.base w0), (Ch.refl (fun k => w0.heap.size ≤ k) w0), (by omega), (by first | rfl | exact eqL_next (z := z_PCand) (by assumption) (by omega) (by omega) (by have := eq_iff_PCand; simp_all))⟩
 ·rintro _ w1 ⟨k, u4x, u11x, u12x, u13x, u14x, u15x, u16x, u17x, u18x, u19x, u20x, u21x, u22x, u23x, u24x, u25x, u26x, rfl, m17, k18, i19, i20⟩
  refine wc_seq <| sr ?_
  refine mv (vi ((k : Nat) : Int)) wN ?_
  refine mv (vs a1 x_a.length c2) wN ?_
  obtain ⟨y21, r22⟩ := RLv.row (r3.from0 m17)
  refine ln wN slTy_73 r22 ?_
  refine pu (vb (decide (((k : Nat) : Int) < (x_a.length : Int)))) wN ?_
  refine wl_nil <| wq_then ?_
  rcases bf (decide (((k : Nat) : Int) < (x_a.length : Int))) with h23 | h23
  ·have q119 := of_decide_eq_false h23
   refine cf h23 ?_
   refine wc_exit <| wq_then_exit <| wq_then_exit <| wq_blk_exit <| wq_then <| sr ?_
   refine ag (vb true) wN ?_
   refine wl_nil <| wq_then <| wc_ret ?_
   refine ret_1 (.inl rfl) (vb true) rfl rfl ?_
   refine ⟨m17.keep0, ?_⟩
   have hF120 : eqF_PCand x_a x_b = true := by first | exact eqL_len (by assumption) | exact eqL_el (z := z_PCand) (fun h => by have hq := ‹F_laws_eqCand (x_a.getD k z_PCand) (x_b.getD k z_PCand) = false›; rw [eq_iff_PCand, h] at hq; simp at hq) | exact eqL_all (by assumption) (by omega) (by omega)
   rw [hF120]
   exact rfl
  have q24 := of_decide_eq_true h23
  refine ct h23 ?_
  refine wc_skip <| wq_then <| wc_seq <| wc_block <| wc_seq ?_
  obtain ⟨y55, l56, r57, e58, u59⟩ := RLv.el z_PCand (i := k) r3 (by first | omega | (simp only [List.length_cons, List.length_nil, List.length_replicate, List.length_append, List.length_take, List.length_set, List.length_map]; omega))
  obtain ⟨a60, c61, l65, rfl, r62, s63, u66⟩ := SubR.c u59
  obtain rfl := SubR.n u66
  obtain ⟨y67, l68, r69, e70, u71⟩ := RLv.el z_PCand (i := k) r8 (by first | omega | (simp only [List.length_cons, List.length_nil, List.length_replicate, List.length_append, List.length_take, List.length_set, List.length_map]; omega))
  obtain ⟨a72, c73, l77, rfl, r74, s75, u78⟩ := SubR.c u71
  obtain rfl := SubR.n u78
  refine wc_drawT ([(17, [], [], (fun _ v _ => v = (vs a1 x_a.length c2))), (18, [], [], (fun _ v _ => v = (vi ((k : Nat) : Int)))), (19, [], [0, 1], (fun _ v _ => v = (ve (vs a1 x_a.length c2) ((((k : Nat) : Int)).toNat * 4)))), (20, [], [0, 1, 2], (fun _ v _ => v = (.agg #[(vi (((x_a.getD k z_PCand).A).Host)), (vi (((x_a.getD k z_PCand).A).Port)), (vs a60 (x_a.getD k z_PCand).Draw.length c61), (vi ((x_a.getD k z_PCand).Until))]))), (21, [], [], (fun _ v _ => v = (vs a6 x_b.length c7))), (22, [], [], (fun _ v _ => v = (vi ((k : Nat) : Int)))), (23, [], [4, 5], (fun _ v _ => v = (ve (vs a6 x_b.length c7) ((((k : Nat) : Int)).toNat * 4)))), (24, [], [4, 5, 6], (fun _ v _ => v = (.agg #[(vi (((x_b.getD k z_PCand).A).Host)), (vi (((x_b.getD k z_PCand).A).Port)), (vs a72 (x_b.getD k z_PCand).Draw.length c73), (vi ((x_b.getD k z_PCand).Until))])))] : GV) (fun _ w' => Keep w1 w') [] mixed rfl (by kernel_rfl) (by kernel_rfl) ?_ (fun _ _ h => h) (fun _ _ _ _ h _ k => h.trans k) trivial ?_ ?_ ?_
  ·exact ⟨(fun _ _ _ _ h _ => h), (fun _ _ _ _ _ h => h), ⟨(fun _ _ _ _ h _ => h), (fun _ _ _ _ _ h => h), ⟨(fun _ _ _ _ h _ => h), (fun _ _ _ _ _ h => h), ⟨(fun _ _ _ _ h _ => h), (fun _ _ _ _ _ h => h), ⟨(fun _ _ _ _ h _ => h), (fun _ _ _ _ _ h => h), ⟨(fun _ _ _ _ h _ => h), (fun _ _ _ _ _ h => h), ⟨(fun _ _ _ _ h _ => h), (fun _ _ _ _ _ h => h), ⟨(fun _ _ _ _ h _ => h), (fun _ _ _ _ _ h => h), trivial⟩⟩⟩⟩⟩⟩⟩⟩
  ·exact trivial
  ·refine ⟨?_, ⟨?_, ⟨?_, ⟨?_, ⟨?_, ⟨?_, ⟨?_, ⟨?_, trivial⟩⟩⟩⟩⟩⟩⟩⟩
   ·intro _ w2 k83 _
    have m84 := m17.extk k83
    rintro _ _ _ _ _ _ _ _
    show WL _ _ _ _ _ _ _
    refine mv (vs a1 x_a.length c2) wN ?_
    exact wl_finT (Ch.refl _ _) rfl
   ·intro _ w2 k85 _
    have m86 := m17.extk k85
    rintro _ _ _ _ _ _ _ _
    show WL _ _ _ _ _ _ _
    refine mv (vi ((k : Nat) : Int)) wN ?_
    exact wl_finT (Ch.refl _ _) rfl
   ·intro _ w2 k87 _
    have m88 := m17.extk k87
    rintro _ rfl _ rfl _ _ _ _ _ _
    show WL _ _ _ _ _ _ _
    obtain ⟨y89, r90⟩ := RLv.row (r3.from0 m88)
    refine wl_index wN ((k : Nat) : Int) rfl rfl rfl slTy_73 rfl rfl r90 (by first | omega | (simp only [List.length_cons, List.length_nil, List.length_replicate, List.length_append, List.length_take, List.length_set, List.length_map]; omega)) (by first | omega | (simp only [List.length_cons, List.length_nil, List.length_replicate, List.length_append, List.length_take, List.length_set, List.length_map]; omega)) ?_
    exact wl_finT (Ch.refl _ _) rfl
   ·intro _ w2 k91 _
    have m92 := m17.extk k91
    rintro _ rfl _ rfl _ rfl _ _ _ _ _
    show WL _ _ _ _ _ _ _
    refine wl_loadEN [(vi (((x_a.getD k z_PCand).A).Host)), (vi (((x_a.getD k z_PCand).A).Port)), (vs a60 (x_a.getD k z_PCand).Draw.length c61), (vi ((x_a.getD k z_PCand).Until))] wN rfl rfl rfl rfl isAgg_109 sizeOf_109 (r57.from0 m92) (by first | omega | (simp only [List.length_cons, List.length_nil, List.length_replicate, List.length_append, List.length_take, List.length_set, List.length_map]; omega)) ((part_of (off := 0) (n := 4) e58 (by first | rfl | simp | omega) (by decide)).trans rfl) ?_
    exact wl_finT (Ch.refl _ _) rfl
   ·intro _ w2 k95 _
    have m96 := m17.extk k95
    rintro _ _ _ _ _ _ _ _
    show WL _ _ _ _ _ _ _
    refine mv (vs a6 x_b.length c7) wN ?_
    exact wl_finT (Ch.refl _ _) rfl
   ·intro _ w2 k97 _
    have m98 := m17.extk k97
    rintro _ _ _ _ _ _ _ _
    show WL _ _ _ _ _ _ _
    refine mv (vi ((k : Nat) : Int)) wN ?_
    exact wl_finT (Ch.refl _ _) rfl
   ·intro _ w2 k99 _
    have m100 := m17.extk k99
    rintro _ _ _ _ _ rfl _ rfl _ _
    show WL _ _ _ _ _ _ _
    obtain ⟨y101, r102⟩ := RLv.row (r8.from0 m100)
    refine wl_index wN ((k : Nat) : Int) rfl rfl rfl slTy_73 rfl rfl r102 (by first | omega | (simp only [List.length_cons, List.length_nil, List.length_replicate, List.length_append, List.length_take, List.length_set, List.length_map]; omega)) (by first | omega | (simp only [List.length_cons, List.length_nil, List.length_replicate, List.length_append, List.length_take, List.length_set, List.length_map]; omega)) ?_
    exact wl_finT (Ch.refl _ _) rfl
   ·intro _ w2 k103 _
    have m104 := m17.extk k103
    rintro _ _ _ _ _ rfl _ rfl _ rfl _
    show WL _ _ _ _ _ _ _
    refine wl_loadEN [(vi (((x_b.getD k z_PCand).A).Host)), (vi (((x_b.getD k z_PCand).A).Port)), (vs a72 (x_b.getD k z_PCand).Draw.length c73), (vi ((x_b.getD k z_PCand).Until))] wN rfl rfl rfl rfl isAgg_109 sizeOf_109 (r69.from0 m104) (by first | omega | (simp only [List.length_cons, List.length_nil, List.length_replicate, List.length_append, List.length_take, List.length_set, List.length_map]; omega)) ((part_of (off := 0) (n := 4) e70 (by first | rfl | simp | omega) (by decide)).trans rfl) ?_
    exact wl_finT (Ch.refl _ _) rfl
  ·intro _ w2 k107
   have m108 := m17.extk k107
   rintro _ rfl _ rfl _ rfl _ rfl _ rfl _ rfl _ rfl _ rfl
   show WL _ _ _ _ _ _ _
   refine cl wN (C_laws_eqCand w2 _ (x_a.getD k z_PCand) (mR_109 (r62.from0 m108) s63) _ (x_b.getD k z_PCand) (mR_109 (r74.from0 m108) s75)) ?_
   rintro _ w3 ⟨k113, rfl⟩
   have m114 := m108.extk k113
   refine pu (vb (!(F_laws_eqCand (x_a.getD k z_PCand) (x_b.getD k z_PCand)))) wN ?_
   refine wl_nil <| wq_then ?_
   rcases bf (F_laws_eqCand (x_a.getD k z_PCand) (x_b.getD k z_PCand)) with h115 | h115
   ·refine ct (congrArg not h115) ?_
    refine sr ?_
    refine ag (vb false) wN ?_
    refine wl_nil <| wq_then <| wc_ret <| wq_blk_ret <| wq_then_ret <| wq_then_ret <| wq_blk_ret <| wq_then_ret ?_
    refine ret_1 (.inl rfl) (vb false) rfl rfl ?_
    refine ⟨m114.keep0, ?_⟩
    have hF118 : eqF_PCand x_a x_b = false := by first | exact eqL_len (by assumption) | exact eqL_el (z := z_PCand) (fun h => by have hq := ‹F_laws_eqCand (x_a.getD k z_PCand) (x_b.getD k z_PCand) = false›; rw [eq_iff_PCand, h] at hq; simp at hq) | exact eqL_all (by assumption) (by omega) (by omega)
    rw [hF118]
    exact rfl
   refine cf (congrArg not h115) ?_
   refine wc_skip <| wq_blk_normal <| wq_then <| wc_region ?_
   refine mv (vi ((k : Nat) : Int)) wN ?_
   refine ar (((k : Nat) : Int) + 1) wN ?_
   refine ag (vi (((k : Nat) : Int) + 1)) wN ?_
   refine wl_nil ?_
   refine wq_loopN (w0 := w1) [(vs a1 x_a.length c2), (vs a6 x_b.length c7), U, U, u4x, (vi (((k + 1) : Nat) : Int)), (vs a1 x_a.length c2), (vi (x_a.length : Int)), (vs a6 x_b.length c7), (vi (x_b.length : Int)), (vb (!(decide ((x_a.length : Int) = (x_b.length : Int))))), (vi ((k : Nat) : Int)), (vs a1 x_a.length c2), (vi (x_a.length : Int)), (vb (decide (((k : Nat) : Int) < (x_a.length : Int)))), (vi ((k : Nat) : Int)), (vi (((k : Nat) : Int) + 1)), (vs a1 x_a.length c2), (vi ((k : Nat) : Int)), (ve (vs a1 x_a.length c2) ((((k : Nat) : Int)).toNat * 4)), (va [(vi (((x_a.getD k z_PCand).A).Host)), (vi (((x_a.getD k z_PCand).A).Port)), (vs a60 (x_a.getD k z_PCand).Draw.length c61), (vi ((x_a.getD k z_PCand).Until))]), (vs a6 x_b.length c7), (vi ((k : Nat) : Int)), (ve (vs a6 x_b.length c7) ((((k : Nat) : Int)).toNat * 4)), (va [(vi (((x_b.getD k z_PCand).A).Host)), (vi (((x_b.getD k z_PCand).A).Port)), (vs a72 (x_b.getD k z_PCand).Draw.length c73), (vi ((x_b.getD k z_PCand).Until))]), (vb (F_laws_eqCand (x_a.getD k z_PCand) (x_b.getD k z_PCand))), (vb (!(F_laws_eqCand (x_a.getD k z_PCand) (x_b.getD k z_PCand))))] rfl ?_ ?_ ?_
   · exact ⟨rfl, rfl, rfl, rfl, rfl, (congrArg (Value.int .i64) (show ((((k : Nat) : Int) + 1) : Int) = (((k + 1) : Nat) : Int) by omega)), rfl, rfl, rfl, rfl, rfl, rfl, rfl, rfl, rfl, rfl, rfl, rfl, rfl, rfl, rfl, rfl, rfl, rfl, rfl, rfl, rfl, trivial⟩
   · exact ⟨(k + 1), u4x, (vi ((k : Nat) : Int)), (vs a1 x_a.length c2), (vi (x_a.length : Int)), (vb (decide (((k : Nat) : Int) < (x_a.length : Int)))), (vi ((k : Nat) : Int)), (vi (((k : Nat) : Int) + 1)), (vs a1 x_a.length c2), (vi ((k : Nat) : Int)), (ve (vs a1 x_a.length c2) ((((k : Nat) : Int)).toNat * 4)), (va [(vi (((x_a.getD k z_PCand).A).Host)), (vi (((x_a.getD k z_PCand).A).Port)), (vs a60 (x_a.getD k z_PCand).Draw.length c61), (vi ((x_a.getD k z_PCand).Until))]), (vs a6 x_b.length c7), (vi ((k : Nat) : Int)), (ve (vs a6 x_b.length c7) ((((k : Nat) : Int)).toNat * 4)), (va [(vi (((x_b.getD k z_PCand).A).Host)), (vi (((x_b.getD k z_PCand).A).Port)), (vs a72 (x_b.getD k z_PCand).Draw.length c73), (vi ((x_b.getD k z_PCand).Until))]), (vb (F_laws_eqCand (x_a.getD k z_PCand) (x_b.getD k z_PCand))), (vb (!(F_laws_eqCand (x_a.getD k z_PCand) (x_b.getD k z_PCand)))), rfl, m114, ((((Ch.refl (fun k => w0.heap.size ≤ k) w0).ext k18 (fun k hk => Nat.le_trans (Nat.le_refl _) hk)).extk k107).extk k113), (by omega), (by first | rfl | exact eqL_next (z := z_PCand) (by assumption) (by omega) (by omega) (by have := eq_iff_PCand; simp_all))⟩
   · show x_a.length - ((((k + 1) : Nat) : Int)).toNat < x_a.length - (((k : Nat) : Int)).toNat; omega

theorem mR_73 {w : World} {x : List PCand} {a1 : Option Addr} {c1 : Nat} (h1 : RLv LT_109 w 1073741824 a1 x.length c1 x) (l1 : x.length ≤ 1073741824) : R_73 w (vs a1 x.length c1) x := ⟨_, _, rfl, h1, l1⟩
def F_laws_eqPaths (x_a : PPaths) (x_b : PPaths) : (Bool) := bif (F_laws_eqAddr x_a.At x_b.At) then (bif (eqF_PCand x_a.Cands x_b.Cands) then (true) else (false)) else (false)
theorem C_laws_eqPaths (w0 : World) (v_x_a : Value) (x_a : PPaths) (r_x_a : R_75 w0 v_x_a x_a) (v_x_b : Value) (x_b : PPaths) (r_x_b : R_75 w0 v_x_b x_b)  : Fn Try.prog 50 #[v_x_a, v_x_b] w0 (fun v w' => Keep w0 w' ∧ O_4 w' w0.heap.size v (F_laws_eqPaths x_a x_b)) := by
 obtain ⟨a1, c2, rfl, r3, s4⟩ := r_x_a
 obtain ⟨a6, c7, rfl, r8, s9⟩ := r_x_b
 refine fn_of (n := 17) (l := [(va (L_75 x_a a1 c2)), (va (L_75 x_b a6 c7)), U, U, U, U, U, U, U, U, U, U, U, U, U, U, U]) Try.func50 rfl rfl (by kernel_rfl) rfl ?_
 refine sr ?_
 refine bx (L_75 x_a a1 c2) wN ?_
 intro g11 w1 p12 p13 k14 b15
 have m16 := (Ch.base w0).extk k14
 refine bx (L_75 x_b a6 c7) wN ?_
 intro g17 w2 p18 p19 k20 b21
 have m22 := m16.extk k20
 refine ag (vb false) wN ?_
 refine wl_nil <| wq_then <| wc_seq <| sr ?_
 refine pu (vp g11 0) wN ?_
 have b23 := (b15.kp k20)
 refine lN (L_61 x_a.At) wN isAgg_61 sizeOf_61 b23 ?_
 refine pu (vp g17 0) wN ?_
 refine lN (L_61 x_b.At) wN isAgg_61 sizeOf_61 b21 ?_
 refine cl wN (C_laws_eqAddr w2 _ x_a.At (mR_61) _ x_b.At (mR_61)) ?_
 rintro _ w3 ⟨k24, rfl⟩
 have m25 := m22.extk k24
 refine pu (vb (!(F_laws_eqAddr x_a.At x_b.At))) wN ?_
 refine wl_nil <| wq_then ?_
 rcases bf (F_laws_eqAddr x_a.At x_b.At) with h26 | h26
 ·refine ct (congrArg not h26) ?_
  refine sr ?_
  refine ag (vb false) wN ?_
  refine wl_nil <| wq_then <| wc_ret <| wq_then_ret ?_
  refine ret_1 (.inl rfl) (vb false) rfl rfl ?_
  refine ⟨m25.keep0, ?_⟩
  have hF38 : F_laws_eqPaths x_a x_b = false := by simp only [F_laws_eqPaths, h26, cond_true, cond_false]
  rw [hF38]
  exact rfl
 refine cf (congrArg not h26) ?_
 refine wc_skip <| wq_then <| wc_seq <| sr ?_
 refine pu (vp g11 2) wN ?_
 have b28 := (b23.kp k24)
 refine ld (vs a1 x_a.Cands.length c2) wN isAgg_73 b28 ?_
 refine pu (vp g17 2) wN ?_
 have b29 := (b21.kp k24)
 refine ld (vs a6 x_b.Cands.length c7) wN isAgg_73 b29 ?_
 refine cl wN (C_laws_eqCandS w3 _ x_a.Cands (mR_73 (r3.from0 m25) s4) _ x_b.Cands (mR_73 (r8.from0 m25) s9)) ?_
 rintro _ w4 ⟨k30, rfl⟩
 have m31 := m25.extk k30
 refine pu (vb (!(eqF_PCand x_a.Cands x_b.Cands))) wN ?_
 refine wl_nil <| wq_then ?_
 rcases bf (eqF_PCand x_a.Cands x_b.Cands) with h32 | h32
 ·refine ct (congrArg not h32) ?_
  refine sr ?_
  refine ag (vb false) wN ?_
  refine wl_nil <| wq_then <| wc_ret <| wq_then_ret ?_
  refine ret_1 (.inl rfl) (vb false) rfl rfl ?_
  refine ⟨m31.keep0, ?_⟩
  have hF36 : F_laws_eqPaths x_a x_b = false := by simp only [F_laws_eqPaths, h26, h32, cond_true, cond_false]
  rw [hF36]
  exact rfl
 refine cf (congrArg not h32) ?_
 refine wc_skip <| wq_then <| sr ?_
 refine ag (vb true) wN ?_
 refine wl_nil <| wq_then <| wc_ret ?_
 refine ret_1 (.inl rfl) (vb true) rfl rfl ?_
 refine ⟨m31.keep0, ?_⟩
 have hF34 : F_laws_eqPaths x_a x_b = true := by simp only [F_laws_eqPaths, h26, h32, cond_true, cond_false]
 rw [hF34]
 exact rfl

theorem isAgg_70 : ∀ w, (isAgg 70).run Try.prog w = .ok true w := fun w => by kernel_rfl
theorem sizeOf_70 : ∀ w, (sizeOf 70).run Try.prog w = .ok 3 w := fun w => by kernel_rfl
abbrev L_70 (x : PPaths) (a1 : Option Addr) (c1 : Nat) : List Value := [vi x.At.Host, vi x.At.Port, vs a1 x.Cands.length c1]
theorem mQ_70 {w : World} {x : PPaths} {a1 : Option Addr} {c1 : Nat} (h1 : RLv LT_131 w 9223372036854775807 a1 x.Cands.length c1 x.Cands) (l1 : x.Cands.length ≤ 9223372036854775807) : Q_70 w (va (L_70 x a1 c1)) x := ⟨_, _, rfl, h1, l1⟩
theorem mR_70 {w : World} {x : PPaths} {a1 : Option Addr} {c1 : Nat} (h1 : RLv LT_131 w 1073741824 a1 x.Cands.length c1 x.Cands) (l1 : x.Cands.length ≤ 1073741824) : R_70 w (va (L_70 x a1 c1)) x := ⟨_, _, rfl, h1, l1⟩
theorem mR_75 {w : World} {x : PPaths} {a1 : Option Addr} {c1 : Nat} (h1 : RLv LT_109 w 1073741824 a1 x.Cands.length c1 x.Cands) (l1 : x.Cands.length ≤ 1073741824) : R_75 w (va (L_75 x a1 c1)) x := ⟨_, _, rfl, h1, l1⟩
def F_laws_FnExactPathsOk (x_aP : PPaths) : (Bool) := bif (decide ((F_laws_szPaths x_aP 1048576) < 0)) then (true) else (bif ((iPa (F_laws_toPaths x_aP)) == (sPa (F_laws_toPaths x_aP))) then (bif (F_laws_eqPaths (F_laws_toPaths x_aP) (F_laws_toPaths x_aP)) then (true) else (false)) else (false))
theorem C_laws_FnExactPathsOk (w0 : World) (v_x_aP : Value) (x_aP : PPaths) (r_x_aP : Q_70 w0 v_x_aP x_aP)  : Fn Try.prog 11 #[v_x_aP] w0 (fun v w' => Keep w0 w' ∧ O_4 w' w0.heap.size v (F_laws_FnExactPathsOk x_aP)) := by
 obtain ⟨a1, c2, rfl, r3, s4⟩ := r_x_aP
 refine fn_of (n := 27) (l := [(va (L_75 x_aP a1 c2)), U, U, U, U, U, U, U, U, U, U, U, U, U, U, U, U, U, U, U, U, U, U, U, U, U, U]) Try.func11 rfl rfl (by kernel_rfl) rfl ?_
 refine sr ?_
 refine bx (L_75 x_aP a1 c2) wN ?_
 intro g6 w1 p7 p8 k9 b10
 have m11 := (Ch.base w0).extk k9
 refine ag (vb false) wN ?_
 refine nx ?_
 refine ag (vi 1048576) wN ?_
 refine nx ?_
 refine lN (L_75 x_aP a1 c2) wN isAgg_70 sizeOf_70 b10 ?_
 refine mv (vi 1048576) wN ?_
 refine cl wN (C_laws_szPaths w1 _ x_aP (mQ_70 (r3.from0 m11) s4) 1048576 (by omega) (by omega)) ?_
 rintro _ w2 ⟨k12, rfl⟩
 have m13 := m11.extk k12
 refine ag (vi (F_laws_szPaths x_aP 1048576)) wN ?_
 refine wl_nil <| wq_then <| wc_seq <| sr ?_
 refine mv (vi (F_laws_szPaths x_aP 1048576)) wN ?_
 refine pu (vb (decide ((F_laws_szPaths x_aP 1048576) < 0))) wN ?_
 refine wl_nil <| wq_then ?_
 rcases bt (decide ((F_laws_szPaths x_aP 1048576) < 0)) with h14 | h14
 ·have q15 := of_decide_eq_true h14
  refine ct h14 ?_
  refine sr ?_
  refine ag (vb true) wN ?_
  refine wl_nil <| wq_then <| wc_ret <| wq_then_ret ?_
  refine ret_1 (.inl rfl) (vb true) rfl rfl ?_
  refine ⟨m13.keep0, ?_⟩
  have hF16 : F_laws_FnExactPathsOk x_aP = true := by simp only [F_laws_FnExactPathsOk, h14, cond_true, cond_false]
  rw [hF16]
  exact rfl
 have q17 := of_decide_eq_false h14
 obtain ⟨z18a, z18b⟩ := ok_F_laws_szPaths q17
 refine cf h14 ?_
 refine wc_skip <| wq_then <| sr ?_
 have b19 := (b10.kp k12)
 refine lN (L_75 x_aP a1 c2) wN isAgg_70 sizeOf_70 b19 ?_
 refine cl wN (C_laws_toPaths w2 _ x_aP (mR_70 (RLv.raw (r3.from0 m13) (by omega) (fun e he b hb => Nat.le_trans (z18b e he b hb) (by decide))) (by omega))) ?_
 rintro _ w3 ⟨k20, ⟨a21, c22, rfl, o23, s24, ap26⟩⟩
 have m27 := m13.extk k20
 obtain ⟨y28, o29⟩ := OLv.ow o23
 refine cl wN (C_spec_PathsOk w3 _ (F_laws_toPaths x_aP) (mR_75 (OLv.rl o23) s24)) ?_
 rintro _ w4 ⟨k30, rfl⟩
 have m31 := m27.extk k30
 refine ag (vb (sPa (F_laws_toPaths x_aP))) wN ?_
 refine nx ?_
 have b32 := ((b19.kp k20).kp k30)
 refine lN (L_75 x_aP a1 c2) wN isAgg_70 sizeOf_70 b32 ?_
 refine cl wN (C_laws_toPaths w4 _ x_aP (mR_70 (RLv.raw (r3.from0 m31) (by omega) (fun e he b hb => Nat.le_trans (z18b e he b hb) (by decide))) (by omega))) ?_
 rintro _ w5 ⟨k33, ⟨a34, c35, rfl, o36, s37, ap39⟩⟩
 have m40 := m31.extk k33
 obtain ⟨y41, o42⟩ := OLv.ow o36
 refine al [(vi 0), (vi 0), (vs none 0 0)] wN zero_75 ?_
 intro g43 w6 p44 p45 k46 b47
 have m48 := m40.extk k46
 refine st (va (L_75 (F_laws_toPaths x_aP) a34 c35)) (L_75 (F_laws_toPaths x_aP) a34 c35) (L_75 (F_laws_toPaths x_aP) a34 c35) wN sizeOf_75 b47 ?_
 intro w7 k49 b50 z51
 have m52 := m48.ext k49 (fun k hk => by subst hk; exact Nat.le_trans (Nat.le_trans (Nat.le_trans (Nat.le_trans (Nat.le_trans k9.size k12.size) k20.size) k30.size) k33.size) p44)
 refine nx ?_
 refine lN (L_75 (F_laws_toPaths x_aP) a34 c35) wN isAgg_75 sizeOf_75 b50 ?_
 have o53 := (OLv.ch (OLv.kp o36 k46) k49 (fun g h1 h2 hk => by have h3 := Nat.le_trans (Nat.le_refl _) p44; omega))
 refine cl wN (C_impl_PathsOk w7 _ (F_laws_toPaths x_aP) (mR_75 (OLv.rl o53) s37)) ?_
 rintro _ w8 ⟨k54, rfl⟩
 have m55 := m52.extk k54
 refine ag (vb (iPa (F_laws_toPaths x_aP))) wN ?_
 refine wl_nil <| wq_then <| wc_seq <| sr ?_
 refine mv (vb (iPa (F_laws_toPaths x_aP))) wN ?_
 refine mv (vb (sPa (F_laws_toPaths x_aP))) wN ?_
 refine pu (vb (!((iPa (F_laws_toPaths x_aP)) == (sPa (F_laws_toPaths x_aP))))) wN ?_
 refine wl_nil <| wq_then ?_
 rcases bf ((iPa (F_laws_toPaths x_aP)) == (sPa (F_laws_toPaths x_aP))) with h56 | h56
 ·refine ct (congrArg not h56) ?_
  refine sr ?_
  refine ag (vb false) wN ?_
  refine wl_nil <| wq_then <| wc_ret <| wq_then_ret ?_
  refine ret_1 (.inl rfl) (vb false) rfl rfl ?_
  refine ⟨m55.keep0, ?_⟩
  have hF121 : F_laws_FnExactPathsOk x_aP = false := by simp only [F_laws_FnExactPathsOk, h14, h56, cond_true, cond_false]
  rw [hF121]
  exact rfl
 refine cf (congrArg not h56) ?_
 refine wc_skip <| wq_then <| wc_seq <| wc_seq ?_
 refine wc_drawT ([(22, [], [], (fun _ v _ => v = (.agg #[(vi (((F_laws_toPaths x_aP).At).Host)), (vi (((F_laws_toPaths x_aP).At).Port)), (vs a34 ((F_laws_toPaths x_aP).Cands).length c35)]))), (23, [], [], (fun _ v _ => v = (.agg #[(vi x_aP.At.Host), (vi x_aP.At.Port), (vs a1 x_aP.Cands.length c2)]))), (24, [], [1], (fun _ v w => ∃ (a1 : Option Addr) (c1 : Nat), v = .agg #[.int .i64 (((F_laws_toPaths x_aP).At).Host), .int .i64 (((F_laws_toPaths x_aP).At).Port), .slice a1 ((F_laws_toPaths x_aP).Cands).length c1] ∧ OLv LT_109 w (w8.heap.size) w.heap.size a1 ((F_laws_toPaths x_aP).Cands).length c1 ((F_laws_toPaths x_aP).Cands) ∧ ((F_laws_toPaths x_aP).Cands).length ≤ 1073741824 ∧ Aps [(a1, c1)]))] : GV) (fun _ w' => Keep w8 w') [] mixed rfl (by kernel_rfl) (by kernel_rfl) ?_ (fun _ _ h => h) (fun _ _ _ _ h _ k => h.trans k) trivial ?_ ?_ ?_
 ·exact ⟨(fun _ _ _ _ h _ => h), (fun _ _ _ _ _ h => h), ⟨(fun _ _ _ _ h _ => h), (fun _ _ _ _ _ h => h), ⟨(fun e v w w1 h hk => by obtain ⟨a0x, c0x, he, o0x, l0x, hap⟩ := h; exact ⟨a0x, c0x, he, OLv.now (OLv.kp o0x hk), l0x, hap⟩), (fun _ _ _ _ _ h => h), trivial⟩⟩⟩
 ·exact trivial
 ·refine ⟨?_, ⟨?_, ⟨?_, trivial⟩⟩⟩
  ·intro _ w9 k81 _
   have m82 := m55.extk k81
   rintro _ _ _
   show WL _ _ _ _ _ _ _
   have b83 := ((b50.kp k54).kp k81)
   refine lN (L_75 (F_laws_toPaths x_aP) a34 c35) wN isAgg_75 sizeOf_75 b83 ?_
   exact wl_finT (Ch.refl _ _) rfl
  ·intro _ w9 k84 _
   have m85 := m55.extk k84
   rintro _ _ _
   show WL _ _ _ _ _ _ _
   have b86 := (((((b32.kp k33).kp k46).ch k49 (Nat.ne_of_lt (Nat.lt_of_lt_of_le p8 (Nat.le_trans (Nat.le_trans (Nat.le_trans (Nat.le_trans k12.size k20.size) k30.size) k33.size) p44)))).kp k54).kp k84)
   refine lN (L_75 x_aP a1 c2) wN isAgg_70 sizeOf_70 b86 ?_
   exact wl_finT (Ch.refl _ _) rfl
  ·intro _ w9 k87 _
   have m88 := m55.extk k87
   rintro _ _ rfl _
   show WL _ _ _ _ _ _ _
   refine cl wN (C_laws_toPaths w9 _ x_aP (mR_70 (RLv.raw (r3.from0 m88) (by omega) (fun e he b hb => Nat.le_trans (z18b e he b hb) (by decide))) (by omega))) ?_
   rintro _ w10 ⟨k90, ⟨a91, c92, rfl, o93, s94, ap96⟩⟩
   have m97 := m88.extk k90
   obtain ⟨y98, o99⟩ := OLv.ow o93
   exact wl_finT k90 ⟨_, _, rfl, (OLv.now (OLv.low o93 k87.size)), s94, ap96⟩
 ·intro _ w9 k100
  have m101 := m55.extk k100
  rintro _ rfl _ rfl _ ⟨a104, c105, rfl, o106, s107, ap109⟩
  obtain ⟨y110, o111⟩ := OLv.ow o106
  show WL _ _ _ _ _ _ _
  have o112 := (OLv.kp (OLv.kp o53 k54) k100)
  refine cl wN (C_laws_eqPaths w9 _ (F_laws_toPaths x_aP) (mR_75 (OLv.rl o112) s37) _ (F_laws_toPaths x_aP) (mR_75 (OLv.rl o106) s107)) ?_
  rintro _ w10 ⟨k113, rfl⟩
  have m114 := m101.extk k113
  refine pu (vb (!(F_laws_eqPaths (F_laws_toPaths x_aP) (F_laws_toPaths x_aP)))) wN ?_
  refine wl_nil <| wq_then ?_
  rcases bf (F_laws_eqPaths (F_laws_toPaths x_aP) (F_laws_toPaths x_aP)) with h115 | h115
  ·refine ct (congrArg not h115) ?_
   refine sr ?_
   refine ag (vb false) wN ?_
   refine wl_nil <| wq_then <| wc_ret <| wq_then_ret ?_
   refine ret_1 (.inl rfl) (vb false) rfl rfl ?_
   refine ⟨m114.keep0, ?_⟩
   have hF119 : F_laws_FnExactPathsOk x_aP = false := by simp only [F_laws_FnExactPathsOk, h14, h56, h115, cond_true, cond_false]
   rw [hF119]
   exact rfl
  refine cf (congrArg not h115) ?_
  refine wc_skip <| wq_then <| sr ?_
  refine ag (vb true) wN ?_
  refine wl_nil <| wq_then <| wc_ret ?_
  refine ret_1 (.inl rfl) (vb true) rfl rfl ?_
  refine ⟨m114.keep0, ?_⟩
  have hF117 : F_laws_FnExactPathsOk x_aP = true := by simp only [F_laws_FnExactPathsOk, h14, h56, h115, cond_true, cond_false]
  rw [hF117]
  exact rfl

def F_spec_PathsNew (x_a : PAddr) : (PPaths) := { At := x_a, Cands := [] : PPaths }
theorem C_spec_PathsNew (w0 : World) (v_x_a : Value) (x_a : PAddr) (r_x_a : R_61 w0 v_x_a x_a)  : Fn Try.prog 61 #[v_x_a] w0 (fun v w' => Keep w0 w' ∧ O_75 w' w0.heap.size v (F_spec_PathsNew x_a)) := by
 obtain rfl := r_x_a
 refine fn_of (n := 5) (l := [(va (L_61 x_a)), U, U, U, U]) Try.func61 rfl rfl (by kernel_rfl) rfl ?_
 refine sr ?_
 refine bx (L_61 x_a) wN ?_
 intro g1 w1 p2 p3 k4 b5
 have m6 := (Ch.base w0).extk k4
 refine al [(vi 0), (vi 0), (vs none 0 0)] wN zero_75 ?_
 intro g7 w2 p8 p9 k10 b11
 have m12 := m6.extk k10
 refine nx ?_
 have b13 := (b5.kp k10)
 refine lN (L_61 x_a) wN isAgg_61 sizeOf_61 b13 ?_
 refine pu (va [(vi x_a.Host), (vi x_a.Port), (vs none 0 0)]) wN ?_
 refine st (va [(vi x_a.Host), (vi x_a.Port), (vs none 0 0)]) [(vi x_a.Host), (vi x_a.Port), (vs none 0 0)] [(vi x_a.Host), (vi x_a.Port), (vs none 0 0)] wN sizeOf_75 b11 ?_
 intro w3 k14 b15 z16
 have m17 := m12.ext k14 (fun k hk => by subst hk; exact Nat.le_trans k4.size p8)
 refine wl_nil <| wq_then <| wc_ret ?_
 refine ret_1 (.inl rfl) (va [(vi x_a.Host), (vi x_a.Port), (vs none 0 0)]) rfl (rv_c [(vi x_a.Host), (vi x_a.Port), (vs none 0 0)] rfl b15 isAgg_75 sizeOf_75) ?_
 refine ⟨m17.keep0, ?_⟩
 have hF18 : F_spec_PathsNew x_a = { At := x_a, Cands := [] : PPaths } := by rfl
 rw [hF18]
 exact ⟨_, _, rfl, (by first | exact own_nil _ _ _ _ | exact OLv.nil _ _ _ _), (by simp), ⟨trivial, trivial⟩⟩

def F_impl_PathsNew (x_a : PAddr) : (PPaths) := { At := x_a, Cands := [] : PPaths }
theorem C_impl_PathsNew (w0 : World) (v_x_a : Value) (x_a : PAddr) (r_x_a : R_61 w0 v_x_a x_a)  : Fn Try.prog 62 #[v_x_a] w0 (fun v w' => Keep w0 w' ∧ O_75 w' w0.heap.size v (F_impl_PathsNew x_a)) := by
 obtain rfl := r_x_a
 refine fn_of (n := 5) (l := [(va (L_61 x_a)), U, U, U, U]) Try.func62 rfl rfl (by kernel_rfl) rfl ?_
 refine sr ?_
 refine bx (L_61 x_a) wN ?_
 intro g1 w1 p2 p3 k4 b5
 have m6 := (Ch.base w0).extk k4
 refine al [(vi 0), (vi 0), (vs none 0 0)] wN zero_75 ?_
 intro g7 w2 p8 p9 k10 b11
 have m12 := m6.extk k10
 refine nx ?_
 have b13 := (b5.kp k10)
 refine lN (L_61 x_a) wN isAgg_61 sizeOf_61 b13 ?_
 refine pu (va [(vi x_a.Host), (vi x_a.Port), (vs none 0 0)]) wN ?_
 refine st (va [(vi x_a.Host), (vi x_a.Port), (vs none 0 0)]) [(vi x_a.Host), (vi x_a.Port), (vs none 0 0)] [(vi x_a.Host), (vi x_a.Port), (vs none 0 0)] wN sizeOf_75 b11 ?_
 intro w3 k14 b15 z16
 have m17 := m12.ext k14 (fun k hk => by subst hk; exact Nat.le_trans k4.size p8)
 refine wl_nil <| wq_then <| wc_ret ?_
 refine ret_1 (.inl rfl) (va [(vi x_a.Host), (vi x_a.Port), (vs none 0 0)]) rfl (rv_c [(vi x_a.Host), (vi x_a.Port), (vs none 0 0)] rfl b15 isAgg_75 sizeOf_75) ?_
 refine ⟨m17.keep0, ?_⟩
 have hF18 : F_impl_PathsNew x_a = { At := x_a, Cands := [] : PPaths } := by rfl
 rw [hF18]
 exact ⟨_, _, rfl, (by first | exact own_nil _ _ _ _ | exact OLv.nil _ _ _ _), (by simp), ⟨trivial, trivial⟩⟩

theorem C_laws_markByteS_own (w0 : World) (a : Option Addr) (c : Nat) (x : List UInt8) (lo : Nat) (k : Int) (h0 : 0 ≤ k) (h1 : k ≤ 9000000000000000000) (hs : x.length ≤ 1073741824) (r : w0.ownsRow lo 5 1 (.slice a x.length c) x.length (x.map bV)) :
    Fn Try.prog 20 #[(.slice a x.length c), .int .i64 k] w0 (fun v w' => v = .int .i64 (k + x.length) ∧ Ch (fun b => (Value.slice a x.length c).ownBlock = some b) w0 w' ∧ w'.ownsRow lo 5 1 (.slice a x.length c) x.length ((marksB k x.length).map bV)) := by
 refine fn_of (n := 20) (l := [(.slice a x.length c), (.int .i64 k), undef, undef, undef, undef, undef, undef, undef, undef, undef, undef, undef, undef, undef, undef, undef, undef, undef, undef]) Try.func20 rfl rfl (by kernel_rfl) rfl ?_
 refine sr ?_
 refine ag (vi 0) wN ?_
 refine wl_nil <| wq_then <| wc_seq <| sr ?_
 refine ag (vi 0) wN ?_
 refine wl_nil <| wq_then <| wc_block ?_
 refine wc_norm [(vs a x.length c), (vi k), U, U, (vi 0), (vi 0), U, U, U, U, U, U, U, U, U, U, U, U, U, U] rfl ⟨rfl, rfl, rfl, rfl, rfl, rfl, rfl, rfl, rfl, rfl, rfl, rfl, rfl, rfl, rfl, rfl, rfl, rfl, rfl, rfl, trivial⟩ ?_
 refine wc_loop (fun e' w' => ∃ (i : Nat) (u6x u7x u8x u9x u10x u11x u12x u13x u14x u15x u16x u17x u18x : Value), e' = lst [(vs a x.length c), (vi (k + ((i : Nat) : Int))), U, U, (vi 0), (vi ((i : Nat) : Int)), u6x, u7x, u8x, u9x, u10x, u11x, u12x, u13x, u14x, u15x, u16x, u17x, u18x, U] ∧ i ≤ x.length ∧ Ch (fun b => (Value.slice a x.length c).ownBlock = some b) w0 w' ∧ w'.ownsRow lo 5 1 (.slice a x.length c) x.length ((marksB k i ++ x.drop i).map bV)) (fun e' _ => x.length - (intOf (e' 5)).toNat) ?_ ?_
 ·exact ⟨0, U, U, U, U, U, U, U, U, U, U, U, U, U, congrArg (fun (p : Value) => lst [(vs a x.length c), p, U, U, (vi 0), (vi 0), U, U, U, U, U, U, U, U, U, U, U, U, U, U]) (congrArg (Value.int .i64) (show k = k + ((0 : Nat) : Int) by omega)), Nat.zero_le _, Ch.refl _ _, by simpa [marksB] using r⟩
 ·rintro _ w1 ⟨i, u6x, u7x, u8x, u9x, u10x, u11x, u12x, u13x, u14x, u15x, u16x, u17x, u18x, rfl, hi, hc, ho⟩
  refine wc_seq <| sr ?_
  refine mv (vi ((i : Nat) : Int)) wN ?_
  refine mv (vs a x.length c) wN ?_
  refine ln wN slTy_22 (Rd.of_own ho) ?_
  refine pu (vb (decide (((i : Nat) : Int) < (x.length : Int)))) wN ?_
  refine wl_nil <| wq_then ?_
  rcases bf (decide (((i : Nat) : Int) < (x.length : Int))) with h101 | h101
  ·have q105 := of_decide_eq_false h101
   refine cf h101 ?_
   refine wc_exit <| wq_then_exit <| wq_then_exit <| wq_blk_exit <| wq_then <| sr ?_
   refine mv (vi (k + ((i : Nat) : Int))) wN ?_
   refine ag (vi (k + ((i : Nat) : Int))) wN ?_
   refine wl_nil <| wq_then <| wc_ret ?_
   have hI : i = x.length := by omega
   subst hI
   refine ret_1 (.inl rfl) (vi (k + ((x.length : Nat) : Int))) rfl rfl ⟨rfl, hc, ?_⟩
   simpa using ho
  have q102 := of_decide_eq_true h101
  refine ct h101 ?_
  refine wc_skip <| wq_then <| wc_seq <| wc_block <| sr ?_
  refine mv (vs a x.length c) wN ?_
  refine mv (vi ((i : Nat) : Int)) wN ?_
  refine mv (vi (k + ((i : Nat) : Int))) wN ?_
  refine wl_conv8 (k + ((i : Nat) : Int)) wN rfl rfl (by kernel_rfl) ?_
  refine wl_index wN ((i : Nat) : Int) rfl rfl rfl slTy_22 rfl rfl (Rd.of_own ho) (by first | omega | (simp only [List.length_cons, List.length_nil, List.length_replicate, List.length_append, List.length_take, List.length_set, List.length_map]; omega)) (by first | omega | (simp only [List.length_cons, List.length_nil, List.length_replicate, List.length_append, List.length_take, List.length_set, List.length_map]; omega)) ?_
  refine wl_storeB ((marksB k i ++ x.drop i)) i ((by8 (k + ((i : Nat) : Int)))) wN rfl rfl rfl (by simp) rfl sizeOf_5 ho (by simp only [List.length_append, List.length_drop, marksB_len]; omega) ?_
  intro w2 k103 o104
  refine wl_nil <| wq_then <| wc_region ?_
  refine mv (vi (k + ((i : Nat) : Int))) wN ?_
  refine ar ((k + ((i : Nat) : Int)) + 1) wN ?_
  refine ag (vi ((k + ((i : Nat) : Int)) + 1)) wN ?_
  refine wl_nil <| wq_blk_normal <| wq_then <| wc_region ?_
  refine mv (vi ((i : Nat) : Int)) wN ?_
  refine ar (((i : Nat) : Int) + 1) wN ?_
  refine ag (vi (((i : Nat) : Int) + 1)) wN ?_
  refine wl_nil ?_
  have hE : (((marksB k i ++ x.drop i)).set i ((by8 (k + ((i : Nat) : Int))))) = marksB k (i + 1) ++ x.drop (i + 1) := by
   rw [List.set_append_right _ _ (by rw [marksB_len]; omega), marksB_len, Nat.sub_self, List.drop_eq_getElem_cons (by omega), List.set_cons_zero, marksB_snoc]
   simp
  rw [hE] at o104
  exact wq_loopN (w0 := w1) [(vs a x.length c), (vi (k + ((i + 1 : Nat) : Int))), U, U, (vi 0), (vi ((i + 1 : Nat) : Int)), (vi ((i : Nat) : Int)), (vs a x.length c), (vi (x.length : Int)), (vb (decide (((i : Nat) : Int) < (x.length : Int)))), (vi ((i : Nat) : Int)), (vi (((i : Nat) : Int) + 1)), (vs a x.length c), (vi ((i : Nat) : Int)), (vi (k + ((i : Nat) : Int))), (v8 ((by8 (k + ((i : Nat) : Int))).toNat : Int)), (ve (vs a x.length c) ((((i : Nat) : Int)).toNat * 1)), (vi (k + ((i : Nat) : Int))), (vi ((k + ((i : Nat) : Int)) + 1)), U] rfl ⟨rfl, (congrArg (Value.int .i64) (show (((k + ((i : Nat) : Int)) + 1) : Int) = (k + ((i + 1 : Nat) : Int)) by omega)), rfl, rfl, rfl, (congrArg (Value.int .i64) (show ((((i : Nat) : Int) + 1) : Int) = ((i + 1 : Nat) : Int) by omega)), rfl, rfl, rfl, rfl, rfl, rfl, rfl, rfl, rfl, rfl, rfl, rfl, rfl, rfl, trivial⟩ ⟨i + 1, (vi ((i : Nat) : Int)), (vs a x.length c), (vi (x.length : Int)), (vb (decide (((i : Nat) : Int) < (x.length : Int)))), (vi ((i : Nat) : Int)), (vi (((i : Nat) : Int) + 1)), (vs a x.length c), (vi ((i : Nat) : Int)), (vi (k + ((i : Nat) : Int))), (v8 ((by8 (k + ((i : Nat) : Int))).toNat : Int)), (ve (vs a x.length c) ((((i : Nat) : Int)).toNat * 1)), (vi (k + ((i : Nat) : Int))), (vi ((k + ((i : Nat) : Int)) + 1)), rfl, by omega, hc.comp k103 (fun _ _ h => h), o104⟩ (by show x.length - (((i + 1 : Nat) : Int)).toNat < x.length - (((i : Nat) : Int)).toNat; omega)
theorem C_laws_markByteS_nil (w0 : World) (a : Option Addr) (c : Nat) (k : Int) (r : Rd w0 1 (.slice a 0 c) 0 []) :
    Fn Try.prog 20 #[.slice a 0 c, .int .i64 k] w0 (fun v w' => v = .int .i64 k ∧ w' = w0) := by
 have hz : decide ((0 : Int) < ((0 : Nat) : Int)) = false := by decide
 refine fn_of (n := 20) (l := [(.slice a 0 c), (.int .i64 k), undef, undef, undef, undef, undef, undef, undef, undef, undef, undef, undef, undef, undef, undef, undef, undef, undef, undef]) Try.func20 rfl rfl (by kernel_rfl) rfl ?_
 refine sr ?_
 refine ag (vi 0) wN ?_
 refine wl_nil <| wq_then <| wc_seq <| sr ?_
 refine ag (vi 0) wN ?_
 refine wl_nil <| wq_then <| wc_block ?_
 refine wc_norm [(vs a 0 c), (vi k), U, U, (vi 0), (vi 0), U, U, U, U, U, U, U, U, U, U, U, U, U, U] rfl ⟨rfl, rfl, rfl, rfl, rfl, rfl, rfl, rfl, rfl, rfl, rfl, rfl, rfl, rfl, rfl, rfl, rfl, rfl, rfl, rfl, trivial⟩ ?_
 refine wc_loop (fun e' w' => e' = lst [(vs a 0 c), (vi k), U, U, (vi 0), (vi 0), U, U, U, U, U, U, U, U, U, U, U, U, U, U] ∧ w' = w0) (fun _ _ => 0) ⟨rfl, rfl⟩ ?_
 rintro _ _ ⟨rfl, rfl⟩
 refine wc_seq <| sr ?_
 refine mv (vi 0) wN ?_
 refine mv (vs a 0 c) wN ?_
 refine ln wN slTy_22 r ?_
 refine pu (vb (decide (0 < ((0 : Nat) : Int)))) wN ?_
 refine wl_nil <| wq_then ?_
 refine cf hz ?_
 refine wc_exit <| wq_then_exit <| wq_then_exit <| wq_blk_exit <| wq_then <| sr ?_
 refine mv (vi k) wN ?_
 refine ag (vi k) wN ?_
 refine wl_nil <| wq_then <| wc_ret ?_
 exact ret_1 (.inl rfl) (vi k) rfl rfl ⟨rfl, rfl⟩
theorem C_laws_markByteS (w0 : World) (a : Option Addr) (c : Nat) (x : List UInt8) (k : Int) (h0 : 0 ≤ k) (h1 : k ≤ 9000000000000000000) (hs : x.length ≤ 1073741824) (r : Rd w0 1 (.slice a x.length c) x.length (x.map bV)) (hw : Wp w0 5 a x.length c (x.map bV)) :
    Fn Try.prog 20 #[.slice a x.length c, .int .i64 k] w0 (fun v w' => v = .int .i64 (k + x.length) ∧ Ch (MS [(a, x.length)]) w0 w' ∧ Rd w' 1 (.slice a x.length c) x.length ((marksB k x.length).map bV)) := by
  rcases Nat.eq_zero_or_pos x.length with hz | hz
  · obtain rfl : x = [] := List.eq_nil_of_length_eq_zero hz
    refine (C_laws_markByteS_nil w0 a c k r).mono ?_
    rintro _ _ ⟨rfl, rfl⟩
    exact ⟨by simp, Ch.refl _ _, r⟩
  · rcases hw with hw | ⟨lo, hw⟩
    · omega
    · refine (C_laws_markByteS_own w0 a c x lo k h0 h1 hs hw).mono ?_
      rintro _ w' ⟨rfl, hc, ho⟩
      refine ⟨rfl, hc.mono fun b _ hb => ?_, Rd.of_own ho⟩
      rcases a with _ | ad
      · cases hb
      · exact .inl ⟨hz, ad, rfl, by simpa [Value.ownBlock] using hb⟩
theorem C_laws_markByteS_w (w0 : World) (a : Option Addr) (c : Nat) (x : List UInt8) (k : Int) (h0 : 0 ≤ k) (h1 : k ≤ 9000000000000000000) (h : W1 w0 5 (a, c) x) :
    Fn Try.prog 20 #[.slice a x.length c, .int .i64 k] w0 (fun v w' => v = .int .i64 (k + x.length) ∧ Ch (MS [(a, x.length)]) w0 w' ∧ W1 w' 5 (a, c) (marksB k x.length)) := by
  rcases Nat.eq_zero_or_pos x.length with hz | hz
  · obtain rfl : x = [] := List.eq_nil_of_length_eq_zero hz
    refine (C_laws_markByteS_nil w0 a c k h.2.1).mono ?_
    rintro _ _ ⟨rfl, rfl⟩
    exact ⟨by simp, Ch.refl _ _, h⟩
  · rcases h.1 with hw | ⟨lo, hw⟩
    · omega
    · refine (C_laws_markByteS_own w0 a c x lo k h0 h1 h.2.2 hw).mono ?_
      rintro _ w' ⟨rfl, hc, ho⟩
      have hl : (marksB k x.length).length = x.length := marksB_len _ _
      refine ⟨rfl, hc.mono fun b _ hb => ?_, .inr ⟨lo, by rw [hl]; exact ho⟩, by rw [hl]; exact Rd.of_own ho, by rw [hl]; exact h.2.2⟩
      rcases a with _ | ad
      · cases hb
      · exact .inl ⟨hz, ad, rfl, by simpa [Value.ownBlock] using hb⟩

theorem fieldAt_61_0 : ∀ a w, (Instr.fieldAt 61 (.pointer (some a)) 0).run Try.prog w = .ok (.pointer (some (a.add 0))) w := fun a w => by kernel_rfl
theorem fieldAt_61_1 : ∀ a w, (Instr.fieldAt 61 (.pointer (some a)) 1).run Try.prog w = .ok (.pointer (some (a.add 1))) w := fun a w => by kernel_rfl
theorem fieldAt_109_1 : ∀ a w, (Instr.fieldAt 109 (.pointer (some a)) 1).run Try.prog w = .ok (.pointer (some (a.add 2))) w := fun a w => by kernel_rfl
theorem fieldAt_109_2 : ∀ a w, (Instr.fieldAt 109 (.pointer (some a)) 2).run Try.prog w = .ok (.pointer (some (a.add 3))) w := fun a w => by kernel_rfl
def mkE_PCand (a : PCand) (k : Int) : PCand := { A := { Host := k, Port := ((k + 1)) : PAddr }, Draw := (marksB ((k + 1) + 1) a.Draw.length), Until := ((((k + 1) + 1) + (a.Draw.length : Int))) : PCand }
def wt_PCand (a : PCand) : Int := ((((0 + 1) + 1) + (a.Draw.length : Int)) + 1)
theorem C_laws_markCandS (w0 : World) (a : Option Addr) (c : Nat) (x : List PCand) (lo hi : Nat) (k : Int) (h0 : 0 ≤ k) (h1 : k ≤ 4000000000000000000) (r : OLv LT_109 w0 lo hi a x.length c x) :
    Fn Try.prog 101 #[vs a x.length c, vi k] w0 (fun v w' => v = vi (k + totL wt_PCand x) ∧ Ch (RowS LT_109 w0 lo hi) w0 w' ∧ RLk LT_109 w' lo hi a x.length c (marksE mkE_PCand wt_PCand x k)) := by
 obtain ⟨y, hy, hn, hl, hC, hI⟩ := OLv.mark (mk := mkE_PCand) (wt := wt_PCand) (k := k) r
 have hwb : ∀ i, i ≤ x.length → 0 ≤ totL wt_PCand ((y.take i).map Prod.fst) ∧ totL wt_PCand ((y.take i).map Prod.fst) ≤ 1073741827 * (i : Int) := fun i hi => by rw [List.map_take, hy]; exact OLv.wb r (by intro x; simp only [wt_PCand]; omega) (by intro x hx; simp only [LT_109, List.mem_cons, List.not_mem_nil, or_false, forall_eq_or_imp, forall_eq] at hx; simp only [wt_PCand]; omega) i hi
 have hy0 : y.length = x.length := hC.len
 refine fn_of (n := 43) (l := [(vs a x.length c), (vi k), U, U, U, U, U, U, U, U, U, U, U, U, U, U, U, U, U, U, U, U, U, U, U, U, U, U, U, U, U, U, U, U, U, U, U, U, U, U, U, U, U]) Try.func101 rfl rfl (by kernel_rfl) rfl ?_
 refine sr ?_
 refine ag (vi 0) wN ?_
 refine wl_nil <| wq_then <| wc_seq <| sr ?_
 refine ag (vi 0) wN ?_
 refine wl_nil <| wq_then <| wc_block ?_
 refine wc_norm [(vs a x.length c), (vi k), U, U, (vi 0), (vi 0), U, U, U, U, U, U, U, U, U, U, U, U, U, U, U, U, U, U, U, U, U, U, U, U, U, U, U, U, U, U, U, U, U, U, U, U, U] rfl ⟨rfl, rfl, rfl, rfl, rfl, rfl, rfl, rfl, rfl, rfl, rfl, rfl, rfl, rfl, rfl, rfl, rfl, rfl, rfl, rfl, rfl, rfl, rfl, rfl, rfl, rfl, rfl, rfl, rfl, rfl, rfl, rfl, rfl, rfl, rfl, rfl, rfl, rfl, rfl, rfl, rfl, rfl, rfl, trivial⟩ ?_
 refine wc_loop (fun e' w' => ∃ (i : Nat) (u6x u7x u8x u9x u10x u11x u12x u13x u14x u15x u16x u17x u18x u19x u20x u21x u22x u23x u24x u25x u26x u27x u28x u29x u30x u31x u32x u33x u34x u35x u36x u37x u38x u39x u40x u41x : Value), e' = lst [(vs a x.length c), (vi (k + totL wt_PCand ((y.take i).map Prod.fst))), U, U, (vi 0), (vi ((i : Nat) : Int)), u6x, u7x, u8x, u9x, u10x, u11x, u12x, u13x, u14x, u15x, u16x, u17x, u18x, u19x, u20x, u21x, u22x, u23x, u24x, u25x, u26x, u27x, u28x, u29x, u30x, u31x, u32x, u33x, u34x, u35x, u36x, u37x, u38x, u39x, u40x, u41x, U] ∧ i ≤ x.length ∧ MkI LT_109 mkE_PCand wt_PCand w0 lo hi a x.length c y k i w') (fun e' _ => x.length - (intOf (e' 5)).toNat) ?_ ?_
 ·exact ⟨0, U, U, U, U, U, U, U, U, U, U, U, U, U, U, U, U, U, U, U, U, U, U, U, U, U, U, U, U, U, U, U, U, U, U, U, U, congrArg (fun (p : Value) => lst [(vs a x.length c), p, U, U, (vi 0), (vi 0), U, U, U, U, U, U, U, U, U, U, U, U, U, U, U, U, U, U, U, U, U, U, U, U, U, U, U, U, U, U, U, U, U, U, U, U, U]) (congrArg (Value.int .i64) (show k = k + totL wt_PCand ((y.take 0).map Prod.fst) by simp [totL])), Nat.zero_le _, hI⟩
 ·rintro _ w1 ⟨i, u6x, u7x, u8x, u9x, u10x, u11x, u12x, u13x, u14x, u15x, u16x, u17x, u18x, u19x, u20x, u21x, u22x, u23x, u24x, u25x, u26x, u27x, u28x, u29x, u30x, u31x, u32x, u33x, u34x, u35x, u36x, u37x, u38x, u39x, u40x, u41x, rfl, hi, hI1⟩
  have hb0 := hwb i hi
  refine wc_seq <| sr ?_
  refine mv (vi ((i : Nat) : Int)) wN ?_
  refine mv (vs a x.length c) wN ?_
  refine ln wN slTy_73 (Rd.of_own hI1.row) ?_
  refine pu (vb (decide (((i : Nat) : Int) < (x.length : Int)))) wN ?_
  refine wl_nil <| wq_then ?_
  rcases bf (decide (((i : Nat) : Int) < (x.length : Int))) with h101 | h101
  ·have q138 := of_decide_eq_false h101
   refine cf h101 ?_
   refine wc_exit <| wq_then_exit <| wq_then_exit <| wq_blk_exit <| wq_then <| sr ?_
   refine mv (vi (k + totL wt_PCand ((y.take i).map Prod.fst))) wN ?_
   refine ag (vi (k + totL wt_PCand ((y.take i).map Prod.fst))) wN ?_
   refine wl_nil <| wq_then <| wc_ret ?_
   obtain rfl : i = x.length := by omega
   have hz : (y.take x.length).map Prod.fst = x := by rw [List.map_take, hy, List.take_length]
   refine ret_1 (.inl rfl) (vi (k + totL wt_PCand ((y.take x.length).map Prod.fst))) rfl rfl ⟨by rw [hz], hI1.ch, hI1.doneK hC hy rfl hl⟩
  have q102 := of_decide_eq_true h101
  refine ct h101 ?_
  refine wc_skip <| wq_then <| wc_seq <| wc_block <| sr ?_
  refine mv (vs a x.length c) wN ?_
  refine mv (vi ((i : Nat) : Int)) wN ?_
  refine mv (vi (k + totL wt_PCand ((y.take i).map Prod.fst))) wN ?_
  obtain ⟨e, l, hex, x103, s104, t105, p106, q107, d108⟩ := MkI.open z_PCand hI1 hC (by omega)
  rw [hy] at hex
  subst hex
  obtain ⟨a109, c110, l111, rfl, w112, s113⟩ := SubW.c s104
  have b114 := w112.2.2
  obtain rfl := SubW.nn s113
  refine wl_index wN ((i : Nat) : Int) rfl rfl rfl slTy_73 rfl rfl (Rd.of_own hI1.row) (by first | omega | (simp only [List.length_cons, List.length_nil, List.length_replicate, List.length_append, List.length_take, List.length_set, List.length_map]; omega)) (by first | omega | (simp only [List.length_cons, List.length_nil, List.length_replicate, List.length_append, List.length_take, List.length_set, List.length_map]; omega)) ?_
  refine wl_fieldE wN rfl rfl rfl fieldAt_109_0 rfl (Rd.of_own hI1.row) (by omega) ?_
  refine wl_fieldE wN rfl rfl rfl fieldAt_61_0 rfl (Rd.of_own hI1.row) (by omega) ?_
  refine wl_storeF LT_109.len (markY mkE_PCand wt_PCand (y.take i) k ++ y.drop i) i 0 (z_PCand, []) ({ A := { Host := (k + totL wt_PCand ((y.take i).map Prod.fst)), Port := (((x.getD i z_PCand).A).Port) : PAddr }, Draw := ((x.getD i z_PCand).Draw), Until := ((x.getD i z_PCand).Until) : PCand }, [(a109, c110)]) (vi (k + totL wt_PCand ((y.take i).map Prod.fst))) [(vi (k + totL wt_PCand ((y.take i).map Prod.fst)))] wN rfl rfl rfl (by first | rfl | simp | omega) rfl rfl (one_all rfl) sizeOf_3 hI1.row (by simp only [List.length_append, markY_len, List.length_take, List.length_drop, List.length_set]; omega) (Nat.le_of_ble_eq_true rfl) (Nat.succ_pos 0) (by rw [x103]; rfl) ?_
  intro w2 k115 o116
  have x117 : ((markY mkE_PCand wt_PCand (y.take i) k ++ y.drop i).set i ({ A := { Host := (k + totL wt_PCand ((y.take i).map Prod.fst)), Port := (((x.getD i z_PCand).A).Port) : PAddr }, Draw := ((x.getD i z_PCand).Draw), Until := ((x.getD i z_PCand).Until) : PCand }, [(a109, c110)])).getD i (z_PCand, []) = ({ A := { Host := (k + totL wt_PCand ((y.take i).map Prod.fst)), Port := (((x.getD i z_PCand).A).Port) : PAddr }, Draw := ((x.getD i z_PCand).Draw), Until := ((x.getD i z_PCand).Until) : PCand }, [(a109, c110)]) := getD_set_self (by simp only [List.length_append, markY_len, List.length_take, List.length_drop, List.length_set]; omega)
  have w118 := W1.row w112 hI1.row LT_109.ne k115
  have t119 := Rst.row t105 hI1.row k115
  have h120 := ch_row (lo' := 0) (sz := 0) (m := 0) (xs := []) hI1.ch k115 hC
  refine nx ?_
  refine mv (vi (k + totL wt_PCand ((y.take i).map Prod.fst))) wN ?_
  refine ar ((k + totL wt_PCand ((y.take i).map Prod.fst)) + 1) wN ?_
  refine ag (vi ((k + totL wt_PCand ((y.take i).map Prod.fst)) + 1)) wN ?_
  refine nx ?_
  refine mv (vs a x.length c) wN ?_
  refine mv (vi ((i : Nat) : Int)) wN ?_
  refine mv (vi ((k + totL wt_PCand ((y.take i).map Prod.fst)) + 1)) wN ?_
  refine wl_index wN ((i : Nat) : Int) rfl rfl rfl slTy_73 rfl rfl (Rd.of_own o116) (by first | omega | (simp only [List.length_cons, List.length_nil, List.length_replicate, List.length_append, List.length_take, List.length_set, List.length_map]; omega)) (by first | omega | (simp only [List.length_cons, List.length_nil, List.length_replicate, List.length_append, List.length_take, List.length_set, List.length_map]; omega)) ?_
  refine wl_fieldE wN rfl rfl rfl fieldAt_109_0 rfl (Rd.of_own o116) (by omega) ?_
  refine wl_fieldE wN rfl rfl rfl fieldAt_61_1 rfl (Rd.of_own o116) (by omega) ?_
  refine wl_storeF LT_109.len ((markY mkE_PCand wt_PCand (y.take i) k ++ y.drop i).set i ({ A := { Host := (k + totL wt_PCand ((y.take i).map Prod.fst)), Port := (((x.getD i z_PCand).A).Port) : PAddr }, Draw := ((x.getD i z_PCand).Draw), Until := ((x.getD i z_PCand).Until) : PCand }, [(a109, c110)])) i 1 (z_PCand, []) ({ A := { Host := (k + totL wt_PCand ((y.take i).map Prod.fst)), Port := ((k + totL wt_PCand ((y.take i).map Prod.fst)) + 1) : PAddr }, Draw := ((x.getD i z_PCand).Draw), Until := ((x.getD i z_PCand).Until) : PCand }, [(a109, c110)]) (vi ((k + totL wt_PCand ((y.take i).map Prod.fst)) + 1)) [(vi ((k + totL wt_PCand ((y.take i).map Prod.fst)) + 1))] wN rfl rfl rfl (by first | rfl | simp | omega) rfl rfl (one_all rfl) sizeOf_3 o116 (by simp only [List.length_append, markY_len, List.length_take, List.length_drop, List.length_set]; omega) (Nat.le_of_ble_eq_true rfl) (Nat.succ_pos 0) (by rw [x117]; rfl) ?_
  intro w3 k121 o122
  rw [List.set_set] at o122
  have x123 : ((markY mkE_PCand wt_PCand (y.take i) k ++ y.drop i).set i ({ A := { Host := (k + totL wt_PCand ((y.take i).map Prod.fst)), Port := ((k + totL wt_PCand ((y.take i).map Prod.fst)) + 1) : PAddr }, Draw := ((x.getD i z_PCand).Draw), Until := ((x.getD i z_PCand).Until) : PCand }, [(a109, c110)])).getD i (z_PCand, []) = ({ A := { Host := (k + totL wt_PCand ((y.take i).map Prod.fst)), Port := ((k + totL wt_PCand ((y.take i).map Prod.fst)) + 1) : PAddr }, Draw := ((x.getD i z_PCand).Draw), Until := ((x.getD i z_PCand).Until) : PCand }, [(a109, c110)]) := getD_set_self (by simp only [List.length_append, markY_len, List.length_take, List.length_drop, List.length_set]; omega)
  have w124 := W1.row w118 o116 LT_109.ne k121
  have t125 := Rst.row t119 o116 k121
  have h126 := ch_row (lo' := 0) (sz := 0) (m := 0) (xs := []) h120 k121 hC
  refine nx ?_
  refine mv (vi ((k + totL wt_PCand ((y.take i).map Prod.fst)) + 1)) wN ?_
  refine ar (((k + totL wt_PCand ((y.take i).map Prod.fst)) + 1) + 1) wN ?_
  refine ag (vi (((k + totL wt_PCand ((y.take i).map Prod.fst)) + 1) + 1)) wN ?_
  refine nx ?_
  refine mv (vs a x.length c) wN ?_
  refine mv (vi ((i : Nat) : Int)) wN ?_
  refine wl_index wN ((i : Nat) : Int) rfl rfl rfl slTy_73 rfl rfl (Rd.of_own o122) (by first | omega | (simp only [List.length_cons, List.length_nil, List.length_replicate, List.length_append, List.length_take, List.length_set, List.length_map]; omega)) (by first | omega | (simp only [List.length_cons, List.length_nil, List.length_replicate, List.length_append, List.length_take, List.length_set, List.length_map]; omega)) ?_
  refine wl_fieldE wN rfl rfl rfl fieldAt_109_1 rfl (Rd.of_own o122) (by omega) ?_
  refine wl_loadE (vs a109 (x.getD i z_PCand).Draw.length c110) wN rfl rfl rfl rfl isAgg_22 (Rd.of_own o122) ((rows_get (k := i) (i := 2) LT_109.len (z_PCand, []) (by first | rfl | simp | omega) (Nat.le_of_ble_eq_true rfl) (by simp only [List.length_append, markY_len, List.length_take, List.length_drop, List.length_set]; omega)).trans (by rw [x123]; rfl)) ?_
  refine mv (vi (((k + totL wt_PCand ((y.take i).map Prod.fst)) + 1) + 1)) wN ?_
  refine cl wN (C_laws_markByteS_w w3 a109 c110 (x.getD i z_PCand).Draw (((k + totL wt_PCand ((y.take i).map Prod.fst)) + 1) + 1) (by omega) (by omega) w124) ?_
  rintro _ w4 ⟨rfl, k127, w128⟩
  have o129 := row_ms o122 w124 LT_109.ne k127
  have t130 := Rst.ms t125 (q107 (a109, c110) (by simp)) (rd_cap w124.2.1) k127
  have h131 := ch_ms (q := (a109, c110)) h126 k127 (d108 (a109, c110) (by simp))
  refine ag (vi ((((k + totL wt_PCand ((y.take i).map Prod.fst)) + 1) + 1) + ((x.getD i z_PCand).Draw.length : Int))) wN ?_
  refine nx ?_
  refine mv (vs a x.length c) wN ?_
  refine mv (vi ((i : Nat) : Int)) wN ?_
  refine mv (vi ((((k + totL wt_PCand ((y.take i).map Prod.fst)) + 1) + 1) + ((x.getD i z_PCand).Draw.length : Int))) wN ?_
  refine wl_index wN ((i : Nat) : Int) rfl rfl rfl slTy_73 rfl rfl (Rd.of_own o129) (by first | omega | (simp only [List.length_cons, List.length_nil, List.length_replicate, List.length_append, List.length_take, List.length_set, List.length_map]; omega)) (by first | omega | (simp only [List.length_cons, List.length_nil, List.length_replicate, List.length_append, List.length_take, List.length_set, List.length_map]; omega)) ?_
  refine wl_fieldE wN rfl rfl rfl fieldAt_109_2 rfl (Rd.of_own o129) (by omega) ?_
  refine wl_storeF LT_109.len ((markY mkE_PCand wt_PCand (y.take i) k ++ y.drop i).set i ({ A := { Host := (k + totL wt_PCand ((y.take i).map Prod.fst)), Port := ((k + totL wt_PCand ((y.take i).map Prod.fst)) + 1) : PAddr }, Draw := ((x.getD i z_PCand).Draw), Until := ((x.getD i z_PCand).Until) : PCand }, [(a109, c110)])) i 3 (z_PCand, []) ({ A := { Host := (k + totL wt_PCand ((y.take i).map Prod.fst)), Port := ((k + totL wt_PCand ((y.take i).map Prod.fst)) + 1) : PAddr }, Draw := ((x.getD i z_PCand).Draw), Until := ((((k + totL wt_PCand ((y.take i).map Prod.fst)) + 1) + 1) + ((x.getD i z_PCand).Draw.length : Int)) : PCand }, [(a109, c110)]) (vi ((((k + totL wt_PCand ((y.take i).map Prod.fst)) + 1) + 1) + ((x.getD i z_PCand).Draw.length : Int))) [(vi ((((k + totL wt_PCand ((y.take i).map Prod.fst)) + 1) + 1) + ((x.getD i z_PCand).Draw.length : Int)))] wN rfl rfl rfl (by first | rfl | simp | omega) rfl rfl (one_all rfl) sizeOf_3 o129 (by simp only [List.length_append, markY_len, List.length_take, List.length_drop, List.length_set]; omega) (Nat.le_of_ble_eq_true rfl) (Nat.succ_pos 0) (by rw [x123]; rfl) ?_
  intro w5 k132 o133
  rw [List.set_set] at o133
  have x134 : ((markY mkE_PCand wt_PCand (y.take i) k ++ y.drop i).set i ({ A := { Host := (k + totL wt_PCand ((y.take i).map Prod.fst)), Port := ((k + totL wt_PCand ((y.take i).map Prod.fst)) + 1) : PAddr }, Draw := ((x.getD i z_PCand).Draw), Until := ((((k + totL wt_PCand ((y.take i).map Prod.fst)) + 1) + 1) + ((x.getD i z_PCand).Draw.length : Int)) : PCand }, [(a109, c110)])).getD i (z_PCand, []) = ({ A := { Host := (k + totL wt_PCand ((y.take i).map Prod.fst)), Port := ((k + totL wt_PCand ((y.take i).map Prod.fst)) + 1) : PAddr }, Draw := ((x.getD i z_PCand).Draw), Until := ((((k + totL wt_PCand ((y.take i).map Prod.fst)) + 1) + 1) + ((x.getD i z_PCand).Draw.length : Int)) : PCand }, [(a109, c110)]) := getD_set_self (by simp only [List.length_append, markY_len, List.length_take, List.length_drop, List.length_set]; omega)
  have w135 := W1.row w128 o129 LT_109.ne k132
  have t136 := Rst.row t130 o129 k132
  have h137 := ch_row (lo' := 0) (sz := 0) (m := 0) (xs := []) h131 k132 hC
  refine wl_nil <| wq_then <| wc_region ?_
  refine mv (vi ((((k + totL wt_PCand ((y.take i).map Prod.fst)) + 1) + 1) + ((x.getD i z_PCand).Draw.length : Int))) wN ?_
  refine ar (((((k + totL wt_PCand ((y.take i).map Prod.fst)) + 1) + 1) + ((x.getD i z_PCand).Draw.length : Int)) + 1) wN ?_
  refine ag (vi (((((k + totL wt_PCand ((y.take i).map Prod.fst)) + 1) + 1) + ((x.getD i z_PCand).Draw.length : Int)) + 1)) wN ?_
  refine wl_nil <| wq_blk_normal <| wq_then <| wc_region ?_
  refine mv (vi ((i : Nat) : Int)) wN ?_
  refine ar (((i : Nat) : Int) + 1) wN ?_
  refine ag (vi (((i : Nat) : Int) + 1)) wN ?_
  refine wl_nil ?_
  have hq : totL wt_PCand ((y.take (i + 1)).map Prod.fst) = totL wt_PCand ((y.take i).map Prod.fst) + wt_PCand (x.getD i z_PCand) := by rw [List.map_take, List.map_take, hy]; exact totL_take (by omega)
  simp only [wt_PCand] at hq
  have hN := MkI.next z_PCand hC (by omega) x103 o133 (by simp only [LT_109, mkE_PCand, marksB_len]) ⟨w135, trivial⟩ t136 h137
  exact wq_loopN (w0 := w1) [(vs a x.length c), (vi (k + totL wt_PCand ((y.take (i + 1)).map Prod.fst))), U, U, (vi 0), (vi ((i + 1 : Nat) : Int)), (vi ((i : Nat) : Int)), (vs a x.length c), (vi (x.length : Int)), (vb (decide (((i : Nat) : Int) < (x.length : Int)))), (vi ((i : Nat) : Int)), (vi (((i : Nat) : Int) + 1)), (vs a x.length c), (vi ((i : Nat) : Int)), (vi (k + totL wt_PCand ((y.take i).map Prod.fst))), (ve (vs a x.length c) ((((i : Nat) : Int)).toNat * 4)), (ve (vs a x.length c) ((((i : Nat) : Int)).toNat * 4 + 0)), (ve (vs a x.length c) ((((i : Nat) : Int)).toNat * 4 + 0 + 0)), (vi (k + totL wt_PCand ((y.take i).map Prod.fst))), (vi ((k + totL wt_PCand ((y.take i).map Prod.fst)) + 1)), (vs a x.length c), (vi ((i : Nat) : Int)), (vi ((k + totL wt_PCand ((y.take i).map Prod.fst)) + 1)), (ve (vs a x.length c) ((((i : Nat) : Int)).toNat * 4)), (ve (vs a x.length c) ((((i : Nat) : Int)).toNat * 4 + 0)), (ve (vs a x.length c) ((((i : Nat) : Int)).toNat * 4 + 0 + 1)), (vi ((k + totL wt_PCand ((y.take i).map Prod.fst)) + 1)), (vi (((k + totL wt_PCand ((y.take i).map Prod.fst)) + 1) + 1)), (vs a x.length c), (vi ((i : Nat) : Int)), (ve (vs a x.length c) ((((i : Nat) : Int)).toNat * 4)), (ve (vs a x.length c) ((((i : Nat) : Int)).toNat * 4 + 2)), (vs a109 (x.getD i z_PCand).Draw.length c110), (vi (((k + totL wt_PCand ((y.take i).map Prod.fst)) + 1) + 1)), (vi ((((k + totL wt_PCand ((y.take i).map Prod.fst)) + 1) + 1) + ((x.getD i z_PCand).Draw.length : Int))), (vs a x.length c), (vi ((i : Nat) : Int)), (vi ((((k + totL wt_PCand ((y.take i).map Prod.fst)) + 1) + 1) + ((x.getD i z_PCand).Draw.length : Int))), (ve (vs a x.length c) ((((i : Nat) : Int)).toNat * 4)), (ve (vs a x.length c) ((((i : Nat) : Int)).toNat * 4 + 3)), (vi ((((k + totL wt_PCand ((y.take i).map Prod.fst)) + 1) + 1) + ((x.getD i z_PCand).Draw.length : Int))), (vi (((((k + totL wt_PCand ((y.take i).map Prod.fst)) + 1) + 1) + ((x.getD i z_PCand).Draw.length : Int)) + 1)), U] rfl ⟨rfl, (congrArg (Value.int .i64) (show ((((((k + totL wt_PCand ((y.take i).map Prod.fst)) + 1) + 1) + ((x.getD i z_PCand).Draw.length : Int)) + 1) : Int) = (k + totL wt_PCand ((y.take (i + 1)).map Prod.fst)) by omega)), rfl, rfl, rfl, (congrArg (Value.int .i64) (show ((((i : Nat) : Int) + 1) : Int) = ((i + 1 : Nat) : Int) by omega)), rfl, rfl, rfl, rfl, rfl, rfl, rfl, rfl, rfl, rfl, rfl, rfl, rfl, rfl, rfl, rfl, rfl, rfl, rfl, rfl, rfl, rfl, rfl, rfl, rfl, rfl, rfl, rfl, rfl, rfl, rfl, rfl, rfl, rfl, rfl, rfl, rfl, trivial⟩ ⟨i + 1, (vi ((i : Nat) : Int)), (vs a x.length c), (vi (x.length : Int)), (vb (decide (((i : Nat) : Int) < (x.length : Int)))), (vi ((i : Nat) : Int)), (vi (((i : Nat) : Int) + 1)), (vs a x.length c), (vi ((i : Nat) : Int)), (vi (k + totL wt_PCand ((y.take i).map Prod.fst))), (ve (vs a x.length c) ((((i : Nat) : Int)).toNat * 4)), (ve (vs a x.length c) ((((i : Nat) : Int)).toNat * 4 + 0)), (ve (vs a x.length c) ((((i : Nat) : Int)).toNat * 4 + 0 + 0)), (vi (k + totL wt_PCand ((y.take i).map Prod.fst))), (vi ((k + totL wt_PCand ((y.take i).map Prod.fst)) + 1)), (vs a x.length c), (vi ((i : Nat) : Int)), (vi ((k + totL wt_PCand ((y.take i).map Prod.fst)) + 1)), (ve (vs a x.length c) ((((i : Nat) : Int)).toNat * 4)), (ve (vs a x.length c) ((((i : Nat) : Int)).toNat * 4 + 0)), (ve (vs a x.length c) ((((i : Nat) : Int)).toNat * 4 + 0 + 1)), (vi ((k + totL wt_PCand ((y.take i).map Prod.fst)) + 1)), (vi (((k + totL wt_PCand ((y.take i).map Prod.fst)) + 1) + 1)), (vs a x.length c), (vi ((i : Nat) : Int)), (ve (vs a x.length c) ((((i : Nat) : Int)).toNat * 4)), (ve (vs a x.length c) ((((i : Nat) : Int)).toNat * 4 + 2)), (vs a109 (x.getD i z_PCand).Draw.length c110), (vi (((k + totL wt_PCand ((y.take i).map Prod.fst)) + 1) + 1)), (vi ((((k + totL wt_PCand ((y.take i).map Prod.fst)) + 1) + 1) + ((x.getD i z_PCand).Draw.length : Int))), (vs a x.length c), (vi ((i : Nat) : Int)), (vi ((((k + totL wt_PCand ((y.take i).map Prod.fst)) + 1) + 1) + ((x.getD i z_PCand).Draw.length : Int))), (ve (vs a x.length c) ((((i : Nat) : Int)).toNat * 4)), (ve (vs a x.length c) ((((i : Nat) : Int)).toNat * 4 + 3)), (vi ((((k + totL wt_PCand ((y.take i).map Prod.fst)) + 1) + 1) + ((x.getD i z_PCand).Draw.length : Int))), (vi (((((k + totL wt_PCand ((y.take i).map Prod.fst)) + 1) + 1) + ((x.getD i z_PCand).Draw.length : Int)) + 1)), rfl, by omega, hN⟩ (by show x.length - (((i + 1 : Nat) : Int)).toNat < x.length - (((i : Nat) : Int)).toNat; omega)

theorem C_laws_markPaths (w0 : World) (a : Option Addr) (c : Nat) (x : PPaths) (lo hi : Nat) (k : Int) (h0 : 0 ≤ k) (h1 : k ≤ 4000000000000000000) (r : OLv LT_109 w0 lo hi a x.Cands.length c x.Cands) :
    Fn Try.prog 63 #[(va (L_75 x a c)), vi k] w0 (fun v w' => v = vi (k + totL wt_PCand x.Cands) ∧ Ch (RowS LT_109 w0 lo hi) w0 w' ∧ RLk LT_109 w' lo hi a x.Cands.length c (marksE mkE_PCand wt_PCand x.Cands k)) := by
 refine fn_of (n := 10) (l := [(va (L_75 x a c)), (vi k), U, U, U, U, U, U, U, U]) Try.func63 rfl rfl (by kernel_rfl) rfl ?_
 refine sr ?_
 refine bx (L_75 x a c) wN ?_
 intro g201 w1 p202 p203 k204 b205
 refine ag (vi 0) wN ?_
 refine nx ?_
 refine pu (vp g201 2) wN ?_
 refine ld (vs a x.Cands.length c) wN isAgg_73 b205 ?_
 refine mv (vi k) wN ?_
 have o206 := (OLv.kp r k204)
 refine cl wN (C_laws_markCandS w1 a c x.Cands _ _ k h0 h1 o206) ?_
 rintro _ w2 ⟨rfl, hm, hr⟩
 refine ag (vi (k + totL wt_PCand x.Cands)) wN ?_
 refine nx ?_
 refine mv (vi (k + totL wt_PCand x.Cands)) wN ?_
 refine ag (vi (k + totL wt_PCand x.Cands)) wN ?_
 refine wl_nil <| wq_then <| wc_ret ?_
 exact ret_1 (.inl rfl) (vi (k + totL wt_PCand x.Cands)) rfl rfl ⟨rfl, (((Ch.refl (RowS LT_109 w0 lo hi) w0).comp k204 (fun g hg h => h.elim)).comp hm (fun g hg h => ⟨h.1, h.2.1, rowat_back (Keep.trans (Ch.refl (fun _ => False) w0) k204) hg h.2.2⟩)), hr⟩

theorem C_laws_heldByteS (w0 : World) (v_x_a : Value) (x_a : List UInt8) (r_x_a : R_22 w0 v_x_a x_a) (x_k : Int) (pre0 : 0 ≤ x_k) (pre1 : x_k ≤ 9000000000000000000) : Fn Try.prog 31 #[v_x_a, (vi x_k)] w0 (fun v w' => Keep w0 w' ∧ O_3 w' w0.heap.size v (heldB x_a x_k)) := by
 obtain ⟨a1, c2, rfl, r3, s4⟩ := r_x_a
 refine fn_of (n := 22) (l := [(vs a1 x_a.length c2), (vi x_k), U, U, U, U, U, U, U, U, U, U, U, U, U, U, U, U, U, U, U, U]) Try.func31 rfl rfl (by kernel_rfl) rfl ?_
 refine sr ?_
 refine ag (vi 0) wN ?_
 refine wl_nil <| wq_then <| wc_seq <| sr ?_
 refine ag (vi 0) wN ?_
 refine wl_nil <| wq_then <| wc_block ?_
 refine wc_norm [(vs a1 x_a.length c2), (vi x_k), U, U, (vi 0), (vi 0), U, U, U, U, U, U, U, U, U, U, U, U, U, U, U, U] rfl ⟨rfl, rfl, rfl, rfl, rfl, rfl, rfl, rfl, rfl, rfl, rfl, rfl, rfl, rfl, rfl, rfl, rfl, rfl, rfl, rfl, rfl, rfl, trivial⟩ ?_
 refine wc_loop (fun e' w' => ∃ (i : Nat) (u4x u6x u7x u8x u9x u10x u11x u12x u13x u14x u15x u16x u17x u18x u19x u20x : Value), e' = lst [(vs a1 x_a.length c2), (vi (x_k + ((i : Nat) : Int))), U, U, u4x, (vi ((i : Nat) : Int)), u6x, u7x, u8x, u9x, u10x, u11x, u12x, u13x, u14x, u15x, u16x, u17x, u18x, u19x, u20x, U] ∧ Ch (fun k => w0.heap.size ≤ k) w0 w' ∧ Ch (fun k => w0.heap.size ≤ k) w0 w' ∧ i ≤ x_a.length ∧ heldB x_a x_k = heldB (x_a.drop i) (x_k + ((i : Nat) : Int))) (fun e' _ => x_a.length - ((intOf (e' 5))).toNat) ?_ ?_
 ·exact ⟨0, (vi 0), U, U, U, U, U, U, U, U, U, U, U, U, U, U, U, (cg2 (fun (x1z : Value) (x5z : Value) => lst [(vs a1 x_a.length c2), x1z, U, U, (vi 0), x5z, U, U, U, U, U, U, U, U, U, U, U, U, U, U, U, U]) (congrArg (Value.int .i64) (show (x_k : Int) = (x_k + ((0 : Nat) : Int)) by omega)) (congrArg (Value.int .i64) (show (0 : Int) = ((0 : Nat) : Int) by omega))), (Ch.base w0), (Ch.refl (fun k => w0.heap.size ≤ k) w0), (by omega), (by first | exact heldB_next (by assumption) (by omega) (by assumption) | simp)⟩
 ·rintro _ w1 ⟨i, u4x, u6x, u7x, u8x, u9x, u10x, u11x, u12x, u13x, u14x, u15x, u16x, u17x, u18x, u19x, u20x, rfl, m6, k7, i8, i9⟩
  refine wc_seq <| sr ?_
  refine mv (vi ((i : Nat) : Int)) wN ?_
  refine mv (vs a1 x_a.length c2) wN ?_
  refine ln wN slTy_22 (r3.from0 m6) ?_
  refine pu (vb (decide (((i : Nat) : Int) < (x_a.length : Int)))) wN ?_
  refine wl_nil <| wq_then ?_
  rcases bf (decide (((i : Nat) : Int) < (x_a.length : Int))) with h10 | h10
  ·have q16 := of_decide_eq_false h10
   refine cf h10 ?_
   refine wc_exit <| wq_then_exit <| wq_then_exit <| wq_blk_exit <| wq_then <| sr ?_
   refine mv (vi (x_k + ((i : Nat) : Int))) wN ?_
   refine ag (vi (x_k + ((i : Nat) : Int))) wN ?_
   refine wl_nil <| wq_then <| wc_ret ?_
   refine ret_1 (.inl rfl) (vi (x_k + ((i : Nat) : Int))) rfl rfl ?_
   refine ⟨m6.keep0, ?_⟩
   have hF17 : heldB x_a x_k = (x_k + ((i : Nat) : Int)) := by first | exact heldB_ne (by assumption) (by omega) (by assumption) | exact heldB_end (by assumption) (by omega)
   rw [hF17]
   exact rfl
  have q11 := of_decide_eq_true h10
  refine ct h10 ?_
  refine wc_skip <| wq_then <| wc_seq <| wc_block <| wc_seq <| sr ?_
  refine mv (vs a1 x_a.length c2) wN ?_
  refine mv (vi ((i : Nat) : Int)) wN ?_
  refine wl_index wN ((i : Nat) : Int) rfl rfl rfl slTy_22 rfl rfl (r3.from0 m6) (by first | omega | (simp only [List.length_cons, List.length_nil, List.length_replicate, List.length_append, List.length_take, List.length_set, List.length_map]; omega)) (by first | omega | (simp only [List.length_cons, List.length_nil, List.length_replicate, List.length_append, List.length_take, List.length_set, List.length_map]; omega)) ?_
  refine wl_loadE (bV (x_a.getD i 0)) wN rfl rfl rfl rfl isAgg_5 (r3.from0 m6) (bget (by simp) (by first | omega | (simp only [List.length_cons, List.length_nil, List.length_replicate, List.length_append, List.length_take, List.length_set, List.length_map]; omega))) ?_
  refine mv (vi (x_k + ((i : Nat) : Int))) wN ?_
  refine wl_conv8 (x_k + ((i : Nat) : Int)) wN rfl rfl (by kernel_rfl) ?_
  refine pu (vb (!(decide (((x_a.getD i 0).toNat : Int) = ((by8 (x_k + ((i : Nat) : Int))).toNat : Int))))) wN ?_
  refine wl_nil <| wq_then ?_
  rcases bf (decide (((x_a.getD i 0).toNat : Int) = ((by8 (x_k + ((i : Nat) : Int))).toNat : Int))) with h12 | h12
  ·have q14 := of_decide_eq_false h12
   refine ct (congrArg not h12) ?_
   refine sr ?_
   refine ag (vi (-1)) wN ?_
   refine wl_nil <| wq_then <| wc_ret <| wq_then_ret <| wq_blk_ret <| wq_then_ret <| wq_then_ret <| wq_blk_ret <| wq_then_ret ?_
   refine ret_1 (.inl rfl) (vi (-1)) rfl rfl ?_
   refine ⟨m6.keep0, ?_⟩
   have hF15 : heldB x_a x_k = (-1) := by first | exact heldB_ne (by assumption) (by omega) (by assumption) | exact heldB_end (by assumption) (by omega)
   rw [hF15]
   exact rfl
  have q13 := of_decide_eq_true h12
  refine cf (congrArg not h12) ?_
  refine wc_skip <| wq_then <| wc_region ?_
  refine mv (vi (x_k + ((i : Nat) : Int))) wN ?_
  refine ar ((x_k + ((i : Nat) : Int)) + 1) wN ?_
  refine ag (vi ((x_k + ((i : Nat) : Int)) + 1)) wN ?_
  refine wl_nil <| wq_blk_normal <| wq_then <| wc_region ?_
  refine mv (vi ((i : Nat) : Int)) wN ?_
  refine ar (((i : Nat) : Int) + 1) wN ?_
  refine ag (vi (((i : Nat) : Int) + 1)) wN ?_
  refine wl_nil ?_
  refine wq_loopN (w0 := w1) [(vs a1 x_a.length c2), (vi (x_k + (((i + 1) : Nat) : Int))), U, U, u4x, (vi (((i + 1) : Nat) : Int)), (vi ((i : Nat) : Int)), (vs a1 x_a.length c2), (vi (x_a.length : Int)), (vb (decide (((i : Nat) : Int) < (x_a.length : Int)))), (vi ((i : Nat) : Int)), (vi (((i : Nat) : Int) + 1)), (vs a1 x_a.length c2), (vi ((i : Nat) : Int)), (ve (vs a1 x_a.length c2) ((((i : Nat) : Int)).toNat * 1)), (v8 ((x_a.getD i 0).toNat : Int)), (vi (x_k + ((i : Nat) : Int))), (v8 ((by8 (x_k + ((i : Nat) : Int))).toNat : Int)), (vb (!(decide (((x_a.getD i 0).toNat : Int) = ((by8 (x_k + ((i : Nat) : Int))).toNat : Int))))), (vi (x_k + ((i : Nat) : Int))), (vi ((x_k + ((i : Nat) : Int)) + 1)), U] rfl ?_ ?_ ?_
  · exact ⟨rfl, (congrArg (Value.int .i64) (show (((x_k + ((i : Nat) : Int)) + 1) : Int) = (x_k + (((i + 1) : Nat) : Int)) by omega)), rfl, rfl, rfl, (congrArg (Value.int .i64) (show ((((i : Nat) : Int) + 1) : Int) = (((i + 1) : Nat) : Int) by omega)), rfl, rfl, rfl, rfl, rfl, rfl, rfl, rfl, rfl, rfl, rfl, rfl, rfl, rfl, rfl, rfl, trivial⟩
  · exact ⟨(i + 1), u4x, (vi ((i : Nat) : Int)), (vs a1 x_a.length c2), (vi (x_a.length : Int)), (vb (decide (((i : Nat) : Int) < (x_a.length : Int)))), (vi ((i : Nat) : Int)), (vi (((i : Nat) : Int) + 1)), (vs a1 x_a.length c2), (vi ((i : Nat) : Int)), (ve (vs a1 x_a.length c2) ((((i : Nat) : Int)).toNat * 1)), (v8 ((x_a.getD i 0).toNat : Int)), (vi (x_k + ((i : Nat) : Int))), (v8 ((by8 (x_k + ((i : Nat) : Int))).toNat : Int)), (vb (!(decide (((x_a.getD i 0).toNat : Int) = ((by8 (x_k + ((i : Nat) : Int))).toNat : Int))))), (vi (x_k + ((i : Nat) : Int))), (vi ((x_k + ((i : Nat) : Int)) + 1)), rfl, m6, ((Ch.refl (fun k => w0.heap.size ≤ k) w0).ext k7 (fun k hk => Nat.le_trans (Nat.le_refl _) hk)), (by omega), (by first | exact heldB_next (by assumption) (by omega) (by assumption) | simp)⟩
  · show x_a.length - ((((i + 1) : Nat) : Int)).toNat < x_a.length - (((i : Nat) : Int)).toNat; omega
end Go.Proofs.Ytodlalolknldmaa.K
