import Derived.Test.YtcbdmamfmcdlaaaCore
import Derived.Test.YtcbdmamfmcdlaaaProg
import Derived.Test.YtcbdmamfmcdlaaaHeld
import Derived.Test.YtcbdmamfmcdlaaaFun
import Derived.Test.YtcbdmamfmcdlaaaFunZ
import Derived.Test.YtcbdmamfmcdlaaaSqz
import Derived.Test.YtcbdmamfmcdlaaaDrawK
namespace Go.Proofs.Ytcbdmamfmcdlaaa.K
open Go.RowKit
set_option linter.unusedVariables false
set_option linter.unusedSimpArgs false
set_option maxRecDepth 100000
set_option maxHeartbeats 4000000
def LT_143 : LTy (PCand) := { E := 143, Eb := 5, sz := 4, enc := fun e => [vi e.1.A.Host, vi e.1.A.Port, vs (adr2 e.2 0).1 e.1.Draw.length (adr2 e.2 0).2, vi e.1.Until], bs := fun x => [x.Draw], len := fun _ => rfl, one := fun _ => one_all rfl, pos := by decide, ne := by decide }
def z_PCand : PCand := { A := { Host := 0, Port := 0 : PAddr }, Draw := [], Until := 0 : PCand }
def LT_42 : LTy (PCand) := { E := 42, Eb := 5, sz := 4, enc := fun e => [vi e.1.A.Host, vi e.1.A.Port, vs (adr2 e.2 0).1 e.1.Draw.length (adr2 e.2 0).2, vi e.1.Until], bs := fun x => [x.Draw], len := fun _ => rfl, one := fun _ => one_all rfl, pos := by decide, ne := by decide }
def enc_PCredit (x : PCredit) : List Value := [.int .i64 x.A.Host, .int .i64 x.A.Port, .int .i64 x.Got, .int .i64 x.Sent]
theorem enc_PCredit_len : ∀ a, (enc_PCredit a).length = 4 := fun _ => rfl
theorem enc_PCredit_one : ∀ a, ∀ u ∈ enc_PCredit a, u.oneCell' = true := fun _ => (one_cons rfl (one_cons rfl (one_cons rfl (one_cons rfl one_nil))))
def z_PCredit : PCredit := { A := { Host := 0, Port := 0 : PAddr }, Got := 0, Sent := 0 : PCredit }
def creditAt (x_l : List PCredit) (x_a : PAddr) : Int := findF (fun c : PCredit => decide (c.A.Host = x_a.Host) && decide (c.A.Port = x_a.Port)) x_l
theorem creditAt_range (x_l : List PCredit) (x_a : PAddr) : -1 ≤ creditAt x_l x_a ∧ creditAt x_l x_a < (x_l.length : Int) := findF_range x_l

def candAt (x_p : PPaths) (x_a : PAddr) : Int := findF (fun c : PCand => decide (c.A.Host = x_a.Host) && decide (c.A.Port = x_a.Port)) x_p.Cands
theorem candAt_range (x_p : PPaths) (x_a : PAddr) : -1 ≤ candAt x_p x_a ∧ candAt x_p x_a < (x_p.Cands.length : Int) := findF_range x_p.Cands
def LT_70 : LTy (PNote) := { E := 70, Eb := 5, sz := 12, enc := fun e => [vi e.1.Kind, vi e.1.Id, vi e.1.Role, vs (adr2 e.2 0).1 e.1.Cn.length (adr2 e.2 0).2, vs (adr2 e.2 1).1 e.1.Sn.length (adr2 e.2 1).2, vi e.1.Epoch, vi e.1.Seq, vs (adr2 e.2 2).1 e.1.Body.length (adr2 e.2 2).2, vs (adr2 e.2 3).1 e.1.Key.length (adr2 e.2 3).2, vi e.1.A.Host, vi e.1.A.Port, vi e.1.Now], bs := fun x => [x.Cn, x.Sn, x.Body, x.Key], len := fun _ => rfl, one := fun _ => one_all rfl, pos := by decide, ne := by decide }
def z_PNote : PNote := { Kind := 0, Id := 0, Role := 0, Cn := [], Sn := [], Epoch := 0, Seq := 0, Body := [], Key := [], A := { Host := 0, Port := 0 : PAddr }, Now := 0 : PNote }
theorem slTy_22 : SlTy Try.prog 22 5 1 1 (v8 0) := slTy Try.underlying22 (by kernel_rfl) rfl rfl
def Q_22 (w : World) (v : Value) (x : (List UInt8)) : Prop := ∃ (a1 : Option Addr) (c1 : Nat), v = .slice a1 x.length c1 ∧ Rd w 1 (.slice a1 x.length c1) x.length (x.map bV) ∧ x.length ≤ 9223372036854775807
def O_3 (w : World) (lo : Nat) (v : Value) (x : (Int)) : Prop := v = .int .i64 x
def F_laws_szByteS (x_a : List UInt8) (x_left : Int) : (Int) := bif (decide ((x_left - (x_a.length : Int)) < 0)) then ((-1)) else ((x_left - (x_a.length : Int)))
theorem C_laws_szByteS (w0 : World) (v_x_a : Value) (x_a : List UInt8) (r_x_a : Q_22 w0 v_x_a x_a) (x_left : Int) (pre0 : 0 ≤ x_left) (pre1 : x_left ≤ 1048576) : Fn Try.prog 145 #[v_x_a, (vi x_left)] w0 (fun v w' => Keep w0 w' ∧ O_3 w' w0.heap.size v (F_laws_szByteS x_a x_left)) := by
 obtain ⟨a1, c2, rfl, r3, s4⟩ := r_x_a
 refine fn_ofS (n := 12) [(vs a1 x_a.length c2), (vi x_left)] Try.func145 rfl rfl ?_
 refine sr ?_
 refine aw (vi 0) ?_
 refine nx ?_
 refine mw (vi x_left) ?_
 refine mw (vs a1 x_a.length c2) ?_
 refine ln wN slTy_22 r3 ?_
 refine ar (x_left - (x_a.length : Int)) wN ?_
 refine aw (vi (x_left - (x_a.length : Int))) ?_
 refine n4 ?_
 refine mw (vi (x_left - (x_a.length : Int))) ?_
 refine pu (vb (decide ((x_left - (x_a.length : Int)) < 0))) wN ?_
 refine n2 ?_
 rcases bt (decide ((x_left - (x_a.length : Int)) < 0)) with h6 | h6
 ·have q7 := of_decide_eq_true h6
  refine ct h6 ?_
  refine sr ?_
  refine aw (vi (-1)) ?_
  refine n1 ?_
  refine rt (vi (-1)) ?_
  refine ⟨Ch.refl _ _, ?_⟩
  simp only [F_laws_szByteS, h6, cond_true, cond_false]
  exact rfl
 have q9 := of_decide_eq_false h6
 refine cf h6 ?_
 refine y1 ?_
 refine mw (vi (x_left - (x_a.length : Int))) ?_
 refine aw (vi (x_left - (x_a.length : Int))) ?_
 refine n3 ?_
 refine rt (vi (x_left - (x_a.length : Int))) ?_
 refine ⟨Ch.refl _ _, ?_⟩
 simp only [F_laws_szByteS, h6, cond_true, cond_false]
 exact rfl
theorem laws_szByteS_le (x : List UInt8) (l : Int) : F_laws_szByteS x l = -1 ∨ (F_laws_szByteS x l = l - ((x.length : Int)) ∧ (0 ≤ F_laws_szByteS x l ∨ l < 0 ∨ False)) := by

  simp only [F_laws_szByteS, cond_eq_ite, decide_eq_true_eq]
  (repeat' split) <;> omega

abbrev L_42 (x : PCand) (a1 : Option Addr) (c1 : Nat) : List Value := [vi x.A.Host, vi x.A.Port, vs a1 x.Draw.length c1, vi x.Until]
theorem isAgg_22 : ∀ w, (isAgg 22).run Try.prog w = .ok false w := fun w => by kernel_rfl
def Q_143 (w : World) (v : Value) (x : (PCand)) : Prop := ∃ (a1 : Option Addr) (c1 : Nat), v = .agg #[.int .i64 x.A.Host, .int .i64 x.A.Port, .slice a1 x.Draw.length c1, .int .i64 x.Until] ∧ Rd w 1 (.slice a1 x.Draw.length c1) x.Draw.length (x.Draw.map bV) ∧ x.Draw.length ≤ 9223372036854775807
theorem mQ_22 {w : World} {x : List UInt8} {a1 : Option Addr} {c1 : Nat} (h1 : Rd w 1 (.slice a1 x.length c1) x.length (x.map bV)) (l1 : x.length ≤ 9223372036854775807) : Q_22 w (vs a1 x.length c1) x := ⟨_, _, rfl, h1, l1⟩
def F_laws_szCand (x_a : PCand) (x_left : Int) : (Int) := bif (decide ((F_laws_szByteS x_a.Draw x_left) < 0)) then ((-1)) else ((F_laws_szByteS x_a.Draw x_left))
theorem C_laws_szCand (w0 : World) (v_x_a : Value) (x_a : PCand) (r_x_a : Q_143 w0 v_x_a x_a) (x_left : Int) (pre0 : 0 ≤ x_left) (pre1 : x_left ≤ 1048576) : Fn Try.prog 125 #[v_x_a, (vi x_left)] w0 (fun v w' => Keep w0 w' ∧ O_3 w' w0.heap.size v (F_laws_szCand x_a x_left)) := by
 obtain ⟨a1, c2, rfl, r3, s4⟩ := r_x_a
 refine fn_ofS (n := 12) [(va (L_42 x_a a1 c2)), (vi x_left)] Try.func125 rfl rfl ?_
 refine sr ?_
 refine bx (L_42 x_a a1 c2) wN ?_
 intro g6 w1 p7 p8 k9 b10
 have m11 := (Ch.base w0).extk k9
 refine aw (vi 0) ?_
 refine nx ?_
 refine pu (vp g6 2) wN ?_
 refine ld (vs a1 x_a.Draw.length c2) wN isAgg_22 b10 ?_
 refine mw (vi x_left) ?_
 refine cl wN (C_laws_szByteS w1 _ x_a.Draw (mQ_22 (r3.from0 m11) s4) x_left (by omega) (by omega)) ?_
 rintro _ w2 ⟨k12, rfl⟩
 have m13 := m11.extk k12
 have q14 := laws_szByteS_le x_a.Draw x_left
 refine aw (vi (F_laws_szByteS x_a.Draw x_left)) ?_
 refine n4 ?_
 refine mw (vi (F_laws_szByteS x_a.Draw x_left)) ?_
 refine pu (vb (decide ((F_laws_szByteS x_a.Draw x_left) < 0))) wN ?_
 refine n2 ?_
 rcases bt (decide ((F_laws_szByteS x_a.Draw x_left) < 0)) with h15 | h15
 ·have q16 := of_decide_eq_true h15
  refine ct h15 ?_
  refine sr ?_
  refine aw (vi (-1)) ?_
  refine n1 ?_
  refine rt (vi (-1)) ?_
  refine ⟨m13.keep0, ?_⟩
  simp only [F_laws_szCand, h15, cond_true, cond_false]
  exact rfl
 have q18 := of_decide_eq_false h15
 refine cf h15 ?_
 refine y1 ?_
 refine mw (vi (F_laws_szByteS x_a.Draw x_left)) ?_
 refine aw (vi (F_laws_szByteS x_a.Draw x_left)) ?_
 refine n3 ?_
 refine rt (vi (F_laws_szByteS x_a.Draw x_left)) ?_
 refine ⟨m13.keep0, ?_⟩
 simp only [F_laws_szCand, h15, cond_true, cond_false]
 exact rfl
theorem laws_szCand_le (x : PCand) (l : Int) : F_laws_szCand x l = -1 ∨ (F_laws_szCand x l = l - ((x.Draw.length : Int)) ∧ (0 ≤ F_laws_szCand x l ∨ l < 0 ∨ False)) := by
  have h0 := laws_szByteS_le x.Draw l
  simp only [F_laws_szCand, cond_eq_ite, decide_eq_true_eq]
  (repeat' split) <;> omega

abbrev Z_42 : List Value := [(vi 0), (vi 0), (vs none 0 0), (vi 0)]
theorem slTy_37 : SlTy Try.prog 37 143 4 48 (va Z_42) := slTy Try.underlying37 (by kernel_rfl) rfl rfl
theorem isAgg_143 : ∀ w, (isAgg 143).run Try.prog w = .ok true w := fun w => by kernel_rfl
theorem sizeOf_143 : ∀ w, (sizeOf 143).run Try.prog w = .ok 4 w := fun w => by kernel_rfl
abbrev L_143 (x : PCand) (a1 : Option Addr) (c1 : Nat) : List Value := [vi x.A.Host, vi x.A.Port, vs a1 x.Draw.length c1, vi x.Until]
def Q_37 (w : World) (v : Value) (x : (List PCand)) : Prop := ∃ (a1 : Option Addr) (c1 : Nat), v = .slice a1 x.length c1 ∧ RLv LT_143 w 9223372036854775807 a1 x.length c1 x ∧ x.length ≤ 9223372036854775807
theorem mQ_143 {w : World} {x : PCand} {a1 : Option Addr} {c1 : Nat} (h1 : Rd w 1 (.slice a1 x.Draw.length c1) x.Draw.length (x.Draw.map bV)) (l1 : x.Draw.length ≤ 9223372036854775807) : Q_143 w (va (L_143 x a1 c1)) x := ⟨_, _, rfl, h1, l1⟩
def szT_PCand (x : List PCand) (l : Int) : Int := bif decide (l - (x.length : Int) < 0) then -1 else heldL F_laws_szCand x (l - (x.length : Int))
theorem C_laws_szCandS (w0 : World) (v_x_a : Value) (x_a : List PCand) (r_x_a : Q_37 w0 v_x_a x_a) (x_left : Int) (pre0 : 0 ≤ x_left) (pre1 : x_left ≤ 1048576) : Fn Try.prog 77 #[v_x_a, (vi x_left)] w0 (fun v w' => Keep w0 w' ∧ O_3 w' w0.heap.size v (szT_PCand x_a x_left)) := by
 obtain ⟨a1, c2, rfl, r3, s4⟩ := r_x_a
 refine fn_ofS (n := 27) [(vs a1 x_a.length c2), (vi x_left)] Try.func77 rfl rfl ?_
 refine sr ?_
 refine aw (vi 0) ?_
 refine nx ?_
 refine mw (vi x_left) ?_
 refine mw (vs a1 x_a.length c2) ?_
 obtain ⟨y6, r7⟩ := RLv.row r3
 refine ln wN slTy_37 r7 ?_
 refine ar (x_left - (x_a.length : Int)) wN ?_
 refine aw (vi (x_left - (x_a.length : Int))) ?_
 refine n4 ?_
 refine mw (vi (x_left - (x_a.length : Int))) ?_
 refine pu (vb (decide ((x_left - (x_a.length : Int)) < 0))) wN ?_
 refine n2 ?_
 rcases bt (decide ((x_left - (x_a.length : Int)) < 0)) with h8 | h8
 ·have q9 := of_decide_eq_true h8
  refine ct h8 ?_
  refine sr ?_
  refine aw (vi (-1)) ?_
  refine n1 ?_
  refine rt (vi (-1)) ?_
  refine ⟨Ch.refl _ _, ?_⟩
  have hF10 : szT_PCand x_a x_left = (-1) := by first | (simp only [szT_PCand, h8]; simp; done) | (have hz := heldL_ne (h := F_laws_szCand) (z := z_PCand) (by assumption) (by omega) (of_decide_eq_true (by assumption)); simp only [szT_PCand, h8, hz]; simp; done) | (have hz := heldL_end (h := F_laws_szCand) (by assumption) (by omega); simp only [szT_PCand, h8, hz]; simp; done)
  rw [hF10]
  exact rfl
 have q11 := of_decide_eq_false h8
 refine cf h8 ?_
 refine y2 ?_
 refine aw (vi 0) ?_
 refine wl_nil <| wq_then <| wc_block ?_
 refine wc_loopP [(0, (vs a1 x_a.length c2)), (1, (vi (x_left - (x_a.length : Int)))), (5, (vi ((0 : Nat) : Int)))] ⟨rfl, rfl, (congrArg (Value.int .i64) (show (0 : Int) = ((0 : Nat) : Int) by omega)), trivial⟩ (fun e' w' => ∃ (i : Nat) (q : Int) (u12 : Env), e' = pt u12 [(0, (vs a1 x_a.length c2)), (1, (vi q)), (5, (vi ((i : Nat) : Int)))] ∧ Ch (fun k => w0.heap.size ≤ k) w0 w' ∧ Ch (fun k => w0.heap.size ≤ k) w0 w' ∧ i ≤ x_a.length ∧ heldL F_laws_szCand x_a (x_left - (x_a.length : Int)) = heldL F_laws_szCand (x_a.drop i) q ∧ 0 ≤ q ∧ q ≤ 1048576) (fun e' _ => x_a.length - ((intOf (e' 5))).toNat) ?_ ?_
 ·exact fun u => ⟨0, (x_left - (x_a.length : Int)), u, rfl, (Ch.base w0), (Ch.refl (fun k => w0.heap.size ≤ k) w0), (by omega), (by first | (simp; done) | exact heldL_next (z := z_PCand) (by assumption) (by omega) rfl (by omega)), (by omega), (by omega)⟩
 ·rintro _ w1 ⟨i, q, u12, rfl, m13, k14, i15, i16, i17, i18⟩
  refine wc_seq <| sr ?_
  refine mw (vi ((i : Nat) : Int)) ?_
  refine mw (vs a1 x_a.length c2) ?_
  obtain ⟨y19, r20⟩ := RLv.row (r3.from0 m13)
  refine ln wN slTy_37 r20 ?_
  refine pu (vb (decide (((i : Nat) : Int) < (x_a.length : Int)))) wN ?_
  refine n2 ?_
  rcases bf (decide (((i : Nat) : Int) < (x_a.length : Int))) with h21 | h21
  ·have q44 := of_decide_eq_false h21
   refine cf h21 ?_
   refine wc_exit <| wq_then_exit <| wq_then_exit <| wq_blk_exit <| wq_then <| sr ?_
   refine mw (vi q) ?_
   refine aw (vi q) ?_
   refine n3 ?_
   refine rt (vi q) ?_
   refine ⟨m13.keep0, ?_⟩
   have hF45 : szT_PCand x_a x_left = q := by first | (simp only [szT_PCand, h8, h21]; simp; done) | (have hz := heldL_ne (h := F_laws_szCand) (z := z_PCand) (by assumption) (by omega) (of_decide_eq_true (by assumption)); simp only [szT_PCand, h8, h21, hz]; simp; done) | (have hz := heldL_end (h := F_laws_szCand) (by assumption) (by omega); simp only [szT_PCand, h8, h21, hz]; simp; done)
   rw [hF45]
   exact rfl
  have q22 := of_decide_eq_true h21
  refine ct h21 ?_
  refine wc_skip <| wq_then <| wc_seq <| wc_block <| sr ?_
  refine mw (vs a1 x_a.length c2) ?_
  refine mw (vi ((i : Nat) : Int)) ?_
  obtain ⟨y23, r24⟩ := RLv.row (r3.from0 m13)
  refine ix wN ((i : Nat) : Int) slTy_37 r24 ?_
  obtain ⟨y25, l26, r27, e28, u29⟩ := RLv.el z_PCand (i := i) r3 (by first | omega | (simp only [List.length_cons, List.length_nil, List.length_replicate, List.length_append, List.length_take, List.length_set, List.length_map]; omega))
  obtain ⟨a30, c31, l35, rfl, r32, s33, u36⟩ := SubR.c u29
  obtain rfl := SubR.n u36
  refine wl_loadEN [(vi (((x_a.getD i z_PCand).A).Host)), (vi (((x_a.getD i z_PCand).A).Port)), (vs a30 (x_a.getD i z_PCand).Draw.length c31), (vi ((x_a.getD i z_PCand).Until))] wN rfl rfl rfl rfl isAgg_143 sizeOf_143 (r27.from0 m13) (by first | omega | (simp only [List.length_cons, List.length_nil, List.length_replicate, List.length_append, List.length_take, List.length_set, List.length_map]; omega)) ((part_of (off := 0) (n := 4) e28 (by first | rfl | simp | omega) (by decide)).trans rfl) ?_
  refine mw (vi q) ?_
  refine cl wN (C_laws_szCand w1 _ (x_a.getD i z_PCand) (mQ_143 (r32.from0 m13) s33) q (by omega) (by omega)) ?_
  rintro _ w2 ⟨k37, rfl⟩
  have m38 := m13.extk k37
  have q39 := laws_szCand_le (x_a.getD i z_PCand) q
  refine aw (vi (F_laws_szCand (x_a.getD i z_PCand) q)) ?_
  refine nx ?_
  refine mw (vi (F_laws_szCand (x_a.getD i z_PCand) q)) ?_
  refine pu (vb (decide ((F_laws_szCand (x_a.getD i z_PCand) q) < 0))) wN ?_
  refine n2 ?_
  rcases bt (decide ((F_laws_szCand (x_a.getD i z_PCand) q) < 0)) with h40 | h40
  ·have q41 := of_decide_eq_true h40
   refine ct h40 ?_
   refine sr ?_
   refine aw (vi (-1)) ?_
   refine wl_nil <| wq_then <| wc_ret <| wq_blk_ret <| wq_then_ret <| wq_then_ret <| wq_blk_ret <| wq_then_ret ?_
   refine rt (vi (-1)) ?_
   refine ⟨m38.keep0, ?_⟩
   have hF42 : szT_PCand x_a x_left = (-1) := by first | (simp only [szT_PCand, h8, h21, h40]; simp; done) | (have hz := heldL_ne (h := F_laws_szCand) (z := z_PCand) (by assumption) (by omega) (of_decide_eq_true (by assumption)); simp only [szT_PCand, h8, h21, h40, hz]; simp; done) | (have hz := heldL_end (h := F_laws_szCand) (by assumption) (by omega); simp only [szT_PCand, h8, h21, h40, hz]; simp; done)
   rw [hF42]
   exact rfl
  have q43 := of_decide_eq_false h40
  refine cf h40 ?_
  refine wc_skip <| wq_blk_normal <| wq_then <| wc_region ?_
  refine mw (vi ((i : Nat) : Int)) ?_
  refine ar (((i : Nat) : Int) + 1) wN ?_
  refine aw (vi (((i : Nat) : Int) + 1)) ?_
  refine wl_nil ?_
  refine wq_loopP (w0 := w1) [(0, (vs a1 x_a.length c2)), (1, (vi (F_laws_szCand (x_a.getD i z_PCand) q))), (5, (vi (((i + 1) : Nat) : Int)))] ?_ ?_ ?_
  · exact ⟨rfl, rfl, (congrArg (Value.int .i64) (show ((((i : Nat) : Int) + 1) : Int) = (((i + 1) : Nat) : Int) by omega)), trivial⟩
  · exact fun u => ⟨(i + 1), (F_laws_szCand (x_a.getD i z_PCand) q), u, rfl, m38, (((Ch.refl (fun k => w0.heap.size ≤ k) w0).ext k14 (fun k hk => hk)).extk k37), (by omega), (by first | (simp; done) | exact heldL_next (z := z_PCand) (by assumption) (by omega) rfl (by omega)), (by omega), (by omega)⟩
  · show x_a.length - ((((i + 1) : Nat) : Int)).toNat < x_a.length - (((i : Nat) : Int)).toNat; omega
theorem ok_szT_PCand {x : List PCand} (h : ¬ szT_PCand x 1048576 < 0) : x.length ≤ 1048576 ∧ ∀ e ∈ x, ∀ b ∈ LT_143.bs e, b.length ≤ 1048576 := by
  unfold szT_PCand at h
  cases h1 : decide ((1048576 : Int) - (x.length : Int) < 0) with
  | true => rw [h1] at h; exact absurd (by decide : (-1 : Int) < 0) h
  | false =>
    rw [h1] at h
    have h2 := of_decide_eq_false h1
    refine ⟨by omega, fun e he b hb => ?_⟩
    obtain ⟨l, hl, hp⟩ := held_pos (g := F_laws_szCand) (fun a l => by simp only [F_laws_szCand, F_laws_szByteS, cond_eq_ite, decide_eq_true_eq]; (repeat' split) <;> omega) x (1048576 - (x.length : Int)) (by have h3 : ¬ heldL F_laws_szCand x (1048576 - (x.length : Int)) < 0 := h; omega) e he
    simp only [F_laws_szCand, F_laws_szByteS, cond_eq_ite, decide_eq_true_eq] at hp
    simp only [LT_143, List.mem_cons, List.not_mem_nil, or_false] at hb
    (repeat' split at hp) <;> first | omega | (rcases hb with rfl | hb <;> first | omega | (rcases hb with rfl | hb <;> first | omega | (rcases hb with rfl | hb <;> first | omega | (subst hb; omega))) | (subst hb; omega)) | (subst hb; omega)

abbrev L_47 (x : PPaths) (a1 : Option Addr) (c1 : Nat) : List Value := [vi x.At.Host, vi x.At.Port, vs a1 x.Cands.length c1]
theorem isAgg_37 : ∀ w, (isAgg 37).run Try.prog w = .ok false w := fun w => by kernel_rfl
def Q_39 (w : World) (v : Value) (x : (PPaths)) : Prop := ∃ (a1 : Option Addr) (c1 : Nat), v = .agg #[.int .i64 x.At.Host, .int .i64 x.At.Port, .slice a1 x.Cands.length c1] ∧ RLv LT_143 w 9223372036854775807 a1 x.Cands.length c1 x.Cands ∧ x.Cands.length ≤ 9223372036854775807
theorem mQ_37 {w : World} {x : List PCand} {a1 : Option Addr} {c1 : Nat} (h1 : RLv LT_143 w 9223372036854775807 a1 x.length c1 x) (l1 : x.length ≤ 9223372036854775807) : Q_37 w (vs a1 x.length c1) x := ⟨_, _, rfl, h1, l1⟩
def F_laws_szPaths (x_a : PPaths) (x_left : Int) : (Int) := bif (decide ((szT_PCand x_a.Cands x_left) < 0)) then ((-1)) else ((szT_PCand x_a.Cands x_left))
theorem C_laws_szPaths (w0 : World) (v_x_a : Value) (x_a : PPaths) (r_x_a : Q_39 w0 v_x_a x_a) (x_left : Int) (pre0 : 0 ≤ x_left) (pre1 : x_left ≤ 1048576) : Fn Try.prog 18 #[v_x_a, (vi x_left)] w0 (fun v w' => Keep w0 w' ∧ O_3 w' w0.heap.size v (F_laws_szPaths x_a x_left)) := by
 obtain ⟨a1, c2, rfl, r3, s4⟩ := r_x_a
 refine fn_ofS (n := 12) [(va (L_47 x_a a1 c2)), (vi x_left)] Try.func18 rfl rfl ?_
 refine sr ?_
 refine bx (L_47 x_a a1 c2) wN ?_
 intro g6 w1 p7 p8 k9 b10
 have m11 := (Ch.base w0).extk k9
 refine aw (vi 0) ?_
 refine nx ?_
 refine pu (vp g6 2) wN ?_
 refine ld (vs a1 x_a.Cands.length c2) wN isAgg_37 b10 ?_
 refine mw (vi x_left) ?_
 refine cl wN (C_laws_szCandS w1 _ x_a.Cands (mQ_37 (r3.from0 m11) s4) x_left (by omega) (by omega)) ?_
 rintro _ w2 ⟨k12, rfl⟩
 have m13 := m11.extk k12
 refine aw (vi (szT_PCand x_a.Cands x_left)) ?_
 refine n4 ?_
 refine mw (vi (szT_PCand x_a.Cands x_left)) ?_
 refine pu (vb (decide ((szT_PCand x_a.Cands x_left) < 0))) wN ?_
 refine n2 ?_
 rcases bt (decide ((szT_PCand x_a.Cands x_left) < 0)) with h14 | h14
 ·have q15 := of_decide_eq_true h14
  refine ct h14 ?_
  refine sr ?_
  refine aw (vi (-1)) ?_
  refine n1 ?_
  refine rt (vi (-1)) ?_
  refine ⟨m13.keep0, ?_⟩
  simp only [F_laws_szPaths, h14, cond_true, cond_false]
  exact rfl
 have q17 := of_decide_eq_false h14
 refine cf h14 ?_
 refine y1 ?_
 refine mw (vi (szT_PCand x_a.Cands x_left)) ?_
 refine aw (vi (szT_PCand x_a.Cands x_left)) ?_
 refine n3 ?_
 refine rt (vi (szT_PCand x_a.Cands x_left)) ?_
 refine ⟨m13.keep0, ?_⟩
 simp only [F_laws_szPaths, h14, cond_true, cond_false]
 exact rfl
theorem ok_F_laws_szPaths {x : PPaths} (h : ¬ F_laws_szPaths x 1048576 < 0) : x.Cands.length ≤ 1048576 ∧ ∀ e ∈ x.Cands, ∀ b ∈ LT_143.bs e, b.length ≤ 1048576 := ok_szT_PCand (fun h0 => h (by simp only [F_laws_szPaths, h0, decide_true, cond_true]; decide))

abbrev L_26 (x : PAddr)  : List Value := [vi x.Host, vi x.Port]
theorem zero_26 : ∀ w, (zeroValue 26).run Try.prog w = .ok (va [(vi 0), (vi 0)]) w := fun w => by kernel_rfl
theorem isAgg_3 : ∀ w, (isAgg 3).run Try.prog w = .ok false w := fun w => by kernel_rfl
theorem sizeOf_3 : ∀ w, (sizeOf 3).run Try.prog w = .ok 1 w := fun w => by kernel_rfl
theorem isAgg_26 : ∀ w, (isAgg 26).run Try.prog w = .ok true w := fun w => by kernel_rfl
theorem sizeOf_26 : ∀ w, (sizeOf 26).run Try.prog w = .ok 2 w := fun w => by kernel_rfl
def R_36 (w : World) (v : Value) (x : (PAddr)) : Prop := v = .agg #[.int .i64 x.Host, .int .i64 x.Port]
def O_26 (w : World) (lo : Nat) (v : Value) (x : (PAddr)) : Prop := v = .agg #[.int .i64 x.Host, .int .i64 x.Port]
def F_laws_toAddr (x_a : PAddr) : (PAddr) := x_a
theorem C_laws_toAddr (w0 : World) (v_x_a : Value) (x_a : PAddr) (r_x_a : R_36 w0 v_x_a x_a)  : Fn Try.prog 21 #[v_x_a] w0 (fun v w' => Keep w0 w' ∧ O_26 w' w0.heap.size v (F_laws_toAddr x_a)) := by
 obtain rfl := r_x_a
 refine fn_ofS (n := 11) [(va (L_26 x_a))] Try.func21 rfl rfl ?_
 refine sr ?_
 refine bx (L_26 x_a) wN ?_
 intro g1 w1 p2 p3 k4 b5
 refine al [(vi 0), (vi 0)] wN zero_26 ?_
 intro g7 w2 p8 p9 k10 b11
 have m12 := ((Ch.base w0).extk k4).extk k10
 refine nx ?_
 refine al [(vi 0), (vi 0)] wN zero_26 ?_
 intro g13 w3 p14 p15 k16 b17
 refine nx ?_
 refine pu (vp g1 0) wN ?_
 have b19 := ((b5.kp k10).kp k16)
 refine ld (vi x_a.Host) wN isAgg_3 b19 ?_
 refine pu (vp g13 0) wN ?_
 refine st (vi x_a.Host) [(vi x_a.Host)] [(vi x_a.Host), (vi 0)] wN sizeOf_3 b17 ?_
 intro w4 k20 b21 z22
 have m23 := (m12.extk k16).ext k20 (fun k hk => by subst hk; exact Nat.le_trans (z2 k4 k10) p14)
 refine nx ?_
 refine pu (vp g1 1) wN ?_
 have b24 := (b19.ch k20 (Nat.ne_of_lt (Nat.lt_of_lt_of_le p3 (Nat.le_trans k10.size p14))))
 refine ld (vi x_a.Port) wN isAgg_3 b24 ?_
 refine pu (vp g13 1) wN ?_
 refine st (vi x_a.Port) [(vi x_a.Port)] (L_26 x_a) wN sizeOf_3 b21 ?_
 intro w5 k25 b26 z27
 have m28 := m23.ext k25 (fun k hk => by subst hk; exact Nat.le_trans (z2 k4 k10) p14)
 refine nx ?_
 refine lN (L_26 x_a) wN isAgg_26 sizeOf_26 b26 ?_
 have b29 := (((b11.kp k16).ch k20 (Nat.ne_of_lt (Nat.lt_of_lt_of_le p9 (p14)))).ch k25 (Nat.ne_of_lt (Nat.lt_of_lt_of_le p9 (p14))))
 refine sv (L_26 x_a) wN sizeOf_26 b29 ?_
 intro w6 k30 b31 z32
 have m33 := m28.ext k30 (fun k hk => by subst hk; exact Nat.le_trans k4.size p8)
 refine n3 ?_
 refine ret_1 (.inl rfl) (va (L_26 x_a)) rfl (rv_c (L_26 x_a) rfl b31 isAgg_26 sizeOf_26) ?_
 refine ⟨m33.keep0, ?_⟩
 have hF34 : F_laws_toAddr x_a = x_a := by rfl
 rw [hF34]
 exact rfl

theorem isAgg_5 : ∀ w, (isAgg 5).run Try.prog w = .ok false w := fun w => by kernel_rfl
theorem sizeOf_5 : ∀ w, (sizeOf 5).run Try.prog w = .ok 1 w := fun w => by kernel_rfl
def R_22 (w : World) (v : Value) (x : (List UInt8)) : Prop := ∃ (a1 : Option Addr) (c1 : Nat), v = .slice a1 x.length c1 ∧ Rd w 1 (.slice a1 x.length c1) x.length (x.map bV) ∧ x.length ≤ 1073741824
def O_22 (w : World) (lo : Nat) (v : Value) (x : (List UInt8)) : Prop := ∃ (a1 : Option Addr) (c1 : Nat), v = .slice a1 x.length c1 ∧ w.ownsRow lo 5 1 (.slice a1 x.length c1) x.length (x.map bV) ∧ x.length ≤ 1073741824 ∧ Aps [(a1, c1)]
theorem C_laws_toByteS (w0 : World) (v_x_a : Value) (x_a : List UInt8) (r_x_a : R_22 w0 v_x_a x_a)  : Fn Try.prog 146 #[v_x_a] w0 (fun v w' => Keep w0 w' ∧ O_22 w' w0.heap.size v (cpB x_a)) := by
 obtain ⟨a1, c2, rfl, r3, s4⟩ := r_x_a
 refine fn_ofS (n := 22) [(vs a1 x_a.length c2)] Try.func146 rfl rfl ?_
 refine sr ?_
 refine aw (vs none 0 0) ?_
 refine nx ?_
 refine mw (vs a1 x_a.length c2) ?_
 refine ln wN slTy_22 r3 ?_
 refine wl_makeB (x_a.length) wN rfl rfl rfl slTy_22 (x_a.length : Int) rfl (by omega) (by first | (simp only [List.length_append, List.length_cons, List.length_nil, List.length_replicate, List.length_take, List.length_drop]; omega) | omega) (by first | (simp only [List.length_append, List.length_cons, List.length_nil, List.length_replicate, List.length_take, List.length_drop]; omega) | omega) ?_
 intro a6 c7 w1 k8 o9
 have m10 := (Ch.base w0).extk k8
 refine aw (vs a6 (List.replicate x_a.length (0 : UInt8)).length c7) ?_
 refine n4 ?_
 refine aw (vi 0) ?_
 refine wl_nil <| wq_then <| wc_block ?_
 have hE13 : ((List.replicate x_a.length (0 : UInt8)) : List UInt8) = x_a.take 0 ++ List.replicate (x_a.length - 0) (0 : UInt8) := by first | exact cpB_next (by omega) | simp
 refine wc_loopP [(0, (vs a1 x_a.length c2)), (2, (vs none 0 0)), (3, (vs a6 (List.replicate x_a.length (0 : UInt8)).length c7)), (4, (vi ((0 : Nat) : Int)))] ⟨rfl, rfl, rfl, (congrArg (Value.int .i64) (show (0 : Int) = ((0 : Nat) : Int) by omega)), trivial⟩ (fun e' w' => ∃ (k : Nat) (u12 : Env), e' = pt u12 [(0, (vs a1 x_a.length c2)), (2, (vs none 0 0)), (3, (vs a6 (List.replicate x_a.length (0 : UInt8)).length c7)), (4, (vi ((k : Nat) : Int)))] ∧ Ch (fun k => w0.heap.size ≤ k) w0 w' ∧ Ch (fun k => w0.heap.size ≤ k) w1 w' ∧ k ≤ x_a.length ∧ World.ownsRow w' w0.heap.size 5 1 (.slice a6 (List.replicate x_a.length (0 : UInt8)).length c7) (List.replicate x_a.length (0 : UInt8)).length ((x_a.take k ++ List.replicate (x_a.length - k) (0 : UInt8)).map bV)) (fun e' _ => x_a.length - ((intOf (e' 4))).toNat) ?_ ?_
 ·exact fun u => ⟨0, u, rfl, m10, (Ch.refl (fun k => w0.heap.size ≤ k) w1), (by omega), (by rw [← hE13]; exact o9)⟩
 ·rintro _ w2 ⟨k, u12, rfl, m14, k15, i16, o17⟩
  refine wc_seq <| sr ?_
  refine mw (vi ((k : Nat) : Int)) ?_
  refine mw (vs a1 x_a.length c2) ?_
  refine ln wN slTy_22 (r3.from0 m14) ?_
  refine pu (vb (decide (((k : Nat) : Int) < (x_a.length : Int)))) wN ?_
  refine n2 ?_
  rcases bf (decide (((k : Nat) : Int) < (x_a.length : Int))) with h18 | h18
  ·have q24 := of_decide_eq_false h18
   refine cf h18 ?_
   refine wc_exit <| wq_then_exit <| wq_then_exit <| wq_blk_exit <| wq_then <| sr ?_
   refine mw (vs a6 (List.replicate x_a.length (0 : UInt8)).length c7) ?_
   refine aw (vs a6 (List.replicate x_a.length (0 : UInt8)).length c7) ?_
   refine n3 ?_
   refine rt (vs a6 (List.replicate x_a.length (0 : UInt8)).length c7) ?_
   refine ⟨m14.keep0, ?_⟩
   have hF25 : cpB x_a = (x_a.take k ++ List.replicate (x_a.length - k) (0 : UInt8)) := by exact cpB_end (by omega)
   rw [hF25]
   have hN26 : (List.replicate x_a.length (0 : UInt8)).length = ((x_a.take k ++ List.replicate (x_a.length - k) (0 : UInt8))).length := by first | (simp only [List.length_append, List.length_take, List.length_replicate, List.length_set, List.length_map]; done) | (simp only [List.length_append, List.length_take, List.length_replicate, List.length_set, List.length_map]; omega)
   rw [hN26] at o17 ⊢
   exact ⟨_, _, rfl, o17, (by rw [← hN26]; rw [List.length_replicate]; first | assumption | omega), ⟨trivial, trivial⟩⟩
  have q19 := of_decide_eq_true h18
  refine ct h18 ?_
  refine wc_skip <| wq_then <| wc_seq <| wc_block <| wc_region ?_
  refine mw (vs a6 (List.replicate x_a.length (0 : UInt8)).length c7) ?_
  refine mw (vi ((k : Nat) : Int)) ?_
  refine mw (vs a1 x_a.length c2) ?_
  refine mw (vi ((k : Nat) : Int)) ?_
  refine ix wN ((k : Nat) : Int) slTy_22 (r3.from0 m14) ?_
  refine eb (x := x_a) k wN isAgg_5 (r3.from0 m14) ?_
  refine ix wN ((k : Nat) : Int) slTy_22 (Rd.of_own o17) ?_
  refine wl_storeB (x_a.take k ++ List.replicate (x_a.length - k) (0 : UInt8)) (k) ((x_a.getD k 0)) wN rfl rfl rfl (by simp) rfl sizeOf_5 o17 (by first | omega | (simp only [List.length_append, List.length_replicate, List.length_take, List.length_set, List.length_map]; omega)) ?_
  intro w3 k20 o21
  have m22 := m14.ext k20 (fun k hk => Nat.le_trans (Nat.le_refl w0.heap.size) (own_lt o9 k hk).1)
  refine wl_nil <| wq_blk_normal <| wq_then <| wc_region ?_
  refine mw (vi ((k : Nat) : Int)) ?_
  refine ar (((k : Nat) : Int) + 1) wN ?_
  refine aw (vi (((k : Nat) : Int) + 1)) ?_
  refine wl_nil ?_
  have hE23 : (((x_a.take k ++ List.replicate (x_a.length - k) (0 : UInt8)).set k (x_a.getD k 0)) : List UInt8) = x_a.take (k + 1) ++ List.replicate (x_a.length - (k + 1)) (0 : UInt8) := by first | exact cpB_next (by omega) | simp
  refine wq_loopP (w0 := w2) [(0, (vs a1 x_a.length c2)), (2, (vs none 0 0)), (3, (vs a6 (List.replicate x_a.length (0 : UInt8)).length c7)), (4, (vi (((k + 1) : Nat) : Int)))] ?_ ?_ ?_
  · exact ⟨rfl, rfl, rfl, (congrArg (Value.int .i64) (show ((((k : Nat) : Int) + 1) : Int) = (((k + 1) : Nat) : Int) by omega)), trivial⟩
  · exact fun u => ⟨(k + 1), u, rfl, m22, (((Ch.refl (fun k => w0.heap.size ≤ k) w1).ext k15 (fun k hk => hk)).ext k20 (fun k hk => Nat.le_trans (Nat.le_refl w0.heap.size) (own_lt o9 k hk).1)), (by omega), (by rw [← hE23]; exact o21)⟩
  · show x_a.length - ((((k + 1) : Nat) : Int)).toNat < x_a.length - (((k : Nat) : Int)).toNat; omega

theorem zero_42 : ∀ w, (zeroValue 42).run Try.prog w = .ok (va Z_42) w := fun w => by kernel_rfl
theorem isAgg_36 : ∀ w, (isAgg 36).run Try.prog w = .ok true w := fun w => by kernel_rfl
theorem sizeOf_36 : ∀ w, (sizeOf 36).run Try.prog w = .ok 2 w := fun w => by kernel_rfl
abbrev L_36 (x : PAddr)  : List Value := [vi x.Host, vi x.Port]
theorem sizeOf_22 : ∀ w, (sizeOf 22).run Try.prog w = .ok 1 w := fun w => by kernel_rfl
theorem isAgg_42 : ∀ w, (isAgg 42).run Try.prog w = .ok true w := fun w => by kernel_rfl
theorem sizeOf_42 : ∀ w, (sizeOf 42).run Try.prog w = .ok 4 w := fun w => by kernel_rfl
def R_143 (w : World) (v : Value) (x : (PCand)) : Prop := ∃ (a1 : Option Addr) (c1 : Nat), v = .agg #[.int .i64 x.A.Host, .int .i64 x.A.Port, .slice a1 x.Draw.length c1, .int .i64 x.Until] ∧ Rd w 1 (.slice a1 x.Draw.length c1) x.Draw.length (x.Draw.map bV) ∧ x.Draw.length ≤ 1073741824
def O_42 (w : World) (lo : Nat) (v : Value) (x : (PCand)) : Prop := ∃ (a1 : Option Addr) (c1 : Nat), v = .agg #[.int .i64 x.A.Host, .int .i64 x.A.Port, .slice a1 x.Draw.length c1, .int .i64 x.Until] ∧ w.ownsRow lo 5 1 (.slice a1 x.Draw.length c1) x.Draw.length (x.Draw.map bV) ∧ x.Draw.length ≤ 1073741824 ∧ Aps [(a1, c1)]
theorem mR_36 {w : World} {x : PAddr} : R_36 w (va (L_36 x)) x := rfl
theorem mR_22 {w : World} {x : List UInt8} {a1 : Option Addr} {c1 : Nat} (h1 : Rd w 1 (.slice a1 x.length c1) x.length (x.map bV)) (l1 : x.length ≤ 1073741824) : R_22 w (vs a1 x.length c1) x := ⟨_, _, rfl, h1, l1⟩
def F_laws_toCand (x_a : PCand) : (PCand) := { A := (F_laws_toAddr x_a.A), Draw := (cpB x_a.Draw), Until := x_a.Until : PCand }
theorem C_laws_toCand (w0 : World) (v_x_a : Value) (x_a : PCand) (r_x_a : R_143 w0 v_x_a x_a)  : Fn Try.prog 126 #[v_x_a] w0 (fun v w' => Keep w0 w' ∧ O_42 w' w0.heap.size v (F_laws_toCand x_a)) := by
 obtain ⟨a1, c2, rfl, r3, s4⟩ := r_x_a
 refine fn_ofS (n := 16) [(va (L_42 x_a a1 c2))] Try.func126 rfl rfl ?_
 refine sr ?_
 refine bx (L_42 x_a a1 c2) wN ?_
 intro g6 w1 p7 p8 k9 b10
 refine al Z_42 wN zero_42 ?_
 intro g12 w2 p13 p14 k15 b16
 have m17 := ((Ch.base w0).extk k9).extk k15
 refine nx ?_
 refine al Z_42 wN zero_42 ?_
 intro g18 w3 p19 p20 k21 b22
 refine nx ?_
 refine pu (vp g6 0) wN ?_
 have b24 := ((b10.kp k15).kp k21)
 refine lN (L_26 x_a.A) wN isAgg_36 sizeOf_36 b24 ?_
 refine cl wN (C_laws_toAddr w3 _ x_a.A (mR_36)) ?_
 rintro _ w4 ⟨k25, rfl⟩
 refine pu (vp g18 0) wN ?_
 have b27 := (b22.kp k25)
 refine st (va (L_26 (F_laws_toAddr x_a.A))) (L_26 (F_laws_toAddr x_a.A)) [(vi ((F_laws_toAddr x_a.A).Host)), (vi ((F_laws_toAddr x_a.A).Port)), (vs none 0 0), (vi 0)] wN sizeOf_26 b27 ?_
 intro w5 k28 b29 z30
 have m31 := ((m17.extk k21).extk k25).ext k28 (fun k hk => by subst hk; exact Nat.le_trans (z2 k9 k15) p19)
 refine nx ?_
 refine pu (vp g6 2) wN ?_
 have b32 := ((b24.kp k25).ch k28 (Nat.ne_of_lt (Nat.lt_of_lt_of_le p8 (Nat.le_trans k15.size p19))))
 refine ld (vs a1 x_a.Draw.length c2) wN isAgg_22 b32 ?_
 refine cl wN (C_laws_toByteS w5 _ x_a.Draw (mR_22 (r3.from0 m31) s4)) ?_
 rintro _ w6 ⟨k33, ⟨a34, c35, rfl, o36, s37, ap39⟩⟩
 refine pu (vp g18 2) wN ?_
 have b41 := (b29.kp k33)
 refine st (vs a34 (cpB x_a.Draw).length c35) [(vs a34 (cpB x_a.Draw).length c35)] [(vi ((F_laws_toAddr x_a.A).Host)), (vi ((F_laws_toAddr x_a.A).Port)), (vs a34 (cpB x_a.Draw).length c35), (vi 0)] wN sizeOf_22 b41 ?_
 intro w7 k42 b43 z44
 have m45 := (m31.extk k33).ext k42 (fun k hk => by subst hk; exact Nat.le_trans (z2 k9 k15) p19)
 refine nx ?_
 refine pu (vp g6 3) wN ?_
 have b46 := ((b32.kp k33).ch k42 (Nat.ne_of_lt (Nat.lt_of_lt_of_le p8 (Nat.le_trans k15.size p19))))
 refine ld (vi x_a.Until) wN isAgg_3 b46 ?_
 refine pu (vp g18 3) wN ?_
 refine st (vi x_a.Until) [(vi x_a.Until)] [(vi ((F_laws_toAddr x_a.A).Host)), (vi ((F_laws_toAddr x_a.A).Port)), (vs a34 (cpB x_a.Draw).length c35), (vi x_a.Until)] wN sizeOf_3 b43 ?_
 intro w8 k47 b48 z49
 have m50 := m45.ext k47 (fun k hk => by subst hk; exact Nat.le_trans (z2 k9 k15) p19)
 refine nx ?_
 refine lN [(vi ((F_laws_toAddr x_a.A).Host)), (vi ((F_laws_toAddr x_a.A).Port)), (vs a34 (cpB x_a.Draw).length c35), (vi x_a.Until)] wN isAgg_42 sizeOf_42 b48 ?_
 have zz1 := Nat.lt_of_lt_of_le p14 (p19)
 have b51 := ((((((b16.kp k21).kp k25).ch k28 (Nat.ne_of_lt zz1)).kp k33).ch k42 (Nat.ne_of_lt zz1)).ch k47 (Nat.ne_of_lt zz1))
 refine sv [(vi ((F_laws_toAddr x_a.A).Host)), (vi ((F_laws_toAddr x_a.A).Port)), (vs a34 (cpB x_a.Draw).length c35), (vi x_a.Until)] wN sizeOf_42 b51 ?_
 intro w9 k52 b53 z54
 have m55 := m50.ext k52 (fun k hk => by subst hk; exact Nat.le_trans k9.size p13)
 refine n3 ?_
 have o56 := (own_ch (own_ch (own_ch o36 k42 (ne1 o36 (Nat.lt_of_lt_of_le p20 (z2 k25 k28)))) k47 (ne1 o36 (Nat.lt_of_lt_of_le p20 (z2 k25 k28)))) k52 (ne1 o36 (Nat.lt_of_lt_of_le p14 (z3 k21 k25 k28))))
 refine ret_1 (.inl rfl) (va [(vi ((F_laws_toAddr x_a.A).Host)), (vi ((F_laws_toAddr x_a.A).Port)), (vs a34 (cpB x_a.Draw).length c35), (vi x_a.Until)]) rfl (rv_c [(vi ((F_laws_toAddr x_a.A).Host)), (vi ((F_laws_toAddr x_a.A).Port)), (vs a34 (cpB x_a.Draw).length c35), (vi x_a.Until)] rfl b53 isAgg_42 sizeOf_42) ?_
 refine ⟨m55.keep0, ?_⟩
 have hF57 : F_laws_toCand x_a = { A := (F_laws_toAddr x_a.A), Draw := (cpB x_a.Draw), Until := x_a.Until : PCand } := by rfl
 rw [hF57]
 exact ⟨_, _, rfl, (own_lo o56 (z5 k9 k15 k21 k25 k28)), s37, ⟨trivial, trivial⟩⟩

theorem slTy_45 : SlTy Try.prog 45 42 4 48 (va Z_42) := slTy Try.underlying45 (by kernel_rfl) rfl rfl
def R_37 (w : World) (v : Value) (x : (List PCand)) : Prop := ∃ (a1 : Option Addr) (c1 : Nat), v = .slice a1 x.length c1 ∧ RLv LT_143 w 1073741824 a1 x.length c1 x ∧ x.length ≤ 1073741824
def O_45 (w : World) (lo : Nat) (v : Value) (x : (List PCand)) : Prop := ∃ (a1 : Option Addr) (c1 : Nat), v = .slice a1 x.length c1 ∧ OLv LT_42 w lo w.heap.size a1 x.length c1 x ∧ x.length ≤ 1073741824 ∧ Aps [(a1, c1)]
theorem mR_143 {w : World} {x : PCand} {a1 : Option Addr} {c1 : Nat} (h1 : Rd w 1 (.slice a1 x.Draw.length c1) x.Draw.length (x.Draw.map bV)) (l1 : x.Draw.length ≤ 1073741824) : R_143 w (va (L_143 x a1 c1)) x := ⟨_, _, rfl, h1, l1⟩
theorem C_laws_toCandS (w0 : World) (v_x_a : Value) (x_a : List PCand) (r_x_a : R_37 w0 v_x_a x_a)  : Fn Try.prog 79 #[v_x_a] w0 (fun v w' => Keep w0 w' ∧ O_45 w' w0.heap.size v (cpL x_a)) := by
 obtain ⟨a1, c2, rfl, r3, s4⟩ := r_x_a
 refine fn_ofS (n := 23) [(vs a1 x_a.length c2)] Try.func79 rfl rfl ?_
 refine sr ?_
 refine aw (vs none 0 0) ?_
 refine nx ?_
 refine mw (vs a1 x_a.length c2) ?_
 obtain ⟨y6, r7⟩ := RLv.row r3
 refine ln wN slTy_37 r7 ?_
 refine wl_makeL LT_42 z_PCand [(none, 0)] (x_a.length) wN slTy_45 rfl rfl (fun w lo => ⟨⟨own_nil _ _ _ _, Nat.zero_le _⟩, trivial⟩) (by simp) (x_a.length : Int) rfl (by omega) ?_
 intro a8 c9 w1 k10 o11
 have m12 := (Ch.base w0).extk k10
 obtain ⟨y14, o15⟩ := OLv.ow o11
 refine aw (vs a8 (List.replicate x_a.length z_PCand).length c9) ?_
 refine n4 ?_
 refine aw (vi 0) ?_
 refine wl_nil <| wq_then <| wc_block ?_
 have hE17 : ((List.replicate x_a.length z_PCand) : List (PCand)) = x_a.take 0 ++ List.replicate (x_a.length - 0) z_PCand := by first | exact cp_next (by omega) | simp
 refine wc_loopP [(0, (vs a1 x_a.length c2)), (2, (vs none 0 0)), (3, (vs a8 (List.replicate x_a.length z_PCand).length c9)), (4, (vi ((0 : Nat) : Int)))] ⟨rfl, rfl, rfl, (congrArg (Value.int .i64) (show (0 : Int) = ((0 : Nat) : Int) by omega)), trivial⟩ (fun e' w' => ∃ (k : Nat) (u16 : Env), e' = pt u16 [(0, (vs a1 x_a.length c2)), (2, (vs none 0 0)), (3, (vs a8 (List.replicate x_a.length z_PCand).length c9)), (4, (vi ((k : Nat) : Int)))] ∧ Ch (fun k => w0.heap.size ≤ k) w0 w' ∧ Ch (fun k => w0.heap.size ≤ k) w1 w' ∧ k ≤ x_a.length ∧ OLv LT_42 w' w0.heap.size w'.heap.size a8 ((List.replicate x_a.length z_PCand).length) c9 (x_a.take k ++ List.replicate (x_a.length - k) z_PCand)) (fun e' _ => x_a.length - ((intOf (e' 4))).toNat) ?_ ?_
 ·exact fun u => ⟨0, u, rfl, m12, (Ch.refl (fun k => w0.heap.size ≤ k) w1), (by omega), (by rw [← hE17]; exact (OLv.now o11))⟩
 ·rintro _ w2 ⟨k, u16, rfl, m18, k19, i20, o21⟩
  refine wc_seq <| sr ?_
  refine mw (vi ((k : Nat) : Int)) ?_
  refine mw (vs a1 x_a.length c2) ?_
  obtain ⟨y22, r23⟩ := RLv.row (r3.from0 m18)
  refine ln wN slTy_37 r23 ?_
  refine pu (vb (decide (((k : Nat) : Int) < (x_a.length : Int)))) wN ?_
  refine n2 ?_
  rcases bf (decide (((k : Nat) : Int) < (x_a.length : Int))) with h24 | h24
  ·have q55 := of_decide_eq_false h24
   refine cf h24 ?_
   refine wc_exit <| wq_then_exit <| wq_then_exit <| wq_blk_exit <| wq_then <| sr ?_
   refine mw (vs a8 (List.replicate x_a.length z_PCand).length c9) ?_
   refine aw (vs a8 (List.replicate x_a.length z_PCand).length c9) ?_
   refine n3 ?_
   refine rt (vs a8 (List.replicate x_a.length z_PCand).length c9) ?_
   refine ⟨m18.keep0, ?_⟩
   have hF56 : cpL x_a = (x_a.take k ++ List.replicate (x_a.length - k) z_PCand) := by exact cpL_end (by omega)
   rw [hF56]
   have hN57 : (List.replicate x_a.length z_PCand).length = ((x_a.take k ++ List.replicate (x_a.length - k) z_PCand)).length := by first | (simp only [List.length_append, List.length_take, List.length_replicate, List.length_set, List.length_map]; done) | (simp only [List.length_append, List.length_take, List.length_replicate, List.length_set, List.length_map]; omega)
   rw [hN57] at o21 ⊢
   exact ⟨_, _, rfl, (OLv.now (OLv.low o21 (Nat.le_refl w0.heap.size))), (by rw [← hN57]; rw [List.length_replicate]; first | assumption | omega), ⟨trivial, trivial⟩⟩
  have q25 := of_decide_eq_true h24
  refine ct h24 ?_
  refine wc_skip <| wq_then <| wc_seq <| wc_block <| wc_region ?_
  refine mw (vs a8 (List.replicate x_a.length z_PCand).length c9) ?_
  refine mw (vi ((k : Nat) : Int)) ?_
  refine mw (vs a1 x_a.length c2) ?_
  refine mw (vi ((k : Nat) : Int)) ?_
  obtain ⟨y26, r27⟩ := RLv.row (r3.from0 m18)
  refine ix wN ((k : Nat) : Int) slTy_37 r27 ?_
  obtain ⟨y28, l29, r30, e31, u32⟩ := RLv.el z_PCand (i := k) r3 (by first | omega | (simp only [List.length_cons, List.length_nil, List.length_replicate, List.length_append, List.length_take, List.length_set, List.length_map]; omega))
  obtain ⟨a33, c34, l38, rfl, r35, s36, u39⟩ := SubR.c u32
  obtain rfl := SubR.n u39
  refine wl_loadEN [(vi (((x_a.getD k z_PCand).A).Host)), (vi (((x_a.getD k z_PCand).A).Port)), (vs a33 (x_a.getD k z_PCand).Draw.length c34), (vi ((x_a.getD k z_PCand).Until))] wN rfl rfl rfl rfl isAgg_143 sizeOf_143 (r30.from0 m18) (by first | omega | (simp only [List.length_cons, List.length_nil, List.length_replicate, List.length_append, List.length_take, List.length_set, List.length_map]; omega)) ((part_of (off := 0) (n := 4) e31 (by first | rfl | simp | omega) (by decide)).trans rfl) ?_
  refine cl wN (C_laws_toCand w2 _ (x_a.getD k z_PCand) (mR_143 (r35.from0 m18) s36)) ?_
  rintro _ w3 ⟨k40, ⟨a41, c42, rfl, o43, s44, ap46⟩⟩
  have o50 := (OLv.kp o21 k40)
  obtain ⟨y48, r49⟩ := RLv.row (OLv.rl o50)
  refine ix wN ((k : Nat) : Int) slTy_45 r49 ?_
  refine wl_setL z_PCand (k) (F_laws_toCand (x_a.getD k z_PCand)) [(a41, c42)] wN o50 ⟨⟨o43, s44⟩, trivial⟩ ⟨trivial, trivial⟩ (Nat.le_refl _) (z2 k10 k19) (by first | omega | (simp only [List.length_cons, List.length_nil, List.length_replicate, List.length_append, List.length_take, List.length_set, List.length_map]; omega)) (us := (L_42 (F_laws_toCand (x_a.getD k z_PCand)) a41 c42)) rfl sizeOf_42 ?_ (by first | rfl | simp | omega)
  intro w4 k51 o52
  have m53 := (m18.extk k40).ext k51 (fun k hk => Nat.le_trans (Nat.le_refl w0.heap.size) (own_lt o15 k hk).1)
  refine wl_nil <| wq_blk_normal <| wq_then <| wc_region ?_
  refine mw (vi ((k : Nat) : Int)) ?_
  refine ar (((k : Nat) : Int) + 1) wN ?_
  refine aw (vi (((k : Nat) : Int) + 1)) ?_
  refine wl_nil ?_
  have hE54 : (((x_a.take k ++ List.replicate (x_a.length - k) z_PCand).set k (F_laws_toCand (x_a.getD k z_PCand))) : List (PCand)) = x_a.take (k + 1) ++ List.replicate (x_a.length - (k + 1)) z_PCand := by first | exact cp_next (by omega) | simp
  refine wq_loopP (w0 := w2) [(0, (vs a1 x_a.length c2)), (2, (vs none 0 0)), (3, (vs a8 (List.replicate x_a.length z_PCand).length c9)), (4, (vi (((k + 1) : Nat) : Int)))] ?_ ?_ ?_
  · exact ⟨rfl, rfl, rfl, (congrArg (Value.int .i64) (show ((((k : Nat) : Int) + 1) : Int) = (((k + 1) : Nat) : Int) by omega)), trivial⟩
  · exact fun u => ⟨(k + 1), u, rfl, m53, ((((Ch.refl (fun k => w0.heap.size ≤ k) w1).ext k19 (fun k hk => hk)).extk k40).ext k51 (fun k hk => Nat.le_trans (Nat.le_refl w0.heap.size) (own_lt o15 k hk).1)), (by omega), (by rw [← hE54]; exact (OLv.now o52))⟩
  · show x_a.length - ((((k + 1) : Nat) : Int)).toNat < x_a.length - (((k : Nat) : Int)).toNat; omega

theorem zero_47 : ∀ w, (zeroValue 47).run Try.prog w = .ok (va [(vi 0), (vi 0), (vs none 0 0)]) w := fun w => by kernel_rfl
theorem sizeOf_45 : ∀ w, (sizeOf 45).run Try.prog w = .ok 1 w := fun w => by kernel_rfl
theorem isAgg_47 : ∀ w, (isAgg 47).run Try.prog w = .ok true w := fun w => by kernel_rfl
theorem sizeOf_47 : ∀ w, (sizeOf 47).run Try.prog w = .ok 3 w := fun w => by kernel_rfl
def R_39 (w : World) (v : Value) (x : (PPaths)) : Prop := ∃ (a1 : Option Addr) (c1 : Nat), v = .agg #[.int .i64 x.At.Host, .int .i64 x.At.Port, .slice a1 x.Cands.length c1] ∧ RLv LT_143 w 1073741824 a1 x.Cands.length c1 x.Cands ∧ x.Cands.length ≤ 1073741824
def O_47 (w : World) (lo : Nat) (v : Value) (x : (PPaths)) : Prop := ∃ (a1 : Option Addr) (c1 : Nat), v = .agg #[.int .i64 x.At.Host, .int .i64 x.At.Port, .slice a1 x.Cands.length c1] ∧ OLv LT_42 w lo w.heap.size a1 x.Cands.length c1 x.Cands ∧ x.Cands.length ≤ 1073741824 ∧ Aps [(a1, c1)]
theorem mR_37 {w : World} {x : List PCand} {a1 : Option Addr} {c1 : Nat} (h1 : RLv LT_143 w 1073741824 a1 x.length c1 x) (l1 : x.length ≤ 1073741824) : R_37 w (vs a1 x.length c1) x := ⟨_, _, rfl, h1, l1⟩
def F_laws_toPaths (x_a : PPaths) : (PPaths) := { At := (F_laws_toAddr x_a.At), Cands := (cpL x_a.Cands) : PPaths }
theorem C_laws_toPaths (w0 : World) (v_x_a : Value) (x_a : PPaths) (r_x_a : R_39 w0 v_x_a x_a)  : Fn Try.prog 20 #[v_x_a] w0 (fun v w' => Keep w0 w' ∧ O_47 w' w0.heap.size v (F_laws_toPaths x_a)) := by
 obtain ⟨a1, c2, rfl, r3, s4⟩ := r_x_a
 refine fn_ofS (n := 13) [(va (L_47 x_a a1 c2))] Try.func20 rfl rfl ?_
 refine sr ?_
 refine bx (L_47 x_a a1 c2) wN ?_
 intro g6 w1 p7 p8 k9 b10
 refine al [(vi 0), (vi 0), (vs none 0 0)] wN zero_47 ?_
 intro g12 w2 p13 p14 k15 b16
 have m17 := ((Ch.base w0).extk k9).extk k15
 refine nx ?_
 refine al [(vi 0), (vi 0), (vs none 0 0)] wN zero_47 ?_
 intro g18 w3 p19 p20 k21 b22
 refine nx ?_
 refine pu (vp g6 0) wN ?_
 have b24 := ((b10.kp k15).kp k21)
 refine lN (L_26 x_a.At) wN isAgg_36 sizeOf_36 b24 ?_
 refine cl wN (C_laws_toAddr w3 _ x_a.At (mR_36)) ?_
 rintro _ w4 ⟨k25, rfl⟩
 refine pu (vp g18 0) wN ?_
 have b27 := (b22.kp k25)
 refine st (va (L_26 (F_laws_toAddr x_a.At))) (L_26 (F_laws_toAddr x_a.At)) [(vi ((F_laws_toAddr x_a.At).Host)), (vi ((F_laws_toAddr x_a.At).Port)), (vs none 0 0)] wN sizeOf_26 b27 ?_
 intro w5 k28 b29 z30
 have m31 := ((m17.extk k21).extk k25).ext k28 (fun k hk => by subst hk; exact Nat.le_trans (z2 k9 k15) p19)
 refine nx ?_
 refine pu (vp g6 2) wN ?_
 have b32 := ((b24.kp k25).ch k28 (Nat.ne_of_lt (Nat.lt_of_lt_of_le p8 (Nat.le_trans k15.size p19))))
 refine ld (vs a1 x_a.Cands.length c2) wN isAgg_37 b32 ?_
 refine cl wN (C_laws_toCandS w5 _ x_a.Cands (mR_37 (r3.from0 m31) s4)) ?_
 rintro _ w6 ⟨k33, ⟨a34, c35, rfl, o36, s37, ap39⟩⟩
 obtain ⟨y41, o42⟩ := OLv.ow o36
 refine pu (vp g18 2) wN ?_
 have b43 := (b29.kp k33)
 refine st (vs a34 (cpL x_a.Cands).length c35) [(vs a34 (cpL x_a.Cands).length c35)] [(vi ((F_laws_toAddr x_a.At).Host)), (vi ((F_laws_toAddr x_a.At).Port)), (vs a34 (cpL x_a.Cands).length c35)] wN sizeOf_45 b43 ?_
 intro w7 k44 b45 z46
 have m47 := (m31.extk k33).ext k44 (fun k hk => by subst hk; exact Nat.le_trans (z2 k9 k15) p19)
 refine nx ?_
 refine lN [(vi ((F_laws_toAddr x_a.At).Host)), (vi ((F_laws_toAddr x_a.At).Port)), (vs a34 (cpL x_a.Cands).length c35)] wN isAgg_47 sizeOf_47 b45 ?_
 have b48 := (((((b16.kp k21).kp k25).ch k28 (Nat.ne_of_lt (Nat.lt_of_lt_of_le p14 (p19)))).kp k33).ch k44 (Nat.ne_of_lt (Nat.lt_of_lt_of_le p14 (p19))))
 refine sv [(vi ((F_laws_toAddr x_a.At).Host)), (vi ((F_laws_toAddr x_a.At).Port)), (vs a34 (cpL x_a.Cands).length c35)] wN sizeOf_47 b48 ?_
 intro w8 k49 b50 z51
 have m52 := m47.ext k49 (fun k hk => by subst hk; exact Nat.le_trans k9.size p13)
 refine n3 ?_
 have o53 := (OLv.ch (OLv.ch o36 k44 (fun g h1 h2 hk => by have h3 := Nat.lt_of_lt_of_le p20 (z2 k25 k28); omega)) k49 (fun g h1 h2 hk => by have h3 := Nat.lt_of_lt_of_le p14 (z3 k21 k25 k28); omega))
 refine ret_1 (.inl rfl) (va [(vi ((F_laws_toAddr x_a.At).Host)), (vi ((F_laws_toAddr x_a.At).Port)), (vs a34 (cpL x_a.Cands).length c35)]) rfl (rv_c [(vi ((F_laws_toAddr x_a.At).Host)), (vi ((F_laws_toAddr x_a.At).Port)), (vs a34 (cpL x_a.Cands).length c35)] rfl b50 isAgg_47 sizeOf_47) ?_
 refine ⟨m52.keep0, ?_⟩
 have hF54 : F_laws_toPaths x_a = { At := (F_laws_toAddr x_a.At), Cands := (cpL x_a.Cands) : PPaths } := by rfl
 rw [hF54]
 exact ⟨_, _, rfl, (OLv.now (OLv.low o53 (z5 k9 k15 k21 k25 k28))), s37, ⟨trivial, trivial⟩⟩

def O_4 (w : World) (lo : Nat) (v : Value) (x : (Bool)) : Prop := v = .bool x
def F_spec_l1In (x_x : Int) (x_least : Int) (x_most : Int) : (Bool) := bif (decide (x_least ≤ x_x)) then (decide (x_x ≤ x_most)) else (false)
theorem C_spec_l1In (w0 : World) (x_x : Int) (x_least : Int) (x_most : Int)  : Fn Try.prog 75 #[(vi x_x), (vi x_least), (vi x_most)] w0 (fun v w' => Keep w0 w' ∧ O_4 w' w0.heap.size v (F_spec_l1In x_x x_least x_most)) := by
 refine fn_ofS (n := 15) [(vi x_x), (vi x_least), (vi x_most)] Try.func75 rfl rfl ?_
 refine sr ?_
 refine aw (vb false) ?_
 refine nx ?_
 refine mw (vi x_x) ?_
 refine mw (vi x_least) ?_
 refine pu (vb (decide (x_least ≤ x_x))) wN ?_
 refine mw (vb (decide (x_least ≤ x_x))) ?_
 rcases bf (decide (x_least ≤ x_x)) with h1 | h1
 ·have q4 := of_decide_eq_false h1
  iterate 3 refine sk h1 ?_
  refine pf (vb false) wN h1 ?_
  refine aw (vb false) ?_
  refine n3 ?_
  refine rt (vb false) ?_
  refine ⟨Ch.refl _ _, ?_⟩
  simp only [F_spec_l1In, h1, cond_true, cond_false]
  exact rfl
 have q2 := of_decide_eq_true h1
 refine mv (vi x_x) (wS h1) ?_
 refine mv (vi x_most) (wS h1) ?_
 refine pu (vb (decide (x_x ≤ x_most))) (wS h1) ?_
 refine pk (vb (decide (x_x ≤ x_most))) wN h1 ?_
 refine aw (vb (decide (x_x ≤ x_most))) ?_
 refine n3 ?_
 refine rt (vb (decide (x_x ≤ x_most))) ?_
 refine ⟨Ch.refl _ _, ?_⟩
 simp only [F_spec_l1In, h1, cond_true, cond_false]
 exact rfl
theorem spec_l1In_t {n a b : Int} (h : F_spec_l1In n a b = true) : a ≤ n ∧ n ≤ b := by
  unfold F_spec_l1In at h
  by_cases h1 : a ≤ n <;> simp [h1] at h
  exact ⟨h1, h⟩
theorem spec_l1In_f {n a b : Int} (h : F_spec_l1In n a b = false) : n < a ∨ b < n := by
  unfold F_spec_l1In at h
  by_cases h1 : a ≤ n <;> simp [h1] at h <;> omega

def R_26 (w : World) (v : Value) (x : (PAddr)) : Prop := v = .agg #[.int .i64 x.Host, .int .i64 x.Port]
def F_spec_AddrOk (x_a : PAddr) : (Bool) := bif (F_spec_l1In x_a.Host 0 4294967295) then ((F_spec_l1In x_a.Port 0 65535)) else (false)
theorem C_spec_AddrOk (w0 : World) (v_x_a : Value) (x_a : PAddr) (r_x_a : R_26 w0 v_x_a x_a)  : Fn Try.prog 74 #[v_x_a] w0 (fun v w' => Keep w0 w' ∧ O_4 w' w0.heap.size v (F_spec_AddrOk x_a)) := by
 obtain rfl := r_x_a
 refine fn_ofS (n := 11) [(va (L_26 x_a))] Try.func74 rfl rfl ?_
 refine sr ?_
 refine bx (L_26 x_a) wN ?_
 intro g1 w1 p2 p3 k4 b5
 refine aw (vb false) ?_
 refine nx ?_
 refine pu (vp g1 0) wN ?_
 refine ld (vi x_a.Host) wN isAgg_3 b5 ?_
 refine cl wN (C_spec_l1In w1 x_a.Host 0 4294967295) ?_
 rintro _ w2 ⟨k7, rfl⟩
 have m8 := ((Ch.base w0).extk k4).extk k7
 refine mw (vb (F_spec_l1In x_a.Host 0 4294967295)) ?_
 rcases bf (F_spec_l1In x_a.Host 0 4294967295) with h9 | h9
 ·have q15 := spec_l1In_f h9
  iterate 3 refine sk h9 ?_
  refine pf (vb false) wN h9 ?_
  refine aw (vb false) ?_
  refine n3 ?_
  refine rt (vb false) ?_
  refine ⟨m8.keep0, ?_⟩
  simp only [F_spec_AddrOk, h9, cond_true, cond_false]
  exact rfl
 have q10 := spec_l1In_t h9
 refine pu (vp g1 1) (wS h9) ?_
 have b11 := (b5.kp k7)
 refine ld (vi x_a.Port) (wS h9) isAgg_3 b11 ?_
 refine cl (wS h9) (C_spec_l1In w2 x_a.Port 0 65535) ?_
 rintro _ w3 ⟨k12, rfl⟩
 have m13 := m8.extk k12
 refine pk (vb (F_spec_l1In x_a.Port 0 65535)) wN h9 ?_
 refine aw (vb (F_spec_l1In x_a.Port 0 65535)) ?_
 refine n3 ?_
 refine rt (vb (F_spec_l1In x_a.Port 0 65535)) ?_
 refine ⟨m13.keep0, ?_⟩
 simp only [F_spec_AddrOk, h9, cond_true, cond_false]
 exact rfl

theorem isAgg_45 : ∀ w, (isAgg 45).run Try.prog w = .ok false w := fun w => by kernel_rfl
theorem guardt_26 : Try.prog.eqGuardType Try.prog.depth 26 = false := by kernel_rfl
theorem aggeq_26 (x0 y0 : Int) (x1 y1 : Int) (w : World) : (Op.equalIn 10000 26 (.agg #[.int .i64 x0, .int .i64 x1]) (.agg #[.int .i64 y0, .int .i64 y1])).run Try.prog w = .ok ((decide (x0 = y0) && decide (x1 = y1))) w := by
  rw [run_equalIn_struct w 9999 26 _ _ (by kernel_rfl) (by kernel_rfl)]
  simp [Program.fieldsOf, Op.eqFields, go_sem, Try.underlying3, Try.underlying26]
  by_cases h0 : x0 = y0 <;> by_cases h1 : x1 = y1 <;> simp [*]
theorem fieldAt_42_0 : ∀ a w, (Instr.fieldAt 42 (.pointer (some a)) 0).run Try.prog w = .ok (.pointer (some (a.add 0))) w := fun a w => by kernel_rfl
theorem mixed : Try.prog.follows .mixedOrders = true := by kernel_rfl
def R_47 (w : World) (v : Value) (x : (PPaths)) : Prop := ∃ (a1 : Option Addr) (c1 : Nat), v = .agg #[.int .i64 x.At.Host, .int .i64 x.At.Port, .slice a1 x.Cands.length c1] ∧ RLv LT_42 w 1073741824 a1 x.Cands.length c1 x.Cands ∧ x.Cands.length ≤ 1073741824
theorem mR_26 {w : World} {x : PAddr} : R_26 w (va (L_26 x)) x := rfl
def sPaJ (x_p : PPaths) (i j : Nat) : Bool := !(decide ((x_p.Cands.getD j z_PCand).A.Host = (x_p.Cands.getD i z_PCand).A.Host) && decide ((x_p.Cands.getD j z_PCand).A.Port = (x_p.Cands.getD i z_PCand).A.Port))
def sPaG (x_p : PPaths) (i : Nat) : Bool := (F_spec_AddrOk (x_p.Cands.getD i z_PCand).A) && ((decide (((x_p.Cands.getD i z_PCand).Draw.length : Int) = 12)) && ((F_spec_l1In (x_p.Cands.getD i z_PCand).Until 0 1000006) && ((!(decide ((x_p.Cands.getD i z_PCand).A.Host = x_p.At.Host) && decide ((x_p.Cands.getD i z_PCand).A.Port = x_p.At.Port))) && (allN (sPaJ x_p i) i))))
def sPa (x_p : PPaths) : Bool := bif F_spec_AddrOk x_p.At then (bif decide (3 < (x_p.Cands.length : Int)) then false else allN (sPaG x_p) x_p.Cands.length) else false
theorem C_spec_PathsOk (w0 : World) (v_x_p : Value) (x_p : PPaths) (r_x_p : R_47 w0 v_x_p x_p)  : Fn Try.prog 38 #[v_x_p] w0 (fun v w' => Keep w0 w' ∧ O_4 w' w0.heap.size v (sPa x_p)) := by
 obtain ⟨a1, c2, rfl, r3, s4⟩ := r_x_p
 refine fn_ofS (n := 65) [(va (L_47 x_p a1 c2))] Try.func38 rfl rfl ?_
 refine sr ?_
 refine bx (L_47 x_p a1 c2) wN ?_
 intro g6 w1 p7 p8 k9 b10
 have m11 := (Ch.base w0).extk k9
 refine aw (vb false) ?_
 refine n4 ?_
 refine jT1 [(1, (vp g6 0)), (2, (vb false))] (sPa x_p = false) ?_ fun J12 => ?_
 ·intro hA13 w2 k15 u14
  have m16 := m11.extk k15
  refine sr ?_
  refine aw (vb false) ?_
  refine n1 ?_
  refine rt (vb false) ?_
  refine ⟨m16.keep0, ?_⟩
  rw [hA13]
  exact rfl
 refine pu (vp g6 0) wN ?_
 refine lN (L_26 x_p.At) wN isAgg_26 sizeOf_26 b10 ?_
 refine cl wN (C_spec_AddrOk w1 _ x_p.At (mR_26)) ?_
 rintro _ w2 ⟨k18, rfl⟩
 have m19 := m11.extk k18
 refine pu (vb (!(F_spec_AddrOk x_p.At))) wN ?_
 refine mw (vb (!(F_spec_AddrOk x_p.At))) ?_
 rcases bf (F_spec_AddrOk x_p.At) with h20 | h20
 ·iterate 4 refine sk (congrArg not h20) ?_
  refine pk (vb true) wN (congrArg not h20) ?_
  refine n2 ?_
  refine ct (Eq.refl true) ?_
  have hF166 : sPa x_p = false := by simp [sPa, h20]
  exact wj (J12 hF166 _ k18)
 refine pu (vp g6 2) (wS (congrArg not h20)) ?_
 have b22 := (b10.kp k18)
 refine ld (vs a1 x_p.Cands.length c2) (wS (congrArg not h20)) isAgg_45 b22 ?_
 obtain ⟨y23, r24⟩ := RLv.row (r3.from0 m19)
 refine ln (wS (congrArg not h20)) slTy_45 r24 ?_
 refine pu (vb (decide (3 < (x_p.Cands.length : Int)))) (wS (congrArg not h20)) ?_
 refine pf (vb (decide (3 < (x_p.Cands.length : Int)))) wN (congrArg not h20) ?_
 refine n2 ?_
 rcases bt (decide (3 < (x_p.Cands.length : Int))) with h25 | h25
 ·have q26 := of_decide_eq_true h25
  refine ct h25 ?_
  have hF27 : sPa x_p = false := by simp [sPa, h20, h25]
  exact wj (J12 hF27 _ k18)
 have q28 := of_decide_eq_false h25
 refine cf h25 ?_
 refine y2 ?_
 refine aw (vi 0) ?_
 refine wl_nil <| wq_then <| wc_block ?_
 refine wc_loopP [(1, (vp g6 0)), (3, (vi ((0 : Nat) : Int)))] ⟨rfl, (congrArg (Value.int .i64) (show (0 : Int) = ((0 : Nat) : Int) by omega)), trivial⟩ (fun e' w' => ∃ (k : Nat) (u29 : Env), e' = pt u29 [(1, (vp g6 0)), (3, (vi ((k : Nat) : Int)))] ∧ Ch (fun k => w0.heap.size ≤ k) w0 w' ∧ Ch (fun k => w2.heap.size ≤ k) w2 w' ∧ k ≤ x_p.Cands.length ∧ (∀ j, j < k → sPaG x_p j = true)) (fun e' _ => x_p.Cands.length - ((intOf (e' 3))).toNat) ?_ ?_
 ·exact fun u => ⟨0, u, rfl, m19, (Ch.refl (fun k => w2.heap.size ≤ k) w2), (by omega), (by first | (intro j hj; omega) | (have hy := allN_t (f := sPaJ x_p k) (n := k) (k := j) (by assumption) (by omega); exact allN_next (by assumption) (by simp only [sPaG, hy, h20, h25]; simp)))⟩
 ·rintro _ w3 ⟨k, u29, rfl, m30, k31, i32, i33⟩
  refine wc_seq <| sr ?_
  refine mw (vi ((k : Nat) : Int)) ?_
  refine pu (vp g6 2) wN ?_
  have b34 := (b22.ch k31 (Nat.not_le.2 (Nat.lt_of_lt_of_le p8 k18.size)))
  refine ld (vs a1 x_p.Cands.length c2) wN isAgg_45 b34 ?_
  obtain ⟨y35, r36⟩ := RLv.row (r3.from0 m30)
  refine ln wN slTy_45 r36 ?_
  refine pu (vb (decide (((k : Nat) : Int) < (x_p.Cands.length : Int)))) wN ?_
  refine n2 ?_
  rcases bf (decide (((k : Nat) : Int) < (x_p.Cands.length : Int))) with h37 | h37
  ·have q163 := of_decide_eq_false h37
   refine cf h37 ?_
   refine wc_exit <| wq_then_exit <| wq_then_exit <| wq_blk_exit <| wq_then <| sr ?_
   refine aw (vb true) ?_
   refine n3 ?_
   refine rt (vb true) ?_
   refine ⟨m30.keep0, ?_⟩
   have hF164 : sPa x_p = true := by have hz := allN_t (f := sPaG x_p) (n := x_p.Cands.length) (k := k) (by assumption) (by omega); simp only [sPa, h20, h25, h37, hz]; simp
   rw [hF164]
   exact rfl
  have q38 := of_decide_eq_true h37
  refine ct h37 ?_
  refine wc_skip <| wq_then <| wc_seq <| wc_block <| sr ?_
  refine pu (vp g6 2) wN ?_
  refine ld (vs a1 x_p.Cands.length c2) wN isAgg_45 b34 ?_
  refine mw (vi ((k : Nat) : Int)) ?_
  obtain ⟨y39, r40⟩ := RLv.row (r3.from0 m30)
  refine ix wN ((k : Nat) : Int) slTy_45 r40 ?_
  obtain ⟨y41, l42, r43, e44, u45⟩ := RLv.el z_PCand (i := k) r3 (by first | omega | (simp only [List.length_cons, List.length_nil, List.length_replicate, List.length_append, List.length_take, List.length_set, List.length_map]; omega))
  obtain ⟨a46, c47, l51, rfl, r48, s49, u52⟩ := SubR.c u45
  obtain rfl := SubR.n u52
  refine wl_loadEN [(vi (((x_p.Cands.getD k z_PCand).A).Host)), (vi (((x_p.Cands.getD k z_PCand).A).Port)), (vs a46 (x_p.Cands.getD k z_PCand).Draw.length c47), (vi ((x_p.Cands.getD k z_PCand).Until))] wN rfl rfl rfl rfl isAgg_42 sizeOf_42 (r43.from0 m30) (by first | omega | (simp only [List.length_cons, List.length_nil, List.length_replicate, List.length_append, List.length_take, List.length_set, List.length_map]; omega)) ((part_of (off := 0) (n := 4) e44 (by first | rfl | simp | omega) (by decide)).trans rfl) ?_
  refine al Z_42 wN zero_42 ?_
  intro g53 w4 p54 p55 k56 b57
  refine sv [(vi (((x_p.Cands.getD k z_PCand).A).Host)), (vi (((x_p.Cands.getD k z_PCand).A).Port)), (vs a46 (x_p.Cands.getD k z_PCand).Draw.length c47), (vi ((x_p.Cands.getD k z_PCand).Until))] wN sizeOf_42 b57 ?_
  intro w5 k59 b60 z61
  have m62 := (m30.extk k56).ext k59 (fun k hk => by subst hk; exact Nat.le_trans (z3 k9 k18 k31) p54)
  refine n4 ?_
  refine pu (vp g53 0) wN ?_
  refine lN (L_26 ((x_p.Cands.getD k z_PCand).A)) wN isAgg_26 sizeOf_26 b60 ?_
  refine cl wN (C_spec_AddrOk w5 _ ((x_p.Cands.getD k z_PCand).A) (mR_26)) ?_
  rintro _ w6 ⟨k63, rfl⟩
  have m64 := m62.extk k63
  refine pu (vb (!(F_spec_AddrOk ((x_p.Cands.getD k z_PCand).A)))) wN ?_
  refine mw (vb (!(F_spec_AddrOk ((x_p.Cands.getD k z_PCand).A)))) ?_
  rcases bf (F_spec_AddrOk ((x_p.Cands.getD k z_PCand).A)) with h65 | h65
  ·iterate 4 refine sk (congrArg not h65) ?_
   refine pk (vb true) wN (congrArg not h65) ?_
   refine mw (vb true) ?_
   iterate 4 refine sk (Eq.refl true) ?_
   refine pk (vb true) wN (Eq.refl true) ?_
   refine mw (vb true) ?_
   iterate 5 refine sk (Eq.refl true) ?_
   refine pk (vb true) wN (Eq.refl true) ?_
   refine n2 ?_
   refine ct (Eq.refl true) ?_
   refine sr ?_
   refine aw (vb false) ?_
   refine wl_nil <| wq_then <| wc_ret <| wq_then_ret <| wq_blk_ret <| wq_then_ret <| wq_then_ret <| wq_blk_ret <| wq_then_ret ?_
   refine rt (vb false) ?_
   refine ⟨m64.keep0, ?_⟩
   have hF162 : sPa x_p = false := by have hz := allN_f (f := sPaG x_p) (n := x_p.Cands.length) (k := k) (by omega) (by simp only [sPaG, h20, h25, h37, h65]; simp); simp only [sPa, h20, h25, h37, h65, hz]; simp
   rw [hF162]
   exact rfl
  refine pu (vp g53 2) (wS (congrArg not h65)) ?_
  have b67 := (b60.kp k63)
  refine ld (vs a46 (x_p.Cands.getD k z_PCand).Draw.length c47) (wS (congrArg not h65)) isAgg_22 b67 ?_
  refine ln (wS (congrArg not h65)) slTy_22 (r48.from0 m64) ?_
  refine pu (vb (!(decide (((x_p.Cands.getD k z_PCand).Draw.length : Int) = 12)))) (wS (congrArg not h65)) ?_
  refine pf (vb (!(decide (((x_p.Cands.getD k z_PCand).Draw.length : Int) = 12)))) wN (congrArg not h65) ?_
  refine mw (vb (!(decide (((x_p.Cands.getD k z_PCand).Draw.length : Int) = 12)))) ?_
  rcases bf (decide (((x_p.Cands.getD k z_PCand).Draw.length : Int) = 12)) with h68 | h68
  ·have q159 := of_decide_eq_false h68
   iterate 4 refine sk (congrArg not h68) ?_
   refine pk (vb true) wN (congrArg not h68) ?_
   refine mw (vb true) ?_
   iterate 5 refine sk (Eq.refl true) ?_
   refine pk (vb true) wN (Eq.refl true) ?_
   refine n2 ?_
   refine ct (Eq.refl true) ?_
   refine sr ?_
   refine aw (vb false) ?_
   refine wl_nil <| wq_then <| wc_ret <| wq_then_ret <| wq_blk_ret <| wq_then_ret <| wq_then_ret <| wq_blk_ret <| wq_then_ret ?_
   refine rt (vb false) ?_
   refine ⟨m64.keep0, ?_⟩
   have hF160 : sPa x_p = false := by have hz := allN_f (f := sPaG x_p) (n := x_p.Cands.length) (k := k) (by omega) (by simp only [sPaG, h20, h25, h37, h65, h68]; simp); simp only [sPa, h20, h25, h37, h65, h68, hz]; simp
   rw [hF160]
   exact rfl
  have q69 := of_decide_eq_true h68
  refine pu (vp g53 3) (wS (congrArg not h68)) ?_
  refine ld (vi ((x_p.Cands.getD k z_PCand).Until)) (wS (congrArg not h68)) isAgg_3 b67 ?_
  refine cl (wS (congrArg not h68)) (C_spec_l1In w6 ((x_p.Cands.getD k z_PCand).Until) 0 1000006) ?_
  rintro _ w7 ⟨k70, rfl⟩
  have m71 := m64.extk k70
  refine pu (vb (!(F_spec_l1In ((x_p.Cands.getD k z_PCand).Until) 0 1000006))) (wS (congrArg not h68)) ?_
  refine pf (vb (!(F_spec_l1In ((x_p.Cands.getD k z_PCand).Until) 0 1000006))) wN (congrArg not h68) ?_
  refine mw (vb (!(F_spec_l1In ((x_p.Cands.getD k z_PCand).Until) 0 1000006))) ?_
  rcases bf (F_spec_l1In ((x_p.Cands.getD k z_PCand).Until) 0 1000006) with h72 | h72
  ·have q157 := spec_l1In_f h72
   iterate 5 refine sk (congrArg not h72) ?_
   refine pk (vb true) wN (congrArg not h72) ?_
   refine n2 ?_
   refine ct (Eq.refl true) ?_
   refine sr ?_
   refine aw (vb false) ?_
   refine wl_nil <| wq_then <| wc_ret <| wq_then_ret <| wq_blk_ret <| wq_then_ret <| wq_then_ret <| wq_blk_ret <| wq_then_ret ?_
   refine rt (vb false) ?_
   refine ⟨m71.keep0, ?_⟩
   have hF158 : sPa x_p = false := by have hz := allN_f (f := sPaG x_p) (n := x_p.Cands.length) (k := k) (by omega) (by simp only [sPaG, h20, h25, h37, h65, h68, h72]; simp); simp only [sPa, h20, h25, h37, h65, h68, h72, hz]; simp
   rw [hF158]
   exact rfl
  have q73 := spec_l1In_t h72
  refine pu (vp g53 0) (wS (congrArg not h72)) ?_
  have b74 := (b67.kp k70)
  refine lN (L_26 ((x_p.Cands.getD k z_PCand).A)) (wS (congrArg not h72)) isAgg_26 sizeOf_26 b74 ?_
  refine pu (vp g6 0) (wS (congrArg not h72)) ?_
  have b75 := ((((b34.kp k56).ch k59 (Nat.ne_of_lt (Nat.lt_of_lt_of_le p8 (Nat.le_trans (z2 k18 k31) p54)))).kp k63).kp k70)
  refine lN (L_26 x_p.At) (wS (congrArg not h72)) isAgg_26 sizeOf_26 b75 ?_
  refine wl_aggeq ((decide ((((x_p.Cands.getD k z_PCand).A).Host) = x_p.At.Host) && decide ((((x_p.Cands.getD k z_PCand).A).Port) = x_p.At.Port))) (wS (congrArg not h72)) rfl rfl rfl rfl rfl guardt_26 (aggeq_26 (((x_p.Cands.getD k z_PCand).A).Host) x_p.At.Host (((x_p.Cands.getD k z_PCand).A).Port) x_p.At.Port w7) ?_
  refine pf (vb (decide ((((x_p.Cands.getD k z_PCand).A).Host) = x_p.At.Host) && decide ((((x_p.Cands.getD k z_PCand).A).Port) = x_p.At.Port))) wN (congrArg not h72) ?_
  refine n2 ?_
  rcases bt (decide ((((x_p.Cands.getD k z_PCand).A).Host) = x_p.At.Host) && decide ((((x_p.Cands.getD k z_PCand).A).Port) = x_p.At.Port)) with h76 | h76
  ·refine ct h76 ?_
   refine sr ?_
   refine aw (vb false) ?_
   refine wl_nil <| wq_then <| wc_ret <| wq_then_ret <| wq_blk_ret <| wq_then_ret <| wq_then_ret <| wq_blk_ret <| wq_then_ret ?_
   refine rt (vb false) ?_
   refine ⟨m71.keep0, ?_⟩
   have hF78 : sPa x_p = false := by have hz := allN_f (f := sPaG x_p) (n := x_p.Cands.length) (k := k) (by omega) (by simp only [sPaG, h20, h25, h37, h65, h68, h72, h76]; simp); simp only [sPa, h20, h25, h37, h65, h68, h72, h76, hz]; simp
   rw [hF78]
   exact rfl
  refine cf h76 ?_
  refine y1 ?_
  refine aw (vi 0) ?_
  refine wl_nil <| wq_then <| wc_block ?_
  refine wc_loopP [(1, (vp g6 0)), (3, (vi ((k : Nat) : Int))), (4, (vp g53 0)), (5, (vi ((0 : Nat) : Int))), (16, (vi ((k : Nat) : Int))), (17, (vp g6 2)), (18, (vs a1 x_p.Cands.length c2)), (19, (vi (x_p.Cands.length : Int))), (20, (vb (decide (((k : Nat) : Int) < (x_p.Cands.length : Int))))), (23, (vp g6 2)), (24, (vs a1 x_p.Cands.length c2)), (25, (vi ((k : Nat) : Int))), (26, (ve (vs a1 x_p.Cands.length c2) ((((k : Nat) : Int)).toNat * 4))), (27, (va [(vi (((x_p.Cands.getD k z_PCand).A).Host)), (vi (((x_p.Cands.getD k z_PCand).A).Port)), (vs a46 (x_p.Cands.getD k z_PCand).Draw.length c47), (vi ((x_p.Cands.getD k z_PCand).Until))])), (28, (vp g53 0)), (29, (va (L_26 ((x_p.Cands.getD k z_PCand).A)))), (30, (vb (F_spec_AddrOk ((x_p.Cands.getD k z_PCand).A)))), (31, (vb (!(F_spec_AddrOk ((x_p.Cands.getD k z_PCand).A))))), (32, (vb (!(F_spec_AddrOk ((x_p.Cands.getD k z_PCand).A))))), (33, (vp g53 2)), (34, (vs a46 (x_p.Cands.getD k z_PCand).Draw.length c47)), (35, (vi ((x_p.Cands.getD k z_PCand).Draw.length : Int))), (36, (vb (!(decide (((x_p.Cands.getD k z_PCand).Draw.length : Int) = 12))))), (37, (vb (!(decide (((x_p.Cands.getD k z_PCand).Draw.length : Int) = 12))))), (38, (vb (!(decide (((x_p.Cands.getD k z_PCand).Draw.length : Int) = 12))))), (39, (vp g53 3)), (40, (vi ((x_p.Cands.getD k z_PCand).Until))), (41, (vb (F_spec_l1In ((x_p.Cands.getD k z_PCand).Until) 0 1000006))), (42, (vb (!(F_spec_l1In ((x_p.Cands.getD k z_PCand).Until) 0 1000006)))), (43, (vb (!(F_spec_l1In ((x_p.Cands.getD k z_PCand).Until) 0 1000006)))), (44, (vb (!(F_spec_l1In ((x_p.Cands.getD k z_PCand).Until) 0 1000006)))), (45, (vp g53 0)), (46, (va (L_26 ((x_p.Cands.getD k z_PCand).A)))), (47, (vp g6 0)), (48, (va (L_26 x_p.At))), (49, (vb (decide ((((x_p.Cands.getD k z_PCand).A).Host) = x_p.At.Host) && decide ((((x_p.Cands.getD k z_PCand).A).Port) = x_p.At.Port)))), (50, (vb (decide ((((x_p.Cands.getD k z_PCand).A).Host) = x_p.At.Host) && decide ((((x_p.Cands.getD k z_PCand).A).Port) = x_p.At.Port))))] ⟨rfl, rfl, rfl, (congrArg (Value.int .i64) (show (0 : Int) = ((0 : Nat) : Int) by omega)), rfl, rfl, rfl, rfl, rfl, rfl, rfl, rfl, rfl, rfl, rfl, rfl, rfl, rfl, rfl, rfl, rfl, rfl, rfl, rfl, rfl, rfl, rfl, rfl, rfl, rfl, rfl, rfl, rfl, rfl, rfl, rfl, rfl, trivial⟩ (fun e' w' => ∃ (j : Nat) (u80 : Env), e' = pt u80 [(1, (vp g6 0)), (3, (vi ((k : Nat) : Int))), (4, (vp g53 0)), (5, (vi ((j : Nat) : Int))), (16, (vi ((k : Nat) : Int))), (17, (vp g6 2)), (18, (vs a1 x_p.Cands.length c2)), (19, (vi (x_p.Cands.length : Int))), (20, (vb (decide (((k : Nat) : Int) < (x_p.Cands.length : Int))))), (23, (vp g6 2)), (24, (vs a1 x_p.Cands.length c2)), (25, (vi ((k : Nat) : Int))), (26, (ve (vs a1 x_p.Cands.length c2) ((((k : Nat) : Int)).toNat * 4))), (27, (va [(vi (((x_p.Cands.getD k z_PCand).A).Host)), (vi (((x_p.Cands.getD k z_PCand).A).Port)), (vs a46 (x_p.Cands.getD k z_PCand).Draw.length c47), (vi ((x_p.Cands.getD k z_PCand).Until))])), (28, (vp g53 0)), (29, (va (L_26 ((x_p.Cands.getD k z_PCand).A)))), (30, (vb (F_spec_AddrOk ((x_p.Cands.getD k z_PCand).A)))), (31, (vb (!(F_spec_AddrOk ((x_p.Cands.getD k z_PCand).A))))), (32, (vb (!(F_spec_AddrOk ((x_p.Cands.getD k z_PCand).A))))), (33, (vp g53 2)), (34, (vs a46 (x_p.Cands.getD k z_PCand).Draw.length c47)), (35, (vi ((x_p.Cands.getD k z_PCand).Draw.length : Int))), (36, (vb (!(decide (((x_p.Cands.getD k z_PCand).Draw.length : Int) = 12))))), (37, (vb (!(decide (((x_p.Cands.getD k z_PCand).Draw.length : Int) = 12))))), (38, (vb (!(decide (((x_p.Cands.getD k z_PCand).Draw.length : Int) = 12))))), (39, (vp g53 3)), (40, (vi ((x_p.Cands.getD k z_PCand).Until))), (41, (vb (F_spec_l1In ((x_p.Cands.getD k z_PCand).Until) 0 1000006))), (42, (vb (!(F_spec_l1In ((x_p.Cands.getD k z_PCand).Until) 0 1000006)))), (43, (vb (!(F_spec_l1In ((x_p.Cands.getD k z_PCand).Until) 0 1000006)))), (44, (vb (!(F_spec_l1In ((x_p.Cands.getD k z_PCand).Until) 0 1000006)))), (45, (vp g53 0)), (46, (va (L_26 ((x_p.Cands.getD k z_PCand).A)))), (47, (vp g6 0)), (48, (va (L_26 x_p.At))), (49, (vb (decide ((((x_p.Cands.getD k z_PCand).A).Host) = x_p.At.Host) && decide ((((x_p.Cands.getD k z_PCand).A).Port) = x_p.At.Port)))), (50, (vb (decide ((((x_p.Cands.getD k z_PCand).A).Host) = x_p.At.Host) && decide ((((x_p.Cands.getD k z_PCand).A).Port) = x_p.At.Port))))] ∧ Ch (fun k => w0.heap.size ≤ k) w0 w' ∧ Ch (fun k => w7.heap.size ≤ k) w7 w' ∧ j ≤ k ∧ (∀ m, m < j → sPaJ x_p k m = true)) (fun e' _ => k - ((intOf (e' 5))).toNat) ?_ ?_
  ·exact fun u => ⟨0, u, rfl, m71, (Ch.refl (fun k => w7.heap.size ≤ k) w7), (by omega), (by first | (intro m hm; omega) | exact allN_next (by assumption) (by simp only [sPaJ, h20, h25, h37, h65, h68, h72, h76]; simp))⟩
  ·rintro _ w8 ⟨j, u80, rfl, m81, k82, i83, i84⟩
   refine wc_seq <| sr ?_
   refine mw (vi ((j : Nat) : Int)) ?_
   refine mw (vi ((k : Nat) : Int)) ?_
   refine pu (vb (decide (((j : Nat) : Int) < ((k : Nat) : Int)))) wN ?_
   refine n2 ?_
   rcases bf (decide (((j : Nat) : Int) < ((k : Nat) : Int))) with h85 | h85
   ·have q156 := of_decide_eq_false h85
    refine cf h85 ?_
    refine wc_exit <| wq_then_exit <| wq_then_exit <| wq_blk_exit <| wq_blk_normal <| wq_then <| wc_region ?_
    refine mw (vi ((k : Nat) : Int)) ?_
    refine ar (((k : Nat) : Int) + 1) wN ?_
    refine aw (vi (((k : Nat) : Int) + 1)) ?_
    refine wl_nil ?_
    refine wq_loopP (w0 := w3) [(1, (vp g6 0)), (3, (vi (((k + 1) : Nat) : Int)))] ?_ ?_ ?_
    · exact ⟨rfl, (congrArg (Value.int .i64) (show ((((k : Nat) : Int) + 1) : Int) = (((k + 1) : Nat) : Int) by omega)), trivial⟩
    · exact fun u => ⟨(k + 1), u, rfl, m81, (((((((Ch.refl (fun k => w2.heap.size ≤ k) w2).ext k31 (fun k hk => hk)).extk k56).ext k59 (fun k hk => by subst hk; exact Nat.le_trans k31.size p54)).extk k63).extk k70).ext k82 (fun k hk => Nat.le_trans (z5 k31 k56 k59 k63 k70) hk)), (by omega), (by first | (intro j hj; omega) | (have hy := allN_t (f := sPaJ x_p k) (n := k) (k := j) (by assumption) (by omega); exact allN_next (by assumption) (by simp only [sPaG, hy, h20, h25, h37, h65, h68, h72, h76, h85]; simp)))⟩
    · show x_p.Cands.length - ((((k + 1) : Nat) : Int)).toNat < x_p.Cands.length - (((k : Nat) : Int)).toNat; omega
   have q86 := of_decide_eq_true h85
   refine ct h85 ?_
   refine wc_skip <| wq_then <| wc_seq <| wc_block <| wc_seq ?_
   obtain ⟨y103, l104, r105, e106, u107⟩ := RLv.el z_PCand (i := j) r3 (by first | omega | (simp only [List.length_cons, List.length_nil, List.length_replicate, List.length_append, List.length_take, List.length_set, List.length_map]; omega))
   obtain ⟨a108, c109, l113, rfl, r110, s111, u114⟩ := SubR.c u107
   obtain rfl := SubR.n u114
   refine wc_drawT ([(56, [], [], (fun _ v _ => v = (vp g6 2))), (57, [], [0], (fun _ v _ => v = (vs a1 x_p.Cands.length c2))), (58, [], [], (fun _ v _ => v = (vi ((j : Nat) : Int)))), (59, [], [0, 1, 2], (fun _ v _ => v = (ve (vs a1 x_p.Cands.length c2) ((((j : Nat) : Int)).toNat * 4)))), (60, [], [0, 1, 2, 3], (fun _ v _ => v = (ve (vs a1 x_p.Cands.length c2) ((((j : Nat) : Int)).toNat * 4 + 0)))), (61, [], [0, 1, 2, 3, 4], (fun _ v _ => v = (va (L_26 ((x_p.Cands.getD j z_PCand).A))))), (62, [], [], (fun _ v _ => v = (vp g53 0))), (63, [], [6], (fun _ v _ => v = (va (L_26 ((x_p.Cands.getD k z_PCand).A)))))] : GV) (fun _ w' => Keep w8 w') [] mixed rfl (by kernel_rfl) (by kernel_rfl) ?_ (fun _ _ h => h) (fun _ _ _ _ h _ k => h.trans k) trivial ?_ ?_ ?_
   ·exact ⟨hV, hE, ⟨hV, hE, ⟨hV, hE, ⟨hV, hE, ⟨hV, hE, ⟨hV, hE, ⟨hV, hE, ⟨hV, hE, trivial⟩⟩⟩⟩⟩⟩⟩⟩
   ·exact trivial
   ·refine ⟨?_, ⟨?_, ⟨?_, ⟨?_, ⟨?_, ⟨?_, ⟨?_, ⟨?_, trivial⟩⟩⟩⟩⟩⟩⟩⟩
    ·intro _ w9 k119 _
     rintro _ _ _ _ _ _ _ _
     show WL _ _ _ _ _ _ _
     refine pu (vp g6 2) wN ?_
     exact f1
    ·intro _ w9 k121 _
     rintro _ rfl _ _ _ _ _ _ _
     show WL _ _ _ _ _ _ _
     have b123 := ((b75.ch k82 (Nat.not_le.2 (Nat.lt_of_lt_of_le p8 (z6 k18 k31 k56 k59 k63 k70)))).kp k121)
     refine ld (vs a1 x_p.Cands.length c2) wN isAgg_45 b123 ?_
     exact f1
    ·intro _ w9 k124 _
     rintro _ _ _ _ _ _ _ _
     show WL _ _ _ _ _ _ _
     refine mw (vi ((j : Nat) : Int)) ?_
     exact f1
    ·intro _ w9 k126 _
     have m127 := m81.extk k126
     rintro _ rfl _ rfl _ rfl _ _ _ _ _
     show WL _ _ _ _ _ _ _
     obtain ⟨y129, r130⟩ := RLv.row (r3.from0 m127)
     refine ix wN ((j : Nat) : Int) slTy_45 r130 ?_
     exact f1
    ·intro _ w9 k131 _
     have m132 := m81.extk k131
     rintro _ rfl _ rfl _ rfl _ rfl _ _ _ _
     show WL _ _ _ _ _ _ _
     refine wl_fieldE wN rfl rfl rfl fieldAt_42_0 rfl (r105.from0 m132) (by omega) ?_
     exact f1
    ·intro _ w9 k136 _
     have m137 := m81.extk k136
     rintro _ rfl _ rfl _ rfl _ rfl _ rfl _ _ _
     show WL _ _ _ _ _ _ _
     refine wl_loadEN (L_26 ((x_p.Cands.getD j z_PCand).A)) wN rfl rfl rfl rfl isAgg_26 sizeOf_26 (r105.from0 m137) (by first | omega | (simp only [List.length_cons, List.length_nil, List.length_replicate, List.length_append, List.length_take, List.length_set, List.length_map]; omega)) ((part_of (off := 0) (n := 2) e106 (by first | rfl | simp | omega) (by decide)).trans rfl) ?_
     exact f1
    ·intro _ w9 k141 _
     rintro _ _ _ _ _ _ _ _
     show WL _ _ _ _ _ _ _
     refine pu (vp g53 0) wN ?_
     exact f1
    ·intro _ w9 k143 _
     rintro _ _ _ _ _ _ _ rfl _
     show WL _ _ _ _ _ _ _
     have b145 := ((b74.ch k82 (Nat.not_le.2 (Nat.lt_of_lt_of_le p55 (z3 k59 k63 k70)))).kp k143)
     refine lN (L_26 ((x_p.Cands.getD k z_PCand).A)) wN isAgg_26 sizeOf_26 b145 ?_
     exact f1
   ·intro _ w9 k146
    have m147 := m81.extk k146
    rintro _ rfl _ rfl _ rfl _ rfl _ rfl _ rfl _ rfl _ rfl
    show WL _ _ _ _ _ _ _
    refine wl_aggeq ((decide ((((x_p.Cands.getD j z_PCand).A).Host) = (((x_p.Cands.getD k z_PCand).A).Host)) && decide ((((x_p.Cands.getD j z_PCand).A).Port) = (((x_p.Cands.getD k z_PCand).A).Port)))) wN rfl rfl rfl rfl rfl guardt_26 (aggeq_26 (((x_p.Cands.getD j z_PCand).A).Host) (((x_p.Cands.getD k z_PCand).A).Host) (((x_p.Cands.getD j z_PCand).A).Port) (((x_p.Cands.getD k z_PCand).A).Port) w9) ?_
    refine n2 ?_
    rcases bt (decide ((((x_p.Cands.getD j z_PCand).A).Host) = (((x_p.Cands.getD k z_PCand).A).Host)) && decide ((((x_p.Cands.getD j z_PCand).A).Port) = (((x_p.Cands.getD k z_PCand).A).Port))) with h152 | h152
    ·refine ct h152 ?_
     refine sr ?_
     refine aw (vb false) ?_
     refine wl_nil <| wq_then <| wc_ret <| wq_blk_ret <| wq_then_ret <| wq_then_ret <| wq_blk_ret <| wq_blk_ret <| wq_then_ret <| wq_then_ret <| wq_blk_ret <| wq_then_ret ?_
     refine rt (vb false) ?_
     refine ⟨m147.keep0, ?_⟩
     have hF154 : sPa x_p = false := by have hy := allN_f (f := sPaJ x_p k) (n := k) (k := j) (by omega) (by simp only [sPaJ, h20, h25, h37, h65, h68, h72, h76, h85, h152]; simp); have hz := allN_f (f := sPaG x_p) (n := x_p.Cands.length) (k := k) (by omega) (by simp only [sPaG, hy, h20, h25, h37, h65, h68, h72, h76, h85, h152]; simp); simp only [sPa, h20, h25, h37, h65, h68, h72, h76, h85, h152, hz]; simp
     rw [hF154]
     exact rfl
    refine cf h152 ?_
    refine wc_skip <| wq_blk_normal <| wq_then <| wc_region ?_
    refine mw (vi ((j : Nat) : Int)) ?_
    refine ar (((j : Nat) : Int) + 1) wN ?_
    refine aw (vi (((j : Nat) : Int) + 1)) ?_
    refine wl_nil ?_
    refine wq_loopP (w0 := w8) [(1, (vp g6 0)), (3, (vi ((k : Nat) : Int))), (4, (vp g53 0)), (5, (vi (((j + 1) : Nat) : Int))), (16, (vi ((k : Nat) : Int))), (17, (vp g6 2)), (18, (vs a1 x_p.Cands.length c2)), (19, (vi (x_p.Cands.length : Int))), (20, (vb (decide (((k : Nat) : Int) < (x_p.Cands.length : Int))))), (23, (vp g6 2)), (24, (vs a1 x_p.Cands.length c2)), (25, (vi ((k : Nat) : Int))), (26, (ve (vs a1 x_p.Cands.length c2) ((((k : Nat) : Int)).toNat * 4))), (27, (va [(vi (((x_p.Cands.getD k z_PCand).A).Host)), (vi (((x_p.Cands.getD k z_PCand).A).Port)), (vs a46 (x_p.Cands.getD k z_PCand).Draw.length c47), (vi ((x_p.Cands.getD k z_PCand).Until))])), (28, (vp g53 0)), (29, (va (L_26 ((x_p.Cands.getD k z_PCand).A)))), (30, (vb (F_spec_AddrOk ((x_p.Cands.getD k z_PCand).A)))), (31, (vb (!(F_spec_AddrOk ((x_p.Cands.getD k z_PCand).A))))), (32, (vb (!(F_spec_AddrOk ((x_p.Cands.getD k z_PCand).A))))), (33, (vp g53 2)), (34, (vs a46 (x_p.Cands.getD k z_PCand).Draw.length c47)), (35, (vi ((x_p.Cands.getD k z_PCand).Draw.length : Int))), (36, (vb (!(decide (((x_p.Cands.getD k z_PCand).Draw.length : Int) = 12))))), (37, (vb (!(decide (((x_p.Cands.getD k z_PCand).Draw.length : Int) = 12))))), (38, (vb (!(decide (((x_p.Cands.getD k z_PCand).Draw.length : Int) = 12))))), (39, (vp g53 3)), (40, (vi ((x_p.Cands.getD k z_PCand).Until))), (41, (vb (F_spec_l1In ((x_p.Cands.getD k z_PCand).Until) 0 1000006))), (42, (vb (!(F_spec_l1In ((x_p.Cands.getD k z_PCand).Until) 0 1000006)))), (43, (vb (!(F_spec_l1In ((x_p.Cands.getD k z_PCand).Until) 0 1000006)))), (44, (vb (!(F_spec_l1In ((x_p.Cands.getD k z_PCand).Until) 0 1000006)))), (45, (vp g53 0)), (46, (va (L_26 ((x_p.Cands.getD k z_PCand).A)))), (47, (vp g6 0)), (48, (va (L_26 x_p.At))), (49, (vb (decide ((((x_p.Cands.getD k z_PCand).A).Host) = x_p.At.Host) && decide ((((x_p.Cands.getD k z_PCand).A).Port) = x_p.At.Port)))), (50, (vb (decide ((((x_p.Cands.getD k z_PCand).A).Host) = x_p.At.Host) && decide ((((x_p.Cands.getD k z_PCand).A).Port) = x_p.At.Port))))] ?_ ?_ ?_
    · exact ⟨rfl, rfl, rfl, (congrArg (Value.int .i64) (show ((((j : Nat) : Int) + 1) : Int) = (((j + 1) : Nat) : Int) by omega)), rfl, rfl, rfl, rfl, rfl, rfl, rfl, rfl, rfl, rfl, rfl, rfl, rfl, rfl, rfl, rfl, rfl, rfl, rfl, rfl, rfl, rfl, rfl, rfl, rfl, rfl, rfl, rfl, rfl, rfl, rfl, rfl, rfl, trivial⟩
    · exact fun u => ⟨(j + 1), u, rfl, m147, (((Ch.refl (fun k => w7.heap.size ≤ k) w7).ext k82 (fun k hk => hk)).extk k146), (by omega), (by first | (intro m hm; omega) | exact allN_next (by assumption) (by simp only [sPaJ, h20, h25, h37, h65, h68, h72, h76, h85, h152]; simp))⟩
    · show k - ((((j + 1) : Nat) : Int)).toNat < k - (((j : Nat) : Int)).toNat; omega
theorem sPa_t {p : PPaths} (h : sPa p = true) : p.Cands.length ≤ 3 := by
  unfold sPa at h
  cases h1 : F_spec_AddrOk p.At with
  | false => simp only [h1, cond_false] at h; cases h
  | true =>
    cases h8 : decide (3 < (p.Cands.length : Int)) with
    | true => simp only [h1, h8, cond_true] at h; cases h
    | false => have := of_decide_eq_false h8; omega

def R_42 (w : World) (v : Value) (x : (PCand)) : Prop := ∃ (a1 : Option Addr) (c1 : Nat), v = .agg #[.int .i64 x.A.Host, .int .i64 x.A.Port, .slice a1 x.Draw.length c1, .int .i64 x.Until] ∧ Rd w 1 (.slice a1 x.Draw.length c1) x.Draw.length (x.Draw.map bV) ∧ x.Draw.length ≤ 1073741824
def F_spec_l16Cand (x_x : PCand) : (PCand) := x_x
theorem C_spec_l16Cand (w0 : World) (v_x_x : Value) (x_x : PCand) (r_x_x : R_42 w0 v_x_x x_x)  : Fn Try.prog 78 #[v_x_x] w0 (fun v w' => Keep w0 w' ∧ O_42 w' w0.heap.size v (F_spec_l16Cand x_x)) := by
 obtain ⟨a1, c2, rfl, r3, s4⟩ := r_x_x
 refine fn_ofS (n := 12) [(va (L_42 x_x a1 c2))] Try.func78 rfl rfl ?_
 refine sr ?_
 refine bx (L_42 x_x a1 c2) wN ?_
 intro g6 w1 p7 p8 k9 b10
 refine al Z_42 wN zero_42 ?_
 intro g12 w2 p13 p14 k15 b16
 have m17 := ((Ch.base w0).extk k9).extk k15
 refine wl_nil <| wq_then <| wc_seq ?_
 refine wc_drawT ([(3, [], [], (fun _ v _ => v = (vp g6 0))), (4, [], [0], (fun _ v _ => v = (va (L_26 x_x.A)))), (5, [], [], (fun _ v w => ∃ a0 : Addr, v = .slice (some a0) 0 0 ∧ w.ownsRow w2.heap.size 5 1 (.slice (some a0) 0 0) 0 [])), (6, [], [], (fun _ v _ => v = (vp g6 2))), (7, [], [3], (fun _ v _ => v = (vs a1 x_x.Draw.length c2))), (8, [], [2, 3, 4], (fun _ v w => ∃ (a1 : Option Addr) (c1 : Nat), v = .slice a1 x_x.Draw.length c1 ∧ w.ownsRow w2.heap.size 5 1 (.slice a1 x_x.Draw.length c1) x_x.Draw.length (x_x.Draw.map bV) ∧ x_x.Draw.length ≤ 1073741824 ∧ Aps [(a1, c1)])), (9, [], [], (fun _ v _ => v = (vp g6 3))), (10, [], [6], (fun _ v _ => v = (vi x_x.Until)))] : GV) (fun _ w' => Keep w2 w') [] mixed rfl (by kernel_rfl) (by kernel_rfl) ?_ (fun _ _ h => h) (fun _ _ _ _ h _ k => h.trans k) trivial ?_ ?_ ?_
 ·exact ⟨hV, hE, ⟨hV, hE, ⟨(fun e v w w1 h hk => by obtain ⟨a0x, he, o0x⟩ := h; exact ⟨a0x, he, own_kp o0x hk⟩), hE, ⟨hV, hE, ⟨hV, hE, ⟨(fun e v w w1 h hk => by obtain ⟨a0x, c0x, he, o0x, l0x, hap⟩ := h; exact ⟨a0x, c0x, he, own_kp o0x hk, l0x, hap⟩), hE, ⟨hV, hE, ⟨hV, hE, trivial⟩⟩⟩⟩⟩⟩⟩⟩
 ·exact trivial
 ·refine ⟨?_, ⟨?_, ⟨?_, ⟨?_, ⟨?_, ⟨?_, ⟨?_, ⟨?_, trivial⟩⟩⟩⟩⟩⟩⟩⟩
  ·intro _ w3 k51 _
   rintro _ _ _ _ _ _ _ _
   show WL _ _ _ _ _ _ _
   refine pu (vp g6 0) wN ?_
   exact f1
  ·intro _ w3 k53 _
   rintro _ rfl _ _ _ _ _ _ _
   show WL _ _ _ _ _ _ _
   have b55 := ((b10.kp k15).kp k53)
   refine lN (L_26 x_x.A) wN isAgg_26 sizeOf_26 b55 ?_
   exact f1
  ·intro _ w3 k56 _
   rintro _ _ _ _ _ _ _ _
   show WL _ _ _ _ _ _ _
   refine wl_lit0 wN rfl rfl slTy_22 (fun w => by kernel_rfl) ?_
   intro a58 w4 k59 o60
   exact wl_finT k59 ⟨_, rfl, own_lo o60 k56.size⟩
  ·intro _ w3 k63 _
   rintro _ _ _ _ _ _ _ _
   show WL _ _ _ _ _ _ _
   refine pu (vp g6 2) wN ?_
   exact f1
  ·intro _ w3 k65 _
   rintro _ _ _ _ rfl _ _ _ _
   show WL _ _ _ _ _ _ _
   have b67 := ((b10.kp k15).kp k65)
   refine ld (vs a1 x_x.Draw.length c2) wN isAgg_22 b67 ?_
   exact f1
  ·intro _ w3 k68 _
   have m69 := m17.extk k68
   rintro _ _ _ ⟨a70, rfl, o72⟩ _ rfl _ rfl _ _ _
   show WL _ _ _ _ _ _ _
   refine ap0 x_x.Draw wN slTy_22 o72 (r3.from0 m69) k68.size ?_
   intro a76 c77 w4 k78 o79 n80
   exact wl_finT k78 ⟨_, _, rfl, o79, s4, ⟨trivial, trivial⟩⟩
  ·intro _ w3 k83 _
   rintro _ _ _ _ _ _ _ _
   show WL _ _ _ _ _ _ _
   refine pu (vp g6 3) wN ?_
   exact f1
  ·intro _ w3 k85 _
   rintro _ _ _ _ _ _ _ rfl _
   show WL _ _ _ _ _ _ _
   have b87 := ((b10.kp k15).kp k85)
   refine ld (vi x_x.Until) wN isAgg_3 b87 ?_
   exact f1
 ·intro _ w3 k88
  rintro _ rfl _ rfl _ ⟨a91, rfl, o93⟩ _ rfl _ rfl _ ⟨a97, c98, rfl, o99, s100, -⟩ _ rfl _ rfl
  show WL _ _ _ _ _ _ _
  refine pu (va (L_42 x_x a97 c98)) wN ?_
  have b103 := (b16.kp k88)
  refine sv (L_42 x_x a97 c98) wN sizeOf_42 b103 ?_
  intro w4 k104 b105 z106
  have m107 := (m17.extk k88).ext k104 (fun k hk => by subst hk; exact Nat.le_trans k9.size p13)
  refine n3 ?_
  have o108 := (own_ch o99 k104 (ne1 o99 (p14)))
  refine ret_1 (.inl rfl) (va (L_42 x_x a97 c98)) rfl (rv_c (L_42 x_x a97 c98) rfl b105 isAgg_42 sizeOf_42) ?_
  refine ⟨m107.keep0, ?_⟩
  have hF109 : F_spec_l16Cand x_x = x_x := by rfl
  rw [hF109]
  exact ⟨_, _, rfl, (own_lo o108 (z2 k9 k15)), s100, ⟨trivial, trivial⟩⟩

def O_42_4 (w : World) (lo : Nat) (v : Value) (x : (PCand) × (Bool)) : Prop := ∃ (a1 : Option Addr) (c1 : Nat), v = .tuple #[.agg #[.int .i64 x.1.A.Host, .int .i64 x.1.A.Port, .slice a1 x.1.Draw.length c1, .int .i64 x.1.Until], .bool x.2] ∧ w.ownsRow lo 5 1 (.slice a1 x.1.Draw.length c1) x.1.Draw.length (x.1.Draw.map bV) ∧ x.1.Draw.length ≤ 1073741824 ∧ Aps [(a1, c1)]
theorem mR_47 {w : World} {x : PPaths} {a1 : Option Addr} {c1 : Nat} (h1 : RLv LT_42 w 1073741824 a1 x.Cands.length c1 x.Cands) (l1 : x.Cands.length ≤ 1073741824) : R_47 w (va (L_47 x a1 c1)) x := ⟨_, _, rfl, h1, l1⟩
theorem mR_42 {w : World} {x : PCand} {a1 : Option Addr} {c1 : Nat} (h1 : Rd w 1 (.slice a1 x.Draw.length c1) x.Draw.length (x.Draw.map bV)) (l1 : x.Draw.length ≤ 1073741824) : R_42 w (va (L_42 x a1 c1)) x := ⟨_, _, rfl, h1, l1⟩
def candS (x_p : PPaths) (x_a : PAddr) : PCand × Bool := bif sPa x_p then (bif decide (candAt x_p x_a < 0) then (z_PCand, false) else (x_p.Cands.getD (candAt x_p x_a).toNat z_PCand, true)) else (z_PCand, false)
theorem C_spec_CandOf (w0 : World) (v_x_p : Value) (x_p : PPaths) (r_x_p : R_47 w0 v_x_p x_p) (v_x_a : Value) (x_a : PAddr) (r_x_a : R_26 w0 v_x_a x_a)  : Fn Try.prog 19 #[v_x_p, v_x_a] w0 (fun v w' => Keep w0 w' ∧ O_42_4 w' w0.heap.size v (candS x_p x_a)) := by
 obtain ⟨a1, c2, rfl, r3, s4⟩ := r_x_p
 obtain rfl := r_x_a
 refine fn_ofS (n := 33) [(va (L_47 x_p a1 c2)), (va (L_26 x_a))] Try.func19 rfl rfl ?_
 refine sr ?_
 refine bx (L_47 x_p a1 c2) wN ?_
 intro g6 w1 p7 p8 k9 b10
 refine bx (L_26 x_a) wN ?_
 intro g12 w2 p13 p14 k15 b16
 refine al Z_42 wN zero_42 ?_
 intro g18 w3 p19 p20 k21 b22
 have m23 := (((Ch.base w0).extk k9).extk k15).extk k21
 refine aw (vb false) ?_
 refine n4 ?_
 have b24 := ((b10.kp k15).kp k21)
 refine lN (L_47 x_p a1 c2) wN isAgg_47 sizeOf_47 b24 ?_
 refine cl wN (C_spec_PathsOk w3 _ x_p (mR_47 (r3.from0 m23) s4)) ?_
 rintro _ w4 ⟨k25, rfl⟩
 have m26 := m23.extk k25
 refine pu (vb (!(sPa x_p))) wN ?_
 refine n2 ?_
 rcases bf (sPa x_p) with h27 | h27
 ·refine ct (congrArg not h27) ?_
  refine sr ?_
  refine pu (va Z_42) wN ?_
  have b129 := (b22.kp k25)
  refine sv Z_42 wN sizeOf_42 b129 ?_
  intro w5 k130 b131 z132
  have m133 := m26.ext k130 (fun k hk => by subst hk; exact Nat.le_trans (z2 k9 k15) p19)
  refine aw (vb false) ?_
  refine n1 ?_
  refine ret_2 (.inl rfl) (va Z_42) (vb false) rfl (rv_c Z_42 rfl b131 isAgg_42 sizeOf_42) rfl ?_
  refine ⟨m133.keep0, ?_⟩
  have hF134 : candS x_p x_a = ({ A := { Host := 0, Port := 0 : PAddr }, Draw := [], Until := 0 : PCand }, false) := by simp only [candS, h27]; rfl
  rw [hF134]
  exact ⟨_, _, rfl, (by first | exact own_nil _ _ _ _ | exact OLv.nil _ _ _ _), (by simp), ⟨trivial, trivial⟩⟩
 have q28 := sPa_t h27
 refine cf (congrArg not h27) ?_
 refine y2 ?_
 refine aw (vi 0) ?_
 refine wl_nil <| wq_then <| wc_block ?_
 refine wc_loopP [(2, (vp g6 0)), (3, (vp g12 0)), (4, (vp g18 0)), (6, (vi ((0 : Nat) : Int)))] ⟨rfl, rfl, rfl, (congrArg (Value.int .i64) (show (0 : Int) = ((0 : Nat) : Int) by omega)), trivial⟩ (fun e' w' => ∃ (k : Nat) (u29 : Env), e' = pt u29 [(2, (vp g6 0)), (3, (vp g12 0)), (4, (vp g18 0)), (6, (vi ((k : Nat) : Int)))] ∧ Ch (fun k => w0.heap.size ≤ k) w0 w' ∧ Ch (fun k => w4.heap.size ≤ k) w4 w' ∧ k ≤ x_p.Cands.length ∧ (∀ j, j < k → (fun c : PCand => decide (c.A.Host = x_a.Host) && decide (c.A.Port = x_a.Port)) (x_p.Cands.getD j z_PCand) = false)) (fun e' _ => x_p.Cands.length - ((intOf (e' 6))).toNat) ?_ ?_
 ·exact fun u => ⟨0, u, rfl, m26, (Ch.refl (fun k => w4.heap.size ≤ k) w4), (by omega), (by first | (intro j hj; omega) | exact find_next (p := (fun c : PCand => decide (c.A.Host = x_a.Host) && decide (c.A.Port = x_a.Port))) (by assumption) (by assumption))⟩
 ·rintro _ w5 ⟨k, u29, rfl, m30, k31, i32, i33⟩
  refine wc_seq <| sr ?_
  refine mw (vi ((k : Nat) : Int)) ?_
  refine pu (vp g6 2) wN ?_
  have b34 := ((b24.kp k25).ch k31 (Nat.not_le.2 (Nat.lt_of_lt_of_le p8 (z3 k15 k21 k25))))
  refine ld (vs a1 x_p.Cands.length c2) wN isAgg_45 b34 ?_
  obtain ⟨y35, r36⟩ := RLv.row (r3.from0 m30)
  refine ln wN slTy_45 r36 ?_
  refine pu (vb (decide (((k : Nat) : Int) < (x_p.Cands.length : Int)))) wN ?_
  refine n2 ?_
  rcases bf (decide (((k : Nat) : Int) < (x_p.Cands.length : Int))) with h37 | h37
  ·have q121 := of_decide_eq_false h37
   refine cf h37 ?_
   refine wc_exit <| wq_then_exit <| wq_then_exit <| wq_blk_exit <| wq_then <| sr ?_
   refine pu (va Z_42) wN ?_
   have b122 := ((b22.kp k25).ch k31 (Nat.not_le.2 (Nat.lt_of_lt_of_le p20 k25.size)))
   refine sv Z_42 wN sizeOf_42 b122 ?_
   intro w6 k123 b124 z125
   have m126 := m30.ext k123 (fun k hk => by subst hk; exact Nat.le_trans (z2 k9 k15) p19)
   refine aw (vb false) ?_
   refine n3 ?_
   refine ret_2 (.inl rfl) (va Z_42) (vb false) rfl (rv_c Z_42 rfl b124 isAgg_42 sizeOf_42) rfl ?_
   refine ⟨m126.keep0, ?_⟩
   have hF127 : candS x_p x_a = ({ A := { Host := 0, Port := 0 : PAddr }, Draw := [], Until := 0 : PCand }, false) := by have hz : candAt x_p x_a = -1 := findF_none (p := (fun c : PCand => decide (c.A.Host = x_a.Host) && decide (c.A.Port = x_a.Port))) (z := z_PCand) (by assumption) (by omega); simp only [candS, h27, h37, hz]; rfl
   rw [hF127]
   exact ⟨_, _, rfl, (by first | exact own_nil _ _ _ _ | exact OLv.nil _ _ _ _), (by simp), ⟨trivial, trivial⟩⟩
  have q38 := of_decide_eq_true h37
  refine ct h37 ?_
  refine wc_skip <| wq_then <| wc_seq <| wc_block <| wc_seq ?_
  obtain ⟨y54, l55, r56, e57, u58⟩ := RLv.el z_PCand (i := k) r3 (by first | omega | (simp only [List.length_cons, List.length_nil, List.length_replicate, List.length_append, List.length_take, List.length_set, List.length_map]; omega))
  obtain ⟨a59, c60, l64, rfl, r61, s62, u65⟩ := SubR.c u58
  obtain rfl := SubR.n u65
  refine wc_drawT ([(18, [], [], (fun _ v _ => v = (vp g6 2))), (19, [], [0], (fun _ v _ => v = (vs a1 x_p.Cands.length c2))), (20, [], [], (fun _ v _ => v = (vi ((k : Nat) : Int)))), (21, [], [0, 1, 2], (fun _ v _ => v = (ve (vs a1 x_p.Cands.length c2) ((((k : Nat) : Int)).toNat * 4)))), (22, [], [0, 1, 2, 3], (fun _ v _ => v = (ve (vs a1 x_p.Cands.length c2) ((((k : Nat) : Int)).toNat * 4 + 0)))), (23, [], [0, 1, 2, 3, 4], (fun _ v _ => v = (va (L_26 ((x_p.Cands.getD k z_PCand).A))))), (24, [], [], (fun _ v _ => v = (va (L_26 x_a))))] : GV) (fun _ w' => Keep w5 w') [] mixed rfl (by kernel_rfl) (by kernel_rfl) ?_ (fun _ _ h => h) (fun _ _ _ _ h _ k => h.trans k) trivial ?_ ?_ ?_
  ·exact ⟨hV, hE, ⟨hV, hE, ⟨hV, hE, ⟨hV, hE, ⟨hV, hE, ⟨hV, hE, ⟨hV, hE, trivial⟩⟩⟩⟩⟩⟩⟩
  ·exact trivial
  ·refine ⟨?_, ⟨?_, ⟨?_, ⟨?_, ⟨?_, ⟨?_, ⟨?_, trivial⟩⟩⟩⟩⟩⟩⟩
   ·intro _ w6 k69 _
    rintro _ _ _ _ _ _ _
    show WL _ _ _ _ _ _ _
    refine pu (vp g6 2) wN ?_
    exact f1
   ·intro _ w6 k71 _
    rintro _ rfl _ _ _ _ _ _
    show WL _ _ _ _ _ _ _
    have b73 := (b34.kp k71)
    refine ld (vs a1 x_p.Cands.length c2) wN isAgg_45 b73 ?_
    exact f1
   ·intro _ w6 k74 _
    rintro _ _ _ _ _ _ _
    show WL _ _ _ _ _ _ _
    refine mw (vi ((k : Nat) : Int)) ?_
    exact f1
   ·intro _ w6 k76 _
    have m77 := m30.extk k76
    rintro _ rfl _ rfl _ rfl _ _ _ _
    show WL _ _ _ _ _ _ _
    obtain ⟨y79, r80⟩ := RLv.row (r3.from0 m77)
    refine ix wN ((k : Nat) : Int) slTy_45 r80 ?_
    exact f1
   ·intro _ w6 k81 _
    have m82 := m30.extk k81
    rintro _ rfl _ rfl _ rfl _ rfl _ _ _
    show WL _ _ _ _ _ _ _
    refine wl_fieldE wN rfl rfl rfl fieldAt_42_0 rfl (r56.from0 m82) (by omega) ?_
    exact f1
   ·intro _ w6 k86 _
    have m87 := m30.extk k86
    rintro _ rfl _ rfl _ rfl _ rfl _ rfl _ _
    show WL _ _ _ _ _ _ _
    refine wl_loadEN (L_26 ((x_p.Cands.getD k z_PCand).A)) wN rfl rfl rfl rfl isAgg_26 sizeOf_26 (r56.from0 m87) (by first | omega | (simp only [List.length_cons, List.length_nil, List.length_replicate, List.length_append, List.length_take, List.length_set, List.length_map]; omega)) ((part_of (off := 0) (n := 2) e57 (by first | rfl | simp | omega) (by decide)).trans rfl) ?_
    exact f1
   ·intro _ w6 k91 _
    rintro _ _ _ _ _ _ _
    show WL _ _ _ _ _ _ _
    have b93 := ((((b16.kp k21).kp k25).ch k31 (Nat.not_le.2 (Nat.lt_of_lt_of_le p14 (z2 k21 k25)))).kp k91)
    refine lN (L_26 x_a) wN isAgg_26 sizeOf_26 b93 ?_
    exact f1
  ·intro _ w6 k94
   have m95 := m30.extk k94
   rintro _ rfl _ rfl _ rfl _ rfl _ rfl _ rfl _ rfl
   show WL _ _ _ _ _ _ _
   refine wl_aggeq ((decide ((((x_p.Cands.getD k z_PCand).A).Host) = x_a.Host) && decide ((((x_p.Cands.getD k z_PCand).A).Port) = x_a.Port))) wN rfl rfl rfl rfl rfl guardt_26 (aggeq_26 (((x_p.Cands.getD k z_PCand).A).Host) x_a.Host (((x_p.Cands.getD k z_PCand).A).Port) x_a.Port w6) ?_
   refine n2 ?_
   rcases bf (decide ((((x_p.Cands.getD k z_PCand).A).Host) = x_a.Host) && decide ((((x_p.Cands.getD k z_PCand).A).Port) = x_a.Port)) with h100 | h100
   ·refine cf h100 ?_
    refine wc_skip <| wq_blk_normal <| wq_then <| wc_region ?_
    refine mw (vi ((k : Nat) : Int)) ?_
    refine ar (((k : Nat) : Int) + 1) wN ?_
    refine aw (vi (((k : Nat) : Int) + 1)) ?_
    refine wl_nil ?_
    refine wq_loopP (w0 := w5) [(2, (vp g6 0)), (3, (vp g12 0)), (4, (vp g18 0)), (6, (vi (((k + 1) : Nat) : Int)))] ?_ ?_ ?_
    · exact ⟨rfl, rfl, rfl, (congrArg (Value.int .i64) (show ((((k : Nat) : Int) + 1) : Int) = (((k + 1) : Nat) : Int) by omega)), trivial⟩
    · exact fun u => ⟨(k + 1), u, rfl, m95, (((Ch.refl (fun k => w4.heap.size ≤ k) w4).ext k31 (fun k hk => hk)).extk k94), (by omega), (by first | (intro j hj; omega) | exact find_next (p := (fun c : PCand => decide (c.A.Host = x_a.Host) && decide (c.A.Port = x_a.Port))) (by assumption) (by assumption))⟩
    · show x_p.Cands.length - ((((k + 1) : Nat) : Int)).toNat < x_p.Cands.length - (((k : Nat) : Int)).toNat; omega
   refine ct h100 ?_
   refine sr ?_
   refine pu (vp g6 2) wN ?_
   have b102 := (b34.kp k94)
   refine ld (vs a1 x_p.Cands.length c2) wN isAgg_45 b102 ?_
   refine mw (vi ((k : Nat) : Int)) ?_
   obtain ⟨y103, r104⟩ := RLv.row (r3.from0 m95)
   refine ix wN ((k : Nat) : Int) slTy_45 r104 ?_
   refine wl_loadEN [(vi (((x_p.Cands.getD k z_PCand).A).Host)), (vi (((x_p.Cands.getD k z_PCand).A).Port)), (vs a59 (x_p.Cands.getD k z_PCand).Draw.length c60), (vi ((x_p.Cands.getD k z_PCand).Until))] wN rfl rfl rfl rfl isAgg_42 sizeOf_42 (r56.from0 m95) (by first | omega | (simp only [List.length_cons, List.length_nil, List.length_replicate, List.length_append, List.length_take, List.length_set, List.length_map]; omega)) ((part_of (off := 0) (n := 4) e57 (by first | rfl | simp | omega) (by decide)).trans rfl) ?_
   refine cl wN (C_spec_l16Cand w6 _ (x_p.Cands.getD k z_PCand) (mR_42 (r61.from0 m95) s62)) ?_
   rintro _ w7 ⟨k105, ⟨a106, c107, rfl, o108, s109, ap111⟩⟩
   have b113 := ((((b22.kp k25).ch k31 (Nat.not_le.2 (Nat.lt_of_lt_of_le p20 k25.size))).kp k94).kp k105)
   refine st (va (L_42 (F_spec_l16Cand (x_p.Cands.getD k z_PCand)) a106 c107)) (L_42 (F_spec_l16Cand (x_p.Cands.getD k z_PCand)) a106 c107) (L_42 (F_spec_l16Cand (x_p.Cands.getD k z_PCand)) a106 c107) wN sizeOf_42 b113 ?_
   intro w8 k114 b115 z116
   have m117 := (m95.extk k105).ext k114 (fun k hk => by subst hk; exact Nat.le_trans (z2 k9 k15) p19)
   refine aw (vb true) ?_
   refine wl_nil <| wq_then <| wc_ret <| wq_blk_ret <| wq_then_ret <| wq_then_ret <| wq_blk_ret <| wq_then_ret ?_
   have o118 := (own_ch o108 k114 (ne1 o108 (Nat.lt_of_lt_of_le p20 (z3 k25 k31 k94))))
   refine ret_2 (.inl rfl) (va (L_42 (F_spec_l16Cand (x_p.Cands.getD k z_PCand)) a106 c107)) (vb true) rfl (rv_c (L_42 (F_spec_l16Cand (x_p.Cands.getD k z_PCand)) a106 c107) rfl b115 isAgg_42 sizeOf_42) rfl ?_
   refine ⟨m117.keep0, ?_⟩
   have hF119 : candS x_p x_a = ((F_spec_l16Cand (x_p.Cands.getD k z_PCand)), true) := by have hz : candAt x_p x_a = (k : Int) := findF_some (p := (fun c : PCand => decide (c.A.Host = x_a.Host) && decide (c.A.Port = x_a.Port))) (z := z_PCand) (by assumption) (by omega) (by assumption); simp only [candS, h27, h37, h100, hz]; rfl
   rw [hF119]
   exact ⟨_, _, rfl, (own_lo o118 (z6 k9 k15 k21 k25 k31 k94)), s109, ⟨trivial, trivial⟩⟩

theorem C_impl_candAt (w0 : World) (v_x_p : Value) (x_p : PPaths) (r_x_p : R_47 w0 v_x_p x_p) (v_x_a : Value) (x_a : PAddr) (r_x_a : R_26 w0 v_x_a x_a)  : Fn Try.prog 80 #[v_x_p, v_x_a] w0 (fun v w' => Keep w0 w' ∧ O_3 w' w0.heap.size v (candAt x_p x_a)) := by
 obtain ⟨a1, c2, rfl, r3, s4⟩ := r_x_p
 obtain rfl := r_x_a
 refine fn_ofS (n := 21) [(va (L_47 x_p a1 c2)), (va (L_26 x_a))] Try.func80 rfl rfl ?_
 refine sr ?_
 refine bx (L_47 x_p a1 c2) wN ?_
 intro g6 w1 p7 p8 k9 b10
 refine bx (L_26 x_a) wN ?_
 intro g12 w2 p13 p14 k15 b16
 have m17 := ((Ch.base w0).extk k9).extk k15
 refine aw (vi 0) ?_
 refine n4 ?_
 refine pu (vp g6 2) wN ?_
 have b18 := (b10.kp k15)
 refine ld (vs a1 x_p.Cands.length c2) wN isAgg_45 b18 ?_
 obtain ⟨y19, r20⟩ := RLv.row (r3.from0 m17)
 refine ln wN slTy_45 r20 ?_
 refine mw (vi 0) ?_
 refine wl_nil <| wq_then <| wc_block ?_
 refine wc_loopP [(3, (vp g12 0)), (8, (vs a1 x_p.Cands.length c2)), (9, (vi (x_p.Cands.length : Int))), (10, (vi ((0 : Nat) : Int)))] ⟨rfl, rfl, rfl, (congrArg (Value.int .i64) (show (0 : Int) = ((0 : Nat) : Int) by omega)), trivial⟩ (fun e' w' => ∃ (k : Nat) (u21 : Env), e' = pt u21 [(3, (vp g12 0)), (8, (vs a1 x_p.Cands.length c2)), (9, (vi (x_p.Cands.length : Int))), (10, (vi ((k : Nat) : Int)))] ∧ Ch (fun k => w0.heap.size ≤ k) w0 w' ∧ Ch (fun k => w2.heap.size ≤ k) w2 w' ∧ k ≤ x_p.Cands.length ∧ (∀ j, j < k → (fun c : PCand => decide (c.A.Host = x_a.Host) && decide (c.A.Port = x_a.Port)) (x_p.Cands.getD j z_PCand) = false)) (fun e' _ => x_p.Cands.length - ((intOf (e' 10))).toNat) ?_ ?_
 ·exact fun u => ⟨0, u, rfl, m17, (Ch.refl (fun k => w2.heap.size ≤ k) w2), (by omega), (by first | (intro j hj; omega) | exact find_next (p := (fun c : PCand => decide (c.A.Host = x_a.Host) && decide (c.A.Port = x_a.Port))) (by assumption) (by assumption))⟩
 ·rintro _ w3 ⟨k, u21, rfl, m22, k23, i24, i25⟩
  refine sr ?_
  refine pu (vb (decide (((k : Nat) : Int) < (x_p.Cands.length : Int)))) wN ?_
  refine wl_nil <| wq_then <| wc_seq ?_
  rcases bf (decide (((k : Nat) : Int) < (x_p.Cands.length : Int))) with h26 | h26
  ·have q57 := of_decide_eq_false h26
   refine cf h26 ?_
   refine wc_exit <| wq_then_exit <| wq_then_exit <| wq_blk_exit <| wq_then <| sr ?_
   refine aw (vi (-1)) ?_
   refine n3 ?_
   refine rt (vi (-1)) ?_
   refine ⟨m22.keep0, ?_⟩
   have hF58 : candAt x_p x_a = (-1) := by exact findF_none (p := (fun c : PCand => decide (c.A.Host = x_a.Host) && decide (c.A.Port = x_a.Port))) (z := z_PCand) (by assumption) (by omega)
   rw [hF58]
   exact rfl
  have q27 := of_decide_eq_true h26
  refine ct h26 ?_
  refine wc_skip <| wq_then <| wc_seq <| wc_block <| sr ?_
  refine mw (vi ((k : Nat) : Int)) ?_
  obtain ⟨y28, r29⟩ := RLv.row (r3.from0 m22)
  refine ix wN ((k : Nat) : Int) slTy_45 r29 ?_
  obtain ⟨y30, l31, r32, e33, u34⟩ := RLv.el z_PCand (i := k) r3 (by first | omega | (simp only [List.length_cons, List.length_nil, List.length_replicate, List.length_append, List.length_take, List.length_set, List.length_map]; omega))
  obtain ⟨a35, c36, l40, rfl, r37, s38, u41⟩ := SubR.c u34
  obtain rfl := SubR.n u41
  refine wl_loadEN [(vi (((x_p.Cands.getD k z_PCand).A).Host)), (vi (((x_p.Cands.getD k z_PCand).A).Port)), (vs a35 (x_p.Cands.getD k z_PCand).Draw.length c36), (vi ((x_p.Cands.getD k z_PCand).Until))] wN rfl rfl rfl rfl isAgg_42 sizeOf_42 (r32.from0 m22) (by first | omega | (simp only [List.length_cons, List.length_nil, List.length_replicate, List.length_append, List.length_take, List.length_set, List.length_map]; omega)) ((part_of (off := 0) (n := 4) e33 (by first | rfl | simp | omega) (by decide)).trans rfl) ?_
  refine al Z_42 wN zero_42 ?_
  intro g42 w4 p43 p44 k45 b46
  refine aw (vi ((k : Nat) : Int)) ?_
  refine sv [(vi (((x_p.Cands.getD k z_PCand).A).Host)), (vi (((x_p.Cands.getD k z_PCand).A).Port)), (vs a35 (x_p.Cands.getD k z_PCand).Draw.length c36), (vi ((x_p.Cands.getD k z_PCand).Until))] wN sizeOf_42 b46 ?_
  intro w5 k48 b49 z50
  have m51 := (m22.extk k45).ext k48 (fun k hk => by subst hk; exact Nat.le_trans (z3 k9 k15 k23) p43)
  refine nx ?_
  refine pu (vp g42 0) wN ?_
  refine lN (L_26 ((x_p.Cands.getD k z_PCand).A)) wN isAgg_26 sizeOf_26 b49 ?_
  have b52 := (((b16.ch k23 (Nat.not_le.2 (p14))).kp k45).ch k48 (Nat.ne_of_lt (Nat.lt_of_lt_of_le p14 (Nat.le_trans k23.size p43))))
  refine lN (L_26 x_a) wN isAgg_26 sizeOf_26 b52 ?_
  refine wl_aggeq ((decide ((((x_p.Cands.getD k z_PCand).A).Host) = x_a.Host) && decide ((((x_p.Cands.getD k z_PCand).A).Port) = x_a.Port))) wN rfl rfl rfl rfl rfl guardt_26 (aggeq_26 (((x_p.Cands.getD k z_PCand).A).Host) x_a.Host (((x_p.Cands.getD k z_PCand).A).Port) x_a.Port w5) ?_
  refine n2 ?_
  rcases bt (decide ((((x_p.Cands.getD k z_PCand).A).Host) = x_a.Host) && decide ((((x_p.Cands.getD k z_PCand).A).Port) = x_a.Port)) with h53 | h53
  ·refine ct h53 ?_
   refine sr ?_
   refine mw (vi ((k : Nat) : Int)) ?_
   refine aw (vi ((k : Nat) : Int)) ?_
   refine wl_nil <| wq_then <| wc_ret <| wq_blk_ret <| wq_then_ret <| wq_then_ret <| wq_blk_ret <| wq_then_ret ?_
   refine rt (vi ((k : Nat) : Int)) ?_
   refine ⟨m51.keep0, ?_⟩
   have hF55 : candAt x_p x_a = ((k : Nat) : Int) := by exact findF_some (p := (fun c : PCand => decide (c.A.Host = x_a.Host) && decide (c.A.Port = x_a.Port))) (z := z_PCand) (by assumption) (by omega) (by assumption)
   rw [hF55]
   exact rfl
  refine cf h53 ?_
  refine wc_skip <| wq_blk_normal <| wq_then <| wc_region ?_
  refine ar (((k : Nat) : Int) + 1) wN ?_
  refine mw (vi (((k : Nat) : Int) + 1)) ?_
  refine wl_nil ?_
  refine wq_loopP (w0 := w3) [(3, (vp g12 0)), (8, (vs a1 x_p.Cands.length c2)), (9, (vi (x_p.Cands.length : Int))), (10, (vi (((k + 1) : Nat) : Int)))] ?_ ?_ ?_
  · exact ⟨rfl, rfl, rfl, (congrArg (Value.int .i64) (show ((((k : Nat) : Int) + 1) : Int) = (((k + 1) : Nat) : Int) by omega)), trivial⟩
  · exact fun u => ⟨(k + 1), u, rfl, m51, ((((Ch.refl (fun k => w2.heap.size ≤ k) w2).ext k23 (fun k hk => hk)).extk k45).ext k48 (fun k hk => by subst hk; exact Nat.le_trans k23.size p43)), (by omega), (by first | (intro j hj; omega) | exact find_next (p := (fun c : PCand => decide (c.A.Host = x_a.Host) && decide (c.A.Port = x_a.Port))) (by assumption) (by assumption))⟩
  · show x_p.Cands.length - ((((k + 1) : Nat) : Int)).toNat < x_p.Cands.length - (((k : Nat) : Int)).toNat; omega

def F_impl_within (x_n : Int) (x_low : Int) (x_high : Int) : (Bool) := bif (decide (x_low ≤ x_n)) then (decide (x_n ≤ x_high)) else (false)
theorem C_impl_within (w0 : World) (x_n : Int) (x_low : Int) (x_high : Int)  : Fn Try.prog 71 #[(vi x_n), (vi x_low), (vi x_high)] w0 (fun v w' => Keep w0 w' ∧ O_4 w' w0.heap.size v (F_impl_within x_n x_low x_high)) := by
 refine fn_ofS (n := 15) [(vi x_n), (vi x_low), (vi x_high)] Try.func71 rfl rfl ?_
 refine sr ?_
 refine aw (vb false) ?_
 refine nx ?_
 refine mw (vi x_n) ?_
 refine mw (vi x_low) ?_
 refine pu (vb (decide (x_low ≤ x_n))) wN ?_
 refine mw (vb (decide (x_low ≤ x_n))) ?_
 rcases bf (decide (x_low ≤ x_n)) with h1 | h1
 ·have q4 := of_decide_eq_false h1
  iterate 3 refine sk h1 ?_
  refine pf (vb false) wN h1 ?_
  refine aw (vb false) ?_
  refine n3 ?_
  refine rt (vb false) ?_
  refine ⟨Ch.refl _ _, ?_⟩
  simp only [F_impl_within, h1, cond_true, cond_false]
  exact rfl
 have q2 := of_decide_eq_true h1
 refine mv (vi x_n) (wS h1) ?_
 refine mv (vi x_high) (wS h1) ?_
 refine pu (vb (decide (x_n ≤ x_high))) (wS h1) ?_
 refine pk (vb (decide (x_n ≤ x_high))) wN h1 ?_
 refine aw (vb (decide (x_n ≤ x_high))) ?_
 refine n3 ?_
 refine rt (vb (decide (x_n ≤ x_high))) ?_
 refine ⟨Ch.refl _ _, ?_⟩
 simp only [F_impl_within, h1, cond_true, cond_false]
 exact rfl
theorem impl_within_t {n a b : Int} (h : F_impl_within n a b = true) : a ≤ n ∧ n ≤ b := by
  unfold F_impl_within at h
  by_cases h1 : a ≤ n <;> simp [h1] at h
  exact ⟨h1, h⟩
theorem impl_within_f {n a b : Int} (h : F_impl_within n a b = false) : n < a ∨ b < n := by
  unfold F_impl_within at h
  by_cases h1 : a ≤ n <;> simp [h1] at h <;> omega

def F_impl_AddrOk (x_a : PAddr) : (Bool) := bif (F_impl_within x_a.Host 0 4294967295) then ((F_impl_within x_a.Port 0 65535)) else (false)
theorem C_impl_AddrOk (w0 : World) (v_x_a : Value) (x_a : PAddr) (r_x_a : R_26 w0 v_x_a x_a)  : Fn Try.prog 70 #[v_x_a] w0 (fun v w' => Keep w0 w' ∧ O_4 w' w0.heap.size v (F_impl_AddrOk x_a)) := by
 obtain rfl := r_x_a
 refine fn_ofS (n := 11) [(va (L_26 x_a))] Try.func70 rfl rfl ?_
 refine sr ?_
 refine bx (L_26 x_a) wN ?_
 intro g1 w1 p2 p3 k4 b5
 refine aw (vb false) ?_
 refine nx ?_
 refine pu (vp g1 0) wN ?_
 refine ld (vi x_a.Host) wN isAgg_3 b5 ?_
 refine cl wN (C_impl_within w1 x_a.Host 0 4294967295) ?_
 rintro _ w2 ⟨k7, rfl⟩
 have m8 := ((Ch.base w0).extk k4).extk k7
 refine mw (vb (F_impl_within x_a.Host 0 4294967295)) ?_
 rcases bf (F_impl_within x_a.Host 0 4294967295) with h9 | h9
 ·have q15 := impl_within_f h9
  iterate 3 refine sk h9 ?_
  refine pf (vb false) wN h9 ?_
  refine aw (vb false) ?_
  refine n3 ?_
  refine rt (vb false) ?_
  refine ⟨m8.keep0, ?_⟩
  simp only [F_impl_AddrOk, h9, cond_true, cond_false]
  exact rfl
 have q10 := impl_within_t h9
 refine pu (vp g1 1) (wS h9) ?_
 have b11 := (b5.kp k7)
 refine ld (vi x_a.Port) (wS h9) isAgg_3 b11 ?_
 refine cl (wS h9) (C_impl_within w2 x_a.Port 0 65535) ?_
 rintro _ w3 ⟨k12, rfl⟩
 have m13 := m8.extk k12
 refine pk (vb (F_impl_within x_a.Port 0 65535)) wN h9 ?_
 refine aw (vb (F_impl_within x_a.Port 0 65535)) ?_
 refine n3 ?_
 refine rt (vb (F_impl_within x_a.Port 0 65535)) ?_
 refine ⟨m13.keep0, ?_⟩
 simp only [F_impl_AddrOk, h9, cond_true, cond_false]
 exact rfl

def F_impl_isNonce (x_b : List UInt8) : (Bool) := decide ((x_b.length : Int) = 12)
theorem C_impl_isNonce (w0 : World) (v_x_b : Value) (x_b : List UInt8) (r_x_b : R_22 w0 v_x_b x_b)  : Fn Try.prog 95 #[v_x_b] w0 (fun v w' => Keep w0 w' ∧ O_4 w' w0.heap.size v (F_impl_isNonce x_b)) := by
 obtain ⟨a1, c2, rfl, r3, s4⟩ := r_x_b
 refine fn_ofS (n := 6) [(vs a1 x_b.length c2)] Try.func95 rfl rfl ?_
 refine sr ?_
 refine aw (vb false) ?_
 refine nx ?_
 refine mw (vs a1 x_b.length c2) ?_
 refine ln wN slTy_22 r3 ?_
 refine pu (vb (decide ((x_b.length : Int) = 12))) wN ?_
 refine aw (vb (decide ((x_b.length : Int) = 12))) ?_
 refine n3 ?_
 refine rt (vb (decide ((x_b.length : Int) = 12))) ?_
 refine ⟨Ch.refl _ _, ?_⟩
 have hF6 : F_impl_isNonce x_b = decide ((x_b.length : Int) = 12) := by rfl
 rw [hF6]
 exact rfl

def iPaJ (x_p : PPaths) (i j : Nat) : Bool := !(decide (((x_p.Cands.take i).getD j z_PCand).A.Host = (x_p.Cands.getD i z_PCand).A.Host) && decide (((x_p.Cands.take i).getD j z_PCand).A.Port = (x_p.Cands.getD i z_PCand).A.Port))
def iPaG (x_p : PPaths) (i : Nat) : Bool := (F_impl_AddrOk (x_p.Cands.getD i z_PCand).A) && ((!(decide ((x_p.Cands.getD i z_PCand).A.Host = x_p.At.Host) && decide ((x_p.Cands.getD i z_PCand).A.Port = x_p.At.Port))) && ((F_impl_isNonce (x_p.Cands.getD i z_PCand).Draw) && ((F_impl_within (x_p.Cands.getD i z_PCand).Until 0 1000006) && (allN (iPaJ x_p i) i))))
def iPa (x_p : PPaths) : Bool := bif F_impl_AddrOk x_p.At then (bif decide (3 < (x_p.Cands.length : Int)) then false else allN (iPaG x_p) x_p.Cands.length) else false
theorem C_impl_PathsOk (w0 : World) (v_x_p : Value) (x_p : PPaths) (r_x_p : R_47 w0 v_x_p x_p)  : Fn Try.prog 34 #[v_x_p] w0 (fun v w' => Keep w0 w' ∧ O_4 w' w0.heap.size v (iPa x_p)) := by
 obtain ⟨a1, c2, rfl, r3, s4⟩ := r_x_p
 refine fn_ofS (n := 64) [(va (L_47 x_p a1 c2))] Try.func34 rfl rfl ?_
 refine sr ?_
 refine bx (L_47 x_p a1 c2) wN ?_
 intro g6 w1 p7 p8 k9 b10
 have m11 := (Ch.base w0).extk k9
 refine aw (vb false) ?_
 refine n4 ?_
 refine jT1 [(1, (vp g6 0)), (2, (vb false))] (iPa x_p = false) ?_ fun J12 => ?_
 ·intro hA13 w2 k15 u14
  have m16 := m11.extk k15
  refine sr ?_
  refine aw (vb false) ?_
  refine n1 ?_
  refine rt (vb false) ?_
  refine ⟨m16.keep0, ?_⟩
  rw [hA13]
  exact rfl
 refine pu (vp g6 0) wN ?_
 refine lN (L_26 x_p.At) wN isAgg_26 sizeOf_26 b10 ?_
 refine cl wN (C_impl_AddrOk w1 _ x_p.At (mR_26)) ?_
 rintro _ w2 ⟨k18, rfl⟩
 have m19 := m11.extk k18
 refine pu (vb (!(F_impl_AddrOk x_p.At))) wN ?_
 refine mw (vb (!(F_impl_AddrOk x_p.At))) ?_
 rcases bf (F_impl_AddrOk x_p.At) with h20 | h20
 ·iterate 4 refine sk (congrArg not h20) ?_
  refine pk (vb true) wN (congrArg not h20) ?_
  refine n2 ?_
  refine ct (Eq.refl true) ?_
  have hF137 : iPa x_p = false := by simp [iPa, h20]
  exact wj (J12 hF137 _ k18)
 refine pu (vp g6 2) (wS (congrArg not h20)) ?_
 have b22 := (b10.kp k18)
 refine ld (vs a1 x_p.Cands.length c2) (wS (congrArg not h20)) isAgg_45 b22 ?_
 obtain ⟨y23, r24⟩ := RLv.row (r3.from0 m19)
 refine ln (wS (congrArg not h20)) slTy_45 r24 ?_
 refine pu (vb (decide (3 < (x_p.Cands.length : Int)))) (wS (congrArg not h20)) ?_
 refine pf (vb (decide (3 < (x_p.Cands.length : Int)))) wN (congrArg not h20) ?_
 refine n2 ?_
 rcases bt (decide (3 < (x_p.Cands.length : Int))) with h25 | h25
 ·have q26 := of_decide_eq_true h25
  refine ct h25 ?_
  have hF27 : iPa x_p = false := by simp [iPa, h20, h25]
  exact wj (J12 hF27 _ k18)
 have q28 := of_decide_eq_false h25
 refine cf h25 ?_
 refine y2 ?_
 refine pu (vp g6 2) wN ?_
 refine ld (vs a1 x_p.Cands.length c2) wN isAgg_45 b22 ?_
 obtain ⟨y29, r30⟩ := RLv.row (r3.from0 m19)
 refine ln wN slTy_45 r30 ?_
 refine mw (vi 0) ?_
 refine wl_nil <| wq_then <| wc_block ?_
 refine wc_loopP [(1, (vp g6 0)), (18, (vs a1 x_p.Cands.length c2)), (19, (vi (x_p.Cands.length : Int))), (20, (vi ((0 : Nat) : Int)))] ⟨rfl, rfl, rfl, (congrArg (Value.int .i64) (show (0 : Int) = ((0 : Nat) : Int) by omega)), trivial⟩ (fun e' w' => ∃ (k : Nat) (u31 : Env), e' = pt u31 [(1, (vp g6 0)), (18, (vs a1 x_p.Cands.length c2)), (19, (vi (x_p.Cands.length : Int))), (20, (vi ((k : Nat) : Int)))] ∧ Ch (fun k => w0.heap.size ≤ k) w0 w' ∧ Ch (fun k => w2.heap.size ≤ k) w2 w' ∧ k ≤ x_p.Cands.length ∧ (∀ j, j < k → iPaG x_p j = true)) (fun e' _ => x_p.Cands.length - ((intOf (e' 20))).toNat) ?_ ?_
 ·exact fun u => ⟨0, u, rfl, m19, (Ch.refl (fun k => w2.heap.size ≤ k) w2), (by omega), (by first | (intro j hj; omega) | (have hy := allN_t (f := iPaJ x_p k) (n := k) (k := j) (by assumption) (by omega); exact allN_next (by assumption) (by simp only [iPaG, hy, h20, h25]; simp)))⟩
 ·rintro _ w3 ⟨k, u31, rfl, m32, k33, i34, i35⟩
  refine sr ?_
  refine pu (vb (decide (((k : Nat) : Int) < (x_p.Cands.length : Int)))) wN ?_
  refine wl_nil <| wq_then <| wc_seq ?_
  rcases bf (decide (((k : Nat) : Int) < (x_p.Cands.length : Int))) with h36 | h36
  ·have q134 := of_decide_eq_false h36
   refine cf h36 ?_
   refine wc_exit <| wq_then_exit <| wq_then_exit <| wq_blk_exit <| wq_then <| sr ?_
   refine aw (vb true) ?_
   refine n3 ?_
   refine rt (vb true) ?_
   refine ⟨m32.keep0, ?_⟩
   have hF135 : iPa x_p = true := by have hz := allN_t (f := iPaG x_p) (n := x_p.Cands.length) (k := k) (by assumption) (by omega); simp only [iPa, h20, h25, h36, hz]; simp
   rw [hF135]
   exact rfl
  have q37 := of_decide_eq_true h36
  refine ct h36 ?_
  refine wc_skip <| wq_then <| wc_seq <| wc_block <| sr ?_
  refine mw (vi ((k : Nat) : Int)) ?_
  obtain ⟨y38, r39⟩ := RLv.row (r3.from0 m32)
  refine ix wN ((k : Nat) : Int) slTy_45 r39 ?_
  obtain ⟨y40, l41, r42, e43, u44⟩ := RLv.el z_PCand (i := k) r3 (by first | omega | (simp only [List.length_cons, List.length_nil, List.length_replicate, List.length_append, List.length_take, List.length_set, List.length_map]; omega))
  obtain ⟨a45, c46, l50, rfl, r47, s48, u51⟩ := SubR.c u44
  obtain rfl := SubR.n u51
  refine wl_loadEN [(vi (((x_p.Cands.getD k z_PCand).A).Host)), (vi (((x_p.Cands.getD k z_PCand).A).Port)), (vs a45 (x_p.Cands.getD k z_PCand).Draw.length c46), (vi ((x_p.Cands.getD k z_PCand).Until))] wN rfl rfl rfl rfl isAgg_42 sizeOf_42 (r42.from0 m32) (by first | omega | (simp only [List.length_cons, List.length_nil, List.length_replicate, List.length_append, List.length_take, List.length_set, List.length_map]; omega)) ((part_of (off := 0) (n := 4) e43 (by first | rfl | simp | omega) (by decide)).trans rfl) ?_
  refine al Z_42 wN zero_42 ?_
  intro g52 w4 p53 p54 k55 b56
  refine aw (vi ((k : Nat) : Int)) ?_
  refine sv [(vi (((x_p.Cands.getD k z_PCand).A).Host)), (vi (((x_p.Cands.getD k z_PCand).A).Port)), (vs a45 (x_p.Cands.getD k z_PCand).Draw.length c46), (vi ((x_p.Cands.getD k z_PCand).Until))] wN sizeOf_42 b56 ?_
  intro w5 k58 b59 z60
  have m61 := (m32.extk k55).ext k58 (fun k hk => by subst hk; exact Nat.le_trans (z3 k9 k18 k33) p53)
  refine n4 ?_
  refine pu (vp g52 0) wN ?_
  refine lN (L_26 ((x_p.Cands.getD k z_PCand).A)) wN isAgg_26 sizeOf_26 b59 ?_
  refine cl wN (C_impl_AddrOk w5 _ ((x_p.Cands.getD k z_PCand).A) (mR_26)) ?_
  rintro _ w6 ⟨k62, rfl⟩
  have m63 := m61.extk k62
  refine pu (vb (!(F_impl_AddrOk ((x_p.Cands.getD k z_PCand).A)))) wN ?_
  refine mw (vb (!(F_impl_AddrOk ((x_p.Cands.getD k z_PCand).A)))) ?_
  rcases bf (F_impl_AddrOk ((x_p.Cands.getD k z_PCand).A)) with h64 | h64
  ·iterate 5 refine sk (congrArg not h64) ?_
   refine pk (vb true) wN (congrArg not h64) ?_
   refine mw (vb true) ?_
   iterate 4 refine sk (Eq.refl true) ?_
   refine pk (vb true) wN (Eq.refl true) ?_
   refine mw (vb true) ?_
   iterate 4 refine sk (Eq.refl true) ?_
   refine pk (vb true) wN (Eq.refl true) ?_
   refine n2 ?_
   refine ct (Eq.refl true) ?_
   refine sr ?_
   refine aw (vb false) ?_
   refine wl_nil <| wq_then <| wc_ret <| wq_then_ret <| wq_blk_ret <| wq_then_ret <| wq_then_ret <| wq_blk_ret <| wq_then_ret ?_
   refine rt (vb false) ?_
   refine ⟨m63.keep0, ?_⟩
   have hF133 : iPa x_p = false := by have hz := allN_f (f := iPaG x_p) (n := x_p.Cands.length) (k := k) (by omega) (by simp only [iPaG, h20, h25, h36, h64]; simp); simp only [iPa, h20, h25, h36, h64, hz]; simp
   rw [hF133]
   exact rfl
  refine pu (vp g52 0) (wS (congrArg not h64)) ?_
  have b66 := (b59.kp k62)
  refine lN (L_26 ((x_p.Cands.getD k z_PCand).A)) (wS (congrArg not h64)) isAgg_26 sizeOf_26 b66 ?_
  refine pu (vp g6 0) (wS (congrArg not h64)) ?_
  have b67 := ((((b22.ch k33 (Nat.not_le.2 (Nat.lt_of_lt_of_le p8 k18.size))).kp k55).ch k58 (Nat.ne_of_lt (Nat.lt_of_lt_of_le p8 (Nat.le_trans (z2 k18 k33) p53)))).kp k62)
  refine lN (L_26 x_p.At) (wS (congrArg not h64)) isAgg_26 sizeOf_26 b67 ?_
  refine wl_aggeq ((decide ((((x_p.Cands.getD k z_PCand).A).Host) = x_p.At.Host) && decide ((((x_p.Cands.getD k z_PCand).A).Port) = x_p.At.Port))) (wS (congrArg not h64)) rfl rfl rfl rfl rfl guardt_26 (aggeq_26 (((x_p.Cands.getD k z_PCand).A).Host) x_p.At.Host (((x_p.Cands.getD k z_PCand).A).Port) x_p.At.Port w6) ?_
  refine pf (vb (decide ((((x_p.Cands.getD k z_PCand).A).Host) = x_p.At.Host) && decide ((((x_p.Cands.getD k z_PCand).A).Port) = x_p.At.Port))) wN (congrArg not h64) ?_
  refine mw (vb (decide ((((x_p.Cands.getD k z_PCand).A).Host) = x_p.At.Host) && decide ((((x_p.Cands.getD k z_PCand).A).Port) = x_p.At.Port))) ?_
  rcases bt (decide ((((x_p.Cands.getD k z_PCand).A).Host) = x_p.At.Host) && decide ((((x_p.Cands.getD k z_PCand).A).Port) = x_p.At.Port)) with h68 | h68
  ·iterate 4 refine sk h68 ?_
   refine pk (vb true) wN h68 ?_
   refine mw (vb true) ?_
   iterate 4 refine sk (Eq.refl true) ?_
   refine pk (vb true) wN (Eq.refl true) ?_
   refine n2 ?_
   refine ct (Eq.refl true) ?_
   refine sr ?_
   refine aw (vb false) ?_
   refine wl_nil <| wq_then <| wc_ret <| wq_then_ret <| wq_blk_ret <| wq_then_ret <| wq_then_ret <| wq_blk_ret <| wq_then_ret ?_
   refine rt (vb false) ?_
   refine ⟨m63.keep0, ?_⟩
   have hF70 : iPa x_p = false := by have hz := allN_f (f := iPaG x_p) (n := x_p.Cands.length) (k := k) (by omega) (by simp only [iPaG, h20, h25, h36, h64, h68]; simp); simp only [iPa, h20, h25, h36, h64, h68, hz]; simp
   rw [hF70]
   exact rfl
  refine pu (vp g52 2) (wS h68) ?_
  refine ld (vs a45 (x_p.Cands.getD k z_PCand).Draw.length c46) (wS h68) isAgg_22 b66 ?_
  refine cl (wS h68) (C_impl_isNonce w6 _ ((x_p.Cands.getD k z_PCand).Draw) (mR_22 (r47.from0 m63) s48)) ?_
  rintro _ w7 ⟨k72, rfl⟩
  have m73 := m63.extk k72
  refine pu (vb (!(F_impl_isNonce ((x_p.Cands.getD k z_PCand).Draw)))) (wS h68) ?_
  refine pf (vb (!(F_impl_isNonce ((x_p.Cands.getD k z_PCand).Draw)))) wN h68 ?_
  refine mw (vb (!(F_impl_isNonce ((x_p.Cands.getD k z_PCand).Draw)))) ?_
  rcases bf (F_impl_isNonce ((x_p.Cands.getD k z_PCand).Draw)) with h74 | h74
  ·iterate 4 refine sk (congrArg not h74) ?_
   refine pk (vb true) wN (congrArg not h74) ?_
   refine n2 ?_
   refine ct (Eq.refl true) ?_
   refine sr ?_
   refine aw (vb false) ?_
   refine wl_nil <| wq_then <| wc_ret <| wq_then_ret <| wq_blk_ret <| wq_then_ret <| wq_then_ret <| wq_blk_ret <| wq_then_ret ?_
   refine rt (vb false) ?_
   refine ⟨m73.keep0, ?_⟩
   have hF131 : iPa x_p = false := by have hz := allN_f (f := iPaG x_p) (n := x_p.Cands.length) (k := k) (by omega) (by simp only [iPaG, h20, h25, h36, h64, h68, h74]; simp); simp only [iPa, h20, h25, h36, h64, h68, h74, hz]; simp
   rw [hF131]
   exact rfl
  refine pu (vp g52 3) (wS (congrArg not h74)) ?_
  have b76 := (b66.kp k72)
  refine ld (vi ((x_p.Cands.getD k z_PCand).Until)) (wS (congrArg not h74)) isAgg_3 b76 ?_
  refine cl (wS (congrArg not h74)) (C_impl_within w7 ((x_p.Cands.getD k z_PCand).Until) 0 1000006) ?_
  rintro _ w8 ⟨k77, rfl⟩
  have m78 := m73.extk k77
  refine pu (vb (!(F_impl_within ((x_p.Cands.getD k z_PCand).Until) 0 1000006))) (wS (congrArg not h74)) ?_
  refine pf (vb (!(F_impl_within ((x_p.Cands.getD k z_PCand).Until) 0 1000006))) wN (congrArg not h74) ?_
  refine n2 ?_
  rcases bf (F_impl_within ((x_p.Cands.getD k z_PCand).Until) 0 1000006) with h79 | h79
  ·have q128 := impl_within_f h79
   refine ct (congrArg not h79) ?_
   refine sr ?_
   refine aw (vb false) ?_
   refine wl_nil <| wq_then <| wc_ret <| wq_then_ret <| wq_blk_ret <| wq_then_ret <| wq_then_ret <| wq_blk_ret <| wq_then_ret ?_
   refine rt (vb false) ?_
   refine ⟨m78.keep0, ?_⟩
   have hF129 : iPa x_p = false := by have hz := allN_f (f := iPaG x_p) (n := x_p.Cands.length) (k := k) (by omega) (by simp only [iPaG, h20, h25, h36, h64, h68, h74, h79]; simp); simp only [iPa, h20, h25, h36, h64, h68, h74, h79, hz]; simp
   rw [hF129]
   exact rfl
  have q80 := impl_within_t h79
  refine cf (congrArg not h79) ?_
  refine y1 ?_
  refine pu (vp g6 2) wN ?_
  have b81 := ((b67.kp k72).kp k77)
  refine ld (vs a1 x_p.Cands.length c2) wN isAgg_45 b81 ?_
  refine mw (vi ((k : Nat) : Int)) ?_
  have q83 : 0 ≤ k := (by first | omega | (simp only [List.length_cons, List.length_nil, List.length_replicate, List.length_append, List.length_take, List.length_set, List.length_map]; omega))
  have q84 : k ≤ x_p.Cands.length := (by first | omega | (simp only [List.length_cons, List.length_nil, List.length_replicate, List.length_append, List.length_take, List.length_set, List.length_map]; omega))
  obtain ⟨y85, r86⟩ := RLv.row (r3.from0 m78)
  refine slvR 0 k wN slTy_45 r86 q83 q84 rfl rfl rfl rfl (.inl ⟨rfl, rfl⟩) (.inr ⟨_, _, _, rfl, rfl, by omega⟩) ?_
  have r87 := RLv.sub (x' := (x_p.Cands.take k)) r3 q83 q84 (by first | rfl | (simp; done) | (rw [List.take_of_length_le (by first | (simp; done) | (simp; omega))]))
  obtain ⟨y89, r90⟩ := RLv.row (r87.from0 m78)
  refine ln wN slTy_45 r90 ?_
  refine mw (vi 0) ?_
  refine wl_nil <| wq_then <| wc_block ?_
  refine wc_loopP [(1, (vp g6 0)), (3, (vi ((k : Nat) : Int))), (4, (vp g52 0)), (18, (vs a1 x_p.Cands.length c2)), (19, (vi (x_p.Cands.length : Int))), (20, (vi ((k : Nat) : Int))), (21, (vb (decide (((k : Nat) : Int) < (x_p.Cands.length : Int))))), (22, (vi ((k : Nat) : Int))), (23, (ve (vs a1 x_p.Cands.length c2) ((((k : Nat) : Int)).toNat * 4))), (24, (va [(vi (((x_p.Cands.getD k z_PCand).A).Host)), (vi (((x_p.Cands.getD k z_PCand).A).Port)), (vs a45 (x_p.Cands.getD k z_PCand).Draw.length c46), (vi ((x_p.Cands.getD k z_PCand).Until))])), (25, (vp g52 0)), (26, (va (L_26 ((x_p.Cands.getD k z_PCand).A)))), (27, (vb (F_impl_AddrOk ((x_p.Cands.getD k z_PCand).A)))), (28, (vb (!(F_impl_AddrOk ((x_p.Cands.getD k z_PCand).A))))), (29, (vb (!(F_impl_AddrOk ((x_p.Cands.getD k z_PCand).A))))), (30, (vp g52 0)), (31, (va (L_26 ((x_p.Cands.getD k z_PCand).A)))), (32, (vp g6 0)), (33, (va (L_26 x_p.At))), (34, (vb (decide ((((x_p.Cands.getD k z_PCand).A).Host) = x_p.At.Host) && decide ((((x_p.Cands.getD k z_PCand).A).Port) = x_p.At.Port)))), (35, (vb (decide ((((x_p.Cands.getD k z_PCand).A).Host) = x_p.At.Host) && decide ((((x_p.Cands.getD k z_PCand).A).Port) = x_p.At.Port)))), (36, (vb (decide ((((x_p.Cands.getD k z_PCand).A).Host) = x_p.At.Host) && decide ((((x_p.Cands.getD k z_PCand).A).Port) = x_p.At.Port)))), (37, (vp g52 2)), (38, (vs a45 (x_p.Cands.getD k z_PCand).Draw.length c46)), (39, (vb (F_impl_isNonce ((x_p.Cands.getD k z_PCand).Draw)))), (40, (vb (!(F_impl_isNonce ((x_p.Cands.getD k z_PCand).Draw))))), (41, (vb (!(F_impl_isNonce ((x_p.Cands.getD k z_PCand).Draw))))), (42, (vb (!(F_impl_isNonce ((x_p.Cands.getD k z_PCand).Draw))))), (43, (vp g52 3)), (44, (vi ((x_p.Cands.getD k z_PCand).Until))), (45, (vb (F_impl_within ((x_p.Cands.getD k z_PCand).Until) 0 1000006))), (46, (vb (!(F_impl_within ((x_p.Cands.getD k z_PCand).Until) 0 1000006)))), (47, (vb (!(F_impl_within ((x_p.Cands.getD k z_PCand).Until) 0 1000006)))), (48, (vp g6 2)), (49, (vs a1 x_p.Cands.length c2)), (50, (vi ((k : Nat) : Int))), (51, (vs (subA a1 c2 0 4) (k - 0) (c2 - 0))), (52, (vi ((k - 0) : Int))), (53, (vi ((0 : Nat) : Int)))] ⟨rfl, rfl, rfl, rfl, rfl, rfl, rfl, rfl, rfl, rfl, rfl, rfl, rfl, rfl, rfl, rfl, rfl, rfl, rfl, rfl, rfl, rfl, rfl, rfl, rfl, rfl, rfl, rfl, rfl, rfl, rfl, rfl, rfl, rfl, rfl, rfl, rfl, rfl, (congrArg (Value.int .i64) (show (0 : Int) = ((0 : Nat) : Int) by omega)), trivial⟩ (fun e' w' => ∃ (j : Nat) (u91 : Env), e' = pt u91 [(1, (vp g6 0)), (3, (vi ((k : Nat) : Int))), (4, (vp g52 0)), (18, (vs a1 x_p.Cands.length c2)), (19, (vi (x_p.Cands.length : Int))), (20, (vi ((k : Nat) : Int))), (21, (vb (decide (((k : Nat) : Int) < (x_p.Cands.length : Int))))), (22, (vi ((k : Nat) : Int))), (23, (ve (vs a1 x_p.Cands.length c2) ((((k : Nat) : Int)).toNat * 4))), (24, (va [(vi (((x_p.Cands.getD k z_PCand).A).Host)), (vi (((x_p.Cands.getD k z_PCand).A).Port)), (vs a45 (x_p.Cands.getD k z_PCand).Draw.length c46), (vi ((x_p.Cands.getD k z_PCand).Until))])), (25, (vp g52 0)), (26, (va (L_26 ((x_p.Cands.getD k z_PCand).A)))), (27, (vb (F_impl_AddrOk ((x_p.Cands.getD k z_PCand).A)))), (28, (vb (!(F_impl_AddrOk ((x_p.Cands.getD k z_PCand).A))))), (29, (vb (!(F_impl_AddrOk ((x_p.Cands.getD k z_PCand).A))))), (30, (vp g52 0)), (31, (va (L_26 ((x_p.Cands.getD k z_PCand).A)))), (32, (vp g6 0)), (33, (va (L_26 x_p.At))), (34, (vb (decide ((((x_p.Cands.getD k z_PCand).A).Host) = x_p.At.Host) && decide ((((x_p.Cands.getD k z_PCand).A).Port) = x_p.At.Port)))), (35, (vb (decide ((((x_p.Cands.getD k z_PCand).A).Host) = x_p.At.Host) && decide ((((x_p.Cands.getD k z_PCand).A).Port) = x_p.At.Port)))), (36, (vb (decide ((((x_p.Cands.getD k z_PCand).A).Host) = x_p.At.Host) && decide ((((x_p.Cands.getD k z_PCand).A).Port) = x_p.At.Port)))), (37, (vp g52 2)), (38, (vs a45 (x_p.Cands.getD k z_PCand).Draw.length c46)), (39, (vb (F_impl_isNonce ((x_p.Cands.getD k z_PCand).Draw)))), (40, (vb (!(F_impl_isNonce ((x_p.Cands.getD k z_PCand).Draw))))), (41, (vb (!(F_impl_isNonce ((x_p.Cands.getD k z_PCand).Draw))))), (42, (vb (!(F_impl_isNonce ((x_p.Cands.getD k z_PCand).Draw))))), (43, (vp g52 3)), (44, (vi ((x_p.Cands.getD k z_PCand).Until))), (45, (vb (F_impl_within ((x_p.Cands.getD k z_PCand).Until) 0 1000006))), (46, (vb (!(F_impl_within ((x_p.Cands.getD k z_PCand).Until) 0 1000006)))), (47, (vb (!(F_impl_within ((x_p.Cands.getD k z_PCand).Until) 0 1000006)))), (48, (vp g6 2)), (49, (vs a1 x_p.Cands.length c2)), (50, (vi ((k : Nat) : Int))), (51, (vs (subA a1 c2 0 4) (k - 0) (c2 - 0))), (52, (vi ((k - 0) : Int))), (53, (vi ((j : Nat) : Int)))] ∧ Ch (fun k => w0.heap.size ≤ k) w0 w' ∧ Ch (fun k => w8.heap.size ≤ k) w8 w' ∧ j ≤ k ∧ (∀ m, m < j → iPaJ x_p k m = true)) (fun e' _ => k - ((intOf (e' 53))).toNat) ?_ ?_
  ·exact fun u => ⟨0, u, rfl, m78, (Ch.refl (fun k => w8.heap.size ≤ k) w8), (by omega), (by first | (intro m hm; omega) | exact allN_next (by assumption) (by simp only [iPaJ, h20, h25, h36, h64, h68, h74, h79]; simp))⟩
  ·rintro _ w9 ⟨j, u91, rfl, m92, k93, i94, i95⟩
   refine sr ?_
   refine pu (vb (decide (((j : Nat) : Int) < ((k - 0) : Int)))) wN ?_
   refine wl_nil <| wq_then <| wc_seq ?_
   rcases bf (decide (((j : Nat) : Int) < ((k - 0) : Int))) with h96 | h96
   ·have q127 := of_decide_eq_false h96
    refine cf h96 ?_
    refine wc_exit <| wq_then_exit <| wq_then_exit <| wq_blk_exit <| wq_blk_normal <| wq_then <| wc_region ?_
    refine ar (((k : Nat) : Int) + 1) wN ?_
    refine mw (vi (((k : Nat) : Int) + 1)) ?_
    refine wl_nil ?_
    refine wq_loopP (w0 := w3) [(1, (vp g6 0)), (18, (vs a1 x_p.Cands.length c2)), (19, (vi (x_p.Cands.length : Int))), (20, (vi (((k + 1) : Nat) : Int)))] ?_ ?_ ?_
    · exact ⟨rfl, rfl, rfl, (congrArg (Value.int .i64) (show ((((k : Nat) : Int) + 1) : Int) = (((k + 1) : Nat) : Int) by omega)), trivial⟩
    · exact fun u => ⟨(k + 1), u, rfl, m92, ((((((((Ch.refl (fun k => w2.heap.size ≤ k) w2).ext k33 (fun k hk => hk)).extk k55).ext k58 (fun k hk => by subst hk; exact Nat.le_trans k33.size p53)).extk k62).extk k72).extk k77).ext k93 (fun k hk => Nat.le_trans (z6 k33 k55 k58 k62 k72 k77) hk)), (by omega), (by first | (intro j hj; omega) | (have hy := allN_t (f := iPaJ x_p k) (n := k) (k := j) (by assumption) (by omega); exact allN_next (by assumption) (by simp only [iPaG, hy, h20, h25, h36, h64, h68, h74, h79, h96]; simp)))⟩
    · show x_p.Cands.length - ((((k + 1) : Nat) : Int)).toNat < x_p.Cands.length - (((k : Nat) : Int)).toNat; omega
   have q97 := of_decide_eq_true h96
   refine ct h96 ?_
   refine wc_skip <| wq_then <| wc_seq <| wc_block <| sr ?_
   obtain ⟨y98, r99⟩ := RLv.row (r87.from0 m92)
   refine ix wN ((j : Nat) : Int) slTy_45 r99 ?_
   obtain ⟨y100, l101, r102, e103, u104⟩ := RLv.el z_PCand (i := j) r87 (by first | omega | (simp only [List.length_cons, List.length_nil, List.length_replicate, List.length_append, List.length_take, List.length_set, List.length_map]; omega))
   obtain ⟨a105, c106, l110, rfl, r107, s108, u111⟩ := SubR.c u104
   obtain rfl := SubR.n u111
   refine wl_loadEN [(vi ((((x_p.Cands.take k).getD j z_PCand).A).Host)), (vi ((((x_p.Cands.take k).getD j z_PCand).A).Port)), (vs a105 ((x_p.Cands.take k).getD j z_PCand).Draw.length c106), (vi (((x_p.Cands.take k).getD j z_PCand).Until))] wN rfl rfl rfl rfl isAgg_42 sizeOf_42 (r102.from0 m92) (by first | omega | (simp only [List.length_cons, List.length_nil, List.length_replicate, List.length_append, List.length_take, List.length_set, List.length_map]; omega)) ((part_of (off := 0) (n := 4) e103 (by first | rfl | simp | omega) (by decide)).trans rfl) ?_
   refine al Z_42 wN zero_42 ?_
   intro g112 w10 p113 p114 k115 b116
   refine sv [(vi ((((x_p.Cands.take k).getD j z_PCand).A).Host)), (vi ((((x_p.Cands.take k).getD j z_PCand).A).Port)), (vs a105 ((x_p.Cands.take k).getD j z_PCand).Draw.length c106), (vi (((x_p.Cands.take k).getD j z_PCand).Until))] wN sizeOf_42 b116 ?_
   intro w11 k118 b119 z120
   have m121 := (m92.extk k115).ext k118 (fun k hk => by subst hk; exact Nat.le_trans (z9 k9 k18 k33 k55 k58 k62 k72 k77 k93) p113)
   refine nx ?_
   refine pu (vp g112 0) wN ?_
   refine lN (L_26 (((x_p.Cands.take k).getD j z_PCand).A)) wN isAgg_26 sizeOf_26 b119 ?_
   refine pu (vp g52 0) wN ?_
   have b122 := ((((b76.kp k77).ch k93 (Nat.not_le.2 (Nat.lt_of_lt_of_le p54 (z4 k58 k62 k72 k77)))).kp k115).ch k118 (Nat.ne_of_lt (Nat.lt_of_lt_of_le p54 (Nat.le_trans (z5 k58 k62 k72 k77 k93) p113))))
   refine lN (L_26 ((x_p.Cands.getD k z_PCand).A)) wN isAgg_26 sizeOf_26 b122 ?_
   refine wl_aggeq ((decide (((((x_p.Cands.take k).getD j z_PCand).A).Host) = (((x_p.Cands.getD k z_PCand).A).Host)) && decide (((((x_p.Cands.take k).getD j z_PCand).A).Port) = (((x_p.Cands.getD k z_PCand).A).Port)))) wN rfl rfl rfl rfl rfl guardt_26 (aggeq_26 ((((x_p.Cands.take k).getD j z_PCand).A).Host) (((x_p.Cands.getD k z_PCand).A).Host) ((((x_p.Cands.take k).getD j z_PCand).A).Port) (((x_p.Cands.getD k z_PCand).A).Port) w11) ?_
   refine n2 ?_
   rcases bt (decide (((((x_p.Cands.take k).getD j z_PCand).A).Host) = (((x_p.Cands.getD k z_PCand).A).Host)) && decide (((((x_p.Cands.take k).getD j z_PCand).A).Port) = (((x_p.Cands.getD k z_PCand).A).Port))) with h123 | h123
   ·refine ct h123 ?_
    refine sr ?_
    refine aw (vb false) ?_
    refine wl_nil <| wq_then <| wc_ret <| wq_blk_ret <| wq_then_ret <| wq_then_ret <| wq_blk_ret <| wq_blk_ret <| wq_then_ret <| wq_then_ret <| wq_blk_ret <| wq_then_ret ?_
    refine rt (vb false) ?_
    refine ⟨m121.keep0, ?_⟩
    have hF125 : iPa x_p = false := by have hy := allN_f (f := iPaJ x_p k) (n := k) (k := j) (by omega) (by simp only [iPaJ, h20, h25, h36, h64, h68, h74, h79, h96, h123]; simp); have hz := allN_f (f := iPaG x_p) (n := x_p.Cands.length) (k := k) (by omega) (by simp only [iPaG, hy, h20, h25, h36, h64, h68, h74, h79, h96, h123]; simp); simp only [iPa, h20, h25, h36, h64, h68, h74, h79, h96, h123, hz]; simp
    rw [hF125]
    exact rfl
   refine cf h123 ?_
   refine wc_skip <| wq_blk_normal <| wq_then <| wc_region ?_
   refine ar (((j : Nat) : Int) + 1) wN ?_
   refine mw (vi (((j : Nat) : Int) + 1)) ?_
   refine wl_nil ?_
   refine wq_loopP (w0 := w9) [(1, (vp g6 0)), (3, (vi ((k : Nat) : Int))), (4, (vp g52 0)), (18, (vs a1 x_p.Cands.length c2)), (19, (vi (x_p.Cands.length : Int))), (20, (vi ((k : Nat) : Int))), (21, (vb (decide (((k : Nat) : Int) < (x_p.Cands.length : Int))))), (22, (vi ((k : Nat) : Int))), (23, (ve (vs a1 x_p.Cands.length c2) ((((k : Nat) : Int)).toNat * 4))), (24, (va [(vi (((x_p.Cands.getD k z_PCand).A).Host)), (vi (((x_p.Cands.getD k z_PCand).A).Port)), (vs a45 (x_p.Cands.getD k z_PCand).Draw.length c46), (vi ((x_p.Cands.getD k z_PCand).Until))])), (25, (vp g52 0)), (26, (va (L_26 ((x_p.Cands.getD k z_PCand).A)))), (27, (vb (F_impl_AddrOk ((x_p.Cands.getD k z_PCand).A)))), (28, (vb (!(F_impl_AddrOk ((x_p.Cands.getD k z_PCand).A))))), (29, (vb (!(F_impl_AddrOk ((x_p.Cands.getD k z_PCand).A))))), (30, (vp g52 0)), (31, (va (L_26 ((x_p.Cands.getD k z_PCand).A)))), (32, (vp g6 0)), (33, (va (L_26 x_p.At))), (34, (vb (decide ((((x_p.Cands.getD k z_PCand).A).Host) = x_p.At.Host) && decide ((((x_p.Cands.getD k z_PCand).A).Port) = x_p.At.Port)))), (35, (vb (decide ((((x_p.Cands.getD k z_PCand).A).Host) = x_p.At.Host) && decide ((((x_p.Cands.getD k z_PCand).A).Port) = x_p.At.Port)))), (36, (vb (decide ((((x_p.Cands.getD k z_PCand).A).Host) = x_p.At.Host) && decide ((((x_p.Cands.getD k z_PCand).A).Port) = x_p.At.Port)))), (37, (vp g52 2)), (38, (vs a45 (x_p.Cands.getD k z_PCand).Draw.length c46)), (39, (vb (F_impl_isNonce ((x_p.Cands.getD k z_PCand).Draw)))), (40, (vb (!(F_impl_isNonce ((x_p.Cands.getD k z_PCand).Draw))))), (41, (vb (!(F_impl_isNonce ((x_p.Cands.getD k z_PCand).Draw))))), (42, (vb (!(F_impl_isNonce ((x_p.Cands.getD k z_PCand).Draw))))), (43, (vp g52 3)), (44, (vi ((x_p.Cands.getD k z_PCand).Until))), (45, (vb (F_impl_within ((x_p.Cands.getD k z_PCand).Until) 0 1000006))), (46, (vb (!(F_impl_within ((x_p.Cands.getD k z_PCand).Until) 0 1000006)))), (47, (vb (!(F_impl_within ((x_p.Cands.getD k z_PCand).Until) 0 1000006)))), (48, (vp g6 2)), (49, (vs a1 x_p.Cands.length c2)), (50, (vi ((k : Nat) : Int))), (51, (vs (subA a1 c2 0 4) (k - 0) (c2 - 0))), (52, (vi ((k - 0) : Int))), (53, (vi (((j + 1) : Nat) : Int)))] ?_ ?_ ?_
   · exact ⟨rfl, rfl, rfl, rfl, rfl, rfl, rfl, rfl, rfl, rfl, rfl, rfl, rfl, rfl, rfl, rfl, rfl, rfl, rfl, rfl, rfl, rfl, rfl, rfl, rfl, rfl, rfl, rfl, rfl, rfl, rfl, rfl, rfl, rfl, rfl, rfl, rfl, rfl, (congrArg (Value.int .i64) (show ((((j : Nat) : Int) + 1) : Int) = (((j + 1) : Nat) : Int) by omega)), trivial⟩
   · exact fun u => ⟨(j + 1), u, rfl, m121, ((((Ch.refl (fun k => w8.heap.size ≤ k) w8).ext k93 (fun k hk => hk)).extk k115).ext k118 (fun k hk => by subst hk; exact Nat.le_trans k93.size p113)), (by omega), (by first | (intro m hm; omega) | exact allN_next (by assumption) (by simp only [iPaJ, h20, h25, h36, h64, h68, h74, h79, h96, h123]; simp))⟩
   · show k - ((((j + 1) : Nat) : Int)).toNat < k - (((j : Nat) : Int)).toNat; omega
theorem iPa_t {p : PPaths} (h : iPa p = true) : p.Cands.length ≤ 3 := by
  unfold iPa at h
  cases h1 : F_impl_AddrOk p.At with
  | false => simp only [h1, cond_false] at h; cases h
  | true =>
    cases h8 : decide (3 < (p.Cands.length : Int)) with
    | true => simp only [h1, h8, cond_true] at h; cases h
    | false => have := of_decide_eq_false h8; omega

def F_impl_clone (x_b : List UInt8) : (List UInt8) := x_b
theorem C_impl_clone (w0 : World) (v_x_b : Value) (x_b : List UInt8) (r_x_b : R_22 w0 v_x_b x_b)  : Fn Try.prog 96 #[v_x_b] w0 (fun v w' => Keep w0 w' ∧ O_22 w' w0.heap.size v (x_b)) := by
 obtain ⟨a1, c2, rfl, r3, s4⟩ := r_x_b
 refine fn_ofS (n := 6) [(vs a1 x_b.length c2)] Try.func96 rfl rfl ?_
 refine sr ?_
 refine aw (vs none 0 0) ?_
 refine nx ?_
 refine wl_lit0 wN rfl rfl slTy_22 (fun w => by kernel_rfl) ?_
 intro a6 w1 k7 o8
 have m9 := (Ch.base w0).extk k7
 refine mw (vs a1 x_b.length c2) ?_
 refine ap0 x_b wN slTy_22 o8 (r3.from0 m9) k7.size ?_
 intro a11 c12 w2 k13 o14 n15
 have m16 := m9.extk k13
 refine aw (vs a11 x_b.length c12) ?_
 refine n3 ?_
 refine rt (vs a11 x_b.length c12) ?_
 refine ⟨m16.keep0, ?_⟩
 have hF18 : x_b = x_b := by rfl
 rw [hF18]
 exact ⟨_, _, rfl, o14, s4, ⟨trivial, trivial⟩⟩

def F_impl_copyPaths (x_p : PPaths) : (PPaths) := { At := x_p.At, Cands := (x_p.Cands.take x_p.Cands.length) : PPaths }
theorem C_impl_copyPaths (w0 : World) (v_x_p : Value) (x_p : PPaths) (r_x_p : R_47 w0 v_x_p x_p)  : Fn Try.prog 81 #[v_x_p] w0 (fun v w' => Keep w0 w' ∧ O_47 w' w0.heap.size v (x_p)) := by
 obtain ⟨a1, c2, rfl, r3, s4⟩ := r_x_p
 refine fn_ofS (n := 31) [(va (L_47 x_p a1 c2))] Try.func81 rfl rfl ?_
 refine sr ?_
 refine bx (L_47 x_p a1 c2) wN ?_
 intro g6 w1 p7 p8 k9 b10
 refine al [(vi 0), (vi 0), (vs none 0 0)] wN zero_47 ?_
 intro g12 w2 p13 p14 k15 b16
 have m17 := ((Ch.base w0).extk k9).extk k15
 refine nx ?_
 refine pu (vp g6 0) wN ?_
 have b18 := (b10.kp k15)
 refine lN (L_26 x_p.At) wN isAgg_26 sizeOf_26 b18 ?_
 refine pu (va [(vi x_p.At.Host), (vi x_p.At.Port), (vs none 0 0)]) wN ?_
 refine al [(vi 0), (vi 0), (vs none 0 0)] wN zero_47 ?_
 intro g19 w3 p20 p21 k22 b23
 refine sv [(vi x_p.At.Host), (vi x_p.At.Port), (vs none 0 0)] wN sizeOf_47 b23 ?_
 intro w4 k25 b26 z27
 have m28 := (m17.extk k22).ext k25 (fun k hk => by subst hk; exact Nat.le_trans (z2 k9 k15) p20)
 refine n4 ?_
 refine pu (vp g6 2) wN ?_
 have b29 := ((b18.kp k22).ch k25 (Nat.ne_of_lt (Nat.lt_of_lt_of_le p8 (Nat.le_trans k15.size p20))))
 refine ld (vs a1 x_p.Cands.length c2) wN isAgg_45 b29 ?_
 obtain ⟨y30, r31⟩ := RLv.row (r3.from0 m28)
 refine ln wN slTy_45 r31 ?_
 refine mw (vi 0) ?_
 refine wl_nil <| wq_then <| wc_block ?_
 have hE33 : (([] : List (PCand)) : List (PCand)) = x_p.Cands.take 0 := by first | rfl | exact take_snoc (z := z_PCand) (by omega)
 refine wc_loopP [(2, (vp g12 0)), (3, (vp g19 0)), (10, (vs a1 x_p.Cands.length c2)), (11, (vi (x_p.Cands.length : Int))), (12, (vi ((0 : Nat) : Int)))] ⟨rfl, rfl, rfl, rfl, (congrArg (Value.int .i64) (show (0 : Int) = ((0 : Nat) : Int) by omega)), trivial⟩ (fun e' w' => ∃ (kq : Nat) (u32 : Env) (ab3_2x : Option Addr) (cb3_2x : Nat), e' = pt u32 [(2, (vp g12 0)), (3, (vp g19 0)), (10, (vs a1 x_p.Cands.length c2)), (11, (vi (x_p.Cands.length : Int))), (12, (vi ((kq : Nat) : Int)))] ∧ Ch (fun k => w0.heap.size ≤ k) w0 w' ∧ Ch (fun k => w2.heap.size ≤ k) w4 w' ∧ kq ≤ x_p.Cands.length ∧ (OLv LT_42 w' w4.heap.size w'.heap.size ab3_2x (x_p.Cands.take kq).length cb3_2x (x_p.Cands.take kq) ∧ (x_p.Cands.take kq).length ≤ 1073741824) ∧ Blk w' g19 47 [(vi x_p.At.Host), (vi x_p.At.Port), (.slice ab3_2x (x_p.Cands.take kq).length cb3_2x)]) (fun e' _ => x_p.Cands.length - ((intOf (e' 12))).toNat) ?_ ?_
 ·exact fun u => ⟨0, u, none, 0, rfl, m28, (Ch.refl (fun k => w2.heap.size ≤ k) w4), (by omega), (hE33 ▸ ⟨(OLv.nil w4 w4.heap.size w4.heap.size LT_42), (by simp)⟩), b26⟩
 ·rintro _ w5 ⟨kq, u32, ab3_2x, cb3_2x, rfl, m34, k35, i36, ⟨o37, s38⟩, hbx3⟩
  obtain ⟨y40, o41⟩ := OLv.ow o37
  refine sr ?_
  refine pu (vb (decide (((kq : Nat) : Int) < (x_p.Cands.length : Int)))) wN ?_
  refine wl_nil <| wq_then <| wc_seq ?_
  rcases bf (decide (((kq : Nat) : Int) < (x_p.Cands.length : Int))) with h42 | h42
  ·have q208 := of_decide_eq_false h42
   refine cf h42 ?_
   refine wc_exit <| wq_then_exit ?_
   obtain rfl : kq = x_p.Cands.length := by omega
   refine wq_then_exit <| wq_blk_exit <| wq_then <| sr ?_
   refine lN [(vi x_p.At.Host), (vi x_p.At.Port), (vs ab3_2x (x_p.Cands.take x_p.Cands.length).length cb3_2x)] wN isAgg_47 sizeOf_47 hbx3 ?_
   have b209 := (((b16.kp k22).ch k25 (Nat.ne_of_lt (Nat.lt_of_lt_of_le p14 (p20)))).ch k35 (Nat.not_le.2 (p14)))
   refine sv [(vi x_p.At.Host), (vi x_p.At.Port), (vs ab3_2x (x_p.Cands.take x_p.Cands.length).length cb3_2x)] wN sizeOf_47 b209 ?_
   intro w6 k210 b211 z212
   have m213 := m34.ext k210 (fun k hk => by subst hk; exact Nat.le_trans k9.size p13)
   refine n3 ?_
   have o214 := (OLv.ch o37 k210 (fun g h1 h2 hk => by have h3 := Nat.lt_of_lt_of_le p14 (z2 k22 k25); omega))
   refine ret_1 (.inl rfl) (va [(vi x_p.At.Host), (vi x_p.At.Port), (vs ab3_2x (x_p.Cands.take x_p.Cands.length).length cb3_2x)]) rfl (rv_c [(vi x_p.At.Host), (vi x_p.At.Port), (vs ab3_2x (x_p.Cands.take x_p.Cands.length).length cb3_2x)] rfl b211 isAgg_47 sizeOf_47) ?_
   refine ⟨m213.keep0, ?_⟩
   have hF215 : x_p.Cands.take x_p.Cands.length = x_p.Cands := List.take_length
   rw [hF215] at o214 ⊢
   exact ⟨_, _, rfl, (OLv.now (OLv.low o214 (z4 k9 k15 k22 k25))), (by omega), ⟨trivial, trivial⟩⟩
  have q43 := of_decide_eq_true h42
  refine ct h42 ?_
  refine wc_skip <| wq_then <| wc_seq <| wc_block <| sr ?_
  obtain ⟨y44, r45⟩ := RLv.row (r3.from0 m34)
  refine ix wN ((kq : Nat) : Int) slTy_45 r45 ?_
  obtain ⟨y46, l47, r48, e49, u50⟩ := RLv.el z_PCand (i := kq) r3 (by first | omega | (simp only [List.length_cons, List.length_nil, List.length_replicate, List.length_append, List.length_take, List.length_set, List.length_map]; omega))
  obtain ⟨a51, c52, l56, rfl, r53, s54, u57⟩ := SubR.c u50
  obtain rfl := SubR.n u57
  refine wl_loadEN [(vi (((x_p.Cands.getD kq z_PCand).A).Host)), (vi (((x_p.Cands.getD kq z_PCand).A).Port)), (vs a51 (x_p.Cands.getD kq z_PCand).Draw.length c52), (vi ((x_p.Cands.getD kq z_PCand).Until))] wN rfl rfl rfl rfl isAgg_42 sizeOf_42 (r48.from0 m34) (by first | omega | (simp only [List.length_cons, List.length_nil, List.length_replicate, List.length_append, List.length_take, List.length_set, List.length_map]; omega)) ((part_of (off := 0) (n := 4) e49 (by first | rfl | simp | omega) (by decide)).trans rfl) ?_
  refine al Z_42 wN zero_42 ?_
  intro g58 w6 p59 p60 k61 b62
  refine sv [(vi (((x_p.Cands.getD kq z_PCand).A).Host)), (vi (((x_p.Cands.getD kq z_PCand).A).Port)), (vs a51 (x_p.Cands.getD kq z_PCand).Draw.length c52), (vi ((x_p.Cands.getD kq z_PCand).Until))] wN sizeOf_42 b62 ?_
  intro w7 k64 b65 z66
  have m67 := (m34.extk k61).ext k64 (fun k hk => by subst hk; exact Nat.le_trans (z5 k9 k15 k22 k25 k35) p59)
  refine n2 ?_
  refine wc_drawT ([(16, [], [], (fun _ v _ => v = (vp g19 2))), (17, [], [0], (fun _ v _ => v = (vs ab3_2x (x_p.Cands.take kq).length cb3_2x))), (18, [], [], (fun _ v _ => v = (vp g58 0))), (19, [], [2], (fun _ v _ => v = (va (L_26 ((x_p.Cands.getD kq z_PCand).A))))), (20, [], [], (fun _ v _ => v = (vp g58 2))), (21, [], [4], (fun _ v _ => v = (vs a51 (x_p.Cands.getD kq z_PCand).Draw.length c52))), (22, [], [4, 5], (fun _ v w => ∃ (a1 : Option Addr) (c1 : Nat), v = .slice a1 (((x_p.Cands.getD kq z_PCand).Draw)).length c1 ∧ w.ownsRow (w7.heap.size) 5 1 (.slice a1 (((x_p.Cands.getD kq z_PCand).Draw)).length c1) (((x_p.Cands.getD kq z_PCand).Draw)).length ((((x_p.Cands.getD kq z_PCand).Draw)).map bV) ∧ (((x_p.Cands.getD kq z_PCand).Draw)).length ≤ 1073741824 ∧ Aps [(a1, c1)])), (23, [], [], (fun _ v _ => v = (vp g58 3))), (24, [], [7], (fun _ v _ => v = (vi ((x_p.Cands.getD kq z_PCand).Until)))), (25, [22], [2, 3, 4, 5, 6, 7, 8], (fun e v _ => v = (.agg #[(vi (((x_p.Cands.getD kq z_PCand).A).Host)), (vi (((x_p.Cands.getD kq z_PCand).A).Port)), (e 22), (vi ((x_p.Cands.getD kq z_PCand).Until))]))), (26, [22], [2, 3, 4, 5, 6, 7, 8, 9], (fun e v w => ∃ (a1 : Option Addr) (c1 : Nat), v = .slice a1 1 c1 ∧ w.ownsRow w7.heap.size 42 4 (.slice a1 1 c1) 1 [(vi (((x_p.Cands.getD kq z_PCand).A).Host)), (vi (((x_p.Cands.getD kq z_PCand).A).Port)), (e 22), (vi ((x_p.Cands.getD kq z_PCand).Until))]))] : GV) (fun _ w' => Keep w7 w') [] mixed rfl (by kernel_rfl) (by kernel_rfl) ?_ (fun _ _ h => h) (fun _ _ _ _ h _ k => h.trans k) trivial ?_ ?_ ?_
  ·exact ⟨hV, hE, ⟨hV, hE, ⟨hV, hE, ⟨hV, hE, ⟨hV, hE, ⟨hV, hE, ⟨(fun e v w w1 h hk => by obtain ⟨a0x, c0x, he, o0x, l0x, hap⟩ := h; exact ⟨a0x, c0x, he, own_kp o0x hk, l0x, hap⟩), hE, ⟨hV, hE, ⟨hV, hE, ⟨hV, (fun e1 e2 v w hx h => by have h22x := hx 22 (by simp); simp only [h22x] at h; exact h), ⟨(fun e v w w1 h hk => by obtain ⟨a0x, c0x, he, o0x⟩ := h; exact ⟨a0x, c0x, he, own_kp o0x hk⟩), (fun e1 e2 v w hx h => by have h22x := hx 22 (by simp); simp only [h22x] at h; exact h), trivial⟩⟩⟩⟩⟩⟩⟩⟩⟩⟩⟩
  ·exact trivial
  ·refine ⟨?_, ⟨?_, ⟨?_, ⟨?_, ⟨?_, ⟨?_, ⟨?_, ⟨?_, ⟨?_, ⟨?_, ⟨?_, trivial⟩⟩⟩⟩⟩⟩⟩⟩⟩⟩⟩
   ·intro _ w8 k115 _
    rintro _ _ _ _ _ _ _ _ _ _ _
    show WL _ _ _ _ _ _ _
    refine pu (vp g19 2) wN ?_
    exact f1
   ·intro _ w8 k117 _
    rintro _ rfl _ _ _ _ _ _ _ _ _ _
    show WL _ _ _ _ _ _ _
    have b119 := (((hbx3.kp k61).ch k64 (Nat.ne_of_lt (Nat.lt_of_lt_of_le p21 (Nat.le_trans (z2 k25 k35) p59)))).kp k117)
    refine ld (vs ab3_2x (x_p.Cands.take kq).length cb3_2x) wN isAgg_45 b119 ?_
    exact f1
   ·intro _ w8 k120 _
    rintro _ _ _ _ _ _ _ _ _ _ _
    show WL _ _ _ _ _ _ _
    refine pu (vp g58 0) wN ?_
    exact f1
   ·intro _ w8 k122 _
    rintro _ _ _ rfl _ _ _ _ _ _ _ _
    show WL _ _ _ _ _ _ _
    have b124 := (b65.kp k122)
    refine lN (L_26 ((x_p.Cands.getD kq z_PCand).A)) wN isAgg_26 sizeOf_26 b124 ?_
    exact f1
   ·intro _ w8 k125 _
    rintro _ _ _ _ _ _ _ _ _ _ _
    show WL _ _ _ _ _ _ _
    refine pu (vp g58 2) wN ?_
    exact f1
   ·intro _ w8 k127 _
    rintro _ _ _ _ _ rfl _ _ _ _ _ _
    show WL _ _ _ _ _ _ _
    have b129 := (b65.kp k127)
    refine ld (vs a51 (x_p.Cands.getD kq z_PCand).Draw.length c52) wN isAgg_22 b129 ?_
    exact f1
   ·intro _ w8 k130 _
    have m131 := m67.extk k130
    rintro _ _ _ _ _ rfl _ rfl _ _ _ _ _
    show WL _ _ _ _ _ _ _
    refine cl wN (C_impl_clone w8 _ ((x_p.Cands.getD kq z_PCand).Draw) (mR_22 (r53.from0 m131) s54)) ?_
    rintro _ w9 ⟨k133, ⟨a134, c135, rfl, o136, s137, ap139⟩⟩
    exact wl_finT k133 ⟨_, _, rfl, (own_lo o136 k130.size), s137, ap139⟩
   ·intro _ w8 k141 _
    rintro _ _ _ _ _ _ _ _ _ _ _
    show WL _ _ _ _ _ _ _
    refine pu (vp g58 3) wN ?_
    exact f1
   ·intro _ w8 k143 _
    rintro _ _ _ _ _ _ _ _ rfl _ _ _
    show WL _ _ _ _ _ _ _
    have b145 := (b65.kp k143)
    refine ld (vi ((x_p.Cands.getD kq z_PCand).Until)) wN isAgg_3 b145 ?_
    exact f1
   ·intro _ w8 k146 _
    rintro _ _ _ rfl _ rfl _ rfl _ rfl _ ⟨a150, c151, rfl, o152, s153, ap155⟩ _ rfl _ rfl _ _
    show WL _ _ _ _ _ _ _
    refine pu (va (L_42 (x_p.Cands.getD kq z_PCand) a150 c151)) wN ?_
    exact f1
   ·intro _ w8 k157 _
    rintro _ _ _ rfl _ rfl _ rfl _ rfl _ ⟨a161, c162, rfl, o163, s164, ap166⟩ _ rfl _ rfl _ rfl _
    show WL _ _ _ _ _ _ _
    refine wl_lit [(vi (((x_p.Cands.getD kq z_PCand).A).Host)), (vi (((x_p.Cands.getD kq z_PCand).A).Port)), (vs a161 (((x_p.Cands.getD kq z_PCand).Draw)).length c162), (vi ((x_p.Cands.getD kq z_PCand).Until))] wN rfl rfl slTy_45 (m := 1) rfl (by simp only [maxLen]; omega) (fun w => by kernel_rfl) ?_
    intro u168 w9 k169 o170
    obtain ⟨a171, c172, rfl⟩ := own_form o170
    exact wl_finT k169 ⟨_, _, rfl, own_lo o170 k157.size⟩
  ·intro _ w8 k175
   rintro _ rfl _ rfl _ rfl _ rfl _ rfl _ rfl _ ⟨a180, c181, rfl, o182, s183, ap185⟩ _ rfl _ rfl _ rfl _ ⟨a187, c188, rfl, o189⟩
   show WL _ _ _ _ _ _ _
   have o191 := (OLv.kp (OLv.ch (OLv.kp o37 k61) k64 (fun g h1 h2 hk => by have h3 := Nat.le_trans (Nat.le_refl w5.heap.size) p59; omega)) k175)
   refine wl_appL (L := LT_42) (xs := (x_p.Cands.take kq)) (el := (x_p.Cands.getD kq z_PCand)) (l := [(a180, c181)]) wN slTy_45 o191 (Rd.of_own o189) ⟨⟨(own_lo o182 (z2 k61 k64)), s183⟩, trivial⟩ ⟨trivial, trivial⟩ (Nat.le_refl _) k35.size (by first | omega | (simp only [List.length_take, List.length_append, List.length_cons, List.length_nil]; omega) | (refine Nat.le_trans (Nat.succ_le_succ (List.length_filter_le _ _)) ?_; simp only [List.length_take]; omega)) (z4 k35 k61 k64 k175) ?_
   intro a192 c193 w9 k194 o195
   have m196 := (m67.extk k175).ext k194 (fun k hk => Nat.le_trans (z4 k9 k15 k22 k25) (own_lt o41 k hk).1)
   obtain ⟨y199, o200⟩ := OLv.ow o195
   refine pu (vp g19 2) wN ?_
   have b201 := ((((hbx3.kp k61).ch k64 (Nat.ne_of_lt (Nat.lt_of_lt_of_le p21 (Nat.le_trans (z2 k25 k35) p59)))).kp k175).ch k194 (fun h => by have := (own_lt o41 _ h).1; have := Nat.lt_of_lt_of_le p21 k25.size; omega))
   refine st (vs a192 ((x_p.Cands.take kq) ++ [(x_p.Cands.getD kq z_PCand)]).length c193) [(vs a192 ((x_p.Cands.take kq) ++ [(x_p.Cands.getD kq z_PCand)]).length c193)] [(vi x_p.At.Host), (vi x_p.At.Port), (vs a192 ((x_p.Cands.take kq) ++ [(x_p.Cands.getD kq z_PCand)]).length c193)] wN sizeOf_45 b201 ?_
   intro w10 k202 b203 z204
   have m205 := m196.ext k202 (fun k hk => by subst hk; exact Nat.le_trans (z2 k9 k15) p20)
   refine wl_nil <| wq_blk_normal <| wq_then <| wc_region ?_
   refine ar (((kq : Nat) : Int) + 1) wN ?_
   refine mw (vi (((kq : Nat) : Int) + 1)) ?_
   refine wl_nil ?_
   have o206 := (OLv.ch o195 k202 (fun g h1 h2 hk => by have h3 := Nat.lt_of_lt_of_le p21 k25.size; omega))
   have hE207 : (((x_p.Cands.take kq) ++ [(x_p.Cands.getD kq z_PCand)]) : List (PCand)) = x_p.Cands.take (kq + 1) := by first | rfl | exact take_snoc (z := z_PCand) (by omega)
   refine wq_loopP (w0 := w5) [(2, (vp g12 0)), (3, (vp g19 0)), (10, (vs a1 x_p.Cands.length c2)), (11, (vi (x_p.Cands.length : Int))), (12, (vi (((kq + 1) : Nat) : Int)))] ?_ ?_ ?_
   · exact ⟨rfl, rfl, rfl, rfl, (congrArg (Value.int .i64) (show ((((kq : Nat) : Int) + 1) : Int) = (((kq + 1) : Nat) : Int) by omega)), trivial⟩
   · exact fun u => ⟨(kq + 1), u, a192, c193, rfl, m205, (((((((Ch.refl (fun k => w2.heap.size ≤ k) w4).ext k35 (fun k hk => hk)).extk k61).ext k64 (fun k hk => by subst hk; exact Nat.le_trans (z3 k22 k25 k35) p59)).extk k175).ext k194 (fun k hk => Nat.le_trans (z2 k22 k25) (own_lt o41 k hk).1)).ext k202 (fun k hk => by subst hk; exact p20)), (by omega), (hE207 ▸ ⟨(OLv.now o206), (OLv.small o195)⟩), (by have hb := b203; rw [hE207] at hb; exact hb)⟩
   · show x_p.Cands.length - ((((kq + 1) : Nat) : Int)).toNat < x_p.Cands.length - (((kq : Nat) : Int)).toNat; omega

def F_impl_CandOf (x_p : PPaths) (x_a : PAddr) : (PCand) × (Bool) := bif (iPa x_p) then (bif (decide ((candAt x_p x_a) < 0)) then (({ A := { Host := 0, Port := 0 : PAddr }, Draw := [], Until := 0 : PCand }, false)) else (((((x_p).Cands).getD ((candAt x_p x_a)).toNat z_PCand), true))) else (({ A := { Host := 0, Port := 0 : PAddr }, Draw := [], Until := 0 : PCand }, false))
theorem C_impl_CandOf (w0 : World) (v_x_p : Value) (x_p : PPaths) (r_x_p : R_47 w0 v_x_p x_p) (v_x_a : Value) (x_a : PAddr) (r_x_a : R_26 w0 v_x_a x_a)  : Fn Try.prog 22 #[v_x_p, v_x_a] w0 (fun v w' => Keep w0 w' ∧ O_42_4 w' w0.heap.size v (F_impl_CandOf x_p x_a)) := by
 obtain ⟨a1, c2, rfl, r3, s4⟩ := r_x_p
 obtain rfl := r_x_a
 refine fn_ofS (n := 24) [(va (L_47 x_p a1 c2)), (va (L_26 x_a))] Try.func22 rfl rfl ?_
 refine sr ?_
 refine bx (L_47 x_p a1 c2) wN ?_
 intro g6 w1 p7 p8 k9 b10
 refine bx (L_26 x_a) wN ?_
 intro g12 w2 p13 p14 k15 b16
 refine al Z_42 wN zero_42 ?_
 intro g18 w3 p19 p20 k21 b22
 have m23 := (((Ch.base w0).extk k9).extk k15).extk k21
 refine aw (vb false) ?_
 refine nx ?_
 have b24 := ((b10.kp k15).kp k21)
 refine lN (L_47 x_p a1 c2) wN isAgg_47 sizeOf_47 b24 ?_
 have b25 := (b16.kp k21)
 refine lN (L_26 x_a) wN isAgg_26 sizeOf_26 b25 ?_
 refine cl wN (C_impl_candAt w3 _ x_p (mR_47 (r3.from0 m23) s4) _ x_a (mR_26)) ?_
 rintro _ w4 ⟨k26, rfl⟩
 have m27 := m23.extk k26
 have q28 := candAt_range x_p x_a
 refine aw (vi (candAt x_p x_a)) ?_
 refine n4 ?_
 refine jT1 [(2, (vp g6 0)), (4, (vp g18 0)), (5, (vb false)), (6, (vi (candAt x_p x_a)))] (F_impl_CandOf x_p x_a = ({ A := { Host := 0, Port := 0 : PAddr }, Draw := [], Until := 0 : PCand }, false)) ?_ fun J29 => ?_
 ·intro hA30 w5 k32 u31
  refine sr ?_
  refine pu (va Z_42) wN ?_
  have b34 := ((b22.kp k26).kp k32)
  refine sv Z_42 wN sizeOf_42 b34 ?_
  intro w6 k35 b36 z37
  have m38 := (m27.extk k32).ext k35 (fun k hk => by subst hk; exact Nat.le_trans (z2 k9 k15) p19)
  refine aw (vb false) ?_
  refine n1 ?_
  refine ret_2 (.inl rfl) (va Z_42) (vb false) rfl (rv_c Z_42 rfl b36 isAgg_42 sizeOf_42) rfl ?_
  refine ⟨m38.keep0, ?_⟩
  rw [hA30]
  exact ⟨_, _, rfl, (by first | exact own_nil _ _ _ _ | exact OLv.nil _ _ _ _), (by simp), ⟨trivial, trivial⟩⟩
 have b40 := (b24.kp k26)
 refine lN (L_47 x_p a1 c2) wN isAgg_47 sizeOf_47 b40 ?_
 refine cl wN (C_impl_PathsOk w4 _ x_p (mR_47 (r3.from0 m27) s4)) ?_
 rintro _ w5 ⟨k41, rfl⟩
 have m42 := m27.extk k41
 refine pu (vb (!(iPa x_p))) wN ?_
 refine mw (vb (!(iPa x_p))) ?_
 rcases bf (iPa x_p) with h43 | h43
 ·iterate 2 refine sk (congrArg not h43) ?_
  refine pk (vb true) wN (congrArg not h43) ?_
  refine n2 ?_
  refine ct (Eq.refl true) ?_
  have hF83 : F_impl_CandOf x_p x_a = ({ A := { Host := 0, Port := 0 : PAddr }, Draw := [], Until := 0 : PCand }, false) := by simp only [F_impl_CandOf, h43, cond_true, cond_false]
  exact wj (J29 hF83 _ k41)
 have q44 := iPa_t h43
 refine mv (vi (candAt x_p x_a)) (wS (congrArg not h43)) ?_
 refine pu (vb (decide ((candAt x_p x_a) < 0))) (wS (congrArg not h43)) ?_
 refine pf (vb (decide ((candAt x_p x_a) < 0))) wN (congrArg not h43) ?_
 refine n2 ?_
 rcases bt (decide ((candAt x_p x_a) < 0)) with h45 | h45
 ·have q46 := of_decide_eq_true h45
  refine ct h45 ?_
  have hF47 : F_impl_CandOf x_p x_a = ({ A := { Host := 0, Port := 0 : PAddr }, Draw := [], Until := 0 : PCand }, false) := by simp only [F_impl_CandOf, h43, h45, cond_true, cond_false]
  exact wj (J29 hF47 _ k41)
 have q48 := of_decide_eq_false h45
 refine cf h45 ?_
 refine y1 ?_
 have b49 := (b40.kp k41)
 refine lN (L_47 x_p a1 c2) wN isAgg_47 sizeOf_47 b49 ?_
 refine cl wN (C_impl_copyPaths w5 _ x_p (mR_47 (r3.from0 m42) s4)) ?_
 rintro _ w6 ⟨k50, ⟨a51, c52, rfl, o53, s54, ap56⟩⟩
 obtain ⟨y58, o59⟩ := OLv.ow o53
 refine pu (vs a51 ((x_p).Cands).length c52) wN ?_
 refine mw (vi (candAt x_p x_a)) ?_
 obtain ⟨y60, r61⟩ := RLv.row (OLv.rl o53)
 refine ix wN (candAt x_p x_a) slTy_45 r61 ?_
 obtain ⟨y62, l63, r64, e65, u66⟩ := OLv.el z_PCand (i := ((candAt x_p x_a)).toNat) o53 (by first | omega | (simp only [List.length_cons, List.length_nil, List.length_replicate, List.length_append, List.length_take, List.length_set, List.length_map]; omega))
 obtain ⟨a67, c68, l72, rfl, r69, s70, u73⟩ := SubO.c u66
 obtain rfl := SubO.n u73
 refine wl_loadEN [(vi (((((x_p).Cands).getD ((candAt x_p x_a)).toNat z_PCand).A).Host)), (vi (((((x_p).Cands).getD ((candAt x_p x_a)).toNat z_PCand).A).Port)), (vs a67 (((x_p).Cands).getD ((candAt x_p x_a)).toNat z_PCand).Draw.length c68), (vi ((((x_p).Cands).getD ((candAt x_p x_a)).toNat z_PCand).Until))] wN rfl rfl rfl rfl isAgg_42 sizeOf_42 r64 (by first | omega | (simp only [List.length_cons, List.length_nil, List.length_replicate, List.length_append, List.length_take, List.length_set, List.length_map]; omega)) ((part_of (off := 0) (n := 4) e65 (by first | rfl | simp | omega) (by decide)).trans rfl) ?_
 have b74 := (((b22.kp k26).kp k41).kp k50)
 refine sv [(vi (((((x_p).Cands).getD ((candAt x_p x_a)).toNat z_PCand).A).Host)), (vi (((((x_p).Cands).getD ((candAt x_p x_a)).toNat z_PCand).A).Port)), (vs a67 (((x_p).Cands).getD ((candAt x_p x_a)).toNat z_PCand).Draw.length c68), (vi ((((x_p).Cands).getD ((candAt x_p x_a)).toNat z_PCand).Until))] wN sizeOf_42 b74 ?_
 intro w7 k75 b76 z77
 have m78 := (m42.extk k50).ext k75 (fun k hk => by subst hk; exact Nat.le_trans (z2 k9 k15) p19)
 refine aw (vb true) ?_
 refine n3 ?_
 have o79 := (own_ch r69 k75 (ne1 r69 (Nat.lt_of_lt_of_le p20 (z2 k26 k41))))
 refine ret_2 (.inl rfl) (va [(vi (((((x_p).Cands).getD ((candAt x_p x_a)).toNat z_PCand).A).Host)), (vi (((((x_p).Cands).getD ((candAt x_p x_a)).toNat z_PCand).A).Port)), (vs a67 (((x_p).Cands).getD ((candAt x_p x_a)).toNat z_PCand).Draw.length c68), (vi ((((x_p).Cands).getD ((candAt x_p x_a)).toNat z_PCand).Until))]) (vb true) rfl (rv_c [(vi (((((x_p).Cands).getD ((candAt x_p x_a)).toNat z_PCand).A).Host)), (vi (((((x_p).Cands).getD ((candAt x_p x_a)).toNat z_PCand).A).Port)), (vs a67 (((x_p).Cands).getD ((candAt x_p x_a)).toNat z_PCand).Draw.length c68), (vi ((((x_p).Cands).getD ((candAt x_p x_a)).toNat z_PCand).Until))] rfl b76 isAgg_42 sizeOf_42) rfl ?_
 refine ⟨m78.keep0, ?_⟩
 simp only [F_impl_CandOf, h43, h45, cond_true, cond_false]
 have hN81 : (((x_p).Cands).getD ((candAt x_p x_a)).toNat z_PCand).Draw.length = ((((x_p).Cands).getD ((candAt x_p x_a)).toNat z_PCand).Draw).length := by first | (simp only [List.length_append, List.length_take, List.length_replicate, List.length_set, List.length_map]; done) | (simp only [List.length_append, List.length_take, List.length_replicate, List.length_set, List.length_map]; omega)
 rw [hN81] at o79 ⊢
 exact ⟨_, _, rfl, (own_lo o79 (z5 k9 k15 k21 k26 k41)), (by rw [← hN81]; exact s70), ⟨trivial, trivial⟩⟩

def F_laws_eqAddr (x_a : PAddr) (x_b : PAddr) : (Bool) := bif (decide (x_a.Host = x_b.Host)) then (bif (decide (x_a.Port = x_b.Port)) then (true) else (false)) else (false)
theorem C_laws_eqAddr (w0 : World) (v_x_a : Value) (x_a : PAddr) (r_x_a : R_26 w0 v_x_a x_a) (v_x_b : Value) (x_b : PAddr) (r_x_b : R_26 w0 v_x_b x_b)  : Fn Try.prog 82 #[v_x_a, v_x_b] w0 (fun v w' => Keep w0 w' ∧ O_4 w' w0.heap.size v (F_laws_eqAddr x_a x_b)) := by
 obtain rfl := r_x_a
 obtain rfl := r_x_b
 refine fn_ofS (n := 15) [(va (L_26 x_a)), (va (L_26 x_b))] Try.func82 rfl rfl ?_
 refine sr ?_
 refine bx (L_26 x_a) wN ?_
 intro g1 w1 p2 p3 k4 b5
 refine bx (L_26 x_b) wN ?_
 intro g7 w2 p8 p9 k10 b11
 have m12 := ((Ch.base w0).extk k4).extk k10
 refine aw (vb false) ?_
 refine n4 ?_
 refine pu (vp g1 0) wN ?_
 have b13 := (b5.kp k10)
 refine ld (vi x_a.Host) wN isAgg_3 b13 ?_
 refine pu (vp g7 0) wN ?_
 refine ld (vi x_b.Host) wN isAgg_3 b11 ?_
 refine pu (vb (!(decide (x_a.Host = x_b.Host)))) wN ?_
 refine n2 ?_
 rcases bf (decide (x_a.Host = x_b.Host)) with h14 | h14
 ·have q21 := of_decide_eq_false h14
  refine ct (congrArg not h14) ?_
  refine sr ?_
  refine aw (vb false) ?_
  refine n1 ?_
  refine rt (vb false) ?_
  refine ⟨m12.keep0, ?_⟩
  simp only [F_laws_eqAddr, h14, cond_true, cond_false]
  exact rfl
 have q15 := of_decide_eq_true h14
 refine cf (congrArg not h14) ?_
 refine y2 ?_
 refine pu (vp g1 1) wN ?_
 refine ld (vi x_a.Port) wN isAgg_3 b13 ?_
 refine pu (vp g7 1) wN ?_
 refine ld (vi x_b.Port) wN isAgg_3 b11 ?_
 refine pu (vb (!(decide (x_a.Port = x_b.Port)))) wN ?_
 refine n2 ?_
 rcases bf (decide (x_a.Port = x_b.Port)) with h16 | h16
 ·have q19 := of_decide_eq_false h16
  refine ct (congrArg not h16) ?_
  refine sr ?_
  refine aw (vb false) ?_
  refine n1 ?_
  refine rt (vb false) ?_
  refine ⟨m12.keep0, ?_⟩
  simp only [F_laws_eqAddr, h14, h16, cond_true, cond_false]
  exact rfl
 have q17 := of_decide_eq_true h16
 refine cf (congrArg not h16) ?_
 refine y1 ?_
 refine aw (vb true) ?_
 refine n3 ?_
 refine rt (vb true) ?_
 refine ⟨m12.keep0, ?_⟩
 simp only [F_laws_eqAddr, h14, h16, cond_true, cond_false]
 exact rfl

theorem C_laws_eqByteS (w0 : World) (v_x_a : Value) (x_a : List UInt8) (r_x_a : R_22 w0 v_x_a x_a) (v_x_b : Value) (x_b : List UInt8) (r_x_b : R_22 w0 v_x_b x_b)  : Fn Try.prog 83 #[v_x_a, v_x_b] w0 (fun v w' => Keep w0 w' ∧ O_4 w' w0.heap.size v (eqB x_a x_b)) := by
 obtain ⟨a1, c2, rfl, r3, s4⟩ := r_x_a
 obtain ⟨a6, c7, rfl, r8, s9⟩ := r_x_b
 refine fn_ofS (n := 26) [(vs a1 x_a.length c2), (vs a6 x_b.length c7)] Try.func83 rfl rfl ?_
 refine sr ?_
 refine aw (vb false) ?_
 refine n4 ?_
 refine mw (vs a1 x_a.length c2) ?_
 refine ln wN slTy_22 r3 ?_
 refine mw (vs a6 x_b.length c7) ?_
 refine ln wN slTy_22 r8 ?_
 refine pu (vb (!(decide ((x_a.length : Int) = (x_b.length : Int))))) wN ?_
 refine n2 ?_
 rcases bf (decide ((x_a.length : Int) = (x_b.length : Int))) with h11 | h11
 ·have q44 := of_decide_eq_false h11
  refine ct (congrArg not h11) ?_
  refine sr ?_
  refine aw (vb false) ?_
  refine n1 ?_
  refine rt (vb false) ?_
  refine ⟨Ch.refl _ _, ?_⟩
  have hF45 : eqB x_a x_b = false := by first | exact eqB_len (by assumption) | exact eqB_el (by assumption) | exact eqB_all (by assumption) (by omega) (by omega)
  rw [hF45]
  exact rfl
 have q12 := of_decide_eq_true h11
 refine cf (congrArg not h11) ?_
 refine y2 ?_
 refine aw (vi 0) ?_
 refine wl_nil <| wq_then <| wc_block ?_
 refine wc_loopP [(0, (vs a1 x_a.length c2)), (1, (vs a6 x_b.length c7)), (5, (vi ((0 : Nat) : Int)))] ⟨rfl, rfl, (congrArg (Value.int .i64) (show (0 : Int) = ((0 : Nat) : Int) by omega)), trivial⟩ (fun e' w' => ∃ (k : Nat) (u13 : Env), e' = pt u13 [(0, (vs a1 x_a.length c2)), (1, (vs a6 x_b.length c7)), (5, (vi ((k : Nat) : Int)))] ∧ Ch (fun k => w0.heap.size ≤ k) w0 w' ∧ Ch (fun k => w0.heap.size ≤ k) w0 w' ∧ k ≤ x_a.length ∧ x_a.take k = x_b.take k) (fun e' _ => x_a.length - ((intOf (e' 5))).toNat) ?_ ?_
 ·exact fun u => ⟨0, u, rfl, (Ch.base w0), (Ch.refl (fun k => w0.heap.size ≤ k) w0), (by omega), (by first | rfl | exact eqB_next (by assumption) (by omega) (by omega) (by assumption))⟩
 ·rintro _ w1 ⟨k, u13, rfl, m14, k15, i16, i17⟩
  refine wc_seq <| sr ?_
  refine mw (vi ((k : Nat) : Int)) ?_
  refine mw (vs a1 x_a.length c2) ?_
  refine ln wN slTy_22 (r3.from0 m14) ?_
  refine pu (vb (decide (((k : Nat) : Int) < (x_a.length : Int)))) wN ?_
  refine n2 ?_
  rcases bf (decide (((k : Nat) : Int) < (x_a.length : Int))) with h18 | h18
  ·have q42 := of_decide_eq_false h18
   refine cf h18 ?_
   refine wc_exit <| wq_then_exit <| wq_then_exit <| wq_blk_exit <| wq_then <| sr ?_
   refine aw (vb true) ?_
   refine n3 ?_
   refine rt (vb true) ?_
   refine ⟨m14.keep0, ?_⟩
   have hF43 : eqB x_a x_b = true := by first | exact eqB_len (by assumption) | exact eqB_el (by assumption) | exact eqB_all (by assumption) (by omega) (by omega)
   rw [hF43]
   exact rfl
  have q19 := of_decide_eq_true h18
  refine ct h18 ?_
  refine wc_skip <| wq_then <| wc_seq <| wc_block <| wc_seq ?_
  refine wc_drawT ([(17, [], [], (fun _ v _ => v = (vs a1 x_a.length c2))), (18, [], [], (fun _ v _ => v = (vi ((k : Nat) : Int)))), (19, [], [0, 1], (fun _ v _ => v = (ve (vs a1 x_a.length c2) ((((k : Nat) : Int)).toNat * 1)))), (20, [], [0, 1, 2], (fun _ v _ => v = (v8 ((x_a.getD k 0).toNat : Int)))), (21, [], [], (fun _ v _ => v = (vs a6 x_b.length c7))), (22, [], [], (fun _ v _ => v = (vi ((k : Nat) : Int)))), (23, [], [4, 5], (fun _ v _ => v = (ve (vs a6 x_b.length c7) ((((k : Nat) : Int)).toNat * 1)))), (24, [], [4, 5, 6], (fun _ v _ => v = (v8 ((x_b.getD k 0).toNat : Int))))] : GV) (fun _ w' => Keep w1 w') [] mixed rfl (by kernel_rfl) (by kernel_rfl) ?_ (fun _ _ h => h) (fun _ _ _ _ h _ k => h.trans k) trivial ?_ ?_ ?_
  ·exact ⟨hV, hE, ⟨hV, hE, ⟨hV, hE, ⟨hV, hE, ⟨hV, hE, ⟨hV, hE, ⟨hV, hE, ⟨hV, hE, trivial⟩⟩⟩⟩⟩⟩⟩⟩
  ·exact trivial
  ·refine ⟨?_, ⟨?_, ⟨?_, ⟨?_, ⟨?_, ⟨?_, ⟨?_, ⟨?_, trivial⟩⟩⟩⟩⟩⟩⟩⟩
   ·intro _ w2 k20 _
    rintro _ _ _ _ _ _ _ _
    show WL _ _ _ _ _ _ _
    refine mw (vs a1 x_a.length c2) ?_
    exact f1
   ·intro _ w2 k22 _
    rintro _ _ _ _ _ _ _ _
    show WL _ _ _ _ _ _ _
    refine mw (vi ((k : Nat) : Int)) ?_
    exact f1
   ·intro _ w2 k24 _
    have m25 := m14.extk k24
    rintro _ rfl _ rfl _ _ _ _ _ _
    show WL _ _ _ _ _ _ _
    refine ix wN ((k : Nat) : Int) slTy_22 (r3.from0 m25) ?_
    exact f1
   ·intro _ w2 k26 _
    have m27 := m14.extk k26
    rintro _ rfl _ rfl _ rfl _ _ _ _ _
    show WL _ _ _ _ _ _ _
    refine eb (x := x_a) k wN isAgg_5 (r3.from0 m27) ?_
    exact f1
   ·intro _ w2 k28 _
    rintro _ _ _ _ _ _ _ _
    show WL _ _ _ _ _ _ _
    refine mw (vs a6 x_b.length c7) ?_
    exact f1
   ·intro _ w2 k30 _
    rintro _ _ _ _ _ _ _ _
    show WL _ _ _ _ _ _ _
    refine mw (vi ((k : Nat) : Int)) ?_
    exact f1
   ·intro _ w2 k32 _
    have m33 := m14.extk k32
    rintro _ _ _ _ _ rfl _ rfl _ _
    show WL _ _ _ _ _ _ _
    refine ix wN ((k : Nat) : Int) slTy_22 (r8.from0 m33) ?_
    exact f1
   ·intro _ w2 k34 _
    have m35 := m14.extk k34
    rintro _ _ _ _ _ rfl _ rfl _ rfl _
    show WL _ _ _ _ _ _ _
    refine eb (x := x_b) k wN isAgg_5 (r8.from0 m35) ?_
    exact f1
  ·intro _ w2 k36
   have m37 := m14.extk k36
   rintro _ rfl _ rfl _ rfl _ rfl _ rfl _ rfl _ rfl _ rfl
   show WL _ _ _ _ _ _ _
   refine pu (vb (!(decide (((x_a.getD k 0).toNat : Int) = ((x_b.getD k 0).toNat : Int))))) wN ?_
   refine n2 ?_
   rcases bf (decide (((x_a.getD k 0).toNat : Int) = ((x_b.getD k 0).toNat : Int))) with h38 | h38
   ·have q40 := of_decide_eq_false h38
    refine ct (congrArg not h38) ?_
    refine sr ?_
    refine aw (vb false) ?_
    refine wl_nil <| wq_then <| wc_ret <| wq_blk_ret <| wq_then_ret <| wq_then_ret <| wq_blk_ret <| wq_then_ret ?_
    refine rt (vb false) ?_
    refine ⟨m37.keep0, ?_⟩
    have hF41 : eqB x_a x_b = false := by first | exact eqB_len (by assumption) | exact eqB_el (by assumption) | exact eqB_all (by assumption) (by omega) (by omega)
    rw [hF41]
    exact rfl
   have q39 := of_decide_eq_true h38
   refine cf (congrArg not h38) ?_
   refine wc_skip <| wq_blk_normal <| wq_then <| wc_region ?_
   refine mw (vi ((k : Nat) : Int)) ?_
   refine ar (((k : Nat) : Int) + 1) wN ?_
   refine aw (vi (((k : Nat) : Int) + 1)) ?_
   refine wl_nil ?_
   refine wq_loopP (w0 := w1) [(0, (vs a1 x_a.length c2)), (1, (vs a6 x_b.length c7)), (5, (vi (((k + 1) : Nat) : Int)))] ?_ ?_ ?_
   · exact ⟨rfl, rfl, (congrArg (Value.int .i64) (show ((((k : Nat) : Int) + 1) : Int) = (((k + 1) : Nat) : Int) by omega)), trivial⟩
   · exact fun u => ⟨(k + 1), u, rfl, m37, (((Ch.refl (fun k => w0.heap.size ≤ k) w0).ext k15 (fun k hk => hk)).extk k36), (by omega), (by first | rfl | exact eqB_next (by assumption) (by omega) (by omega) (by assumption))⟩
   · show x_a.length - ((((k + 1) : Nat) : Int)).toNat < x_a.length - (((k : Nat) : Int)).toNat; omega

def F_laws_eqCand (x_a : PCand) (x_b : PCand) : (Bool) := bif (F_laws_eqAddr x_a.A x_b.A) then (bif (eqB x_a.Draw x_b.Draw) then (bif (decide (x_a.Until = x_b.Until)) then (true) else (false)) else (false)) else (false)
theorem C_laws_eqCand (w0 : World) (v_x_a : Value) (x_a : PCand) (r_x_a : R_42 w0 v_x_a x_a) (v_x_b : Value) (x_b : PCand) (r_x_b : R_42 w0 v_x_b x_b)  : Fn Try.prog 23 #[v_x_a, v_x_b] w0 (fun v w' => Keep w0 w' ∧ O_4 w' w0.heap.size v (F_laws_eqCand x_a x_b)) := by
 obtain ⟨a1, c2, rfl, r3, s4⟩ := r_x_a
 obtain ⟨a6, c7, rfl, r8, s9⟩ := r_x_b
 refine fn_ofS (n := 22) [(va (L_42 x_a a1 c2)), (va (L_42 x_b a6 c7))] Try.func23 rfl rfl ?_
 refine sr ?_
 refine bx (L_42 x_a a1 c2) wN ?_
 intro g11 w1 p12 p13 k14 b15
 refine bx (L_42 x_b a6 c7) wN ?_
 intro g17 w2 p18 p19 k20 b21
 refine aw (vb false) ?_
 refine n4 ?_
 refine pu (vp g11 0) wN ?_
 have b23 := (b15.kp k20)
 refine lN (L_26 x_a.A) wN isAgg_26 sizeOf_26 b23 ?_
 refine pu (vp g17 0) wN ?_
 refine lN (L_26 x_b.A) wN isAgg_26 sizeOf_26 b21 ?_
 refine cl wN (C_laws_eqAddr w2 _ x_a.A (mR_26) _ x_b.A (mR_26)) ?_
 rintro _ w3 ⟨k24, rfl⟩
 have m25 := (((Ch.base w0).extk k14).extk k20).extk k24
 refine pu (vb (!(F_laws_eqAddr x_a.A x_b.A))) wN ?_
 refine n2 ?_
 rcases bf (F_laws_eqAddr x_a.A x_b.A) with h26 | h26
 ·refine ct (congrArg not h26) ?_
  refine sr ?_
  refine aw (vb false) ?_
  refine n1 ?_
  refine rt (vb false) ?_
  refine ⟨m25.keep0, ?_⟩
  simp only [F_laws_eqCand, h26, cond_true, cond_false]
  exact rfl
 refine cf (congrArg not h26) ?_
 refine y2 ?_
 refine pu (vp g11 2) wN ?_
 have b28 := (b23.kp k24)
 refine ld (vs a1 x_a.Draw.length c2) wN isAgg_22 b28 ?_
 refine pu (vp g17 2) wN ?_
 have b29 := (b21.kp k24)
 refine ld (vs a6 x_b.Draw.length c7) wN isAgg_22 b29 ?_
 refine cl wN (C_laws_eqByteS w3 _ x_a.Draw (mR_22 (r3.from0 m25) s4) _ x_b.Draw (mR_22 (r8.from0 m25) s9)) ?_
 rintro _ w4 ⟨k30, rfl⟩
 have m31 := m25.extk k30
 refine pu (vb (!(eqB x_a.Draw x_b.Draw))) wN ?_
 refine n2 ?_
 rcases bf (eqB x_a.Draw x_b.Draw) with h32 | h32
 ·refine ct (congrArg not h32) ?_
  refine sr ?_
  refine aw (vb false) ?_
  refine n1 ?_
  refine rt (vb false) ?_
  refine ⟨m31.keep0, ?_⟩
  simp only [F_laws_eqCand, h26, h32, cond_true, cond_false]
  exact rfl
 refine cf (congrArg not h32) ?_
 refine y2 ?_
 refine pu (vp g11 3) wN ?_
 have b34 := (b28.kp k30)
 refine ld (vi x_a.Until) wN isAgg_3 b34 ?_
 refine pu (vp g17 3) wN ?_
 have b35 := (b29.kp k30)
 refine ld (vi x_b.Until) wN isAgg_3 b35 ?_
 refine pu (vb (!(decide (x_a.Until = x_b.Until)))) wN ?_
 refine n2 ?_
 rcases bf (decide (x_a.Until = x_b.Until)) with h36 | h36
 ·have q39 := of_decide_eq_false h36
  refine ct (congrArg not h36) ?_
  refine sr ?_
  refine aw (vb false) ?_
  refine n1 ?_
  refine rt (vb false) ?_
  refine ⟨m31.keep0, ?_⟩
  simp only [F_laws_eqCand, h26, h32, h36, cond_true, cond_false]
  exact rfl
 have q37 := of_decide_eq_true h36
 refine cf (congrArg not h36) ?_
 refine y1 ?_
 refine aw (vb true) ?_
 refine n3 ?_
 refine rt (vb true) ?_
 refine ⟨m31.keep0, ?_⟩
 simp only [F_laws_eqCand, h26, h32, h36, cond_true, cond_false]
 exact rfl

def R_45 (w : World) (v : Value) (x : (List PCand)) : Prop := ∃ (a1 : Option Addr) (c1 : Nat), v = .slice a1 x.length c1 ∧ RLv LT_42 w 1073741824 a1 x.length c1 x ∧ x.length ≤ 1073741824
theorem eq_iff_PCand (a b : PCand) : F_laws_eqCand a b = decide (a = b) := by
  obtain ⟨⟨a00, a01⟩, a1, a2⟩ := a
  obtain ⟨⟨b00, b01⟩, b1, b2⟩ := b
  simp only [cond_eq_ite, eqB, F_laws_eqCand, F_laws_eqAddr, PCand.mk.injEq, PAddr.mk.injEq]
  grind
def eqF_PCand (a b : List PCand) : Bool := decide (a = b)
theorem C_laws_eqCandS (w0 : World) (v_x_a : Value) (x_a : List PCand) (r_x_a : R_45 w0 v_x_a x_a) (v_x_b : Value) (x_b : List PCand) (r_x_b : R_45 w0 v_x_b x_b)  : Fn Try.prog 84 #[v_x_a, v_x_b] w0 (fun v w' => Keep w0 w' ∧ O_4 w' w0.heap.size v (eqF_PCand x_a x_b)) := by
 obtain ⟨a1, c2, rfl, r3, s4⟩ := r_x_a
 obtain ⟨a6, c7, rfl, r8, s9⟩ := r_x_b
 refine fn_ofS (n := 27) [(vs a1 x_a.length c2), (vs a6 x_b.length c7)] Try.func84 rfl rfl ?_
 refine sr ?_
 refine aw (vb false) ?_
 refine n4 ?_
 refine mw (vs a1 x_a.length c2) ?_
 obtain ⟨y11, r12⟩ := RLv.row r3
 refine ln wN slTy_45 r12 ?_
 refine mw (vs a6 x_b.length c7) ?_
 obtain ⟨y13, r14⟩ := RLv.row r8
 refine ln wN slTy_45 r14 ?_
 refine pu (vb (!(decide ((x_a.length : Int) = (x_b.length : Int))))) wN ?_
 refine n2 ?_
 rcases bf (decide ((x_a.length : Int) = (x_b.length : Int))) with h15 | h15
 ·have q122 := of_decide_eq_false h15
  refine ct (congrArg not h15) ?_
  refine sr ?_
  refine aw (vb false) ?_
  refine n1 ?_
  refine rt (vb false) ?_
  refine ⟨Ch.refl _ _, ?_⟩
  have hF123 : eqF_PCand x_a x_b = false := by first | exact eqL_len (by assumption) | exact eqL_el (z := z_PCand) (fun h => by have hq := ‹F_laws_eqCand (x_a.getD k z_PCand) (x_b.getD k z_PCand) = false›; rw [eq_iff_PCand, h] at hq; simp at hq) | exact eqL_all (by assumption) (by omega) (by omega)
  rw [hF123]
  exact rfl
 have q16 := of_decide_eq_true h15
 refine cf (congrArg not h15) ?_
 refine y2 ?_
 refine aw (vi 0) ?_
 refine wl_nil <| wq_then <| wc_block ?_
 refine wc_loopP [(0, (vs a1 x_a.length c2)), (1, (vs a6 x_b.length c7)), (5, (vi ((0 : Nat) : Int)))] ⟨rfl, rfl, (congrArg (Value.int .i64) (show (0 : Int) = ((0 : Nat) : Int) by omega)), trivial⟩ (fun e' w' => ∃ (k : Nat) (u17 : Env), e' = pt u17 [(0, (vs a1 x_a.length c2)), (1, (vs a6 x_b.length c7)), (5, (vi ((k : Nat) : Int)))] ∧ Ch (fun k => w0.heap.size ≤ k) w0 w' ∧ Ch (fun k => w0.heap.size ≤ k) w0 w' ∧ k ≤ x_a.length ∧ x_a.take k = x_b.take k) (fun e' _ => x_a.length - ((intOf (e' 5))).toNat) ?_ ?_
 ·exact fun u => ⟨0, u, rfl, (Ch.base w0), (Ch.refl (fun k => w0.heap.size ≤ k) w0), (by omega), (by first | rfl | exact eqL_next (z := z_PCand) (by assumption) (by omega) (by omega) (by have := eq_iff_PCand; simp_all))⟩
 ·rintro _ w1 ⟨k, u17, rfl, m18, k19, i20, i21⟩
  refine wc_seq <| sr ?_
  refine mw (vi ((k : Nat) : Int)) ?_
  refine mw (vs a1 x_a.length c2) ?_
  obtain ⟨y22, r23⟩ := RLv.row (r3.from0 m18)
  refine ln wN slTy_45 r23 ?_
  refine pu (vb (decide (((k : Nat) : Int) < (x_a.length : Int)))) wN ?_
  refine n2 ?_
  rcases bf (decide (((k : Nat) : Int) < (x_a.length : Int))) with h24 | h24
  ·have q120 := of_decide_eq_false h24
   refine cf h24 ?_
   refine wc_exit <| wq_then_exit <| wq_then_exit <| wq_blk_exit <| wq_then <| sr ?_
   refine aw (vb true) ?_
   refine n3 ?_
   refine rt (vb true) ?_
   refine ⟨m18.keep0, ?_⟩
   have hF121 : eqF_PCand x_a x_b = true := by first | exact eqL_len (by assumption) | exact eqL_el (z := z_PCand) (fun h => by have hq := ‹F_laws_eqCand (x_a.getD k z_PCand) (x_b.getD k z_PCand) = false›; rw [eq_iff_PCand, h] at hq; simp at hq) | exact eqL_all (by assumption) (by omega) (by omega)
   rw [hF121]
   exact rfl
  have q25 := of_decide_eq_true h24
  refine ct h24 ?_
  refine wc_skip <| wq_then <| wc_seq <| wc_block <| wc_seq ?_
  obtain ⟨y56, l57, r58, e59, u60⟩ := RLv.el z_PCand (i := k) r3 (by first | omega | (simp only [List.length_cons, List.length_nil, List.length_replicate, List.length_append, List.length_take, List.length_set, List.length_map]; omega))
  obtain ⟨a61, c62, l66, rfl, r63, s64, u67⟩ := SubR.c u60
  obtain rfl := SubR.n u67
  obtain ⟨y68, l69, r70, e71, u72⟩ := RLv.el z_PCand (i := k) r8 (by first | omega | (simp only [List.length_cons, List.length_nil, List.length_replicate, List.length_append, List.length_take, List.length_set, List.length_map]; omega))
  obtain ⟨a73, c74, l78, rfl, r75, s76, u79⟩ := SubR.c u72
  obtain rfl := SubR.n u79
  refine wc_drawT ([(17, [], [], (fun _ v _ => v = (vs a1 x_a.length c2))), (18, [], [], (fun _ v _ => v = (vi ((k : Nat) : Int)))), (19, [], [0, 1], (fun _ v _ => v = (ve (vs a1 x_a.length c2) ((((k : Nat) : Int)).toNat * 4)))), (20, [], [0, 1, 2], (fun _ v _ => v = (va [(vi (((x_a.getD k z_PCand).A).Host)), (vi (((x_a.getD k z_PCand).A).Port)), (vs a61 (x_a.getD k z_PCand).Draw.length c62), (vi ((x_a.getD k z_PCand).Until))]))), (21, [], [], (fun _ v _ => v = (vs a6 x_b.length c7))), (22, [], [], (fun _ v _ => v = (vi ((k : Nat) : Int)))), (23, [], [4, 5], (fun _ v _ => v = (ve (vs a6 x_b.length c7) ((((k : Nat) : Int)).toNat * 4)))), (24, [], [4, 5, 6], (fun _ v _ => v = (va [(vi (((x_b.getD k z_PCand).A).Host)), (vi (((x_b.getD k z_PCand).A).Port)), (vs a73 (x_b.getD k z_PCand).Draw.length c74), (vi ((x_b.getD k z_PCand).Until))])))] : GV) (fun _ w' => Keep w1 w') [] mixed rfl (by kernel_rfl) (by kernel_rfl) ?_ (fun _ _ h => h) (fun _ _ _ _ h _ k => h.trans k) trivial ?_ ?_ ?_
  ·exact ⟨hV, hE, ⟨hV, hE, ⟨hV, hE, ⟨hV, hE, ⟨hV, hE, ⟨hV, hE, ⟨hV, hE, ⟨hV, hE, trivial⟩⟩⟩⟩⟩⟩⟩⟩
  ·exact trivial
  ·refine ⟨?_, ⟨?_, ⟨?_, ⟨?_, ⟨?_, ⟨?_, ⟨?_, ⟨?_, trivial⟩⟩⟩⟩⟩⟩⟩⟩
   ·intro _ w2 k84 _
    rintro _ _ _ _ _ _ _ _
    show WL _ _ _ _ _ _ _
    refine mw (vs a1 x_a.length c2) ?_
    exact f1
   ·intro _ w2 k86 _
    rintro _ _ _ _ _ _ _ _
    show WL _ _ _ _ _ _ _
    refine mw (vi ((k : Nat) : Int)) ?_
    exact f1
   ·intro _ w2 k88 _
    have m89 := m18.extk k88
    rintro _ rfl _ rfl _ _ _ _ _ _
    show WL _ _ _ _ _ _ _
    obtain ⟨y90, r91⟩ := RLv.row (r3.from0 m89)
    refine ix wN ((k : Nat) : Int) slTy_45 r91 ?_
    exact f1
   ·intro _ w2 k92 _
    have m93 := m18.extk k92
    rintro _ rfl _ rfl _ rfl _ _ _ _ _
    show WL _ _ _ _ _ _ _
    refine wl_loadEN [(vi (((x_a.getD k z_PCand).A).Host)), (vi (((x_a.getD k z_PCand).A).Port)), (vs a61 (x_a.getD k z_PCand).Draw.length c62), (vi ((x_a.getD k z_PCand).Until))] wN rfl rfl rfl rfl isAgg_42 sizeOf_42 (r58.from0 m93) (by first | omega | (simp only [List.length_cons, List.length_nil, List.length_replicate, List.length_append, List.length_take, List.length_set, List.length_map]; omega)) ((part_of (off := 0) (n := 4) e59 (by first | rfl | simp | omega) (by decide)).trans rfl) ?_
    exact f1
   ·intro _ w2 k96 _
    rintro _ _ _ _ _ _ _ _
    show WL _ _ _ _ _ _ _
    refine mw (vs a6 x_b.length c7) ?_
    exact f1
   ·intro _ w2 k98 _
    rintro _ _ _ _ _ _ _ _
    show WL _ _ _ _ _ _ _
    refine mw (vi ((k : Nat) : Int)) ?_
    exact f1
   ·intro _ w2 k100 _
    have m101 := m18.extk k100
    rintro _ _ _ _ _ rfl _ rfl _ _
    show WL _ _ _ _ _ _ _
    obtain ⟨y102, r103⟩ := RLv.row (r8.from0 m101)
    refine ix wN ((k : Nat) : Int) slTy_45 r103 ?_
    exact f1
   ·intro _ w2 k104 _
    have m105 := m18.extk k104
    rintro _ _ _ _ _ rfl _ rfl _ rfl _
    show WL _ _ _ _ _ _ _
    refine wl_loadEN [(vi (((x_b.getD k z_PCand).A).Host)), (vi (((x_b.getD k z_PCand).A).Port)), (vs a73 (x_b.getD k z_PCand).Draw.length c74), (vi ((x_b.getD k z_PCand).Until))] wN rfl rfl rfl rfl isAgg_42 sizeOf_42 (r70.from0 m105) (by first | omega | (simp only [List.length_cons, List.length_nil, List.length_replicate, List.length_append, List.length_take, List.length_set, List.length_map]; omega)) ((part_of (off := 0) (n := 4) e71 (by first | rfl | simp | omega) (by decide)).trans rfl) ?_
    exact f1
  ·intro _ w2 k108
   have m109 := m18.extk k108
   rintro _ rfl _ rfl _ rfl _ rfl _ rfl _ rfl _ rfl _ rfl
   show WL _ _ _ _ _ _ _
   refine cl wN (C_laws_eqCand w2 _ (x_a.getD k z_PCand) (mR_42 (r63.from0 m109) s64) _ (x_b.getD k z_PCand) (mR_42 (r75.from0 m109) s76)) ?_
   rintro _ w3 ⟨k114, rfl⟩
   have m115 := m109.extk k114
   refine pu (vb (!(F_laws_eqCand (x_a.getD k z_PCand) (x_b.getD k z_PCand)))) wN ?_
   refine n2 ?_
   rcases bf (F_laws_eqCand (x_a.getD k z_PCand) (x_b.getD k z_PCand)) with h116 | h116
   ·refine ct (congrArg not h116) ?_
    refine sr ?_
    refine aw (vb false) ?_
    refine wl_nil <| wq_then <| wc_ret <| wq_blk_ret <| wq_then_ret <| wq_then_ret <| wq_blk_ret <| wq_then_ret ?_
    refine rt (vb false) ?_
    refine ⟨m115.keep0, ?_⟩
    have hF119 : eqF_PCand x_a x_b = false := by first | exact eqL_len (by assumption) | exact eqL_el (z := z_PCand) (fun h => by have hq := ‹F_laws_eqCand (x_a.getD k z_PCand) (x_b.getD k z_PCand) = false›; rw [eq_iff_PCand, h] at hq; simp at hq) | exact eqL_all (by assumption) (by omega) (by omega)
    rw [hF119]
    exact rfl
   refine cf (congrArg not h116) ?_
   refine wc_skip <| wq_blk_normal <| wq_then <| wc_region ?_
   refine mw (vi ((k : Nat) : Int)) ?_
   refine ar (((k : Nat) : Int) + 1) wN ?_
   refine aw (vi (((k : Nat) : Int) + 1)) ?_
   refine wl_nil ?_
   refine wq_loopP (w0 := w1) [(0, (vs a1 x_a.length c2)), (1, (vs a6 x_b.length c7)), (5, (vi (((k + 1) : Nat) : Int)))] ?_ ?_ ?_
   · exact ⟨rfl, rfl, (congrArg (Value.int .i64) (show ((((k : Nat) : Int) + 1) : Int) = (((k + 1) : Nat) : Int) by omega)), trivial⟩
   · exact fun u => ⟨(k + 1), u, rfl, m115, ((((Ch.refl (fun k => w0.heap.size ≤ k) w0).ext k19 (fun k hk => hk)).extk k108).extk k114), (by omega), (by first | rfl | exact eqL_next (z := z_PCand) (by assumption) (by omega) (by omega) (by have := eq_iff_PCand; simp_all))⟩
   · show x_a.length - ((((k + 1) : Nat) : Int)).toNat < x_a.length - (((k : Nat) : Int)).toNat; omega

theorem mR_45 {w : World} {x : List PCand} {a1 : Option Addr} {c1 : Nat} (h1 : RLv LT_42 w 1073741824 a1 x.length c1 x) (l1 : x.length ≤ 1073741824) : R_45 w (vs a1 x.length c1) x := ⟨_, _, rfl, h1, l1⟩
def F_laws_eqPaths (x_a : PPaths) (x_b : PPaths) : (Bool) := bif (F_laws_eqAddr x_a.At x_b.At) then (bif (eqF_PCand x_a.Cands x_b.Cands) then (true) else (false)) else (false)
theorem C_laws_eqPaths (w0 : World) (v_x_a : Value) (x_a : PPaths) (r_x_a : R_47 w0 v_x_a x_a) (v_x_b : Value) (x_b : PPaths) (r_x_b : R_47 w0 v_x_b x_b)  : Fn Try.prog 24 #[v_x_a, v_x_b] w0 (fun v w' => Keep w0 w' ∧ O_4 w' w0.heap.size v (F_laws_eqPaths x_a x_b)) := by
 obtain ⟨a1, c2, rfl, r3, s4⟩ := r_x_a
 obtain ⟨a6, c7, rfl, r8, s9⟩ := r_x_b
 refine fn_ofS (n := 17) [(va (L_47 x_a a1 c2)), (va (L_47 x_b a6 c7))] Try.func24 rfl rfl ?_
 refine sr ?_
 refine bx (L_47 x_a a1 c2) wN ?_
 intro g11 w1 p12 p13 k14 b15
 refine bx (L_47 x_b a6 c7) wN ?_
 intro g17 w2 p18 p19 k20 b21
 refine aw (vb false) ?_
 refine n4 ?_
 refine pu (vp g11 0) wN ?_
 have b23 := (b15.kp k20)
 refine lN (L_26 x_a.At) wN isAgg_26 sizeOf_26 b23 ?_
 refine pu (vp g17 0) wN ?_
 refine lN (L_26 x_b.At) wN isAgg_26 sizeOf_26 b21 ?_
 refine cl wN (C_laws_eqAddr w2 _ x_a.At (mR_26) _ x_b.At (mR_26)) ?_
 rintro _ w3 ⟨k24, rfl⟩
 have m25 := (((Ch.base w0).extk k14).extk k20).extk k24
 refine pu (vb (!(F_laws_eqAddr x_a.At x_b.At))) wN ?_
 refine n2 ?_
 rcases bf (F_laws_eqAddr x_a.At x_b.At) with h26 | h26
 ·refine ct (congrArg not h26) ?_
  refine sr ?_
  refine aw (vb false) ?_
  refine n1 ?_
  refine rt (vb false) ?_
  refine ⟨m25.keep0, ?_⟩
  simp only [F_laws_eqPaths, h26, cond_true, cond_false]
  exact rfl
 refine cf (congrArg not h26) ?_
 refine y2 ?_
 refine pu (vp g11 2) wN ?_
 have b28 := (b23.kp k24)
 refine ld (vs a1 x_a.Cands.length c2) wN isAgg_45 b28 ?_
 refine pu (vp g17 2) wN ?_
 have b29 := (b21.kp k24)
 refine ld (vs a6 x_b.Cands.length c7) wN isAgg_45 b29 ?_
 refine cl wN (C_laws_eqCandS w3 _ x_a.Cands (mR_45 (r3.from0 m25) s4) _ x_b.Cands (mR_45 (r8.from0 m25) s9)) ?_
 rintro _ w4 ⟨k30, rfl⟩
 have m31 := m25.extk k30
 refine pu (vb (!(eqF_PCand x_a.Cands x_b.Cands))) wN ?_
 refine n2 ?_
 rcases bf (eqF_PCand x_a.Cands x_b.Cands) with h32 | h32
 ·refine ct (congrArg not h32) ?_
  refine sr ?_
  refine aw (vb false) ?_
  refine n1 ?_
  refine rt (vb false) ?_
  refine ⟨m31.keep0, ?_⟩
  simp only [F_laws_eqPaths, h26, h32, cond_true, cond_false]
  exact rfl
 refine cf (congrArg not h32) ?_
 refine y1 ?_
 refine aw (vb true) ?_
 refine n3 ?_
 refine rt (vb true) ?_
 refine ⟨m31.keep0, ?_⟩
 simp only [F_laws_eqPaths, h26, h32, cond_true, cond_false]
 exact rfl

theorem C_laws_markByteS_own (w0 : World) (a : Option Addr) (c : Nat) (x : List UInt8) (lo : Nat) (k : Int) (h0 : 0 ≤ k) (h1 : k ≤ 9000000000000000000) (hs : x.length ≤ 1073741824) (r : w0.ownsRow lo 5 1 (.slice a x.length c) x.length (x.map bV)) :
    Fn Try.prog 86 #[(.slice a x.length c), .int .i64 k] w0 (fun v w' => v = .int .i64 (k + x.length) ∧ Ch (fun b => (Value.slice a x.length c).ownBlock = some b) w0 w' ∧ w'.ownsRow lo 5 1 (.slice a x.length c) x.length ((marksB k x.length).map bV)) := by
 refine fn_of (n := 20) (l := [(.slice a x.length c), (.int .i64 k), undef, undef, undef, undef, undef, undef, undef, undef, undef, undef, undef, undef, undef, undef, undef, undef, undef, undef]) Try.func86 rfl rfl (by kernel_rfl) rfl ?_
 refine sr ?_
 refine aw (vi 0) ?_
 refine n4 ?_
 refine aw (vi 0) ?_
 refine wl_nil <| wq_then <| wc_block ?_
 refine wc_norm [(vs a x.length c), (vi k), U, U, (vi 0), (vi 0), U, U, U, U, U, U, U, U, U, U, U, U, U, U] rfl ⟨rfl, rfl, rfl, rfl, rfl, rfl, rfl, rfl, rfl, rfl, rfl, rfl, rfl, rfl, rfl, rfl, rfl, rfl, rfl, rfl, trivial⟩ ?_
 refine wc_loop (fun e' w' => ∃ (i : Nat) (u6x u7x u8x u9x u10x u11x u12x u13x u14x u15x u16x u17x u18x : Value), e' = lst [(vs a x.length c), (vi (k + ((i : Nat) : Int))), U, U, (vi 0), (vi ((i : Nat) : Int)), u6x, u7x, u8x, u9x, u10x, u11x, u12x, u13x, u14x, u15x, u16x, u17x, u18x, U] ∧ i ≤ x.length ∧ Ch (fun b => (Value.slice a x.length c).ownBlock = some b) w0 w' ∧ w'.ownsRow lo 5 1 (.slice a x.length c) x.length ((marksB k i ++ x.drop i).map bV)) (fun e' _ => x.length - (intOf (e' 5)).toNat) ?_ ?_
 ·exact ⟨0, U, U, U, U, U, U, U, U, U, U, U, U, U, congrArg (fun (p : Value) => lst [(vs a x.length c), p, U, U, (vi 0), (vi 0), U, U, U, U, U, U, U, U, U, U, U, U, U, U]) (congrArg (Value.int .i64) (show k = k + ((0 : Nat) : Int) by omega)), Nat.zero_le _, Ch.refl _ _, by simpa [marksB] using r⟩
 ·rintro _ w1 ⟨i, u6x, u7x, u8x, u9x, u10x, u11x, u12x, u13x, u14x, u15x, u16x, u17x, u18x, rfl, hi, hc, ho⟩
  refine wc_seq <| sr ?_
  refine mw (vi ((i : Nat) : Int)) ?_
  refine mw (vs a x.length c) ?_
  refine ln wN slTy_22 (Rd.of_own ho) ?_
  refine pu (vb (decide (((i : Nat) : Int) < (x.length : Int)))) wN ?_
  refine n2 ?_
  rcases bf (decide (((i : Nat) : Int) < (x.length : Int))) with h101 | h101
  ·have q105 := of_decide_eq_false h101
   refine cf h101 ?_
   refine wc_exit <| wq_then_exit <| wq_then_exit <| wq_blk_exit <| wq_then <| sr ?_
   refine mw (vi (k + ((i : Nat) : Int))) ?_
   refine aw (vi (k + ((i : Nat) : Int))) ?_
   refine n3 ?_
   have hI : i = x.length := by omega
   subst hI
   refine ret_1 (.inl rfl) (vi (k + ((x.length : Nat) : Int))) rfl rfl ⟨rfl, hc, ?_⟩
   simpa using ho
  have q102 := of_decide_eq_true h101
  refine ct h101 ?_
  refine wc_skip <| wq_then <| wc_seq <| wc_block <| sr ?_
  refine mw (vs a x.length c) ?_
  refine mw (vi ((i : Nat) : Int)) ?_
  refine mw (vi (k + ((i : Nat) : Int))) ?_
  refine wl_conv8 (k + ((i : Nat) : Int)) wN rfl rfl (by kernel_rfl) ?_
  refine ix wN ((i : Nat) : Int) slTy_22 (Rd.of_own ho) ?_
  refine wl_storeB ((marksB k i ++ x.drop i)) i ((by8 (k + ((i : Nat) : Int)))) wN rfl rfl rfl (by simp) rfl sizeOf_5 ho (by simp only [List.length_append, List.length_drop, marksB_len]; omega) ?_
  intro w2 k103 o104
  refine wl_nil <| wq_then <| wc_region ?_
  refine mw (vi (k + ((i : Nat) : Int))) ?_
  refine ar ((k + ((i : Nat) : Int)) + 1) wN ?_
  refine aw (vi ((k + ((i : Nat) : Int)) + 1)) ?_
  refine wl_nil <| wq_blk_normal <| wq_then <| wc_region ?_
  refine mw (vi ((i : Nat) : Int)) ?_
  refine ar (((i : Nat) : Int) + 1) wN ?_
  refine aw (vi (((i : Nat) : Int) + 1)) ?_
  refine wl_nil ?_
  have hE : (((marksB k i ++ x.drop i)).set i ((by8 (k + ((i : Nat) : Int))))) = marksB k (i + 1) ++ x.drop (i + 1) := by
   rw [List.set_append_right _ _ (by rw [marksB_len]; omega), marksB_len, Nat.sub_self, List.drop_eq_getElem_cons (by omega), List.set_cons_zero, marksB_snoc]
   simp
  rw [hE] at o104
  exact wq_loopN (w0 := w1) [(vs a x.length c), (vi (k + ((i + 1 : Nat) : Int))), U, U, (vi 0), (vi ((i + 1 : Nat) : Int)), (vi ((i : Nat) : Int)), (vs a x.length c), (vi (x.length : Int)), (vb (decide (((i : Nat) : Int) < (x.length : Int)))), (vi ((i : Nat) : Int)), (vi (((i : Nat) : Int) + 1)), (vs a x.length c), (vi ((i : Nat) : Int)), (vi (k + ((i : Nat) : Int))), (v8 ((by8 (k + ((i : Nat) : Int))).toNat : Int)), (ve (vs a x.length c) ((((i : Nat) : Int)).toNat * 1)), (vi (k + ((i : Nat) : Int))), (vi ((k + ((i : Nat) : Int)) + 1)), U] rfl ⟨rfl, (congrArg (Value.int .i64) (show (((k + ((i : Nat) : Int)) + 1) : Int) = (k + ((i + 1 : Nat) : Int)) by omega)), rfl, rfl, rfl, (congrArg (Value.int .i64) (show ((((i : Nat) : Int) + 1) : Int) = ((i + 1 : Nat) : Int) by omega)), rfl, rfl, rfl, rfl, rfl, rfl, rfl, rfl, rfl, rfl, rfl, rfl, rfl, rfl, trivial⟩ ⟨i + 1, (vi ((i : Nat) : Int)), (vs a x.length c), (vi (x.length : Int)), (vb (decide (((i : Nat) : Int) < (x.length : Int)))), (vi ((i : Nat) : Int)), (vi (((i : Nat) : Int) + 1)), (vs a x.length c), (vi ((i : Nat) : Int)), (vi (k + ((i : Nat) : Int))), (v8 ((by8 (k + ((i : Nat) : Int))).toNat : Int)), (ve (vs a x.length c) ((((i : Nat) : Int)).toNat * 1)), (vi (k + ((i : Nat) : Int))), (vi ((k + ((i : Nat) : Int)) + 1)), rfl, by omega, hc.comp k103 (fun _ _ h => h), o104⟩ (by show x.length - (((i + 1 : Nat) : Int)).toNat < x.length - (((i : Nat) : Int)).toNat; omega)
theorem C_laws_markByteS_nil (w0 : World) (a : Option Addr) (c : Nat) (k : Int) (r : Rd w0 1 (.slice a 0 c) 0 []) :
    Fn Try.prog 86 #[.slice a 0 c, .int .i64 k] w0 (fun v w' => v = .int .i64 k ∧ w' = w0) := by
 have hz : decide ((0 : Int) < ((0 : Nat) : Int)) = false := by decide
 refine fn_of (n := 20) (l := [(.slice a 0 c), (.int .i64 k), undef, undef, undef, undef, undef, undef, undef, undef, undef, undef, undef, undef, undef, undef, undef, undef, undef, undef]) Try.func86 rfl rfl (by kernel_rfl) rfl ?_
 refine sr ?_
 refine aw (vi 0) ?_
 refine n4 ?_
 refine aw (vi 0) ?_
 refine wl_nil <| wq_then <| wc_block ?_
 refine wc_norm [(vs a 0 c), (vi k), U, U, (vi 0), (vi 0), U, U, U, U, U, U, U, U, U, U, U, U, U, U] rfl ⟨rfl, rfl, rfl, rfl, rfl, rfl, rfl, rfl, rfl, rfl, rfl, rfl, rfl, rfl, rfl, rfl, rfl, rfl, rfl, rfl, trivial⟩ ?_
 refine wc_loop (fun e' w' => e' = lst [(vs a 0 c), (vi k), U, U, (vi 0), (vi 0), U, U, U, U, U, U, U, U, U, U, U, U, U, U] ∧ w' = w0) (fun _ _ => 0) ⟨rfl, rfl⟩ ?_
 rintro _ _ ⟨rfl, rfl⟩
 refine wc_seq <| sr ?_
 refine mw (vi 0) ?_
 refine mw (vs a 0 c) ?_
 refine ln wN slTy_22 r ?_
 refine pu (vb (decide (0 < ((0 : Nat) : Int)))) wN ?_
 refine n2 ?_
 refine cf hz ?_
 refine wc_exit <| wq_then_exit <| wq_then_exit <| wq_blk_exit <| wq_then <| sr ?_
 refine mw (vi k) ?_
 refine aw (vi k) ?_
 refine n3 ?_
 exact ret_1 (.inl rfl) (vi k) rfl rfl ⟨rfl, rfl⟩
theorem C_laws_markByteS (w0 : World) (a : Option Addr) (c : Nat) (x : List UInt8) (k : Int) (h0 : 0 ≤ k) (h1 : k ≤ 9000000000000000000) (hs : x.length ≤ 1073741824) (r : Rd w0 1 (.slice a x.length c) x.length (x.map bV)) (hw : Wp w0 5 a x.length c (x.map bV)) :
    Fn Try.prog 86 #[.slice a x.length c, .int .i64 k] w0 (fun v w' => v = .int .i64 (k + x.length) ∧ Ch (MS [(a, x.length)]) w0 w' ∧ Rd w' 1 (.slice a x.length c) x.length ((marksB k x.length).map bV)) := by
  rcases Nat.eq_zero_or_pos x.length with hz | hz
  · obtain rfl : x = [] := List.eq_nil_of_length_eq_zero hz
    refine (C_laws_markByteS_nil w0 a c k r).mono ?_
    rintro _ _ ⟨rfl, rfl⟩
    exact ⟨by simp, Ch.refl _ _, r⟩
  · rcases hw with hw | ⟨lo, hw⟩
    · omega
    · refine (C_laws_markByteS_own w0 a c x lo k h0 h1 hs hw).mono ?_
      rintro _ w' ⟨rfl, hc, ho⟩
      refine ⟨rfl, hc.mono fun b _ hb => ?_, Rd.of_own ho⟩
      rcases a with _ | ad
      · cases hb
      · exact .inl ⟨hz, ad, rfl, by simpa [Value.ownBlock] using hb⟩
theorem C_laws_markByteS_w (w0 : World) (a : Option Addr) (c : Nat) (x : List UInt8) (k : Int) (h0 : 0 ≤ k) (h1 : k ≤ 9000000000000000000) (h : W1 w0 5 (a, c) x) :
    Fn Try.prog 86 #[.slice a x.length c, .int .i64 k] w0 (fun v w' => v = .int .i64 (k + x.length) ∧ Ch (MS [(a, x.length)]) w0 w' ∧ W1 w' 5 (a, c) (marksB k x.length)) := by
  rcases Nat.eq_zero_or_pos x.length with hz | hz
  · obtain rfl : x = [] := List.eq_nil_of_length_eq_zero hz
    refine (C_laws_markByteS_nil w0 a c k h.2.1).mono ?_
    rintro _ _ ⟨rfl, rfl⟩
    exact ⟨by simp, Ch.refl _ _, h⟩
  · rcases h.1 with hw | ⟨lo, hw⟩
    · omega
    · refine (C_laws_markByteS_own w0 a c x lo k h0 h1 h.2.2 hw).mono ?_
      rintro _ w' ⟨rfl, hc, ho⟩
      have hl : (marksB k x.length).length = x.length := marksB_len _ _
      refine ⟨rfl, hc.mono fun b _ hb => ?_, .inr ⟨lo, by rw [hl]; exact ho⟩, by rw [hl]; exact Rd.of_own ho, by rw [hl]; exact h.2.2⟩
      rcases a with _ | ad
      · cases hb
      · exact .inl ⟨hz, ad, rfl, by simpa [Value.ownBlock] using hb⟩

theorem fieldAt_26_0 : ∀ a w, (Instr.fieldAt 26 (.pointer (some a)) 0).run Try.prog w = .ok (.pointer (some (a.add 0))) w := fun a w => by kernel_rfl
theorem fieldAt_26_1 : ∀ a w, (Instr.fieldAt 26 (.pointer (some a)) 1).run Try.prog w = .ok (.pointer (some (a.add 1))) w := fun a w => by kernel_rfl
theorem fieldAt_42_1 : ∀ a w, (Instr.fieldAt 42 (.pointer (some a)) 1).run Try.prog w = .ok (.pointer (some (a.add 2))) w := fun a w => by kernel_rfl
theorem fieldAt_42_2 : ∀ a w, (Instr.fieldAt 42 (.pointer (some a)) 2).run Try.prog w = .ok (.pointer (some (a.add 3))) w := fun a w => by kernel_rfl
def mkE_PCand (a : PCand) (k : Int) : PCand := { A := { Host := k, Port := ((k + 1)) : PAddr }, Draw := (marksB ((k + 1) + 1) a.Draw.length), Until := ((((k + 1) + 1) + (a.Draw.length : Int))) : PCand }
def wt_PCand (a : PCand) : Int := ((((0 + 1) + 1) + (a.Draw.length : Int)) + 1)
theorem C_laws_markCandS (w0 : World) (a : Option Addr) (c : Nat) (x : List PCand) (lo hi : Nat) (k : Int) (h0 : 0 ≤ k) (h1 : k ≤ 4000000000000000000) (r : OLv LT_42 w0 lo hi a x.length c x) :
    Fn Try.prog 85 #[vs a x.length c, vi k] w0 (fun v w' => v = vi (k + totL wt_PCand x) ∧ Ch (RowS LT_42 w0 lo hi) w0 w' ∧ RLk LT_42 w' lo hi a x.length c (marksE mkE_PCand wt_PCand x k)) := by
 obtain ⟨y, hy, hn, hl, hC, hI⟩ := OLv.mark (mk := mkE_PCand) (wt := wt_PCand) (k := k) r
 have hwb : ∀ i, i ≤ x.length → 0 ≤ totL wt_PCand ((y.take i).map Prod.fst) ∧ totL wt_PCand ((y.take i).map Prod.fst) ≤ 1073741827 * (i : Int) := fun i hi => by rw [List.map_take, hy]; exact OLv.wb r (by intro x; simp only [wt_PCand]; omega) (by intro x hx; simp only [LT_42, List.mem_cons, List.not_mem_nil, or_false, forall_eq_or_imp, forall_eq] at hx; simp only [wt_PCand]; omega) i hi
 have hy0 : y.length = x.length := hC.len
 refine fn_of (n := 43) (l := [(vs a x.length c), (vi k), U, U, U, U, U, U, U, U, U, U, U, U, U, U, U, U, U, U, U, U, U, U, U, U, U, U, U, U, U, U, U, U, U, U, U, U, U, U, U, U, U]) Try.func85 rfl rfl (by kernel_rfl) rfl ?_
 refine sr ?_
 refine aw (vi 0) ?_
 refine n4 ?_
 refine aw (vi 0) ?_
 refine wl_nil <| wq_then <| wc_block ?_
 refine wc_norm [(vs a x.length c), (vi k), U, U, (vi 0), (vi 0), U, U, U, U, U, U, U, U, U, U, U, U, U, U, U, U, U, U, U, U, U, U, U, U, U, U, U, U, U, U, U, U, U, U, U, U, U] rfl ⟨rfl, rfl, rfl, rfl, rfl, rfl, rfl, rfl, rfl, rfl, rfl, rfl, rfl, rfl, rfl, rfl, rfl, rfl, rfl, rfl, rfl, rfl, rfl, rfl, rfl, rfl, rfl, rfl, rfl, rfl, rfl, rfl, rfl, rfl, rfl, rfl, rfl, rfl, rfl, rfl, rfl, rfl, rfl, trivial⟩ ?_
 refine wc_loop (fun e' w' => ∃ (i : Nat) (u0 : Nat → Value), e' = lst [(vs a x.length c), (vi (k + totL wt_PCand ((y.take i).map Prod.fst))), U, U, (vi 0), (vi ((i : Nat) : Int)), (u0 0), (u0 1), (u0 2), (u0 3), (u0 4), (u0 5), (u0 6), (u0 7), (u0 8), (u0 9), (u0 10), (u0 11), (u0 12), (u0 13), (u0 14), (u0 15), (u0 16), (u0 17), (u0 18), (u0 19), (u0 20), (u0 21), (u0 22), (u0 23), (u0 24), (u0 25), (u0 26), (u0 27), (u0 28), (u0 29), (u0 30), (u0 31), (u0 32), (u0 33), (u0 34), (u0 35), U] ∧ i ≤ x.length ∧ MkI LT_42 mkE_PCand wt_PCand w0 lo hi a x.length c y k i w') (fun e' _ => x.length - (intOf (e' 5)).toNat) ?_ ?_
 ·exact ⟨0, unL [U, U, U, U, U, U, U, U, U, U, U, U, U, U, U, U, U, U, U, U, U, U, U, U, U, U, U, U, U, U, U, U, U, U, U, U], congrArg (fun (p : Value) => lst [(vs a x.length c), p, U, U, (vi 0), (vi 0), U, U, U, U, U, U, U, U, U, U, U, U, U, U, U, U, U, U, U, U, U, U, U, U, U, U, U, U, U, U, U, U, U, U, U, U, U]) (congrArg (Value.int .i64) (show k = k + totL wt_PCand ((y.take 0).map Prod.fst) by simp [totL])), Nat.zero_le _, hI⟩
 ·rintro _ w1 ⟨i, u0, rfl, hi, hI1⟩
  have hb0 := hwb i hi
  refine wc_seq <| sr ?_
  refine mw (vi ((i : Nat) : Int)) ?_
  refine mw (vs a x.length c) ?_
  refine ln wN slTy_45 (Rd.of_own hI1.row) ?_
  refine pu (vb (decide (((i : Nat) : Int) < (x.length : Int)))) wN ?_
  refine n2 ?_
  rcases bf (decide (((i : Nat) : Int) < (x.length : Int))) with h101 | h101
  ·have q138 := of_decide_eq_false h101
   refine cf h101 ?_
   refine wc_exit <| wq_then_exit <| wq_then_exit <| wq_blk_exit <| wq_then <| sr ?_
   refine mw (vi (k + totL wt_PCand ((y.take i).map Prod.fst))) ?_
   refine aw (vi (k + totL wt_PCand ((y.take i).map Prod.fst))) ?_
   refine n3 ?_
   obtain rfl : i = x.length := by omega
   have hz : (y.take x.length).map Prod.fst = x := by rw [List.map_take, hy, List.take_length]
   refine ret_1 (.inl rfl) (vi (k + totL wt_PCand ((y.take x.length).map Prod.fst))) rfl rfl ⟨by rw [hz], hI1.ch, hI1.doneK hC hy rfl hl⟩
  have q102 := of_decide_eq_true h101
  refine ct h101 ?_
  refine wc_skip <| wq_then <| wc_seq <| wc_block <| sr ?_
  refine mw (vs a x.length c) ?_
  refine mw (vi ((i : Nat) : Int)) ?_
  refine mw (vi (k + totL wt_PCand ((y.take i).map Prod.fst))) ?_
  obtain ⟨e, l, hex, x103, s104, t105, p106, q107, d108⟩ := MkI.open z_PCand hI1 hC (by omega)
  rw [hy] at hex
  subst hex
  obtain ⟨a109, c110, l111, rfl, w112, s113⟩ := SubW.c s104
  have b114 := w112.2.2
  obtain rfl := SubW.nn s113
  refine ix wN ((i : Nat) : Int) slTy_45 (Rd.of_own hI1.row) ?_
  refine wl_fieldE wN rfl rfl rfl fieldAt_42_0 rfl (Rd.of_own hI1.row) (by omega) ?_
  refine wl_fieldE wN rfl rfl rfl fieldAt_26_0 rfl (Rd.of_own hI1.row) (by omega) ?_
  refine wl_storeF LT_42.len (markY mkE_PCand wt_PCand (y.take i) k ++ y.drop i) i 0 (z_PCand, []) ({ A := { Host := (k + totL wt_PCand ((y.take i).map Prod.fst)), Port := (((x.getD i z_PCand).A).Port) : PAddr }, Draw := ((x.getD i z_PCand).Draw), Until := ((x.getD i z_PCand).Until) : PCand }, [(a109, c110)]) (vi (k + totL wt_PCand ((y.take i).map Prod.fst))) [(vi (k + totL wt_PCand ((y.take i).map Prod.fst)))] wN rfl rfl rfl (by first | rfl | simp | omega) rfl rfl (one_all rfl) sizeOf_3 hI1.row (by simp only [List.length_append, markY_len, List.length_take, List.length_drop, List.length_set]; omega) (Nat.le_of_ble_eq_true rfl) (Nat.succ_pos 0) (by rw [x103]; rfl) ?_
  intro w2 k115 o116
  have x117 : ((markY mkE_PCand wt_PCand (y.take i) k ++ y.drop i).set i ({ A := { Host := (k + totL wt_PCand ((y.take i).map Prod.fst)), Port := (((x.getD i z_PCand).A).Port) : PAddr }, Draw := ((x.getD i z_PCand).Draw), Until := ((x.getD i z_PCand).Until) : PCand }, [(a109, c110)])).getD i (z_PCand, []) = ({ A := { Host := (k + totL wt_PCand ((y.take i).map Prod.fst)), Port := (((x.getD i z_PCand).A).Port) : PAddr }, Draw := ((x.getD i z_PCand).Draw), Until := ((x.getD i z_PCand).Until) : PCand }, [(a109, c110)]) := getD_set_self (by simp only [List.length_append, markY_len, List.length_take, List.length_drop, List.length_set]; omega)
  have w118 := W1.row w112 hI1.row LT_42.ne k115
  have t119 := Rst.row t105 hI1.row k115
  have h120 := ch_row (lo' := 0) (sz := 0) (m := 0) (xs := []) hI1.ch k115 hC
  refine nx ?_
  refine mw (vi (k + totL wt_PCand ((y.take i).map Prod.fst))) ?_
  refine ar ((k + totL wt_PCand ((y.take i).map Prod.fst)) + 1) wN ?_
  refine aw (vi ((k + totL wt_PCand ((y.take i).map Prod.fst)) + 1)) ?_
  refine nx ?_
  refine mw (vs a x.length c) ?_
  refine mw (vi ((i : Nat) : Int)) ?_
  refine mw (vi ((k + totL wt_PCand ((y.take i).map Prod.fst)) + 1)) ?_
  refine ix wN ((i : Nat) : Int) slTy_45 (Rd.of_own o116) ?_
  refine wl_fieldE wN rfl rfl rfl fieldAt_42_0 rfl (Rd.of_own o116) (by omega) ?_
  refine wl_fieldE wN rfl rfl rfl fieldAt_26_1 rfl (Rd.of_own o116) (by omega) ?_
  refine wl_storeF LT_42.len ((markY mkE_PCand wt_PCand (y.take i) k ++ y.drop i).set i ({ A := { Host := (k + totL wt_PCand ((y.take i).map Prod.fst)), Port := (((x.getD i z_PCand).A).Port) : PAddr }, Draw := ((x.getD i z_PCand).Draw), Until := ((x.getD i z_PCand).Until) : PCand }, [(a109, c110)])) i 1 (z_PCand, []) ({ A := { Host := (k + totL wt_PCand ((y.take i).map Prod.fst)), Port := ((k + totL wt_PCand ((y.take i).map Prod.fst)) + 1) : PAddr }, Draw := ((x.getD i z_PCand).Draw), Until := ((x.getD i z_PCand).Until) : PCand }, [(a109, c110)]) (vi ((k + totL wt_PCand ((y.take i).map Prod.fst)) + 1)) [(vi ((k + totL wt_PCand ((y.take i).map Prod.fst)) + 1))] wN rfl rfl rfl (by first | rfl | simp | omega) rfl rfl (one_all rfl) sizeOf_3 o116 (by simp only [List.length_append, markY_len, List.length_take, List.length_drop, List.length_set]; omega) (Nat.le_of_ble_eq_true rfl) (Nat.succ_pos 0) (by rw [x117]; rfl) ?_
  intro w3 k121 o122
  rw [List.set_set] at o122
  have x123 : ((markY mkE_PCand wt_PCand (y.take i) k ++ y.drop i).set i ({ A := { Host := (k + totL wt_PCand ((y.take i).map Prod.fst)), Port := ((k + totL wt_PCand ((y.take i).map Prod.fst)) + 1) : PAddr }, Draw := ((x.getD i z_PCand).Draw), Until := ((x.getD i z_PCand).Until) : PCand }, [(a109, c110)])).getD i (z_PCand, []) = ({ A := { Host := (k + totL wt_PCand ((y.take i).map Prod.fst)), Port := ((k + totL wt_PCand ((y.take i).map Prod.fst)) + 1) : PAddr }, Draw := ((x.getD i z_PCand).Draw), Until := ((x.getD i z_PCand).Until) : PCand }, [(a109, c110)]) := getD_set_self (by simp only [List.length_append, markY_len, List.length_take, List.length_drop, List.length_set]; omega)
  have w124 := W1.row w118 o116 LT_42.ne k121
  have t125 := Rst.row t119 o116 k121
  have h126 := ch_row (lo' := 0) (sz := 0) (m := 0) (xs := []) h120 k121 hC
  refine nx ?_
  refine mw (vi ((k + totL wt_PCand ((y.take i).map Prod.fst)) + 1)) ?_
  refine ar (((k + totL wt_PCand ((y.take i).map Prod.fst)) + 1) + 1) wN ?_
  refine aw (vi (((k + totL wt_PCand ((y.take i).map Prod.fst)) + 1) + 1)) ?_
  refine nx ?_
  refine mw (vs a x.length c) ?_
  refine mw (vi ((i : Nat) : Int)) ?_
  refine ix wN ((i : Nat) : Int) slTy_45 (Rd.of_own o122) ?_
  refine wl_fieldE wN rfl rfl rfl fieldAt_42_1 rfl (Rd.of_own o122) (by omega) ?_
  refine wl_loadE (vs a109 (x.getD i z_PCand).Draw.length c110) wN rfl rfl rfl rfl isAgg_22 (Rd.of_own o122) ((rows_get (k := i) (i := 2) LT_42.len (z_PCand, []) (by first | rfl | simp | omega) (Nat.le_of_ble_eq_true rfl) (by simp only [List.length_append, markY_len, List.length_take, List.length_drop, List.length_set]; omega)).trans (by rw [x123]; rfl)) ?_
  refine mw (vi (((k + totL wt_PCand ((y.take i).map Prod.fst)) + 1) + 1)) ?_
  refine cl wN (C_laws_markByteS_w w3 a109 c110 (x.getD i z_PCand).Draw (((k + totL wt_PCand ((y.take i).map Prod.fst)) + 1) + 1) (by omega) (by omega) w124) ?_
  rintro _ w4 ⟨rfl, k127, w128⟩
  have o129 := row_ms o122 w124 LT_42.ne k127
  have t130 := Rst.ms t125 (q107 (a109, c110) (by simp)) (rd_cap w124.2.1) k127
  have h131 := ch_ms (q := (a109, c110)) h126 k127 (d108 (a109, c110) (by simp))
  refine aw (vi ((((k + totL wt_PCand ((y.take i).map Prod.fst)) + 1) + 1) + ((x.getD i z_PCand).Draw.length : Int))) ?_
  refine nx ?_
  refine mw (vs a x.length c) ?_
  refine mw (vi ((i : Nat) : Int)) ?_
  refine mw (vi ((((k + totL wt_PCand ((y.take i).map Prod.fst)) + 1) + 1) + ((x.getD i z_PCand).Draw.length : Int))) ?_
  refine ix wN ((i : Nat) : Int) slTy_45 (Rd.of_own o129) ?_
  refine wl_fieldE wN rfl rfl rfl fieldAt_42_2 rfl (Rd.of_own o129) (by omega) ?_
  refine wl_storeF LT_42.len ((markY mkE_PCand wt_PCand (y.take i) k ++ y.drop i).set i ({ A := { Host := (k + totL wt_PCand ((y.take i).map Prod.fst)), Port := ((k + totL wt_PCand ((y.take i).map Prod.fst)) + 1) : PAddr }, Draw := ((x.getD i z_PCand).Draw), Until := ((x.getD i z_PCand).Until) : PCand }, [(a109, c110)])) i 3 (z_PCand, []) ({ A := { Host := (k + totL wt_PCand ((y.take i).map Prod.fst)), Port := ((k + totL wt_PCand ((y.take i).map Prod.fst)) + 1) : PAddr }, Draw := ((x.getD i z_PCand).Draw), Until := ((((k + totL wt_PCand ((y.take i).map Prod.fst)) + 1) + 1) + ((x.getD i z_PCand).Draw.length : Int)) : PCand }, [(a109, c110)]) (vi ((((k + totL wt_PCand ((y.take i).map Prod.fst)) + 1) + 1) + ((x.getD i z_PCand).Draw.length : Int))) [(vi ((((k + totL wt_PCand ((y.take i).map Prod.fst)) + 1) + 1) + ((x.getD i z_PCand).Draw.length : Int)))] wN rfl rfl rfl (by first | rfl | simp | omega) rfl rfl (one_all rfl) sizeOf_3 o129 (by simp only [List.length_append, markY_len, List.length_take, List.length_drop, List.length_set]; omega) (Nat.le_of_ble_eq_true rfl) (Nat.succ_pos 0) (by rw [x123]; rfl) ?_
  intro w5 k132 o133
  rw [List.set_set] at o133
  have x134 : ((markY mkE_PCand wt_PCand (y.take i) k ++ y.drop i).set i ({ A := { Host := (k + totL wt_PCand ((y.take i).map Prod.fst)), Port := ((k + totL wt_PCand ((y.take i).map Prod.fst)) + 1) : PAddr }, Draw := ((x.getD i z_PCand).Draw), Until := ((((k + totL wt_PCand ((y.take i).map Prod.fst)) + 1) + 1) + ((x.getD i z_PCand).Draw.length : Int)) : PCand }, [(a109, c110)])).getD i (z_PCand, []) = ({ A := { Host := (k + totL wt_PCand ((y.take i).map Prod.fst)), Port := ((k + totL wt_PCand ((y.take i).map Prod.fst)) + 1) : PAddr }, Draw := ((x.getD i z_PCand).Draw), Until := ((((k + totL wt_PCand ((y.take i).map Prod.fst)) + 1) + 1) + ((x.getD i z_PCand).Draw.length : Int)) : PCand }, [(a109, c110)]) := getD_set_self (by simp only [List.length_append, markY_len, List.length_take, List.length_drop, List.length_set]; omega)
  have w135 := W1.row w128 o129 LT_42.ne k132
  have t136 := Rst.row t130 o129 k132
  have h137 := ch_row (lo' := 0) (sz := 0) (m := 0) (xs := []) h131 k132 hC
  refine wl_nil <| wq_then <| wc_region ?_
  refine mw (vi ((((k + totL wt_PCand ((y.take i).map Prod.fst)) + 1) + 1) + ((x.getD i z_PCand).Draw.length : Int))) ?_
  refine ar (((((k + totL wt_PCand ((y.take i).map Prod.fst)) + 1) + 1) + ((x.getD i z_PCand).Draw.length : Int)) + 1) wN ?_
  refine aw (vi (((((k + totL wt_PCand ((y.take i).map Prod.fst)) + 1) + 1) + ((x.getD i z_PCand).Draw.length : Int)) + 1)) ?_
  refine wl_nil <| wq_blk_normal <| wq_then <| wc_region ?_
  refine mw (vi ((i : Nat) : Int)) ?_
  refine ar (((i : Nat) : Int) + 1) wN ?_
  refine aw (vi (((i : Nat) : Int) + 1)) ?_
  refine wl_nil ?_
  have hq : totL wt_PCand ((y.take (i + 1)).map Prod.fst) = totL wt_PCand ((y.take i).map Prod.fst) + wt_PCand (x.getD i z_PCand) := by rw [List.map_take, List.map_take, hy]; exact totL_take (by omega)
  simp only [wt_PCand] at hq
  have hN := MkI.next z_PCand hC (by omega) x103 o133 (by simp only [LT_42, mkE_PCand, marksB_len]) ⟨w135, trivial⟩ t136 h137
  exact wq_loopN (w0 := w1) [(vs a x.length c), (vi (k + totL wt_PCand ((y.take (i + 1)).map Prod.fst))), U, U, (vi 0), (vi ((i + 1 : Nat) : Int)), (vi ((i : Nat) : Int)), (vs a x.length c), (vi (x.length : Int)), (vb (decide (((i : Nat) : Int) < (x.length : Int)))), (vi ((i : Nat) : Int)), (vi (((i : Nat) : Int) + 1)), (vs a x.length c), (vi ((i : Nat) : Int)), (vi (k + totL wt_PCand ((y.take i).map Prod.fst))), (ve (vs a x.length c) ((((i : Nat) : Int)).toNat * 4)), (ve (vs a x.length c) ((((i : Nat) : Int)).toNat * 4 + 0)), (ve (vs a x.length c) ((((i : Nat) : Int)).toNat * 4 + 0 + 0)), (vi (k + totL wt_PCand ((y.take i).map Prod.fst))), (vi ((k + totL wt_PCand ((y.take i).map Prod.fst)) + 1)), (vs a x.length c), (vi ((i : Nat) : Int)), (vi ((k + totL wt_PCand ((y.take i).map Prod.fst)) + 1)), (ve (vs a x.length c) ((((i : Nat) : Int)).toNat * 4)), (ve (vs a x.length c) ((((i : Nat) : Int)).toNat * 4 + 0)), (ve (vs a x.length c) ((((i : Nat) : Int)).toNat * 4 + 0 + 1)), (vi ((k + totL wt_PCand ((y.take i).map Prod.fst)) + 1)), (vi (((k + totL wt_PCand ((y.take i).map Prod.fst)) + 1) + 1)), (vs a x.length c), (vi ((i : Nat) : Int)), (ve (vs a x.length c) ((((i : Nat) : Int)).toNat * 4)), (ve (vs a x.length c) ((((i : Nat) : Int)).toNat * 4 + 2)), (vs a109 (x.getD i z_PCand).Draw.length c110), (vi (((k + totL wt_PCand ((y.take i).map Prod.fst)) + 1) + 1)), (vi ((((k + totL wt_PCand ((y.take i).map Prod.fst)) + 1) + 1) + ((x.getD i z_PCand).Draw.length : Int))), (vs a x.length c), (vi ((i : Nat) : Int)), (vi ((((k + totL wt_PCand ((y.take i).map Prod.fst)) + 1) + 1) + ((x.getD i z_PCand).Draw.length : Int))), (ve (vs a x.length c) ((((i : Nat) : Int)).toNat * 4)), (ve (vs a x.length c) ((((i : Nat) : Int)).toNat * 4 + 3)), (vi ((((k + totL wt_PCand ((y.take i).map Prod.fst)) + 1) + 1) + ((x.getD i z_PCand).Draw.length : Int))), (vi (((((k + totL wt_PCand ((y.take i).map Prod.fst)) + 1) + 1) + ((x.getD i z_PCand).Draw.length : Int)) + 1)), U] rfl ⟨rfl, (congrArg (Value.int .i64) (show ((((((k + totL wt_PCand ((y.take i).map Prod.fst)) + 1) + 1) + ((x.getD i z_PCand).Draw.length : Int)) + 1) : Int) = (k + totL wt_PCand ((y.take (i + 1)).map Prod.fst)) by omega)), rfl, rfl, rfl, (congrArg (Value.int .i64) (show ((((i : Nat) : Int) + 1) : Int) = ((i + 1 : Nat) : Int) by omega)), rfl, rfl, rfl, rfl, rfl, rfl, rfl, rfl, rfl, rfl, rfl, rfl, rfl, rfl, rfl, rfl, rfl, rfl, rfl, rfl, rfl, rfl, rfl, rfl, rfl, rfl, rfl, rfl, rfl, rfl, rfl, rfl, rfl, rfl, rfl, rfl, rfl, trivial⟩ ⟨i + 1, unL [(vi ((i : Nat) : Int)), (vs a x.length c), (vi (x.length : Int)), (vb (decide (((i : Nat) : Int) < (x.length : Int)))), (vi ((i : Nat) : Int)), (vi (((i : Nat) : Int) + 1)), (vs a x.length c), (vi ((i : Nat) : Int)), (vi (k + totL wt_PCand ((y.take i).map Prod.fst))), (ve (vs a x.length c) ((((i : Nat) : Int)).toNat * 4)), (ve (vs a x.length c) ((((i : Nat) : Int)).toNat * 4 + 0)), (ve (vs a x.length c) ((((i : Nat) : Int)).toNat * 4 + 0 + 0)), (vi (k + totL wt_PCand ((y.take i).map Prod.fst))), (vi ((k + totL wt_PCand ((y.take i).map Prod.fst)) + 1)), (vs a x.length c), (vi ((i : Nat) : Int)), (vi ((k + totL wt_PCand ((y.take i).map Prod.fst)) + 1)), (ve (vs a x.length c) ((((i : Nat) : Int)).toNat * 4)), (ve (vs a x.length c) ((((i : Nat) : Int)).toNat * 4 + 0)), (ve (vs a x.length c) ((((i : Nat) : Int)).toNat * 4 + 0 + 1)), (vi ((k + totL wt_PCand ((y.take i).map Prod.fst)) + 1)), (vi (((k + totL wt_PCand ((y.take i).map Prod.fst)) + 1) + 1)), (vs a x.length c), (vi ((i : Nat) : Int)), (ve (vs a x.length c) ((((i : Nat) : Int)).toNat * 4)), (ve (vs a x.length c) ((((i : Nat) : Int)).toNat * 4 + 2)), (vs a109 (x.getD i z_PCand).Draw.length c110), (vi (((k + totL wt_PCand ((y.take i).map Prod.fst)) + 1) + 1)), (vi ((((k + totL wt_PCand ((y.take i).map Prod.fst)) + 1) + 1) + ((x.getD i z_PCand).Draw.length : Int))), (vs a x.length c), (vi ((i : Nat) : Int)), (vi ((((k + totL wt_PCand ((y.take i).map Prod.fst)) + 1) + 1) + ((x.getD i z_PCand).Draw.length : Int))), (ve (vs a x.length c) ((((i : Nat) : Int)).toNat * 4)), (ve (vs a x.length c) ((((i : Nat) : Int)).toNat * 4 + 3)), (vi ((((k + totL wt_PCand ((y.take i).map Prod.fst)) + 1) + 1) + ((x.getD i z_PCand).Draw.length : Int))), (vi (((((k + totL wt_PCand ((y.take i).map Prod.fst)) + 1) + 1) + ((x.getD i z_PCand).Draw.length : Int)) + 1))], rfl, by omega, hN⟩ (by show x.length - (((i + 1 : Nat) : Int)).toNat < x.length - (((i : Nat) : Int)).toNat; omega)

theorem C_laws_markPaths (w0 : World) (a : Option Addr) (c : Nat) (x : PPaths) (lo hi : Nat) (k : Int) (h0 : 0 ≤ k) (h1 : k ≤ 4000000000000000000) (r : OLv LT_42 w0 lo hi a x.Cands.length c x.Cands) :
    Fn Try.prog 25 #[(va (L_47 x a c)), vi k] w0 (fun v w' => v = vi (k + totL wt_PCand x.Cands) ∧ Ch (RowS LT_42 w0 lo hi) w0 w' ∧ RLk LT_42 w' lo hi a x.Cands.length c (marksE mkE_PCand wt_PCand x.Cands k)) := by
 refine fn_of (n := 10) (l := [(va (L_47 x a c)), (vi k), U, U, U, U, U, U, U, U]) Try.func25 rfl rfl (by kernel_rfl) rfl ?_
 refine sr ?_
 refine bx (L_47 x a c) wN ?_
 intro g201 w1 p202 p203 k204 b205
 refine aw (vi 0) ?_
 refine nx ?_
 refine pu (vp g201 2) wN ?_
 refine ld (vs a x.Cands.length c) wN isAgg_45 b205 ?_
 refine mw (vi k) ?_
 have o206 := (OLv.kp r k204)
 refine cl wN (C_laws_markCandS w1 a c x.Cands _ _ k h0 h1 o206) ?_
 rintro _ w2 ⟨rfl, hm, hr⟩
 refine aw (vi (k + totL wt_PCand x.Cands)) ?_
 refine nx ?_
 refine mw (vi (k + totL wt_PCand x.Cands)) ?_
 refine aw (vi (k + totL wt_PCand x.Cands)) ?_
 refine n3 ?_
 exact ret_1 (.inl rfl) (vi (k + totL wt_PCand x.Cands)) rfl rfl ⟨rfl, (((Ch.refl (RowS LT_42 w0 lo hi) w0).comp k204 (fun g hg h => h.elim)).comp hm (fun g hg h => ⟨h.1, h.2.1, rowat_back (Keep.trans (Ch.refl (fun _ => False) w0) k204) hg h.2.2⟩)), hr⟩

theorem C_laws_markCand (w0 : World) (a1 : Option Addr) (c1 : Nat) (x : PCand) (k : Int) (h0 : 0 ≤ k) (h1 : k ≤ 8700000000000000000) (s1 : x.Draw.length ≤ 1073741824) (r1 : Rd w0 1 (.slice a1 x.Draw.length c1) x.Draw.length (x.Draw.map bV)) (p1 : Wp w0 5 a1 x.Draw.length c1 (x.Draw.map bV)) (ap : Aps [(a1, c1)]) :
    Fn Try.prog 26 #[(va (L_42 x a1 c1)), .int .i64 k] w0 (fun v w' => v = .int .i64 (k + (x.Draw.length : Int)) ∧ Ch (MS [(a1, x.Draw.length)]) w0 w' ∧ Rd w' 1 (.slice a1 x.Draw.length c1) x.Draw.length ((marksB k x.Draw.length).map bV)) := by
 refine fn_of (n := 10) (l := [(va (L_42 x a1 c1)), (vi k), U, U, U, U, U, U, U, U]) Try.func26 rfl rfl (by kernel_rfl) rfl ?_
 refine sr ?_
 refine bx (L_42 x a1 c1) wN ?_
 intro g201 w1 p202 p203 k204 b205
 refine aw (vi 0) ?_
 refine nx ?_
 refine pu (vp g201 2) wN ?_
 refine ld (vs a1 x.Draw.length c1) wN isAgg_22 b205 ?_
 refine mw (vi k) ?_
 have r206 := (r1.kp k204)
 have wp207 : Wp w1 5 a1 x.Draw.length c1 _ 1 := (Wp.kp p1 k204)
 refine cl wN (C_laws_markByteS w1 a1 c1 x.Draw k (by omega) (by omega) s1 r206 wp207) ?_
 rintro _ w2 ⟨rfl, k208, r209⟩
 refine aw (vi (k + (x.Draw.length : Int))) ?_
 refine nx ?_
 refine mw (vi (k + (x.Draw.length : Int))) ?_
 refine aw (vi (k + (x.Draw.length : Int))) ?_
 refine n3 ?_
 exact ret_1 (.inl rfl) (vi (k + (x.Draw.length : Int))) rfl rfl ⟨rfl, (((Ch.refl (MS [(a1, x.Draw.length)]) w0).comp k204 (fun _ _ h => h.elim)).comp k208 (fun _ _ h => ms_sub [] [] h)), r209⟩

theorem C_laws_heldByteS (w0 : World) (v_x_a : Value) (x_a : List UInt8) (r_x_a : R_22 w0 v_x_a x_a) (x_k : Int) (pre0 : 0 ≤ x_k) (pre1 : x_k ≤ 9000000000000000000) : Fn Try.prog 87 #[v_x_a, (vi x_k)] w0 (fun v w' => Keep w0 w' ∧ O_3 w' w0.heap.size v (heldB x_a x_k)) := by
 obtain ⟨a1, c2, rfl, r3, s4⟩ := r_x_a
 refine fn_ofS (n := 22) [(vs a1 x_a.length c2), (vi x_k)] Try.func87 rfl rfl ?_
 refine sr ?_
 refine aw (vi 0) ?_
 refine n4 ?_
 refine aw (vi 0) ?_
 refine wl_nil <| wq_then <| wc_block ?_
 refine wc_loopP [(0, (vs a1 x_a.length c2)), (1, (vi (x_k + ((0 : Nat) : Int)))), (5, (vi ((0 : Nat) : Int)))] ⟨rfl, (congrArg (Value.int .i64) (show (x_k : Int) = (x_k + ((0 : Nat) : Int)) by omega)), (congrArg (Value.int .i64) (show (0 : Int) = ((0 : Nat) : Int) by omega)), trivial⟩ (fun e' w' => ∃ (i : Nat) (u6 : Env), e' = pt u6 [(0, (vs a1 x_a.length c2)), (1, (vi (x_k + ((i : Nat) : Int)))), (5, (vi ((i : Nat) : Int)))] ∧ Ch (fun k => w0.heap.size ≤ k) w0 w' ∧ Ch (fun k => w0.heap.size ≤ k) w0 w' ∧ i ≤ x_a.length ∧ heldB x_a x_k = heldB (x_a.drop i) (x_k + ((i : Nat) : Int))) (fun e' _ => x_a.length - ((intOf (e' 5))).toNat) ?_ ?_
 ·exact fun u => ⟨0, u, rfl, (Ch.base w0), (Ch.refl (fun k => w0.heap.size ≤ k) w0), (by omega), (by first | exact heldB_next (by assumption) (by omega) (by assumption) | simp)⟩
 ·rintro _ w1 ⟨i, u6, rfl, m7, k8, i9, i10⟩
  refine wc_seq <| sr ?_
  refine mw (vi ((i : Nat) : Int)) ?_
  refine mw (vs a1 x_a.length c2) ?_
  refine ln wN slTy_22 (r3.from0 m7) ?_
  refine pu (vb (decide (((i : Nat) : Int) < (x_a.length : Int)))) wN ?_
  refine n2 ?_
  rcases bf (decide (((i : Nat) : Int) < (x_a.length : Int))) with h11 | h11
  ·have q17 := of_decide_eq_false h11
   refine cf h11 ?_
   refine wc_exit <| wq_then_exit <| wq_then_exit <| wq_blk_exit <| wq_then <| sr ?_
   refine mw (vi (x_k + ((i : Nat) : Int))) ?_
   refine aw (vi (x_k + ((i : Nat) : Int))) ?_
   refine n3 ?_
   refine rt (vi (x_k + ((i : Nat) : Int))) ?_
   refine ⟨m7.keep0, ?_⟩
   have hF18 : heldB x_a x_k = (x_k + ((i : Nat) : Int)) := by first | exact heldB_ne (by assumption) (by omega) (by assumption) | exact heldB_end (by assumption) (by omega)
   rw [hF18]
   exact rfl
  have q12 := of_decide_eq_true h11
  refine ct h11 ?_
  refine wc_skip <| wq_then <| wc_seq <| wc_block <| wc_seq <| sr ?_
  refine mw (vs a1 x_a.length c2) ?_
  refine mw (vi ((i : Nat) : Int)) ?_
  refine ix wN ((i : Nat) : Int) slTy_22 (r3.from0 m7) ?_
  refine eb (x := x_a) i wN isAgg_5 (r3.from0 m7) ?_
  refine mw (vi (x_k + ((i : Nat) : Int))) ?_
  refine wl_conv8 (x_k + ((i : Nat) : Int)) wN rfl rfl (by kernel_rfl) ?_
  refine pu (vb (!(decide (((x_a.getD i 0).toNat : Int) = ((by8 (x_k + ((i : Nat) : Int))).toNat : Int))))) wN ?_
  refine n2 ?_
  rcases bf (decide (((x_a.getD i 0).toNat : Int) = ((by8 (x_k + ((i : Nat) : Int))).toNat : Int))) with h13 | h13
  ·have q15 := of_decide_eq_false h13
   refine ct (congrArg not h13) ?_
   refine sr ?_
   refine aw (vi (-1)) ?_
   refine wl_nil <| wq_then <| wc_ret <| wq_then_ret <| wq_blk_ret <| wq_then_ret <| wq_then_ret <| wq_blk_ret <| wq_then_ret ?_
   refine rt (vi (-1)) ?_
   refine ⟨m7.keep0, ?_⟩
   have hF16 : heldB x_a x_k = (-1) := by first | exact heldB_ne (by assumption) (by omega) (by assumption) | exact heldB_end (by assumption) (by omega)
   rw [hF16]
   exact rfl
  have q14 := of_decide_eq_true h13
  refine cf (congrArg not h13) ?_
  refine wc_skip <| wq_then <| wc_region ?_
  refine mw (vi (x_k + ((i : Nat) : Int))) ?_
  refine ar ((x_k + ((i : Nat) : Int)) + 1) wN ?_
  refine aw (vi ((x_k + ((i : Nat) : Int)) + 1)) ?_
  refine wl_nil <| wq_blk_normal <| wq_then <| wc_region ?_
  refine mw (vi ((i : Nat) : Int)) ?_
  refine ar (((i : Nat) : Int) + 1) wN ?_
  refine aw (vi (((i : Nat) : Int) + 1)) ?_
  refine wl_nil ?_
  refine wq_loopP (w0 := w1) [(0, (vs a1 x_a.length c2)), (1, (vi (x_k + (((i + 1) : Nat) : Int)))), (5, (vi (((i + 1) : Nat) : Int)))] ?_ ?_ ?_
  · exact ⟨rfl, (congrArg (Value.int .i64) (show (((x_k + ((i : Nat) : Int)) + 1) : Int) = (x_k + (((i + 1) : Nat) : Int)) by omega)), (congrArg (Value.int .i64) (show ((((i : Nat) : Int) + 1) : Int) = (((i + 1) : Nat) : Int) by omega)), trivial⟩
  · exact fun u => ⟨(i + 1), u, rfl, m7, ((Ch.refl (fun k => w0.heap.size ≤ k) w0).ext k8 (fun k hk => hk)), (by omega), (by first | exact heldB_next (by assumption) (by omega) (by assumption) | simp)⟩
  · show x_a.length - ((((i + 1) : Nat) : Int)).toNat < x_a.length - (((i : Nat) : Int)).toNat; omega

def F_laws_heldCand (x_a : PCand) (x_k : Int) : (Int) := bif (decide ((heldB x_a.Draw x_k) < 0)) then ((-1)) else ((heldB x_a.Draw x_k))
theorem C_laws_heldCand (w0 : World) (v_x_a : Value) (x_a : PCand) (r_x_a : R_42 w0 v_x_a x_a) (x_k : Int) (pre0 : 0 ≤ x_k) (pre1 : x_k ≤ 8700000000000000000) : Fn Try.prog 27 #[v_x_a, (vi x_k)] w0 (fun v w' => Keep w0 w' ∧ O_3 w' w0.heap.size v (F_laws_heldCand x_a x_k)) := by
 obtain ⟨a1, c2, rfl, r3, s4⟩ := r_x_a
 refine fn_ofS (n := 12) [(va (L_42 x_a a1 c2)), (vi x_k)] Try.func27 rfl rfl ?_
 refine sr ?_
 refine bx (L_42 x_a a1 c2) wN ?_
 intro g6 w1 p7 p8 k9 b10
 have m11 := (Ch.base w0).extk k9
 refine aw (vi 0) ?_
 refine nx ?_
 refine pu (vp g6 2) wN ?_
 refine ld (vs a1 x_a.Draw.length c2) wN isAgg_22 b10 ?_
 refine mw (vi x_k) ?_
 refine cl wN (C_laws_heldByteS w1 _ x_a.Draw (mR_22 (r3.from0 m11) s4) x_k (by omega) (by omega)) ?_
 rintro _ w2 ⟨k12, rfl⟩
 have m13 := m11.extk k12
 have q14 := heldB_le x_a.Draw x_k
 refine aw (vi (heldB x_a.Draw x_k)) ?_
 refine n4 ?_
 refine mw (vi (heldB x_a.Draw x_k)) ?_
 refine pu (vb (decide ((heldB x_a.Draw x_k) < 0))) wN ?_
 refine n2 ?_
 rcases bt (decide ((heldB x_a.Draw x_k) < 0)) with h15 | h15
 ·have q16 := of_decide_eq_true h15
  refine ct h15 ?_
  refine sr ?_
  refine aw (vi (-1)) ?_
  refine n1 ?_
  refine rt (vi (-1)) ?_
  refine ⟨m13.keep0, ?_⟩
  simp only [F_laws_heldCand, h15, cond_true, cond_false]
  exact rfl
 have q18 := of_decide_eq_false h15
 refine cf h15 ?_
 refine y1 ?_
 refine mw (vi (heldB x_a.Draw x_k)) ?_
 refine aw (vi (heldB x_a.Draw x_k)) ?_
 refine n3 ?_
 refine rt (vi (heldB x_a.Draw x_k)) ?_
 refine ⟨m13.keep0, ?_⟩
 simp only [F_laws_heldCand, h15, cond_true, cond_false]
 exact rfl
theorem laws_heldCand_le (x : PCand) (k : Int) : F_laws_heldCand x k = -1 ∨ F_laws_heldCand x k = k + ((x.Draw.length : Int)) := by
  have h0 := heldB_le x.Draw k
  simp only [F_laws_heldCand, cond_eq_ite, decide_eq_true_eq]
  (repeat' split) <;> omega
end Go.Proofs.Ytcbdmamfmcdlaaa.K
