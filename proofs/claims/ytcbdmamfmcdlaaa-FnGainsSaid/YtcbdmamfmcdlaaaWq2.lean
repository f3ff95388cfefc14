import Derived.Test.YtcbdmamfmcdlaaaCore
import Derived.Test.YtcbdmamfmcdlaaaProg
import Derived.Test.YtcbdmamfmcdlaaaHeld
import Derived.Test.YtcbdmamfmcdlaaaFun
import Derived.Test.YtcbdmamfmcdlaaaFunZ
import Derived.Test.YtcbdmamfmcdlaaaSqz
import Derived.Test.YtcbdmamfmcdlaaaCur
import Derived.Test.YtcbdmamfmcdlaaaDrawW
import Derived.Test.YtcbdmamfmcdlaaaWq1
namespace Go.Proofs.Ytcbdmamfmcdlaaa.K
open Go.RowKit
set_option linter.unusedVariables false
set_option linter.unusedSimpArgs false
set_option maxRecDepth 100000
set_option maxHeartbeats 4000000
def F_impl_Gain (x_l : List PCredit) (x_a : PAddr) (x_n : Int) : (List PCredit) := bif (iCr x_l) then (bif (F_impl_AddrOk x_a) then (bif (F_impl_within x_n 0 1000000) then (bif (decide (0 ≤ (creditAt x_l x_a))) then (((x_l).set (((creditAt x_l x_a)).toNat) { A := (((x_l).getD ((creditAt x_l x_a)).toNat z_PCredit).A), Got := (if 1000000 < ((((x_l).getD ((creditAt x_l x_a)).toNat z_PCredit).Got) + x_n) then 1000000 else ((((x_l).getD ((creditAt x_l x_a)).toNat z_PCredit).Got) + x_n)), Sent := (((x_l).getD ((creditAt x_l x_a)).toNat z_PCredit).Sent) : PCredit })) else (bif (decide ((x_l.length : Int) < 8)) then (((x_l) ++ [{ A := x_a, Got := x_n, Sent := 0 : PCredit }])) else ((x_l)))) else ((x_l))) else ((x_l))) else ((x_l))
theorem C_impl_Gain (w0 : World) (v_x_l : Value) (x_l : List PCredit) (r_x_l : R_24 w0 v_x_l x_l) (v_x_a : Value) (x_a : PAddr) (r_x_a : R_26 w0 v_x_a x_a) (x_n : Int)  : Fn Try.prog 12 #[v_x_l, v_x_a, (vi x_n)] w0 (fun v w' => Keep w0 w' ∧ O_24 w' w0.heap.size v (F_impl_Gain x_l x_a x_n)) := by
 obtain ⟨a1, c2, rfl, r3, s4⟩ := r_x_l
 obtain rfl := r_x_a
 refine fn_ofS (n := 52) [(vs a1 x_l.length c2), (va (L_26 x_a)), (vi x_n)] Try.func12 rfl rfl ?_
 refine sr ?_
 refine bx (L_26 x_a) wN ?_
 intro g6 w1 p7 p8 k9 b10
 have m11 := (Ch.base w0).extk k9
 refine aw (vs none 0 0) ?_
 refine nx ?_
 refine mw (vs a1 x_l.length c2) ?_
 refine cl wN (C_impl_copyCredits w1 _ x_l (mR_24 (r3.from0 m11) s4)) ?_
 rintro _ w2 ⟨k12, ⟨a13, c14, rfl, o15, s16, ap18⟩⟩
 have m19 := m11.extk k12
 refine aw (vs a13 (x_l).length c14) ?_
 refine n4 ?_
 refine jT1 [(0, (vs a1 x_l.length c2)), (2, (vi x_n)), (4, (vp g6 0)), (6, (vs none 0 0)), (7, (vs a13 (x_l).length c14))] (F_impl_Gain x_l x_a x_n = (x_l)) ?_ fun J20 => ?_
 ·intro hA21 w3 k23 u22
  have m24 := m19.extk k23
  refine sr ?_
  refine mw (vs a13 (x_l).length c14) ?_
  refine aw (vs a13 (x_l).length c14) ?_
  refine n1 ?_
  have o25 := (own_kp o15 k23)
  refine rt (vs a13 (x_l).length c14) ?_
  refine ⟨m24.keep0, ?_⟩
  rw [hA21]
  exact ⟨_, _, rfl, (own_lo o25 k9.size), s16, ⟨trivial, trivial⟩⟩
 refine mw (vs a1 x_l.length c2) ?_
 refine cl wN (C_impl_CreditsOk w2 _ x_l (mR_24 (r3.from0 m19) s4)) ?_
 rintro _ w3 ⟨k27, rfl⟩
 refine pu (vb (!(iCr x_l))) wN ?_
 refine mw (vb (!(iCr x_l))) ?_
 rcases bf (iCr x_l) with h29 | h29
 ·iterate 3 refine sk (congrArg not h29) ?_
  refine pk (vb true) wN (congrArg not h29) ?_
  refine mw (vb true) ?_
  iterate 3 refine sk (Eq.refl true) ?_
  refine pk (vb true) wN (Eq.refl true) ?_
  refine n2 ?_
  refine ct (Eq.refl true) ?_
  have hF85 : F_impl_Gain x_l x_a x_n = (x_l) := by simp only [F_impl_Gain, h29, cond_true, cond_false]
  exact wj (J20 hF85 _ k27)
 have q30 := iCr_t h29
 have b31 := ((b10.kp k12).kp k27)
 refine lN (L_26 x_a) (wS (congrArg not h29)) isAgg_26 sizeOf_26 b31 ?_
 refine cl (wS (congrArg not h29)) (C_impl_AddrOk w3 _ x_a (mR_26)) ?_
 rintro _ w4 ⟨k32, rfl⟩
 refine pu (vb (!(F_impl_AddrOk x_a))) (wS (congrArg not h29)) ?_
 refine pf (vb (!(F_impl_AddrOk x_a))) wN (congrArg not h29) ?_
 refine mw (vb (!(F_impl_AddrOk x_a))) ?_
 rcases bf (F_impl_AddrOk x_a) with h34 | h34
 ·iterate 3 refine sk (congrArg not h34) ?_
  refine pk (vb true) wN (congrArg not h34) ?_
  refine n2 ?_
  refine ct (Eq.refl true) ?_
  have hF83 : F_impl_Gain x_l x_a x_n = (x_l) := by simp only [F_impl_Gain, h29, h34, cond_true, cond_false]
  exact wj (J20 hF83 _ (k27.trans k32))
 refine mv (vi x_n) (wS (congrArg not h34)) ?_
 refine cl (wS (congrArg not h34)) (C_impl_within w4 x_n 0 1000000) ?_
 rintro _ w5 ⟨k36, rfl⟩
 have m37 := ((m19.extk k27).extk k32).extk k36
 refine pu (vb (!(F_impl_within x_n 0 1000000))) (wS (congrArg not h34)) ?_
 refine pf (vb (!(F_impl_within x_n 0 1000000))) wN (congrArg not h34) ?_
 refine n2 ?_
 rcases bf (F_impl_within x_n 0 1000000) with h38 | h38
 ·have q80 := impl_within_f h38
  refine ct (congrArg not h38) ?_
  have hF81 : F_impl_Gain x_l x_a x_n = (x_l) := by simp only [F_impl_Gain, h29, h34, h38, cond_true, cond_false]
  exact wj (J20 hF81 _ ((k27.trans k32).trans k36))
 have q39 := impl_within_t h38
 refine cf (congrArg not h38) ?_
 refine y1 ?_
 refine mw (vs a1 x_l.length c2) ?_
 have b40 := ((b31.kp k32).kp k36)
 refine lN (L_26 x_a) wN isAgg_26 sizeOf_26 b40 ?_
 refine cl wN (C_impl_creditAt w5 _ x_l (mR_24 (r3.from0 m37) s4) _ x_a (mR_26)) ?_
 rintro _ w6 ⟨k41, rfl⟩
 have m42 := m37.extk k41
 have q43 := creditAt_range x_l x_a
 have q44 := iCr_got x_l x_a
 refine aw (vi (creditAt x_l x_a)) ?_
 refine n4 ?_
 refine mw (vi (creditAt x_l x_a)) ?_
 refine pu (vb (decide (0 ≤ (creditAt x_l x_a)))) wN ?_
 refine n2 ?_
 rcases bt (decide (0 ≤ (creditAt x_l x_a))) with h45 | h45
 ·have q46 := of_decide_eq_true h45
  refine ct h45 ?_
  refine wc_region ?_
  refine mw (vs a13 (x_l).length c14) ?_
  refine mw (vi (creditAt x_l x_a)) ?_
  refine mw (vs a13 (x_l).length c14) ?_
  refine mw (vi (creditAt x_l x_a)) ?_
  have o47 := (own_kp (own_kp (own_kp (own_kp o15 k27) k32) k36) k41)
  refine ix wN (creditAt x_l x_a) slTy_24 (Rd.of_own o47) ?_
  refine wl_fieldE wN rfl rfl rfl fieldAt_33_1 rfl (Rd.of_own o47) (by omega) ?_
  refine wl_loadE (vi (((x_l).getD ((creditAt x_l x_a)).toNat z_PCredit).Got)) wN rfl rfl rfl rfl isAgg_3 (Rd.of_own o47) ((rows_get (i := 2) enc_PCredit_len z_PCredit (by first | rfl | simp | omega) (by decide) (by first | omega | (simp only [List.length_cons, List.length_nil, List.length_replicate, List.length_append, List.length_take, List.length_set, List.length_map]; omega))).trans rfl) ?_
  refine mw (vi x_n) ?_
  refine ar ((((x_l).getD ((creditAt x_l x_a)).toNat z_PCredit).Got) + x_n) wN ?_
  refine pu (vi (if 1000000 < ((((x_l).getD ((creditAt x_l x_a)).toNat z_PCredit).Got) + x_n) then 1000000 else ((((x_l).getD ((creditAt x_l x_a)).toNat z_PCredit).Got) + x_n))) wN ?_
  refine ix wN (creditAt x_l x_a) slTy_24 (Rd.of_own o47) ?_
  refine wl_fieldE wN rfl rfl rfl fieldAt_33_1 rfl (Rd.of_own o47) (by omega) ?_
  refine wl_storeF enc_PCredit_len (x_l) (((creditAt x_l x_a)).toNat) 2 z_PCredit ({ A := (((x_l).getD ((creditAt x_l x_a)).toNat z_PCredit).A), Got := (if 1000000 < ((((x_l).getD ((creditAt x_l x_a)).toNat z_PCredit).Got) + x_n) then 1000000 else ((((x_l).getD ((creditAt x_l x_a)).toNat z_PCredit).Got) + x_n)), Sent := (((x_l).getD ((creditAt x_l x_a)).toNat z_PCredit).Sent) : PCredit }) (vi (if 1000000 < ((((x_l).getD ((creditAt x_l x_a)).toNat z_PCredit).Got) + x_n) then 1000000 else ((((x_l).getD ((creditAt x_l x_a)).toNat z_PCredit).Got) + x_n))) [(vi (if 1000000 < ((((x_l).getD ((creditAt x_l x_a)).toNat z_PCredit).Got) + x_n) then 1000000 else ((((x_l).getD ((creditAt x_l x_a)).toNat z_PCredit).Got) + x_n)))] wN rfl rfl rfl (by first | rfl | simp | omega) rfl rfl (one_cons rfl one_nil) sizeOf_3 o47 (by first | omega | (simp only [List.length_append, List.length_replicate, List.length_take, List.length_set, List.length_map]; omega)) (by simp) (by simp) rfl ?_
  intro w7 k48 o49
  have m50 := m42.ext k48 (fun k hk => Nat.le_trans k9.size (own_lt o15 k hk).1)
  refine nx ?_
  refine mw (vs a13 (x_l).length c14) ?_
  refine aw (vs a13 (x_l).length c14) ?_
  refine n3 ?_
  refine rt (vs a13 (x_l).length c14) ?_
  refine ⟨m50.keep0, ?_⟩
  simp only [F_impl_Gain, h29, h34, h38, h45, cond_true, cond_false]
  have hN52 : (x_l).length = (((x_l).set (((creditAt x_l x_a)).toNat) { A := (((x_l).getD ((creditAt x_l x_a)).toNat z_PCredit).A), Got := (if 1000000 < ((((x_l).getD ((creditAt x_l x_a)).toNat z_PCredit).Got) + x_n) then 1000000 else ((((x_l).getD ((creditAt x_l x_a)).toNat z_PCredit).Got) + x_n)), Sent := (((x_l).getD ((creditAt x_l x_a)).toNat z_PCredit).Sent) : PCredit })).length := by first | (simp only [List.length_append, List.length_take, List.length_replicate, List.length_set, List.length_map]; done) | (simp only [List.length_append, List.length_take, List.length_replicate, List.length_set, List.length_map]; omega)
  rw [hN52] at o49 ⊢
  exact ⟨_, _, rfl, (own_lo o49 k9.size), (by rw [← hN52]; exact s16), ⟨trivial, trivial⟩⟩
 have q53 := of_decide_eq_false h45
 refine cf h45 ?_
 refine sr ?_
 refine mw (vs a1 x_l.length c2) ?_
 refine ln wN slTy_24 (r3.from0 m42) ?_
 refine pu (vb (decide ((x_l.length : Int) < 8))) wN ?_
 refine n2 ?_
 rcases bf (decide ((x_l.length : Int) < 8)) with h54 | h54
 ·have q77 := of_decide_eq_false h54
  refine cf h54 ?_
  refine y1 ?_
  refine mw (vs a13 (x_l).length c14) ?_
  refine aw (vs a13 (x_l).length c14) ?_
  refine n3 ?_
  have o78 := (own_kp (own_kp (own_kp (own_kp o15 k27) k32) k36) k41)
  refine rt (vs a13 (x_l).length c14) ?_
  refine ⟨m42.keep0, ?_⟩
  simp only [F_impl_Gain, h29, h34, h38, h45, h54, cond_true, cond_false]
  exact ⟨_, _, rfl, (own_lo o78 k9.size), s16, ⟨trivial, trivial⟩⟩
 have q55 := of_decide_eq_true h54
 refine ct h54 ?_
 refine wc_region ?_
 refine mw (vs a13 (x_l).length c14) ?_
 have b56 := (b40.kp k41)
 refine lN (L_26 x_a) wN isAgg_26 sizeOf_26 b56 ?_
 refine mw (vi x_n) ?_
 refine pu (va [(vi x_a.Host), (vi x_a.Port), (vi x_n), (vi 0)]) wN ?_
 refine wl_lit [(vi x_a.Host), (vi x_a.Port), (vi x_n), (vi 0)] wN rfl rfl slTy_24 (m := 1) rfl (by simp only [maxLen]; omega) (fun w => by kernel_rfl) ?_
 intro u57 w7 k58 o59
 obtain ⟨a60, c61, rfl⟩ := own_form o59
 have o64 : w7.ownsRow w6.heap.size 33 4 (.slice a60 ([{ A := x_a, Got := x_n, Sent := 0 : PCredit }] : List PCredit).length c61) ([{ A := x_a, Got := x_n, Sent := 0 : PCredit }] : List PCredit).length (([{ A := x_a, Got := x_n, Sent := 0 : PCredit }] : List PCredit).flatMap enc_PCredit) := o59
 have o65 := (own_kp (own_kp (own_kp (own_kp (own_kp o15 k27) k32) k36) k41) k58)
 refine wl_append (v := (vs a13 (x_l).length c14)) wN rfl rfl rfl slTy_24 rfl rfl o65 (Rd.of_own o64) (rows_one (fun u => u.oneCell' = true) enc_PCredit_one) (by first | (simp only [List.length_append, List.length_cons, List.length_nil, List.length_replicate, List.length_take, List.length_drop]; omega) | omega) (by simp only [maxLen]; first | (simp only [List.length_append, List.length_cons, List.length_nil, List.length_replicate, List.length_take, List.length_drop]; omega) | omega) (z6 k12 k27 k32 k36 k41 k58) ?_
 intro u66 w8 k67 o68 j69
 have o72 : w8.ownsRow w1.heap.size 33 4 u66 (((x_l) ++ [{ A := x_a, Got := x_n, Sent := 0 : PCredit }]) : List PCredit).length ((((x_l) ++ [{ A := x_a, Got := x_n, Sent := 0 : PCredit }]) : List PCredit).flatMap enc_PCredit) := by simpa [Nat.add_assoc, List.flatMap_append] using o68
 obtain ⟨a70, c71, rfl⟩ := own_form o72
 have m73 := (m42.extk k58).ext k67 (fun k hk => Nat.le_trans k9.size (own_lt o15 k hk).1)
 have s75 : ((x_l) ++ [{ A := x_a, Got := x_n, Sent := 0 : PCredit }]).length ≤ 1073741824 := by first | (simp only [List.length_append, List.length_cons, List.length_nil, List.length_replicate, List.length_take, List.length_drop]; omega) | omega | assumption
 refine aw (vs a70 ((x_l) ++ [{ A := x_a, Got := x_n, Sent := 0 : PCredit }]).length c71) ?_
 refine nx ?_
 refine mw (vs a70 ((x_l) ++ [{ A := x_a, Got := x_n, Sent := 0 : PCredit }]).length c71) ?_
 refine aw (vs a70 ((x_l) ++ [{ A := x_a, Got := x_n, Sent := 0 : PCredit }]).length c71) ?_
 refine n3 ?_
 refine rt (vs a70 ((x_l) ++ [{ A := x_a, Got := x_n, Sent := 0 : PCredit }]).length c71) ?_
 refine ⟨m73.keep0, ?_⟩
 simp only [F_impl_Gain, h29, h34, h38, h45, h54, cond_true, cond_false]
 exact ⟨_, _, rfl, (own_lo o72 k9.size), s75, ⟨trivial, trivial⟩⟩
theorem iGain_len (l : List PCredit) (a : PAddr) (n : Int) : (F_impl_Gain l a n).length = l.length ∨ (F_impl_Gain l a n).length = l.length + 1 := by
  simp only [F_impl_Gain, cond_eq_ite]
  repeat' split
  all_goals first | (left; simp; done) | (right; simp; done)

def F_laws_at (x_code : List UInt8) (x_i : Int) : (Int) := bif (decide (x_i < (x_code.length : Int))) then (((x_code.getD (x_i).toNat 0).toNat : Int)) else ((((x_i * 31) + ((x_code.length : Int) * 7)) % 256))
theorem C_laws_at (w0 : World) (v_x_code : Value) (x_code : List UInt8) (r_x_code : R_22 w0 v_x_code x_code) (x_i : Int) (pre0 : 0 ≤ x_i ∧ x_i ≤ 1000) : Fn Try.prog 14 #[v_x_code, (vi x_i)] w0 (fun v w' => Keep w0 w' ∧ O_3 w' w0.heap.size v (F_laws_at x_code x_i)) := by
 obtain ⟨a1, c2, rfl, r3, s4⟩ := r_x_code
 refine fn_ofS (n := 21) [(vs a1 x_code.length c2), (vi x_i)] Try.func14 rfl rfl ?_
 have hx8 : (x_code.getD x_i.toNat 0).toNat < 256 := UInt8.toNat_lt _
 refine sr ?_
 refine aw (vi 0) ?_
 refine n4 ?_
 refine mw (vi x_i) ?_
 refine mw (vs a1 x_code.length c2) ?_
 refine ln wN slTy_22 r3 ?_
 refine pu (vb (decide (x_i < (x_code.length : Int)))) wN ?_
 refine n2 ?_
 rcases bt (decide (x_i < (x_code.length : Int))) with h6 | h6
 ·have q7 := of_decide_eq_true h6
  refine ct h6 ?_
  refine sr ?_
  refine mw (vs a1 x_code.length c2) ?_
  refine mw (vi x_i) ?_
  refine ix wN x_i slTy_22 r3 ?_
  refine eb (x := x_code) ((x_i).toNat) wN isAgg_5 r3 ?_
  refine ar ((x_code.getD (x_i).toNat 0).toNat : Int) wN ?_
  refine aw (vi ((x_code.getD (x_i).toNat 0).toNat : Int)) ?_
  refine n1 ?_
  refine rt (vi ((x_code.getD (x_i).toNat 0).toNat : Int)) ?_
  refine ⟨Ch.refl _ _, ?_⟩
  simp only [F_laws_at, h6, cond_true, cond_false]
  exact rfl
 have q9 := of_decide_eq_false h6
 refine cf h6 ?_
 refine y1 ?_
 refine mw (vi x_i) ?_
 refine ar (x_i * 31) wN ?_
 refine mw (vs a1 x_code.length c2) ?_
 refine ln wN slTy_22 r3 ?_
 refine ar ((x_code.length : Int) * 7) wN ?_
 refine ar ((x_i * 31) + ((x_code.length : Int) * 7)) wN ?_
 refine wl_rem ((x_i * 31) + ((x_code.length : Int) * 7)) 256 wN rfl rfl (by kernel_rfl) (by first | omega | assumption) ?_
 refine aw (vi (((x_i * 31) + ((x_code.length : Int) * 7)) % 256)) ?_
 refine n3 ?_
 refine rt (vi (((x_i * 31) + ((x_code.length : Int) * 7)) % 256)) ?_
 refine ⟨Ch.refl _ _, ?_⟩
 simp only [F_laws_at, h6, cond_true, cond_false]
 exact rfl
theorem at_b (x : List UInt8) (i : Int) : 0 ≤ F_laws_at x i ∧ F_laws_at x i ≤ 255 := by
  have hx8 : (x.getD i.toNat 0).toNat < 256 := UInt8.toNat_lt _
  simp only [F_laws_at, cond_eq_ite]
  split <;> omega

def F_impl_Near (x_i : Int) : (PAddr) := bif (F_impl_within x_i 0 255) then ({ Host := (167772160 + x_i), Port := (7000 + x_i) : PAddr }) else ({ Host := 0, Port := 0 : PAddr })
theorem C_impl_Near (w0 : World) (x_i : Int)  : Fn Try.prog 13 #[(vi x_i)] w0 (fun v w' => Keep w0 w' ∧ O_26 w' w0.heap.size v (F_impl_Near x_i)) := by
 refine fn_ofS (n := 12) [(vi x_i)] Try.func13 rfl rfl ?_
 refine sr ?_
 refine al [(vi 0), (vi 0)] wN zero_26 ?_
 intro g1 w1 p2 p3 k4 b5
 refine n4 ?_
 refine mw (vi x_i) ?_
 refine cl wN (C_impl_within w1 x_i 0 255) ?_
 rintro _ w2 ⟨k7, rfl⟩
 have m8 := ((Ch.base w0).extk k4).extk k7
 refine pu (vb (!(F_impl_within x_i 0 255))) wN ?_
 refine n2 ?_
 rcases bf (F_impl_within x_i 0 255) with h9 | h9
 ·have q17 := impl_within_f h9
  refine ct (congrArg not h9) ?_
  refine sr ?_
  refine pu (va [(vi 0), (vi 0)]) wN ?_
  have b18 := (b5.kp k7)
  refine sv [(vi 0), (vi 0)] wN sizeOf_26 b18 ?_
  intro w3 k19 b20 z21
  have m22 := m8.ext k19 (fun k hk => by subst hk; exact p2)
  refine n1 ?_
  refine ret_1 (.inl rfl) (va [(vi 0), (vi 0)]) rfl (rv_c [(vi 0), (vi 0)] rfl b20 isAgg_26 sizeOf_26) ?_
  refine ⟨m22.keep0, ?_⟩
  simp only [F_impl_Near, h9, cond_true, cond_false]
  exact rfl
 have q10 := impl_within_t h9
 refine cf (congrArg not h9) ?_
 refine y1 ?_
 refine mw (vi x_i) ?_
 refine ar (167772160 + x_i) wN ?_
 refine mw (vi x_i) ?_
 refine ar (7000 + x_i) wN ?_
 refine pu (va [(vi (167772160 + x_i)), (vi (7000 + x_i))]) wN ?_
 have b11 := (b5.kp k7)
 refine sv [(vi (167772160 + x_i)), (vi (7000 + x_i))] wN sizeOf_26 b11 ?_
 intro w3 k12 b13 z14
 have m15 := m8.ext k12 (fun k hk => by subst hk; exact p2)
 refine n3 ?_
 refine ret_1 (.inl rfl) (va [(vi (167772160 + x_i)), (vi (7000 + x_i))]) rfl (rv_c [(vi (167772160 + x_i)), (vi (7000 + x_i))] rfl b13 isAgg_26 sizeOf_26) ?_
 refine ⟨m15.keep0, ?_⟩
 simp only [F_impl_Near, h9, cond_true, cond_false]
 exact rfl

def F_impl_RoomFor (x_l : List PCredit) (x_a : PAddr) : (Int) := bif (iCr x_l) then (bif (decide ((creditAt x_l x_a) < 0)) then (0) else (((3 * ((x_l.getD ((creditAt x_l x_a)).toNat z_PCredit).Got)) - ((x_l.getD ((creditAt x_l x_a)).toNat z_PCredit).Sent)))) else (0)
theorem C_impl_RoomFor (w0 : World) (v_x_l : Value) (x_l : List PCredit) (r_x_l : R_24 w0 v_x_l x_l) (v_x_a : Value) (x_a : PAddr) (r_x_a : R_26 w0 v_x_a x_a)  : Fn Try.prog 17 #[v_x_l, v_x_a] w0 (fun v w' => Keep w0 w' ∧ O_3 w' w0.heap.size v (F_impl_RoomFor x_l x_a)) := by
 obtain ⟨a1, c2, rfl, r3, s4⟩ := r_x_l
 obtain rfl := r_x_a
 refine fn_ofS (n := 28) [(vs a1 x_l.length c2), (va (L_26 x_a))] Try.func17 rfl rfl ?_
 refine sr ?_
 refine bx (L_26 x_a) wN ?_
 intro g6 w1 p7 p8 k9 b10
 have m11 := (Ch.base w0).extk k9
 refine aw (vi 0) ?_
 refine nx ?_
 refine mw (vs a1 x_l.length c2) ?_
 refine lN (L_26 x_a) wN isAgg_26 sizeOf_26 b10 ?_
 refine cl wN (C_impl_creditAt w1 _ x_l (mR_24 (r3.from0 m11) s4) _ x_a (mR_26)) ?_
 rintro _ w2 ⟨k12, rfl⟩
 have m13 := m11.extk k12
 have q14 := creditAt_range x_l x_a
 have q15 := iCr_got x_l x_a
 refine aw (vi (creditAt x_l x_a)) ?_
 refine n4 ?_
 refine jT1 [(0, (vs a1 x_l.length c2)), (4, (vi 0)), (5, (vi (creditAt x_l x_a)))] (F_impl_RoomFor x_l x_a = 0) ?_ fun J16 => ?_
 ·intro hA17 w3 k19 u18
  have m20 := m13.extk k19
  refine sr ?_
  refine aw (vi 0) ?_
  refine n1 ?_
  refine rt (vi 0) ?_
  refine ⟨m20.keep0, ?_⟩
  rw [hA17]
  exact rfl
 refine mw (vs a1 x_l.length c2) ?_
 refine cl wN (C_impl_CreditsOk w2 _ x_l (mR_24 (r3.from0 m13) s4)) ?_
 rintro _ w3 ⟨k22, rfl⟩
 have m23 := m13.extk k22
 refine pu (vb (!(iCr x_l))) wN ?_
 refine mw (vb (!(iCr x_l))) ?_
 rcases bf (iCr x_l) with h24 | h24
 ·iterate 2 refine sk (congrArg not h24) ?_
  refine pk (vb true) wN (congrArg not h24) ?_
  refine n2 ?_
  refine ct (Eq.refl true) ?_
  have hF56 : F_impl_RoomFor x_l x_a = 0 := by simp only [F_impl_RoomFor, h24, cond_true, cond_false]
  exact wj (J16 hF56 _ k22)
 have q25 := iCr_t h24
 refine mv (vi (creditAt x_l x_a)) (wS (congrArg not h24)) ?_
 refine pu (vb (decide ((creditAt x_l x_a) < 0))) (wS (congrArg not h24)) ?_
 refine pf (vb (decide ((creditAt x_l x_a) < 0))) wN (congrArg not h24) ?_
 refine n2 ?_
 rcases bt (decide ((creditAt x_l x_a) < 0)) with h26 | h26
 ·have q27 := of_decide_eq_true h26
  refine ct h26 ?_
  have hF28 : F_impl_RoomFor x_l x_a = 0 := by simp only [F_impl_RoomFor, h24, h26, cond_true, cond_false]
  exact wj (J16 hF28 _ k22)
 have q29 := of_decide_eq_false h26
 refine cf h26 ?_
 refine wc_skip <| wq_then <| wc_seq ?_
 refine wc_drawT ([(16, [], [], (fun _ v _ => v = (vs a1 x_l.length c2))), (17, [], [], (fun _ v _ => v = (vi (creditAt x_l x_a)))), (18, [], [0, 1], (fun _ v _ => v = (ve (vs a1 x_l.length c2) (((creditAt x_l x_a)).toNat * 4)))), (19, [], [0, 1, 2], (fun _ v _ => v = (ve (vs a1 x_l.length c2) (((creditAt x_l x_a)).toNat * 4 + 2)))), (20, [], [0, 1, 2, 3], (fun _ v _ => v = (vi ((x_l.getD ((creditAt x_l x_a)).toNat z_PCredit).Got)))), (21, [], [0, 1, 2, 3, 4], (fun _ v _ => v = (vi (3 * ((x_l.getD ((creditAt x_l x_a)).toNat z_PCredit).Got))))), (22, [], [], (fun _ v _ => v = (vs a1 x_l.length c2))), (23, [], [], (fun _ v _ => v = (vi (creditAt x_l x_a)))), (24, [], [6, 7], (fun _ v _ => v = (ve (vs a1 x_l.length c2) (((creditAt x_l x_a)).toNat * 4)))), (25, [], [6, 7, 8], (fun _ v _ => v = (ve (vs a1 x_l.length c2) (((creditAt x_l x_a)).toNat * 4 + 3)))), (26, [], [6, 7, 8, 9], (fun _ v _ => v = (vi ((x_l.getD ((creditAt x_l x_a)).toNat z_PCredit).Sent))))] : GV) (fun _ w' => Keep w3 w') [] mixed rfl (by kernel_rfl) (by kernel_rfl) ?_ (fun _ _ h => h) (fun _ _ _ _ h _ k => h.trans k) trivial ?_ ?_ ?_
 ·exact ⟨hV, hE, ⟨hV, hE, ⟨hV, hE, ⟨hV, hE, ⟨hV, hE, ⟨hV, hE, ⟨hV, hE, ⟨hV, hE, ⟨hV, hE, ⟨hV, hE, ⟨hV, hE, trivial⟩⟩⟩⟩⟩⟩⟩⟩⟩⟩⟩
 ·exact trivial
 ·refine ⟨?_, ⟨?_, ⟨?_, ⟨?_, ⟨?_, ⟨?_, ⟨?_, ⟨?_, ⟨?_, ⟨?_, ⟨?_, trivial⟩⟩⟩⟩⟩⟩⟩⟩⟩⟩⟩
  ·intro _ w4 k30 _
   rintro _ _ _ _ _ _ _ _ _ _ _
   show WL _ _ _ _ _ _ _
   refine mw (vs a1 x_l.length c2) ?_
   exact f1
  ·intro _ w4 k32 _
   rintro _ _ _ _ _ _ _ _ _ _ _
   show WL _ _ _ _ _ _ _
   refine mw (vi (creditAt x_l x_a)) ?_
   exact f1
  ·intro _ w4 k34 _
   have m35 := m23.extk k34
   rintro _ rfl _ rfl _ _ _ _ _ _ _ _ _
   show WL _ _ _ _ _ _ _
   refine ix wN (creditAt x_l x_a) slTy_24 (r3.from0 m35) ?_
   exact f1
  ·intro _ w4 k36 _
   have m37 := m23.extk k36
   rintro _ rfl _ rfl _ rfl _ _ _ _ _ _ _ _
   show WL _ _ _ _ _ _ _
   refine wl_fieldE wN rfl rfl rfl fieldAt_33_1 rfl (r3.from0 m37) (by omega) ?_
   exact f1
  ·intro _ w4 k38 _
   have m39 := m23.extk k38
   rintro _ rfl _ rfl _ rfl _ rfl _ _ _ _ _ _ _
   show WL _ _ _ _ _ _ _
   refine wl_loadE (vi ((x_l.getD ((creditAt x_l x_a)).toNat z_PCredit).Got)) wN rfl rfl rfl rfl isAgg_3 (r3.from0 m39) ((rows_get (i := 2) enc_PCredit_len z_PCredit (by first | rfl | simp | omega) (by decide) (by first | omega | (simp only [List.length_cons, List.length_nil, List.length_replicate, List.length_append, List.length_take, List.length_set, List.length_map]; omega))).trans rfl) ?_
   exact f1
  ·intro _ w4 k40 _
   rintro _ rfl _ rfl _ rfl _ rfl _ rfl _ _ _ _ _ _
   show WL _ _ _ _ _ _ _
   refine ar (3 * ((x_l.getD ((creditAt x_l x_a)).toNat z_PCredit).Got)) wN ?_
   exact f1
  ·intro _ w4 k42 _
   rintro _ _ _ _ _ _ _ _ _ _ _
   show WL _ _ _ _ _ _ _
   refine mw (vs a1 x_l.length c2) ?_
   exact f1
  ·intro _ w4 k44 _
   rintro _ _ _ _ _ _ _ _ _ _ _
   show WL _ _ _ _ _ _ _
   refine mw (vi (creditAt x_l x_a)) ?_
   exact f1
  ·intro _ w4 k46 _
   have m47 := m23.extk k46
   rintro _ _ _ _ _ _ _ rfl _ rfl _ _ _
   show WL _ _ _ _ _ _ _
   refine ix wN (creditAt x_l x_a) slTy_24 (r3.from0 m47) ?_
   exact f1
  ·intro _ w4 k48 _
   have m49 := m23.extk k48
   rintro _ _ _ _ _ _ _ rfl _ rfl _ rfl _ _
   show WL _ _ _ _ _ _ _
   refine wl_fieldE wN rfl rfl rfl fieldAt_33_2 rfl (r3.from0 m49) (by omega) ?_
   exact f1
  ·intro _ w4 k50 _
   have m51 := m23.extk k50
   rintro _ _ _ _ _ _ _ rfl _ rfl _ rfl _ rfl _
   show WL _ _ _ _ _ _ _
   refine wl_loadE (vi ((x_l.getD ((creditAt x_l x_a)).toNat z_PCredit).Sent)) wN rfl rfl rfl rfl isAgg_3 (r3.from0 m51) ((rows_get (i := 3) enc_PCredit_len z_PCredit (by first | rfl | simp | omega) (by decide) (by first | omega | (simp only [List.length_cons, List.length_nil, List.length_replicate, List.length_append, List.length_take, List.length_set, List.length_map]; omega))).trans rfl) ?_
   exact f1
 ·intro _ w4 k52
  have m53 := m23.extk k52
  rintro _ rfl _ rfl _ rfl _ rfl _ rfl _ rfl _ rfl _ rfl _ rfl _ rfl _ rfl
  show WL _ _ _ _ _ _ _
  refine ar ((3 * ((x_l.getD ((creditAt x_l x_a)).toNat z_PCredit).Got)) - ((x_l.getD ((creditAt x_l x_a)).toNat z_PCredit).Sent)) wN ?_
  refine aw (vi ((3 * ((x_l.getD ((creditAt x_l x_a)).toNat z_PCredit).Got)) - ((x_l.getD ((creditAt x_l x_a)).toNat z_PCredit).Sent))) ?_
  refine n3 ?_
  refine rt (vi ((3 * ((x_l.getD ((creditAt x_l x_a)).toNat z_PCredit).Got)) - ((x_l.getD ((creditAt x_l x_a)).toNat z_PCredit).Sent))) ?_
  refine ⟨m53.keep0, ?_⟩
  simp only [F_impl_RoomFor, h24, h26, cond_true, cond_false]
  exact rfl
theorem iRoom_b (l : List PCredit) (a : PAddr) : 0 ≤ F_impl_RoomFor l a ∧ F_impl_RoomFor l a ≤ 3000000 := by
  have h := iCr_got l a
  simp only [F_impl_RoomFor, cond_eq_ite, decide_eq_true_eq]
  split
  · rename_i h1
    rw [h1] at h
    split
    · omega
    · rename_i h2
      rcases h with h | h | h
      · simp at h
      · omega
      · omega
  · omega
end Go.Proofs.Ytcbdmamfmcdlaaa.K
