import Derived.Test.YtodlalolknldmaaCore
import Derived.Test.YtodlalolknldmaaProg
import Derived.Test.YtodlalolknldmaaHeld
import Derived.Test.YtodlalolknldmaaFun
import Derived.Test.YtodlalolknldmaaFunZ
import Derived.Test.YtodlalolknldmaaMark
import Derived.Test.YtodlalolknldmaaWs1
namespace Go.Proofs.Ytodlalolknldmaa.K
open Go.RowKit
set_option linter.unusedVariables false
set_option linter.unusedSimpArgs false
set_option maxRecDepth 100000
def F_impl_KeysOf (x_c : PChan) : (List (List UInt8)) := bif (F_impl_ChanOk x_c) then (bif x_c.HasOld then (bif (decide (0 < (x_c.Next.length : Int))) then ((((([] : List (List UInt8)) ++ [(F_impl_clone x_c.Old.Key)]) ++ [(F_impl_clone x_c.Cur.Key)]) ++ [(F_impl_clone x_c.Next)])) else (((([] : List (List UInt8)) ++ [(F_impl_clone x_c.Old.Key)]) ++ [(F_impl_clone x_c.Cur.Key)]))) else (bif (decide (0 < (x_c.Next.length : Int))) then (((([] : List (List UInt8)) ++ [(F_impl_clone x_c.Cur.Key)]) ++ [(F_impl_clone x_c.Next)])) else ((([] : List (List UInt8)) ++ [(F_impl_clone x_c.Cur.Key)])))) else ([])
theorem C_impl_KeysOf (w0 : World) (v_x_c : Value) (x_c : PChan) (r_x_c : R_29 w0 v_x_c x_c)  : Fn Try.prog 33 #[v_x_c] w0 (fun v w' => Keep w0 w' ∧ O_50 w' w0.heap.size v (F_impl_KeysOf x_c)) := by
 obtain ⟨a1, c2, a6, c7, a11, c12, a16, c17, a21, c22, a26, c27, rfl, r3, s4, r8, s9, r13, s14, r18, s19, r23, s24, r28, s29⟩ := r_x_c
 refine fn_of (n := 36) (l := [(va (L_29 x_c a1 c2 a6 c7 a11 c12 a16 c17 a21 c22 a26 c27)), U, U, U, U, U, U, U, U, U, U, U, U, U, U, U, U, U, U, U, U, U, U, U, U, U, U, U, U, U, U, U, U, U, U, U]) Try.func33 rfl rfl (by kernel_rfl) rfl ?_
 refine sr ?_
 refine bx (L_29 x_c a1 c2 a6 c7 a11 c12 a16 c17 a21 c22 a26 c27) wN ?_
 intro g31 w1 p32 p33 k34 b35
 have m36 := (Ch.base w0).extk k34
 refine ag (vs none 0 0) wN ?_
 refine nx ?_
 refine wl_lit0 wN rfl rfl slTy_50 (fun w => by kernel_rfl) ?_
 intro a37 w2 k38 o39
 have m40 := m36.extk k38
 have o42 : OLv LT_B w2 w1.heap.size w2.heap.size (some a37) 0 0 [] := OLv.of0 o39
 refine ag (vs (some a37) 0 0) wN ?_
 refine wl_nil <| wq_then <| wc_seq <| sr ?_
 have b43 := (b35.kp k38)
 refine lN (L_29 x_c a1 c2 a6 c7 a11 c12 a16 c17 a21 c22 a26 c27) wN isAgg_29 sizeOf_29 b43 ?_
 refine cl wN (C_impl_ChanOk w2 _ x_c (mR_29 (r3.from0 m40) s4 (r8.from0 m40) s9 (r13.from0 m40) s14 (r18.from0 m40) s19 (r23.from0 m40) s24 (r28.from0 m40) s29)) ?_
 rintro _ w3 ⟨k44, rfl⟩
 have m45 := m40.extk k44
 refine pu (vb (!(F_impl_ChanOk x_c))) wN ?_
 refine wl_nil <| wq_then ?_
 rcases bf (F_impl_ChanOk x_c) with h46 | h46
 ·refine ct (congrArg not h46) ?_
  refine sr ?_
  refine mv (vs (some a37) 0 0) wN ?_
  refine ag (vs (some a37) 0 0) wN ?_
  refine wl_nil <| wq_then <| wc_ret <| wq_then_ret ?_
  have o196 := (OLv.kp o42 k44)
  refine ret_1 (.inl rfl) (vs (some a37) 0 0) rfl rfl ?_
  refine ⟨m45.keep0, ?_⟩
  have hF197 : F_impl_KeysOf x_c = [] := by simp only [F_impl_KeysOf, h46, cond_true, cond_false]
  rw [hF197]
  exact ⟨_, _, rfl, (OLv.now (OLv.low o196 k34.size)), (by simp), ⟨trivial, trivial⟩⟩
 have q47 := impl_ChanOk_t h46
 refine cf (congrArg not h46) ?_
 refine wc_skip <| wq_then <| wc_seq <| sr ?_
 refine pu (vp g31 12) wN ?_
 have b48 := (b43.kp k44)
 refine ld (vb x_c.HasOld) wN isAgg_4 b48 ?_
 refine wl_nil <| wq_then ?_
 rcases bf x_c.HasOld with h49 | h49
 ·refine cf h49 ?_
  refine wc_skip <| wq_then <| sr ?_
  refine mv (vs (some a37) 0 0) wN ?_
  refine pu (vp g31 2) wN ?_
  refine pu (vp g31 3) wN ?_
  refine ld (vs a6 x_c.Cur.Key.length c7) wN isAgg_22 b48 ?_
  refine cl wN (C_impl_clone w3 _ x_c.Cur.Key (mR_22 (r8.from0 m45) s9)) ?_
  rintro _ w4 ⟨k137, ⟨a138, c139, rfl, o140, s141, ap143⟩⟩
  have m144 := m45.extk k137
  refine wl_lit [(vs a138 (F_impl_clone x_c.Cur.Key).length c139)] wN rfl rfl slTy_50 (m := 1) rfl (by simp only [maxLen]; omega) (fun w => by kernel_rfl) ?_
  intro u145 w5 k146 o147
  obtain ⟨a148, c149, rfl⟩ := own_form o147
  have m150 := m144.extk k146
  have o152 := (OLv.kp (OLv.kp (OLv.kp o42 k44) k137) k146)
  have o153 := (own_kp o140 k146)
  refine wl_appL (L := LT_B) (xs := []) (el := (F_impl_clone x_c.Cur.Key)) (l := [(a138, c139)]) wN slTy_50 o152 (Rd.of_own o147) ⟨⟨(own_lo o153 k44.size), s141⟩, trivial⟩ ⟨trivial, trivial⟩ (Nat.le_refl _) k38.size (by first | assumption | ((try simp only [List.length_append, List.length_cons, List.length_nil]); omega)) (Nat.le_trans (Nat.le_trans (Nat.le_trans k38.size k44.size) k137.size) k146.size) ?_
  intro a154 c155 w6 k156 o157
  have m158 := m150.ext k156 (fun k hk => Nat.le_trans k34.size (own_lt o39 k hk).1)
  obtain ⟨y161, o162⟩ := OLv.ow o157
  refine ag (vs a154 (([] : List (List UInt8)) ++ [(F_impl_clone x_c.Cur.Key)]).length c155) wN ?_
  refine wl_nil <| wq_then <| wc_seq <| sr ?_
  refine pu (vp g31 14) wN ?_
  have b163 := (((b48.kp k137).kp k146).ch k156 (fun h => by have := (own_lt o39 _ h).1; have := Nat.lt_of_lt_of_le p33 (Nat.le_refl _); omega))
  refine ld (vs a26 x_c.Next.length c27) wN isAgg_22 b163 ?_
  refine ln wN slTy_22 (r28.from0 m158) ?_
  refine pu (vb (decide (0 < (x_c.Next.length : Int)))) wN ?_
  refine wl_nil <| wq_then ?_
  rcases bf (decide (0 < (x_c.Next.length : Int))) with h164 | h164
  ·have q193 := of_decide_eq_false h164
   refine cf h164 ?_
   refine wc_skip <| wq_then <| sr ?_
   refine mv (vs a154 (([] : List (List UInt8)) ++ [(F_impl_clone x_c.Cur.Key)]).length c155) wN ?_
   refine ag (vs a154 (([] : List (List UInt8)) ++ [(F_impl_clone x_c.Cur.Key)]).length c155) wN ?_
   refine wl_nil <| wq_then <| wc_ret ?_
   refine ret_1 (.inl rfl) (vs a154 (([] : List (List UInt8)) ++ [(F_impl_clone x_c.Cur.Key)]).length c155) rfl rfl ?_
   refine ⟨m158.keep0, ?_⟩
   have hF194 : F_impl_KeysOf x_c = (([] : List (List UInt8)) ++ [(F_impl_clone x_c.Cur.Key)]) := by simp only [F_impl_KeysOf, h46, h49, h164, cond_true, cond_false]
   rw [hF194]
   exact ⟨_, _, rfl, (OLv.now (OLv.low o157 k34.size)), (OLv.small o157), ⟨trivial, trivial⟩⟩
  have q165 := of_decide_eq_true h164
  refine ct h164 ?_
  refine wc_region ?_
  refine mv (vs a154 (([] : List (List UInt8)) ++ [(F_impl_clone x_c.Cur.Key)]).length c155) wN ?_
  refine pu (vp g31 14) wN ?_
  refine ld (vs a26 x_c.Next.length c27) wN isAgg_22 b163 ?_
  refine cl wN (C_impl_clone w6 _ x_c.Next (mR_22 (r28.from0 m158) s29)) ?_
  rintro _ w7 ⟨k166, ⟨a167, c168, rfl, o169, s170, ap172⟩⟩
  have m173 := m158.extk k166
  refine wl_lit [(vs a167 (F_impl_clone x_c.Next).length c168)] wN rfl rfl slTy_50 (m := 1) rfl (by simp only [maxLen]; omega) (fun w => by kernel_rfl) ?_
  intro u174 w8 k175 o176
  obtain ⟨a177, c178, rfl⟩ := own_form o176
  have m179 := m173.extk k175
  have o181 := (OLv.kp (OLv.kp o157 k166) k175)
  have o182 := (own_kp o169 k175)
  refine wl_appL (L := LT_B) (xs := (([] : List (List UInt8)) ++ [(F_impl_clone x_c.Cur.Key)])) (el := (F_impl_clone x_c.Next)) (l := [(a167, c168)]) wN slTy_50 o181 (Rd.of_own o176) ⟨⟨o182, s170⟩, trivial⟩ ⟨trivial, trivial⟩ (Nat.le_refl _) (Nat.le_trans (Nat.le_trans (Nat.le_trans (Nat.le_trans k38.size k44.size) k137.size) k146.size) k156.size) (by first | assumption | ((try simp only [List.length_append, List.length_cons, List.length_nil]); omega)) (Nat.le_trans (Nat.le_trans (Nat.le_trans (Nat.le_trans (Nat.le_trans (Nat.le_trans k38.size k44.size) k137.size) k146.size) k156.size) k166.size) k175.size) ?_
  intro a183 c184 w9 k185 o186
  have m187 := m179.ext k185 (fun k hk => Nat.le_trans k34.size (own_lt o162 k hk).1)
  obtain ⟨y190, o191⟩ := OLv.ow o186
  refine ag (vs a183 ((([] : List (List UInt8)) ++ [(F_impl_clone x_c.Cur.Key)]) ++ [(F_impl_clone x_c.Next)]).length c184) wN ?_
  refine nx ?_
  refine mv (vs a183 ((([] : List (List UInt8)) ++ [(F_impl_clone x_c.Cur.Key)]) ++ [(F_impl_clone x_c.Next)]).length c184) wN ?_
  refine ag (vs a183 ((([] : List (List UInt8)) ++ [(F_impl_clone x_c.Cur.Key)]) ++ [(F_impl_clone x_c.Next)]).length c184) wN ?_
  refine wl_nil <| wq_then <| wc_ret ?_
  refine ret_1 (.inl rfl) (vs a183 ((([] : List (List UInt8)) ++ [(F_impl_clone x_c.Cur.Key)]) ++ [(F_impl_clone x_c.Next)]).length c184) rfl rfl ?_
  refine ⟨m187.keep0, ?_⟩
  have hF192 : F_impl_KeysOf x_c = ((([] : List (List UInt8)) ++ [(F_impl_clone x_c.Cur.Key)]) ++ [(F_impl_clone x_c.Next)]) := by simp only [F_impl_KeysOf, h46, h49, h164, cond_true, cond_false]
  rw [hF192]
  exact ⟨_, _, rfl, (OLv.now (OLv.low o186 k34.size)), (OLv.small o186), ⟨trivial, trivial⟩⟩
 refine ct h49 ?_
 refine wc_region ?_
 refine mv (vs (some a37) 0 0) wN ?_
 refine pu (vp g31 7) wN ?_
 refine pu (vp g31 8) wN ?_
 refine ld (vs a16 x_c.Old.Key.length c17) wN isAgg_22 b48 ?_
 refine cl wN (C_impl_clone w3 _ x_c.Old.Key (mR_22 (r18.from0 m45) s19)) ?_
 rintro _ w4 ⟨k51, ⟨a52, c53, rfl, o54, s55, ap57⟩⟩
 have m58 := m45.extk k51
 refine wl_lit [(vs a52 (F_impl_clone x_c.Old.Key).length c53)] wN rfl rfl slTy_50 (m := 1) rfl (by simp only [maxLen]; omega) (fun w => by kernel_rfl) ?_
 intro u59 w5 k60 o61
 obtain ⟨a62, c63, rfl⟩ := own_form o61
 have m64 := m58.extk k60
 have o66 := (OLv.kp (OLv.kp (OLv.kp o42 k44) k51) k60)
 have o67 := (own_kp o54 k60)
 refine wl_appL (L := LT_B) (xs := []) (el := (F_impl_clone x_c.Old.Key)) (l := [(a52, c53)]) wN slTy_50 o66 (Rd.of_own o61) ⟨⟨(own_lo o67 k44.size), s55⟩, trivial⟩ ⟨trivial, trivial⟩ (Nat.le_refl _) k38.size (by first | assumption | ((try simp only [List.length_append, List.length_cons, List.length_nil]); omega)) (Nat.le_trans (Nat.le_trans (Nat.le_trans k38.size k44.size) k51.size) k60.size) ?_
 intro a68 c69 w6 k70 o71
 have m72 := m64.ext k70 (fun k hk => Nat.le_trans k34.size (own_lt o39 k hk).1)
 obtain ⟨y75, o76⟩ := OLv.ow o71
 refine ag (vs a68 (([] : List (List UInt8)) ++ [(F_impl_clone x_c.Old.Key)]).length c69) wN ?_
 refine nx ?_
 refine mv (vs a68 (([] : List (List UInt8)) ++ [(F_impl_clone x_c.Old.Key)]).length c69) wN ?_
 refine pu (vp g31 2) wN ?_
 refine pu (vp g31 3) wN ?_
 have b77 := (((b48.kp k51).kp k60).ch k70 (fun h => by have := (own_lt o39 _ h).1; have := Nat.lt_of_lt_of_le p33 (Nat.le_refl _); omega))
 refine ld (vs a6 x_c.Cur.Key.length c7) wN isAgg_22 b77 ?_
 refine cl wN (C_impl_clone w6 _ x_c.Cur.Key (mR_22 (r8.from0 m72) s9)) ?_
 rintro _ w7 ⟨k78, ⟨a79, c80, rfl, o81, s82, ap84⟩⟩
 have m85 := m72.extk k78
 refine wl_lit [(vs a79 (F_impl_clone x_c.Cur.Key).length c80)] wN rfl rfl slTy_50 (m := 1) rfl (by simp only [maxLen]; omega) (fun w => by kernel_rfl) ?_
 intro u86 w8 k87 o88
 obtain ⟨a89, c90, rfl⟩ := own_form o88
 have m91 := m85.extk k87
 have o93 := (OLv.kp (OLv.kp o71 k78) k87)
 have o94 := (own_kp o81 k87)
 refine wl_appL (L := LT_B) (xs := (([] : List (List UInt8)) ++ [(F_impl_clone x_c.Old.Key)])) (el := (F_impl_clone x_c.Cur.Key)) (l := [(a79, c80)]) wN slTy_50 o93 (Rd.of_own o88) ⟨⟨o94, s82⟩, trivial⟩ ⟨trivial, trivial⟩ (Nat.le_refl _) (Nat.le_trans (Nat.le_trans (Nat.le_trans (Nat.le_trans k38.size k44.size) k51.size) k60.size) k70.size) (by first | assumption | ((try simp only [List.length_append, List.length_cons, List.length_nil]); omega)) (Nat.le_trans (Nat.le_trans (Nat.le_trans (Nat.le_trans (Nat.le_trans (Nat.le_trans k38.size k44.size) k51.size) k60.size) k70.size) k78.size) k87.size) ?_
 intro a95 c96 w9 k97 o98
 have m99 := m91.ext k97 (fun k hk => Nat.le_trans k34.size (own_lt o76 k hk).1)
 obtain ⟨y102, o103⟩ := OLv.ow o98
 refine ag (vs a95 ((([] : List (List UInt8)) ++ [(F_impl_clone x_c.Old.Key)]) ++ [(F_impl_clone x_c.Cur.Key)]).length c96) wN ?_
 refine wl_nil <| wq_then <| wc_seq <| sr ?_
 refine pu (vp g31 14) wN ?_
 have b104 := (((b77.kp k78).kp k87).ch k97 (fun h => by have := (own_lt o76 _ h).1; have := Nat.lt_of_lt_of_le p33 (Nat.le_refl _); omega))
 refine ld (vs a26 x_c.Next.length c27) wN isAgg_22 b104 ?_
 refine ln wN slTy_22 (r28.from0 m99) ?_
 refine pu (vb (decide (0 < (x_c.Next.length : Int)))) wN ?_
 refine wl_nil <| wq_then ?_
 rcases bf (decide (0 < (x_c.Next.length : Int))) with h105 | h105
 ·have q134 := of_decide_eq_false h105
  refine cf h105 ?_
  refine wc_skip <| wq_then <| sr ?_
  refine mv (vs a95 ((([] : List (List UInt8)) ++ [(F_impl_clone x_c.Old.Key)]) ++ [(F_impl_clone x_c.Cur.Key)]).length c96) wN ?_
  refine ag (vs a95 ((([] : List (List UInt8)) ++ [(F_impl_clone x_c.Old.Key)]) ++ [(F_impl_clone x_c.Cur.Key)]).length c96) wN ?_
  refine wl_nil <| wq_then <| wc_ret ?_
  refine ret_1 (.inl rfl) (vs a95 ((([] : List (List UInt8)) ++ [(F_impl_clone x_c.Old.Key)]) ++ [(F_impl_clone x_c.Cur.Key)]).length c96) rfl rfl ?_
  refine ⟨m99.keep0, ?_⟩
  have hF135 : F_impl_KeysOf x_c = ((([] : List (List UInt8)) ++ [(F_impl_clone x_c.Old.Key)]) ++ [(F_impl_clone x_c.Cur.Key)]) := by simp only [F_impl_KeysOf, h46, h49, h105, cond_true, cond_false]
  rw [hF135]
  exact ⟨_, _, rfl, (OLv.now (OLv.low o98 k34.size)), (OLv.small o98), ⟨trivial, trivial⟩⟩
 have q106 := of_decide_eq_true h105
 refine ct h105 ?_
 refine wc_region ?_
 refine mv (vs a95 ((([] : List (List UInt8)) ++ [(F_impl_clone x_c.Old.Key)]) ++ [(F_impl_clone x_c.Cur.Key)]).length c96) wN ?_
 refine pu (vp g31 14) wN ?_
 refine ld (vs a26 x_c.Next.length c27) wN isAgg_22 b104 ?_
 refine cl wN (C_impl_clone w9 _ x_c.Next (mR_22 (r28.from0 m99) s29)) ?_
 rintro _ w10 ⟨k107, ⟨a108, c109, rfl, o110, s111, ap113⟩⟩
 have m114 := m99.extk k107
 refine wl_lit [(vs a108 (F_impl_clone x_c.Next).length c109)] wN rfl rfl slTy_50 (m := 1) rfl (by simp only [maxLen]; omega) (fun w => by kernel_rfl) ?_
 intro u115 w11 k116 o117
 obtain ⟨a118, c119, rfl⟩ := own_form o117
 have m120 := m114.extk k116
 have o122 := (OLv.kp (OLv.kp o98 k107) k116)
 have o123 := (own_kp o110 k116)
 refine wl_appL (L := LT_B) (xs := ((([] : List (List UInt8)) ++ [(F_impl_clone x_c.Old.Key)]) ++ [(F_impl_clone x_c.Cur.Key)])) (el := (F_impl_clone x_c.Next)) (l := [(a108, c109)]) wN slTy_50 o122 (Rd.of_own o117) ⟨⟨o123, s111⟩, trivial⟩ ⟨trivial, trivial⟩ (Nat.le_refl _) (Nat.le_trans (Nat.le_trans (Nat.le_trans (Nat.le_trans (Nat.le_trans (Nat.le_trans (Nat.le_trans k38.size k44.size) k51.size) k60.size) k70.size) k78.size) k87.size) k97.size) (by first | assumption | ((try simp only [List.length_append, List.length_cons, List.length_nil]); omega)) (Nat.le_trans (Nat.le_trans (Nat.le_trans (Nat.le_trans (Nat.le_trans (Nat.le_trans (Nat.le_trans (Nat.le_trans (Nat.le_trans k38.size k44.size) k51.size) k60.size) k70.size) k78.size) k87.size) k97.size) k107.size) k116.size) ?_
 intro a124 c125 w12 k126 o127
 have m128 := m120.ext k126 (fun k hk => Nat.le_trans k34.size (own_lt o103 k hk).1)
 obtain ⟨y131, o132⟩ := OLv.ow o127
 refine ag (vs a124 (((([] : List (List UInt8)) ++ [(F_impl_clone x_c.Old.Key)]) ++ [(F_impl_clone x_c.Cur.Key)]) ++ [(F_impl_clone x_c.Next)]).length c125) wN ?_
 refine nx ?_
 refine mv (vs a124 (((([] : List (List UInt8)) ++ [(F_impl_clone x_c.Old.Key)]) ++ [(F_impl_clone x_c.Cur.Key)]) ++ [(F_impl_clone x_c.Next)]).length c125) wN ?_
 refine ag (vs a124 (((([] : List (List UInt8)) ++ [(F_impl_clone x_c.Old.Key)]) ++ [(F_impl_clone x_c.Cur.Key)]) ++ [(F_impl_clone x_c.Next)]).length c125) wN ?_
 refine wl_nil <| wq_then <| wc_ret ?_
 refine ret_1 (.inl rfl) (vs a124 (((([] : List (List UInt8)) ++ [(F_impl_clone x_c.Old.Key)]) ++ [(F_impl_clone x_c.Cur.Key)]) ++ [(F_impl_clone x_c.Next)]).length c125) rfl rfl ?_
 refine ⟨m128.keep0, ?_⟩
 have hF133 : F_impl_KeysOf x_c = (((([] : List (List UInt8)) ++ [(F_impl_clone x_c.Old.Key)]) ++ [(F_impl_clone x_c.Cur.Key)]) ++ [(F_impl_clone x_c.Next)]) := by simp only [F_impl_KeysOf, h46, h49, h105, cond_true, cond_false]
 rw [hF133]
 exact ⟨_, _, rfl, (OLv.now (OLv.low o127 k34.size)), (OLv.small o127), ⟨trivial, trivial⟩⟩

theorem mixed : Try.prog.follows .mixedOrders = true := by kernel_rfl
theorem C_laws_eqByteS (w0 : World) (v_x_a : Value) (x_a : List UInt8) (r_x_a : R_22 w0 v_x_a x_a) (v_x_b : Value) (x_b : List UInt8) (r_x_b : R_22 w0 v_x_b x_b)  : Fn Try.prog 19 #[v_x_a, v_x_b] w0 (fun v w' => Keep w0 w' ∧ O_4 w' w0.heap.size v (eqB x_a x_b)) := by
 obtain ⟨a1, c2, rfl, r3, s4⟩ := r_x_a
 obtain ⟨a6, c7, rfl, r8, s9⟩ := r_x_b
 refine fn_of (n := 26) (l := [(vs a1 x_a.length c2), (vs a6 x_b.length c7), U, U, U, U, U, U, U, U, U, U, U, U, U, U, U, U, U, U, U, U, U, U, U, U]) Try.func19 rfl rfl (by kernel_rfl) rfl ?_
 refine sr ?_
 refine ag (vb false) wN ?_
 refine wl_nil <| wq_then <| wc_seq <| sr ?_
 refine mv (vs a1 x_a.length c2) wN ?_
 refine ln wN slTy_22 r3 ?_
 refine mv (vs a6 x_b.length c7) wN ?_
 refine ln wN slTy_22 r8 ?_
 refine pu (vb (!(decide ((x_a.length : Int) = (x_b.length : Int))))) wN ?_
 refine wl_nil <| wq_then ?_
 rcases bf (decide ((x_a.length : Int) = (x_b.length : Int))) with h11 | h11
 ·have q43 := of_decide_eq_false h11
  refine ct (congrArg not h11) ?_
  refine sr ?_
  refine ag (vb false) wN ?_
  refine wl_nil <| wq_then <| wc_ret <| wq_then_ret ?_
  refine ret_1 (.inl rfl) (vb false) rfl rfl ?_
  refine ⟨Ch.refl _ _, ?_⟩
  have hF44 : eqB x_a x_b = false := by first | exact eqB_len (by assumption) | exact eqB_el (by assumption) | exact eqB_all (by assumption) (by omega) (by omega)
  rw [hF44]
  exact rfl
 have q12 := of_decide_eq_true h11
 refine cf (congrArg not h11) ?_
 refine wc_skip <| wq_then <| wc_seq <| sr ?_
 refine ag (vi 0) wN ?_
 refine wl_nil <| wq_then <| wc_block ?_
 refine wc_norm [(vs a1 x_a.length c2), (vs a6 x_b.length c7), U, U, (vb false), (vi 0), (vs a1 x_a.length c2), (vi (x_a.length : Int)), (vs a6 x_b.length c7), (vi (x_b.length : Int)), (vb (!(decide ((x_a.length : Int) = (x_b.length : Int))))), U, U, U, U, U, U, U, U, U, U, U, U, U, U, U] rfl ⟨rfl, rfl, rfl, rfl, rfl, rfl, rfl, rfl, rfl, rfl, rfl, rfl, rfl, rfl, rfl, rfl, rfl, rfl, rfl, rfl, rfl, rfl, rfl, rfl, rfl, rfl, trivial⟩ ?_
 refine wc_loop (fun e' w' => ∃ (k : Nat) (u4x u11x u12x u13x u14x u15x u16x u17x u18x u19x u20x u21x u22x u23x u24x u25x : Value), e' = lst [(vs a1 x_a.length c2), (vs a6 x_b.length c7), U, U, u4x, (vi ((k : Nat) : Int)), (vs a1 x_a.length c2), (vi (x_a.length : Int)), (vs a6 x_b.length c7), (vi (x_b.length : Int)), (vb (!(decide ((x_a.length : Int) = (x_b.length : Int))))), u11x, u12x, u13x, u14x, u15x, u16x, u17x, u18x, u19x, u20x, u21x, u22x, u23x, u24x, u25x] ∧ Ch (fun k => w0.heap.size ≤ k) w0 w' ∧ Ch (fun k => w0.heap.size ≤ k) w0 w' ∧ k ≤ x_a.length ∧ x_a.take k = x_b.take k) (fun e' _ => x_a.length - ((intOf (e' 5))).toNat) ?_ ?_
 ·exact ⟨0, (vb false), U, U, U, U, U, U, U, U, U, U, U, U, U, U, U, (congrArg (fun (x5z : Value) => lst [(vs a1 x_a.length c2), (vs a6 x_b.length c7), U, U, (vb false), x5z, (vs a1 x_a.length c2), (vi (x_a.length : Int)), (vs a6 x_b.length c7), (vi (x_b.length : Int)), (vb (!(decide ((x_a.length : Int) = (x_b.length : Int))))), U, U, U, U, U, U, U, U, U, U, U, U, U, U, U]) (congrArg (Value.int .i64) (show (0 : Int) = ((0 : Nat) : Int) by omega))), (Ch.base w0), (Ch.refl (fun k => w0.heap.size ≤ k) w0), (by omega), (by first | rfl | exact eqB_next (by assumption) (by omega) (by omega) (by assumption))⟩
 ·rintro _ w1 ⟨k, u4x, u11x, u12x, u13x, u14x, u15x, u16x, u17x, u18x, u19x, u20x, u21x, u22x, u23x, u24x, u25x, rfl, m13, k14, i15, i16⟩
  refine wc_seq <| sr ?_
  refine mv (vi ((k : Nat) : Int)) wN ?_
  refine mv (vs a1 x_a.length c2) wN ?_
  refine ln wN slTy_22 (r3.from0 m13) ?_
  refine pu (vb (decide (((k : Nat) : Int) < (x_a.length : Int)))) wN ?_
  refine wl_nil <| wq_then ?_
  rcases bf (decide (((k : Nat) : Int) < (x_a.length : Int))) with h17 | h17
  ·have q41 := of_decide_eq_false h17
   refine cf h17 ?_
   refine wc_exit <| wq_then_exit <| wq_then_exit <| wq_blk_exit <| wq_then <| sr ?_
   refine ag (vb true) wN ?_
   refine wl_nil <| wq_then <| wc_ret ?_
   refine ret_1 (.inl rfl) (vb true) rfl rfl ?_
   refine ⟨m13.keep0, ?_⟩
   have hF42 : eqB x_a x_b = true := by first | exact eqB_len (by assumption) | exact eqB_el (by assumption) | exact eqB_all (by assumption) (by omega) (by omega)
   rw [hF42]
   exact rfl
  have q18 := of_decide_eq_true h17
  refine ct h17 ?_
  refine wc_skip <| wq_then <| wc_seq <| wc_block <| wc_seq ?_
  refine wc_drawT ([(17, [], [], (fun _ v _ => v = (vs a1 x_a.length c2))), (18, [], [], (fun _ v _ => v = (vi ((k : Nat) : Int)))), (19, [], [0, 1], (fun _ v _ => v = (ve (vs a1 x_a.length c2) ((((k : Nat) : Int)).toNat * 1)))), (20, [], [0, 1, 2], (fun _ v _ => v = (v8 ((x_a.getD k 0).toNat : Int)))), (21, [], [], (fun _ v _ => v = (vs a6 x_b.length c7))), (22, [], [], (fun _ v _ => v = (vi ((k : Nat) : Int)))), (23, [], [4, 5], (fun _ v _ => v = (ve (vs a6 x_b.length c7) ((((k : Nat) : Int)).toNat * 1)))), (24, [], [4, 5, 6], (fun _ v _ => v = (v8 ((x_b.getD k 0).toNat : Int))))] : GV) (fun _ w' => Keep w1 w') [] mixed rfl (by kernel_rfl) (by kernel_rfl) ?_ (fun _ _ h => h) (fun _ _ _ _ h _ k => h.trans k) trivial ?_ ?_ ?_
  ·exact ⟨(fun _ _ _ _ h _ => h), (fun _ _ _ _ _ h => h), ⟨(fun _ _ _ _ h _ => h), (fun _ _ _ _ _ h => h), ⟨(fun _ _ _ _ h _ => h), (fun _ _ _ _ _ h => h), ⟨(fun _ _ _ _ h _ => h), (fun _ _ _ _ _ h => h), ⟨(fun _ _ _ _ h _ => h), (fun _ _ _ _ _ h => h), ⟨(fun _ _ _ _ h _ => h), (fun _ _ _ _ _ h => h), ⟨(fun _ _ _ _ h _ => h), (fun _ _ _ _ _ h => h), ⟨(fun _ _ _ _ h _ => h), (fun _ _ _ _ _ h => h), trivial⟩⟩⟩⟩⟩⟩⟩⟩
  ·exact trivial
  ·refine ⟨?_, ⟨?_, ⟨?_, ⟨?_, ⟨?_, ⟨?_, ⟨?_, ⟨?_, trivial⟩⟩⟩⟩⟩⟩⟩⟩
   ·intro _ w2 k19 _
    have m20 := m13.extk k19
    rintro _ _ _ _ _ _ _ _
    show WL _ _ _ _ _ _ _
    refine mv (vs a1 x_a.length c2) wN ?_
    exact wl_finT (Ch.refl _ _) rfl
   ·intro _ w2 k21 _
    have m22 := m13.extk k21
    rintro _ _ _ _ _ _ _ _
    show WL _ _ _ _ _ _ _
    refine mv (vi ((k : Nat) : Int)) wN ?_
    exact wl_finT (Ch.refl _ _) rfl
   ·intro _ w2 k23 _
    have m24 := m13.extk k23
    rintro _ rfl _ rfl _ _ _ _ _ _
    show WL _ _ _ _ _ _ _
    refine wl_index wN ((k : Nat) : Int) rfl rfl rfl slTy_22 rfl rfl (r3.from0 m24) (by first | omega | (simp only [List.length_cons, List.length_nil, List.length_replicate, List.length_append, List.length_take, List.length_set, List.length_map]; omega)) (by first | omega | (simp only [List.length_cons, List.length_nil, List.length_replicate, List.length_append, List.length_take, List.length_set, List.length_map]; omega)) ?_
    exact wl_finT (Ch.refl _ _) rfl
   ·intro _ w2 k25 _
    have m26 := m13.extk k25
    rintro _ rfl _ rfl _ rfl _ _ _ _ _
    show WL _ _ _ _ _ _ _
    refine wl_loadE (bV (x_a.getD k 0)) wN rfl rfl rfl rfl isAgg_5 (r3.from0 m26) (bget (by simp) (by first | omega | (simp only [List.length_cons, List.length_nil, List.length_replicate, List.length_append, List.length_take, List.length_set, List.length_map]; omega))) ?_
    exact wl_finT (Ch.refl _ _) rfl
   ·intro _ w2 k27 _
    have m28 := m13.extk k27
    rintro _ _ _ _ _ _ _ _
    show WL _ _ _ _ _ _ _
    refine mv (vs a6 x_b.length c7) wN ?_
    exact wl_finT (Ch.refl _ _) rfl
   ·intro _ w2 k29 _
    have m30 := m13.extk k29
    rintro _ _ _ _ _ _ _ _
    show WL _ _ _ _ _ _ _
    refine mv (vi ((k : Nat) : Int)) wN ?_
    exact wl_finT (Ch.refl _ _) rfl
   ·intro _ w2 k31 _
    have m32 := m13.extk k31
    rintro _ _ _ _ _ rfl _ rfl _ _
    show WL _ _ _ _ _ _ _
    refine wl_index wN ((k : Nat) : Int) rfl rfl rfl slTy_22 rfl rfl (r8.from0 m32) (by first | omega | (simp only [List.length_cons, List.length_nil, List.length_replicate, List.length_append, List.length_take, List.length_set, List.length_map]; omega)) (by first | omega | (simp only [List.length_cons, List.length_nil, List.length_replicate, List.length_append, List.length_take, List.length_set, List.length_map]; omega)) ?_
    exact wl_finT (Ch.refl _ _) rfl
   ·intro _ w2 k33 _
    have m34 := m13.extk k33
    rintro _ _ _ _ _ rfl _ rfl _ rfl _
    show WL _ _ _ _ _ _ _
    refine wl_loadE (bV (x_b.getD k 0)) wN rfl rfl rfl rfl isAgg_5 (r8.from0 m34) (bget (by simp) (by first | omega | (simp only [List.length_cons, List.length_nil, List.length_replicate, List.length_append, List.length_take, List.length_set, List.length_map]; omega))) ?_
    exact wl_finT (Ch.refl _ _) rfl
  ·intro _ w2 k35
   have m36 := m13.extk k35
   rintro _ rfl _ rfl _ rfl _ rfl _ rfl _ rfl _ rfl _ rfl
   show WL _ _ _ _ _ _ _
   refine pu (vb (!(decide (((x_a.getD k 0).toNat : Int) = ((x_b.getD k 0).toNat : Int))))) wN ?_
   refine wl_nil <| wq_then ?_
   rcases bf (decide (((x_a.getD k 0).toNat : Int) = ((x_b.getD k 0).toNat : Int))) with h37 | h37
   ·have q39 := of_decide_eq_false h37
    refine ct (congrArg not h37) ?_
    refine sr ?_
    refine ag (vb false) wN ?_
    refine wl_nil <| wq_then <| wc_ret <| wq_blk_ret <| wq_then_ret <| wq_then_ret <| wq_blk_ret <| wq_then_ret ?_
    refine ret_1 (.inl rfl) (vb false) rfl rfl ?_
    refine ⟨m36.keep0, ?_⟩
    have hF40 : eqB x_a x_b = false := by first | exact eqB_len (by assumption) | exact eqB_el (by assumption) | exact eqB_all (by assumption) (by omega) (by omega)
    rw [hF40]
    exact rfl
   have q38 := of_decide_eq_true h37
   refine cf (congrArg not h37) ?_
   refine wc_skip <| wq_blk_normal <| wq_then <| wc_region ?_
   refine mv (vi ((k : Nat) : Int)) wN ?_
   refine ar (((k : Nat) : Int) + 1) wN ?_
   refine ag (vi (((k : Nat) : Int) + 1)) wN ?_
   refine wl_nil ?_
   refine wq_loopN (w0 := w1) [(vs a1 x_a.length c2), (vs a6 x_b.length c7), U, U, u4x, (vi (((k + 1) : Nat) : Int)), (vs a1 x_a.length c2), (vi (x_a.length : Int)), (vs a6 x_b.length c7), (vi (x_b.length : Int)), (vb (!(decide ((x_a.length : Int) = (x_b.length : Int))))), (vi ((k : Nat) : Int)), (vs a1 x_a.length c2), (vi (x_a.length : Int)), (vb (decide (((k : Nat) : Int) < (x_a.length : Int)))), (vi ((k : Nat) : Int)), (vi (((k : Nat) : Int) + 1)), (vs a1 x_a.length c2), (vi ((k : Nat) : Int)), (ve (vs a1 x_a.length c2) ((((k : Nat) : Int)).toNat * 1)), (v8 ((x_a.getD k 0).toNat : Int)), (vs a6 x_b.length c7), (vi ((k : Nat) : Int)), (ve (vs a6 x_b.length c7) ((((k : Nat) : Int)).toNat * 1)), (v8 ((x_b.getD k 0).toNat : Int)), (vb (!(decide (((x_a.getD k 0).toNat : Int) = ((x_b.getD k 0).toNat : Int)))))] rfl ?_ ?_ ?_
   · exact ⟨rfl, rfl, rfl, rfl, rfl, (congrArg (Value.int .i64) (show ((((k : Nat) : Int) + 1) : Int) = (((k + 1) : Nat) : Int) by omega)), rfl, rfl, rfl, rfl, rfl, rfl, rfl, rfl, rfl, rfl, rfl, rfl, rfl, rfl, rfl, rfl, rfl, rfl, rfl, rfl, trivial⟩
   · exact ⟨(k + 1), u4x, (vi ((k : Nat) : Int)), (vs a1 x_a.length c2), (vi (x_a.length : Int)), (vb (decide (((k : Nat) : Int) < (x_a.length : Int)))), (vi ((k : Nat) : Int)), (vi (((k : Nat) : Int) + 1)), (vs a1 x_a.length c2), (vi ((k : Nat) : Int)), (ve (vs a1 x_a.length c2) ((((k : Nat) : Int)).toNat * 1)), (v8 ((x_a.getD k 0).toNat : Int)), (vs a6 x_b.length c7), (vi ((k : Nat) : Int)), (ve (vs a6 x_b.length c7) ((((k : Nat) : Int)).toNat * 1)), (v8 ((x_b.getD k 0).toNat : Int)), (vb (!(decide (((x_a.getD k 0).toNat : Int) = ((x_b.getD k 0).toNat : Int))))), rfl, m36, (((Ch.refl (fun k => w0.heap.size ≤ k) w0).ext k14 (fun k hk => Nat.le_trans (Nat.le_refl _) hk)).extk k35), (by omega), (by first | rfl | exact eqB_next (by assumption) (by omega) (by omega) (by assumption))⟩
   · show x_a.length - ((((k + 1) : Nat) : Int)).toNat < x_a.length - (((k : Nat) : Int)).toNat; omega

def R_50 (w : World) (v : Value) (x : (List (List UInt8))) : Prop := ∃ (a1 : Option Addr) (c1 : Nat), v = .slice a1 x.length c1 ∧ RLv LT_B w 1073741824 a1 x.length c1 x ∧ x.length ≤ 1073741824
theorem eq_iff_B (a b : List UInt8) : eqB a b = decide (a = b) := rfl
def eqF_B (a b : List (List UInt8)) : Bool := decide (a = b)
theorem C_laws_eqByteSS (w0 : World) (v_x_a : Value) (x_a : List (List UInt8)) (r_x_a : R_50 w0 v_x_a x_a) (v_x_b : Value) (x_b : List (List UInt8)) (r_x_b : R_50 w0 v_x_b x_b)  : Fn Try.prog 34 #[v_x_a, v_x_b] w0 (fun v w' => Keep w0 w' ∧ O_4 w' w0.heap.size v (eqF_B x_a x_b)) := by
 obtain ⟨a1, c2, rfl, r3, s4⟩ := r_x_a
 obtain ⟨a6, c7, rfl, r8, s9⟩ := r_x_b
 refine fn_of (n := 27) (l := [(vs a1 x_a.length c2), (vs a6 x_b.length c7), U, U, U, U, U, U, U, U, U, U, U, U, U, U, U, U, U, U, U, U, U, U, U, U, U]) Try.func34 rfl rfl (by kernel_rfl) rfl ?_
 refine sr ?_
 refine ag (vb false) wN ?_
 refine wl_nil <| wq_then <| wc_seq <| sr ?_
 refine mv (vs a1 x_a.length c2) wN ?_
 obtain ⟨y11, r12⟩ := RLv.row r3
 refine ln wN slTy_50 r12 ?_
 refine mv (vs a6 x_b.length c7) wN ?_
 obtain ⟨y13, r14⟩ := RLv.row r8
 refine ln wN slTy_50 r14 ?_
 refine pu (vb (!(decide ((x_a.length : Int) = (x_b.length : Int))))) wN ?_
 refine wl_nil <| wq_then ?_
 rcases bf (decide ((x_a.length : Int) = (x_b.length : Int))) with h15 | h15
 ·have q121 := of_decide_eq_false h15
  refine ct (congrArg not h15) ?_
  refine sr ?_
  refine ag (vb false) wN ?_
  refine wl_nil <| wq_then <| wc_ret <| wq_then_ret ?_
  refine ret_1 (.inl rfl) (vb false) rfl rfl ?_
  refine ⟨Ch.refl _ _, ?_⟩
  have hF122 : eqF_B x_a x_b = false := by first | exact eqL_len (by assumption) | exact eqL_el (z := z_B) (fun h => by have hq := ‹eqB (x_a.getD k z_B) (x_b.getD k z_B) = false›; rw [eq_iff_B, h] at hq; simp at hq) | exact eqL_all (by assumption) (by omega) (by omega)
  rw [hF122]
  exact rfl
 have q16 := of_decide_eq_true h15
 refine cf (congrArg not h15) ?_
 refine wc_skip <| wq_then <| wc_seq <| sr ?_
 refine ag (vi 0) wN ?_
 refine wl_nil <| wq_then <| wc_block ?_
 refine wc_norm [(vs a1 x_a.length c2), (vs a6 x_b.length c7), U, U, (vb false), (vi 0), (vs a1 x_a.length c2), (vi (x_a.length : Int)), (vs a6 x_b.length c7), (vi (x_b.length : Int)), (vb (!(decide ((x_a.length : Int) = (x_b.length : Int))))), U, U, U, U, U, U, U, U, U, U, U, U, U, U, U, U] rfl ⟨rfl, rfl, rfl, rfl, rfl, rfl, rfl, rfl, rfl, rfl, rfl, rfl, rfl, rfl, rfl, rfl, rfl, rfl, rfl, rfl, rfl, rfl, rfl, rfl, rfl, rfl, rfl, trivial⟩ ?_
 refine wc_loop (fun e' w' => ∃ (k : Nat) (u4x u11x u12x u13x u14x u15x u16x u17x u18x u19x u20x u21x u22x u23x u24x u25x u26x : Value), e' = lst [(vs a1 x_a.length c2), (vs a6 x_b.length c7), U, U, u4x, (vi ((k : Nat) : Int)), (vs a1 x_a.length c2), (vi (x_a.length : Int)), (vs a6 x_b.length c7), (vi (x_b.length : Int)), (vb (!(decide ((x_a.length : Int) = (x_b.length : Int))))), u11x, u12x, u13x, u14x, u15x, u16x, u17x, u18x, u19x, u20x, u21x, u22x, u23x, u24x, u25x, u26x] ∧ Ch (fun k => w0.heap.size ≤ k) w0 w' ∧ Ch (fun k => w0.heap.size ≤ k) w0 w' ∧ k ≤ x_a.length ∧ x_a.take k = x_b.take k) (fun e' _ => x_a.length - ((intOf (e' 5))).toNat) ?_ ?_
 ·exact ⟨0, (vb false), U, U, U, U, U, U, U, U, U, U, U, U, U, U, U, U, (congrArg (fun (x5z : Value) => lst [(vs a1 x_a.length c2), (vs a6 x_b.length c7), U, U, (vb false), x5z, (vs a1 x_a.length c2), (vi (x_a.length : Int)), (vs a6 x_b.length c7), (vi (x_b.length : Int)), (vb (!(decide ((x_a.length : Int) = (x_b.length : Int))))), U, U, U, U, U, U, U, U, U, U, U, U, U, U, U, U]) (congrArg (Value.int .i64) (show (0 : Int) = ((0 : Nat) : Int) by omega))), (Ch.base w0), (Ch.refl (fun k => w0.heap.size ≤ k) w0), (by omega), (by first | rfl | exact eqL_next (z := z_B) (by assumption) (by omega) (by omega) (by have := eq_iff_B; simp_all))⟩
 ·rintro _ w1 ⟨k, u4x, u11x, u12x, u13x, u14x, u15x, u16x, u17x, u18x, u19x, u20x, u21x, u22x, u23x, u24x, u25x, u26x, rfl, m17, k18, i19, i20⟩
  refine wc_seq <| sr ?_
  refine mv (vi ((k : Nat) : Int)) wN ?_
  refine mv (vs a1 x_a.length c2) wN ?_
  obtain ⟨y21, r22⟩ := RLv.row (r3.from0 m17)
  refine ln wN slTy_50 r22 ?_
  refine pu (vb (decide (((k : Nat) : Int) < (x_a.length : Int)))) wN ?_
  refine wl_nil <| wq_then ?_
  rcases bf (decide (((k : Nat) : Int) < (x_a.length : Int))) with h23 | h23
  ·have q119 := of_decide_eq_false h23
   refine cf h23 ?_
   refine wc_exit <| wq_then_exit <| wq_then_exit <| wq_blk_exit <| wq_then <| sr ?_
   refine ag (vb true) wN ?_
   refine wl_nil <| wq_then <| wc_ret ?_
   refine ret_1 (.inl rfl) (vb true) rfl rfl ?_
   refine ⟨m17.keep0, ?_⟩
   have hF120 : eqF_B x_a x_b = true := by first | exact eqL_len (by assumption) | exact eqL_el (z := z_B) (fun h => by have hq := ‹eqB (x_a.getD k z_B) (x_b.getD k z_B) = false›; rw [eq_iff_B, h] at hq; simp at hq) | exact eqL_all (by assumption) (by omega) (by omega)
   rw [hF120]
   exact rfl
  have q24 := of_decide_eq_true h23
  refine ct h23 ?_
  refine wc_skip <| wq_then <| wc_seq <| wc_block <| wc_seq ?_
  obtain ⟨y55, l56, r57, e58, u59⟩ := RLv.el z_B (i := k) r3 (by first | omega | (simp only [List.length_cons, List.length_nil, List.length_replicate, List.length_append, List.length_take, List.length_set, List.length_map]; omega))
  obtain ⟨a60, c61, l65, rfl, r62, s63, u66⟩ := SubR.c u59
  obtain rfl := SubR.n u66
  obtain ⟨y67, l68, r69, e70, u71⟩ := RLv.el z_B (i := k) r8 (by first | omega | (simp only [List.length_cons, List.length_nil, List.length_replicate, List.length_append, List.length_take, List.length_set, List.length_map]; omega))
  obtain ⟨a72, c73, l77, rfl, r74, s75, u78⟩ := SubR.c u71
  obtain rfl := SubR.n u78
  refine wc_drawT ([(17, [], [], (fun _ v _ => v = (vs a1 x_a.length c2))), (18, [], [], (fun _ v _ => v = (vi ((k : Nat) : Int)))), (19, [], [0, 1], (fun _ v _ => v = (ve (vs a1 x_a.length c2) ((((k : Nat) : Int)).toNat * 1)))), (20, [], [0, 1, 2], (fun _ v _ => v = (vs a60 (x_a.getD k z_B).length c61))), (21, [], [], (fun _ v _ => v = (vs a6 x_b.length c7))), (22, [], [], (fun _ v _ => v = (vi ((k : Nat) : Int)))), (23, [], [4, 5], (fun _ v _ => v = (ve (vs a6 x_b.length c7) ((((k : Nat) : Int)).toNat * 1)))), (24, [], [4, 5, 6], (fun _ v _ => v = (vs a72 (x_b.getD k z_B).length c73)))] : GV) (fun _ w' => Keep w1 w') [] mixed rfl (by kernel_rfl) (by kernel_rfl) ?_ (fun _ _ h => h) (fun _ _ _ _ h _ k => h.trans k) trivial ?_ ?_ ?_
  ·exact ⟨(fun _ _ _ _ h _ => h), (fun _ _ _ _ _ h => h), ⟨(fun _ _ _ _ h _ => h), (fun _ _ _ _ _ h => h), ⟨(fun _ _ _ _ h _ => h), (fun _ _ _ _ _ h => h), ⟨(fun _ _ _ _ h _ => h), (fun _ _ _ _ _ h => h), ⟨(fun _ _ _ _ h _ => h), (fun _ _ _ _ _ h => h), ⟨(fun _ _ _ _ h _ => h), (fun _ _ _ _ _ h => h), ⟨(fun _ _ _ _ h _ => h), (fun _ _ _ _ _ h => h), ⟨(fun _ _ _ _ h _ => h), (fun _ _ _ _ _ h => h), trivial⟩⟩⟩⟩⟩⟩⟩⟩
  ·exact trivial
  ·refine ⟨?_, ⟨?_, ⟨?_, ⟨?_, ⟨?_, ⟨?_, ⟨?_, ⟨?_, trivial⟩⟩⟩⟩⟩⟩⟩⟩
   ·intro _ w2 k83 _
    have m84 := m17.extk k83
    rintro _ _ _ _ _ _ _ _
    show WL _ _ _ _ _ _ _
    refine mv (vs a1 x_a.length c2) wN ?_
    exact wl_finT (Ch.refl _ _) rfl
   ·intro _ w2 k85 _
    have m86 := m17.extk k85
    rintro _ _ _ _ _ _ _ _
    show WL _ _ _ _ _ _ _
    refine mv (vi ((k : Nat) : Int)) wN ?_
    exact wl_finT (Ch.refl _ _) rfl
   ·intro _ w2 k87 _
    have m88 := m17.extk k87
    rintro _ rfl _ rfl _ _ _ _ _ _
    show WL _ _ _ _ _ _ _
    obtain ⟨y89, r90⟩ := RLv.row (r3.from0 m88)
    refine wl_index wN ((k : Nat) : Int) rfl rfl rfl slTy_50 rfl rfl r90 (by first | omega | (simp only [List.length_cons, List.length_nil, List.length_replicate, List.length_append, List.length_take, List.length_set, List.length_map]; omega)) (by first | omega | (simp only [List.length_cons, List.length_nil, List.length_replicate, List.length_append, List.length_take, List.length_set, List.length_map]; omega)) ?_
    exact wl_finT (Ch.refl _ _) rfl
   ·intro _ w2 k91 _
    have m92 := m17.extk k91
    rintro _ rfl _ rfl _ rfl _ _ _ _ _
    show WL _ _ _ _ _ _ _
    refine wl_loadE (vs a60 (x_a.getD k z_B).length c61) wN rfl rfl rfl rfl isAgg_22 (r57.from0 m92) ((get_of (off := 0) e58 (by first | rfl | simp | omega) (by decide)).trans rfl) ?_
    exact wl_finT (Ch.refl _ _) rfl
   ·intro _ w2 k95 _
    have m96 := m17.extk k95
    rintro _ _ _ _ _ _ _ _
    show WL _ _ _ _ _ _ _
    refine mv (vs a6 x_b.length c7) wN ?_
    exact wl_finT (Ch.refl _ _) rfl
   ·intro _ w2 k97 _
    have m98 := m17.extk k97
    rintro _ _ _ _ _ _ _ _
    show WL _ _ _ _ _ _ _
    refine mv (vi ((k : Nat) : Int)) wN ?_
    exact wl_finT (Ch.refl _ _) rfl
   ·intro _ w2 k99 _
    have m100 := m17.extk k99
    rintro _ _ _ _ _ rfl _ rfl _ _
    show WL _ _ _ _ _ _ _
    obtain ⟨y101, r102⟩ := RLv.row (r8.from0 m100)
    refine wl_index wN ((k : Nat) : Int) rfl rfl rfl slTy_50 rfl rfl r102 (by first | omega | (simp only [List.length_cons, List.length_nil, List.length_replicate, List.length_append, List.length_take, List.length_set, List.length_map]; omega)) (by first | omega | (simp only [List.length_cons, List.length_nil, List.length_replicate, List.length_append, List.length_take, List.length_set, List.length_map]; omega)) ?_
    exact wl_finT (Ch.refl _ _) rfl
   ·intro _ w2 k103 _
    have m104 := m17.extk k103
    rintro _ _ _ _ _ rfl _ rfl _ rfl _
    show WL _ _ _ _ _ _ _
    refine wl_loadE (vs a72 (x_b.getD k z_B).length c73) wN rfl rfl rfl rfl isAgg_22 (r69.from0 m104) ((get_of (off := 0) e70 (by first | rfl | simp | omega) (by decide)).trans rfl) ?_
    exact wl_finT (Ch.refl _ _) rfl
  ·intro _ w2 k107
   have m108 := m17.extk k107
   rintro _ rfl _ rfl _ rfl _ rfl _ rfl _ rfl _ rfl _ rfl
   show WL _ _ _ _ _ _ _
   refine cl wN (C_laws_eqByteS w2 _ (x_a.getD k z_B) (mR_22 (r62.from0 m108) s63) _ (x_b.getD k z_B) (mR_22 (r74.from0 m108) s75)) ?_
   rintro _ w3 ⟨k113, rfl⟩
   have m114 := m108.extk k113
   refine pu (vb (!(eqB (x_a.getD k z_B) (x_b.getD k z_B)))) wN ?_
   refine wl_nil <| wq_then ?_
   rcases bf (eqB (x_a.getD k z_B) (x_b.getD k z_B)) with h115 | h115
   ·refine ct (congrArg not h115) ?_
    refine sr ?_
    refine ag (vb false) wN ?_
    refine wl_nil <| wq_then <| wc_ret <| wq_blk_ret <| wq_then_ret <| wq_then_ret <| wq_blk_ret <| wq_then_ret ?_
    refine ret_1 (.inl rfl) (vb false) rfl rfl ?_
    refine ⟨m114.keep0, ?_⟩
    have hF118 : eqF_B x_a x_b = false := by first | exact eqL_len (by assumption) | exact eqL_el (z := z_B) (fun h => by have hq := ‹eqB (x_a.getD k z_B) (x_b.getD k z_B) = false›; rw [eq_iff_B, h] at hq; simp at hq) | exact eqL_all (by assumption) (by omega) (by omega)
    rw [hF118]
    exact rfl
   refine cf (congrArg not h115) ?_
   refine wc_skip <| wq_blk_normal <| wq_then <| wc_region ?_
   refine mv (vi ((k : Nat) : Int)) wN ?_
   refine ar (((k : Nat) : Int) + 1) wN ?_
   refine ag (vi (((k : Nat) : Int) + 1)) wN ?_
   refine wl_nil ?_
   refine wq_loopN (w0 := w1) [(vs a1 x_a.length c2), (vs a6 x_b.length c7), U, U, u4x, (vi (((k + 1) : Nat) : Int)), (vs a1 x_a.length c2), (vi (x_a.length : Int)), (vs a6 x_b.length c7), (vi (x_b.length : Int)), (vb (!(decide ((x_a.length : Int) = (x_b.length : Int))))), (vi ((k : Nat) : Int)), (vs a1 x_a.length c2), (vi (x_a.length : Int)), (vb (decide (((k : Nat) : Int) < (x_a.length : Int)))), (vi ((k : Nat) : Int)), (vi (((k : Nat) : Int) + 1)), (vs a1 x_a.length c2), (vi ((k : Nat) : Int)), (ve (vs a1 x_a.length c2) ((((k : Nat) : Int)).toNat * 1)), (vs a60 (x_a.getD k z_B).length c61), (vs a6 x_b.length c7), (vi ((k : Nat) : Int)), (ve (vs a6 x_b.length c7) ((((k : Nat) : Int)).toNat * 1)), (vs a72 (x_b.getD k z_B).length c73), (vb (eqB (x_a.getD k z_B) (x_b.getD k z_B))), (vb (!(eqB (x_a.getD k z_B) (x_b.getD k z_B))))] rfl ?_ ?_ ?_
   · exact ⟨rfl, rfl, rfl, rfl, rfl, (congrArg (Value.int .i64) (show ((((k : Nat) : Int) + 1) : Int) = (((k + 1) : Nat) : Int) by omega)), rfl, rfl, rfl, rfl, rfl, rfl, rfl, rfl, rfl, rfl, rfl, rfl, rfl, rfl, rfl, rfl, rfl, rfl, rfl, rfl, rfl, trivial⟩
   · exact ⟨(k + 1), u4x, (vi ((k : Nat) : Int)), (vs a1 x_a.length c2), (vi (x_a.length : Int)), (vb (decide (((k : Nat) : Int) < (x_a.length : Int)))), (vi ((k : Nat) : Int)), (vi (((k : Nat) : Int) + 1)), (vs a1 x_a.length c2), (vi ((k : Nat) : Int)), (ve (vs a1 x_a.length c2) ((((k : Nat) : Int)).toNat * 1)), (vs a60 (x_a.getD k z_B).length c61), (vs a6 x_b.length c7), (vi ((k : Nat) : Int)), (ve (vs a6 x_b.length c7) ((((k : Nat) : Int)).toNat * 1)), (vs a72 (x_b.getD k z_B).length c73), (vb (eqB (x_a.getD k z_B) (x_b.getD k z_B))), (vb (!(eqB (x_a.getD k z_B) (x_b.getD k z_B)))), rfl, m114, ((((Ch.refl (fun k => w0.heap.size ≤ k) w0).ext k18 (fun k hk => Nat.le_trans (Nat.le_refl _) hk)).extk k107).extk k113), (by omega), (by first | rfl | exact eqL_next (z := z_B) (by assumption) (by omega) (by omega) (by have := eq_iff_B; simp_all))⟩
   · show x_a.length - ((((k + 1) : Nat) : Int)).toNat < x_a.length - (((k : Nat) : Int)).toNat; omega

theorem C_laws_eqIntS (w0 : World) (v_x_a : Value) (x_a : List Int) (r_x_a : R_23 w0 v_x_a x_a) (v_x_b : Value) (x_b : List Int) (r_x_b : R_23 w0 v_x_b x_b)  : Fn Try.prog 119 #[v_x_a, v_x_b] w0 (fun v w' => Keep w0 w' ∧ O_4 w' w0.heap.size v (eqI x_a x_b)) := by
 obtain ⟨a1, c2, rfl, r3, s4⟩ := r_x_a
 obtain ⟨a6, c7, rfl, r8, s9⟩ := r_x_b
 refine fn_of (n := 26) (l := [(vs a1 x_a.length c2), (vs a6 x_b.length c7), U, U, U, U, U, U, U, U, U, U, U, U, U, U, U, U, U, U, U, U, U, U, U, U]) Try.func119 rfl rfl (by kernel_rfl) rfl ?_
 refine sr ?_
 refine ag (vb false) wN ?_
 refine wl_nil <| wq_then <| wc_seq <| sr ?_
 refine mv (vs a1 x_a.length c2) wN ?_
 refine ln wN slTy_23 r3 ?_
 refine mv (vs a6 x_b.length c7) wN ?_
 refine ln wN slTy_23 r8 ?_
 refine pu (vb (!(decide ((x_a.length : Int) = (x_b.length : Int))))) wN ?_
 refine wl_nil <| wq_then ?_
 rcases bf (decide ((x_a.length : Int) = (x_b.length : Int))) with h11 | h11
 ·have q43 := of_decide_eq_false h11
  refine ct (congrArg not h11) ?_
  refine sr ?_
  refine ag (vb false) wN ?_
  refine wl_nil <| wq_then <| wc_ret <| wq_then_ret ?_
  refine ret_1 (.inl rfl) (vb false) rfl rfl ?_
  refine ⟨Ch.refl _ _, ?_⟩
  have hF44 : eqI x_a x_b = false := by first | exact eqI_len (by assumption) | exact eqI_el (by assumption) | exact eqI_all (by assumption) (by omega) (by omega)
  rw [hF44]
  exact rfl
 have q12 := of_decide_eq_true h11
 refine cf (congrArg not h11) ?_
 refine wc_skip <| wq_then <| wc_seq <| sr ?_
 refine ag (vi 0) wN ?_
 refine wl_nil <| wq_then <| wc_block ?_
 refine wc_norm [(vs a1 x_a.length c2), (vs a6 x_b.length c7), U, U, (vb false), (vi 0), (vs a1 x_a.length c2), (vi (x_a.length : Int)), (vs a6 x_b.length c7), (vi (x_b.length : Int)), (vb (!(decide ((x_a.length : Int) = (x_b.length : Int))))), U, U, U, U, U, U, U, U, U, U, U, U, U, U, U] rfl ⟨rfl, rfl, rfl, rfl, rfl, rfl, rfl, rfl, rfl, rfl, rfl, rfl, rfl, rfl, rfl, rfl, rfl, rfl, rfl, rfl, rfl, rfl, rfl, rfl, rfl, rfl, trivial⟩ ?_
 refine wc_loop (fun e' w' => ∃ (k : Nat) (u4x u11x u12x u13x u14x u15x u16x u17x u18x u19x u20x u21x u22x u23x u24x u25x : Value), e' = lst [(vs a1 x_a.length c2), (vs a6 x_b.length c7), U, U, u4x, (vi ((k : Nat) : Int)), (vs a1 x_a.length c2), (vi (x_a.length : Int)), (vs a6 x_b.length c7), (vi (x_b.length : Int)), (vb (!(decide ((x_a.length : Int) = (x_b.length : Int))))), u11x, u12x, u13x, u14x, u15x, u16x, u17x, u18x, u19x, u20x, u21x, u22x, u23x, u24x, u25x] ∧ Ch (fun k => w0.heap.size ≤ k) w0 w' ∧ Ch (fun k => w0.heap.size ≤ k) w0 w' ∧ k ≤ x_a.length ∧ x_a.take k = x_b.take k) (fun e' _ => x_a.length - ((intOf (e' 5))).toNat) ?_ ?_
 ·exact ⟨0, (vb false), U, U, U, U, U, U, U, U, U, U, U, U, U, U, U, (congrArg (fun (x5z : Value) => lst [(vs a1 x_a.length c2), (vs a6 x_b.length c7), U, U, (vb false), x5z, (vs a1 x_a.length c2), (vi (x_a.length : Int)), (vs a6 x_b.length c7), (vi (x_b.length : Int)), (vb (!(decide ((x_a.length : Int) = (x_b.length : Int))))), U, U, U, U, U, U, U, U, U, U, U, U, U, U, U]) (congrArg (Value.int .i64) (show (0 : Int) = ((0 : Nat) : Int) by omega))), (Ch.base w0), (Ch.refl (fun k => w0.heap.size ≤ k) w0), (by omega), (by first | rfl | exact eqI_next (by assumption) (by omega) (by omega) (by assumption))⟩
 ·rintro _ w1 ⟨k, u4x, u11x, u12x, u13x, u14x, u15x, u16x, u17x, u18x, u19x, u20x, u21x, u22x, u23x, u24x, u25x, rfl, m13, k14, i15, i16⟩
  refine wc_seq <| sr ?_
  refine mv (vi ((k : Nat) : Int)) wN ?_
  refine mv (vs a1 x_a.length c2) wN ?_
  refine ln wN slTy_23 (r3.from0 m13) ?_
  refine pu (vb (decide (((k : Nat) : Int) < (x_a.length : Int)))) wN ?_
  refine wl_nil <| wq_then ?_
  rcases bf (decide (((k : Nat) : Int) < (x_a.length : Int))) with h17 | h17
  ·have q41 := of_decide_eq_false h17
   refine cf h17 ?_
   refine wc_exit <| wq_then_exit <| wq_then_exit <| wq_blk_exit <| wq_then <| sr ?_
   refine ag (vb true) wN ?_
   refine wl_nil <| wq_then <| wc_ret ?_
   refine ret_1 (.inl rfl) (vb true) rfl rfl ?_
   refine ⟨m13.keep0, ?_⟩
   have hF42 : eqI x_a x_b = true := by first | exact eqI_len (by assumption) | exact eqI_el (by assumption) | exact eqI_all (by assumption) (by omega) (by omega)
   rw [hF42]
   exact rfl
  have q18 := of_decide_eq_true h17
  refine ct h17 ?_
  refine wc_skip <| wq_then <| wc_seq <| wc_block <| wc_seq ?_
  refine wc_drawT ([(17, [], [], (fun _ v _ => v = (vs a1 x_a.length c2))), (18, [], [], (fun _ v _ => v = (vi ((k : Nat) : Int)))), (19, [], [0, 1], (fun _ v _ => v = (ve (vs a1 x_a.length c2) ((((k : Nat) : Int)).toNat * 1)))), (20, [], [0, 1, 2], (fun _ v _ => v = (vi (x_a.getD k 0)))), (21, [], [], (fun _ v _ => v = (vs a6 x_b.length c7))), (22, [], [], (fun _ v _ => v = (vi ((k : Nat) : Int)))), (23, [], [4, 5], (fun _ v _ => v = (ve (vs a6 x_b.length c7) ((((k : Nat) : Int)).toNat * 1)))), (24, [], [4, 5, 6], (fun _ v _ => v = (vi (x_b.getD k 0))))] : GV) (fun _ w' => Keep w1 w') [] mixed rfl (by kernel_rfl) (by kernel_rfl) ?_ (fun _ _ h => h) (fun _ _ _ _ h _ k => h.trans k) trivial ?_ ?_ ?_
  ·exact ⟨(fun _ _ _ _ h _ => h), (fun _ _ _ _ _ h => h), ⟨(fun _ _ _ _ h _ => h), (fun _ _ _ _ _ h => h), ⟨(fun _ _ _ _ h _ => h), (fun _ _ _ _ _ h => h), ⟨(fun _ _ _ _ h _ => h), (fun _ _ _ _ _ h => h), ⟨(fun _ _ _ _ h _ => h), (fun _ _ _ _ _ h => h), ⟨(fun _ _ _ _ h _ => h), (fun _ _ _ _ _ h => h), ⟨(fun _ _ _ _ h _ => h), (fun _ _ _ _ _ h => h), ⟨(fun _ _ _ _ h _ => h), (fun _ _ _ _ _ h => h), trivial⟩⟩⟩⟩⟩⟩⟩⟩
  ·exact trivial
  ·refine ⟨?_, ⟨?_, ⟨?_, ⟨?_, ⟨?_, ⟨?_, ⟨?_, ⟨?_, trivial⟩⟩⟩⟩⟩⟩⟩⟩
   ·intro _ w2 k19 _
    have m20 := m13.extk k19
    rintro _ _ _ _ _ _ _ _
    show WL _ _ _ _ _ _ _
    refine mv (vs a1 x_a.length c2) wN ?_
    exact wl_finT (Ch.refl _ _) rfl
   ·intro _ w2 k21 _
    have m22 := m13.extk k21
    rintro _ _ _ _ _ _ _ _
    show WL _ _ _ _ _ _ _
    refine mv (vi ((k : Nat) : Int)) wN ?_
    exact wl_finT (Ch.refl _ _) rfl
   ·intro _ w2 k23 _
    have m24 := m13.extk k23
    rintro _ rfl _ rfl _ _ _ _ _ _
    show WL _ _ _ _ _ _ _
    refine wl_index wN ((k : Nat) : Int) rfl rfl rfl slTy_23 rfl rfl (r3.from0 m24) (by first | omega | (simp only [List.length_cons, List.length_nil, List.length_replicate, List.length_append, List.length_take, List.length_set, List.length_map]; omega)) (by first | omega | (simp only [List.length_cons, List.length_nil, List.length_replicate, List.length_append, List.length_take, List.length_set, List.length_map]; omega)) ?_
    exact wl_finT (Ch.refl _ _) rfl
   ·intro _ w2 k25 _
    have m26 := m13.extk k25
    rintro _ rfl _ rfl _ rfl _ _ _ _ _
    show WL _ _ _ _ _ _ _
    refine wl_loadE (iV (x_a.getD k 0)) wN rfl rfl rfl rfl isAgg_3 (r3.from0 m26) (iget (by simp) (by first | omega | (simp only [List.length_cons, List.length_nil, List.length_replicate, List.length_append, List.length_take, List.length_set, List.length_map]; omega))) ?_
    exact wl_finT (Ch.refl _ _) rfl
   ·intro _ w2 k27 _
    have m28 := m13.extk k27
    rintro _ _ _ _ _ _ _ _
    show WL _ _ _ _ _ _ _
    refine mv (vs a6 x_b.length c7) wN ?_
    exact wl_finT (Ch.refl _ _) rfl
   ·intro _ w2 k29 _
    have m30 := m13.extk k29
    rintro _ _ _ _ _ _ _ _
    show WL _ _ _ _ _ _ _
    refine mv (vi ((k : Nat) : Int)) wN ?_
    exact wl_finT (Ch.refl _ _) rfl
   ·intro _ w2 k31 _
    have m32 := m13.extk k31
    rintro _ _ _ _ _ rfl _ rfl _ _
    show WL _ _ _ _ _ _ _
    refine wl_index wN ((k : Nat) : Int) rfl rfl rfl slTy_23 rfl rfl (r8.from0 m32) (by first | omega | (simp only [List.length_cons, List.length_nil, List.length_replicate, List.length_append, List.length_take, List.length_set, List.length_map]; omega)) (by first | omega | (simp only [List.length_cons, List.length_nil, List.length_replicate, List.length_append, List.length_take, List.length_set, List.length_map]; omega)) ?_
    exact wl_finT (Ch.refl _ _) rfl
   ·intro _ w2 k33 _
    have m34 := m13.extk k33
    rintro _ _ _ _ _ rfl _ rfl _ rfl _
    show WL _ _ _ _ _ _ _
    refine wl_loadE (iV (x_b.getD k 0)) wN rfl rfl rfl rfl isAgg_3 (r8.from0 m34) (iget (by simp) (by first | omega | (simp only [List.length_cons, List.length_nil, List.length_replicate, List.length_append, List.length_take, List.length_set, List.length_map]; omega))) ?_
    exact wl_finT (Ch.refl _ _) rfl
  ·intro _ w2 k35
   have m36 := m13.extk k35
   rintro _ rfl _ rfl _ rfl _ rfl _ rfl _ rfl _ rfl _ rfl
   show WL _ _ _ _ _ _ _
   refine pu (vb (!(decide ((x_a.getD k 0) = (x_b.getD k 0))))) wN ?_
   refine wl_nil <| wq_then ?_
   rcases bf (decide ((x_a.getD k 0) = (x_b.getD k 0))) with h37 | h37
   ·have q39 := of_decide_eq_false h37
    refine ct (congrArg not h37) ?_
    refine sr ?_
    refine ag (vb false) wN ?_
    refine wl_nil <| wq_then <| wc_ret <| wq_blk_ret <| wq_then_ret <| wq_then_ret <| wq_blk_ret <| wq_then_ret ?_
    refine ret_1 (.inl rfl) (vb false) rfl rfl ?_
    refine ⟨m36.keep0, ?_⟩
    have hF40 : eqI x_a x_b = false := by first | exact eqI_len (by assumption) | exact eqI_el (by assumption) | exact eqI_all (by assumption) (by omega) (by omega)
    rw [hF40]
    exact rfl
   have q38 := of_decide_eq_true h37
   refine cf (congrArg not h37) ?_
   refine wc_skip <| wq_blk_normal <| wq_then <| wc_region ?_
   refine mv (vi ((k : Nat) : Int)) wN ?_
   refine ar (((k : Nat) : Int) + 1) wN ?_
   refine ag (vi (((k : Nat) : Int) + 1)) wN ?_
   refine wl_nil ?_
   refine wq_loopN (w0 := w1) [(vs a1 x_a.length c2), (vs a6 x_b.length c7), U, U, u4x, (vi (((k + 1) : Nat) : Int)), (vs a1 x_a.length c2), (vi (x_a.length : Int)), (vs a6 x_b.length c7), (vi (x_b.length : Int)), (vb (!(decide ((x_a.length : Int) = (x_b.length : Int))))), (vi ((k : Nat) : Int)), (vs a1 x_a.length c2), (vi (x_a.length : Int)), (vb (decide (((k : Nat) : Int) < (x_a.length : Int)))), (vi ((k : Nat) : Int)), (vi (((k : Nat) : Int) + 1)), (vs a1 x_a.length c2), (vi ((k : Nat) : Int)), (ve (vs a1 x_a.length c2) ((((k : Nat) : Int)).toNat * 1)), (vi (x_a.getD k 0)), (vs a6 x_b.length c7), (vi ((k : Nat) : Int)), (ve (vs a6 x_b.length c7) ((((k : Nat) : Int)).toNat * 1)), (vi (x_b.getD k 0)), (vb (!(decide ((x_a.getD k 0) = (x_b.getD k 0)))))] rfl ?_ ?_ ?_
   · exact ⟨rfl, rfl, rfl, rfl, rfl, (congrArg (Value.int .i64) (show ((((k : Nat) : Int) + 1) : Int) = (((k + 1) : Nat) : Int) by omega)), rfl, rfl, rfl, rfl, rfl, rfl, rfl, rfl, rfl, rfl, rfl, rfl, rfl, rfl, rfl, rfl, rfl, rfl, rfl, rfl, trivial⟩
   · exact ⟨(k + 1), u4x, (vi ((k : Nat) : Int)), (vs a1 x_a.length c2), (vi (x_a.length : Int)), (vb (decide (((k : Nat) : Int) < (x_a.length : Int)))), (vi ((k : Nat) : Int)), (vi (((k : Nat) : Int) + 1)), (vs a1 x_a.length c2), (vi ((k : Nat) : Int)), (ve (vs a1 x_a.length c2) ((((k : Nat) : Int)).toNat * 1)), (vi (x_a.getD k 0)), (vs a6 x_b.length c7), (vi ((k : Nat) : Int)), (ve (vs a6 x_b.length c7) ((((k : Nat) : Int)).toNat * 1)), (vi (x_b.getD k 0)), (vb (!(decide ((x_a.getD k 0) = (x_b.getD k 0))))), rfl, m36, (((Ch.refl (fun k => w0.heap.size ≤ k) w0).ext k14 (fun k hk => Nat.le_trans (Nat.le_refl _) hk)).extk k35), (by omega), (by first | rfl | exact eqI_next (by assumption) (by omega) (by omega) (by assumption))⟩
   · show x_a.length - ((((k + 1) : Nat) : Int)).toNat < x_a.length - (((k : Nat) : Int)).toNat; omega

def F_laws_eqWin (x_a : PWin) (x_b : PWin) : (Bool) := bif (decide (x_a.Top = x_b.Top)) then (bif (eqI x_a.Bits x_b.Bits) then (true) else (false)) else (false)
theorem C_laws_eqWin (w0 : World) (v_x_a : Value) (x_a : PWin) (r_x_a : R_25 w0 v_x_a x_a) (v_x_b : Value) (x_b : PWin) (r_x_b : R_25 w0 v_x_b x_b)  : Fn Try.prog 105 #[v_x_a, v_x_b] w0 (fun v w' => Keep w0 w' ∧ O_4 w' w0.heap.size v (F_laws_eqWin x_a x_b)) := by
 obtain ⟨a1, c2, rfl, r3, s4⟩ := r_x_a
 obtain ⟨a6, c7, rfl, r8, s9⟩ := r_x_b
 refine fn_of (n := 16) (l := [(va (L_25 x_a a1 c2)), (va (L_25 x_b a6 c7)), U, U, U, U, U, U, U, U, U, U, U, U, U, U]) Try.func105 rfl rfl (by kernel_rfl) rfl ?_
 refine sr ?_
 refine bx (L_25 x_a a1 c2) wN ?_
 intro g11 w1 p12 p13 k14 b15
 have m16 := (Ch.base w0).extk k14
 refine bx (L_25 x_b a6 c7) wN ?_
 intro g17 w2 p18 p19 k20 b21
 have m22 := m16.extk k20
 refine ag (vb false) wN ?_
 refine wl_nil <| wq_then <| wc_seq <| sr ?_
 refine pu (vp g11 0) wN ?_
 have b23 := (b15.kp k20)
 refine ld (vi x_a.Top) wN isAgg_3 b23 ?_
 refine pu (vp g17 0) wN ?_
 refine ld (vi x_b.Top) wN isAgg_3 b21 ?_
 refine pu (vb (!(decide (x_a.Top = x_b.Top)))) wN ?_
 refine wl_nil <| wq_then ?_
 rcases bf (decide (x_a.Top = x_b.Top)) with h24 | h24
 ·have q33 := of_decide_eq_false h24
  refine ct (congrArg not h24) ?_
  refine sr ?_
  refine ag (vb false) wN ?_
  refine wl_nil <| wq_then <| wc_ret <| wq_then_ret ?_
  refine ret_1 (.inl rfl) (vb false) rfl rfl ?_
  refine ⟨m22.keep0, ?_⟩
  have hF34 : F_laws_eqWin x_a x_b = false := by simp only [F_laws_eqWin, h24, cond_true, cond_false]
  rw [hF34]
  exact rfl
 have q25 := of_decide_eq_true h24
 refine cf (congrArg not h24) ?_
 refine wc_skip <| wq_then <| wc_seq <| sr ?_
 refine pu (vp g11 1) wN ?_
 refine ld (vs a1 x_a.Bits.length c2) wN isAgg_23 b23 ?_
 refine pu (vp g17 1) wN ?_
 refine ld (vs a6 x_b.Bits.length c7) wN isAgg_23 b21 ?_
 refine cl wN (C_laws_eqIntS w2 _ x_a.Bits (mR_23 (r3.from0 m22) s4) _ x_b.Bits (mR_23 (r8.from0 m22) s9)) ?_
 rintro _ w3 ⟨k26, rfl⟩
 have m27 := m22.extk k26
 refine pu (vb (!(eqI x_a.Bits x_b.Bits))) wN ?_
 refine wl_nil <| wq_then ?_
 rcases bf (eqI x_a.Bits x_b.Bits) with h28 | h28
 ·refine ct (congrArg not h28) ?_
  refine sr ?_
  refine ag (vb false) wN ?_
  refine wl_nil <| wq_then <| wc_ret <| wq_then_ret ?_
  refine ret_1 (.inl rfl) (vb false) rfl rfl ?_
  refine ⟨m27.keep0, ?_⟩
  have hF32 : F_laws_eqWin x_a x_b = false := by simp only [F_laws_eqWin, h24, h28, cond_true, cond_false]
  rw [hF32]
  exact rfl
 refine cf (congrArg not h28) ?_
 refine wc_skip <| wq_then <| sr ?_
 refine ag (vb true) wN ?_
 refine wl_nil <| wq_then <| wc_ret ?_
 refine ret_1 (.inl rfl) (vb true) rfl rfl ?_
 refine ⟨m27.keep0, ?_⟩
 have hF30 : F_laws_eqWin x_a x_b = true := by simp only [F_laws_eqWin, h24, h28, cond_true, cond_false]
 rw [hF30]
 exact rfl

def F_laws_eqEp (x_a : PEp) (x_b : PEp) : (Bool) := bif (decide (x_a.N = x_b.N)) then (bif (eqB x_a.Key x_b.Key) then (bif (decide (x_a.Seq = x_b.Seq)) then (bif (F_laws_eqWin x_a.Win x_b.Win) then (true) else (false)) else (false)) else (false)) else (false)
theorem C_laws_eqEp (w0 : World) (v_x_a : Value) (x_a : PEp) (r_x_a : R_27 w0 v_x_a x_a) (v_x_b : Value) (x_b : PEp) (r_x_b : R_27 w0 v_x_b x_b)  : Fn Try.prog 71 #[v_x_a, v_x_b] w0 (fun v w' => Keep w0 w' ∧ O_4 w' w0.heap.size v (F_laws_eqEp x_a x_b)) := by
 obtain ⟨a1, c2, a6, c7, rfl, r3, s4, r8, s9⟩ := r_x_a
 obtain ⟨a11, c12, a16, c17, rfl, r13, s14, r18, s19⟩ := r_x_b
 refine fn_of (n := 27) (l := [(va (L_27 x_a a1 c2 a6 c7)), (va (L_27 x_b a11 c12 a16 c17)), U, U, U, U, U, U, U, U, U, U, U, U, U, U, U, U, U, U, U, U, U, U, U, U, U]) Try.func71 rfl rfl (by kernel_rfl) rfl ?_
 refine sr ?_
 refine bx (L_27 x_a a1 c2 a6 c7) wN ?_
 intro g21 w1 p22 p23 k24 b25
 have m26 := (Ch.base w0).extk k24
 refine bx (L_27 x_b a11 c12 a16 c17) wN ?_
 intro g27 w2 p28 p29 k30 b31
 have m32 := m26.extk k30
 refine ag (vb false) wN ?_
 refine wl_nil <| wq_then <| wc_seq <| sr ?_
 refine pu (vp g21 0) wN ?_
 have b33 := (b25.kp k30)
 refine ld (vi x_a.N) wN isAgg_3 b33 ?_
 refine pu (vp g27 0) wN ?_
 refine ld (vi x_b.N) wN isAgg_3 b31 ?_
 refine pu (vb (!(decide (x_a.N = x_b.N)))) wN ?_
 refine wl_nil <| wq_then ?_
 rcases bf (decide (x_a.N = x_b.N)) with h34 | h34
 ·have q55 := of_decide_eq_false h34
  refine ct (congrArg not h34) ?_
  refine sr ?_
  refine ag (vb false) wN ?_
  refine wl_nil <| wq_then <| wc_ret <| wq_then_ret ?_
  refine ret_1 (.inl rfl) (vb false) rfl rfl ?_
  refine ⟨m32.keep0, ?_⟩
  have hF56 : F_laws_eqEp x_a x_b = false := by simp only [F_laws_eqEp, h34, cond_true, cond_false]
  rw [hF56]
  exact rfl
 have q35 := of_decide_eq_true h34
 refine cf (congrArg not h34) ?_
 refine wc_skip <| wq_then <| wc_seq <| sr ?_
 refine pu (vp g21 1) wN ?_
 refine ld (vs a1 x_a.Key.length c2) wN isAgg_22 b33 ?_
 refine pu (vp g27 1) wN ?_
 refine ld (vs a11 x_b.Key.length c12) wN isAgg_22 b31 ?_
 refine cl wN (C_laws_eqByteS w2 _ x_a.Key (mR_22 (r3.from0 m32) s4) _ x_b.Key (mR_22 (r13.from0 m32) s14)) ?_
 rintro _ w3 ⟨k36, rfl⟩
 have m37 := m32.extk k36
 refine pu (vb (!(eqB x_a.Key x_b.Key))) wN ?_
 refine wl_nil <| wq_then ?_
 rcases bf (eqB x_a.Key x_b.Key) with h38 | h38
 ·refine ct (congrArg not h38) ?_
  refine sr ?_
  refine ag (vb false) wN ?_
  refine wl_nil <| wq_then <| wc_ret <| wq_then_ret ?_
  refine ret_1 (.inl rfl) (vb false) rfl rfl ?_
  refine ⟨m37.keep0, ?_⟩
  have hF54 : F_laws_eqEp x_a x_b = false := by simp only [F_laws_eqEp, h34, h38, cond_true, cond_false]
  rw [hF54]
  exact rfl
 refine cf (congrArg not h38) ?_
 refine wc_skip <| wq_then <| wc_seq <| sr ?_
 refine pu (vp g21 2) wN ?_
 have b40 := (b33.kp k36)
 refine ld (vi x_a.Seq) wN isAgg_3 b40 ?_
 refine pu (vp g27 2) wN ?_
 have b41 := (b31.kp k36)
 refine ld (vi x_b.Seq) wN isAgg_3 b41 ?_
 refine pu (vb (!(decide (x_a.Seq = x_b.Seq)))) wN ?_
 refine wl_nil <| wq_then ?_
 rcases bf (decide (x_a.Seq = x_b.Seq)) with h42 | h42
 ·have q51 := of_decide_eq_false h42
  refine ct (congrArg not h42) ?_
  refine sr ?_
  refine ag (vb false) wN ?_
  refine wl_nil <| wq_then <| wc_ret <| wq_then_ret ?_
  refine ret_1 (.inl rfl) (vb false) rfl rfl ?_
  refine ⟨m37.keep0, ?_⟩
  have hF52 : F_laws_eqEp x_a x_b = false := by simp only [F_laws_eqEp, h34, h38, h42, cond_true, cond_false]
  rw [hF52]
  exact rfl
 have q43 := of_decide_eq_true h42
 refine cf (congrArg not h42) ?_
 refine wc_skip <| wq_then <| wc_seq <| sr ?_
 refine pu (vp g21 3) wN ?_
 refine lN (L_25 x_a.Win a6 c7) wN isAgg_25 sizeOf_25 b40 ?_
 refine pu (vp g27 3) wN ?_
 refine lN (L_25 x_b.Win a16 c17) wN isAgg_25 sizeOf_25 b41 ?_
 refine cl wN (C_laws_eqWin w3 _ x_a.Win (mR_25 (r8.from0 m37) s9) _ x_b.Win (mR_25 (r18.from0 m37) s19)) ?_
 rintro _ w4 ⟨k44, rfl⟩
 have m45 := m37.extk k44
 refine pu (vb (!(F_laws_eqWin x_a.Win x_b.Win))) wN ?_
 refine wl_nil <| wq_then ?_
 rcases bf (F_laws_eqWin x_a.Win x_b.Win) with h46 | h46
 ·refine ct (congrArg not h46) ?_
  refine sr ?_
  refine ag (vb false) wN ?_
  refine wl_nil <| wq_then <| wc_ret <| wq_then_ret ?_
  refine ret_1 (.inl rfl) (vb false) rfl rfl ?_
  refine ⟨m45.keep0, ?_⟩
  have hF50 : F_laws_eqEp x_a x_b = false := by simp only [F_laws_eqEp, h34, h38, h42, h46, cond_true, cond_false]
  rw [hF50]
  exact rfl
 refine cf (congrArg not h46) ?_
 refine wc_skip <| wq_then <| sr ?_
 refine ag (vb true) wN ?_
 refine wl_nil <| wq_then <| wc_ret ?_
 refine ret_1 (.inl rfl) (vb true) rfl rfl ?_
 refine ⟨m45.keep0, ?_⟩
 have hF48 : F_laws_eqEp x_a x_b = true := by simp only [F_laws_eqEp, h34, h38, h42, h46, cond_true, cond_false]
 rw [hF48]
 exact rfl

def F_laws_eqChan (x_a : PChan) (x_b : PChan) : (Bool) := bif (decide (x_a.Role = x_b.Role)) then (bif (eqB x_a.Sn x_b.Sn) then (bif (F_laws_eqEp x_a.Cur x_b.Cur) then (bif (F_laws_eqEp x_a.Old x_b.Old) then (bif (x_a.HasOld == x_b.HasOld) then (bif (decide (x_a.Until = x_b.Until)) then (bif (eqB x_a.Next x_b.Next) then (true) else (false)) else (false)) else (false)) else (false)) else (false)) else (false)) else (false)
theorem C_laws_eqChan (w0 : World) (v_x_a : Value) (x_a : PChan) (r_x_a : R_29 w0 v_x_a x_a) (v_x_b : Value) (x_b : PChan) (r_x_b : R_29 w0 v_x_b x_b)  : Fn Try.prog 18 #[v_x_a, v_x_b] w0 (fun v w' => Keep w0 w' ∧ O_4 w' w0.heap.size v (F_laws_eqChan x_a x_b)) := by
 obtain ⟨a1, c2, a6, c7, a11, c12, a16, c17, a21, c22, a26, c27, rfl, r3, s4, r8, s9, r13, s14, r18, s19, r23, s24, r28, s29⟩ := r_x_a
 obtain ⟨a31, c32, a36, c37, a41, c42, a46, c47, a51, c52, a56, c57, rfl, r33, s34, r38, s39, r43, s44, r48, s49, r53, s54, r58, s59⟩ := r_x_b
 refine fn_of (n := 44) (l := [(va (L_29 x_a a1 c2 a6 c7 a11 c12 a16 c17 a21 c22 a26 c27)), (va (L_29 x_b a31 c32 a36 c37 a41 c42 a46 c47 a51 c52 a56 c57)), U, U, U, U, U, U, U, U, U, U, U, U, U, U, U, U, U, U, U, U, U, U, U, U, U, U, U, U, U, U, U, U, U, U, U, U, U, U, U, U, U, U]) Try.func18 rfl rfl (by kernel_rfl) rfl ?_
 refine sr ?_
 refine bx (L_29 x_a a1 c2 a6 c7 a11 c12 a16 c17 a21 c22 a26 c27) wN ?_
 intro g61 w1 p62 p63 k64 b65
 have m66 := (Ch.base w0).extk k64
 refine bx (L_29 x_b a31 c32 a36 c37 a41 c42 a46 c47 a51 c52 a56 c57) wN ?_
 intro g67 w2 p68 p69 k70 b71
 have m72 := m66.extk k70
 refine ag (vb false) wN ?_
 refine wl_nil <| wq_then <| wc_seq <| sr ?_
 refine pu (vp g61 0) wN ?_
 have b73 := (b65.kp k70)
 refine ld (vi x_a.Role) wN isAgg_3 b73 ?_
 refine pu (vp g67 0) wN ?_
 refine ld (vi x_b.Role) wN isAgg_3 b71 ?_
 refine pu (vb (!(decide (x_a.Role = x_b.Role)))) wN ?_
 refine wl_nil <| wq_then ?_
 rcases bf (decide (x_a.Role = x_b.Role)) with h74 | h74
 ·have q115 := of_decide_eq_false h74
  refine ct (congrArg not h74) ?_
  refine sr ?_
  refine ag (vb false) wN ?_
  refine wl_nil <| wq_then <| wc_ret <| wq_then_ret ?_
  refine ret_1 (.inl rfl) (vb false) rfl rfl ?_
  refine ⟨m72.keep0, ?_⟩
  have hF116 : F_laws_eqChan x_a x_b = false := by simp only [F_laws_eqChan, h74, cond_true, cond_false]
  rw [hF116]
  exact rfl
 have q75 := of_decide_eq_true h74
 refine cf (congrArg not h74) ?_
 refine wc_skip <| wq_then <| wc_seq <| sr ?_
 refine pu (vp g61 1) wN ?_
 refine ld (vs a1 x_a.Sn.length c2) wN isAgg_22 b73 ?_
 refine pu (vp g67 1) wN ?_
 refine ld (vs a31 x_b.Sn.length c32) wN isAgg_22 b71 ?_
 refine cl wN (C_laws_eqByteS w2 _ x_a.Sn (mR_22 (r3.from0 m72) s4) _ x_b.Sn (mR_22 (r33.from0 m72) s34)) ?_
 rintro _ w3 ⟨k76, rfl⟩
 have m77 := m72.extk k76
 refine pu (vb (!(eqB x_a.Sn x_b.Sn))) wN ?_
 refine wl_nil <| wq_then ?_
 rcases bf (eqB x_a.Sn x_b.Sn) with h78 | h78
 ·refine ct (congrArg not h78) ?_
  refine sr ?_
  refine ag (vb false) wN ?_
  refine wl_nil <| wq_then <| wc_ret <| wq_then_ret ?_
  refine ret_1 (.inl rfl) (vb false) rfl rfl ?_
  refine ⟨m77.keep0, ?_⟩
  have hF114 : F_laws_eqChan x_a x_b = false := by simp only [F_laws_eqChan, h74, h78, cond_true, cond_false]
  rw [hF114]
  exact rfl
 refine cf (congrArg not h78) ?_
 refine wc_skip <| wq_then <| wc_seq <| sr ?_
 refine pu (vp g61 2) wN ?_
 have b80 := (b73.kp k76)
 refine lN (L_27 x_a.Cur a6 c7 a11 c12) wN isAgg_27 sizeOf_27 b80 ?_
 refine pu (vp g67 2) wN ?_
 have b81 := (b71.kp k76)
 refine lN (L_27 x_b.Cur a36 c37 a41 c42) wN isAgg_27 sizeOf_27 b81 ?_
 refine cl wN (C_laws_eqEp w3 _ x_a.Cur (mR_27 (r8.from0 m77) s9 (r13.from0 m77) s14) _ x_b.Cur (mR_27 (r38.from0 m77) s39 (r43.from0 m77) s44)) ?_
 rintro _ w4 ⟨k82, rfl⟩
 have m83 := m77.extk k82
 refine pu (vb (!(F_laws_eqEp x_a.Cur x_b.Cur))) wN ?_
 refine wl_nil <| wq_then ?_
 rcases bf (F_laws_eqEp x_a.Cur x_b.Cur) with h84 | h84
 ·refine ct (congrArg not h84) ?_
  refine sr ?_
  refine ag (vb false) wN ?_
  refine wl_nil <| wq_then <| wc_ret <| wq_then_ret ?_
  refine ret_1 (.inl rfl) (vb false) rfl rfl ?_
  refine ⟨m83.keep0, ?_⟩
  have hF112 : F_laws_eqChan x_a x_b = false := by simp only [F_laws_eqChan, h74, h78, h84, cond_true, cond_false]
  rw [hF112]
  exact rfl
 refine cf (congrArg not h84) ?_
 refine wc_skip <| wq_then <| wc_seq <| sr ?_
 refine pu (vp g61 7) wN ?_
 have b86 := (b80.kp k82)
 refine lN (L_27 x_a.Old a16 c17 a21 c22) wN isAgg_27 sizeOf_27 b86 ?_
 refine pu (vp g67 7) wN ?_
 have b87 := (b81.kp k82)
 refine lN (L_27 x_b.Old a46 c47 a51 c52) wN isAgg_27 sizeOf_27 b87 ?_
 refine cl wN (C_laws_eqEp w4 _ x_a.Old (mR_27 (r18.from0 m83) s19 (r23.from0 m83) s24) _ x_b.Old (mR_27 (r48.from0 m83) s49 (r53.from0 m83) s54)) ?_
 rintro _ w5 ⟨k88, rfl⟩
 have m89 := m83.extk k88
 refine pu (vb (!(F_laws_eqEp x_a.Old x_b.Old))) wN ?_
 refine wl_nil <| wq_then ?_
 rcases bf (F_laws_eqEp x_a.Old x_b.Old) with h90 | h90
 ·refine ct (congrArg not h90) ?_
  refine sr ?_
  refine ag (vb false) wN ?_
  refine wl_nil <| wq_then <| wc_ret <| wq_then_ret ?_
  refine ret_1 (.inl rfl) (vb false) rfl rfl ?_
  refine ⟨m89.keep0, ?_⟩
  have hF110 : F_laws_eqChan x_a x_b = false := by simp only [F_laws_eqChan, h74, h78, h84, h90, cond_true, cond_false]
  rw [hF110]
  exact rfl
 refine cf (congrArg not h90) ?_
 refine wc_skip <| wq_then <| wc_seq <| sr ?_
 refine pu (vp g61 12) wN ?_
 have b92 := (b86.kp k88)
 refine ld (vb x_a.HasOld) wN isAgg_4 b92 ?_
 refine pu (vp g67 12) wN ?_
 have b93 := (b87.kp k88)
 refine ld (vb x_b.HasOld) wN isAgg_4 b93 ?_
 refine pu (vb (!(x_a.HasOld == x_b.HasOld))) wN ?_
 refine wl_nil <| wq_then ?_
 rcases bf (x_a.HasOld == x_b.HasOld) with h94 | h94
 ·refine ct (congrArg not h94) ?_
  refine sr ?_
  refine ag (vb false) wN ?_
  refine wl_nil <| wq_then <| wc_ret <| wq_then_ret ?_
  refine ret_1 (.inl rfl) (vb false) rfl rfl ?_
  refine ⟨m89.keep0, ?_⟩
  have hF108 : F_laws_eqChan x_a x_b = false := by simp only [F_laws_eqChan, h74, h78, h84, h90, h94, cond_true, cond_false]
  rw [hF108]
  exact rfl
 refine cf (congrArg not h94) ?_
 refine wc_skip <| wq_then <| wc_seq <| sr ?_
 refine pu (vp g61 13) wN ?_
 refine ld (vi x_a.Until) wN isAgg_3 b92 ?_
 refine pu (vp g67 13) wN ?_
 refine ld (vi x_b.Until) wN isAgg_3 b93 ?_
 refine pu (vb (!(decide (x_a.Until = x_b.Until)))) wN ?_
 refine wl_nil <| wq_then ?_
 rcases bf (decide (x_a.Until = x_b.Until)) with h96 | h96
 ·have q105 := of_decide_eq_false h96
  refine ct (congrArg not h96) ?_
  refine sr ?_
  refine ag (vb false) wN ?_
  refine wl_nil <| wq_then <| wc_ret <| wq_then_ret ?_
  refine ret_1 (.inl rfl) (vb false) rfl rfl ?_
  refine ⟨m89.keep0, ?_⟩
  have hF106 : F_laws_eqChan x_a x_b = false := by simp only [F_laws_eqChan, h74, h78, h84, h90, h94, h96, cond_true, cond_false]
  rw [hF106]
  exact rfl
 have q97 := of_decide_eq_true h96
 refine cf (congrArg not h96) ?_
 refine wc_skip <| wq_then <| wc_seq <| sr ?_
 refine pu (vp g61 14) wN ?_
 refine ld (vs a26 x_a.Next.length c27) wN isAgg_22 b92 ?_
 refine pu (vp g67 14) wN ?_
 refine ld (vs a56 x_b.Next.length c57) wN isAgg_22 b93 ?_
 refine cl wN (C_laws_eqByteS w5 _ x_a.Next (mR_22 (r28.from0 m89) s29) _ x_b.Next (mR_22 (r58.from0 m89) s59)) ?_
 rintro _ w6 ⟨k98, rfl⟩
 have m99 := m89.extk k98
 refine pu (vb (!(eqB x_a.Next x_b.Next))) wN ?_
 refine wl_nil <| wq_then ?_
 rcases bf (eqB x_a.Next x_b.Next) with h100 | h100
 ·refine ct (congrArg not h100) ?_
  refine sr ?_
  refine ag (vb false) wN ?_
  refine wl_nil <| wq_then <| wc_ret <| wq_then_ret ?_
  refine ret_1 (.inl rfl) (vb false) rfl rfl ?_
  refine ⟨m99.keep0, ?_⟩
  have hF104 : F_laws_eqChan x_a x_b = false := by simp only [F_laws_eqChan, h74, h78, h84, h90, h94, h96, h100, cond_true, cond_false]
  rw [hF104]
  exact rfl
 refine cf (congrArg not h100) ?_
 refine wc_skip <| wq_then <| sr ?_
 refine ag (vb true) wN ?_
 refine wl_nil <| wq_then <| wc_ret ?_
 refine ret_1 (.inl rfl) (vb true) rfl rfl ?_
 refine ⟨m99.keep0, ?_⟩
 have hF102 : F_laws_eqChan x_a x_b = true := by simp only [F_laws_eqChan, h74, h78, h84, h90, h94, h96, h100, cond_true, cond_false]
 rw [hF102]
 exact rfl

theorem C_laws_markByteS_own (w0 : World) (a : Option Addr) (c : Nat) (x : List UInt8) (lo : Nat) (k : Int) (h0 : 0 ≤ k) (h1 : k ≤ 9000000000000000000) (hs : x.length ≤ 1073741824) (r : w0.ownsRow lo 5 1 (.slice a x.length c) x.length (x.map bV)) :
    Fn Try.prog 20 #[(.slice a x.length c), .int .i64 k] w0 (fun v w' => v = .int .i64 (k + x.length) ∧ Ch (fun b => (Value.slice a x.length c).ownBlock = some b) w0 w' ∧ w'.ownsRow lo 5 1 (.slice a x.length c) x.length ((marksB k x.length).map bV)) := by
 refine fn_of (n := 20) (l := [(.slice a x.length c), (.int .i64 k), undef, undef, undef, undef, undef, undef, undef, undef, undef, undef, undef, undef, undef, undef, undef, undef, undef, undef]) Try.func20 rfl rfl (by kernel_rfl) rfl ?_
 refine sr ?_
 refine ag (vi 0) wN ?_
 refine wl_nil <| wq_then <| wc_seq <| sr ?_
 refine ag (vi 0) wN ?_
 refine wl_nil <| wq_then <| wc_block ?_
 refine wc_norm [(vs a x.length c), (vi k), U, U, (vi 0), (vi 0), U, U, U, U, U, U, U, U, U, U, U, U, U, U] rfl ⟨rfl, rfl, rfl, rfl, rfl, rfl, rfl, rfl, rfl, rfl, rfl, rfl, rfl, rfl, rfl, rfl, rfl, rfl, rfl, rfl, trivial⟩ ?_
 refine wc_loop (fun e' w' => ∃ (i : Nat) (u6x u7x u8x u9x u10x u11x u12x u13x u14x u15x u16x u17x u18x : Value), e' = lst [(vs a x.length c), (vi (k + ((i : Nat) : Int))), U, U, (vi 0), (vi ((i : Nat) : Int)), u6x, u7x, u8x, u9x, u10x, u11x, u12x, u13x, u14x, u15x, u16x, u17x, u18x, U] ∧ i ≤ x.length ∧ Ch (fun b => (Value.slice a x.length c).ownBlock = some b) w0 w' ∧ w'.ownsRow lo 5 1 (.slice a x.length c) x.length ((marksB k i ++ x.drop i).map bV)) (fun e' _ => x.length - (intOf (e' 5)).toNat) ?_ ?_
 ·exact ⟨0, U, U, U, U, U, U, U, U, U, U, U, U, U, congrArg (fun (p : Value) => lst [(vs a x.length c), p, U, U, (vi 0), (vi 0), U, U, U, U, U, U, U, U, U, U, U, U, U, U]) (congrArg (Value.int .i64) (show k = k + ((0 : Nat) : Int) by omega)), Nat.zero_le _, Ch.refl _ _, by simpa [marksB] using r⟩
 ·rintro _ w1 ⟨i, u6x, u7x, u8x, u9x, u10x, u11x, u12x, u13x, u14x, u15x, u16x, u17x, u18x, rfl, hi, hc, ho⟩
  refine wc_seq <| sr ?_
  refine mv (vi ((i : Nat) : Int)) wN ?_
  refine mv (vs a x.length c) wN ?_
  refine ln wN slTy_22 (Rd.of_own ho) ?_
  refine pu (vb (decide (((i : Nat) : Int) < (x.length : Int)))) wN ?_
  refine wl_nil <| wq_then ?_
  rcases bf (decide (((i : Nat) : Int) < (x.length : Int))) with h101 | h101
  ·have q105 := of_decide_eq_false h101
   refine cf h101 ?_
   refine wc_exit <| wq_then_exit <| wq_then_exit <| wq_blk_exit <| wq_then <| sr ?_
   refine mv (vi (k + ((i : Nat) : Int))) wN ?_
   refine ag (vi (k + ((i : Nat) : Int))) wN ?_
   refine wl_nil <| wq_then <| wc_ret ?_
   have hI : i = x.length := by omega
   subst hI
   refine ret_1 (.inl rfl) (vi (k + ((x.length : Nat) : Int))) rfl rfl ⟨rfl, hc, ?_⟩
   simpa using ho
  have q102 := of_decide_eq_true h101
  refine ct h101 ?_
  refine wc_skip <| wq_then <| wc_seq <| wc_block <| sr ?_
  refine mv (vs a x.length c) wN ?_
  refine mv (vi ((i : Nat) : Int)) wN ?_
  refine mv (vi (k + ((i : Nat) : Int))) wN ?_
  refine wl_conv8 (k + ((i : Nat) : Int)) wN rfl rfl (by kernel_rfl) ?_
  refine wl_index wN ((i : Nat) : Int) rfl rfl rfl slTy_22 rfl rfl (Rd.of_own ho) (by first | omega | (simp only [List.length_cons, List.length_nil, List.length_replicate, List.length_append, List.length_take, List.length_set, List.length_map]; omega)) (by first | omega | (simp only [List.length_cons, List.length_nil, List.length_replicate, List.length_append, List.length_take, List.length_set, List.length_map]; omega)) ?_
  refine wl_storeB ((marksB k i ++ x.drop i)) i ((by8 (k + ((i : Nat) : Int)))) wN rfl rfl rfl (by simp) rfl sizeOf_5 ho (by simp only [List.length_append, List.length_drop, marksB_len]; omega) ?_
  intro w2 k103 o104
  refine wl_nil <| wq_then <| wc_region ?_
  refine mv (vi (k + ((i : Nat) : Int))) wN ?_
  refine ar ((k + ((i : Nat) : Int)) + 1) wN ?_
  refine ag (vi ((k + ((i : Nat) : Int)) + 1)) wN ?_
  refine wl_nil <| wq_blk_normal <| wq_then <| wc_region ?_
  refine mv (vi ((i : Nat) : Int)) wN ?_
  refine ar (((i : Nat) : Int) + 1) wN ?_
  refine ag (vi (((i : Nat) : Int) + 1)) wN ?_
  refine wl_nil ?_
  have hE : (((marksB k i ++ x.drop i)).set i ((by8 (k + ((i : Nat) : Int))))) = marksB k (i + 1) ++ x.drop (i + 1) := by
   rw [List.set_append_right _ _ (by rw [marksB_len]; omega), marksB_len, Nat.sub_self, List.drop_eq_getElem_cons (by omega), List.set_cons_zero, marksB_snoc]
   simp
  rw [hE] at o104
  exact wq_loopN (w0 := w1) [(vs a x.length c), (vi (k + ((i + 1 : Nat) : Int))), U, U, (vi 0), (vi ((i + 1 : Nat) : Int)), (vi ((i : Nat) : Int)), (vs a x.length c), (vi (x.length : Int)), (vb (decide (((i : Nat) : Int) < (x.length : Int)))), (vi ((i : Nat) : Int)), (vi (((i : Nat) : Int) + 1)), (vs a x.length c), (vi ((i : Nat) : Int)), (vi (k + ((i : Nat) : Int))), (v8 ((by8 (k + ((i : Nat) : Int))).toNat : Int)), (ve (vs a x.length c) ((((i : Nat) : Int)).toNat * 1)), (vi (k + ((i : Nat) : Int))), (vi ((k + ((i : Nat) : Int)) + 1)), U] rfl ⟨rfl, (congrArg (Value.int .i64) (show (((k + ((i : Nat) : Int)) + 1) : Int) = (k + ((i + 1 : Nat) : Int)) by omega)), rfl, rfl, rfl, (congrArg (Value.int .i64) (show ((((i : Nat) : Int) + 1) : Int) = ((i + 1 : Nat) : Int) by omega)), rfl, rfl, rfl, rfl, rfl, rfl, rfl, rfl, rfl, rfl, rfl, rfl, rfl, rfl, trivial⟩ ⟨i + 1, (vi ((i : Nat) : Int)), (vs a x.length c), (vi (x.length : Int)), (vb (decide (((i : Nat) : Int) < (x.length : Int)))), (vi ((i : Nat) : Int)), (vi (((i : Nat) : Int) + 1)), (vs a x.length c), (vi ((i : Nat) : Int)), (vi (k + ((i : Nat) : Int))), (v8 ((by8 (k + ((i : Nat) : Int))).toNat : Int)), (ve (vs a x.length c) ((((i : Nat) : Int)).toNat * 1)), (vi (k + ((i : Nat) : Int))), (vi ((k + ((i : Nat) : Int)) + 1)), rfl, by omega, hc.comp k103 (fun _ _ h => h), o104⟩ (by show x.length - (((i + 1 : Nat) : Int)).toNat < x.length - (((i : Nat) : Int)).toNat; omega)
theorem C_laws_markByteS_nil (w0 : World) (a : Option Addr) (c : Nat) (k : Int) (r : Rd w0 1 (.slice a 0 c) 0 []) :
    Fn Try.prog 20 #[.slice a 0 c, .int .i64 k] w0 (fun v w' => v = .int .i64 k ∧ w' = w0) := by
 have hz : decide ((0 : Int) < ((0 : Nat) : Int)) = false := by decide
 refine fn_of (n := 20) (l := [(.slice a 0 c), (.int .i64 k), undef, undef, undef, undef, undef, undef, undef, undef, undef, undef, undef, undef, undef, undef, undef, undef, undef, undef]) Try.func20 rfl rfl (by kernel_rfl) rfl ?_
 refine sr ?_
 refine ag (vi 0) wN ?_
 refine wl_nil <| wq_then <| wc_seq <| sr ?_
 refine ag (vi 0) wN ?_
 refine wl_nil <| wq_then <| wc_block ?_
 refine wc_norm [(vs a 0 c), (vi k), U, U, (vi 0), (vi 0), U, U, U, U, U, U, U, U, U, U, U, U, U, U] rfl ⟨rfl, rfl, rfl, rfl, rfl, rfl, rfl, rfl, rfl, rfl, rfl, rfl, rfl, rfl, rfl, rfl, rfl, rfl, rfl, rfl, trivial⟩ ?_
 refine wc_loop (fun e' w' => e' = lst [(vs a 0 c), (vi k), U, U, (vi 0), (vi 0), U, U, U, U, U, U, U, U, U, U, U, U, U, U] ∧ w' = w0) (fun _ _ => 0) ⟨rfl, rfl⟩ ?_
 rintro _ _ ⟨rfl, rfl⟩
 refine wc_seq <| sr ?_
 refine mv (vi 0) wN ?_
 refine mv (vs a 0 c) wN ?_
 refine ln wN slTy_22 r ?_
 refine pu (vb (decide (0 < ((0 : Nat) : Int)))) wN ?_
 refine wl_nil <| wq_then ?_
 refine cf hz ?_
 refine wc_exit <| wq_then_exit <| wq_then_exit <| wq_blk_exit <| wq_then <| sr ?_
 refine mv (vi k) wN ?_
 refine ag (vi k) wN ?_
 refine wl_nil <| wq_then <| wc_ret ?_
 exact ret_1 (.inl rfl) (vi k) rfl rfl ⟨rfl, rfl⟩
theorem C_laws_markByteS (w0 : World) (a : Option Addr) (c : Nat) (x : List UInt8) (k : Int) (h0 : 0 ≤ k) (h1 : k ≤ 9000000000000000000) (hs : x.length ≤ 1073741824) (r : Rd w0 1 (.slice a x.length c) x.length (x.map bV)) (hw : Wp w0 5 a x.length c (x.map bV)) :
    Fn Try.prog 20 #[.slice a x.length c, .int .i64 k] w0 (fun v w' => v = .int .i64 (k + x.length) ∧ Ch (MS [(a, x.length)]) w0 w' ∧ Rd w' 1 (.slice a x.length c) x.length ((marksB k x.length).map bV)) := by
  rcases Nat.eq_zero_or_pos x.length with hz | hz
  · obtain rfl : x = [] := List.eq_nil_of_length_eq_zero hz
    refine (C_laws_markByteS_nil w0 a c k r).mono ?_
    rintro _ _ ⟨rfl, rfl⟩
    exact ⟨by simp, Ch.refl _ _, r⟩
  · rcases hw with hw | ⟨lo, hw⟩
    · omega
    · refine (C_laws_markByteS_own w0 a c x lo k h0 h1 hs hw).mono ?_
      rintro _ w' ⟨rfl, hc, ho⟩
      refine ⟨rfl, hc.mono fun b _ hb => ?_, Rd.of_own ho⟩
      rcases a with _ | ad
      · cases hb
      · exact .inl ⟨hz, ad, rfl, by simpa [Value.ownBlock] using hb⟩
theorem C_laws_markByteS_w (w0 : World) (a : Option Addr) (c : Nat) (x : List UInt8) (k : Int) (h0 : 0 ≤ k) (h1 : k ≤ 9000000000000000000) (h : W1 w0 5 (a, c) x) :
    Fn Try.prog 20 #[.slice a x.length c, .int .i64 k] w0 (fun v w' => v = .int .i64 (k + x.length) ∧ Ch (MS [(a, x.length)]) w0 w' ∧ W1 w' 5 (a, c) (marksB k x.length)) := by
  rcases Nat.eq_zero_or_pos x.length with hz | hz
  · obtain rfl : x = [] := List.eq_nil_of_length_eq_zero hz
    refine (C_laws_markByteS_nil w0 a c k h.2.1).mono ?_
    rintro _ _ ⟨rfl, rfl⟩
    exact ⟨by simp, Ch.refl _ _, h⟩
  · rcases h.1 with hw | ⟨lo, hw⟩
    · omega
    · refine (C_laws_markByteS_own w0 a c x lo k h0 h1 h.2.2 hw).mono ?_
      rintro _ w' ⟨rfl, hc, ho⟩
      have hl : (marksB k x.length).length = x.length := marksB_len _ _
      refine ⟨rfl, hc.mono fun b _ hb => ?_, .inr ⟨lo, by rw [hl]; exact ho⟩, by rw [hl]; exact Rd.of_own ho, by rw [hl]; exact h.2.2⟩
      rcases a with _ | ad
      · cases hb
      · exact .inl ⟨hz, ad, rfl, by simpa [Value.ownBlock] using hb⟩

theorem C_laws_markIntS_own (w0 : World) (a : Option Addr) (c : Nat) (x : List Int) (lo : Nat) (k : Int) (h0 : 0 ≤ k) (h1 : k ≤ 9000000000000000000) (hs : x.length ≤ 1073741824) (r : w0.ownsRow lo 3 1 (.slice a x.length c) x.length (x.map iV)) :
    Fn Try.prog 120 #[(.slice a x.length c), .int .i64 k] w0 (fun v w' => v = .int .i64 (k + x.length) ∧ Ch (fun b => (Value.slice a x.length c).ownBlock = some b) w0 w' ∧ w'.ownsRow lo 3 1 (.slice a x.length c) x.length ((marksI k x.length).map iV)) := by
 refine fn_of (n := 19) (l := [(.slice a x.length c), (.int .i64 k), undef, undef, undef, undef, undef, undef, undef, undef, undef, undef, undef, undef, undef, undef, undef, undef, undef]) Try.func120 rfl rfl (by kernel_rfl) rfl ?_
 refine sr ?_
 refine ag (vi 0) wN ?_
 refine wl_nil <| wq_then <| wc_seq <| sr ?_
 refine ag (vi 0) wN ?_
 refine wl_nil <| wq_then <| wc_block ?_
 refine wc_norm [(vs a x.length c), (vi k), U, U, (vi 0), (vi 0), U, U, U, U, U, U, U, U, U, U, U, U, U] rfl ⟨rfl, rfl, rfl, rfl, rfl, rfl, rfl, rfl, rfl, rfl, rfl, rfl, rfl, rfl, rfl, rfl, rfl, rfl, rfl, trivial⟩ ?_
 refine wc_loop (fun e' w' => ∃ (i : Nat) (u6x u7x u8x u9x u10x u11x u12x u13x u14x u15x u16x u17x : Value), e' = lst [(vs a x.length c), (vi (k + ((i : Nat) : Int))), U, U, (vi 0), (vi ((i : Nat) : Int)), u6x, u7x, u8x, u9x, u10x, u11x, u12x, u13x, u14x, u15x, u16x, u17x, U] ∧ i ≤ x.length ∧ Ch (fun b => (Value.slice a x.length c).ownBlock = some b) w0 w' ∧ w'.ownsRow lo 3 1 (.slice a x.length c) x.length ((marksI k i ++ x.drop i).map iV)) (fun e' _ => x.length - (intOf (e' 5)).toNat) ?_ ?_
 ·exact ⟨0, U, U, U, U, U, U, U, U, U, U, U, U, congrArg (fun (p : Value) => lst [(vs a x.length c), p, U, U, (vi 0), (vi 0), U, U, U, U, U, U, U, U, U, U, U, U, U]) (congrArg (Value.int .i64) (show k = k + ((0 : Nat) : Int) by omega)), Nat.zero_le _, Ch.refl _ _, by simpa [marksI] using r⟩
 ·rintro _ w1 ⟨i, u6x, u7x, u8x, u9x, u10x, u11x, u12x, u13x, u14x, u15x, u16x, u17x, rfl, hi, hc, ho⟩
  refine wc_seq <| sr ?_
  refine mv (vi ((i : Nat) : Int)) wN ?_
  refine mv (vs a x.length c) wN ?_
  refine ln wN slTy_23 (Rd.of_own ho) ?_
  refine pu (vb (decide (((i : Nat) : Int) < (x.length : Int)))) wN ?_
  refine wl_nil <| wq_then ?_
  rcases bf (decide (((i : Nat) : Int) < (x.length : Int))) with h101 | h101
  ·have q105 := of_decide_eq_false h101
   refine cf h101 ?_
   refine wc_exit <| wq_then_exit <| wq_then_exit <| wq_blk_exit <| wq_then <| sr ?_
   refine mv (vi (k + ((i : Nat) : Int))) wN ?_
   refine ag (vi (k + ((i : Nat) : Int))) wN ?_
   refine wl_nil <| wq_then <| wc_ret ?_
   have hI : i = x.length := by omega
   subst hI
   refine ret_1 (.inl rfl) (vi (k + ((x.length : Nat) : Int))) rfl rfl ⟨rfl, hc, ?_⟩
   simpa using ho
  have q102 := of_decide_eq_true h101
  refine ct h101 ?_
  refine wc_skip <| wq_then <| wc_seq <| wc_block <| sr ?_
  refine mv (vs a x.length c) wN ?_
  refine mv (vi ((i : Nat) : Int)) wN ?_
  refine mv (vi (k + ((i : Nat) : Int))) wN ?_
  refine wl_index wN ((i : Nat) : Int) rfl rfl rfl slTy_23 rfl rfl (Rd.of_own ho) (by first | omega | (simp only [List.length_cons, List.length_nil, List.length_replicate, List.length_append, List.length_take, List.length_set, List.length_map]; omega)) (by first | omega | (simp only [List.length_cons, List.length_nil, List.length_replicate, List.length_append, List.length_take, List.length_set, List.length_map]; omega)) ?_
  refine wl_storeI ((marksI k i ++ x.drop i)) i ((k + ((i : Nat) : Int))) wN rfl rfl rfl (by simp) rfl sizeOf_3 ho (by simp only [List.length_append, List.length_drop, marksI_len]; omega) ?_
  intro w2 k103 o104
  refine wl_nil <| wq_then <| wc_region ?_
  refine mv (vi (k + ((i : Nat) : Int))) wN ?_
  refine ar ((k + ((i : Nat) : Int)) + 1) wN ?_
  refine ag (vi ((k + ((i : Nat) : Int)) + 1)) wN ?_
  refine wl_nil <| wq_blk_normal <| wq_then <| wc_region ?_
  refine mv (vi ((i : Nat) : Int)) wN ?_
  refine ar (((i : Nat) : Int) + 1) wN ?_
  refine ag (vi (((i : Nat) : Int) + 1)) wN ?_
  refine wl_nil ?_
  have hE : (((marksI k i ++ x.drop i)).set i ((k + ((i : Nat) : Int)))) = marksI k (i + 1) ++ x.drop (i + 1) := by
   rw [List.set_append_right _ _ (by rw [marksI_len]; omega), marksI_len, Nat.sub_self, List.drop_eq_getElem_cons (by omega), List.set_cons_zero, marksI_snoc]
   simp
  rw [hE] at o104
  exact wq_loopN (w0 := w1) [(vs a x.length c), (vi (k + ((i + 1 : Nat) : Int))), U, U, (vi 0), (vi ((i + 1 : Nat) : Int)), (vi ((i : Nat) : Int)), (vs a x.length c), (vi (x.length : Int)), (vb (decide (((i : Nat) : Int) < (x.length : Int)))), (vi ((i : Nat) : Int)), (vi (((i : Nat) : Int) + 1)), (vs a x.length c), (vi ((i : Nat) : Int)), (vi (k + ((i : Nat) : Int))), (ve (vs a x.length c) ((((i : Nat) : Int)).toNat * 1)), (vi (k + ((i : Nat) : Int))), (vi ((k + ((i : Nat) : Int)) + 1)), U] rfl ⟨rfl, (congrArg (Value.int .i64) (show (((k + ((i : Nat) : Int)) + 1) : Int) = (k + ((i + 1 : Nat) : Int)) by omega)), rfl, rfl, rfl, (congrArg (Value.int .i64) (show ((((i : Nat) : Int) + 1) : Int) = ((i + 1 : Nat) : Int) by omega)), rfl, rfl, rfl, rfl, rfl, rfl, rfl, rfl, rfl, rfl, rfl, rfl, rfl, trivial⟩ ⟨i + 1, (vi ((i : Nat) : Int)), (vs a x.length c), (vi (x.length : Int)), (vb (decide (((i : Nat) : Int) < (x.length : Int)))), (vi ((i : Nat) : Int)), (vi (((i : Nat) : Int) + 1)), (vs a x.length c), (vi ((i : Nat) : Int)), (vi (k + ((i : Nat) : Int))), (ve (vs a x.length c) ((((i : Nat) : Int)).toNat * 1)), (vi (k + ((i : Nat) : Int))), (vi ((k + ((i : Nat) : Int)) + 1)), rfl, by omega, hc.comp k103 (fun _ _ h => h), o104⟩ (by show x.length - (((i + 1 : Nat) : Int)).toNat < x.length - (((i : Nat) : Int)).toNat; omega)
theorem C_laws_markIntS_nil (w0 : World) (a : Option Addr) (c : Nat) (k : Int) (r : Rd w0 1 (.slice a 0 c) 0 []) :
    Fn Try.prog 120 #[.slice a 0 c, .int .i64 k] w0 (fun v w' => v = .int .i64 k ∧ w' = w0) := by
 have hz : decide ((0 : Int) < ((0 : Nat) : Int)) = false := by decide
 refine fn_of (n := 19) (l := [(.slice a 0 c), (.int .i64 k), undef, undef, undef, undef, undef, undef, undef, undef, undef, undef, undef, undef, undef, undef, undef, undef, undef]) Try.func120 rfl rfl (by kernel_rfl) rfl ?_
 refine sr ?_
 refine ag (vi 0) wN ?_
 refine wl_nil <| wq_then <| wc_seq <| sr ?_
 refine ag (vi 0) wN ?_
 refine wl_nil <| wq_then <| wc_block ?_
 refine wc_norm [(vs a 0 c), (vi k), U, U, (vi 0), (vi 0), U, U, U, U, U, U, U, U, U, U, U, U, U] rfl ⟨rfl, rfl, rfl, rfl, rfl, rfl, rfl, rfl, rfl, rfl, rfl, rfl, rfl, rfl, rfl, rfl, rfl, rfl, rfl, trivial⟩ ?_
 refine wc_loop (fun e' w' => e' = lst [(vs a 0 c), (vi k), U, U, (vi 0), (vi 0), U, U, U, U, U, U, U, U, U, U, U, U, U] ∧ w' = w0) (fun _ _ => 0) ⟨rfl, rfl⟩ ?_
 rintro _ _ ⟨rfl, rfl⟩
 refine wc_seq <| sr ?_
 refine mv (vi 0) wN ?_
 refine mv (vs a 0 c) wN ?_
 refine ln wN slTy_23 r ?_
 refine pu (vb (decide (0 < ((0 : Nat) : Int)))) wN ?_
 refine wl_nil <| wq_then ?_
 refine cf hz ?_
 refine wc_exit <| wq_then_exit <| wq_then_exit <| wq_blk_exit <| wq_then <| sr ?_
 refine mv (vi k) wN ?_
 refine ag (vi k) wN ?_
 refine wl_nil <| wq_then <| wc_ret ?_
 exact ret_1 (.inl rfl) (vi k) rfl rfl ⟨rfl, rfl⟩
theorem C_laws_markIntS (w0 : World) (a : Option Addr) (c : Nat) (x : List Int) (k : Int) (h0 : 0 ≤ k) (h1 : k ≤ 9000000000000000000) (hs : x.length ≤ 1073741824) (r : Rd w0 1 (.slice a x.length c) x.length (x.map iV)) (hw : Wp w0 3 a x.length c (x.map iV)) :
    Fn Try.prog 120 #[.slice a x.length c, .int .i64 k] w0 (fun v w' => v = .int .i64 (k + x.length) ∧ Ch (MS [(a, x.length)]) w0 w' ∧ Rd w' 1 (.slice a x.length c) x.length ((marksI k x.length).map iV)) := by
  rcases Nat.eq_zero_or_pos x.length with hz | hz
  · obtain rfl : x = [] := List.eq_nil_of_length_eq_zero hz
    refine (C_laws_markIntS_nil w0 a c k r).mono ?_
    rintro _ _ ⟨rfl, rfl⟩
    exact ⟨by simp, Ch.refl _ _, r⟩
  · rcases hw with hw | ⟨lo, hw⟩
    · omega
    · refine (C_laws_markIntS_own w0 a c x lo k h0 h1 hs hw).mono ?_
      rintro _ w' ⟨rfl, hc, ho⟩
      refine ⟨rfl, hc.mono fun b _ hb => ?_, Rd.of_own ho⟩
      rcases a with _ | ad
      · cases hb
      · exact .inl ⟨hz, ad, rfl, by simpa [Value.ownBlock] using hb⟩

theorem C_laws_markWin (w0 : World) (a1 : Option Addr) (c1 : Nat) (x : PWin) (k : Int) (h0 : 0 ≤ k) (h1 : k ≤ 8800000000000000000) (s1 : x.Bits.length ≤ 1073741824) (r1 : Rd w0 1 (.slice a1 x.Bits.length c1) x.Bits.length (x.Bits.map iV)) (p1 : Wp w0 3 a1 x.Bits.length c1 (x.Bits.map iV)) (ap : Aps [(a1, c1)]) :
    Fn Try.prog 106 #[(va (L_25 x a1 c1)), .int .i64 k] w0 (fun v w' => v = .int .i64 (k + (x.Bits.length : Int)) ∧ Ch (MS [(a1, x.Bits.length)]) w0 w' ∧ Rd w' 1 (.slice a1 x.Bits.length c1) x.Bits.length ((marksI k x.Bits.length).map iV)) := by
 refine fn_of (n := 10) (l := [(va (L_25 x a1 c1)), (vi k), U, U, U, U, U, U, U, U]) Try.func106 rfl rfl (by kernel_rfl) rfl ?_
 refine sr ?_
 refine bx (L_25 x a1 c1) wN ?_
 intro g201 w1 p202 p203 k204 b205
 refine ag (vi 0) wN ?_
 refine nx ?_
 refine pu (vp g201 1) wN ?_
 refine ld (vs a1 x.Bits.length c1) wN isAgg_23 b205 ?_
 refine mv (vi k) wN ?_
 have r206 := (r1.kp k204)
 have wp207 : Wp w1 3 a1 x.Bits.length c1 _ 1 := (Wp.kp p1 k204)
 refine cl wN (C_laws_markIntS w1 a1 c1 x.Bits k (by omega) (by omega) s1 r206 wp207) ?_
 rintro _ w2 ⟨rfl, k208, r209⟩
 refine ag (vi (k + (x.Bits.length : Int))) wN ?_
 refine nx ?_
 refine mv (vi (k + (x.Bits.length : Int))) wN ?_
 refine ag (vi (k + (x.Bits.length : Int))) wN ?_
 refine wl_nil <| wq_then <| wc_ret ?_
 exact ret_1 (.inl rfl) (vi (k + (x.Bits.length : Int))) rfl rfl ⟨rfl, (((Ch.refl (MS [(a1, x.Bits.length)]) w0).comp k204 (fun _ _ h => h.elim)).comp k208 (fun _ _ h => ms_sub [] [] h)), r209⟩

theorem C_laws_markEp (w0 : World) (a1 : Option Addr) (c1 : Nat) (a2 : Option Addr) (c2 : Nat) (x : PEp) (k : Int) (h0 : 0 ≤ k) (h1 : k ≤ 8700000000000000000) (s1 : x.Key.length ≤ 1073741824) (r1 : Rd w0 1 (.slice a1 x.Key.length c1) x.Key.length (x.Key.map bV)) (p1 : Wp w0 5 a1 x.Key.length c1 (x.Key.map bV)) (s2 : x.Win.Bits.length ≤ 1073741824) (r2 : Rd w0 1 (.slice a2 x.Win.Bits.length c2) x.Win.Bits.length (x.Win.Bits.map iV)) (p2 : Wp w0 3 a2 x.Win.Bits.length c2 (x.Win.Bits.map iV)) (ap : Aps [(a1, c1), (a2, c2)]) :
    Fn Try.prog 72 #[(va (L_27 x a1 c1 a2 c2)), .int .i64 k] w0 (fun v w' => v = .int .i64 ((k + (x.Key.length : Int)) + (x.Win.Bits.length : Int)) ∧ Ch (MS [(a1, x.Key.length), (a2, x.Win.Bits.length)]) w0 w' ∧ Rd w' 1 (.slice a1 x.Key.length c1) x.Key.length ((marksB k x.Key.length).map bV) ∧ Rd w' 1 (.slice a2 x.Win.Bits.length c2) x.Win.Bits.length ((marksI (k + (x.Key.length : Int)) x.Win.Bits.length).map iV)) := by
 refine fn_of (n := 14) (l := [(va (L_27 x a1 c1 a2 c2)), (vi k), U, U, U, U, U, U, U, U, U, U, U, U]) Try.func72 rfl rfl (by kernel_rfl) rfl ?_
 refine sr ?_
 refine bx (L_27 x a1 c1 a2 c2) wN ?_
 intro g201 w1 p202 p203 k204 b205
 refine ag (vi 0) wN ?_
 refine nx ?_
 refine pu (vp g201 1) wN ?_
 refine ld (vs a1 x.Key.length c1) wN isAgg_22 b205 ?_
 refine mv (vi k) wN ?_
 have r206 := (r1.kp k204)
 have wp207 : Wp w1 5 a1 x.Key.length c1 _ 1 := (Wp.kp p1 k204)
 refine cl wN (C_laws_markByteS w1 a1 c1 x.Key k (by omega) (by omega) s1 r206 wp207) ?_
 rintro _ w2 ⟨rfl, k208, r209⟩
 refine ag (vi (k + (x.Key.length : Int))) wN ?_
 refine nx ?_
 refine pu (vp g201 3) wN ?_
 have b210 := (b205.ch k208 (ms_lo (ms_lo_cons (fun hn x hx hb => by have := Wp.lt p1 hn x hx; have := Nat.le_trans (Nat.le_refl _) p202; omega) ms_lo_nil)))
 refine lN (L_25 x.Win a2 c2) wN isAgg_25 sizeOf_25 b210 ?_
 refine mv (vi (k + (x.Key.length : Int))) wN ?_
 have r211 := (Rd.ms (l := [(a1, x.Key.length, c1)]) (r2.kp k204) rfl k208 (ap_cons (rd_cap r206) (ap.1.1) ap_nil))
 have wp212 : Wp w2 3 a2 x.Win.Bits.length c2 _ 1 := (Wp.ms (l := [(a1, x.Key.length, c1)]) (Wp.kp p2 k204) (rd_cap r211) rfl k208 (ap_cons (rd_cap r206) (ap.1.1) ap_nil))
 refine cl wN (C_laws_markWin w2 a2 c2 x.Win (k + (x.Key.length : Int)) (by omega) (by omega) s2 r211 wp212 ⟨trivial, trivial⟩) ?_
 rintro _ w3 ⟨rfl, k213, r214⟩
 refine ag (vi ((k + (x.Key.length : Int)) + (x.Win.Bits.length : Int))) wN ?_
 refine nx ?_
 refine mv (vi ((k + (x.Key.length : Int)) + (x.Win.Bits.length : Int))) wN ?_
 refine ag (vi ((k + (x.Key.length : Int)) + (x.Win.Bits.length : Int))) wN ?_
 refine wl_nil <| wq_then <| wc_ret ?_
 have r215 := (Rd.ms (l := [(a2, x.Win.Bits.length, c2)]) r209 rfl k213 (ap_cons (rd_cap r211) (ap.1.1).symm ap_nil))
 exact ret_1 (.inl rfl) (vi ((k + (x.Key.length : Int)) + (x.Win.Bits.length : Int))) rfl rfl ⟨rfl, ((((Ch.refl (MS [(a1, x.Key.length), (a2, x.Win.Bits.length)]) w0).comp k204 (fun _ _ h => h.elim)).comp k208 (fun _ _ h => ms_sub [] [(a2, x.Win.Bits.length)] h)).comp k213 (fun _ _ h => ms_sub [(a1, x.Key.length)] [] h)), r215, r214⟩

theorem C_laws_markChan (w0 : World) (a1 : Option Addr) (c1 : Nat) (a2 : Option Addr) (c2 : Nat) (a3 : Option Addr) (c3 : Nat) (a4 : Option Addr) (c4 : Nat) (a5 : Option Addr) (c5 : Nat) (a6 : Option Addr) (c6 : Nat) (x : PChan) (k : Int) (h0 : 0 ≤ k) (h1 : k ≤ 8600000000000000000) (s1 : x.Sn.length ≤ 1073741824) (r1 : Rd w0 1 (.slice a1 x.Sn.length c1) x.Sn.length (x.Sn.map bV)) (p1 : Wp w0 5 a1 x.Sn.length c1 (x.Sn.map bV)) (s2 : x.Cur.Key.length ≤ 1073741824) (r2 : Rd w0 1 (.slice a2 x.Cur.Key.length c2) x.Cur.Key.length (x.Cur.Key.map bV)) (p2 : Wp w0 5 a2 x.Cur.Key.length c2 (x.Cur.Key.map bV)) (s3 : x.Cur.Win.Bits.length ≤ 1073741824) (r3 : Rd w0 1 (.slice a3 x.Cur.Win.Bits.length c3) x.Cur.Win.Bits.length (x.Cur.Win.Bits.map iV)) (p3 : Wp w0 3 a3 x.Cur.Win.Bits.length c3 (x.Cur.Win.Bits.map iV)) (s4 : x.Old.Key.length ≤ 1073741824) (r4 : Rd w0 1 (.slice a4 x.Old.Key.length c4) x.Old.Key.length (x.Old.Key.map bV)) (p4 : Wp w0 5 a4 x.Old.Key.length c4 (x.Old.Key.map bV)) (s5 : x.Old.Win.Bits.length ≤ 1073741824) (r5 : Rd w0 1 (.slice a5 x.Old.Win.Bits.length c5) x.Old.Win.Bits.length (x.Old.Win.Bits.map iV)) (p5 : Wp w0 3 a5 x.Old.Win.Bits.length c5 (x.Old.Win.Bits.map iV)) (s6 : x.Next.length ≤ 1073741824) (r6 : Rd w0 1 (.slice a6 x.Next.length c6) x.Next.length (x.Next.map bV)) (p6 : Wp w0 5 a6 x.Next.length c6 (x.Next.map bV)) (ap : Aps [(a1, c1), (a2, c2), (a3, c3), (a4, c4), (a5, c5), (a6, c6)]) :
    Fn Try.prog 21 #[(va (L_29 x a1 c1 a2 c2 a3 c3 a4 c4 a5 c5 a6 c6)), .int .i64 k] w0 (fun v w' => v = .int .i64 ((((((k + (x.Sn.length : Int)) + (x.Cur.Key.length : Int)) + (x.Cur.Win.Bits.length : Int)) + (x.Old.Key.length : Int)) + (x.Old.Win.Bits.length : Int)) + (x.Next.length : Int)) ∧ Ch (MS [(a1, x.Sn.length), (a2, x.Cur.Key.length), (a3, x.Cur.Win.Bits.length), (a4, x.Old.Key.length), (a5, x.Old.Win.Bits.length), (a6, x.Next.length)]) w0 w' ∧ Rd w' 1 (.slice a1 x.Sn.length c1) x.Sn.length ((marksB k x.Sn.length).map bV) ∧ Rd w' 1 (.slice a2 x.Cur.Key.length c2) x.Cur.Key.length ((marksB (k + (x.Sn.length : Int)) x.Cur.Key.length).map bV) ∧ Rd w' 1 (.slice a3 x.Cur.Win.Bits.length c3) x.Cur.Win.Bits.length ((marksI ((k + (x.Sn.length : Int)) + (x.Cur.Key.length : Int)) x.Cur.Win.Bits.length).map iV) ∧ Rd w' 1 (.slice a4 x.Old.Key.length c4) x.Old.Key.length ((marksB (((k + (x.Sn.length : Int)) + (x.Cur.Key.length : Int)) + (x.Cur.Win.Bits.length : Int)) x.Old.Key.length).map bV) ∧ Rd w' 1 (.slice a5 x.Old.Win.Bits.length c5) x.Old.Win.Bits.length ((marksI ((((k + (x.Sn.length : Int)) + (x.Cur.Key.length : Int)) + (x.Cur.Win.Bits.length : Int)) + (x.Old.Key.length : Int)) x.Old.Win.Bits.length).map iV) ∧ Rd w' 1 (.slice a6 x.Next.length c6) x.Next.length ((marksB (((((k + (x.Sn.length : Int)) + (x.Cur.Key.length : Int)) + (x.Cur.Win.Bits.length : Int)) + (x.Old.Key.length : Int)) + (x.Old.Win.Bits.length : Int)) x.Next.length).map bV)) := by
 refine fn_of (n := 22) (l := [(va (L_29 x a1 c1 a2 c2 a3 c3 a4 c4 a5 c5 a6 c6)), (vi k), U, U, U, U, U, U, U, U, U, U, U, U, U, U, U, U, U, U, U, U]) Try.func21 rfl rfl (by kernel_rfl) rfl ?_
 refine sr ?_
 refine bx (L_29 x a1 c1 a2 c2 a3 c3 a4 c4 a5 c5 a6 c6) wN ?_
 intro g201 w1 p202 p203 k204 b205
 refine ag (vi 0) wN ?_
 refine nx ?_
 refine pu (vp g201 1) wN ?_
 refine ld (vs a1 x.Sn.length c1) wN isAgg_22 b205 ?_
 refine mv (vi k) wN ?_
 have r206 := (r1.kp k204)
 have wp207 : Wp w1 5 a1 x.Sn.length c1 _ 1 := (Wp.kp p1 k204)
 refine cl wN (C_laws_markByteS w1 a1 c1 x.Sn k (by omega) (by omega) s1 r206 wp207) ?_
 rintro _ w2 ⟨rfl, k208, r209⟩
 refine ag (vi (k + (x.Sn.length : Int))) wN ?_
 refine nx ?_
 refine pu (vp g201 2) wN ?_
 have b210 := (b205.ch k208 (ms_lo (ms_lo_cons (fun hn x hx hb => by have := Wp.lt p1 hn x hx; have := Nat.le_trans (Nat.le_refl _) p202; omega) ms_lo_nil)))
 refine lN (L_27 x.Cur a2 c2 a3 c3) wN isAgg_27 sizeOf_27 b210 ?_
 refine mv (vi (k + (x.Sn.length : Int))) wN ?_
 have r211 := (Rd.ms (l := [(a1, x.Sn.length, c1)]) (r2.kp k204) rfl k208 (ap_cons (rd_cap r206) (ap.1.1) ap_nil))
 have r212 := (Rd.ms (l := [(a1, x.Sn.length, c1)]) (r3.kp k204) rfl k208 (ap_cons (rd_cap r206) (ap.1.2.1) ap_nil))
 have wp213 : Wp w2 5 a2 x.Cur.Key.length c2 _ 1 := (Wp.ms (l := [(a1, x.Sn.length, c1)]) (Wp.kp p2 k204) (rd_cap r211) rfl k208 (ap_cons (rd_cap r206) (ap.1.1) ap_nil))
 have wp214 : Wp w2 3 a3 x.Cur.Win.Bits.length c3 _ 1 := (Wp.ms (l := [(a1, x.Sn.length, c1)]) (Wp.kp p3 k204) (rd_cap r212) rfl k208 (ap_cons (rd_cap r206) (ap.1.2.1) ap_nil))
 refine cl wN (C_laws_markEp w2 a2 c2 a3 c3 x.Cur (k + (x.Sn.length : Int)) (by omega) (by omega) s2 r211 wp213 s3 r212 wp214 ⟨⟨(ap.2.1.1), trivial⟩, ⟨trivial, trivial⟩⟩) ?_
 rintro _ w3 ⟨rfl, k215, r216, r217⟩
 refine ag (vi (((k + (x.Sn.length : Int)) + (x.Cur.Key.length : Int)) + (x.Cur.Win.Bits.length : Int))) wN ?_
 refine nx ?_
 refine pu (vp g201 7) wN ?_
 have b218 := (b210.ch k215 (ms_lo (ms_lo_cons (fun hn x hx hb => by have := Wp.lt p2 hn x hx; have := Nat.le_trans (Nat.le_refl _) p202; omega) (ms_lo_cons (fun hn x hx hb => by have := Wp.lt p3 hn x hx; have := Nat.le_trans (Nat.le_refl _) p202; omega) ms_lo_nil))))
 refine lN (L_27 x.Old a4 c4 a5 c5) wN isAgg_27 sizeOf_27 b218 ?_
 refine mv (vi (((k + (x.Sn.length : Int)) + (x.Cur.Key.length : Int)) + (x.Cur.Win.Bits.length : Int))) wN ?_
 have r219 := (Rd.ms (l := [(a2, x.Cur.Key.length, c2), (a3, x.Cur.Win.Bits.length, c3)]) (Rd.ms (l := [(a1, x.Sn.length, c1)]) (r4.kp k204) rfl k208 (ap_cons (rd_cap r206) (ap.1.2.2.1) ap_nil)) rfl k215 (ap_cons (rd_cap r211) (ap.2.1.2.1) (ap_cons (rd_cap r212) (ap.2.2.1.1) ap_nil)))
 have r220 := (Rd.ms (l := [(a2, x.Cur.Key.length, c2), (a3, x.Cur.Win.Bits.length, c3)]) (Rd.ms (l := [(a1, x.Sn.length, c1)]) (r5.kp k204) rfl k208 (ap_cons (rd_cap r206) (ap.1.2.2.2.1) ap_nil)) rfl k215 (ap_cons (rd_cap r211) (ap.2.1.2.2.1) (ap_cons (rd_cap r212) (ap.2.2.1.2.1) ap_nil)))
 have wp221 : Wp w3 5 a4 x.Old.Key.length c4 _ 1 := (Wp.ms (l := [(a2, x.Cur.Key.length, c2), (a3, x.Cur.Win.Bits.length, c3)]) (Wp.ms (l := [(a1, x.Sn.length, c1)]) (Wp.kp p4 k204) (rd_cap r219) rfl k208 (ap_cons (rd_cap r206) (ap.1.2.2.1) ap_nil)) (rd_cap r219) rfl k215 (ap_cons (rd_cap r211) (ap.2.1.2.1) (ap_cons (rd_cap r212) (ap.2.2.1.1) ap_nil)))
 have wp222 : Wp w3 3 a5 x.Old.Win.Bits.length c5 _ 1 := (Wp.ms (l := [(a2, x.Cur.Key.length, c2), (a3, x.Cur.Win.Bits.length, c3)]) (Wp.ms (l := [(a1, x.Sn.length, c1)]) (Wp.kp p5 k204) (rd_cap r220) rfl k208 (ap_cons (rd_cap r206) (ap.1.2.2.2.1) ap_nil)) (rd_cap r220) rfl k215 (ap_cons (rd_cap r211) (ap.2.1.2.2.1) (ap_cons (rd_cap r212) (ap.2.2.1.2.1) ap_nil)))
 refine cl wN (C_laws_markEp w3 a4 c4 a5 c5 x.Old (((k + (x.Sn.length : Int)) + (x.Cur.Key.length : Int)) + (x.Cur.Win.Bits.length : Int)) (by omega) (by omega) s4 r219 wp221 s5 r220 wp222 ⟨⟨(ap.2.2.2.1.1), trivial⟩, ⟨trivial, trivial⟩⟩) ?_
 rintro _ w4 ⟨rfl, k223, r224, r225⟩
 refine ag (vi (((((k + (x.Sn.length : Int)) + (x.Cur.Key.length : Int)) + (x.Cur.Win.Bits.length : Int)) + (x.Old.Key.length : Int)) + (x.Old.Win.Bits.length : Int))) wN ?_
 refine nx ?_
 refine pu (vp g201 14) wN ?_
 have b226 := (b218.ch k223 (ms_lo (ms_lo_cons (fun hn x hx hb => by have := Wp.lt p4 hn x hx; have := Nat.le_trans (Nat.le_refl _) p202; omega) (ms_lo_cons (fun hn x hx hb => by have := Wp.lt p5 hn x hx; have := Nat.le_trans (Nat.le_refl _) p202; omega) ms_lo_nil))))
 refine ld (vs a6 x.Next.length c6) wN isAgg_22 b226 ?_
 refine mv (vi (((((k + (x.Sn.length : Int)) + (x.Cur.Key.length : Int)) + (x.Cur.Win.Bits.length : Int)) + (x.Old.Key.length : Int)) + (x.Old.Win.Bits.length : Int))) wN ?_
 have r227 := (Rd.ms (l := [(a4, x.Old.Key.length, c4), (a5, x.Old.Win.Bits.length, c5)]) (Rd.ms (l := [(a2, x.Cur.Key.length, c2), (a3, x.Cur.Win.Bits.length, c3)]) (Rd.ms (l := [(a1, x.Sn.length, c1)]) (r6.kp k204) rfl k208 (ap_cons (rd_cap r206) (ap.1.2.2.2.2.1) ap_nil)) rfl k215 (ap_cons (rd_cap r211) (ap.2.1.2.2.2.1) (ap_cons (rd_cap r212) (ap.2.2.1.2.2.1) ap_nil))) rfl k223 (ap_cons (rd_cap r219) (ap.2.2.2.1.2.1) (ap_cons (rd_cap r220) (ap.2.2.2.2.1.1) ap_nil)))
 have wp228 : Wp w4 5 a6 x.Next.length c6 _ 1 := (Wp.ms (l := [(a4, x.Old.Key.length, c4), (a5, x.Old.Win.Bits.length, c5)]) (Wp.ms (l := [(a2, x.Cur.Key.length, c2), (a3, x.Cur.Win.Bits.length, c3)]) (Wp.ms (l := [(a1, x.Sn.length, c1)]) (Wp.kp p6 k204) (rd_cap r227) rfl k208 (ap_cons (rd_cap r206) (ap.1.2.2.2.2.1) ap_nil)) (rd_cap r227) rfl k215 (ap_cons (rd_cap r211) (ap.2.1.2.2.2.1) (ap_cons (rd_cap r212) (ap.2.2.1.2.2.1) ap_nil))) (rd_cap r227) rfl k223 (ap_cons (rd_cap r219) (ap.2.2.2.1.2.1) (ap_cons (rd_cap r220) (ap.2.2.2.2.1.1) ap_nil)))
 refine cl wN (C_laws_markByteS w4 a6 c6 x.Next (((((k + (x.Sn.length : Int)) + (x.Cur.Key.length : Int)) + (x.Cur.Win.Bits.length : Int)) + (x.Old.Key.length : Int)) + (x.Old.Win.Bits.length : Int)) (by omega) (by omega) s6 r227 wp228) ?_
 rintro _ w5 ⟨rfl, k229, r230⟩
 refine ag (vi ((((((k + (x.Sn.length : Int)) + (x.Cur.Key.length : Int)) + (x.Cur.Win.Bits.length : Int)) + (x.Old.Key.length : Int)) + (x.Old.Win.Bits.length : Int)) + (x.Next.length : Int))) wN ?_
 refine nx ?_
 refine mv (vi ((((((k + (x.Sn.length : Int)) + (x.Cur.Key.length : Int)) + (x.Cur.Win.Bits.length : Int)) + (x.Old.Key.length : Int)) + (x.Old.Win.Bits.length : Int)) + (x.Next.length : Int))) wN ?_
 refine ag (vi ((((((k + (x.Sn.length : Int)) + (x.Cur.Key.length : Int)) + (x.Cur.Win.Bits.length : Int)) + (x.Old.Key.length : Int)) + (x.Old.Win.Bits.length : Int)) + (x.Next.length : Int))) wN ?_
 refine wl_nil <| wq_then <| wc_ret ?_
 have r231 := (Rd.ms (l := [(a6, x.Next.length, c6)]) (Rd.ms (l := [(a4, x.Old.Key.length, c4), (a5, x.Old.Win.Bits.length, c5)]) (Rd.ms (l := [(a2, x.Cur.Key.length, c2), (a3, x.Cur.Win.Bits.length, c3)]) r209 rfl k215 (ap_cons (rd_cap r211) (ap.1.1).symm (ap_cons (rd_cap r212) (ap.1.2.1).symm ap_nil))) rfl k223 (ap_cons (rd_cap r219) (ap.1.2.2.1).symm (ap_cons (rd_cap r220) (ap.1.2.2.2.1).symm ap_nil))) rfl k229 (ap_cons (rd_cap r227) (ap.1.2.2.2.2.1).symm ap_nil))
 have r232 := (Rd.ms (l := [(a6, x.Next.length, c6)]) (Rd.ms (l := [(a4, x.Old.Key.length, c4), (a5, x.Old.Win.Bits.length, c5)]) r216 rfl k223 (ap_cons (rd_cap r219) (ap.2.1.2.1).symm (ap_cons (rd_cap r220) (ap.2.1.2.2.1).symm ap_nil))) rfl k229 (ap_cons (rd_cap r227) (ap.2.1.2.2.2.1).symm ap_nil))
 have r233 := (Rd.ms (l := [(a6, x.Next.length, c6)]) (Rd.ms (l := [(a4, x.Old.Key.length, c4), (a5, x.Old.Win.Bits.length, c5)]) r217 rfl k223 (ap_cons (rd_cap r219) (ap.2.2.1.1).symm (ap_cons (rd_cap r220) (ap.2.2.1.2.1).symm ap_nil))) rfl k229 (ap_cons (rd_cap r227) (ap.2.2.1.2.2.1).symm ap_nil))
 have r234 := (Rd.ms (l := [(a6, x.Next.length, c6)]) r224 rfl k229 (ap_cons (rd_cap r227) (ap.2.2.2.1.2.1).symm ap_nil))
 have r235 := (Rd.ms (l := [(a6, x.Next.length, c6)]) r225 rfl k229 (ap_cons (rd_cap r227) (ap.2.2.2.2.1.1).symm ap_nil))
 exact ret_1 (.inl rfl) (vi ((((((k + (x.Sn.length : Int)) + (x.Cur.Key.length : Int)) + (x.Cur.Win.Bits.length : Int)) + (x.Old.Key.length : Int)) + (x.Old.Win.Bits.length : Int)) + (x.Next.length : Int))) rfl rfl ⟨rfl, ((((((Ch.refl (MS [(a1, x.Sn.length), (a2, x.Cur.Key.length), (a3, x.Cur.Win.Bits.length), (a4, x.Old.Key.length), (a5, x.Old.Win.Bits.length), (a6, x.Next.length)]) w0).comp k204 (fun _ _ h => h.elim)).comp k208 (fun _ _ h => ms_sub [] [(a2, x.Cur.Key.length), (a3, x.Cur.Win.Bits.length), (a4, x.Old.Key.length), (a5, x.Old.Win.Bits.length), (a6, x.Next.length)] h)).comp k215 (fun _ _ h => ms_sub [(a1, x.Sn.length)] [(a4, x.Old.Key.length), (a5, x.Old.Win.Bits.length), (a6, x.Next.length)] h)).comp k223 (fun _ _ h => ms_sub [(a1, x.Sn.length), (a2, x.Cur.Key.length), (a3, x.Cur.Win.Bits.length)] [(a6, x.Next.length)] h)).comp k229 (fun _ _ h => ms_sub [(a1, x.Sn.length), (a2, x.Cur.Key.length), (a3, x.Cur.Win.Bits.length), (a4, x.Old.Key.length), (a5, x.Old.Win.Bits.length)] [] h)), r231, r232, r233, r234, r235, r230⟩

def mkE_B (a : (List UInt8)) (k : Int) : (List UInt8) := marksB k a.length
def wt_B (a : (List UInt8)) : Int := (0 + (a.length : Int))
theorem C_laws_markByteSS (w0 : World) (a : Option Addr) (c : Nat) (x : List (List UInt8)) (lo hi : Nat) (k : Int) (h0 : 0 ≤ k) (h1 : k ≤ 4000000000000000000) (r : OLv LT_B w0 lo hi a x.length c x) :
    Fn Try.prog 35 #[vs a x.length c, vi k] w0 (fun v w' => v = vi (k + totL wt_B x) ∧ Ch (fun b => lo ≤ b ∧ b < hi) w0 w' ∧ RLv LT_B w' 1073741824 a x.length c (marksE mkE_B wt_B x k)) := by
 obtain ⟨y, hy, hn, hl, hC, hI⟩ := OLv.mark (mk := mkE_B) (wt := wt_B) (k := k) r
 have hwb : ∀ i, i ≤ x.length → 0 ≤ totL wt_B ((y.take i).map Prod.fst) ∧ totL wt_B ((y.take i).map Prod.fst) ≤ 1073741824 * (i : Int) := fun i hi => by rw [List.map_take, hy]; exact OLv.wb r (by intro x; simp only [wt_B]; omega) (by intro x hx; simp only [LT_B, List.mem_cons, List.not_mem_nil, or_false, forall_eq_or_imp, forall_eq] at hx; simp only [wt_B]; omega) i hi
 have hy0 : y.length = x.length := hC.len
 refine fn_of (n := 19) (l := [(vs a x.length c), (vi k), U, U, U, U, U, U, U, U, U, U, U, U, U, U, U, U, U]) Try.func35 rfl rfl (by kernel_rfl) rfl ?_
 refine sr ?_
 refine ag (vi 0) wN ?_
 refine wl_nil <| wq_then <| wc_seq <| sr ?_
 refine ag (vi 0) wN ?_
 refine wl_nil <| wq_then <| wc_block ?_
 refine wc_norm [(vs a x.length c), (vi k), U, U, (vi 0), (vi 0), U, U, U, U, U, U, U, U, U, U, U, U, U] rfl ⟨rfl, rfl, rfl, rfl, rfl, rfl, rfl, rfl, rfl, rfl, rfl, rfl, rfl, rfl, rfl, rfl, rfl, rfl, rfl, trivial⟩ ?_
 refine wc_loop (fun e' w' => ∃ (i : Nat) (u6x u7x u8x u9x u10x u11x u12x u13x u14x u15x u16x u17x : Value), e' = lst [(vs a x.length c), (vi (k + totL wt_B ((y.take i).map Prod.fst))), U, U, (vi 0), (vi ((i : Nat) : Int)), u6x, u7x, u8x, u9x, u10x, u11x, u12x, u13x, u14x, u15x, u16x, u17x, U] ∧ i ≤ x.length ∧ MkI LT_B mkE_B wt_B w0 lo hi a x.length c y k i w') (fun e' _ => x.length - (intOf (e' 5)).toNat) ?_ ?_
 ·exact ⟨0, U, U, U, U, U, U, U, U, U, U, U, U, congrArg (fun (p : Value) => lst [(vs a x.length c), p, U, U, (vi 0), (vi 0), U, U, U, U, U, U, U, U, U, U, U, U, U]) (congrArg (Value.int .i64) (show k = k + totL wt_B ((y.take 0).map Prod.fst) by simp [totL])), Nat.zero_le _, hI⟩
 ·rintro _ w1 ⟨i, u6x, u7x, u8x, u9x, u10x, u11x, u12x, u13x, u14x, u15x, u16x, u17x, rfl, hi, hI1⟩
  have hb0 := hwb i hi
  refine wc_seq <| sr ?_
  refine mv (vi ((i : Nat) : Int)) wN ?_
  refine mv (vs a x.length c) wN ?_
  refine ln wN slTy_50 (Rd.of_own hI1.row) ?_
  refine pu (vb (decide (((i : Nat) : Int) < (x.length : Int)))) wN ?_
  refine wl_nil <| wq_then ?_
  rcases bf (decide (((i : Nat) : Int) < (x.length : Int))) with h101 | h101
  ·have q119 := of_decide_eq_false h101
   refine cf h101 ?_
   refine wc_exit <| wq_then_exit <| wq_then_exit <| wq_blk_exit <| wq_then <| sr ?_
   refine mv (vi (k + totL wt_B ((y.take i).map Prod.fst))) wN ?_
   refine ag (vi (k + totL wt_B ((y.take i).map Prod.fst))) wN ?_
   refine wl_nil <| wq_then <| wc_ret ?_
   obtain rfl : i = x.length := by omega
   have hz : (y.take x.length).map Prod.fst = x := by rw [List.map_take, hy, List.take_length]
   refine ret_1 (.inl rfl) (vi (k + totL wt_B ((y.take x.length).map Prod.fst))) rfl rfl ⟨by rw [hz], hI1.ch, hI1.done hC hy rfl hl⟩
  have q102 := of_decide_eq_true h101
  refine ct h101 ?_
  refine wc_skip <| wq_then <| wc_seq <| wc_block <| wc_region ?_
  refine mv (vs a x.length c) wN ?_
  refine mv (vi ((i : Nat) : Int)) wN ?_
  obtain ⟨e, l, hex, x103, s104, t105, p106, q107, d108⟩ := MkI.open z_B hI1 hC (by omega)
  rw [hy] at hex
  subst hex
  obtain ⟨a109, c110, l111, rfl, w112, s113⟩ := SubW.c s104
  obtain rfl := SubW.nn s113
  refine wl_index wN ((i : Nat) : Int) rfl rfl rfl slTy_50 rfl rfl (Rd.of_own hI1.row) (by first | omega | (simp only [List.length_cons, List.length_nil, List.length_replicate, List.length_append, List.length_take, List.length_set, List.length_map]; omega)) (by first | omega | (simp only [List.length_cons, List.length_nil, List.length_replicate, List.length_append, List.length_take, List.length_set, List.length_map]; omega)) ?_
  refine wl_loadE (vs a109 (x.getD i z_B).length c110) wN rfl rfl rfl rfl isAgg_22 (Rd.of_own hI1.row) ((rows_get (k := i) (i := 0) LT_B.len (z_B, []) (by first | rfl | simp | omega) (Nat.le_of_ble_eq_true rfl) (by simp only [List.length_append, markY_len, List.length_take, List.length_drop, List.length_set]; omega)).trans (by rw [x103]; rfl)) ?_
  refine mv (vi (k + totL wt_B ((y.take i).map Prod.fst))) wN ?_
  refine cl wN (C_laws_markByteS_w w1 a109 c110 (x.getD i z_B) (k + totL wt_B ((y.take i).map Prod.fst)) (by omega) (by omega) w112) ?_
  rintro _ w2 ⟨rfl, k114, w115⟩
  have o116 := row_ms hI1.row w112 LT_B.ne k114
  have t117 := Rst.ms t105 (q107 (a109, c110) (by simp)) (rd_cap w112.2.1) k114
  have h118 := ch_ms (q := (a109, c110)) hI1.ch k114 (d108 (a109, c110) (by simp))
  refine ag (vi ((k + totL wt_B ((y.take i).map Prod.fst)) + ((x.getD i z_B).length : Int))) wN ?_
  refine wl_nil <| wq_blk_normal <| wq_then <| wc_region ?_
  refine mv (vi ((i : Nat) : Int)) wN ?_
  refine ar (((i : Nat) : Int) + 1) wN ?_
  refine ag (vi (((i : Nat) : Int) + 1)) wN ?_
  refine wl_nil ?_
  have hq : totL wt_B ((y.take (i + 1)).map Prod.fst) = totL wt_B ((y.take i).map Prod.fst) + wt_B (x.getD i z_B) := by rw [List.map_take, List.map_take, hy]; exact totL_take (by omega)
  simp only [wt_B] at hq
  have hset : (markY mkE_B wt_B (y.take i) k ++ y.drop i).set i (x.getD i z_B, [(a109, c110)]) = (markY mkE_B wt_B (y.take i) k ++ y.drop i) := set_same (d := (z_B, [])) (by simp only [List.length_append, markY_len, List.length_take, List.length_drop, List.length_set]; omega) x103
  rw [← hset] at o116
  have hN := MkI.next z_B hC (by omega) x103 o116 (by simp only [LT_B, mkE_B, marksB_len]) ⟨w115, trivial⟩ t117 h118
  exact wq_loopN (w0 := w1) [(vs a x.length c), (vi (k + totL wt_B ((y.take (i + 1)).map Prod.fst))), U, U, (vi 0), (vi ((i + 1 : Nat) : Int)), (vi ((i : Nat) : Int)), (vs a x.length c), (vi (x.length : Int)), (vb (decide (((i : Nat) : Int) < (x.length : Int)))), (vi ((i : Nat) : Int)), (vi (((i : Nat) : Int) + 1)), (vs a x.length c), (vi ((i : Nat) : Int)), (ve (vs a x.length c) ((((i : Nat) : Int)).toNat * 1)), (vs a109 (x.getD i z_B).length c110), (vi (k + totL wt_B ((y.take i).map Prod.fst))), (vi ((k + totL wt_B ((y.take i).map Prod.fst)) + ((x.getD i z_B).length : Int))), U] rfl ⟨rfl, (congrArg (Value.int .i64) (show (((k + totL wt_B ((y.take i).map Prod.fst)) + ((x.getD i z_B).length : Int)) : Int) = (k + totL wt_B ((y.take (i + 1)).map Prod.fst)) by omega)), rfl, rfl, rfl, (congrArg (Value.int .i64) (show ((((i : Nat) : Int) + 1) : Int) = ((i + 1 : Nat) : Int) by omega)), rfl, rfl, rfl, rfl, rfl, rfl, rfl, rfl, rfl, rfl, rfl, rfl, rfl, trivial⟩ ⟨i + 1, (vi ((i : Nat) : Int)), (vs a x.length c), (vi (x.length : Int)), (vb (decide (((i : Nat) : Int) < (x.length : Int)))), (vi ((i : Nat) : Int)), (vi (((i : Nat) : Int) + 1)), (vs a x.length c), (vi ((i : Nat) : Int)), (ve (vs a x.length c) ((((i : Nat) : Int)).toNat * 1)), (vs a109 (x.getD i z_B).length c110), (vi (k + totL wt_B ((y.take i).map Prod.fst))), (vi ((k + totL wt_B ((y.take i).map Prod.fst)) + ((x.getD i z_B).length : Int))), rfl, by omega, hN⟩ (by show x.length - (((i + 1 : Nat) : Int)).toNat < x.length - (((i : Nat) : Int)).toNat; omega)

theorem C_laws_heldByteS (w0 : World) (v_x_a : Value) (x_a : List UInt8) (r_x_a : R_22 w0 v_x_a x_a) (x_k : Int) (pre0 : 0 ≤ x_k) (pre1 : x_k ≤ 9000000000000000000) : Fn Try.prog 31 #[v_x_a, (vi x_k)] w0 (fun v w' => Keep w0 w' ∧ O_3 w' w0.heap.size v (heldB x_a x_k)) := by
 obtain ⟨a1, c2, rfl, r3, s4⟩ := r_x_a
 refine fn_of (n := 22) (l := [(vs a1 x_a.length c2), (vi x_k), U, U, U, U, U, U, U, U, U, U, U, U, U, U, U, U, U, U, U, U]) Try.func31 rfl rfl (by kernel_rfl) rfl ?_
 refine sr ?_
 refine ag (vi 0) wN ?_
 refine wl_nil <| wq_then <| wc_seq <| sr ?_
 refine ag (vi 0) wN ?_
 refine wl_nil <| wq_then <| wc_block ?_
 refine wc_norm [(vs a1 x_a.length c2), (vi x_k), U, U, (vi 0), (vi 0), U, U, U, U, U, U, U, U, U, U, U, U, U, U, U, U] rfl ⟨rfl, rfl, rfl, rfl, rfl, rfl, rfl, rfl, rfl, rfl, rfl, rfl, rfl, rfl, rfl, rfl, rfl, rfl, rfl, rfl, rfl, rfl, trivial⟩ ?_
 refine wc_loop (fun e' w' => ∃ (i : Nat) (u4x u6x u7x u8x u9x u10x u11x u12x u13x u14x u15x u16x u17x u18x u19x u20x : Value), e' = lst [(vs a1 x_a.length c2), (vi (x_k + ((i : Nat) : Int))), U, U, u4x, (vi ((i : Nat) : Int)), u6x, u7x, u8x, u9x, u10x, u11x, u12x, u13x, u14x, u15x, u16x, u17x, u18x, u19x, u20x, U] ∧ Ch (fun k => w0.heap.size ≤ k) w0 w' ∧ Ch (fun k => w0.heap.size ≤ k) w0 w' ∧ i ≤ x_a.length ∧ heldB x_a x_k = heldB (x_a.drop i) (x_k + ((i : Nat) : Int))) (fun e' _ => x_a.length - ((intOf (e' 5))).toNat) ?_ ?_
 ·exact ⟨0, (vi 0), U, U, U, U, U, U, U, U, U, U, U, U, U, U, U, (cg2 (fun (x1z : Value) (x5z : Value) => lst [(vs a1 x_a.length c2), x1z, U, U, (vi 0), x5z, U, U, U, U, U, U, U, U, U, U, U, U, U, U, U, U]) (congrArg (Value.int .i64) (show (x_k : Int) = (x_k + ((0 : Nat) : Int)) by omega)) (congrArg (Value.int .i64) (show (0 : Int) = ((0 : Nat) : Int) by omega))), (Ch.base w0), (Ch.refl (fun k => w0.heap.size ≤ k) w0), (by omega), (by first | exact heldB_next (by assumption) (by omega) (by assumption) | simp)⟩
 ·rintro _ w1 ⟨i, u4x, u6x, u7x, u8x, u9x, u10x, u11x, u12x, u13x, u14x, u15x, u16x, u17x, u18x, u19x, u20x, rfl, m6, k7, i8, i9⟩
  refine wc_seq <| sr ?_
  refine mv (vi ((i : Nat) : Int)) wN ?_
  refine mv (vs a1 x_a.length c2) wN ?_
  refine ln wN slTy_22 (r3.from0 m6) ?_
  refine pu (vb (decide (((i : Nat) : Int) < (x_a.length : Int)))) wN ?_
  refine wl_nil <| wq_then ?_
  rcases bf (decide (((i : Nat) : Int) < (x_a.length : Int))) with h10 | h10
  ·have q16 := of_decide_eq_false h10
   refine cf h10 ?_
   refine wc_exit <| wq_then_exit <| wq_then_exit <| wq_blk_exit <| wq_then <| sr ?_
   refine mv (vi (x_k + ((i : Nat) : Int))) wN ?_
   refine ag (vi (x_k + ((i : Nat) : Int))) wN ?_
   refine wl_nil <| wq_then <| wc_ret ?_
   refine ret_1 (.inl rfl) (vi (x_k + ((i : Nat) : Int))) rfl rfl ?_
   refine ⟨m6.keep0, ?_⟩
   have hF17 : heldB x_a x_k = (x_k + ((i : Nat) : Int)) := by first | exact heldB_ne (by assumption) (by omega) (by assumption) | exact heldB_end (by assumption) (by omega)
   rw [hF17]
   exact rfl
  have q11 := of_decide_eq_true h10
  refine ct h10 ?_
  refine wc_skip <| wq_then <| wc_seq <| wc_block <| wc_seq <| sr ?_
  refine mv (vs a1 x_a.length c2) wN ?_
  refine mv (vi ((i : Nat) : Int)) wN ?_
  refine wl_index wN ((i : Nat) : Int) rfl rfl rfl slTy_22 rfl rfl (r3.from0 m6) (by first | omega | (simp only [List.length_cons, List.length_nil, List.length_replicate, List.length_append, List.length_take, List.length_set, List.length_map]; omega)) (by first | omega | (simp only [List.length_cons, List.length_nil, List.length_replicate, List.length_append, List.length_take, List.length_set, List.length_map]; omega)) ?_
  refine wl_loadE (bV (x_a.getD i 0)) wN rfl rfl rfl rfl isAgg_5 (r3.from0 m6) (bget (by simp) (by first | omega | (simp only [List.length_cons, List.length_nil, List.length_replicate, List.length_append, List.length_take, List.length_set, List.length_map]; omega))) ?_
  refine mv (vi (x_k + ((i : Nat) : Int))) wN ?_
  refine wl_conv8 (x_k + ((i : Nat) : Int)) wN rfl rfl (by kernel_rfl) ?_
  refine pu (vb (!(decide (((x_a.getD i 0).toNat : Int) = ((by8 (x_k + ((i : Nat) : Int))).toNat : Int))))) wN ?_
  refine wl_nil <| wq_then ?_
  rcases bf (decide (((x_a.getD i 0).toNat : Int) = ((by8 (x_k + ((i : Nat) : Int))).toNat : Int))) with h12 | h12
  ·have q14 := of_decide_eq_false h12
   refine ct (congrArg not h12) ?_
   refine sr ?_
   refine ag (vi (-1)) wN ?_
   refine wl_nil <| wq_then <| wc_ret <| wq_then_ret <| wq_blk_ret <| wq_then_ret <| wq_then_ret <| wq_blk_ret <| wq_then_ret ?_
   refine ret_1 (.inl rfl) (vi (-1)) rfl rfl ?_
   refine ⟨m6.keep0, ?_⟩
   have hF15 : heldB x_a x_k = (-1) := by first | exact heldB_ne (by assumption) (by omega) (by assumption) | exact heldB_end (by assumption) (by omega)
   rw [hF15]
   exact rfl
  have q13 := of_decide_eq_true h12
  refine cf (congrArg not h12) ?_
  refine wc_skip <| wq_then <| wc_region ?_
  refine mv (vi (x_k + ((i : Nat) : Int))) wN ?_
  refine ar ((x_k + ((i : Nat) : Int)) + 1) wN ?_
  refine ag (vi ((x_k + ((i : Nat) : Int)) + 1)) wN ?_
  refine wl_nil <| wq_blk_normal <| wq_then <| wc_region ?_
  refine mv (vi ((i : Nat) : Int)) wN ?_
  refine ar (((i : Nat) : Int) + 1) wN ?_
  refine ag (vi (((i : Nat) : Int) + 1)) wN ?_
  refine wl_nil ?_
  refine wq_loopN (w0 := w1) [(vs a1 x_a.length c2), (vi (x_k + (((i + 1) : Nat) : Int))), U, U, u4x, (vi (((i + 1) : Nat) : Int)), (vi ((i : Nat) : Int)), (vs a1 x_a.length c2), (vi (x_a.length : Int)), (vb (decide (((i : Nat) : Int) < (x_a.length : Int)))), (vi ((i : Nat) : Int)), (vi (((i : Nat) : Int) + 1)), (vs a1 x_a.length c2), (vi ((i : Nat) : Int)), (ve (vs a1 x_a.length c2) ((((i : Nat) : Int)).toNat * 1)), (v8 ((x_a.getD i 0).toNat : Int)), (vi (x_k + ((i : Nat) : Int))), (v8 ((by8 (x_k + ((i : Nat) : Int))).toNat : Int)), (vb (!(decide (((x_a.getD i 0).toNat : Int) = ((by8 (x_k + ((i : Nat) : Int))).toNat : Int))))), (vi (x_k + ((i : Nat) : Int))), (vi ((x_k + ((i : Nat) : Int)) + 1)), U] rfl ?_ ?_ ?_
  · exact ⟨rfl, (congrArg (Value.int .i64) (show (((x_k + ((i : Nat) : Int)) + 1) : Int) = (x_k + (((i + 1) : Nat) : Int)) by omega)), rfl, rfl, rfl, (congrArg (Value.int .i64) (show ((((i : Nat) : Int) + 1) : Int) = (((i + 1) : Nat) : Int) by omega)), rfl, rfl, rfl, rfl, rfl, rfl, rfl, rfl, rfl, rfl, rfl, rfl, rfl, rfl, rfl, rfl, trivial⟩
  · exact ⟨(i + 1), u4x, (vi ((i : Nat) : Int)), (vs a1 x_a.length c2), (vi (x_a.length : Int)), (vb (decide (((i : Nat) : Int) < (x_a.length : Int)))), (vi ((i : Nat) : Int)), (vi (((i : Nat) : Int) + 1)), (vs a1 x_a.length c2), (vi ((i : Nat) : Int)), (ve (vs a1 x_a.length c2) ((((i : Nat) : Int)).toNat * 1)), (v8 ((x_a.getD i 0).toNat : Int)), (vi (x_k + ((i : Nat) : Int))), (v8 ((by8 (x_k + ((i : Nat) : Int))).toNat : Int)), (vb (!(decide (((x_a.getD i 0).toNat : Int) = ((by8 (x_k + ((i : Nat) : Int))).toNat : Int))))), (vi (x_k + ((i : Nat) : Int))), (vi ((x_k + ((i : Nat) : Int)) + 1)), rfl, m6, ((Ch.refl (fun k => w0.heap.size ≤ k) w0).ext k7 (fun k hk => Nat.le_trans (Nat.le_refl _) hk)), (by omega), (by first | exact heldB_next (by assumption) (by omega) (by assumption) | simp)⟩
  · show x_a.length - ((((i + 1) : Nat) : Int)).toNat < x_a.length - (((i : Nat) : Int)).toNat; omega

def hC_B (a : (List UInt8)) (k : Int) : Int := bif decide ((heldB a k) < 0) then (-1) else ((heldB a k))
theorem C_laws_heldByteSS (w0 : World) (v_x_a : Value) (x_a : List (List UInt8)) (r_x_a : R_50 w0 v_x_a x_a) (x_k : Int) (pre0 : 0 ≤ x_k) (pre1 : x_k ≤ 4000000000000000000) : Fn Try.prog 36 #[v_x_a, (vi x_k)] w0 (fun v w' => Keep w0 w' ∧ O_3 w' w0.heap.size v (heldL hC_B x_a x_k)) := by
 obtain ⟨a1, c2, rfl, r3, s4⟩ := r_x_a
 refine fn_of (n := 21) (l := [(vs a1 x_a.length c2), (vi x_k), U, U, U, U, U, U, U, U, U, U, U, U, U, U, U, U, U, U, U]) Try.func36 rfl rfl (by kernel_rfl) rfl ?_
 refine sr ?_
 refine ag (vi 0) wN ?_
 refine wl_nil <| wq_then <| wc_seq <| sr ?_
 refine ag (vi 0) wN ?_
 refine wl_nil <| wq_then <| wc_block ?_
 refine wc_norm [(vs a1 x_a.length c2), (vi x_k), U, U, (vi 0), (vi 0), U, U, U, U, U, U, U, U, U, U, U, U, U, U, U] rfl ⟨rfl, rfl, rfl, rfl, rfl, rfl, rfl, rfl, rfl, rfl, rfl, rfl, rfl, rfl, rfl, rfl, rfl, rfl, rfl, rfl, rfl, trivial⟩ ?_
 refine wc_loop (fun e' w' => ∃ (i : Nat) (q : Int) (u4x u6x u7x u8x u9x u10x u11x u12x u13x u14x u15x u16x u17x u18x u19x : Value), e' = lst [(vs a1 x_a.length c2), (vi q), U, U, u4x, (vi ((i : Nat) : Int)), u6x, u7x, u8x, u9x, u10x, u11x, u12x, u13x, u14x, u15x, u16x, u17x, u18x, u19x, U] ∧ Ch (fun k => w0.heap.size ≤ k) w0 w' ∧ Ch (fun k => w0.heap.size ≤ k) w0 w' ∧ i ≤ x_a.length ∧ heldL hC_B x_a x_k = heldL hC_B (x_a.drop i) q ∧ x_k ≤ q ∧ q ≤ x_k + 1073741824 * ((i : Nat) : Int)) (fun e' _ => x_a.length - ((intOf (e' 5))).toNat) ?_ ?_
 ·exact ⟨0, x_k, (vi 0), U, U, U, U, U, U, U, U, U, U, U, U, U, U, (congrArg (fun (x5z : Value) => lst [(vs a1 x_a.length c2), (vi x_k), U, U, (vi 0), x5z, U, U, U, U, U, U, U, U, U, U, U, U, U, U, U]) (congrArg (Value.int .i64) (show (0 : Int) = ((0 : Nat) : Int) by omega))), (Ch.base w0), (Ch.refl (fun k => w0.heap.size ≤ k) w0), (by omega), (by first | (simp; done) | exact heldL_next (z := z_B) (by assumption) (by omega) (by simp only [hC_B, ]; simp) (by omega)), (by omega), (by omega)⟩
 ·rintro _ w1 ⟨i, q, u4x, u6x, u7x, u8x, u9x, u10x, u11x, u12x, u13x, u14x, u15x, u16x, u17x, u18x, u19x, rfl, m6, k7, i8, i9, i10, i11⟩
  refine wc_seq <| sr ?_
  refine mv (vi ((i : Nat) : Int)) wN ?_
  refine mv (vs a1 x_a.length c2) wN ?_
  obtain ⟨y12, r13⟩ := RLv.row (r3.from0 m6)
  refine ln wN slTy_50 r13 ?_
  refine pu (vb (decide (((i : Nat) : Int) < (x_a.length : Int)))) wN ?_
  refine wl_nil <| wq_then ?_
  rcases bf (decide (((i : Nat) : Int) < (x_a.length : Int))) with h14 | h14
  ·have q37 := of_decide_eq_false h14
   refine cf h14 ?_
   refine wc_exit <| wq_then_exit <| wq_then_exit <| wq_blk_exit <| wq_then <| sr ?_
   refine mv (vi q) wN ?_
   refine ag (vi q) wN ?_
   refine wl_nil <| wq_then <| wc_ret ?_
   refine ret_1 (.inl rfl) (vi q) rfl rfl ?_
   refine ⟨m6.keep0, ?_⟩
   have hF38 : heldL hC_B x_a x_k = q := by first | exact heldL_ne (z := z_B) (by assumption) (by omega) (by simp only [hC_B, h14]; simp) | exact heldL_end (by assumption) (by omega)
   rw [hF38]
   exact rfl
  have q15 := of_decide_eq_true h14
  refine ct h14 ?_
  refine wc_skip <| wq_then <| wc_seq <| wc_block <| sr ?_
  refine mv (vs a1 x_a.length c2) wN ?_
  refine mv (vi ((i : Nat) : Int)) wN ?_
  obtain ⟨y16, r17⟩ := RLv.row (r3.from0 m6)
  refine wl_index wN ((i : Nat) : Int) rfl rfl rfl slTy_50 rfl rfl r17 (by first | omega | (simp only [List.length_cons, List.length_nil, List.length_replicate, List.length_append, List.length_take, List.length_set, List.length_map]; omega)) (by first | omega | (simp only [List.length_cons, List.length_nil, List.length_replicate, List.length_append, List.length_take, List.length_set, List.length_map]; omega)) ?_
  obtain ⟨y18, l19, r20, e21, u22⟩ := RLv.el z_B (i := i) r3 (by first | omega | (simp only [List.length_cons, List.length_nil, List.length_replicate, List.length_append, List.length_take, List.length_set, List.length_map]; omega))
  obtain ⟨a23, c24, l28, rfl, r25, s26, u29⟩ := SubR.c u22
  obtain rfl := SubR.n u29
  refine wl_loadE (vs a23 (x_a.getD i z_B).length c24) wN rfl rfl rfl rfl isAgg_22 (r20.from0 m6) ((get_of (off := 0) e21 (by first | rfl | simp | omega) (by decide)).trans rfl) ?_
  refine mv (vi q) wN ?_
  refine cl wN (C_laws_heldByteS w1 _ (x_a.getD i z_B) (mR_22 (r25.from0 m6) s26) q (by omega) (by omega)) ?_
  rintro _ w2 ⟨k30, rfl⟩
  have m31 := m6.extk k30
  have q32 := heldB_le (x_a.getD i z_B) q
  refine ag (vi (heldB (x_a.getD i z_B) q)) wN ?_
  refine nx ?_
  refine mv (vi (heldB (x_a.getD i z_B) q)) wN ?_
  refine pu (vb (decide ((heldB (x_a.getD i z_B) q) < 0))) wN ?_
  refine wl_nil <| wq_then ?_
  rcases bt (decide ((heldB (x_a.getD i z_B) q) < 0)) with h33 | h33
  ·have q34 := of_decide_eq_true h33
   refine ct h33 ?_
   refine sr ?_
   refine ag (vi (-1)) wN ?_
   refine wl_nil <| wq_then <| wc_ret <| wq_blk_ret <| wq_then_ret <| wq_then_ret <| wq_blk_ret <| wq_then_ret ?_
   refine ret_1 (.inl rfl) (vi (-1)) rfl rfl ?_
   refine ⟨m31.keep0, ?_⟩
   have hF35 : heldL hC_B x_a x_k = (-1) := by first | exact heldL_ne (z := z_B) (by assumption) (by omega) (by simp only [hC_B, h14, h33]; simp) | exact heldL_end (by assumption) (by omega)
   rw [hF35]
   exact rfl
  have q36 := of_decide_eq_false h33
  refine cf h33 ?_
  refine wc_skip <| wq_blk_normal <| wq_then <| wc_region ?_
  refine mv (vi ((i : Nat) : Int)) wN ?_
  refine ar (((i : Nat) : Int) + 1) wN ?_
  refine ag (vi (((i : Nat) : Int) + 1)) wN ?_
  refine wl_nil ?_
  refine wq_loopN (w0 := w1) [(vs a1 x_a.length c2), (vi (heldB (x_a.getD i z_B) q)), U, U, u4x, (vi (((i + 1) : Nat) : Int)), (vi ((i : Nat) : Int)), (vs a1 x_a.length c2), (vi (x_a.length : Int)), (vb (decide (((i : Nat) : Int) < (x_a.length : Int)))), (vi ((i : Nat) : Int)), (vi (((i : Nat) : Int) + 1)), (vs a1 x_a.length c2), (vi ((i : Nat) : Int)), (ve (vs a1 x_a.length c2) ((((i : Nat) : Int)).toNat * 1)), (vs a23 (x_a.getD i z_B).length c24), (vi q), (vi (heldB (x_a.getD i z_B) q)), (vi (heldB (x_a.getD i z_B) q)), (vb (decide ((heldB (x_a.getD i z_B) q) < 0))), U] rfl ?_ ?_ ?_
  · exact ⟨rfl, rfl, rfl, rfl, rfl, (congrArg (Value.int .i64) (show ((((i : Nat) : Int) + 1) : Int) = (((i + 1) : Nat) : Int) by omega)), rfl, rfl, rfl, rfl, rfl, rfl, rfl, rfl, rfl, rfl, rfl, rfl, rfl, rfl, rfl, trivial⟩
  · exact ⟨(i + 1), (heldB (x_a.getD i z_B) q), u4x, (vi ((i : Nat) : Int)), (vs a1 x_a.length c2), (vi (x_a.length : Int)), (vb (decide (((i : Nat) : Int) < (x_a.length : Int)))), (vi ((i : Nat) : Int)), (vi (((i : Nat) : Int) + 1)), (vs a1 x_a.length c2), (vi ((i : Nat) : Int)), (ve (vs a1 x_a.length c2) ((((i : Nat) : Int)).toNat * 1)), (vs a23 (x_a.getD i z_B).length c24), (vi q), (vi (heldB (x_a.getD i z_B) q)), (vi (heldB (x_a.getD i z_B) q)), (vb (decide ((heldB (x_a.getD i z_B) q) < 0))), rfl, m31, (((Ch.refl (fun k => w0.heap.size ≤ k) w0).ext k7 (fun k hk => Nat.le_trans (Nat.le_refl _) hk)).extk k30), (by omega), (by first | (simp; done) | exact heldL_next (z := z_B) (by assumption) (by omega) (by simp only [hC_B, h14, h33]; simp) (by omega)), (by omega), (by omega)⟩
  · show x_a.length - ((((i + 1) : Nat) : Int)).toNat < x_a.length - (((i : Nat) : Int)).toNat; omega

theorem isAgg_41 : ∀ w, (isAgg 41).run Try.prog w = .ok true w := fun w => by kernel_rfl
theorem sizeOf_41 : ∀ w, (sizeOf 41).run Try.prog w = .ok 15 w := fun w => by kernel_rfl
abbrev L_41 (x : PChan) (a1 : Option Addr) (c1 : Nat) (a2 : Option Addr) (c2 : Nat) (a3 : Option Addr) (c3 : Nat) (a4 : Option Addr) (c4 : Nat) (a5 : Option Addr) (c5 : Nat) (a6 : Option Addr) (c6 : Nat) : List Value := [vi x.Role, vs a1 x.Sn.length c1, vi x.Cur.N, vs a2 x.Cur.Key.length c2, vi x.Cur.Seq, vi x.Cur.Win.Top, vs a3 x.Cur.Win.Bits.length c3, vi x.Old.N, vs a4 x.Old.Key.length c4, vi x.Old.Seq, vi x.Old.Win.Top, vs a5 x.Old.Win.Bits.length c5, vb x.HasOld, vi x.Until, vs a6 x.Next.length c6]
theorem mQ_41 {w : World} {x : PChan} {a1 : Option Addr} {c1 : Nat} {a2 : Option Addr} {c2 : Nat} {a3 : Option Addr} {c3 : Nat} {a4 : Option Addr} {c4 : Nat} {a5 : Option Addr} {c5 : Nat} {a6 : Option Addr} {c6 : Nat} (h1 : Rd w 1 (.slice a1 x.Sn.length c1) x.Sn.length (x.Sn.map bV)) (l1 : x.Sn.length ≤ 9223372036854775807) (h2 : Rd w 1 (.slice a2 x.Cur.Key.length c2) x.Cur.Key.length (x.Cur.Key.map bV)) (l2 : x.Cur.Key.length ≤ 9223372036854775807) (h3 : Rd w 1 (.slice a3 x.Cur.Win.Bits.length c3) x.Cur.Win.Bits.length (x.Cur.Win.Bits.map iV)) (l3 : x.Cur.Win.Bits.length ≤ 9223372036854775807) (h4 : Rd w 1 (.slice a4 x.Old.Key.length c4) x.Old.Key.length (x.Old.Key.map bV)) (l4 : x.Old.Key.length ≤ 9223372036854775807) (h5 : Rd w 1 (.slice a5 x.Old.Win.Bits.length c5) x.Old.Win.Bits.length (x.Old.Win.Bits.map iV)) (l5 : x.Old.Win.Bits.length ≤ 9223372036854775807) (h6 : Rd w 1 (.slice a6 x.Next.length c6) x.Next.length (x.Next.map bV)) (l6 : x.Next.length ≤ 9223372036854775807) : Q_41 w (va (L_41 x a1 c1 a2 c2 a3 c3 a4 c4 a5 c5 a6 c6)) x := ⟨_, _, _, _, _, _, _, _, _, _, _, _, rfl, h1, l1, h2, l2, h3, l3, h4, l4, h5, l5, h6, l6⟩
theorem mR_41 {w : World} {x : PChan} {a1 : Option Addr} {c1 : Nat} {a2 : Option Addr} {c2 : Nat} {a3 : Option Addr} {c3 : Nat} {a4 : Option Addr} {c4 : Nat} {a5 : Option Addr} {c5 : Nat} {a6 : Option Addr} {c6 : Nat} (h1 : Rd w 1 (.slice a1 x.Sn.length c1) x.Sn.length (x.Sn.map bV)) (l1 : x.Sn.length ≤ 1073741824) (h2 : Rd w 1 (.slice a2 x.Cur.Key.length c2) x.Cur.Key.length (x.Cur.Key.map bV)) (l2 : x.Cur.Key.length ≤ 1073741824) (h3 : Rd w 1 (.slice a3 x.Cur.Win.Bits.length c3) x.Cur.Win.Bits.length (x.Cur.Win.Bits.map iV)) (l3 : x.Cur.Win.Bits.length ≤ 1073741824) (h4 : Rd w 1 (.slice a4 x.Old.Key.length c4) x.Old.Key.length (x.Old.Key.map bV)) (l4 : x.Old.Key.length ≤ 1073741824) (h5 : Rd w 1 (.slice a5 x.Old.Win.Bits.length c5) x.Old.Win.Bits.length (x.Old.Win.Bits.map iV)) (l5 : x.Old.Win.Bits.length ≤ 1073741824) (h6 : Rd w 1 (.slice a6 x.Next.length c6) x.Next.length (x.Next.map bV)) (l6 : x.Next.length ≤ 1073741824) : R_41 w (va (L_41 x a1 c1 a2 c2 a3 c3 a4 c4 a5 c5 a6 c6)) x := ⟨_, _, _, _, _, _, _, _, _, _, _, _, rfl, h1, l1, h2, l2, h3, l3, h4, l4, h5, l5, h6, l6⟩
theorem mR_50 {w : World} {x : List (List UInt8)} {a1 : Option Addr} {c1 : Nat} (h1 : RLv LT_B w 1073741824 a1 x.length c1 x) (l1 : x.length ≤ 1073741824) : R_50 w (vs a1 x.length c1) x := ⟨_, _, rfl, h1, l1⟩
def F_laws_FnExactKeysOf (x_aC : PChan) : (Bool) := bif (decide ((F_laws_szChan x_aC 1048576) < 0)) then (true) else (bif (eqF_B (F_impl_KeysOf (F_laws_toChan x_aC)) (F_spec_KeysOf (F_laws_toChan x_aC))) then (bif (F_laws_eqChan (F_laws_toChan x_aC) (F_laws_toChan x_aC)) then (bif (decide (((((((1 + (((F_laws_toChan x_aC).Sn).length : Int)) + ((((F_laws_toChan x_aC).Cur).Key).length : Int)) + (((((F_laws_toChan x_aC).Cur).Win).Bits).length : Int)) + ((((F_laws_toChan x_aC).Old).Key).length : Int)) + (((((F_laws_toChan x_aC).Old).Win).Bits).length : Int)) + (((F_laws_toChan x_aC).Next).length : Int)) < 0)) then (false) else (bif (decide ((heldL hC_B (marksE mkE_B wt_B (F_impl_KeysOf (F_laws_toChan x_aC)) 1) 1) < 0)) then (false) else (bif (decide ((heldL hC_B (marksE mkE_B wt_B (F_impl_KeysOf (F_laws_toChan x_aC)) 1) 1) = (1 + totL wt_B (F_impl_KeysOf (F_laws_toChan x_aC))))) then (true) else (false)))) else (false)) else (false))
theorem C_laws_FnExactKeysOf (w0 : World) (v_x_aC : Value) (x_aC : PChan) (r_x_aC : Q_41 w0 v_x_aC x_aC)  : Fn Try.prog 7 #[v_x_aC] w0 (fun v w' => Keep w0 w' ∧ O_4 w' w0.heap.size v (F_laws_FnExactKeysOf x_aC)) := by
 obtain ⟨a1, c2, a6, c7, a11, c12, a16, c17, a21, c22, a26, c27, rfl, r3, s4, r8, s9, r13, s14, r18, s19, r23, s24, r28, s29⟩ := r_x_aC
 refine fn_of (n := 69) (l := [(va (L_29 x_aC a1 c2 a6 c7 a11 c12 a16 c17 a21 c22 a26 c27)), U, U, U, U, U, U, U, U, U, U, U, U, U, U, U, U, U, U, U, U, U, U, U, U, U, U, U, U, U, U, U, U, U, U, U, U, U, U, U, U, U, U, U, U, U, U, U, U, U, U, U, U, U, U, U, U, U, U, U, U, U, U, U, U, U, U, U, U]) Try.func7 rfl rfl (by kernel_rfl) rfl ?_
 refine sr ?_
 refine bx (L_29 x_aC a1 c2 a6 c7 a11 c12 a16 c17 a21 c22 a26 c27) wN ?_
 intro g31 w1 p32 p33 k34 b35
 have m36 := (Ch.base w0).extk k34
 refine ag (vb false) wN ?_
 refine nx ?_
 refine ag (vi 1048576) wN ?_
 refine nx ?_
 refine lN (L_29 x_aC a1 c2 a6 c7 a11 c12 a16 c17 a21 c22 a26 c27) wN isAgg_41 sizeOf_41 b35 ?_
 refine mv (vi 1048576) wN ?_
 refine cl wN (C_laws_szChan w1 _ x_aC (mQ_41 (r3.from0 m36) s4 (r8.from0 m36) s9 (r13.from0 m36) s14 (r18.from0 m36) s19 (r23.from0 m36) s24 (r28.from0 m36) s29) 1048576 (by omega) (by omega)) ?_
 rintro _ w2 ⟨k37, rfl⟩
 have m38 := m36.extk k37
 have q39 := laws_szChan_le x_aC 1048576
 refine ag (vi (F_laws_szChan x_aC 1048576)) wN ?_
 refine wl_nil <| wq_then <| wc_seq <| sr ?_
 refine mv (vi (F_laws_szChan x_aC 1048576)) wN ?_
 refine pu (vb (decide ((F_laws_szChan x_aC 1048576) < 0))) wN ?_
 refine wl_nil <| wq_then ?_
 rcases bt (decide ((F_laws_szChan x_aC 1048576) < 0)) with h40 | h40
 ·have q41 := of_decide_eq_true h40
  refine ct h40 ?_
  refine sr ?_
  refine ag (vb true) wN ?_
  refine wl_nil <| wq_then <| wc_ret <| wq_then_ret ?_
  refine ret_1 (.inl rfl) (vb true) rfl rfl ?_
  refine ⟨m38.keep0, ?_⟩
  have hF42 : F_laws_FnExactKeysOf x_aC = true := by simp only [F_laws_FnExactKeysOf, h40, cond_true, cond_false]
  rw [hF42]
  exact rfl
 have q43 := of_decide_eq_false h40
 refine cf h40 ?_
 refine wc_skip <| wq_then <| sr ?_
 have b44 := (b35.kp k37)
 refine lN (L_29 x_aC a1 c2 a6 c7 a11 c12 a16 c17 a21 c22 a26 c27) wN isAgg_41 sizeOf_41 b44 ?_
 refine cl wN (C_laws_toChan w2 _ x_aC (mR_41 (r3.from0 m38) (by omega) (r8.from0 m38) (by omega) (r13.from0 m38) (by omega) (r18.from0 m38) (by omega) (r23.from0 m38) (by omega) (r28.from0 m38) (by omega))) ?_
 rintro _ w3 ⟨k45, ⟨a46, c47, a51, c52, a56, c57, a61, c62, a66, c67, a71, c72, rfl, o48, s49, o53, s54, o58, s59, o63, s64, o68, s69, o73, s74, ap76⟩⟩
 have m77 := m38.extk k45
 refine cl wN (C_spec_KeysOf w3 _ (F_laws_toChan x_aC) (mR_29 (Rd.of_own o48) s49 (Rd.of_own o53) s54 (Rd.of_own o58) s59 (Rd.of_own o63) s64 (Rd.of_own o68) s69 (Rd.of_own o73) s74)) ?_
 rintro _ w4 ⟨k78, ⟨a79, c80, rfl, o81, s82, ap84⟩⟩
 have m85 := m77.extk k78
 obtain ⟨y86, o87⟩ := OLv.ow o81
 refine ag (vs a79 (F_spec_KeysOf (F_laws_toChan x_aC)).length c80) wN ?_
 refine nx ?_
 have b88 := ((b44.kp k45).kp k78)
 refine lN (L_29 x_aC a1 c2 a6 c7 a11 c12 a16 c17 a21 c22 a26 c27) wN isAgg_41 sizeOf_41 b88 ?_
 refine cl wN (C_laws_toChan w4 _ x_aC (mR_41 (r3.from0 m85) (by omega) (r8.from0 m85) (by omega) (r13.from0 m85) (by omega) (r18.from0 m85) (by omega) (r23.from0 m85) (by omega) (r28.from0 m85) (by omega))) ?_
 rintro _ w5 ⟨k89, ⟨a90, c91, a95, c96, a100, c101, a105, c106, a110, c111, a115, c116, rfl, o92, s93, o97, s98, o102, s103, o107, s108, o112, s113, o117, s118, ap120⟩⟩
 have m121 := m85.extk k89
 refine al [(vi 0), (vs none 0 0), (vi 0), (vs none 0 0), (vi 0), (vi 0), (vs none 0 0), (vi 0), (vs none 0 0), (vi 0), (vi 0), (vs none 0 0), (vb false), (vi 0), (vs none 0 0)] wN zero_29 ?_
 intro g122 w6 p123 p124 k125 b126
 have m127 := m121.extk k125
 refine st (va (L_29 (F_laws_toChan x_aC) a90 c91 a95 c96 a100 c101 a105 c106 a110 c111 a115 c116)) (L_29 (F_laws_toChan x_aC) a90 c91 a95 c96 a100 c101 a105 c106 a110 c111 a115 c116) (L_29 (F_laws_toChan x_aC) a90 c91 a95 c96 a100 c101 a105 c106 a110 c111 a115 c116) wN sizeOf_29 b126 ?_
 intro w7 k128 b129 z130
 have m131 := m127.ext k128 (fun k hk => by subst hk; exact Nat.le_trans (Nat.le_trans (Nat.le_trans (Nat.le_trans (Nat.le_trans k34.size k37.size) k45.size) k78.size) k89.size) p123)
 refine nx ?_
 refine lN (L_29 (F_laws_toChan x_aC) a90 c91 a95 c96 a100 c101 a105 c106 a110 c111 a115 c116) wN isAgg_29 sizeOf_29 b129 ?_
 have o132 := (own_ch (own_kp o92 k125) k128 (fun g hg hlt hk => by have h1 := (own_lt o92 g hg).2; have h2 := Nat.le_trans (Nat.le_refl _) p123; omega))
 have o133 := (own_ch (own_kp o97 k125) k128 (fun g hg hlt hk => by have h1 := (own_lt o97 g hg).2; have h2 := Nat.le_trans (Nat.le_refl _) p123; omega))
 have o134 := (own_ch (own_kp o102 k125) k128 (fun g hg hlt hk => by have h1 := (own_lt o102 g hg).2; have h2 := Nat.le_trans (Nat.le_refl _) p123; omega))
 have o135 := (own_ch (own_kp o107 k125) k128 (fun g hg hlt hk => by have h1 := (own_lt o107 g hg).2; have h2 := Nat.le_trans (Nat.le_refl _) p123; omega))
 have o136 := (own_ch (own_kp o112 k125) k128 (fun g hg hlt hk => by have h1 := (own_lt o112 g hg).2; have h2 := Nat.le_trans (Nat.le_refl _) p123; omega))
 have o137 := (own_ch (own_kp o117 k125) k128 (fun g hg hlt hk => by have h1 := (own_lt o117 g hg).2; have h2 := Nat.le_trans (Nat.le_refl _) p123; omega))
 refine cl wN (C_impl_KeysOf w7 _ (F_laws_toChan x_aC) (mR_29 (Rd.of_own o132) s93 (Rd.of_own o133) s98 (Rd.of_own o134) s103 (Rd.of_own o135) s108 (Rd.of_own o136) s113 (Rd.of_own o137) s118)) ?_
 rintro _ w8 ⟨k138, ⟨a139, c140, rfl, o141, s142, ap144⟩⟩
 have m145 := m131.extk k138
 obtain ⟨y146, o147⟩ := OLv.ow o141
 refine ag (vs a139 (F_impl_KeysOf (F_laws_toChan x_aC)).length c140) wN ?_
 refine wl_nil <| wq_then <| wc_seq <| sr ?_
 refine mv (vs a139 (F_impl_KeysOf (F_laws_toChan x_aC)).length c140) wN ?_
 refine mv (vs a79 (F_spec_KeysOf (F_laws_toChan x_aC)).length c80) wN ?_
 have o148 := (OLv.kp (OLv.ch (OLv.kp (OLv.kp o81 k89) k125) k128 (fun g h1 h2 hk => by have h3 := Nat.le_trans k89.size p123; omega)) k138)
 refine cl wN (C_laws_eqByteSS w8 _ (F_impl_KeysOf (F_laws_toChan x_aC)) (mR_50 (OLv.rl o141) s142) _ (F_spec_KeysOf (F_laws_toChan x_aC)) (mR_50 (OLv.rl o148) s82)) ?_
 rintro _ w9 ⟨k149, rfl⟩
 have m150 := m145.extk k149
 refine pu (vb (!(eqF_B (F_impl_KeysOf (F_laws_toChan x_aC)) (F_spec_KeysOf (F_laws_toChan x_aC))))) wN ?_
 refine wl_nil <| wq_then ?_
 rcases bf (eqF_B (F_impl_KeysOf (F_laws_toChan x_aC)) (F_spec_KeysOf (F_laws_toChan x_aC))) with h151 | h151
 ·refine ct (congrArg not h151) ?_
  refine sr ?_
  refine ag (vb false) wN ?_
  refine wl_nil <| wq_then <| wc_ret <| wq_then_ret ?_
  refine ret_1 (.inl rfl) (vb false) rfl rfl ?_
  refine ⟨m150.keep0, ?_⟩
  have hF407 : F_laws_FnExactKeysOf x_aC = false := by simp only [F_laws_FnExactKeysOf, h40, h151, cond_true, cond_false]
  rw [hF407]
  exact rfl
 refine cf (congrArg not h151) ?_
 refine wc_skip <| wq_then <| wc_seq <| wc_seq ?_
 refine wc_drawT ([(27, [], [], (fun _ v _ => v = (.agg #[(vi ((F_laws_toChan x_aC).Role)), (vs a90 ((F_laws_toChan x_aC).Sn).length c91), (vi (((F_laws_toChan x_aC).Cur).N)), (vs a95 (((F_laws_toChan x_aC).Cur).Key).length c96), (vi (((F_laws_toChan x_aC).Cur).Seq)), (vi ((((F_laws_toChan x_aC).Cur).Win).Top)), (vs a100 ((((F_laws_toChan x_aC).Cur).Win).Bits).length c101), (vi (((F_laws_toChan x_aC).Old).N)), (vs a105 (((F_laws_toChan x_aC).Old).Key).length c106), (vi (((F_laws_toChan x_aC).Old).Seq)), (vi ((((F_laws_toChan x_aC).Old).Win).Top)), (vs a110 ((((F_laws_toChan x_aC).Old).Win).Bits).length c111), (vb ((F_laws_toChan x_aC).HasOld)), (vi ((F_laws_toChan x_aC).Until)), (vs a115 ((F_laws_toChan x_aC).Next).length c116)]))), (28, [], [], (fun _ v _ => v = (.agg #[(vi x_aC.Role), (vs a1 x_aC.Sn.length c2), (vi x_aC.Cur.N), (vs a6 x_aC.Cur.Key.length c7), (vi x_aC.Cur.Seq), (vi x_aC.Cur.Win.Top), (vs a11 x_aC.Cur.Win.Bits.length c12), (vi x_aC.Old.N), (vs a16 x_aC.Old.Key.length c17), (vi x_aC.Old.Seq), (vi x_aC.Old.Win.Top), (vs a21 x_aC.Old.Win.Bits.length c22), (vb x_aC.HasOld), (vi x_aC.Until), (vs a26 x_aC.Next.length c27)]))), (29, [], [1], (fun _ v w => ∃ (a1 : Option Addr) (c1 : Nat) (a2 : Option Addr) (c2 : Nat) (a3 : Option Addr) (c3 : Nat) (a4 : Option Addr) (c4 : Nat) (a5 : Option Addr) (c5 : Nat) (a6 : Option Addr) (c6 : Nat), v = .agg #[.int .i64 ((F_laws_toChan x_aC).Role), .slice a1 ((F_laws_toChan x_aC).Sn).length c1, .int .i64 (((F_laws_toChan x_aC).Cur).N), .slice a2 (((F_laws_toChan x_aC).Cur).Key).length c2, .int .i64 (((F_laws_toChan x_aC).Cur).Seq), .int .i64 ((((F_laws_toChan x_aC).Cur).Win).Top), .slice a3 ((((F_laws_toChan x_aC).Cur).Win).Bits).length c3, .int .i64 (((F_laws_toChan x_aC).Old).N), .slice a4 (((F_laws_toChan x_aC).Old).Key).length c4, .int .i64 (((F_laws_toChan x_aC).Old).Seq), .int .i64 ((((F_laws_toChan x_aC).Old).Win).Top), .slice a5 ((((F_laws_toChan x_aC).Old).Win).Bits).length c5, .bool ((F_laws_toChan x_aC).HasOld), .int .i64 ((F_laws_toChan x_aC).Until), .slice a6 ((F_laws_toChan x_aC).Next).length c6] ∧ w.ownsRow (w9.heap.size) 5 1 (.slice a1 ((F_laws_toChan x_aC).Sn).length c1) ((F_laws_toChan x_aC).Sn).length (((F_laws_toChan x_aC).Sn).map bV) ∧ ((F_laws_toChan x_aC).Sn).length ≤ 1073741824 ∧ w.ownsRow (w9.heap.size) 5 1 (.slice a2 (((F_laws_toChan x_aC).Cur).Key).length c2) (((F_laws_toChan x_aC).Cur).Key).length ((((F_laws_toChan x_aC).Cur).Key).map bV) ∧ (((F_laws_toChan x_aC).Cur).Key).length ≤ 1073741824 ∧ w.ownsRow (w9.heap.size) 3 1 (.slice a3 ((((F_laws_toChan x_aC).Cur).Win).Bits).length c3) ((((F_laws_toChan x_aC).Cur).Win).Bits).length (((((F_laws_toChan x_aC).Cur).Win).Bits).map iV) ∧ ((((F_laws_toChan x_aC).Cur).Win).Bits).length ≤ 1073741824 ∧ w.ownsRow (w9.heap.size) 5 1 (.slice a4 (((F_laws_toChan x_aC).Old).Key).length c4) (((F_laws_toChan x_aC).Old).Key).length ((((F_laws_toChan x_aC).Old).Key).map bV) ∧ (((F_laws_toChan x_aC).Old).Key).length ≤ 1073741824 ∧ w.ownsRow (w9.heap.size) 3 1 (.slice a5 ((((F_laws_toChan x_aC).Old).Win).Bits).length c5) ((((F_laws_toChan x_aC).Old).Win).Bits).length (((((F_laws_toChan x_aC).Old).Win).Bits).map iV) ∧ ((((F_laws_toChan x_aC).Old).Win).Bits).length ≤ 1073741824 ∧ w.ownsRow (w9.heap.size) 5 1 (.slice a6 ((F_laws_toChan x_aC).Next).length c6) ((F_laws_toChan x_aC).Next).length (((F_laws_toChan x_aC).Next).map bV) ∧ ((F_laws_toChan x_aC).Next).length ≤ 1073741824 ∧ Aps [(a1, c1), (a2, c2), (a3, c3), (a4, c4), (a5, c5), (a6, c6)]))] : GV) (fun _ w' => Keep w9 w') [] mixed rfl (by kernel_rfl) (by kernel_rfl) ?_ (fun _ _ h => h) (fun _ _ _ _ h _ k => h.trans k) trivial ?_ ?_ ?_
 ·exact ⟨(fun _ _ _ _ h _ => h), (fun _ _ _ _ _ h => h), ⟨(fun _ _ _ _ h _ => h), (fun _ _ _ _ _ h => h), ⟨(fun e v w w1 h hk => by obtain ⟨a0x, c0x, a1x, c1x, a2x, c2x, a3x, c3x, a4x, c4x, a5x, c5x, he, o0x, l0x, o1x, l1x, o2x, l2x, o3x, l3x, o4x, l4x, o5x, l5x, hap⟩ := h; exact ⟨a0x, c0x, a1x, c1x, a2x, c2x, a3x, c3x, a4x, c4x, a5x, c5x, he, own_kp o0x hk, l0x, own_kp o1x hk, l1x, own_kp o2x hk, l2x, own_kp o3x hk, l3x, own_kp o4x hk, l4x, own_kp o5x hk, l5x, hap⟩), (fun _ _ _ _ _ h => h), trivial⟩⟩⟩
 ·exact trivial
 ·refine ⟨?_, ⟨?_, ⟨?_, trivial⟩⟩⟩
  ·intro _ w10 k229 _
   have m230 := m150.extk k229
   rintro _ _ _
   show WL _ _ _ _ _ _ _
   have b231 := (((b129.kp k138).kp k149).kp k229)
   refine lN (L_29 (F_laws_toChan x_aC) a90 c91 a95 c96 a100 c101 a105 c106 a110 c111 a115 c116) wN isAgg_29 sizeOf_29 b231 ?_
   exact wl_finT (Ch.refl _ _) rfl
  ·intro _ w10 k232 _
   have m233 := m150.extk k232
   rintro _ _ _
   show WL _ _ _ _ _ _ _
   have b234 := ((((((b88.kp k89).kp k125).ch k128 (Nat.ne_of_lt (Nat.lt_of_lt_of_le p33 (Nat.le_trans (Nat.le_trans (Nat.le_trans (Nat.le_trans k37.size k45.size) k78.size) k89.size) p123)))).kp k138).kp k149).kp k232)
   refine lN (L_29 x_aC a1 c2 a6 c7 a11 c12 a16 c17 a21 c22 a26 c27) wN isAgg_41 sizeOf_41 b234 ?_
   exact wl_finT (Ch.refl _ _) rfl
  ·intro _ w10 k235 _
   have m236 := m150.extk k235
   rintro _ _ rfl _
   show WL _ _ _ _ _ _ _
   refine cl wN (C_laws_toChan w10 _ x_aC (mR_41 (r3.from0 m236) (by omega) (r8.from0 m236) (by omega) (r13.from0 m236) (by omega) (r18.from0 m236) (by omega) (r23.from0 m236) (by omega) (r28.from0 m236) (by omega))) ?_
   rintro _ w11 ⟨k238, ⟨a239, c240, a244, c245, a249, c250, a254, c255, a259, c260, a264, c265, rfl, o241, s242, o246, s247, o251, s252, o256, s257, o261, s262, o266, s267, ap269⟩⟩
   have m270 := m236.extk k238
   exact wl_finT k238 ⟨_, _, _, _, _, _, _, _, _, _, _, _, rfl, (own_lo o241 k235.size), s242, (own_lo o246 k235.size), s247, (own_lo o251 k235.size), s252, (own_lo o256 k235.size), s257, (own_lo o261 k235.size), s262, (own_lo o266 k235.size), s267, ap269⟩
 ·intro _ w10 k271
  have m272 := m150.extk k271
  rintro _ rfl _ rfl _ ⟨a275, c276, a280, c281, a285, c286, a290, c291, a295, c296, a300, c301, rfl, o277, s278, o282, s283, o287, s288, o292, s293, o297, s298, o302, s303, ap305⟩
  show WL _ _ _ _ _ _ _
  have o306 := (own_kp (own_kp (own_kp o132 k138) k149) k271)
  have o307 := (own_kp (own_kp (own_kp o133 k138) k149) k271)
  have o308 := (own_kp (own_kp (own_kp o134 k138) k149) k271)
  have o309 := (own_kp (own_kp (own_kp o135 k138) k149) k271)
  have o310 := (own_kp (own_kp (own_kp o136 k138) k149) k271)
  have o311 := (own_kp (own_kp (own_kp o137 k138) k149) k271)
  refine cl wN (C_laws_eqChan w10 _ (F_laws_toChan x_aC) (mR_29 (Rd.of_own o306) s93 (Rd.of_own o307) s98 (Rd.of_own o308) s103 (Rd.of_own o309) s108 (Rd.of_own o310) s113 (Rd.of_own o311) s118) _ (F_laws_toChan x_aC) (mR_29 (Rd.of_own o277) s278 (Rd.of_own o282) s283 (Rd.of_own o287) s288 (Rd.of_own o292) s293 (Rd.of_own o297) s298 (Rd.of_own o302) s303)) ?_
  rintro _ w11 ⟨k312, rfl⟩
  have m313 := m272.extk k312
  refine pu (vb (!(F_laws_eqChan (F_laws_toChan x_aC) (F_laws_toChan x_aC)))) wN ?_
  refine wl_nil <| wq_then ?_
  rcases bf (F_laws_eqChan (F_laws_toChan x_aC) (F_laws_toChan x_aC)) with h314 | h314
  ·refine ct (congrArg not h314) ?_
   refine sr ?_
   refine ag (vb false) wN ?_
   refine wl_nil <| wq_then <| wc_ret <| wq_then_ret ?_
   refine ret_1 (.inl rfl) (vb false) rfl rfl ?_
   refine ⟨m313.keep0, ?_⟩
   have hF405 : F_laws_FnExactKeysOf x_aC = false := by simp only [F_laws_FnExactKeysOf, h40, h151, h314, cond_true, cond_false]
   rw [hF405]
   exact rfl
  refine cf (congrArg not h314) ?_
  refine wc_skip <| wq_then <| sr ?_
  refine ag (vi 1) wN ?_
  refine nx ?_
  have b316 := ((((b129.kp k138).kp k149).kp k271).kp k312)
  refine lN (L_29 (F_laws_toChan x_aC) a90 c91 a95 c96 a100 c101 a105 c106 a110 c111 a115 c116) wN isAgg_29 sizeOf_29 b316 ?_
  refine mv (vi 1) wN ?_
  have o317 := (own_kp o306 k312)
  have o318 := (own_kp o307 k312)
  have o319 := (own_kp o308 k312)
  have o320 := (own_kp o309 k312)
  have o321 := (own_kp o310 k312)
  have o322 := (own_kp o311 k312)
  refine cl wN (C_laws_markChan w11 a90 c91 a95 c96 a100 c101 a105 c106 a110 c111 a115 c116 (F_laws_toChan x_aC) 1 (by omega) (by omega) s93 (Rd.of_own o317) (Wp.of o317) s98 (Rd.of_own o318) (Wp.of o318) s103 (Rd.of_own o319) (Wp.of o319) s108 (Rd.of_own o320) (Wp.of o320) s113 (Rd.of_own o321) (Wp.of o321) s118 (Rd.of_own o322) (Wp.of o322) ⟨⟨(ap120.1.1), ⟨(ap120.1.2.1), ⟨(ap120.1.2.2.1), ⟨(ap120.1.2.2.2.1), ⟨(ap120.1.2.2.2.2.1), trivial⟩⟩⟩⟩⟩, ⟨⟨(ap120.2.1.1), ⟨(ap120.2.1.2.1), ⟨(ap120.2.1.2.2.1), ⟨(ap120.2.1.2.2.2.1), trivial⟩⟩⟩⟩, ⟨⟨(ap120.2.2.1.1), ⟨(ap120.2.2.1.2.1), ⟨(ap120.2.2.1.2.2.1), trivial⟩⟩⟩, ⟨⟨(ap120.2.2.2.1.1), ⟨(ap120.2.2.2.1.2.1), trivial⟩⟩, ⟨⟨(ap120.2.2.2.2.1.1), trivial⟩, ⟨trivial, trivial⟩⟩⟩⟩⟩⟩) ?_
  rintro _ w12 ⟨rfl, k323, r324, r325, r326, r327, r328, r329⟩
  have m330 := m313.ext k323 (fun k hk => ms_ge (ms_ge_cons (fun hn x hx => Nat.le_trans (Nat.le_trans (Nat.le_trans (Nat.le_trans k34.size k37.size) k45.size) k78.size) (own_lt o92 x.block (by rw [hx]; rfl)).1) (ms_ge_cons (fun hn x hx => Nat.le_trans (Nat.le_trans (Nat.le_trans (Nat.le_trans k34.size k37.size) k45.size) k78.size) (own_lt o97 x.block (by rw [hx]; rfl)).1) (ms_ge_cons (fun hn x hx => Nat.le_trans (Nat.le_trans (Nat.le_trans (Nat.le_trans k34.size k37.size) k45.size) k78.size) (own_lt o102 x.block (by rw [hx]; rfl)).1) (ms_ge_cons (fun hn x hx => Nat.le_trans (Nat.le_trans (Nat.le_trans (Nat.le_trans k34.size k37.size) k45.size) k78.size) (own_lt o107 x.block (by rw [hx]; rfl)).1) (ms_ge_cons (fun hn x hx => Nat.le_trans (Nat.le_trans (Nat.le_trans (Nat.le_trans k34.size k37.size) k45.size) k78.size) (own_lt o112 x.block (by rw [hx]; rfl)).1) (ms_ge_cons (fun hn x hx => Nat.le_trans (Nat.le_trans (Nat.le_trans (Nat.le_trans k34.size k37.size) k45.size) k78.size) (own_lt o117 x.block (by rw [hx]; rfl)).1) ms_ge_nil)))))) hk)
  refine ag (vi ((((((1 + (((F_laws_toChan x_aC).Sn).length : Int)) + ((((F_laws_toChan x_aC).Cur).Key).length : Int)) + (((((F_laws_toChan x_aC).Cur).Win).Bits).length : Int)) + ((((F_laws_toChan x_aC).Old).Key).length : Int)) + (((((F_laws_toChan x_aC).Old).Win).Bits).length : Int)) + (((F_laws_toChan x_aC).Next).length : Int))) wN ?_
  refine wl_nil <| wq_then <| wc_seq <| sr ?_
  refine mv (vi ((((((1 + (((F_laws_toChan x_aC).Sn).length : Int)) + ((((F_laws_toChan x_aC).Cur).Key).length : Int)) + (((((F_laws_toChan x_aC).Cur).Win).Bits).length : Int)) + ((((F_laws_toChan x_aC).Old).Key).length : Int)) + (((((F_laws_toChan x_aC).Old).Win).Bits).length : Int)) + (((F_laws_toChan x_aC).Next).length : Int))) wN ?_
  refine pu (vb (decide (((((((1 + (((F_laws_toChan x_aC).Sn).length : Int)) + ((((F_laws_toChan x_aC).Cur).Key).length : Int)) + (((((F_laws_toChan x_aC).Cur).Win).Bits).length : Int)) + ((((F_laws_toChan x_aC).Old).Key).length : Int)) + (((((F_laws_toChan x_aC).Old).Win).Bits).length : Int)) + (((F_laws_toChan x_aC).Next).length : Int)) < 0))) wN ?_
  refine mv (vb (decide (((((((1 + (((F_laws_toChan x_aC).Sn).length : Int)) + ((((F_laws_toChan x_aC).Cur).Key).length : Int)) + (((((F_laws_toChan x_aC).Cur).Win).Bits).length : Int)) + ((((F_laws_toChan x_aC).Old).Key).length : Int)) + (((((F_laws_toChan x_aC).Old).Win).Bits).length : Int)) + (((F_laws_toChan x_aC).Next).length : Int)) < 0))) wN ?_
  rcases bt (decide (((((((1 + (((F_laws_toChan x_aC).Sn).length : Int)) + ((((F_laws_toChan x_aC).Cur).Key).length : Int)) + (((((F_laws_toChan x_aC).Cur).Win).Bits).length : Int)) + ((((F_laws_toChan x_aC).Old).Key).length : Int)) + (((((F_laws_toChan x_aC).Old).Win).Bits).length : Int)) + (((F_laws_toChan x_aC).Next).length : Int)) < 0)) with h331 | h331
  ·have q332 := of_decide_eq_true h331
   refine sk h331 ?_
   refine sk h331 ?_
   refine sk h331 ?_
   refine sk h331 ?_
   refine pk (vb true) wN h331 ?_
   refine wl_nil <| wq_then ?_
   refine ct (Eq.refl true) ?_
   refine sr ?_
   refine ag (vb false) wN ?_
   refine wl_nil <| wq_then <| wc_ret <| wq_then_ret ?_
   refine ret_1 (.inl rfl) (vb false) rfl rfl ?_
   refine ⟨m330.keep0, ?_⟩
   have hF333 : F_laws_FnExactKeysOf x_aC = false := by simp only [F_laws_FnExactKeysOf, h40, h151, h314, h331, cond_true, cond_false]
   rw [hF333]
   exact rfl
  have q334 := of_decide_eq_false h331
  refine mv (vs a139 (F_impl_KeysOf (F_laws_toChan x_aC)).length c140) (wS h331) ?_
  refine mv (vs a79 (F_spec_KeysOf (F_laws_toChan x_aC)).length c80) (wS h331) ?_
  have o335 := (OLv.ch (OLv.kp (OLv.kp (OLv.kp o141 k149) k271) k312) k323 (fun g h1 h2 => ms_out (ms_out_cons (fun hn x hx => .inl (Nat.lt_of_lt_of_le (own_lt o92 x.block (by rw [hx]; rfl)).2 (Nat.le_trans k125.size k128.size))) (ms_out_cons (fun hn x hx => .inl (Nat.lt_of_lt_of_le (own_lt o97 x.block (by rw [hx]; rfl)).2 (Nat.le_trans k125.size k128.size))) (ms_out_cons (fun hn x hx => .inl (Nat.lt_of_lt_of_le (own_lt o102 x.block (by rw [hx]; rfl)).2 (Nat.le_trans k125.size k128.size))) (ms_out_cons (fun hn x hx => .inl (Nat.lt_of_lt_of_le (own_lt o107 x.block (by rw [hx]; rfl)).2 (Nat.le_trans k125.size k128.size))) (ms_out_cons (fun hn x hx => .inl (Nat.lt_of_lt_of_le (own_lt o112 x.block (by rw [hx]; rfl)).2 (Nat.le_trans k125.size k128.size))) (ms_out_cons (fun hn x hx => .inl (Nat.lt_of_lt_of_le (own_lt o117 x.block (by rw [hx]; rfl)).2 (Nat.le_trans k125.size k128.size))) ms_out_nil)))))) h1 h2))
  have o336 := (OLv.ch (OLv.kp (OLv.kp (OLv.kp o148 k149) k271) k312) k323 (fun g h1 h2 => ms_out (ms_out_cons (fun hn x hx => .inr (Nat.le_trans (Nat.le_refl _) (own_lt o92 x.block (by rw [hx]; rfl)).1)) (ms_out_cons (fun hn x hx => .inr (Nat.le_trans (Nat.le_refl _) (own_lt o97 x.block (by rw [hx]; rfl)).1)) (ms_out_cons (fun hn x hx => .inr (Nat.le_trans (Nat.le_refl _) (own_lt o102 x.block (by rw [hx]; rfl)).1)) (ms_out_cons (fun hn x hx => .inr (Nat.le_trans (Nat.le_refl _) (own_lt o107 x.block (by rw [hx]; rfl)).1)) (ms_out_cons (fun hn x hx => .inr (Nat.le_trans (Nat.le_refl _) (own_lt o112 x.block (by rw [hx]; rfl)).1)) (ms_out_cons (fun hn x hx => .inr (Nat.le_trans (Nat.le_refl _) (own_lt o117 x.block (by rw [hx]; rfl)).1)) ms_out_nil)))))) h1 h2))
  refine cl (wS h331) (C_laws_eqByteSS w12 _ (F_impl_KeysOf (F_laws_toChan x_aC)) (mR_50 (OLv.rl o335) s142) _ (F_spec_KeysOf (F_laws_toChan x_aC)) (mR_50 (OLv.rl o336) s82)) ?_
  rintro _ w13 ⟨k337, rfl⟩
  have m338 := m330.extk k337
  refine pu (vb (!(eqF_B (F_impl_KeysOf (F_laws_toChan x_aC)) (F_spec_KeysOf (F_laws_toChan x_aC))))) (wS h331) ?_
  refine pf (vb (!(eqF_B (F_impl_KeysOf (F_laws_toChan x_aC)) (F_spec_KeysOf (F_laws_toChan x_aC))))) wN h331 ?_
  refine wl_nil <| wq_then ?_
  refine cf (congrArg not h151) ?_
  refine wc_skip <| wq_then <| sr ?_
  refine ag (vi 1) wN ?_
  refine nx ?_
  refine mv (vs a139 (F_impl_KeysOf (F_laws_toChan x_aC)).length c140) wN ?_
  refine mv (vi 1) wN ?_
  have o339 := (OLv.kp o335 k337)
  refine cl wN (C_laws_markByteSS w13 a139 c140 (F_impl_KeysOf (F_laws_toChan x_aC)) _ _ 1 (by omega) (by omega) o339) ?_
  rintro _ w14 ⟨rfl, k340, r341⟩
  have m342 := m338.ext k340 (fun k hk => Nat.le_trans (Nat.le_trans (Nat.le_trans (Nat.le_trans (Nat.le_trans (Nat.le_trans (Nat.le_trans k34.size k37.size) k45.size) k78.size) k89.size) k125.size) k128.size) hk.1)
  refine ag (vi (1 + totL wt_B (F_impl_KeysOf (F_laws_toChan x_aC)))) wN ?_
  refine nx ?_
  refine ag (vi 1) wN ?_
  refine nx ?_
  refine mv (vs a139 (F_impl_KeysOf (F_laws_toChan x_aC)).length c140) wN ?_
  refine mv (vi 1) wN ?_
  refine cl wN (C_laws_heldByteSS w14 (vs a139 (F_impl_KeysOf (F_laws_toChan x_aC)).length c140) (marksE mkE_B wt_B (F_impl_KeysOf (F_laws_toChan x_aC)) 1) (show R_50 w14 (vs a139 (F_impl_KeysOf (F_laws_toChan x_aC)).length c140) (marksE mkE_B wt_B (F_impl_KeysOf (F_laws_toChan x_aC)) 1) from ⟨a139, c140, by simp only [marksB_len, marksI_len, marksL_len, marksE_len], by simpa only [marksB_len, marksI_len, marksL_len, marksE_len] using r341, by simp only [marksB_len, marksI_len, marksL_len, marksE_len]; first | exact s142 | omega⟩) 1 (by omega) (by omega)) ?_
  rintro _ w15 ⟨k343, rfl⟩
  have m344 := m342.extk k343
  refine ag (vi (heldL hC_B (marksE mkE_B wt_B (F_impl_KeysOf (F_laws_toChan x_aC)) 1) 1)) wN ?_
  refine wl_nil <| wq_then <| wc_seq <| sr ?_
  refine mv (vi (heldL hC_B (marksE mkE_B wt_B (F_impl_KeysOf (F_laws_toChan x_aC)) 1) 1)) wN ?_
  refine pu (vb (decide ((heldL hC_B (marksE mkE_B wt_B (F_impl_KeysOf (F_laws_toChan x_aC)) 1) 1) < 0))) wN ?_
  refine wl_nil <| wq_then ?_
  rcases bt (decide ((heldL hC_B (marksE mkE_B wt_B (F_impl_KeysOf (F_laws_toChan x_aC)) 1) 1) < 0)) with h345 | h345
  ·have q346 := of_decide_eq_true h345
   refine ct h345 ?_
   refine sr ?_
   refine ag (vb false) wN ?_
   refine wl_nil <| wq_then <| wc_ret <| wq_then_ret ?_
   refine ret_1 (.inl rfl) (vb false) rfl rfl ?_
   refine ⟨m344.keep0, ?_⟩
   have hF347 : F_laws_FnExactKeysOf x_aC = false := by simp only [F_laws_FnExactKeysOf, h40, h151, h314, h331, h345, cond_true, cond_false]
   rw [hF347]
   exact rfl
  have q348 := of_decide_eq_false h345
  refine cf h345 ?_
  refine wc_skip <| wq_then <| wc_seq <| sr ?_
  refine mv (vi (heldL hC_B (marksE mkE_B wt_B (F_impl_KeysOf (F_laws_toChan x_aC)) 1) 1)) wN ?_
  refine mv (vi (1 + totL wt_B (F_impl_KeysOf (F_laws_toChan x_aC)))) wN ?_
  refine pu (vb (!(decide ((heldL hC_B (marksE mkE_B wt_B (F_impl_KeysOf (F_laws_toChan x_aC)) 1) 1) = (1 + totL wt_B (F_impl_KeysOf (F_laws_toChan x_aC))))))) wN ?_
  refine wl_nil <| wq_then ?_
  rcases bf (decide ((heldL hC_B (marksE mkE_B wt_B (F_impl_KeysOf (F_laws_toChan x_aC)) 1) 1) = (1 + totL wt_B (F_impl_KeysOf (F_laws_toChan x_aC))))) with h349 | h349
  ·have q402 := of_decide_eq_false h349
   refine ct (congrArg not h349) ?_
   refine sr ?_
   refine ag (vb false) wN ?_
   refine wl_nil <| wq_then <| wc_ret <| wq_then_ret ?_
   refine ret_1 (.inl rfl) (vb false) rfl rfl ?_
   refine ⟨m344.keep0, ?_⟩
   have hF403 : F_laws_FnExactKeysOf x_aC = false := by simp only [F_laws_FnExactKeysOf, h40, h151, h314, h331, h345, h349, cond_true, cond_false]
   rw [hF403]
   exact rfl
  have q350 := of_decide_eq_true h349
  refine cf (congrArg not h349) ?_
  refine wc_skip <| wq_then <| sr ?_
  have b351 := (((((((((((b88.kp k89).kp k125).ch k128 (Nat.ne_of_lt (Nat.lt_of_lt_of_le p33 (Nat.le_trans (Nat.le_trans (Nat.le_trans (Nat.le_trans k37.size k45.size) k78.size) k89.size) p123)))).kp k138).kp k149).kp k271).kp k312).ch k323 (ms_lo (ms_lo_cons (fun hn x hx hb => by have := (own_lt o92 x.block (by rw [hx]; rfl)).1; have := Nat.lt_of_lt_of_le p33 (Nat.le_trans (Nat.le_trans k37.size k45.size) k78.size); omega) (ms_lo_cons (fun hn x hx hb => by have := (own_lt o97 x.block (by rw [hx]; rfl)).1; have := Nat.lt_of_lt_of_le p33 (Nat.le_trans (Nat.le_trans k37.size k45.size) k78.size); omega) (ms_lo_cons (fun hn x hx hb => by have := (own_lt o102 x.block (by rw [hx]; rfl)).1; have := Nat.lt_of_lt_of_le p33 (Nat.le_trans (Nat.le_trans k37.size k45.size) k78.size); omega) (ms_lo_cons (fun hn x hx hb => by have := (own_lt o107 x.block (by rw [hx]; rfl)).1; have := Nat.lt_of_lt_of_le p33 (Nat.le_trans (Nat.le_trans k37.size k45.size) k78.size); omega) (ms_lo_cons (fun hn x hx hb => by have := (own_lt o112 x.block (by rw [hx]; rfl)).1; have := Nat.lt_of_lt_of_le p33 (Nat.le_trans (Nat.le_trans k37.size k45.size) k78.size); omega) (ms_lo_cons (fun hn x hx hb => by have := (own_lt o117 x.block (by rw [hx]; rfl)).1; have := Nat.lt_of_lt_of_le p33 (Nat.le_trans (Nat.le_trans k37.size k45.size) k78.size); omega) ms_lo_nil)))))))).kp k337).ch k340 (fun h => by have h1 := h.1; have h3 := Nat.lt_of_lt_of_le p33 (Nat.le_trans (Nat.le_trans (Nat.le_trans (Nat.le_trans (Nat.le_trans k37.size k45.size) k78.size) k89.size) k125.size) k128.size); omega)).kp k343)
  refine lN (L_29 x_aC a1 c2 a6 c7 a11 c12 a16 c17 a21 c22 a26 c27) wN isAgg_41 sizeOf_41 b351 ?_
  refine cl wN (C_laws_toChan w15 _ x_aC (mR_41 (r3.from0 m344) (by omega) (r8.from0 m344) (by omega) (r13.from0 m344) (by omega) (r18.from0 m344) (by omega) (r23.from0 m344) (by omega) (r28.from0 m344) (by omega))) ?_
  rintro _ w16 ⟨k352, ⟨a353, c354, a358, c359, a363, c364, a368, c369, a373, c374, a378, c379, rfl, o355, s356, o360, s361, o365, s366, o370, s371, o375, s376, o380, s381, ap383⟩⟩
  have m384 := m344.extk k352
  refine cl wN (C_impl_KeysOf w16 _ (F_laws_toChan x_aC) (mR_29 (Rd.of_own o355) s356 (Rd.of_own o360) s361 (Rd.of_own o365) s366 (Rd.of_own o370) s371 (Rd.of_own o375) s376 (Rd.of_own o380) s381)) ?_
  rintro _ w17 ⟨k385, ⟨a386, c387, rfl, o388, s389, ap391⟩⟩
  have m392 := m384.extk k385
  obtain ⟨y393, o394⟩ := OLv.ow o388
  refine ag (vs a386 (F_impl_KeysOf (F_laws_toChan x_aC)).length c387) wN ?_
  refine wl_nil <| wq_then <| wc_seq <| sr ?_
  refine mv (vs a386 (F_impl_KeysOf (F_laws_toChan x_aC)).length c387) wN ?_
  refine mv (vs a79 (F_spec_KeysOf (F_laws_toChan x_aC)).length c80) wN ?_
  have o395 := (OLv.kp (OLv.kp (OLv.kp (OLv.ch (OLv.kp o336 k337) k340 (fun g h1 h2 hk => by have h3 := (Nat.le_trans (Nat.le_trans k89.size k125.size) k128.size); have h4 := hk.1; omega)) k343) k352) k385)
  refine cl wN (C_laws_eqByteSS w17 _ (F_impl_KeysOf (F_laws_toChan x_aC)) (mR_50 (OLv.rl o388) s389) _ (F_spec_KeysOf (F_laws_toChan x_aC)) (mR_50 (OLv.rl o395) s82)) ?_
  rintro _ w18 ⟨k396, rfl⟩
  have m397 := m392.extk k396
  refine pu (vb (!(eqF_B (F_impl_KeysOf (F_laws_toChan x_aC)) (F_spec_KeysOf (F_laws_toChan x_aC))))) wN ?_
  refine wl_nil <| wq_then ?_
  refine cf (congrArg not h151) ?_
  refine wc_skip <| wq_then <| sr ?_
  refine ag (vi 1) wN ?_
  refine nx ?_
  refine mv (vs a139 (F_impl_KeysOf (F_laws_toChan x_aC)).length c140) wN ?_
  refine mv (vi 1) wN ?_
  have r398 := ((((r341.kp k343).kp k352).kp k385).kp k396)
  refine cl wN (C_laws_heldByteSS w18 (vs a139 (F_impl_KeysOf (F_laws_toChan x_aC)).length c140) (marksE mkE_B wt_B (F_impl_KeysOf (F_laws_toChan x_aC)) 1) (show R_50 w18 (vs a139 (F_impl_KeysOf (F_laws_toChan x_aC)).length c140) (marksE mkE_B wt_B (F_impl_KeysOf (F_laws_toChan x_aC)) 1) from ⟨a139, c140, by simp only [marksB_len, marksI_len, marksL_len, marksE_len], by simpa only [marksB_len, marksI_len, marksL_len, marksE_len] using r398, by simp only [marksB_len, marksI_len, marksL_len, marksE_len]; first | exact s142 | omega⟩) 1 (by omega) (by omega)) ?_
  rintro _ w19 ⟨k399, rfl⟩
  have m400 := m397.extk k399
  refine ag (vi (heldL hC_B (marksE mkE_B wt_B (F_impl_KeysOf (F_laws_toChan x_aC)) 1) 1)) wN ?_
  refine wl_nil <| wq_then <| wc_seq <| sr ?_
  refine mv (vi (heldL hC_B (marksE mkE_B wt_B (F_impl_KeysOf (F_laws_toChan x_aC)) 1) 1)) wN ?_
  refine pu (vb (decide ((heldL hC_B (marksE mkE_B wt_B (F_impl_KeysOf (F_laws_toChan x_aC)) 1) 1) < 0))) wN ?_
  refine wl_nil <| wq_then ?_
  refine cf h345 ?_
  refine wc_skip <| wq_then <| wc_seq <| sr ?_
  refine mv (vi (heldL hC_B (marksE mkE_B wt_B (F_impl_KeysOf (F_laws_toChan x_aC)) 1) 1)) wN ?_
  refine mv (vi (1 + totL wt_B (F_impl_KeysOf (F_laws_toChan x_aC)))) wN ?_
  refine pu (vb (!(decide ((heldL hC_B (marksE mkE_B wt_B (F_impl_KeysOf (F_laws_toChan x_aC)) 1) 1) = (1 + totL wt_B (F_impl_KeysOf (F_laws_toChan x_aC))))))) wN ?_
  refine wl_nil <| wq_then ?_
  refine cf (congrArg not h349) ?_
  refine wc_skip <| wq_then <| sr ?_
  refine ag (vb true) wN ?_
  refine wl_nil <| wq_then <| wc_ret ?_
  refine ret_1 (.inl rfl) (vb true) rfl rfl ?_
  refine ⟨m400.keep0, ?_⟩
  have hF401 : F_laws_FnExactKeysOf x_aC = true := by simp only [F_laws_FnExactKeysOf, h40, h151, h314, h331, h345, h349, cond_true, cond_false]
  rw [hF401]
  exact rfl
end Go.Proofs.Ytodlalolknldmaa.K
