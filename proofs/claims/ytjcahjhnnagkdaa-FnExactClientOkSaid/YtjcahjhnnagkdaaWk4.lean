import Derived.Test.YtjcahjhnnagkdaaCore
import Derived.Test.YtjcahjhnnagkdaaProg
import Derived.Test.YtjcahjhnnagkdaaHeld
import Derived.Test.YtjcahjhnnagkdaaFun
import Derived.Test.YtjcahjhnnagkdaaFunZ
import Derived.Test.YtjcahjhnnagkdaaDraw
import Derived.Test.YtjcahjhnnagkdaaWk3
namespace Go.Proofs.Ytjcahjhnnagkdaa.K
open Go.RowKit
set_option linter.unusedVariables false
set_option linter.unusedSimpArgs false
set_option maxRecDepth 100000
theorem mR_98 {w : World} {x : PClient} {a1 : Option Addr} {c1 : Nat} {a2 : Option Addr} {c2 : Nat} {a3 : Option Addr} {c3 : Nat} {a4 : Option Addr} {c4 : Nat} {a5 : Option Addr} {c5 : Nat} {a6 : Option Addr} {c6 : Nat} {a7 : Option Addr} {c7 : Nat} {a8 : Option Addr} {c8 : Nat} {a9 : Option Addr} {c9 : Nat} {a10 : Option Addr} {c10 : Nat} {a11 : Option Addr} {c11 : Nat} {a12 : Option Addr} {c12 : Nat} {a13 : Option Addr} {c13 : Nat} {a14 : Option Addr} {c14 : Nat} (h1 : Rd w 1 (.slice a1 x.Psk.length c1) x.Psk.length (x.Psk.map bV)) (l1 : x.Psk.length ≤ 1073741824) (h2 : Rd w 1 (.slice a2 x.Cn.length c2) x.Cn.length (x.Cn.map bV)) (l2 : x.Cn.length ≤ 1073741824) (h3 : Rd w 1 (.slice a3 x.Fin.Cn.length c3) x.Fin.Cn.length (x.Fin.Cn.map bV)) (l3 : x.Fin.Cn.length ≤ 1073741824) (h4 : Rd w 1 (.slice a4 x.Fin.Sn.length c4) x.Fin.Sn.length (x.Fin.Sn.map bV)) (l4 : x.Fin.Sn.length ≤ 1073741824) (h5 : Rd w 1 (.slice a5 x.Fin.Cookie.length c5) x.Fin.Cookie.length (x.Fin.Cookie.map bV)) (l5 : x.Fin.Cookie.length ≤ 1073741824) (h6 : Rd w 1 (.slice a6 x.Fin.Proof.length c6) x.Fin.Proof.length (x.Fin.Proof.map bV)) (l6 : x.Fin.Proof.length ≤ 1073741824) (h7 : Rd w 1 (.slice a7 x.Fin.Body.length c7) x.Fin.Body.length (x.Fin.Body.map bV)) (l7 : x.Fin.Body.length ≤ 1073741824) (h8 : Rd w 1 (.slice a8 x.Fin.Tag.length c8) x.Fin.Tag.length (x.Fin.Tag.map bV)) (l8 : x.Fin.Tag.length ≤ 1073741824) (h9 : Rd w 1 (.slice a9 x.C.Sn.length c9) x.C.Sn.length (x.C.Sn.map bV)) (l9 : x.C.Sn.length ≤ 1073741824) (h10 : Rd w 1 (.slice a10 x.C.Cur.Key.length c10) x.C.Cur.Key.length (x.C.Cur.Key.map bV)) (l10 : x.C.Cur.Key.length ≤ 1073741824) (h11 : Rd w 1 (.slice a11 x.C.Cur.Win.Bits.length c11) x.C.Cur.Win.Bits.length (x.C.Cur.Win.Bits.map iV)) (l11 : x.C.Cur.Win.Bits.length ≤ 1073741824) (h12 : Rd w 1 (.slice a12 x.C.Old.Key.length c12) x.C.Old.Key.length (x.C.Old.Key.map bV)) (l12 : x.C.Old.Key.length ≤ 1073741824) (h13 : Rd w 1 (.slice a13 x.C.Old.Win.Bits.length c13) x.C.Old.Win.Bits.length (x.C.Old.Win.Bits.map iV)) (l13 : x.C.Old.Win.Bits.length ≤ 1073741824) (h14 : Rd w 1 (.slice a14 x.C.Next.length c14) x.C.Next.length (x.C.Next.map bV)) (l14 : x.C.Next.length ≤ 1073741824) : R_98 w (va (L_98 x a1 c1 a2 c2 a3 c3 a4 c4 a5 c5 a6 c6 a7 c7 a8 c8 a9 c9 a10 c10 a11 c11 a12 c12 a13 c13 a14 c14)) x := ⟨_, _, _, _, _, _, _, _, _, _, _, _, _, _, _, _, _, _, _, _, _, _, _, _, _, _, _, _, rfl, h1, l1, h2, l2, h3, l3, h4, l4, h5, l5, h6, l6, h7, l7, h8, l8, h9, l9, h10, l10, h11, l11, h12, l12, h13, l13, h14, l14⟩
def F_impl_ClientOk (x_c : PClient) : (Bool) := bif (F_impl_within x_c.Id 1 9) then (bif (F_impl_PskOk x_c.Psk) then (bif (F_impl_AddrOk x_c.At) then (bif (decide (x_c.St = 0)) then (bif (decide ((x_c.Cn.length : Int) = 0)) then (bif (F_impl_sameFrame x_c.Fin { Kind := 0, Id := 0, Cn := [], Sn := [], Tick := 0, Cookie := [], Proof := [], Epoch := 0, Seq := 0, Body := [], Tag := [] : PFrame }) then (bif (F_impl_isZeroChan x_c.C) then (bif ((x_c.T.On == false) && (decide (x_c.T.Due = 0) && (decide (x_c.T.Wait = 0) && decide (x_c.T.Tries = 0)))) then (bif ((x_c.R.On == false) && (decide (x_c.R.Due = 0) && (decide (x_c.R.Wait = 0) && decide (x_c.R.Tries = 0)))) then (decide (x_c.Last = 0)) else (false)) else (false)) else (false)) else (false)) else (false)) else (bif (decide (x_c.St = 1)) then (bif (F_impl_isNonce x_c.Cn) then (bif (F_impl_sameFrame x_c.Fin { Kind := 0, Id := 0, Cn := [], Sn := [], Tick := 0, Cookie := [], Proof := [], Epoch := 0, Seq := 0, Body := [], Tag := [] : PFrame }) then (bif (F_impl_isZeroChan x_c.C) then (bif x_c.T.On then (bif (F_impl_TimerOk x_c.T) then (bif ((x_c.R.On == false) && (decide (x_c.R.Due = 0) && (decide (x_c.R.Wait = 0) && decide (x_c.R.Tries = 0)))) then (decide (x_c.Last = 0)) else (false)) else (false)) else (false)) else (false)) else (false)) else (false)) else (bif (decide (x_c.St = 2)) then (bif (F_impl_finishOk x_c) then (bif x_c.T.On then (bif (F_impl_TimerOk x_c.T) then (bif ((x_c.R.On == false) && (decide (x_c.R.Due = 0) && (decide (x_c.R.Wait = 0) && decide (x_c.R.Tries = 0)))) then (decide (x_c.Last = 0)) else (false)) else (false)) else (false)) else (false)) else (bif (decide (x_c.St = 3)) then (bif (F_impl_isNonce x_c.Cn) then (bif (F_impl_sameFrame x_c.Fin { Kind := 0, Id := 0, Cn := [], Sn := [], Tick := 0, Cookie := [], Proof := [], Epoch := 0, Seq := 0, Body := [], Tag := [] : PFrame }) then (bif (F_impl_ChanOk x_c.C) then (bif (decide (x_c.C.Role = 0)) then (bif ((x_c.T.On == false) && (decide (x_c.T.Due = 0) && (decide (x_c.T.Wait = 0) && decide (x_c.T.Tries = 0)))) then (bif (F_impl_TimerOk x_c.R) then (bif (x_c.R.On == (decide (0 < (x_c.C.Next.length : Int)))) then ((F_impl_within x_c.Last 0 1000000)) else (false)) else (false)) else (false)) else (false)) else (false)) else (false)) else (false)) else (false))))) else (false)) else (false)) else (false)
theorem C_impl_ClientOk (w0 : World) (v_x_c : Value) (x_c : PClient) (r_x_c : R_98 w0 v_x_c x_c)  : Fn Try.prog 72 #[v_x_c] w0 (fun v w' => Keep w0 w' ∧ O_4 w' w0.heap.size v (F_impl_ClientOk x_c)) := by
 obtain ⟨a1, c2, a6, c7, a11, c12, a16, c17, a21, c22, a26, c27, a31, c32, a36, c37, a41, c42, a46, c47, a51, c52, a56, c57, a61, c62, a66, c67, rfl, r3, s4, r8, s9, r13, s14, r18, s19, r23, s24, r28, s29, r33, s34, r38, s39, r43, s44, r48, s49, r53, s54, r58, s59, r63, s64, r68, s69⟩ := r_x_c
 refine fn_of (n := 161) (l := [(va (L_98 x_c a1 c2 a6 c7 a11 c12 a16 c17 a21 c22 a26 c27 a31 c32 a36 c37 a41 c42 a46 c47 a51 c52 a56 c57 a61 c62 a66 c67)), U, U, U, U, U, U, U, U, U, U, U, U, U, U, U, U, U, U, U, U, U, U, U, U, U, U, U, U, U, U, U, U, U, U, U, U, U, U, U, U, U, U, U, U, U, U, U, U, U, U, U, U, U, U, U, U, U, U, U, U, U, U, U, U, U, U, U, U, U, U, U, U, U, U, U, U, U, U, U, U, U, U, U, U, U, U, U, U, U, U, U, U, U, U, U, U, U, U, U, U, U, U, U, U, U, U, U, U, U, U, U, U, U, U, U, U, U, U, U, U, U, U, U, U, U, U, U, U, U, U, U, U, U, U, U, U, U, U, U, U, U, U, U, U, U, U, U, U, U, U, U, U, U, U, U, U, U, U, U, U]) Try.func72 rfl rfl (by kernel_rfl) rfl ?_
 refine sr ?_
 refine bx (L_98 x_c a1 c2 a6 c7 a11 c12 a16 c17 a21 c22 a26 c27 a31 c32 a36 c37 a41 c42 a46 c47 a51 c52 a56 c57 a61 c62 a66 c67) wN ?_
 intro g71 w1 p72 p73 k74 b75
 have m76 := (Ch.base w0).extk k74
 refine ag (vb false) wN ?_
 refine wl_nil <| wq_then <| wc_seq <| sr ?_
 refine pu (vp g71 0) wN ?_
 refine ld (vi x_c.Id) wN isAgg_3 b75 ?_
 refine cl wN (C_impl_within w1 x_c.Id 1 9) ?_
 rintro _ w2 ⟨k77, rfl⟩
 have m78 := m76.extk k77
 refine pu (vb (!(F_impl_within x_c.Id 1 9))) wN ?_
 refine mv (vb (!(F_impl_within x_c.Id 1 9))) wN ?_
 rcases bf (F_impl_within x_c.Id 1 9) with h79 | h79
 ·have q233 := impl_within_f h79
  refine sk (congrArg not h79) ?_
  refine sk (congrArg not h79) ?_
  refine sk (congrArg not h79) ?_
  refine sk (congrArg not h79) ?_
  refine pk (vb true) wN (congrArg not h79) ?_
  refine mv (vb true) wN ?_
  refine sk (Eq.refl true) ?_
  refine sk (Eq.refl true) ?_
  refine sk (Eq.refl true) ?_
  refine sk (Eq.refl true) ?_
  refine pk (vb true) wN (Eq.refl true) ?_
  refine wl_nil <| wq_then ?_
  refine ct (Eq.refl true) ?_
  refine sr ?_
  refine ag (vb false) wN ?_
  refine wl_nil <| wq_then <| wc_ret <| wq_then_ret ?_
  refine ret_1 (.inl rfl) (vb false) rfl rfl ?_
  refine ⟨m78.keep0, ?_⟩
  have hF234 : F_impl_ClientOk x_c = false := by simp only [F_impl_ClientOk, h79, cond_true, cond_false]
  rw [hF234]
  exact rfl
 have q80 := impl_within_t h79
 refine pu (vp g71 1) (wS (congrArg not h79)) ?_
 have b81 := (b75.kp k77)
 refine ld (vs a1 x_c.Psk.length c2) (wS (congrArg not h79)) isAgg_22 b81 ?_
 refine cl (wS (congrArg not h79)) (C_impl_PskOk w2 _ x_c.Psk (mR_22 (r3.from0 m78) s4)) ?_
 rintro _ w3 ⟨k82, rfl⟩
 have m83 := m78.extk k82
 refine pu (vb (!(F_impl_PskOk x_c.Psk))) (wS (congrArg not h79)) ?_
 refine pf (vb (!(F_impl_PskOk x_c.Psk))) wN (congrArg not h79) ?_
 refine mv (vb (!(F_impl_PskOk x_c.Psk))) wN ?_
 rcases bf (F_impl_PskOk x_c.Psk) with h84 | h84
 ·refine sk (congrArg not h84) ?_
  refine sk (congrArg not h84) ?_
  refine sk (congrArg not h84) ?_
  refine sk (congrArg not h84) ?_
  refine pk (vb true) wN (congrArg not h84) ?_
  refine wl_nil <| wq_then ?_
  refine ct (Eq.refl true) ?_
  refine sr ?_
  refine ag (vb false) wN ?_
  refine wl_nil <| wq_then <| wc_ret <| wq_then_ret ?_
  refine ret_1 (.inl rfl) (vb false) rfl rfl ?_
  refine ⟨m83.keep0, ?_⟩
  have hF232 : F_impl_ClientOk x_c = false := by simp only [F_impl_ClientOk, h79, h84, cond_true, cond_false]
  rw [hF232]
  exact rfl
 refine pu (vp g71 2) (wS (congrArg not h84)) ?_
 have b86 := (b81.kp k82)
 refine lN (L_26 x_c.At) (wS (congrArg not h84)) isAgg_26 sizeOf_26 b86 ?_
 refine cl (wS (congrArg not h84)) (C_impl_AddrOk w3 _ x_c.At (mR_26)) ?_
 rintro _ w4 ⟨k87, rfl⟩
 have m88 := m83.extk k87
 refine pu (vb (!(F_impl_AddrOk x_c.At))) (wS (congrArg not h84)) ?_
 refine pf (vb (!(F_impl_AddrOk x_c.At))) wN (congrArg not h84) ?_
 refine wl_nil <| wq_then ?_
 rcases bf (F_impl_AddrOk x_c.At) with h89 | h89
 ·refine ct (congrArg not h89) ?_
  refine sr ?_
  refine ag (vb false) wN ?_
  refine wl_nil <| wq_then <| wc_ret <| wq_then_ret ?_
  refine ret_1 (.inl rfl) (vb false) rfl rfl ?_
  refine ⟨m88.keep0, ?_⟩
  have hF230 : F_impl_ClientOk x_c = false := by simp only [F_impl_ClientOk, h79, h84, h89, cond_true, cond_false]
  rw [hF230]
  exact rfl
 refine cf (congrArg not h89) ?_
 refine wc_skip <| wq_then <| sr ?_
 refine pu (vp g71 6) wN ?_
 have b91 := (b86.kp k87)
 refine lN (L_87 x_c.Fin a11 c12 a16 c17 a21 c22 a26 c27 a31 c32 a36 c37) wN isAgg_87 sizeOf_87 b91 ?_
 refine pu (va [(vi 0), (vi 0), (vs none 0 0), (vs none 0 0), (vi 0), (vs none 0 0), (vs none 0 0), (vi 0), (vi 0), (vs none 0 0), (vs none 0 0)]) wN ?_
 refine cl wN (C_impl_sameFrame w4 _ x_c.Fin (mR_87 (r13.from0 m88) s14 (r18.from0 m88) s19 (r23.from0 m88) s24 (r28.from0 m88) s29 (r33.from0 m88) s34 (r38.from0 m88) s39) (va [(vi 0), (vi 0), (vs none 0 0), (vs none 0 0), (vi 0), (vs none 0 0), (vs none 0 0), (vi 0), (vi 0), (vs none 0 0), (vs none 0 0)]) { Kind := 0, Id := 0, Cn := [], Sn := [], Tick := 0, Cookie := [], Proof := [], Epoch := 0, Seq := 0, Body := [], Tag := [] : PFrame } (show R_87 w4 (va [(vi 0), (vi 0), (vs none 0 0), (vs none 0 0), (vi 0), (vs none 0 0), (vs none 0 0), (vi 0), (vi 0), (vs none 0 0), (vs none 0 0)]) { Kind := 0, Id := 0, Cn := [], Sn := [], Tick := 0, Cookie := [], Proof := [], Epoch := 0, Seq := 0, Body := [], Tag := [] : PFrame } from ⟨_, _, _, _, _, _, _, _, _, _, _, _, rfl, (Rd.nil _ _), (by simp), (Rd.nil _ _), (by simp), (Rd.nil _ _), (by simp), (Rd.nil _ _), (by simp), (Rd.nil _ _), (by simp), (Rd.nil _ _), (by simp)⟩)) ?_
 rintro _ w5 ⟨k92, rfl⟩
 have m93 := m88.extk k92
 refine ag (vb (F_impl_sameFrame x_c.Fin { Kind := 0, Id := 0, Cn := [], Sn := [], Tick := 0, Cookie := [], Proof := [], Epoch := 0, Seq := 0, Body := [], Tag := [] : PFrame })) wN ?_
 refine nx ?_
 refine pu (vp g71 32) wN ?_
 have b94 := (b91.kp k92)
 refine lN (L_96 x_c.T) wN isAgg_96 sizeOf_96 b94 ?_
 refine pu (va [(vb false), (vi 0), (vi 0), (vi 0)]) wN ?_
 refine wl_aggeq (((x_c.T.On == false) && (decide (x_c.T.Due = 0) && (decide (x_c.T.Wait = 0) && decide (x_c.T.Tries = 0))))) wN rfl rfl rfl rfl rfl guardt_96 (aggeq_96 x_c.T.On false x_c.T.Due 0 x_c.T.Wait 0 x_c.T.Tries 0 w5) ?_
 refine ag (vb ((x_c.T.On == false) && (decide (x_c.T.Due = 0) && (decide (x_c.T.Wait = 0) && decide (x_c.T.Tries = 0))))) wN ?_
 refine wl_nil <| wq_then <| wc_seq <| sr ?_
 refine pu (vp g71 4) wN ?_
 refine ld (vi x_c.St) wN isAgg_3 b94 ?_
 refine wl_nil <| wq_then <| wc_block <| sr ?_
 refine pu (vb (decide (x_c.St = 0))) wN ?_
 refine ag (vb (decide (x_c.St = 0))) wN ?_
 refine wl_nil <| wq_then ?_
 rcases bt (decide (x_c.St = 0)) with h95 | h95
 ·have q96 := of_decide_eq_true h95
  refine ct h95 ?_
  refine sr ?_
  refine pu (vp g71 5) wN ?_
  refine ld (vs a6 x_c.Cn.length c7) wN isAgg_22 b94 ?_
  refine ln wN slTy_22 (r8.from0 m93) ?_
  refine pu (vb (decide ((x_c.Cn.length : Int) = 0))) wN ?_
  refine mv (vb (decide ((x_c.Cn.length : Int) = 0))) wN ?_
  rcases bf (decide ((x_c.Cn.length : Int) = 0)) with h97 | h97
  ·have q119 := of_decide_eq_false h97
   refine sk h97 ?_
   refine pf (vb false) wN h97 ?_
   refine mv (vb false) wN ?_
   refine sk (Eq.refl false) ?_
   refine sk (Eq.refl false) ?_
   refine sk (Eq.refl false) ?_
   refine pf (vb false) wN (Eq.refl false) ?_
   refine mv (vb false) wN ?_
   refine sk (Eq.refl false) ?_
   refine pf (vb false) wN (Eq.refl false) ?_
   refine mv (vb false) wN ?_
   refine sk (Eq.refl false) ?_
   refine sk (Eq.refl false) ?_
   refine sk (Eq.refl false) ?_
   refine sk (Eq.refl false) ?_
   refine pf (vb false) wN (Eq.refl false) ?_
   refine mv (vb false) wN ?_
   refine sk (Eq.refl false) ?_
   refine sk (Eq.refl false) ?_
   refine sk (Eq.refl false) ?_
   refine pf (vb false) wN (Eq.refl false) ?_
   refine ag (vb false) wN ?_
   refine wl_nil <| wq_then <| wc_ret <| wq_blk_ret <| wq_then_ret ?_
   refine ret_1 (.inl rfl) (vb false) rfl rfl ?_
   refine ⟨m93.keep0, ?_⟩
   have hF120 : F_impl_ClientOk x_c = false := by simp only [F_impl_ClientOk, h79, h84, h89, h95, h97, cond_true, cond_false]
   rw [hF120]
   exact rfl
  have q98 := of_decide_eq_true h97
  refine mv (vb (F_impl_sameFrame x_c.Fin { Kind := 0, Id := 0, Cn := [], Sn := [], Tick := 0, Cookie := [], Proof := [], Epoch := 0, Seq := 0, Body := [], Tag := [] : PFrame })) (wS h97) ?_
  refine pk (vb (F_impl_sameFrame x_c.Fin { Kind := 0, Id := 0, Cn := [], Sn := [], Tick := 0, Cookie := [], Proof := [], Epoch := 0, Seq := 0, Body := [], Tag := [] : PFrame })) wN h97 ?_
  refine mv (vb (F_impl_sameFrame x_c.Fin { Kind := 0, Id := 0, Cn := [], Sn := [], Tick := 0, Cookie := [], Proof := [], Epoch := 0, Seq := 0, Body := [], Tag := [] : PFrame })) wN ?_
  rcases bf (F_impl_sameFrame x_c.Fin { Kind := 0, Id := 0, Cn := [], Sn := [], Tick := 0, Cookie := [], Proof := [], Epoch := 0, Seq := 0, Body := [], Tag := [] : PFrame }) with h99 | h99
  ·refine sk h99 ?_
   refine sk h99 ?_
   refine sk h99 ?_
   refine pf (vb false) wN h99 ?_
   refine mv (vb false) wN ?_
   refine sk (Eq.refl false) ?_
   refine pf (vb false) wN (Eq.refl false) ?_
   refine mv (vb false) wN ?_
   refine sk (Eq.refl false) ?_
   refine sk (Eq.refl false) ?_
   refine sk (Eq.refl false) ?_
   refine sk (Eq.refl false) ?_
   refine pf (vb false) wN (Eq.refl false) ?_
   refine mv (vb false) wN ?_
   refine sk (Eq.refl false) ?_
   refine sk (Eq.refl false) ?_
   refine sk (Eq.refl false) ?_
   refine pf (vb false) wN (Eq.refl false) ?_
   refine ag (vb false) wN ?_
   refine wl_nil <| wq_then <| wc_ret <| wq_blk_ret <| wq_then_ret ?_
   refine ret_1 (.inl rfl) (vb false) rfl rfl ?_
   refine ⟨m93.keep0, ?_⟩
   have hF118 : F_impl_ClientOk x_c = false := by simp only [F_impl_ClientOk, h79, h84, h89, h95, h97, h99, cond_true, cond_false]
   rw [hF118]
   exact rfl
  refine pu (vp g71 17) (wS h99) ?_
  refine lN (L_94 x_c.C a41 c42 a46 c47 a51 c52 a56 c57 a61 c62 a66 c67) (wS h99) isAgg_94 sizeOf_94 b94 ?_
  refine cl (wS h99) (C_impl_isZeroChan w5 _ x_c.C (mR_94 (r43.from0 m93) s44 (r48.from0 m93) s49 (r53.from0 m93) s54 (r58.from0 m93) s59 (r63.from0 m93) s64 (r68.from0 m93) s69)) ?_
  rintro _ w6 ⟨k101, rfl⟩
  have m102 := m93.extk k101
  refine pk (vb (F_impl_isZeroChan x_c.C)) wN h99 ?_
  refine mv (vb (F_impl_isZeroChan x_c.C)) wN ?_
  rcases bf (F_impl_isZeroChan x_c.C) with h103 | h103
  ·refine sk h103 ?_
   refine pf (vb false) wN h103 ?_
   refine mv (vb false) wN ?_
   refine sk (Eq.refl false) ?_
   refine sk (Eq.refl false) ?_
   refine sk (Eq.refl false) ?_
   refine sk (Eq.refl false) ?_
   refine pf (vb false) wN (Eq.refl false) ?_
   refine mv (vb false) wN ?_
   refine sk (Eq.refl false) ?_
   refine sk (Eq.refl false) ?_
   refine sk (Eq.refl false) ?_
   refine pf (vb false) wN (Eq.refl false) ?_
   refine ag (vb false) wN ?_
   refine wl_nil <| wq_then <| wc_ret <| wq_blk_ret <| wq_then_ret ?_
   refine ret_1 (.inl rfl) (vb false) rfl rfl ?_
   refine ⟨m102.keep0, ?_⟩
   have hF116 : F_impl_ClientOk x_c = false := by simp only [F_impl_ClientOk, h79, h84, h89, h95, h97, h99, h103, cond_true, cond_false]
   rw [hF116]
   exact rfl
  refine mv (vb ((x_c.T.On == false) && (decide (x_c.T.Due = 0) && (decide (x_c.T.Wait = 0) && decide (x_c.T.Tries = 0))))) (wS h103) ?_
  refine pk (vb ((x_c.T.On == false) && (decide (x_c.T.Due = 0) && (decide (x_c.T.Wait = 0) && decide (x_c.T.Tries = 0))))) wN h103 ?_
  refine mv (vb ((x_c.T.On == false) && (decide (x_c.T.Due = 0) && (decide (x_c.T.Wait = 0) && decide (x_c.T.Tries = 0))))) wN ?_
  rcases bf ((x_c.T.On == false) && (decide (x_c.T.Due = 0) && (decide (x_c.T.Wait = 0) && decide (x_c.T.Tries = 0)))) with h105 | h105
  ·refine sk h105 ?_
   refine sk h105 ?_
   refine sk h105 ?_
   refine sk h105 ?_
   refine pf (vb false) wN h105 ?_
   refine mv (vb false) wN ?_
   refine sk (Eq.refl false) ?_
   refine sk (Eq.refl false) ?_
   refine sk (Eq.refl false) ?_
   refine pf (vb false) wN (Eq.refl false) ?_
   refine ag (vb false) wN ?_
   refine wl_nil <| wq_then <| wc_ret <| wq_blk_ret <| wq_then_ret ?_
   refine ret_1 (.inl rfl) (vb false) rfl rfl ?_
   refine ⟨m102.keep0, ?_⟩
   have hF114 : F_impl_ClientOk x_c = false := by simp only [F_impl_ClientOk, h79, h84, h89, h95, h97, h99, h103, h105, cond_true, cond_false]
   rw [hF114]
   exact rfl
  refine pu (vp g71 36) (wS h105) ?_
  have b107 := (b94.kp k101)
  refine lN (L_96 x_c.R) (wS h105) isAgg_96 sizeOf_96 b107 ?_
  refine pu (va [(vb false), (vi 0), (vi 0), (vi 0)]) (wS h105) ?_
  refine wl_aggeq (((x_c.R.On == false) && (decide (x_c.R.Due = 0) && (decide (x_c.R.Wait = 0) && decide (x_c.R.Tries = 0))))) (wS h105) rfl rfl rfl rfl rfl guardt_96 (aggeq_96 x_c.R.On false x_c.R.Due 0 x_c.R.Wait 0 x_c.R.Tries 0 w6) ?_
  refine pk (vb ((x_c.R.On == false) && (decide (x_c.R.Due = 0) && (decide (x_c.R.Wait = 0) && decide (x_c.R.Tries = 0))))) wN h105 ?_
  refine mv (vb ((x_c.R.On == false) && (decide (x_c.R.Due = 0) && (decide (x_c.R.Wait = 0) && decide (x_c.R.Tries = 0))))) wN ?_
  rcases bf ((x_c.R.On == false) && (decide (x_c.R.Due = 0) && (decide (x_c.R.Wait = 0) && decide (x_c.R.Tries = 0)))) with h108 | h108
  ·refine sk h108 ?_
   refine sk h108 ?_
   refine sk h108 ?_
   refine pf (vb false) wN h108 ?_
   refine ag (vb false) wN ?_
   refine wl_nil <| wq_then <| wc_ret <| wq_blk_ret <| wq_then_ret ?_
   refine ret_1 (.inl rfl) (vb false) rfl rfl ?_
   refine ⟨m102.keep0, ?_⟩
   have hF112 : F_impl_ClientOk x_c = false := by simp only [F_impl_ClientOk, h79, h84, h89, h95, h97, h99, h103, h105, h108, cond_true, cond_false]
   rw [hF112]
   exact rfl
  refine pu (vp g71 40) (wS h108) ?_
  refine ld (vi x_c.Last) (wS h108) isAgg_3 b107 ?_
  refine pu (vb (decide (x_c.Last = 0))) (wS h108) ?_
  refine pk (vb (decide (x_c.Last = 0))) wN h108 ?_
  refine ag (vb (decide (x_c.Last = 0))) wN ?_
  refine wl_nil <| wq_then <| wc_ret <| wq_blk_ret <| wq_then_ret ?_
  refine ret_1 (.inl rfl) (vb (decide (x_c.Last = 0))) rfl rfl ?_
  refine ⟨m102.keep0, ?_⟩
  have hF110 : F_impl_ClientOk x_c = decide (x_c.Last = 0) := by simp only [F_impl_ClientOk, h79, h84, h89, h95, h97, h99, h103, h105, h108, cond_true, cond_false]
  rw [hF110]
  exact rfl
 have q121 := of_decide_eq_false h95
 refine cf h95 ?_
 refine sr ?_
 refine pu (vb (decide (x_c.St = 1))) wN ?_
 refine ag (vb (decide (x_c.St = 1))) wN ?_
 refine wl_nil <| wq_then ?_
 rcases bt (decide (x_c.St = 1)) with h122 | h122
 ·have q123 := of_decide_eq_true h122
  refine ct h122 ?_
  refine sr ?_
  refine pu (vp g71 5) wN ?_
  refine ld (vs a6 x_c.Cn.length c7) wN isAgg_22 b94 ?_
  refine cl wN (C_impl_isNonce w5 _ x_c.Cn (mR_22 (r8.from0 m93) s9)) ?_
  rintro _ w6 ⟨k124, rfl⟩
  have m125 := m93.extk k124
  refine mv (vb (F_impl_isNonce x_c.Cn)) wN ?_
  rcases bf (F_impl_isNonce x_c.Cn) with h126 | h126
  ·refine sk h126 ?_
   refine pf (vb false) wN h126 ?_
   refine mv (vb false) wN ?_
   refine sk (Eq.refl false) ?_
   refine sk (Eq.refl false) ?_
   refine sk (Eq.refl false) ?_
   refine pf (vb false) wN (Eq.refl false) ?_
   refine mv (vb false) wN ?_
   refine sk (Eq.refl false) ?_
   refine sk (Eq.refl false) ?_
   refine sk (Eq.refl false) ?_
   refine pf (vb false) wN (Eq.refl false) ?_
   refine mv (vb false) wN ?_
   refine sk (Eq.refl false) ?_
   refine sk (Eq.refl false) ?_
   refine sk (Eq.refl false) ?_
   refine pf (vb false) wN (Eq.refl false) ?_
   refine mv (vb false) wN ?_
   refine sk (Eq.refl false) ?_
   refine sk (Eq.refl false) ?_
   refine sk (Eq.refl false) ?_
   refine sk (Eq.refl false) ?_
   refine pf (vb false) wN (Eq.refl false) ?_
   refine mv (vb false) wN ?_
   refine sk (Eq.refl false) ?_
   refine sk (Eq.refl false) ?_
   refine sk (Eq.refl false) ?_
   refine pf (vb false) wN (Eq.refl false) ?_
   refine ag (vb false) wN ?_
   refine wl_nil <| wq_then <| wc_ret <| wq_blk_ret <| wq_then_ret ?_
   refine ret_1 (.inl rfl) (vb false) rfl rfl ?_
   refine ⟨m125.keep0, ?_⟩
   have hF157 : F_impl_ClientOk x_c = false := by simp only [F_impl_ClientOk, h79, h84, h89, h95, h122, h126, cond_true, cond_false]
   rw [hF157]
   exact rfl
  refine mv (vb (F_impl_sameFrame x_c.Fin { Kind := 0, Id := 0, Cn := [], Sn := [], Tick := 0, Cookie := [], Proof := [], Epoch := 0, Seq := 0, Body := [], Tag := [] : PFrame })) (wS h126) ?_
  refine pk (vb (F_impl_sameFrame x_c.Fin { Kind := 0, Id := 0, Cn := [], Sn := [], Tick := 0, Cookie := [], Proof := [], Epoch := 0, Seq := 0, Body := [], Tag := [] : PFrame })) wN h126 ?_
  refine mv (vb (F_impl_sameFrame x_c.Fin { Kind := 0, Id := 0, Cn := [], Sn := [], Tick := 0, Cookie := [], Proof := [], Epoch := 0, Seq := 0, Body := [], Tag := [] : PFrame })) wN ?_
  rcases bf (F_impl_sameFrame x_c.Fin { Kind := 0, Id := 0, Cn := [], Sn := [], Tick := 0, Cookie := [], Proof := [], Epoch := 0, Seq := 0, Body := [], Tag := [] : PFrame }) with h128 | h128
  ·refine sk h128 ?_
   refine sk h128 ?_
   refine sk h128 ?_
   refine pf (vb false) wN h128 ?_
   refine mv (vb false) wN ?_
   refine sk (Eq.refl false) ?_
   refine sk (Eq.refl false) ?_
   refine sk (Eq.refl false) ?_
   refine pf (vb false) wN (Eq.refl false) ?_
   refine mv (vb false) wN ?_
   refine sk (Eq.refl false) ?_
   refine sk (Eq.refl false) ?_
   refine sk (Eq.refl false) ?_
   refine pf (vb false) wN (Eq.refl false) ?_
   refine mv (vb false) wN ?_
   refine sk (Eq.refl false) ?_
   refine sk (Eq.refl false) ?_
   refine sk (Eq.refl false) ?_
   refine sk (Eq.refl false) ?_
   refine pf (vb false) wN (Eq.refl false) ?_
   refine mv (vb false) wN ?_
   refine sk (Eq.refl false) ?_
   refine sk (Eq.refl false) ?_
   refine sk (Eq.refl false) ?_
   refine pf (vb false) wN (Eq.refl false) ?_
   refine ag (vb false) wN ?_
   refine wl_nil <| wq_then <| wc_ret <| wq_blk_ret <| wq_then_ret ?_
   refine ret_1 (.inl rfl) (vb false) rfl rfl ?_
   refine ⟨m125.keep0, ?_⟩
   have hF155 : F_impl_ClientOk x_c = false := by simp only [F_impl_ClientOk, h79, h84, h89, h95, h122, h126, h128, cond_true, cond_false]
   rw [hF155]
   exact rfl
  refine pu (vp g71 17) (wS h128) ?_
  have b130 := (b94.kp k124)
  refine lN (L_94 x_c.C a41 c42 a46 c47 a51 c52 a56 c57 a61 c62 a66 c67) (wS h128) isAgg_94 sizeOf_94 b130 ?_
  refine cl (wS h128) (C_impl_isZeroChan w6 _ x_c.C (mR_94 (r43.from0 m125) s44 (r48.from0 m125) s49 (r53.from0 m125) s54 (r58.from0 m125) s59 (r63.from0 m125) s64 (r68.from0 m125) s69)) ?_
  rintro _ w7 ⟨k131, rfl⟩
  have m132 := m125.extk k131
  refine pk (vb (F_impl_isZeroChan x_c.C)) wN h128 ?_
  refine mv (vb (F_impl_isZeroChan x_c.C)) wN ?_
  rcases bf (F_impl_isZeroChan x_c.C) with h133 | h133
  ·refine sk h133 ?_
   refine sk h133 ?_
   refine sk h133 ?_
   refine pf (vb false) wN h133 ?_
   refine mv (vb false) wN ?_
   refine sk (Eq.refl false) ?_
   refine sk (Eq.refl false) ?_
   refine sk (Eq.refl false) ?_
   refine pf (vb false) wN (Eq.refl false) ?_
   refine mv (vb false) wN ?_
   refine sk (Eq.refl false) ?_
   refine sk (Eq.refl false) ?_
   refine sk (Eq.refl false) ?_
   refine sk (Eq.refl false) ?_
   refine pf (vb false) wN (Eq.refl false) ?_
   refine mv (vb false) wN ?_
   refine sk (Eq.refl false) ?_
   refine sk (Eq.refl false) ?_
   refine sk (Eq.refl false) ?_
   refine pf (vb false) wN (Eq.refl false) ?_
   refine ag (vb false) wN ?_
   refine wl_nil <| wq_then <| wc_ret <| wq_blk_ret <| wq_then_ret ?_
   refine ret_1 (.inl rfl) (vb false) rfl rfl ?_
   refine ⟨m132.keep0, ?_⟩
   have hF153 : F_impl_ClientOk x_c = false := by simp only [F_impl_ClientOk, h79, h84, h89, h95, h122, h126, h128, h133, cond_true, cond_false]
   rw [hF153]
   exact rfl
  refine pu (vp g71 32) (wS h133) ?_
  refine pu (vp g71 32) (wS h133) ?_
  have b135 := (b130.kp k131)
  refine ld (vb x_c.T.On) (wS h133) isAgg_4 b135 ?_
  refine pk (vb x_c.T.On) wN h133 ?_
  refine mv (vb x_c.T.On) wN ?_
  rcases bf x_c.T.On with h136 | h136
  ·refine sk h136 ?_
   refine sk h136 ?_
   refine sk h136 ?_
   refine pf (vb false) wN h136 ?_
   refine mv (vb false) wN ?_
   refine sk (Eq.refl false) ?_
   refine sk (Eq.refl false) ?_
   refine sk (Eq.refl false) ?_
   refine sk (Eq.refl false) ?_
   refine pf (vb false) wN (Eq.refl false) ?_
   refine mv (vb false) wN ?_
   refine sk (Eq.refl false) ?_
   refine sk (Eq.refl false) ?_
   refine sk (Eq.refl false) ?_
   refine pf (vb false) wN (Eq.refl false) ?_
   refine ag (vb false) wN ?_
   refine wl_nil <| wq_then <| wc_ret <| wq_blk_ret <| wq_then_ret ?_
   refine ret_1 (.inl rfl) (vb false) rfl rfl ?_
   refine ⟨m132.keep0, ?_⟩
   have hF151 : F_impl_ClientOk x_c = false := by simp only [F_impl_ClientOk, h79, h84, h89, h95, h122, h126, h128, h133, h136, cond_true, cond_false]
   rw [hF151]
   exact rfl
  refine pu (vp g71 32) (wS h136) ?_
  refine lN (L_96 x_c.T) (wS h136) isAgg_96 sizeOf_96 b135 ?_
  refine cl (wS h136) (C_impl_TimerOk w7 _ x_c.T (mR_96)) ?_
  rintro _ w8 ⟨k138, rfl⟩
  have m139 := m132.extk k138
  refine pk (vb (F_impl_TimerOk x_c.T)) wN h136 ?_
  refine mv (vb (F_impl_TimerOk x_c.T)) wN ?_
  rcases bf (F_impl_TimerOk x_c.T) with h140 | h140
  ·refine sk h140 ?_
   refine sk h140 ?_
   refine sk h140 ?_
   refine sk h140 ?_
   refine pf (vb false) wN h140 ?_
   refine mv (vb false) wN ?_
   refine sk (Eq.refl false) ?_
   refine sk (Eq.refl false) ?_
   refine sk (Eq.refl false) ?_
   refine pf (vb false) wN (Eq.refl false) ?_
   refine ag (vb false) wN ?_
   refine wl_nil <| wq_then <| wc_ret <| wq_blk_ret <| wq_then_ret ?_
   refine ret_1 (.inl rfl) (vb false) rfl rfl ?_
   refine ⟨m139.keep0, ?_⟩
   have hF149 : F_impl_ClientOk x_c = false := by simp only [F_impl_ClientOk, h79, h84, h89, h95, h122, h126, h128, h133, h136, h140, cond_true, cond_false]
   rw [hF149]
   exact rfl
  refine pu (vp g71 36) (wS h140) ?_
  have b142 := (b135.kp k138)
  refine lN (L_96 x_c.R) (wS h140) isAgg_96 sizeOf_96 b142 ?_
  refine pu (va [(vb false), (vi 0), (vi 0), (vi 0)]) (wS h140) ?_
  refine wl_aggeq (((x_c.R.On == false) && (decide (x_c.R.Due = 0) && (decide (x_c.R.Wait = 0) && decide (x_c.R.Tries = 0))))) (wS h140) rfl rfl rfl rfl rfl guardt_96 (aggeq_96 x_c.R.On false x_c.R.Due 0 x_c.R.Wait 0 x_c.R.Tries 0 w8) ?_
  refine pk (vb ((x_c.R.On == false) && (decide (x_c.R.Due = 0) && (decide (x_c.R.Wait = 0) && decide (x_c.R.Tries = 0))))) wN h140 ?_
  refine mv (vb ((x_c.R.On == false) && (decide (x_c.R.Due = 0) && (decide (x_c.R.Wait = 0) && decide (x_c.R.Tries = 0))))) wN ?_
  rcases bf ((x_c.R.On == false) && (decide (x_c.R.Due = 0) && (decide (x_c.R.Wait = 0) && decide (x_c.R.Tries = 0)))) with h143 | h143
  ·refine sk h143 ?_
   refine sk h143 ?_
   refine sk h143 ?_
   refine pf (vb false) wN h143 ?_
   refine ag (vb false) wN ?_
   refine wl_nil <| wq_then <| wc_ret <| wq_blk_ret <| wq_then_ret ?_
   refine ret_1 (.inl rfl) (vb false) rfl rfl ?_
   refine ⟨m139.keep0, ?_⟩
   have hF147 : F_impl_ClientOk x_c = false := by simp only [F_impl_ClientOk, h79, h84, h89, h95, h122, h126, h128, h133, h136, h140, h143, cond_true, cond_false]
   rw [hF147]
   exact rfl
  refine pu (vp g71 40) (wS h143) ?_
  refine ld (vi x_c.Last) (wS h143) isAgg_3 b142 ?_
  refine pu (vb (decide (x_c.Last = 0))) (wS h143) ?_
  refine pk (vb (decide (x_c.Last = 0))) wN h143 ?_
  refine ag (vb (decide (x_c.Last = 0))) wN ?_
  refine wl_nil <| wq_then <| wc_ret <| wq_blk_ret <| wq_then_ret ?_
  refine ret_1 (.inl rfl) (vb (decide (x_c.Last = 0))) rfl rfl ?_
  refine ⟨m139.keep0, ?_⟩
  have hF145 : F_impl_ClientOk x_c = decide (x_c.Last = 0) := by simp only [F_impl_ClientOk, h79, h84, h89, h95, h122, h126, h128, h133, h136, h140, h143, cond_true, cond_false]
  rw [hF145]
  exact rfl
 have q158 := of_decide_eq_false h122
 refine cf h122 ?_
 refine sr ?_
 refine pu (vb (decide (x_c.St = 2))) wN ?_
 refine ag (vb (decide (x_c.St = 2))) wN ?_
 refine wl_nil <| wq_then ?_
 rcases bt (decide (x_c.St = 2)) with h159 | h159
 ·have q160 := of_decide_eq_true h159
  refine ct h159 ?_
  refine sr ?_
  refine lN (L_98 x_c a1 c2 a6 c7 a11 c12 a16 c17 a21 c22 a26 c27 a31 c32 a36 c37 a41 c42 a46 c47 a51 c52 a56 c57 a61 c62 a66 c67) wN isAgg_98 sizeOf_98 b94 ?_
  refine cl wN (C_impl_finishOk w5 _ x_c (mR_98 (r3.from0 m93) s4 (r8.from0 m93) s9 (r13.from0 m93) s14 (r18.from0 m93) s19 (r23.from0 m93) s24 (r28.from0 m93) s29 (r33.from0 m93) s34 (r38.from0 m93) s39 (r43.from0 m93) s44 (r48.from0 m93) s49 (r53.from0 m93) s54 (r58.from0 m93) s59 (r63.from0 m93) s64 (r68.from0 m93) s69)) ?_
  rintro _ w6 ⟨k161, rfl⟩
  have m162 := m93.extk k161
  refine mv (vb (F_impl_finishOk x_c)) wN ?_
  rcases bf (F_impl_finishOk x_c) with h163 | h163
  ·refine sk h163 ?_
   refine sk h163 ?_
   refine sk h163 ?_
   refine pf (vb false) wN h163 ?_
   refine mv (vb false) wN ?_
   refine sk (Eq.refl false) ?_
   refine sk (Eq.refl false) ?_
   refine sk (Eq.refl false) ?_
   refine pf (vb false) wN (Eq.refl false) ?_
   refine mv (vb false) wN ?_
   refine sk (Eq.refl false) ?_
   refine sk (Eq.refl false) ?_
   refine sk (Eq.refl false) ?_
   refine sk (Eq.refl false) ?_
   refine pf (vb false) wN (Eq.refl false) ?_
   refine mv (vb false) wN ?_
   refine sk (Eq.refl false) ?_
   refine sk (Eq.refl false) ?_
   refine sk (Eq.refl false) ?_
   refine pf (vb false) wN (Eq.refl false) ?_
   refine ag (vb false) wN ?_
   refine wl_nil <| wq_then <| wc_ret <| wq_blk_ret <| wq_then_ret ?_
   refine ret_1 (.inl rfl) (vb false) rfl rfl ?_
   refine ⟨m162.keep0, ?_⟩
   have hF183 : F_impl_ClientOk x_c = false := by simp only [F_impl_ClientOk, h79, h84, h89, h95, h122, h159, h163, cond_true, cond_false]
   rw [hF183]
   exact rfl
  refine pu (vp g71 32) (wS h163) ?_
  refine pu (vp g71 32) (wS h163) ?_
  have b165 := (b94.kp k161)
  refine ld (vb x_c.T.On) (wS h163) isAgg_4 b165 ?_
  refine pk (vb x_c.T.On) wN h163 ?_
  refine mv (vb x_c.T.On) wN ?_
  rcases bf x_c.T.On with h166 | h166
  ·refine sk h166 ?_
   refine sk h166 ?_
   refine sk h166 ?_
   refine pf (vb false) wN h166 ?_
   refine mv (vb false) wN ?_
   refine sk (Eq.refl false) ?_
   refine sk (Eq.refl false) ?_
   refine sk (Eq.refl false) ?_
   refine sk (Eq.refl false) ?_
   refine pf (vb false) wN (Eq.refl false) ?_
   refine mv (vb false) wN ?_
   refine sk (Eq.refl false) ?_
   refine sk (Eq.refl false) ?_
   refine sk (Eq.refl false) ?_
   refine pf (vb false) wN (Eq.refl false) ?_
   refine ag (vb false) wN ?_
   refine wl_nil <| wq_then <| wc_ret <| wq_blk_ret <| wq_then_ret ?_
   refine ret_1 (.inl rfl) (vb false) rfl rfl ?_
   refine ⟨m162.keep0, ?_⟩
   have hF181 : F_impl_ClientOk x_c = false := by simp only [F_impl_ClientOk, h79, h84, h89, h95, h122, h159, h163, h166, cond_true, cond_false]
   rw [hF181]
   exact rfl
  refine pu (vp g71 32) (wS h166) ?_
  refine lN (L_96 x_c.T) (wS h166) isAgg_96 sizeOf_96 b165 ?_
  refine cl (wS h166) (C_impl_TimerOk w6 _ x_c.T (mR_96)) ?_
  rintro _ w7 ⟨k168, rfl⟩
  have m169 := m162.extk k168
  refine pk (vb (F_impl_TimerOk x_c.T)) wN h166 ?_
  refine mv (vb (F_impl_TimerOk x_c.T)) wN ?_
  rcases bf (F_impl_TimerOk x_c.T) with h170 | h170
  ·refine sk h170 ?_
   refine sk h170 ?_
   refine sk h170 ?_
   refine sk h170 ?_
   refine pf (vb false) wN h170 ?_
   refine mv (vb false) wN ?_
   refine sk (Eq.refl false) ?_
   refine sk (Eq.refl false) ?_
   refine sk (Eq.refl false) ?_
   refine pf (vb false) wN (Eq.refl false) ?_
   refine ag (vb false) wN ?_
   refine wl_nil <| wq_then <| wc_ret <| wq_blk_ret <| wq_then_ret ?_
   refine ret_1 (.inl rfl) (vb false) rfl rfl ?_
   refine ⟨m169.keep0, ?_⟩
   have hF179 : F_impl_ClientOk x_c = false := by simp only [F_impl_ClientOk, h79, h84, h89, h95, h122, h159, h163, h166, h170, cond_true, cond_false]
   rw [hF179]
   exact rfl
  refine pu (vp g71 36) (wS h170) ?_
  have b172 := (b165.kp k168)
  refine lN (L_96 x_c.R) (wS h170) isAgg_96 sizeOf_96 b172 ?_
  refine pu (va [(vb false), (vi 0), (vi 0), (vi 0)]) (wS h170) ?_
  refine wl_aggeq (((x_c.R.On == false) && (decide (x_c.R.Due = 0) && (decide (x_c.R.Wait = 0) && decide (x_c.R.Tries = 0))))) (wS h170) rfl rfl rfl rfl rfl guardt_96 (aggeq_96 x_c.R.On false x_c.R.Due 0 x_c.R.Wait 0 x_c.R.Tries 0 w7) ?_
  refine pk (vb ((x_c.R.On == false) && (decide (x_c.R.Due = 0) && (decide (x_c.R.Wait = 0) && decide (x_c.R.Tries = 0))))) wN h170 ?_
  refine mv (vb ((x_c.R.On == false) && (decide (x_c.R.Due = 0) && (decide (x_c.R.Wait = 0) && decide (x_c.R.Tries = 0))))) wN ?_
  rcases bf ((x_c.R.On == false) && (decide (x_c.R.Due = 0) && (decide (x_c.R.Wait = 0) && decide (x_c.R.Tries = 0)))) with h173 | h173
  ·refine sk h173 ?_
   refine sk h173 ?_
   refine sk h173 ?_
   refine pf (vb false) wN h173 ?_
   refine ag (vb false) wN ?_
   refine wl_nil <| wq_then <| wc_ret <| wq_blk_ret <| wq_then_ret ?_
   refine ret_1 (.inl rfl) (vb false) rfl rfl ?_
   refine ⟨m169.keep0, ?_⟩
   have hF177 : F_impl_ClientOk x_c = false := by simp only [F_impl_ClientOk, h79, h84, h89, h95, h122, h159, h163, h166, h170, h173, cond_true, cond_false]
   rw [hF177]
   exact rfl
  refine pu (vp g71 40) (wS h173) ?_
  refine ld (vi x_c.Last) (wS h173) isAgg_3 b172 ?_
  refine pu (vb (decide (x_c.Last = 0))) (wS h173) ?_
  refine pk (vb (decide (x_c.Last = 0))) wN h173 ?_
  refine ag (vb (decide (x_c.Last = 0))) wN ?_
  refine wl_nil <| wq_then <| wc_ret <| wq_blk_ret <| wq_then_ret ?_
  refine ret_1 (.inl rfl) (vb (decide (x_c.Last = 0))) rfl rfl ?_
  refine ⟨m169.keep0, ?_⟩
  have hF175 : F_impl_ClientOk x_c = decide (x_c.Last = 0) := by simp only [F_impl_ClientOk, h79, h84, h89, h95, h122, h159, h163, h166, h170, h173, cond_true, cond_false]
  rw [hF175]
  exact rfl
 have q184 := of_decide_eq_false h159
 refine cf h159 ?_
 refine sr ?_
 refine pu (vb (decide (x_c.St = 3))) wN ?_
 refine ag (vb (decide (x_c.St = 3))) wN ?_
 refine wl_nil <| wq_then ?_
 rcases bf (decide (x_c.St = 3)) with h185 | h185
 ·have q227 := of_decide_eq_false h185
  refine cf h185 ?_
  refine wc_skip <| wq_blk_normal <| wq_then <| sr ?_
  refine ag (vb false) wN ?_
  refine wl_nil <| wq_then <| wc_ret ?_
  refine ret_1 (.inl rfl) (vb false) rfl rfl ?_
  refine ⟨m93.keep0, ?_⟩
  have hF228 : F_impl_ClientOk x_c = false := by simp only [F_impl_ClientOk, h79, h84, h89, h95, h122, h159, h185, cond_true, cond_false]
  rw [hF228]
  exact rfl
 have q186 := of_decide_eq_true h185
 refine ct h185 ?_
 refine sr ?_
 refine pu (vp g71 5) wN ?_
 refine ld (vs a6 x_c.Cn.length c7) wN isAgg_22 b94 ?_
 refine cl wN (C_impl_isNonce w5 _ x_c.Cn (mR_22 (r8.from0 m93) s9)) ?_
 rintro _ w6 ⟨k187, rfl⟩
 have m188 := m93.extk k187
 refine mv (vb (F_impl_isNonce x_c.Cn)) wN ?_
 rcases bf (F_impl_isNonce x_c.Cn) with h189 | h189
 ·refine sk h189 ?_
  refine pf (vb false) wN h189 ?_
  refine mv (vb false) wN ?_
  refine sk (Eq.refl false) ?_
  refine sk (Eq.refl false) ?_
  refine sk (Eq.refl false) ?_
  refine pf (vb false) wN (Eq.refl false) ?_
  refine mv (vb false) wN ?_
  refine sk (Eq.refl false) ?_
  refine sk (Eq.refl false) ?_
  refine sk (Eq.refl false) ?_
  refine sk (Eq.refl false) ?_
  refine pf (vb false) wN (Eq.refl false) ?_
  refine mv (vb false) wN ?_
  refine sk (Eq.refl false) ?_
  refine pf (vb false) wN (Eq.refl false) ?_
  refine mv (vb false) wN ?_
  refine sk (Eq.refl false) ?_
  refine sk (Eq.refl false) ?_
  refine sk (Eq.refl false) ?_
  refine pf (vb false) wN (Eq.refl false) ?_
  refine mv (vb false) wN ?_
  refine sk (Eq.refl false) ?_
  refine sk (Eq.refl false) ?_
  refine sk (Eq.refl false) ?_
  refine sk (Eq.refl false) ?_
  refine sk (Eq.refl false) ?_
  refine sk (Eq.refl false) ?_
  refine sk (Eq.refl false) ?_
  refine sk (Eq.refl false) ?_
  refine sk (Eq.refl false) ?_
  refine pf (vb false) wN (Eq.refl false) ?_
  refine mv (vb false) wN ?_
  refine sk (Eq.refl false) ?_
  refine sk (Eq.refl false) ?_
  refine sk (Eq.refl false) ?_
  refine pf (vb false) wN (Eq.refl false) ?_
  refine ag (vb false) wN ?_
  refine wl_nil <| wq_then <| wc_ret <| wq_blk_ret <| wq_then_ret ?_
  refine ret_1 (.inl rfl) (vb false) rfl rfl ?_
  refine ⟨m188.keep0, ?_⟩
  have hF226 : F_impl_ClientOk x_c = false := by simp only [F_impl_ClientOk, h79, h84, h89, h95, h122, h159, h185, h189, cond_true, cond_false]
  rw [hF226]
  exact rfl
 refine mv (vb (F_impl_sameFrame x_c.Fin { Kind := 0, Id := 0, Cn := [], Sn := [], Tick := 0, Cookie := [], Proof := [], Epoch := 0, Seq := 0, Body := [], Tag := [] : PFrame })) (wS h189) ?_
 refine pk (vb (F_impl_sameFrame x_c.Fin { Kind := 0, Id := 0, Cn := [], Sn := [], Tick := 0, Cookie := [], Proof := [], Epoch := 0, Seq := 0, Body := [], Tag := [] : PFrame })) wN h189 ?_
 refine mv (vb (F_impl_sameFrame x_c.Fin { Kind := 0, Id := 0, Cn := [], Sn := [], Tick := 0, Cookie := [], Proof := [], Epoch := 0, Seq := 0, Body := [], Tag := [] : PFrame })) wN ?_
 rcases bf (F_impl_sameFrame x_c.Fin { Kind := 0, Id := 0, Cn := [], Sn := [], Tick := 0, Cookie := [], Proof := [], Epoch := 0, Seq := 0, Body := [], Tag := [] : PFrame }) with h191 | h191
 ·refine sk h191 ?_
  refine sk h191 ?_
  refine sk h191 ?_
  refine pf (vb false) wN h191 ?_
  refine mv (vb false) wN ?_
  refine sk (Eq.refl false) ?_
  refine sk (Eq.refl false) ?_
  refine sk (Eq.refl false) ?_
  refine sk (Eq.refl false) ?_
  refine pf (vb false) wN (Eq.refl false) ?_
  refine mv (vb false) wN ?_
  refine sk (Eq.refl false) ?_
  refine pf (vb false) wN (Eq.refl false) ?_
  refine mv (vb false) wN ?_
  refine sk (Eq.refl false) ?_
  refine sk (Eq.refl false) ?_
  refine sk (Eq.refl false) ?_
  refine pf (vb false) wN (Eq.refl false) ?_
  refine mv (vb false) wN ?_
  refine sk (Eq.refl false) ?_
  refine sk (Eq.refl false) ?_
  refine sk (Eq.refl false) ?_
  refine sk (Eq.refl false) ?_
  refine sk (Eq.refl false) ?_
  refine sk (Eq.refl false) ?_
  refine sk (Eq.refl false) ?_
  refine sk (Eq.refl false) ?_
  refine sk (Eq.refl false) ?_
  refine pf (vb false) wN (Eq.refl false) ?_
  refine mv (vb false) wN ?_
  refine sk (Eq.refl false) ?_
  refine sk (Eq.refl false) ?_
  refine sk (Eq.refl false) ?_
  refine pf (vb false) wN (Eq.refl false) ?_
  refine ag (vb false) wN ?_
  refine wl_nil <| wq_then <| wc_ret <| wq_blk_ret <| wq_then_ret ?_
  refine ret_1 (.inl rfl) (vb false) rfl rfl ?_
  refine ⟨m188.keep0, ?_⟩
  have hF224 : F_impl_ClientOk x_c = false := by simp only [F_impl_ClientOk, h79, h84, h89, h95, h122, h159, h185, h189, h191, cond_true, cond_false]
  rw [hF224]
  exact rfl
 refine pu (vp g71 17) (wS h191) ?_
 have b193 := (b94.kp k187)
 refine lN (L_94 x_c.C a41 c42 a46 c47 a51 c52 a56 c57 a61 c62 a66 c67) (wS h191) isAgg_94 sizeOf_94 b193 ?_
 refine cl (wS h191) (C_impl_ChanOk w6 _ x_c.C (mR_94 (r43.from0 m188) s44 (r48.from0 m188) s49 (r53.from0 m188) s54 (r58.from0 m188) s59 (r63.from0 m188) s64 (r68.from0 m188) s69)) ?_
 rintro _ w7 ⟨k194, rfl⟩
 have m195 := m188.extk k194
 refine pk (vb (F_impl_ChanOk x_c.C)) wN h191 ?_
 refine mv (vb (F_impl_ChanOk x_c.C)) wN ?_
 rcases bf (F_impl_ChanOk x_c.C) with h196 | h196
 ·refine sk h196 ?_
  refine sk h196 ?_
  refine sk h196 ?_
  refine sk h196 ?_
  refine pf (vb false) wN h196 ?_
  refine mv (vb false) wN ?_
  refine sk (Eq.refl false) ?_
  refine pf (vb false) wN (Eq.refl false) ?_
  refine mv (vb false) wN ?_
  refine sk (Eq.refl false) ?_
  refine sk (Eq.refl false) ?_
  refine sk (Eq.refl false) ?_
  refine pf (vb false) wN (Eq.refl false) ?_
  refine mv (vb false) wN ?_
  refine sk (Eq.refl false) ?_
  refine sk (Eq.refl false) ?_
  refine sk (Eq.refl false) ?_
  refine sk (Eq.refl false) ?_
  refine sk (Eq.refl false) ?_
  refine sk (Eq.refl false) ?_
  refine sk (Eq.refl false) ?_
  refine sk (Eq.refl false) ?_
  refine sk (Eq.refl false) ?_
  refine pf (vb false) wN (Eq.refl false) ?_
  refine mv (vb false) wN ?_
  refine sk (Eq.refl false) ?_
  refine sk (Eq.refl false) ?_
  refine sk (Eq.refl false) ?_
  refine pf (vb false) wN (Eq.refl false) ?_
  refine ag (vb false) wN ?_
  refine wl_nil <| wq_then <| wc_ret <| wq_blk_ret <| wq_then_ret ?_
  refine ret_1 (.inl rfl) (vb false) rfl rfl ?_
  refine ⟨m195.keep0, ?_⟩
  have hF222 : F_impl_ClientOk x_c = false := by simp only [F_impl_ClientOk, h79, h84, h89, h95, h122, h159, h185, h189, h191, h196, cond_true, cond_false]
  rw [hF222]
  exact rfl
 have q197 := impl_ChanOk_t h196
 refine pu (vp g71 17) (wS h196) ?_
 refine pu (vp g71 17) (wS h196) ?_
 have b198 := (b193.kp k194)
 refine ld (vi x_c.C.Role) (wS h196) isAgg_3 b198 ?_
 refine pu (vb (decide (x_c.C.Role = 0))) (wS h196) ?_
 refine pk (vb (decide (x_c.C.Role = 0))) wN h196 ?_
 refine mv (vb (decide (x_c.C.Role = 0))) wN ?_
 rcases bf (decide (x_c.C.Role = 0)) with h199 | h199
 ·have q219 := of_decide_eq_false h199
  refine sk h199 ?_
  refine pf (vb false) wN h199 ?_
  refine mv (vb false) wN ?_
  refine sk (Eq.refl false) ?_
  refine sk (Eq.refl false) ?_
  refine sk (Eq.refl false) ?_
  refine pf (vb false) wN (Eq.refl false) ?_
  refine mv (vb false) wN ?_
  refine sk (Eq.refl false) ?_
  refine sk (Eq.refl false) ?_
  refine sk (Eq.refl false) ?_
  refine sk (Eq.refl false) ?_
  refine sk (Eq.refl false) ?_
  refine sk (Eq.refl false) ?_
  refine sk (Eq.refl false) ?_
  refine sk (Eq.refl false) ?_
  refine sk (Eq.refl false) ?_
  refine pf (vb false) wN (Eq.refl false) ?_
  refine mv (vb false) wN ?_
  refine sk (Eq.refl false) ?_
  refine sk (Eq.refl false) ?_
  refine sk (Eq.refl false) ?_
  refine pf (vb false) wN (Eq.refl false) ?_
  refine ag (vb false) wN ?_
  refine wl_nil <| wq_then <| wc_ret <| wq_blk_ret <| wq_then_ret ?_
  refine ret_1 (.inl rfl) (vb false) rfl rfl ?_
  refine ⟨m195.keep0, ?_⟩
  have hF220 : F_impl_ClientOk x_c = false := by simp only [F_impl_ClientOk, h79, h84, h89, h95, h122, h159, h185, h189, h191, h196, h199, cond_true, cond_false]
  rw [hF220]
  exact rfl
 have q200 := of_decide_eq_true h199
 refine mv (vb ((x_c.T.On == false) && (decide (x_c.T.Due = 0) && (decide (x_c.T.Wait = 0) && decide (x_c.T.Tries = 0))))) (wS h199) ?_
 refine pk (vb ((x_c.T.On == false) && (decide (x_c.T.Due = 0) && (decide (x_c.T.Wait = 0) && decide (x_c.T.Tries = 0))))) wN h199 ?_
 refine mv (vb ((x_c.T.On == false) && (decide (x_c.T.Due = 0) && (decide (x_c.T.Wait = 0) && decide (x_c.T.Tries = 0))))) wN ?_
 rcases bf ((x_c.T.On == false) && (decide (x_c.T.Due = 0) && (decide (x_c.T.Wait = 0) && decide (x_c.T.Tries = 0)))) with h201 | h201
 ·refine sk h201 ?_
  refine sk h201 ?_
  refine sk h201 ?_
  refine pf (vb false) wN h201 ?_
  refine mv (vb false) wN ?_
  refine sk (Eq.refl false) ?_
  refine sk (Eq.refl false) ?_
  refine sk (Eq.refl false) ?_
  refine sk (Eq.refl false) ?_
  refine sk (Eq.refl false) ?_
  refine sk (Eq.refl false) ?_
  refine sk (Eq.refl false) ?_
  refine sk (Eq.refl false) ?_
  refine sk (Eq.refl false) ?_
  refine pf (vb false) wN (Eq.refl false) ?_
  refine mv (vb false) wN ?_
  refine sk (Eq.refl false) ?_
  refine sk (Eq.refl false) ?_
  refine sk (Eq.refl false) ?_
  refine pf (vb false) wN (Eq.refl false) ?_
  refine ag (vb false) wN ?_
  refine wl_nil <| wq_then <| wc_ret <| wq_blk_ret <| wq_then_ret ?_
  refine ret_1 (.inl rfl) (vb false) rfl rfl ?_
  refine ⟨m195.keep0, ?_⟩
  have hF218 : F_impl_ClientOk x_c = false := by simp only [F_impl_ClientOk, h79, h84, h89, h95, h122, h159, h185, h189, h191, h196, h199, h201, cond_true, cond_false]
  rw [hF218]
  exact rfl
 refine pu (vp g71 36) (wS h201) ?_
 refine lN (L_96 x_c.R) (wS h201) isAgg_96 sizeOf_96 b198 ?_
 refine cl (wS h201) (C_impl_TimerOk w7 _ x_c.R (mR_96)) ?_
 rintro _ w8 ⟨k203, rfl⟩
 have m204 := m195.extk k203
 refine pk (vb (F_impl_TimerOk x_c.R)) wN h201 ?_
 refine mv (vb (F_impl_TimerOk x_c.R)) wN ?_
 rcases bf (F_impl_TimerOk x_c.R) with h205 | h205
 ·refine sk h205 ?_
  refine sk h205 ?_
  refine sk h205 ?_
  refine sk h205 ?_
  refine sk h205 ?_
  refine sk h205 ?_
  refine sk h205 ?_
  refine sk h205 ?_
  refine sk h205 ?_
  refine pf (vb false) wN h205 ?_
  refine mv (vb false) wN ?_
  refine sk (Eq.refl false) ?_
  refine sk (Eq.refl false) ?_
  refine sk (Eq.refl false) ?_
  refine pf (vb false) wN (Eq.refl false) ?_
  refine ag (vb false) wN ?_
  refine wl_nil <| wq_then <| wc_ret <| wq_blk_ret <| wq_then_ret ?_
  refine ret_1 (.inl rfl) (vb false) rfl rfl ?_
  refine ⟨m204.keep0, ?_⟩
  have hF216 : F_impl_ClientOk x_c = false := by simp only [F_impl_ClientOk, h79, h84, h89, h95, h122, h159, h185, h189, h191, h196, h199, h201, h205, cond_true, cond_false]
  rw [hF216]
  exact rfl
 refine pu (vp g71 36) (wS h205) ?_
 refine pu (vp g71 36) (wS h205) ?_
 have b207 := (b198.kp k203)
 refine ld (vb x_c.R.On) (wS h205) isAgg_4 b207 ?_
 refine pu (vp g71 17) (wS h205) ?_
 refine pu (vp g71 31) (wS h205) ?_
 refine ld (vs a66 x_c.C.Next.length c67) (wS h205) isAgg_22 b207 ?_
 refine ln (wS h205) slTy_22 (r68.from0 m204) ?_
 refine pu (vb (decide (0 < (x_c.C.Next.length : Int)))) (wS h205) ?_
 refine pu (vb (x_c.R.On == (decide (0 < (x_c.C.Next.length : Int))))) (wS h205) ?_
 refine pk (vb (x_c.R.On == (decide (0 < (x_c.C.Next.length : Int))))) wN h205 ?_
 refine mv (vb (x_c.R.On == (decide (0 < (x_c.C.Next.length : Int))))) wN ?_
 rcases bf (x_c.R.On == (decide (0 < (x_c.C.Next.length : Int)))) with h208 | h208
 ·refine sk h208 ?_
  refine sk h208 ?_
  refine sk h208 ?_
  refine pf (vb false) wN h208 ?_
  refine ag (vb false) wN ?_
  refine wl_nil <| wq_then <| wc_ret <| wq_blk_ret <| wq_then_ret ?_
  refine ret_1 (.inl rfl) (vb false) rfl rfl ?_
  refine ⟨m204.keep0, ?_⟩
  have hF214 : F_impl_ClientOk x_c = false := by simp only [F_impl_ClientOk, h79, h84, h89, h95, h122, h159, h185, h189, h191, h196, h199, h201, h205, h208, cond_true, cond_false]
  rw [hF214]
  exact rfl
 refine pu (vp g71 40) (wS h208) ?_
 refine ld (vi x_c.Last) (wS h208) isAgg_3 b207 ?_
 refine cl (wS h208) (C_impl_within w8 x_c.Last 0 1000000) ?_
 rintro _ w9 ⟨k210, rfl⟩
 have m211 := m204.extk k210
 refine pk (vb (F_impl_within x_c.Last 0 1000000)) wN h208 ?_
 refine ag (vb (F_impl_within x_c.Last 0 1000000)) wN ?_
 refine wl_nil <| wq_then <| wc_ret <| wq_blk_ret <| wq_then_ret ?_
 refine ret_1 (.inl rfl) (vb (F_impl_within x_c.Last 0 1000000)) rfl rfl ?_
 refine ⟨m211.keep0, ?_⟩
 have hF212 : F_impl_ClientOk x_c = (F_impl_within x_c.Last 0 1000000) := by simp only [F_impl_ClientOk, h79, h84, h89, h95, h122, h159, h185, h189, h191, h196, h199, h201, h205, h208, cond_true, cond_false]
 rw [hF212]
 exact rfl

theorem C_laws_eqByteS (w0 : World) (v_x_a : Value) (x_a : List UInt8) (r_x_a : R_22 w0 v_x_a x_a) (v_x_b : Value) (x_b : List UInt8) (r_x_b : R_22 w0 v_x_b x_b)  : Fn Try.prog 59 #[v_x_a, v_x_b] w0 (fun v w' => Keep w0 w' ∧ O_4 w' w0.heap.size v (eqB x_a x_b)) := by
 obtain ⟨a1, c2, rfl, r3, s4⟩ := r_x_a
 obtain ⟨a6, c7, rfl, r8, s9⟩ := r_x_b
 refine fn_of (n := 26) (l := [(vs a1 x_a.length c2), (vs a6 x_b.length c7), U, U, U, U, U, U, U, U, U, U, U, U, U, U, U, U, U, U, U, U, U, U, U, U]) Try.func59 rfl rfl (by kernel_rfl) rfl ?_
 refine sr ?_
 refine ag (vb false) wN ?_
 refine wl_nil <| wq_then <| wc_seq <| sr ?_
 refine mv (vs a1 x_a.length c2) wN ?_
 refine ln wN slTy_22 r3 ?_
 refine mv (vs a6 x_b.length c7) wN ?_
 refine ln wN slTy_22 r8 ?_
 refine pu (vb (!(decide ((x_a.length : Int) = (x_b.length : Int))))) wN ?_
 refine wl_nil <| wq_then ?_
 rcases bf (decide ((x_a.length : Int) = (x_b.length : Int))) with h11 | h11
 ·have q45 := of_decide_eq_false h11
  refine ct (congrArg not h11) ?_
  refine sr ?_
  refine ag (vb false) wN ?_
  refine wl_nil <| wq_then <| wc_ret <| wq_then_ret ?_
  refine ret_1 (.inl rfl) (vb false) rfl rfl ?_
  refine ⟨Ch.refl _ _, ?_⟩
  have hF46 : eqB x_a x_b = false := by first | exact eqB_len (by assumption) | exact eqB_el (by assumption) | exact eqB_all (by assumption) (by omega) (by omega)
  rw [hF46]
  exact rfl
 have q12 := of_decide_eq_true h11
 refine cf (congrArg not h11) ?_
 refine wc_skip <| wq_then <| wc_seq <| sr ?_
 refine ag (vi 0) wN ?_
 refine wl_nil <| wq_then <| wc_block ?_
 refine wc_norm [(vs a1 x_a.length c2), (vs a6 x_b.length c7), U, U, (vb false), (vi 0), (vs a1 x_a.length c2), (vi (x_a.length : Int)), (vs a6 x_b.length c7), (vi (x_b.length : Int)), (vb (!(decide ((x_a.length : Int) = (x_b.length : Int))))), U, U, U, U, U, U, U, U, U, U, U, U, U, U, U] rfl ⟨rfl, rfl, rfl, rfl, rfl, rfl, rfl, rfl, rfl, rfl, rfl, rfl, rfl, rfl, rfl, rfl, rfl, rfl, rfl, rfl, rfl, rfl, rfl, rfl, rfl, rfl, trivial⟩ ?_
 refine wc_loop (fun e' w' => ∃ (k : Nat) (u4x u11x u12x u13x u14x u15x u16x u17x u18x u19x u20x u21x u22x u23x u24x u25x : Value), e' = lst [(vs a1 x_a.length c2), (vs a6 x_b.length c7), U, U, u4x, (vi ((k : Nat) : Int)), (vs a1 x_a.length c2), (vi (x_a.length : Int)), (vs a6 x_b.length c7), (vi (x_b.length : Int)), (vb (!(decide ((x_a.length : Int) = (x_b.length : Int))))), u11x, u12x, u13x, u14x, u15x, u16x, u17x, u18x, u19x, u20x, u21x, u22x, u23x, u24x, u25x] ∧ Ch (fun k => w0.heap.size ≤ k) w0 w' ∧ Ch (fun k => w0.heap.size ≤ k) w0 w' ∧ k ≤ x_a.length ∧ x_a.take k = x_b.take k) (fun e' _ => x_a.length - ((intOf (e' 5))).toNat) ?_ ?_
 ·exact ⟨0, (vb false), U, U, U, U, U, U, U, U, U, U, U, U, U, U, U, (congrArg (fun (x5z : Value) => lst [(vs a1 x_a.length c2), (vs a6 x_b.length c7), U, U, (vb false), x5z, (vs a1 x_a.length c2), (vi (x_a.length : Int)), (vs a6 x_b.length c7), (vi (x_b.length : Int)), (vb (!(decide ((x_a.length : Int) = (x_b.length : Int))))), U, U, U, U, U, U, U, U, U, U, U, U, U, U, U]) (congrArg (Value.int .i64) (show (0 : Int) = ((0 : Nat) : Int) by omega))), (Ch.base w0), (Ch.refl (fun k => w0.heap.size ≤ k) w0), (by omega), (by first | rfl | exact eqB_next (by assumption) (by omega) (by omega) (by assumption))⟩
 ·rintro _ w1 ⟨k, u4x, u11x, u12x, u13x, u14x, u15x, u16x, u17x, u18x, u19x, u20x, u21x, u22x, u23x, u24x, u25x, rfl, m13, k14, i15, i16⟩
  refine wc_seq <| sr ?_
  refine mv (vi ((k : Nat) : Int)) wN ?_
  refine mv (vs a1 x_a.length c2) wN ?_
  refine ln wN slTy_22 (r3.from0 m13) ?_
  refine pu (vb (decide (((k : Nat) : Int) < (x_a.length : Int)))) wN ?_
  refine wl_nil <| wq_then ?_
  rcases bf (decide (((k : Nat) : Int) < (x_a.length : Int))) with h17 | h17
  ·have q43 := of_decide_eq_false h17
   refine cf h17 ?_
   refine wc_exit <| wq_then_exit <| wq_then_exit <| wq_blk_exit <| wq_then <| sr ?_
   refine ag (vb true) wN ?_
   refine wl_nil <| wq_then <| wc_ret ?_
   refine ret_1 (.inl rfl) (vb true) rfl rfl ?_
   refine ⟨m13.keep0, ?_⟩
   have hF44 : eqB x_a x_b = true := by first | exact eqB_len (by assumption) | exact eqB_el (by assumption) | exact eqB_all (by assumption) (by omega) (by omega)
   rw [hF44]
   exact rfl
  have q18 := of_decide_eq_true h17
  refine ct h17 ?_
  refine wc_skip <| wq_then <| wc_seq <| wc_block <| wc_seq ?_
  refine wc_draw ([(17, [], [], (fun _ v _ => v = (vs a1 x_a.length c2))), (18, [], [], (fun _ v _ => v = (vi ((k : Nat) : Int)))), (19, [], [0, 1], (fun _ v _ => v = (ve (vs a1 x_a.length c2) ((((k : Nat) : Int)).toNat * 1)))), (20, [], [0, 1, 2], (fun _ v _ => v = (v8 ((x_a.getD k 0).toNat : Int)))), (21, [], [], (fun _ v _ => v = (vs a6 x_b.length c7))), (22, [], [], (fun _ v _ => v = (vi ((k : Nat) : Int)))), (23, [], [4, 5], (fun _ v _ => v = (ve (vs a6 x_b.length c7) ((((k : Nat) : Int)).toNat * 1)))), (24, [], [4, 5, 6], (fun _ v _ => v = (v8 ((x_b.getD k 0).toNat : Int)))), (25, [], [0, 1, 2, 3, 4, 5, 6, 7], (fun _ v _ => v = (vb (!(decide (((x_a.getD k 0).toNat : Int) = ((x_b.getD k 0).toNat : Int)))))))] : GV) mixed rfl (by kernel_rfl) (by kernel_rfl) ?_ ?_ ?_
  ·exact ⟨(fun _ _ _ _ h _ => h), (fun _ _ _ _ _ h => h), ⟨(fun _ _ _ _ h _ => h), (fun _ _ _ _ _ h => h), ⟨(fun _ _ _ _ h _ => h), (fun _ _ _ _ _ h => h), ⟨(fun _ _ _ _ h _ => h), (fun _ _ _ _ _ h => h), ⟨(fun _ _ _ _ h _ => h), (fun _ _ _ _ _ h => h), ⟨(fun _ _ _ _ h _ => h), (fun _ _ _ _ _ h => h), ⟨(fun _ _ _ _ h _ => h), (fun _ _ _ _ _ h => h), ⟨(fun _ _ _ _ h _ => h), (fun _ _ _ _ _ h => h), ⟨(fun _ _ _ _ h _ => h), (fun _ _ _ _ _ h => h), trivial⟩⟩⟩⟩⟩⟩⟩⟩⟩
  ·refine ⟨?_, ⟨?_, ⟨?_, ⟨?_, ⟨?_, ⟨?_, ⟨?_, ⟨?_, ⟨?_, trivial⟩⟩⟩⟩⟩⟩⟩⟩⟩
   ·intro w2 k19
    have m20 := m13.extk k19
    rintro _ _ _ _ _ _ _ _ _
    show WL _ _ _ _ _ _ _
    refine mv (vs a1 x_a.length c2) wN ?_
    exact wl_fin (Ch.refl _ _) rfl
   ·intro w2 k21
    have m22 := m13.extk k21
    rintro _ _ _ _ _ _ _ _ _
    show WL _ _ _ _ _ _ _
    refine mv (vi ((k : Nat) : Int)) wN ?_
    exact wl_fin (Ch.refl _ _) rfl
   ·intro w2 k23
    have m24 := m13.extk k23
    rintro _ rfl _ rfl _ _ _ _ _ _ _
    show WL _ _ _ _ _ _ _
    refine wl_index wN ((k : Nat) : Int) rfl rfl rfl slTy_22 rfl rfl (r3.from0 m24) (by first | omega | (simp only [List.length_cons, List.length_nil, List.length_replicate, List.length_append, List.length_take, List.length_set, List.length_map]; omega)) (by first | omega | (simp only [List.length_cons, List.length_nil, List.length_replicate, List.length_append, List.length_take, List.length_set, List.length_map]; omega)) ?_
    exact wl_fin (Ch.refl _ _) rfl
   ·intro w2 k25
    have m26 := m13.extk k25
    rintro _ rfl _ rfl _ rfl _ _ _ _ _ _
    show WL _ _ _ _ _ _ _
    refine wl_loadE (bV (x_a.getD k 0)) wN rfl rfl rfl rfl isAgg_5 (r3.from0 m26) (bget (by simp) (by first | omega | (simp only [List.length_cons, List.length_nil, List.length_replicate, List.length_append, List.length_take, List.length_set, List.length_map]; omega))) ?_
    exact wl_fin (Ch.refl _ _) rfl
   ·intro w2 k27
    have m28 := m13.extk k27
    rintro _ _ _ _ _ _ _ _ _
    show WL _ _ _ _ _ _ _
    refine mv (vs a6 x_b.length c7) wN ?_
    exact wl_fin (Ch.refl _ _) rfl
   ·intro w2 k29
    have m30 := m13.extk k29
    rintro _ _ _ _ _ _ _ _ _
    show WL _ _ _ _ _ _ _
    refine mv (vi ((k : Nat) : Int)) wN ?_
    exact wl_fin (Ch.refl _ _) rfl
   ·intro w2 k31
    have m32 := m13.extk k31
    rintro _ _ _ _ _ rfl _ rfl _ _ _
    show WL _ _ _ _ _ _ _
    refine wl_index wN ((k : Nat) : Int) rfl rfl rfl slTy_22 rfl rfl (r8.from0 m32) (by first | omega | (simp only [List.length_cons, List.length_nil, List.length_replicate, List.length_append, List.length_take, List.length_set, List.length_map]; omega)) (by first | omega | (simp only [List.length_cons, List.length_nil, List.length_replicate, List.length_append, List.length_take, List.length_set, List.length_map]; omega)) ?_
    exact wl_fin (Ch.refl _ _) rfl
   ·intro w2 k33
    have m34 := m13.extk k33
    rintro _ _ _ _ _ rfl _ rfl _ rfl _ _
    show WL _ _ _ _ _ _ _
    refine wl_loadE (bV (x_b.getD k 0)) wN rfl rfl rfl rfl isAgg_5 (r8.from0 m34) (bget (by simp) (by first | omega | (simp only [List.length_cons, List.length_nil, List.length_replicate, List.length_append, List.length_take, List.length_set, List.length_map]; omega))) ?_
    exact wl_fin (Ch.refl _ _) rfl
   ·intro w2 k35
    have m36 := m13.extk k35
    rintro _ rfl _ rfl _ rfl _ rfl _ rfl _ rfl _ rfl _ rfl _
    show WL _ _ _ _ _ _ _
    refine pu (vb (!(decide (((x_a.getD k 0).toNat : Int) = ((x_b.getD k 0).toNat : Int))))) wN ?_
    exact wl_fin (Ch.refl _ _) rfl
  ·intro w2 k37
   have m38 := m13.extk k37
   rintro _ rfl _ rfl _ rfl _ rfl _ rfl _ rfl _ rfl _ rfl _ rfl
   show WL _ _ _ _ _ _ _
   refine wl_nil <| wq_then ?_
   rcases bf (decide (((x_a.getD k 0).toNat : Int) = ((x_b.getD k 0).toNat : Int))) with h39 | h39
   ·have q41 := of_decide_eq_false h39
    refine ct (congrArg not h39) ?_
    refine sr ?_
    refine ag (vb false) wN ?_
    refine wl_nil <| wq_then <| wc_ret <| wq_blk_ret <| wq_then_ret <| wq_then_ret <| wq_blk_ret <| wq_then_ret ?_
    refine ret_1 (.inl rfl) (vb false) rfl rfl ?_
    refine ⟨m38.keep0, ?_⟩
    have hF42 : eqB x_a x_b = false := by first | exact eqB_len (by assumption) | exact eqB_el (by assumption) | exact eqB_all (by assumption) (by omega) (by omega)
    rw [hF42]
    exact rfl
   have q40 := of_decide_eq_true h39
   refine cf (congrArg not h39) ?_
   refine wc_skip <| wq_blk_normal <| wq_then <| wc_region ?_
   refine mv (vi ((k : Nat) : Int)) wN ?_
   refine ar (((k : Nat) : Int) + 1) wN ?_
   refine ag (vi (((k : Nat) : Int) + 1)) wN ?_
   refine wl_nil ?_
   refine wq_loopN (w0 := w1) [(vs a1 x_a.length c2), (vs a6 x_b.length c7), U, U, u4x, (vi (((k + 1) : Nat) : Int)), (vs a1 x_a.length c2), (vi (x_a.length : Int)), (vs a6 x_b.length c7), (vi (x_b.length : Int)), (vb (!(decide ((x_a.length : Int) = (x_b.length : Int))))), (vi ((k : Nat) : Int)), (vs a1 x_a.length c2), (vi (x_a.length : Int)), (vb (decide (((k : Nat) : Int) < (x_a.length : Int)))), (vi ((k : Nat) : Int)), (vi (((k : Nat) : Int) + 1)), (vs a1 x_a.length c2), (vi ((k : Nat) : Int)), (ve (vs a1 x_a.length c2) ((((k : Nat) : Int)).toNat * 1)), (v8 ((x_a.getD k 0).toNat : Int)), (vs a6 x_b.length c7), (vi ((k : Nat) : Int)), (ve (vs a6 x_b.length c7) ((((k : Nat) : Int)).toNat * 1)), (v8 ((x_b.getD k 0).toNat : Int)), (vb (!(decide (((x_a.getD k 0).toNat : Int) = ((x_b.getD k 0).toNat : Int)))))] rfl ?_ ?_ ?_
   · exact ⟨rfl, rfl, rfl, rfl, rfl, (congrArg (Value.int .i64) (show ((((k : Nat) : Int) + 1) : Int) = (((k + 1) : Nat) : Int) by omega)), rfl, rfl, rfl, rfl, rfl, rfl, rfl, rfl, rfl, rfl, rfl, rfl, rfl, rfl, rfl, rfl, rfl, rfl, rfl, rfl, trivial⟩
   · exact ⟨(k + 1), u4x, (vi ((k : Nat) : Int)), (vs a1 x_a.length c2), (vi (x_a.length : Int)), (vb (decide (((k : Nat) : Int) < (x_a.length : Int)))), (vi ((k : Nat) : Int)), (vi (((k : Nat) : Int) + 1)), (vs a1 x_a.length c2), (vi ((k : Nat) : Int)), (ve (vs a1 x_a.length c2) ((((k : Nat) : Int)).toNat * 1)), (v8 ((x_a.getD k 0).toNat : Int)), (vs a6 x_b.length c7), (vi ((k : Nat) : Int)), (ve (vs a6 x_b.length c7) ((((k : Nat) : Int)).toNat * 1)), (v8 ((x_b.getD k 0).toNat : Int)), (vb (!(decide (((x_a.getD k 0).toNat : Int) = ((x_b.getD k 0).toNat : Int))))), rfl, m38, (((Ch.refl (fun k => w0.heap.size ≤ k) w0).ext k14 (fun k hk => Nat.le_trans (Nat.le_refl _) hk)).extk k37), (by omega), (by first | rfl | exact eqB_next (by assumption) (by omega) (by omega) (by assumption))⟩
   · show x_a.length - ((((k + 1) : Nat) : Int)).toNat < x_a.length - (((k : Nat) : Int)).toNat; omega

def F_laws_eqAddr (x_a : PAddr) (x_b : PAddr) : (Bool) := bif (decide (x_a.Host = x_b.Host)) then (bif (decide (x_a.Port = x_b.Port)) then (true) else (false)) else (false)
theorem C_laws_eqAddr (w0 : World) (v_x_a : Value) (x_a : PAddr) (r_x_a : R_26 w0 v_x_a x_a) (v_x_b : Value) (x_b : PAddr) (r_x_b : R_26 w0 v_x_b x_b)  : Fn Try.prog 102 #[v_x_a, v_x_b] w0 (fun v w' => Keep w0 w' ∧ O_4 w' w0.heap.size v (F_laws_eqAddr x_a x_b)) := by
 obtain rfl := r_x_a
 obtain rfl := r_x_b
 refine fn_of (n := 15) (l := [(va (L_26 x_a)), (va (L_26 x_b)), U, U, U, U, U, U, U, U, U, U, U, U, U]) Try.func102 rfl rfl (by kernel_rfl) rfl ?_
 refine sr ?_
 refine bx (L_26 x_a) wN ?_
 intro g1 w1 p2 p3 k4 b5
 have m6 := (Ch.base w0).extk k4
 refine bx (L_26 x_b) wN ?_
 intro g7 w2 p8 p9 k10 b11
 have m12 := m6.extk k10
 refine ag (vb false) wN ?_
 refine wl_nil <| wq_then <| wc_seq <| sr ?_
 refine pu (vp g1 0) wN ?_
 have b13 := (b5.kp k10)
 refine ld (vi x_a.Host) wN isAgg_3 b13 ?_
 refine pu (vp g7 0) wN ?_
 refine ld (vi x_b.Host) wN isAgg_3 b11 ?_
 refine pu (vb (!(decide (x_a.Host = x_b.Host)))) wN ?_
 refine wl_nil <| wq_then ?_
 rcases bf (decide (x_a.Host = x_b.Host)) with h14 | h14
 ·have q21 := of_decide_eq_false h14
  refine ct (congrArg not h14) ?_
  refine sr ?_
  refine ag (vb false) wN ?_
  refine wl_nil <| wq_then <| wc_ret <| wq_then_ret ?_
  refine ret_1 (.inl rfl) (vb false) rfl rfl ?_
  refine ⟨m12.keep0, ?_⟩
  have hF22 : F_laws_eqAddr x_a x_b = false := by simp only [F_laws_eqAddr, h14, cond_true, cond_false]
  rw [hF22]
  exact rfl
 have q15 := of_decide_eq_true h14
 refine cf (congrArg not h14) ?_
 refine wc_skip <| wq_then <| wc_seq <| sr ?_
 refine pu (vp g1 1) wN ?_
 refine ld (vi x_a.Port) wN isAgg_3 b13 ?_
 refine pu (vp g7 1) wN ?_
 refine ld (vi x_b.Port) wN isAgg_3 b11 ?_
 refine pu (vb (!(decide (x_a.Port = x_b.Port)))) wN ?_
 refine wl_nil <| wq_then ?_
 rcases bf (decide (x_a.Port = x_b.Port)) with h16 | h16
 ·have q19 := of_decide_eq_false h16
  refine ct (congrArg not h16) ?_
  refine sr ?_
  refine ag (vb false) wN ?_
  refine wl_nil <| wq_then <| wc_ret <| wq_then_ret ?_
  refine ret_1 (.inl rfl) (vb false) rfl rfl ?_
  refine ⟨m12.keep0, ?_⟩
  have hF20 : F_laws_eqAddr x_a x_b = false := by simp only [F_laws_eqAddr, h14, h16, cond_true, cond_false]
  rw [hF20]
  exact rfl
 have q17 := of_decide_eq_true h16
 refine cf (congrArg not h16) ?_
 refine wc_skip <| wq_then <| sr ?_
 refine ag (vb true) wN ?_
 refine wl_nil <| wq_then <| wc_ret ?_
 refine ret_1 (.inl rfl) (vb true) rfl rfl ?_
 refine ⟨m12.keep0, ?_⟩
 have hF18 : F_laws_eqAddr x_a x_b = true := by simp only [F_laws_eqAddr, h14, h16, cond_true, cond_false]
 rw [hF18]
 exact rfl

def F_laws_eqFrame (x_a : PFrame) (x_b : PFrame) : (Bool) := bif (decide (x_a.Kind = x_b.Kind)) then (bif (decide (x_a.Id = x_b.Id)) then (bif (eqB x_a.Cn x_b.Cn) then (bif (eqB x_a.Sn x_b.Sn) then (bif (decide (x_a.Tick = x_b.Tick)) then (bif (eqB x_a.Cookie x_b.Cookie) then (bif (eqB x_a.Proof x_b.Proof) then (bif (decide (x_a.Epoch = x_b.Epoch)) then (bif (decide (x_a.Seq = x_b.Seq)) then (bif (eqB x_a.Body x_b.Body) then (bif (eqB x_a.Tag x_b.Tag) then (true) else (false)) else (false)) else (false)) else (false)) else (false)) else (false)) else (false)) else (false)) else (false)) else (false)) else (false)
theorem C_laws_eqFrame (w0 : World) (v_x_a : Value) (x_a : PFrame) (r_x_a : R_87 w0 v_x_a x_a) (v_x_b : Value) (x_b : PFrame) (r_x_b : R_87 w0 v_x_b x_b)  : Fn Try.prog 118 #[v_x_a, v_x_b] w0 (fun v w' => Keep w0 w' ∧ O_4 w' w0.heap.size v (F_laws_eqFrame x_a x_b)) := by
 obtain ⟨a1, c2, a6, c7, a11, c12, a16, c17, a21, c22, a26, c27, rfl, r3, s4, r8, s9, r13, s14, r18, s19, r23, s24, r28, s29⟩ := r_x_a
 obtain ⟨a31, c32, a36, c37, a41, c42, a46, c47, a51, c52, a56, c57, rfl, r33, s34, r38, s39, r43, s44, r48, s49, r53, s54, r58, s59⟩ := r_x_b
 refine fn_of (n := 66) (l := [(va (L_87 x_a a1 c2 a6 c7 a11 c12 a16 c17 a21 c22 a26 c27)), (va (L_87 x_b a31 c32 a36 c37 a41 c42 a46 c47 a51 c52 a56 c57)), U, U, U, U, U, U, U, U, U, U, U, U, U, U, U, U, U, U, U, U, U, U, U, U, U, U, U, U, U, U, U, U, U, U, U, U, U, U, U, U, U, U, U, U, U, U, U, U, U, U, U, U, U, U, U, U, U, U, U, U, U, U, U, U]) Try.func118 rfl rfl (by kernel_rfl) rfl ?_
 refine sr ?_
 refine bx (L_87 x_a a1 c2 a6 c7 a11 c12 a16 c17 a21 c22 a26 c27) wN ?_
 intro g61 w1 p62 p63 k64 b65
 have m66 := (Ch.base w0).extk k64
 refine bx (L_87 x_b a31 c32 a36 c37 a41 c42 a46 c47 a51 c52 a56 c57) wN ?_
 intro g67 w2 p68 p69 k70 b71
 have m72 := m66.extk k70
 refine ag (vb false) wN ?_
 refine wl_nil <| wq_then <| wc_seq <| sr ?_
 refine pu (vp g61 0) wN ?_
 have b73 := (b65.kp k70)
 refine ld (vi x_a.Kind) wN isAgg_3 b73 ?_
 refine pu (vp g67 0) wN ?_
 refine ld (vi x_b.Kind) wN isAgg_3 b71 ?_
 refine pu (vb (!(decide (x_a.Kind = x_b.Kind)))) wN ?_
 refine wl_nil <| wq_then ?_
 rcases bf (decide (x_a.Kind = x_b.Kind)) with h74 | h74
 ·have q139 := of_decide_eq_false h74
  refine ct (congrArg not h74) ?_
  refine sr ?_
  refine ag (vb false) wN ?_
  refine wl_nil <| wq_then <| wc_ret <| wq_then_ret ?_
  refine ret_1 (.inl rfl) (vb false) rfl rfl ?_
  refine ⟨m72.keep0, ?_⟩
  have hF140 : F_laws_eqFrame x_a x_b = false := by simp only [F_laws_eqFrame, h74, cond_true, cond_false]
  rw [hF140]
  exact rfl
 have q75 := of_decide_eq_true h74
 refine cf (congrArg not h74) ?_
 refine wc_skip <| wq_then <| wc_seq <| sr ?_
 refine pu (vp g61 1) wN ?_
 refine ld (vi x_a.Id) wN isAgg_3 b73 ?_
 refine pu (vp g67 1) wN ?_
 refine ld (vi x_b.Id) wN isAgg_3 b71 ?_
 refine pu (vb (!(decide (x_a.Id = x_b.Id)))) wN ?_
 refine wl_nil <| wq_then ?_
 rcases bf (decide (x_a.Id = x_b.Id)) with h76 | h76
 ·have q137 := of_decide_eq_false h76
  refine ct (congrArg not h76) ?_
  refine sr ?_
  refine ag (vb false) wN ?_
  refine wl_nil <| wq_then <| wc_ret <| wq_then_ret ?_
  refine ret_1 (.inl rfl) (vb false) rfl rfl ?_
  refine ⟨m72.keep0, ?_⟩
  have hF138 : F_laws_eqFrame x_a x_b = false := by simp only [F_laws_eqFrame, h74, h76, cond_true, cond_false]
  rw [hF138]
  exact rfl
 have q77 := of_decide_eq_true h76
 refine cf (congrArg not h76) ?_
 refine wc_skip <| wq_then <| wc_seq <| sr ?_
 refine pu (vp g61 2) wN ?_
 refine ld (vs a1 x_a.Cn.length c2) wN isAgg_22 b73 ?_
 refine pu (vp g67 2) wN ?_
 refine ld (vs a31 x_b.Cn.length c32) wN isAgg_22 b71 ?_
 refine cl wN (C_laws_eqByteS w2 _ x_a.Cn (mR_22 (r3.from0 m72) s4) _ x_b.Cn (mR_22 (r33.from0 m72) s34)) ?_
 rintro _ w3 ⟨k78, rfl⟩
 have m79 := m72.extk k78
 refine pu (vb (!(eqB x_a.Cn x_b.Cn))) wN ?_
 refine wl_nil <| wq_then ?_
 rcases bf (eqB x_a.Cn x_b.Cn) with h80 | h80
 ·refine ct (congrArg not h80) ?_
  refine sr ?_
  refine ag (vb false) wN ?_
  refine wl_nil <| wq_then <| wc_ret <| wq_then_ret ?_
  refine ret_1 (.inl rfl) (vb false) rfl rfl ?_
  refine ⟨m79.keep0, ?_⟩
  have hF136 : F_laws_eqFrame x_a x_b = false := by simp only [F_laws_eqFrame, h74, h76, h80, cond_true, cond_false]
  rw [hF136]
  exact rfl
 refine cf (congrArg not h80) ?_
 refine wc_skip <| wq_then <| wc_seq <| sr ?_
 refine pu (vp g61 3) wN ?_
 have b82 := (b73.kp k78)
 refine ld (vs a6 x_a.Sn.length c7) wN isAgg_22 b82 ?_
 refine pu (vp g67 3) wN ?_
 have b83 := (b71.kp k78)
 refine ld (vs a36 x_b.Sn.length c37) wN isAgg_22 b83 ?_
 refine cl wN (C_laws_eqByteS w3 _ x_a.Sn (mR_22 (r8.from0 m79) s9) _ x_b.Sn (mR_22 (r38.from0 m79) s39)) ?_
 rintro _ w4 ⟨k84, rfl⟩
 have m85 := m79.extk k84
 refine pu (vb (!(eqB x_a.Sn x_b.Sn))) wN ?_
 refine wl_nil <| wq_then ?_
 rcases bf (eqB x_a.Sn x_b.Sn) with h86 | h86
 ·refine ct (congrArg not h86) ?_
  refine sr ?_
  refine ag (vb false) wN ?_
  refine wl_nil <| wq_then <| wc_ret <| wq_then_ret ?_
  refine ret_1 (.inl rfl) (vb false) rfl rfl ?_
  refine ⟨m85.keep0, ?_⟩
  have hF134 : F_laws_eqFrame x_a x_b = false := by simp only [F_laws_eqFrame, h74, h76, h80, h86, cond_true, cond_false]
  rw [hF134]
  exact rfl
 refine cf (congrArg not h86) ?_
 refine wc_skip <| wq_then <| wc_seq <| sr ?_
 refine pu (vp g61 4) wN ?_
 have b88 := (b82.kp k84)
 refine ld (vi x_a.Tick) wN isAgg_3 b88 ?_
 refine pu (vp g67 4) wN ?_
 have b89 := (b83.kp k84)
 refine ld (vi x_b.Tick) wN isAgg_3 b89 ?_
 refine pu (vb (!(decide (x_a.Tick = x_b.Tick)))) wN ?_
 refine wl_nil <| wq_then ?_
 rcases bf (decide (x_a.Tick = x_b.Tick)) with h90 | h90
 ·have q131 := of_decide_eq_false h90
  refine ct (congrArg not h90) ?_
  refine sr ?_
  refine ag (vb false) wN ?_
  refine wl_nil <| wq_then <| wc_ret <| wq_then_ret ?_
  refine ret_1 (.inl rfl) (vb false) rfl rfl ?_
  refine ⟨m85.keep0, ?_⟩
  have hF132 : F_laws_eqFrame x_a x_b = false := by simp only [F_laws_eqFrame, h74, h76, h80, h86, h90, cond_true, cond_false]
  rw [hF132]
  exact rfl
 have q91 := of_decide_eq_true h90
 refine cf (congrArg not h90) ?_
 refine wc_skip <| wq_then <| wc_seq <| sr ?_
 refine pu (vp g61 5) wN ?_
 refine ld (vs a11 x_a.Cookie.length c12) wN isAgg_22 b88 ?_
 refine pu (vp g67 5) wN ?_
 refine ld (vs a41 x_b.Cookie.length c42) wN isAgg_22 b89 ?_
 refine cl wN (C_laws_eqByteS w4 _ x_a.Cookie (mR_22 (r13.from0 m85) s14) _ x_b.Cookie (mR_22 (r43.from0 m85) s44)) ?_
 rintro _ w5 ⟨k92, rfl⟩
 have m93 := m85.extk k92
 refine pu (vb (!(eqB x_a.Cookie x_b.Cookie))) wN ?_
 refine wl_nil <| wq_then ?_
 rcases bf (eqB x_a.Cookie x_b.Cookie) with h94 | h94
 ·refine ct (congrArg not h94) ?_
  refine sr ?_
  refine ag (vb false) wN ?_
  refine wl_nil <| wq_then <| wc_ret <| wq_then_ret ?_
  refine ret_1 (.inl rfl) (vb false) rfl rfl ?_
  refine ⟨m93.keep0, ?_⟩
  have hF130 : F_laws_eqFrame x_a x_b = false := by simp only [F_laws_eqFrame, h74, h76, h80, h86, h90, h94, cond_true, cond_false]
  rw [hF130]
  exact rfl
 refine cf (congrArg not h94) ?_
 refine wc_skip <| wq_then <| wc_seq <| sr ?_
 refine pu (vp g61 6) wN ?_
 have b96 := (b88.kp k92)
 refine ld (vs a16 x_a.Proof.length c17) wN isAgg_22 b96 ?_
 refine pu (vp g67 6) wN ?_
 have b97 := (b89.kp k92)
 refine ld (vs a46 x_b.Proof.length c47) wN isAgg_22 b97 ?_
 refine cl wN (C_laws_eqByteS w5 _ x_a.Proof (mR_22 (r18.from0 m93) s19) _ x_b.Proof (mR_22 (r48.from0 m93) s49)) ?_
 rintro _ w6 ⟨k98, rfl⟩
 have m99 := m93.extk k98
 refine pu (vb (!(eqB x_a.Proof x_b.Proof))) wN ?_
 refine wl_nil <| wq_then ?_
 rcases bf (eqB x_a.Proof x_b.Proof) with h100 | h100
 ·refine ct (congrArg not h100) ?_
  refine sr ?_
  refine ag (vb false) wN ?_
  refine wl_nil <| wq_then <| wc_ret <| wq_then_ret ?_
  refine ret_1 (.inl rfl) (vb false) rfl rfl ?_
  refine ⟨m99.keep0, ?_⟩
  have hF128 : F_laws_eqFrame x_a x_b = false := by simp only [F_laws_eqFrame, h74, h76, h80, h86, h90, h94, h100, cond_true, cond_false]
  rw [hF128]
  exact rfl
 refine cf (congrArg not h100) ?_
 refine wc_skip <| wq_then <| wc_seq <| sr ?_
 refine pu (vp g61 7) wN ?_
 have b102 := (b96.kp k98)
 refine ld (vi x_a.Epoch) wN isAgg_3 b102 ?_
 refine pu (vp g67 7) wN ?_
 have b103 := (b97.kp k98)
 refine ld (vi x_b.Epoch) wN isAgg_3 b103 ?_
 refine pu (vb (!(decide (x_a.Epoch = x_b.Epoch)))) wN ?_
 refine wl_nil <| wq_then ?_
 rcases bf (decide (x_a.Epoch = x_b.Epoch)) with h104 | h104
 ·have q125 := of_decide_eq_false h104
  refine ct (congrArg not h104) ?_
  refine sr ?_
  refine ag (vb false) wN ?_
  refine wl_nil <| wq_then <| wc_ret <| wq_then_ret ?_
  refine ret_1 (.inl rfl) (vb false) rfl rfl ?_
  refine ⟨m99.keep0, ?_⟩
  have hF126 : F_laws_eqFrame x_a x_b = false := by simp only [F_laws_eqFrame, h74, h76, h80, h86, h90, h94, h100, h104, cond_true, cond_false]
  rw [hF126]
  exact rfl
 have q105 := of_decide_eq_true h104
 refine cf (congrArg not h104) ?_
 refine wc_skip <| wq_then <| wc_seq <| sr ?_
 refine pu (vp g61 8) wN ?_
 refine ld (vi x_a.Seq) wN isAgg_3 b102 ?_
 refine pu (vp g67 8) wN ?_
 refine ld (vi x_b.Seq) wN isAgg_3 b103 ?_
 refine pu (vb (!(decide (x_a.Seq = x_b.Seq)))) wN ?_
 refine wl_nil <| wq_then ?_
 rcases bf (decide (x_a.Seq = x_b.Seq)) with h106 | h106
 ·have q123 := of_decide_eq_false h106
  refine ct (congrArg not h106) ?_
  refine sr ?_
  refine ag (vb false) wN ?_
  refine wl_nil <| wq_then <| wc_ret <| wq_then_ret ?_
  refine ret_1 (.inl rfl) (vb false) rfl rfl ?_
  refine ⟨m99.keep0, ?_⟩
  have hF124 : F_laws_eqFrame x_a x_b = false := by simp only [F_laws_eqFrame, h74, h76, h80, h86, h90, h94, h100, h104, h106, cond_true, cond_false]
  rw [hF124]
  exact rfl
 have q107 := of_decide_eq_true h106
 refine cf (congrArg not h106) ?_
 refine wc_skip <| wq_then <| wc_seq <| sr ?_
 refine pu (vp g61 9) wN ?_
 refine ld (vs a21 x_a.Body.length c22) wN isAgg_22 b102 ?_
 refine pu (vp g67 9) wN ?_
 refine ld (vs a51 x_b.Body.length c52) wN isAgg_22 b103 ?_
 refine cl wN (C_laws_eqByteS w6 _ x_a.Body (mR_22 (r23.from0 m99) s24) _ x_b.Body (mR_22 (r53.from0 m99) s54)) ?_
 rintro _ w7 ⟨k108, rfl⟩
 have m109 := m99.extk k108
 refine pu (vb (!(eqB x_a.Body x_b.Body))) wN ?_
 refine wl_nil <| wq_then ?_
 rcases bf (eqB x_a.Body x_b.Body) with h110 | h110
 ·refine ct (congrArg not h110) ?_
  refine sr ?_
  refine ag (vb false) wN ?_
  refine wl_nil <| wq_then <| wc_ret <| wq_then_ret ?_
  refine ret_1 (.inl rfl) (vb false) rfl rfl ?_
  refine ⟨m109.keep0, ?_⟩
  have hF122 : F_laws_eqFrame x_a x_b = false := by simp only [F_laws_eqFrame, h74, h76, h80, h86, h90, h94, h100, h104, h106, h110, cond_true, cond_false]
  rw [hF122]
  exact rfl
 refine cf (congrArg not h110) ?_
 refine wc_skip <| wq_then <| wc_seq <| sr ?_
 refine pu (vp g61 10) wN ?_
 have b112 := (b102.kp k108)
 refine ld (vs a26 x_a.Tag.length c27) wN isAgg_22 b112 ?_
 refine pu (vp g67 10) wN ?_
 have b113 := (b103.kp k108)
 refine ld (vs a56 x_b.Tag.length c57) wN isAgg_22 b113 ?_
 refine cl wN (C_laws_eqByteS w7 _ x_a.Tag (mR_22 (r28.from0 m109) s29) _ x_b.Tag (mR_22 (r58.from0 m109) s59)) ?_
 rintro _ w8 ⟨k114, rfl⟩
 have m115 := m109.extk k114
 refine pu (vb (!(eqB x_a.Tag x_b.Tag))) wN ?_
 refine wl_nil <| wq_then ?_
 rcases bf (eqB x_a.Tag x_b.Tag) with h116 | h116
 ·refine ct (congrArg not h116) ?_
  refine sr ?_
  refine ag (vb false) wN ?_
  refine wl_nil <| wq_then <| wc_ret <| wq_then_ret ?_
  refine ret_1 (.inl rfl) (vb false) rfl rfl ?_
  refine ⟨m115.keep0, ?_⟩
  have hF120 : F_laws_eqFrame x_a x_b = false := by simp only [F_laws_eqFrame, h74, h76, h80, h86, h90, h94, h100, h104, h106, h110, h116, cond_true, cond_false]
  rw [hF120]
  exact rfl
 refine cf (congrArg not h116) ?_
 refine wc_skip <| wq_then <| sr ?_
 refine ag (vb true) wN ?_
 refine wl_nil <| wq_then <| wc_ret ?_
 refine ret_1 (.inl rfl) (vb true) rfl rfl ?_
 refine ⟨m115.keep0, ?_⟩
 have hF118 : F_laws_eqFrame x_a x_b = true := by simp only [F_laws_eqFrame, h74, h76, h80, h86, h90, h94, h100, h104, h106, h110, h116, cond_true, cond_false]
 rw [hF118]
 exact rfl

theorem C_laws_eqIntS (w0 : World) (v_x_a : Value) (x_a : List Int) (r_x_a : R_88 w0 v_x_a x_a) (v_x_b : Value) (x_b : List Int) (r_x_b : R_88 w0 v_x_b x_b)  : Fn Try.prog 179 #[v_x_a, v_x_b] w0 (fun v w' => Keep w0 w' ∧ O_4 w' w0.heap.size v (eqI x_a x_b)) := by
 obtain ⟨a1, c2, rfl, r3, s4⟩ := r_x_a
 obtain ⟨a6, c7, rfl, r8, s9⟩ := r_x_b
 refine fn_of (n := 26) (l := [(vs a1 x_a.length c2), (vs a6 x_b.length c7), U, U, U, U, U, U, U, U, U, U, U, U, U, U, U, U, U, U, U, U, U, U, U, U]) Try.func179 rfl rfl (by kernel_rfl) rfl ?_
 refine sr ?_
 refine ag (vb false) wN ?_
 refine wl_nil <| wq_then <| wc_seq <| sr ?_
 refine mv (vs a1 x_a.length c2) wN ?_
 refine ln wN slTy_88 r3 ?_
 refine mv (vs a6 x_b.length c7) wN ?_
 refine ln wN slTy_88 r8 ?_
 refine pu (vb (!(decide ((x_a.length : Int) = (x_b.length : Int))))) wN ?_
 refine wl_nil <| wq_then ?_
 rcases bf (decide ((x_a.length : Int) = (x_b.length : Int))) with h11 | h11
 ·have q45 := of_decide_eq_false h11
  refine ct (congrArg not h11) ?_
  refine sr ?_
  refine ag (vb false) wN ?_
  refine wl_nil <| wq_then <| wc_ret <| wq_then_ret ?_
  refine ret_1 (.inl rfl) (vb false) rfl rfl ?_
  refine ⟨Ch.refl _ _, ?_⟩
  have hF46 : eqI x_a x_b = false := by first | exact eqI_len (by assumption) | exact eqI_el (by assumption) | exact eqI_all (by assumption) (by omega) (by omega)
  rw [hF46]
  exact rfl
 have q12 := of_decide_eq_true h11
 refine cf (congrArg not h11) ?_
 refine wc_skip <| wq_then <| wc_seq <| sr ?_
 refine ag (vi 0) wN ?_
 refine wl_nil <| wq_then <| wc_block ?_
 refine wc_norm [(vs a1 x_a.length c2), (vs a6 x_b.length c7), U, U, (vb false), (vi 0), (vs a1 x_a.length c2), (vi (x_a.length : Int)), (vs a6 x_b.length c7), (vi (x_b.length : Int)), (vb (!(decide ((x_a.length : Int) = (x_b.length : Int))))), U, U, U, U, U, U, U, U, U, U, U, U, U, U, U] rfl ⟨rfl, rfl, rfl, rfl, rfl, rfl, rfl, rfl, rfl, rfl, rfl, rfl, rfl, rfl, rfl, rfl, rfl, rfl, rfl, rfl, rfl, rfl, rfl, rfl, rfl, rfl, trivial⟩ ?_
 refine wc_loop (fun e' w' => ∃ (k : Nat) (u4x u11x u12x u13x u14x u15x u16x u17x u18x u19x u20x u21x u22x u23x u24x u25x : Value), e' = lst [(vs a1 x_a.length c2), (vs a6 x_b.length c7), U, U, u4x, (vi ((k : Nat) : Int)), (vs a1 x_a.length c2), (vi (x_a.length : Int)), (vs a6 x_b.length c7), (vi (x_b.length : Int)), (vb (!(decide ((x_a.length : Int) = (x_b.length : Int))))), u11x, u12x, u13x, u14x, u15x, u16x, u17x, u18x, u19x, u20x, u21x, u22x, u23x, u24x, u25x] ∧ Ch (fun k => w0.heap.size ≤ k) w0 w' ∧ Ch (fun k => w0.heap.size ≤ k) w0 w' ∧ k ≤ x_a.length ∧ x_a.take k = x_b.take k) (fun e' _ => x_a.length - ((intOf (e' 5))).toNat) ?_ ?_
 ·exact ⟨0, (vb false), U, U, U, U, U, U, U, U, U, U, U, U, U, U, U, (congrArg (fun (x5z : Value) => lst [(vs a1 x_a.length c2), (vs a6 x_b.length c7), U, U, (vb false), x5z, (vs a1 x_a.length c2), (vi (x_a.length : Int)), (vs a6 x_b.length c7), (vi (x_b.length : Int)), (vb (!(decide ((x_a.length : Int) = (x_b.length : Int))))), U, U, U, U, U, U, U, U, U, U, U, U, U, U, U]) (congrArg (Value.int .i64) (show (0 : Int) = ((0 : Nat) : Int) by omega))), (Ch.base w0), (Ch.refl (fun k => w0.heap.size ≤ k) w0), (by omega), (by first | rfl | exact eqI_next (by assumption) (by omega) (by omega) (by assumption))⟩
 ·rintro _ w1 ⟨k, u4x, u11x, u12x, u13x, u14x, u15x, u16x, u17x, u18x, u19x, u20x, u21x, u22x, u23x, u24x, u25x, rfl, m13, k14, i15, i16⟩
  refine wc_seq <| sr ?_
  refine mv (vi ((k : Nat) : Int)) wN ?_
  refine mv (vs a1 x_a.length c2) wN ?_
  refine ln wN slTy_88 (r3.from0 m13) ?_
  refine pu (vb (decide (((k : Nat) : Int) < (x_a.length : Int)))) wN ?_
  refine wl_nil <| wq_then ?_
  rcases bf (decide (((k : Nat) : Int) < (x_a.length : Int))) with h17 | h17
  ·have q43 := of_decide_eq_false h17
   refine cf h17 ?_
   refine wc_exit <| wq_then_exit <| wq_then_exit <| wq_blk_exit <| wq_then <| sr ?_
   refine ag (vb true) wN ?_
   refine wl_nil <| wq_then <| wc_ret ?_
   refine ret_1 (.inl rfl) (vb true) rfl rfl ?_
   refine ⟨m13.keep0, ?_⟩
   have hF44 : eqI x_a x_b = true := by first | exact eqI_len (by assumption) | exact eqI_el (by assumption) | exact eqI_all (by assumption) (by omega) (by omega)
   rw [hF44]
   exact rfl
  have q18 := of_decide_eq_true h17
  refine ct h17 ?_
  refine wc_skip <| wq_then <| wc_seq <| wc_block <| wc_seq ?_
  refine wc_draw ([(17, [], [], (fun _ v _ => v = (vs a1 x_a.length c2))), (18, [], [], (fun _ v _ => v = (vi ((k : Nat) : Int)))), (19, [], [0, 1], (fun _ v _ => v = (ve (vs a1 x_a.length c2) ((((k : Nat) : Int)).toNat * 1)))), (20, [], [0, 1, 2], (fun _ v _ => v = (vi (x_a.getD k 0)))), (21, [], [], (fun _ v _ => v = (vs a6 x_b.length c7))), (22, [], [], (fun _ v _ => v = (vi ((k : Nat) : Int)))), (23, [], [4, 5], (fun _ v _ => v = (ve (vs a6 x_b.length c7) ((((k : Nat) : Int)).toNat * 1)))), (24, [], [4, 5, 6], (fun _ v _ => v = (vi (x_b.getD k 0)))), (25, [], [0, 1, 2, 3, 4, 5, 6, 7], (fun _ v _ => v = (vb (!(decide ((x_a.getD k 0) = (x_b.getD k 0)))))))] : GV) mixed rfl (by kernel_rfl) (by kernel_rfl) ?_ ?_ ?_
  ·exact ⟨(fun _ _ _ _ h _ => h), (fun _ _ _ _ _ h => h), ⟨(fun _ _ _ _ h _ => h), (fun _ _ _ _ _ h => h), ⟨(fun _ _ _ _ h _ => h), (fun _ _ _ _ _ h => h), ⟨(fun _ _ _ _ h _ => h), (fun _ _ _ _ _ h => h), ⟨(fun _ _ _ _ h _ => h), (fun _ _ _ _ _ h => h), ⟨(fun _ _ _ _ h _ => h), (fun _ _ _ _ _ h => h), ⟨(fun _ _ _ _ h _ => h), (fun _ _ _ _ _ h => h), ⟨(fun _ _ _ _ h _ => h), (fun _ _ _ _ _ h => h), ⟨(fun _ _ _ _ h _ => h), (fun _ _ _ _ _ h => h), trivial⟩⟩⟩⟩⟩⟩⟩⟩⟩
  ·refine ⟨?_, ⟨?_, ⟨?_, ⟨?_, ⟨?_, ⟨?_, ⟨?_, ⟨?_, ⟨?_, trivial⟩⟩⟩⟩⟩⟩⟩⟩⟩
   ·intro w2 k19
    have m20 := m13.extk k19
    rintro _ _ _ _ _ _ _ _ _
    show WL _ _ _ _ _ _ _
    refine mv (vs a1 x_a.length c2) wN ?_
    exact wl_fin (Ch.refl _ _) rfl
   ·intro w2 k21
    have m22 := m13.extk k21
    rintro _ _ _ _ _ _ _ _ _
    show WL _ _ _ _ _ _ _
    refine mv (vi ((k : Nat) : Int)) wN ?_
    exact wl_fin (Ch.refl _ _) rfl
   ·intro w2 k23
    have m24 := m13.extk k23
    rintro _ rfl _ rfl _ _ _ _ _ _ _
    show WL _ _ _ _ _ _ _
    refine wl_index wN ((k : Nat) : Int) rfl rfl rfl slTy_88 rfl rfl (r3.from0 m24) (by first | omega | (simp only [List.length_cons, List.length_nil, List.length_replicate, List.length_append, List.length_take, List.length_set, List.length_map]; omega)) (by first | omega | (simp only [List.length_cons, List.length_nil, List.length_replicate, List.length_append, List.length_take, List.length_set, List.length_map]; omega)) ?_
    exact wl_fin (Ch.refl _ _) rfl
   ·intro w2 k25
    have m26 := m13.extk k25
    rintro _ rfl _ rfl _ rfl _ _ _ _ _ _
    show WL _ _ _ _ _ _ _
    refine wl_loadE (iV (x_a.getD k 0)) wN rfl rfl rfl rfl isAgg_3 (r3.from0 m26) (iget (by simp) (by first | omega | (simp only [List.length_cons, List.length_nil, List.length_replicate, List.length_append, List.length_take, List.length_set, List.length_map]; omega))) ?_
    exact wl_fin (Ch.refl _ _) rfl
   ·intro w2 k27
    have m28 := m13.extk k27
    rintro _ _ _ _ _ _ _ _ _
    show WL _ _ _ _ _ _ _
    refine mv (vs a6 x_b.length c7) wN ?_
    exact wl_fin (Ch.refl _ _) rfl
   ·intro w2 k29
    have m30 := m13.extk k29
    rintro _ _ _ _ _ _ _ _ _
    show WL _ _ _ _ _ _ _
    refine mv (vi ((k : Nat) : Int)) wN ?_
    exact wl_fin (Ch.refl _ _) rfl
   ·intro w2 k31
    have m32 := m13.extk k31
    rintro _ _ _ _ _ rfl _ rfl _ _ _
    show WL _ _ _ _ _ _ _
    refine wl_index wN ((k : Nat) : Int) rfl rfl rfl slTy_88 rfl rfl (r8.from0 m32) (by first | omega | (simp only [List.length_cons, List.length_nil, List.length_replicate, List.length_append, List.length_take, List.length_set, List.length_map]; omega)) (by first | omega | (simp only [List.length_cons, List.length_nil, List.length_replicate, List.length_append, List.length_take, List.length_set, List.length_map]; omega)) ?_
    exact wl_fin (Ch.refl _ _) rfl
   ·intro w2 k33
    have m34 := m13.extk k33
    rintro _ _ _ _ _ rfl _ rfl _ rfl _ _
    show WL _ _ _ _ _ _ _
    refine wl_loadE (iV (x_b.getD k 0)) wN rfl rfl rfl rfl isAgg_3 (r8.from0 m34) (iget (by simp) (by first | omega | (simp only [List.length_cons, List.length_nil, List.length_replicate, List.length_append, List.length_take, List.length_set, List.length_map]; omega))) ?_
    exact wl_fin (Ch.refl _ _) rfl
   ·intro w2 k35
    have m36 := m13.extk k35
    rintro _ rfl _ rfl _ rfl _ rfl _ rfl _ rfl _ rfl _ rfl _
    show WL _ _ _ _ _ _ _
    refine pu (vb (!(decide ((x_a.getD k 0) = (x_b.getD k 0))))) wN ?_
    exact wl_fin (Ch.refl _ _) rfl
  ·intro w2 k37
   have m38 := m13.extk k37
   rintro _ rfl _ rfl _ rfl _ rfl _ rfl _ rfl _ rfl _ rfl _ rfl
   show WL _ _ _ _ _ _ _
   refine wl_nil <| wq_then ?_
   rcases bf (decide ((x_a.getD k 0) = (x_b.getD k 0))) with h39 | h39
   ·have q41 := of_decide_eq_false h39
    refine ct (congrArg not h39) ?_
    refine sr ?_
    refine ag (vb false) wN ?_
    refine wl_nil <| wq_then <| wc_ret <| wq_blk_ret <| wq_then_ret <| wq_then_ret <| wq_blk_ret <| wq_then_ret ?_
    refine ret_1 (.inl rfl) (vb false) rfl rfl ?_
    refine ⟨m38.keep0, ?_⟩
    have hF42 : eqI x_a x_b = false := by first | exact eqI_len (by assumption) | exact eqI_el (by assumption) | exact eqI_all (by assumption) (by omega) (by omega)
    rw [hF42]
    exact rfl
   have q40 := of_decide_eq_true h39
   refine cf (congrArg not h39) ?_
   refine wc_skip <| wq_blk_normal <| wq_then <| wc_region ?_
   refine mv (vi ((k : Nat) : Int)) wN ?_
   refine ar (((k : Nat) : Int) + 1) wN ?_
   refine ag (vi (((k : Nat) : Int) + 1)) wN ?_
   refine wl_nil ?_
   refine wq_loopN (w0 := w1) [(vs a1 x_a.length c2), (vs a6 x_b.length c7), U, U, u4x, (vi (((k + 1) : Nat) : Int)), (vs a1 x_a.length c2), (vi (x_a.length : Int)), (vs a6 x_b.length c7), (vi (x_b.length : Int)), (vb (!(decide ((x_a.length : Int) = (x_b.length : Int))))), (vi ((k : Nat) : Int)), (vs a1 x_a.length c2), (vi (x_a.length : Int)), (vb (decide (((k : Nat) : Int) < (x_a.length : Int)))), (vi ((k : Nat) : Int)), (vi (((k : Nat) : Int) + 1)), (vs a1 x_a.length c2), (vi ((k : Nat) : Int)), (ve (vs a1 x_a.length c2) ((((k : Nat) : Int)).toNat * 1)), (vi (x_a.getD k 0)), (vs a6 x_b.length c7), (vi ((k : Nat) : Int)), (ve (vs a6 x_b.length c7) ((((k : Nat) : Int)).toNat * 1)), (vi (x_b.getD k 0)), (vb (!(decide ((x_a.getD k 0) = (x_b.getD k 0)))))] rfl ?_ ?_ ?_
   · exact ⟨rfl, rfl, rfl, rfl, rfl, (congrArg (Value.int .i64) (show ((((k : Nat) : Int) + 1) : Int) = (((k + 1) : Nat) : Int) by omega)), rfl, rfl, rfl, rfl, rfl, rfl, rfl, rfl, rfl, rfl, rfl, rfl, rfl, rfl, rfl, rfl, rfl, rfl, rfl, rfl, trivial⟩
   · exact ⟨(k + 1), u4x, (vi ((k : Nat) : Int)), (vs a1 x_a.length c2), (vi (x_a.length : Int)), (vb (decide (((k : Nat) : Int) < (x_a.length : Int)))), (vi ((k : Nat) : Int)), (vi (((k : Nat) : Int) + 1)), (vs a1 x_a.length c2), (vi ((k : Nat) : Int)), (ve (vs a1 x_a.length c2) ((((k : Nat) : Int)).toNat * 1)), (vi (x_a.getD k 0)), (vs a6 x_b.length c7), (vi ((k : Nat) : Int)), (ve (vs a6 x_b.length c7) ((((k : Nat) : Int)).toNat * 1)), (vi (x_b.getD k 0)), (vb (!(decide ((x_a.getD k 0) = (x_b.getD k 0))))), rfl, m38, (((Ch.refl (fun k => w0.heap.size ≤ k) w0).ext k14 (fun k hk => Nat.le_trans (Nat.le_refl _) hk)).extk k37), (by omega), (by first | rfl | exact eqI_next (by assumption) (by omega) (by omega) (by assumption))⟩
   · show x_a.length - ((((k + 1) : Nat) : Int)).toNat < x_a.length - (((k : Nat) : Int)).toNat; omega

def F_laws_eqWin (x_a : PWin) (x_b : PWin) : (Bool) := bif (decide (x_a.Top = x_b.Top)) then (bif (eqI x_a.Bits x_b.Bits) then (true) else (false)) else (false)
theorem C_laws_eqWin (w0 : World) (v_x_a : Value) (x_a : PWin) (r_x_a : R_90 w0 v_x_a x_a) (v_x_b : Value) (x_b : PWin) (r_x_b : R_90 w0 v_x_b x_b)  : Fn Try.prog 168 #[v_x_a, v_x_b] w0 (fun v w' => Keep w0 w' ∧ O_4 w' w0.heap.size v (F_laws_eqWin x_a x_b)) := by
 obtain ⟨a1, c2, rfl, r3, s4⟩ := r_x_a
 obtain ⟨a6, c7, rfl, r8, s9⟩ := r_x_b
 refine fn_of (n := 16) (l := [(va (L_90 x_a a1 c2)), (va (L_90 x_b a6 c7)), U, U, U, U, U, U, U, U, U, U, U, U, U, U]) Try.func168 rfl rfl (by kernel_rfl) rfl ?_
 refine sr ?_
 refine bx (L_90 x_a a1 c2) wN ?_
 intro g11 w1 p12 p13 k14 b15
 have m16 := (Ch.base w0).extk k14
 refine bx (L_90 x_b a6 c7) wN ?_
 intro g17 w2 p18 p19 k20 b21
 have m22 := m16.extk k20
 refine ag (vb false) wN ?_
 refine wl_nil <| wq_then <| wc_seq <| sr ?_
 refine pu (vp g11 0) wN ?_
 have b23 := (b15.kp k20)
 refine ld (vi x_a.Top) wN isAgg_3 b23 ?_
 refine pu (vp g17 0) wN ?_
 refine ld (vi x_b.Top) wN isAgg_3 b21 ?_
 refine pu (vb (!(decide (x_a.Top = x_b.Top)))) wN ?_
 refine wl_nil <| wq_then ?_
 rcases bf (decide (x_a.Top = x_b.Top)) with h24 | h24
 ·have q33 := of_decide_eq_false h24
  refine ct (congrArg not h24) ?_
  refine sr ?_
  refine ag (vb false) wN ?_
  refine wl_nil <| wq_then <| wc_ret <| wq_then_ret ?_
  refine ret_1 (.inl rfl) (vb false) rfl rfl ?_
  refine ⟨m22.keep0, ?_⟩
  have hF34 : F_laws_eqWin x_a x_b = false := by simp only [F_laws_eqWin, h24, cond_true, cond_false]
  rw [hF34]
  exact rfl
 have q25 := of_decide_eq_true h24
 refine cf (congrArg not h24) ?_
 refine wc_skip <| wq_then <| wc_seq <| sr ?_
 refine pu (vp g11 1) wN ?_
 refine ld (vs a1 x_a.Bits.length c2) wN isAgg_88 b23 ?_
 refine pu (vp g17 1) wN ?_
 refine ld (vs a6 x_b.Bits.length c7) wN isAgg_88 b21 ?_
 refine cl wN (C_laws_eqIntS w2 _ x_a.Bits (mR_88 (r3.from0 m22) s4) _ x_b.Bits (mR_88 (r8.from0 m22) s9)) ?_
 rintro _ w3 ⟨k26, rfl⟩
 have m27 := m22.extk k26
 refine pu (vb (!(eqI x_a.Bits x_b.Bits))) wN ?_
 refine wl_nil <| wq_then ?_
 rcases bf (eqI x_a.Bits x_b.Bits) with h28 | h28
 ·refine ct (congrArg not h28) ?_
  refine sr ?_
  refine ag (vb false) wN ?_
  refine wl_nil <| wq_then <| wc_ret <| wq_then_ret ?_
  refine ret_1 (.inl rfl) (vb false) rfl rfl ?_
  refine ⟨m27.keep0, ?_⟩
  have hF32 : F_laws_eqWin x_a x_b = false := by simp only [F_laws_eqWin, h24, h28, cond_true, cond_false]
  rw [hF32]
  exact rfl
 refine cf (congrArg not h28) ?_
 refine wc_skip <| wq_then <| sr ?_
 refine ag (vb true) wN ?_
 refine wl_nil <| wq_then <| wc_ret ?_
 refine ret_1 (.inl rfl) (vb true) rfl rfl ?_
 refine ⟨m27.keep0, ?_⟩
 have hF30 : F_laws_eqWin x_a x_b = true := by simp only [F_laws_eqWin, h24, h28, cond_true, cond_false]
 rw [hF30]
 exact rfl

def F_laws_eqEp (x_a : PEp) (x_b : PEp) : (Bool) := bif (decide (x_a.N = x_b.N)) then (bif (eqB x_a.Key x_b.Key) then (bif (decide (x_a.Seq = x_b.Seq)) then (bif (F_laws_eqWin x_a.Win x_b.Win) then (true) else (false)) else (false)) else (false)) else (false)
theorem C_laws_eqEp (w0 : World) (v_x_a : Value) (x_a : PEp) (r_x_a : R_92 w0 v_x_a x_a) (v_x_b : Value) (x_b : PEp) (r_x_b : R_92 w0 v_x_b x_b)  : Fn Try.prog 150 #[v_x_a, v_x_b] w0 (fun v w' => Keep w0 w' ∧ O_4 w' w0.heap.size v (F_laws_eqEp x_a x_b)) := by
 obtain ⟨a1, c2, a6, c7, rfl, r3, s4, r8, s9⟩ := r_x_a
 obtain ⟨a11, c12, a16, c17, rfl, r13, s14, r18, s19⟩ := r_x_b
 refine fn_of (n := 27) (l := [(va (L_92 x_a a1 c2 a6 c7)), (va (L_92 x_b a11 c12 a16 c17)), U, U, U, U, U, U, U, U, U, U, U, U, U, U, U, U, U, U, U, U, U, U, U, U, U]) Try.func150 rfl rfl (by kernel_rfl) rfl ?_
 refine sr ?_
 refine bx (L_92 x_a a1 c2 a6 c7) wN ?_
 intro g21 w1 p22 p23 k24 b25
 have m26 := (Ch.base w0).extk k24
 refine bx (L_92 x_b a11 c12 a16 c17) wN ?_
 intro g27 w2 p28 p29 k30 b31
 have m32 := m26.extk k30
 refine ag (vb false) wN ?_
 refine wl_nil <| wq_then <| wc_seq <| sr ?_
 refine pu (vp g21 0) wN ?_
 have b33 := (b25.kp k30)
 refine ld (vi x_a.N) wN isAgg_3 b33 ?_
 refine pu (vp g27 0) wN ?_
 refine ld (vi x_b.N) wN isAgg_3 b31 ?_
 refine pu (vb (!(decide (x_a.N = x_b.N)))) wN ?_
 refine wl_nil <| wq_then ?_
 rcases bf (decide (x_a.N = x_b.N)) with h34 | h34
 ·have q55 := of_decide_eq_false h34
  refine ct (congrArg not h34) ?_
  refine sr ?_
  refine ag (vb false) wN ?_
  refine wl_nil <| wq_then <| wc_ret <| wq_then_ret ?_
  refine ret_1 (.inl rfl) (vb false) rfl rfl ?_
  refine ⟨m32.keep0, ?_⟩
  have hF56 : F_laws_eqEp x_a x_b = false := by simp only [F_laws_eqEp, h34, cond_true, cond_false]
  rw [hF56]
  exact rfl
 have q35 := of_decide_eq_true h34
 refine cf (congrArg not h34) ?_
 refine wc_skip <| wq_then <| wc_seq <| sr ?_
 refine pu (vp g21 1) wN ?_
 refine ld (vs a1 x_a.Key.length c2) wN isAgg_22 b33 ?_
 refine pu (vp g27 1) wN ?_
 refine ld (vs a11 x_b.Key.length c12) wN isAgg_22 b31 ?_
 refine cl wN (C_laws_eqByteS w2 _ x_a.Key (mR_22 (r3.from0 m32) s4) _ x_b.Key (mR_22 (r13.from0 m32) s14)) ?_
 rintro _ w3 ⟨k36, rfl⟩
 have m37 := m32.extk k36
 refine pu (vb (!(eqB x_a.Key x_b.Key))) wN ?_
 refine wl_nil <| wq_then ?_
 rcases bf (eqB x_a.Key x_b.Key) with h38 | h38
 ·refine ct (congrArg not h38) ?_
  refine sr ?_
  refine ag (vb false) wN ?_
  refine wl_nil <| wq_then <| wc_ret <| wq_then_ret ?_
  refine ret_1 (.inl rfl) (vb false) rfl rfl ?_
  refine ⟨m37.keep0, ?_⟩
  have hF54 : F_laws_eqEp x_a x_b = false := by simp only [F_laws_eqEp, h34, h38, cond_true, cond_false]
  rw [hF54]
  exact rfl
 refine cf (congrArg not h38) ?_
 refine wc_skip <| wq_then <| wc_seq <| sr ?_
 refine pu (vp g21 2) wN ?_
 have b40 := (b33.kp k36)
 refine ld (vi x_a.Seq) wN isAgg_3 b40 ?_
 refine pu (vp g27 2) wN ?_
 have b41 := (b31.kp k36)
 refine ld (vi x_b.Seq) wN isAgg_3 b41 ?_
 refine pu (vb (!(decide (x_a.Seq = x_b.Seq)))) wN ?_
 refine wl_nil <| wq_then ?_
 rcases bf (decide (x_a.Seq = x_b.Seq)) with h42 | h42
 ·have q51 := of_decide_eq_false h42
  refine ct (congrArg not h42) ?_
  refine sr ?_
  refine ag (vb false) wN ?_
  refine wl_nil <| wq_then <| wc_ret <| wq_then_ret ?_
  refine ret_1 (.inl rfl) (vb false) rfl rfl ?_
  refine ⟨m37.keep0, ?_⟩
  have hF52 : F_laws_eqEp x_a x_b = false := by simp only [F_laws_eqEp, h34, h38, h42, cond_true, cond_false]
  rw [hF52]
  exact rfl
 have q43 := of_decide_eq_true h42
 refine cf (congrArg not h42) ?_
 refine wc_skip <| wq_then <| wc_seq <| sr ?_
 refine pu (vp g21 3) wN ?_
 refine lN (L_90 x_a.Win a6 c7) wN isAgg_90 sizeOf_90 b40 ?_
 refine pu (vp g27 3) wN ?_
 refine lN (L_90 x_b.Win a16 c17) wN isAgg_90 sizeOf_90 b41 ?_
 refine cl wN (C_laws_eqWin w3 _ x_a.Win (mR_90 (r8.from0 m37) s9) _ x_b.Win (mR_90 (r18.from0 m37) s19)) ?_
 rintro _ w4 ⟨k44, rfl⟩
 have m45 := m37.extk k44
 refine pu (vb (!(F_laws_eqWin x_a.Win x_b.Win))) wN ?_
 refine wl_nil <| wq_then ?_
 rcases bf (F_laws_eqWin x_a.Win x_b.Win) with h46 | h46
 ·refine ct (congrArg not h46) ?_
  refine sr ?_
  refine ag (vb false) wN ?_
  refine wl_nil <| wq_then <| wc_ret <| wq_then_ret ?_
  refine ret_1 (.inl rfl) (vb false) rfl rfl ?_
  refine ⟨m45.keep0, ?_⟩
  have hF50 : F_laws_eqEp x_a x_b = false := by simp only [F_laws_eqEp, h34, h38, h42, h46, cond_true, cond_false]
  rw [hF50]
  exact rfl
 refine cf (congrArg not h46) ?_
 refine wc_skip <| wq_then <| sr ?_
 refine ag (vb true) wN ?_
 refine wl_nil <| wq_then <| wc_ret ?_
 refine ret_1 (.inl rfl) (vb true) rfl rfl ?_
 refine ⟨m45.keep0, ?_⟩
 have hF48 : F_laws_eqEp x_a x_b = true := by simp only [F_laws_eqEp, h34, h38, h42, h46, cond_true, cond_false]
 rw [hF48]
 exact rfl

def F_laws_eqChan (x_a : PChan) (x_b : PChan) : (Bool) := bif (decide (x_a.Role = x_b.Role)) then (bif (eqB x_a.Sn x_b.Sn) then (bif (F_laws_eqEp x_a.Cur x_b.Cur) then (bif (F_laws_eqEp x_a.Old x_b.Old) then (bif (x_a.HasOld == x_b.HasOld) then (bif (decide (x_a.Until = x_b.Until)) then (bif (eqB x_a.Next x_b.Next) then (true) else (false)) else (false)) else (false)) else (false)) else (false)) else (false)) else (false)
theorem C_laws_eqChan (w0 : World) (v_x_a : Value) (x_a : PChan) (r_x_a : R_94 w0 v_x_a x_a) (v_x_b : Value) (x_b : PChan) (r_x_b : R_94 w0 v_x_b x_b)  : Fn Try.prog 119 #[v_x_a, v_x_b] w0 (fun v w' => Keep w0 w' ∧ O_4 w' w0.heap.size v (F_laws_eqChan x_a x_b)) := by
 obtain ⟨a1, c2, a6, c7, a11, c12, a16, c17, a21, c22, a26, c27, rfl, r3, s4, r8, s9, r13, s14, r18, s19, r23, s24, r28, s29⟩ := r_x_a
 obtain ⟨a31, c32, a36, c37, a41, c42, a46, c47, a51, c52, a56, c57, rfl, r33, s34, r38, s39, r43, s44, r48, s49, r53, s54, r58, s59⟩ := r_x_b
 refine fn_of (n := 44) (l := [(va (L_94 x_a a1 c2 a6 c7 a11 c12 a16 c17 a21 c22 a26 c27)), (va (L_94 x_b a31 c32 a36 c37 a41 c42 a46 c47 a51 c52 a56 c57)), U, U, U, U, U, U, U, U, U, U, U, U, U, U, U, U, U, U, U, U, U, U, U, U, U, U, U, U, U, U, U, U, U, U, U, U, U, U, U, U, U, U]) Try.func119 rfl rfl (by kernel_rfl) rfl ?_
 refine sr ?_
 refine bx (L_94 x_a a1 c2 a6 c7 a11 c12 a16 c17 a21 c22 a26 c27) wN ?_
 intro g61 w1 p62 p63 k64 b65
 have m66 := (Ch.base w0).extk k64
 refine bx (L_94 x_b a31 c32 a36 c37 a41 c42 a46 c47 a51 c52 a56 c57) wN ?_
 intro g67 w2 p68 p69 k70 b71
 have m72 := m66.extk k70
 refine ag (vb false) wN ?_
 refine wl_nil <| wq_then <| wc_seq <| sr ?_
 refine pu (vp g61 0) wN ?_
 have b73 := (b65.kp k70)
 refine ld (vi x_a.Role) wN isAgg_3 b73 ?_
 refine pu (vp g67 0) wN ?_
 refine ld (vi x_b.Role) wN isAgg_3 b71 ?_
 refine pu (vb (!(decide (x_a.Role = x_b.Role)))) wN ?_
 refine wl_nil <| wq_then ?_
 rcases bf (decide (x_a.Role = x_b.Role)) with h74 | h74
 ·have q115 := of_decide_eq_false h74
  refine ct (congrArg not h74) ?_
  refine sr ?_
  refine ag (vb false) wN ?_
  refine wl_nil <| wq_then <| wc_ret <| wq_then_ret ?_
  refine ret_1 (.inl rfl) (vb false) rfl rfl ?_
  refine ⟨m72.keep0, ?_⟩
  have hF116 : F_laws_eqChan x_a x_b = false := by simp only [F_laws_eqChan, h74, cond_true, cond_false]
  rw [hF116]
  exact rfl
 have q75 := of_decide_eq_true h74
 refine cf (congrArg not h74) ?_
 refine wc_skip <| wq_then <| wc_seq <| sr ?_
 refine pu (vp g61 1) wN ?_
 refine ld (vs a1 x_a.Sn.length c2) wN isAgg_22 b73 ?_
 refine pu (vp g67 1) wN ?_
 refine ld (vs a31 x_b.Sn.length c32) wN isAgg_22 b71 ?_
 refine cl wN (C_laws_eqByteS w2 _ x_a.Sn (mR_22 (r3.from0 m72) s4) _ x_b.Sn (mR_22 (r33.from0 m72) s34)) ?_
 rintro _ w3 ⟨k76, rfl⟩
 have m77 := m72.extk k76
 refine pu (vb (!(eqB x_a.Sn x_b.Sn))) wN ?_
 refine wl_nil <| wq_then ?_
 rcases bf (eqB x_a.Sn x_b.Sn) with h78 | h78
 ·refine ct (congrArg not h78) ?_
  refine sr ?_
  refine ag (vb false) wN ?_
  refine wl_nil <| wq_then <| wc_ret <| wq_then_ret ?_
  refine ret_1 (.inl rfl) (vb false) rfl rfl ?_
  refine ⟨m77.keep0, ?_⟩
  have hF114 : F_laws_eqChan x_a x_b = false := by simp only [F_laws_eqChan, h74, h78, cond_true, cond_false]
  rw [hF114]
  exact rfl
 refine cf (congrArg not h78) ?_
 refine wc_skip <| wq_then <| wc_seq <| sr ?_
 refine pu (vp g61 2) wN ?_
 have b80 := (b73.kp k76)
 refine lN (L_92 x_a.Cur a6 c7 a11 c12) wN isAgg_92 sizeOf_92 b80 ?_
 refine pu (vp g67 2) wN ?_
 have b81 := (b71.kp k76)
 refine lN (L_92 x_b.Cur a36 c37 a41 c42) wN isAgg_92 sizeOf_92 b81 ?_
 refine cl wN (C_laws_eqEp w3 _ x_a.Cur (mR_92 (r8.from0 m77) s9 (r13.from0 m77) s14) _ x_b.Cur (mR_92 (r38.from0 m77) s39 (r43.from0 m77) s44)) ?_
 rintro _ w4 ⟨k82, rfl⟩
 have m83 := m77.extk k82
 refine pu (vb (!(F_laws_eqEp x_a.Cur x_b.Cur))) wN ?_
 refine wl_nil <| wq_then ?_
 rcases bf (F_laws_eqEp x_a.Cur x_b.Cur) with h84 | h84
 ·refine ct (congrArg not h84) ?_
  refine sr ?_
  refine ag (vb false) wN ?_
  refine wl_nil <| wq_then <| wc_ret <| wq_then_ret ?_
  refine ret_1 (.inl rfl) (vb false) rfl rfl ?_
  refine ⟨m83.keep0, ?_⟩
  have hF112 : F_laws_eqChan x_a x_b = false := by simp only [F_laws_eqChan, h74, h78, h84, cond_true, cond_false]
  rw [hF112]
  exact rfl
 refine cf (congrArg not h84) ?_
 refine wc_skip <| wq_then <| wc_seq <| sr ?_
 refine pu (vp g61 7) wN ?_
 have b86 := (b80.kp k82)
 refine lN (L_92 x_a.Old a16 c17 a21 c22) wN isAgg_92 sizeOf_92 b86 ?_
 refine pu (vp g67 7) wN ?_
 have b87 := (b81.kp k82)
 refine lN (L_92 x_b.Old a46 c47 a51 c52) wN isAgg_92 sizeOf_92 b87 ?_
 refine cl wN (C_laws_eqEp w4 _ x_a.Old (mR_92 (r18.from0 m83) s19 (r23.from0 m83) s24) _ x_b.Old (mR_92 (r48.from0 m83) s49 (r53.from0 m83) s54)) ?_
 rintro _ w5 ⟨k88, rfl⟩
 have m89 := m83.extk k88
 refine pu (vb (!(F_laws_eqEp x_a.Old x_b.Old))) wN ?_
 refine wl_nil <| wq_then ?_
 rcases bf (F_laws_eqEp x_a.Old x_b.Old) with h90 | h90
 ·refine ct (congrArg not h90) ?_
  refine sr ?_
  refine ag (vb false) wN ?_
  refine wl_nil <| wq_then <| wc_ret <| wq_then_ret ?_
  refine ret_1 (.inl rfl) (vb false) rfl rfl ?_
  refine ⟨m89.keep0, ?_⟩
  have hF110 : F_laws_eqChan x_a x_b = false := by simp only [F_laws_eqChan, h74, h78, h84, h90, cond_true, cond_false]
  rw [hF110]
  exact rfl
 refine cf (congrArg not h90) ?_
 refine wc_skip <| wq_then <| wc_seq <| sr ?_
 refine pu (vp g61 12) wN ?_
 have b92 := (b86.kp k88)
 refine ld (vb x_a.HasOld) wN isAgg_4 b92 ?_
 refine pu (vp g67 12) wN ?_
 have b93 := (b87.kp k88)
 refine ld (vb x_b.HasOld) wN isAgg_4 b93 ?_
 refine pu (vb (!(x_a.HasOld == x_b.HasOld))) wN ?_
 refine wl_nil <| wq_then ?_
 rcases bf (x_a.HasOld == x_b.HasOld) with h94 | h94
 ·refine ct (congrArg not h94) ?_
  refine sr ?_
  refine ag (vb false) wN ?_
  refine wl_nil <| wq_then <| wc_ret <| wq_then_ret ?_
  refine ret_1 (.inl rfl) (vb false) rfl rfl ?_
  refine ⟨m89.keep0, ?_⟩
  have hF108 : F_laws_eqChan x_a x_b = false := by simp only [F_laws_eqChan, h74, h78, h84, h90, h94, cond_true, cond_false]
  rw [hF108]
  exact rfl
 refine cf (congrArg not h94) ?_
 refine wc_skip <| wq_then <| wc_seq <| sr ?_
 refine pu (vp g61 13) wN ?_
 refine ld (vi x_a.Until) wN isAgg_3 b92 ?_
 refine pu (vp g67 13) wN ?_
 refine ld (vi x_b.Until) wN isAgg_3 b93 ?_
 refine pu (vb (!(decide (x_a.Until = x_b.Until)))) wN ?_
 refine wl_nil <| wq_then ?_
 rcases bf (decide (x_a.Until = x_b.Until)) with h96 | h96
 ·have q105 := of_decide_eq_false h96
  refine ct (congrArg not h96) ?_
  refine sr ?_
  refine ag (vb false) wN ?_
  refine wl_nil <| wq_then <| wc_ret <| wq_then_ret ?_
  refine ret_1 (.inl rfl) (vb false) rfl rfl ?_
  refine ⟨m89.keep0, ?_⟩
  have hF106 : F_laws_eqChan x_a x_b = false := by simp only [F_laws_eqChan, h74, h78, h84, h90, h94, h96, cond_true, cond_false]
  rw [hF106]
  exact rfl
 have q97 := of_decide_eq_true h96
 refine cf (congrArg not h96) ?_
 refine wc_skip <| wq_then <| wc_seq <| sr ?_
 refine pu (vp g61 14) wN ?_
 refine ld (vs a26 x_a.Next.length c27) wN isAgg_22 b92 ?_
 refine pu (vp g67 14) wN ?_
 refine ld (vs a56 x_b.Next.length c57) wN isAgg_22 b93 ?_
 refine cl wN (C_laws_eqByteS w5 _ x_a.Next (mR_22 (r28.from0 m89) s29) _ x_b.Next (mR_22 (r58.from0 m89) s59)) ?_
 rintro _ w6 ⟨k98, rfl⟩
 have m99 := m89.extk k98
 refine pu (vb (!(eqB x_a.Next x_b.Next))) wN ?_
 refine wl_nil <| wq_then ?_
 rcases bf (eqB x_a.Next x_b.Next) with h100 | h100
 ·refine ct (congrArg not h100) ?_
  refine sr ?_
  refine ag (vb false) wN ?_
  refine wl_nil <| wq_then <| wc_ret <| wq_then_ret ?_
  refine ret_1 (.inl rfl) (vb false) rfl rfl ?_
  refine ⟨m99.keep0, ?_⟩
  have hF104 : F_laws_eqChan x_a x_b = false := by simp only [F_laws_eqChan, h74, h78, h84, h90, h94, h96, h100, cond_true, cond_false]
  rw [hF104]
  exact rfl
 refine cf (congrArg not h100) ?_
 refine wc_skip <| wq_then <| sr ?_
 refine ag (vb true) wN ?_
 refine wl_nil <| wq_then <| wc_ret ?_
 refine ret_1 (.inl rfl) (vb true) rfl rfl ?_
 refine ⟨m99.keep0, ?_⟩
 have hF102 : F_laws_eqChan x_a x_b = true := by simp only [F_laws_eqChan, h74, h78, h84, h90, h94, h96, h100, cond_true, cond_false]
 rw [hF102]
 exact rfl

def F_laws_eqTimer (x_a : PTimer) (x_b : PTimer) : (Bool) := bif (x_a.On == x_b.On) then (bif (decide (x_a.Due = x_b.Due)) then (bif (decide (x_a.Wait = x_b.Wait)) then (bif (decide (x_a.Tries = x_b.Tries)) then (true) else (false)) else (false)) else (false)) else (false)
theorem C_laws_eqTimer (w0 : World) (v_x_a : Value) (x_a : PTimer) (r_x_a : R_96 w0 v_x_a x_a) (v_x_b : Value) (x_b : PTimer) (r_x_b : R_96 w0 v_x_b x_b)  : Fn Try.prog 120 #[v_x_a, v_x_b] w0 (fun v w' => Keep w0 w' ∧ O_4 w' w0.heap.size v (F_laws_eqTimer x_a x_b)) := by
 obtain rfl := r_x_a
 obtain rfl := r_x_b
 refine fn_of (n := 25) (l := [(va (L_96 x_a)), (va (L_96 x_b)), U, U, U, U, U, U, U, U, U, U, U, U, U, U, U, U, U, U, U, U, U, U, U]) Try.func120 rfl rfl (by kernel_rfl) rfl ?_
 refine sr ?_
 refine bx (L_96 x_a) wN ?_
 intro g1 w1 p2 p3 k4 b5
 have m6 := (Ch.base w0).extk k4
 refine bx (L_96 x_b) wN ?_
 intro g7 w2 p8 p9 k10 b11
 have m12 := m6.extk k10
 refine ag (vb false) wN ?_
 refine wl_nil <| wq_then <| wc_seq <| sr ?_
 refine pu (vp g1 0) wN ?_
 have b13 := (b5.kp k10)
 refine ld (vb x_a.On) wN isAgg_4 b13 ?_
 refine pu (vp g7 0) wN ?_
 refine ld (vb x_b.On) wN isAgg_4 b11 ?_
 refine pu (vb (!(x_a.On == x_b.On))) wN ?_
 refine wl_nil <| wq_then ?_
 rcases bf (x_a.On == x_b.On) with h14 | h14
 ·refine ct (congrArg not h14) ?_
  refine sr ?_
  refine ag (vb false) wN ?_
  refine wl_nil <| wq_then <| wc_ret <| wq_then_ret ?_
  refine ret_1 (.inl rfl) (vb false) rfl rfl ?_
  refine ⟨m12.keep0, ?_⟩
  have hF30 : F_laws_eqTimer x_a x_b = false := by simp only [F_laws_eqTimer, h14, cond_true, cond_false]
  rw [hF30]
  exact rfl
 refine cf (congrArg not h14) ?_
 refine wc_skip <| wq_then <| wc_seq <| sr ?_
 refine pu (vp g1 1) wN ?_
 refine ld (vi x_a.Due) wN isAgg_3 b13 ?_
 refine pu (vp g7 1) wN ?_
 refine ld (vi x_b.Due) wN isAgg_3 b11 ?_
 refine pu (vb (!(decide (x_a.Due = x_b.Due)))) wN ?_
 refine wl_nil <| wq_then ?_
 rcases bf (decide (x_a.Due = x_b.Due)) with h16 | h16
 ·have q27 := of_decide_eq_false h16
  refine ct (congrArg not h16) ?_
  refine sr ?_
  refine ag (vb false) wN ?_
  refine wl_nil <| wq_then <| wc_ret <| wq_then_ret ?_
  refine ret_1 (.inl rfl) (vb false) rfl rfl ?_
  refine ⟨m12.keep0, ?_⟩
  have hF28 : F_laws_eqTimer x_a x_b = false := by simp only [F_laws_eqTimer, h14, h16, cond_true, cond_false]
  rw [hF28]
  exact rfl
 have q17 := of_decide_eq_true h16
 refine cf (congrArg not h16) ?_
 refine wc_skip <| wq_then <| wc_seq <| sr ?_
 refine pu (vp g1 2) wN ?_
 refine ld (vi x_a.Wait) wN isAgg_3 b13 ?_
 refine pu (vp g7 2) wN ?_
 refine ld (vi x_b.Wait) wN isAgg_3 b11 ?_
 refine pu (vb (!(decide (x_a.Wait = x_b.Wait)))) wN ?_
 refine wl_nil <| wq_then ?_
 rcases bf (decide (x_a.Wait = x_b.Wait)) with h18 | h18
 ·have q25 := of_decide_eq_false h18
  refine ct (congrArg not h18) ?_
  refine sr ?_
  refine ag (vb false) wN ?_
  refine wl_nil <| wq_then <| wc_ret <| wq_then_ret ?_
  refine ret_1 (.inl rfl) (vb false) rfl rfl ?_
  refine ⟨m12.keep0, ?_⟩
  have hF26 : F_laws_eqTimer x_a x_b = false := by simp only [F_laws_eqTimer, h14, h16, h18, cond_true, cond_false]
  rw [hF26]
  exact rfl
 have q19 := of_decide_eq_true h18
 refine cf (congrArg not h18) ?_
 refine wc_skip <| wq_then <| wc_seq <| sr ?_
 refine pu (vp g1 3) wN ?_
 refine ld (vi x_a.Tries) wN isAgg_3 b13 ?_
 refine pu (vp g7 3) wN ?_
 refine ld (vi x_b.Tries) wN isAgg_3 b11 ?_
 refine pu (vb (!(decide (x_a.Tries = x_b.Tries)))) wN ?_
 refine wl_nil <| wq_then ?_
 rcases bf (decide (x_a.Tries = x_b.Tries)) with h20 | h20
 ·have q23 := of_decide_eq_false h20
  refine ct (congrArg not h20) ?_
  refine sr ?_
  refine ag (vb false) wN ?_
  refine wl_nil <| wq_then <| wc_ret <| wq_then_ret ?_
  refine ret_1 (.inl rfl) (vb false) rfl rfl ?_
  refine ⟨m12.keep0, ?_⟩
  have hF24 : F_laws_eqTimer x_a x_b = false := by simp only [F_laws_eqTimer, h14, h16, h18, h20, cond_true, cond_false]
  rw [hF24]
  exact rfl
 have q21 := of_decide_eq_true h20
 refine cf (congrArg not h20) ?_
 refine wc_skip <| wq_then <| sr ?_
 refine ag (vb true) wN ?_
 refine wl_nil <| wq_then <| wc_ret ?_
 refine ret_1 (.inl rfl) (vb true) rfl rfl ?_
 refine ⟨m12.keep0, ?_⟩
 have hF22 : F_laws_eqTimer x_a x_b = true := by simp only [F_laws_eqTimer, h14, h16, h18, h20, cond_true, cond_false]
 rw [hF22]
 exact rfl

def F_laws_eqClient (x_a : PClient) (x_b : PClient) : (Bool) := bif (decide (x_a.Id = x_b.Id)) then (bif (eqB x_a.Psk x_b.Psk) then (bif (F_laws_eqAddr x_a.At x_b.At) then (bif (decide (x_a.St = x_b.St)) then (bif (eqB x_a.Cn x_b.Cn) then (bif (F_laws_eqFrame x_a.Fin x_b.Fin) then (bif (F_laws_eqChan x_a.C x_b.C) then (bif (F_laws_eqTimer x_a.T x_b.T) then (bif (F_laws_eqTimer x_a.R x_b.R) then (bif (decide (x_a.Last = x_b.Last)) then (true) else (false)) else (false)) else (false)) else (false)) else (false)) else (false)) else (false)) else (false)) else (false)) else (false)
theorem C_laws_eqClient (w0 : World) (v_x_a : Value) (x_a : PClient) (r_x_a : R_98 w0 v_x_a x_a) (v_x_b : Value) (x_b : PClient) (r_x_b : R_98 w0 v_x_b x_b)  : Fn Try.prog 66 #[v_x_a, v_x_b] w0 (fun v w' => Keep w0 w' ∧ O_4 w' w0.heap.size v (F_laws_eqClient x_a x_b)) := by
 obtain ⟨a1, c2, a6, c7, a11, c12, a16, c17, a21, c22, a26, c27, a31, c32, a36, c37, a41, c42, a46, c47, a51, c52, a56, c57, a61, c62, a66, c67, rfl, r3, s4, r8, s9, r13, s14, r18, s19, r23, s24, r28, s29, r33, s34, r38, s39, r43, s44, r48, s49, r53, s54, r58, s59, r63, s64, r68, s69⟩ := r_x_a
 obtain ⟨a71, c72, a76, c77, a81, c82, a86, c87, a91, c92, a96, c97, a101, c102, a106, c107, a111, c112, a116, c117, a121, c122, a126, c127, a131, c132, a136, c137, rfl, r73, s74, r78, s79, r83, s84, r88, s89, r93, s94, r98, s99, r103, s104, r108, s109, r113, s114, r118, s119, r123, s124, r128, s129, r133, s134, r138, s139⟩ := r_x_b
 refine fn_of (n := 62) (l := [(va (L_98 x_a a1 c2 a6 c7 a11 c12 a16 c17 a21 c22 a26 c27 a31 c32 a36 c37 a41 c42 a46 c47 a51 c52 a56 c57 a61 c62 a66 c67)), (va (L_98 x_b a71 c72 a76 c77 a81 c82 a86 c87 a91 c92 a96 c97 a101 c102 a106 c107 a111 c112 a116 c117 a121 c122 a126 c127 a131 c132 a136 c137)), U, U, U, U, U, U, U, U, U, U, U, U, U, U, U, U, U, U, U, U, U, U, U, U, U, U, U, U, U, U, U, U, U, U, U, U, U, U, U, U, U, U, U, U, U, U, U, U, U, U, U, U, U, U, U, U, U, U, U, U]) Try.func66 rfl rfl (by kernel_rfl) rfl ?_
 refine sr ?_
 refine bx (L_98 x_a a1 c2 a6 c7 a11 c12 a16 c17 a21 c22 a26 c27 a31 c32 a36 c37 a41 c42 a46 c47 a51 c52 a56 c57 a61 c62 a66 c67) wN ?_
 intro g141 w1 p142 p143 k144 b145
 have m146 := (Ch.base w0).extk k144
 refine bx (L_98 x_b a71 c72 a76 c77 a81 c82 a86 c87 a91 c92 a96 c97 a101 c102 a106 c107 a111 c112 a116 c117 a121 c122 a126 c127 a131 c132 a136 c137) wN ?_
 intro g147 w2 p148 p149 k150 b151
 have m152 := m146.extk k150
 refine ag (vb false) wN ?_
 refine wl_nil <| wq_then <| wc_seq <| sr ?_
 refine pu (vp g141 0) wN ?_
 have b153 := (b145.kp k150)
 refine ld (vi x_a.Id) wN isAgg_3 b153 ?_
 refine pu (vp g147 0) wN ?_
 refine ld (vi x_b.Id) wN isAgg_3 b151 ?_
 refine pu (vb (!(decide (x_a.Id = x_b.Id)))) wN ?_
 refine wl_nil <| wq_then ?_
 rcases bf (decide (x_a.Id = x_b.Id)) with h154 | h154
 ·have q221 := of_decide_eq_false h154
  refine ct (congrArg not h154) ?_
  refine sr ?_
  refine ag (vb false) wN ?_
  refine wl_nil <| wq_then <| wc_ret <| wq_then_ret ?_
  refine ret_1 (.inl rfl) (vb false) rfl rfl ?_
  refine ⟨m152.keep0, ?_⟩
  have hF222 : F_laws_eqClient x_a x_b = false := by simp only [F_laws_eqClient, h154, cond_true, cond_false]
  rw [hF222]
  exact rfl
 have q155 := of_decide_eq_true h154
 refine cf (congrArg not h154) ?_
 refine wc_skip <| wq_then <| wc_seq <| sr ?_
 refine pu (vp g141 1) wN ?_
 refine ld (vs a1 x_a.Psk.length c2) wN isAgg_22 b153 ?_
 refine pu (vp g147 1) wN ?_
 refine ld (vs a71 x_b.Psk.length c72) wN isAgg_22 b151 ?_
 refine cl wN (C_laws_eqByteS w2 _ x_a.Psk (mR_22 (r3.from0 m152) s4) _ x_b.Psk (mR_22 (r73.from0 m152) s74)) ?_
 rintro _ w3 ⟨k156, rfl⟩
 have m157 := m152.extk k156
 refine pu (vb (!(eqB x_a.Psk x_b.Psk))) wN ?_
 refine wl_nil <| wq_then ?_
 rcases bf (eqB x_a.Psk x_b.Psk) with h158 | h158
 ·refine ct (congrArg not h158) ?_
  refine sr ?_
  refine ag (vb false) wN ?_
  refine wl_nil <| wq_then <| wc_ret <| wq_then_ret ?_
  refine ret_1 (.inl rfl) (vb false) rfl rfl ?_
  refine ⟨m157.keep0, ?_⟩
  have hF220 : F_laws_eqClient x_a x_b = false := by simp only [F_laws_eqClient, h154, h158, cond_true, cond_false]
  rw [hF220]
  exact rfl
 refine cf (congrArg not h158) ?_
 refine wc_skip <| wq_then <| wc_seq <| sr ?_
 refine pu (vp g141 2) wN ?_
 have b160 := (b153.kp k156)
 refine lN (L_26 x_a.At) wN isAgg_26 sizeOf_26 b160 ?_
 refine pu (vp g147 2) wN ?_
 have b161 := (b151.kp k156)
 refine lN (L_26 x_b.At) wN isAgg_26 sizeOf_26 b161 ?_
 refine cl wN (C_laws_eqAddr w3 _ x_a.At (mR_26) _ x_b.At (mR_26)) ?_
 rintro _ w4 ⟨k162, rfl⟩
 have m163 := m157.extk k162
 refine pu (vb (!(F_laws_eqAddr x_a.At x_b.At))) wN ?_
 refine wl_nil <| wq_then ?_
 rcases bf (F_laws_eqAddr x_a.At x_b.At) with h164 | h164
 ·refine ct (congrArg not h164) ?_
  refine sr ?_
  refine ag (vb false) wN ?_
  refine wl_nil <| wq_then <| wc_ret <| wq_then_ret ?_
  refine ret_1 (.inl rfl) (vb false) rfl rfl ?_
  refine ⟨m163.keep0, ?_⟩
  have hF218 : F_laws_eqClient x_a x_b = false := by simp only [F_laws_eqClient, h154, h158, h164, cond_true, cond_false]
  rw [hF218]
  exact rfl
 refine cf (congrArg not h164) ?_
 refine wc_skip <| wq_then <| wc_seq <| sr ?_
 refine pu (vp g141 4) wN ?_
 have b166 := (b160.kp k162)
 refine ld (vi x_a.St) wN isAgg_3 b166 ?_
 refine pu (vp g147 4) wN ?_
 have b167 := (b161.kp k162)
 refine ld (vi x_b.St) wN isAgg_3 b167 ?_
 refine pu (vb (!(decide (x_a.St = x_b.St)))) wN ?_
 refine wl_nil <| wq_then ?_
 rcases bf (decide (x_a.St = x_b.St)) with h168 | h168
 ·have q215 := of_decide_eq_false h168
  refine ct (congrArg not h168) ?_
  refine sr ?_
  refine ag (vb false) wN ?_
  refine wl_nil <| wq_then <| wc_ret <| wq_then_ret ?_
  refine ret_1 (.inl rfl) (vb false) rfl rfl ?_
  refine ⟨m163.keep0, ?_⟩
  have hF216 : F_laws_eqClient x_a x_b = false := by simp only [F_laws_eqClient, h154, h158, h164, h168, cond_true, cond_false]
  rw [hF216]
  exact rfl
 have q169 := of_decide_eq_true h168
 refine cf (congrArg not h168) ?_
 refine wc_skip <| wq_then <| wc_seq <| sr ?_
 refine pu (vp g141 5) wN ?_
 refine ld (vs a6 x_a.Cn.length c7) wN isAgg_22 b166 ?_
 refine pu (vp g147 5) wN ?_
 refine ld (vs a76 x_b.Cn.length c77) wN isAgg_22 b167 ?_
 refine cl wN (C_laws_eqByteS w4 _ x_a.Cn (mR_22 (r8.from0 m163) s9) _ x_b.Cn (mR_22 (r78.from0 m163) s79)) ?_
 rintro _ w5 ⟨k170, rfl⟩
 have m171 := m163.extk k170
 refine pu (vb (!(eqB x_a.Cn x_b.Cn))) wN ?_
 refine wl_nil <| wq_then ?_
 rcases bf (eqB x_a.Cn x_b.Cn) with h172 | h172
 ·refine ct (congrArg not h172) ?_
  refine sr ?_
  refine ag (vb false) wN ?_
  refine wl_nil <| wq_then <| wc_ret <| wq_then_ret ?_
  refine ret_1 (.inl rfl) (vb false) rfl rfl ?_
  refine ⟨m171.keep0, ?_⟩
  have hF214 : F_laws_eqClient x_a x_b = false := by simp only [F_laws_eqClient, h154, h158, h164, h168, h172, cond_true, cond_false]
  rw [hF214]
  exact rfl
 refine cf (congrArg not h172) ?_
 refine wc_skip <| wq_then <| wc_seq <| sr ?_
 refine pu (vp g141 6) wN ?_
 have b174 := (b166.kp k170)
 refine lN (L_87 x_a.Fin a11 c12 a16 c17 a21 c22 a26 c27 a31 c32 a36 c37) wN isAgg_87 sizeOf_87 b174 ?_
 refine pu (vp g147 6) wN ?_
 have b175 := (b167.kp k170)
 refine lN (L_87 x_b.Fin a81 c82 a86 c87 a91 c92 a96 c97 a101 c102 a106 c107) wN isAgg_87 sizeOf_87 b175 ?_
 refine cl wN (C_laws_eqFrame w5 _ x_a.Fin (mR_87 (r13.from0 m171) s14 (r18.from0 m171) s19 (r23.from0 m171) s24 (r28.from0 m171) s29 (r33.from0 m171) s34 (r38.from0 m171) s39) _ x_b.Fin (mR_87 (r83.from0 m171) s84 (r88.from0 m171) s89 (r93.from0 m171) s94 (r98.from0 m171) s99 (r103.from0 m171) s104 (r108.from0 m171) s109)) ?_
 rintro _ w6 ⟨k176, rfl⟩
 have m177 := m171.extk k176
 refine pu (vb (!(F_laws_eqFrame x_a.Fin x_b.Fin))) wN ?_
 refine wl_nil <| wq_then ?_
 rcases bf (F_laws_eqFrame x_a.Fin x_b.Fin) with h178 | h178
 ·refine ct (congrArg not h178) ?_
  refine sr ?_
  refine ag (vb false) wN ?_
  refine wl_nil <| wq_then <| wc_ret <| wq_then_ret ?_
  refine ret_1 (.inl rfl) (vb false) rfl rfl ?_
  refine ⟨m177.keep0, ?_⟩
  have hF212 : F_laws_eqClient x_a x_b = false := by simp only [F_laws_eqClient, h154, h158, h164, h168, h172, h178, cond_true, cond_false]
  rw [hF212]
  exact rfl
 refine cf (congrArg not h178) ?_
 refine wc_skip <| wq_then <| wc_seq <| sr ?_
 refine pu (vp g141 17) wN ?_
 have b180 := (b174.kp k176)
 refine lN (L_94 x_a.C a41 c42 a46 c47 a51 c52 a56 c57 a61 c62 a66 c67) wN isAgg_94 sizeOf_94 b180 ?_
 refine pu (vp g147 17) wN ?_
 have b181 := (b175.kp k176)
 refine lN (L_94 x_b.C a111 c112 a116 c117 a121 c122 a126 c127 a131 c132 a136 c137) wN isAgg_94 sizeOf_94 b181 ?_
 refine cl wN (C_laws_eqChan w6 _ x_a.C (mR_94 (r43.from0 m177) s44 (r48.from0 m177) s49 (r53.from0 m177) s54 (r58.from0 m177) s59 (r63.from0 m177) s64 (r68.from0 m177) s69) _ x_b.C (mR_94 (r113.from0 m177) s114 (r118.from0 m177) s119 (r123.from0 m177) s124 (r128.from0 m177) s129 (r133.from0 m177) s134 (r138.from0 m177) s139)) ?_
 rintro _ w7 ⟨k182, rfl⟩
 have m183 := m177.extk k182
 refine pu (vb (!(F_laws_eqChan x_a.C x_b.C))) wN ?_
 refine wl_nil <| wq_then ?_
 rcases bf (F_laws_eqChan x_a.C x_b.C) with h184 | h184
 ·refine ct (congrArg not h184) ?_
  refine sr ?_
  refine ag (vb false) wN ?_
  refine wl_nil <| wq_then <| wc_ret <| wq_then_ret ?_
  refine ret_1 (.inl rfl) (vb false) rfl rfl ?_
  refine ⟨m183.keep0, ?_⟩
  have hF210 : F_laws_eqClient x_a x_b = false := by simp only [F_laws_eqClient, h154, h158, h164, h168, h172, h178, h184, cond_true, cond_false]
  rw [hF210]
  exact rfl
 refine cf (congrArg not h184) ?_
 refine wc_skip <| wq_then <| wc_seq <| sr ?_
 refine pu (vp g141 32) wN ?_
 have b186 := (b180.kp k182)
 refine lN (L_96 x_a.T) wN isAgg_96 sizeOf_96 b186 ?_
 refine pu (vp g147 32) wN ?_
 have b187 := (b181.kp k182)
 refine lN (L_96 x_b.T) wN isAgg_96 sizeOf_96 b187 ?_
 refine cl wN (C_laws_eqTimer w7 _ x_a.T (mR_96) _ x_b.T (mR_96)) ?_
 rintro _ w8 ⟨k188, rfl⟩
 have m189 := m183.extk k188
 refine pu (vb (!(F_laws_eqTimer x_a.T x_b.T))) wN ?_
 refine wl_nil <| wq_then ?_
 rcases bf (F_laws_eqTimer x_a.T x_b.T) with h190 | h190
 ·refine ct (congrArg not h190) ?_
  refine sr ?_
  refine ag (vb false) wN ?_
  refine wl_nil <| wq_then <| wc_ret <| wq_then_ret ?_
  refine ret_1 (.inl rfl) (vb false) rfl rfl ?_
  refine ⟨m189.keep0, ?_⟩
  have hF208 : F_laws_eqClient x_a x_b = false := by simp only [F_laws_eqClient, h154, h158, h164, h168, h172, h178, h184, h190, cond_true, cond_false]
  rw [hF208]
  exact rfl
 refine cf (congrArg not h190) ?_
 refine wc_skip <| wq_then <| wc_seq <| sr ?_
 refine pu (vp g141 36) wN ?_
 have b192 := (b186.kp k188)
 refine lN (L_96 x_a.R) wN isAgg_96 sizeOf_96 b192 ?_
 refine pu (vp g147 36) wN ?_
 have b193 := (b187.kp k188)
 refine lN (L_96 x_b.R) wN isAgg_96 sizeOf_96 b193 ?_
 refine cl wN (C_laws_eqTimer w8 _ x_a.R (mR_96) _ x_b.R (mR_96)) ?_
 rintro _ w9 ⟨k194, rfl⟩
 have m195 := m189.extk k194
 refine pu (vb (!(F_laws_eqTimer x_a.R x_b.R))) wN ?_
 refine wl_nil <| wq_then ?_
 rcases bf (F_laws_eqTimer x_a.R x_b.R) with h196 | h196
 ·refine ct (congrArg not h196) ?_
  refine sr ?_
  refine ag (vb false) wN ?_
  refine wl_nil <| wq_then <| wc_ret <| wq_then_ret ?_
  refine ret_1 (.inl rfl) (vb false) rfl rfl ?_
  refine ⟨m195.keep0, ?_⟩
  have hF206 : F_laws_eqClient x_a x_b = false := by simp only [F_laws_eqClient, h154, h158, h164, h168, h172, h178, h184, h190, h196, cond_true, cond_false]
  rw [hF206]
  exact rfl
 refine cf (congrArg not h196) ?_
 refine wc_skip <| wq_then <| wc_seq <| sr ?_
 refine pu (vp g141 40) wN ?_
 have b198 := (b192.kp k194)
 refine ld (vi x_a.Last) wN isAgg_3 b198 ?_
 refine pu (vp g147 40) wN ?_
 have b199 := (b193.kp k194)
 refine ld (vi x_b.Last) wN isAgg_3 b199 ?_
 refine pu (vb (!(decide (x_a.Last = x_b.Last)))) wN ?_
 refine wl_nil <| wq_then ?_
 rcases bf (decide (x_a.Last = x_b.Last)) with h200 | h200
 ·have q203 := of_decide_eq_false h200
  refine ct (congrArg not h200) ?_
  refine sr ?_
  refine ag (vb false) wN ?_
  refine wl_nil <| wq_then <| wc_ret <| wq_then_ret ?_
  refine ret_1 (.inl rfl) (vb false) rfl rfl ?_
  refine ⟨m195.keep0, ?_⟩
  have hF204 : F_laws_eqClient x_a x_b = false := by simp only [F_laws_eqClient, h154, h158, h164, h168, h172, h178, h184, h190, h196, h200, cond_true, cond_false]
  rw [hF204]
  exact rfl
 have q201 := of_decide_eq_true h200
 refine cf (congrArg not h200) ?_
 refine wc_skip <| wq_then <| sr ?_
 refine ag (vb true) wN ?_
 refine wl_nil <| wq_then <| wc_ret ?_
 refine ret_1 (.inl rfl) (vb true) rfl rfl ?_
 refine ⟨m195.keep0, ?_⟩
 have hF202 : F_laws_eqClient x_a x_b = true := by simp only [F_laws_eqClient, h154, h158, h164, h168, h172, h178, h184, h190, h196, h200, cond_true, cond_false]
 rw [hF202]
 exact rfl

theorem isAgg_111 : ∀ w, (isAgg 111).run Try.prog w = .ok true w := fun w => by kernel_rfl
theorem sizeOf_111 : ∀ w, (sizeOf 111).run Try.prog w = .ok 41 w := fun w => by kernel_rfl
abbrev L_111 (x : PClient) (a1 : Option Addr) (c1 : Nat) (a2 : Option Addr) (c2 : Nat) (a3 : Option Addr) (c3 : Nat) (a4 : Option Addr) (c4 : Nat) (a5 : Option Addr) (c5 : Nat) (a6 : Option Addr) (c6 : Nat) (a7 : Option Addr) (c7 : Nat) (a8 : Option Addr) (c8 : Nat) (a9 : Option Addr) (c9 : Nat) (a10 : Option Addr) (c10 : Nat) (a11 : Option Addr) (c11 : Nat) (a12 : Option Addr) (c12 : Nat) (a13 : Option Addr) (c13 : Nat) (a14 : Option Addr) (c14 : Nat) : List Value := [vi x.Id, vs a1 x.Psk.length c1, vi x.At.Host, vi x.At.Port, vi x.St, vs a2 x.Cn.length c2, vi x.Fin.Kind, vi x.Fin.Id, vs a3 x.Fin.Cn.length c3, vs a4 x.Fin.Sn.length c4, vi x.Fin.Tick, vs a5 x.Fin.Cookie.length c5, vs a6 x.Fin.Proof.length c6, vi x.Fin.Epoch, vi x.Fin.Seq, vs a7 x.Fin.Body.length c7, vs a8 x.Fin.Tag.length c8, vi x.C.Role, vs a9 x.C.Sn.length c9, vi x.C.Cur.N, vs a10 x.C.Cur.Key.length c10, vi x.C.Cur.Seq, vi x.C.Cur.Win.Top, vs a11 x.C.Cur.Win.Bits.length c11, vi x.C.Old.N, vs a12 x.C.Old.Key.length c12, vi x.C.Old.Seq, vi x.C.Old.Win.Top, vs a13 x.C.Old.Win.Bits.length c13, vb x.C.HasOld, vi x.C.Until, vs a14 x.C.Next.length c14, vb x.T.On, vi x.T.Due, vi x.T.Wait, vi x.T.Tries, vb x.R.On, vi x.R.Due, vi x.R.Wait, vi x.R.Tries, vi x.Last]
theorem mQ_111 {w : World} {x : PClient} {a1 : Option Addr} {c1 : Nat} {a2 : Option Addr} {c2 : Nat} {a3 : Option Addr} {c3 : Nat} {a4 : Option Addr} {c4 : Nat} {a5 : Option Addr} {c5 : Nat} {a6 : Option Addr} {c6 : Nat} {a7 : Option Addr} {c7 : Nat} {a8 : Option Addr} {c8 : Nat} {a9 : Option Addr} {c9 : Nat} {a10 : Option Addr} {c10 : Nat} {a11 : Option Addr} {c11 : Nat} {a12 : Option Addr} {c12 : Nat} {a13 : Option Addr} {c13 : Nat} {a14 : Option Addr} {c14 : Nat} (h1 : Rd w 1 (.slice a1 x.Psk.length c1) x.Psk.length (x.Psk.map bV)) (l1 : x.Psk.length ≤ 9223372036854775807) (h2 : Rd w 1 (.slice a2 x.Cn.length c2) x.Cn.length (x.Cn.map bV)) (l2 : x.Cn.length ≤ 9223372036854775807) (h3 : Rd w 1 (.slice a3 x.Fin.Cn.length c3) x.Fin.Cn.length (x.Fin.Cn.map bV)) (l3 : x.Fin.Cn.length ≤ 9223372036854775807) (h4 : Rd w 1 (.slice a4 x.Fin.Sn.length c4) x.Fin.Sn.length (x.Fin.Sn.map bV)) (l4 : x.Fin.Sn.length ≤ 9223372036854775807) (h5 : Rd w 1 (.slice a5 x.Fin.Cookie.length c5) x.Fin.Cookie.length (x.Fin.Cookie.map bV)) (l5 : x.Fin.Cookie.length ≤ 9223372036854775807) (h6 : Rd w 1 (.slice a6 x.Fin.Proof.length c6) x.Fin.Proof.length (x.Fin.Proof.map bV)) (l6 : x.Fin.Proof.length ≤ 9223372036854775807) (h7 : Rd w 1 (.slice a7 x.Fin.Body.length c7) x.Fin.Body.length (x.Fin.Body.map bV)) (l7 : x.Fin.Body.length ≤ 9223372036854775807) (h8 : Rd w 1 (.slice a8 x.Fin.Tag.length c8) x.Fin.Tag.length (x.Fin.Tag.map bV)) (l8 : x.Fin.Tag.length ≤ 9223372036854775807) (h9 : Rd w 1 (.slice a9 x.C.Sn.length c9) x.C.Sn.length (x.C.Sn.map bV)) (l9 : x.C.Sn.length ≤ 9223372036854775807) (h10 : Rd w 1 (.slice a10 x.C.Cur.Key.length c10) x.C.Cur.Key.length (x.C.Cur.Key.map bV)) (l10 : x.C.Cur.Key.length ≤ 9223372036854775807) (h11 : Rd w 1 (.slice a11 x.C.Cur.Win.Bits.length c11) x.C.Cur.Win.Bits.length (x.C.Cur.Win.Bits.map iV)) (l11 : x.C.Cur.Win.Bits.length ≤ 9223372036854775807) (h12 : Rd w 1 (.slice a12 x.C.Old.Key.length c12) x.C.Old.Key.length (x.C.Old.Key.map bV)) (l12 : x.C.Old.Key.length ≤ 9223372036854775807) (h13 : Rd w 1 (.slice a13 x.C.Old.Win.Bits.length c13) x.C.Old.Win.Bits.length (x.C.Old.Win.Bits.map iV)) (l13 : x.C.Old.Win.Bits.length ≤ 9223372036854775807) (h14 : Rd w 1 (.slice a14 x.C.Next.length c14) x.C.Next.length (x.C.Next.map bV)) (l14 : x.C.Next.length ≤ 9223372036854775807) : Q_111 w (va (L_111 x a1 c1 a2 c2 a3 c3 a4 c4 a5 c5 a6 c6 a7 c7 a8 c8 a9 c9 a10 c10 a11 c11 a12 c12 a13 c13 a14 c14)) x := ⟨_, _, _, _, _, _, _, _, _, _, _, _, _, _, _, _, _, _, _, _, _, _, _, _, _, _, _, _, rfl, h1, l1, h2, l2, h3, l3, h4, l4, h5, l5, h6, l6, h7, l7, h8, l8, h9, l9, h10, l10, h11, l11, h12, l12, h13, l13, h14, l14⟩
theorem mR_111 {w : World} {x : PClient} {a1 : Option Addr} {c1 : Nat} {a2 : Option Addr} {c2 : Nat} {a3 : Option Addr} {c3 : Nat} {a4 : Option Addr} {c4 : Nat} {a5 : Option Addr} {c5 : Nat} {a6 : Option Addr} {c6 : Nat} {a7 : Option Addr} {c7 : Nat} {a8 : Option Addr} {c8 : Nat} {a9 : Option Addr} {c9 : Nat} {a10 : Option Addr} {c10 : Nat} {a11 : Option Addr} {c11 : Nat} {a12 : Option Addr} {c12 : Nat} {a13 : Option Addr} {c13 : Nat} {a14 : Option Addr} {c14 : Nat} (h1 : Rd w 1 (.slice a1 x.Psk.length c1) x.Psk.length (x.Psk.map bV)) (l1 : x.Psk.length ≤ 1073741824) (h2 : Rd w 1 (.slice a2 x.Cn.length c2) x.Cn.length (x.Cn.map bV)) (l2 : x.Cn.length ≤ 1073741824) (h3 : Rd w 1 (.slice a3 x.Fin.Cn.length c3) x.Fin.Cn.length (x.Fin.Cn.map bV)) (l3 : x.Fin.Cn.length ≤ 1073741824) (h4 : Rd w 1 (.slice a4 x.Fin.Sn.length c4) x.Fin.Sn.length (x.Fin.Sn.map bV)) (l4 : x.Fin.Sn.length ≤ 1073741824) (h5 : Rd w 1 (.slice a5 x.Fin.Cookie.length c5) x.Fin.Cookie.length (x.Fin.Cookie.map bV)) (l5 : x.Fin.Cookie.length ≤ 1073741824) (h6 : Rd w 1 (.slice a6 x.Fin.Proof.length c6) x.Fin.Proof.length (x.Fin.Proof.map bV)) (l6 : x.Fin.Proof.length ≤ 1073741824) (h7 : Rd w 1 (.slice a7 x.Fin.Body.length c7) x.Fin.Body.length (x.Fin.Body.map bV)) (l7 : x.Fin.Body.length ≤ 1073741824) (h8 : Rd w 1 (.slice a8 x.Fin.Tag.length c8) x.Fin.Tag.length (x.Fin.Tag.map bV)) (l8 : x.Fin.Tag.length ≤ 1073741824) (h9 : Rd w 1 (.slice a9 x.C.Sn.length c9) x.C.Sn.length (x.C.Sn.map bV)) (l9 : x.C.Sn.length ≤ 1073741824) (h10 : Rd w 1 (.slice a10 x.C.Cur.Key.length c10) x.C.Cur.Key.length (x.C.Cur.Key.map bV)) (l10 : x.C.Cur.Key.length ≤ 1073741824) (h11 : Rd w 1 (.slice a11 x.C.Cur.Win.Bits.length c11) x.C.Cur.Win.Bits.length (x.C.Cur.Win.Bits.map iV)) (l11 : x.C.Cur.Win.Bits.length ≤ 1073741824) (h12 : Rd w 1 (.slice a12 x.C.Old.Key.length c12) x.C.Old.Key.length (x.C.Old.Key.map bV)) (l12 : x.C.Old.Key.length ≤ 1073741824) (h13 : Rd w 1 (.slice a13 x.C.Old.Win.Bits.length c13) x.C.Old.Win.Bits.length (x.C.Old.Win.Bits.map iV)) (l13 : x.C.Old.Win.Bits.length ≤ 1073741824) (h14 : Rd w 1 (.slice a14 x.C.Next.length c14) x.C.Next.length (x.C.Next.map bV)) (l14 : x.C.Next.length ≤ 1073741824) : R_111 w (va (L_111 x a1 c1 a2 c2 a3 c3 a4 c4 a5 c5 a6 c6 a7 c7 a8 c8 a9 c9 a10 c10 a11 c11 a12 c12 a13 c13 a14 c14)) x := ⟨_, _, _, _, _, _, _, _, _, _, _, _, _, _, _, _, _, _, _, _, _, _, _, _, _, _, _, _, rfl, h1, l1, h2, l2, h3, l3, h4, l4, h5, l5, h6, l6, h7, l7, h8, l8, h9, l9, h10, l10, h11, l11, h12, l12, h13, l13, h14, l14⟩
def F_laws_FnExactClientOk (x_aC : PClient) : (Bool) := bif (decide ((F_laws_szClient x_aC 1048576) < 0)) then (true) else (bif ((F_impl_ClientOk (F_laws_toClient x_aC)) == (F_spec_ClientOk (F_laws_toClient x_aC))) then (bif (F_laws_eqClient (F_laws_toClient x_aC) (F_laws_toClient x_aC)) then (true) else (false)) else (false))
theorem C_laws_FnExactClientOk (w0 : World) (v_x_aC : Value) (x_aC : PClient) (r_x_aC : Q_111 w0 v_x_aC x_aC)  : Fn Try.prog 13 #[v_x_aC] w0 (fun v w' => Keep w0 w' ∧ O_4 w' w0.heap.size v (F_laws_FnExactClientOk x_aC)) := by
 obtain ⟨a1, c2, a6, c7, a11, c12, a16, c17, a21, c22, a26, c27, a31, c32, a36, c37, a41, c42, a46, c47, a51, c52, a56, c57, a61, c62, a66, c67, rfl, r3, s4, r8, s9, r13, s14, r18, s19, r23, s24, r28, s29, r33, s34, r38, s39, r43, s44, r48, s49, r53, s54, r58, s59, r63, s64, r68, s69⟩ := r_x_aC
 refine fn_of (n := 27) (l := [(va (L_98 x_aC a1 c2 a6 c7 a11 c12 a16 c17 a21 c22 a26 c27 a31 c32 a36 c37 a41 c42 a46 c47 a51 c52 a56 c57 a61 c62 a66 c67)), U, U, U, U, U, U, U, U, U, U, U, U, U, U, U, U, U, U, U, U, U, U, U, U, U, U]) Try.func13 rfl rfl (by kernel_rfl) rfl ?_
 refine sr ?_
 refine bx (L_98 x_aC a1 c2 a6 c7 a11 c12 a16 c17 a21 c22 a26 c27 a31 c32 a36 c37 a41 c42 a46 c47 a51 c52 a56 c57 a61 c62 a66 c67) wN ?_
 intro g71 w1 p72 p73 k74 b75
 have m76 := (Ch.base w0).extk k74
 refine ag (vb false) wN ?_
 refine nx ?_
 refine ag (vi 1048576) wN ?_
 refine nx ?_
 refine lN (L_98 x_aC a1 c2 a6 c7 a11 c12 a16 c17 a21 c22 a26 c27 a31 c32 a36 c37 a41 c42 a46 c47 a51 c52 a56 c57 a61 c62 a66 c67) wN isAgg_111 sizeOf_111 b75 ?_
 refine mv (vi 1048576) wN ?_
 refine cl wN (C_laws_szClient w1 _ x_aC (mQ_111 (r3.from0 m76) s4 (r8.from0 m76) s9 (r13.from0 m76) s14 (r18.from0 m76) s19 (r23.from0 m76) s24 (r28.from0 m76) s29 (r33.from0 m76) s34 (r38.from0 m76) s39 (r43.from0 m76) s44 (r48.from0 m76) s49 (r53.from0 m76) s54 (r58.from0 m76) s59 (r63.from0 m76) s64 (r68.from0 m76) s69) 1048576 (by omega) (by omega)) ?_
 rintro _ w2 ⟨k77, rfl⟩
 have m78 := m76.extk k77
 have q79 := laws_szClient_le x_aC 1048576
 refine ag (vi (F_laws_szClient x_aC 1048576)) wN ?_
 refine wl_nil <| wq_then <| wc_seq <| sr ?_
 refine mv (vi (F_laws_szClient x_aC 1048576)) wN ?_
 refine pu (vb (decide ((F_laws_szClient x_aC 1048576) < 0))) wN ?_
 refine wl_nil <| wq_then ?_
 rcases bt (decide ((F_laws_szClient x_aC 1048576) < 0)) with h80 | h80
 ·have q81 := of_decide_eq_true h80
  refine ct h80 ?_
  refine sr ?_
  refine ag (vb true) wN ?_
  refine wl_nil <| wq_then <| wc_ret <| wq_then_ret ?_
  refine ret_1 (.inl rfl) (vb true) rfl rfl ?_
  refine ⟨m78.keep0, ?_⟩
  have hF82 : F_laws_FnExactClientOk x_aC = true := by simp only [F_laws_FnExactClientOk, h80, cond_true, cond_false]
  rw [hF82]
  exact rfl
 have q83 := of_decide_eq_false h80
 refine cf h80 ?_
 refine wc_skip <| wq_then <| sr ?_
 have b84 := (b75.kp k77)
 refine lN (L_98 x_aC a1 c2 a6 c7 a11 c12 a16 c17 a21 c22 a26 c27 a31 c32 a36 c37 a41 c42 a46 c47 a51 c52 a56 c57 a61 c62 a66 c67) wN isAgg_111 sizeOf_111 b84 ?_
 refine cl wN (C_laws_toClient w2 _ x_aC (mR_111 (r3.from0 m78) (by omega) (r8.from0 m78) (by omega) (r13.from0 m78) (by omega) (r18.from0 m78) (by omega) (r23.from0 m78) (by omega) (r28.from0 m78) (by omega) (r33.from0 m78) (by omega) (r38.from0 m78) (by omega) (r43.from0 m78) (by omega) (r48.from0 m78) (by omega) (r53.from0 m78) (by omega) (r58.from0 m78) (by omega) (r63.from0 m78) (by omega) (r68.from0 m78) (by omega))) ?_
 rintro _ w3 ⟨k85, ⟨a86, c87, a91, c92, a96, c97, a101, c102, a106, c107, a111, c112, a116, c117, a121, c122, a126, c127, a131, c132, a136, c137, a141, c142, a146, c147, a151, c152, rfl, o88, s89, o93, s94, o98, s99, o103, s104, o108, s109, o113, s114, o118, s119, o123, s124, o128, s129, o133, s134, o138, s139, o143, s144, o148, s149, o153, s154, ap156⟩⟩
 have m157 := m78.extk k85
 refine cl wN (C_spec_ClientOk w3 _ (F_laws_toClient x_aC) (mR_98 (Rd.of_own o88) s89 (Rd.of_own o93) s94 (Rd.of_own o98) s99 (Rd.of_own o103) s104 (Rd.of_own o108) s109 (Rd.of_own o113) s114 (Rd.of_own o118) s119 (Rd.of_own o123) s124 (Rd.of_own o128) s129 (Rd.of_own o133) s134 (Rd.of_own o138) s139 (Rd.of_own o143) s144 (Rd.of_own o148) s149 (Rd.of_own o153) s154)) ?_
 rintro _ w4 ⟨k158, rfl⟩
 have m159 := m157.extk k158
 refine ag (vb (F_spec_ClientOk (F_laws_toClient x_aC))) wN ?_
 refine nx ?_
 have b160 := ((b84.kp k85).kp k158)
 refine lN (L_98 x_aC a1 c2 a6 c7 a11 c12 a16 c17 a21 c22 a26 c27 a31 c32 a36 c37 a41 c42 a46 c47 a51 c52 a56 c57 a61 c62 a66 c67) wN isAgg_111 sizeOf_111 b160 ?_
 refine cl wN (C_laws_toClient w4 _ x_aC (mR_111 (r3.from0 m159) (by omega) (r8.from0 m159) (by omega) (r13.from0 m159) (by omega) (r18.from0 m159) (by omega) (r23.from0 m159) (by omega) (r28.from0 m159) (by omega) (r33.from0 m159) (by omega) (r38.from0 m159) (by omega) (r43.from0 m159) (by omega) (r48.from0 m159) (by omega) (r53.from0 m159) (by omega) (r58.from0 m159) (by omega) (r63.from0 m159) (by omega) (r68.from0 m159) (by omega))) ?_
 rintro _ w5 ⟨k161, ⟨a162, c163, a167, c168, a172, c173, a177, c178, a182, c183, a187, c188, a192, c193, a197, c198, a202, c203, a207, c208, a212, c213, a217, c218, a222, c223, a227, c228, rfl, o164, s165, o169, s170, o174, s175, o179, s180, o184, s185, o189, s190, o194, s195, o199, s200, o204, s205, o209, s210, o214, s215, o219, s220, o224, s225, o229, s230, ap232⟩⟩
 have m233 := m159.extk k161
 refine al [(vi 0), (vs none 0 0), (vi 0), (vi 0), (vi 0), (vs none 0 0), (vi 0), (vi 0), (vs none 0 0), (vs none 0 0), (vi 0), (vs none 0 0), (vs none 0 0), (vi 0), (vi 0), (vs none 0 0), (vs none 0 0), (vi 0), (vs none 0 0), (vi 0), (vs none 0 0), (vi 0), (vi 0), (vs none 0 0), (vi 0), (vs none 0 0), (vi 0), (vi 0), (vs none 0 0), (vb false), (vi 0), (vs none 0 0), (vb false), (vi 0), (vi 0), (vi 0), (vb false), (vi 0), (vi 0), (vi 0), (vi 0)] wN zero_98 ?_
 intro g234 w6 p235 p236 k237 b238
 have m239 := m233.extk k237
 refine st (va (L_98 (F_laws_toClient x_aC) a162 c163 a167 c168 a172 c173 a177 c178 a182 c183 a187 c188 a192 c193 a197 c198 a202 c203 a207 c208 a212 c213 a217 c218 a222 c223 a227 c228)) (L_98 (F_laws_toClient x_aC) a162 c163 a167 c168 a172 c173 a177 c178 a182 c183 a187 c188 a192 c193 a197 c198 a202 c203 a207 c208 a212 c213 a217 c218 a222 c223 a227 c228) (L_98 (F_laws_toClient x_aC) a162 c163 a167 c168 a172 c173 a177 c178 a182 c183 a187 c188 a192 c193 a197 c198 a202 c203 a207 c208 a212 c213 a217 c218 a222 c223 a227 c228) wN sizeOf_98 b238 ?_
 intro w7 k240 b241 z242
 have m243 := m239.ext k240 (fun k hk => by subst hk; exact Nat.le_trans (Nat.le_trans (Nat.le_trans (Nat.le_trans (Nat.le_trans k74.size k77.size) k85.size) k158.size) k161.size) p235)
 refine nx ?_
 refine lN (L_98 (F_laws_toClient x_aC) a162 c163 a167 c168 a172 c173 a177 c178 a182 c183 a187 c188 a192 c193 a197 c198 a202 c203 a207 c208 a212 c213 a217 c218 a222 c223 a227 c228) wN isAgg_98 sizeOf_98 b241 ?_
 have o244 := (own_ch (own_kp o164 k237) k240 (fun g hg hlt hk => by have h1 := (own_lt o164 g hg).2; have h2 := Nat.le_trans (Nat.le_refl _) p235; omega))
 have o245 := (own_ch (own_kp o169 k237) k240 (fun g hg hlt hk => by have h1 := (own_lt o169 g hg).2; have h2 := Nat.le_trans (Nat.le_refl _) p235; omega))
 have o246 := (own_ch (own_kp o174 k237) k240 (fun g hg hlt hk => by have h1 := (own_lt o174 g hg).2; have h2 := Nat.le_trans (Nat.le_refl _) p235; omega))
 have o247 := (own_ch (own_kp o179 k237) k240 (fun g hg hlt hk => by have h1 := (own_lt o179 g hg).2; have h2 := Nat.le_trans (Nat.le_refl _) p235; omega))
 have o248 := (own_ch (own_kp o184 k237) k240 (fun g hg hlt hk => by have h1 := (own_lt o184 g hg).2; have h2 := Nat.le_trans (Nat.le_refl _) p235; omega))
 have o249 := (own_ch (own_kp o189 k237) k240 (fun g hg hlt hk => by have h1 := (own_lt o189 g hg).2; have h2 := Nat.le_trans (Nat.le_refl _) p235; omega))
 have o250 := (own_ch (own_kp o194 k237) k240 (fun g hg hlt hk => by have h1 := (own_lt o194 g hg).2; have h2 := Nat.le_trans (Nat.le_refl _) p235; omega))
 have o251 := (own_ch (own_kp o199 k237) k240 (fun g hg hlt hk => by have h1 := (own_lt o199 g hg).2; have h2 := Nat.le_trans (Nat.le_refl _) p235; omega))
 have o252 := (own_ch (own_kp o204 k237) k240 (fun g hg hlt hk => by have h1 := (own_lt o204 g hg).2; have h2 := Nat.le_trans (Nat.le_refl _) p235; omega))
 have o253 := (own_ch (own_kp o209 k237) k240 (fun g hg hlt hk => by have h1 := (own_lt o209 g hg).2; have h2 := Nat.le_trans (Nat.le_refl _) p235; omega))
 have o254 := (own_ch (own_kp o214 k237) k240 (fun g hg hlt hk => by have h1 := (own_lt o214 g hg).2; have h2 := Nat.le_trans (Nat.le_refl _) p235; omega))
 have o255 := (own_ch (own_kp o219 k237) k240 (fun g hg hlt hk => by have h1 := (own_lt o219 g hg).2; have h2 := Nat.le_trans (Nat.le_refl _) p235; omega))
 have o256 := (own_ch (own_kp o224 k237) k240 (fun g hg hlt hk => by have h1 := (own_lt o224 g hg).2; have h2 := Nat.le_trans (Nat.le_refl _) p235; omega))
 have o257 := (own_ch (own_kp o229 k237) k240 (fun g hg hlt hk => by have h1 := (own_lt o229 g hg).2; have h2 := Nat.le_trans (Nat.le_refl _) p235; omega))
 refine cl wN (C_impl_ClientOk w7 _ (F_laws_toClient x_aC) (mR_98 (Rd.of_own o244) s165 (Rd.of_own o245) s170 (Rd.of_own o246) s175 (Rd.of_own o247) s180 (Rd.of_own o248) s185 (Rd.of_own o249) s190 (Rd.of_own o250) s195 (Rd.of_own o251) s200 (Rd.of_own o252) s205 (Rd.of_own o253) s210 (Rd.of_own o254) s215 (Rd.of_own o255) s220 (Rd.of_own o256) s225 (Rd.of_own o257) s230)) ?_
 rintro _ w8 ⟨k258, rfl⟩
 have m259 := m243.extk k258
 refine ag (vb (F_impl_ClientOk (F_laws_toClient x_aC))) wN ?_
 refine wl_nil <| wq_then <| wc_seq <| sr ?_
 refine mv (vb (F_impl_ClientOk (F_laws_toClient x_aC))) wN ?_
 refine mv (vb (F_spec_ClientOk (F_laws_toClient x_aC))) wN ?_
 refine pu (vb (!((F_impl_ClientOk (F_laws_toClient x_aC)) == (F_spec_ClientOk (F_laws_toClient x_aC))))) wN ?_
 refine wl_nil <| wq_then ?_
 rcases bf ((F_impl_ClientOk (F_laws_toClient x_aC)) == (F_spec_ClientOk (F_laws_toClient x_aC))) with h260 | h260
 ·refine ct (congrArg not h260) ?_
  refine sr ?_
  refine ag (vb false) wN ?_
  refine wl_nil <| wq_then <| wc_ret <| wq_then_ret ?_
  refine ret_1 (.inl rfl) (vb false) rfl rfl ?_
  refine ⟨m259.keep0, ?_⟩
  have hF755 : F_laws_FnExactClientOk x_aC = false := by simp only [F_laws_FnExactClientOk, h80, h260, cond_true, cond_false]
  rw [hF755]
  exact rfl
 refine cf (congrArg not h260) ?_
 refine wc_skip <| wq_then <| wc_seq <| wc_seq ?_
 refine wc_draw ([(22, [], [], (fun _ v _ => v = (.agg #[(vi ((F_laws_toClient x_aC).Id)), (vs a162 ((F_laws_toClient x_aC).Psk).length c163), (vi (((F_laws_toClient x_aC).At).Host)), (vi (((F_laws_toClient x_aC).At).Port)), (vi ((F_laws_toClient x_aC).St)), (vs a167 ((F_laws_toClient x_aC).Cn).length c168), (vi (((F_laws_toClient x_aC).Fin).Kind)), (vi (((F_laws_toClient x_aC).Fin).Id)), (vs a172 (((F_laws_toClient x_aC).Fin).Cn).length c173), (vs a177 (((F_laws_toClient x_aC).Fin).Sn).length c178), (vi (((F_laws_toClient x_aC).Fin).Tick)), (vs a182 (((F_laws_toClient x_aC).Fin).Cookie).length c183), (vs a187 (((F_laws_toClient x_aC).Fin).Proof).length c188), (vi (((F_laws_toClient x_aC).Fin).Epoch)), (vi (((F_laws_toClient x_aC).Fin).Seq)), (vs a192 (((F_laws_toClient x_aC).Fin).Body).length c193), (vs a197 (((F_laws_toClient x_aC).Fin).Tag).length c198), (vi (((F_laws_toClient x_aC).C).Role)), (vs a202 (((F_laws_toClient x_aC).C).Sn).length c203), (vi ((((F_laws_toClient x_aC).C).Cur).N)), (vs a207 ((((F_laws_toClient x_aC).C).Cur).Key).length c208), (vi ((((F_laws_toClient x_aC).C).Cur).Seq)), (vi (((((F_laws_toClient x_aC).C).Cur).Win).Top)), (vs a212 (((((F_laws_toClient x_aC).C).Cur).Win).Bits).length c213), (vi ((((F_laws_toClient x_aC).C).Old).N)), (vs a217 ((((F_laws_toClient x_aC).C).Old).Key).length c218), (vi ((((F_laws_toClient x_aC).C).Old).Seq)), (vi (((((F_laws_toClient x_aC).C).Old).Win).Top)), (vs a222 (((((F_laws_toClient x_aC).C).Old).Win).Bits).length c223), (vb (((F_laws_toClient x_aC).C).HasOld)), (vi (((F_laws_toClient x_aC).C).Until)), (vs a227 (((F_laws_toClient x_aC).C).Next).length c228), (vb (((F_laws_toClient x_aC).T).On)), (vi (((F_laws_toClient x_aC).T).Due)), (vi (((F_laws_toClient x_aC).T).Wait)), (vi (((F_laws_toClient x_aC).T).Tries)), (vb (((F_laws_toClient x_aC).R).On)), (vi (((F_laws_toClient x_aC).R).Due)), (vi (((F_laws_toClient x_aC).R).Wait)), (vi (((F_laws_toClient x_aC).R).Tries)), (vi ((F_laws_toClient x_aC).Last))]))), (23, [], [], (fun _ v _ => v = (.agg #[(vi x_aC.Id), (vs a1 x_aC.Psk.length c2), (vi x_aC.At.Host), (vi x_aC.At.Port), (vi x_aC.St), (vs a6 x_aC.Cn.length c7), (vi x_aC.Fin.Kind), (vi x_aC.Fin.Id), (vs a11 x_aC.Fin.Cn.length c12), (vs a16 x_aC.Fin.Sn.length c17), (vi x_aC.Fin.Tick), (vs a21 x_aC.Fin.Cookie.length c22), (vs a26 x_aC.Fin.Proof.length c27), (vi x_aC.Fin.Epoch), (vi x_aC.Fin.Seq), (vs a31 x_aC.Fin.Body.length c32), (vs a36 x_aC.Fin.Tag.length c37), (vi x_aC.C.Role), (vs a41 x_aC.C.Sn.length c42), (vi x_aC.C.Cur.N), (vs a46 x_aC.C.Cur.Key.length c47), (vi x_aC.C.Cur.Seq), (vi x_aC.C.Cur.Win.Top), (vs a51 x_aC.C.Cur.Win.Bits.length c52), (vi x_aC.C.Old.N), (vs a56 x_aC.C.Old.Key.length c57), (vi x_aC.C.Old.Seq), (vi x_aC.C.Old.Win.Top), (vs a61 x_aC.C.Old.Win.Bits.length c62), (vb x_aC.C.HasOld), (vi x_aC.C.Until), (vs a66 x_aC.C.Next.length c67), (vb x_aC.T.On), (vi x_aC.T.Due), (vi x_aC.T.Wait), (vi x_aC.T.Tries), (vb x_aC.R.On), (vi x_aC.R.Due), (vi x_aC.R.Wait), (vi x_aC.R.Tries), (vi x_aC.Last)]))), (24, [], [1], (fun _ v w => ∃ (a1 : Option Addr) (c1 : Nat) (a2 : Option Addr) (c2 : Nat) (a3 : Option Addr) (c3 : Nat) (a4 : Option Addr) (c4 : Nat) (a5 : Option Addr) (c5 : Nat) (a6 : Option Addr) (c6 : Nat) (a7 : Option Addr) (c7 : Nat) (a8 : Option Addr) (c8 : Nat) (a9 : Option Addr) (c9 : Nat) (a10 : Option Addr) (c10 : Nat) (a11 : Option Addr) (c11 : Nat) (a12 : Option Addr) (c12 : Nat) (a13 : Option Addr) (c13 : Nat) (a14 : Option Addr) (c14 : Nat), v = .agg #[.int .i64 ((F_laws_toClient x_aC).Id), .slice a1 ((F_laws_toClient x_aC).Psk).length c1, .int .i64 (((F_laws_toClient x_aC).At).Host), .int .i64 (((F_laws_toClient x_aC).At).Port), .int .i64 ((F_laws_toClient x_aC).St), .slice a2 ((F_laws_toClient x_aC).Cn).length c2, .int .i64 (((F_laws_toClient x_aC).Fin).Kind), .int .i64 (((F_laws_toClient x_aC).Fin).Id), .slice a3 (((F_laws_toClient x_aC).Fin).Cn).length c3, .slice a4 (((F_laws_toClient x_aC).Fin).Sn).length c4, .int .i64 (((F_laws_toClient x_aC).Fin).Tick), .slice a5 (((F_laws_toClient x_aC).Fin).Cookie).length c5, .slice a6 (((F_laws_toClient x_aC).Fin).Proof).length c6, .int .i64 (((F_laws_toClient x_aC).Fin).Epoch), .int .i64 (((F_laws_toClient x_aC).Fin).Seq), .slice a7 (((F_laws_toClient x_aC).Fin).Body).length c7, .slice a8 (((F_laws_toClient x_aC).Fin).Tag).length c8, .int .i64 (((F_laws_toClient x_aC).C).Role), .slice a9 (((F_laws_toClient x_aC).C).Sn).length c9, .int .i64 ((((F_laws_toClient x_aC).C).Cur).N), .slice a10 ((((F_laws_toClient x_aC).C).Cur).Key).length c10, .int .i64 ((((F_laws_toClient x_aC).C).Cur).Seq), .int .i64 (((((F_laws_toClient x_aC).C).Cur).Win).Top), .slice a11 (((((F_laws_toClient x_aC).C).Cur).Win).Bits).length c11, .int .i64 ((((F_laws_toClient x_aC).C).Old).N), .slice a12 ((((F_laws_toClient x_aC).C).Old).Key).length c12, .int .i64 ((((F_laws_toClient x_aC).C).Old).Seq), .int .i64 (((((F_laws_toClient x_aC).C).Old).Win).Top), .slice a13 (((((F_laws_toClient x_aC).C).Old).Win).Bits).length c13, .bool (((F_laws_toClient x_aC).C).HasOld), .int .i64 (((F_laws_toClient x_aC).C).Until), .slice a14 (((F_laws_toClient x_aC).C).Next).length c14, .bool (((F_laws_toClient x_aC).T).On), .int .i64 (((F_laws_toClient x_aC).T).Due), .int .i64 (((F_laws_toClient x_aC).T).Wait), .int .i64 (((F_laws_toClient x_aC).T).Tries), .bool (((F_laws_toClient x_aC).R).On), .int .i64 (((F_laws_toClient x_aC).R).Due), .int .i64 (((F_laws_toClient x_aC).R).Wait), .int .i64 (((F_laws_toClient x_aC).R).Tries), .int .i64 ((F_laws_toClient x_aC).Last)] ∧ w.ownsRow (w8.heap.size) 5 1 (.slice a1 ((F_laws_toClient x_aC).Psk).length c1) ((F_laws_toClient x_aC).Psk).length (((F_laws_toClient x_aC).Psk).map bV) ∧ ((F_laws_toClient x_aC).Psk).length ≤ 1073741824 ∧ w.ownsRow (w8.heap.size) 5 1 (.slice a2 ((F_laws_toClient x_aC).Cn).length c2) ((F_laws_toClient x_aC).Cn).length (((F_laws_toClient x_aC).Cn).map bV) ∧ ((F_laws_toClient x_aC).Cn).length ≤ 1073741824 ∧ w.ownsRow (w8.heap.size) 5 1 (.slice a3 (((F_laws_toClient x_aC).Fin).Cn).length c3) (((F_laws_toClient x_aC).Fin).Cn).length ((((F_laws_toClient x_aC).Fin).Cn).map bV) ∧ (((F_laws_toClient x_aC).Fin).Cn).length ≤ 1073741824 ∧ w.ownsRow (w8.heap.size) 5 1 (.slice a4 (((F_laws_toClient x_aC).Fin).Sn).length c4) (((F_laws_toClient x_aC).Fin).Sn).length ((((F_laws_toClient x_aC).Fin).Sn).map bV) ∧ (((F_laws_toClient x_aC).Fin).Sn).length ≤ 1073741824 ∧ w.ownsRow (w8.heap.size) 5 1 (.slice a5 (((F_laws_toClient x_aC).Fin).Cookie).length c5) (((F_laws_toClient x_aC).Fin).Cookie).length ((((F_laws_toClient x_aC).Fin).Cookie).map bV) ∧ (((F_laws_toClient x_aC).Fin).Cookie).length ≤ 1073741824 ∧ w.ownsRow (w8.heap.size) 5 1 (.slice a6 (((F_laws_toClient x_aC).Fin).Proof).length c6) (((F_laws_toClient x_aC).Fin).Proof).length ((((F_laws_toClient x_aC).Fin).Proof).map bV) ∧ (((F_laws_toClient x_aC).Fin).Proof).length ≤ 1073741824 ∧ w.ownsRow (w8.heap.size) 5 1 (.slice a7 (((F_laws_toClient x_aC).Fin).Body).length c7) (((F_laws_toClient x_aC).Fin).Body).length ((((F_laws_toClient x_aC).Fin).Body).map bV) ∧ (((F_laws_toClient x_aC).Fin).Body).length ≤ 1073741824 ∧ w.ownsRow (w8.heap.size) 5 1 (.slice a8 (((F_laws_toClient x_aC).Fin).Tag).length c8) (((F_laws_toClient x_aC).Fin).Tag).length ((((F_laws_toClient x_aC).Fin).Tag).map bV) ∧ (((F_laws_toClient x_aC).Fin).Tag).length ≤ 1073741824 ∧ w.ownsRow (w8.heap.size) 5 1 (.slice a9 (((F_laws_toClient x_aC).C).Sn).length c9) (((F_laws_toClient x_aC).C).Sn).length ((((F_laws_toClient x_aC).C).Sn).map bV) ∧ (((F_laws_toClient x_aC).C).Sn).length ≤ 1073741824 ∧ w.ownsRow (w8.heap.size) 5 1 (.slice a10 ((((F_laws_toClient x_aC).C).Cur).Key).length c10) ((((F_laws_toClient x_aC).C).Cur).Key).length (((((F_laws_toClient x_aC).C).Cur).Key).map bV) ∧ ((((F_laws_toClient x_aC).C).Cur).Key).length ≤ 1073741824 ∧ w.ownsRow (w8.heap.size) 3 1 (.slice a11 (((((F_laws_toClient x_aC).C).Cur).Win).Bits).length c11) (((((F_laws_toClient x_aC).C).Cur).Win).Bits).length ((((((F_laws_toClient x_aC).C).Cur).Win).Bits).map iV) ∧ (((((F_laws_toClient x_aC).C).Cur).Win).Bits).length ≤ 1073741824 ∧ w.ownsRow (w8.heap.size) 5 1 (.slice a12 ((((F_laws_toClient x_aC).C).Old).Key).length c12) ((((F_laws_toClient x_aC).C).Old).Key).length (((((F_laws_toClient x_aC).C).Old).Key).map bV) ∧ ((((F_laws_toClient x_aC).C).Old).Key).length ≤ 1073741824 ∧ w.ownsRow (w8.heap.size) 3 1 (.slice a13 (((((F_laws_toClient x_aC).C).Old).Win).Bits).length c13) (((((F_laws_toClient x_aC).C).Old).Win).Bits).length ((((((F_laws_toClient x_aC).C).Old).Win).Bits).map iV) ∧ (((((F_laws_toClient x_aC).C).Old).Win).Bits).length ≤ 1073741824 ∧ w.ownsRow (w8.heap.size) 5 1 (.slice a14 (((F_laws_toClient x_aC).C).Next).length c14) (((F_laws_toClient x_aC).C).Next).length ((((F_laws_toClient x_aC).C).Next).map bV) ∧ (((F_laws_toClient x_aC).C).Next).length ≤ 1073741824 ∧ Aps [(a1, c1), (a2, c2), (a3, c3), (a4, c4), (a5, c5), (a6, c6), (a7, c7), (a8, c8), (a9, c9), (a10, c10), (a11, c11), (a12, c12), (a13, c13), (a14, c14)])), (25, [], [0, 1, 2], (fun _ v w => v = .bool (F_laws_eqClient (F_laws_toClient x_aC) (F_laws_toClient x_aC)))), (26, [], [0, 1, 2, 3], (fun _ v _ => v = (vb (!(F_laws_eqClient (F_laws_toClient x_aC) (F_laws_toClient x_aC))))))] : GV) mixed rfl (by kernel_rfl) (by kernel_rfl) ?_ ?_ ?_
 ·exact ⟨(fun _ _ _ _ h _ => h), (fun _ _ _ _ _ h => h), ⟨(fun _ _ _ _ h _ => h), (fun _ _ _ _ _ h => h), ⟨(fun e v w w1 h hk => by obtain ⟨a0x, c0x, a1x, c1x, a2x, c2x, a3x, c3x, a4x, c4x, a5x, c5x, a6x, c6x, a7x, c7x, a8x, c8x, a9x, c9x, a10x, c10x, a11x, c11x, a12x, c12x, a13x, c13x, he, o0x, l0x, o1x, l1x, o2x, l2x, o3x, l3x, o4x, l4x, o5x, l5x, o6x, l6x, o7x, l7x, o8x, l8x, o9x, l9x, o10x, l10x, o11x, l11x, o12x, l12x, o13x, l13x, hap⟩ := h; exact ⟨a0x, c0x, a1x, c1x, a2x, c2x, a3x, c3x, a4x, c4x, a5x, c5x, a6x, c6x, a7x, c7x, a8x, c8x, a9x, c9x, a10x, c10x, a11x, c11x, a12x, c12x, a13x, c13x, he, own_kp o0x hk, l0x, own_kp o1x hk, l1x, own_kp o2x hk, l2x, own_kp o3x hk, l3x, own_kp o4x hk, l4x, own_kp o5x hk, l5x, own_kp o6x hk, l6x, own_kp o7x hk, l7x, own_kp o8x hk, l8x, own_kp o9x hk, l9x, own_kp o10x hk, l10x, own_kp o11x hk, l11x, own_kp o12x hk, l12x, own_kp o13x hk, l13x, hap⟩), (fun _ _ _ _ _ h => h), ⟨(fun _ _ _ _ h _ => h), (fun _ _ _ _ _ h => h), ⟨(fun _ _ _ _ h _ => h), (fun _ _ _ _ _ h => h), trivial⟩⟩⟩⟩⟩
 ·refine ⟨?_, ⟨?_, ⟨?_, ⟨?_, ⟨?_, trivial⟩⟩⟩⟩⟩
  ·intro w9 k426
   have m427 := m259.extk k426
   rintro _ _ _ _ _
   show WL _ _ _ _ _ _ _
   have b428 := ((b241.kp k258).kp k426)
   refine lN (L_98 (F_laws_toClient x_aC) a162 c163 a167 c168 a172 c173 a177 c178 a182 c183 a187 c188 a192 c193 a197 c198 a202 c203 a207 c208 a212 c213 a217 c218 a222 c223 a227 c228) wN isAgg_98 sizeOf_98 b428 ?_
   exact wl_fin (Ch.refl _ _) rfl
  ·intro w9 k429
   have m430 := m259.extk k429
   rintro _ _ _ _ _
   show WL _ _ _ _ _ _ _
   have b431 := (((((b160.kp k161).kp k237).ch k240 (Nat.ne_of_lt (Nat.lt_of_lt_of_le p73 (Nat.le_trans (Nat.le_trans (Nat.le_trans (Nat.le_trans k77.size k85.size) k158.size) k161.size) p235)))).kp k258).kp k429)
   refine lN (L_98 x_aC a1 c2 a6 c7 a11 c12 a16 c17 a21 c22 a26 c27 a31 c32 a36 c37 a41 c42 a46 c47 a51 c52 a56 c57 a61 c62 a66 c67) wN isAgg_111 sizeOf_111 b431 ?_
   exact wl_fin (Ch.refl _ _) rfl
  ·intro w9 k432
   have m433 := m259.extk k432
   rintro _ _ rfl _ _ _
   show WL _ _ _ _ _ _ _
   refine cl wN (C_laws_toClient w9 _ x_aC (mR_111 (r3.from0 m433) (by omega) (r8.from0 m433) (by omega) (r13.from0 m433) (by omega) (r18.from0 m433) (by omega) (r23.from0 m433) (by omega) (r28.from0 m433) (by omega) (r33.from0 m433) (by omega) (r38.from0 m433) (by omega) (r43.from0 m433) (by omega) (r48.from0 m433) (by omega) (r53.from0 m433) (by omega) (r58.from0 m433) (by omega) (r63.from0 m433) (by omega) (r68.from0 m433) (by omega))) ?_
   rintro _ w10 ⟨k435, ⟨a436, c437, a441, c442, a446, c447, a451, c452, a456, c457, a461, c462, a466, c467, a471, c472, a476, c477, a481, c482, a486, c487, a491, c492, a496, c497, a501, c502, rfl, o438, s439, o443, s444, o448, s449, o453, s454, o458, s459, o463, s464, o468, s469, o473, s474, o478, s479, o483, s484, o488, s489, o493, s494, o498, s499, o503, s504, ap506⟩⟩
   have m507 := m433.extk k435
   exact wl_fin k435 ⟨_, _, _, _, _, _, _, _, _, _, _, _, _, _, _, _, _, _, _, _, _, _, _, _, _, _, _, _, rfl, (own_lo o438 k432.size), s439, (own_lo o443 k432.size), s444, (own_lo o448 k432.size), s449, (own_lo o453 k432.size), s454, (own_lo o458 k432.size), s459, (own_lo o463 k432.size), s464, (own_lo o468 k432.size), s469, (own_lo o473 k432.size), s474, (own_lo o478 k432.size), s479, (own_lo o483 k432.size), s484, (own_lo o488 k432.size), s489, (own_lo o493 k432.size), s494, (own_lo o498 k432.size), s499, (own_lo o503 k432.size), s504, ap506⟩
  ·intro w9 k508
   have m509 := m259.extk k508
   rintro _ rfl _ rfl _ ⟨a512, c513, a517, c518, a522, c523, a527, c528, a532, c533, a537, c538, a542, c543, a547, c548, a552, c553, a557, c558, a562, c563, a567, c568, a572, c573, a577, c578, rfl, o514, s515, o519, s520, o524, s525, o529, s530, o534, s535, o539, s540, o544, s545, o549, s550, o554, s555, o559, s560, o564, s565, o569, s570, o574, s575, o579, s580, ap582⟩ _ _
   show WL _ _ _ _ _ _ _
   have o583 := (own_kp (own_kp o244 k258) k508)
   have o584 := (own_kp (own_kp o245 k258) k508)
   have o585 := (own_kp (own_kp o246 k258) k508)
   have o586 := (own_kp (own_kp o247 k258) k508)
   have o587 := (own_kp (own_kp o248 k258) k508)
   have o588 := (own_kp (own_kp o249 k258) k508)
   have o589 := (own_kp (own_kp o250 k258) k508)
   have o590 := (own_kp (own_kp o251 k258) k508)
   have o591 := (own_kp (own_kp o252 k258) k508)
   have o592 := (own_kp (own_kp o253 k258) k508)
   have o593 := (own_kp (own_kp o254 k258) k508)
   have o594 := (own_kp (own_kp o255 k258) k508)
   have o595 := (own_kp (own_kp o256 k258) k508)
   have o596 := (own_kp (own_kp o257 k258) k508)
   refine cl wN (C_laws_eqClient w9 _ (F_laws_toClient x_aC) (mR_98 (Rd.of_own o583) s165 (Rd.of_own o584) s170 (Rd.of_own o585) s175 (Rd.of_own o586) s180 (Rd.of_own o587) s185 (Rd.of_own o588) s190 (Rd.of_own o589) s195 (Rd.of_own o590) s200 (Rd.of_own o591) s205 (Rd.of_own o592) s210 (Rd.of_own o593) s215 (Rd.of_own o594) s220 (Rd.of_own o595) s225 (Rd.of_own o596) s230) _ (F_laws_toClient x_aC) (mR_98 (Rd.of_own o514) s515 (Rd.of_own o519) s520 (Rd.of_own o524) s525 (Rd.of_own o529) s530 (Rd.of_own o534) s535 (Rd.of_own o539) s540 (Rd.of_own o544) s545 (Rd.of_own o549) s550 (Rd.of_own o554) s555 (Rd.of_own o559) s560 (Rd.of_own o564) s565 (Rd.of_own o569) s570 (Rd.of_own o574) s575 (Rd.of_own o579) s580)) ?_
   rintro _ w10 ⟨k597, rfl⟩
   have m598 := m509.extk k597
   exact wl_fin k597 rfl
  ·intro w9 k599
   have m600 := m259.extk k599
   rintro _ rfl _ rfl _ ⟨a603, c604, a608, c609, a613, c614, a618, c619, a623, c624, a628, c629, a633, c634, a638, c639, a643, c644, a648, c649, a653, c654, a658, c659, a663, c664, a668, c669, rfl, o605, s606, o610, s611, o615, s616, o620, s621, o625, s626, o630, s631, o635, s636, o640, s641, o645, s646, o650, s651, o655, s656, o660, s661, o665, s666, o670, s671, ap673⟩ _ rfl _
   show WL _ _ _ _ _ _ _
   refine pu (vb (!(F_laws_eqClient (F_laws_toClient x_aC) (F_laws_toClient x_aC)))) wN ?_
   exact wl_fin (Ch.refl _ _) rfl
 ·intro w9 k674
  have m675 := m259.extk k674
  rintro _ rfl _ rfl _ ⟨a678, c679, a683, c684, a688, c689, a693, c694, a698, c699, a703, c704, a708, c709, a713, c714, a718, c719, a723, c724, a728, c729, a733, c734, a738, c739, a743, c744, rfl, o680, s681, o685, s686, o690, s691, o695, s696, o700, s701, o705, s706, o710, s711, o715, s716, o720, s721, o725, s726, o730, s731, o735, s736, o740, s741, o745, s746, ap748⟩ _ rfl _ rfl
  show WL _ _ _ _ _ _ _
  refine wl_nil <| wq_then ?_
  rcases bf (F_laws_eqClient (F_laws_toClient x_aC) (F_laws_toClient x_aC)) with h749 | h749
  ·refine ct (congrArg not h749) ?_
   refine sr ?_
   refine ag (vb false) wN ?_
   refine wl_nil <| wq_then <| wc_ret <| wq_then_ret ?_
   refine ret_1 (.inl rfl) (vb false) rfl rfl ?_
   refine ⟨m675.keep0, ?_⟩
   have hF753 : F_laws_FnExactClientOk x_aC = false := by simp only [F_laws_FnExactClientOk, h80, h260, h749, cond_true, cond_false]
   rw [hF753]
   exact rfl
  refine cf (congrArg not h749) ?_
  refine wc_skip <| wq_then <| sr ?_
  refine ag (vb true) wN ?_
  refine wl_nil <| wq_then <| wc_ret ?_
  refine ret_1 (.inl rfl) (vb true) rfl rfl ?_
  refine ⟨m675.keep0, ?_⟩
  have hF751 : F_laws_FnExactClientOk x_aC = true := by simp only [F_laws_FnExactClientOk, h80, h260, h749, cond_true, cond_false]
  rw [hF751]
  exact rfl
end Go.Proofs.Ytjcahjhnnagkdaa.K
