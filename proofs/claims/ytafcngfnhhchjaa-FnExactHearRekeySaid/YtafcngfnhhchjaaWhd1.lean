import Derived.Test.YtafcngfnhhchjaaCore
import Derived.Test.YtafcngfnhhchjaaProg
import Derived.Test.YtafcngfnhhchjaaHeld
import Derived.Test.YtafcngfnhhchjaaFun
import Derived.Test.YtafcngfnhhchjaaFunZ
import Derived.Test.YtafcngfnhhchjaaSqz
import Derived.Test.YtafcngfnhhchjaaHash
import Derived.Test.YtafcngfnhhchjaaWh6
namespace Go.Proofs.Ytafcngfnhhchjaa.K
open Go.RowKit
set_option linter.unusedVariables false
set_option linter.unusedSimpArgs false
set_option maxRecDepth 100000
set_option maxHeartbeats 4000000
def F_spec_RekeyBody (x_n : Int) : (List UInt8) := bif (F_spec_l1In x_n 0 4294967295) then ((putN [] x_n 4)) else ([])
theorem C_spec_RekeyBody (w0 : World) (x_n : Int)  : Fn Try.prog 75 #[(vi x_n)] w0 (fun v w' => Keep w0 w' ∧ O_22 w' w0.heap.size v (F_spec_RekeyBody x_n)) := by
 refine fn_of (n := 10) (l := [(vi x_n), U, U, U, U, U, U, U, U, U]) Try.func75 rfl rfl (by kernel_rfl) rfl ?_
 refine sr ?_
 refine aw (vs none 0 0) ?_
 refine n4 ?_
 refine mw (vi x_n) ?_
 refine cl wN (C_spec_l1In w0 x_n 0 4294967295) ?_
 rintro _ w1 ⟨k1, rfl⟩
 have m2 := (Ch.base w0).extk k1
 refine pu (vb (!(F_spec_l1In x_n 0 4294967295))) wN ?_
 refine n2 ?_
 rcases bf (F_spec_l1In x_n 0 4294967295) with h3 | h3
 ·have q20 := spec_l1In_f h3
  refine ct (congrArg not h3) ?_
  refine sr ?_
  refine wl_lit0 wN rfl rfl slTy_22 (fun w => by kernel_rfl) ?_
  intro a21 w2 k22 o23
  have m24 := m2.extk k22
  refine aw (vs (some a21) 0 0) ?_
  refine n1 ?_
  refine rt (vs (some a21) 0 0) ?_
  refine ⟨m24.keep0, ?_⟩
  have hF26 : F_spec_RekeyBody x_n = [] := by simp only [F_spec_RekeyBody, h3, cond_true, cond_false]
  rw [hF26]
  exact ⟨_, _, rfl, (own_lo o23 k1.size), (by simp), ⟨trivial, trivial⟩⟩
 have q4 := spec_l1In_t h3
 refine cf (congrArg not h3) ?_
 refine y1 ?_
 refine wl_lit0 wN rfl rfl slTy_22 (fun w => by kernel_rfl) ?_
 intro a5 w2 k6 o7
 have m8 := m2.extk k6
 refine mw (vi x_n) ?_
 refine cl wN (C_spec_PutN w2 _ [] (mR_22 (Rd.of_own o7) (by simp)) x_n 4 (by first | omega | (simp; done) | (simp; omega))) ?_
 rintro _ w3 ⟨k10, ⟨a11, c12, rfl, o13, s14, ap16⟩⟩
 have m17 := m8.extk k10
 have q18 := putN_len [] x_n 4
 refine aw (vs a11 (putN [] x_n 4).length c12) ?_
 refine n3 ?_
 refine rt (vs a11 (putN [] x_n 4).length c12) ?_
 refine ⟨m17.keep0, ?_⟩
 have hF19 : F_spec_RekeyBody x_n = (putN [] x_n 4) := by simp only [F_spec_RekeyBody, h3, cond_true, cond_false]
 rw [hF19]
 exact ⟨_, _, rfl, (own_lo o13 (z2 k1 k6)), s14, ⟨trivial, trivial⟩⟩

def O_38_3 (w : World) (lo : Nat) (v : Value) (x : (PChan) × (Int)) : Prop := ∃ (a1 : Option Addr) (c1 : Nat) (a2 : Option Addr) (c2 : Nat) (a3 : Option Addr) (c3 : Nat) (a4 : Option Addr) (c4 : Nat) (a5 : Option Addr) (c5 : Nat) (a6 : Option Addr) (c6 : Nat), v = .tuple #[.agg #[.int .i64 x.1.Role, .slice a1 x.1.Sn.length c1, .int .i64 x.1.Cur.N, .slice a2 x.1.Cur.Key.length c2, .int .i64 x.1.Cur.Seq, .int .i64 x.1.Cur.Win.Top, .slice a3 x.1.Cur.Win.Bits.length c3, .int .i64 x.1.Old.N, .slice a4 x.1.Old.Key.length c4, .int .i64 x.1.Old.Seq, .int .i64 x.1.Old.Win.Top, .slice a5 x.1.Old.Win.Bits.length c5, .bool x.1.HasOld, .int .i64 x.1.Until, .slice a6 x.1.Next.length c6], .int .i64 x.2] ∧ w.ownsRow lo 5 1 (.slice a1 x.1.Sn.length c1) x.1.Sn.length (x.1.Sn.map bV) ∧ x.1.Sn.length ≤ 1073741824 ∧ w.ownsRow lo 5 1 (.slice a2 x.1.Cur.Key.length c2) x.1.Cur.Key.length (x.1.Cur.Key.map bV) ∧ x.1.Cur.Key.length ≤ 1073741824 ∧ w.ownsRow lo 3 1 (.slice a3 x.1.Cur.Win.Bits.length c3) x.1.Cur.Win.Bits.length (x.1.Cur.Win.Bits.map iV) ∧ x.1.Cur.Win.Bits.length ≤ 1073741824 ∧ w.ownsRow lo 5 1 (.slice a4 x.1.Old.Key.length c4) x.1.Old.Key.length (x.1.Old.Key.map bV) ∧ x.1.Old.Key.length ≤ 1073741824 ∧ w.ownsRow lo 3 1 (.slice a5 x.1.Old.Win.Bits.length c5) x.1.Old.Win.Bits.length (x.1.Old.Win.Bits.map iV) ∧ x.1.Old.Win.Bits.length ≤ 1073741824 ∧ w.ownsRow lo 5 1 (.slice a6 x.1.Next.length c6) x.1.Next.length (x.1.Next.map bV) ∧ x.1.Next.length ≤ 1073741824 ∧ Aps [(a1, c1), (a2, c2), (a3, c3), (a4, c4), (a5, c5), (a6, c6)]
def F_spec_HearRekey (x_c : PChan) (x_under : Int) (x_plain : List UInt8) : (PChan) × (Int) := bif (F_spec_ChanOk x_c) then (bif (decide (x_c.Role = 1)) then (bif (F_spec_l1In x_under 0 4294967294) then (bif (F_spec_l1Same x_plain (F_spec_RekeyBody (x_under + 1))) then (bif (decide (x_under = x_c.Cur.N)) then (bif ((F_spec_Turn x_c).2) then ((((F_spec_Turn x_c).1), 0)) else (((F_spec_l14Copy x_c), 6))) else (bif (decide (x_under = (x_c.Cur.N - 1))) then (((F_spec_l14Copy x_c), 0)) else (((F_spec_l14Copy x_c), 6)))) else (((F_spec_l14Copy x_c), 6))) else (((F_spec_l14Copy x_c), 6))) else (((F_spec_l14Copy x_c), 6))) else (((F_spec_l14Copy x_c), 6))
theorem C_spec_HearRekey (w0 : World) (v_x_c : Value) (x_c : PChan) (r_x_c : R_38 w0 v_x_c x_c) (x_under : Int) (v_x_plain : Value) (x_plain : List UInt8) (r_x_plain : R_22 w0 v_x_plain x_plain)  : Fn Try.prog 33 #[v_x_c, (vi x_under), v_x_plain] w0 (fun v w' => Keep w0 w' ∧ O_38_3 w' w0.heap.size v (F_spec_HearRekey x_c x_under x_plain)) := by
 obtain ⟨a1, c2, a6, c7, a11, c12, a16, c17, a21, c22, a26, c27, rfl, r3, s4, r8, s9, r13, s14, r18, s19, r23, s24, r28, s29⟩ := r_x_c
 obtain ⟨a31, c32, rfl, r33, s34⟩ := r_x_plain
 refine fn_of (n := 57) (l := [(va (L_38 x_c a1 c2 a6 c7 a11 c12 a16 c17 a21 c22 a26 c27)), (vi x_under), (vs a31 x_plain.length c32), U, U, U, U, U, U, U, U, U, U, U, U, U, U, U, U, U, U, U, U, U, U, U, U, U, U, U, U, U, U, U, U, U, U, U, U, U, U, U, U, U, U, U, U, U, U, U, U, U, U, U, U, U, U]) Try.func33 rfl rfl (by kernel_rfl) rfl ?_
 refine sr ?_
 refine bx (L_38 x_c a1 c2 a6 c7 a11 c12 a16 c17 a21 c22 a26 c27) wN ?_
 intro g36 w1 p37 p38 k39 b40
 have m41 := (Ch.base w0).extk k39
 refine al [(vi 0), (vs none 0 0), (vi 0), (vs none 0 0), (vi 0), (vi 0), (vs none 0 0), (vi 0), (vs none 0 0), (vi 0), (vi 0), (vs none 0 0), (vb false), (vi 0), (vs none 0 0)] wN zero_38 ?_
 intro g42 w2 p43 p44 k45 b46
 have m47 := m41.extk k45
 refine aw (vi 0) ?_
 refine nx ?_
 have b48 := (b40.kp k45)
 refine lN (L_38 x_c a1 c2 a6 c7 a11 c12 a16 c17 a21 c22 a26 c27) wN isAgg_38 sizeOf_38 b48 ?_
 refine cl wN (C_spec_l14Copy w2 _ x_c (mR_38 (r3.from0 m47) s4 (r8.from0 m47) s9 (r13.from0 m47) s14 (r18.from0 m47) s19 (r23.from0 m47) s24 (r28.from0 m47) s29)) ?_
 rintro _ w3 ⟨k49, ⟨a50, c51, a55, c56, a60, c61, a65, c66, a70, c71, a75, c76, rfl, o52, s53, o57, s58, o62, s63, o67, s68, o72, s73, o77, s78, ap80⟩⟩
 have m81 := m47.extk k49
 refine al [(vi 0), (vs none 0 0), (vi 0), (vs none 0 0), (vi 0), (vi 0), (vs none 0 0), (vi 0), (vs none 0 0), (vi 0), (vi 0), (vs none 0 0), (vb false), (vi 0), (vs none 0 0)] wN zero_38 ?_
 intro g82 w4 p83 p84 k85 b86
 have m87 := m81.extk k85
 refine sv (L_38 (F_spec_l14Copy x_c) a50 c51 a55 c56 a60 c61 a65 c66 a70 c71 a75 c76) wN sizeOf_38 b86 ?_
 intro w5 k88 b89 z90
 have m91 := m87.ext k88 (fun k hk => by subst hk; exact Nat.le_trans (z3 k39 k45 k49) p83)
 refine n4 ?_
 have b92 := (((b48.kp k49).kp k85).ch k88 (Nat.ne_of_lt (Nat.lt_of_lt_of_le p38 (Nat.le_trans (z2 k45 k49) p83))))
 refine lN (L_38 x_c a1 c2 a6 c7 a11 c12 a16 c17 a21 c22 a26 c27) wN isAgg_38 sizeOf_38 b92 ?_
 refine cl wN (C_spec_ChanOk w5 _ x_c (mR_38 (r3.from0 m91) s4 (r8.from0 m91) s9 (r13.from0 m91) s14 (r18.from0 m91) s19 (r23.from0 m91) s24 (r28.from0 m91) s29)) ?_
 rintro _ w6 ⟨k93, rfl⟩
 have m94 := m91.extk k93
 refine pu (vb (!(F_spec_ChanOk x_c))) wN ?_
 refine mw (vb (!(F_spec_ChanOk x_c))) ?_
 rcases bf (F_spec_ChanOk x_c) with h95 | h95
 ·refine sk (congrArg not h95) ?_
  refine sk (congrArg not h95) ?_
  refine sk (congrArg not h95) ?_
  refine pk (vb true) wN (congrArg not h95) ?_
  refine mw (vb true) ?_
  refine sk T1 ?_
  refine sk T1 ?_
  refine sk T1 ?_
  refine pk (vb true) wN (Eq.refl true) ?_
  refine mw (vb true) ?_
  refine sk T1 ?_
  refine sk T1 ?_
  refine sk T1 ?_
  refine sk T1 ?_
  refine sk T1 ?_
  refine sk T1 ?_
  refine pk (vb true) wN (Eq.refl true) ?_
  refine n2 ?_
  refine ct (Eq.refl true) ?_
  refine sr ?_
  have b263 := (b89.kp k93)
  refine lN (L_38 (F_spec_l14Copy x_c) a50 c51 a55 c56 a60 c61 a65 c66 a70 c71 a75 c76) wN isAgg_38 sizeOf_38 b263 ?_
  have b264 := ((((b46.kp k49).kp k85).ch k88 (Nat.ne_of_lt (Nat.lt_of_lt_of_le p44 (Nat.le_trans k49.size p83)))).kp k93)
  refine sv (L_38 (F_spec_l14Copy x_c) a50 c51 a55 c56 a60 c61 a65 c66 a70 c71 a75 c76) wN sizeOf_38 b264 ?_
  intro w7 k265 b266 z267
  have m268 := m94.ext k265 (fun k hk => by subst hk; exact Nat.le_trans k39.size p43)
  refine aw (vi 6) ?_
  refine n1 ?_
  have o269 := (own_ch (own_kp (own_ch (own_kp o52 k85) k88 (ne2 o52 (p83))) k93) k265 (ne1 o52 (p44)))
  have o270 := (own_ch (own_kp (own_ch (own_kp o57 k85) k88 (ne2 o57 (p83))) k93) k265 (ne1 o57 (p44)))
  have o271 := (own_ch (own_kp (own_ch (own_kp o62 k85) k88 (ne2 o62 (p83))) k93) k265 (ne1 o62 (p44)))
  have o272 := (own_ch (own_kp (own_ch (own_kp o67 k85) k88 (ne2 o67 (p83))) k93) k265 (ne1 o67 (p44)))
  have o273 := (own_ch (own_kp (own_ch (own_kp o72 k85) k88 (ne2 o72 (p83))) k93) k265 (ne1 o72 (p44)))
  have o274 := (own_ch (own_kp (own_ch (own_kp o77 k85) k88 (ne2 o77 (p83))) k93) k265 (ne1 o77 (p44)))
  refine ret_2 (.inl rfl) (va (L_38 (F_spec_l14Copy x_c) a50 c51 a55 c56 a60 c61 a65 c66 a70 c71 a75 c76)) (vi 6) rfl (rv_c [(vi ((F_spec_l14Copy x_c).Role)), (vs a50 ((F_spec_l14Copy x_c).Sn).length c51), (vi (((F_spec_l14Copy x_c).Cur).N)), (vs a55 (((F_spec_l14Copy x_c).Cur).Key).length c56), (vi (((F_spec_l14Copy x_c).Cur).Seq)), (vi ((((F_spec_l14Copy x_c).Cur).Win).Top)), (vs a60 ((((F_spec_l14Copy x_c).Cur).Win).Bits).length c61), (vi (((F_spec_l14Copy x_c).Old).N)), (vs a65 (((F_spec_l14Copy x_c).Old).Key).length c66), (vi (((F_spec_l14Copy x_c).Old).Seq)), (vi ((((F_spec_l14Copy x_c).Old).Win).Top)), (vs a70 ((((F_spec_l14Copy x_c).Old).Win).Bits).length c71), (vb ((F_spec_l14Copy x_c).HasOld)), (vi ((F_spec_l14Copy x_c).Until)), (vs a75 ((F_spec_l14Copy x_c).Next).length c76)] rfl b266 isAgg_38 sizeOf_38) rfl ?_
  refine ⟨m268.keep0, ?_⟩
  have hF275 : F_spec_HearRekey x_c x_under x_plain = ((F_spec_l14Copy x_c), 6) := by simp only [F_spec_HearRekey, h95, cond_true, cond_false]
  rw [hF275]
  exact ⟨_, _, _, _, _, _, _, _, _, _, _, _, rfl, (own_lo o269 (z2 k39 k45)), s53, (own_lo o270 (z2 k39 k45)), s58, (own_lo o271 (z2 k39 k45)), s63, (own_lo o272 (z2 k39 k45)), s68, (own_lo o273 (z2 k39 k45)), s73, (own_lo o274 (z2 k39 k45)), s78, ⟨⟨(ap80.1.1), ⟨(ap80.1.2.1), ⟨(ap80.1.2.2.1), ⟨(ap80.1.2.2.2.1), ⟨(ap80.1.2.2.2.2.1), trivial⟩⟩⟩⟩⟩, ⟨⟨(ap80.2.1.1), ⟨(ap80.2.1.2.1), ⟨(ap80.2.1.2.2.1), ⟨(ap80.2.1.2.2.2.1), trivial⟩⟩⟩⟩, ⟨⟨(ap80.2.2.1.1), ⟨(ap80.2.2.1.2.1), ⟨(ap80.2.2.1.2.2.1), trivial⟩⟩⟩, ⟨⟨(ap80.2.2.2.1.1), ⟨(ap80.2.2.2.1.2.1), trivial⟩⟩, ⟨⟨(ap80.2.2.2.2.1.1), trivial⟩, ⟨trivial, trivial⟩⟩⟩⟩⟩⟩⟩
 have q96 := spec_ChanOk_t h95
 refine pu (vp g36 0) (wS (congrArg not h95)) ?_
 have b97 := (b92.kp k93)
 refine ld (vi x_c.Role) (wS (congrArg not h95)) isAgg_3 b97 ?_
 refine pu (vb (!(decide (x_c.Role = 1)))) (wS (congrArg not h95)) ?_
 refine pf (vb (!(decide (x_c.Role = 1)))) wN (congrArg not h95) ?_
 refine mw (vb (!(decide (x_c.Role = 1)))) ?_
 rcases bf (decide (x_c.Role = 1)) with h98 | h98
 ·have q248 := of_decide_eq_false h98
  refine sk (congrArg not h98) ?_
  refine sk (congrArg not h98) ?_
  refine sk (congrArg not h98) ?_
  refine pk (vb true) wN (congrArg not h98) ?_
  refine mw (vb true) ?_
  refine sk T1 ?_
  refine sk T1 ?_
  refine sk T1 ?_
  refine sk T1 ?_
  refine sk T1 ?_
  refine sk T1 ?_
  refine pk (vb true) wN (Eq.refl true) ?_
  refine n2 ?_
  refine ct (Eq.refl true) ?_
  refine sr ?_
  have b249 := (b89.kp k93)
  refine lN (L_38 (F_spec_l14Copy x_c) a50 c51 a55 c56 a60 c61 a65 c66 a70 c71 a75 c76) wN isAgg_38 sizeOf_38 b249 ?_
  have b250 := ((((b46.kp k49).kp k85).ch k88 (Nat.ne_of_lt (Nat.lt_of_lt_of_le p44 (Nat.le_trans k49.size p83)))).kp k93)
  refine sv (L_38 (F_spec_l14Copy x_c) a50 c51 a55 c56 a60 c61 a65 c66 a70 c71 a75 c76) wN sizeOf_38 b250 ?_
  intro w7 k251 b252 z253
  have m254 := m94.ext k251 (fun k hk => by subst hk; exact Nat.le_trans k39.size p43)
  refine aw (vi 6) ?_
  refine n1 ?_
  have o255 := (own_ch (own_kp (own_ch (own_kp o52 k85) k88 (ne2 o52 (p83))) k93) k251 (ne1 o52 (p44)))
  have o256 := (own_ch (own_kp (own_ch (own_kp o57 k85) k88 (ne2 o57 (p83))) k93) k251 (ne1 o57 (p44)))
  have o257 := (own_ch (own_kp (own_ch (own_kp o62 k85) k88 (ne2 o62 (p83))) k93) k251 (ne1 o62 (p44)))
  have o258 := (own_ch (own_kp (own_ch (own_kp o67 k85) k88 (ne2 o67 (p83))) k93) k251 (ne1 o67 (p44)))
  have o259 := (own_ch (own_kp (own_ch (own_kp o72 k85) k88 (ne2 o72 (p83))) k93) k251 (ne1 o72 (p44)))
  have o260 := (own_ch (own_kp (own_ch (own_kp o77 k85) k88 (ne2 o77 (p83))) k93) k251 (ne1 o77 (p44)))
  refine ret_2 (.inl rfl) (va (L_38 (F_spec_l14Copy x_c) a50 c51 a55 c56 a60 c61 a65 c66 a70 c71 a75 c76)) (vi 6) rfl (rv_c [(vi ((F_spec_l14Copy x_c).Role)), (vs a50 ((F_spec_l14Copy x_c).Sn).length c51), (vi (((F_spec_l14Copy x_c).Cur).N)), (vs a55 (((F_spec_l14Copy x_c).Cur).Key).length c56), (vi (((F_spec_l14Copy x_c).Cur).Seq)), (vi ((((F_spec_l14Copy x_c).Cur).Win).Top)), (vs a60 ((((F_spec_l14Copy x_c).Cur).Win).Bits).length c61), (vi (((F_spec_l14Copy x_c).Old).N)), (vs a65 (((F_spec_l14Copy x_c).Old).Key).length c66), (vi (((F_spec_l14Copy x_c).Old).Seq)), (vi ((((F_spec_l14Copy x_c).Old).Win).Top)), (vs a70 ((((F_spec_l14Copy x_c).Old).Win).Bits).length c71), (vb ((F_spec_l14Copy x_c).HasOld)), (vi ((F_spec_l14Copy x_c).Until)), (vs a75 ((F_spec_l14Copy x_c).Next).length c76)] rfl b252 isAgg_38 sizeOf_38) rfl ?_
  refine ⟨m254.keep0, ?_⟩
  have hF261 : F_spec_HearRekey x_c x_under x_plain = ((F_spec_l14Copy x_c), 6) := by simp only [F_spec_HearRekey, h95, h98, cond_true, cond_false]
  rw [hF261]
  exact ⟨_, _, _, _, _, _, _, _, _, _, _, _, rfl, (own_lo o255 (z2 k39 k45)), s53, (own_lo o256 (z2 k39 k45)), s58, (own_lo o257 (z2 k39 k45)), s63, (own_lo o258 (z2 k39 k45)), s68, (own_lo o259 (z2 k39 k45)), s73, (own_lo o260 (z2 k39 k45)), s78, ⟨⟨(ap80.1.1), ⟨(ap80.1.2.1), ⟨(ap80.1.2.2.1), ⟨(ap80.1.2.2.2.1), ⟨(ap80.1.2.2.2.2.1), trivial⟩⟩⟩⟩⟩, ⟨⟨(ap80.2.1.1), ⟨(ap80.2.1.2.1), ⟨(ap80.2.1.2.2.1), ⟨(ap80.2.1.2.2.2.1), trivial⟩⟩⟩⟩, ⟨⟨(ap80.2.2.1.1), ⟨(ap80.2.2.1.2.1), ⟨(ap80.2.2.1.2.2.1), trivial⟩⟩⟩, ⟨⟨(ap80.2.2.2.1.1), ⟨(ap80.2.2.2.1.2.1), trivial⟩⟩, ⟨⟨(ap80.2.2.2.2.1.1), trivial⟩, ⟨trivial, trivial⟩⟩⟩⟩⟩⟩⟩
 have q99 := of_decide_eq_true h98
 refine mv (vi x_under) (wS (congrArg not h98)) ?_
 refine cl (wS (congrArg not h98)) (C_spec_l1In w6 x_under 0 4294967294) ?_
 rintro _ w7 ⟨k100, rfl⟩
 have m101 := m94.extk k100
 refine pu (vb (!(F_spec_l1In x_under 0 4294967294))) (wS (congrArg not h98)) ?_
 refine pf (vb (!(F_spec_l1In x_under 0 4294967294))) wN (congrArg not h98) ?_
 refine mw (vb (!(F_spec_l1In x_under 0 4294967294))) ?_
 rcases bf (F_spec_l1In x_under 0 4294967294) with h102 | h102
 ·have q234 := spec_l1In_f h102
  refine sk (congrArg not h102) ?_
  refine sk (congrArg not h102) ?_
  refine sk (congrArg not h102) ?_
  refine sk (congrArg not h102) ?_
  refine sk (congrArg not h102) ?_
  refine sk (congrArg not h102) ?_
  refine pk (vb true) wN (congrArg not h102) ?_
  refine n2 ?_
  refine ct (Eq.refl true) ?_
  refine sr ?_
  have b235 := ((b89.kp k93).kp k100)
  refine lN (L_38 (F_spec_l14Copy x_c) a50 c51 a55 c56 a60 c61 a65 c66 a70 c71 a75 c76) wN isAgg_38 sizeOf_38 b235 ?_
  have b236 := (((((b46.kp k49).kp k85).ch k88 (Nat.ne_of_lt (Nat.lt_of_lt_of_le p44 (Nat.le_trans k49.size p83)))).kp k93).kp k100)
  refine sv (L_38 (F_spec_l14Copy x_c) a50 c51 a55 c56 a60 c61 a65 c66 a70 c71 a75 c76) wN sizeOf_38 b236 ?_
  intro w8 k237 b238 z239
  have m240 := m101.ext k237 (fun k hk => by subst hk; exact Nat.le_trans k39.size p43)
  refine aw (vi 6) ?_
  refine n1 ?_
  have o241 := (own_ch (own_kp (own_kp (own_ch (own_kp o52 k85) k88 (ne2 o52 (p83))) k93) k100) k237 (ne1 o52 (p44)))
  have o242 := (own_ch (own_kp (own_kp (own_ch (own_kp o57 k85) k88 (ne2 o57 (p83))) k93) k100) k237 (ne1 o57 (p44)))
  have o243 := (own_ch (own_kp (own_kp (own_ch (own_kp o62 k85) k88 (ne2 o62 (p83))) k93) k100) k237 (ne1 o62 (p44)))
  have o244 := (own_ch (own_kp (own_kp (own_ch (own_kp o67 k85) k88 (ne2 o67 (p83))) k93) k100) k237 (ne1 o67 (p44)))
  have o245 := (own_ch (own_kp (own_kp (own_ch (own_kp o72 k85) k88 (ne2 o72 (p83))) k93) k100) k237 (ne1 o72 (p44)))
  have o246 := (own_ch (own_kp (own_kp (own_ch (own_kp o77 k85) k88 (ne2 o77 (p83))) k93) k100) k237 (ne1 o77 (p44)))
  refine ret_2 (.inl rfl) (va (L_38 (F_spec_l14Copy x_c) a50 c51 a55 c56 a60 c61 a65 c66 a70 c71 a75 c76)) (vi 6) rfl (rv_c [(vi ((F_spec_l14Copy x_c).Role)), (vs a50 ((F_spec_l14Copy x_c).Sn).length c51), (vi (((F_spec_l14Copy x_c).Cur).N)), (vs a55 (((F_spec_l14Copy x_c).Cur).Key).length c56), (vi (((F_spec_l14Copy x_c).Cur).Seq)), (vi ((((F_spec_l14Copy x_c).Cur).Win).Top)), (vs a60 ((((F_spec_l14Copy x_c).Cur).Win).Bits).length c61), (vi (((F_spec_l14Copy x_c).Old).N)), (vs a65 (((F_spec_l14Copy x_c).Old).Key).length c66), (vi (((F_spec_l14Copy x_c).Old).Seq)), (vi ((((F_spec_l14Copy x_c).Old).Win).Top)), (vs a70 ((((F_spec_l14Copy x_c).Old).Win).Bits).length c71), (vb ((F_spec_l14Copy x_c).HasOld)), (vi ((F_spec_l14Copy x_c).Until)), (vs a75 ((F_spec_l14Copy x_c).Next).length c76)] rfl b238 isAgg_38 sizeOf_38) rfl ?_
  refine ⟨m240.keep0, ?_⟩
  have hF247 : F_spec_HearRekey x_c x_under x_plain = ((F_spec_l14Copy x_c), 6) := by simp only [F_spec_HearRekey, h95, h98, h102, cond_true, cond_false]
  rw [hF247]
  exact ⟨_, _, _, _, _, _, _, _, _, _, _, _, rfl, (own_lo o241 (z2 k39 k45)), s53, (own_lo o242 (z2 k39 k45)), s58, (own_lo o243 (z2 k39 k45)), s63, (own_lo o244 (z2 k39 k45)), s68, (own_lo o245 (z2 k39 k45)), s73, (own_lo o246 (z2 k39 k45)), s78, ⟨⟨(ap80.1.1), ⟨(ap80.1.2.1), ⟨(ap80.1.2.2.1), ⟨(ap80.1.2.2.2.1), ⟨(ap80.1.2.2.2.2.1), trivial⟩⟩⟩⟩⟩, ⟨⟨(ap80.2.1.1), ⟨(ap80.2.1.2.1), ⟨(ap80.2.1.2.2.1), ⟨(ap80.2.1.2.2.2.1), trivial⟩⟩⟩⟩, ⟨⟨(ap80.2.2.1.1), ⟨(ap80.2.2.1.2.1), ⟨(ap80.2.2.1.2.2.1), trivial⟩⟩⟩, ⟨⟨(ap80.2.2.2.1.1), ⟨(ap80.2.2.2.1.2.1), trivial⟩⟩, ⟨⟨(ap80.2.2.2.2.1.1), trivial⟩, ⟨trivial, trivial⟩⟩⟩⟩⟩⟩⟩
 have q103 := spec_l1In_t h102
 refine mv (vs a31 x_plain.length c32) (wS (congrArg not h102)) ?_
 refine mv (vi x_under) (wS (congrArg not h102)) ?_
 refine ar (x_under + 1) (wS (congrArg not h102)) ?_
 refine cl (wS (congrArg not h102)) (C_spec_RekeyBody w7 (x_under + 1)) ?_
 rintro _ w8 ⟨k104, ⟨a105, c106, rfl, o107, s108, ap110⟩⟩
 have m111 := m101.extk k104
 refine cl (wS (congrArg not h102)) (C_spec_l1Same w8 _ x_plain (mR_22 (r33.from0 m111) s34) _ (F_spec_RekeyBody (x_under + 1)) (mR_22 (Rd.of_own o107) s108)) ?_
 rintro _ w9 ⟨k112, rfl⟩
 have m113 := m111.extk k112
 refine pu (vb (!(F_spec_l1Same x_plain (F_spec_RekeyBody (x_under + 1))))) (wS (congrArg not h102)) ?_
 refine pf (vb (!(F_spec_l1Same x_plain (F_spec_RekeyBody (x_under + 1))))) wN (congrArg not h102) ?_
 refine n2 ?_
 rcases bf (F_spec_l1Same x_plain (F_spec_RekeyBody (x_under + 1))) with h114 | h114
 ·refine ct (congrArg not h114) ?_
  refine sr ?_
  have b221 := ((((b89.kp k93).kp k100).kp k104).kp k112)
  refine lN (L_38 (F_spec_l14Copy x_c) a50 c51 a55 c56 a60 c61 a65 c66 a70 c71 a75 c76) wN isAgg_38 sizeOf_38 b221 ?_
  have b222 := (((((((b46.kp k49).kp k85).ch k88 (Nat.ne_of_lt (Nat.lt_of_lt_of_le p44 (Nat.le_trans k49.size p83)))).kp k93).kp k100).kp k104).kp k112)
  refine sv (L_38 (F_spec_l14Copy x_c) a50 c51 a55 c56 a60 c61 a65 c66 a70 c71 a75 c76) wN sizeOf_38 b222 ?_
  intro w10 k223 b224 z225
  have m226 := m113.ext k223 (fun k hk => by subst hk; exact Nat.le_trans k39.size p43)
  refine aw (vi 6) ?_
  refine n1 ?_
  have o227 := (own_ch (own_kp (own_kp (own_kp (own_kp (own_ch (own_kp o52 k85) k88 (ne2 o52 (p83))) k93) k100) k104) k112) k223 (ne1 o52 (p44)))
  have o228 := (own_ch (own_kp (own_kp (own_kp (own_kp (own_ch (own_kp o57 k85) k88 (ne2 o57 (p83))) k93) k100) k104) k112) k223 (ne1 o57 (p44)))
  have o229 := (own_ch (own_kp (own_kp (own_kp (own_kp (own_ch (own_kp o62 k85) k88 (ne2 o62 (p83))) k93) k100) k104) k112) k223 (ne1 o62 (p44)))
  have o230 := (own_ch (own_kp (own_kp (own_kp (own_kp (own_ch (own_kp o67 k85) k88 (ne2 o67 (p83))) k93) k100) k104) k112) k223 (ne1 o67 (p44)))
  have o231 := (own_ch (own_kp (own_kp (own_kp (own_kp (own_ch (own_kp o72 k85) k88 (ne2 o72 (p83))) k93) k100) k104) k112) k223 (ne1 o72 (p44)))
  have o232 := (own_ch (own_kp (own_kp (own_kp (own_kp (own_ch (own_kp o77 k85) k88 (ne2 o77 (p83))) k93) k100) k104) k112) k223 (ne1 o77 (p44)))
  refine ret_2 (.inl rfl) (va (L_38 (F_spec_l14Copy x_c) a50 c51 a55 c56 a60 c61 a65 c66 a70 c71 a75 c76)) (vi 6) rfl (rv_c [(vi ((F_spec_l14Copy x_c).Role)), (vs a50 ((F_spec_l14Copy x_c).Sn).length c51), (vi (((F_spec_l14Copy x_c).Cur).N)), (vs a55 (((F_spec_l14Copy x_c).Cur).Key).length c56), (vi (((F_spec_l14Copy x_c).Cur).Seq)), (vi ((((F_spec_l14Copy x_c).Cur).Win).Top)), (vs a60 ((((F_spec_l14Copy x_c).Cur).Win).Bits).length c61), (vi (((F_spec_l14Copy x_c).Old).N)), (vs a65 (((F_spec_l14Copy x_c).Old).Key).length c66), (vi (((F_spec_l14Copy x_c).Old).Seq)), (vi ((((F_spec_l14Copy x_c).Old).Win).Top)), (vs a70 ((((F_spec_l14Copy x_c).Old).Win).Bits).length c71), (vb ((F_spec_l14Copy x_c).HasOld)), (vi ((F_spec_l14Copy x_c).Until)), (vs a75 ((F_spec_l14Copy x_c).Next).length c76)] rfl b224 isAgg_38 sizeOf_38) rfl ?_
  refine ⟨m226.keep0, ?_⟩
  have hF233 : F_spec_HearRekey x_c x_under x_plain = ((F_spec_l14Copy x_c), 6) := by simp only [F_spec_HearRekey, h95, h98, h102, h114, cond_true, cond_false]
  rw [hF233]
  exact ⟨_, _, _, _, _, _, _, _, _, _, _, _, rfl, (own_lo o227 (z2 k39 k45)), s53, (own_lo o228 (z2 k39 k45)), s58, (own_lo o229 (z2 k39 k45)), s63, (own_lo o230 (z2 k39 k45)), s68, (own_lo o231 (z2 k39 k45)), s73, (own_lo o232 (z2 k39 k45)), s78, ⟨⟨(ap80.1.1), ⟨(ap80.1.2.1), ⟨(ap80.1.2.2.1), ⟨(ap80.1.2.2.2.1), ⟨(ap80.1.2.2.2.2.1), trivial⟩⟩⟩⟩⟩, ⟨⟨(ap80.2.1.1), ⟨(ap80.2.1.2.1), ⟨(ap80.2.1.2.2.1), ⟨(ap80.2.1.2.2.2.1), trivial⟩⟩⟩⟩, ⟨⟨(ap80.2.2.1.1), ⟨(ap80.2.2.1.2.1), ⟨(ap80.2.2.1.2.2.1), trivial⟩⟩⟩, ⟨⟨(ap80.2.2.2.1.1), ⟨(ap80.2.2.2.1.2.1), trivial⟩⟩, ⟨⟨(ap80.2.2.2.2.1.1), trivial⟩, ⟨trivial, trivial⟩⟩⟩⟩⟩⟩⟩
 refine cf (congrArg not h114) ?_
 refine y2 ?_
 refine mw (vi x_under) ?_
 refine pu (vp g36 2) wN ?_
 refine pu (vp g36 2) wN ?_
 have b116 := (((b97.kp k100).kp k104).kp k112)
 refine ld (vi x_c.Cur.N) wN isAgg_3 b116 ?_
 refine pu (vb (decide (x_under = x_c.Cur.N))) wN ?_
 refine n2 ?_
 rcases bf (decide (x_under = x_c.Cur.N)) with h117 | h117
 ·have q190 := of_decide_eq_false h117
  refine cf h117 ?_
  refine y2 ?_
  refine mw (vi x_under) ?_
  refine pu (vp g36 2) wN ?_
  refine pu (vp g36 2) wN ?_
  refine ld (vi x_c.Cur.N) wN isAgg_3 b116 ?_
  refine ar (x_c.Cur.N - 1) wN ?_
  refine pu (vb (decide (x_under = (x_c.Cur.N - 1)))) wN ?_
  refine n2 ?_
  rcases bt (decide (x_under = (x_c.Cur.N - 1))) with h191 | h191
  ·have q192 := of_decide_eq_true h191
   refine ct h191 ?_
   refine sr ?_
   have b193 := ((((b89.kp k93).kp k100).kp k104).kp k112)
   refine lN (L_38 (F_spec_l14Copy x_c) a50 c51 a55 c56 a60 c61 a65 c66 a70 c71 a75 c76) wN isAgg_38 sizeOf_38 b193 ?_
   have b194 := (((((((b46.kp k49).kp k85).ch k88 (Nat.ne_of_lt (Nat.lt_of_lt_of_le p44 (Nat.le_trans k49.size p83)))).kp k93).kp k100).kp k104).kp k112)
   refine sv (L_38 (F_spec_l14Copy x_c) a50 c51 a55 c56 a60 c61 a65 c66 a70 c71 a75 c76) wN sizeOf_38 b194 ?_
   intro w10 k195 b196 z197
   have m198 := m113.ext k195 (fun k hk => by subst hk; exact Nat.le_trans k39.size p43)
   refine aw (vi 0) ?_
   refine n1 ?_
   have o199 := (own_ch (own_kp (own_kp (own_kp (own_kp (own_ch (own_kp o52 k85) k88 (ne2 o52 (p83))) k93) k100) k104) k112) k195 (ne1 o52 (p44)))
   have o200 := (own_ch (own_kp (own_kp (own_kp (own_kp (own_ch (own_kp o57 k85) k88 (ne2 o57 (p83))) k93) k100) k104) k112) k195 (ne1 o57 (p44)))
   have o201 := (own_ch (own_kp (own_kp (own_kp (own_kp (own_ch (own_kp o62 k85) k88 (ne2 o62 (p83))) k93) k100) k104) k112) k195 (ne1 o62 (p44)))
   have o202 := (own_ch (own_kp (own_kp (own_kp (own_kp (own_ch (own_kp o67 k85) k88 (ne2 o67 (p83))) k93) k100) k104) k112) k195 (ne1 o67 (p44)))
   have o203 := (own_ch (own_kp (own_kp (own_kp (own_kp (own_ch (own_kp o72 k85) k88 (ne2 o72 (p83))) k93) k100) k104) k112) k195 (ne1 o72 (p44)))
   have o204 := (own_ch (own_kp (own_kp (own_kp (own_kp (own_ch (own_kp o77 k85) k88 (ne2 o77 (p83))) k93) k100) k104) k112) k195 (ne1 o77 (p44)))
   refine ret_2 (.inl rfl) (va (L_38 (F_spec_l14Copy x_c) a50 c51 a55 c56 a60 c61 a65 c66 a70 c71 a75 c76)) (vi 0) rfl (rv_c [(vi ((F_spec_l14Copy x_c).Role)), (vs a50 ((F_spec_l14Copy x_c).Sn).length c51), (vi (((F_spec_l14Copy x_c).Cur).N)), (vs a55 (((F_spec_l14Copy x_c).Cur).Key).length c56), (vi (((F_spec_l14Copy x_c).Cur).Seq)), (vi ((((F_spec_l14Copy x_c).Cur).Win).Top)), (vs a60 ((((F_spec_l14Copy x_c).Cur).Win).Bits).length c61), (vi (((F_spec_l14Copy x_c).Old).N)), (vs a65 (((F_spec_l14Copy x_c).Old).Key).length c66), (vi (((F_spec_l14Copy x_c).Old).Seq)), (vi ((((F_spec_l14Copy x_c).Old).Win).Top)), (vs a70 ((((F_spec_l14Copy x_c).Old).Win).Bits).length c71), (vb ((F_spec_l14Copy x_c).HasOld)), (vi ((F_spec_l14Copy x_c).Until)), (vs a75 ((F_spec_l14Copy x_c).Next).length c76)] rfl b196 isAgg_38 sizeOf_38) rfl ?_
   refine ⟨m198.keep0, ?_⟩
   have hF205 : F_spec_HearRekey x_c x_under x_plain = ((F_spec_l14Copy x_c), 0) := by simp only [F_spec_HearRekey, h95, h98, h102, h114, h117, h191, cond_true, cond_false]
   rw [hF205]
   exact ⟨_, _, _, _, _, _, _, _, _, _, _, _, rfl, (own_lo o199 (z2 k39 k45)), s53, (own_lo o200 (z2 k39 k45)), s58, (own_lo o201 (z2 k39 k45)), s63, (own_lo o202 (z2 k39 k45)), s68, (own_lo o203 (z2 k39 k45)), s73, (own_lo o204 (z2 k39 k45)), s78, ⟨⟨(ap80.1.1), ⟨(ap80.1.2.1), ⟨(ap80.1.2.2.1), ⟨(ap80.1.2.2.2.1), ⟨(ap80.1.2.2.2.2.1), trivial⟩⟩⟩⟩⟩, ⟨⟨(ap80.2.1.1), ⟨(ap80.2.1.2.1), ⟨(ap80.2.1.2.2.1), ⟨(ap80.2.1.2.2.2.1), trivial⟩⟩⟩⟩, ⟨⟨(ap80.2.2.1.1), ⟨(ap80.2.2.1.2.1), ⟨(ap80.2.2.1.2.2.1), trivial⟩⟩⟩, ⟨⟨(ap80.2.2.2.1.1), ⟨(ap80.2.2.2.1.2.1), trivial⟩⟩, ⟨⟨(ap80.2.2.2.2.1.1), trivial⟩, ⟨trivial, trivial⟩⟩⟩⟩⟩⟩⟩
  have q206 := of_decide_eq_false h191
  refine cf h191 ?_
  refine y1 ?_
  have b207 := ((((b89.kp k93).kp k100).kp k104).kp k112)
  refine lN (L_38 (F_spec_l14Copy x_c) a50 c51 a55 c56 a60 c61 a65 c66 a70 c71 a75 c76) wN isAgg_38 sizeOf_38 b207 ?_
  have b208 := (((((((b46.kp k49).kp k85).ch k88 (Nat.ne_of_lt (Nat.lt_of_lt_of_le p44 (Nat.le_trans k49.size p83)))).kp k93).kp k100).kp k104).kp k112)
  refine sv (L_38 (F_spec_l14Copy x_c) a50 c51 a55 c56 a60 c61 a65 c66 a70 c71 a75 c76) wN sizeOf_38 b208 ?_
  intro w10 k209 b210 z211
  have m212 := m113.ext k209 (fun k hk => by subst hk; exact Nat.le_trans k39.size p43)
  refine aw (vi 6) ?_
  refine n3 ?_
  have o213 := (own_ch (own_kp (own_kp (own_kp (own_kp (own_ch (own_kp o52 k85) k88 (ne2 o52 (p83))) k93) k100) k104) k112) k209 (ne1 o52 (p44)))
  have o214 := (own_ch (own_kp (own_kp (own_kp (own_kp (own_ch (own_kp o57 k85) k88 (ne2 o57 (p83))) k93) k100) k104) k112) k209 (ne1 o57 (p44)))
  have o215 := (own_ch (own_kp (own_kp (own_kp (own_kp (own_ch (own_kp o62 k85) k88 (ne2 o62 (p83))) k93) k100) k104) k112) k209 (ne1 o62 (p44)))
  have o216 := (own_ch (own_kp (own_kp (own_kp (own_kp (own_ch (own_kp o67 k85) k88 (ne2 o67 (p83))) k93) k100) k104) k112) k209 (ne1 o67 (p44)))
  have o217 := (own_ch (own_kp (own_kp (own_kp (own_kp (own_ch (own_kp o72 k85) k88 (ne2 o72 (p83))) k93) k100) k104) k112) k209 (ne1 o72 (p44)))
  have o218 := (own_ch (own_kp (own_kp (own_kp (own_kp (own_ch (own_kp o77 k85) k88 (ne2 o77 (p83))) k93) k100) k104) k112) k209 (ne1 o77 (p44)))
  refine ret_2 (.inl rfl) (va (L_38 (F_spec_l14Copy x_c) a50 c51 a55 c56 a60 c61 a65 c66 a70 c71 a75 c76)) (vi 6) rfl (rv_c [(vi ((F_spec_l14Copy x_c).Role)), (vs a50 ((F_spec_l14Copy x_c).Sn).length c51), (vi (((F_spec_l14Copy x_c).Cur).N)), (vs a55 (((F_spec_l14Copy x_c).Cur).Key).length c56), (vi (((F_spec_l14Copy x_c).Cur).Seq)), (vi ((((F_spec_l14Copy x_c).Cur).Win).Top)), (vs a60 ((((F_spec_l14Copy x_c).Cur).Win).Bits).length c61), (vi (((F_spec_l14Copy x_c).Old).N)), (vs a65 (((F_spec_l14Copy x_c).Old).Key).length c66), (vi (((F_spec_l14Copy x_c).Old).Seq)), (vi ((((F_spec_l14Copy x_c).Old).Win).Top)), (vs a70 ((((F_spec_l14Copy x_c).Old).Win).Bits).length c71), (vb ((F_spec_l14Copy x_c).HasOld)), (vi ((F_spec_l14Copy x_c).Until)), (vs a75 ((F_spec_l14Copy x_c).Next).length c76)] rfl b210 isAgg_38 sizeOf_38) rfl ?_
  refine ⟨m212.keep0, ?_⟩
  have hF219 : F_spec_HearRekey x_c x_under x_plain = ((F_spec_l14Copy x_c), 6) := by simp only [F_spec_HearRekey, h95, h98, h102, h114, h117, h191, cond_true, cond_false]
  rw [hF219]
  exact ⟨_, _, _, _, _, _, _, _, _, _, _, _, rfl, (own_lo o213 (z2 k39 k45)), s53, (own_lo o214 (z2 k39 k45)), s58, (own_lo o215 (z2 k39 k45)), s63, (own_lo o216 (z2 k39 k45)), s68, (own_lo o217 (z2 k39 k45)), s73, (own_lo o218 (z2 k39 k45)), s78, ⟨⟨(ap80.1.1), ⟨(ap80.1.2.1), ⟨(ap80.1.2.2.1), ⟨(ap80.1.2.2.2.1), ⟨(ap80.1.2.2.2.2.1), trivial⟩⟩⟩⟩⟩, ⟨⟨(ap80.2.1.1), ⟨(ap80.2.1.2.1), ⟨(ap80.2.1.2.2.1), ⟨(ap80.2.1.2.2.2.1), trivial⟩⟩⟩⟩, ⟨⟨(ap80.2.2.1.1), ⟨(ap80.2.2.1.2.1), ⟨(ap80.2.2.1.2.2.1), trivial⟩⟩⟩, ⟨⟨(ap80.2.2.2.1.1), ⟨(ap80.2.2.2.1.2.1), trivial⟩⟩, ⟨⟨(ap80.2.2.2.2.1.1), trivial⟩, ⟨trivial, trivial⟩⟩⟩⟩⟩⟩⟩
 have q118 := of_decide_eq_true h117
 refine ct h117 ?_
 refine sr ?_
 refine lN (L_38 x_c a1 c2 a6 c7 a11 c12 a16 c17 a21 c22 a26 c27) wN isAgg_38 sizeOf_38 b116 ?_
 refine cl wN (C_spec_Turn w9 _ x_c (mR_38 (r3.from0 m113) s4 (r8.from0 m113) s9 (r13.from0 m113) s14 (r18.from0 m113) s19 (r23.from0 m113) s24 (r28.from0 m113) s29)) ?_
 rintro _ w10 ⟨k119, ⟨a120, c121, a125, c126, a130, c131, a135, c136, a140, c141, a145, c146, rfl, o122, s123, o127, s128, o132, s133, o137, s138, o142, s143, o147, s148, ap150⟩⟩
 have m151 := m113.extk k119
 refine mw (.tuple #[(va (L_38 ((F_spec_Turn x_c).1) a120 c121 a125 c126 a130 c131 a135 c136 a140 c141 a145 c146)), (vb ((F_spec_Turn x_c).2))]) ?_
 refine pu (va (L_38 ((F_spec_Turn x_c).1) a120 c121 a125 c126 a130 c131 a135 c136 a140 c141 a145 c146)) wN ?_
 refine pu (vb ((F_spec_Turn x_c).2)) wN ?_
 refine al [(vi 0), (vs none 0 0), (vi 0), (vs none 0 0), (vi 0), (vi 0), (vs none 0 0), (vi 0), (vs none 0 0), (vi 0), (vi 0), (vs none 0 0), (vb false), (vi 0), (vs none 0 0)] wN zero_38 ?_
 intro g152 w11 p153 p154 k155 b156
 have m157 := m151.extk k155
 refine sv (L_38 ((F_spec_Turn x_c).1) a120 c121 a125 c126 a130 c131 a135 c136 a140 c141 a145 c146) wN sizeOf_38 b156 ?_
 intro w12 k158 b159 z160
 have m161 := m157.ext k158 (fun k hk => by subst hk; exact Nat.le_trans (z10 k39 k45 k49 k85 k88 k93 k100 k104 k112 k119) p153)
 refine aw (vb ((F_spec_Turn x_c).2)) ?_
 refine n4 ?_
 refine mw (vb ((F_spec_Turn x_c).2)) ?_
 refine pu (vb (!((F_spec_Turn x_c).2))) wN ?_
 refine n2 ?_
 rcases bt ((F_spec_Turn x_c).2) with h162 | h162
 ·refine cf (congrArg not h162) ?_
  refine y1 ?_
  refine lN (L_38 ((F_spec_Turn x_c).1) a120 c121 a125 c126 a130 c131 a135 c136 a140 c141 a145 c146) wN isAgg_38 sizeOf_38 b159 ?_
  have b164 := ((((((((((b46.kp k49).kp k85).ch k88 (Nat.ne_of_lt (Nat.lt_of_lt_of_le p44 (Nat.le_trans k49.size p83)))).kp k93).kp k100).kp k104).kp k112).kp k119).kp k155).ch k158 (Nat.ne_of_lt (Nat.lt_of_lt_of_le p44 (Nat.le_trans (z8 k49 k85 k88 k93 k100 k104 k112 k119) p153))))
  refine sv (L_38 ((F_spec_Turn x_c).1) a120 c121 a125 c126 a130 c131 a135 c136 a140 c141 a145 c146) wN sizeOf_38 b164 ?_
  intro w13 k165 b166 z167
  have m168 := m161.ext k165 (fun k hk => by subst hk; exact Nat.le_trans k39.size p43)
  refine aw (vi 0) ?_
  refine n1 ?_
  have o169 := (own_ch (own_ch (own_kp o122 k155) k158 (ne2 o122 (p153))) k165 (ne1 o122 (Nat.lt_of_lt_of_le p44 (z7 k49 k85 k88 k93 k100 k104 k112))))
  have o170 := (own_ch (own_ch (own_kp o127 k155) k158 (ne2 o127 (p153))) k165 (ne1 o127 (Nat.lt_of_lt_of_le p44 (z7 k49 k85 k88 k93 k100 k104 k112))))
  have o171 := (own_ch (own_ch (own_kp o132 k155) k158 (ne2 o132 (p153))) k165 (ne1 o132 (Nat.lt_of_lt_of_le p44 (z7 k49 k85 k88 k93 k100 k104 k112))))
  have o172 := (own_ch (own_ch (own_kp o137 k155) k158 (ne2 o137 (p153))) k165 (ne1 o137 (Nat.lt_of_lt_of_le p44 (z7 k49 k85 k88 k93 k100 k104 k112))))
  have o173 := (own_ch (own_ch (own_kp o142 k155) k158 (ne2 o142 (p153))) k165 (ne1 o142 (Nat.lt_of_lt_of_le p44 (z7 k49 k85 k88 k93 k100 k104 k112))))
  have o174 := (own_ch (own_ch (own_kp o147 k155) k158 (ne2 o147 (p153))) k165 (ne1 o147 (Nat.lt_of_lt_of_le p44 (z7 k49 k85 k88 k93 k100 k104 k112))))
  refine ret_2 (.inl rfl) (va (L_38 ((F_spec_Turn x_c).1) a120 c121 a125 c126 a130 c131 a135 c136 a140 c141 a145 c146)) (vi 0) rfl (rv_c [(vi (((F_spec_Turn x_c).1).Role)), (vs a120 (((F_spec_Turn x_c).1).Sn).length c121), (vi ((((F_spec_Turn x_c).1).Cur).N)), (vs a125 ((((F_spec_Turn x_c).1).Cur).Key).length c126), (vi ((((F_spec_Turn x_c).1).Cur).Seq)), (vi (((((F_spec_Turn x_c).1).Cur).Win).Top)), (vs a130 (((((F_spec_Turn x_c).1).Cur).Win).Bits).length c131), (vi ((((F_spec_Turn x_c).1).Old).N)), (vs a135 ((((F_spec_Turn x_c).1).Old).Key).length c136), (vi ((((F_spec_Turn x_c).1).Old).Seq)), (vi (((((F_spec_Turn x_c).1).Old).Win).Top)), (vs a140 (((((F_spec_Turn x_c).1).Old).Win).Bits).length c141), (vb (((F_spec_Turn x_c).1).HasOld)), (vi (((F_spec_Turn x_c).1).Until)), (vs a145 (((F_spec_Turn x_c).1).Next).length c146)] rfl b166 isAgg_38 sizeOf_38) rfl ?_
  refine ⟨m168.keep0, ?_⟩
  have hF175 : F_spec_HearRekey x_c x_under x_plain = (((F_spec_Turn x_c).1), 0) := by simp only [F_spec_HearRekey, h95, h98, h102, h114, h117, h162, cond_true, cond_false]
  rw [hF175]
  have zz43 := z9 k39 k45 k49 k85 k88 k93 k100 k104 k112
  exact ⟨_, _, _, _, _, _, _, _, _, _, _, _, rfl, (own_lo o169 zz43), s123, (own_lo o170 zz43), s128, (own_lo o171 zz43), s133, (own_lo o172 zz43), s138, (own_lo o173 zz43), s143, (own_lo o174 zz43), s148, ⟨⟨(ap150.1.1), ⟨(ap150.1.2.1), ⟨(ap150.1.2.2.1), ⟨(ap150.1.2.2.2.1), ⟨(ap150.1.2.2.2.2.1), trivial⟩⟩⟩⟩⟩, ⟨⟨(ap150.2.1.1), ⟨(ap150.2.1.2.1), ⟨(ap150.2.1.2.2.1), ⟨(ap150.2.1.2.2.2.1), trivial⟩⟩⟩⟩, ⟨⟨(ap150.2.2.1.1), ⟨(ap150.2.2.1.2.1), ⟨(ap150.2.2.1.2.2.1), trivial⟩⟩⟩, ⟨⟨(ap150.2.2.2.1.1), ⟨(ap150.2.2.2.1.2.1), trivial⟩⟩, ⟨⟨(ap150.2.2.2.2.1.1), trivial⟩, ⟨trivial, trivial⟩⟩⟩⟩⟩⟩⟩
 refine ct (congrArg not h162) ?_
 refine sr ?_
 have b177 := (((((((b89.kp k93).kp k100).kp k104).kp k112).kp k119).kp k155).ch k158 (Nat.ne_of_lt (Nat.lt_of_lt_of_le p84 (Nat.le_trans (z6 k88 k93 k100 k104 k112 k119) p153))))
 refine lN (L_38 (F_spec_l14Copy x_c) a50 c51 a55 c56 a60 c61 a65 c66 a70 c71 a75 c76) wN isAgg_38 sizeOf_38 b177 ?_
 have b178 := ((((((((((b46.kp k49).kp k85).ch k88 (Nat.ne_of_lt (Nat.lt_of_lt_of_le p44 (Nat.le_trans k49.size p83)))).kp k93).kp k100).kp k104).kp k112).kp k119).kp k155).ch k158 (Nat.ne_of_lt (Nat.lt_of_lt_of_le p44 (Nat.le_trans (z8 k49 k85 k88 k93 k100 k104 k112 k119) p153))))
 refine sv (L_38 (F_spec_l14Copy x_c) a50 c51 a55 c56 a60 c61 a65 c66 a70 c71 a75 c76) wN sizeOf_38 b178 ?_
 intro w13 k179 b180 z181
 have m182 := m161.ext k179 (fun k hk => by subst hk; exact Nat.le_trans k39.size p43)
 refine aw (vi 6) ?_
 refine wl_nil <| wq_then <| wc_ret <| wq_then_ret <| wq_then_ret ?_
 have o183 := (own_ch (own_ch (own_kp (own_kp (own_kp (own_kp (own_kp (own_kp (own_ch (own_kp o52 k85) k88 (ne2 o52 (p83))) k93) k100) k104) k112) k119) k155) k158 (ne2 o52 (Nat.le_trans (z7 k85 k88 k93 k100 k104 k112 k119) p153))) k179 (ne1 o52 (p44)))
 have o184 := (own_ch (own_ch (own_kp (own_kp (own_kp (own_kp (own_kp (own_kp (own_ch (own_kp o57 k85) k88 (ne2 o57 (p83))) k93) k100) k104) k112) k119) k155) k158 (ne2 o57 (Nat.le_trans (z7 k85 k88 k93 k100 k104 k112 k119) p153))) k179 (ne1 o57 (p44)))
 have o185 := (own_ch (own_ch (own_kp (own_kp (own_kp (own_kp (own_kp (own_kp (own_ch (own_kp o62 k85) k88 (ne2 o62 (p83))) k93) k100) k104) k112) k119) k155) k158 (ne2 o62 (Nat.le_trans (z7 k85 k88 k93 k100 k104 k112 k119) p153))) k179 (ne1 o62 (p44)))
 have o186 := (own_ch (own_ch (own_kp (own_kp (own_kp (own_kp (own_kp (own_kp (own_ch (own_kp o67 k85) k88 (ne2 o67 (p83))) k93) k100) k104) k112) k119) k155) k158 (ne2 o67 (Nat.le_trans (z7 k85 k88 k93 k100 k104 k112 k119) p153))) k179 (ne1 o67 (p44)))
 have o187 := (own_ch (own_ch (own_kp (own_kp (own_kp (own_kp (own_kp (own_kp (own_ch (own_kp o72 k85) k88 (ne2 o72 (p83))) k93) k100) k104) k112) k119) k155) k158 (ne2 o72 (Nat.le_trans (z7 k85 k88 k93 k100 k104 k112 k119) p153))) k179 (ne1 o72 (p44)))
 have o188 := (own_ch (own_ch (own_kp (own_kp (own_kp (own_kp (own_kp (own_kp (own_ch (own_kp o77 k85) k88 (ne2 o77 (p83))) k93) k100) k104) k112) k119) k155) k158 (ne2 o77 (Nat.le_trans (z7 k85 k88 k93 k100 k104 k112 k119) p153))) k179 (ne1 o77 (p44)))
 refine ret_2 (.inl rfl) (va (L_38 (F_spec_l14Copy x_c) a50 c51 a55 c56 a60 c61 a65 c66 a70 c71 a75 c76)) (vi 6) rfl (rv_c [(vi ((F_spec_l14Copy x_c).Role)), (vs a50 ((F_spec_l14Copy x_c).Sn).length c51), (vi (((F_spec_l14Copy x_c).Cur).N)), (vs a55 (((F_spec_l14Copy x_c).Cur).Key).length c56), (vi (((F_spec_l14Copy x_c).Cur).Seq)), (vi ((((F_spec_l14Copy x_c).Cur).Win).Top)), (vs a60 ((((F_spec_l14Copy x_c).Cur).Win).Bits).length c61), (vi (((F_spec_l14Copy x_c).Old).N)), (vs a65 (((F_spec_l14Copy x_c).Old).Key).length c66), (vi (((F_spec_l14Copy x_c).Old).Seq)), (vi ((((F_spec_l14Copy x_c).Old).Win).Top)), (vs a70 ((((F_spec_l14Copy x_c).Old).Win).Bits).length c71), (vb ((F_spec_l14Copy x_c).HasOld)), (vi ((F_spec_l14Copy x_c).Until)), (vs a75 ((F_spec_l14Copy x_c).Next).length c76)] rfl b180 isAgg_38 sizeOf_38) rfl ?_
 refine ⟨m182.keep0, ?_⟩
 have hF189 : F_spec_HearRekey x_c x_under x_plain = ((F_spec_l14Copy x_c), 6) := by simp only [F_spec_HearRekey, h95, h98, h102, h114, h117, h162, cond_true, cond_false]
 rw [hF189]
 exact ⟨_, _, _, _, _, _, _, _, _, _, _, _, rfl, (own_lo o183 (z2 k39 k45)), s53, (own_lo o184 (z2 k39 k45)), s58, (own_lo o185 (z2 k39 k45)), s63, (own_lo o186 (z2 k39 k45)), s68, (own_lo o187 (z2 k39 k45)), s73, (own_lo o188 (z2 k39 k45)), s78, ⟨⟨(ap80.1.1), ⟨(ap80.1.2.1), ⟨(ap80.1.2.2.1), ⟨(ap80.1.2.2.2.1), ⟨(ap80.1.2.2.2.2.1), trivial⟩⟩⟩⟩⟩, ⟨⟨(ap80.2.1.1), ⟨(ap80.2.1.2.1), ⟨(ap80.2.1.2.2.1), ⟨(ap80.2.1.2.2.2.1), trivial⟩⟩⟩⟩, ⟨⟨(ap80.2.2.1.1), ⟨(ap80.2.2.1.2.1), ⟨(ap80.2.2.1.2.2.1), trivial⟩⟩⟩, ⟨⟨(ap80.2.2.2.1.1), ⟨(ap80.2.2.2.1.2.1), trivial⟩⟩, ⟨⟨(ap80.2.2.2.2.1.1), trivial⟩, ⟨trivial, trivial⟩⟩⟩⟩⟩⟩⟩

def F_impl_RekeyBody (x_n : Int) : (List UInt8) := bif (F_impl_within x_n 0 4294967295) then ((putN [] x_n 4)) else ([])
theorem C_impl_RekeyBody (w0 : World) (x_n : Int)  : Fn Try.prog 76 #[(vi x_n)] w0 (fun v w' => Keep w0 w' ∧ O_22 w' w0.heap.size v (F_impl_RekeyBody x_n)) := by
 refine fn_of (n := 8) (l := [(vi x_n), U, U, U, U, U, U, U]) Try.func76 rfl rfl (by kernel_rfl) rfl ?_
 refine sr ?_
 refine aw (vs none 0 0) ?_
 refine n4 ?_
 refine mw (vi x_n) ?_
 refine cl wN (C_impl_within w0 x_n 0 4294967295) ?_
 rintro _ w1 ⟨k1, rfl⟩
 have m2 := (Ch.base w0).extk k1
 refine pu (vb (!(F_impl_within x_n 0 4294967295))) wN ?_
 refine n2 ?_
 rcases bf (F_impl_within x_n 0 4294967295) with h3 | h3
 ·have q15 := impl_within_f h3
  refine ct (congrArg not h3) ?_
  refine sr ?_
  refine aw (vs none 0 0) ?_
  refine n1 ?_
  refine rt (vs none 0 0) ?_
  refine ⟨m2.keep0, ?_⟩
  have hF16 : F_impl_RekeyBody x_n = [] := by simp only [F_impl_RekeyBody, h3, cond_true, cond_false]
  rw [hF16]
  exact ⟨_, _, rfl, (by first | exact own_nil _ _ _ _ | exact OLv.nil _ _ _ _), (by simp), ⟨trivial, trivial⟩⟩
 have q4 := impl_within_t h3
 refine cf (congrArg not h3) ?_
 refine y1 ?_
 refine mw (vi x_n) ?_
 refine cl wN (C_impl_PutN w1 _ _ (show R_22 w1 (vs none 0 0) [] from ⟨_, _, rfl, (Rd.nil _ _), (by simp)⟩) x_n 4 (by first | omega | (simp; done) | (simp; omega))) ?_
 rintro _ w2 ⟨k5, ⟨a6, c7, rfl, o8, s9, ap11⟩⟩
 have m12 := m2.extk k5
 have q13 := putN_len [] x_n 4
 refine aw (vs a6 (putN [] x_n 4).length c7) ?_
 refine n3 ?_
 refine rt (vs a6 (putN [] x_n 4).length c7) ?_
 refine ⟨m12.keep0, ?_⟩
 have hF14 : F_impl_RekeyBody x_n = (putN [] x_n 4) := by simp only [F_impl_RekeyBody, h3, cond_true, cond_false]
 rw [hF14]
 exact ⟨_, _, rfl, (own_lo o8 k1.size), s9, ⟨trivial, trivial⟩⟩

def F_impl_HearRekey (x_c : PChan) (x_under : Int) (x_plain : List UInt8) : (PChan) × (Int) := bif (F_impl_ChanOk x_c) then (bif (decide (x_c.Role = 1)) then (bif (F_impl_within x_under 0 4294967294) then (bif (F_bytes_Equal x_plain (F_impl_RekeyBody (x_under + 1))) then (bif (decide (x_under = (x_c.Cur.N - 1))) then (((F_impl_copyChan x_c), 0)) else (bif (decide (x_under = x_c.Cur.N)) then (bif ((F_impl_Turn x_c).2) then ((((F_impl_Turn x_c).1), 0)) else (((F_impl_copyChan x_c), 6))) else (((F_impl_copyChan x_c), 6)))) else (((F_impl_copyChan x_c), 6))) else (((F_impl_copyChan x_c), 6))) else (((F_impl_copyChan x_c), 6))) else (((F_impl_copyChan x_c), 6))
theorem C_impl_HearRekey (w0 : World) (v_x_c : Value) (x_c : PChan) (r_x_c : R_38 w0 v_x_c x_c) (x_under : Int) (v_x_plain : Value) (x_plain : List UInt8) (r_x_plain : R_22 w0 v_x_plain x_plain)  : Fn Try.prog 34 #[v_x_c, (vi x_under), v_x_plain] w0 (fun v w' => Keep w0 w' ∧ O_38_3 w' w0.heap.size v (F_impl_HearRekey x_c x_under x_plain)) := by
 obtain ⟨a1, c2, a6, c7, a11, c12, a16, c17, a21, c22, a26, c27, rfl, r3, s4, r8, s9, r13, s14, r18, s19, r23, s24, r28, s29⟩ := r_x_c
 obtain ⟨a31, c32, rfl, r33, s34⟩ := r_x_plain
 refine fn_of (n := 58) (l := [(va (L_38 x_c a1 c2 a6 c7 a11 c12 a16 c17 a21 c22 a26 c27)), (vi x_under), (vs a31 x_plain.length c32), U, U, U, U, U, U, U, U, U, U, U, U, U, U, U, U, U, U, U, U, U, U, U, U, U, U, U, U, U, U, U, U, U, U, U, U, U, U, U, U, U, U, U, U, U, U, U, U, U, U, U, U, U, U, U]) Try.func34 rfl rfl (by kernel_rfl) rfl ?_
 refine sr ?_
 refine bx (L_38 x_c a1 c2 a6 c7 a11 c12 a16 c17 a21 c22 a26 c27) wN ?_
 intro g36 w1 p37 p38 k39 b40
 have m41 := (Ch.base w0).extk k39
 refine al [(vi 0), (vs none 0 0), (vi 0), (vs none 0 0), (vi 0), (vi 0), (vs none 0 0), (vi 0), (vs none 0 0), (vi 0), (vi 0), (vs none 0 0), (vb false), (vi 0), (vs none 0 0)] wN zero_38 ?_
 intro g42 w2 p43 p44 k45 b46
 have m47 := m41.extk k45
 refine aw (vi 0) ?_
 refine nx ?_
 have b48 := (b40.kp k45)
 refine lN (L_38 x_c a1 c2 a6 c7 a11 c12 a16 c17 a21 c22 a26 c27) wN isAgg_38 sizeOf_38 b48 ?_
 refine cl wN (C_impl_copyChan w2 _ x_c (mR_38 (r3.from0 m47) s4 (r8.from0 m47) s9 (r13.from0 m47) s14 (r18.from0 m47) s19 (r23.from0 m47) s24 (r28.from0 m47) s29)) ?_
 rintro _ w3 ⟨k49, ⟨a50, c51, a55, c56, a60, c61, a65, c66, a70, c71, a75, c76, rfl, o52, s53, o57, s58, o62, s63, o67, s68, o72, s73, o77, s78, ap80⟩⟩
 have m81 := m47.extk k49
 refine al [(vi 0), (vs none 0 0), (vi 0), (vs none 0 0), (vi 0), (vi 0), (vs none 0 0), (vi 0), (vs none 0 0), (vi 0), (vi 0), (vs none 0 0), (vb false), (vi 0), (vs none 0 0)] wN zero_38 ?_
 intro g82 w4 p83 p84 k85 b86
 have m87 := m81.extk k85
 refine sv (L_38 (F_impl_copyChan x_c) a50 c51 a55 c56 a60 c61 a65 c66 a70 c71 a75 c76) wN sizeOf_38 b86 ?_
 intro w5 k88 b89 z90
 have m91 := m87.ext k88 (fun k hk => by subst hk; exact Nat.le_trans (z3 k39 k45 k49) p83)
 refine n4 ?_
 have b92 := (((b48.kp k49).kp k85).ch k88 (Nat.ne_of_lt (Nat.lt_of_lt_of_le p38 (Nat.le_trans (z2 k45 k49) p83))))
 refine lN (L_38 x_c a1 c2 a6 c7 a11 c12 a16 c17 a21 c22 a26 c27) wN isAgg_38 sizeOf_38 b92 ?_
 refine cl wN (C_impl_ChanOk w5 _ x_c (mR_38 (r3.from0 m91) s4 (r8.from0 m91) s9 (r13.from0 m91) s14 (r18.from0 m91) s19 (r23.from0 m91) s24 (r28.from0 m91) s29)) ?_
 rintro _ w6 ⟨k93, rfl⟩
 have m94 := m91.extk k93
 refine pu (vb (!(F_impl_ChanOk x_c))) wN ?_
 refine mw (vb (!(F_impl_ChanOk x_c))) ?_
 rcases bf (F_impl_ChanOk x_c) with h95 | h95
 ·refine sk (congrArg not h95) ?_
  refine sk (congrArg not h95) ?_
  refine sk (congrArg not h95) ?_
  refine pk (vb true) wN (congrArg not h95) ?_
  refine mw (vb true) ?_
  refine sk T1 ?_
  refine sk T1 ?_
  refine sk T1 ?_
  refine pk (vb true) wN (Eq.refl true) ?_
  refine mw (vb true) ?_
  refine sk T1 ?_
  refine sk T1 ?_
  refine sk T1 ?_
  refine sk T1 ?_
  refine sk T1 ?_
  refine sk T1 ?_
  refine pk (vb true) wN (Eq.refl true) ?_
  refine n2 ?_
  refine ct (Eq.refl true) ?_
  refine sr ?_
  have b264 := (b89.kp k93)
  refine lN (L_38 (F_impl_copyChan x_c) a50 c51 a55 c56 a60 c61 a65 c66 a70 c71 a75 c76) wN isAgg_38 sizeOf_38 b264 ?_
  have b265 := ((((b46.kp k49).kp k85).ch k88 (Nat.ne_of_lt (Nat.lt_of_lt_of_le p44 (Nat.le_trans k49.size p83)))).kp k93)
  refine sv (L_38 (F_impl_copyChan x_c) a50 c51 a55 c56 a60 c61 a65 c66 a70 c71 a75 c76) wN sizeOf_38 b265 ?_
  intro w7 k266 b267 z268
  have m269 := m94.ext k266 (fun k hk => by subst hk; exact Nat.le_trans k39.size p43)
  refine aw (vi 6) ?_
  refine n1 ?_
  have o270 := (own_ch (own_kp (own_ch (own_kp o52 k85) k88 (ne2 o52 (p83))) k93) k266 (ne1 o52 (p44)))
  have o271 := (own_ch (own_kp (own_ch (own_kp o57 k85) k88 (ne2 o57 (p83))) k93) k266 (ne1 o57 (p44)))
  have o272 := (own_ch (own_kp (own_ch (own_kp o62 k85) k88 (ne2 o62 (p83))) k93) k266 (ne1 o62 (p44)))
  have o273 := (own_ch (own_kp (own_ch (own_kp o67 k85) k88 (ne2 o67 (p83))) k93) k266 (ne1 o67 (p44)))
  have o274 := (own_ch (own_kp (own_ch (own_kp o72 k85) k88 (ne2 o72 (p83))) k93) k266 (ne1 o72 (p44)))
  have o275 := (own_ch (own_kp (own_ch (own_kp o77 k85) k88 (ne2 o77 (p83))) k93) k266 (ne1 o77 (p44)))
  refine ret_2 (.inl rfl) (va (L_38 (F_impl_copyChan x_c) a50 c51 a55 c56 a60 c61 a65 c66 a70 c71 a75 c76)) (vi 6) rfl (rv_c [(vi ((F_impl_copyChan x_c).Role)), (vs a50 ((F_impl_copyChan x_c).Sn).length c51), (vi (((F_impl_copyChan x_c).Cur).N)), (vs a55 (((F_impl_copyChan x_c).Cur).Key).length c56), (vi (((F_impl_copyChan x_c).Cur).Seq)), (vi ((((F_impl_copyChan x_c).Cur).Win).Top)), (vs a60 ((((F_impl_copyChan x_c).Cur).Win).Bits).length c61), (vi (((F_impl_copyChan x_c).Old).N)), (vs a65 (((F_impl_copyChan x_c).Old).Key).length c66), (vi (((F_impl_copyChan x_c).Old).Seq)), (vi ((((F_impl_copyChan x_c).Old).Win).Top)), (vs a70 ((((F_impl_copyChan x_c).Old).Win).Bits).length c71), (vb ((F_impl_copyChan x_c).HasOld)), (vi ((F_impl_copyChan x_c).Until)), (vs a75 ((F_impl_copyChan x_c).Next).length c76)] rfl b267 isAgg_38 sizeOf_38) rfl ?_
  refine ⟨m269.keep0, ?_⟩
  have hF276 : F_impl_HearRekey x_c x_under x_plain = ((F_impl_copyChan x_c), 6) := by simp only [F_impl_HearRekey, h95, cond_true, cond_false]
  rw [hF276]
  exact ⟨_, _, _, _, _, _, _, _, _, _, _, _, rfl, (own_lo o270 (z2 k39 k45)), s53, (own_lo o271 (z2 k39 k45)), s58, (own_lo o272 (z2 k39 k45)), s63, (own_lo o273 (z2 k39 k45)), s68, (own_lo o274 (z2 k39 k45)), s73, (own_lo o275 (z2 k39 k45)), s78, ⟨⟨(ap80.1.1), ⟨(ap80.1.2.1), ⟨(ap80.1.2.2.1), ⟨(ap80.1.2.2.2.1), ⟨(ap80.1.2.2.2.2.1), trivial⟩⟩⟩⟩⟩, ⟨⟨(ap80.2.1.1), ⟨(ap80.2.1.2.1), ⟨(ap80.2.1.2.2.1), ⟨(ap80.2.1.2.2.2.1), trivial⟩⟩⟩⟩, ⟨⟨(ap80.2.2.1.1), ⟨(ap80.2.2.1.2.1), ⟨(ap80.2.2.1.2.2.1), trivial⟩⟩⟩, ⟨⟨(ap80.2.2.2.1.1), ⟨(ap80.2.2.2.1.2.1), trivial⟩⟩, ⟨⟨(ap80.2.2.2.2.1.1), trivial⟩, ⟨trivial, trivial⟩⟩⟩⟩⟩⟩⟩
 have q96 := impl_ChanOk_t h95
 refine pu (vp g36 0) (wS (congrArg not h95)) ?_
 have b97 := (b92.kp k93)
 refine ld (vi x_c.Role) (wS (congrArg not h95)) isAgg_3 b97 ?_
 refine pu (vb (!(decide (x_c.Role = 1)))) (wS (congrArg not h95)) ?_
 refine pf (vb (!(decide (x_c.Role = 1)))) wN (congrArg not h95) ?_
 refine mw (vb (!(decide (x_c.Role = 1)))) ?_
 rcases bf (decide (x_c.Role = 1)) with h98 | h98
 ·have q249 := of_decide_eq_false h98
  refine sk (congrArg not h98) ?_
  refine sk (congrArg not h98) ?_
  refine sk (congrArg not h98) ?_
  refine pk (vb true) wN (congrArg not h98) ?_
  refine mw (vb true) ?_
  refine sk T1 ?_
  refine sk T1 ?_
  refine sk T1 ?_
  refine sk T1 ?_
  refine sk T1 ?_
  refine sk T1 ?_
  refine pk (vb true) wN (Eq.refl true) ?_
  refine n2 ?_
  refine ct (Eq.refl true) ?_
  refine sr ?_
  have b250 := (b89.kp k93)
  refine lN (L_38 (F_impl_copyChan x_c) a50 c51 a55 c56 a60 c61 a65 c66 a70 c71 a75 c76) wN isAgg_38 sizeOf_38 b250 ?_
  have b251 := ((((b46.kp k49).kp k85).ch k88 (Nat.ne_of_lt (Nat.lt_of_lt_of_le p44 (Nat.le_trans k49.size p83)))).kp k93)
  refine sv (L_38 (F_impl_copyChan x_c) a50 c51 a55 c56 a60 c61 a65 c66 a70 c71 a75 c76) wN sizeOf_38 b251 ?_
  intro w7 k252 b253 z254
  have m255 := m94.ext k252 (fun k hk => by subst hk; exact Nat.le_trans k39.size p43)
  refine aw (vi 6) ?_
  refine n1 ?_
  have o256 := (own_ch (own_kp (own_ch (own_kp o52 k85) k88 (ne2 o52 (p83))) k93) k252 (ne1 o52 (p44)))
  have o257 := (own_ch (own_kp (own_ch (own_kp o57 k85) k88 (ne2 o57 (p83))) k93) k252 (ne1 o57 (p44)))
  have o258 := (own_ch (own_kp (own_ch (own_kp o62 k85) k88 (ne2 o62 (p83))) k93) k252 (ne1 o62 (p44)))
  have o259 := (own_ch (own_kp (own_ch (own_kp o67 k85) k88 (ne2 o67 (p83))) k93) k252 (ne1 o67 (p44)))
  have o260 := (own_ch (own_kp (own_ch (own_kp o72 k85) k88 (ne2 o72 (p83))) k93) k252 (ne1 o72 (p44)))
  have o261 := (own_ch (own_kp (own_ch (own_kp o77 k85) k88 (ne2 o77 (p83))) k93) k252 (ne1 o77 (p44)))
  refine ret_2 (.inl rfl) (va (L_38 (F_impl_copyChan x_c) a50 c51 a55 c56 a60 c61 a65 c66 a70 c71 a75 c76)) (vi 6) rfl (rv_c [(vi ((F_impl_copyChan x_c).Role)), (vs a50 ((F_impl_copyChan x_c).Sn).length c51), (vi (((F_impl_copyChan x_c).Cur).N)), (vs a55 (((F_impl_copyChan x_c).Cur).Key).length c56), (vi (((F_impl_copyChan x_c).Cur).Seq)), (vi ((((F_impl_copyChan x_c).Cur).Win).Top)), (vs a60 ((((F_impl_copyChan x_c).Cur).Win).Bits).length c61), (vi (((F_impl_copyChan x_c).Old).N)), (vs a65 (((F_impl_copyChan x_c).Old).Key).length c66), (vi (((F_impl_copyChan x_c).Old).Seq)), (vi ((((F_impl_copyChan x_c).Old).Win).Top)), (vs a70 ((((F_impl_copyChan x_c).Old).Win).Bits).length c71), (vb ((F_impl_copyChan x_c).HasOld)), (vi ((F_impl_copyChan x_c).Until)), (vs a75 ((F_impl_copyChan x_c).Next).length c76)] rfl b253 isAgg_38 sizeOf_38) rfl ?_
  refine ⟨m255.keep0, ?_⟩
  have hF262 : F_impl_HearRekey x_c x_under x_plain = ((F_impl_copyChan x_c), 6) := by simp only [F_impl_HearRekey, h95, h98, cond_true, cond_false]
  rw [hF262]
  exact ⟨_, _, _, _, _, _, _, _, _, _, _, _, rfl, (own_lo o256 (z2 k39 k45)), s53, (own_lo o257 (z2 k39 k45)), s58, (own_lo o258 (z2 k39 k45)), s63, (own_lo o259 (z2 k39 k45)), s68, (own_lo o260 (z2 k39 k45)), s73, (own_lo o261 (z2 k39 k45)), s78, ⟨⟨(ap80.1.1), ⟨(ap80.1.2.1), ⟨(ap80.1.2.2.1), ⟨(ap80.1.2.2.2.1), ⟨(ap80.1.2.2.2.2.1), trivial⟩⟩⟩⟩⟩, ⟨⟨(ap80.2.1.1), ⟨(ap80.2.1.2.1), ⟨(ap80.2.1.2.2.1), ⟨(ap80.2.1.2.2.2.1), trivial⟩⟩⟩⟩, ⟨⟨(ap80.2.2.1.1), ⟨(ap80.2.2.1.2.1), ⟨(ap80.2.2.1.2.2.1), trivial⟩⟩⟩, ⟨⟨(ap80.2.2.2.1.1), ⟨(ap80.2.2.2.1.2.1), trivial⟩⟩, ⟨⟨(ap80.2.2.2.2.1.1), trivial⟩, ⟨trivial, trivial⟩⟩⟩⟩⟩⟩⟩
 have q99 := of_decide_eq_true h98
 refine mv (vi x_under) (wS (congrArg not h98)) ?_
 refine cl (wS (congrArg not h98)) (C_impl_within w6 x_under 0 4294967294) ?_
 rintro _ w7 ⟨k100, rfl⟩
 have m101 := m94.extk k100
 refine pu (vb (!(F_impl_within x_under 0 4294967294))) (wS (congrArg not h98)) ?_
 refine pf (vb (!(F_impl_within x_under 0 4294967294))) wN (congrArg not h98) ?_
 refine mw (vb (!(F_impl_within x_under 0 4294967294))) ?_
 rcases bf (F_impl_within x_under 0 4294967294) with h102 | h102
 ·have q235 := impl_within_f h102
  refine sk (congrArg not h102) ?_
  refine sk (congrArg not h102) ?_
  refine sk (congrArg not h102) ?_
  refine sk (congrArg not h102) ?_
  refine sk (congrArg not h102) ?_
  refine sk (congrArg not h102) ?_
  refine pk (vb true) wN (congrArg not h102) ?_
  refine n2 ?_
  refine ct (Eq.refl true) ?_
  refine sr ?_
  have b236 := ((b89.kp k93).kp k100)
  refine lN (L_38 (F_impl_copyChan x_c) a50 c51 a55 c56 a60 c61 a65 c66 a70 c71 a75 c76) wN isAgg_38 sizeOf_38 b236 ?_
  have b237 := (((((b46.kp k49).kp k85).ch k88 (Nat.ne_of_lt (Nat.lt_of_lt_of_le p44 (Nat.le_trans k49.size p83)))).kp k93).kp k100)
  refine sv (L_38 (F_impl_copyChan x_c) a50 c51 a55 c56 a60 c61 a65 c66 a70 c71 a75 c76) wN sizeOf_38 b237 ?_
  intro w8 k238 b239 z240
  have m241 := m101.ext k238 (fun k hk => by subst hk; exact Nat.le_trans k39.size p43)
  refine aw (vi 6) ?_
  refine n1 ?_
  have o242 := (own_ch (own_kp (own_kp (own_ch (own_kp o52 k85) k88 (ne2 o52 (p83))) k93) k100) k238 (ne1 o52 (p44)))
  have o243 := (own_ch (own_kp (own_kp (own_ch (own_kp o57 k85) k88 (ne2 o57 (p83))) k93) k100) k238 (ne1 o57 (p44)))
  have o244 := (own_ch (own_kp (own_kp (own_ch (own_kp o62 k85) k88 (ne2 o62 (p83))) k93) k100) k238 (ne1 o62 (p44)))
  have o245 := (own_ch (own_kp (own_kp (own_ch (own_kp o67 k85) k88 (ne2 o67 (p83))) k93) k100) k238 (ne1 o67 (p44)))
  have o246 := (own_ch (own_kp (own_kp (own_ch (own_kp o72 k85) k88 (ne2 o72 (p83))) k93) k100) k238 (ne1 o72 (p44)))
  have o247 := (own_ch (own_kp (own_kp (own_ch (own_kp o77 k85) k88 (ne2 o77 (p83))) k93) k100) k238 (ne1 o77 (p44)))
  refine ret_2 (.inl rfl) (va (L_38 (F_impl_copyChan x_c) a50 c51 a55 c56 a60 c61 a65 c66 a70 c71 a75 c76)) (vi 6) rfl (rv_c [(vi ((F_impl_copyChan x_c).Role)), (vs a50 ((F_impl_copyChan x_c).Sn).length c51), (vi (((F_impl_copyChan x_c).Cur).N)), (vs a55 (((F_impl_copyChan x_c).Cur).Key).length c56), (vi (((F_impl_copyChan x_c).Cur).Seq)), (vi ((((F_impl_copyChan x_c).Cur).Win).Top)), (vs a60 ((((F_impl_copyChan x_c).Cur).Win).Bits).length c61), (vi (((F_impl_copyChan x_c).Old).N)), (vs a65 (((F_impl_copyChan x_c).Old).Key).length c66), (vi (((F_impl_copyChan x_c).Old).Seq)), (vi ((((F_impl_copyChan x_c).Old).Win).Top)), (vs a70 ((((F_impl_copyChan x_c).Old).Win).Bits).length c71), (vb ((F_impl_copyChan x_c).HasOld)), (vi ((F_impl_copyChan x_c).Until)), (vs a75 ((F_impl_copyChan x_c).Next).length c76)] rfl b239 isAgg_38 sizeOf_38) rfl ?_
  refine ⟨m241.keep0, ?_⟩
  have hF248 : F_impl_HearRekey x_c x_under x_plain = ((F_impl_copyChan x_c), 6) := by simp only [F_impl_HearRekey, h95, h98, h102, cond_true, cond_false]
  rw [hF248]
  exact ⟨_, _, _, _, _, _, _, _, _, _, _, _, rfl, (own_lo o242 (z2 k39 k45)), s53, (own_lo o243 (z2 k39 k45)), s58, (own_lo o244 (z2 k39 k45)), s63, (own_lo o245 (z2 k39 k45)), s68, (own_lo o246 (z2 k39 k45)), s73, (own_lo o247 (z2 k39 k45)), s78, ⟨⟨(ap80.1.1), ⟨(ap80.1.2.1), ⟨(ap80.1.2.2.1), ⟨(ap80.1.2.2.2.1), ⟨(ap80.1.2.2.2.2.1), trivial⟩⟩⟩⟩⟩, ⟨⟨(ap80.2.1.1), ⟨(ap80.2.1.2.1), ⟨(ap80.2.1.2.2.1), ⟨(ap80.2.1.2.2.2.1), trivial⟩⟩⟩⟩, ⟨⟨(ap80.2.2.1.1), ⟨(ap80.2.2.1.2.1), ⟨(ap80.2.2.1.2.2.1), trivial⟩⟩⟩, ⟨⟨(ap80.2.2.2.1.1), ⟨(ap80.2.2.2.1.2.1), trivial⟩⟩, ⟨⟨(ap80.2.2.2.2.1.1), trivial⟩, ⟨trivial, trivial⟩⟩⟩⟩⟩⟩⟩
 have q103 := impl_within_t h102
 refine mv (vs a31 x_plain.length c32) (wS (congrArg not h102)) ?_
 refine mv (vi x_under) (wS (congrArg not h102)) ?_
 refine ar (x_under + 1) (wS (congrArg not h102)) ?_
 refine cl (wS (congrArg not h102)) (C_impl_RekeyBody w7 (x_under + 1)) ?_
 rintro _ w8 ⟨k104, ⟨a105, c106, rfl, o107, s108, ap110⟩⟩
 have m111 := m101.extk k104
 refine cl (wS (congrArg not h102)) (C_bytes_Equal w8 _ x_plain (mR_22 (r33.from0 m111) s34) _ (F_impl_RekeyBody (x_under + 1)) (mR_22 (Rd.of_own o107) s108)) ?_
 rintro _ w9 ⟨k112, rfl⟩
 have m113 := m111.extk k112
 refine pu (vb (!(F_bytes_Equal x_plain (F_impl_RekeyBody (x_under + 1))))) (wS (congrArg not h102)) ?_
 refine pf (vb (!(F_bytes_Equal x_plain (F_impl_RekeyBody (x_under + 1))))) wN (congrArg not h102) ?_
 refine n2 ?_
 rcases bf (F_bytes_Equal x_plain (F_impl_RekeyBody (x_under + 1))) with h114 | h114
 ·refine ct (congrArg not h114) ?_
  refine sr ?_
  have b222 := ((((b89.kp k93).kp k100).kp k104).kp k112)
  refine lN (L_38 (F_impl_copyChan x_c) a50 c51 a55 c56 a60 c61 a65 c66 a70 c71 a75 c76) wN isAgg_38 sizeOf_38 b222 ?_
  have b223 := (((((((b46.kp k49).kp k85).ch k88 (Nat.ne_of_lt (Nat.lt_of_lt_of_le p44 (Nat.le_trans k49.size p83)))).kp k93).kp k100).kp k104).kp k112)
  refine sv (L_38 (F_impl_copyChan x_c) a50 c51 a55 c56 a60 c61 a65 c66 a70 c71 a75 c76) wN sizeOf_38 b223 ?_
  intro w10 k224 b225 z226
  have m227 := m113.ext k224 (fun k hk => by subst hk; exact Nat.le_trans k39.size p43)
  refine aw (vi 6) ?_
  refine n1 ?_
  have o228 := (own_ch (own_kp (own_kp (own_kp (own_kp (own_ch (own_kp o52 k85) k88 (ne2 o52 (p83))) k93) k100) k104) k112) k224 (ne1 o52 (p44)))
  have o229 := (own_ch (own_kp (own_kp (own_kp (own_kp (own_ch (own_kp o57 k85) k88 (ne2 o57 (p83))) k93) k100) k104) k112) k224 (ne1 o57 (p44)))
  have o230 := (own_ch (own_kp (own_kp (own_kp (own_kp (own_ch (own_kp o62 k85) k88 (ne2 o62 (p83))) k93) k100) k104) k112) k224 (ne1 o62 (p44)))
  have o231 := (own_ch (own_kp (own_kp (own_kp (own_kp (own_ch (own_kp o67 k85) k88 (ne2 o67 (p83))) k93) k100) k104) k112) k224 (ne1 o67 (p44)))
  have o232 := (own_ch (own_kp (own_kp (own_kp (own_kp (own_ch (own_kp o72 k85) k88 (ne2 o72 (p83))) k93) k100) k104) k112) k224 (ne1 o72 (p44)))
  have o233 := (own_ch (own_kp (own_kp (own_kp (own_kp (own_ch (own_kp o77 k85) k88 (ne2 o77 (p83))) k93) k100) k104) k112) k224 (ne1 o77 (p44)))
  refine ret_2 (.inl rfl) (va (L_38 (F_impl_copyChan x_c) a50 c51 a55 c56 a60 c61 a65 c66 a70 c71 a75 c76)) (vi 6) rfl (rv_c [(vi ((F_impl_copyChan x_c).Role)), (vs a50 ((F_impl_copyChan x_c).Sn).length c51), (vi (((F_impl_copyChan x_c).Cur).N)), (vs a55 (((F_impl_copyChan x_c).Cur).Key).length c56), (vi (((F_impl_copyChan x_c).Cur).Seq)), (vi ((((F_impl_copyChan x_c).Cur).Win).Top)), (vs a60 ((((F_impl_copyChan x_c).Cur).Win).Bits).length c61), (vi (((F_impl_copyChan x_c).Old).N)), (vs a65 (((F_impl_copyChan x_c).Old).Key).length c66), (vi (((F_impl_copyChan x_c).Old).Seq)), (vi ((((F_impl_copyChan x_c).Old).Win).Top)), (vs a70 ((((F_impl_copyChan x_c).Old).Win).Bits).length c71), (vb ((F_impl_copyChan x_c).HasOld)), (vi ((F_impl_copyChan x_c).Until)), (vs a75 ((F_impl_copyChan x_c).Next).length c76)] rfl b225 isAgg_38 sizeOf_38) rfl ?_
  refine ⟨m227.keep0, ?_⟩
  have hF234 : F_impl_HearRekey x_c x_under x_plain = ((F_impl_copyChan x_c), 6) := by simp only [F_impl_HearRekey, h95, h98, h102, h114, cond_true, cond_false]
  rw [hF234]
  exact ⟨_, _, _, _, _, _, _, _, _, _, _, _, rfl, (own_lo o228 (z2 k39 k45)), s53, (own_lo o229 (z2 k39 k45)), s58, (own_lo o230 (z2 k39 k45)), s63, (own_lo o231 (z2 k39 k45)), s68, (own_lo o232 (z2 k39 k45)), s73, (own_lo o233 (z2 k39 k45)), s78, ⟨⟨(ap80.1.1), ⟨(ap80.1.2.1), ⟨(ap80.1.2.2.1), ⟨(ap80.1.2.2.2.1), ⟨(ap80.1.2.2.2.2.1), trivial⟩⟩⟩⟩⟩, ⟨⟨(ap80.2.1.1), ⟨(ap80.2.1.2.1), ⟨(ap80.2.1.2.2.1), ⟨(ap80.2.1.2.2.2.1), trivial⟩⟩⟩⟩, ⟨⟨(ap80.2.2.1.1), ⟨(ap80.2.2.1.2.1), ⟨(ap80.2.2.1.2.2.1), trivial⟩⟩⟩, ⟨⟨(ap80.2.2.2.1.1), ⟨(ap80.2.2.2.1.2.1), trivial⟩⟩, ⟨⟨(ap80.2.2.2.2.1.1), trivial⟩, ⟨trivial, trivial⟩⟩⟩⟩⟩⟩⟩
 refine cf (congrArg not h114) ?_
 refine y2 ?_
 refine mw (vi x_under) ?_
 refine pu (vp g36 2) wN ?_
 refine pu (vp g36 2) wN ?_
 have b116 := (((b97.kp k100).kp k104).kp k112)
 refine ld (vi x_c.Cur.N) wN isAgg_3 b116 ?_
 refine ar (x_c.Cur.N - 1) wN ?_
 refine pu (vb (decide (x_under = (x_c.Cur.N - 1)))) wN ?_
 refine n2 ?_
 rcases bt (decide (x_under = (x_c.Cur.N - 1))) with h117 | h117
 ·have q118 := of_decide_eq_true h117
  refine ct h117 ?_
  refine sr ?_
  have b119 := ((((b89.kp k93).kp k100).kp k104).kp k112)
  refine lN (L_38 (F_impl_copyChan x_c) a50 c51 a55 c56 a60 c61 a65 c66 a70 c71 a75 c76) wN isAgg_38 sizeOf_38 b119 ?_
  have b120 := (((((((b46.kp k49).kp k85).ch k88 (Nat.ne_of_lt (Nat.lt_of_lt_of_le p44 (Nat.le_trans k49.size p83)))).kp k93).kp k100).kp k104).kp k112)
  refine sv (L_38 (F_impl_copyChan x_c) a50 c51 a55 c56 a60 c61 a65 c66 a70 c71 a75 c76) wN sizeOf_38 b120 ?_
  intro w10 k121 b122 z123
  have m124 := m113.ext k121 (fun k hk => by subst hk; exact Nat.le_trans k39.size p43)
  refine aw (vi 0) ?_
  refine n1 ?_
  have o125 := (own_ch (own_kp (own_kp (own_kp (own_kp (own_ch (own_kp o52 k85) k88 (ne2 o52 (p83))) k93) k100) k104) k112) k121 (ne1 o52 (p44)))
  have o126 := (own_ch (own_kp (own_kp (own_kp (own_kp (own_ch (own_kp o57 k85) k88 (ne2 o57 (p83))) k93) k100) k104) k112) k121 (ne1 o57 (p44)))
  have o127 := (own_ch (own_kp (own_kp (own_kp (own_kp (own_ch (own_kp o62 k85) k88 (ne2 o62 (p83))) k93) k100) k104) k112) k121 (ne1 o62 (p44)))
  have o128 := (own_ch (own_kp (own_kp (own_kp (own_kp (own_ch (own_kp o67 k85) k88 (ne2 o67 (p83))) k93) k100) k104) k112) k121 (ne1 o67 (p44)))
  have o129 := (own_ch (own_kp (own_kp (own_kp (own_kp (own_ch (own_kp o72 k85) k88 (ne2 o72 (p83))) k93) k100) k104) k112) k121 (ne1 o72 (p44)))
  have o130 := (own_ch (own_kp (own_kp (own_kp (own_kp (own_ch (own_kp o77 k85) k88 (ne2 o77 (p83))) k93) k100) k104) k112) k121 (ne1 o77 (p44)))
  refine ret_2 (.inl rfl) (va (L_38 (F_impl_copyChan x_c) a50 c51 a55 c56 a60 c61 a65 c66 a70 c71 a75 c76)) (vi 0) rfl (rv_c [(vi ((F_impl_copyChan x_c).Role)), (vs a50 ((F_impl_copyChan x_c).Sn).length c51), (vi (((F_impl_copyChan x_c).Cur).N)), (vs a55 (((F_impl_copyChan x_c).Cur).Key).length c56), (vi (((F_impl_copyChan x_c).Cur).Seq)), (vi ((((F_impl_copyChan x_c).Cur).Win).Top)), (vs a60 ((((F_impl_copyChan x_c).Cur).Win).Bits).length c61), (vi (((F_impl_copyChan x_c).Old).N)), (vs a65 (((F_impl_copyChan x_c).Old).Key).length c66), (vi (((F_impl_copyChan x_c).Old).Seq)), (vi ((((F_impl_copyChan x_c).Old).Win).Top)), (vs a70 ((((F_impl_copyChan x_c).Old).Win).Bits).length c71), (vb ((F_impl_copyChan x_c).HasOld)), (vi ((F_impl_copyChan x_c).Until)), (vs a75 ((F_impl_copyChan x_c).Next).length c76)] rfl b122 isAgg_38 sizeOf_38) rfl ?_
  refine ⟨m124.keep0, ?_⟩
  have hF131 : F_impl_HearRekey x_c x_under x_plain = ((F_impl_copyChan x_c), 0) := by simp only [F_impl_HearRekey, h95, h98, h102, h114, h117, cond_true, cond_false]
  rw [hF131]
  exact ⟨_, _, _, _, _, _, _, _, _, _, _, _, rfl, (own_lo o125 (z2 k39 k45)), s53, (own_lo o126 (z2 k39 k45)), s58, (own_lo o127 (z2 k39 k45)), s63, (own_lo o128 (z2 k39 k45)), s68, (own_lo o129 (z2 k39 k45)), s73, (own_lo o130 (z2 k39 k45)), s78, ⟨⟨(ap80.1.1), ⟨(ap80.1.2.1), ⟨(ap80.1.2.2.1), ⟨(ap80.1.2.2.2.1), ⟨(ap80.1.2.2.2.2.1), trivial⟩⟩⟩⟩⟩, ⟨⟨(ap80.2.1.1), ⟨(ap80.2.1.2.1), ⟨(ap80.2.1.2.2.1), ⟨(ap80.2.1.2.2.2.1), trivial⟩⟩⟩⟩, ⟨⟨(ap80.2.2.1.1), ⟨(ap80.2.2.1.2.1), ⟨(ap80.2.2.1.2.2.1), trivial⟩⟩⟩, ⟨⟨(ap80.2.2.2.1.1), ⟨(ap80.2.2.2.1.2.1), trivial⟩⟩, ⟨⟨(ap80.2.2.2.2.1.1), trivial⟩, ⟨trivial, trivial⟩⟩⟩⟩⟩⟩⟩
 have q132 := of_decide_eq_false h117
 refine cf h117 ?_
 refine y1 ?_
 refine lN (L_38 x_c a1 c2 a6 c7 a11 c12 a16 c17 a21 c22 a26 c27) wN isAgg_38 sizeOf_38 b116 ?_
 refine cl wN (C_impl_Turn w9 _ x_c (mR_38 (r3.from0 m113) s4 (r8.from0 m113) s9 (r13.from0 m113) s14 (r18.from0 m113) s19 (r23.from0 m113) s24 (r28.from0 m113) s29)) ?_
 rintro _ w10 ⟨k133, ⟨a134, c135, a139, c140, a144, c145, a149, c150, a154, c155, a159, c160, rfl, o136, s137, o141, s142, o146, s147, o151, s152, o156, s157, o161, s162, ap164⟩⟩
 have m165 := m113.extk k133
 refine mw (.tuple #[(va (L_38 ((F_impl_Turn x_c).1) a134 c135 a139 c140 a144 c145 a149 c150 a154 c155 a159 c160)), (vb ((F_impl_Turn x_c).2))]) ?_
 refine pu (va (L_38 ((F_impl_Turn x_c).1) a134 c135 a139 c140 a144 c145 a149 c150 a154 c155 a159 c160)) wN ?_
 refine pu (vb ((F_impl_Turn x_c).2)) wN ?_
 refine al [(vi 0), (vs none 0 0), (vi 0), (vs none 0 0), (vi 0), (vi 0), (vs none 0 0), (vi 0), (vs none 0 0), (vi 0), (vi 0), (vs none 0 0), (vb false), (vi 0), (vs none 0 0)] wN zero_38 ?_
 intro g166 w11 p167 p168 k169 b170
 have m171 := m165.extk k169
 refine sv (L_38 ((F_impl_Turn x_c).1) a134 c135 a139 c140 a144 c145 a149 c150 a154 c155 a159 c160) wN sizeOf_38 b170 ?_
 intro w12 k172 b173 z174
 have m175 := m171.ext k172 (fun k hk => by subst hk; exact Nat.le_trans (z10 k39 k45 k49 k85 k88 k93 k100 k104 k112 k133) p167)
 refine aw (vb ((F_impl_Turn x_c).2)) ?_
 refine n4 ?_
 refine mw (vi x_under) ?_
 refine pu (vp g36 2) wN ?_
 refine pu (vp g36 2) wN ?_
 have b176 := (((b116.kp k133).kp k169).ch k172 (Nat.ne_of_lt (Nat.lt_of_lt_of_le p38 (Nat.le_trans (z9 k45 k49 k85 k88 k93 k100 k104 k112 k133) p167))))
 refine ld (vi x_c.Cur.N) wN isAgg_3 b176 ?_
 refine pu (vb (!(decide (x_under = x_c.Cur.N)))) wN ?_
 refine mw (vb (!(decide (x_under = x_c.Cur.N)))) ?_
 rcases bf (decide (x_under = x_c.Cur.N)) with h177 | h177
 ·have q207 := of_decide_eq_false h177
  refine sk (congrArg not h177) ?_
  refine sk (congrArg not h177) ?_
  refine pk (vb true) wN (congrArg not h177) ?_
  refine n2 ?_
  refine ct (Eq.refl true) ?_
  refine sr ?_
  have b208 := (((((((b89.kp k93).kp k100).kp k104).kp k112).kp k133).kp k169).ch k172 (Nat.ne_of_lt (Nat.lt_of_lt_of_le p84 (Nat.le_trans (z6 k88 k93 k100 k104 k112 k133) p167))))
  refine lN (L_38 (F_impl_copyChan x_c) a50 c51 a55 c56 a60 c61 a65 c66 a70 c71 a75 c76) wN isAgg_38 sizeOf_38 b208 ?_
  have b209 := ((((((((((b46.kp k49).kp k85).ch k88 (Nat.ne_of_lt (Nat.lt_of_lt_of_le p44 (Nat.le_trans k49.size p83)))).kp k93).kp k100).kp k104).kp k112).kp k133).kp k169).ch k172 (Nat.ne_of_lt (Nat.lt_of_lt_of_le p44 (Nat.le_trans (z8 k49 k85 k88 k93 k100 k104 k112 k133) p167))))
  refine sv (L_38 (F_impl_copyChan x_c) a50 c51 a55 c56 a60 c61 a65 c66 a70 c71 a75 c76) wN sizeOf_38 b209 ?_
  intro w13 k210 b211 z212
  have m213 := m175.ext k210 (fun k hk => by subst hk; exact Nat.le_trans k39.size p43)
  refine aw (vi 6) ?_
  refine n1 ?_
  have o214 := (own_ch (own_ch (own_kp (own_kp (own_kp (own_kp (own_kp (own_kp (own_ch (own_kp o52 k85) k88 (ne2 o52 (p83))) k93) k100) k104) k112) k133) k169) k172 (ne2 o52 (Nat.le_trans (z7 k85 k88 k93 k100 k104 k112 k133) p167))) k210 (ne1 o52 (p44)))
  have o215 := (own_ch (own_ch (own_kp (own_kp (own_kp (own_kp (own_kp (own_kp (own_ch (own_kp o57 k85) k88 (ne2 o57 (p83))) k93) k100) k104) k112) k133) k169) k172 (ne2 o57 (Nat.le_trans (z7 k85 k88 k93 k100 k104 k112 k133) p167))) k210 (ne1 o57 (p44)))
  have o216 := (own_ch (own_ch (own_kp (own_kp (own_kp (own_kp (own_kp (own_kp (own_ch (own_kp o62 k85) k88 (ne2 o62 (p83))) k93) k100) k104) k112) k133) k169) k172 (ne2 o62 (Nat.le_trans (z7 k85 k88 k93 k100 k104 k112 k133) p167))) k210 (ne1 o62 (p44)))
  have o217 := (own_ch (own_ch (own_kp (own_kp (own_kp (own_kp (own_kp (own_kp (own_ch (own_kp o67 k85) k88 (ne2 o67 (p83))) k93) k100) k104) k112) k133) k169) k172 (ne2 o67 (Nat.le_trans (z7 k85 k88 k93 k100 k104 k112 k133) p167))) k210 (ne1 o67 (p44)))
  have o218 := (own_ch (own_ch (own_kp (own_kp (own_kp (own_kp (own_kp (own_kp (own_ch (own_kp o72 k85) k88 (ne2 o72 (p83))) k93) k100) k104) k112) k133) k169) k172 (ne2 o72 (Nat.le_trans (z7 k85 k88 k93 k100 k104 k112 k133) p167))) k210 (ne1 o72 (p44)))
  have o219 := (own_ch (own_ch (own_kp (own_kp (own_kp (own_kp (own_kp (own_kp (own_ch (own_kp o77 k85) k88 (ne2 o77 (p83))) k93) k100) k104) k112) k133) k169) k172 (ne2 o77 (Nat.le_trans (z7 k85 k88 k93 k100 k104 k112 k133) p167))) k210 (ne1 o77 (p44)))
  refine ret_2 (.inl rfl) (va (L_38 (F_impl_copyChan x_c) a50 c51 a55 c56 a60 c61 a65 c66 a70 c71 a75 c76)) (vi 6) rfl (rv_c [(vi ((F_impl_copyChan x_c).Role)), (vs a50 ((F_impl_copyChan x_c).Sn).length c51), (vi (((F_impl_copyChan x_c).Cur).N)), (vs a55 (((F_impl_copyChan x_c).Cur).Key).length c56), (vi (((F_impl_copyChan x_c).Cur).Seq)), (vi ((((F_impl_copyChan x_c).Cur).Win).Top)), (vs a60 ((((F_impl_copyChan x_c).Cur).Win).Bits).length c61), (vi (((F_impl_copyChan x_c).Old).N)), (vs a65 (((F_impl_copyChan x_c).Old).Key).length c66), (vi (((F_impl_copyChan x_c).Old).Seq)), (vi ((((F_impl_copyChan x_c).Old).Win).Top)), (vs a70 ((((F_impl_copyChan x_c).Old).Win).Bits).length c71), (vb ((F_impl_copyChan x_c).HasOld)), (vi ((F_impl_copyChan x_c).Until)), (vs a75 ((F_impl_copyChan x_c).Next).length c76)] rfl b211 isAgg_38 sizeOf_38) rfl ?_
  refine ⟨m213.keep0, ?_⟩
  have hF220 : F_impl_HearRekey x_c x_under x_plain = ((F_impl_copyChan x_c), 6) := by simp only [F_impl_HearRekey, h95, h98, h102, h114, h117, h177, cond_true, cond_false]
  rw [hF220]
  exact ⟨_, _, _, _, _, _, _, _, _, _, _, _, rfl, (own_lo o214 (z2 k39 k45)), s53, (own_lo o215 (z2 k39 k45)), s58, (own_lo o216 (z2 k39 k45)), s63, (own_lo o217 (z2 k39 k45)), s68, (own_lo o218 (z2 k39 k45)), s73, (own_lo o219 (z2 k39 k45)), s78, ⟨⟨(ap80.1.1), ⟨(ap80.1.2.1), ⟨(ap80.1.2.2.1), ⟨(ap80.1.2.2.2.1), ⟨(ap80.1.2.2.2.2.1), trivial⟩⟩⟩⟩⟩, ⟨⟨(ap80.2.1.1), ⟨(ap80.2.1.2.1), ⟨(ap80.2.1.2.2.1), ⟨(ap80.2.1.2.2.2.1), trivial⟩⟩⟩⟩, ⟨⟨(ap80.2.2.1.1), ⟨(ap80.2.2.1.2.1), ⟨(ap80.2.2.1.2.2.1), trivial⟩⟩⟩, ⟨⟨(ap80.2.2.2.1.1), ⟨(ap80.2.2.2.1.2.1), trivial⟩⟩, ⟨⟨(ap80.2.2.2.2.1.1), trivial⟩, ⟨trivial, trivial⟩⟩⟩⟩⟩⟩⟩
 have q178 := of_decide_eq_true h177
 refine mv (vb ((F_impl_Turn x_c).2)) (wS (congrArg not h177)) ?_
 refine pu (vb (!((F_impl_Turn x_c).2))) (wS (congrArg not h177)) ?_
 refine pf (vb (!((F_impl_Turn x_c).2))) wN (congrArg not h177) ?_
 refine n2 ?_
 rcases bt ((F_impl_Turn x_c).2) with h179 | h179
 ·refine cf (congrArg not h179) ?_
  refine y1 ?_
  refine lN (L_38 ((F_impl_Turn x_c).1) a134 c135 a139 c140 a144 c145 a149 c150 a154 c155 a159 c160) wN isAgg_38 sizeOf_38 b173 ?_
  have b181 := ((((((((((b46.kp k49).kp k85).ch k88 (Nat.ne_of_lt (Nat.lt_of_lt_of_le p44 (Nat.le_trans k49.size p83)))).kp k93).kp k100).kp k104).kp k112).kp k133).kp k169).ch k172 (Nat.ne_of_lt (Nat.lt_of_lt_of_le p44 (Nat.le_trans (z8 k49 k85 k88 k93 k100 k104 k112 k133) p167))))
  refine sv (L_38 ((F_impl_Turn x_c).1) a134 c135 a139 c140 a144 c145 a149 c150 a154 c155 a159 c160) wN sizeOf_38 b181 ?_
  intro w13 k182 b183 z184
  have m185 := m175.ext k182 (fun k hk => by subst hk; exact Nat.le_trans k39.size p43)
  refine aw (vi 0) ?_
  refine n3 ?_
  have o186 := (own_ch (own_ch (own_kp o136 k169) k172 (ne2 o136 (p167))) k182 (ne1 o136 (Nat.lt_of_lt_of_le p44 (z7 k49 k85 k88 k93 k100 k104 k112))))
  have o187 := (own_ch (own_ch (own_kp o141 k169) k172 (ne2 o141 (p167))) k182 (ne1 o141 (Nat.lt_of_lt_of_le p44 (z7 k49 k85 k88 k93 k100 k104 k112))))
  have o188 := (own_ch (own_ch (own_kp o146 k169) k172 (ne2 o146 (p167))) k182 (ne1 o146 (Nat.lt_of_lt_of_le p44 (z7 k49 k85 k88 k93 k100 k104 k112))))
  have o189 := (own_ch (own_ch (own_kp o151 k169) k172 (ne2 o151 (p167))) k182 (ne1 o151 (Nat.lt_of_lt_of_le p44 (z7 k49 k85 k88 k93 k100 k104 k112))))
  have o190 := (own_ch (own_ch (own_kp o156 k169) k172 (ne2 o156 (p167))) k182 (ne1 o156 (Nat.lt_of_lt_of_le p44 (z7 k49 k85 k88 k93 k100 k104 k112))))
  have o191 := (own_ch (own_ch (own_kp o161 k169) k172 (ne2 o161 (p167))) k182 (ne1 o161 (Nat.lt_of_lt_of_le p44 (z7 k49 k85 k88 k93 k100 k104 k112))))
  refine ret_2 (.inl rfl) (va (L_38 ((F_impl_Turn x_c).1) a134 c135 a139 c140 a144 c145 a149 c150 a154 c155 a159 c160)) (vi 0) rfl (rv_c [(vi (((F_impl_Turn x_c).1).Role)), (vs a134 (((F_impl_Turn x_c).1).Sn).length c135), (vi ((((F_impl_Turn x_c).1).Cur).N)), (vs a139 ((((F_impl_Turn x_c).1).Cur).Key).length c140), (vi ((((F_impl_Turn x_c).1).Cur).Seq)), (vi (((((F_impl_Turn x_c).1).Cur).Win).Top)), (vs a144 (((((F_impl_Turn x_c).1).Cur).Win).Bits).length c145), (vi ((((F_impl_Turn x_c).1).Old).N)), (vs a149 ((((F_impl_Turn x_c).1).Old).Key).length c150), (vi ((((F_impl_Turn x_c).1).Old).Seq)), (vi (((((F_impl_Turn x_c).1).Old).Win).Top)), (vs a154 (((((F_impl_Turn x_c).1).Old).Win).Bits).length c155), (vb (((F_impl_Turn x_c).1).HasOld)), (vi (((F_impl_Turn x_c).1).Until)), (vs a159 (((F_impl_Turn x_c).1).Next).length c160)] rfl b183 isAgg_38 sizeOf_38) rfl ?_
  refine ⟨m185.keep0, ?_⟩
  have hF192 : F_impl_HearRekey x_c x_under x_plain = (((F_impl_Turn x_c).1), 0) := by simp only [F_impl_HearRekey, h95, h98, h102, h114, h117, h177, h179, cond_true, cond_false]
  rw [hF192]
  have zz44 := z9 k39 k45 k49 k85 k88 k93 k100 k104 k112
  exact ⟨_, _, _, _, _, _, _, _, _, _, _, _, rfl, (own_lo o186 zz44), s137, (own_lo o187 zz44), s142, (own_lo o188 zz44), s147, (own_lo o189 zz44), s152, (own_lo o190 zz44), s157, (own_lo o191 zz44), s162, ⟨⟨(ap164.1.1), ⟨(ap164.1.2.1), ⟨(ap164.1.2.2.1), ⟨(ap164.1.2.2.2.1), ⟨(ap164.1.2.2.2.2.1), trivial⟩⟩⟩⟩⟩, ⟨⟨(ap164.2.1.1), ⟨(ap164.2.1.2.1), ⟨(ap164.2.1.2.2.1), ⟨(ap164.2.1.2.2.2.1), trivial⟩⟩⟩⟩, ⟨⟨(ap164.2.2.1.1), ⟨(ap164.2.2.1.2.1), ⟨(ap164.2.2.1.2.2.1), trivial⟩⟩⟩, ⟨⟨(ap164.2.2.2.1.1), ⟨(ap164.2.2.2.1.2.1), trivial⟩⟩, ⟨⟨(ap164.2.2.2.2.1.1), trivial⟩, ⟨trivial, trivial⟩⟩⟩⟩⟩⟩⟩
 refine ct (congrArg not h179) ?_
 refine sr ?_
 have b194 := (((((((b89.kp k93).kp k100).kp k104).kp k112).kp k133).kp k169).ch k172 (Nat.ne_of_lt (Nat.lt_of_lt_of_le p84 (Nat.le_trans (z6 k88 k93 k100 k104 k112 k133) p167))))
 refine lN (L_38 (F_impl_copyChan x_c) a50 c51 a55 c56 a60 c61 a65 c66 a70 c71 a75 c76) wN isAgg_38 sizeOf_38 b194 ?_
 have b195 := ((((((((((b46.kp k49).kp k85).ch k88 (Nat.ne_of_lt (Nat.lt_of_lt_of_le p44 (Nat.le_trans k49.size p83)))).kp k93).kp k100).kp k104).kp k112).kp k133).kp k169).ch k172 (Nat.ne_of_lt (Nat.lt_of_lt_of_le p44 (Nat.le_trans (z8 k49 k85 k88 k93 k100 k104 k112 k133) p167))))
 refine sv (L_38 (F_impl_copyChan x_c) a50 c51 a55 c56 a60 c61 a65 c66 a70 c71 a75 c76) wN sizeOf_38 b195 ?_
 intro w13 k196 b197 z198
 have m199 := m175.ext k196 (fun k hk => by subst hk; exact Nat.le_trans k39.size p43)
 refine aw (vi 6) ?_
 refine n1 ?_
 have o200 := (own_ch (own_ch (own_kp (own_kp (own_kp (own_kp (own_kp (own_kp (own_ch (own_kp o52 k85) k88 (ne2 o52 (p83))) k93) k100) k104) k112) k133) k169) k172 (ne2 o52 (Nat.le_trans (z7 k85 k88 k93 k100 k104 k112 k133) p167))) k196 (ne1 o52 (p44)))
 have o201 := (own_ch (own_ch (own_kp (own_kp (own_kp (own_kp (own_kp (own_kp (own_ch (own_kp o57 k85) k88 (ne2 o57 (p83))) k93) k100) k104) k112) k133) k169) k172 (ne2 o57 (Nat.le_trans (z7 k85 k88 k93 k100 k104 k112 k133) p167))) k196 (ne1 o57 (p44)))
 have o202 := (own_ch (own_ch (own_kp (own_kp (own_kp (own_kp (own_kp (own_kp (own_ch (own_kp o62 k85) k88 (ne2 o62 (p83))) k93) k100) k104) k112) k133) k169) k172 (ne2 o62 (Nat.le_trans (z7 k85 k88 k93 k100 k104 k112 k133) p167))) k196 (ne1 o62 (p44)))
 have o203 := (own_ch (own_ch (own_kp (own_kp (own_kp (own_kp (own_kp (own_kp (own_ch (own_kp o67 k85) k88 (ne2 o67 (p83))) k93) k100) k104) k112) k133) k169) k172 (ne2 o67 (Nat.le_trans (z7 k85 k88 k93 k100 k104 k112 k133) p167))) k196 (ne1 o67 (p44)))
 have o204 := (own_ch (own_ch (own_kp (own_kp (own_kp (own_kp (own_kp (own_kp (own_ch (own_kp o72 k85) k88 (ne2 o72 (p83))) k93) k100) k104) k112) k133) k169) k172 (ne2 o72 (Nat.le_trans (z7 k85 k88 k93 k100 k104 k112 k133) p167))) k196 (ne1 o72 (p44)))
 have o205 := (own_ch (own_ch (own_kp (own_kp (own_kp (own_kp (own_kp (own_kp (own_ch (own_kp o77 k85) k88 (ne2 o77 (p83))) k93) k100) k104) k112) k133) k169) k172 (ne2 o77 (Nat.le_trans (z7 k85 k88 k93 k100 k104 k112 k133) p167))) k196 (ne1 o77 (p44)))
 refine ret_2 (.inl rfl) (va (L_38 (F_impl_copyChan x_c) a50 c51 a55 c56 a60 c61 a65 c66 a70 c71 a75 c76)) (vi 6) rfl (rv_c [(vi ((F_impl_copyChan x_c).Role)), (vs a50 ((F_impl_copyChan x_c).Sn).length c51), (vi (((F_impl_copyChan x_c).Cur).N)), (vs a55 (((F_impl_copyChan x_c).Cur).Key).length c56), (vi (((F_impl_copyChan x_c).Cur).Seq)), (vi ((((F_impl_copyChan x_c).Cur).Win).Top)), (vs a60 ((((F_impl_copyChan x_c).Cur).Win).Bits).length c61), (vi (((F_impl_copyChan x_c).Old).N)), (vs a65 (((F_impl_copyChan x_c).Old).Key).length c66), (vi (((F_impl_copyChan x_c).Old).Seq)), (vi ((((F_impl_copyChan x_c).Old).Win).Top)), (vs a70 ((((F_impl_copyChan x_c).Old).Win).Bits).length c71), (vb ((F_impl_copyChan x_c).HasOld)), (vi ((F_impl_copyChan x_c).Until)), (vs a75 ((F_impl_copyChan x_c).Next).length c76)] rfl b197 isAgg_38 sizeOf_38) rfl ?_
 refine ⟨m199.keep0, ?_⟩
 have hF206 : F_impl_HearRekey x_c x_under x_plain = ((F_impl_copyChan x_c), 6) := by simp only [F_impl_HearRekey, h95, h98, h102, h114, h117, h177, h179, cond_true, cond_false]
 rw [hF206]
 exact ⟨_, _, _, _, _, _, _, _, _, _, _, _, rfl, (own_lo o200 (z2 k39 k45)), s53, (own_lo o201 (z2 k39 k45)), s58, (own_lo o202 (z2 k39 k45)), s63, (own_lo o203 (z2 k39 k45)), s68, (own_lo o204 (z2 k39 k45)), s73, (own_lo o205 (z2 k39 k45)), s78, ⟨⟨(ap80.1.1), ⟨(ap80.1.2.1), ⟨(ap80.1.2.2.1), ⟨(ap80.1.2.2.2.1), ⟨(ap80.1.2.2.2.2.1), trivial⟩⟩⟩⟩⟩, ⟨⟨(ap80.2.1.1), ⟨(ap80.2.1.2.1), ⟨(ap80.2.1.2.2.1), ⟨(ap80.2.1.2.2.2.1), trivial⟩⟩⟩⟩, ⟨⟨(ap80.2.2.1.1), ⟨(ap80.2.2.1.2.1), ⟨(ap80.2.2.1.2.2.1), trivial⟩⟩⟩, ⟨⟨(ap80.2.2.2.1.1), ⟨(ap80.2.2.2.1.2.1), trivial⟩⟩, ⟨⟨(ap80.2.2.2.2.1.1), trivial⟩, ⟨trivial, trivial⟩⟩⟩⟩⟩⟩⟩

theorem isAgg_50 : ∀ w, (isAgg 50).run Try.prog w = .ok true w := fun w => by kernel_rfl
theorem sizeOf_50 : ∀ w, (sizeOf 50).run Try.prog w = .ok 15 w := fun w => by kernel_rfl
abbrev L_50 (x : PChan) (a1 : Option Addr) (c1 : Nat) (a2 : Option Addr) (c2 : Nat) (a3 : Option Addr) (c3 : Nat) (a4 : Option Addr) (c4 : Nat) (a5 : Option Addr) (c5 : Nat) (a6 : Option Addr) (c6 : Nat) : List Value := [vi x.Role, vs a1 x.Sn.length c1, vi x.Cur.N, vs a2 x.Cur.Key.length c2, vi x.Cur.Seq, vi x.Cur.Win.Top, vs a3 x.Cur.Win.Bits.length c3, vi x.Old.N, vs a4 x.Old.Key.length c4, vi x.Old.Seq, vi x.Old.Win.Top, vs a5 x.Old.Win.Bits.length c5, vb x.HasOld, vi x.Until, vs a6 x.Next.length c6]
theorem mQ_50 {w : World} {x : PChan} {a1 : Option Addr} {c1 : Nat} {a2 : Option Addr} {c2 : Nat} {a3 : Option Addr} {c3 : Nat} {a4 : Option Addr} {c4 : Nat} {a5 : Option Addr} {c5 : Nat} {a6 : Option Addr} {c6 : Nat} (h1 : Rd w 1 (.slice a1 x.Sn.length c1) x.Sn.length (x.Sn.map bV)) (l1 : x.Sn.length ≤ 9223372036854775807) (h2 : Rd w 1 (.slice a2 x.Cur.Key.length c2) x.Cur.Key.length (x.Cur.Key.map bV)) (l2 : x.Cur.Key.length ≤ 9223372036854775807) (h3 : Rd w 1 (.slice a3 x.Cur.Win.Bits.length c3) x.Cur.Win.Bits.length (x.Cur.Win.Bits.map iV)) (l3 : x.Cur.Win.Bits.length ≤ 9223372036854775807) (h4 : Rd w 1 (.slice a4 x.Old.Key.length c4) x.Old.Key.length (x.Old.Key.map bV)) (l4 : x.Old.Key.length ≤ 9223372036854775807) (h5 : Rd w 1 (.slice a5 x.Old.Win.Bits.length c5) x.Old.Win.Bits.length (x.Old.Win.Bits.map iV)) (l5 : x.Old.Win.Bits.length ≤ 9223372036854775807) (h6 : Rd w 1 (.slice a6 x.Next.length c6) x.Next.length (x.Next.map bV)) (l6 : x.Next.length ≤ 9223372036854775807) : Q_50 w (va (L_50 x a1 c1 a2 c2 a3 c3 a4 c4 a5 c5 a6 c6)) x := ⟨_, _, _, _, _, _, _, _, _, _, _, _, rfl, h1, l1, h2, l2, h3, l3, h4, l4, h5, l5, h6, l6⟩
theorem mR_50 {w : World} {x : PChan} {a1 : Option Addr} {c1 : Nat} {a2 : Option Addr} {c2 : Nat} {a3 : Option Addr} {c3 : Nat} {a4 : Option Addr} {c4 : Nat} {a5 : Option Addr} {c5 : Nat} {a6 : Option Addr} {c6 : Nat} (h1 : Rd w 1 (.slice a1 x.Sn.length c1) x.Sn.length (x.Sn.map bV)) (l1 : x.Sn.length ≤ 1073741824) (h2 : Rd w 1 (.slice a2 x.Cur.Key.length c2) x.Cur.Key.length (x.Cur.Key.map bV)) (l2 : x.Cur.Key.length ≤ 1073741824) (h3 : Rd w 1 (.slice a3 x.Cur.Win.Bits.length c3) x.Cur.Win.Bits.length (x.Cur.Win.Bits.map iV)) (l3 : x.Cur.Win.Bits.length ≤ 1073741824) (h4 : Rd w 1 (.slice a4 x.Old.Key.length c4) x.Old.Key.length (x.Old.Key.map bV)) (l4 : x.Old.Key.length ≤ 1073741824) (h5 : Rd w 1 (.slice a5 x.Old.Win.Bits.length c5) x.Old.Win.Bits.length (x.Old.Win.Bits.map iV)) (l5 : x.Old.Win.Bits.length ≤ 1073741824) (h6 : Rd w 1 (.slice a6 x.Next.length c6) x.Next.length (x.Next.map bV)) (l6 : x.Next.length ≤ 1073741824) : R_50 w (va (L_50 x a1 c1 a2 c2 a3 c3 a4 c4 a5 c5 a6 c6)) x := ⟨_, _, _, _, _, _, _, _, _, _, _, _, rfl, h1, l1, h2, l2, h3, l3, h4, l4, h5, l5, h6, l6⟩
def F_laws_FnExactHearRekey (x_aC : PChan) (x_aUnder : Int) (x_aPlain : List UInt8) : (Bool) := bif (decide (1048576 < (x_aPlain.length : Int))) then (true) else (bif (decide ((F_laws_szChan x_aC 1048576) < 0)) then (true) else (bif (F_laws_eqChan (((F_impl_HearRekey (F_laws_toChan x_aC) x_aUnder (cpB x_aPlain))).1) (((F_spec_HearRekey (F_laws_toChan x_aC) x_aUnder (cpB x_aPlain))).1)) then (bif (decide (((F_impl_HearRekey (F_laws_toChan x_aC) x_aUnder (cpB x_aPlain))).2 = ((F_spec_HearRekey (F_laws_toChan x_aC) x_aUnder (cpB x_aPlain))).2)) then (bif (F_laws_eqChan (F_laws_toChan x_aC) (F_laws_toChan x_aC)) then (bif (eqB (cpB x_aPlain) (cpB x_aPlain)) then (bif (decide ((((((((1 + (((F_laws_toChan x_aC).Sn).length : Int)) + ((((F_laws_toChan x_aC).Cur).Key).length : Int)) + (((((F_laws_toChan x_aC).Cur).Win).Bits).length : Int)) + ((((F_laws_toChan x_aC).Old).Key).length : Int)) + (((((F_laws_toChan x_aC).Old).Win).Bits).length : Int)) + (((F_laws_toChan x_aC).Next).length : Int)) + ((cpB x_aPlain).length : Int)) < 0)) then (false) else (bif (decide (((F_laws_heldChan { Role := (((F_impl_HearRekey (F_laws_toChan x_aC) x_aUnder (cpB x_aPlain))).1).Role, Sn := (marksB 1 ((((F_impl_HearRekey (F_laws_toChan x_aC) x_aUnder (cpB x_aPlain))).1).Sn).length), Cur := { N := ((((F_impl_HearRekey (F_laws_toChan x_aC) x_aUnder (cpB x_aPlain))).1).Cur).N, Key := (marksB (1 + (((((F_impl_HearRekey (F_laws_toChan x_aC) x_aUnder (cpB x_aPlain))).1).Sn).length : Int)) (((((F_impl_HearRekey (F_laws_toChan x_aC) x_aUnder (cpB x_aPlain))).1).Cur).Key).length), Seq := ((((F_impl_HearRekey (F_laws_toChan x_aC) x_aUnder (cpB x_aPlain))).1).Cur).Seq, Win := { Top := (((((F_impl_HearRekey (F_laws_toChan x_aC) x_aUnder (cpB x_aPlain))).1).Cur).Win).Top, Bits := (marksI ((1 + (((((F_impl_HearRekey (F_laws_toChan x_aC) x_aUnder (cpB x_aPlain))).1).Sn).length : Int)) + ((((((F_impl_HearRekey (F_laws_toChan x_aC) x_aUnder (cpB x_aPlain))).1).Cur).Key).length : Int)) ((((((F_impl_HearRekey (F_laws_toChan x_aC) x_aUnder (cpB x_aPlain))).1).Cur).Win).Bits).length) : PWin } : PEp }, Old := { N := ((((F_impl_HearRekey (F_laws_toChan x_aC) x_aUnder (cpB x_aPlain))).1).Old).N, Key := (marksB (((1 + (((((F_impl_HearRekey (F_laws_toChan x_aC) x_aUnder (cpB x_aPlain))).1).Sn).length : Int)) + ((((((F_impl_HearRekey (F_laws_toChan x_aC) x_aUnder (cpB x_aPlain))).1).Cur).Key).length : Int)) + (((((((F_impl_HearRekey (F_laws_toChan x_aC) x_aUnder (cpB x_aPlain))).1).Cur).Win).Bits).length : Int)) (((((F_impl_HearRekey (F_laws_toChan x_aC) x_aUnder (cpB x_aPlain))).1).Old).Key).length), Seq := ((((F_impl_HearRekey (F_laws_toChan x_aC) x_aUnder (cpB x_aPlain))).1).Old).Seq, Win := { Top := (((((F_impl_HearRekey (F_laws_toChan x_aC) x_aUnder (cpB x_aPlain))).1).Old).Win).Top, Bits := (marksI ((((1 + (((((F_impl_HearRekey (F_laws_toChan x_aC) x_aUnder (cpB x_aPlain))).1).Sn).length : Int)) + ((((((F_impl_HearRekey (F_laws_toChan x_aC) x_aUnder (cpB x_aPlain))).1).Cur).Key).length : Int)) + (((((((F_impl_HearRekey (F_laws_toChan x_aC) x_aUnder (cpB x_aPlain))).1).Cur).Win).Bits).length : Int)) + ((((((F_impl_HearRekey (F_laws_toChan x_aC) x_aUnder (cpB x_aPlain))).1).Old).Key).length : Int)) ((((((F_impl_HearRekey (F_laws_toChan x_aC) x_aUnder (cpB x_aPlain))).1).Old).Win).Bits).length) : PWin } : PEp }, HasOld := (((F_impl_HearRekey (F_laws_toChan x_aC) x_aUnder (cpB x_aPlain))).1).HasOld, Until := (((F_impl_HearRekey (F_laws_toChan x_aC) x_aUnder (cpB x_aPlain))).1).Until, Next := (marksB (((((1 + (((((F_impl_HearRekey (F_laws_toChan x_aC) x_aUnder (cpB x_aPlain))).1).Sn).length : Int)) + ((((((F_impl_HearRekey (F_laws_toChan x_aC) x_aUnder (cpB x_aPlain))).1).Cur).Key).length : Int)) + (((((((F_impl_HearRekey (F_laws_toChan x_aC) x_aUnder (cpB x_aPlain))).1).Cur).Win).Bits).length : Int)) + ((((((F_impl_HearRekey (F_laws_toChan x_aC) x_aUnder (cpB x_aPlain))).1).Old).Key).length : Int)) + (((((((F_impl_HearRekey (F_laws_toChan x_aC) x_aUnder (cpB x_aPlain))).1).Old).Win).Bits).length : Int)) ((((F_impl_HearRekey (F_laws_toChan x_aC) x_aUnder (cpB x_aPlain))).1).Next).length) : PChan } 1)) < 0)) then (false) else (bif (decide (((F_laws_heldChan { Role := (((F_impl_HearRekey (F_laws_toChan x_aC) x_aUnder (cpB x_aPlain))).1).Role, Sn := (marksB 1 ((((F_impl_HearRekey (F_laws_toChan x_aC) x_aUnder (cpB x_aPlain))).1).Sn).length), Cur := { N := ((((F_impl_HearRekey (F_laws_toChan x_aC) x_aUnder (cpB x_aPlain))).1).Cur).N, Key := (marksB (1 + (((((F_impl_HearRekey (F_laws_toChan x_aC) x_aUnder (cpB x_aPlain))).1).Sn).length : Int)) (((((F_impl_HearRekey (F_laws_toChan x_aC) x_aUnder (cpB x_aPlain))).1).Cur).Key).length), Seq := ((((F_impl_HearRekey (F_laws_toChan x_aC) x_aUnder (cpB x_aPlain))).1).Cur).Seq, Win := { Top := (((((F_impl_HearRekey (F_laws_toChan x_aC) x_aUnder (cpB x_aPlain))).1).Cur).Win).Top, Bits := (marksI ((1 + (((((F_impl_HearRekey (F_laws_toChan x_aC) x_aUnder (cpB x_aPlain))).1).Sn).length : Int)) + ((((((F_impl_HearRekey (F_laws_toChan x_aC) x_aUnder (cpB x_aPlain))).1).Cur).Key).length : Int)) ((((((F_impl_HearRekey (F_laws_toChan x_aC) x_aUnder (cpB x_aPlain))).1).Cur).Win).Bits).length) : PWin } : PEp }, Old := { N := ((((F_impl_HearRekey (F_laws_toChan x_aC) x_aUnder (cpB x_aPlain))).1).Old).N, Key := (marksB (((1 + (((((F_impl_HearRekey (F_laws_toChan x_aC) x_aUnder (cpB x_aPlain))).1).Sn).length : Int)) + ((((((F_impl_HearRekey (F_laws_toChan x_aC) x_aUnder (cpB x_aPlain))).1).Cur).Key).length : Int)) + (((((((F_impl_HearRekey (F_laws_toChan x_aC) x_aUnder (cpB x_aPlain))).1).Cur).Win).Bits).length : Int)) (((((F_impl_HearRekey (F_laws_toChan x_aC) x_aUnder (cpB x_aPlain))).1).Old).Key).length), Seq := ((((F_impl_HearRekey (F_laws_toChan x_aC) x_aUnder (cpB x_aPlain))).1).Old).Seq, Win := { Top := (((((F_impl_HearRekey (F_laws_toChan x_aC) x_aUnder (cpB x_aPlain))).1).Old).Win).Top, Bits := (marksI ((((1 + (((((F_impl_HearRekey (F_laws_toChan x_aC) x_aUnder (cpB x_aPlain))).1).Sn).length : Int)) + ((((((F_impl_HearRekey (F_laws_toChan x_aC) x_aUnder (cpB x_aPlain))).1).Cur).Key).length : Int)) + (((((((F_impl_HearRekey (F_laws_toChan x_aC) x_aUnder (cpB x_aPlain))).1).Cur).Win).Bits).length : Int)) + ((((((F_impl_HearRekey (F_laws_toChan x_aC) x_aUnder (cpB x_aPlain))).1).Old).Key).length : Int)) ((((((F_impl_HearRekey (F_laws_toChan x_aC) x_aUnder (cpB x_aPlain))).1).Old).Win).Bits).length) : PWin } : PEp }, HasOld := (((F_impl_HearRekey (F_laws_toChan x_aC) x_aUnder (cpB x_aPlain))).1).HasOld, Until := (((F_impl_HearRekey (F_laws_toChan x_aC) x_aUnder (cpB x_aPlain))).1).Until, Next := (marksB (((((1 + (((((F_impl_HearRekey (F_laws_toChan x_aC) x_aUnder (cpB x_aPlain))).1).Sn).length : Int)) + ((((((F_impl_HearRekey (F_laws_toChan x_aC) x_aUnder (cpB x_aPlain))).1).Cur).Key).length : Int)) + (((((((F_impl_HearRekey (F_laws_toChan x_aC) x_aUnder (cpB x_aPlain))).1).Cur).Win).Bits).length : Int)) + ((((((F_impl_HearRekey (F_laws_toChan x_aC) x_aUnder (cpB x_aPlain))).1).Old).Key).length : Int)) + (((((((F_impl_HearRekey (F_laws_toChan x_aC) x_aUnder (cpB x_aPlain))).1).Old).Win).Bits).length : Int)) ((((F_impl_HearRekey (F_laws_toChan x_aC) x_aUnder (cpB x_aPlain))).1).Next).length) : PChan } 1)) = ((((((1 + (((((F_impl_HearRekey (F_laws_toChan x_aC) x_aUnder (cpB x_aPlain))).1).Sn).length : Int)) + ((((((F_impl_HearRekey (F_laws_toChan x_aC) x_aUnder (cpB x_aPlain))).1).Cur).Key).length : Int)) + (((((((F_impl_HearRekey (F_laws_toChan x_aC) x_aUnder (cpB x_aPlain))).1).Cur).Win).Bits).length : Int)) + ((((((F_impl_HearRekey (F_laws_toChan x_aC) x_aUnder (cpB x_aPlain))).1).Old).Key).length : Int)) + (((((((F_impl_HearRekey (F_laws_toChan x_aC) x_aUnder (cpB x_aPlain))).1).Old).Win).Bits).length : Int)) + (((((F_impl_HearRekey (F_laws_toChan x_aC) x_aUnder (cpB x_aPlain))).1).Next).length : Int)))) then (true) else (false)))) else (false)) else (false)) else (false)) else (false)))
theorem C_laws_FnExactHearRekey (w0 : World) (v_x_aC : Value) (x_aC : PChan) (r_x_aC : Q_50 w0 v_x_aC x_aC) (x_aUnder : Int) (v_x_aPlain : Value) (x_aPlain : List UInt8) (r_x_aPlain : Q_22 w0 v_x_aPlain x_aPlain)  : Fn Try.prog 8 #[v_x_aC, (vi x_aUnder), v_x_aPlain] w0 (fun v w' => Keep w0 w' ∧ O_4 w' w0.heap.size v (F_laws_FnExactHearRekey x_aC x_aUnder x_aPlain)) := by
 obtain ⟨a1, c2, a6, c7, a11, c12, a16, c17, a21, c22, a26, c27, rfl, r3, s4, r8, s9, r13, s14, r18, s19, r23, s24, r28, s29⟩ := r_x_aC
 obtain ⟨a31, c32, rfl, r33, s34⟩ := r_x_aPlain
 refine fn_of (n := 122) (l := [(va (L_38 x_aC a1 c2 a6 c7 a11 c12 a16 c17 a21 c22 a26 c27)), (vi x_aUnder), (vs a31 x_aPlain.length c32), U, U, U, U, U, U, U, U, U, U, U, U, U, U, U, U, U, U, U, U, U, U, U, U, U, U, U, U, U, U, U, U, U, U, U, U, U, U, U, U, U, U, U, U, U, U, U, U, U, U, U, U, U, U, U, U, U, U, U, U, U, U, U, U, U, U, U, U, U, U, U, U, U, U, U, U, U, U, U, U, U, U, U, U, U, U, U, U, U, U, U, U, U, U, U, U, U, U, U, U, U, U, U, U, U, U, U, U, U, U, U, U, U, U, U, U, U, U, U]) Try.func8 rfl rfl (by kernel_rfl) rfl ?_
 refine sr ?_
 refine bx (L_38 x_aC a1 c2 a6 c7 a11 c12 a16 c17 a21 c22 a26 c27) wN ?_
 intro g36 w1 p37 p38 k39 b40
 have m41 := (Ch.base w0).extk k39
 refine aw (vb false) ?_
 refine n4 ?_
 refine mw (vs a31 x_aPlain.length c32) ?_
 refine ln wN slTy_22 (r33.from0 m41) ?_
 refine pu (vb (decide (1048576 < (x_aPlain.length : Int)))) wN ?_
 refine n2 ?_
 rcases bt (decide (1048576 < (x_aPlain.length : Int))) with h42 | h42
 ·have q43 := of_decide_eq_true h42
  refine ct h42 ?_
  refine sr ?_
  refine aw (vb true) ?_
  refine n1 ?_
  refine rt (vb true) ?_
  refine ⟨m41.keep0, ?_⟩
  have hF44 : F_laws_FnExactHearRekey x_aC x_aUnder x_aPlain = true := by first | (simp only [F_laws_FnExactHearRekey, h42, cond_true, cond_false]; done) | (unfold F_laws_FnExactHearRekey; try rw [h42]; rfl)
  rw [hF44]
  exact rfl
 have q45 := of_decide_eq_false h42
 refine cf h42 ?_
 refine y1 ?_
 refine aw (vi 1048576) ?_
 refine nx ?_
 refine lN (L_38 x_aC a1 c2 a6 c7 a11 c12 a16 c17 a21 c22 a26 c27) wN isAgg_50 sizeOf_50 b40 ?_
 refine mw (vi 1048576) ?_
 refine cl wN (C_laws_szChan w1 _ x_aC (mQ_50 (r3.from0 m41) s4 (r8.from0 m41) s9 (r13.from0 m41) s14 (r18.from0 m41) s19 (r23.from0 m41) s24 (r28.from0 m41) s29) 1048576 (by omega) (by omega)) ?_
 rintro _ w2 ⟨k46, rfl⟩
 have m47 := m41.extk k46
 have q48 := laws_szChan_le x_aC 1048576
 refine aw (vi (F_laws_szChan x_aC 1048576)) ?_
 refine n4 ?_
 refine mw (vi (F_laws_szChan x_aC 1048576)) ?_
 refine pu (vb (decide ((F_laws_szChan x_aC 1048576) < 0))) wN ?_
 refine n2 ?_
 rcases bt (decide ((F_laws_szChan x_aC 1048576) < 0)) with h49 | h49
 ·have q50 := of_decide_eq_true h49
  refine ct h49 ?_
  refine sr ?_
  refine aw (vb true) ?_
  refine n1 ?_
  refine rt (vb true) ?_
  refine ⟨m47.keep0, ?_⟩
  have hF51 : F_laws_FnExactHearRekey x_aC x_aUnder x_aPlain = true := by first | (simp only [F_laws_FnExactHearRekey, h42, h49, cond_true, cond_false]; done) | (unfold F_laws_FnExactHearRekey; try rw [h42]; try rw [h49]; rfl)
  rw [hF51]
  exact rfl
 have q52 := of_decide_eq_false h49
 refine cf h49 ?_
 refine y1 ?_
 have b53 := (b40.kp k46)
 refine lN (L_38 x_aC a1 c2 a6 c7 a11 c12 a16 c17 a21 c22 a26 c27) wN isAgg_50 sizeOf_50 b53 ?_
 refine cl wN (C_laws_toChan w2 _ x_aC (mR_50 (r3.from0 m47) (by omega) (r8.from0 m47) (by omega) (r13.from0 m47) (by omega) (r18.from0 m47) (by omega) (r23.from0 m47) (by omega) (r28.from0 m47) (by omega))) ?_
 rintro _ w3 ⟨k54, ⟨a55, c56, a60, c61, a65, c66, a70, c71, a75, c76, a80, c81, rfl, o57, s58, o62, s63, o67, s68, o72, s73, o77, s78, o82, s83, ap85⟩⟩
 have m86 := m47.extk k54
 refine mw (vi x_aUnder) ?_
 refine mw (vs a31 x_aPlain.length c32) ?_
 refine cl wN (C_laws_toByteS w3 _ x_aPlain (mR_22 (r33.from0 m86) (by omega))) ?_
 rintro _ w4 ⟨k87, ⟨a88, c89, rfl, o90, s91, ap93⟩⟩
 have m94 := m86.extk k87
 have o95 := (own_kp o57 k87)
 have o96 := (own_kp o62 k87)
 have o97 := (own_kp o67 k87)
 have o98 := (own_kp o72 k87)
 have o99 := (own_kp o77 k87)
 have o100 := (own_kp o82 k87)
 obtain ⟨y102, e103⟩ : ∃ y, F_spec_HearRekey (F_laws_toChan x_aC) x_aUnder (cpB x_aPlain) = y := ⟨_, rfl⟩
 have hc101 := C_spec_HearRekey w4 _ (F_laws_toChan x_aC) (mR_38 (Rd.of_own o95) s58 (Rd.of_own o96) s63 (Rd.of_own o97) s68 (Rd.of_own o98) s73 (Rd.of_own o99) s78 (Rd.of_own o100) s83) x_aUnder _ (cpB x_aPlain) (mR_22 (Rd.of_own o90) s91)
 rw [e103] at hc101
 refine cl wN hc101 ?_
 rintro _ w5 ⟨k104, ⟨a105, c106, a110, c111, a115, c116, a120, c121, a125, c126, a130, c131, rfl, o107, s108, o112, s113, o117, s118, o122, s123, o127, s128, o132, s133, ap135⟩⟩
 have m136 := m94.extk k104
 refine mw (.tuple #[(va (L_38 ((y102).1) a105 c106 a110 c111 a115 c116 a120 c121 a125 c126 a130 c131)), (vi ((y102).2))]) ?_
 refine pu (va (L_38 ((y102).1) a105 c106 a110 c111 a115 c116 a120 c121 a125 c126 a130 c131)) wN ?_
 refine pu (vi ((y102).2)) wN ?_
 refine al [(vi 0), (vs none 0 0), (vi 0), (vs none 0 0), (vi 0), (vi 0), (vs none 0 0), (vi 0), (vs none 0 0), (vi 0), (vi 0), (vs none 0 0), (vb false), (vi 0), (vs none 0 0)] wN zero_38 ?_
 intro g137 w6 p138 p139 k140 b141
 have m142 := m136.extk k140
 refine sv (L_38 ((y102).1) a105 c106 a110 c111 a115 c116 a120 c121 a125 c126 a130 c131) wN sizeOf_38 b141 ?_
 intro w7 k143 b144 z145
 have m146 := m142.ext k143 (fun k hk => by subst hk; exact Nat.le_trans (z5 k39 k46 k54 k87 k104) p138)
 refine aw (vi ((y102).2)) ?_
 refine nx ?_
 have b147 := (((((b53.kp k54).kp k87).kp k104).kp k140).ch k143 (Nat.ne_of_lt (Nat.lt_of_lt_of_le p38 (Nat.le_trans (z4 k46 k54 k87 k104) p138))))
 refine lN (L_38 x_aC a1 c2 a6 c7 a11 c12 a16 c17 a21 c22 a26 c27) wN isAgg_50 sizeOf_50 b147 ?_
 refine cl wN (C_laws_toChan w7 _ x_aC (mR_50 (r3.from0 m146) (by omega) (r8.from0 m146) (by omega) (r13.from0 m146) (by omega) (r18.from0 m146) (by omega) (r23.from0 m146) (by omega) (r28.from0 m146) (by omega))) ?_
 rintro _ w8 ⟨k148, ⟨a149, c150, a154, c155, a159, c160, a164, c165, a169, c170, a174, c175, rfl, o151, s152, o156, s157, o161, s162, o166, s167, o171, s172, o176, s177, ap179⟩⟩
 have m180 := m146.extk k148
 refine al [(vi 0), (vs none 0 0), (vi 0), (vs none 0 0), (vi 0), (vi 0), (vs none 0 0), (vi 0), (vs none 0 0), (vi 0), (vi 0), (vs none 0 0), (vb false), (vi 0), (vs none 0 0)] wN zero_38 ?_
 intro g181 w9 p182 p183 k184 b185
 have m186 := m180.extk k184
 refine sv (L_38 (F_laws_toChan x_aC) a149 c150 a154 c155 a159 c160 a164 c165 a169 c170 a174 c175) wN sizeOf_38 b185 ?_
 intro w10 k187 b188 z189
 have m190 := m186.ext k187 (fun k hk => by subst hk; exact Nat.le_trans (z8 k39 k46 k54 k87 k104 k140 k143 k148) p182)
 refine nx ?_
 refine mw (vs a31 x_aPlain.length c32) ?_
 refine cl wN (C_laws_toByteS w10 _ x_aPlain (mR_22 (r33.from0 m190) (by omega))) ?_
 rintro _ w11 ⟨k191, ⟨a192, c193, rfl, o194, s195, ap197⟩⟩
 have m198 := m190.extk k191
 refine aw (vs a192 (cpB x_aPlain).length c193) ?_
 refine nx ?_
 have b199 := (b188.kp k191)
 refine lN (L_38 (F_laws_toChan x_aC) a149 c150 a154 c155 a159 c160 a164 c165 a169 c170 a174 c175) wN isAgg_38 sizeOf_38 b199 ?_
 refine mw (vi x_aUnder) ?_
 refine mw (vs a192 (cpB x_aPlain).length c193) ?_
 have o200 := (own_kp (own_ch (own_kp o151 k184) k187 (ne2 o151 (p182))) k191)
 have o201 := (own_kp (own_ch (own_kp o156 k184) k187 (ne2 o156 (p182))) k191)
 have o202 := (own_kp (own_ch (own_kp o161 k184) k187 (ne2 o161 (p182))) k191)
 have o203 := (own_kp (own_ch (own_kp o166 k184) k187 (ne2 o166 (p182))) k191)
 have o204 := (own_kp (own_ch (own_kp o171 k184) k187 (ne2 o171 (p182))) k191)
 have o205 := (own_kp (own_ch (own_kp o176 k184) k187 (ne2 o176 (p182))) k191)
 obtain ⟨y207, e208⟩ : ∃ y, F_impl_HearRekey (F_laws_toChan x_aC) x_aUnder (cpB x_aPlain) = y := ⟨_, rfl⟩
 have hc206 := C_impl_HearRekey w11 _ (F_laws_toChan x_aC) (mR_38 (Rd.of_own o200) s152 (Rd.of_own o201) s157 (Rd.of_own o202) s162 (Rd.of_own o203) s167 (Rd.of_own o204) s172 (Rd.of_own o205) s177) x_aUnder _ (cpB x_aPlain) (mR_22 (Rd.of_own o194) s195)
 rw [e208] at hc206
 refine cl wN hc206 ?_
 rintro _ w12 ⟨k209, ⟨a210, c211, a215, c216, a220, c221, a225, c226, a230, c231, a235, c236, rfl, o212, s213, o217, s218, o222, s223, o227, s228, o232, s233, o237, s238, ap240⟩⟩
 have m241 := m198.extk k209
 refine mw (.tuple #[(va (L_38 ((y207).1) a210 c211 a215 c216 a220 c221 a225 c226 a230 c231 a235 c236)), (vi ((y207).2))]) ?_
 refine pu (va (L_38 ((y207).1) a210 c211 a215 c216 a220 c221 a225 c226 a230 c231 a235 c236)) wN ?_
 refine pu (vi ((y207).2)) wN ?_
 refine al [(vi 0), (vs none 0 0), (vi 0), (vs none 0 0), (vi 0), (vi 0), (vs none 0 0), (vi 0), (vs none 0 0), (vi 0), (vi 0), (vs none 0 0), (vb false), (vi 0), (vs none 0 0)] wN zero_38 ?_
 intro g242 w13 p243 p244 k245 b246
 have m247 := m241.extk k245
 refine sv (L_38 ((y207).1) a210 c211 a215 c216 a220 c221 a225 c226 a230 c231 a235 c236) wN sizeOf_38 b246 ?_
 intro w14 k248 b249 z250
 have m251 := m247.ext k248 (fun k hk => by subst hk; exact Nat.le_trans (z12 k39 k46 k54 k87 k104 k140 k143 k148 k184 k187 k191 k209) p243)
 refine aw (vi ((y207).2)) ?_
 refine n4 ?_
 refine lN (L_38 ((y207).1) a210 c211 a215 c216 a220 c221 a225 c226 a230 c231 a235 c236) wN isAgg_38 sizeOf_38 b249 ?_
 have b252 := (((((((b144.kp k148).kp k184).ch k187 (Nat.ne_of_lt (Nat.lt_of_lt_of_le p139 (Nat.le_trans (z2 k143 k148) p182)))).kp k191).kp k209).kp k245).ch k248 (Nat.ne_of_lt (Nat.lt_of_lt_of_le p139 (Nat.le_trans (z6 k143 k148 k184 k187 k191 k209) p243))))
 refine lN (L_38 ((y102).1) a105 c106 a110 c111 a115 c116 a120 c121 a125 c126 a130 c131) wN isAgg_38 sizeOf_38 b252 ?_
 have o253 := (own_ch (own_kp o212 k245) k248 (ne2 o212 (p243)))
 have o254 := (own_ch (own_kp o217 k245) k248 (ne2 o217 (p243)))
 have o255 := (own_ch (own_kp o222 k245) k248 (ne2 o222 (p243)))
 have o256 := (own_ch (own_kp o227 k245) k248 (ne2 o227 (p243)))
 have o257 := (own_ch (own_kp o232 k245) k248 (ne2 o232 (p243)))
 have o258 := (own_ch (own_kp o237 k245) k248 (ne2 o237 (p243)))
 have o259 := (own_ch (own_kp (own_kp (own_kp (own_ch (own_kp (own_kp (own_ch (own_kp o107 k140) k143 (ne2 o107 (p138))) k148) k184) k187 (ne2 o107 (Nat.le_trans (z3 k140 k143 k148) p182))) k191) k209) k245) k248 (ne2 o107 (Nat.le_trans (z7 k140 k143 k148 k184 k187 k191 k209) p243)))
 have o260 := (own_ch (own_kp (own_kp (own_kp (own_ch (own_kp (own_kp (own_ch (own_kp o112 k140) k143 (ne2 o112 (p138))) k148) k184) k187 (ne2 o112 (Nat.le_trans (z3 k140 k143 k148) p182))) k191) k209) k245) k248 (ne2 o112 (Nat.le_trans (z7 k140 k143 k148 k184 k187 k191 k209) p243)))
 have o261 := (own_ch (own_kp (own_kp (own_kp (own_ch (own_kp (own_kp (own_ch (own_kp o117 k140) k143 (ne2 o117 (p138))) k148) k184) k187 (ne2 o117 (Nat.le_trans (z3 k140 k143 k148) p182))) k191) k209) k245) k248 (ne2 o117 (Nat.le_trans (z7 k140 k143 k148 k184 k187 k191 k209) p243)))
 have o262 := (own_ch (own_kp (own_kp (own_kp (own_ch (own_kp (own_kp (own_ch (own_kp o122 k140) k143 (ne2 o122 (p138))) k148) k184) k187 (ne2 o122 (Nat.le_trans (z3 k140 k143 k148) p182))) k191) k209) k245) k248 (ne2 o122 (Nat.le_trans (z7 k140 k143 k148 k184 k187 k191 k209) p243)))
 have o263 := (own_ch (own_kp (own_kp (own_kp (own_ch (own_kp (own_kp (own_ch (own_kp o127 k140) k143 (ne2 o127 (p138))) k148) k184) k187 (ne2 o127 (Nat.le_trans (z3 k140 k143 k148) p182))) k191) k209) k245) k248 (ne2 o127 (Nat.le_trans (z7 k140 k143 k148 k184 k187 k191 k209) p243)))
 have o264 := (own_ch (own_kp (own_kp (own_kp (own_ch (own_kp (own_kp (own_ch (own_kp o132 k140) k143 (ne2 o132 (p138))) k148) k184) k187 (ne2 o132 (Nat.le_trans (z3 k140 k143 k148) p182))) k191) k209) k245) k248 (ne2 o132 (Nat.le_trans (z7 k140 k143 k148 k184 k187 k191 k209) p243)))
 refine cl wN (C_laws_eqChan w14 _ ((y207).1) (mR_38 (Rd.of_own o253) s213 (Rd.of_own o254) s218 (Rd.of_own o255) s223 (Rd.of_own o256) s228 (Rd.of_own o257) s233 (Rd.of_own o258) s238) _ ((y102).1) (mR_38 (Rd.of_own o259) s108 (Rd.of_own o260) s113 (Rd.of_own o261) s118 (Rd.of_own o262) s123 (Rd.of_own o263) s128 (Rd.of_own o264) s133)) ?_
 rintro _ w15 ⟨k265, rfl⟩
 have m266 := m251.extk k265
 refine pu (vb (!(F_laws_eqChan ((y207).1) ((y102).1)))) wN ?_
 refine mw (vb (!(F_laws_eqChan ((y207).1) ((y102).1)))) ?_
 rcases bf (F_laws_eqChan ((y207).1) ((y102).1)) with h267 | h267
 ·refine sk (congrArg not h267) ?_
  refine sk (congrArg not h267) ?_
  refine sk (congrArg not h267) ?_
  refine pk (vb true) wN (congrArg not h267) ?_
  refine n2 ?_
  refine ct (Eq.refl true) ?_
  refine sr ?_
  refine aw (vb false) ?_
  refine n1 ?_
  refine rt (vb false) ?_
  refine ⟨m266.keep0, ?_⟩
  have hF655 : F_laws_FnExactHearRekey x_aC x_aUnder x_aPlain = false := by first | (simp only [F_laws_FnExactHearRekey, h42, h49, e103, e208, h267, cond_true, cond_false]; done) | (unfold F_laws_FnExactHearRekey; try rw [h42]; try rw [h49]; try rw [e103]; try rw [e208]; try rw [h267]; rfl)
  rw [hF655]
  exact rfl
 refine mv (vi ((y207).2)) (wS (congrArg not h267)) ?_
 refine mv (vi ((y102).2)) (wS (congrArg not h267)) ?_
 refine pu (vb (!(decide ((y207).2 = (y102).2)))) (wS (congrArg not h267)) ?_
 refine pf (vb (!(decide ((y207).2 = (y102).2)))) wN (congrArg not h267) ?_
 refine n2 ?_
 rcases bf (decide ((y207).2 = (y102).2)) with h269 | h269
 ·have q652 := of_decide_eq_false h269
  refine ct (congrArg not h269) ?_
  refine sr ?_
  refine aw (vb false) ?_
  refine n1 ?_
  refine rt (vb false) ?_
  refine ⟨m266.keep0, ?_⟩
  have hF653 : F_laws_FnExactHearRekey x_aC x_aUnder x_aPlain = false := by first | (simp only [F_laws_FnExactHearRekey, h42, h49, e103, e208, h267, h269, cond_true, cond_false]; done) | (unfold F_laws_FnExactHearRekey; try rw [h42]; try rw [h49]; try rw [e103]; try rw [e208]; try rw [h267]; try rw [h269]; rfl)
  rw [hF653]
  exact rfl
 have q270 := of_decide_eq_true h269
 refine cf (congrArg not h269) ?_
 refine wc_skip <| wq_then <| wc_seq <| wc_seq ?_
 refine wc_drawT ([(56, [], [], (fun _ v _ => v = (.agg #[(vi ((F_laws_toChan x_aC).Role)), (vs a149 ((F_laws_toChan x_aC).Sn).length c150), (vi (((F_laws_toChan x_aC).Cur).N)), (vs a154 (((F_laws_toChan x_aC).Cur).Key).length c155), (vi (((F_laws_toChan x_aC).Cur).Seq)), (vi ((((F_laws_toChan x_aC).Cur).Win).Top)), (vs a159 ((((F_laws_toChan x_aC).Cur).Win).Bits).length c160), (vi (((F_laws_toChan x_aC).Old).N)), (vs a164 (((F_laws_toChan x_aC).Old).Key).length c165), (vi (((F_laws_toChan x_aC).Old).Seq)), (vi ((((F_laws_toChan x_aC).Old).Win).Top)), (vs a169 ((((F_laws_toChan x_aC).Old).Win).Bits).length c170), (vb ((F_laws_toChan x_aC).HasOld)), (vi ((F_laws_toChan x_aC).Until)), (vs a174 ((F_laws_toChan x_aC).Next).length c175)]))), (57, [], [], (fun _ v _ => v = (.agg #[(vi x_aC.Role), (vs a1 x_aC.Sn.length c2), (vi x_aC.Cur.N), (vs a6 x_aC.Cur.Key.length c7), (vi x_aC.Cur.Seq), (vi x_aC.Cur.Win.Top), (vs a11 x_aC.Cur.Win.Bits.length c12), (vi x_aC.Old.N), (vs a16 x_aC.Old.Key.length c17), (vi x_aC.Old.Seq), (vi x_aC.Old.Win.Top), (vs a21 x_aC.Old.Win.Bits.length c22), (vb x_aC.HasOld), (vi x_aC.Until), (vs a26 x_aC.Next.length c27)]))), (58, [], [1], (fun _ v w => ∃ (a1 : Option Addr) (c1 : Nat) (a2 : Option Addr) (c2 : Nat) (a3 : Option Addr) (c3 : Nat) (a4 : Option Addr) (c4 : Nat) (a5 : Option Addr) (c5 : Nat) (a6 : Option Addr) (c6 : Nat), v = .agg #[.int .i64 ((F_laws_toChan x_aC).Role), .slice a1 ((F_laws_toChan x_aC).Sn).length c1, .int .i64 (((F_laws_toChan x_aC).Cur).N), .slice a2 (((F_laws_toChan x_aC).Cur).Key).length c2, .int .i64 (((F_laws_toChan x_aC).Cur).Seq), .int .i64 ((((F_laws_toChan x_aC).Cur).Win).Top), .slice a3 ((((F_laws_toChan x_aC).Cur).Win).Bits).length c3, .int .i64 (((F_laws_toChan x_aC).Old).N), .slice a4 (((F_laws_toChan x_aC).Old).Key).length c4, .int .i64 (((F_laws_toChan x_aC).Old).Seq), .int .i64 ((((F_laws_toChan x_aC).Old).Win).Top), .slice a5 ((((F_laws_toChan x_aC).Old).Win).Bits).length c5, .bool ((F_laws_toChan x_aC).HasOld), .int .i64 ((F_laws_toChan x_aC).Until), .slice a6 ((F_laws_toChan x_aC).Next).length c6] ∧ w.ownsRow (w15.heap.size) 5 1 (.slice a1 ((F_laws_toChan x_aC).Sn).length c1) ((F_laws_toChan x_aC).Sn).length (((F_laws_toChan x_aC).Sn).map bV) ∧ ((F_laws_toChan x_aC).Sn).length ≤ 1073741824 ∧ w.ownsRow (w15.heap.size) 5 1 (.slice a2 (((F_laws_toChan x_aC).Cur).Key).length c2) (((F_laws_toChan x_aC).Cur).Key).length ((((F_laws_toChan x_aC).Cur).Key).map bV) ∧ (((F_laws_toChan x_aC).Cur).Key).length ≤ 1073741824 ∧ w.ownsRow (w15.heap.size) 3 1 (.slice a3 ((((F_laws_toChan x_aC).Cur).Win).Bits).length c3) ((((F_laws_toChan x_aC).Cur).Win).Bits).length (((((F_laws_toChan x_aC).Cur).Win).Bits).map iV) ∧ ((((F_laws_toChan x_aC).Cur).Win).Bits).length ≤ 1073741824 ∧ w.ownsRow (w15.heap.size) 5 1 (.slice a4 (((F_laws_toChan x_aC).Old).Key).length c4) (((F_laws_toChan x_aC).Old).Key).length ((((F_laws_toChan x_aC).Old).Key).map bV) ∧ (((F_laws_toChan x_aC).Old).Key).length ≤ 1073741824 ∧ w.ownsRow (w15.heap.size) 3 1 (.slice a5 ((((F_laws_toChan x_aC).Old).Win).Bits).length c5) ((((F_laws_toChan x_aC).Old).Win).Bits).length (((((F_laws_toChan x_aC).Old).Win).Bits).map iV) ∧ ((((F_laws_toChan x_aC).Old).Win).Bits).length ≤ 1073741824 ∧ w.ownsRow (w15.heap.size) 5 1 (.slice a6 ((F_laws_toChan x_aC).Next).length c6) ((F_laws_toChan x_aC).Next).length (((F_laws_toChan x_aC).Next).map bV) ∧ ((F_laws_toChan x_aC).Next).length ≤ 1073741824 ∧ Aps [(a1, c1), (a2, c2), (a3, c3), (a4, c4), (a5, c5), (a6, c6)]))] : GV) (fun _ w' => Keep w15 w') [] mixed rfl (by kernel_rfl) (by kernel_rfl) ?_ (fun _ _ h => h) (fun _ _ _ _ h _ k => h.trans k) trivial ?_ ?_ ?_
 ·exact ⟨(fun _ _ _ _ h _ => h), (fun _ _ _ _ _ h => h), ⟨(fun _ _ _ _ h _ => h), (fun _ _ _ _ _ h => h), ⟨(fun e v w w1 h hk => by obtain ⟨a0x, c0x, a1x, c1x, a2x, c2x, a3x, c3x, a4x, c4x, a5x, c5x, he, o0x, l0x, o1x, l1x, o2x, l2x, o3x, l3x, o4x, l4x, o5x, l5x, hap⟩ := h; exact ⟨a0x, c0x, a1x, c1x, a2x, c2x, a3x, c3x, a4x, c4x, a5x, c5x, he, own_kp o0x hk, l0x, own_kp o1x hk, l1x, own_kp o2x hk, l2x, own_kp o3x hk, l3x, own_kp o4x hk, l4x, own_kp o5x hk, l5x, hap⟩), (fun _ _ _ _ _ h => h), trivial⟩⟩⟩
 ·exact trivial
 ·refine ⟨?_, ⟨?_, ⟨?_, trivial⟩⟩⟩
  ·intro _ w16 k347 _
   have m348 := m266.extk k347
   rintro _ _ _
   show WL _ _ _ _ _ _ _
   have b349 := (((((b199.kp k209).kp k245).ch k248 (Nat.ne_of_lt (Nat.lt_of_lt_of_le p183 (Nat.le_trans (z3 k187 k191 k209) p243)))).kp k265).kp k347)
   refine lN (L_38 (F_laws_toChan x_aC) a149 c150 a154 c155 a159 c160 a164 c165 a169 c170 a174 c175) wN isAgg_38 sizeOf_38 b349 ?_
   exact f1
  ·intro _ w16 k350 _
   have m351 := m266.extk k350
   rintro _ _ _
   show WL _ _ _ _ _ _ _
   have b352 := (((((((((b147.kp k148).kp k184).ch k187 (Nat.ne_of_lt (Nat.lt_of_lt_of_le p38 (Nat.le_trans (z7 k46 k54 k87 k104 k140 k143 k148) p182)))).kp k191).kp k209).kp k245).ch k248 (Nat.ne_of_lt (Nat.lt_of_lt_of_le p38 (Nat.le_trans (z11 k46 k54 k87 k104 k140 k143 k148 k184 k187 k191 k209) p243)))).kp k265).kp k350)
   refine lN (L_38 x_aC a1 c2 a6 c7 a11 c12 a16 c17 a21 c22 a26 c27) wN isAgg_50 sizeOf_50 b352 ?_
   exact f1
  ·intro _ w16 k353 _
   have m354 := m266.extk k353
   rintro _ _ rfl _
   show WL _ _ _ _ _ _ _
   refine cl wN (C_laws_toChan w16 _ x_aC (mR_50 (r3.from0 m354) (by omega) (r8.from0 m354) (by omega) (r13.from0 m354) (by omega) (r18.from0 m354) (by omega) (r23.from0 m354) (by omega) (r28.from0 m354) (by omega))) ?_
   rintro _ w17 ⟨k356, ⟨a357, c358, a362, c363, a367, c368, a372, c373, a377, c378, a382, c383, rfl, o359, s360, o364, s365, o369, s370, o374, s375, o379, s380, o384, s385, ap387⟩⟩
   have m388 := m354.extk k356
   exact wl_finT k356 ⟨_, _, _, _, _, _, _, _, _, _, _, _, rfl, (own_lo o359 k353.size), s360, (own_lo o364 k353.size), s365, (own_lo o369 k353.size), s370, (own_lo o374 k353.size), s375, (own_lo o379 k353.size), s380, (own_lo o384 k353.size), s385, ap387⟩
 ·intro _ w16 k389
  have m390 := m266.extk k389
  rintro _ rfl _ rfl _ ⟨a393, c394, a398, c399, a403, c404, a408, c409, a413, c414, a418, c419, rfl, o395, s396, o400, s401, o405, s406, o410, s411, o415, s416, o420, s421, ap423⟩
  show WL _ _ _ _ _ _ _
  have o424 := (own_kp (own_kp (own_ch (own_kp (own_kp o200 k209) k245) k248 (ne2 o151 (Nat.le_trans (z4 k184 k187 k191 k209) p243))) k265) k389)
  have o425 := (own_kp (own_kp (own_ch (own_kp (own_kp o201 k209) k245) k248 (ne2 o156 (Nat.le_trans (z4 k184 k187 k191 k209) p243))) k265) k389)
  have o426 := (own_kp (own_kp (own_ch (own_kp (own_kp o202 k209) k245) k248 (ne2 o161 (Nat.le_trans (z4 k184 k187 k191 k209) p243))) k265) k389)
  have o427 := (own_kp (own_kp (own_ch (own_kp (own_kp o203 k209) k245) k248 (ne2 o166 (Nat.le_trans (z4 k184 k187 k191 k209) p243))) k265) k389)
  have o428 := (own_kp (own_kp (own_ch (own_kp (own_kp o204 k209) k245) k248 (ne2 o171 (Nat.le_trans (z4 k184 k187 k191 k209) p243))) k265) k389)
  have o429 := (own_kp (own_kp (own_ch (own_kp (own_kp o205 k209) k245) k248 (ne2 o176 (Nat.le_trans (z4 k184 k187 k191 k209) p243))) k265) k389)
  obtain ⟨y431, e432⟩ : ∃ y, F_laws_eqChan (F_laws_toChan x_aC) (F_laws_toChan x_aC) = y := ⟨_, rfl⟩
  have hc430 := C_laws_eqChan w16 _ (F_laws_toChan x_aC) (mR_38 (Rd.of_own o424) s152 (Rd.of_own o425) s157 (Rd.of_own o426) s162 (Rd.of_own o427) s167 (Rd.of_own o428) s172 (Rd.of_own o429) s177) _ (F_laws_toChan x_aC) (mR_38 (Rd.of_own o395) s396 (Rd.of_own o400) s401 (Rd.of_own o405) s406 (Rd.of_own o410) s411 (Rd.of_own o415) s416 (Rd.of_own o420) s421)
  rw [e432] at hc430
  refine cl wN hc430 ?_
  rintro _ w17 ⟨k433, rfl⟩
  have m434 := m390.extk k433
  refine pu (vb (!(y431))) wN ?_
  refine n2 ?_
  rcases bf y431 with h435 | h435
  ·refine ct (congrArg not h435) ?_
   refine sr ?_
   refine aw (vb false) ?_
   refine n1 ?_
   refine rt (vb false) ?_
   refine ⟨m434.keep0, ?_⟩
   have hF651 : F_laws_FnExactHearRekey x_aC x_aUnder x_aPlain = false := by first | (simp only [F_laws_FnExactHearRekey, h42, h49, e103, e208, h267, h269, e432, h435, cond_true, cond_false]; done) | (unfold F_laws_FnExactHearRekey; try rw [h42]; try rw [h49]; try rw [e103]; try rw [e208]; try rw [h267]; try rw [h269]; try rw [e432]; try rw [h435]; rfl)
   rw [hF651]
   exact rfl
  refine cf (congrArg not h435) ?_
  refine y2 ?_
  refine mw (vs a192 (cpB x_aPlain).length c193) ?_
  refine mw (vs a31 x_aPlain.length c32) ?_
  refine cl wN (C_laws_toByteS w17 _ x_aPlain (mR_22 (r33.from0 m434) (by omega))) ?_
  rintro _ w18 ⟨k437, ⟨a438, c439, rfl, o440, s441, ap443⟩⟩
  have m444 := m434.extk k437
  have o445 := (own_kp (own_kp (own_kp (own_kp (own_ch (own_kp (own_kp o194 k209) k245) k248 (ne2 o194 (Nat.le_trans k209.size p243))) k265) k389) k433) k437)
  refine cl wN (C_laws_eqByteS w18 _ (cpB x_aPlain) (mR_22 (Rd.of_own o445) s195) _ (cpB x_aPlain) (mR_22 (Rd.of_own o440) s441)) ?_
  rintro _ w19 ⟨k446, rfl⟩
  have m447 := m444.extk k446
  refine pu (vb (!(eqB (cpB x_aPlain) (cpB x_aPlain)))) wN ?_
  refine n2 ?_
  rcases bf (eqB (cpB x_aPlain) (cpB x_aPlain)) with h448 | h448
  ·refine ct (congrArg not h448) ?_
   refine sr ?_
   refine aw (vb false) ?_
   refine n1 ?_
   refine rt (vb false) ?_
   refine ⟨m447.keep0, ?_⟩
   have hF649 : F_laws_FnExactHearRekey x_aC x_aUnder x_aPlain = false := by first | (simp only [F_laws_FnExactHearRekey, h42, h49, e103, e208, h267, h269, e432, h435, h448, cond_true, cond_false]; done) | (unfold F_laws_FnExactHearRekey; try rw [h42]; try rw [h49]; try rw [e103]; try rw [e208]; try rw [h267]; try rw [h269]; try rw [e432]; try rw [h435]; try rw [h448]; rfl)
   rw [hF649]
   exact rfl
  refine cf (congrArg not h448) ?_
  refine y1 ?_
  refine aw (vi 1) ?_
  refine nx ?_
  have b450 := ((((((((b199.kp k209).kp k245).ch k248 (Nat.ne_of_lt (Nat.lt_of_lt_of_le p183 (Nat.le_trans (z3 k187 k191 k209) p243)))).kp k265).kp k389).kp k433).kp k437).kp k446)
  refine lN (L_38 (F_laws_toChan x_aC) a149 c150 a154 c155 a159 c160 a164 c165 a169 c170 a174 c175) wN isAgg_38 sizeOf_38 b450 ?_
  refine mw (vi 1) ?_
  have o451 := (own_kp (own_kp (own_kp o424 k433) k437) k446)
  have o452 := (own_kp (own_kp (own_kp o425 k433) k437) k446)
  have o453 := (own_kp (own_kp (own_kp o426 k433) k437) k446)
  have o454 := (own_kp (own_kp (own_kp o427 k433) k437) k446)
  have o455 := (own_kp (own_kp (own_kp o428 k433) k437) k446)
  have o456 := (own_kp (own_kp (own_kp o429 k433) k437) k446)
  refine cl wN (C_laws_markChan w19 a149 c150 a154 c155 a159 c160 a164 c165 a169 c170 a174 c175 (F_laws_toChan x_aC) 1 (by omega) (by omega) s152 (Rd.of_own o451) (Wp.of o451) s157 (Rd.of_own o452) (Wp.of o452) s162 (Rd.of_own o453) (Wp.of o453) s167 (Rd.of_own o454) (Wp.of o454) s172 (Rd.of_own o455) (Wp.of o455) s177 (Rd.of_own o456) (Wp.of o456) ⟨⟨(ap179.1.1), ⟨(ap179.1.2.1), ⟨(ap179.1.2.2.1), ⟨(ap179.1.2.2.2.1), ⟨(ap179.1.2.2.2.2.1), trivial⟩⟩⟩⟩⟩, ⟨⟨(ap179.2.1.1), ⟨(ap179.2.1.2.1), ⟨(ap179.2.1.2.2.1), ⟨(ap179.2.1.2.2.2.1), trivial⟩⟩⟩⟩, ⟨⟨(ap179.2.2.1.1), ⟨(ap179.2.2.1.2.1), ⟨(ap179.2.2.1.2.2.1), trivial⟩⟩⟩, ⟨⟨(ap179.2.2.2.1.1), ⟨(ap179.2.2.2.1.2.1), trivial⟩⟩, ⟨⟨(ap179.2.2.2.2.1.1), trivial⟩, ⟨trivial, trivial⟩⟩⟩⟩⟩⟩) ?_
  rintro _ w20 ⟨rfl, k457, r458, r459, r460, r461, r462, r463⟩
  have zz45 := z7 k39 k46 k54 k87 k104 k140 k143
  have m464 := m447.ext k457 (fun k hk => ms_ge (ms_ge_cons (fun hn x hx => Nat.le_trans zz45 (own_lt o151 x.block (by rw [hx]; rfl)).1) (ms_ge_cons (fun hn x hx => Nat.le_trans zz45 (own_lt o156 x.block (by rw [hx]; rfl)).1) (ms_ge_cons (fun hn x hx => Nat.le_trans zz45 (own_lt o161 x.block (by rw [hx]; rfl)).1) (ms_ge_cons (fun hn x hx => Nat.le_trans zz45 (own_lt o166 x.block (by rw [hx]; rfl)).1) (ms_ge_cons (fun hn x hx => Nat.le_trans zz45 (own_lt o171 x.block (by rw [hx]; rfl)).1) (ms_ge_cons (fun hn x hx => Nat.le_trans zz45 (own_lt o176 x.block (by rw [hx]; rfl)).1) ms_ge_nil)))))) hk)
  have l465 : Ch (MS (([(a149, ((F_laws_toChan x_aC).Sn).length, c150), (a154, (((F_laws_toChan x_aC).Cur).Key).length, c155), (a159, ((((F_laws_toChan x_aC).Cur).Win).Bits).length, c160), (a164, (((F_laws_toChan x_aC).Old).Key).length, c165), (a169, ((((F_laws_toChan x_aC).Old).Win).Bits).length, c170), (a174, ((F_laws_toChan x_aC).Next).length, c175)] : List (Option Addr × Nat × Nat)).map fun p => (p.1, p.2.1))) w19 w20 := k457
  refine aw (vi ((((((1 + (((F_laws_toChan x_aC).Sn).length : Int)) + ((((F_laws_toChan x_aC).Cur).Key).length : Int)) + (((((F_laws_toChan x_aC).Cur).Win).Bits).length : Int)) + ((((F_laws_toChan x_aC).Old).Key).length : Int)) + (((((F_laws_toChan x_aC).Old).Win).Bits).length : Int)) + (((F_laws_toChan x_aC).Next).length : Int))) ?_
  refine nx ?_
  refine mw (vs a192 (cpB x_aPlain).length c193) ?_
  refine mw (vi ((((((1 + (((F_laws_toChan x_aC).Sn).length : Int)) + ((((F_laws_toChan x_aC).Cur).Key).length : Int)) + (((((F_laws_toChan x_aC).Cur).Win).Bits).length : Int)) + ((((F_laws_toChan x_aC).Old).Key).length : Int)) + (((((F_laws_toChan x_aC).Old).Win).Bits).length : Int)) + (((F_laws_toChan x_aC).Next).length : Int))) ?_
  have r466 := (Rd.mz ((Rd.of_own o445).kp k446) l465 (ap_cons (rd_cap (Rd.of_own o451)) (Ap.lt o151 o194 (z2 k184 k187)) (ap_cons (rd_cap (Rd.of_own o452)) (Ap.lt o156 o194 (z2 k184 k187)) (ap_cons (rd_cap (Rd.of_own o453)) (Ap.lt o161 o194 (z2 k184 k187)) (ap_cons (rd_cap (Rd.of_own o454)) (Ap.lt o166 o194 (z2 k184 k187)) (ap_cons (rd_cap (Rd.of_own o455)) (Ap.lt o171 o194 (z2 k184 k187)) (ap_cons (rd_cap (Rd.of_own o456)) (Ap.lt o176 o194 (z2 k184 k187)) ap_nil)))))))
  have wp467 : Wp w20 5 a192 (cpB x_aPlain).length c193 _ 1 := (Wp.mz (Wp.kp (Wp.of o445) k446) (rd_cap r466) l465 (ap_cons (rd_cap (Rd.of_own o451)) (Ap.lt o151 o194 (z2 k184 k187)) (ap_cons (rd_cap (Rd.of_own o452)) (Ap.lt o156 o194 (z2 k184 k187)) (ap_cons (rd_cap (Rd.of_own o453)) (Ap.lt o161 o194 (z2 k184 k187)) (ap_cons (rd_cap (Rd.of_own o454)) (Ap.lt o166 o194 (z2 k184 k187)) (ap_cons (rd_cap (Rd.of_own o455)) (Ap.lt o171 o194 (z2 k184 k187)) (ap_cons (rd_cap (Rd.of_own o456)) (Ap.lt o176 o194 (z2 k184 k187)) ap_nil)))))))
  refine cl wN (C_laws_markByteS w20 a192 c193 (cpB x_aPlain) ((((((1 + (((F_laws_toChan x_aC).Sn).length : Int)) + ((((F_laws_toChan x_aC).Cur).Key).length : Int)) + (((((F_laws_toChan x_aC).Cur).Win).Bits).length : Int)) + ((((F_laws_toChan x_aC).Old).Key).length : Int)) + (((((F_laws_toChan x_aC).Old).Win).Bits).length : Int)) + (((F_laws_toChan x_aC).Next).length : Int)) (by omega) (by omega) s195 r466 wp467) ?_
  rintro _ w21 ⟨rfl, k468, r469⟩
  have m470 := m464.ext k468 (fun k hk => ms_ge (ms_ge_cons (fun hn x hx => Nat.le_trans (z10 k39 k46 k54 k87 k104 k140 k143 k148 k184 k187) (own_lt o194 x.block (by rw [hx]; rfl)).1) ms_ge_nil) hk)
  have l471 : Ch (MS (([(a192, (cpB x_aPlain).length, c193)] : List (Option Addr × Nat × Nat)).map fun p => (p.1, p.2.1))) w20 w21 := k468
  refine aw (vi (((((((1 + (((F_laws_toChan x_aC).Sn).length : Int)) + ((((F_laws_toChan x_aC).Cur).Key).length : Int)) + (((((F_laws_toChan x_aC).Cur).Win).Bits).length : Int)) + ((((F_laws_toChan x_aC).Old).Key).length : Int)) + (((((F_laws_toChan x_aC).Old).Win).Bits).length : Int)) + (((F_laws_toChan x_aC).Next).length : Int)) + ((cpB x_aPlain).length : Int))) ?_
  refine n4 ?_
  refine mw (vi (((((((1 + (((F_laws_toChan x_aC).Sn).length : Int)) + ((((F_laws_toChan x_aC).Cur).Key).length : Int)) + (((((F_laws_toChan x_aC).Cur).Win).Bits).length : Int)) + ((((F_laws_toChan x_aC).Old).Key).length : Int)) + (((((F_laws_toChan x_aC).Old).Win).Bits).length : Int)) + (((F_laws_toChan x_aC).Next).length : Int)) + ((cpB x_aPlain).length : Int))) ?_
  refine pu (vb (decide ((((((((1 + (((F_laws_toChan x_aC).Sn).length : Int)) + ((((F_laws_toChan x_aC).Cur).Key).length : Int)) + (((((F_laws_toChan x_aC).Cur).Win).Bits).length : Int)) + ((((F_laws_toChan x_aC).Old).Key).length : Int)) + (((((F_laws_toChan x_aC).Old).Win).Bits).length : Int)) + (((F_laws_toChan x_aC).Next).length : Int)) + ((cpB x_aPlain).length : Int)) < 0))) wN ?_
  refine mw (vb (decide ((((((((1 + (((F_laws_toChan x_aC).Sn).length : Int)) + ((((F_laws_toChan x_aC).Cur).Key).length : Int)) + (((((F_laws_toChan x_aC).Cur).Win).Bits).length : Int)) + ((((F_laws_toChan x_aC).Old).Key).length : Int)) + (((((F_laws_toChan x_aC).Old).Win).Bits).length : Int)) + (((F_laws_toChan x_aC).Next).length : Int)) + ((cpB x_aPlain).length : Int)) < 0))) ?_
  rcases bt (decide ((((((((1 + (((F_laws_toChan x_aC).Sn).length : Int)) + ((((F_laws_toChan x_aC).Cur).Key).length : Int)) + (((((F_laws_toChan x_aC).Cur).Win).Bits).length : Int)) + ((((F_laws_toChan x_aC).Old).Key).length : Int)) + (((((F_laws_toChan x_aC).Old).Win).Bits).length : Int)) + (((F_laws_toChan x_aC).Next).length : Int)) + ((cpB x_aPlain).length : Int)) < 0)) with h472 | h472
  ·have q473 := of_decide_eq_true h472
   refine sk h472 ?_
   refine sk h472 ?_
   refine sk h472 ?_
   refine sk h472 ?_
   refine pk (vb true) wN h472 ?_
   refine mw (vb true) ?_
   refine sk T1 ?_
   refine sk T1 ?_
   refine sk T1 ?_
   refine pk (vb true) wN (Eq.refl true) ?_
   refine n2 ?_
   refine ct (Eq.refl true) ?_
   refine sr ?_
   refine aw (vb false) ?_
   refine n1 ?_
   refine rt (vb false) ?_
   refine ⟨m470.keep0, ?_⟩
   have hF474 : F_laws_FnExactHearRekey x_aC x_aUnder x_aPlain = false := by first | (simp only [F_laws_FnExactHearRekey, h42, h49, e103, e208, h267, h269, e432, h435, h448, h472, cond_true, cond_false]; done) | (unfold F_laws_FnExactHearRekey; try rw [h42]; try rw [h49]; try rw [e103]; try rw [e208]; try rw [h267]; try rw [h269]; try rw [e432]; try rw [h435]; try rw [h448]; try rw [h472]; rfl)
   rw [hF474]
   exact rfl
  have q475 := of_decide_eq_false h472
  have b476 := (((((((b249.kp k265).kp k389).kp k433).kp k437).kp k446).ch k457 (ms_lo (ms_lo_cons (fun hn x hx hb => by have := (own_lt o151 x.block (by rw [hx]; rfl)).2; have := Nat.le_trans (z4 k184 k187 k191 k209) p243; omega) (ms_lo_cons (fun hn x hx hb => by have := (own_lt o156 x.block (by rw [hx]; rfl)).2; have := Nat.le_trans (z4 k184 k187 k191 k209) p243; omega) (ms_lo_cons (fun hn x hx hb => by have := (own_lt o161 x.block (by rw [hx]; rfl)).2; have := Nat.le_trans (z4 k184 k187 k191 k209) p243; omega) (ms_lo_cons (fun hn x hx hb => by have := (own_lt o166 x.block (by rw [hx]; rfl)).2; have := Nat.le_trans (z4 k184 k187 k191 k209) p243; omega) (ms_lo_cons (fun hn x hx hb => by have := (own_lt o171 x.block (by rw [hx]; rfl)).2; have := Nat.le_trans (z4 k184 k187 k191 k209) p243; omega) (ms_lo_cons (fun hn x hx hb => by have := (own_lt o176 x.block (by rw [hx]; rfl)).2; have := Nat.le_trans (z4 k184 k187 k191 k209) p243; omega) ms_lo_nil)))))))).ch k468 (ms_lo (ms_lo_cons (fun hn x hx hb => by have := (own_lt o194 x.block (by rw [hx]; rfl)).2; have := Nat.le_trans k209.size p243; omega) ms_lo_nil)))
  refine lN (L_38 ((y207).1) a210 c211 a215 c216 a220 c221 a225 c226 a230 c231 a235 c236) (wS h472) isAgg_38 sizeOf_38 b476 ?_
  have b477 := (((((((b252.kp k265).kp k389).kp k433).kp k437).kp k446).ch k457 (ms_lo (ms_lo_cons (fun hn x hx hb => by have := (own_lt o151 x.block (by rw [hx]; rfl)).1; have := Nat.lt_of_lt_of_le p139 k143.size; omega) (ms_lo_cons (fun hn x hx hb => by have := (own_lt o156 x.block (by rw [hx]; rfl)).1; have := Nat.lt_of_lt_of_le p139 k143.size; omega) (ms_lo_cons (fun hn x hx hb => by have := (own_lt o161 x.block (by rw [hx]; rfl)).1; have := Nat.lt_of_lt_of_le p139 k143.size; omega) (ms_lo_cons (fun hn x hx hb => by have := (own_lt o166 x.block (by rw [hx]; rfl)).1; have := Nat.lt_of_lt_of_le p139 k143.size; omega) (ms_lo_cons (fun hn x hx hb => by have := (own_lt o171 x.block (by rw [hx]; rfl)).1; have := Nat.lt_of_lt_of_le p139 k143.size; omega) (ms_lo_cons (fun hn x hx hb => by have := (own_lt o176 x.block (by rw [hx]; rfl)).1; have := Nat.lt_of_lt_of_le p139 k143.size; omega) ms_lo_nil)))))))).ch k468 (ms_lo (ms_lo_cons (fun hn x hx hb => by have := (own_lt o194 x.block (by rw [hx]; rfl)).1; have := Nat.lt_of_lt_of_le p139 (z4 k143 k148 k184 k187); omega) ms_lo_nil)))
  refine lN (L_38 ((y102).1) a105 c106 a110 c111 a115 c116 a120 c121 a125 c126 a130 c131) (wS h472) isAgg_38 sizeOf_38 b477 ?_
  have r478 := (Rd.mz (Rd.mz ((((((Rd.of_own o253).kp k265).kp k389).kp k433).kp k437).kp k446) l465 (ap_cons (rd_cap (Rd.of_own o451)) (Ap.lt o151 o212 (z3 k184 k187 k191)) (ap_cons (rd_cap (Rd.of_own o452)) (Ap.lt o156 o212 (z3 k184 k187 k191)) (ap_cons (rd_cap (Rd.of_own o453)) (Ap.lt o161 o212 (z3 k184 k187 k191)) (ap_cons (rd_cap (Rd.of_own o454)) (Ap.lt o166 o212 (z3 k184 k187 k191)) (ap_cons (rd_cap (Rd.of_own o455)) (Ap.lt o171 o212 (z3 k184 k187 k191)) (ap_cons (rd_cap (Rd.of_own o456)) (Ap.lt o176 o212 (z3 k184 k187 k191)) ap_nil))))))) l471 (ap_cons (rd_cap r466) (Ap.lt o194 o212 (Nat.le_refl w11.heap.size)) ap_nil))
  have r479 := (Rd.mz (Rd.mz ((((((Rd.of_own o254).kp k265).kp k389).kp k433).kp k437).kp k446) l465 (ap_cons (rd_cap (Rd.of_own o451)) (Ap.lt o151 o217 (z3 k184 k187 k191)) (ap_cons (rd_cap (Rd.of_own o452)) (Ap.lt o156 o217 (z3 k184 k187 k191)) (ap_cons (rd_cap (Rd.of_own o453)) (Ap.lt o161 o217 (z3 k184 k187 k191)) (ap_cons (rd_cap (Rd.of_own o454)) (Ap.lt o166 o217 (z3 k184 k187 k191)) (ap_cons (rd_cap (Rd.of_own o455)) (Ap.lt o171 o217 (z3 k184 k187 k191)) (ap_cons (rd_cap (Rd.of_own o456)) (Ap.lt o176 o217 (z3 k184 k187 k191)) ap_nil))))))) l471 (ap_cons (rd_cap r466) (Ap.lt o194 o217 (Nat.le_refl w11.heap.size)) ap_nil))
  have r480 := (Rd.mz (Rd.mz ((((((Rd.of_own o255).kp k265).kp k389).kp k433).kp k437).kp k446) l465 (ap_cons (rd_cap (Rd.of_own o451)) (Ap.lt o151 o222 (z3 k184 k187 k191)) (ap_cons (rd_cap (Rd.of_own o452)) (Ap.lt o156 o222 (z3 k184 k187 k191)) (ap_cons (rd_cap (Rd.of_own o453)) (Ap.lt o161 o222 (z3 k184 k187 k191)) (ap_cons (rd_cap (Rd.of_own o454)) (Ap.lt o166 o222 (z3 k184 k187 k191)) (ap_cons (rd_cap (Rd.of_own o455)) (Ap.lt o171 o222 (z3 k184 k187 k191)) (ap_cons (rd_cap (Rd.of_own o456)) (Ap.lt o176 o222 (z3 k184 k187 k191)) ap_nil))))))) l471 (ap_cons (rd_cap r466) (Ap.lt o194 o222 (Nat.le_refl w11.heap.size)) ap_nil))
  have r481 := (Rd.mz (Rd.mz ((((((Rd.of_own o256).kp k265).kp k389).kp k433).kp k437).kp k446) l465 (ap_cons (rd_cap (Rd.of_own o451)) (Ap.lt o151 o227 (z3 k184 k187 k191)) (ap_cons (rd_cap (Rd.of_own o452)) (Ap.lt o156 o227 (z3 k184 k187 k191)) (ap_cons (rd_cap (Rd.of_own o453)) (Ap.lt o161 o227 (z3 k184 k187 k191)) (ap_cons (rd_cap (Rd.of_own o454)) (Ap.lt o166 o227 (z3 k184 k187 k191)) (ap_cons (rd_cap (Rd.of_own o455)) (Ap.lt o171 o227 (z3 k184 k187 k191)) (ap_cons (rd_cap (Rd.of_own o456)) (Ap.lt o176 o227 (z3 k184 k187 k191)) ap_nil))))))) l471 (ap_cons (rd_cap r466) (Ap.lt o194 o227 (Nat.le_refl w11.heap.size)) ap_nil))
  have r482 := (Rd.mz (Rd.mz ((((((Rd.of_own o257).kp k265).kp k389).kp k433).kp k437).kp k446) l465 (ap_cons (rd_cap (Rd.of_own o451)) (Ap.lt o151 o232 (z3 k184 k187 k191)) (ap_cons (rd_cap (Rd.of_own o452)) (Ap.lt o156 o232 (z3 k184 k187 k191)) (ap_cons (rd_cap (Rd.of_own o453)) (Ap.lt o161 o232 (z3 k184 k187 k191)) (ap_cons (rd_cap (Rd.of_own o454)) (Ap.lt o166 o232 (z3 k184 k187 k191)) (ap_cons (rd_cap (Rd.of_own o455)) (Ap.lt o171 o232 (z3 k184 k187 k191)) (ap_cons (rd_cap (Rd.of_own o456)) (Ap.lt o176 o232 (z3 k184 k187 k191)) ap_nil))))))) l471 (ap_cons (rd_cap r466) (Ap.lt o194 o232 (Nat.le_refl w11.heap.size)) ap_nil))
  have r483 := (Rd.mz (Rd.mz ((((((Rd.of_own o258).kp k265).kp k389).kp k433).kp k437).kp k446) l465 (ap_cons (rd_cap (Rd.of_own o451)) (Ap.lt o151 o237 (z3 k184 k187 k191)) (ap_cons (rd_cap (Rd.of_own o452)) (Ap.lt o156 o237 (z3 k184 k187 k191)) (ap_cons (rd_cap (Rd.of_own o453)) (Ap.lt o161 o237 (z3 k184 k187 k191)) (ap_cons (rd_cap (Rd.of_own o454)) (Ap.lt o166 o237 (z3 k184 k187 k191)) (ap_cons (rd_cap (Rd.of_own o455)) (Ap.lt o171 o237 (z3 k184 k187 k191)) (ap_cons (rd_cap (Rd.of_own o456)) (Ap.lt o176 o237 (z3 k184 k187 k191)) ap_nil))))))) l471 (ap_cons (rd_cap r466) (Ap.lt o194 o237 (Nat.le_refl w11.heap.size)) ap_nil))
  have r484 := (Rd.mz (Rd.mz ((((((Rd.of_own o259).kp k265).kp k389).kp k433).kp k437).kp k446) l465 (ap_cons (rd_cap (Rd.of_own o451)) (Ap.lt o107 o151 (z2 k140 k143)).symm (ap_cons (rd_cap (Rd.of_own o452)) (Ap.lt o107 o156 (z2 k140 k143)).symm (ap_cons (rd_cap (Rd.of_own o453)) (Ap.lt o107 o161 (z2 k140 k143)).symm (ap_cons (rd_cap (Rd.of_own o454)) (Ap.lt o107 o166 (z2 k140 k143)).symm (ap_cons (rd_cap (Rd.of_own o455)) (Ap.lt o107 o171 (z2 k140 k143)).symm (ap_cons (rd_cap (Rd.of_own o456)) (Ap.lt o107 o176 (z2 k140 k143)).symm ap_nil))))))) l471 (ap_cons (rd_cap r466) (Ap.lt o107 o194 (z5 k140 k143 k148 k184 k187)).symm ap_nil))
  have r485 := (Rd.mz (Rd.mz ((((((Rd.of_own o260).kp k265).kp k389).kp k433).kp k437).kp k446) l465 (ap_cons (rd_cap (Rd.of_own o451)) (Ap.lt o112 o151 (z2 k140 k143)).symm (ap_cons (rd_cap (Rd.of_own o452)) (Ap.lt o112 o156 (z2 k140 k143)).symm (ap_cons (rd_cap (Rd.of_own o453)) (Ap.lt o112 o161 (z2 k140 k143)).symm (ap_cons (rd_cap (Rd.of_own o454)) (Ap.lt o112 o166 (z2 k140 k143)).symm (ap_cons (rd_cap (Rd.of_own o455)) (Ap.lt o112 o171 (z2 k140 k143)).symm (ap_cons (rd_cap (Rd.of_own o456)) (Ap.lt o112 o176 (z2 k140 k143)).symm ap_nil))))))) l471 (ap_cons (rd_cap r466) (Ap.lt o112 o194 (z5 k140 k143 k148 k184 k187)).symm ap_nil))
  have r486 := (Rd.mz (Rd.mz ((((((Rd.of_own o261).kp k265).kp k389).kp k433).kp k437).kp k446) l465 (ap_cons (rd_cap (Rd.of_own o451)) (Ap.lt o117 o151 (z2 k140 k143)).symm (ap_cons (rd_cap (Rd.of_own o452)) (Ap.lt o117 o156 (z2 k140 k143)).symm (ap_cons (rd_cap (Rd.of_own o453)) (Ap.lt o117 o161 (z2 k140 k143)).symm (ap_cons (rd_cap (Rd.of_own o454)) (Ap.lt o117 o166 (z2 k140 k143)).symm (ap_cons (rd_cap (Rd.of_own o455)) (Ap.lt o117 o171 (z2 k140 k143)).symm (ap_cons (rd_cap (Rd.of_own o456)) (Ap.lt o117 o176 (z2 k140 k143)).symm ap_nil))))))) l471 (ap_cons (rd_cap r466) (Ap.lt o117 o194 (z5 k140 k143 k148 k184 k187)).symm ap_nil))
  have r487 := (Rd.mz (Rd.mz ((((((Rd.of_own o262).kp k265).kp k389).kp k433).kp k437).kp k446) l465 (ap_cons (rd_cap (Rd.of_own o451)) (Ap.lt o122 o151 (z2 k140 k143)).symm (ap_cons (rd_cap (Rd.of_own o452)) (Ap.lt o122 o156 (z2 k140 k143)).symm (ap_cons (rd_cap (Rd.of_own o453)) (Ap.lt o122 o161 (z2 k140 k143)).symm (ap_cons (rd_cap (Rd.of_own o454)) (Ap.lt o122 o166 (z2 k140 k143)).symm (ap_cons (rd_cap (Rd.of_own o455)) (Ap.lt o122 o171 (z2 k140 k143)).symm (ap_cons (rd_cap (Rd.of_own o456)) (Ap.lt o122 o176 (z2 k140 k143)).symm ap_nil))))))) l471 (ap_cons (rd_cap r466) (Ap.lt o122 o194 (z5 k140 k143 k148 k184 k187)).symm ap_nil))
  have r488 := (Rd.mz (Rd.mz ((((((Rd.of_own o263).kp k265).kp k389).kp k433).kp k437).kp k446) l465 (ap_cons (rd_cap (Rd.of_own o451)) (Ap.lt o127 o151 (z2 k140 k143)).symm (ap_cons (rd_cap (Rd.of_own o452)) (Ap.lt o127 o156 (z2 k140 k143)).symm (ap_cons (rd_cap (Rd.of_own o453)) (Ap.lt o127 o161 (z2 k140 k143)).symm (ap_cons (rd_cap (Rd.of_own o454)) (Ap.lt o127 o166 (z2 k140 k143)).symm (ap_cons (rd_cap (Rd.of_own o455)) (Ap.lt o127 o171 (z2 k140 k143)).symm (ap_cons (rd_cap (Rd.of_own o456)) (Ap.lt o127 o176 (z2 k140 k143)).symm ap_nil))))))) l471 (ap_cons (rd_cap r466) (Ap.lt o127 o194 (z5 k140 k143 k148 k184 k187)).symm ap_nil))
  have r489 := (Rd.mz (Rd.mz ((((((Rd.of_own o264).kp k265).kp k389).kp k433).kp k437).kp k446) l465 (ap_cons (rd_cap (Rd.of_own o451)) (Ap.lt o132 o151 (z2 k140 k143)).symm (ap_cons (rd_cap (Rd.of_own o452)) (Ap.lt o132 o156 (z2 k140 k143)).symm (ap_cons (rd_cap (Rd.of_own o453)) (Ap.lt o132 o161 (z2 k140 k143)).symm (ap_cons (rd_cap (Rd.of_own o454)) (Ap.lt o132 o166 (z2 k140 k143)).symm (ap_cons (rd_cap (Rd.of_own o455)) (Ap.lt o132 o171 (z2 k140 k143)).symm (ap_cons (rd_cap (Rd.of_own o456)) (Ap.lt o132 o176 (z2 k140 k143)).symm ap_nil))))))) l471 (ap_cons (rd_cap r466) (Ap.lt o132 o194 (z5 k140 k143 k148 k184 k187)).symm ap_nil))
  refine cl (wS h472) (C_laws_eqChan w21 _ ((y207).1) (mR_38 r478 s213 r479 s218 r480 s223 r481 s228 r482 s233 r483 s238) _ ((y102).1) (mR_38 r484 s108 r485 s113 r486 s118 r487 s123 r488 s128 r489 s133)) ?_
  rintro _ w22 ⟨k490, rfl⟩
  have m491 := m470.extk k490
  refine pu (vb (!(F_laws_eqChan ((y207).1) ((y102).1)))) (wS h472) ?_
  refine pf (vb (!(F_laws_eqChan ((y207).1) ((y102).1)))) wN h472 ?_
  refine mw (vb (!(F_laws_eqChan ((y207).1) ((y102).1)))) ?_
  refine mv (vi ((y207).2)) (wS (congrArg not h267)) ?_
  refine mv (vi ((y102).2)) (wS (congrArg not h267)) ?_
  refine pu (vb (!(decide ((y207).2 = (y102).2)))) (wS (congrArg not h267)) ?_
  refine pf (vb (!(decide ((y207).2 = (y102).2)))) wN (congrArg not h267) ?_
  refine n2 ?_
  refine cf (congrArg not h269) ?_
  refine y1 ?_
  refine aw (vi 1) ?_
  refine nx ?_
  have b492 := (b476.kp k490)
  refine lN (L_38 ((y207).1) a210 c211 a215 c216 a220 c221 a225 c226 a230 c231 a235 c236) wN isAgg_38 sizeOf_38 b492 ?_
  refine mw (vi 1) ?_
  have r493 := (r478.kp k490)
  have r494 := (r479.kp k490)
  have r495 := (r480.kp k490)
  have r496 := (r481.kp k490)
  have r497 := (r482.kp k490)
  have r498 := (r483.kp k490)
  have wp499 : Wp w22 5 a210 (((y207).1).Sn).length c211 _ 1 := (Wp.kp (Wp.mz (Wp.mz (Wp.kp (Wp.kp (Wp.kp (Wp.kp (Wp.kp (Wp.of o253) k265) k389) k433) k437) k446) (rd_cap r493) l465 (ap_cons (rd_cap (Rd.of_own o451)) (Ap.lt o151 o212 (z3 k184 k187 k191)) (ap_cons (rd_cap (Rd.of_own o452)) (Ap.lt o156 o212 (z3 k184 k187 k191)) (ap_cons (rd_cap (Rd.of_own o453)) (Ap.lt o161 o212 (z3 k184 k187 k191)) (ap_cons (rd_cap (Rd.of_own o454)) (Ap.lt o166 o212 (z3 k184 k187 k191)) (ap_cons (rd_cap (Rd.of_own o455)) (Ap.lt o171 o212 (z3 k184 k187 k191)) (ap_cons (rd_cap (Rd.of_own o456)) (Ap.lt o176 o212 (z3 k184 k187 k191)) ap_nil))))))) (rd_cap r493) l471 (ap_cons (rd_cap r466) (Ap.lt o194 o212 (Nat.le_refl w11.heap.size)) ap_nil)) k490)
  have wp500 : Wp w22 5 a215 ((((y207).1).Cur).Key).length c216 _ 1 := (Wp.kp (Wp.mz (Wp.mz (Wp.kp (Wp.kp (Wp.kp (Wp.kp (Wp.kp (Wp.of o254) k265) k389) k433) k437) k446) (rd_cap r494) l465 (ap_cons (rd_cap (Rd.of_own o451)) (Ap.lt o151 o217 (z3 k184 k187 k191)) (ap_cons (rd_cap (Rd.of_own o452)) (Ap.lt o156 o217 (z3 k184 k187 k191)) (ap_cons (rd_cap (Rd.of_own o453)) (Ap.lt o161 o217 (z3 k184 k187 k191)) (ap_cons (rd_cap (Rd.of_own o454)) (Ap.lt o166 o217 (z3 k184 k187 k191)) (ap_cons (rd_cap (Rd.of_own o455)) (Ap.lt o171 o217 (z3 k184 k187 k191)) (ap_cons (rd_cap (Rd.of_own o456)) (Ap.lt o176 o217 (z3 k184 k187 k191)) ap_nil))))))) (rd_cap r494) l471 (ap_cons (rd_cap r466) (Ap.lt o194 o217 (Nat.le_refl w11.heap.size)) ap_nil)) k490)
  have wp501 : Wp w22 3 a220 (((((y207).1).Cur).Win).Bits).length c221 _ 1 := (Wp.kp (Wp.mz (Wp.mz (Wp.kp (Wp.kp (Wp.kp (Wp.kp (Wp.kp (Wp.of o255) k265) k389) k433) k437) k446) (rd_cap r495) l465 (ap_cons (rd_cap (Rd.of_own o451)) (Ap.lt o151 o222 (z3 k184 k187 k191)) (ap_cons (rd_cap (Rd.of_own o452)) (Ap.lt o156 o222 (z3 k184 k187 k191)) (ap_cons (rd_cap (Rd.of_own o453)) (Ap.lt o161 o222 (z3 k184 k187 k191)) (ap_cons (rd_cap (Rd.of_own o454)) (Ap.lt o166 o222 (z3 k184 k187 k191)) (ap_cons (rd_cap (Rd.of_own o455)) (Ap.lt o171 o222 (z3 k184 k187 k191)) (ap_cons (rd_cap (Rd.of_own o456)) (Ap.lt o176 o222 (z3 k184 k187 k191)) ap_nil))))))) (rd_cap r495) l471 (ap_cons (rd_cap r466) (Ap.lt o194 o222 (Nat.le_refl w11.heap.size)) ap_nil)) k490)
  have wp502 : Wp w22 5 a225 ((((y207).1).Old).Key).length c226 _ 1 := (Wp.kp (Wp.mz (Wp.mz (Wp.kp (Wp.kp (Wp.kp (Wp.kp (Wp.kp (Wp.of o256) k265) k389) k433) k437) k446) (rd_cap r496) l465 (ap_cons (rd_cap (Rd.of_own o451)) (Ap.lt o151 o227 (z3 k184 k187 k191)) (ap_cons (rd_cap (Rd.of_own o452)) (Ap.lt o156 o227 (z3 k184 k187 k191)) (ap_cons (rd_cap (Rd.of_own o453)) (Ap.lt o161 o227 (z3 k184 k187 k191)) (ap_cons (rd_cap (Rd.of_own o454)) (Ap.lt o166 o227 (z3 k184 k187 k191)) (ap_cons (rd_cap (Rd.of_own o455)) (Ap.lt o171 o227 (z3 k184 k187 k191)) (ap_cons (rd_cap (Rd.of_own o456)) (Ap.lt o176 o227 (z3 k184 k187 k191)) ap_nil))))))) (rd_cap r496) l471 (ap_cons (rd_cap r466) (Ap.lt o194 o227 (Nat.le_refl w11.heap.size)) ap_nil)) k490)
  have wp503 : Wp w22 3 a230 (((((y207).1).Old).Win).Bits).length c231 _ 1 := (Wp.kp (Wp.mz (Wp.mz (Wp.kp (Wp.kp (Wp.kp (Wp.kp (Wp.kp (Wp.of o257) k265) k389) k433) k437) k446) (rd_cap r497) l465 (ap_cons (rd_cap (Rd.of_own o451)) (Ap.lt o151 o232 (z3 k184 k187 k191)) (ap_cons (rd_cap (Rd.of_own o452)) (Ap.lt o156 o232 (z3 k184 k187 k191)) (ap_cons (rd_cap (Rd.of_own o453)) (Ap.lt o161 o232 (z3 k184 k187 k191)) (ap_cons (rd_cap (Rd.of_own o454)) (Ap.lt o166 o232 (z3 k184 k187 k191)) (ap_cons (rd_cap (Rd.of_own o455)) (Ap.lt o171 o232 (z3 k184 k187 k191)) (ap_cons (rd_cap (Rd.of_own o456)) (Ap.lt o176 o232 (z3 k184 k187 k191)) ap_nil))))))) (rd_cap r497) l471 (ap_cons (rd_cap r466) (Ap.lt o194 o232 (Nat.le_refl w11.heap.size)) ap_nil)) k490)
  have wp504 : Wp w22 5 a235 (((y207).1).Next).length c236 _ 1 := (Wp.kp (Wp.mz (Wp.mz (Wp.kp (Wp.kp (Wp.kp (Wp.kp (Wp.kp (Wp.of o258) k265) k389) k433) k437) k446) (rd_cap r498) l465 (ap_cons (rd_cap (Rd.of_own o451)) (Ap.lt o151 o237 (z3 k184 k187 k191)) (ap_cons (rd_cap (Rd.of_own o452)) (Ap.lt o156 o237 (z3 k184 k187 k191)) (ap_cons (rd_cap (Rd.of_own o453)) (Ap.lt o161 o237 (z3 k184 k187 k191)) (ap_cons (rd_cap (Rd.of_own o454)) (Ap.lt o166 o237 (z3 k184 k187 k191)) (ap_cons (rd_cap (Rd.of_own o455)) (Ap.lt o171 o237 (z3 k184 k187 k191)) (ap_cons (rd_cap (Rd.of_own o456)) (Ap.lt o176 o237 (z3 k184 k187 k191)) ap_nil))))))) (rd_cap r498) l471 (ap_cons (rd_cap r466) (Ap.lt o194 o237 (Nat.le_refl w11.heap.size)) ap_nil)) k490)
  refine cl wN (C_laws_markChan w22 a210 c211 a215 c216 a220 c221 a225 c226 a230 c231 a235 c236 ((y207).1) 1 (by omega) (by omega) s213 r493 wp499 s218 r494 wp500 s223 r495 wp501 s228 r496 wp502 s233 r497 wp503 s238 r498 wp504 ⟨⟨(ap240.1.1), ⟨(ap240.1.2.1), ⟨(ap240.1.2.2.1), ⟨(ap240.1.2.2.2.1), ⟨(ap240.1.2.2.2.2.1), trivial⟩⟩⟩⟩⟩, ⟨⟨(ap240.2.1.1), ⟨(ap240.2.1.2.1), ⟨(ap240.2.1.2.2.1), ⟨(ap240.2.1.2.2.2.1), trivial⟩⟩⟩⟩, ⟨⟨(ap240.2.2.1.1), ⟨(ap240.2.2.1.2.1), ⟨(ap240.2.2.1.2.2.1), trivial⟩⟩⟩, ⟨⟨(ap240.2.2.2.1.1), ⟨(ap240.2.2.2.1.2.1), trivial⟩⟩, ⟨⟨(ap240.2.2.2.2.1.1), trivial⟩, ⟨trivial, trivial⟩⟩⟩⟩⟩⟩) ?_
  rintro _ w23 ⟨rfl, k505, r506, r507, r508, r509, r510, r511⟩
  have zz46 := z11 k39 k46 k54 k87 k104 k140 k143 k148 k184 k187 k191
  have m512 := m491.ext k505 (fun k hk => ms_ge (ms_ge_cons (fun hn x hx => Nat.le_trans zz46 (own_lt o212 x.block (by rw [hx]; rfl)).1) (ms_ge_cons (fun hn x hx => Nat.le_trans zz46 (own_lt o217 x.block (by rw [hx]; rfl)).1) (ms_ge_cons (fun hn x hx => Nat.le_trans zz46 (own_lt o222 x.block (by rw [hx]; rfl)).1) (ms_ge_cons (fun hn x hx => Nat.le_trans zz46 (own_lt o227 x.block (by rw [hx]; rfl)).1) (ms_ge_cons (fun hn x hx => Nat.le_trans zz46 (own_lt o232 x.block (by rw [hx]; rfl)).1) (ms_ge_cons (fun hn x hx => Nat.le_trans zz46 (own_lt o237 x.block (by rw [hx]; rfl)).1) ms_ge_nil)))))) hk)
  have l513 : Ch (MS (([(a210, (((y207).1).Sn).length, c211), (a215, ((((y207).1).Cur).Key).length, c216), (a220, (((((y207).1).Cur).Win).Bits).length, c221), (a225, ((((y207).1).Old).Key).length, c226), (a230, (((((y207).1).Old).Win).Bits).length, c231), (a235, (((y207).1).Next).length, c236)] : List (Option Addr × Nat × Nat)).map fun p => (p.1, p.2.1))) w22 w23 := k505
  refine aw (vi ((((((1 + ((((y207).1).Sn).length : Int)) + (((((y207).1).Cur).Key).length : Int)) + ((((((y207).1).Cur).Win).Bits).length : Int)) + (((((y207).1).Old).Key).length : Int)) + ((((((y207).1).Old).Win).Bits).length : Int)) + ((((y207).1).Next).length : Int))) ?_
  refine nx ?_
  refine aw (vi 1) ?_
  refine nx ?_
  have zz47 := Nat.le_refl w12.heap.size
  have b514 := (b492.ch k505 (ms_lo (ms_lo_cons (fun hn x hx hb => by have := (own_lt o212 x.block (by rw [hx]; rfl)).2; have := Nat.le_trans zz47 p243; omega) (ms_lo_cons (fun hn x hx hb => by have := (own_lt o217 x.block (by rw [hx]; rfl)).2; have := Nat.le_trans zz47 p243; omega) (ms_lo_cons (fun hn x hx hb => by have := (own_lt o222 x.block (by rw [hx]; rfl)).2; have := Nat.le_trans zz47 p243; omega) (ms_lo_cons (fun hn x hx hb => by have := (own_lt o227 x.block (by rw [hx]; rfl)).2; have := Nat.le_trans zz47 p243; omega) (ms_lo_cons (fun hn x hx hb => by have := (own_lt o232 x.block (by rw [hx]; rfl)).2; have := Nat.le_trans zz47 p243; omega) (ms_lo_cons (fun hn x hx hb => by have := (own_lt o237 x.block (by rw [hx]; rfl)).2; have := Nat.le_trans zz47 p243; omega) ms_lo_nil))))))))
  refine lN [(vi (((y207).1).Role)), (vs a210 (((y207).1).Sn).length c211), (vi ((((y207).1).Cur).N)), (vs a215 ((((y207).1).Cur).Key).length c216), (vi ((((y207).1).Cur).Seq)), (vi (((((y207).1).Cur).Win).Top)), (vs a220 (((((y207).1).Cur).Win).Bits).length c221), (vi ((((y207).1).Old).N)), (vs a225 ((((y207).1).Old).Key).length c226), (vi ((((y207).1).Old).Seq)), (vi (((((y207).1).Old).Win).Top)), (vs a230 (((((y207).1).Old).Win).Bits).length c231), (vb (((y207).1).HasOld)), (vi (((y207).1).Until)), (vs a235 (((y207).1).Next).length c236)] wN isAgg_38 sizeOf_38 b514 ?_
  refine mw (vi 1) ?_
  obtain ⟨y516, e517⟩ : ∃ y, F_laws_heldChan { Role := ((y207).1).Role, Sn := (marksB 1 (((y207).1).Sn).length), Cur := { N := (((y207).1).Cur).N, Key := (marksB (1 + ((((y207).1).Sn).length : Int)) ((((y207).1).Cur).Key).length), Seq := (((y207).1).Cur).Seq, Win := { Top := ((((y207).1).Cur).Win).Top, Bits := (marksI ((1 + ((((y207).1).Sn).length : Int)) + (((((y207).1).Cur).Key).length : Int)) (((((y207).1).Cur).Win).Bits).length) : PWin } : PEp }, Old := { N := (((y207).1).Old).N, Key := (marksB (((1 + ((((y207).1).Sn).length : Int)) + (((((y207).1).Cur).Key).length : Int)) + ((((((y207).1).Cur).Win).Bits).length : Int)) ((((y207).1).Old).Key).length), Seq := (((y207).1).Old).Seq, Win := { Top := ((((y207).1).Old).Win).Top, Bits := (marksI ((((1 + ((((y207).1).Sn).length : Int)) + (((((y207).1).Cur).Key).length : Int)) + ((((((y207).1).Cur).Win).Bits).length : Int)) + (((((y207).1).Old).Key).length : Int)) (((((y207).1).Old).Win).Bits).length) : PWin } : PEp }, HasOld := ((y207).1).HasOld, Until := ((y207).1).Until, Next := (marksB (((((1 + ((((y207).1).Sn).length : Int)) + (((((y207).1).Cur).Key).length : Int)) + ((((((y207).1).Cur).Win).Bits).length : Int)) + (((((y207).1).Old).Key).length : Int)) + ((((((y207).1).Old).Win).Bits).length : Int)) (((y207).1).Next).length) : PChan } 1 = y := ⟨_, rfl⟩
  have hc515 := C_laws_heldChan w23 _ _ (show R_38 w23 (va [(vi (((y207).1).Role)), (vs a210 (((y207).1).Sn).length c211), (vi ((((y207).1).Cur).N)), (vs a215 ((((y207).1).Cur).Key).length c216), (vi ((((y207).1).Cur).Seq)), (vi (((((y207).1).Cur).Win).Top)), (vs a220 (((((y207).1).Cur).Win).Bits).length c221), (vi ((((y207).1).Old).N)), (vs a225 ((((y207).1).Old).Key).length c226), (vi ((((y207).1).Old).Seq)), (vi (((((y207).1).Old).Win).Top)), (vs a230 (((((y207).1).Old).Win).Bits).length c231), (vb (((y207).1).HasOld)), (vi (((y207).1).Until)), (vs a235 (((y207).1).Next).length c236)]) { Role := ((y207).1).Role, Sn := (marksB 1 (((y207).1).Sn).length), Cur := { N := (((y207).1).Cur).N, Key := (marksB (1 + ((((y207).1).Sn).length : Int)) ((((y207).1).Cur).Key).length), Seq := (((y207).1).Cur).Seq, Win := { Top := ((((y207).1).Cur).Win).Top, Bits := (marksI ((1 + ((((y207).1).Sn).length : Int)) + (((((y207).1).Cur).Key).length : Int)) (((((y207).1).Cur).Win).Bits).length) : PWin } : PEp }, Old := { N := (((y207).1).Old).N, Key := (marksB (((1 + ((((y207).1).Sn).length : Int)) + (((((y207).1).Cur).Key).length : Int)) + ((((((y207).1).Cur).Win).Bits).length : Int)) ((((y207).1).Old).Key).length), Seq := (((y207).1).Old).Seq, Win := { Top := ((((y207).1).Old).Win).Top, Bits := (marksI ((((1 + ((((y207).1).Sn).length : Int)) + (((((y207).1).Cur).Key).length : Int)) + ((((((y207).1).Cur).Win).Bits).length : Int)) + (((((y207).1).Old).Key).length : Int)) (((((y207).1).Old).Win).Bits).length) : PWin } : PEp }, HasOld := ((y207).1).HasOld, Until := ((y207).1).Until, Next := (marksB (((((1 + ((((y207).1).Sn).length : Int)) + (((((y207).1).Cur).Key).length : Int)) + ((((((y207).1).Cur).Win).Bits).length : Int)) + (((((y207).1).Old).Key).length : Int)) + ((((((y207).1).Old).Win).Bits).length : Int)) (((y207).1).Next).length) : PChan } from ⟨a210, c211, a215, c216, a220, c221, a225, c226, a230, c231, a235, c236, by simp only [marksB_len, marksI_len, marksL_len, marksE_len], by simpa only [marksB_len, marksI_len, marksL_len, marksE_len] using r506, by simp only [marksB_len, marksI_len, marksL_len, marksE_len]; first | exact s213 | omega, by simpa only [marksB_len, marksI_len, marksL_len, marksE_len] using r507, by simp only [marksB_len, marksI_len, marksL_len, marksE_len]; first | exact s218 | omega, by simpa only [marksB_len, marksI_len, marksL_len, marksE_len] using r508, by simp only [marksB_len, marksI_len, marksL_len, marksE_len]; first | exact s223 | omega, by simpa only [marksB_len, marksI_len, marksL_len, marksE_len] using r509, by simp only [marksB_len, marksI_len, marksL_len, marksE_len]; first | exact s228 | omega, by simpa only [marksB_len, marksI_len, marksL_len, marksE_len] using r510, by simp only [marksB_len, marksI_len, marksL_len, marksE_len]; first | exact s233 | omega, by simpa only [marksB_len, marksI_len, marksL_len, marksE_len] using r511, by simp only [marksB_len, marksI_len, marksL_len, marksE_len]; first | exact s238 | omega⟩) 1 (by omega) (by omega)
  rw [e517] at hc515
  refine cl wN hc515 ?_
  rintro _ w24 ⟨k518, rfl⟩
  have m519 := m512.extk k518
  have q520 := laws_heldChan_le { Role := ((y207).1).Role, Sn := (marksB 1 (((y207).1).Sn).length), Cur := { N := (((y207).1).Cur).N, Key := (marksB (1 + ((((y207).1).Sn).length : Int)) ((((y207).1).Cur).Key).length), Seq := (((y207).1).Cur).Seq, Win := { Top := ((((y207).1).Cur).Win).Top, Bits := (marksI ((1 + ((((y207).1).Sn).length : Int)) + (((((y207).1).Cur).Key).length : Int)) (((((y207).1).Cur).Win).Bits).length) : PWin } : PEp }, Old := { N := (((y207).1).Old).N, Key := (marksB (((1 + ((((y207).1).Sn).length : Int)) + (((((y207).1).Cur).Key).length : Int)) + ((((((y207).1).Cur).Win).Bits).length : Int)) ((((y207).1).Old).Key).length), Seq := (((y207).1).Old).Seq, Win := { Top := ((((y207).1).Old).Win).Top, Bits := (marksI ((((1 + ((((y207).1).Sn).length : Int)) + (((((y207).1).Cur).Key).length : Int)) + ((((((y207).1).Cur).Win).Bits).length : Int)) + (((((y207).1).Old).Key).length : Int)) (((((y207).1).Old).Win).Bits).length) : PWin } : PEp }, HasOld := ((y207).1).HasOld, Until := ((y207).1).Until, Next := (marksB (((((1 + ((((y207).1).Sn).length : Int)) + (((((y207).1).Cur).Key).length : Int)) + ((((((y207).1).Cur).Win).Bits).length : Int)) + (((((y207).1).Old).Key).length : Int)) + ((((((y207).1).Old).Win).Bits).length : Int)) (((y207).1).Next).length) : PChan } 1
  try rw [e517] at q520
  refine aw (vi (y516)) ?_
  refine n4 ?_
  refine mw (vi (y516)) ?_
  refine pu (vb (decide ((y516) < 0))) wN ?_
  refine n2 ?_
  rcases bt (decide ((y516) < 0)) with h521 | h521
  ·have q522 := of_decide_eq_true h521
   refine ct h521 ?_
   refine sr ?_
   refine aw (vb false) ?_
   refine n1 ?_
   refine rt (vb false) ?_
   refine ⟨m519.keep0, ?_⟩
   have hF523 : F_laws_FnExactHearRekey x_aC x_aUnder x_aPlain = false := by first | (simp only [F_laws_FnExactHearRekey, h42, h49, e103, e208, h267, h269, e432, h435, h448, h472, e517, h521, cond_true, cond_false]; done) | (unfold F_laws_FnExactHearRekey; try rw [h42]; try rw [h49]; try rw [e103]; try rw [e208]; try rw [h267]; try rw [h269]; try rw [e432]; try rw [h435]; try rw [h448]; try rw [h472]; try rw [e517]; try rw [h521]; rfl)
   rw [hF523]
   exact rfl
  have q524 := of_decide_eq_false h521
  refine cf h521 ?_
  refine y2 ?_
  refine mw (vi (y516)) ?_
  refine mw (vi ((((((1 + ((((y207).1).Sn).length : Int)) + (((((y207).1).Cur).Key).length : Int)) + ((((((y207).1).Cur).Win).Bits).length : Int)) + (((((y207).1).Old).Key).length : Int)) + ((((((y207).1).Old).Win).Bits).length : Int)) + ((((y207).1).Next).length : Int))) ?_
  refine pu (vb (!(decide ((y516) = ((((((1 + ((((y207).1).Sn).length : Int)) + (((((y207).1).Cur).Key).length : Int)) + ((((((y207).1).Cur).Win).Bits).length : Int)) + (((((y207).1).Old).Key).length : Int)) + ((((((y207).1).Old).Win).Bits).length : Int)) + ((((y207).1).Next).length : Int)))))) wN ?_
  refine n2 ?_
  rcases bf (decide ((y516) = ((((((1 + ((((y207).1).Sn).length : Int)) + (((((y207).1).Cur).Key).length : Int)) + ((((((y207).1).Cur).Win).Bits).length : Int)) + (((((y207).1).Old).Key).length : Int)) + ((((((y207).1).Old).Win).Bits).length : Int)) + ((((y207).1).Next).length : Int)))) with h525 | h525
  ·have q646 := of_decide_eq_false h525
   refine ct (congrArg not h525) ?_
   refine sr ?_
   refine aw (vb false) ?_
   refine n1 ?_
   refine rt (vb false) ?_
   refine ⟨m519.keep0, ?_⟩
   have hF647 : F_laws_FnExactHearRekey x_aC x_aUnder x_aPlain = false := by first | (simp only [F_laws_FnExactHearRekey, h42, h49, e103, e208, h267, h269, e432, h435, h448, h472, e517, h521, h525, cond_true, cond_false]; done) | (unfold F_laws_FnExactHearRekey; try rw [h42]; try rw [h49]; try rw [e103]; try rw [e208]; try rw [h267]; try rw [h269]; try rw [e432]; try rw [h435]; try rw [h448]; try rw [h472]; try rw [e517]; try rw [h521]; try rw [h525]; rfl)
   rw [hF647]
   exact rfl
  have q526 := of_decide_eq_true h525
  refine cf (congrArg not h525) ?_
  refine y1 ?_
  have zz48 := z10 k46 k54 k87 k104 k140 k143 k148 k184 k187 k191
  have zz49 := z6 k46 k54 k87 k104 k140 k143
  have b527 := (((((((((((((((((b147.kp k148).kp k184).ch k187 (Nat.ne_of_lt (Nat.lt_of_lt_of_le p38 (Nat.le_trans (z7 k46 k54 k87 k104 k140 k143 k148) p182)))).kp k191).kp k209).kp k245).ch k248 (Nat.ne_of_lt (Nat.lt_of_lt_of_le p38 (Nat.le_trans (z11 k46 k54 k87 k104 k140 k143 k148 k184 k187 k191 k209) p243)))).kp k265).kp k389).kp k433).kp k437).kp k446).ch k457 (ms_lo (ms_lo_cons (fun hn x hx hb => by have := (own_lt o151 x.block (by rw [hx]; rfl)).1; have := Nat.lt_of_lt_of_le p38 zz49; omega) (ms_lo_cons (fun hn x hx hb => by have := (own_lt o156 x.block (by rw [hx]; rfl)).1; have := Nat.lt_of_lt_of_le p38 zz49; omega) (ms_lo_cons (fun hn x hx hb => by have := (own_lt o161 x.block (by rw [hx]; rfl)).1; have := Nat.lt_of_lt_of_le p38 zz49; omega) (ms_lo_cons (fun hn x hx hb => by have := (own_lt o166 x.block (by rw [hx]; rfl)).1; have := Nat.lt_of_lt_of_le p38 zz49; omega) (ms_lo_cons (fun hn x hx hb => by have := (own_lt o171 x.block (by rw [hx]; rfl)).1; have := Nat.lt_of_lt_of_le p38 zz49; omega) (ms_lo_cons (fun hn x hx hb => by have := (own_lt o176 x.block (by rw [hx]; rfl)).1; have := Nat.lt_of_lt_of_le p38 zz49; omega) ms_lo_nil)))))))).ch k468 (ms_lo (ms_lo_cons (fun hn x hx hb => by have := (own_lt o194 x.block (by rw [hx]; rfl)).1; have := Nat.lt_of_lt_of_le p38 (z9 k46 k54 k87 k104 k140 k143 k148 k184 k187); omega) ms_lo_nil))).kp k490).ch k505 (ms_lo (ms_lo_cons (fun hn x hx hb => by have := (own_lt o212 x.block (by rw [hx]; rfl)).1; have := Nat.lt_of_lt_of_le p38 zz48; omega) (ms_lo_cons (fun hn x hx hb => by have := (own_lt o217 x.block (by rw [hx]; rfl)).1; have := Nat.lt_of_lt_of_le p38 zz48; omega) (ms_lo_cons (fun hn x hx hb => by have := (own_lt o222 x.block (by rw [hx]; rfl)).1; have := Nat.lt_of_lt_of_le p38 zz48; omega) (ms_lo_cons (fun hn x hx hb => by have := (own_lt o227 x.block (by rw [hx]; rfl)).1; have := Nat.lt_of_lt_of_le p38 zz48; omega) (ms_lo_cons (fun hn x hx hb => by have := (own_lt o232 x.block (by rw [hx]; rfl)).1; have := Nat.lt_of_lt_of_le p38 zz48; omega) (ms_lo_cons (fun hn x hx hb => by have := (own_lt o237 x.block (by rw [hx]; rfl)).1; have := Nat.lt_of_lt_of_le p38 zz48; omega) ms_lo_nil)))))))).kp k518)
  refine lN (L_38 x_aC a1 c2 a6 c7 a11 c12 a16 c17 a21 c22 a26 c27) wN isAgg_50 sizeOf_50 b527 ?_
  refine cl wN (C_laws_toChan w24 _ x_aC (mR_50 (r3.from0 m519) (by omega) (r8.from0 m519) (by omega) (r13.from0 m519) (by omega) (r18.from0 m519) (by omega) (r23.from0 m519) (by omega) (r28.from0 m519) (by omega))) ?_
  rintro _ w25 ⟨k528, ⟨a529, c530, a534, c535, a539, c540, a544, c545, a549, c550, a554, c555, rfl, o531, s532, o536, s537, o541, s542, o546, s547, o551, s552, o556, s557, ap559⟩⟩
  have m560 := m519.extk k528
  refine mw (vi x_aUnder) ?_
  refine mw (vs a31 x_aPlain.length c32) ?_
  refine cl wN (C_laws_toByteS w25 _ x_aPlain (mR_22 (r33.from0 m560) (by omega))) ?_
  rintro _ w26 ⟨k561, ⟨a562, c563, rfl, o564, s565, ap567⟩⟩
  have m568 := m560.extk k561
  have o569 := (own_kp o531 k561)
  have o570 := (own_kp o536 k561)
  have o571 := (own_kp o541 k561)
  have o572 := (own_kp o546 k561)
  have o573 := (own_kp o551 k561)
  have o574 := (own_kp o556 k561)
  have hc575 := C_impl_HearRekey w26 _ (F_laws_toChan x_aC) (mR_38 (Rd.of_own o569) s532 (Rd.of_own o570) s537 (Rd.of_own o571) s542 (Rd.of_own o572) s547 (Rd.of_own o573) s552 (Rd.of_own o574) s557) x_aUnder _ (cpB x_aPlain) (mR_22 (Rd.of_own o564) s565)
  rw [e208] at hc575
  refine cl wN hc575 ?_
  rintro _ w27 ⟨k576, ⟨a577, c578, a582, c583, a587, c588, a592, c593, a597, c598, a602, c603, rfl, o579, s580, o584, s585, o589, s590, o594, s595, o599, s600, o604, s605, ap607⟩⟩
  have m608 := m568.extk k576
  refine mw (.tuple #[(va (L_38 ((y207).1) a577 c578 a582 c583 a587 c588 a592 c593 a597 c598 a602 c603)), (vi ((y207).2))]) ?_
  refine pu (va (L_38 ((y207).1) a577 c578 a582 c583 a587 c588 a592 c593 a597 c598 a602 c603)) wN ?_
  refine pu (vi ((y207).2)) wN ?_
  refine al [(vi 0), (vs none 0 0), (vi 0), (vs none 0 0), (vi 0), (vi 0), (vs none 0 0), (vi 0), (vs none 0 0), (vi 0), (vi 0), (vs none 0 0), (vb false), (vi 0), (vs none 0 0)] wN zero_38 ?_
  intro g609 w28 p610 p611 k612 b613
  have m614 := m608.extk k612
  refine sv (L_38 ((y207).1) a577 c578 a582 c583 a587 c588 a592 c593 a597 c598 a602 c603) wN sizeOf_38 b613 ?_
  intro w29 k615 b616 z617
  have m618 := m614.ext k615 (fun k hk => by subst hk; exact Nat.le_trans (t5 (t12 (z12 k39 k46 k54 k87 k104 k140 k143 k148 k184 k187 k191 k209) k245.size k248.size k265.size k389.size k433.size k437.size k446.size k457.size k468.size k490.size k505.size) k518.size k528.size k561.size k576.size) p610)
  refine aw (vi ((y207).2)) ?_
  refine n4 ?_
  refine lN (L_38 ((y207).1) a577 c578 a582 c583 a587 c588 a592 c593 a597 c598 a602 c603) wN isAgg_38 sizeOf_38 b616 ?_
  have zz50 := z5 k143 k148 k184 k187 k191
  have b619 := ((((((((b477.kp k490).ch k505 (ms_lo (ms_lo_cons (fun hn x hx hb => by have := (own_lt o212 x.block (by rw [hx]; rfl)).1; have := Nat.lt_of_lt_of_le p139 zz50; omega) (ms_lo_cons (fun hn x hx hb => by have := (own_lt o217 x.block (by rw [hx]; rfl)).1; have := Nat.lt_of_lt_of_le p139 zz50; omega) (ms_lo_cons (fun hn x hx hb => by have := (own_lt o222 x.block (by rw [hx]; rfl)).1; have := Nat.lt_of_lt_of_le p139 zz50; omega) (ms_lo_cons (fun hn x hx hb => by have := (own_lt o227 x.block (by rw [hx]; rfl)).1; have := Nat.lt_of_lt_of_le p139 zz50; omega) (ms_lo_cons (fun hn x hx hb => by have := (own_lt o232 x.block (by rw [hx]; rfl)).1; have := Nat.lt_of_lt_of_le p139 zz50; omega) (ms_lo_cons (fun hn x hx hb => by have := (own_lt o237 x.block (by rw [hx]; rfl)).1; have := Nat.lt_of_lt_of_le p139 zz50; omega) ms_lo_nil)))))))).kp k518).kp k528).kp k561).kp k576).kp k612).ch k615 (Nat.ne_of_lt (Nat.lt_of_lt_of_le p139 (Nat.le_trans (t10 (z12 k143 k148 k184 k187 k191 k209 k245 k248 k265 k389 k433 k437) k446.size k457.size k468.size k490.size k505.size k518.size k528.size k561.size k576.size) p610))))
  refine lN (L_38 ((y102).1) a105 c106 a110 c111 a115 c116 a120 c121 a125 c126 a130 c131) wN isAgg_38 sizeOf_38 b619 ?_
  have o620 := (own_ch (own_kp o579 k612) k615 (ne2 o579 (p610)))
  have o621 := (own_ch (own_kp o584 k612) k615 (ne2 o584 (p610)))
  have o622 := (own_ch (own_kp o589 k612) k615 (ne2 o589 (p610)))
  have o623 := (own_ch (own_kp o594 k612) k615 (ne2 o594 (p610)))
  have o624 := (own_ch (own_kp o599 k612) k615 (ne2 o599 (p610)))
  have o625 := (own_ch (own_kp o604 k612) k615 (ne2 o604 (p610)))
  have zz51 := z6 k140 k143 k148 k184 k187 k191
  have r626 := (((((((Rd.mz (r484.kp k490) l513 (ap_cons (rd_cap r493) (Ap.lt o107 o212 zz51).symm (ap_cons (rd_cap r494) (Ap.lt o107 o217 zz51).symm (ap_cons (rd_cap r495) (Ap.lt o107 o222 zz51).symm (ap_cons (rd_cap r496) (Ap.lt o107 o227 zz51).symm (ap_cons (rd_cap r497) (Ap.lt o107 o232 zz51).symm (ap_cons (rd_cap r498) (Ap.lt o107 o237 zz51).symm ap_nil))))))).kp k518).kp k528).kp k561).kp k576).kp k612).ch k615 (ne2 o107 (Nat.le_trans (t11 (z12 k140 k143 k148 k184 k187 k191 k209 k245 k248 k265 k389 k433) k437.size k446.size k457.size k468.size k490.size k505.size k518.size k528.size k561.size k576.size) p610)))
  have zz52 := z6 k140 k143 k148 k184 k187 k191
  have r627 := (((((((Rd.mz (r485.kp k490) l513 (ap_cons (rd_cap r493) (Ap.lt o112 o212 zz52).symm (ap_cons (rd_cap r494) (Ap.lt o112 o217 zz52).symm (ap_cons (rd_cap r495) (Ap.lt o112 o222 zz52).symm (ap_cons (rd_cap r496) (Ap.lt o112 o227 zz52).symm (ap_cons (rd_cap r497) (Ap.lt o112 o232 zz52).symm (ap_cons (rd_cap r498) (Ap.lt o112 o237 zz52).symm ap_nil))))))).kp k518).kp k528).kp k561).kp k576).kp k612).ch k615 (ne2 o112 (Nat.le_trans (t11 (z12 k140 k143 k148 k184 k187 k191 k209 k245 k248 k265 k389 k433) k437.size k446.size k457.size k468.size k490.size k505.size k518.size k528.size k561.size k576.size) p610)))
  have zz53 := z6 k140 k143 k148 k184 k187 k191
  have r628 := (((((((Rd.mz (r486.kp k490) l513 (ap_cons (rd_cap r493) (Ap.lt o117 o212 zz53).symm (ap_cons (rd_cap r494) (Ap.lt o117 o217 zz53).symm (ap_cons (rd_cap r495) (Ap.lt o117 o222 zz53).symm (ap_cons (rd_cap r496) (Ap.lt o117 o227 zz53).symm (ap_cons (rd_cap r497) (Ap.lt o117 o232 zz53).symm (ap_cons (rd_cap r498) (Ap.lt o117 o237 zz53).symm ap_nil))))))).kp k518).kp k528).kp k561).kp k576).kp k612).ch k615 (ne2 o117 (Nat.le_trans (t11 (z12 k140 k143 k148 k184 k187 k191 k209 k245 k248 k265 k389 k433) k437.size k446.size k457.size k468.size k490.size k505.size k518.size k528.size k561.size k576.size) p610)))
  have zz54 := z6 k140 k143 k148 k184 k187 k191
  have r629 := (((((((Rd.mz (r487.kp k490) l513 (ap_cons (rd_cap r493) (Ap.lt o122 o212 zz54).symm (ap_cons (rd_cap r494) (Ap.lt o122 o217 zz54).symm (ap_cons (rd_cap r495) (Ap.lt o122 o222 zz54).symm (ap_cons (rd_cap r496) (Ap.lt o122 o227 zz54).symm (ap_cons (rd_cap r497) (Ap.lt o122 o232 zz54).symm (ap_cons (rd_cap r498) (Ap.lt o122 o237 zz54).symm ap_nil))))))).kp k518).kp k528).kp k561).kp k576).kp k612).ch k615 (ne2 o122 (Nat.le_trans (t11 (z12 k140 k143 k148 k184 k187 k191 k209 k245 k248 k265 k389 k433) k437.size k446.size k457.size k468.size k490.size k505.size k518.size k528.size k561.size k576.size) p610)))
  have zz55 := z6 k140 k143 k148 k184 k187 k191
  have r630 := (((((((Rd.mz (r488.kp k490) l513 (ap_cons (rd_cap r493) (Ap.lt o127 o212 zz55).symm (ap_cons (rd_cap r494) (Ap.lt o127 o217 zz55).symm (ap_cons (rd_cap r495) (Ap.lt o127 o222 zz55).symm (ap_cons (rd_cap r496) (Ap.lt o127 o227 zz55).symm (ap_cons (rd_cap r497) (Ap.lt o127 o232 zz55).symm (ap_cons (rd_cap r498) (Ap.lt o127 o237 zz55).symm ap_nil))))))).kp k518).kp k528).kp k561).kp k576).kp k612).ch k615 (ne2 o127 (Nat.le_trans (t11 (z12 k140 k143 k148 k184 k187 k191 k209 k245 k248 k265 k389 k433) k437.size k446.size k457.size k468.size k490.size k505.size k518.size k528.size k561.size k576.size) p610)))
  have zz56 := z6 k140 k143 k148 k184 k187 k191
  have r631 := (((((((Rd.mz (r489.kp k490) l513 (ap_cons (rd_cap r493) (Ap.lt o132 o212 zz56).symm (ap_cons (rd_cap r494) (Ap.lt o132 o217 zz56).symm (ap_cons (rd_cap r495) (Ap.lt o132 o222 zz56).symm (ap_cons (rd_cap r496) (Ap.lt o132 o227 zz56).symm (ap_cons (rd_cap r497) (Ap.lt o132 o232 zz56).symm (ap_cons (rd_cap r498) (Ap.lt o132 o237 zz56).symm ap_nil))))))).kp k518).kp k528).kp k561).kp k576).kp k612).ch k615 (ne2 o132 (Nat.le_trans (t11 (z12 k140 k143 k148 k184 k187 k191 k209 k245 k248 k265 k389 k433) k437.size k446.size k457.size k468.size k490.size k505.size k518.size k528.size k561.size k576.size) p610)))
  refine cl wN (C_laws_eqChan w29 _ ((y207).1) (mR_38 (Rd.of_own o620) s580 (Rd.of_own o621) s585 (Rd.of_own o622) s590 (Rd.of_own o623) s595 (Rd.of_own o624) s600 (Rd.of_own o625) s605) _ ((y102).1) (mR_38 r626 s108 r627 s113 r628 s118 r629 s123 r630 s128 r631 s133)) ?_
  rintro _ w30 ⟨k632, rfl⟩
  have m633 := m618.extk k632
  refine pu (vb (!(F_laws_eqChan ((y207).1) ((y102).1)))) wN ?_
  refine mw (vb (!(F_laws_eqChan ((y207).1) ((y102).1)))) ?_
  refine mv (vi ((y207).2)) (wS (congrArg not h267)) ?_
  refine mv (vi ((y102).2)) (wS (congrArg not h267)) ?_
  refine pu (vb (!(decide ((y207).2 = (y102).2)))) (wS (congrArg not h267)) ?_
  refine pf (vb (!(decide ((y207).2 = (y102).2)))) wN (congrArg not h267) ?_
  refine n2 ?_
  refine cf (congrArg not h269) ?_
  refine y1 ?_
  refine aw (vi 1) ?_
  refine nx ?_
  have b634 := (((((((b514.kp k518).kp k528).kp k561).kp k576).kp k612).ch k615 (Nat.ne_of_lt (Nat.lt_of_lt_of_le p244 (Nat.le_trans (t3 (z12 k248 k265 k389 k433 k437 k446 k457 k468 k490 k505 k518 k528) k561.size k576.size) p610)))).kp k632)
  refine lN [(vi (((y207).1).Role)), (vs a210 (((y207).1).Sn).length c211), (vi ((((y207).1).Cur).N)), (vs a215 ((((y207).1).Cur).Key).length c216), (vi ((((y207).1).Cur).Seq)), (vi (((((y207).1).Cur).Win).Top)), (vs a220 (((((y207).1).Cur).Win).Bits).length c221), (vi ((((y207).1).Old).N)), (vs a225 ((((y207).1).Old).Key).length c226), (vi ((((y207).1).Old).Seq)), (vi (((((y207).1).Old).Win).Top)), (vs a230 (((((y207).1).Old).Win).Bits).length c231), (vb (((y207).1).HasOld)), (vi (((y207).1).Until)), (vs a235 (((y207).1).Next).length c236)] wN isAgg_38 sizeOf_38 b634 ?_
  refine mw (vi 1) ?_
  have r635 := (((((((r506.kp k518).kp k528).kp k561).kp k576).kp k612).ch k615 (ne2 o212 (Nat.le_trans (t4 (z12 k245 k248 k265 k389 k433 k437 k446 k457 k468 k490 k505 k518) k528.size k561.size k576.size) p610))).kp k632)
  have r636 := (((((((r507.kp k518).kp k528).kp k561).kp k576).kp k612).ch k615 (ne2 o217 (Nat.le_trans (t4 (z12 k245 k248 k265 k389 k433 k437 k446 k457 k468 k490 k505 k518) k528.size k561.size k576.size) p610))).kp k632)
  have r637 := (((((((r508.kp k518).kp k528).kp k561).kp k576).kp k612).ch k615 (ne2 o222 (Nat.le_trans (t4 (z12 k245 k248 k265 k389 k433 k437 k446 k457 k468 k490 k505 k518) k528.size k561.size k576.size) p610))).kp k632)
  have r638 := (((((((r509.kp k518).kp k528).kp k561).kp k576).kp k612).ch k615 (ne2 o227 (Nat.le_trans (t4 (z12 k245 k248 k265 k389 k433 k437 k446 k457 k468 k490 k505 k518) k528.size k561.size k576.size) p610))).kp k632)
  have r639 := (((((((r510.kp k518).kp k528).kp k561).kp k576).kp k612).ch k615 (ne2 o232 (Nat.le_trans (t4 (z12 k245 k248 k265 k389 k433 k437 k446 k457 k468 k490 k505 k518) k528.size k561.size k576.size) p610))).kp k632)
  have r640 := (((((((r511.kp k518).kp k528).kp k561).kp k576).kp k612).ch k615 (ne2 o237 (Nat.le_trans (t4 (z12 k245 k248 k265 k389 k433 k437 k446 k457 k468 k490 k505 k518) k528.size k561.size k576.size) p610))).kp k632)
  have hc641 := C_laws_heldChan w30 _ _ (show R_38 w30 (va [(vi (((y207).1).Role)), (vs a210 (((y207).1).Sn).length c211), (vi ((((y207).1).Cur).N)), (vs a215 ((((y207).1).Cur).Key).length c216), (vi ((((y207).1).Cur).Seq)), (vi (((((y207).1).Cur).Win).Top)), (vs a220 (((((y207).1).Cur).Win).Bits).length c221), (vi ((((y207).1).Old).N)), (vs a225 ((((y207).1).Old).Key).length c226), (vi ((((y207).1).Old).Seq)), (vi (((((y207).1).Old).Win).Top)), (vs a230 (((((y207).1).Old).Win).Bits).length c231), (vb (((y207).1).HasOld)), (vi (((y207).1).Until)), (vs a235 (((y207).1).Next).length c236)]) { Role := ((y207).1).Role, Sn := (marksB 1 (((y207).1).Sn).length), Cur := { N := (((y207).1).Cur).N, Key := (marksB (1 + ((((y207).1).Sn).length : Int)) ((((y207).1).Cur).Key).length), Seq := (((y207).1).Cur).Seq, Win := { Top := ((((y207).1).Cur).Win).Top, Bits := (marksI ((1 + ((((y207).1).Sn).length : Int)) + (((((y207).1).Cur).Key).length : Int)) (((((y207).1).Cur).Win).Bits).length) : PWin } : PEp }, Old := { N := (((y207).1).Old).N, Key := (marksB (((1 + ((((y207).1).Sn).length : Int)) + (((((y207).1).Cur).Key).length : Int)) + ((((((y207).1).Cur).Win).Bits).length : Int)) ((((y207).1).Old).Key).length), Seq := (((y207).1).Old).Seq, Win := { Top := ((((y207).1).Old).Win).Top, Bits := (marksI ((((1 + ((((y207).1).Sn).length : Int)) + (((((y207).1).Cur).Key).length : Int)) + ((((((y207).1).Cur).Win).Bits).length : Int)) + (((((y207).1).Old).Key).length : Int)) (((((y207).1).Old).Win).Bits).length) : PWin } : PEp }, HasOld := ((y207).1).HasOld, Until := ((y207).1).Until, Next := (marksB (((((1 + ((((y207).1).Sn).length : Int)) + (((((y207).1).Cur).Key).length : Int)) + ((((((y207).1).Cur).Win).Bits).length : Int)) + (((((y207).1).Old).Key).length : Int)) + ((((((y207).1).Old).Win).Bits).length : Int)) (((y207).1).Next).length) : PChan } from ⟨a210, c211, a215, c216, a220, c221, a225, c226, a230, c231, a235, c236, by simp only [marksB_len, marksI_len, marksL_len, marksE_len], by simpa only [marksB_len, marksI_len, marksL_len, marksE_len] using r635, by simp only [marksB_len, marksI_len, marksL_len, marksE_len]; first | exact s213 | omega, by simpa only [marksB_len, marksI_len, marksL_len, marksE_len] using r636, by simp only [marksB_len, marksI_len, marksL_len, marksE_len]; first | exact s218 | omega, by simpa only [marksB_len, marksI_len, marksL_len, marksE_len] using r637, by simp only [marksB_len, marksI_len, marksL_len, marksE_len]; first | exact s223 | omega, by simpa only [marksB_len, marksI_len, marksL_len, marksE_len] using r638, by simp only [marksB_len, marksI_len, marksL_len, marksE_len]; first | exact s228 | omega, by simpa only [marksB_len, marksI_len, marksL_len, marksE_len] using r639, by simp only [marksB_len, marksI_len, marksL_len, marksE_len]; first | exact s233 | omega, by simpa only [marksB_len, marksI_len, marksL_len, marksE_len] using r640, by simp only [marksB_len, marksI_len, marksL_len, marksE_len]; first | exact s238 | omega⟩) 1 (by omega) (by omega)
  rw [e517] at hc641
  refine cl wN hc641 ?_
  rintro _ w31 ⟨k642, rfl⟩
  have m643 := m633.extk k642
  have q644 := laws_heldChan_le { Role := ((y207).1).Role, Sn := (marksB 1 (((y207).1).Sn).length), Cur := { N := (((y207).1).Cur).N, Key := (marksB (1 + ((((y207).1).Sn).length : Int)) ((((y207).1).Cur).Key).length), Seq := (((y207).1).Cur).Seq, Win := { Top := ((((y207).1).Cur).Win).Top, Bits := (marksI ((1 + ((((y207).1).Sn).length : Int)) + (((((y207).1).Cur).Key).length : Int)) (((((y207).1).Cur).Win).Bits).length) : PWin } : PEp }, Old := { N := (((y207).1).Old).N, Key := (marksB (((1 + ((((y207).1).Sn).length : Int)) + (((((y207).1).Cur).Key).length : Int)) + ((((((y207).1).Cur).Win).Bits).length : Int)) ((((y207).1).Old).Key).length), Seq := (((y207).1).Old).Seq, Win := { Top := ((((y207).1).Old).Win).Top, Bits := (marksI ((((1 + ((((y207).1).Sn).length : Int)) + (((((y207).1).Cur).Key).length : Int)) + ((((((y207).1).Cur).Win).Bits).length : Int)) + (((((y207).1).Old).Key).length : Int)) (((((y207).1).Old).Win).Bits).length) : PWin } : PEp }, HasOld := ((y207).1).HasOld, Until := ((y207).1).Until, Next := (marksB (((((1 + ((((y207).1).Sn).length : Int)) + (((((y207).1).Cur).Key).length : Int)) + ((((((y207).1).Cur).Win).Bits).length : Int)) + (((((y207).1).Old).Key).length : Int)) + ((((((y207).1).Old).Win).Bits).length : Int)) (((y207).1).Next).length) : PChan } 1
  try rw [e517] at q644
  refine aw (vi (y516)) ?_
  refine n4 ?_
  refine mw (vi (y516)) ?_
  refine pu (vb (decide ((y516) < 0))) wN ?_
  refine n2 ?_
  refine cf h521 ?_
  refine y2 ?_
  refine mw (vi (y516)) ?_
  refine mw (vi ((((((1 + ((((y207).1).Sn).length : Int)) + (((((y207).1).Cur).Key).length : Int)) + ((((((y207).1).Cur).Win).Bits).length : Int)) + (((((y207).1).Old).Key).length : Int)) + ((((((y207).1).Old).Win).Bits).length : Int)) + ((((y207).1).Next).length : Int))) ?_
  refine pu (vb (!(decide ((y516) = ((((((1 + ((((y207).1).Sn).length : Int)) + (((((y207).1).Cur).Key).length : Int)) + ((((((y207).1).Cur).Win).Bits).length : Int)) + (((((y207).1).Old).Key).length : Int)) + ((((((y207).1).Old).Win).Bits).length : Int)) + ((((y207).1).Next).length : Int)))))) wN ?_
  refine n2 ?_
  refine cf (congrArg not h525) ?_
  refine y1 ?_
  refine aw (vb true) ?_
  refine n3 ?_
  refine rt (vb true) ?_
  refine ⟨m643.keep0, ?_⟩
  have hF645 : F_laws_FnExactHearRekey x_aC x_aUnder x_aPlain = true := by first | (simp only [F_laws_FnExactHearRekey, h42, h49, e103, e208, h267, h269, e432, h435, h448, h472, e517, h521, h525, cond_true, cond_false]; done) | (unfold F_laws_FnExactHearRekey; try rw [h42]; try rw [h49]; try rw [e103]; try rw [e208]; try rw [h267]; try rw [h269]; try rw [e432]; try rw [h435]; try rw [h448]; try rw [h472]; try rw [e517]; try rw [h521]; try rw [h525]; rfl)
  rw [hF645]
  exact rfl
end Go.Proofs.Ytafcngfnhhchjaa.K
