import Derived.Test.YtafcngfnhhchjaaCore
import Derived.Test.YtafcngfnhhchjaaProg
import Derived.Test.YtafcngfnhhchjaaHeld
import Derived.Test.YtafcngfnhhchjaaFun
import Derived.Test.YtafcngfnhhchjaaFunZ
import Derived.Test.YtafcngfnhhchjaaSqz
import Derived.Test.YtafcngfnhhchjaaHash
import Derived.Test.YtafcngfnhhchjaaWh6
namespace Go.Proofs.Ytafcngfnhhchjaa.K
open Go.RowKit
set_option linter.unusedVariables false
set_option linter.unusedSimpArgs false
set_option maxRecDepth 100000
set_option maxHeartbeats 4000000
def F_spec_RekeyBody (x_n : Int) : (List UInt8) := bif (F_spec_l1In x_n 0 4294967295) then ((putN [] x_n 4)) else ([])
theorem C_spec_RekeyBody (w0 : World) (x_n : Int)  : Fn Try.prog 75 #[(vi x_n)] w0 (fun v w' => Keep w0 w' ∧ O_22 w' w0.heap.size v (F_spec_RekeyBody x_n)) := by
 refine fn_of (n := 10) (l := [(vi x_n), U, U, U, U, U, U, U, U, U]) Try.func75 rfl rfl k% rfl ?_
 sr%
 ag% (vs none 0 0)
 n4%
 mv% (vi x_n)
 cl% (C_spec_l1In w0 x_n 0 4294967295)
 rintro _ w1 ⟨k1, rfl⟩
 have m2 := (Ch.base w0).extk k1
 pu% (vb (!(F_spec_l1In x_n 0 4294967295)))
 n2%
 rcases bf (F_spec_l1In x_n 0 4294967295) with h3 | h3
 ·have q20 := spec_l1In_f h3
  ct% (congrArg not h3)
  sr%
  refine wl_lit0 wN rfl rfl slTy_22 (fun w => by kernel_rfl) ?_
  intro a21 w2 k22 o23
  m% m24 m2 k22
  ag% (vs (some a21) 0 0)
  n1%
  r1% (vs (some a21) 0 0)
  kp% m24
  have hF26 : F_spec_RekeyBody x_n = [] := by simp only [F_spec_RekeyBody, h3, cond_true, cond_false]
  rw [hF26]
  exact ⟨_, _, rfl, (own_lo o23 k1.size), (by simp), ⟨trivial, trivial⟩⟩
 have q4 := spec_l1In_t h3
 cf% (congrArg not h3)
 z1%
 refine wl_lit0 wN rfl rfl slTy_22 (fun w => by kernel_rfl) ?_
 intro a5 w2 k6 o7
 m% m8 m2 k6
 mv% (vi x_n)
 cl% (C_spec_PutN w2 _ [] (mR_22 (Rd.of_own o7) (by simp)) x_n 4 (by first | omega | (simp; done) | (simp; omega)))
 rintro _ w3 ⟨k10, ⟨a11, c12, rfl, o13, s14, ap16⟩⟩
 m% m17 m8 k10
 have q18 := putN_len [] x_n 4
 ag% (vs a11 (putN [] x_n 4).length c12)
 n3%
 r1% (vs a11 (putN [] x_n 4).length c12)
 kp% m17
 have hF19 : F_spec_RekeyBody x_n = (putN [] x_n 4) := by simp only [F_spec_RekeyBody, h3, cond_true, cond_false]
 rw [hF19]
 exact ⟨_, _, rfl, (own_lo o13 (Nat.le_trans k1.size k6.size)), s14, ⟨trivial, trivial⟩⟩

def O_38_3 (w : World) (lo : Nat) (v : Value) (x : (PChan) × (Int)) : Prop := ∃ (a1 : Option Addr) (c1 : Nat) (a2 : Option Addr) (c2 : Nat) (a3 : Option Addr) (c3 : Nat) (a4 : Option Addr) (c4 : Nat) (a5 : Option Addr) (c5 : Nat) (a6 : Option Addr) (c6 : Nat), v = .tuple #[.agg #[.int .i64 x.1.Role, .slice a1 x.1.Sn.length c1, .int .i64 x.1.Cur.N, .slice a2 x.1.Cur.Key.length c2, .int .i64 x.1.Cur.Seq, .int .i64 x.1.Cur.Win.Top, .slice a3 x.1.Cur.Win.Bits.length c3, .int .i64 x.1.Old.N, .slice a4 x.1.Old.Key.length c4, .int .i64 x.1.Old.Seq, .int .i64 x.1.Old.Win.Top, .slice a5 x.1.Old.Win.Bits.length c5, .bool x.1.HasOld, .int .i64 x.1.Until, .slice a6 x.1.Next.length c6], .int .i64 x.2] ∧ w.ownsRow lo 5 1 (.slice a1 x.1.Sn.length c1) x.1.Sn.length (x.1.Sn.map bV) ∧ x.1.Sn.length ≤ 1073741824 ∧ w.ownsRow lo 5 1 (.slice a2 x.1.Cur.Key.length c2) x.1.Cur.Key.length (x.1.Cur.Key.map bV) ∧ x.1.Cur.Key.length ≤ 1073741824 ∧ w.ownsRow lo 3 1 (.slice a3 x.1.Cur.Win.Bits.length c3) x.1.Cur.Win.Bits.length (x.1.Cur.Win.Bits.map iV) ∧ x.1.Cur.Win.Bits.length ≤ 1073741824 ∧ w.ownsRow lo 5 1 (.slice a4 x.1.Old.Key.length c4) x.1.Old.Key.length (x.1.Old.Key.map bV) ∧ x.1.Old.Key.length ≤ 1073741824 ∧ w.ownsRow lo 3 1 (.slice a5 x.1.Old.Win.Bits.length c5) x.1.Old.Win.Bits.length (x.1.Old.Win.Bits.map iV) ∧ x.1.Old.Win.Bits.length ≤ 1073741824 ∧ w.ownsRow lo 5 1 (.slice a6 x.1.Next.length c6) x.1.Next.length (x.1.Next.map bV) ∧ x.1.Next.length ≤ 1073741824 ∧ Aps [(a1, c1), (a2, c2), (a3, c3), (a4, c4), (a5, c5), (a6, c6)]
def F_spec_HearRekey (x_c : PChan) (x_under : Int) (x_plain : List UInt8) : (PChan) × (Int) := bif (F_spec_ChanOk x_c) then (bif (decide (x_c.Role = 1)) then (bif (F_spec_l1In x_under 0 4294967294) then (bif (F_spec_l1Same x_plain (F_spec_RekeyBody (x_under + 1))) then (bif (decide (x_under = x_c.Cur.N)) then (bif ((F_spec_Turn x_c).2) then ((((F_spec_Turn x_c).1), 0)) else (((F_spec_l14Copy x_c), 6))) else (bif (decide (x_under = (x_c.Cur.N - 1))) then (((F_spec_l14Copy x_c), 0)) else (((F_spec_l14Copy x_c), 6)))) else (((F_spec_l14Copy x_c), 6))) else (((F_spec_l14Copy x_c), 6))) else (((F_spec_l14Copy x_c), 6))) else (((F_spec_l14Copy x_c), 6))
theorem C_spec_HearRekey (w0 : World) (v_x_c : Value) (x_c : PChan) (r_x_c : R_38 w0 v_x_c x_c) (x_under : Int) (v_x_plain : Value) (x_plain : List UInt8) (r_x_plain : R_22 w0 v_x_plain x_plain)  : Fn Try.prog 33 #[v_x_c, (vi x_under), v_x_plain] w0 (fun v w' => Keep w0 w' ∧ O_38_3 w' w0.heap.size v (F_spec_HearRekey x_c x_under x_plain)) := by
 obtain ⟨a1, c2, a6, c7, a11, c12, a16, c17, a21, c22, a26, c27, rfl, r3, s4, r8, s9, r13, s14, r18, s19, r23, s24, r28, s29⟩ := r_x_c
 obtain ⟨a31, c32, rfl, r33, s34⟩ := r_x_plain
 refine fn_of (n := 57) (l := [(va (L_38 x_c a1 c2 a6 c7 a11 c12 a16 c17 a21 c22 a26 c27)), (vi x_under), (vs a31 x_plain.length c32), U, U, U, U, U, U, U, U, U, U, U, U, U, U, U, U, U, U, U, U, U, U, U, U, U, U, U, U, U, U, U, U, U, U, U, U, U, U, U, U, U, U, U, U, U, U, U, U, U, U, U, U, U, U]) Try.func33 rfl rfl k% rfl ?_
 sr%
 refine bx (L_38 x_c a1 c2 a6 c7 a11 c12 a16 c17 a21 c22 a26 c27) wN ?_
 intro g36 w1 p37 p38 k39 b40
 have m41 := (Ch.base w0).extk k39
 refine al [(vi 0), (vs none 0 0), (vi 0), (vs none 0 0), (vi 0), (vi 0), (vs none 0 0), (vi 0), (vs none 0 0), (vi 0), (vi 0), (vs none 0 0), (vb false), (vi 0), (vs none 0 0)] wN zero_38 ?_
 intro g42 w2 p43 p44 k45 b46
 m% m47 m41 k45
 ag% (vi 0)
 nx%
 have b48 := (b40.kp k45)
 refine lN (L_38 x_c a1 c2 a6 c7 a11 c12 a16 c17 a21 c22 a26 c27) wN isAgg_38 sizeOf_38 b48 ?_
 cl% (C_spec_l14Copy w2 _ x_c (mR_38 (r3.from0 m47) s4 (r8.from0 m47) s9 (r13.from0 m47) s14 (r18.from0 m47) s19 (r23.from0 m47) s24 (r28.from0 m47) s29))
 rintro _ w3 ⟨k49, ⟨a50, c51, a55, c56, a60, c61, a65, c66, a70, c71, a75, c76, rfl, o52, s53, o57, s58, o62, s63, o67, s68, o72, s73, o77, s78, ap80⟩⟩
 m% m81 m47 k49
 refine al [(vi 0), (vs none 0 0), (vi 0), (vs none 0 0), (vi 0), (vi 0), (vs none 0 0), (vi 0), (vs none 0 0), (vi 0), (vi 0), (vs none 0 0), (vb false), (vi 0), (vs none 0 0)] wN zero_38 ?_
 intro g82 w4 p83 p84 k85 b86
 m% m87 m81 k85
 sv% (L_38 (F_spec_l14Copy x_c) a50 c51 a55 c56 a60 c61 a65 c66 a70 c71 a75 c76) sizeOf_38 b86
 intro w5 k88 b89 z90
 have m91 := m87.ext k88 (fun k hk => by subst hk; exact Nat.le_trans (z% k39 k45 k49) p83)
 n4%
 have b92 := (((b48.kp k49).kp k85).ch k88 (Nat.ne_of_lt (Nat.lt_of_lt_of_le p38 (Nat.le_trans (Nat.le_trans k45.size k49.size) p83))))
 refine lN (L_38 x_c a1 c2 a6 c7 a11 c12 a16 c17 a21 c22 a26 c27) wN isAgg_38 sizeOf_38 b92 ?_
 cl% (C_spec_ChanOk w5 _ x_c (mR_38 (r3.from0 m91) s4 (r8.from0 m91) s9 (r13.from0 m91) s14 (r18.from0 m91) s19 (r23.from0 m91) s24 (r28.from0 m91) s29))
 rintro _ w6 ⟨k93, rfl⟩
 m% m94 m91 k93
 pu% (vb (!(F_spec_ChanOk x_c)))
 mv% (vb (!(F_spec_ChanOk x_c)))
 rcases bf (F_spec_ChanOk x_c) with h95 | h95
 ·sn% h95
  sn% h95
  sn% h95
  refine pk (vb true) wN (congrArg not h95) ?_
  mv% (vb true)
  st%
  st%
  st%
  refine pk (vb true) wN (Eq.refl true) ?_
  mv% (vb true)
  st%
  st%
  st%
  st%
  st%
  st%
  refine pk (vb true) wN (Eq.refl true) ?_
  n2%
  ct% (Eq.refl true)
  sr%
  have b263 := (b89.kp k93)
  refine lN (L_38 (F_spec_l14Copy x_c) a50 c51 a55 c56 a60 c61 a65 c66 a70 c71 a75 c76) wN isAgg_38 sizeOf_38 b263 ?_
  have b264 := ((((b46.kp k49).kp k85).ch k88 (Nat.ne_of_lt (Nat.lt_of_lt_of_le p44 (Nat.le_trans k49.size p83)))).kp k93)
  sv% (L_38 (F_spec_l14Copy x_c) a50 c51 a55 c56 a60 c61 a65 c66 a70 c71 a75 c76) sizeOf_38 b264
  intro w7 k265 b266 z267
  have m268 := m94.ext k265 (fun k hk => by subst hk; exact Nat.le_trans k39.size p43)
  ag% (vi 6)
  n1%
  have o269 := (own_ch (own_kp (own_ch (own_kp o52 k85) k88 (e2% o52 (Nat.le_trans (Nat.le_refl w3.heap.size) p83))) k93) k265 (e1% o52 (Nat.lt_of_lt_of_le p44 (Nat.le_refl w2.heap.size))))
  have o270 := (own_ch (own_kp (own_ch (own_kp o57 k85) k88 (e2% o57 (Nat.le_trans (Nat.le_refl w3.heap.size) p83))) k93) k265 (e1% o57 (Nat.lt_of_lt_of_le p44 (Nat.le_refl w2.heap.size))))
  have o271 := (own_ch (own_kp (own_ch (own_kp o62 k85) k88 (e2% o62 (Nat.le_trans (Nat.le_refl w3.heap.size) p83))) k93) k265 (e1% o62 (Nat.lt_of_lt_of_le p44 (Nat.le_refl w2.heap.size))))
  have o272 := (own_ch (own_kp (own_ch (own_kp o67 k85) k88 (e2% o67 (Nat.le_trans (Nat.le_refl w3.heap.size) p83))) k93) k265 (e1% o67 (Nat.lt_of_lt_of_le p44 (Nat.le_refl w2.heap.size))))
  have o273 := (own_ch (own_kp (own_ch (own_kp o72 k85) k88 (e2% o72 (Nat.le_trans (Nat.le_refl w3.heap.size) p83))) k93) k265 (e1% o72 (Nat.lt_of_lt_of_le p44 (Nat.le_refl w2.heap.size))))
  have o274 := (own_ch (own_kp (own_ch (own_kp o77 k85) k88 (e2% o77 (Nat.le_trans (Nat.le_refl w3.heap.size) p83))) k93) k265 (e1% o77 (Nat.lt_of_lt_of_le p44 (Nat.le_refl w2.heap.size))))
  refine ret_2 (.inl rfl) (va (L_38 (F_spec_l14Copy x_c) a50 c51 a55 c56 a60 c61 a65 c66 a70 c71 a75 c76)) (vi 6) rfl (rv_c [(vi ((F_spec_l14Copy x_c).Role)), (vs a50 ((F_spec_l14Copy x_c).Sn).length c51), (vi (((F_spec_l14Copy x_c).Cur).N)), (vs a55 (((F_spec_l14Copy x_c).Cur).Key).length c56), (vi (((F_spec_l14Copy x_c).Cur).Seq)), (vi ((((F_spec_l14Copy x_c).Cur).Win).Top)), (vs a60 ((((F_spec_l14Copy x_c).Cur).Win).Bits).length c61), (vi (((F_spec_l14Copy x_c).Old).N)), (vs a65 (((F_spec_l14Copy x_c).Old).Key).length c66), (vi (((F_spec_l14Copy x_c).Old).Seq)), (vi ((((F_spec_l14Copy x_c).Old).Win).Top)), (vs a70 ((((F_spec_l14Copy x_c).Old).Win).Bits).length c71), (vb ((F_spec_l14Copy x_c).HasOld)), (vi ((F_spec_l14Copy x_c).Until)), (vs a75 ((F_spec_l14Copy x_c).Next).length c76)] rfl b266 isAgg_38 sizeOf_38) rfl ?_
  kp% m268
  have hF275 : F_spec_HearRekey x_c x_under x_plain = ((F_spec_l14Copy x_c), 6) := by simp only [F_spec_HearRekey, h95, cond_true, cond_false]
  rw [hF275]
  exact ⟨_, _, _, _, _, _, _, _, _, _, _, _, rfl, (own_lo o269 (Nat.le_trans k39.size k45.size)), s53, (own_lo o270 (Nat.le_trans k39.size k45.size)), s58, (own_lo o271 (Nat.le_trans k39.size k45.size)), s63, (own_lo o272 (Nat.le_trans k39.size k45.size)), s68, (own_lo o273 (Nat.le_trans k39.size k45.size)), s73, (own_lo o274 (Nat.le_trans k39.size k45.size)), s78, ⟨⟨(ap80.1.1), ⟨(ap80.1.2.1), ⟨(ap80.1.2.2.1), ⟨(ap80.1.2.2.2.1), ⟨(ap80.1.2.2.2.2.1), trivial⟩⟩⟩⟩⟩, ⟨⟨(ap80.2.1.1), ⟨(ap80.2.1.2.1), ⟨(ap80.2.1.2.2.1), ⟨(ap80.2.1.2.2.2.1), trivial⟩⟩⟩⟩, ⟨⟨(ap80.2.2.1.1), ⟨(ap80.2.2.1.2.1), ⟨(ap80.2.2.1.2.2.1), trivial⟩⟩⟩, ⟨⟨(ap80.2.2.2.1.1), ⟨(ap80.2.2.2.1.2.1), trivial⟩⟩, ⟨⟨(ap80.2.2.2.2.1.1), trivial⟩, ⟨trivial, trivial⟩⟩⟩⟩⟩⟩⟩
 have q96 := spec_ChanOk_t h95
 refine pu (vp g36 0) (wS (congrArg not h95)) ?_
 have b97 := (b92.kp k93)
 refine ld (vi x_c.Role) (wS (congrArg not h95)) isAgg_3 b97 ?_
 refine pu (vb (!(decide (x_c.Role = 1)))) (wS (congrArg not h95)) ?_
 refine pf (vb (!(decide (x_c.Role = 1)))) wN (congrArg not h95) ?_
 mv% (vb (!(decide (x_c.Role = 1))))
 rcases bf (decide (x_c.Role = 1)) with h98 | h98
 ·df% q248 h98
  sn% h98
  sn% h98
  sn% h98
  refine pk (vb true) wN (congrArg not h98) ?_
  mv% (vb true)
  st%
  st%
  st%
  st%
  st%
  st%
  refine pk (vb true) wN (Eq.refl true) ?_
  n2%
  ct% (Eq.refl true)
  sr%
  have b249 := (b89.kp k93)
  refine lN (L_38 (F_spec_l14Copy x_c) a50 c51 a55 c56 a60 c61 a65 c66 a70 c71 a75 c76) wN isAgg_38 sizeOf_38 b249 ?_
  have b250 := ((((b46.kp k49).kp k85).ch k88 (Nat.ne_of_lt (Nat.lt_of_lt_of_le p44 (Nat.le_trans k49.size p83)))).kp k93)
  sv% (L_38 (F_spec_l14Copy x_c) a50 c51 a55 c56 a60 c61 a65 c66 a70 c71 a75 c76) sizeOf_38 b250
  intro w7 k251 b252 z253
  have m254 := m94.ext k251 (fun k hk => by subst hk; exact Nat.le_trans k39.size p43)
  ag% (vi 6)
  n1%
  have o255 := (own_ch (own_kp (own_ch (own_kp o52 k85) k88 (e2% o52 (Nat.le_trans (Nat.le_refl w3.heap.size) p83))) k93) k251 (e1% o52 (Nat.lt_of_lt_of_le p44 (Nat.le_refl w2.heap.size))))
  have o256 := (own_ch (own_kp (own_ch (own_kp o57 k85) k88 (e2% o57 (Nat.le_trans (Nat.le_refl w3.heap.size) p83))) k93) k251 (e1% o57 (Nat.lt_of_lt_of_le p44 (Nat.le_refl w2.heap.size))))
  have o257 := (own_ch (own_kp (own_ch (own_kp o62 k85) k88 (e2% o62 (Nat.le_trans (Nat.le_refl w3.heap.size) p83))) k93) k251 (e1% o62 (Nat.lt_of_lt_of_le p44 (Nat.le_refl w2.heap.size))))
  have o258 := (own_ch (own_kp (own_ch (own_kp o67 k85) k88 (e2% o67 (Nat.le_trans (Nat.le_refl w3.heap.size) p83))) k93) k251 (e1% o67 (Nat.lt_of_lt_of_le p44 (Nat.le_refl w2.heap.size))))
  have o259 := (own_ch (own_kp (own_ch (own_kp o72 k85) k88 (e2% o72 (Nat.le_trans (Nat.le_refl w3.heap.size) p83))) k93) k251 (e1% o72 (Nat.lt_of_lt_of_le p44 (Nat.le_refl w2.heap.size))))
  have o260 := (own_ch (own_kp (own_ch (own_kp o77 k85) k88 (e2% o77 (Nat.le_trans (Nat.le_refl w3.heap.size) p83))) k93) k251 (e1% o77 (Nat.lt_of_lt_of_le p44 (Nat.le_refl w2.heap.size))))
  refine ret_2 (.inl rfl) (va (L_38 (F_spec_l14Copy x_c) a50 c51 a55 c56 a60 c61 a65 c66 a70 c71 a75 c76)) (vi 6) rfl (rv_c [(vi ((F_spec_l14Copy x_c).Role)), (vs a50 ((F_spec_l14Copy x_c).Sn).length c51), (vi (((F_spec_l14Copy x_c).Cur).N)), (vs a55 (((F_spec_l14Copy x_c).Cur).Key).length c56), (vi (((F_spec_l14Copy x_c).Cur).Seq)), (vi ((((F_spec_l14Copy x_c).Cur).Win).Top)), (vs a60 ((((F_spec_l14Copy x_c).Cur).Win).Bits).length c61), (vi (((F_spec_l14Copy x_c).Old).N)), (vs a65 (((F_spec_l14Copy x_c).Old).Key).length c66), (vi (((F_spec_l14Copy x_c).Old).Seq)), (vi ((((F_spec_l14Copy x_c).Old).Win).Top)), (vs a70 ((((F_spec_l14Copy x_c).Old).Win).Bits).length c71), (vb ((F_spec_l14Copy x_c).HasOld)), (vi ((F_spec_l14Copy x_c).Until)), (vs a75 ((F_spec_l14Copy x_c).Next).length c76)] rfl b252 isAgg_38 sizeOf_38) rfl ?_
  kp% m254
  have hF261 : F_spec_HearRekey x_c x_under x_plain = ((F_spec_l14Copy x_c), 6) := by simp only [F_spec_HearRekey, h95, h98, cond_true, cond_false]
  rw [hF261]
  exact ⟨_, _, _, _, _, _, _, _, _, _, _, _, rfl, (own_lo o255 (Nat.le_trans k39.size k45.size)), s53, (own_lo o256 (Nat.le_trans k39.size k45.size)), s58, (own_lo o257 (Nat.le_trans k39.size k45.size)), s63, (own_lo o258 (Nat.le_trans k39.size k45.size)), s68, (own_lo o259 (Nat.le_trans k39.size k45.size)), s73, (own_lo o260 (Nat.le_trans k39.size k45.size)), s78, ⟨⟨(ap80.1.1), ⟨(ap80.1.2.1), ⟨(ap80.1.2.2.1), ⟨(ap80.1.2.2.2.1), ⟨(ap80.1.2.2.2.2.1), trivial⟩⟩⟩⟩⟩, ⟨⟨(ap80.2.1.1), ⟨(ap80.2.1.2.1), ⟨(ap80.2.1.2.2.1), ⟨(ap80.2.1.2.2.2.1), trivial⟩⟩⟩⟩, ⟨⟨(ap80.2.2.1.1), ⟨(ap80.2.2.1.2.1), ⟨(ap80.2.2.1.2.2.1), trivial⟩⟩⟩, ⟨⟨(ap80.2.2.2.1.1), ⟨(ap80.2.2.2.1.2.1), trivial⟩⟩, ⟨⟨(ap80.2.2.2.2.1.1), trivial⟩, ⟨trivial, trivial⟩⟩⟩⟩⟩⟩⟩
 dt% q99 h98
 refine mv (vi x_under) (wS (congrArg not h98)) ?_
 refine cl (wS (congrArg not h98)) (C_spec_l1In w6 x_under 0 4294967294) ?_
 rintro _ w7 ⟨k100, rfl⟩
 m% m101 m94 k100
 refine pu (vb (!(F_spec_l1In x_under 0 4294967294))) (wS (congrArg not h98)) ?_
 refine pf (vb (!(F_spec_l1In x_under 0 4294967294))) wN (congrArg not h98) ?_
 mv% (vb (!(F_spec_l1In x_under 0 4294967294)))
 rcases bf (F_spec_l1In x_under 0 4294967294) with h102 | h102
 ·have q234 := spec_l1In_f h102
  sn% h102
  sn% h102
  sn% h102
  sn% h102
  sn% h102
  sn% h102
  refine pk (vb true) wN (congrArg not h102) ?_
  n2%
  ct% (Eq.refl true)
  sr%
  have b235 := ((b89.kp k93).kp k100)
  refine lN (L_38 (F_spec_l14Copy x_c) a50 c51 a55 c56 a60 c61 a65 c66 a70 c71 a75 c76) wN isAgg_38 sizeOf_38 b235 ?_
  have b236 := (((((b46.kp k49).kp k85).ch k88 (Nat.ne_of_lt (Nat.lt_of_lt_of_le p44 (Nat.le_trans k49.size p83)))).kp k93).kp k100)
  sv% (L_38 (F_spec_l14Copy x_c) a50 c51 a55 c56 a60 c61 a65 c66 a70 c71 a75 c76) sizeOf_38 b236
  intro w8 k237 b238 z239
  have m240 := m101.ext k237 (fun k hk => by subst hk; exact Nat.le_trans k39.size p43)
  ag% (vi 6)
  n1%
  have o241 := (own_ch (own_kp (own_kp (own_ch (own_kp o52 k85) k88 (e2% o52 (Nat.le_trans (Nat.le_refl w3.heap.size) p83))) k93) k100) k237 (e1% o52 (Nat.lt_of_lt_of_le p44 (Nat.le_refl w2.heap.size))))
  have o242 := (own_ch (own_kp (own_kp (own_ch (own_kp o57 k85) k88 (e2% o57 (Nat.le_trans (Nat.le_refl w3.heap.size) p83))) k93) k100) k237 (e1% o57 (Nat.lt_of_lt_of_le p44 (Nat.le_refl w2.heap.size))))
  have o243 := (own_ch (own_kp (own_kp (own_ch (own_kp o62 k85) k88 (e2% o62 (Nat.le_trans (Nat.le_refl w3.heap.size) p83))) k93) k100) k237 (e1% o62 (Nat.lt_of_lt_of_le p44 (Nat.le_refl w2.heap.size))))
  have o244 := (own_ch (own_kp (own_kp (own_ch (own_kp o67 k85) k88 (e2% o67 (Nat.le_trans (Nat.le_refl w3.heap.size) p83))) k93) k100) k237 (e1% o67 (Nat.lt_of_lt_of_le p44 (Nat.le_refl w2.heap.size))))
  have o245 := (own_ch (own_kp (own_kp (own_ch (own_kp o72 k85) k88 (e2% o72 (Nat.le_trans (Nat.le_refl w3.heap.size) p83))) k93) k100) k237 (e1% o72 (Nat.lt_of_lt_of_le p44 (Nat.le_refl w2.heap.size))))
  have o246 := (own_ch (own_kp (own_kp (own_ch (own_kp o77 k85) k88 (e2% o77 (Nat.le_trans (Nat.le_refl w3.heap.size) p83))) k93) k100) k237 (e1% o77 (Nat.lt_of_lt_of_le p44 (Nat.le_refl w2.heap.size))))
  refine ret_2 (.inl rfl) (va (L_38 (F_spec_l14Copy x_c) a50 c51 a55 c56 a60 c61 a65 c66 a70 c71 a75 c76)) (vi 6) rfl (rv_c [(vi ((F_spec_l14Copy x_c).Role)), (vs a50 ((F_spec_l14Copy x_c).Sn).length c51), (vi (((F_spec_l14Copy x_c).Cur).N)), (vs a55 (((F_spec_l14Copy x_c).Cur).Key).length c56), (vi (((F_spec_l14Copy x_c).Cur).Seq)), (vi ((((F_spec_l14Copy x_c).Cur).Win).Top)), (vs a60 ((((F_spec_l14Copy x_c).Cur).Win).Bits).length c61), (vi (((F_spec_l14Copy x_c).Old).N)), (vs a65 (((F_spec_l14Copy x_c).Old).Key).length c66), (vi (((F_spec_l14Copy x_c).Old).Seq)), (vi ((((F_spec_l14Copy x_c).Old).Win).Top)), (vs a70 ((((F_spec_l14Copy x_c).Old).Win).Bits).length c71), (vb ((F_spec_l14Copy x_c).HasOld)), (vi ((F_spec_l14Copy x_c).Until)), (vs a75 ((F_spec_l14Copy x_c).Next).length c76)] rfl b238 isAgg_38 sizeOf_38) rfl ?_
  kp% m240
  have hF247 : F_spec_HearRekey x_c x_under x_plain = ((F_spec_l14Copy x_c), 6) := by simp only [F_spec_HearRekey, h95, h98, h102, cond_true, cond_false]
  rw [hF247]
  exact ⟨_, _, _, _, _, _, _, _, _, _, _, _, rfl, (own_lo o241 (Nat.le_trans k39.size k45.size)), s53, (own_lo o242 (Nat.le_trans k39.size k45.size)), s58, (own_lo o243 (Nat.le_trans k39.size k45.size)), s63, (own_lo o244 (Nat.le_trans k39.size k45.size)), s68, (own_lo o245 (Nat.le_trans k39.size k45.size)), s73, (own_lo o246 (Nat.le_trans k39.size k45.size)), s78, ⟨⟨(ap80.1.1), ⟨(ap80.1.2.1), ⟨(ap80.1.2.2.1), ⟨(ap80.1.2.2.2.1), ⟨(ap80.1.2.2.2.2.1), trivial⟩⟩⟩⟩⟩, ⟨⟨(ap80.2.1.1), ⟨(ap80.2.1.2.1), ⟨(ap80.2.1.2.2.1), ⟨(ap80.2.1.2.2.2.1), trivial⟩⟩⟩⟩, ⟨⟨(ap80.2.2.1.1), ⟨(ap80.2.2.1.2.1), ⟨(ap80.2.2.1.2.2.1), trivial⟩⟩⟩, ⟨⟨(ap80.2.2.2.1.1), ⟨(ap80.2.2.2.1.2.1), trivial⟩⟩, ⟨⟨(ap80.2.2.2.2.1.1), trivial⟩, ⟨trivial, trivial⟩⟩⟩⟩⟩⟩⟩
 have q103 := spec_l1In_t h102
 refine mv (vs a31 x_plain.length c32) (wS (congrArg not h102)) ?_
 refine mv (vi x_under) (wS (congrArg not h102)) ?_
 refine ar (x_under + 1) (wS (congrArg not h102)) ?_
 refine cl (wS (congrArg not h102)) (C_spec_RekeyBody w7 (x_under + 1)) ?_
 rintro _ w8 ⟨k104, ⟨a105, c106, rfl, o107, s108, ap110⟩⟩
 m% m111 m101 k104
 refine cl (wS (congrArg not h102)) (C_spec_l1Same w8 _ x_plain (mR_22 (r33.from0 m111) s34) _ (F_spec_RekeyBody (x_under + 1)) (mR_22 (Rd.of_own o107) s108)) ?_
 rintro _ w9 ⟨k112, rfl⟩
 m% m113 m111 k112
 refine pu (vb (!(F_spec_l1Same x_plain (F_spec_RekeyBody (x_under + 1))))) (wS (congrArg not h102)) ?_
 refine pf (vb (!(F_spec_l1Same x_plain (F_spec_RekeyBody (x_under + 1))))) wN (congrArg not h102) ?_
 n2%
 rcases bf (F_spec_l1Same x_plain (F_spec_RekeyBody (x_under + 1))) with h114 | h114
 ·ct% (congrArg not h114)
  sr%
  have b221 := ((((b89.kp k93).kp k100).kp k104).kp k112)
  refine lN (L_38 (F_spec_l14Copy x_c) a50 c51 a55 c56 a60 c61 a65 c66 a70 c71 a75 c76) wN isAgg_38 sizeOf_38 b221 ?_
  have b222 := (((((((b46.kp k49).kp k85).ch k88 (Nat.ne_of_lt (Nat.lt_of_lt_of_le p44 (Nat.le_trans k49.size p83)))).kp k93).kp k100).kp k104).kp k112)
  sv% (L_38 (F_spec_l14Copy x_c) a50 c51 a55 c56 a60 c61 a65 c66 a70 c71 a75 c76) sizeOf_38 b222
  intro w10 k223 b224 z225
  have m226 := m113.ext k223 (fun k hk => by subst hk; exact Nat.le_trans k39.size p43)
  ag% (vi 6)
  n1%
  have o227 := (own_ch (own_kp (own_kp (own_kp (own_kp (own_ch (own_kp o52 k85) k88 (e2% o52 (Nat.le_trans (Nat.le_refl w3.heap.size) p83))) k93) k100) k104) k112) k223 (e1% o52 (Nat.lt_of_lt_of_le p44 (Nat.le_refl w2.heap.size))))
  have o228 := (own_ch (own_kp (own_kp (own_kp (own_kp (own_ch (own_kp o57 k85) k88 (e2% o57 (Nat.le_trans (Nat.le_refl w3.heap.size) p83))) k93) k100) k104) k112) k223 (e1% o57 (Nat.lt_of_lt_of_le p44 (Nat.le_refl w2.heap.size))))
  have o229 := (own_ch (own_kp (own_kp (own_kp (own_kp (own_ch (own_kp o62 k85) k88 (e2% o62 (Nat.le_trans (Nat.le_refl w3.heap.size) p83))) k93) k100) k104) k112) k223 (e1% o62 (Nat.lt_of_lt_of_le p44 (Nat.le_refl w2.heap.size))))
  have o230 := (own_ch (own_kp (own_kp (own_kp (own_kp (own_ch (own_kp o67 k85) k88 (e2% o67 (Nat.le_trans (Nat.le_refl w3.heap.size) p83))) k93) k100) k104) k112) k223 (e1% o67 (Nat.lt_of_lt_of_le p44 (Nat.le_refl w2.heap.size))))
  have o231 := (own_ch (own_kp (own_kp (own_kp (own_kp (own_ch (own_kp o72 k85) k88 (e2% o72 (Nat.le_trans (Nat.le_refl w3.heap.size) p83))) k93) k100) k104) k112) k223 (e1% o72 (Nat.lt_of_lt_of_le p44 (Nat.le_refl w2.heap.size))))
  have o232 := (own_ch (own_kp (own_kp (own_kp (own_kp (own_ch (own_kp o77 k85) k88 (e2% o77 (Nat.le_trans (Nat.le_refl w3.heap.size) p83))) k93) k100) k104) k112) k223 (e1% o77 (Nat.lt_of_lt_of_le p44 (Nat.le_refl w2.heap.size))))
  refine ret_2 (.inl rfl) (va (L_38 (F_spec_l14Copy x_c) a50 c51 a55 c56 a60 c61 a65 c66 a70 c71 a75 c76)) (vi 6) rfl (rv_c [(vi ((F_spec_l14Copy x_c).Role)), (vs a50 ((F_spec_l14Copy x_c).Sn).length c51), (vi (((F_spec_l14Copy x_c).Cur).N)), (vs a55 (((F_spec_l14Copy x_c).Cur).Key).length c56), (vi (((F_spec_l14Copy x_c).Cur).Seq)), (vi ((((F_spec_l14Copy x_c).Cur).Win).Top)), (vs a60 ((((F_spec_l14Copy x_c).Cur).Win).Bits).length c61), (vi (((F_spec_l14Copy x_c).Old).N)), (vs a65 (((F_spec_l14Copy x_c).Old).Key).length c66), (vi (((F_spec_l14Copy x_c).Old).Seq)), (vi ((((F_spec_l14Copy x_c).Old).Win).Top)), (vs a70 ((((F_spec_l14Copy x_c).Old).Win).Bits).length c71), (vb ((F_spec_l14Copy x_c).HasOld)), (vi ((F_spec_l14Copy x_c).Until)), (vs a75 ((F_spec_l14Copy x_c).Next).length c76)] rfl b224 isAgg_38 sizeOf_38) rfl ?_
  kp% m226
  have hF233 : F_spec_HearRekey x_c x_under x_plain = ((F_spec_l14Copy x_c), 6) := by simp only [F_spec_HearRekey, h95, h98, h102, h114, cond_true, cond_false]
  rw [hF233]
  exact ⟨_, _, _, _, _, _, _, _, _, _, _, _, rfl, (own_lo o227 (Nat.le_trans k39.size k45.size)), s53, (own_lo o228 (Nat.le_trans k39.size k45.size)), s58, (own_lo o229 (Nat.le_trans k39.size k45.size)), s63, (own_lo o230 (Nat.le_trans k39.size k45.size)), s68, (own_lo o231 (Nat.le_trans k39.size k45.size)), s73, (own_lo o232 (Nat.le_trans k39.size k45.size)), s78, ⟨⟨(ap80.1.1), ⟨(ap80.1.2.1), ⟨(ap80.1.2.2.1), ⟨(ap80.1.2.2.2.1), ⟨(ap80.1.2.2.2.2.1), trivial⟩⟩⟩⟩⟩, ⟨⟨(ap80.2.1.1), ⟨(ap80.2.1.2.1), ⟨(ap80.2.1.2.2.1), ⟨(ap80.2.1.2.2.2.1), trivial⟩⟩⟩⟩, ⟨⟨(ap80.2.2.1.1), ⟨(ap80.2.2.1.2.1), ⟨(ap80.2.2.1.2.2.1), trivial⟩⟩⟩, ⟨⟨(ap80.2.2.2.1.1), ⟨(ap80.2.2.2.1.2.1), trivial⟩⟩, ⟨⟨(ap80.2.2.2.2.1.1), trivial⟩, ⟨trivial, trivial⟩⟩⟩⟩⟩⟩⟩
 cf% (congrArg not h114)
 z2%
 mv% (vi x_under)
 pu% (vp g36 2)
 pu% (vp g36 2)
 have b116 := (((b97.kp k100).kp k104).kp k112)
 refine ld (vi x_c.Cur.N) wN isAgg_3 b116 ?_
 pu% (vb (decide (x_under = x_c.Cur.N)))
 n2%
 rcases bf (decide (x_under = x_c.Cur.N)) with h117 | h117
 ·df% q190 h117
  cf% h117
  z2%
  mv% (vi x_under)
  pu% (vp g36 2)
  pu% (vp g36 2)
  refine ld (vi x_c.Cur.N) wN isAgg_3 b116 ?_
  refine ar (x_c.Cur.N - 1) wN ?_
  pu% (vb (decide (x_under = (x_c.Cur.N - 1))))
  n2%
  rcases bt (decide (x_under = (x_c.Cur.N - 1))) with h191 | h191
  ·dt% q192 h191
   ct% h191
   sr%
   have b193 := ((((b89.kp k93).kp k100).kp k104).kp k112)
   refine lN (L_38 (F_spec_l14Copy x_c) a50 c51 a55 c56 a60 c61 a65 c66 a70 c71 a75 c76) wN isAgg_38 sizeOf_38 b193 ?_
   have b194 := (((((((b46.kp k49).kp k85).ch k88 (Nat.ne_of_lt (Nat.lt_of_lt_of_le p44 (Nat.le_trans k49.size p83)))).kp k93).kp k100).kp k104).kp k112)
   sv% (L_38 (F_spec_l14Copy x_c) a50 c51 a55 c56 a60 c61 a65 c66 a70 c71 a75 c76) sizeOf_38 b194
   intro w10 k195 b196 z197
   have m198 := m113.ext k195 (fun k hk => by subst hk; exact Nat.le_trans k39.size p43)
   ag% (vi 0)
   n1%
   have o199 := (own_ch (own_kp (own_kp (own_kp (own_kp (own_ch (own_kp o52 k85) k88 (e2% o52 (Nat.le_trans (Nat.le_refl w3.heap.size) p83))) k93) k100) k104) k112) k195 (e1% o52 (Nat.lt_of_lt_of_le p44 (Nat.le_refl w2.heap.size))))
   have o200 := (own_ch (own_kp (own_kp (own_kp (own_kp (own_ch (own_kp o57 k85) k88 (e2% o57 (Nat.le_trans (Nat.le_refl w3.heap.size) p83))) k93) k100) k104) k112) k195 (e1% o57 (Nat.lt_of_lt_of_le p44 (Nat.le_refl w2.heap.size))))
   have o201 := (own_ch (own_kp (own_kp (own_kp (own_kp (own_ch (own_kp o62 k85) k88 (e2% o62 (Nat.le_trans (Nat.le_refl w3.heap.size) p83))) k93) k100) k104) k112) k195 (e1% o62 (Nat.lt_of_lt_of_le p44 (Nat.le_refl w2.heap.size))))
   have o202 := (own_ch (own_kp (own_kp (own_kp (own_kp (own_ch (own_kp o67 k85) k88 (e2% o67 (Nat.le_trans (Nat.le_refl w3.heap.size) p83))) k93) k100) k104) k112) k195 (e1% o67 (Nat.lt_of_lt_of_le p44 (Nat.le_refl w2.heap.size))))
   have o203 := (own_ch (own_kp (own_kp (own_kp (own_kp (own_ch (own_kp o72 k85) k88 (e2% o72 (Nat.le_trans (Nat.le_refl w3.heap.size) p83))) k93) k100) k104) k112) k195 (e1% o72 (Nat.lt_of_lt_of_le p44 (Nat.le_refl w2.heap.size))))
   have o204 := (own_ch (own_kp (own_kp (own_kp (own_kp (own_ch (own_kp o77 k85) k88 (e2% o77 (Nat.le_trans (Nat.le_refl w3.heap.size) p83))) k93) k100) k104) k112) k195 (e1% o77 (Nat.lt_of_lt_of_le p44 (Nat.le_refl w2.heap.size))))
   refine ret_2 (.inl rfl) (va (L_38 (F_spec_l14Copy x_c) a50 c51 a55 c56 a60 c61 a65 c66 a70 c71 a75 c76)) (vi 0) rfl (rv_c [(vi ((F_spec_l14Copy x_c).Role)), (vs a50 ((F_spec_l14Copy x_c).Sn).length c51), (vi (((F_spec_l14Copy x_c).Cur).N)), (vs a55 (((F_spec_l14Copy x_c).Cur).Key).length c56), (vi (((F_spec_l14Copy x_c).Cur).Seq)), (vi ((((F_spec_l14Copy x_c).Cur).Win).Top)), (vs a60 ((((F_spec_l14Copy x_c).Cur).Win).Bits).length c61), (vi (((F_spec_l14Copy x_c).Old).N)), (vs a65 (((F_spec_l14Copy x_c).Old).Key).length c66), (vi (((F_spec_l14Copy x_c).Old).Seq)), (vi ((((F_spec_l14Copy x_c).Old).Win).Top)), (vs a70 ((((F_spec_l14Copy x_c).Old).Win).Bits).length c71), (vb ((F_spec_l14Copy x_c).HasOld)), (vi ((F_spec_l14Copy x_c).Until)), (vs a75 ((F_spec_l14Copy x_c).Next).length c76)] rfl b196 isAgg_38 sizeOf_38) rfl ?_
   kp% m198
   have hF205 : F_spec_HearRekey x_c x_under x_plain = ((F_spec_l14Copy x_c), 0) := by simp only [F_spec_HearRekey, h95, h98, h102, h114, h117, h191, cond_true, cond_false]
   rw [hF205]
   exact ⟨_, _, _, _, _, _, _, _, _, _, _, _, rfl, (own_lo o199 (Nat.le_trans k39.size k45.size)), s53, (own_lo o200 (Nat.le_trans k39.size k45.size)), s58, (own_lo o201 (Nat.le_trans k39.size k45.size)), s63, (own_lo o202 (Nat.le_trans k39.size k45.size)), s68, (own_lo o203 (Nat.le_trans k39.size k45.size)), s73, (own_lo o204 (Nat.le_trans k39.size k45.size)), s78, ⟨⟨(ap80.1.1), ⟨(ap80.1.2.1), ⟨(ap80.1.2.2.1), ⟨(ap80.1.2.2.2.1), ⟨(ap80.1.2.2.2.2.1), trivial⟩⟩⟩⟩⟩, ⟨⟨(ap80.2.1.1), ⟨(ap80.2.1.2.1), ⟨(ap80.2.1.2.2.1), ⟨(ap80.2.1.2.2.2.1), trivial⟩⟩⟩⟩, ⟨⟨(ap80.2.2.1.1), ⟨(ap80.2.2.1.2.1), ⟨(ap80.2.2.1.2.2.1), trivial⟩⟩⟩, ⟨⟨(ap80.2.2.2.1.1), ⟨(ap80.2.2.2.1.2.1), trivial⟩⟩, ⟨⟨(ap80.2.2.2.2.1.1), trivial⟩, ⟨trivial, trivial⟩⟩⟩⟩⟩⟩⟩
  df% q206 h191
  cf% h191
  z1%
  have b207 := ((((b89.kp k93).kp k100).kp k104).kp k112)
  refine lN (L_38 (F_spec_l14Copy x_c) a50 c51 a55 c56 a60 c61 a65 c66 a70 c71 a75 c76) wN isAgg_38 sizeOf_38 b207 ?_
  have b208 := (((((((b46.kp k49).kp k85).ch k88 (Nat.ne_of_lt (Nat.lt_of_lt_of_le p44 (Nat.le_trans k49.size p83)))).kp k93).kp k100).kp k104).kp k112)
  sv% (L_38 (F_spec_l14Copy x_c) a50 c51 a55 c56 a60 c61 a65 c66 a70 c71 a75 c76) sizeOf_38 b208
  intro w10 k209 b210 z211
  have m212 := m113.ext k209 (fun k hk => by subst hk; exact Nat.le_trans k39.size p43)
  ag% (vi 6)
  n3%
  have o213 := (own_ch (own_kp (own_kp (own_kp (own_kp (own_ch (own_kp o52 k85) k88 (e2% o52 (Nat.le_trans (Nat.le_refl w3.heap.size) p83))) k93) k100) k104) k112) k209 (e1% o52 (Nat.lt_of_lt_of_le p44 (Nat.le_refl w2.heap.size))))
  have o214 := (own_ch (own_kp (own_kp (own_kp (own_kp (own_ch (own_kp o57 k85) k88 (e2% o57 (Nat.le_trans (Nat.le_refl w3.heap.size) p83))) k93) k100) k104) k112) k209 (e1% o57 (Nat.lt_of_lt_of_le p44 (Nat.le_refl w2.heap.size))))
  have o215 := (own_ch (own_kp (own_kp (own_kp (own_kp (own_ch (own_kp o62 k85) k88 (e2% o62 (Nat.le_trans (Nat.le_refl w3.heap.size) p83))) k93) k100) k104) k112) k209 (e1% o62 (Nat.lt_of_lt_of_le p44 (Nat.le_refl w2.heap.size))))
  have o216 := (own_ch (own_kp (own_kp (own_kp (own_kp (own_ch (own_kp o67 k85) k88 (e2% o67 (Nat.le_trans (Nat.le_refl w3.heap.size) p83))) k93) k100) k104) k112) k209 (e1% o67 (Nat.lt_of_lt_of_le p44 (Nat.le_refl w2.heap.size))))
  have o217 := (own_ch (own_kp (own_kp (own_kp (own_kp (own_ch (own_kp o72 k85) k88 (e2% o72 (Nat.le_trans (Nat.le_refl w3.heap.size) p83))) k93) k100) k104) k112) k209 (e1% o72 (Nat.lt_of_lt_of_le p44 (Nat.le_refl w2.heap.size))))
  have o218 := (own_ch (own_kp (own_kp (own_kp (own_kp (own_ch (own_kp o77 k85) k88 (e2% o77 (Nat.le_trans (Nat.le_refl w3.heap.size) p83))) k93) k100) k104) k112) k209 (e1% o77 (Nat.lt_of_lt_of_le p44 (Nat.le_refl w2.heap.size))))
  refine ret_2 (.inl rfl) (va (L_38 (F_spec_l14Copy x_c) a50 c51 a55 c56 a60 c61 a65 c66 a70 c71 a75 c76)) (vi 6) rfl (rv_c [(vi ((F_spec_l14Copy x_c).Role)), (vs a50 ((F_spec_l14Copy x_c).Sn).length c51), (vi (((F_spec_l14Copy x_c).Cur).N)), (vs a55 (((F_spec_l14Copy x_c).Cur).Key).length c56), (vi (((F_spec_l14Copy x_c).Cur).Seq)), (vi ((((F_spec_l14Copy x_c).Cur).Win).Top)), (vs a60 ((((F_spec_l14Copy x_c).Cur).Win).Bits).length c61), (vi (((F_spec_l14Copy x_c).Old).N)), (vs a65 (((F_spec_l14Copy x_c).Old).Key).length c66), (vi (((F_spec_l14Copy x_c).Old).Seq)), (vi ((((F_spec_l14Copy x_c).Old).Win).Top)), (vs a70 ((((F_spec_l14Copy x_c).Old).Win).Bits).length c71), (vb ((F_spec_l14Copy x_c).HasOld)), (vi ((F_spec_l14Copy x_c).Until)), (vs a75 ((F_spec_l14Copy x_c).Next).length c76)] rfl b210 isAgg_38 sizeOf_38) rfl ?_
  kp% m212
  have hF219 : F_spec_HearRekey x_c x_under x_plain = ((F_spec_l14Copy x_c), 6) := by simp only [F_spec_HearRekey, h95, h98, h102, h114, h117, h191, cond_true, cond_false]
  rw [hF219]
  exact ⟨_, _, _, _, _, _, _, _, _, _, _, _, rfl, (own_lo o213 (Nat.le_trans k39.size k45.size)), s53, (own_lo o214 (Nat.le_trans k39.size k45.size)), s58, (own_lo o215 (Nat.le_trans k39.size k45.size)), s63, (own_lo o216 (Nat.le_trans k39.size k45.size)), s68, (own_lo o217 (Nat.le_trans k39.size k45.size)), s73, (own_lo o218 (Nat.le_trans k39.size k45.size)), s78, ⟨⟨(ap80.1.1), ⟨(ap80.1.2.1), ⟨(ap80.1.2.2.1), ⟨(ap80.1.2.2.2.1), ⟨(ap80.1.2.2.2.2.1), trivial⟩⟩⟩⟩⟩, ⟨⟨(ap80.2.1.1), ⟨(ap80.2.1.2.1), ⟨(ap80.2.1.2.2.1), ⟨(ap80.2.1.2.2.2.1), trivial⟩⟩⟩⟩, ⟨⟨(ap80.2.2.1.1), ⟨(ap80.2.2.1.2.1), ⟨(ap80.2.2.1.2.2.1), trivial⟩⟩⟩, ⟨⟨(ap80.2.2.2.1.1), ⟨(ap80.2.2.2.1.2.1), trivial⟩⟩, ⟨⟨(ap80.2.2.2.2.1.1), trivial⟩, ⟨trivial, trivial⟩⟩⟩⟩⟩⟩⟩
 dt% q118 h117
 ct% h117
 sr%
 refine lN (L_38 x_c a1 c2 a6 c7 a11 c12 a16 c17 a21 c22 a26 c27) wN isAgg_38 sizeOf_38 b116 ?_
 cl% (C_spec_Turn w9 _ x_c (mR_38 (r3.from0 m113) s4 (r8.from0 m113) s9 (r13.from0 m113) s14 (r18.from0 m113) s19 (r23.from0 m113) s24 (r28.from0 m113) s29))
 rintro _ w10 ⟨k119, ⟨a120, c121, a125, c126, a130, c131, a135, c136, a140, c141, a145, c146, rfl, o122, s123, o127, s128, o132, s133, o137, s138, o142, s143, o147, s148, ap150⟩⟩
 m% m151 m113 k119
 mv% (.tuple #[(va (L_38 ((F_spec_Turn x_c).1) a120 c121 a125 c126 a130 c131 a135 c136 a140 c141 a145 c146)), (vb ((F_spec_Turn x_c).2))])
 pu% (va (L_38 ((F_spec_Turn x_c).1) a120 c121 a125 c126 a130 c131 a135 c136 a140 c141 a145 c146))
 pu% (vb ((F_spec_Turn x_c).2))
 refine al [(vi 0), (vs none 0 0), (vi 0), (vs none 0 0), (vi 0), (vi 0), (vs none 0 0), (vi 0), (vs none 0 0), (vi 0), (vi 0), (vs none 0 0), (vb false), (vi 0), (vs none 0 0)] wN zero_38 ?_
 intro g152 w11 p153 p154 k155 b156
 m% m157 m151 k155
 sv% (L_38 ((F_spec_Turn x_c).1) a120 c121 a125 c126 a130 c131 a135 c136 a140 c141 a145 c146) sizeOf_38 b156
 intro w12 k158 b159 z160
 have m161 := m157.ext k158 (fun k hk => by subst hk; exact Nat.le_trans (z% k39 k45 k49 k85 k88 k93 k100 k104 k112 k119) p153)
 ag% (vb ((F_spec_Turn x_c).2))
 n4%
 mv% (vb ((F_spec_Turn x_c).2))
 pu% (vb (!((F_spec_Turn x_c).2)))
 n2%
 rcases bt ((F_spec_Turn x_c).2) with h162 | h162
 ·cf% (congrArg not h162)
  z1%
  refine lN (L_38 ((F_spec_Turn x_c).1) a120 c121 a125 c126 a130 c131 a135 c136 a140 c141 a145 c146) wN isAgg_38 sizeOf_38 b159 ?_
  have b164 := ((((((((((b46.kp k49).kp k85).ch k88 (Nat.ne_of_lt (Nat.lt_of_lt_of_le p44 (Nat.le_trans k49.size p83)))).kp k93).kp k100).kp k104).kp k112).kp k119).kp k155).ch k158 (Nat.ne_of_lt (Nat.lt_of_lt_of_le p44 (Nat.le_trans (z% k49 k85 k88 k93 k100 k104 k112 k119) p153))))
  sv% (L_38 ((F_spec_Turn x_c).1) a120 c121 a125 c126 a130 c131 a135 c136 a140 c141 a145 c146) sizeOf_38 b164
  intro w13 k165 b166 z167
  have m168 := m161.ext k165 (fun k hk => by subst hk; exact Nat.le_trans k39.size p43)
  ag% (vi 0)
  n1%
  have o169 := (own_ch (own_ch (own_kp o122 k155) k158 (e2% o122 (Nat.le_trans (Nat.le_refl w10.heap.size) p153))) k165 (e1% o122 (Nat.lt_of_lt_of_le p44 (z% k49 k85 k88 k93 k100 k104 k112))))
  have o170 := (own_ch (own_ch (own_kp o127 k155) k158 (e2% o127 (Nat.le_trans (Nat.le_refl w10.heap.size) p153))) k165 (e1% o127 (Nat.lt_of_lt_of_le p44 (z% k49 k85 k88 k93 k100 k104 k112))))
  have o171 := (own_ch (own_ch (own_kp o132 k155) k158 (e2% o132 (Nat.le_trans (Nat.le_refl w10.heap.size) p153))) k165 (e1% o132 (Nat.lt_of_lt_of_le p44 (z% k49 k85 k88 k93 k100 k104 k112))))
  have o172 := (own_ch (own_ch (own_kp o137 k155) k158 (e2% o137 (Nat.le_trans (Nat.le_refl w10.heap.size) p153))) k165 (e1% o137 (Nat.lt_of_lt_of_le p44 (z% k49 k85 k88 k93 k100 k104 k112))))
  have o173 := (own_ch (own_ch (own_kp o142 k155) k158 (e2% o142 (Nat.le_trans (Nat.le_refl w10.heap.size) p153))) k165 (e1% o142 (Nat.lt_of_lt_of_le p44 (z% k49 k85 k88 k93 k100 k104 k112))))
  have o174 := (own_ch (own_ch (own_kp o147 k155) k158 (e2% o147 (Nat.le_trans (Nat.le_refl w10.heap.size) p153))) k165 (e1% o147 (Nat.lt_of_lt_of_le p44 (z% k49 k85 k88 k93 k100 k104 k112))))
  refine ret_2 (.inl rfl) (va (L_38 ((F_spec_Turn x_c).1) a120 c121 a125 c126 a130 c131 a135 c136 a140 c141 a145 c146)) (vi 0) rfl (rv_c [(vi (((F_spec_Turn x_c).1).Role)), (vs a120 (((F_spec_Turn x_c).1).Sn).length c121), (vi ((((F_spec_Turn x_c).1).Cur).N)), (vs a125 ((((F_spec_Turn x_c).1).Cur).Key).length c126), (vi ((((F_spec_Turn x_c).1).Cur).Seq)), (vi (((((F_spec_Turn x_c).1).Cur).Win).Top)), (vs a130 (((((F_spec_Turn x_c).1).Cur).Win).Bits).length c131), (vi ((((F_spec_Turn x_c).1).Old).N)), (vs a135 ((((F_spec_Turn x_c).1).Old).Key).length c136), (vi ((((F_spec_Turn x_c).1).Old).Seq)), (vi (((((F_spec_Turn x_c).1).Old).Win).Top)), (vs a140 (((((F_spec_Turn x_c).1).Old).Win).Bits).length c141), (vb (((F_spec_Turn x_c).1).HasOld)), (vi (((F_spec_Turn x_c).1).Until)), (vs a145 (((F_spec_Turn x_c).1).Next).length c146)] rfl b166 isAgg_38 sizeOf_38) rfl ?_
  kp% m168
  have hF175 : F_spec_HearRekey x_c x_under x_plain = (((F_spec_Turn x_c).1), 0) := by simp only [F_spec_HearRekey, h95, h98, h102, h114, h117, h162, cond_true, cond_false]
  rw [hF175]
  exact ⟨_, _, _, _, _, _, _, _, _, _, _, _, rfl, (own_lo o169 (z% k39 k45 k49 k85 k88 k93 k100 k104 k112)), s123, (own_lo o170 (z% k39 k45 k49 k85 k88 k93 k100 k104 k112)), s128, (own_lo o171 (z% k39 k45 k49 k85 k88 k93 k100 k104 k112)), s133, (own_lo o172 (z% k39 k45 k49 k85 k88 k93 k100 k104 k112)), s138, (own_lo o173 (z% k39 k45 k49 k85 k88 k93 k100 k104 k112)), s143, (own_lo o174 (z% k39 k45 k49 k85 k88 k93 k100 k104 k112)), s148, ⟨⟨(ap150.1.1), ⟨(ap150.1.2.1), ⟨(ap150.1.2.2.1), ⟨(ap150.1.2.2.2.1), ⟨(ap150.1.2.2.2.2.1), trivial⟩⟩⟩⟩⟩, ⟨⟨(ap150.2.1.1), ⟨(ap150.2.1.2.1), ⟨(ap150.2.1.2.2.1), ⟨(ap150.2.1.2.2.2.1), trivial⟩⟩⟩⟩, ⟨⟨(ap150.2.2.1.1), ⟨(ap150.2.2.1.2.1), ⟨(ap150.2.2.1.2.2.1), trivial⟩⟩⟩, ⟨⟨(ap150.2.2.2.1.1), ⟨(ap150.2.2.2.1.2.1), trivial⟩⟩, ⟨⟨(ap150.2.2.2.2.1.1), trivial⟩, ⟨trivial, trivial⟩⟩⟩⟩⟩⟩⟩
 ct% (congrArg not h162)
 sr%
 have b177 := (((((((b89.kp k93).kp k100).kp k104).kp k112).kp k119).kp k155).ch k158 (Nat.ne_of_lt (Nat.lt_of_lt_of_le p84 (Nat.le_trans (z% k88 k93 k100 k104 k112 k119) p153))))
 refine lN (L_38 (F_spec_l14Copy x_c) a50 c51 a55 c56 a60 c61 a65 c66 a70 c71 a75 c76) wN isAgg_38 sizeOf_38 b177 ?_
 have b178 := ((((((((((b46.kp k49).kp k85).ch k88 (Nat.ne_of_lt (Nat.lt_of_lt_of_le p44 (Nat.le_trans k49.size p83)))).kp k93).kp k100).kp k104).kp k112).kp k119).kp k155).ch k158 (Nat.ne_of_lt (Nat.lt_of_lt_of_le p44 (Nat.le_trans (z% k49 k85 k88 k93 k100 k104 k112 k119) p153))))
 sv% (L_38 (F_spec_l14Copy x_c) a50 c51 a55 c56 a60 c61 a65 c66 a70 c71 a75 c76) sizeOf_38 b178
 intro w13 k179 b180 z181
 have m182 := m161.ext k179 (fun k hk => by subst hk; exact Nat.le_trans k39.size p43)
 ag% (vi 6)
 refine wl_nil <| wq_then <| wc_ret <| wq_then_ret <| wq_then_ret ?_
 have o183 := (own_ch (own_ch (own_kp (own_kp (own_kp (own_kp (own_kp (own_kp (own_ch (own_kp o52 k85) k88 (e2% o52 (Nat.le_trans (Nat.le_refl w3.heap.size) p83))) k93) k100) k104) k112) k119) k155) k158 (e2% o52 (Nat.le_trans (z% k85 k88 k93 k100 k104 k112 k119) p153))) k179 (e1% o52 (Nat.lt_of_lt_of_le p44 (Nat.le_refl w2.heap.size))))
 have o184 := (own_ch (own_ch (own_kp (own_kp (own_kp (own_kp (own_kp (own_kp (own_ch (own_kp o57 k85) k88 (e2% o57 (Nat.le_trans (Nat.le_refl w3.heap.size) p83))) k93) k100) k104) k112) k119) k155) k158 (e2% o57 (Nat.le_trans (z% k85 k88 k93 k100 k104 k112 k119) p153))) k179 (e1% o57 (Nat.lt_of_lt_of_le p44 (Nat.le_refl w2.heap.size))))
 have o185 := (own_ch (own_ch (own_kp (own_kp (own_kp (own_kp (own_kp (own_kp (own_ch (own_kp o62 k85) k88 (e2% o62 (Nat.le_trans (Nat.le_refl w3.heap.size) p83))) k93) k100) k104) k112) k119) k155) k158 (e2% o62 (Nat.le_trans (z% k85 k88 k93 k100 k104 k112 k119) p153))) k179 (e1% o62 (Nat.lt_of_lt_of_le p44 (Nat.le_refl w2.heap.size))))
 have o186 := (own_ch (own_ch (own_kp (own_kp (own_kp (own_kp (own_kp (own_kp (own_ch (own_kp o67 k85) k88 (e2% o67 (Nat.le_trans (Nat.le_refl w3.heap.size) p83))) k93) k100) k104) k112) k119) k155) k158 (e2% o67 (Nat.le_trans (z% k85 k88 k93 k100 k104 k112 k119) p153))) k179 (e1% o67 (Nat.lt_of_lt_of_le p44 (Nat.le_refl w2.heap.size))))
 have o187 := (own_ch (own_ch (own_kp (own_kp (own_kp (own_kp (own_kp (own_kp (own_ch (own_kp o72 k85) k88 (e2% o72 (Nat.le_trans (Nat.le_refl w3.heap.size) p83))) k93) k100) k104) k112) k119) k155) k158 (e2% o72 (Nat.le_trans (z% k85 k88 k93 k100 k104 k112 k119) p153))) k179 (e1% o72 (Nat.lt_of_lt_of_le p44 (Nat.le_refl w2.heap.size))))
 have o188 := (own_ch (own_ch (own_kp (own_kp (own_kp (own_kp (own_kp (own_kp (own_ch (own_kp o77 k85) k88 (e2% o77 (Nat.le_trans (Nat.le_refl w3.heap.size) p83))) k93) k100) k104) k112) k119) k155) k158 (e2% o77 (Nat.le_trans (z% k85 k88 k93 k100 k104 k112 k119) p153))) k179 (e1% o77 (Nat.lt_of_lt_of_le p44 (Nat.le_refl w2.heap.size))))
 refine ret_2 (.inl rfl) (va (L_38 (F_spec_l14Copy x_c) a50 c51 a55 c56 a60 c61 a65 c66 a70 c71 a75 c76)) (vi 6) rfl (rv_c [(vi ((F_spec_l14Copy x_c).Role)), (vs a50 ((F_spec_l14Copy x_c).Sn).length c51), (vi (((F_spec_l14Copy x_c).Cur).N)), (vs a55 (((F_spec_l14Copy x_c).Cur).Key).length c56), (vi (((F_spec_l14Copy x_c).Cur).Seq)), (vi ((((F_spec_l14Copy x_c).Cur).Win).Top)), (vs a60 ((((F_spec_l14Copy x_c).Cur).Win).Bits).length c61), (vi (((F_spec_l14Copy x_c).Old).N)), (vs a65 (((F_spec_l14Copy x_c).Old).Key).length c66), (vi (((F_spec_l14Copy x_c).Old).Seq)), (vi ((((F_spec_l14Copy x_c).Old).Win).Top)), (vs a70 ((((F_spec_l14Copy x_c).Old).Win).Bits).length c71), (vb ((F_spec_l14Copy x_c).HasOld)), (vi ((F_spec_l14Copy x_c).Until)), (vs a75 ((F_spec_l14Copy x_c).Next).length c76)] rfl b180 isAgg_38 sizeOf_38) rfl ?_
 kp% m182
 have hF189 : F_spec_HearRekey x_c x_under x_plain = ((F_spec_l14Copy x_c), 6) := by simp only [F_spec_HearRekey, h95, h98, h102, h114, h117, h162, cond_true, cond_false]
 rw [hF189]
 exact ⟨_, _, _, _, _, _, _, _, _, _, _, _, rfl, (own_lo o183 (Nat.le_trans k39.size k45.size)), s53, (own_lo o184 (Nat.le_trans k39.size k45.size)), s58, (own_lo o185 (Nat.le_trans k39.size k45.size)), s63, (own_lo o186 (Nat.le_trans k39.size k45.size)), s68, (own_lo o187 (Nat.le_trans k39.size k45.size)), s73, (own_lo o188 (Nat.le_trans k39.size k45.size)), s78, ⟨⟨(ap80.1.1), ⟨(ap80.1.2.1), ⟨(ap80.1.2.2.1), ⟨(ap80.1.2.2.2.1), ⟨(ap80.1.2.2.2.2.1), trivial⟩⟩⟩⟩⟩, ⟨⟨(ap80.2.1.1), ⟨(ap80.2.1.2.1), ⟨(ap80.2.1.2.2.1), ⟨(ap80.2.1.2.2.2.1), trivial⟩⟩⟩⟩, ⟨⟨(ap80.2.2.1.1), ⟨(ap80.2.2.1.2.1), ⟨(ap80.2.2.1.2.2.1), trivial⟩⟩⟩, ⟨⟨(ap80.2.2.2.1.1), ⟨(ap80.2.2.2.1.2.1), trivial⟩⟩, ⟨⟨(ap80.2.2.2.2.1.1), trivial⟩, ⟨trivial, trivial⟩⟩⟩⟩⟩⟩⟩

def F_impl_RekeyBody (x_n : Int) : (List UInt8) := bif (F_impl_within x_n 0 4294967295) then ((putN [] x_n 4)) else ([])
theorem C_impl_RekeyBody (w0 : World) (x_n : Int)  : Fn Try.prog 76 #[(vi x_n)] w0 (fun v w' => Keep w0 w' ∧ O_22 w' w0.heap.size v (F_impl_RekeyBody x_n)) := by
 refine fn_of (n := 8) (l := [(vi x_n), U, U, U, U, U, U, U]) Try.func76 rfl rfl k% rfl ?_
 sr%
 ag% (vs none 0 0)
 n4%
 mv% (vi x_n)
 cl% (C_impl_within w0 x_n 0 4294967295)
 rintro _ w1 ⟨k1, rfl⟩
 have m2 := (Ch.base w0).extk k1
 pu% (vb (!(F_impl_within x_n 0 4294967295)))
 n2%
 rcases bf (F_impl_within x_n 0 4294967295) with h3 | h3
 ·have q15 := impl_within_f h3
  ct% (congrArg not h3)
  sr%
  ag% (vs none 0 0)
  n1%
  r1% (vs none 0 0)
  kp% m2
  have hF16 : F_impl_RekeyBody x_n = [] := by simp only [F_impl_RekeyBody, h3, cond_true, cond_false]
  rw [hF16]
  exact ⟨_, _, rfl, (by first | exact own_nil _ _ _ _ | exact OLv.nil _ _ _ _), (by simp), ⟨trivial, trivial⟩⟩
 have q4 := impl_within_t h3
 cf% (congrArg not h3)
 z1%
 mv% (vi x_n)
 cl% (C_impl_PutN w1 _ _ (show R_22 w1 (vs none 0 0) [] from ⟨_, _, rfl, (Rd.nil _ _), (by simp)⟩) x_n 4 (by first | omega | (simp; done) | (simp; omega)))
 rintro _ w2 ⟨k5, ⟨a6, c7, rfl, o8, s9, ap11⟩⟩
 m% m12 m2 k5
 have q13 := putN_len [] x_n 4
 ag% (vs a6 (putN [] x_n 4).length c7)
 n3%
 r1% (vs a6 (putN [] x_n 4).length c7)
 kp% m12
 have hF14 : F_impl_RekeyBody x_n = (putN [] x_n 4) := by simp only [F_impl_RekeyBody, h3, cond_true, cond_false]
 rw [hF14]
 exact ⟨_, _, rfl, (own_lo o8 k1.size), s9, ⟨trivial, trivial⟩⟩

def F_impl_HearRekey (x_c : PChan) (x_under : Int) (x_plain : List UInt8) : (PChan) × (Int) := bif (F_impl_ChanOk x_c) then (bif (decide (x_c.Role = 1)) then (bif (F_impl_within x_under 0 4294967294) then (bif (F_bytes_Equal x_plain (F_impl_RekeyBody (x_under + 1))) then (bif (decide (x_under = (x_c.Cur.N - 1))) then (((F_impl_copyChan x_c), 0)) else (bif (decide (x_under = x_c.Cur.N)) then (bif ((F_impl_Turn x_c).2) then ((((F_impl_Turn x_c).1), 0)) else (((F_impl_copyChan x_c), 6))) else (((F_impl_copyChan x_c), 6)))) else (((F_impl_copyChan x_c), 6))) else (((F_impl_copyChan x_c), 6))) else (((F_impl_copyChan x_c), 6))) else (((F_impl_copyChan x_c), 6))
theorem C_impl_HearRekey (w0 : World) (v_x_c : Value) (x_c : PChan) (r_x_c : R_38 w0 v_x_c x_c) (x_under : Int) (v_x_plain : Value) (x_plain : List UInt8) (r_x_plain : R_22 w0 v_x_plain x_plain)  : Fn Try.prog 34 #[v_x_c, (vi x_under), v_x_plain] w0 (fun v w' => Keep w0 w' ∧ O_38_3 w' w0.heap.size v (F_impl_HearRekey x_c x_under x_plain)) := by
 obtain ⟨a1, c2, a6, c7, a11, c12, a16, c17, a21, c22, a26, c27, rfl, r3, s4, r8, s9, r13, s14, r18, s19, r23, s24, r28, s29⟩ := r_x_c
 obtain ⟨a31, c32, rfl, r33, s34⟩ := r_x_plain
 refine fn_of (n := 58) (l := [(va (L_38 x_c a1 c2 a6 c7 a11 c12 a16 c17 a21 c22 a26 c27)), (vi x_under), (vs a31 x_plain.length c32), U, U, U, U, U, U, U, U, U, U, U, U, U, U, U, U, U, U, U, U, U, U, U, U, U, U, U, U, U, U, U, U, U, U, U, U, U, U, U, U, U, U, U, U, U, U, U, U, U, U, U, U, U, U, U]) Try.func34 rfl rfl k% rfl ?_
 sr%
 refine bx (L_38 x_c a1 c2 a6 c7 a11 c12 a16 c17 a21 c22 a26 c27) wN ?_
 intro g36 w1 p37 p38 k39 b40
 have m41 := (Ch.base w0).extk k39
 refine al [(vi 0), (vs none 0 0), (vi 0), (vs none 0 0), (vi 0), (vi 0), (vs none 0 0), (vi 0), (vs none 0 0), (vi 0), (vi 0), (vs none 0 0), (vb false), (vi 0), (vs none 0 0)] wN zero_38 ?_
 intro g42 w2 p43 p44 k45 b46
 m% m47 m41 k45
 ag% (vi 0)
 nx%
 have b48 := (b40.kp k45)
 refine lN (L_38 x_c a1 c2 a6 c7 a11 c12 a16 c17 a21 c22 a26 c27) wN isAgg_38 sizeOf_38 b48 ?_
 cl% (C_impl_copyChan w2 _ x_c (mR_38 (r3.from0 m47) s4 (r8.from0 m47) s9 (r13.from0 m47) s14 (r18.from0 m47) s19 (r23.from0 m47) s24 (r28.from0 m47) s29))
 rintro _ w3 ⟨k49, ⟨a50, c51, a55, c56, a60, c61, a65, c66, a70, c71, a75, c76, rfl, o52, s53, o57, s58, o62, s63, o67, s68, o72, s73, o77, s78, ap80⟩⟩
 m% m81 m47 k49
 refine al [(vi 0), (vs none 0 0), (vi 0), (vs none 0 0), (vi 0), (vi 0), (vs none 0 0), (vi 0), (vs none 0 0), (vi 0), (vi 0), (vs none 0 0), (vb false), (vi 0), (vs none 0 0)] wN zero_38 ?_
 intro g82 w4 p83 p84 k85 b86
 m% m87 m81 k85
 sv% (L_38 (F_impl_copyChan x_c) a50 c51 a55 c56 a60 c61 a65 c66 a70 c71 a75 c76) sizeOf_38 b86
 intro w5 k88 b89 z90
 have m91 := m87.ext k88 (fun k hk => by subst hk; exact Nat.le_trans (z% k39 k45 k49) p83)
 n4%
 have b92 := (((b48.kp k49).kp k85).ch k88 (Nat.ne_of_lt (Nat.lt_of_lt_of_le p38 (Nat.le_trans (Nat.le_trans k45.size k49.size) p83))))
 refine lN (L_38 x_c a1 c2 a6 c7 a11 c12 a16 c17 a21 c22 a26 c27) wN isAgg_38 sizeOf_38 b92 ?_
 cl% (C_impl_ChanOk w5 _ x_c (mR_38 (r3.from0 m91) s4 (r8.from0 m91) s9 (r13.from0 m91) s14 (r18.from0 m91) s19 (r23.from0 m91) s24 (r28.from0 m91) s29))
 rintro _ w6 ⟨k93, rfl⟩
 m% m94 m91 k93
 pu% (vb (!(F_impl_ChanOk x_c)))
 mv% (vb (!(F_impl_ChanOk x_c)))
 rcases bf (F_impl_ChanOk x_c) with h95 | h95
 ·sn% h95
  sn% h95
  sn% h95
  refine pk (vb true) wN (congrArg not h95) ?_
  mv% (vb true)
  st%
  st%
  st%
  refine pk (vb true) wN (Eq.refl true) ?_
  mv% (vb true)
  st%
  st%
  st%
  st%
  st%
  st%
  refine pk (vb true) wN (Eq.refl true) ?_
  n2%
  ct% (Eq.refl true)
  sr%
  have b264 := (b89.kp k93)
  refine lN (L_38 (F_impl_copyChan x_c) a50 c51 a55 c56 a60 c61 a65 c66 a70 c71 a75 c76) wN isAgg_38 sizeOf_38 b264 ?_
  have b265 := ((((b46.kp k49).kp k85).ch k88 (Nat.ne_of_lt (Nat.lt_of_lt_of_le p44 (Nat.le_trans k49.size p83)))).kp k93)
  sv% (L_38 (F_impl_copyChan x_c) a50 c51 a55 c56 a60 c61 a65 c66 a70 c71 a75 c76) sizeOf_38 b265
  intro w7 k266 b267 z268
  have m269 := m94.ext k266 (fun k hk => by subst hk; exact Nat.le_trans k39.size p43)
  ag% (vi 6)
  n1%
  have o270 := (own_ch (own_kp (own_ch (own_kp o52 k85) k88 (e2% o52 (Nat.le_trans (Nat.le_refl w3.heap.size) p83))) k93) k266 (e1% o52 (Nat.lt_of_lt_of_le p44 (Nat.le_refl w2.heap.size))))
  have o271 := (own_ch (own_kp (own_ch (own_kp o57 k85) k88 (e2% o57 (Nat.le_trans (Nat.le_refl w3.heap.size) p83))) k93) k266 (e1% o57 (Nat.lt_of_lt_of_le p44 (Nat.le_refl w2.heap.size))))
  have o272 := (own_ch (own_kp (own_ch (own_kp o62 k85) k88 (e2% o62 (Nat.le_trans (Nat.le_refl w3.heap.size) p83))) k93) k266 (e1% o62 (Nat.lt_of_lt_of_le p44 (Nat.le_refl w2.heap.size))))
  have o273 := (own_ch (own_kp (own_ch (own_kp o67 k85) k88 (e2% o67 (Nat.le_trans (Nat.le_refl w3.heap.size) p83))) k93) k266 (e1% o67 (Nat.lt_of_lt_of_le p44 (Nat.le_refl w2.heap.size))))
  have o274 := (own_ch (own_kp (own_ch (own_kp o72 k85) k88 (e2% o72 (Nat.le_trans (Nat.le_refl w3.heap.size) p83))) k93) k266 (e1% o72 (Nat.lt_of_lt_of_le p44 (Nat.le_refl w2.heap.size))))
  have o275 := (own_ch (own_kp (own_ch (own_kp o77 k85) k88 (e2% o77 (Nat.le_trans (Nat.le_refl w3.heap.size) p83))) k93) k266 (e1% o77 (Nat.lt_of_lt_of_le p44 (Nat.le_refl w2.heap.size))))
  refine ret_2 (.inl rfl) (va (L_38 (F_impl_copyChan x_c) a50 c51 a55 c56 a60 c61 a65 c66 a70 c71 a75 c76)) (vi 6) rfl (rv_c [(vi ((F_impl_copyChan x_c).Role)), (vs a50 ((F_impl_copyChan x_c).Sn).length c51), (vi (((F_impl_copyChan x_c).Cur).N)), (vs a55 (((F_impl_copyChan x_c).Cur).Key).length c56), (vi (((F_impl_copyChan x_c).Cur).Seq)), (vi ((((F_impl_copyChan x_c).Cur).Win).Top)), (vs a60 ((((F_impl_copyChan x_c).Cur).Win).Bits).length c61), (vi (((F_impl_copyChan x_c).Old).N)), (vs a65 (((F_impl_copyChan x_c).Old).Key).length c66), (vi (((F_impl_copyChan x_c).Old).Seq)), (vi ((((F_impl_copyChan x_c).Old).Win).Top)), (vs a70 ((((F_impl_copyChan x_c).Old).Win).Bits).length c71), (vb ((F_impl_copyChan x_c).HasOld)), (vi ((F_impl_copyChan x_c).Until)), (vs a75 ((F_impl_copyChan x_c).Next).length c76)] rfl b267 isAgg_38 sizeOf_38) rfl ?_
  kp% m269
  have hF276 : F_impl_HearRekey x_c x_under x_plain = ((F_impl_copyChan x_c), 6) := by simp only [F_impl_HearRekey, h95, cond_true, cond_false]
  rw [hF276]
  exact ⟨_, _, _, _, _, _, _, _, _, _, _, _, rfl, (own_lo o270 (Nat.le_trans k39.size k45.size)), s53, (own_lo o271 (Nat.le_trans k39.size k45.size)), s58, (own_lo o272 (Nat.le_trans k39.size k45.size)), s63, (own_lo o273 (Nat.le_trans k39.size k45.size)), s68, (own_lo o274 (Nat.le_trans k39.size k45.size)), s73, (own_lo o275 (Nat.le_trans k39.size k45.size)), s78, ⟨⟨(ap80.1.1), ⟨(ap80.1.2.1), ⟨(ap80.1.2.2.1), ⟨(ap80.1.2.2.2.1), ⟨(ap80.1.2.2.2.2.1), trivial⟩⟩⟩⟩⟩, ⟨⟨(ap80.2.1.1), ⟨(ap80.2.1.2.1), ⟨(ap80.2.1.2.2.1), ⟨(ap80.2.1.2.2.2.1), trivial⟩⟩⟩⟩, ⟨⟨(ap80.2.2.1.1), ⟨(ap80.2.2.1.2.1), ⟨(ap80.2.2.1.2.2.1), trivial⟩⟩⟩, ⟨⟨(ap80.2.2.2.1.1), ⟨(ap80.2.2.2.1.2.1), trivial⟩⟩, ⟨⟨(ap80.2.2.2.2.1.1), trivial⟩, ⟨trivial, trivial⟩⟩⟩⟩⟩⟩⟩
 have q96 := impl_ChanOk_t h95
 refine pu (vp g36 0) (wS (congrArg not h95)) ?_
 have b97 := (b92.kp k93)
 refine ld (vi x_c.Role) (wS (congrArg not h95)) isAgg_3 b97 ?_
 refine pu (vb (!(decide (x_c.Role = 1)))) (wS (congrArg not h95)) ?_
 refine pf (vb (!(decide (x_c.Role = 1)))) wN (congrArg not h95) ?_
 mv% (vb (!(decide (x_c.Role = 1))))
 rcases bf (decide (x_c.Role = 1)) with h98 | h98
 ·df% q249 h98
  sn% h98
  sn% h98
  sn% h98
  refine pk (vb true) wN (congrArg not h98) ?_
  mv% (vb true)
  st%
  st%
  st%
  st%
  st%
  st%
  refine pk (vb true) wN (Eq.refl true) ?_
  n2%
  ct% (Eq.refl true)
  sr%
  have b250 := (b89.kp k93)
  refine lN (L_38 (F_impl_copyChan x_c) a50 c51 a55 c56 a60 c61 a65 c66 a70 c71 a75 c76) wN isAgg_38 sizeOf_38 b250 ?_
  have b251 := ((((b46.kp k49).kp k85).ch k88 (Nat.ne_of_lt (Nat.lt_of_lt_of_le p44 (Nat.le_trans k49.size p83)))).kp k93)
  sv% (L_38 (F_impl_copyChan x_c) a50 c51 a55 c56 a60 c61 a65 c66 a70 c71 a75 c76) sizeOf_38 b251
  intro w7 k252 b253 z254
  have m255 := m94.ext k252 (fun k hk => by subst hk; exact Nat.le_trans k39.size p43)
  ag% (vi 6)
  n1%
  have o256 := (own_ch (own_kp (own_ch (own_kp o52 k85) k88 (e2% o52 (Nat.le_trans (Nat.le_refl w3.heap.size) p83))) k93) k252 (e1% o52 (Nat.lt_of_lt_of_le p44 (Nat.le_refl w2.heap.size))))
  have o257 := (own_ch (own_kp (own_ch (own_kp o57 k85) k88 (e2% o57 (Nat.le_trans (Nat.le_refl w3.heap.size) p83))) k93) k252 (e1% o57 (Nat.lt_of_lt_of_le p44 (Nat.le_refl w2.heap.size))))
  have o258 := (own_ch (own_kp (own_ch (own_kp o62 k85) k88 (e2% o62 (Nat.le_trans (Nat.le_refl w3.heap.size) p83))) k93) k252 (e1% o62 (Nat.lt_of_lt_of_le p44 (Nat.le_refl w2.heap.size))))
  have o259 := (own_ch (own_kp (own_ch (own_kp o67 k85) k88 (e2% o67 (Nat.le_trans (Nat.le_refl w3.heap.size) p83))) k93) k252 (e1% o67 (Nat.lt_of_lt_of_le p44 (Nat.le_refl w2.heap.size))))
  have o260 := (own_ch (own_kp (own_ch (own_kp o72 k85) k88 (e2% o72 (Nat.le_trans (Nat.le_refl w3.heap.size) p83))) k93) k252 (e1% o72 (Nat.lt_of_lt_of_le p44 (Nat.le_refl w2.heap.size))))
  have o261 := (own_ch (own_kp (own_ch (own_kp o77 k85) k88 (e2% o77 (Nat.le_trans (Nat.le_refl w3.heap.size) p83))) k93) k252 (e1% o77 (Nat.lt_of_lt_of_le p44 (Nat.le_refl w2.heap.size))))
  refine ret_2 (.inl rfl) (va (L_38 (F_impl_copyChan x_c) a50 c51 a55 c56 a60 c61 a65 c66 a70 c71 a75 c76)) (vi 6) rfl (rv_c [(vi ((F_impl_copyChan x_c).Role)), (vs a50 ((F_impl_copyChan x_c).Sn).length c51), (vi (((F_impl_copyChan x_c).Cur).N)), (vs a55 (((F_impl_copyChan x_c).Cur).Key).length c56), (vi (((F_impl_copyChan x_c).Cur).Seq)), (vi ((((F_impl_copyChan x_c).Cur).Win).Top)), (vs a60 ((((F_impl_copyChan x_c).Cur).Win).Bits).length c61), (vi (((F_impl_copyChan x_c).Old).N)), (vs a65 (((F_impl_copyChan x_c).Old).Key).length c66), (vi (((F_impl_copyChan x_c).Old).Seq)), (vi ((((F_impl_copyChan x_c).Old).Win).Top)), (vs a70 ((((F_impl_copyChan x_c).Old).Win).Bits).length c71), (vb ((F_impl_copyChan x_c).HasOld)), (vi ((F_impl_copyChan x_c).Until)), (vs a75 ((F_impl_copyChan x_c).Next).length c76)] rfl b253 isAgg_38 sizeOf_38) rfl ?_
  kp% m255
  have hF262 : F_impl_HearRekey x_c x_under x_plain = ((F_impl_copyChan x_c), 6) := by simp only [F_impl_HearRekey, h95, h98, cond_true, cond_false]
  rw [hF262]
  exact ⟨_, _, _, _, _, _, _, _, _, _, _, _, rfl, (own_lo o256 (Nat.le_trans k39.size k45.size)), s53, (own_lo o257 (Nat.le_trans k39.size k45.size)), s58, (own_lo o258 (Nat.le_trans k39.size k45.size)), s63, (own_lo o259 (Nat.le_trans k39.size k45.size)), s68, (own_lo o260 (Nat.le_trans k39.size k45.size)), s73, (own_lo o261 (Nat.le_trans k39.size k45.size)), s78, ⟨⟨(ap80.1.1), ⟨(ap80.1.2.1), ⟨(ap80.1.2.2.1), ⟨(ap80.1.2.2.2.1), ⟨(ap80.1.2.2.2.2.1), trivial⟩⟩⟩⟩⟩, ⟨⟨(ap80.2.1.1), ⟨(ap80.2.1.2.1), ⟨(ap80.2.1.2.2.1), ⟨(ap80.2.1.2.2.2.1), trivial⟩⟩⟩⟩, ⟨⟨(ap80.2.2.1.1), ⟨(ap80.2.2.1.2.1), ⟨(ap80.2.2.1.2.2.1), trivial⟩⟩⟩, ⟨⟨(ap80.2.2.2.1.1), ⟨(ap80.2.2.2.1.2.1), trivial⟩⟩, ⟨⟨(ap80.2.2.2.2.1.1), trivial⟩, ⟨trivial, trivial⟩⟩⟩⟩⟩⟩⟩
 dt% q99 h98
 refine mv (vi x_under) (wS (congrArg not h98)) ?_
 refine cl (wS (congrArg not h98)) (C_impl_within w6 x_under 0 4294967294) ?_
 rintro _ w7 ⟨k100, rfl⟩
 m% m101 m94 k100
 refine pu (vb (!(F_impl_within x_under 0 4294967294))) (wS (congrArg not h98)) ?_
 refine pf (vb (!(F_impl_within x_under 0 4294967294))) wN (congrArg not h98) ?_
 mv% (vb (!(F_impl_within x_under 0 4294967294)))
 rcases bf (F_impl_within x_under 0 4294967294) with h102 | h102
 ·have q235 := impl_within_f h102
  sn% h102
  sn% h102
  sn% h102
  sn% h102
  sn% h102
  sn% h102
  refine pk (vb true) wN (congrArg not h102) ?_
  n2%
  ct% (Eq.refl true)
  sr%
  have b236 := ((b89.kp k93).kp k100)
  refine lN (L_38 (F_impl_copyChan x_c) a50 c51 a55 c56 a60 c61 a65 c66 a70 c71 a75 c76) wN isAgg_38 sizeOf_38 b236 ?_
  have b237 := (((((b46.kp k49).kp k85).ch k88 (Nat.ne_of_lt (Nat.lt_of_lt_of_le p44 (Nat.le_trans k49.size p83)))).kp k93).kp k100)
  sv% (L_38 (F_impl_copyChan x_c) a50 c51 a55 c56 a60 c61 a65 c66 a70 c71 a75 c76) sizeOf_38 b237
  intro w8 k238 b239 z240
  have m241 := m101.ext k238 (fun k hk => by subst hk; exact Nat.le_trans k39.size p43)
  ag% (vi 6)
  n1%
  have o242 := (own_ch (own_kp (own_kp (own_ch (own_kp o52 k85) k88 (e2% o52 (Nat.le_trans (Nat.le_refl w3.heap.size) p83))) k93) k100) k238 (e1% o52 (Nat.lt_of_lt_of_le p44 (Nat.le_refl w2.heap.size))))
  have o243 := (own_ch (own_kp (own_kp (own_ch (own_kp o57 k85) k88 (e2% o57 (Nat.le_trans (Nat.le_refl w3.heap.size) p83))) k93) k100) k238 (e1% o57 (Nat.lt_of_lt_of_le p44 (Nat.le_refl w2.heap.size))))
  have o244 := (own_ch (own_kp (own_kp (own_ch (own_kp o62 k85) k88 (e2% o62 (Nat.le_trans (Nat.le_refl w3.heap.size) p83))) k93) k100) k238 (e1% o62 (Nat.lt_of_lt_of_le p44 (Nat.le_refl w2.heap.size))))
  have o245 := (own_ch (own_kp (own_kp (own_ch (own_kp o67 k85) k88 (e2% o67 (Nat.le_trans (Nat.le_refl w3.heap.size) p83))) k93) k100) k238 (e1% o67 (Nat.lt_of_lt_of_le p44 (Nat.le_refl w2.heap.size))))
  have o246 := (own_ch (own_kp (own_kp (own_ch (own_kp o72 k85) k88 (e2% o72 (Nat.le_trans (Nat.le_refl w3.heap.size) p83))) k93) k100) k238 (e1% o72 (Nat.lt_of_lt_of_le p44 (Nat.le_refl w2.heap.size))))
  have o247 := (own_ch (own_kp (own_kp (own_ch (own_kp o77 k85) k88 (e2% o77 (Nat.le_trans (Nat.le_refl w3.heap.size) p83))) k93) k100) k238 (e1% o77 (Nat.lt_of_lt_of_le p44 (Nat.le_refl w2.heap.size))))
  refine ret_2 (.inl rfl) (va (L_38 (F_impl_copyChan x_c) a50 c51 a55 c56 a60 c61 a65 c66 a70 c71 a75 c76)) (vi 6) rfl (rv_c [(vi ((F_impl_copyChan x_c).Role)), (vs a50 ((F_impl_copyChan x_c).Sn).length c51), (vi (((F_impl_copyChan x_c).Cur).N)), (vs a55 (((F_impl_copyChan x_c).Cur).Key).length c56), (vi (((F_impl_copyChan x_c).Cur).Seq)), (vi ((((F_impl_copyChan x_c).Cur).Win).Top)), (vs a60 ((((F_impl_copyChan x_c).Cur).Win).Bits).length c61), (vi (((F_impl_copyChan x_c).Old).N)), (vs a65 (((F_impl_copyChan x_c).Old).Key).length c66), (vi (((F_impl_copyChan x_c).Old).Seq)), (vi ((((F_impl_copyChan x_c).Old).Win).Top)), (vs a70 ((((F_impl_copyChan x_c).Old).Win).Bits).length c71), (vb ((F_impl_copyChan x_c).HasOld)), (vi ((F_impl_copyChan x_c).Until)), (vs a75 ((F_impl_copyChan x_c).Next).length c76)] rfl b239 isAgg_38 sizeOf_38) rfl ?_
  kp% m241
  have hF248 : F_impl_HearRekey x_c x_under x_plain = ((F_impl_copyChan x_c), 6) := by simp only [F_impl_HearRekey, h95, h98, h102, cond_true, cond_false]
  rw [hF248]
  exact ⟨_, _, _, _, _, _, _, _, _, _, _, _, rfl, (own_lo o242 (Nat.le_trans k39.size k45.size)), s53, (own_lo o243 (Nat.le_trans k39.size k45.size)), s58, (own_lo o244 (Nat.le_trans k39.size k45.size)), s63, (own_lo o245 (Nat.le_trans k39.size k45.size)), s68, (own_lo o246 (Nat.le_trans k39.size k45.size)), s73, (own_lo o247 (Nat.le_trans k39.size k45.size)), s78, ⟨⟨(ap80.1.1), ⟨(ap80.1.2.1), ⟨(ap80.1.2.2.1), ⟨(ap80.1.2.2.2.1), ⟨(ap80.1.2.2.2.2.1), trivial⟩⟩⟩⟩⟩, ⟨⟨(ap80.2.1.1), ⟨(ap80.2.1.2.1), ⟨(ap80.2.1.2.2.1), ⟨(ap80.2.1.2.2.2.1), trivial⟩⟩⟩⟩, ⟨⟨(ap80.2.2.1.1), ⟨(ap80.2.2.1.2.1), ⟨(ap80.2.2.1.2.2.1), trivial⟩⟩⟩, ⟨⟨(ap80.2.2.2.1.1), ⟨(ap80.2.2.2.1.2.1), trivial⟩⟩, ⟨⟨(ap80.2.2.2.2.1.1), trivial⟩, ⟨trivial, trivial⟩⟩⟩⟩⟩⟩⟩
 have q103 := impl_within_t h102
 refine mv (vs a31 x_plain.length c32) (wS (congrArg not h102)) ?_
 refine mv (vi x_under) (wS (congrArg not h102)) ?_
 refine ar (x_under + 1) (wS (congrArg not h102)) ?_
 refine cl (wS (congrArg not h102)) (C_impl_RekeyBody w7 (x_under + 1)) ?_
 rintro _ w8 ⟨k104, ⟨a105, c106, rfl, o107, s108, ap110⟩⟩
 m% m111 m101 k104
 refine cl (wS (congrArg not h102)) (C_bytes_Equal w8 _ x_plain (mR_22 (r33.from0 m111) s34) _ (F_impl_RekeyBody (x_under + 1)) (mR_22 (Rd.of_own o107) s108)) ?_
 rintro _ w9 ⟨k112, rfl⟩
 m% m113 m111 k112
 refine pu (vb (!(F_bytes_Equal x_plain (F_impl_RekeyBody (x_under + 1))))) (wS (congrArg not h102)) ?_
 refine pf (vb (!(F_bytes_Equal x_plain (F_impl_RekeyBody (x_under + 1))))) wN (congrArg not h102) ?_
 n2%
 rcases bf (F_bytes_Equal x_plain (F_impl_RekeyBody (x_under + 1))) with h114 | h114
 ·ct% (congrArg not h114)
  sr%
  have b222 := ((((b89.kp k93).kp k100).kp k104).kp k112)
  refine lN (L_38 (F_impl_copyChan x_c) a50 c51 a55 c56 a60 c61 a65 c66 a70 c71 a75 c76) wN isAgg_38 sizeOf_38 b222 ?_
  have b223 := (((((((b46.kp k49).kp k85).ch k88 (Nat.ne_of_lt (Nat.lt_of_lt_of_le p44 (Nat.le_trans k49.size p83)))).kp k93).kp k100).kp k104).kp k112)
  sv% (L_38 (F_impl_copyChan x_c) a50 c51 a55 c56 a60 c61 a65 c66 a70 c71 a75 c76) sizeOf_38 b223
  intro w10 k224 b225 z226
  have m227 := m113.ext k224 (fun k hk => by subst hk; exact Nat.le_trans k39.size p43)
  ag% (vi 6)
  n1%
  have o228 := (own_ch (own_kp (own_kp (own_kp (own_kp (own_ch (own_kp o52 k85) k88 (e2% o52 (Nat.le_trans (Nat.le_refl w3.heap.size) p83))) k93) k100) k104) k112) k224 (e1% o52 (Nat.lt_of_lt_of_le p44 (Nat.le_refl w2.heap.size))))
  have o229 := (own_ch (own_kp (own_kp (own_kp (own_kp (own_ch (own_kp o57 k85) k88 (e2% o57 (Nat.le_trans (Nat.le_refl w3.heap.size) p83))) k93) k100) k104) k112) k224 (e1% o57 (Nat.lt_of_lt_of_le p44 (Nat.le_refl w2.heap.size))))
  have o230 := (own_ch (own_kp (own_kp (own_kp (own_kp (own_ch (own_kp o62 k85) k88 (e2% o62 (Nat.le_trans (Nat.le_refl w3.heap.size) p83))) k93) k100) k104) k112) k224 (e1% o62 (Nat.lt_of_lt_of_le p44 (Nat.le_refl w2.heap.size))))
  have o231 := (own_ch (own_kp (own_kp (own_kp (own_kp (own_ch (own_kp o67 k85) k88 (e2% o67 (Nat.le_trans (Nat.le_refl w3.heap.size) p83))) k93) k100) k104) k112) k224 (e1% o67 (Nat.lt_of_lt_of_le p44 (Nat.le_refl w2.heap.size))))
  have o232 := (own_ch (own_kp (own_kp (own_kp (own_kp (own_ch (own_kp o72 k85) k88 (e2% o72 (Nat.le_trans (Nat.le_refl w3.heap.size) p83))) k93) k100) k104) k112) k224 (e1% o72 (Nat.lt_of_lt_of_le p44 (Nat.le_refl w2.heap.size))))
  have o233 := (own_ch (own_kp (own_kp (own_kp (own_kp (own_ch (own_kp o77 k85) k88 (e2% o77 (Nat.le_trans (Nat.le_refl w3.heap.size) p83))) k93) k100) k104) k112) k224 (e1% o77 (Nat.lt_of_lt_of_le p44 (Nat.le_refl w2.heap.size))))
  refine ret_2 (.inl rfl) (va (L_38 (F_impl_copyChan x_c) a50 c51 a55 c56 a60 c61 a65 c66 a70 c71 a75 c76)) (vi 6) rfl (rv_c [(vi ((F_impl_copyChan x_c).Role)), (vs a50 ((F_impl_copyChan x_c).Sn).length c51), (vi (((F_impl_copyChan x_c).Cur).N)), (vs a55 (((F_impl_copyChan x_c).Cur).Key).length c56), (vi (((F_impl_copyChan x_c).Cur).Seq)), (vi ((((F_impl_copyChan x_c).Cur).Win).Top)), (vs a60 ((((F_impl_copyChan x_c).Cur).Win).Bits).length c61), (vi (((F_impl_copyChan x_c).Old).N)), (vs a65 (((F_impl_copyChan x_c).Old).Key).length c66), (vi (((F_impl_copyChan x_c).Old).Seq)), (vi ((((F_impl_copyChan x_c).Old).Win).Top)), (vs a70 ((((F_impl_copyChan x_c).Old).Win).Bits).length c71), (vb ((F_impl_copyChan x_c).HasOld)), (vi ((F_impl_copyChan x_c).Until)), (vs a75 ((F_impl_copyChan x_c).Next).length c76)] rfl b225 isAgg_38 sizeOf_38) rfl ?_
  kp% m227
  have hF234 : F_impl_HearRekey x_c x_under x_plain = ((F_impl_copyChan x_c), 6) := by simp only [F_impl_HearRekey, h95, h98, h102, h114, cond_true, cond_false]
  rw [hF234]
  exact ⟨_, _, _, _, _, _, _, _, _, _, _, _, rfl, (own_lo o228 (Nat.le_trans k39.size k45.size)), s53, (own_lo o229 (Nat.le_trans k39.size k45.size)), s58, (own_lo o230 (Nat.le_trans k39.size k45.size)), s63, (own_lo o231 (Nat.le_trans k39.size k45.size)), s68, (own_lo o232 (Nat.le_trans k39.size k45.size)), s73, (own_lo o233 (Nat.le_trans k39.size k45.size)), s78, ⟨⟨(ap80.1.1), ⟨(ap80.1.2.1), ⟨(ap80.1.2.2.1), ⟨(ap80.1.2.2.2.1), ⟨(ap80.1.2.2.2.2.1), trivial⟩⟩⟩⟩⟩, ⟨⟨(ap80.2.1.1), ⟨(ap80.2.1.2.1), ⟨(ap80.2.1.2.2.1), ⟨(ap80.2.1.2.2.2.1), trivial⟩⟩⟩⟩, ⟨⟨(ap80.2.2.1.1), ⟨(ap80.2.2.1.2.1), ⟨(ap80.2.2.1.2.2.1), trivial⟩⟩⟩, ⟨⟨(ap80.2.2.2.1.1), ⟨(ap80.2.2.2.1.2.1), trivial⟩⟩, ⟨⟨(ap80.2.2.2.2.1.1), trivial⟩, ⟨trivial, trivial⟩⟩⟩⟩⟩⟩⟩
 cf% (congrArg not h114)
 z2%
 mv% (vi x_under)
 pu% (vp g36 2)
 pu% (vp g36 2)
 have b116 := (((b97.kp k100).kp k104).kp k112)
 refine ld (vi x_c.Cur.N) wN isAgg_3 b116 ?_
 refine ar (x_c.Cur.N - 1) wN ?_
 pu% (vb (decide (x_under = (x_c.Cur.N - 1))))
 n2%
 rcases bt (decide (x_under = (x_c.Cur.N - 1))) with h117 | h117
 ·dt% q118 h117
  ct% h117
  sr%
  have b119 := ((((b89.kp k93).kp k100).kp k104).kp k112)
  refine lN (L_38 (F_impl_copyChan x_c) a50 c51 a55 c56 a60 c61 a65 c66 a70 c71 a75 c76) wN isAgg_38 sizeOf_38 b119 ?_
  have b120 := (((((((b46.kp k49).kp k85).ch k88 (Nat.ne_of_lt (Nat.lt_of_lt_of_le p44 (Nat.le_trans k49.size p83)))).kp k93).kp k100).kp k104).kp k112)
  sv% (L_38 (F_impl_copyChan x_c) a50 c51 a55 c56 a60 c61 a65 c66 a70 c71 a75 c76) sizeOf_38 b120
  intro w10 k121 b122 z123
  have m124 := m113.ext k121 (fun k hk => by subst hk; exact Nat.le_trans k39.size p43)
  ag% (vi 0)
  n1%
  have o125 := (own_ch (own_kp (own_kp (own_kp (own_kp (own_ch (own_kp o52 k85) k88 (e2% o52 (Nat.le_trans (Nat.le_refl w3.heap.size) p83))) k93) k100) k104) k112) k121 (e1% o52 (Nat.lt_of_lt_of_le p44 (Nat.le_refl w2.heap.size))))
  have o126 := (own_ch (own_kp (own_kp (own_kp (own_kp (own_ch (own_kp o57 k85) k88 (e2% o57 (Nat.le_trans (Nat.le_refl w3.heap.size) p83))) k93) k100) k104) k112) k121 (e1% o57 (Nat.lt_of_lt_of_le p44 (Nat.le_refl w2.heap.size))))
  have o127 := (own_ch (own_kp (own_kp (own_kp (own_kp (own_ch (own_kp o62 k85) k88 (e2% o62 (Nat.le_trans (Nat.le_refl w3.heap.size) p83))) k93) k100) k104) k112) k121 (e1% o62 (Nat.lt_of_lt_of_le p44 (Nat.le_refl w2.heap.size))))
  have o128 := (own_ch (own_kp (own_kp (own_kp (own_kp (own_ch (own_kp o67 k85) k88 (e2% o67 (Nat.le_trans (Nat.le_refl w3.heap.size) p83))) k93) k100) k104) k112) k121 (e1% o67 (Nat.lt_of_lt_of_le p44 (Nat.le_refl w2.heap.size))))
  have o129 := (own_ch (own_kp (own_kp (own_kp (own_kp (own_ch (own_kp o72 k85) k88 (e2% o72 (Nat.le_trans (Nat.le_refl w3.heap.size) p83))) k93) k100) k104) k112) k121 (e1% o72 (Nat.lt_of_lt_of_le p44 (Nat.le_refl w2.heap.size))))
  have o130 := (own_ch (own_kp (own_kp (own_kp (own_kp (own_ch (own_kp o77 k85) k88 (e2% o77 (Nat.le_trans (Nat.le_refl w3.heap.size) p83))) k93) k100) k104) k112) k121 (e1% o77 (Nat.lt_of_lt_of_le p44 (Nat.le_refl w2.heap.size))))
  refine ret_2 (.inl rfl) (va (L_38 (F_impl_copyChan x_c) a50 c51 a55 c56 a60 c61 a65 c66 a70 c71 a75 c76)) (vi 0) rfl (rv_c [(vi ((F_impl_copyChan x_c).Role)), (vs a50 ((F_impl_copyChan x_c).Sn).length c51), (vi (((F_impl_copyChan x_c).Cur).N)), (vs a55 (((F_impl_copyChan x_c).Cur).Key).length c56), (vi (((F_impl_copyChan x_c).Cur).Seq)), (vi ((((F_impl_copyChan x_c).Cur).Win).Top)), (vs a60 ((((F_impl_copyChan x_c).Cur).Win).Bits).length c61), (vi (((F_impl_copyChan x_c).Old).N)), (vs a65 (((F_impl_copyChan x_c).Old).Key).length c66), (vi (((F_impl_copyChan x_c).Old).Seq)), (vi ((((F_impl_copyChan x_c).Old).Win).Top)), (vs a70 ((((F_impl_copyChan x_c).Old).Win).Bits).length c71), (vb ((F_impl_copyChan x_c).HasOld)), (vi ((F_impl_copyChan x_c).Until)), (vs a75 ((F_impl_copyChan x_c).Next).length c76)] rfl b122 isAgg_38 sizeOf_38) rfl ?_
  kp% m124
  have hF131 : F_impl_HearRekey x_c x_under x_plain = ((F_impl_copyChan x_c), 0) := by simp only [F_impl_HearRekey, h95, h98, h102, h114, h117, cond_true, cond_false]
  rw [hF131]
  exact ⟨_, _, _, _, _, _, _, _, _, _, _, _, rfl, (own_lo o125 (Nat.le_trans k39.size k45.size)), s53, (own_lo o126 (Nat.le_trans k39.size k45.size)), s58, (own_lo o127 (Nat.le_trans k39.size k45.size)), s63, (own_lo o128 (Nat.le_trans k39.size k45.size)), s68, (own_lo o129 (Nat.le_trans k39.size k45.size)), s73, (own_lo o130 (Nat.le_trans k39.size k45.size)), s78, ⟨⟨(ap80.1.1), ⟨(ap80.1.2.1), ⟨(ap80.1.2.2.1), ⟨(ap80.1.2.2.2.1), ⟨(ap80.1.2.2.2.2.1), trivial⟩⟩⟩⟩⟩, ⟨⟨(ap80.2.1.1), ⟨(ap80.2.1.2.1), ⟨(ap80.2.1.2.2.1), ⟨(ap80.2.1.2.2.2.1), trivial⟩⟩⟩⟩, ⟨⟨(ap80.2.2.1.1), ⟨(ap80.2.2.1.2.1), ⟨(ap80.2.2.1.2.2.1), trivial⟩⟩⟩, ⟨⟨(ap80.2.2.2.1.1), ⟨(ap80.2.2.2.1.2.1), trivial⟩⟩, ⟨⟨(ap80.2.2.2.2.1.1), trivial⟩, ⟨trivial, trivial⟩⟩⟩⟩⟩⟩⟩
 df% q132 h117
 cf% h117
 z1%
 refine lN (L_38 x_c a1 c2 a6 c7 a11 c12 a16 c17 a21 c22 a26 c27) wN isAgg_38 sizeOf_38 b116 ?_
 cl% (C_impl_Turn w9 _ x_c (mR_38 (r3.from0 m113) s4 (r8.from0 m113) s9 (r13.from0 m113) s14 (r18.from0 m113) s19 (r23.from0 m113) s24 (r28.from0 m113) s29))
 rintro _ w10 ⟨k133, ⟨a134, c135, a139, c140, a144, c145, a149, c150, a154, c155, a159, c160, rfl, o136, s137, o141, s142, o146, s147, o151, s152, o156, s157, o161, s162, ap164⟩⟩
 m% m165 m113 k133
 mv% (.tuple #[(va (L_38 ((F_impl_Turn x_c).1) a134 c135 a139 c140 a144 c145 a149 c150 a154 c155 a159 c160)), (vb ((F_impl_Turn x_c).2))])
 pu% (va (L_38 ((F_impl_Turn x_c).1) a134 c135 a139 c140 a144 c145 a149 c150 a154 c155 a159 c160))
 pu% (vb ((F_impl_Turn x_c).2))
 refine al [(vi 0), (vs none 0 0), (vi 0), (vs none 0 0), (vi 0), (vi 0), (vs none 0 0), (vi 0), (vs none 0 0), (vi 0), (vi 0), (vs none 0 0), (vb false), (vi 0), (vs none 0 0)] wN zero_38 ?_
 intro g166 w11 p167 p168 k169 b170
 m% m171 m165 k169
 sv% (L_38 ((F_impl_Turn x_c).1) a134 c135 a139 c140 a144 c145 a149 c150 a154 c155 a159 c160) sizeOf_38 b170
 intro w12 k172 b173 z174
 have m175 := m171.ext k172 (fun k hk => by subst hk; exact Nat.le_trans (z% k39 k45 k49 k85 k88 k93 k100 k104 k112 k133) p167)
 ag% (vb ((F_impl_Turn x_c).2))
 n4%
 mv% (vi x_under)
 pu% (vp g36 2)
 pu% (vp g36 2)
 have b176 := (((b116.kp k133).kp k169).ch k172 (Nat.ne_of_lt (Nat.lt_of_lt_of_le p38 (Nat.le_trans (z% k45 k49 k85 k88 k93 k100 k104 k112 k133) p167))))
 refine ld (vi x_c.Cur.N) wN isAgg_3 b176 ?_
 pu% (vb (!(decide (x_under = x_c.Cur.N))))
 mv% (vb (!(decide (x_under = x_c.Cur.N))))
 rcases bf (decide (x_under = x_c.Cur.N)) with h177 | h177
 ·df% q207 h177
  sn% h177
  sn% h177
  refine pk (vb true) wN (congrArg not h177) ?_
  n2%
  ct% (Eq.refl true)
  sr%
  have b208 := (((((((b89.kp k93).kp k100).kp k104).kp k112).kp k133).kp k169).ch k172 (Nat.ne_of_lt (Nat.lt_of_lt_of_le p84 (Nat.le_trans (z% k88 k93 k100 k104 k112 k133) p167))))
  refine lN (L_38 (F_impl_copyChan x_c) a50 c51 a55 c56 a60 c61 a65 c66 a70 c71 a75 c76) wN isAgg_38 sizeOf_38 b208 ?_
  have b209 := ((((((((((b46.kp k49).kp k85).ch k88 (Nat.ne_of_lt (Nat.lt_of_lt_of_le p44 (Nat.le_trans k49.size p83)))).kp k93).kp k100).kp k104).kp k112).kp k133).kp k169).ch k172 (Nat.ne_of_lt (Nat.lt_of_lt_of_le p44 (Nat.le_trans (z% k49 k85 k88 k93 k100 k104 k112 k133) p167))))
  sv% (L_38 (F_impl_copyChan x_c) a50 c51 a55 c56 a60 c61 a65 c66 a70 c71 a75 c76) sizeOf_38 b209
  intro w13 k210 b211 z212
  have m213 := m175.ext k210 (fun k hk => by subst hk; exact Nat.le_trans k39.size p43)
  ag% (vi 6)
  n1%
  have o214 := (own_ch (own_ch (own_kp (own_kp (own_kp (own_kp (own_kp (own_kp (own_ch (own_kp o52 k85) k88 (e2% o52 (Nat.le_trans (Nat.le_refl w3.heap.size) p83))) k93) k100) k104) k112) k133) k169) k172 (e2% o52 (Nat.le_trans (z% k85 k88 k93 k100 k104 k112 k133) p167))) k210 (e1% o52 (Nat.lt_of_lt_of_le p44 (Nat.le_refl w2.heap.size))))
  have o215 := (own_ch (own_ch (own_kp (own_kp (own_kp (own_kp (own_kp (own_kp (own_ch (own_kp o57 k85) k88 (e2% o57 (Nat.le_trans (Nat.le_refl w3.heap.size) p83))) k93) k100) k104) k112) k133) k169) k172 (e2% o57 (Nat.le_trans (z% k85 k88 k93 k100 k104 k112 k133) p167))) k210 (e1% o57 (Nat.lt_of_lt_of_le p44 (Nat.le_refl w2.heap.size))))
  have o216 := (own_ch (own_ch (own_kp (own_kp (own_kp (own_kp (own_kp (own_kp (own_ch (own_kp o62 k85) k88 (e2% o62 (Nat.le_trans (Nat.le_refl w3.heap.size) p83))) k93) k100) k104) k112) k133) k169) k172 (e2% o62 (Nat.le_trans (z% k85 k88 k93 k100 k104 k112 k133) p167))) k210 (e1% o62 (Nat.lt_of_lt_of_le p44 (Nat.le_refl w2.heap.size))))
  have o217 := (own_ch (own_ch (own_kp (own_kp (own_kp (own_kp (own_kp (own_kp (own_ch (own_kp o67 k85) k88 (e2% o67 (Nat.le_trans (Nat.le_refl w3.heap.size) p83))) k93) k100) k104) k112) k133) k169) k172 (e2% o67 (Nat.le_trans (z% k85 k88 k93 k100 k104 k112 k133) p167))) k210 (e1% o67 (Nat.lt_of_lt_of_le p44 (Nat.le_refl w2.heap.size))))
  have o218 := (own_ch (own_ch (own_kp (own_kp (own_kp (own_kp (own_kp (own_kp (own_ch (own_kp o72 k85) k88 (e2% o72 (Nat.le_trans (Nat.le_refl w3.heap.size) p83))) k93) k100) k104) k112) k133) k169) k172 (e2% o72 (Nat.le_trans (z% k85 k88 k93 k100 k104 k112 k133) p167))) k210 (e1% o72 (Nat.lt_of_lt_of_le p44 (Nat.le_refl w2.heap.size))))
  have o219 := (own_ch (own_ch (own_kp (own_kp (own_kp (own_kp (own_kp (own_kp (own_ch (own_kp o77 k85) k88 (e2% o77 (Nat.le_trans (Nat.le_refl w3.heap.size) p83))) k93) k100) k104) k112) k133) k169) k172 (e2% o77 (Nat.le_trans (z% k85 k88 k93 k100 k104 k112 k133) p167))) k210 (e1% o77 (Nat.lt_of_lt_of_le p44 (Nat.le_refl w2.heap.size))))
  refine ret_2 (.inl rfl) (va (L_38 (F_impl_copyChan x_c) a50 c51 a55 c56 a60 c61 a65 c66 a70 c71 a75 c76)) (vi 6) rfl (rv_c [(vi ((F_impl_copyChan x_c).Role)), (vs a50 ((F_impl_copyChan x_c).Sn).length c51), (vi (((F_impl_copyChan x_c).Cur).N)), (vs a55 (((F_impl_copyChan x_c).Cur).Key).length c56), (vi (((F_impl_copyChan x_c).Cur).Seq)), (vi ((((F_impl_copyChan x_c).Cur).Win).Top)), (vs a60 ((((F_impl_copyChan x_c).Cur).Win).Bits).length c61), (vi (((F_impl_copyChan x_c).Old).N)), (vs a65 (((F_impl_copyChan x_c).Old).Key).length c66), (vi (((F_impl_copyChan x_c).Old).Seq)), (vi ((((F_impl_copyChan x_c).Old).Win).Top)), (vs a70 ((((F_impl_copyChan x_c).Old).Win).Bits).length c71), (vb ((F_impl_copyChan x_c).HasOld)), (vi ((F_impl_copyChan x_c).Until)), (vs a75 ((F_impl_copyChan x_c).Next).length c76)] rfl b211 isAgg_38 sizeOf_38) rfl ?_
  kp% m213
  have hF220 : F_impl_HearRekey x_c x_under x_plain = ((F_impl_copyChan x_c), 6) := by simp only [F_impl_HearRekey, h95, h98, h102, h114, h117, h177, cond_true, cond_false]
  rw [hF220]
  exact ⟨_, _, _, _, _, _, _, _, _, _, _, _, rfl, (own_lo o214 (Nat.le_trans k39.size k45.size)), s53, (own_lo o215 (Nat.le_trans k39.size k45.size)), s58, (own_lo o216 (Nat.le_trans k39.size k45.size)), s63, (own_lo o217 (Nat.le_trans k39.size k45.size)), s68, (own_lo o218 (Nat.le_trans k39.size k45.size)), s73, (own_lo o219 (Nat.le_trans k39.size k45.size)), s78, ⟨⟨(ap80.1.1), ⟨(ap80.1.2.1), ⟨(ap80.1.2.2.1), ⟨(ap80.1.2.2.2.1), ⟨(ap80.1.2.2.2.2.1), trivial⟩⟩⟩⟩⟩, ⟨⟨(ap80.2.1.1), ⟨(ap80.2.1.2.1), ⟨(ap80.2.1.2.2.1), ⟨(ap80.2.1.2.2.2.1), trivial⟩⟩⟩⟩, ⟨⟨(ap80.2.2.1.1), ⟨(ap80.2.2.1.2.1), ⟨(ap80.2.2.1.2.2.1), trivial⟩⟩⟩, ⟨⟨(ap80.2.2.2.1.1), ⟨(ap80.2.2.2.1.2.1), trivial⟩⟩, ⟨⟨(ap80.2.2.2.2.1.1), trivial⟩, ⟨trivial, trivial⟩⟩⟩⟩⟩⟩⟩
 dt% q178 h177
 refine mv (vb ((F_impl_Turn x_c).2)) (wS (congrArg not h177)) ?_
 refine pu (vb (!((F_impl_Turn x_c).2))) (wS (congrArg not h177)) ?_
 refine pf (vb (!((F_impl_Turn x_c).2))) wN (congrArg not h177) ?_
 n2%
 rcases bt ((F_impl_Turn x_c).2) with h179 | h179
 ·cf% (congrArg not h179)
  z1%
  refine lN (L_38 ((F_impl_Turn x_c).1) a134 c135 a139 c140 a144 c145 a149 c150 a154 c155 a159 c160) wN isAgg_38 sizeOf_38 b173 ?_
  have b181 := ((((((((((b46.kp k49).kp k85).ch k88 (Nat.ne_of_lt (Nat.lt_of_lt_of_le p44 (Nat.le_trans k49.size p83)))).kp k93).kp k100).kp k104).kp k112).kp k133).kp k169).ch k172 (Nat.ne_of_lt (Nat.lt_of_lt_of_le p44 (Nat.le_trans (z% k49 k85 k88 k93 k100 k104 k112 k133) p167))))
  sv% (L_38 ((F_impl_Turn x_c).1) a134 c135 a139 c140 a144 c145 a149 c150 a154 c155 a159 c160) sizeOf_38 b181
  intro w13 k182 b183 z184
  have m185 := m175.ext k182 (fun k hk => by subst hk; exact Nat.le_trans k39.size p43)
  ag% (vi 0)
  n3%
  have o186 := (own_ch (own_ch (own_kp o136 k169) k172 (e2% o136 (Nat.le_trans (Nat.le_refl w10.heap.size) p167))) k182 (e1% o136 (Nat.lt_of_lt_of_le p44 (z% k49 k85 k88 k93 k100 k104 k112))))
  have o187 := (own_ch (own_ch (own_kp o141 k169) k172 (e2% o141 (Nat.le_trans (Nat.le_refl w10.heap.size) p167))) k182 (e1% o141 (Nat.lt_of_lt_of_le p44 (z% k49 k85 k88 k93 k100 k104 k112))))
  have o188 := (own_ch (own_ch (own_kp o146 k169) k172 (e2% o146 (Nat.le_trans (Nat.le_refl w10.heap.size) p167))) k182 (e1% o146 (Nat.lt_of_lt_of_le p44 (z% k49 k85 k88 k93 k100 k104 k112))))
  have o189 := (own_ch (own_ch (own_kp o151 k169) k172 (e2% o151 (Nat.le_trans (Nat.le_refl w10.heap.size) p167))) k182 (e1% o151 (Nat.lt_of_lt_of_le p44 (z% k49 k85 k88 k93 k100 k104 k112))))
  have o190 := (own_ch (own_ch (own_kp o156 k169) k172 (e2% o156 (Nat.le_trans (Nat.le_refl w10.heap.size) p167))) k182 (e1% o156 (Nat.lt_of_lt_of_le p44 (z% k49 k85 k88 k93 k100 k104 k112))))
  have o191 := (own_ch (own_ch (own_kp o161 k169) k172 (e2% o161 (Nat.le_trans (Nat.le_refl w10.heap.size) p167))) k182 (e1% o161 (Nat.lt_of_lt_of_le p44 (z% k49 k85 k88 k93 k100 k104 k112))))
  refine ret_2 (.inl rfl) (va (L_38 ((F_impl_Turn x_c).1) a134 c135 a139 c140 a144 c145 a149 c150 a154 c155 a159 c160)) (vi 0) rfl (rv_c [(vi (((F_impl_Turn x_c).1).Role)), (vs a134 (((F_impl_Turn x_c).1).Sn).length c135), (vi ((((F_impl_Turn x_c).1).Cur).N)), (vs a139 ((((F_impl_Turn x_c).1).Cur).Key).length c140), (vi ((((F_impl_Turn x_c).1).Cur).Seq)), (vi (((((F_impl_Turn x_c).1).Cur).Win).Top)), (vs a144 (((((F_impl_Turn x_c).1).Cur).Win).Bits).length c145), (vi ((((F_impl_Turn x_c).1).Old).N)), (vs a149 ((((F_impl_Turn x_c).1).Old).Key).length c150), (vi ((((F_impl_Turn x_c).1).Old).Seq)), (vi (((((F_impl_Turn x_c).1).Old).Win).Top)), (vs a154 (((((F_impl_Turn x_c).1).Old).Win).Bits).length c155), (vb (((F_impl_Turn x_c).1).HasOld)), (vi (((F_impl_Turn x_c).1).Until)), (vs a159 (((F_impl_Turn x_c).1).Next).length c160)] rfl b183 isAgg_38 sizeOf_38) rfl ?_
  kp% m185
  have hF192 : F_impl_HearRekey x_c x_under x_plain = (((F_impl_Turn x_c).1), 0) := by simp only [F_impl_HearRekey, h95, h98, h102, h114, h117, h177, h179, cond_true, cond_false]
  rw [hF192]
  exact ⟨_, _, _, _, _, _, _, _, _, _, _, _, rfl, (own_lo o186 (z% k39 k45 k49 k85 k88 k93 k100 k104 k112)), s137, (own_lo o187 (z% k39 k45 k49 k85 k88 k93 k100 k104 k112)), s142, (own_lo o188 (z% k39 k45 k49 k85 k88 k93 k100 k104 k112)), s147, (own_lo o189 (z% k39 k45 k49 k85 k88 k93 k100 k104 k112)), s152, (own_lo o190 (z% k39 k45 k49 k85 k88 k93 k100 k104 k112)), s157, (own_lo o191 (z% k39 k45 k49 k85 k88 k93 k100 k104 k112)), s162, ⟨⟨(ap164.1.1), ⟨(ap164.1.2.1), ⟨(ap164.1.2.2.1), ⟨(ap164.1.2.2.2.1), ⟨(ap164.1.2.2.2.2.1), trivial⟩⟩⟩⟩⟩, ⟨⟨(ap164.2.1.1), ⟨(ap164.2.1.2.1), ⟨(ap164.2.1.2.2.1), ⟨(ap164.2.1.2.2.2.1), trivial⟩⟩⟩⟩, ⟨⟨(ap164.2.2.1.1), ⟨(ap164.2.2.1.2.1), ⟨(ap164.2.2.1.2.2.1), trivial⟩⟩⟩, ⟨⟨(ap164.2.2.2.1.1), ⟨(ap164.2.2.2.1.2.1), trivial⟩⟩, ⟨⟨(ap164.2.2.2.2.1.1), trivial⟩, ⟨trivial, trivial⟩⟩⟩⟩⟩⟩⟩
 ct% (congrArg not h179)
 sr%
 have b194 := (((((((b89.kp k93).kp k100).kp k104).kp k112).kp k133).kp k169).ch k172 (Nat.ne_of_lt (Nat.lt_of_lt_of_le p84 (Nat.le_trans (z% k88 k93 k100 k104 k112 k133) p167))))
 refine lN (L_38 (F_impl_copyChan x_c) a50 c51 a55 c56 a60 c61 a65 c66 a70 c71 a75 c76) wN isAgg_38 sizeOf_38 b194 ?_
 have b195 := ((((((((((b46.kp k49).kp k85).ch k88 (Nat.ne_of_lt (Nat.lt_of_lt_of_le p44 (Nat.le_trans k49.size p83)))).kp k93).kp k100).kp k104).kp k112).kp k133).kp k169).ch k172 (Nat.ne_of_lt (Nat.lt_of_lt_of_le p44 (Nat.le_trans (z% k49 k85 k88 k93 k100 k104 k112 k133) p167))))
 sv% (L_38 (F_impl_copyChan x_c) a50 c51 a55 c56 a60 c61 a65 c66 a70 c71 a75 c76) sizeOf_38 b195
 intro w13 k196 b197 z198
 have m199 := m175.ext k196 (fun k hk => by subst hk; exact Nat.le_trans k39.size p43)
 ag% (vi 6)
 n1%
 have o200 := (own_ch (own_ch (own_kp (own_kp (own_kp (own_kp (own_kp (own_kp (own_ch (own_kp o52 k85) k88 (e2% o52 (Nat.le_trans (Nat.le_refl w3.heap.size) p83))) k93) k100) k104) k112) k133) k169) k172 (e2% o52 (Nat.le_trans (z% k85 k88 k93 k100 k104 k112 k133) p167))) k196 (e1% o52 (Nat.lt_of_lt_of_le p44 (Nat.le_refl w2.heap.size))))
 have o201 := (own_ch (own_ch (own_kp (own_kp (own_kp (own_kp (own_kp (own_kp (own_ch (own_kp o57 k85) k88 (e2% o57 (Nat.le_trans (Nat.le_refl w3.heap.size) p83))) k93) k100) k104) k112) k133) k169) k172 (e2% o57 (Nat.le_trans (z% k85 k88 k93 k100 k104 k112 k133) p167))) k196 (e1% o57 (Nat.lt_of_lt_of_le p44 (Nat.le_refl w2.heap.size))))
 have o202 := (own_ch (own_ch (own_kp (own_kp (own_kp (own_kp (own_kp (own_kp (own_ch (own_kp o62 k85) k88 (e2% o62 (Nat.le_trans (Nat.le_refl w3.heap.size) p83))) k93) k100) k104) k112) k133) k169) k172 (e2% o62 (Nat.le_trans (z% k85 k88 k93 k100 k104 k112 k133) p167))) k196 (e1% o62 (Nat.lt_of_lt_of_le p44 (Nat.le_refl w2.heap.size))))
 have o203 := (own_ch (own_ch (own_kp (own_kp (own_kp (own_kp (own_kp (own_kp (own_ch (own_kp o67 k85) k88 (e2% o67 (Nat.le_trans (Nat.le_refl w3.heap.size) p83))) k93) k100) k104) k112) k133) k169) k172 (e2% o67 (Nat.le_trans (z% k85 k88 k93 k100 k104 k112 k133) p167))) k196 (e1% o67 (Nat.lt_of_lt_of_le p44 (Nat.le_refl w2.heap.size))))
 have o204 := (own_ch (own_ch (own_kp (own_kp (own_kp (own_kp (own_kp (own_kp (own_ch (own_kp o72 k85) k88 (e2% o72 (Nat.le_trans (Nat.le_refl w3.heap.size) p83))) k93) k100) k104) k112) k133) k169) k172 (e2% o72 (Nat.le_trans (z% k85 k88 k93 k100 k104 k112 k133) p167))) k196 (e1% o72 (Nat.lt_of_lt_of_le p44 (Nat.le_refl w2.heap.size))))
 have o205 := (own_ch (own_ch (own_kp (own_kp (own_kp (own_kp (own_kp (own_kp (own_ch (own_kp o77 k85) k88 (e2% o77 (Nat.le_trans (Nat.le_refl w3.heap.size) p83))) k93) k100) k104) k112) k133) k169) k172 (e2% o77 (Nat.le_trans (z% k85 k88 k93 k100 k104 k112 k133) p167))) k196 (e1% o77 (Nat.lt_of_lt_of_le p44 (Nat.le_refl w2.heap.size))))
 refine ret_2 (.inl rfl) (va (L_38 (F_impl_copyChan x_c) a50 c51 a55 c56 a60 c61 a65 c66 a70 c71 a75 c76)) (vi 6) rfl (rv_c [(vi ((F_impl_copyChan x_c).Role)), (vs a50 ((F_impl_copyChan x_c).Sn).length c51), (vi (((F_impl_copyChan x_c).Cur).N)), (vs a55 (((F_impl_copyChan x_c).Cur).Key).length c56), (vi (((F_impl_copyChan x_c).Cur).Seq)), (vi ((((F_impl_copyChan x_c).Cur).Win).Top)), (vs a60 ((((F_impl_copyChan x_c).Cur).Win).Bits).length c61), (vi (((F_impl_copyChan x_c).Old).N)), (vs a65 (((F_impl_copyChan x_c).Old).Key).length c66), (vi (((F_impl_copyChan x_c).Old).Seq)), (vi ((((F_impl_copyChan x_c).Old).Win).Top)), (vs a70 ((((F_impl_copyChan x_c).Old).Win).Bits).length c71), (vb ((F_impl_copyChan x_c).HasOld)), (vi ((F_impl_copyChan x_c).Until)), (vs a75 ((F_impl_copyChan x_c).Next).length c76)] rfl b197 isAgg_38 sizeOf_38) rfl ?_
 kp% m199
 have hF206 : F_impl_HearRekey x_c x_under x_plain = ((F_impl_copyChan x_c), 6) := by simp only [F_impl_HearRekey, h95, h98, h102, h114, h117, h177, h179, cond_true, cond_false]
 rw [hF206]
 exact ⟨_, _, _, _, _, _, _, _, _, _, _, _, rfl, (own_lo o200 (Nat.le_trans k39.size k45.size)), s53, (own_lo o201 (Nat.le_trans k39.size k45.size)), s58, (own_lo o202 (Nat.le_trans k39.size k45.size)), s63, (own_lo o203 (Nat.le_trans k39.size k45.size)), s68, (own_lo o204 (Nat.le_trans k39.size k45.size)), s73, (own_lo o205 (Nat.le_trans k39.size k45.size)), s78, ⟨⟨(ap80.1.1), ⟨(ap80.1.2.1), ⟨(ap80.1.2.2.1), ⟨(ap80.1.2.2.2.1), ⟨(ap80.1.2.2.2.2.1), trivial⟩⟩⟩⟩⟩, ⟨⟨(ap80.2.1.1), ⟨(ap80.2.1.2.1), ⟨(ap80.2.1.2.2.1), ⟨(ap80.2.1.2.2.2.1), trivial⟩⟩⟩⟩, ⟨⟨(ap80.2.2.1.1), ⟨(ap80.2.2.1.2.1), ⟨(ap80.2.2.1.2.2.1), trivial⟩⟩⟩, ⟨⟨(ap80.2.2.2.1.1), ⟨(ap80.2.2.2.1.2.1), trivial⟩⟩, ⟨⟨(ap80.2.2.2.2.1.1), trivial⟩, ⟨trivial, trivial⟩⟩⟩⟩⟩⟩⟩

theorem isAgg_50 : ∀ w, (isAgg 50).run Try.prog w = .ok true w := fun w => by kernel_rfl
theorem sizeOf_50 : ∀ w, (sizeOf 50).run Try.prog w = .ok 15 w := fun w => by kernel_rfl
abbrev L_50 (x : PChan) (a1 : Option Addr) (c1 : Nat) (a2 : Option Addr) (c2 : Nat) (a3 : Option Addr) (c3 : Nat) (a4 : Option Addr) (c4 : Nat) (a5 : Option Addr) (c5 : Nat) (a6 : Option Addr) (c6 : Nat) : List Value := [vi x.Role, vs a1 x.Sn.length c1, vi x.Cur.N, vs a2 x.Cur.Key.length c2, vi x.Cur.Seq, vi x.Cur.Win.Top, vs a3 x.Cur.Win.Bits.length c3, vi x.Old.N, vs a4 x.Old.Key.length c4, vi x.Old.Seq, vi x.Old.Win.Top, vs a5 x.Old.Win.Bits.length c5, vb x.HasOld, vi x.Until, vs a6 x.Next.length c6]
theorem mQ_50 {w : World} {x : PChan} {a1 : Option Addr} {c1 : Nat} {a2 : Option Addr} {c2 : Nat} {a3 : Option Addr} {c3 : Nat} {a4 : Option Addr} {c4 : Nat} {a5 : Option Addr} {c5 : Nat} {a6 : Option Addr} {c6 : Nat} (h1 : Rd w 1 (.slice a1 x.Sn.length c1) x.Sn.length (x.Sn.map bV)) (l1 : x.Sn.length ≤ 9223372036854775807) (h2 : Rd w 1 (.slice a2 x.Cur.Key.length c2) x.Cur.Key.length (x.Cur.Key.map bV)) (l2 : x.Cur.Key.length ≤ 9223372036854775807) (h3 : Rd w 1 (.slice a3 x.Cur.Win.Bits.length c3) x.Cur.Win.Bits.length (x.Cur.Win.Bits.map iV)) (l3 : x.Cur.Win.Bits.length ≤ 9223372036854775807) (h4 : Rd w 1 (.slice a4 x.Old.Key.length c4) x.Old.Key.length (x.Old.Key.map bV)) (l4 : x.Old.Key.length ≤ 9223372036854775807) (h5 : Rd w 1 (.slice a5 x.Old.Win.Bits.length c5) x.Old.Win.Bits.length (x.Old.Win.Bits.map iV)) (l5 : x.Old.Win.Bits.length ≤ 9223372036854775807) (h6 : Rd w 1 (.slice a6 x.Next.length c6) x.Next.length (x.Next.map bV)) (l6 : x.Next.length ≤ 9223372036854775807) : Q_50 w (va (L_50 x a1 c1 a2 c2 a3 c3 a4 c4 a5 c5 a6 c6)) x := ⟨_, _, _, _, _, _, _, _, _, _, _, _, rfl, h1, l1, h2, l2, h3, l3, h4, l4, h5, l5, h6, l6⟩
theorem mR_50 {w : World} {x : PChan} {a1 : Option Addr} {c1 : Nat} {a2 : Option Addr} {c2 : Nat} {a3 : Option Addr} {c3 : Nat} {a4 : Option Addr} {c4 : Nat} {a5 : Option Addr} {c5 : Nat} {a6 : Option Addr} {c6 : Nat} (h1 : Rd w 1 (.slice a1 x.Sn.length c1) x.Sn.length (x.Sn.map bV)) (l1 : x.Sn.length ≤ 1073741824) (h2 : Rd w 1 (.slice a2 x.Cur.Key.length c2) x.Cur.Key.length (x.Cur.Key.map bV)) (l2 : x.Cur.Key.length ≤ 1073741824) (h3 : Rd w 1 (.slice a3 x.Cur.Win.Bits.length c3) x.Cur.Win.Bits.length (x.Cur.Win.Bits.map iV)) (l3 : x.Cur.Win.Bits.length ≤ 1073741824) (h4 : Rd w 1 (.slice a4 x.Old.Key.length c4) x.Old.Key.length (x.Old.Key.map bV)) (l4 : x.Old.Key.length ≤ 1073741824) (h5 : Rd w 1 (.slice a5 x.Old.Win.Bits.length c5) x.Old.Win.Bits.length (x.Old.Win.Bits.map iV)) (l5 : x.Old.Win.Bits.length ≤ 1073741824) (h6 : Rd w 1 (.slice a6 x.Next.length c6) x.Next.length (x.Next.map bV)) (l6 : x.Next.length ≤ 1073741824) : R_50 w (va (L_50 x a1 c1 a2 c2 a3 c3 a4 c4 a5 c5 a6 c6)) x := ⟨_, _, _, _, _, _, _, _, _, _, _, _, rfl, h1, l1, h2, l2, h3, l3, h4, l4, h5, l5, h6, l6⟩
def F_laws_FnExactHearRekey (x_aC : PChan) (x_aUnder : Int) (x_aPlain : List UInt8) : (Bool) := bif (decide (1048576 < (x_aPlain.length : Int))) then (true) else (bif (decide ((F_laws_szChan x_aC 1048576) < 0)) then (true) else (bif (F_laws_eqChan (((F_impl_HearRekey (F_laws_toChan x_aC) x_aUnder (cpB x_aPlain))).1) (((F_spec_HearRekey (F_laws_toChan x_aC) x_aUnder (cpB x_aPlain))).1)) then (bif (decide (((F_impl_HearRekey (F_laws_toChan x_aC) x_aUnder (cpB x_aPlain))).2 = ((F_spec_HearRekey (F_laws_toChan x_aC) x_aUnder (cpB x_aPlain))).2)) then (bif (F_laws_eqChan (F_laws_toChan x_aC) (F_laws_toChan x_aC)) then (bif (eqB (cpB x_aPlain) (cpB x_aPlain)) then (bif (decide ((((((((1 + (((F_laws_toChan x_aC).Sn).length : Int)) + ((((F_laws_toChan x_aC).Cur).Key).length : Int)) + (((((F_laws_toChan x_aC).Cur).Win).Bits).length : Int)) + ((((F_laws_toChan x_aC).Old).Key).length : Int)) + (((((F_laws_toChan x_aC).Old).Win).Bits).length : Int)) + (((F_laws_toChan x_aC).Next).length : Int)) + ((cpB x_aPlain).length : Int)) < 0)) then (false) else (bif (decide (((F_laws_heldChan { Role := (((F_impl_HearRekey (F_laws_toChan x_aC) x_aUnder (cpB x_aPlain))).1).Role, Sn := (marksB 1 ((((F_impl_HearRekey (F_laws_toChan x_aC) x_aUnder (cpB x_aPlain))).1).Sn).length), Cur := { N := ((((F_impl_HearRekey (F_laws_toChan x_aC) x_aUnder (cpB x_aPlain))).1).Cur).N, Key := (marksB (1 + (((((F_impl_HearRekey (F_laws_toChan x_aC) x_aUnder (cpB x_aPlain))).1).Sn).length : Int)) (((((F_impl_HearRekey (F_laws_toChan x_aC) x_aUnder (cpB x_aPlain))).1).Cur).Key).length), Seq := ((((F_impl_HearRekey (F_laws_toChan x_aC) x_aUnder (cpB x_aPlain))).1).Cur).Seq, Win := { Top := (((((F_impl_HearRekey (F_laws_toChan x_aC) x_aUnder (cpB x_aPlain))).1).Cur).Win).Top, Bits := (marksI ((1 + (((((F_impl_HearRekey (F_laws_toChan x_aC) x_aUnder (cpB x_aPlain))).1).Sn).length : Int)) + ((((((F_impl_HearRekey (F_laws_toChan x_aC) x_aUnder (cpB x_aPlain))).1).Cur).Key).length : Int)) ((((((F_impl_HearRekey (F_laws_toChan x_aC) x_aUnder (cpB x_aPlain))).1).Cur).Win).Bits).length) : PWin } : PEp }, Old := { N := ((((F_impl_HearRekey (F_laws_toChan x_aC) x_aUnder (cpB x_aPlain))).1).Old).N, Key := (marksB (((1 + (((((F_impl_HearRekey (F_laws_toChan x_aC) x_aUnder (cpB x_aPlain))).1).Sn).length : Int)) + ((((((F_impl_HearRekey (F_laws_toChan x_aC) x_aUnder (cpB x_aPlain))).1).Cur).Key).length : Int)) + (((((((F_impl_HearRekey (F_laws_toChan x_aC) x_aUnder (cpB x_aPlain))).1).Cur).Win).Bits).length : Int)) (((((F_impl_HearRekey (F_laws_toChan x_aC) x_aUnder (cpB x_aPlain))).1).Old).Key).length), Seq := ((((F_impl_HearRekey (F_laws_toChan x_aC) x_aUnder (cpB x_aPlain))).1).Old).Seq, Win := { Top := (((((F_impl_HearRekey (F_laws_toChan x_aC) x_aUnder (cpB x_aPlain))).1).Old).Win).Top, Bits := (marksI ((((1 + (((((F_impl_HearRekey (F_laws_toChan x_aC) x_aUnder (cpB x_aPlain))).1).Sn).length : Int)) + ((((((F_impl_HearRekey (F_laws_toChan x_aC) x_aUnder (cpB x_aPlain))).1).Cur).Key).length : Int)) + (((((((F_impl_HearRekey (F_laws_toChan x_aC) x_aUnder (cpB x_aPlain))).1).Cur).Win).Bits).length : Int)) + ((((((F_impl_HearRekey (F_laws_toChan x_aC) x_aUnder (cpB x_aPlain))).1).Old).Key).length : Int)) ((((((F_impl_HearRekey (F_laws_toChan x_aC) x_aUnder (cpB x_aPlain))).1).Old).Win).Bits).length) : PWin } : PEp }, HasOld := (((F_impl_HearRekey (F_laws_toChan x_aC) x_aUnder (cpB x_aPlain))).1).HasOld, Until := (((F_impl_HearRekey (F_laws_toChan x_aC) x_aUnder (cpB x_aPlain))).1).Until, Next := (marksB (((((1 + (((((F_impl_HearRekey (F_laws_toChan x_aC) x_aUnder (cpB x_aPlain))).1).Sn).length : Int)) + ((((((F_impl_HearRekey (F_laws_toChan x_aC) x_aUnder (cpB x_aPlain))).1).Cur).Key).length : Int)) + (((((((F_impl_HearRekey (F_laws_toChan x_aC) x_aUnder (cpB x_aPlain))).1).Cur).Win).Bits).length : Int)) + ((((((F_impl_HearRekey (F_laws_toChan x_aC) x_aUnder (cpB x_aPlain))).1).Old).Key).length : Int)) + (((((((F_impl_HearRekey (F_laws_toChan x_aC) x_aUnder (cpB x_aPlain))).1).Old).Win).Bits).length : Int)) ((((F_impl_HearRekey (F_laws_toChan x_aC) x_aUnder (cpB x_aPlain))).1).Next).length) : PChan } 1)) < 0)) then (false) else (bif (decide (((F_laws_heldChan { Role := (((F_impl_HearRekey (F_laws_toChan x_aC) x_aUnder (cpB x_aPlain))).1).Role, Sn := (marksB 1 ((((F_impl_HearRekey (F_laws_toChan x_aC) x_aUnder (cpB x_aPlain))).1).Sn).length), Cur := { N := ((((F_impl_HearRekey (F_laws_toChan x_aC) x_aUnder (cpB x_aPlain))).1).Cur).N, Key := (marksB (1 + (((((F_impl_HearRekey (F_laws_toChan x_aC) x_aUnder (cpB x_aPlain))).1).Sn).length : Int)) (((((F_impl_HearRekey (F_laws_toChan x_aC) x_aUnder (cpB x_aPlain))).1).Cur).Key).length), Seq := ((((F_impl_HearRekey (F_laws_toChan x_aC) x_aUnder (cpB x_aPlain))).1).Cur).Seq, Win := { Top := (((((F_impl_HearRekey (F_laws_toChan x_aC) x_aUnder (cpB x_aPlain))).1).Cur).Win).Top, Bits := (marksI ((1 + (((((F_impl_HearRekey (F_laws_toChan x_aC) x_aUnder (cpB x_aPlain))).1).Sn).length : Int)) + ((((((F_impl_HearRekey (F_laws_toChan x_aC) x_aUnder (cpB x_aPlain))).1).Cur).Key).length : Int)) ((((((F_impl_HearRekey (F_laws_toChan x_aC) x_aUnder (cpB x_aPlain))).1).Cur).Win).Bits).length) : PWin } : PEp }, Old := { N := ((((F_impl_HearRekey (F_laws_toChan x_aC) x_aUnder (cpB x_aPlain))).1).Old).N, Key := (marksB (((1 + (((((F_impl_HearRekey (F_laws_toChan x_aC) x_aUnder (cpB x_aPlain))).1).Sn).length : Int)) + ((((((F_impl_HearRekey (F_laws_toChan x_aC) x_aUnder (cpB x_aPlain))).1).Cur).Key).length : Int)) + (((((((F_impl_HearRekey (F_laws_toChan x_aC) x_aUnder (cpB x_aPlain))).1).Cur).Win).Bits).length : Int)) (((((F_impl_HearRekey (F_laws_toChan x_aC) x_aUnder (cpB x_aPlain))).1).Old).Key).length), Seq := ((((F_impl_HearRekey (F_laws_toChan x_aC) x_aUnder (cpB x_aPlain))).1).Old).Seq, Win := { Top := (((((F_impl_HearRekey (F_laws_toChan x_aC) x_aUnder (cpB x_aPlain))).1).Old).Win).Top, Bits := (marksI ((((1 + (((((F_impl_HearRekey (F_laws_toChan x_aC) x_aUnder (cpB x_aPlain))).1).Sn).length : Int)) + ((((((F_impl_HearRekey (F_laws_toChan x_aC) x_aUnder (cpB x_aPlain))).1).Cur).Key).length : Int)) + (((((((F_impl_HearRekey (F_laws_toChan x_aC) x_aUnder (cpB x_aPlain))).1).Cur).Win).Bits).length : Int)) + ((((((F_impl_HearRekey (F_laws_toChan x_aC) x_aUnder (cpB x_aPlain))).1).Old).Key).length : Int)) ((((((F_impl_HearRekey (F_laws_toChan x_aC) x_aUnder (cpB x_aPlain))).1).Old).Win).Bits).length) : PWin } : PEp }, HasOld := (((F_impl_HearRekey (F_laws_toChan x_aC) x_aUnder (cpB x_aPlain))).1).HasOld, Until := (((F_impl_HearRekey (F_laws_toChan x_aC) x_aUnder (cpB x_aPlain))).1).Until, Next := (marksB (((((1 + (((((F_impl_HearRekey (F_laws_toChan x_aC) x_aUnder (cpB x_aPlain))).1).Sn).length : Int)) + ((((((F_impl_HearRekey (F_laws_toChan x_aC) x_aUnder (cpB x_aPlain))).1).Cur).Key).length : Int)) + (((((((F_impl_HearRekey (F_laws_toChan x_aC) x_aUnder (cpB x_aPlain))).1).Cur).Win).Bits).length : Int)) + ((((((F_impl_HearRekey (F_laws_toChan x_aC) x_aUnder (cpB x_aPlain))).1).Old).Key).length : Int)) + (((((((F_impl_HearRekey (F_laws_toChan x_aC) x_aUnder (cpB x_aPlain))).1).Old).Win).Bits).length : Int)) ((((F_impl_HearRekey (F_laws_toChan x_aC) x_aUnder (cpB x_aPlain))).1).Next).length) : PChan } 1)) = ((((((1 + (((((F_impl_HearRekey (F_laws_toChan x_aC) x_aUnder (cpB x_aPlain))).1).Sn).length : Int)) + ((((((F_impl_HearRekey (F_laws_toChan x_aC) x_aUnder (cpB x_aPlain))).1).Cur).Key).length : Int)) + (((((((F_impl_HearRekey (F_laws_toChan x_aC) x_aUnder (cpB x_aPlain))).1).Cur).Win).Bits).length : Int)) + ((((((F_impl_HearRekey (F_laws_toChan x_aC) x_aUnder (cpB x_aPlain))).1).Old).Key).length : Int)) + (((((((F_impl_HearRekey (F_laws_toChan x_aC) x_aUnder (cpB x_aPlain))).1).Old).Win).Bits).length : Int)) + (((((F_impl_HearRekey (F_laws_toChan x_aC) x_aUnder (cpB x_aPlain))).1).Next).length : Int)))) then (true) else (false)))) else (false)) else (false)) else (false)) else (false)))
theorem C_laws_FnExactHearRekey (w0 : World) (v_x_aC : Value) (x_aC : PChan) (r_x_aC : Q_50 w0 v_x_aC x_aC) (x_aUnder : Int) (v_x_aPlain : Value) (x_aPlain : List UInt8) (r_x_aPlain : Q_22 w0 v_x_aPlain x_aPlain)  : Fn Try.prog 8 #[v_x_aC, (vi x_aUnder), v_x_aPlain] w0 (fun v w' => Keep w0 w' ∧ O_4 w' w0.heap.size v (F_laws_FnExactHearRekey x_aC x_aUnder x_aPlain)) := by
 obtain ⟨a1, c2, a6, c7, a11, c12, a16, c17, a21, c22, a26, c27, rfl, r3, s4, r8, s9, r13, s14, r18, s19, r23, s24, r28, s29⟩ := r_x_aC
 obtain ⟨a31, c32, rfl, r33, s34⟩ := r_x_aPlain
 refine fn_of (n := 122) (l := [(va (L_38 x_aC a1 c2 a6 c7 a11 c12 a16 c17 a21 c22 a26 c27)), (vi x_aUnder), (vs a31 x_aPlain.length c32), U, U, U, U, U, U, U, U, U, U, U, U, U, U, U, U, U, U, U, U, U, U, U, U, U, U, U, U, U, U, U, U, U, U, U, U, U, U, U, U, U, U, U, U, U, U, U, U, U, U, U, U, U, U, U, U, U, U, U, U, U, U, U, U, U, U, U, U, U, U, U, U, U, U, U, U, U, U, U, U, U, U, U, U, U, U, U, U, U, U, U, U, U, U, U, U, U, U, U, U, U, U, U, U, U, U, U, U, U, U, U, U, U, U, U, U, U, U, U]) Try.func8 rfl rfl k% rfl ?_
 sr%
 refine bx (L_38 x_aC a1 c2 a6 c7 a11 c12 a16 c17 a21 c22 a26 c27) wN ?_
 intro g36 w1 p37 p38 k39 b40
 have m41 := (Ch.base w0).extk k39
 ag% (vb false)
 n4%
 mv% (vs a31 x_aPlain.length c32)
 refine ln wN slTy_22 (r33.from0 m41) ?_
 pu% (vb (decide (1048576 < (x_aPlain.length : Int))))
 n2%
 rcases bt (decide (1048576 < (x_aPlain.length : Int))) with h42 | h42
 ·dt% q43 h42
  ct% h42
  sr%
  ag% (vb true)
  n1%
  r1% (vb true)
  kp% m41
  have hF44 : F_laws_FnExactHearRekey x_aC x_aUnder x_aPlain = true := by first | (simp only [F_laws_FnExactHearRekey, h42, cond_true, cond_false]; done) | (unfold F_laws_FnExactHearRekey; try rw [h42]; rfl)
  rw [hF44]
  exact rfl
 df% q45 h42
 cf% h42
 z1%
 ag% (vi 1048576)
 nx%
 refine lN (L_38 x_aC a1 c2 a6 c7 a11 c12 a16 c17 a21 c22 a26 c27) wN isAgg_50 sizeOf_50 b40 ?_
 mv% (vi 1048576)
 cl% (C_laws_szChan w1 _ x_aC (mQ_50 (r3.from0 m41) s4 (r8.from0 m41) s9 (r13.from0 m41) s14 (r18.from0 m41) s19 (r23.from0 m41) s24 (r28.from0 m41) s29) 1048576 o% o%)
 rintro _ w2 ⟨k46, rfl⟩
 m% m47 m41 k46
 have q48 := laws_szChan_le x_aC 1048576
 ag% (vi (F_laws_szChan x_aC 1048576))
 n4%
 mv% (vi (F_laws_szChan x_aC 1048576))
 pu% (vb (decide ((F_laws_szChan x_aC 1048576) < 0)))
 n2%
 rcases bt (decide ((F_laws_szChan x_aC 1048576) < 0)) with h49 | h49
 ·dt% q50 h49
  ct% h49
  sr%
  ag% (vb true)
  n1%
  r1% (vb true)
  kp% m47
  have hF51 : F_laws_FnExactHearRekey x_aC x_aUnder x_aPlain = true := by first | (simp only [F_laws_FnExactHearRekey, h42, h49, cond_true, cond_false]; done) | (unfold F_laws_FnExactHearRekey; try rw [h42]; try rw [h49]; rfl)
  rw [hF51]
  exact rfl
 df% q52 h49
 cf% h49
 z1%
 have b53 := (b40.kp k46)
 refine lN (L_38 x_aC a1 c2 a6 c7 a11 c12 a16 c17 a21 c22 a26 c27) wN isAgg_50 sizeOf_50 b53 ?_
 cl% (C_laws_toChan w2 _ x_aC (mR_50 (r3.from0 m47) o% (r8.from0 m47) o% (r13.from0 m47) o% (r18.from0 m47) o% (r23.from0 m47) o% (r28.from0 m47) o%))
 rintro _ w3 ⟨k54, ⟨a55, c56, a60, c61, a65, c66, a70, c71, a75, c76, a80, c81, rfl, o57, s58, o62, s63, o67, s68, o72, s73, o77, s78, o82, s83, ap85⟩⟩
 m% m86 m47 k54
 mv% (vi x_aUnder)
 mv% (vs a31 x_aPlain.length c32)
 cl% (C_laws_toByteS w3 _ x_aPlain (mR_22 (r33.from0 m86) o%))
 rintro _ w4 ⟨k87, ⟨a88, c89, rfl, o90, s91, ap93⟩⟩
 m% m94 m86 k87
 have o95 := (own_kp o57 k87)
 have o96 := (own_kp o62 k87)
 have o97 := (own_kp o67 k87)
 have o98 := (own_kp o72 k87)
 have o99 := (own_kp o77 k87)
 have o100 := (own_kp o82 k87)
 obtain ⟨y102, e103⟩ : ∃ y, F_spec_HearRekey (F_laws_toChan x_aC) x_aUnder (cpB x_aPlain) = y := ⟨_, rfl⟩
 have hc101 := C_spec_HearRekey w4 _ (F_laws_toChan x_aC) (mR_38 (Rd.of_own o95) s58 (Rd.of_own o96) s63 (Rd.of_own o97) s68 (Rd.of_own o98) s73 (Rd.of_own o99) s78 (Rd.of_own o100) s83) x_aUnder _ (cpB x_aPlain) (mR_22 (Rd.of_own o90) s91)
 rw [e103] at hc101
 cl% hc101
 rintro _ w5 ⟨k104, ⟨a105, c106, a110, c111, a115, c116, a120, c121, a125, c126, a130, c131, rfl, o107, s108, o112, s113, o117, s118, o122, s123, o127, s128, o132, s133, ap135⟩⟩
 m% m136 m94 k104
 mv% (.tuple #[(va (L_38 ((y102).1) a105 c106 a110 c111 a115 c116 a120 c121 a125 c126 a130 c131)), (vi ((y102).2))])
 pu% (va (L_38 ((y102).1) a105 c106 a110 c111 a115 c116 a120 c121 a125 c126 a130 c131))
 pu% (vi ((y102).2))
 refine al [(vi 0), (vs none 0 0), (vi 0), (vs none 0 0), (vi 0), (vi 0), (vs none 0 0), (vi 0), (vs none 0 0), (vi 0), (vi 0), (vs none 0 0), (vb false), (vi 0), (vs none 0 0)] wN zero_38 ?_
 intro g137 w6 p138 p139 k140 b141
 m% m142 m136 k140
 sv% (L_38 ((y102).1) a105 c106 a110 c111 a115 c116 a120 c121 a125 c126 a130 c131) sizeOf_38 b141
 intro w7 k143 b144 z145
 have m146 := m142.ext k143 (fun k hk => by subst hk; exact Nat.le_trans (z% k39 k46 k54 k87 k104) p138)
 ag% (vi ((y102).2))
 nx%
 have b147 := (((((b53.kp k54).kp k87).kp k104).kp k140).ch k143 (Nat.ne_of_lt (Nat.lt_of_lt_of_le p38 (Nat.le_trans (z% k46 k54 k87 k104) p138))))
 refine lN (L_38 x_aC a1 c2 a6 c7 a11 c12 a16 c17 a21 c22 a26 c27) wN isAgg_50 sizeOf_50 b147 ?_
 cl% (C_laws_toChan w7 _ x_aC (mR_50 (r3.from0 m146) o% (r8.from0 m146) o% (r13.from0 m146) o% (r18.from0 m146) o% (r23.from0 m146) o% (r28.from0 m146) o%))
 rintro _ w8 ⟨k148, ⟨a149, c150, a154, c155, a159, c160, a164, c165, a169, c170, a174, c175, rfl, o151, s152, o156, s157, o161, s162, o166, s167, o171, s172, o176, s177, ap179⟩⟩
 m% m180 m146 k148
 refine al [(vi 0), (vs none 0 0), (vi 0), (vs none 0 0), (vi 0), (vi 0), (vs none 0 0), (vi 0), (vs none 0 0), (vi 0), (vi 0), (vs none 0 0), (vb false), (vi 0), (vs none 0 0)] wN zero_38 ?_
 intro g181 w9 p182 p183 k184 b185
 m% m186 m180 k184
 sv% (L_38 (F_laws_toChan x_aC) a149 c150 a154 c155 a159 c160 a164 c165 a169 c170 a174 c175) sizeOf_38 b185
 intro w10 k187 b188 z189
 have m190 := m186.ext k187 (fun k hk => by subst hk; exact Nat.le_trans (z% k39 k46 k54 k87 k104 k140 k143 k148) p182)
 nx%
 mv% (vs a31 x_aPlain.length c32)
 cl% (C_laws_toByteS w10 _ x_aPlain (mR_22 (r33.from0 m190) o%))
 rintro _ w11 ⟨k191, ⟨a192, c193, rfl, o194, s195, ap197⟩⟩
 m% m198 m190 k191
 ag% (vs a192 (cpB x_aPlain).length c193)
 nx%
 have b199 := (b188.kp k191)
 refine lN (L_38 (F_laws_toChan x_aC) a149 c150 a154 c155 a159 c160 a164 c165 a169 c170 a174 c175) wN isAgg_38 sizeOf_38 b199 ?_
 mv% (vi x_aUnder)
 mv% (vs a192 (cpB x_aPlain).length c193)
 have o200 := (own_kp (own_ch (own_kp o151 k184) k187 (e2% o151 (Nat.le_trans (Nat.le_refl w8.heap.size) p182))) k191)
 have o201 := (own_kp (own_ch (own_kp o156 k184) k187 (e2% o156 (Nat.le_trans (Nat.le_refl w8.heap.size) p182))) k191)
 have o202 := (own_kp (own_ch (own_kp o161 k184) k187 (e2% o161 (Nat.le_trans (Nat.le_refl w8.heap.size) p182))) k191)
 have o203 := (own_kp (own_ch (own_kp o166 k184) k187 (e2% o166 (Nat.le_trans (Nat.le_refl w8.heap.size) p182))) k191)
 have o204 := (own_kp (own_ch (own_kp o171 k184) k187 (e2% o171 (Nat.le_trans (Nat.le_refl w8.heap.size) p182))) k191)
 have o205 := (own_kp (own_ch (own_kp o176 k184) k187 (e2% o176 (Nat.le_trans (Nat.le_refl w8.heap.size) p182))) k191)
 obtain ⟨y207, e208⟩ : ∃ y, F_impl_HearRekey (F_laws_toChan x_aC) x_aUnder (cpB x_aPlain) = y := ⟨_, rfl⟩
 have hc206 := C_impl_HearRekey w11 _ (F_laws_toChan x_aC) (mR_38 (Rd.of_own o200) s152 (Rd.of_own o201) s157 (Rd.of_own o202) s162 (Rd.of_own o203) s167 (Rd.of_own o204) s172 (Rd.of_own o205) s177) x_aUnder _ (cpB x_aPlain) (mR_22 (Rd.of_own o194) s195)
 rw [e208] at hc206
 cl% hc206
 rintro _ w12 ⟨k209, ⟨a210, c211, a215, c216, a220, c221, a225, c226, a230, c231, a235, c236, rfl, o212, s213, o217, s218, o222, s223, o227, s228, o232, s233, o237, s238, ap240⟩⟩
 m% m241 m198 k209
 mv% (.tuple #[(va (L_38 ((y207).1) a210 c211 a215 c216 a220 c221 a225 c226 a230 c231 a235 c236)), (vi ((y207).2))])
 pu% (va (L_38 ((y207).1) a210 c211 a215 c216 a220 c221 a225 c226 a230 c231 a235 c236))
 pu% (vi ((y207).2))
 refine al [(vi 0), (vs none 0 0), (vi 0), (vs none 0 0), (vi 0), (vi 0), (vs none 0 0), (vi 0), (vs none 0 0), (vi 0), (vi 0), (vs none 0 0), (vb false), (vi 0), (vs none 0 0)] wN zero_38 ?_
 intro g242 w13 p243 p244 k245 b246
 m% m247 m241 k245
 sv% (L_38 ((y207).1) a210 c211 a215 c216 a220 c221 a225 c226 a230 c231 a235 c236) sizeOf_38 b246
 intro w14 k248 b249 z250
 have m251 := m247.ext k248 (fun k hk => by subst hk; exact Nat.le_trans (z% k39 k46 k54 k87 k104 k140 k143 k148 k184 k187 k191 k209) p243)
 ag% (vi ((y207).2))
 n4%
 refine lN (L_38 ((y207).1) a210 c211 a215 c216 a220 c221 a225 c226 a230 c231 a235 c236) wN isAgg_38 sizeOf_38 b249 ?_
 have b252 := (((((((b144.kp k148).kp k184).ch k187 (Nat.ne_of_lt (Nat.lt_of_lt_of_le p139 (Nat.le_trans (Nat.le_trans k143.size k148.size) p182)))).kp k191).kp k209).kp k245).ch k248 (Nat.ne_of_lt (Nat.lt_of_lt_of_le p139 (Nat.le_trans (z% k143 k148 k184 k187 k191 k209) p243))))
 refine lN (L_38 ((y102).1) a105 c106 a110 c111 a115 c116 a120 c121 a125 c126 a130 c131) wN isAgg_38 sizeOf_38 b252 ?_
 have o253 := (own_ch (own_kp o212 k245) k248 (e2% o212 (Nat.le_trans (Nat.le_refl w12.heap.size) p243)))
 have o254 := (own_ch (own_kp o217 k245) k248 (e2% o217 (Nat.le_trans (Nat.le_refl w12.heap.size) p243)))
 have o255 := (own_ch (own_kp o222 k245) k248 (e2% o222 (Nat.le_trans (Nat.le_refl w12.heap.size) p243)))
 have o256 := (own_ch (own_kp o227 k245) k248 (e2% o227 (Nat.le_trans (Nat.le_refl w12.heap.size) p243)))
 have o257 := (own_ch (own_kp o232 k245) k248 (e2% o232 (Nat.le_trans (Nat.le_refl w12.heap.size) p243)))
 have o258 := (own_ch (own_kp o237 k245) k248 (e2% o237 (Nat.le_trans (Nat.le_refl w12.heap.size) p243)))
 have o259 := (own_ch (own_kp (own_kp (own_kp (own_ch (own_kp (own_kp (own_ch (own_kp o107 k140) k143 (e2% o107 (Nat.le_trans (Nat.le_refl w5.heap.size) p138))) k148) k184) k187 (e2% o107 (Nat.le_trans (z% k140 k143 k148) p182))) k191) k209) k245) k248 (e2% o107 (Nat.le_trans (z% k140 k143 k148 k184 k187 k191 k209) p243)))
 have o260 := (own_ch (own_kp (own_kp (own_kp (own_ch (own_kp (own_kp (own_ch (own_kp o112 k140) k143 (e2% o112 (Nat.le_trans (Nat.le_refl w5.heap.size) p138))) k148) k184) k187 (e2% o112 (Nat.le_trans (z% k140 k143 k148) p182))) k191) k209) k245) k248 (e2% o112 (Nat.le_trans (z% k140 k143 k148 k184 k187 k191 k209) p243)))
 have o261 := (own_ch (own_kp (own_kp (own_kp (own_ch (own_kp (own_kp (own_ch (own_kp o117 k140) k143 (e2% o117 (Nat.le_trans (Nat.le_refl w5.heap.size) p138))) k148) k184) k187 (e2% o117 (Nat.le_trans (z% k140 k143 k148) p182))) k191) k209) k245) k248 (e2% o117 (Nat.le_trans (z% k140 k143 k148 k184 k187 k191 k209) p243)))
 have o262 := (own_ch (own_kp (own_kp (own_kp (own_ch (own_kp (own_kp (own_ch (own_kp o122 k140) k143 (e2% o122 (Nat.le_trans (Nat.le_refl w5.heap.size) p138))) k148) k184) k187 (e2% o122 (Nat.le_trans (z% k140 k143 k148) p182))) k191) k209) k245) k248 (e2% o122 (Nat.le_trans (z% k140 k143 k148 k184 k187 k191 k209) p243)))
 have o263 := (own_ch (own_kp (own_kp (own_kp (own_ch (own_kp (own_kp (own_ch (own_kp o127 k140) k143 (e2% o127 (Nat.le_trans (Nat.le_refl w5.heap.size) p138))) k148) k184) k187 (e2% o127 (Nat.le_trans (z% k140 k143 k148) p182))) k191) k209) k245) k248 (e2% o127 (Nat.le_trans (z% k140 k143 k148 k184 k187 k191 k209) p243)))
 have o264 := (own_ch (own_kp (own_kp (own_kp (own_ch (own_kp (own_kp (own_ch (own_kp o132 k140) k143 (e2% o132 (Nat.le_trans (Nat.le_refl w5.heap.size) p138))) k148) k184) k187 (e2% o132 (Nat.le_trans (z% k140 k143 k148) p182))) k191) k209) k245) k248 (e2% o132 (Nat.le_trans (z% k140 k143 k148 k184 k187 k191 k209) p243)))
 cl% (C_laws_eqChan w14 _ ((y207).1) (mR_38 (Rd.of_own o253) s213 (Rd.of_own o254) s218 (Rd.of_own o255) s223 (Rd.of_own o256) s228 (Rd.of_own o257) s233 (Rd.of_own o258) s238) _ ((y102).1) (mR_38 (Rd.of_own o259) s108 (Rd.of_own o260) s113 (Rd.of_own o261) s118 (Rd.of_own o262) s123 (Rd.of_own o263) s128 (Rd.of_own o264) s133))
 rintro _ w15 ⟨k265, rfl⟩
 m% m266 m251 k265
 pu% (vb (!(F_laws_eqChan ((y207).1) ((y102).1))))
 mv% (vb (!(F_laws_eqChan ((y207).1) ((y102).1))))
 rcases bf (F_laws_eqChan ((y207).1) ((y102).1)) with h267 | h267
 ·sn% h267
  sn% h267
  sn% h267
  refine pk (vb true) wN (congrArg not h267) ?_
  n2%
  ct% (Eq.refl true)
  sr%
  ag% (vb false)
  n1%
  r1% (vb false)
  kp% m266
  have hF655 : F_laws_FnExactHearRekey x_aC x_aUnder x_aPlain = false := by first | (simp only [F_laws_FnExactHearRekey, h42, h49, e103, e208, h267, cond_true, cond_false]; done) | (unfold F_laws_FnExactHearRekey; try rw [h42]; try rw [h49]; try rw [e103]; try rw [e208]; try rw [h267]; rfl)
  rw [hF655]
  exact rfl
 refine mv (vi ((y207).2)) (wS (congrArg not h267)) ?_
 refine mv (vi ((y102).2)) (wS (congrArg not h267)) ?_
 refine pu (vb (!(decide ((y207).2 = (y102).2)))) (wS (congrArg not h267)) ?_
 refine pf (vb (!(decide ((y207).2 = (y102).2)))) wN (congrArg not h267) ?_
 n2%
 rcases bf (decide ((y207).2 = (y102).2)) with h269 | h269
 ·df% q652 h269
  ct% (congrArg not h269)
  sr%
  ag% (vb false)
  n1%
  r1% (vb false)
  kp% m266
  have hF653 : F_laws_FnExactHearRekey x_aC x_aUnder x_aPlain = false := by first | (simp only [F_laws_FnExactHearRekey, h42, h49, e103, e208, h267, h269, cond_true, cond_false]; done) | (unfold F_laws_FnExactHearRekey; try rw [h42]; try rw [h49]; try rw [e103]; try rw [e208]; try rw [h267]; try rw [h269]; rfl)
  rw [hF653]
  exact rfl
 dt% q270 h269
 cf% (congrArg not h269)
 refine wc_skip <| wq_then <| wc_seq <| wc_seq ?_
 refine wc_drawT ([(56, [], [], (fun _ v _ => v = (.agg #[(vi ((F_laws_toChan x_aC).Role)), (vs a149 ((F_laws_toChan x_aC).Sn).length c150), (vi (((F_laws_toChan x_aC).Cur).N)), (vs a154 (((F_laws_toChan x_aC).Cur).Key).length c155), (vi (((F_laws_toChan x_aC).Cur).Seq)), (vi ((((F_laws_toChan x_aC).Cur).Win).Top)), (vs a159 ((((F_laws_toChan x_aC).Cur).Win).Bits).length c160), (vi (((F_laws_toChan x_aC).Old).N)), (vs a164 (((F_laws_toChan x_aC).Old).Key).length c165), (vi (((F_laws_toChan x_aC).Old).Seq)), (vi ((((F_laws_toChan x_aC).Old).Win).Top)), (vs a169 ((((F_laws_toChan x_aC).Old).Win).Bits).length c170), (vb ((F_laws_toChan x_aC).HasOld)), (vi ((F_laws_toChan x_aC).Until)), (vs a174 ((F_laws_toChan x_aC).Next).length c175)]))), (57, [], [], (fun _ v _ => v = (.agg #[(vi x_aC.Role), (vs a1 x_aC.Sn.length c2), (vi x_aC.Cur.N), (vs a6 x_aC.Cur.Key.length c7), (vi x_aC.Cur.Seq), (vi x_aC.Cur.Win.Top), (vs a11 x_aC.Cur.Win.Bits.length c12), (vi x_aC.Old.N), (vs a16 x_aC.Old.Key.length c17), (vi x_aC.Old.Seq), (vi x_aC.Old.Win.Top), (vs a21 x_aC.Old.Win.Bits.length c22), (vb x_aC.HasOld), (vi x_aC.Until), (vs a26 x_aC.Next.length c27)]))), (58, [], [1], (fun _ v w => ∃ (a1 : Option Addr) (c1 : Nat) (a2 : Option Addr) (c2 : Nat) (a3 : Option Addr) (c3 : Nat) (a4 : Option Addr) (c4 : Nat) (a5 : Option Addr) (c5 : Nat) (a6 : Option Addr) (c6 : Nat), v = .agg #[.int .i64 ((F_laws_toChan x_aC).Role), .slice a1 ((F_laws_toChan x_aC).Sn).length c1, .int .i64 (((F_laws_toChan x_aC).Cur).N), .slice a2 (((F_laws_toChan x_aC).Cur).Key).length c2, .int .i64 (((F_laws_toChan x_aC).Cur).Seq), .int .i64 ((((F_laws_toChan x_aC).Cur).Win).Top), .slice a3 ((((F_laws_toChan x_aC).Cur).Win).Bits).length c3, .int .i64 (((F_laws_toChan x_aC).Old).N), .slice a4 (((F_laws_toChan x_aC).Old).Key).length c4, .int .i64 (((F_laws_toChan x_aC).Old).Seq), .int .i64 ((((F_laws_toChan x_aC).Old).Win).Top), .slice a5 ((((F_laws_toChan x_aC).Old).Win).Bits).length c5, .bool ((F_laws_toChan x_aC).HasOld), .int .i64 ((F_laws_toChan x_aC).Until), .slice a6 ((F_laws_toChan x_aC).Next).length c6] ∧ w.ownsRow (w15.heap.size) 5 1 (.slice a1 ((F_laws_toChan x_aC).Sn).length c1) ((F_laws_toChan x_aC).Sn).length (((F_laws_toChan x_aC).Sn).map bV) ∧ ((F_laws_toChan x_aC).Sn).length ≤ 1073741824 ∧ w.ownsRow (w15.heap.size) 5 1 (.slice a2 (((F_laws_toChan x_aC).Cur).Key).length c2) (((F_laws_toChan x_aC).Cur).Key).length ((((F_laws_toChan x_aC).Cur).Key).map bV) ∧ (((F_laws_toChan x_aC).Cur).Key).length ≤ 1073741824 ∧ w.ownsRow (w15.heap.size) 3 1 (.slice a3 ((((F_laws_toChan x_aC).Cur).Win).Bits).length c3) ((((F_laws_toChan x_aC).Cur).Win).Bits).length (((((F_laws_toChan x_aC).Cur).Win).Bits).map iV) ∧ ((((F_laws_toChan x_aC).Cur).Win).Bits).length ≤ 1073741824 ∧ w.ownsRow (w15.heap.size) 5 1 (.slice a4 (((F_laws_toChan x_aC).Old).Key).length c4) (((F_laws_toChan x_aC).Old).Key).length ((((F_laws_toChan x_aC).Old).Key).map bV) ∧ (((F_laws_toChan x_aC).Old).Key).length ≤ 1073741824 ∧ w.ownsRow (w15.heap.size) 3 1 (.slice a5 ((((F_laws_toChan x_aC).Old).Win).Bits).length c5) ((((F_laws_toChan x_aC).Old).Win).Bits).length (((((F_laws_toChan x_aC).Old).Win).Bits).map iV) ∧ ((((F_laws_toChan x_aC).Old).Win).Bits).length ≤ 1073741824 ∧ w.ownsRow (w15.heap.size) 5 1 (.slice a6 ((F_laws_toChan x_aC).Next).length c6) ((F_laws_toChan x_aC).Next).length (((F_laws_toChan x_aC).Next).map bV) ∧ ((F_laws_toChan x_aC).Next).length ≤ 1073741824 ∧ Aps [(a1, c1), (a2, c2), (a3, c3), (a4, c4), (a5, c5), (a6, c6)]))] : GV) (fun _ w' => Keep w15 w') [] mixed rfl k% k% ?_ (fun _ _ h => h) (fun _ _ _ _ h _ k => h.trans k) trivial ?_ ?_ ?_
 ·exact ⟨s%, t%, ⟨s%, t%, ⟨(fun e v w w1 h hk => by obtain ⟨a0x, c0x, a1x, c1x, a2x, c2x, a3x, c3x, a4x, c4x, a5x, c5x, he, o0x, l0x, o1x, l1x, o2x, l2x, o3x, l3x, o4x, l4x, o5x, l5x, hap⟩ := h; exact ⟨a0x, c0x, a1x, c1x, a2x, c2x, a3x, c3x, a4x, c4x, a5x, c5x, he, own_kp o0x hk, l0x, own_kp o1x hk, l1x, own_kp o2x hk, l2x, own_kp o3x hk, l3x, own_kp o4x hk, l4x, own_kp o5x hk, l5x, hap⟩), t%, trivial⟩⟩⟩
 ·exact trivial
 ·refine ⟨?_, ⟨?_, ⟨?_, trivial⟩⟩⟩
  ·intro _ w16 k347 _
   m% m348 m266 k347
   rintro _ _ _
   w%
   have b349 := (((((b199.kp k209).kp k245).ch k248 (Nat.ne_of_lt (Nat.lt_of_lt_of_le p183 (Nat.le_trans (z% k187 k191 k209) p243)))).kp k265).kp k347)
   refine lN (L_38 (F_laws_toChan x_aC) a149 c150 a154 c155 a159 c160 a164 c165 a169 c170 a174 c175) wN isAgg_38 sizeOf_38 b349 ?_
   f1%
  ·intro _ w16 k350 _
   m% m351 m266 k350
   rintro _ _ _
   w%
   have b352 := (((((((((b147.kp k148).kp k184).ch k187 (Nat.ne_of_lt (Nat.lt_of_lt_of_le p38 (Nat.le_trans (z% k46 k54 k87 k104 k140 k143 k148) p182)))).kp k191).kp k209).kp k245).ch k248 (Nat.ne_of_lt (Nat.lt_of_lt_of_le p38 (Nat.le_trans (z% k46 k54 k87 k104 k140 k143 k148 k184 k187 k191 k209) p243)))).kp k265).kp k350)
   refine lN (L_38 x_aC a1 c2 a6 c7 a11 c12 a16 c17 a21 c22 a26 c27) wN isAgg_50 sizeOf_50 b352 ?_
   f1%
  ·intro _ w16 k353 _
   m% m354 m266 k353
   rintro _ _ rfl _
   w%
   cl% (C_laws_toChan w16 _ x_aC (mR_50 (r3.from0 m354) o% (r8.from0 m354) o% (r13.from0 m354) o% (r18.from0 m354) o% (r23.from0 m354) o% (r28.from0 m354) o%))
   rintro _ w17 ⟨k356, ⟨a357, c358, a362, c363, a367, c368, a372, c373, a377, c378, a382, c383, rfl, o359, s360, o364, s365, o369, s370, o374, s375, o379, s380, o384, s385, ap387⟩⟩
   m% m388 m354 k356
   exact wl_finT k356 ⟨_, _, _, _, _, _, _, _, _, _, _, _, rfl, (own_lo o359 k353.size), s360, (own_lo o364 k353.size), s365, (own_lo o369 k353.size), s370, (own_lo o374 k353.size), s375, (own_lo o379 k353.size), s380, (own_lo o384 k353.size), s385, ap387⟩
 ·intro _ w16 k389
  m% m390 m266 k389
  rintro _ rfl _ rfl _ ⟨a393, c394, a398, c399, a403, c404, a408, c409, a413, c414, a418, c419, rfl, o395, s396, o400, s401, o405, s406, o410, s411, o415, s416, o420, s421, ap423⟩
  w%
  have o424 := (own_kp (own_kp (own_ch (own_kp (own_kp o200 k209) k245) k248 (e2% o151 (Nat.le_trans (z% k184 k187 k191 k209) p243))) k265) k389)
  have o425 := (own_kp (own_kp (own_ch (own_kp (own_kp o201 k209) k245) k248 (e2% o156 (Nat.le_trans (z% k184 k187 k191 k209) p243))) k265) k389)
  have o426 := (own_kp (own_kp (own_ch (own_kp (own_kp o202 k209) k245) k248 (e2% o161 (Nat.le_trans (z% k184 k187 k191 k209) p243))) k265) k389)
  have o427 := (own_kp (own_kp (own_ch (own_kp (own_kp o203 k209) k245) k248 (e2% o166 (Nat.le_trans (z% k184 k187 k191 k209) p243))) k265) k389)
  have o428 := (own_kp (own_kp (own_ch (own_kp (own_kp o204 k209) k245) k248 (e2% o171 (Nat.le_trans (z% k184 k187 k191 k209) p243))) k265) k389)
  have o429 := (own_kp (own_kp (own_ch (own_kp (own_kp o205 k209) k245) k248 (e2% o176 (Nat.le_trans (z% k184 k187 k191 k209) p243))) k265) k389)
  obtain ⟨y431, e432⟩ : ∃ y, F_laws_eqChan (F_laws_toChan x_aC) (F_laws_toChan x_aC) = y := ⟨_, rfl⟩
  have hc430 := C_laws_eqChan w16 _ (F_laws_toChan x_aC) (mR_38 (Rd.of_own o424) s152 (Rd.of_own o425) s157 (Rd.of_own o426) s162 (Rd.of_own o427) s167 (Rd.of_own o428) s172 (Rd.of_own o429) s177) _ (F_laws_toChan x_aC) (mR_38 (Rd.of_own o395) s396 (Rd.of_own o400) s401 (Rd.of_own o405) s406 (Rd.of_own o410) s411 (Rd.of_own o415) s416 (Rd.of_own o420) s421)
  rw [e432] at hc430
  cl% hc430
  rintro _ w17 ⟨k433, rfl⟩
  m% m434 m390 k433
  pu% (vb (!(y431)))
  n2%
  rcases bf y431 with h435 | h435
  ·ct% (congrArg not h435)
   sr%
   ag% (vb false)
   n1%
   r1% (vb false)
   kp% m434
   have hF651 : F_laws_FnExactHearRekey x_aC x_aUnder x_aPlain = false := by first | (simp only [F_laws_FnExactHearRekey, h42, h49, e103, e208, h267, h269, e432, h435, cond_true, cond_false]; done) | (unfold F_laws_FnExactHearRekey; try rw [h42]; try rw [h49]; try rw [e103]; try rw [e208]; try rw [h267]; try rw [h269]; try rw [e432]; try rw [h435]; rfl)
   rw [hF651]
   exact rfl
  cf% (congrArg not h435)
  z2%
  mv% (vs a192 (cpB x_aPlain).length c193)
  mv% (vs a31 x_aPlain.length c32)
  cl% (C_laws_toByteS w17 _ x_aPlain (mR_22 (r33.from0 m434) o%))
  rintro _ w18 ⟨k437, ⟨a438, c439, rfl, o440, s441, ap443⟩⟩
  m% m444 m434 k437
  have o445 := (own_kp (own_kp (own_kp (own_kp (own_ch (own_kp (own_kp o194 k209) k245) k248 (e2% o194 (Nat.le_trans k209.size p243))) k265) k389) k433) k437)
  cl% (C_laws_eqByteS w18 _ (cpB x_aPlain) (mR_22 (Rd.of_own o445) s195) _ (cpB x_aPlain) (mR_22 (Rd.of_own o440) s441))
  rintro _ w19 ⟨k446, rfl⟩
  m% m447 m444 k446
  pu% (vb (!(eqB (cpB x_aPlain) (cpB x_aPlain))))
  n2%
  rcases bf (eqB (cpB x_aPlain) (cpB x_aPlain)) with h448 | h448
  ·ct% (congrArg not h448)
   sr%
   ag% (vb false)
   n1%
   r1% (vb false)
   kp% m447
   have hF649 : F_laws_FnExactHearRekey x_aC x_aUnder x_aPlain = false := by first | (simp only [F_laws_FnExactHearRekey, h42, h49, e103, e208, h267, h269, e432, h435, h448, cond_true, cond_false]; done) | (unfold F_laws_FnExactHearRekey; try rw [h42]; try rw [h49]; try rw [e103]; try rw [e208]; try rw [h267]; try rw [h269]; try rw [e432]; try rw [h435]; try rw [h448]; rfl)
   rw [hF649]
   exact rfl
  cf% (congrArg not h448)
  z1%
  ag% (vi 1)
  nx%
  have b450 := ((((((((b199.kp k209).kp k245).ch k248 (Nat.ne_of_lt (Nat.lt_of_lt_of_le p183 (Nat.le_trans (z% k187 k191 k209) p243)))).kp k265).kp k389).kp k433).kp k437).kp k446)
  refine lN (L_38 (F_laws_toChan x_aC) a149 c150 a154 c155 a159 c160 a164 c165 a169 c170 a174 c175) wN isAgg_38 sizeOf_38 b450 ?_
  mv% (vi 1)
  have o451 := (own_kp (own_kp (own_kp o424 k433) k437) k446)
  have o452 := (own_kp (own_kp (own_kp o425 k433) k437) k446)
  have o453 := (own_kp (own_kp (own_kp o426 k433) k437) k446)
  have o454 := (own_kp (own_kp (own_kp o427 k433) k437) k446)
  have o455 := (own_kp (own_kp (own_kp o428 k433) k437) k446)
  have o456 := (own_kp (own_kp (own_kp o429 k433) k437) k446)
  cl% (C_laws_markChan w19 a149 c150 a154 c155 a159 c160 a164 c165 a169 c170 a174 c175 (F_laws_toChan x_aC) 1 o% o% s152 (Rd.of_own o451) (Wp.of o451) s157 (Rd.of_own o452) (Wp.of o452) s162 (Rd.of_own o453) (Wp.of o453) s167 (Rd.of_own o454) (Wp.of o454) s172 (Rd.of_own o455) (Wp.of o455) s177 (Rd.of_own o456) (Wp.of o456) ⟨⟨(ap179.1.1), ⟨(ap179.1.2.1), ⟨(ap179.1.2.2.1), ⟨(ap179.1.2.2.2.1), ⟨(ap179.1.2.2.2.2.1), trivial⟩⟩⟩⟩⟩, ⟨⟨(ap179.2.1.1), ⟨(ap179.2.1.2.1), ⟨(ap179.2.1.2.2.1), ⟨(ap179.2.1.2.2.2.1), trivial⟩⟩⟩⟩, ⟨⟨(ap179.2.2.1.1), ⟨(ap179.2.2.1.2.1), ⟨(ap179.2.2.1.2.2.1), trivial⟩⟩⟩, ⟨⟨(ap179.2.2.2.1.1), ⟨(ap179.2.2.2.1.2.1), trivial⟩⟩, ⟨⟨(ap179.2.2.2.2.1.1), trivial⟩, ⟨trivial, trivial⟩⟩⟩⟩⟩⟩)
  rintro _ w20 ⟨rfl, k457, r458, r459, r460, r461, r462, r463⟩
  have m464 := m447.ext k457 (fun k hk => ms_ge (ms_ge_cons (fun hn x hx => Nat.le_trans (z% k39 k46 k54 k87 k104 k140 k143) (own_lt o151 x.block (by rw [hx]; rfl)).1) (ms_ge_cons (fun hn x hx => Nat.le_trans (z% k39 k46 k54 k87 k104 k140 k143) (own_lt o156 x.block (by rw [hx]; rfl)).1) (ms_ge_cons (fun hn x hx => Nat.le_trans (z% k39 k46 k54 k87 k104 k140 k143) (own_lt o161 x.block (by rw [hx]; rfl)).1) (ms_ge_cons (fun hn x hx => Nat.le_trans (z% k39 k46 k54 k87 k104 k140 k143) (own_lt o166 x.block (by rw [hx]; rfl)).1) (ms_ge_cons (fun hn x hx => Nat.le_trans (z% k39 k46 k54 k87 k104 k140 k143) (own_lt o171 x.block (by rw [hx]; rfl)).1) (ms_ge_cons (fun hn x hx => Nat.le_trans (z% k39 k46 k54 k87 k104 k140 k143) (own_lt o176 x.block (by rw [hx]; rfl)).1) ms_ge_nil)))))) hk)
  have l465 : Ch (MS (([(a149, ((F_laws_toChan x_aC).Sn).length, c150), (a154, (((F_laws_toChan x_aC).Cur).Key).length, c155), (a159, ((((F_laws_toChan x_aC).Cur).Win).Bits).length, c160), (a164, (((F_laws_toChan x_aC).Old).Key).length, c165), (a169, ((((F_laws_toChan x_aC).Old).Win).Bits).length, c170), (a174, ((F_laws_toChan x_aC).Next).length, c175)] : List (Option Addr × Nat × Nat)).map fun p => (p.1, p.2.1))) w19 w20 := k457
  ag% (vi ((((((1 + (((F_laws_toChan x_aC).Sn).length : Int)) + ((((F_laws_toChan x_aC).Cur).Key).length : Int)) + (((((F_laws_toChan x_aC).Cur).Win).Bits).length : Int)) + ((((F_laws_toChan x_aC).Old).Key).length : Int)) + (((((F_laws_toChan x_aC).Old).Win).Bits).length : Int)) + (((F_laws_toChan x_aC).Next).length : Int)))
  nx%
  mv% (vs a192 (cpB x_aPlain).length c193)
  mv% (vi ((((((1 + (((F_laws_toChan x_aC).Sn).length : Int)) + ((((F_laws_toChan x_aC).Cur).Key).length : Int)) + (((((F_laws_toChan x_aC).Cur).Win).Bits).length : Int)) + ((((F_laws_toChan x_aC).Old).Key).length : Int)) + (((((F_laws_toChan x_aC).Old).Win).Bits).length : Int)) + (((F_laws_toChan x_aC).Next).length : Int)))
  have r466 := (Rd.mz ((Rd.of_own o445).kp k446) l465 (ap_cons (rd_cap (Rd.of_own o451)) (Ap.lt o151 o194 (Nat.le_trans k184.size k187.size)) (ap_cons (rd_cap (Rd.of_own o452)) (Ap.lt o156 o194 (Nat.le_trans k184.size k187.size)) (ap_cons (rd_cap (Rd.of_own o453)) (Ap.lt o161 o194 (Nat.le_trans k184.size k187.size)) (ap_cons (rd_cap (Rd.of_own o454)) (Ap.lt o166 o194 (Nat.le_trans k184.size k187.size)) (ap_cons (rd_cap (Rd.of_own o455)) (Ap.lt o171 o194 (Nat.le_trans k184.size k187.size)) (ap_cons (rd_cap (Rd.of_own o456)) (Ap.lt o176 o194 (Nat.le_trans k184.size k187.size)) ap_nil)))))))
  have wp467 : Wp w20 5 a192 (cpB x_aPlain).length c193 _ 1 := (Wp.mz (Wp.kp (Wp.of o445) k446) (rd_cap r466) l465 (ap_cons (rd_cap (Rd.of_own o451)) (Ap.lt o151 o194 (Nat.le_trans k184.size k187.size)) (ap_cons (rd_cap (Rd.of_own o452)) (Ap.lt o156 o194 (Nat.le_trans k184.size k187.size)) (ap_cons (rd_cap (Rd.of_own o453)) (Ap.lt o161 o194 (Nat.le_trans k184.size k187.size)) (ap_cons (rd_cap (Rd.of_own o454)) (Ap.lt o166 o194 (Nat.le_trans k184.size k187.size)) (ap_cons (rd_cap (Rd.of_own o455)) (Ap.lt o171 o194 (Nat.le_trans k184.size k187.size)) (ap_cons (rd_cap (Rd.of_own o456)) (Ap.lt o176 o194 (Nat.le_trans k184.size k187.size)) ap_nil)))))))
  cl% (C_laws_markByteS w20 a192 c193 (cpB x_aPlain) ((((((1 + (((F_laws_toChan x_aC).Sn).length : Int)) + ((((F_laws_toChan x_aC).Cur).Key).length : Int)) + (((((F_laws_toChan x_aC).Cur).Win).Bits).length : Int)) + ((((F_laws_toChan x_aC).Old).Key).length : Int)) + (((((F_laws_toChan x_aC).Old).Win).Bits).length : Int)) + (((F_laws_toChan x_aC).Next).length : Int)) o% o% s195 r466 wp467)
  rintro _ w21 ⟨rfl, k468, r469⟩
  have m470 := m464.ext k468 (fun k hk => ms_ge (ms_ge_cons (fun hn x hx => Nat.le_trans (z% k39 k46 k54 k87 k104 k140 k143 k148 k184 k187) (own_lt o194 x.block (by rw [hx]; rfl)).1) ms_ge_nil) hk)
  have l471 : Ch (MS (([(a192, (cpB x_aPlain).length, c193)] : List (Option Addr × Nat × Nat)).map fun p => (p.1, p.2.1))) w20 w21 := k468
  ag% (vi (((((((1 + (((F_laws_toChan x_aC).Sn).length : Int)) + ((((F_laws_toChan x_aC).Cur).Key).length : Int)) + (((((F_laws_toChan x_aC).Cur).Win).Bits).length : Int)) + ((((F_laws_toChan x_aC).Old).Key).length : Int)) + (((((F_laws_toChan x_aC).Old).Win).Bits).length : Int)) + (((F_laws_toChan x_aC).Next).length : Int)) + ((cpB x_aPlain).length : Int)))
  n4%
  mv% (vi (((((((1 + (((F_laws_toChan x_aC).Sn).length : Int)) + ((((F_laws_toChan x_aC).Cur).Key).length : Int)) + (((((F_laws_toChan x_aC).Cur).Win).Bits).length : Int)) + ((((F_laws_toChan x_aC).Old).Key).length : Int)) + (((((F_laws_toChan x_aC).Old).Win).Bits).length : Int)) + (((F_laws_toChan x_aC).Next).length : Int)) + ((cpB x_aPlain).length : Int)))
  pu% (vb (decide ((((((((1 + (((F_laws_toChan x_aC).Sn).length : Int)) + ((((F_laws_toChan x_aC).Cur).Key).length : Int)) + (((((F_laws_toChan x_aC).Cur).Win).Bits).length : Int)) + ((((F_laws_toChan x_aC).Old).Key).length : Int)) + (((((F_laws_toChan x_aC).Old).Win).Bits).length : Int)) + (((F_laws_toChan x_aC).Next).length : Int)) + ((cpB x_aPlain).length : Int)) < 0)))
  mv% (vb (decide ((((((((1 + (((F_laws_toChan x_aC).Sn).length : Int)) + ((((F_laws_toChan x_aC).Cur).Key).length : Int)) + (((((F_laws_toChan x_aC).Cur).Win).Bits).length : Int)) + ((((F_laws_toChan x_aC).Old).Key).length : Int)) + (((((F_laws_toChan x_aC).Old).Win).Bits).length : Int)) + (((F_laws_toChan x_aC).Next).length : Int)) + ((cpB x_aPlain).length : Int)) < 0)))
  rcases bt (decide ((((((((1 + (((F_laws_toChan x_aC).Sn).length : Int)) + ((((F_laws_toChan x_aC).Cur).Key).length : Int)) + (((((F_laws_toChan x_aC).Cur).Win).Bits).length : Int)) + ((((F_laws_toChan x_aC).Old).Key).length : Int)) + (((((F_laws_toChan x_aC).Old).Win).Bits).length : Int)) + (((F_laws_toChan x_aC).Next).length : Int)) + ((cpB x_aPlain).length : Int)) < 0)) with h472 | h472
  ·dt% q473 h472
   sk% h472
   sk% h472
   sk% h472
   sk% h472
   refine pk (vb true) wN h472 ?_
   mv% (vb true)
   st%
   st%
   st%
   refine pk (vb true) wN (Eq.refl true) ?_
   n2%
   ct% (Eq.refl true)
   sr%
   ag% (vb false)
   n1%
   r1% (vb false)
   kp% m470
   have hF474 : F_laws_FnExactHearRekey x_aC x_aUnder x_aPlain = false := by first | (simp only [F_laws_FnExactHearRekey, h42, h49, e103, e208, h267, h269, e432, h435, h448, h472, cond_true, cond_false]; done) | (unfold F_laws_FnExactHearRekey; try rw [h42]; try rw [h49]; try rw [e103]; try rw [e208]; try rw [h267]; try rw [h269]; try rw [e432]; try rw [h435]; try rw [h448]; try rw [h472]; rfl)
   rw [hF474]
   exact rfl
  df% q475 h472
  have b476 := (((((((b249.kp k265).kp k389).kp k433).kp k437).kp k446).ch k457 (ms_lo (ms_lo_cons (fun hn x hx hb => by have := (own_lt o151 x.block (by rw [hx]; rfl)).2; have := Nat.le_trans (z% k184 k187 k191 k209) p243; omega) (ms_lo_cons (fun hn x hx hb => by have := (own_lt o156 x.block (by rw [hx]; rfl)).2; have := Nat.le_trans (z% k184 k187 k191 k209) p243; omega) (ms_lo_cons (fun hn x hx hb => by have := (own_lt o161 x.block (by rw [hx]; rfl)).2; have := Nat.le_trans (z% k184 k187 k191 k209) p243; omega) (ms_lo_cons (fun hn x hx hb => by have := (own_lt o166 x.block (by rw [hx]; rfl)).2; have := Nat.le_trans (z% k184 k187 k191 k209) p243; omega) (ms_lo_cons (fun hn x hx hb => by have := (own_lt o171 x.block (by rw [hx]; rfl)).2; have := Nat.le_trans (z% k184 k187 k191 k209) p243; omega) (ms_lo_cons (fun hn x hx hb => by have := (own_lt o176 x.block (by rw [hx]; rfl)).2; have := Nat.le_trans (z% k184 k187 k191 k209) p243; omega) ms_lo_nil)))))))).ch k468 (ms_lo (ms_lo_cons (fun hn x hx hb => by have := (own_lt o194 x.block (by rw [hx]; rfl)).2; have := Nat.le_trans k209.size p243; omega) ms_lo_nil)))
  refine lN (L_38 ((y207).1) a210 c211 a215 c216 a220 c221 a225 c226 a230 c231 a235 c236) (wS h472) isAgg_38 sizeOf_38 b476 ?_
  have b477 := (((((((b252.kp k265).kp k389).kp k433).kp k437).kp k446).ch k457 (ms_lo (ms_lo_cons (fun hn x hx hb => by have := (own_lt o151 x.block (by rw [hx]; rfl)).1; have := Nat.lt_of_lt_of_le p139 k143.size; omega) (ms_lo_cons (fun hn x hx hb => by have := (own_lt o156 x.block (by rw [hx]; rfl)).1; have := Nat.lt_of_lt_of_le p139 k143.size; omega) (ms_lo_cons (fun hn x hx hb => by have := (own_lt o161 x.block (by rw [hx]; rfl)).1; have := Nat.lt_of_lt_of_le p139 k143.size; omega) (ms_lo_cons (fun hn x hx hb => by have := (own_lt o166 x.block (by rw [hx]; rfl)).1; have := Nat.lt_of_lt_of_le p139 k143.size; omega) (ms_lo_cons (fun hn x hx hb => by have := (own_lt o171 x.block (by rw [hx]; rfl)).1; have := Nat.lt_of_lt_of_le p139 k143.size; omega) (ms_lo_cons (fun hn x hx hb => by have := (own_lt o176 x.block (by rw [hx]; rfl)).1; have := Nat.lt_of_lt_of_le p139 k143.size; omega) ms_lo_nil)))))))).ch k468 (ms_lo (ms_lo_cons (fun hn x hx hb => by have := (own_lt o194 x.block (by rw [hx]; rfl)).1; have := Nat.lt_of_lt_of_le p139 (z% k143 k148 k184 k187); omega) ms_lo_nil)))
  refine lN (L_38 ((y102).1) a105 c106 a110 c111 a115 c116 a120 c121 a125 c126 a130 c131) (wS h472) isAgg_38 sizeOf_38 b477 ?_
  have r478 := (Rd.mz (Rd.mz ((((((Rd.of_own o253).kp k265).kp k389).kp k433).kp k437).kp k446) l465 (ap_cons (rd_cap (Rd.of_own o451)) (Ap.lt o151 o212 (z% k184 k187 k191)) (ap_cons (rd_cap (Rd.of_own o452)) (Ap.lt o156 o212 (z% k184 k187 k191)) (ap_cons (rd_cap (Rd.of_own o453)) (Ap.lt o161 o212 (z% k184 k187 k191)) (ap_cons (rd_cap (Rd.of_own o454)) (Ap.lt o166 o212 (z% k184 k187 k191)) (ap_cons (rd_cap (Rd.of_own o455)) (Ap.lt o171 o212 (z% k184 k187 k191)) (ap_cons (rd_cap (Rd.of_own o456)) (Ap.lt o176 o212 (z% k184 k187 k191)) ap_nil))))))) l471 (ap_cons (rd_cap r466) (Ap.lt o194 o212 (Nat.le_refl w11.heap.size)) ap_nil))
  have r479 := (Rd.mz (Rd.mz ((((((Rd.of_own o254).kp k265).kp k389).kp k433).kp k437).kp k446) l465 (ap_cons (rd_cap (Rd.of_own o451)) (Ap.lt o151 o217 (z% k184 k187 k191)) (ap_cons (rd_cap (Rd.of_own o452)) (Ap.lt o156 o217 (z% k184 k187 k191)) (ap_cons (rd_cap (Rd.of_own o453)) (Ap.lt o161 o217 (z% k184 k187 k191)) (ap_cons (rd_cap (Rd.of_own o454)) (Ap.lt o166 o217 (z% k184 k187 k191)) (ap_cons (rd_cap (Rd.of_own o455)) (Ap.lt o171 o217 (z% k184 k187 k191)) (ap_cons (rd_cap (Rd.of_own o456)) (Ap.lt o176 o217 (z% k184 k187 k191)) ap_nil))))))) l471 (ap_cons (rd_cap r466) (Ap.lt o194 o217 (Nat.le_refl w11.heap.size)) ap_nil))
  have r480 := (Rd.mz (Rd.mz ((((((Rd.of_own o255).kp k265).kp k389).kp k433).kp k437).kp k446) l465 (ap_cons (rd_cap (Rd.of_own o451)) (Ap.lt o151 o222 (z% k184 k187 k191)) (ap_cons (rd_cap (Rd.of_own o452)) (Ap.lt o156 o222 (z% k184 k187 k191)) (ap_cons (rd_cap (Rd.of_own o453)) (Ap.lt o161 o222 (z% k184 k187 k191)) (ap_cons (rd_cap (Rd.of_own o454)) (Ap.lt o166 o222 (z% k184 k187 k191)) (ap_cons (rd_cap (Rd.of_own o455)) (Ap.lt o171 o222 (z% k184 k187 k191)) (ap_cons (rd_cap (Rd.of_own o456)) (Ap.lt o176 o222 (z% k184 k187 k191)) ap_nil))))))) l471 (ap_cons (rd_cap r466) (Ap.lt o194 o222 (Nat.le_refl w11.heap.size)) ap_nil))
  have r481 := (Rd.mz (Rd.mz ((((((Rd.of_own o256).kp k265).kp k389).kp k433).kp k437).kp k446) l465 (ap_cons (rd_cap (Rd.of_own o451)) (Ap.lt o151 o227 (z% k184 k187 k191)) (ap_cons (rd_cap (Rd.of_own o452)) (Ap.lt o156 o227 (z% k184 k187 k191)) (ap_cons (rd_cap (Rd.of_own o453)) (Ap.lt o161 o227 (z% k184 k187 k191)) (ap_cons (rd_cap (Rd.of_own o454)) (Ap.lt o166 o227 (z% k184 k187 k191)) (ap_cons (rd_cap (Rd.of_own o455)) (Ap.lt o171 o227 (z% k184 k187 k191)) (ap_cons (rd_cap (Rd.of_own o456)) (Ap.lt o176 o227 (z% k184 k187 k191)) ap_nil))))))) l471 (ap_cons (rd_cap r466) (Ap.lt o194 o227 (Nat.le_refl w11.heap.size)) ap_nil))
  have r482 := (Rd.mz (Rd.mz ((((((Rd.of_own o257).kp k265).kp k389).kp k433).kp k437).kp k446) l465 (ap_cons (rd_cap (Rd.of_own o451)) (Ap.lt o151 o232 (z% k184 k187 k191)) (ap_cons (rd_cap (Rd.of_own o452)) (Ap.lt o156 o232 (z% k184 k187 k191)) (ap_cons (rd_cap (Rd.of_own o453)) (Ap.lt o161 o232 (z% k184 k187 k191)) (ap_cons (rd_cap (Rd.of_own o454)) (Ap.lt o166 o232 (z% k184 k187 k191)) (ap_cons (rd_cap (Rd.of_own o455)) (Ap.lt o171 o232 (z% k184 k187 k191)) (ap_cons (rd_cap (Rd.of_own o456)) (Ap.lt o176 o232 (z% k184 k187 k191)) ap_nil))))))) l471 (ap_cons (rd_cap r466) (Ap.lt o194 o232 (Nat.le_refl w11.heap.size)) ap_nil))
  have r483 := (Rd.mz (Rd.mz ((((((Rd.of_own o258).kp k265).kp k389).kp k433).kp k437).kp k446) l465 (ap_cons (rd_cap (Rd.of_own o451)) (Ap.lt o151 o237 (z% k184 k187 k191)) (ap_cons (rd_cap (Rd.of_own o452)) (Ap.lt o156 o237 (z% k184 k187 k191)) (ap_cons (rd_cap (Rd.of_own o453)) (Ap.lt o161 o237 (z% k184 k187 k191)) (ap_cons (rd_cap (Rd.of_own o454)) (Ap.lt o166 o237 (z% k184 k187 k191)) (ap_cons (rd_cap (Rd.of_own o455)) (Ap.lt o171 o237 (z% k184 k187 k191)) (ap_cons (rd_cap (Rd.of_own o456)) (Ap.lt o176 o237 (z% k184 k187 k191)) ap_nil))))))) l471 (ap_cons (rd_cap r466) (Ap.lt o194 o237 (Nat.le_refl w11.heap.size)) ap_nil))
  have r484 := (Rd.mz (Rd.mz ((((((Rd.of_own o259).kp k265).kp k389).kp k433).kp k437).kp k446) l465 (ap_cons (rd_cap (Rd.of_own o451)) (Ap.lt o107 o151 (Nat.le_trans k140.size k143.size)).symm (ap_cons (rd_cap (Rd.of_own o452)) (Ap.lt o107 o156 (Nat.le_trans k140.size k143.size)).symm (ap_cons (rd_cap (Rd.of_own o453)) (Ap.lt o107 o161 (Nat.le_trans k140.size k143.size)).symm (ap_cons (rd_cap (Rd.of_own o454)) (Ap.lt o107 o166 (Nat.le_trans k140.size k143.size)).symm (ap_cons (rd_cap (Rd.of_own o455)) (Ap.lt o107 o171 (Nat.le_trans k140.size k143.size)).symm (ap_cons (rd_cap (Rd.of_own o456)) (Ap.lt o107 o176 (Nat.le_trans k140.size k143.size)).symm ap_nil))))))) l471 (ap_cons (rd_cap r466) (Ap.lt o107 o194 (z% k140 k143 k148 k184 k187)).symm ap_nil))
  have r485 := (Rd.mz (Rd.mz ((((((Rd.of_own o260).kp k265).kp k389).kp k433).kp k437).kp k446) l465 (ap_cons (rd_cap (Rd.of_own o451)) (Ap.lt o112 o151 (Nat.le_trans k140.size k143.size)).symm (ap_cons (rd_cap (Rd.of_own o452)) (Ap.lt o112 o156 (Nat.le_trans k140.size k143.size)).symm (ap_cons (rd_cap (Rd.of_own o453)) (Ap.lt o112 o161 (Nat.le_trans k140.size k143.size)).symm (ap_cons (rd_cap (Rd.of_own o454)) (Ap.lt o112 o166 (Nat.le_trans k140.size k143.size)).symm (ap_cons (rd_cap (Rd.of_own o455)) (Ap.lt o112 o171 (Nat.le_trans k140.size k143.size)).symm (ap_cons (rd_cap (Rd.of_own o456)) (Ap.lt o112 o176 (Nat.le_trans k140.size k143.size)).symm ap_nil))))))) l471 (ap_cons (rd_cap r466) (Ap.lt o112 o194 (z% k140 k143 k148 k184 k187)).symm ap_nil))
  have r486 := (Rd.mz (Rd.mz ((((((Rd.of_own o261).kp k265).kp k389).kp k433).kp k437).kp k446) l465 (ap_cons (rd_cap (Rd.of_own o451)) (Ap.lt o117 o151 (Nat.le_trans k140.size k143.size)).symm (ap_cons (rd_cap (Rd.of_own o452)) (Ap.lt o117 o156 (Nat.le_trans k140.size k143.size)).symm (ap_cons (rd_cap (Rd.of_own o453)) (Ap.lt o117 o161 (Nat.le_trans k140.size k143.size)).symm (ap_cons (rd_cap (Rd.of_own o454)) (Ap.lt o117 o166 (Nat.le_trans k140.size k143.size)).symm (ap_cons (rd_cap (Rd.of_own o455)) (Ap.lt o117 o171 (Nat.le_trans k140.size k143.size)).symm (ap_cons (rd_cap (Rd.of_own o456)) (Ap.lt o117 o176 (Nat.le_trans k140.size k143.size)).symm ap_nil))))))) l471 (ap_cons (rd_cap r466) (Ap.lt o117 o194 (z% k140 k143 k148 k184 k187)).symm ap_nil))
  have r487 := (Rd.mz (Rd.mz ((((((Rd.of_own o262).kp k265).kp k389).kp k433).kp k437).kp k446) l465 (ap_cons (rd_cap (Rd.of_own o451)) (Ap.lt o122 o151 (Nat.le_trans k140.size k143.size)).symm (ap_cons (rd_cap (Rd.of_own o452)) (Ap.lt o122 o156 (Nat.le_trans k140.size k143.size)).symm (ap_cons (rd_cap (Rd.of_own o453)) (Ap.lt o122 o161 (Nat.le_trans k140.size k143.size)).symm (ap_cons (rd_cap (Rd.of_own o454)) (Ap.lt o122 o166 (Nat.le_trans k140.size k143.size)).symm (ap_cons (rd_cap (Rd.of_own o455)) (Ap.lt o122 o171 (Nat.le_trans k140.size k143.size)).symm (ap_cons (rd_cap (Rd.of_own o456)) (Ap.lt o122 o176 (Nat.le_trans k140.size k143.size)).symm ap_nil))))))) l471 (ap_cons (rd_cap r466) (Ap.lt o122 o194 (z% k140 k143 k148 k184 k187)).symm ap_nil))
  have r488 := (Rd.mz (Rd.mz ((((((Rd.of_own o263).kp k265).kp k389).kp k433).kp k437).kp k446) l465 (ap_cons (rd_cap (Rd.of_own o451)) (Ap.lt o127 o151 (Nat.le_trans k140.size k143.size)).symm (ap_cons (rd_cap (Rd.of_own o452)) (Ap.lt o127 o156 (Nat.le_trans k140.size k143.size)).symm (ap_cons (rd_cap (Rd.of_own o453)) (Ap.lt o127 o161 (Nat.le_trans k140.size k143.size)).symm (ap_cons (rd_cap (Rd.of_own o454)) (Ap.lt o127 o166 (Nat.le_trans k140.size k143.size)).symm (ap_cons (rd_cap (Rd.of_own o455)) (Ap.lt o127 o171 (Nat.le_trans k140.size k143.size)).symm (ap_cons (rd_cap (Rd.of_own o456)) (Ap.lt o127 o176 (Nat.le_trans k140.size k143.size)).symm ap_nil))))))) l471 (ap_cons (rd_cap r466) (Ap.lt o127 o194 (z% k140 k143 k148 k184 k187)).symm ap_nil))
  have r489 := (Rd.mz (Rd.mz ((((((Rd.of_own o264).kp k265).kp k389).kp k433).kp k437).kp k446) l465 (ap_cons (rd_cap (Rd.of_own o451)) (Ap.lt o132 o151 (Nat.le_trans k140.size k143.size)).symm (ap_cons (rd_cap (Rd.of_own o452)) (Ap.lt o132 o156 (Nat.le_trans k140.size k143.size)).symm (ap_cons (rd_cap (Rd.of_own o453)) (Ap.lt o132 o161 (Nat.le_trans k140.size k143.size)).symm (ap_cons (rd_cap (Rd.of_own o454)) (Ap.lt o132 o166 (Nat.le_trans k140.size k143.size)).symm (ap_cons (rd_cap (Rd.of_own o455)) (Ap.lt o132 o171 (Nat.le_trans k140.size k143.size)).symm (ap_cons (rd_cap (Rd.of_own o456)) (Ap.lt o132 o176 (Nat.le_trans k140.size k143.size)).symm ap_nil))))))) l471 (ap_cons (rd_cap r466) (Ap.lt o132 o194 (z% k140 k143 k148 k184 k187)).symm ap_nil))
  refine cl (wS h472) (C_laws_eqChan w21 _ ((y207).1) (mR_38 r478 s213 r479 s218 r480 s223 r481 s228 r482 s233 r483 s238) _ ((y102).1) (mR_38 r484 s108 r485 s113 r486 s118 r487 s123 r488 s128 r489 s133)) ?_
  rintro _ w22 ⟨k490, rfl⟩
  m% m491 m470 k490
  refine pu (vb (!(F_laws_eqChan ((y207).1) ((y102).1)))) (wS h472) ?_
  refine pf (vb (!(F_laws_eqChan ((y207).1) ((y102).1)))) wN h472 ?_
  mv% (vb (!(F_laws_eqChan ((y207).1) ((y102).1))))
  refine mv (vi ((y207).2)) (wS (congrArg not h267)) ?_
  refine mv (vi ((y102).2)) (wS (congrArg not h267)) ?_
  refine pu (vb (!(decide ((y207).2 = (y102).2)))) (wS (congrArg not h267)) ?_
  refine pf (vb (!(decide ((y207).2 = (y102).2)))) wN (congrArg not h267) ?_
  n2%
  cf% (congrArg not h269)
  z1%
  ag% (vi 1)
  nx%
  have b492 := (b476.kp k490)
  refine lN (L_38 ((y207).1) a210 c211 a215 c216 a220 c221 a225 c226 a230 c231 a235 c236) wN isAgg_38 sizeOf_38 b492 ?_
  mv% (vi 1)
  have r493 := (r478.kp k490)
  have r494 := (r479.kp k490)
  have r495 := (r480.kp k490)
  have r496 := (r481.kp k490)
  have r497 := (r482.kp k490)
  have r498 := (r483.kp k490)
  have wp499 : Wp w22 5 a210 (((y207).1).Sn).length c211 _ 1 := (Wp.kp (Wp.mz (Wp.mz (Wp.kp (Wp.kp (Wp.kp (Wp.kp (Wp.kp (Wp.of o253) k265) k389) k433) k437) k446) (rd_cap r493) l465 (ap_cons (rd_cap (Rd.of_own o451)) (Ap.lt o151 o212 (z% k184 k187 k191)) (ap_cons (rd_cap (Rd.of_own o452)) (Ap.lt o156 o212 (z% k184 k187 k191)) (ap_cons (rd_cap (Rd.of_own o453)) (Ap.lt o161 o212 (z% k184 k187 k191)) (ap_cons (rd_cap (Rd.of_own o454)) (Ap.lt o166 o212 (z% k184 k187 k191)) (ap_cons (rd_cap (Rd.of_own o455)) (Ap.lt o171 o212 (z% k184 k187 k191)) (ap_cons (rd_cap (Rd.of_own o456)) (Ap.lt o176 o212 (z% k184 k187 k191)) ap_nil))))))) (rd_cap r493) l471 (ap_cons (rd_cap r466) (Ap.lt o194 o212 (Nat.le_refl w11.heap.size)) ap_nil)) k490)
  have wp500 : Wp w22 5 a215 ((((y207).1).Cur).Key).length c216 _ 1 := (Wp.kp (Wp.mz (Wp.mz (Wp.kp (Wp.kp (Wp.kp (Wp.kp (Wp.kp (Wp.of o254) k265) k389) k433) k437) k446) (rd_cap r494) l465 (ap_cons (rd_cap (Rd.of_own o451)) (Ap.lt o151 o217 (z% k184 k187 k191)) (ap_cons (rd_cap (Rd.of_own o452)) (Ap.lt o156 o217 (z% k184 k187 k191)) (ap_cons (rd_cap (Rd.of_own o453)) (Ap.lt o161 o217 (z% k184 k187 k191)) (ap_cons (rd_cap (Rd.of_own o454)) (Ap.lt o166 o217 (z% k184 k187 k191)) (ap_cons (rd_cap (Rd.of_own o455)) (Ap.lt o171 o217 (z% k184 k187 k191)) (ap_cons (rd_cap (Rd.of_own o456)) (Ap.lt o176 o217 (z% k184 k187 k191)) ap_nil))))))) (rd_cap r494) l471 (ap_cons (rd_cap r466) (Ap.lt o194 o217 (Nat.le_refl w11.heap.size)) ap_nil)) k490)
  have wp501 : Wp w22 3 a220 (((((y207).1).Cur).Win).Bits).length c221 _ 1 := (Wp.kp (Wp.mz (Wp.mz (Wp.kp (Wp.kp (Wp.kp (Wp.kp (Wp.kp (Wp.of o255) k265) k389) k433) k437) k446) (rd_cap r495) l465 (ap_cons (rd_cap (Rd.of_own o451)) (Ap.lt o151 o222 (z% k184 k187 k191)) (ap_cons (rd_cap (Rd.of_own o452)) (Ap.lt o156 o222 (z% k184 k187 k191)) (ap_cons (rd_cap (Rd.of_own o453)) (Ap.lt o161 o222 (z% k184 k187 k191)) (ap_cons (rd_cap (Rd.of_own o454)) (Ap.lt o166 o222 (z% k184 k187 k191)) (ap_cons (rd_cap (Rd.of_own o455)) (Ap.lt o171 o222 (z% k184 k187 k191)) (ap_cons (rd_cap (Rd.of_own o456)) (Ap.lt o176 o222 (z% k184 k187 k191)) ap_nil))))))) (rd_cap r495) l471 (ap_cons (rd_cap r466) (Ap.lt o194 o222 (Nat.le_refl w11.heap.size)) ap_nil)) k490)
  have wp502 : Wp w22 5 a225 ((((y207).1).Old).Key).length c226 _ 1 := (Wp.kp (Wp.mz (Wp.mz (Wp.kp (Wp.kp (Wp.kp (Wp.kp (Wp.kp (Wp.of o256) k265) k389) k433) k437) k446) (rd_cap r496) l465 (ap_cons (rd_cap (Rd.of_own o451)) (Ap.lt o151 o227 (z% k184 k187 k191)) (ap_cons (rd_cap (Rd.of_own o452)) (Ap.lt o156 o227 (z% k184 k187 k191)) (ap_cons (rd_cap (Rd.of_own o453)) (Ap.lt o161 o227 (z% k184 k187 k191)) (ap_cons (rd_cap (Rd.of_own o454)) (Ap.lt o166 o227 (z% k184 k187 k191)) (ap_cons (rd_cap (Rd.of_own o455)) (Ap.lt o171 o227 (z% k184 k187 k191)) (ap_cons (rd_cap (Rd.of_own o456)) (Ap.lt o176 o227 (z% k184 k187 k191)) ap_nil))))))) (rd_cap r496) l471 (ap_cons (rd_cap r466) (Ap.lt o194 o227 (Nat.le_refl w11.heap.size)) ap_nil)) k490)
  have wp503 : Wp w22 3 a230 (((((y207).1).Old).Win).Bits).length c231 _ 1 := (Wp.kp (Wp.mz (Wp.mz (Wp.kp (Wp.kp (Wp.kp (Wp.kp (Wp.kp (Wp.of o257) k265) k389) k433) k437) k446) (rd_cap r497) l465 (ap_cons (rd_cap (Rd.of_own o451)) (Ap.lt o151 o232 (z% k184 k187 k191)) (ap_cons (rd_cap (Rd.of_own o452)) (Ap.lt o156 o232 (z% k184 k187 k191)) (ap_cons (rd_cap (Rd.of_own o453)) (Ap.lt o161 o232 (z% k184 k187 k191)) (ap_cons (rd_cap (Rd.of_own o454)) (Ap.lt o166 o232 (z% k184 k187 k191)) (ap_cons (rd_cap (Rd.of_own o455)) (Ap.lt o171 o232 (z% k184 k187 k191)) (ap_cons (rd_cap (Rd.of_own o456)) (Ap.lt o176 o232 (z% k184 k187 k191)) ap_nil))))))) (rd_cap r497) l471 (ap_cons (rd_cap r466) (Ap.lt o194 o232 (Nat.le_refl w11.heap.size)) ap_nil)) k490)
  have wp504 : Wp w22 5 a235 (((y207).1).Next).length c236 _ 1 := (Wp.kp (Wp.mz (Wp.mz (Wp.kp (Wp.kp (Wp.kp (Wp.kp (Wp.kp (Wp.of o258) k265) k389) k433) k437) k446) (rd_cap r498) l465 (ap_cons (rd_cap (Rd.of_own o451)) (Ap.lt o151 o237 (z% k184 k187 k191)) (ap_cons (rd_cap (Rd.of_own o452)) (Ap.lt o156 o237 (z% k184 k187 k191)) (ap_cons (rd_cap (Rd.of_own o453)) (Ap.lt o161 o237 (z% k184 k187 k191)) (ap_cons (rd_cap (Rd.of_own o454)) (Ap.lt o166 o237 (z% k184 k187 k191)) (ap_cons (rd_cap (Rd.of_own o455)) (Ap.lt o171 o237 (z% k184 k187 k191)) (ap_cons (rd_cap (Rd.of_own o456)) (Ap.lt o176 o237 (z% k184 k187 k191)) ap_nil))))))) (rd_cap r498) l471 (ap_cons (rd_cap r466) (Ap.lt o194 o237 (Nat.le_refl w11.heap.size)) ap_nil)) k490)
  cl% (C_laws_markChan w22 a210 c211 a215 c216 a220 c221 a225 c226 a230 c231 a235 c236 ((y207).1) 1 o% o% s213 r493 wp499 s218 r494 wp500 s223 r495 wp501 s228 r496 wp502 s233 r497 wp503 s238 r498 wp504 ⟨⟨(ap240.1.1), ⟨(ap240.1.2.1), ⟨(ap240.1.2.2.1), ⟨(ap240.1.2.2.2.1), ⟨(ap240.1.2.2.2.2.1), trivial⟩⟩⟩⟩⟩, ⟨⟨(ap240.2.1.1), ⟨(ap240.2.1.2.1), ⟨(ap240.2.1.2.2.1), ⟨(ap240.2.1.2.2.2.1), trivial⟩⟩⟩⟩, ⟨⟨(ap240.2.2.1.1), ⟨(ap240.2.2.1.2.1), ⟨(ap240.2.2.1.2.2.1), trivial⟩⟩⟩, ⟨⟨(ap240.2.2.2.1.1), ⟨(ap240.2.2.2.1.2.1), trivial⟩⟩, ⟨⟨(ap240.2.2.2.2.1.1), trivial⟩, ⟨trivial, trivial⟩⟩⟩⟩⟩⟩)
  rintro _ w23 ⟨rfl, k505, r506, r507, r508, r509, r510, r511⟩
  have m512 := m491.ext k505 (fun k hk => ms_ge (ms_ge_cons (fun hn x hx => Nat.le_trans (z% k39 k46 k54 k87 k104 k140 k143 k148 k184 k187 k191) (own_lt o212 x.block (by rw [hx]; rfl)).1) (ms_ge_cons (fun hn x hx => Nat.le_trans (z% k39 k46 k54 k87 k104 k140 k143 k148 k184 k187 k191) (own_lt o217 x.block (by rw [hx]; rfl)).1) (ms_ge_cons (fun hn x hx => Nat.le_trans (z% k39 k46 k54 k87 k104 k140 k143 k148 k184 k187 k191) (own_lt o222 x.block (by rw [hx]; rfl)).1) (ms_ge_cons (fun hn x hx => Nat.le_trans (z% k39 k46 k54 k87 k104 k140 k143 k148 k184 k187 k191) (own_lt o227 x.block (by rw [hx]; rfl)).1) (ms_ge_cons (fun hn x hx => Nat.le_trans (z% k39 k46 k54 k87 k104 k140 k143 k148 k184 k187 k191) (own_lt o232 x.block (by rw [hx]; rfl)).1) (ms_ge_cons (fun hn x hx => Nat.le_trans (z% k39 k46 k54 k87 k104 k140 k143 k148 k184 k187 k191) (own_lt o237 x.block (by rw [hx]; rfl)).1) ms_ge_nil)))))) hk)
  have l513 : Ch (MS (([(a210, (((y207).1).Sn).length, c211), (a215, ((((y207).1).Cur).Key).length, c216), (a220, (((((y207).1).Cur).Win).Bits).length, c221), (a225, ((((y207).1).Old).Key).length, c226), (a230, (((((y207).1).Old).Win).Bits).length, c231), (a235, (((y207).1).Next).length, c236)] : List (Option Addr × Nat × Nat)).map fun p => (p.1, p.2.1))) w22 w23 := k505
  ag% (vi ((((((1 + ((((y207).1).Sn).length : Int)) + (((((y207).1).Cur).Key).length : Int)) + ((((((y207).1).Cur).Win).Bits).length : Int)) + (((((y207).1).Old).Key).length : Int)) + ((((((y207).1).Old).Win).Bits).length : Int)) + ((((y207).1).Next).length : Int)))
  nx%
  ag% (vi 1)
  nx%
  have b514 := (b492.ch k505 (ms_lo (ms_lo_cons (fun hn x hx hb => by have := (own_lt o212 x.block (by rw [hx]; rfl)).2; have := Nat.le_trans (Nat.le_refl w12.heap.size) p243; omega) (ms_lo_cons (fun hn x hx hb => by have := (own_lt o217 x.block (by rw [hx]; rfl)).2; have := Nat.le_trans (Nat.le_refl w12.heap.size) p243; omega) (ms_lo_cons (fun hn x hx hb => by have := (own_lt o222 x.block (by rw [hx]; rfl)).2; have := Nat.le_trans (Nat.le_refl w12.heap.size) p243; omega) (ms_lo_cons (fun hn x hx hb => by have := (own_lt o227 x.block (by rw [hx]; rfl)).2; have := Nat.le_trans (Nat.le_refl w12.heap.size) p243; omega) (ms_lo_cons (fun hn x hx hb => by have := (own_lt o232 x.block (by rw [hx]; rfl)).2; have := Nat.le_trans (Nat.le_refl w12.heap.size) p243; omega) (ms_lo_cons (fun hn x hx hb => by have := (own_lt o237 x.block (by rw [hx]; rfl)).2; have := Nat.le_trans (Nat.le_refl w12.heap.size) p243; omega) ms_lo_nil))))))))
  refine lN [(vi (((y207).1).Role)), (vs a210 (((y207).1).Sn).length c211), (vi ((((y207).1).Cur).N)), (vs a215 ((((y207).1).Cur).Key).length c216), (vi ((((y207).1).Cur).Seq)), (vi (((((y207).1).Cur).Win).Top)), (vs a220 (((((y207).1).Cur).Win).Bits).length c221), (vi ((((y207).1).Old).N)), (vs a225 ((((y207).1).Old).Key).length c226), (vi ((((y207).1).Old).Seq)), (vi (((((y207).1).Old).Win).Top)), (vs a230 (((((y207).1).Old).Win).Bits).length c231), (vb (((y207).1).HasOld)), (vi (((y207).1).Until)), (vs a235 (((y207).1).Next).length c236)] wN isAgg_38 sizeOf_38 b514 ?_
  mv% (vi 1)
  obtain ⟨y516, e517⟩ : ∃ y, F_laws_heldChan { Role := ((y207).1).Role, Sn := (marksB 1 (((y207).1).Sn).length), Cur := { N := (((y207).1).Cur).N, Key := (marksB (1 + ((((y207).1).Sn).length : Int)) ((((y207).1).Cur).Key).length), Seq := (((y207).1).Cur).Seq, Win := { Top := ((((y207).1).Cur).Win).Top, Bits := (marksI ((1 + ((((y207).1).Sn).length : Int)) + (((((y207).1).Cur).Key).length : Int)) (((((y207).1).Cur).Win).Bits).length) : PWin } : PEp }, Old := { N := (((y207).1).Old).N, Key := (marksB (((1 + ((((y207).1).Sn).length : Int)) + (((((y207).1).Cur).Key).length : Int)) + ((((((y207).1).Cur).Win).Bits).length : Int)) ((((y207).1).Old).Key).length), Seq := (((y207).1).Old).Seq, Win := { Top := ((((y207).1).Old).Win).Top, Bits := (marksI ((((1 + ((((y207).1).Sn).length : Int)) + (((((y207).1).Cur).Key).length : Int)) + ((((((y207).1).Cur).Win).Bits).length : Int)) + (((((y207).1).Old).Key).length : Int)) (((((y207).1).Old).Win).Bits).length) : PWin } : PEp }, HasOld := ((y207).1).HasOld, Until := ((y207).1).Until, Next := (marksB (((((1 + ((((y207).1).Sn).length : Int)) + (((((y207).1).Cur).Key).length : Int)) + ((((((y207).1).Cur).Win).Bits).length : Int)) + (((((y207).1).Old).Key).length : Int)) + ((((((y207).1).Old).Win).Bits).length : Int)) (((y207).1).Next).length) : PChan } 1 = y := ⟨_, rfl⟩
  have hc515 := C_laws_heldChan w23 _ _ (show R_38 w23 (va [(vi (((y207).1).Role)), (vs a210 (((y207).1).Sn).length c211), (vi ((((y207).1).Cur).N)), (vs a215 ((((y207).1).Cur).Key).length c216), (vi ((((y207).1).Cur).Seq)), (vi (((((y207).1).Cur).Win).Top)), (vs a220 (((((y207).1).Cur).Win).Bits).length c221), (vi ((((y207).1).Old).N)), (vs a225 ((((y207).1).Old).Key).length c226), (vi ((((y207).1).Old).Seq)), (vi (((((y207).1).Old).Win).Top)), (vs a230 (((((y207).1).Old).Win).Bits).length c231), (vb (((y207).1).HasOld)), (vi (((y207).1).Until)), (vs a235 (((y207).1).Next).length c236)]) { Role := ((y207).1).Role, Sn := (marksB 1 (((y207).1).Sn).length), Cur := { N := (((y207).1).Cur).N, Key := (marksB (1 + ((((y207).1).Sn).length : Int)) ((((y207).1).Cur).Key).length), Seq := (((y207).1).Cur).Seq, Win := { Top := ((((y207).1).Cur).Win).Top, Bits := (marksI ((1 + ((((y207).1).Sn).length : Int)) + (((((y207).1).Cur).Key).length : Int)) (((((y207).1).Cur).Win).Bits).length) : PWin } : PEp }, Old := { N := (((y207).1).Old).N, Key := (marksB (((1 + ((((y207).1).Sn).length : Int)) + (((((y207).1).Cur).Key).length : Int)) + ((((((y207).1).Cur).Win).Bits).length : Int)) ((((y207).1).Old).Key).length), Seq := (((y207).1).Old).Seq, Win := { Top := ((((y207).1).Old).Win).Top, Bits := (marksI ((((1 + ((((y207).1).Sn).length : Int)) + (((((y207).1).Cur).Key).length : Int)) + ((((((y207).1).Cur).Win).Bits).length : Int)) + (((((y207).1).Old).Key).length : Int)) (((((y207).1).Old).Win).Bits).length) : PWin } : PEp }, HasOld := ((y207).1).HasOld, Until := ((y207).1).Until, Next := (marksB (((((1 + ((((y207).1).Sn).length : Int)) + (((((y207).1).Cur).Key).length : Int)) + ((((((y207).1).Cur).Win).Bits).length : Int)) + (((((y207).1).Old).Key).length : Int)) + ((((((y207).1).Old).Win).Bits).length : Int)) (((y207).1).Next).length) : PChan } from ⟨a210, c211, a215, c216, a220, c221, a225, c226, a230, c231, a235, c236, by simp only [marksB_len, marksI_len, marksL_len, marksE_len], by simpa only [marksB_len, marksI_len, marksL_len, marksE_len] using r506, by simp only [marksB_len, marksI_len, marksL_len, marksE_len]; first | exact s213 | omega, by simpa only [marksB_len, marksI_len, marksL_len, marksE_len] using r507, by simp only [marksB_len, marksI_len, marksL_len, marksE_len]; first | exact s218 | omega, by simpa only [marksB_len, marksI_len, marksL_len, marksE_len] using r508, by simp only [marksB_len, marksI_len, marksL_len, marksE_len]; first | exact s223 | omega, by simpa only [marksB_len, marksI_len, marksL_len, marksE_len] using r509, by simp only [marksB_len, marksI_len, marksL_len, marksE_len]; first | exact s228 | omega, by simpa only [marksB_len, marksI_len, marksL_len, marksE_len] using r510, by simp only [marksB_len, marksI_len, marksL_len, marksE_len]; first | exact s233 | omega, by simpa only [marksB_len, marksI_len, marksL_len, marksE_len] using r511, by simp only [marksB_len, marksI_len, marksL_len, marksE_len]; first | exact s238 | omega⟩) 1 o% o%
  rw [e517] at hc515
  cl% hc515
  rintro _ w24 ⟨k518, rfl⟩
  m% m519 m512 k518
  have q520 := laws_heldChan_le { Role := ((y207).1).Role, Sn := (marksB 1 (((y207).1).Sn).length), Cur := { N := (((y207).1).Cur).N, Key := (marksB (1 + ((((y207).1).Sn).length : Int)) ((((y207).1).Cur).Key).length), Seq := (((y207).1).Cur).Seq, Win := { Top := ((((y207).1).Cur).Win).Top, Bits := (marksI ((1 + ((((y207).1).Sn).length : Int)) + (((((y207).1).Cur).Key).length : Int)) (((((y207).1).Cur).Win).Bits).length) : PWin } : PEp }, Old := { N := (((y207).1).Old).N, Key := (marksB (((1 + ((((y207).1).Sn).length : Int)) + (((((y207).1).Cur).Key).length : Int)) + ((((((y207).1).Cur).Win).Bits).length : Int)) ((((y207).1).Old).Key).length), Seq := (((y207).1).Old).Seq, Win := { Top := ((((y207).1).Old).Win).Top, Bits := (marksI ((((1 + ((((y207).1).Sn).length : Int)) + (((((y207).1).Cur).Key).length : Int)) + ((((((y207).1).Cur).Win).Bits).length : Int)) + (((((y207).1).Old).Key).length : Int)) (((((y207).1).Old).Win).Bits).length) : PWin } : PEp }, HasOld := ((y207).1).HasOld, Until := ((y207).1).Until, Next := (marksB (((((1 + ((((y207).1).Sn).length : Int)) + (((((y207).1).Cur).Key).length : Int)) + ((((((y207).1).Cur).Win).Bits).length : Int)) + (((((y207).1).Old).Key).length : Int)) + ((((((y207).1).Old).Win).Bits).length : Int)) (((y207).1).Next).length) : PChan } 1
  try rw [e517] at q520
  ag% (vi (y516))
  n4%
  mv% (vi (y516))
  pu% (vb (decide ((y516) < 0)))
  n2%
  rcases bt (decide ((y516) < 0)) with h521 | h521
  ·dt% q522 h521
   ct% h521
   sr%
   ag% (vb false)
   n1%
   r1% (vb false)
   kp% m519
   have hF523 : F_laws_FnExactHearRekey x_aC x_aUnder x_aPlain = false := by first | (simp only [F_laws_FnExactHearRekey, h42, h49, e103, e208, h267, h269, e432, h435, h448, h472, e517, h521, cond_true, cond_false]; done) | (unfold F_laws_FnExactHearRekey; try rw [h42]; try rw [h49]; try rw [e103]; try rw [e208]; try rw [h267]; try rw [h269]; try rw [e432]; try rw [h435]; try rw [h448]; try rw [h472]; try rw [e517]; try rw [h521]; rfl)
   rw [hF523]
   exact rfl
  df% q524 h521
  cf% h521
  z2%
  mv% (vi (y516))
  mv% (vi ((((((1 + ((((y207).1).Sn).length : Int)) + (((((y207).1).Cur).Key).length : Int)) + ((((((y207).1).Cur).Win).Bits).length : Int)) + (((((y207).1).Old).Key).length : Int)) + ((((((y207).1).Old).Win).Bits).length : Int)) + ((((y207).1).Next).length : Int)))
  pu% (vb (!(decide ((y516) = ((((((1 + ((((y207).1).Sn).length : Int)) + (((((y207).1).Cur).Key).length : Int)) + ((((((y207).1).Cur).Win).Bits).length : Int)) + (((((y207).1).Old).Key).length : Int)) + ((((((y207).1).Old).Win).Bits).length : Int)) + ((((y207).1).Next).length : Int))))))
  n2%
  rcases bf (decide ((y516) = ((((((1 + ((((y207).1).Sn).length : Int)) + (((((y207).1).Cur).Key).length : Int)) + ((((((y207).1).Cur).Win).Bits).length : Int)) + (((((y207).1).Old).Key).length : Int)) + ((((((y207).1).Old).Win).Bits).length : Int)) + ((((y207).1).Next).length : Int)))) with h525 | h525
  ·df% q646 h525
   ct% (congrArg not h525)
   sr%
   ag% (vb false)
   n1%
   r1% (vb false)
   kp% m519
   have hF647 : F_laws_FnExactHearRekey x_aC x_aUnder x_aPlain = false := by first | (simp only [F_laws_FnExactHearRekey, h42, h49, e103, e208, h267, h269, e432, h435, h448, h472, e517, h521, h525, cond_true, cond_false]; done) | (unfold F_laws_FnExactHearRekey; try rw [h42]; try rw [h49]; try rw [e103]; try rw [e208]; try rw [h267]; try rw [h269]; try rw [e432]; try rw [h435]; try rw [h448]; try rw [h472]; try rw [e517]; try rw [h521]; try rw [h525]; rfl)
   rw [hF647]
   exact rfl
  dt% q526 h525
  cf% (congrArg not h525)
  z1%
  have b527 := (((((((((((((((((b147.kp k148).kp k184).ch k187 (Nat.ne_of_lt (Nat.lt_of_lt_of_le p38 (Nat.le_trans (z% k46 k54 k87 k104 k140 k143 k148) p182)))).kp k191).kp k209).kp k245).ch k248 (Nat.ne_of_lt (Nat.lt_of_lt_of_le p38 (Nat.le_trans (z% k46 k54 k87 k104 k140 k143 k148 k184 k187 k191 k209) p243)))).kp k265).kp k389).kp k433).kp k437).kp k446).ch k457 (ms_lo (ms_lo_cons (fun hn x hx hb => by have := (own_lt o151 x.block (by rw [hx]; rfl)).1; have := Nat.lt_of_lt_of_le p38 (z% k46 k54 k87 k104 k140 k143); omega) (ms_lo_cons (fun hn x hx hb => by have := (own_lt o156 x.block (by rw [hx]; rfl)).1; have := Nat.lt_of_lt_of_le p38 (z% k46 k54 k87 k104 k140 k143); omega) (ms_lo_cons (fun hn x hx hb => by have := (own_lt o161 x.block (by rw [hx]; rfl)).1; have := Nat.lt_of_lt_of_le p38 (z% k46 k54 k87 k104 k140 k143); omega) (ms_lo_cons (fun hn x hx hb => by have := (own_lt o166 x.block (by rw [hx]; rfl)).1; have := Nat.lt_of_lt_of_le p38 (z% k46 k54 k87 k104 k140 k143); omega) (ms_lo_cons (fun hn x hx hb => by have := (own_lt o171 x.block (by rw [hx]; rfl)).1; have := Nat.lt_of_lt_of_le p38 (z% k46 k54 k87 k104 k140 k143); omega) (ms_lo_cons (fun hn x hx hb => by have := (own_lt o176 x.block (by rw [hx]; rfl)).1; have := Nat.lt_of_lt_of_le p38 (z% k46 k54 k87 k104 k140 k143); omega) ms_lo_nil)))))))).ch k468 (ms_lo (ms_lo_cons (fun hn x hx hb => by have := (own_lt o194 x.block (by rw [hx]; rfl)).1; have := Nat.lt_of_lt_of_le p38 (z% k46 k54 k87 k104 k140 k143 k148 k184 k187); omega) ms_lo_nil))).kp k490).ch k505 (ms_lo (ms_lo_cons (fun hn x hx hb => by have := (own_lt o212 x.block (by rw [hx]; rfl)).1; have := Nat.lt_of_lt_of_le p38 (z% k46 k54 k87 k104 k140 k143 k148 k184 k187 k191); omega) (ms_lo_cons (fun hn x hx hb => by have := (own_lt o217 x.block (by rw [hx]; rfl)).1; have := Nat.lt_of_lt_of_le p38 (z% k46 k54 k87 k104 k140 k143 k148 k184 k187 k191); omega) (ms_lo_cons (fun hn x hx hb => by have := (own_lt o222 x.block (by rw [hx]; rfl)).1; have := Nat.lt_of_lt_of_le p38 (z% k46 k54 k87 k104 k140 k143 k148 k184 k187 k191); omega) (ms_lo_cons (fun hn x hx hb => by have := (own_lt o227 x.block (by rw [hx]; rfl)).1; have := Nat.lt_of_lt_of_le p38 (z% k46 k54 k87 k104 k140 k143 k148 k184 k187 k191); omega) (ms_lo_cons (fun hn x hx hb => by have := (own_lt o232 x.block (by rw [hx]; rfl)).1; have := Nat.lt_of_lt_of_le p38 (z% k46 k54 k87 k104 k140 k143 k148 k184 k187 k191); omega) (ms_lo_cons (fun hn x hx hb => by have := (own_lt o237 x.block (by rw [hx]; rfl)).1; have := Nat.lt_of_lt_of_le p38 (z% k46 k54 k87 k104 k140 k143 k148 k184 k187 k191); omega) ms_lo_nil)))))))).kp k518)
  refine lN (L_38 x_aC a1 c2 a6 c7 a11 c12 a16 c17 a21 c22 a26 c27) wN isAgg_50 sizeOf_50 b527 ?_
  cl% (C_laws_toChan w24 _ x_aC (mR_50 (r3.from0 m519) o% (r8.from0 m519) o% (r13.from0 m519) o% (r18.from0 m519) o% (r23.from0 m519) o% (r28.from0 m519) o%))
  rintro _ w25 ⟨k528, ⟨a529, c530, a534, c535, a539, c540, a544, c545, a549, c550, a554, c555, rfl, o531, s532, o536, s537, o541, s542, o546, s547, o551, s552, o556, s557, ap559⟩⟩
  m% m560 m519 k528
  mv% (vi x_aUnder)
  mv% (vs a31 x_aPlain.length c32)
  cl% (C_laws_toByteS w25 _ x_aPlain (mR_22 (r33.from0 m560) o%))
  rintro _ w26 ⟨k561, ⟨a562, c563, rfl, o564, s565, ap567⟩⟩
  m% m568 m560 k561
  have o569 := (own_kp o531 k561)
  have o570 := (own_kp o536 k561)
  have o571 := (own_kp o541 k561)
  have o572 := (own_kp o546 k561)
  have o573 := (own_kp o551 k561)
  have o574 := (own_kp o556 k561)
  have hc575 := C_impl_HearRekey w26 _ (F_laws_toChan x_aC) (mR_38 (Rd.of_own o569) s532 (Rd.of_own o570) s537 (Rd.of_own o571) s542 (Rd.of_own o572) s547 (Rd.of_own o573) s552 (Rd.of_own o574) s557) x_aUnder _ (cpB x_aPlain) (mR_22 (Rd.of_own o564) s565)
  rw [e208] at hc575
  cl% hc575
  rintro _ w27 ⟨k576, ⟨a577, c578, a582, c583, a587, c588, a592, c593, a597, c598, a602, c603, rfl, o579, s580, o584, s585, o589, s590, o594, s595, o599, s600, o604, s605, ap607⟩⟩
  m% m608 m568 k576
  mv% (.tuple #[(va (L_38 ((y207).1) a577 c578 a582 c583 a587 c588 a592 c593 a597 c598 a602 c603)), (vi ((y207).2))])
  pu% (va (L_38 ((y207).1) a577 c578 a582 c583 a587 c588 a592 c593 a597 c598 a602 c603))
  pu% (vi ((y207).2))
  refine al [(vi 0), (vs none 0 0), (vi 0), (vs none 0 0), (vi 0), (vi 0), (vs none 0 0), (vi 0), (vs none 0 0), (vi 0), (vi 0), (vs none 0 0), (vb false), (vi 0), (vs none 0 0)] wN zero_38 ?_
  intro g609 w28 p610 p611 k612 b613
  m% m614 m608 k612
  sv% (L_38 ((y207).1) a577 c578 a582 c583 a587 c588 a592 c593 a597 c598 a602 c603) sizeOf_38 b613
  intro w29 k615 b616 z617
  have m618 := m614.ext k615 (fun k hk => by subst hk; exact Nat.le_trans (t5 (t12 (z% k39 k46 k54 k87 k104 k140 k143 k148 k184 k187 k191 k209) k245.size k248.size k265.size k389.size k433.size k437.size k446.size k457.size k468.size k490.size k505.size) k518.size k528.size k561.size k576.size) p610)
  ag% (vi ((y207).2))
  n4%
  refine lN (L_38 ((y207).1) a577 c578 a582 c583 a587 c588 a592 c593 a597 c598 a602 c603) wN isAgg_38 sizeOf_38 b616 ?_
  have b619 := ((((((((b477.kp k490).ch k505 (ms_lo (ms_lo_cons (fun hn x hx hb => by have := (own_lt o212 x.block (by rw [hx]; rfl)).1; have := Nat.lt_of_lt_of_le p139 (z% k143 k148 k184 k187 k191); omega) (ms_lo_cons (fun hn x hx hb => by have := (own_lt o217 x.block (by rw [hx]; rfl)).1; have := Nat.lt_of_lt_of_le p139 (z% k143 k148 k184 k187 k191); omega) (ms_lo_cons (fun hn x hx hb => by have := (own_lt o222 x.block (by rw [hx]; rfl)).1; have := Nat.lt_of_lt_of_le p139 (z% k143 k148 k184 k187 k191); omega) (ms_lo_cons (fun hn x hx hb => by have := (own_lt o227 x.block (by rw [hx]; rfl)).1; have := Nat.lt_of_lt_of_le p139 (z% k143 k148 k184 k187 k191); omega) (ms_lo_cons (fun hn x hx hb => by have := (own_lt o232 x.block (by rw [hx]; rfl)).1; have := Nat.lt_of_lt_of_le p139 (z% k143 k148 k184 k187 k191); omega) (ms_lo_cons (fun hn x hx hb => by have := (own_lt o237 x.block (by rw [hx]; rfl)).1; have := Nat.lt_of_lt_of_le p139 (z% k143 k148 k184 k187 k191); omega) ms_lo_nil)))))))).kp k518).kp k528).kp k561).kp k576).kp k612).ch k615 (Nat.ne_of_lt (Nat.lt_of_lt_of_le p139 (Nat.le_trans (t10 (z% k143 k148 k184 k187 k191 k209 k245 k248 k265 k389 k433 k437) k446.size k457.size k468.size k490.size k505.size k518.size k528.size k561.size k576.size) p610))))
  refine lN (L_38 ((y102).1) a105 c106 a110 c111 a115 c116 a120 c121 a125 c126 a130 c131) wN isAgg_38 sizeOf_38 b619 ?_
  have o620 := (own_ch (own_kp o579 k612) k615 (e2% o579 (Nat.le_trans (Nat.le_refl w27.heap.size) p610)))
  have o621 := (own_ch (own_kp o584 k612) k615 (e2% o584 (Nat.le_trans (Nat.le_refl w27.heap.size) p610)))
  have o622 := (own_ch (own_kp o589 k612) k615 (e2% o589 (Nat.le_trans (Nat.le_refl w27.heap.size) p610)))
  have o623 := (own_ch (own_kp o594 k612) k615 (e2% o594 (Nat.le_trans (Nat.le_refl w27.heap.size) p610)))
  have o624 := (own_ch (own_kp o599 k612) k615 (e2% o599 (Nat.le_trans (Nat.le_refl w27.heap.size) p610)))
  have o625 := (own_ch (own_kp o604 k612) k615 (e2% o604 (Nat.le_trans (Nat.le_refl w27.heap.size) p610)))
  have r626 := (((((((Rd.mz (r484.kp k490) l513 (ap_cons (rd_cap r493) (Ap.lt o107 o212 (z% k140 k143 k148 k184 k187 k191)).symm (ap_cons (rd_cap r494) (Ap.lt o107 o217 (z% k140 k143 k148 k184 k187 k191)).symm (ap_cons (rd_cap r495) (Ap.lt o107 o222 (z% k140 k143 k148 k184 k187 k191)).symm (ap_cons (rd_cap r496) (Ap.lt o107 o227 (z% k140 k143 k148 k184 k187 k191)).symm (ap_cons (rd_cap r497) (Ap.lt o107 o232 (z% k140 k143 k148 k184 k187 k191)).symm (ap_cons (rd_cap r498) (Ap.lt o107 o237 (z% k140 k143 k148 k184 k187 k191)).symm ap_nil))))))).kp k518).kp k528).kp k561).kp k576).kp k612).ch k615 (e2% o107 (Nat.le_trans (t11 (z% k140 k143 k148 k184 k187 k191 k209 k245 k248 k265 k389 k433) k437.size k446.size k457.size k468.size k490.size k505.size k518.size k528.size k561.size k576.size) p610)))
  have r627 := (((((((Rd.mz (r485.kp k490) l513 (ap_cons (rd_cap r493) (Ap.lt o112 o212 (z% k140 k143 k148 k184 k187 k191)).symm (ap_cons (rd_cap r494) (Ap.lt o112 o217 (z% k140 k143 k148 k184 k187 k191)).symm (ap_cons (rd_cap r495) (Ap.lt o112 o222 (z% k140 k143 k148 k184 k187 k191)).symm (ap_cons (rd_cap r496) (Ap.lt o112 o227 (z% k140 k143 k148 k184 k187 k191)).symm (ap_cons (rd_cap r497) (Ap.lt o112 o232 (z% k140 k143 k148 k184 k187 k191)).symm (ap_cons (rd_cap r498) (Ap.lt o112 o237 (z% k140 k143 k148 k184 k187 k191)).symm ap_nil))))))).kp k518).kp k528).kp k561).kp k576).kp k612).ch k615 (e2% o112 (Nat.le_trans (t11 (z% k140 k143 k148 k184 k187 k191 k209 k245 k248 k265 k389 k433) k437.size k446.size k457.size k468.size k490.size k505.size k518.size k528.size k561.size k576.size) p610)))
  have r628 := (((((((Rd.mz (r486.kp k490) l513 (ap_cons (rd_cap r493) (Ap.lt o117 o212 (z% k140 k143 k148 k184 k187 k191)).symm (ap_cons (rd_cap r494) (Ap.lt o117 o217 (z% k140 k143 k148 k184 k187 k191)).symm (ap_cons (rd_cap r495) (Ap.lt o117 o222 (z% k140 k143 k148 k184 k187 k191)).symm (ap_cons (rd_cap r496) (Ap.lt o117 o227 (z% k140 k143 k148 k184 k187 k191)).symm (ap_cons (rd_cap r497) (Ap.lt o117 o232 (z% k140 k143 k148 k184 k187 k191)).symm (ap_cons (rd_cap r498) (Ap.lt o117 o237 (z% k140 k143 k148 k184 k187 k191)).symm ap_nil))))))).kp k518).kp k528).kp k561).kp k576).kp k612).ch k615 (e2% o117 (Nat.le_trans (t11 (z% k140 k143 k148 k184 k187 k191 k209 k245 k248 k265 k389 k433) k437.size k446.size k457.size k468.size k490.size k505.size k518.size k528.size k561.size k576.size) p610)))
  have r629 := (((((((Rd.mz (r487.kp k490) l513 (ap_cons (rd_cap r493) (Ap.lt o122 o212 (z% k140 k143 k148 k184 k187 k191)).symm (ap_cons (rd_cap r494) (Ap.lt o122 o217 (z% k140 k143 k148 k184 k187 k191)).symm (ap_cons (rd_cap r495) (Ap.lt o122 o222 (z% k140 k143 k148 k184 k187 k191)).symm (ap_cons (rd_cap r496) (Ap.lt o122 o227 (z% k140 k143 k148 k184 k187 k191)).symm (ap_cons (rd_cap r497) (Ap.lt o122 o232 (z% k140 k143 k148 k184 k187 k191)).symm (ap_cons (rd_cap r498) (Ap.lt o122 o237 (z% k140 k143 k148 k184 k187 k191)).symm ap_nil))))))).kp k518).kp k528).kp k561).kp k576).kp k612).ch k615 (e2% o122 (Nat.le_trans (t11 (z% k140 k143 k148 k184 k187 k191 k209 k245 k248 k265 k389 k433) k437.size k446.size k457.size k468.size k490.size k505.size k518.size k528.size k561.size k576.size) p610)))
  have r630 := (((((((Rd.mz (r488.kp k490) l513 (ap_cons (rd_cap r493) (Ap.lt o127 o212 (z% k140 k143 k148 k184 k187 k191)).symm (ap_cons (rd_cap r494) (Ap.lt o127 o217 (z% k140 k143 k148 k184 k187 k191)).symm (ap_cons (rd_cap r495) (Ap.lt o127 o222 (z% k140 k143 k148 k184 k187 k191)).symm (ap_cons (rd_cap r496) (Ap.lt o127 o227 (z% k140 k143 k148 k184 k187 k191)).symm (ap_cons (rd_cap r497) (Ap.lt o127 o232 (z% k140 k143 k148 k184 k187 k191)).symm (ap_cons (rd_cap r498) (Ap.lt o127 o237 (z% k140 k143 k148 k184 k187 k191)).symm ap_nil))))))).kp k518).kp k528).kp k561).kp k576).kp k612).ch k615 (e2% o127 (Nat.le_trans (t11 (z% k140 k143 k148 k184 k187 k191 k209 k245 k248 k265 k389 k433) k437.size k446.size k457.size k468.size k490.size k505.size k518.size k528.size k561.size k576.size) p610)))
  have r631 := (((((((Rd.mz (r489.kp k490) l513 (ap_cons (rd_cap r493) (Ap.lt o132 o212 (z% k140 k143 k148 k184 k187 k191)).symm (ap_cons (rd_cap r494) (Ap.lt o132 o217 (z% k140 k143 k148 k184 k187 k191)).symm (ap_cons (rd_cap r495) (Ap.lt o132 o222 (z% k140 k143 k148 k184 k187 k191)).symm (ap_cons (rd_cap r496) (Ap.lt o132 o227 (z% k140 k143 k148 k184 k187 k191)).symm (ap_cons (rd_cap r497) (Ap.lt o132 o232 (z% k140 k143 k148 k184 k187 k191)).symm (ap_cons (rd_cap r498) (Ap.lt o132 o237 (z% k140 k143 k148 k184 k187 k191)).symm ap_nil))))))).kp k518).kp k528).kp k561).kp k576).kp k612).ch k615 (e2% o132 (Nat.le_trans (t11 (z% k140 k143 k148 k184 k187 k191 k209 k245 k248 k265 k389 k433) k437.size k446.size k457.size k468.size k490.size k505.size k518.size k528.size k561.size k576.size) p610)))
  cl% (C_laws_eqChan w29 _ ((y207).1) (mR_38 (Rd.of_own o620) s580 (Rd.of_own o621) s585 (Rd.of_own o622) s590 (Rd.of_own o623) s595 (Rd.of_own o624) s600 (Rd.of_own o625) s605) _ ((y102).1) (mR_38 r626 s108 r627 s113 r628 s118 r629 s123 r630 s128 r631 s133))
  rintro _ w30 ⟨k632, rfl⟩
  m% m633 m618 k632
  pu% (vb (!(F_laws_eqChan ((y207).1) ((y102).1))))
  mv% (vb (!(F_laws_eqChan ((y207).1) ((y102).1))))
  refine mv (vi ((y207).2)) (wS (congrArg not h267)) ?_
  refine mv (vi ((y102).2)) (wS (congrArg not h267)) ?_
  refine pu (vb (!(decide ((y207).2 = (y102).2)))) (wS (congrArg not h267)) ?_
  refine pf (vb (!(decide ((y207).2 = (y102).2)))) wN (congrArg not h267) ?_
  n2%
  cf% (congrArg not h269)
  z1%
  ag% (vi 1)
  nx%
  have b634 := (((((((b514.kp k518).kp k528).kp k561).kp k576).kp k612).ch k615 (Nat.ne_of_lt (Nat.lt_of_lt_of_le p244 (Nat.le_trans (t3 (z% k248 k265 k389 k433 k437 k446 k457 k468 k490 k505 k518 k528) k561.size k576.size) p610)))).kp k632)
  refine lN [(vi (((y207).1).Role)), (vs a210 (((y207).1).Sn).length c211), (vi ((((y207).1).Cur).N)), (vs a215 ((((y207).1).Cur).Key).length c216), (vi ((((y207).1).Cur).Seq)), (vi (((((y207).1).Cur).Win).Top)), (vs a220 (((((y207).1).Cur).Win).Bits).length c221), (vi ((((y207).1).Old).N)), (vs a225 ((((y207).1).Old).Key).length c226), (vi ((((y207).1).Old).Seq)), (vi (((((y207).1).Old).Win).Top)), (vs a230 (((((y207).1).Old).Win).Bits).length c231), (vb (((y207).1).HasOld)), (vi (((y207).1).Until)), (vs a235 (((y207).1).Next).length c236)] wN isAgg_38 sizeOf_38 b634 ?_
  mv% (vi 1)
  have r635 := (((((((r506.kp k518).kp k528).kp k561).kp k576).kp k612).ch k615 (e2% o212 (Nat.le_trans (t4 (z% k245 k248 k265 k389 k433 k437 k446 k457 k468 k490 k505 k518) k528.size k561.size k576.size) p610))).kp k632)
  have r636 := (((((((r507.kp k518).kp k528).kp k561).kp k576).kp k612).ch k615 (e2% o217 (Nat.le_trans (t4 (z% k245 k248 k265 k389 k433 k437 k446 k457 k468 k490 k505 k518) k528.size k561.size k576.size) p610))).kp k632)
  have r637 := (((((((r508.kp k518).kp k528).kp k561).kp k576).kp k612).ch k615 (e2% o222 (Nat.le_trans (t4 (z% k245 k248 k265 k389 k433 k437 k446 k457 k468 k490 k505 k518) k528.size k561.size k576.size) p610))).kp k632)
  have r638 := (((((((r509.kp k518).kp k528).kp k561).kp k576).kp k612).ch k615 (e2% o227 (Nat.le_trans (t4 (z% k245 k248 k265 k389 k433 k437 k446 k457 k468 k490 k505 k518) k528.size k561.size k576.size) p610))).kp k632)
  have r639 := (((((((r510.kp k518).kp k528).kp k561).kp k576).kp k612).ch k615 (e2% o232 (Nat.le_trans (t4 (z% k245 k248 k265 k389 k433 k437 k446 k457 k468 k490 k505 k518) k528.size k561.size k576.size) p610))).kp k632)
  have r640 := (((((((r511.kp k518).kp k528).kp k561).kp k576).kp k612).ch k615 (e2% o237 (Nat.le_trans (t4 (z% k245 k248 k265 k389 k433 k437 k446 k457 k468 k490 k505 k518) k528.size k561.size k576.size) p610))).kp k632)
  have hc641 := C_laws_heldChan w30 _ _ (show R_38 w30 (va [(vi (((y207).1).Role)), (vs a210 (((y207).1).Sn).length c211), (vi ((((y207).1).Cur).N)), (vs a215 ((((y207).1).Cur).Key).length c216), (vi ((((y207).1).Cur).Seq)), (vi (((((y207).1).Cur).Win).Top)), (vs a220 (((((y207).1).Cur).Win).Bits).length c221), (vi ((((y207).1).Old).N)), (vs a225 ((((y207).1).Old).Key).length c226), (vi ((((y207).1).Old).Seq)), (vi (((((y207).1).Old).Win).Top)), (vs a230 (((((y207).1).Old).Win).Bits).length c231), (vb (((y207).1).HasOld)), (vi (((y207).1).Until)), (vs a235 (((y207).1).Next).length c236)]) { Role := ((y207).1).Role, Sn := (marksB 1 (((y207).1).Sn).length), Cur := { N := (((y207).1).Cur).N, Key := (marksB (1 + ((((y207).1).Sn).length : Int)) ((((y207).1).Cur).Key).length), Seq := (((y207).1).Cur).Seq, Win := { Top := ((((y207).1).Cur).Win).Top, Bits := (marksI ((1 + ((((y207).1).Sn).length : Int)) + (((((y207).1).Cur).Key).length : Int)) (((((y207).1).Cur).Win).Bits).length) : PWin } : PEp }, Old := { N := (((y207).1).Old).N, Key := (marksB (((1 + ((((y207).1).Sn).length : Int)) + (((((y207).1).Cur).Key).length : Int)) + ((((((y207).1).Cur).Win).Bits).length : Int)) ((((y207).1).Old).Key).length), Seq := (((y207).1).Old).Seq, Win := { Top := ((((y207).1).Old).Win).Top, Bits := (marksI ((((1 + ((((y207).1).Sn).length : Int)) + (((((y207).1).Cur).Key).length : Int)) + ((((((y207).1).Cur).Win).Bits).length : Int)) + (((((y207).1).Old).Key).length : Int)) (((((y207).1).Old).Win).Bits).length) : PWin } : PEp }, HasOld := ((y207).1).HasOld, Until := ((y207).1).Until, Next := (marksB (((((1 + ((((y207).1).Sn).length : Int)) + (((((y207).1).Cur).Key).length : Int)) + ((((((y207).1).Cur).Win).Bits).length : Int)) + (((((y207).1).Old).Key).length : Int)) + ((((((y207).1).Old).Win).Bits).length : Int)) (((y207).1).Next).length) : PChan } from ⟨a210, c211, a215, c216, a220, c221, a225, c226, a230, c231, a235, c236, by simp only [marksB_len, marksI_len, marksL_len, marksE_len], by simpa only [marksB_len, marksI_len, marksL_len, marksE_len] using r635, by simp only [marksB_len, marksI_len, marksL_len, marksE_len]; first | exact s213 | omega, by simpa only [marksB_len, marksI_len, marksL_len, marksE_len] using r636, by simp only [marksB_len, marksI_len, marksL_len, marksE_len]; first | exact s218 | omega, by simpa only [marksB_len, marksI_len, marksL_len, marksE_len] using r637, by simp only [marksB_len, marksI_len, marksL_len, marksE_len]; first | exact s223 | omega, by simpa only [marksB_len, marksI_len, marksL_len, marksE_len] using r638, by simp only [marksB_len, marksI_len, marksL_len, marksE_len]; first | exact s228 | omega, by simpa only [marksB_len, marksI_len, marksL_len, marksE_len] using r639, by simp only [marksB_len, marksI_len, marksL_len, marksE_len]; first | exact s233 | omega, by simpa only [marksB_len, marksI_len, marksL_len, marksE_len] using r640, by simp only [marksB_len, marksI_len, marksL_len, marksE_len]; first | exact s238 | omega⟩) 1 o% o%
  rw [e517] at hc641
  cl% hc641
  rintro _ w31 ⟨k642, rfl⟩
  m% m643 m633 k642
  have q644 := laws_heldChan_le { Role := ((y207).1).Role, Sn := (marksB 1 (((y207).1).Sn).length), Cur := { N := (((y207).1).Cur).N, Key := (marksB (1 + ((((y207).1).Sn).length : Int)) ((((y207).1).Cur).Key).length), Seq := (((y207).1).Cur).Seq, Win := { Top := ((((y207).1).Cur).Win).Top, Bits := (marksI ((1 + ((((y207).1).Sn).length : Int)) + (((((y207).1).Cur).Key).length : Int)) (((((y207).1).Cur).Win).Bits).length) : PWin } : PEp }, Old := { N := (((y207).1).Old).N, Key := (marksB (((1 + ((((y207).1).Sn).length : Int)) + (((((y207).1).Cur).Key).length : Int)) + ((((((y207).1).Cur).Win).Bits).length : Int)) ((((y207).1).Old).Key).length), Seq := (((y207).1).Old).Seq, Win := { Top := ((((y207).1).Old).Win).Top, Bits := (marksI ((((1 + ((((y207).1).Sn).length : Int)) + (((((y207).1).Cur).Key).length : Int)) + ((((((y207).1).Cur).Win).Bits).length : Int)) + (((((y207).1).Old).Key).length : Int)) (((((y207).1).Old).Win).Bits).length) : PWin } : PEp }, HasOld := ((y207).1).HasOld, Until := ((y207).1).Until, Next := (marksB (((((1 + ((((y207).1).Sn).length : Int)) + (((((y207).1).Cur).Key).length : Int)) + ((((((y207).1).Cur).Win).Bits).length : Int)) + (((((y207).1).Old).Key).length : Int)) + ((((((y207).1).Old).Win).Bits).length : Int)) (((y207).1).Next).length) : PChan } 1
  try rw [e517] at q644
  ag% (vi (y516))
  n4%
  mv% (vi (y516))
  pu% (vb (decide ((y516) < 0)))
  n2%
  cf% h521
  z2%
  mv% (vi (y516))
  mv% (vi ((((((1 + ((((y207).1).Sn).length : Int)) + (((((y207).1).Cur).Key).length : Int)) + ((((((y207).1).Cur).Win).Bits).length : Int)) + (((((y207).1).Old).Key).length : Int)) + ((((((y207).1).Old).Win).Bits).length : Int)) + ((((y207).1).Next).length : Int)))
  pu% (vb (!(decide ((y516) = ((((((1 + ((((y207).1).Sn).length : Int)) + (((((y207).1).Cur).Key).length : Int)) + ((((((y207).1).Cur).Win).Bits).length : Int)) + (((((y207).1).Old).Key).length : Int)) + ((((((y207).1).Old).Win).Bits).length : Int)) + ((((y207).1).Next).length : Int))))))
  n2%
  cf% (congrArg not h525)
  z1%
  ag% (vb true)
  n3%
  r1% (vb true)
  kp% m643
  have hF645 : F_laws_FnExactHearRekey x_aC x_aUnder x_aPlain = true := by first | (simp only [F_laws_FnExactHearRekey, h42, h49, e103, e208, h267, h269, e432, h435, h448, h472, e517, h521, h525, cond_true, cond_false]; done) | (unfold F_laws_FnExactHearRekey; try rw [h42]; try rw [h49]; try rw [e103]; try rw [e208]; try rw [h267]; try rw [h269]; try rw [e432]; try rw [h435]; try rw [h448]; try rw [h472]; try rw [e517]; try rw [h521]; try rw [h525]; rfl)
  rw [hF645]
  exact rfl
end Go.Proofs.Ytafcngfnhhchjaa.K
