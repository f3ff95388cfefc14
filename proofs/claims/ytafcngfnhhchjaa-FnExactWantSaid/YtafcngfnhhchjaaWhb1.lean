import Derived.Test.YtafcngfnhhchjaaCore
import Derived.Test.YtafcngfnhhchjaaProg
import Derived.Test.YtafcngfnhhchjaaHeld
import Derived.Test.YtafcngfnhhchjaaFun
import Derived.Test.YtafcngfnhhchjaaFunZ
import Derived.Test.YtafcngfnhhchjaaMark
import Derived.Test.YtafcngfnhhchjaaHash
import Derived.Test.YtafcngfnhhchjaaWh5
namespace Go.Proofs.Ytafcngfnhhchjaa.K
open Go.RowKit
set_option linter.unusedVariables false
set_option linter.unusedSimpArgs false
set_option maxRecDepth 100000
set_option maxHeartbeats 4000000
def O_38_4 (w : World) (lo : Nat) (v : Value) (x : (PChan) × (Bool)) : Prop := ∃ (a1 : Option Addr) (c1 : Nat) (a2 : Option Addr) (c2 : Nat) (a3 : Option Addr) (c3 : Nat) (a4 : Option Addr) (c4 : Nat) (a5 : Option Addr) (c5 : Nat) (a6 : Option Addr) (c6 : Nat), v = .tuple #[.agg #[.int .i64 x.1.Role, .slice a1 x.1.Sn.length c1, .int .i64 x.1.Cur.N, .slice a2 x.1.Cur.Key.length c2, .int .i64 x.1.Cur.Seq, .int .i64 x.1.Cur.Win.Top, .slice a3 x.1.Cur.Win.Bits.length c3, .int .i64 x.1.Old.N, .slice a4 x.1.Old.Key.length c4, .int .i64 x.1.Old.Seq, .int .i64 x.1.Old.Win.Top, .slice a5 x.1.Old.Win.Bits.length c5, .bool x.1.HasOld, .int .i64 x.1.Until, .slice a6 x.1.Next.length c6], .bool x.2] ∧ w.ownsRow lo 5 1 (.slice a1 x.1.Sn.length c1) x.1.Sn.length (x.1.Sn.map bV) ∧ x.1.Sn.length ≤ 1073741824 ∧ w.ownsRow lo 5 1 (.slice a2 x.1.Cur.Key.length c2) x.1.Cur.Key.length (x.1.Cur.Key.map bV) ∧ x.1.Cur.Key.length ≤ 1073741824 ∧ w.ownsRow lo 3 1 (.slice a3 x.1.Cur.Win.Bits.length c3) x.1.Cur.Win.Bits.length (x.1.Cur.Win.Bits.map iV) ∧ x.1.Cur.Win.Bits.length ≤ 1073741824 ∧ w.ownsRow lo 5 1 (.slice a4 x.1.Old.Key.length c4) x.1.Old.Key.length (x.1.Old.Key.map bV) ∧ x.1.Old.Key.length ≤ 1073741824 ∧ w.ownsRow lo 3 1 (.slice a5 x.1.Old.Win.Bits.length c5) x.1.Old.Win.Bits.length (x.1.Old.Win.Bits.map iV) ∧ x.1.Old.Win.Bits.length ≤ 1073741824 ∧ w.ownsRow lo 5 1 (.slice a6 x.1.Next.length c6) x.1.Next.length (x.1.Next.map bV) ∧ x.1.Next.length ≤ 1073741824 ∧ Aps [(a1, c1), (a2, c2), (a3, c3), (a4, c4), (a5, c5), (a6, c6)]
theorem mR_9 {w : World} {x : ByteArray} : R_9 w (.string x) x := rfl
def F_spec_Want (x_c : PChan) : (PChan) × (Bool) := bif (F_spec_ChanOk x_c) then (bif (decide (x_c.Role = 0)) then (bif (decide (0 < (x_c.Next.length : Int))) then (((F_spec_l14Copy x_c), false)) else (bif (decide (x_c.Cur.N = 4294967295)) then (((F_spec_l14Copy x_c), false)) else (({ Role := (F_spec_l14Copy x_c).Role, Sn := (F_spec_l14Copy x_c).Sn, Cur := ((F_spec_l14Copy x_c).Cur), Old := ((F_spec_l14Copy x_c).Old), HasOld := (F_spec_l14Copy x_c).HasOld, Until := (F_spec_l14Copy x_c).Until, Next := (derive x_c.Cur.Key (ByteArray.mk ([114, 101, 107, 101, 121] : List UInt8).toArray)) : PChan }, true)))) else (((F_spec_l14Copy x_c), false))) else (((F_spec_l14Copy x_c), false))
theorem C_spec_Want (w0 : World) (v_x_c : Value) (x_c : PChan) (r_x_c : R_38 w0 v_x_c x_c)  : Fn Try.prog 25 #[v_x_c] w0 (fun v w' => Keep w0 w' ∧ O_38_4 w' w0.heap.size v (F_spec_Want x_c)) := by
 obtain ⟨a1, c2, a6, c7, a11, c12, a16, c17, a21, c22, a26, c27, rfl, r3, s4, r8, s9, r13, s14, r18, s19, r23, s24, r28, s29⟩ := r_x_c
 refine fn_of (n := 34) (l := [(va (L_38 x_c a1 c2 a6 c7 a11 c12 a16 c17 a21 c22 a26 c27)), U, U, U, U, U, U, U, U, U, U, U, U, U, U, U, U, U, U, U, U, U, U, U, U, U, U, U, U, U, U, U, U, U]) Try.func25 rfl rfl (by kernel_rfl) rfl ?_
 refine sr ?_
 refine bx (L_38 x_c a1 c2 a6 c7 a11 c12 a16 c17 a21 c22 a26 c27) wN ?_
 intro g31 w1 p32 p33 k34 b35
 have m36 := (Ch.base w0).extk k34
 refine al [(vi 0), (vs none 0 0), (vi 0), (vs none 0 0), (vi 0), (vi 0), (vs none 0 0), (vi 0), (vs none 0 0), (vi 0), (vi 0), (vs none 0 0), (vb false), (vi 0), (vs none 0 0)] wN zero_38 ?_
 intro g37 w2 p38 p39 k40 b41
 have m42 := m36.extk k40
 refine ag (vb false) wN ?_
 refine nx ?_
 have b43 := (b35.kp k40)
 refine lN (L_38 x_c a1 c2 a6 c7 a11 c12 a16 c17 a21 c22 a26 c27) wN isAgg_38 sizeOf_38 b43 ?_
 refine cl wN (C_spec_l14Copy w2 _ x_c (mR_38 (r3.from0 m42) s4 (r8.from0 m42) s9 (r13.from0 m42) s14 (r18.from0 m42) s19 (r23.from0 m42) s24 (r28.from0 m42) s29)) ?_
 rintro _ w3 ⟨k44, ⟨a45, c46, a50, c51, a55, c56, a60, c61, a65, c66, a70, c71, rfl, o47, s48, o52, s53, o57, s58, o62, s63, o67, s68, o72, s73, ap75⟩⟩
 have m76 := m42.extk k44
 refine al [(vi 0), (vs none 0 0), (vi 0), (vs none 0 0), (vi 0), (vi 0), (vs none 0 0), (vi 0), (vs none 0 0), (vi 0), (vi 0), (vs none 0 0), (vb false), (vi 0), (vs none 0 0)] wN zero_38 ?_
 intro g77 w4 p78 p79 k80 b81
 have m82 := m76.extk k80
 refine st (va (L_38 (F_spec_l14Copy x_c) a45 c46 a50 c51 a55 c56 a60 c61 a65 c66 a70 c71)) (L_38 (F_spec_l14Copy x_c) a45 c46 a50 c51 a55 c56 a60 c61 a65 c66 a70 c71) (L_38 (F_spec_l14Copy x_c) a45 c46 a50 c51 a55 c56 a60 c61 a65 c66 a70 c71) wN sizeOf_38 b81 ?_
 intro w5 k83 b84 z85
 have m86 := m82.ext k83 (fun k hk => by subst hk; exact Nat.le_trans (t3 k34.size k40.size k44.size) p78)
 refine wl_nil <| wq_then <| wc_seq <| sr ?_
 have b87 := (((b43.kp k44).kp k80).ch k83 (Nat.ne_of_lt (Nat.lt_of_lt_of_le p33 (Nat.le_trans (Nat.le_trans k40.size k44.size) p78))))
 refine lN (L_38 x_c a1 c2 a6 c7 a11 c12 a16 c17 a21 c22 a26 c27) wN isAgg_38 sizeOf_38 b87 ?_
 refine cl wN (C_spec_ChanOk w5 _ x_c (mR_38 (r3.from0 m86) s4 (r8.from0 m86) s9 (r13.from0 m86) s14 (r18.from0 m86) s19 (r23.from0 m86) s24 (r28.from0 m86) s29)) ?_
 rintro _ w6 ⟨k88, rfl⟩
 have m89 := m86.extk k88
 refine pu (vb (!(F_spec_ChanOk x_c))) wN ?_
 refine mv (vb (!(F_spec_ChanOk x_c))) wN ?_
 rcases bf (F_spec_ChanOk x_c) with h90 | h90
 ·refine sk (congrArg not h90) ?_
  refine sk (congrArg not h90) ?_
  refine sk (congrArg not h90) ?_
  refine pk (vb true) wN (congrArg not h90) ?_
  refine mv (vb true) wN ?_
  refine sk (Eq.refl true) ?_
  refine sk (Eq.refl true) ?_
  refine sk (Eq.refl true) ?_
  refine sk (Eq.refl true) ?_
  refine pk (vb true) wN (Eq.refl true) ?_
  refine mv (vb true) wN ?_
  refine sk (Eq.refl true) ?_
  refine sk (Eq.refl true) ?_
  refine sk (Eq.refl true) ?_
  refine sk (Eq.refl true) ?_
  refine pk (vb true) wN (Eq.refl true) ?_
  refine wl_nil <| wq_then ?_
  refine ct (Eq.refl true) ?_
  refine sr ?_
  have b168 := (b84.kp k88)
  refine lN (L_38 (F_spec_l14Copy x_c) a45 c46 a50 c51 a55 c56 a60 c61 a65 c66 a70 c71) wN isAgg_38 sizeOf_38 b168 ?_
  have b169 := ((((b41.kp k44).kp k80).ch k83 (Nat.ne_of_lt (Nat.lt_of_lt_of_le p39 (Nat.le_trans k44.size p78)))).kp k88)
  refine st (va (L_38 (F_spec_l14Copy x_c) a45 c46 a50 c51 a55 c56 a60 c61 a65 c66 a70 c71)) (L_38 (F_spec_l14Copy x_c) a45 c46 a50 c51 a55 c56 a60 c61 a65 c66 a70 c71) (L_38 (F_spec_l14Copy x_c) a45 c46 a50 c51 a55 c56 a60 c61 a65 c66 a70 c71) wN sizeOf_38 b169 ?_
  intro w7 k170 b171 z172
  have m173 := m89.ext k170 (fun k hk => by subst hk; exact Nat.le_trans k34.size p38)
  refine ag (vb false) wN ?_
  refine wl_nil <| wq_then <| wc_ret <| wq_then_ret ?_
  have o174 := (own_ch (own_kp (own_ch (own_kp o47 k80) k83 (fun g hg hlt hk => by have h1 := (own_lt o47 g hg).2; have h2 := Nat.le_trans (Nat.le_refl w3.heap.size) p78; omega)) k88) k170 (fun g hg hlt hk => by have h1 := (own_lt o47 g hg).1; have h2 := Nat.lt_of_lt_of_le p39 (Nat.le_refl w2.heap.size); omega))
  have o175 := (own_ch (own_kp (own_ch (own_kp o52 k80) k83 (fun g hg hlt hk => by have h1 := (own_lt o52 g hg).2; have h2 := Nat.le_trans (Nat.le_refl w3.heap.size) p78; omega)) k88) k170 (fun g hg hlt hk => by have h1 := (own_lt o52 g hg).1; have h2 := Nat.lt_of_lt_of_le p39 (Nat.le_refl w2.heap.size); omega))
  have o176 := (own_ch (own_kp (own_ch (own_kp o57 k80) k83 (fun g hg hlt hk => by have h1 := (own_lt o57 g hg).2; have h2 := Nat.le_trans (Nat.le_refl w3.heap.size) p78; omega)) k88) k170 (fun g hg hlt hk => by have h1 := (own_lt o57 g hg).1; have h2 := Nat.lt_of_lt_of_le p39 (Nat.le_refl w2.heap.size); omega))
  have o177 := (own_ch (own_kp (own_ch (own_kp o62 k80) k83 (fun g hg hlt hk => by have h1 := (own_lt o62 g hg).2; have h2 := Nat.le_trans (Nat.le_refl w3.heap.size) p78; omega)) k88) k170 (fun g hg hlt hk => by have h1 := (own_lt o62 g hg).1; have h2 := Nat.lt_of_lt_of_le p39 (Nat.le_refl w2.heap.size); omega))
  have o178 := (own_ch (own_kp (own_ch (own_kp o67 k80) k83 (fun g hg hlt hk => by have h1 := (own_lt o67 g hg).2; have h2 := Nat.le_trans (Nat.le_refl w3.heap.size) p78; omega)) k88) k170 (fun g hg hlt hk => by have h1 := (own_lt o67 g hg).1; have h2 := Nat.lt_of_lt_of_le p39 (Nat.le_refl w2.heap.size); omega))
  have o179 := (own_ch (own_kp (own_ch (own_kp o72 k80) k83 (fun g hg hlt hk => by have h1 := (own_lt o72 g hg).2; have h2 := Nat.le_trans (Nat.le_refl w3.heap.size) p78; omega)) k88) k170 (fun g hg hlt hk => by have h1 := (own_lt o72 g hg).1; have h2 := Nat.lt_of_lt_of_le p39 (Nat.le_refl w2.heap.size); omega))
  refine ret_2 (.inl rfl) (va (L_38 (F_spec_l14Copy x_c) a45 c46 a50 c51 a55 c56 a60 c61 a65 c66 a70 c71)) (vb false) rfl (rv_c [(vi ((F_spec_l14Copy x_c).Role)), (vs a45 ((F_spec_l14Copy x_c).Sn).length c46), (vi (((F_spec_l14Copy x_c).Cur).N)), (vs a50 (((F_spec_l14Copy x_c).Cur).Key).length c51), (vi (((F_spec_l14Copy x_c).Cur).Seq)), (vi ((((F_spec_l14Copy x_c).Cur).Win).Top)), (vs a55 ((((F_spec_l14Copy x_c).Cur).Win).Bits).length c56), (vi (((F_spec_l14Copy x_c).Old).N)), (vs a60 (((F_spec_l14Copy x_c).Old).Key).length c61), (vi (((F_spec_l14Copy x_c).Old).Seq)), (vi ((((F_spec_l14Copy x_c).Old).Win).Top)), (vs a65 ((((F_spec_l14Copy x_c).Old).Win).Bits).length c66), (vb ((F_spec_l14Copy x_c).HasOld)), (vi ((F_spec_l14Copy x_c).Until)), (vs a70 ((F_spec_l14Copy x_c).Next).length c71)] rfl b171 isAgg_38 sizeOf_38) rfl ?_
  refine ⟨m173.keep0, ?_⟩
  have hF180 : F_spec_Want x_c = ((F_spec_l14Copy x_c), false) := by simp only [F_spec_Want, h90, cond_true, cond_false]
  rw [hF180]
  exact ⟨_, _, _, _, _, _, _, _, _, _, _, _, rfl, (own_lo o174 (Nat.le_trans k34.size k40.size)), s48, (own_lo o175 (Nat.le_trans k34.size k40.size)), s53, (own_lo o176 (Nat.le_trans k34.size k40.size)), s58, (own_lo o177 (Nat.le_trans k34.size k40.size)), s63, (own_lo o178 (Nat.le_trans k34.size k40.size)), s68, (own_lo o179 (Nat.le_trans k34.size k40.size)), s73, ⟨⟨(ap75.1.1), ⟨(ap75.1.2.1), ⟨(ap75.1.2.2.1), ⟨(ap75.1.2.2.2.1), ⟨(ap75.1.2.2.2.2.1), trivial⟩⟩⟩⟩⟩, ⟨⟨(ap75.2.1.1), ⟨(ap75.2.1.2.1), ⟨(ap75.2.1.2.2.1), ⟨(ap75.2.1.2.2.2.1), trivial⟩⟩⟩⟩, ⟨⟨(ap75.2.2.1.1), ⟨(ap75.2.2.1.2.1), ⟨(ap75.2.2.1.2.2.1), trivial⟩⟩⟩, ⟨⟨(ap75.2.2.2.1.1), ⟨(ap75.2.2.2.1.2.1), trivial⟩⟩, ⟨⟨(ap75.2.2.2.2.1.1), trivial⟩, ⟨trivial, trivial⟩⟩⟩⟩⟩⟩⟩
 have q91 := spec_ChanOk_t h90
 refine pu (vp g31 0) (wS (congrArg not h90)) ?_
 have b92 := (b87.kp k88)
 refine ld (vi x_c.Role) (wS (congrArg not h90)) isAgg_3 b92 ?_
 refine pu (vb (!(decide (x_c.Role = 0)))) (wS (congrArg not h90)) ?_
 refine pf (vb (!(decide (x_c.Role = 0)))) wN (congrArg not h90) ?_
 refine mv (vb (!(decide (x_c.Role = 0)))) wN ?_
 rcases bf (decide (x_c.Role = 0)) with h93 | h93
 ·have q153 := of_decide_eq_false h93
  refine sk (congrArg not h93) ?_
  refine sk (congrArg not h93) ?_
  refine sk (congrArg not h93) ?_
  refine sk (congrArg not h93) ?_
  refine pk (vb true) wN (congrArg not h93) ?_
  refine mv (vb true) wN ?_
  refine sk (Eq.refl true) ?_
  refine sk (Eq.refl true) ?_
  refine sk (Eq.refl true) ?_
  refine sk (Eq.refl true) ?_
  refine pk (vb true) wN (Eq.refl true) ?_
  refine wl_nil <| wq_then ?_
  refine ct (Eq.refl true) ?_
  refine sr ?_
  have b154 := (b84.kp k88)
  refine lN (L_38 (F_spec_l14Copy x_c) a45 c46 a50 c51 a55 c56 a60 c61 a65 c66 a70 c71) wN isAgg_38 sizeOf_38 b154 ?_
  have b155 := ((((b41.kp k44).kp k80).ch k83 (Nat.ne_of_lt (Nat.lt_of_lt_of_le p39 (Nat.le_trans k44.size p78)))).kp k88)
  refine st (va (L_38 (F_spec_l14Copy x_c) a45 c46 a50 c51 a55 c56 a60 c61 a65 c66 a70 c71)) (L_38 (F_spec_l14Copy x_c) a45 c46 a50 c51 a55 c56 a60 c61 a65 c66 a70 c71) (L_38 (F_spec_l14Copy x_c) a45 c46 a50 c51 a55 c56 a60 c61 a65 c66 a70 c71) wN sizeOf_38 b155 ?_
  intro w7 k156 b157 z158
  have m159 := m89.ext k156 (fun k hk => by subst hk; exact Nat.le_trans k34.size p38)
  refine ag (vb false) wN ?_
  refine wl_nil <| wq_then <| wc_ret <| wq_then_ret ?_
  have o160 := (own_ch (own_kp (own_ch (own_kp o47 k80) k83 (fun g hg hlt hk => by have h1 := (own_lt o47 g hg).2; have h2 := Nat.le_trans (Nat.le_refl w3.heap.size) p78; omega)) k88) k156 (fun g hg hlt hk => by have h1 := (own_lt o47 g hg).1; have h2 := Nat.lt_of_lt_of_le p39 (Nat.le_refl w2.heap.size); omega))
  have o161 := (own_ch (own_kp (own_ch (own_kp o52 k80) k83 (fun g hg hlt hk => by have h1 := (own_lt o52 g hg).2; have h2 := Nat.le_trans (Nat.le_refl w3.heap.size) p78; omega)) k88) k156 (fun g hg hlt hk => by have h1 := (own_lt o52 g hg).1; have h2 := Nat.lt_of_lt_of_le p39 (Nat.le_refl w2.heap.size); omega))
  have o162 := (own_ch (own_kp (own_ch (own_kp o57 k80) k83 (fun g hg hlt hk => by have h1 := (own_lt o57 g hg).2; have h2 := Nat.le_trans (Nat.le_refl w3.heap.size) p78; omega)) k88) k156 (fun g hg hlt hk => by have h1 := (own_lt o57 g hg).1; have h2 := Nat.lt_of_lt_of_le p39 (Nat.le_refl w2.heap.size); omega))
  have o163 := (own_ch (own_kp (own_ch (own_kp o62 k80) k83 (fun g hg hlt hk => by have h1 := (own_lt o62 g hg).2; have h2 := Nat.le_trans (Nat.le_refl w3.heap.size) p78; omega)) k88) k156 (fun g hg hlt hk => by have h1 := (own_lt o62 g hg).1; have h2 := Nat.lt_of_lt_of_le p39 (Nat.le_refl w2.heap.size); omega))
  have o164 := (own_ch (own_kp (own_ch (own_kp o67 k80) k83 (fun g hg hlt hk => by have h1 := (own_lt o67 g hg).2; have h2 := Nat.le_trans (Nat.le_refl w3.heap.size) p78; omega)) k88) k156 (fun g hg hlt hk => by have h1 := (own_lt o67 g hg).1; have h2 := Nat.lt_of_lt_of_le p39 (Nat.le_refl w2.heap.size); omega))
  have o165 := (own_ch (own_kp (own_ch (own_kp o72 k80) k83 (fun g hg hlt hk => by have h1 := (own_lt o72 g hg).2; have h2 := Nat.le_trans (Nat.le_refl w3.heap.size) p78; omega)) k88) k156 (fun g hg hlt hk => by have h1 := (own_lt o72 g hg).1; have h2 := Nat.lt_of_lt_of_le p39 (Nat.le_refl w2.heap.size); omega))
  refine ret_2 (.inl rfl) (va (L_38 (F_spec_l14Copy x_c) a45 c46 a50 c51 a55 c56 a60 c61 a65 c66 a70 c71)) (vb false) rfl (rv_c [(vi ((F_spec_l14Copy x_c).Role)), (vs a45 ((F_spec_l14Copy x_c).Sn).length c46), (vi (((F_spec_l14Copy x_c).Cur).N)), (vs a50 (((F_spec_l14Copy x_c).Cur).Key).length c51), (vi (((F_spec_l14Copy x_c).Cur).Seq)), (vi ((((F_spec_l14Copy x_c).Cur).Win).Top)), (vs a55 ((((F_spec_l14Copy x_c).Cur).Win).Bits).length c56), (vi (((F_spec_l14Copy x_c).Old).N)), (vs a60 (((F_spec_l14Copy x_c).Old).Key).length c61), (vi (((F_spec_l14Copy x_c).Old).Seq)), (vi ((((F_spec_l14Copy x_c).Old).Win).Top)), (vs a65 ((((F_spec_l14Copy x_c).Old).Win).Bits).length c66), (vb ((F_spec_l14Copy x_c).HasOld)), (vi ((F_spec_l14Copy x_c).Until)), (vs a70 ((F_spec_l14Copy x_c).Next).length c71)] rfl b157 isAgg_38 sizeOf_38) rfl ?_
  refine ⟨m159.keep0, ?_⟩
  have hF166 : F_spec_Want x_c = ((F_spec_l14Copy x_c), false) := by simp only [F_spec_Want, h90, h93, cond_true, cond_false]
  rw [hF166]
  exact ⟨_, _, _, _, _, _, _, _, _, _, _, _, rfl, (own_lo o160 (Nat.le_trans k34.size k40.size)), s48, (own_lo o161 (Nat.le_trans k34.size k40.size)), s53, (own_lo o162 (Nat.le_trans k34.size k40.size)), s58, (own_lo o163 (Nat.le_trans k34.size k40.size)), s63, (own_lo o164 (Nat.le_trans k34.size k40.size)), s68, (own_lo o165 (Nat.le_trans k34.size k40.size)), s73, ⟨⟨(ap75.1.1), ⟨(ap75.1.2.1), ⟨(ap75.1.2.2.1), ⟨(ap75.1.2.2.2.1), ⟨(ap75.1.2.2.2.2.1), trivial⟩⟩⟩⟩⟩, ⟨⟨(ap75.2.1.1), ⟨(ap75.2.1.2.1), ⟨(ap75.2.1.2.2.1), ⟨(ap75.2.1.2.2.2.1), trivial⟩⟩⟩⟩, ⟨⟨(ap75.2.2.1.1), ⟨(ap75.2.2.1.2.1), ⟨(ap75.2.2.1.2.2.1), trivial⟩⟩⟩, ⟨⟨(ap75.2.2.2.1.1), ⟨(ap75.2.2.2.1.2.1), trivial⟩⟩, ⟨⟨(ap75.2.2.2.2.1.1), trivial⟩, ⟨trivial, trivial⟩⟩⟩⟩⟩⟩⟩
 have q94 := of_decide_eq_true h93
 refine pu (vp g31 14) (wS (congrArg not h93)) ?_
 refine ld (vs a26 x_c.Next.length c27) (wS (congrArg not h93)) isAgg_22 b92 ?_
 refine ln (wS (congrArg not h93)) slTy_22 (r28.from0 m89) ?_
 refine pu (vb (decide (0 < (x_c.Next.length : Int)))) (wS (congrArg not h93)) ?_
 refine pf (vb (decide (0 < (x_c.Next.length : Int)))) wN (congrArg not h93) ?_
 refine mv (vb (decide (0 < (x_c.Next.length : Int)))) wN ?_
 rcases bt (decide (0 < (x_c.Next.length : Int))) with h95 | h95
 ·have q96 := of_decide_eq_true h95
  refine sk h95 ?_
  refine sk h95 ?_
  refine sk h95 ?_
  refine sk h95 ?_
  refine pk (vb true) wN h95 ?_
  refine wl_nil <| wq_then ?_
  refine ct (Eq.refl true) ?_
  refine sr ?_
  have b97 := (b84.kp k88)
  refine lN (L_38 (F_spec_l14Copy x_c) a45 c46 a50 c51 a55 c56 a60 c61 a65 c66 a70 c71) wN isAgg_38 sizeOf_38 b97 ?_
  have b98 := ((((b41.kp k44).kp k80).ch k83 (Nat.ne_of_lt (Nat.lt_of_lt_of_le p39 (Nat.le_trans k44.size p78)))).kp k88)
  refine st (va (L_38 (F_spec_l14Copy x_c) a45 c46 a50 c51 a55 c56 a60 c61 a65 c66 a70 c71)) (L_38 (F_spec_l14Copy x_c) a45 c46 a50 c51 a55 c56 a60 c61 a65 c66 a70 c71) (L_38 (F_spec_l14Copy x_c) a45 c46 a50 c51 a55 c56 a60 c61 a65 c66 a70 c71) wN sizeOf_38 b98 ?_
  intro w7 k99 b100 z101
  have m102 := m89.ext k99 (fun k hk => by subst hk; exact Nat.le_trans k34.size p38)
  refine ag (vb false) wN ?_
  refine wl_nil <| wq_then <| wc_ret <| wq_then_ret ?_
  have o103 := (own_ch (own_kp (own_ch (own_kp o47 k80) k83 (fun g hg hlt hk => by have h1 := (own_lt o47 g hg).2; have h2 := Nat.le_trans (Nat.le_refl w3.heap.size) p78; omega)) k88) k99 (fun g hg hlt hk => by have h1 := (own_lt o47 g hg).1; have h2 := Nat.lt_of_lt_of_le p39 (Nat.le_refl w2.heap.size); omega))
  have o104 := (own_ch (own_kp (own_ch (own_kp o52 k80) k83 (fun g hg hlt hk => by have h1 := (own_lt o52 g hg).2; have h2 := Nat.le_trans (Nat.le_refl w3.heap.size) p78; omega)) k88) k99 (fun g hg hlt hk => by have h1 := (own_lt o52 g hg).1; have h2 := Nat.lt_of_lt_of_le p39 (Nat.le_refl w2.heap.size); omega))
  have o105 := (own_ch (own_kp (own_ch (own_kp o57 k80) k83 (fun g hg hlt hk => by have h1 := (own_lt o57 g hg).2; have h2 := Nat.le_trans (Nat.le_refl w3.heap.size) p78; omega)) k88) k99 (fun g hg hlt hk => by have h1 := (own_lt o57 g hg).1; have h2 := Nat.lt_of_lt_of_le p39 (Nat.le_refl w2.heap.size); omega))
  have o106 := (own_ch (own_kp (own_ch (own_kp o62 k80) k83 (fun g hg hlt hk => by have h1 := (own_lt o62 g hg).2; have h2 := Nat.le_trans (Nat.le_refl w3.heap.size) p78; omega)) k88) k99 (fun g hg hlt hk => by have h1 := (own_lt o62 g hg).1; have h2 := Nat.lt_of_lt_of_le p39 (Nat.le_refl w2.heap.size); omega))
  have o107 := (own_ch (own_kp (own_ch (own_kp o67 k80) k83 (fun g hg hlt hk => by have h1 := (own_lt o67 g hg).2; have h2 := Nat.le_trans (Nat.le_refl w3.heap.size) p78; omega)) k88) k99 (fun g hg hlt hk => by have h1 := (own_lt o67 g hg).1; have h2 := Nat.lt_of_lt_of_le p39 (Nat.le_refl w2.heap.size); omega))
  have o108 := (own_ch (own_kp (own_ch (own_kp o72 k80) k83 (fun g hg hlt hk => by have h1 := (own_lt o72 g hg).2; have h2 := Nat.le_trans (Nat.le_refl w3.heap.size) p78; omega)) k88) k99 (fun g hg hlt hk => by have h1 := (own_lt o72 g hg).1; have h2 := Nat.lt_of_lt_of_le p39 (Nat.le_refl w2.heap.size); omega))
  refine ret_2 (.inl rfl) (va (L_38 (F_spec_l14Copy x_c) a45 c46 a50 c51 a55 c56 a60 c61 a65 c66 a70 c71)) (vb false) rfl (rv_c [(vi ((F_spec_l14Copy x_c).Role)), (vs a45 ((F_spec_l14Copy x_c).Sn).length c46), (vi (((F_spec_l14Copy x_c).Cur).N)), (vs a50 (((F_spec_l14Copy x_c).Cur).Key).length c51), (vi (((F_spec_l14Copy x_c).Cur).Seq)), (vi ((((F_spec_l14Copy x_c).Cur).Win).Top)), (vs a55 ((((F_spec_l14Copy x_c).Cur).Win).Bits).length c56), (vi (((F_spec_l14Copy x_c).Old).N)), (vs a60 (((F_spec_l14Copy x_c).Old).Key).length c61), (vi (((F_spec_l14Copy x_c).Old).Seq)), (vi ((((F_spec_l14Copy x_c).Old).Win).Top)), (vs a65 ((((F_spec_l14Copy x_c).Old).Win).Bits).length c66), (vb ((F_spec_l14Copy x_c).HasOld)), (vi ((F_spec_l14Copy x_c).Until)), (vs a70 ((F_spec_l14Copy x_c).Next).length c71)] rfl b100 isAgg_38 sizeOf_38) rfl ?_
  refine ⟨m102.keep0, ?_⟩
  have hF109 : F_spec_Want x_c = ((F_spec_l14Copy x_c), false) := by simp only [F_spec_Want, h90, h93, h95, cond_true, cond_false]
  rw [hF109]
  exact ⟨_, _, _, _, _, _, _, _, _, _, _, _, rfl, (own_lo o103 (Nat.le_trans k34.size k40.size)), s48, (own_lo o104 (Nat.le_trans k34.size k40.size)), s53, (own_lo o105 (Nat.le_trans k34.size k40.size)), s58, (own_lo o106 (Nat.le_trans k34.size k40.size)), s63, (own_lo o107 (Nat.le_trans k34.size k40.size)), s68, (own_lo o108 (Nat.le_trans k34.size k40.size)), s73, ⟨⟨(ap75.1.1), ⟨(ap75.1.2.1), ⟨(ap75.1.2.2.1), ⟨(ap75.1.2.2.2.1), ⟨(ap75.1.2.2.2.2.1), trivial⟩⟩⟩⟩⟩, ⟨⟨(ap75.2.1.1), ⟨(ap75.2.1.2.1), ⟨(ap75.2.1.2.2.1), ⟨(ap75.2.1.2.2.2.1), trivial⟩⟩⟩⟩, ⟨⟨(ap75.2.2.1.1), ⟨(ap75.2.2.1.2.1), ⟨(ap75.2.2.1.2.2.1), trivial⟩⟩⟩, ⟨⟨(ap75.2.2.2.1.1), ⟨(ap75.2.2.2.1.2.1), trivial⟩⟩, ⟨⟨(ap75.2.2.2.2.1.1), trivial⟩, ⟨trivial, trivial⟩⟩⟩⟩⟩⟩⟩
 have q110 := of_decide_eq_false h95
 refine pu (vp g31 2) (wS h95) ?_
 refine pu (vp g31 2) (wS h95) ?_
 refine ld (vi x_c.Cur.N) (wS h95) isAgg_3 b92 ?_
 refine pu (vb (decide (x_c.Cur.N = 4294967295))) (wS h95) ?_
 refine pf (vb (decide (x_c.Cur.N = 4294967295))) wN h95 ?_
 refine wl_nil <| wq_then ?_
 rcases bt (decide (x_c.Cur.N = 4294967295)) with h111 | h111
 ·have q112 := of_decide_eq_true h111
  refine ct h111 ?_
  refine sr ?_
  have b113 := (b84.kp k88)
  refine lN (L_38 (F_spec_l14Copy x_c) a45 c46 a50 c51 a55 c56 a60 c61 a65 c66 a70 c71) wN isAgg_38 sizeOf_38 b113 ?_
  have b114 := ((((b41.kp k44).kp k80).ch k83 (Nat.ne_of_lt (Nat.lt_of_lt_of_le p39 (Nat.le_trans k44.size p78)))).kp k88)
  refine st (va (L_38 (F_spec_l14Copy x_c) a45 c46 a50 c51 a55 c56 a60 c61 a65 c66 a70 c71)) (L_38 (F_spec_l14Copy x_c) a45 c46 a50 c51 a55 c56 a60 c61 a65 c66 a70 c71) (L_38 (F_spec_l14Copy x_c) a45 c46 a50 c51 a55 c56 a60 c61 a65 c66 a70 c71) wN sizeOf_38 b114 ?_
  intro w7 k115 b116 z117
  have m118 := m89.ext k115 (fun k hk => by subst hk; exact Nat.le_trans k34.size p38)
  refine ag (vb false) wN ?_
  refine wl_nil <| wq_then <| wc_ret <| wq_then_ret ?_
  have o119 := (own_ch (own_kp (own_ch (own_kp o47 k80) k83 (fun g hg hlt hk => by have h1 := (own_lt o47 g hg).2; have h2 := Nat.le_trans (Nat.le_refl w3.heap.size) p78; omega)) k88) k115 (fun g hg hlt hk => by have h1 := (own_lt o47 g hg).1; have h2 := Nat.lt_of_lt_of_le p39 (Nat.le_refl w2.heap.size); omega))
  have o120 := (own_ch (own_kp (own_ch (own_kp o52 k80) k83 (fun g hg hlt hk => by have h1 := (own_lt o52 g hg).2; have h2 := Nat.le_trans (Nat.le_refl w3.heap.size) p78; omega)) k88) k115 (fun g hg hlt hk => by have h1 := (own_lt o52 g hg).1; have h2 := Nat.lt_of_lt_of_le p39 (Nat.le_refl w2.heap.size); omega))
  have o121 := (own_ch (own_kp (own_ch (own_kp o57 k80) k83 (fun g hg hlt hk => by have h1 := (own_lt o57 g hg).2; have h2 := Nat.le_trans (Nat.le_refl w3.heap.size) p78; omega)) k88) k115 (fun g hg hlt hk => by have h1 := (own_lt o57 g hg).1; have h2 := Nat.lt_of_lt_of_le p39 (Nat.le_refl w2.heap.size); omega))
  have o122 := (own_ch (own_kp (own_ch (own_kp o62 k80) k83 (fun g hg hlt hk => by have h1 := (own_lt o62 g hg).2; have h2 := Nat.le_trans (Nat.le_refl w3.heap.size) p78; omega)) k88) k115 (fun g hg hlt hk => by have h1 := (own_lt o62 g hg).1; have h2 := Nat.lt_of_lt_of_le p39 (Nat.le_refl w2.heap.size); omega))
  have o123 := (own_ch (own_kp (own_ch (own_kp o67 k80) k83 (fun g hg hlt hk => by have h1 := (own_lt o67 g hg).2; have h2 := Nat.le_trans (Nat.le_refl w3.heap.size) p78; omega)) k88) k115 (fun g hg hlt hk => by have h1 := (own_lt o67 g hg).1; have h2 := Nat.lt_of_lt_of_le p39 (Nat.le_refl w2.heap.size); omega))
  have o124 := (own_ch (own_kp (own_ch (own_kp o72 k80) k83 (fun g hg hlt hk => by have h1 := (own_lt o72 g hg).2; have h2 := Nat.le_trans (Nat.le_refl w3.heap.size) p78; omega)) k88) k115 (fun g hg hlt hk => by have h1 := (own_lt o72 g hg).1; have h2 := Nat.lt_of_lt_of_le p39 (Nat.le_refl w2.heap.size); omega))
  refine ret_2 (.inl rfl) (va (L_38 (F_spec_l14Copy x_c) a45 c46 a50 c51 a55 c56 a60 c61 a65 c66 a70 c71)) (vb false) rfl (rv_c [(vi ((F_spec_l14Copy x_c).Role)), (vs a45 ((F_spec_l14Copy x_c).Sn).length c46), (vi (((F_spec_l14Copy x_c).Cur).N)), (vs a50 (((F_spec_l14Copy x_c).Cur).Key).length c51), (vi (((F_spec_l14Copy x_c).Cur).Seq)), (vi ((((F_spec_l14Copy x_c).Cur).Win).Top)), (vs a55 ((((F_spec_l14Copy x_c).Cur).Win).Bits).length c56), (vi (((F_spec_l14Copy x_c).Old).N)), (vs a60 (((F_spec_l14Copy x_c).Old).Key).length c61), (vi (((F_spec_l14Copy x_c).Old).Seq)), (vi ((((F_spec_l14Copy x_c).Old).Win).Top)), (vs a65 ((((F_spec_l14Copy x_c).Old).Win).Bits).length c66), (vb ((F_spec_l14Copy x_c).HasOld)), (vi ((F_spec_l14Copy x_c).Until)), (vs a70 ((F_spec_l14Copy x_c).Next).length c71)] rfl b116 isAgg_38 sizeOf_38) rfl ?_
  refine ⟨m118.keep0, ?_⟩
  have hF125 : F_spec_Want x_c = ((F_spec_l14Copy x_c), false) := by simp only [F_spec_Want, h90, h93, h95, h111, cond_true, cond_false]
  rw [hF125]
  exact ⟨_, _, _, _, _, _, _, _, _, _, _, _, rfl, (own_lo o119 (Nat.le_trans k34.size k40.size)), s48, (own_lo o120 (Nat.le_trans k34.size k40.size)), s53, (own_lo o121 (Nat.le_trans k34.size k40.size)), s58, (own_lo o122 (Nat.le_trans k34.size k40.size)), s63, (own_lo o123 (Nat.le_trans k34.size k40.size)), s68, (own_lo o124 (Nat.le_trans k34.size k40.size)), s73, ⟨⟨(ap75.1.1), ⟨(ap75.1.2.1), ⟨(ap75.1.2.2.1), ⟨(ap75.1.2.2.2.1), ⟨(ap75.1.2.2.2.2.1), trivial⟩⟩⟩⟩⟩, ⟨⟨(ap75.2.1.1), ⟨(ap75.2.1.2.1), ⟨(ap75.2.1.2.2.1), ⟨(ap75.2.1.2.2.2.1), trivial⟩⟩⟩⟩, ⟨⟨(ap75.2.2.1.1), ⟨(ap75.2.2.1.2.1), ⟨(ap75.2.2.1.2.2.1), trivial⟩⟩⟩, ⟨⟨(ap75.2.2.2.1.1), ⟨(ap75.2.2.2.1.2.1), trivial⟩⟩, ⟨⟨(ap75.2.2.2.2.1.1), trivial⟩, ⟨trivial, trivial⟩⟩⟩⟩⟩⟩⟩
 have q126 := of_decide_eq_false h111
 refine cf h111 ?_
 refine wc_skip <| wq_then <| sr ?_
 refine pu (vp g31 2) wN ?_
 refine pu (vp g31 3) wN ?_
 refine ld (vs a6 x_c.Cur.Key.length c7) wN isAgg_22 b92 ?_
 refine cl wN (C_spec_Derive w6 _ x_c.Cur.Key (mR_22 (r8.from0 m89) s9) _ (ByteArray.mk ([114, 101, 107, 101, 121] : List UInt8).toArray) (mR_9) (by first | omega | decide)) ?_
 rintro _ w7 ⟨k127, ⟨a128, c129, rfl, o130, s131, ap133⟩⟩
 have m134 := m89.extk k127
 have q135 := derive_le x_c.Cur.Key (ByteArray.mk ([114, 101, 107, 101, 121] : List UInt8).toArray)
 refine pu (vp g77 14) wN ?_
 have b136 := ((b84.kp k88).kp k127)
 refine st (vs a128 (derive x_c.Cur.Key (ByteArray.mk ([114, 101, 107, 101, 121] : List UInt8).toArray)).length c129) [(vs a128 (derive x_c.Cur.Key (ByteArray.mk ([114, 101, 107, 101, 121] : List UInt8).toArray)).length c129)] [(vi ((F_spec_l14Copy x_c).Role)), (vs a45 ((F_spec_l14Copy x_c).Sn).length c46), (vi (((F_spec_l14Copy x_c).Cur).N)), (vs a50 (((F_spec_l14Copy x_c).Cur).Key).length c51), (vi (((F_spec_l14Copy x_c).Cur).Seq)), (vi ((((F_spec_l14Copy x_c).Cur).Win).Top)), (vs a55 ((((F_spec_l14Copy x_c).Cur).Win).Bits).length c56), (vi (((F_spec_l14Copy x_c).Old).N)), (vs a60 (((F_spec_l14Copy x_c).Old).Key).length c61), (vi (((F_spec_l14Copy x_c).Old).Seq)), (vi ((((F_spec_l14Copy x_c).Old).Win).Top)), (vs a65 ((((F_spec_l14Copy x_c).Old).Win).Bits).length c66), (vb ((F_spec_l14Copy x_c).HasOld)), (vi ((F_spec_l14Copy x_c).Until)), (vs a128 (derive x_c.Cur.Key (ByteArray.mk ([114, 101, 107, 101, 121] : List UInt8).toArray)).length c129)] wN sizeOf_22 b136 ?_
 intro w8 k137 b138 z139
 have m140 := m134.ext k137 (fun k hk => by subst hk; exact Nat.le_trans (t3 k34.size k40.size k44.size) p78)
 refine nx ?_
 refine lN [(vi ((F_spec_l14Copy x_c).Role)), (vs a45 ((F_spec_l14Copy x_c).Sn).length c46), (vi (((F_spec_l14Copy x_c).Cur).N)), (vs a50 (((F_spec_l14Copy x_c).Cur).Key).length c51), (vi (((F_spec_l14Copy x_c).Cur).Seq)), (vi ((((F_spec_l14Copy x_c).Cur).Win).Top)), (vs a55 ((((F_spec_l14Copy x_c).Cur).Win).Bits).length c56), (vi (((F_spec_l14Copy x_c).Old).N)), (vs a60 (((F_spec_l14Copy x_c).Old).Key).length c61), (vi (((F_spec_l14Copy x_c).Old).Seq)), (vi ((((F_spec_l14Copy x_c).Old).Win).Top)), (vs a65 ((((F_spec_l14Copy x_c).Old).Win).Bits).length c66), (vb ((F_spec_l14Copy x_c).HasOld)), (vi ((F_spec_l14Copy x_c).Until)), (vs a128 (derive x_c.Cur.Key (ByteArray.mk ([114, 101, 107, 101, 121] : List UInt8).toArray)).length c129)] wN isAgg_38 sizeOf_38 b138 ?_
 have b141 := ((((((b41.kp k44).kp k80).ch k83 (Nat.ne_of_lt (Nat.lt_of_lt_of_le p39 (Nat.le_trans k44.size p78)))).kp k88).kp k127).ch k137 (Nat.ne_of_lt (Nat.lt_of_lt_of_le p39 (Nat.le_trans k44.size p78))))
 refine st (va [(vi ((F_spec_l14Copy x_c).Role)), (vs a45 ((F_spec_l14Copy x_c).Sn).length c46), (vi (((F_spec_l14Copy x_c).Cur).N)), (vs a50 (((F_spec_l14Copy x_c).Cur).Key).length c51), (vi (((F_spec_l14Copy x_c).Cur).Seq)), (vi ((((F_spec_l14Copy x_c).Cur).Win).Top)), (vs a55 ((((F_spec_l14Copy x_c).Cur).Win).Bits).length c56), (vi (((F_spec_l14Copy x_c).Old).N)), (vs a60 (((F_spec_l14Copy x_c).Old).Key).length c61), (vi (((F_spec_l14Copy x_c).Old).Seq)), (vi ((((F_spec_l14Copy x_c).Old).Win).Top)), (vs a65 ((((F_spec_l14Copy x_c).Old).Win).Bits).length c66), (vb ((F_spec_l14Copy x_c).HasOld)), (vi ((F_spec_l14Copy x_c).Until)), (vs a128 (derive x_c.Cur.Key (ByteArray.mk ([114, 101, 107, 101, 121] : List UInt8).toArray)).length c129)]) [(vi ((F_spec_l14Copy x_c).Role)), (vs a45 ((F_spec_l14Copy x_c).Sn).length c46), (vi (((F_spec_l14Copy x_c).Cur).N)), (vs a50 (((F_spec_l14Copy x_c).Cur).Key).length c51), (vi (((F_spec_l14Copy x_c).Cur).Seq)), (vi ((((F_spec_l14Copy x_c).Cur).Win).Top)), (vs a55 ((((F_spec_l14Copy x_c).Cur).Win).Bits).length c56), (vi (((F_spec_l14Copy x_c).Old).N)), (vs a60 (((F_spec_l14Copy x_c).Old).Key).length c61), (vi (((F_spec_l14Copy x_c).Old).Seq)), (vi ((((F_spec_l14Copy x_c).Old).Win).Top)), (vs a65 ((((F_spec_l14Copy x_c).Old).Win).Bits).length c66), (vb ((F_spec_l14Copy x_c).HasOld)), (vi ((F_spec_l14Copy x_c).Until)), (vs a128 (derive x_c.Cur.Key (ByteArray.mk ([114, 101, 107, 101, 121] : List UInt8).toArray)).length c129)] [(vi ((F_spec_l14Copy x_c).Role)), (vs a45 ((F_spec_l14Copy x_c).Sn).length c46), (vi (((F_spec_l14Copy x_c).Cur).N)), (vs a50 (((F_spec_l14Copy x_c).Cur).Key).length c51), (vi (((F_spec_l14Copy x_c).Cur).Seq)), (vi ((((F_spec_l14Copy x_c).Cur).Win).Top)), (vs a55 ((((F_spec_l14Copy x_c).Cur).Win).Bits).length c56), (vi (((F_spec_l14Copy x_c).Old).N)), (vs a60 (((F_spec_l14Copy x_c).Old).Key).length c61), (vi (((F_spec_l14Copy x_c).Old).Seq)), (vi ((((F_spec_l14Copy x_c).Old).Win).Top)), (vs a65 ((((F_spec_l14Copy x_c).Old).Win).Bits).length c66), (vb ((F_spec_l14Copy x_c).HasOld)), (vi ((F_spec_l14Copy x_c).Until)), (vs a128 (derive x_c.Cur.Key (ByteArray.mk ([114, 101, 107, 101, 121] : List UInt8).toArray)).length c129)] wN sizeOf_38 b141 ?_
 intro w9 k142 b143 z144
 have m145 := m140.ext k142 (fun k hk => by subst hk; exact Nat.le_trans k34.size p38)
 refine ag (vb true) wN ?_
 refine wl_nil <| wq_then <| wc_ret ?_
 have o146 := (own_ch (own_ch (own_kp (own_kp (own_ch (own_kp o47 k80) k83 (fun g hg hlt hk => by have h1 := (own_lt o47 g hg).2; have h2 := Nat.le_trans (Nat.le_refl w3.heap.size) p78; omega)) k88) k127) k137 (fun g hg hlt hk => by have h1 := (own_lt o47 g hg).2; have h2 := Nat.le_trans (Nat.le_refl w3.heap.size) p78; omega)) k142 (fun g hg hlt hk => by have h1 := (own_lt o47 g hg).1; have h2 := Nat.lt_of_lt_of_le p39 (Nat.le_refl w2.heap.size); omega))
 have o147 := (own_ch (own_ch (own_kp (own_kp (own_ch (own_kp o52 k80) k83 (fun g hg hlt hk => by have h1 := (own_lt o52 g hg).2; have h2 := Nat.le_trans (Nat.le_refl w3.heap.size) p78; omega)) k88) k127) k137 (fun g hg hlt hk => by have h1 := (own_lt o52 g hg).2; have h2 := Nat.le_trans (Nat.le_refl w3.heap.size) p78; omega)) k142 (fun g hg hlt hk => by have h1 := (own_lt o52 g hg).1; have h2 := Nat.lt_of_lt_of_le p39 (Nat.le_refl w2.heap.size); omega))
 have o148 := (own_ch (own_ch (own_kp (own_kp (own_ch (own_kp o57 k80) k83 (fun g hg hlt hk => by have h1 := (own_lt o57 g hg).2; have h2 := Nat.le_trans (Nat.le_refl w3.heap.size) p78; omega)) k88) k127) k137 (fun g hg hlt hk => by have h1 := (own_lt o57 g hg).2; have h2 := Nat.le_trans (Nat.le_refl w3.heap.size) p78; omega)) k142 (fun g hg hlt hk => by have h1 := (own_lt o57 g hg).1; have h2 := Nat.lt_of_lt_of_le p39 (Nat.le_refl w2.heap.size); omega))
 have o149 := (own_ch (own_ch (own_kp (own_kp (own_ch (own_kp o62 k80) k83 (fun g hg hlt hk => by have h1 := (own_lt o62 g hg).2; have h2 := Nat.le_trans (Nat.le_refl w3.heap.size) p78; omega)) k88) k127) k137 (fun g hg hlt hk => by have h1 := (own_lt o62 g hg).2; have h2 := Nat.le_trans (Nat.le_refl w3.heap.size) p78; omega)) k142 (fun g hg hlt hk => by have h1 := (own_lt o62 g hg).1; have h2 := Nat.lt_of_lt_of_le p39 (Nat.le_refl w2.heap.size); omega))
 have o150 := (own_ch (own_ch (own_kp (own_kp (own_ch (own_kp o67 k80) k83 (fun g hg hlt hk => by have h1 := (own_lt o67 g hg).2; have h2 := Nat.le_trans (Nat.le_refl w3.heap.size) p78; omega)) k88) k127) k137 (fun g hg hlt hk => by have h1 := (own_lt o67 g hg).2; have h2 := Nat.le_trans (Nat.le_refl w3.heap.size) p78; omega)) k142 (fun g hg hlt hk => by have h1 := (own_lt o67 g hg).1; have h2 := Nat.lt_of_lt_of_le p39 (Nat.le_refl w2.heap.size); omega))
 have o151 := (own_ch (own_ch o130 k137 (fun g hg hlt hk => by have h1 := (own_lt o130 g hg).1; have h2 := Nat.lt_of_lt_of_le p79 (Nat.le_trans k83.size k88.size); omega)) k142 (fun g hg hlt hk => by have h1 := (own_lt o130 g hg).1; have h2 := Nat.lt_of_lt_of_le p39 (t4 k44.size k80.size k83.size k88.size); omega))
 refine ret_2 (.inl rfl) (va [(vi ((F_spec_l14Copy x_c).Role)), (vs a45 ((F_spec_l14Copy x_c).Sn).length c46), (vi (((F_spec_l14Copy x_c).Cur).N)), (vs a50 (((F_spec_l14Copy x_c).Cur).Key).length c51), (vi (((F_spec_l14Copy x_c).Cur).Seq)), (vi ((((F_spec_l14Copy x_c).Cur).Win).Top)), (vs a55 ((((F_spec_l14Copy x_c).Cur).Win).Bits).length c56), (vi (((F_spec_l14Copy x_c).Old).N)), (vs a60 (((F_spec_l14Copy x_c).Old).Key).length c61), (vi (((F_spec_l14Copy x_c).Old).Seq)), (vi ((((F_spec_l14Copy x_c).Old).Win).Top)), (vs a65 ((((F_spec_l14Copy x_c).Old).Win).Bits).length c66), (vb ((F_spec_l14Copy x_c).HasOld)), (vi ((F_spec_l14Copy x_c).Until)), (vs a128 (derive x_c.Cur.Key (ByteArray.mk ([114, 101, 107, 101, 121] : List UInt8).toArray)).length c129)]) (vb true) rfl (rv_c [(vi ((F_spec_l14Copy x_c).Role)), (vs a45 ((F_spec_l14Copy x_c).Sn).length c46), (vi (((F_spec_l14Copy x_c).Cur).N)), (vs a50 (((F_spec_l14Copy x_c).Cur).Key).length c51), (vi (((F_spec_l14Copy x_c).Cur).Seq)), (vi ((((F_spec_l14Copy x_c).Cur).Win).Top)), (vs a55 ((((F_spec_l14Copy x_c).Cur).Win).Bits).length c56), (vi (((F_spec_l14Copy x_c).Old).N)), (vs a60 (((F_spec_l14Copy x_c).Old).Key).length c61), (vi (((F_spec_l14Copy x_c).Old).Seq)), (vi ((((F_spec_l14Copy x_c).Old).Win).Top)), (vs a65 ((((F_spec_l14Copy x_c).Old).Win).Bits).length c66), (vb ((F_spec_l14Copy x_c).HasOld)), (vi ((F_spec_l14Copy x_c).Until)), (vs a128 (derive x_c.Cur.Key (ByteArray.mk ([114, 101, 107, 101, 121] : List UInt8).toArray)).length c129)] rfl b143 isAgg_38 sizeOf_38) rfl ?_
 refine ⟨m145.keep0, ?_⟩
 have hF152 : F_spec_Want x_c = ({ Role := (F_spec_l14Copy x_c).Role, Sn := (F_spec_l14Copy x_c).Sn, Cur := ((F_spec_l14Copy x_c).Cur), Old := ((F_spec_l14Copy x_c).Old), HasOld := (F_spec_l14Copy x_c).HasOld, Until := (F_spec_l14Copy x_c).Until, Next := (derive x_c.Cur.Key (ByteArray.mk ([114, 101, 107, 101, 121] : List UInt8).toArray)) : PChan }, true) := by simp only [F_spec_Want, h90, h93, h95, h111, cond_true, cond_false]
 rw [hF152]
 exact ⟨_, _, _, _, _, _, _, _, _, _, _, _, rfl, (own_lo o146 (Nat.le_trans k34.size k40.size)), s48, (own_lo o147 (Nat.le_trans k34.size k40.size)), s53, (own_lo o148 (Nat.le_trans k34.size k40.size)), s58, (own_lo o149 (Nat.le_trans k34.size k40.size)), s63, (own_lo o150 (Nat.le_trans k34.size k40.size)), s68, (own_lo o151 (t6 k34.size k40.size k44.size k80.size k83.size k88.size)), s131, ⟨⟨(ap75.1.1), ⟨(ap75.1.2.1), ⟨(ap75.1.2.2.1), ⟨(ap75.1.2.2.2.1), ⟨(Ap.lt o47 o130 (t3 k80.size k83.size k88.size)), trivial⟩⟩⟩⟩⟩, ⟨⟨(ap75.2.1.1), ⟨(ap75.2.1.2.1), ⟨(ap75.2.1.2.2.1), ⟨(Ap.lt o52 o130 (t3 k80.size k83.size k88.size)), trivial⟩⟩⟩⟩, ⟨⟨(ap75.2.2.1.1), ⟨(ap75.2.2.1.2.1), ⟨(Ap.lt o57 o130 (t3 k80.size k83.size k88.size)), trivial⟩⟩⟩, ⟨⟨(ap75.2.2.2.1.1), ⟨(Ap.lt o62 o130 (t3 k80.size k83.size k88.size)), trivial⟩⟩, ⟨⟨(Ap.lt o67 o130 (t3 k80.size k83.size k88.size)), trivial⟩, ⟨trivial, trivial⟩⟩⟩⟩⟩⟩⟩

def F_impl_Want (x_c : PChan) : (PChan) × (Bool) := bif (F_impl_ChanOk x_c) then (bif (decide (x_c.Role = 0)) then (bif (decide (0 < (x_c.Next.length : Int))) then (((F_impl_copyChan x_c), false)) else (bif (decide (x_c.Cur.N = 4294967295)) then (((F_impl_copyChan x_c), false)) else (({ Role := (F_impl_copyChan x_c).Role, Sn := (F_impl_copyChan x_c).Sn, Cur := ((F_impl_copyChan x_c).Cur), Old := ((F_impl_copyChan x_c).Old), HasOld := (F_impl_copyChan x_c).HasOld, Until := (F_impl_copyChan x_c).Until, Next := (derive x_c.Cur.Key (ByteArray.mk ([114, 101, 107, 101, 121] : List UInt8).toArray)) : PChan }, true)))) else (((F_impl_copyChan x_c), false))) else (((F_impl_copyChan x_c), false))
theorem C_impl_Want (w0 : World) (v_x_c : Value) (x_c : PChan) (r_x_c : R_38 w0 v_x_c x_c)  : Fn Try.prog 27 #[v_x_c] w0 (fun v w' => Keep w0 w' ∧ O_38_4 w' w0.heap.size v (F_impl_Want x_c)) := by
 obtain ⟨a1, c2, a6, c7, a11, c12, a16, c17, a21, c22, a26, c27, rfl, r3, s4, r8, s9, r13, s14, r18, s19, r23, s24, r28, s29⟩ := r_x_c
 refine fn_of (n := 34) (l := [(va (L_38 x_c a1 c2 a6 c7 a11 c12 a16 c17 a21 c22 a26 c27)), U, U, U, U, U, U, U, U, U, U, U, U, U, U, U, U, U, U, U, U, U, U, U, U, U, U, U, U, U, U, U, U, U]) Try.func27 rfl rfl (by kernel_rfl) rfl ?_
 refine sr ?_
 refine bx (L_38 x_c a1 c2 a6 c7 a11 c12 a16 c17 a21 c22 a26 c27) wN ?_
 intro g31 w1 p32 p33 k34 b35
 have m36 := (Ch.base w0).extk k34
 refine al [(vi 0), (vs none 0 0), (vi 0), (vs none 0 0), (vi 0), (vi 0), (vs none 0 0), (vi 0), (vs none 0 0), (vi 0), (vi 0), (vs none 0 0), (vb false), (vi 0), (vs none 0 0)] wN zero_38 ?_
 intro g37 w2 p38 p39 k40 b41
 have m42 := m36.extk k40
 refine ag (vb false) wN ?_
 refine nx ?_
 have b43 := (b35.kp k40)
 refine lN (L_38 x_c a1 c2 a6 c7 a11 c12 a16 c17 a21 c22 a26 c27) wN isAgg_38 sizeOf_38 b43 ?_
 refine cl wN (C_impl_copyChan w2 _ x_c (mR_38 (r3.from0 m42) s4 (r8.from0 m42) s9 (r13.from0 m42) s14 (r18.from0 m42) s19 (r23.from0 m42) s24 (r28.from0 m42) s29)) ?_
 rintro _ w3 ⟨k44, ⟨a45, c46, a50, c51, a55, c56, a60, c61, a65, c66, a70, c71, rfl, o47, s48, o52, s53, o57, s58, o62, s63, o67, s68, o72, s73, ap75⟩⟩
 have m76 := m42.extk k44
 refine al [(vi 0), (vs none 0 0), (vi 0), (vs none 0 0), (vi 0), (vi 0), (vs none 0 0), (vi 0), (vs none 0 0), (vi 0), (vi 0), (vs none 0 0), (vb false), (vi 0), (vs none 0 0)] wN zero_38 ?_
 intro g77 w4 p78 p79 k80 b81
 have m82 := m76.extk k80
 refine st (va (L_38 (F_impl_copyChan x_c) a45 c46 a50 c51 a55 c56 a60 c61 a65 c66 a70 c71)) (L_38 (F_impl_copyChan x_c) a45 c46 a50 c51 a55 c56 a60 c61 a65 c66 a70 c71) (L_38 (F_impl_copyChan x_c) a45 c46 a50 c51 a55 c56 a60 c61 a65 c66 a70 c71) wN sizeOf_38 b81 ?_
 intro w5 k83 b84 z85
 have m86 := m82.ext k83 (fun k hk => by subst hk; exact Nat.le_trans (t3 k34.size k40.size k44.size) p78)
 refine wl_nil <| wq_then <| wc_seq <| sr ?_
 have b87 := (((b43.kp k44).kp k80).ch k83 (Nat.ne_of_lt (Nat.lt_of_lt_of_le p33 (Nat.le_trans (Nat.le_trans k40.size k44.size) p78))))
 refine lN (L_38 x_c a1 c2 a6 c7 a11 c12 a16 c17 a21 c22 a26 c27) wN isAgg_38 sizeOf_38 b87 ?_
 refine cl wN (C_impl_ChanOk w5 _ x_c (mR_38 (r3.from0 m86) s4 (r8.from0 m86) s9 (r13.from0 m86) s14 (r18.from0 m86) s19 (r23.from0 m86) s24 (r28.from0 m86) s29)) ?_
 rintro _ w6 ⟨k88, rfl⟩
 have m89 := m86.extk k88
 refine pu (vb (!(F_impl_ChanOk x_c))) wN ?_
 refine mv (vb (!(F_impl_ChanOk x_c))) wN ?_
 rcases bf (F_impl_ChanOk x_c) with h90 | h90
 ·refine sk (congrArg not h90) ?_
  refine sk (congrArg not h90) ?_
  refine sk (congrArg not h90) ?_
  refine pk (vb true) wN (congrArg not h90) ?_
  refine mv (vb true) wN ?_
  refine sk (Eq.refl true) ?_
  refine sk (Eq.refl true) ?_
  refine sk (Eq.refl true) ?_
  refine sk (Eq.refl true) ?_
  refine pk (vb true) wN (Eq.refl true) ?_
  refine mv (vb true) wN ?_
  refine sk (Eq.refl true) ?_
  refine sk (Eq.refl true) ?_
  refine sk (Eq.refl true) ?_
  refine sk (Eq.refl true) ?_
  refine pk (vb true) wN (Eq.refl true) ?_
  refine wl_nil <| wq_then ?_
  refine ct (Eq.refl true) ?_
  refine sr ?_
  have b168 := (b84.kp k88)
  refine lN (L_38 (F_impl_copyChan x_c) a45 c46 a50 c51 a55 c56 a60 c61 a65 c66 a70 c71) wN isAgg_38 sizeOf_38 b168 ?_
  have b169 := ((((b41.kp k44).kp k80).ch k83 (Nat.ne_of_lt (Nat.lt_of_lt_of_le p39 (Nat.le_trans k44.size p78)))).kp k88)
  refine st (va (L_38 (F_impl_copyChan x_c) a45 c46 a50 c51 a55 c56 a60 c61 a65 c66 a70 c71)) (L_38 (F_impl_copyChan x_c) a45 c46 a50 c51 a55 c56 a60 c61 a65 c66 a70 c71) (L_38 (F_impl_copyChan x_c) a45 c46 a50 c51 a55 c56 a60 c61 a65 c66 a70 c71) wN sizeOf_38 b169 ?_
  intro w7 k170 b171 z172
  have m173 := m89.ext k170 (fun k hk => by subst hk; exact Nat.le_trans k34.size p38)
  refine ag (vb false) wN ?_
  refine wl_nil <| wq_then <| wc_ret <| wq_then_ret ?_
  have o174 := (own_ch (own_kp (own_ch (own_kp o47 k80) k83 (fun g hg hlt hk => by have h1 := (own_lt o47 g hg).2; have h2 := Nat.le_trans (Nat.le_refl w3.heap.size) p78; omega)) k88) k170 (fun g hg hlt hk => by have h1 := (own_lt o47 g hg).1; have h2 := Nat.lt_of_lt_of_le p39 (Nat.le_refl w2.heap.size); omega))
  have o175 := (own_ch (own_kp (own_ch (own_kp o52 k80) k83 (fun g hg hlt hk => by have h1 := (own_lt o52 g hg).2; have h2 := Nat.le_trans (Nat.le_refl w3.heap.size) p78; omega)) k88) k170 (fun g hg hlt hk => by have h1 := (own_lt o52 g hg).1; have h2 := Nat.lt_of_lt_of_le p39 (Nat.le_refl w2.heap.size); omega))
  have o176 := (own_ch (own_kp (own_ch (own_kp o57 k80) k83 (fun g hg hlt hk => by have h1 := (own_lt o57 g hg).2; have h2 := Nat.le_trans (Nat.le_refl w3.heap.size) p78; omega)) k88) k170 (fun g hg hlt hk => by have h1 := (own_lt o57 g hg).1; have h2 := Nat.lt_of_lt_of_le p39 (Nat.le_refl w2.heap.size); omega))
  have o177 := (own_ch (own_kp (own_ch (own_kp o62 k80) k83 (fun g hg hlt hk => by have h1 := (own_lt o62 g hg).2; have h2 := Nat.le_trans (Nat.le_refl w3.heap.size) p78; omega)) k88) k170 (fun g hg hlt hk => by have h1 := (own_lt o62 g hg).1; have h2 := Nat.lt_of_lt_of_le p39 (Nat.le_refl w2.heap.size); omega))
  have o178 := (own_ch (own_kp (own_ch (own_kp o67 k80) k83 (fun g hg hlt hk => by have h1 := (own_lt o67 g hg).2; have h2 := Nat.le_trans (Nat.le_refl w3.heap.size) p78; omega)) k88) k170 (fun g hg hlt hk => by have h1 := (own_lt o67 g hg).1; have h2 := Nat.lt_of_lt_of_le p39 (Nat.le_refl w2.heap.size); omega))
  have o179 := (own_ch (own_kp (own_ch (own_kp o72 k80) k83 (fun g hg hlt hk => by have h1 := (own_lt o72 g hg).2; have h2 := Nat.le_trans (Nat.le_refl w3.heap.size) p78; omega)) k88) k170 (fun g hg hlt hk => by have h1 := (own_lt o72 g hg).1; have h2 := Nat.lt_of_lt_of_le p39 (Nat.le_refl w2.heap.size); omega))
  refine ret_2 (.inl rfl) (va (L_38 (F_impl_copyChan x_c) a45 c46 a50 c51 a55 c56 a60 c61 a65 c66 a70 c71)) (vb false) rfl (rv_c [(vi ((F_impl_copyChan x_c).Role)), (vs a45 ((F_impl_copyChan x_c).Sn).length c46), (vi (((F_impl_copyChan x_c).Cur).N)), (vs a50 (((F_impl_copyChan x_c).Cur).Key).length c51), (vi (((F_impl_copyChan x_c).Cur).Seq)), (vi ((((F_impl_copyChan x_c).Cur).Win).Top)), (vs a55 ((((F_impl_copyChan x_c).Cur).Win).Bits).length c56), (vi (((F_impl_copyChan x_c).Old).N)), (vs a60 (((F_impl_copyChan x_c).Old).Key).length c61), (vi (((F_impl_copyChan x_c).Old).Seq)), (vi ((((F_impl_copyChan x_c).Old).Win).Top)), (vs a65 ((((F_impl_copyChan x_c).Old).Win).Bits).length c66), (vb ((F_impl_copyChan x_c).HasOld)), (vi ((F_impl_copyChan x_c).Until)), (vs a70 ((F_impl_copyChan x_c).Next).length c71)] rfl b171 isAgg_38 sizeOf_38) rfl ?_
  refine ⟨m173.keep0, ?_⟩
  have hF180 : F_impl_Want x_c = ((F_impl_copyChan x_c), false) := by simp only [F_impl_Want, h90, cond_true, cond_false]
  rw [hF180]
  exact ⟨_, _, _, _, _, _, _, _, _, _, _, _, rfl, (own_lo o174 (Nat.le_trans k34.size k40.size)), s48, (own_lo o175 (Nat.le_trans k34.size k40.size)), s53, (own_lo o176 (Nat.le_trans k34.size k40.size)), s58, (own_lo o177 (Nat.le_trans k34.size k40.size)), s63, (own_lo o178 (Nat.le_trans k34.size k40.size)), s68, (own_lo o179 (Nat.le_trans k34.size k40.size)), s73, ⟨⟨(ap75.1.1), ⟨(ap75.1.2.1), ⟨(ap75.1.2.2.1), ⟨(ap75.1.2.2.2.1), ⟨(ap75.1.2.2.2.2.1), trivial⟩⟩⟩⟩⟩, ⟨⟨(ap75.2.1.1), ⟨(ap75.2.1.2.1), ⟨(ap75.2.1.2.2.1), ⟨(ap75.2.1.2.2.2.1), trivial⟩⟩⟩⟩, ⟨⟨(ap75.2.2.1.1), ⟨(ap75.2.2.1.2.1), ⟨(ap75.2.2.1.2.2.1), trivial⟩⟩⟩, ⟨⟨(ap75.2.2.2.1.1), ⟨(ap75.2.2.2.1.2.1), trivial⟩⟩, ⟨⟨(ap75.2.2.2.2.1.1), trivial⟩, ⟨trivial, trivial⟩⟩⟩⟩⟩⟩⟩
 have q91 := impl_ChanOk_t h90
 refine pu (vp g31 0) (wS (congrArg not h90)) ?_
 have b92 := (b87.kp k88)
 refine ld (vi x_c.Role) (wS (congrArg not h90)) isAgg_3 b92 ?_
 refine pu (vb (!(decide (x_c.Role = 0)))) (wS (congrArg not h90)) ?_
 refine pf (vb (!(decide (x_c.Role = 0)))) wN (congrArg not h90) ?_
 refine mv (vb (!(decide (x_c.Role = 0)))) wN ?_
 rcases bf (decide (x_c.Role = 0)) with h93 | h93
 ·have q153 := of_decide_eq_false h93
  refine sk (congrArg not h93) ?_
  refine sk (congrArg not h93) ?_
  refine sk (congrArg not h93) ?_
  refine sk (congrArg not h93) ?_
  refine pk (vb true) wN (congrArg not h93) ?_
  refine mv (vb true) wN ?_
  refine sk (Eq.refl true) ?_
  refine sk (Eq.refl true) ?_
  refine sk (Eq.refl true) ?_
  refine sk (Eq.refl true) ?_
  refine pk (vb true) wN (Eq.refl true) ?_
  refine wl_nil <| wq_then ?_
  refine ct (Eq.refl true) ?_
  refine sr ?_
  have b154 := (b84.kp k88)
  refine lN (L_38 (F_impl_copyChan x_c) a45 c46 a50 c51 a55 c56 a60 c61 a65 c66 a70 c71) wN isAgg_38 sizeOf_38 b154 ?_
  have b155 := ((((b41.kp k44).kp k80).ch k83 (Nat.ne_of_lt (Nat.lt_of_lt_of_le p39 (Nat.le_trans k44.size p78)))).kp k88)
  refine st (va (L_38 (F_impl_copyChan x_c) a45 c46 a50 c51 a55 c56 a60 c61 a65 c66 a70 c71)) (L_38 (F_impl_copyChan x_c) a45 c46 a50 c51 a55 c56 a60 c61 a65 c66 a70 c71) (L_38 (F_impl_copyChan x_c) a45 c46 a50 c51 a55 c56 a60 c61 a65 c66 a70 c71) wN sizeOf_38 b155 ?_
  intro w7 k156 b157 z158
  have m159 := m89.ext k156 (fun k hk => by subst hk; exact Nat.le_trans k34.size p38)
  refine ag (vb false) wN ?_
  refine wl_nil <| wq_then <| wc_ret <| wq_then_ret ?_
  have o160 := (own_ch (own_kp (own_ch (own_kp o47 k80) k83 (fun g hg hlt hk => by have h1 := (own_lt o47 g hg).2; have h2 := Nat.le_trans (Nat.le_refl w3.heap.size) p78; omega)) k88) k156 (fun g hg hlt hk => by have h1 := (own_lt o47 g hg).1; have h2 := Nat.lt_of_lt_of_le p39 (Nat.le_refl w2.heap.size); omega))
  have o161 := (own_ch (own_kp (own_ch (own_kp o52 k80) k83 (fun g hg hlt hk => by have h1 := (own_lt o52 g hg).2; have h2 := Nat.le_trans (Nat.le_refl w3.heap.size) p78; omega)) k88) k156 (fun g hg hlt hk => by have h1 := (own_lt o52 g hg).1; have h2 := Nat.lt_of_lt_of_le p39 (Nat.le_refl w2.heap.size); omega))
  have o162 := (own_ch (own_kp (own_ch (own_kp o57 k80) k83 (fun g hg hlt hk => by have h1 := (own_lt o57 g hg).2; have h2 := Nat.le_trans (Nat.le_refl w3.heap.size) p78; omega)) k88) k156 (fun g hg hlt hk => by have h1 := (own_lt o57 g hg).1; have h2 := Nat.lt_of_lt_of_le p39 (Nat.le_refl w2.heap.size); omega))
  have o163 := (own_ch (own_kp (own_ch (own_kp o62 k80) k83 (fun g hg hlt hk => by have h1 := (own_lt o62 g hg).2; have h2 := Nat.le_trans (Nat.le_refl w3.heap.size) p78; omega)) k88) k156 (fun g hg hlt hk => by have h1 := (own_lt o62 g hg).1; have h2 := Nat.lt_of_lt_of_le p39 (Nat.le_refl w2.heap.size); omega))
  have o164 := (own_ch (own_kp (own_ch (own_kp o67 k80) k83 (fun g hg hlt hk => by have h1 := (own_lt o67 g hg).2; have h2 := Nat.le_trans (Nat.le_refl w3.heap.size) p78; omega)) k88) k156 (fun g hg hlt hk => by have h1 := (own_lt o67 g hg).1; have h2 := Nat.lt_of_lt_of_le p39 (Nat.le_refl w2.heap.size); omega))
  have o165 := (own_ch (own_kp (own_ch (own_kp o72 k80) k83 (fun g hg hlt hk => by have h1 := (own_lt o72 g hg).2; have h2 := Nat.le_trans (Nat.le_refl w3.heap.size) p78; omega)) k88) k156 (fun g hg hlt hk => by have h1 := (own_lt o72 g hg).1; have h2 := Nat.lt_of_lt_of_le p39 (Nat.le_refl w2.heap.size); omega))
  refine ret_2 (.inl rfl) (va (L_38 (F_impl_copyChan x_c) a45 c46 a50 c51 a55 c56 a60 c61 a65 c66 a70 c71)) (vb false) rfl (rv_c [(vi ((F_impl_copyChan x_c).Role)), (vs a45 ((F_impl_copyChan x_c).Sn).length c46), (vi (((F_impl_copyChan x_c).Cur).N)), (vs a50 (((F_impl_copyChan x_c).Cur).Key).length c51), (vi (((F_impl_copyChan x_c).Cur).Seq)), (vi ((((F_impl_copyChan x_c).Cur).Win).Top)), (vs a55 ((((F_impl_copyChan x_c).Cur).Win).Bits).length c56), (vi (((F_impl_copyChan x_c).Old).N)), (vs a60 (((F_impl_copyChan x_c).Old).Key).length c61), (vi (((F_impl_copyChan x_c).Old).Seq)), (vi ((((F_impl_copyChan x_c).Old).Win).Top)), (vs a65 ((((F_impl_copyChan x_c).Old).Win).Bits).length c66), (vb ((F_impl_copyChan x_c).HasOld)), (vi ((F_impl_copyChan x_c).Until)), (vs a70 ((F_impl_copyChan x_c).Next).length c71)] rfl b157 isAgg_38 sizeOf_38) rfl ?_
  refine ⟨m159.keep0, ?_⟩
  have hF166 : F_impl_Want x_c = ((F_impl_copyChan x_c), false) := by simp only [F_impl_Want, h90, h93, cond_true, cond_false]
  rw [hF166]
  exact ⟨_, _, _, _, _, _, _, _, _, _, _, _, rfl, (own_lo o160 (Nat.le_trans k34.size k40.size)), s48, (own_lo o161 (Nat.le_trans k34.size k40.size)), s53, (own_lo o162 (Nat.le_trans k34.size k40.size)), s58, (own_lo o163 (Nat.le_trans k34.size k40.size)), s63, (own_lo o164 (Nat.le_trans k34.size k40.size)), s68, (own_lo o165 (Nat.le_trans k34.size k40.size)), s73, ⟨⟨(ap75.1.1), ⟨(ap75.1.2.1), ⟨(ap75.1.2.2.1), ⟨(ap75.1.2.2.2.1), ⟨(ap75.1.2.2.2.2.1), trivial⟩⟩⟩⟩⟩, ⟨⟨(ap75.2.1.1), ⟨(ap75.2.1.2.1), ⟨(ap75.2.1.2.2.1), ⟨(ap75.2.1.2.2.2.1), trivial⟩⟩⟩⟩, ⟨⟨(ap75.2.2.1.1), ⟨(ap75.2.2.1.2.1), ⟨(ap75.2.2.1.2.2.1), trivial⟩⟩⟩, ⟨⟨(ap75.2.2.2.1.1), ⟨(ap75.2.2.2.1.2.1), trivial⟩⟩, ⟨⟨(ap75.2.2.2.2.1.1), trivial⟩, ⟨trivial, trivial⟩⟩⟩⟩⟩⟩⟩
 have q94 := of_decide_eq_true h93
 refine pu (vp g31 14) (wS (congrArg not h93)) ?_
 refine ld (vs a26 x_c.Next.length c27) (wS (congrArg not h93)) isAgg_22 b92 ?_
 refine ln (wS (congrArg not h93)) slTy_22 (r28.from0 m89) ?_
 refine pu (vb (decide (0 < (x_c.Next.length : Int)))) (wS (congrArg not h93)) ?_
 refine pf (vb (decide (0 < (x_c.Next.length : Int)))) wN (congrArg not h93) ?_
 refine mv (vb (decide (0 < (x_c.Next.length : Int)))) wN ?_
 rcases bt (decide (0 < (x_c.Next.length : Int))) with h95 | h95
 ·have q96 := of_decide_eq_true h95
  refine sk h95 ?_
  refine sk h95 ?_
  refine sk h95 ?_
  refine sk h95 ?_
  refine pk (vb true) wN h95 ?_
  refine wl_nil <| wq_then ?_
  refine ct (Eq.refl true) ?_
  refine sr ?_
  have b97 := (b84.kp k88)
  refine lN (L_38 (F_impl_copyChan x_c) a45 c46 a50 c51 a55 c56 a60 c61 a65 c66 a70 c71) wN isAgg_38 sizeOf_38 b97 ?_
  have b98 := ((((b41.kp k44).kp k80).ch k83 (Nat.ne_of_lt (Nat.lt_of_lt_of_le p39 (Nat.le_trans k44.size p78)))).kp k88)
  refine st (va (L_38 (F_impl_copyChan x_c) a45 c46 a50 c51 a55 c56 a60 c61 a65 c66 a70 c71)) (L_38 (F_impl_copyChan x_c) a45 c46 a50 c51 a55 c56 a60 c61 a65 c66 a70 c71) (L_38 (F_impl_copyChan x_c) a45 c46 a50 c51 a55 c56 a60 c61 a65 c66 a70 c71) wN sizeOf_38 b98 ?_
  intro w7 k99 b100 z101
  have m102 := m89.ext k99 (fun k hk => by subst hk; exact Nat.le_trans k34.size p38)
  refine ag (vb false) wN ?_
  refine wl_nil <| wq_then <| wc_ret <| wq_then_ret ?_
  have o103 := (own_ch (own_kp (own_ch (own_kp o47 k80) k83 (fun g hg hlt hk => by have h1 := (own_lt o47 g hg).2; have h2 := Nat.le_trans (Nat.le_refl w3.heap.size) p78; omega)) k88) k99 (fun g hg hlt hk => by have h1 := (own_lt o47 g hg).1; have h2 := Nat.lt_of_lt_of_le p39 (Nat.le_refl w2.heap.size); omega))
  have o104 := (own_ch (own_kp (own_ch (own_kp o52 k80) k83 (fun g hg hlt hk => by have h1 := (own_lt o52 g hg).2; have h2 := Nat.le_trans (Nat.le_refl w3.heap.size) p78; omega)) k88) k99 (fun g hg hlt hk => by have h1 := (own_lt o52 g hg).1; have h2 := Nat.lt_of_lt_of_le p39 (Nat.le_refl w2.heap.size); omega))
  have o105 := (own_ch (own_kp (own_ch (own_kp o57 k80) k83 (fun g hg hlt hk => by have h1 := (own_lt o57 g hg).2; have h2 := Nat.le_trans (Nat.le_refl w3.heap.size) p78; omega)) k88) k99 (fun g hg hlt hk => by have h1 := (own_lt o57 g hg).1; have h2 := Nat.lt_of_lt_of_le p39 (Nat.le_refl w2.heap.size); omega))
  have o106 := (own_ch (own_kp (own_ch (own_kp o62 k80) k83 (fun g hg hlt hk => by have h1 := (own_lt o62 g hg).2; have h2 := Nat.le_trans (Nat.le_refl w3.heap.size) p78; omega)) k88) k99 (fun g hg hlt hk => by have h1 := (own_lt o62 g hg).1; have h2 := Nat.lt_of_lt_of_le p39 (Nat.le_refl w2.heap.size); omega))
  have o107 := (own_ch (own_kp (own_ch (own_kp o67 k80) k83 (fun g hg hlt hk => by have h1 := (own_lt o67 g hg).2; have h2 := Nat.le_trans (Nat.le_refl w3.heap.size) p78; omega)) k88) k99 (fun g hg hlt hk => by have h1 := (own_lt o67 g hg).1; have h2 := Nat.lt_of_lt_of_le p39 (Nat.le_refl w2.heap.size); omega))
  have o108 := (own_ch (own_kp (own_ch (own_kp o72 k80) k83 (fun g hg hlt hk => by have h1 := (own_lt o72 g hg).2; have h2 := Nat.le_trans (Nat.le_refl w3.heap.size) p78; omega)) k88) k99 (fun g hg hlt hk => by have h1 := (own_lt o72 g hg).1; have h2 := Nat.lt_of_lt_of_le p39 (Nat.le_refl w2.heap.size); omega))
  refine ret_2 (.inl rfl) (va (L_38 (F_impl_copyChan x_c) a45 c46 a50 c51 a55 c56 a60 c61 a65 c66 a70 c71)) (vb false) rfl (rv_c [(vi ((F_impl_copyChan x_c).Role)), (vs a45 ((F_impl_copyChan x_c).Sn).length c46), (vi (((F_impl_copyChan x_c).Cur).N)), (vs a50 (((F_impl_copyChan x_c).Cur).Key).length c51), (vi (((F_impl_copyChan x_c).Cur).Seq)), (vi ((((F_impl_copyChan x_c).Cur).Win).Top)), (vs a55 ((((F_impl_copyChan x_c).Cur).Win).Bits).length c56), (vi (((F_impl_copyChan x_c).Old).N)), (vs a60 (((F_impl_copyChan x_c).Old).Key).length c61), (vi (((F_impl_copyChan x_c).Old).Seq)), (vi ((((F_impl_copyChan x_c).Old).Win).Top)), (vs a65 ((((F_impl_copyChan x_c).Old).Win).Bits).length c66), (vb ((F_impl_copyChan x_c).HasOld)), (vi ((F_impl_copyChan x_c).Until)), (vs a70 ((F_impl_copyChan x_c).Next).length c71)] rfl b100 isAgg_38 sizeOf_38) rfl ?_
  refine ⟨m102.keep0, ?_⟩
  have hF109 : F_impl_Want x_c = ((F_impl_copyChan x_c), false) := by simp only [F_impl_Want, h90, h93, h95, cond_true, cond_false]
  rw [hF109]
  exact ⟨_, _, _, _, _, _, _, _, _, _, _, _, rfl, (own_lo o103 (Nat.le_trans k34.size k40.size)), s48, (own_lo o104 (Nat.le_trans k34.size k40.size)), s53, (own_lo o105 (Nat.le_trans k34.size k40.size)), s58, (own_lo o106 (Nat.le_trans k34.size k40.size)), s63, (own_lo o107 (Nat.le_trans k34.size k40.size)), s68, (own_lo o108 (Nat.le_trans k34.size k40.size)), s73, ⟨⟨(ap75.1.1), ⟨(ap75.1.2.1), ⟨(ap75.1.2.2.1), ⟨(ap75.1.2.2.2.1), ⟨(ap75.1.2.2.2.2.1), trivial⟩⟩⟩⟩⟩, ⟨⟨(ap75.2.1.1), ⟨(ap75.2.1.2.1), ⟨(ap75.2.1.2.2.1), ⟨(ap75.2.1.2.2.2.1), trivial⟩⟩⟩⟩, ⟨⟨(ap75.2.2.1.1), ⟨(ap75.2.2.1.2.1), ⟨(ap75.2.2.1.2.2.1), trivial⟩⟩⟩, ⟨⟨(ap75.2.2.2.1.1), ⟨(ap75.2.2.2.1.2.1), trivial⟩⟩, ⟨⟨(ap75.2.2.2.2.1.1), trivial⟩, ⟨trivial, trivial⟩⟩⟩⟩⟩⟩⟩
 have q110 := of_decide_eq_false h95
 refine pu (vp g31 2) (wS h95) ?_
 refine pu (vp g31 2) (wS h95) ?_
 refine ld (vi x_c.Cur.N) (wS h95) isAgg_3 b92 ?_
 refine pu (vb (decide (x_c.Cur.N = 4294967295))) (wS h95) ?_
 refine pf (vb (decide (x_c.Cur.N = 4294967295))) wN h95 ?_
 refine wl_nil <| wq_then ?_
 rcases bt (decide (x_c.Cur.N = 4294967295)) with h111 | h111
 ·have q112 := of_decide_eq_true h111
  refine ct h111 ?_
  refine sr ?_
  have b113 := (b84.kp k88)
  refine lN (L_38 (F_impl_copyChan x_c) a45 c46 a50 c51 a55 c56 a60 c61 a65 c66 a70 c71) wN isAgg_38 sizeOf_38 b113 ?_
  have b114 := ((((b41.kp k44).kp k80).ch k83 (Nat.ne_of_lt (Nat.lt_of_lt_of_le p39 (Nat.le_trans k44.size p78)))).kp k88)
  refine st (va (L_38 (F_impl_copyChan x_c) a45 c46 a50 c51 a55 c56 a60 c61 a65 c66 a70 c71)) (L_38 (F_impl_copyChan x_c) a45 c46 a50 c51 a55 c56 a60 c61 a65 c66 a70 c71) (L_38 (F_impl_copyChan x_c) a45 c46 a50 c51 a55 c56 a60 c61 a65 c66 a70 c71) wN sizeOf_38 b114 ?_
  intro w7 k115 b116 z117
  have m118 := m89.ext k115 (fun k hk => by subst hk; exact Nat.le_trans k34.size p38)
  refine ag (vb false) wN ?_
  refine wl_nil <| wq_then <| wc_ret <| wq_then_ret ?_
  have o119 := (own_ch (own_kp (own_ch (own_kp o47 k80) k83 (fun g hg hlt hk => by have h1 := (own_lt o47 g hg).2; have h2 := Nat.le_trans (Nat.le_refl w3.heap.size) p78; omega)) k88) k115 (fun g hg hlt hk => by have h1 := (own_lt o47 g hg).1; have h2 := Nat.lt_of_lt_of_le p39 (Nat.le_refl w2.heap.size); omega))
  have o120 := (own_ch (own_kp (own_ch (own_kp o52 k80) k83 (fun g hg hlt hk => by have h1 := (own_lt o52 g hg).2; have h2 := Nat.le_trans (Nat.le_refl w3.heap.size) p78; omega)) k88) k115 (fun g hg hlt hk => by have h1 := (own_lt o52 g hg).1; have h2 := Nat.lt_of_lt_of_le p39 (Nat.le_refl w2.heap.size); omega))
  have o121 := (own_ch (own_kp (own_ch (own_kp o57 k80) k83 (fun g hg hlt hk => by have h1 := (own_lt o57 g hg).2; have h2 := Nat.le_trans (Nat.le_refl w3.heap.size) p78; omega)) k88) k115 (fun g hg hlt hk => by have h1 := (own_lt o57 g hg).1; have h2 := Nat.lt_of_lt_of_le p39 (Nat.le_refl w2.heap.size); omega))
  have o122 := (own_ch (own_kp (own_ch (own_kp o62 k80) k83 (fun g hg hlt hk => by have h1 := (own_lt o62 g hg).2; have h2 := Nat.le_trans (Nat.le_refl w3.heap.size) p78; omega)) k88) k115 (fun g hg hlt hk => by have h1 := (own_lt o62 g hg).1; have h2 := Nat.lt_of_lt_of_le p39 (Nat.le_refl w2.heap.size); omega))
  have o123 := (own_ch (own_kp (own_ch (own_kp o67 k80) k83 (fun g hg hlt hk => by have h1 := (own_lt o67 g hg).2; have h2 := Nat.le_trans (Nat.le_refl w3.heap.size) p78; omega)) k88) k115 (fun g hg hlt hk => by have h1 := (own_lt o67 g hg).1; have h2 := Nat.lt_of_lt_of_le p39 (Nat.le_refl w2.heap.size); omega))
  have o124 := (own_ch (own_kp (own_ch (own_kp o72 k80) k83 (fun g hg hlt hk => by have h1 := (own_lt o72 g hg).2; have h2 := Nat.le_trans (Nat.le_refl w3.heap.size) p78; omega)) k88) k115 (fun g hg hlt hk => by have h1 := (own_lt o72 g hg).1; have h2 := Nat.lt_of_lt_of_le p39 (Nat.le_refl w2.heap.size); omega))
  refine ret_2 (.inl rfl) (va (L_38 (F_impl_copyChan x_c) a45 c46 a50 c51 a55 c56 a60 c61 a65 c66 a70 c71)) (vb false) rfl (rv_c [(vi ((F_impl_copyChan x_c).Role)), (vs a45 ((F_impl_copyChan x_c).Sn).length c46), (vi (((F_impl_copyChan x_c).Cur).N)), (vs a50 (((F_impl_copyChan x_c).Cur).Key).length c51), (vi (((F_impl_copyChan x_c).Cur).Seq)), (vi ((((F_impl_copyChan x_c).Cur).Win).Top)), (vs a55 ((((F_impl_copyChan x_c).Cur).Win).Bits).length c56), (vi (((F_impl_copyChan x_c).Old).N)), (vs a60 (((F_impl_copyChan x_c).Old).Key).length c61), (vi (((F_impl_copyChan x_c).Old).Seq)), (vi ((((F_impl_copyChan x_c).Old).Win).Top)), (vs a65 ((((F_impl_copyChan x_c).Old).Win).Bits).length c66), (vb ((F_impl_copyChan x_c).HasOld)), (vi ((F_impl_copyChan x_c).Until)), (vs a70 ((F_impl_copyChan x_c).Next).length c71)] rfl b116 isAgg_38 sizeOf_38) rfl ?_
  refine ⟨m118.keep0, ?_⟩
  have hF125 : F_impl_Want x_c = ((F_impl_copyChan x_c), false) := by simp only [F_impl_Want, h90, h93, h95, h111, cond_true, cond_false]
  rw [hF125]
  exact ⟨_, _, _, _, _, _, _, _, _, _, _, _, rfl, (own_lo o119 (Nat.le_trans k34.size k40.size)), s48, (own_lo o120 (Nat.le_trans k34.size k40.size)), s53, (own_lo o121 (Nat.le_trans k34.size k40.size)), s58, (own_lo o122 (Nat.le_trans k34.size k40.size)), s63, (own_lo o123 (Nat.le_trans k34.size k40.size)), s68, (own_lo o124 (Nat.le_trans k34.size k40.size)), s73, ⟨⟨(ap75.1.1), ⟨(ap75.1.2.1), ⟨(ap75.1.2.2.1), ⟨(ap75.1.2.2.2.1), ⟨(ap75.1.2.2.2.2.1), trivial⟩⟩⟩⟩⟩, ⟨⟨(ap75.2.1.1), ⟨(ap75.2.1.2.1), ⟨(ap75.2.1.2.2.1), ⟨(ap75.2.1.2.2.2.1), trivial⟩⟩⟩⟩, ⟨⟨(ap75.2.2.1.1), ⟨(ap75.2.2.1.2.1), ⟨(ap75.2.2.1.2.2.1), trivial⟩⟩⟩, ⟨⟨(ap75.2.2.2.1.1), ⟨(ap75.2.2.2.1.2.1), trivial⟩⟩, ⟨⟨(ap75.2.2.2.2.1.1), trivial⟩, ⟨trivial, trivial⟩⟩⟩⟩⟩⟩⟩
 have q126 := of_decide_eq_false h111
 refine cf h111 ?_
 refine wc_skip <| wq_then <| sr ?_
 refine pu (vp g31 2) wN ?_
 refine pu (vp g31 3) wN ?_
 refine ld (vs a6 x_c.Cur.Key.length c7) wN isAgg_22 b92 ?_
 refine cl wN (C_impl_Derive w6 _ x_c.Cur.Key (mR_22 (r8.from0 m89) s9) _ (ByteArray.mk ([114, 101, 107, 101, 121] : List UInt8).toArray) (mR_9) (by first | omega | decide)) ?_
 rintro _ w7 ⟨k127, ⟨a128, c129, rfl, o130, s131, ap133⟩⟩
 have m134 := m89.extk k127
 have q135 := derive_le x_c.Cur.Key (ByteArray.mk ([114, 101, 107, 101, 121] : List UInt8).toArray)
 refine pu (vp g77 14) wN ?_
 have b136 := ((b84.kp k88).kp k127)
 refine st (vs a128 (derive x_c.Cur.Key (ByteArray.mk ([114, 101, 107, 101, 121] : List UInt8).toArray)).length c129) [(vs a128 (derive x_c.Cur.Key (ByteArray.mk ([114, 101, 107, 101, 121] : List UInt8).toArray)).length c129)] [(vi ((F_impl_copyChan x_c).Role)), (vs a45 ((F_impl_copyChan x_c).Sn).length c46), (vi (((F_impl_copyChan x_c).Cur).N)), (vs a50 (((F_impl_copyChan x_c).Cur).Key).length c51), (vi (((F_impl_copyChan x_c).Cur).Seq)), (vi ((((F_impl_copyChan x_c).Cur).Win).Top)), (vs a55 ((((F_impl_copyChan x_c).Cur).Win).Bits).length c56), (vi (((F_impl_copyChan x_c).Old).N)), (vs a60 (((F_impl_copyChan x_c).Old).Key).length c61), (vi (((F_impl_copyChan x_c).Old).Seq)), (vi ((((F_impl_copyChan x_c).Old).Win).Top)), (vs a65 ((((F_impl_copyChan x_c).Old).Win).Bits).length c66), (vb ((F_impl_copyChan x_c).HasOld)), (vi ((F_impl_copyChan x_c).Until)), (vs a128 (derive x_c.Cur.Key (ByteArray.mk ([114, 101, 107, 101, 121] : List UInt8).toArray)).length c129)] wN sizeOf_22 b136 ?_
 intro w8 k137 b138 z139
 have m140 := m134.ext k137 (fun k hk => by subst hk; exact Nat.le_trans (t3 k34.size k40.size k44.size) p78)
 refine nx ?_
 refine lN [(vi ((F_impl_copyChan x_c).Role)), (vs a45 ((F_impl_copyChan x_c).Sn).length c46), (vi (((F_impl_copyChan x_c).Cur).N)), (vs a50 (((F_impl_copyChan x_c).Cur).Key).length c51), (vi (((F_impl_copyChan x_c).Cur).Seq)), (vi ((((F_impl_copyChan x_c).Cur).Win).Top)), (vs a55 ((((F_impl_copyChan x_c).Cur).Win).Bits).length c56), (vi (((F_impl_copyChan x_c).Old).N)), (vs a60 (((F_impl_copyChan x_c).Old).Key).length c61), (vi (((F_impl_copyChan x_c).Old).Seq)), (vi ((((F_impl_copyChan x_c).Old).Win).Top)), (vs a65 ((((F_impl_copyChan x_c).Old).Win).Bits).length c66), (vb ((F_impl_copyChan x_c).HasOld)), (vi ((F_impl_copyChan x_c).Until)), (vs a128 (derive x_c.Cur.Key (ByteArray.mk ([114, 101, 107, 101, 121] : List UInt8).toArray)).length c129)] wN isAgg_38 sizeOf_38 b138 ?_
 have b141 := ((((((b41.kp k44).kp k80).ch k83 (Nat.ne_of_lt (Nat.lt_of_lt_of_le p39 (Nat.le_trans k44.size p78)))).kp k88).kp k127).ch k137 (Nat.ne_of_lt (Nat.lt_of_lt_of_le p39 (Nat.le_trans k44.size p78))))
 refine st (va [(vi ((F_impl_copyChan x_c).Role)), (vs a45 ((F_impl_copyChan x_c).Sn).length c46), (vi (((F_impl_copyChan x_c).Cur).N)), (vs a50 (((F_impl_copyChan x_c).Cur).Key).length c51), (vi (((F_impl_copyChan x_c).Cur).Seq)), (vi ((((F_impl_copyChan x_c).Cur).Win).Top)), (vs a55 ((((F_impl_copyChan x_c).Cur).Win).Bits).length c56), (vi (((F_impl_copyChan x_c).Old).N)), (vs a60 (((F_impl_copyChan x_c).Old).Key).length c61), (vi (((F_impl_copyChan x_c).Old).Seq)), (vi ((((F_impl_copyChan x_c).Old).Win).Top)), (vs a65 ((((F_impl_copyChan x_c).Old).Win).Bits).length c66), (vb ((F_impl_copyChan x_c).HasOld)), (vi ((F_impl_copyChan x_c).Until)), (vs a128 (derive x_c.Cur.Key (ByteArray.mk ([114, 101, 107, 101, 121] : List UInt8).toArray)).length c129)]) [(vi ((F_impl_copyChan x_c).Role)), (vs a45 ((F_impl_copyChan x_c).Sn).length c46), (vi (((F_impl_copyChan x_c).Cur).N)), (vs a50 (((F_impl_copyChan x_c).Cur).Key).length c51), (vi (((F_impl_copyChan x_c).Cur).Seq)), (vi ((((F_impl_copyChan x_c).Cur).Win).Top)), (vs a55 ((((F_impl_copyChan x_c).Cur).Win).Bits).length c56), (vi (((F_impl_copyChan x_c).Old).N)), (vs a60 (((F_impl_copyChan x_c).Old).Key).length c61), (vi (((F_impl_copyChan x_c).Old).Seq)), (vi ((((F_impl_copyChan x_c).Old).Win).Top)), (vs a65 ((((F_impl_copyChan x_c).Old).Win).Bits).length c66), (vb ((F_impl_copyChan x_c).HasOld)), (vi ((F_impl_copyChan x_c).Until)), (vs a128 (derive x_c.Cur.Key (ByteArray.mk ([114, 101, 107, 101, 121] : List UInt8).toArray)).length c129)] [(vi ((F_impl_copyChan x_c).Role)), (vs a45 ((F_impl_copyChan x_c).Sn).length c46), (vi (((F_impl_copyChan x_c).Cur).N)), (vs a50 (((F_impl_copyChan x_c).Cur).Key).length c51), (vi (((F_impl_copyChan x_c).Cur).Seq)), (vi ((((F_impl_copyChan x_c).Cur).Win).Top)), (vs a55 ((((F_impl_copyChan x_c).Cur).Win).Bits).length c56), (vi (((F_impl_copyChan x_c).Old).N)), (vs a60 (((F_impl_copyChan x_c).Old).Key).length c61), (vi (((F_impl_copyChan x_c).Old).Seq)), (vi ((((F_impl_copyChan x_c).Old).Win).Top)), (vs a65 ((((F_impl_copyChan x_c).Old).Win).Bits).length c66), (vb ((F_impl_copyChan x_c).HasOld)), (vi ((F_impl_copyChan x_c).Until)), (vs a128 (derive x_c.Cur.Key (ByteArray.mk ([114, 101, 107, 101, 121] : List UInt8).toArray)).length c129)] wN sizeOf_38 b141 ?_
 intro w9 k142 b143 z144
 have m145 := m140.ext k142 (fun k hk => by subst hk; exact Nat.le_trans k34.size p38)
 refine ag (vb true) wN ?_
 refine wl_nil <| wq_then <| wc_ret ?_
 have o146 := (own_ch (own_ch (own_kp (own_kp (own_ch (own_kp o47 k80) k83 (fun g hg hlt hk => by have h1 := (own_lt o47 g hg).2; have h2 := Nat.le_trans (Nat.le_refl w3.heap.size) p78; omega)) k88) k127) k137 (fun g hg hlt hk => by have h1 := (own_lt o47 g hg).2; have h2 := Nat.le_trans (Nat.le_refl w3.heap.size) p78; omega)) k142 (fun g hg hlt hk => by have h1 := (own_lt o47 g hg).1; have h2 := Nat.lt_of_lt_of_le p39 (Nat.le_refl w2.heap.size); omega))
 have o147 := (own_ch (own_ch (own_kp (own_kp (own_ch (own_kp o52 k80) k83 (fun g hg hlt hk => by have h1 := (own_lt o52 g hg).2; have h2 := Nat.le_trans (Nat.le_refl w3.heap.size) p78; omega)) k88) k127) k137 (fun g hg hlt hk => by have h1 := (own_lt o52 g hg).2; have h2 := Nat.le_trans (Nat.le_refl w3.heap.size) p78; omega)) k142 (fun g hg hlt hk => by have h1 := (own_lt o52 g hg).1; have h2 := Nat.lt_of_lt_of_le p39 (Nat.le_refl w2.heap.size); omega))
 have o148 := (own_ch (own_ch (own_kp (own_kp (own_ch (own_kp o57 k80) k83 (fun g hg hlt hk => by have h1 := (own_lt o57 g hg).2; have h2 := Nat.le_trans (Nat.le_refl w3.heap.size) p78; omega)) k88) k127) k137 (fun g hg hlt hk => by have h1 := (own_lt o57 g hg).2; have h2 := Nat.le_trans (Nat.le_refl w3.heap.size) p78; omega)) k142 (fun g hg hlt hk => by have h1 := (own_lt o57 g hg).1; have h2 := Nat.lt_of_lt_of_le p39 (Nat.le_refl w2.heap.size); omega))
 have o149 := (own_ch (own_ch (own_kp (own_kp (own_ch (own_kp o62 k80) k83 (fun g hg hlt hk => by have h1 := (own_lt o62 g hg).2; have h2 := Nat.le_trans (Nat.le_refl w3.heap.size) p78; omega)) k88) k127) k137 (fun g hg hlt hk => by have h1 := (own_lt o62 g hg).2; have h2 := Nat.le_trans (Nat.le_refl w3.heap.size) p78; omega)) k142 (fun g hg hlt hk => by have h1 := (own_lt o62 g hg).1; have h2 := Nat.lt_of_lt_of_le p39 (Nat.le_refl w2.heap.size); omega))
 have o150 := (own_ch (own_ch (own_kp (own_kp (own_ch (own_kp o67 k80) k83 (fun g hg hlt hk => by have h1 := (own_lt o67 g hg).2; have h2 := Nat.le_trans (Nat.le_refl w3.heap.size) p78; omega)) k88) k127) k137 (fun g hg hlt hk => by have h1 := (own_lt o67 g hg).2; have h2 := Nat.le_trans (Nat.le_refl w3.heap.size) p78; omega)) k142 (fun g hg hlt hk => by have h1 := (own_lt o67 g hg).1; have h2 := Nat.lt_of_lt_of_le p39 (Nat.le_refl w2.heap.size); omega))
 have o151 := (own_ch (own_ch o130 k137 (fun g hg hlt hk => by have h1 := (own_lt o130 g hg).1; have h2 := Nat.lt_of_lt_of_le p79 (Nat.le_trans k83.size k88.size); omega)) k142 (fun g hg hlt hk => by have h1 := (own_lt o130 g hg).1; have h2 := Nat.lt_of_lt_of_le p39 (t4 k44.size k80.size k83.size k88.size); omega))
 refine ret_2 (.inl rfl) (va [(vi ((F_impl_copyChan x_c).Role)), (vs a45 ((F_impl_copyChan x_c).Sn).length c46), (vi (((F_impl_copyChan x_c).Cur).N)), (vs a50 (((F_impl_copyChan x_c).Cur).Key).length c51), (vi (((F_impl_copyChan x_c).Cur).Seq)), (vi ((((F_impl_copyChan x_c).Cur).Win).Top)), (vs a55 ((((F_impl_copyChan x_c).Cur).Win).Bits).length c56), (vi (((F_impl_copyChan x_c).Old).N)), (vs a60 (((F_impl_copyChan x_c).Old).Key).length c61), (vi (((F_impl_copyChan x_c).Old).Seq)), (vi ((((F_impl_copyChan x_c).Old).Win).Top)), (vs a65 ((((F_impl_copyChan x_c).Old).Win).Bits).length c66), (vb ((F_impl_copyChan x_c).HasOld)), (vi ((F_impl_copyChan x_c).Until)), (vs a128 (derive x_c.Cur.Key (ByteArray.mk ([114, 101, 107, 101, 121] : List UInt8).toArray)).length c129)]) (vb true) rfl (rv_c [(vi ((F_impl_copyChan x_c).Role)), (vs a45 ((F_impl_copyChan x_c).Sn).length c46), (vi (((F_impl_copyChan x_c).Cur).N)), (vs a50 (((F_impl_copyChan x_c).Cur).Key).length c51), (vi (((F_impl_copyChan x_c).Cur).Seq)), (vi ((((F_impl_copyChan x_c).Cur).Win).Top)), (vs a55 ((((F_impl_copyChan x_c).Cur).Win).Bits).length c56), (vi (((F_impl_copyChan x_c).Old).N)), (vs a60 (((F_impl_copyChan x_c).Old).Key).length c61), (vi (((F_impl_copyChan x_c).Old).Seq)), (vi ((((F_impl_copyChan x_c).Old).Win).Top)), (vs a65 ((((F_impl_copyChan x_c).Old).Win).Bits).length c66), (vb ((F_impl_copyChan x_c).HasOld)), (vi ((F_impl_copyChan x_c).Until)), (vs a128 (derive x_c.Cur.Key (ByteArray.mk ([114, 101, 107, 101, 121] : List UInt8).toArray)).length c129)] rfl b143 isAgg_38 sizeOf_38) rfl ?_
 refine ⟨m145.keep0, ?_⟩
 have hF152 : F_impl_Want x_c = ({ Role := (F_impl_copyChan x_c).Role, Sn := (F_impl_copyChan x_c).Sn, Cur := ((F_impl_copyChan x_c).Cur), Old := ((F_impl_copyChan x_c).Old), HasOld := (F_impl_copyChan x_c).HasOld, Until := (F_impl_copyChan x_c).Until, Next := (derive x_c.Cur.Key (ByteArray.mk ([114, 101, 107, 101, 121] : List UInt8).toArray)) : PChan }, true) := by simp only [F_impl_Want, h90, h93, h95, h111, cond_true, cond_false]
 rw [hF152]
 exact ⟨_, _, _, _, _, _, _, _, _, _, _, _, rfl, (own_lo o146 (Nat.le_trans k34.size k40.size)), s48, (own_lo o147 (Nat.le_trans k34.size k40.size)), s53, (own_lo o148 (Nat.le_trans k34.size k40.size)), s58, (own_lo o149 (Nat.le_trans k34.size k40.size)), s63, (own_lo o150 (Nat.le_trans k34.size k40.size)), s68, (own_lo o151 (t6 k34.size k40.size k44.size k80.size k83.size k88.size)), s131, ⟨⟨(ap75.1.1), ⟨(ap75.1.2.1), ⟨(ap75.1.2.2.1), ⟨(ap75.1.2.2.2.1), ⟨(Ap.lt o47 o130 (t3 k80.size k83.size k88.size)), trivial⟩⟩⟩⟩⟩, ⟨⟨(ap75.2.1.1), ⟨(ap75.2.1.2.1), ⟨(ap75.2.1.2.2.1), ⟨(Ap.lt o52 o130 (t3 k80.size k83.size k88.size)), trivial⟩⟩⟩⟩, ⟨⟨(ap75.2.2.1.1), ⟨(ap75.2.2.1.2.1), ⟨(Ap.lt o57 o130 (t3 k80.size k83.size k88.size)), trivial⟩⟩⟩, ⟨⟨(ap75.2.2.2.1.1), ⟨(Ap.lt o62 o130 (t3 k80.size k83.size k88.size)), trivial⟩⟩, ⟨⟨(Ap.lt o67 o130 (t3 k80.size k83.size k88.size)), trivial⟩, ⟨trivial, trivial⟩⟩⟩⟩⟩⟩⟩

theorem isAgg_50 : ∀ w, (isAgg 50).run Try.prog w = .ok true w := fun w => by kernel_rfl
theorem sizeOf_50 : ∀ w, (sizeOf 50).run Try.prog w = .ok 15 w := fun w => by kernel_rfl
abbrev L_50 (x : PChan) (a1 : Option Addr) (c1 : Nat) (a2 : Option Addr) (c2 : Nat) (a3 : Option Addr) (c3 : Nat) (a4 : Option Addr) (c4 : Nat) (a5 : Option Addr) (c5 : Nat) (a6 : Option Addr) (c6 : Nat) : List Value := [vi x.Role, vs a1 x.Sn.length c1, vi x.Cur.N, vs a2 x.Cur.Key.length c2, vi x.Cur.Seq, vi x.Cur.Win.Top, vs a3 x.Cur.Win.Bits.length c3, vi x.Old.N, vs a4 x.Old.Key.length c4, vi x.Old.Seq, vi x.Old.Win.Top, vs a5 x.Old.Win.Bits.length c5, vb x.HasOld, vi x.Until, vs a6 x.Next.length c6]
theorem mQ_50 {w : World} {x : PChan} {a1 : Option Addr} {c1 : Nat} {a2 : Option Addr} {c2 : Nat} {a3 : Option Addr} {c3 : Nat} {a4 : Option Addr} {c4 : Nat} {a5 : Option Addr} {c5 : Nat} {a6 : Option Addr} {c6 : Nat} (h1 : Rd w 1 (.slice a1 x.Sn.length c1) x.Sn.length (x.Sn.map bV)) (l1 : x.Sn.length ≤ 9223372036854775807) (h2 : Rd w 1 (.slice a2 x.Cur.Key.length c2) x.Cur.Key.length (x.Cur.Key.map bV)) (l2 : x.Cur.Key.length ≤ 9223372036854775807) (h3 : Rd w 1 (.slice a3 x.Cur.Win.Bits.length c3) x.Cur.Win.Bits.length (x.Cur.Win.Bits.map iV)) (l3 : x.Cur.Win.Bits.length ≤ 9223372036854775807) (h4 : Rd w 1 (.slice a4 x.Old.Key.length c4) x.Old.Key.length (x.Old.Key.map bV)) (l4 : x.Old.Key.length ≤ 9223372036854775807) (h5 : Rd w 1 (.slice a5 x.Old.Win.Bits.length c5) x.Old.Win.Bits.length (x.Old.Win.Bits.map iV)) (l5 : x.Old.Win.Bits.length ≤ 9223372036854775807) (h6 : Rd w 1 (.slice a6 x.Next.length c6) x.Next.length (x.Next.map bV)) (l6 : x.Next.length ≤ 9223372036854775807) : Q_50 w (va (L_50 x a1 c1 a2 c2 a3 c3 a4 c4 a5 c5 a6 c6)) x := ⟨_, _, _, _, _, _, _, _, _, _, _, _, rfl, h1, l1, h2, l2, h3, l3, h4, l4, h5, l5, h6, l6⟩
theorem mR_50 {w : World} {x : PChan} {a1 : Option Addr} {c1 : Nat} {a2 : Option Addr} {c2 : Nat} {a3 : Option Addr} {c3 : Nat} {a4 : Option Addr} {c4 : Nat} {a5 : Option Addr} {c5 : Nat} {a6 : Option Addr} {c6 : Nat} (h1 : Rd w 1 (.slice a1 x.Sn.length c1) x.Sn.length (x.Sn.map bV)) (l1 : x.Sn.length ≤ 1073741824) (h2 : Rd w 1 (.slice a2 x.Cur.Key.length c2) x.Cur.Key.length (x.Cur.Key.map bV)) (l2 : x.Cur.Key.length ≤ 1073741824) (h3 : Rd w 1 (.slice a3 x.Cur.Win.Bits.length c3) x.Cur.Win.Bits.length (x.Cur.Win.Bits.map iV)) (l3 : x.Cur.Win.Bits.length ≤ 1073741824) (h4 : Rd w 1 (.slice a4 x.Old.Key.length c4) x.Old.Key.length (x.Old.Key.map bV)) (l4 : x.Old.Key.length ≤ 1073741824) (h5 : Rd w 1 (.slice a5 x.Old.Win.Bits.length c5) x.Old.Win.Bits.length (x.Old.Win.Bits.map iV)) (l5 : x.Old.Win.Bits.length ≤ 1073741824) (h6 : Rd w 1 (.slice a6 x.Next.length c6) x.Next.length (x.Next.map bV)) (l6 : x.Next.length ≤ 1073741824) : R_50 w (va (L_50 x a1 c1 a2 c2 a3 c3 a4 c4 a5 c5 a6 c6)) x := ⟨_, _, _, _, _, _, _, _, _, _, _, _, rfl, h1, l1, h2, l2, h3, l3, h4, l4, h5, l5, h6, l6⟩
def F_laws_FnExactWant (x_aC : PChan) : (Bool) := bif (decide ((F_laws_szChan x_aC 1048576) < 0)) then (true) else (bif (F_laws_eqChan ((F_impl_Want (F_laws_toChan x_aC)).1) ((F_spec_Want (F_laws_toChan x_aC)).1)) then (bif (((F_impl_Want (F_laws_toChan x_aC)).2) == ((F_spec_Want (F_laws_toChan x_aC)).2)) then (bif (F_laws_eqChan (F_laws_toChan x_aC) (F_laws_toChan x_aC)) then (bif (decide (((((((1 + (((F_laws_toChan x_aC).Sn).length : Int)) + ((((F_laws_toChan x_aC).Cur).Key).length : Int)) + (((((F_laws_toChan x_aC).Cur).Win).Bits).length : Int)) + ((((F_laws_toChan x_aC).Old).Key).length : Int)) + (((((F_laws_toChan x_aC).Old).Win).Bits).length : Int)) + (((F_laws_toChan x_aC).Next).length : Int)) < 0)) then (false) else (bif (decide (((F_laws_heldChan { Role := ((F_impl_Want (F_laws_toChan x_aC)).1).Role, Sn := (marksB 1 (((F_impl_Want (F_laws_toChan x_aC)).1).Sn).length), Cur := { N := (((F_impl_Want (F_laws_toChan x_aC)).1).Cur).N, Key := (marksB (1 + ((((F_impl_Want (F_laws_toChan x_aC)).1).Sn).length : Int)) ((((F_impl_Want (F_laws_toChan x_aC)).1).Cur).Key).length), Seq := (((F_impl_Want (F_laws_toChan x_aC)).1).Cur).Seq, Win := { Top := ((((F_impl_Want (F_laws_toChan x_aC)).1).Cur).Win).Top, Bits := (marksI ((1 + ((((F_impl_Want (F_laws_toChan x_aC)).1).Sn).length : Int)) + (((((F_impl_Want (F_laws_toChan x_aC)).1).Cur).Key).length : Int)) (((((F_impl_Want (F_laws_toChan x_aC)).1).Cur).Win).Bits).length) : PWin } : PEp }, Old := { N := (((F_impl_Want (F_laws_toChan x_aC)).1).Old).N, Key := (marksB (((1 + ((((F_impl_Want (F_laws_toChan x_aC)).1).Sn).length : Int)) + (((((F_impl_Want (F_laws_toChan x_aC)).1).Cur).Key).length : Int)) + ((((((F_impl_Want (F_laws_toChan x_aC)).1).Cur).Win).Bits).length : Int)) ((((F_impl_Want (F_laws_toChan x_aC)).1).Old).Key).length), Seq := (((F_impl_Want (F_laws_toChan x_aC)).1).Old).Seq, Win := { Top := ((((F_impl_Want (F_laws_toChan x_aC)).1).Old).Win).Top, Bits := (marksI ((((1 + ((((F_impl_Want (F_laws_toChan x_aC)).1).Sn).length : Int)) + (((((F_impl_Want (F_laws_toChan x_aC)).1).Cur).Key).length : Int)) + ((((((F_impl_Want (F_laws_toChan x_aC)).1).Cur).Win).Bits).length : Int)) + (((((F_impl_Want (F_laws_toChan x_aC)).1).Old).Key).length : Int)) (((((F_impl_Want (F_laws_toChan x_aC)).1).Old).Win).Bits).length) : PWin } : PEp }, HasOld := ((F_impl_Want (F_laws_toChan x_aC)).1).HasOld, Until := ((F_impl_Want (F_laws_toChan x_aC)).1).Until, Next := (marksB (((((1 + ((((F_impl_Want (F_laws_toChan x_aC)).1).Sn).length : Int)) + (((((F_impl_Want (F_laws_toChan x_aC)).1).Cur).Key).length : Int)) + ((((((F_impl_Want (F_laws_toChan x_aC)).1).Cur).Win).Bits).length : Int)) + (((((F_impl_Want (F_laws_toChan x_aC)).1).Old).Key).length : Int)) + ((((((F_impl_Want (F_laws_toChan x_aC)).1).Old).Win).Bits).length : Int)) (((F_impl_Want (F_laws_toChan x_aC)).1).Next).length) : PChan } 1)) < 0)) then (false) else (bif (decide (((F_laws_heldChan { Role := ((F_impl_Want (F_laws_toChan x_aC)).1).Role, Sn := (marksB 1 (((F_impl_Want (F_laws_toChan x_aC)).1).Sn).length), Cur := { N := (((F_impl_Want (F_laws_toChan x_aC)).1).Cur).N, Key := (marksB (1 + ((((F_impl_Want (F_laws_toChan x_aC)).1).Sn).length : Int)) ((((F_impl_Want (F_laws_toChan x_aC)).1).Cur).Key).length), Seq := (((F_impl_Want (F_laws_toChan x_aC)).1).Cur).Seq, Win := { Top := ((((F_impl_Want (F_laws_toChan x_aC)).1).Cur).Win).Top, Bits := (marksI ((1 + ((((F_impl_Want (F_laws_toChan x_aC)).1).Sn).length : Int)) + (((((F_impl_Want (F_laws_toChan x_aC)).1).Cur).Key).length : Int)) (((((F_impl_Want (F_laws_toChan x_aC)).1).Cur).Win).Bits).length) : PWin } : PEp }, Old := { N := (((F_impl_Want (F_laws_toChan x_aC)).1).Old).N, Key := (marksB (((1 + ((((F_impl_Want (F_laws_toChan x_aC)).1).Sn).length : Int)) + (((((F_impl_Want (F_laws_toChan x_aC)).1).Cur).Key).length : Int)) + ((((((F_impl_Want (F_laws_toChan x_aC)).1).Cur).Win).Bits).length : Int)) ((((F_impl_Want (F_laws_toChan x_aC)).1).Old).Key).length), Seq := (((F_impl_Want (F_laws_toChan x_aC)).1).Old).Seq, Win := { Top := ((((F_impl_Want (F_laws_toChan x_aC)).1).Old).Win).Top, Bits := (marksI ((((1 + ((((F_impl_Want (F_laws_toChan x_aC)).1).Sn).length : Int)) + (((((F_impl_Want (F_laws_toChan x_aC)).1).Cur).Key).length : Int)) + ((((((F_impl_Want (F_laws_toChan x_aC)).1).Cur).Win).Bits).length : Int)) + (((((F_impl_Want (F_laws_toChan x_aC)).1).Old).Key).length : Int)) (((((F_impl_Want (F_laws_toChan x_aC)).1).Old).Win).Bits).length) : PWin } : PEp }, HasOld := ((F_impl_Want (F_laws_toChan x_aC)).1).HasOld, Until := ((F_impl_Want (F_laws_toChan x_aC)).1).Until, Next := (marksB (((((1 + ((((F_impl_Want (F_laws_toChan x_aC)).1).Sn).length : Int)) + (((((F_impl_Want (F_laws_toChan x_aC)).1).Cur).Key).length : Int)) + ((((((F_impl_Want (F_laws_toChan x_aC)).1).Cur).Win).Bits).length : Int)) + (((((F_impl_Want (F_laws_toChan x_aC)).1).Old).Key).length : Int)) + ((((((F_impl_Want (F_laws_toChan x_aC)).1).Old).Win).Bits).length : Int)) (((F_impl_Want (F_laws_toChan x_aC)).1).Next).length) : PChan } 1)) = ((((((1 + ((((F_impl_Want (F_laws_toChan x_aC)).1).Sn).length : Int)) + (((((F_impl_Want (F_laws_toChan x_aC)).1).Cur).Key).length : Int)) + ((((((F_impl_Want (F_laws_toChan x_aC)).1).Cur).Win).Bits).length : Int)) + (((((F_impl_Want (F_laws_toChan x_aC)).1).Old).Key).length : Int)) + ((((((F_impl_Want (F_laws_toChan x_aC)).1).Old).Win).Bits).length : Int)) + ((((F_impl_Want (F_laws_toChan x_aC)).1).Next).length : Int)))) then (true) else (false)))) else (false)) else (false)) else (false))
theorem C_laws_FnExactWant (w0 : World) (v_x_aC : Value) (x_aC : PChan) (r_x_aC : Q_50 w0 v_x_aC x_aC)  : Fn Try.prog 6 #[v_x_aC] w0 (fun v w' => Keep w0 w' ∧ O_4 w' w0.heap.size v (F_laws_FnExactWant x_aC)) := by
 obtain ⟨a1, c2, a6, c7, a11, c12, a16, c17, a21, c22, a26, c27, rfl, r3, s4, r8, s9, r13, s14, r18, s19, r23, s24, r28, s29⟩ := r_x_aC
 refine fn_of (n := 96) (l := [(va (L_38 x_aC a1 c2 a6 c7 a11 c12 a16 c17 a21 c22 a26 c27)), U, U, U, U, U, U, U, U, U, U, U, U, U, U, U, U, U, U, U, U, U, U, U, U, U, U, U, U, U, U, U, U, U, U, U, U, U, U, U, U, U, U, U, U, U, U, U, U, U, U, U, U, U, U, U, U, U, U, U, U, U, U, U, U, U, U, U, U, U, U, U, U, U, U, U, U, U, U, U, U, U, U, U, U, U, U, U, U, U, U, U, U, U, U, U]) Try.func6 rfl rfl (by kernel_rfl) rfl ?_
 refine sr ?_
 refine bx (L_38 x_aC a1 c2 a6 c7 a11 c12 a16 c17 a21 c22 a26 c27) wN ?_
 intro g31 w1 p32 p33 k34 b35
 have m36 := (Ch.base w0).extk k34
 refine ag (vb false) wN ?_
 refine nx ?_
 refine ag (vi 1048576) wN ?_
 refine nx ?_
 refine lN (L_38 x_aC a1 c2 a6 c7 a11 c12 a16 c17 a21 c22 a26 c27) wN isAgg_50 sizeOf_50 b35 ?_
 refine mv (vi 1048576) wN ?_
 refine cl wN (C_laws_szChan w1 _ x_aC (mQ_50 (r3.from0 m36) s4 (r8.from0 m36) s9 (r13.from0 m36) s14 (r18.from0 m36) s19 (r23.from0 m36) s24 (r28.from0 m36) s29) 1048576 (by omega) (by omega)) ?_
 rintro _ w2 ⟨k37, rfl⟩
 have m38 := m36.extk k37
 have q39 := laws_szChan_le x_aC 1048576
 refine ag (vi (F_laws_szChan x_aC 1048576)) wN ?_
 refine wl_nil <| wq_then <| wc_seq <| sr ?_
 refine mv (vi (F_laws_szChan x_aC 1048576)) wN ?_
 refine pu (vb (decide ((F_laws_szChan x_aC 1048576) < 0))) wN ?_
 refine wl_nil <| wq_then ?_
 rcases bt (decide ((F_laws_szChan x_aC 1048576) < 0)) with h40 | h40
 ·have q41 := of_decide_eq_true h40
  refine ct h40 ?_
  refine sr ?_
  refine ag (vb true) wN ?_
  refine wl_nil <| wq_then <| wc_ret <| wq_then_ret ?_
  refine ret_1 (.inl rfl) (vb true) rfl rfl ?_
  refine ⟨m38.keep0, ?_⟩
  have hF42 : F_laws_FnExactWant x_aC = true := by simp only [F_laws_FnExactWant, h40, cond_true, cond_false]
  rw [hF42]
  exact rfl
 have q43 := of_decide_eq_false h40
 refine cf h40 ?_
 refine wc_skip <| wq_then <| sr ?_
 have b44 := (b35.kp k37)
 refine lN (L_38 x_aC a1 c2 a6 c7 a11 c12 a16 c17 a21 c22 a26 c27) wN isAgg_50 sizeOf_50 b44 ?_
 refine cl wN (C_laws_toChan w2 _ x_aC (mR_50 (r3.from0 m38) (by omega) (r8.from0 m38) (by omega) (r13.from0 m38) (by omega) (r18.from0 m38) (by omega) (r23.from0 m38) (by omega) (r28.from0 m38) (by omega))) ?_
 rintro _ w3 ⟨k45, ⟨a46, c47, a51, c52, a56, c57, a61, c62, a66, c67, a71, c72, rfl, o48, s49, o53, s54, o58, s59, o63, s64, o68, s69, o73, s74, ap76⟩⟩
 have m77 := m38.extk k45
 refine cl wN (C_spec_Want w3 _ (F_laws_toChan x_aC) (mR_38 (Rd.of_own o48) s49 (Rd.of_own o53) s54 (Rd.of_own o58) s59 (Rd.of_own o63) s64 (Rd.of_own o68) s69 (Rd.of_own o73) s74)) ?_
 rintro _ w4 ⟨k78, ⟨a79, c80, a84, c85, a89, c90, a94, c95, a99, c100, a104, c105, rfl, o81, s82, o86, s87, o91, s92, o96, s97, o101, s102, o106, s107, ap109⟩⟩
 have m110 := m77.extk k78
 refine mv (.tuple #[(va (L_38 ((F_spec_Want (F_laws_toChan x_aC)).1) a79 c80 a84 c85 a89 c90 a94 c95 a99 c100 a104 c105)), (vb ((F_spec_Want (F_laws_toChan x_aC)).2))]) wN ?_
 refine pu (va (L_38 ((F_spec_Want (F_laws_toChan x_aC)).1) a79 c80 a84 c85 a89 c90 a94 c95 a99 c100 a104 c105)) wN ?_
 refine pu (vb ((F_spec_Want (F_laws_toChan x_aC)).2)) wN ?_
 refine al [(vi 0), (vs none 0 0), (vi 0), (vs none 0 0), (vi 0), (vi 0), (vs none 0 0), (vi 0), (vs none 0 0), (vi 0), (vi 0), (vs none 0 0), (vb false), (vi 0), (vs none 0 0)] wN zero_38 ?_
 intro g111 w5 p112 p113 k114 b115
 have m116 := m110.extk k114
 refine st (va (L_38 ((F_spec_Want (F_laws_toChan x_aC)).1) a79 c80 a84 c85 a89 c90 a94 c95 a99 c100 a104 c105)) (L_38 ((F_spec_Want (F_laws_toChan x_aC)).1) a79 c80 a84 c85 a89 c90 a94 c95 a99 c100 a104 c105) (L_38 ((F_spec_Want (F_laws_toChan x_aC)).1) a79 c80 a84 c85 a89 c90 a94 c95 a99 c100 a104 c105) wN sizeOf_38 b115 ?_
 intro w6 k117 b118 z119
 have m120 := m116.ext k117 (fun k hk => by subst hk; exact Nat.le_trans (t4 k34.size k37.size k45.size k78.size) p112)
 refine ag (vb ((F_spec_Want (F_laws_toChan x_aC)).2)) wN ?_
 refine nx ?_
 have b121 := ((((b44.kp k45).kp k78).kp k114).ch k117 (Nat.ne_of_lt (Nat.lt_of_lt_of_le p33 (Nat.le_trans (t3 k37.size k45.size k78.size) p112))))
 refine lN (L_38 x_aC a1 c2 a6 c7 a11 c12 a16 c17 a21 c22 a26 c27) wN isAgg_50 sizeOf_50 b121 ?_
 refine cl wN (C_laws_toChan w6 _ x_aC (mR_50 (r3.from0 m120) (by omega) (r8.from0 m120) (by omega) (r13.from0 m120) (by omega) (r18.from0 m120) (by omega) (r23.from0 m120) (by omega) (r28.from0 m120) (by omega))) ?_
 rintro _ w7 ⟨k122, ⟨a123, c124, a128, c129, a133, c134, a138, c139, a143, c144, a148, c149, rfl, o125, s126, o130, s131, o135, s136, o140, s141, o145, s146, o150, s151, ap153⟩⟩
 have m154 := m120.extk k122
 refine al [(vi 0), (vs none 0 0), (vi 0), (vs none 0 0), (vi 0), (vi 0), (vs none 0 0), (vi 0), (vs none 0 0), (vi 0), (vi 0), (vs none 0 0), (vb false), (vi 0), (vs none 0 0)] wN zero_38 ?_
 intro g155 w8 p156 p157 k158 b159
 have m160 := m154.extk k158
 refine st (va (L_38 (F_laws_toChan x_aC) a123 c124 a128 c129 a133 c134 a138 c139 a143 c144 a148 c149)) (L_38 (F_laws_toChan x_aC) a123 c124 a128 c129 a133 c134 a138 c139 a143 c144 a148 c149) (L_38 (F_laws_toChan x_aC) a123 c124 a128 c129 a133 c134 a138 c139 a143 c144 a148 c149) wN sizeOf_38 b159 ?_
 intro w9 k161 b162 z163
 have m164 := m160.ext k161 (fun k hk => by subst hk; exact Nat.le_trans (t7 k34.size k37.size k45.size k78.size k114.size k117.size k122.size) p156)
 refine nx ?_
 refine lN (L_38 (F_laws_toChan x_aC) a123 c124 a128 c129 a133 c134 a138 c139 a143 c144 a148 c149) wN isAgg_38 sizeOf_38 b162 ?_
 have o165 := (own_ch (own_kp o125 k158) k161 (fun g hg hlt hk => by have h1 := (own_lt o125 g hg).2; have h2 := Nat.le_trans (Nat.le_refl w7.heap.size) p156; omega))
 have o166 := (own_ch (own_kp o130 k158) k161 (fun g hg hlt hk => by have h1 := (own_lt o130 g hg).2; have h2 := Nat.le_trans (Nat.le_refl w7.heap.size) p156; omega))
 have o167 := (own_ch (own_kp o135 k158) k161 (fun g hg hlt hk => by have h1 := (own_lt o135 g hg).2; have h2 := Nat.le_trans (Nat.le_refl w7.heap.size) p156; omega))
 have o168 := (own_ch (own_kp o140 k158) k161 (fun g hg hlt hk => by have h1 := (own_lt o140 g hg).2; have h2 := Nat.le_trans (Nat.le_refl w7.heap.size) p156; omega))
 have o169 := (own_ch (own_kp o145 k158) k161 (fun g hg hlt hk => by have h1 := (own_lt o145 g hg).2; have h2 := Nat.le_trans (Nat.le_refl w7.heap.size) p156; omega))
 have o170 := (own_ch (own_kp o150 k158) k161 (fun g hg hlt hk => by have h1 := (own_lt o150 g hg).2; have h2 := Nat.le_trans (Nat.le_refl w7.heap.size) p156; omega))
 refine cl wN (C_impl_Want w9 _ (F_laws_toChan x_aC) (mR_38 (Rd.of_own o165) s126 (Rd.of_own o166) s131 (Rd.of_own o167) s136 (Rd.of_own o168) s141 (Rd.of_own o169) s146 (Rd.of_own o170) s151)) ?_
 rintro _ w10 ⟨k171, ⟨a172, c173, a177, c178, a182, c183, a187, c188, a192, c193, a197, c198, rfl, o174, s175, o179, s180, o184, s185, o189, s190, o194, s195, o199, s200, ap202⟩⟩
 have m203 := m164.extk k171
 refine mv (.tuple #[(va (L_38 ((F_impl_Want (F_laws_toChan x_aC)).1) a172 c173 a177 c178 a182 c183 a187 c188 a192 c193 a197 c198)), (vb ((F_impl_Want (F_laws_toChan x_aC)).2))]) wN ?_
 refine pu (va (L_38 ((F_impl_Want (F_laws_toChan x_aC)).1) a172 c173 a177 c178 a182 c183 a187 c188 a192 c193 a197 c198)) wN ?_
 refine pu (vb ((F_impl_Want (F_laws_toChan x_aC)).2)) wN ?_
 refine al [(vi 0), (vs none 0 0), (vi 0), (vs none 0 0), (vi 0), (vi 0), (vs none 0 0), (vi 0), (vs none 0 0), (vi 0), (vi 0), (vs none 0 0), (vb false), (vi 0), (vs none 0 0)] wN zero_38 ?_
 intro g204 w11 p205 p206 k207 b208
 have m209 := m203.extk k207
 refine st (va (L_38 ((F_impl_Want (F_laws_toChan x_aC)).1) a172 c173 a177 c178 a182 c183 a187 c188 a192 c193 a197 c198)) (L_38 ((F_impl_Want (F_laws_toChan x_aC)).1) a172 c173 a177 c178 a182 c183 a187 c188 a192 c193 a197 c198) (L_38 ((F_impl_Want (F_laws_toChan x_aC)).1) a172 c173 a177 c178 a182 c183 a187 c188 a192 c193 a197 c198) wN sizeOf_38 b208 ?_
 intro w12 k210 b211 z212
 have m213 := m209.ext k210 (fun k hk => by subst hk; exact Nat.le_trans (t10 k34.size k37.size k45.size k78.size k114.size k117.size k122.size k158.size k161.size k171.size) p205)
 refine ag (vb ((F_impl_Want (F_laws_toChan x_aC)).2)) wN ?_
 refine wl_nil <| wq_then <| wc_seq <| sr ?_
 refine lN (L_38 ((F_impl_Want (F_laws_toChan x_aC)).1) a172 c173 a177 c178 a182 c183 a187 c188 a192 c193 a197 c198) wN isAgg_38 sizeOf_38 b211 ?_
 have b214 := ((((((b118.kp k122).kp k158).ch k161 (Nat.ne_of_lt (Nat.lt_of_lt_of_le p113 (Nat.le_trans (Nat.le_trans k117.size k122.size) p156)))).kp k171).kp k207).ch k210 (Nat.ne_of_lt (Nat.lt_of_lt_of_le p113 (Nat.le_trans (t5 k117.size k122.size k158.size k161.size k171.size) p205))))
 refine lN (L_38 ((F_spec_Want (F_laws_toChan x_aC)).1) a79 c80 a84 c85 a89 c90 a94 c95 a99 c100 a104 c105) wN isAgg_38 sizeOf_38 b214 ?_
 have o215 := (own_ch (own_kp o174 k207) k210 (fun g hg hlt hk => by have h1 := (own_lt o174 g hg).2; have h2 := Nat.le_trans (Nat.le_refl w10.heap.size) p205; omega))
 have o216 := (own_ch (own_kp o179 k207) k210 (fun g hg hlt hk => by have h1 := (own_lt o179 g hg).2; have h2 := Nat.le_trans (Nat.le_refl w10.heap.size) p205; omega))
 have o217 := (own_ch (own_kp o184 k207) k210 (fun g hg hlt hk => by have h1 := (own_lt o184 g hg).2; have h2 := Nat.le_trans (Nat.le_refl w10.heap.size) p205; omega))
 have o218 := (own_ch (own_kp o189 k207) k210 (fun g hg hlt hk => by have h1 := (own_lt o189 g hg).2; have h2 := Nat.le_trans (Nat.le_refl w10.heap.size) p205; omega))
 have o219 := (own_ch (own_kp o194 k207) k210 (fun g hg hlt hk => by have h1 := (own_lt o194 g hg).2; have h2 := Nat.le_trans (Nat.le_refl w10.heap.size) p205; omega))
 have o220 := (own_ch (own_kp o199 k207) k210 (fun g hg hlt hk => by have h1 := (own_lt o199 g hg).2; have h2 := Nat.le_trans (Nat.le_refl w10.heap.size) p205; omega))
 have o221 := (own_ch (own_kp (own_kp (own_ch (own_kp (own_kp (own_ch (own_kp o81 k114) k117 (fun g hg hlt hk => by have h1 := (own_lt o81 g hg).2; have h2 := Nat.le_trans (Nat.le_refl w4.heap.size) p112; omega)) k122) k158) k161 (fun g hg hlt hk => by have h1 := (own_lt o81 g hg).2; have h2 := Nat.le_trans (t3 k114.size k117.size k122.size) p156; omega)) k171) k207) k210 (fun g hg hlt hk => by have h1 := (own_lt o81 g hg).2; have h2 := Nat.le_trans (t6 k114.size k117.size k122.size k158.size k161.size k171.size) p205; omega))
 have o222 := (own_ch (own_kp (own_kp (own_ch (own_kp (own_kp (own_ch (own_kp o86 k114) k117 (fun g hg hlt hk => by have h1 := (own_lt o86 g hg).2; have h2 := Nat.le_trans (Nat.le_refl w4.heap.size) p112; omega)) k122) k158) k161 (fun g hg hlt hk => by have h1 := (own_lt o86 g hg).2; have h2 := Nat.le_trans (t3 k114.size k117.size k122.size) p156; omega)) k171) k207) k210 (fun g hg hlt hk => by have h1 := (own_lt o86 g hg).2; have h2 := Nat.le_trans (t6 k114.size k117.size k122.size k158.size k161.size k171.size) p205; omega))
 have o223 := (own_ch (own_kp (own_kp (own_ch (own_kp (own_kp (own_ch (own_kp o91 k114) k117 (fun g hg hlt hk => by have h1 := (own_lt o91 g hg).2; have h2 := Nat.le_trans (Nat.le_refl w4.heap.size) p112; omega)) k122) k158) k161 (fun g hg hlt hk => by have h1 := (own_lt o91 g hg).2; have h2 := Nat.le_trans (t3 k114.size k117.size k122.size) p156; omega)) k171) k207) k210 (fun g hg hlt hk => by have h1 := (own_lt o91 g hg).2; have h2 := Nat.le_trans (t6 k114.size k117.size k122.size k158.size k161.size k171.size) p205; omega))
 have o224 := (own_ch (own_kp (own_kp (own_ch (own_kp (own_kp (own_ch (own_kp o96 k114) k117 (fun g hg hlt hk => by have h1 := (own_lt o96 g hg).2; have h2 := Nat.le_trans (Nat.le_refl w4.heap.size) p112; omega)) k122) k158) k161 (fun g hg hlt hk => by have h1 := (own_lt o96 g hg).2; have h2 := Nat.le_trans (t3 k114.size k117.size k122.size) p156; omega)) k171) k207) k210 (fun g hg hlt hk => by have h1 := (own_lt o96 g hg).2; have h2 := Nat.le_trans (t6 k114.size k117.size k122.size k158.size k161.size k171.size) p205; omega))
 have o225 := (own_ch (own_kp (own_kp (own_ch (own_kp (own_kp (own_ch (own_kp o101 k114) k117 (fun g hg hlt hk => by have h1 := (own_lt o101 g hg).2; have h2 := Nat.le_trans (Nat.le_refl w4.heap.size) p112; omega)) k122) k158) k161 (fun g hg hlt hk => by have h1 := (own_lt o101 g hg).2; have h2 := Nat.le_trans (t3 k114.size k117.size k122.size) p156; omega)) k171) k207) k210 (fun g hg hlt hk => by have h1 := (own_lt o101 g hg).2; have h2 := Nat.le_trans (t6 k114.size k117.size k122.size k158.size k161.size k171.size) p205; omega))
 have o226 := (own_ch (own_kp (own_kp (own_ch (own_kp (own_kp (own_ch (own_kp o106 k114) k117 (fun g hg hlt hk => by have h1 := (own_lt o106 g hg).2; have h2 := Nat.le_trans (Nat.le_refl w4.heap.size) p112; omega)) k122) k158) k161 (fun g hg hlt hk => by have h1 := (own_lt o106 g hg).2; have h2 := Nat.le_trans (t3 k114.size k117.size k122.size) p156; omega)) k171) k207) k210 (fun g hg hlt hk => by have h1 := (own_lt o106 g hg).2; have h2 := Nat.le_trans (t6 k114.size k117.size k122.size k158.size k161.size k171.size) p205; omega))
 obtain ⟨y228, e229⟩ : ∃ y, F_laws_eqChan ((F_impl_Want (F_laws_toChan x_aC)).1) ((F_spec_Want (F_laws_toChan x_aC)).1) = y := ⟨_, rfl⟩
 have hc227 := C_laws_eqChan w12 _ ((F_impl_Want (F_laws_toChan x_aC)).1) (mR_38 (Rd.of_own o215) s175 (Rd.of_own o216) s180 (Rd.of_own o217) s185 (Rd.of_own o218) s190 (Rd.of_own o219) s195 (Rd.of_own o220) s200) _ ((F_spec_Want (F_laws_toChan x_aC)).1) (mR_38 (Rd.of_own o221) s82 (Rd.of_own o222) s87 (Rd.of_own o223) s92 (Rd.of_own o224) s97 (Rd.of_own o225) s102 (Rd.of_own o226) s107)
 rw [e229] at hc227
 refine cl wN hc227 ?_
 rintro _ w13 ⟨k230, rfl⟩
 have m231 := m213.extk k230
 refine pu (vb (!(y228))) wN ?_
 refine mv (vb (!(y228))) wN ?_
 rcases bf y228 with h232 | h232
 ·refine sk (congrArg not h232) ?_
  refine sk (congrArg not h232) ?_
  refine sk (congrArg not h232) ?_
  refine pk (vb true) wN (congrArg not h232) ?_
  refine wl_nil <| wq_then ?_
  refine ct (Eq.refl true) ?_
  refine sr ?_
  refine ag (vb false) wN ?_
  refine wl_nil <| wq_then <| wc_ret <| wq_then_ret ?_
  refine ret_1 (.inl rfl) (vb false) rfl rfl ?_
  refine ⟨m231.keep0, ?_⟩
  have hF586 : F_laws_FnExactWant x_aC = false := by simp only [F_laws_FnExactWant, h40, e229, h232, cond_true, cond_false]
  rw [hF586]
  exact rfl
 refine mv (vb ((F_impl_Want (F_laws_toChan x_aC)).2)) (wS (congrArg not h232)) ?_
 refine mv (vb ((F_spec_Want (F_laws_toChan x_aC)).2)) (wS (congrArg not h232)) ?_
 refine pu (vb (!(((F_impl_Want (F_laws_toChan x_aC)).2) == ((F_spec_Want (F_laws_toChan x_aC)).2)))) (wS (congrArg not h232)) ?_
 refine pf (vb (!(((F_impl_Want (F_laws_toChan x_aC)).2) == ((F_spec_Want (F_laws_toChan x_aC)).2)))) wN (congrArg not h232) ?_
 refine wl_nil <| wq_then ?_
 rcases bf (((F_impl_Want (F_laws_toChan x_aC)).2) == ((F_spec_Want (F_laws_toChan x_aC)).2)) with h234 | h234
 ·refine ct (congrArg not h234) ?_
  refine sr ?_
  refine ag (vb false) wN ?_
  refine wl_nil <| wq_then <| wc_ret <| wq_then_ret ?_
  refine ret_1 (.inl rfl) (vb false) rfl rfl ?_
  refine ⟨m231.keep0, ?_⟩
  have hF584 : F_laws_FnExactWant x_aC = false := by simp only [F_laws_FnExactWant, h40, e229, h232, h234, cond_true, cond_false]
  rw [hF584]
  exact rfl
 refine cf (congrArg not h234) ?_
 refine wc_skip <| wq_then <| wc_seq <| wc_seq ?_
 refine wc_drawT ([(41, [], [], (fun _ v _ => v = (.agg #[(vi ((F_laws_toChan x_aC).Role)), (vs a123 ((F_laws_toChan x_aC).Sn).length c124), (vi (((F_laws_toChan x_aC).Cur).N)), (vs a128 (((F_laws_toChan x_aC).Cur).Key).length c129), (vi (((F_laws_toChan x_aC).Cur).Seq)), (vi ((((F_laws_toChan x_aC).Cur).Win).Top)), (vs a133 ((((F_laws_toChan x_aC).Cur).Win).Bits).length c134), (vi (((F_laws_toChan x_aC).Old).N)), (vs a138 (((F_laws_toChan x_aC).Old).Key).length c139), (vi (((F_laws_toChan x_aC).Old).Seq)), (vi ((((F_laws_toChan x_aC).Old).Win).Top)), (vs a143 ((((F_laws_toChan x_aC).Old).Win).Bits).length c144), (vb ((F_laws_toChan x_aC).HasOld)), (vi ((F_laws_toChan x_aC).Until)), (vs a148 ((F_laws_toChan x_aC).Next).length c149)]))), (42, [], [], (fun _ v _ => v = (.agg #[(vi x_aC.Role), (vs a1 x_aC.Sn.length c2), (vi x_aC.Cur.N), (vs a6 x_aC.Cur.Key.length c7), (vi x_aC.Cur.Seq), (vi x_aC.Cur.Win.Top), (vs a11 x_aC.Cur.Win.Bits.length c12), (vi x_aC.Old.N), (vs a16 x_aC.Old.Key.length c17), (vi x_aC.Old.Seq), (vi x_aC.Old.Win.Top), (vs a21 x_aC.Old.Win.Bits.length c22), (vb x_aC.HasOld), (vi x_aC.Until), (vs a26 x_aC.Next.length c27)]))), (43, [], [1], (fun _ v w => ∃ (a1 : Option Addr) (c1 : Nat) (a2 : Option Addr) (c2 : Nat) (a3 : Option Addr) (c3 : Nat) (a4 : Option Addr) (c4 : Nat) (a5 : Option Addr) (c5 : Nat) (a6 : Option Addr) (c6 : Nat), v = .agg #[.int .i64 ((F_laws_toChan x_aC).Role), .slice a1 ((F_laws_toChan x_aC).Sn).length c1, .int .i64 (((F_laws_toChan x_aC).Cur).N), .slice a2 (((F_laws_toChan x_aC).Cur).Key).length c2, .int .i64 (((F_laws_toChan x_aC).Cur).Seq), .int .i64 ((((F_laws_toChan x_aC).Cur).Win).Top), .slice a3 ((((F_laws_toChan x_aC).Cur).Win).Bits).length c3, .int .i64 (((F_laws_toChan x_aC).Old).N), .slice a4 (((F_laws_toChan x_aC).Old).Key).length c4, .int .i64 (((F_laws_toChan x_aC).Old).Seq), .int .i64 ((((F_laws_toChan x_aC).Old).Win).Top), .slice a5 ((((F_laws_toChan x_aC).Old).Win).Bits).length c5, .bool ((F_laws_toChan x_aC).HasOld), .int .i64 ((F_laws_toChan x_aC).Until), .slice a6 ((F_laws_toChan x_aC).Next).length c6] ∧ w.ownsRow (w13.heap.size) 5 1 (.slice a1 ((F_laws_toChan x_aC).Sn).length c1) ((F_laws_toChan x_aC).Sn).length (((F_laws_toChan x_aC).Sn).map bV) ∧ ((F_laws_toChan x_aC).Sn).length ≤ 1073741824 ∧ w.ownsRow (w13.heap.size) 5 1 (.slice a2 (((F_laws_toChan x_aC).Cur).Key).length c2) (((F_laws_toChan x_aC).Cur).Key).length ((((F_laws_toChan x_aC).Cur).Key).map bV) ∧ (((F_laws_toChan x_aC).Cur).Key).length ≤ 1073741824 ∧ w.ownsRow (w13.heap.size) 3 1 (.slice a3 ((((F_laws_toChan x_aC).Cur).Win).Bits).length c3) ((((F_laws_toChan x_aC).Cur).Win).Bits).length (((((F_laws_toChan x_aC).Cur).Win).Bits).map iV) ∧ ((((F_laws_toChan x_aC).Cur).Win).Bits).length ≤ 1073741824 ∧ w.ownsRow (w13.heap.size) 5 1 (.slice a4 (((F_laws_toChan x_aC).Old).Key).length c4) (((F_laws_toChan x_aC).Old).Key).length ((((F_laws_toChan x_aC).Old).Key).map bV) ∧ (((F_laws_toChan x_aC).Old).Key).length ≤ 1073741824 ∧ w.ownsRow (w13.heap.size) 3 1 (.slice a5 ((((F_laws_toChan x_aC).Old).Win).Bits).length c5) ((((F_laws_toChan x_aC).Old).Win).Bits).length (((((F_laws_toChan x_aC).Old).Win).Bits).map iV) ∧ ((((F_laws_toChan x_aC).Old).Win).Bits).length ≤ 1073741824 ∧ w.ownsRow (w13.heap.size) 5 1 (.slice a6 ((F_laws_toChan x_aC).Next).length c6) ((F_laws_toChan x_aC).Next).length (((F_laws_toChan x_aC).Next).map bV) ∧ ((F_laws_toChan x_aC).Next).length ≤ 1073741824 ∧ Aps [(a1, c1), (a2, c2), (a3, c3), (a4, c4), (a5, c5), (a6, c6)]))] : GV) (fun _ w' => Keep w13 w') [] mixed rfl (by kernel_rfl) (by kernel_rfl) ?_ (fun _ _ h => h) (fun _ _ _ _ h _ k => h.trans k) trivial ?_ ?_ ?_
 ·exact ⟨(fun _ _ _ _ h _ => h), (fun _ _ _ _ _ h => h), ⟨(fun _ _ _ _ h _ => h), (fun _ _ _ _ _ h => h), ⟨(fun e v w w1 h hk => by obtain ⟨a0x, c0x, a1x, c1x, a2x, c2x, a3x, c3x, a4x, c4x, a5x, c5x, he, o0x, l0x, o1x, l1x, o2x, l2x, o3x, l3x, o4x, l4x, o5x, l5x, hap⟩ := h; exact ⟨a0x, c0x, a1x, c1x, a2x, c2x, a3x, c3x, a4x, c4x, a5x, c5x, he, own_kp o0x hk, l0x, own_kp o1x hk, l1x, own_kp o2x hk, l2x, own_kp o3x hk, l3x, own_kp o4x hk, l4x, own_kp o5x hk, l5x, hap⟩), (fun _ _ _ _ _ h => h), trivial⟩⟩⟩
 ·exact trivial
 ·refine ⟨?_, ⟨?_, ⟨?_, trivial⟩⟩⟩
  ·intro _ w14 k312 _
   have m313 := m231.extk k312
   rintro _ _ _
   show WL _ _ _ _ _ _ _
   have b314 := (((((b162.kp k171).kp k207).ch k210 (Nat.ne_of_lt (Nat.lt_of_lt_of_le p157 (Nat.le_trans (Nat.le_trans k161.size k171.size) p205)))).kp k230).kp k312)
   refine lN (L_38 (F_laws_toChan x_aC) a123 c124 a128 c129 a133 c134 a138 c139 a143 c144 a148 c149) wN isAgg_38 sizeOf_38 b314 ?_
   exact wl_finT (Ch.refl _ _) rfl
  ·intro _ w14 k315 _
   have m316 := m231.extk k315
   rintro _ _ _
   show WL _ _ _ _ _ _ _
   have b317 := ((((((((b121.kp k122).kp k158).ch k161 (Nat.ne_of_lt (Nat.lt_of_lt_of_le p33 (Nat.le_trans (t6 k37.size k45.size k78.size k114.size k117.size k122.size) p156)))).kp k171).kp k207).ch k210 (Nat.ne_of_lt (Nat.lt_of_lt_of_le p33 (Nat.le_trans (t9 k37.size k45.size k78.size k114.size k117.size k122.size k158.size k161.size k171.size) p205)))).kp k230).kp k315)
   refine lN (L_38 x_aC a1 c2 a6 c7 a11 c12 a16 c17 a21 c22 a26 c27) wN isAgg_50 sizeOf_50 b317 ?_
   exact wl_finT (Ch.refl _ _) rfl
  ·intro _ w14 k318 _
   have m319 := m231.extk k318
   rintro _ _ rfl _
   show WL _ _ _ _ _ _ _
   refine cl wN (C_laws_toChan w14 _ x_aC (mR_50 (r3.from0 m319) (by omega) (r8.from0 m319) (by omega) (r13.from0 m319) (by omega) (r18.from0 m319) (by omega) (r23.from0 m319) (by omega) (r28.from0 m319) (by omega))) ?_
   rintro _ w15 ⟨k321, ⟨a322, c323, a327, c328, a332, c333, a337, c338, a342, c343, a347, c348, rfl, o324, s325, o329, s330, o334, s335, o339, s340, o344, s345, o349, s350, ap352⟩⟩
   have m353 := m319.extk k321
   exact wl_finT k321 ⟨_, _, _, _, _, _, _, _, _, _, _, _, rfl, (own_lo o324 k318.size), s325, (own_lo o329 k318.size), s330, (own_lo o334 k318.size), s335, (own_lo o339 k318.size), s340, (own_lo o344 k318.size), s345, (own_lo o349 k318.size), s350, ap352⟩
 ·intro _ w14 k354
  have m355 := m231.extk k354
  rintro _ rfl _ rfl _ ⟨a358, c359, a363, c364, a368, c369, a373, c374, a378, c379, a383, c384, rfl, o360, s361, o365, s366, o370, s371, o375, s376, o380, s381, o385, s386, ap388⟩
  show WL _ _ _ _ _ _ _
  have o389 := (own_kp (own_kp (own_ch (own_kp (own_kp o165 k171) k207) k210 (fun g hg hlt hk => by have h1 := (own_lt o125 g hg).2; have h2 := Nat.le_trans (t3 k158.size k161.size k171.size) p205; omega)) k230) k354)
  have o390 := (own_kp (own_kp (own_ch (own_kp (own_kp o166 k171) k207) k210 (fun g hg hlt hk => by have h1 := (own_lt o130 g hg).2; have h2 := Nat.le_trans (t3 k158.size k161.size k171.size) p205; omega)) k230) k354)
  have o391 := (own_kp (own_kp (own_ch (own_kp (own_kp o167 k171) k207) k210 (fun g hg hlt hk => by have h1 := (own_lt o135 g hg).2; have h2 := Nat.le_trans (t3 k158.size k161.size k171.size) p205; omega)) k230) k354)
  have o392 := (own_kp (own_kp (own_ch (own_kp (own_kp o168 k171) k207) k210 (fun g hg hlt hk => by have h1 := (own_lt o140 g hg).2; have h2 := Nat.le_trans (t3 k158.size k161.size k171.size) p205; omega)) k230) k354)
  have o393 := (own_kp (own_kp (own_ch (own_kp (own_kp o169 k171) k207) k210 (fun g hg hlt hk => by have h1 := (own_lt o145 g hg).2; have h2 := Nat.le_trans (t3 k158.size k161.size k171.size) p205; omega)) k230) k354)
  have o394 := (own_kp (own_kp (own_ch (own_kp (own_kp o170 k171) k207) k210 (fun g hg hlt hk => by have h1 := (own_lt o150 g hg).2; have h2 := Nat.le_trans (t3 k158.size k161.size k171.size) p205; omega)) k230) k354)
  obtain ⟨y396, e397⟩ : ∃ y, F_laws_eqChan (F_laws_toChan x_aC) (F_laws_toChan x_aC) = y := ⟨_, rfl⟩
  have hc395 := C_laws_eqChan w14 _ (F_laws_toChan x_aC) (mR_38 (Rd.of_own o389) s126 (Rd.of_own o390) s131 (Rd.of_own o391) s136 (Rd.of_own o392) s141 (Rd.of_own o393) s146 (Rd.of_own o394) s151) _ (F_laws_toChan x_aC) (mR_38 (Rd.of_own o360) s361 (Rd.of_own o365) s366 (Rd.of_own o370) s371 (Rd.of_own o375) s376 (Rd.of_own o380) s381 (Rd.of_own o385) s386)
  rw [e397] at hc395
  refine cl wN hc395 ?_
  rintro _ w15 ⟨k398, rfl⟩
  have m399 := m355.extk k398
  refine pu (vb (!(y396))) wN ?_
  refine wl_nil <| wq_then ?_
  rcases bf y396 with h400 | h400
  ·refine ct (congrArg not h400) ?_
   refine sr ?_
   refine ag (vb false) wN ?_
   refine wl_nil <| wq_then <| wc_ret <| wq_then_ret ?_
   refine ret_1 (.inl rfl) (vb false) rfl rfl ?_
   refine ⟨m399.keep0, ?_⟩
   have hF582 : F_laws_FnExactWant x_aC = false := by simp only [F_laws_FnExactWant, h40, e229, h232, h234, e397, h400, cond_true, cond_false]
   rw [hF582]
   exact rfl
  refine cf (congrArg not h400) ?_
  refine wc_skip <| wq_then <| sr ?_
  refine ag (vi 1) wN ?_
  refine nx ?_
  have b402 := ((((((b162.kp k171).kp k207).ch k210 (Nat.ne_of_lt (Nat.lt_of_lt_of_le p157 (Nat.le_trans (Nat.le_trans k161.size k171.size) p205)))).kp k230).kp k354).kp k398)
  refine lN (L_38 (F_laws_toChan x_aC) a123 c124 a128 c129 a133 c134 a138 c139 a143 c144 a148 c149) wN isAgg_38 sizeOf_38 b402 ?_
  refine mv (vi 1) wN ?_
  have o403 := (own_kp o389 k398)
  have o404 := (own_kp o390 k398)
  have o405 := (own_kp o391 k398)
  have o406 := (own_kp o392 k398)
  have o407 := (own_kp o393 k398)
  have o408 := (own_kp o394 k398)
  refine cl wN (C_laws_markChan w15 a123 c124 a128 c129 a133 c134 a138 c139 a143 c144 a148 c149 (F_laws_toChan x_aC) 1 (by omega) (by omega) s126 (Rd.of_own o403) (Wp.of o403) s131 (Rd.of_own o404) (Wp.of o404) s136 (Rd.of_own o405) (Wp.of o405) s141 (Rd.of_own o406) (Wp.of o406) s146 (Rd.of_own o407) (Wp.of o407) s151 (Rd.of_own o408) (Wp.of o408) ⟨⟨(ap153.1.1), ⟨(ap153.1.2.1), ⟨(ap153.1.2.2.1), ⟨(ap153.1.2.2.2.1), ⟨(ap153.1.2.2.2.2.1), trivial⟩⟩⟩⟩⟩, ⟨⟨(ap153.2.1.1), ⟨(ap153.2.1.2.1), ⟨(ap153.2.1.2.2.1), ⟨(ap153.2.1.2.2.2.1), trivial⟩⟩⟩⟩, ⟨⟨(ap153.2.2.1.1), ⟨(ap153.2.2.1.2.1), ⟨(ap153.2.2.1.2.2.1), trivial⟩⟩⟩, ⟨⟨(ap153.2.2.2.1.1), ⟨(ap153.2.2.2.1.2.1), trivial⟩⟩, ⟨⟨(ap153.2.2.2.2.1.1), trivial⟩, ⟨trivial, trivial⟩⟩⟩⟩⟩⟩) ?_
  rintro _ w16 ⟨rfl, k409, r410, r411, r412, r413, r414, r415⟩
  have m416 := m399.ext k409 (fun k hk => ms_ge (ms_ge_cons (fun hn x hx => Nat.le_trans (t6 k34.size k37.size k45.size k78.size k114.size k117.size) (own_lt o125 x.block (by rw [hx]; rfl)).1) (ms_ge_cons (fun hn x hx => Nat.le_trans (t6 k34.size k37.size k45.size k78.size k114.size k117.size) (own_lt o130 x.block (by rw [hx]; rfl)).1) (ms_ge_cons (fun hn x hx => Nat.le_trans (t6 k34.size k37.size k45.size k78.size k114.size k117.size) (own_lt o135 x.block (by rw [hx]; rfl)).1) (ms_ge_cons (fun hn x hx => Nat.le_trans (t6 k34.size k37.size k45.size k78.size k114.size k117.size) (own_lt o140 x.block (by rw [hx]; rfl)).1) (ms_ge_cons (fun hn x hx => Nat.le_trans (t6 k34.size k37.size k45.size k78.size k114.size k117.size) (own_lt o145 x.block (by rw [hx]; rfl)).1) (ms_ge_cons (fun hn x hx => Nat.le_trans (t6 k34.size k37.size k45.size k78.size k114.size k117.size) (own_lt o150 x.block (by rw [hx]; rfl)).1) ms_ge_nil)))))) hk)
  have l417 : Ch (MS (([(a123, ((F_laws_toChan x_aC).Sn).length, c124), (a128, (((F_laws_toChan x_aC).Cur).Key).length, c129), (a133, ((((F_laws_toChan x_aC).Cur).Win).Bits).length, c134), (a138, (((F_laws_toChan x_aC).Old).Key).length, c139), (a143, ((((F_laws_toChan x_aC).Old).Win).Bits).length, c144), (a148, ((F_laws_toChan x_aC).Next).length, c149)] : List (Option Addr × Nat × Nat)).map fun p => (p.1, p.2.1))) w15 w16 := k409
  refine ag (vi ((((((1 + (((F_laws_toChan x_aC).Sn).length : Int)) + ((((F_laws_toChan x_aC).Cur).Key).length : Int)) + (((((F_laws_toChan x_aC).Cur).Win).Bits).length : Int)) + ((((F_laws_toChan x_aC).Old).Key).length : Int)) + (((((F_laws_toChan x_aC).Old).Win).Bits).length : Int)) + (((F_laws_toChan x_aC).Next).length : Int))) wN ?_
  refine wl_nil <| wq_then <| wc_seq <| sr ?_
  refine mv (vi ((((((1 + (((F_laws_toChan x_aC).Sn).length : Int)) + ((((F_laws_toChan x_aC).Cur).Key).length : Int)) + (((((F_laws_toChan x_aC).Cur).Win).Bits).length : Int)) + ((((F_laws_toChan x_aC).Old).Key).length : Int)) + (((((F_laws_toChan x_aC).Old).Win).Bits).length : Int)) + (((F_laws_toChan x_aC).Next).length : Int))) wN ?_
  refine pu (vb (decide (((((((1 + (((F_laws_toChan x_aC).Sn).length : Int)) + ((((F_laws_toChan x_aC).Cur).Key).length : Int)) + (((((F_laws_toChan x_aC).Cur).Win).Bits).length : Int)) + ((((F_laws_toChan x_aC).Old).Key).length : Int)) + (((((F_laws_toChan x_aC).Old).Win).Bits).length : Int)) + (((F_laws_toChan x_aC).Next).length : Int)) < 0))) wN ?_
  refine mv (vb (decide (((((((1 + (((F_laws_toChan x_aC).Sn).length : Int)) + ((((F_laws_toChan x_aC).Cur).Key).length : Int)) + (((((F_laws_toChan x_aC).Cur).Win).Bits).length : Int)) + ((((F_laws_toChan x_aC).Old).Key).length : Int)) + (((((F_laws_toChan x_aC).Old).Win).Bits).length : Int)) + (((F_laws_toChan x_aC).Next).length : Int)) < 0))) wN ?_
  rcases bt (decide (((((((1 + (((F_laws_toChan x_aC).Sn).length : Int)) + ((((F_laws_toChan x_aC).Cur).Key).length : Int)) + (((((F_laws_toChan x_aC).Cur).Win).Bits).length : Int)) + ((((F_laws_toChan x_aC).Old).Key).length : Int)) + (((((F_laws_toChan x_aC).Old).Win).Bits).length : Int)) + (((F_laws_toChan x_aC).Next).length : Int)) < 0)) with h418 | h418
  ·have q419 := of_decide_eq_true h418
   refine sk h418 ?_
   refine sk h418 ?_
   refine sk h418 ?_
   refine sk h418 ?_
   refine pk (vb true) wN h418 ?_
   refine mv (vb true) wN ?_
   refine sk (Eq.refl true) ?_
   refine sk (Eq.refl true) ?_
   refine sk (Eq.refl true) ?_
   refine pk (vb true) wN (Eq.refl true) ?_
   refine wl_nil <| wq_then ?_
   refine ct (Eq.refl true) ?_
   refine sr ?_
   refine ag (vb false) wN ?_
   refine wl_nil <| wq_then <| wc_ret <| wq_then_ret ?_
   refine ret_1 (.inl rfl) (vb false) rfl rfl ?_
   refine ⟨m416.keep0, ?_⟩
   have hF420 : F_laws_FnExactWant x_aC = false := by simp only [F_laws_FnExactWant, h40, e229, h232, h234, e397, h400, h418, cond_true, cond_false]
   rw [hF420]
   exact rfl
  have q421 := of_decide_eq_false h418
  have b422 := ((((b211.kp k230).kp k354).kp k398).ch k409 (ms_lo (ms_lo_cons (fun hn x hx hb => by have := (own_lt o125 x.block (by rw [hx]; rfl)).2; have := Nat.le_trans (t3 k158.size k161.size k171.size) p205; omega) (ms_lo_cons (fun hn x hx hb => by have := (own_lt o130 x.block (by rw [hx]; rfl)).2; have := Nat.le_trans (t3 k158.size k161.size k171.size) p205; omega) (ms_lo_cons (fun hn x hx hb => by have := (own_lt o135 x.block (by rw [hx]; rfl)).2; have := Nat.le_trans (t3 k158.size k161.size k171.size) p205; omega) (ms_lo_cons (fun hn x hx hb => by have := (own_lt o140 x.block (by rw [hx]; rfl)).2; have := Nat.le_trans (t3 k158.size k161.size k171.size) p205; omega) (ms_lo_cons (fun hn x hx hb => by have := (own_lt o145 x.block (by rw [hx]; rfl)).2; have := Nat.le_trans (t3 k158.size k161.size k171.size) p205; omega) (ms_lo_cons (fun hn x hx hb => by have := (own_lt o150 x.block (by rw [hx]; rfl)).2; have := Nat.le_trans (t3 k158.size k161.size k171.size) p205; omega) ms_lo_nil))))))))
  refine lN (L_38 ((F_impl_Want (F_laws_toChan x_aC)).1) a172 c173 a177 c178 a182 c183 a187 c188 a192 c193 a197 c198) (wS h418) isAgg_38 sizeOf_38 b422 ?_
  have b423 := ((((b214.kp k230).kp k354).kp k398).ch k409 (ms_lo (ms_lo_cons (fun hn x hx hb => by have := (own_lt o125 x.block (by rw [hx]; rfl)).1; have := Nat.lt_of_lt_of_le p113 k117.size; omega) (ms_lo_cons (fun hn x hx hb => by have := (own_lt o130 x.block (by rw [hx]; rfl)).1; have := Nat.lt_of_lt_of_le p113 k117.size; omega) (ms_lo_cons (fun hn x hx hb => by have := (own_lt o135 x.block (by rw [hx]; rfl)).1; have := Nat.lt_of_lt_of_le p113 k117.size; omega) (ms_lo_cons (fun hn x hx hb => by have := (own_lt o140 x.block (by rw [hx]; rfl)).1; have := Nat.lt_of_lt_of_le p113 k117.size; omega) (ms_lo_cons (fun hn x hx hb => by have := (own_lt o145 x.block (by rw [hx]; rfl)).1; have := Nat.lt_of_lt_of_le p113 k117.size; omega) (ms_lo_cons (fun hn x hx hb => by have := (own_lt o150 x.block (by rw [hx]; rfl)).1; have := Nat.lt_of_lt_of_le p113 k117.size; omega) ms_lo_nil))))))))
  refine lN (L_38 ((F_spec_Want (F_laws_toChan x_aC)).1) a79 c80 a84 c85 a89 c90 a94 c95 a99 c100 a104 c105) (wS h418) isAgg_38 sizeOf_38 b423 ?_
  have r424 := (Rd.mz ((((Rd.of_own o215).kp k230).kp k354).kp k398) l417 (ap_cons (rd_cap (Rd.of_own o403)) (Ap.lt o125 o174 (Nat.le_trans k158.size k161.size)) (ap_cons (rd_cap (Rd.of_own o404)) (Ap.lt o130 o174 (Nat.le_trans k158.size k161.size)) (ap_cons (rd_cap (Rd.of_own o405)) (Ap.lt o135 o174 (Nat.le_trans k158.size k161.size)) (ap_cons (rd_cap (Rd.of_own o406)) (Ap.lt o140 o174 (Nat.le_trans k158.size k161.size)) (ap_cons (rd_cap (Rd.of_own o407)) (Ap.lt o145 o174 (Nat.le_trans k158.size k161.size)) (ap_cons (rd_cap (Rd.of_own o408)) (Ap.lt o150 o174 (Nat.le_trans k158.size k161.size)) ap_nil)))))))
  have r425 := (Rd.mz ((((Rd.of_own o216).kp k230).kp k354).kp k398) l417 (ap_cons (rd_cap (Rd.of_own o403)) (Ap.lt o125 o179 (Nat.le_trans k158.size k161.size)) (ap_cons (rd_cap (Rd.of_own o404)) (Ap.lt o130 o179 (Nat.le_trans k158.size k161.size)) (ap_cons (rd_cap (Rd.of_own o405)) (Ap.lt o135 o179 (Nat.le_trans k158.size k161.size)) (ap_cons (rd_cap (Rd.of_own o406)) (Ap.lt o140 o179 (Nat.le_trans k158.size k161.size)) (ap_cons (rd_cap (Rd.of_own o407)) (Ap.lt o145 o179 (Nat.le_trans k158.size k161.size)) (ap_cons (rd_cap (Rd.of_own o408)) (Ap.lt o150 o179 (Nat.le_trans k158.size k161.size)) ap_nil)))))))
  have r426 := (Rd.mz ((((Rd.of_own o217).kp k230).kp k354).kp k398) l417 (ap_cons (rd_cap (Rd.of_own o403)) (Ap.lt o125 o184 (Nat.le_trans k158.size k161.size)) (ap_cons (rd_cap (Rd.of_own o404)) (Ap.lt o130 o184 (Nat.le_trans k158.size k161.size)) (ap_cons (rd_cap (Rd.of_own o405)) (Ap.lt o135 o184 (Nat.le_trans k158.size k161.size)) (ap_cons (rd_cap (Rd.of_own o406)) (Ap.lt o140 o184 (Nat.le_trans k158.size k161.size)) (ap_cons (rd_cap (Rd.of_own o407)) (Ap.lt o145 o184 (Nat.le_trans k158.size k161.size)) (ap_cons (rd_cap (Rd.of_own o408)) (Ap.lt o150 o184 (Nat.le_trans k158.size k161.size)) ap_nil)))))))
  have r427 := (Rd.mz ((((Rd.of_own o218).kp k230).kp k354).kp k398) l417 (ap_cons (rd_cap (Rd.of_own o403)) (Ap.lt o125 o189 (Nat.le_trans k158.size k161.size)) (ap_cons (rd_cap (Rd.of_own o404)) (Ap.lt o130 o189 (Nat.le_trans k158.size k161.size)) (ap_cons (rd_cap (Rd.of_own o405)) (Ap.lt o135 o189 (Nat.le_trans k158.size k161.size)) (ap_cons (rd_cap (Rd.of_own o406)) (Ap.lt o140 o189 (Nat.le_trans k158.size k161.size)) (ap_cons (rd_cap (Rd.of_own o407)) (Ap.lt o145 o189 (Nat.le_trans k158.size k161.size)) (ap_cons (rd_cap (Rd.of_own o408)) (Ap.lt o150 o189 (Nat.le_trans k158.size k161.size)) ap_nil)))))))
  have r428 := (Rd.mz ((((Rd.of_own o219).kp k230).kp k354).kp k398) l417 (ap_cons (rd_cap (Rd.of_own o403)) (Ap.lt o125 o194 (Nat.le_trans k158.size k161.size)) (ap_cons (rd_cap (Rd.of_own o404)) (Ap.lt o130 o194 (Nat.le_trans k158.size k161.size)) (ap_cons (rd_cap (Rd.of_own o405)) (Ap.lt o135 o194 (Nat.le_trans k158.size k161.size)) (ap_cons (rd_cap (Rd.of_own o406)) (Ap.lt o140 o194 (Nat.le_trans k158.size k161.size)) (ap_cons (rd_cap (Rd.of_own o407)) (Ap.lt o145 o194 (Nat.le_trans k158.size k161.size)) (ap_cons (rd_cap (Rd.of_own o408)) (Ap.lt o150 o194 (Nat.le_trans k158.size k161.size)) ap_nil)))))))
  have r429 := (Rd.mz ((((Rd.of_own o220).kp k230).kp k354).kp k398) l417 (ap_cons (rd_cap (Rd.of_own o403)) (Ap.lt o125 o199 (Nat.le_trans k158.size k161.size)) (ap_cons (rd_cap (Rd.of_own o404)) (Ap.lt o130 o199 (Nat.le_trans k158.size k161.size)) (ap_cons (rd_cap (Rd.of_own o405)) (Ap.lt o135 o199 (Nat.le_trans k158.size k161.size)) (ap_cons (rd_cap (Rd.of_own o406)) (Ap.lt o140 o199 (Nat.le_trans k158.size k161.size)) (ap_cons (rd_cap (Rd.of_own o407)) (Ap.lt o145 o199 (Nat.le_trans k158.size k161.size)) (ap_cons (rd_cap (Rd.of_own o408)) (Ap.lt o150 o199 (Nat.le_trans k158.size k161.size)) ap_nil)))))))
  have r430 := (Rd.mz ((((Rd.of_own o221).kp k230).kp k354).kp k398) l417 (ap_cons (rd_cap (Rd.of_own o403)) (Ap.lt o81 o125 (Nat.le_trans k114.size k117.size)).symm (ap_cons (rd_cap (Rd.of_own o404)) (Ap.lt o81 o130 (Nat.le_trans k114.size k117.size)).symm (ap_cons (rd_cap (Rd.of_own o405)) (Ap.lt o81 o135 (Nat.le_trans k114.size k117.size)).symm (ap_cons (rd_cap (Rd.of_own o406)) (Ap.lt o81 o140 (Nat.le_trans k114.size k117.size)).symm (ap_cons (rd_cap (Rd.of_own o407)) (Ap.lt o81 o145 (Nat.le_trans k114.size k117.size)).symm (ap_cons (rd_cap (Rd.of_own o408)) (Ap.lt o81 o150 (Nat.le_trans k114.size k117.size)).symm ap_nil)))))))
  have r431 := (Rd.mz ((((Rd.of_own o222).kp k230).kp k354).kp k398) l417 (ap_cons (rd_cap (Rd.of_own o403)) (Ap.lt o86 o125 (Nat.le_trans k114.size k117.size)).symm (ap_cons (rd_cap (Rd.of_own o404)) (Ap.lt o86 o130 (Nat.le_trans k114.size k117.size)).symm (ap_cons (rd_cap (Rd.of_own o405)) (Ap.lt o86 o135 (Nat.le_trans k114.size k117.size)).symm (ap_cons (rd_cap (Rd.of_own o406)) (Ap.lt o86 o140 (Nat.le_trans k114.size k117.size)).symm (ap_cons (rd_cap (Rd.of_own o407)) (Ap.lt o86 o145 (Nat.le_trans k114.size k117.size)).symm (ap_cons (rd_cap (Rd.of_own o408)) (Ap.lt o86 o150 (Nat.le_trans k114.size k117.size)).symm ap_nil)))))))
  have r432 := (Rd.mz ((((Rd.of_own o223).kp k230).kp k354).kp k398) l417 (ap_cons (rd_cap (Rd.of_own o403)) (Ap.lt o91 o125 (Nat.le_trans k114.size k117.size)).symm (ap_cons (rd_cap (Rd.of_own o404)) (Ap.lt o91 o130 (Nat.le_trans k114.size k117.size)).symm (ap_cons (rd_cap (Rd.of_own o405)) (Ap.lt o91 o135 (Nat.le_trans k114.size k117.size)).symm (ap_cons (rd_cap (Rd.of_own o406)) (Ap.lt o91 o140 (Nat.le_trans k114.size k117.size)).symm (ap_cons (rd_cap (Rd.of_own o407)) (Ap.lt o91 o145 (Nat.le_trans k114.size k117.size)).symm (ap_cons (rd_cap (Rd.of_own o408)) (Ap.lt o91 o150 (Nat.le_trans k114.size k117.size)).symm ap_nil)))))))
  have r433 := (Rd.mz ((((Rd.of_own o224).kp k230).kp k354).kp k398) l417 (ap_cons (rd_cap (Rd.of_own o403)) (Ap.lt o96 o125 (Nat.le_trans k114.size k117.size)).symm (ap_cons (rd_cap (Rd.of_own o404)) (Ap.lt o96 o130 (Nat.le_trans k114.size k117.size)).symm (ap_cons (rd_cap (Rd.of_own o405)) (Ap.lt o96 o135 (Nat.le_trans k114.size k117.size)).symm (ap_cons (rd_cap (Rd.of_own o406)) (Ap.lt o96 o140 (Nat.le_trans k114.size k117.size)).symm (ap_cons (rd_cap (Rd.of_own o407)) (Ap.lt o96 o145 (Nat.le_trans k114.size k117.size)).symm (ap_cons (rd_cap (Rd.of_own o408)) (Ap.lt o96 o150 (Nat.le_trans k114.size k117.size)).symm ap_nil)))))))
  have r434 := (Rd.mz ((((Rd.of_own o225).kp k230).kp k354).kp k398) l417 (ap_cons (rd_cap (Rd.of_own o403)) (Ap.lt o101 o125 (Nat.le_trans k114.size k117.size)).symm (ap_cons (rd_cap (Rd.of_own o404)) (Ap.lt o101 o130 (Nat.le_trans k114.size k117.size)).symm (ap_cons (rd_cap (Rd.of_own o405)) (Ap.lt o101 o135 (Nat.le_trans k114.size k117.size)).symm (ap_cons (rd_cap (Rd.of_own o406)) (Ap.lt o101 o140 (Nat.le_trans k114.size k117.size)).symm (ap_cons (rd_cap (Rd.of_own o407)) (Ap.lt o101 o145 (Nat.le_trans k114.size k117.size)).symm (ap_cons (rd_cap (Rd.of_own o408)) (Ap.lt o101 o150 (Nat.le_trans k114.size k117.size)).symm ap_nil)))))))
  have r435 := (Rd.mz ((((Rd.of_own o226).kp k230).kp k354).kp k398) l417 (ap_cons (rd_cap (Rd.of_own o403)) (Ap.lt o106 o125 (Nat.le_trans k114.size k117.size)).symm (ap_cons (rd_cap (Rd.of_own o404)) (Ap.lt o106 o130 (Nat.le_trans k114.size k117.size)).symm (ap_cons (rd_cap (Rd.of_own o405)) (Ap.lt o106 o135 (Nat.le_trans k114.size k117.size)).symm (ap_cons (rd_cap (Rd.of_own o406)) (Ap.lt o106 o140 (Nat.le_trans k114.size k117.size)).symm (ap_cons (rd_cap (Rd.of_own o407)) (Ap.lt o106 o145 (Nat.le_trans k114.size k117.size)).symm (ap_cons (rd_cap (Rd.of_own o408)) (Ap.lt o106 o150 (Nat.le_trans k114.size k117.size)).symm ap_nil)))))))
  have hc436 := C_laws_eqChan w16 _ ((F_impl_Want (F_laws_toChan x_aC)).1) (mR_38 r424 s175 r425 s180 r426 s185 r427 s190 r428 s195 r429 s200) _ ((F_spec_Want (F_laws_toChan x_aC)).1) (mR_38 r430 s82 r431 s87 r432 s92 r433 s97 r434 s102 r435 s107)
  rw [e229] at hc436
  refine cl (wS h418) hc436 ?_
  rintro _ w17 ⟨k437, rfl⟩
  have m438 := m416.extk k437
  refine pu (vb (!(y228))) (wS h418) ?_
  refine pf (vb (!(y228))) wN h418 ?_
  refine mv (vb (!(y228))) wN ?_
  refine mv (vb ((F_impl_Want (F_laws_toChan x_aC)).2)) (wS (congrArg not h232)) ?_
  refine mv (vb ((F_spec_Want (F_laws_toChan x_aC)).2)) (wS (congrArg not h232)) ?_
  refine pu (vb (!(((F_impl_Want (F_laws_toChan x_aC)).2) == ((F_spec_Want (F_laws_toChan x_aC)).2)))) (wS (congrArg not h232)) ?_
  refine pf (vb (!(((F_impl_Want (F_laws_toChan x_aC)).2) == ((F_spec_Want (F_laws_toChan x_aC)).2)))) wN (congrArg not h232) ?_
  refine wl_nil <| wq_then ?_
  refine cf (congrArg not h234) ?_
  refine wc_skip <| wq_then <| sr ?_
  refine ag (vi 1) wN ?_
  refine nx ?_
  have b439 := (b422.kp k437)
  refine lN (L_38 ((F_impl_Want (F_laws_toChan x_aC)).1) a172 c173 a177 c178 a182 c183 a187 c188 a192 c193 a197 c198) wN isAgg_38 sizeOf_38 b439 ?_
  refine mv (vi 1) wN ?_
  have r440 := (r424.kp k437)
  have r441 := (r425.kp k437)
  have r442 := (r426.kp k437)
  have r443 := (r427.kp k437)
  have r444 := (r428.kp k437)
  have r445 := (r429.kp k437)
  have wp446 : Wp w17 5 a172 (((F_impl_Want (F_laws_toChan x_aC)).1).Sn).length c173 _ 1 := (Wp.kp (Wp.mz (Wp.kp (Wp.kp (Wp.kp (Wp.of o215) k230) k354) k398) (rd_cap r440) l417 (ap_cons (rd_cap (Rd.of_own o403)) (Ap.lt o125 o174 (Nat.le_trans k158.size k161.size)) (ap_cons (rd_cap (Rd.of_own o404)) (Ap.lt o130 o174 (Nat.le_trans k158.size k161.size)) (ap_cons (rd_cap (Rd.of_own o405)) (Ap.lt o135 o174 (Nat.le_trans k158.size k161.size)) (ap_cons (rd_cap (Rd.of_own o406)) (Ap.lt o140 o174 (Nat.le_trans k158.size k161.size)) (ap_cons (rd_cap (Rd.of_own o407)) (Ap.lt o145 o174 (Nat.le_trans k158.size k161.size)) (ap_cons (rd_cap (Rd.of_own o408)) (Ap.lt o150 o174 (Nat.le_trans k158.size k161.size)) ap_nil))))))) k437)
  have wp447 : Wp w17 5 a177 ((((F_impl_Want (F_laws_toChan x_aC)).1).Cur).Key).length c178 _ 1 := (Wp.kp (Wp.mz (Wp.kp (Wp.kp (Wp.kp (Wp.of o216) k230) k354) k398) (rd_cap r441) l417 (ap_cons (rd_cap (Rd.of_own o403)) (Ap.lt o125 o179 (Nat.le_trans k158.size k161.size)) (ap_cons (rd_cap (Rd.of_own o404)) (Ap.lt o130 o179 (Nat.le_trans k158.size k161.size)) (ap_cons (rd_cap (Rd.of_own o405)) (Ap.lt o135 o179 (Nat.le_trans k158.size k161.size)) (ap_cons (rd_cap (Rd.of_own o406)) (Ap.lt o140 o179 (Nat.le_trans k158.size k161.size)) (ap_cons (rd_cap (Rd.of_own o407)) (Ap.lt o145 o179 (Nat.le_trans k158.size k161.size)) (ap_cons (rd_cap (Rd.of_own o408)) (Ap.lt o150 o179 (Nat.le_trans k158.size k161.size)) ap_nil))))))) k437)
  have wp448 : Wp w17 3 a182 (((((F_impl_Want (F_laws_toChan x_aC)).1).Cur).Win).Bits).length c183 _ 1 := (Wp.kp (Wp.mz (Wp.kp (Wp.kp (Wp.kp (Wp.of o217) k230) k354) k398) (rd_cap r442) l417 (ap_cons (rd_cap (Rd.of_own o403)) (Ap.lt o125 o184 (Nat.le_trans k158.size k161.size)) (ap_cons (rd_cap (Rd.of_own o404)) (Ap.lt o130 o184 (Nat.le_trans k158.size k161.size)) (ap_cons (rd_cap (Rd.of_own o405)) (Ap.lt o135 o184 (Nat.le_trans k158.size k161.size)) (ap_cons (rd_cap (Rd.of_own o406)) (Ap.lt o140 o184 (Nat.le_trans k158.size k161.size)) (ap_cons (rd_cap (Rd.of_own o407)) (Ap.lt o145 o184 (Nat.le_trans k158.size k161.size)) (ap_cons (rd_cap (Rd.of_own o408)) (Ap.lt o150 o184 (Nat.le_trans k158.size k161.size)) ap_nil))))))) k437)
  have wp449 : Wp w17 5 a187 ((((F_impl_Want (F_laws_toChan x_aC)).1).Old).Key).length c188 _ 1 := (Wp.kp (Wp.mz (Wp.kp (Wp.kp (Wp.kp (Wp.of o218) k230) k354) k398) (rd_cap r443) l417 (ap_cons (rd_cap (Rd.of_own o403)) (Ap.lt o125 o189 (Nat.le_trans k158.size k161.size)) (ap_cons (rd_cap (Rd.of_own o404)) (Ap.lt o130 o189 (Nat.le_trans k158.size k161.size)) (ap_cons (rd_cap (Rd.of_own o405)) (Ap.lt o135 o189 (Nat.le_trans k158.size k161.size)) (ap_cons (rd_cap (Rd.of_own o406)) (Ap.lt o140 o189 (Nat.le_trans k158.size k161.size)) (ap_cons (rd_cap (Rd.of_own o407)) (Ap.lt o145 o189 (Nat.le_trans k158.size k161.size)) (ap_cons (rd_cap (Rd.of_own o408)) (Ap.lt o150 o189 (Nat.le_trans k158.size k161.size)) ap_nil))))))) k437)
  have wp450 : Wp w17 3 a192 (((((F_impl_Want (F_laws_toChan x_aC)).1).Old).Win).Bits).length c193 _ 1 := (Wp.kp (Wp.mz (Wp.kp (Wp.kp (Wp.kp (Wp.of o219) k230) k354) k398) (rd_cap r444) l417 (ap_cons (rd_cap (Rd.of_own o403)) (Ap.lt o125 o194 (Nat.le_trans k158.size k161.size)) (ap_cons (rd_cap (Rd.of_own o404)) (Ap.lt o130 o194 (Nat.le_trans k158.size k161.size)) (ap_cons (rd_cap (Rd.of_own o405)) (Ap.lt o135 o194 (Nat.le_trans k158.size k161.size)) (ap_cons (rd_cap (Rd.of_own o406)) (Ap.lt o140 o194 (Nat.le_trans k158.size k161.size)) (ap_cons (rd_cap (Rd.of_own o407)) (Ap.lt o145 o194 (Nat.le_trans k158.size k161.size)) (ap_cons (rd_cap (Rd.of_own o408)) (Ap.lt o150 o194 (Nat.le_trans k158.size k161.size)) ap_nil))))))) k437)
  have wp451 : Wp w17 5 a197 (((F_impl_Want (F_laws_toChan x_aC)).1).Next).length c198 _ 1 := (Wp.kp (Wp.mz (Wp.kp (Wp.kp (Wp.kp (Wp.of o220) k230) k354) k398) (rd_cap r445) l417 (ap_cons (rd_cap (Rd.of_own o403)) (Ap.lt o125 o199 (Nat.le_trans k158.size k161.size)) (ap_cons (rd_cap (Rd.of_own o404)) (Ap.lt o130 o199 (Nat.le_trans k158.size k161.size)) (ap_cons (rd_cap (Rd.of_own o405)) (Ap.lt o135 o199 (Nat.le_trans k158.size k161.size)) (ap_cons (rd_cap (Rd.of_own o406)) (Ap.lt o140 o199 (Nat.le_trans k158.size k161.size)) (ap_cons (rd_cap (Rd.of_own o407)) (Ap.lt o145 o199 (Nat.le_trans k158.size k161.size)) (ap_cons (rd_cap (Rd.of_own o408)) (Ap.lt o150 o199 (Nat.le_trans k158.size k161.size)) ap_nil))))))) k437)
  refine cl wN (C_laws_markChan w17 a172 c173 a177 c178 a182 c183 a187 c188 a192 c193 a197 c198 ((F_impl_Want (F_laws_toChan x_aC)).1) 1 (by omega) (by omega) s175 r440 wp446 s180 r441 wp447 s185 r442 wp448 s190 r443 wp449 s195 r444 wp450 s200 r445 wp451 ⟨⟨(ap202.1.1), ⟨(ap202.1.2.1), ⟨(ap202.1.2.2.1), ⟨(ap202.1.2.2.2.1), ⟨(ap202.1.2.2.2.2.1), trivial⟩⟩⟩⟩⟩, ⟨⟨(ap202.2.1.1), ⟨(ap202.2.1.2.1), ⟨(ap202.2.1.2.2.1), ⟨(ap202.2.1.2.2.2.1), trivial⟩⟩⟩⟩, ⟨⟨(ap202.2.2.1.1), ⟨(ap202.2.2.1.2.1), ⟨(ap202.2.2.1.2.2.1), trivial⟩⟩⟩, ⟨⟨(ap202.2.2.2.1.1), ⟨(ap202.2.2.2.1.2.1), trivial⟩⟩, ⟨⟨(ap202.2.2.2.2.1.1), trivial⟩, ⟨trivial, trivial⟩⟩⟩⟩⟩⟩) ?_
  rintro _ w18 ⟨rfl, k452, r453, r454, r455, r456, r457, r458⟩
  have m459 := m438.ext k452 (fun k hk => ms_ge (ms_ge_cons (fun hn x hx => Nat.le_trans (t9 k34.size k37.size k45.size k78.size k114.size k117.size k122.size k158.size k161.size) (own_lt o174 x.block (by rw [hx]; rfl)).1) (ms_ge_cons (fun hn x hx => Nat.le_trans (t9 k34.size k37.size k45.size k78.size k114.size k117.size k122.size k158.size k161.size) (own_lt o179 x.block (by rw [hx]; rfl)).1) (ms_ge_cons (fun hn x hx => Nat.le_trans (t9 k34.size k37.size k45.size k78.size k114.size k117.size k122.size k158.size k161.size) (own_lt o184 x.block (by rw [hx]; rfl)).1) (ms_ge_cons (fun hn x hx => Nat.le_trans (t9 k34.size k37.size k45.size k78.size k114.size k117.size k122.size k158.size k161.size) (own_lt o189 x.block (by rw [hx]; rfl)).1) (ms_ge_cons (fun hn x hx => Nat.le_trans (t9 k34.size k37.size k45.size k78.size k114.size k117.size k122.size k158.size k161.size) (own_lt o194 x.block (by rw [hx]; rfl)).1) (ms_ge_cons (fun hn x hx => Nat.le_trans (t9 k34.size k37.size k45.size k78.size k114.size k117.size k122.size k158.size k161.size) (own_lt o199 x.block (by rw [hx]; rfl)).1) ms_ge_nil)))))) hk)
  have l460 : Ch (MS (([(a172, (((F_impl_Want (F_laws_toChan x_aC)).1).Sn).length, c173), (a177, ((((F_impl_Want (F_laws_toChan x_aC)).1).Cur).Key).length, c178), (a182, (((((F_impl_Want (F_laws_toChan x_aC)).1).Cur).Win).Bits).length, c183), (a187, ((((F_impl_Want (F_laws_toChan x_aC)).1).Old).Key).length, c188), (a192, (((((F_impl_Want (F_laws_toChan x_aC)).1).Old).Win).Bits).length, c193), (a197, (((F_impl_Want (F_laws_toChan x_aC)).1).Next).length, c198)] : List (Option Addr × Nat × Nat)).map fun p => (p.1, p.2.1))) w17 w18 := k452
  refine ag (vi ((((((1 + ((((F_impl_Want (F_laws_toChan x_aC)).1).Sn).length : Int)) + (((((F_impl_Want (F_laws_toChan x_aC)).1).Cur).Key).length : Int)) + ((((((F_impl_Want (F_laws_toChan x_aC)).1).Cur).Win).Bits).length : Int)) + (((((F_impl_Want (F_laws_toChan x_aC)).1).Old).Key).length : Int)) + ((((((F_impl_Want (F_laws_toChan x_aC)).1).Old).Win).Bits).length : Int)) + ((((F_impl_Want (F_laws_toChan x_aC)).1).Next).length : Int))) wN ?_
  refine nx ?_
  refine ag (vi 1) wN ?_
  refine nx ?_
  have b461 := (b439.ch k452 (ms_lo (ms_lo_cons (fun hn x hx hb => by have := (own_lt o174 x.block (by rw [hx]; rfl)).2; have := Nat.le_trans (Nat.le_refl w10.heap.size) p205; omega) (ms_lo_cons (fun hn x hx hb => by have := (own_lt o179 x.block (by rw [hx]; rfl)).2; have := Nat.le_trans (Nat.le_refl w10.heap.size) p205; omega) (ms_lo_cons (fun hn x hx hb => by have := (own_lt o184 x.block (by rw [hx]; rfl)).2; have := Nat.le_trans (Nat.le_refl w10.heap.size) p205; omega) (ms_lo_cons (fun hn x hx hb => by have := (own_lt o189 x.block (by rw [hx]; rfl)).2; have := Nat.le_trans (Nat.le_refl w10.heap.size) p205; omega) (ms_lo_cons (fun hn x hx hb => by have := (own_lt o194 x.block (by rw [hx]; rfl)).2; have := Nat.le_trans (Nat.le_refl w10.heap.size) p205; omega) (ms_lo_cons (fun hn x hx hb => by have := (own_lt o199 x.block (by rw [hx]; rfl)).2; have := Nat.le_trans (Nat.le_refl w10.heap.size) p205; omega) ms_lo_nil))))))))
  refine lN [(vi (((F_impl_Want (F_laws_toChan x_aC)).1).Role)), (vs a172 (((F_impl_Want (F_laws_toChan x_aC)).1).Sn).length c173), (vi ((((F_impl_Want (F_laws_toChan x_aC)).1).Cur).N)), (vs a177 ((((F_impl_Want (F_laws_toChan x_aC)).1).Cur).Key).length c178), (vi ((((F_impl_Want (F_laws_toChan x_aC)).1).Cur).Seq)), (vi (((((F_impl_Want (F_laws_toChan x_aC)).1).Cur).Win).Top)), (vs a182 (((((F_impl_Want (F_laws_toChan x_aC)).1).Cur).Win).Bits).length c183), (vi ((((F_impl_Want (F_laws_toChan x_aC)).1).Old).N)), (vs a187 ((((F_impl_Want (F_laws_toChan x_aC)).1).Old).Key).length c188), (vi ((((F_impl_Want (F_laws_toChan x_aC)).1).Old).Seq)), (vi (((((F_impl_Want (F_laws_toChan x_aC)).1).Old).Win).Top)), (vs a192 (((((F_impl_Want (F_laws_toChan x_aC)).1).Old).Win).Bits).length c193), (vb (((F_impl_Want (F_laws_toChan x_aC)).1).HasOld)), (vi (((F_impl_Want (F_laws_toChan x_aC)).1).Until)), (vs a197 (((F_impl_Want (F_laws_toChan x_aC)).1).Next).length c198)] wN isAgg_38 sizeOf_38 b461 ?_
  refine mv (vi 1) wN ?_
  obtain ⟨y463, e464⟩ : ∃ y, F_laws_heldChan { Role := ((F_impl_Want (F_laws_toChan x_aC)).1).Role, Sn := (marksB 1 (((F_impl_Want (F_laws_toChan x_aC)).1).Sn).length), Cur := { N := (((F_impl_Want (F_laws_toChan x_aC)).1).Cur).N, Key := (marksB (1 + ((((F_impl_Want (F_laws_toChan x_aC)).1).Sn).length : Int)) ((((F_impl_Want (F_laws_toChan x_aC)).1).Cur).Key).length), Seq := (((F_impl_Want (F_laws_toChan x_aC)).1).Cur).Seq, Win := { Top := ((((F_impl_Want (F_laws_toChan x_aC)).1).Cur).Win).Top, Bits := (marksI ((1 + ((((F_impl_Want (F_laws_toChan x_aC)).1).Sn).length : Int)) + (((((F_impl_Want (F_laws_toChan x_aC)).1).Cur).Key).length : Int)) (((((F_impl_Want (F_laws_toChan x_aC)).1).Cur).Win).Bits).length) : PWin } : PEp }, Old := { N := (((F_impl_Want (F_laws_toChan x_aC)).1).Old).N, Key := (marksB (((1 + ((((F_impl_Want (F_laws_toChan x_aC)).1).Sn).length : Int)) + (((((F_impl_Want (F_laws_toChan x_aC)).1).Cur).Key).length : Int)) + ((((((F_impl_Want (F_laws_toChan x_aC)).1).Cur).Win).Bits).length : Int)) ((((F_impl_Want (F_laws_toChan x_aC)).1).Old).Key).length), Seq := (((F_impl_Want (F_laws_toChan x_aC)).1).Old).Seq, Win := { Top := ((((F_impl_Want (F_laws_toChan x_aC)).1).Old).Win).Top, Bits := (marksI ((((1 + ((((F_impl_Want (F_laws_toChan x_aC)).1).Sn).length : Int)) + (((((F_impl_Want (F_laws_toChan x_aC)).1).Cur).Key).length : Int)) + ((((((F_impl_Want (F_laws_toChan x_aC)).1).Cur).Win).Bits).length : Int)) + (((((F_impl_Want (F_laws_toChan x_aC)).1).Old).Key).length : Int)) (((((F_impl_Want (F_laws_toChan x_aC)).1).Old).Win).Bits).length) : PWin } : PEp }, HasOld := ((F_impl_Want (F_laws_toChan x_aC)).1).HasOld, Until := ((F_impl_Want (F_laws_toChan x_aC)).1).Until, Next := (marksB (((((1 + ((((F_impl_Want (F_laws_toChan x_aC)).1).Sn).length : Int)) + (((((F_impl_Want (F_laws_toChan x_aC)).1).Cur).Key).length : Int)) + ((((((F_impl_Want (F_laws_toChan x_aC)).1).Cur).Win).Bits).length : Int)) + (((((F_impl_Want (F_laws_toChan x_aC)).1).Old).Key).length : Int)) + ((((((F_impl_Want (F_laws_toChan x_aC)).1).Old).Win).Bits).length : Int)) (((F_impl_Want (F_laws_toChan x_aC)).1).Next).length) : PChan } 1 = y := ⟨_, rfl⟩
  have hc462 := C_laws_heldChan w18 _ _ (show R_38 w18 (va [(vi (((F_impl_Want (F_laws_toChan x_aC)).1).Role)), (vs a172 (((F_impl_Want (F_laws_toChan x_aC)).1).Sn).length c173), (vi ((((F_impl_Want (F_laws_toChan x_aC)).1).Cur).N)), (vs a177 ((((F_impl_Want (F_laws_toChan x_aC)).1).Cur).Key).length c178), (vi ((((F_impl_Want (F_laws_toChan x_aC)).1).Cur).Seq)), (vi (((((F_impl_Want (F_laws_toChan x_aC)).1).Cur).Win).Top)), (vs a182 (((((F_impl_Want (F_laws_toChan x_aC)).1).Cur).Win).Bits).length c183), (vi ((((F_impl_Want (F_laws_toChan x_aC)).1).Old).N)), (vs a187 ((((F_impl_Want (F_laws_toChan x_aC)).1).Old).Key).length c188), (vi ((((F_impl_Want (F_laws_toChan x_aC)).1).Old).Seq)), (vi (((((F_impl_Want (F_laws_toChan x_aC)).1).Old).Win).Top)), (vs a192 (((((F_impl_Want (F_laws_toChan x_aC)).1).Old).Win).Bits).length c193), (vb (((F_impl_Want (F_laws_toChan x_aC)).1).HasOld)), (vi (((F_impl_Want (F_laws_toChan x_aC)).1).Until)), (vs a197 (((F_impl_Want (F_laws_toChan x_aC)).1).Next).length c198)]) { Role := ((F_impl_Want (F_laws_toChan x_aC)).1).Role, Sn := (marksB 1 (((F_impl_Want (F_laws_toChan x_aC)).1).Sn).length), Cur := { N := (((F_impl_Want (F_laws_toChan x_aC)).1).Cur).N, Key := (marksB (1 + ((((F_impl_Want (F_laws_toChan x_aC)).1).Sn).length : Int)) ((((F_impl_Want (F_laws_toChan x_aC)).1).Cur).Key).length), Seq := (((F_impl_Want (F_laws_toChan x_aC)).1).Cur).Seq, Win := { Top := ((((F_impl_Want (F_laws_toChan x_aC)).1).Cur).Win).Top, Bits := (marksI ((1 + ((((F_impl_Want (F_laws_toChan x_aC)).1).Sn).length : Int)) + (((((F_impl_Want (F_laws_toChan x_aC)).1).Cur).Key).length : Int)) (((((F_impl_Want (F_laws_toChan x_aC)).1).Cur).Win).Bits).length) : PWin } : PEp }, Old := { N := (((F_impl_Want (F_laws_toChan x_aC)).1).Old).N, Key := (marksB (((1 + ((((F_impl_Want (F_laws_toChan x_aC)).1).Sn).length : Int)) + (((((F_impl_Want (F_laws_toChan x_aC)).1).Cur).Key).length : Int)) + ((((((F_impl_Want (F_laws_toChan x_aC)).1).Cur).Win).Bits).length : Int)) ((((F_impl_Want (F_laws_toChan x_aC)).1).Old).Key).length), Seq := (((F_impl_Want (F_laws_toChan x_aC)).1).Old).Seq, Win := { Top := ((((F_impl_Want (F_laws_toChan x_aC)).1).Old).Win).Top, Bits := (marksI ((((1 + ((((F_impl_Want (F_laws_toChan x_aC)).1).Sn).length : Int)) + (((((F_impl_Want (F_laws_toChan x_aC)).1).Cur).Key).length : Int)) + ((((((F_impl_Want (F_laws_toChan x_aC)).1).Cur).Win).Bits).length : Int)) + (((((F_impl_Want (F_laws_toChan x_aC)).1).Old).Key).length : Int)) (((((F_impl_Want (F_laws_toChan x_aC)).1).Old).Win).Bits).length) : PWin } : PEp }, HasOld := ((F_impl_Want (F_laws_toChan x_aC)).1).HasOld, Until := ((F_impl_Want (F_laws_toChan x_aC)).1).Until, Next := (marksB (((((1 + ((((F_impl_Want (F_laws_toChan x_aC)).1).Sn).length : Int)) + (((((F_impl_Want (F_laws_toChan x_aC)).1).Cur).Key).length : Int)) + ((((((F_impl_Want (F_laws_toChan x_aC)).1).Cur).Win).Bits).length : Int)) + (((((F_impl_Want (F_laws_toChan x_aC)).1).Old).Key).length : Int)) + ((((((F_impl_Want (F_laws_toChan x_aC)).1).Old).Win).Bits).length : Int)) (((F_impl_Want (F_laws_toChan x_aC)).1).Next).length) : PChan } from ⟨a172, c173, a177, c178, a182, c183, a187, c188, a192, c193, a197, c198, by simp only [marksB_len, marksI_len, marksL_len, marksE_len], by simpa only [marksB_len, marksI_len, marksL_len, marksE_len] using r453, by simp only [marksB_len, marksI_len, marksL_len, marksE_len]; first | exact s175 | omega, by simpa only [marksB_len, marksI_len, marksL_len, marksE_len] using r454, by simp only [marksB_len, marksI_len, marksL_len, marksE_len]; first | exact s180 | omega, by simpa only [marksB_len, marksI_len, marksL_len, marksE_len] using r455, by simp only [marksB_len, marksI_len, marksL_len, marksE_len]; first | exact s185 | omega, by simpa only [marksB_len, marksI_len, marksL_len, marksE_len] using r456, by simp only [marksB_len, marksI_len, marksL_len, marksE_len]; first | exact s190 | omega, by simpa only [marksB_len, marksI_len, marksL_len, marksE_len] using r457, by simp only [marksB_len, marksI_len, marksL_len, marksE_len]; first | exact s195 | omega, by simpa only [marksB_len, marksI_len, marksL_len, marksE_len] using r458, by simp only [marksB_len, marksI_len, marksL_len, marksE_len]; first | exact s200 | omega⟩) 1 (by omega) (by omega)
  rw [e464] at hc462
  refine cl wN hc462 ?_
  rintro _ w19 ⟨k465, rfl⟩
  have m466 := m459.extk k465
  have q467 := laws_heldChan_le { Role := ((F_impl_Want (F_laws_toChan x_aC)).1).Role, Sn := (marksB 1 (((F_impl_Want (F_laws_toChan x_aC)).1).Sn).length), Cur := { N := (((F_impl_Want (F_laws_toChan x_aC)).1).Cur).N, Key := (marksB (1 + ((((F_impl_Want (F_laws_toChan x_aC)).1).Sn).length : Int)) ((((F_impl_Want (F_laws_toChan x_aC)).1).Cur).Key).length), Seq := (((F_impl_Want (F_laws_toChan x_aC)).1).Cur).Seq, Win := { Top := ((((F_impl_Want (F_laws_toChan x_aC)).1).Cur).Win).Top, Bits := (marksI ((1 + ((((F_impl_Want (F_laws_toChan x_aC)).1).Sn).length : Int)) + (((((F_impl_Want (F_laws_toChan x_aC)).1).Cur).Key).length : Int)) (((((F_impl_Want (F_laws_toChan x_aC)).1).Cur).Win).Bits).length) : PWin } : PEp }, Old := { N := (((F_impl_Want (F_laws_toChan x_aC)).1).Old).N, Key := (marksB (((1 + ((((F_impl_Want (F_laws_toChan x_aC)).1).Sn).length : Int)) + (((((F_impl_Want (F_laws_toChan x_aC)).1).Cur).Key).length : Int)) + ((((((F_impl_Want (F_laws_toChan x_aC)).1).Cur).Win).Bits).length : Int)) ((((F_impl_Want (F_laws_toChan x_aC)).1).Old).Key).length), Seq := (((F_impl_Want (F_laws_toChan x_aC)).1).Old).Seq, Win := { Top := ((((F_impl_Want (F_laws_toChan x_aC)).1).Old).Win).Top, Bits := (marksI ((((1 + ((((F_impl_Want (F_laws_toChan x_aC)).1).Sn).length : Int)) + (((((F_impl_Want (F_laws_toChan x_aC)).1).Cur).Key).length : Int)) + ((((((F_impl_Want (F_laws_toChan x_aC)).1).Cur).Win).Bits).length : Int)) + (((((F_impl_Want (F_laws_toChan x_aC)).1).Old).Key).length : Int)) (((((F_impl_Want (F_laws_toChan x_aC)).1).Old).Win).Bits).length) : PWin } : PEp }, HasOld := ((F_impl_Want (F_laws_toChan x_aC)).1).HasOld, Until := ((F_impl_Want (F_laws_toChan x_aC)).1).Until, Next := (marksB (((((1 + ((((F_impl_Want (F_laws_toChan x_aC)).1).Sn).length : Int)) + (((((F_impl_Want (F_laws_toChan x_aC)).1).Cur).Key).length : Int)) + ((((((F_impl_Want (F_laws_toChan x_aC)).1).Cur).Win).Bits).length : Int)) + (((((F_impl_Want (F_laws_toChan x_aC)).1).Old).Key).length : Int)) + ((((((F_impl_Want (F_laws_toChan x_aC)).1).Old).Win).Bits).length : Int)) (((F_impl_Want (F_laws_toChan x_aC)).1).Next).length) : PChan } 1
  try rw [e464] at q467
  refine ag (vi (y463)) wN ?_
  refine wl_nil <| wq_then <| wc_seq <| sr ?_
  refine mv (vi (y463)) wN ?_
  refine pu (vb (decide ((y463) < 0))) wN ?_
  refine wl_nil <| wq_then ?_
  rcases bt (decide ((y463) < 0)) with h468 | h468
  ·have q469 := of_decide_eq_true h468
   refine ct h468 ?_
   refine sr ?_
   refine ag (vb false) wN ?_
   refine wl_nil <| wq_then <| wc_ret <| wq_then_ret ?_
   refine ret_1 (.inl rfl) (vb false) rfl rfl ?_
   refine ⟨m466.keep0, ?_⟩
   have hF470 : F_laws_FnExactWant x_aC = false := by simp only [F_laws_FnExactWant, h40, e229, h232, h234, e397, h400, h418, e464, h468, cond_true, cond_false]
   rw [hF470]
   exact rfl
  have q471 := of_decide_eq_false h468
  refine cf h468 ?_
  refine wc_skip <| wq_then <| wc_seq <| sr ?_
  refine mv (vi (y463)) wN ?_
  refine mv (vi ((((((1 + ((((F_impl_Want (F_laws_toChan x_aC)).1).Sn).length : Int)) + (((((F_impl_Want (F_laws_toChan x_aC)).1).Cur).Key).length : Int)) + ((((((F_impl_Want (F_laws_toChan x_aC)).1).Cur).Win).Bits).length : Int)) + (((((F_impl_Want (F_laws_toChan x_aC)).1).Old).Key).length : Int)) + ((((((F_impl_Want (F_laws_toChan x_aC)).1).Old).Win).Bits).length : Int)) + ((((F_impl_Want (F_laws_toChan x_aC)).1).Next).length : Int))) wN ?_
  refine pu (vb (!(decide ((y463) = ((((((1 + ((((F_impl_Want (F_laws_toChan x_aC)).1).Sn).length : Int)) + (((((F_impl_Want (F_laws_toChan x_aC)).1).Cur).Key).length : Int)) + ((((((F_impl_Want (F_laws_toChan x_aC)).1).Cur).Win).Bits).length : Int)) + (((((F_impl_Want (F_laws_toChan x_aC)).1).Old).Key).length : Int)) + ((((((F_impl_Want (F_laws_toChan x_aC)).1).Old).Win).Bits).length : Int)) + ((((F_impl_Want (F_laws_toChan x_aC)).1).Next).length : Int)))))) wN ?_
  refine wl_nil <| wq_then ?_
  rcases bf (decide ((y463) = ((((((1 + ((((F_impl_Want (F_laws_toChan x_aC)).1).Sn).length : Int)) + (((((F_impl_Want (F_laws_toChan x_aC)).1).Cur).Key).length : Int)) + ((((((F_impl_Want (F_laws_toChan x_aC)).1).Cur).Win).Bits).length : Int)) + (((((F_impl_Want (F_laws_toChan x_aC)).1).Old).Key).length : Int)) + ((((((F_impl_Want (F_laws_toChan x_aC)).1).Old).Win).Bits).length : Int)) + ((((F_impl_Want (F_laws_toChan x_aC)).1).Next).length : Int)))) with h472 | h472
  ·have q579 := of_decide_eq_false h472
   refine ct (congrArg not h472) ?_
   refine sr ?_
   refine ag (vb false) wN ?_
   refine wl_nil <| wq_then <| wc_ret <| wq_then_ret ?_
   refine ret_1 (.inl rfl) (vb false) rfl rfl ?_
   refine ⟨m466.keep0, ?_⟩
   have hF580 : F_laws_FnExactWant x_aC = false := by simp only [F_laws_FnExactWant, h40, e229, h232, h234, e397, h400, h418, e464, h468, h472, cond_true, cond_false]
   rw [hF580]
   exact rfl
  have q473 := of_decide_eq_true h472
  refine cf (congrArg not h472) ?_
  refine wc_skip <| wq_then <| sr ?_
  have b474 := (((((((((((((b121.kp k122).kp k158).ch k161 (Nat.ne_of_lt (Nat.lt_of_lt_of_le p33 (Nat.le_trans (t6 k37.size k45.size k78.size k114.size k117.size k122.size) p156)))).kp k171).kp k207).ch k210 (Nat.ne_of_lt (Nat.lt_of_lt_of_le p33 (Nat.le_trans (t9 k37.size k45.size k78.size k114.size k117.size k122.size k158.size k161.size k171.size) p205)))).kp k230).kp k354).kp k398).ch k409 (ms_lo (ms_lo_cons (fun hn x hx hb => by have := (own_lt o125 x.block (by rw [hx]; rfl)).1; have := Nat.lt_of_lt_of_le p33 (t5 k37.size k45.size k78.size k114.size k117.size); omega) (ms_lo_cons (fun hn x hx hb => by have := (own_lt o130 x.block (by rw [hx]; rfl)).1; have := Nat.lt_of_lt_of_le p33 (t5 k37.size k45.size k78.size k114.size k117.size); omega) (ms_lo_cons (fun hn x hx hb => by have := (own_lt o135 x.block (by rw [hx]; rfl)).1; have := Nat.lt_of_lt_of_le p33 (t5 k37.size k45.size k78.size k114.size k117.size); omega) (ms_lo_cons (fun hn x hx hb => by have := (own_lt o140 x.block (by rw [hx]; rfl)).1; have := Nat.lt_of_lt_of_le p33 (t5 k37.size k45.size k78.size k114.size k117.size); omega) (ms_lo_cons (fun hn x hx hb => by have := (own_lt o145 x.block (by rw [hx]; rfl)).1; have := Nat.lt_of_lt_of_le p33 (t5 k37.size k45.size k78.size k114.size k117.size); omega) (ms_lo_cons (fun hn x hx hb => by have := (own_lt o150 x.block (by rw [hx]; rfl)).1; have := Nat.lt_of_lt_of_le p33 (t5 k37.size k45.size k78.size k114.size k117.size); omega) ms_lo_nil)))))))).kp k437).ch k452 (ms_lo (ms_lo_cons (fun hn x hx hb => by have := (own_lt o174 x.block (by rw [hx]; rfl)).1; have := Nat.lt_of_lt_of_le p33 (t8 k37.size k45.size k78.size k114.size k117.size k122.size k158.size k161.size); omega) (ms_lo_cons (fun hn x hx hb => by have := (own_lt o179 x.block (by rw [hx]; rfl)).1; have := Nat.lt_of_lt_of_le p33 (t8 k37.size k45.size k78.size k114.size k117.size k122.size k158.size k161.size); omega) (ms_lo_cons (fun hn x hx hb => by have := (own_lt o184 x.block (by rw [hx]; rfl)).1; have := Nat.lt_of_lt_of_le p33 (t8 k37.size k45.size k78.size k114.size k117.size k122.size k158.size k161.size); omega) (ms_lo_cons (fun hn x hx hb => by have := (own_lt o189 x.block (by rw [hx]; rfl)).1; have := Nat.lt_of_lt_of_le p33 (t8 k37.size k45.size k78.size k114.size k117.size k122.size k158.size k161.size); omega) (ms_lo_cons (fun hn x hx hb => by have := (own_lt o194 x.block (by rw [hx]; rfl)).1; have := Nat.lt_of_lt_of_le p33 (t8 k37.size k45.size k78.size k114.size k117.size k122.size k158.size k161.size); omega) (ms_lo_cons (fun hn x hx hb => by have := (own_lt o199 x.block (by rw [hx]; rfl)).1; have := Nat.lt_of_lt_of_le p33 (t8 k37.size k45.size k78.size k114.size k117.size k122.size k158.size k161.size); omega) ms_lo_nil)))))))).kp k465)
  refine lN (L_38 x_aC a1 c2 a6 c7 a11 c12 a16 c17 a21 c22 a26 c27) wN isAgg_50 sizeOf_50 b474 ?_
  refine cl wN (C_laws_toChan w19 _ x_aC (mR_50 (r3.from0 m466) (by omega) (r8.from0 m466) (by omega) (r13.from0 m466) (by omega) (r18.from0 m466) (by omega) (r23.from0 m466) (by omega) (r28.from0 m466) (by omega))) ?_
  rintro _ w20 ⟨k475, ⟨a476, c477, a481, c482, a486, c487, a491, c492, a496, c497, a501, c502, rfl, o478, s479, o483, s484, o488, s489, o493, s494, o498, s499, o503, s504, ap506⟩⟩
  have m507 := m466.extk k475
  refine cl wN (C_impl_Want w20 _ (F_laws_toChan x_aC) (mR_38 (Rd.of_own o478) s479 (Rd.of_own o483) s484 (Rd.of_own o488) s489 (Rd.of_own o493) s494 (Rd.of_own o498) s499 (Rd.of_own o503) s504)) ?_
  rintro _ w21 ⟨k508, ⟨a509, c510, a514, c515, a519, c520, a524, c525, a529, c530, a534, c535, rfl, o511, s512, o516, s517, o521, s522, o526, s527, o531, s532, o536, s537, ap539⟩⟩
  have m540 := m507.extk k508
  refine mv (.tuple #[(va (L_38 ((F_impl_Want (F_laws_toChan x_aC)).1) a509 c510 a514 c515 a519 c520 a524 c525 a529 c530 a534 c535)), (vb ((F_impl_Want (F_laws_toChan x_aC)).2))]) wN ?_
  refine pu (va (L_38 ((F_impl_Want (F_laws_toChan x_aC)).1) a509 c510 a514 c515 a519 c520 a524 c525 a529 c530 a534 c535)) wN ?_
  refine pu (vb ((F_impl_Want (F_laws_toChan x_aC)).2)) wN ?_
  refine al [(vi 0), (vs none 0 0), (vi 0), (vs none 0 0), (vi 0), (vi 0), (vs none 0 0), (vi 0), (vs none 0 0), (vi 0), (vi 0), (vs none 0 0), (vb false), (vi 0), (vs none 0 0)] wN zero_38 ?_
  intro g541 w22 p542 p543 k544 b545
  have m546 := m540.extk k544
  refine st (va (L_38 ((F_impl_Want (F_laws_toChan x_aC)).1) a509 c510 a514 c515 a519 c520 a524 c525 a529 c530 a534 c535)) (L_38 ((F_impl_Want (F_laws_toChan x_aC)).1) a509 c510 a514 c515 a519 c520 a524 c525 a529 c530 a534 c535) (L_38 ((F_impl_Want (F_laws_toChan x_aC)).1) a509 c510 a514 c515 a519 c520 a524 c525 a529 c530 a534 c535) wN sizeOf_38 b545 ?_
  intro w23 k547 b548 z549
  have m550 := m546.ext k547 (fun k hk => by subst hk; exact Nat.le_trans (t10 (t12 k34.size k37.size k45.size k78.size k114.size k117.size k122.size k158.size k161.size k171.size k207.size k210.size) k230.size k354.size k398.size k409.size k437.size k452.size k465.size k475.size k508.size) p542)
  refine ag (vb ((F_impl_Want (F_laws_toChan x_aC)).2)) wN ?_
  refine wl_nil <| wq_then <| wc_seq <| sr ?_
  refine lN (L_38 ((F_impl_Want (F_laws_toChan x_aC)).1) a509 c510 a514 c515 a519 c520 a524 c525 a529 c530 a534 c535) wN isAgg_38 sizeOf_38 b548 ?_
  have b551 := (((((((b423.kp k437).ch k452 (ms_lo (ms_lo_cons (fun hn x hx hb => by have := (own_lt o174 x.block (by rw [hx]; rfl)).1; have := Nat.lt_of_lt_of_le p113 (t4 k117.size k122.size k158.size k161.size); omega) (ms_lo_cons (fun hn x hx hb => by have := (own_lt o179 x.block (by rw [hx]; rfl)).1; have := Nat.lt_of_lt_of_le p113 (t4 k117.size k122.size k158.size k161.size); omega) (ms_lo_cons (fun hn x hx hb => by have := (own_lt o184 x.block (by rw [hx]; rfl)).1; have := Nat.lt_of_lt_of_le p113 (t4 k117.size k122.size k158.size k161.size); omega) (ms_lo_cons (fun hn x hx hb => by have := (own_lt o189 x.block (by rw [hx]; rfl)).1; have := Nat.lt_of_lt_of_le p113 (t4 k117.size k122.size k158.size k161.size); omega) (ms_lo_cons (fun hn x hx hb => by have := (own_lt o194 x.block (by rw [hx]; rfl)).1; have := Nat.lt_of_lt_of_le p113 (t4 k117.size k122.size k158.size k161.size); omega) (ms_lo_cons (fun hn x hx hb => by have := (own_lt o199 x.block (by rw [hx]; rfl)).1; have := Nat.lt_of_lt_of_le p113 (t4 k117.size k122.size k158.size k161.size); omega) ms_lo_nil)))))))).kp k465).kp k475).kp k508).kp k544).ch k547 (Nat.ne_of_lt (Nat.lt_of_lt_of_le p113 (Nat.le_trans (t5 (t12 k117.size k122.size k158.size k161.size k171.size k207.size k210.size k230.size k354.size k398.size k409.size k437.size) k452.size k465.size k475.size k508.size) p542))))
  refine lN (L_38 ((F_spec_Want (F_laws_toChan x_aC)).1) a79 c80 a84 c85 a89 c90 a94 c95 a99 c100 a104 c105) wN isAgg_38 sizeOf_38 b551 ?_
  have o552 := (own_ch (own_kp o511 k544) k547 (fun g hg hlt hk => by have h1 := (own_lt o511 g hg).2; have h2 := Nat.le_trans (Nat.le_refl w21.heap.size) p542; omega))
  have o553 := (own_ch (own_kp o516 k544) k547 (fun g hg hlt hk => by have h1 := (own_lt o516 g hg).2; have h2 := Nat.le_trans (Nat.le_refl w21.heap.size) p542; omega))
  have o554 := (own_ch (own_kp o521 k544) k547 (fun g hg hlt hk => by have h1 := (own_lt o521 g hg).2; have h2 := Nat.le_trans (Nat.le_refl w21.heap.size) p542; omega))
  have o555 := (own_ch (own_kp o526 k544) k547 (fun g hg hlt hk => by have h1 := (own_lt o526 g hg).2; have h2 := Nat.le_trans (Nat.le_refl w21.heap.size) p542; omega))
  have o556 := (own_ch (own_kp o531 k544) k547 (fun g hg hlt hk => by have h1 := (own_lt o531 g hg).2; have h2 := Nat.le_trans (Nat.le_refl w21.heap.size) p542; omega))
  have o557 := (own_ch (own_kp o536 k544) k547 (fun g hg hlt hk => by have h1 := (own_lt o536 g hg).2; have h2 := Nat.le_trans (Nat.le_refl w21.heap.size) p542; omega))
  have r558 := ((((((Rd.mz (r430.kp k437) l460 (ap_cons (rd_cap r440) (Ap.lt o81 o174 (t5 k114.size k117.size k122.size k158.size k161.size)).symm (ap_cons (rd_cap r441) (Ap.lt o81 o179 (t5 k114.size k117.size k122.size k158.size k161.size)).symm (ap_cons (rd_cap r442) (Ap.lt o81 o184 (t5 k114.size k117.size k122.size k158.size k161.size)).symm (ap_cons (rd_cap r443) (Ap.lt o81 o189 (t5 k114.size k117.size k122.size k158.size k161.size)).symm (ap_cons (rd_cap r444) (Ap.lt o81 o194 (t5 k114.size k117.size k122.size k158.size k161.size)).symm (ap_cons (rd_cap r445) (Ap.lt o81 o199 (t5 k114.size k117.size k122.size k158.size k161.size)).symm ap_nil))))))).kp k465).kp k475).kp k508).kp k544).ch k547 (fun g hg hlt hk => by have h1 := (own_lt o81 g hg).2; have h2 := Nat.le_trans (t6 (t12 k114.size k117.size k122.size k158.size k161.size k171.size k207.size k210.size k230.size k354.size k398.size k409.size) k437.size k452.size k465.size k475.size k508.size) p542; omega))
  have r559 := ((((((Rd.mz (r431.kp k437) l460 (ap_cons (rd_cap r440) (Ap.lt o86 o174 (t5 k114.size k117.size k122.size k158.size k161.size)).symm (ap_cons (rd_cap r441) (Ap.lt o86 o179 (t5 k114.size k117.size k122.size k158.size k161.size)).symm (ap_cons (rd_cap r442) (Ap.lt o86 o184 (t5 k114.size k117.size k122.size k158.size k161.size)).symm (ap_cons (rd_cap r443) (Ap.lt o86 o189 (t5 k114.size k117.size k122.size k158.size k161.size)).symm (ap_cons (rd_cap r444) (Ap.lt o86 o194 (t5 k114.size k117.size k122.size k158.size k161.size)).symm (ap_cons (rd_cap r445) (Ap.lt o86 o199 (t5 k114.size k117.size k122.size k158.size k161.size)).symm ap_nil))))))).kp k465).kp k475).kp k508).kp k544).ch k547 (fun g hg hlt hk => by have h1 := (own_lt o86 g hg).2; have h2 := Nat.le_trans (t6 (t12 k114.size k117.size k122.size k158.size k161.size k171.size k207.size k210.size k230.size k354.size k398.size k409.size) k437.size k452.size k465.size k475.size k508.size) p542; omega))
  have r560 := ((((((Rd.mz (r432.kp k437) l460 (ap_cons (rd_cap r440) (Ap.lt o91 o174 (t5 k114.size k117.size k122.size k158.size k161.size)).symm (ap_cons (rd_cap r441) (Ap.lt o91 o179 (t5 k114.size k117.size k122.size k158.size k161.size)).symm (ap_cons (rd_cap r442) (Ap.lt o91 o184 (t5 k114.size k117.size k122.size k158.size k161.size)).symm (ap_cons (rd_cap r443) (Ap.lt o91 o189 (t5 k114.size k117.size k122.size k158.size k161.size)).symm (ap_cons (rd_cap r444) (Ap.lt o91 o194 (t5 k114.size k117.size k122.size k158.size k161.size)).symm (ap_cons (rd_cap r445) (Ap.lt o91 o199 (t5 k114.size k117.size k122.size k158.size k161.size)).symm ap_nil))))))).kp k465).kp k475).kp k508).kp k544).ch k547 (fun g hg hlt hk => by have h1 := (own_lt o91 g hg).2; have h2 := Nat.le_trans (t6 (t12 k114.size k117.size k122.size k158.size k161.size k171.size k207.size k210.size k230.size k354.size k398.size k409.size) k437.size k452.size k465.size k475.size k508.size) p542; omega))
  have r561 := ((((((Rd.mz (r433.kp k437) l460 (ap_cons (rd_cap r440) (Ap.lt o96 o174 (t5 k114.size k117.size k122.size k158.size k161.size)).symm (ap_cons (rd_cap r441) (Ap.lt o96 o179 (t5 k114.size k117.size k122.size k158.size k161.size)).symm (ap_cons (rd_cap r442) (Ap.lt o96 o184 (t5 k114.size k117.size k122.size k158.size k161.size)).symm (ap_cons (rd_cap r443) (Ap.lt o96 o189 (t5 k114.size k117.size k122.size k158.size k161.size)).symm (ap_cons (rd_cap r444) (Ap.lt o96 o194 (t5 k114.size k117.size k122.size k158.size k161.size)).symm (ap_cons (rd_cap r445) (Ap.lt o96 o199 (t5 k114.size k117.size k122.size k158.size k161.size)).symm ap_nil))))))).kp k465).kp k475).kp k508).kp k544).ch k547 (fun g hg hlt hk => by have h1 := (own_lt o96 g hg).2; have h2 := Nat.le_trans (t6 (t12 k114.size k117.size k122.size k158.size k161.size k171.size k207.size k210.size k230.size k354.size k398.size k409.size) k437.size k452.size k465.size k475.size k508.size) p542; omega))
  have r562 := ((((((Rd.mz (r434.kp k437) l460 (ap_cons (rd_cap r440) (Ap.lt o101 o174 (t5 k114.size k117.size k122.size k158.size k161.size)).symm (ap_cons (rd_cap r441) (Ap.lt o101 o179 (t5 k114.size k117.size k122.size k158.size k161.size)).symm (ap_cons (rd_cap r442) (Ap.lt o101 o184 (t5 k114.size k117.size k122.size k158.size k161.size)).symm (ap_cons (rd_cap r443) (Ap.lt o101 o189 (t5 k114.size k117.size k122.size k158.size k161.size)).symm (ap_cons (rd_cap r444) (Ap.lt o101 o194 (t5 k114.size k117.size k122.size k158.size k161.size)).symm (ap_cons (rd_cap r445) (Ap.lt o101 o199 (t5 k114.size k117.size k122.size k158.size k161.size)).symm ap_nil))))))).kp k465).kp k475).kp k508).kp k544).ch k547 (fun g hg hlt hk => by have h1 := (own_lt o101 g hg).2; have h2 := Nat.le_trans (t6 (t12 k114.size k117.size k122.size k158.size k161.size k171.size k207.size k210.size k230.size k354.size k398.size k409.size) k437.size k452.size k465.size k475.size k508.size) p542; omega))
  have r563 := ((((((Rd.mz (r435.kp k437) l460 (ap_cons (rd_cap r440) (Ap.lt o106 o174 (t5 k114.size k117.size k122.size k158.size k161.size)).symm (ap_cons (rd_cap r441) (Ap.lt o106 o179 (t5 k114.size k117.size k122.size k158.size k161.size)).symm (ap_cons (rd_cap r442) (Ap.lt o106 o184 (t5 k114.size k117.size k122.size k158.size k161.size)).symm (ap_cons (rd_cap r443) (Ap.lt o106 o189 (t5 k114.size k117.size k122.size k158.size k161.size)).symm (ap_cons (rd_cap r444) (Ap.lt o106 o194 (t5 k114.size k117.size k122.size k158.size k161.size)).symm (ap_cons (rd_cap r445) (Ap.lt o106 o199 (t5 k114.size k117.size k122.size k158.size k161.size)).symm ap_nil))))))).kp k465).kp k475).kp k508).kp k544).ch k547 (fun g hg hlt hk => by have h1 := (own_lt o106 g hg).2; have h2 := Nat.le_trans (t6 (t12 k114.size k117.size k122.size k158.size k161.size k171.size k207.size k210.size k230.size k354.size k398.size k409.size) k437.size k452.size k465.size k475.size k508.size) p542; omega))
  have hc564 := C_laws_eqChan w23 _ ((F_impl_Want (F_laws_toChan x_aC)).1) (mR_38 (Rd.of_own o552) s512 (Rd.of_own o553) s517 (Rd.of_own o554) s522 (Rd.of_own o555) s527 (Rd.of_own o556) s532 (Rd.of_own o557) s537) _ ((F_spec_Want (F_laws_toChan x_aC)).1) (mR_38 r558 s82 r559 s87 r560 s92 r561 s97 r562 s102 r563 s107)
  rw [e229] at hc564
  refine cl wN hc564 ?_
  rintro _ w24 ⟨k565, rfl⟩
  have m566 := m550.extk k565
  refine pu (vb (!(y228))) wN ?_
  refine mv (vb (!(y228))) wN ?_
  refine mv (vb ((F_impl_Want (F_laws_toChan x_aC)).2)) (wS (congrArg not h232)) ?_
  refine mv (vb ((F_spec_Want (F_laws_toChan x_aC)).2)) (wS (congrArg not h232)) ?_
  refine pu (vb (!(((F_impl_Want (F_laws_toChan x_aC)).2) == ((F_spec_Want (F_laws_toChan x_aC)).2)))) (wS (congrArg not h232)) ?_
  refine pf (vb (!(((F_impl_Want (F_laws_toChan x_aC)).2) == ((F_spec_Want (F_laws_toChan x_aC)).2)))) wN (congrArg not h232) ?_
  refine wl_nil <| wq_then ?_
  refine cf (congrArg not h234) ?_
  refine wc_skip <| wq_then <| sr ?_
  refine ag (vi 1) wN ?_
  refine nx ?_
  have b567 := ((((((b461.kp k465).kp k475).kp k508).kp k544).ch k547 (Nat.ne_of_lt (Nat.lt_of_lt_of_le p206 (Nat.le_trans (t10 k210.size k230.size k354.size k398.size k409.size k437.size k452.size k465.size k475.size k508.size) p542)))).kp k565)
  refine lN [(vi (((F_impl_Want (F_laws_toChan x_aC)).1).Role)), (vs a172 (((F_impl_Want (F_laws_toChan x_aC)).1).Sn).length c173), (vi ((((F_impl_Want (F_laws_toChan x_aC)).1).Cur).N)), (vs a177 ((((F_impl_Want (F_laws_toChan x_aC)).1).Cur).Key).length c178), (vi ((((F_impl_Want (F_laws_toChan x_aC)).1).Cur).Seq)), (vi (((((F_impl_Want (F_laws_toChan x_aC)).1).Cur).Win).Top)), (vs a182 (((((F_impl_Want (F_laws_toChan x_aC)).1).Cur).Win).Bits).length c183), (vi ((((F_impl_Want (F_laws_toChan x_aC)).1).Old).N)), (vs a187 ((((F_impl_Want (F_laws_toChan x_aC)).1).Old).Key).length c188), (vi ((((F_impl_Want (F_laws_toChan x_aC)).1).Old).Seq)), (vi (((((F_impl_Want (F_laws_toChan x_aC)).1).Old).Win).Top)), (vs a192 (((((F_impl_Want (F_laws_toChan x_aC)).1).Old).Win).Bits).length c193), (vb (((F_impl_Want (F_laws_toChan x_aC)).1).HasOld)), (vi (((F_impl_Want (F_laws_toChan x_aC)).1).Until)), (vs a197 (((F_impl_Want (F_laws_toChan x_aC)).1).Next).length c198)] wN isAgg_38 sizeOf_38 b567 ?_
  refine mv (vi 1) wN ?_
  have r568 := ((((((r453.kp k465).kp k475).kp k508).kp k544).ch k547 (fun g hg hlt hk => by have h1 := (own_lt o174 g hg).2; have h2 := Nat.le_trans (t11 k207.size k210.size k230.size k354.size k398.size k409.size k437.size k452.size k465.size k475.size k508.size) p542; omega)).kp k565)
  have r569 := ((((((r454.kp k465).kp k475).kp k508).kp k544).ch k547 (fun g hg hlt hk => by have h1 := (own_lt o179 g hg).2; have h2 := Nat.le_trans (t11 k207.size k210.size k230.size k354.size k398.size k409.size k437.size k452.size k465.size k475.size k508.size) p542; omega)).kp k565)
  have r570 := ((((((r455.kp k465).kp k475).kp k508).kp k544).ch k547 (fun g hg hlt hk => by have h1 := (own_lt o184 g hg).2; have h2 := Nat.le_trans (t11 k207.size k210.size k230.size k354.size k398.size k409.size k437.size k452.size k465.size k475.size k508.size) p542; omega)).kp k565)
  have r571 := ((((((r456.kp k465).kp k475).kp k508).kp k544).ch k547 (fun g hg hlt hk => by have h1 := (own_lt o189 g hg).2; have h2 := Nat.le_trans (t11 k207.size k210.size k230.size k354.size k398.size k409.size k437.size k452.size k465.size k475.size k508.size) p542; omega)).kp k565)
  have r572 := ((((((r457.kp k465).kp k475).kp k508).kp k544).ch k547 (fun g hg hlt hk => by have h1 := (own_lt o194 g hg).2; have h2 := Nat.le_trans (t11 k207.size k210.size k230.size k354.size k398.size k409.size k437.size k452.size k465.size k475.size k508.size) p542; omega)).kp k565)
  have r573 := ((((((r458.kp k465).kp k475).kp k508).kp k544).ch k547 (fun g hg hlt hk => by have h1 := (own_lt o199 g hg).2; have h2 := Nat.le_trans (t11 k207.size k210.size k230.size k354.size k398.size k409.size k437.size k452.size k465.size k475.size k508.size) p542; omega)).kp k565)
  have hc574 := C_laws_heldChan w24 _ _ (show R_38 w24 (va [(vi (((F_impl_Want (F_laws_toChan x_aC)).1).Role)), (vs a172 (((F_impl_Want (F_laws_toChan x_aC)).1).Sn).length c173), (vi ((((F_impl_Want (F_laws_toChan x_aC)).1).Cur).N)), (vs a177 ((((F_impl_Want (F_laws_toChan x_aC)).1).Cur).Key).length c178), (vi ((((F_impl_Want (F_laws_toChan x_aC)).1).Cur).Seq)), (vi (((((F_impl_Want (F_laws_toChan x_aC)).1).Cur).Win).Top)), (vs a182 (((((F_impl_Want (F_laws_toChan x_aC)).1).Cur).Win).Bits).length c183), (vi ((((F_impl_Want (F_laws_toChan x_aC)).1).Old).N)), (vs a187 ((((F_impl_Want (F_laws_toChan x_aC)).1).Old).Key).length c188), (vi ((((F_impl_Want (F_laws_toChan x_aC)).1).Old).Seq)), (vi (((((F_impl_Want (F_laws_toChan x_aC)).1).Old).Win).Top)), (vs a192 (((((F_impl_Want (F_laws_toChan x_aC)).1).Old).Win).Bits).length c193), (vb (((F_impl_Want (F_laws_toChan x_aC)).1).HasOld)), (vi (((F_impl_Want (F_laws_toChan x_aC)).1).Until)), (vs a197 (((F_impl_Want (F_laws_toChan x_aC)).1).Next).length c198)]) { Role := ((F_impl_Want (F_laws_toChan x_aC)).1).Role, Sn := (marksB 1 (((F_impl_Want (F_laws_toChan x_aC)).1).Sn).length), Cur := { N := (((F_impl_Want (F_laws_toChan x_aC)).1).Cur).N, Key := (marksB (1 + ((((F_impl_Want (F_laws_toChan x_aC)).1).Sn).length : Int)) ((((F_impl_Want (F_laws_toChan x_aC)).1).Cur).Key).length), Seq := (((F_impl_Want (F_laws_toChan x_aC)).1).Cur).Seq, Win := { Top := ((((F_impl_Want (F_laws_toChan x_aC)).1).Cur).Win).Top, Bits := (marksI ((1 + ((((F_impl_Want (F_laws_toChan x_aC)).1).Sn).length : Int)) + (((((F_impl_Want (F_laws_toChan x_aC)).1).Cur).Key).length : Int)) (((((F_impl_Want (F_laws_toChan x_aC)).1).Cur).Win).Bits).length) : PWin } : PEp }, Old := { N := (((F_impl_Want (F_laws_toChan x_aC)).1).Old).N, Key := (marksB (((1 + ((((F_impl_Want (F_laws_toChan x_aC)).1).Sn).length : Int)) + (((((F_impl_Want (F_laws_toChan x_aC)).1).Cur).Key).length : Int)) + ((((((F_impl_Want (F_laws_toChan x_aC)).1).Cur).Win).Bits).length : Int)) ((((F_impl_Want (F_laws_toChan x_aC)).1).Old).Key).length), Seq := (((F_impl_Want (F_laws_toChan x_aC)).1).Old).Seq, Win := { Top := ((((F_impl_Want (F_laws_toChan x_aC)).1).Old).Win).Top, Bits := (marksI ((((1 + ((((F_impl_Want (F_laws_toChan x_aC)).1).Sn).length : Int)) + (((((F_impl_Want (F_laws_toChan x_aC)).1).Cur).Key).length : Int)) + ((((((F_impl_Want (F_laws_toChan x_aC)).1).Cur).Win).Bits).length : Int)) + (((((F_impl_Want (F_laws_toChan x_aC)).1).Old).Key).length : Int)) (((((F_impl_Want (F_laws_toChan x_aC)).1).Old).Win).Bits).length) : PWin } : PEp }, HasOld := ((F_impl_Want (F_laws_toChan x_aC)).1).HasOld, Until := ((F_impl_Want (F_laws_toChan x_aC)).1).Until, Next := (marksB (((((1 + ((((F_impl_Want (F_laws_toChan x_aC)).1).Sn).length : Int)) + (((((F_impl_Want (F_laws_toChan x_aC)).1).Cur).Key).length : Int)) + ((((((F_impl_Want (F_laws_toChan x_aC)).1).Cur).Win).Bits).length : Int)) + (((((F_impl_Want (F_laws_toChan x_aC)).1).Old).Key).length : Int)) + ((((((F_impl_Want (F_laws_toChan x_aC)).1).Old).Win).Bits).length : Int)) (((F_impl_Want (F_laws_toChan x_aC)).1).Next).length) : PChan } from ⟨a172, c173, a177, c178, a182, c183, a187, c188, a192, c193, a197, c198, by simp only [marksB_len, marksI_len, marksL_len, marksE_len], by simpa only [marksB_len, marksI_len, marksL_len, marksE_len] using r568, by simp only [marksB_len, marksI_len, marksL_len, marksE_len]; first | exact s175 | omega, by simpa only [marksB_len, marksI_len, marksL_len, marksE_len] using r569, by simp only [marksB_len, marksI_len, marksL_len, marksE_len]; first | exact s180 | omega, by simpa only [marksB_len, marksI_len, marksL_len, marksE_len] using r570, by simp only [marksB_len, marksI_len, marksL_len, marksE_len]; first | exact s185 | omega, by simpa only [marksB_len, marksI_len, marksL_len, marksE_len] using r571, by simp only [marksB_len, marksI_len, marksL_len, marksE_len]; first | exact s190 | omega, by simpa only [marksB_len, marksI_len, marksL_len, marksE_len] using r572, by simp only [marksB_len, marksI_len, marksL_len, marksE_len]; first | exact s195 | omega, by simpa only [marksB_len, marksI_len, marksL_len, marksE_len] using r573, by simp only [marksB_len, marksI_len, marksL_len, marksE_len]; first | exact s200 | omega⟩) 1 (by omega) (by omega)
  rw [e464] at hc574
  refine cl wN hc574 ?_
  rintro _ w25 ⟨k575, rfl⟩
  have m576 := m566.extk k575
  have q577 := laws_heldChan_le { Role := ((F_impl_Want (F_laws_toChan x_aC)).1).Role, Sn := (marksB 1 (((F_impl_Want (F_laws_toChan x_aC)).1).Sn).length), Cur := { N := (((F_impl_Want (F_laws_toChan x_aC)).1).Cur).N, Key := (marksB (1 + ((((F_impl_Want (F_laws_toChan x_aC)).1).Sn).length : Int)) ((((F_impl_Want (F_laws_toChan x_aC)).1).Cur).Key).length), Seq := (((F_impl_Want (F_laws_toChan x_aC)).1).Cur).Seq, Win := { Top := ((((F_impl_Want (F_laws_toChan x_aC)).1).Cur).Win).Top, Bits := (marksI ((1 + ((((F_impl_Want (F_laws_toChan x_aC)).1).Sn).length : Int)) + (((((F_impl_Want (F_laws_toChan x_aC)).1).Cur).Key).length : Int)) (((((F_impl_Want (F_laws_toChan x_aC)).1).Cur).Win).Bits).length) : PWin } : PEp }, Old := { N := (((F_impl_Want (F_laws_toChan x_aC)).1).Old).N, Key := (marksB (((1 + ((((F_impl_Want (F_laws_toChan x_aC)).1).Sn).length : Int)) + (((((F_impl_Want (F_laws_toChan x_aC)).1).Cur).Key).length : Int)) + ((((((F_impl_Want (F_laws_toChan x_aC)).1).Cur).Win).Bits).length : Int)) ((((F_impl_Want (F_laws_toChan x_aC)).1).Old).Key).length), Seq := (((F_impl_Want (F_laws_toChan x_aC)).1).Old).Seq, Win := { Top := ((((F_impl_Want (F_laws_toChan x_aC)).1).Old).Win).Top, Bits := (marksI ((((1 + ((((F_impl_Want (F_laws_toChan x_aC)).1).Sn).length : Int)) + (((((F_impl_Want (F_laws_toChan x_aC)).1).Cur).Key).length : Int)) + ((((((F_impl_Want (F_laws_toChan x_aC)).1).Cur).Win).Bits).length : Int)) + (((((F_impl_Want (F_laws_toChan x_aC)).1).Old).Key).length : Int)) (((((F_impl_Want (F_laws_toChan x_aC)).1).Old).Win).Bits).length) : PWin } : PEp }, HasOld := ((F_impl_Want (F_laws_toChan x_aC)).1).HasOld, Until := ((F_impl_Want (F_laws_toChan x_aC)).1).Until, Next := (marksB (((((1 + ((((F_impl_Want (F_laws_toChan x_aC)).1).Sn).length : Int)) + (((((F_impl_Want (F_laws_toChan x_aC)).1).Cur).Key).length : Int)) + ((((((F_impl_Want (F_laws_toChan x_aC)).1).Cur).Win).Bits).length : Int)) + (((((F_impl_Want (F_laws_toChan x_aC)).1).Old).Key).length : Int)) + ((((((F_impl_Want (F_laws_toChan x_aC)).1).Old).Win).Bits).length : Int)) (((F_impl_Want (F_laws_toChan x_aC)).1).Next).length) : PChan } 1
  try rw [e464] at q577
  refine ag (vi (y463)) wN ?_
  refine wl_nil <| wq_then <| wc_seq <| sr ?_
  refine mv (vi (y463)) wN ?_
  refine pu (vb (decide ((y463) < 0))) wN ?_
  refine wl_nil <| wq_then ?_
  refine cf h468 ?_
  refine wc_skip <| wq_then <| wc_seq <| sr ?_
  refine mv (vi (y463)) wN ?_
  refine mv (vi ((((((1 + ((((F_impl_Want (F_laws_toChan x_aC)).1).Sn).length : Int)) + (((((F_impl_Want (F_laws_toChan x_aC)).1).Cur).Key).length : Int)) + ((((((F_impl_Want (F_laws_toChan x_aC)).1).Cur).Win).Bits).length : Int)) + (((((F_impl_Want (F_laws_toChan x_aC)).1).Old).Key).length : Int)) + ((((((F_impl_Want (F_laws_toChan x_aC)).1).Old).Win).Bits).length : Int)) + ((((F_impl_Want (F_laws_toChan x_aC)).1).Next).length : Int))) wN ?_
  refine pu (vb (!(decide ((y463) = ((((((1 + ((((F_impl_Want (F_laws_toChan x_aC)).1).Sn).length : Int)) + (((((F_impl_Want (F_laws_toChan x_aC)).1).Cur).Key).length : Int)) + ((((((F_impl_Want (F_laws_toChan x_aC)).1).Cur).Win).Bits).length : Int)) + (((((F_impl_Want (F_laws_toChan x_aC)).1).Old).Key).length : Int)) + ((((((F_impl_Want (F_laws_toChan x_aC)).1).Old).Win).Bits).length : Int)) + ((((F_impl_Want (F_laws_toChan x_aC)).1).Next).length : Int)))))) wN ?_
  refine wl_nil <| wq_then ?_
  refine cf (congrArg not h472) ?_
  refine wc_skip <| wq_then <| sr ?_
  refine ag (vb true) wN ?_
  refine wl_nil <| wq_then <| wc_ret ?_
  refine ret_1 (.inl rfl) (vb true) rfl rfl ?_
  refine ⟨m576.keep0, ?_⟩
  have hF578 : F_laws_FnExactWant x_aC = true := by simp only [F_laws_FnExactWant, h40, e229, h232, h234, e397, h400, h418, e464, h468, h472, cond_true, cond_false]
  rw [hF578]
  exact rfl
end Go.Proofs.Ytafcngfnhhchjaa.K
