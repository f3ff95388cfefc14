import Derived.Test.YtdbjmgkiccfhcaaCore
import Derived.Test.YtdbjmgkiccfhcaaProg
import Derived.Test.YtdbjmgkiccfhcaaHeld
import Derived.Test.YtdbjmgkiccfhcaaFun
import Derived.Test.YtdbjmgkiccfhcaaFunZ
import Derived.Test.YtdbjmgkiccfhcaaSqz
import Derived.Test.YtdbjmgkiccfhcaaCur
import Derived.Test.YtdbjmgkiccfhcaaDrawW
import Derived.Test.YtdbjmgkiccfhcaaDrawK
import Derived.Test.YtdbjmgkiccfhcaaWp1
namespace Go.Proofs.Ytdbjmgkiccfhcaa.K
open Go.RowKit
set_option linter.unusedVariables false
set_option linter.unusedSimpArgs false
set_option maxRecDepth 100000
set_option maxHeartbeats 4000000
def O_28_3_25_22 (w : World) (lo : Nat) (v : Value) (x : (PPaths) × (Int) × (PAddr) × (List UInt8)) : Prop := ∃ (a1 : Option Addr) (c1 : Nat) (a2 : Option Addr) (c2 : Nat), v = .tuple #[.agg #[.int .i64 x.1.At.Host, .int .i64 x.1.At.Port, .slice a1 x.1.Cands.length c1], .int .i64 x.2.1, .agg #[.int .i64 x.2.2.1.Host, .int .i64 x.2.2.1.Port], .slice a2 x.2.2.2.length c2] ∧ OLv LT_34 w lo w.heap.size a1 x.1.Cands.length c1 x.1.Cands ∧ x.1.Cands.length ≤ 1073741824 ∧ w.ownsRow lo 5 1 (.slice a2 x.2.2.2.length c2) x.2.2.2.length (x.2.2.2.map bV) ∧ x.2.2.2.length ≤ 1073741824 ∧ Aps [(a1, c1), (a2, c2)]
theorem C_spec_DrawOffer (w0 : World) (v_x_code : Value) (x_code : List UInt8) (r_x_code : R_22 w0 v_x_code x_code)  : Fn Try.prog 17 #[v_x_code] w0 (fun v w' => ∃ x : (PPaths) × (Int) × (PAddr) × (List UInt8), Keep w0 w' ∧ O_28_3_25_22 w' w0.heap.size v x ∧ (-1 ≤ x.2.1 ∧ x.2.1 ≤ 1000001)) := by
 obtain ⟨a1, c2, rfl, r3, s4⟩ := r_x_code
 refine fn_ofS (n := 32) [(vs a1 x_code.length c2)] Try.func17 rfl rfl ?_
 refine sr ?_
 refine al [(vi 0), (vi 0), (vs none 0 0)] wN zero_28 ?_
 intro g6 w1 p7 p8 k9 b10
 refine aw (vi 0) ?_
 refine al [(vi 0), (vi 0)] wN zero_25 ?_
 intro g12 w2 p13 p14 k15 b16
 have m17 := ((Ch.base w0).extk k9).extk k15
 refine aw (vs none 0 0) ?_
 refine nx ?_
 refine mw (vs a1 x_code.length c2) ?_
 refine cl wN (C_spec_l1New w2 _ x_code (mR_22 (r3.from0 m17) s4)) ?_
 rintro _ w3 ⟨g19, k18, p20, rfl, hc28⟩
 obtain ⟨i21, h22, b23, r24, l25, p26, n27⟩ := hc28 _ _ rfl
 have m29 := m17.extk k18
 refine aw (vp g19 0) ?_
 refine nx ?_
 refine mw (vp g19 0) ?_
 refine cl wN (C_spec_l16Any w3 g19 a1 c2 x_code ⟨_, _, b23, (r3.from0 m29), s4, (by omega), (fun h0 z hz => Nat.ne_of_lt (Nat.lt_of_lt_of_le (rd_posB r3 h0 z hz) (Nat.le_trans (z2 k9 k15) p20)))⟩) ?_
 rintro _ w4 ⟨x31, k30, ⟨i39, h40, b41, r42, l43, p44, n45⟩, ⟨a33, c34, rfl, o35, s36, ap38⟩, q32⟩
 have m46 := m29.ext k30 (fun k hk => by subst hk; exact Nat.le_trans (z2 k9 k15) p20)
 obtain ⟨y47, o48⟩ := OLv.ow o35
 refine al [(vi 0), (vi 0), (vs none 0 0)] wN zero_28 ?_
 intro g49 w5 p50 p51 k52 b53
 refine sv (L_28 (x31) a33 c34) wN sizeOf_28 b53 ?_
 intro w6 k55 b56 z57
 have m58 := (m46.extk k52).ext k55 (fun k hk => by subst hk; exact Nat.le_trans (z4 k9 k15 k18 k30) p50)
 refine nx ?_
 refine mw (vp g19 0) ?_
 refine ltI ([0, 3, 6, 8, 10, 12, 20, 1000000, 1000001, (-1)] : List Int) wN slTy_56 ?_
 intro a59 c60 w7 k61 o62
 have m63 := m58.extk k61
 have b65 := (((b41.kp k52).ch k55 (Nat.ne_of_lt (Nat.lt_of_lt_of_le (Blk.lt b23) (Nat.le_trans k30.size p50)))).kp k61)
 refine cl wN (C_spec_l1Int w7 g19 a1 c2 x_code ⟨_, _, b65, (r3.from0 m63), s4, (by omega), (fun h0 z hz => Nat.ne_of_lt (Nat.lt_of_lt_of_le (rd_posB r3 h0 z hz) (Nat.le_trans (z2 k9 k15) p20)))⟩ _ ([0, 3, 6, 8, 10, 12, 20, 1000000, 1000001, (-1)] : List Int) ⟨_, _, rfl, (Rd.of_own o62), (by simp), (fun _ z hz => by have h1 := (own_lt o62 z.block (by rw [hz]; rfl)).1; have h2 := Nat.lt_of_lt_of_le (Blk.lt b23) (z3 k30 k52 k55); omega)⟩ (by simp)) ?_
 rintro _ w8 ⟨x67, k66, ⟨i69, h70, b71, r72, l73, p74, n75⟩, rfl, q68⟩
 have m76 := m63.ext k66 (fun k hk => by subst hk; exact Nat.le_trans (z2 k9 k15) p20)
 have q68m : x67 = 0 ∨ x67 = 3 ∨ x67 = 6 ∨ x67 = 8 ∨ x67 = 10 ∨ x67 = 12 ∨ x67 = 20 ∨ x67 = 1000000 ∨ x67 = 1000001 ∨ x67 = (-1) := by simpa only [List.mem_cons, List.not_mem_nil, or_false] using q68
 refine aw (vi (x67)) ?_
 refine nx ?_
 refine mw (vp g19 0) ?_
 refine cl wN (C_spec_l1Below w8 g19 a1 c2 x_code ⟨_, _, b71, (r3.from0 m76), s4, (by omega), (fun h0 z hz => Nat.ne_of_lt (Nat.lt_of_lt_of_le (rd_posB r3 h0 z hz) (Nat.le_trans (z2 k9 k15) p20)))⟩ 8) ?_
 rintro _ w9 ⟨x78, k77, ⟨i80, h81, b82, r83, l84, p85, n86⟩, rfl, q79⟩
 have m87 := m76.ext k77 (fun k hk => by subst hk; exact Nat.le_trans (z2 k9 k15) p20)
 refine cl wN (C_spec_Near w9 (x78)) ?_
 rintro _ w10 ⟨k88, rfl⟩
 refine al [(vi 0), (vi 0)] wN zero_25 ?_
 intro g90 w11 p91 p92 k93 b94
 refine st (va (L_25 (F_spec_Near (x78)))) (L_25 (F_spec_Near (x78))) (L_25 (F_spec_Near (x78))) wN sizeOf_25 b94 ?_
 intro w12 k96 b97 z98
 have m99 := ((m87.extk k88).extk k93).ext k96 (fun k hk => by subst hk; exact Nat.le_trans (z10 k9 k15 k18 k30 k52 k55 k61 k66 k77 k88) p91)
 refine n4 ?_
 refine mw (vp g19 0) ?_
 have b100 := (((b82.kp k88).kp k93).ch k96 (Nat.ne_of_lt (Nat.lt_of_lt_of_le (Blk.lt b23) (Nat.le_trans (z7 k30 k52 k55 k61 k66 k77 k88) p91))))
 refine cl wN (C_spec_l1Once w12 g19 a1 c2 x_code ⟨_, _, b100, (r3.from0 m99), s4, (by omega), (fun h0 z hz => Nat.ne_of_lt (Nat.lt_of_lt_of_le (rd_posB r3 h0 z hz) (Nat.le_trans (z2 k9 k15) p20)))⟩ 8) ?_
 rintro _ w13 ⟨x102, k101, ⟨i104, h105, b106, r107, l108, p109, n110⟩, rfl, q103⟩
 have m111 := m99.ext k101 (fun k hk => by subst hk; exact Nat.le_trans (z2 k9 k15) p20)
 refine n2 ?_
 rcases bf x102 with h112 | h112
 ·refine cf h112 ?_
  refine wc_skip <| wq_then <| wc_seq ?_
  have zz10 := Nat.lt_of_lt_of_le p8 (Nat.le_trans k15.size p20)
  have b489 := ((((((((((((b10.kp k15).kp k18).ch k30 (Nat.ne_of_lt zz10)).kp k52).ch k55 (Nat.ne_of_lt (Nat.lt_of_lt_of_le p8 (Nat.le_trans (z3 k15 k18 k30) p50)))).kp k61).ch k66 (Nat.ne_of_lt zz10)).ch k77 (Nat.ne_of_lt zz10)).kp k88).kp k93).ch k96 (Nat.ne_of_lt (Nat.lt_of_lt_of_le p8 (Nat.le_trans (z9 k15 k18 k30 k52 k55 k61 k66 k77 k88) p91)))).ch k101 (Nat.ne_of_lt zz10))
  have zz11 := Nat.lt_of_lt_of_le p8 (Nat.le_trans k15.size p20)
  refine wc_drawT ([(24, [], [], (fun _ v _ => v = (va (L_28 (x31) a33 c34)))), (25, [], [], (fun _ v _ => v = (vi (x67)))), (26, [], [], (fun _ v _ => v = (va (L_25 (F_spec_Near (x78)))))), (27, [], [], (fun _ v _ => v = (vp g19 0))), (28, [], [], (fun _ v _ => v = (vp g19 0))), (29, [], [], (fun _ v w => ∃ (a1 : Option Addr) (c1 : Nat), v = .slice a1 ([12, 12, 12, 12, 12, 11] : List Int).length c1 ∧ w.ownsRow w13.heap.size 3 1 (.slice a1 ([12, 12, 12, 12, 12, 11] : List Int).length c1) ([12, 12, 12, 12, 12, 11] : List Int).length (([12, 12, 12, 12, 12, 11] : List Int).map iV) ∧ ([12, 12, 12, 12, 12, 11] : List Int).length ≤ 1073741824 ∧ Aps [(a1, c1)])), (30, [], [4, 5], (fun _ v _ => ∃ x486 : Int, v = (vi x486) ∧ x486 ∈ ([12, 12, 12, 12, 12, 11] : List Int))), (31, [], [3, 4, 5, 6], (fun _ v w => ∃ (x487 : List UInt8) (a1 : Option Addr) (c1 : Nat), v = .slice a1 x487.length c1 ∧ w.ownsRow w13.heap.size 5 1 (.slice a1 x487.length c1) x487.length (x487.map bV) ∧ x487.length ≤ 1073741824 ∧ True)), (40, [], [0, 3, 4, 5, 6, 7], (fun _ _ w => BK w g6 28 0 ((L_28 (x31) a33 c34)))), (3, [], [0, 1, 3, 4, 5, 6, 7, 8], (fun _ v _ => v = (vi (x67))))] : GV) (fun lf w' => Ch (fun k => k = g6 ∨ k = g19) w13 w' ∧ RK lf w' g6 28 [(vi 0), (vi 0), (vs none 0 0)] [(8, 0, 3)] ∧ CurX w' g19 111 a1 c2 x_code) [(6, fun w w' => Ch (fun k => k = g19) w w' ∧ (CurX w g19 111 a1 c2 x_code → CurX w' g19 111 a1 c2 x_code)), (7, fun w w' => Ch (fun k => k = g19) w w' ∧ (CurX w g19 111 a1 c2 x_code → CurX w' g19 111 a1 c2 x_code)), (8, TK g6 28 0 3)] mixed rfl (by kernel_rfl) (by kernel_rfl) ?_ (fun _ _ h => ⟨h.to _, RK.z b489 h, CurX.kp ⟨_, _, b106, (r3.from0 m111), s4, (by omega), (fun h0 z hz => Nat.ne_of_lt (Nat.lt_of_lt_of_le (rd_posB r3 h0 z hz) (Nat.le_trans (z2 k9 k15) p20)))⟩ h⟩) (fun _ _ _ _ h mo k => by obtain ⟨hc, hbg6, hcur⟩ := h; exact ⟨hc.comp k (fun _ _ q => q.elim), hbg6.kp mo k, hcur.kp k⟩) ⟨(fun _ _ w w' h mo hj t => by obtain ⟨hc, hbg6, hcur⟩ := h; exact ⟨hc.comp t.1 (fun _ _ q => (.inr q)), hbg6.ch mo t.1 (Nat.ne_of_lt zz11), t.2 hcur⟩), ⟨(fun _ _ w w' h mo hj t => by obtain ⟨hc, hbg6, hcur⟩ := h; exact ⟨hc.comp t.1 (fun _ _ q => (.inr q)), hbg6.ch mo t.1 (Nat.ne_of_lt zz11), t.2 hcur⟩), ⟨(fun _ _ w w' h mo hj t => by obtain ⟨hc, hbg6, hcur⟩ := h; exact ⟨hc.comp t.1 (fun _ _ q => (.inl q)), hbg6.st mo hj (.head _) t, hcur.ch t.1 (Ne.symm (Nat.ne_of_lt zz11)) (fun h0 z hz => Nat.ne_of_lt (Nat.lt_of_lt_of_le (rd_posB r3 h0 z hz) (p7)))⟩), trivial⟩⟩⟩ ?_ ?_ ?_
  ·exact ⟨hV, hE, ⟨hV, hE, ⟨hV, hE, ⟨hV, hE, ⟨hV, hE, ⟨(fun e v w w1 h hk => by obtain ⟨a0x, c0x, he, o0x, l0x, hap⟩ := h; exact ⟨a0x, c0x, he, own_kp o0x hk, l0x, hap⟩), hE, ⟨hV, hE, ⟨(fun e v w w1 h hk => by obtain ⟨x0x, a0x, c0x, he, o0x, l0x, p0x⟩ := h; exact ⟨x0x, a0x, c0x, he, own_kp o0x hk, l0x, p0x⟩), hE, ⟨sK, hE, ⟨hV, hE, trivial⟩⟩⟩⟩⟩⟩⟩⟩⟩⟩
  ·have zz12 := Nat.lt_of_lt_of_le (Blk.lt b23) (z10 k30 k52 k55 k61 k66 k77 k88 k93 k96 k101)
   exact ⟨⟨.inr hV, ⟨.inr hV, ⟨.inr hV, ⟨.inr hV, ⟨.inr hV, ⟨.inr (fun e v wX wY h ht => by obtain ⟨a0x, c0x, he, o0x, l0x, hap⟩ := h; exact ⟨a0x, c0x, he, own_ch o0x ht.1 (fun gq hg _ hk => by have h1 := (own_lt o0x gq hg).1; have h3 : gq = g19 := hk; have h4 := zz12; omega), l0x, hap⟩), ⟨.inl rfl, ⟨.inr (fun e v wX wY h ht => by obtain ⟨x0x, a0x, c0x, he, o0x, l0x, p0x⟩ := h; exact ⟨x0x, a0x, c0x, he, own_ch o0x ht.1 (fun gq hg _ hk => by have h1 := (own_lt o0x gq hg).1; have h3 : gq = g19 := hk; have h4 := zz12; omega), l0x, p0x⟩), ⟨.inr (sKo (fun _ _ t => t.1) (Nat.ne_of_lt (Nat.lt_of_lt_of_le p8 (Nat.le_trans k15.size p20)))), ⟨.inr hV, trivial⟩⟩⟩⟩⟩⟩⟩⟩⟩⟩, ⟨⟨.inr hV, ⟨.inr hV, ⟨.inr hV, ⟨.inr hV, ⟨.inr hV, ⟨.inr (fun e v wX wY h ht => by obtain ⟨a0x, c0x, he, o0x, l0x, hap⟩ := h; exact ⟨a0x, c0x, he, own_ch o0x ht.1 (fun gq hg _ hk => by have h1 := (own_lt o0x gq hg).1; have h3 : gq = g19 := hk; have h4 := zz12; omega), l0x, hap⟩), ⟨.inr hV, ⟨.inl rfl, ⟨.inr (sKo (fun _ _ t => t.1) (Nat.ne_of_lt (Nat.lt_of_lt_of_le p8 (Nat.le_trans k15.size p20)))), ⟨.inr hV, trivial⟩⟩⟩⟩⟩⟩⟩⟩⟩⟩, ⟨⟨.inr hV, ⟨.inr hV, ⟨.inr hV, ⟨.inr hV, ⟨.inr hV, ⟨.inr (fun e v wX wY h ht => by obtain ⟨a0x, c0x, he, o0x, l0x, hap⟩ := h; exact ⟨a0x, c0x, he, own_ch o0x ht.1 (fun gq hg _ hk => by have h1 := (own_lt o0x gq hg).1; have h3 : gq = g6 := hk; have h4 := (Nat.lt_of_lt_of_le p8 (z12 k15 k18 k30 k52 k55 k61 k66 k77 k88 k93 k96 k101)); omega), l0x, hap⟩), ⟨.inr hV, ⟨.inr (fun e v wX wY h ht => by obtain ⟨x0x, a0x, c0x, he, o0x, l0x, p0x⟩ := h; exact ⟨x0x, a0x, c0x, he, own_ch o0x ht.1 (fun gq hg _ hk => by have h1 := (own_lt o0x gq hg).1; have h3 : gq = g6 := hk; have h4 := (Nat.lt_of_lt_of_le p8 (z12 k15 k18 k30 k52 k55 k61 k66 k77 k88 k93 k96 k101)); omega), l0x, p0x⟩), ⟨.inl rfl, ⟨.inr hV, trivial⟩⟩⟩⟩⟩⟩⟩⟩⟩⟩, trivial⟩⟩⟩
  ·refine ⟨?_, ⟨?_, ⟨?_, ⟨?_, ⟨?_, ⟨?_, ⟨?_, ⟨?_, ⟨?_, ⟨?_, trivial⟩⟩⟩⟩⟩⟩⟩⟩⟩⟩
   ·rintro lf w14 ⟨k490, b491, ⟨i495, h496, b497, r498, l499, p500, n501⟩⟩ ⟨n492, n493, n494, -⟩
    rintro _ _ _ _ _ _ _ _ _ _
    show WL _ _ _ _ _ _ _
    have zz13 := Nat.lt_of_lt_of_le (Blk.lt b23) (Nat.le_trans k30.size p50)
    have b503 := ((((((((b56.kp k61).ch k66 (Ne.symm (Nat.ne_of_lt zz13))).ch k77 (Ne.symm (Nat.ne_of_lt zz13))).kp k88).kp k93).ch k96 (Nat.ne_of_lt (Nat.lt_of_lt_of_le p51 (Nat.le_trans (z5 k55 k61 k66 k77 k88) p91)))).ch k101 (Ne.symm (Nat.ne_of_lt zz13))).ch k490 (fun h => Or.elim h (Ne.symm (Nat.ne_of_lt (Nat.lt_of_lt_of_le p8 (Nat.le_trans (z3 k15 k18 k30) p50)))) (Ne.symm (Nat.ne_of_lt zz13))))
    refine lN (L_28 (x31) a33 c34) wN isAgg_28 sizeOf_28 b503 ?_
    exact f1
   ·rintro lf w14 ⟨k504, b505, ⟨i509, h510, b511, r512, l513, p514, n515⟩⟩ ⟨n506, n507, n508, -⟩
    rintro _ _ _ _ _ _ _ _ _ _
    show WL _ _ _ _ _ _ _
    refine mw (vi (x67)) ?_
    exact f1
   ·rintro lf w14 ⟨k517, b518, ⟨i522, h523, b524, r525, l526, p527, n528⟩⟩ ⟨n519, n520, n521, -⟩
    rintro _ _ _ _ _ _ _ _ _ _
    show WL _ _ _ _ _ _ _
    have b530 := ((b97.ch k101 (Ne.symm (Nat.ne_of_lt (Nat.lt_of_lt_of_le (Blk.lt b23) (Nat.le_trans (z7 k30 k52 k55 k61 k66 k77 k88) p91))))).ch k517 (fun h => Or.elim h (Ne.symm (Nat.ne_of_lt (Nat.lt_of_lt_of_le p8 (Nat.le_trans (z9 k15 k18 k30 k52 k55 k61 k66 k77 k88) p91)))) (Ne.symm (Nat.ne_of_lt (Nat.lt_of_lt_of_le (Blk.lt b23) (Nat.le_trans (z7 k30 k52 k55 k61 k66 k77 k88) p91))))))
    refine lN (L_25 (F_spec_Near (x78))) wN isAgg_25 sizeOf_25 b530 ?_
    exact f1
   ·rintro lf w14 ⟨k531, b532, ⟨i536, h537, b538, r539, l540, p541, n542⟩⟩ ⟨n533, n534, n535, -⟩
    rintro _ _ _ _ _ _ _ _ _ _
    show WL _ _ _ _ _ _ _
    refine mw (vp g19 0) ?_
    exact f1
   ·rintro lf w14 ⟨k544, b545, ⟨i549, h550, b551, r552, l553, p554, n555⟩⟩ ⟨n546, n547, n548, -⟩
    rintro _ _ _ _ _ _ _ _ _ _
    show WL _ _ _ _ _ _ _
    refine mw (vp g19 0) ?_
    exact f1
   ·rintro lf w14 ⟨k557, b558, ⟨i562, h563, b564, r565, l566, p567, n568⟩⟩ ⟨n559, n560, n561, -⟩
    rintro _ _ _ _ _ _ _ _ _ _
    show WL _ _ _ _ _ _ _
    refine ltI ([12, 12, 12, 12, 12, 11] : List Int) wN slTy_56 ?_
    intro a570 c571 w15 k572 o573
    exact wl_finT k572 ⟨_, _, rfl, (own_lo o573 k557.size), (by simp), ⟨trivial, trivial⟩⟩
   ·rintro lf w14 ⟨k576, b577, ⟨i581, h582, b583, r584, l585, p586, n587⟩⟩ ⟨n578, n579, n580, -⟩
    have m588 := m111.ext k576 (fun k hk => (fun hk => Or.elim hk (fun hk => by subst hk; exact p7) (fun hk => by subst hk; exact Nat.le_trans (z2 k9 k15) p20)) hk)
    rintro _ _ _ _ _ rfl _ ⟨a590, c591, rfl, o592, s593, -⟩ _ _ _ _
    show WL _ _ _ _ _ _ _
    refine cl wN (C_spec_l1Int w14 g19 a1 c2 x_code ⟨_, _, b583, (r3.from0 m588), s4, (by omega), (fun h0 z hz => Nat.ne_of_lt (Nat.lt_of_lt_of_le (rd_posB r3 h0 z hz) (Nat.le_trans (z2 k9 k15) p20)))⟩ _ ([12, 12, 12, 12, 12, 11] : List Int) ⟨_, _, rfl, (Rd.of_own o592), s593, (fun _ z hz => by have h1 := (own_lt o592 z.block (by rw [hz]; rfl)).1; have h2 := Nat.lt_of_lt_of_le (Blk.lt b23) (z10 k30 k52 k55 k61 k66 k77 k88 k93 k96 k101); omega)⟩ (by simp)) ?_
    rintro _ w15 ⟨x596, k595, ⟨i598, h599, b600, r601, l602, p603, n604⟩, rfl, q597⟩
    have m605 := m588.ext k595 (fun k hk => by subst hk; exact Nat.le_trans (z2 k9 k15) p20)
    have q597m : x596 = 12 ∨ x596 = 12 ∨ x596 = 12 ∨ x596 = 12 ∨ x596 = 12 ∨ x596 = 11 := by simpa only [List.mem_cons, List.not_mem_nil, or_false] using q597
    exact wl_finT ⟨k595, fun _ => ⟨_, _, b600, (r3.from0 m605), s4, (by omega), (fun h0 z hz => Nat.ne_of_lt (Nat.lt_of_lt_of_le (rd_posB r3 h0 z hz) (Nat.le_trans (z2 k9 k15) p20)))⟩⟩ ⟨_, rfl, q597⟩
   ·rintro lf w14 ⟨k606, b607, ⟨i611, h612, b613, r614, l615, p616, n617⟩⟩ ⟨n608, n609, n610, -⟩
    have m618 := m111.ext k606 (fun k hk => (fun hk => Or.elim hk (fun hk => by subst hk; exact p7) (fun hk => by subst hk; exact Nat.le_trans (z2 k9 k15) p20)) hk)
    rintro _ _ _ _ rfl _ rfl _ ⟨a620, c621, rfl, o622, s623, -⟩ _ ⟨x486, rfl, q625⟩
    have q625m : x486 = 12 ∨ x486 = 12 ∨ x486 = 12 ∨ x486 = 12 ∨ x486 = 12 ∨ x486 = 11 := by simpa only [List.mem_cons, List.not_mem_nil, or_false] using q625
    rintro _ _ _
    show WL _ _ _ _ _ _ _
    refine cl wN (C_spec_l1Bytes w14 g19 a1 c2 x_code ⟨_, _, b613, (r3.from0 m618), s4, (by omega), (fun h0 z hz => Nat.ne_of_lt (Nat.lt_of_lt_of_le (rd_posB r3 h0 z hz) (Nat.le_trans (z2 k9 k15) p20)))⟩ x486 (by omega)) ?_
    rintro _ w15 ⟨x627, k626, ⟨i635, h636, b637, r638, l639, p640, n641⟩, ⟨a629, c630, rfl, o631, s632, ap634⟩, q628⟩
    have m642 := m618.ext k626 (fun k hk => by subst hk; exact Nat.le_trans (z2 k9 k15) p20)
    exact wl_finT ⟨k626, fun _ => ⟨_, _, b637, (r3.from0 m642), s4, (by omega), (fun h0 z hz => Nat.ne_of_lt (Nat.lt_of_lt_of_le (rd_posB r3 h0 z hz) (Nat.le_trans (z2 k9 k15) p20)))⟩⟩ ⟨_, _, _, rfl, own_lo o631 k606.size, s632, trivial⟩
   ·rintro lf w14 ⟨k643, b644, ⟨i648, h649, b650, r651, l652, p653, n654⟩⟩ ⟨n645, n646, n647, -⟩
    rintro _ rfl _ _ _ rfl _ rfl _ ⟨a657, c658, rfl, o659, s660, -⟩ _ ⟨x486, rfl, q662⟩
    have q662m : x486 = 12 ∨ x486 = 12 ∨ x486 = 12 ∨ x486 = 12 ∨ x486 = 12 ∨ x486 = 11 := by simpa only [List.mem_cons, List.not_mem_nil, or_false] using q662
    rintro _ ⟨x487, a664, c665, rfl, o666, s667, q663⟩ _ _
    show WL _ _ _ _ _ _ _
    exact stK (va (L_28 (x31) a33 c34)) (L_28 (x31) a33 c34) wN sizeOf_28 b644 (fun _ h => h) (fun _ t => t)
   ·rintro lf w14 ⟨k669, b670, ⟨i674, h675, b676, r677, l678, p679, n680⟩⟩ ⟨n671, n672, n673, -⟩
    rintro _ rfl _ rfl _ _ rfl _ rfl _ ⟨a683, c684, rfl, o685, s686, -⟩ _ ⟨x486, rfl, q688⟩
    have q688m : x486 = 12 ∨ x486 = 12 ∨ x486 = 12 ∨ x486 = 12 ∨ x486 = 12 ∨ x486 = 11 := by simpa only [List.mem_cons, List.not_mem_nil, or_false] using q688
    rintro _ ⟨x487, a690, c691, rfl, o692, s693, q689⟩ _ _ _
    show WL _ _ _ _ _ _ _
    refine aw (vi (x67)) ?_
    exact f1
  ·rintro lf w14 ⟨k695, b696, ⟨i700, h701, b702, r703, l704, p705, n706⟩⟩
   have m707 := m111.ext k695 (fun k hk => (fun hk => Or.elim hk (fun hk => by subst hk; exact p7) (fun hk => by subst hk; exact Nat.le_trans (z2 k9 k15) p20)) hk)
   rintro _ rfl _ rfl _ rfl _ rfl _ rfl _ ⟨a710, c711, rfl, o712, s713, -⟩ _ ⟨x486, rfl, q715⟩
   have q715m : x486 = 12 ∨ x486 = 12 ∨ x486 = 12 ∨ x486 = 12 ∨ x486 = 12 ∨ x486 = 11 := by simpa only [List.mem_cons, List.not_mem_nil, or_false] using q715
   rintro _ ⟨x487, a717, c718, rfl, o719, s720, q716⟩ _ b722 _ rfl
   have b723 : Blk w14 g6 28 (L_28 (x31) a33 c34) := RK.fin b696 [(0, (L_28 (x31) a33 c34))] ⟨b722, trivial⟩
   show WL _ _ _ _ _ _ _
   have zz14 := Nat.lt_of_lt_of_le p14 (p20)
   have b724 := ((((((((((((b16.kp k18).ch k30 (Nat.ne_of_lt zz14)).kp k52).ch k55 (Nat.ne_of_lt (Nat.lt_of_lt_of_le p14 (Nat.le_trans (z2 k18 k30) p50)))).kp k61).ch k66 (Nat.ne_of_lt zz14)).ch k77 (Nat.ne_of_lt zz14)).kp k88).kp k93).ch k96 (Nat.ne_of_lt (Nat.lt_of_lt_of_le p14 (Nat.le_trans (z8 k18 k30 k52 k55 k61 k66 k77 k88) p91)))).ch k101 (Nat.ne_of_lt zz14)).ch k695 (fun h => Or.elim h (Ne.symm (Nat.ne_of_lt (Nat.lt_of_lt_of_le p8 (p13)))) (Nat.ne_of_lt zz14)))
   refine st (va (L_25 (F_spec_Near (x78)))) (L_25 (F_spec_Near (x78))) (L_25 (F_spec_Near (x78))) wN sizeOf_25 b724 ?_
   intro w15 k725 b726 z727
   have m728 := m707.ext k725 (fun k hk => by subst hk; exact Nat.le_trans k9.size p13)
   refine aw (vs a717 x487.length c718) ?_
   refine n3 ?_
   have b729 := (b723.ch k725 (Nat.ne_of_lt (Nat.lt_of_lt_of_le p8 (p13))))
   have zz15 := Nat.le_refl w3.heap.size
   have o730 := (OLv.ch (OLv.ch (OLv.ch (OLv.ch (OLv.kp (OLv.kp (OLv.ch (OLv.ch (OLv.kp (OLv.ch (OLv.kp o35 k52) k55 (fun g h1 h2 hk => by have h3 := Nat.le_trans (Nat.le_refl w4.heap.size) p50; omega)) k61) k66 (fun g h1 h2 hk => by have h3 := Nat.lt_of_lt_of_le (Blk.lt b23) zz15; omega)) k77 (fun g h1 h2 hk => by have h3 := Nat.lt_of_lt_of_le (Blk.lt b23) zz15; omega)) k88) k93) k96 (fun g h1 h2 hk => by have h3 := Nat.le_trans (z6 k52 k55 k61 k66 k77 k88) p91; omega)) k101 (fun g h1 h2 hk => by have h3 := Nat.lt_of_lt_of_le (Blk.lt b23) zz15; omega)) k695 (fun g h1 h2 hk => Or.elim hk (fun hk => (fun g h1 h2 hk => by have h3 := Nat.lt_of_lt_of_le p8 (z2 k15 k18); omega) g h1 h2 hk) (fun hk => (fun g h1 h2 hk => by have h3 := Nat.lt_of_lt_of_le (Blk.lt b23) zz15; omega) g h1 h2 hk))) k725 (fun g h1 h2 hk => by have h3 := Nat.lt_of_lt_of_le p14 k18.size; omega))
   have o731 := (own_ch o719 k725 (ne1 o719 (Nat.lt_of_lt_of_le p14 (z11 k18 k30 k52 k55 k61 k66 k77 k88 k93 k96 k101))))
   refine ret_4 (.inl rfl) (va (L_28 (x31) a33 c34)) (vi (x67)) (va (L_25 (F_spec_Near (x78)))) (vs a717 x487.length c718) rfl (rv_c (L_28 (x31) a33 c34) rfl b729 isAgg_28 sizeOf_28) rfl (rv_c (L_25 (F_spec_Near (x78))) rfl b726 isAgg_25 sizeOf_25) rfl ?_
   exact ⟨((x31), (x67), (F_spec_Near (x78)), x487), m728.keep0, ⟨_, _, _, _, rfl, (OLv.now (OLv.low o730 (z3 k9 k15 k18))), s36, (own_lo o731 (Nat.le_trans (z12 k9 k15 k18 k30 k52 k55 k61 k66 k77 k88 k93 k96) k101.size)), s720, ⟨⟨(apX (apL o35) (apO o719) (z9 k52 k55 k61 k66 k77 k88 k93 k96 k101)), trivial⟩, ⟨trivial, trivial⟩⟩⟩, (by (simp only []; omega))⟩
 refine ct h112 ?_
 refine wc_region ?_
 refine mw (vp g19 0) ?_
 refine cl wN (C_spec_l6Any w13 g19 a1 c2 x_code ⟨_, _, b106, (r3.from0 m111), s4, (by omega), (fun h0 z hz => Nat.ne_of_lt (Nat.lt_of_lt_of_le (rd_posB r3 h0 z hz) (Nat.le_trans (z2 k9 k15) p20)))⟩) ?_
 rintro _ w14 ⟨x115, k114, ⟨i117, h118, b119, r120, l121, p122, n123⟩, rfl, q116⟩
 have m124 := m111.ext k114 (fun k hk => by subst hk; exact Nat.le_trans (z2 k9 k15) p20)
 have b125 := ((b97.ch k101 (Ne.symm (Nat.ne_of_lt (Nat.lt_of_lt_of_le (Blk.lt b23) (Nat.le_trans (z7 k30 k52 k55 k61 k66 k77 k88) p91))))).ch k114 (Ne.symm (Nat.ne_of_lt (Nat.lt_of_lt_of_le (Blk.lt b23) (Nat.le_trans (z7 k30 k52 k55 k61 k66 k77 k88) p91)))))
 refine st (va (L_25 (x115))) (L_25 (x115)) (L_25 (x115)) wN sizeOf_25 b125 ?_
 intro w15 k126 b127 z128
 have m129 := m124.ext k126 (fun k hk => by subst hk; exact Nat.le_trans (z10 k9 k15 k18 k30 k52 k55 k61 k66 k77 k88) p91)
 refine wl_nil <| wq_then <| wc_seq ?_
 have zz16 := Nat.lt_of_lt_of_le p8 (Nat.le_trans k15.size p20)
 have b186 := ((((((((((((((b10.kp k15).kp k18).ch k30 (Nat.ne_of_lt zz16)).kp k52).ch k55 (Nat.ne_of_lt (Nat.lt_of_lt_of_le p8 (Nat.le_trans (z3 k15 k18 k30) p50)))).kp k61).ch k66 (Nat.ne_of_lt zz16)).ch k77 (Nat.ne_of_lt zz16)).kp k88).kp k93).ch k96 (Nat.ne_of_lt (Nat.lt_of_lt_of_le p8 (Nat.le_trans (z9 k15 k18 k30 k52 k55 k61 k66 k77 k88) p91)))).ch k101 (Nat.ne_of_lt zz16)).ch k114 (Nat.ne_of_lt zz16)).ch k126 (Nat.ne_of_lt (Nat.lt_of_lt_of_le p8 (Nat.le_trans (z9 k15 k18 k30 k52 k55 k61 k66 k77 k88) p91))))
 have b187 := (b119.ch k126 (Nat.ne_of_lt (Nat.lt_of_lt_of_le (Blk.lt b23) (Nat.le_trans (z7 k30 k52 k55 k61 k66 k77 k88) p91))))
 have zz17 := Nat.lt_of_lt_of_le p8 (Nat.le_trans k15.size p20)
 refine wc_drawT ([(24, [], [], (fun _ v _ => v = (va (L_28 (x31) a33 c34)))), (25, [], [], (fun _ v _ => v = (vi (x67)))), (26, [], [], (fun _ v _ => v = (va (L_25 (x115))))), (27, [], [], (fun _ v _ => v = (vp g19 0))), (28, [], [], (fun _ v _ => v = (vp g19 0))), (29, [], [], (fun _ v w => ∃ (a1 : Option Addr) (c1 : Nat), v = .slice a1 ([12, 12, 12, 12, 12, 11] : List Int).length c1 ∧ w.ownsRow w15.heap.size 3 1 (.slice a1 ([12, 12, 12, 12, 12, 11] : List Int).length c1) ([12, 12, 12, 12, 12, 11] : List Int).length (([12, 12, 12, 12, 12, 11] : List Int).map iV) ∧ ([12, 12, 12, 12, 12, 11] : List Int).length ≤ 1073741824 ∧ Aps [(a1, c1)])), (30, [], [4, 5], (fun _ v _ => ∃ x183 : Int, v = (vi x183) ∧ x183 ∈ ([12, 12, 12, 12, 12, 11] : List Int))), (31, [], [3, 4, 5, 6], (fun _ v w => ∃ (x184 : List UInt8) (a1 : Option Addr) (c1 : Nat), v = .slice a1 x184.length c1 ∧ w.ownsRow w15.heap.size 5 1 (.slice a1 x184.length c1) x184.length (x184.map bV) ∧ x184.length ≤ 1073741824 ∧ True)), (40, [], [0, 3, 4, 5, 6, 7], (fun _ _ w => BK w g6 28 0 ((L_28 (x31) a33 c34)))), (3, [], [0, 1, 3, 4, 5, 6, 7, 8], (fun _ v _ => v = (vi (x67))))] : GV) (fun lf w' => Ch (fun k => k = g6 ∨ k = g19) w15 w' ∧ RK lf w' g6 28 [(vi 0), (vi 0), (vs none 0 0)] [(8, 0, 3)] ∧ CurX w' g19 111 a1 c2 x_code) [(6, fun w w' => Ch (fun k => k = g19) w w' ∧ (CurX w g19 111 a1 c2 x_code → CurX w' g19 111 a1 c2 x_code)), (7, fun w w' => Ch (fun k => k = g19) w w' ∧ (CurX w g19 111 a1 c2 x_code → CurX w' g19 111 a1 c2 x_code)), (8, TK g6 28 0 3)] mixed rfl (by kernel_rfl) (by kernel_rfl) ?_ (fun _ _ h => ⟨h.to _, RK.z b186 h, CurX.kp ⟨_, _, b187, (r3.from0 m129), s4, (by omega), (fun h0 z hz => Nat.ne_of_lt (Nat.lt_of_lt_of_le (rd_posB r3 h0 z hz) (Nat.le_trans (z2 k9 k15) p20)))⟩ h⟩) (fun _ _ _ _ h mo k => by obtain ⟨hc, hbg6, hcur⟩ := h; exact ⟨hc.comp k (fun _ _ q => q.elim), hbg6.kp mo k, hcur.kp k⟩) ⟨(fun _ _ w w' h mo hj t => by obtain ⟨hc, hbg6, hcur⟩ := h; exact ⟨hc.comp t.1 (fun _ _ q => (.inr q)), hbg6.ch mo t.1 (Nat.ne_of_lt zz17), t.2 hcur⟩), ⟨(fun _ _ w w' h mo hj t => by obtain ⟨hc, hbg6, hcur⟩ := h; exact ⟨hc.comp t.1 (fun _ _ q => (.inr q)), hbg6.ch mo t.1 (Nat.ne_of_lt zz17), t.2 hcur⟩), ⟨(fun _ _ w w' h mo hj t => by obtain ⟨hc, hbg6, hcur⟩ := h; exact ⟨hc.comp t.1 (fun _ _ q => (.inl q)), hbg6.st mo hj (.head _) t, hcur.ch t.1 (Ne.symm (Nat.ne_of_lt zz17)) (fun h0 z hz => Nat.ne_of_lt (Nat.lt_of_lt_of_le (rd_posB r3 h0 z hz) (p7)))⟩), trivial⟩⟩⟩ ?_ ?_ ?_
 ·exact ⟨hV, hE, ⟨hV, hE, ⟨hV, hE, ⟨hV, hE, ⟨hV, hE, ⟨(fun e v w w1 h hk => by obtain ⟨a0x, c0x, he, o0x, l0x, hap⟩ := h; exact ⟨a0x, c0x, he, own_kp o0x hk, l0x, hap⟩), hE, ⟨hV, hE, ⟨(fun e v w w1 h hk => by obtain ⟨x0x, a0x, c0x, he, o0x, l0x, p0x⟩ := h; exact ⟨x0x, a0x, c0x, he, own_kp o0x hk, l0x, p0x⟩), hE, ⟨sK, hE, ⟨hV, hE, trivial⟩⟩⟩⟩⟩⟩⟩⟩⟩⟩
 ·have zz18 := Nat.lt_of_lt_of_le (Blk.lt b23) (z12 k30 k52 k55 k61 k66 k77 k88 k93 k96 k101 k114 k126)
  exact ⟨⟨.inr hV, ⟨.inr hV, ⟨.inr hV, ⟨.inr hV, ⟨.inr hV, ⟨.inr (fun e v wX wY h ht => by obtain ⟨a0x, c0x, he, o0x, l0x, hap⟩ := h; exact ⟨a0x, c0x, he, own_ch o0x ht.1 (fun gq hg _ hk => by have h1 := (own_lt o0x gq hg).1; have h3 : gq = g19 := hk; have h4 := zz18; omega), l0x, hap⟩), ⟨.inl rfl, ⟨.inr (fun e v wX wY h ht => by obtain ⟨x0x, a0x, c0x, he, o0x, l0x, p0x⟩ := h; exact ⟨x0x, a0x, c0x, he, own_ch o0x ht.1 (fun gq hg _ hk => by have h1 := (own_lt o0x gq hg).1; have h3 : gq = g19 := hk; have h4 := zz18; omega), l0x, p0x⟩), ⟨.inr (sKo (fun _ _ t => t.1) (Nat.ne_of_lt (Nat.lt_of_lt_of_le p8 (Nat.le_trans k15.size p20)))), ⟨.inr hV, trivial⟩⟩⟩⟩⟩⟩⟩⟩⟩⟩, ⟨⟨.inr hV, ⟨.inr hV, ⟨.inr hV, ⟨.inr hV, ⟨.inr hV, ⟨.inr (fun e v wX wY h ht => by obtain ⟨a0x, c0x, he, o0x, l0x, hap⟩ := h; exact ⟨a0x, c0x, he, own_ch o0x ht.1 (fun gq hg _ hk => by have h1 := (own_lt o0x gq hg).1; have h3 : gq = g19 := hk; have h4 := zz18; omega), l0x, hap⟩), ⟨.inr hV, ⟨.inl rfl, ⟨.inr (sKo (fun _ _ t => t.1) (Nat.ne_of_lt (Nat.lt_of_lt_of_le p8 (Nat.le_trans k15.size p20)))), ⟨.inr hV, trivial⟩⟩⟩⟩⟩⟩⟩⟩⟩⟩, ⟨⟨.inr hV, ⟨.inr hV, ⟨.inr hV, ⟨.inr hV, ⟨.inr hV, ⟨.inr (fun e v wX wY h ht => by obtain ⟨a0x, c0x, he, o0x, l0x, hap⟩ := h; exact ⟨a0x, c0x, he, own_ch o0x ht.1 (fun gq hg _ hk => by have h1 := (own_lt o0x gq hg).1; have h3 : gq = g6 := hk; have h4 := (Nat.lt_of_lt_of_le p8 (t3 (z12 k15 k18 k30 k52 k55 k61 k66 k77 k88 k93 k96 k101) k114.size k126.size)); omega), l0x, hap⟩), ⟨.inr hV, ⟨.inr (fun e v wX wY h ht => by obtain ⟨x0x, a0x, c0x, he, o0x, l0x, p0x⟩ := h; exact ⟨x0x, a0x, c0x, he, own_ch o0x ht.1 (fun gq hg _ hk => by have h1 := (own_lt o0x gq hg).1; have h3 : gq = g6 := hk; have h4 := (Nat.lt_of_lt_of_le p8 (t3 (z12 k15 k18 k30 k52 k55 k61 k66 k77 k88 k93 k96 k101) k114.size k126.size)); omega), l0x, p0x⟩), ⟨.inl rfl, ⟨.inr hV, trivial⟩⟩⟩⟩⟩⟩⟩⟩⟩⟩, trivial⟩⟩⟩
 ·refine ⟨?_, ⟨?_, ⟨?_, ⟨?_, ⟨?_, ⟨?_, ⟨?_, ⟨?_, ⟨?_, ⟨?_, trivial⟩⟩⟩⟩⟩⟩⟩⟩⟩⟩
  ·rintro lf w16 ⟨k188, b189, ⟨i193, h194, b195, r196, l197, p198, n199⟩⟩ ⟨n190, n191, n192, -⟩
   rintro _ _ _ _ _ _ _ _ _ _
   show WL _ _ _ _ _ _ _
   have zz19 := Nat.lt_of_lt_of_le (Blk.lt b23) (Nat.le_trans k30.size p50)
   have b201 := ((((((((((b56.kp k61).ch k66 (Ne.symm (Nat.ne_of_lt zz19))).ch k77 (Ne.symm (Nat.ne_of_lt zz19))).kp k88).kp k93).ch k96 (Nat.ne_of_lt (Nat.lt_of_lt_of_le p51 (Nat.le_trans (z5 k55 k61 k66 k77 k88) p91)))).ch k101 (Ne.symm (Nat.ne_of_lt zz19))).ch k114 (Ne.symm (Nat.ne_of_lt zz19))).ch k126 (Nat.ne_of_lt (Nat.lt_of_lt_of_le p51 (Nat.le_trans (z5 k55 k61 k66 k77 k88) p91)))).ch k188 (fun h => Or.elim h (Ne.symm (Nat.ne_of_lt (Nat.lt_of_lt_of_le p8 (Nat.le_trans (z3 k15 k18 k30) p50)))) (Ne.symm (Nat.ne_of_lt zz19))))
   refine lN (L_28 (x31) a33 c34) wN isAgg_28 sizeOf_28 b201 ?_
   exact f1
  ·rintro lf w16 ⟨k202, b203, ⟨i207, h208, b209, r210, l211, p212, n213⟩⟩ ⟨n204, n205, n206, -⟩
   rintro _ _ _ _ _ _ _ _ _ _
   show WL _ _ _ _ _ _ _
   refine mw (vi (x67)) ?_
   exact f1
  ·rintro lf w16 ⟨k215, b216, ⟨i220, h221, b222, r223, l224, p225, n226⟩⟩ ⟨n217, n218, n219, -⟩
   rintro _ _ _ _ _ _ _ _ _ _
   show WL _ _ _ _ _ _ _
   have b228 := (b127.ch k215 (fun h => Or.elim h (Ne.symm (Nat.ne_of_lt (Nat.lt_of_lt_of_le p8 (Nat.le_trans (z9 k15 k18 k30 k52 k55 k61 k66 k77 k88) p91)))) (Ne.symm (Nat.ne_of_lt (Nat.lt_of_lt_of_le (Blk.lt b23) (Nat.le_trans (z7 k30 k52 k55 k61 k66 k77 k88) p91))))))
   refine lN (L_25 (x115)) wN isAgg_25 sizeOf_25 b228 ?_
   exact f1
  ·rintro lf w16 ⟨k229, b230, ⟨i234, h235, b236, r237, l238, p239, n240⟩⟩ ⟨n231, n232, n233, -⟩
   rintro _ _ _ _ _ _ _ _ _ _
   show WL _ _ _ _ _ _ _
   refine mw (vp g19 0) ?_
   exact f1
  ·rintro lf w16 ⟨k242, b243, ⟨i247, h248, b249, r250, l251, p252, n253⟩⟩ ⟨n244, n245, n246, -⟩
   rintro _ _ _ _ _ _ _ _ _ _
   show WL _ _ _ _ _ _ _
   refine mw (vp g19 0) ?_
   exact f1
  ·rintro lf w16 ⟨k255, b256, ⟨i260, h261, b262, r263, l264, p265, n266⟩⟩ ⟨n257, n258, n259, -⟩
   rintro _ _ _ _ _ _ _ _ _ _
   show WL _ _ _ _ _ _ _
   refine ltI ([12, 12, 12, 12, 12, 11] : List Int) wN slTy_56 ?_
   intro a268 c269 w17 k270 o271
   exact wl_finT k270 ⟨_, _, rfl, (own_lo o271 k255.size), (by simp), ⟨trivial, trivial⟩⟩
  ·rintro lf w16 ⟨k274, b275, ⟨i279, h280, b281, r282, l283, p284, n285⟩⟩ ⟨n276, n277, n278, -⟩
   have m286 := m129.ext k274 (fun k hk => (fun hk => Or.elim hk (fun hk => by subst hk; exact p7) (fun hk => by subst hk; exact Nat.le_trans (z2 k9 k15) p20)) hk)
   rintro _ _ _ _ _ rfl _ ⟨a288, c289, rfl, o290, s291, -⟩ _ _ _ _
   show WL _ _ _ _ _ _ _
   refine cl wN (C_spec_l1Int w16 g19 a1 c2 x_code ⟨_, _, b281, (r3.from0 m286), s4, (by omega), (fun h0 z hz => Nat.ne_of_lt (Nat.lt_of_lt_of_le (rd_posB r3 h0 z hz) (Nat.le_trans (z2 k9 k15) p20)))⟩ _ ([12, 12, 12, 12, 12, 11] : List Int) ⟨_, _, rfl, (Rd.of_own o290), s291, (fun _ z hz => by have h1 := (own_lt o290 z.block (by rw [hz]; rfl)).1; have h2 := Nat.lt_of_lt_of_le (Blk.lt b23) (z12 k30 k52 k55 k61 k66 k77 k88 k93 k96 k101 k114 k126); omega)⟩ (by simp)) ?_
   rintro _ w17 ⟨x294, k293, ⟨i296, h297, b298, r299, l300, p301, n302⟩, rfl, q295⟩
   have m303 := m286.ext k293 (fun k hk => by subst hk; exact Nat.le_trans (z2 k9 k15) p20)
   have q295m : x294 = 12 ∨ x294 = 12 ∨ x294 = 12 ∨ x294 = 12 ∨ x294 = 12 ∨ x294 = 11 := by simpa only [List.mem_cons, List.not_mem_nil, or_false] using q295
   exact wl_finT ⟨k293, fun _ => ⟨_, _, b298, (r3.from0 m303), s4, (by omega), (fun h0 z hz => Nat.ne_of_lt (Nat.lt_of_lt_of_le (rd_posB r3 h0 z hz) (Nat.le_trans (z2 k9 k15) p20)))⟩⟩ ⟨_, rfl, q295⟩
  ·rintro lf w16 ⟨k304, b305, ⟨i309, h310, b311, r312, l313, p314, n315⟩⟩ ⟨n306, n307, n308, -⟩
   have m316 := m129.ext k304 (fun k hk => (fun hk => Or.elim hk (fun hk => by subst hk; exact p7) (fun hk => by subst hk; exact Nat.le_trans (z2 k9 k15) p20)) hk)
   rintro _ _ _ _ rfl _ rfl _ ⟨a318, c319, rfl, o320, s321, -⟩ _ ⟨x183, rfl, q323⟩
   have q323m : x183 = 12 ∨ x183 = 12 ∨ x183 = 12 ∨ x183 = 12 ∨ x183 = 12 ∨ x183 = 11 := by simpa only [List.mem_cons, List.not_mem_nil, or_false] using q323
   rintro _ _ _
   show WL _ _ _ _ _ _ _
   refine cl wN (C_spec_l1Bytes w16 g19 a1 c2 x_code ⟨_, _, b311, (r3.from0 m316), s4, (by omega), (fun h0 z hz => Nat.ne_of_lt (Nat.lt_of_lt_of_le (rd_posB r3 h0 z hz) (Nat.le_trans (z2 k9 k15) p20)))⟩ x183 (by omega)) ?_
   rintro _ w17 ⟨x325, k324, ⟨i333, h334, b335, r336, l337, p338, n339⟩, ⟨a327, c328, rfl, o329, s330, ap332⟩, q326⟩
   have m340 := m316.ext k324 (fun k hk => by subst hk; exact Nat.le_trans (z2 k9 k15) p20)
   exact wl_finT ⟨k324, fun _ => ⟨_, _, b335, (r3.from0 m340), s4, (by omega), (fun h0 z hz => Nat.ne_of_lt (Nat.lt_of_lt_of_le (rd_posB r3 h0 z hz) (Nat.le_trans (z2 k9 k15) p20)))⟩⟩ ⟨_, _, _, rfl, own_lo o329 k304.size, s330, trivial⟩
  ·rintro lf w16 ⟨k341, b342, ⟨i346, h347, b348, r349, l350, p351, n352⟩⟩ ⟨n343, n344, n345, -⟩
   rintro _ rfl _ _ _ rfl _ rfl _ ⟨a355, c356, rfl, o357, s358, -⟩ _ ⟨x183, rfl, q360⟩
   have q360m : x183 = 12 ∨ x183 = 12 ∨ x183 = 12 ∨ x183 = 12 ∨ x183 = 12 ∨ x183 = 11 := by simpa only [List.mem_cons, List.not_mem_nil, or_false] using q360
   rintro _ ⟨x184, a362, c363, rfl, o364, s365, q361⟩ _ _
   show WL _ _ _ _ _ _ _
   exact stK (va (L_28 (x31) a33 c34)) (L_28 (x31) a33 c34) wN sizeOf_28 b342 (fun _ h => h) (fun _ t => t)
  ·rintro lf w16 ⟨k367, b368, ⟨i372, h373, b374, r375, l376, p377, n378⟩⟩ ⟨n369, n370, n371, -⟩
   rintro _ rfl _ rfl _ _ rfl _ rfl _ ⟨a381, c382, rfl, o383, s384, -⟩ _ ⟨x183, rfl, q386⟩
   have q386m : x183 = 12 ∨ x183 = 12 ∨ x183 = 12 ∨ x183 = 12 ∨ x183 = 12 ∨ x183 = 11 := by simpa only [List.mem_cons, List.not_mem_nil, or_false] using q386
   rintro _ ⟨x184, a388, c389, rfl, o390, s391, q387⟩ _ _ _
   show WL _ _ _ _ _ _ _
   refine aw (vi (x67)) ?_
   exact f1
 ·rintro lf w16 ⟨k393, b394, ⟨i398, h399, b400, r401, l402, p403, n404⟩⟩
  have m405 := m129.ext k393 (fun k hk => (fun hk => Or.elim hk (fun hk => by subst hk; exact p7) (fun hk => by subst hk; exact Nat.le_trans (z2 k9 k15) p20)) hk)
  rintro _ rfl _ rfl _ rfl _ rfl _ rfl _ ⟨a408, c409, rfl, o410, s411, -⟩ _ ⟨x183, rfl, q413⟩
  have q413m : x183 = 12 ∨ x183 = 12 ∨ x183 = 12 ∨ x183 = 12 ∨ x183 = 12 ∨ x183 = 11 := by simpa only [List.mem_cons, List.not_mem_nil, or_false] using q413
  rintro _ ⟨x184, a415, c416, rfl, o417, s418, q414⟩ _ b420 _ rfl
  have b421 : Blk w16 g6 28 (L_28 (x31) a33 c34) := RK.fin b394 [(0, (L_28 (x31) a33 c34))] ⟨b420, trivial⟩
  show WL _ _ _ _ _ _ _
  have zz20 := Nat.lt_of_lt_of_le p14 (p20)
  have b422 := ((((((((((((((b16.kp k18).ch k30 (Nat.ne_of_lt zz20)).kp k52).ch k55 (Nat.ne_of_lt (Nat.lt_of_lt_of_le p14 (Nat.le_trans (z2 k18 k30) p50)))).kp k61).ch k66 (Nat.ne_of_lt zz20)).ch k77 (Nat.ne_of_lt zz20)).kp k88).kp k93).ch k96 (Nat.ne_of_lt (Nat.lt_of_lt_of_le p14 (Nat.le_trans (z8 k18 k30 k52 k55 k61 k66 k77 k88) p91)))).ch k101 (Nat.ne_of_lt zz20)).ch k114 (Nat.ne_of_lt zz20)).ch k126 (Nat.ne_of_lt (Nat.lt_of_lt_of_le p14 (Nat.le_trans (z8 k18 k30 k52 k55 k61 k66 k77 k88) p91)))).ch k393 (fun h => Or.elim h (Ne.symm (Nat.ne_of_lt (Nat.lt_of_lt_of_le p8 (p13)))) (Nat.ne_of_lt zz20)))
  refine st (va (L_25 (x115))) (L_25 (x115)) (L_25 (x115)) wN sizeOf_25 b422 ?_
  intro w17 k423 b424 z425
  have m426 := m405.ext k423 (fun k hk => by subst hk; exact Nat.le_trans k9.size p13)
  refine aw (vs a415 x184.length c416) ?_
  refine n3 ?_
  have b427 := (b421.ch k423 (Nat.ne_of_lt (Nat.lt_of_lt_of_le p8 (p13))))
  have zz21 := Nat.le_refl w3.heap.size
  have o428 := (OLv.ch (OLv.ch (OLv.ch (OLv.ch (OLv.ch (OLv.ch (OLv.kp (OLv.kp (OLv.ch (OLv.ch (OLv.kp (OLv.ch (OLv.kp o35 k52) k55 (fun g h1 h2 hk => by have h3 := Nat.le_trans (Nat.le_refl w4.heap.size) p50; omega)) k61) k66 (fun g h1 h2 hk => by have h3 := Nat.lt_of_lt_of_le (Blk.lt b23) zz21; omega)) k77 (fun g h1 h2 hk => by have h3 := Nat.lt_of_lt_of_le (Blk.lt b23) zz21; omega)) k88) k93) k96 (fun g h1 h2 hk => by have h3 := Nat.le_trans (z6 k52 k55 k61 k66 k77 k88) p91; omega)) k101 (fun g h1 h2 hk => by have h3 := Nat.lt_of_lt_of_le (Blk.lt b23) zz21; omega)) k114 (fun g h1 h2 hk => by have h3 := Nat.lt_of_lt_of_le (Blk.lt b23) zz21; omega)) k126 (fun g h1 h2 hk => by have h3 := Nat.le_trans (z6 k52 k55 k61 k66 k77 k88) p91; omega)) k393 (fun g h1 h2 hk => Or.elim hk (fun hk => (fun g h1 h2 hk => by have h3 := Nat.lt_of_lt_of_le p8 (z2 k15 k18); omega) g h1 h2 hk) (fun hk => (fun g h1 h2 hk => by have h3 := Nat.lt_of_lt_of_le (Blk.lt b23) zz21; omega) g h1 h2 hk))) k423 (fun g h1 h2 hk => by have h3 := Nat.lt_of_lt_of_le p14 k18.size; omega))
  have o429 := (own_ch o417 k423 (ne1 o417 (Nat.lt_of_lt_of_le p14 (Nat.le_trans (z12 k18 k30 k52 k55 k61 k66 k77 k88 k93 k96 k101 k114) k126.size))))
  refine ret_4 (.inl rfl) (va (L_28 (x31) a33 c34)) (vi (x67)) (va (L_25 (x115))) (vs a415 x184.length c416) rfl (rv_c (L_28 (x31) a33 c34) rfl b427 isAgg_28 sizeOf_28) rfl (rv_c (L_25 (x115)) rfl b424 isAgg_25 sizeOf_25) rfl ?_
  exact ⟨((x31), (x67), (x115), x184), m426.keep0, ⟨_, _, _, _, rfl, (OLv.now (OLv.low o428 (z3 k9 k15 k18))), s36, (own_lo o429 (t4 (z12 k9 k15 k18 k30 k52 k55 k61 k66 k77 k88 k93 k96) k101.size k114.size k126.size)), s418, ⟨⟨(apX (apL o35) (apO o417) (z11 k52 k55 k61 k66 k77 k88 k93 k96 k101 k114 k126)), trivial⟩, ⟨trivial, trivial⟩⟩⟩, (by (simp only []; omega))⟩

def F_impl_within (x_n : Int) (x_low : Int) (x_high : Int) : (Bool) := bif (decide (x_low ≤ x_n)) then (decide (x_n ≤ x_high)) else (false)
theorem C_impl_within (w0 : World) (x_n : Int) (x_low : Int) (x_high : Int)  : Fn Try.prog 55 #[(vi x_n), (vi x_low), (vi x_high)] w0 (fun v w' => Keep w0 w' ∧ O_4 w' w0.heap.size v (F_impl_within x_n x_low x_high)) := by
 refine fn_ofS (n := 15) [(vi x_n), (vi x_low), (vi x_high)] Try.func55 rfl rfl ?_
 refine sr ?_
 refine aw (vb false) ?_
 refine nx ?_
 refine mw (vi x_n) ?_
 refine mw (vi x_low) ?_
 refine pu (vb (decide (x_low ≤ x_n))) wN ?_
 refine mw (vb (decide (x_low ≤ x_n))) ?_
 rcases bf (decide (x_low ≤ x_n)) with h1 | h1
 ·have q4 := of_decide_eq_false h1
  iterate 3 refine sk h1 ?_
  refine pf (vb false) wN h1 ?_
  refine aw (vb false) ?_
  refine n3 ?_
  refine rt (vb false) ?_
  refine ⟨Ch.refl _ _, ?_⟩
  simp only [F_impl_within, h1, cond_true, cond_false]
  exact rfl
 have q2 := of_decide_eq_true h1
 refine mv (vi x_n) (wS h1) ?_
 refine mv (vi x_high) (wS h1) ?_
 refine pu (vb (decide (x_n ≤ x_high))) (wS h1) ?_
 refine pk (vb (decide (x_n ≤ x_high))) wN h1 ?_
 refine aw (vb (decide (x_n ≤ x_high))) ?_
 refine n3 ?_
 refine rt (vb (decide (x_n ≤ x_high))) ?_
 refine ⟨Ch.refl _ _, ?_⟩
 simp only [F_impl_within, h1, cond_true, cond_false]
 exact rfl
theorem impl_within_t {n a b : Int} (h : F_impl_within n a b = true) : a ≤ n ∧ n ≤ b := by
  unfold F_impl_within at h
  by_cases h1 : a ≤ n <;> simp [h1] at h
  exact ⟨h1, h⟩
theorem impl_within_f {n a b : Int} (h : F_impl_within n a b = false) : n < a ∨ b < n := by
  unfold F_impl_within at h
  by_cases h1 : a ≤ n <;> simp [h1] at h <;> omega

def F_impl_AddrOk (x_a : PAddr) : (Bool) := bif (F_impl_within x_a.Host 0 4294967295) then ((F_impl_within x_a.Port 0 65535)) else (false)
theorem C_impl_AddrOk (w0 : World) (v_x_a : Value) (x_a : PAddr) (r_x_a : R_25 w0 v_x_a x_a)  : Fn Try.prog 63 #[v_x_a] w0 (fun v w' => Keep w0 w' ∧ O_4 w' w0.heap.size v (F_impl_AddrOk x_a)) := by
 obtain rfl := r_x_a
 refine fn_ofS (n := 11) [(va (L_25 x_a))] Try.func63 rfl rfl ?_
 refine sr ?_
 refine bx (L_25 x_a) wN ?_
 intro g1 w1 p2 p3 k4 b5
 refine aw (vb false) ?_
 refine nx ?_
 refine pu (vp g1 0) wN ?_
 refine ld (vi x_a.Host) wN isAgg_3 b5 ?_
 refine cl wN (C_impl_within w1 x_a.Host 0 4294967295) ?_
 rintro _ w2 ⟨k7, rfl⟩
 have m8 := ((Ch.base w0).extk k4).extk k7
 refine mw (vb (F_impl_within x_a.Host 0 4294967295)) ?_
 rcases bf (F_impl_within x_a.Host 0 4294967295) with h9 | h9
 ·have q15 := impl_within_f h9
  iterate 3 refine sk h9 ?_
  refine pf (vb false) wN h9 ?_
  refine aw (vb false) ?_
  refine n3 ?_
  refine rt (vb false) ?_
  refine ⟨m8.keep0, ?_⟩
  simp only [F_impl_AddrOk, h9, cond_true, cond_false]
  exact rfl
 have q10 := impl_within_t h9
 refine pu (vp g1 1) (wS h9) ?_
 have b11 := (b5.kp k7)
 refine ld (vi x_a.Port) (wS h9) isAgg_3 b11 ?_
 refine cl (wS h9) (C_impl_within w2 x_a.Port 0 65535) ?_
 rintro _ w3 ⟨k12, rfl⟩
 have m13 := m8.extk k12
 refine pk (vb (F_impl_within x_a.Port 0 65535)) wN h9 ?_
 refine aw (vb (F_impl_within x_a.Port 0 65535)) ?_
 refine n3 ?_
 refine rt (vb (F_impl_within x_a.Port 0 65535)) ?_
 refine ⟨m13.keep0, ?_⟩
 simp only [F_impl_AddrOk, h9, cond_true, cond_false]
 exact rfl

def F_impl_isNonce (x_b : List UInt8) : (Bool) := decide ((x_b.length : Int) = 12)
theorem C_impl_isNonce (w0 : World) (v_x_b : Value) (x_b : List UInt8) (r_x_b : R_22 w0 v_x_b x_b)  : Fn Try.prog 64 #[v_x_b] w0 (fun v w' => Keep w0 w' ∧ O_4 w' w0.heap.size v (F_impl_isNonce x_b)) := by
 obtain ⟨a1, c2, rfl, r3, s4⟩ := r_x_b
 refine fn_ofS (n := 6) [(vs a1 x_b.length c2)] Try.func64 rfl rfl ?_
 refine sr ?_
 refine aw (vb false) ?_
 refine nx ?_
 refine mw (vs a1 x_b.length c2) ?_
 refine ln wN slTy_22 r3 ?_
 refine pu (vb (decide ((x_b.length : Int) = 12))) wN ?_
 refine aw (vb (decide ((x_b.length : Int) = 12))) ?_
 refine n3 ?_
 refine rt (vb (decide ((x_b.length : Int) = 12))) ?_
 refine ⟨Ch.refl _ _, ?_⟩
 have hF6 : F_impl_isNonce x_b = decide ((x_b.length : Int) = 12) := by rfl
 rw [hF6]
 exact rfl

def iPaJ (x_p : PPaths) (i j : Nat) : Bool := !(decide (((x_p.Cands.take i).getD j z_PCand).A.Host = (x_p.Cands.getD i z_PCand).A.Host) && decide (((x_p.Cands.take i).getD j z_PCand).A.Port = (x_p.Cands.getD i z_PCand).A.Port))
def iPaG (x_p : PPaths) (i : Nat) : Bool := (F_impl_AddrOk (x_p.Cands.getD i z_PCand).A) && ((!(decide ((x_p.Cands.getD i z_PCand).A.Host = x_p.At.Host) && decide ((x_p.Cands.getD i z_PCand).A.Port = x_p.At.Port))) && ((F_impl_isNonce (x_p.Cands.getD i z_PCand).Draw) && ((F_impl_within (x_p.Cands.getD i z_PCand).Until 0 1000006) && (allN (iPaJ x_p i) i))))
def iPa (x_p : PPaths) : Bool := bif F_impl_AddrOk x_p.At then (bif decide (3 < (x_p.Cands.length : Int)) then false else allN (iPaG x_p) x_p.Cands.length) else false
theorem C_impl_PathsOk (w0 : World) (v_x_p : Value) (x_p : PPaths) (r_x_p : R_28 w0 v_x_p x_p)  : Fn Try.prog 16 #[v_x_p] w0 (fun v w' => Keep w0 w' ∧ O_4 w' w0.heap.size v (iPa x_p)) := by
 obtain ⟨a1, c2, rfl, r3, s4⟩ := r_x_p
 refine fn_ofS (n := 64) [(va (L_28 x_p a1 c2))] Try.func16 rfl rfl ?_
 refine sr ?_
 refine bx (L_28 x_p a1 c2) wN ?_
 intro g6 w1 p7 p8 k9 b10
 have m11 := (Ch.base w0).extk k9
 refine aw (vb false) ?_
 refine n4 ?_
 refine jT1 [(1, (vp g6 0)), (2, (vb false))] (iPa x_p = false) ?_ fun J12 => ?_
 ·intro hA13 w2 k15 u14
  have m16 := m11.extk k15
  refine sr ?_
  refine aw (vb false) ?_
  refine n1 ?_
  refine rt (vb false) ?_
  refine ⟨m16.keep0, ?_⟩
  rw [hA13]
  exact rfl
 refine pu (vp g6 0) wN ?_
 refine lN (L_25 x_p.At) wN isAgg_25 sizeOf_25 b10 ?_
 refine cl wN (C_impl_AddrOk w1 _ x_p.At (mR_25)) ?_
 rintro _ w2 ⟨k18, rfl⟩
 have m19 := m11.extk k18
 refine pu (vb (!(F_impl_AddrOk x_p.At))) wN ?_
 refine mw (vb (!(F_impl_AddrOk x_p.At))) ?_
 rcases bf (F_impl_AddrOk x_p.At) with h20 | h20
 ·iterate 4 refine sk (congrArg not h20) ?_
  refine pk (vb true) wN (congrArg not h20) ?_
  refine n2 ?_
  refine ct (Eq.refl true) ?_
  have hF137 : iPa x_p = false := by simp [iPa, h20]
  exact wj (J12 hF137 _ k18)
 refine pu (vp g6 2) (wS (congrArg not h20)) ?_
 have b22 := (b10.kp k18)
 refine ld (vs a1 x_p.Cands.length c2) (wS (congrArg not h20)) isAgg_26 b22 ?_
 obtain ⟨y23, r24⟩ := RLv.row (r3.from0 m19)
 refine ln (wS (congrArg not h20)) slTy_26 r24 ?_
 refine pu (vb (decide (3 < (x_p.Cands.length : Int)))) (wS (congrArg not h20)) ?_
 refine pf (vb (decide (3 < (x_p.Cands.length : Int)))) wN (congrArg not h20) ?_
 refine n2 ?_
 rcases bt (decide (3 < (x_p.Cands.length : Int))) with h25 | h25
 ·have q26 := of_decide_eq_true h25
  refine ct h25 ?_
  have hF27 : iPa x_p = false := by simp [iPa, h20, h25]
  exact wj (J12 hF27 _ k18)
 have q28 := of_decide_eq_false h25
 refine cf h25 ?_
 refine y2 ?_
 refine pu (vp g6 2) wN ?_
 refine ld (vs a1 x_p.Cands.length c2) wN isAgg_26 b22 ?_
 obtain ⟨y29, r30⟩ := RLv.row (r3.from0 m19)
 refine ln wN slTy_26 r30 ?_
 refine mw (vi 0) ?_
 refine wl_nil <| wq_then <| wc_block ?_
 refine wc_loopP [(1, (vp g6 0)), (18, (vs a1 x_p.Cands.length c2)), (19, (vi (x_p.Cands.length : Int))), (20, (vi ((0 : Nat) : Int)))] ⟨rfl, rfl, rfl, (congrArg (Value.int .i64) (show (0 : Int) = ((0 : Nat) : Int) by omega)), trivial⟩ (fun e' w' => ∃ (k : Nat) (u31 : Env), e' = pt u31 [(1, (vp g6 0)), (18, (vs a1 x_p.Cands.length c2)), (19, (vi (x_p.Cands.length : Int))), (20, (vi ((k : Nat) : Int)))] ∧ Ch (fun k => w0.heap.size ≤ k) w0 w' ∧ Ch (fun k => w2.heap.size ≤ k) w2 w' ∧ k ≤ x_p.Cands.length ∧ (∀ j, j < k → iPaG x_p j = true)) (fun e' _ => x_p.Cands.length - ((intOf (e' 20))).toNat) ?_ ?_
 ·exact fun u => ⟨0, u, rfl, m19, (Ch.refl (fun k => w2.heap.size ≤ k) w2), (by omega), (by first | (intro j hj; omega) | (have hy := allN_t (f := iPaJ x_p k) (n := k) (k := j) (by assumption) (by omega); exact allN_next (by assumption) (by simp only [iPaG, hy, h20, h25]; simp)))⟩
 ·rintro _ w3 ⟨k, u31, rfl, m32, k33, i34, i35⟩
  refine sr ?_
  refine pu (vb (decide (((k : Nat) : Int) < (x_p.Cands.length : Int)))) wN ?_
  refine wl_nil <| wq_then <| wc_seq ?_
  rcases bf (decide (((k : Nat) : Int) < (x_p.Cands.length : Int))) with h36 | h36
  ·have q134 := of_decide_eq_false h36
   refine cf h36 ?_
   refine wc_exit <| wq_then_exit <| wq_then_exit <| wq_blk_exit <| wq_then <| sr ?_
   refine aw (vb true) ?_
   refine n3 ?_
   refine rt (vb true) ?_
   refine ⟨m32.keep0, ?_⟩
   have hF135 : iPa x_p = true := by have hz := allN_t (f := iPaG x_p) (n := x_p.Cands.length) (k := k) (by assumption) (by omega); simp only [iPa, h20, h25, h36, hz]; simp
   rw [hF135]
   exact rfl
  have q37 := of_decide_eq_true h36
  refine ct h36 ?_
  refine wc_skip <| wq_then <| wc_seq <| wc_block <| sr ?_
  refine mw (vi ((k : Nat) : Int)) ?_
  obtain ⟨y38, r39⟩ := RLv.row (r3.from0 m32)
  refine ix wN ((k : Nat) : Int) slTy_26 r39 ?_
  obtain ⟨y40, l41, r42, e43, u44⟩ := RLv.el z_PCand (i := k) r3 (by first | omega | (simp only [List.length_cons, List.length_nil, List.length_replicate, List.length_append, List.length_take, List.length_set, List.length_map]; omega))
  obtain ⟨a45, c46, l50, rfl, r47, s48, u51⟩ := SubR.c u44
  obtain rfl := SubR.n u51
  refine wl_loadEN [(vi (((x_p.Cands.getD k z_PCand).A).Host)), (vi (((x_p.Cands.getD k z_PCand).A).Port)), (vs a45 (x_p.Cands.getD k z_PCand).Draw.length c46), (vi ((x_p.Cands.getD k z_PCand).Until))] wN rfl rfl rfl rfl isAgg_34 sizeOf_34 (r42.from0 m32) (by first | omega | (simp only [List.length_cons, List.length_nil, List.length_replicate, List.length_append, List.length_take, List.length_set, List.length_map]; omega)) ((part_of (off := 0) (n := 4) e43 (by first | rfl | simp | omega) (by decide)).trans rfl) ?_
  refine al Z_34 wN zero_34 ?_
  intro g52 w4 p53 p54 k55 b56
  refine aw (vi ((k : Nat) : Int)) ?_
  refine sv [(vi (((x_p.Cands.getD k z_PCand).A).Host)), (vi (((x_p.Cands.getD k z_PCand).A).Port)), (vs a45 (x_p.Cands.getD k z_PCand).Draw.length c46), (vi ((x_p.Cands.getD k z_PCand).Until))] wN sizeOf_34 b56 ?_
  intro w5 k58 b59 z60
  have m61 := (m32.extk k55).ext k58 (fun k hk => by subst hk; exact Nat.le_trans (z3 k9 k18 k33) p53)
  refine n4 ?_
  refine pu (vp g52 0) wN ?_
  refine lN (L_25 ((x_p.Cands.getD k z_PCand).A)) wN isAgg_25 sizeOf_25 b59 ?_
  refine cl wN (C_impl_AddrOk w5 _ ((x_p.Cands.getD k z_PCand).A) (mR_25)) ?_
  rintro _ w6 ⟨k62, rfl⟩
  have m63 := m61.extk k62
  refine pu (vb (!(F_impl_AddrOk ((x_p.Cands.getD k z_PCand).A)))) wN ?_
  refine mw (vb (!(F_impl_AddrOk ((x_p.Cands.getD k z_PCand).A)))) ?_
  rcases bf (F_impl_AddrOk ((x_p.Cands.getD k z_PCand).A)) with h64 | h64
  ·iterate 5 refine sk (congrArg not h64) ?_
   refine pk (vb true) wN (congrArg not h64) ?_
   refine mw (vb true) ?_
   iterate 4 refine sk (Eq.refl true) ?_
   refine pk (vb true) wN (Eq.refl true) ?_
   refine mw (vb true) ?_
   iterate 4 refine sk (Eq.refl true) ?_
   refine pk (vb true) wN (Eq.refl true) ?_
   refine n2 ?_
   refine ct (Eq.refl true) ?_
   refine sr ?_
   refine aw (vb false) ?_
   refine wl_nil <| wq_then <| wc_ret <| wq_then_ret <| wq_blk_ret <| wq_then_ret <| wq_then_ret <| wq_blk_ret <| wq_then_ret ?_
   refine rt (vb false) ?_
   refine ⟨m63.keep0, ?_⟩
   have hF133 : iPa x_p = false := by have hz := allN_f (f := iPaG x_p) (n := x_p.Cands.length) (k := k) (by omega) (by simp only [iPaG, h20, h25, h36, h64]; simp); simp only [iPa, h20, h25, h36, h64, hz]; simp
   rw [hF133]
   exact rfl
  refine pu (vp g52 0) (wS (congrArg not h64)) ?_
  have b66 := (b59.kp k62)
  refine lN (L_25 ((x_p.Cands.getD k z_PCand).A)) (wS (congrArg not h64)) isAgg_25 sizeOf_25 b66 ?_
  refine pu (vp g6 0) (wS (congrArg not h64)) ?_
  have b67 := ((((b22.ch k33 (Nat.not_le.2 (Nat.lt_of_lt_of_le p8 k18.size))).kp k55).ch k58 (Nat.ne_of_lt (Nat.lt_of_lt_of_le p8 (Nat.le_trans (z2 k18 k33) p53)))).kp k62)
  refine lN (L_25 x_p.At) (wS (congrArg not h64)) isAgg_25 sizeOf_25 b67 ?_
  refine wl_aggeq ((decide ((((x_p.Cands.getD k z_PCand).A).Host) = x_p.At.Host) && decide ((((x_p.Cands.getD k z_PCand).A).Port) = x_p.At.Port))) (wS (congrArg not h64)) rfl rfl rfl rfl rfl guardt_25 (aggeq_25 (((x_p.Cands.getD k z_PCand).A).Host) x_p.At.Host (((x_p.Cands.getD k z_PCand).A).Port) x_p.At.Port w6) ?_
  refine pf (vb (decide ((((x_p.Cands.getD k z_PCand).A).Host) = x_p.At.Host) && decide ((((x_p.Cands.getD k z_PCand).A).Port) = x_p.At.Port))) wN (congrArg not h64) ?_
  refine mw (vb (decide ((((x_p.Cands.getD k z_PCand).A).Host) = x_p.At.Host) && decide ((((x_p.Cands.getD k z_PCand).A).Port) = x_p.At.Port))) ?_
  rcases bt (decide ((((x_p.Cands.getD k z_PCand).A).Host) = x_p.At.Host) && decide ((((x_p.Cands.getD k z_PCand).A).Port) = x_p.At.Port)) with h68 | h68
  ·iterate 4 refine sk h68 ?_
   refine pk (vb true) wN h68 ?_
   refine mw (vb true) ?_
   iterate 4 refine sk (Eq.refl true) ?_
   refine pk (vb true) wN (Eq.refl true) ?_
   refine n2 ?_
   refine ct (Eq.refl true) ?_
   refine sr ?_
   refine aw (vb false) ?_
   refine wl_nil <| wq_then <| wc_ret <| wq_then_ret <| wq_blk_ret <| wq_then_ret <| wq_then_ret <| wq_blk_ret <| wq_then_ret ?_
   refine rt (vb false) ?_
   refine ⟨m63.keep0, ?_⟩
   have hF70 : iPa x_p = false := by have hz := allN_f (f := iPaG x_p) (n := x_p.Cands.length) (k := k) (by omega) (by simp only [iPaG, h20, h25, h36, h64, h68]; simp); simp only [iPa, h20, h25, h36, h64, h68, hz]; simp
   rw [hF70]
   exact rfl
  refine pu (vp g52 2) (wS h68) ?_
  refine ld (vs a45 (x_p.Cands.getD k z_PCand).Draw.length c46) (wS h68) isAgg_22 b66 ?_
  refine cl (wS h68) (C_impl_isNonce w6 _ ((x_p.Cands.getD k z_PCand).Draw) (mR_22 (r47.from0 m63) s48)) ?_
  rintro _ w7 ⟨k72, rfl⟩
  have m73 := m63.extk k72
  refine pu (vb (!(F_impl_isNonce ((x_p.Cands.getD k z_PCand).Draw)))) (wS h68) ?_
  refine pf (vb (!(F_impl_isNonce ((x_p.Cands.getD k z_PCand).Draw)))) wN h68 ?_
  refine mw (vb (!(F_impl_isNonce ((x_p.Cands.getD k z_PCand).Draw)))) ?_
  rcases bf (F_impl_isNonce ((x_p.Cands.getD k z_PCand).Draw)) with h74 | h74
  ·iterate 4 refine sk (congrArg not h74) ?_
   refine pk (vb true) wN (congrArg not h74) ?_
   refine n2 ?_
   refine ct (Eq.refl true) ?_
   refine sr ?_
   refine aw (vb false) ?_
   refine wl_nil <| wq_then <| wc_ret <| wq_then_ret <| wq_blk_ret <| wq_then_ret <| wq_then_ret <| wq_blk_ret <| wq_then_ret ?_
   refine rt (vb false) ?_
   refine ⟨m73.keep0, ?_⟩
   have hF131 : iPa x_p = false := by have hz := allN_f (f := iPaG x_p) (n := x_p.Cands.length) (k := k) (by omega) (by simp only [iPaG, h20, h25, h36, h64, h68, h74]; simp); simp only [iPa, h20, h25, h36, h64, h68, h74, hz]; simp
   rw [hF131]
   exact rfl
  refine pu (vp g52 3) (wS (congrArg not h74)) ?_
  have b76 := (b66.kp k72)
  refine ld (vi ((x_p.Cands.getD k z_PCand).Until)) (wS (congrArg not h74)) isAgg_3 b76 ?_
  refine cl (wS (congrArg not h74)) (C_impl_within w7 ((x_p.Cands.getD k z_PCand).Until) 0 1000006) ?_
  rintro _ w8 ⟨k77, rfl⟩
  have m78 := m73.extk k77
  refine pu (vb (!(F_impl_within ((x_p.Cands.getD k z_PCand).Until) 0 1000006))) (wS (congrArg not h74)) ?_
  refine pf (vb (!(F_impl_within ((x_p.Cands.getD k z_PCand).Until) 0 1000006))) wN (congrArg not h74) ?_
  refine n2 ?_
  rcases bf (F_impl_within ((x_p.Cands.getD k z_PCand).Until) 0 1000006) with h79 | h79
  ·have q128 := impl_within_f h79
   refine ct (congrArg not h79) ?_
   refine sr ?_
   refine aw (vb false) ?_
   refine wl_nil <| wq_then <| wc_ret <| wq_then_ret <| wq_blk_ret <| wq_then_ret <| wq_then_ret <| wq_blk_ret <| wq_then_ret ?_
   refine rt (vb false) ?_
   refine ⟨m78.keep0, ?_⟩
   have hF129 : iPa x_p = false := by have hz := allN_f (f := iPaG x_p) (n := x_p.Cands.length) (k := k) (by omega) (by simp only [iPaG, h20, h25, h36, h64, h68, h74, h79]; simp); simp only [iPa, h20, h25, h36, h64, h68, h74, h79, hz]; simp
   rw [hF129]
   exact rfl
  have q80 := impl_within_t h79
  refine cf (congrArg not h79) ?_
  refine y1 ?_
  refine pu (vp g6 2) wN ?_
  have b81 := ((b67.kp k72).kp k77)
  refine ld (vs a1 x_p.Cands.length c2) wN isAgg_26 b81 ?_
  refine mw (vi ((k : Nat) : Int)) ?_
  have q83 : 0 ≤ k := (by first | omega | (simp only [List.length_cons, List.length_nil, List.length_replicate, List.length_append, List.length_take, List.length_set, List.length_map]; omega))
  have q84 : k ≤ x_p.Cands.length := (by first | omega | (simp only [List.length_cons, List.length_nil, List.length_replicate, List.length_append, List.length_take, List.length_set, List.length_map]; omega))
  obtain ⟨y85, r86⟩ := RLv.row (r3.from0 m78)
  refine slvR 0 k wN slTy_26 r86 q83 q84 rfl rfl rfl rfl (.inl ⟨rfl, rfl⟩) (.inr ⟨_, _, _, rfl, rfl, by omega⟩) ?_
  have r87 := RLv.sub (x' := (x_p.Cands.take k)) r3 q83 q84 (by first | rfl | (simp; done) | (rw [List.take_of_length_le (by first | (simp; done) | (simp; omega))]))
  obtain ⟨y89, r90⟩ := RLv.row (r87.from0 m78)
  refine ln wN slTy_26 r90 ?_
  refine mw (vi 0) ?_
  refine wl_nil <| wq_then <| wc_block ?_
  refine wc_loopP [(1, (vp g6 0)), (3, (vi ((k : Nat) : Int))), (4, (vp g52 0)), (18, (vs a1 x_p.Cands.length c2)), (19, (vi (x_p.Cands.length : Int))), (20, (vi ((k : Nat) : Int))), (21, (vb (decide (((k : Nat) : Int) < (x_p.Cands.length : Int))))), (22, (vi ((k : Nat) : Int))), (23, (ve (vs a1 x_p.Cands.length c2) ((((k : Nat) : Int)).toNat * 4))), (24, (va [(vi (((x_p.Cands.getD k z_PCand).A).Host)), (vi (((x_p.Cands.getD k z_PCand).A).Port)), (vs a45 (x_p.Cands.getD k z_PCand).Draw.length c46), (vi ((x_p.Cands.getD k z_PCand).Until))])), (25, (vp g52 0)), (26, (va (L_25 ((x_p.Cands.getD k z_PCand).A)))), (27, (vb (F_impl_AddrOk ((x_p.Cands.getD k z_PCand).A)))), (28, (vb (!(F_impl_AddrOk ((x_p.Cands.getD k z_PCand).A))))), (29, (vb (!(F_impl_AddrOk ((x_p.Cands.getD k z_PCand).A))))), (30, (vp g52 0)), (31, (va (L_25 ((x_p.Cands.getD k z_PCand).A)))), (32, (vp g6 0)), (33, (va (L_25 x_p.At))), (34, (vb (decide ((((x_p.Cands.getD k z_PCand).A).Host) = x_p.At.Host) && decide ((((x_p.Cands.getD k z_PCand).A).Port) = x_p.At.Port)))), (35, (vb (decide ((((x_p.Cands.getD k z_PCand).A).Host) = x_p.At.Host) && decide ((((x_p.Cands.getD k z_PCand).A).Port) = x_p.At.Port)))), (36, (vb (decide ((((x_p.Cands.getD k z_PCand).A).Host) = x_p.At.Host) && decide ((((x_p.Cands.getD k z_PCand).A).Port) = x_p.At.Port)))), (37, (vp g52 2)), (38, (vs a45 (x_p.Cands.getD k z_PCand).Draw.length c46)), (39, (vb (F_impl_isNonce ((x_p.Cands.getD k z_PCand).Draw)))), (40, (vb (!(F_impl_isNonce ((x_p.Cands.getD k z_PCand).Draw))))), (41, (vb (!(F_impl_isNonce ((x_p.Cands.getD k z_PCand).Draw))))), (42, (vb (!(F_impl_isNonce ((x_p.Cands.getD k z_PCand).Draw))))), (43, (vp g52 3)), (44, (vi ((x_p.Cands.getD k z_PCand).Until))), (45, (vb (F_impl_within ((x_p.Cands.getD k z_PCand).Until) 0 1000006))), (46, (vb (!(F_impl_within ((x_p.Cands.getD k z_PCand).Until) 0 1000006)))), (47, (vb (!(F_impl_within ((x_p.Cands.getD k z_PCand).Until) 0 1000006)))), (48, (vp g6 2)), (49, (vs a1 x_p.Cands.length c2)), (50, (vi ((k : Nat) : Int))), (51, (vs (subA a1 c2 0 4) (k - 0) (c2 - 0))), (52, (vi ((k - 0) : Int))), (53, (vi ((0 : Nat) : Int)))] ⟨rfl, rfl, rfl, rfl, rfl, rfl, rfl, rfl, rfl, rfl, rfl, rfl, rfl, rfl, rfl, rfl, rfl, rfl, rfl, rfl, rfl, rfl, rfl, rfl, rfl, rfl, rfl, rfl, rfl, rfl, rfl, rfl, rfl, rfl, rfl, rfl, rfl, rfl, (congrArg (Value.int .i64) (show (0 : Int) = ((0 : Nat) : Int) by omega)), trivial⟩ (fun e' w' => ∃ (j : Nat) (u91 : Env), e' = pt u91 [(1, (vp g6 0)), (3, (vi ((k : Nat) : Int))), (4, (vp g52 0)), (18, (vs a1 x_p.Cands.length c2)), (19, (vi (x_p.Cands.length : Int))), (20, (vi ((k : Nat) : Int))), (21, (vb (decide (((k : Nat) : Int) < (x_p.Cands.length : Int))))), (22, (vi ((k : Nat) : Int))), (23, (ve (vs a1 x_p.Cands.length c2) ((((k : Nat) : Int)).toNat * 4))), (24, (va [(vi (((x_p.Cands.getD k z_PCand).A).Host)), (vi (((x_p.Cands.getD k z_PCand).A).Port)), (vs a45 (x_p.Cands.getD k z_PCand).Draw.length c46), (vi ((x_p.Cands.getD k z_PCand).Until))])), (25, (vp g52 0)), (26, (va (L_25 ((x_p.Cands.getD k z_PCand).A)))), (27, (vb (F_impl_AddrOk ((x_p.Cands.getD k z_PCand).A)))), (28, (vb (!(F_impl_AddrOk ((x_p.Cands.getD k z_PCand).A))))), (29, (vb (!(F_impl_AddrOk ((x_p.Cands.getD k z_PCand).A))))), (30, (vp g52 0)), (31, (va (L_25 ((x_p.Cands.getD k z_PCand).A)))), (32, (vp g6 0)), (33, (va (L_25 x_p.At))), (34, (vb (decide ((((x_p.Cands.getD k z_PCand).A).Host) = x_p.At.Host) && decide ((((x_p.Cands.getD k z_PCand).A).Port) = x_p.At.Port)))), (35, (vb (decide ((((x_p.Cands.getD k z_PCand).A).Host) = x_p.At.Host) && decide ((((x_p.Cands.getD k z_PCand).A).Port) = x_p.At.Port)))), (36, (vb (decide ((((x_p.Cands.getD k z_PCand).A).Host) = x_p.At.Host) && decide ((((x_p.Cands.getD k z_PCand).A).Port) = x_p.At.Port)))), (37, (vp g52 2)), (38, (vs a45 (x_p.Cands.getD k z_PCand).Draw.length c46)), (39, (vb (F_impl_isNonce ((x_p.Cands.getD k z_PCand).Draw)))), (40, (vb (!(F_impl_isNonce ((x_p.Cands.getD k z_PCand).Draw))))), (41, (vb (!(F_impl_isNonce ((x_p.Cands.getD k z_PCand).Draw))))), (42, (vb (!(F_impl_isNonce ((x_p.Cands.getD k z_PCand).Draw))))), (43, (vp g52 3)), (44, (vi ((x_p.Cands.getD k z_PCand).Until))), (45, (vb (F_impl_within ((x_p.Cands.getD k z_PCand).Until) 0 1000006))), (46, (vb (!(F_impl_within ((x_p.Cands.getD k z_PCand).Until) 0 1000006)))), (47, (vb (!(F_impl_within ((x_p.Cands.getD k z_PCand).Until) 0 1000006)))), (48, (vp g6 2)), (49, (vs a1 x_p.Cands.length c2)), (50, (vi ((k : Nat) : Int))), (51, (vs (subA a1 c2 0 4) (k - 0) (c2 - 0))), (52, (vi ((k - 0) : Int))), (53, (vi ((j : Nat) : Int)))] ∧ Ch (fun k => w0.heap.size ≤ k) w0 w' ∧ Ch (fun k => w8.heap.size ≤ k) w8 w' ∧ j ≤ k ∧ (∀ m, m < j → iPaJ x_p k m = true)) (fun e' _ => k - ((intOf (e' 53))).toNat) ?_ ?_
  ·exact fun u => ⟨0, u, rfl, m78, (Ch.refl (fun k => w8.heap.size ≤ k) w8), (by omega), (by first | (intro m hm; omega) | exact allN_next (by assumption) (by simp only [iPaJ, h20, h25, h36, h64, h68, h74, h79]; simp))⟩
  ·rintro _ w9 ⟨j, u91, rfl, m92, k93, i94, i95⟩
   refine sr ?_
   refine pu (vb (decide (((j : Nat) : Int) < ((k - 0) : Int)))) wN ?_
   refine wl_nil <| wq_then <| wc_seq ?_
   rcases bf (decide (((j : Nat) : Int) < ((k - 0) : Int))) with h96 | h96
   ·have q127 := of_decide_eq_false h96
    refine cf h96 ?_
    refine wc_exit <| wq_then_exit <| wq_then_exit <| wq_blk_exit <| wq_blk_normal <| wq_then <| wc_region ?_
    refine ar (((k : Nat) : Int) + 1) wN ?_
    refine mw (vi (((k : Nat) : Int) + 1)) ?_
    refine wl_nil ?_
    refine wq_loopP (w0 := w3) [(1, (vp g6 0)), (18, (vs a1 x_p.Cands.length c2)), (19, (vi (x_p.Cands.length : Int))), (20, (vi (((k + 1) : Nat) : Int)))] ?_ ?_ ?_
    · exact ⟨rfl, rfl, rfl, (congrArg (Value.int .i64) (show ((((k : Nat) : Int) + 1) : Int) = (((k + 1) : Nat) : Int) by omega)), trivial⟩
    · exact fun u => ⟨(k + 1), u, rfl, m92, ((((((((Ch.refl (fun k => w2.heap.size ≤ k) w2).ext k33 (fun k hk => hk)).extk k55).ext k58 (fun k hk => by subst hk; exact Nat.le_trans k33.size p53)).extk k62).extk k72).extk k77).ext k93 (fun k hk => Nat.le_trans (z6 k33 k55 k58 k62 k72 k77) hk)), (by omega), (by first | (intro j hj; omega) | (have hy := allN_t (f := iPaJ x_p k) (n := k) (k := j) (by assumption) (by omega); exact allN_next (by assumption) (by simp only [iPaG, hy, h20, h25, h36, h64, h68, h74, h79, h96]; simp)))⟩
    · show x_p.Cands.length - ((((k + 1) : Nat) : Int)).toNat < x_p.Cands.length - (((k : Nat) : Int)).toNat; omega
   have q97 := of_decide_eq_true h96
   refine ct h96 ?_
   refine wc_skip <| wq_then <| wc_seq <| wc_block <| sr ?_
   obtain ⟨y98, r99⟩ := RLv.row (r87.from0 m92)
   refine ix wN ((j : Nat) : Int) slTy_26 r99 ?_
   obtain ⟨y100, l101, r102, e103, u104⟩ := RLv.el z_PCand (i := j) r87 (by first | omega | (simp only [List.length_cons, List.length_nil, List.length_replicate, List.length_append, List.length_take, List.length_set, List.length_map]; omega))
   obtain ⟨a105, c106, l110, rfl, r107, s108, u111⟩ := SubR.c u104
   obtain rfl := SubR.n u111
   refine wl_loadEN [(vi ((((x_p.Cands.take k).getD j z_PCand).A).Host)), (vi ((((x_p.Cands.take k).getD j z_PCand).A).Port)), (vs a105 ((x_p.Cands.take k).getD j z_PCand).Draw.length c106), (vi (((x_p.Cands.take k).getD j z_PCand).Until))] wN rfl rfl rfl rfl isAgg_34 sizeOf_34 (r102.from0 m92) (by first | omega | (simp only [List.length_cons, List.length_nil, List.length_replicate, List.length_append, List.length_take, List.length_set, List.length_map]; omega)) ((part_of (off := 0) (n := 4) e103 (by first | rfl | simp | omega) (by decide)).trans rfl) ?_
   refine al Z_34 wN zero_34 ?_
   intro g112 w10 p113 p114 k115 b116
   refine sv [(vi ((((x_p.Cands.take k).getD j z_PCand).A).Host)), (vi ((((x_p.Cands.take k).getD j z_PCand).A).Port)), (vs a105 ((x_p.Cands.take k).getD j z_PCand).Draw.length c106), (vi (((x_p.Cands.take k).getD j z_PCand).Until))] wN sizeOf_34 b116 ?_
   intro w11 k118 b119 z120
   have m121 := (m92.extk k115).ext k118 (fun k hk => by subst hk; exact Nat.le_trans (z9 k9 k18 k33 k55 k58 k62 k72 k77 k93) p113)
   refine nx ?_
   refine pu (vp g112 0) wN ?_
   refine lN (L_25 (((x_p.Cands.take k).getD j z_PCand).A)) wN isAgg_25 sizeOf_25 b119 ?_
   refine pu (vp g52 0) wN ?_
   have b122 := ((((b76.kp k77).ch k93 (Nat.not_le.2 (Nat.lt_of_lt_of_le p54 (z4 k58 k62 k72 k77)))).kp k115).ch k118 (Nat.ne_of_lt (Nat.lt_of_lt_of_le p54 (Nat.le_trans (z5 k58 k62 k72 k77 k93) p113))))
   refine lN (L_25 ((x_p.Cands.getD k z_PCand).A)) wN isAgg_25 sizeOf_25 b122 ?_
   refine wl_aggeq ((decide (((((x_p.Cands.take k).getD j z_PCand).A).Host) = (((x_p.Cands.getD k z_PCand).A).Host)) && decide (((((x_p.Cands.take k).getD j z_PCand).A).Port) = (((x_p.Cands.getD k z_PCand).A).Port)))) wN rfl rfl rfl rfl rfl guardt_25 (aggeq_25 ((((x_p.Cands.take k).getD j z_PCand).A).Host) (((x_p.Cands.getD k z_PCand).A).Host) ((((x_p.Cands.take k).getD j z_PCand).A).Port) (((x_p.Cands.getD k z_PCand).A).Port) w11) ?_
   refine n2 ?_
   rcases bt (decide (((((x_p.Cands.take k).getD j z_PCand).A).Host) = (((x_p.Cands.getD k z_PCand).A).Host)) && decide (((((x_p.Cands.take k).getD j z_PCand).A).Port) = (((x_p.Cands.getD k z_PCand).A).Port))) with h123 | h123
   ·refine ct h123 ?_
    refine sr ?_
    refine aw (vb false) ?_
    refine wl_nil <| wq_then <| wc_ret <| wq_blk_ret <| wq_then_ret <| wq_then_ret <| wq_blk_ret <| wq_blk_ret <| wq_then_ret <| wq_then_ret <| wq_blk_ret <| wq_then_ret ?_
    refine rt (vb false) ?_
    refine ⟨m121.keep0, ?_⟩
    have hF125 : iPa x_p = false := by have hy := allN_f (f := iPaJ x_p k) (n := k) (k := j) (by omega) (by simp only [iPaJ, h20, h25, h36, h64, h68, h74, h79, h96, h123]; simp); have hz := allN_f (f := iPaG x_p) (n := x_p.Cands.length) (k := k) (by omega) (by simp only [iPaG, hy, h20, h25, h36, h64, h68, h74, h79, h96, h123]; simp); simp only [iPa, h20, h25, h36, h64, h68, h74, h79, h96, h123, hz]; simp
    rw [hF125]
    exact rfl
   refine cf h123 ?_
   refine wc_skip <| wq_blk_normal <| wq_then <| wc_region ?_
   refine ar (((j : Nat) : Int) + 1) wN ?_
   refine mw (vi (((j : Nat) : Int) + 1)) ?_
   refine wl_nil ?_
   refine wq_loopP (w0 := w9) [(1, (vp g6 0)), (3, (vi ((k : Nat) : Int))), (4, (vp g52 0)), (18, (vs a1 x_p.Cands.length c2)), (19, (vi (x_p.Cands.length : Int))), (20, (vi ((k : Nat) : Int))), (21, (vb (decide (((k : Nat) : Int) < (x_p.Cands.length : Int))))), (22, (vi ((k : Nat) : Int))), (23, (ve (vs a1 x_p.Cands.length c2) ((((k : Nat) : Int)).toNat * 4))), (24, (va [(vi (((x_p.Cands.getD k z_PCand).A).Host)), (vi (((x_p.Cands.getD k z_PCand).A).Port)), (vs a45 (x_p.Cands.getD k z_PCand).Draw.length c46), (vi ((x_p.Cands.getD k z_PCand).Until))])), (25, (vp g52 0)), (26, (va (L_25 ((x_p.Cands.getD k z_PCand).A)))), (27, (vb (F_impl_AddrOk ((x_p.Cands.getD k z_PCand).A)))), (28, (vb (!(F_impl_AddrOk ((x_p.Cands.getD k z_PCand).A))))), (29, (vb (!(F_impl_AddrOk ((x_p.Cands.getD k z_PCand).A))))), (30, (vp g52 0)), (31, (va (L_25 ((x_p.Cands.getD k z_PCand).A)))), (32, (vp g6 0)), (33, (va (L_25 x_p.At))), (34, (vb (decide ((((x_p.Cands.getD k z_PCand).A).Host) = x_p.At.Host) && decide ((((x_p.Cands.getD k z_PCand).A).Port) = x_p.At.Port)))), (35, (vb (decide ((((x_p.Cands.getD k z_PCand).A).Host) = x_p.At.Host) && decide ((((x_p.Cands.getD k z_PCand).A).Port) = x_p.At.Port)))), (36, (vb (decide ((((x_p.Cands.getD k z_PCand).A).Host) = x_p.At.Host) && decide ((((x_p.Cands.getD k z_PCand).A).Port) = x_p.At.Port)))), (37, (vp g52 2)), (38, (vs a45 (x_p.Cands.getD k z_PCand).Draw.length c46)), (39, (vb (F_impl_isNonce ((x_p.Cands.getD k z_PCand).Draw)))), (40, (vb (!(F_impl_isNonce ((x_p.Cands.getD k z_PCand).Draw))))), (41, (vb (!(F_impl_isNonce ((x_p.Cands.getD k z_PCand).Draw))))), (42, (vb (!(F_impl_isNonce ((x_p.Cands.getD k z_PCand).Draw))))), (43, (vp g52 3)), (44, (vi ((x_p.Cands.getD k z_PCand).Until))), (45, (vb (F_impl_within ((x_p.Cands.getD k z_PCand).Until) 0 1000006))), (46, (vb (!(F_impl_within ((x_p.Cands.getD k z_PCand).Until) 0 1000006)))), (47, (vb (!(F_impl_within ((x_p.Cands.getD k z_PCand).Until) 0 1000006)))), (48, (vp g6 2)), (49, (vs a1 x_p.Cands.length c2)), (50, (vi ((k : Nat) : Int))), (51, (vs (subA a1 c2 0 4) (k - 0) (c2 - 0))), (52, (vi ((k - 0) : Int))), (53, (vi (((j + 1) : Nat) : Int)))] ?_ ?_ ?_
   · exact ⟨rfl, rfl, rfl, rfl, rfl, rfl, rfl, rfl, rfl, rfl, rfl, rfl, rfl, rfl, rfl, rfl, rfl, rfl, rfl, rfl, rfl, rfl, rfl, rfl, rfl, rfl, rfl, rfl, rfl, rfl, rfl, rfl, rfl, rfl, rfl, rfl, rfl, rfl, (congrArg (Value.int .i64) (show ((((j : Nat) : Int) + 1) : Int) = (((j + 1) : Nat) : Int) by omega)), trivial⟩
   · exact fun u => ⟨(j + 1), u, rfl, m121, ((((Ch.refl (fun k => w8.heap.size ≤ k) w8).ext k93 (fun k hk => hk)).extk k115).ext k118 (fun k hk => by subst hk; exact Nat.le_trans k93.size p113)), (by omega), (by first | (intro m hm; omega) | exact allN_next (by assumption) (by simp only [iPaJ, h20, h25, h36, h64, h68, h74, h79, h96, h123]; simp))⟩
   · show k - ((((j + 1) : Nat) : Int)).toNat < k - (((j : Nat) : Int)).toNat; omega
theorem iPa_t {p : PPaths} (h : iPa p = true) : p.Cands.length ≤ 3 := by
  unfold iPa at h
  cases h1 : F_impl_AddrOk p.At with
  | false => simp only [h1, cond_false] at h; cases h
  | true =>
    cases h8 : decide (3 < (p.Cands.length : Int)) with
    | true => simp only [h1, h8, cond_true] at h; cases h
    | false => have := of_decide_eq_false h8; omega

def F_impl_clone (x_b : List UInt8) : (List UInt8) := x_b
theorem C_impl_clone (w0 : World) (v_x_b : Value) (x_b : List UInt8) (r_x_b : R_22 w0 v_x_b x_b)  : Fn Try.prog 66 #[v_x_b] w0 (fun v w' => Keep w0 w' ∧ O_22 w' w0.heap.size v (x_b)) := by
 obtain ⟨a1, c2, rfl, r3, s4⟩ := r_x_b
 refine fn_ofS (n := 6) [(vs a1 x_b.length c2)] Try.func66 rfl rfl ?_
 refine sr ?_
 refine aw (vs none 0 0) ?_
 refine nx ?_
 refine wl_lit0 wN rfl rfl slTy_22 (fun w => by kernel_rfl) ?_
 intro a6 w1 k7 o8
 have m9 := (Ch.base w0).extk k7
 refine mw (vs a1 x_b.length c2) ?_
 refine ap0 x_b wN slTy_22 o8 (r3.from0 m9) k7.size ?_
 intro a11 c12 w2 k13 o14 n15
 have m16 := m9.extk k13
 refine aw (vs a11 x_b.length c12) ?_
 refine n3 ?_
 refine rt (vs a11 x_b.length c12) ?_
 refine ⟨m16.keep0, ?_⟩
 have hF18 : x_b = x_b := by rfl
 rw [hF18]
 exact ⟨_, _, rfl, o14, s4, ⟨trivial, trivial⟩⟩

def F_impl_copyPaths (x_p : PPaths) : (PPaths) := { At := x_p.At, Cands := (x_p.Cands.take x_p.Cands.length) : PPaths }
theorem C_impl_copyPaths (w0 : World) (v_x_p : Value) (x_p : PPaths) (r_x_p : R_28 w0 v_x_p x_p)  : Fn Try.prog 53 #[v_x_p] w0 (fun v w' => Keep w0 w' ∧ O_28 w' w0.heap.size v (x_p)) := by
 obtain ⟨a1, c2, rfl, r3, s4⟩ := r_x_p
 refine fn_ofS (n := 31) [(va (L_28 x_p a1 c2))] Try.func53 rfl rfl ?_
 refine sr ?_
 refine bx (L_28 x_p a1 c2) wN ?_
 intro g6 w1 p7 p8 k9 b10
 refine al [(vi 0), (vi 0), (vs none 0 0)] wN zero_28 ?_
 intro g12 w2 p13 p14 k15 b16
 have m17 := ((Ch.base w0).extk k9).extk k15
 refine nx ?_
 refine pu (vp g6 0) wN ?_
 have b18 := (b10.kp k15)
 refine lN (L_25 x_p.At) wN isAgg_25 sizeOf_25 b18 ?_
 refine pu (va [(vi x_p.At.Host), (vi x_p.At.Port), (vs none 0 0)]) wN ?_
 refine al [(vi 0), (vi 0), (vs none 0 0)] wN zero_28 ?_
 intro g19 w3 p20 p21 k22 b23
 refine sv [(vi x_p.At.Host), (vi x_p.At.Port), (vs none 0 0)] wN sizeOf_28 b23 ?_
 intro w4 k25 b26 z27
 have m28 := (m17.extk k22).ext k25 (fun k hk => by subst hk; exact Nat.le_trans (z2 k9 k15) p20)
 refine n4 ?_
 refine pu (vp g6 2) wN ?_
 have b29 := ((b18.kp k22).ch k25 (Nat.ne_of_lt (Nat.lt_of_lt_of_le p8 (Nat.le_trans k15.size p20))))
 refine ld (vs a1 x_p.Cands.length c2) wN isAgg_26 b29 ?_
 obtain ⟨y30, r31⟩ := RLv.row (r3.from0 m28)
 refine ln wN slTy_26 r31 ?_
 refine mw (vi 0) ?_
 refine wl_nil <| wq_then <| wc_block ?_
 have hE33 : (([] : List (PCand)) : List (PCand)) = x_p.Cands.take 0 := by first | rfl | exact take_snoc (z := z_PCand) (by omega)
 refine wc_loopP [(2, (vp g12 0)), (3, (vp g19 0)), (10, (vs a1 x_p.Cands.length c2)), (11, (vi (x_p.Cands.length : Int))), (12, (vi ((0 : Nat) : Int)))] ⟨rfl, rfl, rfl, rfl, (congrArg (Value.int .i64) (show (0 : Int) = ((0 : Nat) : Int) by omega)), trivial⟩ (fun e' w' => ∃ (kq : Nat) (u32 : Env) (ab3_2x : Option Addr) (cb3_2x : Nat), e' = pt u32 [(2, (vp g12 0)), (3, (vp g19 0)), (10, (vs a1 x_p.Cands.length c2)), (11, (vi (x_p.Cands.length : Int))), (12, (vi ((kq : Nat) : Int)))] ∧ Ch (fun k => w0.heap.size ≤ k) w0 w' ∧ Ch (fun k => w2.heap.size ≤ k) w4 w' ∧ kq ≤ x_p.Cands.length ∧ (OLv LT_34 w' w4.heap.size w'.heap.size ab3_2x (x_p.Cands.take kq).length cb3_2x (x_p.Cands.take kq) ∧ (x_p.Cands.take kq).length ≤ 1073741824) ∧ Blk w' g19 28 [(vi x_p.At.Host), (vi x_p.At.Port), (.slice ab3_2x (x_p.Cands.take kq).length cb3_2x)]) (fun e' _ => x_p.Cands.length - ((intOf (e' 12))).toNat) ?_ ?_
 ·exact fun u => ⟨0, u, none, 0, rfl, m28, (Ch.refl (fun k => w2.heap.size ≤ k) w4), (by omega), (hE33 ▸ ⟨(OLv.nil w4 w4.heap.size w4.heap.size LT_34), (by simp)⟩), b26⟩
 ·rintro _ w5 ⟨kq, u32, ab3_2x, cb3_2x, rfl, m34, k35, i36, ⟨o37, s38⟩, hbx3⟩
  obtain ⟨y40, o41⟩ := OLv.ow o37
  refine sr ?_
  refine pu (vb (decide (((kq : Nat) : Int) < (x_p.Cands.length : Int)))) wN ?_
  refine wl_nil <| wq_then <| wc_seq ?_
  rcases bf (decide (((kq : Nat) : Int) < (x_p.Cands.length : Int))) with h42 | h42
  ·have q208 := of_decide_eq_false h42
   refine cf h42 ?_
   refine wc_exit <| wq_then_exit ?_
   obtain rfl : kq = x_p.Cands.length := by omega
   refine wq_then_exit <| wq_blk_exit <| wq_then <| sr ?_
   refine lN [(vi x_p.At.Host), (vi x_p.At.Port), (vs ab3_2x (x_p.Cands.take x_p.Cands.length).length cb3_2x)] wN isAgg_28 sizeOf_28 hbx3 ?_
   have b209 := (((b16.kp k22).ch k25 (Nat.ne_of_lt (Nat.lt_of_lt_of_le p14 (p20)))).ch k35 (Nat.not_le.2 (p14)))
   refine sv [(vi x_p.At.Host), (vi x_p.At.Port), (vs ab3_2x (x_p.Cands.take x_p.Cands.length).length cb3_2x)] wN sizeOf_28 b209 ?_
   intro w6 k210 b211 z212
   have m213 := m34.ext k210 (fun k hk => by subst hk; exact Nat.le_trans k9.size p13)
   refine n3 ?_
   have o214 := (OLv.ch o37 k210 (fun g h1 h2 hk => by have h3 := Nat.lt_of_lt_of_le p14 (z2 k22 k25); omega))
   refine ret_1 (.inl rfl) (va [(vi x_p.At.Host), (vi x_p.At.Port), (vs ab3_2x (x_p.Cands.take x_p.Cands.length).length cb3_2x)]) rfl (rv_c [(vi x_p.At.Host), (vi x_p.At.Port), (vs ab3_2x (x_p.Cands.take x_p.Cands.length).length cb3_2x)] rfl b211 isAgg_28 sizeOf_28) ?_
   refine ⟨m213.keep0, ?_⟩
   have hF215 : x_p.Cands.take x_p.Cands.length = x_p.Cands := List.take_length
   rw [hF215] at o214 ⊢
   exact ⟨_, _, rfl, (OLv.now (OLv.low o214 (z4 k9 k15 k22 k25))), (by omega), ⟨trivial, trivial⟩⟩
  have q43 := of_decide_eq_true h42
  refine ct h42 ?_
  refine wc_skip <| wq_then <| wc_seq <| wc_block <| sr ?_
  obtain ⟨y44, r45⟩ := RLv.row (r3.from0 m34)
  refine ix wN ((kq : Nat) : Int) slTy_26 r45 ?_
  obtain ⟨y46, l47, r48, e49, u50⟩ := RLv.el z_PCand (i := kq) r3 (by first | omega | (simp only [List.length_cons, List.length_nil, List.length_replicate, List.length_append, List.length_take, List.length_set, List.length_map]; omega))
  obtain ⟨a51, c52, l56, rfl, r53, s54, u57⟩ := SubR.c u50
  obtain rfl := SubR.n u57
  refine wl_loadEN [(vi (((x_p.Cands.getD kq z_PCand).A).Host)), (vi (((x_p.Cands.getD kq z_PCand).A).Port)), (vs a51 (x_p.Cands.getD kq z_PCand).Draw.length c52), (vi ((x_p.Cands.getD kq z_PCand).Until))] wN rfl rfl rfl rfl isAgg_34 sizeOf_34 (r48.from0 m34) (by first | omega | (simp only [List.length_cons, List.length_nil, List.length_replicate, List.length_append, List.length_take, List.length_set, List.length_map]; omega)) ((part_of (off := 0) (n := 4) e49 (by first | rfl | simp | omega) (by decide)).trans rfl) ?_
  refine al Z_34 wN zero_34 ?_
  intro g58 w6 p59 p60 k61 b62
  refine sv [(vi (((x_p.Cands.getD kq z_PCand).A).Host)), (vi (((x_p.Cands.getD kq z_PCand).A).Port)), (vs a51 (x_p.Cands.getD kq z_PCand).Draw.length c52), (vi ((x_p.Cands.getD kq z_PCand).Until))] wN sizeOf_34 b62 ?_
  intro w7 k64 b65 z66
  have m67 := (m34.extk k61).ext k64 (fun k hk => by subst hk; exact Nat.le_trans (z5 k9 k15 k22 k25 k35) p59)
  refine n2 ?_
  refine wc_drawT ([(16, [], [], (fun _ v _ => v = (vp g19 2))), (17, [], [0], (fun _ v _ => v = (vs ab3_2x (x_p.Cands.take kq).length cb3_2x))), (18, [], [], (fun _ v _ => v = (vp g58 0))), (19, [], [2], (fun _ v _ => v = (va (L_25 ((x_p.Cands.getD kq z_PCand).A))))), (20, [], [], (fun _ v _ => v = (vp g58 2))), (21, [], [4], (fun _ v _ => v = (vs a51 (x_p.Cands.getD kq z_PCand).Draw.length c52))), (22, [], [4, 5], (fun _ v w => ∃ (a1 : Option Addr) (c1 : Nat), v = .slice a1 (((x_p.Cands.getD kq z_PCand).Draw)).length c1 ∧ w.ownsRow (w7.heap.size) 5 1 (.slice a1 (((x_p.Cands.getD kq z_PCand).Draw)).length c1) (((x_p.Cands.getD kq z_PCand).Draw)).length ((((x_p.Cands.getD kq z_PCand).Draw)).map bV) ∧ (((x_p.Cands.getD kq z_PCand).Draw)).length ≤ 1073741824 ∧ Aps [(a1, c1)])), (23, [], [], (fun _ v _ => v = (vp g58 3))), (24, [], [7], (fun _ v _ => v = (vi ((x_p.Cands.getD kq z_PCand).Until)))), (25, [22], [2, 3, 4, 5, 6, 7, 8], (fun e v _ => v = (.agg #[(vi (((x_p.Cands.getD kq z_PCand).A).Host)), (vi (((x_p.Cands.getD kq z_PCand).A).Port)), (e 22), (vi ((x_p.Cands.getD kq z_PCand).Until))]))), (26, [22], [2, 3, 4, 5, 6, 7, 8, 9], (fun e v w => ∃ (a1 : Option Addr) (c1 : Nat), v = .slice a1 1 c1 ∧ w.ownsRow w7.heap.size 34 4 (.slice a1 1 c1) 1 [(vi (((x_p.Cands.getD kq z_PCand).A).Host)), (vi (((x_p.Cands.getD kq z_PCand).A).Port)), (e 22), (vi ((x_p.Cands.getD kq z_PCand).Until))]))] : GV) (fun _ w' => Keep w7 w') [] mixed rfl (by kernel_rfl) (by kernel_rfl) ?_ (fun _ _ h => h) (fun _ _ _ _ h _ k => h.trans k) trivial ?_ ?_ ?_
  ·exact ⟨hV, hE, ⟨hV, hE, ⟨hV, hE, ⟨hV, hE, ⟨hV, hE, ⟨hV, hE, ⟨(fun e v w w1 h hk => by obtain ⟨a0x, c0x, he, o0x, l0x, hap⟩ := h; exact ⟨a0x, c0x, he, own_kp o0x hk, l0x, hap⟩), hE, ⟨hV, hE, ⟨hV, hE, ⟨hV, (fun e1 e2 v w hx h => by have h22x := hx 22 (by simp); simp only [h22x] at h; exact h), ⟨(fun e v w w1 h hk => by obtain ⟨a0x, c0x, he, o0x⟩ := h; exact ⟨a0x, c0x, he, own_kp o0x hk⟩), (fun e1 e2 v w hx h => by have h22x := hx 22 (by simp); simp only [h22x] at h; exact h), trivial⟩⟩⟩⟩⟩⟩⟩⟩⟩⟩⟩
  ·exact trivial
  ·refine ⟨?_, ⟨?_, ⟨?_, ⟨?_, ⟨?_, ⟨?_, ⟨?_, ⟨?_, ⟨?_, ⟨?_, ⟨?_, trivial⟩⟩⟩⟩⟩⟩⟩⟩⟩⟩⟩
   ·intro _ w8 k115 _
    rintro _ _ _ _ _ _ _ _ _ _ _
    show WL _ _ _ _ _ _ _
    refine pu (vp g19 2) wN ?_
    exact f1
   ·intro _ w8 k117 _
    rintro _ rfl _ _ _ _ _ _ _ _ _ _
    show WL _ _ _ _ _ _ _
    have b119 := (((hbx3.kp k61).ch k64 (Nat.ne_of_lt (Nat.lt_of_lt_of_le p21 (Nat.le_trans (z2 k25 k35) p59)))).kp k117)
    refine ld (vs ab3_2x (x_p.Cands.take kq).length cb3_2x) wN isAgg_26 b119 ?_
    exact f1
   ·intro _ w8 k120 _
    rintro _ _ _ _ _ _ _ _ _ _ _
    show WL _ _ _ _ _ _ _
    refine pu (vp g58 0) wN ?_
    exact f1
   ·intro _ w8 k122 _
    rintro _ _ _ rfl _ _ _ _ _ _ _ _
    show WL _ _ _ _ _ _ _
    have b124 := (b65.kp k122)
    refine lN (L_25 ((x_p.Cands.getD kq z_PCand).A)) wN isAgg_25 sizeOf_25 b124 ?_
    exact f1
   ·intro _ w8 k125 _
    rintro _ _ _ _ _ _ _ _ _ _ _
    show WL _ _ _ _ _ _ _
    refine pu (vp g58 2) wN ?_
    exact f1
   ·intro _ w8 k127 _
    rintro _ _ _ _ _ rfl _ _ _ _ _ _
    show WL _ _ _ _ _ _ _
    have b129 := (b65.kp k127)
    refine ld (vs a51 (x_p.Cands.getD kq z_PCand).Draw.length c52) wN isAgg_22 b129 ?_
    exact f1
   ·intro _ w8 k130 _
    have m131 := m67.extk k130
    rintro _ _ _ _ _ rfl _ rfl _ _ _ _ _
    show WL _ _ _ _ _ _ _
    refine cl wN (C_impl_clone w8 _ ((x_p.Cands.getD kq z_PCand).Draw) (mR_22 (r53.from0 m131) s54)) ?_
    rintro _ w9 ⟨k133, ⟨a134, c135, rfl, o136, s137, ap139⟩⟩
    exact wl_finT k133 ⟨_, _, rfl, (own_lo o136 k130.size), s137, ap139⟩
   ·intro _ w8 k141 _
    rintro _ _ _ _ _ _ _ _ _ _ _
    show WL _ _ _ _ _ _ _
    refine pu (vp g58 3) wN ?_
    exact f1
   ·intro _ w8 k143 _
    rintro _ _ _ _ _ _ _ _ rfl _ _ _
    show WL _ _ _ _ _ _ _
    have b145 := (b65.kp k143)
    refine ld (vi ((x_p.Cands.getD kq z_PCand).Until)) wN isAgg_3 b145 ?_
    exact f1
   ·intro _ w8 k146 _
    rintro _ _ _ rfl _ rfl _ rfl _ rfl _ ⟨a150, c151, rfl, o152, s153, ap155⟩ _ rfl _ rfl _ _
    show WL _ _ _ _ _ _ _
    refine pu (va (L_34 (x_p.Cands.getD kq z_PCand) a150 c151)) wN ?_
    exact f1
   ·intro _ w8 k157 _
    rintro _ _ _ rfl _ rfl _ rfl _ rfl _ ⟨a161, c162, rfl, o163, s164, ap166⟩ _ rfl _ rfl _ rfl _
    show WL _ _ _ _ _ _ _
    refine wl_lit [(vi (((x_p.Cands.getD kq z_PCand).A).Host)), (vi (((x_p.Cands.getD kq z_PCand).A).Port)), (vs a161 (((x_p.Cands.getD kq z_PCand).Draw)).length c162), (vi ((x_p.Cands.getD kq z_PCand).Until))] wN rfl rfl slTy_26 (m := 1) rfl (by simp only [maxLen]; omega) (fun w => by kernel_rfl) ?_
    intro u168 w9 k169 o170
    obtain ⟨a171, c172, rfl⟩ := own_form o170
    exact wl_finT k169 ⟨_, _, rfl, own_lo o170 k157.size⟩
  ·intro _ w8 k175
   rintro _ rfl _ rfl _ rfl _ rfl _ rfl _ rfl _ ⟨a180, c181, rfl, o182, s183, ap185⟩ _ rfl _ rfl _ rfl _ ⟨a187, c188, rfl, o189⟩
   show WL _ _ _ _ _ _ _
   have o191 := (OLv.kp (OLv.ch (OLv.kp o37 k61) k64 (fun g h1 h2 hk => by have h3 := Nat.le_trans (Nat.le_refl w5.heap.size) p59; omega)) k175)
   refine wl_appL (L := LT_34) (xs := (x_p.Cands.take kq)) (el := (x_p.Cands.getD kq z_PCand)) (l := [(a180, c181)]) wN slTy_26 o191 (Rd.of_own o189) ⟨⟨(own_lo o182 (z2 k61 k64)), s183⟩, trivial⟩ ⟨trivial, trivial⟩ (Nat.le_refl _) k35.size (by first | omega | (simp only [List.length_take, List.length_append, List.length_cons, List.length_nil]; omega) | (refine Nat.le_trans (Nat.succ_le_succ (List.length_filter_le _ _)) ?_; simp only [List.length_take]; omega)) (z4 k35 k61 k64 k175) ?_
   intro a192 c193 w9 k194 o195
   have m196 := (m67.extk k175).ext k194 (fun k hk => Nat.le_trans (z4 k9 k15 k22 k25) (own_lt o41 k hk).1)
   obtain ⟨y199, o200⟩ := OLv.ow o195
   refine pu (vp g19 2) wN ?_
   have b201 := ((((hbx3.kp k61).ch k64 (Nat.ne_of_lt (Nat.lt_of_lt_of_le p21 (Nat.le_trans (z2 k25 k35) p59)))).kp k175).ch k194 (fun h => by have := (own_lt o41 _ h).1; have := Nat.lt_of_lt_of_le p21 k25.size; omega))
   refine st (vs a192 ((x_p.Cands.take kq) ++ [(x_p.Cands.getD kq z_PCand)]).length c193) [(vs a192 ((x_p.Cands.take kq) ++ [(x_p.Cands.getD kq z_PCand)]).length c193)] [(vi x_p.At.Host), (vi x_p.At.Port), (vs a192 ((x_p.Cands.take kq) ++ [(x_p.Cands.getD kq z_PCand)]).length c193)] wN sizeOf_26 b201 ?_
   intro w10 k202 b203 z204
   have m205 := m196.ext k202 (fun k hk => by subst hk; exact Nat.le_trans (z2 k9 k15) p20)
   refine wl_nil <| wq_blk_normal <| wq_then <| wc_region ?_
   refine ar (((kq : Nat) : Int) + 1) wN ?_
   refine mw (vi (((kq : Nat) : Int) + 1)) ?_
   refine wl_nil ?_
   have o206 := (OLv.ch o195 k202 (fun g h1 h2 hk => by have h3 := Nat.lt_of_lt_of_le p21 k25.size; omega))
   have hE207 : (((x_p.Cands.take kq) ++ [(x_p.Cands.getD kq z_PCand)]) : List (PCand)) = x_p.Cands.take (kq + 1) := by first | rfl | exact take_snoc (z := z_PCand) (by omega)
   refine wq_loopP (w0 := w5) [(2, (vp g12 0)), (3, (vp g19 0)), (10, (vs a1 x_p.Cands.length c2)), (11, (vi (x_p.Cands.length : Int))), (12, (vi (((kq + 1) : Nat) : Int)))] ?_ ?_ ?_
   · exact ⟨rfl, rfl, rfl, rfl, (congrArg (Value.int .i64) (show ((((kq : Nat) : Int) + 1) : Int) = (((kq + 1) : Nat) : Int) by omega)), trivial⟩
   · exact fun u => ⟨(kq + 1), u, a192, c193, rfl, m205, (((((((Ch.refl (fun k => w2.heap.size ≤ k) w4).ext k35 (fun k hk => hk)).extk k61).ext k64 (fun k hk => by subst hk; exact Nat.le_trans (z3 k22 k25 k35) p59)).extk k175).ext k194 (fun k hk => Nat.le_trans (z2 k22 k25) (own_lt o41 k hk).1)).ext k202 (fun k hk => by subst hk; exact p20)), (by omega), (hE207 ▸ ⟨(OLv.now o206), (OLv.small o195)⟩), (by have hb := b203; first | exact hb | (rw [hE207] at hb; exact hb))⟩
   · show x_p.Cands.length - ((((kq + 1) : Nat) : Int)).toNat < x_p.Cands.length - (((kq : Nat) : Int)).toNat; omega

def F_impl_withoutExpired (x_p : PPaths) (x_now : Int) : (PPaths) := { At := x_p.At, Cands := ((((x_p).Cands).take x_p.Cands.length).filter (fun c : PCand => decide (x_now ≤ c.Until))) : PPaths }
theorem C_impl_withoutExpired (w0 : World) (v_x_p : Value) (x_p : PPaths) (r_x_p : R_28 w0 v_x_p x_p) (x_now : Int)  : Fn Try.prog 62 #[v_x_p, (vi x_now)] w0 (fun v w' => Keep w0 w' ∧ O_28 w' w0.heap.size v (F_impl_withoutExpired x_p x_now)) := by
 obtain ⟨a1, c2, rfl, r3, s4⟩ := r_x_p
 refine fn_ofS (n := 31) [(va (L_28 x_p a1 c2)), (vi x_now)] Try.func62 rfl rfl ?_
 refine sr ?_
 refine bx (L_28 x_p a1 c2) wN ?_
 intro g6 w1 p7 p8 k9 b10
 refine al [(vi 0), (vi 0), (vs none 0 0)] wN zero_28 ?_
 intro g12 w2 p13 p14 k15 b16
 have m17 := ((Ch.base w0).extk k9).extk k15
 refine nx ?_
 refine pu (vp g6 0) wN ?_
 have b18 := (b10.kp k15)
 refine lN (L_25 x_p.At) wN isAgg_25 sizeOf_25 b18 ?_
 refine pu (va [(vi x_p.At.Host), (vi x_p.At.Port), (vs none 0 0)]) wN ?_
 refine al [(vi 0), (vi 0), (vs none 0 0)] wN zero_28 ?_
 intro g19 w3 p20 p21 k22 b23
 refine sv [(vi x_p.At.Host), (vi x_p.At.Port), (vs none 0 0)] wN sizeOf_28 b23 ?_
 intro w4 k25 b26 z27
 have m28 := (m17.extk k22).ext k25 (fun k hk => by subst hk; exact Nat.le_trans (z2 k9 k15) p20)
 refine n4 ?_
 have b29 := ((b18.kp k22).ch k25 (Nat.ne_of_lt (Nat.lt_of_lt_of_le p8 (Nat.le_trans k15.size p20))))
 refine lN (L_28 x_p a1 c2) wN isAgg_28 sizeOf_28 b29 ?_
 refine cl wN (C_impl_copyPaths w4 _ x_p (mR_28 (r3.from0 m28) s4)) ?_
 rintro _ w5 ⟨k30, ⟨a31, c32, rfl, o33, s34, ap36⟩⟩
 have m37 := m28.extk k30
 obtain ⟨y38, o39⟩ := OLv.ow o33
 refine pu (vs a31 ((x_p).Cands).length c32) wN ?_
 obtain ⟨y40, r41⟩ := RLv.row (OLv.rl o33)
 refine ln wN slTy_26 r41 ?_
 refine mw (vi 0) ?_
 refine wl_nil <| wq_then <| wc_block ?_
 obtain ⟨y42, h43, h44, o45, s46, p47, h48, l49⟩ := OLv.op o33
 have hE51 : (([] : List (El PCand)) : List (El PCand)) = (y42.take 0).filter (fun e : El PCand => decide (x_now ≤ e.1.Until)) := by first | rfl | exact filt_t (z := (z_PCand, [])) (by omega) (by assumption) | exact filt_f (z := (z_PCand, [])) (by omega) (by assumption)
 have b52 := (b26.kp k30)
 refine wc_loopP [(1, (vi x_now)), (4, (vp g12 0)), (5, (vp g19 0)), (13, (vs a31 ((x_p).Cands).length c32)), (14, (vi (((x_p).Cands).length : Int))), (15, (vi ((0 : Nat) : Int)))] ⟨rfl, rfl, rfl, rfl, rfl, (congrArg (Value.int .i64) (show (0 : Int) = ((0 : Nat) : Int) by omega)), trivial⟩ (fun e' w' => ∃ (kq : Nat) (u50 : Env) (ab5_2x : Option Addr) (cb5_2x : Nat), e' = pt u50 [(1, (vi x_now)), (4, (vp g12 0)), (5, (vp g19 0)), (13, (vs a31 ((x_p).Cands).length c32)), (14, (vi (((x_p).Cands).length : Int))), (15, (vi ((kq : Nat) : Int)))] ∧ Ch (fun k => w0.heap.size ≤ k) w0 w' ∧ Ch (fun k => w2.heap.size ≤ k) w5 w' ∧ kq ≤ x_p.Cands.length ∧ (World.ownsRow w' w5.heap.size 34 4 (.slice ab5_2x ((y42.take kq).filter (fun e : El PCand => decide (x_now ≤ e.1.Until))).length cb5_2x) ((y42.take kq).filter (fun e : El PCand => decide (x_now ≤ e.1.Until))).length (((y42.take kq).filter (fun e : El PCand => decide (x_now ≤ e.1.Until))).flatMap LT_34.enc) ∧ ((y42.take kq).filter (fun e : El PCand => decide (x_now ≤ e.1.Until))).length ≤ 1073741824) ∧ World.ownsRow w' w4.heap.size 34 4 (.slice a31 ((x_p).Cands).length c32) ((x_p).Cands).length (y42.flatMap LT_34.enc) ∧ SubA LT_34 w' w4.heap.size y42 ∧ Blk w' g19 28 [(vi x_p.At.Host), (vi x_p.At.Port), (.slice ab5_2x ((y42.take kq).filter (fun e : El PCand => decide (x_now ≤ e.1.Until))).length cb5_2x)]) (fun e' _ => x_p.Cands.length - ((intOf (e' 15))).toNat) ?_ ?_
 ·exact fun u => ⟨0, u, none, 0, rfl, m37, (Ch.refl (fun k => w2.heap.size ≤ k) w5), (by omega), (hE51 ▸ ⟨(own_nil _ _ _ _), (by simp)⟩), o45, s46, b52⟩
 ·rintro _ w6 ⟨kq, u50, ab5_2x, cb5_2x, rfl, m53, k54, i55, ⟨o56, s57⟩, hsy1, hsy2, hbx5⟩
  refine sr ?_
  refine pu (vb (decide (((kq : Nat) : Int) < (((x_p).Cands).length : Int)))) wN ?_
  refine wl_nil <| wq_then <| wc_seq ?_
  rcases bf (decide (((kq : Nat) : Int) < (((x_p).Cands).length : Int))) with h59 | h59
  ·have q109 := of_decide_eq_false h59
   refine cf h59 ?_
   refine wc_exit <| wq_then_exit ?_
   obtain rfl : kq = x_p.Cands.length := by omega
   refine wq_then_exit <| wq_blk_exit <| wq_then <| sr ?_
   refine lN [(vi x_p.At.Host), (vi x_p.At.Port), (vs ab5_2x ((y42.take x_p.Cands.length).filter (fun e : El PCand => decide (x_now ≤ e.1.Until))).length cb5_2x)] wN isAgg_28 sizeOf_28 hbx5 ?_
   have b110 := ((((b16.kp k22).ch k25 (Nat.ne_of_lt (Nat.lt_of_lt_of_le p14 (p20)))).kp k30).ch k54 (Nat.not_le.2 (p14)))
   refine sv [(vi x_p.At.Host), (vi x_p.At.Port), (vs ab5_2x ((y42.take x_p.Cands.length).filter (fun e : El PCand => decide (x_now ≤ e.1.Until))).length cb5_2x)] wN sizeOf_28 b110 ?_
   intro w7 k111 b112 z113
   have m114 := m53.ext k111 (fun k hk => by subst hk; exact Nat.le_trans k9.size p13)
   refine n3 ?_
   have o115 := (own_ch o56 k111 (ne1 o56 (Nat.lt_of_lt_of_le p14 (z3 k22 k25 k30))))
   refine ret_1 (.inl rfl) (va [(vi x_p.At.Host), (vi x_p.At.Port), (vs ab5_2x ((y42.take x_p.Cands.length).filter (fun e : El PCand => decide (x_now ≤ e.1.Until))).length cb5_2x)]) rfl (rv_c [(vi x_p.At.Host), (vi x_p.At.Port), (vs ab5_2x ((y42.take x_p.Cands.length).filter (fun e : El PCand => decide (x_now ≤ e.1.Until))).length cb5_2x)] rfl b112 isAgg_28 sizeOf_28) ?_
   refine ⟨m114.keep0, ?_⟩
   simp only [F_impl_withoutExpired, h59, cond_true, cond_false]
   have s117 := (SubA.ch hsy2 h48 k111 (fun g h1 h2 hk => by have h3 := Nat.lt_of_lt_of_le p14 (z2 k22 k25); omega))
   have h119 : (((y42.take x_p.Cands.length).filter (fun e : El PCand => decide (x_now ≤ e.1.Until)))).map Prod.fst = ((((x_p).Cands).take x_p.Cands.length).filter (fun c : PCand => decide (x_now ≤ c.Until))) := (by rw [fst_filter (f := (fun c : PCand => decide (x_now ≤ c.Until))), List.map_take, h43])
   have o118 := OLv.subl (own_lo o115 k30.size) rfl s117 (List.filter_sublist.trans (List.take_sublist _ _)) p47 s57
   rw [h119] at o118
   have hN120 : ((y42.take x_p.Cands.length).filter (fun e : El PCand => decide (x_now ≤ e.1.Until))).length = (((((x_p).Cands).take x_p.Cands.length).filter (fun c : PCand => decide (x_now ≤ c.Until)))).length := by rw [← h119, List.length_map]
   rw [hN120] at o118 ⊢
   exact ⟨_, _, rfl, (OLv.now (OLv.low o118 (z4 k9 k15 k22 k25))), (by rw [← hN120]; exact s57), ⟨trivial, trivial⟩⟩
  have q60 := of_decide_eq_true h59
  refine ct h59 ?_
  refine wc_skip <| wq_then <| wc_seq <| wc_block <| sr ?_
  refine ix wN ((kq : Nat) : Int) slTy_26 (Rd.of_own hsy1) ?_
  refine wl_loadEN [(vi ((((y42.getD kq (z_PCand, [])).1).A).Host)), (vi ((((y42.getD kq (z_PCand, [])).1).A).Port)), (vs (adr2 (y42.getD kq (z_PCand, [])).2 0).1 ((y42.getD kq (z_PCand, [])).1).Draw.length (adr2 (y42.getD kq (z_PCand, [])).2 0).2), (vi (((y42.getD kq (z_PCand, [])).1).Until))] wN rfl rfl rfl rfl isAgg_34 sizeOf_34 (Rd.of_own hsy1) (by first | omega | (simp only [List.length_cons, List.length_nil, List.length_replicate, List.length_append, List.length_take, List.length_set, List.length_map]; omega)) ((rows_part (k := kq) (off := 0) (n := 4) LT_34.len (z_PCand, []) (by first | rfl | simp | omega) (Nat.le_of_ble_eq_true rfl) (by omega)).trans rfl) ?_
  refine al Z_34 wN zero_34 ?_
  intro g62 w7 p63 p64 k65 b66
  refine sv [(vi ((((y42.getD kq (z_PCand, [])).1).A).Host)), (vi ((((y42.getD kq (z_PCand, [])).1).A).Port)), (vs (adr2 (y42.getD kq (z_PCand, [])).2 0).1 ((y42.getD kq (z_PCand, [])).1).Draw.length (adr2 (y42.getD kq (z_PCand, [])).2 0).2), (vi (((y42.getD kq (z_PCand, [])).1).Until))] wN sizeOf_34 b66 ?_
  intro w8 k68 b69 z70
  have m71 := (m53.extk k65).ext k68 (fun k hk => by subst hk; exact Nat.le_trans (z6 k9 k15 k22 k25 k30 k54) p63)
  refine nx ?_
  refine pu (vp g62 3) wN ?_
  refine ld (vi (((y42.getD kq (z_PCand, [])).1).Until)) wN isAgg_3 b69 ?_
  refine mw (vi x_now) ?_
  refine pu (vb (decide (x_now ≤ ((y42.getD kq (z_PCand, [])).1).Until))) wN ?_
  refine n2 ?_
  rcases bf (decide (x_now ≤ ((y42.getD kq (z_PCand, [])).1).Until)) with h72 | h72
  ·have q103 := of_decide_eq_false h72
   refine cf h72 ?_
   refine wc_skip <| wq_blk_normal <| wq_then <| wc_region ?_
   refine ar (((kq : Nat) : Int) + 1) wN ?_
   refine mw (vi (((kq : Nat) : Int) + 1)) ?_
   refine wl_nil ?_
   have o104 := (own_ch (own_kp o56 k65) k68 (ne2 o56 (p63)))
   have hE105 : (((y42.take kq).filter (fun e : El PCand => decide (x_now ≤ e.1.Until))) : List (El PCand)) = (y42.take (kq + 1)).filter (fun e : El PCand => decide (x_now ≤ e.1.Until)) := by first | rfl | exact filt_t (z := (z_PCand, [])) (by omega) (by assumption) | exact filt_f (z := (z_PCand, [])) (by omega) (by assumption)
   have o106 := (own_ch (own_kp hsy1 k65) k68 (ne2 o39 (Nat.le_trans k54.size p63)))
   have s107 := (SubA.ch (SubA.kp hsy2 k65) h48 k68 (fun g h1 h2 hk => by have h3 := Nat.le_trans k54.size p63; omega))
   have b108 := ((hbx5.kp k65).ch k68 (Nat.ne_of_lt (Nat.lt_of_lt_of_le p21 (Nat.le_trans (z3 k25 k30 k54) p63))))
   refine wq_loopP (w0 := w6) [(1, (vi x_now)), (4, (vp g12 0)), (5, (vp g19 0)), (13, (vs a31 ((x_p).Cands).length c32)), (14, (vi (((x_p).Cands).length : Int))), (15, (vi (((kq + 1) : Nat) : Int)))] ?_ ?_ ?_
   · exact ⟨rfl, rfl, rfl, rfl, rfl, (congrArg (Value.int .i64) (show ((((kq : Nat) : Int) + 1) : Int) = (((kq + 1) : Nat) : Int) by omega)), trivial⟩
   · exact fun u => ⟨(kq + 1), u, ab5_2x, cb5_2x, rfl, m71, ((((Ch.refl (fun k => w2.heap.size ≤ k) w5).ext k54 (fun k hk => hk)).extk k65).ext k68 (fun k hk => by subst hk; exact Nat.le_trans (z4 k22 k25 k30 k54) p63)), (by omega), (hE105 ▸ ⟨o104, s57⟩), o106, s107, (by have hb := b108; first | exact hb | (rw [hE105] at hb; exact hb))⟩
   · show x_p.Cands.length - ((((kq + 1) : Nat) : Int)).toNat < x_p.Cands.length - (((kq : Nat) : Int)).toNat; omega
  have q73 := of_decide_eq_true h72
  refine ct h72 ?_
  refine wc_region ?_
  refine pu (vp g19 2) wN ?_
  have b74 := ((hbx5.kp k65).ch k68 (Nat.ne_of_lt (Nat.lt_of_lt_of_le p21 (Nat.le_trans (z3 k25 k30 k54) p63))))
  refine ld (vs ab5_2x ((y42.take kq).filter (fun e : El PCand => decide (x_now ≤ e.1.Until))).length cb5_2x) wN isAgg_26 b74 ?_
  refine lN [(vi ((((y42.getD kq (z_PCand, [])).1).A).Host)), (vi ((((y42.getD kq (z_PCand, [])).1).A).Port)), (vs (adr2 (y42.getD kq (z_PCand, [])).2 0).1 ((y42.getD kq (z_PCand, [])).1).Draw.length (adr2 (y42.getD kq (z_PCand, [])).2 0).2), (vi (((y42.getD kq (z_PCand, [])).1).Until))] wN isAgg_34 sizeOf_34 b69 ?_
  refine wl_lit [(vi ((((y42.getD kq (z_PCand, [])).1).A).Host)), (vi ((((y42.getD kq (z_PCand, [])).1).A).Port)), (vs (adr2 (y42.getD kq (z_PCand, [])).2 0).1 ((y42.getD kq (z_PCand, [])).1).Draw.length (adr2 (y42.getD kq (z_PCand, [])).2 0).2), (vi (((y42.getD kq (z_PCand, [])).1).Until))] wN rfl rfl slTy_26 (m := 1) rfl (by simp only [maxLen]; omega) (fun w => by kernel_rfl) ?_
  intro u75 w9 k76 o77
  obtain ⟨a78, c79, rfl⟩ := own_form o77
  have o82 := (own_kp (own_ch (own_kp o56 k65) k68 (ne2 o56 (p63))) k76)
  refine wl_append wN rfl rfl rfl slTy_26 rfl rfl o82 (ys := LT_34.enc (y42.getD kq (z_PCand, []))) (Rd.of_own o77) (LT_34.one _) (by have hq9 : (((y42.take kq).filter (fun e : El PCand => decide (x_now ≤ e.1.Until)))).length = (((y42.take kq).filter (fun e : El PCand => decide (x_now ≤ e.1.Until)))).length := rfl; omega) (by simp only [maxLen]; omega) (z4 k54 k65 k68 k76) ?_
  intro u83 w10 k84 o85 j86
  have o89 : w10.ownsRow w5.heap.size 34 4 u83 ((((y42.take kq).filter (fun e : El PCand => decide (x_now ≤ e.1.Until))) ++ [(y42.getD kq (z_PCand, []))])).length (((((y42.take kq).filter (fun e : El PCand => decide (x_now ≤ e.1.Until))) ++ [(y42.getD kq (z_PCand, []))])).flatMap LT_34.enc) := by simpa [List.flatMap_append] using o85
  obtain ⟨a87, c88, rfl⟩ := own_form o89
  have m90 := (m71.extk k76).ext k84 (fun k hk => Nat.le_trans (z5 k9 k15 k22 k25 k30) (own_lt o56 k hk).1)
  have s92 : ((((y42.take kq).filter (fun e : El PCand => decide (x_now ≤ e.1.Until))) ++ [(y42.getD kq (z_PCand, []))])).length ≤ 1073741824 := by first | (simp only [List.length_append, List.length_cons, List.length_nil]; omega) | (simp only [List.length_append, List.length_singleton]; refine Nat.le_trans (Nat.succ_le_succ (Nat.le_trans (List.length_filter_le _ _) (List.length_take_le _ _))) ?_; omega)
  refine pu (vp g19 2) wN ?_
  have b93 := ((b74.kp k76).ch k84 (fun h => by have := (own_lt o56 _ h).1; have := Nat.lt_of_lt_of_le p21 (z2 k25 k30); omega))
  refine st (vs a87 ((((y42.take kq).filter (fun e : El PCand => decide (x_now ≤ e.1.Until))) ++ [(y42.getD kq (z_PCand, []))])).length c88) [(vs a87 ((((y42.take kq).filter (fun e : El PCand => decide (x_now ≤ e.1.Until))) ++ [(y42.getD kq (z_PCand, []))])).length c88)] [(vi x_p.At.Host), (vi x_p.At.Port), (vs a87 ((((y42.take kq).filter (fun e : El PCand => decide (x_now ≤ e.1.Until))) ++ [(y42.getD kq (z_PCand, []))])).length c88)] wN sizeOf_26 b93 ?_
  intro w11 k94 b95 z96
  have m97 := m90.ext k94 (fun k hk => by subst hk; exact Nat.le_trans (z2 k9 k15) p20)
  refine wl_nil <| wq_blk_normal <| wq_then <| wc_region ?_
  refine ar (((kq : Nat) : Int) + 1) wN ?_
  refine mw (vi (((kq : Nat) : Int) + 1)) ?_
  refine wl_nil ?_
  have o98 := (own_ch o89 k94 (ne1 o89 (Nat.lt_of_lt_of_le p21 (z2 k25 k30))))
  have hE99 : ((((y42.take kq).filter (fun e : El PCand => decide (x_now ≤ e.1.Until))) ++ [(y42.getD kq (z_PCand, []))]) : List (El PCand)) = (y42.take (kq + 1)).filter (fun e : El PCand => decide (x_now ≤ e.1.Until)) := by first | rfl | exact filt_t (z := (z_PCand, [])) (by omega) (by assumption) | exact filt_f (z := (z_PCand, [])) (by omega) (by assumption)
  have hN100 : ((((y42.take kq).filter (fun e : El PCand => decide (x_now ≤ e.1.Until))) ++ [(y42.getD kq (z_PCand, []))])).length = ((y42.take (kq + 1)).filter (fun e : El PCand => decide (x_now ≤ e.1.Until))).length := by rw [← hE99]; try (first | rfl | simp only [List.length_set] | simp)
  have o101 := (own_ch (own_ch (own_kp (own_ch (own_kp hsy1 k65) k68 (ne2 o39 (Nat.le_trans k54.size p63))) k76) k84 (fun g hg hlt hk => by have h1 := (own_lt o39 g hg).2; have h2 := (own_lt o56 g hk).1; have h3 := (Nat.le_refl w5.heap.size); omega)) k94 (ne1 o39 (Nat.lt_of_lt_of_le p21 k25.size)))
  have s102 := (SubA.ch (SubA.ch (SubA.kp (SubA.ch (SubA.kp hsy2 k65) h48 k68 (fun g h1 h2 hk => by have h3 := Nat.le_trans k54.size p63; omega)) k76) h48 k84 (fun g h1 h2 hk => by have h3 := (own_lt o56 g hk).1; have h4 := (Nat.le_refl w5.heap.size); omega)) h48 k94 (fun g h1 h2 hk => by have h3 := Nat.lt_of_lt_of_le p21 k25.size; omega))
  refine wq_loopP (w0 := w6) [(1, (vi x_now)), (4, (vp g12 0)), (5, (vp g19 0)), (13, (vs a31 ((x_p).Cands).length c32)), (14, (vi (((x_p).Cands).length : Int))), (15, (vi (((kq + 1) : Nat) : Int)))] ?_ ?_ ?_
  · exact ⟨rfl, rfl, rfl, rfl, rfl, (congrArg (Value.int .i64) (show ((((kq : Nat) : Int) + 1) : Int) = (((kq + 1) : Nat) : Int) by omega)), trivial⟩
  · exact fun u => ⟨(kq + 1), u, a87, c88, rfl, m97, (((((((Ch.refl (fun k => w2.heap.size ≤ k) w5).ext k54 (fun k hk => hk)).extk k65).ext k68 (fun k hk => by subst hk; exact Nat.le_trans (z4 k22 k25 k30 k54) p63)).extk k76).ext k84 (fun k hk => Nat.le_trans (z3 k22 k25 k30) (own_lt o56 k hk).1)).ext k94 (fun k hk => by subst hk; exact p20)), (by omega), ⟨(by rw [← hN100, ← hE99]; exact o98), (by rw [← hN100]; first | exact s92 | (simp only [List.length_append, List.length_take, List.length_replicate]; omega))⟩, o101, s102, (by have hb := b95; first | exact hb | (rw [hE99] at hb; exact hb))⟩
  · show x_p.Cands.length - ((((kq + 1) : Nat) : Int)).toNat < x_p.Cands.length - (((kq : Nat) : Int)).toNat; omega

theorem C_impl_candAt (w0 : World) (v_x_p : Value) (x_p : PPaths) (r_x_p : R_28 w0 v_x_p x_p) (v_x_a : Value) (x_a : PAddr) (r_x_a : R_25 w0 v_x_a x_a)  : Fn Try.prog 54 #[v_x_p, v_x_a] w0 (fun v w' => Keep w0 w' ∧ O_3 w' w0.heap.size v (candAt x_p x_a)) := by
 obtain ⟨a1, c2, rfl, r3, s4⟩ := r_x_p
 obtain rfl := r_x_a
 refine fn_ofS (n := 21) [(va (L_28 x_p a1 c2)), (va (L_25 x_a))] Try.func54 rfl rfl ?_
 refine sr ?_
 refine bx (L_28 x_p a1 c2) wN ?_
 intro g6 w1 p7 p8 k9 b10
 refine bx (L_25 x_a) wN ?_
 intro g12 w2 p13 p14 k15 b16
 have m17 := ((Ch.base w0).extk k9).extk k15
 refine aw (vi 0) ?_
 refine n4 ?_
 refine pu (vp g6 2) wN ?_
 have b18 := (b10.kp k15)
 refine ld (vs a1 x_p.Cands.length c2) wN isAgg_26 b18 ?_
 obtain ⟨y19, r20⟩ := RLv.row (r3.from0 m17)
 refine ln wN slTy_26 r20 ?_
 refine mw (vi 0) ?_
 refine wl_nil <| wq_then <| wc_block ?_
 refine wc_loopP [(3, (vp g12 0)), (8, (vs a1 x_p.Cands.length c2)), (9, (vi (x_p.Cands.length : Int))), (10, (vi ((0 : Nat) : Int)))] ⟨rfl, rfl, rfl, (congrArg (Value.int .i64) (show (0 : Int) = ((0 : Nat) : Int) by omega)), trivial⟩ (fun e' w' => ∃ (k : Nat) (u21 : Env), e' = pt u21 [(3, (vp g12 0)), (8, (vs a1 x_p.Cands.length c2)), (9, (vi (x_p.Cands.length : Int))), (10, (vi ((k : Nat) : Int)))] ∧ Ch (fun k => w0.heap.size ≤ k) w0 w' ∧ Ch (fun k => w2.heap.size ≤ k) w2 w' ∧ k ≤ x_p.Cands.length ∧ (∀ j, j < k → (fun c : PCand => decide (c.A.Host = x_a.Host) && decide (c.A.Port = x_a.Port)) (x_p.Cands.getD j z_PCand) = false)) (fun e' _ => x_p.Cands.length - ((intOf (e' 10))).toNat) ?_ ?_
 ·exact fun u => ⟨0, u, rfl, m17, (Ch.refl (fun k => w2.heap.size ≤ k) w2), (by omega), (by first | (intro j hj; omega) | exact find_next (p := (fun c : PCand => decide (c.A.Host = x_a.Host) && decide (c.A.Port = x_a.Port))) (by assumption) (by assumption))⟩
 ·rintro _ w3 ⟨k, u21, rfl, m22, k23, i24, i25⟩
  refine sr ?_
  refine pu (vb (decide (((k : Nat) : Int) < (x_p.Cands.length : Int)))) wN ?_
  refine wl_nil <| wq_then <| wc_seq ?_
  rcases bf (decide (((k : Nat) : Int) < (x_p.Cands.length : Int))) with h26 | h26
  ·have q57 := of_decide_eq_false h26
   refine cf h26 ?_
   refine wc_exit <| wq_then_exit <| wq_then_exit <| wq_blk_exit <| wq_then <| sr ?_
   refine aw (vi (-1)) ?_
   refine n3 ?_
   refine rt (vi (-1)) ?_
   refine ⟨m22.keep0, ?_⟩
   have hF58 : candAt x_p x_a = (-1) := by exact findF_none (p := (fun c : PCand => decide (c.A.Host = x_a.Host) && decide (c.A.Port = x_a.Port))) (z := z_PCand) (by assumption) (by omega)
   rw [hF58]
   exact rfl
  have q27 := of_decide_eq_true h26
  refine ct h26 ?_
  refine wc_skip <| wq_then <| wc_seq <| wc_block <| sr ?_
  refine mw (vi ((k : Nat) : Int)) ?_
  obtain ⟨y28, r29⟩ := RLv.row (r3.from0 m22)
  refine ix wN ((k : Nat) : Int) slTy_26 r29 ?_
  obtain ⟨y30, l31, r32, e33, u34⟩ := RLv.el z_PCand (i := k) r3 (by first | omega | (simp only [List.length_cons, List.length_nil, List.length_replicate, List.length_append, List.length_take, List.length_set, List.length_map]; omega))
  obtain ⟨a35, c36, l40, rfl, r37, s38, u41⟩ := SubR.c u34
  obtain rfl := SubR.n u41
  refine wl_loadEN [(vi (((x_p.Cands.getD k z_PCand).A).Host)), (vi (((x_p.Cands.getD k z_PCand).A).Port)), (vs a35 (x_p.Cands.getD k z_PCand).Draw.length c36), (vi ((x_p.Cands.getD k z_PCand).Until))] wN rfl rfl rfl rfl isAgg_34 sizeOf_34 (r32.from0 m22) (by first | omega | (simp only [List.length_cons, List.length_nil, List.length_replicate, List.length_append, List.length_take, List.length_set, List.length_map]; omega)) ((part_of (off := 0) (n := 4) e33 (by first | rfl | simp | omega) (by decide)).trans rfl) ?_
  refine al Z_34 wN zero_34 ?_
  intro g42 w4 p43 p44 k45 b46
  refine aw (vi ((k : Nat) : Int)) ?_
  refine sv [(vi (((x_p.Cands.getD k z_PCand).A).Host)), (vi (((x_p.Cands.getD k z_PCand).A).Port)), (vs a35 (x_p.Cands.getD k z_PCand).Draw.length c36), (vi ((x_p.Cands.getD k z_PCand).Until))] wN sizeOf_34 b46 ?_
  intro w5 k48 b49 z50
  have m51 := (m22.extk k45).ext k48 (fun k hk => by subst hk; exact Nat.le_trans (z3 k9 k15 k23) p43)
  refine nx ?_
  refine pu (vp g42 0) wN ?_
  refine lN (L_25 ((x_p.Cands.getD k z_PCand).A)) wN isAgg_25 sizeOf_25 b49 ?_
  have b52 := (((b16.ch k23 (Nat.not_le.2 (p14))).kp k45).ch k48 (Nat.ne_of_lt (Nat.lt_of_lt_of_le p14 (Nat.le_trans k23.size p43))))
  refine lN (L_25 x_a) wN isAgg_25 sizeOf_25 b52 ?_
  refine wl_aggeq ((decide ((((x_p.Cands.getD k z_PCand).A).Host) = x_a.Host) && decide ((((x_p.Cands.getD k z_PCand).A).Port) = x_a.Port))) wN rfl rfl rfl rfl rfl guardt_25 (aggeq_25 (((x_p.Cands.getD k z_PCand).A).Host) x_a.Host (((x_p.Cands.getD k z_PCand).A).Port) x_a.Port w5) ?_
  refine n2 ?_
  rcases bt (decide ((((x_p.Cands.getD k z_PCand).A).Host) = x_a.Host) && decide ((((x_p.Cands.getD k z_PCand).A).Port) = x_a.Port)) with h53 | h53
  ·refine ct h53 ?_
   refine sr ?_
   refine mw (vi ((k : Nat) : Int)) ?_
   refine aw (vi ((k : Nat) : Int)) ?_
   refine wl_nil <| wq_then <| wc_ret <| wq_blk_ret <| wq_then_ret <| wq_then_ret <| wq_blk_ret <| wq_then_ret ?_
   refine rt (vi ((k : Nat) : Int)) ?_
   refine ⟨m51.keep0, ?_⟩
   have hF55 : candAt x_p x_a = ((k : Nat) : Int) := by exact findF_some (p := (fun c : PCand => decide (c.A.Host = x_a.Host) && decide (c.A.Port = x_a.Port))) (z := z_PCand) (by assumption) (by omega) (by assumption)
   rw [hF55]
   exact rfl
  refine cf h53 ?_
  refine wc_skip <| wq_blk_normal <| wq_then <| wc_region ?_
  refine ar (((k : Nat) : Int) + 1) wN ?_
  refine mw (vi (((k : Nat) : Int) + 1)) ?_
  refine wl_nil ?_
  refine wq_loopP (w0 := w3) [(3, (vp g12 0)), (8, (vs a1 x_p.Cands.length c2)), (9, (vi (x_p.Cands.length : Int))), (10, (vi (((k + 1) : Nat) : Int)))] ?_ ?_ ?_
  · exact ⟨rfl, rfl, rfl, (congrArg (Value.int .i64) (show ((((k : Nat) : Int) + 1) : Int) = (((k + 1) : Nat) : Int) by omega)), trivial⟩
  · exact fun u => ⟨(k + 1), u, rfl, m51, ((((Ch.refl (fun k => w2.heap.size ≤ k) w2).ext k23 (fun k hk => hk)).extk k45).ext k48 (fun k hk => by subst hk; exact Nat.le_trans k23.size p43)), (by omega), (by first | (intro j hj; omega) | exact find_next (p := (fun c : PCand => decide (c.A.Host = x_a.Host) && decide (c.A.Port = x_a.Port))) (by assumption) (by assumption))⟩
  · show x_p.Cands.length - ((((k + 1) : Nat) : Int)).toNat < x_p.Cands.length - (((k : Nat) : Int)).toNat; omega

def F_impl_Offer (x_p : PPaths) (x_now : Int) (x_a : PAddr) (x_draw : List UInt8) : (PPaths) × (Bool) := bif (iPa x_p) then (bif (F_impl_within x_now 0 1000000) then (bif (F_impl_AddrOk x_a) then (bif (F_impl_isNonce x_draw) then (bif (decide (x_a.Host = x_p.At.Host) && decide (x_a.Port = x_p.At.Port)) then (((x_p), false)) else (bif (decide (0 ≤ (candAt (F_impl_withoutExpired x_p x_now) x_a))) then (((x_p), false)) else (bif (decide ((((F_impl_withoutExpired x_p x_now).Cands).length : Int) = 3)) then (((x_p), false)) else (({ At := ((F_impl_withoutExpired x_p x_now).At), Cands := ((F_impl_withoutExpired x_p x_now).Cands ++ [{ A := x_a, Draw := (x_draw), Until := (x_now + 6) : PCand }]) : PPaths }, true))))) else (((x_p), false))) else (((x_p), false))) else (((x_p), false))) else (((x_p), false))
theorem C_impl_Offer (w0 : World) (v_x_p : Value) (x_p : PPaths) (r_x_p : R_28 w0 v_x_p x_p) (x_now : Int) (v_x_a : Value) (x_a : PAddr) (r_x_a : R_25 w0 v_x_a x_a) (v_x_draw : Value) (x_draw : List UInt8) (r_x_draw : R_22 w0 v_x_draw x_draw)  : Fn Try.prog 18 #[v_x_p, (vi x_now), v_x_a, v_x_draw] w0 (fun v w' => Keep w0 w' ∧ O_28_4 w' w0.heap.size v (F_impl_Offer x_p x_now x_a x_draw)) := by
 obtain ⟨a1, c2, rfl, r3, s4⟩ := r_x_p
 obtain rfl := r_x_a
 obtain ⟨a6, c7, rfl, r8, s9⟩ := r_x_draw
 refine fn_ofS (n := 64) [(va (L_28 x_p a1 c2)), (vi x_now), (va (L_25 x_a)), (vs a6 x_draw.length c7)] Try.func18 rfl rfl ?_
 refine sr ?_
 refine bx (L_28 x_p a1 c2) wN ?_
 intro g11 w1 p12 p13 k14 b15
 refine bx (L_25 x_a) wN ?_
 intro g17 w2 p18 p19 k20 b21
 refine al [(vi 0), (vi 0), (vs none 0 0)] wN zero_28 ?_
 intro g23 w3 p24 p25 k26 b27
 have m28 := (((Ch.base w0).extk k14).extk k20).extk k26
 refine aw (vb false) ?_
 refine n4 ?_
 refine jT1 [(1, (vi x_now)), (3, (vs a6 x_draw.length c7)), (4, (vp g11 0)), (6, (vp g17 0)), (8, (vp g23 0)), (9, (vb false))] (F_impl_Offer x_p x_now x_a x_draw = ((x_p), false)) ?_ fun J29 => ?_
 ·intro hA30 w4 k32 u31
  have m33 := m28.extk k32
  refine sr ?_
  have b34 := (((b15.kp k20).kp k26).kp k32)
  refine lN (L_28 x_p a1 c2) wN isAgg_28 sizeOf_28 b34 ?_
  refine cl wN (C_impl_copyPaths w4 _ x_p (mR_28 (r3.from0 m33) s4)) ?_
  rintro _ w5 ⟨k35, ⟨a36, c37, rfl, o38, s39, ap41⟩⟩
  obtain ⟨y43, o44⟩ := OLv.ow o38
  have b45 := ((b27.kp k32).kp k35)
  refine sv (L_28 (x_p) a36 c37) wN sizeOf_28 b45 ?_
  intro w6 k46 b47 z48
  have m49 := (m33.extk k35).ext k46 (fun k hk => by subst hk; exact Nat.le_trans (z2 k14 k20) p24)
  refine aw (vb false) ?_
  refine n1 ?_
  have o50 := (OLv.ch o38 k46 (fun g h1 h2 hk => by have h3 := Nat.lt_of_lt_of_le p25 k32.size; omega))
  refine ret_2 (.inl rfl) (va (L_28 (x_p) a36 c37)) (vb false) rfl (rv_c (L_28 (x_p) a36 c37) rfl b47 isAgg_28 sizeOf_28) rfl ?_
  refine ⟨m49.keep0, ?_⟩
  rw [hA30]
  exact ⟨_, _, rfl, (OLv.now (OLv.low o50 (z4 k14 k20 k26 k32))), s39, ⟨trivial, trivial⟩⟩
 have b52 := ((b15.kp k20).kp k26)
 refine lN (L_28 x_p a1 c2) wN isAgg_28 sizeOf_28 b52 ?_
 refine cl wN (C_impl_PathsOk w3 _ x_p (mR_28 (r3.from0 m28) s4)) ?_
 rintro _ w4 ⟨k53, rfl⟩
 refine pu (vb (!(iPa x_p))) wN ?_
 refine mw (vb (!(iPa x_p))) ?_
 rcases bf (iPa x_p) with h55 | h55
 ·iterate 3 refine sk (congrArg not h55) ?_
  refine pk (vb true) wN (congrArg not h55) ?_
  refine mw (vb true) ?_
  iterate 3 refine sk (Eq.refl true) ?_
  refine pk (vb true) wN (Eq.refl true) ?_
  refine mw (vb true) ?_
  iterate 3 refine sk (Eq.refl true) ?_
  refine pk (vb true) wN (Eq.refl true) ?_
  refine mw (vb true) ?_
  iterate 4 refine sk (Eq.refl true) ?_
  refine pk (vb true) wN (Eq.refl true) ?_
  refine n2 ?_
  refine ct (Eq.refl true) ?_
  have hF274 : F_impl_Offer x_p x_now x_a x_draw = ((x_p), false) := by simp only [F_impl_Offer, h55, cond_true, cond_false]
  exact wj (J29 hF274 _ k53)
 have q56 := iPa_t h55
 refine mv (vi x_now) (wS (congrArg not h55)) ?_
 refine cl (wS (congrArg not h55)) (C_impl_within w4 x_now 0 1000000) ?_
 rintro _ w5 ⟨k57, rfl⟩
 refine pu (vb (!(F_impl_within x_now 0 1000000))) (wS (congrArg not h55)) ?_
 refine pf (vb (!(F_impl_within x_now 0 1000000))) wN (congrArg not h55) ?_
 refine mw (vb (!(F_impl_within x_now 0 1000000))) ?_
 rcases bf (F_impl_within x_now 0 1000000) with h59 | h59
 ·have q271 := impl_within_f h59
  iterate 3 refine sk (congrArg not h59) ?_
  refine pk (vb true) wN (congrArg not h59) ?_
  refine mw (vb true) ?_
  iterate 3 refine sk (Eq.refl true) ?_
  refine pk (vb true) wN (Eq.refl true) ?_
  refine mw (vb true) ?_
  iterate 4 refine sk (Eq.refl true) ?_
  refine pk (vb true) wN (Eq.refl true) ?_
  refine n2 ?_
  refine ct (Eq.refl true) ?_
  have hF272 : F_impl_Offer x_p x_now x_a x_draw = ((x_p), false) := by simp only [F_impl_Offer, h55, h59, cond_true, cond_false]
  exact wj (J29 hF272 _ (k53.trans k57))
 have q60 := impl_within_t h59
 have b61 := (((b21.kp k26).kp k53).kp k57)
 refine lN (L_25 x_a) (wS (congrArg not h59)) isAgg_25 sizeOf_25 b61 ?_
 refine cl (wS (congrArg not h59)) (C_impl_AddrOk w5 _ x_a (mR_25)) ?_
 rintro _ w6 ⟨k62, rfl⟩
 have m63 := ((m28.extk k53).extk k57).extk k62
 refine pu (vb (!(F_impl_AddrOk x_a))) (wS (congrArg not h59)) ?_
 refine pf (vb (!(F_impl_AddrOk x_a))) wN (congrArg not h59) ?_
 refine mw (vb (!(F_impl_AddrOk x_a))) ?_
 rcases bf (F_impl_AddrOk x_a) with h64 | h64
 ·iterate 3 refine sk (congrArg not h64) ?_
  refine pk (vb true) wN (congrArg not h64) ?_
  refine mw (vb true) ?_
  iterate 4 refine sk (Eq.refl true) ?_
  refine pk (vb true) wN (Eq.refl true) ?_
  refine n2 ?_
  refine ct (Eq.refl true) ?_
  have hF270 : F_impl_Offer x_p x_now x_a x_draw = ((x_p), false) := by simp only [F_impl_Offer, h55, h59, h64, cond_true, cond_false]
  exact wj (J29 hF270 _ ((k53.trans k57).trans k62))
 refine mv (vs a6 x_draw.length c7) (wS (congrArg not h64)) ?_
 refine cl (wS (congrArg not h64)) (C_impl_isNonce w6 _ x_draw (mR_22 (r8.from0 m63) s9)) ?_
 rintro _ w7 ⟨k66, rfl⟩
 have m67 := m63.extk k66
 refine pu (vb (!(F_impl_isNonce x_draw))) (wS (congrArg not h64)) ?_
 refine pf (vb (!(F_impl_isNonce x_draw))) wN (congrArg not h64) ?_
 refine mw (vb (!(F_impl_isNonce x_draw))) ?_
 rcases bf (F_impl_isNonce x_draw) with h68 | h68
 ·iterate 4 refine sk (congrArg not h68) ?_
  refine pk (vb true) wN (congrArg not h68) ?_
  refine n2 ?_
  refine ct (Eq.refl true) ?_
  have hF268 : F_impl_Offer x_p x_now x_a x_draw = ((x_p), false) := by simp only [F_impl_Offer, h55, h59, h64, h68, cond_true, cond_false]
  exact wj (J29 hF268 _ (((k53.trans k57).trans k62).trans k66))
 have b70 := ((b61.kp k62).kp k66)
 refine lN (L_25 x_a) (wS (congrArg not h68)) isAgg_25 sizeOf_25 b70 ?_
 refine pu (vp g11 0) (wS (congrArg not h68)) ?_
 have b71 := ((((b52.kp k53).kp k57).kp k62).kp k66)
 refine lN (L_25 x_p.At) (wS (congrArg not h68)) isAgg_25 sizeOf_25 b71 ?_
 refine wl_aggeq ((decide (x_a.Host = x_p.At.Host) && decide (x_a.Port = x_p.At.Port))) (wS (congrArg not h68)) rfl rfl rfl rfl rfl guardt_25 (aggeq_25 x_a.Host x_p.At.Host x_a.Port x_p.At.Port w7) ?_
 refine pf (vb (decide (x_a.Host = x_p.At.Host) && decide (x_a.Port = x_p.At.Port))) wN (congrArg not h68) ?_
 refine n2 ?_
 rcases bt (decide (x_a.Host = x_p.At.Host) && decide (x_a.Port = x_p.At.Port)) with h72 | h72
 ·refine ct h72 ?_
  have hF74 : F_impl_Offer x_p x_now x_a x_draw = ((x_p), false) := by simp only [F_impl_Offer, h55, h59, h64, h68, h72, cond_true, cond_false]
  exact wj (J29 hF74 _ (((k53.trans k57).trans k62).trans k66))
 refine cf h72 ?_
 refine y1 ?_
 refine lN (L_28 x_p a1 c2) wN isAgg_28 sizeOf_28 b71 ?_
 refine mw (vi x_now) ?_
 refine cl wN (C_impl_withoutExpired w7 _ x_p (mR_28 (r3.from0 m67) s4) x_now) ?_
 rintro _ w8 ⟨k76, ⟨a77, c78, rfl, o79, s80, ap82⟩⟩
 obtain ⟨y84, o85⟩ := OLv.ow o79
 refine al [(vi 0), (vi 0), (vs none 0 0)] wN zero_28 ?_
 intro g86 w9 p87 p88 k89 b90
 refine sv (L_28 (F_impl_withoutExpired x_p x_now) a77 c78) wN sizeOf_28 b90 ?_
 intro w10 k92 b93 z94
 have m95 := ((m67.extk k76).extk k89).ext k92 (fun k hk => by subst hk; exact Nat.le_trans (z8 k14 k20 k26 k53 k57 k62 k66 k76) p87)
 refine n4 ?_
 refine jT1 [(1, (vi x_now)), (3, (vs a6 x_draw.length c7)), (4, (vp g11 0)), (6, (vp g17 0)), (8, (vp g23 0)), (9, (vb false)), (10, (vp g86 0))] (F_impl_Offer x_p x_now x_a x_draw = ((x_p), false)) ?_ fun J96 => ?_
 ·intro hA97 w11 k99 u98
  have m100 := m95.extk k99
  refine sr ?_
  have b101 := ((((b71.kp k76).kp k89).ch k92 (Nat.ne_of_lt (Nat.lt_of_lt_of_le p13 (Nat.le_trans (z7 k20 k26 k53 k57 k62 k66 k76) p87)))).kp k99)
  refine lN (L_28 x_p a1 c2) wN isAgg_28 sizeOf_28 b101 ?_
  refine cl wN (C_impl_copyPaths w11 _ x_p (mR_28 (r3.from0 m100) s4)) ?_
  rintro _ w12 ⟨k102, ⟨a103, c104, rfl, o105, s106, ap108⟩⟩
  obtain ⟨y110, o111⟩ := OLv.ow o105
  have b112 := (((((((((b27.kp k53).kp k57).kp k62).kp k66).kp k76).kp k89).ch k92 (Nat.ne_of_lt (Nat.lt_of_lt_of_le p25 (Nat.le_trans (z5 k53 k57 k62 k66 k76) p87)))).kp k99).kp k102)
  refine sv (L_28 (x_p) a103 c104) wN sizeOf_28 b112 ?_
  intro w13 k113 b114 z115
  have m116 := (m100.extk k102).ext k113 (fun k hk => by subst hk; exact Nat.le_trans (z2 k14 k20) p24)
  refine aw (vb false) ?_
  refine n1 ?_
  have o117 := (OLv.ch o105 k113 (fun g h1 h2 hk => by have h3 := Nat.lt_of_lt_of_le p25 (z8 k53 k57 k62 k66 k76 k89 k92 k99); omega))
  refine ret_2 (.inl rfl) (va (L_28 (x_p) a103 c104)) (vb false) rfl (rv_c (L_28 (x_p) a103 c104) rfl b114 isAgg_28 sizeOf_28) rfl ?_
  refine ⟨m116.keep0, ?_⟩
  rw [hA97]
  exact ⟨_, _, rfl, (OLv.now (OLv.low o117 (z11 k14 k20 k26 k53 k57 k62 k66 k76 k89 k92 k99))), s106, ⟨trivial, trivial⟩⟩
 refine lN (L_28 (F_impl_withoutExpired x_p x_now) a77 c78) wN isAgg_28 sizeOf_28 b93 ?_
 have b119 := (((b70.kp k76).kp k89).ch k92 (Nat.ne_of_lt (Nat.lt_of_lt_of_le p19 (Nat.le_trans (z6 k26 k53 k57 k62 k66 k76) p87))))
 refine lN (L_25 x_a) wN isAgg_25 sizeOf_25 b119 ?_
 have o120 := (OLv.ch (OLv.kp o79 k89) k92 (fun g h1 h2 hk => by have h3 := Nat.le_trans (Nat.le_refl w8.heap.size) p87; omega))
 refine cl wN (C_impl_candAt w10 _ (F_impl_withoutExpired x_p x_now) (mR_28 (OLv.rl o120) s80) _ x_a (mR_25)) ?_
 rintro _ w11 ⟨k121, rfl⟩
 have m122 := m95.extk k121
 have q123 := candAt_range (F_impl_withoutExpired x_p x_now) x_a
 refine pu (vb (decide (0 ≤ (candAt (F_impl_withoutExpired x_p x_now) x_a)))) wN ?_
 refine mw (vb (decide (0 ≤ (candAt (F_impl_withoutExpired x_p x_now) x_a)))) ?_
 rcases bt (decide (0 ≤ (candAt (F_impl_withoutExpired x_p x_now) x_a))) with h124 | h124
 ·have q125 := of_decide_eq_true h124
  iterate 4 refine sk h124 ?_
  refine pk (vb true) wN h124 ?_
  refine n2 ?_
  refine ct (Eq.refl true) ?_
  have hF126 : F_impl_Offer x_p x_now x_a x_draw = ((x_p), false) := by simp only [F_impl_Offer, h55, h59, h64, h68, h72, h124, cond_true, cond_false]
  exact wj (J96 hF126 _ k121)
 have q127 := of_decide_eq_false h124
 refine pu (vp g86 2) (wS h124) ?_
 have b128 := (b93.kp k121)
 refine ld (vs a77 ((F_impl_withoutExpired x_p x_now).Cands).length c78) (wS h124) isAgg_26 b128 ?_
 have o131 := (OLv.kp o120 k121)
 obtain ⟨y129, r130⟩ := RLv.row (OLv.rl o131)
 refine ln (wS h124) slTy_26 r130 ?_
 refine pu (vb (decide ((((F_impl_withoutExpired x_p x_now).Cands).length : Int) = 3))) (wS h124) ?_
 refine pf (vb (decide ((((F_impl_withoutExpired x_p x_now).Cands).length : Int) = 3))) wN h124 ?_
 refine n2 ?_
 rcases bt (decide ((((F_impl_withoutExpired x_p x_now).Cands).length : Int) = 3)) with h132 | h132
 ·have q133 := of_decide_eq_true h132
  refine ct h132 ?_
  have hF134 : F_impl_Offer x_p x_now x_a x_draw = ((x_p), false) := by simp only [F_impl_Offer, h55, h59, h64, h68, h72, h124, h132, cond_true, cond_false]
  exact wj (J96 hF134 _ k121)
 have q135 := of_decide_eq_false h132
 refine cf h132 ?_
 refine wc_skip <| wq_then <| wc_seq ?_
 refine wc_drawT ([(52, [], [], (fun _ v _ => v = (vp g86 2))), (53, [], [0], (fun _ v _ => v = (vs a77 ((F_impl_withoutExpired x_p x_now).Cands).length c78))), (54, [], [], (fun _ v _ => v = (va (L_25 x_a)))), (55, [], [], (fun _ v _ => v = (vs a6 x_draw.length c7))), (56, [], [3], (fun _ v w => ∃ (a1 : Option Addr) (c1 : Nat), v = .slice a1 (x_draw).length c1 ∧ w.ownsRow (w11.heap.size) 5 1 (.slice a1 (x_draw).length c1) (x_draw).length ((x_draw).map bV) ∧ (x_draw).length ≤ 1073741824 ∧ Aps [(a1, c1)])), (57, [], [], (fun _ v _ => v = (vi x_now))), (58, [], [5], (fun _ v _ => v = (vi (x_now + 6)))), (59, [56], [2, 3, 4, 5, 6], (fun e v _ => v = (.agg #[(vi x_a.Host), (vi x_a.Port), (e 56), (vi (x_now + 6))]))), (60, [56], [2, 3, 4, 5, 6, 7], (fun e v w => ∃ (a1 : Option Addr) (c1 : Nat), v = .slice a1 1 c1 ∧ w.ownsRow w11.heap.size 34 4 (.slice a1 1 c1) 1 [(vi x_a.Host), (vi x_a.Port), (e 56), (vi (x_now + 6))]))] : GV) (fun _ w' => Keep w11 w') [] mixed rfl (by kernel_rfl) (by kernel_rfl) ?_ (fun _ _ h => h) (fun _ _ _ _ h _ k => h.trans k) trivial ?_ ?_ ?_
 ·exact ⟨hV, hE, ⟨hV, hE, ⟨hV, hE, ⟨hV, hE, ⟨(fun e v w w1 h hk => by obtain ⟨a0x, c0x, he, o0x, l0x, hap⟩ := h; exact ⟨a0x, c0x, he, own_kp o0x hk, l0x, hap⟩), hE, ⟨hV, hE, ⟨hV, hE, ⟨hV, (fun e1 e2 v w hx h => by have h56x := hx 56 (by simp); simp only [h56x] at h; exact h), ⟨(fun e v w w1 h hk => by obtain ⟨a0x, c0x, he, o0x⟩ := h; exact ⟨a0x, c0x, he, own_kp o0x hk⟩), (fun e1 e2 v w hx h => by have h56x := hx 56 (by simp); simp only [h56x] at h; exact h), trivial⟩⟩⟩⟩⟩⟩⟩⟩⟩
 ·exact trivial
 ·refine ⟨?_, ⟨?_, ⟨?_, ⟨?_, ⟨?_, ⟨?_, ⟨?_, ⟨?_, ⟨?_, trivial⟩⟩⟩⟩⟩⟩⟩⟩⟩
  ·intro _ w12 k182 _
   rintro _ _ _ _ _ _ _ _ _
   show WL _ _ _ _ _ _ _
   refine pu (vp g86 2) wN ?_
   exact f1
  ·intro _ w12 k184 _
   rintro _ rfl _ _ _ _ _ _ _ _
   show WL _ _ _ _ _ _ _
   have b186 := (b128.kp k184)
   refine ld (vs a77 ((F_impl_withoutExpired x_p x_now).Cands).length c78) wN isAgg_26 b186 ?_
   exact f1
  ·intro _ w12 k187 _
   rintro _ _ _ _ _ _ _ _ _
   show WL _ _ _ _ _ _ _
   have b189 := ((b119.kp k121).kp k187)
   refine lN (L_25 x_a) wN isAgg_25 sizeOf_25 b189 ?_
   exact f1
  ·intro _ w12 k190 _
   rintro _ _ _ _ _ _ _ _ _
   show WL _ _ _ _ _ _ _
   refine mw (vs a6 x_draw.length c7) ?_
   exact f1
  ·intro _ w12 k192 _
   have m193 := m122.extk k192
   rintro _ _ _ _ rfl _ _ _ _ _
   show WL _ _ _ _ _ _ _
   refine cl wN (C_impl_clone w12 _ x_draw (mR_22 (r8.from0 m193) s9)) ?_
   rintro _ w13 ⟨k194, ⟨a195, c196, rfl, o197, s198, ap200⟩⟩
   exact wl_finT k194 ⟨_, _, rfl, (own_lo o197 k192.size), s198, ap200⟩
  ·intro _ w12 k202 _
   rintro _ _ _ _ _ _ _ _ _
   show WL _ _ _ _ _ _ _
   refine mw (vi x_now) ?_
   exact f1
  ·intro _ w12 k204 _
   rintro _ _ _ _ _ _ rfl _ _ _
   show WL _ _ _ _ _ _ _
   refine ar (x_now + 6) wN ?_
   exact f1
  ·intro _ w12 k206 _
   rintro _ _ _ rfl _ rfl _ ⟨a209, c210, rfl, o211, s212, ap214⟩ _ rfl _ rfl _ _
   show WL _ _ _ _ _ _ _
   refine pu (va [(vi x_a.Host), (vi x_a.Port), (vs a209 (x_draw).length c210), (vi (x_now + 6))]) wN ?_
   exact f1
  ·intro _ w12 k215 _
   rintro _ _ _ rfl _ rfl _ ⟨a218, c219, rfl, o220, s221, ap223⟩ _ rfl _ rfl _ rfl _
   show WL _ _ _ _ _ _ _
   refine wl_lit [(vi x_a.Host), (vi x_a.Port), (vs a218 (x_draw).length c219), (vi (x_now + 6))] wN rfl rfl slTy_26 (m := 1) rfl (by simp only [maxLen]; omega) (fun w => by kernel_rfl) ?_
   intro u224 w13 k225 o226
   obtain ⟨a227, c228, rfl⟩ := own_form o226
   exact wl_finT k225 ⟨_, _, rfl, own_lo o226 k215.size⟩
 ·intro _ w12 k231
  rintro _ rfl _ rfl _ rfl _ rfl _ ⟨a235, c236, rfl, o237, s238, ap240⟩ _ rfl _ rfl _ rfl _ ⟨a241, c242, rfl, o243⟩
  show WL _ _ _ _ _ _ _
  have o245 := (OLv.kp o131 k231)
  refine wl_appL (L := LT_34) (xs := (F_impl_withoutExpired x_p x_now).Cands) (el := { A := x_a, Draw := (x_draw), Until := (x_now + 6) : PCand }) (l := [(a235, c236)]) wN slTy_26 o245 (Rd.of_own o243) ⟨⟨(own_lo o237 (z3 k89 k92 k121)), s238⟩, trivial⟩ ⟨trivial, trivial⟩ (Nat.le_refl _) k76.size (by first | omega | (simp only [List.length_take, List.length_append, List.length_cons, List.length_nil]; omega) | (refine Nat.le_trans (Nat.succ_le_succ (List.length_filter_le _ _)) ?_; simp only [List.length_take]; omega)) (z5 k76 k89 k92 k121 k231) ?_
  intro a246 c247 w13 k248 o249
  have m250 := (m122.extk k231).ext k248 (fun k hk => Nat.le_trans (z7 k14 k20 k26 k53 k57 k62 k66) (own_lt o85 k hk).1)
  obtain ⟨y253, o254⟩ := OLv.ow o249
  refine pu (vp g86 2) wN ?_
  have b255 := ((b128.kp k231).ch k248 (fun h => by have := (own_lt o85 _ h).2; have := Nat.le_trans (Nat.le_refl w8.heap.size) p87; omega))
  refine st (vs a246 ((F_impl_withoutExpired x_p x_now).Cands ++ [{ A := x_a, Draw := (x_draw), Until := (x_now + 6) : PCand }]).length c247) [(vs a246 ((F_impl_withoutExpired x_p x_now).Cands ++ [{ A := x_a, Draw := (x_draw), Until := (x_now + 6) : PCand }]).length c247)] [(vi (((F_impl_withoutExpired x_p x_now).At).Host)), (vi (((F_impl_withoutExpired x_p x_now).At).Port)), (vs a246 ((F_impl_withoutExpired x_p x_now).Cands ++ [{ A := x_a, Draw := (x_draw), Until := (x_now + 6) : PCand }]).length c247)] wN sizeOf_26 b255 ?_
  intro w14 k256 b257 z258
  have m259 := m250.ext k256 (fun k hk => by subst hk; exact Nat.le_trans (z8 k14 k20 k26 k53 k57 k62 k66 k76) p87)
  refine nx ?_
  refine lN [(vi (((F_impl_withoutExpired x_p x_now).At).Host)), (vi (((F_impl_withoutExpired x_p x_now).At).Port)), (vs a246 ((F_impl_withoutExpired x_p x_now).Cands ++ [{ A := x_a, Draw := (x_draw), Until := (x_now + 6) : PCand }]).length c247)] wN isAgg_28 sizeOf_28 b257 ?_
  have b260 := (((((((((((b27.kp k53).kp k57).kp k62).kp k66).kp k76).kp k89).ch k92 (Nat.ne_of_lt (Nat.lt_of_lt_of_le p25 (Nat.le_trans (z5 k53 k57 k62 k66 k76) p87)))).kp k121).kp k231).ch k248 (fun h => by have := (own_lt o85 _ h).1; have := Nat.lt_of_lt_of_le p25 (z4 k53 k57 k62 k66); omega)).ch k256 (Nat.ne_of_lt (Nat.lt_of_lt_of_le p25 (Nat.le_trans (z5 k53 k57 k62 k66 k76) p87))))
  refine sv [(vi (((F_impl_withoutExpired x_p x_now).At).Host)), (vi (((F_impl_withoutExpired x_p x_now).At).Port)), (vs a246 ((F_impl_withoutExpired x_p x_now).Cands ++ [{ A := x_a, Draw := (x_draw), Until := (x_now + 6) : PCand }]).length c247)] wN sizeOf_28 b260 ?_
  intro w15 k261 b262 z263
  have m264 := m259.ext k261 (fun k hk => by subst hk; exact Nat.le_trans (z2 k14 k20) p24)
  refine aw (vb true) ?_
  refine n3 ?_
  have o265 := (OLv.ch (olv_blk o249 b255 (by decide) (by decide) k256) k261 (fun g h1 h2 hk => by have h3 := Nat.lt_of_lt_of_le p25 (z4 k53 k57 k62 k66); omega))
  refine ret_2 (.inl rfl) (va [(vi (((F_impl_withoutExpired x_p x_now).At).Host)), (vi (((F_impl_withoutExpired x_p x_now).At).Port)), (vs a246 ((F_impl_withoutExpired x_p x_now).Cands ++ [{ A := x_a, Draw := (x_draw), Until := (x_now + 6) : PCand }]).length c247)]) (vb true) rfl (rv_c [(vi (((F_impl_withoutExpired x_p x_now).At).Host)), (vi (((F_impl_withoutExpired x_p x_now).At).Port)), (vs a246 ((F_impl_withoutExpired x_p x_now).Cands ++ [{ A := x_a, Draw := (x_draw), Until := (x_now + 6) : PCand }]).length c247)] rfl b262 isAgg_28 sizeOf_28) rfl ?_
  refine ⟨m264.keep0, ?_⟩
  simp only [F_impl_Offer, h55, h59, h64, h68, h72, h124, h132, cond_true, cond_false]
  exact ⟨_, _, rfl, (OLv.now (OLv.low o265 (z7 k14 k20 k26 k53 k57 k62 k66))), (OLv.small o249), ⟨trivial, trivial⟩⟩

def F_laws_at (x_code : List UInt8) (x_i : Int) : (Int) := bif (decide (x_i < (x_code.length : Int))) then (((x_code.getD (x_i).toNat 0).toNat : Int)) else ((((x_i * 31) + ((x_code.length : Int) * 7)) % 256))
theorem C_laws_at (w0 : World) (v_x_code : Value) (x_code : List UInt8) (r_x_code : R_22 w0 v_x_code x_code) (x_i : Int) (pre0 : 0 ≤ x_i ∧ x_i ≤ 1000) : Fn Try.prog 21 #[v_x_code, (vi x_i)] w0 (fun v w' => Keep w0 w' ∧ O_3 w' w0.heap.size v (F_laws_at x_code x_i)) := by
 obtain ⟨a1, c2, rfl, r3, s4⟩ := r_x_code
 refine fn_ofS (n := 21) [(vs a1 x_code.length c2), (vi x_i)] Try.func21 rfl rfl ?_
 have hx8 : (x_code.getD x_i.toNat 0).toNat < 256 := UInt8.toNat_lt _
 refine sr ?_
 refine aw (vi 0) ?_
 refine n4 ?_
 refine mw (vi x_i) ?_
 refine mw (vs a1 x_code.length c2) ?_
 refine ln wN slTy_22 r3 ?_
 refine pu (vb (decide (x_i < (x_code.length : Int)))) wN ?_
 refine n2 ?_
 rcases bt (decide (x_i < (x_code.length : Int))) with h6 | h6
 ·have q7 := of_decide_eq_true h6
  refine ct h6 ?_
  refine sr ?_
  refine mw (vs a1 x_code.length c2) ?_
  refine mw (vi x_i) ?_
  refine ix wN x_i slTy_22 r3 ?_
  refine eb (x := x_code) ((x_i).toNat) wN isAgg_5 r3 ?_
  refine ar ((x_code.getD (x_i).toNat 0).toNat : Int) wN ?_
  refine aw (vi ((x_code.getD (x_i).toNat 0).toNat : Int)) ?_
  refine n1 ?_
  refine rt (vi ((x_code.getD (x_i).toNat 0).toNat : Int)) ?_
  refine ⟨Ch.refl _ _, ?_⟩
  simp only [F_laws_at, h6, cond_true, cond_false]
  exact rfl
 have q9 := of_decide_eq_false h6
 refine cf h6 ?_
 refine y1 ?_
 refine mw (vi x_i) ?_
 refine ar (x_i * 31) wN ?_
 refine mw (vs a1 x_code.length c2) ?_
 refine ln wN slTy_22 r3 ?_
 refine ar ((x_code.length : Int) * 7) wN ?_
 refine ar ((x_i * 31) + ((x_code.length : Int) * 7)) wN ?_
 refine wl_rem ((x_i * 31) + ((x_code.length : Int) * 7)) 256 wN rfl rfl (by kernel_rfl) (by first | omega | assumption) ?_
 refine aw (vi (((x_i * 31) + ((x_code.length : Int) * 7)) % 256)) ?_
 refine n3 ?_
 refine rt (vi (((x_i * 31) + ((x_code.length : Int) * 7)) % 256)) ?_
 refine ⟨Ch.refl _ _, ?_⟩
 simp only [F_laws_at, h6, cond_true, cond_false]
 exact rfl
theorem at_b (x : List UInt8) (i : Int) : 0 ≤ F_laws_at x i ∧ F_laws_at x i ≤ 255 := by
  have hx8 : (x.getD i.toNat 0).toNat < 256 := UInt8.toNat_lt _
  simp only [F_laws_at, cond_eq_ite]
  split <;> omega

def F_bytes_Equal (x_a : List UInt8) (x_b : List UInt8) : (Bool) := (eqS (ByteArray.mk x_a.toArray) (ByteArray.mk x_b.toArray))
theorem C_bytes_Equal (w0 : World) (v_x_a : Value) (x_a : List UInt8) (r_x_a : R_22 w0 v_x_a x_a) (v_x_b : Value) (x_b : List UInt8) (r_x_b : R_22 w0 v_x_b x_b)  : Fn Try.prog 56 #[v_x_a, v_x_b] w0 (fun v w' => Keep w0 w' ∧ O_4 w' w0.heap.size v (F_bytes_Equal x_a x_b)) := by
 obtain ⟨a1, c2, rfl, r3, s4⟩ := r_x_a
 obtain ⟨a6, c7, rfl, r8, s9⟩ := r_x_b
 refine fn_ofS (n := 10) [(vs a1 x_a.length c2), (vs a6 x_b.length c7)] Try.func56 rfl rfl ?_
 refine sr ?_
 refine aw (vb false) ?_
 refine nx ?_
 refine mw (vs a1 x_a.length c2) ?_
 refine wl_b2s x_a wN rfl rfl rfl rfl Try.underlying22 Try.underlying5 Try.underlying9 r3 ?_
 refine mw (vs a6 x_b.length c7) ?_
 refine wl_b2s x_b wN rfl rfl rfl rfl Try.underlying22 Try.underlying5 Try.underlying9 r8 ?_
 refine pu (vb (eqS (ByteArray.mk x_a.toArray) (ByteArray.mk x_b.toArray))) wN ?_
 refine aw (vb (eqS (ByteArray.mk x_a.toArray) (ByteArray.mk x_b.toArray))) ?_
 refine n3 ?_
 refine rt (vb (eqS (ByteArray.mk x_a.toArray) (ByteArray.mk x_b.toArray))) ?_
 refine ⟨Ch.refl _ _, ?_⟩
 have hF11 : F_bytes_Equal x_a x_b = (eqS (ByteArray.mk x_a.toArray) (ByteArray.mk x_b.toArray)) := by rfl
 rw [hF11]
 exact rfl

def F_impl_Answer (x_p : PPaths) (x_now : Int) (x_a : PAddr) (x_draw : List UInt8) : (PPaths) × (Bool) := bif (iPa x_p) then (bif (F_impl_within x_now 0 1000000) then (bif (decide ((candAt x_p x_a) < 0)) then (((x_p), false)) else (bif (F_bytes_Equal x_draw ((x_p.Cands.getD ((candAt x_p x_a)).toNat z_PCand).Draw)) then (bif (decide ((x_p.Cands.getD ((candAt x_p x_a)).toNat z_PCand).Until < x_now)) then (((x_p), false)) else (({ At := x_a, Cands := (((x_p).Cands).take (((candAt x_p x_a)).toNat) ++ ((x_p).Cands).drop ((((candAt x_p x_a) + 1)).toNat)) : PPaths }, true))) else (((x_p), false)))) else (((x_p), false))) else (((x_p), false))
theorem C_impl_Answer (w0 : World) (v_x_p : Value) (x_p : PPaths) (r_x_p : R_28 w0 v_x_p x_p) (x_now : Int) (v_x_a : Value) (x_a : PAddr) (r_x_a : R_25 w0 v_x_a x_a) (v_x_draw : Value) (x_draw : List UInt8) (r_x_draw : R_22 w0 v_x_draw x_draw)  : Fn Try.prog 10 #[v_x_p, (vi x_now), v_x_a, v_x_draw] w0 (fun v w' => Keep w0 w' ∧ O_28_4 w' w0.heap.size v (F_impl_Answer x_p x_now x_a x_draw)) := by
 obtain ⟨a1, c2, rfl, r3, s4⟩ := r_x_p
 obtain rfl := r_x_a
 obtain ⟨a6, c7, rfl, r8, s9⟩ := r_x_draw
 refine fn_ofS (n := 65) [(va (L_28 x_p a1 c2)), (vi x_now), (va (L_25 x_a)), (vs a6 x_draw.length c7)] Try.func10 rfl rfl ?_
 refine sr ?_
 refine bx (L_28 x_p a1 c2) wN ?_
 intro g11 w1 p12 p13 k14 b15
 refine bx (L_25 x_a) wN ?_
 intro g17 w2 p18 p19 k20 b21
 refine al [(vi 0), (vi 0), (vs none 0 0)] wN zero_28 ?_
 intro g23 w3 p24 p25 k26 b27
 have m28 := (((Ch.base w0).extk k14).extk k20).extk k26
 refine aw (vb false) ?_
 refine nx ?_
 have b29 := ((b15.kp k20).kp k26)
 refine lN (L_28 x_p a1 c2) wN isAgg_28 sizeOf_28 b29 ?_
 refine cl wN (C_impl_copyPaths w3 _ x_p (mR_28 (r3.from0 m28) s4)) ?_
 rintro _ w4 ⟨k30, ⟨a31, c32, rfl, o33, s34, ap36⟩⟩
 obtain ⟨y38, o39⟩ := OLv.ow o33
 refine al [(vi 0), (vi 0), (vs none 0 0)] wN zero_28 ?_
 intro g40 w5 p41 p42 k43 b44
 refine sv (L_28 (x_p) a31 c32) wN sizeOf_28 b44 ?_
 intro w6 k46 b47 z48
 have m49 := ((m28.extk k30).extk k43).ext k46 (fun k hk => by subst hk; exact Nat.le_trans (z4 k14 k20 k26 k30) p41)
 refine nx ?_
 have b50 := (((b29.kp k30).kp k43).ch k46 (Nat.ne_of_lt (Nat.lt_of_lt_of_le p13 (Nat.le_trans (z3 k20 k26 k30) p41))))
 refine lN (L_28 x_p a1 c2) wN isAgg_28 sizeOf_28 b50 ?_
 have b51 := ((((b21.kp k26).kp k30).kp k43).ch k46 (Nat.ne_of_lt (Nat.lt_of_lt_of_le p19 (Nat.le_trans (z2 k26 k30) p41))))
 refine lN (L_25 x_a) wN isAgg_25 sizeOf_25 b51 ?_
 refine cl wN (C_impl_candAt w6 _ x_p (mR_28 (r3.from0 m49) s4) _ x_a (mR_25)) ?_
 rintro _ w7 ⟨k52, rfl⟩
 have m53 := m49.extk k52
 have q54 := candAt_range x_p x_a
 refine aw (vi (candAt x_p x_a)) ?_
 refine n4 ?_
 refine jT1 [(6, (vp g17 0)), (8, (vp g23 0)), (9, (vb false)), (10, (vp g40 0)), (11, (vi (candAt x_p x_a)))] (F_impl_Answer x_p x_now x_a x_draw = ((x_p), false)) ?_ fun J55 => ?_
 ·intro hA56 w8 k58 u57
  refine sr ?_
  have b60 := ((b47.kp k52).kp k58)
  refine lN (L_28 (x_p) a31 c32) wN isAgg_28 sizeOf_28 b60 ?_
  have b61 := (((((b27.kp k30).kp k43).ch k46 (Nat.ne_of_lt (Nat.lt_of_lt_of_le p25 (Nat.le_trans k30.size p41)))).kp k52).kp k58)
  refine sv (L_28 (x_p) a31 c32) wN sizeOf_28 b61 ?_
  intro w9 k62 b63 z64
  have m65 := (m53.extk k58).ext k62 (fun k hk => by subst hk; exact Nat.le_trans (z2 k14 k20) p24)
  refine aw (vb false) ?_
  refine n1 ?_
  have o66 := (OLv.ch (OLv.kp (OLv.kp (OLv.ch (OLv.kp o33 k43) k46 (fun g h1 h2 hk => by have h3 := Nat.le_trans (Nat.le_refl w4.heap.size) p41; omega)) k52) k58) k62 (fun g h1 h2 hk => by have h3 := Nat.lt_of_lt_of_le p25 (Nat.le_refl w3.heap.size); omega))
  refine ret_2 (.inl rfl) (va (L_28 (x_p) a31 c32)) (vb false) rfl (rv_c (L_28 (x_p) a31 c32) rfl b63 isAgg_28 sizeOf_28) rfl ?_
  refine ⟨m65.keep0, ?_⟩
  rw [hA56]
  exact ⟨_, _, rfl, (OLv.now (OLv.low o66 (z3 k14 k20 k26))), s34, ⟨trivial, trivial⟩⟩
 have b68 := (b50.kp k52)
 refine lN (L_28 x_p a1 c2) wN isAgg_28 sizeOf_28 b68 ?_
 refine cl wN (C_impl_PathsOk w7 _ x_p (mR_28 (r3.from0 m53) s4)) ?_
 rintro _ w8 ⟨k69, rfl⟩
 refine pu (vb (!(iPa x_p))) wN ?_
 refine mw (vb (!(iPa x_p))) ?_
 rcases bf (iPa x_p) with h71 | h71
 ·iterate 3 refine sk (congrArg not h71) ?_
  refine pk (vb true) wN (congrArg not h71) ?_
  refine mw (vb true) ?_
  iterate 2 refine sk (Eq.refl true) ?_
  refine pk (vb true) wN (Eq.refl true) ?_
  refine mw (vb true) ?_
  iterate 9 refine sk (Eq.refl true) ?_
  refine pk (vb true) wN (Eq.refl true) ?_
  refine mw (vb true) ?_
  iterate 8 refine sk (Eq.refl true) ?_
  refine pk (vb true) wN (Eq.refl true) ?_
  refine n2 ?_
  refine ct (Eq.refl true) ?_
  have hF235 : F_impl_Answer x_p x_now x_a x_draw = ((x_p), false) := by simp only [F_impl_Answer, h71, cond_true, cond_false]
  exact wj (J55 hF235 _ k69)
 have q72 := iPa_t h71
 refine mv (vi x_now) (wS (congrArg not h71)) ?_
 refine cl (wS (congrArg not h71)) (C_impl_within w8 x_now 0 1000000) ?_
 rintro _ w9 ⟨k73, rfl⟩
 have m74 := (m53.extk k69).extk k73
 refine pu (vb (!(F_impl_within x_now 0 1000000))) (wS (congrArg not h71)) ?_
 refine pf (vb (!(F_impl_within x_now 0 1000000))) wN (congrArg not h71) ?_
 refine mw (vb (!(F_impl_within x_now 0 1000000))) ?_
 rcases bf (F_impl_within x_now 0 1000000) with h75 | h75
 ·have q232 := impl_within_f h75
  iterate 2 refine sk (congrArg not h75) ?_
  refine pk (vb true) wN (congrArg not h75) ?_
  refine mw (vb true) ?_
  iterate 9 refine sk (Eq.refl true) ?_
  refine pk (vb true) wN (Eq.refl true) ?_
  refine mw (vb true) ?_
  iterate 8 refine sk (Eq.refl true) ?_
  refine pk (vb true) wN (Eq.refl true) ?_
  refine n2 ?_
  refine ct (Eq.refl true) ?_
  have hF233 : F_impl_Answer x_p x_now x_a x_draw = ((x_p), false) := by simp only [F_impl_Answer, h71, h75, cond_true, cond_false]
  exact wj (J55 hF233 _ (k69.trans k73))
 have q76 := impl_within_t h75
 refine mv (vi (candAt x_p x_a)) (wS (congrArg not h75)) ?_
 refine pu (vb (decide ((candAt x_p x_a) < 0))) (wS (congrArg not h75)) ?_
 refine pf (vb (decide ((candAt x_p x_a) < 0))) wN (congrArg not h75) ?_
 refine mw (vb (decide ((candAt x_p x_a) < 0))) ?_
 rcases bt (decide ((candAt x_p x_a) < 0)) with h77 | h77
 ·have q78 := of_decide_eq_true h77
  iterate 9 refine sk h77 ?_
  refine pk (vb true) wN h77 ?_
  refine mw (vb true) ?_
  iterate 8 refine sk (Eq.refl true) ?_
  refine pk (vb true) wN (Eq.refl true) ?_
  refine n2 ?_
  refine ct (Eq.refl true) ?_
  have hF79 : F_impl_Answer x_p x_now x_a x_draw = ((x_p), false) := by simp only [F_impl_Answer, h71, h75, h77, cond_true, cond_false]
  exact wj (J55 hF79 _ (k69.trans k73))
 have q80 := of_decide_eq_false h77
 refine mv (vs a6 x_draw.length c7) (wS h77) ?_
 refine pu (vp g11 2) (wS h77) ?_
 have b81 := ((b68.kp k69).kp k73)
 refine ld (vs a1 x_p.Cands.length c2) (wS h77) isAgg_26 b81 ?_
 refine mv (vi (candAt x_p x_a)) (wS h77) ?_
 obtain ⟨y82, r83⟩ := RLv.row (r3.from0 m74)
 refine ix (wS h77) (candAt x_p x_a) slTy_26 r83 ?_
 obtain ⟨y84, l85, r86, e87, u88⟩ := RLv.el z_PCand (i := ((candAt x_p x_a)).toNat) r3 (by first | omega | (simp only [List.length_cons, List.length_nil, List.length_replicate, List.length_append, List.length_take, List.length_set, List.length_map]; omega))
 obtain ⟨a89, c90, l94, rfl, r91, s92, u95⟩ := SubR.c u88
 obtain rfl := SubR.n u95
 refine wl_fieldE (wS h77) rfl rfl rfl fieldAt_34_1 rfl (r86.from0 m74) (by omega) ?_
 refine wl_loadE (vs a89 (x_p.Cands.getD ((candAt x_p x_a)).toNat z_PCand).Draw.length c90) (wS h77) rfl rfl rfl rfl isAgg_22 (r86.from0 m74) ((get_of (off := 2) e87 (by first | rfl | simp | omega) (by decide)).trans rfl) ?_
 refine cl (wS h77) (C_bytes_Equal w9 _ x_draw (mR_22 (r8.from0 m74) s9) _ ((x_p.Cands.getD ((candAt x_p x_a)).toNat z_PCand).Draw) (mR_22 (r91.from0 m74) s92)) ?_
 rintro _ w10 ⟨k96, rfl⟩
 have m97 := m74.extk k96
 refine pu (vb (!(F_bytes_Equal x_draw ((x_p.Cands.getD ((candAt x_p x_a)).toNat z_PCand).Draw)))) (wS h77) ?_
 refine pf (vb (!(F_bytes_Equal x_draw ((x_p.Cands.getD ((candAt x_p x_a)).toNat z_PCand).Draw)))) wN h77 ?_
 refine mw (vb (!(F_bytes_Equal x_draw ((x_p.Cands.getD ((candAt x_p x_a)).toNat z_PCand).Draw)))) ?_
 rcases bf (F_bytes_Equal x_draw ((x_p.Cands.getD ((candAt x_p x_a)).toNat z_PCand).Draw)) with h98 | h98
 ·iterate 8 refine sk (congrArg not h98) ?_
  refine pk (vb true) wN (congrArg not h98) ?_
  refine n2 ?_
  refine ct (Eq.refl true) ?_
  have hF231 : F_impl_Answer x_p x_now x_a x_draw = ((x_p), false) := by simp only [F_impl_Answer, h71, h75, h77, h98, cond_true, cond_false]
  exact wj (J55 hF231 _ ((k69.trans k73).trans k96))
 refine mv (vi x_now) (wS (congrArg not h98)) ?_
 refine pu (vp g11 2) (wS (congrArg not h98)) ?_
 have b100 := (b81.kp k96)
 refine ld (vs a1 x_p.Cands.length c2) (wS (congrArg not h98)) isAgg_26 b100 ?_
 refine mv (vi (candAt x_p x_a)) (wS (congrArg not h98)) ?_
 obtain ⟨y101, r102⟩ := RLv.row (r3.from0 m97)
 refine ix (wS (congrArg not h98)) (candAt x_p x_a) slTy_26 r102 ?_
 refine wl_fieldE (wS (congrArg not h98)) rfl rfl rfl fieldAt_34_2 rfl (r86.from0 m97) (by omega) ?_
 refine wl_loadE (vi ((x_p.Cands.getD ((candAt x_p x_a)).toNat z_PCand).Until)) (wS (congrArg not h98)) rfl rfl rfl rfl isAgg_3 (r86.from0 m97) ((get_of (off := 3) e87 (by first | rfl | simp | omega) (by decide)).trans rfl) ?_
 refine pu (vb (decide ((x_p.Cands.getD ((candAt x_p x_a)).toNat z_PCand).Until < x_now))) (wS (congrArg not h98)) ?_
 refine pf (vb (decide ((x_p.Cands.getD ((candAt x_p x_a)).toNat z_PCand).Until < x_now))) wN (congrArg not h98) ?_
 refine n2 ?_
 rcases bt (decide ((x_p.Cands.getD ((candAt x_p x_a)).toNat z_PCand).Until < x_now)) with h103 | h103
 ·have q104 := of_decide_eq_true h103
  refine ct h103 ?_
  have hF105 : F_impl_Answer x_p x_now x_a x_draw = ((x_p), false) := by simp only [F_impl_Answer, h71, h75, h77, h98, h103, cond_true, cond_false]
  exact wj (J55 hF105 _ ((k69.trans k73).trans k96))
 have q106 := of_decide_eq_false h103
 refine cf h103 ?_
 refine y1 ?_
 have b107 := ((((b51.kp k52).kp k69).kp k73).kp k96)
 refine lN (L_25 x_a) wN isAgg_25 sizeOf_25 b107 ?_
 refine pu (vp g40 0) wN ?_
 have b108 := ((((b47.kp k52).kp k69).kp k73).kp k96)
 refine st (va (L_25 x_a)) (L_25 x_a) [(vi x_a.Host), (vi x_a.Port), (vs a31 ((x_p).Cands).length c32)] wN sizeOf_25 b108 ?_
 intro w11 k109 b110 z111
 have m112 := m97.ext k109 (fun k hk => by subst hk; exact Nat.le_trans (z4 k14 k20 k26 k30) p41)
 refine wl_nil <| wq_then <| wc_seq ?_
 have o146 := (OLv.ch (OLv.kp (OLv.kp (OLv.kp (OLv.kp (OLv.ch (OLv.kp o33 k43) k46 (fun g h1 h2 hk => by have h3 := Nat.le_trans (Nat.le_refl w4.heap.size) p41; omega)) k52) k69) k73) k96) k109 (fun g h1 h2 hk => by have h3 := Nat.le_trans (Nat.le_refl w4.heap.size) p41; omega))
 obtain ⟨y147, h148, h149, o150, s151, p152, h153, l154⟩ := OLv.op o146
 refine wc_drawT ([(53, [], [], (fun _ v _ => v = (vp g40 2))), (54, [], [0], (fun _ v _ => v = (vs a31 ((x_p).Cands).length c32))), (55, [], [], (fun _ v _ => v = (vi (candAt x_p x_a)))), (56, [], [0, 1, 2], (fun _ v _ => v = (vs (subA a31 c32 0 4) (((candAt x_p x_a)).toNat - 0) (c32 - 0)))), (57, [], [], (fun _ v _ => v = (vp g40 2))), (58, [], [4], (fun _ v _ => v = (vs a31 ((x_p).Cands).length c32))), (59, [], [], (fun _ v _ => v = (vi (candAt x_p x_a)))), (60, [], [6], (fun _ v _ => v = (vi ((candAt x_p x_a) + 1)))), (61, [], [4, 5, 6, 7], (fun _ v _ => v = (vs (subA a31 c32 ((((candAt x_p x_a) + 1)).toNat) 4) (((x_p).Cands).length - ((((candAt x_p x_a) + 1)).toNat)) (c32 - ((((candAt x_p x_a) + 1)).toNat)))))] : GV) (fun _ w' => Keep w11 w') [] mixed rfl (by kernel_rfl) (by kernel_rfl) ?_ (fun _ _ h => h) (fun _ _ _ _ h _ k => h.trans k) trivial ?_ ?_ ?_
 ·exact ⟨hV, hE, ⟨hV, hE, ⟨hV, hE, ⟨hV, hE, ⟨hV, hE, ⟨hV, hE, ⟨hV, hE, ⟨hV, hE, ⟨hV, hE, trivial⟩⟩⟩⟩⟩⟩⟩⟩⟩
 ·exact trivial
 ·refine ⟨?_, ⟨?_, ⟨?_, ⟨?_, ⟨?_, ⟨?_, ⟨?_, ⟨?_, ⟨?_, trivial⟩⟩⟩⟩⟩⟩⟩⟩⟩
  ·intro _ w12 k159 _
   rintro _ _ _ _ _ _ _ _ _
   show WL _ _ _ _ _ _ _
   refine pu (vp g40 2) wN ?_
   exact f1
  ·intro _ w12 k161 _
   rintro _ rfl _ _ _ _ _ _ _ _
   show WL _ _ _ _ _ _ _
   have b163 := (b110.kp k161)
   refine ld (vs a31 ((x_p).Cands).length c32) wN isAgg_26 b163 ?_
   exact f1
  ·intro _ w12 k164 _
   rintro _ _ _ _ _ _ _ _ _
   show WL _ _ _ _ _ _ _
   refine mw (vi (candAt x_p x_a)) ?_
   exact f1
  ·intro _ w12 k166 _
   rintro _ rfl _ rfl _ rfl _ _ _ _ _ _
   show WL _ _ _ _ _ _ _
   have o170 := (own_kp o150 k166)
   refine slvR 0 (((candAt x_p x_a)).toNat) wN slTy_26 (Rd.of_own o170) (by first | omega | (simp only [List.length_cons, List.length_nil, List.length_replicate, List.length_append, List.length_take, List.length_set, List.length_map]; omega)) (by first | omega | (simp only [List.length_cons, List.length_nil, List.length_replicate, List.length_append, List.length_take, List.length_set, List.length_map]; omega)) rfl rfl rfl rfl (.inl ⟨rfl, rfl⟩) (.inr ⟨_, _, _, rfl, rfl, by omega⟩) ?_
   exact f1
  ·intro _ w12 k172 _
   rintro _ _ _ _ _ _ _ _ _
   show WL _ _ _ _ _ _ _
   refine pu (vp g40 2) wN ?_
   exact f1
  ·intro _ w12 k174 _
   rintro _ _ _ _ _ rfl _ _ _ _
   show WL _ _ _ _ _ _ _
   have b176 := (b110.kp k174)
   refine ld (vs a31 ((x_p).Cands).length c32) wN isAgg_26 b176 ?_
   exact f1
  ·intro _ w12 k177 _
   rintro _ _ _ _ _ _ _ _ _
   show WL _ _ _ _ _ _ _
   refine mw (vi (candAt x_p x_a)) ?_
   exact f1
  ·intro _ w12 k179 _
   rintro _ _ _ _ _ _ _ rfl _ _
   show WL _ _ _ _ _ _ _
   refine ar ((candAt x_p x_a) + 1) wN ?_
   exact f1
  ·intro _ w12 k181 _
   rintro _ _ _ _ _ rfl _ rfl _ rfl _ rfl _
   show WL _ _ _ _ _ _ _
   have o185 := (own_kp o150 k181)
   refine slvR ((((candAt x_p x_a) + 1)).toNat) (((x_p).Cands).length) wN slTy_26 (Rd.of_own o185) (by first | omega | (simp only [List.length_cons, List.length_nil, List.length_replicate, List.length_append, List.length_take, List.length_set, List.length_map]; omega)) (by first | omega | (simp only [List.length_cons, List.length_nil, List.length_replicate, List.length_append, List.length_take, List.length_set, List.length_map]; omega)) rfl rfl rfl rfl (.inr ⟨_, _, _, rfl, rfl, by omega⟩) (.inl ⟨rfl, rfl⟩) ?_
   exact f1
 ·intro _ w12 k187
  rintro _ rfl _ rfl _ rfl _ rfl
  rintro _ rfl _ rfl _ rfl _ rfl _ rfl
  show WL _ _ _ _ _ _ _
  have o197 := (own_kp o150 k187)
  have s198 := (SubA.kp s151 k187)
  have o199 : w12.ownsRow w3.heap.size 34 4 (.slice (subA a31 c32 0 4) (((candAt x_p x_a)).toNat - 0) (c32 - 0)) ((candAt x_p x_a)).toNat ((y147.take ((candAt x_p x_a)).toNat).flatMap LT_34.enc) := by rw [subA0, Nat.sub_zero, Nat.sub_zero, ← rows_take LT_34.len]; exact own_take o197 (by omega)
  have r200 : Rd w12 4 (.slice (subA a31 c32 (((candAt x_p x_a) + 1)).toNat 4) (((x_p).Cands).length - (((candAt x_p x_a) + 1)).toNat) (c32 - (((candAt x_p x_a) + 1)).toNat)) (((x_p).Cands).length - (((candAt x_p x_a) + 1)).toNat) ((y147.drop (((candAt x_p x_a) + 1)).toNat).flatMap LT_34.enc) := by have hq9 := Rd.sub (lo := (((candAt x_p x_a) + 1)).toNat) (hi := ((x_p).Cands).length) (Rd.of_own o197) (by omega) (Nat.le_refl _); rw [rows_drop LT_34.len, List.take_of_length_le (by rw [rows_len LT_34.len, List.length_drop]; exact Nat.mul_le_mul_right _ (by omega))] at hq9; exact hq9
  refine wl_append wN rfl rfl rfl slTy_26 rfl rfl o199 r200 (rows_one (fun u => u.oneCell' = true) LT_34.one) (by omega) (by simp only [maxLen]; omega) (z9 k30 k43 k46 k52 k69 k73 k96 k109 k187) ?_
  intro u201 w13 k202 o203 j204
  have h208 : ((y147.take (((candAt x_p x_a)).toNat) ++ y147.drop ((((candAt x_p x_a) + 1)).toNat))).length = ((candAt x_p x_a)).toNat + (((x_p).Cands).length - (((candAt x_p x_a) + 1)).toNat) := by simp only [List.length_append, List.length_take, List.length_drop]; omega
  have o207 : w13.ownsRow w3.heap.size 34 4 u201 ((y147.take (((candAt x_p x_a)).toNat) ++ y147.drop ((((candAt x_p x_a) + 1)).toNat))).length (((y147.take (((candAt x_p x_a)).toNat) ++ y147.drop ((((candAt x_p x_a) + 1)).toNat))).flatMap LT_34.enc) := by rw [h208, List.flatMap_append]; exact o203
  obtain ⟨a205, c206, rfl⟩ := own_form o207
  have k209 : Ch (fun k => (Value.slice (subA a31 c32 0 4) (((candAt x_p x_a)).toNat - 0) (c32 - 0)).ownBlock = some k) w12 w13 := k202
  rw [subA0] at k209 o199
  rw [ownB a31 (((candAt x_p x_a)).toNat - 0) (c32 - 0) (((x_p).Cands).length) c32] at k209
  have m210 := (m112.extk k187).ext k209 (fun k hk => Nat.le_trans (z3 k14 k20 k26) (own_lt o39 k hk).1)
  have s211 := SubA.row s198 o197 k209
  have s213 : ((y147.take (((candAt x_p x_a)).toNat) ++ y147.drop ((((candAt x_p x_a) + 1)).toNat))).length ≤ 1073741824 := by omega
  refine pu (vp g40 2) wN ?_
  have b214 := ((b110.kp k187).ch k209 (fun h => by have := (own_lt o39 _ h).2; have := Nat.le_trans (Nat.le_refl w4.heap.size) p41; omega))
  refine st (vs a205 ((y147.take (((candAt x_p x_a)).toNat) ++ y147.drop ((((candAt x_p x_a) + 1)).toNat))).length c206) [(vs a205 ((y147.take (((candAt x_p x_a)).toNat) ++ y147.drop ((((candAt x_p x_a) + 1)).toNat))).length c206)] [(vi x_a.Host), (vi x_a.Port), (vs a205 ((y147.take (((candAt x_p x_a)).toNat) ++ y147.drop ((((candAt x_p x_a) + 1)).toNat))).length c206)] wN sizeOf_26 b214 ?_
  intro w14 k215 b216 z217
  have m218 := m210.ext k215 (fun k hk => by subst hk; exact Nat.le_trans (z4 k14 k20 k26 k30) p41)
  refine nx ?_
  refine lN [(vi x_a.Host), (vi x_a.Port), (vs a205 ((y147.take (((candAt x_p x_a)).toNat) ++ y147.drop ((((candAt x_p x_a) + 1)).toNat))).length c206)] wN isAgg_28 sizeOf_28 b216 ?_
  have zz22 := Nat.lt_of_lt_of_le p25 (Nat.le_trans k30.size p41)
  have b219 := (((((((((((b27.kp k30).kp k43).ch k46 (Nat.ne_of_lt zz22)).kp k52).kp k69).kp k73).kp k96).ch k109 (Nat.ne_of_lt zz22)).kp k187).ch k209 (fun h => by have := (own_lt o39 _ h).1; have := Nat.lt_of_lt_of_le p25 (Nat.le_refl w3.heap.size); omega)).ch k215 (Nat.ne_of_lt zz22))
  refine sv [(vi x_a.Host), (vi x_a.Port), (vs a205 ((y147.take (((candAt x_p x_a)).toNat) ++ y147.drop ((((candAt x_p x_a) + 1)).toNat))).length c206)] wN sizeOf_28 b219 ?_
  intro w15 k220 b221 z222
  have m223 := m218.ext k220 (fun k hk => by subst hk; exact Nat.le_trans (z2 k14 k20) p24)
  refine aw (vb true) ?_
  refine n3 ?_
  have o224 := (own_ch (own_blk o207 b214 (by decide) k215) k220 (ne1 o207 (p25)))
  refine ret_2 (.inl rfl) (va [(vi x_a.Host), (vi x_a.Port), (vs a205 ((y147.take (((candAt x_p x_a)).toNat) ++ y147.drop ((((candAt x_p x_a) + 1)).toNat))).length c206)]) (vb true) rfl (rv_c [(vi x_a.Host), (vi x_a.Port), (vs a205 ((y147.take (((candAt x_p x_a)).toNat) ++ y147.drop ((((candAt x_p x_a) + 1)).toNat))).length c206)] rfl b221 isAgg_28 sizeOf_28) rfl ?_
  refine ⟨m223.keep0, ?_⟩
  simp only [F_impl_Answer, h71, h75, h77, h98, h103, cond_true, cond_false]
  have s226 := (SubA.ch (SubA.ch s211 h153 k215 (fun g h1 h2 hk => by have h3 := Nat.le_trans (Nat.le_refl w4.heap.size) p41; omega)) h153 k220 (fun g h1 h2 hk => by have h3 := Nat.lt_of_lt_of_le p25 (Nat.le_refl w3.heap.size); omega))
  have h228 : ((y147.take (((candAt x_p x_a)).toNat) ++ y147.drop ((((candAt x_p x_a) + 1)).toNat))).map Prod.fst = (((x_p).Cands).take (((candAt x_p x_a)).toNat) ++ ((x_p).Cands).drop ((((candAt x_p x_a) + 1)).toNat)) := (by rw [List.map_append, List.map_take, List.map_drop, h148])
  have o227 := OLv.subl o224 rfl s226 (by rw [show (((candAt x_p x_a) + 1)).toNat = ((candAt x_p x_a)).toNat + 1 by omega]; exact sub_cut _ _) p152 s213
  rw [h228] at o227
  have hN229 : ((y147.take (((candAt x_p x_a)).toNat) ++ y147.drop ((((candAt x_p x_a) + 1)).toNat))).length = ((((x_p).Cands).take (((candAt x_p x_a)).toNat) ++ ((x_p).Cands).drop ((((candAt x_p x_a) + 1)).toNat))).length := by rw [← h228, List.length_map]
  rw [hN229] at o227 ⊢
  exact ⟨_, _, rfl, (OLv.now (OLv.low o227 (z3 k14 k20 k26))), (by rw [← hN229]; exact s213), ⟨trivial, trivial⟩⟩

theorem sizeOf_5 : ∀ w, (sizeOf 5).run Try.prog w = .ok 1 w := fun w => by kernel_rfl
def F_laws_bent (x_code : List UInt8) (x_b : List UInt8) : (List UInt8) := bif (decide (0 < (x_b.length : Int))) then ((x_b.set ((((((F_laws_at x_code 2) * 256) + (F_laws_at x_code 3)) % (x_b.length : Int))).toNat) ((x_b.getD (((((F_laws_at x_code 2) * 256) + (F_laws_at x_code 3)) % (x_b.length : Int))).toNat 0) ^^^ (by8 (1 + ((F_laws_at x_code 4) % 255)))))) else (x_b)
theorem C_laws_bent (w0 : World) (v_x_code : Value) (x_code : List UInt8) (r_x_code : R_22 w0 v_x_code x_code) (v_x_b : Value) (x_b : List UInt8) (r_x_b : R_22 w0 v_x_b x_b)  : Fn Try.prog 22 #[v_x_code, v_x_b] w0 (fun v w' => Keep w0 w' ∧ O_22 w' w0.heap.size v (F_laws_bent x_code x_b)) := by
 obtain ⟨a1, c2, rfl, r3, s4⟩ := r_x_code
 obtain ⟨a6, c7, rfl, r8, s9⟩ := r_x_b
 refine fn_ofS (n := 36) [(vs a1 x_code.length c2), (vs a6 x_b.length c7)] Try.func22 rfl rfl ?_
 refine sr ?_
 refine aw (vs none 0 0) ?_
 refine nx ?_
 refine wl_lit0 wN rfl rfl slTy_22 (fun w => by kernel_rfl) ?_
 intro a11 w1 k12 o13
 have m14 := (Ch.base w0).extk k12
 refine mw (vs a6 x_b.length c7) ?_
 refine ap0 x_b wN slTy_22 o13 (r8.from0 m14) k12.size ?_
 intro a16 c17 w2 k18 o19 n20
 have m21 := m14.extk k18
 refine aw (vs a16 x_b.length c17) ?_
 refine n4 ?_
 refine mw (vs a16 x_b.length c17) ?_
 refine ln wN slTy_22 (Rd.of_own o19) ?_
 refine pu (vb (decide (0 < (x_b.length : Int)))) wN ?_
 refine n2 ?_
 rcases bf (decide (0 < (x_b.length : Int))) with h23 | h23
 ·have q88 := of_decide_eq_false h23
  refine cf h23 ?_
  refine y1 ?_
  refine mw (vs a16 x_b.length c17) ?_
  refine aw (vs a16 x_b.length c17) ?_
  refine n3 ?_
  refine rt (vs a16 x_b.length c17) ?_
  refine ⟨m21.keep0, ?_⟩
  simp only [F_laws_bent, h23, cond_true, cond_false]
  exact ⟨_, _, rfl, o19, s9, ⟨trivial, trivial⟩⟩
 have q24 := of_decide_eq_true h23
 refine ct h23 ?_
 refine sr ?_
 refine mw (vs a1 x_code.length c2) ?_
 refine cl wN (C_laws_at w2 _ x_code (mR_22 (r3.from0 m21) s4) 2 (by omega)) ?_
 rintro _ w3 ⟨k25, rfl⟩
 have m26 := m21.extk k25
 have q27 := at_b x_code 2
 refine ar ((F_laws_at x_code 2) * 256) wN ?_
 refine mw (vs a1 x_code.length c2) ?_
 refine cl wN (C_laws_at w3 _ x_code (mR_22 (r3.from0 m26) s4) 3 (by omega)) ?_
 rintro _ w4 ⟨k28, rfl⟩
 have m29 := m26.extk k28
 have q30 := at_b x_code 3
 refine ar (((F_laws_at x_code 2) * 256) + (F_laws_at x_code 3)) wN ?_
 refine mw (vs a16 x_b.length c17) ?_
 have o31 := (own_kp (own_kp o19 k25) k28)
 refine ln wN slTy_22 (Rd.of_own o31) ?_
 refine wl_remv (((F_laws_at x_code 2) * 256) + (F_laws_at x_code 3)) (x_b.length : Int) wN rfl rfl rfl rfl rfl (by omega) (by omega) ?_
 have q32 := rem_b (a := (((F_laws_at x_code 2) * 256) + (F_laws_at x_code 3))) (m := (x_b.length : Int)) (by omega)
 refine aw (vi ((((F_laws_at x_code 2) * 256) + (F_laws_at x_code 3)) % (x_b.length : Int))) ?_
 refine n2 ?_
 refine wc_draw ([(22, [], [], (fun _ v _ => v = (vs a16 x_b.length c17))), (23, [], [], (fun _ v _ => v = (vi ((((F_laws_at x_code 2) * 256) + (F_laws_at x_code 3)) % (x_b.length : Int))))), (24, [], [], (fun _ v _ => v = (vs a16 x_b.length c17))), (25, [], [], (fun _ v _ => v = (vi ((((F_laws_at x_code 2) * 256) + (F_laws_at x_code 3)) % (x_b.length : Int))))), (26, [], [2, 3], (fun _ v _ => v = (ve (vs a16 x_b.length c17) ((((((F_laws_at x_code 2) * 256) + (F_laws_at x_code 3)) % (x_b.length : Int))).toNat * 1)))), (27, [], [2, 3, 4], (fun _ v _ => v = (v8 ((x_b.getD (((((F_laws_at x_code 2) * 256) + (F_laws_at x_code 3)) % (x_b.length : Int))).toNat 0).toNat : Int)))), (28, [], [], (fun _ v _ => v = (vs a1 x_code.length c2))), (29, [], [6], (fun _ v w => v = .int .i64 (F_laws_at x_code 4))), (30, [], [6, 7], (fun _ v _ => v = (vi ((F_laws_at x_code 4) % 255)))), (31, [], [6, 7, 8], (fun _ v _ => v = (vi (1 + ((F_laws_at x_code 4) % 255))))), (32, [], [6, 7, 8, 9], (fun _ v _ => v = (v8 ((by8 (1 + ((F_laws_at x_code 4) % 255))).toNat : Int)))), (33, [], [2, 3, 4, 5, 6, 7, 8, 9, 10], (fun _ v _ => v = (v8 (((x_b.getD (((((F_laws_at x_code 2) * 256) + (F_laws_at x_code 3)) % (x_b.length : Int))).toNat 0) ^^^ (by8 (1 + ((F_laws_at x_code 4) % 255)))).toNat : Int))))] : GV) mixed rfl (by kernel_rfl) (by kernel_rfl) ?_ ?_ ?_
 ·exact ⟨hV, hE, ⟨hV, hE, ⟨hV, hE, ⟨hV, hE, ⟨hV, hE, ⟨hV, hE, ⟨hV, hE, ⟨hV, hE, ⟨hV, hE, ⟨hV, hE, ⟨hV, hE, ⟨hV, hE, trivial⟩⟩⟩⟩⟩⟩⟩⟩⟩⟩⟩⟩
 ·refine ⟨?_, ⟨?_, ⟨?_, ⟨?_, ⟨?_, ⟨?_, ⟨?_, ⟨?_, ⟨?_, ⟨?_, ⟨?_, ⟨?_, trivial⟩⟩⟩⟩⟩⟩⟩⟩⟩⟩⟩⟩
  ·intro w5 k40
   rintro _ _ _ _ _ _ _ _ _ _ _ _
   show WL _ _ _ _ _ _ _
   refine mw (vs a16 x_b.length c17) ?_
   exact f2
  ·intro w5 k42
   rintro _ _ _ _ _ _ _ _ _ _ _ _
   show WL _ _ _ _ _ _ _
   refine mw (vi ((((F_laws_at x_code 2) * 256) + (F_laws_at x_code 3)) % (x_b.length : Int))) ?_
   exact f2
  ·intro w5 k44
   rintro _ _ _ _ _ _ _ _ _ _ _ _
   show WL _ _ _ _ _ _ _
   refine mw (vs a16 x_b.length c17) ?_
   exact f2
  ·intro w5 k46
   rintro _ _ _ _ _ _ _ _ _ _ _ _
   show WL _ _ _ _ _ _ _
   refine mw (vi ((((F_laws_at x_code 2) * 256) + (F_laws_at x_code 3)) % (x_b.length : Int))) ?_
   exact f2
  ·intro w5 k48
   rintro _ _ _ rfl _ rfl _ _ _ _ _ _ _ _
   show WL _ _ _ _ _ _ _
   have o50 := (own_kp o31 k48)
   refine ix wN ((((F_laws_at x_code 2) * 256) + (F_laws_at x_code 3)) % (x_b.length : Int)) slTy_22 (Rd.of_own o50) ?_
   exact f2
  ·intro w5 k51
   rintro _ _ _ rfl _ rfl _ rfl _ _ _ _ _ _ _
   show WL _ _ _ _ _ _ _
   have o54 := (own_kp o31 k51)
   refine eb (x := x_b) ((((((F_laws_at x_code 2) * 256) + (F_laws_at x_code 3)) % (x_b.length : Int))).toNat) wN isAgg_5 (Rd.of_own o54) ?_
   exact f2
  ·intro w5 k55
   rintro _ _ _ _ _ _ _ _ _ _ _ _
   show WL _ _ _ _ _ _ _
   refine mw (vs a1 x_code.length c2) ?_
   exact f2
  ·intro w5 k57
   have m58 := m29.extk k57
   rintro _ _ _ _ _ _ _ rfl _ _ _ _ _
   show WL _ _ _ _ _ _ _
   refine cl wN (C_laws_at w5 _ x_code (mR_22 (r3.from0 m58) s4) 4 (by omega)) ?_
   rintro _ w6 ⟨k59, rfl⟩
   have q61 := at_b x_code 4
   exact wl_fin k59 rfl
  ·intro w5 k62
   rintro _ _ _ _ _ _ _ rfl _ rfl
   have q64 := at_b x_code 4
   rintro _ _ _ _
   show WL _ _ _ _ _ _ _
   refine wl_rem (F_laws_at x_code 4) 255 wN rfl rfl (by kernel_rfl) (by first | omega | assumption) ?_
   exact f2
  ·intro w5 k65
   rintro _ _ _ _ _ _ _ rfl _ rfl
   have q67 := at_b x_code 4
   rintro _ rfl _ _ _
   show WL _ _ _ _ _ _ _
   refine ar (1 + ((F_laws_at x_code 4) % 255)) wN ?_
   exact f2
  ·intro w5 k68
   rintro _ _ _ _ _ _ _ rfl _ rfl
   have q70 := at_b x_code 4
   rintro _ rfl _ rfl _ _
   show WL _ _ _ _ _ _ _
   refine wl_conv8 (1 + ((F_laws_at x_code 4) % 255)) wN rfl rfl (by kernel_rfl) ?_
   exact f2
  ·intro w5 k71
   rintro _ _ _ rfl _ rfl _ rfl _ rfl _ rfl _ rfl
   have q75 := at_b x_code 4
   rintro _ rfl _ rfl _ rfl _
   show WL _ _ _ _ _ _ _
   refine wl_xor8 (x_b.getD (((((F_laws_at x_code 2) * 256) + (F_laws_at x_code 3)) % (x_b.length : Int))).toNat 0) (by8 (1 + ((F_laws_at x_code 4) % 255))) wN rfl rfl (by kernel_rfl) ?_
   exact f2
 ·intro w5 k76
  rintro _ rfl _ rfl _ rfl _ rfl _ rfl _ rfl _ rfl _ rfl
  have q80 := at_b x_code 4
  rintro _ rfl _ rfl _ rfl _ rfl
  show WL _ _ _ _ _ _ _
  have o81 := (own_kp o31 k76)
  refine ix wN ((((F_laws_at x_code 2) * 256) + (F_laws_at x_code 3)) % (x_b.length : Int)) slTy_22 (Rd.of_own o81) ?_
  refine wl_storeB x_b ((((((F_laws_at x_code 2) * 256) + (F_laws_at x_code 3)) % (x_b.length : Int))).toNat) (((x_b.getD (((((F_laws_at x_code 2) * 256) + (F_laws_at x_code 3)) % (x_b.length : Int))).toNat 0) ^^^ (by8 (1 + ((F_laws_at x_code 4) % 255))))) wN rfl rfl rfl (by simp) rfl sizeOf_5 o81 (by first | omega | (simp only [List.length_append, List.length_replicate, List.length_take, List.length_set, List.length_map]; omega)) ?_
  intro w6 k82 o83
  have m84 := (m29.extk k76).ext k82 (fun k hk => Nat.le_trans (Nat.le_refl w0.heap.size) (own_lt o19 k hk).1)
  refine nx ?_
  refine mw (vs a16 x_b.length c17) ?_
  refine aw (vs a16 x_b.length c17) ?_
  refine n3 ?_
  refine rt (vs a16 x_b.length c17) ?_
  refine ⟨m84.keep0, ?_⟩
  simp only [F_laws_bent, h23, cond_true, cond_false]
  have hN86 : x_b.length = ((x_b.set ((((((F_laws_at x_code 2) * 256) + (F_laws_at x_code 3)) % (x_b.length : Int))).toNat) ((x_b.getD (((((F_laws_at x_code 2) * 256) + (F_laws_at x_code 3)) % (x_b.length : Int))).toNat 0) ^^^ (by8 (1 + ((F_laws_at x_code 4) % 255)))))).length := by first | (simp only [List.length_append, List.length_take, List.length_replicate, List.length_set, List.length_map]; done) | (simp only [List.length_append, List.length_take, List.length_replicate, List.length_set, List.length_map]; omega)
  generalize (x_b.set ((((((F_laws_at x_code 2) * 256) + (F_laws_at x_code 3)) % (x_b.length : Int))).toNat) ((x_b.getD (((((F_laws_at x_code 2) * 256) + (F_laws_at x_code 3)) % (x_b.length : Int))).toNat 0) ^^^ (by8 (1 + ((F_laws_at x_code 4) % 255))))) = y87 at hN86 o83 ⊢
  rw [hN86] at o83 ⊢
  exact ⟨_, _, rfl, o83, (by rw [← hN86]; exact s9), ⟨trivial, trivial⟩⟩

def O_34_4 (w : World) (lo : Nat) (v : Value) (x : (PCand) × (Bool)) : Prop := ∃ (a1 : Option Addr) (c1 : Nat), v = .tuple #[.agg #[.int .i64 x.1.A.Host, .int .i64 x.1.A.Port, .slice a1 x.1.Draw.length c1, .int .i64 x.1.Until], .bool x.2] ∧ w.ownsRow lo 5 1 (.slice a1 x.1.Draw.length c1) x.1.Draw.length (x.1.Draw.map bV) ∧ x.1.Draw.length ≤ 1073741824 ∧ Aps [(a1, c1)]
def F_impl_CandOf (x_p : PPaths) (x_a : PAddr) : (PCand) × (Bool) := bif (iPa x_p) then (bif (decide ((candAt x_p x_a) < 0)) then (({ A := { Host := 0, Port := 0 : PAddr }, Draw := [], Until := 0 : PCand }, false)) else (((((x_p).Cands).getD ((candAt x_p x_a)).toNat z_PCand), true))) else (({ A := { Host := 0, Port := 0 : PAddr }, Draw := [], Until := 0 : PCand }, false))
theorem C_impl_CandOf (w0 : World) (v_x_p : Value) (x_p : PPaths) (r_x_p : R_28 w0 v_x_p x_p) (v_x_a : Value) (x_a : PAddr) (r_x_a : R_25 w0 v_x_a x_a)  : Fn Try.prog 11 #[v_x_p, v_x_a] w0 (fun v w' => Keep w0 w' ∧ O_34_4 w' w0.heap.size v (F_impl_CandOf x_p x_a)) := by
 obtain ⟨a1, c2, rfl, r3, s4⟩ := r_x_p
 obtain rfl := r_x_a
 refine fn_ofS (n := 24) [(va (L_28 x_p a1 c2)), (va (L_25 x_a))] Try.func11 rfl rfl ?_
 refine sr ?_
 refine bx (L_28 x_p a1 c2) wN ?_
 intro g6 w1 p7 p8 k9 b10
 refine bx (L_25 x_a) wN ?_
 intro g12 w2 p13 p14 k15 b16
 refine al Z_34 wN zero_34 ?_
 intro g18 w3 p19 p20 k21 b22
 have m23 := (((Ch.base w0).extk k9).extk k15).extk k21
 refine aw (vb false) ?_
 refine nx ?_
 have b24 := ((b10.kp k15).kp k21)
 refine lN (L_28 x_p a1 c2) wN isAgg_28 sizeOf_28 b24 ?_
 have b25 := (b16.kp k21)
 refine lN (L_25 x_a) wN isAgg_25 sizeOf_25 b25 ?_
 refine cl wN (C_impl_candAt w3 _ x_p (mR_28 (r3.from0 m23) s4) _ x_a (mR_25)) ?_
 rintro _ w4 ⟨k26, rfl⟩
 have m27 := m23.extk k26
 have q28 := candAt_range x_p x_a
 refine aw (vi (candAt x_p x_a)) ?_
 refine n4 ?_
 refine jT1 [(2, (vp g6 0)), (4, (vp g18 0)), (5, (vb false)), (6, (vi (candAt x_p x_a)))] (F_impl_CandOf x_p x_a = ({ A := { Host := 0, Port := 0 : PAddr }, Draw := [], Until := 0 : PCand }, false)) ?_ fun J29 => ?_
 ·intro hA30 w5 k32 u31
  refine sr ?_
  refine pu (va Z_34) wN ?_
  have b34 := ((b22.kp k26).kp k32)
  refine sv Z_34 wN sizeOf_34 b34 ?_
  intro w6 k35 b36 z37
  have m38 := (m27.extk k32).ext k35 (fun k hk => by subst hk; exact Nat.le_trans (z2 k9 k15) p19)
  refine aw (vb false) ?_
  refine n1 ?_
  refine ret_2 (.inl rfl) (va Z_34) (vb false) rfl (rv_c Z_34 rfl b36 isAgg_34 sizeOf_34) rfl ?_
  refine ⟨m38.keep0, ?_⟩
  rw [hA30]
  exact ⟨_, _, rfl, (by first | exact own_nil _ _ _ _ | exact OLv.nil _ _ _ _), (by simp), ⟨trivial, trivial⟩⟩
 have b40 := (b24.kp k26)
 refine lN (L_28 x_p a1 c2) wN isAgg_28 sizeOf_28 b40 ?_
 refine cl wN (C_impl_PathsOk w4 _ x_p (mR_28 (r3.from0 m27) s4)) ?_
 rintro _ w5 ⟨k41, rfl⟩
 have m42 := m27.extk k41
 refine pu (vb (!(iPa x_p))) wN ?_
 refine mw (vb (!(iPa x_p))) ?_
 rcases bf (iPa x_p) with h43 | h43
 ·iterate 2 refine sk (congrArg not h43) ?_
  refine pk (vb true) wN (congrArg not h43) ?_
  refine n2 ?_
  refine ct (Eq.refl true) ?_
  have hF83 : F_impl_CandOf x_p x_a = ({ A := { Host := 0, Port := 0 : PAddr }, Draw := [], Until := 0 : PCand }, false) := by simp only [F_impl_CandOf, h43, cond_true, cond_false]
  exact wj (J29 hF83 _ k41)
 have q44 := iPa_t h43
 refine mv (vi (candAt x_p x_a)) (wS (congrArg not h43)) ?_
 refine pu (vb (decide ((candAt x_p x_a) < 0))) (wS (congrArg not h43)) ?_
 refine pf (vb (decide ((candAt x_p x_a) < 0))) wN (congrArg not h43) ?_
 refine n2 ?_
 rcases bt (decide ((candAt x_p x_a) < 0)) with h45 | h45
 ·have q46 := of_decide_eq_true h45
  refine ct h45 ?_
  have hF47 : F_impl_CandOf x_p x_a = ({ A := { Host := 0, Port := 0 : PAddr }, Draw := [], Until := 0 : PCand }, false) := by simp only [F_impl_CandOf, h43, h45, cond_true, cond_false]
  exact wj (J29 hF47 _ k41)
 have q48 := of_decide_eq_false h45
 refine cf h45 ?_
 refine y1 ?_
 have b49 := (b40.kp k41)
 refine lN (L_28 x_p a1 c2) wN isAgg_28 sizeOf_28 b49 ?_
 refine cl wN (C_impl_copyPaths w5 _ x_p (mR_28 (r3.from0 m42) s4)) ?_
 rintro _ w6 ⟨k50, ⟨a51, c52, rfl, o53, s54, ap56⟩⟩
 obtain ⟨y58, o59⟩ := OLv.ow o53
 refine pu (vs a51 ((x_p).Cands).length c52) wN ?_
 refine mw (vi (candAt x_p x_a)) ?_
 obtain ⟨y60, r61⟩ := RLv.row (OLv.rl o53)
 refine ix wN (candAt x_p x_a) slTy_26 r61 ?_
 obtain ⟨y62, l63, r64, e65, u66⟩ := OLv.el z_PCand (i := ((candAt x_p x_a)).toNat) o53 (by first | omega | (simp only [List.length_cons, List.length_nil, List.length_replicate, List.length_append, List.length_take, List.length_set, List.length_map]; omega))
 obtain ⟨a67, c68, l72, rfl, r69, s70, u73⟩ := SubO.c u66
 obtain rfl := SubO.n u73
 refine wl_loadEN [(vi (((((x_p).Cands).getD ((candAt x_p x_a)).toNat z_PCand).A).Host)), (vi (((((x_p).Cands).getD ((candAt x_p x_a)).toNat z_PCand).A).Port)), (vs a67 (((x_p).Cands).getD ((candAt x_p x_a)).toNat z_PCand).Draw.length c68), (vi ((((x_p).Cands).getD ((candAt x_p x_a)).toNat z_PCand).Until))] wN rfl rfl rfl rfl isAgg_34 sizeOf_34 r64 (by first | omega | (simp only [List.length_cons, List.length_nil, List.length_replicate, List.length_append, List.length_take, List.length_set, List.length_map]; omega)) ((part_of (off := 0) (n := 4) e65 (by first | rfl | simp | omega) (by decide)).trans rfl) ?_
 have b74 := (((b22.kp k26).kp k41).kp k50)
 refine sv [(vi (((((x_p).Cands).getD ((candAt x_p x_a)).toNat z_PCand).A).Host)), (vi (((((x_p).Cands).getD ((candAt x_p x_a)).toNat z_PCand).A).Port)), (vs a67 (((x_p).Cands).getD ((candAt x_p x_a)).toNat z_PCand).Draw.length c68), (vi ((((x_p).Cands).getD ((candAt x_p x_a)).toNat z_PCand).Until))] wN sizeOf_34 b74 ?_
 intro w7 k75 b76 z77
 have m78 := (m42.extk k50).ext k75 (fun k hk => by subst hk; exact Nat.le_trans (z2 k9 k15) p19)
 refine aw (vb true) ?_
 refine n3 ?_
 have o79 := (own_ch r69 k75 (ne1 r69 (Nat.lt_of_lt_of_le p20 (z2 k26 k41))))
 refine ret_2 (.inl rfl) (va [(vi (((((x_p).Cands).getD ((candAt x_p x_a)).toNat z_PCand).A).Host)), (vi (((((x_p).Cands).getD ((candAt x_p x_a)).toNat z_PCand).A).Port)), (vs a67 (((x_p).Cands).getD ((candAt x_p x_a)).toNat z_PCand).Draw.length c68), (vi ((((x_p).Cands).getD ((candAt x_p x_a)).toNat z_PCand).Until))]) (vb true) rfl (rv_c [(vi (((((x_p).Cands).getD ((candAt x_p x_a)).toNat z_PCand).A).Host)), (vi (((((x_p).Cands).getD ((candAt x_p x_a)).toNat z_PCand).A).Port)), (vs a67 (((x_p).Cands).getD ((candAt x_p x_a)).toNat z_PCand).Draw.length c68), (vi ((((x_p).Cands).getD ((candAt x_p x_a)).toNat z_PCand).Until))] rfl b76 isAgg_34 sizeOf_34) rfl ?_
 refine ⟨m78.keep0, ?_⟩
 simp only [F_impl_CandOf, h43, h45, cond_true, cond_false]
 have hN81 : (((x_p).Cands).getD ((candAt x_p x_a)).toNat z_PCand).Draw.length = ((((x_p).Cands).getD ((candAt x_p x_a)).toNat z_PCand).Draw).length := by first | (simp only [List.length_append, List.length_take, List.length_replicate, List.length_set, List.length_map]; done) | (simp only [List.length_append, List.length_take, List.length_replicate, List.length_set, List.length_map]; omega)
 rw [hN81] at o79 ⊢
 exact ⟨_, _, rfl, (own_lo o79 (z5 k9 k15 k21 k26 k41)), (by rw [← hN81]; exact s70), ⟨trivial, trivial⟩⟩
end Go.Proofs.Ytdbjmgkiccfhcaa.K
