import Derived.Test.YtdbjmgkiccfhcaaCore
import Derived.Test.YtdbjmgkiccfhcaaProg
import Derived.Test.YtdbjmgkiccfhcaaHeld
import Derived.Test.YtdbjmgkiccfhcaaFun
import Derived.Test.YtdbjmgkiccfhcaaFunZ
import Derived.Test.YtdbjmgkiccfhcaaSqz
import Derived.Test.YtdbjmgkiccfhcaaCur
import Derived.Test.YtdbjmgkiccfhcaaDrawW
import Derived.Test.YtdbjmgkiccfhcaaAead
import Derived.Test.YtdbjmgkiccfhcaaWs2
namespace Go.Proofs.Ytdbjmgkiccfhcaa.K
open Go.RowKit
set_option linter.unusedVariables false
set_option linter.unusedSimpArgs false
set_option maxRecDepth 100000
set_option maxHeartbeats 4000000
theorem C_spec_l8Any (w0 : World) (g : Nat) (ca : Option Addr) (cc : Nat) (cb : List UInt8) (r_c : CurX w0 g 111 ca cc cb)  : Fn Try.prog 120 #[(vp g 0)] w0 (fun v w' => ∃ x : (PWin), Ch (fun k => k = g) w0 w' ∧ CurX w' g 111 ca cc cb ∧ O_58 w' w0.heap.size v x ∧ (True)) := by
 obtain ⟨ci, chh, hcb, hcr, hcl, hci, hcn⟩ := r_c
 have hgl := Blk.lt hcb
 refine fn_ofS (n := 33) [(vp g 0)] Try.func120 rfl rfl ?_
 refine sr ?_
 refine al [(vi 0), (vs none 0 0)] wN zero_58 ?_
 intro g1 w1 p2 p3 k4 b5
 have m6 := ChG.extk (Ch.refl (fun k => k = g) w0) k4
 refine nx ?_
 refine mw (vp g 0) ?_
 have b7 := (hcb.kp k4)
 refine cl wN (C_spec_l8Draw w1 g ca cc cb ⟨_, _, b7, (Rd.chP hcr m6 hcn), hcl, (by omega), hcn⟩) ?_
 rintro _ w2 ⟨x9, k8, ⟨i17, h18, b19, r20, l21, p22, n23⟩, ⟨a11, c12, rfl, o13, s14, ap16⟩, q10⟩
 have m24 := ChG.ext m6 k8 (fun k hk => .inl hk)
 refine al [(vi 0), (vs none 0 0)] wN zero_58 ?_
 intro g25 w3 p26 p27 k28 b29
 have m30 := ChG.extk m24 k28
 refine sv (L_58 (x9) a11 c12) wN sizeOf_58 b29 ?_
 intro w4 k31 b32 z33
 have m34 := ChG.ext m30 k31 (fun k hk => .inr (by subst hk; exact Nat.le_trans (z2 k4 k8) p26))
 refine n4 ?_
 refine mw (vp g 0) ?_
 have b35 := ((b19.kp k28).ch k31 (Nat.ne_of_lt (Nat.lt_of_lt_of_le hgl (Nat.le_trans (z2 k4 k8) p26))))
 refine cl wN (C_spec_l1Below w4 g ca cc cb ⟨_, _, b35, (Rd.chP hcr m34 hcn), hcl, (by omega), hcn⟩ 12) ?_
 rintro _ w5 ⟨x37, k36, ⟨i39, h40, b41, r42, l43, p44, n45⟩, rfl, q38⟩
 have m46 := ChG.ext m34 k36 (fun k hk => .inl hk)
 refine wl_nil <| wq_then <| wc_block <| sr ?_
 refine pu (vb (decide ((x37) = 0))) wN ?_
 refine aw (vb (decide ((x37) = 0))) ?_
 refine n2 ?_
 rcases bt (decide ((x37) = 0)) with h47 | h47
 ·have q48 := of_decide_eq_true h47
  refine ct h47 ?_
  refine wc_region ?_
  refine mw (vp g 0) ?_
  refine ltI ([(-2), (-1), 0, 700, 281474976710656] : List Int) wN slTy_56 ?_
  intro a49 c50 w6 k51 o52
  have m53 := ChG.extk m46 k51
  have b55 := (b41.kp k51)
  refine cl wN (C_spec_l1Int w6 g ca cc cb ⟨_, _, b55, (Rd.chP hcr m53 hcn), hcl, (by omega), hcn⟩ _ ([(-2), (-1), 0, 700, 281474976710656] : List Int) ⟨_, _, rfl, (Rd.of_own o52), (by simp), (fun _ z hz => by have h1 := (own_lt o52 z.block (by rw [hz]; rfl)).1; have h2 := Nat.lt_of_lt_of_le hgl (z5 k4 k8 k28 k31 k36); omega)⟩ (by simp)) ?_
  rintro _ w7 ⟨x57, k56, ⟨i59, h60, b61, r62, l63, p64, n65⟩, rfl, q58⟩
  have m66 := ChG.ext m53 k56 (fun k hk => .inl hk)
  have q58m : x57 = (-2) ∨ x57 = (-1) ∨ x57 = 0 ∨ x57 = 700 ∨ x57 = 281474976710656 := by simpa only [List.mem_cons, List.not_mem_nil, or_false] using q58
  refine pu (vp g25 0) wN ?_
  have b67 := (((b32.ch k36 (Ne.symm (Nat.ne_of_lt (Nat.lt_of_lt_of_le hgl (Nat.le_trans (z2 k4 k8) p26))))).kp k51).ch k56 (Ne.symm (Nat.ne_of_lt (Nat.lt_of_lt_of_le hgl (Nat.le_trans (z2 k4 k8) p26)))))
  refine st (vi (x57)) [(vi (x57))] [(vi (x57)), (vs a11 ((x9).Bits).length c12)] wN sizeOf_3 b67 ?_
  intro w8 k68 b69 z70
  have m71 := ChG.ext m66 k68 (fun k hk => .inr (by subst hk; exact Nat.le_trans (z2 k4 k8) p26))
  refine wl_nil <| wq_blk_normal <| wq_then <| sr ?_
  refine lN [(vi (x57)), (vs a11 ((x9).Bits).length c12)] wN isAgg_58 sizeOf_58 b69 ?_
  have b72 := (((((((b5.ch k8 (Ne.symm (Nat.ne_of_lt (Nat.lt_of_lt_of_le hgl (p2))))).kp k28).ch k31 (Nat.ne_of_lt (Nat.lt_of_lt_of_le p3 (Nat.le_trans k8.size p26)))).ch k36 (Ne.symm (Nat.ne_of_lt (Nat.lt_of_lt_of_le hgl (p2))))).kp k51).ch k56 (Ne.symm (Nat.ne_of_lt (Nat.lt_of_lt_of_le hgl (p2))))).ch k68 (Nat.ne_of_lt (Nat.lt_of_lt_of_le p3 (Nat.le_trans k8.size p26))))
  refine sv [(vi (x57)), (vs a11 ((x9).Bits).length c12)] wN sizeOf_58 b72 ?_
  intro w9 k73 b74 z75
  have m76 := ChG.ext m71 k73 (fun k hk => .inr (by subst hk; exact p2))
  refine n3 ?_
  have o77 := (own_ch (own_ch (own_ch (own_kp (own_ch (own_ch (own_kp o13 k28) k31 (ne2 o13 (p26))) k36 (ne1 o13 (Nat.lt_of_lt_of_le hgl k4.size))) k51) k56 (ne1 o13 (Nat.lt_of_lt_of_le hgl k4.size))) k68 (ne2 o13 (p26))) k73 (ne1 o13 (p3)))
  refine ret_1 (.inl rfl) (va [(vi (x57)), (vs a11 ((x9).Bits).length c12)]) rfl (rv_c [(vi (x57)), (vs a11 ((x9).Bits).length c12)] rfl b74 isAgg_58 sizeOf_58) ?_
  have b78 := ((b61.ch k68 (Nat.ne_of_lt (Nat.lt_of_lt_of_le hgl (Nat.le_trans (z2 k4 k8) p26)))).ch k73 (Nat.ne_of_lt (Nat.lt_of_lt_of_le hgl (p2))))
  exact ⟨{ Top := (x57), Bits := (x9).Bits : PWin }, m76, ⟨_, _, b78, (Rd.chP hcr m76 hcn), hcl, (by omega), hcn⟩, ⟨_, _, rfl, (own_lo o77 k4.size), s14, ⟨trivial, trivial⟩⟩, trivial⟩
 have q79 := of_decide_eq_false h47
 refine cf h47 ?_
 refine sr ?_
 refine pu (vb (decide ((x37) = 1))) wN ?_
 refine aw (vb (decide ((x37) = 1))) ?_
 refine n2 ?_
 rcases bf (decide ((x37) = 1)) with h80 | h80
 ·have q269 := of_decide_eq_false h80
  refine cf h80 ?_
  refine sr ?_
  refine pu (vb (decide ((x37) = 2))) wN ?_
  refine aw (vb (decide ((x37) = 2))) ?_
  refine n2 ?_
  rcases bf (decide ((x37) = 2)) with h270 | h270
  ·have q377 := of_decide_eq_false h270
   refine cf h270 ?_
   refine wc_skip <| wq_blk_normal <| wq_then <| sr ?_
   have b378 := (b32.ch k36 (Ne.symm (Nat.ne_of_lt (Nat.lt_of_lt_of_le hgl (Nat.le_trans (z2 k4 k8) p26)))))
   refine lN (L_58 (x9) a11 c12) wN isAgg_58 sizeOf_58 b378 ?_
   have b379 := ((((b5.ch k8 (Ne.symm (Nat.ne_of_lt (Nat.lt_of_lt_of_le hgl (p2))))).kp k28).ch k31 (Nat.ne_of_lt (Nat.lt_of_lt_of_le p3 (Nat.le_trans k8.size p26)))).ch k36 (Ne.symm (Nat.ne_of_lt (Nat.lt_of_lt_of_le hgl (p2)))))
   refine sv (L_58 (x9) a11 c12) wN sizeOf_58 b379 ?_
   intro w6 k380 b381 z382
   have m383 := ChG.ext m46 k380 (fun k hk => .inr (by subst hk; exact p2))
   refine n3 ?_
   have o384 := (own_ch (own_ch (own_ch (own_kp o13 k28) k31 (ne2 o13 (p26))) k36 (ne1 o13 (Nat.lt_of_lt_of_le hgl k4.size))) k380 (ne1 o13 (p3)))
   refine ret_1 (.inl rfl) (va (L_58 (x9) a11 c12)) rfl (rv_c (L_58 (x9) a11 c12) rfl b381 isAgg_58 sizeOf_58) ?_
   have b385 := (b41.ch k380 (Nat.ne_of_lt (Nat.lt_of_lt_of_le hgl (p2))))
   exact ⟨(x9), m383, ⟨_, _, b385, (Rd.chP hcr m383 hcn), hcl, (by omega), hcn⟩, ⟨_, _, rfl, (own_lo o384 k4.size), s14, ⟨trivial, trivial⟩⟩, trivial⟩
  have q271 := of_decide_eq_true h270
  refine ct h270 ?_
  refine wc_drawT ([(26, [], [], (fun _ v _ => v = (vp g25 1))), (27, [], [0], (fun _ v _ => v = (vs a11 ((x9).Bits).length c12))), (28, [], [], (fun _ v _ => v = (vp g 0))), (29, [], [2], (fun _ v _ => ∃ x295 : Int, v = (vi x295) ∧ 0 ≤ x295 ∧ (x295 < 32 ∨ ((32 : Int) ≤ 0 ∧ x295 = 0))))] : GV) (fun lf w' => Ch (fun k => k = g) w5 w' ∧ CurX w' g 111 ca cc cb) [(3, fun w w' => Ch (fun k => k = g) w w' ∧ (CurX w g 111 ca cc cb → CurX w' g 111 ca cc cb))] mixed rfl (by kernel_rfl) (by kernel_rfl) ?_ (fun _ _ h => ⟨h.to _, CurX.kp ⟨_, _, b41, (Rd.chP hcr m46 hcn), hcl, (by omega), hcn⟩ h⟩) (fun _ _ _ _ h mo k => by obtain ⟨hc, hcur⟩ := h; exact ⟨hc.comp k (fun _ _ q => q.elim), hcur.kp k⟩) ⟨(fun _ _ w w' h mo hj t => by obtain ⟨hc, hcur⟩ := h; exact ⟨hc.comp t.1 (fun _ _ q => q), t.2 hcur⟩), trivial⟩ ?_ ?_ ?_
  ·exact ⟨hV, hE, ⟨hV, hE, ⟨hV, hE, ⟨hV, hE, trivial⟩⟩⟩⟩
  ·exact ⟨⟨.inr hV, ⟨.inr hV, ⟨.inr hV, ⟨.inl rfl, trivial⟩⟩⟩⟩, trivial⟩
  ·refine ⟨?_, ⟨?_, ⟨?_, ⟨?_, trivial⟩⟩⟩⟩
   ·rintro lf w6 ⟨k296, ⟨i298, h299, b300, r301, l302, p303, n304⟩⟩ ⟨n297, -⟩
    rintro _ _ _ _
    show WL _ _ _ _ _ _ _
    refine pu (vp g25 1) wN ?_
    exact f1
   ·rintro lf w6 ⟨k306, ⟨i308, h309, b310, r311, l312, p313, n314⟩⟩ ⟨n307, -⟩
    rintro _ rfl _ _ _
    show WL _ _ _ _ _ _ _
    have b316 := ((b32.ch k36 (Ne.symm (Nat.ne_of_lt (Nat.lt_of_lt_of_le hgl (Nat.le_trans (z2 k4 k8) p26))))).ch k306 (Ne.symm (Nat.ne_of_lt (Nat.lt_of_lt_of_le hgl (Nat.le_trans (z2 k4 k8) p26)))))
    refine ld (vs a11 ((x9).Bits).length c12) wN isAgg_56 b316 ?_
    exact f1
   ·rintro lf w6 ⟨k317, ⟨i319, h320, b321, r322, l323, p324, n325⟩⟩ ⟨n318, -⟩
    rintro _ _ _ _
    show WL _ _ _ _ _ _ _
    refine mw (vp g 0) ?_
    exact f1
   ·rintro lf w6 ⟨k327, ⟨i329, h330, b331, r332, l333, p334, n335⟩⟩ ⟨n328, -⟩
    have m336 := ChG.ext m46 k327 (fun k hk => .inl hk)
    rintro _ _ _ rfl _
    show WL _ _ _ _ _ _ _
    refine cl wN (C_spec_l1Below w6 g ca cc cb ⟨_, _, b331, (Rd.chP hcr m336 hcn), hcl, (by omega), hcn⟩ 32) ?_
    rintro _ w7 ⟨x338, k337, ⟨i340, h341, b342, r343, l344, p345, n346⟩, rfl, q339⟩
    have m347 := ChG.ext m336 k337 (fun k hk => .inl hk)
    exact wl_finT ⟨k337, fun _ => ⟨_, _, b342, (Rd.chP hcr m347 hcn), hcl, (by omega), hcn⟩⟩ ⟨_, rfl, q339⟩
  ·rintro lf w6 ⟨k348, ⟨i350, h351, b352, r353, l354, p355, n356⟩⟩
   have m357 := ChG.ext m46 k348 (fun k hk => .inl hk)
   rintro _ rfl _ rfl _ rfl _ ⟨x295, rfl, q359⟩
   show WL _ _ _ _ _ _ _
   have o361 := (own_ch (own_ch (own_ch (own_kp o13 k28) k31 (ne2 o13 (p26))) k36 (ne1 o13 (Nat.lt_of_lt_of_le hgl k4.size))) k348 (ne1 o13 (Nat.lt_of_lt_of_le hgl k4.size)))
   refine slv (((x9).Bits).take ((x295).toNat)) 0 ((x295).toNat) wN slTy_56 (Rd.of_own o361) (by first | omega | (simp only [List.length_cons, List.length_nil, List.length_replicate, List.length_append, List.length_take, List.length_set, List.length_map]; omega)) (by first | omega | (simp only [List.length_cons, List.length_nil, List.length_replicate, List.length_append, List.length_take, List.length_set, List.length_map]; omega)) (by first | rfl | (simp; done) | (rw [List.take_of_length_le (by first | (simp; done) | (simp; omega))])) rfl rfl rfl rfl (.inl ⟨rfl, rfl⟩) (.inr ⟨_, _, _, rfl, rfl, by omega⟩) ?_
   have o363 := own_pre (k := ((x295).toNat)) o361 (by first | omega | (simp only [List.length_cons, List.length_nil, List.length_replicate, List.length_append, List.length_take, List.length_set, List.length_map]; omega))
   have s364 : (((x9).Bits).take ((x295).toNat)).length ≤ 1073741824 := Nat.le_trans (by simp only [List.length_take]; omega) s14
   refine pu (vp g25 1) wN ?_
   have b365 := ((b32.ch k36 (Ne.symm (Nat.ne_of_lt (Nat.lt_of_lt_of_le hgl (Nat.le_trans (z2 k4 k8) p26))))).ch k348 (Ne.symm (Nat.ne_of_lt (Nat.lt_of_lt_of_le hgl (Nat.le_trans (z2 k4 k8) p26)))))
   refine st (vs (subA a11 c12 0 1) (((x9).Bits).take ((x295).toNat)).length (c12 - 0)) [(vs (subA a11 c12 0 1) (((x9).Bits).take ((x295).toNat)).length (c12 - 0))] [(vi ((x9).Top)), (vs (subA a11 c12 0 1) (((x9).Bits).take ((x295).toNat)).length (c12 - 0))] wN sizeOf_56 b365 ?_
   intro w7 k366 b367 z368
   have m369 := ChG.ext m357 k366 (fun k hk => .inr (by subst hk; exact Nat.le_trans (z2 k4 k8) p26))
   refine wl_nil <| wq_blk_normal <| wq_then <| sr ?_
   refine lN [(vi ((x9).Top)), (vs (subA a11 c12 0 1) (((x9).Bits).take ((x295).toNat)).length (c12 - 0))] wN isAgg_58 sizeOf_58 b367 ?_
   have b370 := ((((((b5.ch k8 (Ne.symm (Nat.ne_of_lt (Nat.lt_of_lt_of_le hgl (p2))))).kp k28).ch k31 (Nat.ne_of_lt (Nat.lt_of_lt_of_le p3 (Nat.le_trans k8.size p26)))).ch k36 (Ne.symm (Nat.ne_of_lt (Nat.lt_of_lt_of_le hgl (p2))))).ch k348 (Ne.symm (Nat.ne_of_lt (Nat.lt_of_lt_of_le hgl (p2))))).ch k366 (Nat.ne_of_lt (Nat.lt_of_lt_of_le p3 (Nat.le_trans k8.size p26))))
   refine sv [(vi ((x9).Top)), (vs (subA a11 c12 0 1) (((x9).Bits).take ((x295).toNat)).length (c12 - 0))] wN sizeOf_58 b370 ?_
   intro w8 k371 b372 z373
   have m374 := ChG.ext m369 k371 (fun k hk => .inr (by subst hk; exact p2))
   refine n3 ?_
   have o375 := (own_ch (own_blk o363 b365 (by decide) k366) k371 (ne1 o363 (p3)))
   refine ret_1 (.inl rfl) (va [(vi ((x9).Top)), (vs (subA a11 c12 0 1) (((x9).Bits).take ((x295).toNat)).length (c12 - 0))]) rfl (rv_c [(vi ((x9).Top)), (vs (subA a11 c12 0 1) (((x9).Bits).take ((x295).toNat)).length (c12 - 0))] rfl b372 isAgg_58 sizeOf_58) ?_
   have b376 := ((b352.ch k366 (Nat.ne_of_lt (Nat.lt_of_lt_of_le hgl (Nat.le_trans (z2 k4 k8) p26)))).ch k371 (Nat.ne_of_lt (Nat.lt_of_lt_of_le hgl (p2))))
   exact ⟨{ Top := (x9).Top, Bits := (((x9).Bits).take ((x295).toNat)) : PWin }, m374, ⟨_, _, b376, (Rd.chP hcr m374 hcn), hcl, (by omega), hcn⟩, ⟨_, _, rfl, (own_lo o375 k4.size), s364, ⟨trivial, trivial⟩⟩, trivial⟩
 have q81 := of_decide_eq_true h80
 refine ct h80 ?_
 refine wc_drawT ([(16, [], [], (fun _ v _ => v = (vp g25 1))), (17, [], [0], (fun _ v _ => v = (vs a11 ((x9).Bits).length c12))), (18, [], [], (fun _ v _ => v = (vp g 0))), (19, [], [2], (fun _ v _ => ∃ x117 : Int, v = (vi x117) ∧ 0 ≤ x117 ∧ (x117 < 32 ∨ ((32 : Int) ≤ 0 ∧ x117 = 0)))), (20, [], [], (fun _ v _ => v = (vp g 0))), (21, [], [], (fun _ v w => ∃ (a1 : Option Addr) (c1 : Nat), v = .slice a1 ([(-1), 0, 1, 4294967295, 4294967296] : List Int).length c1 ∧ w.ownsRow w5.heap.size 3 1 (.slice a1 ([(-1), 0, 1, 4294967295, 4294967296] : List Int).length c1) ([(-1), 0, 1, 4294967295, 4294967296] : List Int).length (([(-1), 0, 1, 4294967295, 4294967296] : List Int).map iV) ∧ ([(-1), 0, 1, 4294967295, 4294967296] : List Int).length ≤ 1073741824 ∧ Aps [(a1, c1)])), (22, [], [2, 3, 4, 5], (fun _ v _ => ∃ x124 : Int, v = (vi x124) ∧ x124 ∈ ([(-1), 0, 1, 4294967295, 4294967296] : List Int)))] : GV) (fun lf w' => Ch (fun k => k = g) w5 w' ∧ CurX w' g 111 ca cc cb) [(3, fun w w' => Ch (fun k => k = g) w w' ∧ (CurX w g 111 ca cc cb → CurX w' g 111 ca cc cb)), (6, fun w w' => Ch (fun k => k = g) w w' ∧ (CurX w g 111 ca cc cb → CurX w' g 111 ca cc cb))] mixed rfl (by kernel_rfl) (by kernel_rfl) ?_ (fun _ _ h => ⟨h.to _, CurX.kp ⟨_, _, b41, (Rd.chP hcr m46 hcn), hcl, (by omega), hcn⟩ h⟩) (fun _ _ _ _ h mo k => by obtain ⟨hc, hcur⟩ := h; exact ⟨hc.comp k (fun _ _ q => q.elim), hcur.kp k⟩) ⟨(fun _ _ w w' h mo hj t => by obtain ⟨hc, hcur⟩ := h; exact ⟨hc.comp t.1 (fun _ _ q => q), t.2 hcur⟩), ⟨(fun _ _ w w' h mo hj t => by obtain ⟨hc, hcur⟩ := h; exact ⟨hc.comp t.1 (fun _ _ q => q), t.2 hcur⟩), trivial⟩⟩ ?_ ?_ ?_
 ·exact ⟨hV, hE, ⟨hV, hE, ⟨hV, hE, ⟨hV, hE, ⟨hV, hE, ⟨(fun e v w w1 h hk => by obtain ⟨a0x, c0x, he, o0x, l0x, hap⟩ := h; exact ⟨a0x, c0x, he, own_kp o0x hk, l0x, hap⟩), hE, ⟨hV, hE, trivial⟩⟩⟩⟩⟩⟩⟩
 ·exact ⟨⟨.inr hV, ⟨.inr hV, ⟨.inr hV, ⟨.inl rfl, ⟨.inr hV, ⟨.inr (fun e v wX wY h ht => by obtain ⟨a0x, c0x, he, o0x, l0x, hap⟩ := h; exact ⟨a0x, c0x, he, own_ch o0x ht.1 (fun gq hg _ hk => by have h1 := (own_lt o0x gq hg).1; have h3 : gq = g := hk; have h4 := (Nat.lt_of_lt_of_le hgl (z5 k4 k8 k28 k31 k36)); omega), l0x, hap⟩), ⟨.inr hV, trivial⟩⟩⟩⟩⟩⟩⟩, ⟨⟨.inr hV, ⟨.inr hV, ⟨.inr hV, ⟨.inr hV, ⟨.inr hV, ⟨.inr (fun e v wX wY h ht => by obtain ⟨a0x, c0x, he, o0x, l0x, hap⟩ := h; exact ⟨a0x, c0x, he, own_ch o0x ht.1 (fun gq hg _ hk => by have h1 := (own_lt o0x gq hg).1; have h3 : gq = g := hk; have h4 := (Nat.lt_of_lt_of_le hgl (z5 k4 k8 k28 k31 k36)); omega), l0x, hap⟩), ⟨.inl rfl, trivial⟩⟩⟩⟩⟩⟩⟩, trivial⟩⟩
 ·refine ⟨?_, ⟨?_, ⟨?_, ⟨?_, ⟨?_, ⟨?_, ⟨?_, trivial⟩⟩⟩⟩⟩⟩⟩
  ·rintro lf w6 ⟨k125, ⟨i128, h129, b130, r131, l132, p133, n134⟩⟩ ⟨n126, n127, -⟩
   rintro _ _ _ _ _ _ _
   show WL _ _ _ _ _ _ _
   refine pu (vp g25 1) wN ?_
   exact f1
  ·rintro lf w6 ⟨k136, ⟨i139, h140, b141, r142, l143, p144, n145⟩⟩ ⟨n137, n138, -⟩
   rintro _ rfl _ _ _ _ _ _
   show WL _ _ _ _ _ _ _
   have b147 := ((b32.ch k36 (Ne.symm (Nat.ne_of_lt (Nat.lt_of_lt_of_le hgl (Nat.le_trans (z2 k4 k8) p26))))).ch k136 (Ne.symm (Nat.ne_of_lt (Nat.lt_of_lt_of_le hgl (Nat.le_trans (z2 k4 k8) p26)))))
   refine ld (vs a11 ((x9).Bits).length c12) wN isAgg_56 b147 ?_
   exact f1
  ·rintro lf w6 ⟨k148, ⟨i151, h152, b153, r154, l155, p156, n157⟩⟩ ⟨n149, n150, -⟩
   rintro _ _ _ _ _ _ _
   show WL _ _ _ _ _ _ _
   refine mw (vp g 0) ?_
   exact f1
  ·rintro lf w6 ⟨k159, ⟨i162, h163, b164, r165, l166, p167, n168⟩⟩ ⟨n160, n161, -⟩
   have m169 := ChG.ext m46 k159 (fun k hk => .inl hk)
   rintro _ _ _ rfl _ _ _ _
   show WL _ _ _ _ _ _ _
   refine cl wN (C_spec_l1Below w6 g ca cc cb ⟨_, _, b164, (Rd.chP hcr m169 hcn), hcl, (by omega), hcn⟩ 32) ?_
   rintro _ w7 ⟨x171, k170, ⟨i173, h174, b175, r176, l177, p178, n179⟩, rfl, q172⟩
   have m180 := ChG.ext m169 k170 (fun k hk => .inl hk)
   exact wl_finT ⟨k170, fun _ => ⟨_, _, b175, (Rd.chP hcr m180 hcn), hcl, (by omega), hcn⟩⟩ ⟨_, rfl, q172⟩
  ·rintro lf w6 ⟨k181, ⟨i184, h185, b186, r187, l188, p189, n190⟩⟩ ⟨n182, n183, -⟩
   rintro _ _ _ _ _ _ _
   show WL _ _ _ _ _ _ _
   refine mw (vp g 0) ?_
   exact f1
  ·rintro lf w6 ⟨k192, ⟨i195, h196, b197, r198, l199, p200, n201⟩⟩ ⟨n193, n194, -⟩
   rintro _ _ _ _ _ _ _
   show WL _ _ _ _ _ _ _
   refine ltI ([(-1), 0, 1, 4294967295, 4294967296] : List Int) wN slTy_56 ?_
   intro a203 c204 w7 k205 o206
   exact wl_finT k205 ⟨_, _, rfl, (own_lo o206 k192.size), (by simp), ⟨trivial, trivial⟩⟩
  ·rintro lf w6 ⟨k209, ⟨i212, h213, b214, r215, l216, p217, n218⟩⟩ ⟨n210, n211, -⟩
   have m219 := ChG.ext m46 k209 (fun k hk => .inl hk)
   rintro _ _ _ rfl _ ⟨x117, rfl, q220⟩ _ rfl _ ⟨a221, c222, rfl, o223, s224, -⟩ _
   show WL _ _ _ _ _ _ _
   refine cl wN (C_spec_l1Int w6 g ca cc cb ⟨_, _, b214, (Rd.chP hcr m219 hcn), hcl, (by omega), hcn⟩ _ ([(-1), 0, 1, 4294967295, 4294967296] : List Int) ⟨_, _, rfl, (Rd.of_own o223), s224, (fun _ z hz => by have h1 := (own_lt o223 z.block (by rw [hz]; rfl)).1; have h2 := Nat.lt_of_lt_of_le hgl (z5 k4 k8 k28 k31 k36); omega)⟩ (by simp)) ?_
   rintro _ w7 ⟨x227, k226, ⟨i229, h230, b231, r232, l233, p234, n235⟩, rfl, q228⟩
   have m236 := ChG.ext m219 k226 (fun k hk => .inl hk)
   have q228m : x227 = (-1) ∨ x227 = 0 ∨ x227 = 1 ∨ x227 = 4294967295 ∨ x227 = 4294967296 := by simpa only [List.mem_cons, List.not_mem_nil, or_false] using q228
   exact wl_finT ⟨k226, fun _ => ⟨_, _, b231, (Rd.chP hcr m236 hcn), hcl, (by omega), hcn⟩⟩ ⟨_, rfl, q228⟩
 ·rintro lf w6 ⟨k237, ⟨i240, h241, b242, r243, l244, p245, n246⟩⟩
  have m247 := ChG.ext m46 k237 (fun k hk => .inl hk)
  rintro _ rfl _ rfl _ rfl _ ⟨x117, rfl, q249⟩ _ rfl _ ⟨a250, c251, rfl, o252, s253, -⟩ _ ⟨x124, rfl, q255⟩
  have q255m : x124 = (-1) ∨ x124 = 0 ∨ x124 = 1 ∨ x124 = 4294967295 ∨ x124 = 4294967296 := by simpa only [List.mem_cons, List.not_mem_nil, or_false] using q255
  show WL _ _ _ _ _ _ _
  have o256 := (own_ch (own_ch (own_ch (own_kp o13 k28) k31 (ne2 o13 (p26))) k36 (ne1 o13 (Nat.lt_of_lt_of_le hgl k4.size))) k237 (ne1 o13 (Nat.lt_of_lt_of_le hgl k4.size)))
  refine ix wN x117 slTy_56 (Rd.of_own o256) ?_
  refine wl_storeI ((x9).Bits) ((x117).toNat) (x124) wN rfl rfl rfl (by simp) rfl sizeOf_3 o256 (by first | omega | (simp only [List.length_append, List.length_replicate, List.length_take, List.length_set, List.length_map]; omega)) ?_
  intro w7 k257 o258
  have m259 := ChG.ext m247 k257 (fun k hk => .inr (Nat.le_trans k4.size (own_lt o13 k hk).1))
  refine wl_nil <| wq_blk_normal <| wq_then <| sr ?_
  have b260 := (((b32.ch k36 (Ne.symm (Nat.ne_of_lt (Nat.lt_of_lt_of_le hgl (Nat.le_trans (z2 k4 k8) p26))))).ch k237 (Ne.symm (Nat.ne_of_lt (Nat.lt_of_lt_of_le hgl (Nat.le_trans (z2 k4 k8) p26))))).ch k257 (fun h => by have := (own_lt o13 _ h).2; have := Nat.le_trans (Nat.le_refl w2.heap.size) p26; omega))
  refine lN [(vi ((x9).Top)), (vs a11 ((x9).Bits).length c12)] wN isAgg_58 sizeOf_58 b260 ?_
  have b261 := ((((((b5.ch k8 (Ne.symm (Nat.ne_of_lt (Nat.lt_of_lt_of_le hgl (p2))))).kp k28).ch k31 (Nat.ne_of_lt (Nat.lt_of_lt_of_le p3 (Nat.le_trans k8.size p26)))).ch k36 (Ne.symm (Nat.ne_of_lt (Nat.lt_of_lt_of_le hgl (p2))))).ch k237 (Ne.symm (Nat.ne_of_lt (Nat.lt_of_lt_of_le hgl (p2))))).ch k257 (fun h => by have := (own_lt o13 _ h).1; have := Nat.lt_of_lt_of_le p3 (Nat.le_refl w1.heap.size); omega))
  refine sv [(vi ((x9).Top)), (vs a11 ((x9).Bits).length c12)] wN sizeOf_58 b261 ?_
  intro w8 k262 b263 z264
  have m265 := ChG.ext m259 k262 (fun k hk => .inr (by subst hk; exact p2))
  refine n3 ?_
  have o266 := (own_ch o258 k262 (ne1 o13 (p3)))
  refine ret_1 (.inl rfl) (va [(vi ((x9).Top)), (vs a11 ((x9).Bits).length c12)]) rfl (rv_c [(vi ((x9).Top)), (vs a11 ((x9).Bits).length c12)] rfl b263 isAgg_58 sizeOf_58) ?_
  have hN267 : ((x9).Bits).length = ((((x9).Bits).set ((x117).toNat) x124)).length := by first | (simp only [List.length_append, List.length_take, List.length_replicate, List.length_set, List.length_map]; done) | (simp only [List.length_append, List.length_take, List.length_replicate, List.length_set, List.length_map]; omega)
  rw [hN267] at o266 ⊢
  have b268 := ((b242.ch k257 (fun h => by have := (own_lt o13 _ h).1; have := Nat.lt_of_lt_of_le hgl k4.size; omega)).ch k262 (Nat.ne_of_lt (Nat.lt_of_lt_of_le hgl (p2))))
  exact ⟨{ Top := (x9).Top, Bits := (((x9).Bits).set ((x117).toNat) x124) : PWin }, m265, ⟨_, _, b268, (Rd.chP hcr m265 hcn), hcl, (by omega), hcn⟩, ⟨_, _, rfl, (own_lo o266 k4.size), (by rw [← hN267]; exact s14), ⟨trivial, trivial⟩⟩, trivial⟩

theorem C_spec_l9Any (w0 : World) (g : Nat) (ca : Option Addr) (cc : Nat) (cb : List UInt8) (r_c : CurX w0 g 111 ca cc cb)  : Fn Try.prog 98 #[(vp g 0)] w0 (fun v w' => ∃ x : (PEp), Ch (fun k => k = g) w0 w' ∧ CurX w' g 111 ca cc cb ∧ O_60 w' w0.heap.size v x ∧ (True)) := by
 obtain ⟨ci, chh, hcb, hcr, hcl, hci, hcn⟩ := r_c
 have hgl := Blk.lt hcb
 refine fn_ofS (n := 34) [(vp g 0)] Try.func98 rfl rfl ?_
 refine sr ?_
 refine al Z_60 wN zero_60 ?_
 intro g1 w1 p2 p3 k4 b5
 have m6 := ChG.extk (Ch.refl (fun k => k = g) w0) k4
 refine nx ?_
 refine mw (vp g 0) ?_
 have b7 := (hcb.kp k4)
 refine cl wN (C_spec_l9Ep w1 g ca cc cb ⟨_, _, b7, (Rd.chP hcr m6 hcn), hcl, (by omega), hcn⟩) ?_
 rintro _ w2 ⟨x9, k8, ⟨i22, h23, b24, r25, l26, p27, n28⟩, ⟨a11, c12, a16, c17, rfl, o13, s14, o18, s19, ap21⟩, q10⟩
 have m29 := ChG.ext m6 k8 (fun k hk => .inl hk)
 refine al Z_60 wN zero_60 ?_
 intro g30 w3 p31 p32 k33 b34
 have m35 := ChG.extk m29 k33
 refine sv (L_60 (x9) a11 c12 a16 c17) wN sizeOf_60 b34 ?_
 intro w4 k36 b37 z38
 have m39 := ChG.ext m35 k36 (fun k hk => .inr (by subst hk; exact Nat.le_trans (z2 k4 k8) p31))
 refine n4 ?_
 refine mw (vp g 0) ?_
 have b40 := ((b24.kp k33).ch k36 (Nat.ne_of_lt (Nat.lt_of_lt_of_le hgl (Nat.le_trans (z2 k4 k8) p31))))
 refine cl wN (C_spec_l1Below w4 g ca cc cb ⟨_, _, b40, (Rd.chP hcr m39 hcn), hcl, (by omega), hcn⟩ 14) ?_
 rintro _ w5 ⟨x42, k41, ⟨i44, h45, b46, r47, l48, p49, n50⟩, rfl, q43⟩
 have m51 := ChG.ext m39 k41 (fun k hk => .inl hk)
 refine wl_nil <| wq_then <| wc_block <| sr ?_
 refine pu (vb (decide ((x42) = 0))) wN ?_
 refine aw (vb (decide ((x42) = 0))) ?_
 refine n2 ?_
 rcases bt (decide ((x42) = 0)) with h52 | h52
 ·have q53 := of_decide_eq_true h52
  refine ct h52 ?_
  refine wc_region ?_
  refine mw (vp g 0) ?_
  refine ltI ([(-1), 4294967296] : List Int) wN slTy_56 ?_
  intro a54 c55 w6 k56 o57
  have m58 := ChG.extk m51 k56
  have b60 := (b46.kp k56)
  refine cl wN (C_spec_l1Int w6 g ca cc cb ⟨_, _, b60, (Rd.chP hcr m58 hcn), hcl, (by omega), hcn⟩ _ ([(-1), 4294967296] : List Int) ⟨_, _, rfl, (Rd.of_own o57), (by simp), (fun _ z hz => by have h1 := (own_lt o57 z.block (by rw [hz]; rfl)).1; have h2 := Nat.lt_of_lt_of_le hgl (z5 k4 k8 k33 k36 k41); omega)⟩ (by simp)) ?_
  rintro _ w7 ⟨x62, k61, ⟨i64, h65, b66, r67, l68, p69, n70⟩, rfl, q63⟩
  have m71 := ChG.ext m58 k61 (fun k hk => .inl hk)
  have q63m : x62 = (-1) ∨ x62 = 4294967296 := by simpa only [List.mem_cons, List.not_mem_nil, or_false] using q63
  refine pu (vp g30 0) wN ?_
  have b72 := (((b37.ch k41 (Ne.symm (Nat.ne_of_lt (Nat.lt_of_lt_of_le hgl (Nat.le_trans (z2 k4 k8) p31))))).kp k56).ch k61 (Ne.symm (Nat.ne_of_lt (Nat.lt_of_lt_of_le hgl (Nat.le_trans (z2 k4 k8) p31)))))
  refine st (vi (x62)) [(vi (x62))] [(vi (x62)), (vs a11 ((x9).Key).length c12), (vi ((x9).Seq)), (vi (((x9).Win).Top)), (vs a16 (((x9).Win).Bits).length c17)] wN sizeOf_3 b72 ?_
  intro w8 k73 b74 z75
  have m76 := ChG.ext m71 k73 (fun k hk => .inr (by subst hk; exact Nat.le_trans (z2 k4 k8) p31))
  refine wl_nil <| wq_blk_normal <| wq_then <| sr ?_
  refine lN [(vi (x62)), (vs a11 ((x9).Key).length c12), (vi ((x9).Seq)), (vi (((x9).Win).Top)), (vs a16 (((x9).Win).Bits).length c17)] wN isAgg_60 sizeOf_60 b74 ?_
  have b77 := (((((((b5.ch k8 (Ne.symm (Nat.ne_of_lt (Nat.lt_of_lt_of_le hgl (p2))))).kp k33).ch k36 (Nat.ne_of_lt (Nat.lt_of_lt_of_le p3 (Nat.le_trans k8.size p31)))).ch k41 (Ne.symm (Nat.ne_of_lt (Nat.lt_of_lt_of_le hgl (p2))))).kp k56).ch k61 (Ne.symm (Nat.ne_of_lt (Nat.lt_of_lt_of_le hgl (p2))))).ch k73 (Nat.ne_of_lt (Nat.lt_of_lt_of_le p3 (Nat.le_trans k8.size p31))))
  refine sv [(vi (x62)), (vs a11 ((x9).Key).length c12), (vi ((x9).Seq)), (vi (((x9).Win).Top)), (vs a16 (((x9).Win).Bits).length c17)] wN sizeOf_60 b77 ?_
  intro w9 k78 b79 z80
  have m81 := ChG.ext m76 k78 (fun k hk => .inr (by subst hk; exact p2))
  refine n3 ?_
  have t82 := fun (E sz n : Nat) (v : Value) (xs : List Value) (o : World.ownsRow w2 w1.heap.size E sz v n xs) (o0 : World.ownsRow w2 w1.heap.size E sz v n xs) => (own_ch (own_ch (own_ch (own_kp (own_ch (own_ch (own_kp o k33) k36 (ne2 o0 (p31))) k41 (ne1 o0 (Nat.lt_of_lt_of_le hgl k4.size))) k56) k61 (ne1 o0 (Nat.lt_of_lt_of_le hgl k4.size))) k73 (ne2 o0 (p31))) k78 (ne1 o0 (p3)))
  have o83 := (t82 _ _ _ _ _ o13 o13)
  have o84 := (t82 _ _ _ _ _ o18 o18)
  refine ret_1 (.inl rfl) (va [(vi (x62)), (vs a11 ((x9).Key).length c12), (vi ((x9).Seq)), (vi (((x9).Win).Top)), (vs a16 (((x9).Win).Bits).length c17)]) rfl (rv_c [(vi (x62)), (vs a11 ((x9).Key).length c12), (vi ((x9).Seq)), (vi (((x9).Win).Top)), (vs a16 (((x9).Win).Bits).length c17)] rfl b79 isAgg_60 sizeOf_60) ?_
  have b85 := ((b66.ch k73 (Nat.ne_of_lt (Nat.lt_of_lt_of_le hgl (Nat.le_trans (z2 k4 k8) p31)))).ch k78 (Nat.ne_of_lt (Nat.lt_of_lt_of_le hgl (p2))))
  exact ⟨{ N := (x62), Key := (x9).Key, Seq := (x9).Seq, Win := ((x9).Win) : PEp }, m81, ⟨_, _, b85, (Rd.chP hcr m81 hcn), hcl, (by omega), hcn⟩, ⟨_, _, _, _, rfl, (own_lo o83 k4.size), s14, (own_lo o84 k4.size), s19, ⟨⟨(ap21.1.1), trivial⟩, ⟨trivial, trivial⟩⟩⟩, trivial⟩
 have q86 := of_decide_eq_false h52
 refine cf h52 ?_
 refine sr ?_
 refine pu (vb (decide ((x42) = 1))) wN ?_
 refine aw (vb (decide ((x42) = 1))) ?_
 refine n2 ?_
 rcases bt (decide ((x42) = 1)) with h87 | h87
 ·have q88 := of_decide_eq_true h87
  refine ct h87 ?_
  refine wc_region ?_
  refine mw (vp g 0) ?_
  refine mw (vp g 0) ?_
  refine ltI ([0, 31, 33] : List Int) wN slTy_56 ?_
  intro a89 c90 w6 k91 o92
  have m93 := ChG.extk m51 k91
  have b95 := (b46.kp k91)
  refine cl wN (C_spec_l1Int w6 g ca cc cb ⟨_, _, b95, (Rd.chP hcr m93 hcn), hcl, (by omega), hcn⟩ _ ([0, 31, 33] : List Int) ⟨_, _, rfl, (Rd.of_own o92), (by simp), (fun _ z hz => by have h1 := (own_lt o92 z.block (by rw [hz]; rfl)).1; have h2 := Nat.lt_of_lt_of_le hgl (z5 k4 k8 k33 k36 k41); omega)⟩ (by simp)) ?_
  rintro _ w7 ⟨x97, k96, ⟨i99, h100, b101, r102, l103, p104, n105⟩, rfl, q98⟩
  have m106 := ChG.ext m93 k96 (fun k hk => .inl hk)
  have q98m : x97 = 0 ∨ x97 = 31 ∨ x97 = 33 := by simpa only [List.mem_cons, List.not_mem_nil, or_false] using q98
  refine cl wN (C_spec_l1Bytes w7 g ca cc cb ⟨_, _, b101, (Rd.chP hcr m106 hcn), hcl, (by omega), hcn⟩ (x97) (by omega)) ?_
  rintro _ w8 ⟨x108, k107, ⟨i116, h117, b118, r119, l120, p121, n122⟩, ⟨a110, c111, rfl, o112, s113, ap115⟩, q109⟩
  have m123 := ChG.ext m106 k107 (fun k hk => .inl hk)
  refine pu (vp g30 1) wN ?_
  have zz10 := Nat.le_trans (z2 k4 k8) p31
  have b124 := ((((b37.ch k41 (Ne.symm (Nat.ne_of_lt (Nat.lt_of_lt_of_le hgl zz10)))).kp k91).ch k96 (Ne.symm (Nat.ne_of_lt (Nat.lt_of_lt_of_le hgl zz10)))).ch k107 (Ne.symm (Nat.ne_of_lt (Nat.lt_of_lt_of_le hgl zz10))))
  refine st (vs a110 (x108).length c111) [(vs a110 (x108).length c111)] [(vi ((x9).N)), (vs a110 (x108).length c111), (vi ((x9).Seq)), (vi (((x9).Win).Top)), (vs a16 (((x9).Win).Bits).length c17)] wN sizeOf_22 b124 ?_
  intro w9 k125 b126 z127
  have m128 := ChG.ext m123 k125 (fun k hk => .inr (by subst hk; exact Nat.le_trans (z2 k4 k8) p31))
  refine wl_nil <| wq_blk_normal <| wq_then <| sr ?_
  refine lN [(vi ((x9).N)), (vs a110 (x108).length c111), (vi ((x9).Seq)), (vi (((x9).Win).Top)), (vs a16 (((x9).Win).Bits).length c17)] wN isAgg_60 sizeOf_60 b126 ?_
  have b129 := ((((((((b5.ch k8 (Ne.symm (Nat.ne_of_lt (Nat.lt_of_lt_of_le hgl (p2))))).kp k33).ch k36 (Nat.ne_of_lt (Nat.lt_of_lt_of_le p3 (Nat.le_trans k8.size p31)))).ch k41 (Ne.symm (Nat.ne_of_lt (Nat.lt_of_lt_of_le hgl (p2))))).kp k91).ch k96 (Ne.symm (Nat.ne_of_lt (Nat.lt_of_lt_of_le hgl (p2))))).ch k107 (Ne.symm (Nat.ne_of_lt (Nat.lt_of_lt_of_le hgl (p2))))).ch k125 (Nat.ne_of_lt (Nat.lt_of_lt_of_le p3 (Nat.le_trans k8.size p31))))
  refine sv [(vi ((x9).N)), (vs a110 (x108).length c111), (vi ((x9).Seq)), (vi (((x9).Win).Top)), (vs a16 (((x9).Win).Bits).length c17)] wN sizeOf_60 b129 ?_
  intro w10 k130 b131 z132
  have m133 := ChG.ext m128 k130 (fun k hk => .inr (by subst hk; exact p2))
  refine n3 ?_
  have o134 := (own_ch (own_ch o112 k125 (ne1 o112 (Nat.lt_of_lt_of_le p32 (z4 k36 k41 k91 k96)))) k130 (ne1 o112 (Nat.lt_of_lt_of_le p3 (z6 k8 k33 k36 k41 k91 k96))))
  have t135 := fun (E sz n : Nat) (v : Value) (xs : List Value) (o : World.ownsRow w2 w1.heap.size E sz v n xs) (o0 : World.ownsRow w2 w1.heap.size E sz v n xs) => (own_ch (own_ch (own_ch (own_ch (own_kp (own_ch (own_ch (own_kp o k33) k36 (ne2 o0 (p31))) k41 (ne1 o0 (Nat.lt_of_lt_of_le hgl k4.size))) k91) k96 (ne1 o0 (Nat.lt_of_lt_of_le hgl k4.size))) k107 (ne1 o0 (Nat.lt_of_lt_of_le hgl k4.size))) k125 (ne2 o0 (p31))) k130 (ne1 o0 (p3)))
  have o136 := (t135 _ _ _ _ _ o18 o18)
  refine ret_1 (.inl rfl) (va [(vi ((x9).N)), (vs a110 (x108).length c111), (vi ((x9).Seq)), (vi (((x9).Win).Top)), (vs a16 (((x9).Win).Bits).length c17)]) rfl (rv_c [(vi ((x9).N)), (vs a110 (x108).length c111), (vi ((x9).Seq)), (vi (((x9).Win).Top)), (vs a16 (((x9).Win).Bits).length c17)] rfl b131 isAgg_60 sizeOf_60) ?_
  have b137 := ((b118.ch k125 (Nat.ne_of_lt (Nat.lt_of_lt_of_le hgl (Nat.le_trans (z2 k4 k8) p31)))).ch k130 (Nat.ne_of_lt (Nat.lt_of_lt_of_le hgl (p2))))
  exact ⟨{ N := (x9).N, Key := (x108), Seq := (x9).Seq, Win := ((x9).Win) : PEp }, m133, ⟨_, _, b137, (Rd.chP hcr m133 hcn), hcl, (by omega), hcn⟩, ⟨_, _, _, _, rfl, (own_lo o134 (z7 k4 k8 k33 k36 k41 k91 k96)), s113, (own_lo o136 k4.size), s19, ⟨⟨(Ap.lt o18 o112 (z5 k33 k36 k41 k91 k96)).symm, trivial⟩, ⟨trivial, trivial⟩⟩⟩, trivial⟩
 have q138 := of_decide_eq_false h87
 refine cf h87 ?_
 refine sr ?_
 refine pu (vb (decide ((x42) = 2))) wN ?_
 refine aw (vb (decide ((x42) = 2))) ?_
 refine n2 ?_
 rcases bt (decide ((x42) = 2)) with h139 | h139
 ·have q140 := of_decide_eq_true h139
  refine ct h139 ?_
  refine wc_region ?_
  refine mw (vp g 0) ?_
  refine ltI ([(-1), 281474976710657] : List Int) wN slTy_56 ?_
  intro a141 c142 w6 k143 o144
  have m145 := ChG.extk m51 k143
  have b147 := (b46.kp k143)
  refine cl wN (C_spec_l1Int w6 g ca cc cb ⟨_, _, b147, (Rd.chP hcr m145 hcn), hcl, (by omega), hcn⟩ _ ([(-1), 281474976710657] : List Int) ⟨_, _, rfl, (Rd.of_own o144), (by simp), (fun _ z hz => by have h1 := (own_lt o144 z.block (by rw [hz]; rfl)).1; have h2 := Nat.lt_of_lt_of_le hgl (z5 k4 k8 k33 k36 k41); omega)⟩ (by simp)) ?_
  rintro _ w7 ⟨x149, k148, ⟨i151, h152, b153, r154, l155, p156, n157⟩, rfl, q150⟩
  have m158 := ChG.ext m145 k148 (fun k hk => .inl hk)
  have q150m : x149 = (-1) ∨ x149 = 281474976710657 := by simpa only [List.mem_cons, List.not_mem_nil, or_false] using q150
  refine pu (vp g30 2) wN ?_
  have b159 := (((b37.ch k41 (Ne.symm (Nat.ne_of_lt (Nat.lt_of_lt_of_le hgl (Nat.le_trans (z2 k4 k8) p31))))).kp k143).ch k148 (Ne.symm (Nat.ne_of_lt (Nat.lt_of_lt_of_le hgl (Nat.le_trans (z2 k4 k8) p31)))))
  refine st (vi (x149)) [(vi (x149))] [(vi ((x9).N)), (vs a11 ((x9).Key).length c12), (vi (x149)), (vi (((x9).Win).Top)), (vs a16 (((x9).Win).Bits).length c17)] wN sizeOf_3 b159 ?_
  intro w8 k160 b161 z162
  have m163 := ChG.ext m158 k160 (fun k hk => .inr (by subst hk; exact Nat.le_trans (z2 k4 k8) p31))
  refine wl_nil <| wq_blk_normal <| wq_then <| sr ?_
  refine lN [(vi ((x9).N)), (vs a11 ((x9).Key).length c12), (vi (x149)), (vi (((x9).Win).Top)), (vs a16 (((x9).Win).Bits).length c17)] wN isAgg_60 sizeOf_60 b161 ?_
  have b164 := (((((((b5.ch k8 (Ne.symm (Nat.ne_of_lt (Nat.lt_of_lt_of_le hgl (p2))))).kp k33).ch k36 (Nat.ne_of_lt (Nat.lt_of_lt_of_le p3 (Nat.le_trans k8.size p31)))).ch k41 (Ne.symm (Nat.ne_of_lt (Nat.lt_of_lt_of_le hgl (p2))))).kp k143).ch k148 (Ne.symm (Nat.ne_of_lt (Nat.lt_of_lt_of_le hgl (p2))))).ch k160 (Nat.ne_of_lt (Nat.lt_of_lt_of_le p3 (Nat.le_trans k8.size p31))))
  refine sv [(vi ((x9).N)), (vs a11 ((x9).Key).length c12), (vi (x149)), (vi (((x9).Win).Top)), (vs a16 (((x9).Win).Bits).length c17)] wN sizeOf_60 b164 ?_
  intro w9 k165 b166 z167
  have m168 := ChG.ext m163 k165 (fun k hk => .inr (by subst hk; exact p2))
  refine n3 ?_
  have t169 := fun (E sz n : Nat) (v : Value) (xs : List Value) (o : World.ownsRow w2 w1.heap.size E sz v n xs) (o0 : World.ownsRow w2 w1.heap.size E sz v n xs) => (own_ch (own_ch (own_ch (own_kp (own_ch (own_ch (own_kp o k33) k36 (ne2 o0 (p31))) k41 (ne1 o0 (Nat.lt_of_lt_of_le hgl k4.size))) k143) k148 (ne1 o0 (Nat.lt_of_lt_of_le hgl k4.size))) k160 (ne2 o0 (p31))) k165 (ne1 o0 (p3)))
  have o170 := (t169 _ _ _ _ _ o13 o13)
  have o171 := (t169 _ _ _ _ _ o18 o18)
  refine ret_1 (.inl rfl) (va [(vi ((x9).N)), (vs a11 ((x9).Key).length c12), (vi (x149)), (vi (((x9).Win).Top)), (vs a16 (((x9).Win).Bits).length c17)]) rfl (rv_c [(vi ((x9).N)), (vs a11 ((x9).Key).length c12), (vi (x149)), (vi (((x9).Win).Top)), (vs a16 (((x9).Win).Bits).length c17)] rfl b166 isAgg_60 sizeOf_60) ?_
  have b172 := ((b153.ch k160 (Nat.ne_of_lt (Nat.lt_of_lt_of_le hgl (Nat.le_trans (z2 k4 k8) p31)))).ch k165 (Nat.ne_of_lt (Nat.lt_of_lt_of_le hgl (p2))))
  exact ⟨{ N := (x9).N, Key := (x9).Key, Seq := (x149), Win := ((x9).Win) : PEp }, m168, ⟨_, _, b172, (Rd.chP hcr m168 hcn), hcl, (by omega), hcn⟩, ⟨_, _, _, _, rfl, (own_lo o170 k4.size), s14, (own_lo o171 k4.size), s19, ⟨⟨(ap21.1.1), trivial⟩, ⟨trivial, trivial⟩⟩⟩, trivial⟩
 have q173 := of_decide_eq_false h139
 refine cf h139 ?_
 refine sr ?_
 refine pu (vb (decide ((x42) = 3))) wN ?_
 refine aw (vb (decide ((x42) = 3))) ?_
 refine n2 ?_
 rcases bf (decide ((x42) = 3)) with h174 | h174
 ·have q207 := of_decide_eq_false h174
  refine cf h174 ?_
  refine wc_skip <| wq_blk_normal <| wq_then <| sr ?_
  have b208 := (b37.ch k41 (Ne.symm (Nat.ne_of_lt (Nat.lt_of_lt_of_le hgl (Nat.le_trans (z2 k4 k8) p31)))))
  refine lN (L_60 (x9) a11 c12 a16 c17) wN isAgg_60 sizeOf_60 b208 ?_
  have b209 := ((((b5.ch k8 (Ne.symm (Nat.ne_of_lt (Nat.lt_of_lt_of_le hgl (p2))))).kp k33).ch k36 (Nat.ne_of_lt (Nat.lt_of_lt_of_le p3 (Nat.le_trans k8.size p31)))).ch k41 (Ne.symm (Nat.ne_of_lt (Nat.lt_of_lt_of_le hgl (p2)))))
  refine sv (L_60 (x9) a11 c12 a16 c17) wN sizeOf_60 b209 ?_
  intro w6 k210 b211 z212
  have m213 := ChG.ext m51 k210 (fun k hk => .inr (by subst hk; exact p2))
  refine n3 ?_
  have t214 := fun (E sz n : Nat) (v : Value) (xs : List Value) (o : World.ownsRow w2 w1.heap.size E sz v n xs) (o0 : World.ownsRow w2 w1.heap.size E sz v n xs) => (own_ch (own_ch (own_ch (own_kp o k33) k36 (ne2 o0 (p31))) k41 (ne1 o0 (Nat.lt_of_lt_of_le hgl k4.size))) k210 (ne1 o0 (p3)))
  have o215 := (t214 _ _ _ _ _ o13 o13)
  have o216 := (t214 _ _ _ _ _ o18 o18)
  refine ret_1 (.inl rfl) (va (L_60 (x9) a11 c12 a16 c17)) rfl (rv_c (L_60 (x9) a11 c12 a16 c17) rfl b211 isAgg_60 sizeOf_60) ?_
  have b217 := (b46.ch k210 (Nat.ne_of_lt (Nat.lt_of_lt_of_le hgl (p2))))
  exact ⟨(x9), m213, ⟨_, _, b217, (Rd.chP hcr m213 hcn), hcl, (by omega), hcn⟩, ⟨_, _, _, _, rfl, (own_lo o215 k4.size), s14, (own_lo o216 k4.size), s19, ⟨⟨(ap21.1.1), trivial⟩, ⟨trivial, trivial⟩⟩⟩, trivial⟩
 have q175 := of_decide_eq_true h174
 refine ct h174 ?_
 refine wc_region ?_
 refine mw (vp g 0) ?_
 refine cl wN (C_spec_l8Any w5 g ca cc cb ⟨_, _, b46, (Rd.chP hcr m51 hcn), hcl, (by omega), hcn⟩) ?_
 rintro _ w6 ⟨x177, k176, ⟨i185, h186, b187, r188, l189, p190, n191⟩, ⟨a179, c180, rfl, o181, s182, ap184⟩, q178⟩
 have m192 := ChG.ext m51 k176 (fun k hk => .inl hk)
 refine pu (vp g30 3) wN ?_
 have b193 := ((b37.ch k41 (Ne.symm (Nat.ne_of_lt (Nat.lt_of_lt_of_le hgl (Nat.le_trans (z2 k4 k8) p31))))).ch k176 (Ne.symm (Nat.ne_of_lt (Nat.lt_of_lt_of_le hgl (Nat.le_trans (z2 k4 k8) p31)))))
 refine st (va (L_58 (x177) a179 c180)) (L_58 (x177) a179 c180) [(vi ((x9).N)), (vs a11 ((x9).Key).length c12), (vi ((x9).Seq)), (vi ((x177).Top)), (vs a179 ((x177).Bits).length c180)] wN sizeOf_58 b193 ?_
 intro w7 k194 b195 z196
 have m197 := ChG.ext m192 k194 (fun k hk => .inr (by subst hk; exact Nat.le_trans (z2 k4 k8) p31))
 refine wl_nil <| wq_blk_normal <| wq_then <| sr ?_
 refine lN [(vi ((x9).N)), (vs a11 ((x9).Key).length c12), (vi ((x9).Seq)), (vi ((x177).Top)), (vs a179 ((x177).Bits).length c180)] wN isAgg_60 sizeOf_60 b195 ?_
 have b198 := ((((((b5.ch k8 (Ne.symm (Nat.ne_of_lt (Nat.lt_of_lt_of_le hgl (p2))))).kp k33).ch k36 (Nat.ne_of_lt (Nat.lt_of_lt_of_le p3 (Nat.le_trans k8.size p31)))).ch k41 (Ne.symm (Nat.ne_of_lt (Nat.lt_of_lt_of_le hgl (p2))))).ch k176 (Ne.symm (Nat.ne_of_lt (Nat.lt_of_lt_of_le hgl (p2))))).ch k194 (Nat.ne_of_lt (Nat.lt_of_lt_of_le p3 (Nat.le_trans k8.size p31))))
 refine sv [(vi ((x9).N)), (vs a11 ((x9).Key).length c12), (vi ((x9).Seq)), (vi ((x177).Top)), (vs a179 ((x177).Bits).length c180)] wN sizeOf_60 b198 ?_
 intro w8 k199 b200 z201
 have m202 := ChG.ext m197 k199 (fun k hk => .inr (by subst hk; exact p2))
 refine n3 ?_
 have t203 := fun (E sz n : Nat) (v : Value) (xs : List Value) (o : World.ownsRow w2 w1.heap.size E sz v n xs) (o0 : World.ownsRow w2 w1.heap.size E sz v n xs) => (own_ch (own_ch (own_ch (own_ch (own_ch (own_kp o k33) k36 (ne2 o0 (p31))) k41 (ne1 o0 (Nat.lt_of_lt_of_le hgl k4.size))) k176 (ne1 o0 (Nat.lt_of_lt_of_le hgl k4.size))) k194 (ne2 o0 (p31))) k199 (ne1 o0 (p3)))
 have o204 := (t203 _ _ _ _ _ o13 o13)
 have o205 := (own_ch (own_ch o181 k194 (ne1 o181 (Nat.lt_of_lt_of_le p32 (z2 k36 k41)))) k199 (ne1 o181 (Nat.lt_of_lt_of_le p3 (z4 k8 k33 k36 k41))))
 refine ret_1 (.inl rfl) (va [(vi ((x9).N)), (vs a11 ((x9).Key).length c12), (vi ((x9).Seq)), (vi ((x177).Top)), (vs a179 ((x177).Bits).length c180)]) rfl (rv_c [(vi ((x9).N)), (vs a11 ((x9).Key).length c12), (vi ((x9).Seq)), (vi ((x177).Top)), (vs a179 ((x177).Bits).length c180)] rfl b200 isAgg_60 sizeOf_60) ?_
 have b206 := ((b187.ch k194 (Nat.ne_of_lt (Nat.lt_of_lt_of_le hgl (Nat.le_trans (z2 k4 k8) p31)))).ch k199 (Nat.ne_of_lt (Nat.lt_of_lt_of_le hgl (p2))))
 exact ⟨{ N := (x9).N, Key := (x9).Key, Seq := (x9).Seq, Win := (x177) : PEp }, m202, ⟨_, _, b206, (Rd.chP hcr m202 hcn), hcl, (by omega), hcn⟩, ⟨_, _, _, _, rfl, (own_lo o204 k4.size), s14, (own_lo o205 (z5 k4 k8 k33 k36 k41)), s182, ⟨⟨(Ap.lt o13 o181 (z3 k33 k36 k41)), trivial⟩, ⟨trivial, trivial⟩⟩⟩, trivial⟩

theorem isAgg_4 : ∀ w, (isAgg 4).run Try.prog w = .ok false w := fun w => by kernel_rfl
theorem C_spec_l14Any (w0 : World) (g : Nat) (ca : Option Addr) (cc : Nat) (cb : List UInt8) (r_c : CurX w0 g 111 ca cc cb)  : Fn Try.prog 76 #[(vp g 0)] w0 (fun v w' => ∃ x : (PChan), Ch (fun k => k = g) w0 w' ∧ CurX w' g 111 ca cc cb ∧ O_62 w' w0.heap.size v x ∧ (True)) := by
 obtain ⟨ci, chh, hcb, hcr, hcl, hci, hcn⟩ := r_c
 have hgl := Blk.lt hcb
 refine fn_ofS (n := 52) [(vp g 0)] Try.func76 rfl rfl ?_
 refine sr ?_
 refine al Z_62 wN zero_62 ?_
 intro g1 w1 p2 p3 k4 b5
 have m6 := ChG.extk (Ch.refl (fun k => k = g) w0) k4
 refine nx ?_
 refine mw (vp g 0) ?_
 refine mw (vp g 0) ?_
 have b7 := (hcb.kp k4)
 refine cl wN (C_spec_l1Below w1 g ca cc cb ⟨_, _, b7, (Rd.chP hcr m6 hcn), hcl, (by omega), hcn⟩ 2) ?_
 rintro _ w2 ⟨x9, k8, ⟨i11, h12, b13, r14, l15, p16, n17⟩, rfl, q10⟩
 have m18 := ChG.ext m6 k8 (fun k hk => .inl hk)
 refine cl wN (C_spec_l14Draw w2 g ca cc cb ⟨_, _, b13, (Rd.chP hcr m18 hcn), hcl, (by omega), hcn⟩ (x9)) ?_
 rintro _ w3 ⟨x20, k19, ⟨i53, h54, b55, r56, l57, p58, n59⟩, ⟨a22, c23, a27, c28, a32, c33, a37, c38, a42, c43, a47, c48, rfl, o24, s25, o29, s30, o34, s35, o39, s40, o44, s45, o49, s50, ap52⟩, q21⟩
 have m60 := ChG.ext m18 k19 (fun k hk => .inl hk)
 refine al Z_62 wN zero_62 ?_
 intro g61 w4 p62 p63 k64 b65
 have m66 := ChG.extk m60 k64
 refine sv (L_62 (x20) a22 c23 a27 c28 a32 c33 a37 c38 a42 c43 a47 c48) wN sizeOf_62 b65 ?_
 intro w5 k67 b68 z69
 have m70 := ChG.ext m66 k67 (fun k hk => .inr (by subst hk; exact Nat.le_trans (z3 k4 k8 k19) p62))
 refine n4 ?_
 refine mw (vp g 0) ?_
 have b71 := ((b55.kp k64).ch k67 (Nat.ne_of_lt (Nat.lt_of_lt_of_le hgl (Nat.le_trans (z3 k4 k8 k19) p62))))
 refine cl wN (C_spec_l1Below w5 g ca cc cb ⟨_, _, b71, (Rd.chP hcr m70 hcn), hcl, (by omega), hcn⟩ 20) ?_
 rintro _ w6 ⟨x73, k72, ⟨i75, h76, b77, r78, l79, p80, n81⟩, rfl, q74⟩
 have m82 := ChG.ext m70 k72 (fun k hk => .inl hk)
 refine wl_nil <| wq_then <| wc_block <| sr ?_
 refine pu (vb (decide ((x73) = 0))) wN ?_
 refine aw (vb (decide ((x73) = 0))) ?_
 refine n2 ?_
 rcases bt (decide ((x73) = 0)) with h83 | h83
 ·have q84 := of_decide_eq_true h83
  refine ct h83 ?_
  refine wc_region ?_
  refine mw (vp g 0) ?_
  refine ltI ([(-1), 0, 1, 2] : List Int) wN slTy_56 ?_
  intro a85 c86 w7 k87 o88
  have m89 := ChG.extk m82 k87
  have b91 := (b77.kp k87)
  refine cl wN (C_spec_l1Int w7 g ca cc cb ⟨_, _, b91, (Rd.chP hcr m89 hcn), hcl, (by omega), hcn⟩ _ ([(-1), 0, 1, 2] : List Int) ⟨_, _, rfl, (Rd.of_own o88), (by simp), (fun _ z hz => by have h1 := (own_lt o88 z.block (by rw [hz]; rfl)).1; have h2 := Nat.lt_of_lt_of_le hgl (z6 k4 k8 k19 k64 k67 k72); omega)⟩ (by simp)) ?_
  rintro _ w8 ⟨x93, k92, ⟨i95, h96, b97, r98, l99, p100, n101⟩, rfl, q94⟩
  have m102 := ChG.ext m89 k92 (fun k hk => .inl hk)
  have q94m : x93 = (-1) ∨ x93 = 0 ∨ x93 = 1 ∨ x93 = 2 := by simpa only [List.mem_cons, List.not_mem_nil, or_false] using q94
  refine pu (vp g61 0) wN ?_
  have b103 := (((b68.ch k72 (Ne.symm (Nat.ne_of_lt (Nat.lt_of_lt_of_le hgl (Nat.le_trans (z3 k4 k8 k19) p62))))).kp k87).ch k92 (Ne.symm (Nat.ne_of_lt (Nat.lt_of_lt_of_le hgl (Nat.le_trans (z3 k4 k8 k19) p62)))))
  refine st (vi (x93)) [(vi (x93))] [(vi (x93)), (vs a22 ((x20).Sn).length c23), (vi (((x20).Cur).N)), (vs a27 (((x20).Cur).Key).length c28), (vi (((x20).Cur).Seq)), (vi ((((x20).Cur).Win).Top)), (vs a32 ((((x20).Cur).Win).Bits).length c33), (vi (((x20).Old).N)), (vs a37 (((x20).Old).Key).length c38), (vi (((x20).Old).Seq)), (vi ((((x20).Old).Win).Top)), (vs a42 ((((x20).Old).Win).Bits).length c43), (vb ((x20).HasOld)), (vi ((x20).Until)), (vs a47 ((x20).Next).length c48)] wN sizeOf_3 b103 ?_
  intro w9 k104 b105 z106
  have m107 := ChG.ext m102 k104 (fun k hk => .inr (by subst hk; exact Nat.le_trans (z3 k4 k8 k19) p62))
  refine wl_nil <| wq_blk_normal <| wq_then <| sr ?_
  refine lN [(vi (x93)), (vs a22 ((x20).Sn).length c23), (vi (((x20).Cur).N)), (vs a27 (((x20).Cur).Key).length c28), (vi (((x20).Cur).Seq)), (vi ((((x20).Cur).Win).Top)), (vs a32 ((((x20).Cur).Win).Bits).length c33), (vi (((x20).Old).N)), (vs a37 (((x20).Old).Key).length c38), (vi (((x20).Old).Seq)), (vi ((((x20).Old).Win).Top)), (vs a42 ((((x20).Old).Win).Bits).length c43), (vb ((x20).HasOld)), (vi ((x20).Until)), (vs a47 ((x20).Next).length c48)] wN isAgg_62 sizeOf_62 b105 ?_
  have b108 := ((((((((b5.ch k8 (Ne.symm (Nat.ne_of_lt (Nat.lt_of_lt_of_le hgl (p2))))).ch k19 (Ne.symm (Nat.ne_of_lt (Nat.lt_of_lt_of_le hgl (p2))))).kp k64).ch k67 (Nat.ne_of_lt (Nat.lt_of_lt_of_le p3 (Nat.le_trans (z2 k8 k19) p62)))).ch k72 (Ne.symm (Nat.ne_of_lt (Nat.lt_of_lt_of_le hgl (p2))))).kp k87).ch k92 (Ne.symm (Nat.ne_of_lt (Nat.lt_of_lt_of_le hgl (p2))))).ch k104 (Nat.ne_of_lt (Nat.lt_of_lt_of_le p3 (Nat.le_trans (z2 k8 k19) p62))))
  refine sv [(vi (x93)), (vs a22 ((x20).Sn).length c23), (vi (((x20).Cur).N)), (vs a27 (((x20).Cur).Key).length c28), (vi (((x20).Cur).Seq)), (vi ((((x20).Cur).Win).Top)), (vs a32 ((((x20).Cur).Win).Bits).length c33), (vi (((x20).Old).N)), (vs a37 (((x20).Old).Key).length c38), (vi (((x20).Old).Seq)), (vi ((((x20).Old).Win).Top)), (vs a42 ((((x20).Old).Win).Bits).length c43), (vb ((x20).HasOld)), (vi ((x20).Until)), (vs a47 ((x20).Next).length c48)] wN sizeOf_62 b108 ?_
  intro w10 k109 b110 z111
  have m112 := ChG.ext m107 k109 (fun k hk => .inr (by subst hk; exact p2))
  refine n3 ?_
  have t113 := fun (E sz n : Nat) (v : Value) (xs : List Value) (o : World.ownsRow w3 w2.heap.size E sz v n xs) (o0 : World.ownsRow w3 w2.heap.size E sz v n xs) => (own_ch (own_ch (own_ch (own_kp (own_ch (own_ch (own_kp o k64) k67 (ne2 o0 (p62))) k72 (ne1 o0 (Nat.lt_of_lt_of_le hgl (z2 k4 k8)))) k87) k92 (ne1 o0 (Nat.lt_of_lt_of_le hgl (z2 k4 k8)))) k104 (ne2 o0 (p62))) k109 (ne1 o0 (Nat.lt_of_lt_of_le p3 k8.size)))
  have o114 := (t113 _ _ _ _ _ o24 o24)
  have o115 := (t113 _ _ _ _ _ o29 o29)
  have o116 := (t113 _ _ _ _ _ o34 o34)
  have o117 := (t113 _ _ _ _ _ o39 o39)
  have o118 := (t113 _ _ _ _ _ o44 o44)
  have o119 := (t113 _ _ _ _ _ o49 o49)
  refine ret_1 (.inl rfl) (va [(vi (x93)), (vs a22 ((x20).Sn).length c23), (vi (((x20).Cur).N)), (vs a27 (((x20).Cur).Key).length c28), (vi (((x20).Cur).Seq)), (vi ((((x20).Cur).Win).Top)), (vs a32 ((((x20).Cur).Win).Bits).length c33), (vi (((x20).Old).N)), (vs a37 (((x20).Old).Key).length c38), (vi (((x20).Old).Seq)), (vi ((((x20).Old).Win).Top)), (vs a42 ((((x20).Old).Win).Bits).length c43), (vb ((x20).HasOld)), (vi ((x20).Until)), (vs a47 ((x20).Next).length c48)]) rfl (rv_c [(vi (x93)), (vs a22 ((x20).Sn).length c23), (vi (((x20).Cur).N)), (vs a27 (((x20).Cur).Key).length c28), (vi (((x20).Cur).Seq)), (vi ((((x20).Cur).Win).Top)), (vs a32 ((((x20).Cur).Win).Bits).length c33), (vi (((x20).Old).N)), (vs a37 (((x20).Old).Key).length c38), (vi (((x20).Old).Seq)), (vi ((((x20).Old).Win).Top)), (vs a42 ((((x20).Old).Win).Bits).length c43), (vb ((x20).HasOld)), (vi ((x20).Until)), (vs a47 ((x20).Next).length c48)] rfl b110 isAgg_62 sizeOf_62) ?_
  have b120 := ((b97.ch k104 (Nat.ne_of_lt (Nat.lt_of_lt_of_le hgl (Nat.le_trans (z3 k4 k8 k19) p62)))).ch k109 (Nat.ne_of_lt (Nat.lt_of_lt_of_le hgl (p2))))
  exact ⟨{ Role := (x93), Sn := (x20).Sn, Cur := ((x20).Cur), Old := ((x20).Old), HasOld := (x20).HasOld, Until := (x20).Until, Next := (x20).Next : PChan }, m112, ⟨_, _, b120, (Rd.chP hcr m112 hcn), hcl, (by omega), hcn⟩, ⟨_, _, _, _, _, _, _, _, _, _, _, _, rfl, (own_lo o114 (z2 k4 k8)), s25, (own_lo o115 (z2 k4 k8)), s30, (own_lo o116 (z2 k4 k8)), s35, (own_lo o117 (z2 k4 k8)), s40, (own_lo o118 (z2 k4 k8)), s45, (own_lo o119 (z2 k4 k8)), s50, ⟨⟨(ap52.1.1), ⟨(ap52.1.2.1), ⟨(ap52.1.2.2.1), ⟨(ap52.1.2.2.2.1), ⟨(ap52.1.2.2.2.2.1), trivial⟩⟩⟩⟩⟩, ⟨⟨(ap52.2.1.1), ⟨(ap52.2.1.2.1), ⟨(ap52.2.1.2.2.1), ⟨(ap52.2.1.2.2.2.1), trivial⟩⟩⟩⟩, ⟨⟨(ap52.2.2.1.1), ⟨(ap52.2.2.1.2.1), ⟨(ap52.2.2.1.2.2.1), trivial⟩⟩⟩, ⟨⟨(ap52.2.2.2.1.1), ⟨(ap52.2.2.2.1.2.1), trivial⟩⟩, ⟨⟨(ap52.2.2.2.2.1.1), trivial⟩, ⟨trivial, trivial⟩⟩⟩⟩⟩⟩⟩, trivial⟩
 have q121 := of_decide_eq_false h83
 refine cf h83 ?_
 refine sr ?_
 refine pu (vb (decide ((x73) = 1))) wN ?_
 refine aw (vb (decide ((x73) = 1))) ?_
 refine n2 ?_
 rcases bt (decide ((x73) = 1)) with h122 | h122
 ·have q123 := of_decide_eq_true h122
  refine ct h122 ?_
  refine wc_region ?_
  refine mw (vp g 0) ?_
  refine cl wN (C_spec_l1Bytes w6 g ca cc cb ⟨_, _, b77, (Rd.chP hcr m82 hcn), hcl, (by omega), hcn⟩ 11 (by omega)) ?_
  rintro _ w7 ⟨x125, k124, ⟨i133, h134, b135, r136, l137, p138, n139⟩, ⟨a127, c128, rfl, o129, s130, ap132⟩, q126⟩
  have m140 := ChG.ext m82 k124 (fun k hk => .inl hk)
  refine pu (vp g61 1) wN ?_
  have b141 := ((b68.ch k72 (Ne.symm (Nat.ne_of_lt (Nat.lt_of_lt_of_le hgl (Nat.le_trans (z3 k4 k8 k19) p62))))).ch k124 (Ne.symm (Nat.ne_of_lt (Nat.lt_of_lt_of_le hgl (Nat.le_trans (z3 k4 k8 k19) p62)))))
  refine st (vs a127 (x125).length c128) [(vs a127 (x125).length c128)] [(vi ((x20).Role)), (vs a127 (x125).length c128), (vi (((x20).Cur).N)), (vs a27 (((x20).Cur).Key).length c28), (vi (((x20).Cur).Seq)), (vi ((((x20).Cur).Win).Top)), (vs a32 ((((x20).Cur).Win).Bits).length c33), (vi (((x20).Old).N)), (vs a37 (((x20).Old).Key).length c38), (vi (((x20).Old).Seq)), (vi ((((x20).Old).Win).Top)), (vs a42 ((((x20).Old).Win).Bits).length c43), (vb ((x20).HasOld)), (vi ((x20).Until)), (vs a47 ((x20).Next).length c48)] wN sizeOf_22 b141 ?_
  intro w8 k142 b143 z144
  have m145 := ChG.ext m140 k142 (fun k hk => .inr (by subst hk; exact Nat.le_trans (z3 k4 k8 k19) p62))
  refine wl_nil <| wq_blk_normal <| wq_then <| sr ?_
  refine lN [(vi ((x20).Role)), (vs a127 (x125).length c128), (vi (((x20).Cur).N)), (vs a27 (((x20).Cur).Key).length c28), (vi (((x20).Cur).Seq)), (vi ((((x20).Cur).Win).Top)), (vs a32 ((((x20).Cur).Win).Bits).length c33), (vi (((x20).Old).N)), (vs a37 (((x20).Old).Key).length c38), (vi (((x20).Old).Seq)), (vi ((((x20).Old).Win).Top)), (vs a42 ((((x20).Old).Win).Bits).length c43), (vb ((x20).HasOld)), (vi ((x20).Until)), (vs a47 ((x20).Next).length c48)] wN isAgg_62 sizeOf_62 b143 ?_
  have b146 := (((((((b5.ch k8 (Ne.symm (Nat.ne_of_lt (Nat.lt_of_lt_of_le hgl (p2))))).ch k19 (Ne.symm (Nat.ne_of_lt (Nat.lt_of_lt_of_le hgl (p2))))).kp k64).ch k67 (Nat.ne_of_lt (Nat.lt_of_lt_of_le p3 (Nat.le_trans (z2 k8 k19) p62)))).ch k72 (Ne.symm (Nat.ne_of_lt (Nat.lt_of_lt_of_le hgl (p2))))).ch k124 (Ne.symm (Nat.ne_of_lt (Nat.lt_of_lt_of_le hgl (p2))))).ch k142 (Nat.ne_of_lt (Nat.lt_of_lt_of_le p3 (Nat.le_trans (z2 k8 k19) p62))))
  refine sv [(vi ((x20).Role)), (vs a127 (x125).length c128), (vi (((x20).Cur).N)), (vs a27 (((x20).Cur).Key).length c28), (vi (((x20).Cur).Seq)), (vi ((((x20).Cur).Win).Top)), (vs a32 ((((x20).Cur).Win).Bits).length c33), (vi (((x20).Old).N)), (vs a37 (((x20).Old).Key).length c38), (vi (((x20).Old).Seq)), (vi ((((x20).Old).Win).Top)), (vs a42 ((((x20).Old).Win).Bits).length c43), (vb ((x20).HasOld)), (vi ((x20).Until)), (vs a47 ((x20).Next).length c48)] wN sizeOf_62 b146 ?_
  intro w9 k147 b148 z149
  have m150 := ChG.ext m145 k147 (fun k hk => .inr (by subst hk; exact p2))
  refine n3 ?_
  have o151 := (own_ch (own_ch o129 k142 (ne1 o129 (Nat.lt_of_lt_of_le p63 (z2 k67 k72)))) k147 (ne1 o129 (Nat.lt_of_lt_of_le p3 (z5 k8 k19 k64 k67 k72))))
  have t152 := fun (E sz n : Nat) (v : Value) (xs : List Value) (o : World.ownsRow w3 w2.heap.size E sz v n xs) (o0 : World.ownsRow w3 w2.heap.size E sz v n xs) => (own_ch (own_ch (own_ch (own_ch (own_ch (own_kp o k64) k67 (ne2 o0 (p62))) k72 (ne1 o0 (Nat.lt_of_lt_of_le hgl (z2 k4 k8)))) k124 (ne1 o0 (Nat.lt_of_lt_of_le hgl (z2 k4 k8)))) k142 (ne2 o0 (p62))) k147 (ne1 o0 (Nat.lt_of_lt_of_le p3 k8.size)))
  have o153 := (t152 _ _ _ _ _ o29 o29)
  have o154 := (t152 _ _ _ _ _ o34 o34)
  have o155 := (t152 _ _ _ _ _ o39 o39)
  have o156 := (t152 _ _ _ _ _ o44 o44)
  have o157 := (t152 _ _ _ _ _ o49 o49)
  refine ret_1 (.inl rfl) (va [(vi ((x20).Role)), (vs a127 (x125).length c128), (vi (((x20).Cur).N)), (vs a27 (((x20).Cur).Key).length c28), (vi (((x20).Cur).Seq)), (vi ((((x20).Cur).Win).Top)), (vs a32 ((((x20).Cur).Win).Bits).length c33), (vi (((x20).Old).N)), (vs a37 (((x20).Old).Key).length c38), (vi (((x20).Old).Seq)), (vi ((((x20).Old).Win).Top)), (vs a42 ((((x20).Old).Win).Bits).length c43), (vb ((x20).HasOld)), (vi ((x20).Until)), (vs a47 ((x20).Next).length c48)]) rfl (rv_c [(vi ((x20).Role)), (vs a127 (x125).length c128), (vi (((x20).Cur).N)), (vs a27 (((x20).Cur).Key).length c28), (vi (((x20).Cur).Seq)), (vi ((((x20).Cur).Win).Top)), (vs a32 ((((x20).Cur).Win).Bits).length c33), (vi (((x20).Old).N)), (vs a37 (((x20).Old).Key).length c38), (vi (((x20).Old).Seq)), (vi ((((x20).Old).Win).Top)), (vs a42 ((((x20).Old).Win).Bits).length c43), (vb ((x20).HasOld)), (vi ((x20).Until)), (vs a47 ((x20).Next).length c48)] rfl b148 isAgg_62 sizeOf_62) ?_
  have b158 := ((b135.ch k142 (Nat.ne_of_lt (Nat.lt_of_lt_of_le hgl (Nat.le_trans (z3 k4 k8 k19) p62)))).ch k147 (Nat.ne_of_lt (Nat.lt_of_lt_of_le hgl (p2))))
  exact ⟨{ Role := (x20).Role, Sn := (x125), Cur := ((x20).Cur), Old := ((x20).Old), HasOld := (x20).HasOld, Until := (x20).Until, Next := (x20).Next : PChan }, m150, ⟨_, _, b158, (Rd.chP hcr m150 hcn), hcl, (by omega), hcn⟩, ⟨_, _, _, _, _, _, _, _, _, _, _, _, rfl, (own_lo o151 (z6 k4 k8 k19 k64 k67 k72)), s130, (own_lo o153 (z2 k4 k8)), s30, (own_lo o154 (z2 k4 k8)), s35, (own_lo o155 (z2 k4 k8)), s40, (own_lo o156 (z2 k4 k8)), s45, (own_lo o157 (z2 k4 k8)), s50, ⟨⟨(Ap.lt o29 o129 (z3 k64 k67 k72)).symm, ⟨(Ap.lt o34 o129 (z3 k64 k67 k72)).symm, ⟨(Ap.lt o39 o129 (z3 k64 k67 k72)).symm, ⟨(Ap.lt o44 o129 (z3 k64 k67 k72)).symm, ⟨(Ap.lt o49 o129 (z3 k64 k67 k72)).symm, trivial⟩⟩⟩⟩⟩, ⟨⟨(ap52.2.1.1), ⟨(ap52.2.1.2.1), ⟨(ap52.2.1.2.2.1), ⟨(ap52.2.1.2.2.2.1), trivial⟩⟩⟩⟩, ⟨⟨(ap52.2.2.1.1), ⟨(ap52.2.2.1.2.1), ⟨(ap52.2.2.1.2.2.1), trivial⟩⟩⟩, ⟨⟨(ap52.2.2.2.1.1), ⟨(ap52.2.2.2.1.2.1), trivial⟩⟩, ⟨⟨(ap52.2.2.2.2.1.1), trivial⟩, ⟨trivial, trivial⟩⟩⟩⟩⟩⟩⟩, trivial⟩
 have q159 := of_decide_eq_false h122
 refine cf h122 ?_
 refine sr ?_
 refine pu (vb (decide ((x73) = 2))) wN ?_
 refine aw (vb (decide ((x73) = 2))) ?_
 refine n2 ?_
 rcases bt (decide ((x73) = 2)) with h160 | h160
 ·have q161 := of_decide_eq_true h160
  refine ct h160 ?_
  refine wc_region ?_
  refine mw (vp g 0) ?_
  refine cl wN (C_spec_l9Any w6 g ca cc cb ⟨_, _, b77, (Rd.chP hcr m82 hcn), hcl, (by omega), hcn⟩) ?_
  rintro _ w7 ⟨x163, k162, ⟨i176, h177, b178, r179, l180, p181, n182⟩, ⟨a165, c166, a170, c171, rfl, o167, s168, o172, s173, ap175⟩, q164⟩
  have m183 := ChG.ext m82 k162 (fun k hk => .inl hk)
  refine pu (vp g61 2) wN ?_
  have b184 := ((b68.ch k72 (Ne.symm (Nat.ne_of_lt (Nat.lt_of_lt_of_le hgl (Nat.le_trans (z3 k4 k8 k19) p62))))).ch k162 (Ne.symm (Nat.ne_of_lt (Nat.lt_of_lt_of_le hgl (Nat.le_trans (z3 k4 k8 k19) p62)))))
  refine st (va (L_60 (x163) a165 c166 a170 c171)) (L_60 (x163) a165 c166 a170 c171) [(vi ((x20).Role)), (vs a22 ((x20).Sn).length c23), (vi ((x163).N)), (vs a165 ((x163).Key).length c166), (vi ((x163).Seq)), (vi (((x163).Win).Top)), (vs a170 (((x163).Win).Bits).length c171), (vi (((x20).Old).N)), (vs a37 (((x20).Old).Key).length c38), (vi (((x20).Old).Seq)), (vi ((((x20).Old).Win).Top)), (vs a42 ((((x20).Old).Win).Bits).length c43), (vb ((x20).HasOld)), (vi ((x20).Until)), (vs a47 ((x20).Next).length c48)] wN sizeOf_60 b184 ?_
  intro w8 k185 b186 z187
  have m188 := ChG.ext m183 k185 (fun k hk => .inr (by subst hk; exact Nat.le_trans (z3 k4 k8 k19) p62))
  refine wl_nil <| wq_blk_normal <| wq_then <| sr ?_
  refine lN [(vi ((x20).Role)), (vs a22 ((x20).Sn).length c23), (vi ((x163).N)), (vs a165 ((x163).Key).length c166), (vi ((x163).Seq)), (vi (((x163).Win).Top)), (vs a170 (((x163).Win).Bits).length c171), (vi (((x20).Old).N)), (vs a37 (((x20).Old).Key).length c38), (vi (((x20).Old).Seq)), (vi ((((x20).Old).Win).Top)), (vs a42 ((((x20).Old).Win).Bits).length c43), (vb ((x20).HasOld)), (vi ((x20).Until)), (vs a47 ((x20).Next).length c48)] wN isAgg_62 sizeOf_62 b186 ?_
  have b189 := (((((((b5.ch k8 (Ne.symm (Nat.ne_of_lt (Nat.lt_of_lt_of_le hgl (p2))))).ch k19 (Ne.symm (Nat.ne_of_lt (Nat.lt_of_lt_of_le hgl (p2))))).kp k64).ch k67 (Nat.ne_of_lt (Nat.lt_of_lt_of_le p3 (Nat.le_trans (z2 k8 k19) p62)))).ch k72 (Ne.symm (Nat.ne_of_lt (Nat.lt_of_lt_of_le hgl (p2))))).ch k162 (Ne.symm (Nat.ne_of_lt (Nat.lt_of_lt_of_le hgl (p2))))).ch k185 (Nat.ne_of_lt (Nat.lt_of_lt_of_le p3 (Nat.le_trans (z2 k8 k19) p62))))
  refine sv [(vi ((x20).Role)), (vs a22 ((x20).Sn).length c23), (vi ((x163).N)), (vs a165 ((x163).Key).length c166), (vi ((x163).Seq)), (vi (((x163).Win).Top)), (vs a170 (((x163).Win).Bits).length c171), (vi (((x20).Old).N)), (vs a37 (((x20).Old).Key).length c38), (vi (((x20).Old).Seq)), (vi ((((x20).Old).Win).Top)), (vs a42 ((((x20).Old).Win).Bits).length c43), (vb ((x20).HasOld)), (vi ((x20).Until)), (vs a47 ((x20).Next).length c48)] wN sizeOf_62 b189 ?_
  intro w9 k190 b191 z192
  have m193 := ChG.ext m188 k190 (fun k hk => .inr (by subst hk; exact p2))
  refine n3 ?_
  have t194 := fun (E sz n : Nat) (v : Value) (xs : List Value) (o : World.ownsRow w3 w2.heap.size E sz v n xs) (o0 : World.ownsRow w3 w2.heap.size E sz v n xs) => (own_ch (own_ch (own_ch (own_ch (own_ch (own_kp o k64) k67 (ne2 o0 (p62))) k72 (ne1 o0 (Nat.lt_of_lt_of_le hgl (z2 k4 k8)))) k162 (ne1 o0 (Nat.lt_of_lt_of_le hgl (z2 k4 k8)))) k185 (ne2 o0 (p62))) k190 (ne1 o0 (Nat.lt_of_lt_of_le p3 k8.size)))
  have o195 := (t194 _ _ _ _ _ o24 o24)
  have t196 := fun (E sz n : Nat) (v : Value) (xs : List Value) (o : World.ownsRow w7 w6.heap.size E sz v n xs) (o0 : World.ownsRow w7 w6.heap.size E sz v n xs) => (own_ch (own_ch o k185 (ne1 o0 (Nat.lt_of_lt_of_le p63 (z2 k67 k72)))) k190 (ne1 o0 (Nat.lt_of_lt_of_le p3 (z5 k8 k19 k64 k67 k72))))
  have o197 := (t196 _ _ _ _ _ o167 o167)
  have o198 := (t196 _ _ _ _ _ o172 o172)
  have o199 := (t194 _ _ _ _ _ o39 o39)
  have o200 := (t194 _ _ _ _ _ o44 o44)
  have o201 := (t194 _ _ _ _ _ o49 o49)
  refine ret_1 (.inl rfl) (va [(vi ((x20).Role)), (vs a22 ((x20).Sn).length c23), (vi ((x163).N)), (vs a165 ((x163).Key).length c166), (vi ((x163).Seq)), (vi (((x163).Win).Top)), (vs a170 (((x163).Win).Bits).length c171), (vi (((x20).Old).N)), (vs a37 (((x20).Old).Key).length c38), (vi (((x20).Old).Seq)), (vi ((((x20).Old).Win).Top)), (vs a42 ((((x20).Old).Win).Bits).length c43), (vb ((x20).HasOld)), (vi ((x20).Until)), (vs a47 ((x20).Next).length c48)]) rfl (rv_c [(vi ((x20).Role)), (vs a22 ((x20).Sn).length c23), (vi ((x163).N)), (vs a165 ((x163).Key).length c166), (vi ((x163).Seq)), (vi (((x163).Win).Top)), (vs a170 (((x163).Win).Bits).length c171), (vi (((x20).Old).N)), (vs a37 (((x20).Old).Key).length c38), (vi (((x20).Old).Seq)), (vi ((((x20).Old).Win).Top)), (vs a42 ((((x20).Old).Win).Bits).length c43), (vb ((x20).HasOld)), (vi ((x20).Until)), (vs a47 ((x20).Next).length c48)] rfl b191 isAgg_62 sizeOf_62) ?_
  have b202 := ((b178.ch k185 (Nat.ne_of_lt (Nat.lt_of_lt_of_le hgl (Nat.le_trans (z3 k4 k8 k19) p62)))).ch k190 (Nat.ne_of_lt (Nat.lt_of_lt_of_le hgl (p2))))
  exact ⟨{ Role := (x20).Role, Sn := (x20).Sn, Cur := (x163), Old := ((x20).Old), HasOld := (x20).HasOld, Until := (x20).Until, Next := (x20).Next : PChan }, m193, ⟨_, _, b202, (Rd.chP hcr m193 hcn), hcl, (by omega), hcn⟩, ⟨_, _, _, _, _, _, _, _, _, _, _, _, rfl, (own_lo o195 (z2 k4 k8)), s25, (own_lo o197 (z6 k4 k8 k19 k64 k67 k72)), s168, (own_lo o198 (z6 k4 k8 k19 k64 k67 k72)), s173, (own_lo o199 (z2 k4 k8)), s40, (own_lo o200 (z2 k4 k8)), s45, (own_lo o201 (z2 k4 k8)), s50, ⟨⟨(Ap.lt o24 o167 (z3 k64 k67 k72)), ⟨(Ap.lt o24 o172 (z3 k64 k67 k72)), ⟨(ap52.1.2.2.1), ⟨(ap52.1.2.2.2.1), ⟨(ap52.1.2.2.2.2.1), trivial⟩⟩⟩⟩⟩, ⟨⟨(ap175.1.1), ⟨(Ap.lt o39 o167 (z3 k64 k67 k72)).symm, ⟨(Ap.lt o44 o167 (z3 k64 k67 k72)).symm, ⟨(Ap.lt o49 o167 (z3 k64 k67 k72)).symm, trivial⟩⟩⟩⟩, ⟨⟨(Ap.lt o39 o172 (z3 k64 k67 k72)).symm, ⟨(Ap.lt o44 o172 (z3 k64 k67 k72)).symm, ⟨(Ap.lt o49 o172 (z3 k64 k67 k72)).symm, trivial⟩⟩⟩, ⟨⟨(ap52.2.2.2.1.1), ⟨(ap52.2.2.2.1.2.1), trivial⟩⟩, ⟨⟨(ap52.2.2.2.2.1.1), trivial⟩, ⟨trivial, trivial⟩⟩⟩⟩⟩⟩⟩, trivial⟩
 have q203 := of_decide_eq_false h160
 refine cf h160 ?_
 refine sr ?_
 refine pu (vb (decide ((x73) = 3))) wN ?_
 refine aw (vb (decide ((x73) = 3))) ?_
 refine n2 ?_
 rcases bt (decide ((x73) = 3)) with h204 | h204
 ·have q205 := of_decide_eq_true h204
  refine ct h204 ?_
  refine wc_region ?_
  refine mw (vp g 0) ?_
  refine cl wN (C_spec_l9Any w6 g ca cc cb ⟨_, _, b77, (Rd.chP hcr m82 hcn), hcl, (by omega), hcn⟩) ?_
  rintro _ w7 ⟨x207, k206, ⟨i220, h221, b222, r223, l224, p225, n226⟩, ⟨a209, c210, a214, c215, rfl, o211, s212, o216, s217, ap219⟩, q208⟩
  have m227 := ChG.ext m82 k206 (fun k hk => .inl hk)
  refine pu (vp g61 7) wN ?_
  have b228 := ((b68.ch k72 (Ne.symm (Nat.ne_of_lt (Nat.lt_of_lt_of_le hgl (Nat.le_trans (z3 k4 k8 k19) p62))))).ch k206 (Ne.symm (Nat.ne_of_lt (Nat.lt_of_lt_of_le hgl (Nat.le_trans (z3 k4 k8 k19) p62)))))
  refine st (va (L_60 (x207) a209 c210 a214 c215)) (L_60 (x207) a209 c210 a214 c215) [(vi ((x20).Role)), (vs a22 ((x20).Sn).length c23), (vi (((x20).Cur).N)), (vs a27 (((x20).Cur).Key).length c28), (vi (((x20).Cur).Seq)), (vi ((((x20).Cur).Win).Top)), (vs a32 ((((x20).Cur).Win).Bits).length c33), (vi ((x207).N)), (vs a209 ((x207).Key).length c210), (vi ((x207).Seq)), (vi (((x207).Win).Top)), (vs a214 (((x207).Win).Bits).length c215), (vb ((x20).HasOld)), (vi ((x20).Until)), (vs a47 ((x20).Next).length c48)] wN sizeOf_60 b228 ?_
  intro w8 k229 b230 z231
  have m232 := ChG.ext m227 k229 (fun k hk => .inr (by subst hk; exact Nat.le_trans (z3 k4 k8 k19) p62))
  refine wl_nil <| wq_blk_normal <| wq_then <| sr ?_
  refine lN [(vi ((x20).Role)), (vs a22 ((x20).Sn).length c23), (vi (((x20).Cur).N)), (vs a27 (((x20).Cur).Key).length c28), (vi (((x20).Cur).Seq)), (vi ((((x20).Cur).Win).Top)), (vs a32 ((((x20).Cur).Win).Bits).length c33), (vi ((x207).N)), (vs a209 ((x207).Key).length c210), (vi ((x207).Seq)), (vi (((x207).Win).Top)), (vs a214 (((x207).Win).Bits).length c215), (vb ((x20).HasOld)), (vi ((x20).Until)), (vs a47 ((x20).Next).length c48)] wN isAgg_62 sizeOf_62 b230 ?_
  have b233 := (((((((b5.ch k8 (Ne.symm (Nat.ne_of_lt (Nat.lt_of_lt_of_le hgl (p2))))).ch k19 (Ne.symm (Nat.ne_of_lt (Nat.lt_of_lt_of_le hgl (p2))))).kp k64).ch k67 (Nat.ne_of_lt (Nat.lt_of_lt_of_le p3 (Nat.le_trans (z2 k8 k19) p62)))).ch k72 (Ne.symm (Nat.ne_of_lt (Nat.lt_of_lt_of_le hgl (p2))))).ch k206 (Ne.symm (Nat.ne_of_lt (Nat.lt_of_lt_of_le hgl (p2))))).ch k229 (Nat.ne_of_lt (Nat.lt_of_lt_of_le p3 (Nat.le_trans (z2 k8 k19) p62))))
  refine sv [(vi ((x20).Role)), (vs a22 ((x20).Sn).length c23), (vi (((x20).Cur).N)), (vs a27 (((x20).Cur).Key).length c28), (vi (((x20).Cur).Seq)), (vi ((((x20).Cur).Win).Top)), (vs a32 ((((x20).Cur).Win).Bits).length c33), (vi ((x207).N)), (vs a209 ((x207).Key).length c210), (vi ((x207).Seq)), (vi (((x207).Win).Top)), (vs a214 (((x207).Win).Bits).length c215), (vb ((x20).HasOld)), (vi ((x20).Until)), (vs a47 ((x20).Next).length c48)] wN sizeOf_62 b233 ?_
  intro w9 k234 b235 z236
  have m237 := ChG.ext m232 k234 (fun k hk => .inr (by subst hk; exact p2))
  refine n3 ?_
  have t238 := fun (E sz n : Nat) (v : Value) (xs : List Value) (o : World.ownsRow w3 w2.heap.size E sz v n xs) (o0 : World.ownsRow w3 w2.heap.size E sz v n xs) => (own_ch (own_ch (own_ch (own_ch (own_ch (own_kp o k64) k67 (ne2 o0 (p62))) k72 (ne1 o0 (Nat.lt_of_lt_of_le hgl (z2 k4 k8)))) k206 (ne1 o0 (Nat.lt_of_lt_of_le hgl (z2 k4 k8)))) k229 (ne2 o0 (p62))) k234 (ne1 o0 (Nat.lt_of_lt_of_le p3 k8.size)))
  have o239 := (t238 _ _ _ _ _ o24 o24)
  have o240 := (t238 _ _ _ _ _ o29 o29)
  have o241 := (t238 _ _ _ _ _ o34 o34)
  have t242 := fun (E sz n : Nat) (v : Value) (xs : List Value) (o : World.ownsRow w7 w6.heap.size E sz v n xs) (o0 : World.ownsRow w7 w6.heap.size E sz v n xs) => (own_ch (own_ch o k229 (ne1 o0 (Nat.lt_of_lt_of_le p63 (z2 k67 k72)))) k234 (ne1 o0 (Nat.lt_of_lt_of_le p3 (z5 k8 k19 k64 k67 k72))))
  have o243 := (t242 _ _ _ _ _ o211 o211)
  have o244 := (t242 _ _ _ _ _ o216 o216)
  have o245 := (t238 _ _ _ _ _ o49 o49)
  refine ret_1 (.inl rfl) (va [(vi ((x20).Role)), (vs a22 ((x20).Sn).length c23), (vi (((x20).Cur).N)), (vs a27 (((x20).Cur).Key).length c28), (vi (((x20).Cur).Seq)), (vi ((((x20).Cur).Win).Top)), (vs a32 ((((x20).Cur).Win).Bits).length c33), (vi ((x207).N)), (vs a209 ((x207).Key).length c210), (vi ((x207).Seq)), (vi (((x207).Win).Top)), (vs a214 (((x207).Win).Bits).length c215), (vb ((x20).HasOld)), (vi ((x20).Until)), (vs a47 ((x20).Next).length c48)]) rfl (rv_c [(vi ((x20).Role)), (vs a22 ((x20).Sn).length c23), (vi (((x20).Cur).N)), (vs a27 (((x20).Cur).Key).length c28), (vi (((x20).Cur).Seq)), (vi ((((x20).Cur).Win).Top)), (vs a32 ((((x20).Cur).Win).Bits).length c33), (vi ((x207).N)), (vs a209 ((x207).Key).length c210), (vi ((x207).Seq)), (vi (((x207).Win).Top)), (vs a214 (((x207).Win).Bits).length c215), (vb ((x20).HasOld)), (vi ((x20).Until)), (vs a47 ((x20).Next).length c48)] rfl b235 isAgg_62 sizeOf_62) ?_
  have b246 := ((b222.ch k229 (Nat.ne_of_lt (Nat.lt_of_lt_of_le hgl (Nat.le_trans (z3 k4 k8 k19) p62)))).ch k234 (Nat.ne_of_lt (Nat.lt_of_lt_of_le hgl (p2))))
  exact ⟨{ Role := (x20).Role, Sn := (x20).Sn, Cur := ((x20).Cur), Old := (x207), HasOld := (x20).HasOld, Until := (x20).Until, Next := (x20).Next : PChan }, m237, ⟨_, _, b246, (Rd.chP hcr m237 hcn), hcl, (by omega), hcn⟩, ⟨_, _, _, _, _, _, _, _, _, _, _, _, rfl, (own_lo o239 (z2 k4 k8)), s25, (own_lo o240 (z2 k4 k8)), s30, (own_lo o241 (z2 k4 k8)), s35, (own_lo o243 (z6 k4 k8 k19 k64 k67 k72)), s212, (own_lo o244 (z6 k4 k8 k19 k64 k67 k72)), s217, (own_lo o245 (z2 k4 k8)), s50, ⟨⟨(ap52.1.1), ⟨(ap52.1.2.1), ⟨(Ap.lt o24 o211 (z3 k64 k67 k72)), ⟨(Ap.lt o24 o216 (z3 k64 k67 k72)), ⟨(ap52.1.2.2.2.2.1), trivial⟩⟩⟩⟩⟩, ⟨⟨(ap52.2.1.1), ⟨(Ap.lt o29 o211 (z3 k64 k67 k72)), ⟨(Ap.lt o29 o216 (z3 k64 k67 k72)), ⟨(ap52.2.1.2.2.2.1), trivial⟩⟩⟩⟩, ⟨⟨(Ap.lt o34 o211 (z3 k64 k67 k72)), ⟨(Ap.lt o34 o216 (z3 k64 k67 k72)), ⟨(ap52.2.2.1.2.2.1), trivial⟩⟩⟩, ⟨⟨(ap219.1.1), ⟨(Ap.lt o49 o211 (z3 k64 k67 k72)).symm, trivial⟩⟩, ⟨⟨(Ap.lt o49 o216 (z3 k64 k67 k72)).symm, trivial⟩, ⟨trivial, trivial⟩⟩⟩⟩⟩⟩⟩, trivial⟩
 have q247 := of_decide_eq_false h204
 refine cf h204 ?_
 refine sr ?_
 refine pu (vb (decide ((x73) = 4))) wN ?_
 refine aw (vb (decide ((x73) = 4))) ?_
 refine n2 ?_
 rcases bt (decide ((x73) = 4)) with h248 | h248
 ·have q249 := of_decide_eq_true h248
  refine ct h248 ?_
  refine wc_region ?_
  refine pu (vp g61 12) wN ?_
  have b250 := (b68.ch k72 (Ne.symm (Nat.ne_of_lt (Nat.lt_of_lt_of_le hgl (Nat.le_trans (z3 k4 k8 k19) p62)))))
  refine ld (vb ((x20).HasOld)) wN isAgg_4 b250 ?_
  refine pu (vb (!((x20).HasOld))) wN ?_
  refine pu (vp g61 12) wN ?_
  refine st (vb (!((x20).HasOld))) [(vb (!((x20).HasOld)))] [(vi ((x20).Role)), (vs a22 ((x20).Sn).length c23), (vi (((x20).Cur).N)), (vs a27 (((x20).Cur).Key).length c28), (vi (((x20).Cur).Seq)), (vi ((((x20).Cur).Win).Top)), (vs a32 ((((x20).Cur).Win).Bits).length c33), (vi (((x20).Old).N)), (vs a37 (((x20).Old).Key).length c38), (vi (((x20).Old).Seq)), (vi ((((x20).Old).Win).Top)), (vs a42 ((((x20).Old).Win).Bits).length c43), (vb (!((x20).HasOld))), (vi ((x20).Until)), (vs a47 ((x20).Next).length c48)] wN sizeOf_4 b250 ?_
  intro w7 k251 b252 z253
  have m254 := ChG.ext m82 k251 (fun k hk => .inr (by subst hk; exact Nat.le_trans (z3 k4 k8 k19) p62))
  refine wl_nil <| wq_blk_normal <| wq_then <| sr ?_
  refine lN [(vi ((x20).Role)), (vs a22 ((x20).Sn).length c23), (vi (((x20).Cur).N)), (vs a27 (((x20).Cur).Key).length c28), (vi (((x20).Cur).Seq)), (vi ((((x20).Cur).Win).Top)), (vs a32 ((((x20).Cur).Win).Bits).length c33), (vi (((x20).Old).N)), (vs a37 (((x20).Old).Key).length c38), (vi (((x20).Old).Seq)), (vi ((((x20).Old).Win).Top)), (vs a42 ((((x20).Old).Win).Bits).length c43), (vb (!((x20).HasOld))), (vi ((x20).Until)), (vs a47 ((x20).Next).length c48)] wN isAgg_62 sizeOf_62 b252 ?_
  have b255 := ((((((b5.ch k8 (Ne.symm (Nat.ne_of_lt (Nat.lt_of_lt_of_le hgl (p2))))).ch k19 (Ne.symm (Nat.ne_of_lt (Nat.lt_of_lt_of_le hgl (p2))))).kp k64).ch k67 (Nat.ne_of_lt (Nat.lt_of_lt_of_le p3 (Nat.le_trans (z2 k8 k19) p62)))).ch k72 (Ne.symm (Nat.ne_of_lt (Nat.lt_of_lt_of_le hgl (p2))))).ch k251 (Nat.ne_of_lt (Nat.lt_of_lt_of_le p3 (Nat.le_trans (z2 k8 k19) p62))))
  refine sv [(vi ((x20).Role)), (vs a22 ((x20).Sn).length c23), (vi (((x20).Cur).N)), (vs a27 (((x20).Cur).Key).length c28), (vi (((x20).Cur).Seq)), (vi ((((x20).Cur).Win).Top)), (vs a32 ((((x20).Cur).Win).Bits).length c33), (vi (((x20).Old).N)), (vs a37 (((x20).Old).Key).length c38), (vi (((x20).Old).Seq)), (vi ((((x20).Old).Win).Top)), (vs a42 ((((x20).Old).Win).Bits).length c43), (vb (!((x20).HasOld))), (vi ((x20).Until)), (vs a47 ((x20).Next).length c48)] wN sizeOf_62 b255 ?_
  intro w8 k256 b257 z258
  have m259 := ChG.ext m254 k256 (fun k hk => .inr (by subst hk; exact p2))
  refine n3 ?_
  have t260 := fun (E sz n : Nat) (v : Value) (xs : List Value) (o : World.ownsRow w3 w2.heap.size E sz v n xs) (o0 : World.ownsRow w3 w2.heap.size E sz v n xs) => (own_ch (own_ch (own_ch (own_ch (own_kp o k64) k67 (ne2 o0 (p62))) k72 (ne1 o0 (Nat.lt_of_lt_of_le hgl (z2 k4 k8)))) k251 (ne2 o0 (p62))) k256 (ne1 o0 (Nat.lt_of_lt_of_le p3 k8.size)))
  have o261 := (t260 _ _ _ _ _ o24 o24)
  have o262 := (t260 _ _ _ _ _ o29 o29)
  have o263 := (t260 _ _ _ _ _ o34 o34)
  have o264 := (t260 _ _ _ _ _ o39 o39)
  have o265 := (t260 _ _ _ _ _ o44 o44)
  have o266 := (t260 _ _ _ _ _ o49 o49)
  refine ret_1 (.inl rfl) (va [(vi ((x20).Role)), (vs a22 ((x20).Sn).length c23), (vi (((x20).Cur).N)), (vs a27 (((x20).Cur).Key).length c28), (vi (((x20).Cur).Seq)), (vi ((((x20).Cur).Win).Top)), (vs a32 ((((x20).Cur).Win).Bits).length c33), (vi (((x20).Old).N)), (vs a37 (((x20).Old).Key).length c38), (vi (((x20).Old).Seq)), (vi ((((x20).Old).Win).Top)), (vs a42 ((((x20).Old).Win).Bits).length c43), (vb (!((x20).HasOld))), (vi ((x20).Until)), (vs a47 ((x20).Next).length c48)]) rfl (rv_c [(vi ((x20).Role)), (vs a22 ((x20).Sn).length c23), (vi (((x20).Cur).N)), (vs a27 (((x20).Cur).Key).length c28), (vi (((x20).Cur).Seq)), (vi ((((x20).Cur).Win).Top)), (vs a32 ((((x20).Cur).Win).Bits).length c33), (vi (((x20).Old).N)), (vs a37 (((x20).Old).Key).length c38), (vi (((x20).Old).Seq)), (vi ((((x20).Old).Win).Top)), (vs a42 ((((x20).Old).Win).Bits).length c43), (vb (!((x20).HasOld))), (vi ((x20).Until)), (vs a47 ((x20).Next).length c48)] rfl b257 isAgg_62 sizeOf_62) ?_
  have b267 := ((b77.ch k251 (Nat.ne_of_lt (Nat.lt_of_lt_of_le hgl (Nat.le_trans (z3 k4 k8 k19) p62)))).ch k256 (Nat.ne_of_lt (Nat.lt_of_lt_of_le hgl (p2))))
  exact ⟨{ Role := (x20).Role, Sn := (x20).Sn, Cur := ((x20).Cur), Old := ((x20).Old), HasOld := !((x20).HasOld), Until := (x20).Until, Next := (x20).Next : PChan }, m259, ⟨_, _, b267, (Rd.chP hcr m259 hcn), hcl, (by omega), hcn⟩, ⟨_, _, _, _, _, _, _, _, _, _, _, _, rfl, (own_lo o261 (z2 k4 k8)), s25, (own_lo o262 (z2 k4 k8)), s30, (own_lo o263 (z2 k4 k8)), s35, (own_lo o264 (z2 k4 k8)), s40, (own_lo o265 (z2 k4 k8)), s45, (own_lo o266 (z2 k4 k8)), s50, ⟨⟨(ap52.1.1), ⟨(ap52.1.2.1), ⟨(ap52.1.2.2.1), ⟨(ap52.1.2.2.2.1), ⟨(ap52.1.2.2.2.2.1), trivial⟩⟩⟩⟩⟩, ⟨⟨(ap52.2.1.1), ⟨(ap52.2.1.2.1), ⟨(ap52.2.1.2.2.1), ⟨(ap52.2.1.2.2.2.1), trivial⟩⟩⟩⟩, ⟨⟨(ap52.2.2.1.1), ⟨(ap52.2.2.1.2.1), ⟨(ap52.2.2.1.2.2.1), trivial⟩⟩⟩, ⟨⟨(ap52.2.2.2.1.1), ⟨(ap52.2.2.2.1.2.1), trivial⟩⟩, ⟨⟨(ap52.2.2.2.2.1.1), trivial⟩, ⟨trivial, trivial⟩⟩⟩⟩⟩⟩⟩, trivial⟩
 have q268 := of_decide_eq_false h248
 refine cf h248 ?_
 refine sr ?_
 refine pu (vb (decide ((x73) = 5))) wN ?_
 refine aw (vb (decide ((x73) = 5))) ?_
 refine n2 ?_
 rcases bt (decide ((x73) = 5)) with h269 | h269
 ·have q270 := of_decide_eq_true h269
  refine ct h269 ?_
  refine wc_region ?_
  refine mw (vp g 0) ?_
  refine ltI ([(-2), (-1), 1, 1000006] : List Int) wN slTy_56 ?_
  intro a271 c272 w7 k273 o274
  have m275 := ChG.extk m82 k273
  have b277 := (b77.kp k273)
  refine cl wN (C_spec_l1Int w7 g ca cc cb ⟨_, _, b277, (Rd.chP hcr m275 hcn), hcl, (by omega), hcn⟩ _ ([(-2), (-1), 1, 1000006] : List Int) ⟨_, _, rfl, (Rd.of_own o274), (by simp), (fun _ z hz => by have h1 := (own_lt o274 z.block (by rw [hz]; rfl)).1; have h2 := Nat.lt_of_lt_of_le hgl (z6 k4 k8 k19 k64 k67 k72); omega)⟩ (by simp)) ?_
  rintro _ w8 ⟨x279, k278, ⟨i281, h282, b283, r284, l285, p286, n287⟩, rfl, q280⟩
  have m288 := ChG.ext m275 k278 (fun k hk => .inl hk)
  have q280m : x279 = (-2) ∨ x279 = (-1) ∨ x279 = 1 ∨ x279 = 1000006 := by simpa only [List.mem_cons, List.not_mem_nil, or_false] using q280
  refine pu (vp g61 13) wN ?_
  have b289 := (((b68.ch k72 (Ne.symm (Nat.ne_of_lt (Nat.lt_of_lt_of_le hgl (Nat.le_trans (z3 k4 k8 k19) p62))))).kp k273).ch k278 (Ne.symm (Nat.ne_of_lt (Nat.lt_of_lt_of_le hgl (Nat.le_trans (z3 k4 k8 k19) p62)))))
  refine st (vi (x279)) [(vi (x279))] [(vi ((x20).Role)), (vs a22 ((x20).Sn).length c23), (vi (((x20).Cur).N)), (vs a27 (((x20).Cur).Key).length c28), (vi (((x20).Cur).Seq)), (vi ((((x20).Cur).Win).Top)), (vs a32 ((((x20).Cur).Win).Bits).length c33), (vi (((x20).Old).N)), (vs a37 (((x20).Old).Key).length c38), (vi (((x20).Old).Seq)), (vi ((((x20).Old).Win).Top)), (vs a42 ((((x20).Old).Win).Bits).length c43), (vb ((x20).HasOld)), (vi (x279)), (vs a47 ((x20).Next).length c48)] wN sizeOf_3 b289 ?_
  intro w9 k290 b291 z292
  have m293 := ChG.ext m288 k290 (fun k hk => .inr (by subst hk; exact Nat.le_trans (z3 k4 k8 k19) p62))
  refine wl_nil <| wq_blk_normal <| wq_then <| sr ?_
  refine lN [(vi ((x20).Role)), (vs a22 ((x20).Sn).length c23), (vi (((x20).Cur).N)), (vs a27 (((x20).Cur).Key).length c28), (vi (((x20).Cur).Seq)), (vi ((((x20).Cur).Win).Top)), (vs a32 ((((x20).Cur).Win).Bits).length c33), (vi (((x20).Old).N)), (vs a37 (((x20).Old).Key).length c38), (vi (((x20).Old).Seq)), (vi ((((x20).Old).Win).Top)), (vs a42 ((((x20).Old).Win).Bits).length c43), (vb ((x20).HasOld)), (vi (x279)), (vs a47 ((x20).Next).length c48)] wN isAgg_62 sizeOf_62 b291 ?_
  have b294 := ((((((((b5.ch k8 (Ne.symm (Nat.ne_of_lt (Nat.lt_of_lt_of_le hgl (p2))))).ch k19 (Ne.symm (Nat.ne_of_lt (Nat.lt_of_lt_of_le hgl (p2))))).kp k64).ch k67 (Nat.ne_of_lt (Nat.lt_of_lt_of_le p3 (Nat.le_trans (z2 k8 k19) p62)))).ch k72 (Ne.symm (Nat.ne_of_lt (Nat.lt_of_lt_of_le hgl (p2))))).kp k273).ch k278 (Ne.symm (Nat.ne_of_lt (Nat.lt_of_lt_of_le hgl (p2))))).ch k290 (Nat.ne_of_lt (Nat.lt_of_lt_of_le p3 (Nat.le_trans (z2 k8 k19) p62))))
  refine sv [(vi ((x20).Role)), (vs a22 ((x20).Sn).length c23), (vi (((x20).Cur).N)), (vs a27 (((x20).Cur).Key).length c28), (vi (((x20).Cur).Seq)), (vi ((((x20).Cur).Win).Top)), (vs a32 ((((x20).Cur).Win).Bits).length c33), (vi (((x20).Old).N)), (vs a37 (((x20).Old).Key).length c38), (vi (((x20).Old).Seq)), (vi ((((x20).Old).Win).Top)), (vs a42 ((((x20).Old).Win).Bits).length c43), (vb ((x20).HasOld)), (vi (x279)), (vs a47 ((x20).Next).length c48)] wN sizeOf_62 b294 ?_
  intro w10 k295 b296 z297
  have m298 := ChG.ext m293 k295 (fun k hk => .inr (by subst hk; exact p2))
  refine n3 ?_
  have t299 := fun (E sz n : Nat) (v : Value) (xs : List Value) (o : World.ownsRow w3 w2.heap.size E sz v n xs) (o0 : World.ownsRow w3 w2.heap.size E sz v n xs) => (own_ch (own_ch (own_ch (own_kp (own_ch (own_ch (own_kp o k64) k67 (ne2 o0 (p62))) k72 (ne1 o0 (Nat.lt_of_lt_of_le hgl (z2 k4 k8)))) k273) k278 (ne1 o0 (Nat.lt_of_lt_of_le hgl (z2 k4 k8)))) k290 (ne2 o0 (p62))) k295 (ne1 o0 (Nat.lt_of_lt_of_le p3 k8.size)))
  have o300 := (t299 _ _ _ _ _ o24 o24)
  have o301 := (t299 _ _ _ _ _ o29 o29)
  have o302 := (t299 _ _ _ _ _ o34 o34)
  have o303 := (t299 _ _ _ _ _ o39 o39)
  have o304 := (t299 _ _ _ _ _ o44 o44)
  have o305 := (t299 _ _ _ _ _ o49 o49)
  refine ret_1 (.inl rfl) (va [(vi ((x20).Role)), (vs a22 ((x20).Sn).length c23), (vi (((x20).Cur).N)), (vs a27 (((x20).Cur).Key).length c28), (vi (((x20).Cur).Seq)), (vi ((((x20).Cur).Win).Top)), (vs a32 ((((x20).Cur).Win).Bits).length c33), (vi (((x20).Old).N)), (vs a37 (((x20).Old).Key).length c38), (vi (((x20).Old).Seq)), (vi ((((x20).Old).Win).Top)), (vs a42 ((((x20).Old).Win).Bits).length c43), (vb ((x20).HasOld)), (vi (x279)), (vs a47 ((x20).Next).length c48)]) rfl (rv_c [(vi ((x20).Role)), (vs a22 ((x20).Sn).length c23), (vi (((x20).Cur).N)), (vs a27 (((x20).Cur).Key).length c28), (vi (((x20).Cur).Seq)), (vi ((((x20).Cur).Win).Top)), (vs a32 ((((x20).Cur).Win).Bits).length c33), (vi (((x20).Old).N)), (vs a37 (((x20).Old).Key).length c38), (vi (((x20).Old).Seq)), (vi ((((x20).Old).Win).Top)), (vs a42 ((((x20).Old).Win).Bits).length c43), (vb ((x20).HasOld)), (vi (x279)), (vs a47 ((x20).Next).length c48)] rfl b296 isAgg_62 sizeOf_62) ?_
  have b306 := ((b283.ch k290 (Nat.ne_of_lt (Nat.lt_of_lt_of_le hgl (Nat.le_trans (z3 k4 k8 k19) p62)))).ch k295 (Nat.ne_of_lt (Nat.lt_of_lt_of_le hgl (p2))))
  exact ⟨{ Role := (x20).Role, Sn := (x20).Sn, Cur := ((x20).Cur), Old := ((x20).Old), HasOld := (x20).HasOld, Until := (x279), Next := (x20).Next : PChan }, m298, ⟨_, _, b306, (Rd.chP hcr m298 hcn), hcl, (by omega), hcn⟩, ⟨_, _, _, _, _, _, _, _, _, _, _, _, rfl, (own_lo o300 (z2 k4 k8)), s25, (own_lo o301 (z2 k4 k8)), s30, (own_lo o302 (z2 k4 k8)), s35, (own_lo o303 (z2 k4 k8)), s40, (own_lo o304 (z2 k4 k8)), s45, (own_lo o305 (z2 k4 k8)), s50, ⟨⟨(ap52.1.1), ⟨(ap52.1.2.1), ⟨(ap52.1.2.2.1), ⟨(ap52.1.2.2.2.1), ⟨(ap52.1.2.2.2.2.1), trivial⟩⟩⟩⟩⟩, ⟨⟨(ap52.2.1.1), ⟨(ap52.2.1.2.1), ⟨(ap52.2.1.2.2.1), ⟨(ap52.2.1.2.2.2.1), trivial⟩⟩⟩⟩, ⟨⟨(ap52.2.2.1.1), ⟨(ap52.2.2.1.2.1), ⟨(ap52.2.2.1.2.2.1), trivial⟩⟩⟩, ⟨⟨(ap52.2.2.2.1.1), ⟨(ap52.2.2.2.1.2.1), trivial⟩⟩, ⟨⟨(ap52.2.2.2.2.1.1), trivial⟩, ⟨trivial, trivial⟩⟩⟩⟩⟩⟩⟩, trivial⟩
 have q307 := of_decide_eq_false h269
 refine cf h269 ?_
 refine sr ?_
 refine pu (vb (decide ((x73) = 6))) wN ?_
 refine aw (vb (decide ((x73) = 6))) ?_
 refine n2 ?_
 rcases bf (decide ((x73) = 6)) with h308 | h308
 ·have q363 := of_decide_eq_false h308
  refine cf h308 ?_
  refine wc_skip <| wq_blk_normal <| wq_then <| sr ?_
  have b364 := (b68.ch k72 (Ne.symm (Nat.ne_of_lt (Nat.lt_of_lt_of_le hgl (Nat.le_trans (z3 k4 k8 k19) p62)))))
  refine lN (L_62 (x20) a22 c23 a27 c28 a32 c33 a37 c38 a42 c43 a47 c48) wN isAgg_62 sizeOf_62 b364 ?_
  have b365 := (((((b5.ch k8 (Ne.symm (Nat.ne_of_lt (Nat.lt_of_lt_of_le hgl (p2))))).ch k19 (Ne.symm (Nat.ne_of_lt (Nat.lt_of_lt_of_le hgl (p2))))).kp k64).ch k67 (Nat.ne_of_lt (Nat.lt_of_lt_of_le p3 (Nat.le_trans (z2 k8 k19) p62)))).ch k72 (Ne.symm (Nat.ne_of_lt (Nat.lt_of_lt_of_le hgl (p2)))))
  refine sv (L_62 (x20) a22 c23 a27 c28 a32 c33 a37 c38 a42 c43 a47 c48) wN sizeOf_62 b365 ?_
  intro w7 k366 b367 z368
  have m369 := ChG.ext m82 k366 (fun k hk => .inr (by subst hk; exact p2))
  refine n3 ?_
  have t370 := fun (E sz n : Nat) (v : Value) (xs : List Value) (o : World.ownsRow w3 w2.heap.size E sz v n xs) (o0 : World.ownsRow w3 w2.heap.size E sz v n xs) => (own_ch (own_ch (own_ch (own_kp o k64) k67 (ne2 o0 (p62))) k72 (ne1 o0 (Nat.lt_of_lt_of_le hgl (z2 k4 k8)))) k366 (ne1 o0 (Nat.lt_of_lt_of_le p3 k8.size)))
  have o371 := (t370 _ _ _ _ _ o24 o24)
  have o372 := (t370 _ _ _ _ _ o29 o29)
  have o373 := (t370 _ _ _ _ _ o34 o34)
  have o374 := (t370 _ _ _ _ _ o39 o39)
  have o375 := (t370 _ _ _ _ _ o44 o44)
  have o376 := (t370 _ _ _ _ _ o49 o49)
  refine ret_1 (.inl rfl) (va (L_62 (x20) a22 c23 a27 c28 a32 c33 a37 c38 a42 c43 a47 c48)) rfl (rv_c (L_62 (x20) a22 c23 a27 c28 a32 c33 a37 c38 a42 c43 a47 c48) rfl b367 isAgg_62 sizeOf_62) ?_
  have b377 := (b77.ch k366 (Nat.ne_of_lt (Nat.lt_of_lt_of_le hgl (p2))))
  exact ⟨(x20), m369, ⟨_, _, b377, (Rd.chP hcr m369 hcn), hcl, (by omega), hcn⟩, ⟨_, _, _, _, _, _, _, _, _, _, _, _, rfl, (own_lo o371 (z2 k4 k8)), s25, (own_lo o372 (z2 k4 k8)), s30, (own_lo o373 (z2 k4 k8)), s35, (own_lo o374 (z2 k4 k8)), s40, (own_lo o375 (z2 k4 k8)), s45, (own_lo o376 (z2 k4 k8)), s50, ⟨⟨(ap52.1.1), ⟨(ap52.1.2.1), ⟨(ap52.1.2.2.1), ⟨(ap52.1.2.2.2.1), ⟨(ap52.1.2.2.2.2.1), trivial⟩⟩⟩⟩⟩, ⟨⟨(ap52.2.1.1), ⟨(ap52.2.1.2.1), ⟨(ap52.2.1.2.2.1), ⟨(ap52.2.1.2.2.2.1), trivial⟩⟩⟩⟩, ⟨⟨(ap52.2.2.1.1), ⟨(ap52.2.2.1.2.1), ⟨(ap52.2.2.1.2.2.1), trivial⟩⟩⟩, ⟨⟨(ap52.2.2.2.1.1), ⟨(ap52.2.2.2.1.2.1), trivial⟩⟩, ⟨⟨(ap52.2.2.2.2.1.1), trivial⟩, ⟨trivial, trivial⟩⟩⟩⟩⟩⟩⟩, trivial⟩
 have q309 := of_decide_eq_true h308
 refine ct h308 ?_
 refine wc_region ?_
 refine mw (vp g 0) ?_
 refine mw (vp g 0) ?_
 refine ltI ([0, 31, 32] : List Int) wN slTy_56 ?_
 intro a310 c311 w7 k312 o313
 have m314 := ChG.extk m82 k312
 have b316 := (b77.kp k312)
 refine cl wN (C_spec_l1Int w7 g ca cc cb ⟨_, _, b316, (Rd.chP hcr m314 hcn), hcl, (by omega), hcn⟩ _ ([0, 31, 32] : List Int) ⟨_, _, rfl, (Rd.of_own o313), (by simp), (fun _ z hz => by have h1 := (own_lt o313 z.block (by rw [hz]; rfl)).1; have h2 := Nat.lt_of_lt_of_le hgl (z6 k4 k8 k19 k64 k67 k72); omega)⟩ (by simp)) ?_
 rintro _ w8 ⟨x318, k317, ⟨i320, h321, b322, r323, l324, p325, n326⟩, rfl, q319⟩
 have m327 := ChG.ext m314 k317 (fun k hk => .inl hk)
 have q319m : x318 = 0 ∨ x318 = 31 ∨ x318 = 32 := by simpa only [List.mem_cons, List.not_mem_nil, or_false] using q319
 refine cl wN (C_spec_l1Bytes w8 g ca cc cb ⟨_, _, b322, (Rd.chP hcr m327 hcn), hcl, (by omega), hcn⟩ (x318) (by omega)) ?_
 rintro _ w9 ⟨x329, k328, ⟨i337, h338, b339, r340, l341, p342, n343⟩, ⟨a331, c332, rfl, o333, s334, ap336⟩, q330⟩
 have m344 := ChG.ext m327 k328 (fun k hk => .inl hk)
 refine pu (vp g61 14) wN ?_
 have zz11 := Nat.le_trans (z3 k4 k8 k19) p62
 have b345 := ((((b68.ch k72 (Ne.symm (Nat.ne_of_lt (Nat.lt_of_lt_of_le hgl zz11)))).kp k312).ch k317 (Ne.symm (Nat.ne_of_lt (Nat.lt_of_lt_of_le hgl zz11)))).ch k328 (Ne.symm (Nat.ne_of_lt (Nat.lt_of_lt_of_le hgl zz11))))
 refine st (vs a331 (x329).length c332) [(vs a331 (x329).length c332)] [(vi ((x20).Role)), (vs a22 ((x20).Sn).length c23), (vi (((x20).Cur).N)), (vs a27 (((x20).Cur).Key).length c28), (vi (((x20).Cur).Seq)), (vi ((((x20).Cur).Win).Top)), (vs a32 ((((x20).Cur).Win).Bits).length c33), (vi (((x20).Old).N)), (vs a37 (((x20).Old).Key).length c38), (vi (((x20).Old).Seq)), (vi ((((x20).Old).Win).Top)), (vs a42 ((((x20).Old).Win).Bits).length c43), (vb ((x20).HasOld)), (vi ((x20).Until)), (vs a331 (x329).length c332)] wN sizeOf_22 b345 ?_
 intro w10 k346 b347 z348
 have m349 := ChG.ext m344 k346 (fun k hk => .inr (by subst hk; exact Nat.le_trans (z3 k4 k8 k19) p62))
 refine wl_nil <| wq_blk_normal <| wq_then <| sr ?_
 refine lN [(vi ((x20).Role)), (vs a22 ((x20).Sn).length c23), (vi (((x20).Cur).N)), (vs a27 (((x20).Cur).Key).length c28), (vi (((x20).Cur).Seq)), (vi ((((x20).Cur).Win).Top)), (vs a32 ((((x20).Cur).Win).Bits).length c33), (vi (((x20).Old).N)), (vs a37 (((x20).Old).Key).length c38), (vi (((x20).Old).Seq)), (vi ((((x20).Old).Win).Top)), (vs a42 ((((x20).Old).Win).Bits).length c43), (vb ((x20).HasOld)), (vi ((x20).Until)), (vs a331 (x329).length c332)] wN isAgg_62 sizeOf_62 b347 ?_
 have b350 := (((((((((b5.ch k8 (Ne.symm (Nat.ne_of_lt (Nat.lt_of_lt_of_le hgl (p2))))).ch k19 (Ne.symm (Nat.ne_of_lt (Nat.lt_of_lt_of_le hgl (p2))))).kp k64).ch k67 (Nat.ne_of_lt (Nat.lt_of_lt_of_le p3 (Nat.le_trans (z2 k8 k19) p62)))).ch k72 (Ne.symm (Nat.ne_of_lt (Nat.lt_of_lt_of_le hgl (p2))))).kp k312).ch k317 (Ne.symm (Nat.ne_of_lt (Nat.lt_of_lt_of_le hgl (p2))))).ch k328 (Ne.symm (Nat.ne_of_lt (Nat.lt_of_lt_of_le hgl (p2))))).ch k346 (Nat.ne_of_lt (Nat.lt_of_lt_of_le p3 (Nat.le_trans (z2 k8 k19) p62))))
 refine sv [(vi ((x20).Role)), (vs a22 ((x20).Sn).length c23), (vi (((x20).Cur).N)), (vs a27 (((x20).Cur).Key).length c28), (vi (((x20).Cur).Seq)), (vi ((((x20).Cur).Win).Top)), (vs a32 ((((x20).Cur).Win).Bits).length c33), (vi (((x20).Old).N)), (vs a37 (((x20).Old).Key).length c38), (vi (((x20).Old).Seq)), (vi ((((x20).Old).Win).Top)), (vs a42 ((((x20).Old).Win).Bits).length c43), (vb ((x20).HasOld)), (vi ((x20).Until)), (vs a331 (x329).length c332)] wN sizeOf_62 b350 ?_
 intro w11 k351 b352 z353
 have m354 := ChG.ext m349 k351 (fun k hk => .inr (by subst hk; exact p2))
 refine n3 ?_
 have t355 := fun (E sz n : Nat) (v : Value) (xs : List Value) (o : World.ownsRow w3 w2.heap.size E sz v n xs) (o0 : World.ownsRow w3 w2.heap.size E sz v n xs) => (own_ch (own_ch (own_ch (own_ch (own_kp (own_ch (own_ch (own_kp o k64) k67 (ne2 o0 (p62))) k72 (ne1 o0 (Nat.lt_of_lt_of_le hgl (z2 k4 k8)))) k312) k317 (ne1 o0 (Nat.lt_of_lt_of_le hgl (z2 k4 k8)))) k328 (ne1 o0 (Nat.lt_of_lt_of_le hgl (z2 k4 k8)))) k346 (ne2 o0 (p62))) k351 (ne1 o0 (Nat.lt_of_lt_of_le p3 k8.size)))
 have o356 := (t355 _ _ _ _ _ o24 o24)
 have o357 := (t355 _ _ _ _ _ o29 o29)
 have o358 := (t355 _ _ _ _ _ o34 o34)
 have o359 := (t355 _ _ _ _ _ o39 o39)
 have o360 := (t355 _ _ _ _ _ o44 o44)
 have o361 := (own_ch (own_ch o333 k346 (ne1 o333 (Nat.lt_of_lt_of_le p63 (z4 k67 k72 k312 k317)))) k351 (ne1 o333 (Nat.lt_of_lt_of_le p3 (z7 k8 k19 k64 k67 k72 k312 k317))))
 refine ret_1 (.inl rfl) (va [(vi ((x20).Role)), (vs a22 ((x20).Sn).length c23), (vi (((x20).Cur).N)), (vs a27 (((x20).Cur).Key).length c28), (vi (((x20).Cur).Seq)), (vi ((((x20).Cur).Win).Top)), (vs a32 ((((x20).Cur).Win).Bits).length c33), (vi (((x20).Old).N)), (vs a37 (((x20).Old).Key).length c38), (vi (((x20).Old).Seq)), (vi ((((x20).Old).Win).Top)), (vs a42 ((((x20).Old).Win).Bits).length c43), (vb ((x20).HasOld)), (vi ((x20).Until)), (vs a331 (x329).length c332)]) rfl (rv_c [(vi ((x20).Role)), (vs a22 ((x20).Sn).length c23), (vi (((x20).Cur).N)), (vs a27 (((x20).Cur).Key).length c28), (vi (((x20).Cur).Seq)), (vi ((((x20).Cur).Win).Top)), (vs a32 ((((x20).Cur).Win).Bits).length c33), (vi (((x20).Old).N)), (vs a37 (((x20).Old).Key).length c38), (vi (((x20).Old).Seq)), (vi ((((x20).Old).Win).Top)), (vs a42 ((((x20).Old).Win).Bits).length c43), (vb ((x20).HasOld)), (vi ((x20).Until)), (vs a331 (x329).length c332)] rfl b352 isAgg_62 sizeOf_62) ?_
 have b362 := ((b339.ch k346 (Nat.ne_of_lt (Nat.lt_of_lt_of_le hgl (Nat.le_trans (z3 k4 k8 k19) p62)))).ch k351 (Nat.ne_of_lt (Nat.lt_of_lt_of_le hgl (p2))))
 have zz12 := z5 k64 k67 k72 k312 k317
 exact ⟨{ Role := (x20).Role, Sn := (x20).Sn, Cur := ((x20).Cur), Old := ((x20).Old), HasOld := (x20).HasOld, Until := (x20).Until, Next := (x329) : PChan }, m354, ⟨_, _, b362, (Rd.chP hcr m354 hcn), hcl, (by omega), hcn⟩, ⟨_, _, _, _, _, _, _, _, _, _, _, _, rfl, (own_lo o356 (z2 k4 k8)), s25, (own_lo o357 (z2 k4 k8)), s30, (own_lo o358 (z2 k4 k8)), s35, (own_lo o359 (z2 k4 k8)), s40, (own_lo o360 (z2 k4 k8)), s45, (own_lo o361 (z8 k4 k8 k19 k64 k67 k72 k312 k317)), s334, ⟨⟨(ap52.1.1), ⟨(ap52.1.2.1), ⟨(ap52.1.2.2.1), ⟨(ap52.1.2.2.2.1), ⟨(Ap.lt o24 o333 zz12), trivial⟩⟩⟩⟩⟩, ⟨⟨(ap52.2.1.1), ⟨(ap52.2.1.2.1), ⟨(ap52.2.1.2.2.1), ⟨(Ap.lt o29 o333 zz12), trivial⟩⟩⟩⟩, ⟨⟨(ap52.2.2.1.1), ⟨(ap52.2.2.1.2.1), ⟨(Ap.lt o34 o333 zz12), trivial⟩⟩⟩, ⟨⟨(ap52.2.2.2.1.1), ⟨(Ap.lt o39 o333 zz12), trivial⟩⟩, ⟨⟨(Ap.lt o44 o333 zz12), trivial⟩, ⟨trivial, trivial⟩⟩⟩⟩⟩⟩⟩, trivial⟩

theorem C_spec_DrawKeysOf (w0 : World) (v_x_code : Value) (x_code : List UInt8) (r_x_code : R_22 w0 v_x_code x_code)  : Fn Try.prog 32 #[v_x_code] w0 (fun v w' => ∃ x : (PChan), Keep w0 w' ∧ O_62 w' w0.heap.size v x ∧ (True)) := by
 obtain ⟨a1, c2, rfl, r3, s4⟩ := r_x_code
 refine fn_ofS (n := 8) [(vs a1 x_code.length c2)] Try.func32 rfl rfl ?_
 refine sr ?_
 refine al Z_62 wN zero_62 ?_
 intro g6 w1 p7 p8 k9 b10
 have m11 := (Ch.base w0).extk k9
 refine nx ?_
 refine mw (vs a1 x_code.length c2) ?_
 refine cl wN (C_spec_l1New w1 _ x_code (mR_22 (r3.from0 m11) s4)) ?_
 rintro _ w2 ⟨g13, k12, p14, rfl, hc22⟩
 obtain ⟨i15, h16, b17, r18, l19, p20, n21⟩ := hc22 _ _ rfl
 have m23 := m11.extk k12
 refine aw (vp g13 0) ?_
 refine nx ?_
 refine mw (vp g13 0) ?_
 refine cl wN (C_spec_l14Any w2 g13 a1 c2 x_code ⟨_, _, b17, (r3.from0 m23), s4, (by omega), (fun h0 z hz => Nat.ne_of_lt (Nat.lt_of_lt_of_le (rd_posB r3 h0 z hz) (Nat.le_trans k9.size p14)))⟩) ?_
 rintro _ w3 ⟨x25, k24, ⟨i58, h59, b60, r61, l62, p63, n64⟩, ⟨a27, c28, a32, c33, a37, c38, a42, c43, a47, c48, a52, c53, rfl, o29, s30, o34, s35, o39, s40, o44, s45, o49, s50, o54, s55, ap57⟩, q26⟩
 have m65 := m23.ext k24 (fun k hk => by subst hk; exact Nat.le_trans k9.size p14)
 have b66 := ((b10.kp k12).ch k24 (Nat.ne_of_lt (Nat.lt_of_lt_of_le p8 (p14))))
 refine sv (L_62 (x25) a27 c28 a32 c33 a37 c38 a42 c43 a47 c48 a52 c53) wN sizeOf_62 b66 ?_
 intro w4 k67 b68 z69
 have m70 := m65.ext k67 (fun k hk => by subst hk; exact p7)
 refine n3 ?_
 have o71 := (own_ch o29 k67 (ne1 o29 (Nat.lt_of_lt_of_le p8 k12.size)))
 have o72 := (own_ch o34 k67 (ne1 o34 (Nat.lt_of_lt_of_le p8 k12.size)))
 have o73 := (own_ch o39 k67 (ne1 o39 (Nat.lt_of_lt_of_le p8 k12.size)))
 have o74 := (own_ch o44 k67 (ne1 o44 (Nat.lt_of_lt_of_le p8 k12.size)))
 have o75 := (own_ch o49 k67 (ne1 o49 (Nat.lt_of_lt_of_le p8 k12.size)))
 have o76 := (own_ch o54 k67 (ne1 o54 (Nat.lt_of_lt_of_le p8 k12.size)))
 refine ret_1 (.inl rfl) (va (L_62 (x25) a27 c28 a32 c33 a37 c38 a42 c43 a47 c48 a52 c53)) rfl (rv_c (L_62 (x25) a27 c28 a32 c33 a37 c38 a42 c43 a47 c48 a52 c53) rfl b68 isAgg_62 sizeOf_62) ?_
 exact ⟨(x25), m70.keep0, ⟨_, _, _, _, _, _, _, _, _, _, _, _, rfl, (own_lo o71 (z2 k9 k12)), s30, (own_lo o72 (z2 k9 k12)), s35, (own_lo o73 (z2 k9 k12)), s40, (own_lo o74 (z2 k9 k12)), s45, (own_lo o75 (z2 k9 k12)), s50, (own_lo o76 (z2 k9 k12)), s55, ⟨⟨(ap57.1.1), ⟨(ap57.1.2.1), ⟨(ap57.1.2.2.1), ⟨(ap57.1.2.2.2.1), ⟨(ap57.1.2.2.2.2.1), trivial⟩⟩⟩⟩⟩, ⟨⟨(ap57.2.1.1), ⟨(ap57.2.1.2.1), ⟨(ap57.2.1.2.2.1), ⟨(ap57.2.1.2.2.2.1), trivial⟩⟩⟩⟩, ⟨⟨(ap57.2.2.1.1), ⟨(ap57.2.2.1.2.1), ⟨(ap57.2.2.1.2.2.1), trivial⟩⟩⟩, ⟨⟨(ap57.2.2.2.1.1), ⟨(ap57.2.2.2.1.2.1), trivial⟩⟩, ⟨⟨(ap57.2.2.2.2.1.1), trivial⟩, ⟨trivial, trivial⟩⟩⟩⟩⟩⟩⟩, trivial⟩

def F_impl_isRole (x_role : Int) : (Bool) := bif (decide (x_role = 0)) then (true) else (decide (x_role = 1))
theorem C_impl_isRole (w0 : World) (x_role : Int)  : Fn Try.prog 77 #[(vi x_role)] w0 (fun v w' => Keep w0 w' ∧ O_4 w' w0.heap.size v (F_impl_isRole x_role)) := by
 refine fn_ofS (n := 9) [(vi x_role)] Try.func77 rfl rfl ?_
 refine sr ?_
 refine aw (vb false) ?_
 refine nx ?_
 refine mw (vi x_role) ?_
 refine pu (vb (decide (x_role = 0))) wN ?_
 refine mw (vb (decide (x_role = 0))) ?_
 rcases bt (decide (x_role = 0)) with h1 | h1
 ·have q2 := of_decide_eq_true h1
  iterate 2 refine sk h1 ?_
  refine pk (vb true) wN h1 ?_
  refine aw (vb true) ?_
  refine n3 ?_
  refine rt (vb true) ?_
  refine ⟨Ch.refl _ _, ?_⟩
  simp only [F_impl_isRole, h1, cond_true, cond_false]
  exact rfl
 have q4 := of_decide_eq_false h1
 refine mv (vi x_role) (wS h1) ?_
 refine pu (vb (decide (x_role = 1))) (wS h1) ?_
 refine pf (vb (decide (x_role = 1))) wN h1 ?_
 refine aw (vb (decide (x_role = 1))) ?_
 refine n3 ?_
 refine rt (vb (decide (x_role = 1))) ?_
 refine ⟨Ch.refl _ _, ?_⟩
 simp only [F_impl_isRole, h1, cond_true, cond_false]
 exact rfl
theorem isRole_t {n : Int} (h : F_impl_isRole n = true) : n = 0 ∨ n = 1 := by
  by_cases h0 : n = 0
  · exact .inl h0
  · simp [F_impl_isRole, h0] at h; exact .inr h
theorem isRole_f {n : Int} (h : F_impl_isRole n = false) : ¬ n = 0 ∧ ¬ n = 1 := by
  by_cases h0 : n = 0 <;> by_cases h1 : n = 1 <;> simp [F_impl_isRole, h0, h1] at h
  exact ⟨h0, h1⟩

def F_impl_isNonce (x_b : List UInt8) : (Bool) := decide ((x_b.length : Int) = 12)
theorem C_impl_isNonce (w0 : World) (v_x_b : Value) (x_b : List UInt8) (r_x_b : R_22 w0 v_x_b x_b)  : Fn Try.prog 64 #[v_x_b] w0 (fun v w' => Keep w0 w' ∧ O_4 w' w0.heap.size v (F_impl_isNonce x_b)) := by
 obtain ⟨a1, c2, rfl, r3, s4⟩ := r_x_b
 refine fn_ofS (n := 6) [(vs a1 x_b.length c2)] Try.func64 rfl rfl ?_
 refine sr ?_
 refine aw (vb false) ?_
 refine nx ?_
 refine mw (vs a1 x_b.length c2) ?_
 refine ln wN slTy_22 r3 ?_
 refine pu (vb (decide ((x_b.length : Int) = 12))) wN ?_
 refine aw (vb (decide ((x_b.length : Int) = 12))) ?_
 refine n3 ?_
 refine rt (vb (decide ((x_b.length : Int) = 12))) ?_
 refine ⟨Ch.refl _ _, ?_⟩
 have hF6 : F_impl_isNonce x_b = decide ((x_b.length : Int) = 12) := by rfl
 rw [hF6]
 exact rfl
theorem isNonce_t {b : List UInt8} (h : F_impl_isNonce b = true) : (b.length : Int) = 12 := of_decide_eq_true h
theorem isNonce_f {b : List UInt8} (h : F_impl_isNonce b = false) : ¬ (b.length : Int) = 12 := of_decide_eq_false h

def F_impl_within (x_n : Int) (x_low : Int) (x_high : Int) : (Bool) := bif (decide (x_low ≤ x_n)) then (decide (x_n ≤ x_high)) else (false)
theorem C_impl_within (w0 : World) (x_n : Int) (x_low : Int) (x_high : Int)  : Fn Try.prog 55 #[(vi x_n), (vi x_low), (vi x_high)] w0 (fun v w' => Keep w0 w' ∧ O_4 w' w0.heap.size v (F_impl_within x_n x_low x_high)) := by
 refine fn_ofS (n := 15) [(vi x_n), (vi x_low), (vi x_high)] Try.func55 rfl rfl ?_
 refine sr ?_
 refine aw (vb false) ?_
 refine nx ?_
 refine mw (vi x_n) ?_
 refine mw (vi x_low) ?_
 refine pu (vb (decide (x_low ≤ x_n))) wN ?_
 refine mw (vb (decide (x_low ≤ x_n))) ?_
 rcases bf (decide (x_low ≤ x_n)) with h1 | h1
 ·have q4 := of_decide_eq_false h1
  iterate 3 refine sk h1 ?_
  refine pf (vb false) wN h1 ?_
  refine aw (vb false) ?_
  refine n3 ?_
  refine rt (vb false) ?_
  refine ⟨Ch.refl _ _, ?_⟩
  simp only [F_impl_within, h1, cond_true, cond_false]
  exact rfl
 have q2 := of_decide_eq_true h1
 refine mv (vi x_n) (wS h1) ?_
 refine mv (vi x_high) (wS h1) ?_
 refine pu (vb (decide (x_n ≤ x_high))) (wS h1) ?_
 refine pk (vb (decide (x_n ≤ x_high))) wN h1 ?_
 refine aw (vb (decide (x_n ≤ x_high))) ?_
 refine n3 ?_
 refine rt (vb (decide (x_n ≤ x_high))) ?_
 refine ⟨Ch.refl _ _, ?_⟩
 simp only [F_impl_within, h1, cond_true, cond_false]
 exact rfl
theorem impl_within_t {n a b : Int} (h : F_impl_within n a b = true) : a ≤ n ∧ n ≤ b := by
  unfold F_impl_within at h
  by_cases h1 : a ≤ n <;> simp [h1] at h
  exact ⟨h1, h⟩
theorem impl_within_f {n a b : Int} (h : F_impl_within n a b = false) : n < a ∨ b < n := by
  unfold F_impl_within at h
  by_cases h1 : a ≤ n <;> simp [h1] at h <;> omega

theorem C_impl_areWords (w0 : World) (v_x_l : Value) (x_l : List Int) (r_x_l : R_56 w0 v_x_l x_l) (x_n : Int)  : Fn Try.prog 121 #[v_x_l, (vi x_n)] w0 (fun v w' => Keep w0 w' ∧ O_4 w' w0.heap.size v (areW x_l x_n)) := by
 obtain ⟨a1, c2, rfl, r3, s4⟩ := r_x_l
 refine fn_ofS (n := 21) [(vs a1 x_l.length c2), (vi x_n)] Try.func121 rfl rfl ?_
 refine sr ?_
 refine aw (vb false) ?_
 refine n4 ?_
 refine mw (vs a1 x_l.length c2) ?_
 refine ln wN slTy_56 r3 ?_
 refine mw (vi 0) ?_
 refine wl_nil <| wq_then <| wc_block ?_
 refine wc_loopP [(0, (vs a1 x_l.length c2)), (1, (vi x_n)), (7, (vs a1 x_l.length c2)), (8, (vi (x_l.length : Int))), (9, (vi ((0 : Nat) : Int)))] ⟨rfl, rfl, rfl, rfl, (congrArg (Value.int .i64) (show (0 : Int) = ((0 : Nat) : Int) by omega)), trivial⟩ (fun e' w' => ∃ (k : Nat) (u6 : Env), e' = pt u6 [(0, (vs a1 x_l.length c2)), (1, (vi x_n)), (7, (vs a1 x_l.length c2)), (8, (vi (x_l.length : Int))), (9, (vi ((k : Nat) : Int)))] ∧ Ch (fun k => w0.heap.size ≤ k) w0 w' ∧ Ch (fun k => w0.heap.size ≤ k) w0 w' ∧ k ≤ x_l.length ∧ allW (x_l.take k) = true) (fun e' _ => x_l.length - ((intOf (e' 9))).toNat) ?_ ?_
 ·exact fun u => ⟨0, u, rfl, (Ch.base w0), (Ch.refl (fun k => w0.heap.size ≤ k) w0), (by omega), (by first | rfl | exact allW_next (by assumption) (by omega) (by assumption))⟩
 ·rintro _ w1 ⟨k, u6, rfl, m7, k8, i9, i10⟩
  refine sr ?_
  refine pu (vb (decide (((k : Nat) : Int) < (x_l.length : Int)))) wN ?_
  refine wl_nil <| wq_then <| wc_seq ?_
  rcases bf (decide (((k : Nat) : Int) < (x_l.length : Int))) with h11 | h11
  ·have q19 := of_decide_eq_false h11
   refine cf h11 ?_
   refine wc_exit <| wq_then_exit <| wq_then_exit <| wq_blk_exit <| wq_then <| sr ?_
   refine mw (vs a1 x_l.length c2) ?_
   refine ln wN slTy_56 (r3.from0 m7) ?_
   refine mw (vi x_n) ?_
   refine pu (vb (decide ((x_l.length : Int) = x_n))) wN ?_
   refine aw (vb (decide ((x_l.length : Int) = x_n))) ?_
   refine n3 ?_
   refine rt (vb (decide ((x_l.length : Int) = x_n))) ?_
   refine ⟨m7.keep0, ?_⟩
   have hF20 : areW x_l x_n = decide ((x_l.length : Int) = x_n) := by first | (have hz := allW_no (x := x_l) (k := k) (by omega) (by assumption); simp [areW, hz]) | (have hz := allW_all (x := x_l) (k := k) (by assumption) (by omega); simp [areW, hz])
   rw [hF20]
   exact rfl
  have q12 := of_decide_eq_true h11
  refine ct h11 ?_
  refine wc_skip <| wq_then <| wc_seq <| wc_block <| sr ?_
  refine ix wN ((k : Nat) : Int) slTy_56 (r3.from0 m7) ?_
  refine ei (x := x_l) k wN isAgg_3 (r3.from0 m7) ?_
  refine aw (vi (x_l.getD k 0)) ?_
  refine nx ?_
  refine mw (vi (x_l.getD k 0)) ?_
  refine cl wN (C_impl_within w1 (x_l.getD k 0) 0 4294967295) ?_
  rintro _ w2 ⟨k13, rfl⟩
  have m14 := m7.extk k13
  refine pu (vb (!(F_impl_within (x_l.getD k 0) 0 4294967295))) wN ?_
  refine n2 ?_
  rcases bf (F_impl_within (x_l.getD k 0) 0 4294967295) with h15 | h15
  ·have q17 := impl_within_f h15
   refine ct (congrArg not h15) ?_
   refine sr ?_
   refine aw (vb false) ?_
   refine wl_nil <| wq_then <| wc_ret <| wq_blk_ret <| wq_then_ret <| wq_then_ret <| wq_blk_ret <| wq_then_ret ?_
   refine rt (vb false) ?_
   refine ⟨m14.keep0, ?_⟩
   have hF18 : areW x_l x_n = false := by first | (have hz := allW_no (x := x_l) (k := k) (by omega) (by assumption); simp [areW, hz]) | (have hz := allW_all (x := x_l) (k := k) (by assumption) (by omega); simp [areW, hz])
   rw [hF18]
   exact rfl
  have q16 := impl_within_t h15
  refine cf (congrArg not h15) ?_
  refine wc_skip <| wq_blk_normal <| wq_then <| wc_region ?_
  refine ar (((k : Nat) : Int) + 1) wN ?_
  refine mw (vi (((k : Nat) : Int) + 1)) ?_
  refine wl_nil ?_
  refine wq_loopP (w0 := w1) [(0, (vs a1 x_l.length c2)), (1, (vi x_n)), (7, (vs a1 x_l.length c2)), (8, (vi (x_l.length : Int))), (9, (vi (((k + 1) : Nat) : Int)))] ?_ ?_ ?_
  · exact ⟨rfl, rfl, rfl, rfl, (congrArg (Value.int .i64) (show ((((k : Nat) : Int) + 1) : Int) = (((k + 1) : Nat) : Int) by omega)), trivial⟩
  · exact fun u => ⟨(k + 1), u, rfl, m14, (((Ch.refl (fun k => w0.heap.size ≤ k) w0).ext k8 (fun k hk => hk)).extk k13), (by omega), (by first | rfl | exact allW_next (by assumption) (by omega) (by assumption))⟩
  · show x_l.length - ((((k + 1) : Nat) : Int)).toNat < x_l.length - (((k : Nat) : Int)).toNat; omega

def F_impl_hasBit (x_w : PWin) (x_n : Int) : (Bool) := decide ((((x_w.Bits.getD (((x_n % 1024) / 32)).toNat 0) / (2 : Int) ^ ((x_n % 32)).toNat) % 2) = 1)
theorem C_impl_hasBit (w0 : World) (v_x_w : Value) (x_w : PWin) (r_x_w : R_58 w0 v_x_w x_w) (x_n : Int) (pre0 : x_w.Bits.length = 32) (pre1 : 0 ≤ x_n) : Fn Try.prog 122 #[v_x_w, (vi x_n)] w0 (fun v w' => Keep w0 w' ∧ O_4 w' w0.heap.size v (F_impl_hasBit x_w x_n)) := by
 obtain ⟨a1, c2, rfl, r3, s4⟩ := r_x_w
 refine fn_ofS (n := 17) [(va (L_58 x_w a1 c2)), (vi x_n)] Try.func122 rfl rfl ?_
 refine sr ?_
 refine bx (L_58 x_w a1 c2) wN ?_
 intro g6 w1 p7 p8 k9 b10
 have m11 := (Ch.base w0).extk k9
 refine aw (vb false) ?_
 refine nx ?_
 refine pu (vp g6 1) wN ?_
 refine ld (vs a1 x_w.Bits.length c2) wN isAgg_56 b10 ?_
 refine mw (vi x_n) ?_
 refine wl_rem x_n 1024 wN rfl rfl (by kernel_rfl) (by first | omega | assumption) ?_
 refine wl_quo (x_n % 1024) 32 wN rfl rfl (by kernel_rfl) (by omega) (by omega) (by omega) ?_
 refine ix wN ((x_n % 1024) / 32) slTy_56 (r3.from0 m11) ?_
 refine ei (x := x_w.Bits) ((((x_n % 1024) / 32)).toNat) wN isAgg_3 (r3.from0 m11) ?_
 refine mw (vi x_n) ?_
 refine wl_rem x_n 32 wN rfl rfl (by kernel_rfl) (by first | omega | assumption) ?_
 refine wl_shr (x_w.Bits.getD (((x_n % 1024) / 32)).toNat 0) (x_n % 32) wN rfl rfl rfl rfl rfl (by omega) (by omega) ?_
 refine wl_and ((x_w.Bits.getD (((x_n % 1024) / 32)).toNat 0) / (2 : Int) ^ ((x_n % 32)).toNat) 1 2 1 wN rfl rfl (by decide) (by decide) (by decide) (by kernel_rfl) ?_
 refine pu (vb (decide ((((x_w.Bits.getD (((x_n % 1024) / 32)).toNat 0) / (2 : Int) ^ ((x_n % 32)).toNat) % 2) = 1))) wN ?_
 refine aw (vb (decide ((((x_w.Bits.getD (((x_n % 1024) / 32)).toNat 0) / (2 : Int) ^ ((x_n % 32)).toNat) % 2) = 1))) ?_
 refine n3 ?_
 refine rt (vb (decide ((((x_w.Bits.getD (((x_n % 1024) / 32)).toNat 0) / (2 : Int) ^ ((x_n % 32)).toNat) % 2) = 1))) ?_
 refine ⟨m11.keep0, ?_⟩
 have hF12 : F_impl_hasBit x_w x_n = decide ((((x_w.Bits.getD (((x_n % 1024) / 32)).toNat 0) / (2 : Int) ^ ((x_n % 32)).toNat) % 2) = 1) := by rfl
 rw [hF12]
 exact rfl

def iWin (w : PWin) : Bool := bif F_impl_within w.Top (-1) 281474976710655 then (bif areW w.Bits 32 then (bif noneIn (F_impl_hasBit w) (w.Top + 1) 1024 then (decide (w.Top = -1) || F_impl_hasBit w w.Top) else false) else false) else false
theorem C_impl_WinOk (w0 : World) (v_x_w : Value) (x_w : PWin) (r_x_w : R_58 w0 v_x_w x_w)  : Fn Try.prog 99 #[v_x_w] w0 (fun v w' => Keep w0 w' ∧ O_4 w' w0.heap.size v (iWin x_w)) := by
 obtain ⟨a1, c2, rfl, r3, s4⟩ := r_x_w
 refine fn_ofS (n := 33) [(va (L_58 x_w a1 c2))] Try.func99 rfl rfl ?_
 refine sr ?_
 refine bx (L_58 x_w a1 c2) wN ?_
 intro g6 w1 p7 p8 k9 b10
 have m11 := (Ch.base w0).extk k9
 refine aw (vb false) ?_
 refine n4 ?_
 refine jT1 [(1, (vp g6 0)), (2, (vb false))] (iWin x_w = false) ?_ fun J12 => ?_
 ·intro hA13 w2 k15 u14
  have m16 := m11.extk k15
  refine sr ?_
  refine aw (vb false) ?_
  refine n1 ?_
  refine rt (vb false) ?_
  refine ⟨m16.keep0, ?_⟩
  rw [hA13]
  exact rfl
 refine pu (vp g6 0) wN ?_
 refine ld (vi x_w.Top) wN isAgg_3 b10 ?_
 refine cl wN (C_impl_within w1 x_w.Top (-1) 281474976710655) ?_
 rintro _ w2 ⟨k18, rfl⟩
 have m19 := m11.extk k18
 refine pu (vb (!(F_impl_within x_w.Top (-1) 281474976710655))) wN ?_
 refine mw (vb (!(F_impl_within x_w.Top (-1) 281474976710655))) ?_
 rcases bf (F_impl_within x_w.Top (-1) 281474976710655) with h20 | h20
 ·have q54 := impl_within_f h20
  iterate 4 refine sk (congrArg not h20) ?_
  refine pk (vb true) wN (congrArg not h20) ?_
  refine n2 ?_
  refine ct (Eq.refl true) ?_
  have hF55 : iWin x_w = false := by first | (simp [iWin, h20]; done) | (have hz := noneIn_f (f := F_impl_hasBit x_w) (a := x_w.Top + 1) (b := 1024) (q := q) (by assumption) (by omega) (by omega); simp [iWin, h20, hz]; done) | (have hz := noneIn_t (f := F_impl_hasBit x_w) (a := x_w.Top + 1) (b := 1024) (q := q) (by assumption) (by omega); simp [iWin, h20, hz]; done)
  exact wj (J12 hF55 _ k18)
 have q21 := impl_within_t h20
 refine pu (vp g6 1) (wS (congrArg not h20)) ?_
 have b22 := (b10.kp k18)
 refine ld (vs a1 x_w.Bits.length c2) (wS (congrArg not h20)) isAgg_56 b22 ?_
 refine cl (wS (congrArg not h20)) (C_impl_areWords w2 _ x_w.Bits (mR_56 (r3.from0 m19) s4) 32) ?_
 rintro _ w3 ⟨k23, rfl⟩
 have m24 := m19.extk k23
 refine pu (vb (!(areW x_w.Bits 32))) (wS (congrArg not h20)) ?_
 refine pf (vb (!(areW x_w.Bits 32))) wN (congrArg not h20) ?_
 refine n2 ?_
 rcases bf (areW x_w.Bits 32) with h25 | h25
 ·refine ct (congrArg not h25) ?_
  have hF53 : iWin x_w = false := by first | (simp [iWin, h20, h25]; done) | (have hz := noneIn_f (f := F_impl_hasBit x_w) (a := x_w.Top + 1) (b := 1024) (q := q) (by assumption) (by omega) (by omega); simp [iWin, h20, h25, hz]; done) | (have hz := noneIn_t (f := F_impl_hasBit x_w) (a := x_w.Top + 1) (b := 1024) (q := q) (by assumption) (by omega); simp [iWin, h20, h25, hz]; done)
  exact wj (J12 hF53 _ (k18.trans k23))
 have q26 := areW_t h25
 refine cf (congrArg not h25) ?_
 refine y2 ?_
 refine pu (vp g6 0) wN ?_
 have b27 := (b22.kp k23)
 refine ld (vi x_w.Top) wN isAgg_3 b27 ?_
 refine ar (x_w.Top + 1) wN ?_
 refine aw (vi (x_w.Top + 1)) ?_
 refine wl_nil <| wq_then <| wc_block ?_
 refine wc_loopP [(1, (vp g6 0)), (3, (vi (x_w.Top + 1)))] ⟨rfl, rfl, trivial⟩ (fun e' w' => ∃ (q : Int) (u28 : Env), e' = pt u28 [(1, (vp g6 0)), (3, (vi q))] ∧ Ch (fun k => w0.heap.size ≤ k) w0 w' ∧ Ch (fun k => w3.heap.size ≤ k) w3 w' ∧ x_w.Top + 1 ≤ q ∧ q ≤ 281474976710656 ∧ (∀ m : Int, x_w.Top + 1 ≤ m → m < q → F_impl_hasBit x_w m = false)) (fun e' _ => (1024 - (intOf (e' 3))).toNat) ?_ ?_
 ·exact fun u => ⟨(x_w.Top + 1), u, rfl, m24, (Ch.refl (fun k => w3.heap.size ≤ k) w3), (by omega), (by omega), (by first | (intro m h1 h2; omega) | exact none_next (by assumption) (by assumption))⟩
 ·rintro _ w4 ⟨q, u28, rfl, m29, k30, i31, i32, i33⟩
  refine wc_seq <| sr ?_
  refine mw (vi q) ?_
  refine pu (vb (decide (q < 1024))) wN ?_
  refine n2 ?_
  rcases bt (decide (q < 1024)) with h34 | h34
  ·have q35 := of_decide_eq_true h34
   refine ct h34 ?_
   refine wc_skip <| wq_then <| wc_seq <| wc_block <| sr ?_
   have b36 := (b27.ch k30 (Nat.not_le.2 (Nat.lt_of_lt_of_le p8 (z2 k18 k23))))
   refine lN (L_58 x_w a1 c2) wN isAgg_58 sizeOf_58 b36 ?_
   refine mw (vi q) ?_
   refine cl wN (C_impl_hasBit w4 _ x_w (mR_58 (r3.from0 m29) s4) q (by first | assumption | omega) (by first | assumption | omega)) ?_
   rintro _ w5 ⟨k37, rfl⟩
   have m38 := m29.extk k37
   refine n2 ?_
   rcases bf (F_impl_hasBit x_w q) with h39 | h39
   ·refine cf h39 ?_
    refine wc_skip <| wq_blk_normal <| wq_then <| wc_region ?_
    refine mw (vi q) ?_
    refine ar (q + 1) wN ?_
    refine aw (vi (q + 1)) ?_
    refine wl_nil ?_
    refine wq_loopP (w0 := w4) [(1, (vp g6 0)), (3, (vi (q + 1)))] ?_ ?_ ?_
    · exact ⟨rfl, rfl, trivial⟩
    · exact fun u => ⟨(q + 1), u, rfl, m38, (((Ch.refl (fun k => w3.heap.size ≤ k) w3).ext k30 (fun k hk => hk)).extk k37), (by omega), (by omega), (by first | (intro m h1 h2; omega) | exact none_next (by assumption) (by assumption))⟩
    · show (1024 - (q + 1)).toNat < (1024 - q).toNat; omega
   refine ct h39 ?_
   refine sr ?_
   refine aw (vb false) ?_
   refine wl_nil <| wq_then <| wc_ret <| wq_blk_ret <| wq_then_ret <| wq_then_ret <| wq_blk_ret <| wq_then_ret ?_
   refine rt (vb false) ?_
   refine ⟨m38.keep0, ?_⟩
   have hF41 : iWin x_w = false := by first | (simp [iWin, h20, h25, h34, h39]; done) | (have hz := noneIn_f (f := F_impl_hasBit x_w) (a := x_w.Top + 1) (b := 1024) (q := q) (by assumption) (by omega) (by omega); simp [iWin, h20, h25, h34, h39, hz]; done) | (have hz := noneIn_t (f := F_impl_hasBit x_w) (a := x_w.Top + 1) (b := 1024) (q := q) (by assumption) (by omega); simp [iWin, h20, h25, h34, h39, hz]; done)
   rw [hF41]
   exact rfl
  have q43 := of_decide_eq_false h34
  refine cf h34 ?_
  refine wc_exit <| wq_then_exit <| wq_then_exit <| wq_blk_exit <| wq_then <| sr ?_
  refine pu (vp g6 0) wN ?_
  have b44 := (b27.ch k30 (Nat.not_le.2 (Nat.lt_of_lt_of_le p8 (z2 k18 k23))))
  refine ld (vi x_w.Top) wN isAgg_3 b44 ?_
  refine pu (vb (decide (x_w.Top = (-1)))) wN ?_
  refine mw (vb (decide (x_w.Top = (-1)))) ?_
  rcases bt (decide (x_w.Top = (-1))) with h45 | h45
  ·have q46 := of_decide_eq_true h45
   iterate 4 refine sk h45 ?_
   refine pk (vb true) wN h45 ?_
   refine aw (vb true) ?_
   refine n3 ?_
   refine rt (vb true) ?_
   refine ⟨m29.keep0, ?_⟩
   have hF47 : iWin x_w = true := by first | (simp [iWin, h20, h25, h34, h45]; done) | (have hz := noneIn_f (f := F_impl_hasBit x_w) (a := x_w.Top + 1) (b := 1024) (q := q) (by assumption) (by omega) (by omega); simp [iWin, h20, h25, h34, h45, hz]; done) | (have hz := noneIn_t (f := F_impl_hasBit x_w) (a := x_w.Top + 1) (b := 1024) (q := q) (by assumption) (by omega); simp [iWin, h20, h25, h34, h45, hz]; done)
   rw [hF47]
   exact rfl
  have q48 := of_decide_eq_false h45
  refine lN (L_58 x_w a1 c2) (wS h45) isAgg_58 sizeOf_58 b44 ?_
  refine pu (vp g6 0) (wS h45) ?_
  refine ld (vi x_w.Top) (wS h45) isAgg_3 b44 ?_
  refine cl (wS h45) (C_impl_hasBit w4 _ x_w (mR_58 (r3.from0 m29) s4) x_w.Top (by first | assumption | omega) (by first | assumption | omega)) ?_
  rintro _ w5 ⟨k49, rfl⟩
  have m50 := m29.extk k49
  refine pf (vb (F_impl_hasBit x_w x_w.Top)) wN h45 ?_
  refine aw (vb (F_impl_hasBit x_w x_w.Top)) ?_
  refine n3 ?_
  refine rt (vb (F_impl_hasBit x_w x_w.Top)) ?_
  refine ⟨m50.keep0, ?_⟩
  have hF51 : iWin x_w = (F_impl_hasBit x_w x_w.Top) := by first | (simp [iWin, h20, h25, h34, h45]; done) | (have hz := noneIn_f (f := F_impl_hasBit x_w) (a := x_w.Top + 1) (b := 1024) (q := q) (by assumption) (by omega) (by omega); simp [iWin, h20, h25, h34, h45, hz]; done) | (have hz := noneIn_t (f := F_impl_hasBit x_w) (a := x_w.Top + 1) (b := 1024) (q := q) (by assumption) (by omega); simp [iWin, h20, h25, h34, h45, hz]; done)
  rw [hF51]
  exact rfl
theorem iWin_t {w : PWin} (h : iWin w = true) : allW w.Bits = true ∧ w.Bits.length = 32 ∧ -1 ≤ w.Top ∧ w.Top ≤ 281474976710655 := by
  unfold iWin at h
  cases h1 : F_impl_within w.Top (-1) 281474976710655 with
  | false => simp only [h1, cond_false] at h; cases h
  | true =>
    cases h2 : areW w.Bits 32 with
    | false => simp only [h1, h2, cond_true, cond_false] at h; cases h
    | true =>
      have h3 := areW_t h2
      have h4 := impl_within_t h1
      exact ⟨h3.1, by omega, h4.1, h4.2⟩

def R_60 (w : World) (v : Value) (x : (PEp)) : Prop := ∃ (a1 : Option Addr) (c1 : Nat) (a2 : Option Addr) (c2 : Nat), v = .agg #[.int .i64 x.N, .slice a1 x.Key.length c1, .int .i64 x.Seq, .int .i64 x.Win.Top, .slice a2 x.Win.Bits.length c2] ∧ Rd w 1 (.slice a1 x.Key.length c1) x.Key.length (x.Key.map bV) ∧ x.Key.length ≤ 1073741824 ∧ Rd w 1 (.slice a2 x.Win.Bits.length c2) x.Win.Bits.length (x.Win.Bits.map iV) ∧ x.Win.Bits.length ≤ 1073741824
def F_impl_EpOk (x_e : PEp) : (Bool) := bif (F_impl_within x_e.N 0 4294967295) then (bif (decide ((x_e.Key.length : Int) = 32)) then (bif (F_impl_within x_e.Seq 0 281474976710656) then ((iWin x_e.Win)) else (false)) else (false)) else (false)
theorem C_impl_EpOk (w0 : World) (v_x_e : Value) (x_e : PEp) (r_x_e : R_60 w0 v_x_e x_e)  : Fn Try.prog 78 #[v_x_e] w0 (fun v w' => Keep w0 w' ∧ O_4 w' w0.heap.size v (F_impl_EpOk x_e)) := by
 obtain ⟨a1, c2, a6, c7, rfl, r3, s4, r8, s9⟩ := r_x_e
 refine fn_ofS (n := 22) [(va (L_60 x_e a1 c2 a6 c7))] Try.func78 rfl rfl ?_
 refine sr ?_
 refine bx (L_60 x_e a1 c2 a6 c7) wN ?_
 intro g11 w1 p12 p13 k14 b15
 refine aw (vb false) ?_
 refine nx ?_
 refine pu (vp g11 0) wN ?_
 refine ld (vi x_e.N) wN isAgg_3 b15 ?_
 refine cl wN (C_impl_within w1 x_e.N 0 4294967295) ?_
 rintro _ w2 ⟨k17, rfl⟩
 have m18 := ((Ch.base w0).extk k14).extk k17
 refine mw (vb (F_impl_within x_e.N 0 4294967295)) ?_
 rcases bf (F_impl_within x_e.N 0 4294967295) with h19 | h19
 ·have q36 := impl_within_f h19
  iterate 4 refine sk h19 ?_
  refine pf (vb false) wN h19 ?_
  refine mw (vb false) ?_
  iterate 3 refine sk (Eq.refl false) ?_
  refine pf (vb false) wN (Eq.refl false) ?_
  refine mw (vb false) ?_
  iterate 3 refine sk (Eq.refl false) ?_
  refine pf (vb false) wN (Eq.refl false) ?_
  refine aw (vb false) ?_
  refine n3 ?_
  refine rt (vb false) ?_
  refine ⟨m18.keep0, ?_⟩
  simp only [F_impl_EpOk, h19, cond_true, cond_false]
  exact rfl
 have q20 := impl_within_t h19
 refine pu (vp g11 1) (wS h19) ?_
 have b21 := (b15.kp k17)
 refine ld (vs a1 x_e.Key.length c2) (wS h19) isAgg_22 b21 ?_
 refine ln (wS h19) slTy_22 (r3.from0 m18) ?_
 refine pu (vb (decide ((x_e.Key.length : Int) = 32))) (wS h19) ?_
 refine pk (vb (decide ((x_e.Key.length : Int) = 32))) wN h19 ?_
 refine mw (vb (decide ((x_e.Key.length : Int) = 32))) ?_
 rcases bf (decide ((x_e.Key.length : Int) = 32)) with h22 | h22
 ·have q34 := of_decide_eq_false h22
  iterate 3 refine sk h22 ?_
  refine pf (vb false) wN h22 ?_
  refine mw (vb false) ?_
  iterate 3 refine sk (Eq.refl false) ?_
  refine pf (vb false) wN (Eq.refl false) ?_
  refine aw (vb false) ?_
  refine n3 ?_
  refine rt (vb false) ?_
  refine ⟨m18.keep0, ?_⟩
  simp only [F_impl_EpOk, h19, h22, cond_true, cond_false]
  exact rfl
 have q23 := of_decide_eq_true h22
 refine pu (vp g11 2) (wS h22) ?_
 refine ld (vi x_e.Seq) (wS h22) isAgg_3 b21 ?_
 refine cl (wS h22) (C_impl_within w2 x_e.Seq 0 281474976710656) ?_
 rintro _ w3 ⟨k24, rfl⟩
 have m25 := m18.extk k24
 refine pk (vb (F_impl_within x_e.Seq 0 281474976710656)) wN h22 ?_
 refine mw (vb (F_impl_within x_e.Seq 0 281474976710656)) ?_
 rcases bf (F_impl_within x_e.Seq 0 281474976710656) with h26 | h26
 ·have q32 := impl_within_f h26
  iterate 3 refine sk h26 ?_
  refine pf (vb false) wN h26 ?_
  refine aw (vb false) ?_
  refine n3 ?_
  refine rt (vb false) ?_
  refine ⟨m25.keep0, ?_⟩
  simp only [F_impl_EpOk, h19, h22, h26, cond_true, cond_false]
  exact rfl
 have q27 := impl_within_t h26
 refine pu (vp g11 3) (wS h26) ?_
 have b28 := (b21.kp k24)
 refine lN (L_58 x_e.Win a6 c7) (wS h26) isAgg_58 sizeOf_58 b28 ?_
 refine cl (wS h26) (C_impl_WinOk w3 _ x_e.Win (mR_58 (r8.from0 m25) s9)) ?_
 rintro _ w4 ⟨k29, rfl⟩
 have m30 := m25.extk k29
 refine pk (vb (iWin x_e.Win)) wN h26 ?_
 refine aw (vb (iWin x_e.Win)) ?_
 refine n3 ?_
 refine rt (vb (iWin x_e.Win)) ?_
 refine ⟨m30.keep0, ?_⟩
 simp only [F_impl_EpOk, h19, h22, h26, cond_true, cond_false]
 exact rfl
theorem impl_EpOk_t {e : PEp} (h : F_impl_EpOk e = true) : 0 ≤ e.N ∧ e.N ≤ 4294967295 ∧ (e.Key.length : Int) = 32 ∧ 0 ≤ e.Seq ∧ e.Seq ≤ 281474976710656 ∧ iWin e.Win = true := by
  simp only [F_impl_EpOk, Bool.cond_false_right, Bool.and_eq_true, decide_eq_true_eq] at h
  have h1 := impl_within_t h.1
  have h2 := impl_within_t h.2.2.1
  exact ⟨h1.1, h1.2, h.2.1, h2.1, h2.2, h.2.2.2⟩

def F_bytes_Equal (x_a : List UInt8) (x_b : List UInt8) : (Bool) := (eqS (ByteArray.mk x_a.toArray) (ByteArray.mk x_b.toArray))
theorem C_bytes_Equal (w0 : World) (v_x_a : Value) (x_a : List UInt8) (r_x_a : R_22 w0 v_x_a x_a) (v_x_b : Value) (x_b : List UInt8) (r_x_b : R_22 w0 v_x_b x_b)  : Fn Try.prog 56 #[v_x_a, v_x_b] w0 (fun v w' => Keep w0 w' ∧ O_4 w' w0.heap.size v (F_bytes_Equal x_a x_b)) := by
 obtain ⟨a1, c2, rfl, r3, s4⟩ := r_x_a
 obtain ⟨a6, c7, rfl, r8, s9⟩ := r_x_b
 refine fn_ofS (n := 10) [(vs a1 x_a.length c2), (vs a6 x_b.length c7)] Try.func56 rfl rfl ?_
 refine sr ?_
 refine aw (vb false) ?_
 refine nx ?_
 refine mw (vs a1 x_a.length c2) ?_
 refine wl_b2s x_a wN rfl rfl rfl rfl Try.underlying22 Try.underlying5 Try.underlying9 r3 ?_
 refine mw (vs a6 x_b.length c7) ?_
 refine wl_b2s x_b wN rfl rfl rfl rfl Try.underlying22 Try.underlying5 Try.underlying9 r8 ?_
 refine pu (vb (eqS (ByteArray.mk x_a.toArray) (ByteArray.mk x_b.toArray))) wN ?_
 refine aw (vb (eqS (ByteArray.mk x_a.toArray) (ByteArray.mk x_b.toArray))) ?_
 refine n3 ?_
 refine rt (vb (eqS (ByteArray.mk x_a.toArray) (ByteArray.mk x_b.toArray))) ?_
 refine ⟨Ch.refl _ _, ?_⟩
 have hF11 : F_bytes_Equal x_a x_b = (eqS (ByteArray.mk x_a.toArray) (ByteArray.mk x_b.toArray)) := by rfl
 rw [hF11]
 exact rfl

theorem C_impl_sameInts (w0 : World) (v_x_a : Value) (x_a : List Int) (r_x_a : R_56 w0 v_x_a x_a) (v_x_b : Value) (x_b : List Int) (r_x_b : R_56 w0 v_x_b x_b)  : Fn Try.prog 123 #[v_x_a, v_x_b] w0 (fun v w' => Keep w0 w' ∧ O_4 w' w0.heap.size v (eqI x_a x_b)) := by
 obtain ⟨a1, c2, rfl, r3, s4⟩ := r_x_a
 obtain ⟨a6, c7, rfl, r8, s9⟩ := r_x_b
 refine fn_ofS (n := 26) [(vs a1 x_a.length c2), (vs a6 x_b.length c7)] Try.func123 rfl rfl ?_
 refine sr ?_
 refine aw (vb false) ?_
 refine n4 ?_
 refine mw (vs a1 x_a.length c2) ?_
 refine ln wN slTy_56 r3 ?_
 refine mw (vs a6 x_b.length c7) ?_
 refine ln wN slTy_56 r8 ?_
 refine pu (vb (!(decide ((x_a.length : Int) = (x_b.length : Int))))) wN ?_
 refine n2 ?_
 rcases bf (decide ((x_a.length : Int) = (x_b.length : Int))) with h11 | h11
 ·have q26 := of_decide_eq_false h11
  refine ct (congrArg not h11) ?_
  refine sr ?_
  refine aw (vb false) ?_
  refine n1 ?_
  refine rt (vb false) ?_
  refine ⟨Ch.refl _ _, ?_⟩
  have hF27 : eqI x_a x_b = false := by first | exact eqI_len (by assumption) | exact eqI_el (by assumption) | exact eqI_all (by assumption) (by omega) (by omega)
  rw [hF27]
  exact rfl
 have q12 := of_decide_eq_true h11
 refine cf (congrArg not h11) ?_
 refine y2 ?_
 refine mw (vs a1 x_a.length c2) ?_
 refine ln wN slTy_56 r3 ?_
 refine mw (vi 0) ?_
 refine wl_nil <| wq_then <| wc_block ?_
 refine wc_loopP [(1, (vs a6 x_b.length c7)), (12, (vs a1 x_a.length c2)), (13, (vi (x_a.length : Int))), (14, (vi ((0 : Nat) : Int)))] ⟨rfl, rfl, rfl, (congrArg (Value.int .i64) (show (0 : Int) = ((0 : Nat) : Int) by omega)), trivial⟩ (fun e' w' => ∃ (k : Nat) (u13 : Env), e' = pt u13 [(1, (vs a6 x_b.length c7)), (12, (vs a1 x_a.length c2)), (13, (vi (x_a.length : Int))), (14, (vi ((k : Nat) : Int)))] ∧ Ch (fun k => w0.heap.size ≤ k) w0 w' ∧ Ch (fun k => w0.heap.size ≤ k) w0 w' ∧ k ≤ x_a.length ∧ x_a.take k = x_b.take k) (fun e' _ => x_a.length - ((intOf (e' 14))).toNat) ?_ ?_
 ·exact fun u => ⟨0, u, rfl, (Ch.base w0), (Ch.refl (fun k => w0.heap.size ≤ k) w0), (by omega), (by first | rfl | exact eqI_next (by assumption) (by omega) (by omega) (by assumption))⟩
 ·rintro _ w1 ⟨k, u13, rfl, m14, k15, i16, i17⟩
  refine sr ?_
  refine pu (vb (decide (((k : Nat) : Int) < (x_a.length : Int)))) wN ?_
  refine wl_nil <| wq_then <| wc_seq ?_
  rcases bf (decide (((k : Nat) : Int) < (x_a.length : Int))) with h18 | h18
  ·have q24 := of_decide_eq_false h18
   refine cf h18 ?_
   refine wc_exit <| wq_then_exit <| wq_then_exit <| wq_blk_exit <| wq_then <| sr ?_
   refine aw (vb true) ?_
   refine n3 ?_
   refine rt (vb true) ?_
   refine ⟨m14.keep0, ?_⟩
   have hF25 : eqI x_a x_b = true := by first | exact eqI_len (by assumption) | exact eqI_el (by assumption) | exact eqI_all (by assumption) (by omega) (by omega)
   rw [hF25]
   exact rfl
  have q19 := of_decide_eq_true h18
  refine ct h18 ?_
  refine wc_skip <| wq_then <| wc_seq <| wc_block <| sr ?_
  refine mw (vi ((k : Nat) : Int)) ?_
  refine ix wN ((k : Nat) : Int) slTy_56 (r3.from0 m14) ?_
  refine ei (x := x_a) k wN isAgg_3 (r3.from0 m14) ?_
  refine aw (vi ((k : Nat) : Int)) ?_
  refine aw (vi (x_a.getD k 0)) ?_
  refine nx ?_
  refine mw (vi (x_a.getD k 0)) ?_
  refine mw (vs a6 x_b.length c7) ?_
  refine mw (vi ((k : Nat) : Int)) ?_
  refine ix wN ((k : Nat) : Int) slTy_56 (r8.from0 m14) ?_
  refine ei (x := x_b) k wN isAgg_3 (r8.from0 m14) ?_
  refine pu (vb (!(decide ((x_a.getD k 0) = (x_b.getD k 0))))) wN ?_
  refine n2 ?_
  rcases bf (decide ((x_a.getD k 0) = (x_b.getD k 0))) with h20 | h20
  ·have q22 := of_decide_eq_false h20
   refine ct (congrArg not h20) ?_
   refine sr ?_
   refine aw (vb false) ?_
   refine wl_nil <| wq_then <| wc_ret <| wq_blk_ret <| wq_then_ret <| wq_then_ret <| wq_blk_ret <| wq_then_ret ?_
   refine rt (vb false) ?_
   refine ⟨m14.keep0, ?_⟩
   have hF23 : eqI x_a x_b = false := by first | exact eqI_len (by assumption) | exact eqI_el (by assumption) | exact eqI_all (by assumption) (by omega) (by omega)
   rw [hF23]
   exact rfl
  have q21 := of_decide_eq_true h20
  refine cf (congrArg not h20) ?_
  refine wc_skip <| wq_blk_normal <| wq_then <| wc_region ?_
  refine ar (((k : Nat) : Int) + 1) wN ?_
  refine mw (vi (((k : Nat) : Int) + 1)) ?_
  refine wl_nil ?_
  refine wq_loopP (w0 := w1) [(1, (vs a6 x_b.length c7)), (12, (vs a1 x_a.length c2)), (13, (vi (x_a.length : Int))), (14, (vi (((k + 1) : Nat) : Int)))] ?_ ?_ ?_
  · exact ⟨rfl, rfl, rfl, (congrArg (Value.int .i64) (show ((((k : Nat) : Int) + 1) : Int) = (((k + 1) : Nat) : Int) by omega)), trivial⟩
  · exact fun u => ⟨(k + 1), u, rfl, m14, ((Ch.refl (fun k => w0.heap.size ≤ k) w0).ext k15 (fun k hk => hk)), (by omega), (by first | rfl | exact eqI_next (by assumption) (by omega) (by omega) (by assumption))⟩
  · show x_a.length - ((((k + 1) : Nat) : Int)).toNat < x_a.length - (((k : Nat) : Int)).toNat; omega

def F_impl_sameEp (x_a : PEp) (x_b : PEp) : (Bool) := bif (decide (x_a.N = x_b.N)) then (bif (F_bytes_Equal x_a.Key x_b.Key) then (bif (decide (x_a.Seq = x_b.Seq)) then (bif (decide (x_a.Win.Top = x_b.Win.Top)) then ((eqI x_a.Win.Bits x_b.Win.Bits)) else (false)) else (false)) else (false)) else (false)
theorem C_impl_sameEp (w0 : World) (v_x_a : Value) (x_a : PEp) (r_x_a : R_60 w0 v_x_a x_a) (v_x_b : Value) (x_b : PEp) (r_x_b : R_60 w0 v_x_b x_b)  : Fn Try.prog 100 #[v_x_a, v_x_b] w0 (fun v w' => Keep w0 w' ∧ O_4 w' w0.heap.size v (F_impl_sameEp x_a x_b)) := by
 obtain ⟨a1, c2, a6, c7, rfl, r3, s4, r8, s9⟩ := r_x_a
 obtain ⟨a11, c12, a16, c17, rfl, r13, s14, r18, s19⟩ := r_x_b
 refine fn_ofS (n := 42) [(va (L_60 x_a a1 c2 a6 c7)), (va (L_60 x_b a11 c12 a16 c17))] Try.func100 rfl rfl ?_
 refine sr ?_
 refine bx (L_60 x_a a1 c2 a6 c7) wN ?_
 intro g21 w1 p22 p23 k24 b25
 refine bx (L_60 x_b a11 c12 a16 c17) wN ?_
 intro g27 w2 p28 p29 k30 b31
 have m32 := ((Ch.base w0).extk k24).extk k30
 refine aw (vb false) ?_
 refine nx ?_
 refine pu (vp g21 0) wN ?_
 have b33 := (b25.kp k30)
 refine ld (vi x_a.N) wN isAgg_3 b33 ?_
 refine pu (vp g27 0) wN ?_
 refine ld (vi x_b.N) wN isAgg_3 b31 ?_
 refine pu (vb (decide (x_a.N = x_b.N))) wN ?_
 refine mw (vb (decide (x_a.N = x_b.N))) ?_
 rcases bf (decide (x_a.N = x_b.N)) with h34 | h34
 ·have q55 := of_decide_eq_false h34
  iterate 5 refine sk h34 ?_
  refine pf (vb false) wN h34 ?_
  refine mw (vb false) ?_
  iterate 5 refine sk (Eq.refl false) ?_
  refine pf (vb false) wN (Eq.refl false) ?_
  refine mw (vb false) ?_
  iterate 7 refine sk (Eq.refl false) ?_
  refine pf (vb false) wN (Eq.refl false) ?_
  refine mw (vb false) ?_
  iterate 7 refine sk (Eq.refl false) ?_
  refine pf (vb false) wN (Eq.refl false) ?_
  refine aw (vb false) ?_
  refine n3 ?_
  refine rt (vb false) ?_
  refine ⟨m32.keep0, ?_⟩
  simp only [F_impl_sameEp, h34, cond_true, cond_false]
  exact rfl
 have q35 := of_decide_eq_true h34
 refine pu (vp g21 1) (wS h34) ?_
 refine ld (vs a1 x_a.Key.length c2) (wS h34) isAgg_22 b33 ?_
 refine pu (vp g27 1) (wS h34) ?_
 refine ld (vs a11 x_b.Key.length c12) (wS h34) isAgg_22 b31 ?_
 refine cl (wS h34) (C_bytes_Equal w2 _ x_a.Key (mR_22 (r3.from0 m32) s4) _ x_b.Key (mR_22 (r13.from0 m32) s14)) ?_
 rintro _ w3 ⟨k36, rfl⟩
 have m37 := m32.extk k36
 refine pk (vb (F_bytes_Equal x_a.Key x_b.Key)) wN h34 ?_
 refine mw (vb (F_bytes_Equal x_a.Key x_b.Key)) ?_
 rcases bf (F_bytes_Equal x_a.Key x_b.Key) with h38 | h38
 ·iterate 5 refine sk h38 ?_
  refine pf (vb false) wN h38 ?_
  refine mw (vb false) ?_
  iterate 7 refine sk (Eq.refl false) ?_
  refine pf (vb false) wN (Eq.refl false) ?_
  refine mw (vb false) ?_
  iterate 7 refine sk (Eq.refl false) ?_
  refine pf (vb false) wN (Eq.refl false) ?_
  refine aw (vb false) ?_
  refine n3 ?_
  refine rt (vb false) ?_
  refine ⟨m37.keep0, ?_⟩
  simp only [F_impl_sameEp, h34, h38, cond_true, cond_false]
  exact rfl
 refine pu (vp g21 2) (wS h38) ?_
 have b40 := (b33.kp k36)
 refine ld (vi x_a.Seq) (wS h38) isAgg_3 b40 ?_
 refine pu (vp g27 2) (wS h38) ?_
 have b41 := (b31.kp k36)
 refine ld (vi x_b.Seq) (wS h38) isAgg_3 b41 ?_
 refine pu (vb (decide (x_a.Seq = x_b.Seq))) (wS h38) ?_
 refine pk (vb (decide (x_a.Seq = x_b.Seq))) wN h38 ?_
 refine mw (vb (decide (x_a.Seq = x_b.Seq))) ?_
 rcases bf (decide (x_a.Seq = x_b.Seq)) with h42 | h42
 ·have q51 := of_decide_eq_false h42
  iterate 7 refine sk h42 ?_
  refine pf (vb false) wN h42 ?_
  refine mw (vb false) ?_
  iterate 7 refine sk (Eq.refl false) ?_
  refine pf (vb false) wN (Eq.refl false) ?_
  refine aw (vb false) ?_
  refine n3 ?_
  refine rt (vb false) ?_
  refine ⟨m37.keep0, ?_⟩
  simp only [F_impl_sameEp, h34, h38, h42, cond_true, cond_false]
  exact rfl
 have q43 := of_decide_eq_true h42
 refine pu (vp g21 3) (wS h42) ?_
 refine pu (vp g21 3) (wS h42) ?_
 refine ld (vi x_a.Win.Top) (wS h42) isAgg_3 b40 ?_
 refine pu (vp g27 3) (wS h42) ?_
 refine pu (vp g27 3) (wS h42) ?_
 refine ld (vi x_b.Win.Top) (wS h42) isAgg_3 b41 ?_
 refine pu (vb (decide (x_a.Win.Top = x_b.Win.Top))) (wS h42) ?_
 refine pk (vb (decide (x_a.Win.Top = x_b.Win.Top))) wN h42 ?_
 refine mw (vb (decide (x_a.Win.Top = x_b.Win.Top))) ?_
 rcases bf (decide (x_a.Win.Top = x_b.Win.Top)) with h44 | h44
 ·have q49 := of_decide_eq_false h44
  iterate 7 refine sk h44 ?_
  refine pf (vb false) wN h44 ?_
  refine aw (vb false) ?_
  refine n3 ?_
  refine rt (vb false) ?_
  refine ⟨m37.keep0, ?_⟩
  simp only [F_impl_sameEp, h34, h38, h42, h44, cond_true, cond_false]
  exact rfl
 have q45 := of_decide_eq_true h44
 refine pu (vp g21 3) (wS h44) ?_
 refine pu (vp g21 4) (wS h44) ?_
 refine ld (vs a6 x_a.Win.Bits.length c7) (wS h44) isAgg_56 b40 ?_
 refine pu (vp g27 3) (wS h44) ?_
 refine pu (vp g27 4) (wS h44) ?_
 refine ld (vs a16 x_b.Win.Bits.length c17) (wS h44) isAgg_56 b41 ?_
 refine cl (wS h44) (C_impl_sameInts w3 _ x_a.Win.Bits (mR_56 (r8.from0 m37) s9) _ x_b.Win.Bits (mR_56 (r18.from0 m37) s19)) ?_
 rintro _ w4 ⟨k46, rfl⟩
 have m47 := m37.extk k46
 refine pk (vb (eqI x_a.Win.Bits x_b.Win.Bits)) wN h44 ?_
 refine aw (vb (eqI x_a.Win.Bits x_b.Win.Bits)) ?_
 refine n3 ?_
 refine rt (vb (eqI x_a.Win.Bits x_b.Win.Bits)) ?_
 refine ⟨m47.keep0, ?_⟩
 simp only [F_impl_sameEp, h34, h38, h42, h44, cond_true, cond_false]
 exact rfl

def R_62 (w : World) (v : Value) (x : (PChan)) : Prop := ∃ (a1 : Option Addr) (c1 : Nat) (a2 : Option Addr) (c2 : Nat) (a3 : Option Addr) (c3 : Nat) (a4 : Option Addr) (c4 : Nat) (a5 : Option Addr) (c5 : Nat) (a6 : Option Addr) (c6 : Nat), v = .agg #[.int .i64 x.Role, .slice a1 x.Sn.length c1, .int .i64 x.Cur.N, .slice a2 x.Cur.Key.length c2, .int .i64 x.Cur.Seq, .int .i64 x.Cur.Win.Top, .slice a3 x.Cur.Win.Bits.length c3, .int .i64 x.Old.N, .slice a4 x.Old.Key.length c4, .int .i64 x.Old.Seq, .int .i64 x.Old.Win.Top, .slice a5 x.Old.Win.Bits.length c5, .bool x.HasOld, .int .i64 x.Until, .slice a6 x.Next.length c6] ∧ Rd w 1 (.slice a1 x.Sn.length c1) x.Sn.length (x.Sn.map bV) ∧ x.Sn.length ≤ 1073741824 ∧ Rd w 1 (.slice a2 x.Cur.Key.length c2) x.Cur.Key.length (x.Cur.Key.map bV) ∧ x.Cur.Key.length ≤ 1073741824 ∧ Rd w 1 (.slice a3 x.Cur.Win.Bits.length c3) x.Cur.Win.Bits.length (x.Cur.Win.Bits.map iV) ∧ x.Cur.Win.Bits.length ≤ 1073741824 ∧ Rd w 1 (.slice a4 x.Old.Key.length c4) x.Old.Key.length (x.Old.Key.map bV) ∧ x.Old.Key.length ≤ 1073741824 ∧ Rd w 1 (.slice a5 x.Old.Win.Bits.length c5) x.Old.Win.Bits.length (x.Old.Win.Bits.map iV) ∧ x.Old.Win.Bits.length ≤ 1073741824 ∧ Rd w 1 (.slice a6 x.Next.length c6) x.Next.length (x.Next.map bV) ∧ x.Next.length ≤ 1073741824
theorem mR_60 {w : World} {x : PEp} {a1 : Option Addr} {c1 : Nat} {a2 : Option Addr} {c2 : Nat} (h1 : Rd w 1 (.slice a1 x.Key.length c1) x.Key.length (x.Key.map bV)) (l1 : x.Key.length ≤ 1073741824) (h2 : Rd w 1 (.slice a2 x.Win.Bits.length c2) x.Win.Bits.length (x.Win.Bits.map iV)) (l2 : x.Win.Bits.length ≤ 1073741824) : R_60 w (va (L_60 x a1 c1 a2 c2)) x := ⟨_, _, _, _, rfl, h1, l1, h2, l2⟩
def F_impl_oldOk (x_c : PChan) : (Bool) := bif x_c.HasOld then (bif (F_impl_EpOk x_c.Old) then (bif (decide (x_c.Old.N = (x_c.Cur.N - 1))) then (bif (F_impl_within x_c.Until 0 1000005) then (true) else (bif (decide (x_c.Until = (-1))) then (decide (x_c.Role = 1)) else (false))) else (false)) else (false)) else (bif (F_impl_sameEp x_c.Old { N := 0, Key := [], Seq := 0, Win := { Top := 0, Bits := [] : PWin } : PEp }) then (decide (x_c.Until = 0)) else (false))
theorem C_impl_oldOk (w0 : World) (v_x_c : Value) (x_c : PChan) (r_x_c : R_62 w0 v_x_c x_c) (pre0 : 0 ≤ x_c.Cur.N) (pre1 : x_c.Cur.N ≤ 4294967295) : Fn Try.prog 79 #[v_x_c] w0 (fun v w' => Keep w0 w' ∧ O_4 w' w0.heap.size v (F_impl_oldOk x_c)) := by
 obtain ⟨a1, c2, a6, c7, a11, c12, a16, c17, a21, c22, a26, c27, rfl, r3, s4, r8, s9, r13, s14, r18, s19, r23, s24, r28, s29⟩ := r_x_c
 refine fn_ofS (n := 42) [(va (L_62 x_c a1 c2 a6 c7 a11 c12 a16 c17 a21 c22 a26 c27))] Try.func79 rfl rfl ?_
 refine sr ?_
 refine bx (L_62 x_c a1 c2 a6 c7 a11 c12 a16 c17 a21 c22 a26 c27) wN ?_
 intro g31 w1 p32 p33 k34 b35
 have m36 := (Ch.base w0).extk k34
 refine aw (vb false) ?_
 refine n4 ?_
 refine pu (vp g31 12) wN ?_
 refine ld (vb x_c.HasOld) wN isAgg_4 b35 ?_
 refine pu (vb (!x_c.HasOld)) wN ?_
 refine n2 ?_
 rcases bf x_c.HasOld with h37 | h37
 ·refine ct (congrArg not h37) ?_
  refine sr ?_
  refine pu (vp g31 7) wN ?_
  refine lN (L_60 x_c.Old a16 c17 a21 c22) wN isAgg_60 sizeOf_60 b35 ?_
  refine pu (va Z_60) wN ?_
  refine cl wN (C_impl_sameEp w1 _ x_c.Old (mR_60 (r18.from0 m36) s19 (r23.from0 m36) s24) _ _ (show R_60 w1 (va Z_60) { N := 0, Key := [], Seq := 0, Win := { Top := 0, Bits := [] : PWin } : PEp } from ⟨_, _, _, _, rfl, (Rd.nil _ _), (by simp), (Rd.nil _ _), (by simp)⟩)) ?_
  rintro _ w2 ⟨k69, rfl⟩
  have m70 := m36.extk k69
  refine mw (vb (F_impl_sameEp x_c.Old { N := 0, Key := [], Seq := 0, Win := { Top := 0, Bits := [] : PWin } : PEp })) ?_
  rcases bf (F_impl_sameEp x_c.Old { N := 0, Key := [], Seq := 0, Win := { Top := 0, Bits := [] : PWin } : PEp }) with h71 | h71
  ·iterate 3 refine sk h71 ?_
   refine pf (vb false) wN h71 ?_
   refine aw (vb false) ?_
   refine n1 ?_
   refine rt (vb false) ?_
   refine ⟨m70.keep0, ?_⟩
   simp only [F_impl_oldOk, h37, h71, cond_true, cond_false]
   exact rfl
  refine pu (vp g31 13) (wS h71) ?_
  have b73 := (b35.kp k69)
  refine ld (vi x_c.Until) (wS h71) isAgg_3 b73 ?_
  refine pu (vb (decide (x_c.Until = 0))) (wS h71) ?_
  refine pk (vb (decide (x_c.Until = 0))) wN h71 ?_
  refine aw (vb (decide (x_c.Until = 0))) ?_
  refine n1 ?_
  refine rt (vb (decide (x_c.Until = 0))) ?_
  refine ⟨m70.keep0, ?_⟩
  simp only [F_impl_oldOk, h37, h71, cond_true, cond_false]
  exact rfl
 refine cf (congrArg not h37) ?_
 refine y2 ?_
 refine jT1 [(1, (vp g31 0)), (2, (vb false))] (F_impl_oldOk x_c = false) ?_ fun J39 => ?_
 ·intro hA40 w2 k42 u41
  have m43 := m36.extk k42
  refine sr ?_
  refine aw (vb false) ?_
  refine n1 ?_
  refine rt (vb false) ?_
  refine ⟨m43.keep0, ?_⟩
  rw [hA40]
  exact rfl
 refine pu (vp g31 7) wN ?_
 refine lN (L_60 x_c.Old a16 c17 a21 c22) wN isAgg_60 sizeOf_60 b35 ?_
 refine cl wN (C_impl_EpOk w1 _ x_c.Old (mR_60 (r18.from0 m36) s19 (r23.from0 m36) s24)) ?_
 rintro _ w2 ⟨k45, rfl⟩
 refine pu (vb (!(F_impl_EpOk x_c.Old))) wN ?_
 refine mw (vb (!(F_impl_EpOk x_c.Old))) ?_
 rcases bf (F_impl_EpOk x_c.Old) with h47 | h47
 ·iterate 8 refine sk (congrArg not h47) ?_
  refine pk (vb true) wN (congrArg not h47) ?_
  refine n2 ?_
  refine ct (Eq.refl true) ?_
  have hF67 : F_impl_oldOk x_c = false := by simp only [F_impl_oldOk, h37, h47, cond_true, cond_false]
  exact wj (J39 hF67 _ k45)
 have q48 := impl_EpOk_t h47
 refine pu (vp g31 7) (wS (congrArg not h47)) ?_
 refine pu (vp g31 7) (wS (congrArg not h47)) ?_
 have b49 := (b35.kp k45)
 refine ld (vi x_c.Old.N) (wS (congrArg not h47)) isAgg_3 b49 ?_
 refine pu (vp g31 2) (wS (congrArg not h47)) ?_
 refine pu (vp g31 2) (wS (congrArg not h47)) ?_
 refine ld (vi x_c.Cur.N) (wS (congrArg not h47)) isAgg_3 b49 ?_
 refine ar (x_c.Cur.N - 1) (wS (congrArg not h47)) ?_
 refine pu (vb (!(decide (x_c.Old.N = (x_c.Cur.N - 1))))) (wS (congrArg not h47)) ?_
 refine pf (vb (!(decide (x_c.Old.N = (x_c.Cur.N - 1))))) wN (congrArg not h47) ?_
 refine n2 ?_
 rcases bf (decide (x_c.Old.N = (x_c.Cur.N - 1))) with h50 | h50
 ·have q64 := of_decide_eq_false h50
  refine ct (congrArg not h50) ?_
  have hF65 : F_impl_oldOk x_c = false := by simp only [F_impl_oldOk, h37, h47, h50, cond_true, cond_false]
  exact wj (J39 hF65 _ k45)
 have q51 := of_decide_eq_true h50
 refine cf (congrArg not h50) ?_
 refine y1 ?_
 refine pu (vp g31 13) wN ?_
 refine ld (vi x_c.Until) wN isAgg_3 b49 ?_
 refine cl wN (C_impl_within w2 x_c.Until 0 1000005) ?_
 rintro _ w3 ⟨k52, rfl⟩
 have m53 := (m36.extk k45).extk k52
 refine mw (vb (F_impl_within x_c.Until 0 1000005)) ?_
 rcases bt (F_impl_within x_c.Until 0 1000005) with h54 | h54
 ·have q55 := impl_within_t h54
  iterate 4 refine sk h54 ?_
  refine su ?_
  refine su ?_
  refine su ?_
  refine sk h54 ?_
  refine pk (vb true) wN h54 ?_
  refine aw (vb true) ?_
  refine n3 ?_
  refine rt (vb true) ?_
  refine ⟨m53.keep0, ?_⟩
  simp only [F_impl_oldOk, h37, h47, h50, h54, cond_true, cond_false]
  exact rfl
 have q57 := impl_within_f h54
 refine pu (vp g31 13) (wS h54) ?_
 have b58 := (b49.kp k52)
 refine ld (vi x_c.Until) (wS h54) isAgg_3 b58 ?_
 refine pu (vb (decide (x_c.Until = (-1)))) (wS h54) ?_
 refine mv (vb (decide (x_c.Until = (-1)))) (wS h54) ?_
 rcases bf (decide (x_c.Until = (-1))) with h59 | h59
 ·have q62 := of_decide_eq_false h59
  iterate 3 refine sk h59 ?_
  refine pf (vb false) (wS h54) h59 ?_
  refine pf (vb false) wN h54 ?_
  refine aw (vb false) ?_
  refine n3 ?_
  refine rt (vb false) ?_
  refine ⟨m53.keep0, ?_⟩
  simp only [F_impl_oldOk, h37, h47, h50, h54, h59, cond_true, cond_false]
  exact rfl
 have q60 := of_decide_eq_true h59
 refine pu (vp g31 0) (wS h59) ?_
 refine ld (vi x_c.Role) (wS h59) isAgg_3 b58 ?_
 refine pu (vb (decide (x_c.Role = 1))) (wS h59) ?_
 refine pk (vb (decide (x_c.Role = 1))) (wS h54) h59 ?_
 refine pf (vb (decide (x_c.Role = 1))) wN h54 ?_
 refine aw (vb (decide (x_c.Role = 1))) ?_
 refine n3 ?_
 refine rt (vb (decide (x_c.Role = 1))) ?_
 refine ⟨m53.keep0, ?_⟩
 simp only [F_impl_oldOk, h37, h47, h50, h54, h59, cond_true, cond_false]
 exact rfl

theorem mR_62 {w : World} {x : PChan} {a1 : Option Addr} {c1 : Nat} {a2 : Option Addr} {c2 : Nat} {a3 : Option Addr} {c3 : Nat} {a4 : Option Addr} {c4 : Nat} {a5 : Option Addr} {c5 : Nat} {a6 : Option Addr} {c6 : Nat} (h1 : Rd w 1 (.slice a1 x.Sn.length c1) x.Sn.length (x.Sn.map bV)) (l1 : x.Sn.length ≤ 1073741824) (h2 : Rd w 1 (.slice a2 x.Cur.Key.length c2) x.Cur.Key.length (x.Cur.Key.map bV)) (l2 : x.Cur.Key.length ≤ 1073741824) (h3 : Rd w 1 (.slice a3 x.Cur.Win.Bits.length c3) x.Cur.Win.Bits.length (x.Cur.Win.Bits.map iV)) (l3 : x.Cur.Win.Bits.length ≤ 1073741824) (h4 : Rd w 1 (.slice a4 x.Old.Key.length c4) x.Old.Key.length (x.Old.Key.map bV)) (l4 : x.Old.Key.length ≤ 1073741824) (h5 : Rd w 1 (.slice a5 x.Old.Win.Bits.length c5) x.Old.Win.Bits.length (x.Old.Win.Bits.map iV)) (l5 : x.Old.Win.Bits.length ≤ 1073741824) (h6 : Rd w 1 (.slice a6 x.Next.length c6) x.Next.length (x.Next.map bV)) (l6 : x.Next.length ≤ 1073741824) : R_62 w (va (L_62 x a1 c1 a2 c2 a3 c3 a4 c4 a5 c5 a6 c6)) x := ⟨_, _, _, _, _, _, _, _, _, _, _, _, rfl, h1, l1, h2, l2, h3, l3, h4, l4, h5, l5, h6, l6⟩
def F_impl_ChanOk (x_c : PChan) : (Bool) := bif (F_impl_isRole x_c.Role) then (bif (F_impl_isNonce x_c.Sn) then (bif (F_impl_EpOk x_c.Cur) then (bif (F_impl_oldOk x_c) then (bif (decide ((x_c.Next.length : Int) = 0)) then (true) else (bif (decide (x_c.Role = 0)) then (bif (decide ((x_c.Next.length : Int) = 32)) then (decide (x_c.Cur.N < 4294967295)) else (false)) else (false))) else (false)) else (false)) else (false)) else (false)
theorem C_impl_ChanOk (w0 : World) (v_x_c : Value) (x_c : PChan) (r_x_c : R_62 w0 v_x_c x_c)  : Fn Try.prog 35 #[v_x_c] w0 (fun v w' => Keep w0 w' ∧ O_4 w' w0.heap.size v (F_impl_ChanOk x_c)) := by
 obtain ⟨a1, c2, a6, c7, a11, c12, a16, c17, a21, c22, a26, c27, rfl, r3, s4, r8, s9, r13, s14, r18, s19, r23, s24, r28, s29⟩ := r_x_c
 refine fn_ofS (n := 45) [(va (L_62 x_c a1 c2 a6 c7 a11 c12 a16 c17 a21 c22 a26 c27))] Try.func35 rfl rfl ?_
 refine sr ?_
 refine bx (L_62 x_c a1 c2 a6 c7 a11 c12 a16 c17 a21 c22 a26 c27) wN ?_
 intro g31 w1 p32 p33 k34 b35
 have m36 := (Ch.base w0).extk k34
 refine aw (vb false) ?_
 refine n4 ?_
 refine jT1 [(1, (vp g31 0)), (2, (vb false))] (F_impl_ChanOk x_c = false) ?_ fun J37 => ?_
 ·intro hA38 w2 k40 u39
  have m41 := m36.extk k40
  refine sr ?_
  refine aw (vb false) ?_
  refine n1 ?_
  refine rt (vb false) ?_
  refine ⟨m41.keep0, ?_⟩
  rw [hA38]
  exact rfl
 refine pu (vp g31 0) wN ?_
 refine ld (vi x_c.Role) wN isAgg_3 b35 ?_
 refine cl wN (C_impl_isRole w1 x_c.Role) ?_
 rintro _ w2 ⟨k43, rfl⟩
 have m44 := m36.extk k43
 refine pu (vb (!(F_impl_isRole x_c.Role))) wN ?_
 refine mw (vb (!(F_impl_isRole x_c.Role))) ?_
 rcases bf (F_impl_isRole x_c.Role) with h45 | h45
 ·have q82 := isRole_f h45
  iterate 4 refine sk (congrArg not h45) ?_
  refine pk (vb true) wN (congrArg not h45) ?_
  refine mw (vb true) ?_
  iterate 4 refine sk (Eq.refl true) ?_
  refine pk (vb true) wN (Eq.refl true) ?_
  refine mw (vb true) ?_
  iterate 3 refine sk (Eq.refl true) ?_
  refine pk (vb true) wN (Eq.refl true) ?_
  refine n2 ?_
  refine ct (Eq.refl true) ?_
  have hF83 : F_impl_ChanOk x_c = false := by simp only [F_impl_ChanOk, h45, cond_true, cond_false]
  exact wj (J37 hF83 _ k43)
 have q46 := isRole_t h45
 refine pu (vp g31 1) (wS (congrArg not h45)) ?_
 have b47 := (b35.kp k43)
 refine ld (vs a1 x_c.Sn.length c2) (wS (congrArg not h45)) isAgg_22 b47 ?_
 refine cl (wS (congrArg not h45)) (C_impl_isNonce w2 _ x_c.Sn (mR_22 (r3.from0 m44) s4)) ?_
 rintro _ w3 ⟨k48, rfl⟩
 have m49 := m44.extk k48
 refine pu (vb (!(F_impl_isNonce x_c.Sn))) (wS (congrArg not h45)) ?_
 refine pf (vb (!(F_impl_isNonce x_c.Sn))) wN (congrArg not h45) ?_
 refine mw (vb (!(F_impl_isNonce x_c.Sn))) ?_
 rcases bf (F_impl_isNonce x_c.Sn) with h50 | h50
 ·have q80 := isNonce_f h50
  iterate 4 refine sk (congrArg not h50) ?_
  refine pk (vb true) wN (congrArg not h50) ?_
  refine mw (vb true) ?_
  iterate 3 refine sk (Eq.refl true) ?_
  refine pk (vb true) wN (Eq.refl true) ?_
  refine n2 ?_
  refine ct (Eq.refl true) ?_
  have hF81 : F_impl_ChanOk x_c = false := by simp only [F_impl_ChanOk, h45, h50, cond_true, cond_false]
  exact wj (J37 hF81 _ (k43.trans k48))
 have q51 := isNonce_t h50
 refine pu (vp g31 2) (wS (congrArg not h50)) ?_
 have b52 := (b47.kp k48)
 refine lN (L_60 x_c.Cur a6 c7 a11 c12) (wS (congrArg not h50)) isAgg_60 sizeOf_60 b52 ?_
 refine cl (wS (congrArg not h50)) (C_impl_EpOk w3 _ x_c.Cur (mR_60 (r8.from0 m49) s9 (r13.from0 m49) s14)) ?_
 rintro _ w4 ⟨k53, rfl⟩
 have m54 := m49.extk k53
 refine pu (vb (!(F_impl_EpOk x_c.Cur))) (wS (congrArg not h50)) ?_
 refine pf (vb (!(F_impl_EpOk x_c.Cur))) wN (congrArg not h50) ?_
 refine mw (vb (!(F_impl_EpOk x_c.Cur))) ?_
 rcases bf (F_impl_EpOk x_c.Cur) with h55 | h55
 ·iterate 3 refine sk (congrArg not h55) ?_
  refine pk (vb true) wN (congrArg not h55) ?_
  refine n2 ?_
  refine ct (Eq.refl true) ?_
  have hF79 : F_impl_ChanOk x_c = false := by simp only [F_impl_ChanOk, h45, h50, h55, cond_true, cond_false]
  exact wj (J37 hF79 _ ((k43.trans k48).trans k53))
 have q56 := impl_EpOk_t h55
 have b57 := (b52.kp k53)
 refine lN (L_62 x_c a1 c2 a6 c7 a11 c12 a16 c17 a21 c22 a26 c27) (wS (congrArg not h55)) isAgg_62 sizeOf_62 b57 ?_
 refine cl (wS (congrArg not h55)) (C_impl_oldOk w4 _ x_c (mR_62 (r3.from0 m54) s4 (r8.from0 m54) s9 (r13.from0 m54) s14 (r18.from0 m54) s19 (r23.from0 m54) s24 (r28.from0 m54) s29) (by omega) (by omega)) ?_
 rintro _ w5 ⟨k58, rfl⟩
 have m59 := m54.extk k58
 refine pu (vb (!(F_impl_oldOk x_c))) (wS (congrArg not h55)) ?_
 refine pf (vb (!(F_impl_oldOk x_c))) wN (congrArg not h55) ?_
 refine n2 ?_
 rcases bf (F_impl_oldOk x_c) with h60 | h60
 ·refine ct (congrArg not h60) ?_
  have hF77 : F_impl_ChanOk x_c = false := by simp only [F_impl_ChanOk, h45, h50, h55, h60, cond_true, cond_false]
  exact wj (J37 hF77 _ (((k43.trans k48).trans k53).trans k58))
 refine cf (congrArg not h60) ?_
 refine y1 ?_
 refine pu (vp g31 14) wN ?_
 have b62 := (b57.kp k58)
 refine ld (vs a26 x_c.Next.length c27) wN isAgg_22 b62 ?_
 refine ln wN slTy_22 (r28.from0 m59) ?_
 refine pu (vb (decide ((x_c.Next.length : Int) = 0))) wN ?_
 refine mw (vb (decide ((x_c.Next.length : Int) = 0))) ?_
 rcases bt (decide ((x_c.Next.length : Int) = 0)) with h63 | h63
 ·have q64 := of_decide_eq_true h63
  iterate 4 refine sk h63 ?_
  refine su ?_
  refine su ?_
  refine su ?_
  refine su ?_
  iterate 2 refine sk h63 ?_
  refine su ?_
  refine su ?_
  refine su ?_
  refine su ?_
  refine sk h63 ?_
  refine pk (vb true) wN h63 ?_
  refine aw (vb true) ?_
  refine n3 ?_
  refine rt (vb true) ?_
  refine ⟨m59.keep0, ?_⟩
  simp only [F_impl_ChanOk, h45, h50, h55, h60, h63, cond_true, cond_false]
  exact rfl
 have q66 := of_decide_eq_false h63
 refine pu (vp g31 0) (wS h63) ?_
 refine ld (vi x_c.Role) (wS h63) isAgg_3 b62 ?_
 refine pu (vb (decide (x_c.Role = 0))) (wS h63) ?_
 refine mv (vb (decide (x_c.Role = 0))) (wS h63) ?_
 rcases bf (decide (x_c.Role = 0)) with h67 | h67
 ·have q74 := of_decide_eq_false h67
  iterate 4 refine sk h67 ?_
  refine pf (vb false) (wS h63) h67 ?_
  refine mv (vb false) (wS h63) ?_
  iterate 4 refine sk (Eq.refl false) ?_
  refine pf (vb false) (wS h63) (Eq.refl false) ?_
  refine pf (vb false) wN h63 ?_
  refine aw (vb false) ?_
  refine n3 ?_
  refine rt (vb false) ?_
  refine ⟨m59.keep0, ?_⟩
  simp only [F_impl_ChanOk, h45, h50, h55, h60, h63, h67, cond_true, cond_false]
  exact rfl
 have q68 := of_decide_eq_true h67
 refine pu (vp g31 14) (wS h67) ?_
 refine ld (vs a26 x_c.Next.length c27) (wS h67) isAgg_22 b62 ?_
 refine ln (wS h67) slTy_22 (r28.from0 m59) ?_
 refine pu (vb (decide ((x_c.Next.length : Int) = 32))) (wS h67) ?_
 refine pk (vb (decide ((x_c.Next.length : Int) = 32))) (wS h63) h67 ?_
 refine mv (vb (decide ((x_c.Next.length : Int) = 32))) (wS h63) ?_
 rcases bf (decide ((x_c.Next.length : Int) = 32)) with h69 | h69
 ·have q72 := of_decide_eq_false h69
  iterate 4 refine sk h69 ?_
  refine pf (vb false) (wS h63) h69 ?_
  refine pf (vb false) wN h63 ?_
  refine aw (vb false) ?_
  refine n3 ?_
  refine rt (vb false) ?_
  refine ⟨m59.keep0, ?_⟩
  simp only [F_impl_ChanOk, h45, h50, h55, h60, h63, h67, h69, cond_true, cond_false]
  exact rfl
 have q70 := of_decide_eq_true h69
 refine pu (vp g31 2) (wS h69) ?_
 refine pu (vp g31 2) (wS h69) ?_
 refine ld (vi x_c.Cur.N) (wS h69) isAgg_3 b62 ?_
 refine pu (vb (decide (x_c.Cur.N < 4294967295))) (wS h69) ?_
 refine pk (vb (decide (x_c.Cur.N < 4294967295))) (wS h63) h69 ?_
 refine pf (vb (decide (x_c.Cur.N < 4294967295))) wN h63 ?_
 refine aw (vb (decide (x_c.Cur.N < 4294967295))) ?_
 refine n3 ?_
 refine rt (vb (decide (x_c.Cur.N < 4294967295))) ?_
 refine ⟨m59.keep0, ?_⟩
 simp only [F_impl_ChanOk, h45, h50, h55, h60, h63, h67, h69, cond_true, cond_false]
 exact rfl
theorem impl_ChanOk_t {c : PChan} (h : F_impl_ChanOk c = true) : 0 ≤ c.Cur.N ∧ c.Cur.N ≤ 4294967295 ∧ 0 ≤ c.Role ∧ c.Role ≤ 1 := by
  simp only [F_impl_ChanOk, Bool.cond_false_right, Bool.and_eq_true] at h
  have h1 := isRole_t h.1
  have h2 := impl_EpOk_t h.2.2.1
  exact ⟨h2.1, h2.2.1, by omega, by omega⟩

def F_impl_clone (x_b : List UInt8) : (List UInt8) := x_b
theorem C_impl_clone (w0 : World) (v_x_b : Value) (x_b : List UInt8) (r_x_b : R_22 w0 v_x_b x_b)  : Fn Try.prog 66 #[v_x_b] w0 (fun v w' => Keep w0 w' ∧ O_22 w' w0.heap.size v (x_b)) := by
 obtain ⟨a1, c2, rfl, r3, s4⟩ := r_x_b
 refine fn_ofS (n := 6) [(vs a1 x_b.length c2)] Try.func66 rfl rfl ?_
 refine sr ?_
 refine aw (vs none 0 0) ?_
 refine nx ?_
 refine wl_lit0 wN rfl rfl slTy_22 (fun w => by kernel_rfl) ?_
 intro a6 w1 k7 o8
 have m9 := (Ch.base w0).extk k7
 refine mw (vs a1 x_b.length c2) ?_
 refine ap0 x_b wN slTy_22 o8 (r3.from0 m9) k7.size ?_
 intro a11 c12 w2 k13 o14 n15
 have m16 := m9.extk k13
 refine aw (vs a11 x_b.length c12) ?_
 refine n3 ?_
 refine rt (vs a11 x_b.length c12) ?_
 refine ⟨m16.keep0, ?_⟩
 have hF18 : x_b = x_b := by rfl
 rw [hF18]
 exact ⟨_, _, rfl, o14, s4, ⟨trivial, trivial⟩⟩

def LT_22 : LTy (List UInt8) := { E := 22, Eb := 5, sz := 1, enc := fun e => [vs (adr2 e.2 0).1 e.1.length (adr2 e.2 0).2], bs := fun x => [x], len := fun _ => rfl, one := fun _ => one_all rfl, pos := by decide, ne := by decide }
def z_B : List UInt8 := []
theorem slTy_64 : SlTy Try.prog 64 22 1 24 (vs none 0 0) := slTy Try.underlying64 (by kernel_rfl) rfl rfl
def O_64 (w : World) (lo : Nat) (v : Value) (x : (List (List UInt8))) : Prop := ∃ (a1 : Option Addr) (c1 : Nat), v = .slice a1 x.length c1 ∧ OLv LT_22 w lo w.heap.size a1 x.length c1 x ∧ x.length ≤ 1073741824 ∧ Aps [(a1, c1)]
def F_impl_KeysOf (x_c : PChan) : (List (List UInt8)) := bif (F_impl_ChanOk x_c) then (bif x_c.HasOld then (bif (decide (0 < (x_c.Next.length : Int))) then ((((([] : List (List UInt8)) ++ [(x_c.Old.Key)]) ++ [(x_c.Cur.Key)]) ++ [(x_c.Next)])) else (((([] : List (List UInt8)) ++ [(x_c.Old.Key)]) ++ [(x_c.Cur.Key)]))) else (bif (decide (0 < (x_c.Next.length : Int))) then (((([] : List (List UInt8)) ++ [(x_c.Cur.Key)]) ++ [(x_c.Next)])) else ((([] : List (List UInt8)) ++ [(x_c.Cur.Key)])))) else ([])
theorem C_impl_KeysOf (w0 : World) (v_x_c : Value) (x_c : PChan) (r_x_c : R_62 w0 v_x_c x_c)  : Fn Try.prog 33 #[v_x_c] w0 (fun v w' => Keep w0 w' ∧ O_64 w' w0.heap.size v (F_impl_KeysOf x_c)) := by
 obtain ⟨a1, c2, a6, c7, a11, c12, a16, c17, a21, c22, a26, c27, rfl, r3, s4, r8, s9, r13, s14, r18, s19, r23, s24, r28, s29⟩ := r_x_c
 refine fn_ofS (n := 36) [(va (L_62 x_c a1 c2 a6 c7 a11 c12 a16 c17 a21 c22 a26 c27))] Try.func33 rfl rfl ?_
 refine sr ?_
 refine bx (L_62 x_c a1 c2 a6 c7 a11 c12 a16 c17 a21 c22 a26 c27) wN ?_
 intro g31 w1 p32 p33 k34 b35
 refine aw (vs none 0 0) ?_
 refine nx ?_
 refine wl_lit0 wN rfl rfl slTy_64 (fun w => by kernel_rfl) ?_
 intro a37 w2 k38 o39
 have m40 := ((Ch.base w0).extk k34).extk k38
 have o42 : OLv LT_22 w2 w1.heap.size w2.heap.size (some a37) 0 0 [] := OLv.of0 o39
 refine aw (vs (some a37) 0 0) ?_
 refine n4 ?_
 have b43 := (b35.kp k38)
 refine lN (L_62 x_c a1 c2 a6 c7 a11 c12 a16 c17 a21 c22 a26 c27) wN isAgg_62 sizeOf_62 b43 ?_
 refine cl wN (C_impl_ChanOk w2 _ x_c (mR_62 (r3.from0 m40) s4 (r8.from0 m40) s9 (r13.from0 m40) s14 (r18.from0 m40) s19 (r23.from0 m40) s24 (r28.from0 m40) s29)) ?_
 rintro _ w3 ⟨k44, rfl⟩
 have m45 := m40.extk k44
 refine pu (vb (!(F_impl_ChanOk x_c))) wN ?_
 refine n2 ?_
 rcases bf (F_impl_ChanOk x_c) with h46 | h46
 ·refine ct (congrArg not h46) ?_
  refine sr ?_
  refine mw (vs (some a37) 0 0) ?_
  refine aw (vs (some a37) 0 0) ?_
  refine n1 ?_
  have o196 := (OLv.kp o42 k44)
  refine rt (vs (some a37) 0 0) ?_
  refine ⟨m45.keep0, ?_⟩
  simp only [F_impl_KeysOf, h46, cond_true, cond_false]
  exact ⟨_, _, rfl, (OLv.now (OLv.low o196 k34.size)), (by simp), ⟨trivial, trivial⟩⟩
 have q47 := impl_ChanOk_t h46
 refine cf (congrArg not h46) ?_
 refine y2 ?_
 refine pu (vp g31 12) wN ?_
 have b48 := (b43.kp k44)
 refine ld (vb x_c.HasOld) wN isAgg_4 b48 ?_
 refine n2 ?_
 rcases bf x_c.HasOld with h49 | h49
 ·refine cf h49 ?_
  refine y1 ?_
  refine mw (vs (some a37) 0 0) ?_
  refine pu (vp g31 2) wN ?_
  refine pu (vp g31 3) wN ?_
  refine ld (vs a6 x_c.Cur.Key.length c7) wN isAgg_22 b48 ?_
  refine cl wN (C_impl_clone w3 _ x_c.Cur.Key (mR_22 (r8.from0 m45) s9)) ?_
  rintro _ w4 ⟨k137, ⟨a138, c139, rfl, o140, s141, ap143⟩⟩
  refine wl_lit [(vs a138 (x_c.Cur.Key).length c139)] wN rfl rfl slTy_64 (m := 1) rfl (by simp only [maxLen]; omega) (fun w => by kernel_rfl) ?_
  intro u145 w5 k146 o147
  obtain ⟨a148, c149, rfl⟩ := own_form o147
  have o152 := (OLv.kp (OLv.kp (OLv.kp o42 k44) k137) k146)
  have o153 := (own_kp o140 k146)
  refine wl_appL (L := LT_22) (xs := []) (el := (x_c.Cur.Key)) (l := [(a138, c139)]) wN slTy_64 o152 (Rd.of_own o147) ⟨⟨(own_lo o153 k44.size), s141⟩, trivial⟩ ⟨trivial, trivial⟩ (Nat.le_refl _) k38.size (by first | omega | (simp only [List.length_take, List.length_append, List.length_cons, List.length_nil]; omega) | (refine Nat.le_trans (Nat.succ_le_succ (List.length_filter_le _ _)) ?_; simp only [List.length_take]; omega)) (z4 k38 k44 k137 k146) ?_
  intro a154 c155 w6 k156 o157
  have m158 := ((m45.extk k137).extk k146).ext k156 (fun k hk => Nat.le_trans k34.size (own_lt o39 k hk).1)
  obtain ⟨y161, o162⟩ := OLv.ow o157
  refine aw (vs a154 (([] : List (List UInt8)) ++ [(x_c.Cur.Key)]).length c155) ?_
  refine n4 ?_
  refine pu (vp g31 14) wN ?_
  have b163 := (((b48.kp k137).kp k146).ch k156 (fun h => by have := (own_lt o39 _ h).1; have := Nat.lt_of_lt_of_le p33 (Nat.le_refl w1.heap.size); omega))
  refine ld (vs a26 x_c.Next.length c27) wN isAgg_22 b163 ?_
  refine ln wN slTy_22 (r28.from0 m158) ?_
  refine pu (vb (decide (0 < (x_c.Next.length : Int)))) wN ?_
  refine n2 ?_
  rcases bf (decide (0 < (x_c.Next.length : Int))) with h164 | h164
  ·have q193 := of_decide_eq_false h164
   refine cf h164 ?_
   refine y1 ?_
   refine mw (vs a154 (([] : List (List UInt8)) ++ [(x_c.Cur.Key)]).length c155) ?_
   refine aw (vs a154 (([] : List (List UInt8)) ++ [(x_c.Cur.Key)]).length c155) ?_
   refine n3 ?_
   refine rt (vs a154 (([] : List (List UInt8)) ++ [(x_c.Cur.Key)]).length c155) ?_
   refine ⟨m158.keep0, ?_⟩
   simp only [F_impl_KeysOf, h46, h49, h164, cond_true, cond_false]
   exact ⟨_, _, rfl, (OLv.now (OLv.low o157 k34.size)), (OLv.small o157), ⟨trivial, trivial⟩⟩
  have q165 := of_decide_eq_true h164
  refine ct h164 ?_
  refine wc_region ?_
  refine mw (vs a154 (([] : List (List UInt8)) ++ [(x_c.Cur.Key)]).length c155) ?_
  refine pu (vp g31 14) wN ?_
  refine ld (vs a26 x_c.Next.length c27) wN isAgg_22 b163 ?_
  refine cl wN (C_impl_clone w6 _ x_c.Next (mR_22 (r28.from0 m158) s29)) ?_
  rintro _ w7 ⟨k166, ⟨a167, c168, rfl, o169, s170, ap172⟩⟩
  refine wl_lit [(vs a167 (x_c.Next).length c168)] wN rfl rfl slTy_64 (m := 1) rfl (by simp only [maxLen]; omega) (fun w => by kernel_rfl) ?_
  intro u174 w8 k175 o176
  obtain ⟨a177, c178, rfl⟩ := own_form o176
  have o181 := (OLv.kp (OLv.kp o157 k166) k175)
  have o182 := (own_kp o169 k175)
  refine wl_appL (L := LT_22) (xs := (([] : List (List UInt8)) ++ [(x_c.Cur.Key)])) (el := (x_c.Next)) (l := [(a167, c168)]) wN slTy_64 o181 (Rd.of_own o176) ⟨⟨o182, s170⟩, trivial⟩ ⟨trivial, trivial⟩ (Nat.le_refl _) (z5 k38 k44 k137 k146 k156) (by first | omega | (simp only [List.length_take, List.length_append, List.length_cons, List.length_nil]; omega) | (refine Nat.le_trans (Nat.succ_le_succ (List.length_filter_le _ _)) ?_; simp only [List.length_take]; omega)) (z7 k38 k44 k137 k146 k156 k166 k175) ?_
  intro a183 c184 w9 k185 o186
  have m187 := ((m158.extk k166).extk k175).ext k185 (fun k hk => Nat.le_trans k34.size (own_lt o162 k hk).1)
  obtain ⟨y190, o191⟩ := OLv.ow o186
  refine aw (vs a183 ((([] : List (List UInt8)) ++ [(x_c.Cur.Key)]) ++ [(x_c.Next)]).length c184) ?_
  refine nx ?_
  refine mw (vs a183 ((([] : List (List UInt8)) ++ [(x_c.Cur.Key)]) ++ [(x_c.Next)]).length c184) ?_
  refine aw (vs a183 ((([] : List (List UInt8)) ++ [(x_c.Cur.Key)]) ++ [(x_c.Next)]).length c184) ?_
  refine n3 ?_
  refine rt (vs a183 ((([] : List (List UInt8)) ++ [(x_c.Cur.Key)]) ++ [(x_c.Next)]).length c184) ?_
  refine ⟨m187.keep0, ?_⟩
  simp only [F_impl_KeysOf, h46, h49, h164, cond_true, cond_false]
  exact ⟨_, _, rfl, (OLv.now (OLv.low o186 k34.size)), (OLv.small o186), ⟨trivial, trivial⟩⟩
 refine ct h49 ?_
 refine wc_region ?_
 refine mw (vs (some a37) 0 0) ?_
 refine pu (vp g31 7) wN ?_
 refine pu (vp g31 8) wN ?_
 refine ld (vs a16 x_c.Old.Key.length c17) wN isAgg_22 b48 ?_
 refine cl wN (C_impl_clone w3 _ x_c.Old.Key (mR_22 (r18.from0 m45) s19)) ?_
 rintro _ w4 ⟨k51, ⟨a52, c53, rfl, o54, s55, ap57⟩⟩
 refine wl_lit [(vs a52 (x_c.Old.Key).length c53)] wN rfl rfl slTy_64 (m := 1) rfl (by simp only [maxLen]; omega) (fun w => by kernel_rfl) ?_
 intro u59 w5 k60 o61
 obtain ⟨a62, c63, rfl⟩ := own_form o61
 have o66 := (OLv.kp (OLv.kp (OLv.kp o42 k44) k51) k60)
 have o67 := (own_kp o54 k60)
 refine wl_appL (L := LT_22) (xs := []) (el := (x_c.Old.Key)) (l := [(a52, c53)]) wN slTy_64 o66 (Rd.of_own o61) ⟨⟨(own_lo o67 k44.size), s55⟩, trivial⟩ ⟨trivial, trivial⟩ (Nat.le_refl _) k38.size (by first | omega | (simp only [List.length_take, List.length_append, List.length_cons, List.length_nil]; omega) | (refine Nat.le_trans (Nat.succ_le_succ (List.length_filter_le _ _)) ?_; simp only [List.length_take]; omega)) (z4 k38 k44 k51 k60) ?_
 intro a68 c69 w6 k70 o71
 have m72 := ((m45.extk k51).extk k60).ext k70 (fun k hk => Nat.le_trans k34.size (own_lt o39 k hk).1)
 obtain ⟨y75, o76⟩ := OLv.ow o71
 refine aw (vs a68 (([] : List (List UInt8)) ++ [(x_c.Old.Key)]).length c69) ?_
 refine nx ?_
 refine mw (vs a68 (([] : List (List UInt8)) ++ [(x_c.Old.Key)]).length c69) ?_
 refine pu (vp g31 2) wN ?_
 refine pu (vp g31 3) wN ?_
 have b77 := (((b48.kp k51).kp k60).ch k70 (fun h => by have := (own_lt o39 _ h).1; have := Nat.lt_of_lt_of_le p33 (Nat.le_refl w1.heap.size); omega))
 refine ld (vs a6 x_c.Cur.Key.length c7) wN isAgg_22 b77 ?_
 refine cl wN (C_impl_clone w6 _ x_c.Cur.Key (mR_22 (r8.from0 m72) s9)) ?_
 rintro _ w7 ⟨k78, ⟨a79, c80, rfl, o81, s82, ap84⟩⟩
 refine wl_lit [(vs a79 (x_c.Cur.Key).length c80)] wN rfl rfl slTy_64 (m := 1) rfl (by simp only [maxLen]; omega) (fun w => by kernel_rfl) ?_
 intro u86 w8 k87 o88
 obtain ⟨a89, c90, rfl⟩ := own_form o88
 have o93 := (OLv.kp (OLv.kp o71 k78) k87)
 have o94 := (own_kp o81 k87)
 refine wl_appL (L := LT_22) (xs := (([] : List (List UInt8)) ++ [(x_c.Old.Key)])) (el := (x_c.Cur.Key)) (l := [(a79, c80)]) wN slTy_64 o93 (Rd.of_own o88) ⟨⟨o94, s82⟩, trivial⟩ ⟨trivial, trivial⟩ (Nat.le_refl _) (z5 k38 k44 k51 k60 k70) (by first | omega | (simp only [List.length_take, List.length_append, List.length_cons, List.length_nil]; omega) | (refine Nat.le_trans (Nat.succ_le_succ (List.length_filter_le _ _)) ?_; simp only [List.length_take]; omega)) (z7 k38 k44 k51 k60 k70 k78 k87) ?_
 intro a95 c96 w9 k97 o98
 have m99 := ((m72.extk k78).extk k87).ext k97 (fun k hk => Nat.le_trans k34.size (own_lt o76 k hk).1)
 obtain ⟨y102, o103⟩ := OLv.ow o98
 refine aw (vs a95 ((([] : List (List UInt8)) ++ [(x_c.Old.Key)]) ++ [(x_c.Cur.Key)]).length c96) ?_
 refine n4 ?_
 refine pu (vp g31 14) wN ?_
 have b104 := (((b77.kp k78).kp k87).ch k97 (fun h => by have := (own_lt o76 _ h).1; have := Nat.lt_of_lt_of_le p33 (Nat.le_refl w1.heap.size); omega))
 refine ld (vs a26 x_c.Next.length c27) wN isAgg_22 b104 ?_
 refine ln wN slTy_22 (r28.from0 m99) ?_
 refine pu (vb (decide (0 < (x_c.Next.length : Int)))) wN ?_
 refine n2 ?_
 rcases bf (decide (0 < (x_c.Next.length : Int))) with h105 | h105
 ·have q134 := of_decide_eq_false h105
  refine cf h105 ?_
  refine y1 ?_
  refine mw (vs a95 ((([] : List (List UInt8)) ++ [(x_c.Old.Key)]) ++ [(x_c.Cur.Key)]).length c96) ?_
  refine aw (vs a95 ((([] : List (List UInt8)) ++ [(x_c.Old.Key)]) ++ [(x_c.Cur.Key)]).length c96) ?_
  refine n3 ?_
  refine rt (vs a95 ((([] : List (List UInt8)) ++ [(x_c.Old.Key)]) ++ [(x_c.Cur.Key)]).length c96) ?_
  refine ⟨m99.keep0, ?_⟩
  simp only [F_impl_KeysOf, h46, h49, h105, cond_true, cond_false]
  exact ⟨_, _, rfl, (OLv.now (OLv.low o98 k34.size)), (OLv.small o98), ⟨trivial, trivial⟩⟩
 have q106 := of_decide_eq_true h105
 refine ct h105 ?_
 refine wc_region ?_
 refine mw (vs a95 ((([] : List (List UInt8)) ++ [(x_c.Old.Key)]) ++ [(x_c.Cur.Key)]).length c96) ?_
 refine pu (vp g31 14) wN ?_
 refine ld (vs a26 x_c.Next.length c27) wN isAgg_22 b104 ?_
 refine cl wN (C_impl_clone w9 _ x_c.Next (mR_22 (r28.from0 m99) s29)) ?_
 rintro _ w10 ⟨k107, ⟨a108, c109, rfl, o110, s111, ap113⟩⟩
 refine wl_lit [(vs a108 (x_c.Next).length c109)] wN rfl rfl slTy_64 (m := 1) rfl (by simp only [maxLen]; omega) (fun w => by kernel_rfl) ?_
 intro u115 w11 k116 o117
 obtain ⟨a118, c119, rfl⟩ := own_form o117
 have o122 := (OLv.kp (OLv.kp o98 k107) k116)
 have o123 := (own_kp o110 k116)
 refine wl_appL (L := LT_22) (xs := ((([] : List (List UInt8)) ++ [(x_c.Old.Key)]) ++ [(x_c.Cur.Key)])) (el := (x_c.Next)) (l := [(a108, c109)]) wN slTy_64 o122 (Rd.of_own o117) ⟨⟨o123, s111⟩, trivial⟩ ⟨trivial, trivial⟩ (Nat.le_refl _) (z8 k38 k44 k51 k60 k70 k78 k87 k97) (by first | omega | (simp only [List.length_take, List.length_append, List.length_cons, List.length_nil]; omega) | (refine Nat.le_trans (Nat.succ_le_succ (List.length_filter_le _ _)) ?_; simp only [List.length_take]; omega)) (z10 k38 k44 k51 k60 k70 k78 k87 k97 k107 k116) ?_
 intro a124 c125 w12 k126 o127
 have m128 := ((m99.extk k107).extk k116).ext k126 (fun k hk => Nat.le_trans k34.size (own_lt o103 k hk).1)
 obtain ⟨y131, o132⟩ := OLv.ow o127
 refine aw (vs a124 (((([] : List (List UInt8)) ++ [(x_c.Old.Key)]) ++ [(x_c.Cur.Key)]) ++ [(x_c.Next)]).length c125) ?_
 refine nx ?_
 refine mw (vs a124 (((([] : List (List UInt8)) ++ [(x_c.Old.Key)]) ++ [(x_c.Cur.Key)]) ++ [(x_c.Next)]).length c125) ?_
 refine aw (vs a124 (((([] : List (List UInt8)) ++ [(x_c.Old.Key)]) ++ [(x_c.Cur.Key)]) ++ [(x_c.Next)]).length c125) ?_
 refine n3 ?_
 refine rt (vs a124 (((([] : List (List UInt8)) ++ [(x_c.Old.Key)]) ++ [(x_c.Cur.Key)]) ++ [(x_c.Next)]).length c125) ?_
 refine ⟨m128.keep0, ?_⟩
 simp only [F_impl_KeysOf, h46, h49, h105, cond_true, cond_false]
 exact ⟨_, _, rfl, (OLv.now (OLv.low o127 k34.size)), (OLv.small o127), ⟨trivial, trivial⟩⟩
theorem kk_len (c : PChan) : (F_impl_KeysOf c).length ≤ 3 := by
  simp only [F_impl_KeysOf, cond_eq_ite]
  (repeat' split) <;> simp

def F_impl_Oldest (x_c : PChan) : (Int) := bif (F_impl_ChanOk x_c) then (bif x_c.HasOld then (x_c.Old.N) else (x_c.Cur.N)) else ((-1))
theorem C_impl_Oldest (w0 : World) (v_x_c : Value) (x_c : PChan) (r_x_c : R_62 w0 v_x_c x_c)  : Fn Try.prog 34 #[v_x_c] w0 (fun v w' => Keep w0 w' ∧ O_3 w' w0.heap.size v (F_impl_Oldest x_c)) := by
 obtain ⟨a1, c2, a6, c7, a11, c12, a16, c17, a21, c22, a26, c27, rfl, r3, s4, r8, s9, r13, s14, r18, s19, r23, s24, r28, s29⟩ := r_x_c
 refine fn_ofS (n := 14) [(va (L_62 x_c a1 c2 a6 c7 a11 c12 a16 c17 a21 c22 a26 c27))] Try.func34 rfl rfl ?_
 refine sr ?_
 refine bx (L_62 x_c a1 c2 a6 c7 a11 c12 a16 c17 a21 c22 a26 c27) wN ?_
 intro g31 w1 p32 p33 k34 b35
 have m36 := (Ch.base w0).extk k34
 refine aw (vi 0) ?_
 refine n4 ?_
 refine lN (L_62 x_c a1 c2 a6 c7 a11 c12 a16 c17 a21 c22 a26 c27) wN isAgg_62 sizeOf_62 b35 ?_
 refine cl wN (C_impl_ChanOk w1 _ x_c (mR_62 (r3.from0 m36) s4 (r8.from0 m36) s9 (r13.from0 m36) s14 (r18.from0 m36) s19 (r23.from0 m36) s24 (r28.from0 m36) s29)) ?_
 rintro _ w2 ⟨k37, rfl⟩
 have m38 := m36.extk k37
 refine pu (vb (!(F_impl_ChanOk x_c))) wN ?_
 refine n2 ?_
 rcases bf (F_impl_ChanOk x_c) with h39 | h39
 ·refine ct (congrArg not h39) ?_
  refine sr ?_
  refine aw (vi (-1)) ?_
  refine n1 ?_
  refine rt (vi (-1)) ?_
  refine ⟨m38.keep0, ?_⟩
  simp only [F_impl_Oldest, h39, cond_true, cond_false]
  exact rfl
 have q40 := impl_ChanOk_t h39
 refine cf (congrArg not h39) ?_
 refine y2 ?_
 refine pu (vp g31 12) wN ?_
 have b41 := (b35.kp k37)
 refine ld (vb x_c.HasOld) wN isAgg_4 b41 ?_
 refine n2 ?_
 rcases bt x_c.HasOld with h42 | h42
 ·refine ct h42 ?_
  refine sr ?_
  refine pu (vp g31 7) wN ?_
  refine pu (vp g31 7) wN ?_
  refine ld (vi x_c.Old.N) wN isAgg_3 b41 ?_
  refine aw (vi x_c.Old.N) ?_
  refine n1 ?_
  refine rt (vi x_c.Old.N) ?_
  refine ⟨m38.keep0, ?_⟩
  simp only [F_impl_Oldest, h39, h42, cond_true, cond_false]
  exact rfl
 refine cf h42 ?_
 refine y1 ?_
 refine pu (vp g31 2) wN ?_
 refine pu (vp g31 2) wN ?_
 refine ld (vi x_c.Cur.N) wN isAgg_3 b41 ?_
 refine aw (vi x_c.Cur.N) ?_
 refine n3 ?_
 refine rt (vi x_c.Cur.N) ?_
 refine ⟨m38.keep0, ?_⟩
 simp only [F_impl_Oldest, h39, h42, cond_true, cond_false]
 exact rfl
theorem iCh_o1 {c : PChan} (h : F_impl_ChanOk c = true) (h0 : c.HasOld = true) : 0 ≤ c.Old.N ∧ c.Old.N = c.Cur.N - 1 := by
  simp only [F_impl_ChanOk, Bool.cond_false_right, Bool.and_eq_true] at h
  have h1 := h.2.2.2.1
  simp only [F_impl_oldOk, h0, cond_true, Bool.cond_false_right, Bool.and_eq_true, decide_eq_true_eq] at h1
  exact ⟨(impl_EpOk_t h1.1).1, h1.2.1⟩
theorem old_b (c : PChan) : -1 ≤ F_impl_Oldest c ∧ F_impl_Oldest c ≤ 4294967295 := by
  unfold F_impl_Oldest
  cases h : F_impl_ChanOk c with
  | false => simp only [cond_false]; omega
  | true =>
    have h1 := impl_ChanOk_t h
    cases h2 : c.HasOld with
    | false => simp only [cond_true, cond_false]; omega
    | true => have h3 := iCh_o1 h h2; simp only [cond_true]; omega

def F_impl_KeyFor_j1 (x_c : PChan) (x_n : Int) : (List UInt8) × (Bool) := bif (decide (x_n = x_c.Cur.N)) then (((x_c.Cur.Key), true)) else (bif (decide (0 < (x_c.Next.length : Int))) then (bif (decide (x_n = (x_c.Cur.N + 1))) then (((x_c.Next), true)) else (([], false))) else (([], false)))
def F_impl_KeyFor (x_c : PChan) (x_n : Int) : (List UInt8) × (Bool) := bif (F_impl_ChanOk x_c) then (bif x_c.HasOld then (bif (decide (x_n = x_c.Old.N)) then (((x_c.Old.Key), true)) else ((F_impl_KeyFor_j1 x_c x_n))) else ((F_impl_KeyFor_j1 x_c x_n))) else (([], false))
theorem C_impl_KeyFor (w0 : World) (v_x_c : Value) (x_c : PChan) (r_x_c : R_62 w0 v_x_c x_c) (x_n : Int)  : Fn Try.prog 36 #[v_x_c, (vi x_n)] w0 (fun v w' => Keep w0 w' ∧ O_22_4 w' w0.heap.size v (F_impl_KeyFor x_c x_n)) := by
 obtain ⟨a1, c2, a6, c7, a11, c12, a16, c17, a21, c22, a26, c27, rfl, r3, s4, r8, s9, r13, s14, r18, s19, r23, s24, r28, s29⟩ := r_x_c
 refine fn_ofS (n := 50) [(va (L_62 x_c a1 c2 a6 c7 a11 c12 a16 c17 a21 c22 a26 c27)), (vi x_n)] Try.func36 rfl rfl ?_
 refine sr ?_
 refine bx (L_62 x_c a1 c2 a6 c7 a11 c12 a16 c17 a21 c22 a26 c27) wN ?_
 intro g31 w1 p32 p33 k34 b35
 have m36 := (Ch.base w0).extk k34
 refine aw (vs none 0 0) ?_
 refine aw (vb false) ?_
 refine wl_nil <| wq_then <| wc_seq <| wc_block <| sr ?_
 refine lN (L_62 x_c a1 c2 a6 c7 a11 c12 a16 c17 a21 c22 a26 c27) wN isAgg_62 sizeOf_62 b35 ?_
 refine cl wN (C_impl_ChanOk w1 _ x_c (mR_62 (r3.from0 m36) s4 (r8.from0 m36) s9 (r13.from0 m36) s14 (r18.from0 m36) s19 (r23.from0 m36) s24 (r28.from0 m36) s29)) ?_
 rintro _ w2 ⟨k37, rfl⟩
 have m38 := m36.extk k37
 refine pu (vb (!(F_impl_ChanOk x_c))) wN ?_
 refine aw (vb (!(F_impl_ChanOk x_c))) ?_
 refine n2 ?_
 rcases bf (F_impl_ChanOk x_c) with h39 | h39
 ·refine ct (congrArg not h39) ?_
  refine sr ?_
  refine aw (vs none 0 0) ?_
  refine aw (vb false) ?_
  refine wl_nil <| wq_then <| wc_ret <| wq_blk_ret <| wq_then_ret ?_
  refine ret_2 (.inl rfl) (vs none 0 0) (vb false) rfl rfl rfl ?_
  refine ⟨m38.keep0, ?_⟩
  simp only [F_impl_KeyFor, h39, cond_true, cond_false]
  exact ⟨_, _, rfl, (by first | exact own_nil _ _ _ _ | exact OLv.nil _ _ _ _), (by simp), ⟨trivial, trivial⟩⟩
 have q40 := impl_ChanOk_t h39
 refine cf (congrArg not h39) ?_
 refine sr ?_
 refine jF1 [(1, (vi x_n)), (2, (vp g31 0)), (4, (vs none 0 0)), (5, (vb false))] (F_impl_KeyFor x_c x_n = (F_impl_KeyFor_j1 x_c x_n)) ?_ fun J41 => ?_
 ·intro hA42 w3 k44 u43
  have m45 := m38.extk k44
  refine sr ?_
  refine mw (vi x_n) ?_
  refine pu (vp g31 2) wN ?_
  refine pu (vp g31 2) wN ?_
  have b46 := ((b35.kp k37).kp k44)
  refine ld (vi x_c.Cur.N) wN isAgg_3 b46 ?_
  refine pu (vb (decide (x_n = x_c.Cur.N))) wN ?_
  refine aw (vb (decide (x_n = x_c.Cur.N))) ?_
  refine n2 ?_
  rcases bt (decide (x_n = x_c.Cur.N)) with h47 | h47
  ·have q48 := of_decide_eq_true h47
   refine ct h47 ?_
   refine sr ?_
   refine pu (vp g31 2) wN ?_
   refine pu (vp g31 3) wN ?_
   refine ld (vs a6 x_c.Cur.Key.length c7) wN isAgg_22 b46 ?_
   refine cl wN (C_impl_clone w3 _ x_c.Cur.Key (mR_22 (r8.from0 m45) s9)) ?_
   rintro _ w4 ⟨k49, ⟨a50, c51, rfl, o52, s53, ap55⟩⟩
   have m56 := m45.extk k49
   refine aw (vs a50 (x_c.Cur.Key).length c51) ?_
   refine aw (vb true) ?_
   refine wl_nil <| wq_then <| wc_ret <| wq_blk_ret <| wq_then_ret ?_
   refine ret_2 (.inl rfl) (vs a50 (x_c.Cur.Key).length c51) (vb true) rfl rfl rfl ?_
   refine ⟨m56.keep0, ?_⟩
   rw [hA42]; simp only [F_impl_KeyFor_j1, h47, cond_true, cond_false]
   exact ⟨_, _, rfl, (own_lo o52 (z3 k34 k37 k44)), s53, ⟨trivial, trivial⟩⟩
  have q58 := of_decide_eq_false h47
  refine cf h47 ?_
  refine sr ?_
  refine jF1 [(4, (vs none 0 0)), (5, (vb false))] (F_impl_KeyFor x_c x_n = ([], false)) ?_ fun J59 => ?_
  ·intro hA60 w4 k62 u61
   have m63 := m45.extk k62
   refine wc_skip <| wq_blk_normal <| wq_then <| sr ?_
   refine aw (vs none 0 0) ?_
   refine aw (vb false) ?_
   refine n3 ?_
   refine ret_2 (.inl rfl) (vs none 0 0) (vb false) rfl rfl rfl ?_
   refine ⟨m63.keep0, ?_⟩
   rw [hA60]
   exact ⟨_, _, rfl, (by first | exact own_nil _ _ _ _ | exact OLv.nil _ _ _ _), (by simp), ⟨trivial, trivial⟩⟩
  refine pu (vp g31 14) wN ?_
  refine ld (vs a26 x_c.Next.length c27) wN isAgg_22 b46 ?_
  refine ln wN slTy_22 (r28.from0 m45) ?_
  refine pu (vb (decide (0 < (x_c.Next.length : Int)))) wN ?_
  refine mw (vb (decide (0 < (x_c.Next.length : Int)))) ?_
  rcases bf (decide (0 < (x_c.Next.length : Int))) with h65 | h65
  ·have q80 := of_decide_eq_false h65
   iterate 6 refine sk h65 ?_
   refine pf (vb false) wN h65 ?_
   refine aw (vb false) ?_
   refine n2 ?_
   refine cf (Eq.refl false) ?_
   have hF81 : F_impl_KeyFor x_c x_n = ([], false) := by rw [hA42]; simp only [F_impl_KeyFor_j1, h47, h65, cond_true, cond_false]
   exact wj (J59 hF81 _ (Ch.refl _ _))
  have q66 := of_decide_eq_true h65
  refine mv (vi x_n) (wS h65) ?_
  refine pu (vp g31 2) (wS h65) ?_
  refine pu (vp g31 2) (wS h65) ?_
  refine ld (vi x_c.Cur.N) (wS h65) isAgg_3 b46 ?_
  refine ar (x_c.Cur.N + 1) (wS h65) ?_
  refine pu (vb (decide (x_n = (x_c.Cur.N + 1)))) (wS h65) ?_
  refine pk (vb (decide (x_n = (x_c.Cur.N + 1)))) wN h65 ?_
  refine aw (vb (decide (x_n = (x_c.Cur.N + 1)))) ?_
  refine n2 ?_
  rcases bf (decide (x_n = (x_c.Cur.N + 1))) with h67 | h67
  ·have q78 := of_decide_eq_false h67
   refine cf h67 ?_
   have hF79 : F_impl_KeyFor x_c x_n = ([], false) := by rw [hA42]; simp only [F_impl_KeyFor_j1, h47, h65, h67, cond_true, cond_false]
   exact wj (J59 hF79 _ (Ch.refl _ _))
  have q68 := of_decide_eq_true h67
  refine ct h67 ?_
  refine sr ?_
  refine pu (vp g31 14) wN ?_
  refine ld (vs a26 x_c.Next.length c27) wN isAgg_22 b46 ?_
  refine cl wN (C_impl_clone w3 _ x_c.Next (mR_22 (r28.from0 m45) s29)) ?_
  rintro _ w4 ⟨k69, ⟨a70, c71, rfl, o72, s73, ap75⟩⟩
  have m76 := m45.extk k69
  refine aw (vs a70 (x_c.Next).length c71) ?_
  refine aw (vb true) ?_
  refine wl_nil <| wq_then <| wc_ret <| wq_blk_ret <| wq_then_ret ?_
  refine ret_2 (.inl rfl) (vs a70 (x_c.Next).length c71) (vb true) rfl rfl rfl ?_
  refine ⟨m76.keep0, ?_⟩
  rw [hA42]; simp only [F_impl_KeyFor_j1, h47, h65, h67, cond_true, cond_false]
  exact ⟨_, _, rfl, (own_lo o72 (z3 k34 k37 k44)), s73, ⟨trivial, trivial⟩⟩
 refine pu (vp g31 12) wN ?_
 have b82 := (b35.kp k37)
 refine ld (vb x_c.HasOld) wN isAgg_4 b82 ?_
 refine mw (vb x_c.HasOld) ?_
 rcases bf x_c.HasOld with h83 | h83
 ·iterate 5 refine sk h83 ?_
  refine pf (vb false) wN h83 ?_
  refine aw (vb false) ?_
  refine n2 ?_
  refine cf (Eq.refl false) ?_
  have hF99 : F_impl_KeyFor x_c x_n = (F_impl_KeyFor_j1 x_c x_n) := by simp only [F_impl_KeyFor, h39, h83, cond_true, cond_false]
  exact wj (J41 hF99 _ (Ch.refl _ _))
 refine mv (vi x_n) (wS h83) ?_
 refine pu (vp g31 7) (wS h83) ?_
 refine pu (vp g31 7) (wS h83) ?_
 refine ld (vi x_c.Old.N) (wS h83) isAgg_3 b82 ?_
 refine pu (vb (decide (x_n = x_c.Old.N))) (wS h83) ?_
 refine pk (vb (decide (x_n = x_c.Old.N))) wN h83 ?_
 refine aw (vb (decide (x_n = x_c.Old.N))) ?_
 refine n2 ?_
 rcases bf (decide (x_n = x_c.Old.N)) with h85 | h85
 ·have q96 := of_decide_eq_false h85
  refine cf h85 ?_
  have hF97 : F_impl_KeyFor x_c x_n = (F_impl_KeyFor_j1 x_c x_n) := by simp only [F_impl_KeyFor, h39, h83, h85, cond_true, cond_false]
  exact wj (J41 hF97 _ (Ch.refl _ _))
 have q86 := of_decide_eq_true h85
 refine ct h85 ?_
 refine sr ?_
 refine pu (vp g31 7) wN ?_
 refine pu (vp g31 8) wN ?_
 refine ld (vs a16 x_c.Old.Key.length c17) wN isAgg_22 b82 ?_
 refine cl wN (C_impl_clone w2 _ x_c.Old.Key (mR_22 (r18.from0 m38) s19)) ?_
 rintro _ w3 ⟨k87, ⟨a88, c89, rfl, o90, s91, ap93⟩⟩
 have m94 := m38.extk k87
 refine aw (vs a88 (x_c.Old.Key).length c89) ?_
 refine aw (vb true) ?_
 refine wl_nil <| wq_then <| wc_ret <| wq_blk_ret <| wq_then_ret ?_
 refine ret_2 (.inl rfl) (vs a88 (x_c.Old.Key).length c89) (vb true) rfl rfl rfl ?_
 refine ⟨m94.keep0, ?_⟩
 simp only [F_impl_KeyFor, h39, h83, h85, cond_true, cond_false]
 exact ⟨_, _, rfl, (own_lo o90 (z2 k34 k37)), s91, ⟨trivial, trivial⟩⟩

def F_laws_same (x_a : List UInt8) (x_b : List UInt8) : (Bool) := (eqS (ByteArray.mk x_a.toArray) (ByteArray.mk x_b.toArray))
theorem C_laws_same (w0 : World) (v_x_a : Value) (x_a : List UInt8) (r_x_a : R_22 w0 v_x_a x_a) (v_x_b : Value) (x_b : List UInt8) (r_x_b : R_22 w0 v_x_b x_b)  : Fn Try.prog 15 #[v_x_a, v_x_b] w0 (fun v w' => Keep w0 w' ∧ O_4 w' w0.heap.size v (F_laws_same x_a x_b)) := by
 obtain ⟨a1, c2, rfl, r3, s4⟩ := r_x_a
 obtain ⟨a6, c7, rfl, r8, s9⟩ := r_x_b
 refine fn_ofS (n := 10) [(vs a1 x_a.length c2), (vs a6 x_b.length c7)] Try.func15 rfl rfl ?_
 refine sr ?_
 refine aw (vb false) ?_
 refine nx ?_
 refine mw (vs a1 x_a.length c2) ?_
 refine wl_b2s x_a wN rfl rfl rfl rfl Try.underlying22 Try.underlying5 Try.underlying9 r3 ?_
 refine mw (vs a6 x_b.length c7) ?_
 refine wl_b2s x_b wN rfl rfl rfl rfl Try.underlying22 Try.underlying5 Try.underlying9 r8 ?_
 refine pu (vb (eqS (ByteArray.mk x_a.toArray) (ByteArray.mk x_b.toArray))) wN ?_
 refine aw (vb (eqS (ByteArray.mk x_a.toArray) (ByteArray.mk x_b.toArray))) ?_
 refine n3 ?_
 refine rt (vb (eqS (ByteArray.mk x_a.toArray) (ByteArray.mk x_b.toArray))) ?_
 refine ⟨Ch.refl _ _, ?_⟩
 have hF11 : F_laws_same x_a x_b = (eqS (ByteArray.mk x_a.toArray) (ByteArray.mk x_b.toArray)) := by rfl
 rw [hF11]
 exact rfl

theorem mQ_22 {w : World} {x : List UInt8} {a1 : Option Addr} {c1 : Nat} (h1 : Rd w 1 (.slice a1 x.length c1) x.length (x.map bV)) (l1 : x.length ≤ 9223372036854775807) : Q_22 w (vs a1 x.length c1) x := ⟨_, _, rfl, h1, l1⟩
def kfG (c : PChan) (i : Nat) : Bool := bif (F_impl_KeyFor c (F_impl_Oldest c + ((i : Nat) : Int))).2 then (bif F_laws_same (F_impl_KeyFor c (F_impl_Oldest c + ((i : Nat) : Int))).1 ((F_impl_KeysOf c).getD i z_B) then decide (((F_impl_KeyFor c (F_impl_Oldest c + ((i : Nat) : Int))).1.length : Int) = 32) else false) else false
def kfT (c : PChan) : Bool := bif decide (1 ≤ ((F_impl_KeysOf c).length : Int)) then (bif decide (((F_impl_KeysOf c).length : Int) ≤ 3) then (bif (F_impl_KeyFor c (F_impl_Oldest c - 1)).2 then false else !(F_impl_KeyFor c (F_impl_Oldest c + ((F_impl_KeysOf c).length : Int))).2) else false) else false
def kfLaw (code : List UInt8) (c : PChan) : Bool := bif F_laws_big code then true else bif F_impl_ChanOk c then (bif allN (kfG c) (F_impl_KeysOf c).length then kfT c else false) else (bif decide (((F_impl_KeysOf c).length : Int) = 0) then decide (F_impl_Oldest c = -1) else false)
theorem C_laws_FnKeysOf (w0 : World) (v_x_code : Value) (x_code : List UInt8) (r_x_code : Q_22 w0 v_x_code x_code)  : Fn Try.prog 6 #[v_x_code] w0 (fun v w' => ∃ (d0 : (PChan)), Keep w0 w' ∧ (True) ∧ v = vb (kfLaw x_code d0)) := by
 obtain ⟨a1, c2, rfl, r3, s4⟩ := r_x_code
 refine fn_ofS (n := 93) [(vs a1 x_code.length c2)] Try.func6 rfl rfl ?_
 refine sr ?_
 refine aw (vb false) ?_
 refine n4 ?_
 refine mw (vs a1 x_code.length c2) ?_
 refine cl wN (C_laws_big w0 _ x_code (mQ_22 r3 s4)) ?_
 rintro _ w1 ⟨k6, rfl⟩
 have m7 := (Ch.base w0).extk k6
 refine n2 ?_
 rcases bt (F_laws_big x_code) with h8 | h8
 ·refine ct h8 ?_
  refine sr ?_
  refine aw (vb true) ?_
  refine n1 ?_
  refine rt (vb true) ?_
  have hF10 : kfLaw x_code ({ Role := 0, Sn := [], Cur := { N := 0, Key := [], Seq := 0, Win := { Top := 0, Bits := [] : PWin } : PEp }, Old := { N := 0, Key := [], Seq := 0, Win := { Top := 0, Bits := [] : PWin } : PEp }, HasOld := false, Until := 0, Next := [] : PChan }) = true := by simp only [kfLaw, h8, cond_true, cond_false]; try rfl
  exact ⟨({ Role := 0, Sn := [], Cur := { N := 0, Key := [], Seq := 0, Win := { Top := 0, Bits := [] : PWin } : PEp }, Old := { N := 0, Key := [], Seq := 0, Win := { Top := 0, Bits := [] : PWin } : PEp }, HasOld := false, Until := 0, Next := [] : PChan }), m7.keep0, (by first | trivial | decide | (simp; done)), by rw [hF10]⟩
 have q11 := big_f h8
 refine cf h8 ?_
 refine y1 ?_
 refine mw (vs a1 x_code.length c2) ?_
 refine cl wN (C_spec_DrawKeysOf w1 _ x_code (mR_22 (r3.from0 m7) (by omega))) ?_
 rintro _ w2 ⟨d0, k12, ⟨a14, c15, a19, c20, a24, c25, a29, c30, a34, c35, a39, c40, rfl, o16, s17, o21, s22, o26, s27, o31, s32, o36, s37, o41, s42, ap44⟩, q13⟩
 refine al Z_62 wN zero_62 ?_
 intro g46 w3 p47 p48 k49 b50
 refine sv (L_62 (d0) a14 c15 a19 c20 a24 c25 a29 c30 a34 c35 a39 c40) wN sizeOf_62 b50 ?_
 intro w4 k52 b53 z54
 have m55 := ((m7.extk k12).extk k49).ext k52 (fun k hk => by subst hk; exact Nat.le_trans (z2 k6 k12) p47)
 refine nx ?_
 refine lN (L_62 (d0) a14 c15 a19 c20 a24 c25 a29 c30 a34 c35 a39 c40) wN isAgg_62 sizeOf_62 b53 ?_
 have t56 := fun (E sz n : Nat) (v : Value) (xs : List Value) (o : World.ownsRow w2 w1.heap.size E sz v n xs) (o0 : World.ownsRow w2 w1.heap.size E sz v n xs) => (own_ch (own_kp o k49) k52 (ne2 o0 (p47)))
 have o57 := (t56 _ _ _ _ _ o16 o16)
 have o58 := (t56 _ _ _ _ _ o21 o21)
 have o59 := (t56 _ _ _ _ _ o26 o26)
 have o60 := (t56 _ _ _ _ _ o31 o31)
 have o61 := (t56 _ _ _ _ _ o36 o36)
 have o62 := (t56 _ _ _ _ _ o41 o41)
 refine cl wN (C_impl_KeysOf w4 _ (d0) (mR_62 (Rd.of_own o57) s17 (Rd.of_own o58) s22 (Rd.of_own o59) s27 (Rd.of_own o60) s32 (Rd.of_own o61) s37 (Rd.of_own o62) s42)) ?_
 rintro _ w5 ⟨k63, ⟨a64, c65, rfl, o66, s67, ap69⟩⟩
 obtain ⟨y71, o72⟩ := OLv.ow o66
 have q73 := kk_len (d0)
 refine aw (vs a64 (F_impl_KeysOf (d0)).length c65) ?_
 refine nx ?_
 have b74 := (b53.kp k63)
 refine lN (L_62 (d0) a14 c15 a19 c20 a24 c25 a29 c30 a34 c35 a39 c40) wN isAgg_62 sizeOf_62 b74 ?_
 have o75 := (own_kp o57 k63)
 have o76 := (own_kp o58 k63)
 have o77 := (own_kp o59 k63)
 have o78 := (own_kp o60 k63)
 have o79 := (own_kp o61 k63)
 have o80 := (own_kp o62 k63)
 refine cl wN (C_impl_Oldest w5 _ (d0) (mR_62 (Rd.of_own o75) s17 (Rd.of_own o76) s22 (Rd.of_own o77) s27 (Rd.of_own o78) s32 (Rd.of_own o79) s37 (Rd.of_own o80) s42)) ?_
 rintro _ w6 ⟨k81, rfl⟩
 have q83 := old_b (d0)
 refine aw (vi (F_impl_Oldest (d0))) ?_
 refine n4 ?_
 have b84 := (b74.kp k81)
 refine lN (L_62 (d0) a14 c15 a19 c20 a24 c25 a29 c30 a34 c35 a39 c40) wN isAgg_62 sizeOf_62 b84 ?_
 have o85 := (own_kp o75 k81)
 have o86 := (own_kp o76 k81)
 have o87 := (own_kp o77 k81)
 have o88 := (own_kp o78 k81)
 have o89 := (own_kp o79 k81)
 have o90 := (own_kp o80 k81)
 refine cl wN (C_impl_ChanOk w6 _ (d0) (mR_62 (Rd.of_own o85) s17 (Rd.of_own o86) s22 (Rd.of_own o87) s27 (Rd.of_own o88) s32 (Rd.of_own o89) s37 (Rd.of_own o90) s42)) ?_
 rintro _ w7 ⟨k91, rfl⟩
 have m92 := ((m55.extk k63).extk k81).extk k91
 refine pu (vb (!(F_impl_ChanOk (d0)))) wN ?_
 refine n2 ?_
 rcases bf (F_impl_ChanOk (d0)) with h93 | h93
 ·refine ct (congrArg not h93) ?_
  refine sr ?_
  refine mw (vs a64 (F_impl_KeysOf (d0)).length c65) ?_
  have o207 := (OLv.kp (OLv.kp o66 k81) k91)
  obtain ⟨y205, r206⟩ := RLv.row (OLv.rl o207)
  refine ln wN slTy_64 r206 ?_
  refine pu (vb (decide (((F_impl_KeysOf (d0)).length : Int) = 0))) wN ?_
  refine mw (vb (decide (((F_impl_KeysOf (d0)).length : Int) = 0))) ?_
  rcases bf (decide (((F_impl_KeysOf (d0)).length : Int) = 0)) with h208 | h208
  ·have q211 := of_decide_eq_false h208
   iterate 2 refine sk h208 ?_
   refine pf (vb false) wN h208 ?_
   refine aw (vb false) ?_
   refine n1 ?_
   refine rt (vb false) ?_
   have hF212 : kfLaw x_code d0 = false := by simp only [kfLaw, h8, h93, h208, cond_true, cond_false]; try rfl
   exact ⟨d0, m92.keep0, q13, by rw [hF212]⟩
  have q209 := of_decide_eq_true h208
  refine mv (vi (F_impl_Oldest (d0))) (wS h208) ?_
  refine pu (vb (decide ((F_impl_Oldest (d0)) = (-1)))) (wS h208) ?_
  refine pk (vb (decide ((F_impl_Oldest (d0)) = (-1)))) wN h208 ?_
  refine aw (vb (decide ((F_impl_Oldest (d0)) = (-1)))) ?_
  refine n1 ?_
  refine rt (vb (decide ((F_impl_Oldest (d0)) = (-1)))) ?_
  have hF210 : kfLaw x_code d0 = decide ((F_impl_Oldest (d0)) = (-1)) := by simp only [kfLaw, h8, h93, h208, cond_true, cond_false]; try rfl
  exact ⟨d0, m92.keep0, q13, by rw [hF210]⟩
 have q94 := impl_ChanOk_t h93
 refine cf (congrArg not h93) ?_
 refine y2 ?_
 refine aw (vi 0) ?_
 refine wl_nil <| wq_then <| wc_block ?_
 refine wc_loopP [(3, (vp g46 0)), (4, (vs a64 (F_impl_KeysOf (d0)).length c65)), (5, (vi (F_impl_Oldest (d0)))), (6, (vi ((0 : Nat) : Int)))] ⟨rfl, rfl, rfl, (congrArg (Value.int .i64) (show (0 : Int) = ((0 : Nat) : Int) by omega)), trivial⟩ (fun e' w' => ∃ (i : Nat) (u95 : Env), e' = pt u95 [(3, (vp g46 0)), (4, (vs a64 (F_impl_KeysOf (d0)).length c65)), (5, (vi (F_impl_Oldest (d0)))), (6, (vi ((i : Nat) : Int)))] ∧ Ch (fun k => w0.heap.size ≤ k) w0 w' ∧ Ch (fun k => w7.heap.size ≤ k) w7 w' ∧ i ≤ (F_impl_KeysOf d0).length ∧ (∀ j, j < i → kfG d0 j = true)) (fun e' _ => ((F_impl_KeysOf d0).length : Int).toNat - ((intOf (e' 6))).toNat) ?_ ?_
 ·exact fun u => ⟨0, u, rfl, m92, (Ch.refl (fun k => w7.heap.size ≤ k) w7), (by omega), (by first | (intro j hj; omega) | exact allN_next hi1 (by simp only [kfG, h8, h93, cond_true, cond_false]))⟩
 ·rintro _ w8 ⟨i, u95, rfl, m96, k97, hi0, hi1⟩
  refine wc_seq <| sr ?_
  refine mw (vi ((i : Nat) : Int)) ?_
  refine mw (vs a64 (F_impl_KeysOf (d0)).length c65) ?_
  have o102 := (OLv.ch (OLv.kp (OLv.kp o66 k81) k91) k97 (fun g h1 h2 hk => by have h3 : w5.heap.size ≤ w7.heap.size := (z2 k81 k91); have h4 : w7.heap.size ≤ g := hk; omega))
  obtain ⟨y100, r101⟩ := RLv.row (OLv.rl o102)
  refine ln wN slTy_64 r101 ?_
  refine pu (vb (decide (((i : Nat) : Int) < ((F_impl_KeysOf (d0)).length : Int)))) wN ?_
  refine n2 ?_
  rcases bf (decide (((i : Nat) : Int) < ((F_impl_KeysOf (d0)).length : Int))) with h103 | h103
  ·have q151 := of_decide_eq_false h103
   refine cf h103 ?_
   refine wc_exit <| wq_then_exit <| wq_then_exit <| wq_blk_exit <| wq_then <| sr ?_
   have b152 := ((b84.kp k91).ch k97 (Nat.not_le.2 (Nat.lt_of_lt_of_le p48 (z4 k52 k63 k81 k91))))
   refine lN (L_62 (d0) a14 c15 a19 c20 a24 c25 a29 c30 a34 c35 a39 c40) wN isAgg_62 sizeOf_62 b152 ?_
   refine mw (vi (F_impl_Oldest (d0))) ?_
   refine ar ((F_impl_Oldest (d0)) - 1) wN ?_
   have t153 := fun (E sz n : Nat) (v : Value) (xs : List Value) (o : World.ownsRow w6 w1.heap.size E sz v n xs) (o0 : World.ownsRow w2 w1.heap.size E sz v n xs) => (own_ch (own_kp o k91) k97 (fun g hg hlt hk => by have h1 := (own_lt o0 g hg).2; have h2 : w2.heap.size ≤ w7.heap.size := (z5 k49 k52 k63 k81 k91); have h3 : w7.heap.size ≤ g := hk; omega))
   have o154 := (t153 _ _ _ _ _ o85 o16)
   have o155 := (t153 _ _ _ _ _ o86 o21)
   have o156 := (t153 _ _ _ _ _ o87 o26)
   have o157 := (t153 _ _ _ _ _ o88 o31)
   have o158 := (t153 _ _ _ _ _ o89 o36)
   have o159 := (t153 _ _ _ _ _ o90 o41)
   refine cl wN (C_impl_KeyFor w8 _ (d0) (mR_62 (Rd.of_own o154) s17 (Rd.of_own o155) s22 (Rd.of_own o156) s27 (Rd.of_own o157) s32 (Rd.of_own o158) s37 (Rd.of_own o159) s42) ((F_impl_Oldest (d0)) - 1)) ?_
   rintro _ w9 ⟨k160, ⟨a161, c162, rfl, o163, s164, ap166⟩⟩
   refine mw (.tuple #[(vs a161 ((F_impl_KeyFor (d0) ((F_impl_Oldest (d0)) - 1)).1).length c162), (vb ((F_impl_KeyFor (d0) ((F_impl_Oldest (d0)) - 1)).2))]) ?_
   refine pu (vs a161 ((F_impl_KeyFor (d0) ((F_impl_Oldest (d0)) - 1)).1).length c162) wN ?_
   refine pu (vb ((F_impl_KeyFor (d0) ((F_impl_Oldest (d0)) - 1)).2)) wN ?_
   refine aw (vs a161 ((F_impl_KeyFor (d0) ((F_impl_Oldest (d0)) - 1)).1).length c162) ?_
   refine aw (vb ((F_impl_KeyFor (d0) ((F_impl_Oldest (d0)) - 1)).2)) ?_
   refine nx ?_
   have b168 := (b152.kp k160)
   refine lN (L_62 (d0) a14 c15 a19 c20 a24 c25 a29 c30 a34 c35 a39 c40) wN isAgg_62 sizeOf_62 b168 ?_
   refine mw (vi (F_impl_Oldest (d0))) ?_
   refine mw (vs a64 (F_impl_KeysOf (d0)).length c65) ?_
   have o171 := (OLv.kp o102 k160)
   obtain ⟨y169, r170⟩ := RLv.row (OLv.rl o171)
   refine ln wN slTy_64 r170 ?_
   refine ar ((F_impl_Oldest (d0)) + ((F_impl_KeysOf (d0)).length : Int)) wN ?_
   have o172 := (own_kp o154 k160)
   have o173 := (own_kp o155 k160)
   have o174 := (own_kp o156 k160)
   have o175 := (own_kp o157 k160)
   have o176 := (own_kp o158 k160)
   have o177 := (own_kp o159 k160)
   refine cl wN (C_impl_KeyFor w9 _ (d0) (mR_62 (Rd.of_own o172) s17 (Rd.of_own o173) s22 (Rd.of_own o174) s27 (Rd.of_own o175) s32 (Rd.of_own o176) s37 (Rd.of_own o177) s42) ((F_impl_Oldest (d0)) + ((F_impl_KeysOf (d0)).length : Int))) ?_
   rintro _ w10 ⟨k178, ⟨a179, c180, rfl, o181, s182, ap184⟩⟩
   have m185 := (m96.extk k160).extk k178
   refine mw (.tuple #[(vs a179 ((F_impl_KeyFor (d0) ((F_impl_Oldest (d0)) + ((F_impl_KeysOf (d0)).length : Int))).1).length c180), (vb ((F_impl_KeyFor (d0) ((F_impl_Oldest (d0)) + ((F_impl_KeysOf (d0)).length : Int))).2))]) ?_
   refine pu (vs a179 ((F_impl_KeyFor (d0) ((F_impl_Oldest (d0)) + ((F_impl_KeysOf (d0)).length : Int))).1).length c180) wN ?_
   refine pu (vb ((F_impl_KeyFor (d0) ((F_impl_Oldest (d0)) + ((F_impl_KeysOf (d0)).length : Int))).2)) wN ?_
   refine aw (vs a179 ((F_impl_KeyFor (d0) ((F_impl_Oldest (d0)) + ((F_impl_KeysOf (d0)).length : Int))).1).length c180) ?_
   refine aw (vb ((F_impl_KeyFor (d0) ((F_impl_Oldest (d0)) + ((F_impl_KeysOf (d0)).length : Int))).2)) ?_
   refine nx ?_
   refine mw (vs a64 (F_impl_KeysOf (d0)).length c65) ?_
   have o188 := (OLv.kp o171 k178)
   obtain ⟨y186, r187⟩ := RLv.row (OLv.rl o188)
   refine ln wN slTy_64 r187 ?_
   refine pu (vb (decide (1 ≤ ((F_impl_KeysOf (d0)).length : Int)))) wN ?_
   refine mw (vb (decide (1 ≤ ((F_impl_KeysOf (d0)).length : Int)))) ?_
   rcases bf (decide (1 ≤ ((F_impl_KeysOf (d0)).length : Int))) with h189 | h189
   ·have q202 := of_decide_eq_false h189
    iterate 3 refine sk h189 ?_
    refine pf (vb false) wN h189 ?_
    refine mw (vb false) ?_
    iterate 2 refine sk (Eq.refl false) ?_
    refine pf (vb false) wN (Eq.refl false) ?_
    refine mw (vb false) ?_
    iterate 2 refine sk (Eq.refl false) ?_
    refine pf (vb false) wN (Eq.refl false) ?_
    refine aw (vb false) ?_
    refine n3 ?_
    refine rt (vb false) ?_
    have hF203 : kfLaw x_code d0 = false := by have hz := allN_t (f := kfG d0) (n := (F_impl_KeysOf d0).length) (k := i) hi1 (by omega); simp only [kfLaw, kfT, hz, h8, h93, h103, h189, cond_true, cond_false]; try rfl
    exact ⟨d0, m185.keep0, q13, by rw [hF203]⟩
   have q190 := of_decide_eq_true h189
   refine mv (vs a64 (F_impl_KeysOf (d0)).length c65) (wS h189) ?_
   obtain ⟨y191, r192⟩ := RLv.row (OLv.rl o188)
   refine ln (wS h189) slTy_64 r192 ?_
   refine pu (vb (decide (((F_impl_KeysOf (d0)).length : Int) ≤ 3))) (wS h189) ?_
   refine pk (vb (decide (((F_impl_KeysOf (d0)).length : Int) ≤ 3))) wN h189 ?_
   refine mw (vb (decide (((F_impl_KeysOf (d0)).length : Int) ≤ 3))) ?_
   rcases bf (decide (((F_impl_KeysOf (d0)).length : Int) ≤ 3)) with h193 | h193
   ·have q200 := of_decide_eq_false h193
    iterate 2 refine sk h193 ?_
    refine pf (vb false) wN h193 ?_
    refine mw (vb false) ?_
    iterate 2 refine sk (Eq.refl false) ?_
    refine pf (vb false) wN (Eq.refl false) ?_
    refine aw (vb false) ?_
    refine n3 ?_
    refine rt (vb false) ?_
    have hF201 : kfLaw x_code d0 = false := by have hz := allN_t (f := kfG d0) (n := (F_impl_KeysOf d0).length) (k := i) hi1 (by omega); simp only [kfLaw, kfT, hz, h8, h93, h103, h189, h193, cond_true, cond_false]; try rfl
    exact ⟨d0, m185.keep0, q13, by rw [hF201]⟩
   have q194 := of_decide_eq_true h193
   refine mv (vb ((F_impl_KeyFor (d0) ((F_impl_Oldest (d0)) - 1)).2)) (wS h193) ?_
   refine pu (vb (!((F_impl_KeyFor (d0) ((F_impl_Oldest (d0)) - 1)).2))) (wS h193) ?_
   refine pk (vb (!((F_impl_KeyFor (d0) ((F_impl_Oldest (d0)) - 1)).2))) wN h193 ?_
   refine mw (vb (!((F_impl_KeyFor (d0) ((F_impl_Oldest (d0)) - 1)).2))) ?_
   rcases bt ((F_impl_KeyFor (d0) ((F_impl_Oldest (d0)) - 1)).2) with h195 | h195
   ·iterate 2 refine sk (congrArg not h195) ?_
    refine pf (vb false) wN (congrArg not h195) ?_
    refine aw (vb false) ?_
    refine n3 ?_
    refine rt (vb false) ?_
    have hF197 : kfLaw x_code d0 = false := by have hz := allN_t (f := kfG d0) (n := (F_impl_KeysOf d0).length) (k := i) hi1 (by omega); simp only [kfLaw, kfT, hz, h8, h93, h103, h189, h193, h195, cond_true, cond_false]; try rfl
    exact ⟨d0, m185.keep0, q13, by rw [hF197]⟩
   refine mv (vb ((F_impl_KeyFor (d0) ((F_impl_Oldest (d0)) + ((F_impl_KeysOf (d0)).length : Int))).2)) (wS (congrArg not h195)) ?_
   refine pu (vb (!((F_impl_KeyFor (d0) ((F_impl_Oldest (d0)) + ((F_impl_KeysOf (d0)).length : Int))).2))) (wS (congrArg not h195)) ?_
   refine pk (vb (!((F_impl_KeyFor (d0) ((F_impl_Oldest (d0)) + ((F_impl_KeysOf (d0)).length : Int))).2))) wN (congrArg not h195) ?_
   refine aw (vb (!((F_impl_KeyFor (d0) ((F_impl_Oldest (d0)) + ((F_impl_KeysOf (d0)).length : Int))).2))) ?_
   refine n3 ?_
   refine rt (vb (!((F_impl_KeyFor (d0) ((F_impl_Oldest (d0)) + ((F_impl_KeysOf (d0)).length : Int))).2))) ?_
   have hF199 : kfLaw x_code d0 = !((F_impl_KeyFor (d0) ((F_impl_Oldest (d0)) + ((F_impl_KeysOf (d0)).length : Int))).2) := by have hz := allN_t (f := kfG d0) (n := (F_impl_KeysOf d0).length) (k := i) hi1 (by omega); simp only [kfLaw, kfT, hz, h8, h93, h103, h189, h193, h195, cond_true, cond_false]; try rfl
   exact ⟨d0, m185.keep0, q13, by rw [hF199]⟩
  have q104 := of_decide_eq_true h103
  refine ct h103 ?_
  refine wc_skip <| wq_then <| wc_seq <| wc_block <| sr ?_
  have b105 := ((b84.kp k91).ch k97 (Nat.not_le.2 (Nat.lt_of_lt_of_le p48 (z4 k52 k63 k81 k91))))
  refine lN (L_62 (d0) a14 c15 a19 c20 a24 c25 a29 c30 a34 c35 a39 c40) wN isAgg_62 sizeOf_62 b105 ?_
  refine mw (vi (F_impl_Oldest (d0))) ?_
  refine mw (vi ((i : Nat) : Int)) ?_
  refine ar ((F_impl_Oldest (d0)) + ((i : Nat) : Int)) wN ?_
  have t106 := fun (E sz n : Nat) (v : Value) (xs : List Value) (o : World.ownsRow w6 w1.heap.size E sz v n xs) (o0 : World.ownsRow w2 w1.heap.size E sz v n xs) => (own_ch (own_kp o k91) k97 (fun g hg hlt hk => by have h1 := (own_lt o0 g hg).2; have h2 : w2.heap.size ≤ w7.heap.size := (z5 k49 k52 k63 k81 k91); have h3 : w7.heap.size ≤ g := hk; omega))
  have o107 := (t106 _ _ _ _ _ o85 o16)
  have o108 := (t106 _ _ _ _ _ o86 o21)
  have o109 := (t106 _ _ _ _ _ o87 o26)
  have o110 := (t106 _ _ _ _ _ o88 o31)
  have o111 := (t106 _ _ _ _ _ o89 o36)
  have o112 := (t106 _ _ _ _ _ o90 o41)
  refine cl wN (C_impl_KeyFor w8 _ (d0) (mR_62 (Rd.of_own o107) s17 (Rd.of_own o108) s22 (Rd.of_own o109) s27 (Rd.of_own o110) s32 (Rd.of_own o111) s37 (Rd.of_own o112) s42) ((F_impl_Oldest (d0)) + ((i : Nat) : Int))) ?_
  rintro _ w9 ⟨k113, ⟨a114, c115, rfl, o116, s117, ap119⟩⟩
  have m120 := m96.extk k113
  refine mw (.tuple #[(vs a114 ((F_impl_KeyFor (d0) ((F_impl_Oldest (d0)) + ((i : Nat) : Int))).1).length c115), (vb ((F_impl_KeyFor (d0) ((F_impl_Oldest (d0)) + ((i : Nat) : Int))).2))]) ?_
  refine pu (vs a114 ((F_impl_KeyFor (d0) ((F_impl_Oldest (d0)) + ((i : Nat) : Int))).1).length c115) wN ?_
  refine pu (vb ((F_impl_KeyFor (d0) ((F_impl_Oldest (d0)) + ((i : Nat) : Int))).2)) wN ?_
  refine aw (vs a114 ((F_impl_KeyFor (d0) ((F_impl_Oldest (d0)) + ((i : Nat) : Int))).1).length c115) ?_
  refine aw (vb ((F_impl_KeyFor (d0) ((F_impl_Oldest (d0)) + ((i : Nat) : Int))).2)) ?_
  refine nx ?_
  refine mw (vb ((F_impl_KeyFor (d0) ((F_impl_Oldest (d0)) + ((i : Nat) : Int))).2)) ?_
  refine pu (vb (!((F_impl_KeyFor (d0) ((F_impl_Oldest (d0)) + ((i : Nat) : Int))).2))) wN ?_
  refine mw (vb (!((F_impl_KeyFor (d0) ((F_impl_Oldest (d0)) + ((i : Nat) : Int))).2))) ?_
  rcases bf ((F_impl_KeyFor (d0) ((F_impl_Oldest (d0)) + ((i : Nat) : Int))).2) with h121 | h121
  ·iterate 7 refine sk (congrArg not h121) ?_
   refine pk (vb true) wN (congrArg not h121) ?_
   refine mw (vb true) ?_
   iterate 3 refine sk (Eq.refl true) ?_
   refine pk (vb true) wN (Eq.refl true) ?_
   refine n2 ?_
   refine ct (Eq.refl true) ?_
   refine sr ?_
   refine aw (vb false) ?_
   refine wl_nil <| wq_then <| wc_ret <| wq_blk_ret <| wq_then_ret <| wq_then_ret <| wq_blk_ret <| wq_then_ret ?_
   refine rt (vb false) ?_
   have hF150 : kfLaw x_code d0 = false := by have hz := allN_f (f := kfG d0) (n := (F_impl_KeysOf d0).length) (k := i) (by omega) (by simp only [kfG, h8, h93, h103, h121, cond_true, cond_false]); simp only [kfLaw, hz, h8, h93, h103, h121, cond_true, cond_false]
   exact ⟨d0, m120.keep0, q13, by rw [hF150]⟩
  refine mv (vs a114 ((F_impl_KeyFor (d0) ((F_impl_Oldest (d0)) + ((i : Nat) : Int))).1).length c115) (wS (congrArg not h121)) ?_
  refine mv (vs a64 (F_impl_KeysOf (d0)).length c65) (wS (congrArg not h121)) ?_
  refine mv (vi ((i : Nat) : Int)) (wS (congrArg not h121)) ?_
  have o125 := (OLv.kp o102 k113)
  obtain ⟨y123, r124⟩ := RLv.row (OLv.rl o125)
  refine ix (wS (congrArg not h121)) ((i : Nat) : Int) slTy_64 r124 ?_
  obtain ⟨y126, l127, r128, e129, u130⟩ := OLv.el z_B (i := i) o125 (by first | omega | (simp only [List.length_cons, List.length_nil, List.length_replicate, List.length_append, List.length_take, List.length_set, List.length_map]; omega))
  obtain ⟨a131, c132, l136, rfl, r133, s134, u137⟩ := SubO.c u130
  obtain rfl := SubO.n u137
  refine wl_loadE (vs a131 ((F_impl_KeysOf (d0)).getD i z_B).length c132) (wS (congrArg not h121)) rfl rfl rfl rfl isAgg_22 r128 ((get_of (off := 0) e129 (by first | rfl | simp | omega) (by decide)).trans rfl) ?_
  refine cl (wS (congrArg not h121)) (C_laws_same w9 _ ((F_impl_KeyFor (d0) ((F_impl_Oldest (d0)) + ((i : Nat) : Int))).1) (mR_22 (Rd.of_own o116) s117) _ ((F_impl_KeysOf (d0)).getD i z_B) (mR_22 (Rd.of_own r133) s134)) ?_
  rintro _ w10 ⟨k138, rfl⟩
  have m139 := m120.extk k138
  refine pu (vb (!(F_laws_same ((F_impl_KeyFor (d0) ((F_impl_Oldest (d0)) + ((i : Nat) : Int))).1) ((F_impl_KeysOf (d0)).getD i z_B)))) (wS (congrArg not h121)) ?_
  refine pf (vb (!(F_laws_same ((F_impl_KeyFor (d0) ((F_impl_Oldest (d0)) + ((i : Nat) : Int))).1) ((F_impl_KeysOf (d0)).getD i z_B)))) wN (congrArg not h121) ?_
  refine mw (vb (!(F_laws_same ((F_impl_KeyFor (d0) ((F_impl_Oldest (d0)) + ((i : Nat) : Int))).1) ((F_impl_KeysOf (d0)).getD i z_B)))) ?_
  rcases bf (F_laws_same ((F_impl_KeyFor (d0) ((F_impl_Oldest (d0)) + ((i : Nat) : Int))).1) ((F_impl_KeysOf (d0)).getD i z_B)) with h140 | h140
  ·iterate 3 refine sk (congrArg not h140) ?_
   refine pk (vb true) wN (congrArg not h140) ?_
   refine n2 ?_
   refine ct (Eq.refl true) ?_
   refine sr ?_
   refine aw (vb false) ?_
   refine wl_nil <| wq_then <| wc_ret <| wq_blk_ret <| wq_then_ret <| wq_then_ret <| wq_blk_ret <| wq_then_ret ?_
   refine rt (vb false) ?_
   have hF148 : kfLaw x_code d0 = false := by have hz := allN_f (f := kfG d0) (n := (F_impl_KeysOf d0).length) (k := i) (by omega) (by simp only [kfG, h8, h93, h103, h121, h140, cond_true, cond_false]); simp only [kfLaw, hz, h8, h93, h103, h121, h140, cond_true, cond_false]
   exact ⟨d0, m139.keep0, q13, by rw [hF148]⟩
  refine mv (vs a114 ((F_impl_KeyFor (d0) ((F_impl_Oldest (d0)) + ((i : Nat) : Int))).1).length c115) (wS (congrArg not h140)) ?_
  have o142 := (own_kp o116 k138)
  refine ln (wS (congrArg not h140)) slTy_22 (Rd.of_own o142) ?_
  refine pu (vb (!(decide ((((F_impl_KeyFor (d0) ((F_impl_Oldest (d0)) + ((i : Nat) : Int))).1).length : Int) = 32)))) (wS (congrArg not h140)) ?_
  refine pf (vb (!(decide ((((F_impl_KeyFor (d0) ((F_impl_Oldest (d0)) + ((i : Nat) : Int))).1).length : Int) = 32)))) wN (congrArg not h140) ?_
  refine n2 ?_
  rcases bf (decide ((((F_impl_KeyFor (d0) ((F_impl_Oldest (d0)) + ((i : Nat) : Int))).1).length : Int) = 32)) with h143 | h143
  ·have q145 := of_decide_eq_false h143
   refine ct (congrArg not h143) ?_
   refine sr ?_
   refine aw (vb false) ?_
   refine wl_nil <| wq_then <| wc_ret <| wq_blk_ret <| wq_then_ret <| wq_then_ret <| wq_blk_ret <| wq_then_ret ?_
   refine rt (vb false) ?_
   have hF146 : kfLaw x_code d0 = false := by have hz := allN_f (f := kfG d0) (n := (F_impl_KeysOf d0).length) (k := i) (by omega) (by simp only [kfG, h8, h93, h103, h121, h140, h143, cond_true, cond_false]); simp only [kfLaw, hz, h8, h93, h103, h121, h140, h143, cond_true, cond_false]
   exact ⟨d0, m139.keep0, q13, by rw [hF146]⟩
  have q144 := of_decide_eq_true h143
  refine cf (congrArg not h143) ?_
  refine wc_skip <| wq_blk_normal <| wq_then <| wc_region ?_
  refine mw (vi ((i : Nat) : Int)) ?_
  refine ar (((i : Nat) : Int) + 1) wN ?_
  refine aw (vi (((i : Nat) : Int) + 1)) ?_
  refine wl_nil ?_
  refine wq_loopP (w0 := w8) [(3, (vp g46 0)), (4, (vs a64 (F_impl_KeysOf (d0)).length c65)), (5, (vi (F_impl_Oldest (d0)))), (6, (vi (((i + 1) : Nat) : Int)))] ?_ ?_ ?_
  · exact ⟨rfl, rfl, rfl, (congrArg (Value.int .i64) (show ((((i : Nat) : Int) + 1) : Int) = (((i + 1) : Nat) : Int) by omega)), trivial⟩
  · exact fun u => ⟨(i + 1), u, rfl, m139, ((((Ch.refl (fun k => w7.heap.size ≤ k) w7).ext k97 (fun k hk => hk)).extk k113).extk k138), (by omega), (by first | (intro j hj; omega) | exact allN_next hi1 (by simp only [kfG, h8, h93, h103, h121, h140, h143, cond_true, cond_false]))⟩
  · show ((F_impl_KeysOf d0).length : Int).toNat - ((((i + 1) : Nat) : Int)).toNat < ((F_impl_KeysOf d0).length : Int).toNat - (((i : Nat) : Int)).toNat; omega
end Go.Proofs.Ytdbjmgkiccfhcaa.K
