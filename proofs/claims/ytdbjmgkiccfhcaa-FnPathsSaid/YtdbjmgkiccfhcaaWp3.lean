import Derived.Test.YtdbjmgkiccfhcaaCore
import Derived.Test.YtdbjmgkiccfhcaaProg
import Derived.Test.YtdbjmgkiccfhcaaHeld
import Derived.Test.YtdbjmgkiccfhcaaFun
import Derived.Test.YtdbjmgkiccfhcaaFunZ
import Derived.Test.YtdbjmgkiccfhcaaSqz
import Derived.Test.YtdbjmgkiccfhcaaCur
import Derived.Test.YtdbjmgkiccfhcaaDrawW
import Derived.Test.YtdbjmgkiccfhcaaDrawK
import Derived.Test.YtdbjmgkiccfhcaaWp2
namespace Go.Proofs.Ytdbjmgkiccfhcaa.K
open Go.RowKit
set_option linter.unusedVariables false
set_option linter.unusedSimpArgs false
set_option maxRecDepth 100000
set_option maxHeartbeats 4000000
theorem mQ_22 {w : World} {x : List UInt8} {a1 : Option Addr} {c1 : Nat} (h1 : Rd w 1 (.slice a1 x.length c1) x.length (x.map bV)) (l1 : x.length ≤ 9223372036854775807) : Q_22 w (vs a1 x.length c1) x := ⟨_, _, rfl, h1, l1⟩
def F_laws_FnPaths (x_code : List UInt8) (d0 : (PPaths) × (Int) × (PAddr) × (List UInt8)) : (Bool) := bif (F_laws_big x_code) then (true) else (bif ((((F_impl_Offer ((d0).1) ((d0).2.1) ((d0).2.2.1) ((d0).2.2.2))).2) == (((offS ((d0).1) ((d0).2.1) ((d0).2.2.1) ((d0).2.2.2))).2)) then (bif ((iPa ((d0).1)) == (sPa ((d0).1))) then (bif (((F_impl_Offer ((d0).1) ((d0).2.1) ((d0).2.2.1) ((d0).2.2.2))).2) then (bif (iPa (((F_impl_Offer ((d0).1) ((d0).2.1) ((d0).2.2.1) ((d0).2.2.2))).1)) then (bif ((F_impl_CandOf (((F_impl_Offer ((d0).1) ((d0).2.1) ((d0).2.2.1) ((d0).2.2.2))).1) ((d0).2.2.1)).2) then (bif (decide (((F_impl_CandOf (((F_impl_Offer ((d0).1) ((d0).2.1) ((d0).2.2.1) ((d0).2.2.2))).1) ((d0).2.2.1)).1).Until = (((d0).2.1) + 6))) then (bif ((F_impl_Answer (((F_impl_Offer ((d0).1) ((d0).2.1) ((d0).2.2.1) ((d0).2.2.2))).1) ((d0).2.1) ((d0).2.2.1) (F_laws_bent x_code ((d0).2.2.2))).2) then (false) else (bif (decide ((((((F_impl_Offer ((d0).1) ((d0).2.1) ((d0).2.2.1) ((d0).2.2.2))).1).At).Host) = ((((d0).1).At).Host)) && decide ((((((F_impl_Offer ((d0).1) ((d0).2.1) ((d0).2.2.1) ((d0).2.2.2))).1).At).Port) = ((((d0).1).At).Port))) then (bif (decide ((((d0).2.1) + 6) < (((d0).2.1) + ((F_laws_at x_code 2) % 9)))) then (bif (((F_impl_Answer (((F_impl_Offer ((d0).1) ((d0).2.1) ((d0).2.2.1) ((d0).2.2.2))).1) (((d0).2.1) + ((F_laws_at x_code 2) % 9)) ((d0).2.2.1) ((d0).2.2.2))).2) then (false) else ((decide ((((((F_impl_Answer (((F_impl_Offer ((d0).1) ((d0).2.1) ((d0).2.2.1) ((d0).2.2.2))).1) (((d0).2.1) + ((F_laws_at x_code 2) % 9)) ((d0).2.2.1) ((d0).2.2.2))).1).At).Host) = ((((d0).1).At).Host)) && decide ((((((F_impl_Answer (((F_impl_Offer ((d0).1) ((d0).2.1) ((d0).2.2.1) ((d0).2.2.2))).1) (((d0).2.1) + ((F_laws_at x_code 2) % 9)) ((d0).2.2.1) ((d0).2.2.2))).1).At).Port) = ((((d0).1).At).Port))))) else (bif (decide (1000000 < (((d0).2.1) + ((F_laws_at x_code 2) % 9)))) then (bif (((F_impl_Answer (((F_impl_Offer ((d0).1) ((d0).2.1) ((d0).2.2.1) ((d0).2.2.2))).1) (((d0).2.1) + ((F_laws_at x_code 2) % 9)) ((d0).2.2.1) ((d0).2.2.2))).2) then (false) else ((decide ((((((F_impl_Answer (((F_impl_Offer ((d0).1) ((d0).2.1) ((d0).2.2.1) ((d0).2.2.2))).1) (((d0).2.1) + ((F_laws_at x_code 2) % 9)) ((d0).2.2.1) ((d0).2.2.2))).1).At).Host) = ((((d0).1).At).Host)) && decide ((((((F_impl_Answer (((F_impl_Offer ((d0).1) ((d0).2.1) ((d0).2.2.1) ((d0).2.2.2))).1) (((d0).2.1) + ((F_laws_at x_code 2) % 9)) ((d0).2.2.1) ((d0).2.2.2))).1).At).Port) = ((((d0).1).At).Port))))) else (bif (((F_impl_Answer (((F_impl_Offer ((d0).1) ((d0).2.1) ((d0).2.2.1) ((d0).2.2.2))).1) (((d0).2.1) + ((F_laws_at x_code 2) % 9)) ((d0).2.2.1) ((d0).2.2.2))).2) then (bif (decide ((((((F_impl_Answer (((F_impl_Offer ((d0).1) ((d0).2.1) ((d0).2.2.1) ((d0).2.2.2))).1) (((d0).2.1) + ((F_laws_at x_code 2) % 9)) ((d0).2.2.1) ((d0).2.2.2))).1).At).Host) = (((d0).2.2.1).Host)) && decide ((((((F_impl_Answer (((F_impl_Offer ((d0).1) ((d0).2.1) ((d0).2.2.1) ((d0).2.2.2))).1) (((d0).2.1) + ((F_laws_at x_code 2) % 9)) ((d0).2.2.1) ((d0).2.2.2))).1).At).Port) = (((d0).2.2.1).Port))) then (bif (iPa (((F_impl_Answer (((F_impl_Offer ((d0).1) ((d0).2.1) ((d0).2.2.1) ((d0).2.2.2))).1) (((d0).2.1) + ((F_laws_at x_code 2) % 9)) ((d0).2.2.1) ((d0).2.2.2))).1)) then (bif (((F_impl_Answer (((F_impl_Answer (((F_impl_Offer ((d0).1) ((d0).2.1) ((d0).2.2.1) ((d0).2.2.2))).1) (((d0).2.1) + ((F_laws_at x_code 2) % 9)) ((d0).2.2.1) ((d0).2.2.2))).1) (((d0).2.1) + ((F_laws_at x_code 2) % 9)) ((d0).2.2.1) ((d0).2.2.2))).2) then (false) else (bif (decide ((((((F_impl_Answer (((F_impl_Answer (((F_impl_Offer ((d0).1) ((d0).2.1) ((d0).2.2.1) ((d0).2.2.2))).1) (((d0).2.1) + ((F_laws_at x_code 2) % 9)) ((d0).2.2.1) ((d0).2.2.2))).1) (((d0).2.1) + ((F_laws_at x_code 2) % 9)) ((d0).2.2.1) ((d0).2.2.2))).1).At).Host) = (((d0).2.2.1).Host)) && decide ((((((F_impl_Answer (((F_impl_Answer (((F_impl_Offer ((d0).1) ((d0).2.1) ((d0).2.2.1) ((d0).2.2.2))).1) (((d0).2.1) + ((F_laws_at x_code 2) % 9)) ((d0).2.2.1) ((d0).2.2.2))).1) (((d0).2.1) + ((F_laws_at x_code 2) % 9)) ((d0).2.2.1) ((d0).2.2.2))).1).At).Port) = (((d0).2.2.1).Port))) then (decide ((((((F_impl_Answer (((F_impl_Offer ((d0).1) ((d0).2.1) ((d0).2.2.1) ((d0).2.2.2))).1) (((d0).2.1) + ((F_laws_at x_code 2) % 9)) ((d0).2.2.1) ((d0).2.2.2))).1).Cands).length : Int) = ((((((F_impl_Offer ((d0).1) ((d0).2.1) ((d0).2.2.1) ((d0).2.2.2))).1).Cands).length : Int) - 1))) else (false))) else (false)) else (false)) else (false)))) else (false))) else (false)) else (false)) else (false)) else (bif (decide ((((((F_impl_Offer ((d0).1) ((d0).2.1) ((d0).2.2.1) ((d0).2.2.2))).1).Cands).length : Int) = ((((d0).1).Cands).length : Int))) then ((decide ((((((F_impl_Offer ((d0).1) ((d0).2.1) ((d0).2.2.1) ((d0).2.2.2))).1).At).Host) = ((((d0).1).At).Host)) && decide ((((((F_impl_Offer ((d0).1) ((d0).2.1) ((d0).2.2.1) ((d0).2.2.2))).1).At).Port) = ((((d0).1).At).Port)))) else (false))) else (false)) else (false))
theorem C_laws_FnPaths (w0 : World) (v_x_code : Value) (x_code : List UInt8) (r_x_code : Q_22 w0 v_x_code x_code)  : Fn Try.prog 4 #[v_x_code] w0 (fun v w' => ∃ (d0 : (PPaths) × (Int) × (PAddr) × (List UInt8)), Keep w0 w' ∧ (-1 ≤ d0.2.1 ∧ d0.2.1 ≤ 1000001) ∧ v = vb (F_laws_FnPaths x_code d0)) := by
 obtain ⟨a1, c2, rfl, r3, s4⟩ := r_x_code
 refine fn_ofS (n := 180) [(vs a1 x_code.length c2)] Try.func4 rfl rfl ?_
 refine sr ?_
 refine aw (vb false) ?_
 refine n4 ?_
 refine mw (vs a1 x_code.length c2) ?_
 refine cl wN (C_laws_big w0 _ x_code (mQ_22 r3 s4)) ?_
 rintro _ w1 ⟨k6, rfl⟩
 have m7 := (Ch.base w0).extk k6
 refine n2 ?_
 rcases bt (F_laws_big x_code) with h8 | h8
 ·refine ct h8 ?_
  refine sr ?_
  refine aw (vb true) ?_
  refine n1 ?_
  refine rt (vb true) ?_
  have hF10 : F_laws_FnPaths x_code (({ At := { Host := 0, Port := 0 : PAddr }, Cands := [] : PPaths }, 0, { Host := 0, Port := 0 : PAddr }, [])) = true := by first | (simp only [F_laws_FnPaths, h8, cond_true, cond_false, decide_true]; done) | (exfalso; first | (simp at h8; done)) | (unfold F_laws_FnPaths; try simp only [h8, cond_true, cond_false]; done) | (unfold F_laws_FnPaths; try rw [h8]; first | done | rfl)
  exact ⟨(({ At := { Host := 0, Port := 0 : PAddr }, Cands := [] : PPaths }, 0, { Host := 0, Port := 0 : PAddr }, [])), m7.keep0, (by first | trivial | decide | (simp; done)), by rw [hF10]⟩
 have q11 := big_f h8
 refine cf h8 ?_
 refine y1 ?_
 refine mw (vs a1 x_code.length c2) ?_
 refine cl wN (C_spec_DrawOffer w1 _ x_code (mR_22 (r3.from0 m7) (by omega))) ?_
 rintro _ w2 ⟨d0, k12, ⟨a14, c15, a19, c20, rfl, o16, s17, o21, s22, ap24⟩, q13⟩
 obtain ⟨y26, o27⟩ := OLv.ow o16
 refine mw (.tuple #[(va (L_28 ((d0).1) a14 c15)), (vi ((d0).2.1)), (va (L_25 ((d0).2.2.1))), (vs a19 ((d0).2.2.2).length c20)]) ?_
 refine pu (va (L_28 ((d0).1) a14 c15)) wN ?_
 refine pu (vi ((d0).2.1)) wN ?_
 refine pu (va (L_25 ((d0).2.2.1))) wN ?_
 refine pu (vs a19 ((d0).2.2.2).length c20) wN ?_
 refine al [(vi 0), (vi 0), (vs none 0 0)] wN zero_28 ?_
 intro g28 w3 p29 p30 k31 b32
 have m33 := (m7.extk k12).extk k31
 refine al [(vi 0), (vi 0)] wN zero_25 ?_
 intro g34 w4 p35 p36 k37 b38
 have b40 := (b32.kp k37)
 refine sv (L_28 ((d0).1) a14 c15) wN sizeOf_28 b40 ?_
 intro w5 k41 b42 z43
 have m44 := (m33.extk k37).ext k41 (fun k hk => by subst hk; exact Nat.le_trans (z2 k6 k12) p29)
 refine aw (vi ((d0).2.1)) ?_
 have b45 := (b38.ch k41 (Ne.symm (Nat.ne_of_lt (Nat.lt_of_lt_of_le p30 (p35)))))
 refine st (va (L_25 ((d0).2.2.1))) (L_25 ((d0).2.2.1)) (L_25 ((d0).2.2.1)) wN sizeOf_25 b45 ?_
 intro w6 k46 b47 z48
 have m49 := m44.ext k46 (fun k hk => by subst hk; exact Nat.le_trans (z3 k6 k12 k31) p35)
 refine aw (vs a19 ((d0).2.2.2).length c20) ?_
 refine nx ?_
 have b50 := (b42.ch k46 (Nat.ne_of_lt (Nat.lt_of_lt_of_le p30 (p35))))
 refine lN (L_28 ((d0).1) a14 c15) wN isAgg_28 sizeOf_28 b50 ?_
 refine mw (vi ((d0).2.1)) ?_
 refine lN (L_25 ((d0).2.2.1)) wN isAgg_25 sizeOf_25 b47 ?_
 refine mw (vs a19 ((d0).2.2.2).length c20) ?_
 have o51 := (OLv.ch (OLv.ch (OLv.kp (OLv.kp o16 k31) k37) k41 (fun g h1 h2 hk => by have h3 := Nat.le_trans (Nat.le_refl w2.heap.size) p29; omega)) k46 (fun g h1 h2 hk => by have h3 := Nat.le_trans k31.size p35; omega))
 have t52 := fun (E sz n : Nat) (v : Value) (xs : List Value) (o : World.ownsRow w2 w1.heap.size E sz v n xs) (o0 : World.ownsRow w2 w1.heap.size E sz v n xs) => (own_ch (own_ch (own_kp (own_kp o k31) k37) k41 (ne2 o0 (p29))) k46 (ne2 o0 (Nat.le_trans k31.size p35)))
 have o53 := (t52 _ _ _ _ _ o21 o21)
 obtain ⟨y55, e56⟩ : ∃ y, F_impl_Offer ((d0).1) ((d0).2.1) ((d0).2.2.1) ((d0).2.2.2) = y := ⟨_, rfl⟩
 have hc54 := C_impl_Offer w6 _ ((d0).1) (mR_28 (OLv.rl o51) s17) ((d0).2.1) _ ((d0).2.2.1) (mR_25) _ ((d0).2.2.2) (mR_22 (Rd.of_own o53) s22)
 rw [e56] at hc54
 refine cl wN hc54 ?_
 rintro _ w7 ⟨k57, ⟨a58, c59, rfl, o60, s61, ap63⟩⟩
 obtain ⟨y65, o66⟩ := OLv.ow o60
 refine mw (.tuple #[(va (L_28 ((y55).1) a58 c59)), (vb ((y55).2))]) ?_
 refine pu (va (L_28 ((y55).1) a58 c59)) wN ?_
 refine pu (vb ((y55).2)) wN ?_
 refine al [(vi 0), (vi 0), (vs none 0 0)] wN zero_28 ?_
 intro g67 w8 p68 p69 k70 b71
 refine sv (L_28 ((y55).1) a58 c59) wN sizeOf_28 b71 ?_
 intro w9 k73 b74 z75
 have m76 := ((m49.extk k57).extk k70).ext k73 (fun k hk => by subst hk; exact Nat.le_trans (z7 k6 k12 k31 k37 k41 k46 k57) p68)
 refine aw (vb ((y55).2)) ?_
 refine nx ?_
 have b77 := (((b50.kp k57).kp k70).ch k73 (Nat.ne_of_lt (Nat.lt_of_lt_of_le p30 (Nat.le_trans (z4 k37 k41 k46 k57) p68))))
 refine lN (L_28 ((d0).1) a14 c15) wN isAgg_28 sizeOf_28 b77 ?_
 refine mw (vi ((d0).2.1)) ?_
 have b78 := (((b47.kp k57).kp k70).ch k73 (Nat.ne_of_lt (Nat.lt_of_lt_of_le p36 (Nat.le_trans (z3 k41 k46 k57) p68))))
 refine lN (L_25 ((d0).2.2.1)) wN isAgg_25 sizeOf_25 b78 ?_
 refine mw (vs a19 ((d0).2.2.2).length c20) ?_
 have o79 := (OLv.ch (OLv.kp (OLv.kp o51 k57) k70) k73 (fun g h1 h2 hk => by have h3 := Nat.le_trans (z5 k31 k37 k41 k46 k57) p68; omega))
 have t80 := fun (E sz n : Nat) (v : Value) (xs : List Value) (o : World.ownsRow w6 w1.heap.size E sz v n xs) (o0 : World.ownsRow w2 w1.heap.size E sz v n xs) => (own_ch (own_kp (own_kp o k57) k70) k73 (ne2 o0 (Nat.le_trans (z5 k31 k37 k41 k46 k57) p68)))
 have o81 := (t80 _ _ _ _ _ o53 o21)
 obtain ⟨y83, e84⟩ : ∃ y, offS ((d0).1) ((d0).2.1) ((d0).2.2.1) ((d0).2.2.2) = y := ⟨_, rfl⟩
 have hc82 := C_spec_Offer w9 _ ((d0).1) (mR_28 (OLv.rl o79) s17) ((d0).2.1) _ ((d0).2.2.1) (mR_25) _ ((d0).2.2.2) (mR_22 (Rd.of_own o81) s22)
 rw [e84] at hc82
 refine cl wN hc82 ?_
 rintro _ w10 ⟨k85, ⟨a86, c87, rfl, o88, s89, ap91⟩⟩
 obtain ⟨y93, o94⟩ := OLv.ow o88
 refine mw (.tuple #[(va (L_28 ((y83).1) a86 c87)), (vb ((y83).2))]) ?_
 refine pu (va (L_28 ((y83).1) a86 c87)) wN ?_
 refine pu (vb ((y83).2)) wN ?_
 refine al [(vi 0), (vi 0), (vs none 0 0)] wN zero_28 ?_
 intro g95 w11 p96 p97 k98 b99
 refine sv (L_28 ((y83).1) a86 c87) wN sizeOf_28 b99 ?_
 intro w12 k101 b102 z103
 have m104 := ((m76.extk k85).extk k98).ext k101 (fun k hk => by subst hk; exact Nat.le_trans (z10 k6 k12 k31 k37 k41 k46 k57 k70 k73 k85) p96)
 refine aw (vb ((y83).2)) ?_
 refine wl_nil <| wq_then <| wc_seq <| wc_seq ?_
 rcases bf (((y55).2) == ((y83).2)) with h105 | h105
 ·refine wc_drawT ([(45, [], [], (fun _ v _ => v = (vb ((y55).2)))), (46, [], [], (fun _ v _ => v = (vb ((y83).2)))), (47, [], [0, 1], (fun _ v _ => v = (vb (!(((y55).2) == ((y83).2)))))), (48, [], [0, 1, 2], (fun _ v _ => v = (vb (!(((y55).2) == ((y83).2)))))), (49, [], [0, 1, 2, 3], (fun _ v _ => v = U)), (50, [], [0, 1, 2, 3, 4], (fun _ v _ => v = U)), (51, [], [0, 1, 2, 3], (fun _ v _ => v = U))] : GV) (fun _ w' => Keep w12 w') [] mixed rfl (by kernel_rfl) (by kernel_rfl) ?_ (fun _ _ h => h) (fun _ _ _ _ h _ k => h.trans k) trivial ?_ ?_ ?_
  ·exact ⟨hV, hE, ⟨hV, hE, ⟨hV, hE, ⟨hV, hE, ⟨hV, hE, ⟨hV, hE, ⟨hV, hE, trivial⟩⟩⟩⟩⟩⟩⟩
  ·exact trivial
  ·refine ⟨?_, ⟨?_, ⟨?_, ⟨?_, ⟨?_, ⟨?_, ⟨?_, trivial⟩⟩⟩⟩⟩⟩⟩
   ·intro _ w13 k540 _
    rintro _ _ _ _ _ _ _
    show WL _ _ _ _ _ _ _
    refine mw (vb ((y55).2)) ?_
    exact f1
   ·intro _ w13 k542 _
    rintro _ _ _ _ _ _ _
    show WL _ _ _ _ _ _ _
    refine mw (vb ((y83).2)) ?_
    exact f1
   ·intro _ w13 k544 _
    rintro _ rfl _ rfl _ _ _ _ _
    show WL _ _ _ _ _ _ _
    refine pu (vb (!(((y55).2) == ((y83).2)))) wN ?_
    exact f1
   ·intro _ w13 k546 _
    rintro _ rfl _ rfl _ rfl _ _ _ _
    show WL _ _ _ _ _ _ _
    refine mw (vb (!(((y55).2) == ((y83).2)))) ?_
    exact f1
   ·intro _ w13 k548 _
    rintro _ rfl _ rfl _ rfl _ rfl _ _ _
    show WL _ _ _ _ _ _ _
    refine sk (congrArg not h105) ?_
    exact f1
   ·intro _ w13 k550 _
    rintro _ rfl _ rfl _ rfl _ rfl _ rfl _ _
    show WL _ _ _ _ _ _ _
    refine sk (congrArg not h105) ?_
    exact f1
   ·intro _ w13 k552 _
    rintro _ rfl _ rfl _ rfl _ rfl _ _ _
    show WL _ _ _ _ _ _ _
    refine sk (congrArg not h105) ?_
    exact f1
  ·intro _ w13 k554
   have m555 := m104.extk k554
   rintro _ rfl _ rfl _ rfl _ rfl _ rfl _ rfl _ rfl
   show WL _ _ _ _ _ _ _
   iterate 2 refine sk (congrArg not h105) ?_
   refine pk (vb true) wN (congrArg not h105) ?_
   refine n2 ?_
   refine ct (Eq.refl true) ?_
   refine sr ?_
   refine aw (vb false) ?_
   refine n1 ?_
   refine rt (vb false) ?_
   have hF556 : F_laws_FnPaths x_code d0 = false := by first | (simp only [F_laws_FnPaths, h8, e56, e84, h105, cond_true, cond_false, decide_true]; done) | (exfalso; first | (simp at h105; done) | (simp at e84; done) | (simp at e56; done) | (simp at h8; done)) | (unfold F_laws_FnPaths; try simp only [h8, cond_true, cond_false]; try simp only [e56, cond_true, cond_false]; try simp only [e84, cond_true, cond_false]; try simp only [h105, cond_true, cond_false]; done) | (unfold F_laws_FnPaths; try rw [h8]; try rw [e56]; try rw [e84]; try rw [h105]; first | done | rfl)
   exact ⟨d0, m555.keep0, q13, by rw [hF556]⟩
 refine wc_drawT ([(45, [], [], (fun _ v _ => v = (vb ((y55).2)))), (46, [], [], (fun _ v _ => v = (vb ((y83).2)))), (47, [], [0, 1], (fun _ v _ => v = (vb (!(((y55).2) == ((y83).2)))))), (48, [], [0, 1, 2], (fun _ v _ => v = (vb (!(((y55).2) == ((y83).2)))))), (49, [], [0, 1, 2, 3], (fun _ v _ => v = (va (L_28 ((d0).1) a14 c15)))), (50, [], [0, 1, 2, 3, 4], (fun _ v w => v = .bool (iPa ((d0).1)))), (51, [], [0, 1, 2, 3], (fun _ v _ => v = (va (L_28 ((d0).1) a14 c15))))] : GV) (fun _ w' => Keep w12 w') [] mixed rfl (by kernel_rfl) (by kernel_rfl) ?_ (fun _ _ h => h) (fun _ _ _ _ h _ k => h.trans k) trivial ?_ ?_ ?_
 ·exact ⟨hV, hE, ⟨hV, hE, ⟨hV, hE, ⟨hV, hE, ⟨hV, hE, ⟨hV, hE, ⟨hV, hE, trivial⟩⟩⟩⟩⟩⟩⟩
 ·exact trivial
 ·refine ⟨?_, ⟨?_, ⟨?_, ⟨?_, ⟨?_, ⟨?_, ⟨?_, trivial⟩⟩⟩⟩⟩⟩⟩
  ·intro _ w13 k116 _
   rintro _ _ _ _ _ _ _
   show WL _ _ _ _ _ _ _
   refine mw (vb ((y55).2)) ?_
   exact f1
  ·intro _ w13 k118 _
   rintro _ _ _ _ _ _ _
   show WL _ _ _ _ _ _ _
   refine mw (vb ((y83).2)) ?_
   exact f1
  ·intro _ w13 k120 _
   rintro _ rfl _ rfl _ _ _ _ _
   show WL _ _ _ _ _ _ _
   refine pu (vb (!(((y55).2) == ((y83).2)))) wN ?_
   exact f1
  ·intro _ w13 k122 _
   rintro _ rfl _ rfl _ rfl _ _ _ _
   show WL _ _ _ _ _ _ _
   refine mw (vb (!(((y55).2) == ((y83).2)))) ?_
   exact f1
  ·intro _ w13 k124 _
   rintro _ rfl _ rfl _ rfl _ rfl _ _ _
   show WL _ _ _ _ _ _ _
   have b126 := ((((b77.kp k85).kp k98).ch k101 (Nat.ne_of_lt (Nat.lt_of_lt_of_le p30 (Nat.le_trans (z7 k37 k41 k46 k57 k70 k73 k85) p96)))).kp k124)
   refine lN (L_28 ((d0).1) a14 c15) (wS (congrArg not h105)) isAgg_28 sizeOf_28 b126 ?_
   exact f1
  ·intro _ w13 k127 _
   rintro _ rfl _ rfl _ rfl _ rfl _ rfl _ _
   show WL _ _ _ _ _ _ _
   have o130 := (OLv.kp (OLv.ch (OLv.kp (OLv.kp o79 k85) k98) k101 (fun g h1 h2 hk => by have h3 := Nat.le_trans (z8 k31 k37 k41 k46 k57 k70 k73 k85) p96; omega)) k127)
   refine cl (wS (congrArg not h105)) (C_impl_PathsOk w13 _ ((d0).1) (mR_28 (OLv.rl o130) s17)) ?_
   rintro _ w14 ⟨k131, rfl⟩
   exact wl_finT k131 rfl
  ·intro _ w13 k133 _
   rintro _ rfl _ rfl _ rfl _ rfl _ _ _
   show WL _ _ _ _ _ _ _
   have b135 := ((((b77.kp k85).kp k98).ch k101 (Nat.ne_of_lt (Nat.lt_of_lt_of_le p30 (Nat.le_trans (z7 k37 k41 k46 k57 k70 k73 k85) p96)))).kp k133)
   refine lN (L_28 ((d0).1) a14 c15) (wS (congrArg not h105)) isAgg_28 sizeOf_28 b135 ?_
   exact f1
 ·intro _ w13 k136
  rintro _ rfl _ rfl _ rfl _ rfl _ rfl _ rfl _ rfl
  show WL _ _ _ _ _ _ _
  have o140 := (OLv.kp (OLv.ch (OLv.kp (OLv.kp o79 k85) k98) k101 (fun g h1 h2 hk => by have h3 := Nat.le_trans (z8 k31 k37 k41 k46 k57 k70 k73 k85) p96; omega)) k136)
  refine cl (wS (congrArg not h105)) (C_spec_PathsOk w13 _ ((d0).1) (mR_28 (OLv.rl o140) s17)) ?_
  rintro _ w14 ⟨k141, rfl⟩
  have m142 := (m104.extk k136).extk k141
  refine pu (vb (!((iPa ((d0).1)) == (sPa ((d0).1))))) (wS (congrArg not h105)) ?_
  refine pf (vb (!((iPa ((d0).1)) == (sPa ((d0).1))))) wN (congrArg not h105) ?_
  refine n2 ?_
  rcases bf ((iPa ((d0).1)) == (sPa ((d0).1))) with h143 | h143
  ·refine ct (congrArg not h143) ?_
   refine sr ?_
   refine aw (vb false) ?_
   refine n1 ?_
   refine rt (vb false) ?_
   have hF538 : F_laws_FnPaths x_code d0 = false := by first | (simp only [F_laws_FnPaths, h8, e56, e84, h105, h143, cond_true, cond_false, decide_true]; done) | (exfalso; first | (simp at h143; done) | (simp at h105; done) | (simp at e84; done) | (simp at e56; done) | (simp at h8; done)) | (unfold F_laws_FnPaths; try simp only [h8, cond_true, cond_false]; try simp only [e56, cond_true, cond_false]; try simp only [e84, cond_true, cond_false]; try simp only [h105, cond_true, cond_false]; try simp only [h143, cond_true, cond_false]; done) | (unfold F_laws_FnPaths; try rw [h8]; try rw [e56]; try rw [e84]; try rw [h105]; try rw [h143]; first | done | rfl)
   exact ⟨d0, m142.keep0, q13, by rw [hF538]⟩
  refine cf (congrArg not h143) ?_
  refine y2 ?_
  refine mw (vb ((y55).2)) ?_
  refine pu (vb (!((y55).2))) wN ?_
  refine n2 ?_
  rcases bf ((y55).2) with h145 | h145
  ·refine ct (congrArg not h145) ?_
   refine sr ?_
   refine pu (vp g67 2) wN ?_
   have b524 := (((((b74.kp k85).kp k98).ch k101 (Nat.ne_of_lt (Nat.lt_of_lt_of_le p69 (Nat.le_trans (z2 k73 k85) p96)))).kp k136).kp k141)
   refine ld (vs a58 (((y55).1).Cands).length c59) wN isAgg_26 b524 ?_
   have o527 := (OLv.kp (OLv.kp (OLv.ch (OLv.kp (OLv.kp (OLv.ch (OLv.kp o60 k70) k73 (fun g h1 h2 hk => by have h3 := Nat.le_trans (Nat.le_refl w7.heap.size) p68; omega)) k85) k98) k101 (fun g h1 h2 hk => by have h3 := Nat.le_trans (z3 k70 k73 k85) p96; omega)) k136) k141)
   obtain ⟨y525, r526⟩ := RLv.row (OLv.rl o527)
   refine ln wN slTy_26 r526 ?_
   refine pu (vp g28 2) wN ?_
   have b528 := (((((b77.kp k85).kp k98).ch k101 (Nat.ne_of_lt (Nat.lt_of_lt_of_le p30 (Nat.le_trans (z7 k37 k41 k46 k57 k70 k73 k85) p96)))).kp k136).kp k141)
   refine ld (vs a14 (((d0).1).Cands).length c15) wN isAgg_26 b528 ?_
   have o531 := (OLv.kp o140 k141)
   obtain ⟨y529, r530⟩ := RLv.row (OLv.rl o531)
   refine ln wN slTy_26 r530 ?_
   refine pu (vb (decide (((((y55).1).Cands).length : Int) = ((((d0).1).Cands).length : Int)))) wN ?_
   refine mw (vb (decide (((((y55).1).Cands).length : Int) = ((((d0).1).Cands).length : Int)))) ?_
   rcases bf (decide (((((y55).1).Cands).length : Int) = ((((d0).1).Cands).length : Int))) with h532 | h532
   ·have q535 := of_decide_eq_false h532
    iterate 5 refine sk h532 ?_
    refine pf (vb false) wN h532 ?_
    refine aw (vb false) ?_
    refine n1 ?_
    refine rt (vb false) ?_
    have hF536 : F_laws_FnPaths x_code d0 = false := by first | (simp only [F_laws_FnPaths, h8, e56, e84, h105, h143, h145, h532, cond_true, cond_false, decide_true]; done) | (exfalso; first | (simp at h532; done) | (simp at h145; done) | (simp at h143; done) | (simp at h105; done) | (simp at e84; done)) | (unfold F_laws_FnPaths; try simp only [h8, cond_true, cond_false]; try simp only [e56, cond_true, cond_false]; try simp only [e84, cond_true, cond_false]; try simp only [h105, cond_true, cond_false]; try simp only [h143, cond_true, cond_false]; try simp only [h145, cond_true, cond_false]; try simp only [h532, cond_true, cond_false]; done) | (unfold F_laws_FnPaths; try rw [h8]; try rw [e56]; try rw [e84]; try rw [h105]; try rw [h143]; try rw [h145]; try rw [h532]; first | done | rfl)
    exact ⟨d0, m142.keep0, q13, by rw [hF536]⟩
   have q533 := of_decide_eq_true h532
   refine pu (vp g67 0) (wS h532) ?_
   refine lN (L_25 (((y55).1).At)) (wS h532) isAgg_25 sizeOf_25 b524 ?_
   refine pu (vp g28 0) (wS h532) ?_
   refine lN (L_25 (((d0).1).At)) (wS h532) isAgg_25 sizeOf_25 b528 ?_
   refine wl_aggeq ((decide (((((y55).1).At).Host) = ((((d0).1).At).Host)) && decide (((((y55).1).At).Port) = ((((d0).1).At).Port)))) (wS h532) rfl rfl rfl rfl rfl guardt_25 (aggeq_25 ((((y55).1).At).Host) ((((d0).1).At).Host) ((((y55).1).At).Port) ((((d0).1).At).Port) w14) ?_
   refine pk (vb (decide (((((y55).1).At).Host) = ((((d0).1).At).Host)) && decide (((((y55).1).At).Port) = ((((d0).1).At).Port)))) wN h532 ?_
   refine aw (vb (decide (((((y55).1).At).Host) = ((((d0).1).At).Host)) && decide (((((y55).1).At).Port) = ((((d0).1).At).Port)))) ?_
   refine n1 ?_
   refine rt (vb (decide (((((y55).1).At).Host) = ((((d0).1).At).Host)) && decide (((((y55).1).At).Port) = ((((d0).1).At).Port)))) ?_
   have hF534 : F_laws_FnPaths x_code d0 = (decide (((((y55).1).At).Host) = ((((d0).1).At).Host)) && decide (((((y55).1).At).Port) = ((((d0).1).At).Port))) := by first | (simp only [F_laws_FnPaths, h8, e56, e84, h105, h143, h145, h532, cond_true, cond_false, decide_true]; done) | (exfalso; first | (simp at h532; done) | (simp at h145; done) | (simp at h143; done) | (simp at h105; done) | (simp at e84; done)) | (unfold F_laws_FnPaths; try simp only [h8, cond_true, cond_false]; try simp only [e56, cond_true, cond_false]; try simp only [e84, cond_true, cond_false]; try simp only [h105, cond_true, cond_false]; try simp only [h143, cond_true, cond_false]; try simp only [h145, cond_true, cond_false]; try simp only [h532, cond_true, cond_false]; done) | (unfold F_laws_FnPaths; try rw [h8]; try rw [e56]; try rw [e84]; try rw [h105]; try rw [h143]; try rw [h145]; try rw [h532]; first | done | rfl)
   exact ⟨d0, m142.keep0, q13, by rw [hF534]⟩
  refine cf (congrArg not h145) ?_
  refine y1 ?_
  refine mw (vi ((d0).2.1)) ?_
  refine mw (vs a1 x_code.length c2) ?_
  refine cl wN (C_laws_at w14 _ x_code (mR_22 (r3.from0 m142) (by omega)) 2 (by omega)) ?_
  rintro _ w15 ⟨k147, rfl⟩
  have q149 := at_b x_code 2
  refine wl_rem (F_laws_at x_code 2) 9 wN rfl rfl (by kernel_rfl) (by first | omega | assumption) ?_
  refine ar (((d0).2.1) + ((F_laws_at x_code 2) % 9)) wN ?_
  refine aw (vi (((d0).2.1) + ((F_laws_at x_code 2) % 9))) ?_
  refine nx ?_
  have b150 := ((((((b74.kp k85).kp k98).ch k101 (Nat.ne_of_lt (Nat.lt_of_lt_of_le p69 (Nat.le_trans (z2 k73 k85) p96)))).kp k136).kp k141).kp k147)
  refine lN (L_28 ((y55).1) a58 c59) wN isAgg_28 sizeOf_28 b150 ?_
  refine mw (vi (((d0).2.1) + ((F_laws_at x_code 2) % 9))) ?_
  have b151 := ((((((b78.kp k85).kp k98).ch k101 (Nat.ne_of_lt (Nat.lt_of_lt_of_le p36 (Nat.le_trans (z6 k41 k46 k57 k70 k73 k85) p96)))).kp k136).kp k141).kp k147)
  refine lN (L_25 ((d0).2.2.1)) wN isAgg_25 sizeOf_25 b151 ?_
  refine mw (vs a19 ((d0).2.2.2).length c20) ?_
  have o152 := (OLv.kp (OLv.kp (OLv.kp (OLv.ch (OLv.kp (OLv.kp (OLv.ch (OLv.kp o60 k70) k73 (fun g h1 h2 hk => by have h3 := Nat.le_trans (Nat.le_refl w7.heap.size) p68; omega)) k85) k98) k101 (fun g h1 h2 hk => by have h3 := Nat.le_trans (z3 k70 k73 k85) p96; omega)) k136) k141) k147)
  have t153 := fun (E sz n : Nat) (v : Value) (xs : List Value) (o : World.ownsRow w9 w1.heap.size E sz v n xs) (o0 : World.ownsRow w2 w1.heap.size E sz v n xs) => (own_kp (own_kp (own_kp (own_ch (own_kp (own_kp o k85) k98) k101 (ne2 o0 (Nat.le_trans (z8 k31 k37 k41 k46 k57 k70 k73 k85) p96))) k136) k141) k147)
  have o154 := (t153 _ _ _ _ _ o81 o21)
  obtain ⟨y156, e157⟩ : ∃ y, F_impl_Answer ((y55).1) (((d0).2.1) + ((F_laws_at x_code 2) % 9)) ((d0).2.2.1) ((d0).2.2.2) = y := ⟨_, rfl⟩
  have hc155 := C_impl_Answer w15 _ ((y55).1) (mR_28 (OLv.rl o152) s61) (((d0).2.1) + ((F_laws_at x_code 2) % 9)) _ ((d0).2.2.1) (mR_25) _ ((d0).2.2.2) (mR_22 (Rd.of_own o154) s22)
  rw [e157] at hc155
  refine cl wN hc155 ?_
  rintro _ w16 ⟨k158, ⟨a159, c160, rfl, o161, s162, ap164⟩⟩
  have m165 := (m142.extk k147).extk k158
  obtain ⟨y166, o167⟩ := OLv.ow o161
  refine mw (.tuple #[(va (L_28 ((y156).1) a159 c160)), (vb ((y156).2))]) ?_
  refine pu (va (L_28 ((y156).1) a159 c160)) wN ?_
  refine pu (vb ((y156).2)) wN ?_
  refine al [(vi 0), (vi 0), (vs none 0 0)] wN zero_28 ?_
  intro g168 w17 p169 p170 k171 b172
  refine sv (L_28 ((y156).1) a159 c160) wN sizeOf_28 b172 ?_
  intro w18 k174 b175 z176
  have m177 := (m165.extk k171).ext k174 (fun k hk => by subst hk; exact Nat.le_trans (t5 (z12 k6 k12 k31 k37 k41 k46 k57 k70 k73 k85 k98 k101) k136.size k141.size k147.size k158.size) p169)
  refine aw (vb ((y156).2)) ?_
  refine wl_nil <| wq_then <| wc_seq ?_
  refine wc_drawT ([(85, [], [], (fun _ v _ => v = (va (L_28 ((y55).1) a58 c59)))), (86, [], [], (fun _ v _ => v = (vi ((d0).2.1)))), (87, [], [], (fun _ v _ => v = (va (L_25 ((d0).2.2.1))))), (88, [], [], (fun _ v _ => v = (vs a1 x_code.length c2))), (89, [], [], (fun _ v _ => v = (vs a19 ((d0).2.2.2).length c20))), (90, [], [3, 4], (fun _ v w => ∃ (a1 : Option Addr) (c1 : Nat), v = .slice a1 (F_laws_bent x_code ((d0).2.2.2)).length c1 ∧ w.ownsRow (w18.heap.size) 5 1 (.slice a1 (F_laws_bent x_code ((d0).2.2.2)).length c1) (F_laws_bent x_code ((d0).2.2.2)).length ((F_laws_bent x_code ((d0).2.2.2)).map bV) ∧ (F_laws_bent x_code ((d0).2.2.2)).length ≤ 1073741824 ∧ Aps [(a1, c1)])), (91, [90], [0, 1, 2, 3, 4, 5], (fun e v w => ∃ (a1 : Option Addr) (c1 : Nat), v = .tuple #[.agg #[.int .i64 ((((F_impl_Answer ((y55).1) ((d0).2.1) ((d0).2.2.1) (F_laws_bent x_code ((d0).2.2.2))).1).At).Host), .int .i64 ((((F_impl_Answer ((y55).1) ((d0).2.1) ((d0).2.2.1) (F_laws_bent x_code ((d0).2.2.2))).1).At).Port), .slice a1 (((F_impl_Answer ((y55).1) ((d0).2.1) ((d0).2.2.1) (F_laws_bent x_code ((d0).2.2.2))).1).Cands).length c1], .bool ((F_impl_Answer ((y55).1) ((d0).2.1) ((d0).2.2.1) (F_laws_bent x_code ((d0).2.2.2))).2)] ∧ OLv LT_34 w (w18.heap.size) w.heap.size a1 (((F_impl_Answer ((y55).1) ((d0).2.1) ((d0).2.2.1) (F_laws_bent x_code ((d0).2.2.2))).1).Cands).length c1 (((F_impl_Answer ((y55).1) ((d0).2.1) ((d0).2.2.1) (F_laws_bent x_code ((d0).2.2.2))).1).Cands) ∧ (((F_impl_Answer ((y55).1) ((d0).2.1) ((d0).2.2.1) (F_laws_bent x_code ((d0).2.2.2))).1).Cands).length ≤ 1073741824 ∧ Aps [(a1, c1)] ∧ Ap (sp (e 90)) (a1, c1))), (84, [91], [0, 1, 2, 3, 4, 5, 6], (fun e v _ => v = (.tuple #[(.agg #[(vi ((((F_impl_Answer ((y55).1) ((d0).2.1) ((d0).2.2.1) (F_laws_bent x_code ((d0).2.2.2))).1).At).Host)), (vi ((((F_impl_Answer ((y55).1) ((d0).2.1) ((d0).2.2.1) (F_laws_bent x_code ((d0).2.2.2))).1).At).Port)), (cellAt (tupAt (e 91) 0) 2)]), (vb ((F_impl_Answer ((y55).1) ((d0).2.1) ((d0).2.2.1) (F_laws_bent x_code ((d0).2.2.2))).2))]))), (92, [91], [0, 1, 2, 3, 4, 5, 6, 7], (fun e v _ => v = (.agg #[(vi ((((F_impl_Answer ((y55).1) ((d0).2.1) ((d0).2.2.1) (F_laws_bent x_code ((d0).2.2.2))).1).At).Host)), (vi ((((F_impl_Answer ((y55).1) ((d0).2.1) ((d0).2.2.1) (F_laws_bent x_code ((d0).2.2.2))).1).At).Port)), (cellAt (tupAt (e 91) 0) 2)]))), (93, [], [0, 1, 2, 3, 4, 5, 6, 7], (fun _ v _ => v = (vb ((F_impl_Answer ((y55).1) ((d0).2.1) ((d0).2.2.1) (F_laws_bent x_code ((d0).2.2.2))).2)))), (14, [], [], (fun _ v w => ∃ (g : Nat) (x0 x1 x2 : Value), v = vp g 0 ∧ w18.heap.size ≤ g ∧ Blk w g 28 [x0, x1, x2])), (191, [14, 91], [0, 1, 2, 3, 4, 5, 6, 7, 8, 10], (fun e _ w => ∃ g : Nat, e 14 = vp g 0 ∧ w18.heap.size ≤ g ∧ Blk w g 28 [(vi ((((F_impl_Answer ((y55).1) ((d0).2.1) ((d0).2.2.1) (F_laws_bent x_code ((d0).2.2.2))).1).At).Host)), (vi ((((F_impl_Answer ((y55).1) ((d0).2.1) ((d0).2.2.1) (F_laws_bent x_code ((d0).2.2.2))).1).At).Port)), (cellAt (tupAt (e 91) 0) 2)]))] : GV) (fun _ w' => Keep w18 w') [(11, fun w w' => ∃ g : Nat, w18.heap.size ≤ g ∧ (∃ x0 x1 x2 : Value, Blk w g 28 [x0, x1, x2]) ∧ Ch (fun k => k = g) w w' ∧ ∃ x0 x1 x2 : Value, Blk w' g 28 [x0, x1, x2])] mixed rfl (by kernel_rfl) (by kernel_rfl) ?_ (fun _ _ h => h) (fun _ _ _ _ h _ k => h.trans k) ⟨(fun _ _ w w' h _ _ t => by obtain ⟨g, hle, -, hc2, -⟩ := t; exact h.new hc2 (fun k hk => by have h3 : k = g := hk; omega)), trivial⟩ ?_ ?_ ?_
  ·exact ⟨hV, hE, ⟨hV, hE, ⟨hV, hE, ⟨hV, hE, ⟨hV, hE, ⟨(fun e v w w1 h hk => by obtain ⟨a0x, c0x, he, o0x, l0x, hap⟩ := h; exact ⟨a0x, c0x, he, own_kp o0x hk, l0x, hap⟩), hE, ⟨(fun e v w w1 h hk => by obtain ⟨a0x, c0x, he, o0x, l0x, hap, hx⟩ := h; exact ⟨a0x, c0x, he, OLv.now (OLv.kp o0x hk), l0x, hap, hx⟩), (fun e1 e2 v w hx h => by have h90x := hx 90 (by simp); simp only [h90x] at h; exact h), ⟨hV, (fun e1 e2 v w hx h => by have h91x := hx 91 (by simp); simp only [h91x] at h; exact h), ⟨hV, (fun e1 e2 v w hx h => by have h91x := hx 91 (by simp); simp only [h91x] at h; exact h), ⟨hV, hE, ⟨(fun e v w w1 h hk => by obtain ⟨g, x0, x1, x2, he, hle, hb⟩ := h; exact ⟨g, _, _, _, he, hle, hb.kp hk⟩), hE, ⟨(fun e v w w1 h hk => by obtain ⟨g, he, hle, hb⟩ := h; exact ⟨g, he, hle, hb.kp hk⟩), (fun e1 e2 v w hx h => by have h14x := hx 14 (by simp); have h91x := hx 91 (by simp); simp only [h14x, h91x] at h; exact h), trivial⟩⟩⟩⟩⟩⟩⟩⟩⟩⟩⟩⟩
  ·exact ⟨⟨.inr hV, ⟨.inr hV, ⟨.inr hV, ⟨.inr hV, ⟨.inr hV, ⟨.inr (fun e v wX wY h ht => by obtain ⟨a0x, c0x, he, o0x, l0x, hap⟩ := h; obtain ⟨gt, hlt, ⟨_, _, _, hbt⟩, hct, ⟨_, _, _, hbt2⟩⟩ := ht; exact ⟨a0x, c0x, he, own_blk o0x hbt (by decide) hct, l0x, hap⟩), ⟨.inr (fun e v wX wY h ht => by obtain ⟨a0x, c0x, he, o0x, l0x, hap, hx⟩ := h; obtain ⟨gt, hlt, ⟨_, _, _, hbt⟩, hct, ⟨_, _, _, hbt2⟩⟩ := ht; exact ⟨a0x, c0x, he, OLv.now (olv_blk o0x hbt (by decide) (by decide) hct), l0x, hap, hx⟩), ⟨.inr hV, ⟨.inr hV, ⟨.inr hV, ⟨.inr (fun e v wX wY h ht => by obtain ⟨g, x0, x1, x2, he, hle, hb⟩ := h; obtain ⟨gt, hlt, ⟨_, _, _, hbt⟩, hct, ⟨_, _, _, hbt2⟩⟩ := ht; by_cases hg : g = gt; (· subst hg; exact ⟨g, _, _, _, he, hle, hbt2⟩); (· exact ⟨g, _, _, _, he, hle, hb.ch hct hg⟩)), ⟨.inl rfl, trivial⟩⟩⟩⟩⟩⟩⟩⟩⟩⟩⟩⟩, trivial⟩
  ·refine ⟨?_, ⟨?_, ⟨?_, ⟨?_, ⟨?_, ⟨?_, ⟨?_, ⟨?_, ⟨?_, ⟨?_, ⟨?_, ⟨?_, trivial⟩⟩⟩⟩⟩⟩⟩⟩⟩⟩⟩⟩
   ·intro _ w19 k226 _
    rintro _ _ _ _ _ _ _ _ _ _ _ _
    show WL _ _ _ _ _ _ _
    have b228 := ((((b150.kp k158).kp k171).ch k174 (Nat.ne_of_lt (Nat.lt_of_lt_of_le p69 (Nat.le_trans (z8 k73 k85 k98 k101 k136 k141 k147 k158) p169)))).kp k226)
    refine lN (L_28 ((y55).1) a58 c59) wN isAgg_28 sizeOf_28 b228 ?_
    exact f1
   ·intro _ w19 k229 _
    rintro _ _ _ _ _ _ _ _ _ _ _ _
    show WL _ _ _ _ _ _ _
    refine mw (vi ((d0).2.1)) ?_
    exact f1
   ·intro _ w19 k231 _
    rintro _ _ _ _ _ _ _ _ _ _ _ _
    show WL _ _ _ _ _ _ _
    have b233 := ((((b151.kp k158).kp k171).ch k174 (Nat.ne_of_lt (Nat.lt_of_lt_of_le p36 (Nat.le_trans (z12 k41 k46 k57 k70 k73 k85 k98 k101 k136 k141 k147 k158) p169)))).kp k231)
    refine lN (L_25 ((d0).2.2.1)) wN isAgg_25 sizeOf_25 b233 ?_
    exact f1
   ·intro _ w19 k234 _
    rintro _ _ _ _ _ _ _ _ _ _ _ _
    show WL _ _ _ _ _ _ _
    refine mw (vs a1 x_code.length c2) ?_
    exact f1
   ·intro _ w19 k236 _
    rintro _ _ _ _ _ _ _ _ _ _ _ _
    show WL _ _ _ _ _ _ _
    refine mw (vs a19 ((d0).2.2.2).length c20) ?_
    exact f1
   ·intro _ w19 k238 _
    have m239 := m177.extk k238
    rintro _ _ _ _ rfl _ rfl _ _ _ _ _ _ _
    show WL _ _ _ _ _ _ _
    have t240 := fun (E sz n : Nat) (v : Value) (xs : List Value) (o : World.ownsRow w15 w1.heap.size E sz v n xs) (o0 : World.ownsRow w2 w1.heap.size E sz v n xs) => (own_kp (own_ch (own_kp (own_kp o k158) k171) k174 (ne2 o0 (Nat.le_trans (t3 (z12 k31 k37 k41 k46 k57 k70 k73 k85 k98 k101 k136 k141) k147.size k158.size) p169))) k238)
    have o241 := (t240 _ _ _ _ _ o154 o21)
    refine cl wN (C_laws_bent w19 _ x_code (mR_22 (r3.from0 m239) (by omega)) _ ((d0).2.2.2) (mR_22 (Rd.of_own o241) s22)) ?_
    rintro _ w20 ⟨k242, ⟨a243, c244, rfl, o245, s246, ap248⟩⟩
    exact wl_finT k242 ⟨_, _, rfl, (own_lo o245 k238.size), s246, ap248⟩
   ·intro _ w19 k250 _
    rintro _ rfl _ rfl _ rfl _ rfl _ rfl _ ⟨a254, c255, rfl, o256, s257, ap259⟩ _ _ _ _ _ _
    show WL _ _ _ _ _ _ _
    have o260 := (OLv.kp (OLv.ch (OLv.kp (OLv.kp o152 k158) k171) k174 (fun g h1 h2 hk => by have h3 := Nat.le_trans (z9 k70 k73 k85 k98 k101 k136 k141 k147 k158) p169; omega)) k250)
    refine cl wN (C_impl_Answer w19 _ ((y55).1) (mR_28 (OLv.rl o260) s61) ((d0).2.1) _ ((d0).2.2.1) (mR_25) _ (F_laws_bent x_code ((d0).2.2.2)) (mR_22 (Rd.of_own o256) s257)) ?_
    rintro _ w20 ⟨k261, ⟨a262, c263, rfl, o264, s265, ap267⟩⟩
    obtain ⟨y269, o270⟩ := OLv.ow o264
    exact wl_finT k261 ⟨_, _, rfl, (OLv.now (OLv.low o264 k250.size)), s265, ap267, (Ap.lt o256 o270 (Nat.le_refl _))⟩
   ·intro _ w19 k271 _
    rintro _ rfl _ rfl _ rfl _ rfl _ rfl _ ⟨a275, c276, rfl, o277, s278, ap280⟩ _ ⟨a281, c282, rfl, o283, s284, ap286, hx287⟩
    obtain ⟨y288, o289⟩ := OLv.ow o283
    rintro _ _ _ _ _
    show WL _ _ _ _ _ _ _
    refine mw (.tuple #[(va (L_28 ((F_impl_Answer ((y55).1) ((d0).2.1) ((d0).2.2.1) (F_laws_bent x_code ((d0).2.2.2))).1) a281 c282)), (vb ((F_impl_Answer ((y55).1) ((d0).2.1) ((d0).2.2.1) (F_laws_bent x_code ((d0).2.2.2))).2))]) ?_
    exact f1
   ·intro _ w19 k290 _
    rintro _ rfl _ rfl _ rfl _ rfl _ rfl _ ⟨a294, c295, rfl, o296, s297, ap299⟩ _ ⟨a300, c301, rfl, o302, s303, ap305, hx306⟩
    obtain ⟨y307, o308⟩ := OLv.ow o302
    rintro _ rfl _ _ _ _
    show WL _ _ _ _ _ _ _
    refine pu (va (L_28 ((F_impl_Answer ((y55).1) ((d0).2.1) ((d0).2.2.1) (F_laws_bent x_code ((d0).2.2.2))).1) a300 c301)) wN ?_
    exact f1
   ·intro _ w19 k309 _
    rintro _ rfl _ rfl _ rfl _ rfl _ rfl _ ⟨a313, c314, rfl, o315, s316, ap318⟩ _ ⟨a319, c320, rfl, o321, s322, ap324, hx325⟩
    obtain ⟨y326, o327⟩ := OLv.ow o321
    rintro _ rfl _ _ _ _
    show WL _ _ _ _ _ _ _
    refine pu (vb ((F_impl_Answer ((y55).1) ((d0).2.1) ((d0).2.2.1) (F_laws_bent x_code ((d0).2.2.2))).2)) wN ?_
    exact f1
   ·intro _ w19 k328 _
    rintro _ _ _ _ _ _ _ _ _ _ _ _
    show WL _ _ _ _ _ _ _
    refine al [(vi 0), (vi 0), (vs none 0 0)] wN zero_28 ?_
    intro g330 w20 p331 p332 k333 b334
    exact wl_finT k333 ⟨_, _, _, _, rfl, (Nat.le_trans k328.size p331), b334⟩
   ·intro _ w19 k336 _
    rintro _ rfl _ rfl _ rfl _ rfl _ rfl _ ⟨a340, c341, rfl, o342, s343, ap345⟩ _ ⟨a346, c347, rfl, o348, s349, ap351, hx352⟩
    obtain ⟨y353, o354⟩ := OLv.ow o348
    rintro _ rfl _ rfl _ _ ⟨g355, x358, x359, x360, rfl, p356, b357⟩ _
    show WL _ _ _ _ _ _ _
    refine sv (L_28 ((F_impl_Answer ((y55).1) ((d0).2.1) ((d0).2.2.1) (F_laws_bent x_code ((d0).2.2.2))).1) a346 c347) wN sizeOf_28 b357 ?_
    intro w20 k361 b362 z363
    exact wl_finS (by decide) ⟨_, p356, ⟨_, _, _, b357⟩, k361, ⟨_, _, _, b362⟩⟩ ⟨_, rfl, p356, b362⟩
  ·intro _ w19 k365
   rintro _ rfl _ rfl _ rfl _ rfl _ rfl _ ⟨a369, c370, rfl, o371, s372, ap374⟩ _ ⟨a375, c376, rfl, o377, s378, ap380, hx381⟩
   obtain ⟨y382, o383⟩ := OLv.ow o377
   rintro _ rfl _ rfl _ rfl _ ⟨g384, x387, x388, x389, rfl, p385, b386⟩ _ ⟨g390, e391, -, b392⟩
   have hz := vp_inj e391
   subst g390
   show WL _ _ _ _ _ _ _
   refine aw (vb ((F_impl_Answer ((y55).1) ((d0).2.1) ((d0).2.2.1) (F_laws_bent x_code ((d0).2.2.2))).2)) ?_
   refine nx ?_
   have b393 := ((((b150.kp k158).kp k171).ch k174 (Nat.ne_of_lt (Nat.lt_of_lt_of_le p69 (Nat.le_trans (z8 k73 k85 k98 k101 k136 k141 k147 k158) p169)))).kp k365)
   refine lN (L_28 ((y55).1) a58 c59) wN isAgg_28 sizeOf_28 b393 ?_
   have b394 := ((((b151.kp k158).kp k171).ch k174 (Nat.ne_of_lt (Nat.lt_of_lt_of_le p36 (Nat.le_trans (z12 k41 k46 k57 k70 k73 k85 k98 k101 k136 k141 k147 k158) p169)))).kp k365)
   refine lN (L_25 ((d0).2.2.1)) wN isAgg_25 sizeOf_25 b394 ?_
   have o395 := (OLv.kp (OLv.ch (OLv.kp (OLv.kp o152 k158) k171) k174 (fun g h1 h2 hk => by have h3 := Nat.le_trans (z9 k70 k73 k85 k98 k101 k136 k141 k147 k158) p169; omega)) k365)
   refine cl wN (C_impl_CandOf w19 _ ((y55).1) (mR_28 (OLv.rl o395) s61) _ ((d0).2.2.1) (mR_25)) ?_
   rintro _ w20 ⟨k396, ⟨a397, c398, rfl, o399, s400, ap402⟩⟩
   have m403 := (m177.extk k365).extk k396
   refine mw (.tuple #[(va (L_34 ((F_impl_CandOf ((y55).1) ((d0).2.2.1)).1) a397 c398)), (vb ((F_impl_CandOf ((y55).1) ((d0).2.2.1)).2))]) ?_
   refine pu (va (L_34 ((F_impl_CandOf ((y55).1) ((d0).2.2.1)).1) a397 c398)) wN ?_
   refine pu (vb ((F_impl_CandOf ((y55).1) ((d0).2.2.1)).2)) wN ?_
   refine al Z_34 wN zero_34 ?_
   intro g404 w21 p405 p406 k407 b408
   refine sv (L_34 ((F_impl_CandOf ((y55).1) ((d0).2.2.1)).1) a397 c398) wN sizeOf_34 b408 ?_
   intro w22 k410 b411 z412
   have m413 := (m403.extk k407).ext k410 (fun k hk => by subst hk; exact Nat.le_trans (t9 (z12 k6 k12 k31 k37 k41 k46 k57 k70 k73 k85 k98 k101) k136.size k141.size k147.size k158.size k171.size k174.size k365.size k396.size) p405)
   refine aw (vb ((F_impl_CandOf ((y55).1) ((d0).2.2.1)).2)) ?_
   refine n4 ?_
   have b414 := (((b393.kp k396).kp k407).ch k410 (Nat.ne_of_lt (Nat.lt_of_lt_of_le p69 (Nat.le_trans (z12 k73 k85 k98 k101 k136 k141 k147 k158 k171 k174 k365 k396) p405))))
   refine lN (L_28 ((y55).1) a58 c59) wN isAgg_28 sizeOf_28 b414 ?_
   have o415 := (OLv.ch (OLv.kp (OLv.kp o395 k396) k407) k410 (fun g h1 h2 hk => by have h3 := Nat.le_trans (Nat.le_trans (z12 k70 k73 k85 k98 k101 k136 k141 k147 k158 k171 k174 k365) k396.size) p405; omega))
   refine cl wN (C_impl_PathsOk w22 _ ((y55).1) (mR_28 (OLv.rl o415) s61)) ?_
   rintro _ w23 ⟨k416, rfl⟩
   have m417 := m413.extk k416
   refine pu (vb (!(iPa ((y55).1)))) wN ?_
   refine mw (vb (!(iPa ((y55).1)))) ?_
   rcases bf (iPa ((y55).1)) with h418 | h418
   ·iterate 2 refine sk (congrArg not h418) ?_
    refine pk (vb true) wN (congrArg not h418) ?_
    refine mw (vb true) ?_
    iterate 5 refine sk (Eq.refl true) ?_
    refine pk (vb true) wN (Eq.refl true) ?_
    refine mw (vb true) ?_
    refine sk T1 ?_
    refine pk (vb true) wN (Eq.refl true) ?_
    refine mw (vb true) ?_
    iterate 5 refine sk (Eq.refl true) ?_
    refine pk (vb true) wN (Eq.refl true) ?_
    refine n2 ?_
    refine ct (Eq.refl true) ?_
    refine sr ?_
    refine aw (vb false) ?_
    refine n1 ?_
    refine rt (vb false) ?_
    have hF522 : F_laws_FnPaths x_code d0 = false := by first | (simp only [F_laws_FnPaths, h8, e56, e84, h105, h143, h145, e157, h418, cond_true, cond_false, decide_true]; done) | (exfalso; first | (simp at h418; done) | (simp at e157; done) | (simp at h145; done) | (simp at h143; done) | (simp at h105; done)) | (unfold F_laws_FnPaths; try simp only [h8, cond_true, cond_false]; try simp only [e56, cond_true, cond_false]; try simp only [e84, cond_true, cond_false]; try simp only [h105, cond_true, cond_false]; try simp only [h143, cond_true, cond_false]; try simp only [h145, cond_true, cond_false]; try simp only [e157, cond_true, cond_false]; try simp only [h418, cond_true, cond_false]; done) | (unfold F_laws_FnPaths; try rw [h8]; try rw [e56]; try rw [e84]; try rw [h105]; try rw [h143]; try rw [h145]; try rw [e157]; try rw [h418]; first | done | rfl)
    exact ⟨d0, m417.keep0, q13, by rw [hF522]⟩
   have q419 := iPa_t h418
   refine mv (vb ((F_impl_CandOf ((y55).1) ((d0).2.2.1)).2)) (wS (congrArg not h418)) ?_
   refine pu (vb (!((F_impl_CandOf ((y55).1) ((d0).2.2.1)).2))) (wS (congrArg not h418)) ?_
   refine pf (vb (!((F_impl_CandOf ((y55).1) ((d0).2.2.1)).2))) wN (congrArg not h418) ?_
   refine mw (vb (!((F_impl_CandOf ((y55).1) ((d0).2.2.1)).2))) ?_
   rcases bf ((F_impl_CandOf ((y55).1) ((d0).2.2.1)).2) with h420 | h420
   ·iterate 5 refine sk (congrArg not h420) ?_
    refine pk (vb true) wN (congrArg not h420) ?_
    refine mw (vb true) ?_
    refine sk T1 ?_
    refine pk (vb true) wN (Eq.refl true) ?_
    refine mw (vb true) ?_
    iterate 5 refine sk (Eq.refl true) ?_
    refine pk (vb true) wN (Eq.refl true) ?_
    refine n2 ?_
    refine ct (Eq.refl true) ?_
    refine sr ?_
    refine aw (vb false) ?_
    refine n1 ?_
    refine rt (vb false) ?_
    have hF520 : F_laws_FnPaths x_code d0 = false := by first | (simp only [F_laws_FnPaths, h8, e56, e84, h105, h143, h145, e157, h418, h420, cond_true, cond_false, decide_true]; done) | (exfalso; first | (simp at h420; done) | (simp at h418; done) | (simp at e157; done) | (simp at h145; done) | (simp at h143; done)) | (unfold F_laws_FnPaths; try simp only [h8, cond_true, cond_false]; try simp only [e56, cond_true, cond_false]; try simp only [e84, cond_true, cond_false]; try simp only [h105, cond_true, cond_false]; try simp only [h143, cond_true, cond_false]; try simp only [h145, cond_true, cond_false]; try simp only [e157, cond_true, cond_false]; try simp only [h418, cond_true, cond_false]; try simp only [h420, cond_true, cond_false]; done) | (unfold F_laws_FnPaths; try rw [h8]; try rw [e56]; try rw [e84]; try rw [h105]; try rw [h143]; try rw [h145]; try rw [e157]; try rw [h418]; try rw [h420]; first | done | rfl)
    exact ⟨d0, m417.keep0, q13, by rw [hF520]⟩
   refine pu (vp g404 3) (wS (congrArg not h420)) ?_
   have b422 := (b411.kp k416)
   refine ld (vi (((F_impl_CandOf ((y55).1) ((d0).2.2.1)).1).Until)) (wS (congrArg not h420)) isAgg_3 b422 ?_
   refine mv (vi ((d0).2.1)) (wS (congrArg not h420)) ?_
   refine ar (((d0).2.1) + 6) (wS (congrArg not h420)) ?_
   refine pu (vb (!(decide (((F_impl_CandOf ((y55).1) ((d0).2.2.1)).1).Until = (((d0).2.1) + 6))))) (wS (congrArg not h420)) ?_
   refine pf (vb (!(decide (((F_impl_CandOf ((y55).1) ((d0).2.2.1)).1).Until = (((d0).2.1) + 6))))) wN (congrArg not h420) ?_
   refine mw (vb (!(decide (((F_impl_CandOf ((y55).1) ((d0).2.2.1)).1).Until = (((d0).2.1) + 6))))) ?_
   rcases bf (decide (((F_impl_CandOf ((y55).1) ((d0).2.2.1)).1).Until = (((d0).2.1) + 6))) with h423 | h423
   ·have q517 := of_decide_eq_false h423
    refine sk (congrArg not h423) ?_
    refine pk (vb true) wN (congrArg not h423) ?_
    refine mw (vb true) ?_
    iterate 5 refine sk (Eq.refl true) ?_
    refine pk (vb true) wN (Eq.refl true) ?_
    refine n2 ?_
    refine ct (Eq.refl true) ?_
    refine sr ?_
    refine aw (vb false) ?_
    refine n1 ?_
    refine rt (vb false) ?_
    have hF518 : F_laws_FnPaths x_code d0 = false := by first | (simp only [F_laws_FnPaths, h8, e56, e84, h105, h143, h145, e157, h418, h420, h423, cond_true, cond_false, decide_true]; done) | (exfalso; first | (simp at h423; done) | (simp at h420; done) | (simp at h418; done) | (simp at e157; done) | (simp at h145; done)) | (unfold F_laws_FnPaths; try simp only [h8, cond_true, cond_false]; try simp only [e56, cond_true, cond_false]; try simp only [e84, cond_true, cond_false]; try simp only [h105, cond_true, cond_false]; try simp only [h143, cond_true, cond_false]; try simp only [h145, cond_true, cond_false]; try simp only [e157, cond_true, cond_false]; try simp only [h418, cond_true, cond_false]; try simp only [h420, cond_true, cond_false]; try simp only [h423, cond_true, cond_false]; done) | (unfold F_laws_FnPaths; try rw [h8]; try rw [e56]; try rw [e84]; try rw [h105]; try rw [h143]; try rw [h145]; try rw [e157]; try rw [h418]; try rw [h420]; try rw [h423]; first | done | rfl)
    exact ⟨d0, m417.keep0, q13, by rw [hF518]⟩
   have q424 := of_decide_eq_true h423
   refine mv (vb ((F_impl_Answer ((y55).1) ((d0).2.1) ((d0).2.2.1) (F_laws_bent x_code ((d0).2.2.2))).2)) (wS (congrArg not h423)) ?_
   refine pf (vb ((F_impl_Answer ((y55).1) ((d0).2.1) ((d0).2.2.1) (F_laws_bent x_code ((d0).2.2.2))).2)) wN (congrArg not h423) ?_
   refine mw (vb ((F_impl_Answer ((y55).1) ((d0).2.1) ((d0).2.2.1) (F_laws_bent x_code ((d0).2.2.2))).2)) ?_
   rcases bt ((F_impl_Answer ((y55).1) ((d0).2.1) ((d0).2.2.1) (F_laws_bent x_code ((d0).2.2.2))).2) with h425 | h425
   ·iterate 5 refine sk h425 ?_
    refine pk (vb true) wN h425 ?_
    refine n2 ?_
    refine ct (Eq.refl true) ?_
    refine sr ?_
    refine aw (vb false) ?_
    refine n1 ?_
    refine rt (vb false) ?_
    have hF427 : F_laws_FnPaths x_code d0 = false := by first | (simp only [F_laws_FnPaths, h8, e56, e84, h105, h143, h145, e157, h418, h420, h423, h425, cond_true, cond_false, decide_true]; done) | (exfalso; first | (simp at h425; done) | (simp at h423; done) | (simp at h420; done) | (simp at h418; done) | (simp at e157; done)) | (unfold F_laws_FnPaths; try simp only [h8, cond_true, cond_false]; try simp only [e56, cond_true, cond_false]; try simp only [e84, cond_true, cond_false]; try simp only [h105, cond_true, cond_false]; try simp only [h143, cond_true, cond_false]; try simp only [h145, cond_true, cond_false]; try simp only [e157, cond_true, cond_false]; try simp only [h418, cond_true, cond_false]; try simp only [h420, cond_true, cond_false]; try simp only [h423, cond_true, cond_false]; try simp only [h425, cond_true, cond_false]; done) | (unfold F_laws_FnPaths; try rw [h8]; try rw [e56]; try rw [e84]; try rw [h105]; try rw [h143]; try rw [h145]; try rw [e157]; try rw [h418]; try rw [h420]; try rw [h423]; try rw [h425]; first | done | rfl)
    exact ⟨d0, m417.keep0, q13, by rw [hF427]⟩
   refine pu (vp g67 0) (wS h425) ?_
   have b429 := (b414.kp k416)
   refine lN (L_25 (((y55).1).At)) (wS h425) isAgg_25 sizeOf_25 b429 ?_
   refine pu (vp g28 0) (wS h425) ?_
   have b430 := ((((((((((((((b77.kp k85).kp k98).ch k101 (Nat.ne_of_lt (Nat.lt_of_lt_of_le p30 (Nat.le_trans (z7 k37 k41 k46 k57 k70 k73 k85) p96)))).kp k136).kp k141).kp k147).kp k158).kp k171).ch k174 (Nat.ne_of_lt (Nat.lt_of_lt_of_le p30 (Nat.le_trans (Nat.le_trans (z12 k37 k41 k46 k57 k70 k73 k85 k98 k101 k136 k141 k147) k158.size) p169)))).kp k365).kp k396).kp k407).ch k410 (Nat.ne_of_lt (Nat.lt_of_lt_of_le p30 (Nat.le_trans (t6 (z12 k37 k41 k46 k57 k70 k73 k85 k98 k101 k136 k141 k147) k158.size k171.size k174.size k365.size k396.size) p405)))).kp k416)
   refine lN (L_25 (((d0).1).At)) (wS h425) isAgg_25 sizeOf_25 b430 ?_
   refine wl_aggne ((decide (((((y55).1).At).Host) = ((((d0).1).At).Host)) && decide (((((y55).1).At).Port) = ((((d0).1).At).Port)))) (wS h425) rfl rfl rfl rfl rfl guardt_25 (aggeq_25 ((((y55).1).At).Host) ((((d0).1).At).Host) ((((y55).1).At).Port) ((((d0).1).At).Port) w23) ?_
   refine pf (vb (!((decide (((((y55).1).At).Host) = ((((d0).1).At).Host)) && decide (((((y55).1).At).Port) = ((((d0).1).At).Port)))))) wN h425 ?_
   refine n2 ?_
   rcases bf (decide (((((y55).1).At).Host) = ((((d0).1).At).Host)) && decide (((((y55).1).At).Port) = ((((d0).1).At).Port))) with h431 | h431
   ·refine ct (congrArg not h431) ?_
    refine sr ?_
    refine aw (vb false) ?_
    refine n1 ?_
    refine rt (vb false) ?_
    have hF516 : F_laws_FnPaths x_code d0 = false := by first | (simp only [F_laws_FnPaths, h8, e56, e84, h105, h143, h145, e157, h418, h420, h423, h425, h431, cond_true, cond_false, decide_true]; done) | (exfalso; first | (simp at h431; done) | (simp at h425; done) | (simp at h423; done) | (simp at h420; done) | (simp at h418; done)) | (unfold F_laws_FnPaths; try simp only [h8, cond_true, cond_false]; try simp only [e56, cond_true, cond_false]; try simp only [e84, cond_true, cond_false]; try simp only [h105, cond_true, cond_false]; try simp only [h143, cond_true, cond_false]; try simp only [h145, cond_true, cond_false]; try simp only [e157, cond_true, cond_false]; try simp only [h418, cond_true, cond_false]; try simp only [h420, cond_true, cond_false]; try simp only [h423, cond_true, cond_false]; try simp only [h425, cond_true, cond_false]; try simp only [h431, cond_true, cond_false]; done) | (unfold F_laws_FnPaths; try rw [h8]; try rw [e56]; try rw [e84]; try rw [h105]; try rw [h143]; try rw [h145]; try rw [e157]; try rw [h418]; try rw [h420]; try rw [h423]; try rw [h425]; try rw [h431]; first | done | rfl)
    exact ⟨d0, m417.keep0, q13, by rw [hF516]⟩
   refine cf (congrArg not h431) ?_
   refine y2 ?_
   refine mw (vi (((d0).2.1) + ((F_laws_at x_code 2) % 9))) ?_
   refine mw (vi ((d0).2.1)) ?_
   refine ar (((d0).2.1) + 6) wN ?_
   refine pu (vb (decide ((((d0).2.1) + 6) < (((d0).2.1) + ((F_laws_at x_code 2) % 9))))) wN ?_
   refine mw (vb (decide ((((d0).2.1) + 6) < (((d0).2.1) + ((F_laws_at x_code 2) % 9))))) ?_
   rcases bt (decide ((((d0).2.1) + 6) < (((d0).2.1) + ((F_laws_at x_code 2) % 9)))) with h433 | h433
   ·have q434 := of_decide_eq_true h433
    iterate 2 refine sk h433 ?_
    refine pk (vb true) wN h433 ?_
    refine n2 ?_
    refine ct (Eq.refl true) ?_
    refine sr ?_
    refine mw (vb ((y156).2)) ?_
    refine pu (vb (!((y156).2))) wN ?_
    refine mw (vb (!((y156).2))) ?_
    rcases bt ((y156).2) with h435 | h435
    ·iterate 5 refine sk (congrArg not h435) ?_
     refine pf (vb false) wN (congrArg not h435) ?_
     refine aw (vb false) ?_
     refine n1 ?_
     refine rt (vb false) ?_
     have hF437 : F_laws_FnPaths x_code d0 = false := by first | (simp only [F_laws_FnPaths, h8, e56, e84, h105, h143, h145, e157, h418, h420, h423, h425, h431, h433, h435, cond_true, cond_false, decide_true]; done) | (exfalso; first | (simp at h435; done) | (simp at h433; done) | (simp at h431; done) | (simp at h425; done) | (simp at h423; done)) | (unfold F_laws_FnPaths; try simp only [h8, cond_true, cond_false]; try simp only [e56, cond_true, cond_false]; try simp only [e84, cond_true, cond_false]; try simp only [h105, cond_true, cond_false]; try simp only [h143, cond_true, cond_false]; try simp only [h145, cond_true, cond_false]; try simp only [e157, cond_true, cond_false]; try simp only [h418, cond_true, cond_false]; try simp only [h420, cond_true, cond_false]; try simp only [h423, cond_true, cond_false]; try simp only [h425, cond_true, cond_false]; try simp only [h431, cond_true, cond_false]; try simp only [h433, cond_true, cond_false]; try simp only [h435, cond_true, cond_false]; done)
     exact ⟨d0, m417.keep0, q13, by rw [hF437]⟩
    refine pu (vp g168 0) (wS (congrArg not h435)) ?_
    have b439 := (((((b175.kp k365).kp k396).kp k407).ch k410 (Nat.ne_of_lt (Nat.lt_of_lt_of_le p170 (Nat.le_trans (z3 k174 k365 k396) p405)))).kp k416)
    refine lN (L_25 (((y156).1).At)) (wS (congrArg not h435)) isAgg_25 sizeOf_25 b439 ?_
    refine pu (vp g28 0) (wS (congrArg not h435)) ?_
    refine lN (L_25 (((d0).1).At)) (wS (congrArg not h435)) isAgg_25 sizeOf_25 b430 ?_
    refine wl_aggeq ((decide (((((y156).1).At).Host) = ((((d0).1).At).Host)) && decide (((((y156).1).At).Port) = ((((d0).1).At).Port)))) (wS (congrArg not h435)) rfl rfl rfl rfl rfl guardt_25 (aggeq_25 ((((y156).1).At).Host) ((((d0).1).At).Host) ((((y156).1).At).Port) ((((d0).1).At).Port) w23) ?_
    refine pk (vb (decide (((((y156).1).At).Host) = ((((d0).1).At).Host)) && decide (((((y156).1).At).Port) = ((((d0).1).At).Port)))) wN (congrArg not h435) ?_
    refine aw (vb (decide (((((y156).1).At).Host) = ((((d0).1).At).Host)) && decide (((((y156).1).At).Port) = ((((d0).1).At).Port)))) ?_
    refine n1 ?_
    refine rt (vb (decide (((((y156).1).At).Host) = ((((d0).1).At).Host)) && decide (((((y156).1).At).Port) = ((((d0).1).At).Port)))) ?_
    have hF440 : F_laws_FnPaths x_code d0 = (decide (((((y156).1).At).Host) = ((((d0).1).At).Host)) && decide (((((y156).1).At).Port) = ((((d0).1).At).Port))) := by first | (simp only [F_laws_FnPaths, h8, e56, e84, h105, h143, h145, e157, h418, h420, h423, h425, h431, h433, h435, cond_true, cond_false, decide_true]; done) | (exfalso; first | (simp at h435; done) | (simp at h433; done) | (simp at h431; done) | (simp at h425; done) | (simp at h423; done)) | (unfold F_laws_FnPaths; try simp only [h8, cond_true, cond_false]; try simp only [e56, cond_true, cond_false]; try simp only [e84, cond_true, cond_false]; try simp only [h105, cond_true, cond_false]; try simp only [h143, cond_true, cond_false]; try simp only [h145, cond_true, cond_false]; try simp only [e157, cond_true, cond_false]; try simp only [h418, cond_true, cond_false]; try simp only [h420, cond_true, cond_false]; try simp only [h423, cond_true, cond_false]; try simp only [h425, cond_true, cond_false]; try simp only [h431, cond_true, cond_false]; try simp only [h433, cond_true, cond_false]; try simp only [h435, cond_true, cond_false]; done)
    exact ⟨d0, m417.keep0, q13, by rw [hF440]⟩
   have q441 := of_decide_eq_false h433
   refine mv (vi (((d0).2.1) + ((F_laws_at x_code 2) % 9))) (wS h433) ?_
   refine pu (vb (decide (1000000 < (((d0).2.1) + ((F_laws_at x_code 2) % 9))))) (wS h433) ?_
   refine pf (vb (decide (1000000 < (((d0).2.1) + ((F_laws_at x_code 2) % 9))))) wN h433 ?_
   refine n2 ?_
   rcases bt (decide (1000000 < (((d0).2.1) + ((F_laws_at x_code 2) % 9)))) with h442 | h442
   ·have q443 := of_decide_eq_true h442
    refine ct h442 ?_
    refine sr ?_
    refine mw (vb ((y156).2)) ?_
    refine pu (vb (!((y156).2))) wN ?_
    refine mw (vb (!((y156).2))) ?_
    rcases bt ((y156).2) with h444 | h444
    ·iterate 5 refine sk (congrArg not h444) ?_
     refine pf (vb false) wN (congrArg not h444) ?_
     refine aw (vb false) ?_
     refine n1 ?_
     refine rt (vb false) ?_
     have hF446 : F_laws_FnPaths x_code d0 = false := by first | (simp only [F_laws_FnPaths, h8, e56, e84, h105, h143, h145, e157, h418, h420, h423, h425, h431, h433, h442, h444, cond_true, cond_false, decide_true]; done) | (exfalso; first | (simp at h444; done) | (simp at h442; done) | (simp at h433; done) | (simp at h431; done) | (simp at h425; done)) | (unfold F_laws_FnPaths; try simp only [h8, cond_true, cond_false]; try simp only [e56, cond_true, cond_false]; try simp only [e84, cond_true, cond_false]; try simp only [h105, cond_true, cond_false]; try simp only [h143, cond_true, cond_false]; try simp only [h145, cond_true, cond_false]; try simp only [e157, cond_true, cond_false]; try simp only [h418, cond_true, cond_false]; try simp only [h420, cond_true, cond_false]; try simp only [h423, cond_true, cond_false]; try simp only [h425, cond_true, cond_false]; try simp only [h431, cond_true, cond_false]; try simp only [h433, cond_true, cond_false]; try simp only [h442, cond_true, cond_false]; try simp only [h444, cond_true, cond_false]; done)
     exact ⟨d0, m417.keep0, q13, by rw [hF446]⟩
    refine pu (vp g168 0) (wS (congrArg not h444)) ?_
    have b448 := (((((b175.kp k365).kp k396).kp k407).ch k410 (Nat.ne_of_lt (Nat.lt_of_lt_of_le p170 (Nat.le_trans (z3 k174 k365 k396) p405)))).kp k416)
    refine lN (L_25 (((y156).1).At)) (wS (congrArg not h444)) isAgg_25 sizeOf_25 b448 ?_
    refine pu (vp g28 0) (wS (congrArg not h444)) ?_
    refine lN (L_25 (((d0).1).At)) (wS (congrArg not h444)) isAgg_25 sizeOf_25 b430 ?_
    refine wl_aggeq ((decide (((((y156).1).At).Host) = ((((d0).1).At).Host)) && decide (((((y156).1).At).Port) = ((((d0).1).At).Port)))) (wS (congrArg not h444)) rfl rfl rfl rfl rfl guardt_25 (aggeq_25 ((((y156).1).At).Host) ((((d0).1).At).Host) ((((y156).1).At).Port) ((((d0).1).At).Port) w23) ?_
    refine pk (vb (decide (((((y156).1).At).Host) = ((((d0).1).At).Host)) && decide (((((y156).1).At).Port) = ((((d0).1).At).Port)))) wN (congrArg not h444) ?_
    refine aw (vb (decide (((((y156).1).At).Host) = ((((d0).1).At).Host)) && decide (((((y156).1).At).Port) = ((((d0).1).At).Port)))) ?_
    refine n1 ?_
    refine rt (vb (decide (((((y156).1).At).Host) = ((((d0).1).At).Host)) && decide (((((y156).1).At).Port) = ((((d0).1).At).Port)))) ?_
    have hF449 : F_laws_FnPaths x_code d0 = (decide (((((y156).1).At).Host) = ((((d0).1).At).Host)) && decide (((((y156).1).At).Port) = ((((d0).1).At).Port))) := by first | (simp only [F_laws_FnPaths, h8, e56, e84, h105, h143, h145, e157, h418, h420, h423, h425, h431, h433, h442, h444, cond_true, cond_false, decide_true]; done) | (exfalso; first | (simp at h444; done) | (simp at h442; done) | (simp at h433; done) | (simp at h431; done) | (simp at h425; done)) | (unfold F_laws_FnPaths; try simp only [h8, cond_true, cond_false]; try simp only [e56, cond_true, cond_false]; try simp only [e84, cond_true, cond_false]; try simp only [h105, cond_true, cond_false]; try simp only [h143, cond_true, cond_false]; try simp only [h145, cond_true, cond_false]; try simp only [e157, cond_true, cond_false]; try simp only [h418, cond_true, cond_false]; try simp only [h420, cond_true, cond_false]; try simp only [h423, cond_true, cond_false]; try simp only [h425, cond_true, cond_false]; try simp only [h431, cond_true, cond_false]; try simp only [h433, cond_true, cond_false]; try simp only [h442, cond_true, cond_false]; try simp only [h444, cond_true, cond_false]; done)
    exact ⟨d0, m417.keep0, q13, by rw [hF449]⟩
   have q450 := of_decide_eq_false h442
   refine cf h442 ?_
   refine y1 ?_
   have b451 := (((((b175.kp k365).kp k396).kp k407).ch k410 (Nat.ne_of_lt (Nat.lt_of_lt_of_le p170 (Nat.le_trans (z3 k174 k365 k396) p405)))).kp k416)
   refine lN (L_28 ((y156).1) a159 c160) wN isAgg_28 sizeOf_28 b451 ?_
   refine mw (vi (((d0).2.1) + ((F_laws_at x_code 2) % 9))) ?_
   have b452 := ((((b394.kp k396).kp k407).ch k410 (Nat.ne_of_lt (Nat.lt_of_lt_of_le p36 (Nat.le_trans (t5 (z12 k41 k46 k57 k70 k73 k85 k98 k101 k136 k141 k147 k158) k171.size k174.size k365.size k396.size) p405)))).kp k416)
   refine lN (L_25 ((d0).2.2.1)) wN isAgg_25 sizeOf_25 b452 ?_
   refine mw (vs a19 ((d0).2.2.2).length c20) ?_
   have o453 := (OLv.kp (OLv.ch (OLv.kp (OLv.kp (OLv.kp (OLv.ch (OLv.kp o161 k171) k174 (fun g h1 h2 hk => by have h3 := Nat.le_trans (Nat.le_refl w16.heap.size) p169; omega)) k365) k396) k407) k410 (fun g h1 h2 hk => by have h3 := Nat.le_trans (z4 k171 k174 k365 k396) p405; omega)) k416)
   have t454 := fun (E sz n : Nat) (v : Value) (xs : List Value) (o : World.ownsRow w15 w1.heap.size E sz v n xs) (o0 : World.ownsRow w2 w1.heap.size E sz v n xs) => (own_kp (own_ch (own_kp (own_kp (own_kp (own_ch (own_kp (own_kp o k158) k171) k174 (ne2 o0 (Nat.le_trans (t3 (z12 k31 k37 k41 k46 k57 k70 k73 k85 k98 k101 k136 k141) k147.size k158.size) p169))) k365) k396) k407) k410 (ne2 o0 (Nat.le_trans (t7 (z12 k31 k37 k41 k46 k57 k70 k73 k85 k98 k101 k136 k141) k147.size k158.size k171.size k174.size k365.size k396.size) p405))) k416)
   have o455 := (t454 _ _ _ _ _ o154 o21)
   obtain ⟨y457, e458⟩ : ∃ y, F_impl_Answer ((y156).1) (((d0).2.1) + ((F_laws_at x_code 2) % 9)) ((d0).2.2.1) ((d0).2.2.2) = y := ⟨_, rfl⟩
   have hc456 := C_impl_Answer w23 _ ((y156).1) (mR_28 (OLv.rl o453) s162) (((d0).2.1) + ((F_laws_at x_code 2) % 9)) _ ((d0).2.2.1) (mR_25) _ ((d0).2.2.2) (mR_22 (Rd.of_own o455) s22)
   rw [e458] at hc456
   refine cl wN hc456 ?_
   rintro _ w24 ⟨k459, ⟨a460, c461, rfl, o462, s463, ap465⟩⟩
   obtain ⟨y467, o468⟩ := OLv.ow o462
   refine mw (.tuple #[(va (L_28 ((y457).1) a460 c461)), (vb ((y457).2))]) ?_
   refine pu (va (L_28 ((y457).1) a460 c461)) wN ?_
   refine pu (vb ((y457).2)) wN ?_
   refine al [(vi 0), (vi 0), (vs none 0 0)] wN zero_28 ?_
   intro g469 w25 p470 p471 k472 b473
   refine sv (L_28 ((y457).1) a460 c461) wN sizeOf_28 b473 ?_
   intro w26 k475 b476 z477
   have m478 := ((m417.extk k459).extk k472).ext k475 (fun k hk => by subst hk; exact Nat.le_trans (Nat.le_trans (t12 (z12 k6 k12 k31 k37 k41 k46 k57 k70 k73 k85 k98 k101) k136.size k141.size k147.size k158.size k171.size k174.size k365.size k396.size k407.size k410.size k416.size) k459.size) p470)
   refine aw (vb ((y457).2)) ?_
   refine nx ?_
   refine mw (vb ((y156).2)) ?_
   refine mw (vb ((y156).2)) ?_
   rcases bf ((y156).2) with h479 | h479
   ·iterate 4 refine sk h479 ?_
    refine pf (vb false) wN h479 ?_
    refine mw (vb false) ?_
    iterate 2 refine sk (Eq.refl false) ?_
    refine pf (vb false) wN (Eq.refl false) ?_
    refine mw (vb false) ?_
    iterate 2 refine sk (Eq.refl false) ?_
    refine pf (vb false) wN (Eq.refl false) ?_
    refine mw (vb false) ?_
    iterate 4 refine sk (Eq.refl false) ?_
    refine pf (vb false) wN (Eq.refl false) ?_
    refine mw (vb false) ?_
    iterate 8 refine sk (Eq.refl false) ?_
    refine pf (vb false) wN (Eq.refl false) ?_
    refine aw (vb false) ?_
    refine n3 ?_
    refine rt (vb false) ?_
    have hF514 : F_laws_FnPaths x_code d0 = false := by first | (simp only [F_laws_FnPaths, h8, e56, e84, h105, h143, h145, e157, h418, h420, h423, h425, h431, h433, h442, e458, h479, cond_true, cond_false, decide_true]; done) | (exfalso; first | (simp at h479; done) | (simp at e458; done) | (simp at h442; done) | (simp at h433; done) | (simp at h431; done)) | (unfold F_laws_FnPaths; try simp only [h8, cond_true, cond_false]; try simp only [e56, cond_true, cond_false]; try simp only [e84, cond_true, cond_false]; try simp only [h105, cond_true, cond_false]; try simp only [h143, cond_true, cond_false]; try simp only [h145, cond_true, cond_false]; try simp only [e157, cond_true, cond_false]; try simp only [h418, cond_true, cond_false]; try simp only [h420, cond_true, cond_false]; try simp only [h423, cond_true, cond_false]; try simp only [h425, cond_true, cond_false]; try simp only [h431, cond_true, cond_false]; try simp only [h433, cond_true, cond_false]; try simp only [h442, cond_true, cond_false]; try simp only [e458, cond_true, cond_false]; try simp only [h479, cond_true, cond_false]; done)
    exact ⟨d0, m478.keep0, q13, by rw [hF514]⟩
   refine pu (vp g168 0) (wS h479) ?_
   have b481 := (((b451.kp k459).kp k472).ch k475 (Nat.ne_of_lt (Nat.lt_of_lt_of_le p170 (Nat.le_trans (z7 k174 k365 k396 k407 k410 k416 k459) p470))))
   refine lN (L_25 (((y156).1).At)) (wS h479) isAgg_25 sizeOf_25 b481 ?_
   have b482 := (((b452.kp k459).kp k472).ch k475 (Nat.ne_of_lt (Nat.lt_of_lt_of_le p36 (Nat.le_trans (t9 (z12 k41 k46 k57 k70 k73 k85 k98 k101 k136 k141 k147 k158) k171.size k174.size k365.size k396.size k407.size k410.size k416.size k459.size) p470))))
   refine lN (L_25 ((d0).2.2.1)) (wS h479) isAgg_25 sizeOf_25 b482 ?_
   refine wl_aggeq ((decide (((((y156).1).At).Host) = (((d0).2.2.1).Host)) && decide (((((y156).1).At).Port) = (((d0).2.2.1).Port)))) (wS h479) rfl rfl rfl rfl rfl guardt_25 (aggeq_25 ((((y156).1).At).Host) (((d0).2.2.1).Host) ((((y156).1).At).Port) (((d0).2.2.1).Port) w26) ?_
   refine pk (vb (decide (((((y156).1).At).Host) = (((d0).2.2.1).Host)) && decide (((((y156).1).At).Port) = (((d0).2.2.1).Port)))) wN h479 ?_
   refine mw (vb (decide (((((y156).1).At).Host) = (((d0).2.2.1).Host)) && decide (((((y156).1).At).Port) = (((d0).2.2.1).Port)))) ?_
   rcases bf (decide (((((y156).1).At).Host) = (((d0).2.2.1).Host)) && decide (((((y156).1).At).Port) = (((d0).2.2.1).Port))) with h483 | h483
   ·iterate 2 refine sk h483 ?_
    refine pf (vb false) wN h483 ?_
    refine mw (vb false) ?_
    iterate 2 refine sk (Eq.refl false) ?_
    refine pf (vb false) wN (Eq.refl false) ?_
    refine mw (vb false) ?_
    iterate 4 refine sk (Eq.refl false) ?_
    refine pf (vb false) wN (Eq.refl false) ?_
    refine mw (vb false) ?_
    iterate 8 refine sk (Eq.refl false) ?_
    refine pf (vb false) wN (Eq.refl false) ?_
    refine aw (vb false) ?_
    refine n3 ?_
    refine rt (vb false) ?_
    have hF512 : F_laws_FnPaths x_code d0 = false := by first | (simp only [F_laws_FnPaths, h8, e56, e84, h105, h143, h145, e157, h418, h420, h423, h425, h431, h433, h442, e458, h479, h483, cond_true, cond_false, decide_true]; done) | (exfalso; first | (simp at h483; done) | (simp at h479; done) | (simp at e458; done) | (simp at h442; done) | (simp at h433; done)) | (unfold F_laws_FnPaths; try simp only [h8, cond_true, cond_false]; try simp only [e56, cond_true, cond_false]; try simp only [e84, cond_true, cond_false]; try simp only [h105, cond_true, cond_false]; try simp only [h143, cond_true, cond_false]; try simp only [h145, cond_true, cond_false]; try simp only [e157, cond_true, cond_false]; try simp only [h418, cond_true, cond_false]; try simp only [h420, cond_true, cond_false]; try simp only [h423, cond_true, cond_false]; try simp only [h425, cond_true, cond_false]; try simp only [h431, cond_true, cond_false]; try simp only [h433, cond_true, cond_false]; try simp only [h442, cond_true, cond_false]; try simp only [e458, cond_true, cond_false]; try simp only [h479, cond_true, cond_false]; try simp only [h483, cond_true, cond_false]; done)
    exact ⟨d0, m478.keep0, q13, by rw [hF512]⟩
   refine lN (L_28 ((y156).1) a159 c160) (wS h483) isAgg_28 sizeOf_28 b481 ?_
   have o485 := (OLv.ch (OLv.kp (OLv.kp o453 k459) k472) k475 (fun g h1 h2 hk => by have h3 := Nat.le_trans (z8 k171 k174 k365 k396 k407 k410 k416 k459) p470; omega))
   refine cl (wS h483) (C_impl_PathsOk w26 _ ((y156).1) (mR_28 (OLv.rl o485) s162)) ?_
   rintro _ w27 ⟨k486, rfl⟩
   have m487 := m478.extk k486
   refine pk (vb (iPa ((y156).1))) wN h483 ?_
   refine mw (vb (iPa ((y156).1))) ?_
   rcases bf (iPa ((y156).1)) with h488 | h488
   ·iterate 2 refine sk h488 ?_
    refine pf (vb false) wN h488 ?_
    refine mw (vb false) ?_
    iterate 4 refine sk (Eq.refl false) ?_
    refine pf (vb false) wN (Eq.refl false) ?_
    refine mw (vb false) ?_
    iterate 8 refine sk (Eq.refl false) ?_
    refine pf (vb false) wN (Eq.refl false) ?_
    refine aw (vb false) ?_
    refine n3 ?_
    refine rt (vb false) ?_
    have hF510 : F_laws_FnPaths x_code d0 = false := by first | (simp only [F_laws_FnPaths, h8, e56, e84, h105, h143, h145, e157, h418, h420, h423, h425, h431, h433, h442, e458, h479, h483, h488, cond_true, cond_false, decide_true]; done) | (exfalso; first | (simp at h488; done) | (simp at h483; done) | (simp at h479; done) | (simp at e458; done) | (simp at h442; done)) | (unfold F_laws_FnPaths; try simp only [h8, cond_true, cond_false]; try simp only [e56, cond_true, cond_false]; try simp only [e84, cond_true, cond_false]; try simp only [h105, cond_true, cond_false]; try simp only [h143, cond_true, cond_false]; try simp only [h145, cond_true, cond_false]; try simp only [e157, cond_true, cond_false]; try simp only [h418, cond_true, cond_false]; try simp only [h420, cond_true, cond_false]; try simp only [h423, cond_true, cond_false]; try simp only [h425, cond_true, cond_false]; try simp only [h431, cond_true, cond_false]; try simp only [h433, cond_true, cond_false]; try simp only [h442, cond_true, cond_false]; try simp only [e458, cond_true, cond_false]; try simp only [h479, cond_true, cond_false]; try simp only [h483, cond_true, cond_false]; try simp only [h488, cond_true, cond_false]; done)
    exact ⟨d0, m487.keep0, q13, by rw [hF510]⟩
   have q489 := iPa_t h488
   refine mv (vb ((y457).2)) (wS h488) ?_
   refine pu (vb (!((y457).2))) (wS h488) ?_
   refine pk (vb (!((y457).2))) wN h488 ?_
   refine mw (vb (!((y457).2))) ?_
   rcases bt ((y457).2) with h490 | h490
   ·iterate 4 refine sk (congrArg not h490) ?_
    refine pf (vb false) wN (congrArg not h490) ?_
    refine mw (vb false) ?_
    iterate 8 refine sk (Eq.refl false) ?_
    refine pf (vb false) wN (Eq.refl false) ?_
    refine aw (vb false) ?_
    refine n3 ?_
    refine rt (vb false) ?_
    have hF492 : F_laws_FnPaths x_code d0 = false := by first | (simp only [F_laws_FnPaths, h8, e56, e84, h105, h143, h145, e157, h418, h420, h423, h425, h431, h433, h442, e458, h479, h483, h488, h490, cond_true, cond_false, decide_true]; done) | (exfalso; first | (simp at h490; done) | (simp at h488; done) | (simp at h483; done) | (simp at h479; done) | (simp at e458; done)) | (unfold F_laws_FnPaths; try simp only [h8, cond_true, cond_false]; try simp only [e56, cond_true, cond_false]; try simp only [e84, cond_true, cond_false]; try simp only [h105, cond_true, cond_false]; try simp only [h143, cond_true, cond_false]; try simp only [h145, cond_true, cond_false]; try simp only [e157, cond_true, cond_false]; try simp only [h418, cond_true, cond_false]; try simp only [h420, cond_true, cond_false]; try simp only [h423, cond_true, cond_false]; try simp only [h425, cond_true, cond_false]; try simp only [h431, cond_true, cond_false]; try simp only [h433, cond_true, cond_false]; try simp only [h442, cond_true, cond_false]; try simp only [e458, cond_true, cond_false]; try simp only [h479, cond_true, cond_false]; try simp only [h483, cond_true, cond_false]; try simp only [h488, cond_true, cond_false]; try simp only [h490, cond_true, cond_false]; done)
    exact ⟨d0, m487.keep0, q13, by rw [hF492]⟩
   refine pu (vp g469 0) (wS (congrArg not h490)) ?_
   have b494 := (b476.kp k486)
   refine lN (L_25 (((y457).1).At)) (wS (congrArg not h490)) isAgg_25 sizeOf_25 b494 ?_
   have b495 := (b482.kp k486)
   refine lN (L_25 ((d0).2.2.1)) (wS (congrArg not h490)) isAgg_25 sizeOf_25 b495 ?_
   refine wl_aggeq ((decide (((((y457).1).At).Host) = (((d0).2.2.1).Host)) && decide (((((y457).1).At).Port) = (((d0).2.2.1).Port)))) (wS (congrArg not h490)) rfl rfl rfl rfl rfl guardt_25 (aggeq_25 ((((y457).1).At).Host) (((d0).2.2.1).Host) ((((y457).1).At).Port) (((d0).2.2.1).Port) w27) ?_
   refine pk (vb (decide (((((y457).1).At).Host) = (((d0).2.2.1).Host)) && decide (((((y457).1).At).Port) = (((d0).2.2.1).Port)))) wN (congrArg not h490) ?_
   refine mw (vb (decide (((((y457).1).At).Host) = (((d0).2.2.1).Host)) && decide (((((y457).1).At).Port) = (((d0).2.2.1).Port)))) ?_
   rcases bf (decide (((((y457).1).At).Host) = (((d0).2.2.1).Host)) && decide (((((y457).1).At).Port) = (((d0).2.2.1).Port))) with h496 | h496
   ·iterate 8 refine sk h496 ?_
    refine pf (vb false) wN h496 ?_
    refine aw (vb false) ?_
    refine n3 ?_
    refine rt (vb false) ?_
    have hF508 : F_laws_FnPaths x_code d0 = false := by first | (simp only [F_laws_FnPaths, h8, e56, e84, h105, h143, h145, e157, h418, h420, h423, h425, h431, h433, h442, e458, h479, h483, h488, h490, h496, cond_true, cond_false, decide_true]; done) | (exfalso; first | (simp at h496; done) | (simp at h490; done) | (simp at h488; done) | (simp at h483; done) | (simp at h479; done)) | (unfold F_laws_FnPaths; try simp only [h8, cond_true, cond_false]; try simp only [e56, cond_true, cond_false]; try simp only [e84, cond_true, cond_false]; try simp only [h105, cond_true, cond_false]; try simp only [h143, cond_true, cond_false]; try simp only [h145, cond_true, cond_false]; try simp only [e157, cond_true, cond_false]; try simp only [h418, cond_true, cond_false]; try simp only [h420, cond_true, cond_false]; try simp only [h423, cond_true, cond_false]; try simp only [h425, cond_true, cond_false]; try simp only [h431, cond_true, cond_false]; try simp only [h433, cond_true, cond_false]; try simp only [h442, cond_true, cond_false]; try simp only [e458, cond_true, cond_false]; try simp only [h479, cond_true, cond_false]; try simp only [h483, cond_true, cond_false]; try simp only [h488, cond_true, cond_false]; try simp only [h490, cond_true, cond_false]; try simp only [h496, cond_true, cond_false]; done)
    exact ⟨d0, m487.keep0, q13, by rw [hF508]⟩
   refine pu (vp g168 2) (wS h496) ?_
   have b498 := (b481.kp k486)
   refine ld (vs a159 (((y156).1).Cands).length c160) (wS h496) isAgg_26 b498 ?_
   have o501 := (OLv.kp o485 k486)
   obtain ⟨y499, r500⟩ := RLv.row (OLv.rl o501)
   refine ln (wS h496) slTy_26 r500 ?_
   refine pu (vp g67 2) (wS h496) ?_
   have b502 := ((((b429.kp k459).kp k472).ch k475 (Nat.ne_of_lt (Nat.lt_of_lt_of_le p69 (Nat.le_trans (t5 (z12 k73 k85 k98 k101 k136 k141 k147 k158 k171 k174 k365 k396) k407.size k410.size k416.size k459.size) p470)))).kp k486)
   refine ld (vs a58 (((y55).1).Cands).length c59) (wS h496) isAgg_26 b502 ?_
   have o505 := (OLv.kp (OLv.ch (OLv.kp (OLv.kp (OLv.kp o415 k416) k459) k472) k475 (fun g h1 h2 hk => by have h3 := Nat.le_trans (t6 (z12 k70 k73 k85 k98 k101 k136 k141 k147 k158 k171 k174 k365) k396.size k407.size k410.size k416.size k459.size) p470; omega)) k486)
   obtain ⟨y503, r504⟩ := RLv.row (OLv.rl o505)
   refine ln (wS h496) slTy_26 r504 ?_
   refine ar (((((y55).1).Cands).length : Int) - 1) (wS h496) ?_
   refine pu (vb (decide (((((y156).1).Cands).length : Int) = (((((y55).1).Cands).length : Int) - 1)))) (wS h496) ?_
   refine pk (vb (decide (((((y156).1).Cands).length : Int) = (((((y55).1).Cands).length : Int) - 1)))) wN h496 ?_
   refine aw (vb (decide (((((y156).1).Cands).length : Int) = (((((y55).1).Cands).length : Int) - 1)))) ?_
   refine n3 ?_
   refine rt (vb (decide (((((y156).1).Cands).length : Int) = (((((y55).1).Cands).length : Int) - 1)))) ?_
   have hF506 : F_laws_FnPaths x_code d0 = decide (((((y156).1).Cands).length : Int) = (((((y55).1).Cands).length : Int) - 1)) := by first | (simp only [F_laws_FnPaths, h8, e56, e84, h105, h143, h145, e157, h418, h420, h423, h425, h431, h433, h442, e458, h479, h483, h488, h490, h496, cond_true, cond_false, decide_true]; done) | (exfalso; first | (simp at h496; done) | (simp at h490; done) | (simp at h488; done) | (simp at h483; done) | (simp at h479; done)) | (unfold F_laws_FnPaths; try simp only [h8, cond_true, cond_false]; try simp only [e56, cond_true, cond_false]; try simp only [e84, cond_true, cond_false]; try simp only [h105, cond_true, cond_false]; try simp only [h143, cond_true, cond_false]; try simp only [h145, cond_true, cond_false]; try simp only [e157, cond_true, cond_false]; try simp only [h418, cond_true, cond_false]; try simp only [h420, cond_true, cond_false]; try simp only [h423, cond_true, cond_false]; try simp only [h425, cond_true, cond_false]; try simp only [h431, cond_true, cond_false]; try simp only [h433, cond_true, cond_false]; try simp only [h442, cond_true, cond_false]; try simp only [e458, cond_true, cond_false]; try simp only [h479, cond_true, cond_false]; try simp only [h483, cond_true, cond_false]; try simp only [h488, cond_true, cond_false]; try simp only [h490, cond_true, cond_false]; try simp only [h496, cond_true, cond_false]; done)
   exact ⟨d0, m487.keep0, q13, by rw [hF506]⟩
end Go.Proofs.Ytdbjmgkiccfhcaa.K
