import Derived.Test.YtcbdmamfmcdlaaaCore
import Derived.Test.YtcbdmamfmcdlaaaProg
import Derived.Test.YtcbdmamfmcdlaaaHeld
import Derived.Test.YtcbdmamfmcdlaaaFun
import Derived.Test.YtcbdmamfmcdlaaaFunZ
import Derived.Test.YtcbdmamfmcdlaaaSqz
import Derived.Test.YtcbdmamfmcdlaaaCur
import Derived.Test.YtcbdmamfmcdlaaaDrawW
import Derived.Test.YtcbdmamfmcdlaaaWq2
namespace Go.Proofs.Ytcbdmamfmcdlaaa.K
open Go.RowKit
set_option linter.unusedVariables false
set_option linter.unusedSimpArgs false
set_option maxRecDepth 100000
set_option maxHeartbeats 4000000
theorem guardt_33 : Try.prog.eqGuardType Try.prog.depth 33 = false := by kernel_rfl
theorem aggeqn_26 (x0 x1 y0 y1 : Int) (d : Nat) (w : World) : (Op.equalIn (d + 2) 26 (.agg #[.int .i64 x0, .int .i64 x1]) (.agg #[.int .i64 y0, .int .i64 y1])).run Try.prog w = .ok ((decide (x0 = y0) && decide (x1 = y1))) w := by
  rw [run_equalIn_struct w (d + 1) 26 _ _ (by kernel_rfl) (by kernel_rfl)]
  simp [Program.fieldsOf, Op.eqFields, go_sem, Try.underlying3, Try.underlying26]
  by_cases h0 : x0 = y0 <;> by_cases h1 : x1 = y1 <;> simp [*]
theorem aggeq_33 (x0 y0 : Int) (x1 y1 : Int) (x2 y2 : Int) (x3 y3 : Int) (w : World) : (Op.equalIn 10000 33 (.agg #[.int .i64 x0, .int .i64 x1, .int .i64 x2, .int .i64 x3]) (.agg #[.int .i64 y0, .int .i64 y1, .int .i64 y2, .int .i64 y3])).run Try.prog w = .ok ((decide (x0 = y0) && (decide (x1 = y1) && (decide (x2 = y2) && decide (x3 = y3))))) w := by
  rw [run_equalIn_struct w 9999 33 _ _ (by kernel_rfl) (by kernel_rfl)]
  have e0 := aggeqn_26 x0 x1 y0 y1 9997
  simp [Program.fieldsOf, Op.eqFields, go_sem, part, Sem.run_bind, Try.underlying3, Try.underlying26, Try.underlying33, e0]
  by_cases h0 : x0 = y0 <;> by_cases h1 : x1 = y1 <;> by_cases h2 : x2 = y2 <;> by_cases h3 : x3 = y3 <;> simp [*]
theorem mQ_22 {w : World} {x : List UInt8} {a1 : Option Addr} {c1 : Nat} (h1 : Rd w 1 (.slice a1 x.length c1) x.length (x.map bV)) (l1 : x.length ≤ 9223372036854775807) : Q_22 w (vs a1 x.length c1) x := ⟨_, _, rfl, h1, l1⟩
def gnC (d n : Int) : Bool := bif decide (0 ≤ d) then (bif decide (d % 3 = 0) then (bif decide (n < 0) then true else decide (d ≤ 3 * n)) else false) else false
def gnE (l x : List PCredit) (a b : PAddr) (n : Int) : Bool := bif iCr x then (bif (decide (a.Host = b.Host) && decide (a.Port = b.Port)) then gnC (F_impl_RoomFor x a - F_impl_RoomFor l a) n else bif decide (F_impl_RoomFor x b = F_impl_RoomFor l b) then gnC (F_impl_RoomFor x a - F_impl_RoomFor l a) n else false) else false
def gnLaw (code : List UInt8) (d : List PCredit × PAddr × Int) : Bool := bif F_laws_big code then true else bif decide (((F_impl_Gain d.1 d.2.1 d.2.2).length : Int) = ((F_spec_Gain d.1 d.2.1 d.2.2).length : Int)) then (bif decide (F_impl_Gain d.1 d.2.1 d.2.2 = F_spec_Gain d.1 d.2.1 d.2.2) then (bif iCr d.1 then gnE d.1 (F_impl_Gain d.1 d.2.1 d.2.2) d.2.1 (F_impl_Near (F_laws_at code 2 % 12)) d.2.2 else decide (((F_impl_Gain d.1 d.2.1 d.2.2).length : Int) = (d.1.length : Int))) else false) else false
theorem gn_ne {x y : List PCredit} (k : Nat) {b : Bool} (h : b = false) (hb : x = y → b = true) : decide (x = y) = false := decide_eq_false fun e => by rw [hb e] at h; cases h
theorem gn_eq {x y : List PCredit} {k : Nat} (h : x.take k = y.take k) (hk : x.length ≤ k) (hl : x.length = y.length) : decide (x = y) = true := decide_eq_true (by rwa [List.take_of_length_le hk, List.take_of_length_le (by omega)] at h)
theorem gn_next {x y : List PCredit} {k : Nat} {b : Bool} (h : x.take k = y.take k) (hk : k < x.length) (hl : x.length = y.length) (hb : b = true) (he : b = true → x.getD k z_PCredit = y.getD k z_PCredit) : x.take (k + 1) = y.take (k + 1) := by
  have e := he hb
  rw [List.take_succ_eq_append_getElem hk, List.take_succ_eq_append_getElem (by omega), h]
  simp only [List.getD_eq_getElem?_getD, List.getElem?_eq_getElem hk, List.getElem?_eq_getElem (show k < y.length by omega), Option.getD_some] at e
  rw [e]
theorem cr_ext {u v : PCredit} (h : (decide (u.A.Host = v.A.Host) && (decide (u.A.Port = v.A.Port) && (decide (u.Got = v.Got) && decide (u.Sent = v.Sent)))) = true) : u = v := by
  obtain ⟨⟨a, b⟩, c, d⟩ := u
  obtain ⟨⟨a', b'⟩, c', d'⟩ := v
  simp at h
  simp [h]
theorem C_laws_FnGains (w0 : World) (v_x_code : Value) (x_code : List UInt8) (r_x_code : Q_22 w0 v_x_code x_code)  : Fn Try.prog 3 #[v_x_code] w0 (fun v w' => ∃ (d0 : (List PCredit) × (PAddr) × (Int)), Keep w0 w' ∧ (d0.1.length ≤ 101 ∧ -1 ≤ d0.2.2 ∧ d0.2.2 ≤ 1000001) ∧ v = vb (gnLaw x_code d0)) := by
 obtain ⟨a1, c2, rfl, r3, s4⟩ := r_x_code
 refine fn_ofS (n := 101) [(vs a1 x_code.length c2)] Try.func3 rfl rfl ?_
 refine sr ?_
 refine aw (vb false) ?_
 refine n4 ?_
 refine mw (vs a1 x_code.length c2) ?_
 refine cl wN (C_laws_big w0 _ x_code (mQ_22 r3 s4)) ?_
 rintro _ w1 ⟨k6, rfl⟩
 have m7 := (Ch.base w0).extk k6
 refine n2 ?_
 rcases bt (F_laws_big x_code) with h8 | h8
 ·refine ct h8 ?_
  refine sr ?_
  refine aw (vb true) ?_
  refine n1 ?_
  refine rt (vb true) ?_
  have hF10 : gnLaw x_code (([], { Host := 0, Port := 0 : PAddr }, 0)) = true := by simp only [gnLaw, h8, cond_true, cond_false]
  exact ⟨(([], { Host := 0, Port := 0 : PAddr }, 0)), m7.keep0, (by first | trivial | decide | (simp; done)), by rw [hF10]⟩
 have q11 := big_f h8
 refine cf h8 ?_
 refine y1 ?_
 refine mw (vs a1 x_code.length c2) ?_
 refine cl wN (C_spec_DrawGain w1 _ x_code (mR_22 (r3.from0 m7) (by omega))) ?_
 rintro _ w2 ⟨d0, k12, ⟨a14, c15, rfl, o16, s17, ap19⟩, q13⟩
 refine mw (.tuple #[(vs a14 ((d0).1).length c15), (va (L_26 ((d0).2.1))), (vi ((d0).2.2))]) ?_
 refine pu (vs a14 ((d0).1).length c15) wN ?_
 refine pu (va (L_26 ((d0).2.1))) wN ?_
 refine pu (vi ((d0).2.2)) wN ?_
 refine al [(vi 0), (vi 0)] wN zero_26 ?_
 intro g21 w3 p22 p23 k24 b25
 refine aw (vs a14 ((d0).1).length c15) ?_
 refine st (va (L_26 ((d0).2.1))) (L_26 ((d0).2.1)) (L_26 ((d0).2.1)) wN sizeOf_26 b25 ?_
 intro w4 k27 b28 z29
 have m30 := ((m7.extk k12).extk k24).ext k27 (fun k hk => by subst hk; exact Nat.le_trans (z2 k6 k12) p22)
 refine aw (vi ((d0).2.2)) ?_
 refine nx ?_
 refine mw (vs a14 ((d0).1).length c15) ?_
 refine lN (L_26 ((d0).2.1)) wN isAgg_26 sizeOf_26 b28 ?_
 refine mw (vi ((d0).2.2)) ?_
 have o31 := (own_ch (own_kp o16 k24) k27 (ne2 o16 (p22)))
 refine cl wN (C_impl_Gain w4 _ ((d0).1) (mR_24 (Rd.of_own o31) s17) _ ((d0).2.1) (mR_26) ((d0).2.2)) ?_
 rintro _ w5 ⟨k32, ⟨a33, c34, rfl, o35, s36, ap38⟩⟩
 have m39 := m30.extk k32
 have q40 := iGain_len ((d0).1) ((d0).2.1) ((d0).2.2)
 refine aw (vs a33 (F_impl_Gain ((d0).1) ((d0).2.1) ((d0).2.2)).length c34) ?_
 refine nx ?_
 refine mw (vs a1 x_code.length c2) ?_
 refine cl wN (C_laws_at w5 _ x_code (mR_22 (r3.from0 m39) (by omega)) 2 (by omega)) ?_
 rintro _ w6 ⟨k41, rfl⟩
 have q43 := at_b x_code 2
 refine wl_rem (F_laws_at x_code 2) 12 wN rfl rfl (by kernel_rfl) (by first | omega | assumption) ?_
 refine cl wN (C_impl_Near w6 ((F_laws_at x_code 2) % 12)) ?_
 rintro _ w7 ⟨k44, rfl⟩
 have m45 := (m39.extk k41).extk k44
 refine al [(vi 0), (vi 0)] wN zero_26 ?_
 intro g46 w8 p47 p48 k49 b50
 refine st (va (L_26 (F_impl_Near ((F_laws_at x_code 2) % 12)))) (L_26 (F_impl_Near ((F_laws_at x_code 2) % 12))) (L_26 (F_impl_Near ((F_laws_at x_code 2) % 12))) wN sizeOf_26 b50 ?_
 intro w9 k52 b53 z54
 have m55 := (m45.extk k49).ext k52 (fun k hk => by subst hk; exact Nat.le_trans (z7 k6 k12 k24 k27 k32 k41 k44) p47)
 refine nx ?_
 refine mw (vs a14 ((d0).1).length c15) ?_
 have b56 := (((((b28.kp k32).kp k41).kp k44).kp k49).ch k52 (Nat.ne_of_lt (Nat.lt_of_lt_of_le p23 (Nat.le_trans (z4 k27 k32 k41 k44) p47))))
 refine lN (L_26 ((d0).2.1)) wN isAgg_26 sizeOf_26 b56 ?_
 refine mw (vi ((d0).2.2)) ?_
 have o57 := (own_ch (own_kp (own_kp (own_kp (own_kp o31 k32) k41) k44) k49) k52 (ne2 o16 (Nat.le_trans (z5 k24 k27 k32 k41 k44) p47)))
 refine cl wN (C_spec_Gain w9 _ ((d0).1) (mR_24 (Rd.of_own o57) s17) _ ((d0).2.1) (mR_26) ((d0).2.2)) ?_
 rintro _ w10 ⟨k58, ⟨a59, c60, rfl, o61, s62, ap64⟩⟩
 have m65 := m55.extk k58
 have q66 := sGain_len ((d0).1) ((d0).2.1) ((d0).2.2)
 refine aw (vs a59 (F_spec_Gain ((d0).1) ((d0).2.1) ((d0).2.2)).length c60) ?_
 refine n4 ?_
 refine mw (vs a33 (F_impl_Gain ((d0).1) ((d0).2.1) ((d0).2.2)).length c34) ?_
 have o67 := (own_kp (own_ch (own_kp (own_kp (own_kp o35 k41) k44) k49) k52 (ne2 o35 (Nat.le_trans (z2 k41 k44) p47))) k58)
 refine ln wN slTy_24 (Rd.of_own o67) ?_
 refine mw (vs a59 (F_spec_Gain ((d0).1) ((d0).2.1) ((d0).2.2)).length c60) ?_
 refine ln wN slTy_24 (Rd.of_own o61) ?_
 refine pu (vb (!(decide (((F_impl_Gain ((d0).1) ((d0).2.1) ((d0).2.2)).length : Int) = ((F_spec_Gain ((d0).1) ((d0).2.1) ((d0).2.2)).length : Int))))) wN ?_
 refine n2 ?_
 rcases bf (decide (((F_impl_Gain ((d0).1) ((d0).2.1) ((d0).2.2)).length : Int) = ((F_spec_Gain ((d0).1) ((d0).2.1) ((d0).2.2)).length : Int))) with h68 | h68
 ·have q2068 := of_decide_eq_false h68
  refine ct (congrArg not h68) ?_
  refine sr ?_
  refine aw (vb false) ?_
  refine n1 ?_
  refine rt (vb false) ?_
  have hF2069 : gnLaw x_code d0 = false := by simp only [gnLaw, h8, h68, cond_true, cond_false]
  exact ⟨d0, m65.keep0, q13, by rw [hF2069]⟩
 have q69 := of_decide_eq_true h68
 refine cf (congrArg not h68) ?_
 refine y2 ?_
 refine aw (vi 0) ?_
 refine wl_nil <| wq_then <| wc_block ?_
 refine wc_loopP [(3, (vs a14 ((d0).1).length c15)), (4, (vp g21 0)), (5, (vi ((d0).2.2))), (6, (vs a33 (F_impl_Gain ((d0).1) ((d0).2.1) ((d0).2.2)).length c34)), (7, (vp g46 0)), (8, (vs a59 (F_spec_Gain ((d0).1) ((d0).2.1) ((d0).2.2)).length c60)), (9, (vi ((0 : Nat) : Int)))] ⟨rfl, rfl, rfl, rfl, rfl, rfl, (congrArg (Value.int .i64) (show (0 : Int) = ((0 : Nat) : Int) by omega)), trivial⟩ (fun e' w' => ∃ (i : Nat) (u70 : Env), e' = pt u70 [(3, (vs a14 ((d0).1).length c15)), (4, (vp g21 0)), (5, (vi ((d0).2.2))), (6, (vs a33 (F_impl_Gain ((d0).1) ((d0).2.1) ((d0).2.2)).length c34)), (7, (vp g46 0)), (8, (vs a59 (F_spec_Gain ((d0).1) ((d0).2.1) ((d0).2.2)).length c60)), (9, (vi ((i : Nat) : Int)))] ∧ Ch (fun k => w0.heap.size ≤ k) w0 w' ∧ Ch (fun k => w10.heap.size ≤ k) w10 w' ∧ i ≤ (F_impl_Gain d0.1 d0.2.1 d0.2.2).length ∧ (F_impl_Gain d0.1 d0.2.1 d0.2.2).take i = (F_spec_Gain d0.1 d0.2.1 d0.2.2).take i) (fun e' _ => ((F_impl_Gain d0.1 d0.2.1 d0.2.2).length : Int).toNat - ((intOf (e' 9))).toNat) ?_ ?_
 ·exact fun u => ⟨0, u, rfl, m65, (Ch.refl (fun k => w10.heap.size ≤ k) w10), (by omega), (by first | rfl | exact gn_next hi1 (by omega) (by omega) h68 cr_ext)⟩
 ·rintro _ w11 ⟨i, u70, rfl, m71, k72, hi0, hi1⟩
  refine wc_seq <| sr ?_
  refine mw (vi ((i : Nat) : Int)) ?_
  refine mw (vs a33 (F_impl_Gain ((d0).1) ((d0).2.1) ((d0).2.2)).length c34) ?_
  have o75 := (own_ch o67 k72 (fun g hg hlt hk => by have h1 := (own_lt o35 g hg).2; have h2 : w5.heap.size ≤ w10.heap.size := (z5 k41 k44 k49 k52 k58); have h3 : w10.heap.size ≤ g := hk; omega))
  refine ln wN slTy_24 (Rd.of_own o75) ?_
  refine pu (vb (decide (((i : Nat) : Int) < ((F_impl_Gain ((d0).1) ((d0).2.1) ((d0).2.2)).length : Int)))) wN ?_
  refine n2 ?_
  rcases bt (decide (((i : Nat) : Int) < ((F_impl_Gain ((d0).1) ((d0).2.1) ((d0).2.2)).length : Int))) with h76 | h76
  ·have q77 := of_decide_eq_true h76
   refine ct h76 ?_
   refine wc_skip <| wq_then <| wc_seq <| wc_block <| wc_seq ?_
   refine wc_drawT ([(42, [], [], (fun _ v _ => v = (vs a33 (F_impl_Gain ((d0).1) ((d0).2.1) ((d0).2.2)).length c34))), (43, [], [], (fun _ v _ => v = (vi ((i : Nat) : Int)))), (44, [], [0, 1], (fun _ v _ => v = (ve (vs a33 (F_impl_Gain ((d0).1) ((d0).2.1) ((d0).2.2)).length c34) ((((i : Nat) : Int)).toNat * 4)))), (45, [], [0, 1, 2], (fun _ v _ => v = (va (L_33 ((F_impl_Gain ((d0).1) ((d0).2.1) ((d0).2.2)).getD i z_PCredit))))), (46, [], [], (fun _ v _ => v = (vs a59 (F_spec_Gain ((d0).1) ((d0).2.1) ((d0).2.2)).length c60))), (47, [], [], (fun _ v _ => v = (vi ((i : Nat) : Int)))), (48, [], [4, 5], (fun _ v _ => v = (ve (vs a59 (F_spec_Gain ((d0).1) ((d0).2.1) ((d0).2.2)).length c60) ((((i : Nat) : Int)).toNat * 4)))), (49, [], [4, 5, 6], (fun _ v _ => v = (va (L_33 ((F_spec_Gain ((d0).1) ((d0).2.1) ((d0).2.2)).getD i z_PCredit)))))] : GV) (fun _ w' => Keep w11 w') [] mixed rfl (by kernel_rfl) (by kernel_rfl) ?_ (fun _ _ h => h) (fun _ _ _ _ h _ k => h.trans k) trivial ?_ ?_ ?_
   ·exact ⟨hV, hE, ⟨hV, hE, ⟨hV, hE, ⟨hV, hE, ⟨hV, hE, ⟨hV, hE, ⟨hV, hE, ⟨hV, hE, trivial⟩⟩⟩⟩⟩⟩⟩⟩
   ·exact trivial
   ·refine ⟨?_, ⟨?_, ⟨?_, ⟨?_, ⟨?_, ⟨?_, ⟨?_, ⟨?_, trivial⟩⟩⟩⟩⟩⟩⟩⟩
    ·intro _ w12 k80 _
     rintro _ _ _ _ _ _ _ _
     show WL _ _ _ _ _ _ _
     refine mw (vs a33 (F_impl_Gain ((d0).1) ((d0).2.1) ((d0).2.2)).length c34) ?_
     exact f1
    ·intro _ w12 k82 _
     rintro _ _ _ _ _ _ _ _
     show WL _ _ _ _ _ _ _
     refine mw (vi ((i : Nat) : Int)) ?_
     exact f1
    ·intro _ w12 k84 _
     rintro _ rfl _ rfl _ _ _ _ _ _
     show WL _ _ _ _ _ _ _
     have o86 := (own_kp o75 k84)
     refine ix wN ((i : Nat) : Int) slTy_24 (Rd.of_own o86) ?_
     exact f1
    ·intro _ w12 k87 _
     rintro _ rfl _ rfl _ rfl _ _ _ _ _
     show WL _ _ _ _ _ _ _
     have o90 := (own_kp o75 k87)
     refine wl_loadEN [(vi ((((F_impl_Gain ((d0).1) ((d0).2.1) ((d0).2.2)).getD i z_PCredit).A).Host)), (vi ((((F_impl_Gain ((d0).1) ((d0).2.1) ((d0).2.2)).getD i z_PCredit).A).Port)), (vi (((F_impl_Gain ((d0).1) ((d0).2.1) ((d0).2.2)).getD i z_PCredit).Got)), (vi (((F_impl_Gain ((d0).1) ((d0).2.1) ((d0).2.2)).getD i z_PCredit).Sent))] wN rfl rfl rfl rfl isAgg_33 sizeOf_33 (Rd.of_own o90) (by first | omega | (simp only [List.length_cons, List.length_nil, List.length_replicate, List.length_append, List.length_take, List.length_set, List.length_map]; omega)) ((rows_part (off := 0) (n := 4) enc_PCredit_len z_PCredit (by first | rfl | simp | omega) (by decide) (by first | omega | (simp only [List.length_cons, List.length_nil, List.length_replicate, List.length_append, List.length_take, List.length_set, List.length_map]; omega))).trans rfl) ?_
     exact f1
    ·intro _ w12 k91 _
     rintro _ _ _ _ _ _ _ _
     show WL _ _ _ _ _ _ _
     refine mw (vs a59 (F_spec_Gain ((d0).1) ((d0).2.1) ((d0).2.2)).length c60) ?_
     exact f1
    ·intro _ w12 k93 _
     rintro _ _ _ _ _ _ _ _
     show WL _ _ _ _ _ _ _
     refine mw (vi ((i : Nat) : Int)) ?_
     exact f1
    ·intro _ w12 k95 _
     rintro _ _ _ _ _ rfl _ rfl _ _
     show WL _ _ _ _ _ _ _
     have o97 := (own_kp (own_ch o61 k72 (fun g hg hlt hk => by have h1 := (own_lt o61 g hg).2; have h2 : w10.heap.size ≤ w10.heap.size := (Nat.le_refl w10.heap.size); have h3 : w10.heap.size ≤ g := hk; omega)) k95)
     refine ix wN ((i : Nat) : Int) slTy_24 (Rd.of_own o97) ?_
     exact f1
    ·intro _ w12 k98 _
     rintro _ _ _ _ _ rfl _ rfl _ rfl _
     show WL _ _ _ _ _ _ _
     have o101 := (own_kp (own_ch o61 k72 (fun g hg hlt hk => by have h1 := (own_lt o61 g hg).2; have h2 : w10.heap.size ≤ w10.heap.size := (Nat.le_refl w10.heap.size); have h3 : w10.heap.size ≤ g := hk; omega)) k98)
     refine wl_loadEN [(vi ((((F_spec_Gain ((d0).1) ((d0).2.1) ((d0).2.2)).getD i z_PCredit).A).Host)), (vi ((((F_spec_Gain ((d0).1) ((d0).2.1) ((d0).2.2)).getD i z_PCredit).A).Port)), (vi (((F_spec_Gain ((d0).1) ((d0).2.1) ((d0).2.2)).getD i z_PCredit).Got)), (vi (((F_spec_Gain ((d0).1) ((d0).2.1) ((d0).2.2)).getD i z_PCredit).Sent))] wN rfl rfl rfl rfl isAgg_33 sizeOf_33 (Rd.of_own o101) (by first | omega | (simp only [List.length_cons, List.length_nil, List.length_replicate, List.length_append, List.length_take, List.length_set, List.length_map]; omega)) ((rows_part (off := 0) (n := 4) enc_PCredit_len z_PCredit (by first | rfl | simp | omega) (by decide) (by first | omega | (simp only [List.length_cons, List.length_nil, List.length_replicate, List.length_append, List.length_take, List.length_set, List.length_map]; omega))).trans rfl) ?_
     exact f1
   ·intro _ w12 k102
    have m103 := m71.extk k102
    rintro _ rfl _ rfl _ rfl _ rfl _ rfl _ rfl _ rfl _ rfl
    show WL _ _ _ _ _ _ _
    refine wl_aggne ((decide (((((F_impl_Gain ((d0).1) ((d0).2.1) ((d0).2.2)).getD i z_PCredit).A).Host) = ((((F_spec_Gain ((d0).1) ((d0).2.1) ((d0).2.2)).getD i z_PCredit).A).Host)) && (decide (((((F_impl_Gain ((d0).1) ((d0).2.1) ((d0).2.2)).getD i z_PCredit).A).Port) = ((((F_spec_Gain ((d0).1) ((d0).2.1) ((d0).2.2)).getD i z_PCredit).A).Port)) && (decide ((((F_impl_Gain ((d0).1) ((d0).2.1) ((d0).2.2)).getD i z_PCredit).Got) = (((F_spec_Gain ((d0).1) ((d0).2.1) ((d0).2.2)).getD i z_PCredit).Got)) && decide ((((F_impl_Gain ((d0).1) ((d0).2.1) ((d0).2.2)).getD i z_PCredit).Sent) = (((F_spec_Gain ((d0).1) ((d0).2.1) ((d0).2.2)).getD i z_PCredit).Sent)))))) wN rfl rfl rfl rfl rfl guardt_33 (aggeq_33 ((((F_impl_Gain ((d0).1) ((d0).2.1) ((d0).2.2)).getD i z_PCredit).A).Host) ((((F_spec_Gain ((d0).1) ((d0).2.1) ((d0).2.2)).getD i z_PCredit).A).Host) ((((F_impl_Gain ((d0).1) ((d0).2.1) ((d0).2.2)).getD i z_PCredit).A).Port) ((((F_spec_Gain ((d0).1) ((d0).2.1) ((d0).2.2)).getD i z_PCredit).A).Port) (((F_impl_Gain ((d0).1) ((d0).2.1) ((d0).2.2)).getD i z_PCredit).Got) (((F_spec_Gain ((d0).1) ((d0).2.1) ((d0).2.2)).getD i z_PCredit).Got) (((F_impl_Gain ((d0).1) ((d0).2.1) ((d0).2.2)).getD i z_PCredit).Sent) (((F_spec_Gain ((d0).1) ((d0).2.1) ((d0).2.2)).getD i z_PCredit).Sent) w12) ?_
    refine n2 ?_
    rcases bf (decide (((((F_impl_Gain ((d0).1) ((d0).2.1) ((d0).2.2)).getD i z_PCredit).A).Host) = ((((F_spec_Gain ((d0).1) ((d0).2.1) ((d0).2.2)).getD i z_PCredit).A).Host)) && (decide (((((F_impl_Gain ((d0).1) ((d0).2.1) ((d0).2.2)).getD i z_PCredit).A).Port) = ((((F_spec_Gain ((d0).1) ((d0).2.1) ((d0).2.2)).getD i z_PCredit).A).Port)) && (decide ((((F_impl_Gain ((d0).1) ((d0).2.1) ((d0).2.2)).getD i z_PCredit).Got) = (((F_spec_Gain ((d0).1) ((d0).2.1) ((d0).2.2)).getD i z_PCredit).Got)) && decide ((((F_impl_Gain ((d0).1) ((d0).2.1) ((d0).2.2)).getD i z_PCredit).Sent) = (((F_spec_Gain ((d0).1) ((d0).2.1) ((d0).2.2)).getD i z_PCredit).Sent))))) with h108 | h108
    ·refine ct (congrArg not h108) ?_
     refine sr ?_
     refine aw (vb false) ?_
     refine wl_nil <| wq_then <| wc_ret <| wq_blk_ret <| wq_then_ret <| wq_then_ret <| wq_blk_ret <| wq_then_ret ?_
     refine rt (vb false) ?_
     have hF111 : gnLaw x_code d0 = false := by first | (have hxy := gn_eq hi1 (by omega) (by omega); simp only [gnLaw, gnE, gnC, hxy, h8, h68, h76, h108, cond_true, cond_false]; done) | (have hxy := gn_ne (x := F_impl_Gain d0.1 d0.2.1 d0.2.2) (y := F_spec_Gain d0.1 d0.2.1 d0.2.2) i h108 (fun hq => by rw [hq]; simp); unfold gnLaw; rw [hxy]; simp only [h8, h68, h76, h108, cond_true, cond_false])
     exact ⟨d0, m103.keep0, q13, by rw [hF111]⟩
    refine cf (congrArg not h108) ?_
    refine wc_skip <| wq_blk_normal <| wq_then <| wc_region ?_
    refine mw (vi ((i : Nat) : Int)) ?_
    refine ar (((i : Nat) : Int) + 1) wN ?_
    refine aw (vi (((i : Nat) : Int) + 1)) ?_
    refine wl_nil ?_
    refine wq_loopP (w0 := w11) [(3, (vs a14 ((d0).1).length c15)), (4, (vp g21 0)), (5, (vi ((d0).2.2))), (6, (vs a33 (F_impl_Gain ((d0).1) ((d0).2.1) ((d0).2.2)).length c34)), (7, (vp g46 0)), (8, (vs a59 (F_spec_Gain ((d0).1) ((d0).2.1) ((d0).2.2)).length c60)), (9, (vi (((i + 1) : Nat) : Int)))] ?_ ?_ ?_
    · exact ⟨rfl, rfl, rfl, rfl, rfl, rfl, (congrArg (Value.int .i64) (show ((((i : Nat) : Int) + 1) : Int) = (((i + 1) : Nat) : Int) by omega)), trivial⟩
    · exact fun u => ⟨(i + 1), u, rfl, m103, (((Ch.refl (fun k => w10.heap.size ≤ k) w10).ext k72 (fun k hk => hk)).extk k102), (by omega), (by first | rfl | exact gn_next hi1 (by omega) (by omega) h108 cr_ext)⟩
    · show ((F_impl_Gain d0.1 d0.2.1 d0.2.2).length : Int).toNat - ((((i + 1) : Nat) : Int)).toNat < ((F_impl_Gain d0.1 d0.2.1 d0.2.2).length : Int).toNat - (((i : Nat) : Int)).toNat; omega
  have q112 := of_decide_eq_false h76
  refine cf h76 ?_
  refine wc_exit <| wq_then_exit <| wq_then_exit <| wq_blk_exit <| wq_then <| wc_seq <| sr ?_
  refine mw (vs a14 ((d0).1).length c15) ?_
  have o113 := (own_ch (own_kp o57 k58) k72 (fun g hg hlt hk => by have h1 := (own_lt o16 g hg).2; have h2 : w2.heap.size ≤ w10.heap.size := (z8 k24 k27 k32 k41 k44 k49 k52 k58); have h3 : w10.heap.size ≤ g := hk; omega))
  refine cl wN (C_impl_CreditsOk w11 _ ((d0).1) (mR_24 (Rd.of_own o113) s17)) ?_
  rintro _ w12 ⟨k114, rfl⟩
  have m115 := m71.extk k114
  refine pu (vb (!(iCr ((d0).1)))) wN ?_
  refine n2 ?_
  rcases bf (iCr ((d0).1)) with h116 | h116
  ·refine ct (congrArg not h116) ?_
   refine sr ?_
   refine mw (vs a33 (F_impl_Gain ((d0).1) ((d0).2.1) ((d0).2.2)).length c34) ?_
   have o2065 := (own_kp o75 k114)
   refine ln wN slTy_24 (Rd.of_own o2065) ?_
   refine mw (vs a14 ((d0).1).length c15) ?_
   have o2066 := (own_kp o113 k114)
   refine ln wN slTy_24 (Rd.of_own o2066) ?_
   refine pu (vb (decide (((F_impl_Gain ((d0).1) ((d0).2.1) ((d0).2.2)).length : Int) = (((d0).1).length : Int)))) wN ?_
   refine aw (vb (decide (((F_impl_Gain ((d0).1) ((d0).2.1) ((d0).2.2)).length : Int) = (((d0).1).length : Int)))) ?_
   refine n1 ?_
   refine rt (vb (decide (((F_impl_Gain ((d0).1) ((d0).2.1) ((d0).2.2)).length : Int) = (((d0).1).length : Int)))) ?_
   have hF2067 : gnLaw x_code d0 = decide (((F_impl_Gain ((d0).1) ((d0).2.1) ((d0).2.2)).length : Int) = (((d0).1).length : Int)) := by first | (have hxy := gn_eq hi1 (by omega) (by omega); simp only [gnLaw, gnE, gnC, hxy, h8, h68, h76, h116, cond_true, cond_false]; done) | (have hxy := gn_ne (x := F_impl_Gain d0.1 d0.2.1 d0.2.2) (y := F_spec_Gain d0.1 d0.2.1 d0.2.2) i h116 (fun hq => by rw [hq]; simp); unfold gnLaw; rw [hxy]; simp only [h8, h68, h76, h116, cond_true, cond_false])
   exact ⟨d0, m115.keep0, q13, by rw [hF2067]⟩
  have q117 := iCr_t h116
  refine cf (congrArg not h116) ?_
  refine wc_skip <| wq_then <| wc_seq ?_
  refine wc_drawT ([(59, [], [], (fun _ v _ => v = (vs a33 (F_impl_Gain ((d0).1) ((d0).2.1) ((d0).2.2)).length c34))), (60, [], [], (fun _ v _ => v = (va (L_26 ((d0).2.1))))), (61, [], [0, 1], (fun _ v w => v = .int .i64 (F_impl_RoomFor (F_impl_Gain ((d0).1) ((d0).2.1) ((d0).2.2)) ((d0).2.1)))), (62, [], [], (fun _ v _ => v = (vs a14 ((d0).1).length c15))), (63, [], [], (fun _ v _ => v = (va (L_26 ((d0).2.1)))))] : GV) (fun _ w' => Keep w12 w') [] mixed rfl (by kernel_rfl) (by kernel_rfl) ?_ (fun _ _ h => h) (fun _ _ _ _ h _ k => h.trans k) trivial ?_ ?_ ?_
  ·exact ⟨hV, hE, ⟨hV, hE, ⟨hV, hE, ⟨hV, hE, ⟨hV, hE, trivial⟩⟩⟩⟩⟩
  ·exact trivial
  ·refine ⟨?_, ⟨?_, ⟨?_, ⟨?_, ⟨?_, trivial⟩⟩⟩⟩⟩
   ·intro _ w13 k129 _
    rintro _ _ _ _ _
    show WL _ _ _ _ _ _ _
    refine mw (vs a33 (F_impl_Gain ((d0).1) ((d0).2.1) ((d0).2.2)).length c34) ?_
    exact f1
   ·intro _ w13 k131 _
    rintro _ _ _ _ _
    show WL _ _ _ _ _ _ _
    have b133 := ((((b56.kp k58).ch k72 (Nat.not_le.2 (Nat.lt_of_lt_of_le p23 (z7 k27 k32 k41 k44 k49 k52 k58)))).kp k114).kp k131)
    refine lN (L_26 ((d0).2.1)) wN isAgg_26 sizeOf_26 b133 ?_
    exact f1
   ·intro _ w13 k134 _
    rintro _ rfl _ rfl _ _ _
    show WL _ _ _ _ _ _ _
    have o137 := (own_kp (own_kp o75 k114) k134)
    refine cl wN (C_impl_RoomFor w13 _ (F_impl_Gain ((d0).1) ((d0).2.1) ((d0).2.2)) (mR_24 (Rd.of_own o137) s36) _ ((d0).2.1) (mR_26)) ?_
    rintro _ w14 ⟨k138, rfl⟩
    have q140 := iRoom_b (F_impl_Gain ((d0).1) ((d0).2.1) ((d0).2.2)) ((d0).2.1)
    exact wl_finT k138 rfl
   ·intro _ w13 k141 _
    rintro _ _ _ _ _
    show WL _ _ _ _ _ _ _
    refine mw (vs a14 ((d0).1).length c15) ?_
    exact f1
   ·intro _ w13 k143 _
    rintro _ _ _ _ _
    show WL _ _ _ _ _ _ _
    have b145 := ((((b56.kp k58).ch k72 (Nat.not_le.2 (Nat.lt_of_lt_of_le p23 (z7 k27 k32 k41 k44 k49 k52 k58)))).kp k114).kp k143)
    refine lN (L_26 ((d0).2.1)) wN isAgg_26 sizeOf_26 b145 ?_
    exact f1
  ·intro _ w13 k146
   rintro _ rfl _ rfl _ rfl
   have q149 := iRoom_b (F_impl_Gain ((d0).1) ((d0).2.1) ((d0).2.2)) ((d0).2.1)
   rintro _ rfl _ rfl
   show WL _ _ _ _ _ _ _
   have o151 := (own_kp (own_kp o113 k114) k146)
   refine cl wN (C_impl_RoomFor w13 _ ((d0).1) (mR_24 (Rd.of_own o151) s17) _ ((d0).2.1) (mR_26)) ?_
   rintro _ w14 ⟨k152, rfl⟩
   have m153 := (m115.extk k146).extk k152
   have q154 := iRoom_b ((d0).1) ((d0).2.1)
   refine ar ((F_impl_RoomFor (F_impl_Gain ((d0).1) ((d0).2.1) ((d0).2.2)) ((d0).2.1)) - (F_impl_RoomFor ((d0).1) ((d0).2.1))) wN ?_
   refine aw (vi ((F_impl_RoomFor (F_impl_Gain ((d0).1) ((d0).2.1) ((d0).2.2)) ((d0).2.1)) - (F_impl_RoomFor ((d0).1) ((d0).2.1)))) ?_
   refine wl_nil <| wq_then <| wc_seq ?_
   rcases bf (iCr (F_impl_Gain ((d0).1) ((d0).2.1) ((d0).2.2))) with h158 | h158
   ·refine wc_drawT ([(66, [], [], (fun _ v _ => v = (vs a33 (F_impl_Gain ((d0).1) ((d0).2.1) ((d0).2.2)).length c34))), (67, [], [0], (fun _ v w => v = .bool (iCr (F_impl_Gain ((d0).1) ((d0).2.1) ((d0).2.2))))), (68, [], [0, 1], (fun _ v _ => v = (vb (iCr (F_impl_Gain ((d0).1) ((d0).2.1) ((d0).2.2)))))), (69, [], [0, 1, 2], (fun _ v _ => v = U)), (70, [], [0, 1, 2], (fun _ v _ => v = U)), (71, [], [0, 1, 2, 3, 4], (fun _ v _ => v = U)), (72, [], [0, 1, 2, 3, 4, 5], (fun _ v _ => v = U)), (73, [], [0, 1, 2, 3, 4, 5, 6], (fun _ v _ => v = U)), (74, [], [0, 1, 2, 3, 4, 5, 6], (fun _ v _ => v = U)), (75, [], [0, 1, 2, 3, 4, 5, 6, 7, 8], (fun _ v _ => v = U)), (76, [], [0, 1, 2, 3, 4, 5, 6], (fun _ v _ => v = U)), (77, [], [0, 1, 2, 3, 4, 5, 6], (fun _ v _ => v = U)), (78, [], [0, 1, 2, 3, 4, 5, 6, 7, 8, 9, 10, 11], (fun _ v _ => v = U)), (79, [], [0, 1, 2, 3, 4, 5, 6, 7, 8, 9, 10, 11, 12], (fun _ v _ => v = U)), (80, [], [0, 1, 2, 3, 4, 5, 6, 7, 8, 9, 10, 11, 12, 13], (fun _ v _ => v = U)), (81, [], [0, 1, 2, 3, 4, 5, 6, 7, 8, 9, 10, 11, 12, 13, 14], (fun _ v _ => v = (vb false))), (82, [], [0, 1, 2, 3, 4, 5, 6, 7, 8, 9, 10, 11, 12, 13, 14, 15], (fun _ v _ => v = (vb false))), (83, [], [0, 1, 2, 3, 4, 5, 6, 7, 8, 9, 10, 11, 12, 13, 14, 15, 16], (fun _ v _ => v = U)), (84, [], [0, 1, 2, 3, 4, 5, 6, 7, 8, 9, 10, 11, 12, 13, 14, 15, 16, 17], (fun _ v _ => v = U)), (85, [], [0, 1, 2, 3, 4, 5, 6, 7, 8, 9, 10, 11, 12, 13, 14, 15, 16, 17, 18], (fun _ v _ => v = (vb false))), (86, [], [0, 1, 2, 3, 4, 5, 6, 7, 8, 9, 10, 11, 12, 13, 14, 15, 16, 17, 18, 19], (fun _ v _ => v = (vb false))), (87, [], [0, 1, 2, 3, 4, 5, 6, 7, 8, 9, 10, 11, 12, 13, 14, 15, 16, 17, 18, 19, 20], (fun _ v _ => v = U)), (88, [], [0, 1, 2, 3, 4, 5, 6, 7, 8, 9, 10, 11, 12, 13, 14, 15, 16, 17, 18, 19, 20, 21], (fun _ v _ => v = U)), (89, [], [0, 1, 2, 3, 4, 5, 6, 7, 8, 9, 10, 11, 12, 13, 14, 15, 16, 17, 18, 19, 20, 21, 22], (fun _ v _ => v = U)), (90, [], [0, 1, 2, 3, 4, 5, 6, 7, 8, 9, 10, 11, 12, 13, 14, 15, 16, 17, 18, 19, 20, 21, 22, 23], (fun _ v _ => v = (vb false))), (91, [], [0, 1, 2, 3, 4, 5, 6, 7, 8, 9, 10, 11, 12, 13, 14, 15, 16, 17, 18, 19, 20, 21, 22, 23, 24], (fun _ v _ => v = (vb false))), (92, [], [0, 1, 2, 3, 4, 5, 6, 7, 8, 9, 10, 11, 12, 13, 14, 15, 16, 17, 18, 19, 20, 21, 22, 23, 24, 25], (fun _ v _ => v = U)), (93, [], [0, 1, 2, 3, 4, 5, 6, 7, 8, 9, 10, 11, 12, 13, 14, 15, 16, 17, 18, 19, 20, 21, 22, 23, 24, 25, 26], (fun _ v _ => v = U)), (94, [], [0, 1, 2, 3, 4, 5, 6, 7, 8, 9, 10, 11, 12, 13, 14, 15, 16, 17, 18, 19, 20, 21, 22, 23, 24, 25, 26, 27], (fun _ v _ => v = U)), (95, [], [0, 1, 2, 3, 4, 5, 6, 7, 8, 9, 10, 11, 12, 13, 14, 15, 16, 17, 18, 19, 20, 21, 22, 23, 24, 25, 26, 27, 28], (fun _ v _ => v = U)), (96, [], [0, 1, 2, 3, 4, 5, 6, 7, 8, 9, 10, 11, 12, 13, 14, 15, 16, 17, 18, 19, 20, 21, 22, 23, 24, 25, 26, 27, 28], (fun _ v _ => v = U)), (97, [], [0, 1, 2, 3, 4, 5, 6, 7, 8, 9, 10, 11, 12, 13, 14, 15, 16, 17, 18, 19, 20, 21, 22, 23, 24, 25, 26, 27, 28, 30], (fun _ v _ => v = U))] : GV) (fun _ w' => Keep w14 w') [] mixed rfl (by kernel_rfl) (by kernel_rfl) ?_ (fun _ _ h => h) (fun _ _ _ _ h _ k => h.trans k) trivial ?_ ?_ ?_
    ·exact ⟨hV, hE, ⟨hV, hE, ⟨hV, hE, ⟨hV, hE, ⟨hV, hE, ⟨hV, hE, ⟨hV, hE, ⟨hV, hE, ⟨hV, hE, ⟨hV, hE, ⟨hV, hE, ⟨hV, hE, ⟨hV, hE, ⟨hV, hE, ⟨hV, hE, ⟨hV, hE, ⟨hV, hE, ⟨hV, hE, ⟨hV, hE, ⟨hV, hE, ⟨hV, hE, ⟨hV, hE, ⟨hV, hE, ⟨hV, hE, ⟨hV, hE, ⟨hV, hE, ⟨hV, hE, ⟨hV, hE, ⟨hV, hE, ⟨hV, hE, ⟨hV, hE, ⟨hV, hE, trivial⟩⟩⟩⟩⟩⟩⟩⟩⟩⟩⟩⟩⟩⟩⟩⟩⟩⟩⟩⟩⟩⟩⟩⟩⟩⟩⟩⟩⟩⟩⟩⟩
    ·exact trivial
    ·refine ⟨?_, ⟨?_, ⟨?_, ⟨?_, ⟨?_, ⟨?_, ⟨?_, ⟨?_, ⟨?_, ⟨?_, ⟨?_, ⟨?_, ⟨?_, ⟨?_, ⟨?_, ⟨?_, ⟨?_, ⟨?_, ⟨?_, ⟨?_, ⟨?_, ⟨?_, ⟨?_, ⟨?_, ⟨?_, ⟨?_, ⟨?_, ⟨?_, ⟨?_, ⟨?_, ⟨?_, ⟨?_, trivial⟩⟩⟩⟩⟩⟩⟩⟩⟩⟩⟩⟩⟩⟩⟩⟩⟩⟩⟩⟩⟩⟩⟩⟩⟩⟩⟩⟩⟩⟩⟩⟩
     ·intro _ w15 k1994 _
      rintro _ _ _ _ _ _ _ _ _ _ _ _ _ _ _ _ _ _ _ _ _ _ _ _ _ _ _ _ _ _ _ _
      show WL _ _ _ _ _ _ _
      refine mw (vs a33 (F_impl_Gain ((d0).1) ((d0).2.1) ((d0).2.2)).length c34) ?_
      exact f1
     ·intro _ w15 k1996 _
      rintro _ rfl _ _ _ _ _ _ _ _ _ _ _ _ _ _ _ _ _ _ _ _ _ _ _ _ _ _ _ _ _ _ _
      show WL _ _ _ _ _ _ _
      have o1998 := (own_kp (own_kp (own_kp (own_kp o75 k114) k146) k152) k1996)
      refine cl wN (C_impl_CreditsOk w15 _ (F_impl_Gain ((d0).1) ((d0).2.1) ((d0).2.2)) (mR_24 (Rd.of_own o1998) s36)) ?_
      rintro _ w16 ⟨k1999, rfl⟩
      exact wl_finT k1999 rfl
     ·intro _ w15 k2001 _
      rintro _ rfl _ rfl _ _ _ _ _ _ _ _ _ _ _ _ _ _ _ _ _ _ _ _ _ _ _ _ _ _ _ _ _ _
      show WL _ _ _ _ _ _ _
      refine mw (vb (iCr (F_impl_Gain ((d0).1) ((d0).2.1) ((d0).2.2)))) ?_
      exact f1
     ·intro _ w15 k2003 _
      rintro _ rfl _ rfl _ rfl _ _ _ _ _ _ _ _ _ _ _ _ _ _ _ _ _ _ _ _ _ _ _ _ _ _ _ _ _
      show WL _ _ _ _ _ _ _
      refine sk h158 ?_
      exact f1
     ·intro _ w15 k2005 _
      rintro _ rfl _ rfl _ rfl _ _ _ _ _ _ _ _ _ _ _ _ _ _ _ _ _ _ _ _ _ _ _ _ _ _ _ _ _
      show WL _ _ _ _ _ _ _
      refine sk h158 ?_
      exact f1
     ·intro _ w15 k2007 _
      rintro _ rfl _ rfl _ rfl _ rfl _ rfl _ _ _ _ _ _ _ _ _ _ _ _ _ _ _ _ _ _ _ _ _ _ _ _ _ _ _
      show WL _ _ _ _ _ _ _
      refine sk h158 ?_
      exact f1
     ·intro _ w15 k2009 _
      rintro _ rfl _ rfl _ rfl _ rfl _ rfl _ rfl _ _ _ _ _ _ _ _ _ _ _ _ _ _ _ _ _ _ _ _ _ _ _ _ _ _
      show WL _ _ _ _ _ _ _
      refine sk h158 ?_
      exact f1
     ·intro _ w15 k2011 _
      rintro _ rfl _ rfl _ rfl _ rfl _ rfl _ rfl _ rfl _ _ _ _ _ _ _ _ _ _ _ _ _ _ _ _ _ _ _ _ _ _ _ _ _
      show WL _ _ _ _ _ _ _
      refine su ?_
      exact f1
     ·intro _ w15 k2013 _
      rintro _ rfl _ rfl _ rfl _ rfl _ rfl _ rfl _ rfl _ _ _ _ _ _ _ _ _ _ _ _ _ _ _ _ _ _ _ _ _ _ _ _ _
      show WL _ _ _ _ _ _ _
      refine su ?_
      exact f1
     ·intro _ w15 k2015 _
      rintro _ rfl _ rfl _ rfl _ rfl _ rfl _ rfl _ rfl _ rfl _ rfl _ _ _ _ _ _ _ _ _ _ _ _ _ _ _ _ _ _ _ _ _ _ _
      show WL _ _ _ _ _ _ _
      refine su ?_
      exact f1
     ·intro _ w15 k2017 _
      rintro _ rfl _ rfl _ rfl _ rfl _ rfl _ rfl _ rfl _ _ _ _ _ _ _ _ _ _ _ _ _ _ _ _ _ _ _ _ _ _ _ _ _
      show WL _ _ _ _ _ _ _
      refine su ?_
      exact f1
     ·intro _ w15 k2019 _
      rintro _ rfl _ rfl _ rfl _ rfl _ rfl _ rfl _ rfl _ _ _ _ _ _ _ _ _ _ _ _ _ _ _ _ _ _ _ _ _ _ _ _ _
      show WL _ _ _ _ _ _ _
      refine su ?_
      exact f1
     ·intro _ w15 k2021 _
      rintro _ rfl _ rfl _ rfl _ rfl _ rfl _ rfl _ rfl _ rfl _ rfl _ rfl _ rfl _ rfl _ _ _ _ _ _ _ _ _ _ _ _ _ _ _ _ _ _ _ _
      show WL _ _ _ _ _ _ _
      refine su ?_
      exact f1
     ·intro _ w15 k2023 _
      rintro _ rfl _ rfl _ rfl _ rfl _ rfl _ rfl _ rfl _ rfl _ rfl _ rfl _ rfl _ rfl _ rfl _ _ _ _ _ _ _ _ _ _ _ _ _ _ _ _ _ _ _
      show WL _ _ _ _ _ _ _
      refine su ?_
      exact f1
     ·intro _ w15 k2025 _
      rintro _ rfl _ rfl _ rfl _ rfl _ rfl _ rfl _ rfl _ rfl _ rfl _ rfl _ rfl _ rfl _ rfl _ rfl _ _ _ _ _ _ _ _ _ _ _ _ _ _ _ _ _ _
      show WL _ _ _ _ _ _ _
      refine sk h158 ?_
      exact f1
     ·intro _ w15 k2027 _
      rintro _ rfl _ rfl _ rfl _ rfl _ rfl _ rfl _ rfl _ rfl _ rfl _ rfl _ rfl _ rfl _ rfl _ rfl _ rfl _ _ _ _ _ _ _ _ _ _ _ _ _ _ _ _ _
      show WL _ _ _ _ _ _ _
      refine pf (vb false) wN h158 ?_
      exact f1
     ·intro _ w15 k2029 _
      rintro _ rfl _ rfl _ rfl _ rfl _ rfl _ rfl _ rfl _ rfl _ rfl _ rfl _ rfl _ rfl _ rfl _ rfl _ rfl _ rfl _ _ _ _ _ _ _ _ _ _ _ _ _ _ _ _
      show WL _ _ _ _ _ _ _
      refine mw (vb false) ?_
      exact f1
     ·intro _ w15 k2031 _
      rintro _ rfl _ rfl _ rfl _ rfl _ rfl _ rfl _ rfl _ rfl _ rfl _ rfl _ rfl _ rfl _ rfl _ rfl _ rfl _ rfl _ rfl _ _ _ _ _ _ _ _ _ _ _ _ _ _ _
      show WL _ _ _ _ _ _ _
      refine sk F1 ?_
      exact f1
     ·intro _ w15 k2033 _
      rintro _ rfl _ rfl _ rfl _ rfl _ rfl _ rfl _ rfl _ rfl _ rfl _ rfl _ rfl _ rfl _ rfl _ rfl _ rfl _ rfl _ rfl _ rfl _ _ _ _ _ _ _ _ _ _ _ _ _ _
      show WL _ _ _ _ _ _ _
      refine sk F1 ?_
      exact f1
     ·intro _ w15 k2035 _
      rintro _ rfl _ rfl _ rfl _ rfl _ rfl _ rfl _ rfl _ rfl _ rfl _ rfl _ rfl _ rfl _ rfl _ rfl _ rfl _ rfl _ rfl _ rfl _ rfl _ _ _ _ _ _ _ _ _ _ _ _ _
      show WL _ _ _ _ _ _ _
      refine pf (vb false) wN (Eq.refl false) ?_
      exact f1
     ·intro _ w15 k2037 _
      rintro _ rfl _ rfl _ rfl _ rfl _ rfl _ rfl _ rfl _ rfl _ rfl _ rfl _ rfl _ rfl _ rfl _ rfl _ rfl _ rfl _ rfl _ rfl _ rfl _ rfl _ _ _ _ _ _ _ _ _ _ _ _
      show WL _ _ _ _ _ _ _
      refine mw (vb false) ?_
      exact f1
     ·intro _ w15 k2039 _
      rintro _ rfl _ rfl _ rfl _ rfl _ rfl _ rfl _ rfl _ rfl _ rfl _ rfl _ rfl _ rfl _ rfl _ rfl _ rfl _ rfl _ rfl _ rfl _ rfl _ rfl _ rfl _ _ _ _ _ _ _ _ _ _ _
      show WL _ _ _ _ _ _ _
      refine sk F1 ?_
      exact f1
     ·intro _ w15 k2041 _
      rintro _ rfl _ rfl _ rfl _ rfl _ rfl _ rfl _ rfl _ rfl _ rfl _ rfl _ rfl _ rfl _ rfl _ rfl _ rfl _ rfl _ rfl _ rfl _ rfl _ rfl _ rfl _ rfl _ _ _ _ _ _ _ _ _ _
      show WL _ _ _ _ _ _ _
      refine sk F1 ?_
      exact f1
     ·intro _ w15 k2043 _
      rintro _ rfl _ rfl _ rfl _ rfl _ rfl _ rfl _ rfl _ rfl _ rfl _ rfl _ rfl _ rfl _ rfl _ rfl _ rfl _ rfl _ rfl _ rfl _ rfl _ rfl _ rfl _ rfl _ rfl _ _ _ _ _ _ _ _ _
      show WL _ _ _ _ _ _ _
      refine sk F1 ?_
      exact f1
     ·intro _ w15 k2045 _
      rintro _ rfl _ rfl _ rfl _ rfl _ rfl _ rfl _ rfl _ rfl _ rfl _ rfl _ rfl _ rfl _ rfl _ rfl _ rfl _ rfl _ rfl _ rfl _ rfl _ rfl _ rfl _ rfl _ rfl _ rfl _ _ _ _ _ _ _ _
      show WL _ _ _ _ _ _ _
      refine pf (vb false) wN (Eq.refl false) ?_
      exact f1
     ·intro _ w15 k2047 _
      rintro _ rfl _ rfl _ rfl _ rfl _ rfl _ rfl _ rfl _ rfl _ rfl _ rfl _ rfl _ rfl _ rfl _ rfl _ rfl _ rfl _ rfl _ rfl _ rfl _ rfl _ rfl _ rfl _ rfl _ rfl _ rfl _ _ _ _ _ _ _
      show WL _ _ _ _ _ _ _
      refine mw (vb false) ?_
      exact f1
     ·intro _ w15 k2049 _
      rintro _ rfl _ rfl _ rfl _ rfl _ rfl _ rfl _ rfl _ rfl _ rfl _ rfl _ rfl _ rfl _ rfl _ rfl _ rfl _ rfl _ rfl _ rfl _ rfl _ rfl _ rfl _ rfl _ rfl _ rfl _ rfl _ rfl _ _ _ _ _ _
      show WL _ _ _ _ _ _ _
      refine sk F1 ?_
      exact f1
     ·intro _ w15 k2051 _
      rintro _ rfl _ rfl _ rfl _ rfl _ rfl _ rfl _ rfl _ rfl _ rfl _ rfl _ rfl _ rfl _ rfl _ rfl _ rfl _ rfl _ rfl _ rfl _ rfl _ rfl _ rfl _ rfl _ rfl _ rfl _ rfl _ rfl _ rfl _ _ _ _ _
      show WL _ _ _ _ _ _ _
      refine sk F1 ?_
      exact f1
     ·intro _ w15 k2053 _
      rintro _ rfl _ rfl _ rfl _ rfl _ rfl _ rfl _ rfl _ rfl _ rfl _ rfl _ rfl _ rfl _ rfl _ rfl _ rfl _ rfl _ rfl _ rfl _ rfl _ rfl _ rfl _ rfl _ rfl _ rfl _ rfl _ rfl _ rfl _ rfl _ _ _ _
      show WL _ _ _ _ _ _ _
      refine sk F1 ?_
      exact f1
     ·intro _ w15 k2055 _
      rintro _ rfl _ rfl _ rfl _ rfl _ rfl _ rfl _ rfl _ rfl _ rfl _ rfl _ rfl _ rfl _ rfl _ rfl _ rfl _ rfl _ rfl _ rfl _ rfl _ rfl _ rfl _ rfl _ rfl _ rfl _ rfl _ rfl _ rfl _ rfl _ rfl _ _ _
      show WL _ _ _ _ _ _ _
      refine su ?_
      exact f1
     ·intro _ w15 k2057 _
      rintro _ rfl _ rfl _ rfl _ rfl _ rfl _ rfl _ rfl _ rfl _ rfl _ rfl _ rfl _ rfl _ rfl _ rfl _ rfl _ rfl _ rfl _ rfl _ rfl _ rfl _ rfl _ rfl _ rfl _ rfl _ rfl _ rfl _ rfl _ rfl _ rfl _ _ _
      show WL _ _ _ _ _ _ _
      refine su ?_
      exact f1
     ·intro _ w15 k2059 _
      rintro _ rfl _ rfl _ rfl _ rfl _ rfl _ rfl _ rfl _ rfl _ rfl _ rfl _ rfl _ rfl _ rfl _ rfl _ rfl _ rfl _ rfl _ rfl _ rfl _ rfl _ rfl _ rfl _ rfl _ rfl _ rfl _ rfl _ rfl _ rfl _ rfl _ _ rfl _
      show WL _ _ _ _ _ _ _
      refine su ?_
      exact f1
    ·intro _ w15 k2061
     have m2062 := m153.extk k2061
     rintro _ rfl _ rfl _ rfl _ rfl _ rfl _ rfl _ rfl _ rfl _ rfl _ rfl _ rfl _ rfl _ rfl _ rfl _ rfl _ rfl _ rfl _ rfl _ rfl _ rfl _ rfl _ rfl _ rfl _ rfl _ rfl _ rfl _ rfl _ rfl _ rfl _ rfl _ rfl _ rfl
     show WL _ _ _ _ _ _ _
     refine su ?_
     refine sk F1 ?_
     refine pf (vb false) wN (Eq.refl false) ?_
     refine aw (vb false) ?_
     refine n3 ?_
     refine rt (vb false) ?_
     have hF2063 : gnLaw x_code d0 = false := by first | (have hxy := gn_eq hi1 (by omega) (by omega); simp only [gnLaw, gnE, gnC, hxy, h8, h68, h76, h116, h158, cond_true, cond_false]; done) | (have hxy := gn_ne (x := F_impl_Gain d0.1 d0.2.1 d0.2.2) (y := F_spec_Gain d0.1 d0.2.1 d0.2.2) i h158 (fun hq => by rw [hq]; simp); unfold gnLaw; rw [hxy]; simp only [h8, h68, h76, h116, h158, cond_true, cond_false])
     exact ⟨d0, m2062.keep0, q13, by rw [hF2063]⟩
   have q159 := iCr_t h158
   rcases bt (decide ((((d0).2.1).Host) = ((F_impl_Near ((F_laws_at x_code 2) % 12)).Host)) && decide ((((d0).2.1).Port) = ((F_impl_Near ((F_laws_at x_code 2) % 12)).Port))) with h165 | h165
   ·rcases bf (decide (0 ≤ ((F_impl_RoomFor (F_impl_Gain ((d0).1) ((d0).2.1) ((d0).2.2)) ((d0).2.1)) - (F_impl_RoomFor ((d0).1) ((d0).2.1))))) with h172 | h172
    ·have q595 := of_decide_eq_false h172
     refine wc_drawT ([(66, [], [], (fun _ v _ => v = (vs a33 (F_impl_Gain ((d0).1) ((d0).2.1) ((d0).2.2)).length c34))), (67, [], [0], (fun _ v w => v = .bool (iCr (F_impl_Gain ((d0).1) ((d0).2.1) ((d0).2.2))))), (68, [], [0, 1], (fun _ v _ => v = (vb (iCr (F_impl_Gain ((d0).1) ((d0).2.1) ((d0).2.2)))))), (69, [], [0, 1, 2], (fun _ v _ => v = (va (L_26 ((d0).2.1))))), (70, [], [0, 1, 2], (fun _ v _ => v = (va (L_26 (F_impl_Near ((F_laws_at x_code 2) % 12)))))), (71, [], [0, 1, 2, 3, 4], (fun _ v _ => v = (vb (decide ((((d0).2.1).Host) = ((F_impl_Near ((F_laws_at x_code 2) % 12)).Host)) && decide ((((d0).2.1).Port) = ((F_impl_Near ((F_laws_at x_code 2) % 12)).Port)))))), (72, [], [0, 1, 2, 3, 4, 5], (fun _ v _ => v = (vb (decide ((((d0).2.1).Host) = ((F_impl_Near ((F_laws_at x_code 2) % 12)).Host)) && decide ((((d0).2.1).Port) = ((F_impl_Near ((F_laws_at x_code 2) % 12)).Port)))))), (73, [], [0, 1, 2, 3, 4, 5, 6], (fun _ v _ => v = U)), (74, [], [0, 1, 2, 3, 4, 5, 6], (fun _ v _ => v = U)), (75, [], [0, 1, 2, 3, 4, 5, 6, 7, 8], (fun _ v _ => v = U)), (76, [], [0, 1, 2, 3, 4, 5, 6], (fun _ v _ => v = U)), (77, [], [0, 1, 2, 3, 4, 5, 6], (fun _ v _ => v = U)), (78, [], [0, 1, 2, 3, 4, 5, 6, 7, 8, 9, 10, 11], (fun _ v _ => v = U)), (79, [], [0, 1, 2, 3, 4, 5, 6, 7, 8, 9, 10, 11, 12], (fun _ v _ => v = U)), (80, [], [0, 1, 2, 3, 4, 5, 6, 7, 8, 9, 10, 11, 12, 13], (fun _ v _ => v = (vb true))), (81, [], [0, 1, 2, 3, 4, 5, 6, 7, 8, 9, 10, 11, 12, 13, 14], (fun _ v _ => v = (vb true))), (82, [], [0, 1, 2, 3, 4, 5, 6, 7, 8, 9, 10, 11, 12, 13, 14, 15], (fun _ v _ => v = (vb true))), (83, [], [0, 1, 2, 3, 4, 5, 6, 7, 8, 9, 10, 11, 12, 13, 14, 15, 16], (fun _ v _ => v = (vi ((F_impl_RoomFor (F_impl_Gain ((d0).1) ((d0).2.1) ((d0).2.2)) ((d0).2.1)) - (F_impl_RoomFor ((d0).1) ((d0).2.1)))))), (84, [], [0, 1, 2, 3, 4, 5, 6, 7, 8, 9, 10, 11, 12, 13, 14, 15, 16, 17], (fun _ v _ => v = (vb (decide (0 ≤ ((F_impl_RoomFor (F_impl_Gain ((d0).1) ((d0).2.1) ((d0).2.2)) ((d0).2.1)) - (F_impl_RoomFor ((d0).1) ((d0).2.1)))))))), (85, [], [0, 1, 2, 3, 4, 5, 6, 7, 8, 9, 10, 11, 12, 13, 14, 15, 16, 17, 18], (fun _ v _ => v = (vb (decide (0 ≤ ((F_impl_RoomFor (F_impl_Gain ((d0).1) ((d0).2.1) ((d0).2.2)) ((d0).2.1)) - (F_impl_RoomFor ((d0).1) ((d0).2.1)))))))), (86, [], [0, 1, 2, 3, 4, 5, 6, 7, 8, 9, 10, 11, 12, 13, 14, 15, 16, 17, 18, 19], (fun _ v _ => v = (vb (decide (0 ≤ ((F_impl_RoomFor (F_impl_Gain ((d0).1) ((d0).2.1) ((d0).2.2)) ((d0).2.1)) - (F_impl_RoomFor ((d0).1) ((d0).2.1)))))))), (87, [], [0, 1, 2, 3, 4, 5, 6, 7, 8, 9, 10, 11, 12, 13, 14, 15, 16, 17, 18, 19, 20], (fun _ v _ => v = U)), (88, [], [0, 1, 2, 3, 4, 5, 6, 7, 8, 9, 10, 11, 12, 13, 14, 15, 16, 17, 18, 19, 20, 21], (fun _ v _ => v = U)), (89, [], [0, 1, 2, 3, 4, 5, 6, 7, 8, 9, 10, 11, 12, 13, 14, 15, 16, 17, 18, 19, 20, 21, 22], (fun _ v _ => v = U)), (90, [], [0, 1, 2, 3, 4, 5, 6, 7, 8, 9, 10, 11, 12, 13, 14, 15, 16, 17, 18, 19, 20, 21, 22, 23], (fun _ v _ => v = (vb false))), (91, [], [0, 1, 2, 3, 4, 5, 6, 7, 8, 9, 10, 11, 12, 13, 14, 15, 16, 17, 18, 19, 20, 21, 22, 23, 24], (fun _ v _ => v = (vb false))), (92, [], [0, 1, 2, 3, 4, 5, 6, 7, 8, 9, 10, 11, 12, 13, 14, 15, 16, 17, 18, 19, 20, 21, 22, 23, 24, 25], (fun _ v _ => v = U)), (93, [], [0, 1, 2, 3, 4, 5, 6, 7, 8, 9, 10, 11, 12, 13, 14, 15, 16, 17, 18, 19, 20, 21, 22, 23, 24, 25, 26], (fun _ v _ => v = U)), (94, [], [0, 1, 2, 3, 4, 5, 6, 7, 8, 9, 10, 11, 12, 13, 14, 15, 16, 17, 18, 19, 20, 21, 22, 23, 24, 25, 26, 27], (fun _ v _ => v = U)), (95, [], [0, 1, 2, 3, 4, 5, 6, 7, 8, 9, 10, 11, 12, 13, 14, 15, 16, 17, 18, 19, 20, 21, 22, 23, 24, 25, 26, 27, 28], (fun _ v _ => v = U)), (96, [], [0, 1, 2, 3, 4, 5, 6, 7, 8, 9, 10, 11, 12, 13, 14, 15, 16, 17, 18, 19, 20, 21, 22, 23, 24, 25, 26, 27, 28], (fun _ v _ => v = U)), (97, [], [0, 1, 2, 3, 4, 5, 6, 7, 8, 9, 10, 11, 12, 13, 14, 15, 16, 17, 18, 19, 20, 21, 22, 23, 24, 25, 26, 27, 28, 30], (fun _ v _ => v = U))] : GV) (fun _ w' => Keep w14 w') [] mixed rfl (by kernel_rfl) (by kernel_rfl) ?_ (fun _ _ h => h) (fun _ _ _ _ h _ k => h.trans k) trivial ?_ ?_ ?_
     ·exact ⟨hV, hE, ⟨hV, hE, ⟨hV, hE, ⟨hV, hE, ⟨hV, hE, ⟨hV, hE, ⟨hV, hE, ⟨hV, hE, ⟨hV, hE, ⟨hV, hE, ⟨hV, hE, ⟨hV, hE, ⟨hV, hE, ⟨hV, hE, ⟨hV, hE, ⟨hV, hE, ⟨hV, hE, ⟨hV, hE, ⟨hV, hE, ⟨hV, hE, ⟨hV, hE, ⟨hV, hE, ⟨hV, hE, ⟨hV, hE, ⟨hV, hE, ⟨hV, hE, ⟨hV, hE, ⟨hV, hE, ⟨hV, hE, ⟨hV, hE, ⟨hV, hE, ⟨hV, hE, trivial⟩⟩⟩⟩⟩⟩⟩⟩⟩⟩⟩⟩⟩⟩⟩⟩⟩⟩⟩⟩⟩⟩⟩⟩⟩⟩⟩⟩⟩⟩⟩⟩
     ·exact trivial
     ·refine ⟨?_, ⟨?_, ⟨?_, ⟨?_, ⟨?_, ⟨?_, ⟨?_, ⟨?_, ⟨?_, ⟨?_, ⟨?_, ⟨?_, ⟨?_, ⟨?_, ⟨?_, ⟨?_, ⟨?_, ⟨?_, ⟨?_, ⟨?_, ⟨?_, ⟨?_, ⟨?_, ⟨?_, ⟨?_, ⟨?_, ⟨?_, ⟨?_, ⟨?_, ⟨?_, ⟨?_, ⟨?_, trivial⟩⟩⟩⟩⟩⟩⟩⟩⟩⟩⟩⟩⟩⟩⟩⟩⟩⟩⟩⟩⟩⟩⟩⟩⟩⟩⟩⟩⟩⟩⟩⟩
      ·intro _ w15 k603 _
       rintro _ _ _ _ _ _ _ _ _ _ _ _ _ _ _ _ _ _ _ _ _ _ _ _ _ _ _ _ _ _ _ _
       show WL _ _ _ _ _ _ _
       refine mw (vs a33 (F_impl_Gain ((d0).1) ((d0).2.1) ((d0).2.2)).length c34) ?_
       exact f1
      ·intro _ w15 k605 _
       rintro _ rfl _ _ _ _ _ _ _ _ _ _ _ _ _ _ _ _ _ _ _ _ _ _ _ _ _ _ _ _ _ _ _
       show WL _ _ _ _ _ _ _
       have o607 := (own_kp (own_kp (own_kp (own_kp o75 k114) k146) k152) k605)
       refine cl wN (C_impl_CreditsOk w15 _ (F_impl_Gain ((d0).1) ((d0).2.1) ((d0).2.2)) (mR_24 (Rd.of_own o607) s36)) ?_
       rintro _ w16 ⟨k608, rfl⟩
       exact wl_finT k608 rfl
      ·intro _ w15 k610 _
       rintro _ rfl _ rfl _ _ _ _ _ _ _ _ _ _ _ _ _ _ _ _ _ _ _ _ _ _ _ _ _ _ _ _ _ _
       show WL _ _ _ _ _ _ _
       refine mw (vb (iCr (F_impl_Gain ((d0).1) ((d0).2.1) ((d0).2.2)))) ?_
       exact f1
      ·intro _ w15 k612 _
       rintro _ rfl _ rfl _ rfl _ _ _ _ _ _ _ _ _ _ _ _ _ _ _ _ _ _ _ _ _ _ _ _ _ _ _ _ _
       show WL _ _ _ _ _ _ _
       have b614 := ((((((b56.kp k58).ch k72 (Nat.not_le.2 (Nat.lt_of_lt_of_le p23 (z7 k27 k32 k41 k44 k49 k52 k58)))).kp k114).kp k146).kp k152).kp k612)
       refine lN (L_26 ((d0).2.1)) (wS h158) isAgg_26 sizeOf_26 b614 ?_
       exact f1
      ·intro _ w15 k615 _
       rintro _ rfl _ rfl _ rfl _ _ _ _ _ _ _ _ _ _ _ _ _ _ _ _ _ _ _ _ _ _ _ _ _ _ _ _ _
       show WL _ _ _ _ _ _ _
       have b617 := ((((((b53.kp k58).ch k72 (Nat.not_le.2 (Nat.lt_of_lt_of_le p48 (z2 k52 k58)))).kp k114).kp k146).kp k152).kp k615)
       refine lN (L_26 (F_impl_Near ((F_laws_at x_code 2) % 12))) (wS h158) isAgg_26 sizeOf_26 b617 ?_
       exact f1
      ·intro _ w15 k618 _
       rintro _ rfl _ rfl _ rfl _ rfl _ rfl _ _ _ _ _ _ _ _ _ _ _ _ _ _ _ _ _ _ _ _ _ _ _ _ _ _ _
       show WL _ _ _ _ _ _ _
       refine wl_aggeq ((decide ((((d0).2.1).Host) = ((F_impl_Near ((F_laws_at x_code 2) % 12)).Host)) && decide ((((d0).2.1).Port) = ((F_impl_Near ((F_laws_at x_code 2) % 12)).Port)))) (wS h158) rfl rfl rfl rfl rfl guardt_26 (aggeq_26 (((d0).2.1).Host) ((F_impl_Near ((F_laws_at x_code 2) % 12)).Host) (((d0).2.1).Port) ((F_impl_Near ((F_laws_at x_code 2) % 12)).Port) w15) ?_
       exact f1
      ·intro _ w15 k622 _
       rintro _ rfl _ rfl _ rfl _ rfl _ rfl _ rfl _ _ _ _ _ _ _ _ _ _ _ _ _ _ _ _ _ _ _ _ _ _ _ _ _ _
       show WL _ _ _ _ _ _ _
       refine mv (vb (decide ((((d0).2.1).Host) = ((F_impl_Near ((F_laws_at x_code 2) % 12)).Host)) && decide ((((d0).2.1).Port) = ((F_impl_Near ((F_laws_at x_code 2) % 12)).Port)))) (wS h158) ?_
       exact f1
      ·intro _ w15 k626 _
       rintro _ rfl _ rfl _ rfl _ rfl _ rfl _ rfl _ rfl _ _ _ _ _ _ _ _ _ _ _ _ _ _ _ _ _ _ _ _ _ _ _ _ _
       show WL _ _ _ _ _ _ _
       refine sk h165 ?_
       exact f1
      ·intro _ w15 k630 _
       rintro _ rfl _ rfl _ rfl _ rfl _ rfl _ rfl _ rfl _ _ _ _ _ _ _ _ _ _ _ _ _ _ _ _ _ _ _ _ _ _ _ _ _
       show WL _ _ _ _ _ _ _
       refine sk h165 ?_
       exact f1
      ·intro _ w15 k634 _
       rintro _ rfl _ rfl _ rfl _ rfl _ rfl _ rfl _ rfl _ rfl _ rfl _ _ _ _ _ _ _ _ _ _ _ _ _ _ _ _ _ _ _ _ _ _ _
       show WL _ _ _ _ _ _ _
       refine sk h165 ?_
       exact f1
      ·intro _ w15 k638 _
       rintro _ rfl _ rfl _ rfl _ rfl _ rfl _ rfl _ rfl _ _ _ _ _ _ _ _ _ _ _ _ _ _ _ _ _ _ _ _ _ _ _ _ _
       show WL _ _ _ _ _ _ _
       refine sk h165 ?_
       exact f1
      ·intro _ w15 k642 _
       rintro _ rfl _ rfl _ rfl _ rfl _ rfl _ rfl _ rfl _ _ _ _ _ _ _ _ _ _ _ _ _ _ _ _ _ _ _ _ _ _ _ _ _
       show WL _ _ _ _ _ _ _
       refine sk h165 ?_
       exact f1
      ·intro _ w15 k646 _
       rintro _ rfl _ rfl _ rfl _ rfl _ rfl _ rfl _ rfl _ rfl _ rfl _ rfl _ rfl _ rfl _ _ _ _ _ _ _ _ _ _ _ _ _ _ _ _ _ _ _ _
       show WL _ _ _ _ _ _ _
       refine sk h165 ?_
       exact f1
      ·intro _ w15 k650 _
       rintro _ rfl _ rfl _ rfl _ rfl _ rfl _ rfl _ rfl _ rfl _ rfl _ rfl _ rfl _ rfl _ rfl _ _ _ _ _ _ _ _ _ _ _ _ _ _ _ _ _ _ _
       show WL _ _ _ _ _ _ _
       refine sk h165 ?_
       exact f1
      ·intro _ w15 k654 _
       rintro _ rfl _ rfl _ rfl _ rfl _ rfl _ rfl _ rfl _ rfl _ rfl _ rfl _ rfl _ rfl _ rfl _ rfl _ _ _ _ _ _ _ _ _ _ _ _ _ _ _ _ _ _
       show WL _ _ _ _ _ _ _
       refine pk (vb true) (wS h158) h165 ?_
       exact f1
      ·intro _ w15 k658 _
       rintro _ rfl _ rfl _ rfl _ rfl _ rfl _ rfl _ rfl _ rfl _ rfl _ rfl _ rfl _ rfl _ rfl _ rfl _ rfl _ _ _ _ _ _ _ _ _ _ _ _ _ _ _ _ _
       show WL _ _ _ _ _ _ _
       refine pk (vb true) wN h158 ?_
       exact f1
      ·intro _ w15 k662 _
       rintro _ rfl _ rfl _ rfl _ rfl _ rfl _ rfl _ rfl _ rfl _ rfl _ rfl _ rfl _ rfl _ rfl _ rfl _ rfl _ rfl _ _ _ _ _ _ _ _ _ _ _ _ _ _ _ _
       show WL _ _ _ _ _ _ _
       refine mw (vb true) ?_
       exact f1
      ·intro _ w15 k666 _
       rintro _ rfl _ rfl _ rfl _ rfl _ rfl _ rfl _ rfl _ rfl _ rfl _ rfl _ rfl _ rfl _ rfl _ rfl _ rfl _ rfl _ rfl _ _ _ _ _ _ _ _ _ _ _ _ _ _ _
       show WL _ _ _ _ _ _ _
       refine mv (vi ((F_impl_RoomFor (F_impl_Gain ((d0).1) ((d0).2.1) ((d0).2.2)) ((d0).2.1)) - (F_impl_RoomFor ((d0).1) ((d0).2.1)))) (wS (Eq.refl true)) ?_
       exact f1
      ·intro _ w15 k670 _
       rintro _ rfl _ rfl _ rfl _ rfl _ rfl _ rfl _ rfl _ rfl _ rfl _ rfl _ rfl _ rfl _ rfl _ rfl _ rfl _ rfl _ rfl _ rfl _ _ _ _ _ _ _ _ _ _ _ _ _ _
       show WL _ _ _ _ _ _ _
       refine pu (vb (decide (0 ≤ ((F_impl_RoomFor (F_impl_Gain ((d0).1) ((d0).2.1) ((d0).2.2)) ((d0).2.1)) - (F_impl_RoomFor ((d0).1) ((d0).2.1)))))) (wS (Eq.refl true)) ?_
       exact f1
      ·intro _ w15 k674 _
       rintro _ rfl _ rfl _ rfl _ rfl _ rfl _ rfl _ rfl _ rfl _ rfl _ rfl _ rfl _ rfl _ rfl _ rfl _ rfl _ rfl _ rfl _ rfl _ rfl _ _ _ _ _ _ _ _ _ _ _ _ _
       show WL _ _ _ _ _ _ _
       refine pk (vb (decide (0 ≤ ((F_impl_RoomFor (F_impl_Gain ((d0).1) ((d0).2.1) ((d0).2.2)) ((d0).2.1)) - (F_impl_RoomFor ((d0).1) ((d0).2.1)))))) wN (Eq.refl true) ?_
       exact f1
      ·intro _ w15 k678 _
       rintro _ rfl _ rfl _ rfl _ rfl _ rfl _ rfl _ rfl _ rfl _ rfl _ rfl _ rfl _ rfl _ rfl _ rfl _ rfl _ rfl _ rfl _ rfl _ rfl _ rfl _ _ _ _ _ _ _ _ _ _ _ _
       show WL _ _ _ _ _ _ _
       refine mw (vb (decide (0 ≤ ((F_impl_RoomFor (F_impl_Gain ((d0).1) ((d0).2.1) ((d0).2.2)) ((d0).2.1)) - (F_impl_RoomFor ((d0).1) ((d0).2.1)))))) ?_
       exact f1
      ·intro _ w15 k682 _
       rintro _ rfl _ rfl _ rfl _ rfl _ rfl _ rfl _ rfl _ rfl _ rfl _ rfl _ rfl _ rfl _ rfl _ rfl _ rfl _ rfl _ rfl _ rfl _ rfl _ rfl _ rfl _ _ _ _ _ _ _ _ _ _ _
       show WL _ _ _ _ _ _ _
       refine sk h172 ?_
       exact f1
      ·intro _ w15 k686 _
       rintro _ rfl _ rfl _ rfl _ rfl _ rfl _ rfl _ rfl _ rfl _ rfl _ rfl _ rfl _ rfl _ rfl _ rfl _ rfl _ rfl _ rfl _ rfl _ rfl _ rfl _ rfl _ rfl _ _ _ _ _ _ _ _ _ _
       show WL _ _ _ _ _ _ _
       refine sk h172 ?_
       exact f1
      ·intro _ w15 k690 _
       rintro _ rfl _ rfl _ rfl _ rfl _ rfl _ rfl _ rfl _ rfl _ rfl _ rfl _ rfl _ rfl _ rfl _ rfl _ rfl _ rfl _ rfl _ rfl _ rfl _ rfl _ rfl _ rfl _ rfl _ _ _ _ _ _ _ _ _
       show WL _ _ _ _ _ _ _
       refine sk h172 ?_
       exact f1
      ·intro _ w15 k694 _
       rintro _ rfl _ rfl _ rfl _ rfl _ rfl _ rfl _ rfl _ rfl _ rfl _ rfl _ rfl _ rfl _ rfl _ rfl _ rfl _ rfl _ rfl _ rfl _ rfl _ rfl _ rfl _ rfl _ rfl _ rfl _ _ _ _ _ _ _ _
       show WL _ _ _ _ _ _ _
       refine pf (vb false) wN h172 ?_
       exact f1
      ·intro _ w15 k698 _
       rintro _ rfl _ rfl _ rfl _ rfl _ rfl _ rfl _ rfl _ rfl _ rfl _ rfl _ rfl _ rfl _ rfl _ rfl _ rfl _ rfl _ rfl _ rfl _ rfl _ rfl _ rfl _ rfl _ rfl _ rfl _ rfl _ _ _ _ _ _ _
       show WL _ _ _ _ _ _ _
       refine mw (vb false) ?_
       exact f1
      ·intro _ w15 k702 _
       rintro _ rfl _ rfl _ rfl _ rfl _ rfl _ rfl _ rfl _ rfl _ rfl _ rfl _ rfl _ rfl _ rfl _ rfl _ rfl _ rfl _ rfl _ rfl _ rfl _ rfl _ rfl _ rfl _ rfl _ rfl _ rfl _ rfl _ _ _ _ _ _
       show WL _ _ _ _ _ _ _
       refine sk F1 ?_
       exact f1
      ·intro _ w15 k706 _
       rintro _ rfl _ rfl _ rfl _ rfl _ rfl _ rfl _ rfl _ rfl _ rfl _ rfl _ rfl _ rfl _ rfl _ rfl _ rfl _ rfl _ rfl _ rfl _ rfl _ rfl _ rfl _ rfl _ rfl _ rfl _ rfl _ rfl _ rfl _ _ _ _ _
       show WL _ _ _ _ _ _ _
       refine sk F1 ?_
       exact f1
      ·intro _ w15 k710 _
       rintro _ rfl _ rfl _ rfl _ rfl _ rfl _ rfl _ rfl _ rfl _ rfl _ rfl _ rfl _ rfl _ rfl _ rfl _ rfl _ rfl _ rfl _ rfl _ rfl _ rfl _ rfl _ rfl _ rfl _ rfl _ rfl _ rfl _ rfl _ rfl _ _ _ _
       show WL _ _ _ _ _ _ _
       refine sk F1 ?_
       exact f1
      ·intro _ w15 k714 _
       rintro _ rfl _ rfl _ rfl _ rfl _ rfl _ rfl _ rfl _ rfl _ rfl _ rfl _ rfl _ rfl _ rfl _ rfl _ rfl _ rfl _ rfl _ rfl _ rfl _ rfl _ rfl _ rfl _ rfl _ rfl _ rfl _ rfl _ rfl _ rfl _ rfl _ _ _
       show WL _ _ _ _ _ _ _
       refine su ?_
       exact f1
      ·intro _ w15 k718 _
       rintro _ rfl _ rfl _ rfl _ rfl _ rfl _ rfl _ rfl _ rfl _ rfl _ rfl _ rfl _ rfl _ rfl _ rfl _ rfl _ rfl _ rfl _ rfl _ rfl _ rfl _ rfl _ rfl _ rfl _ rfl _ rfl _ rfl _ rfl _ rfl _ rfl _ _ _
       show WL _ _ _ _ _ _ _
       refine su ?_
       exact f1
      ·intro _ w15 k722 _
       rintro _ rfl _ rfl _ rfl _ rfl _ rfl _ rfl _ rfl _ rfl _ rfl _ rfl _ rfl _ rfl _ rfl _ rfl _ rfl _ rfl _ rfl _ rfl _ rfl _ rfl _ rfl _ rfl _ rfl _ rfl _ rfl _ rfl _ rfl _ rfl _ rfl _ _ rfl _
       show WL _ _ _ _ _ _ _
       refine su ?_
       exact f1
     ·intro _ w15 k726
      have m727 := m153.extk k726
      rintro _ rfl _ rfl _ rfl _ rfl _ rfl _ rfl _ rfl _ rfl _ rfl _ rfl _ rfl _ rfl _ rfl _ rfl _ rfl _ rfl _ rfl _ rfl _ rfl _ rfl _ rfl _ rfl _ rfl _ rfl _ rfl _ rfl _ rfl _ rfl _ rfl _ rfl _ rfl _ rfl
      show WL _ _ _ _ _ _ _
      refine su ?_
      refine sk F1 ?_
      refine pf (vb false) wN (Eq.refl false) ?_
      refine aw (vb false) ?_
      refine n3 ?_
      refine rt (vb false) ?_
      have hF730 : gnLaw x_code d0 = false := by first | (have hxy := gn_eq hi1 (by omega) (by omega); simp only [gnLaw, gnE, gnC, hxy, h8, h68, h76, h116, h158, h165, h172, cond_true, cond_false]; done) | (have hxy := gn_ne (x := F_impl_Gain d0.1 d0.2.1 d0.2.2) (y := F_spec_Gain d0.1 d0.2.1 d0.2.2) i h172 (fun hq => by rw [hq]; simp); unfold gnLaw; rw [hxy]; simp only [h8, h68, h76, h116, h158, h165, h172, cond_true, cond_false])
      exact ⟨d0, m727.keep0, q13, by rw [hF730]⟩
    have q173 := of_decide_eq_true h172
    rcases bf (decide ((((F_impl_RoomFor (F_impl_Gain ((d0).1) ((d0).2.1) ((d0).2.2)) ((d0).2.1)) - (F_impl_RoomFor ((d0).1) ((d0).2.1))) % 3) = 0)) with h179 | h179
    ·have q459 := of_decide_eq_false h179
     refine wc_drawT ([(66, [], [], (fun _ v _ => v = (vs a33 (F_impl_Gain ((d0).1) ((d0).2.1) ((d0).2.2)).length c34))), (67, [], [0], (fun _ v w => v = .bool (iCr (F_impl_Gain ((d0).1) ((d0).2.1) ((d0).2.2))))), (68, [], [0, 1], (fun _ v _ => v = (vb (iCr (F_impl_Gain ((d0).1) ((d0).2.1) ((d0).2.2)))))), (69, [], [0, 1, 2], (fun _ v _ => v = (va (L_26 ((d0).2.1))))), (70, [], [0, 1, 2], (fun _ v _ => v = (va (L_26 (F_impl_Near ((F_laws_at x_code 2) % 12)))))), (71, [], [0, 1, 2, 3, 4], (fun _ v _ => v = (vb (decide ((((d0).2.1).Host) = ((F_impl_Near ((F_laws_at x_code 2) % 12)).Host)) && decide ((((d0).2.1).Port) = ((F_impl_Near ((F_laws_at x_code 2) % 12)).Port)))))), (72, [], [0, 1, 2, 3, 4, 5], (fun _ v _ => v = (vb (decide ((((d0).2.1).Host) = ((F_impl_Near ((F_laws_at x_code 2) % 12)).Host)) && decide ((((d0).2.1).Port) = ((F_impl_Near ((F_laws_at x_code 2) % 12)).Port)))))), (73, [], [0, 1, 2, 3, 4, 5, 6], (fun _ v _ => v = U)), (74, [], [0, 1, 2, 3, 4, 5, 6], (fun _ v _ => v = U)), (75, [], [0, 1, 2, 3, 4, 5, 6, 7, 8], (fun _ v _ => v = U)), (76, [], [0, 1, 2, 3, 4, 5, 6], (fun _ v _ => v = U)), (77, [], [0, 1, 2, 3, 4, 5, 6], (fun _ v _ => v = U)), (78, [], [0, 1, 2, 3, 4, 5, 6, 7, 8, 9, 10, 11], (fun _ v _ => v = U)), (79, [], [0, 1, 2, 3, 4, 5, 6, 7, 8, 9, 10, 11, 12], (fun _ v _ => v = U)), (80, [], [0, 1, 2, 3, 4, 5, 6, 7, 8, 9, 10, 11, 12, 13], (fun _ v _ => v = (vb true))), (81, [], [0, 1, 2, 3, 4, 5, 6, 7, 8, 9, 10, 11, 12, 13, 14], (fun _ v _ => v = (vb true))), (82, [], [0, 1, 2, 3, 4, 5, 6, 7, 8, 9, 10, 11, 12, 13, 14, 15], (fun _ v _ => v = (vb true))), (83, [], [0, 1, 2, 3, 4, 5, 6, 7, 8, 9, 10, 11, 12, 13, 14, 15, 16], (fun _ v _ => v = (vi ((F_impl_RoomFor (F_impl_Gain ((d0).1) ((d0).2.1) ((d0).2.2)) ((d0).2.1)) - (F_impl_RoomFor ((d0).1) ((d0).2.1)))))), (84, [], [0, 1, 2, 3, 4, 5, 6, 7, 8, 9, 10, 11, 12, 13, 14, 15, 16, 17], (fun _ v _ => v = (vb (decide (0 ≤ ((F_impl_RoomFor (F_impl_Gain ((d0).1) ((d0).2.1) ((d0).2.2)) ((d0).2.1)) - (F_impl_RoomFor ((d0).1) ((d0).2.1)))))))), (85, [], [0, 1, 2, 3, 4, 5, 6, 7, 8, 9, 10, 11, 12, 13, 14, 15, 16, 17, 18], (fun _ v _ => v = (vb (decide (0 ≤ ((F_impl_RoomFor (F_impl_Gain ((d0).1) ((d0).2.1) ((d0).2.2)) ((d0).2.1)) - (F_impl_RoomFor ((d0).1) ((d0).2.1)))))))), (86, [], [0, 1, 2, 3, 4, 5, 6, 7, 8, 9, 10, 11, 12, 13, 14, 15, 16, 17, 18, 19], (fun _ v _ => v = (vb (decide (0 ≤ ((F_impl_RoomFor (F_impl_Gain ((d0).1) ((d0).2.1) ((d0).2.2)) ((d0).2.1)) - (F_impl_RoomFor ((d0).1) ((d0).2.1)))))))), (87, [], [0, 1, 2, 3, 4, 5, 6, 7, 8, 9, 10, 11, 12, 13, 14, 15, 16, 17, 18, 19, 20], (fun _ v _ => v = (vi ((F_impl_RoomFor (F_impl_Gain ((d0).1) ((d0).2.1) ((d0).2.2)) ((d0).2.1)) - (F_impl_RoomFor ((d0).1) ((d0).2.1)))))), (88, [], [0, 1, 2, 3, 4, 5, 6, 7, 8, 9, 10, 11, 12, 13, 14, 15, 16, 17, 18, 19, 20, 21], (fun _ v _ => v = (vi (((F_impl_RoomFor (F_impl_Gain ((d0).1) ((d0).2.1) ((d0).2.2)) ((d0).2.1)) - (F_impl_RoomFor ((d0).1) ((d0).2.1))) % 3)))), (89, [], [0, 1, 2, 3, 4, 5, 6, 7, 8, 9, 10, 11, 12, 13, 14, 15, 16, 17, 18, 19, 20, 21, 22], (fun _ v _ => v = (vb (decide ((((F_impl_RoomFor (F_impl_Gain ((d0).1) ((d0).2.1) ((d0).2.2)) ((d0).2.1)) - (F_impl_RoomFor ((d0).1) ((d0).2.1))) % 3) = 0))))), (90, [], [0, 1, 2, 3, 4, 5, 6, 7, 8, 9, 10, 11, 12, 13, 14, 15, 16, 17, 18, 19, 20, 21, 22, 23], (fun _ v _ => v = (vb (decide ((((F_impl_RoomFor (F_impl_Gain ((d0).1) ((d0).2.1) ((d0).2.2)) ((d0).2.1)) - (F_impl_RoomFor ((d0).1) ((d0).2.1))) % 3) = 0))))), (91, [], [0, 1, 2, 3, 4, 5, 6, 7, 8, 9, 10, 11, 12, 13, 14, 15, 16, 17, 18, 19, 20, 21, 22, 23, 24], (fun _ v _ => v = (vb (decide ((((F_impl_RoomFor (F_impl_Gain ((d0).1) ((d0).2.1) ((d0).2.2)) ((d0).2.1)) - (F_impl_RoomFor ((d0).1) ((d0).2.1))) % 3) = 0))))), (92, [], [0, 1, 2, 3, 4, 5, 6, 7, 8, 9, 10, 11, 12, 13, 14, 15, 16, 17, 18, 19, 20, 21, 22, 23, 24, 25], (fun _ v _ => v = U)), (93, [], [0, 1, 2, 3, 4, 5, 6, 7, 8, 9, 10, 11, 12, 13, 14, 15, 16, 17, 18, 19, 20, 21, 22, 23, 24, 25, 26], (fun _ v _ => v = U)), (94, [], [0, 1, 2, 3, 4, 5, 6, 7, 8, 9, 10, 11, 12, 13, 14, 15, 16, 17, 18, 19, 20, 21, 22, 23, 24, 25, 26, 27], (fun _ v _ => v = U)), (95, [], [0, 1, 2, 3, 4, 5, 6, 7, 8, 9, 10, 11, 12, 13, 14, 15, 16, 17, 18, 19, 20, 21, 22, 23, 24, 25, 26, 27, 28], (fun _ v _ => v = U)), (96, [], [0, 1, 2, 3, 4, 5, 6, 7, 8, 9, 10, 11, 12, 13, 14, 15, 16, 17, 18, 19, 20, 21, 22, 23, 24, 25, 26, 27, 28], (fun _ v _ => v = U)), (97, [], [0, 1, 2, 3, 4, 5, 6, 7, 8, 9, 10, 11, 12, 13, 14, 15, 16, 17, 18, 19, 20, 21, 22, 23, 24, 25, 26, 27, 28, 30], (fun _ v _ => v = U))] : GV) (fun _ w' => Keep w14 w') [] mixed rfl (by kernel_rfl) (by kernel_rfl) ?_ (fun _ _ h => h) (fun _ _ _ _ h _ k => h.trans k) trivial ?_ ?_ ?_
     ·exact ⟨hV, hE, ⟨hV, hE, ⟨hV, hE, ⟨hV, hE, ⟨hV, hE, ⟨hV, hE, ⟨hV, hE, ⟨hV, hE, ⟨hV, hE, ⟨hV, hE, ⟨hV, hE, ⟨hV, hE, ⟨hV, hE, ⟨hV, hE, ⟨hV, hE, ⟨hV, hE, ⟨hV, hE, ⟨hV, hE, ⟨hV, hE, ⟨hV, hE, ⟨hV, hE, ⟨hV, hE, ⟨hV, hE, ⟨hV, hE, ⟨hV, hE, ⟨hV, hE, ⟨hV, hE, ⟨hV, hE, ⟨hV, hE, ⟨hV, hE, ⟨hV, hE, ⟨hV, hE, trivial⟩⟩⟩⟩⟩⟩⟩⟩⟩⟩⟩⟩⟩⟩⟩⟩⟩⟩⟩⟩⟩⟩⟩⟩⟩⟩⟩⟩⟩⟩⟩⟩
     ·exact trivial
     ·refine ⟨?_, ⟨?_, ⟨?_, ⟨?_, ⟨?_, ⟨?_, ⟨?_, ⟨?_, ⟨?_, ⟨?_, ⟨?_, ⟨?_, ⟨?_, ⟨?_, ⟨?_, ⟨?_, ⟨?_, ⟨?_, ⟨?_, ⟨?_, ⟨?_, ⟨?_, ⟨?_, ⟨?_, ⟨?_, ⟨?_, ⟨?_, ⟨?_, ⟨?_, ⟨?_, ⟨?_, ⟨?_, trivial⟩⟩⟩⟩⟩⟩⟩⟩⟩⟩⟩⟩⟩⟩⟩⟩⟩⟩⟩⟩⟩⟩⟩⟩⟩⟩⟩⟩⟩⟩⟩⟩
      ·intro _ w15 k467 _
       rintro _ _ _ _ _ _ _ _ _ _ _ _ _ _ _ _ _ _ _ _ _ _ _ _ _ _ _ _ _ _ _ _
       show WL _ _ _ _ _ _ _
       refine mw (vs a33 (F_impl_Gain ((d0).1) ((d0).2.1) ((d0).2.2)).length c34) ?_
       exact f1
      ·intro _ w15 k469 _
       rintro _ rfl _ _ _ _ _ _ _ _ _ _ _ _ _ _ _ _ _ _ _ _ _ _ _ _ _ _ _ _ _ _ _
       show WL _ _ _ _ _ _ _
       have o471 := (own_kp (own_kp (own_kp (own_kp o75 k114) k146) k152) k469)
       refine cl wN (C_impl_CreditsOk w15 _ (F_impl_Gain ((d0).1) ((d0).2.1) ((d0).2.2)) (mR_24 (Rd.of_own o471) s36)) ?_
       rintro _ w16 ⟨k472, rfl⟩
       exact wl_finT k472 rfl
      ·intro _ w15 k474 _
       rintro _ rfl _ rfl _ _ _ _ _ _ _ _ _ _ _ _ _ _ _ _ _ _ _ _ _ _ _ _ _ _ _ _ _ _
       show WL _ _ _ _ _ _ _
       refine mw (vb (iCr (F_impl_Gain ((d0).1) ((d0).2.1) ((d0).2.2)))) ?_
       exact f1
      ·intro _ w15 k476 _
       rintro _ rfl _ rfl _ rfl _ _ _ _ _ _ _ _ _ _ _ _ _ _ _ _ _ _ _ _ _ _ _ _ _ _ _ _ _
       show WL _ _ _ _ _ _ _
       have b478 := ((((((b56.kp k58).ch k72 (Nat.not_le.2 (Nat.lt_of_lt_of_le p23 (z7 k27 k32 k41 k44 k49 k52 k58)))).kp k114).kp k146).kp k152).kp k476)
       refine lN (L_26 ((d0).2.1)) (wS h158) isAgg_26 sizeOf_26 b478 ?_
       exact f1
      ·intro _ w15 k479 _
       rintro _ rfl _ rfl _ rfl _ _ _ _ _ _ _ _ _ _ _ _ _ _ _ _ _ _ _ _ _ _ _ _ _ _ _ _ _
       show WL _ _ _ _ _ _ _
       have b481 := ((((((b53.kp k58).ch k72 (Nat.not_le.2 (Nat.lt_of_lt_of_le p48 (z2 k52 k58)))).kp k114).kp k146).kp k152).kp k479)
       refine lN (L_26 (F_impl_Near ((F_laws_at x_code 2) % 12))) (wS h158) isAgg_26 sizeOf_26 b481 ?_
       exact f1
      ·intro _ w15 k482 _
       rintro _ rfl _ rfl _ rfl _ rfl _ rfl _ _ _ _ _ _ _ _ _ _ _ _ _ _ _ _ _ _ _ _ _ _ _ _ _ _ _
       show WL _ _ _ _ _ _ _
       refine wl_aggeq ((decide ((((d0).2.1).Host) = ((F_impl_Near ((F_laws_at x_code 2) % 12)).Host)) && decide ((((d0).2.1).Port) = ((F_impl_Near ((F_laws_at x_code 2) % 12)).Port)))) (wS h158) rfl rfl rfl rfl rfl guardt_26 (aggeq_26 (((d0).2.1).Host) ((F_impl_Near ((F_laws_at x_code 2) % 12)).Host) (((d0).2.1).Port) ((F_impl_Near ((F_laws_at x_code 2) % 12)).Port) w15) ?_
       exact f1
      ·intro _ w15 k486 _
       rintro _ rfl _ rfl _ rfl _ rfl _ rfl _ rfl _ _ _ _ _ _ _ _ _ _ _ _ _ _ _ _ _ _ _ _ _ _ _ _ _ _
       show WL _ _ _ _ _ _ _
       refine mv (vb (decide ((((d0).2.1).Host) = ((F_impl_Near ((F_laws_at x_code 2) % 12)).Host)) && decide ((((d0).2.1).Port) = ((F_impl_Near ((F_laws_at x_code 2) % 12)).Port)))) (wS h158) ?_
       exact f1
      ·intro _ w15 k490 _
       rintro _ rfl _ rfl _ rfl _ rfl _ rfl _ rfl _ rfl _ _ _ _ _ _ _ _ _ _ _ _ _ _ _ _ _ _ _ _ _ _ _ _ _
       show WL _ _ _ _ _ _ _
       refine sk h165 ?_
       exact f1
      ·intro _ w15 k494 _
       rintro _ rfl _ rfl _ rfl _ rfl _ rfl _ rfl _ rfl _ _ _ _ _ _ _ _ _ _ _ _ _ _ _ _ _ _ _ _ _ _ _ _ _
       show WL _ _ _ _ _ _ _
       refine sk h165 ?_
       exact f1
      ·intro _ w15 k498 _
       rintro _ rfl _ rfl _ rfl _ rfl _ rfl _ rfl _ rfl _ rfl _ rfl _ _ _ _ _ _ _ _ _ _ _ _ _ _ _ _ _ _ _ _ _ _ _
       show WL _ _ _ _ _ _ _
       refine sk h165 ?_
       exact f1
      ·intro _ w15 k502 _
       rintro _ rfl _ rfl _ rfl _ rfl _ rfl _ rfl _ rfl _ _ _ _ _ _ _ _ _ _ _ _ _ _ _ _ _ _ _ _ _ _ _ _ _
       show WL _ _ _ _ _ _ _
       refine sk h165 ?_
       exact f1
      ·intro _ w15 k506 _
       rintro _ rfl _ rfl _ rfl _ rfl _ rfl _ rfl _ rfl _ _ _ _ _ _ _ _ _ _ _ _ _ _ _ _ _ _ _ _ _ _ _ _ _
       show WL _ _ _ _ _ _ _
       refine sk h165 ?_
       exact f1
      ·intro _ w15 k510 _
       rintro _ rfl _ rfl _ rfl _ rfl _ rfl _ rfl _ rfl _ rfl _ rfl _ rfl _ rfl _ rfl _ _ _ _ _ _ _ _ _ _ _ _ _ _ _ _ _ _ _ _
       show WL _ _ _ _ _ _ _
       refine sk h165 ?_
       exact f1
      ·intro _ w15 k514 _
       rintro _ rfl _ rfl _ rfl _ rfl _ rfl _ rfl _ rfl _ rfl _ rfl _ rfl _ rfl _ rfl _ rfl _ _ _ _ _ _ _ _ _ _ _ _ _ _ _ _ _ _ _
       show WL _ _ _ _ _ _ _
       refine sk h165 ?_
       exact f1
      ·intro _ w15 k518 _
       rintro _ rfl _ rfl _ rfl _ rfl _ rfl _ rfl _ rfl _ rfl _ rfl _ rfl _ rfl _ rfl _ rfl _ rfl _ _ _ _ _ _ _ _ _ _ _ _ _ _ _ _ _ _
       show WL _ _ _ _ _ _ _
       refine pk (vb true) (wS h158) h165 ?_
       exact f1
      ·intro _ w15 k522 _
       rintro _ rfl _ rfl _ rfl _ rfl _ rfl _ rfl _ rfl _ rfl _ rfl _ rfl _ rfl _ rfl _ rfl _ rfl _ rfl _ _ _ _ _ _ _ _ _ _ _ _ _ _ _ _ _
       show WL _ _ _ _ _ _ _
       refine pk (vb true) wN h158 ?_
       exact f1
      ·intro _ w15 k526 _
       rintro _ rfl _ rfl _ rfl _ rfl _ rfl _ rfl _ rfl _ rfl _ rfl _ rfl _ rfl _ rfl _ rfl _ rfl _ rfl _ rfl _ _ _ _ _ _ _ _ _ _ _ _ _ _ _ _
       show WL _ _ _ _ _ _ _
       refine mw (vb true) ?_
       exact f1
      ·intro _ w15 k530 _
       rintro _ rfl _ rfl _ rfl _ rfl _ rfl _ rfl _ rfl _ rfl _ rfl _ rfl _ rfl _ rfl _ rfl _ rfl _ rfl _ rfl _ rfl _ _ _ _ _ _ _ _ _ _ _ _ _ _ _
       show WL _ _ _ _ _ _ _
       refine mv (vi ((F_impl_RoomFor (F_impl_Gain ((d0).1) ((d0).2.1) ((d0).2.2)) ((d0).2.1)) - (F_impl_RoomFor ((d0).1) ((d0).2.1)))) (wS (Eq.refl true)) ?_
       exact f1
      ·intro _ w15 k534 _
       rintro _ rfl _ rfl _ rfl _ rfl _ rfl _ rfl _ rfl _ rfl _ rfl _ rfl _ rfl _ rfl _ rfl _ rfl _ rfl _ rfl _ rfl _ rfl _ _ _ _ _ _ _ _ _ _ _ _ _ _
       show WL _ _ _ _ _ _ _
       refine pu (vb (decide (0 ≤ ((F_impl_RoomFor (F_impl_Gain ((d0).1) ((d0).2.1) ((d0).2.2)) ((d0).2.1)) - (F_impl_RoomFor ((d0).1) ((d0).2.1)))))) (wS (Eq.refl true)) ?_
       exact f1
      ·intro _ w15 k538 _
       rintro _ rfl _ rfl _ rfl _ rfl _ rfl _ rfl _ rfl _ rfl _ rfl _ rfl _ rfl _ rfl _ rfl _ rfl _ rfl _ rfl _ rfl _ rfl _ rfl _ _ _ _ _ _ _ _ _ _ _ _ _
       show WL _ _ _ _ _ _ _
       refine pk (vb (decide (0 ≤ ((F_impl_RoomFor (F_impl_Gain ((d0).1) ((d0).2.1) ((d0).2.2)) ((d0).2.1)) - (F_impl_RoomFor ((d0).1) ((d0).2.1)))))) wN (Eq.refl true) ?_
       exact f1
      ·intro _ w15 k542 _
       rintro _ rfl _ rfl _ rfl _ rfl _ rfl _ rfl _ rfl _ rfl _ rfl _ rfl _ rfl _ rfl _ rfl _ rfl _ rfl _ rfl _ rfl _ rfl _ rfl _ rfl _ _ _ _ _ _ _ _ _ _ _ _
       show WL _ _ _ _ _ _ _
       refine mw (vb (decide (0 ≤ ((F_impl_RoomFor (F_impl_Gain ((d0).1) ((d0).2.1) ((d0).2.2)) ((d0).2.1)) - (F_impl_RoomFor ((d0).1) ((d0).2.1)))))) ?_
       exact f1
      ·intro _ w15 k546 _
       rintro _ rfl _ rfl _ rfl _ rfl _ rfl _ rfl _ rfl _ rfl _ rfl _ rfl _ rfl _ rfl _ rfl _ rfl _ rfl _ rfl _ rfl _ rfl _ rfl _ rfl _ rfl _ _ _ _ _ _ _ _ _ _ _
       show WL _ _ _ _ _ _ _
       refine mv (vi ((F_impl_RoomFor (F_impl_Gain ((d0).1) ((d0).2.1) ((d0).2.2)) ((d0).2.1)) - (F_impl_RoomFor ((d0).1) ((d0).2.1)))) (wS h172) ?_
       exact f1
      ·intro _ w15 k550 _
       rintro _ rfl _ rfl _ rfl _ rfl _ rfl _ rfl _ rfl _ rfl _ rfl _ rfl _ rfl _ rfl _ rfl _ rfl _ rfl _ rfl _ rfl _ rfl _ rfl _ rfl _ rfl _ rfl _ _ _ _ _ _ _ _ _ _
       show WL _ _ _ _ _ _ _
       refine wl_rem ((F_impl_RoomFor (F_impl_Gain ((d0).1) ((d0).2.1) ((d0).2.2)) ((d0).2.1)) - (F_impl_RoomFor ((d0).1) ((d0).2.1))) 3 (wS h172) rfl rfl (by kernel_rfl) (by first | omega | assumption) ?_
       exact f1
      ·intro _ w15 k554 _
       rintro _ rfl _ rfl _ rfl _ rfl _ rfl _ rfl _ rfl _ rfl _ rfl _ rfl _ rfl _ rfl _ rfl _ rfl _ rfl _ rfl _ rfl _ rfl _ rfl _ rfl _ rfl _ rfl _ rfl _ _ _ _ _ _ _ _ _
       show WL _ _ _ _ _ _ _
       refine pu (vb (decide ((((F_impl_RoomFor (F_impl_Gain ((d0).1) ((d0).2.1) ((d0).2.2)) ((d0).2.1)) - (F_impl_RoomFor ((d0).1) ((d0).2.1))) % 3) = 0))) (wS h172) ?_
       exact f1
      ·intro _ w15 k558 _
       rintro _ rfl _ rfl _ rfl _ rfl _ rfl _ rfl _ rfl _ rfl _ rfl _ rfl _ rfl _ rfl _ rfl _ rfl _ rfl _ rfl _ rfl _ rfl _ rfl _ rfl _ rfl _ rfl _ rfl _ rfl _ _ _ _ _ _ _ _
       show WL _ _ _ _ _ _ _
       refine pk (vb (decide ((((F_impl_RoomFor (F_impl_Gain ((d0).1) ((d0).2.1) ((d0).2.2)) ((d0).2.1)) - (F_impl_RoomFor ((d0).1) ((d0).2.1))) % 3) = 0))) wN h172 ?_
       exact f1
      ·intro _ w15 k562 _
       rintro _ rfl _ rfl _ rfl _ rfl _ rfl _ rfl _ rfl _ rfl _ rfl _ rfl _ rfl _ rfl _ rfl _ rfl _ rfl _ rfl _ rfl _ rfl _ rfl _ rfl _ rfl _ rfl _ rfl _ rfl _ rfl _ _ _ _ _ _ _
       show WL _ _ _ _ _ _ _
       refine mw (vb (decide ((((F_impl_RoomFor (F_impl_Gain ((d0).1) ((d0).2.1) ((d0).2.2)) ((d0).2.1)) - (F_impl_RoomFor ((d0).1) ((d0).2.1))) % 3) = 0))) ?_
       exact f1
      ·intro _ w15 k566 _
       rintro _ rfl _ rfl _ rfl _ rfl _ rfl _ rfl _ rfl _ rfl _ rfl _ rfl _ rfl _ rfl _ rfl _ rfl _ rfl _ rfl _ rfl _ rfl _ rfl _ rfl _ rfl _ rfl _ rfl _ rfl _ rfl _ rfl _ _ _ _ _ _
       show WL _ _ _ _ _ _ _
       refine sk h179 ?_
       exact f1
      ·intro _ w15 k570 _
       rintro _ rfl _ rfl _ rfl _ rfl _ rfl _ rfl _ rfl _ rfl _ rfl _ rfl _ rfl _ rfl _ rfl _ rfl _ rfl _ rfl _ rfl _ rfl _ rfl _ rfl _ rfl _ rfl _ rfl _ rfl _ rfl _ rfl _ rfl _ _ _ _ _
       show WL _ _ _ _ _ _ _
       refine sk h179 ?_
       exact f1
      ·intro _ w15 k574 _
       rintro _ rfl _ rfl _ rfl _ rfl _ rfl _ rfl _ rfl _ rfl _ rfl _ rfl _ rfl _ rfl _ rfl _ rfl _ rfl _ rfl _ rfl _ rfl _ rfl _ rfl _ rfl _ rfl _ rfl _ rfl _ rfl _ rfl _ rfl _ rfl _ _ _ _
       show WL _ _ _ _ _ _ _
       refine sk h179 ?_
       exact f1
      ·intro _ w15 k578 _
       rintro _ rfl _ rfl _ rfl _ rfl _ rfl _ rfl _ rfl _ rfl _ rfl _ rfl _ rfl _ rfl _ rfl _ rfl _ rfl _ rfl _ rfl _ rfl _ rfl _ rfl _ rfl _ rfl _ rfl _ rfl _ rfl _ rfl _ rfl _ rfl _ rfl _ _ _
       show WL _ _ _ _ _ _ _
       refine su ?_
       exact f1
      ·intro _ w15 k582 _
       rintro _ rfl _ rfl _ rfl _ rfl _ rfl _ rfl _ rfl _ rfl _ rfl _ rfl _ rfl _ rfl _ rfl _ rfl _ rfl _ rfl _ rfl _ rfl _ rfl _ rfl _ rfl _ rfl _ rfl _ rfl _ rfl _ rfl _ rfl _ rfl _ rfl _ _ _
       show WL _ _ _ _ _ _ _
       refine su ?_
       exact f1
      ·intro _ w15 k586 _
       rintro _ rfl _ rfl _ rfl _ rfl _ rfl _ rfl _ rfl _ rfl _ rfl _ rfl _ rfl _ rfl _ rfl _ rfl _ rfl _ rfl _ rfl _ rfl _ rfl _ rfl _ rfl _ rfl _ rfl _ rfl _ rfl _ rfl _ rfl _ rfl _ rfl _ _ rfl _
       show WL _ _ _ _ _ _ _
       refine su ?_
       exact f1
     ·intro _ w15 k590
      have m591 := m153.extk k590
      rintro _ rfl _ rfl _ rfl _ rfl _ rfl _ rfl _ rfl _ rfl _ rfl _ rfl _ rfl _ rfl _ rfl _ rfl _ rfl _ rfl _ rfl _ rfl _ rfl _ rfl _ rfl _ rfl _ rfl _ rfl _ rfl _ rfl _ rfl _ rfl _ rfl _ rfl _ rfl _ rfl
      show WL _ _ _ _ _ _ _
      refine su ?_
      refine sk h179 ?_
      refine pf (vb false) wN h179 ?_
      refine aw (vb false) ?_
      refine n3 ?_
      refine rt (vb false) ?_
      have hF594 : gnLaw x_code d0 = false := by first | (have hxy := gn_eq hi1 (by omega) (by omega); simp only [gnLaw, gnE, gnC, hxy, h8, h68, h76, h116, h158, h165, h172, h179, cond_true, cond_false]; done) | (have hxy := gn_ne (x := F_impl_Gain d0.1 d0.2.1 d0.2.2) (y := F_spec_Gain d0.1 d0.2.1 d0.2.2) i h179 (fun hq => by rw [hq]; simp); unfold gnLaw; rw [hxy]; simp only [h8, h68, h76, h116, h158, h165, h172, h179, cond_true, cond_false])
      exact ⟨d0, m591.keep0, q13, by rw [hF594]⟩
    have q180 := of_decide_eq_true h179
    rcases bt (decide ((d0).2.2 < 0)) with h186 | h186
    ·have q187 := of_decide_eq_true h186
     refine wc_drawT ([(66, [], [], (fun _ v _ => v = (vs a33 (F_impl_Gain ((d0).1) ((d0).2.1) ((d0).2.2)).length c34))), (67, [], [0], (fun _ v w => v = .bool (iCr (F_impl_Gain ((d0).1) ((d0).2.1) ((d0).2.2))))), (68, [], [0, 1], (fun _ v _ => v = (vb (iCr (F_impl_Gain ((d0).1) ((d0).2.1) ((d0).2.2)))))), (69, [], [0, 1, 2], (fun _ v _ => v = (va (L_26 ((d0).2.1))))), (70, [], [0, 1, 2], (fun _ v _ => v = (va (L_26 (F_impl_Near ((F_laws_at x_code 2) % 12)))))), (71, [], [0, 1, 2, 3, 4], (fun _ v _ => v = (vb (decide ((((d0).2.1).Host) = ((F_impl_Near ((F_laws_at x_code 2) % 12)).Host)) && decide ((((d0).2.1).Port) = ((F_impl_Near ((F_laws_at x_code 2) % 12)).Port)))))), (72, [], [0, 1, 2, 3, 4, 5], (fun _ v _ => v = (vb (decide ((((d0).2.1).Host) = ((F_impl_Near ((F_laws_at x_code 2) % 12)).Host)) && decide ((((d0).2.1).Port) = ((F_impl_Near ((F_laws_at x_code 2) % 12)).Port)))))), (73, [], [0, 1, 2, 3, 4, 5, 6], (fun _ v _ => v = U)), (74, [], [0, 1, 2, 3, 4, 5, 6], (fun _ v _ => v = U)), (75, [], [0, 1, 2, 3, 4, 5, 6, 7, 8], (fun _ v _ => v = U)), (76, [], [0, 1, 2, 3, 4, 5, 6], (fun _ v _ => v = U)), (77, [], [0, 1, 2, 3, 4, 5, 6], (fun _ v _ => v = U)), (78, [], [0, 1, 2, 3, 4, 5, 6, 7, 8, 9, 10, 11], (fun _ v _ => v = U)), (79, [], [0, 1, 2, 3, 4, 5, 6, 7, 8, 9, 10, 11, 12], (fun _ v _ => v = U)), (80, [], [0, 1, 2, 3, 4, 5, 6, 7, 8, 9, 10, 11, 12, 13], (fun _ v _ => v = (vb true))), (81, [], [0, 1, 2, 3, 4, 5, 6, 7, 8, 9, 10, 11, 12, 13, 14], (fun _ v _ => v = (vb true))), (82, [], [0, 1, 2, 3, 4, 5, 6, 7, 8, 9, 10, 11, 12, 13, 14, 15], (fun _ v _ => v = (vb true))), (83, [], [0, 1, 2, 3, 4, 5, 6, 7, 8, 9, 10, 11, 12, 13, 14, 15, 16], (fun _ v _ => v = (vi ((F_impl_RoomFor (F_impl_Gain ((d0).1) ((d0).2.1) ((d0).2.2)) ((d0).2.1)) - (F_impl_RoomFor ((d0).1) ((d0).2.1)))))), (84, [], [0, 1, 2, 3, 4, 5, 6, 7, 8, 9, 10, 11, 12, 13, 14, 15, 16, 17], (fun _ v _ => v = (vb (decide (0 ≤ ((F_impl_RoomFor (F_impl_Gain ((d0).1) ((d0).2.1) ((d0).2.2)) ((d0).2.1)) - (F_impl_RoomFor ((d0).1) ((d0).2.1)))))))), (85, [], [0, 1, 2, 3, 4, 5, 6, 7, 8, 9, 10, 11, 12, 13, 14, 15, 16, 17, 18], (fun _ v _ => v = (vb (decide (0 ≤ ((F_impl_RoomFor (F_impl_Gain ((d0).1) ((d0).2.1) ((d0).2.2)) ((d0).2.1)) - (F_impl_RoomFor ((d0).1) ((d0).2.1)))))))), (86, [], [0, 1, 2, 3, 4, 5, 6, 7, 8, 9, 10, 11, 12, 13, 14, 15, 16, 17, 18, 19], (fun _ v _ => v = (vb (decide (0 ≤ ((F_impl_RoomFor (F_impl_Gain ((d0).1) ((d0).2.1) ((d0).2.2)) ((d0).2.1)) - (F_impl_RoomFor ((d0).1) ((d0).2.1)))))))), (87, [], [0, 1, 2, 3, 4, 5, 6, 7, 8, 9, 10, 11, 12, 13, 14, 15, 16, 17, 18, 19, 20], (fun _ v _ => v = (vi ((F_impl_RoomFor (F_impl_Gain ((d0).1) ((d0).2.1) ((d0).2.2)) ((d0).2.1)) - (F_impl_RoomFor ((d0).1) ((d0).2.1)))))), (88, [], [0, 1, 2, 3, 4, 5, 6, 7, 8, 9, 10, 11, 12, 13, 14, 15, 16, 17, 18, 19, 20, 21], (fun _ v _ => v = (vi (((F_impl_RoomFor (F_impl_Gain ((d0).1) ((d0).2.1) ((d0).2.2)) ((d0).2.1)) - (F_impl_RoomFor ((d0).1) ((d0).2.1))) % 3)))), (89, [], [0, 1, 2, 3, 4, 5, 6, 7, 8, 9, 10, 11, 12, 13, 14, 15, 16, 17, 18, 19, 20, 21, 22], (fun _ v _ => v = (vb (decide ((((F_impl_RoomFor (F_impl_Gain ((d0).1) ((d0).2.1) ((d0).2.2)) ((d0).2.1)) - (F_impl_RoomFor ((d0).1) ((d0).2.1))) % 3) = 0))))), (90, [], [0, 1, 2, 3, 4, 5, 6, 7, 8, 9, 10, 11, 12, 13, 14, 15, 16, 17, 18, 19, 20, 21, 22, 23], (fun _ v _ => v = (vb (decide ((((F_impl_RoomFor (F_impl_Gain ((d0).1) ((d0).2.1) ((d0).2.2)) ((d0).2.1)) - (F_impl_RoomFor ((d0).1) ((d0).2.1))) % 3) = 0))))), (91, [], [0, 1, 2, 3, 4, 5, 6, 7, 8, 9, 10, 11, 12, 13, 14, 15, 16, 17, 18, 19, 20, 21, 22, 23, 24], (fun _ v _ => v = (vb (decide ((((F_impl_RoomFor (F_impl_Gain ((d0).1) ((d0).2.1) ((d0).2.2)) ((d0).2.1)) - (F_impl_RoomFor ((d0).1) ((d0).2.1))) % 3) = 0))))), (92, [], [0, 1, 2, 3, 4, 5, 6, 7, 8, 9, 10, 11, 12, 13, 14, 15, 16, 17, 18, 19, 20, 21, 22, 23, 24, 25], (fun _ v _ => v = (vi ((d0).2.2)))), (93, [], [0, 1, 2, 3, 4, 5, 6, 7, 8, 9, 10, 11, 12, 13, 14, 15, 16, 17, 18, 19, 20, 21, 22, 23, 24, 25, 26], (fun _ v _ => v = (vb (decide ((d0).2.2 < 0))))), (94, [], [0, 1, 2, 3, 4, 5, 6, 7, 8, 9, 10, 11, 12, 13, 14, 15, 16, 17, 18, 19, 20, 21, 22, 23, 24, 25, 26, 27], (fun _ v _ => v = (vb (decide ((d0).2.2 < 0))))), (95, [], [0, 1, 2, 3, 4, 5, 6, 7, 8, 9, 10, 11, 12, 13, 14, 15, 16, 17, 18, 19, 20, 21, 22, 23, 24, 25, 26, 27, 28], (fun _ v _ => v = U)), (96, [], [0, 1, 2, 3, 4, 5, 6, 7, 8, 9, 10, 11, 12, 13, 14, 15, 16, 17, 18, 19, 20, 21, 22, 23, 24, 25, 26, 27, 28], (fun _ v _ => v = U)), (97, [], [0, 1, 2, 3, 4, 5, 6, 7, 8, 9, 10, 11, 12, 13, 14, 15, 16, 17, 18, 19, 20, 21, 22, 23, 24, 25, 26, 27, 28, 30], (fun _ v _ => v = U))] : GV) (fun _ w' => Keep w14 w') [] mixed rfl (by kernel_rfl) (by kernel_rfl) ?_ (fun _ _ h => h) (fun _ _ _ _ h _ k => h.trans k) trivial ?_ ?_ ?_
     ·exact ⟨hV, hE, ⟨hV, hE, ⟨hV, hE, ⟨hV, hE, ⟨hV, hE, ⟨hV, hE, ⟨hV, hE, ⟨hV, hE, ⟨hV, hE, ⟨hV, hE, ⟨hV, hE, ⟨hV, hE, ⟨hV, hE, ⟨hV, hE, ⟨hV, hE, ⟨hV, hE, ⟨hV, hE, ⟨hV, hE, ⟨hV, hE, ⟨hV, hE, ⟨hV, hE, ⟨hV, hE, ⟨hV, hE, ⟨hV, hE, ⟨hV, hE, ⟨hV, hE, ⟨hV, hE, ⟨hV, hE, ⟨hV, hE, ⟨hV, hE, ⟨hV, hE, ⟨hV, hE, trivial⟩⟩⟩⟩⟩⟩⟩⟩⟩⟩⟩⟩⟩⟩⟩⟩⟩⟩⟩⟩⟩⟩⟩⟩⟩⟩⟩⟩⟩⟩⟩⟩
     ·exact trivial
     ·refine ⟨?_, ⟨?_, ⟨?_, ⟨?_, ⟨?_, ⟨?_, ⟨?_, ⟨?_, ⟨?_, ⟨?_, ⟨?_, ⟨?_, ⟨?_, ⟨?_, ⟨?_, ⟨?_, ⟨?_, ⟨?_, ⟨?_, ⟨?_, ⟨?_, ⟨?_, ⟨?_, ⟨?_, ⟨?_, ⟨?_, ⟨?_, ⟨?_, ⟨?_, ⟨?_, ⟨?_, ⟨?_, trivial⟩⟩⟩⟩⟩⟩⟩⟩⟩⟩⟩⟩⟩⟩⟩⟩⟩⟩⟩⟩⟩⟩⟩⟩⟩⟩⟩⟩⟩⟩⟩⟩
      ·intro _ w15 k195 _
       rintro _ _ _ _ _ _ _ _ _ _ _ _ _ _ _ _ _ _ _ _ _ _ _ _ _ _ _ _ _ _ _ _
       show WL _ _ _ _ _ _ _
       refine mw (vs a33 (F_impl_Gain ((d0).1) ((d0).2.1) ((d0).2.2)).length c34) ?_
       exact f1
      ·intro _ w15 k197 _
       rintro _ rfl _ _ _ _ _ _ _ _ _ _ _ _ _ _ _ _ _ _ _ _ _ _ _ _ _ _ _ _ _ _ _
       show WL _ _ _ _ _ _ _
       have o199 := (own_kp (own_kp (own_kp (own_kp o75 k114) k146) k152) k197)
       refine cl wN (C_impl_CreditsOk w15 _ (F_impl_Gain ((d0).1) ((d0).2.1) ((d0).2.2)) (mR_24 (Rd.of_own o199) s36)) ?_
       rintro _ w16 ⟨k200, rfl⟩
       exact wl_finT k200 rfl
      ·intro _ w15 k202 _
       rintro _ rfl _ rfl _ _ _ _ _ _ _ _ _ _ _ _ _ _ _ _ _ _ _ _ _ _ _ _ _ _ _ _ _ _
       show WL _ _ _ _ _ _ _
       refine mw (vb (iCr (F_impl_Gain ((d0).1) ((d0).2.1) ((d0).2.2)))) ?_
       exact f1
      ·intro _ w15 k204 _
       rintro _ rfl _ rfl _ rfl _ _ _ _ _ _ _ _ _ _ _ _ _ _ _ _ _ _ _ _ _ _ _ _ _ _ _ _ _
       show WL _ _ _ _ _ _ _
       have b206 := ((((((b56.kp k58).ch k72 (Nat.not_le.2 (Nat.lt_of_lt_of_le p23 (z7 k27 k32 k41 k44 k49 k52 k58)))).kp k114).kp k146).kp k152).kp k204)
       refine lN (L_26 ((d0).2.1)) (wS h158) isAgg_26 sizeOf_26 b206 ?_
       exact f1
      ·intro _ w15 k207 _
       rintro _ rfl _ rfl _ rfl _ _ _ _ _ _ _ _ _ _ _ _ _ _ _ _ _ _ _ _ _ _ _ _ _ _ _ _ _
       show WL _ _ _ _ _ _ _
       have b209 := ((((((b53.kp k58).ch k72 (Nat.not_le.2 (Nat.lt_of_lt_of_le p48 (z2 k52 k58)))).kp k114).kp k146).kp k152).kp k207)
       refine lN (L_26 (F_impl_Near ((F_laws_at x_code 2) % 12))) (wS h158) isAgg_26 sizeOf_26 b209 ?_
       exact f1
      ·intro _ w15 k210 _
       rintro _ rfl _ rfl _ rfl _ rfl _ rfl _ _ _ _ _ _ _ _ _ _ _ _ _ _ _ _ _ _ _ _ _ _ _ _ _ _ _
       show WL _ _ _ _ _ _ _
       refine wl_aggeq ((decide ((((d0).2.1).Host) = ((F_impl_Near ((F_laws_at x_code 2) % 12)).Host)) && decide ((((d0).2.1).Port) = ((F_impl_Near ((F_laws_at x_code 2) % 12)).Port)))) (wS h158) rfl rfl rfl rfl rfl guardt_26 (aggeq_26 (((d0).2.1).Host) ((F_impl_Near ((F_laws_at x_code 2) % 12)).Host) (((d0).2.1).Port) ((F_impl_Near ((F_laws_at x_code 2) % 12)).Port) w15) ?_
       exact f1
      ·intro _ w15 k214 _
       rintro _ rfl _ rfl _ rfl _ rfl _ rfl _ rfl _ _ _ _ _ _ _ _ _ _ _ _ _ _ _ _ _ _ _ _ _ _ _ _ _ _
       show WL _ _ _ _ _ _ _
       refine mv (vb (decide ((((d0).2.1).Host) = ((F_impl_Near ((F_laws_at x_code 2) % 12)).Host)) && decide ((((d0).2.1).Port) = ((F_impl_Near ((F_laws_at x_code 2) % 12)).Port)))) (wS h158) ?_
       exact f1
      ·intro _ w15 k218 _
       rintro _ rfl _ rfl _ rfl _ rfl _ rfl _ rfl _ rfl _ _ _ _ _ _ _ _ _ _ _ _ _ _ _ _ _ _ _ _ _ _ _ _ _
       show WL _ _ _ _ _ _ _
       refine sk h165 ?_
       exact f1
      ·intro _ w15 k222 _
       rintro _ rfl _ rfl _ rfl _ rfl _ rfl _ rfl _ rfl _ _ _ _ _ _ _ _ _ _ _ _ _ _ _ _ _ _ _ _ _ _ _ _ _
       show WL _ _ _ _ _ _ _
       refine sk h165 ?_
       exact f1
      ·intro _ w15 k226 _
       rintro _ rfl _ rfl _ rfl _ rfl _ rfl _ rfl _ rfl _ rfl _ rfl _ _ _ _ _ _ _ _ _ _ _ _ _ _ _ _ _ _ _ _ _ _ _
       show WL _ _ _ _ _ _ _
       refine sk h165 ?_
       exact f1
      ·intro _ w15 k230 _
       rintro _ rfl _ rfl _ rfl _ rfl _ rfl _ rfl _ rfl _ _ _ _ _ _ _ _ _ _ _ _ _ _ _ _ _ _ _ _ _ _ _ _ _
       show WL _ _ _ _ _ _ _
       refine sk h165 ?_
       exact f1
      ·intro _ w15 k234 _
       rintro _ rfl _ rfl _ rfl _ rfl _ rfl _ rfl _ rfl _ _ _ _ _ _ _ _ _ _ _ _ _ _ _ _ _ _ _ _ _ _ _ _ _
       show WL _ _ _ _ _ _ _
       refine sk h165 ?_
       exact f1
      ·intro _ w15 k238 _
       rintro _ rfl _ rfl _ rfl _ rfl _ rfl _ rfl _ rfl _ rfl _ rfl _ rfl _ rfl _ rfl _ _ _ _ _ _ _ _ _ _ _ _ _ _ _ _ _ _ _ _
       show WL _ _ _ _ _ _ _
       refine sk h165 ?_
       exact f1
      ·intro _ w15 k242 _
       rintro _ rfl _ rfl _ rfl _ rfl _ rfl _ rfl _ rfl _ rfl _ rfl _ rfl _ rfl _ rfl _ rfl _ _ _ _ _ _ _ _ _ _ _ _ _ _ _ _ _ _ _
       show WL _ _ _ _ _ _ _
       refine sk h165 ?_
       exact f1
      ·intro _ w15 k246 _
       rintro _ rfl _ rfl _ rfl _ rfl _ rfl _ rfl _ rfl _ rfl _ rfl _ rfl _ rfl _ rfl _ rfl _ rfl _ _ _ _ _ _ _ _ _ _ _ _ _ _ _ _ _ _
       show WL _ _ _ _ _ _ _
       refine pk (vb true) (wS h158) h165 ?_
       exact f1
      ·intro _ w15 k250 _
       rintro _ rfl _ rfl _ rfl _ rfl _ rfl _ rfl _ rfl _ rfl _ rfl _ rfl _ rfl _ rfl _ rfl _ rfl _ rfl _ _ _ _ _ _ _ _ _ _ _ _ _ _ _ _ _
       show WL _ _ _ _ _ _ _
       refine pk (vb true) wN h158 ?_
       exact f1
      ·intro _ w15 k254 _
       rintro _ rfl _ rfl _ rfl _ rfl _ rfl _ rfl _ rfl _ rfl _ rfl _ rfl _ rfl _ rfl _ rfl _ rfl _ rfl _ rfl _ _ _ _ _ _ _ _ _ _ _ _ _ _ _ _
       show WL _ _ _ _ _ _ _
       refine mw (vb true) ?_
       exact f1
      ·intro _ w15 k258 _
       rintro _ rfl _ rfl _ rfl _ rfl _ rfl _ rfl _ rfl _ rfl _ rfl _ rfl _ rfl _ rfl _ rfl _ rfl _ rfl _ rfl _ rfl _ _ _ _ _ _ _ _ _ _ _ _ _ _ _
       show WL _ _ _ _ _ _ _
       refine mv (vi ((F_impl_RoomFor (F_impl_Gain ((d0).1) ((d0).2.1) ((d0).2.2)) ((d0).2.1)) - (F_impl_RoomFor ((d0).1) ((d0).2.1)))) (wS (Eq.refl true)) ?_
       exact f1
      ·intro _ w15 k262 _
       rintro _ rfl _ rfl _ rfl _ rfl _ rfl _ rfl _ rfl _ rfl _ rfl _ rfl _ rfl _ rfl _ rfl _ rfl _ rfl _ rfl _ rfl _ rfl _ _ _ _ _ _ _ _ _ _ _ _ _ _
       show WL _ _ _ _ _ _ _
       refine pu (vb (decide (0 ≤ ((F_impl_RoomFor (F_impl_Gain ((d0).1) ((d0).2.1) ((d0).2.2)) ((d0).2.1)) - (F_impl_RoomFor ((d0).1) ((d0).2.1)))))) (wS (Eq.refl true)) ?_
       exact f1
      ·intro _ w15 k266 _
       rintro _ rfl _ rfl _ rfl _ rfl _ rfl _ rfl _ rfl _ rfl _ rfl _ rfl _ rfl _ rfl _ rfl _ rfl _ rfl _ rfl _ rfl _ rfl _ rfl _ _ _ _ _ _ _ _ _ _ _ _ _
       show WL _ _ _ _ _ _ _
       refine pk (vb (decide (0 ≤ ((F_impl_RoomFor (F_impl_Gain ((d0).1) ((d0).2.1) ((d0).2.2)) ((d0).2.1)) - (F_impl_RoomFor ((d0).1) ((d0).2.1)))))) wN (Eq.refl true) ?_
       exact f1
      ·intro _ w15 k270 _
       rintro _ rfl _ rfl _ rfl _ rfl _ rfl _ rfl _ rfl _ rfl _ rfl _ rfl _ rfl _ rfl _ rfl _ rfl _ rfl _ rfl _ rfl _ rfl _ rfl _ rfl _ _ _ _ _ _ _ _ _ _ _ _
       show WL _ _ _ _ _ _ _
       refine mw (vb (decide (0 ≤ ((F_impl_RoomFor (F_impl_Gain ((d0).1) ((d0).2.1) ((d0).2.2)) ((d0).2.1)) - (F_impl_RoomFor ((d0).1) ((d0).2.1)))))) ?_
       exact f1
      ·intro _ w15 k274 _
       rintro _ rfl _ rfl _ rfl _ rfl _ rfl _ rfl _ rfl _ rfl _ rfl _ rfl _ rfl _ rfl _ rfl _ rfl _ rfl _ rfl _ rfl _ rfl _ rfl _ rfl _ rfl _ _ _ _ _ _ _ _ _ _ _
       show WL _ _ _ _ _ _ _
       refine mv (vi ((F_impl_RoomFor (F_impl_Gain ((d0).1) ((d0).2.1) ((d0).2.2)) ((d0).2.1)) - (F_impl_RoomFor ((d0).1) ((d0).2.1)))) (wS h172) ?_
       exact f1
      ·intro _ w15 k278 _
       rintro _ rfl _ rfl _ rfl _ rfl _ rfl _ rfl _ rfl _ rfl _ rfl _ rfl _ rfl _ rfl _ rfl _ rfl _ rfl _ rfl _ rfl _ rfl _ rfl _ rfl _ rfl _ rfl _ _ _ _ _ _ _ _ _ _
       show WL _ _ _ _ _ _ _
       refine wl_rem ((F_impl_RoomFor (F_impl_Gain ((d0).1) ((d0).2.1) ((d0).2.2)) ((d0).2.1)) - (F_impl_RoomFor ((d0).1) ((d0).2.1))) 3 (wS h172) rfl rfl (by kernel_rfl) (by first | omega | assumption) ?_
       exact f1
      ·intro _ w15 k282 _
       rintro _ rfl _ rfl _ rfl _ rfl _ rfl _ rfl _ rfl _ rfl _ rfl _ rfl _ rfl _ rfl _ rfl _ rfl _ rfl _ rfl _ rfl _ rfl _ rfl _ rfl _ rfl _ rfl _ rfl _ _ _ _ _ _ _ _ _
       show WL _ _ _ _ _ _ _
       refine pu (vb (decide ((((F_impl_RoomFor (F_impl_Gain ((d0).1) ((d0).2.1) ((d0).2.2)) ((d0).2.1)) - (F_impl_RoomFor ((d0).1) ((d0).2.1))) % 3) = 0))) (wS h172) ?_
       exact f1
      ·intro _ w15 k286 _
       rintro _ rfl _ rfl _ rfl _ rfl _ rfl _ rfl _ rfl _ rfl _ rfl _ rfl _ rfl _ rfl _ rfl _ rfl _ rfl _ rfl _ rfl _ rfl _ rfl _ rfl _ rfl _ rfl _ rfl _ rfl _ _ _ _ _ _ _ _
       show WL _ _ _ _ _ _ _
       refine pk (vb (decide ((((F_impl_RoomFor (F_impl_Gain ((d0).1) ((d0).2.1) ((d0).2.2)) ((d0).2.1)) - (F_impl_RoomFor ((d0).1) ((d0).2.1))) % 3) = 0))) wN h172 ?_
       exact f1
      ·intro _ w15 k290 _
       rintro _ rfl _ rfl _ rfl _ rfl _ rfl _ rfl _ rfl _ rfl _ rfl _ rfl _ rfl _ rfl _ rfl _ rfl _ rfl _ rfl _ rfl _ rfl _ rfl _ rfl _ rfl _ rfl _ rfl _ rfl _ rfl _ _ _ _ _ _ _
       show WL _ _ _ _ _ _ _
       refine mw (vb (decide ((((F_impl_RoomFor (F_impl_Gain ((d0).1) ((d0).2.1) ((d0).2.2)) ((d0).2.1)) - (F_impl_RoomFor ((d0).1) ((d0).2.1))) % 3) = 0))) ?_
       exact f1
      ·intro _ w15 k294 _
       rintro _ rfl _ rfl _ rfl _ rfl _ rfl _ rfl _ rfl _ rfl _ rfl _ rfl _ rfl _ rfl _ rfl _ rfl _ rfl _ rfl _ rfl _ rfl _ rfl _ rfl _ rfl _ rfl _ rfl _ rfl _ rfl _ rfl _ _ _ _ _ _
       show WL _ _ _ _ _ _ _
       refine mv (vi ((d0).2.2)) (wS h179) ?_
       exact f1
      ·intro _ w15 k298 _
       rintro _ rfl _ rfl _ rfl _ rfl _ rfl _ rfl _ rfl _ rfl _ rfl _ rfl _ rfl _ rfl _ rfl _ rfl _ rfl _ rfl _ rfl _ rfl _ rfl _ rfl _ rfl _ rfl _ rfl _ rfl _ rfl _ rfl _ rfl _ _ _ _ _
       show WL _ _ _ _ _ _ _
       refine pu (vb (decide ((d0).2.2 < 0))) (wS h179) ?_
       exact f1
      ·intro _ w15 k302 _
       rintro _ rfl _ rfl _ rfl _ rfl _ rfl _ rfl _ rfl _ rfl _ rfl _ rfl _ rfl _ rfl _ rfl _ rfl _ rfl _ rfl _ rfl _ rfl _ rfl _ rfl _ rfl _ rfl _ rfl _ rfl _ rfl _ rfl _ rfl _ rfl _ _ _ _
       show WL _ _ _ _ _ _ _
       refine mv (vb (decide ((d0).2.2 < 0))) (wS h179) ?_
       exact f1
      ·intro _ w15 k306 _
       rintro _ rfl _ rfl _ rfl _ rfl _ rfl _ rfl _ rfl _ rfl _ rfl _ rfl _ rfl _ rfl _ rfl _ rfl _ rfl _ rfl _ rfl _ rfl _ rfl _ rfl _ rfl _ rfl _ rfl _ rfl _ rfl _ rfl _ rfl _ rfl _ rfl _ _ _
       show WL _ _ _ _ _ _ _
       refine sk h186 ?_
       exact f1
      ·intro _ w15 k310 _
       rintro _ rfl _ rfl _ rfl _ rfl _ rfl _ rfl _ rfl _ rfl _ rfl _ rfl _ rfl _ rfl _ rfl _ rfl _ rfl _ rfl _ rfl _ rfl _ rfl _ rfl _ rfl _ rfl _ rfl _ rfl _ rfl _ rfl _ rfl _ rfl _ rfl _ _ _
       show WL _ _ _ _ _ _ _
       refine sk h186 ?_
       exact f1
      ·intro _ w15 k314 _
       rintro _ rfl _ rfl _ rfl _ rfl _ rfl _ rfl _ rfl _ rfl _ rfl _ rfl _ rfl _ rfl _ rfl _ rfl _ rfl _ rfl _ rfl _ rfl _ rfl _ rfl _ rfl _ rfl _ rfl _ rfl _ rfl _ rfl _ rfl _ rfl _ rfl _ _ rfl _
       show WL _ _ _ _ _ _ _
       refine sk h186 ?_
       exact f1
     ·intro _ w15 k318
      have m319 := m153.extk k318
      rintro _ rfl _ rfl _ rfl _ rfl _ rfl _ rfl _ rfl _ rfl _ rfl _ rfl _ rfl _ rfl _ rfl _ rfl _ rfl _ rfl _ rfl _ rfl _ rfl _ rfl _ rfl _ rfl _ rfl _ rfl _ rfl _ rfl _ rfl _ rfl _ rfl _ rfl _ rfl _ rfl
      show WL _ _ _ _ _ _ _
      refine sk h186 ?_
      refine pk (vb true) (wS h179) h186 ?_
      refine pk (vb true) wN h179 ?_
      refine aw (vb true) ?_
      refine n3 ?_
      refine rt (vb true) ?_
      have hF322 : gnLaw x_code d0 = true := by first | (have hxy := gn_eq hi1 (by omega) (by omega); simp only [gnLaw, gnE, gnC, hxy, h8, h68, h76, h116, h158, h165, h172, h179, h186, cond_true, cond_false]; done) | (have hxy := gn_ne (x := F_impl_Gain d0.1 d0.2.1 d0.2.2) (y := F_spec_Gain d0.1 d0.2.1 d0.2.2) i h186 (fun hq => by rw [hq]; simp); unfold gnLaw; rw [hxy]; simp only [h8, h68, h76, h116, h158, h165, h172, h179, h186, cond_true, cond_false])
      exact ⟨d0, m319.keep0, q13, by rw [hF322]⟩
    have q323 := of_decide_eq_false h186
    refine wc_drawT ([(66, [], [], (fun _ v _ => v = (vs a33 (F_impl_Gain ((d0).1) ((d0).2.1) ((d0).2.2)).length c34))), (67, [], [0], (fun _ v w => v = .bool (iCr (F_impl_Gain ((d0).1) ((d0).2.1) ((d0).2.2))))), (68, [], [0, 1], (fun _ v _ => v = (vb (iCr (F_impl_Gain ((d0).1) ((d0).2.1) ((d0).2.2)))))), (69, [], [0, 1, 2], (fun _ v _ => v = (va (L_26 ((d0).2.1))))), (70, [], [0, 1, 2], (fun _ v _ => v = (va (L_26 (F_impl_Near ((F_laws_at x_code 2) % 12)))))), (71, [], [0, 1, 2, 3, 4], (fun _ v _ => v = (vb (decide ((((d0).2.1).Host) = ((F_impl_Near ((F_laws_at x_code 2) % 12)).Host)) && decide ((((d0).2.1).Port) = ((F_impl_Near ((F_laws_at x_code 2) % 12)).Port)))))), (72, [], [0, 1, 2, 3, 4, 5], (fun _ v _ => v = (vb (decide ((((d0).2.1).Host) = ((F_impl_Near ((F_laws_at x_code 2) % 12)).Host)) && decide ((((d0).2.1).Port) = ((F_impl_Near ((F_laws_at x_code 2) % 12)).Port)))))), (73, [], [0, 1, 2, 3, 4, 5, 6], (fun _ v _ => v = U)), (74, [], [0, 1, 2, 3, 4, 5, 6], (fun _ v _ => v = U)), (75, [], [0, 1, 2, 3, 4, 5, 6, 7, 8], (fun _ v _ => v = U)), (76, [], [0, 1, 2, 3, 4, 5, 6], (fun _ v _ => v = U)), (77, [], [0, 1, 2, 3, 4, 5, 6], (fun _ v _ => v = U)), (78, [], [0, 1, 2, 3, 4, 5, 6, 7, 8, 9, 10, 11], (fun _ v _ => v = U)), (79, [], [0, 1, 2, 3, 4, 5, 6, 7, 8, 9, 10, 11, 12], (fun _ v _ => v = U)), (80, [], [0, 1, 2, 3, 4, 5, 6, 7, 8, 9, 10, 11, 12, 13], (fun _ v _ => v = (vb true))), (81, [], [0, 1, 2, 3, 4, 5, 6, 7, 8, 9, 10, 11, 12, 13, 14], (fun _ v _ => v = (vb true))), (82, [], [0, 1, 2, 3, 4, 5, 6, 7, 8, 9, 10, 11, 12, 13, 14, 15], (fun _ v _ => v = (vb true))), (83, [], [0, 1, 2, 3, 4, 5, 6, 7, 8, 9, 10, 11, 12, 13, 14, 15, 16], (fun _ v _ => v = (vi ((F_impl_RoomFor (F_impl_Gain ((d0).1) ((d0).2.1) ((d0).2.2)) ((d0).2.1)) - (F_impl_RoomFor ((d0).1) ((d0).2.1)))))), (84, [], [0, 1, 2, 3, 4, 5, 6, 7, 8, 9, 10, 11, 12, 13, 14, 15, 16, 17], (fun _ v _ => v = (vb (decide (0 ≤ ((F_impl_RoomFor (F_impl_Gain ((d0).1) ((d0).2.1) ((d0).2.2)) ((d0).2.1)) - (F_impl_RoomFor ((d0).1) ((d0).2.1)))))))), (85, [], [0, 1, 2, 3, 4, 5, 6, 7, 8, 9, 10, 11, 12, 13, 14, 15, 16, 17, 18], (fun _ v _ => v = (vb (decide (0 ≤ ((F_impl_RoomFor (F_impl_Gain ((d0).1) ((d0).2.1) ((d0).2.2)) ((d0).2.1)) - (F_impl_RoomFor ((d0).1) ((d0).2.1)))))))), (86, [], [0, 1, 2, 3, 4, 5, 6, 7, 8, 9, 10, 11, 12, 13, 14, 15, 16, 17, 18, 19], (fun _ v _ => v = (vb (decide (0 ≤ ((F_impl_RoomFor (F_impl_Gain ((d0).1) ((d0).2.1) ((d0).2.2)) ((d0).2.1)) - (F_impl_RoomFor ((d0).1) ((d0).2.1)))))))), (87, [], [0, 1, 2, 3, 4, 5, 6, 7, 8, 9, 10, 11, 12, 13, 14, 15, 16, 17, 18, 19, 20], (fun _ v _ => v = (vi ((F_impl_RoomFor (F_impl_Gain ((d0).1) ((d0).2.1) ((d0).2.2)) ((d0).2.1)) - (F_impl_RoomFor ((d0).1) ((d0).2.1)))))), (88, [], [0, 1, 2, 3, 4, 5, 6, 7, 8, 9, 10, 11, 12, 13, 14, 15, 16, 17, 18, 19, 20, 21], (fun _ v _ => v = (vi (((F_impl_RoomFor (F_impl_Gain ((d0).1) ((d0).2.1) ((d0).2.2)) ((d0).2.1)) - (F_impl_RoomFor ((d0).1) ((d0).2.1))) % 3)))), (89, [], [0, 1, 2, 3, 4, 5, 6, 7, 8, 9, 10, 11, 12, 13, 14, 15, 16, 17, 18, 19, 20, 21, 22], (fun _ v _ => v = (vb (decide ((((F_impl_RoomFor (F_impl_Gain ((d0).1) ((d0).2.1) ((d0).2.2)) ((d0).2.1)) - (F_impl_RoomFor ((d0).1) ((d0).2.1))) % 3) = 0))))), (90, [], [0, 1, 2, 3, 4, 5, 6, 7, 8, 9, 10, 11, 12, 13, 14, 15, 16, 17, 18, 19, 20, 21, 22, 23], (fun _ v _ => v = (vb (decide ((((F_impl_RoomFor (F_impl_Gain ((d0).1) ((d0).2.1) ((d0).2.2)) ((d0).2.1)) - (F_impl_RoomFor ((d0).1) ((d0).2.1))) % 3) = 0))))), (91, [], [0, 1, 2, 3, 4, 5, 6, 7, 8, 9, 10, 11, 12, 13, 14, 15, 16, 17, 18, 19, 20, 21, 22, 23, 24], (fun _ v _ => v = (vb (decide ((((F_impl_RoomFor (F_impl_Gain ((d0).1) ((d0).2.1) ((d0).2.2)) ((d0).2.1)) - (F_impl_RoomFor ((d0).1) ((d0).2.1))) % 3) = 0))))), (92, [], [0, 1, 2, 3, 4, 5, 6, 7, 8, 9, 10, 11, 12, 13, 14, 15, 16, 17, 18, 19, 20, 21, 22, 23, 24, 25], (fun _ v _ => v = (vi ((d0).2.2)))), (93, [], [0, 1, 2, 3, 4, 5, 6, 7, 8, 9, 10, 11, 12, 13, 14, 15, 16, 17, 18, 19, 20, 21, 22, 23, 24, 25, 26], (fun _ v _ => v = (vb (decide ((d0).2.2 < 0))))), (94, [], [0, 1, 2, 3, 4, 5, 6, 7, 8, 9, 10, 11, 12, 13, 14, 15, 16, 17, 18, 19, 20, 21, 22, 23, 24, 25, 26, 27], (fun _ v _ => v = (vb (decide ((d0).2.2 < 0))))), (95, [], [0, 1, 2, 3, 4, 5, 6, 7, 8, 9, 10, 11, 12, 13, 14, 15, 16, 17, 18, 19, 20, 21, 22, 23, 24, 25, 26, 27, 28], (fun _ v _ => v = (vi ((F_impl_RoomFor (F_impl_Gain ((d0).1) ((d0).2.1) ((d0).2.2)) ((d0).2.1)) - (F_impl_RoomFor ((d0).1) ((d0).2.1)))))), (96, [], [0, 1, 2, 3, 4, 5, 6, 7, 8, 9, 10, 11, 12, 13, 14, 15, 16, 17, 18, 19, 20, 21, 22, 23, 24, 25, 26, 27, 28], (fun _ v _ => v = (vi ((d0).2.2)))), (97, [], [0, 1, 2, 3, 4, 5, 6, 7, 8, 9, 10, 11, 12, 13, 14, 15, 16, 17, 18, 19, 20, 21, 22, 23, 24, 25, 26, 27, 28, 30], (fun _ v _ => v = (vi (3 * ((d0).2.2)))))] : GV) (fun _ w' => Keep w14 w') [] mixed rfl (by kernel_rfl) (by kernel_rfl) ?_ (fun _ _ h => h) (fun _ _ _ _ h _ k => h.trans k) trivial ?_ ?_ ?_
    ·exact ⟨hV, hE, ⟨hV, hE, ⟨hV, hE, ⟨hV, hE, ⟨hV, hE, ⟨hV, hE, ⟨hV, hE, ⟨hV, hE, ⟨hV, hE, ⟨hV, hE, ⟨hV, hE, ⟨hV, hE, ⟨hV, hE, ⟨hV, hE, ⟨hV, hE, ⟨hV, hE, ⟨hV, hE, ⟨hV, hE, ⟨hV, hE, ⟨hV, hE, ⟨hV, hE, ⟨hV, hE, ⟨hV, hE, ⟨hV, hE, ⟨hV, hE, ⟨hV, hE, ⟨hV, hE, ⟨hV, hE, ⟨hV, hE, ⟨hV, hE, ⟨hV, hE, ⟨hV, hE, trivial⟩⟩⟩⟩⟩⟩⟩⟩⟩⟩⟩⟩⟩⟩⟩⟩⟩⟩⟩⟩⟩⟩⟩⟩⟩⟩⟩⟩⟩⟩⟩⟩
    ·exact trivial
    ·refine ⟨?_, ⟨?_, ⟨?_, ⟨?_, ⟨?_, ⟨?_, ⟨?_, ⟨?_, ⟨?_, ⟨?_, ⟨?_, ⟨?_, ⟨?_, ⟨?_, ⟨?_, ⟨?_, ⟨?_, ⟨?_, ⟨?_, ⟨?_, ⟨?_, ⟨?_, ⟨?_, ⟨?_, ⟨?_, ⟨?_, ⟨?_, ⟨?_, ⟨?_, ⟨?_, ⟨?_, ⟨?_, trivial⟩⟩⟩⟩⟩⟩⟩⟩⟩⟩⟩⟩⟩⟩⟩⟩⟩⟩⟩⟩⟩⟩⟩⟩⟩⟩⟩⟩⟩⟩⟩⟩
     ·intro _ w15 k331 _
      rintro _ _ _ _ _ _ _ _ _ _ _ _ _ _ _ _ _ _ _ _ _ _ _ _ _ _ _ _ _ _ _ _
      show WL _ _ _ _ _ _ _
      refine mw (vs a33 (F_impl_Gain ((d0).1) ((d0).2.1) ((d0).2.2)).length c34) ?_
      exact f1
     ·intro _ w15 k333 _
      rintro _ rfl _ _ _ _ _ _ _ _ _ _ _ _ _ _ _ _ _ _ _ _ _ _ _ _ _ _ _ _ _ _ _
      show WL _ _ _ _ _ _ _
      have o335 := (own_kp (own_kp (own_kp (own_kp o75 k114) k146) k152) k333)
      refine cl wN (C_impl_CreditsOk w15 _ (F_impl_Gain ((d0).1) ((d0).2.1) ((d0).2.2)) (mR_24 (Rd.of_own o335) s36)) ?_
      rintro _ w16 ⟨k336, rfl⟩
      exact wl_finT k336 rfl
     ·intro _ w15 k338 _
      rintro _ rfl _ rfl _ _ _ _ _ _ _ _ _ _ _ _ _ _ _ _ _ _ _ _ _ _ _ _ _ _ _ _ _ _
      show WL _ _ _ _ _ _ _
      refine mw (vb (iCr (F_impl_Gain ((d0).1) ((d0).2.1) ((d0).2.2)))) ?_
      exact f1
     ·intro _ w15 k340 _
      rintro _ rfl _ rfl _ rfl _ _ _ _ _ _ _ _ _ _ _ _ _ _ _ _ _ _ _ _ _ _ _ _ _ _ _ _ _
      show WL _ _ _ _ _ _ _
      have b342 := ((((((b56.kp k58).ch k72 (Nat.not_le.2 (Nat.lt_of_lt_of_le p23 (z7 k27 k32 k41 k44 k49 k52 k58)))).kp k114).kp k146).kp k152).kp k340)
      refine lN (L_26 ((d0).2.1)) (wS h158) isAgg_26 sizeOf_26 b342 ?_
      exact f1
     ·intro _ w15 k343 _
      rintro _ rfl _ rfl _ rfl _ _ _ _ _ _ _ _ _ _ _ _ _ _ _ _ _ _ _ _ _ _ _ _ _ _ _ _ _
      show WL _ _ _ _ _ _ _
      have b345 := ((((((b53.kp k58).ch k72 (Nat.not_le.2 (Nat.lt_of_lt_of_le p48 (z2 k52 k58)))).kp k114).kp k146).kp k152).kp k343)
      refine lN (L_26 (F_impl_Near ((F_laws_at x_code 2) % 12))) (wS h158) isAgg_26 sizeOf_26 b345 ?_
      exact f1
     ·intro _ w15 k346 _
      rintro _ rfl _ rfl _ rfl _ rfl _ rfl _ _ _ _ _ _ _ _ _ _ _ _ _ _ _ _ _ _ _ _ _ _ _ _ _ _ _
      show WL _ _ _ _ _ _ _
      refine wl_aggeq ((decide ((((d0).2.1).Host) = ((F_impl_Near ((F_laws_at x_code 2) % 12)).Host)) && decide ((((d0).2.1).Port) = ((F_impl_Near ((F_laws_at x_code 2) % 12)).Port)))) (wS h158) rfl rfl rfl rfl rfl guardt_26 (aggeq_26 (((d0).2.1).Host) ((F_impl_Near ((F_laws_at x_code 2) % 12)).Host) (((d0).2.1).Port) ((F_impl_Near ((F_laws_at x_code 2) % 12)).Port) w15) ?_
      exact f1
     ·intro _ w15 k350 _
      rintro _ rfl _ rfl _ rfl _ rfl _ rfl _ rfl _ _ _ _ _ _ _ _ _ _ _ _ _ _ _ _ _ _ _ _ _ _ _ _ _ _
      show WL _ _ _ _ _ _ _
      refine mv (vb (decide ((((d0).2.1).Host) = ((F_impl_Near ((F_laws_at x_code 2) % 12)).Host)) && decide ((((d0).2.1).Port) = ((F_impl_Near ((F_laws_at x_code 2) % 12)).Port)))) (wS h158) ?_
      exact f1
     ·intro _ w15 k354 _
      rintro _ rfl _ rfl _ rfl _ rfl _ rfl _ rfl _ rfl _ _ _ _ _ _ _ _ _ _ _ _ _ _ _ _ _ _ _ _ _ _ _ _ _
      show WL _ _ _ _ _ _ _
      refine sk h165 ?_
      exact f1
     ·intro _ w15 k358 _
      rintro _ rfl _ rfl _ rfl _ rfl _ rfl _ rfl _ rfl _ _ _ _ _ _ _ _ _ _ _ _ _ _ _ _ _ _ _ _ _ _ _ _ _
      show WL _ _ _ _ _ _ _
      refine sk h165 ?_
      exact f1
     ·intro _ w15 k362 _
      rintro _ rfl _ rfl _ rfl _ rfl _ rfl _ rfl _ rfl _ rfl _ rfl _ _ _ _ _ _ _ _ _ _ _ _ _ _ _ _ _ _ _ _ _ _ _
      show WL _ _ _ _ _ _ _
      refine sk h165 ?_
      exact f1
     ·intro _ w15 k366 _
      rintro _ rfl _ rfl _ rfl _ rfl _ rfl _ rfl _ rfl _ _ _ _ _ _ _ _ _ _ _ _ _ _ _ _ _ _ _ _ _ _ _ _ _
      show WL _ _ _ _ _ _ _
      refine sk h165 ?_
      exact f1
     ·intro _ w15 k370 _
      rintro _ rfl _ rfl _ rfl _ rfl _ rfl _ rfl _ rfl _ _ _ _ _ _ _ _ _ _ _ _ _ _ _ _ _ _ _ _ _ _ _ _ _
      show WL _ _ _ _ _ _ _
      refine sk h165 ?_
      exact f1
     ·intro _ w15 k374 _
      rintro _ rfl _ rfl _ rfl _ rfl _ rfl _ rfl _ rfl _ rfl _ rfl _ rfl _ rfl _ rfl _ _ _ _ _ _ _ _ _ _ _ _ _ _ _ _ _ _ _ _
      show WL _ _ _ _ _ _ _
      refine sk h165 ?_
      exact f1
     ·intro _ w15 k378 _
      rintro _ rfl _ rfl _ rfl _ rfl _ rfl _ rfl _ rfl _ rfl _ rfl _ rfl _ rfl _ rfl _ rfl _ _ _ _ _ _ _ _ _ _ _ _ _ _ _ _ _ _ _
      show WL _ _ _ _ _ _ _
      refine sk h165 ?_
      exact f1
     ·intro _ w15 k382 _
      rintro _ rfl _ rfl _ rfl _ rfl _ rfl _ rfl _ rfl _ rfl _ rfl _ rfl _ rfl _ rfl _ rfl _ rfl _ _ _ _ _ _ _ _ _ _ _ _ _ _ _ _ _ _
      show WL _ _ _ _ _ _ _
      refine pk (vb true) (wS h158) h165 ?_
      exact f1
     ·intro _ w15 k386 _
      rintro _ rfl _ rfl _ rfl _ rfl _ rfl _ rfl _ rfl _ rfl _ rfl _ rfl _ rfl _ rfl _ rfl _ rfl _ rfl _ _ _ _ _ _ _ _ _ _ _ _ _ _ _ _ _
      show WL _ _ _ _ _ _ _
      refine pk (vb true) wN h158 ?_
      exact f1
     ·intro _ w15 k390 _
      rintro _ rfl _ rfl _ rfl _ rfl _ rfl _ rfl _ rfl _ rfl _ rfl _ rfl _ rfl _ rfl _ rfl _ rfl _ rfl _ rfl _ _ _ _ _ _ _ _ _ _ _ _ _ _ _ _
      show WL _ _ _ _ _ _ _
      refine mw (vb true) ?_
      exact f1
     ·intro _ w15 k394 _
      rintro _ rfl _ rfl _ rfl _ rfl _ rfl _ rfl _ rfl _ rfl _ rfl _ rfl _ rfl _ rfl _ rfl _ rfl _ rfl _ rfl _ rfl _ _ _ _ _ _ _ _ _ _ _ _ _ _ _
      show WL _ _ _ _ _ _ _
      refine mv (vi ((F_impl_RoomFor (F_impl_Gain ((d0).1) ((d0).2.1) ((d0).2.2)) ((d0).2.1)) - (F_impl_RoomFor ((d0).1) ((d0).2.1)))) (wS (Eq.refl true)) ?_
      exact f1
     ·intro _ w15 k398 _
      rintro _ rfl _ rfl _ rfl _ rfl _ rfl _ rfl _ rfl _ rfl _ rfl _ rfl _ rfl _ rfl _ rfl _ rfl _ rfl _ rfl _ rfl _ rfl _ _ _ _ _ _ _ _ _ _ _ _ _ _
      show WL _ _ _ _ _ _ _
      refine pu (vb (decide (0 ≤ ((F_impl_RoomFor (F_impl_Gain ((d0).1) ((d0).2.1) ((d0).2.2)) ((d0).2.1)) - (F_impl_RoomFor ((d0).1) ((d0).2.1)))))) (wS (Eq.refl true)) ?_
      exact f1
     ·intro _ w15 k402 _
      rintro _ rfl _ rfl _ rfl _ rfl _ rfl _ rfl _ rfl _ rfl _ rfl _ rfl _ rfl _ rfl _ rfl _ rfl _ rfl _ rfl _ rfl _ rfl _ rfl _ _ _ _ _ _ _ _ _ _ _ _ _
      show WL _ _ _ _ _ _ _
      refine pk (vb (decide (0 ≤ ((F_impl_RoomFor (F_impl_Gain ((d0).1) ((d0).2.1) ((d0).2.2)) ((d0).2.1)) - (F_impl_RoomFor ((d0).1) ((d0).2.1)))))) wN (Eq.refl true) ?_
      exact f1
     ·intro _ w15 k406 _
      rintro _ rfl _ rfl _ rfl _ rfl _ rfl _ rfl _ rfl _ rfl _ rfl _ rfl _ rfl _ rfl _ rfl _ rfl _ rfl _ rfl _ rfl _ rfl _ rfl _ rfl _ _ _ _ _ _ _ _ _ _ _ _
      show WL _ _ _ _ _ _ _
      refine mw (vb (decide (0 ≤ ((F_impl_RoomFor (F_impl_Gain ((d0).1) ((d0).2.1) ((d0).2.2)) ((d0).2.1)) - (F_impl_RoomFor ((d0).1) ((d0).2.1)))))) ?_
      exact f1
     ·intro _ w15 k410 _
      rintro _ rfl _ rfl _ rfl _ rfl _ rfl _ rfl _ rfl _ rfl _ rfl _ rfl _ rfl _ rfl _ rfl _ rfl _ rfl _ rfl _ rfl _ rfl _ rfl _ rfl _ rfl _ _ _ _ _ _ _ _ _ _ _
      show WL _ _ _ _ _ _ _
      refine mv (vi ((F_impl_RoomFor (F_impl_Gain ((d0).1) ((d0).2.1) ((d0).2.2)) ((d0).2.1)) - (F_impl_RoomFor ((d0).1) ((d0).2.1)))) (wS h172) ?_
      exact f1
     ·intro _ w15 k414 _
      rintro _ rfl _ rfl _ rfl _ rfl _ rfl _ rfl _ rfl _ rfl _ rfl _ rfl _ rfl _ rfl _ rfl _ rfl _ rfl _ rfl _ rfl _ rfl _ rfl _ rfl _ rfl _ rfl _ _ _ _ _ _ _ _ _ _
      show WL _ _ _ _ _ _ _
      refine wl_rem ((F_impl_RoomFor (F_impl_Gain ((d0).1) ((d0).2.1) ((d0).2.2)) ((d0).2.1)) - (F_impl_RoomFor ((d0).1) ((d0).2.1))) 3 (wS h172) rfl rfl (by kernel_rfl) (by first | omega | assumption) ?_
      exact f1
     ·intro _ w15 k418 _
      rintro _ rfl _ rfl _ rfl _ rfl _ rfl _ rfl _ rfl _ rfl _ rfl _ rfl _ rfl _ rfl _ rfl _ rfl _ rfl _ rfl _ rfl _ rfl _ rfl _ rfl _ rfl _ rfl _ rfl _ _ _ _ _ _ _ _ _
      show WL _ _ _ _ _ _ _
      refine pu (vb (decide ((((F_impl_RoomFor (F_impl_Gain ((d0).1) ((d0).2.1) ((d0).2.2)) ((d0).2.1)) - (F_impl_RoomFor ((d0).1) ((d0).2.1))) % 3) = 0))) (wS h172) ?_
      exact f1
     ·intro _ w15 k422 _
      rintro _ rfl _ rfl _ rfl _ rfl _ rfl _ rfl _ rfl _ rfl _ rfl _ rfl _ rfl _ rfl _ rfl _ rfl _ rfl _ rfl _ rfl _ rfl _ rfl _ rfl _ rfl _ rfl _ rfl _ rfl _ _ _ _ _ _ _ _
      show WL _ _ _ _ _ _ _
      refine pk (vb (decide ((((F_impl_RoomFor (F_impl_Gain ((d0).1) ((d0).2.1) ((d0).2.2)) ((d0).2.1)) - (F_impl_RoomFor ((d0).1) ((d0).2.1))) % 3) = 0))) wN h172 ?_
      exact f1
     ·intro _ w15 k426 _
      rintro _ rfl _ rfl _ rfl _ rfl _ rfl _ rfl _ rfl _ rfl _ rfl _ rfl _ rfl _ rfl _ rfl _ rfl _ rfl _ rfl _ rfl _ rfl _ rfl _ rfl _ rfl _ rfl _ rfl _ rfl _ rfl _ _ _ _ _ _ _
      show WL _ _ _ _ _ _ _
      refine mw (vb (decide ((((F_impl_RoomFor (F_impl_Gain ((d0).1) ((d0).2.1) ((d0).2.2)) ((d0).2.1)) - (F_impl_RoomFor ((d0).1) ((d0).2.1))) % 3) = 0))) ?_
      exact f1
     ·intro _ w15 k430 _
      rintro _ rfl _ rfl _ rfl _ rfl _ rfl _ rfl _ rfl _ rfl _ rfl _ rfl _ rfl _ rfl _ rfl _ rfl _ rfl _ rfl _ rfl _ rfl _ rfl _ rfl _ rfl _ rfl _ rfl _ rfl _ rfl _ rfl _ _ _ _ _ _
      show WL _ _ _ _ _ _ _
      refine mv (vi ((d0).2.2)) (wS h179) ?_
      exact f1
     ·intro _ w15 k434 _
      rintro _ rfl _ rfl _ rfl _ rfl _ rfl _ rfl _ rfl _ rfl _ rfl _ rfl _ rfl _ rfl _ rfl _ rfl _ rfl _ rfl _ rfl _ rfl _ rfl _ rfl _ rfl _ rfl _ rfl _ rfl _ rfl _ rfl _ rfl _ _ _ _ _
      show WL _ _ _ _ _ _ _
      refine pu (vb (decide ((d0).2.2 < 0))) (wS h179) ?_
      exact f1
     ·intro _ w15 k438 _
      rintro _ rfl _ rfl _ rfl _ rfl _ rfl _ rfl _ rfl _ rfl _ rfl _ rfl _ rfl _ rfl _ rfl _ rfl _ rfl _ rfl _ rfl _ rfl _ rfl _ rfl _ rfl _ rfl _ rfl _ rfl _ rfl _ rfl _ rfl _ rfl _ _ _ _
      show WL _ _ _ _ _ _ _
      refine mv (vb (decide ((d0).2.2 < 0))) (wS h179) ?_
      exact f1
     ·intro _ w15 k442 _
      rintro _ rfl _ rfl _ rfl _ rfl _ rfl _ rfl _ rfl _ rfl _ rfl _ rfl _ rfl _ rfl _ rfl _ rfl _ rfl _ rfl _ rfl _ rfl _ rfl _ rfl _ rfl _ rfl _ rfl _ rfl _ rfl _ rfl _ rfl _ rfl _ rfl _ _ _
      show WL _ _ _ _ _ _ _
      refine mv (vi ((F_impl_RoomFor (F_impl_Gain ((d0).1) ((d0).2.1) ((d0).2.2)) ((d0).2.1)) - (F_impl_RoomFor ((d0).1) ((d0).2.1)))) (wS h186) ?_
      exact f1
     ·intro _ w15 k446 _
      rintro _ rfl _ rfl _ rfl _ rfl _ rfl _ rfl _ rfl _ rfl _ rfl _ rfl _ rfl _ rfl _ rfl _ rfl _ rfl _ rfl _ rfl _ rfl _ rfl _ rfl _ rfl _ rfl _ rfl _ rfl _ rfl _ rfl _ rfl _ rfl _ rfl _ _ _
      show WL _ _ _ _ _ _ _
      refine mv (vi ((d0).2.2)) (wS h186) ?_
      exact f1
     ·intro _ w15 k450 _
      rintro _ rfl _ rfl _ rfl _ rfl _ rfl _ rfl _ rfl _ rfl _ rfl _ rfl _ rfl _ rfl _ rfl _ rfl _ rfl _ rfl _ rfl _ rfl _ rfl _ rfl _ rfl _ rfl _ rfl _ rfl _ rfl _ rfl _ rfl _ rfl _ rfl _ _ rfl _
      show WL _ _ _ _ _ _ _
      refine ar (3 * ((d0).2.2)) (wS h186) ?_
      exact f1
    ·intro _ w15 k454
     have m455 := m153.extk k454
     rintro _ rfl _ rfl _ rfl _ rfl _ rfl _ rfl _ rfl _ rfl _ rfl _ rfl _ rfl _ rfl _ rfl _ rfl _ rfl _ rfl _ rfl _ rfl _ rfl _ rfl _ rfl _ rfl _ rfl _ rfl _ rfl _ rfl _ rfl _ rfl _ rfl _ rfl _ rfl _ rfl
     show WL _ _ _ _ _ _ _
     refine pu (vb (decide (((F_impl_RoomFor (F_impl_Gain ((d0).1) ((d0).2.1) ((d0).2.2)) ((d0).2.1)) - (F_impl_RoomFor ((d0).1) ((d0).2.1))) ≤ (3 * ((d0).2.2))))) (wS h186) ?_
     refine pf (vb (decide (((F_impl_RoomFor (F_impl_Gain ((d0).1) ((d0).2.1) ((d0).2.2)) ((d0).2.1)) - (F_impl_RoomFor ((d0).1) ((d0).2.1))) ≤ (3 * ((d0).2.2))))) (wS h179) h186 ?_
     refine pk (vb (decide (((F_impl_RoomFor (F_impl_Gain ((d0).1) ((d0).2.1) ((d0).2.2)) ((d0).2.1)) - (F_impl_RoomFor ((d0).1) ((d0).2.1))) ≤ (3 * ((d0).2.2))))) wN h179 ?_
     refine aw (vb (decide (((F_impl_RoomFor (F_impl_Gain ((d0).1) ((d0).2.1) ((d0).2.2)) ((d0).2.1)) - (F_impl_RoomFor ((d0).1) ((d0).2.1))) ≤ (3 * ((d0).2.2))))) ?_
     refine n3 ?_
     refine rt (vb (decide (((F_impl_RoomFor (F_impl_Gain ((d0).1) ((d0).2.1) ((d0).2.2)) ((d0).2.1)) - (F_impl_RoomFor ((d0).1) ((d0).2.1))) ≤ (3 * ((d0).2.2))))) ?_
     have hF458 : gnLaw x_code d0 = decide (((F_impl_RoomFor (F_impl_Gain ((d0).1) ((d0).2.1) ((d0).2.2)) ((d0).2.1)) - (F_impl_RoomFor ((d0).1) ((d0).2.1))) ≤ (3 * ((d0).2.2))) := by first | (have hxy := gn_eq hi1 (by omega) (by omega); simp only [gnLaw, gnE, gnC, hxy, h8, h68, h76, h116, h158, h165, h172, h179, h186, cond_true, cond_false]; done) | (have hxy := gn_ne (x := F_impl_Gain d0.1 d0.2.1 d0.2.2) (y := F_spec_Gain d0.1 d0.2.1 d0.2.2) i h186 (fun hq => by rw [hq]; simp); unfold gnLaw; rw [hxy]; simp only [h8, h68, h76, h116, h158, h165, h172, h179, h186, cond_true, cond_false])
     exact ⟨d0, m455.keep0, q13, by rw [hF458]⟩
   rcases bf (decide ((F_impl_RoomFor (F_impl_Gain ((d0).1) ((d0).2.1) ((d0).2.2)) (F_impl_Near ((F_laws_at x_code 2) % 12))) = (F_impl_RoomFor ((d0).1) (F_impl_Near ((F_laws_at x_code 2) % 12))))) with h746 | h746
   ·have q1751 := of_decide_eq_false h746
    refine wc_drawT ([(66, [], [], (fun _ v _ => v = (vs a33 (F_impl_Gain ((d0).1) ((d0).2.1) ((d0).2.2)).length c34))), (67, [], [0], (fun _ v w => v = .bool (iCr (F_impl_Gain ((d0).1) ((d0).2.1) ((d0).2.2))))), (68, [], [0, 1], (fun _ v _ => v = (vb (iCr (F_impl_Gain ((d0).1) ((d0).2.1) ((d0).2.2)))))), (69, [], [0, 1, 2], (fun _ v _ => v = (va (L_26 ((d0).2.1))))), (70, [], [0, 1, 2], (fun _ v _ => v = (va (L_26 (F_impl_Near ((F_laws_at x_code 2) % 12)))))), (71, [], [0, 1, 2, 3, 4], (fun _ v _ => v = (vb (decide ((((d0).2.1).Host) = ((F_impl_Near ((F_laws_at x_code 2) % 12)).Host)) && decide ((((d0).2.1).Port) = ((F_impl_Near ((F_laws_at x_code 2) % 12)).Port)))))), (72, [], [0, 1, 2, 3, 4, 5], (fun _ v _ => v = (vb (decide ((((d0).2.1).Host) = ((F_impl_Near ((F_laws_at x_code 2) % 12)).Host)) && decide ((((d0).2.1).Port) = ((F_impl_Near ((F_laws_at x_code 2) % 12)).Port)))))), (73, [], [0, 1, 2, 3, 4, 5, 6], (fun _ v _ => v = (vs a33 (F_impl_Gain ((d0).1) ((d0).2.1) ((d0).2.2)).length c34))), (74, [], [0, 1, 2, 3, 4, 5, 6], (fun _ v _ => v = (va (L_26 (F_impl_Near ((F_laws_at x_code 2) % 12)))))), (75, [], [0, 1, 2, 3, 4, 5, 6, 7, 8], (fun _ v w => v = .int .i64 (F_impl_RoomFor (F_impl_Gain ((d0).1) ((d0).2.1) ((d0).2.2)) (F_impl_Near ((F_laws_at x_code 2) % 12))))), (76, [], [0, 1, 2, 3, 4, 5, 6], (fun _ v _ => v = (vs a14 ((d0).1).length c15))), (77, [], [0, 1, 2, 3, 4, 5, 6], (fun _ v _ => v = (va (L_26 (F_impl_Near ((F_laws_at x_code 2) % 12)))))), (78, [], [0, 1, 2, 3, 4, 5, 6, 7, 8, 9, 10, 11], (fun _ v w => v = .int .i64 (F_impl_RoomFor ((d0).1) (F_impl_Near ((F_laws_at x_code 2) % 12))))), (79, [], [0, 1, 2, 3, 4, 5, 6, 7, 8, 9, 10, 11, 12], (fun _ v _ => v = (vb (decide ((F_impl_RoomFor (F_impl_Gain ((d0).1) ((d0).2.1) ((d0).2.2)) (F_impl_Near ((F_laws_at x_code 2) % 12))) = (F_impl_RoomFor ((d0).1) (F_impl_Near ((F_laws_at x_code 2) % 12)))))))), (80, [], [0, 1, 2, 3, 4, 5, 6, 7, 8, 9, 10, 11, 12, 13], (fun _ v _ => v = (vb (decide ((F_impl_RoomFor (F_impl_Gain ((d0).1) ((d0).2.1) ((d0).2.2)) (F_impl_Near ((F_laws_at x_code 2) % 12))) = (F_impl_RoomFor ((d0).1) (F_impl_Near ((F_laws_at x_code 2) % 12)))))))), (81, [], [0, 1, 2, 3, 4, 5, 6, 7, 8, 9, 10, 11, 12, 13, 14], (fun _ v _ => v = (vb (decide ((F_impl_RoomFor (F_impl_Gain ((d0).1) ((d0).2.1) ((d0).2.2)) (F_impl_Near ((F_laws_at x_code 2) % 12))) = (F_impl_RoomFor ((d0).1) (F_impl_Near ((F_laws_at x_code 2) % 12)))))))), (82, [], [0, 1, 2, 3, 4, 5, 6, 7, 8, 9, 10, 11, 12, 13, 14, 15], (fun _ v _ => v = (vb (decide ((F_impl_RoomFor (F_impl_Gain ((d0).1) ((d0).2.1) ((d0).2.2)) (F_impl_Near ((F_laws_at x_code 2) % 12))) = (F_impl_RoomFor ((d0).1) (F_impl_Near ((F_laws_at x_code 2) % 12)))))))), (83, [], [0, 1, 2, 3, 4, 5, 6, 7, 8, 9, 10, 11, 12, 13, 14, 15, 16], (fun _ v _ => v = U)), (84, [], [0, 1, 2, 3, 4, 5, 6, 7, 8, 9, 10, 11, 12, 13, 14, 15, 16, 17], (fun _ v _ => v = U)), (85, [], [0, 1, 2, 3, 4, 5, 6, 7, 8, 9, 10, 11, 12, 13, 14, 15, 16, 17, 18], (fun _ v _ => v = (vb false))), (86, [], [0, 1, 2, 3, 4, 5, 6, 7, 8, 9, 10, 11, 12, 13, 14, 15, 16, 17, 18, 19], (fun _ v _ => v = (vb false))), (87, [], [0, 1, 2, 3, 4, 5, 6, 7, 8, 9, 10, 11, 12, 13, 14, 15, 16, 17, 18, 19, 20], (fun _ v _ => v = U)), (88, [], [0, 1, 2, 3, 4, 5, 6, 7, 8, 9, 10, 11, 12, 13, 14, 15, 16, 17, 18, 19, 20, 21], (fun _ v _ => v = U)), (89, [], [0, 1, 2, 3, 4, 5, 6, 7, 8, 9, 10, 11, 12, 13, 14, 15, 16, 17, 18, 19, 20, 21, 22], (fun _ v _ => v = U)), (90, [], [0, 1, 2, 3, 4, 5, 6, 7, 8, 9, 10, 11, 12, 13, 14, 15, 16, 17, 18, 19, 20, 21, 22, 23], (fun _ v _ => v = (vb false))), (91, [], [0, 1, 2, 3, 4, 5, 6, 7, 8, 9, 10, 11, 12, 13, 14, 15, 16, 17, 18, 19, 20, 21, 22, 23, 24], (fun _ v _ => v = (vb false))), (92, [], [0, 1, 2, 3, 4, 5, 6, 7, 8, 9, 10, 11, 12, 13, 14, 15, 16, 17, 18, 19, 20, 21, 22, 23, 24, 25], (fun _ v _ => v = U)), (93, [], [0, 1, 2, 3, 4, 5, 6, 7, 8, 9, 10, 11, 12, 13, 14, 15, 16, 17, 18, 19, 20, 21, 22, 23, 24, 25, 26], (fun _ v _ => v = U)), (94, [], [0, 1, 2, 3, 4, 5, 6, 7, 8, 9, 10, 11, 12, 13, 14, 15, 16, 17, 18, 19, 20, 21, 22, 23, 24, 25, 26, 27], (fun _ v _ => v = U)), (95, [], [0, 1, 2, 3, 4, 5, 6, 7, 8, 9, 10, 11, 12, 13, 14, 15, 16, 17, 18, 19, 20, 21, 22, 23, 24, 25, 26, 27, 28], (fun _ v _ => v = U)), (96, [], [0, 1, 2, 3, 4, 5, 6, 7, 8, 9, 10, 11, 12, 13, 14, 15, 16, 17, 18, 19, 20, 21, 22, 23, 24, 25, 26, 27, 28], (fun _ v _ => v = U)), (97, [], [0, 1, 2, 3, 4, 5, 6, 7, 8, 9, 10, 11, 12, 13, 14, 15, 16, 17, 18, 19, 20, 21, 22, 23, 24, 25, 26, 27, 28, 30], (fun _ v _ => v = U))] : GV) (fun _ w' => Keep w14 w') [] mixed rfl (by kernel_rfl) (by kernel_rfl) ?_ (fun _ _ h => h) (fun _ _ _ _ h _ k => h.trans k) trivial ?_ ?_ ?_
    ·exact ⟨hV, hE, ⟨hV, hE, ⟨hV, hE, ⟨hV, hE, ⟨hV, hE, ⟨hV, hE, ⟨hV, hE, ⟨hV, hE, ⟨hV, hE, ⟨hV, hE, ⟨hV, hE, ⟨hV, hE, ⟨hV, hE, ⟨hV, hE, ⟨hV, hE, ⟨hV, hE, ⟨hV, hE, ⟨hV, hE, ⟨hV, hE, ⟨hV, hE, ⟨hV, hE, ⟨hV, hE, ⟨hV, hE, ⟨hV, hE, ⟨hV, hE, ⟨hV, hE, ⟨hV, hE, ⟨hV, hE, ⟨hV, hE, ⟨hV, hE, ⟨hV, hE, ⟨hV, hE, trivial⟩⟩⟩⟩⟩⟩⟩⟩⟩⟩⟩⟩⟩⟩⟩⟩⟩⟩⟩⟩⟩⟩⟩⟩⟩⟩⟩⟩⟩⟩⟩⟩
    ·exact trivial
    ·refine ⟨?_, ⟨?_, ⟨?_, ⟨?_, ⟨?_, ⟨?_, ⟨?_, ⟨?_, ⟨?_, ⟨?_, ⟨?_, ⟨?_, ⟨?_, ⟨?_, ⟨?_, ⟨?_, ⟨?_, ⟨?_, ⟨?_, ⟨?_, ⟨?_, ⟨?_, ⟨?_, ⟨?_, ⟨?_, ⟨?_, ⟨?_, ⟨?_, ⟨?_, ⟨?_, ⟨?_, ⟨?_, trivial⟩⟩⟩⟩⟩⟩⟩⟩⟩⟩⟩⟩⟩⟩⟩⟩⟩⟩⟩⟩⟩⟩⟩⟩⟩⟩⟩⟩⟩⟩⟩⟩
     ·intro _ w15 k1768 _
      rintro _ _ _ _ _ _ _ _ _ _ _ _ _ _ _ _ _ _ _ _ _ _ _ _ _ _ _ _ _ _ _ _
      show WL _ _ _ _ _ _ _
      refine mw (vs a33 (F_impl_Gain ((d0).1) ((d0).2.1) ((d0).2.2)).length c34) ?_
      exact f1
     ·intro _ w15 k1770 _
      rintro _ rfl _ _ _ _ _ _ _ _ _ _ _ _ _ _ _ _ _ _ _ _ _ _ _ _ _ _ _ _ _ _ _
      show WL _ _ _ _ _ _ _
      have o1772 := (own_kp (own_kp (own_kp (own_kp o75 k114) k146) k152) k1770)
      refine cl wN (C_impl_CreditsOk w15 _ (F_impl_Gain ((d0).1) ((d0).2.1) ((d0).2.2)) (mR_24 (Rd.of_own o1772) s36)) ?_
      rintro _ w16 ⟨k1773, rfl⟩
      exact wl_finT k1773 rfl
     ·intro _ w15 k1775 _
      rintro _ rfl _ rfl _ _ _ _ _ _ _ _ _ _ _ _ _ _ _ _ _ _ _ _ _ _ _ _ _ _ _ _ _ _
      show WL _ _ _ _ _ _ _
      refine mw (vb (iCr (F_impl_Gain ((d0).1) ((d0).2.1) ((d0).2.2)))) ?_
      exact f1
     ·intro _ w15 k1777 _
      rintro _ rfl _ rfl _ rfl _ _ _ _ _ _ _ _ _ _ _ _ _ _ _ _ _ _ _ _ _ _ _ _ _ _ _ _ _
      show WL _ _ _ _ _ _ _
      have b1779 := ((((((b56.kp k58).ch k72 (Nat.not_le.2 (Nat.lt_of_lt_of_le p23 (z7 k27 k32 k41 k44 k49 k52 k58)))).kp k114).kp k146).kp k152).kp k1777)
      refine lN (L_26 ((d0).2.1)) (wS h158) isAgg_26 sizeOf_26 b1779 ?_
      exact f1
     ·intro _ w15 k1780 _
      rintro _ rfl _ rfl _ rfl _ _ _ _ _ _ _ _ _ _ _ _ _ _ _ _ _ _ _ _ _ _ _ _ _ _ _ _ _
      show WL _ _ _ _ _ _ _
      have b1782 := ((((((b53.kp k58).ch k72 (Nat.not_le.2 (Nat.lt_of_lt_of_le p48 (z2 k52 k58)))).kp k114).kp k146).kp k152).kp k1780)
      refine lN (L_26 (F_impl_Near ((F_laws_at x_code 2) % 12))) (wS h158) isAgg_26 sizeOf_26 b1782 ?_
      exact f1
     ·intro _ w15 k1783 _
      rintro _ rfl _ rfl _ rfl _ rfl _ rfl _ _ _ _ _ _ _ _ _ _ _ _ _ _ _ _ _ _ _ _ _ _ _ _ _ _ _
      show WL _ _ _ _ _ _ _
      refine wl_aggeq ((decide ((((d0).2.1).Host) = ((F_impl_Near ((F_laws_at x_code 2) % 12)).Host)) && decide ((((d0).2.1).Port) = ((F_impl_Near ((F_laws_at x_code 2) % 12)).Port)))) (wS h158) rfl rfl rfl rfl rfl guardt_26 (aggeq_26 (((d0).2.1).Host) ((F_impl_Near ((F_laws_at x_code 2) % 12)).Host) (((d0).2.1).Port) ((F_impl_Near ((F_laws_at x_code 2) % 12)).Port) w15) ?_
      exact f1
     ·intro _ w15 k1787 _
      rintro _ rfl _ rfl _ rfl _ rfl _ rfl _ rfl _ _ _ _ _ _ _ _ _ _ _ _ _ _ _ _ _ _ _ _ _ _ _ _ _ _
      show WL _ _ _ _ _ _ _
      refine mv (vb (decide ((((d0).2.1).Host) = ((F_impl_Near ((F_laws_at x_code 2) % 12)).Host)) && decide ((((d0).2.1).Port) = ((F_impl_Near ((F_laws_at x_code 2) % 12)).Port)))) (wS h158) ?_
      exact f1
     ·intro _ w15 k1791 _
      rintro _ rfl _ rfl _ rfl _ rfl _ rfl _ rfl _ rfl _ _ _ _ _ _ _ _ _ _ _ _ _ _ _ _ _ _ _ _ _ _ _ _ _
      show WL _ _ _ _ _ _ _
      refine mv (vs a33 (F_impl_Gain ((d0).1) ((d0).2.1) ((d0).2.2)).length c34) (wS h165) ?_
      exact f1
     ·intro _ w15 k1795 _
      rintro _ rfl _ rfl _ rfl _ rfl _ rfl _ rfl _ rfl _ _ _ _ _ _ _ _ _ _ _ _ _ _ _ _ _ _ _ _ _ _ _ _ _
      show WL _ _ _ _ _ _ _
      have b1799 := ((((((b53.kp k58).ch k72 (Nat.not_le.2 (Nat.lt_of_lt_of_le p48 (z2 k52 k58)))).kp k114).kp k146).kp k152).kp k1795)
      refine lN (L_26 (F_impl_Near ((F_laws_at x_code 2) % 12))) (wS h165) isAgg_26 sizeOf_26 b1799 ?_
      exact f1
     ·intro _ w15 k1800 _
      rintro _ rfl _ rfl _ rfl _ rfl _ rfl _ rfl _ rfl _ rfl _ rfl _ _ _ _ _ _ _ _ _ _ _ _ _ _ _ _ _ _ _ _ _ _ _
      show WL _ _ _ _ _ _ _
      have o1805 := (own_kp (own_kp (own_kp (own_kp o75 k114) k146) k152) k1800)
      refine cl (wS h165) (C_impl_RoomFor w15 _ (F_impl_Gain ((d0).1) ((d0).2.1) ((d0).2.2)) (mR_24 (Rd.of_own o1805) s36) _ (F_impl_Near ((F_laws_at x_code 2) % 12)) (mR_26)) ?_
      rintro _ w16 ⟨k1806, rfl⟩
      have q1808 := iRoom_b (F_impl_Gain ((d0).1) ((d0).2.1) ((d0).2.2)) (F_impl_Near ((F_laws_at x_code 2) % 12))
      exact wl_finT k1806 rfl
     ·intro _ w15 k1809 _
      rintro _ rfl _ rfl _ rfl _ rfl _ rfl _ rfl _ rfl _ _ _ _ _ _ _ _ _ _ _ _ _ _ _ _ _ _ _ _ _ _ _ _ _
      show WL _ _ _ _ _ _ _
      refine mv (vs a14 ((d0).1).length c15) (wS h165) ?_
      exact f1
     ·intro _ w15 k1813 _
      rintro _ rfl _ rfl _ rfl _ rfl _ rfl _ rfl _ rfl _ _ _ _ _ _ _ _ _ _ _ _ _ _ _ _ _ _ _ _ _ _ _ _ _
      show WL _ _ _ _ _ _ _
      have b1817 := ((((((b53.kp k58).ch k72 (Nat.not_le.2 (Nat.lt_of_lt_of_le p48 (z2 k52 k58)))).kp k114).kp k146).kp k152).kp k1813)
      refine lN (L_26 (F_impl_Near ((F_laws_at x_code 2) % 12))) (wS h165) isAgg_26 sizeOf_26 b1817 ?_
      exact f1
     ·intro _ w15 k1818 _
      rintro _ rfl _ rfl _ rfl _ rfl _ rfl _ rfl _ rfl _ rfl _ rfl _ rfl
      have q1823 := iRoom_b (F_impl_Gain ((d0).1) ((d0).2.1) ((d0).2.2)) (F_impl_Near ((F_laws_at x_code 2) % 12))
      rintro _ rfl _ rfl _ _ _ _ _ _ _ _ _ _ _ _ _ _ _ _ _ _ _ _
      show WL _ _ _ _ _ _ _
      have o1825 := (own_kp (own_kp o151 k152) k1818)
      refine cl (wS h165) (C_impl_RoomFor w15 _ ((d0).1) (mR_24 (Rd.of_own o1825) s17) _ (F_impl_Near ((F_laws_at x_code 2) % 12)) (mR_26)) ?_
      rintro _ w16 ⟨k1826, rfl⟩
      have q1828 := iRoom_b ((d0).1) (F_impl_Near ((F_laws_at x_code 2) % 12))
      exact wl_finT k1826 rfl
     ·intro _ w15 k1829 _
      rintro _ rfl _ rfl _ rfl _ rfl _ rfl _ rfl _ rfl _ rfl _ rfl _ rfl
      have q1834 := iRoom_b (F_impl_Gain ((d0).1) ((d0).2.1) ((d0).2.2)) (F_impl_Near ((F_laws_at x_code 2) % 12))
      rintro _ rfl _ rfl _ rfl
      have q1836 := iRoom_b ((d0).1) (F_impl_Near ((F_laws_at x_code 2) % 12))
      rintro _ _ _ _ _ _ _ _ _ _ _ _ _ _ _ _ _ _ _
      show WL _ _ _ _ _ _ _
      refine pu (vb (decide ((F_impl_RoomFor (F_impl_Gain ((d0).1) ((d0).2.1) ((d0).2.2)) (F_impl_Near ((F_laws_at x_code 2) % 12))) = (F_impl_RoomFor ((d0).1) (F_impl_Near ((F_laws_at x_code 2) % 12)))))) (wS h165) ?_
      exact f1
     ·intro _ w15 k1837 _
      rintro _ rfl _ rfl _ rfl _ rfl _ rfl _ rfl _ rfl _ rfl _ rfl _ rfl
      have q1842 := iRoom_b (F_impl_Gain ((d0).1) ((d0).2.1) ((d0).2.2)) (F_impl_Near ((F_laws_at x_code 2) % 12))
      rintro _ rfl _ rfl _ rfl
      have q1844 := iRoom_b ((d0).1) (F_impl_Near ((F_laws_at x_code 2) % 12))
      rintro _ rfl _ _ _ _ _ _ _ _ _ _ _ _ _ _ _ _ _ _
      show WL _ _ _ _ _ _ _
      refine pf (vb (decide ((F_impl_RoomFor (F_impl_Gain ((d0).1) ((d0).2.1) ((d0).2.2)) (F_impl_Near ((F_laws_at x_code 2) % 12))) = (F_impl_RoomFor ((d0).1) (F_impl_Near ((F_laws_at x_code 2) % 12)))))) (wS h158) h165 ?_
      exact f1
     ·intro _ w15 k1845 _
      rintro _ rfl _ rfl _ rfl _ rfl _ rfl _ rfl _ rfl _ rfl _ rfl _ rfl
      have q1850 := iRoom_b (F_impl_Gain ((d0).1) ((d0).2.1) ((d0).2.2)) (F_impl_Near ((F_laws_at x_code 2) % 12))
      rintro _ rfl _ rfl _ rfl
      have q1852 := iRoom_b ((d0).1) (F_impl_Near ((F_laws_at x_code 2) % 12))
      rintro _ rfl _ rfl _ _ _ _ _ _ _ _ _ _ _ _ _ _ _ _ _
      show WL _ _ _ _ _ _ _
      refine pk (vb (decide ((F_impl_RoomFor (F_impl_Gain ((d0).1) ((d0).2.1) ((d0).2.2)) (F_impl_Near ((F_laws_at x_code 2) % 12))) = (F_impl_RoomFor ((d0).1) (F_impl_Near ((F_laws_at x_code 2) % 12)))))) wN h158 ?_
      exact f1
     ·intro _ w15 k1853 _
      rintro _ rfl _ rfl _ rfl _ rfl _ rfl _ rfl _ rfl _ rfl _ rfl _ rfl
      have q1858 := iRoom_b (F_impl_Gain ((d0).1) ((d0).2.1) ((d0).2.2)) (F_impl_Near ((F_laws_at x_code 2) % 12))
      rintro _ rfl _ rfl _ rfl
      have q1860 := iRoom_b ((d0).1) (F_impl_Near ((F_laws_at x_code 2) % 12))
      rintro _ rfl _ rfl _ rfl _ _ _ _ _ _ _ _ _ _ _ _ _ _ _ _
      show WL _ _ _ _ _ _ _
      refine mw (vb (decide ((F_impl_RoomFor (F_impl_Gain ((d0).1) ((d0).2.1) ((d0).2.2)) (F_impl_Near ((F_laws_at x_code 2) % 12))) = (F_impl_RoomFor ((d0).1) (F_impl_Near ((F_laws_at x_code 2) % 12)))))) ?_
      exact f1
     ·intro _ w15 k1861 _
      rintro _ rfl _ rfl _ rfl _ rfl _ rfl _ rfl _ rfl _ rfl _ rfl _ rfl
      have q1866 := iRoom_b (F_impl_Gain ((d0).1) ((d0).2.1) ((d0).2.2)) (F_impl_Near ((F_laws_at x_code 2) % 12))
      rintro _ rfl _ rfl _ rfl
      have q1868 := iRoom_b ((d0).1) (F_impl_Near ((F_laws_at x_code 2) % 12))
      rintro _ rfl _ rfl _ rfl _ rfl _ _ _ _ _ _ _ _ _ _ _ _ _ _ _
      show WL _ _ _ _ _ _ _
      refine sk h746 ?_
      exact f1
     ·intro _ w15 k1869 _
      rintro _ rfl _ rfl _ rfl _ rfl _ rfl _ rfl _ rfl _ rfl _ rfl _ rfl
      have q1874 := iRoom_b (F_impl_Gain ((d0).1) ((d0).2.1) ((d0).2.2)) (F_impl_Near ((F_laws_at x_code 2) % 12))
      rintro _ rfl _ rfl _ rfl
      have q1876 := iRoom_b ((d0).1) (F_impl_Near ((F_laws_at x_code 2) % 12))
      rintro _ rfl _ rfl _ rfl _ rfl _ rfl _ _ _ _ _ _ _ _ _ _ _ _ _ _
      show WL _ _ _ _ _ _ _
      refine sk h746 ?_
      exact f1
     ·intro _ w15 k1877 _
      rintro _ rfl _ rfl _ rfl _ rfl _ rfl _ rfl _ rfl _ rfl _ rfl _ rfl
      have q1882 := iRoom_b (F_impl_Gain ((d0).1) ((d0).2.1) ((d0).2.2)) (F_impl_Near ((F_laws_at x_code 2) % 12))
      rintro _ rfl _ rfl _ rfl
      have q1884 := iRoom_b ((d0).1) (F_impl_Near ((F_laws_at x_code 2) % 12))
      rintro _ rfl _ rfl _ rfl _ rfl _ rfl _ rfl _ _ _ _ _ _ _ _ _ _ _ _ _
      show WL _ _ _ _ _ _ _
      refine pf (vb false) wN h746 ?_
      exact f1
     ·intro _ w15 k1885 _
      rintro _ rfl _ rfl _ rfl _ rfl _ rfl _ rfl _ rfl _ rfl _ rfl _ rfl
      have q1890 := iRoom_b (F_impl_Gain ((d0).1) ((d0).2.1) ((d0).2.2)) (F_impl_Near ((F_laws_at x_code 2) % 12))
      rintro _ rfl _ rfl _ rfl
      have q1892 := iRoom_b ((d0).1) (F_impl_Near ((F_laws_at x_code 2) % 12))
      rintro _ rfl _ rfl _ rfl _ rfl _ rfl _ rfl _ rfl _ _ _ _ _ _ _ _ _ _ _ _
      show WL _ _ _ _ _ _ _
      refine mw (vb false) ?_
      exact f1
     ·intro _ w15 k1893 _
      rintro _ rfl _ rfl _ rfl _ rfl _ rfl _ rfl _ rfl _ rfl _ rfl _ rfl
      have q1898 := iRoom_b (F_impl_Gain ((d0).1) ((d0).2.1) ((d0).2.2)) (F_impl_Near ((F_laws_at x_code 2) % 12))
      rintro _ rfl _ rfl _ rfl
      have q1900 := iRoom_b ((d0).1) (F_impl_Near ((F_laws_at x_code 2) % 12))
      rintro _ rfl _ rfl _ rfl _ rfl _ rfl _ rfl _ rfl _ rfl _ _ _ _ _ _ _ _ _ _ _
      show WL _ _ _ _ _ _ _
      refine sk F1 ?_
      exact f1
     ·intro _ w15 k1901 _
      rintro _ rfl _ rfl _ rfl _ rfl _ rfl _ rfl _ rfl _ rfl _ rfl _ rfl
      have q1906 := iRoom_b (F_impl_Gain ((d0).1) ((d0).2.1) ((d0).2.2)) (F_impl_Near ((F_laws_at x_code 2) % 12))
      rintro _ rfl _ rfl _ rfl
      have q1908 := iRoom_b ((d0).1) (F_impl_Near ((F_laws_at x_code 2) % 12))
      rintro _ rfl _ rfl _ rfl _ rfl _ rfl _ rfl _ rfl _ rfl _ rfl _ _ _ _ _ _ _ _ _ _
      show WL _ _ _ _ _ _ _
      refine sk F1 ?_
      exact f1
     ·intro _ w15 k1909 _
      rintro _ rfl _ rfl _ rfl _ rfl _ rfl _ rfl _ rfl _ rfl _ rfl _ rfl
      have q1914 := iRoom_b (F_impl_Gain ((d0).1) ((d0).2.1) ((d0).2.2)) (F_impl_Near ((F_laws_at x_code 2) % 12))
      rintro _ rfl _ rfl _ rfl
      have q1916 := iRoom_b ((d0).1) (F_impl_Near ((F_laws_at x_code 2) % 12))
      rintro _ rfl _ rfl _ rfl _ rfl _ rfl _ rfl _ rfl _ rfl _ rfl _ rfl _ _ _ _ _ _ _ _ _
      show WL _ _ _ _ _ _ _
      refine sk F1 ?_
      exact f1
     ·intro _ w15 k1917 _
      rintro _ rfl _ rfl _ rfl _ rfl _ rfl _ rfl _ rfl _ rfl _ rfl _ rfl
      have q1922 := iRoom_b (F_impl_Gain ((d0).1) ((d0).2.1) ((d0).2.2)) (F_impl_Near ((F_laws_at x_code 2) % 12))
      rintro _ rfl _ rfl _ rfl
      have q1924 := iRoom_b ((d0).1) (F_impl_Near ((F_laws_at x_code 2) % 12))
      rintro _ rfl _ rfl _ rfl _ rfl _ rfl _ rfl _ rfl _ rfl _ rfl _ rfl _ rfl _ _ _ _ _ _ _ _
      show WL _ _ _ _ _ _ _
      refine pf (vb false) wN (Eq.refl false) ?_
      exact f1
     ·intro _ w15 k1925 _
      rintro _ rfl _ rfl _ rfl _ rfl _ rfl _ rfl _ rfl _ rfl _ rfl _ rfl
      have q1930 := iRoom_b (F_impl_Gain ((d0).1) ((d0).2.1) ((d0).2.2)) (F_impl_Near ((F_laws_at x_code 2) % 12))
      rintro _ rfl _ rfl _ rfl
      have q1932 := iRoom_b ((d0).1) (F_impl_Near ((F_laws_at x_code 2) % 12))
      rintro _ rfl _ rfl _ rfl _ rfl _ rfl _ rfl _ rfl _ rfl _ rfl _ rfl _ rfl _ rfl _ _ _ _ _ _ _
      show WL _ _ _ _ _ _ _
      refine mw (vb false) ?_
      exact f1
     ·intro _ w15 k1933 _
      rintro _ rfl _ rfl _ rfl _ rfl _ rfl _ rfl _ rfl _ rfl _ rfl _ rfl
      have q1938 := iRoom_b (F_impl_Gain ((d0).1) ((d0).2.1) ((d0).2.2)) (F_impl_Near ((F_laws_at x_code 2) % 12))
      rintro _ rfl _ rfl _ rfl
      have q1940 := iRoom_b ((d0).1) (F_impl_Near ((F_laws_at x_code 2) % 12))
      rintro _ rfl _ rfl _ rfl _ rfl _ rfl _ rfl _ rfl _ rfl _ rfl _ rfl _ rfl _ rfl _ rfl _ _ _ _ _ _
      show WL _ _ _ _ _ _ _
      refine sk F1 ?_
      exact f1
     ·intro _ w15 k1941 _
      rintro _ rfl _ rfl _ rfl _ rfl _ rfl _ rfl _ rfl _ rfl _ rfl _ rfl
      have q1946 := iRoom_b (F_impl_Gain ((d0).1) ((d0).2.1) ((d0).2.2)) (F_impl_Near ((F_laws_at x_code 2) % 12))
      rintro _ rfl _ rfl _ rfl
      have q1948 := iRoom_b ((d0).1) (F_impl_Near ((F_laws_at x_code 2) % 12))
      rintro _ rfl _ rfl _ rfl _ rfl _ rfl _ rfl _ rfl _ rfl _ rfl _ rfl _ rfl _ rfl _ rfl _ rfl _ _ _ _ _
      show WL _ _ _ _ _ _ _
      refine sk F1 ?_
      exact f1
     ·intro _ w15 k1949 _
      rintro _ rfl _ rfl _ rfl _ rfl _ rfl _ rfl _ rfl _ rfl _ rfl _ rfl
      have q1954 := iRoom_b (F_impl_Gain ((d0).1) ((d0).2.1) ((d0).2.2)) (F_impl_Near ((F_laws_at x_code 2) % 12))
      rintro _ rfl _ rfl _ rfl
      have q1956 := iRoom_b ((d0).1) (F_impl_Near ((F_laws_at x_code 2) % 12))
      rintro _ rfl _ rfl _ rfl _ rfl _ rfl _ rfl _ rfl _ rfl _ rfl _ rfl _ rfl _ rfl _ rfl _ rfl _ rfl _ _ _ _
      show WL _ _ _ _ _ _ _
      refine sk F1 ?_
      exact f1
     ·intro _ w15 k1957 _
      rintro _ rfl _ rfl _ rfl _ rfl _ rfl _ rfl _ rfl _ rfl _ rfl _ rfl
      have q1962 := iRoom_b (F_impl_Gain ((d0).1) ((d0).2.1) ((d0).2.2)) (F_impl_Near ((F_laws_at x_code 2) % 12))
      rintro _ rfl _ rfl _ rfl
      have q1964 := iRoom_b ((d0).1) (F_impl_Near ((F_laws_at x_code 2) % 12))
      rintro _ rfl _ rfl _ rfl _ rfl _ rfl _ rfl _ rfl _ rfl _ rfl _ rfl _ rfl _ rfl _ rfl _ rfl _ rfl _ rfl _ _ _
      show WL _ _ _ _ _ _ _
      refine su ?_
      exact f1
     ·intro _ w15 k1965 _
      rintro _ rfl _ rfl _ rfl _ rfl _ rfl _ rfl _ rfl _ rfl _ rfl _ rfl
      have q1970 := iRoom_b (F_impl_Gain ((d0).1) ((d0).2.1) ((d0).2.2)) (F_impl_Near ((F_laws_at x_code 2) % 12))
      rintro _ rfl _ rfl _ rfl
      have q1972 := iRoom_b ((d0).1) (F_impl_Near ((F_laws_at x_code 2) % 12))
      rintro _ rfl _ rfl _ rfl _ rfl _ rfl _ rfl _ rfl _ rfl _ rfl _ rfl _ rfl _ rfl _ rfl _ rfl _ rfl _ rfl _ _ _
      show WL _ _ _ _ _ _ _
      refine su ?_
      exact f1
     ·intro _ w15 k1973 _
      rintro _ rfl _ rfl _ rfl _ rfl _ rfl _ rfl _ rfl _ rfl _ rfl _ rfl
      have q1978 := iRoom_b (F_impl_Gain ((d0).1) ((d0).2.1) ((d0).2.2)) (F_impl_Near ((F_laws_at x_code 2) % 12))
      rintro _ rfl _ rfl _ rfl
      have q1980 := iRoom_b ((d0).1) (F_impl_Near ((F_laws_at x_code 2) % 12))
      rintro _ rfl _ rfl _ rfl _ rfl _ rfl _ rfl _ rfl _ rfl _ rfl _ rfl _ rfl _ rfl _ rfl _ rfl _ rfl _ rfl _ _ rfl _
      show WL _ _ _ _ _ _ _
      refine su ?_
      exact f1
    ·intro _ w15 k1981
     have m1982 := m153.extk k1981
     rintro _ rfl _ rfl _ rfl _ rfl _ rfl _ rfl _ rfl _ rfl _ rfl _ rfl
     have q1986 := iRoom_b (F_impl_Gain ((d0).1) ((d0).2.1) ((d0).2.2)) (F_impl_Near ((F_laws_at x_code 2) % 12))
     rintro _ rfl _ rfl _ rfl
     have q1988 := iRoom_b ((d0).1) (F_impl_Near ((F_laws_at x_code 2) % 12))
     rintro _ rfl _ rfl _ rfl _ rfl _ rfl _ rfl _ rfl _ rfl _ rfl _ rfl _ rfl _ rfl _ rfl _ rfl _ rfl _ rfl _ rfl _ rfl _ rfl
     show WL _ _ _ _ _ _ _
     refine su ?_
     refine sk F1 ?_
     refine pf (vb false) wN (Eq.refl false) ?_
     refine aw (vb false) ?_
     refine n3 ?_
     refine rt (vb false) ?_
     have hF1989 : gnLaw x_code d0 = false := by first | (have hxy := gn_eq hi1 (by omega) (by omega); simp only [gnLaw, gnE, gnC, hxy, h8, h68, h76, h116, h158, h165, h746, cond_true, cond_false]; done) | (have hxy := gn_ne (x := F_impl_Gain d0.1 d0.2.1 d0.2.2) (y := F_spec_Gain d0.1 d0.2.1 d0.2.2) i h746 (fun hq => by rw [hq]; simp); unfold gnLaw; rw [hxy]; simp only [h8, h68, h76, h116, h158, h165, h746, cond_true, cond_false])
     exact ⟨d0, m1982.keep0, q13, by rw [hF1989]⟩
   have q747 := of_decide_eq_true h746
   rcases bf (decide (0 ≤ ((F_impl_RoomFor (F_impl_Gain ((d0).1) ((d0).2.1) ((d0).2.2)) ((d0).2.1)) - (F_impl_RoomFor ((d0).1) ((d0).2.1))))) with h762 | h762
   ·have q1512 := of_decide_eq_false h762
    refine wc_drawT ([(66, [], [], (fun _ v _ => v = (vs a33 (F_impl_Gain ((d0).1) ((d0).2.1) ((d0).2.2)).length c34))), (67, [], [0], (fun _ v w => v = .bool (iCr (F_impl_Gain ((d0).1) ((d0).2.1) ((d0).2.2))))), (68, [], [0, 1], (fun _ v _ => v = (vb (iCr (F_impl_Gain ((d0).1) ((d0).2.1) ((d0).2.2)))))), (69, [], [0, 1, 2], (fun _ v _ => v = (va (L_26 ((d0).2.1))))), (70, [], [0, 1, 2], (fun _ v _ => v = (va (L_26 (F_impl_Near ((F_laws_at x_code 2) % 12)))))), (71, [], [0, 1, 2, 3, 4], (fun _ v _ => v = (vb (decide ((((d0).2.1).Host) = ((F_impl_Near ((F_laws_at x_code 2) % 12)).Host)) && decide ((((d0).2.1).Port) = ((F_impl_Near ((F_laws_at x_code 2) % 12)).Port)))))), (72, [], [0, 1, 2, 3, 4, 5], (fun _ v _ => v = (vb (decide ((((d0).2.1).Host) = ((F_impl_Near ((F_laws_at x_code 2) % 12)).Host)) && decide ((((d0).2.1).Port) = ((F_impl_Near ((F_laws_at x_code 2) % 12)).Port)))))), (73, [], [0, 1, 2, 3, 4, 5, 6], (fun _ v _ => v = (vs a33 (F_impl_Gain ((d0).1) ((d0).2.1) ((d0).2.2)).length c34))), (74, [], [0, 1, 2, 3, 4, 5, 6], (fun _ v _ => v = (va (L_26 (F_impl_Near ((F_laws_at x_code 2) % 12)))))), (75, [], [0, 1, 2, 3, 4, 5, 6, 7, 8], (fun _ v w => v = .int .i64 (F_impl_RoomFor (F_impl_Gain ((d0).1) ((d0).2.1) ((d0).2.2)) (F_impl_Near ((F_laws_at x_code 2) % 12))))), (76, [], [0, 1, 2, 3, 4, 5, 6], (fun _ v _ => v = (vs a14 ((d0).1).length c15))), (77, [], [0, 1, 2, 3, 4, 5, 6], (fun _ v _ => v = (va (L_26 (F_impl_Near ((F_laws_at x_code 2) % 12)))))), (78, [], [0, 1, 2, 3, 4, 5, 6, 7, 8, 9, 10, 11], (fun _ v w => v = .int .i64 (F_impl_RoomFor ((d0).1) (F_impl_Near ((F_laws_at x_code 2) % 12))))), (79, [], [0, 1, 2, 3, 4, 5, 6, 7, 8, 9, 10, 11, 12], (fun _ v _ => v = (vb (decide ((F_impl_RoomFor (F_impl_Gain ((d0).1) ((d0).2.1) ((d0).2.2)) (F_impl_Near ((F_laws_at x_code 2) % 12))) = (F_impl_RoomFor ((d0).1) (F_impl_Near ((F_laws_at x_code 2) % 12)))))))), (80, [], [0, 1, 2, 3, 4, 5, 6, 7, 8, 9, 10, 11, 12, 13], (fun _ v _ => v = (vb (decide ((F_impl_RoomFor (F_impl_Gain ((d0).1) ((d0).2.1) ((d0).2.2)) (F_impl_Near ((F_laws_at x_code 2) % 12))) = (F_impl_RoomFor ((d0).1) (F_impl_Near ((F_laws_at x_code 2) % 12)))))))), (81, [], [0, 1, 2, 3, 4, 5, 6, 7, 8, 9, 10, 11, 12, 13, 14], (fun _ v _ => v = (vb (decide ((F_impl_RoomFor (F_impl_Gain ((d0).1) ((d0).2.1) ((d0).2.2)) (F_impl_Near ((F_laws_at x_code 2) % 12))) = (F_impl_RoomFor ((d0).1) (F_impl_Near ((F_laws_at x_code 2) % 12)))))))), (82, [], [0, 1, 2, 3, 4, 5, 6, 7, 8, 9, 10, 11, 12, 13, 14, 15], (fun _ v _ => v = (vb (decide ((F_impl_RoomFor (F_impl_Gain ((d0).1) ((d0).2.1) ((d0).2.2)) (F_impl_Near ((F_laws_at x_code 2) % 12))) = (F_impl_RoomFor ((d0).1) (F_impl_Near ((F_laws_at x_code 2) % 12)))))))), (83, [], [0, 1, 2, 3, 4, 5, 6, 7, 8, 9, 10, 11, 12, 13, 14, 15, 16], (fun _ v _ => v = (vi ((F_impl_RoomFor (F_impl_Gain ((d0).1) ((d0).2.1) ((d0).2.2)) ((d0).2.1)) - (F_impl_RoomFor ((d0).1) ((d0).2.1)))))), (84, [], [0, 1, 2, 3, 4, 5, 6, 7, 8, 9, 10, 11, 12, 13, 14, 15, 16, 17], (fun _ v _ => v = (vb (decide (0 ≤ ((F_impl_RoomFor (F_impl_Gain ((d0).1) ((d0).2.1) ((d0).2.2)) ((d0).2.1)) - (F_impl_RoomFor ((d0).1) ((d0).2.1)))))))), (85, [], [0, 1, 2, 3, 4, 5, 6, 7, 8, 9, 10, 11, 12, 13, 14, 15, 16, 17, 18], (fun _ v _ => v = (vb (decide (0 ≤ ((F_impl_RoomFor (F_impl_Gain ((d0).1) ((d0).2.1) ((d0).2.2)) ((d0).2.1)) - (F_impl_RoomFor ((d0).1) ((d0).2.1)))))))), (86, [], [0, 1, 2, 3, 4, 5, 6, 7, 8, 9, 10, 11, 12, 13, 14, 15, 16, 17, 18, 19], (fun _ v _ => v = (vb (decide (0 ≤ ((F_impl_RoomFor (F_impl_Gain ((d0).1) ((d0).2.1) ((d0).2.2)) ((d0).2.1)) - (F_impl_RoomFor ((d0).1) ((d0).2.1)))))))), (87, [], [0, 1, 2, 3, 4, 5, 6, 7, 8, 9, 10, 11, 12, 13, 14, 15, 16, 17, 18, 19, 20], (fun _ v _ => v = U)), (88, [], [0, 1, 2, 3, 4, 5, 6, 7, 8, 9, 10, 11, 12, 13, 14, 15, 16, 17, 18, 19, 20, 21], (fun _ v _ => v = U)), (89, [], [0, 1, 2, 3, 4, 5, 6, 7, 8, 9, 10, 11, 12, 13, 14, 15, 16, 17, 18, 19, 20, 21, 22], (fun _ v _ => v = U)), (90, [], [0, 1, 2, 3, 4, 5, 6, 7, 8, 9, 10, 11, 12, 13, 14, 15, 16, 17, 18, 19, 20, 21, 22, 23], (fun _ v _ => v = (vb false))), (91, [], [0, 1, 2, 3, 4, 5, 6, 7, 8, 9, 10, 11, 12, 13, 14, 15, 16, 17, 18, 19, 20, 21, 22, 23, 24], (fun _ v _ => v = (vb false))), (92, [], [0, 1, 2, 3, 4, 5, 6, 7, 8, 9, 10, 11, 12, 13, 14, 15, 16, 17, 18, 19, 20, 21, 22, 23, 24, 25], (fun _ v _ => v = U)), (93, [], [0, 1, 2, 3, 4, 5, 6, 7, 8, 9, 10, 11, 12, 13, 14, 15, 16, 17, 18, 19, 20, 21, 22, 23, 24, 25, 26], (fun _ v _ => v = U)), (94, [], [0, 1, 2, 3, 4, 5, 6, 7, 8, 9, 10, 11, 12, 13, 14, 15, 16, 17, 18, 19, 20, 21, 22, 23, 24, 25, 26, 27], (fun _ v _ => v = U)), (95, [], [0, 1, 2, 3, 4, 5, 6, 7, 8, 9, 10, 11, 12, 13, 14, 15, 16, 17, 18, 19, 20, 21, 22, 23, 24, 25, 26, 27, 28], (fun _ v _ => v = U)), (96, [], [0, 1, 2, 3, 4, 5, 6, 7, 8, 9, 10, 11, 12, 13, 14, 15, 16, 17, 18, 19, 20, 21, 22, 23, 24, 25, 26, 27, 28], (fun _ v _ => v = U)), (97, [], [0, 1, 2, 3, 4, 5, 6, 7, 8, 9, 10, 11, 12, 13, 14, 15, 16, 17, 18, 19, 20, 21, 22, 23, 24, 25, 26, 27, 28, 30], (fun _ v _ => v = U))] : GV) (fun _ w' => Keep w14 w') [] mixed rfl (by kernel_rfl) (by kernel_rfl) ?_ (fun _ _ h => h) (fun _ _ _ _ h _ k => h.trans k) trivial ?_ ?_ ?_
    ·exact ⟨hV, hE, ⟨hV, hE, ⟨hV, hE, ⟨hV, hE, ⟨hV, hE, ⟨hV, hE, ⟨hV, hE, ⟨hV, hE, ⟨hV, hE, ⟨hV, hE, ⟨hV, hE, ⟨hV, hE, ⟨hV, hE, ⟨hV, hE, ⟨hV, hE, ⟨hV, hE, ⟨hV, hE, ⟨hV, hE, ⟨hV, hE, ⟨hV, hE, ⟨hV, hE, ⟨hV, hE, ⟨hV, hE, ⟨hV, hE, ⟨hV, hE, ⟨hV, hE, ⟨hV, hE, ⟨hV, hE, ⟨hV, hE, ⟨hV, hE, ⟨hV, hE, ⟨hV, hE, trivial⟩⟩⟩⟩⟩⟩⟩⟩⟩⟩⟩⟩⟩⟩⟩⟩⟩⟩⟩⟩⟩⟩⟩⟩⟩⟩⟩⟩⟩⟩⟩⟩
    ·exact trivial
    ·refine ⟨?_, ⟨?_, ⟨?_, ⟨?_, ⟨?_, ⟨?_, ⟨?_, ⟨?_, ⟨?_, ⟨?_, ⟨?_, ⟨?_, ⟨?_, ⟨?_, ⟨?_, ⟨?_, ⟨?_, ⟨?_, ⟨?_, ⟨?_, ⟨?_, ⟨?_, ⟨?_, ⟨?_, ⟨?_, ⟨?_, ⟨?_, ⟨?_, ⟨?_, ⟨?_, ⟨?_, ⟨?_, trivial⟩⟩⟩⟩⟩⟩⟩⟩⟩⟩⟩⟩⟩⟩⟩⟩⟩⟩⟩⟩⟩⟩⟩⟩⟩⟩⟩⟩⟩⟩⟩⟩
     ·intro _ w15 k1529 _
      rintro _ _ _ _ _ _ _ _ _ _ _ _ _ _ _ _ _ _ _ _ _ _ _ _ _ _ _ _ _ _ _ _
      show WL _ _ _ _ _ _ _
      refine mw (vs a33 (F_impl_Gain ((d0).1) ((d0).2.1) ((d0).2.2)).length c34) ?_
      exact f1
     ·intro _ w15 k1531 _
      rintro _ rfl _ _ _ _ _ _ _ _ _ _ _ _ _ _ _ _ _ _ _ _ _ _ _ _ _ _ _ _ _ _ _
      show WL _ _ _ _ _ _ _
      have o1533 := (own_kp (own_kp (own_kp (own_kp o75 k114) k146) k152) k1531)
      refine cl wN (C_impl_CreditsOk w15 _ (F_impl_Gain ((d0).1) ((d0).2.1) ((d0).2.2)) (mR_24 (Rd.of_own o1533) s36)) ?_
      rintro _ w16 ⟨k1534, rfl⟩
      exact wl_finT k1534 rfl
     ·intro _ w15 k1536 _
      rintro _ rfl _ rfl _ _ _ _ _ _ _ _ _ _ _ _ _ _ _ _ _ _ _ _ _ _ _ _ _ _ _ _ _ _
      show WL _ _ _ _ _ _ _
      refine mw (vb (iCr (F_impl_Gain ((d0).1) ((d0).2.1) ((d0).2.2)))) ?_
      exact f1
     ·intro _ w15 k1538 _
      rintro _ rfl _ rfl _ rfl _ _ _ _ _ _ _ _ _ _ _ _ _ _ _ _ _ _ _ _ _ _ _ _ _ _ _ _ _
      show WL _ _ _ _ _ _ _
      have b1540 := ((((((b56.kp k58).ch k72 (Nat.not_le.2 (Nat.lt_of_lt_of_le p23 (z7 k27 k32 k41 k44 k49 k52 k58)))).kp k114).kp k146).kp k152).kp k1538)
      refine lN (L_26 ((d0).2.1)) (wS h158) isAgg_26 sizeOf_26 b1540 ?_
      exact f1
     ·intro _ w15 k1541 _
      rintro _ rfl _ rfl _ rfl _ _ _ _ _ _ _ _ _ _ _ _ _ _ _ _ _ _ _ _ _ _ _ _ _ _ _ _ _
      show WL _ _ _ _ _ _ _
      have b1543 := ((((((b53.kp k58).ch k72 (Nat.not_le.2 (Nat.lt_of_lt_of_le p48 (z2 k52 k58)))).kp k114).kp k146).kp k152).kp k1541)
      refine lN (L_26 (F_impl_Near ((F_laws_at x_code 2) % 12))) (wS h158) isAgg_26 sizeOf_26 b1543 ?_
      exact f1
     ·intro _ w15 k1544 _
      rintro _ rfl _ rfl _ rfl _ rfl _ rfl _ _ _ _ _ _ _ _ _ _ _ _ _ _ _ _ _ _ _ _ _ _ _ _ _ _ _
      show WL _ _ _ _ _ _ _
      refine wl_aggeq ((decide ((((d0).2.1).Host) = ((F_impl_Near ((F_laws_at x_code 2) % 12)).Host)) && decide ((((d0).2.1).Port) = ((F_impl_Near ((F_laws_at x_code 2) % 12)).Port)))) (wS h158) rfl rfl rfl rfl rfl guardt_26 (aggeq_26 (((d0).2.1).Host) ((F_impl_Near ((F_laws_at x_code 2) % 12)).Host) (((d0).2.1).Port) ((F_impl_Near ((F_laws_at x_code 2) % 12)).Port) w15) ?_
      exact f1
     ·intro _ w15 k1548 _
      rintro _ rfl _ rfl _ rfl _ rfl _ rfl _ rfl _ _ _ _ _ _ _ _ _ _ _ _ _ _ _ _ _ _ _ _ _ _ _ _ _ _
      show WL _ _ _ _ _ _ _
      refine mv (vb (decide ((((d0).2.1).Host) = ((F_impl_Near ((F_laws_at x_code 2) % 12)).Host)) && decide ((((d0).2.1).Port) = ((F_impl_Near ((F_laws_at x_code 2) % 12)).Port)))) (wS h158) ?_
      exact f1
     ·intro _ w15 k1552 _
      rintro _ rfl _ rfl _ rfl _ rfl _ rfl _ rfl _ rfl _ _ _ _ _ _ _ _ _ _ _ _ _ _ _ _ _ _ _ _ _ _ _ _ _
      show WL _ _ _ _ _ _ _
      refine mv (vs a33 (F_impl_Gain ((d0).1) ((d0).2.1) ((d0).2.2)).length c34) (wS h165) ?_
      exact f1
     ·intro _ w15 k1556 _
      rintro _ rfl _ rfl _ rfl _ rfl _ rfl _ rfl _ rfl _ _ _ _ _ _ _ _ _ _ _ _ _ _ _ _ _ _ _ _ _ _ _ _ _
      show WL _ _ _ _ _ _ _
      have b1560 := ((((((b53.kp k58).ch k72 (Nat.not_le.2 (Nat.lt_of_lt_of_le p48 (z2 k52 k58)))).kp k114).kp k146).kp k152).kp k1556)
      refine lN (L_26 (F_impl_Near ((F_laws_at x_code 2) % 12))) (wS h165) isAgg_26 sizeOf_26 b1560 ?_
      exact f1
     ·intro _ w15 k1561 _
      rintro _ rfl _ rfl _ rfl _ rfl _ rfl _ rfl _ rfl _ rfl _ rfl _ _ _ _ _ _ _ _ _ _ _ _ _ _ _ _ _ _ _ _ _ _ _
      show WL _ _ _ _ _ _ _
      have o1566 := (own_kp (own_kp (own_kp (own_kp o75 k114) k146) k152) k1561)
      refine cl (wS h165) (C_impl_RoomFor w15 _ (F_impl_Gain ((d0).1) ((d0).2.1) ((d0).2.2)) (mR_24 (Rd.of_own o1566) s36) _ (F_impl_Near ((F_laws_at x_code 2) % 12)) (mR_26)) ?_
      rintro _ w16 ⟨k1567, rfl⟩
      have q1569 := iRoom_b (F_impl_Gain ((d0).1) ((d0).2.1) ((d0).2.2)) (F_impl_Near ((F_laws_at x_code 2) % 12))
      exact wl_finT k1567 rfl
     ·intro _ w15 k1570 _
      rintro _ rfl _ rfl _ rfl _ rfl _ rfl _ rfl _ rfl _ _ _ _ _ _ _ _ _ _ _ _ _ _ _ _ _ _ _ _ _ _ _ _ _
      show WL _ _ _ _ _ _ _
      refine mv (vs a14 ((d0).1).length c15) (wS h165) ?_
      exact f1
     ·intro _ w15 k1574 _
      rintro _ rfl _ rfl _ rfl _ rfl _ rfl _ rfl _ rfl _ _ _ _ _ _ _ _ _ _ _ _ _ _ _ _ _ _ _ _ _ _ _ _ _
      show WL _ _ _ _ _ _ _
      have b1578 := ((((((b53.kp k58).ch k72 (Nat.not_le.2 (Nat.lt_of_lt_of_le p48 (z2 k52 k58)))).kp k114).kp k146).kp k152).kp k1574)
      refine lN (L_26 (F_impl_Near ((F_laws_at x_code 2) % 12))) (wS h165) isAgg_26 sizeOf_26 b1578 ?_
      exact f1
     ·intro _ w15 k1579 _
      rintro _ rfl _ rfl _ rfl _ rfl _ rfl _ rfl _ rfl _ rfl _ rfl _ rfl
      have q1584 := iRoom_b (F_impl_Gain ((d0).1) ((d0).2.1) ((d0).2.2)) (F_impl_Near ((F_laws_at x_code 2) % 12))
      rintro _ rfl _ rfl _ _ _ _ _ _ _ _ _ _ _ _ _ _ _ _ _ _ _ _
      show WL _ _ _ _ _ _ _
      have o1586 := (own_kp (own_kp o151 k152) k1579)
      refine cl (wS h165) (C_impl_RoomFor w15 _ ((d0).1) (mR_24 (Rd.of_own o1586) s17) _ (F_impl_Near ((F_laws_at x_code 2) % 12)) (mR_26)) ?_
      rintro _ w16 ⟨k1587, rfl⟩
      have q1589 := iRoom_b ((d0).1) (F_impl_Near ((F_laws_at x_code 2) % 12))
      exact wl_finT k1587 rfl
     ·intro _ w15 k1590 _
      rintro _ rfl _ rfl _ rfl _ rfl _ rfl _ rfl _ rfl _ rfl _ rfl _ rfl
      have q1595 := iRoom_b (F_impl_Gain ((d0).1) ((d0).2.1) ((d0).2.2)) (F_impl_Near ((F_laws_at x_code 2) % 12))
      rintro _ rfl _ rfl _ rfl
      have q1597 := iRoom_b ((d0).1) (F_impl_Near ((F_laws_at x_code 2) % 12))
      rintro _ _ _ _ _ _ _ _ _ _ _ _ _ _ _ _ _ _ _
      show WL _ _ _ _ _ _ _
      refine pu (vb (decide ((F_impl_RoomFor (F_impl_Gain ((d0).1) ((d0).2.1) ((d0).2.2)) (F_impl_Near ((F_laws_at x_code 2) % 12))) = (F_impl_RoomFor ((d0).1) (F_impl_Near ((F_laws_at x_code 2) % 12)))))) (wS h165) ?_
      exact f1
     ·intro _ w15 k1598 _
      rintro _ rfl _ rfl _ rfl _ rfl _ rfl _ rfl _ rfl _ rfl _ rfl _ rfl
      have q1603 := iRoom_b (F_impl_Gain ((d0).1) ((d0).2.1) ((d0).2.2)) (F_impl_Near ((F_laws_at x_code 2) % 12))
      rintro _ rfl _ rfl _ rfl
      have q1605 := iRoom_b ((d0).1) (F_impl_Near ((F_laws_at x_code 2) % 12))
      rintro _ rfl _ _ _ _ _ _ _ _ _ _ _ _ _ _ _ _ _ _
      show WL _ _ _ _ _ _ _
      refine pf (vb (decide ((F_impl_RoomFor (F_impl_Gain ((d0).1) ((d0).2.1) ((d0).2.2)) (F_impl_Near ((F_laws_at x_code 2) % 12))) = (F_impl_RoomFor ((d0).1) (F_impl_Near ((F_laws_at x_code 2) % 12)))))) (wS h158) h165 ?_
      exact f1
     ·intro _ w15 k1606 _
      rintro _ rfl _ rfl _ rfl _ rfl _ rfl _ rfl _ rfl _ rfl _ rfl _ rfl
      have q1611 := iRoom_b (F_impl_Gain ((d0).1) ((d0).2.1) ((d0).2.2)) (F_impl_Near ((F_laws_at x_code 2) % 12))
      rintro _ rfl _ rfl _ rfl
      have q1613 := iRoom_b ((d0).1) (F_impl_Near ((F_laws_at x_code 2) % 12))
      rintro _ rfl _ rfl _ _ _ _ _ _ _ _ _ _ _ _ _ _ _ _ _
      show WL _ _ _ _ _ _ _
      refine pk (vb (decide ((F_impl_RoomFor (F_impl_Gain ((d0).1) ((d0).2.1) ((d0).2.2)) (F_impl_Near ((F_laws_at x_code 2) % 12))) = (F_impl_RoomFor ((d0).1) (F_impl_Near ((F_laws_at x_code 2) % 12)))))) wN h158 ?_
      exact f1
     ·intro _ w15 k1614 _
      rintro _ rfl _ rfl _ rfl _ rfl _ rfl _ rfl _ rfl _ rfl _ rfl _ rfl
      have q1619 := iRoom_b (F_impl_Gain ((d0).1) ((d0).2.1) ((d0).2.2)) (F_impl_Near ((F_laws_at x_code 2) % 12))
      rintro _ rfl _ rfl _ rfl
      have q1621 := iRoom_b ((d0).1) (F_impl_Near ((F_laws_at x_code 2) % 12))
      rintro _ rfl _ rfl _ rfl _ _ _ _ _ _ _ _ _ _ _ _ _ _ _ _
      show WL _ _ _ _ _ _ _
      refine mw (vb (decide ((F_impl_RoomFor (F_impl_Gain ((d0).1) ((d0).2.1) ((d0).2.2)) (F_impl_Near ((F_laws_at x_code 2) % 12))) = (F_impl_RoomFor ((d0).1) (F_impl_Near ((F_laws_at x_code 2) % 12)))))) ?_
      exact f1
     ·intro _ w15 k1622 _
      rintro _ rfl _ rfl _ rfl _ rfl _ rfl _ rfl _ rfl _ rfl _ rfl _ rfl
      have q1627 := iRoom_b (F_impl_Gain ((d0).1) ((d0).2.1) ((d0).2.2)) (F_impl_Near ((F_laws_at x_code 2) % 12))
      rintro _ rfl _ rfl _ rfl
      have q1629 := iRoom_b ((d0).1) (F_impl_Near ((F_laws_at x_code 2) % 12))
      rintro _ rfl _ rfl _ rfl _ rfl _ _ _ _ _ _ _ _ _ _ _ _ _ _ _
      show WL _ _ _ _ _ _ _
      refine mv (vi ((F_impl_RoomFor (F_impl_Gain ((d0).1) ((d0).2.1) ((d0).2.2)) ((d0).2.1)) - (F_impl_RoomFor ((d0).1) ((d0).2.1)))) (wS h746) ?_
      exact f1
     ·intro _ w15 k1630 _
      rintro _ rfl _ rfl _ rfl _ rfl _ rfl _ rfl _ rfl _ rfl _ rfl _ rfl
      have q1635 := iRoom_b (F_impl_Gain ((d0).1) ((d0).2.1) ((d0).2.2)) (F_impl_Near ((F_laws_at x_code 2) % 12))
      rintro _ rfl _ rfl _ rfl
      have q1637 := iRoom_b ((d0).1) (F_impl_Near ((F_laws_at x_code 2) % 12))
      rintro _ rfl _ rfl _ rfl _ rfl _ rfl _ _ _ _ _ _ _ _ _ _ _ _ _ _
      show WL _ _ _ _ _ _ _
      refine pu (vb (decide (0 ≤ ((F_impl_RoomFor (F_impl_Gain ((d0).1) ((d0).2.1) ((d0).2.2)) ((d0).2.1)) - (F_impl_RoomFor ((d0).1) ((d0).2.1)))))) (wS h746) ?_
      exact f1
     ·intro _ w15 k1638 _
      rintro _ rfl _ rfl _ rfl _ rfl _ rfl _ rfl _ rfl _ rfl _ rfl _ rfl
      have q1643 := iRoom_b (F_impl_Gain ((d0).1) ((d0).2.1) ((d0).2.2)) (F_impl_Near ((F_laws_at x_code 2) % 12))
      rintro _ rfl _ rfl _ rfl
      have q1645 := iRoom_b ((d0).1) (F_impl_Near ((F_laws_at x_code 2) % 12))
      rintro _ rfl _ rfl _ rfl _ rfl _ rfl _ rfl _ _ _ _ _ _ _ _ _ _ _ _ _
      show WL _ _ _ _ _ _ _
      refine pk (vb (decide (0 ≤ ((F_impl_RoomFor (F_impl_Gain ((d0).1) ((d0).2.1) ((d0).2.2)) ((d0).2.1)) - (F_impl_RoomFor ((d0).1) ((d0).2.1)))))) wN h746 ?_
      exact f1
     ·intro _ w15 k1646 _
      rintro _ rfl _ rfl _ rfl _ rfl _ rfl _ rfl _ rfl _ rfl _ rfl _ rfl
      have q1651 := iRoom_b (F_impl_Gain ((d0).1) ((d0).2.1) ((d0).2.2)) (F_impl_Near ((F_laws_at x_code 2) % 12))
      rintro _ rfl _ rfl _ rfl
      have q1653 := iRoom_b ((d0).1) (F_impl_Near ((F_laws_at x_code 2) % 12))
      rintro _ rfl _ rfl _ rfl _ rfl _ rfl _ rfl _ rfl _ _ _ _ _ _ _ _ _ _ _ _
      show WL _ _ _ _ _ _ _
      refine mw (vb (decide (0 ≤ ((F_impl_RoomFor (F_impl_Gain ((d0).1) ((d0).2.1) ((d0).2.2)) ((d0).2.1)) - (F_impl_RoomFor ((d0).1) ((d0).2.1)))))) ?_
      exact f1
     ·intro _ w15 k1654 _
      rintro _ rfl _ rfl _ rfl _ rfl _ rfl _ rfl _ rfl _ rfl _ rfl _ rfl
      have q1659 := iRoom_b (F_impl_Gain ((d0).1) ((d0).2.1) ((d0).2.2)) (F_impl_Near ((F_laws_at x_code 2) % 12))
      rintro _ rfl _ rfl _ rfl
      have q1661 := iRoom_b ((d0).1) (F_impl_Near ((F_laws_at x_code 2) % 12))
      rintro _ rfl _ rfl _ rfl _ rfl _ rfl _ rfl _ rfl _ rfl _ _ _ _ _ _ _ _ _ _ _
      show WL _ _ _ _ _ _ _
      refine sk h762 ?_
      exact f1
     ·intro _ w15 k1662 _
      rintro _ rfl _ rfl _ rfl _ rfl _ rfl _ rfl _ rfl _ rfl _ rfl _ rfl
      have q1667 := iRoom_b (F_impl_Gain ((d0).1) ((d0).2.1) ((d0).2.2)) (F_impl_Near ((F_laws_at x_code 2) % 12))
      rintro _ rfl _ rfl _ rfl
      have q1669 := iRoom_b ((d0).1) (F_impl_Near ((F_laws_at x_code 2) % 12))
      rintro _ rfl _ rfl _ rfl _ rfl _ rfl _ rfl _ rfl _ rfl _ rfl _ _ _ _ _ _ _ _ _ _
      show WL _ _ _ _ _ _ _
      refine sk h762 ?_
      exact f1
     ·intro _ w15 k1670 _
      rintro _ rfl _ rfl _ rfl _ rfl _ rfl _ rfl _ rfl _ rfl _ rfl _ rfl
      have q1675 := iRoom_b (F_impl_Gain ((d0).1) ((d0).2.1) ((d0).2.2)) (F_impl_Near ((F_laws_at x_code 2) % 12))
      rintro _ rfl _ rfl _ rfl
      have q1677 := iRoom_b ((d0).1) (F_impl_Near ((F_laws_at x_code 2) % 12))
      rintro _ rfl _ rfl _ rfl _ rfl _ rfl _ rfl _ rfl _ rfl _ rfl _ rfl _ _ _ _ _ _ _ _ _
      show WL _ _ _ _ _ _ _
      refine sk h762 ?_
      exact f1
     ·intro _ w15 k1678 _
      rintro _ rfl _ rfl _ rfl _ rfl _ rfl _ rfl _ rfl _ rfl _ rfl _ rfl
      have q1683 := iRoom_b (F_impl_Gain ((d0).1) ((d0).2.1) ((d0).2.2)) (F_impl_Near ((F_laws_at x_code 2) % 12))
      rintro _ rfl _ rfl _ rfl
      have q1685 := iRoom_b ((d0).1) (F_impl_Near ((F_laws_at x_code 2) % 12))
      rintro _ rfl _ rfl _ rfl _ rfl _ rfl _ rfl _ rfl _ rfl _ rfl _ rfl _ rfl _ _ _ _ _ _ _ _
      show WL _ _ _ _ _ _ _
      refine pf (vb false) wN h762 ?_
      exact f1
     ·intro _ w15 k1686 _
      rintro _ rfl _ rfl _ rfl _ rfl _ rfl _ rfl _ rfl _ rfl _ rfl _ rfl
      have q1691 := iRoom_b (F_impl_Gain ((d0).1) ((d0).2.1) ((d0).2.2)) (F_impl_Near ((F_laws_at x_code 2) % 12))
      rintro _ rfl _ rfl _ rfl
      have q1693 := iRoom_b ((d0).1) (F_impl_Near ((F_laws_at x_code 2) % 12))
      rintro _ rfl _ rfl _ rfl _ rfl _ rfl _ rfl _ rfl _ rfl _ rfl _ rfl _ rfl _ rfl _ _ _ _ _ _ _
      show WL _ _ _ _ _ _ _
      refine mw (vb false) ?_
      exact f1
     ·intro _ w15 k1694 _
      rintro _ rfl _ rfl _ rfl _ rfl _ rfl _ rfl _ rfl _ rfl _ rfl _ rfl
      have q1699 := iRoom_b (F_impl_Gain ((d0).1) ((d0).2.1) ((d0).2.2)) (F_impl_Near ((F_laws_at x_code 2) % 12))
      rintro _ rfl _ rfl _ rfl
      have q1701 := iRoom_b ((d0).1) (F_impl_Near ((F_laws_at x_code 2) % 12))
      rintro _ rfl _ rfl _ rfl _ rfl _ rfl _ rfl _ rfl _ rfl _ rfl _ rfl _ rfl _ rfl _ rfl _ _ _ _ _ _
      show WL _ _ _ _ _ _ _
      refine sk F1 ?_
      exact f1
     ·intro _ w15 k1702 _
      rintro _ rfl _ rfl _ rfl _ rfl _ rfl _ rfl _ rfl _ rfl _ rfl _ rfl
      have q1707 := iRoom_b (F_impl_Gain ((d0).1) ((d0).2.1) ((d0).2.2)) (F_impl_Near ((F_laws_at x_code 2) % 12))
      rintro _ rfl _ rfl _ rfl
      have q1709 := iRoom_b ((d0).1) (F_impl_Near ((F_laws_at x_code 2) % 12))
      rintro _ rfl _ rfl _ rfl _ rfl _ rfl _ rfl _ rfl _ rfl _ rfl _ rfl _ rfl _ rfl _ rfl _ rfl _ _ _ _ _
      show WL _ _ _ _ _ _ _
      refine sk F1 ?_
      exact f1
     ·intro _ w15 k1710 _
      rintro _ rfl _ rfl _ rfl _ rfl _ rfl _ rfl _ rfl _ rfl _ rfl _ rfl
      have q1715 := iRoom_b (F_impl_Gain ((d0).1) ((d0).2.1) ((d0).2.2)) (F_impl_Near ((F_laws_at x_code 2) % 12))
      rintro _ rfl _ rfl _ rfl
      have q1717 := iRoom_b ((d0).1) (F_impl_Near ((F_laws_at x_code 2) % 12))
      rintro _ rfl _ rfl _ rfl _ rfl _ rfl _ rfl _ rfl _ rfl _ rfl _ rfl _ rfl _ rfl _ rfl _ rfl _ rfl _ _ _ _
      show WL _ _ _ _ _ _ _
      refine sk F1 ?_
      exact f1
     ·intro _ w15 k1718 _
      rintro _ rfl _ rfl _ rfl _ rfl _ rfl _ rfl _ rfl _ rfl _ rfl _ rfl
      have q1723 := iRoom_b (F_impl_Gain ((d0).1) ((d0).2.1) ((d0).2.2)) (F_impl_Near ((F_laws_at x_code 2) % 12))
      rintro _ rfl _ rfl _ rfl
      have q1725 := iRoom_b ((d0).1) (F_impl_Near ((F_laws_at x_code 2) % 12))
      rintro _ rfl _ rfl _ rfl _ rfl _ rfl _ rfl _ rfl _ rfl _ rfl _ rfl _ rfl _ rfl _ rfl _ rfl _ rfl _ rfl _ _ _
      show WL _ _ _ _ _ _ _
      refine su ?_
      exact f1
     ·intro _ w15 k1726 _
      rintro _ rfl _ rfl _ rfl _ rfl _ rfl _ rfl _ rfl _ rfl _ rfl _ rfl
      have q1731 := iRoom_b (F_impl_Gain ((d0).1) ((d0).2.1) ((d0).2.2)) (F_impl_Near ((F_laws_at x_code 2) % 12))
      rintro _ rfl _ rfl _ rfl
      have q1733 := iRoom_b ((d0).1) (F_impl_Near ((F_laws_at x_code 2) % 12))
      rintro _ rfl _ rfl _ rfl _ rfl _ rfl _ rfl _ rfl _ rfl _ rfl _ rfl _ rfl _ rfl _ rfl _ rfl _ rfl _ rfl _ _ _
      show WL _ _ _ _ _ _ _
      refine su ?_
      exact f1
     ·intro _ w15 k1734 _
      rintro _ rfl _ rfl _ rfl _ rfl _ rfl _ rfl _ rfl _ rfl _ rfl _ rfl
      have q1739 := iRoom_b (F_impl_Gain ((d0).1) ((d0).2.1) ((d0).2.2)) (F_impl_Near ((F_laws_at x_code 2) % 12))
      rintro _ rfl _ rfl _ rfl
      have q1741 := iRoom_b ((d0).1) (F_impl_Near ((F_laws_at x_code 2) % 12))
      rintro _ rfl _ rfl _ rfl _ rfl _ rfl _ rfl _ rfl _ rfl _ rfl _ rfl _ rfl _ rfl _ rfl _ rfl _ rfl _ rfl _ _ rfl _
      show WL _ _ _ _ _ _ _
      refine su ?_
      exact f1
    ·intro _ w15 k1742
     have m1743 := m153.extk k1742
     rintro _ rfl _ rfl _ rfl _ rfl _ rfl _ rfl _ rfl _ rfl _ rfl _ rfl
     have q1747 := iRoom_b (F_impl_Gain ((d0).1) ((d0).2.1) ((d0).2.2)) (F_impl_Near ((F_laws_at x_code 2) % 12))
     rintro _ rfl _ rfl _ rfl
     have q1749 := iRoom_b ((d0).1) (F_impl_Near ((F_laws_at x_code 2) % 12))
     rintro _ rfl _ rfl _ rfl _ rfl _ rfl _ rfl _ rfl _ rfl _ rfl _ rfl _ rfl _ rfl _ rfl _ rfl _ rfl _ rfl _ rfl _ rfl _ rfl
     show WL _ _ _ _ _ _ _
     refine su ?_
     refine sk F1 ?_
     refine pf (vb false) wN (Eq.refl false) ?_
     refine aw (vb false) ?_
     refine n3 ?_
     refine rt (vb false) ?_
     have hF1750 : gnLaw x_code d0 = false := by first | (have hxy := gn_eq hi1 (by omega) (by omega); simp only [gnLaw, gnE, gnC, hxy, h8, h68, h76, h116, h158, h165, h746, h762, cond_true, cond_false]; done) | (have hxy := gn_ne (x := F_impl_Gain d0.1 d0.2.1 d0.2.2) (y := F_spec_Gain d0.1 d0.2.1 d0.2.2) i h762 (fun hq => by rw [hq]; simp); unfold gnLaw; rw [hxy]; simp only [h8, h68, h76, h116, h158, h165, h746, h762, cond_true, cond_false])
     exact ⟨d0, m1743.keep0, q13, by rw [hF1750]⟩
   have q763 := of_decide_eq_true h762
   rcases bf (decide ((((F_impl_RoomFor (F_impl_Gain ((d0).1) ((d0).2.1) ((d0).2.2)) ((d0).2.1)) - (F_impl_RoomFor ((d0).1) ((d0).2.1))) % 3) = 0)) with h778 | h778
   ·have q1273 := of_decide_eq_false h778
    refine wc_drawT ([(66, [], [], (fun _ v _ => v = (vs a33 (F_impl_Gain ((d0).1) ((d0).2.1) ((d0).2.2)).length c34))), (67, [], [0], (fun _ v w => v = .bool (iCr (F_impl_Gain ((d0).1) ((d0).2.1) ((d0).2.2))))), (68, [], [0, 1], (fun _ v _ => v = (vb (iCr (F_impl_Gain ((d0).1) ((d0).2.1) ((d0).2.2)))))), (69, [], [0, 1, 2], (fun _ v _ => v = (va (L_26 ((d0).2.1))))), (70, [], [0, 1, 2], (fun _ v _ => v = (va (L_26 (F_impl_Near ((F_laws_at x_code 2) % 12)))))), (71, [], [0, 1, 2, 3, 4], (fun _ v _ => v = (vb (decide ((((d0).2.1).Host) = ((F_impl_Near ((F_laws_at x_code 2) % 12)).Host)) && decide ((((d0).2.1).Port) = ((F_impl_Near ((F_laws_at x_code 2) % 12)).Port)))))), (72, [], [0, 1, 2, 3, 4, 5], (fun _ v _ => v = (vb (decide ((((d0).2.1).Host) = ((F_impl_Near ((F_laws_at x_code 2) % 12)).Host)) && decide ((((d0).2.1).Port) = ((F_impl_Near ((F_laws_at x_code 2) % 12)).Port)))))), (73, [], [0, 1, 2, 3, 4, 5, 6], (fun _ v _ => v = (vs a33 (F_impl_Gain ((d0).1) ((d0).2.1) ((d0).2.2)).length c34))), (74, [], [0, 1, 2, 3, 4, 5, 6], (fun _ v _ => v = (va (L_26 (F_impl_Near ((F_laws_at x_code 2) % 12)))))), (75, [], [0, 1, 2, 3, 4, 5, 6, 7, 8], (fun _ v w => v = .int .i64 (F_impl_RoomFor (F_impl_Gain ((d0).1) ((d0).2.1) ((d0).2.2)) (F_impl_Near ((F_laws_at x_code 2) % 12))))), (76, [], [0, 1, 2, 3, 4, 5, 6], (fun _ v _ => v = (vs a14 ((d0).1).length c15))), (77, [], [0, 1, 2, 3, 4, 5, 6], (fun _ v _ => v = (va (L_26 (F_impl_Near ((F_laws_at x_code 2) % 12)))))), (78, [], [0, 1, 2, 3, 4, 5, 6, 7, 8, 9, 10, 11], (fun _ v w => v = .int .i64 (F_impl_RoomFor ((d0).1) (F_impl_Near ((F_laws_at x_code 2) % 12))))), (79, [], [0, 1, 2, 3, 4, 5, 6, 7, 8, 9, 10, 11, 12], (fun _ v _ => v = (vb (decide ((F_impl_RoomFor (F_impl_Gain ((d0).1) ((d0).2.1) ((d0).2.2)) (F_impl_Near ((F_laws_at x_code 2) % 12))) = (F_impl_RoomFor ((d0).1) (F_impl_Near ((F_laws_at x_code 2) % 12)))))))), (80, [], [0, 1, 2, 3, 4, 5, 6, 7, 8, 9, 10, 11, 12, 13], (fun _ v _ => v = (vb (decide ((F_impl_RoomFor (F_impl_Gain ((d0).1) ((d0).2.1) ((d0).2.2)) (F_impl_Near ((F_laws_at x_code 2) % 12))) = (F_impl_RoomFor ((d0).1) (F_impl_Near ((F_laws_at x_code 2) % 12)))))))), (81, [], [0, 1, 2, 3, 4, 5, 6, 7, 8, 9, 10, 11, 12, 13, 14], (fun _ v _ => v = (vb (decide ((F_impl_RoomFor (F_impl_Gain ((d0).1) ((d0).2.1) ((d0).2.2)) (F_impl_Near ((F_laws_at x_code 2) % 12))) = (F_impl_RoomFor ((d0).1) (F_impl_Near ((F_laws_at x_code 2) % 12)))))))), (82, [], [0, 1, 2, 3, 4, 5, 6, 7, 8, 9, 10, 11, 12, 13, 14, 15], (fun _ v _ => v = (vb (decide ((F_impl_RoomFor (F_impl_Gain ((d0).1) ((d0).2.1) ((d0).2.2)) (F_impl_Near ((F_laws_at x_code 2) % 12))) = (F_impl_RoomFor ((d0).1) (F_impl_Near ((F_laws_at x_code 2) % 12)))))))), (83, [], [0, 1, 2, 3, 4, 5, 6, 7, 8, 9, 10, 11, 12, 13, 14, 15, 16], (fun _ v _ => v = (vi ((F_impl_RoomFor (F_impl_Gain ((d0).1) ((d0).2.1) ((d0).2.2)) ((d0).2.1)) - (F_impl_RoomFor ((d0).1) ((d0).2.1)))))), (84, [], [0, 1, 2, 3, 4, 5, 6, 7, 8, 9, 10, 11, 12, 13, 14, 15, 16, 17], (fun _ v _ => v = (vb (decide (0 ≤ ((F_impl_RoomFor (F_impl_Gain ((d0).1) ((d0).2.1) ((d0).2.2)) ((d0).2.1)) - (F_impl_RoomFor ((d0).1) ((d0).2.1)))))))), (85, [], [0, 1, 2, 3, 4, 5, 6, 7, 8, 9, 10, 11, 12, 13, 14, 15, 16, 17, 18], (fun _ v _ => v = (vb (decide (0 ≤ ((F_impl_RoomFor (F_impl_Gain ((d0).1) ((d0).2.1) ((d0).2.2)) ((d0).2.1)) - (F_impl_RoomFor ((d0).1) ((d0).2.1)))))))), (86, [], [0, 1, 2, 3, 4, 5, 6, 7, 8, 9, 10, 11, 12, 13, 14, 15, 16, 17, 18, 19], (fun _ v _ => v = (vb (decide (0 ≤ ((F_impl_RoomFor (F_impl_Gain ((d0).1) ((d0).2.1) ((d0).2.2)) ((d0).2.1)) - (F_impl_RoomFor ((d0).1) ((d0).2.1)))))))), (87, [], [0, 1, 2, 3, 4, 5, 6, 7, 8, 9, 10, 11, 12, 13, 14, 15, 16, 17, 18, 19, 20], (fun _ v _ => v = (vi ((F_impl_RoomFor (F_impl_Gain ((d0).1) ((d0).2.1) ((d0).2.2)) ((d0).2.1)) - (F_impl_RoomFor ((d0).1) ((d0).2.1)))))), (88, [], [0, 1, 2, 3, 4, 5, 6, 7, 8, 9, 10, 11, 12, 13, 14, 15, 16, 17, 18, 19, 20, 21], (fun _ v _ => v = (vi (((F_impl_RoomFor (F_impl_Gain ((d0).1) ((d0).2.1) ((d0).2.2)) ((d0).2.1)) - (F_impl_RoomFor ((d0).1) ((d0).2.1))) % 3)))), (89, [], [0, 1, 2, 3, 4, 5, 6, 7, 8, 9, 10, 11, 12, 13, 14, 15, 16, 17, 18, 19, 20, 21, 22], (fun _ v _ => v = (vb (decide ((((F_impl_RoomFor (F_impl_Gain ((d0).1) ((d0).2.1) ((d0).2.2)) ((d0).2.1)) - (F_impl_RoomFor ((d0).1) ((d0).2.1))) % 3) = 0))))), (90, [], [0, 1, 2, 3, 4, 5, 6, 7, 8, 9, 10, 11, 12, 13, 14, 15, 16, 17, 18, 19, 20, 21, 22, 23], (fun _ v _ => v = (vb (decide ((((F_impl_RoomFor (F_impl_Gain ((d0).1) ((d0).2.1) ((d0).2.2)) ((d0).2.1)) - (F_impl_RoomFor ((d0).1) ((d0).2.1))) % 3) = 0))))), (91, [], [0, 1, 2, 3, 4, 5, 6, 7, 8, 9, 10, 11, 12, 13, 14, 15, 16, 17, 18, 19, 20, 21, 22, 23, 24], (fun _ v _ => v = (vb (decide ((((F_impl_RoomFor (F_impl_Gain ((d0).1) ((d0).2.1) ((d0).2.2)) ((d0).2.1)) - (F_impl_RoomFor ((d0).1) ((d0).2.1))) % 3) = 0))))), (92, [], [0, 1, 2, 3, 4, 5, 6, 7, 8, 9, 10, 11, 12, 13, 14, 15, 16, 17, 18, 19, 20, 21, 22, 23, 24, 25], (fun _ v _ => v = U)), (93, [], [0, 1, 2, 3, 4, 5, 6, 7, 8, 9, 10, 11, 12, 13, 14, 15, 16, 17, 18, 19, 20, 21, 22, 23, 24, 25, 26], (fun _ v _ => v = U)), (94, [], [0, 1, 2, 3, 4, 5, 6, 7, 8, 9, 10, 11, 12, 13, 14, 15, 16, 17, 18, 19, 20, 21, 22, 23, 24, 25, 26, 27], (fun _ v _ => v = U)), (95, [], [0, 1, 2, 3, 4, 5, 6, 7, 8, 9, 10, 11, 12, 13, 14, 15, 16, 17, 18, 19, 20, 21, 22, 23, 24, 25, 26, 27, 28], (fun _ v _ => v = U)), (96, [], [0, 1, 2, 3, 4, 5, 6, 7, 8, 9, 10, 11, 12, 13, 14, 15, 16, 17, 18, 19, 20, 21, 22, 23, 24, 25, 26, 27, 28], (fun _ v _ => v = U)), (97, [], [0, 1, 2, 3, 4, 5, 6, 7, 8, 9, 10, 11, 12, 13, 14, 15, 16, 17, 18, 19, 20, 21, 22, 23, 24, 25, 26, 27, 28, 30], (fun _ v _ => v = U))] : GV) (fun _ w' => Keep w14 w') [] mixed rfl (by kernel_rfl) (by kernel_rfl) ?_ (fun _ _ h => h) (fun _ _ _ _ h _ k => h.trans k) trivial ?_ ?_ ?_
    ·exact ⟨hV, hE, ⟨hV, hE, ⟨hV, hE, ⟨hV, hE, ⟨hV, hE, ⟨hV, hE, ⟨hV, hE, ⟨hV, hE, ⟨hV, hE, ⟨hV, hE, ⟨hV, hE, ⟨hV, hE, ⟨hV, hE, ⟨hV, hE, ⟨hV, hE, ⟨hV, hE, ⟨hV, hE, ⟨hV, hE, ⟨hV, hE, ⟨hV, hE, ⟨hV, hE, ⟨hV, hE, ⟨hV, hE, ⟨hV, hE, ⟨hV, hE, ⟨hV, hE, ⟨hV, hE, ⟨hV, hE, ⟨hV, hE, ⟨hV, hE, ⟨hV, hE, ⟨hV, hE, trivial⟩⟩⟩⟩⟩⟩⟩⟩⟩⟩⟩⟩⟩⟩⟩⟩⟩⟩⟩⟩⟩⟩⟩⟩⟩⟩⟩⟩⟩⟩⟩⟩
    ·exact trivial
    ·refine ⟨?_, ⟨?_, ⟨?_, ⟨?_, ⟨?_, ⟨?_, ⟨?_, ⟨?_, ⟨?_, ⟨?_, ⟨?_, ⟨?_, ⟨?_, ⟨?_, ⟨?_, ⟨?_, ⟨?_, ⟨?_, ⟨?_, ⟨?_, ⟨?_, ⟨?_, ⟨?_, ⟨?_, ⟨?_, ⟨?_, ⟨?_, ⟨?_, ⟨?_, ⟨?_, ⟨?_, ⟨?_, trivial⟩⟩⟩⟩⟩⟩⟩⟩⟩⟩⟩⟩⟩⟩⟩⟩⟩⟩⟩⟩⟩⟩⟩⟩⟩⟩⟩⟩⟩⟩⟩⟩
     ·intro _ w15 k1290 _
      rintro _ _ _ _ _ _ _ _ _ _ _ _ _ _ _ _ _ _ _ _ _ _ _ _ _ _ _ _ _ _ _ _
      show WL _ _ _ _ _ _ _
      refine mw (vs a33 (F_impl_Gain ((d0).1) ((d0).2.1) ((d0).2.2)).length c34) ?_
      exact f1
     ·intro _ w15 k1292 _
      rintro _ rfl _ _ _ _ _ _ _ _ _ _ _ _ _ _ _ _ _ _ _ _ _ _ _ _ _ _ _ _ _ _ _
      show WL _ _ _ _ _ _ _
      have o1294 := (own_kp (own_kp (own_kp (own_kp o75 k114) k146) k152) k1292)
      refine cl wN (C_impl_CreditsOk w15 _ (F_impl_Gain ((d0).1) ((d0).2.1) ((d0).2.2)) (mR_24 (Rd.of_own o1294) s36)) ?_
      rintro _ w16 ⟨k1295, rfl⟩
      exact wl_finT k1295 rfl
     ·intro _ w15 k1297 _
      rintro _ rfl _ rfl _ _ _ _ _ _ _ _ _ _ _ _ _ _ _ _ _ _ _ _ _ _ _ _ _ _ _ _ _ _
      show WL _ _ _ _ _ _ _
      refine mw (vb (iCr (F_impl_Gain ((d0).1) ((d0).2.1) ((d0).2.2)))) ?_
      exact f1
     ·intro _ w15 k1299 _
      rintro _ rfl _ rfl _ rfl _ _ _ _ _ _ _ _ _ _ _ _ _ _ _ _ _ _ _ _ _ _ _ _ _ _ _ _ _
      show WL _ _ _ _ _ _ _
      have b1301 := ((((((b56.kp k58).ch k72 (Nat.not_le.2 (Nat.lt_of_lt_of_le p23 (z7 k27 k32 k41 k44 k49 k52 k58)))).kp k114).kp k146).kp k152).kp k1299)
      refine lN (L_26 ((d0).2.1)) (wS h158) isAgg_26 sizeOf_26 b1301 ?_
      exact f1
     ·intro _ w15 k1302 _
      rintro _ rfl _ rfl _ rfl _ _ _ _ _ _ _ _ _ _ _ _ _ _ _ _ _ _ _ _ _ _ _ _ _ _ _ _ _
      show WL _ _ _ _ _ _ _
      have b1304 := ((((((b53.kp k58).ch k72 (Nat.not_le.2 (Nat.lt_of_lt_of_le p48 (z2 k52 k58)))).kp k114).kp k146).kp k152).kp k1302)
      refine lN (L_26 (F_impl_Near ((F_laws_at x_code 2) % 12))) (wS h158) isAgg_26 sizeOf_26 b1304 ?_
      exact f1
     ·intro _ w15 k1305 _
      rintro _ rfl _ rfl _ rfl _ rfl _ rfl _ _ _ _ _ _ _ _ _ _ _ _ _ _ _ _ _ _ _ _ _ _ _ _ _ _ _
      show WL _ _ _ _ _ _ _
      refine wl_aggeq ((decide ((((d0).2.1).Host) = ((F_impl_Near ((F_laws_at x_code 2) % 12)).Host)) && decide ((((d0).2.1).Port) = ((F_impl_Near ((F_laws_at x_code 2) % 12)).Port)))) (wS h158) rfl rfl rfl rfl rfl guardt_26 (aggeq_26 (((d0).2.1).Host) ((F_impl_Near ((F_laws_at x_code 2) % 12)).Host) (((d0).2.1).Port) ((F_impl_Near ((F_laws_at x_code 2) % 12)).Port) w15) ?_
      exact f1
     ·intro _ w15 k1309 _
      rintro _ rfl _ rfl _ rfl _ rfl _ rfl _ rfl _ _ _ _ _ _ _ _ _ _ _ _ _ _ _ _ _ _ _ _ _ _ _ _ _ _
      show WL _ _ _ _ _ _ _
      refine mv (vb (decide ((((d0).2.1).Host) = ((F_impl_Near ((F_laws_at x_code 2) % 12)).Host)) && decide ((((d0).2.1).Port) = ((F_impl_Near ((F_laws_at x_code 2) % 12)).Port)))) (wS h158) ?_
      exact f1
     ·intro _ w15 k1313 _
      rintro _ rfl _ rfl _ rfl _ rfl _ rfl _ rfl _ rfl _ _ _ _ _ _ _ _ _ _ _ _ _ _ _ _ _ _ _ _ _ _ _ _ _
      show WL _ _ _ _ _ _ _
      refine mv (vs a33 (F_impl_Gain ((d0).1) ((d0).2.1) ((d0).2.2)).length c34) (wS h165) ?_
      exact f1
     ·intro _ w15 k1317 _
      rintro _ rfl _ rfl _ rfl _ rfl _ rfl _ rfl _ rfl _ _ _ _ _ _ _ _ _ _ _ _ _ _ _ _ _ _ _ _ _ _ _ _ _
      show WL _ _ _ _ _ _ _
      have b1321 := ((((((b53.kp k58).ch k72 (Nat.not_le.2 (Nat.lt_of_lt_of_le p48 (z2 k52 k58)))).kp k114).kp k146).kp k152).kp k1317)
      refine lN (L_26 (F_impl_Near ((F_laws_at x_code 2) % 12))) (wS h165) isAgg_26 sizeOf_26 b1321 ?_
      exact f1
     ·intro _ w15 k1322 _
      rintro _ rfl _ rfl _ rfl _ rfl _ rfl _ rfl _ rfl _ rfl _ rfl _ _ _ _ _ _ _ _ _ _ _ _ _ _ _ _ _ _ _ _ _ _ _
      show WL _ _ _ _ _ _ _
      have o1327 := (own_kp (own_kp (own_kp (own_kp o75 k114) k146) k152) k1322)
      refine cl (wS h165) (C_impl_RoomFor w15 _ (F_impl_Gain ((d0).1) ((d0).2.1) ((d0).2.2)) (mR_24 (Rd.of_own o1327) s36) _ (F_impl_Near ((F_laws_at x_code 2) % 12)) (mR_26)) ?_
      rintro _ w16 ⟨k1328, rfl⟩
      have q1330 := iRoom_b (F_impl_Gain ((d0).1) ((d0).2.1) ((d0).2.2)) (F_impl_Near ((F_laws_at x_code 2) % 12))
      exact wl_finT k1328 rfl
     ·intro _ w15 k1331 _
      rintro _ rfl _ rfl _ rfl _ rfl _ rfl _ rfl _ rfl _ _ _ _ _ _ _ _ _ _ _ _ _ _ _ _ _ _ _ _ _ _ _ _ _
      show WL _ _ _ _ _ _ _
      refine mv (vs a14 ((d0).1).length c15) (wS h165) ?_
      exact f1
     ·intro _ w15 k1335 _
      rintro _ rfl _ rfl _ rfl _ rfl _ rfl _ rfl _ rfl _ _ _ _ _ _ _ _ _ _ _ _ _ _ _ _ _ _ _ _ _ _ _ _ _
      show WL _ _ _ _ _ _ _
      have b1339 := ((((((b53.kp k58).ch k72 (Nat.not_le.2 (Nat.lt_of_lt_of_le p48 (z2 k52 k58)))).kp k114).kp k146).kp k152).kp k1335)
      refine lN (L_26 (F_impl_Near ((F_laws_at x_code 2) % 12))) (wS h165) isAgg_26 sizeOf_26 b1339 ?_
      exact f1
     ·intro _ w15 k1340 _
      rintro _ rfl _ rfl _ rfl _ rfl _ rfl _ rfl _ rfl _ rfl _ rfl _ rfl
      have q1345 := iRoom_b (F_impl_Gain ((d0).1) ((d0).2.1) ((d0).2.2)) (F_impl_Near ((F_laws_at x_code 2) % 12))
      rintro _ rfl _ rfl _ _ _ _ _ _ _ _ _ _ _ _ _ _ _ _ _ _ _ _
      show WL _ _ _ _ _ _ _
      have o1347 := (own_kp (own_kp o151 k152) k1340)
      refine cl (wS h165) (C_impl_RoomFor w15 _ ((d0).1) (mR_24 (Rd.of_own o1347) s17) _ (F_impl_Near ((F_laws_at x_code 2) % 12)) (mR_26)) ?_
      rintro _ w16 ⟨k1348, rfl⟩
      have q1350 := iRoom_b ((d0).1) (F_impl_Near ((F_laws_at x_code 2) % 12))
      exact wl_finT k1348 rfl
     ·intro _ w15 k1351 _
      rintro _ rfl _ rfl _ rfl _ rfl _ rfl _ rfl _ rfl _ rfl _ rfl _ rfl
      have q1356 := iRoom_b (F_impl_Gain ((d0).1) ((d0).2.1) ((d0).2.2)) (F_impl_Near ((F_laws_at x_code 2) % 12))
      rintro _ rfl _ rfl _ rfl
      have q1358 := iRoom_b ((d0).1) (F_impl_Near ((F_laws_at x_code 2) % 12))
      rintro _ _ _ _ _ _ _ _ _ _ _ _ _ _ _ _ _ _ _
      show WL _ _ _ _ _ _ _
      refine pu (vb (decide ((F_impl_RoomFor (F_impl_Gain ((d0).1) ((d0).2.1) ((d0).2.2)) (F_impl_Near ((F_laws_at x_code 2) % 12))) = (F_impl_RoomFor ((d0).1) (F_impl_Near ((F_laws_at x_code 2) % 12)))))) (wS h165) ?_
      exact f1
     ·intro _ w15 k1359 _
      rintro _ rfl _ rfl _ rfl _ rfl _ rfl _ rfl _ rfl _ rfl _ rfl _ rfl
      have q1364 := iRoom_b (F_impl_Gain ((d0).1) ((d0).2.1) ((d0).2.2)) (F_impl_Near ((F_laws_at x_code 2) % 12))
      rintro _ rfl _ rfl _ rfl
      have q1366 := iRoom_b ((d0).1) (F_impl_Near ((F_laws_at x_code 2) % 12))
      rintro _ rfl _ _ _ _ _ _ _ _ _ _ _ _ _ _ _ _ _ _
      show WL _ _ _ _ _ _ _
      refine pf (vb (decide ((F_impl_RoomFor (F_impl_Gain ((d0).1) ((d0).2.1) ((d0).2.2)) (F_impl_Near ((F_laws_at x_code 2) % 12))) = (F_impl_RoomFor ((d0).1) (F_impl_Near ((F_laws_at x_code 2) % 12)))))) (wS h158) h165 ?_
      exact f1
     ·intro _ w15 k1367 _
      rintro _ rfl _ rfl _ rfl _ rfl _ rfl _ rfl _ rfl _ rfl _ rfl _ rfl
      have q1372 := iRoom_b (F_impl_Gain ((d0).1) ((d0).2.1) ((d0).2.2)) (F_impl_Near ((F_laws_at x_code 2) % 12))
      rintro _ rfl _ rfl _ rfl
      have q1374 := iRoom_b ((d0).1) (F_impl_Near ((F_laws_at x_code 2) % 12))
      rintro _ rfl _ rfl _ _ _ _ _ _ _ _ _ _ _ _ _ _ _ _ _
      show WL _ _ _ _ _ _ _
      refine pk (vb (decide ((F_impl_RoomFor (F_impl_Gain ((d0).1) ((d0).2.1) ((d0).2.2)) (F_impl_Near ((F_laws_at x_code 2) % 12))) = (F_impl_RoomFor ((d0).1) (F_impl_Near ((F_laws_at x_code 2) % 12)))))) wN h158 ?_
      exact f1
     ·intro _ w15 k1375 _
      rintro _ rfl _ rfl _ rfl _ rfl _ rfl _ rfl _ rfl _ rfl _ rfl _ rfl
      have q1380 := iRoom_b (F_impl_Gain ((d0).1) ((d0).2.1) ((d0).2.2)) (F_impl_Near ((F_laws_at x_code 2) % 12))
      rintro _ rfl _ rfl _ rfl
      have q1382 := iRoom_b ((d0).1) (F_impl_Near ((F_laws_at x_code 2) % 12))
      rintro _ rfl _ rfl _ rfl _ _ _ _ _ _ _ _ _ _ _ _ _ _ _ _
      show WL _ _ _ _ _ _ _
      refine mw (vb (decide ((F_impl_RoomFor (F_impl_Gain ((d0).1) ((d0).2.1) ((d0).2.2)) (F_impl_Near ((F_laws_at x_code 2) % 12))) = (F_impl_RoomFor ((d0).1) (F_impl_Near ((F_laws_at x_code 2) % 12)))))) ?_
      exact f1
     ·intro _ w15 k1383 _
      rintro _ rfl _ rfl _ rfl _ rfl _ rfl _ rfl _ rfl _ rfl _ rfl _ rfl
      have q1388 := iRoom_b (F_impl_Gain ((d0).1) ((d0).2.1) ((d0).2.2)) (F_impl_Near ((F_laws_at x_code 2) % 12))
      rintro _ rfl _ rfl _ rfl
      have q1390 := iRoom_b ((d0).1) (F_impl_Near ((F_laws_at x_code 2) % 12))
      rintro _ rfl _ rfl _ rfl _ rfl _ _ _ _ _ _ _ _ _ _ _ _ _ _ _
      show WL _ _ _ _ _ _ _
      refine mv (vi ((F_impl_RoomFor (F_impl_Gain ((d0).1) ((d0).2.1) ((d0).2.2)) ((d0).2.1)) - (F_impl_RoomFor ((d0).1) ((d0).2.1)))) (wS h746) ?_
      exact f1
     ·intro _ w15 k1391 _
      rintro _ rfl _ rfl _ rfl _ rfl _ rfl _ rfl _ rfl _ rfl _ rfl _ rfl
      have q1396 := iRoom_b (F_impl_Gain ((d0).1) ((d0).2.1) ((d0).2.2)) (F_impl_Near ((F_laws_at x_code 2) % 12))
      rintro _ rfl _ rfl _ rfl
      have q1398 := iRoom_b ((d0).1) (F_impl_Near ((F_laws_at x_code 2) % 12))
      rintro _ rfl _ rfl _ rfl _ rfl _ rfl _ _ _ _ _ _ _ _ _ _ _ _ _ _
      show WL _ _ _ _ _ _ _
      refine pu (vb (decide (0 ≤ ((F_impl_RoomFor (F_impl_Gain ((d0).1) ((d0).2.1) ((d0).2.2)) ((d0).2.1)) - (F_impl_RoomFor ((d0).1) ((d0).2.1)))))) (wS h746) ?_
      exact f1
     ·intro _ w15 k1399 _
      rintro _ rfl _ rfl _ rfl _ rfl _ rfl _ rfl _ rfl _ rfl _ rfl _ rfl
      have q1404 := iRoom_b (F_impl_Gain ((d0).1) ((d0).2.1) ((d0).2.2)) (F_impl_Near ((F_laws_at x_code 2) % 12))
      rintro _ rfl _ rfl _ rfl
      have q1406 := iRoom_b ((d0).1) (F_impl_Near ((F_laws_at x_code 2) % 12))
      rintro _ rfl _ rfl _ rfl _ rfl _ rfl _ rfl _ _ _ _ _ _ _ _ _ _ _ _ _
      show WL _ _ _ _ _ _ _
      refine pk (vb (decide (0 ≤ ((F_impl_RoomFor (F_impl_Gain ((d0).1) ((d0).2.1) ((d0).2.2)) ((d0).2.1)) - (F_impl_RoomFor ((d0).1) ((d0).2.1)))))) wN h746 ?_
      exact f1
     ·intro _ w15 k1407 _
      rintro _ rfl _ rfl _ rfl _ rfl _ rfl _ rfl _ rfl _ rfl _ rfl _ rfl
      have q1412 := iRoom_b (F_impl_Gain ((d0).1) ((d0).2.1) ((d0).2.2)) (F_impl_Near ((F_laws_at x_code 2) % 12))
      rintro _ rfl _ rfl _ rfl
      have q1414 := iRoom_b ((d0).1) (F_impl_Near ((F_laws_at x_code 2) % 12))
      rintro _ rfl _ rfl _ rfl _ rfl _ rfl _ rfl _ rfl _ _ _ _ _ _ _ _ _ _ _ _
      show WL _ _ _ _ _ _ _
      refine mw (vb (decide (0 ≤ ((F_impl_RoomFor (F_impl_Gain ((d0).1) ((d0).2.1) ((d0).2.2)) ((d0).2.1)) - (F_impl_RoomFor ((d0).1) ((d0).2.1)))))) ?_
      exact f1
     ·intro _ w15 k1415 _
      rintro _ rfl _ rfl _ rfl _ rfl _ rfl _ rfl _ rfl _ rfl _ rfl _ rfl
      have q1420 := iRoom_b (F_impl_Gain ((d0).1) ((d0).2.1) ((d0).2.2)) (F_impl_Near ((F_laws_at x_code 2) % 12))
      rintro _ rfl _ rfl _ rfl
      have q1422 := iRoom_b ((d0).1) (F_impl_Near ((F_laws_at x_code 2) % 12))
      rintro _ rfl _ rfl _ rfl _ rfl _ rfl _ rfl _ rfl _ rfl _ _ _ _ _ _ _ _ _ _ _
      show WL _ _ _ _ _ _ _
      refine mv (vi ((F_impl_RoomFor (F_impl_Gain ((d0).1) ((d0).2.1) ((d0).2.2)) ((d0).2.1)) - (F_impl_RoomFor ((d0).1) ((d0).2.1)))) (wS h762) ?_
      exact f1
     ·intro _ w15 k1423 _
      rintro _ rfl _ rfl _ rfl _ rfl _ rfl _ rfl _ rfl _ rfl _ rfl _ rfl
      have q1428 := iRoom_b (F_impl_Gain ((d0).1) ((d0).2.1) ((d0).2.2)) (F_impl_Near ((F_laws_at x_code 2) % 12))
      rintro _ rfl _ rfl _ rfl
      have q1430 := iRoom_b ((d0).1) (F_impl_Near ((F_laws_at x_code 2) % 12))
      rintro _ rfl _ rfl _ rfl _ rfl _ rfl _ rfl _ rfl _ rfl _ rfl _ _ _ _ _ _ _ _ _ _
      show WL _ _ _ _ _ _ _
      refine wl_rem ((F_impl_RoomFor (F_impl_Gain ((d0).1) ((d0).2.1) ((d0).2.2)) ((d0).2.1)) - (F_impl_RoomFor ((d0).1) ((d0).2.1))) 3 (wS h762) rfl rfl (by kernel_rfl) (by first | omega | assumption) ?_
      exact f1
     ·intro _ w15 k1431 _
      rintro _ rfl _ rfl _ rfl _ rfl _ rfl _ rfl _ rfl _ rfl _ rfl _ rfl
      have q1436 := iRoom_b (F_impl_Gain ((d0).1) ((d0).2.1) ((d0).2.2)) (F_impl_Near ((F_laws_at x_code 2) % 12))
      rintro _ rfl _ rfl _ rfl
      have q1438 := iRoom_b ((d0).1) (F_impl_Near ((F_laws_at x_code 2) % 12))
      rintro _ rfl _ rfl _ rfl _ rfl _ rfl _ rfl _ rfl _ rfl _ rfl _ rfl _ _ _ _ _ _ _ _ _
      show WL _ _ _ _ _ _ _
      refine pu (vb (decide ((((F_impl_RoomFor (F_impl_Gain ((d0).1) ((d0).2.1) ((d0).2.2)) ((d0).2.1)) - (F_impl_RoomFor ((d0).1) ((d0).2.1))) % 3) = 0))) (wS h762) ?_
      exact f1
     ·intro _ w15 k1439 _
      rintro _ rfl _ rfl _ rfl _ rfl _ rfl _ rfl _ rfl _ rfl _ rfl _ rfl
      have q1444 := iRoom_b (F_impl_Gain ((d0).1) ((d0).2.1) ((d0).2.2)) (F_impl_Near ((F_laws_at x_code 2) % 12))
      rintro _ rfl _ rfl _ rfl
      have q1446 := iRoom_b ((d0).1) (F_impl_Near ((F_laws_at x_code 2) % 12))
      rintro _ rfl _ rfl _ rfl _ rfl _ rfl _ rfl _ rfl _ rfl _ rfl _ rfl _ rfl _ _ _ _ _ _ _ _
      show WL _ _ _ _ _ _ _
      refine pk (vb (decide ((((F_impl_RoomFor (F_impl_Gain ((d0).1) ((d0).2.1) ((d0).2.2)) ((d0).2.1)) - (F_impl_RoomFor ((d0).1) ((d0).2.1))) % 3) = 0))) wN h762 ?_
      exact f1
     ·intro _ w15 k1447 _
      rintro _ rfl _ rfl _ rfl _ rfl _ rfl _ rfl _ rfl _ rfl _ rfl _ rfl
      have q1452 := iRoom_b (F_impl_Gain ((d0).1) ((d0).2.1) ((d0).2.2)) (F_impl_Near ((F_laws_at x_code 2) % 12))
      rintro _ rfl _ rfl _ rfl
      have q1454 := iRoom_b ((d0).1) (F_impl_Near ((F_laws_at x_code 2) % 12))
      rintro _ rfl _ rfl _ rfl _ rfl _ rfl _ rfl _ rfl _ rfl _ rfl _ rfl _ rfl _ rfl _ _ _ _ _ _ _
      show WL _ _ _ _ _ _ _
      refine mw (vb (decide ((((F_impl_RoomFor (F_impl_Gain ((d0).1) ((d0).2.1) ((d0).2.2)) ((d0).2.1)) - (F_impl_RoomFor ((d0).1) ((d0).2.1))) % 3) = 0))) ?_
      exact f1
     ·intro _ w15 k1455 _
      rintro _ rfl _ rfl _ rfl _ rfl _ rfl _ rfl _ rfl _ rfl _ rfl _ rfl
      have q1460 := iRoom_b (F_impl_Gain ((d0).1) ((d0).2.1) ((d0).2.2)) (F_impl_Near ((F_laws_at x_code 2) % 12))
      rintro _ rfl _ rfl _ rfl
      have q1462 := iRoom_b ((d0).1) (F_impl_Near ((F_laws_at x_code 2) % 12))
      rintro _ rfl _ rfl _ rfl _ rfl _ rfl _ rfl _ rfl _ rfl _ rfl _ rfl _ rfl _ rfl _ rfl _ _ _ _ _ _
      show WL _ _ _ _ _ _ _
      refine sk h778 ?_
      exact f1
     ·intro _ w15 k1463 _
      rintro _ rfl _ rfl _ rfl _ rfl _ rfl _ rfl _ rfl _ rfl _ rfl _ rfl
      have q1468 := iRoom_b (F_impl_Gain ((d0).1) ((d0).2.1) ((d0).2.2)) (F_impl_Near ((F_laws_at x_code 2) % 12))
      rintro _ rfl _ rfl _ rfl
      have q1470 := iRoom_b ((d0).1) (F_impl_Near ((F_laws_at x_code 2) % 12))
      rintro _ rfl _ rfl _ rfl _ rfl _ rfl _ rfl _ rfl _ rfl _ rfl _ rfl _ rfl _ rfl _ rfl _ rfl _ _ _ _ _
      show WL _ _ _ _ _ _ _
      refine sk h778 ?_
      exact f1
     ·intro _ w15 k1471 _
      rintro _ rfl _ rfl _ rfl _ rfl _ rfl _ rfl _ rfl _ rfl _ rfl _ rfl
      have q1476 := iRoom_b (F_impl_Gain ((d0).1) ((d0).2.1) ((d0).2.2)) (F_impl_Near ((F_laws_at x_code 2) % 12))
      rintro _ rfl _ rfl _ rfl
      have q1478 := iRoom_b ((d0).1) (F_impl_Near ((F_laws_at x_code 2) % 12))
      rintro _ rfl _ rfl _ rfl _ rfl _ rfl _ rfl _ rfl _ rfl _ rfl _ rfl _ rfl _ rfl _ rfl _ rfl _ rfl _ _ _ _
      show WL _ _ _ _ _ _ _
      refine sk h778 ?_
      exact f1
     ·intro _ w15 k1479 _
      rintro _ rfl _ rfl _ rfl _ rfl _ rfl _ rfl _ rfl _ rfl _ rfl _ rfl
      have q1484 := iRoom_b (F_impl_Gain ((d0).1) ((d0).2.1) ((d0).2.2)) (F_impl_Near ((F_laws_at x_code 2) % 12))
      rintro _ rfl _ rfl _ rfl
      have q1486 := iRoom_b ((d0).1) (F_impl_Near ((F_laws_at x_code 2) % 12))
      rintro _ rfl _ rfl _ rfl _ rfl _ rfl _ rfl _ rfl _ rfl _ rfl _ rfl _ rfl _ rfl _ rfl _ rfl _ rfl _ rfl _ _ _
      show WL _ _ _ _ _ _ _
      refine su ?_
      exact f1
     ·intro _ w15 k1487 _
      rintro _ rfl _ rfl _ rfl _ rfl _ rfl _ rfl _ rfl _ rfl _ rfl _ rfl
      have q1492 := iRoom_b (F_impl_Gain ((d0).1) ((d0).2.1) ((d0).2.2)) (F_impl_Near ((F_laws_at x_code 2) % 12))
      rintro _ rfl _ rfl _ rfl
      have q1494 := iRoom_b ((d0).1) (F_impl_Near ((F_laws_at x_code 2) % 12))
      rintro _ rfl _ rfl _ rfl _ rfl _ rfl _ rfl _ rfl _ rfl _ rfl _ rfl _ rfl _ rfl _ rfl _ rfl _ rfl _ rfl _ _ _
      show WL _ _ _ _ _ _ _
      refine su ?_
      exact f1
     ·intro _ w15 k1495 _
      rintro _ rfl _ rfl _ rfl _ rfl _ rfl _ rfl _ rfl _ rfl _ rfl _ rfl
      have q1500 := iRoom_b (F_impl_Gain ((d0).1) ((d0).2.1) ((d0).2.2)) (F_impl_Near ((F_laws_at x_code 2) % 12))
      rintro _ rfl _ rfl _ rfl
      have q1502 := iRoom_b ((d0).1) (F_impl_Near ((F_laws_at x_code 2) % 12))
      rintro _ rfl _ rfl _ rfl _ rfl _ rfl _ rfl _ rfl _ rfl _ rfl _ rfl _ rfl _ rfl _ rfl _ rfl _ rfl _ rfl _ _ rfl _
      show WL _ _ _ _ _ _ _
      refine su ?_
      exact f1
    ·intro _ w15 k1503
     have m1504 := m153.extk k1503
     rintro _ rfl _ rfl _ rfl _ rfl _ rfl _ rfl _ rfl _ rfl _ rfl _ rfl
     have q1508 := iRoom_b (F_impl_Gain ((d0).1) ((d0).2.1) ((d0).2.2)) (F_impl_Near ((F_laws_at x_code 2) % 12))
     rintro _ rfl _ rfl _ rfl
     have q1510 := iRoom_b ((d0).1) (F_impl_Near ((F_laws_at x_code 2) % 12))
     rintro _ rfl _ rfl _ rfl _ rfl _ rfl _ rfl _ rfl _ rfl _ rfl _ rfl _ rfl _ rfl _ rfl _ rfl _ rfl _ rfl _ rfl _ rfl _ rfl
     show WL _ _ _ _ _ _ _
     refine su ?_
     refine sk h778 ?_
     refine pf (vb false) wN h778 ?_
     refine aw (vb false) ?_
     refine n3 ?_
     refine rt (vb false) ?_
     have hF1511 : gnLaw x_code d0 = false := by first | (have hxy := gn_eq hi1 (by omega) (by omega); simp only [gnLaw, gnE, gnC, hxy, h8, h68, h76, h116, h158, h165, h746, h762, h778, cond_true, cond_false]; done) | (have hxy := gn_ne (x := F_impl_Gain d0.1 d0.2.1 d0.2.2) (y := F_spec_Gain d0.1 d0.2.1 d0.2.2) i h778 (fun hq => by rw [hq]; simp); unfold gnLaw; rw [hxy]; simp only [h8, h68, h76, h116, h158, h165, h746, h762, h778, cond_true, cond_false])
     exact ⟨d0, m1504.keep0, q13, by rw [hF1511]⟩
   have q779 := of_decide_eq_true h778
   rcases bt (decide ((d0).2.2 < 0)) with h794 | h794
   ·have q795 := of_decide_eq_true h794
    refine wc_drawT ([(66, [], [], (fun _ v _ => v = (vs a33 (F_impl_Gain ((d0).1) ((d0).2.1) ((d0).2.2)).length c34))), (67, [], [0], (fun _ v w => v = .bool (iCr (F_impl_Gain ((d0).1) ((d0).2.1) ((d0).2.2))))), (68, [], [0, 1], (fun _ v _ => v = (vb (iCr (F_impl_Gain ((d0).1) ((d0).2.1) ((d0).2.2)))))), (69, [], [0, 1, 2], (fun _ v _ => v = (va (L_26 ((d0).2.1))))), (70, [], [0, 1, 2], (fun _ v _ => v = (va (L_26 (F_impl_Near ((F_laws_at x_code 2) % 12)))))), (71, [], [0, 1, 2, 3, 4], (fun _ v _ => v = (vb (decide ((((d0).2.1).Host) = ((F_impl_Near ((F_laws_at x_code 2) % 12)).Host)) && decide ((((d0).2.1).Port) = ((F_impl_Near ((F_laws_at x_code 2) % 12)).Port)))))), (72, [], [0, 1, 2, 3, 4, 5], (fun _ v _ => v = (vb (decide ((((d0).2.1).Host) = ((F_impl_Near ((F_laws_at x_code 2) % 12)).Host)) && decide ((((d0).2.1).Port) = ((F_impl_Near ((F_laws_at x_code 2) % 12)).Port)))))), (73, [], [0, 1, 2, 3, 4, 5, 6], (fun _ v _ => v = (vs a33 (F_impl_Gain ((d0).1) ((d0).2.1) ((d0).2.2)).length c34))), (74, [], [0, 1, 2, 3, 4, 5, 6], (fun _ v _ => v = (va (L_26 (F_impl_Near ((F_laws_at x_code 2) % 12)))))), (75, [], [0, 1, 2, 3, 4, 5, 6, 7, 8], (fun _ v w => v = .int .i64 (F_impl_RoomFor (F_impl_Gain ((d0).1) ((d0).2.1) ((d0).2.2)) (F_impl_Near ((F_laws_at x_code 2) % 12))))), (76, [], [0, 1, 2, 3, 4, 5, 6], (fun _ v _ => v = (vs a14 ((d0).1).length c15))), (77, [], [0, 1, 2, 3, 4, 5, 6], (fun _ v _ => v = (va (L_26 (F_impl_Near ((F_laws_at x_code 2) % 12)))))), (78, [], [0, 1, 2, 3, 4, 5, 6, 7, 8, 9, 10, 11], (fun _ v w => v = .int .i64 (F_impl_RoomFor ((d0).1) (F_impl_Near ((F_laws_at x_code 2) % 12))))), (79, [], [0, 1, 2, 3, 4, 5, 6, 7, 8, 9, 10, 11, 12], (fun _ v _ => v = (vb (decide ((F_impl_RoomFor (F_impl_Gain ((d0).1) ((d0).2.1) ((d0).2.2)) (F_impl_Near ((F_laws_at x_code 2) % 12))) = (F_impl_RoomFor ((d0).1) (F_impl_Near ((F_laws_at x_code 2) % 12)))))))), (80, [], [0, 1, 2, 3, 4, 5, 6, 7, 8, 9, 10, 11, 12, 13], (fun _ v _ => v = (vb (decide ((F_impl_RoomFor (F_impl_Gain ((d0).1) ((d0).2.1) ((d0).2.2)) (F_impl_Near ((F_laws_at x_code 2) % 12))) = (F_impl_RoomFor ((d0).1) (F_impl_Near ((F_laws_at x_code 2) % 12)))))))), (81, [], [0, 1, 2, 3, 4, 5, 6, 7, 8, 9, 10, 11, 12, 13, 14], (fun _ v _ => v = (vb (decide ((F_impl_RoomFor (F_impl_Gain ((d0).1) ((d0).2.1) ((d0).2.2)) (F_impl_Near ((F_laws_at x_code 2) % 12))) = (F_impl_RoomFor ((d0).1) (F_impl_Near ((F_laws_at x_code 2) % 12)))))))), (82, [], [0, 1, 2, 3, 4, 5, 6, 7, 8, 9, 10, 11, 12, 13, 14, 15], (fun _ v _ => v = (vb (decide ((F_impl_RoomFor (F_impl_Gain ((d0).1) ((d0).2.1) ((d0).2.2)) (F_impl_Near ((F_laws_at x_code 2) % 12))) = (F_impl_RoomFor ((d0).1) (F_impl_Near ((F_laws_at x_code 2) % 12)))))))), (83, [], [0, 1, 2, 3, 4, 5, 6, 7, 8, 9, 10, 11, 12, 13, 14, 15, 16], (fun _ v _ => v = (vi ((F_impl_RoomFor (F_impl_Gain ((d0).1) ((d0).2.1) ((d0).2.2)) ((d0).2.1)) - (F_impl_RoomFor ((d0).1) ((d0).2.1)))))), (84, [], [0, 1, 2, 3, 4, 5, 6, 7, 8, 9, 10, 11, 12, 13, 14, 15, 16, 17], (fun _ v _ => v = (vb (decide (0 ≤ ((F_impl_RoomFor (F_impl_Gain ((d0).1) ((d0).2.1) ((d0).2.2)) ((d0).2.1)) - (F_impl_RoomFor ((d0).1) ((d0).2.1)))))))), (85, [], [0, 1, 2, 3, 4, 5, 6, 7, 8, 9, 10, 11, 12, 13, 14, 15, 16, 17, 18], (fun _ v _ => v = (vb (decide (0 ≤ ((F_impl_RoomFor (F_impl_Gain ((d0).1) ((d0).2.1) ((d0).2.2)) ((d0).2.1)) - (F_impl_RoomFor ((d0).1) ((d0).2.1)))))))), (86, [], [0, 1, 2, 3, 4, 5, 6, 7, 8, 9, 10, 11, 12, 13, 14, 15, 16, 17, 18, 19], (fun _ v _ => v = (vb (decide (0 ≤ ((F_impl_RoomFor (F_impl_Gain ((d0).1) ((d0).2.1) ((d0).2.2)) ((d0).2.1)) - (F_impl_RoomFor ((d0).1) ((d0).2.1)))))))), (87, [], [0, 1, 2, 3, 4, 5, 6, 7, 8, 9, 10, 11, 12, 13, 14, 15, 16, 17, 18, 19, 20], (fun _ v _ => v = (vi ((F_impl_RoomFor (F_impl_Gain ((d0).1) ((d0).2.1) ((d0).2.2)) ((d0).2.1)) - (F_impl_RoomFor ((d0).1) ((d0).2.1)))))), (88, [], [0, 1, 2, 3, 4, 5, 6, 7, 8, 9, 10, 11, 12, 13, 14, 15, 16, 17, 18, 19, 20, 21], (fun _ v _ => v = (vi (((F_impl_RoomFor (F_impl_Gain ((d0).1) ((d0).2.1) ((d0).2.2)) ((d0).2.1)) - (F_impl_RoomFor ((d0).1) ((d0).2.1))) % 3)))), (89, [], [0, 1, 2, 3, 4, 5, 6, 7, 8, 9, 10, 11, 12, 13, 14, 15, 16, 17, 18, 19, 20, 21, 22], (fun _ v _ => v = (vb (decide ((((F_impl_RoomFor (F_impl_Gain ((d0).1) ((d0).2.1) ((d0).2.2)) ((d0).2.1)) - (F_impl_RoomFor ((d0).1) ((d0).2.1))) % 3) = 0))))), (90, [], [0, 1, 2, 3, 4, 5, 6, 7, 8, 9, 10, 11, 12, 13, 14, 15, 16, 17, 18, 19, 20, 21, 22, 23], (fun _ v _ => v = (vb (decide ((((F_impl_RoomFor (F_impl_Gain ((d0).1) ((d0).2.1) ((d0).2.2)) ((d0).2.1)) - (F_impl_RoomFor ((d0).1) ((d0).2.1))) % 3) = 0))))), (91, [], [0, 1, 2, 3, 4, 5, 6, 7, 8, 9, 10, 11, 12, 13, 14, 15, 16, 17, 18, 19, 20, 21, 22, 23, 24], (fun _ v _ => v = (vb (decide ((((F_impl_RoomFor (F_impl_Gain ((d0).1) ((d0).2.1) ((d0).2.2)) ((d0).2.1)) - (F_impl_RoomFor ((d0).1) ((d0).2.1))) % 3) = 0))))), (92, [], [0, 1, 2, 3, 4, 5, 6, 7, 8, 9, 10, 11, 12, 13, 14, 15, 16, 17, 18, 19, 20, 21, 22, 23, 24, 25], (fun _ v _ => v = (vi ((d0).2.2)))), (93, [], [0, 1, 2, 3, 4, 5, 6, 7, 8, 9, 10, 11, 12, 13, 14, 15, 16, 17, 18, 19, 20, 21, 22, 23, 24, 25, 26], (fun _ v _ => v = (vb (decide ((d0).2.2 < 0))))), (94, [], [0, 1, 2, 3, 4, 5, 6, 7, 8, 9, 10, 11, 12, 13, 14, 15, 16, 17, 18, 19, 20, 21, 22, 23, 24, 25, 26, 27], (fun _ v _ => v = (vb (decide ((d0).2.2 < 0))))), (95, [], [0, 1, 2, 3, 4, 5, 6, 7, 8, 9, 10, 11, 12, 13, 14, 15, 16, 17, 18, 19, 20, 21, 22, 23, 24, 25, 26, 27, 28], (fun _ v _ => v = U)), (96, [], [0, 1, 2, 3, 4, 5, 6, 7, 8, 9, 10, 11, 12, 13, 14, 15, 16, 17, 18, 19, 20, 21, 22, 23, 24, 25, 26, 27, 28], (fun _ v _ => v = U)), (97, [], [0, 1, 2, 3, 4, 5, 6, 7, 8, 9, 10, 11, 12, 13, 14, 15, 16, 17, 18, 19, 20, 21, 22, 23, 24, 25, 26, 27, 28, 30], (fun _ v _ => v = U))] : GV) (fun _ w' => Keep w14 w') [] mixed rfl (by kernel_rfl) (by kernel_rfl) ?_ (fun _ _ h => h) (fun _ _ _ _ h _ k => h.trans k) trivial ?_ ?_ ?_
    ·exact ⟨hV, hE, ⟨hV, hE, ⟨hV, hE, ⟨hV, hE, ⟨hV, hE, ⟨hV, hE, ⟨hV, hE, ⟨hV, hE, ⟨hV, hE, ⟨hV, hE, ⟨hV, hE, ⟨hV, hE, ⟨hV, hE, ⟨hV, hE, ⟨hV, hE, ⟨hV, hE, ⟨hV, hE, ⟨hV, hE, ⟨hV, hE, ⟨hV, hE, ⟨hV, hE, ⟨hV, hE, ⟨hV, hE, ⟨hV, hE, ⟨hV, hE, ⟨hV, hE, ⟨hV, hE, ⟨hV, hE, ⟨hV, hE, ⟨hV, hE, ⟨hV, hE, ⟨hV, hE, trivial⟩⟩⟩⟩⟩⟩⟩⟩⟩⟩⟩⟩⟩⟩⟩⟩⟩⟩⟩⟩⟩⟩⟩⟩⟩⟩⟩⟩⟩⟩⟩⟩
    ·exact trivial
    ·refine ⟨?_, ⟨?_, ⟨?_, ⟨?_, ⟨?_, ⟨?_, ⟨?_, ⟨?_, ⟨?_, ⟨?_, ⟨?_, ⟨?_, ⟨?_, ⟨?_, ⟨?_, ⟨?_, ⟨?_, ⟨?_, ⟨?_, ⟨?_, ⟨?_, ⟨?_, ⟨?_, ⟨?_, ⟨?_, ⟨?_, ⟨?_, ⟨?_, ⟨?_, ⟨?_, ⟨?_, ⟨?_, trivial⟩⟩⟩⟩⟩⟩⟩⟩⟩⟩⟩⟩⟩⟩⟩⟩⟩⟩⟩⟩⟩⟩⟩⟩⟩⟩⟩⟩⟩⟩⟩⟩
     ·intro _ w15 k812 _
      rintro _ _ _ _ _ _ _ _ _ _ _ _ _ _ _ _ _ _ _ _ _ _ _ _ _ _ _ _ _ _ _ _
      show WL _ _ _ _ _ _ _
      refine mw (vs a33 (F_impl_Gain ((d0).1) ((d0).2.1) ((d0).2.2)).length c34) ?_
      exact f1
     ·intro _ w15 k814 _
      rintro _ rfl _ _ _ _ _ _ _ _ _ _ _ _ _ _ _ _ _ _ _ _ _ _ _ _ _ _ _ _ _ _ _
      show WL _ _ _ _ _ _ _
      have o816 := (own_kp (own_kp (own_kp (own_kp o75 k114) k146) k152) k814)
      refine cl wN (C_impl_CreditsOk w15 _ (F_impl_Gain ((d0).1) ((d0).2.1) ((d0).2.2)) (mR_24 (Rd.of_own o816) s36)) ?_
      rintro _ w16 ⟨k817, rfl⟩
      exact wl_finT k817 rfl
     ·intro _ w15 k819 _
      rintro _ rfl _ rfl _ _ _ _ _ _ _ _ _ _ _ _ _ _ _ _ _ _ _ _ _ _ _ _ _ _ _ _ _ _
      show WL _ _ _ _ _ _ _
      refine mw (vb (iCr (F_impl_Gain ((d0).1) ((d0).2.1) ((d0).2.2)))) ?_
      exact f1
     ·intro _ w15 k821 _
      rintro _ rfl _ rfl _ rfl _ _ _ _ _ _ _ _ _ _ _ _ _ _ _ _ _ _ _ _ _ _ _ _ _ _ _ _ _
      show WL _ _ _ _ _ _ _
      have b823 := ((((((b56.kp k58).ch k72 (Nat.not_le.2 (Nat.lt_of_lt_of_le p23 (z7 k27 k32 k41 k44 k49 k52 k58)))).kp k114).kp k146).kp k152).kp k821)
      refine lN (L_26 ((d0).2.1)) (wS h158) isAgg_26 sizeOf_26 b823 ?_
      exact f1
     ·intro _ w15 k824 _
      rintro _ rfl _ rfl _ rfl _ _ _ _ _ _ _ _ _ _ _ _ _ _ _ _ _ _ _ _ _ _ _ _ _ _ _ _ _
      show WL _ _ _ _ _ _ _
      have b826 := ((((((b53.kp k58).ch k72 (Nat.not_le.2 (Nat.lt_of_lt_of_le p48 (z2 k52 k58)))).kp k114).kp k146).kp k152).kp k824)
      refine lN (L_26 (F_impl_Near ((F_laws_at x_code 2) % 12))) (wS h158) isAgg_26 sizeOf_26 b826 ?_
      exact f1
     ·intro _ w15 k827 _
      rintro _ rfl _ rfl _ rfl _ rfl _ rfl _ _ _ _ _ _ _ _ _ _ _ _ _ _ _ _ _ _ _ _ _ _ _ _ _ _ _
      show WL _ _ _ _ _ _ _
      refine wl_aggeq ((decide ((((d0).2.1).Host) = ((F_impl_Near ((F_laws_at x_code 2) % 12)).Host)) && decide ((((d0).2.1).Port) = ((F_impl_Near ((F_laws_at x_code 2) % 12)).Port)))) (wS h158) rfl rfl rfl rfl rfl guardt_26 (aggeq_26 (((d0).2.1).Host) ((F_impl_Near ((F_laws_at x_code 2) % 12)).Host) (((d0).2.1).Port) ((F_impl_Near ((F_laws_at x_code 2) % 12)).Port) w15) ?_
      exact f1
     ·intro _ w15 k831 _
      rintro _ rfl _ rfl _ rfl _ rfl _ rfl _ rfl _ _ _ _ _ _ _ _ _ _ _ _ _ _ _ _ _ _ _ _ _ _ _ _ _ _
      show WL _ _ _ _ _ _ _
      refine mv (vb (decide ((((d0).2.1).Host) = ((F_impl_Near ((F_laws_at x_code 2) % 12)).Host)) && decide ((((d0).2.1).Port) = ((F_impl_Near ((F_laws_at x_code 2) % 12)).Port)))) (wS h158) ?_
      exact f1
     ·intro _ w15 k835 _
      rintro _ rfl _ rfl _ rfl _ rfl _ rfl _ rfl _ rfl _ _ _ _ _ _ _ _ _ _ _ _ _ _ _ _ _ _ _ _ _ _ _ _ _
      show WL _ _ _ _ _ _ _
      refine mv (vs a33 (F_impl_Gain ((d0).1) ((d0).2.1) ((d0).2.2)).length c34) (wS h165) ?_
      exact f1
     ·intro _ w15 k839 _
      rintro _ rfl _ rfl _ rfl _ rfl _ rfl _ rfl _ rfl _ _ _ _ _ _ _ _ _ _ _ _ _ _ _ _ _ _ _ _ _ _ _ _ _
      show WL _ _ _ _ _ _ _
      have b843 := ((((((b53.kp k58).ch k72 (Nat.not_le.2 (Nat.lt_of_lt_of_le p48 (z2 k52 k58)))).kp k114).kp k146).kp k152).kp k839)
      refine lN (L_26 (F_impl_Near ((F_laws_at x_code 2) % 12))) (wS h165) isAgg_26 sizeOf_26 b843 ?_
      exact f1
     ·intro _ w15 k844 _
      rintro _ rfl _ rfl _ rfl _ rfl _ rfl _ rfl _ rfl _ rfl _ rfl _ _ _ _ _ _ _ _ _ _ _ _ _ _ _ _ _ _ _ _ _ _ _
      show WL _ _ _ _ _ _ _
      have o849 := (own_kp (own_kp (own_kp (own_kp o75 k114) k146) k152) k844)
      refine cl (wS h165) (C_impl_RoomFor w15 _ (F_impl_Gain ((d0).1) ((d0).2.1) ((d0).2.2)) (mR_24 (Rd.of_own o849) s36) _ (F_impl_Near ((F_laws_at x_code 2) % 12)) (mR_26)) ?_
      rintro _ w16 ⟨k850, rfl⟩
      have q852 := iRoom_b (F_impl_Gain ((d0).1) ((d0).2.1) ((d0).2.2)) (F_impl_Near ((F_laws_at x_code 2) % 12))
      exact wl_finT k850 rfl
     ·intro _ w15 k853 _
      rintro _ rfl _ rfl _ rfl _ rfl _ rfl _ rfl _ rfl _ _ _ _ _ _ _ _ _ _ _ _ _ _ _ _ _ _ _ _ _ _ _ _ _
      show WL _ _ _ _ _ _ _
      refine mv (vs a14 ((d0).1).length c15) (wS h165) ?_
      exact f1
     ·intro _ w15 k857 _
      rintro _ rfl _ rfl _ rfl _ rfl _ rfl _ rfl _ rfl _ _ _ _ _ _ _ _ _ _ _ _ _ _ _ _ _ _ _ _ _ _ _ _ _
      show WL _ _ _ _ _ _ _
      have b861 := ((((((b53.kp k58).ch k72 (Nat.not_le.2 (Nat.lt_of_lt_of_le p48 (z2 k52 k58)))).kp k114).kp k146).kp k152).kp k857)
      refine lN (L_26 (F_impl_Near ((F_laws_at x_code 2) % 12))) (wS h165) isAgg_26 sizeOf_26 b861 ?_
      exact f1
     ·intro _ w15 k862 _
      rintro _ rfl _ rfl _ rfl _ rfl _ rfl _ rfl _ rfl _ rfl _ rfl _ rfl
      have q867 := iRoom_b (F_impl_Gain ((d0).1) ((d0).2.1) ((d0).2.2)) (F_impl_Near ((F_laws_at x_code 2) % 12))
      rintro _ rfl _ rfl _ _ _ _ _ _ _ _ _ _ _ _ _ _ _ _ _ _ _ _
      show WL _ _ _ _ _ _ _
      have o869 := (own_kp (own_kp o151 k152) k862)
      refine cl (wS h165) (C_impl_RoomFor w15 _ ((d0).1) (mR_24 (Rd.of_own o869) s17) _ (F_impl_Near ((F_laws_at x_code 2) % 12)) (mR_26)) ?_
      rintro _ w16 ⟨k870, rfl⟩
      have q872 := iRoom_b ((d0).1) (F_impl_Near ((F_laws_at x_code 2) % 12))
      exact wl_finT k870 rfl
     ·intro _ w15 k873 _
      rintro _ rfl _ rfl _ rfl _ rfl _ rfl _ rfl _ rfl _ rfl _ rfl _ rfl
      have q878 := iRoom_b (F_impl_Gain ((d0).1) ((d0).2.1) ((d0).2.2)) (F_impl_Near ((F_laws_at x_code 2) % 12))
      rintro _ rfl _ rfl _ rfl
      have q880 := iRoom_b ((d0).1) (F_impl_Near ((F_laws_at x_code 2) % 12))
      rintro _ _ _ _ _ _ _ _ _ _ _ _ _ _ _ _ _ _ _
      show WL _ _ _ _ _ _ _
      refine pu (vb (decide ((F_impl_RoomFor (F_impl_Gain ((d0).1) ((d0).2.1) ((d0).2.2)) (F_impl_Near ((F_laws_at x_code 2) % 12))) = (F_impl_RoomFor ((d0).1) (F_impl_Near ((F_laws_at x_code 2) % 12)))))) (wS h165) ?_
      exact f1
     ·intro _ w15 k881 _
      rintro _ rfl _ rfl _ rfl _ rfl _ rfl _ rfl _ rfl _ rfl _ rfl _ rfl
      have q886 := iRoom_b (F_impl_Gain ((d0).1) ((d0).2.1) ((d0).2.2)) (F_impl_Near ((F_laws_at x_code 2) % 12))
      rintro _ rfl _ rfl _ rfl
      have q888 := iRoom_b ((d0).1) (F_impl_Near ((F_laws_at x_code 2) % 12))
      rintro _ rfl _ _ _ _ _ _ _ _ _ _ _ _ _ _ _ _ _ _
      show WL _ _ _ _ _ _ _
      refine pf (vb (decide ((F_impl_RoomFor (F_impl_Gain ((d0).1) ((d0).2.1) ((d0).2.2)) (F_impl_Near ((F_laws_at x_code 2) % 12))) = (F_impl_RoomFor ((d0).1) (F_impl_Near ((F_laws_at x_code 2) % 12)))))) (wS h158) h165 ?_
      exact f1
     ·intro _ w15 k889 _
      rintro _ rfl _ rfl _ rfl _ rfl _ rfl _ rfl _ rfl _ rfl _ rfl _ rfl
      have q894 := iRoom_b (F_impl_Gain ((d0).1) ((d0).2.1) ((d0).2.2)) (F_impl_Near ((F_laws_at x_code 2) % 12))
      rintro _ rfl _ rfl _ rfl
      have q896 := iRoom_b ((d0).1) (F_impl_Near ((F_laws_at x_code 2) % 12))
      rintro _ rfl _ rfl _ _ _ _ _ _ _ _ _ _ _ _ _ _ _ _ _
      show WL _ _ _ _ _ _ _
      refine pk (vb (decide ((F_impl_RoomFor (F_impl_Gain ((d0).1) ((d0).2.1) ((d0).2.2)) (F_impl_Near ((F_laws_at x_code 2) % 12))) = (F_impl_RoomFor ((d0).1) (F_impl_Near ((F_laws_at x_code 2) % 12)))))) wN h158 ?_
      exact f1
     ·intro _ w15 k897 _
      rintro _ rfl _ rfl _ rfl _ rfl _ rfl _ rfl _ rfl _ rfl _ rfl _ rfl
      have q902 := iRoom_b (F_impl_Gain ((d0).1) ((d0).2.1) ((d0).2.2)) (F_impl_Near ((F_laws_at x_code 2) % 12))
      rintro _ rfl _ rfl _ rfl
      have q904 := iRoom_b ((d0).1) (F_impl_Near ((F_laws_at x_code 2) % 12))
      rintro _ rfl _ rfl _ rfl _ _ _ _ _ _ _ _ _ _ _ _ _ _ _ _
      show WL _ _ _ _ _ _ _
      refine mw (vb (decide ((F_impl_RoomFor (F_impl_Gain ((d0).1) ((d0).2.1) ((d0).2.2)) (F_impl_Near ((F_laws_at x_code 2) % 12))) = (F_impl_RoomFor ((d0).1) (F_impl_Near ((F_laws_at x_code 2) % 12)))))) ?_
      exact f1
     ·intro _ w15 k905 _
      rintro _ rfl _ rfl _ rfl _ rfl _ rfl _ rfl _ rfl _ rfl _ rfl _ rfl
      have q910 := iRoom_b (F_impl_Gain ((d0).1) ((d0).2.1) ((d0).2.2)) (F_impl_Near ((F_laws_at x_code 2) % 12))
      rintro _ rfl _ rfl _ rfl
      have q912 := iRoom_b ((d0).1) (F_impl_Near ((F_laws_at x_code 2) % 12))
      rintro _ rfl _ rfl _ rfl _ rfl _ _ _ _ _ _ _ _ _ _ _ _ _ _ _
      show WL _ _ _ _ _ _ _
      refine mv (vi ((F_impl_RoomFor (F_impl_Gain ((d0).1) ((d0).2.1) ((d0).2.2)) ((d0).2.1)) - (F_impl_RoomFor ((d0).1) ((d0).2.1)))) (wS h746) ?_
      exact f1
     ·intro _ w15 k913 _
      rintro _ rfl _ rfl _ rfl _ rfl _ rfl _ rfl _ rfl _ rfl _ rfl _ rfl
      have q918 := iRoom_b (F_impl_Gain ((d0).1) ((d0).2.1) ((d0).2.2)) (F_impl_Near ((F_laws_at x_code 2) % 12))
      rintro _ rfl _ rfl _ rfl
      have q920 := iRoom_b ((d0).1) (F_impl_Near ((F_laws_at x_code 2) % 12))
      rintro _ rfl _ rfl _ rfl _ rfl _ rfl _ _ _ _ _ _ _ _ _ _ _ _ _ _
      show WL _ _ _ _ _ _ _
      refine pu (vb (decide (0 ≤ ((F_impl_RoomFor (F_impl_Gain ((d0).1) ((d0).2.1) ((d0).2.2)) ((d0).2.1)) - (F_impl_RoomFor ((d0).1) ((d0).2.1)))))) (wS h746) ?_
      exact f1
     ·intro _ w15 k921 _
      rintro _ rfl _ rfl _ rfl _ rfl _ rfl _ rfl _ rfl _ rfl _ rfl _ rfl
      have q926 := iRoom_b (F_impl_Gain ((d0).1) ((d0).2.1) ((d0).2.2)) (F_impl_Near ((F_laws_at x_code 2) % 12))
      rintro _ rfl _ rfl _ rfl
      have q928 := iRoom_b ((d0).1) (F_impl_Near ((F_laws_at x_code 2) % 12))
      rintro _ rfl _ rfl _ rfl _ rfl _ rfl _ rfl _ _ _ _ _ _ _ _ _ _ _ _ _
      show WL _ _ _ _ _ _ _
      refine pk (vb (decide (0 ≤ ((F_impl_RoomFor (F_impl_Gain ((d0).1) ((d0).2.1) ((d0).2.2)) ((d0).2.1)) - (F_impl_RoomFor ((d0).1) ((d0).2.1)))))) wN h746 ?_
      exact f1
     ·intro _ w15 k929 _
      rintro _ rfl _ rfl _ rfl _ rfl _ rfl _ rfl _ rfl _ rfl _ rfl _ rfl
      have q934 := iRoom_b (F_impl_Gain ((d0).1) ((d0).2.1) ((d0).2.2)) (F_impl_Near ((F_laws_at x_code 2) % 12))
      rintro _ rfl _ rfl _ rfl
      have q936 := iRoom_b ((d0).1) (F_impl_Near ((F_laws_at x_code 2) % 12))
      rintro _ rfl _ rfl _ rfl _ rfl _ rfl _ rfl _ rfl _ _ _ _ _ _ _ _ _ _ _ _
      show WL _ _ _ _ _ _ _
      refine mw (vb (decide (0 ≤ ((F_impl_RoomFor (F_impl_Gain ((d0).1) ((d0).2.1) ((d0).2.2)) ((d0).2.1)) - (F_impl_RoomFor ((d0).1) ((d0).2.1)))))) ?_
      exact f1
     ·intro _ w15 k937 _
      rintro _ rfl _ rfl _ rfl _ rfl _ rfl _ rfl _ rfl _ rfl _ rfl _ rfl
      have q942 := iRoom_b (F_impl_Gain ((d0).1) ((d0).2.1) ((d0).2.2)) (F_impl_Near ((F_laws_at x_code 2) % 12))
      rintro _ rfl _ rfl _ rfl
      have q944 := iRoom_b ((d0).1) (F_impl_Near ((F_laws_at x_code 2) % 12))
      rintro _ rfl _ rfl _ rfl _ rfl _ rfl _ rfl _ rfl _ rfl _ _ _ _ _ _ _ _ _ _ _
      show WL _ _ _ _ _ _ _
      refine mv (vi ((F_impl_RoomFor (F_impl_Gain ((d0).1) ((d0).2.1) ((d0).2.2)) ((d0).2.1)) - (F_impl_RoomFor ((d0).1) ((d0).2.1)))) (wS h762) ?_
      exact f1
     ·intro _ w15 k945 _
      rintro _ rfl _ rfl _ rfl _ rfl _ rfl _ rfl _ rfl _ rfl _ rfl _ rfl
      have q950 := iRoom_b (F_impl_Gain ((d0).1) ((d0).2.1) ((d0).2.2)) (F_impl_Near ((F_laws_at x_code 2) % 12))
      rintro _ rfl _ rfl _ rfl
      have q952 := iRoom_b ((d0).1) (F_impl_Near ((F_laws_at x_code 2) % 12))
      rintro _ rfl _ rfl _ rfl _ rfl _ rfl _ rfl _ rfl _ rfl _ rfl _ _ _ _ _ _ _ _ _ _
      show WL _ _ _ _ _ _ _
      refine wl_rem ((F_impl_RoomFor (F_impl_Gain ((d0).1) ((d0).2.1) ((d0).2.2)) ((d0).2.1)) - (F_impl_RoomFor ((d0).1) ((d0).2.1))) 3 (wS h762) rfl rfl (by kernel_rfl) (by first | omega | assumption) ?_
      exact f1
     ·intro _ w15 k953 _
      rintro _ rfl _ rfl _ rfl _ rfl _ rfl _ rfl _ rfl _ rfl _ rfl _ rfl
      have q958 := iRoom_b (F_impl_Gain ((d0).1) ((d0).2.1) ((d0).2.2)) (F_impl_Near ((F_laws_at x_code 2) % 12))
      rintro _ rfl _ rfl _ rfl
      have q960 := iRoom_b ((d0).1) (F_impl_Near ((F_laws_at x_code 2) % 12))
      rintro _ rfl _ rfl _ rfl _ rfl _ rfl _ rfl _ rfl _ rfl _ rfl _ rfl _ _ _ _ _ _ _ _ _
      show WL _ _ _ _ _ _ _
      refine pu (vb (decide ((((F_impl_RoomFor (F_impl_Gain ((d0).1) ((d0).2.1) ((d0).2.2)) ((d0).2.1)) - (F_impl_RoomFor ((d0).1) ((d0).2.1))) % 3) = 0))) (wS h762) ?_
      exact f1
     ·intro _ w15 k961 _
      rintro _ rfl _ rfl _ rfl _ rfl _ rfl _ rfl _ rfl _ rfl _ rfl _ rfl
      have q966 := iRoom_b (F_impl_Gain ((d0).1) ((d0).2.1) ((d0).2.2)) (F_impl_Near ((F_laws_at x_code 2) % 12))
      rintro _ rfl _ rfl _ rfl
      have q968 := iRoom_b ((d0).1) (F_impl_Near ((F_laws_at x_code 2) % 12))
      rintro _ rfl _ rfl _ rfl _ rfl _ rfl _ rfl _ rfl _ rfl _ rfl _ rfl _ rfl _ _ _ _ _ _ _ _
      show WL _ _ _ _ _ _ _
      refine pk (vb (decide ((((F_impl_RoomFor (F_impl_Gain ((d0).1) ((d0).2.1) ((d0).2.2)) ((d0).2.1)) - (F_impl_RoomFor ((d0).1) ((d0).2.1))) % 3) = 0))) wN h762 ?_
      exact f1
     ·intro _ w15 k969 _
      rintro _ rfl _ rfl _ rfl _ rfl _ rfl _ rfl _ rfl _ rfl _ rfl _ rfl
      have q974 := iRoom_b (F_impl_Gain ((d0).1) ((d0).2.1) ((d0).2.2)) (F_impl_Near ((F_laws_at x_code 2) % 12))
      rintro _ rfl _ rfl _ rfl
      have q976 := iRoom_b ((d0).1) (F_impl_Near ((F_laws_at x_code 2) % 12))
      rintro _ rfl _ rfl _ rfl _ rfl _ rfl _ rfl _ rfl _ rfl _ rfl _ rfl _ rfl _ rfl _ _ _ _ _ _ _
      show WL _ _ _ _ _ _ _
      refine mw (vb (decide ((((F_impl_RoomFor (F_impl_Gain ((d0).1) ((d0).2.1) ((d0).2.2)) ((d0).2.1)) - (F_impl_RoomFor ((d0).1) ((d0).2.1))) % 3) = 0))) ?_
      exact f1
     ·intro _ w15 k977 _
      rintro _ rfl _ rfl _ rfl _ rfl _ rfl _ rfl _ rfl _ rfl _ rfl _ rfl
      have q982 := iRoom_b (F_impl_Gain ((d0).1) ((d0).2.1) ((d0).2.2)) (F_impl_Near ((F_laws_at x_code 2) % 12))
      rintro _ rfl _ rfl _ rfl
      have q984 := iRoom_b ((d0).1) (F_impl_Near ((F_laws_at x_code 2) % 12))
      rintro _ rfl _ rfl _ rfl _ rfl _ rfl _ rfl _ rfl _ rfl _ rfl _ rfl _ rfl _ rfl _ rfl _ _ _ _ _ _
      show WL _ _ _ _ _ _ _
      refine mv (vi ((d0).2.2)) (wS h778) ?_
      exact f1
     ·intro _ w15 k985 _
      rintro _ rfl _ rfl _ rfl _ rfl _ rfl _ rfl _ rfl _ rfl _ rfl _ rfl
      have q990 := iRoom_b (F_impl_Gain ((d0).1) ((d0).2.1) ((d0).2.2)) (F_impl_Near ((F_laws_at x_code 2) % 12))
      rintro _ rfl _ rfl _ rfl
      have q992 := iRoom_b ((d0).1) (F_impl_Near ((F_laws_at x_code 2) % 12))
      rintro _ rfl _ rfl _ rfl _ rfl _ rfl _ rfl _ rfl _ rfl _ rfl _ rfl _ rfl _ rfl _ rfl _ rfl _ _ _ _ _
      show WL _ _ _ _ _ _ _
      refine pu (vb (decide ((d0).2.2 < 0))) (wS h778) ?_
      exact f1
     ·intro _ w15 k993 _
      rintro _ rfl _ rfl _ rfl _ rfl _ rfl _ rfl _ rfl _ rfl _ rfl _ rfl
      have q998 := iRoom_b (F_impl_Gain ((d0).1) ((d0).2.1) ((d0).2.2)) (F_impl_Near ((F_laws_at x_code 2) % 12))
      rintro _ rfl _ rfl _ rfl
      have q1000 := iRoom_b ((d0).1) (F_impl_Near ((F_laws_at x_code 2) % 12))
      rintro _ rfl _ rfl _ rfl _ rfl _ rfl _ rfl _ rfl _ rfl _ rfl _ rfl _ rfl _ rfl _ rfl _ rfl _ rfl _ _ _ _
      show WL _ _ _ _ _ _ _
      refine mv (vb (decide ((d0).2.2 < 0))) (wS h778) ?_
      exact f1
     ·intro _ w15 k1001 _
      rintro _ rfl _ rfl _ rfl _ rfl _ rfl _ rfl _ rfl _ rfl _ rfl _ rfl
      have q1006 := iRoom_b (F_impl_Gain ((d0).1) ((d0).2.1) ((d0).2.2)) (F_impl_Near ((F_laws_at x_code 2) % 12))
      rintro _ rfl _ rfl _ rfl
      have q1008 := iRoom_b ((d0).1) (F_impl_Near ((F_laws_at x_code 2) % 12))
      rintro _ rfl _ rfl _ rfl _ rfl _ rfl _ rfl _ rfl _ rfl _ rfl _ rfl _ rfl _ rfl _ rfl _ rfl _ rfl _ rfl _ _ _
      show WL _ _ _ _ _ _ _
      refine sk h794 ?_
      exact f1
     ·intro _ w15 k1009 _
      rintro _ rfl _ rfl _ rfl _ rfl _ rfl _ rfl _ rfl _ rfl _ rfl _ rfl
      have q1014 := iRoom_b (F_impl_Gain ((d0).1) ((d0).2.1) ((d0).2.2)) (F_impl_Near ((F_laws_at x_code 2) % 12))
      rintro _ rfl _ rfl _ rfl
      have q1016 := iRoom_b ((d0).1) (F_impl_Near ((F_laws_at x_code 2) % 12))
      rintro _ rfl _ rfl _ rfl _ rfl _ rfl _ rfl _ rfl _ rfl _ rfl _ rfl _ rfl _ rfl _ rfl _ rfl _ rfl _ rfl _ _ _
      show WL _ _ _ _ _ _ _
      refine sk h794 ?_
      exact f1
     ·intro _ w15 k1017 _
      rintro _ rfl _ rfl _ rfl _ rfl _ rfl _ rfl _ rfl _ rfl _ rfl _ rfl
      have q1022 := iRoom_b (F_impl_Gain ((d0).1) ((d0).2.1) ((d0).2.2)) (F_impl_Near ((F_laws_at x_code 2) % 12))
      rintro _ rfl _ rfl _ rfl
      have q1024 := iRoom_b ((d0).1) (F_impl_Near ((F_laws_at x_code 2) % 12))
      rintro _ rfl _ rfl _ rfl _ rfl _ rfl _ rfl _ rfl _ rfl _ rfl _ rfl _ rfl _ rfl _ rfl _ rfl _ rfl _ rfl _ _ rfl _
      show WL _ _ _ _ _ _ _
      refine sk h794 ?_
      exact f1
    ·intro _ w15 k1025
     have m1026 := m153.extk k1025
     rintro _ rfl _ rfl _ rfl _ rfl _ rfl _ rfl _ rfl _ rfl _ rfl _ rfl
     have q1030 := iRoom_b (F_impl_Gain ((d0).1) ((d0).2.1) ((d0).2.2)) (F_impl_Near ((F_laws_at x_code 2) % 12))
     rintro _ rfl _ rfl _ rfl
     have q1032 := iRoom_b ((d0).1) (F_impl_Near ((F_laws_at x_code 2) % 12))
     rintro _ rfl _ rfl _ rfl _ rfl _ rfl _ rfl _ rfl _ rfl _ rfl _ rfl _ rfl _ rfl _ rfl _ rfl _ rfl _ rfl _ rfl _ rfl _ rfl
     show WL _ _ _ _ _ _ _
     refine sk h794 ?_
     refine pk (vb true) (wS h778) h794 ?_
     refine pk (vb true) wN h778 ?_
     refine aw (vb true) ?_
     refine n3 ?_
     refine rt (vb true) ?_
     have hF1033 : gnLaw x_code d0 = true := by first | (have hxy := gn_eq hi1 (by omega) (by omega); simp only [gnLaw, gnE, gnC, hxy, h8, h68, h76, h116, h158, h165, h746, h762, h778, h794, cond_true, cond_false]; done) | (have hxy := gn_ne (x := F_impl_Gain d0.1 d0.2.1 d0.2.2) (y := F_spec_Gain d0.1 d0.2.1 d0.2.2) i h794 (fun hq => by rw [hq]; simp); unfold gnLaw; rw [hxy]; simp only [h8, h68, h76, h116, h158, h165, h746, h762, h778, h794, cond_true, cond_false])
     exact ⟨d0, m1026.keep0, q13, by rw [hF1033]⟩
   have q1034 := of_decide_eq_false h794
   refine wc_drawT ([(66, [], [], (fun _ v _ => v = (vs a33 (F_impl_Gain ((d0).1) ((d0).2.1) ((d0).2.2)).length c34))), (67, [], [0], (fun _ v w => v = .bool (iCr (F_impl_Gain ((d0).1) ((d0).2.1) ((d0).2.2))))), (68, [], [0, 1], (fun _ v _ => v = (vb (iCr (F_impl_Gain ((d0).1) ((d0).2.1) ((d0).2.2)))))), (69, [], [0, 1, 2], (fun _ v _ => v = (va (L_26 ((d0).2.1))))), (70, [], [0, 1, 2], (fun _ v _ => v = (va (L_26 (F_impl_Near ((F_laws_at x_code 2) % 12)))))), (71, [], [0, 1, 2, 3, 4], (fun _ v _ => v = (vb (decide ((((d0).2.1).Host) = ((F_impl_Near ((F_laws_at x_code 2) % 12)).Host)) && decide ((((d0).2.1).Port) = ((F_impl_Near ((F_laws_at x_code 2) % 12)).Port)))))), (72, [], [0, 1, 2, 3, 4, 5], (fun _ v _ => v = (vb (decide ((((d0).2.1).Host) = ((F_impl_Near ((F_laws_at x_code 2) % 12)).Host)) && decide ((((d0).2.1).Port) = ((F_impl_Near ((F_laws_at x_code 2) % 12)).Port)))))), (73, [], [0, 1, 2, 3, 4, 5, 6], (fun _ v _ => v = (vs a33 (F_impl_Gain ((d0).1) ((d0).2.1) ((d0).2.2)).length c34))), (74, [], [0, 1, 2, 3, 4, 5, 6], (fun _ v _ => v = (va (L_26 (F_impl_Near ((F_laws_at x_code 2) % 12)))))), (75, [], [0, 1, 2, 3, 4, 5, 6, 7, 8], (fun _ v w => v = .int .i64 (F_impl_RoomFor (F_impl_Gain ((d0).1) ((d0).2.1) ((d0).2.2)) (F_impl_Near ((F_laws_at x_code 2) % 12))))), (76, [], [0, 1, 2, 3, 4, 5, 6], (fun _ v _ => v = (vs a14 ((d0).1).length c15))), (77, [], [0, 1, 2, 3, 4, 5, 6], (fun _ v _ => v = (va (L_26 (F_impl_Near ((F_laws_at x_code 2) % 12)))))), (78, [], [0, 1, 2, 3, 4, 5, 6, 7, 8, 9, 10, 11], (fun _ v w => v = .int .i64 (F_impl_RoomFor ((d0).1) (F_impl_Near ((F_laws_at x_code 2) % 12))))), (79, [], [0, 1, 2, 3, 4, 5, 6, 7, 8, 9, 10, 11, 12], (fun _ v _ => v = (vb (decide ((F_impl_RoomFor (F_impl_Gain ((d0).1) ((d0).2.1) ((d0).2.2)) (F_impl_Near ((F_laws_at x_code 2) % 12))) = (F_impl_RoomFor ((d0).1) (F_impl_Near ((F_laws_at x_code 2) % 12)))))))), (80, [], [0, 1, 2, 3, 4, 5, 6, 7, 8, 9, 10, 11, 12, 13], (fun _ v _ => v = (vb (decide ((F_impl_RoomFor (F_impl_Gain ((d0).1) ((d0).2.1) ((d0).2.2)) (F_impl_Near ((F_laws_at x_code 2) % 12))) = (F_impl_RoomFor ((d0).1) (F_impl_Near ((F_laws_at x_code 2) % 12)))))))), (81, [], [0, 1, 2, 3, 4, 5, 6, 7, 8, 9, 10, 11, 12, 13, 14], (fun _ v _ => v = (vb (decide ((F_impl_RoomFor (F_impl_Gain ((d0).1) ((d0).2.1) ((d0).2.2)) (F_impl_Near ((F_laws_at x_code 2) % 12))) = (F_impl_RoomFor ((d0).1) (F_impl_Near ((F_laws_at x_code 2) % 12)))))))), (82, [], [0, 1, 2, 3, 4, 5, 6, 7, 8, 9, 10, 11, 12, 13, 14, 15], (fun _ v _ => v = (vb (decide ((F_impl_RoomFor (F_impl_Gain ((d0).1) ((d0).2.1) ((d0).2.2)) (F_impl_Near ((F_laws_at x_code 2) % 12))) = (F_impl_RoomFor ((d0).1) (F_impl_Near ((F_laws_at x_code 2) % 12)))))))), (83, [], [0, 1, 2, 3, 4, 5, 6, 7, 8, 9, 10, 11, 12, 13, 14, 15, 16], (fun _ v _ => v = (vi ((F_impl_RoomFor (F_impl_Gain ((d0).1) ((d0).2.1) ((d0).2.2)) ((d0).2.1)) - (F_impl_RoomFor ((d0).1) ((d0).2.1)))))), (84, [], [0, 1, 2, 3, 4, 5, 6, 7, 8, 9, 10, 11, 12, 13, 14, 15, 16, 17], (fun _ v _ => v = (vb (decide (0 ≤ ((F_impl_RoomFor (F_impl_Gain ((d0).1) ((d0).2.1) ((d0).2.2)) ((d0).2.1)) - (F_impl_RoomFor ((d0).1) ((d0).2.1)))))))), (85, [], [0, 1, 2, 3, 4, 5, 6, 7, 8, 9, 10, 11, 12, 13, 14, 15, 16, 17, 18], (fun _ v _ => v = (vb (decide (0 ≤ ((F_impl_RoomFor (F_impl_Gain ((d0).1) ((d0).2.1) ((d0).2.2)) ((d0).2.1)) - (F_impl_RoomFor ((d0).1) ((d0).2.1)))))))), (86, [], [0, 1, 2, 3, 4, 5, 6, 7, 8, 9, 10, 11, 12, 13, 14, 15, 16, 17, 18, 19], (fun _ v _ => v = (vb (decide (0 ≤ ((F_impl_RoomFor (F_impl_Gain ((d0).1) ((d0).2.1) ((d0).2.2)) ((d0).2.1)) - (F_impl_RoomFor ((d0).1) ((d0).2.1)))))))), (87, [], [0, 1, 2, 3, 4, 5, 6, 7, 8, 9, 10, 11, 12, 13, 14, 15, 16, 17, 18, 19, 20], (fun _ v _ => v = (vi ((F_impl_RoomFor (F_impl_Gain ((d0).1) ((d0).2.1) ((d0).2.2)) ((d0).2.1)) - (F_impl_RoomFor ((d0).1) ((d0).2.1)))))), (88, [], [0, 1, 2, 3, 4, 5, 6, 7, 8, 9, 10, 11, 12, 13, 14, 15, 16, 17, 18, 19, 20, 21], (fun _ v _ => v = (vi (((F_impl_RoomFor (F_impl_Gain ((d0).1) ((d0).2.1) ((d0).2.2)) ((d0).2.1)) - (F_impl_RoomFor ((d0).1) ((d0).2.1))) % 3)))), (89, [], [0, 1, 2, 3, 4, 5, 6, 7, 8, 9, 10, 11, 12, 13, 14, 15, 16, 17, 18, 19, 20, 21, 22], (fun _ v _ => v = (vb (decide ((((F_impl_RoomFor (F_impl_Gain ((d0).1) ((d0).2.1) ((d0).2.2)) ((d0).2.1)) - (F_impl_RoomFor ((d0).1) ((d0).2.1))) % 3) = 0))))), (90, [], [0, 1, 2, 3, 4, 5, 6, 7, 8, 9, 10, 11, 12, 13, 14, 15, 16, 17, 18, 19, 20, 21, 22, 23], (fun _ v _ => v = (vb (decide ((((F_impl_RoomFor (F_impl_Gain ((d0).1) ((d0).2.1) ((d0).2.2)) ((d0).2.1)) - (F_impl_RoomFor ((d0).1) ((d0).2.1))) % 3) = 0))))), (91, [], [0, 1, 2, 3, 4, 5, 6, 7, 8, 9, 10, 11, 12, 13, 14, 15, 16, 17, 18, 19, 20, 21, 22, 23, 24], (fun _ v _ => v = (vb (decide ((((F_impl_RoomFor (F_impl_Gain ((d0).1) ((d0).2.1) ((d0).2.2)) ((d0).2.1)) - (F_impl_RoomFor ((d0).1) ((d0).2.1))) % 3) = 0))))), (92, [], [0, 1, 2, 3, 4, 5, 6, 7, 8, 9, 10, 11, 12, 13, 14, 15, 16, 17, 18, 19, 20, 21, 22, 23, 24, 25], (fun _ v _ => v = (vi ((d0).2.2)))), (93, [], [0, 1, 2, 3, 4, 5, 6, 7, 8, 9, 10, 11, 12, 13, 14, 15, 16, 17, 18, 19, 20, 21, 22, 23, 24, 25, 26], (fun _ v _ => v = (vb (decide ((d0).2.2 < 0))))), (94, [], [0, 1, 2, 3, 4, 5, 6, 7, 8, 9, 10, 11, 12, 13, 14, 15, 16, 17, 18, 19, 20, 21, 22, 23, 24, 25, 26, 27], (fun _ v _ => v = (vb (decide ((d0).2.2 < 0))))), (95, [], [0, 1, 2, 3, 4, 5, 6, 7, 8, 9, 10, 11, 12, 13, 14, 15, 16, 17, 18, 19, 20, 21, 22, 23, 24, 25, 26, 27, 28], (fun _ v _ => v = (vi ((F_impl_RoomFor (F_impl_Gain ((d0).1) ((d0).2.1) ((d0).2.2)) ((d0).2.1)) - (F_impl_RoomFor ((d0).1) ((d0).2.1)))))), (96, [], [0, 1, 2, 3, 4, 5, 6, 7, 8, 9, 10, 11, 12, 13, 14, 15, 16, 17, 18, 19, 20, 21, 22, 23, 24, 25, 26, 27, 28], (fun _ v _ => v = (vi ((d0).2.2)))), (97, [], [0, 1, 2, 3, 4, 5, 6, 7, 8, 9, 10, 11, 12, 13, 14, 15, 16, 17, 18, 19, 20, 21, 22, 23, 24, 25, 26, 27, 28, 30], (fun _ v _ => v = (vi (3 * ((d0).2.2)))))] : GV) (fun _ w' => Keep w14 w') [] mixed rfl (by kernel_rfl) (by kernel_rfl) ?_ (fun _ _ h => h) (fun _ _ _ _ h _ k => h.trans k) trivial ?_ ?_ ?_
   ·exact ⟨hV, hE, ⟨hV, hE, ⟨hV, hE, ⟨hV, hE, ⟨hV, hE, ⟨hV, hE, ⟨hV, hE, ⟨hV, hE, ⟨hV, hE, ⟨hV, hE, ⟨hV, hE, ⟨hV, hE, ⟨hV, hE, ⟨hV, hE, ⟨hV, hE, ⟨hV, hE, ⟨hV, hE, ⟨hV, hE, ⟨hV, hE, ⟨hV, hE, ⟨hV, hE, ⟨hV, hE, ⟨hV, hE, ⟨hV, hE, ⟨hV, hE, ⟨hV, hE, ⟨hV, hE, ⟨hV, hE, ⟨hV, hE, ⟨hV, hE, ⟨hV, hE, ⟨hV, hE, trivial⟩⟩⟩⟩⟩⟩⟩⟩⟩⟩⟩⟩⟩⟩⟩⟩⟩⟩⟩⟩⟩⟩⟩⟩⟩⟩⟩⟩⟩⟩⟩⟩
   ·exact trivial
   ·refine ⟨?_, ⟨?_, ⟨?_, ⟨?_, ⟨?_, ⟨?_, ⟨?_, ⟨?_, ⟨?_, ⟨?_, ⟨?_, ⟨?_, ⟨?_, ⟨?_, ⟨?_, ⟨?_, ⟨?_, ⟨?_, ⟨?_, ⟨?_, ⟨?_, ⟨?_, ⟨?_, ⟨?_, ⟨?_, ⟨?_, ⟨?_, ⟨?_, ⟨?_, ⟨?_, ⟨?_, ⟨?_, trivial⟩⟩⟩⟩⟩⟩⟩⟩⟩⟩⟩⟩⟩⟩⟩⟩⟩⟩⟩⟩⟩⟩⟩⟩⟩⟩⟩⟩⟩⟩⟩⟩
    ·intro _ w15 k1051 _
     rintro _ _ _ _ _ _ _ _ _ _ _ _ _ _ _ _ _ _ _ _ _ _ _ _ _ _ _ _ _ _ _ _
     show WL _ _ _ _ _ _ _
     refine mw (vs a33 (F_impl_Gain ((d0).1) ((d0).2.1) ((d0).2.2)).length c34) ?_
     exact f1
    ·intro _ w15 k1053 _
     rintro _ rfl _ _ _ _ _ _ _ _ _ _ _ _ _ _ _ _ _ _ _ _ _ _ _ _ _ _ _ _ _ _ _
     show WL _ _ _ _ _ _ _
     have o1055 := (own_kp (own_kp (own_kp (own_kp o75 k114) k146) k152) k1053)
     refine cl wN (C_impl_CreditsOk w15 _ (F_impl_Gain ((d0).1) ((d0).2.1) ((d0).2.2)) (mR_24 (Rd.of_own o1055) s36)) ?_
     rintro _ w16 ⟨k1056, rfl⟩
     exact wl_finT k1056 rfl
    ·intro _ w15 k1058 _
     rintro _ rfl _ rfl _ _ _ _ _ _ _ _ _ _ _ _ _ _ _ _ _ _ _ _ _ _ _ _ _ _ _ _ _ _
     show WL _ _ _ _ _ _ _
     refine mw (vb (iCr (F_impl_Gain ((d0).1) ((d0).2.1) ((d0).2.2)))) ?_
     exact f1
    ·intro _ w15 k1060 _
     rintro _ rfl _ rfl _ rfl _ _ _ _ _ _ _ _ _ _ _ _ _ _ _ _ _ _ _ _ _ _ _ _ _ _ _ _ _
     show WL _ _ _ _ _ _ _
     have b1062 := ((((((b56.kp k58).ch k72 (Nat.not_le.2 (Nat.lt_of_lt_of_le p23 (z7 k27 k32 k41 k44 k49 k52 k58)))).kp k114).kp k146).kp k152).kp k1060)
     refine lN (L_26 ((d0).2.1)) (wS h158) isAgg_26 sizeOf_26 b1062 ?_
     exact f1
    ·intro _ w15 k1063 _
     rintro _ rfl _ rfl _ rfl _ _ _ _ _ _ _ _ _ _ _ _ _ _ _ _ _ _ _ _ _ _ _ _ _ _ _ _ _
     show WL _ _ _ _ _ _ _
     have b1065 := ((((((b53.kp k58).ch k72 (Nat.not_le.2 (Nat.lt_of_lt_of_le p48 (z2 k52 k58)))).kp k114).kp k146).kp k152).kp k1063)
     refine lN (L_26 (F_impl_Near ((F_laws_at x_code 2) % 12))) (wS h158) isAgg_26 sizeOf_26 b1065 ?_
     exact f1
    ·intro _ w15 k1066 _
     rintro _ rfl _ rfl _ rfl _ rfl _ rfl _ _ _ _ _ _ _ _ _ _ _ _ _ _ _ _ _ _ _ _ _ _ _ _ _ _ _
     show WL _ _ _ _ _ _ _
     refine wl_aggeq ((decide ((((d0).2.1).Host) = ((F_impl_Near ((F_laws_at x_code 2) % 12)).Host)) && decide ((((d0).2.1).Port) = ((F_impl_Near ((F_laws_at x_code 2) % 12)).Port)))) (wS h158) rfl rfl rfl rfl rfl guardt_26 (aggeq_26 (((d0).2.1).Host) ((F_impl_Near ((F_laws_at x_code 2) % 12)).Host) (((d0).2.1).Port) ((F_impl_Near ((F_laws_at x_code 2) % 12)).Port) w15) ?_
     exact f1
    ·intro _ w15 k1070 _
     rintro _ rfl _ rfl _ rfl _ rfl _ rfl _ rfl _ _ _ _ _ _ _ _ _ _ _ _ _ _ _ _ _ _ _ _ _ _ _ _ _ _
     show WL _ _ _ _ _ _ _
     refine mv (vb (decide ((((d0).2.1).Host) = ((F_impl_Near ((F_laws_at x_code 2) % 12)).Host)) && decide ((((d0).2.1).Port) = ((F_impl_Near ((F_laws_at x_code 2) % 12)).Port)))) (wS h158) ?_
     exact f1
    ·intro _ w15 k1074 _
     rintro _ rfl _ rfl _ rfl _ rfl _ rfl _ rfl _ rfl _ _ _ _ _ _ _ _ _ _ _ _ _ _ _ _ _ _ _ _ _ _ _ _ _
     show WL _ _ _ _ _ _ _
     refine mv (vs a33 (F_impl_Gain ((d0).1) ((d0).2.1) ((d0).2.2)).length c34) (wS h165) ?_
     exact f1
    ·intro _ w15 k1078 _
     rintro _ rfl _ rfl _ rfl _ rfl _ rfl _ rfl _ rfl _ _ _ _ _ _ _ _ _ _ _ _ _ _ _ _ _ _ _ _ _ _ _ _ _
     show WL _ _ _ _ _ _ _
     have b1082 := ((((((b53.kp k58).ch k72 (Nat.not_le.2 (Nat.lt_of_lt_of_le p48 (z2 k52 k58)))).kp k114).kp k146).kp k152).kp k1078)
     refine lN (L_26 (F_impl_Near ((F_laws_at x_code 2) % 12))) (wS h165) isAgg_26 sizeOf_26 b1082 ?_
     exact f1
    ·intro _ w15 k1083 _
     rintro _ rfl _ rfl _ rfl _ rfl _ rfl _ rfl _ rfl _ rfl _ rfl _ _ _ _ _ _ _ _ _ _ _ _ _ _ _ _ _ _ _ _ _ _ _
     show WL _ _ _ _ _ _ _
     have o1088 := (own_kp (own_kp (own_kp (own_kp o75 k114) k146) k152) k1083)
     refine cl (wS h165) (C_impl_RoomFor w15 _ (F_impl_Gain ((d0).1) ((d0).2.1) ((d0).2.2)) (mR_24 (Rd.of_own o1088) s36) _ (F_impl_Near ((F_laws_at x_code 2) % 12)) (mR_26)) ?_
     rintro _ w16 ⟨k1089, rfl⟩
     have q1091 := iRoom_b (F_impl_Gain ((d0).1) ((d0).2.1) ((d0).2.2)) (F_impl_Near ((F_laws_at x_code 2) % 12))
     exact wl_finT k1089 rfl
    ·intro _ w15 k1092 _
     rintro _ rfl _ rfl _ rfl _ rfl _ rfl _ rfl _ rfl _ _ _ _ _ _ _ _ _ _ _ _ _ _ _ _ _ _ _ _ _ _ _ _ _
     show WL _ _ _ _ _ _ _
     refine mv (vs a14 ((d0).1).length c15) (wS h165) ?_
     exact f1
    ·intro _ w15 k1096 _
     rintro _ rfl _ rfl _ rfl _ rfl _ rfl _ rfl _ rfl _ _ _ _ _ _ _ _ _ _ _ _ _ _ _ _ _ _ _ _ _ _ _ _ _
     show WL _ _ _ _ _ _ _
     have b1100 := ((((((b53.kp k58).ch k72 (Nat.not_le.2 (Nat.lt_of_lt_of_le p48 (z2 k52 k58)))).kp k114).kp k146).kp k152).kp k1096)
     refine lN (L_26 (F_impl_Near ((F_laws_at x_code 2) % 12))) (wS h165) isAgg_26 sizeOf_26 b1100 ?_
     exact f1
    ·intro _ w15 k1101 _
     rintro _ rfl _ rfl _ rfl _ rfl _ rfl _ rfl _ rfl _ rfl _ rfl _ rfl
     have q1106 := iRoom_b (F_impl_Gain ((d0).1) ((d0).2.1) ((d0).2.2)) (F_impl_Near ((F_laws_at x_code 2) % 12))
     rintro _ rfl _ rfl _ _ _ _ _ _ _ _ _ _ _ _ _ _ _ _ _ _ _ _
     show WL _ _ _ _ _ _ _
     have o1108 := (own_kp (own_kp o151 k152) k1101)
     refine cl (wS h165) (C_impl_RoomFor w15 _ ((d0).1) (mR_24 (Rd.of_own o1108) s17) _ (F_impl_Near ((F_laws_at x_code 2) % 12)) (mR_26)) ?_
     rintro _ w16 ⟨k1109, rfl⟩
     have q1111 := iRoom_b ((d0).1) (F_impl_Near ((F_laws_at x_code 2) % 12))
     exact wl_finT k1109 rfl
    ·intro _ w15 k1112 _
     rintro _ rfl _ rfl _ rfl _ rfl _ rfl _ rfl _ rfl _ rfl _ rfl _ rfl
     have q1117 := iRoom_b (F_impl_Gain ((d0).1) ((d0).2.1) ((d0).2.2)) (F_impl_Near ((F_laws_at x_code 2) % 12))
     rintro _ rfl _ rfl _ rfl
     have q1119 := iRoom_b ((d0).1) (F_impl_Near ((F_laws_at x_code 2) % 12))
     rintro _ _ _ _ _ _ _ _ _ _ _ _ _ _ _ _ _ _ _
     show WL _ _ _ _ _ _ _
     refine pu (vb (decide ((F_impl_RoomFor (F_impl_Gain ((d0).1) ((d0).2.1) ((d0).2.2)) (F_impl_Near ((F_laws_at x_code 2) % 12))) = (F_impl_RoomFor ((d0).1) (F_impl_Near ((F_laws_at x_code 2) % 12)))))) (wS h165) ?_
     exact f1
    ·intro _ w15 k1120 _
     rintro _ rfl _ rfl _ rfl _ rfl _ rfl _ rfl _ rfl _ rfl _ rfl _ rfl
     have q1125 := iRoom_b (F_impl_Gain ((d0).1) ((d0).2.1) ((d0).2.2)) (F_impl_Near ((F_laws_at x_code 2) % 12))
     rintro _ rfl _ rfl _ rfl
     have q1127 := iRoom_b ((d0).1) (F_impl_Near ((F_laws_at x_code 2) % 12))
     rintro _ rfl _ _ _ _ _ _ _ _ _ _ _ _ _ _ _ _ _ _
     show WL _ _ _ _ _ _ _
     refine pf (vb (decide ((F_impl_RoomFor (F_impl_Gain ((d0).1) ((d0).2.1) ((d0).2.2)) (F_impl_Near ((F_laws_at x_code 2) % 12))) = (F_impl_RoomFor ((d0).1) (F_impl_Near ((F_laws_at x_code 2) % 12)))))) (wS h158) h165 ?_
     exact f1
    ·intro _ w15 k1128 _
     rintro _ rfl _ rfl _ rfl _ rfl _ rfl _ rfl _ rfl _ rfl _ rfl _ rfl
     have q1133 := iRoom_b (F_impl_Gain ((d0).1) ((d0).2.1) ((d0).2.2)) (F_impl_Near ((F_laws_at x_code 2) % 12))
     rintro _ rfl _ rfl _ rfl
     have q1135 := iRoom_b ((d0).1) (F_impl_Near ((F_laws_at x_code 2) % 12))
     rintro _ rfl _ rfl _ _ _ _ _ _ _ _ _ _ _ _ _ _ _ _ _
     show WL _ _ _ _ _ _ _
     refine pk (vb (decide ((F_impl_RoomFor (F_impl_Gain ((d0).1) ((d0).2.1) ((d0).2.2)) (F_impl_Near ((F_laws_at x_code 2) % 12))) = (F_impl_RoomFor ((d0).1) (F_impl_Near ((F_laws_at x_code 2) % 12)))))) wN h158 ?_
     exact f1
    ·intro _ w15 k1136 _
     rintro _ rfl _ rfl _ rfl _ rfl _ rfl _ rfl _ rfl _ rfl _ rfl _ rfl
     have q1141 := iRoom_b (F_impl_Gain ((d0).1) ((d0).2.1) ((d0).2.2)) (F_impl_Near ((F_laws_at x_code 2) % 12))
     rintro _ rfl _ rfl _ rfl
     have q1143 := iRoom_b ((d0).1) (F_impl_Near ((F_laws_at x_code 2) % 12))
     rintro _ rfl _ rfl _ rfl _ _ _ _ _ _ _ _ _ _ _ _ _ _ _ _
     show WL _ _ _ _ _ _ _
     refine mw (vb (decide ((F_impl_RoomFor (F_impl_Gain ((d0).1) ((d0).2.1) ((d0).2.2)) (F_impl_Near ((F_laws_at x_code 2) % 12))) = (F_impl_RoomFor ((d0).1) (F_impl_Near ((F_laws_at x_code 2) % 12)))))) ?_
     exact f1
    ·intro _ w15 k1144 _
     rintro _ rfl _ rfl _ rfl _ rfl _ rfl _ rfl _ rfl _ rfl _ rfl _ rfl
     have q1149 := iRoom_b (F_impl_Gain ((d0).1) ((d0).2.1) ((d0).2.2)) (F_impl_Near ((F_laws_at x_code 2) % 12))
     rintro _ rfl _ rfl _ rfl
     have q1151 := iRoom_b ((d0).1) (F_impl_Near ((F_laws_at x_code 2) % 12))
     rintro _ rfl _ rfl _ rfl _ rfl _ _ _ _ _ _ _ _ _ _ _ _ _ _ _
     show WL _ _ _ _ _ _ _
     refine mv (vi ((F_impl_RoomFor (F_impl_Gain ((d0).1) ((d0).2.1) ((d0).2.2)) ((d0).2.1)) - (F_impl_RoomFor ((d0).1) ((d0).2.1)))) (wS h746) ?_
     exact f1
    ·intro _ w15 k1152 _
     rintro _ rfl _ rfl _ rfl _ rfl _ rfl _ rfl _ rfl _ rfl _ rfl _ rfl
     have q1157 := iRoom_b (F_impl_Gain ((d0).1) ((d0).2.1) ((d0).2.2)) (F_impl_Near ((F_laws_at x_code 2) % 12))
     rintro _ rfl _ rfl _ rfl
     have q1159 := iRoom_b ((d0).1) (F_impl_Near ((F_laws_at x_code 2) % 12))
     rintro _ rfl _ rfl _ rfl _ rfl _ rfl _ _ _ _ _ _ _ _ _ _ _ _ _ _
     show WL _ _ _ _ _ _ _
     refine pu (vb (decide (0 ≤ ((F_impl_RoomFor (F_impl_Gain ((d0).1) ((d0).2.1) ((d0).2.2)) ((d0).2.1)) - (F_impl_RoomFor ((d0).1) ((d0).2.1)))))) (wS h746) ?_
     exact f1
    ·intro _ w15 k1160 _
     rintro _ rfl _ rfl _ rfl _ rfl _ rfl _ rfl _ rfl _ rfl _ rfl _ rfl
     have q1165 := iRoom_b (F_impl_Gain ((d0).1) ((d0).2.1) ((d0).2.2)) (F_impl_Near ((F_laws_at x_code 2) % 12))
     rintro _ rfl _ rfl _ rfl
     have q1167 := iRoom_b ((d0).1) (F_impl_Near ((F_laws_at x_code 2) % 12))
     rintro _ rfl _ rfl _ rfl _ rfl _ rfl _ rfl _ _ _ _ _ _ _ _ _ _ _ _ _
     show WL _ _ _ _ _ _ _
     refine pk (vb (decide (0 ≤ ((F_impl_RoomFor (F_impl_Gain ((d0).1) ((d0).2.1) ((d0).2.2)) ((d0).2.1)) - (F_impl_RoomFor ((d0).1) ((d0).2.1)))))) wN h746 ?_
     exact f1
    ·intro _ w15 k1168 _
     rintro _ rfl _ rfl _ rfl _ rfl _ rfl _ rfl _ rfl _ rfl _ rfl _ rfl
     have q1173 := iRoom_b (F_impl_Gain ((d0).1) ((d0).2.1) ((d0).2.2)) (F_impl_Near ((F_laws_at x_code 2) % 12))
     rintro _ rfl _ rfl _ rfl
     have q1175 := iRoom_b ((d0).1) (F_impl_Near ((F_laws_at x_code 2) % 12))
     rintro _ rfl _ rfl _ rfl _ rfl _ rfl _ rfl _ rfl _ _ _ _ _ _ _ _ _ _ _ _
     show WL _ _ _ _ _ _ _
     refine mw (vb (decide (0 ≤ ((F_impl_RoomFor (F_impl_Gain ((d0).1) ((d0).2.1) ((d0).2.2)) ((d0).2.1)) - (F_impl_RoomFor ((d0).1) ((d0).2.1)))))) ?_
     exact f1
    ·intro _ w15 k1176 _
     rintro _ rfl _ rfl _ rfl _ rfl _ rfl _ rfl _ rfl _ rfl _ rfl _ rfl
     have q1181 := iRoom_b (F_impl_Gain ((d0).1) ((d0).2.1) ((d0).2.2)) (F_impl_Near ((F_laws_at x_code 2) % 12))
     rintro _ rfl _ rfl _ rfl
     have q1183 := iRoom_b ((d0).1) (F_impl_Near ((F_laws_at x_code 2) % 12))
     rintro _ rfl _ rfl _ rfl _ rfl _ rfl _ rfl _ rfl _ rfl _ _ _ _ _ _ _ _ _ _ _
     show WL _ _ _ _ _ _ _
     refine mv (vi ((F_impl_RoomFor (F_impl_Gain ((d0).1) ((d0).2.1) ((d0).2.2)) ((d0).2.1)) - (F_impl_RoomFor ((d0).1) ((d0).2.1)))) (wS h762) ?_
     exact f1
    ·intro _ w15 k1184 _
     rintro _ rfl _ rfl _ rfl _ rfl _ rfl _ rfl _ rfl _ rfl _ rfl _ rfl
     have q1189 := iRoom_b (F_impl_Gain ((d0).1) ((d0).2.1) ((d0).2.2)) (F_impl_Near ((F_laws_at x_code 2) % 12))
     rintro _ rfl _ rfl _ rfl
     have q1191 := iRoom_b ((d0).1) (F_impl_Near ((F_laws_at x_code 2) % 12))
     rintro _ rfl _ rfl _ rfl _ rfl _ rfl _ rfl _ rfl _ rfl _ rfl _ _ _ _ _ _ _ _ _ _
     show WL _ _ _ _ _ _ _
     refine wl_rem ((F_impl_RoomFor (F_impl_Gain ((d0).1) ((d0).2.1) ((d0).2.2)) ((d0).2.1)) - (F_impl_RoomFor ((d0).1) ((d0).2.1))) 3 (wS h762) rfl rfl (by kernel_rfl) (by first | omega | assumption) ?_
     exact f1
    ·intro _ w15 k1192 _
     rintro _ rfl _ rfl _ rfl _ rfl _ rfl _ rfl _ rfl _ rfl _ rfl _ rfl
     have q1197 := iRoom_b (F_impl_Gain ((d0).1) ((d0).2.1) ((d0).2.2)) (F_impl_Near ((F_laws_at x_code 2) % 12))
     rintro _ rfl _ rfl _ rfl
     have q1199 := iRoom_b ((d0).1) (F_impl_Near ((F_laws_at x_code 2) % 12))
     rintro _ rfl _ rfl _ rfl _ rfl _ rfl _ rfl _ rfl _ rfl _ rfl _ rfl _ _ _ _ _ _ _ _ _
     show WL _ _ _ _ _ _ _
     refine pu (vb (decide ((((F_impl_RoomFor (F_impl_Gain ((d0).1) ((d0).2.1) ((d0).2.2)) ((d0).2.1)) - (F_impl_RoomFor ((d0).1) ((d0).2.1))) % 3) = 0))) (wS h762) ?_
     exact f1
    ·intro _ w15 k1200 _
     rintro _ rfl _ rfl _ rfl _ rfl _ rfl _ rfl _ rfl _ rfl _ rfl _ rfl
     have q1205 := iRoom_b (F_impl_Gain ((d0).1) ((d0).2.1) ((d0).2.2)) (F_impl_Near ((F_laws_at x_code 2) % 12))
     rintro _ rfl _ rfl _ rfl
     have q1207 := iRoom_b ((d0).1) (F_impl_Near ((F_laws_at x_code 2) % 12))
     rintro _ rfl _ rfl _ rfl _ rfl _ rfl _ rfl _ rfl _ rfl _ rfl _ rfl _ rfl _ _ _ _ _ _ _ _
     show WL _ _ _ _ _ _ _
     refine pk (vb (decide ((((F_impl_RoomFor (F_impl_Gain ((d0).1) ((d0).2.1) ((d0).2.2)) ((d0).2.1)) - (F_impl_RoomFor ((d0).1) ((d0).2.1))) % 3) = 0))) wN h762 ?_
     exact f1
    ·intro _ w15 k1208 _
     rintro _ rfl _ rfl _ rfl _ rfl _ rfl _ rfl _ rfl _ rfl _ rfl _ rfl
     have q1213 := iRoom_b (F_impl_Gain ((d0).1) ((d0).2.1) ((d0).2.2)) (F_impl_Near ((F_laws_at x_code 2) % 12))
     rintro _ rfl _ rfl _ rfl
     have q1215 := iRoom_b ((d0).1) (F_impl_Near ((F_laws_at x_code 2) % 12))
     rintro _ rfl _ rfl _ rfl _ rfl _ rfl _ rfl _ rfl _ rfl _ rfl _ rfl _ rfl _ rfl _ _ _ _ _ _ _
     show WL _ _ _ _ _ _ _
     refine mw (vb (decide ((((F_impl_RoomFor (F_impl_Gain ((d0).1) ((d0).2.1) ((d0).2.2)) ((d0).2.1)) - (F_impl_RoomFor ((d0).1) ((d0).2.1))) % 3) = 0))) ?_
     exact f1
    ·intro _ w15 k1216 _
     rintro _ rfl _ rfl _ rfl _ rfl _ rfl _ rfl _ rfl _ rfl _ rfl _ rfl
     have q1221 := iRoom_b (F_impl_Gain ((d0).1) ((d0).2.1) ((d0).2.2)) (F_impl_Near ((F_laws_at x_code 2) % 12))
     rintro _ rfl _ rfl _ rfl
     have q1223 := iRoom_b ((d0).1) (F_impl_Near ((F_laws_at x_code 2) % 12))
     rintro _ rfl _ rfl _ rfl _ rfl _ rfl _ rfl _ rfl _ rfl _ rfl _ rfl _ rfl _ rfl _ rfl _ _ _ _ _ _
     show WL _ _ _ _ _ _ _
     refine mv (vi ((d0).2.2)) (wS h778) ?_
     exact f1
    ·intro _ w15 k1224 _
     rintro _ rfl _ rfl _ rfl _ rfl _ rfl _ rfl _ rfl _ rfl _ rfl _ rfl
     have q1229 := iRoom_b (F_impl_Gain ((d0).1) ((d0).2.1) ((d0).2.2)) (F_impl_Near ((F_laws_at x_code 2) % 12))
     rintro _ rfl _ rfl _ rfl
     have q1231 := iRoom_b ((d0).1) (F_impl_Near ((F_laws_at x_code 2) % 12))
     rintro _ rfl _ rfl _ rfl _ rfl _ rfl _ rfl _ rfl _ rfl _ rfl _ rfl _ rfl _ rfl _ rfl _ rfl _ _ _ _ _
     show WL _ _ _ _ _ _ _
     refine pu (vb (decide ((d0).2.2 < 0))) (wS h778) ?_
     exact f1
    ·intro _ w15 k1232 _
     rintro _ rfl _ rfl _ rfl _ rfl _ rfl _ rfl _ rfl _ rfl _ rfl _ rfl
     have q1237 := iRoom_b (F_impl_Gain ((d0).1) ((d0).2.1) ((d0).2.2)) (F_impl_Near ((F_laws_at x_code 2) % 12))
     rintro _ rfl _ rfl _ rfl
     have q1239 := iRoom_b ((d0).1) (F_impl_Near ((F_laws_at x_code 2) % 12))
     rintro _ rfl _ rfl _ rfl _ rfl _ rfl _ rfl _ rfl _ rfl _ rfl _ rfl _ rfl _ rfl _ rfl _ rfl _ rfl _ _ _ _
     show WL _ _ _ _ _ _ _
     refine mv (vb (decide ((d0).2.2 < 0))) (wS h778) ?_
     exact f1
    ·intro _ w15 k1240 _
     rintro _ rfl _ rfl _ rfl _ rfl _ rfl _ rfl _ rfl _ rfl _ rfl _ rfl
     have q1245 := iRoom_b (F_impl_Gain ((d0).1) ((d0).2.1) ((d0).2.2)) (F_impl_Near ((F_laws_at x_code 2) % 12))
     rintro _ rfl _ rfl _ rfl
     have q1247 := iRoom_b ((d0).1) (F_impl_Near ((F_laws_at x_code 2) % 12))
     rintro _ rfl _ rfl _ rfl _ rfl _ rfl _ rfl _ rfl _ rfl _ rfl _ rfl _ rfl _ rfl _ rfl _ rfl _ rfl _ rfl _ _ _
     show WL _ _ _ _ _ _ _
     refine mv (vi ((F_impl_RoomFor (F_impl_Gain ((d0).1) ((d0).2.1) ((d0).2.2)) ((d0).2.1)) - (F_impl_RoomFor ((d0).1) ((d0).2.1)))) (wS h794) ?_
     exact f1
    ·intro _ w15 k1248 _
     rintro _ rfl _ rfl _ rfl _ rfl _ rfl _ rfl _ rfl _ rfl _ rfl _ rfl
     have q1253 := iRoom_b (F_impl_Gain ((d0).1) ((d0).2.1) ((d0).2.2)) (F_impl_Near ((F_laws_at x_code 2) % 12))
     rintro _ rfl _ rfl _ rfl
     have q1255 := iRoom_b ((d0).1) (F_impl_Near ((F_laws_at x_code 2) % 12))
     rintro _ rfl _ rfl _ rfl _ rfl _ rfl _ rfl _ rfl _ rfl _ rfl _ rfl _ rfl _ rfl _ rfl _ rfl _ rfl _ rfl _ _ _
     show WL _ _ _ _ _ _ _
     refine mv (vi ((d0).2.2)) (wS h794) ?_
     exact f1
    ·intro _ w15 k1256 _
     rintro _ rfl _ rfl _ rfl _ rfl _ rfl _ rfl _ rfl _ rfl _ rfl _ rfl
     have q1261 := iRoom_b (F_impl_Gain ((d0).1) ((d0).2.1) ((d0).2.2)) (F_impl_Near ((F_laws_at x_code 2) % 12))
     rintro _ rfl _ rfl _ rfl
     have q1263 := iRoom_b ((d0).1) (F_impl_Near ((F_laws_at x_code 2) % 12))
     rintro _ rfl _ rfl _ rfl _ rfl _ rfl _ rfl _ rfl _ rfl _ rfl _ rfl _ rfl _ rfl _ rfl _ rfl _ rfl _ rfl _ _ rfl _
     show WL _ _ _ _ _ _ _
     refine ar (3 * ((d0).2.2)) (wS h794) ?_
     exact f1
   ·intro _ w15 k1264
    have m1265 := m153.extk k1264
    rintro _ rfl _ rfl _ rfl _ rfl _ rfl _ rfl _ rfl _ rfl _ rfl _ rfl
    have q1269 := iRoom_b (F_impl_Gain ((d0).1) ((d0).2.1) ((d0).2.2)) (F_impl_Near ((F_laws_at x_code 2) % 12))
    rintro _ rfl _ rfl _ rfl
    have q1271 := iRoom_b ((d0).1) (F_impl_Near ((F_laws_at x_code 2) % 12))
    rintro _ rfl _ rfl _ rfl _ rfl _ rfl _ rfl _ rfl _ rfl _ rfl _ rfl _ rfl _ rfl _ rfl _ rfl _ rfl _ rfl _ rfl _ rfl _ rfl
    show WL _ _ _ _ _ _ _
    refine pu (vb (decide (((F_impl_RoomFor (F_impl_Gain ((d0).1) ((d0).2.1) ((d0).2.2)) ((d0).2.1)) - (F_impl_RoomFor ((d0).1) ((d0).2.1))) ≤ (3 * ((d0).2.2))))) (wS h794) ?_
    refine pf (vb (decide (((F_impl_RoomFor (F_impl_Gain ((d0).1) ((d0).2.1) ((d0).2.2)) ((d0).2.1)) - (F_impl_RoomFor ((d0).1) ((d0).2.1))) ≤ (3 * ((d0).2.2))))) (wS h778) h794 ?_
    refine pk (vb (decide (((F_impl_RoomFor (F_impl_Gain ((d0).1) ((d0).2.1) ((d0).2.2)) ((d0).2.1)) - (F_impl_RoomFor ((d0).1) ((d0).2.1))) ≤ (3 * ((d0).2.2))))) wN h778 ?_
    refine aw (vb (decide (((F_impl_RoomFor (F_impl_Gain ((d0).1) ((d0).2.1) ((d0).2.2)) ((d0).2.1)) - (F_impl_RoomFor ((d0).1) ((d0).2.1))) ≤ (3 * ((d0).2.2))))) ?_
    refine n3 ?_
    refine rt (vb (decide (((F_impl_RoomFor (F_impl_Gain ((d0).1) ((d0).2.1) ((d0).2.2)) ((d0).2.1)) - (F_impl_RoomFor ((d0).1) ((d0).2.1))) ≤ (3 * ((d0).2.2))))) ?_
    have hF1272 : gnLaw x_code d0 = decide (((F_impl_RoomFor (F_impl_Gain ((d0).1) ((d0).2.1) ((d0).2.2)) ((d0).2.1)) - (F_impl_RoomFor ((d0).1) ((d0).2.1))) ≤ (3 * ((d0).2.2))) := by first | (have hxy := gn_eq hi1 (by omega) (by omega); simp only [gnLaw, gnE, gnC, hxy, h8, h68, h76, h116, h158, h165, h746, h762, h778, h794, cond_true, cond_false]; done) | (have hxy := gn_ne (x := F_impl_Gain d0.1 d0.2.1 d0.2.2) (y := F_spec_Gain d0.1 d0.2.1 d0.2.2) i h794 (fun hq => by rw [hq]; simp); unfold gnLaw; rw [hxy]; simp only [h8, h68, h76, h116, h158, h165, h746, h762, h778, h794, cond_true, cond_false])
    exact ⟨d0, m1265.keep0, q13, by rw [hF1272]⟩
end Go.Proofs.Ytcbdmamfmcdlaaa.K
