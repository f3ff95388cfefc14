import Derived.Test.YtafcngfnhhchjaaCore
import Derived.Test.YtafcngfnhhchjaaProg
import Derived.Test.YtafcngfnhhchjaaHeld
import Derived.Test.YtafcngfnhhchjaaFun
import Derived.Test.YtafcngfnhhchjaaFunZ
import Derived.Test.YtafcngfnhhchjaaSqz
import Derived.Test.YtafcngfnhhchjaaHash
import Derived.Test.YtafcngfnhhchjaaWh5
namespace Go.Proofs.Ytafcngfnhhchjaa.K
open Go.RowKit
set_option linter.unusedVariables false
set_option linter.unusedSimpArgs false
set_option maxRecDepth 100000
set_option maxHeartbeats 4000000
def winNew : PWin := { Top := (-1), Bits := List.replicate 32 0 }
theorem C_spec_WinNew (w0 : World)   : Fn Try.prog 107 #[] w0 (fun v w' => Keep w0 w' ∧ O_34 w' w0.heap.size v (winNew)) := by
 refine fn_of (n := 14) (l := [U, U, U, U, U, U, U, U, U, U, U, U, U, U]) Try.func107 rfl rfl (by kernel_rfl) rfl ?_
 refine sr ?_
 refine al [(vi 0), (vs none 0 0)] wN zero_34 ?_
 intro g1 w1 p2 p3 k4 b5
 have m6 := (Ch.base w0).extk k4
 refine nx ?_
 refine pu (va [(vi (-1)), (vs none 0 0)]) wN ?_
 refine al [(vi 0), (vs none 0 0)] wN zero_34 ?_
 intro g7 w2 p8 p9 k10 b11
 have m12 := m6.extk k10
 refine st (va [(vi (-1)), (vs none 0 0)]) [(vi (-1)), (vs none 0 0)] [(vi (-1)), (vs none 0 0)] wN sizeOf_34 b11 ?_
 intro w3 k13 b14 z15
 have m16 := m12.ext k13 (fun k hk => by subst hk; exact Nat.le_trans k4.size p8)
 refine n4 ?_
 refine aw (vi 0) ?_
 refine wl_nil <| wq_then <| wc_block ?_
 have hE18 : (([] : List Int) : List Int) = List.replicate 0 (0 : Int) := by first | rfl | exact List.replicate_succ'.symm
 refine wc_loopQ (fun e => [(vp g1 0), (vp g7 0), (vi ((0 : Nat) : Int)), e 3, e 4, e 5, e 6, e 7, e 8, e 9, e 10, e 11, e 12, U]) rfl ⟨rfl, rfl, (congrArg (Value.int .i64) (show (0 : Int) = ((0 : Nat) : Int) by omega)), rfl, rfl, rfl, rfl, rfl, rfl, rfl, rfl, rfl, rfl, rfl, trivial⟩ (fun e' w' => ∃ (k : Nat) (u17 : Nat → Value) (ab1_1x : Option Addr) (cb1_1x : Nat), e' = lst [(vp g1 0), (vp g7 0), (vi ((k : Nat) : Int)), (u17 0), (u17 1), (u17 2), (u17 3), (u17 4), (u17 5), (u17 6), (u17 7), (u17 8), (u17 9), U] ∧ Ch (fun k => w0.heap.size ≤ k) w0 w' ∧ Ch (fun k => w1.heap.size ≤ k) w3 w' ∧ k ≤ 32 ∧ (World.ownsRow w' w3.heap.size 3 1 (.slice ab1_1x (List.replicate k (0 : Int)).length cb1_1x) (List.replicate k (0 : Int)).length ((List.replicate k (0 : Int)).map iV) ∧ (List.replicate k (0 : Int)).length ≤ 1073741824) ∧ Blk w' g7 34 [(vi (-1)), (.slice ab1_1x (List.replicate k (0 : Int)).length cb1_1x)]) (fun e' _ => (32 - (intOf (e' 2))).toNat) ?_ ?_
 ·exact fun u => ⟨0, (unL [u 3, u 4, u 5, u 6, u 7, u 8, u 9, u 10, u 11, u 12]), none, 0, rfl, m16, (Ch.refl (fun k => w1.heap.size ≤ k) w3), (by omega), (hE18 ▸ ⟨(own_nil _ _ _ _), (by simp)⟩), b14⟩
 ·rintro _ w4 ⟨k, u17, ab1_1x, cb1_1x, rfl, m19, k20, i21, ⟨o22, s23⟩, hbx1⟩
  have hpl : (List.replicate k (0 : Int)).length = k := List.length_replicate
  refine wc_seq <| sr ?_
  refine mw (vi ((k : Nat) : Int)) ?_
  refine pu (vb (decide (((k : Nat) : Int) < 32))) wN ?_
  refine n2 ?_
  rcases bf (decide (((k : Nat) : Int) < 32)) with h25 | h25
  ·have q53 := of_decide_eq_false h25
   refine cf h25 ?_
   refine wc_exit <| wq_then_exit <| wq_then_exit <| wq_blk_exit <| wq_then <| sr ?_
   refine lN [(vi (-1)), (vs ab1_1x (List.replicate k (0 : Int)).length cb1_1x)] wN isAgg_34 sizeOf_34 hbx1 ?_
   have b54 := (((b5.kp k10).ch k13 (Nat.ne_of_lt (Nat.lt_of_lt_of_le p3 (p8)))).ch k20 (Nat.not_le.2 (p3)))
   refine st (va [(vi (-1)), (vs ab1_1x (List.replicate k (0 : Int)).length cb1_1x)]) [(vi (-1)), (vs ab1_1x (List.replicate k (0 : Int)).length cb1_1x)] [(vi (-1)), (vs ab1_1x (List.replicate k (0 : Int)).length cb1_1x)] wN sizeOf_34 b54 ?_
   intro w5 k55 b56 z57
   have m58 := m19.ext k55 (fun k hk => by subst hk; exact p2)
   refine n3 ?_
   have o59 := (own_ch o22 k55 (ne1 o22 (Nat.lt_of_lt_of_le p3 (z2 k10 k13))))
   refine ret_1 (.inl rfl) (va [(vi (-1)), (vs ab1_1x (List.replicate k (0 : Int)).length cb1_1x)]) rfl (rv_c [(vi (-1)), (vs ab1_1x (List.replicate k (0 : Int)).length cb1_1x)] rfl b56 isAgg_34 sizeOf_34) ?_
   refine ⟨m58.keep0, ?_⟩
   have hF60 : winNew = { Top := (-1), Bits := (List.replicate k (0 : Int)) : PWin } := by (obtain rfl : k = 32 := by omega); rfl
   rw [hF60]
   exact ⟨_, _, rfl, (own_lo o59 (z3 k4 k10 k13)), s23, ⟨trivial, trivial⟩⟩
  have q26 := of_decide_eq_true h25
  refine ct h25 ?_
  refine wc_skip <| wq_then <| wc_seq <| wc_block <| wc_region ?_
  refine pu (vp g7 1) wN ?_
  refine ld (vs ab1_1x (List.replicate k (0 : Int)).length cb1_1x) wN isAgg_32 hbx1 ?_
  refine wl_lit [(vi 0)] wN rfl rfl slTy_32 (m := 1) rfl (by simp only [maxLen]; omega) (fun w => by kernel_rfl) ?_
  intro u27 w5 k28 o29
  obtain ⟨a30, c31, rfl⟩ := own_form o29
  have m32 := m19.extk k28
  have o34 : w5.ownsRow w4.heap.size 3 1 (.slice a30 (([0] : List Int) : List Int).length c31) (([0] : List Int) : List Int).length ((([0] : List Int) : List Int).map iV) := o29
  have o35 := (own_kp o22 k28)
  refine wl_append (v := (vs ab1_1x (List.replicate k (0 : Int)).length cb1_1x)) wN rfl rfl rfl slTy_32 rfl rfl o35 (Rd.of_own o34) (all_iV _) (by first | (simp only [List.length_append, List.length_cons, List.length_nil, List.length_replicate, List.length_take, List.length_drop]; omega) | omega) (by simp only [maxLen]; first | (simp only [List.length_append, List.length_cons, List.length_nil, List.length_replicate, List.length_take, List.length_drop]; omega) | omega) (z2 k20 k28) ?_
  intro u36 w6 k37 o38 j39
  have o42 : w6.ownsRow w3.heap.size 3 1 u36 (((List.replicate k (0 : Int)) ++ ([0] : List Int)) : List Int).length ((((List.replicate k (0 : Int)) ++ ([0] : List Int)) : List Int).map iV) := by simpa [Nat.add_assoc] using o38
  obtain ⟨a40, c41, rfl⟩ := own_form o42
  have m43 := m32.ext k37 (fun k hk => Nat.le_trans (z3 k4 k10 k13) (own_lt o22 k hk).1)
  have s45 : ((List.replicate k (0 : Int)) ++ ([0] : List Int)).length ≤ 1073741824 := by first | (simp only [List.length_append, List.length_cons, List.length_nil, List.length_replicate, List.length_take, List.length_drop]; omega) | omega | assumption
  refine pu (vp g7 1) wN ?_
  have b46 := ((hbx1.kp k28).ch k37 (fun h => by have := (own_lt o22 _ h).1; have := Nat.lt_of_lt_of_le p9 k13.size; omega))
  refine st (vs a40 ((List.replicate k (0 : Int)) ++ ([0] : List Int)).length c41) [(vs a40 ((List.replicate k (0 : Int)) ++ ([0] : List Int)).length c41)] [(vi (-1)), (vs a40 ((List.replicate k (0 : Int)) ++ ([0] : List Int)).length c41)] wN sizeOf_32 b46 ?_
  intro w7 k47 b48 z49
  have m50 := m43.ext k47 (fun k hk => by subst hk; exact Nat.le_trans k4.size p8)
  refine wl_nil <| wq_blk_normal <| wq_then <| wc_region ?_
  refine mw (vi ((k : Nat) : Int)) ?_
  refine ar (((k : Nat) : Int) + 1) wN ?_
  refine aw (vi (((k : Nat) : Int) + 1)) ?_
  refine wl_nil ?_
  have o51 := (own_ch o42 k47 (ne1 o42 (Nat.lt_of_lt_of_le p9 k13.size)))
  have hE52 : (((List.replicate k (0 : Int)) ++ ([0] : List Int)) : List Int) = List.replicate (k + 1) (0 : Int) := by first | rfl | exact List.replicate_succ'.symm
  refine wq_loopQ (w0 := w4) (fun e => [(vp g1 0), (vp g7 0), (vi (((k + 1) : Nat) : Int)), e 3, e 4, e 5, e 6, e 7, e 8, e 9, e 10, e 11, e 12, U]) rfl ?_ ?_ ?_
  · exact ⟨rfl, rfl, (congrArg (Value.int .i64) (show ((((k : Nat) : Int) + 1) : Int) = (((k + 1) : Nat) : Int) by omega)), rfl, rfl, rfl, rfl, rfl, rfl, rfl, rfl, rfl, rfl, rfl, trivial⟩
  · exact fun u => ⟨(k + 1), (unL [u 3, u 4, u 5, u 6, u 7, u 8, u 9, u 10, u 11, u 12]), a40, c41, rfl, m50, (((((Ch.refl (fun k => w1.heap.size ≤ k) w3).ext k20 (fun k hk => hk)).extk k28).ext k37 (fun k hk => Nat.le_trans (z2 k10 k13) (own_lt o22 k hk).1)).ext k47 (fun k hk => by subst hk; exact p8)), (by omega), (hE52 ▸ ⟨o51, s45⟩), (by have hb := b48; rw [hE52] at hb; exact hb)⟩
  · show (32 - (((k + 1) : Nat) : Int)).toNat < (32 - ((k : Nat) : Int)).toNat; omega

def F_spec_EpNew (x_n : Int) (x_key : List UInt8) : (PEp) := bif (F_spec_l1In x_n 0 4294967295) then (bif (decide ((x_key.length : Int) = 32)) then ({ N := x_n, Key := x_key, Seq := 0, Win := (winNew) : PEp }) else ({ N := 0, Key := [], Seq := 0, Win := { Top := 0, Bits := [] : PWin } : PEp })) else ({ N := 0, Key := [], Seq := 0, Win := { Top := 0, Bits := [] : PWin } : PEp })
theorem C_spec_EpNew (w0 : World) (x_n : Int) (v_x_key : Value) (x_key : List UInt8) (r_x_key : R_22 w0 v_x_key x_key)  : Fn Try.prog 73 #[(vi x_n), v_x_key] w0 (fun v w' => Keep w0 w' ∧ O_36 w' w0.heap.size v (F_spec_EpNew x_n x_key)) := by
 obtain ⟨a1, c2, rfl, r3, s4⟩ := r_x_key
 refine fn_of (n := 20) (l := [(vi x_n), (vs a1 x_key.length c2), U, U, U, U, U, U, U, U, U, U, U, U, U, U, U, U, U, U]) Try.func73 rfl rfl (by kernel_rfl) rfl ?_
 refine sr ?_
 refine al [(vi 0), (vs none 0 0), (vi 0), (vi 0), (vs none 0 0)] wN zero_36 ?_
 intro g6 w1 p7 p8 k9 b10
 have m11 := (Ch.base w0).extk k9
 refine n4 ?_
 refine mw (vi x_n) ?_
 refine cl wN (C_spec_l1In w1 x_n 0 4294967295) ?_
 rintro _ w2 ⟨k12, rfl⟩
 have m13 := m11.extk k12
 refine pu (vb (!(F_spec_l1In x_n 0 4294967295))) wN ?_
 refine mw (vb (!(F_spec_l1In x_n 0 4294967295))) ?_
 rcases bf (F_spec_l1In x_n 0 4294967295) with h14 | h14
 ·have q55 := spec_l1In_f h14
  refine sk (congrArg not h14) ?_
  refine sk (congrArg not h14) ?_
  refine sk (congrArg not h14) ?_
  refine pk (vb true) wN (congrArg not h14) ?_
  refine n2 ?_
  refine ct (Eq.refl true) ?_
  refine sr ?_
  refine pu (va [(vi 0), (vs none 0 0), (vi 0), (vi 0), (vs none 0 0)]) wN ?_
  have b56 := (b10.kp k12)
  refine st (va [(vi 0), (vs none 0 0), (vi 0), (vi 0), (vs none 0 0)]) [(vi 0), (vs none 0 0), (vi 0), (vi 0), (vs none 0 0)] [(vi 0), (vs none 0 0), (vi 0), (vi 0), (vs none 0 0)] wN sizeOf_36 b56 ?_
  intro w3 k57 b58 z59
  have m60 := m13.ext k57 (fun k hk => by subst hk; exact p7)
  refine n1 ?_
  refine ret_1 (.inl rfl) (va [(vi 0), (vs none 0 0), (vi 0), (vi 0), (vs none 0 0)]) rfl (rv_c [(vi 0), (vs none 0 0), (vi 0), (vi 0), (vs none 0 0)] rfl b58 isAgg_36 sizeOf_36) ?_
  refine ⟨m60.keep0, ?_⟩
  have hF61 : F_spec_EpNew x_n x_key = { N := 0, Key := [], Seq := 0, Win := { Top := 0, Bits := [] : PWin } : PEp } := by simp only [F_spec_EpNew, h14, cond_true, cond_false]
  rw [hF61]
  exact ⟨_, _, _, _, rfl, (by first | exact own_nil _ _ _ _ | exact OLv.nil _ _ _ _), (by simp), (by first | exact own_nil _ _ _ _ | exact OLv.nil _ _ _ _), (by simp), ⟨⟨(Ap.nl _), trivial⟩, ⟨trivial, trivial⟩⟩⟩
 have q15 := spec_l1In_t h14
 refine mv (vs a1 x_key.length c2) (wS (congrArg not h14)) ?_
 refine ln (wS (congrArg not h14)) slTy_22 (r3.from0 m13) ?_
 refine pu (vb (!(decide ((x_key.length : Int) = 32)))) (wS (congrArg not h14)) ?_
 refine pf (vb (!(decide ((x_key.length : Int) = 32)))) wN (congrArg not h14) ?_
 refine n2 ?_
 rcases bf (decide ((x_key.length : Int) = 32)) with h16 | h16
 ·have q48 := of_decide_eq_false h16
  refine ct (congrArg not h16) ?_
  refine sr ?_
  refine pu (va [(vi 0), (vs none 0 0), (vi 0), (vi 0), (vs none 0 0)]) wN ?_
  have b49 := (b10.kp k12)
  refine st (va [(vi 0), (vs none 0 0), (vi 0), (vi 0), (vs none 0 0)]) [(vi 0), (vs none 0 0), (vi 0), (vi 0), (vs none 0 0)] [(vi 0), (vs none 0 0), (vi 0), (vi 0), (vs none 0 0)] wN sizeOf_36 b49 ?_
  intro w3 k50 b51 z52
  have m53 := m13.ext k50 (fun k hk => by subst hk; exact p7)
  refine n1 ?_
  refine ret_1 (.inl rfl) (va [(vi 0), (vs none 0 0), (vi 0), (vi 0), (vs none 0 0)]) rfl (rv_c [(vi 0), (vs none 0 0), (vi 0), (vi 0), (vs none 0 0)] rfl b51 isAgg_36 sizeOf_36) ?_
  refine ⟨m53.keep0, ?_⟩
  have hF54 : F_spec_EpNew x_n x_key = { N := 0, Key := [], Seq := 0, Win := { Top := 0, Bits := [] : PWin } : PEp } := by simp only [F_spec_EpNew, h14, h16, cond_true, cond_false]
  rw [hF54]
  exact ⟨_, _, _, _, rfl, (by first | exact own_nil _ _ _ _ | exact OLv.nil _ _ _ _), (by simp), (by first | exact own_nil _ _ _ _ | exact OLv.nil _ _ _ _), (by simp), ⟨⟨(Ap.nl _), trivial⟩, ⟨trivial, trivial⟩⟩⟩
 have q17 := of_decide_eq_true h16
 refine cf (congrArg not h16) ?_
 refine y1 ?_
 refine mw (vi x_n) ?_
 refine wl_lit0 wN rfl rfl slTy_22 (fun w => by kernel_rfl) ?_
 intro a18 w3 k19 o20
 have m21 := m13.extk k19
 refine mw (vs a1 x_key.length c2) ?_
 refine wl_append0 wN rfl rfl rfl slTy_22 rfl rfl o20 (r3.from0 m21) (all_bV _) (by first | (simp only [List.length_append, List.length_cons, List.length_nil, List.length_replicate, List.length_take, List.length_drop]; omega) | omega) (by simp only [maxLen]; first | (simp only [List.length_append, List.length_cons, List.length_nil, List.length_replicate, List.length_take, List.length_drop]; omega) | omega) k19.size ?_
 intro u23 w4 k24 o25 j26
 obtain ⟨a27, c28, rfl⟩ := own_form o25
 have n29 : New w3 a27 c28 := j26 _ _ rfl
 have m30 := m21.extk k24
 refine cl wN (C_spec_WinNew w4 ) ?_
 rintro _ w5 ⟨k32, ⟨a33, c34, rfl, o35, s36, ap38⟩⟩
 have m39 := m30.extk k32
 refine pu (va [(vi x_n), (vs a27 x_key.length c28), (vi 0), (vi ((winNew).Top)), (vs a33 ((winNew).Bits).length c34)]) wN ?_
 have b40 := ((((b10.kp k12).kp k19).kp k24).kp k32)
 refine st (va [(vi x_n), (vs a27 x_key.length c28), (vi 0), (vi ((winNew).Top)), (vs a33 ((winNew).Bits).length c34)]) [(vi x_n), (vs a27 x_key.length c28), (vi 0), (vi ((winNew).Top)), (vs a33 ((winNew).Bits).length c34)] [(vi x_n), (vs a27 x_key.length c28), (vi 0), (vi ((winNew).Top)), (vs a33 ((winNew).Bits).length c34)] wN sizeOf_36 b40 ?_
 intro w6 k41 b42 z43
 have m44 := m39.ext k41 (fun k hk => by subst hk; exact p7)
 refine n3 ?_
 have o45 := (own_ch (own_kp o25 k32) k41 (ne1 o25 (Nat.lt_of_lt_of_le p8 k12.size)))
 have o46 := (own_ch o35 k41 (ne1 o35 (Nat.lt_of_lt_of_le p8 (z3 k12 k19 k24))))
 refine ret_1 (.inl rfl) (va [(vi x_n), (vs a27 x_key.length c28), (vi 0), (vi ((winNew).Top)), (vs a33 ((winNew).Bits).length c34)]) rfl (rv_c [(vi x_n), (vs a27 x_key.length c28), (vi 0), (vi ((winNew).Top)), (vs a33 ((winNew).Bits).length c34)] rfl b42 isAgg_36 sizeOf_36) ?_
 refine ⟨m44.keep0, ?_⟩
 have hF47 : F_spec_EpNew x_n x_key = { N := x_n, Key := x_key, Seq := 0, Win := (winNew) : PEp } := by simp only [F_spec_EpNew, h14, h16, cond_true, cond_false]
 rw [hF47]
 exact ⟨_, _, _, _, rfl, (own_lo o45 (z2 k9 k12)), s4, (own_lo o46 (z4 k9 k12 k19 k24)), s36, ⟨⟨(Ap.lt o25 o35 (Nat.le_refl w4.heap.size)), trivial⟩, ⟨trivial, trivial⟩⟩⟩

def O_38_4 (w : World) (lo : Nat) (v : Value) (x : (PChan) × (Bool)) : Prop := ∃ (a1 : Option Addr) (c1 : Nat) (a2 : Option Addr) (c2 : Nat) (a3 : Option Addr) (c3 : Nat) (a4 : Option Addr) (c4 : Nat) (a5 : Option Addr) (c5 : Nat) (a6 : Option Addr) (c6 : Nat), v = .tuple #[.agg #[.int .i64 x.1.Role, .slice a1 x.1.Sn.length c1, .int .i64 x.1.Cur.N, .slice a2 x.1.Cur.Key.length c2, .int .i64 x.1.Cur.Seq, .int .i64 x.1.Cur.Win.Top, .slice a3 x.1.Cur.Win.Bits.length c3, .int .i64 x.1.Old.N, .slice a4 x.1.Old.Key.length c4, .int .i64 x.1.Old.Seq, .int .i64 x.1.Old.Win.Top, .slice a5 x.1.Old.Win.Bits.length c5, .bool x.1.HasOld, .int .i64 x.1.Until, .slice a6 x.1.Next.length c6], .bool x.2] ∧ w.ownsRow lo 5 1 (.slice a1 x.1.Sn.length c1) x.1.Sn.length (x.1.Sn.map bV) ∧ x.1.Sn.length ≤ 1073741824 ∧ w.ownsRow lo 5 1 (.slice a2 x.1.Cur.Key.length c2) x.1.Cur.Key.length (x.1.Cur.Key.map bV) ∧ x.1.Cur.Key.length ≤ 1073741824 ∧ w.ownsRow lo 3 1 (.slice a3 x.1.Cur.Win.Bits.length c3) x.1.Cur.Win.Bits.length (x.1.Cur.Win.Bits.map iV) ∧ x.1.Cur.Win.Bits.length ≤ 1073741824 ∧ w.ownsRow lo 5 1 (.slice a4 x.1.Old.Key.length c4) x.1.Old.Key.length (x.1.Old.Key.map bV) ∧ x.1.Old.Key.length ≤ 1073741824 ∧ w.ownsRow lo 3 1 (.slice a5 x.1.Old.Win.Bits.length c5) x.1.Old.Win.Bits.length (x.1.Old.Win.Bits.map iV) ∧ x.1.Old.Win.Bits.length ≤ 1073741824 ∧ w.ownsRow lo 5 1 (.slice a6 x.1.Next.length c6) x.1.Next.length (x.1.Next.map bV) ∧ x.1.Next.length ≤ 1073741824 ∧ Aps [(a1, c1), (a2, c2), (a3, c3), (a4, c4), (a5, c5), (a6, c6)]
theorem mR_9 {w : World} {x : ByteArray} : R_9 w (.string x) x := rfl
def F_spec_Turn (x_c : PChan) : (PChan) × (Bool) := bif (F_spec_ChanOk x_c) then (bif (decide (x_c.Role = 1)) then (bif (decide (x_c.Cur.N = 4294967295)) then (((F_spec_l14Copy x_c), false)) else (({ Role := (F_spec_l14Copy x_c).Role, Sn := (F_spec_l14Copy x_c).Sn, Cur := (F_spec_EpNew (x_c.Cur.N + 1) (derive x_c.Cur.Key (ByteArray.mk ([114, 101, 107, 101, 121] : List UInt8).toArray))), Old := ((F_spec_l14Copy x_c).Cur), HasOld := true, Until := (-1), Next := (F_spec_l14Copy x_c).Next : PChan }, true))) else (((F_spec_l14Copy x_c), false))) else (((F_spec_l14Copy x_c), false))
theorem C_spec_Turn (w0 : World) (v_x_c : Value) (x_c : PChan) (r_x_c : R_38 w0 v_x_c x_c)  : Fn Try.prog 31 #[v_x_c] w0 (fun v w' => Keep w0 w' ∧ O_38_4 w' w0.heap.size v (F_spec_Turn x_c)) := by
 obtain ⟨a1, c2, a6, c7, a11, c12, a16, c17, a21, c22, a26, c27, rfl, r3, s4, r8, s9, r13, s14, r18, s19, r23, s24, r28, s29⟩ := r_x_c
 refine fn_of (n := 38) (l := [(va (L_38 x_c a1 c2 a6 c7 a11 c12 a16 c17 a21 c22 a26 c27)), U, U, U, U, U, U, U, U, U, U, U, U, U, U, U, U, U, U, U, U, U, U, U, U, U, U, U, U, U, U, U, U, U, U, U, U, U]) Try.func31 rfl rfl (by kernel_rfl) rfl ?_
 refine sr ?_
 refine bx (L_38 x_c a1 c2 a6 c7 a11 c12 a16 c17 a21 c22 a26 c27) wN ?_
 intro g31 w1 p32 p33 k34 b35
 have m36 := (Ch.base w0).extk k34
 refine al [(vi 0), (vs none 0 0), (vi 0), (vs none 0 0), (vi 0), (vi 0), (vs none 0 0), (vi 0), (vs none 0 0), (vi 0), (vi 0), (vs none 0 0), (vb false), (vi 0), (vs none 0 0)] wN zero_38 ?_
 intro g37 w2 p38 p39 k40 b41
 have m42 := m36.extk k40
 refine aw (vb false) ?_
 refine nx ?_
 have b43 := (b35.kp k40)
 refine lN (L_38 x_c a1 c2 a6 c7 a11 c12 a16 c17 a21 c22 a26 c27) wN isAgg_38 sizeOf_38 b43 ?_
 refine cl wN (C_spec_l14Copy w2 _ x_c (mR_38 (r3.from0 m42) s4 (r8.from0 m42) s9 (r13.from0 m42) s14 (r18.from0 m42) s19 (r23.from0 m42) s24 (r28.from0 m42) s29)) ?_
 rintro _ w3 ⟨k44, ⟨a45, c46, a50, c51, a55, c56, a60, c61, a65, c66, a70, c71, rfl, o47, s48, o52, s53, o57, s58, o62, s63, o67, s68, o72, s73, ap75⟩⟩
 have m76 := m42.extk k44
 refine al [(vi 0), (vs none 0 0), (vi 0), (vs none 0 0), (vi 0), (vi 0), (vs none 0 0), (vi 0), (vs none 0 0), (vi 0), (vi 0), (vs none 0 0), (vb false), (vi 0), (vs none 0 0)] wN zero_38 ?_
 intro g77 w4 p78 p79 k80 b81
 have m82 := m76.extk k80
 refine sv (L_38 (F_spec_l14Copy x_c) a45 c46 a50 c51 a55 c56 a60 c61 a65 c66 a70 c71) wN sizeOf_38 b81 ?_
 intro w5 k83 b84 z85
 have m86 := m82.ext k83 (fun k hk => by subst hk; exact Nat.le_trans (z3 k34 k40 k44) p78)
 refine n4 ?_
 have b87 := (((b43.kp k44).kp k80).ch k83 (Nat.ne_of_lt (Nat.lt_of_lt_of_le p33 (Nat.le_trans (z2 k40 k44) p78))))
 refine lN (L_38 x_c a1 c2 a6 c7 a11 c12 a16 c17 a21 c22 a26 c27) wN isAgg_38 sizeOf_38 b87 ?_
 refine cl wN (C_spec_ChanOk w5 _ x_c (mR_38 (r3.from0 m86) s4 (r8.from0 m86) s9 (r13.from0 m86) s14 (r18.from0 m86) s19 (r23.from0 m86) s24 (r28.from0 m86) s29)) ?_
 rintro _ w6 ⟨k88, rfl⟩
 have m89 := m86.extk k88
 refine pu (vb (!(F_spec_ChanOk x_c))) wN ?_
 refine mw (vb (!(F_spec_ChanOk x_c))) ?_
 rcases bf (F_spec_ChanOk x_c) with h90 | h90
 ·refine sk (congrArg not h90) ?_
  refine sk (congrArg not h90) ?_
  refine sk (congrArg not h90) ?_
  refine pk (vb true) wN (congrArg not h90) ?_
  refine mw (vb true) ?_
  refine sk T1 ?_
  refine sk T1 ?_
  refine sk T1 ?_
  refine sk T1 ?_
  refine pk (vb true) wN (Eq.refl true) ?_
  refine n2 ?_
  refine ct (Eq.refl true) ?_
  refine sr ?_
  have b244 := (b84.kp k88)
  refine lN (L_38 (F_spec_l14Copy x_c) a45 c46 a50 c51 a55 c56 a60 c61 a65 c66 a70 c71) wN isAgg_38 sizeOf_38 b244 ?_
  have b245 := ((((b41.kp k44).kp k80).ch k83 (Nat.ne_of_lt (Nat.lt_of_lt_of_le p39 (Nat.le_trans k44.size p78)))).kp k88)
  refine sv (L_38 (F_spec_l14Copy x_c) a45 c46 a50 c51 a55 c56 a60 c61 a65 c66 a70 c71) wN sizeOf_38 b245 ?_
  intro w7 k246 b247 z248
  have m249 := m89.ext k246 (fun k hk => by subst hk; exact Nat.le_trans k34.size p38)
  refine aw (vb false) ?_
  refine n1 ?_
  have o250 := (own_ch (own_kp (own_ch (own_kp o47 k80) k83 (ne2 o47 (p78))) k88) k246 (ne1 o47 (p39)))
  have o251 := (own_ch (own_kp (own_ch (own_kp o52 k80) k83 (ne2 o52 (p78))) k88) k246 (ne1 o52 (p39)))
  have o252 := (own_ch (own_kp (own_ch (own_kp o57 k80) k83 (ne2 o57 (p78))) k88) k246 (ne1 o57 (p39)))
  have o253 := (own_ch (own_kp (own_ch (own_kp o62 k80) k83 (ne2 o62 (p78))) k88) k246 (ne1 o62 (p39)))
  have o254 := (own_ch (own_kp (own_ch (own_kp o67 k80) k83 (ne2 o67 (p78))) k88) k246 (ne1 o67 (p39)))
  have o255 := (own_ch (own_kp (own_ch (own_kp o72 k80) k83 (ne2 o72 (p78))) k88) k246 (ne1 o72 (p39)))
  refine ret_2 (.inl rfl) (va (L_38 (F_spec_l14Copy x_c) a45 c46 a50 c51 a55 c56 a60 c61 a65 c66 a70 c71)) (vb false) rfl (rv_c [(vi ((F_spec_l14Copy x_c).Role)), (vs a45 ((F_spec_l14Copy x_c).Sn).length c46), (vi (((F_spec_l14Copy x_c).Cur).N)), (vs a50 (((F_spec_l14Copy x_c).Cur).Key).length c51), (vi (((F_spec_l14Copy x_c).Cur).Seq)), (vi ((((F_spec_l14Copy x_c).Cur).Win).Top)), (vs a55 ((((F_spec_l14Copy x_c).Cur).Win).Bits).length c56), (vi (((F_spec_l14Copy x_c).Old).N)), (vs a60 (((F_spec_l14Copy x_c).Old).Key).length c61), (vi (((F_spec_l14Copy x_c).Old).Seq)), (vi ((((F_spec_l14Copy x_c).Old).Win).Top)), (vs a65 ((((F_spec_l14Copy x_c).Old).Win).Bits).length c66), (vb ((F_spec_l14Copy x_c).HasOld)), (vi ((F_spec_l14Copy x_c).Until)), (vs a70 ((F_spec_l14Copy x_c).Next).length c71)] rfl b247 isAgg_38 sizeOf_38) rfl ?_
  refine ⟨m249.keep0, ?_⟩
  have hF256 : F_spec_Turn x_c = ((F_spec_l14Copy x_c), false) := by simp only [F_spec_Turn, h90, cond_true, cond_false]
  rw [hF256]
  exact ⟨_, _, _, _, _, _, _, _, _, _, _, _, rfl, (own_lo o250 (z2 k34 k40)), s48, (own_lo o251 (z2 k34 k40)), s53, (own_lo o252 (z2 k34 k40)), s58, (own_lo o253 (z2 k34 k40)), s63, (own_lo o254 (z2 k34 k40)), s68, (own_lo o255 (z2 k34 k40)), s73, ⟨⟨(ap75.1.1), ⟨(ap75.1.2.1), ⟨(ap75.1.2.2.1), ⟨(ap75.1.2.2.2.1), ⟨(ap75.1.2.2.2.2.1), trivial⟩⟩⟩⟩⟩, ⟨⟨(ap75.2.1.1), ⟨(ap75.2.1.2.1), ⟨(ap75.2.1.2.2.1), ⟨(ap75.2.1.2.2.2.1), trivial⟩⟩⟩⟩, ⟨⟨(ap75.2.2.1.1), ⟨(ap75.2.2.1.2.1), ⟨(ap75.2.2.1.2.2.1), trivial⟩⟩⟩, ⟨⟨(ap75.2.2.2.1.1), ⟨(ap75.2.2.2.1.2.1), trivial⟩⟩, ⟨⟨(ap75.2.2.2.2.1.1), trivial⟩, ⟨trivial, trivial⟩⟩⟩⟩⟩⟩⟩
 have q91 := spec_ChanOk_t h90
 refine pu (vp g31 0) (wS (congrArg not h90)) ?_
 have b92 := (b87.kp k88)
 refine ld (vi x_c.Role) (wS (congrArg not h90)) isAgg_3 b92 ?_
 refine pu (vb (!(decide (x_c.Role = 1)))) (wS (congrArg not h90)) ?_
 refine pf (vb (!(decide (x_c.Role = 1)))) wN (congrArg not h90) ?_
 refine mw (vb (!(decide (x_c.Role = 1)))) ?_
 rcases bf (decide (x_c.Role = 1)) with h93 | h93
 ·have q229 := of_decide_eq_false h93
  refine sk (congrArg not h93) ?_
  refine sk (congrArg not h93) ?_
  refine sk (congrArg not h93) ?_
  refine sk (congrArg not h93) ?_
  refine pk (vb true) wN (congrArg not h93) ?_
  refine n2 ?_
  refine ct (Eq.refl true) ?_
  refine sr ?_
  have b230 := (b84.kp k88)
  refine lN (L_38 (F_spec_l14Copy x_c) a45 c46 a50 c51 a55 c56 a60 c61 a65 c66 a70 c71) wN isAgg_38 sizeOf_38 b230 ?_
  have b231 := ((((b41.kp k44).kp k80).ch k83 (Nat.ne_of_lt (Nat.lt_of_lt_of_le p39 (Nat.le_trans k44.size p78)))).kp k88)
  refine sv (L_38 (F_spec_l14Copy x_c) a45 c46 a50 c51 a55 c56 a60 c61 a65 c66 a70 c71) wN sizeOf_38 b231 ?_
  intro w7 k232 b233 z234
  have m235 := m89.ext k232 (fun k hk => by subst hk; exact Nat.le_trans k34.size p38)
  refine aw (vb false) ?_
  refine n1 ?_
  have o236 := (own_ch (own_kp (own_ch (own_kp o47 k80) k83 (ne2 o47 (p78))) k88) k232 (ne1 o47 (p39)))
  have o237 := (own_ch (own_kp (own_ch (own_kp o52 k80) k83 (ne2 o52 (p78))) k88) k232 (ne1 o52 (p39)))
  have o238 := (own_ch (own_kp (own_ch (own_kp o57 k80) k83 (ne2 o57 (p78))) k88) k232 (ne1 o57 (p39)))
  have o239 := (own_ch (own_kp (own_ch (own_kp o62 k80) k83 (ne2 o62 (p78))) k88) k232 (ne1 o62 (p39)))
  have o240 := (own_ch (own_kp (own_ch (own_kp o67 k80) k83 (ne2 o67 (p78))) k88) k232 (ne1 o67 (p39)))
  have o241 := (own_ch (own_kp (own_ch (own_kp o72 k80) k83 (ne2 o72 (p78))) k88) k232 (ne1 o72 (p39)))
  refine ret_2 (.inl rfl) (va (L_38 (F_spec_l14Copy x_c) a45 c46 a50 c51 a55 c56 a60 c61 a65 c66 a70 c71)) (vb false) rfl (rv_c [(vi ((F_spec_l14Copy x_c).Role)), (vs a45 ((F_spec_l14Copy x_c).Sn).length c46), (vi (((F_spec_l14Copy x_c).Cur).N)), (vs a50 (((F_spec_l14Copy x_c).Cur).Key).length c51), (vi (((F_spec_l14Copy x_c).Cur).Seq)), (vi ((((F_spec_l14Copy x_c).Cur).Win).Top)), (vs a55 ((((F_spec_l14Copy x_c).Cur).Win).Bits).length c56), (vi (((F_spec_l14Copy x_c).Old).N)), (vs a60 (((F_spec_l14Copy x_c).Old).Key).length c61), (vi (((F_spec_l14Copy x_c).Old).Seq)), (vi ((((F_spec_l14Copy x_c).Old).Win).Top)), (vs a65 ((((F_spec_l14Copy x_c).Old).Win).Bits).length c66), (vb ((F_spec_l14Copy x_c).HasOld)), (vi ((F_spec_l14Copy x_c).Until)), (vs a70 ((F_spec_l14Copy x_c).Next).length c71)] rfl b233 isAgg_38 sizeOf_38) rfl ?_
  refine ⟨m235.keep0, ?_⟩
  have hF242 : F_spec_Turn x_c = ((F_spec_l14Copy x_c), false) := by simp only [F_spec_Turn, h90, h93, cond_true, cond_false]
  rw [hF242]
  exact ⟨_, _, _, _, _, _, _, _, _, _, _, _, rfl, (own_lo o236 (z2 k34 k40)), s48, (own_lo o237 (z2 k34 k40)), s53, (own_lo o238 (z2 k34 k40)), s58, (own_lo o239 (z2 k34 k40)), s63, (own_lo o240 (z2 k34 k40)), s68, (own_lo o241 (z2 k34 k40)), s73, ⟨⟨(ap75.1.1), ⟨(ap75.1.2.1), ⟨(ap75.1.2.2.1), ⟨(ap75.1.2.2.2.1), ⟨(ap75.1.2.2.2.2.1), trivial⟩⟩⟩⟩⟩, ⟨⟨(ap75.2.1.1), ⟨(ap75.2.1.2.1), ⟨(ap75.2.1.2.2.1), ⟨(ap75.2.1.2.2.2.1), trivial⟩⟩⟩⟩, ⟨⟨(ap75.2.2.1.1), ⟨(ap75.2.2.1.2.1), ⟨(ap75.2.2.1.2.2.1), trivial⟩⟩⟩, ⟨⟨(ap75.2.2.2.1.1), ⟨(ap75.2.2.2.1.2.1), trivial⟩⟩, ⟨⟨(ap75.2.2.2.2.1.1), trivial⟩, ⟨trivial, trivial⟩⟩⟩⟩⟩⟩⟩
 have q94 := of_decide_eq_true h93
 refine pu (vp g31 2) (wS (congrArg not h93)) ?_
 refine pu (vp g31 2) (wS (congrArg not h93)) ?_
 refine ld (vi x_c.Cur.N) (wS (congrArg not h93)) isAgg_3 b92 ?_
 refine pu (vb (decide (x_c.Cur.N = 4294967295))) (wS (congrArg not h93)) ?_
 refine pf (vb (decide (x_c.Cur.N = 4294967295))) wN (congrArg not h93) ?_
 refine n2 ?_
 rcases bt (decide (x_c.Cur.N = 4294967295)) with h95 | h95
 ·have q96 := of_decide_eq_true h95
  refine ct h95 ?_
  refine sr ?_
  have b97 := (b84.kp k88)
  refine lN (L_38 (F_spec_l14Copy x_c) a45 c46 a50 c51 a55 c56 a60 c61 a65 c66 a70 c71) wN isAgg_38 sizeOf_38 b97 ?_
  have b98 := ((((b41.kp k44).kp k80).ch k83 (Nat.ne_of_lt (Nat.lt_of_lt_of_le p39 (Nat.le_trans k44.size p78)))).kp k88)
  refine sv (L_38 (F_spec_l14Copy x_c) a45 c46 a50 c51 a55 c56 a60 c61 a65 c66 a70 c71) wN sizeOf_38 b98 ?_
  intro w7 k99 b100 z101
  have m102 := m89.ext k99 (fun k hk => by subst hk; exact Nat.le_trans k34.size p38)
  refine aw (vb false) ?_
  refine n1 ?_
  have o103 := (own_ch (own_kp (own_ch (own_kp o47 k80) k83 (ne2 o47 (p78))) k88) k99 (ne1 o47 (p39)))
  have o104 := (own_ch (own_kp (own_ch (own_kp o52 k80) k83 (ne2 o52 (p78))) k88) k99 (ne1 o52 (p39)))
  have o105 := (own_ch (own_kp (own_ch (own_kp o57 k80) k83 (ne2 o57 (p78))) k88) k99 (ne1 o57 (p39)))
  have o106 := (own_ch (own_kp (own_ch (own_kp o62 k80) k83 (ne2 o62 (p78))) k88) k99 (ne1 o62 (p39)))
  have o107 := (own_ch (own_kp (own_ch (own_kp o67 k80) k83 (ne2 o67 (p78))) k88) k99 (ne1 o67 (p39)))
  have o108 := (own_ch (own_kp (own_ch (own_kp o72 k80) k83 (ne2 o72 (p78))) k88) k99 (ne1 o72 (p39)))
  refine ret_2 (.inl rfl) (va (L_38 (F_spec_l14Copy x_c) a45 c46 a50 c51 a55 c56 a60 c61 a65 c66 a70 c71)) (vb false) rfl (rv_c [(vi ((F_spec_l14Copy x_c).Role)), (vs a45 ((F_spec_l14Copy x_c).Sn).length c46), (vi (((F_spec_l14Copy x_c).Cur).N)), (vs a50 (((F_spec_l14Copy x_c).Cur).Key).length c51), (vi (((F_spec_l14Copy x_c).Cur).Seq)), (vi ((((F_spec_l14Copy x_c).Cur).Win).Top)), (vs a55 ((((F_spec_l14Copy x_c).Cur).Win).Bits).length c56), (vi (((F_spec_l14Copy x_c).Old).N)), (vs a60 (((F_spec_l14Copy x_c).Old).Key).length c61), (vi (((F_spec_l14Copy x_c).Old).Seq)), (vi ((((F_spec_l14Copy x_c).Old).Win).Top)), (vs a65 ((((F_spec_l14Copy x_c).Old).Win).Bits).length c66), (vb ((F_spec_l14Copy x_c).HasOld)), (vi ((F_spec_l14Copy x_c).Until)), (vs a70 ((F_spec_l14Copy x_c).Next).length c71)] rfl b100 isAgg_38 sizeOf_38) rfl ?_
  refine ⟨m102.keep0, ?_⟩
  have hF109 : F_spec_Turn x_c = ((F_spec_l14Copy x_c), false) := by simp only [F_spec_Turn, h90, h93, h95, cond_true, cond_false]
  rw [hF109]
  exact ⟨_, _, _, _, _, _, _, _, _, _, _, _, rfl, (own_lo o103 (z2 k34 k40)), s48, (own_lo o104 (z2 k34 k40)), s53, (own_lo o105 (z2 k34 k40)), s58, (own_lo o106 (z2 k34 k40)), s63, (own_lo o107 (z2 k34 k40)), s68, (own_lo o108 (z2 k34 k40)), s73, ⟨⟨(ap75.1.1), ⟨(ap75.1.2.1), ⟨(ap75.1.2.2.1), ⟨(ap75.1.2.2.2.1), ⟨(ap75.1.2.2.2.2.1), trivial⟩⟩⟩⟩⟩, ⟨⟨(ap75.2.1.1), ⟨(ap75.2.1.2.1), ⟨(ap75.2.1.2.2.1), ⟨(ap75.2.1.2.2.2.1), trivial⟩⟩⟩⟩, ⟨⟨(ap75.2.2.1.1), ⟨(ap75.2.2.1.2.1), ⟨(ap75.2.2.1.2.2.1), trivial⟩⟩⟩, ⟨⟨(ap75.2.2.2.1.1), ⟨(ap75.2.2.2.1.2.1), trivial⟩⟩, ⟨⟨(ap75.2.2.2.2.1.1), trivial⟩, ⟨trivial, trivial⟩⟩⟩⟩⟩⟩⟩
 have q110 := of_decide_eq_false h95
 refine cf h95 ?_
 refine y1 ?_
 refine pu (vp g77 2) wN ?_
 have b111 := (b84.kp k88)
 refine lN (L_36 ((F_spec_l14Copy x_c).Cur) a50 c51 a55 c56) wN isAgg_36 sizeOf_36 b111 ?_
 refine pu (vp g77 7) wN ?_
 refine st (va (L_36 ((F_spec_l14Copy x_c).Cur) a50 c51 a55 c56)) (L_36 ((F_spec_l14Copy x_c).Cur) a50 c51 a55 c56) [(vi ((F_spec_l14Copy x_c).Role)), (vs a45 ((F_spec_l14Copy x_c).Sn).length c46), (vi (((F_spec_l14Copy x_c).Cur).N)), (vs a50 (((F_spec_l14Copy x_c).Cur).Key).length c51), (vi (((F_spec_l14Copy x_c).Cur).Seq)), (vi ((((F_spec_l14Copy x_c).Cur).Win).Top)), (vs a55 ((((F_spec_l14Copy x_c).Cur).Win).Bits).length c56), (vi (((F_spec_l14Copy x_c).Cur).N)), (vs a50 (((F_spec_l14Copy x_c).Cur).Key).length c51), (vi (((F_spec_l14Copy x_c).Cur).Seq)), (vi ((((F_spec_l14Copy x_c).Cur).Win).Top)), (vs a55 ((((F_spec_l14Copy x_c).Cur).Win).Bits).length c56), (vb ((F_spec_l14Copy x_c).HasOld)), (vi ((F_spec_l14Copy x_c).Until)), (vs a70 ((F_spec_l14Copy x_c).Next).length c71)] wN sizeOf_36 b111 ?_
 intro w7 k112 b113 z114
 have m115 := m89.ext k112 (fun k hk => by subst hk; exact Nat.le_trans (z3 k34 k40 k44) p78)
 refine nx ?_
 refine pu (vp g77 12) wN ?_
 refine st (vb true) [(vb true)] [(vi ((F_spec_l14Copy x_c).Role)), (vs a45 ((F_spec_l14Copy x_c).Sn).length c46), (vi (((F_spec_l14Copy x_c).Cur).N)), (vs a50 (((F_spec_l14Copy x_c).Cur).Key).length c51), (vi (((F_spec_l14Copy x_c).Cur).Seq)), (vi ((((F_spec_l14Copy x_c).Cur).Win).Top)), (vs a55 ((((F_spec_l14Copy x_c).Cur).Win).Bits).length c56), (vi (((F_spec_l14Copy x_c).Cur).N)), (vs a50 (((F_spec_l14Copy x_c).Cur).Key).length c51), (vi (((F_spec_l14Copy x_c).Cur).Seq)), (vi ((((F_spec_l14Copy x_c).Cur).Win).Top)), (vs a55 ((((F_spec_l14Copy x_c).Cur).Win).Bits).length c56), (vb true), (vi ((F_spec_l14Copy x_c).Until)), (vs a70 ((F_spec_l14Copy x_c).Next).length c71)] wN sizeOf_4 b113 ?_
 intro w8 k116 b117 z118
 have m119 := m115.ext k116 (fun k hk => by subst hk; exact Nat.le_trans (z3 k34 k40 k44) p78)
 refine nx ?_
 refine pu (vp g77 13) wN ?_
 refine st (vi (-1)) [(vi (-1))] [(vi ((F_spec_l14Copy x_c).Role)), (vs a45 ((F_spec_l14Copy x_c).Sn).length c46), (vi (((F_spec_l14Copy x_c).Cur).N)), (vs a50 (((F_spec_l14Copy x_c).Cur).Key).length c51), (vi (((F_spec_l14Copy x_c).Cur).Seq)), (vi ((((F_spec_l14Copy x_c).Cur).Win).Top)), (vs a55 ((((F_spec_l14Copy x_c).Cur).Win).Bits).length c56), (vi (((F_spec_l14Copy x_c).Cur).N)), (vs a50 (((F_spec_l14Copy x_c).Cur).Key).length c51), (vi (((F_spec_l14Copy x_c).Cur).Seq)), (vi ((((F_spec_l14Copy x_c).Cur).Win).Top)), (vs a55 ((((F_spec_l14Copy x_c).Cur).Win).Bits).length c56), (vb true), (vi (-1)), (vs a70 ((F_spec_l14Copy x_c).Next).length c71)] wN sizeOf_3 b117 ?_
 intro w9 k120 b121 z122
 have m123 := m119.ext k120 (fun k hk => by subst hk; exact Nat.le_trans (z3 k34 k40 k44) p78)
 refine wl_nil <| wq_then <| wc_seq ?_
 refine wc_drawT ([(27, [], [], (fun _ v _ => v = (vp g31 2))), (28, [], [0], (fun _ v _ => v = (vp g31 2))), (29, [], [0, 1], (fun _ v _ => v = (vi x_c.Cur.N))), (30, [], [0, 1, 2], (fun _ v _ => v = (vi (x_c.Cur.N + 1)))), (31, [], [], (fun _ v _ => v = (vp g31 2))), (32, [], [4], (fun _ v _ => v = (vp g31 3))), (33, [], [4, 5], (fun _ v _ => v = (vs a6 x_c.Cur.Key.length c7))), (34, [], [4, 5, 6], (fun _ v w => ∃ (a1 : Option Addr) (c1 : Nat), v = .slice a1 (derive x_c.Cur.Key (ByteArray.mk ([114, 101, 107, 101, 121] : List UInt8).toArray)).length c1 ∧ w.ownsRow (w9.heap.size) 5 1 (.slice a1 (derive x_c.Cur.Key (ByteArray.mk ([114, 101, 107, 101, 121] : List UInt8).toArray)).length c1) (derive x_c.Cur.Key (ByteArray.mk ([114, 101, 107, 101, 121] : List UInt8).toArray)).length ((derive x_c.Cur.Key (ByteArray.mk ([114, 101, 107, 101, 121] : List UInt8).toArray)).map bV) ∧ (derive x_c.Cur.Key (ByteArray.mk ([114, 101, 107, 101, 121] : List UInt8).toArray)).length ≤ 1073741824 ∧ Aps [(a1, c1)]))] : GV) (fun _ w' => Keep w9 w') [] mixed rfl (by kernel_rfl) (by kernel_rfl) ?_ (fun _ _ h => h) (fun _ _ _ _ h _ k => h.trans k) trivial ?_ ?_ ?_
 ·exact ⟨(fun _ _ _ _ h _ => h), (fun _ _ _ _ _ h => h), ⟨(fun _ _ _ _ h _ => h), (fun _ _ _ _ _ h => h), ⟨(fun _ _ _ _ h _ => h), (fun _ _ _ _ _ h => h), ⟨(fun _ _ _ _ h _ => h), (fun _ _ _ _ _ h => h), ⟨(fun _ _ _ _ h _ => h), (fun _ _ _ _ _ h => h), ⟨(fun _ _ _ _ h _ => h), (fun _ _ _ _ _ h => h), ⟨(fun _ _ _ _ h _ => h), (fun _ _ _ _ _ h => h), ⟨(fun e v w w1 h hk => by obtain ⟨a0x, c0x, he, o0x, l0x, hap⟩ := h; exact ⟨a0x, c0x, he, own_kp o0x hk, l0x, hap⟩), (fun _ _ _ _ _ h => h), trivial⟩⟩⟩⟩⟩⟩⟩⟩
 ·exact trivial
 ·refine ⟨?_, ⟨?_, ⟨?_, ⟨?_, ⟨?_, ⟨?_, ⟨?_, ⟨?_, trivial⟩⟩⟩⟩⟩⟩⟩⟩
  ·intro _ w10 k159 _
   have m160 := m123.extk k159
   rintro _ _ _ _ _ _ _ _
   show WL _ _ _ _ _ _ _
   refine pu (vp g31 2) wN ?_
   exact f1
  ·intro _ w10 k161 _
   have m162 := m123.extk k161
   rintro _ rfl _ _ _ _ _ _ _
   show WL _ _ _ _ _ _ _
   refine pu (vp g31 2) wN ?_
   exact f1
  ·intro _ w10 k163 _
   have m164 := m123.extk k163
   rintro _ rfl _ rfl _ _ _ _ _ _
   show WL _ _ _ _ _ _ _
   have zz13 := Nat.lt_of_lt_of_le p33 (Nat.le_trans (z2 k40 k44) p78)
   have b165 := ((((b92.ch k112 (Nat.ne_of_lt zz13)).ch k116 (Nat.ne_of_lt zz13)).ch k120 (Nat.ne_of_lt zz13)).kp k163)
   refine ld (vi x_c.Cur.N) wN isAgg_3 b165 ?_
   exact f1
  ·intro _ w10 k166 _
   have m167 := m123.extk k166
   rintro _ rfl _ rfl _ rfl _ _ _ _ _
   show WL _ _ _ _ _ _ _
   refine ar (x_c.Cur.N + 1) wN ?_
   exact f1
  ·intro _ w10 k169 _
   have m170 := m123.extk k169
   rintro _ _ _ _ _ _ _ _
   show WL _ _ _ _ _ _ _
   refine pu (vp g31 2) wN ?_
   exact f1
  ·intro _ w10 k171 _
   have m172 := m123.extk k171
   rintro _ _ _ _ _ rfl _ _ _
   show WL _ _ _ _ _ _ _
   refine pu (vp g31 3) wN ?_
   exact f1
  ·intro _ w10 k173 _
   have m174 := m123.extk k173
   rintro _ _ _ _ _ rfl _ rfl _ _
   show WL _ _ _ _ _ _ _
   have zz14 := Nat.lt_of_lt_of_le p33 (Nat.le_trans (z2 k40 k44) p78)
   have b175 := ((((b92.ch k112 (Nat.ne_of_lt zz14)).ch k116 (Nat.ne_of_lt zz14)).ch k120 (Nat.ne_of_lt zz14)).kp k173)
   refine ld (vs a6 x_c.Cur.Key.length c7) wN isAgg_22 b175 ?_
   exact f1
  ·intro _ w10 k176 _
   have m177 := m123.extk k176
   rintro _ _ _ _ _ rfl _ rfl _ rfl _
   show WL _ _ _ _ _ _ _
   refine cl wN (C_spec_Derive w10 _ x_c.Cur.Key (mR_22 (r8.from0 m177) s9) _ (ByteArray.mk ([114, 101, 107, 101, 121] : List UInt8).toArray) (mR_9) (by first | omega | decide)) ?_
   rintro _ w11 ⟨k179, ⟨a180, c181, rfl, o182, s183, ap185⟩⟩
   have m186 := m177.extk k179
   have q187 := derive_le x_c.Cur.Key (ByteArray.mk ([114, 101, 107, 101, 121] : List UInt8).toArray)
   exact wl_finT k179 ⟨_, _, rfl, (own_lo o182 k176.size), s183, ap185⟩
 ·intro _ w10 k188
  have m189 := m123.extk k188
  rintro _ rfl _ rfl _ rfl _ rfl _ rfl _ rfl _ rfl _ ⟨a192, c193, rfl, o194, s195, ap197⟩
  have q198 := derive_le x_c.Cur.Key (ByteArray.mk ([114, 101, 107, 101, 121] : List UInt8).toArray)
  show WL _ _ _ _ _ _ _
  refine cl wN (C_spec_EpNew w10 (x_c.Cur.N + 1) _ (derive x_c.Cur.Key (ByteArray.mk ([114, 101, 107, 101, 121] : List UInt8).toArray)) (mR_22 (Rd.of_own o194) s195)) ?_
  rintro _ w11 ⟨k199, ⟨a200, c201, a205, c206, rfl, o202, s203, o207, s208, ap210⟩⟩
  have m211 := m189.extk k199
  refine pu (vp g77 2) wN ?_
  have b212 := ((b121.kp k188).kp k199)
  refine st (va (L_36 (F_spec_EpNew (x_c.Cur.N + 1) (derive x_c.Cur.Key (ByteArray.mk ([114, 101, 107, 101, 121] : List UInt8).toArray))) a200 c201 a205 c206)) (L_36 (F_spec_EpNew (x_c.Cur.N + 1) (derive x_c.Cur.Key (ByteArray.mk ([114, 101, 107, 101, 121] : List UInt8).toArray))) a200 c201 a205 c206) [(vi ((F_spec_l14Copy x_c).Role)), (vs a45 ((F_spec_l14Copy x_c).Sn).length c46), (vi ((F_spec_EpNew (x_c.Cur.N + 1) (derive x_c.Cur.Key (ByteArray.mk ([114, 101, 107, 101, 121] : List UInt8).toArray))).N)), (vs a200 ((F_spec_EpNew (x_c.Cur.N + 1) (derive x_c.Cur.Key (ByteArray.mk ([114, 101, 107, 101, 121] : List UInt8).toArray))).Key).length c201), (vi ((F_spec_EpNew (x_c.Cur.N + 1) (derive x_c.Cur.Key (ByteArray.mk ([114, 101, 107, 101, 121] : List UInt8).toArray))).Seq)), (vi (((F_spec_EpNew (x_c.Cur.N + 1) (derive x_c.Cur.Key (ByteArray.mk ([114, 101, 107, 101, 121] : List UInt8).toArray))).Win).Top)), (vs a205 (((F_spec_EpNew (x_c.Cur.N + 1) (derive x_c.Cur.Key (ByteArray.mk ([114, 101, 107, 101, 121] : List UInt8).toArray))).Win).Bits).length c206), (vi (((F_spec_l14Copy x_c).Cur).N)), (vs a50 (((F_spec_l14Copy x_c).Cur).Key).length c51), (vi (((F_spec_l14Copy x_c).Cur).Seq)), (vi ((((F_spec_l14Copy x_c).Cur).Win).Top)), (vs a55 ((((F_spec_l14Copy x_c).Cur).Win).Bits).length c56), (vb true), (vi (-1)), (vs a70 ((F_spec_l14Copy x_c).Next).length c71)] wN sizeOf_36 b212 ?_
  intro w12 k213 b214 z215
  have m216 := m211.ext k213 (fun k hk => by subst hk; exact Nat.le_trans (z3 k34 k40 k44) p78)
  refine nx ?_
  refine lN [(vi ((F_spec_l14Copy x_c).Role)), (vs a45 ((F_spec_l14Copy x_c).Sn).length c46), (vi ((F_spec_EpNew (x_c.Cur.N + 1) (derive x_c.Cur.Key (ByteArray.mk ([114, 101, 107, 101, 121] : List UInt8).toArray))).N)), (vs a200 ((F_spec_EpNew (x_c.Cur.N + 1) (derive x_c.Cur.Key (ByteArray.mk ([114, 101, 107, 101, 121] : List UInt8).toArray))).Key).length c201), (vi ((F_spec_EpNew (x_c.Cur.N + 1) (derive x_c.Cur.Key (ByteArray.mk ([114, 101, 107, 101, 121] : List UInt8).toArray))).Seq)), (vi (((F_spec_EpNew (x_c.Cur.N + 1) (derive x_c.Cur.Key (ByteArray.mk ([114, 101, 107, 101, 121] : List UInt8).toArray))).Win).Top)), (vs a205 (((F_spec_EpNew (x_c.Cur.N + 1) (derive x_c.Cur.Key (ByteArray.mk ([114, 101, 107, 101, 121] : List UInt8).toArray))).Win).Bits).length c206), (vi (((F_spec_l14Copy x_c).Cur).N)), (vs a50 (((F_spec_l14Copy x_c).Cur).Key).length c51), (vi (((F_spec_l14Copy x_c).Cur).Seq)), (vi ((((F_spec_l14Copy x_c).Cur).Win).Top)), (vs a55 ((((F_spec_l14Copy x_c).Cur).Win).Bits).length c56), (vb true), (vi (-1)), (vs a70 ((F_spec_l14Copy x_c).Next).length c71)] wN isAgg_38 sizeOf_38 b214 ?_
  have zz15 := Nat.lt_of_lt_of_le p39 (Nat.le_trans k44.size p78)
  have b217 := ((((((((((b41.kp k44).kp k80).ch k83 (Nat.ne_of_lt zz15)).kp k88).ch k112 (Nat.ne_of_lt zz15)).ch k116 (Nat.ne_of_lt zz15)).ch k120 (Nat.ne_of_lt zz15)).kp k188).kp k199).ch k213 (Nat.ne_of_lt zz15))
  refine st (va [(vi ((F_spec_l14Copy x_c).Role)), (vs a45 ((F_spec_l14Copy x_c).Sn).length c46), (vi ((F_spec_EpNew (x_c.Cur.N + 1) (derive x_c.Cur.Key (ByteArray.mk ([114, 101, 107, 101, 121] : List UInt8).toArray))).N)), (vs a200 ((F_spec_EpNew (x_c.Cur.N + 1) (derive x_c.Cur.Key (ByteArray.mk ([114, 101, 107, 101, 121] : List UInt8).toArray))).Key).length c201), (vi ((F_spec_EpNew (x_c.Cur.N + 1) (derive x_c.Cur.Key (ByteArray.mk ([114, 101, 107, 101, 121] : List UInt8).toArray))).Seq)), (vi (((F_spec_EpNew (x_c.Cur.N + 1) (derive x_c.Cur.Key (ByteArray.mk ([114, 101, 107, 101, 121] : List UInt8).toArray))).Win).Top)), (vs a205 (((F_spec_EpNew (x_c.Cur.N + 1) (derive x_c.Cur.Key (ByteArray.mk ([114, 101, 107, 101, 121] : List UInt8).toArray))).Win).Bits).length c206), (vi (((F_spec_l14Copy x_c).Cur).N)), (vs a50 (((F_spec_l14Copy x_c).Cur).Key).length c51), (vi (((F_spec_l14Copy x_c).Cur).Seq)), (vi ((((F_spec_l14Copy x_c).Cur).Win).Top)), (vs a55 ((((F_spec_l14Copy x_c).Cur).Win).Bits).length c56), (vb true), (vi (-1)), (vs a70 ((F_spec_l14Copy x_c).Next).length c71)]) [(vi ((F_spec_l14Copy x_c).Role)), (vs a45 ((F_spec_l14Copy x_c).Sn).length c46), (vi ((F_spec_EpNew (x_c.Cur.N + 1) (derive x_c.Cur.Key (ByteArray.mk ([114, 101, 107, 101, 121] : List UInt8).toArray))).N)), (vs a200 ((F_spec_EpNew (x_c.Cur.N + 1) (derive x_c.Cur.Key (ByteArray.mk ([114, 101, 107, 101, 121] : List UInt8).toArray))).Key).length c201), (vi ((F_spec_EpNew (x_c.Cur.N + 1) (derive x_c.Cur.Key (ByteArray.mk ([114, 101, 107, 101, 121] : List UInt8).toArray))).Seq)), (vi (((F_spec_EpNew (x_c.Cur.N + 1) (derive x_c.Cur.Key (ByteArray.mk ([114, 101, 107, 101, 121] : List UInt8).toArray))).Win).Top)), (vs a205 (((F_spec_EpNew (x_c.Cur.N + 1) (derive x_c.Cur.Key (ByteArray.mk ([114, 101, 107, 101, 121] : List UInt8).toArray))).Win).Bits).length c206), (vi (((F_spec_l14Copy x_c).Cur).N)), (vs a50 (((F_spec_l14Copy x_c).Cur).Key).length c51), (vi (((F_spec_l14Copy x_c).Cur).Seq)), (vi ((((F_spec_l14Copy x_c).Cur).Win).Top)), (vs a55 ((((F_spec_l14Copy x_c).Cur).Win).Bits).length c56), (vb true), (vi (-1)), (vs a70 ((F_spec_l14Copy x_c).Next).length c71)] [(vi ((F_spec_l14Copy x_c).Role)), (vs a45 ((F_spec_l14Copy x_c).Sn).length c46), (vi ((F_spec_EpNew (x_c.Cur.N + 1) (derive x_c.Cur.Key (ByteArray.mk ([114, 101, 107, 101, 121] : List UInt8).toArray))).N)), (vs a200 ((F_spec_EpNew (x_c.Cur.N + 1) (derive x_c.Cur.Key (ByteArray.mk ([114, 101, 107, 101, 121] : List UInt8).toArray))).Key).length c201), (vi ((F_spec_EpNew (x_c.Cur.N + 1) (derive x_c.Cur.Key (ByteArray.mk ([114, 101, 107, 101, 121] : List UInt8).toArray))).Seq)), (vi (((F_spec_EpNew (x_c.Cur.N + 1) (derive x_c.Cur.Key (ByteArray.mk ([114, 101, 107, 101, 121] : List UInt8).toArray))).Win).Top)), (vs a205 (((F_spec_EpNew (x_c.Cur.N + 1) (derive x_c.Cur.Key (ByteArray.mk ([114, 101, 107, 101, 121] : List UInt8).toArray))).Win).Bits).length c206), (vi (((F_spec_l14Copy x_c).Cur).N)), (vs a50 (((F_spec_l14Copy x_c).Cur).Key).length c51), (vi (((F_spec_l14Copy x_c).Cur).Seq)), (vi ((((F_spec_l14Copy x_c).Cur).Win).Top)), (vs a55 ((((F_spec_l14Copy x_c).Cur).Win).Bits).length c56), (vb true), (vi (-1)), (vs a70 ((F_spec_l14Copy x_c).Next).length c71)] wN sizeOf_38 b217 ?_
  intro w13 k218 b219 z220
  have m221 := m216.ext k218 (fun k hk => by subst hk; exact Nat.le_trans k34.size p38)
  refine aw (vb true) ?_
  refine n3 ?_
  have o222 := (own_ch (own_ch (own_kp (own_kp (own_ch (own_ch (own_ch (own_kp (own_ch (own_kp o47 k80) k83 (ne2 o47 (p78))) k88) k112 (ne2 o47 (p78))) k116 (ne2 o47 (p78))) k120 (ne2 o47 (p78))) k188) k199) k213 (ne2 o47 (p78))) k218 (ne1 o47 (p39)))
  have o223 := (own_ch (own_ch o202 k213 (ne1 o202 (Nat.lt_of_lt_of_le p79 (z6 k83 k88 k112 k116 k120 k188)))) k218 (ne1 o202 (Nat.lt_of_lt_of_le p39 (z8 k44 k80 k83 k88 k112 k116 k120 k188))))
  have o224 := (own_ch (own_ch o207 k213 (ne1 o207 (Nat.lt_of_lt_of_le p79 (z6 k83 k88 k112 k116 k120 k188)))) k218 (ne1 o207 (Nat.lt_of_lt_of_le p39 (z8 k44 k80 k83 k88 k112 k116 k120 k188))))
  have o225 := (own_ch (own_ch (own_kp (own_kp (own_ch (own_ch (own_ch (own_kp (own_ch (own_kp o52 k80) k83 (ne2 o52 (p78))) k88) k112 (ne2 o52 (p78))) k116 (ne2 o52 (p78))) k120 (ne2 o52 (p78))) k188) k199) k213 (ne2 o52 (p78))) k218 (ne1 o52 (p39)))
  have o226 := (own_ch (own_ch (own_kp (own_kp (own_ch (own_ch (own_ch (own_kp (own_ch (own_kp o57 k80) k83 (ne2 o57 (p78))) k88) k112 (ne2 o57 (p78))) k116 (ne2 o57 (p78))) k120 (ne2 o57 (p78))) k188) k199) k213 (ne2 o57 (p78))) k218 (ne1 o57 (p39)))
  have o227 := (own_ch (own_ch (own_kp (own_kp (own_ch (own_ch (own_ch (own_kp (own_ch (own_kp o72 k80) k83 (ne2 o72 (p78))) k88) k112 (ne2 o72 (p78))) k116 (ne2 o72 (p78))) k120 (ne2 o72 (p78))) k188) k199) k213 (ne2 o72 (p78))) k218 (ne1 o72 (p39)))
  refine ret_2 (.inl rfl) (va [(vi ((F_spec_l14Copy x_c).Role)), (vs a45 ((F_spec_l14Copy x_c).Sn).length c46), (vi ((F_spec_EpNew (x_c.Cur.N + 1) (derive x_c.Cur.Key (ByteArray.mk ([114, 101, 107, 101, 121] : List UInt8).toArray))).N)), (vs a200 ((F_spec_EpNew (x_c.Cur.N + 1) (derive x_c.Cur.Key (ByteArray.mk ([114, 101, 107, 101, 121] : List UInt8).toArray))).Key).length c201), (vi ((F_spec_EpNew (x_c.Cur.N + 1) (derive x_c.Cur.Key (ByteArray.mk ([114, 101, 107, 101, 121] : List UInt8).toArray))).Seq)), (vi (((F_spec_EpNew (x_c.Cur.N + 1) (derive x_c.Cur.Key (ByteArray.mk ([114, 101, 107, 101, 121] : List UInt8).toArray))).Win).Top)), (vs a205 (((F_spec_EpNew (x_c.Cur.N + 1) (derive x_c.Cur.Key (ByteArray.mk ([114, 101, 107, 101, 121] : List UInt8).toArray))).Win).Bits).length c206), (vi (((F_spec_l14Copy x_c).Cur).N)), (vs a50 (((F_spec_l14Copy x_c).Cur).Key).length c51), (vi (((F_spec_l14Copy x_c).Cur).Seq)), (vi ((((F_spec_l14Copy x_c).Cur).Win).Top)), (vs a55 ((((F_spec_l14Copy x_c).Cur).Win).Bits).length c56), (vb true), (vi (-1)), (vs a70 ((F_spec_l14Copy x_c).Next).length c71)]) (vb true) rfl (rv_c [(vi ((F_spec_l14Copy x_c).Role)), (vs a45 ((F_spec_l14Copy x_c).Sn).length c46), (vi ((F_spec_EpNew (x_c.Cur.N + 1) (derive x_c.Cur.Key (ByteArray.mk ([114, 101, 107, 101, 121] : List UInt8).toArray))).N)), (vs a200 ((F_spec_EpNew (x_c.Cur.N + 1) (derive x_c.Cur.Key (ByteArray.mk ([114, 101, 107, 101, 121] : List UInt8).toArray))).Key).length c201), (vi ((F_spec_EpNew (x_c.Cur.N + 1) (derive x_c.Cur.Key (ByteArray.mk ([114, 101, 107, 101, 121] : List UInt8).toArray))).Seq)), (vi (((F_spec_EpNew (x_c.Cur.N + 1) (derive x_c.Cur.Key (ByteArray.mk ([114, 101, 107, 101, 121] : List UInt8).toArray))).Win).Top)), (vs a205 (((F_spec_EpNew (x_c.Cur.N + 1) (derive x_c.Cur.Key (ByteArray.mk ([114, 101, 107, 101, 121] : List UInt8).toArray))).Win).Bits).length c206), (vi (((F_spec_l14Copy x_c).Cur).N)), (vs a50 (((F_spec_l14Copy x_c).Cur).Key).length c51), (vi (((F_spec_l14Copy x_c).Cur).Seq)), (vi ((((F_spec_l14Copy x_c).Cur).Win).Top)), (vs a55 ((((F_spec_l14Copy x_c).Cur).Win).Bits).length c56), (vb true), (vi (-1)), (vs a70 ((F_spec_l14Copy x_c).Next).length c71)] rfl b219 isAgg_38 sizeOf_38) rfl ?_
  refine ⟨m221.keep0, ?_⟩
  have hF228 : F_spec_Turn x_c = ({ Role := (F_spec_l14Copy x_c).Role, Sn := (F_spec_l14Copy x_c).Sn, Cur := (F_spec_EpNew (x_c.Cur.N + 1) (derive x_c.Cur.Key (ByteArray.mk ([114, 101, 107, 101, 121] : List UInt8).toArray))), Old := ((F_spec_l14Copy x_c).Cur), HasOld := true, Until := (-1), Next := (F_spec_l14Copy x_c).Next : PChan }, true) := by simp only [F_spec_Turn, h90, h93, h95, cond_true, cond_false]
  rw [hF228]
  have zz16 := z7 k80 k83 k88 k112 k116 k120 k188
  exact ⟨_, _, _, _, _, _, _, _, _, _, _, _, rfl, (own_lo o222 (z2 k34 k40)), s48, (own_lo o223 (z10 k34 k40 k44 k80 k83 k88 k112 k116 k120 k188)), s203, (own_lo o224 (z10 k34 k40 k44 k80 k83 k88 k112 k116 k120 k188)), s208, (own_lo o225 (z2 k34 k40)), s53, (own_lo o226 (z2 k34 k40)), s58, (own_lo o227 (z2 k34 k40)), s73, ⟨⟨(Ap.lt o47 o202 zz16), ⟨(Ap.lt o47 o207 zz16), ⟨(ap75.1.1), ⟨(ap75.1.2.1), ⟨(ap75.1.2.2.2.2.1), trivial⟩⟩⟩⟩⟩, ⟨⟨(ap210.1.1), ⟨(Ap.lt o52 o202 zz16).symm, ⟨(Ap.lt o57 o202 zz16).symm, ⟨(Ap.lt o72 o202 zz16).symm, trivial⟩⟩⟩⟩, ⟨⟨(Ap.lt o52 o207 zz16).symm, ⟨(Ap.lt o57 o207 zz16).symm, ⟨(Ap.lt o72 o207 zz16).symm, trivial⟩⟩⟩, ⟨⟨(ap75.2.1.1), ⟨(ap75.2.1.2.2.2.1), trivial⟩⟩, ⟨⟨(ap75.2.2.1.2.2.1), trivial⟩, ⟨trivial, trivial⟩⟩⟩⟩⟩⟩⟩

def F_impl_WinNew  : (PWin) := { Top := (-1), Bits := (List.replicate 32 (0 : Int)) : PWin }
theorem C_impl_WinNew (w0 : World)   : Fn Try.prog 108 #[] w0 (fun v w' => Keep w0 w' ∧ O_34 w' w0.heap.size v (F_impl_WinNew)) := by
 refine fn_of (n := 3) (l := [U, U, U]) Try.func108 rfl rfl (by kernel_rfl) rfl ?_
 refine sr ?_
 refine al [(vi 0), (vs none 0 0)] wN zero_34 ?_
 intro g1 w1 p2 p3 k4 b5
 have m6 := (Ch.base w0).extk k4
 refine nx ?_
 refine wl_makeI (32) wN rfl rfl rfl slTy_32 32 rfl (by omega) (by first | (simp only [List.length_append, List.length_cons, List.length_nil, List.length_replicate, List.length_take, List.length_drop]; omega) | omega) (by first | (simp only [List.length_append, List.length_cons, List.length_nil, List.length_replicate, List.length_take, List.length_drop]; omega) | omega) ?_
 intro a7 c8 w2 k9 o10
 have m11 := m6.extk k9
 refine pu (va [(vi (-1)), (vs a7 (List.replicate 32 (0 : Int)).length c8)]) wN ?_
 have b13 := (b5.kp k9)
 refine st (va [(vi (-1)), (vs a7 (List.replicate 32 (0 : Int)).length c8)]) [(vi (-1)), (vs a7 (List.replicate 32 (0 : Int)).length c8)] [(vi (-1)), (vs a7 (List.replicate 32 (0 : Int)).length c8)] wN sizeOf_34 b13 ?_
 intro w3 k14 b15 z16
 have m17 := m11.ext k14 (fun k hk => by subst hk; exact p2)
 refine n3 ?_
 have o18 := (own_ch o10 k14 (ne1 o10 (p3)))
 refine ret_1 (.inl rfl) (va [(vi (-1)), (vs a7 (List.replicate 32 (0 : Int)).length c8)]) rfl (rv_c [(vi (-1)), (vs a7 (List.replicate 32 (0 : Int)).length c8)] rfl b15 isAgg_34 sizeOf_34) ?_
 refine ⟨m17.keep0, ?_⟩
 have hF19 : F_impl_WinNew = { Top := (-1), Bits := (List.replicate 32 (0 : Int)) : PWin } := by rfl
 rw [hF19]
 exact ⟨_, _, rfl, (own_lo o18 k4.size), (by rw [List.length_replicate]; first | assumption | omega), ⟨trivial, trivial⟩⟩

def F_impl_EpNew (x_n : Int) (x_key : List UInt8) : (PEp) := bif (F_impl_within x_n 0 4294967295) then (bif (decide ((x_key.length : Int) = 32)) then ({ N := x_n, Key := (x_key), Seq := 0, Win := (F_impl_WinNew) : PEp }) else ({ N := 0, Key := [], Seq := 0, Win := { Top := 0, Bits := [] : PWin } : PEp })) else ({ N := 0, Key := [], Seq := 0, Win := { Top := 0, Bits := [] : PWin } : PEp })
theorem C_impl_EpNew (w0 : World) (x_n : Int) (v_x_key : Value) (x_key : List UInt8) (r_x_key : R_22 w0 v_x_key x_key)  : Fn Try.prog 74 #[(vi x_n), v_x_key] w0 (fun v w' => Keep w0 w' ∧ O_36 w' w0.heap.size v (F_impl_EpNew x_n x_key)) := by
 obtain ⟨a1, c2, rfl, r3, s4⟩ := r_x_key
 refine fn_of (n := 19) (l := [(vi x_n), (vs a1 x_key.length c2), U, U, U, U, U, U, U, U, U, U, U, U, U, U, U, U, U]) Try.func74 rfl rfl (by kernel_rfl) rfl ?_
 refine sr ?_
 refine al [(vi 0), (vs none 0 0), (vi 0), (vi 0), (vs none 0 0)] wN zero_36 ?_
 intro g6 w1 p7 p8 k9 b10
 have m11 := (Ch.base w0).extk k9
 refine n4 ?_
 refine mw (vi x_n) ?_
 refine cl wN (C_impl_within w1 x_n 0 4294967295) ?_
 rintro _ w2 ⟨k12, rfl⟩
 have m13 := m11.extk k12
 refine pu (vb (!(F_impl_within x_n 0 4294967295))) wN ?_
 refine mw (vb (!(F_impl_within x_n 0 4294967295))) ?_
 rcases bf (F_impl_within x_n 0 4294967295) with h14 | h14
 ·have q49 := impl_within_f h14
  refine sk (congrArg not h14) ?_
  refine sk (congrArg not h14) ?_
  refine sk (congrArg not h14) ?_
  refine pk (vb true) wN (congrArg not h14) ?_
  refine n2 ?_
  refine ct (Eq.refl true) ?_
  refine sr ?_
  refine pu (va [(vi 0), (vs none 0 0), (vi 0), (vi 0), (vs none 0 0)]) wN ?_
  have b50 := (b10.kp k12)
  refine st (va [(vi 0), (vs none 0 0), (vi 0), (vi 0), (vs none 0 0)]) [(vi 0), (vs none 0 0), (vi 0), (vi 0), (vs none 0 0)] [(vi 0), (vs none 0 0), (vi 0), (vi 0), (vs none 0 0)] wN sizeOf_36 b50 ?_
  intro w3 k51 b52 z53
  have m54 := m13.ext k51 (fun k hk => by subst hk; exact p7)
  refine n1 ?_
  refine ret_1 (.inl rfl) (va [(vi 0), (vs none 0 0), (vi 0), (vi 0), (vs none 0 0)]) rfl (rv_c [(vi 0), (vs none 0 0), (vi 0), (vi 0), (vs none 0 0)] rfl b52 isAgg_36 sizeOf_36) ?_
  refine ⟨m54.keep0, ?_⟩
  have hF55 : F_impl_EpNew x_n x_key = { N := 0, Key := [], Seq := 0, Win := { Top := 0, Bits := [] : PWin } : PEp } := by simp only [F_impl_EpNew, h14, cond_true, cond_false]
  rw [hF55]
  exact ⟨_, _, _, _, rfl, (by first | exact own_nil _ _ _ _ | exact OLv.nil _ _ _ _), (by simp), (by first | exact own_nil _ _ _ _ | exact OLv.nil _ _ _ _), (by simp), ⟨⟨(Ap.nl _), trivial⟩, ⟨trivial, trivial⟩⟩⟩
 have q15 := impl_within_t h14
 refine mv (vs a1 x_key.length c2) (wS (congrArg not h14)) ?_
 refine ln (wS (congrArg not h14)) slTy_22 (r3.from0 m13) ?_
 refine pu (vb (!(decide ((x_key.length : Int) = 32)))) (wS (congrArg not h14)) ?_
 refine pf (vb (!(decide ((x_key.length : Int) = 32)))) wN (congrArg not h14) ?_
 refine n2 ?_
 rcases bf (decide ((x_key.length : Int) = 32)) with h16 | h16
 ·have q42 := of_decide_eq_false h16
  refine ct (congrArg not h16) ?_
  refine sr ?_
  refine pu (va [(vi 0), (vs none 0 0), (vi 0), (vi 0), (vs none 0 0)]) wN ?_
  have b43 := (b10.kp k12)
  refine st (va [(vi 0), (vs none 0 0), (vi 0), (vi 0), (vs none 0 0)]) [(vi 0), (vs none 0 0), (vi 0), (vi 0), (vs none 0 0)] [(vi 0), (vs none 0 0), (vi 0), (vi 0), (vs none 0 0)] wN sizeOf_36 b43 ?_
  intro w3 k44 b45 z46
  have m47 := m13.ext k44 (fun k hk => by subst hk; exact p7)
  refine n1 ?_
  refine ret_1 (.inl rfl) (va [(vi 0), (vs none 0 0), (vi 0), (vi 0), (vs none 0 0)]) rfl (rv_c [(vi 0), (vs none 0 0), (vi 0), (vi 0), (vs none 0 0)] rfl b45 isAgg_36 sizeOf_36) ?_
  refine ⟨m47.keep0, ?_⟩
  have hF48 : F_impl_EpNew x_n x_key = { N := 0, Key := [], Seq := 0, Win := { Top := 0, Bits := [] : PWin } : PEp } := by simp only [F_impl_EpNew, h14, h16, cond_true, cond_false]
  rw [hF48]
  exact ⟨_, _, _, _, rfl, (by first | exact own_nil _ _ _ _ | exact OLv.nil _ _ _ _), (by simp), (by first | exact own_nil _ _ _ _ | exact OLv.nil _ _ _ _), (by simp), ⟨⟨(Ap.nl _), trivial⟩, ⟨trivial, trivial⟩⟩⟩
 have q17 := of_decide_eq_true h16
 refine cf (congrArg not h16) ?_
 refine y1 ?_
 refine mw (vi x_n) ?_
 refine mw (vs a1 x_key.length c2) ?_
 refine cl wN (C_impl_clone w2 _ x_key (mR_22 (r3.from0 m13) s4)) ?_
 rintro _ w3 ⟨k18, ⟨a19, c20, rfl, o21, s22, ap24⟩⟩
 have m25 := m13.extk k18
 refine cl wN (C_impl_WinNew w3 ) ?_
 rintro _ w4 ⟨k26, ⟨a27, c28, rfl, o29, s30, ap32⟩⟩
 have m33 := m25.extk k26
 refine pu (va [(vi x_n), (vs a19 (x_key).length c20), (vi 0), (vi ((F_impl_WinNew).Top)), (vs a27 ((F_impl_WinNew).Bits).length c28)]) wN ?_
 have b34 := (((b10.kp k12).kp k18).kp k26)
 refine st (va [(vi x_n), (vs a19 (x_key).length c20), (vi 0), (vi ((F_impl_WinNew).Top)), (vs a27 ((F_impl_WinNew).Bits).length c28)]) [(vi x_n), (vs a19 (x_key).length c20), (vi 0), (vi ((F_impl_WinNew).Top)), (vs a27 ((F_impl_WinNew).Bits).length c28)] [(vi x_n), (vs a19 (x_key).length c20), (vi 0), (vi ((F_impl_WinNew).Top)), (vs a27 ((F_impl_WinNew).Bits).length c28)] wN sizeOf_36 b34 ?_
 intro w5 k35 b36 z37
 have m38 := m33.ext k35 (fun k hk => by subst hk; exact p7)
 refine n3 ?_
 have o39 := (own_ch (own_kp o21 k26) k35 (ne1 o21 (Nat.lt_of_lt_of_le p8 k12.size)))
 have o40 := (own_ch o29 k35 (ne1 o29 (Nat.lt_of_lt_of_le p8 (z2 k12 k18))))
 refine ret_1 (.inl rfl) (va [(vi x_n), (vs a19 (x_key).length c20), (vi 0), (vi ((F_impl_WinNew).Top)), (vs a27 ((F_impl_WinNew).Bits).length c28)]) rfl (rv_c [(vi x_n), (vs a19 (x_key).length c20), (vi 0), (vi ((F_impl_WinNew).Top)), (vs a27 ((F_impl_WinNew).Bits).length c28)] rfl b36 isAgg_36 sizeOf_36) ?_
 refine ⟨m38.keep0, ?_⟩
 have hF41 : F_impl_EpNew x_n x_key = { N := x_n, Key := (x_key), Seq := 0, Win := (F_impl_WinNew) : PEp } := by simp only [F_impl_EpNew, h14, h16, cond_true, cond_false]
 rw [hF41]
 exact ⟨_, _, _, _, rfl, (own_lo o39 (z2 k9 k12)), s22, (own_lo o40 (z3 k9 k12 k18)), s30, ⟨⟨(Ap.lt o21 o29 (Nat.le_refl w3.heap.size)), trivial⟩, ⟨trivial, trivial⟩⟩⟩

def F_impl_Turn (x_c : PChan) : (PChan) × (Bool) := bif (F_impl_ChanOk x_c) then (bif (decide (x_c.Role = 1)) then (bif (decide (x_c.Cur.N = 4294967295)) then (((F_impl_copyChan x_c), false)) else (({ Role := (F_impl_copyChan x_c).Role, Sn := (F_impl_copyChan x_c).Sn, Cur := (F_impl_EpNew (x_c.Cur.N + 1) (derive x_c.Cur.Key (ByteArray.mk ([114, 101, 107, 101, 121] : List UInt8).toArray))), Old := ((F_impl_copyChan x_c).Cur), HasOld := true, Until := (-1), Next := (F_impl_copyChan x_c).Next : PChan }, true))) else (((F_impl_copyChan x_c), false))) else (((F_impl_copyChan x_c), false))
theorem C_impl_Turn (w0 : World) (v_x_c : Value) (x_c : PChan) (r_x_c : R_38 w0 v_x_c x_c)  : Fn Try.prog 32 #[v_x_c] w0 (fun v w' => Keep w0 w' ∧ O_38_4 w' w0.heap.size v (F_impl_Turn x_c)) := by
 obtain ⟨a1, c2, a6, c7, a11, c12, a16, c17, a21, c22, a26, c27, rfl, r3, s4, r8, s9, r13, s14, r18, s19, r23, s24, r28, s29⟩ := r_x_c
 refine fn_of (n := 38) (l := [(va (L_38 x_c a1 c2 a6 c7 a11 c12 a16 c17 a21 c22 a26 c27)), U, U, U, U, U, U, U, U, U, U, U, U, U, U, U, U, U, U, U, U, U, U, U, U, U, U, U, U, U, U, U, U, U, U, U, U, U]) Try.func32 rfl rfl (by kernel_rfl) rfl ?_
 refine sr ?_
 refine bx (L_38 x_c a1 c2 a6 c7 a11 c12 a16 c17 a21 c22 a26 c27) wN ?_
 intro g31 w1 p32 p33 k34 b35
 have m36 := (Ch.base w0).extk k34
 refine al [(vi 0), (vs none 0 0), (vi 0), (vs none 0 0), (vi 0), (vi 0), (vs none 0 0), (vi 0), (vs none 0 0), (vi 0), (vi 0), (vs none 0 0), (vb false), (vi 0), (vs none 0 0)] wN zero_38 ?_
 intro g37 w2 p38 p39 k40 b41
 have m42 := m36.extk k40
 refine aw (vb false) ?_
 refine nx ?_
 have b43 := (b35.kp k40)
 refine lN (L_38 x_c a1 c2 a6 c7 a11 c12 a16 c17 a21 c22 a26 c27) wN isAgg_38 sizeOf_38 b43 ?_
 refine cl wN (C_impl_copyChan w2 _ x_c (mR_38 (r3.from0 m42) s4 (r8.from0 m42) s9 (r13.from0 m42) s14 (r18.from0 m42) s19 (r23.from0 m42) s24 (r28.from0 m42) s29)) ?_
 rintro _ w3 ⟨k44, ⟨a45, c46, a50, c51, a55, c56, a60, c61, a65, c66, a70, c71, rfl, o47, s48, o52, s53, o57, s58, o62, s63, o67, s68, o72, s73, ap75⟩⟩
 have m76 := m42.extk k44
 refine al [(vi 0), (vs none 0 0), (vi 0), (vs none 0 0), (vi 0), (vi 0), (vs none 0 0), (vi 0), (vs none 0 0), (vi 0), (vi 0), (vs none 0 0), (vb false), (vi 0), (vs none 0 0)] wN zero_38 ?_
 intro g77 w4 p78 p79 k80 b81
 have m82 := m76.extk k80
 refine sv (L_38 (F_impl_copyChan x_c) a45 c46 a50 c51 a55 c56 a60 c61 a65 c66 a70 c71) wN sizeOf_38 b81 ?_
 intro w5 k83 b84 z85
 have m86 := m82.ext k83 (fun k hk => by subst hk; exact Nat.le_trans (z3 k34 k40 k44) p78)
 refine n4 ?_
 have b87 := (((b43.kp k44).kp k80).ch k83 (Nat.ne_of_lt (Nat.lt_of_lt_of_le p33 (Nat.le_trans (z2 k40 k44) p78))))
 refine lN (L_38 x_c a1 c2 a6 c7 a11 c12 a16 c17 a21 c22 a26 c27) wN isAgg_38 sizeOf_38 b87 ?_
 refine cl wN (C_impl_ChanOk w5 _ x_c (mR_38 (r3.from0 m86) s4 (r8.from0 m86) s9 (r13.from0 m86) s14 (r18.from0 m86) s19 (r23.from0 m86) s24 (r28.from0 m86) s29)) ?_
 rintro _ w6 ⟨k88, rfl⟩
 have m89 := m86.extk k88
 refine pu (vb (!(F_impl_ChanOk x_c))) wN ?_
 refine mw (vb (!(F_impl_ChanOk x_c))) ?_
 rcases bf (F_impl_ChanOk x_c) with h90 | h90
 ·refine sk (congrArg not h90) ?_
  refine sk (congrArg not h90) ?_
  refine sk (congrArg not h90) ?_
  refine pk (vb true) wN (congrArg not h90) ?_
  refine mw (vb true) ?_
  refine sk T1 ?_
  refine sk T1 ?_
  refine sk T1 ?_
  refine sk T1 ?_
  refine pk (vb true) wN (Eq.refl true) ?_
  refine n2 ?_
  refine ct (Eq.refl true) ?_
  refine sr ?_
  have b244 := (b84.kp k88)
  refine lN (L_38 (F_impl_copyChan x_c) a45 c46 a50 c51 a55 c56 a60 c61 a65 c66 a70 c71) wN isAgg_38 sizeOf_38 b244 ?_
  have b245 := ((((b41.kp k44).kp k80).ch k83 (Nat.ne_of_lt (Nat.lt_of_lt_of_le p39 (Nat.le_trans k44.size p78)))).kp k88)
  refine sv (L_38 (F_impl_copyChan x_c) a45 c46 a50 c51 a55 c56 a60 c61 a65 c66 a70 c71) wN sizeOf_38 b245 ?_
  intro w7 k246 b247 z248
  have m249 := m89.ext k246 (fun k hk => by subst hk; exact Nat.le_trans k34.size p38)
  refine aw (vb false) ?_
  refine n1 ?_
  have o250 := (own_ch (own_kp (own_ch (own_kp o47 k80) k83 (ne2 o47 (p78))) k88) k246 (ne1 o47 (p39)))
  have o251 := (own_ch (own_kp (own_ch (own_kp o52 k80) k83 (ne2 o52 (p78))) k88) k246 (ne1 o52 (p39)))
  have o252 := (own_ch (own_kp (own_ch (own_kp o57 k80) k83 (ne2 o57 (p78))) k88) k246 (ne1 o57 (p39)))
  have o253 := (own_ch (own_kp (own_ch (own_kp o62 k80) k83 (ne2 o62 (p78))) k88) k246 (ne1 o62 (p39)))
  have o254 := (own_ch (own_kp (own_ch (own_kp o67 k80) k83 (ne2 o67 (p78))) k88) k246 (ne1 o67 (p39)))
  have o255 := (own_ch (own_kp (own_ch (own_kp o72 k80) k83 (ne2 o72 (p78))) k88) k246 (ne1 o72 (p39)))
  refine ret_2 (.inl rfl) (va (L_38 (F_impl_copyChan x_c) a45 c46 a50 c51 a55 c56 a60 c61 a65 c66 a70 c71)) (vb false) rfl (rv_c [(vi ((F_impl_copyChan x_c).Role)), (vs a45 ((F_impl_copyChan x_c).Sn).length c46), (vi (((F_impl_copyChan x_c).Cur).N)), (vs a50 (((F_impl_copyChan x_c).Cur).Key).length c51), (vi (((F_impl_copyChan x_c).Cur).Seq)), (vi ((((F_impl_copyChan x_c).Cur).Win).Top)), (vs a55 ((((F_impl_copyChan x_c).Cur).Win).Bits).length c56), (vi (((F_impl_copyChan x_c).Old).N)), (vs a60 (((F_impl_copyChan x_c).Old).Key).length c61), (vi (((F_impl_copyChan x_c).Old).Seq)), (vi ((((F_impl_copyChan x_c).Old).Win).Top)), (vs a65 ((((F_impl_copyChan x_c).Old).Win).Bits).length c66), (vb ((F_impl_copyChan x_c).HasOld)), (vi ((F_impl_copyChan x_c).Until)), (vs a70 ((F_impl_copyChan x_c).Next).length c71)] rfl b247 isAgg_38 sizeOf_38) rfl ?_
  refine ⟨m249.keep0, ?_⟩
  have hF256 : F_impl_Turn x_c = ((F_impl_copyChan x_c), false) := by simp only [F_impl_Turn, h90, cond_true, cond_false]
  rw [hF256]
  exact ⟨_, _, _, _, _, _, _, _, _, _, _, _, rfl, (own_lo o250 (z2 k34 k40)), s48, (own_lo o251 (z2 k34 k40)), s53, (own_lo o252 (z2 k34 k40)), s58, (own_lo o253 (z2 k34 k40)), s63, (own_lo o254 (z2 k34 k40)), s68, (own_lo o255 (z2 k34 k40)), s73, ⟨⟨(ap75.1.1), ⟨(ap75.1.2.1), ⟨(ap75.1.2.2.1), ⟨(ap75.1.2.2.2.1), ⟨(ap75.1.2.2.2.2.1), trivial⟩⟩⟩⟩⟩, ⟨⟨(ap75.2.1.1), ⟨(ap75.2.1.2.1), ⟨(ap75.2.1.2.2.1), ⟨(ap75.2.1.2.2.2.1), trivial⟩⟩⟩⟩, ⟨⟨(ap75.2.2.1.1), ⟨(ap75.2.2.1.2.1), ⟨(ap75.2.2.1.2.2.1), trivial⟩⟩⟩, ⟨⟨(ap75.2.2.2.1.1), ⟨(ap75.2.2.2.1.2.1), trivial⟩⟩, ⟨⟨(ap75.2.2.2.2.1.1), trivial⟩, ⟨trivial, trivial⟩⟩⟩⟩⟩⟩⟩
 have q91 := impl_ChanOk_t h90
 refine pu (vp g31 0) (wS (congrArg not h90)) ?_
 have b92 := (b87.kp k88)
 refine ld (vi x_c.Role) (wS (congrArg not h90)) isAgg_3 b92 ?_
 refine pu (vb (!(decide (x_c.Role = 1)))) (wS (congrArg not h90)) ?_
 refine pf (vb (!(decide (x_c.Role = 1)))) wN (congrArg not h90) ?_
 refine mw (vb (!(decide (x_c.Role = 1)))) ?_
 rcases bf (decide (x_c.Role = 1)) with h93 | h93
 ·have q229 := of_decide_eq_false h93
  refine sk (congrArg not h93) ?_
  refine sk (congrArg not h93) ?_
  refine sk (congrArg not h93) ?_
  refine sk (congrArg not h93) ?_
  refine pk (vb true) wN (congrArg not h93) ?_
  refine n2 ?_
  refine ct (Eq.refl true) ?_
  refine sr ?_
  have b230 := (b84.kp k88)
  refine lN (L_38 (F_impl_copyChan x_c) a45 c46 a50 c51 a55 c56 a60 c61 a65 c66 a70 c71) wN isAgg_38 sizeOf_38 b230 ?_
  have b231 := ((((b41.kp k44).kp k80).ch k83 (Nat.ne_of_lt (Nat.lt_of_lt_of_le p39 (Nat.le_trans k44.size p78)))).kp k88)
  refine sv (L_38 (F_impl_copyChan x_c) a45 c46 a50 c51 a55 c56 a60 c61 a65 c66 a70 c71) wN sizeOf_38 b231 ?_
  intro w7 k232 b233 z234
  have m235 := m89.ext k232 (fun k hk => by subst hk; exact Nat.le_trans k34.size p38)
  refine aw (vb false) ?_
  refine n1 ?_
  have o236 := (own_ch (own_kp (own_ch (own_kp o47 k80) k83 (ne2 o47 (p78))) k88) k232 (ne1 o47 (p39)))
  have o237 := (own_ch (own_kp (own_ch (own_kp o52 k80) k83 (ne2 o52 (p78))) k88) k232 (ne1 o52 (p39)))
  have o238 := (own_ch (own_kp (own_ch (own_kp o57 k80) k83 (ne2 o57 (p78))) k88) k232 (ne1 o57 (p39)))
  have o239 := (own_ch (own_kp (own_ch (own_kp o62 k80) k83 (ne2 o62 (p78))) k88) k232 (ne1 o62 (p39)))
  have o240 := (own_ch (own_kp (own_ch (own_kp o67 k80) k83 (ne2 o67 (p78))) k88) k232 (ne1 o67 (p39)))
  have o241 := (own_ch (own_kp (own_ch (own_kp o72 k80) k83 (ne2 o72 (p78))) k88) k232 (ne1 o72 (p39)))
  refine ret_2 (.inl rfl) (va (L_38 (F_impl_copyChan x_c) a45 c46 a50 c51 a55 c56 a60 c61 a65 c66 a70 c71)) (vb false) rfl (rv_c [(vi ((F_impl_copyChan x_c).Role)), (vs a45 ((F_impl_copyChan x_c).Sn).length c46), (vi (((F_impl_copyChan x_c).Cur).N)), (vs a50 (((F_impl_copyChan x_c).Cur).Key).length c51), (vi (((F_impl_copyChan x_c).Cur).Seq)), (vi ((((F_impl_copyChan x_c).Cur).Win).Top)), (vs a55 ((((F_impl_copyChan x_c).Cur).Win).Bits).length c56), (vi (((F_impl_copyChan x_c).Old).N)), (vs a60 (((F_impl_copyChan x_c).Old).Key).length c61), (vi (((F_impl_copyChan x_c).Old).Seq)), (vi ((((F_impl_copyChan x_c).Old).Win).Top)), (vs a65 ((((F_impl_copyChan x_c).Old).Win).Bits).length c66), (vb ((F_impl_copyChan x_c).HasOld)), (vi ((F_impl_copyChan x_c).Until)), (vs a70 ((F_impl_copyChan x_c).Next).length c71)] rfl b233 isAgg_38 sizeOf_38) rfl ?_
  refine ⟨m235.keep0, ?_⟩
  have hF242 : F_impl_Turn x_c = ((F_impl_copyChan x_c), false) := by simp only [F_impl_Turn, h90, h93, cond_true, cond_false]
  rw [hF242]
  exact ⟨_, _, _, _, _, _, _, _, _, _, _, _, rfl, (own_lo o236 (z2 k34 k40)), s48, (own_lo o237 (z2 k34 k40)), s53, (own_lo o238 (z2 k34 k40)), s58, (own_lo o239 (z2 k34 k40)), s63, (own_lo o240 (z2 k34 k40)), s68, (own_lo o241 (z2 k34 k40)), s73, ⟨⟨(ap75.1.1), ⟨(ap75.1.2.1), ⟨(ap75.1.2.2.1), ⟨(ap75.1.2.2.2.1), ⟨(ap75.1.2.2.2.2.1), trivial⟩⟩⟩⟩⟩, ⟨⟨(ap75.2.1.1), ⟨(ap75.2.1.2.1), ⟨(ap75.2.1.2.2.1), ⟨(ap75.2.1.2.2.2.1), trivial⟩⟩⟩⟩, ⟨⟨(ap75.2.2.1.1), ⟨(ap75.2.2.1.2.1), ⟨(ap75.2.2.1.2.2.1), trivial⟩⟩⟩, ⟨⟨(ap75.2.2.2.1.1), ⟨(ap75.2.2.2.1.2.1), trivial⟩⟩, ⟨⟨(ap75.2.2.2.2.1.1), trivial⟩, ⟨trivial, trivial⟩⟩⟩⟩⟩⟩⟩
 have q94 := of_decide_eq_true h93
 refine pu (vp g31 2) (wS (congrArg not h93)) ?_
 refine pu (vp g31 2) (wS (congrArg not h93)) ?_
 refine ld (vi x_c.Cur.N) (wS (congrArg not h93)) isAgg_3 b92 ?_
 refine pu (vb (decide (x_c.Cur.N = 4294967295))) (wS (congrArg not h93)) ?_
 refine pf (vb (decide (x_c.Cur.N = 4294967295))) wN (congrArg not h93) ?_
 refine n2 ?_
 rcases bt (decide (x_c.Cur.N = 4294967295)) with h95 | h95
 ·have q96 := of_decide_eq_true h95
  refine ct h95 ?_
  refine sr ?_
  have b97 := (b84.kp k88)
  refine lN (L_38 (F_impl_copyChan x_c) a45 c46 a50 c51 a55 c56 a60 c61 a65 c66 a70 c71) wN isAgg_38 sizeOf_38 b97 ?_
  have b98 := ((((b41.kp k44).kp k80).ch k83 (Nat.ne_of_lt (Nat.lt_of_lt_of_le p39 (Nat.le_trans k44.size p78)))).kp k88)
  refine sv (L_38 (F_impl_copyChan x_c) a45 c46 a50 c51 a55 c56 a60 c61 a65 c66 a70 c71) wN sizeOf_38 b98 ?_
  intro w7 k99 b100 z101
  have m102 := m89.ext k99 (fun k hk => by subst hk; exact Nat.le_trans k34.size p38)
  refine aw (vb false) ?_
  refine n1 ?_
  have o103 := (own_ch (own_kp (own_ch (own_kp o47 k80) k83 (ne2 o47 (p78))) k88) k99 (ne1 o47 (p39)))
  have o104 := (own_ch (own_kp (own_ch (own_kp o52 k80) k83 (ne2 o52 (p78))) k88) k99 (ne1 o52 (p39)))
  have o105 := (own_ch (own_kp (own_ch (own_kp o57 k80) k83 (ne2 o57 (p78))) k88) k99 (ne1 o57 (p39)))
  have o106 := (own_ch (own_kp (own_ch (own_kp o62 k80) k83 (ne2 o62 (p78))) k88) k99 (ne1 o62 (p39)))
  have o107 := (own_ch (own_kp (own_ch (own_kp o67 k80) k83 (ne2 o67 (p78))) k88) k99 (ne1 o67 (p39)))
  have o108 := (own_ch (own_kp (own_ch (own_kp o72 k80) k83 (ne2 o72 (p78))) k88) k99 (ne1 o72 (p39)))
  refine ret_2 (.inl rfl) (va (L_38 (F_impl_copyChan x_c) a45 c46 a50 c51 a55 c56 a60 c61 a65 c66 a70 c71)) (vb false) rfl (rv_c [(vi ((F_impl_copyChan x_c).Role)), (vs a45 ((F_impl_copyChan x_c).Sn).length c46), (vi (((F_impl_copyChan x_c).Cur).N)), (vs a50 (((F_impl_copyChan x_c).Cur).Key).length c51), (vi (((F_impl_copyChan x_c).Cur).Seq)), (vi ((((F_impl_copyChan x_c).Cur).Win).Top)), (vs a55 ((((F_impl_copyChan x_c).Cur).Win).Bits).length c56), (vi (((F_impl_copyChan x_c).Old).N)), (vs a60 (((F_impl_copyChan x_c).Old).Key).length c61), (vi (((F_impl_copyChan x_c).Old).Seq)), (vi ((((F_impl_copyChan x_c).Old).Win).Top)), (vs a65 ((((F_impl_copyChan x_c).Old).Win).Bits).length c66), (vb ((F_impl_copyChan x_c).HasOld)), (vi ((F_impl_copyChan x_c).Until)), (vs a70 ((F_impl_copyChan x_c).Next).length c71)] rfl b100 isAgg_38 sizeOf_38) rfl ?_
  refine ⟨m102.keep0, ?_⟩
  have hF109 : F_impl_Turn x_c = ((F_impl_copyChan x_c), false) := by simp only [F_impl_Turn, h90, h93, h95, cond_true, cond_false]
  rw [hF109]
  exact ⟨_, _, _, _, _, _, _, _, _, _, _, _, rfl, (own_lo o103 (z2 k34 k40)), s48, (own_lo o104 (z2 k34 k40)), s53, (own_lo o105 (z2 k34 k40)), s58, (own_lo o106 (z2 k34 k40)), s63, (own_lo o107 (z2 k34 k40)), s68, (own_lo o108 (z2 k34 k40)), s73, ⟨⟨(ap75.1.1), ⟨(ap75.1.2.1), ⟨(ap75.1.2.2.1), ⟨(ap75.1.2.2.2.1), ⟨(ap75.1.2.2.2.2.1), trivial⟩⟩⟩⟩⟩, ⟨⟨(ap75.2.1.1), ⟨(ap75.2.1.2.1), ⟨(ap75.2.1.2.2.1), ⟨(ap75.2.1.2.2.2.1), trivial⟩⟩⟩⟩, ⟨⟨(ap75.2.2.1.1), ⟨(ap75.2.2.1.2.1), ⟨(ap75.2.2.1.2.2.1), trivial⟩⟩⟩, ⟨⟨(ap75.2.2.2.1.1), ⟨(ap75.2.2.2.1.2.1), trivial⟩⟩, ⟨⟨(ap75.2.2.2.2.1.1), trivial⟩, ⟨trivial, trivial⟩⟩⟩⟩⟩⟩⟩
 have q110 := of_decide_eq_false h95
 refine cf h95 ?_
 refine y1 ?_
 refine pu (vp g77 2) wN ?_
 have b111 := (b84.kp k88)
 refine lN (L_36 ((F_impl_copyChan x_c).Cur) a50 c51 a55 c56) wN isAgg_36 sizeOf_36 b111 ?_
 refine pu (vp g77 7) wN ?_
 refine st (va (L_36 ((F_impl_copyChan x_c).Cur) a50 c51 a55 c56)) (L_36 ((F_impl_copyChan x_c).Cur) a50 c51 a55 c56) [(vi ((F_impl_copyChan x_c).Role)), (vs a45 ((F_impl_copyChan x_c).Sn).length c46), (vi (((F_impl_copyChan x_c).Cur).N)), (vs a50 (((F_impl_copyChan x_c).Cur).Key).length c51), (vi (((F_impl_copyChan x_c).Cur).Seq)), (vi ((((F_impl_copyChan x_c).Cur).Win).Top)), (vs a55 ((((F_impl_copyChan x_c).Cur).Win).Bits).length c56), (vi (((F_impl_copyChan x_c).Cur).N)), (vs a50 (((F_impl_copyChan x_c).Cur).Key).length c51), (vi (((F_impl_copyChan x_c).Cur).Seq)), (vi ((((F_impl_copyChan x_c).Cur).Win).Top)), (vs a55 ((((F_impl_copyChan x_c).Cur).Win).Bits).length c56), (vb ((F_impl_copyChan x_c).HasOld)), (vi ((F_impl_copyChan x_c).Until)), (vs a70 ((F_impl_copyChan x_c).Next).length c71)] wN sizeOf_36 b111 ?_
 intro w7 k112 b113 z114
 have m115 := m89.ext k112 (fun k hk => by subst hk; exact Nat.le_trans (z3 k34 k40 k44) p78)
 refine pu (vp g77 12) wN ?_
 refine st (vb true) [(vb true)] [(vi ((F_impl_copyChan x_c).Role)), (vs a45 ((F_impl_copyChan x_c).Sn).length c46), (vi (((F_impl_copyChan x_c).Cur).N)), (vs a50 (((F_impl_copyChan x_c).Cur).Key).length c51), (vi (((F_impl_copyChan x_c).Cur).Seq)), (vi ((((F_impl_copyChan x_c).Cur).Win).Top)), (vs a55 ((((F_impl_copyChan x_c).Cur).Win).Bits).length c56), (vi (((F_impl_copyChan x_c).Cur).N)), (vs a50 (((F_impl_copyChan x_c).Cur).Key).length c51), (vi (((F_impl_copyChan x_c).Cur).Seq)), (vi ((((F_impl_copyChan x_c).Cur).Win).Top)), (vs a55 ((((F_impl_copyChan x_c).Cur).Win).Bits).length c56), (vb true), (vi ((F_impl_copyChan x_c).Until)), (vs a70 ((F_impl_copyChan x_c).Next).length c71)] wN sizeOf_4 b113 ?_
 intro w8 k116 b117 z118
 have m119 := m115.ext k116 (fun k hk => by subst hk; exact Nat.le_trans (z3 k34 k40 k44) p78)
 refine pu (vp g77 13) wN ?_
 refine st (vi (-1)) [(vi (-1))] [(vi ((F_impl_copyChan x_c).Role)), (vs a45 ((F_impl_copyChan x_c).Sn).length c46), (vi (((F_impl_copyChan x_c).Cur).N)), (vs a50 (((F_impl_copyChan x_c).Cur).Key).length c51), (vi (((F_impl_copyChan x_c).Cur).Seq)), (vi ((((F_impl_copyChan x_c).Cur).Win).Top)), (vs a55 ((((F_impl_copyChan x_c).Cur).Win).Bits).length c56), (vi (((F_impl_copyChan x_c).Cur).N)), (vs a50 (((F_impl_copyChan x_c).Cur).Key).length c51), (vi (((F_impl_copyChan x_c).Cur).Seq)), (vi ((((F_impl_copyChan x_c).Cur).Win).Top)), (vs a55 ((((F_impl_copyChan x_c).Cur).Win).Bits).length c56), (vb true), (vi (-1)), (vs a70 ((F_impl_copyChan x_c).Next).length c71)] wN sizeOf_3 b117 ?_
 intro w9 k120 b121 z122
 have m123 := m119.ext k120 (fun k hk => by subst hk; exact Nat.le_trans (z3 k34 k40 k44) p78)
 refine wl_nil <| wq_then <| wc_seq ?_
 refine wc_drawT ([(27, [], [], (fun _ v _ => v = (vp g31 2))), (28, [], [0], (fun _ v _ => v = (vp g31 2))), (29, [], [0, 1], (fun _ v _ => v = (vi x_c.Cur.N))), (30, [], [0, 1, 2], (fun _ v _ => v = (vi (x_c.Cur.N + 1)))), (31, [], [], (fun _ v _ => v = (vp g31 2))), (32, [], [4], (fun _ v _ => v = (vp g31 3))), (33, [], [4, 5], (fun _ v _ => v = (vs a6 x_c.Cur.Key.length c7))), (34, [], [4, 5, 6], (fun _ v w => ∃ (a1 : Option Addr) (c1 : Nat), v = .slice a1 (derive x_c.Cur.Key (ByteArray.mk ([114, 101, 107, 101, 121] : List UInt8).toArray)).length c1 ∧ w.ownsRow (w9.heap.size) 5 1 (.slice a1 (derive x_c.Cur.Key (ByteArray.mk ([114, 101, 107, 101, 121] : List UInt8).toArray)).length c1) (derive x_c.Cur.Key (ByteArray.mk ([114, 101, 107, 101, 121] : List UInt8).toArray)).length ((derive x_c.Cur.Key (ByteArray.mk ([114, 101, 107, 101, 121] : List UInt8).toArray)).map bV) ∧ (derive x_c.Cur.Key (ByteArray.mk ([114, 101, 107, 101, 121] : List UInt8).toArray)).length ≤ 1073741824 ∧ Aps [(a1, c1)]))] : GV) (fun _ w' => Keep w9 w') [] mixed rfl (by kernel_rfl) (by kernel_rfl) ?_ (fun _ _ h => h) (fun _ _ _ _ h _ k => h.trans k) trivial ?_ ?_ ?_
 ·exact ⟨(fun _ _ _ _ h _ => h), (fun _ _ _ _ _ h => h), ⟨(fun _ _ _ _ h _ => h), (fun _ _ _ _ _ h => h), ⟨(fun _ _ _ _ h _ => h), (fun _ _ _ _ _ h => h), ⟨(fun _ _ _ _ h _ => h), (fun _ _ _ _ _ h => h), ⟨(fun _ _ _ _ h _ => h), (fun _ _ _ _ _ h => h), ⟨(fun _ _ _ _ h _ => h), (fun _ _ _ _ _ h => h), ⟨(fun _ _ _ _ h _ => h), (fun _ _ _ _ _ h => h), ⟨(fun e v w w1 h hk => by obtain ⟨a0x, c0x, he, o0x, l0x, hap⟩ := h; exact ⟨a0x, c0x, he, own_kp o0x hk, l0x, hap⟩), (fun _ _ _ _ _ h => h), trivial⟩⟩⟩⟩⟩⟩⟩⟩
 ·exact trivial
 ·refine ⟨?_, ⟨?_, ⟨?_, ⟨?_, ⟨?_, ⟨?_, ⟨?_, ⟨?_, trivial⟩⟩⟩⟩⟩⟩⟩⟩
  ·intro _ w10 k159 _
   have m160 := m123.extk k159
   rintro _ _ _ _ _ _ _ _
   show WL _ _ _ _ _ _ _
   refine pu (vp g31 2) wN ?_
   exact f1
  ·intro _ w10 k161 _
   have m162 := m123.extk k161
   rintro _ rfl _ _ _ _ _ _ _
   show WL _ _ _ _ _ _ _
   refine pu (vp g31 2) wN ?_
   exact f1
  ·intro _ w10 k163 _
   have m164 := m123.extk k163
   rintro _ rfl _ rfl _ _ _ _ _ _
   show WL _ _ _ _ _ _ _
   have zz17 := Nat.lt_of_lt_of_le p33 (Nat.le_trans (z2 k40 k44) p78)
   have b165 := ((((b92.ch k112 (Nat.ne_of_lt zz17)).ch k116 (Nat.ne_of_lt zz17)).ch k120 (Nat.ne_of_lt zz17)).kp k163)
   refine ld (vi x_c.Cur.N) wN isAgg_3 b165 ?_
   exact f1
  ·intro _ w10 k166 _
   have m167 := m123.extk k166
   rintro _ rfl _ rfl _ rfl _ _ _ _ _
   show WL _ _ _ _ _ _ _
   refine ar (x_c.Cur.N + 1) wN ?_
   exact f1
  ·intro _ w10 k169 _
   have m170 := m123.extk k169
   rintro _ _ _ _ _ _ _ _
   show WL _ _ _ _ _ _ _
   refine pu (vp g31 2) wN ?_
   exact f1
  ·intro _ w10 k171 _
   have m172 := m123.extk k171
   rintro _ _ _ _ _ rfl _ _ _
   show WL _ _ _ _ _ _ _
   refine pu (vp g31 3) wN ?_
   exact f1
  ·intro _ w10 k173 _
   have m174 := m123.extk k173
   rintro _ _ _ _ _ rfl _ rfl _ _
   show WL _ _ _ _ _ _ _
   have zz18 := Nat.lt_of_lt_of_le p33 (Nat.le_trans (z2 k40 k44) p78)
   have b175 := ((((b92.ch k112 (Nat.ne_of_lt zz18)).ch k116 (Nat.ne_of_lt zz18)).ch k120 (Nat.ne_of_lt zz18)).kp k173)
   refine ld (vs a6 x_c.Cur.Key.length c7) wN isAgg_22 b175 ?_
   exact f1
  ·intro _ w10 k176 _
   have m177 := m123.extk k176
   rintro _ _ _ _ _ rfl _ rfl _ rfl _
   show WL _ _ _ _ _ _ _
   refine cl wN (C_impl_Derive w10 _ x_c.Cur.Key (mR_22 (r8.from0 m177) s9) _ (ByteArray.mk ([114, 101, 107, 101, 121] : List UInt8).toArray) (mR_9) (by first | omega | decide)) ?_
   rintro _ w11 ⟨k179, ⟨a180, c181, rfl, o182, s183, ap185⟩⟩
   have m186 := m177.extk k179
   have q187 := derive_le x_c.Cur.Key (ByteArray.mk ([114, 101, 107, 101, 121] : List UInt8).toArray)
   exact wl_finT k179 ⟨_, _, rfl, (own_lo o182 k176.size), s183, ap185⟩
 ·intro _ w10 k188
  have m189 := m123.extk k188
  rintro _ rfl _ rfl _ rfl _ rfl _ rfl _ rfl _ rfl _ ⟨a192, c193, rfl, o194, s195, ap197⟩
  have q198 := derive_le x_c.Cur.Key (ByteArray.mk ([114, 101, 107, 101, 121] : List UInt8).toArray)
  show WL _ _ _ _ _ _ _
  refine cl wN (C_impl_EpNew w10 (x_c.Cur.N + 1) _ (derive x_c.Cur.Key (ByteArray.mk ([114, 101, 107, 101, 121] : List UInt8).toArray)) (mR_22 (Rd.of_own o194) s195)) ?_
  rintro _ w11 ⟨k199, ⟨a200, c201, a205, c206, rfl, o202, s203, o207, s208, ap210⟩⟩
  have m211 := m189.extk k199
  refine pu (vp g77 2) wN ?_
  have b212 := ((b121.kp k188).kp k199)
  refine st (va (L_36 (F_impl_EpNew (x_c.Cur.N + 1) (derive x_c.Cur.Key (ByteArray.mk ([114, 101, 107, 101, 121] : List UInt8).toArray))) a200 c201 a205 c206)) (L_36 (F_impl_EpNew (x_c.Cur.N + 1) (derive x_c.Cur.Key (ByteArray.mk ([114, 101, 107, 101, 121] : List UInt8).toArray))) a200 c201 a205 c206) [(vi ((F_impl_copyChan x_c).Role)), (vs a45 ((F_impl_copyChan x_c).Sn).length c46), (vi ((F_impl_EpNew (x_c.Cur.N + 1) (derive x_c.Cur.Key (ByteArray.mk ([114, 101, 107, 101, 121] : List UInt8).toArray))).N)), (vs a200 ((F_impl_EpNew (x_c.Cur.N + 1) (derive x_c.Cur.Key (ByteArray.mk ([114, 101, 107, 101, 121] : List UInt8).toArray))).Key).length c201), (vi ((F_impl_EpNew (x_c.Cur.N + 1) (derive x_c.Cur.Key (ByteArray.mk ([114, 101, 107, 101, 121] : List UInt8).toArray))).Seq)), (vi (((F_impl_EpNew (x_c.Cur.N + 1) (derive x_c.Cur.Key (ByteArray.mk ([114, 101, 107, 101, 121] : List UInt8).toArray))).Win).Top)), (vs a205 (((F_impl_EpNew (x_c.Cur.N + 1) (derive x_c.Cur.Key (ByteArray.mk ([114, 101, 107, 101, 121] : List UInt8).toArray))).Win).Bits).length c206), (vi (((F_impl_copyChan x_c).Cur).N)), (vs a50 (((F_impl_copyChan x_c).Cur).Key).length c51), (vi (((F_impl_copyChan x_c).Cur).Seq)), (vi ((((F_impl_copyChan x_c).Cur).Win).Top)), (vs a55 ((((F_impl_copyChan x_c).Cur).Win).Bits).length c56), (vb true), (vi (-1)), (vs a70 ((F_impl_copyChan x_c).Next).length c71)] wN sizeOf_36 b212 ?_
  intro w12 k213 b214 z215
  have m216 := m211.ext k213 (fun k hk => by subst hk; exact Nat.le_trans (z3 k34 k40 k44) p78)
  refine nx ?_
  refine lN [(vi ((F_impl_copyChan x_c).Role)), (vs a45 ((F_impl_copyChan x_c).Sn).length c46), (vi ((F_impl_EpNew (x_c.Cur.N + 1) (derive x_c.Cur.Key (ByteArray.mk ([114, 101, 107, 101, 121] : List UInt8).toArray))).N)), (vs a200 ((F_impl_EpNew (x_c.Cur.N + 1) (derive x_c.Cur.Key (ByteArray.mk ([114, 101, 107, 101, 121] : List UInt8).toArray))).Key).length c201), (vi ((F_impl_EpNew (x_c.Cur.N + 1) (derive x_c.Cur.Key (ByteArray.mk ([114, 101, 107, 101, 121] : List UInt8).toArray))).Seq)), (vi (((F_impl_EpNew (x_c.Cur.N + 1) (derive x_c.Cur.Key (ByteArray.mk ([114, 101, 107, 101, 121] : List UInt8).toArray))).Win).Top)), (vs a205 (((F_impl_EpNew (x_c.Cur.N + 1) (derive x_c.Cur.Key (ByteArray.mk ([114, 101, 107, 101, 121] : List UInt8).toArray))).Win).Bits).length c206), (vi (((F_impl_copyChan x_c).Cur).N)), (vs a50 (((F_impl_copyChan x_c).Cur).Key).length c51), (vi (((F_impl_copyChan x_c).Cur).Seq)), (vi ((((F_impl_copyChan x_c).Cur).Win).Top)), (vs a55 ((((F_impl_copyChan x_c).Cur).Win).Bits).length c56), (vb true), (vi (-1)), (vs a70 ((F_impl_copyChan x_c).Next).length c71)] wN isAgg_38 sizeOf_38 b214 ?_
  have zz19 := Nat.lt_of_lt_of_le p39 (Nat.le_trans k44.size p78)
  have b217 := ((((((((((b41.kp k44).kp k80).ch k83 (Nat.ne_of_lt zz19)).kp k88).ch k112 (Nat.ne_of_lt zz19)).ch k116 (Nat.ne_of_lt zz19)).ch k120 (Nat.ne_of_lt zz19)).kp k188).kp k199).ch k213 (Nat.ne_of_lt zz19))
  refine st (va [(vi ((F_impl_copyChan x_c).Role)), (vs a45 ((F_impl_copyChan x_c).Sn).length c46), (vi ((F_impl_EpNew (x_c.Cur.N + 1) (derive x_c.Cur.Key (ByteArray.mk ([114, 101, 107, 101, 121] : List UInt8).toArray))).N)), (vs a200 ((F_impl_EpNew (x_c.Cur.N + 1) (derive x_c.Cur.Key (ByteArray.mk ([114, 101, 107, 101, 121] : List UInt8).toArray))).Key).length c201), (vi ((F_impl_EpNew (x_c.Cur.N + 1) (derive x_c.Cur.Key (ByteArray.mk ([114, 101, 107, 101, 121] : List UInt8).toArray))).Seq)), (vi (((F_impl_EpNew (x_c.Cur.N + 1) (derive x_c.Cur.Key (ByteArray.mk ([114, 101, 107, 101, 121] : List UInt8).toArray))).Win).Top)), (vs a205 (((F_impl_EpNew (x_c.Cur.N + 1) (derive x_c.Cur.Key (ByteArray.mk ([114, 101, 107, 101, 121] : List UInt8).toArray))).Win).Bits).length c206), (vi (((F_impl_copyChan x_c).Cur).N)), (vs a50 (((F_impl_copyChan x_c).Cur).Key).length c51), (vi (((F_impl_copyChan x_c).Cur).Seq)), (vi ((((F_impl_copyChan x_c).Cur).Win).Top)), (vs a55 ((((F_impl_copyChan x_c).Cur).Win).Bits).length c56), (vb true), (vi (-1)), (vs a70 ((F_impl_copyChan x_c).Next).length c71)]) [(vi ((F_impl_copyChan x_c).Role)), (vs a45 ((F_impl_copyChan x_c).Sn).length c46), (vi ((F_impl_EpNew (x_c.Cur.N + 1) (derive x_c.Cur.Key (ByteArray.mk ([114, 101, 107, 101, 121] : List UInt8).toArray))).N)), (vs a200 ((F_impl_EpNew (x_c.Cur.N + 1) (derive x_c.Cur.Key (ByteArray.mk ([114, 101, 107, 101, 121] : List UInt8).toArray))).Key).length c201), (vi ((F_impl_EpNew (x_c.Cur.N + 1) (derive x_c.Cur.Key (ByteArray.mk ([114, 101, 107, 101, 121] : List UInt8).toArray))).Seq)), (vi (((F_impl_EpNew (x_c.Cur.N + 1) (derive x_c.Cur.Key (ByteArray.mk ([114, 101, 107, 101, 121] : List UInt8).toArray))).Win).Top)), (vs a205 (((F_impl_EpNew (x_c.Cur.N + 1) (derive x_c.Cur.Key (ByteArray.mk ([114, 101, 107, 101, 121] : List UInt8).toArray))).Win).Bits).length c206), (vi (((F_impl_copyChan x_c).Cur).N)), (vs a50 (((F_impl_copyChan x_c).Cur).Key).length c51), (vi (((F_impl_copyChan x_c).Cur).Seq)), (vi ((((F_impl_copyChan x_c).Cur).Win).Top)), (vs a55 ((((F_impl_copyChan x_c).Cur).Win).Bits).length c56), (vb true), (vi (-1)), (vs a70 ((F_impl_copyChan x_c).Next).length c71)] [(vi ((F_impl_copyChan x_c).Role)), (vs a45 ((F_impl_copyChan x_c).Sn).length c46), (vi ((F_impl_EpNew (x_c.Cur.N + 1) (derive x_c.Cur.Key (ByteArray.mk ([114, 101, 107, 101, 121] : List UInt8).toArray))).N)), (vs a200 ((F_impl_EpNew (x_c.Cur.N + 1) (derive x_c.Cur.Key (ByteArray.mk ([114, 101, 107, 101, 121] : List UInt8).toArray))).Key).length c201), (vi ((F_impl_EpNew (x_c.Cur.N + 1) (derive x_c.Cur.Key (ByteArray.mk ([114, 101, 107, 101, 121] : List UInt8).toArray))).Seq)), (vi (((F_impl_EpNew (x_c.Cur.N + 1) (derive x_c.Cur.Key (ByteArray.mk ([114, 101, 107, 101, 121] : List UInt8).toArray))).Win).Top)), (vs a205 (((F_impl_EpNew (x_c.Cur.N + 1) (derive x_c.Cur.Key (ByteArray.mk ([114, 101, 107, 101, 121] : List UInt8).toArray))).Win).Bits).length c206), (vi (((F_impl_copyChan x_c).Cur).N)), (vs a50 (((F_impl_copyChan x_c).Cur).Key).length c51), (vi (((F_impl_copyChan x_c).Cur).Seq)), (vi ((((F_impl_copyChan x_c).Cur).Win).Top)), (vs a55 ((((F_impl_copyChan x_c).Cur).Win).Bits).length c56), (vb true), (vi (-1)), (vs a70 ((F_impl_copyChan x_c).Next).length c71)] wN sizeOf_38 b217 ?_
  intro w13 k218 b219 z220
  have m221 := m216.ext k218 (fun k hk => by subst hk; exact Nat.le_trans k34.size p38)
  refine aw (vb true) ?_
  refine n3 ?_
  have o222 := (own_ch (own_ch (own_kp (own_kp (own_ch (own_ch (own_ch (own_kp (own_ch (own_kp o47 k80) k83 (ne2 o47 (p78))) k88) k112 (ne2 o47 (p78))) k116 (ne2 o47 (p78))) k120 (ne2 o47 (p78))) k188) k199) k213 (ne2 o47 (p78))) k218 (ne1 o47 (p39)))
  have o223 := (own_ch (own_ch o202 k213 (ne1 o202 (Nat.lt_of_lt_of_le p79 (z6 k83 k88 k112 k116 k120 k188)))) k218 (ne1 o202 (Nat.lt_of_lt_of_le p39 (z8 k44 k80 k83 k88 k112 k116 k120 k188))))
  have o224 := (own_ch (own_ch o207 k213 (ne1 o207 (Nat.lt_of_lt_of_le p79 (z6 k83 k88 k112 k116 k120 k188)))) k218 (ne1 o207 (Nat.lt_of_lt_of_le p39 (z8 k44 k80 k83 k88 k112 k116 k120 k188))))
  have o225 := (own_ch (own_ch (own_kp (own_kp (own_ch (own_ch (own_ch (own_kp (own_ch (own_kp o52 k80) k83 (ne2 o52 (p78))) k88) k112 (ne2 o52 (p78))) k116 (ne2 o52 (p78))) k120 (ne2 o52 (p78))) k188) k199) k213 (ne2 o52 (p78))) k218 (ne1 o52 (p39)))
  have o226 := (own_ch (own_ch (own_kp (own_kp (own_ch (own_ch (own_ch (own_kp (own_ch (own_kp o57 k80) k83 (ne2 o57 (p78))) k88) k112 (ne2 o57 (p78))) k116 (ne2 o57 (p78))) k120 (ne2 o57 (p78))) k188) k199) k213 (ne2 o57 (p78))) k218 (ne1 o57 (p39)))
  have o227 := (own_ch (own_ch (own_kp (own_kp (own_ch (own_ch (own_ch (own_kp (own_ch (own_kp o72 k80) k83 (ne2 o72 (p78))) k88) k112 (ne2 o72 (p78))) k116 (ne2 o72 (p78))) k120 (ne2 o72 (p78))) k188) k199) k213 (ne2 o72 (p78))) k218 (ne1 o72 (p39)))
  refine ret_2 (.inl rfl) (va [(vi ((F_impl_copyChan x_c).Role)), (vs a45 ((F_impl_copyChan x_c).Sn).length c46), (vi ((F_impl_EpNew (x_c.Cur.N + 1) (derive x_c.Cur.Key (ByteArray.mk ([114, 101, 107, 101, 121] : List UInt8).toArray))).N)), (vs a200 ((F_impl_EpNew (x_c.Cur.N + 1) (derive x_c.Cur.Key (ByteArray.mk ([114, 101, 107, 101, 121] : List UInt8).toArray))).Key).length c201), (vi ((F_impl_EpNew (x_c.Cur.N + 1) (derive x_c.Cur.Key (ByteArray.mk ([114, 101, 107, 101, 121] : List UInt8).toArray))).Seq)), (vi (((F_impl_EpNew (x_c.Cur.N + 1) (derive x_c.Cur.Key (ByteArray.mk ([114, 101, 107, 101, 121] : List UInt8).toArray))).Win).Top)), (vs a205 (((F_impl_EpNew (x_c.Cur.N + 1) (derive x_c.Cur.Key (ByteArray.mk ([114, 101, 107, 101, 121] : List UInt8).toArray))).Win).Bits).length c206), (vi (((F_impl_copyChan x_c).Cur).N)), (vs a50 (((F_impl_copyChan x_c).Cur).Key).length c51), (vi (((F_impl_copyChan x_c).Cur).Seq)), (vi ((((F_impl_copyChan x_c).Cur).Win).Top)), (vs a55 ((((F_impl_copyChan x_c).Cur).Win).Bits).length c56), (vb true), (vi (-1)), (vs a70 ((F_impl_copyChan x_c).Next).length c71)]) (vb true) rfl (rv_c [(vi ((F_impl_copyChan x_c).Role)), (vs a45 ((F_impl_copyChan x_c).Sn).length c46), (vi ((F_impl_EpNew (x_c.Cur.N + 1) (derive x_c.Cur.Key (ByteArray.mk ([114, 101, 107, 101, 121] : List UInt8).toArray))).N)), (vs a200 ((F_impl_EpNew (x_c.Cur.N + 1) (derive x_c.Cur.Key (ByteArray.mk ([114, 101, 107, 101, 121] : List UInt8).toArray))).Key).length c201), (vi ((F_impl_EpNew (x_c.Cur.N + 1) (derive x_c.Cur.Key (ByteArray.mk ([114, 101, 107, 101, 121] : List UInt8).toArray))).Seq)), (vi (((F_impl_EpNew (x_c.Cur.N + 1) (derive x_c.Cur.Key (ByteArray.mk ([114, 101, 107, 101, 121] : List UInt8).toArray))).Win).Top)), (vs a205 (((F_impl_EpNew (x_c.Cur.N + 1) (derive x_c.Cur.Key (ByteArray.mk ([114, 101, 107, 101, 121] : List UInt8).toArray))).Win).Bits).length c206), (vi (((F_impl_copyChan x_c).Cur).N)), (vs a50 (((F_impl_copyChan x_c).Cur).Key).length c51), (vi (((F_impl_copyChan x_c).Cur).Seq)), (vi ((((F_impl_copyChan x_c).Cur).Win).Top)), (vs a55 ((((F_impl_copyChan x_c).Cur).Win).Bits).length c56), (vb true), (vi (-1)), (vs a70 ((F_impl_copyChan x_c).Next).length c71)] rfl b219 isAgg_38 sizeOf_38) rfl ?_
  refine ⟨m221.keep0, ?_⟩
  have hF228 : F_impl_Turn x_c = ({ Role := (F_impl_copyChan x_c).Role, Sn := (F_impl_copyChan x_c).Sn, Cur := (F_impl_EpNew (x_c.Cur.N + 1) (derive x_c.Cur.Key (ByteArray.mk ([114, 101, 107, 101, 121] : List UInt8).toArray))), Old := ((F_impl_copyChan x_c).Cur), HasOld := true, Until := (-1), Next := (F_impl_copyChan x_c).Next : PChan }, true) := by simp only [F_impl_Turn, h90, h93, h95, cond_true, cond_false]
  rw [hF228]
  have zz20 := z7 k80 k83 k88 k112 k116 k120 k188
  exact ⟨_, _, _, _, _, _, _, _, _, _, _, _, rfl, (own_lo o222 (z2 k34 k40)), s48, (own_lo o223 (z10 k34 k40 k44 k80 k83 k88 k112 k116 k120 k188)), s203, (own_lo o224 (z10 k34 k40 k44 k80 k83 k88 k112 k116 k120 k188)), s208, (own_lo o225 (z2 k34 k40)), s53, (own_lo o226 (z2 k34 k40)), s58, (own_lo o227 (z2 k34 k40)), s73, ⟨⟨(Ap.lt o47 o202 zz20), ⟨(Ap.lt o47 o207 zz20), ⟨(ap75.1.1), ⟨(ap75.1.2.1), ⟨(ap75.1.2.2.2.2.1), trivial⟩⟩⟩⟩⟩, ⟨⟨(ap210.1.1), ⟨(Ap.lt o52 o202 zz20).symm, ⟨(Ap.lt o57 o202 zz20).symm, ⟨(Ap.lt o72 o202 zz20).symm, trivial⟩⟩⟩⟩, ⟨⟨(Ap.lt o52 o207 zz20).symm, ⟨(Ap.lt o57 o207 zz20).symm, ⟨(Ap.lt o72 o207 zz20).symm, trivial⟩⟩⟩, ⟨⟨(ap75.2.1.1), ⟨(ap75.2.1.2.2.2.1), trivial⟩⟩, ⟨⟨(ap75.2.2.1.2.2.1), trivial⟩, ⟨trivial, trivial⟩⟩⟩⟩⟩⟩⟩
end Go.Proofs.Ytafcngfnhhchjaa.K
