import Derived.Test.YtacefhmlgneegaaCore
import Derived.Test.YtacefhmlgneegaaProg
import Derived.Test.YtacefhmlgneegaaHeld
import Derived.Test.YtacefhmlgneegaaFun
import Derived.Test.YtacefhmlgneegaaFunZ
import Derived.Test.YtacefhmlgneegaaMark
import Derived.Test.YtacefhmlgneegaaCur
import Derived.Test.YtacefhmlgneegaaWt1
namespace Go.Proofs.Ytacefhmlgneegaa.K
open Go.RowKit
set_option linter.unusedVariables false
set_option linter.unusedSimpArgs false
set_option maxRecDepth 100000
set_option maxHeartbeats 4000000
theorem mR_35 {w : World} {x : List UInt8} {a1 : Option Addr} {c1 : Nat} (h1 : Rd w 1 (.slice a1 x.length c1) x.length (x.map bV)) (l1 : x.length ≤ 1073741824) : R_35 w (vs a1 x.length c1) x := ⟨_, _, rfl, h1, l1⟩
def R_61 (w : World) (v : Value) (x : (List Int)) : Prop := ∃ (a1 : Option Addr) (c1 : Nat), v = .slice a1 x.length c1 ∧ Rd w 1 (.slice a1 x.length c1) x.length (x.map iV) ∧ x.length ≤ 1073741824
theorem C_spec_DrawTimerSet (w0 : World) (v_x_code : Value) (x_code : List UInt8) (r_x_code : R_35 w0 v_x_code x_code)  : Fn Try.prog 48 #[v_x_code] w0 (fun v w' => ∃ x : (Int), Keep w0 w' ∧ O_3 w' w0.heap.size v x ∧ (x = 0 ∨ x = 1 ∨ x = 70 ∨ x = 1000000 ∨ x = 1000001 ∨ x = -1)) := by
 obtain ⟨a1, c2, rfl, r3, s4⟩ := r_x_code
 refine fn_of (n := 9) (l := [(vs a1 x_code.length c2), U, U, U, U, U, U, U, U]) Try.func48 rfl rfl (by kernel_rfl) rfl ?_
 refine sr ?_
 refine ag (vi 0) wN ?_
 refine nx ?_
 refine mv (vs a1 x_code.length c2) wN ?_
 refine cl wN (C_spec_l1New w0 _ x_code (mR_35 r3 s4)) ?_
 rintro _ w1 ⟨g7, k6, p8, rfl, hc16⟩
 obtain ⟨i9, h10, b11, r12, l13, p14, n15⟩ := hc16 _ _ rfl
 have m17 := (Ch.base w0).extk k6
 refine ag (vp g7 0) wN ?_
 refine nx ?_
 refine mv (vp g7 0) wN ?_
 refine wl_lit [(vi 0), (vi 1), (vi 70), (vi 1000000), (vi 1000001), (vi (-1))] wN rfl rfl slTy_61 (m := 6) rfl (by simp only [maxLen]; omega) (fun w => by kernel_rfl) ?_
 intro u18 w2 k19 o20
 obtain ⟨a21, c22, rfl⟩ := own_form o20
 have m23 := m17.extk k19
 have o25 : w2.ownsRow w1.heap.size 3 1 (.slice a21 (([0, 1, 70, 1000000, 1000001, (-1)] : List Int) : List Int).length c22) (([0, 1, 70, 1000000, 1000001, (-1)] : List Int) : List Int).length ((([0, 1, 70, 1000000, 1000001, (-1)] : List Int) : List Int).map iV) := o20
 have b26 := (b11.kp k19)
 refine cl wN (C_spec_l1Int w2 g7 a1 c2 x_code ⟨_, _, b26, (r3.from0 m23), s4, (by omega), (fun h0 z hz => Nat.ne_of_lt (Nat.lt_of_lt_of_le (rd_posB r3 h0 z hz) (Nat.le_trans (Nat.le_refl w0.heap.size) p8)))⟩ _ ([0, 1, 70, 1000000, 1000001, (-1)] : List Int) ⟨_, _, rfl, (Rd.of_own o25), (by simp), (fun _ z hz => by have h1 := (own_lt o25 z.block (by rw [hz]; rfl)).1; have h2 := Nat.lt_of_lt_of_le (Blk.lt b11) (Nat.le_refl w1.heap.size); omega)⟩ (by simp)) ?_
 rintro _ w3 ⟨x28, k27, ⟨i30, h31, b32, r33, l34, p35, n36⟩, rfl, q29⟩
 have m37 := m23.ext k27 (fun k hk => by subst hk; exact Nat.le_trans (Nat.le_refl w0.heap.size) p8)
 have q29m : x28 = 0 ∨ x28 = 1 ∨ x28 = 70 ∨ x28 = 1000000 ∨ x28 = 1000001 ∨ x28 = (-1) := by simpa only [List.mem_cons, List.not_mem_nil, or_false] using q29
 refine ag (vi (x28)) wN ?_
 refine wl_nil <| wq_then <| wc_ret ?_
 refine ret_1 (.inl rfl) (vi (x28)) rfl rfl ?_
 exact ⟨(x28), m37.keep0, rfl, (by assumption)⟩

def O_28 (w : World) (lo : Nat) (v : Value) (x : (PTimer)) : Prop := v = .agg #[.bool x.On, .int .i64 x.Due, .int .i64 x.Wait, .int .i64 x.Tries]
def F_impl_TimerSet (x_now : Int) : (PTimer) := bif (F_impl_within x_now 0 1000000) then ({ On := true, Due := (x_now + 1), Wait := 1, Tries := 1 : PTimer }) else ({ On := false, Due := 0, Wait := 0, Tries := 0 : PTimer })
theorem C_impl_TimerSet (w0 : World) (x_now : Int)  : Fn Try.prog 23 #[(vi x_now)] w0 (fun v w' => Keep w0 w' ∧ O_28 w' w0.heap.size v (F_impl_TimerSet x_now)) := by
 refine fn_of (n := 10) (l := [(vi x_now), U, U, U, U, U, U, U, U, U]) Try.func23 rfl rfl (by kernel_rfl) rfl ?_
 refine sr ?_
 refine al [(vb false), (vi 0), (vi 0), (vi 0)] wN zero_28 ?_
 intro g1 w1 p2 p3 k4 b5
 have m6 := (Ch.base w0).extk k4
 refine wl_nil <| wq_then <| wc_seq <| sr ?_
 refine mv (vi x_now) wN ?_
 refine cl wN (C_impl_within w1 x_now 0 1000000) ?_
 rintro _ w2 ⟨k7, rfl⟩
 have m8 := m6.extk k7
 refine pu (vb (!(F_impl_within x_now 0 1000000))) wN ?_
 refine wl_nil <| wq_then ?_
 rcases bf (F_impl_within x_now 0 1000000) with h9 | h9
 ·have q17 := impl_within_f h9
  refine ct (congrArg not h9) ?_
  refine sr ?_
  refine pu (va [(vb false), (vi 0), (vi 0), (vi 0)]) wN ?_
  have b18 := (b5.kp k7)
  refine st (va [(vb false), (vi 0), (vi 0), (vi 0)]) [(vb false), (vi 0), (vi 0), (vi 0)] [(vb false), (vi 0), (vi 0), (vi 0)] wN sizeOf_28 b18 ?_
  intro w3 k19 b20 z21
  have m22 := m8.ext k19 (fun k hk => by subst hk; exact Nat.le_trans (Nat.le_refl w0.heap.size) p2)
  refine wl_nil <| wq_then <| wc_ret <| wq_then_ret ?_
  refine ret_1 (.inl rfl) (va [(vb false), (vi 0), (vi 0), (vi 0)]) rfl (rv_c [(vb false), (vi 0), (vi 0), (vi 0)] rfl b20 isAgg_28 sizeOf_28) ?_
  refine ⟨m22.keep0, ?_⟩
  have hF23 : F_impl_TimerSet x_now = { On := false, Due := 0, Wait := 0, Tries := 0 : PTimer } := by simp only [F_impl_TimerSet, h9, cond_true, cond_false]
  rw [hF23]
  exact rfl
 have q10 := impl_within_t h9
 refine cf (congrArg not h9) ?_
 refine wc_skip <| wq_then <| sr ?_
 refine mv (vi x_now) wN ?_
 refine ar (x_now + 1) wN ?_
 refine pu (va [(vb true), (vi (x_now + 1)), (vi 1), (vi 1)]) wN ?_
 have b11 := (b5.kp k7)
 refine st (va [(vb true), (vi (x_now + 1)), (vi 1), (vi 1)]) [(vb true), (vi (x_now + 1)), (vi 1), (vi 1)] [(vb true), (vi (x_now + 1)), (vi 1), (vi 1)] wN sizeOf_28 b11 ?_
 intro w3 k12 b13 z14
 have m15 := m8.ext k12 (fun k hk => by subst hk; exact Nat.le_trans (Nat.le_refl w0.heap.size) p2)
 refine wl_nil <| wq_then <| wc_ret ?_
 refine ret_1 (.inl rfl) (va [(vb true), (vi (x_now + 1)), (vi 1), (vi 1)]) rfl (rv_c [(vb true), (vi (x_now + 1)), (vi 1), (vi 1)] rfl b13 isAgg_28 sizeOf_28) ?_
 refine ⟨m15.keep0, ?_⟩
 have hF16 : F_impl_TimerSet x_now = { On := true, Due := (x_now + 1), Wait := 1, Tries := 1 : PTimer } := by simp only [F_impl_TimerSet, h9, cond_true, cond_false]
 rw [hF16]
 exact rfl

def F_impl_SpanOf (x_n : Int) : (Int) := bif (F_impl_within x_n 1 5) then ((([1, 3, 7, 15, 23] : List Int).getD ((x_n - 1)).toNat 0)) else (0)
theorem C_impl_SpanOf (w0 : World) (x_n : Int)  : Fn Try.prog 16 #[(vi x_n)] w0 (fun v w' => Keep w0 w' ∧ O_3 w' w0.heap.size v (F_impl_SpanOf x_n)) := by
 refine fn_of (n := 11) (l := [(vi x_n), U, U, U, U, U, U, U, U, U, U]) Try.func16 rfl rfl (by kernel_rfl) rfl ?_
 refine sr ?_
 refine ag (vi 0) wN ?_
 refine wl_nil <| wq_then <| wc_seq <| sr ?_
 refine mv (vi x_n) wN ?_
 refine cl wN (C_impl_within w0 x_n 1 5) ?_
 rintro _ w1 ⟨k1, rfl⟩
 have m2 := (Ch.base w0).extk k1
 refine pu (vb (!(F_impl_within x_n 1 5))) wN ?_
 refine wl_nil <| wq_then ?_
 rcases bf (F_impl_within x_n 1 5) with h3 | h3
 ·have q14 := impl_within_f h3
  refine ct (congrArg not h3) ?_
  refine sr ?_
  refine ag (vi 0) wN ?_
  refine wl_nil <| wq_then <| wc_ret <| wq_then_ret ?_
  refine ret_1 (.inl rfl) (vi 0) rfl rfl ?_
  refine ⟨m2.keep0, ?_⟩
  have hF15 : F_impl_SpanOf x_n = 0 := by simp only [F_impl_SpanOf, h3, cond_true, cond_false]
  rw [hF15]
  exact rfl
 have q4 := impl_within_t h3
 refine cf (congrArg not h3) ?_
 refine wc_skip <| wq_then <| sr ?_
 refine wl_lit [(vi 1), (vi 3), (vi 7), (vi 15), (vi 23)] wN rfl rfl slTy_61 (m := 5) rfl (by simp only [maxLen]; omega) (fun w => by kernel_rfl) ?_
 intro u5 w2 k6 o7
 obtain ⟨a8, c9, rfl⟩ := own_form o7
 have m10 := m2.extk k6
 have o12 : w2.ownsRow w1.heap.size 3 1 (.slice a8 (([1, 3, 7, 15, 23] : List Int) : List Int).length c9) (([1, 3, 7, 15, 23] : List Int) : List Int).length ((([1, 3, 7, 15, 23] : List Int) : List Int).map iV) := o7
 refine mv (vi x_n) wN ?_
 refine ar (x_n - 1) wN ?_
 refine wl_index (v := (vs a8 ([1, 3, 7, 15, 23] : List Int).length c9)) wN (x_n - 1) rfl rfl rfl slTy_61 rfl rfl (Rd.of_own o12) (by first | omega | (simp only [List.length_cons, List.length_nil, List.length_replicate, List.length_append, List.length_take, List.length_set, List.length_map]; omega)) (by first | omega | (simp only [List.length_cons, List.length_nil, List.length_replicate, List.length_append, List.length_take, List.length_set, List.length_map]; omega)) ?_
 refine wl_loadE (iV (([1, 3, 7, 15, 23] : List Int).getD ((x_n - 1)).toNat 0)) wN rfl rfl rfl rfl isAgg_3 (Rd.of_own o12) (iget (by simp) (by first | omega | (simp only [List.length_cons, List.length_nil, List.length_replicate, List.length_append, List.length_take, List.length_set, List.length_map]; omega))) ?_
 refine ag (vi (([1, 3, 7, 15, 23] : List Int).getD ((x_n - 1)).toNat 0)) wN ?_
 refine wl_nil <| wq_then <| wc_ret ?_
 refine ret_1 (.inl rfl) (vi (([1, 3, 7, 15, 23] : List Int).getD ((x_n - 1)).toNat 0)) rfl rfl ?_
 refine ⟨m10.keep0, ?_⟩
 have hF13 : F_impl_SpanOf x_n = (([1, 3, 7, 15, 23] : List Int).getD ((x_n - 1)).toNat 0) := by simp only [F_impl_SpanOf, h3, cond_true, cond_false]
 rw [hF13]
 exact rfl
theorem spanOf_b (k : Int) : 0 ≤ F_impl_SpanOf k ∧ F_impl_SpanOf k ≤ 23 := by
  simp only [F_impl_SpanOf, cond_eq_ite]
  split
  · rcases h : (k - 1).toNat with _ | _ | _ | _ | _ | n <;> simp [List.getD_eq_getElem?_getD]
  · omega

theorem mQ_35 {w : World} {x : List UInt8} {a1 : Option Addr} {c1 : Nat} (h1 : Rd w 1 (.slice a1 x.length c1) x.length (x.map bV)) (l1 : x.length ≤ 9223372036854775807) : Q_35 w (vs a1 x.length c1) x := ⟨_, _, rfl, h1, l1⟩
def tmS (now : Int) (i : Nat) (t : PTimer) (k : Int) : Option (PTimer × Int) :=
  bif decide (k ≤ 5) && decide (((i : Nat) : Int) = F_impl_SpanOf k) && decide (now + ((i : Nat) : Int) ≤ 1000000) then
    (bif decide ((F_impl_TimerNext t (now + ((i : Nat) : Int))).2 = (bif decide (k = 5) then 2 else 1)) && F_impl_TimerOk (F_impl_TimerNext t (now + ((i : Nat) : Int))).1 then some ((F_impl_TimerNext t (now + ((i : Nat) : Int))).1, k + 1) else none)
  else (bif decide ((F_impl_TimerNext t (now + ((i : Nat) : Int))).2 = 0) && F_impl_TimerOk (F_impl_TimerNext t (now + ((i : Nat) : Int))).1 then some ((F_impl_TimerNext t (now + ((i : Nat) : Int))).1, k) else none)
def tmF (now : Int) : Nat → Nat → PTimer → Int → Bool
  | 0, _, t, _ => (t.On == decide (1000000 < now + F_impl_SpanOf 5))
  | f + 1, i, t, k => match tmS now i t k with
    | some p => tmF now f (i + 1) p.1 p.2
    | none => false
def tmE (now : Int) : Bool := bif (F_impl_TimerSet now).On then false else F_impl_TimerOk (F_impl_TimerSet now)
def tmLaw (x_code : List UInt8) (now : Int) : Bool := bif F_laws_big x_code then true else bif decide (now < 0) then tmE now else bif decide (1000000 < now) then tmE now else tmF now 30 1 (F_impl_TimerSet now) 1
theorem tm_next {now : Int} {i f : Nat} {t t0 t' : PTimer} {k k' : Int} (h : tmF now 30 1 t0 1 = tmF now f i t k) (hf : f = 31 - i) (hi : i ≤ 30) (hs : tmS now i t k = some (t', k')) : tmF now 30 1 t0 1 = tmF now (31 - (i + 1)) (i + 1) t' k' := by
  rw [h, hf, show 31 - i = (31 - (i + 1)) + 1 by omega, tmF, hs]
theorem tm_no {now : Int} {i f : Nat} {t t0 : PTimer} {k : Int} (h : tmF now 30 1 t0 1 = tmF now f i t k) (hf : f = 31 - i) (hi : i ≤ 30) (hs : tmS now i t k = none) : tmF now 30 1 t0 1 = false := by
  rw [h, hf, show 31 - i = (31 - (i + 1)) + 1 by omega, tmF, hs]
theorem tm_end {now : Int} {i f : Nat} {t t0 : PTimer} {k : Int} (h : tmF now 30 1 t0 1 = tmF now f i t k) (hf : f = 31 - i) (hi : 30 < i) : tmF now 30 1 t0 1 = (t.On == decide (1000000 < now + F_impl_SpanOf 5)) := by
  rw [h, hf, show 31 - i = 0 by omega, tmF]
theorem C_laws_FnTimers (w0 : World) (v_x_code : Value) (x_code : List UInt8) (r_x_code : Q_35 w0 v_x_code x_code)  : Fn Try.prog 13 #[v_x_code] w0 (fun v w' => ∃ (d0 : (Int)), Keep w0 w' ∧ (d0 = 0 ∨ d0 = 1 ∨ d0 = 70 ∨ d0 = 1000000 ∨ d0 = 1000001 ∨ d0 = -1) ∧ v = vb (tmLaw x_code d0)) := by
 obtain ⟨a1, c2, rfl, r3, s4⟩ := r_x_code
 refine fn_of (n := 75) (l := [(vs a1 x_code.length c2), U, U, U, U, U, U, U, U, U, U, U, U, U, U, U, U, U, U, U, U, U, U, U, U, U, U, U, U, U, U, U, U, U, U, U, U, U, U, U, U, U, U, U, U, U, U, U, U, U, U, U, U, U, U, U, U, U, U, U, U, U, U, U, U, U, U, U, U, U, U, U, U, U, U]) Try.func13 rfl rfl (by kernel_rfl) rfl ?_
 refine sr ?_
 refine ag (vb false) wN ?_
 refine wl_nil <| wq_then <| wc_seq <| sr ?_
 refine mv (vs a1 x_code.length c2) wN ?_
 refine cl wN (C_laws_big w0 _ x_code (mQ_35 r3 s4)) ?_
 rintro _ w1 ⟨k6, rfl⟩
 have m7 := (Ch.base w0).extk k6
 refine wl_nil <| wq_then ?_
 rcases bt (F_laws_big x_code) with h8 | h8
 ·refine ct h8 ?_
  refine sr ?_
  refine ag (vb true) wN ?_
  refine wl_nil <| wq_then <| wc_ret <| wq_then_ret ?_
  refine ret_1 (.inl rfl) (vb true) rfl rfl ?_
  have hF10 : tmLaw x_code (0) = true := by simp only [tmLaw, tmE, h8, cond_true, cond_false]; try rfl
  exact ⟨(0), m7.keep0, (by first | trivial | decide | (simp; done)), by rw [hF10]⟩
 have q11 := big_f h8
 refine cf h8 ?_
 refine wc_skip <| wq_then <| sr ?_
 refine mv (vs a1 x_code.length c2) wN ?_
 refine cl wN (C_spec_DrawTimerSet w1 _ x_code (mR_35 (r3.from0 m7) (by omega))) ?_
 rintro _ w2 ⟨d0, k12, rfl, q13⟩
 have m14 := m7.extk k12
 refine ag (vi (d0)) wN ?_
 refine nx ?_
 refine mv (vi (d0)) wN ?_
 refine cl wN (C_impl_TimerSet w2 (d0)) ?_
 rintro _ w3 ⟨k15, rfl⟩
 have m16 := m14.extk k15
 refine al [(vb false), (vi 0), (vi 0), (vi 0)] wN zero_28 ?_
 intro g17 w4 p18 p19 k20 b21
 have m22 := m16.extk k20
 refine st (va (L_28 (F_impl_TimerSet (d0)))) (L_28 (F_impl_TimerSet (d0))) (L_28 (F_impl_TimerSet (d0))) wN sizeOf_28 b21 ?_
 intro w5 k23 b24 z25
 have m26 := m22.ext k23 (fun k hk => by subst hk; exact Nat.le_trans (t3 k6.size k12.size k15.size) p18)
 refine wl_nil <| wq_then <| wc_seq <| sr ?_
 refine mv (vi (d0)) wN ?_
 refine pu (vb (decide ((d0) < 0))) wN ?_
 refine mv (vb (decide ((d0) < 0))) wN ?_
 rcases bt (decide ((d0) < 0)) with h27 | h27
 ·have q28 := of_decide_eq_true h27
  refine sk h27 ?_
  refine sk h27 ?_
  refine pk (vb true) wN h27 ?_
  refine wl_nil <| wq_then ?_
  refine ct (Eq.refl true) ?_
  refine sr ?_
  refine pu (vp g17 0) wN ?_
  refine ld (vb ((F_impl_TimerSet (d0)).On)) wN isAgg_4 b24 ?_
  refine pu (vb (!((F_impl_TimerSet (d0)).On))) wN ?_
  refine mv (vb (!((F_impl_TimerSet (d0)).On))) wN ?_
  rcases bt ((F_impl_TimerSet (d0)).On) with h29 | h29
  ·refine sk (congrArg not h29) ?_
   refine sk (congrArg not h29) ?_
   refine pf (vb false) wN (congrArg not h29) ?_
   refine ag (vb false) wN ?_
   refine wl_nil <| wq_then <| wc_ret <| wq_then_ret ?_
   refine ret_1 (.inl rfl) (vb false) rfl rfl ?_
   have hF31 : tmLaw x_code d0 = false := by simp only [tmLaw, tmE, h8, h27, h29, cond_true, cond_false]; try rfl
   exact ⟨d0, m26.keep0, q13, by rw [hF31]⟩
  refine lN (L_28 (F_impl_TimerSet (d0))) (wS (congrArg not h29)) isAgg_28 sizeOf_28 b24 ?_
  refine cl (wS (congrArg not h29)) (C_impl_TimerOk w5 _ (F_impl_TimerSet (d0)) (mR_28)) ?_
  rintro _ w6 ⟨k33, rfl⟩
  have m34 := m26.extk k33
  refine pk (vb (F_impl_TimerOk (F_impl_TimerSet (d0)))) wN (congrArg not h29) ?_
  refine ag (vb (F_impl_TimerOk (F_impl_TimerSet (d0)))) wN ?_
  refine wl_nil <| wq_then <| wc_ret <| wq_then_ret ?_
  refine ret_1 (.inl rfl) (vb (F_impl_TimerOk (F_impl_TimerSet (d0)))) rfl rfl ?_
  have hF35 : tmLaw x_code d0 = (F_impl_TimerOk (F_impl_TimerSet (d0))) := by simp only [tmLaw, tmE, h8, h27, h29, cond_true, cond_false]; try rfl
  exact ⟨d0, m34.keep0, q13, by rw [hF35]⟩
 have q36 := of_decide_eq_false h27
 refine mv (vi (d0)) (wS h27) ?_
 refine pu (vb (decide (1000000 < (d0)))) (wS h27) ?_
 refine pf (vb (decide (1000000 < (d0)))) wN h27 ?_
 refine wl_nil <| wq_then ?_
 rcases bt (decide (1000000 < (d0))) with h37 | h37
 ·have q38 := of_decide_eq_true h37
  refine ct h37 ?_
  refine sr ?_
  refine pu (vp g17 0) wN ?_
  refine ld (vb ((F_impl_TimerSet (d0)).On)) wN isAgg_4 b24 ?_
  refine pu (vb (!((F_impl_TimerSet (d0)).On))) wN ?_
  refine mv (vb (!((F_impl_TimerSet (d0)).On))) wN ?_
  rcases bt ((F_impl_TimerSet (d0)).On) with h39 | h39
  ·refine sk (congrArg not h39) ?_
   refine sk (congrArg not h39) ?_
   refine pf (vb false) wN (congrArg not h39) ?_
   refine ag (vb false) wN ?_
   refine wl_nil <| wq_then <| wc_ret <| wq_then_ret ?_
   refine ret_1 (.inl rfl) (vb false) rfl rfl ?_
   have hF41 : tmLaw x_code d0 = false := by simp only [tmLaw, tmE, h8, h27, h37, h39, cond_true, cond_false]; try rfl
   exact ⟨d0, m26.keep0, q13, by rw [hF41]⟩
  refine lN (L_28 (F_impl_TimerSet (d0))) (wS (congrArg not h39)) isAgg_28 sizeOf_28 b24 ?_
  refine cl (wS (congrArg not h39)) (C_impl_TimerOk w5 _ (F_impl_TimerSet (d0)) (mR_28)) ?_
  rintro _ w6 ⟨k43, rfl⟩
  have m44 := m26.extk k43
  refine pk (vb (F_impl_TimerOk (F_impl_TimerSet (d0)))) wN (congrArg not h39) ?_
  refine ag (vb (F_impl_TimerOk (F_impl_TimerSet (d0)))) wN ?_
  refine wl_nil <| wq_then <| wc_ret <| wq_then_ret ?_
  refine ret_1 (.inl rfl) (vb (F_impl_TimerOk (F_impl_TimerSet (d0)))) rfl rfl ?_
  have hF45 : tmLaw x_code d0 = (F_impl_TimerOk (F_impl_TimerSet (d0))) := by simp only [tmLaw, tmE, h8, h27, h37, h39, cond_true, cond_false]; try rfl
  exact ⟨d0, m44.keep0, q13, by rw [hF45]⟩
 have q46 := of_decide_eq_false h37
 refine cf h37 ?_
 refine wc_skip <| wq_then <| sr ?_
 refine ag (vi 1) wN ?_
 refine wl_nil <| wq_then <| wc_seq <| sr ?_
 refine ag (vi 1) wN ?_
 refine wl_nil <| wq_then <| wc_block ?_
 refine wc_loopQ (fun e => [e 0, e 1, e 2, (vi (d0)), (vp g17 0), (vi 1), (vi ((1 : Nat) : Int)), e 7, e 8, e 9, e 10, e 11, e 12, e 13, e 14, e 15, e 16, e 17, e 18, e 19, e 20, e 21, e 22, e 23, e 24, e 25, e 26, e 27, e 28, e 29, e 30, e 31, e 32, e 33, e 34, e 35, e 36, e 37, e 38, e 39, e 40, e 41, e 42, e 43, e 44, e 45, e 46, e 47, e 48, e 49, e 50, e 51, e 52, e 53, e 54, e 55, e 56, e 57, e 58, e 59, e 60, e 61, e 62, e 63, e 64, e 65, e 66, e 67, U, U, U, U, U, U, U]) rfl ⟨rfl, rfl, rfl, rfl, rfl, rfl, (congrArg (Value.int .i64) (show (1 : Int) = ((1 : Nat) : Int) by omega)), rfl, rfl, rfl, rfl, rfl, rfl, rfl, rfl, rfl, rfl, rfl, rfl, rfl, rfl, rfl, rfl, rfl, rfl, rfl, rfl, rfl, rfl, rfl, rfl, rfl, rfl, rfl, rfl, rfl, rfl, rfl, rfl, rfl, rfl, rfl, rfl, rfl, rfl, rfl, rfl, rfl, rfl, rfl, rfl, rfl, rfl, rfl, rfl, rfl, rfl, rfl, rfl, rfl, rfl, rfl, rfl, rfl, rfl, rfl, rfl, rfl, rfl, rfl, rfl, rfl, rfl, rfl, rfl, trivial⟩ (fun e' w' => ∃ (i : Nat) (t : PTimer) (q : Int) (u47 : Nat → Value), e' = lst [(u47 0), (u47 1), (u47 2), (vi (d0)), (vp g17 0), (vi q), (vi ((i : Nat) : Int)), (u47 3), (u47 4), (u47 5), (u47 6), (u47 7), (u47 8), (u47 9), (u47 10), (u47 11), (u47 12), (u47 13), (u47 14), (u47 15), (u47 16), (u47 17), (u47 18), (u47 19), (u47 20), (u47 21), (u47 22), (u47 23), (u47 24), (u47 25), (u47 26), (u47 27), (u47 28), (u47 29), (u47 30), (u47 31), (u47 32), (u47 33), (u47 34), (u47 35), (u47 36), (u47 37), (u47 38), (u47 39), (u47 40), (u47 41), (u47 42), (u47 43), (u47 44), (u47 45), (u47 46), (u47 47), (u47 48), (u47 49), (u47 50), (u47 51), (u47 52), (u47 53), (u47 54), (u47 55), (u47 56), (u47 57), (u47 58), (u47 59), (u47 60), (u47 61), (u47 62), (u47 63), U, U, U, U, U, U, U] ∧ Ch (fun k => w0.heap.size ≤ k) w0 w' ∧ Ch (fun k => w3.heap.size ≤ k) w5 w' ∧ i ≤ 31 ∧ tmF d0 30 1 (F_impl_TimerSet d0) 1 = tmF d0 (31 - i) i t q ∧ (1 ≤ q ∧ q ≤ 100) ∧ q ≤ ((i : Nat) : Int) ∧ Blk w' g17 28 [(vb t.On), (vi t.Due), (vi t.Wait), (vi t.Tries)]) (fun e' _ => (40 - (intOf (e' 6))).toNat) ?_ ?_
 ·exact fun u => ⟨1, (F_impl_TimerSet (d0)), 1, (unL [u 0, u 1, u 2, u 7, u 8, u 9, u 10, u 11, u 12, u 13, u 14, u 15, u 16, u 17, u 18, u 19, u 20, u 21, u 22, u 23, u 24, u 25, u 26, u 27, u 28, u 29, u 30, u 31, u 32, u 33, u 34, u 35, u 36, u 37, u 38, u 39, u 40, u 41, u 42, u 43, u 44, u 45, u 46, u 47, u 48, u 49, u 50, u 51, u 52, u 53, u 54, u 55, u 56, u 57, u 58, u 59, u 60, u 61, u 62, u 63, u 64, u 65, u 66, u 67]), rfl, m26, (Ch.refl (fun k => w3.heap.size ≤ k) w5), (by omega), (by first | rfl | exact tm_next hi1 rfl (by omega) (by simp only [tmS, h8, h27, h37, cond_true, cond_false, Bool.and_true, Bool.and_false, Bool.true_and, Bool.false_and]; try rfl)), (by omega), (by omega), b24⟩
 ·rintro _ w6 ⟨i, t, q, u47, rfl, m48, k49, hi0, hi1, hi2, hi3, hbx4⟩
  refine wc_seq <| sr ?_
  refine mv (vi ((i : Nat) : Int)) wN ?_
  refine pu (vb (decide (((i : Nat) : Int) ≤ 30))) wN ?_
  refine wl_nil <| wq_then ?_
  rcases bf (decide (((i : Nat) : Int) ≤ 30)) with h54 | h54
  ·have q170 := of_decide_eq_false h54
   refine cf h54 ?_
   refine wc_exit <| wq_then_exit <| wq_then_exit <| wq_blk_exit <| wq_then <| wc_seq ?_
   refine wc_drawT ([(68, [], [], (fun _ v _ => v = (vp g17 0))), (69, [], [0], (fun _ v _ => v = (vb t.On))), (70, [], [], (fun _ v _ => v = (vi (d0)))), (71, [], [], (fun _ v w => v = .int .i64 (F_impl_SpanOf 5))), (72, [], [2, 3], (fun _ v _ => v = (vi ((d0) + (F_impl_SpanOf 5))))), (73, [], [2, 3, 4], (fun _ v _ => v = (vb (decide (1000000 < ((d0) + (F_impl_SpanOf 5)))))))] : GV) (fun _ w' => Keep w6 w') [] mixed rfl (by kernel_rfl) (by kernel_rfl) ?_ (fun _ _ h => h) (fun _ _ _ _ h _ k => h.trans k) trivial ?_ ?_ ?_
   ·exact ⟨(fun _ _ _ _ h _ => h), (fun _ _ _ _ _ h => h), ⟨(fun _ _ _ _ h _ => h), (fun _ _ _ _ _ h => h), ⟨(fun _ _ _ _ h _ => h), (fun _ _ _ _ _ h => h), ⟨(fun _ _ _ _ h _ => h), (fun _ _ _ _ _ h => h), ⟨(fun _ _ _ _ h _ => h), (fun _ _ _ _ _ h => h), ⟨(fun _ _ _ _ h _ => h), (fun _ _ _ _ _ h => h), trivial⟩⟩⟩⟩⟩⟩
   ·exact trivial
   ·refine ⟨?_, ⟨?_, ⟨?_, ⟨?_, ⟨?_, ⟨?_, trivial⟩⟩⟩⟩⟩⟩
    ·intro _ w7 k174 _
     have m175 := m48.extk k174
     rintro _ _ _ _ _ _
     show WL _ _ _ _ _ _ _
     refine pu (vp g17 0) wN ?_
     exact wl_finT (Ch.refl _ _) rfl
    ·intro _ w7 k176 _
     have m177 := m48.extk k176
     rintro _ rfl _ _ _ _ _
     show WL _ _ _ _ _ _ _
     have b178 := (hbx4.kp k176)
     refine ld (vb t.On) wN isAgg_4 b178 ?_
     exact wl_finT (Ch.refl _ _) rfl
    ·intro _ w7 k179 _
     have m180 := m48.extk k179
     rintro _ _ _ _ _ _
     show WL _ _ _ _ _ _ _
     refine mv (vi (d0)) wN ?_
     exact wl_finT (Ch.refl _ _) rfl
    ·intro _ w7 k181 _
     have m182 := m48.extk k181
     rintro _ _ _ _ _ _
     show WL _ _ _ _ _ _ _
     refine cl wN (C_impl_SpanOf w7 5) ?_
     rintro _ w8 ⟨k183, rfl⟩
     have m184 := m182.extk k183
     have q185 := spanOf_b 5
     exact wl_finT k183 rfl
    ·intro _ w7 k186 _
     have m187 := m48.extk k186
     rintro _ _ _ rfl _ rfl
     have q188 := spanOf_b 5
     rintro _ _
     show WL _ _ _ _ _ _ _
     refine ar ((d0) + (F_impl_SpanOf 5)) wN ?_
     exact wl_finT (Ch.refl _ _) rfl
    ·intro _ w7 k189 _
     have m190 := m48.extk k189
     rintro _ _ _ rfl _ rfl
     have q191 := spanOf_b 5
     rintro _ rfl _
     show WL _ _ _ _ _ _ _
     refine pu (vb (decide (1000000 < ((d0) + (F_impl_SpanOf 5))))) wN ?_
     exact wl_finT (Ch.refl _ _) rfl
   ·intro _ w7 k192
    have m193 := m48.extk k192
    rintro _ rfl _ rfl _ rfl _ rfl
    have q195 := spanOf_b 5
    rintro _ rfl _ rfl
    show WL _ _ _ _ _ _ _
    refine pu (vb (t.On == (decide (1000000 < ((d0) + (F_impl_SpanOf 5)))))) wN ?_
    refine ag (vb (t.On == (decide (1000000 < ((d0) + (F_impl_SpanOf 5)))))) wN ?_
    refine wl_nil <| wq_then <| wc_ret ?_
    refine ret_1 (.inl rfl) (vb (t.On == (decide (1000000 < ((d0) + (F_impl_SpanOf 5)))))) rfl rfl ?_
    have hF196 : tmLaw x_code d0 = (t.On == (decide (1000000 < ((d0) + (F_impl_SpanOf 5))))) := by (simp only [tmLaw, h8, h27, h37, h54, cond_true, cond_false]; exact tm_end hi1 rfl (by omega))
    exact ⟨d0, m193.keep0, q13, by rw [hF196]⟩
  have q55 := of_decide_eq_true h54
  refine ct h54 ?_
  refine wc_skip <| wq_then <| wc_seq <| wc_block <| sr ?_
  refine lN (L_28 t) wN isAgg_28 sizeOf_28 hbx4 ?_
  refine mv (vi (d0)) wN ?_
  refine mv (vi ((i : Nat) : Int)) wN ?_
  refine ar ((d0) + ((i : Nat) : Int)) wN ?_
  obtain ⟨y57, e58⟩ : ∃ y, F_impl_TimerNext t ((d0) + ((i : Nat) : Int)) = y := ⟨_, rfl⟩
  have hc56 := C_impl_TimerNext w6 _ t (mR_28) ((d0) + ((i : Nat) : Int))
  rw [e58] at hc56
  refine cl wN hc56 ?_
  rintro _ w7 ⟨k59, rfl⟩
  have m60 := m48.extk k59
  refine mv (.tuple #[(va (L_28 ((y57).1))), (vi ((y57).2))]) wN ?_
  refine pu (va (L_28 ((y57).1))) wN ?_
  refine pu (vi ((y57).2)) wN ?_
  refine al [(vb false), (vi 0), (vi 0), (vi 0)] wN zero_28 ?_
  intro g61 w8 p62 p63 k64 b65
  have m66 := m60.extk k64
  refine st (va (L_28 ((y57).1))) (L_28 ((y57).1)) (L_28 ((y57).1)) wN sizeOf_28 b65 ?_
  intro w9 k67 b68 z69
  have m70 := m66.ext k67 (fun k hk => by subst hk; exact Nat.le_trans (t7 k6.size k12.size k15.size k20.size k23.size k49.size k59.size) p62)
  refine ag (vi ((y57).2)) wN ?_
  refine nx ?_
  refine ag (vi 0) wN ?_
  refine wl_nil <| wq_then <| wc_seq <| sr ?_
  refine mv (vi q) wN ?_
  refine pu (vb (decide (q ≤ 5))) wN ?_
  refine mv (vb (decide (q ≤ 5))) wN ?_
  rcases bf (decide (q ≤ 5)) with h71 | h71
  ·have q153 := of_decide_eq_false h71
   refine sk h71 ?_
   refine sk h71 ?_
   refine sk h71 ?_
   refine sk h71 ?_
   refine pf (vb false) wN h71 ?_
   refine mv (vb false) wN ?_
   refine sk (Eq.refl false) ?_
   refine sk (Eq.refl false) ?_
   refine sk (Eq.refl false) ?_
   refine sk (Eq.refl false) ?_
   refine pf (vb false) wN (Eq.refl false) ?_
   refine wl_nil <| wq_then ?_
   refine cf (Eq.refl false) ?_
   refine wc_skip <| wq_then <| wc_seq <| sr ?_
   refine mv (vi ((y57).2)) wN ?_
   refine mv (vi 0) wN ?_
   refine pu (vb (!(decide ((y57).2 = 0)))) wN ?_
   refine mv (vb (!(decide ((y57).2 = 0)))) wN ?_
   rcases bf (decide ((y57).2 = 0)) with h154 | h154
   ·have q168 := of_decide_eq_false h154
    refine sk (congrArg not h154) ?_
    refine sk (congrArg not h154) ?_
    refine sk (congrArg not h154) ?_
    refine pk (vb true) wN (congrArg not h154) ?_
    refine wl_nil <| wq_then ?_
    refine ct (Eq.refl true) ?_
    refine sr ?_
    refine ag (vb false) wN ?_
    refine wl_nil <| wq_then <| wc_ret <| wq_then_ret <| wq_blk_ret <| wq_then_ret <| wq_then_ret <| wq_blk_ret <| wq_then_ret ?_
    refine ret_1 (.inl rfl) (vb false) rfl rfl ?_
    have hF169 : tmLaw x_code d0 = false := by (simp only [tmLaw, h8, h27, h37, h54, e58, h71, h154, cond_true, cond_false]; exact tm_no hi1 rfl (by omega) (by simp only [tmS, h8, h27, h37, h54, e58, h71, h154, cond_true, cond_false, Bool.and_true, Bool.and_false, Bool.true_and, Bool.false_and]; try rfl))
    exact ⟨d0, m70.keep0, q13, by rw [hF169]⟩
   have q155 := of_decide_eq_true h154
   refine lN (L_28 ((y57).1)) (wS (congrArg not h154)) isAgg_28 sizeOf_28 b68 ?_
   refine cl (wS (congrArg not h154)) (C_impl_TimerOk w9 _ ((y57).1) (mR_28)) ?_
   rintro _ w10 ⟨k156, rfl⟩
   have m157 := m70.extk k156
   refine pu (vb (!(F_impl_TimerOk ((y57).1)))) (wS (congrArg not h154)) ?_
   refine pf (vb (!(F_impl_TimerOk ((y57).1)))) wN (congrArg not h154) ?_
   refine wl_nil <| wq_then ?_
   rcases bf (F_impl_TimerOk ((y57).1)) with h158 | h158
   ·refine ct (congrArg not h158) ?_
    refine sr ?_
    refine ag (vb false) wN ?_
    refine wl_nil <| wq_then <| wc_ret <| wq_then_ret <| wq_blk_ret <| wq_then_ret <| wq_then_ret <| wq_blk_ret <| wq_then_ret ?_
    refine ret_1 (.inl rfl) (vb false) rfl rfl ?_
    have hF167 : tmLaw x_code d0 = false := by (simp only [tmLaw, h8, h27, h37, h54, e58, h71, h154, h158, cond_true, cond_false]; exact tm_no hi1 rfl (by omega) (by simp only [tmS, h8, h27, h37, h54, e58, h71, h154, h158, cond_true, cond_false, Bool.and_true, Bool.and_false, Bool.true_and, Bool.false_and]; try rfl))
    exact ⟨d0, m157.keep0, q13, by rw [hF167]⟩
   refine cf (congrArg not h158) ?_
   refine wc_skip <| wq_then <| wc_region ?_
   have b160 := (b68.kp k156)
   refine lN (L_28 ((y57).1)) wN isAgg_28 sizeOf_28 b160 ?_
   have b161 := ((((hbx4.kp k59).kp k64).ch k67 (Nat.ne_of_lt (Nat.lt_of_lt_of_le p19 (Nat.le_trans (t3 k23.size k49.size k59.size) p62)))).kp k156)
   refine st (va (L_28 ((y57).1))) (L_28 ((y57).1)) (L_28 ((y57).1)) wN sizeOf_28 b161 ?_
   intro w11 k162 b163 z164
   have m165 := m157.ext k162 (fun k hk => by subst hk; exact Nat.le_trans (t3 k6.size k12.size k15.size) p18)
   refine wl_nil <| wq_blk_normal <| wq_then <| wc_region ?_
   refine mv (vi ((i : Nat) : Int)) wN ?_
   refine ar (((i : Nat) : Int) + 1) wN ?_
   refine ag (vi (((i : Nat) : Int) + 1)) wN ?_
   refine wl_nil ?_
   refine wq_loopQ (w0 := w6) (fun e => [e 0, e 1, e 2, (vi (d0)), (vp g17 0), (vi q), (vi (((i + 1) : Nat) : Int)), e 7, e 8, e 9, e 10, e 11, e 12, e 13, e 14, e 15, e 16, e 17, e 18, e 19, e 20, e 21, e 22, e 23, e 24, e 25, e 26, e 27, e 28, e 29, e 30, e 31, e 32, e 33, e 34, e 35, e 36, e 37, e 38, e 39, e 40, e 41, e 42, e 43, e 44, e 45, e 46, e 47, e 48, e 49, e 50, e 51, e 52, e 53, e 54, e 55, e 56, e 57, e 58, e 59, e 60, e 61, e 62, e 63, e 64, e 65, e 66, e 67, U, U, U, U, U, U, U]) rfl ?_ ?_ ?_
   · exact ⟨rfl, rfl, rfl, rfl, rfl, rfl, (congrArg (Value.int .i64) (show ((((i : Nat) : Int) + 1) : Int) = (((i + 1) : Nat) : Int) by omega)), rfl, rfl, rfl, rfl, rfl, rfl, rfl, rfl, rfl, rfl, rfl, rfl, rfl, rfl, rfl, rfl, rfl, rfl, rfl, rfl, rfl, rfl, rfl, rfl, rfl, rfl, rfl, rfl, rfl, rfl, rfl, rfl, rfl, rfl, rfl, rfl, rfl, rfl, rfl, rfl, rfl, rfl, rfl, rfl, rfl, rfl, rfl, rfl, rfl, rfl, rfl, rfl, rfl, rfl, rfl, rfl, rfl, rfl, rfl, rfl, rfl, rfl, rfl, rfl, rfl, rfl, rfl, rfl, trivial⟩
   · exact fun u => ⟨(i + 1), ((y57).1), q, (unL [u 0, u 1, u 2, u 7, u 8, u 9, u 10, u 11, u 12, u 13, u 14, u 15, u 16, u 17, u 18, u 19, u 20, u 21, u 22, u 23, u 24, u 25, u 26, u 27, u 28, u 29, u 30, u 31, u 32, u 33, u 34, u 35, u 36, u 37, u 38, u 39, u 40, u 41, u 42, u 43, u 44, u 45, u 46, u 47, u 48, u 49, u 50, u 51, u 52, u 53, u 54, u 55, u 56, u 57, u 58, u 59, u 60, u 61, u 62, u 63, u 64, u 65, u 66, u 67]), rfl, m165, (((((((Ch.refl (fun k => w3.heap.size ≤ k) w5).ext k49 (fun k hk => Nat.le_trans (Nat.le_refl w3.heap.size) hk)).extk k59).extk k64).ext k67 (fun k hk => by subst hk; exact Nat.le_trans (t4 k20.size k23.size k49.size k59.size) p62)).extk k156).ext k162 (fun k hk => by subst hk; exact Nat.le_trans (Nat.le_refl w3.heap.size) p18)), (by omega), (by first | rfl | exact tm_next hi1 rfl (by omega) (by simp only [tmS, h8, h27, h37, h54, e58, h71, h154, h158, cond_true, cond_false, Bool.and_true, Bool.and_false, Bool.true_and, Bool.false_and]; try rfl)), (by omega), (by omega), b163⟩
   · show (40 - (((i + 1) : Nat) : Int)).toNat < (40 - ((i : Nat) : Int)).toNat; omega
  have q72 := of_decide_eq_true h71
  refine mv (vi ((i : Nat) : Int)) (wS h71) ?_
  refine mv (vi q) (wS h71) ?_
  refine cl (wS h71) (C_impl_SpanOf w9 q) ?_
  rintro _ w10 ⟨k73, rfl⟩
  have m74 := m70.extk k73
  have q75 := spanOf_b q
  refine pu (vb (decide (((i : Nat) : Int) = (F_impl_SpanOf q)))) (wS h71) ?_
  refine pk (vb (decide (((i : Nat) : Int) = (F_impl_SpanOf q)))) wN h71 ?_
  refine mv (vb (decide (((i : Nat) : Int) = (F_impl_SpanOf q)))) wN ?_
  rcases bf (decide (((i : Nat) : Int) = (F_impl_SpanOf q))) with h76 | h76
  ·have q135 := of_decide_eq_false h76
   refine sk h76 ?_
   refine sk h76 ?_
   refine sk h76 ?_
   refine sk h76 ?_
   refine pf (vb false) wN h76 ?_
   refine wl_nil <| wq_then ?_
   refine cf (Eq.refl false) ?_
   refine wc_skip <| wq_then <| wc_seq <| sr ?_
   refine mv (vi ((y57).2)) wN ?_
   refine mv (vi 0) wN ?_
   refine pu (vb (!(decide ((y57).2 = 0)))) wN ?_
   refine mv (vb (!(decide ((y57).2 = 0)))) wN ?_
   rcases bf (decide ((y57).2 = 0)) with h136 | h136
   ·have q151 := of_decide_eq_false h136
    refine sk (congrArg not h136) ?_
    refine sk (congrArg not h136) ?_
    refine sk (congrArg not h136) ?_
    refine pk (vb true) wN (congrArg not h136) ?_
    refine wl_nil <| wq_then ?_
    refine ct (Eq.refl true) ?_
    refine sr ?_
    refine ag (vb false) wN ?_
    refine wl_nil <| wq_then <| wc_ret <| wq_then_ret <| wq_blk_ret <| wq_then_ret <| wq_then_ret <| wq_blk_ret <| wq_then_ret ?_
    refine ret_1 (.inl rfl) (vb false) rfl rfl ?_
    have hF152 : tmLaw x_code d0 = false := by (simp only [tmLaw, h8, h27, h37, h54, e58, h71, h76, h136, cond_true, cond_false]; exact tm_no hi1 rfl (by omega) (by simp only [tmS, h8, h27, h37, h54, e58, h71, h76, h136, cond_true, cond_false, Bool.and_true, Bool.and_false, Bool.true_and, Bool.false_and]; try rfl))
    exact ⟨d0, m74.keep0, q13, by rw [hF152]⟩
   have q137 := of_decide_eq_true h136
   have b138 := (b68.kp k73)
   refine lN (L_28 ((y57).1)) (wS (congrArg not h136)) isAgg_28 sizeOf_28 b138 ?_
   refine cl (wS (congrArg not h136)) (C_impl_TimerOk w10 _ ((y57).1) (mR_28)) ?_
   rintro _ w11 ⟨k139, rfl⟩
   have m140 := m74.extk k139
   refine pu (vb (!(F_impl_TimerOk ((y57).1)))) (wS (congrArg not h136)) ?_
   refine pf (vb (!(F_impl_TimerOk ((y57).1)))) wN (congrArg not h136) ?_
   refine wl_nil <| wq_then ?_
   rcases bf (F_impl_TimerOk ((y57).1)) with h141 | h141
   ·refine ct (congrArg not h141) ?_
    refine sr ?_
    refine ag (vb false) wN ?_
    refine wl_nil <| wq_then <| wc_ret <| wq_then_ret <| wq_blk_ret <| wq_then_ret <| wq_then_ret <| wq_blk_ret <| wq_then_ret ?_
    refine ret_1 (.inl rfl) (vb false) rfl rfl ?_
    have hF150 : tmLaw x_code d0 = false := by (simp only [tmLaw, h8, h27, h37, h54, e58, h71, h76, h136, h141, cond_true, cond_false]; exact tm_no hi1 rfl (by omega) (by simp only [tmS, h8, h27, h37, h54, e58, h71, h76, h136, h141, cond_true, cond_false, Bool.and_true, Bool.and_false, Bool.true_and, Bool.false_and]; try rfl))
    exact ⟨d0, m140.keep0, q13, by rw [hF150]⟩
   refine cf (congrArg not h141) ?_
   refine wc_skip <| wq_then <| wc_region ?_
   have b143 := (b138.kp k139)
   refine lN (L_28 ((y57).1)) wN isAgg_28 sizeOf_28 b143 ?_
   have b144 := (((((hbx4.kp k59).kp k64).ch k67 (Nat.ne_of_lt (Nat.lt_of_lt_of_le p19 (Nat.le_trans (t3 k23.size k49.size k59.size) p62)))).kp k73).kp k139)
   refine st (va (L_28 ((y57).1))) (L_28 ((y57).1)) (L_28 ((y57).1)) wN sizeOf_28 b144 ?_
   intro w12 k145 b146 z147
   have m148 := m140.ext k145 (fun k hk => by subst hk; exact Nat.le_trans (t3 k6.size k12.size k15.size) p18)
   refine wl_nil <| wq_blk_normal <| wq_then <| wc_region ?_
   refine mv (vi ((i : Nat) : Int)) wN ?_
   refine ar (((i : Nat) : Int) + 1) wN ?_
   refine ag (vi (((i : Nat) : Int) + 1)) wN ?_
   refine wl_nil ?_
   refine wq_loopQ (w0 := w6) (fun e => [e 0, e 1, e 2, (vi (d0)), (vp g17 0), (vi q), (vi (((i + 1) : Nat) : Int)), e 7, e 8, e 9, e 10, e 11, e 12, e 13, e 14, e 15, e 16, e 17, e 18, e 19, e 20, e 21, e 22, e 23, e 24, e 25, e 26, e 27, e 28, e 29, e 30, e 31, e 32, e 33, e 34, e 35, e 36, e 37, e 38, e 39, e 40, e 41, e 42, e 43, e 44, e 45, e 46, e 47, e 48, e 49, e 50, e 51, e 52, e 53, e 54, e 55, e 56, e 57, e 58, e 59, e 60, e 61, e 62, e 63, e 64, e 65, e 66, e 67, U, U, U, U, U, U, U]) rfl ?_ ?_ ?_
   · exact ⟨rfl, rfl, rfl, rfl, rfl, rfl, (congrArg (Value.int .i64) (show ((((i : Nat) : Int) + 1) : Int) = (((i + 1) : Nat) : Int) by omega)), rfl, rfl, rfl, rfl, rfl, rfl, rfl, rfl, rfl, rfl, rfl, rfl, rfl, rfl, rfl, rfl, rfl, rfl, rfl, rfl, rfl, rfl, rfl, rfl, rfl, rfl, rfl, rfl, rfl, rfl, rfl, rfl, rfl, rfl, rfl, rfl, rfl, rfl, rfl, rfl, rfl, rfl, rfl, rfl, rfl, rfl, rfl, rfl, rfl, rfl, rfl, rfl, rfl, rfl, rfl, rfl, rfl, rfl, rfl, rfl, rfl, rfl, rfl, rfl, rfl, rfl, rfl, rfl, trivial⟩
   · exact fun u => ⟨(i + 1), ((y57).1), q, (unL [u 0, u 1, u 2, u 7, u 8, u 9, u 10, u 11, u 12, u 13, u 14, u 15, u 16, u 17, u 18, u 19, u 20, u 21, u 22, u 23, u 24, u 25, u 26, u 27, u 28, u 29, u 30, u 31, u 32, u 33, u 34, u 35, u 36, u 37, u 38, u 39, u 40, u 41, u 42, u 43, u 44, u 45, u 46, u 47, u 48, u 49, u 50, u 51, u 52, u 53, u 54, u 55, u 56, u 57, u 58, u 59, u 60, u 61, u 62, u 63, u 64, u 65, u 66, u 67]), rfl, m148, ((((((((Ch.refl (fun k => w3.heap.size ≤ k) w5).ext k49 (fun k hk => Nat.le_trans (Nat.le_refl w3.heap.size) hk)).extk k59).extk k64).ext k67 (fun k hk => by subst hk; exact Nat.le_trans (t4 k20.size k23.size k49.size k59.size) p62)).extk k73).extk k139).ext k145 (fun k hk => by subst hk; exact Nat.le_trans (Nat.le_refl w3.heap.size) p18)), (by omega), (by first | rfl | exact tm_next hi1 rfl (by omega) (by simp only [tmS, h8, h27, h37, h54, e58, h71, h76, h136, h141, cond_true, cond_false, Bool.and_true, Bool.and_false, Bool.true_and, Bool.false_and]; try rfl)), (by omega), (by omega), b146⟩
   · show (40 - (((i + 1) : Nat) : Int)).toNat < (40 - ((i : Nat) : Int)).toNat; omega
  have q77 := of_decide_eq_true h76
  refine mv (vi (d0)) (wS h76) ?_
  refine mv (vi ((i : Nat) : Int)) (wS h76) ?_
  refine ar ((d0) + ((i : Nat) : Int)) (wS h76) ?_
  refine pu (vb (decide (((d0) + ((i : Nat) : Int)) ≤ 1000000))) (wS h76) ?_
  refine pk (vb (decide (((d0) + ((i : Nat) : Int)) ≤ 1000000))) wN h76 ?_
  refine wl_nil <| wq_then ?_
  rcases bf (decide (((d0) + ((i : Nat) : Int)) ≤ 1000000)) with h78 | h78
  ·have q117 := of_decide_eq_false h78
   refine cf h78 ?_
   refine wc_skip <| wq_then <| wc_seq <| sr ?_
   refine mv (vi ((y57).2)) wN ?_
   refine mv (vi 0) wN ?_
   refine pu (vb (!(decide ((y57).2 = 0)))) wN ?_
   refine mv (vb (!(decide ((y57).2 = 0)))) wN ?_
   rcases bf (decide ((y57).2 = 0)) with h118 | h118
   ·have q133 := of_decide_eq_false h118
    refine sk (congrArg not h118) ?_
    refine sk (congrArg not h118) ?_
    refine sk (congrArg not h118) ?_
    refine pk (vb true) wN (congrArg not h118) ?_
    refine wl_nil <| wq_then ?_
    refine ct (Eq.refl true) ?_
    refine sr ?_
    refine ag (vb false) wN ?_
    refine wl_nil <| wq_then <| wc_ret <| wq_then_ret <| wq_blk_ret <| wq_then_ret <| wq_then_ret <| wq_blk_ret <| wq_then_ret ?_
    refine ret_1 (.inl rfl) (vb false) rfl rfl ?_
    have hF134 : tmLaw x_code d0 = false := by (simp only [tmLaw, h8, h27, h37, h54, e58, h71, h76, h78, h118, cond_true, cond_false]; exact tm_no hi1 rfl (by omega) (by simp only [tmS, h8, h27, h37, h54, e58, h71, h76, h78, h118, cond_true, cond_false, Bool.and_true, Bool.and_false, Bool.true_and, Bool.false_and]; try rfl))
    exact ⟨d0, m74.keep0, q13, by rw [hF134]⟩
   have q119 := of_decide_eq_true h118
   have b120 := (b68.kp k73)
   refine lN (L_28 ((y57).1)) (wS (congrArg not h118)) isAgg_28 sizeOf_28 b120 ?_
   refine cl (wS (congrArg not h118)) (C_impl_TimerOk w10 _ ((y57).1) (mR_28)) ?_
   rintro _ w11 ⟨k121, rfl⟩
   have m122 := m74.extk k121
   refine pu (vb (!(F_impl_TimerOk ((y57).1)))) (wS (congrArg not h118)) ?_
   refine pf (vb (!(F_impl_TimerOk ((y57).1)))) wN (congrArg not h118) ?_
   refine wl_nil <| wq_then ?_
   rcases bf (F_impl_TimerOk ((y57).1)) with h123 | h123
   ·refine ct (congrArg not h123) ?_
    refine sr ?_
    refine ag (vb false) wN ?_
    refine wl_nil <| wq_then <| wc_ret <| wq_then_ret <| wq_blk_ret <| wq_then_ret <| wq_then_ret <| wq_blk_ret <| wq_then_ret ?_
    refine ret_1 (.inl rfl) (vb false) rfl rfl ?_
    have hF132 : tmLaw x_code d0 = false := by (simp only [tmLaw, h8, h27, h37, h54, e58, h71, h76, h78, h118, h123, cond_true, cond_false]; exact tm_no hi1 rfl (by omega) (by simp only [tmS, h8, h27, h37, h54, e58, h71, h76, h78, h118, h123, cond_true, cond_false, Bool.and_true, Bool.and_false, Bool.true_and, Bool.false_and]; try rfl))
    exact ⟨d0, m122.keep0, q13, by rw [hF132]⟩
   refine cf (congrArg not h123) ?_
   refine wc_skip <| wq_then <| wc_region ?_
   have b125 := (b120.kp k121)
   refine lN (L_28 ((y57).1)) wN isAgg_28 sizeOf_28 b125 ?_
   have b126 := (((((hbx4.kp k59).kp k64).ch k67 (Nat.ne_of_lt (Nat.lt_of_lt_of_le p19 (Nat.le_trans (t3 k23.size k49.size k59.size) p62)))).kp k73).kp k121)
   refine st (va (L_28 ((y57).1))) (L_28 ((y57).1)) (L_28 ((y57).1)) wN sizeOf_28 b126 ?_
   intro w12 k127 b128 z129
   have m130 := m122.ext k127 (fun k hk => by subst hk; exact Nat.le_trans (t3 k6.size k12.size k15.size) p18)
   refine wl_nil <| wq_blk_normal <| wq_then <| wc_region ?_
   refine mv (vi ((i : Nat) : Int)) wN ?_
   refine ar (((i : Nat) : Int) + 1) wN ?_
   refine ag (vi (((i : Nat) : Int) + 1)) wN ?_
   refine wl_nil ?_
   refine wq_loopQ (w0 := w6) (fun e => [e 0, e 1, e 2, (vi (d0)), (vp g17 0), (vi q), (vi (((i + 1) : Nat) : Int)), e 7, e 8, e 9, e 10, e 11, e 12, e 13, e 14, e 15, e 16, e 17, e 18, e 19, e 20, e 21, e 22, e 23, e 24, e 25, e 26, e 27, e 28, e 29, e 30, e 31, e 32, e 33, e 34, e 35, e 36, e 37, e 38, e 39, e 40, e 41, e 42, e 43, e 44, e 45, e 46, e 47, e 48, e 49, e 50, e 51, e 52, e 53, e 54, e 55, e 56, e 57, e 58, e 59, e 60, e 61, e 62, e 63, e 64, e 65, e 66, e 67, U, U, U, U, U, U, U]) rfl ?_ ?_ ?_
   · exact ⟨rfl, rfl, rfl, rfl, rfl, rfl, (congrArg (Value.int .i64) (show ((((i : Nat) : Int) + 1) : Int) = (((i + 1) : Nat) : Int) by omega)), rfl, rfl, rfl, rfl, rfl, rfl, rfl, rfl, rfl, rfl, rfl, rfl, rfl, rfl, rfl, rfl, rfl, rfl, rfl, rfl, rfl, rfl, rfl, rfl, rfl, rfl, rfl, rfl, rfl, rfl, rfl, rfl, rfl, rfl, rfl, rfl, rfl, rfl, rfl, rfl, rfl, rfl, rfl, rfl, rfl, rfl, rfl, rfl, rfl, rfl, rfl, rfl, rfl, rfl, rfl, rfl, rfl, rfl, rfl, rfl, rfl, rfl, rfl, rfl, rfl, rfl, rfl, rfl, trivial⟩
   · exact fun u => ⟨(i + 1), ((y57).1), q, (unL [u 0, u 1, u 2, u 7, u 8, u 9, u 10, u 11, u 12, u 13, u 14, u 15, u 16, u 17, u 18, u 19, u 20, u 21, u 22, u 23, u 24, u 25, u 26, u 27, u 28, u 29, u 30, u 31, u 32, u 33, u 34, u 35, u 36, u 37, u 38, u 39, u 40, u 41, u 42, u 43, u 44, u 45, u 46, u 47, u 48, u 49, u 50, u 51, u 52, u 53, u 54, u 55, u 56, u 57, u 58, u 59, u 60, u 61, u 62, u 63, u 64, u 65, u 66, u 67]), rfl, m130, ((((((((Ch.refl (fun k => w3.heap.size ≤ k) w5).ext k49 (fun k hk => Nat.le_trans (Nat.le_refl w3.heap.size) hk)).extk k59).extk k64).ext k67 (fun k hk => by subst hk; exact Nat.le_trans (t4 k20.size k23.size k49.size k59.size) p62)).extk k73).extk k121).ext k127 (fun k hk => by subst hk; exact Nat.le_trans (Nat.le_refl w3.heap.size) p18)), (by omega), (by first | rfl | exact tm_next hi1 rfl (by omega) (by simp only [tmS, h8, h27, h37, h54, e58, h71, h76, h78, h118, h123, cond_true, cond_false, Bool.and_true, Bool.and_false, Bool.true_and, Bool.false_and]; try rfl)), (by omega), (by omega), b128⟩
   · show (40 - (((i + 1) : Nat) : Int)).toNat < (40 - ((i : Nat) : Int)).toNat; omega
  have q79 := of_decide_eq_true h78
  refine ct h78 ?_
  refine sr ?_
  refine ag (vi 1) wN ?_
  refine wl_nil <| wq_then <| wc_seq <| sr ?_
  refine mv (vi q) wN ?_
  refine pu (vb (decide (q = 5))) wN ?_
  refine wl_nil <| wq_then ?_
  rcases bt (decide (q = 5)) with h80 | h80
  ·have q81 := of_decide_eq_true h80
   refine ct h80 ?_
   refine wc_region ?_
   refine ag (vi 2) wN ?_
   refine wl_nil <| wq_then <| wc_region ?_
   refine mv (vi q) wN ?_
   refine ar (q + 1) wN ?_
   refine ag (vi (q + 1)) wN ?_
   refine wl_nil <| wq_then <| wc_seq <| sr ?_
   refine mv (vi ((y57).2)) wN ?_
   refine mv (vi 2) wN ?_
   refine pu (vb (!(decide ((y57).2 = 2)))) wN ?_
   refine mv (vb (!(decide ((y57).2 = 2)))) wN ?_
   rcases bf (decide ((y57).2 = 2)) with h82 | h82
   ·have q97 := of_decide_eq_false h82
    refine sk (congrArg not h82) ?_
    refine sk (congrArg not h82) ?_
    refine sk (congrArg not h82) ?_
    refine pk (vb true) wN (congrArg not h82) ?_
    refine wl_nil <| wq_then ?_
    refine ct (Eq.refl true) ?_
    refine sr ?_
    refine ag (vb false) wN ?_
    refine wl_nil <| wq_then <| wc_ret <| wq_then_ret <| wq_blk_ret <| wq_then_ret <| wq_then_ret <| wq_blk_ret <| wq_then_ret ?_
    refine ret_1 (.inl rfl) (vb false) rfl rfl ?_
    have hF98 : tmLaw x_code d0 = false := by (simp only [tmLaw, h8, h27, h37, h54, e58, h71, h76, h78, h80, h82, cond_true, cond_false]; exact tm_no hi1 rfl (by omega) (by simp only [tmS, h8, h27, h37, h54, e58, h71, h76, h78, h80, h82, cond_true, cond_false, Bool.and_true, Bool.and_false, Bool.true_and, Bool.false_and]; try rfl))
    exact ⟨d0, m74.keep0, q13, by rw [hF98]⟩
   have q83 := of_decide_eq_true h82
   have b84 := (b68.kp k73)
   refine lN (L_28 ((y57).1)) (wS (congrArg not h82)) isAgg_28 sizeOf_28 b84 ?_
   refine cl (wS (congrArg not h82)) (C_impl_TimerOk w10 _ ((y57).1) (mR_28)) ?_
   rintro _ w11 ⟨k85, rfl⟩
   have m86 := m74.extk k85
   refine pu (vb (!(F_impl_TimerOk ((y57).1)))) (wS (congrArg not h82)) ?_
   refine pf (vb (!(F_impl_TimerOk ((y57).1)))) wN (congrArg not h82) ?_
   refine wl_nil <| wq_then ?_
   rcases bf (F_impl_TimerOk ((y57).1)) with h87 | h87
   ·refine ct (congrArg not h87) ?_
    refine sr ?_
    refine ag (vb false) wN ?_
    refine wl_nil <| wq_then <| wc_ret <| wq_then_ret <| wq_blk_ret <| wq_then_ret <| wq_then_ret <| wq_blk_ret <| wq_then_ret ?_
    refine ret_1 (.inl rfl) (vb false) rfl rfl ?_
    have hF96 : tmLaw x_code d0 = false := by (simp only [tmLaw, h8, h27, h37, h54, e58, h71, h76, h78, h80, h82, h87, cond_true, cond_false]; exact tm_no hi1 rfl (by omega) (by simp only [tmS, h8, h27, h37, h54, e58, h71, h76, h78, h80, h82, h87, cond_true, cond_false, Bool.and_true, Bool.and_false, Bool.true_and, Bool.false_and]; try rfl))
    exact ⟨d0, m86.keep0, q13, by rw [hF96]⟩
   refine cf (congrArg not h87) ?_
   refine wc_skip <| wq_then <| wc_region ?_
   have b89 := (b84.kp k85)
   refine lN (L_28 ((y57).1)) wN isAgg_28 sizeOf_28 b89 ?_
   have b90 := (((((hbx4.kp k59).kp k64).ch k67 (Nat.ne_of_lt (Nat.lt_of_lt_of_le p19 (Nat.le_trans (t3 k23.size k49.size k59.size) p62)))).kp k73).kp k85)
   refine st (va (L_28 ((y57).1))) (L_28 ((y57).1)) (L_28 ((y57).1)) wN sizeOf_28 b90 ?_
   intro w12 k91 b92 z93
   have m94 := m86.ext k91 (fun k hk => by subst hk; exact Nat.le_trans (t3 k6.size k12.size k15.size) p18)
   refine wl_nil <| wq_blk_normal <| wq_then <| wc_region ?_
   refine mv (vi ((i : Nat) : Int)) wN ?_
   refine ar (((i : Nat) : Int) + 1) wN ?_
   refine ag (vi (((i : Nat) : Int) + 1)) wN ?_
   refine wl_nil ?_
   refine wq_loopQ (w0 := w6) (fun e => [e 0, e 1, e 2, (vi (d0)), (vp g17 0), (vi (q + 1)), (vi (((i + 1) : Nat) : Int)), e 7, e 8, e 9, e 10, e 11, e 12, e 13, e 14, e 15, e 16, e 17, e 18, e 19, e 20, e 21, e 22, e 23, e 24, e 25, e 26, e 27, e 28, e 29, e 30, e 31, e 32, e 33, e 34, e 35, e 36, e 37, e 38, e 39, e 40, e 41, e 42, e 43, e 44, e 45, e 46, e 47, e 48, e 49, e 50, e 51, e 52, e 53, e 54, e 55, e 56, e 57, e 58, e 59, e 60, e 61, e 62, e 63, e 64, e 65, e 66, e 67, U, U, U, U, U, U, U]) rfl ?_ ?_ ?_
   · exact ⟨rfl, rfl, rfl, rfl, rfl, rfl, (congrArg (Value.int .i64) (show ((((i : Nat) : Int) + 1) : Int) = (((i + 1) : Nat) : Int) by omega)), rfl, rfl, rfl, rfl, rfl, rfl, rfl, rfl, rfl, rfl, rfl, rfl, rfl, rfl, rfl, rfl, rfl, rfl, rfl, rfl, rfl, rfl, rfl, rfl, rfl, rfl, rfl, rfl, rfl, rfl, rfl, rfl, rfl, rfl, rfl, rfl, rfl, rfl, rfl, rfl, rfl, rfl, rfl, rfl, rfl, rfl, rfl, rfl, rfl, rfl, rfl, rfl, rfl, rfl, rfl, rfl, rfl, rfl, rfl, rfl, rfl, rfl, rfl, rfl, rfl, rfl, rfl, rfl, trivial⟩
   · exact fun u => ⟨(i + 1), ((y57).1), (q + 1), (unL [u 0, u 1, u 2, u 7, u 8, u 9, u 10, u 11, u 12, u 13, u 14, u 15, u 16, u 17, u 18, u 19, u 20, u 21, u 22, u 23, u 24, u 25, u 26, u 27, u 28, u 29, u 30, u 31, u 32, u 33, u 34, u 35, u 36, u 37, u 38, u 39, u 40, u 41, u 42, u 43, u 44, u 45, u 46, u 47, u 48, u 49, u 50, u 51, u 52, u 53, u 54, u 55, u 56, u 57, u 58, u 59, u 60, u 61, u 62, u 63, u 64, u 65, u 66, u 67]), rfl, m94, ((((((((Ch.refl (fun k => w3.heap.size ≤ k) w5).ext k49 (fun k hk => Nat.le_trans (Nat.le_refl w3.heap.size) hk)).extk k59).extk k64).ext k67 (fun k hk => by subst hk; exact Nat.le_trans (t4 k20.size k23.size k49.size k59.size) p62)).extk k73).extk k85).ext k91 (fun k hk => by subst hk; exact Nat.le_trans (Nat.le_refl w3.heap.size) p18)), (by omega), (by first | rfl | exact tm_next hi1 rfl (by omega) (by simp only [tmS, h8, h27, h37, h54, e58, h71, h76, h78, h80, h82, h87, cond_true, cond_false, Bool.and_true, Bool.and_false, Bool.true_and, Bool.false_and]; try rfl)), (by omega), (by omega), b92⟩
   · show (40 - (((i + 1) : Nat) : Int)).toNat < (40 - ((i : Nat) : Int)).toNat; omega
  have q99 := of_decide_eq_false h80
  refine cf h80 ?_
  refine wc_skip <| wq_then <| wc_region ?_
  refine mv (vi q) wN ?_
  refine ar (q + 1) wN ?_
  refine ag (vi (q + 1)) wN ?_
  refine wl_nil <| wq_then <| wc_seq <| sr ?_
  refine mv (vi ((y57).2)) wN ?_
  refine mv (vi 1) wN ?_
  refine pu (vb (!(decide ((y57).2 = 1)))) wN ?_
  refine mv (vb (!(decide ((y57).2 = 1)))) wN ?_
  rcases bf (decide ((y57).2 = 1)) with h100 | h100
  ·have q115 := of_decide_eq_false h100
   refine sk (congrArg not h100) ?_
   refine sk (congrArg not h100) ?_
   refine sk (congrArg not h100) ?_
   refine pk (vb true) wN (congrArg not h100) ?_
   refine wl_nil <| wq_then ?_
   refine ct (Eq.refl true) ?_
   refine sr ?_
   refine ag (vb false) wN ?_
   refine wl_nil <| wq_then <| wc_ret <| wq_then_ret <| wq_blk_ret <| wq_then_ret <| wq_then_ret <| wq_blk_ret <| wq_then_ret ?_
   refine ret_1 (.inl rfl) (vb false) rfl rfl ?_
   have hF116 : tmLaw x_code d0 = false := by (simp only [tmLaw, h8, h27, h37, h54, e58, h71, h76, h78, h80, h100, cond_true, cond_false]; exact tm_no hi1 rfl (by omega) (by simp only [tmS, h8, h27, h37, h54, e58, h71, h76, h78, h80, h100, cond_true, cond_false, Bool.and_true, Bool.and_false, Bool.true_and, Bool.false_and]; try rfl))
   exact ⟨d0, m74.keep0, q13, by rw [hF116]⟩
  have q101 := of_decide_eq_true h100
  have b102 := (b68.kp k73)
  refine lN (L_28 ((y57).1)) (wS (congrArg not h100)) isAgg_28 sizeOf_28 b102 ?_
  refine cl (wS (congrArg not h100)) (C_impl_TimerOk w10 _ ((y57).1) (mR_28)) ?_
  rintro _ w11 ⟨k103, rfl⟩
  have m104 := m74.extk k103
  refine pu (vb (!(F_impl_TimerOk ((y57).1)))) (wS (congrArg not h100)) ?_
  refine pf (vb (!(F_impl_TimerOk ((y57).1)))) wN (congrArg not h100) ?_
  refine wl_nil <| wq_then ?_
  rcases bf (F_impl_TimerOk ((y57).1)) with h105 | h105
  ·refine ct (congrArg not h105) ?_
   refine sr ?_
   refine ag (vb false) wN ?_
   refine wl_nil <| wq_then <| wc_ret <| wq_then_ret <| wq_blk_ret <| wq_then_ret <| wq_then_ret <| wq_blk_ret <| wq_then_ret ?_
   refine ret_1 (.inl rfl) (vb false) rfl rfl ?_
   have hF114 : tmLaw x_code d0 = false := by (simp only [tmLaw, h8, h27, h37, h54, e58, h71, h76, h78, h80, h100, h105, cond_true, cond_false]; exact tm_no hi1 rfl (by omega) (by simp only [tmS, h8, h27, h37, h54, e58, h71, h76, h78, h80, h100, h105, cond_true, cond_false, Bool.and_true, Bool.and_false, Bool.true_and, Bool.false_and]; try rfl))
   exact ⟨d0, m104.keep0, q13, by rw [hF114]⟩
  refine cf (congrArg not h105) ?_
  refine wc_skip <| wq_then <| wc_region ?_
  have b107 := (b102.kp k103)
  refine lN (L_28 ((y57).1)) wN isAgg_28 sizeOf_28 b107 ?_
  have b108 := (((((hbx4.kp k59).kp k64).ch k67 (Nat.ne_of_lt (Nat.lt_of_lt_of_le p19 (Nat.le_trans (t3 k23.size k49.size k59.size) p62)))).kp k73).kp k103)
  refine st (va (L_28 ((y57).1))) (L_28 ((y57).1)) (L_28 ((y57).1)) wN sizeOf_28 b108 ?_
  intro w12 k109 b110 z111
  have m112 := m104.ext k109 (fun k hk => by subst hk; exact Nat.le_trans (t3 k6.size k12.size k15.size) p18)
  refine wl_nil <| wq_blk_normal <| wq_then <| wc_region ?_
  refine mv (vi ((i : Nat) : Int)) wN ?_
  refine ar (((i : Nat) : Int) + 1) wN ?_
  refine ag (vi (((i : Nat) : Int) + 1)) wN ?_
  refine wl_nil ?_
  refine wq_loopQ (w0 := w6) (fun e => [e 0, e 1, e 2, (vi (d0)), (vp g17 0), (vi (q + 1)), (vi (((i + 1) : Nat) : Int)), e 7, e 8, e 9, e 10, e 11, e 12, e 13, e 14, e 15, e 16, e 17, e 18, e 19, e 20, e 21, e 22, e 23, e 24, e 25, e 26, e 27, e 28, e 29, e 30, e 31, e 32, e 33, e 34, e 35, e 36, e 37, e 38, e 39, e 40, e 41, e 42, e 43, e 44, e 45, e 46, e 47, e 48, e 49, e 50, e 51, e 52, e 53, e 54, e 55, e 56, e 57, e 58, e 59, e 60, e 61, e 62, e 63, e 64, e 65, e 66, e 67, U, U, U, U, U, U, U]) rfl ?_ ?_ ?_
  · exact ⟨rfl, rfl, rfl, rfl, rfl, rfl, (congrArg (Value.int .i64) (show ((((i : Nat) : Int) + 1) : Int) = (((i + 1) : Nat) : Int) by omega)), rfl, rfl, rfl, rfl, rfl, rfl, rfl, rfl, rfl, rfl, rfl, rfl, rfl, rfl, rfl, rfl, rfl, rfl, rfl, rfl, rfl, rfl, rfl, rfl, rfl, rfl, rfl, rfl, rfl, rfl, rfl, rfl, rfl, rfl, rfl, rfl, rfl, rfl, rfl, rfl, rfl, rfl, rfl, rfl, rfl, rfl, rfl, rfl, rfl, rfl, rfl, rfl, rfl, rfl, rfl, rfl, rfl, rfl, rfl, rfl, rfl, rfl, rfl, rfl, rfl, rfl, rfl, rfl, trivial⟩
  · exact fun u => ⟨(i + 1), ((y57).1), (q + 1), (unL [u 0, u 1, u 2, u 7, u 8, u 9, u 10, u 11, u 12, u 13, u 14, u 15, u 16, u 17, u 18, u 19, u 20, u 21, u 22, u 23, u 24, u 25, u 26, u 27, u 28, u 29, u 30, u 31, u 32, u 33, u 34, u 35, u 36, u 37, u 38, u 39, u 40, u 41, u 42, u 43, u 44, u 45, u 46, u 47, u 48, u 49, u 50, u 51, u 52, u 53, u 54, u 55, u 56, u 57, u 58, u 59, u 60, u 61, u 62, u 63, u 64, u 65, u 66, u 67]), rfl, m112, ((((((((Ch.refl (fun k => w3.heap.size ≤ k) w5).ext k49 (fun k hk => Nat.le_trans (Nat.le_refl w3.heap.size) hk)).extk k59).extk k64).ext k67 (fun k hk => by subst hk; exact Nat.le_trans (t4 k20.size k23.size k49.size k59.size) p62)).extk k73).extk k103).ext k109 (fun k hk => by subst hk; exact Nat.le_trans (Nat.le_refl w3.heap.size) p18)), (by omega), (by first | rfl | exact tm_next hi1 rfl (by omega) (by simp only [tmS, h8, h27, h37, h54, e58, h71, h76, h78, h80, h100, h105, cond_true, cond_false, Bool.and_true, Bool.and_false, Bool.true_and, Bool.false_and]; try rfl)), (by omega), (by omega), b110⟩
  · show (40 - (((i + 1) : Nat) : Int)).toNat < (40 - ((i : Nat) : Int)).toNat; omega
end Go.Proofs.Ytacefhmlgneegaa.K
