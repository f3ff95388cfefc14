import Derived.Test.YtjcahjhnnagkdaaCore
import Derived.Test.YtjcahjhnnagkdaaProg
import Derived.Test.YtjcahjhnnagkdaaHeld
import Derived.Test.YtjcahjhnnagkdaaFun
import Derived.Test.YtjcahjhnnagkdaaFunZ
import Derived.Test.YtjcahjhnnagkdaaMark
import Derived.Test.YtjcahjhnnagkdaaWp2
namespace Go.Proofs.Ytjcahjhnnagkdaa.K
open Go.RowKit
set_option linter.unusedVariables false
set_option linter.unusedSimpArgs false
set_option maxRecDepth 100000
def F_impl_PathTick (x_p : PPaths) (x_now : Int) : (PPaths) := bif (iPa x_p) then (bif (F_impl_within x_now 0 1000000) then ((F_impl_withoutExpired x_p x_now)) else ((x_p))) else ((x_p))
theorem C_impl_PathTick (w0 : World) (v_x_p : Value) (x_p : PPaths) (r_x_p : R_59 w0 v_x_p x_p) (x_now : Int)  : Fn Try.prog 49 #[v_x_p, (vi x_now)] w0 (fun v w' => Keep w0 w' ∧ O_59 w' w0.heap.size v (F_impl_PathTick x_p x_now)) := by
 obtain ⟨a1, c2, rfl, r3, s4⟩ := r_x_p
 refine fn_of (n := 18) (l := [(va (L_59 x_p a1 c2)), (vi x_now), U, U, U, U, U, U, U, U, U, U, U, U, U, U, U, U]) Try.func49 rfl rfl (by kernel_rfl) rfl ?_
 refine sr ?_
 refine bx (L_59 x_p a1 c2) wN ?_
 intro g6 w1 p7 p8 k9 b10
 have m11 := (Ch.base w0).extk k9
 refine al [(vi 0), (vi 0), (vs none 0 0)] wN zero_59 ?_
 intro g12 w2 p13 p14 k15 b16
 have m17 := m11.extk k15
 refine wl_nil <| wq_then <| wc_seq <| sr ?_
 have b18 := (b10.kp k15)
 refine lN (L_59 x_p a1 c2) wN isAgg_59 sizeOf_59 b18 ?_
 refine cl wN (C_impl_PathsOk w2 _ x_p (mR_59 (r3.from0 m17) s4)) ?_
 rintro _ w3 ⟨k19, rfl⟩
 have m20 := m17.extk k19
 refine pu (vb (!(iPa x_p))) wN ?_
 refine mv (vb (!(iPa x_p))) wN ?_
 rcases bf (iPa x_p) with h21 | h21
 ·refine sk (congrArg not h21) ?_
  refine sk (congrArg not h21) ?_
  refine sk (congrArg not h21) ?_
  refine pk (vb true) wN (congrArg not h21) ?_
  refine wl_nil <| wq_then ?_
  refine ct (Eq.refl true) ?_
  refine sr ?_
  have b65 := (b18.kp k19)
  refine lN (L_59 x_p a1 c2) wN isAgg_59 sizeOf_59 b65 ?_
  refine cl wN (C_impl_copyPaths w3 _ x_p (mR_59 (r3.from0 m20) s4)) ?_
  rintro _ w4 ⟨k66, ⟨a67, c68, rfl, o69, s70, ap72⟩⟩
  have m73 := m20.extk k66
  obtain ⟨y74, o75⟩ := OLv.ow o69
  have b76 := ((b16.kp k19).kp k66)
  refine st (va (L_59 (x_p) a67 c68)) (L_59 (x_p) a67 c68) (L_59 (x_p) a67 c68) wN sizeOf_59 b76 ?_
  intro w5 k77 b78 z79
  have m80 := m73.ext k77 (fun k hk => by subst hk; exact Nat.le_trans k9.size p13)
  refine wl_nil <| wq_then <| wc_ret <| wq_then_ret ?_
  have o81 := (OLv.ch o69 k77 (fun g h1 h2 hk => by have h3 := Nat.lt_of_lt_of_le p14 k19.size; omega))
  refine ret_1 (.inl rfl) (va (L_59 (x_p) a67 c68)) rfl (rv_c [(vi (((x_p).At).Host)), (vi (((x_p).At).Port)), (vs a67 ((x_p).Cands).length c68)] rfl b78 isAgg_59 sizeOf_59) ?_
  refine ⟨m80.keep0, ?_⟩
  have hF82 : F_impl_PathTick x_p x_now = (x_p) := by simp only [F_impl_PathTick, h21, cond_true, cond_false]
  rw [hF82]
  exact ⟨_, _, rfl, (OLv.now (OLv.low o81 (t3 k9.size k15.size k19.size))), s70, ⟨trivial, trivial⟩⟩
 have q22 := iPa_t h21
 refine mv (vi x_now) (wS (congrArg not h21)) ?_
 refine cl (wS (congrArg not h21)) (C_impl_within w3 x_now 0 1000000) ?_
 rintro _ w4 ⟨k23, rfl⟩
 have m24 := m20.extk k23
 refine pu (vb (!(F_impl_within x_now 0 1000000))) (wS (congrArg not h21)) ?_
 refine pf (vb (!(F_impl_within x_now 0 1000000))) wN (congrArg not h21) ?_
 refine wl_nil <| wq_then ?_
 rcases bf (F_impl_within x_now 0 1000000) with h25 | h25
 ·have q45 := impl_within_f h25
  refine ct (congrArg not h25) ?_
  refine sr ?_
  have b46 := ((b18.kp k19).kp k23)
  refine lN (L_59 x_p a1 c2) wN isAgg_59 sizeOf_59 b46 ?_
  refine cl wN (C_impl_copyPaths w4 _ x_p (mR_59 (r3.from0 m24) s4)) ?_
  rintro _ w5 ⟨k47, ⟨a48, c49, rfl, o50, s51, ap53⟩⟩
  have m54 := m24.extk k47
  obtain ⟨y55, o56⟩ := OLv.ow o50
  have b57 := (((b16.kp k19).kp k23).kp k47)
  refine st (va (L_59 (x_p) a48 c49)) (L_59 (x_p) a48 c49) (L_59 (x_p) a48 c49) wN sizeOf_59 b57 ?_
  intro w6 k58 b59 z60
  have m61 := m54.ext k58 (fun k hk => by subst hk; exact Nat.le_trans k9.size p13)
  refine wl_nil <| wq_then <| wc_ret <| wq_then_ret ?_
  have o62 := (OLv.ch o50 k58 (fun g h1 h2 hk => by have h3 := Nat.lt_of_lt_of_le p14 (Nat.le_trans k19.size k23.size); omega))
  refine ret_1 (.inl rfl) (va (L_59 (x_p) a48 c49)) rfl (rv_c [(vi (((x_p).At).Host)), (vi (((x_p).At).Port)), (vs a48 ((x_p).Cands).length c49)] rfl b59 isAgg_59 sizeOf_59) ?_
  refine ⟨m61.keep0, ?_⟩
  have hF63 : F_impl_PathTick x_p x_now = (x_p) := by simp only [F_impl_PathTick, h21, h25, cond_true, cond_false]
  rw [hF63]
  exact ⟨_, _, rfl, (OLv.now (OLv.low o62 (t4 k9.size k15.size k19.size k23.size))), s51, ⟨trivial, trivial⟩⟩
 have q26 := impl_within_t h25
 refine cf (congrArg not h25) ?_
 refine wc_skip <| wq_then <| sr ?_
 have b27 := ((b18.kp k19).kp k23)
 refine lN (L_59 x_p a1 c2) wN isAgg_59 sizeOf_59 b27 ?_
 refine mv (vi x_now) wN ?_
 refine cl wN (C_impl_withoutExpired w4 _ x_p (mR_59 (r3.from0 m24) s4) x_now) ?_
 rintro _ w5 ⟨k28, ⟨a29, c30, rfl, o31, s32, ap34⟩⟩
 have m35 := m24.extk k28
 obtain ⟨y36, o37⟩ := OLv.ow o31
 have b38 := (((b16.kp k19).kp k23).kp k28)
 refine st (va (L_59 (F_impl_withoutExpired x_p x_now) a29 c30)) (L_59 (F_impl_withoutExpired x_p x_now) a29 c30) (L_59 (F_impl_withoutExpired x_p x_now) a29 c30) wN sizeOf_59 b38 ?_
 intro w6 k39 b40 z41
 have m42 := m35.ext k39 (fun k hk => by subst hk; exact Nat.le_trans k9.size p13)
 refine wl_nil <| wq_then <| wc_ret ?_
 have o43 := (OLv.ch o31 k39 (fun g h1 h2 hk => by have h3 := Nat.lt_of_lt_of_le p14 (Nat.le_trans k19.size k23.size); omega))
 refine ret_1 (.inl rfl) (va (L_59 (F_impl_withoutExpired x_p x_now) a29 c30)) rfl (rv_c [(vi (((F_impl_withoutExpired x_p x_now).At).Host)), (vi (((F_impl_withoutExpired x_p x_now).At).Port)), (vs a29 ((F_impl_withoutExpired x_p x_now).Cands).length c30)] rfl b40 isAgg_59 sizeOf_59) ?_
 refine ⟨m42.keep0, ?_⟩
 have hF44 : F_impl_PathTick x_p x_now = (F_impl_withoutExpired x_p x_now) := by simp only [F_impl_PathTick, h21, h25, cond_true, cond_false]
 rw [hF44]
 exact ⟨_, _, rfl, (OLv.now (OLv.low o43 (t4 k9.size k15.size k19.size k23.size))), s32, ⟨trivial, trivial⟩⟩

theorem isAgg_51 : ∀ w, (isAgg 51).run Try.prog w = .ok true w := fun w => by kernel_rfl
theorem sizeOf_51 : ∀ w, (sizeOf 51).run Try.prog w = .ok 3 w := fun w => by kernel_rfl
abbrev L_51 (x : PPaths) (a1 : Option Addr) (c1 : Nat) : List Value := [vi x.At.Host, vi x.At.Port, vs a1 x.Cands.length c1]
theorem mQ_51 {w : World} {x : PPaths} {a1 : Option Addr} {c1 : Nat} (h1 : RLv LT_166 w 9223372036854775807 a1 x.Cands.length c1 x.Cands) (l1 : x.Cands.length ≤ 9223372036854775807) : Q_51 w (va (L_51 x a1 c1)) x := ⟨_, _, rfl, h1, l1⟩
theorem mR_51 {w : World} {x : PPaths} {a1 : Option Addr} {c1 : Nat} (h1 : RLv LT_166 w 1073741824 a1 x.Cands.length c1 x.Cands) (l1 : x.Cands.length ≤ 1073741824) : R_51 w (va (L_51 x a1 c1)) x := ⟨_, _, rfl, h1, l1⟩
def F_laws_FnExactPathTick (x_aP : PPaths) (x_aNow : Int) : (Bool) := bif (decide ((F_laws_szPaths x_aP 1048576) < 0)) then (true) else (bif (F_laws_eqPaths ((F_impl_PathTick (F_laws_toPaths x_aP) x_aNow)) ((F_spec_PathTick (F_laws_toPaths x_aP) x_aNow))) then (bif (F_laws_eqPaths (F_laws_toPaths x_aP) (F_laws_toPaths x_aP)) then (bif (decide ((1 + totL wt_PCand ((F_laws_toPaths x_aP).Cands)) < 0)) then (false) else (bif (decide (((F_laws_heldPaths { At := (((F_impl_PathTick (F_laws_toPaths x_aP) x_aNow)).At), Cands := (marksE mkE_PCand wt_PCand (((F_impl_PathTick (F_laws_toPaths x_aP) x_aNow)).Cands) 1) : PPaths } 1)) < 0)) then (false) else (bif (decide (((F_laws_heldPaths { At := (((F_impl_PathTick (F_laws_toPaths x_aP) x_aNow)).At), Cands := (marksE mkE_PCand wt_PCand (((F_impl_PathTick (F_laws_toPaths x_aP) x_aNow)).Cands) 1) : PPaths } 1)) = (1 + totL wt_PCand (((F_impl_PathTick (F_laws_toPaths x_aP) x_aNow)).Cands)))) then (true) else (false)))) else (false)) else (false))
theorem C_laws_FnExactPathTick (w0 : World) (v_x_aP : Value) (x_aP : PPaths) (r_x_aP : Q_51 w0 v_x_aP x_aP) (x_aNow : Int)  : Fn Try.prog 7 #[v_x_aP, (vi x_aNow)] w0 (fun v w' => Keep w0 w' ∧ O_4 w' w0.heap.size v (F_laws_FnExactPathTick x_aP x_aNow)) := by
 obtain ⟨a1, c2, rfl, r3, s4⟩ := r_x_aP
 refine fn_of (n := 74) (l := [(va (L_59 x_aP a1 c2)), (vi x_aNow), U, U, U, U, U, U, U, U, U, U, U, U, U, U, U, U, U, U, U, U, U, U, U, U, U, U, U, U, U, U, U, U, U, U, U, U, U, U, U, U, U, U, U, U, U, U, U, U, U, U, U, U, U, U, U, U, U, U, U, U, U, U, U, U, U, U, U, U, U, U, U, U]) Try.func7 rfl rfl (by kernel_rfl) rfl ?_
 refine sr ?_
 refine bx (L_59 x_aP a1 c2) wN ?_
 intro g6 w1 p7 p8 k9 b10
 have m11 := (Ch.base w0).extk k9
 refine ag (vb false) wN ?_
 refine nx ?_
 refine ag (vi 1048576) wN ?_
 refine nx ?_
 refine lN (L_59 x_aP a1 c2) wN isAgg_51 sizeOf_51 b10 ?_
 refine mv (vi 1048576) wN ?_
 refine cl wN (C_laws_szPaths w1 _ x_aP (mQ_51 (r3.from0 m11) s4) 1048576 (by omega) (by omega)) ?_
 rintro _ w2 ⟨k12, rfl⟩
 have m13 := m11.extk k12
 refine ag (vi (F_laws_szPaths x_aP 1048576)) wN ?_
 refine wl_nil <| wq_then <| wc_seq <| sr ?_
 refine mv (vi (F_laws_szPaths x_aP 1048576)) wN ?_
 refine pu (vb (decide ((F_laws_szPaths x_aP 1048576) < 0))) wN ?_
 refine wl_nil <| wq_then ?_
 rcases bt (decide ((F_laws_szPaths x_aP 1048576) < 0)) with h14 | h14
 ·have q15 := of_decide_eq_true h14
  refine ct h14 ?_
  refine sr ?_
  refine ag (vb true) wN ?_
  refine wl_nil <| wq_then <| wc_ret <| wq_then_ret ?_
  refine ret_1 (.inl rfl) (vb true) rfl rfl ?_
  refine ⟨m13.keep0, ?_⟩
  have hF16 : F_laws_FnExactPathTick x_aP x_aNow = true := by simp only [F_laws_FnExactPathTick, h14, cond_true, cond_false]
  rw [hF16]
  exact rfl
 have q17 := of_decide_eq_false h14
 obtain ⟨z18a, z18b⟩ := ok_F_laws_szPaths q17
 refine cf h14 ?_
 refine wc_skip <| wq_then <| sr ?_
 have b19 := (b10.kp k12)
 refine lN (L_59 x_aP a1 c2) wN isAgg_51 sizeOf_51 b19 ?_
 refine cl wN (C_laws_toPaths w2 _ x_aP (mR_51 (RLv.raw (r3.from0 m13) (by omega) (fun e he b hb => Nat.le_trans (z18b e he b hb) (by decide))) (by omega))) ?_
 rintro _ w3 ⟨k20, ⟨a21, c22, rfl, o23, s24, ap26⟩⟩
 have m27 := m13.extk k20
 obtain ⟨y28, o29⟩ := OLv.ow o23
 refine mv (vi x_aNow) wN ?_
 obtain ⟨y31, e32⟩ : ∃ y, F_spec_PathTick (F_laws_toPaths x_aP) x_aNow = y := ⟨_, rfl⟩
 have hc30 := C_spec_PathTick w3 _ (F_laws_toPaths x_aP) (mR_59 (OLv.rl o23) s24) x_aNow
 rw [e32] at hc30
 refine cl wN hc30 ?_
 rintro _ w4 ⟨k33, ⟨a34, c35, rfl, o36, s37, ap39⟩⟩
 have m40 := m27.extk k33
 obtain ⟨y41, o42⟩ := OLv.ow o36
 refine al [(vi 0), (vi 0), (vs none 0 0)] wN zero_59 ?_
 intro g43 w5 p44 p45 k46 b47
 have m48 := m40.extk k46
 refine st (va (L_59 (y31) a34 c35)) (L_59 (y31) a34 c35) (L_59 (y31) a34 c35) wN sizeOf_59 b47 ?_
 intro w6 k49 b50 z51
 have m52 := m48.ext k49 (fun k hk => by subst hk; exact Nat.le_trans (t4 k9.size k12.size k20.size k33.size) p44)
 refine nx ?_
 have b53 := ((((b19.kp k20).kp k33).kp k46).ch k49 (Nat.ne_of_lt (Nat.lt_of_lt_of_le p8 (Nat.le_trans (t3 k12.size k20.size k33.size) p44))))
 refine lN (L_59 x_aP a1 c2) wN isAgg_51 sizeOf_51 b53 ?_
 refine cl wN (C_laws_toPaths w6 _ x_aP (mR_51 (RLv.raw (r3.from0 m52) (by omega) (fun e he b hb => Nat.le_trans (z18b e he b hb) (by decide))) (by omega))) ?_
 rintro _ w7 ⟨k54, ⟨a55, c56, rfl, o57, s58, ap60⟩⟩
 have m61 := m52.extk k54
 obtain ⟨y62, o63⟩ := OLv.ow o57
 refine al [(vi 0), (vi 0), (vs none 0 0)] wN zero_59 ?_
 intro g64 w8 p65 p66 k67 b68
 have m69 := m61.extk k67
 refine st (va (L_59 (F_laws_toPaths x_aP) a55 c56)) (L_59 (F_laws_toPaths x_aP) a55 c56) (L_59 (F_laws_toPaths x_aP) a55 c56) wN sizeOf_59 b68 ?_
 intro w9 k70 b71 z72
 have m73 := m69.ext k70 (fun k hk => by subst hk; exact Nat.le_trans (t7 k9.size k12.size k20.size k33.size k46.size k49.size k54.size) p65)
 refine nx ?_
 refine lN (L_59 (F_laws_toPaths x_aP) a55 c56) wN isAgg_59 sizeOf_59 b71 ?_
 refine mv (vi x_aNow) wN ?_
 have o74 := (OLv.ch (OLv.kp o57 k67) k70 (fun g h1 h2 hk => by have h3 := Nat.le_trans (Nat.le_refl w7.heap.size) p65; omega))
 obtain ⟨y76, e77⟩ : ∃ y, F_impl_PathTick (F_laws_toPaths x_aP) x_aNow = y := ⟨_, rfl⟩
 have hc75 := C_impl_PathTick w9 _ (F_laws_toPaths x_aP) (mR_59 (OLv.rl o74) s58) x_aNow
 rw [e77] at hc75
 refine cl wN hc75 ?_
 rintro _ w10 ⟨k78, ⟨a79, c80, rfl, o81, s82, ap84⟩⟩
 have m85 := m73.extk k78
 obtain ⟨y86, o87⟩ := OLv.ow o81
 refine al [(vi 0), (vi 0), (vs none 0 0)] wN zero_59 ?_
 intro g88 w11 p89 p90 k91 b92
 have m93 := m85.extk k91
 refine st (va (L_59 (y76) a79 c80)) (L_59 (y76) a79 c80) (L_59 (y76) a79 c80) wN sizeOf_59 b92 ?_
 intro w12 k94 b95 z96
 have m97 := m93.ext k94 (fun k hk => by subst hk; exact Nat.le_trans (t10 k9.size k12.size k20.size k33.size k46.size k49.size k54.size k67.size k70.size k78.size) p89)
 refine wl_nil <| wq_then <| wc_seq <| sr ?_
 refine lN (L_59 (y76) a79 c80) wN isAgg_59 sizeOf_59 b95 ?_
 have b98 := ((((((b50.kp k54).kp k67).ch k70 (Nat.ne_of_lt (Nat.lt_of_lt_of_le p45 (Nat.le_trans (Nat.le_trans k49.size k54.size) p65)))).kp k78).kp k91).ch k94 (Nat.ne_of_lt (Nat.lt_of_lt_of_le p45 (Nat.le_trans (t5 k49.size k54.size k67.size k70.size k78.size) p89))))
 refine lN (L_59 (y31) a34 c35) wN isAgg_59 sizeOf_59 b98 ?_
 have o99 := (OLv.ch (OLv.kp o81 k91) k94 (fun g h1 h2 hk => by have h3 := Nat.le_trans (Nat.le_refl w10.heap.size) p89; omega))
 have o100 := (OLv.ch (OLv.kp (OLv.kp (OLv.ch (OLv.kp (OLv.kp (OLv.ch (OLv.kp o36 k46) k49 (fun g h1 h2 hk => by have h3 := Nat.le_trans (Nat.le_refl w4.heap.size) p44; omega)) k54) k67) k70 (fun g h1 h2 hk => by have h3 := Nat.le_trans (t3 k46.size k49.size k54.size) p65; omega)) k78) k91) k94 (fun g h1 h2 hk => by have h3 := Nat.le_trans (t6 k46.size k49.size k54.size k67.size k70.size k78.size) p89; omega))
 refine cl wN (C_laws_eqPaths w12 _ (y76) (mR_59 (OLv.rl o99) s82) _ (y31) (mR_59 (OLv.rl o100) s37)) ?_
 rintro _ w13 ⟨k101, rfl⟩
 have m102 := m97.extk k101
 refine pu (vb (!(F_laws_eqPaths (y76) (y31)))) wN ?_
 refine wl_nil <| wq_then ?_
 rcases bf (F_laws_eqPaths (y76) (y31)) with h103 | h103
 ·refine ct (congrArg not h103) ?_
  refine sr ?_
  refine ag (vb false) wN ?_
  refine wl_nil <| wq_then <| wc_ret <| wq_then_ret ?_
  refine ret_1 (.inl rfl) (vb false) rfl rfl ?_
  refine ⟨m102.keep0, ?_⟩
  have hF249 : F_laws_FnExactPathTick x_aP x_aNow = false := by simp only [F_laws_FnExactPathTick, h14, e32, e77, h103, cond_true, cond_false]
  rw [hF249]
  exact rfl
 refine cf (congrArg not h103) ?_
 refine wc_skip <| wq_then <| wc_seq <| wc_seq ?_
 refine wc_drawT ([(31, [], [], (fun _ v _ => v = (.agg #[(vi (((F_laws_toPaths x_aP).At).Host)), (vi (((F_laws_toPaths x_aP).At).Port)), (vs a55 ((F_laws_toPaths x_aP).Cands).length c56)]))), (32, [], [], (fun _ v _ => v = (.agg #[(vi x_aP.At.Host), (vi x_aP.At.Port), (vs a1 x_aP.Cands.length c2)]))), (33, [], [1], (fun _ v w => ∃ (a1 : Option Addr) (c1 : Nat), v = .agg #[.int .i64 (((F_laws_toPaths x_aP).At).Host), .int .i64 (((F_laws_toPaths x_aP).At).Port), .slice a1 ((F_laws_toPaths x_aP).Cands).length c1] ∧ OLv LT_54 w (w13.heap.size) w.heap.size a1 ((F_laws_toPaths x_aP).Cands).length c1 ((F_laws_toPaths x_aP).Cands) ∧ ((F_laws_toPaths x_aP).Cands).length ≤ 1073741824 ∧ Aps [(a1, c1)]))] : GV) (fun _ w' => Keep w13 w') [] mixed rfl (by kernel_rfl) (by kernel_rfl) ?_ (fun _ _ h => h) (fun _ _ _ _ h _ k => h.trans k) trivial ?_ ?_ ?_
 ·exact ⟨(fun _ _ _ _ h _ => h), (fun _ _ _ _ _ h => h), ⟨(fun _ _ _ _ h _ => h), (fun _ _ _ _ _ h => h), ⟨(fun e v w w1 h hk => by obtain ⟨a0x, c0x, he, o0x, l0x, hap⟩ := h; exact ⟨a0x, c0x, he, OLv.now (OLv.kp o0x hk), l0x, hap⟩), (fun _ _ _ _ _ h => h), trivial⟩⟩⟩
 ·exact trivial
 ·refine ⟨?_, ⟨?_, ⟨?_, trivial⟩⟩⟩
  ·intro _ w14 k128 _
   have m129 := m102.extk k128
   rintro _ _ _
   show WL _ _ _ _ _ _ _
   have b130 := (((((b71.kp k78).kp k91).ch k94 (Nat.ne_of_lt (Nat.lt_of_lt_of_le p66 (Nat.le_trans (Nat.le_trans k70.size k78.size) p89)))).kp k101).kp k128)
   refine lN (L_59 (F_laws_toPaths x_aP) a55 c56) wN isAgg_59 sizeOf_59 b130 ?_
   exact wl_finT (Ch.refl _ _) rfl
  ·intro _ w14 k131 _
   have m132 := m102.extk k131
   rintro _ _ _
   show WL _ _ _ _ _ _ _
   have b133 := ((((((((b53.kp k54).kp k67).ch k70 (Nat.ne_of_lt (Nat.lt_of_lt_of_le p8 (Nat.le_trans (t6 k12.size k20.size k33.size k46.size k49.size k54.size) p65)))).kp k78).kp k91).ch k94 (Nat.ne_of_lt (Nat.lt_of_lt_of_le p8 (Nat.le_trans (t9 k12.size k20.size k33.size k46.size k49.size k54.size k67.size k70.size k78.size) p89)))).kp k101).kp k131)
   refine lN (L_59 x_aP a1 c2) wN isAgg_51 sizeOf_51 b133 ?_
   exact wl_finT (Ch.refl _ _) rfl
  ·intro _ w14 k134 _
   have m135 := m102.extk k134
   rintro _ _ rfl _
   show WL _ _ _ _ _ _ _
   refine cl wN (C_laws_toPaths w14 _ x_aP (mR_51 (RLv.raw (r3.from0 m135) (by omega) (fun e he b hb => Nat.le_trans (z18b e he b hb) (by decide))) (by omega))) ?_
   rintro _ w15 ⟨k137, ⟨a138, c139, rfl, o140, s141, ap143⟩⟩
   have m144 := m135.extk k137
   obtain ⟨y145, o146⟩ := OLv.ow o140
   exact wl_finT k137 ⟨_, _, rfl, (OLv.now (OLv.low o140 k134.size)), s141, ap143⟩
 ·intro _ w14 k147
  have m148 := m102.extk k147
  rintro _ rfl _ rfl _ ⟨a151, c152, rfl, o153, s154, ap156⟩
  obtain ⟨y157, o158⟩ := OLv.ow o153
  show WL _ _ _ _ _ _ _
  have o159 := (OLv.kp (OLv.kp (OLv.ch (OLv.kp (OLv.kp o74 k78) k91) k94 (fun g h1 h2 hk => by have h3 := Nat.le_trans (t3 k67.size k70.size k78.size) p89; omega)) k101) k147)
  obtain ⟨y161, e162⟩ : ∃ y, F_laws_eqPaths (F_laws_toPaths x_aP) (F_laws_toPaths x_aP) = y := ⟨_, rfl⟩
  have hc160 := C_laws_eqPaths w14 _ (F_laws_toPaths x_aP) (mR_59 (OLv.rl o159) s58) _ (F_laws_toPaths x_aP) (mR_59 (OLv.rl o153) s154)
  rw [e162] at hc160
  refine cl wN hc160 ?_
  rintro _ w15 ⟨k163, rfl⟩
  have m164 := m148.extk k163
  refine pu (vb (!(y161))) wN ?_
  refine wl_nil <| wq_then ?_
  rcases bf y161 with h165 | h165
  ·refine ct (congrArg not h165) ?_
   refine sr ?_
   refine ag (vb false) wN ?_
   refine wl_nil <| wq_then <| wc_ret <| wq_then_ret ?_
   refine ret_1 (.inl rfl) (vb false) rfl rfl ?_
   refine ⟨m164.keep0, ?_⟩
   have hF247 : F_laws_FnExactPathTick x_aP x_aNow = false := by simp only [F_laws_FnExactPathTick, h14, e32, e77, h103, e162, h165, cond_true, cond_false]
   rw [hF247]
   exact rfl
  refine cf (congrArg not h165) ?_
  refine wc_skip <| wq_then <| sr ?_
  refine ag (vi 1) wN ?_
  refine nx ?_
  have b167 := ((((((b71.kp k78).kp k91).ch k94 (Nat.ne_of_lt (Nat.lt_of_lt_of_le p66 (Nat.le_trans (Nat.le_trans k70.size k78.size) p89)))).kp k101).kp k147).kp k163)
  refine lN (L_59 (F_laws_toPaths x_aP) a55 c56) wN isAgg_59 sizeOf_59 b167 ?_
  refine mv (vi 1) wN ?_
  have o168 := (OLv.kp o159 k163)
  refine cl wN (C_laws_markPaths w15 a55 c56 (F_laws_toPaths x_aP) _ _ 1 (by omega) (by omega) o168) ?_
  rintro _ w16 ⟨rfl, k169, r170⟩
  have m171 := m164.ext k169 (fun k hk => Nat.le_trans (t6 k9.size k12.size k20.size k33.size k46.size k49.size) hk.1)
  have q172 := OLv.wb (wt := wt_PCand) (C := 1073741827) o168 (by intro x; simp only [wt_PCand]; omega) (by intro x hx; simp only [LT_54, List.mem_cons, List.not_mem_nil, or_false, forall_eq_or_imp, forall_eq] at hx; simp only [wt_PCand]; omega) _ (Nat.le_refl _)
  rw [List.take_length] at q172
  refine ag (vi (1 + totL wt_PCand ((F_laws_toPaths x_aP).Cands))) wN ?_
  refine wl_nil <| wq_then <| wc_seq <| sr ?_
  refine mv (vi (1 + totL wt_PCand ((F_laws_toPaths x_aP).Cands))) wN ?_
  refine pu (vb (decide ((1 + totL wt_PCand ((F_laws_toPaths x_aP).Cands)) < 0))) wN ?_
  refine mv (vb (decide ((1 + totL wt_PCand ((F_laws_toPaths x_aP).Cands)) < 0))) wN ?_
  rcases bt (decide ((1 + totL wt_PCand ((F_laws_toPaths x_aP).Cands)) < 0)) with h173 | h173
  ·have q174 := of_decide_eq_true h173
   refine sk h173 ?_
   refine sk h173 ?_
   refine sk h173 ?_
   refine sk h173 ?_
   refine pk (vb true) wN h173 ?_
   refine wl_nil <| wq_then ?_
   refine ct (Eq.refl true) ?_
   refine sr ?_
   refine ag (vb false) wN ?_
   refine wl_nil <| wq_then <| wc_ret <| wq_then_ret ?_
   refine ret_1 (.inl rfl) (vb false) rfl rfl ?_
   refine ⟨m171.keep0, ?_⟩
   have hF175 : F_laws_FnExactPathTick x_aP x_aNow = false := by simp only [F_laws_FnExactPathTick, h14, e32, e77, h103, e162, h165, h173, cond_true, cond_false]
   rw [hF175]
   exact rfl
  have q176 := of_decide_eq_false h173
  have b177 := ((((b95.kp k101).kp k147).kp k163).ch k169 (fun h => by have h1 := h.2.1; have h3 := Nat.le_trans (t3 k67.size k70.size k78.size) p89; omega))
  refine lN (L_59 (y76) a79 c80) (wS h173) isAgg_59 sizeOf_59 b177 ?_
  have b178 := ((((b98.kp k101).kp k147).kp k163).ch k169 (fun h => by have h1 := h.1; have h3 := Nat.lt_of_lt_of_le p45 k49.size; omega))
  refine lN (L_59 (y31) a34 c35) (wS h173) isAgg_59 sizeOf_59 b178 ?_
  have o179 := (OLv.ch (OLv.kp (OLv.kp (OLv.kp o99 k101) k147) k163) k169 (fun g h1 h2 hk => by have h3 := (Nat.le_trans k67.size k70.size); have h4 := hk.2.1; omega))
  have o180 := (OLv.ch (OLv.kp (OLv.kp (OLv.kp o100 k101) k147) k163) k169 (fun g h1 h2 hk => by have h3 := (Nat.le_trans k46.size k49.size); have h4 := hk.1; omega))
  refine cl (wS h173) (C_laws_eqPaths w16 _ (y76) (mR_59 (OLv.rl o179) s82) _ (y31) (mR_59 (OLv.rl o180) s37)) ?_
  rintro _ w17 ⟨k181, rfl⟩
  have m182 := m171.extk k181
  refine pu (vb (!(F_laws_eqPaths (y76) (y31)))) (wS h173) ?_
  refine pf (vb (!(F_laws_eqPaths (y76) (y31)))) wN h173 ?_
  refine wl_nil <| wq_then ?_
  refine cf (congrArg not h103) ?_
  refine wc_skip <| wq_then <| sr ?_
  refine ag (vi 1) wN ?_
  refine nx ?_
  have b183 := (b177.kp k181)
  refine lN (L_59 (y76) a79 c80) wN isAgg_59 sizeOf_59 b183 ?_
  refine mv (vi 1) wN ?_
  have o184 := (OLv.kp o179 k181)
  refine cl wN (C_laws_markPaths w17 a79 c80 (y76) _ _ 1 (by omega) (by omega) o184) ?_
  rintro _ w18 ⟨rfl, k185, r186⟩
  have m187 := m182.ext k185 (fun k hk => Nat.le_trans (t9 k9.size k12.size k20.size k33.size k46.size k49.size k54.size k67.size k70.size) hk.1)
  have q188 := OLv.wb (wt := wt_PCand) (C := 1073741827) o184 (by intro x; simp only [wt_PCand]; omega) (by intro x hx; simp only [LT_54, List.mem_cons, List.not_mem_nil, or_false, forall_eq_or_imp, forall_eq] at hx; simp only [wt_PCand]; omega) _ (Nat.le_refl _)
  rw [List.take_length] at q188
  refine ag (vi (1 + totL wt_PCand ((y76).Cands))) wN ?_
  refine nx ?_
  refine ag (vi 1) wN ?_
  refine nx ?_
  have b189 := (b183.ch k185 (fun h => by have h1 := h.2.1; have h3 := Nat.le_trans (Nat.le_refl w10.heap.size) p89; omega))
  refine lN [(vi (((y76).At).Host)), (vi (((y76).At).Port)), (vs a79 ((y76).Cands).length c80)] wN isAgg_59 sizeOf_59 b189 ?_
  refine mv (vi 1) wN ?_
  obtain ⟨y191, e192⟩ : ∃ y, F_laws_heldPaths { At := ((y76).At), Cands := (marksE mkE_PCand wt_PCand ((y76).Cands) 1) : PPaths } 1 = y := ⟨_, rfl⟩
  have hc190 := C_laws_heldPaths w18 _ _ (show R_59 w18 (va [(vi (((y76).At).Host)), (vi (((y76).At).Port)), (vs a79 ((y76).Cands).length c80)]) { At := ((y76).At), Cands := (marksE mkE_PCand wt_PCand ((y76).Cands) 1) : PPaths } from ⟨a79, c80, by simp only [marksB_len, marksI_len, marksL_len, marksE_len], by simpa only [marksB_len, marksI_len, marksL_len, marksE_len] using (RLk.rl r186), by simp only [marksB_len, marksI_len, marksL_len, marksE_len]; first | exact s82 | omega⟩) 1 (by omega) (by omega)
  rw [e192] at hc190
  refine cl wN hc190 ?_
  rintro _ w19 ⟨k193, rfl⟩
  have m194 := m187.extk k193
  refine ag (vi (y191)) wN ?_
  refine wl_nil <| wq_then <| wc_seq <| sr ?_
  refine mv (vi (y191)) wN ?_
  refine pu (vb (decide ((y191) < 0))) wN ?_
  refine wl_nil <| wq_then ?_
  rcases bt (decide ((y191) < 0)) with h195 | h195
  ·have q196 := of_decide_eq_true h195
   refine ct h195 ?_
   refine sr ?_
   refine ag (vb false) wN ?_
   refine wl_nil <| wq_then <| wc_ret <| wq_then_ret ?_
   refine ret_1 (.inl rfl) (vb false) rfl rfl ?_
   refine ⟨m194.keep0, ?_⟩
   have hF197 : F_laws_FnExactPathTick x_aP x_aNow = false := by simp only [F_laws_FnExactPathTick, h14, e32, e77, h103, e162, h165, h173, e192, h195, cond_true, cond_false]
   rw [hF197]
   exact rfl
  have q198 := of_decide_eq_false h195
  refine cf h195 ?_
  refine wc_skip <| wq_then <| wc_seq <| sr ?_
  refine mv (vi (y191)) wN ?_
  refine mv (vi (1 + totL wt_PCand ((y76).Cands))) wN ?_
  refine pu (vb (!(decide ((y191) = (1 + totL wt_PCand ((y76).Cands)))))) wN ?_
  refine wl_nil <| wq_then ?_
  rcases bf (decide ((y191) = (1 + totL wt_PCand ((y76).Cands)))) with h199 | h199
  ·have q244 := of_decide_eq_false h199
   refine ct (congrArg not h199) ?_
   refine sr ?_
   refine ag (vb false) wN ?_
   refine wl_nil <| wq_then <| wc_ret <| wq_then_ret ?_
   refine ret_1 (.inl rfl) (vb false) rfl rfl ?_
   refine ⟨m194.keep0, ?_⟩
   have hF245 : F_laws_FnExactPathTick x_aP x_aNow = false := by simp only [F_laws_FnExactPathTick, h14, e32, e77, h103, e162, h165, h173, e192, h195, h199, cond_true, cond_false]
   rw [hF245]
   exact rfl
  have q200 := of_decide_eq_true h199
  refine cf (congrArg not h199) ?_
  refine wc_skip <| wq_then <| sr ?_
  have b201 := (((((((((((((b53.kp k54).kp k67).ch k70 (Nat.ne_of_lt (Nat.lt_of_lt_of_le p8 (Nat.le_trans (t6 k12.size k20.size k33.size k46.size k49.size k54.size) p65)))).kp k78).kp k91).ch k94 (Nat.ne_of_lt (Nat.lt_of_lt_of_le p8 (Nat.le_trans (t9 k12.size k20.size k33.size k46.size k49.size k54.size k67.size k70.size k78.size) p89)))).kp k101).kp k147).kp k163).ch k169 (fun h => by have h1 := h.1; have h3 := Nat.lt_of_lt_of_le p8 (t5 k12.size k20.size k33.size k46.size k49.size); omega)).kp k181).ch k185 (fun h => by have h1 := h.1; have h3 := Nat.lt_of_lt_of_le p8 (t8 k12.size k20.size k33.size k46.size k49.size k54.size k67.size k70.size); omega)).kp k193)
  refine lN (L_59 x_aP a1 c2) wN isAgg_51 sizeOf_51 b201 ?_
  refine cl wN (C_laws_toPaths w19 _ x_aP (mR_51 (RLv.raw (r3.from0 m194) (by omega) (fun e he b hb => Nat.le_trans (z18b e he b hb) (by decide))) (by omega))) ?_
  rintro _ w20 ⟨k202, ⟨a203, c204, rfl, o205, s206, ap208⟩⟩
  have m209 := m194.extk k202
  obtain ⟨y210, o211⟩ := OLv.ow o205
  refine mv (vi x_aNow) wN ?_
  have hc212 := C_impl_PathTick w20 _ (F_laws_toPaths x_aP) (mR_59 (OLv.rl o205) s206) x_aNow
  rw [e77] at hc212
  refine cl wN hc212 ?_
  rintro _ w21 ⟨k213, ⟨a214, c215, rfl, o216, s217, ap219⟩⟩
  have m220 := m209.extk k213
  obtain ⟨y221, o222⟩ := OLv.ow o216
  refine al [(vi 0), (vi 0), (vs none 0 0)] wN zero_59 ?_
  intro g223 w22 p224 p225 k226 b227
  have m228 := m220.extk k226
  refine st (va (L_59 (y76) a214 c215)) (L_59 (y76) a214 c215) (L_59 (y76) a214 c215) wN sizeOf_59 b227 ?_
  intro w23 k229 b230 z231
  have m232 := m228.ext k229 (fun k hk => by subst hk; exact Nat.le_trans (t10 (t12 k9.size k12.size k20.size k33.size k46.size k49.size k54.size k67.size k70.size k78.size k91.size k94.size) k101.size k147.size k163.size k169.size k181.size k185.size k193.size k202.size k213.size) p224)
  refine wl_nil <| wq_then <| wc_seq <| sr ?_
  refine lN (L_59 (y76) a214 c215) wN isAgg_59 sizeOf_59 b230 ?_
  have b233 := (((((((b178.kp k181).ch k185 (fun h => by have h1 := h.1; have h3 := Nat.lt_of_lt_of_le p45 (t4 k49.size k54.size k67.size k70.size); omega)).kp k193).kp k202).kp k213).kp k226).ch k229 (Nat.ne_of_lt (Nat.lt_of_lt_of_le p45 (Nat.le_trans (t5 (t12 k49.size k54.size k67.size k70.size k78.size k91.size k94.size k101.size k147.size k163.size k169.size k181.size) k185.size k193.size k202.size k213.size) p224))))
  refine lN (L_59 (y31) a34 c35) wN isAgg_59 sizeOf_59 b233 ?_
  have o234 := (OLv.ch (OLv.kp o216 k226) k229 (fun g h1 h2 hk => by have h3 := Nat.le_trans (Nat.le_refl w21.heap.size) p224; omega))
  have o235 := (OLv.ch (OLv.kp (OLv.kp (OLv.kp (OLv.kp (OLv.ch (OLv.kp o180 k181) k185 (fun g h1 h2 hk => by have h3 := (t5 k46.size k49.size k54.size k67.size k70.size); have h4 := hk.1; omega)) k193) k202) k213) k226) k229 (fun g h1 h2 hk => by have h3 := Nat.le_trans (t6 (t12 k46.size k49.size k54.size k67.size k70.size k78.size k91.size k94.size k101.size k147.size k163.size k169.size) k181.size k185.size k193.size k202.size k213.size) p224; omega))
  refine cl wN (C_laws_eqPaths w23 _ (y76) (mR_59 (OLv.rl o234) s217) _ (y31) (mR_59 (OLv.rl o235) s37)) ?_
  rintro _ w24 ⟨k236, rfl⟩
  have m237 := m232.extk k236
  refine pu (vb (!(F_laws_eqPaths (y76) (y31)))) wN ?_
  refine wl_nil <| wq_then ?_
  refine cf (congrArg not h103) ?_
  refine wc_skip <| wq_then <| sr ?_
  refine ag (vi 1) wN ?_
  refine nx ?_
  have b238 := ((((((b189.kp k193).kp k202).kp k213).kp k226).ch k229 (Nat.ne_of_lt (Nat.lt_of_lt_of_le p90 (Nat.le_trans (t10 k94.size k101.size k147.size k163.size k169.size k181.size k185.size k193.size k202.size k213.size) p224)))).kp k236)
  refine lN [(vi (((y76).At).Host)), (vi (((y76).At).Port)), (vs a79 ((y76).Cands).length c80)] wN isAgg_59 sizeOf_59 b238 ?_
  refine mv (vi 1) wN ?_
  have r239 := (RLk.kp (RLk.ch (RLk.kp (RLk.kp (RLk.kp (RLk.kp r186 k193) k202) k213) k226) k229 (fun g h1 h2 hk => by have h3 := Nat.le_trans (t11 k91.size k94.size k101.size k147.size k163.size k169.size k181.size k185.size k193.size k202.size k213.size) p224; omega)) k236)
  have hc240 := C_laws_heldPaths w24 _ _ (show R_59 w24 (va [(vi (((y76).At).Host)), (vi (((y76).At).Port)), (vs a79 ((y76).Cands).length c80)]) { At := ((y76).At), Cands := (marksE mkE_PCand wt_PCand ((y76).Cands) 1) : PPaths } from ⟨a79, c80, by simp only [marksB_len, marksI_len, marksL_len, marksE_len], by simpa only [marksB_len, marksI_len, marksL_len, marksE_len] using (RLk.rl r239), by simp only [marksB_len, marksI_len, marksL_len, marksE_len]; first | exact s82 | omega⟩) 1 (by omega) (by omega)
  rw [e192] at hc240
  refine cl wN hc240 ?_
  rintro _ w25 ⟨k241, rfl⟩
  have m242 := m237.extk k241
  refine ag (vi (y191)) wN ?_
  refine wl_nil <| wq_then <| wc_seq <| sr ?_
  refine mv (vi (y191)) wN ?_
  refine pu (vb (decide ((y191) < 0))) wN ?_
  refine wl_nil <| wq_then ?_
  refine cf h195 ?_
  refine wc_skip <| wq_then <| wc_seq <| sr ?_
  refine mv (vi (y191)) wN ?_
  refine mv (vi (1 + totL wt_PCand ((y76).Cands))) wN ?_
  refine pu (vb (!(decide ((y191) = (1 + totL wt_PCand ((y76).Cands)))))) wN ?_
  refine wl_nil <| wq_then ?_
  refine cf (congrArg not h199) ?_
  refine wc_skip <| wq_then <| sr ?_
  refine ag (vb true) wN ?_
  refine wl_nil <| wq_then <| wc_ret ?_
  refine ret_1 (.inl rfl) (vb true) rfl rfl ?_
  refine ⟨m242.keep0, ?_⟩
  have hF243 : F_laws_FnExactPathTick x_aP x_aNow = true := by simp only [F_laws_FnExactPathTick, h14, e32, e77, h103, e162, h165, h173, e192, h195, h199, cond_true, cond_false]
  rw [hF243]
  exact rfl
end Go.Proofs.Ytjcahjhnnagkdaa.K
