import Derived.Test.YtjcahjhnnagkdaaCore
import Derived.Test.YtjcahjhnnagkdaaProg
import Derived.Test.YtjcahjhnnagkdaaHeld
import Derived.Test.YtjcahjhnnagkdaaFun
import Derived.Test.YtjcahjhnnagkdaaFunZ
import Derived.Test.YtjcahjhnnagkdaaMark
import Derived.Test.YtjcahjhnnagkdaaWp3
namespace Go.Proofs.Ytjcahjhnnagkdaa.K
open Go.RowKit
set_option linter.unusedVariables false
set_option linter.unusedSimpArgs false
set_option maxRecDepth 100000
def O_54_4 (w : World) (lo : Nat) (v : Value) (x : (PCand) × (Bool)) : Prop := ∃ (a1 : Option Addr) (c1 : Nat), v = .tuple #[.agg #[.int .i64 x.1.A.Host, .int .i64 x.1.A.Port, .slice a1 x.1.Draw.length c1, .int .i64 x.1.Until], .bool x.2] ∧ w.ownsRow lo 5 1 (.slice a1 x.1.Draw.length c1) x.1.Draw.length (x.1.Draw.map bV) ∧ x.1.Draw.length ≤ 1073741824 ∧ Aps [(a1, c1)]
def candS (x_p : PPaths) (x_a : PAddr) : PCand × Bool := bif sPa x_p then (bif decide (candAt x_p x_a < 0) then (z_PCand, false) else (x_p.Cands.getD (candAt x_p x_a).toNat z_PCand, true)) else (z_PCand, false)
theorem C_spec_CandOf (w0 : World) (v_x_p : Value) (x_p : PPaths) (r_x_p : R_59 w0 v_x_p x_p) (v_x_a : Value) (x_a : PAddr) (r_x_a : R_26 w0 v_x_a x_a)  : Fn Try.prog 32 #[v_x_p, v_x_a] w0 (fun v w' => Keep w0 w' ∧ O_54_4 w' w0.heap.size v (candS x_p x_a)) := by
 obtain ⟨a1, c2, rfl, r3, s4⟩ := r_x_p
 obtain rfl := r_x_a
 refine fn_of (n := 33) (l := [(va (L_59 x_p a1 c2)), (va (L_26 x_a)), U, U, U, U, U, U, U, U, U, U, U, U, U, U, U, U, U, U, U, U, U, U, U, U, U, U, U, U, U, U, U]) Try.func32 rfl rfl (by kernel_rfl) rfl ?_
 refine sr ?_
 refine bx (L_59 x_p a1 c2) wN ?_
 intro g6 w1 p7 p8 k9 b10
 have m11 := (Ch.base w0).extk k9
 refine bx (L_26 x_a) wN ?_
 intro g12 w2 p13 p14 k15 b16
 have m17 := m11.extk k15
 refine al [(vi 0), (vi 0), (vs none 0 0), (vi 0)] wN zero_54 ?_
 intro g18 w3 p19 p20 k21 b22
 have m23 := m17.extk k21
 refine ag (vb false) wN ?_
 refine wl_nil <| wq_then <| wc_seq <| sr ?_
 have b24 := ((b10.kp k15).kp k21)
 refine lN (L_59 x_p a1 c2) wN isAgg_59 sizeOf_59 b24 ?_
 refine cl wN (C_spec_PathsOk w3 _ x_p (mR_59 (r3.from0 m23) s4)) ?_
 rintro _ w4 ⟨k25, rfl⟩
 have m26 := m23.extk k25
 refine pu (vb (!(sPa x_p))) wN ?_
 refine wl_nil <| wq_then ?_
 rcases bf (sPa x_p) with h27 | h27
 ·refine ct (congrArg not h27) ?_
  refine sr ?_
  refine pu (va [(vi 0), (vi 0), (vs none 0 0), (vi 0)]) wN ?_
  have b129 := (b22.kp k25)
  refine st (va [(vi 0), (vi 0), (vs none 0 0), (vi 0)]) [(vi 0), (vi 0), (vs none 0 0), (vi 0)] [(vi 0), (vi 0), (vs none 0 0), (vi 0)] wN sizeOf_54 b129 ?_
  intro w5 k130 b131 z132
  have m133 := m26.ext k130 (fun k hk => by subst hk; exact Nat.le_trans (Nat.le_trans k9.size k15.size) p19)
  refine ag (vb false) wN ?_
  refine wl_nil <| wq_then <| wc_ret <| wq_then_ret ?_
  refine ret_2 (.inl rfl) (va [(vi 0), (vi 0), (vs none 0 0), (vi 0)]) (vb false) rfl (rv_c [(vi 0), (vi 0), (vs none 0 0), (vi 0)] rfl b131 isAgg_54 sizeOf_54) rfl ?_
  refine ⟨m133.keep0, ?_⟩
  have hF134 : candS x_p x_a = ({ A := { Host := 0, Port := 0 : PAddr }, Draw := [], Until := 0 : PCand }, false) := by simp only [candS, h27]; rfl
  rw [hF134]
  exact ⟨_, _, rfl, (by first | exact own_nil _ _ _ _ | exact OLv.nil _ _ _ _), (by simp), ⟨trivial, trivial⟩⟩
 have q28 := sPa_t h27
 refine cf (congrArg not h27) ?_
 refine wc_skip <| wq_then <| wc_seq <| sr ?_
 refine ag (vi 0) wN ?_
 refine wl_nil <| wq_then <| wc_block ?_
 refine wc_normQ (fun e => [e 0, e 1, e 2, e 3, e 4, e 5, (vi ((0 : Nat) : Int)), e 7, e 8, e 9, e 10, e 11, e 12, e 13, e 14, e 15, e 16, e 17, e 18, e 19, e 20, e 21, e 22, e 23, e 24, e 25, e 26, e 27, e 28, e 29, e 30, e 31, e 32]) rfl ⟨rfl, rfl, rfl, rfl, rfl, rfl, (congrArg (Value.int .i64) (show (0 : Int) = ((0 : Nat) : Int) by omega)), rfl, rfl, rfl, rfl, rfl, rfl, rfl, rfl, rfl, rfl, rfl, rfl, rfl, rfl, rfl, rfl, rfl, rfl, rfl, rfl, rfl, rfl, rfl, rfl, rfl, rfl, trivial⟩ ?_
 refine wc_loop (fun e' w' => ∃ (k : Nat) (u29 : Nat → Value), e' = lst [(u29 0), (u29 1), (vp g6 0), (vp g12 0), (vp g18 0), (u29 2), (vi ((k : Nat) : Int)), (u29 3), (u29 4), (u29 5), (u29 6), (u29 7), (u29 8), (u29 9), (u29 10), (u29 11), (u29 12), (u29 13), (u29 14), (u29 15), (u29 16), (u29 17), (u29 18), (u29 19), (u29 20), (u29 21), (u29 22), (u29 23), (u29 24), (u29 25), (u29 26), (u29 27), U] ∧ Ch (fun k => w0.heap.size ≤ k) w0 w' ∧ Ch (fun k => w4.heap.size ≤ k) w4 w' ∧ k ≤ x_p.Cands.length ∧ ∀ j, j < k → (fun c : PCand => decide (c.A.Host = x_a.Host) && decide (c.A.Port = x_a.Port)) (x_p.Cands.getD j z_PCand) = false) (fun e' _ => x_p.Cands.length - ((intOf (e' 6))).toNat) ?_ ?_
 ·exact ⟨0, (unL [_, _, _, _, _, _, U, U, U, U, U, U, U, U, U, U, U, U, U, U, U, U, U, U, U, U, U, U]), rfl, m26, (Ch.refl (fun k => w4.heap.size ≤ k) w4), (by omega), (by first | (intro j hj; omega) | exact find_next (p := (fun c : PCand => decide (c.A.Host = x_a.Host) && decide (c.A.Port = x_a.Port))) (by assumption) (by assumption))⟩
 ·rintro _ w5 ⟨k, u29, rfl, m30, k31, i32, i33⟩
  refine wc_seq <| sr ?_
  refine mv (vi ((k : Nat) : Int)) wN ?_
  refine pu (vp g6 2) wN ?_
  have b34 := ((b24.kp k25).ch k31 (Nat.not_le.2 (Nat.lt_of_lt_of_le p8 (t3 k15.size k21.size k25.size))))
  refine ld (vs a1 x_p.Cands.length c2) wN isAgg_57 b34 ?_
  obtain ⟨y35, r36⟩ := RLv.row (r3.from0 m30)
  refine ln wN slTy_57 r36 ?_
  refine pu (vb (decide (((k : Nat) : Int) < (x_p.Cands.length : Int)))) wN ?_
  refine wl_nil <| wq_then ?_
  rcases bf (decide (((k : Nat) : Int) < (x_p.Cands.length : Int))) with h37 | h37
  ·have q121 := of_decide_eq_false h37
   refine cf h37 ?_
   refine wc_exit <| wq_then_exit <| wq_then_exit <| wq_blk_exit <| wq_then <| sr ?_
   refine pu (va [(vi 0), (vi 0), (vs none 0 0), (vi 0)]) wN ?_
   have b122 := ((b22.kp k25).ch k31 (Nat.not_le.2 (Nat.lt_of_lt_of_le p20 k25.size)))
   refine st (va [(vi 0), (vi 0), (vs none 0 0), (vi 0)]) [(vi 0), (vi 0), (vs none 0 0), (vi 0)] [(vi 0), (vi 0), (vs none 0 0), (vi 0)] wN sizeOf_54 b122 ?_
   intro w6 k123 b124 z125
   have m126 := m30.ext k123 (fun k hk => by subst hk; exact Nat.le_trans (Nat.le_trans k9.size k15.size) p19)
   refine ag (vb false) wN ?_
   refine wl_nil <| wq_then <| wc_ret ?_
   refine ret_2 (.inl rfl) (va [(vi 0), (vi 0), (vs none 0 0), (vi 0)]) (vb false) rfl (rv_c [(vi 0), (vi 0), (vs none 0 0), (vi 0)] rfl b124 isAgg_54 sizeOf_54) rfl ?_
   refine ⟨m126.keep0, ?_⟩
   have hF127 : candS x_p x_a = ({ A := { Host := 0, Port := 0 : PAddr }, Draw := [], Until := 0 : PCand }, false) := by have hz : candAt x_p x_a = -1 := findF_none (p := (fun c : PCand => decide (c.A.Host = x_a.Host) && decide (c.A.Port = x_a.Port))) (z := z_PCand) (by assumption) (by omega); simp only [candS, h27, h37, hz]; rfl
   rw [hF127]
   exact ⟨_, _, rfl, (by first | exact own_nil _ _ _ _ | exact OLv.nil _ _ _ _), (by simp), ⟨trivial, trivial⟩⟩
  have q38 := of_decide_eq_true h37
  refine ct h37 ?_
  refine wc_skip <| wq_then <| wc_seq <| wc_block <| wc_seq ?_
  obtain ⟨y54, l55, r56, e57, u58⟩ := RLv.el z_PCand (i := k) r3 (by first | omega | (simp only [List.length_cons, List.length_nil, List.length_replicate, List.length_append, List.length_take, List.length_set, List.length_map]; omega))
  obtain ⟨a59, c60, l64, rfl, r61, s62, u65⟩ := SubR.c u58
  obtain rfl := SubR.n u65
  refine wc_drawT ([(18, [], [], (fun _ v _ => v = (vp g6 2))), (19, [], [0], (fun _ v _ => v = (vs a1 x_p.Cands.length c2))), (20, [], [], (fun _ v _ => v = (vi ((k : Nat) : Int)))), (21, [], [0, 1, 2], (fun _ v _ => v = (ve (vs a1 x_p.Cands.length c2) ((((k : Nat) : Int)).toNat * 4)))), (22, [], [0, 1, 2, 3], (fun _ v _ => v = (ve (vs a1 x_p.Cands.length c2) ((((k : Nat) : Int)).toNat * 4 + 0)))), (23, [], [0, 1, 2, 3, 4], (fun _ v _ => v = (.agg #[(vi (((x_p.Cands.getD k z_PCand).A).Host)), (vi (((x_p.Cands.getD k z_PCand).A).Port))]))), (24, [], [], (fun _ v _ => v = (.agg #[(vi x_a.Host), (vi x_a.Port)])))] : GV) (fun _ w' => Keep w5 w') [] mixed rfl (by kernel_rfl) (by kernel_rfl) ?_ (fun _ _ h => h) (fun _ _ _ _ h _ k => h.trans k) trivial ?_ ?_ ?_
  ·exact ⟨(fun _ _ _ _ h _ => h), (fun _ _ _ _ _ h => h), ⟨(fun _ _ _ _ h _ => h), (fun _ _ _ _ _ h => h), ⟨(fun _ _ _ _ h _ => h), (fun _ _ _ _ _ h => h), ⟨(fun _ _ _ _ h _ => h), (fun _ _ _ _ _ h => h), ⟨(fun _ _ _ _ h _ => h), (fun _ _ _ _ _ h => h), ⟨(fun _ _ _ _ h _ => h), (fun _ _ _ _ _ h => h), ⟨(fun _ _ _ _ h _ => h), (fun _ _ _ _ _ h => h), trivial⟩⟩⟩⟩⟩⟩⟩
  ·exact trivial
  ·refine ⟨?_, ⟨?_, ⟨?_, ⟨?_, ⟨?_, ⟨?_, ⟨?_, trivial⟩⟩⟩⟩⟩⟩⟩
   ·intro _ w6 k69 _
    have m70 := m30.extk k69
    rintro _ _ _ _ _ _ _
    show WL _ _ _ _ _ _ _
    refine pu (vp g6 2) wN ?_
    exact wl_finT (Ch.refl _ _) rfl
   ·intro _ w6 k71 _
    have m72 := m30.extk k71
    rintro _ rfl _ _ _ _ _ _
    show WL _ _ _ _ _ _ _
    have b73 := (b34.kp k71)
    refine ld (vs a1 x_p.Cands.length c2) wN isAgg_57 b73 ?_
    exact wl_finT (Ch.refl _ _) rfl
   ·intro _ w6 k74 _
    have m75 := m30.extk k74
    rintro _ _ _ _ _ _ _
    show WL _ _ _ _ _ _ _
    refine mv (vi ((k : Nat) : Int)) wN ?_
    exact wl_finT (Ch.refl _ _) rfl
   ·intro _ w6 k76 _
    have m77 := m30.extk k76
    rintro _ rfl _ rfl _ rfl _ _ _ _
    show WL _ _ _ _ _ _ _
    obtain ⟨y79, r80⟩ := RLv.row (r3.from0 m77)
    refine wl_index wN ((k : Nat) : Int) rfl rfl rfl slTy_57 rfl rfl r80 (by first | omega | (simp only [List.length_cons, List.length_nil, List.length_replicate, List.length_append, List.length_take, List.length_set, List.length_map]; omega)) (by first | omega | (simp only [List.length_cons, List.length_nil, List.length_replicate, List.length_append, List.length_take, List.length_set, List.length_map]; omega)) ?_
    exact wl_finT (Ch.refl _ _) rfl
   ·intro _ w6 k81 _
    have m82 := m30.extk k81
    rintro _ rfl _ rfl _ rfl _ rfl _ _ _
    show WL _ _ _ _ _ _ _
    refine wl_fieldE wN rfl rfl rfl fieldAt_54_0 rfl (r56.from0 m82) (by omega) ?_
    exact wl_finT (Ch.refl _ _) rfl
   ·intro _ w6 k86 _
    have m87 := m30.extk k86
    rintro _ rfl _ rfl _ rfl _ rfl _ rfl _ _
    show WL _ _ _ _ _ _ _
    refine wl_loadEN (L_26 ((x_p.Cands.getD k z_PCand).A)) wN rfl rfl rfl rfl isAgg_26 sizeOf_26 (r56.from0 m87) (by first | omega | (simp only [List.length_cons, List.length_nil, List.length_replicate, List.length_append, List.length_take, List.length_set, List.length_map]; omega)) ((part_of (off := 0) (n := 2) e57 (by first | rfl | simp | omega) (by decide)).trans rfl) ?_
    exact wl_finT (Ch.refl _ _) rfl
   ·intro _ w6 k91 _
    have m92 := m30.extk k91
    rintro _ _ _ _ _ _ _
    show WL _ _ _ _ _ _ _
    have b93 := ((((b16.kp k21).kp k25).ch k31 (Nat.not_le.2 (Nat.lt_of_lt_of_le p14 (Nat.le_trans k21.size k25.size)))).kp k91)
    refine lN (L_26 x_a) wN isAgg_26 sizeOf_26 b93 ?_
    exact wl_finT (Ch.refl _ _) rfl
  ·intro _ w6 k94
   have m95 := m30.extk k94
   rintro _ rfl _ rfl _ rfl _ rfl _ rfl _ rfl _ rfl
   show WL _ _ _ _ _ _ _
   refine wl_aggeq ((decide ((((x_p.Cands.getD k z_PCand).A).Host) = x_a.Host) && decide ((((x_p.Cands.getD k z_PCand).A).Port) = x_a.Port))) wN rfl rfl rfl rfl rfl guardt_26 (aggeq_26 (((x_p.Cands.getD k z_PCand).A).Host) x_a.Host (((x_p.Cands.getD k z_PCand).A).Port) x_a.Port w6) ?_
   refine wl_nil <| wq_then ?_
   rcases bf (decide ((((x_p.Cands.getD k z_PCand).A).Host) = x_a.Host) && decide ((((x_p.Cands.getD k z_PCand).A).Port) = x_a.Port)) with h100 | h100
   ·refine cf h100 ?_
    refine wc_skip <| wq_blk_normal <| wq_then <| wc_region ?_
    refine mv (vi ((k : Nat) : Int)) wN ?_
    refine ar (((k : Nat) : Int) + 1) wN ?_
    refine ag (vi (((k : Nat) : Int) + 1)) wN ?_
    refine wl_nil ?_
    refine wq_loopQ (w0 := w5) (fun e => [e 0, e 1, e 2, e 3, e 4, e 5, (vi (((k + 1) : Nat) : Int)), e 7, e 8, e 9, e 10, e 11, e 12, e 13, e 14, e 15, e 16, e 17, e 18, e 19, e 20, e 21, e 22, e 23, e 24, e 25, e 26, e 27, e 28, e 29, e 30, e 31, e 32]) rfl ?_ ?_ ?_
    · exact ⟨rfl, rfl, rfl, rfl, rfl, rfl, (congrArg (Value.int .i64) (show ((((k : Nat) : Int) + 1) : Int) = (((k + 1) : Nat) : Int) by omega)), rfl, rfl, rfl, rfl, rfl, rfl, rfl, rfl, rfl, rfl, rfl, rfl, rfl, rfl, rfl, rfl, rfl, rfl, rfl, rfl, rfl, rfl, rfl, rfl, rfl, rfl, trivial⟩
    · exact ⟨(k + 1), (unL [_, _, _, _, _, _, _, _, _, _, _, _, _, _, _, _, _, _, _, _, _, _, _, _, _, _, _, _]), rfl, m95, (((Ch.refl (fun k => w4.heap.size ≤ k) w4).ext k31 (fun k hk => Nat.le_trans (Nat.le_refl w4.heap.size) hk)).extk k94), (by omega), (by first | (intro j hj; omega) | exact find_next (p := (fun c : PCand => decide (c.A.Host = x_a.Host) && decide (c.A.Port = x_a.Port))) (by assumption) (by assumption))⟩
    · show x_p.Cands.length - ((((k + 1) : Nat) : Int)).toNat < x_p.Cands.length - (((k : Nat) : Int)).toNat; omega
   refine ct h100 ?_
   refine sr ?_
   refine pu (vp g6 2) wN ?_
   have b102 := (b34.kp k94)
   refine ld (vs a1 x_p.Cands.length c2) wN isAgg_57 b102 ?_
   refine mv (vi ((k : Nat) : Int)) wN ?_
   obtain ⟨y103, r104⟩ := RLv.row (r3.from0 m95)
   refine wl_index wN ((k : Nat) : Int) rfl rfl rfl slTy_57 rfl rfl r104 (by first | omega | (simp only [List.length_cons, List.length_nil, List.length_replicate, List.length_append, List.length_take, List.length_set, List.length_map]; omega)) (by first | omega | (simp only [List.length_cons, List.length_nil, List.length_replicate, List.length_append, List.length_take, List.length_set, List.length_map]; omega)) ?_
   refine wl_loadEN [(vi (((x_p.Cands.getD k z_PCand).A).Host)), (vi (((x_p.Cands.getD k z_PCand).A).Port)), (vs a59 (x_p.Cands.getD k z_PCand).Draw.length c60), (vi ((x_p.Cands.getD k z_PCand).Until))] wN rfl rfl rfl rfl isAgg_54 sizeOf_54 (r56.from0 m95) (by first | omega | (simp only [List.length_cons, List.length_nil, List.length_replicate, List.length_append, List.length_take, List.length_set, List.length_map]; omega)) ((part_of (off := 0) (n := 4) e57 (by first | rfl | simp | omega) (by decide)).trans rfl) ?_
   refine cl wN (C_spec_l16Cand w6 _ (x_p.Cands.getD k z_PCand) (mR_54 (r61.from0 m95) s62)) ?_
   rintro _ w7 ⟨k105, ⟨a106, c107, rfl, o108, s109, ap111⟩⟩
   have m112 := m95.extk k105
   have b113 := ((((b22.kp k25).ch k31 (Nat.not_le.2 (Nat.lt_of_lt_of_le p20 k25.size))).kp k94).kp k105)
   refine st (va (L_54 (F_spec_l16Cand (x_p.Cands.getD k z_PCand)) a106 c107)) (L_54 (F_spec_l16Cand (x_p.Cands.getD k z_PCand)) a106 c107) (L_54 (F_spec_l16Cand (x_p.Cands.getD k z_PCand)) a106 c107) wN sizeOf_54 b113 ?_
   intro w8 k114 b115 z116
   have m117 := m112.ext k114 (fun k hk => by subst hk; exact Nat.le_trans (Nat.le_trans k9.size k15.size) p19)
   refine ag (vb true) wN ?_
   refine wl_nil <| wq_then <| wc_ret <| wq_blk_ret <| wq_then_ret <| wq_then_ret <| wq_blk_ret <| wq_then_ret ?_
   have o118 := (own_ch o108 k114 (fun g hg hlt hk => by have h1 := (own_lt o108 g hg).1; have h2 := Nat.lt_of_lt_of_le p20 (t3 k25.size k31.size k94.size); omega))
   refine ret_2 (.inl rfl) (va (L_54 (F_spec_l16Cand (x_p.Cands.getD k z_PCand)) a106 c107)) (vb true) rfl (rv_c [(vi (((F_spec_l16Cand (x_p.Cands.getD k z_PCand)).A).Host)), (vi (((F_spec_l16Cand (x_p.Cands.getD k z_PCand)).A).Port)), (vs a106 ((F_spec_l16Cand (x_p.Cands.getD k z_PCand)).Draw).length c107), (vi ((F_spec_l16Cand (x_p.Cands.getD k z_PCand)).Until))] rfl b115 isAgg_54 sizeOf_54) rfl ?_
   refine ⟨m117.keep0, ?_⟩
   have hF119 : candS x_p x_a = ((F_spec_l16Cand (x_p.Cands.getD k z_PCand)), true) := by have hz : candAt x_p x_a = (k : Int) := findF_some (p := (fun c : PCand => decide (c.A.Host = x_a.Host) && decide (c.A.Port = x_a.Port))) (z := z_PCand) (by assumption) (by omega) (by assumption); simp only [candS, h27, h37, h100, hz]; rfl
   rw [hF119]
   exact ⟨_, _, rfl, (own_lo o118 (t6 k9.size k15.size k21.size k25.size k31.size k94.size)), s109, ⟨trivial, trivial⟩⟩

def F_spec_l1Same (x_a : List UInt8) (x_b : List UInt8) : (Bool) := (eqS (ByteArray.mk x_a.toArray) (ByteArray.mk x_b.toArray))
theorem C_spec_l1Same (w0 : World) (v_x_a : Value) (x_a : List UInt8) (r_x_a : R_22 w0 v_x_a x_a) (v_x_b : Value) (x_b : List UInt8) (r_x_b : R_22 w0 v_x_b x_b)  : Fn Try.prog 94 #[v_x_a, v_x_b] w0 (fun v w' => Keep w0 w' ∧ O_4 w' w0.heap.size v (F_spec_l1Same x_a x_b)) := by
 obtain ⟨a1, c2, rfl, r3, s4⟩ := r_x_a
 obtain ⟨a6, c7, rfl, r8, s9⟩ := r_x_b
 refine fn_of (n := 10) (l := [(vs a1 x_a.length c2), (vs a6 x_b.length c7), U, U, U, U, U, U, U, U]) Try.func94 rfl rfl (by kernel_rfl) rfl ?_
 refine sr ?_
 refine ag (vb false) wN ?_
 refine nx ?_
 refine mv (vs a1 x_a.length c2) wN ?_
 refine wl_b2s x_a wN rfl rfl rfl rfl Try.underlying22 Try.underlying5 Try.underlying9 r3 ?_
 refine mv (vs a6 x_b.length c7) wN ?_
 refine wl_b2s x_b wN rfl rfl rfl rfl Try.underlying22 Try.underlying5 Try.underlying9 r8 ?_
 refine pu (vb (eqS (ByteArray.mk x_a.toArray) (ByteArray.mk x_b.toArray))) wN ?_
 refine ag (vb (eqS (ByteArray.mk x_a.toArray) (ByteArray.mk x_b.toArray))) wN ?_
 refine wl_nil <| wq_then <| wc_ret ?_
 refine ret_1 (.inl rfl) (vb (eqS (ByteArray.mk x_a.toArray) (ByteArray.mk x_b.toArray))) rfl rfl ?_
 refine ⟨Ch.refl _ _, ?_⟩
 have hF11 : F_spec_l1Same x_a x_b = (eqS (ByteArray.mk x_a.toArray) (ByteArray.mk x_b.toArray)) := by rfl
 rw [hF11]
 exact rfl

def O_59_4 (w : World) (lo : Nat) (v : Value) (x : (PPaths) × (Bool)) : Prop := ∃ (a1 : Option Addr) (c1 : Nat), v = .tuple #[.agg #[.int .i64 x.1.At.Host, .int .i64 x.1.At.Port, .slice a1 x.1.Cands.length c1], .bool x.2] ∧ OLv LT_54 w lo w.heap.size a1 x.1.Cands.length c1 x.1.Cands ∧ x.1.Cands.length ≤ 1073741824 ∧ Aps [(a1, c1)]
def F_spec_Answer (x_p : PPaths) (x_now : Int) (x_a : PAddr) (x_draw : List UInt8) : (PPaths) × (Bool) := bif ((candS x_p x_a).2) then (bif (F_spec_l1In x_now 0 1000000) then (bif (F_spec_l1Same (((candS x_p x_a).1).Draw) x_draw) then (bif (decide (((candS x_p x_a).1).Until < x_now)) then (((x_p), false)) else (({ At := x_a, Cands := ((x_p.Cands.take x_p.Cands.length).filter (fun c : PCand => !(decide (c.A.Host = x_a.Host) && decide (c.A.Port = x_a.Port)))) : PPaths }, true))) else (((x_p), false))) else (((x_p), false))) else (((x_p), false))
theorem C_spec_Answer (w0 : World) (v_x_p : Value) (x_p : PPaths) (r_x_p : R_59 w0 v_x_p x_p) (x_now : Int) (v_x_a : Value) (x_a : PAddr) (r_x_a : R_26 w0 v_x_a x_a) (v_x_draw : Value) (x_draw : List UInt8) (r_x_draw : R_22 w0 v_x_draw x_draw)  : Fn Try.prog 57 #[v_x_p, (vi x_now), v_x_a, v_x_draw] w0 (fun v w' => Keep w0 w' ∧ O_59_4 w' w0.heap.size v (F_spec_Answer x_p x_now x_a x_draw)) := by
 obtain ⟨a1, c2, rfl, r3, s4⟩ := r_x_p
 obtain rfl := r_x_a
 obtain ⟨a6, c7, rfl, r8, s9⟩ := r_x_draw
 refine fn_of (n := 71) (l := [(va (L_59 x_p a1 c2)), (vi x_now), (va (L_26 x_a)), (vs a6 x_draw.length c7), U, U, U, U, U, U, U, U, U, U, U, U, U, U, U, U, U, U, U, U, U, U, U, U, U, U, U, U, U, U, U, U, U, U, U, U, U, U, U, U, U, U, U, U, U, U, U, U, U, U, U, U, U, U, U, U, U, U, U, U, U, U, U, U, U, U, U]) Try.func57 rfl rfl (by kernel_rfl) rfl ?_
 refine sr ?_
 refine bx (L_59 x_p a1 c2) wN ?_
 intro g11 w1 p12 p13 k14 b15
 have m16 := (Ch.base w0).extk k14
 refine bx (L_26 x_a) wN ?_
 intro g17 w2 p18 p19 k20 b21
 have m22 := m16.extk k20
 refine al [(vi 0), (vi 0), (vs none 0 0)] wN zero_59 ?_
 intro g23 w3 p24 p25 k26 b27
 have m28 := m22.extk k26
 refine ag (vb false) wN ?_
 refine nx ?_
 have b29 := ((b15.kp k20).kp k26)
 refine lN (L_59 x_p a1 c2) wN isAgg_59 sizeOf_59 b29 ?_
 have b30 := (b21.kp k26)
 refine lN (L_26 x_a) wN isAgg_26 sizeOf_26 b30 ?_
 refine cl wN (C_spec_CandOf w3 _ x_p (mR_59 (r3.from0 m28) s4) _ x_a (mR_26)) ?_
 rintro _ w4 ⟨k31, ⟨a32, c33, rfl, o34, s35, ap37⟩⟩
 have m38 := m28.extk k31
 refine mv (.tuple #[(va (L_54 ((candS x_p x_a).1) a32 c33)), (vb ((candS x_p x_a).2))]) wN ?_
 refine pu (va (L_54 ((candS x_p x_a).1) a32 c33)) wN ?_
 refine pu (vb ((candS x_p x_a).2)) wN ?_
 refine al [(vi 0), (vi 0), (vs none 0 0), (vi 0)] wN zero_54 ?_
 intro g39 w5 p40 p41 k42 b43
 have m44 := m38.extk k42
 refine st (va (L_54 ((candS x_p x_a).1) a32 c33)) (L_54 ((candS x_p x_a).1) a32 c33) (L_54 ((candS x_p x_a).1) a32 c33) wN sizeOf_54 b43 ?_
 intro w6 k45 b46 z47
 have m48 := m44.ext k45 (fun k hk => by subst hk; exact Nat.le_trans (t4 k14.size k20.size k26.size k31.size) p40)
 refine ag (vb ((candS x_p x_a).2)) wN ?_
 refine wl_nil <| wq_then <| wc_seq <| sr ?_
 refine mv (vb ((candS x_p x_a).2)) wN ?_
 refine pu (vb (!((candS x_p x_a).2))) wN ?_
 refine mv (vb (!((candS x_p x_a).2))) wN ?_
 rcases bf ((candS x_p x_a).2) with h49 | h49
 ·refine sk (congrArg not h49) ?_
  refine sk (congrArg not h49) ?_
  refine sk (congrArg not h49) ?_
  refine pk (vb true) wN (congrArg not h49) ?_
  refine mv (vb true) wN ?_
  refine sk (Eq.refl true) ?_
  refine sk (Eq.refl true) ?_
  refine sk (Eq.refl true) ?_
  refine sk (Eq.refl true) ?_
  refine sk (Eq.refl true) ?_
  refine pk (vb true) wN (Eq.refl true) ?_
  refine mv (vb true) wN ?_
  refine sk (Eq.refl true) ?_
  refine sk (Eq.refl true) ?_
  refine sk (Eq.refl true) ?_
  refine sk (Eq.refl true) ?_
  refine pk (vb true) wN (Eq.refl true) ?_
  refine wl_nil <| wq_then ?_
  refine ct (Eq.refl true) ?_
  refine sr ?_
  have b361 := (((b29.kp k31).kp k42).ch k45 (Nat.ne_of_lt (Nat.lt_of_lt_of_le p13 (Nat.le_trans (t3 k20.size k26.size k31.size) p40))))
  refine lN (L_59 x_p a1 c2) wN isAgg_59 sizeOf_59 b361 ?_
  refine cl wN (C_spec_l16Copy w6 _ x_p (mR_59 (r3.from0 m48) s4)) ?_
  rintro _ w7 ⟨k362, ⟨a363, c364, rfl, o365, s366, ap368⟩⟩
  have m369 := m48.extk k362
  obtain ⟨y370, o371⟩ := OLv.ow o365
  have b372 := ((((b27.kp k31).kp k42).ch k45 (Nat.ne_of_lt (Nat.lt_of_lt_of_le p25 (Nat.le_trans k31.size p40)))).kp k362)
  refine st (va (L_59 (x_p) a363 c364)) (L_59 (x_p) a363 c364) (L_59 (x_p) a363 c364) wN sizeOf_59 b372 ?_
  intro w8 k373 b374 z375
  have m376 := m369.ext k373 (fun k hk => by subst hk; exact Nat.le_trans (Nat.le_trans k14.size k20.size) p24)
  refine ag (vb false) wN ?_
  refine wl_nil <| wq_then <| wc_ret <| wq_then_ret ?_
  have o377 := (OLv.ch o365 k373 (fun g h1 h2 hk => by have h3 := Nat.lt_of_lt_of_le p25 (t3 k31.size k42.size k45.size); omega))
  refine ret_2 (.inl rfl) (va (L_59 (x_p) a363 c364)) (vb false) rfl (rv_c [(vi (((x_p).At).Host)), (vi (((x_p).At).Port)), (vs a363 ((x_p).Cands).length c364)] rfl b374 isAgg_59 sizeOf_59) rfl ?_
  refine ⟨m376.keep0, ?_⟩
  have hF378 : F_spec_Answer x_p x_now x_a x_draw = ((x_p), false) := by simp only [F_spec_Answer, h49, cond_true, cond_false]
  rw [hF378]
  exact ⟨_, _, rfl, (OLv.now (OLv.low o377 (t6 k14.size k20.size k26.size k31.size k42.size k45.size))), s366, ⟨trivial, trivial⟩⟩
 refine mv (vi x_now) (wS (congrArg not h49)) ?_
 refine cl (wS (congrArg not h49)) (C_spec_l1In w6 x_now 0 1000000) ?_
 rintro _ w7 ⟨k51, rfl⟩
 have m52 := m48.extk k51
 refine pu (vb (!(F_spec_l1In x_now 0 1000000))) (wS (congrArg not h49)) ?_
 refine pf (vb (!(F_spec_l1In x_now 0 1000000))) wN (congrArg not h49) ?_
 refine mv (vb (!(F_spec_l1In x_now 0 1000000))) wN ?_
 rcases bf (F_spec_l1In x_now 0 1000000) with h53 | h53
 ·have q341 := spec_l1In_f h53
  refine sk (congrArg not h53) ?_
  refine sk (congrArg not h53) ?_
  refine sk (congrArg not h53) ?_
  refine sk (congrArg not h53) ?_
  refine sk (congrArg not h53) ?_
  refine pk (vb true) wN (congrArg not h53) ?_
  refine mv (vb true) wN ?_
  refine sk (Eq.refl true) ?_
  refine sk (Eq.refl true) ?_
  refine sk (Eq.refl true) ?_
  refine sk (Eq.refl true) ?_
  refine pk (vb true) wN (Eq.refl true) ?_
  refine wl_nil <| wq_then ?_
  refine ct (Eq.refl true) ?_
  refine sr ?_
  have b342 := ((((b29.kp k31).kp k42).ch k45 (Nat.ne_of_lt (Nat.lt_of_lt_of_le p13 (Nat.le_trans (t3 k20.size k26.size k31.size) p40)))).kp k51)
  refine lN (L_59 x_p a1 c2) wN isAgg_59 sizeOf_59 b342 ?_
  refine cl wN (C_spec_l16Copy w7 _ x_p (mR_59 (r3.from0 m52) s4)) ?_
  rintro _ w8 ⟨k343, ⟨a344, c345, rfl, o346, s347, ap349⟩⟩
  have m350 := m52.extk k343
  obtain ⟨y351, o352⟩ := OLv.ow o346
  have b353 := (((((b27.kp k31).kp k42).ch k45 (Nat.ne_of_lt (Nat.lt_of_lt_of_le p25 (Nat.le_trans k31.size p40)))).kp k51).kp k343)
  refine st (va (L_59 (x_p) a344 c345)) (L_59 (x_p) a344 c345) (L_59 (x_p) a344 c345) wN sizeOf_59 b353 ?_
  intro w9 k354 b355 z356
  have m357 := m350.ext k354 (fun k hk => by subst hk; exact Nat.le_trans (Nat.le_trans k14.size k20.size) p24)
  refine ag (vb false) wN ?_
  refine wl_nil <| wq_then <| wc_ret <| wq_then_ret ?_
  have o358 := (OLv.ch o346 k354 (fun g h1 h2 hk => by have h3 := Nat.lt_of_lt_of_le p25 (t4 k31.size k42.size k45.size k51.size); omega))
  refine ret_2 (.inl rfl) (va (L_59 (x_p) a344 c345)) (vb false) rfl (rv_c [(vi (((x_p).At).Host)), (vi (((x_p).At).Port)), (vs a344 ((x_p).Cands).length c345)] rfl b355 isAgg_59 sizeOf_59) rfl ?_
  refine ⟨m357.keep0, ?_⟩
  have hF359 : F_spec_Answer x_p x_now x_a x_draw = ((x_p), false) := by simp only [F_spec_Answer, h49, h53, cond_true, cond_false]
  rw [hF359]
  exact ⟨_, _, rfl, (OLv.now (OLv.low o358 (t7 k14.size k20.size k26.size k31.size k42.size k45.size k51.size))), s347, ⟨trivial, trivial⟩⟩
 have q54 := spec_l1In_t h53
 refine pu (vp g39 2) (wS (congrArg not h53)) ?_
 have b55 := (b46.kp k51)
 refine ld (vs a32 (((candS x_p x_a).1).Draw).length c33) (wS (congrArg not h53)) isAgg_22 b55 ?_
 refine mv (vs a6 x_draw.length c7) (wS (congrArg not h53)) ?_
 have o56 := (own_kp (own_ch (own_kp o34 k42) k45 (fun g hg hlt hk => by have h1 := (own_lt o34 g hg).2; have h2 := Nat.le_trans (Nat.le_refl w4.heap.size) p40; omega)) k51)
 refine cl (wS (congrArg not h53)) (C_spec_l1Same w7 _ (((candS x_p x_a).1).Draw) (mR_22 (Rd.of_own o56) s35) _ x_draw (mR_22 (r8.from0 m52) s9)) ?_
 rintro _ w8 ⟨k57, rfl⟩
 have m58 := m52.extk k57
 refine pu (vb (!(F_spec_l1Same (((candS x_p x_a).1).Draw) x_draw))) (wS (congrArg not h53)) ?_
 refine pf (vb (!(F_spec_l1Same (((candS x_p x_a).1).Draw) x_draw))) wN (congrArg not h53) ?_
 refine mv (vb (!(F_spec_l1Same (((candS x_p x_a).1).Draw) x_draw))) wN ?_
 rcases bf (F_spec_l1Same (((candS x_p x_a).1).Draw) x_draw) with h59 | h59
 ·refine sk (congrArg not h59) ?_
  refine sk (congrArg not h59) ?_
  refine sk (congrArg not h59) ?_
  refine sk (congrArg not h59) ?_
  refine pk (vb true) wN (congrArg not h59) ?_
  refine wl_nil <| wq_then ?_
  refine ct (Eq.refl true) ?_
  refine sr ?_
  have b323 := (((((b29.kp k31).kp k42).ch k45 (Nat.ne_of_lt (Nat.lt_of_lt_of_le p13 (Nat.le_trans (t3 k20.size k26.size k31.size) p40)))).kp k51).kp k57)
  refine lN (L_59 x_p a1 c2) wN isAgg_59 sizeOf_59 b323 ?_
  refine cl wN (C_spec_l16Copy w8 _ x_p (mR_59 (r3.from0 m58) s4)) ?_
  rintro _ w9 ⟨k324, ⟨a325, c326, rfl, o327, s328, ap330⟩⟩
  have m331 := m58.extk k324
  obtain ⟨y332, o333⟩ := OLv.ow o327
  have b334 := ((((((b27.kp k31).kp k42).ch k45 (Nat.ne_of_lt (Nat.lt_of_lt_of_le p25 (Nat.le_trans k31.size p40)))).kp k51).kp k57).kp k324)
  refine st (va (L_59 (x_p) a325 c326)) (L_59 (x_p) a325 c326) (L_59 (x_p) a325 c326) wN sizeOf_59 b334 ?_
  intro w10 k335 b336 z337
  have m338 := m331.ext k335 (fun k hk => by subst hk; exact Nat.le_trans (Nat.le_trans k14.size k20.size) p24)
  refine ag (vb false) wN ?_
  refine wl_nil <| wq_then <| wc_ret <| wq_then_ret ?_
  have o339 := (OLv.ch o327 k335 (fun g h1 h2 hk => by have h3 := Nat.lt_of_lt_of_le p25 (t5 k31.size k42.size k45.size k51.size k57.size); omega))
  refine ret_2 (.inl rfl) (va (L_59 (x_p) a325 c326)) (vb false) rfl (rv_c [(vi (((x_p).At).Host)), (vi (((x_p).At).Port)), (vs a325 ((x_p).Cands).length c326)] rfl b336 isAgg_59 sizeOf_59) rfl ?_
  refine ⟨m338.keep0, ?_⟩
  have hF340 : F_spec_Answer x_p x_now x_a x_draw = ((x_p), false) := by simp only [F_spec_Answer, h49, h53, h59, cond_true, cond_false]
  rw [hF340]
  exact ⟨_, _, rfl, (OLv.now (OLv.low o339 (t8 k14.size k20.size k26.size k31.size k42.size k45.size k51.size k57.size))), s328, ⟨trivial, trivial⟩⟩
 refine mv (vi x_now) (wS (congrArg not h59)) ?_
 refine pu (vp g39 3) (wS (congrArg not h59)) ?_
 have b61 := (b55.kp k57)
 refine ld (vi (((candS x_p x_a).1).Until)) (wS (congrArg not h59)) isAgg_3 b61 ?_
 refine pu (vb (decide (((candS x_p x_a).1).Until < x_now))) (wS (congrArg not h59)) ?_
 refine pf (vb (decide (((candS x_p x_a).1).Until < x_now))) wN (congrArg not h59) ?_
 refine wl_nil <| wq_then ?_
 rcases bt (decide (((candS x_p x_a).1).Until < x_now)) with h62 | h62
 ·have q63 := of_decide_eq_true h62
  refine ct h62 ?_
  refine sr ?_
  have b64 := (((((b29.kp k31).kp k42).ch k45 (Nat.ne_of_lt (Nat.lt_of_lt_of_le p13 (Nat.le_trans (t3 k20.size k26.size k31.size) p40)))).kp k51).kp k57)
  refine lN (L_59 x_p a1 c2) wN isAgg_59 sizeOf_59 b64 ?_
  refine cl wN (C_spec_l16Copy w8 _ x_p (mR_59 (r3.from0 m58) s4)) ?_
  rintro _ w9 ⟨k65, ⟨a66, c67, rfl, o68, s69, ap71⟩⟩
  have m72 := m58.extk k65
  obtain ⟨y73, o74⟩ := OLv.ow o68
  have b75 := ((((((b27.kp k31).kp k42).ch k45 (Nat.ne_of_lt (Nat.lt_of_lt_of_le p25 (Nat.le_trans k31.size p40)))).kp k51).kp k57).kp k65)
  refine st (va (L_59 (x_p) a66 c67)) (L_59 (x_p) a66 c67) (L_59 (x_p) a66 c67) wN sizeOf_59 b75 ?_
  intro w10 k76 b77 z78
  have m79 := m72.ext k76 (fun k hk => by subst hk; exact Nat.le_trans (Nat.le_trans k14.size k20.size) p24)
  refine ag (vb false) wN ?_
  refine wl_nil <| wq_then <| wc_ret <| wq_then_ret ?_
  have o80 := (OLv.ch o68 k76 (fun g h1 h2 hk => by have h3 := Nat.lt_of_lt_of_le p25 (t5 k31.size k42.size k45.size k51.size k57.size); omega))
  refine ret_2 (.inl rfl) (va (L_59 (x_p) a66 c67)) (vb false) rfl (rv_c [(vi (((x_p).At).Host)), (vi (((x_p).At).Port)), (vs a66 ((x_p).Cands).length c67)] rfl b77 isAgg_59 sizeOf_59) rfl ?_
  refine ⟨m79.keep0, ?_⟩
  have hF81 : F_spec_Answer x_p x_now x_a x_draw = ((x_p), false) := by simp only [F_spec_Answer, h49, h53, h59, h62, cond_true, cond_false]
  rw [hF81]
  exact ⟨_, _, rfl, (OLv.now (OLv.low o80 (t8 k14.size k20.size k26.size k31.size k42.size k45.size k51.size k57.size))), s69, ⟨trivial, trivial⟩⟩
 have q82 := of_decide_eq_false h62
 refine cf h62 ?_
 refine wc_skip <| wq_then <| sr ?_
 have b83 := (((((b30.kp k31).kp k42).ch k45 (Nat.ne_of_lt (Nat.lt_of_lt_of_le p19 (Nat.le_trans (Nat.le_trans k26.size k31.size) p40)))).kp k51).kp k57)
 refine lN (L_26 x_a) wN isAgg_26 sizeOf_26 b83 ?_
 refine pu (va [(vi x_a.Host), (vi x_a.Port), (vs none 0 0)]) wN ?_
 refine al [(vi 0), (vi 0), (vs none 0 0)] wN zero_59 ?_
 intro g84 w9 p85 p86 k87 b88
 have m89 := m58.extk k87
 refine st (va [(vi x_a.Host), (vi x_a.Port), (vs none 0 0)]) [(vi x_a.Host), (vi x_a.Port), (vs none 0 0)] [(vi x_a.Host), (vi x_a.Port), (vs none 0 0)] wN sizeOf_59 b88 ?_
 intro w10 k90 b91 z92
 have m93 := m89.ext k90 (fun k hk => by subst hk; exact Nat.le_trans (t8 k14.size k20.size k26.size k31.size k42.size k45.size k51.size k57.size) p85)
 refine wl_nil <| wq_then <| wc_seq <| sr ?_
 refine ag (vi 0) wN ?_
 refine wl_nil <| wq_then <| wc_block ?_
 have hE95 : (([] : List (PCand)) : List (PCand)) = (x_p.Cands.take 0).filter (fun c : PCand => !(decide (c.A.Host = x_a.Host) && decide (c.A.Port = x_a.Port))) := by first | rfl | exact filt_t (z := z_PCand) (by omega) (by first | assumption | (simp only [Bool.not_eq_true']; assumption)) | exact filt_f (z := z_PCand) (by omega) (by first | assumption | (simp only [Bool.not_eq_false']; assumption))
 refine wc_normQ (fun e => [e 0, e 1, e 2, e 3, e 4, e 5, e 6, e 7, e 8, e 9, e 10, e 11, e 12, (vi ((0 : Nat) : Int)), e 14, e 15, e 16, e 17, e 18, e 19, e 20, e 21, e 22, e 23, e 24, e 25, e 26, e 27, e 28, e 29, e 30, e 31, e 32, e 33, e 34, e 35, e 36, e 37, e 38, e 39, e 40, e 41, e 42, e 43, e 44, e 45, e 46, e 47, e 48, e 49, e 50, e 51, e 52, e 53, e 54, e 55, e 56, e 57, e 58, e 59, e 60, e 61, e 62, e 63, e 64, e 65, e 66, e 67, e 68, e 69, e 70]) rfl ⟨rfl, rfl, rfl, rfl, rfl, rfl, rfl, rfl, rfl, rfl, rfl, rfl, rfl, (congrArg (Value.int .i64) (show (0 : Int) = ((0 : Nat) : Int) by omega)), rfl, rfl, rfl, rfl, rfl, rfl, rfl, rfl, rfl, rfl, rfl, rfl, rfl, rfl, rfl, rfl, rfl, rfl, rfl, rfl, rfl, rfl, rfl, rfl, rfl, rfl, rfl, rfl, rfl, rfl, rfl, rfl, rfl, rfl, rfl, rfl, rfl, rfl, rfl, rfl, rfl, rfl, rfl, rfl, rfl, rfl, rfl, rfl, rfl, rfl, rfl, rfl, rfl, rfl, rfl, rfl, rfl, trivial⟩ ?_
 refine wc_loop (fun e' w' => ∃ (kq : Nat) (u94 : Nat → Value) (ab12_2x : Option Addr) (cb12_2x : Nat), e' = lst [(u94 0), (u94 1), (u94 2), (u94 3), (vp g11 0), (u94 4), (vp g17 0), (u94 5), (vp g23 0), (vb false), (u94 6), (u94 7), (vp g84 0), (vi ((kq : Nat) : Int)), (u94 8), (u94 9), (u94 10), (u94 11), (u94 12), (u94 13), (u94 14), (u94 15), (u94 16), (u94 17), (u94 18), (u94 19), (u94 20), (u94 21), (u94 22), (u94 23), (u94 24), (u94 25), (u94 26), (u94 27), (u94 28), (u94 29), (u94 30), (u94 31), (u94 32), (u94 33), (u94 34), (u94 35), (u94 36), (u94 37), (u94 38), (u94 39), (u94 40), (u94 41), (u94 42), (u94 43), (u94 44), (u94 45), (u94 46), (u94 47), (u94 48), (u94 49), (u94 50), (u94 51), (u94 52), (u94 53), (u94 54), (u94 55), (u94 56), (u94 57), (u94 58), (u94 59), (u94 60), (u94 61), (u94 62), (u94 63), U] ∧ Ch (fun k => w0.heap.size ≤ k) w0 w' ∧ Ch (fun k => w8.heap.size ≤ k) w10 w' ∧ kq ≤ x_p.Cands.length ∧ (OLv LT_54 w' w10.heap.size w'.heap.size ab12_2x ((x_p.Cands.take kq).filter (fun c : PCand => !(decide (c.A.Host = x_a.Host) && decide (c.A.Port = x_a.Port)))).length cb12_2x ((x_p.Cands.take kq).filter (fun c : PCand => !(decide (c.A.Host = x_a.Host) && decide (c.A.Port = x_a.Port)))) ∧ ((x_p.Cands.take kq).filter (fun c : PCand => !(decide (c.A.Host = x_a.Host) && decide (c.A.Port = x_a.Port)))).length ≤ 1073741824) ∧ Blk w' g84 59 [(vi x_a.Host), (vi x_a.Port), (.slice ab12_2x ((x_p.Cands.take kq).filter (fun c : PCand => !(decide (c.A.Host = x_a.Host) && decide (c.A.Port = x_a.Port)))).length cb12_2x)]) (fun e' _ => x_p.Cands.length - ((intOf (e' 13))).toNat) ?_ ?_
 ·exact ⟨0, (unL [_, _, _, _, U, U, _, _, _, _, _, _, _, _, _, _, _, _, _, _, _, _, _, _, _, _, _, _, _, _, _, _, _, _, U, U, _, _, U, U, U, U, U, U, U, U, U, U, U, U, U, U, U, U, U, U, U, U, U, U, U, U, U, U]), none, 0, rfl, m93, (Ch.refl (fun k => w8.heap.size ≤ k) w10), (by omega), (hE95 ▸ ⟨(OLv.nil w10 w10.heap.size w10.heap.size LT_54), (by simp)⟩), b91⟩
 ·rintro _ w11 ⟨kq, u94, ab12_2x, cb12_2x, rfl, m96, k97, i98, ⟨o99, s100⟩, hbx12⟩
  obtain ⟨y102, o103⟩ := OLv.ow o99
  refine wc_seq <| sr ?_
  refine mv (vi ((kq : Nat) : Int)) wN ?_
  refine pu (vp g11 2) wN ?_
  have b104 := ((((((((b29.kp k31).kp k42).ch k45 (Nat.ne_of_lt (Nat.lt_of_lt_of_le p13 (Nat.le_trans (t3 k20.size k26.size k31.size) p40)))).kp k51).kp k57).kp k87).ch k90 (Nat.ne_of_lt (Nat.lt_of_lt_of_le p13 (Nat.le_trans (t7 k20.size k26.size k31.size k42.size k45.size k51.size k57.size) p85)))).ch k97 (Nat.not_le.2 (Nat.lt_of_lt_of_le p13 (t7 k20.size k26.size k31.size k42.size k45.size k51.size k57.size))))
  refine ld (vs a1 x_p.Cands.length c2) wN isAgg_57 b104 ?_
  obtain ⟨y105, r106⟩ := RLv.row (r3.from0 m96)
  refine ln wN slTy_57 r106 ?_
  refine pu (vb (decide (((kq : Nat) : Int) < (x_p.Cands.length : Int)))) wN ?_
  refine wl_nil <| wq_then ?_
  rcases bf (decide (((kq : Nat) : Int) < (x_p.Cands.length : Int))) with h107 | h107
  ·have q314 := of_decide_eq_false h107
   refine cf h107 ?_
   refine wc_exit <| wq_then_exit ?_
   obtain rfl : kq = x_p.Cands.length := by omega
   refine wq_then_exit <| wq_blk_exit <| wq_then <| sr ?_
   refine lN [(vi x_a.Host), (vi x_a.Port), (vs ab12_2x ((x_p.Cands.take x_p.Cands.length).filter (fun c : PCand => !(decide (c.A.Host = x_a.Host) && decide (c.A.Port = x_a.Port)))).length cb12_2x)] wN isAgg_59 sizeOf_59 hbx12 ?_
   have b315 := ((((((((b27.kp k31).kp k42).ch k45 (Nat.ne_of_lt (Nat.lt_of_lt_of_le p25 (Nat.le_trans k31.size p40)))).kp k51).kp k57).kp k87).ch k90 (Nat.ne_of_lt (Nat.lt_of_lt_of_le p25 (Nat.le_trans (t5 k31.size k42.size k45.size k51.size k57.size) p85)))).ch k97 (Nat.not_le.2 (Nat.lt_of_lt_of_le p25 (t5 k31.size k42.size k45.size k51.size k57.size))))
   refine st (va [(vi x_a.Host), (vi x_a.Port), (vs ab12_2x ((x_p.Cands.take x_p.Cands.length).filter (fun c : PCand => !(decide (c.A.Host = x_a.Host) && decide (c.A.Port = x_a.Port)))).length cb12_2x)]) [(vi x_a.Host), (vi x_a.Port), (vs ab12_2x ((x_p.Cands.take x_p.Cands.length).filter (fun c : PCand => !(decide (c.A.Host = x_a.Host) && decide (c.A.Port = x_a.Port)))).length cb12_2x)] [(vi x_a.Host), (vi x_a.Port), (vs ab12_2x ((x_p.Cands.take x_p.Cands.length).filter (fun c : PCand => !(decide (c.A.Host = x_a.Host) && decide (c.A.Port = x_a.Port)))).length cb12_2x)] wN sizeOf_59 b315 ?_
   intro w12 k316 b317 z318
   have m319 := m96.ext k316 (fun k hk => by subst hk; exact Nat.le_trans (Nat.le_trans k14.size k20.size) p24)
   refine ag (vb true) wN ?_
   refine wl_nil <| wq_then <| wc_ret ?_
   have o320 := (OLv.ch o99 k316 (fun g h1 h2 hk => by have h3 := Nat.lt_of_lt_of_le p25 (t7 k31.size k42.size k45.size k51.size k57.size k87.size k90.size); omega))
   refine ret_2 (.inl rfl) (va [(vi x_a.Host), (vi x_a.Port), (vs ab12_2x ((x_p.Cands.take x_p.Cands.length).filter (fun c : PCand => !(decide (c.A.Host = x_a.Host) && decide (c.A.Port = x_a.Port)))).length cb12_2x)]) (vb true) rfl (rv_c [(vi x_a.Host), (vi x_a.Port), (vs ab12_2x ((x_p.Cands.take x_p.Cands.length).filter (fun c : PCand => !(decide (c.A.Host = x_a.Host) && decide (c.A.Port = x_a.Port)))).length cb12_2x)] rfl b317 isAgg_59 sizeOf_59) rfl ?_
   refine ⟨m319.keep0, ?_⟩
   have hF321 : F_spec_Answer x_p x_now x_a x_draw = ({ At := x_a, Cands := ((x_p.Cands.take x_p.Cands.length).filter (fun c : PCand => !(decide (c.A.Host = x_a.Host) && decide (c.A.Port = x_a.Port)))) : PPaths }, true) := by simp only [F_spec_Answer, h49, h53, h59, h62, h107, cond_true, cond_false]
   rw [hF321]
   exact ⟨_, _, rfl, (OLv.now (OLv.low o320 (t10 k14.size k20.size k26.size k31.size k42.size k45.size k51.size k57.size k87.size k90.size))), s100, ⟨trivial, trivial⟩⟩
  have q108 := of_decide_eq_true h107
  refine ct h107 ?_
  refine wc_skip <| wq_then <| wc_seq <| wc_block <| wc_seq ?_
  obtain ⟨y124, l125, r126, e127, u128⟩ := RLv.el z_PCand (i := kq) r3 (by first | omega | (simp only [List.length_cons, List.length_nil, List.length_replicate, List.length_append, List.length_take, List.length_set, List.length_map]; omega))
  obtain ⟨a129, c130, l134, rfl, r131, s132, u135⟩ := SubR.c u128
  obtain rfl := SubR.n u135
  refine wc_drawT ([(51, [], [], (fun _ v _ => v = (vp g11 2))), (52, [], [0], (fun _ v _ => v = (vs a1 x_p.Cands.length c2))), (53, [], [], (fun _ v _ => v = (vi ((kq : Nat) : Int)))), (54, [], [0, 1, 2], (fun _ v _ => v = (ve (vs a1 x_p.Cands.length c2) ((((kq : Nat) : Int)).toNat * 4)))), (55, [], [0, 1, 2, 3], (fun _ v _ => v = (ve (vs a1 x_p.Cands.length c2) ((((kq : Nat) : Int)).toNat * 4 + 0)))), (56, [], [0, 1, 2, 3, 4], (fun _ v _ => v = (.agg #[(vi (((x_p.Cands.getD kq z_PCand).A).Host)), (vi (((x_p.Cands.getD kq z_PCand).A).Port))]))), (57, [], [], (fun _ v _ => v = (.agg #[(vi x_a.Host), (vi x_a.Port)])))] : GV) (fun _ w' => Keep w11 w') [] mixed rfl (by kernel_rfl) (by kernel_rfl) ?_ (fun _ _ h => h) (fun _ _ _ _ h _ k => h.trans k) trivial ?_ ?_ ?_
  ·exact ⟨(fun _ _ _ _ h _ => h), (fun _ _ _ _ _ h => h), ⟨(fun _ _ _ _ h _ => h), (fun _ _ _ _ _ h => h), ⟨(fun _ _ _ _ h _ => h), (fun _ _ _ _ _ h => h), ⟨(fun _ _ _ _ h _ => h), (fun _ _ _ _ _ h => h), ⟨(fun _ _ _ _ h _ => h), (fun _ _ _ _ _ h => h), ⟨(fun _ _ _ _ h _ => h), (fun _ _ _ _ _ h => h), ⟨(fun _ _ _ _ h _ => h), (fun _ _ _ _ _ h => h), trivial⟩⟩⟩⟩⟩⟩⟩
  ·exact trivial
  ·refine ⟨?_, ⟨?_, ⟨?_, ⟨?_, ⟨?_, ⟨?_, ⟨?_, trivial⟩⟩⟩⟩⟩⟩⟩
   ·intro _ w12 k139 _
    have m140 := m96.extk k139
    rintro _ _ _ _ _ _ _
    show WL _ _ _ _ _ _ _
    refine pu (vp g11 2) wN ?_
    exact wl_finT (Ch.refl _ _) rfl
   ·intro _ w12 k141 _
    have m142 := m96.extk k141
    rintro _ rfl _ _ _ _ _ _
    show WL _ _ _ _ _ _ _
    have b143 := (b104.kp k141)
    refine ld (vs a1 x_p.Cands.length c2) wN isAgg_57 b143 ?_
    exact wl_finT (Ch.refl _ _) rfl
   ·intro _ w12 k144 _
    have m145 := m96.extk k144
    rintro _ _ _ _ _ _ _
    show WL _ _ _ _ _ _ _
    refine mv (vi ((kq : Nat) : Int)) wN ?_
    exact wl_finT (Ch.refl _ _) rfl
   ·intro _ w12 k146 _
    have m147 := m96.extk k146
    rintro _ rfl _ rfl _ rfl _ _ _ _
    show WL _ _ _ _ _ _ _
    obtain ⟨y149, r150⟩ := RLv.row (r3.from0 m147)
    refine wl_index wN ((kq : Nat) : Int) rfl rfl rfl slTy_57 rfl rfl r150 (by first | omega | (simp only [List.length_cons, List.length_nil, List.length_replicate, List.length_append, List.length_take, List.length_set, List.length_map]; omega)) (by first | omega | (simp only [List.length_cons, List.length_nil, List.length_replicate, List.length_append, List.length_take, List.length_set, List.length_map]; omega)) ?_
    exact wl_finT (Ch.refl _ _) rfl
   ·intro _ w12 k151 _
    have m152 := m96.extk k151
    rintro _ rfl _ rfl _ rfl _ rfl _ _ _
    show WL _ _ _ _ _ _ _
    refine wl_fieldE wN rfl rfl rfl fieldAt_54_0 rfl (r126.from0 m152) (by omega) ?_
    exact wl_finT (Ch.refl _ _) rfl
   ·intro _ w12 k156 _
    have m157 := m96.extk k156
    rintro _ rfl _ rfl _ rfl _ rfl _ rfl _ _
    show WL _ _ _ _ _ _ _
    refine wl_loadEN (L_26 ((x_p.Cands.getD kq z_PCand).A)) wN rfl rfl rfl rfl isAgg_26 sizeOf_26 (r126.from0 m157) (by first | omega | (simp only [List.length_cons, List.length_nil, List.length_replicate, List.length_append, List.length_take, List.length_set, List.length_map]; omega)) ((part_of (off := 0) (n := 2) e127 (by first | rfl | simp | omega) (by decide)).trans rfl) ?_
    exact wl_finT (Ch.refl _ _) rfl
   ·intro _ w12 k161 _
    have m162 := m96.extk k161
    rintro _ _ _ _ _ _ _
    show WL _ _ _ _ _ _ _
    have b163 := ((((b83.kp k87).ch k90 (Nat.ne_of_lt (Nat.lt_of_lt_of_le p19 (Nat.le_trans (t6 k26.size k31.size k42.size k45.size k51.size k57.size) p85)))).ch k97 (Nat.not_le.2 (Nat.lt_of_lt_of_le p19 (t6 k26.size k31.size k42.size k45.size k51.size k57.size)))).kp k161)
    refine lN (L_26 x_a) wN isAgg_26 sizeOf_26 b163 ?_
    exact wl_finT (Ch.refl _ _) rfl
  ·intro _ w12 k164
   have m165 := m96.extk k164
   rintro _ rfl _ rfl _ rfl _ rfl _ rfl _ rfl _ rfl
   show WL _ _ _ _ _ _ _
   refine wl_aggne ((decide ((((x_p.Cands.getD kq z_PCand).A).Host) = x_a.Host) && decide ((((x_p.Cands.getD kq z_PCand).A).Port) = x_a.Port))) wN rfl rfl rfl rfl rfl guardt_26 (aggeq_26 (((x_p.Cands.getD kq z_PCand).A).Host) x_a.Host (((x_p.Cands.getD kq z_PCand).A).Port) x_a.Port w12) ?_
   refine wl_nil <| wq_then ?_
   rcases bt (decide ((((x_p.Cands.getD kq z_PCand).A).Host) = x_a.Host) && decide ((((x_p.Cands.getD kq z_PCand).A).Port) = x_a.Port)) with h170 | h170
   ·refine cf (congrArg not h170) ?_
    refine wc_skip <| wq_blk_normal <| wq_then <| wc_region ?_
    refine mv (vi ((kq : Nat) : Int)) wN ?_
    refine ar (((kq : Nat) : Int) + 1) wN ?_
    refine ag (vi (((kq : Nat) : Int) + 1)) wN ?_
    refine wl_nil ?_
    have o172 := (OLv.kp o99 k164)
    have hE173 : (((x_p.Cands.take kq).filter (fun c : PCand => !(decide (c.A.Host = x_a.Host) && decide (c.A.Port = x_a.Port)))) : List (PCand)) = (x_p.Cands.take (kq + 1)).filter (fun c : PCand => !(decide (c.A.Host = x_a.Host) && decide (c.A.Port = x_a.Port))) := by first | rfl | exact filt_t (z := z_PCand) (by omega) (by first | assumption | (simp only [Bool.not_eq_true']; assumption)) | exact filt_f (z := z_PCand) (by omega) (by first | assumption | (simp only [Bool.not_eq_false']; assumption))
    have b174 := (hbx12.kp k164)
    refine wq_loopQ (w0 := w11) (fun e => [e 0, e 1, e 2, e 3, e 4, e 5, e 6, e 7, e 8, e 9, e 10, e 11, e 12, (vi (((kq + 1) : Nat) : Int)), e 14, e 15, e 16, e 17, e 18, e 19, e 20, e 21, e 22, e 23, e 24, e 25, e 26, e 27, e 28, e 29, e 30, e 31, e 32, e 33, e 34, e 35, e 36, e 37, e 38, e 39, e 40, e 41, e 42, e 43, e 44, e 45, e 46, e 47, e 48, e 49, e 50, e 51, e 52, e 53, e 54, e 55, e 56, e 57, e 58, e 59, e 60, e 61, e 62, e 63, e 64, e 65, e 66, e 67, e 68, e 69, e 70]) rfl ?_ ?_ ?_
    · exact ⟨rfl, rfl, rfl, rfl, rfl, rfl, rfl, rfl, rfl, rfl, rfl, rfl, rfl, (congrArg (Value.int .i64) (show ((((kq : Nat) : Int) + 1) : Int) = (((kq + 1) : Nat) : Int) by omega)), rfl, rfl, rfl, rfl, rfl, rfl, rfl, rfl, rfl, rfl, rfl, rfl, rfl, rfl, rfl, rfl, rfl, rfl, rfl, rfl, rfl, rfl, rfl, rfl, rfl, rfl, rfl, rfl, rfl, rfl, rfl, rfl, rfl, rfl, rfl, rfl, rfl, rfl, rfl, rfl, rfl, rfl, rfl, rfl, rfl, rfl, rfl, rfl, rfl, rfl, rfl, rfl, rfl, rfl, rfl, rfl, rfl, trivial⟩
    · exact ⟨(kq + 1), (unL [_, _, _, _, _, _, _, _, _, _, _, _, _, _, _, _, _, _, _, _, _, _, _, _, _, _, _, _, _, _, _, _, _, _, _, _, _, _, _, _, _, _, _, _, _, _, _, _, _, _, _, _, _, _, _, _, _, _, _, _, _, _, _, _]), ab12_2x, cb12_2x, rfl, m165, (((Ch.refl (fun k => w8.heap.size ≤ k) w10).ext k97 (fun k hk => Nat.le_trans (Nat.le_refl w8.heap.size) hk)).extk k164), (by omega), (hE173 ▸ ⟨(OLv.now o172), s100⟩), (by have hb := b174; rw [hE173] at hb; exact hb)⟩
    · show x_p.Cands.length - ((((kq + 1) : Nat) : Int)).toNat < x_p.Cands.length - (((kq : Nat) : Int)).toNat; omega
   refine ct (congrArg not h170) ?_
   refine wc_drawT ([(59, [], [], (fun _ v _ => v = (vp g84 2))), (60, [], [0], (fun _ v _ => v = (vs ab12_2x ((x_p.Cands.take kq).filter (fun c : PCand => !(decide (c.A.Host = x_a.Host) && decide (c.A.Port = x_a.Port)))).length cb12_2x))), (61, [], [], (fun _ v _ => v = (vp g11 2))), (62, [], [2], (fun _ v _ => v = (vs a1 x_p.Cands.length c2))), (63, [], [], (fun _ v _ => v = (vi ((kq : Nat) : Int)))), (64, [], [2, 3, 4], (fun _ v _ => v = (ve (vs a1 x_p.Cands.length c2) ((((kq : Nat) : Int)).toNat * 4)))), (65, [], [2, 3, 4, 5], (fun _ v _ => v = (.agg #[(vi (((x_p.Cands.getD kq z_PCand).A).Host)), (vi (((x_p.Cands.getD kq z_PCand).A).Port)), (vs a129 (x_p.Cands.getD kq z_PCand).Draw.length c130), (vi ((x_p.Cands.getD kq z_PCand).Until))]))), (66, [], [2, 3, 4, 5, 6], (fun _ v w => ∃ (a1 : Option Addr) (c1 : Nat), v = .agg #[.int .i64 (((F_spec_l16Cand (x_p.Cands.getD kq z_PCand)).A).Host), .int .i64 (((F_spec_l16Cand (x_p.Cands.getD kq z_PCand)).A).Port), .slice a1 ((F_spec_l16Cand (x_p.Cands.getD kq z_PCand)).Draw).length c1, .int .i64 ((F_spec_l16Cand (x_p.Cands.getD kq z_PCand)).Until)] ∧ w.ownsRow (w12.heap.size) 5 1 (.slice a1 ((F_spec_l16Cand (x_p.Cands.getD kq z_PCand)).Draw).length c1) ((F_spec_l16Cand (x_p.Cands.getD kq z_PCand)).Draw).length (((F_spec_l16Cand (x_p.Cands.getD kq z_PCand)).Draw).map bV) ∧ ((F_spec_l16Cand (x_p.Cands.getD kq z_PCand)).Draw).length ≤ 1073741824 ∧ Aps [(a1, c1)])), (67, [66], [2, 3, 4, 5, 6, 7], (fun e v w => ∃ (a1 : Option Addr) (c1 : Nat), v = .slice a1 1 c1 ∧ w.ownsRow w12.heap.size 54 4 (.slice a1 1 c1) 1 [(vi (((F_spec_l16Cand (x_p.Cands.getD kq z_PCand)).A).Host)), (vi (((F_spec_l16Cand (x_p.Cands.getD kq z_PCand)).A).Port)), (cellAt (e 66) 2), (vi ((F_spec_l16Cand (x_p.Cands.getD kq z_PCand)).Until))]))] : GV) (fun _ w' => Keep w12 w') [] mixed rfl (by kernel_rfl) (by kernel_rfl) ?_ (fun _ _ h => h) (fun _ _ _ _ h _ k => h.trans k) trivial ?_ ?_ ?_
   ·exact ⟨(fun _ _ _ _ h _ => h), (fun _ _ _ _ _ h => h), ⟨(fun _ _ _ _ h _ => h), (fun _ _ _ _ _ h => h), ⟨(fun _ _ _ _ h _ => h), (fun _ _ _ _ _ h => h), ⟨(fun _ _ _ _ h _ => h), (fun _ _ _ _ _ h => h), ⟨(fun _ _ _ _ h _ => h), (fun _ _ _ _ _ h => h), ⟨(fun _ _ _ _ h _ => h), (fun _ _ _ _ _ h => h), ⟨(fun _ _ _ _ h _ => h), (fun _ _ _ _ _ h => h), ⟨(fun e v w w1 h hk => by obtain ⟨a0x, c0x, he, o0x, l0x, hap⟩ := h; exact ⟨a0x, c0x, he, own_kp o0x hk, l0x, hap⟩), (fun _ _ _ _ _ h => h), ⟨(fun e v w w1 h hk => by obtain ⟨a0x, c0x, he, o0x⟩ := h; exact ⟨a0x, c0x, he, own_kp o0x hk⟩), (fun e1 e2 v w hx h => by have h66x := hx 66 (by simp); simp only [h66x] at h; exact h), trivial⟩⟩⟩⟩⟩⟩⟩⟩⟩
   ·exact trivial
   ·refine ⟨?_, ⟨?_, ⟨?_, ⟨?_, ⟨?_, ⟨?_, ⟨?_, ⟨?_, ⟨?_, trivial⟩⟩⟩⟩⟩⟩⟩⟩⟩
    ·intro _ w13 k228 _
     have m229 := m165.extk k228
     rintro _ _ _ _ _ _ _ _ _
     show WL _ _ _ _ _ _ _
     refine pu (vp g84 2) wN ?_
     exact wl_finT (Ch.refl _ _) rfl
    ·intro _ w13 k230 _
     have m231 := m165.extk k230
     rintro _ rfl _ _ _ _ _ _ _ _
     show WL _ _ _ _ _ _ _
     have b232 := ((hbx12.kp k164).kp k230)
     refine ld (vs ab12_2x ((x_p.Cands.take kq).filter (fun c : PCand => !(decide (c.A.Host = x_a.Host) && decide (c.A.Port = x_a.Port)))).length cb12_2x) wN isAgg_57 b232 ?_
     exact wl_finT (Ch.refl _ _) rfl
    ·intro _ w13 k233 _
     have m234 := m165.extk k233
     rintro _ _ _ _ _ _ _ _ _
     show WL _ _ _ _ _ _ _
     refine pu (vp g11 2) wN ?_
     exact wl_finT (Ch.refl _ _) rfl
    ·intro _ w13 k235 _
     have m236 := m165.extk k235
     rintro _ _ _ rfl _ _ _ _ _ _
     show WL _ _ _ _ _ _ _
     have b237 := ((b104.kp k164).kp k235)
     refine ld (vs a1 x_p.Cands.length c2) wN isAgg_57 b237 ?_
     exact wl_finT (Ch.refl _ _) rfl
    ·intro _ w13 k238 _
     have m239 := m165.extk k238
     rintro _ _ _ _ _ _ _ _ _
     show WL _ _ _ _ _ _ _
     refine mv (vi ((kq : Nat) : Int)) wN ?_
     exact wl_finT (Ch.refl _ _) rfl
    ·intro _ w13 k240 _
     have m241 := m165.extk k240
     rintro _ _ _ rfl _ rfl _ rfl _ _ _ _
     show WL _ _ _ _ _ _ _
     obtain ⟨y243, r244⟩ := RLv.row (r3.from0 m241)
     refine wl_index wN ((kq : Nat) : Int) rfl rfl rfl slTy_57 rfl rfl r244 (by first | omega | (simp only [List.length_cons, List.length_nil, List.length_replicate, List.length_append, List.length_take, List.length_set, List.length_map]; omega)) (by first | omega | (simp only [List.length_cons, List.length_nil, List.length_replicate, List.length_append, List.length_take, List.length_set, List.length_map]; omega)) ?_
     exact wl_finT (Ch.refl _ _) rfl
    ·intro _ w13 k245 _
     have m246 := m165.extk k245
     rintro _ _ _ rfl _ rfl _ rfl _ rfl _ _ _
     show WL _ _ _ _ _ _ _
     refine wl_loadEN [(vi (((x_p.Cands.getD kq z_PCand).A).Host)), (vi (((x_p.Cands.getD kq z_PCand).A).Port)), (vs a129 (x_p.Cands.getD kq z_PCand).Draw.length c130), (vi ((x_p.Cands.getD kq z_PCand).Until))] wN rfl rfl rfl rfl isAgg_54 sizeOf_54 (r126.from0 m246) (by first | omega | (simp only [List.length_cons, List.length_nil, List.length_replicate, List.length_append, List.length_take, List.length_set, List.length_map]; omega)) ((part_of (off := 0) (n := 4) e127 (by first | rfl | simp | omega) (by decide)).trans rfl) ?_
     exact wl_finT (Ch.refl _ _) rfl
    ·intro _ w13 k250 _
     have m251 := m165.extk k250
     rintro _ _ _ rfl _ rfl _ rfl _ rfl _ rfl _ _
     show WL _ _ _ _ _ _ _
     refine cl wN (C_spec_l16Cand w13 _ (x_p.Cands.getD kq z_PCand) (mR_54 (r131.from0 m251) s132)) ?_
     rintro _ w14 ⟨k255, ⟨a256, c257, rfl, o258, s259, ap261⟩⟩
     have m262 := m251.extk k255
     exact wl_finT k255 ⟨_, _, rfl, (own_lo o258 k250.size), s259, ap261⟩
    ·intro _ w13 k263 _
     have m264 := m165.extk k263
     rintro _ _ _ rfl _ rfl _ rfl _ rfl _ rfl _ ⟨a268, c269, rfl, o270, s271, ap273⟩ _
     show WL _ _ _ _ _ _ _
     refine wl_lit [(vi (((F_spec_l16Cand (x_p.Cands.getD kq z_PCand)).A).Host)), (vi (((F_spec_l16Cand (x_p.Cands.getD kq z_PCand)).A).Port)), (vs a268 ((F_spec_l16Cand (x_p.Cands.getD kq z_PCand)).Draw).length c269), (vi ((F_spec_l16Cand (x_p.Cands.getD kq z_PCand)).Until))] wN rfl rfl slTy_57 (m := 1) rfl (by simp only [maxLen]; omega) (fun w => by kernel_rfl) ?_
     intro u274 w14 k275 o276
     obtain ⟨a277, c278, rfl⟩ := own_form o276
     have m279 := m264.extk k275
     exact wl_finT k275 ⟨_, _, rfl, own_lo o276 k263.size⟩
   ·intro _ w13 k281
    have m282 := m165.extk k281
    rintro _ rfl _ rfl _ rfl _ rfl _ rfl _ rfl _ rfl _ ⟨a287, c288, rfl, o289, s290, ap292⟩ _ ⟨a293, c294, rfl, o295⟩
    show WL _ _ _ _ _ _ _
    have o297 := (OLv.kp (OLv.kp o99 k164) k281)
    refine wl_appL (L := LT_54) (xs := ((x_p.Cands.take kq).filter (fun c : PCand => !(decide (c.A.Host = x_a.Host) && decide (c.A.Port = x_a.Port))))) (el := (F_spec_l16Cand (x_p.Cands.getD kq z_PCand))) (l := [(a287, c288)]) wN slTy_57 o297 (Rd.of_own o295) ⟨⟨(own_lo o289 k164.size), s290⟩, trivial⟩ ⟨trivial, trivial⟩ (Nat.le_refl _) k97.size (by first | omega | (simp only [List.length_take, List.length_append, List.length_cons, List.length_nil]; omega) | (refine Nat.le_trans (Nat.succ_le_succ (List.length_filter_le _ _)) ?_; simp only [List.length_take]; omega)) (t3 k97.size k164.size k281.size) ?_
    intro a298 c299 w14 k300 o301
    have m302 := m282.ext k300 (fun k hk => Nat.le_trans (t10 k14.size k20.size k26.size k31.size k42.size k45.size k51.size k57.size k87.size k90.size) (own_lt o103 k hk).1)
    obtain ⟨y305, o306⟩ := OLv.ow o301
    refine pu (vp g84 2) wN ?_
    have b307 := (((hbx12.kp k164).kp k281).ch k300 (fun h => by have := (own_lt o103 _ h).1; have := Nat.lt_of_lt_of_le p86 k90.size; omega))
    refine st (vs a298 (((x_p.Cands.take kq).filter (fun c : PCand => !(decide (c.A.Host = x_a.Host) && decide (c.A.Port = x_a.Port)))) ++ [(F_spec_l16Cand (x_p.Cands.getD kq z_PCand))]).length c299) [(vs a298 (((x_p.Cands.take kq).filter (fun c : PCand => !(decide (c.A.Host = x_a.Host) && decide (c.A.Port = x_a.Port)))) ++ [(F_spec_l16Cand (x_p.Cands.getD kq z_PCand))]).length c299)] [(vi x_a.Host), (vi x_a.Port), (vs a298 (((x_p.Cands.take kq).filter (fun c : PCand => !(decide (c.A.Host = x_a.Host) && decide (c.A.Port = x_a.Port)))) ++ [(F_spec_l16Cand (x_p.Cands.getD kq z_PCand))]).length c299)] wN sizeOf_57 b307 ?_
    intro w15 k308 b309 z310
    have m311 := m302.ext k308 (fun k hk => by subst hk; exact Nat.le_trans (t8 k14.size k20.size k26.size k31.size k42.size k45.size k51.size k57.size) p85)
    refine wl_nil <| wq_blk_normal <| wq_then <| wc_region ?_
    refine mv (vi ((kq : Nat) : Int)) wN ?_
    refine ar (((kq : Nat) : Int) + 1) wN ?_
    refine ag (vi (((kq : Nat) : Int) + 1)) wN ?_
    refine wl_nil ?_
    have o312 := (OLv.ch o301 k308 (fun g h1 h2 hk => by have h3 := Nat.lt_of_lt_of_le p86 k90.size; omega))
    have hE313 : ((((x_p.Cands.take kq).filter (fun c : PCand => !(decide (c.A.Host = x_a.Host) && decide (c.A.Port = x_a.Port)))) ++ [(F_spec_l16Cand (x_p.Cands.getD kq z_PCand))]) : List (PCand)) = (x_p.Cands.take (kq + 1)).filter (fun c : PCand => !(decide (c.A.Host = x_a.Host) && decide (c.A.Port = x_a.Port))) := by first | rfl | exact filt_t (z := z_PCand) (by omega) (by first | assumption | (simp only [Bool.not_eq_true']; assumption)) | exact filt_f (z := z_PCand) (by omega) (by first | assumption | (simp only [Bool.not_eq_false']; assumption))
    refine wq_loopQ (w0 := w11) (fun e => [e 0, e 1, e 2, e 3, e 4, e 5, e 6, e 7, e 8, e 9, e 10, e 11, e 12, (vi (((kq + 1) : Nat) : Int)), e 14, e 15, e 16, e 17, e 18, e 19, e 20, e 21, e 22, e 23, e 24, e 25, e 26, e 27, e 28, e 29, e 30, e 31, e 32, e 33, e 34, e 35, e 36, e 37, e 38, e 39, e 40, e 41, e 42, e 43, e 44, e 45, e 46, e 47, e 48, e 49, e 50, e 51, e 52, e 53, e 54, e 55, e 56, e 57, e 58, e 59, e 60, e 61, e 62, e 63, e 64, e 65, e 66, e 67, e 68, e 69, e 70]) rfl ?_ ?_ ?_
    · exact ⟨rfl, rfl, rfl, rfl, rfl, rfl, rfl, rfl, rfl, rfl, rfl, rfl, rfl, (congrArg (Value.int .i64) (show ((((kq : Nat) : Int) + 1) : Int) = (((kq + 1) : Nat) : Int) by omega)), rfl, rfl, rfl, rfl, rfl, rfl, rfl, rfl, rfl, rfl, rfl, rfl, rfl, rfl, rfl, rfl, rfl, rfl, rfl, rfl, rfl, rfl, rfl, rfl, rfl, rfl, rfl, rfl, rfl, rfl, rfl, rfl, rfl, rfl, rfl, rfl, rfl, rfl, rfl, rfl, rfl, rfl, rfl, rfl, rfl, rfl, rfl, rfl, rfl, rfl, rfl, rfl, rfl, rfl, rfl, rfl, rfl, trivial⟩
    · exact ⟨(kq + 1), (unL [_, _, _, _, _, _, _, _, _, _, _, _, _, _, _, _, _, _, _, _, _, _, _, _, _, _, _, _, _, _, _, _, _, _, _, _, _, _, _, _, _, _, _, _, _, _, _, _, _, _, _, _, _, _, _, _, _, _, _, _, _, _, _, _]), a298, c299, rfl, m311, ((((((Ch.refl (fun k => w8.heap.size ≤ k) w10).ext k97 (fun k hk => Nat.le_trans (Nat.le_refl w8.heap.size) hk)).extk k164).extk k281).ext k300 (fun k hk => Nat.le_trans (Nat.le_trans k87.size k90.size) (own_lt o103 k hk).1)).ext k308 (fun k hk => by subst hk; exact Nat.le_trans (Nat.le_refl w8.heap.size) p85)), (by omega), (hE313 ▸ ⟨(OLv.now o312), (OLv.small o301)⟩), (by have hb := b309; rw [hE313] at hb; exact hb)⟩
    · show x_p.Cands.length - ((((kq + 1) : Nat) : Int)).toNat < x_p.Cands.length - (((kq : Nat) : Int)).toNat; omega

def F_bytes_Equal (x_a : List UInt8) (x_b : List UInt8) : (Bool) := (eqS (ByteArray.mk x_a.toArray) (ByteArray.mk x_b.toArray))
theorem C_bytes_Equal (w0 : World) (v_x_a : Value) (x_a : List UInt8) (r_x_a : R_22 w0 v_x_a x_a) (v_x_b : Value) (x_b : List UInt8) (r_x_b : R_22 w0 v_x_b x_b)  : Fn Try.prog 93 #[v_x_a, v_x_b] w0 (fun v w' => Keep w0 w' ∧ O_4 w' w0.heap.size v (F_bytes_Equal x_a x_b)) := by
 obtain ⟨a1, c2, rfl, r3, s4⟩ := r_x_a
 obtain ⟨a6, c7, rfl, r8, s9⟩ := r_x_b
 refine fn_of (n := 10) (l := [(vs a1 x_a.length c2), (vs a6 x_b.length c7), U, U, U, U, U, U, U, U]) Try.func93 rfl rfl (by kernel_rfl) rfl ?_
 refine sr ?_
 refine ag (vb false) wN ?_
 refine nx ?_
 refine mv (vs a1 x_a.length c2) wN ?_
 refine wl_b2s x_a wN rfl rfl rfl rfl Try.underlying22 Try.underlying5 Try.underlying9 r3 ?_
 refine mv (vs a6 x_b.length c7) wN ?_
 refine wl_b2s x_b wN rfl rfl rfl rfl Try.underlying22 Try.underlying5 Try.underlying9 r8 ?_
 refine pu (vb (eqS (ByteArray.mk x_a.toArray) (ByteArray.mk x_b.toArray))) wN ?_
 refine ag (vb (eqS (ByteArray.mk x_a.toArray) (ByteArray.mk x_b.toArray))) wN ?_
 refine wl_nil <| wq_then <| wc_ret ?_
 refine ret_1 (.inl rfl) (vb (eqS (ByteArray.mk x_a.toArray) (ByteArray.mk x_b.toArray))) rfl rfl ?_
 refine ⟨Ch.refl _ _, ?_⟩
 have hF11 : F_bytes_Equal x_a x_b = (eqS (ByteArray.mk x_a.toArray) (ByteArray.mk x_b.toArray)) := by rfl
 rw [hF11]
 exact rfl

def F_impl_Answer (x_p : PPaths) (x_now : Int) (x_a : PAddr) (x_draw : List UInt8) : (PPaths) × (Bool) := bif (iPa x_p) then (bif (F_impl_within x_now 0 1000000) then (bif (decide ((candAt x_p x_a) < 0)) then (((x_p), false)) else (bif (F_bytes_Equal x_draw ((x_p.Cands.getD ((candAt x_p x_a)).toNat z_PCand).Draw)) then (bif (decide ((x_p.Cands.getD ((candAt x_p x_a)).toNat z_PCand).Until < x_now)) then (((x_p), false)) else (({ At := x_a, Cands := (((x_p).Cands).take (((candAt x_p x_a)).toNat) ++ ((x_p).Cands).drop ((((candAt x_p x_a) + 1)).toNat)) : PPaths }, true))) else (((x_p), false)))) else (((x_p), false))) else (((x_p), false))
theorem C_impl_Answer (w0 : World) (v_x_p : Value) (x_p : PPaths) (r_x_p : R_59 w0 v_x_p x_p) (x_now : Int) (v_x_a : Value) (x_a : PAddr) (r_x_a : R_26 w0 v_x_a x_a) (v_x_draw : Value) (x_draw : List UInt8) (r_x_draw : R_22 w0 v_x_draw x_draw)  : Fn Try.prog 46 #[v_x_p, (vi x_now), v_x_a, v_x_draw] w0 (fun v w' => Keep w0 w' ∧ O_59_4 w' w0.heap.size v (F_impl_Answer x_p x_now x_a x_draw)) := by
 obtain ⟨a1, c2, rfl, r3, s4⟩ := r_x_p
 obtain rfl := r_x_a
 obtain ⟨a6, c7, rfl, r8, s9⟩ := r_x_draw
 refine fn_of (n := 65) (l := [(va (L_59 x_p a1 c2)), (vi x_now), (va (L_26 x_a)), (vs a6 x_draw.length c7), U, U, U, U, U, U, U, U, U, U, U, U, U, U, U, U, U, U, U, U, U, U, U, U, U, U, U, U, U, U, U, U, U, U, U, U, U, U, U, U, U, U, U, U, U, U, U, U, U, U, U, U, U, U, U, U, U, U, U, U, U]) Try.func46 rfl rfl (by kernel_rfl) rfl ?_
 refine sr ?_
 refine bx (L_59 x_p a1 c2) wN ?_
 intro g11 w1 p12 p13 k14 b15
 have m16 := (Ch.base w0).extk k14
 refine bx (L_26 x_a) wN ?_
 intro g17 w2 p18 p19 k20 b21
 have m22 := m16.extk k20
 refine al [(vi 0), (vi 0), (vs none 0 0)] wN zero_59 ?_
 intro g23 w3 p24 p25 k26 b27
 have m28 := m22.extk k26
 refine ag (vb false) wN ?_
 refine nx ?_
 have b29 := ((b15.kp k20).kp k26)
 refine lN (L_59 x_p a1 c2) wN isAgg_59 sizeOf_59 b29 ?_
 refine cl wN (C_impl_copyPaths w3 _ x_p (mR_59 (r3.from0 m28) s4)) ?_
 rintro _ w4 ⟨k30, ⟨a31, c32, rfl, o33, s34, ap36⟩⟩
 have m37 := m28.extk k30
 obtain ⟨y38, o39⟩ := OLv.ow o33
 refine al [(vi 0), (vi 0), (vs none 0 0)] wN zero_59 ?_
 intro g40 w5 p41 p42 k43 b44
 have m45 := m37.extk k43
 refine st (va (L_59 (x_p) a31 c32)) (L_59 (x_p) a31 c32) (L_59 (x_p) a31 c32) wN sizeOf_59 b44 ?_
 intro w6 k46 b47 z48
 have m49 := m45.ext k46 (fun k hk => by subst hk; exact Nat.le_trans (t4 k14.size k20.size k26.size k30.size) p41)
 refine nx ?_
 have b50 := (((b29.kp k30).kp k43).ch k46 (Nat.ne_of_lt (Nat.lt_of_lt_of_le p13 (Nat.le_trans (t3 k20.size k26.size k30.size) p41))))
 refine lN (L_59 x_p a1 c2) wN isAgg_59 sizeOf_59 b50 ?_
 have b51 := ((((b21.kp k26).kp k30).kp k43).ch k46 (Nat.ne_of_lt (Nat.lt_of_lt_of_le p19 (Nat.le_trans (Nat.le_trans k26.size k30.size) p41))))
 refine lN (L_26 x_a) wN isAgg_26 sizeOf_26 b51 ?_
 refine cl wN (C_impl_candAt w6 _ x_p (mR_59 (r3.from0 m49) s4) _ x_a (mR_26)) ?_
 rintro _ w7 ⟨k52, rfl⟩
 have m53 := m49.extk k52
 have q54 := candAt_range x_p x_a
 refine ag (vi (candAt x_p x_a)) wN ?_
 refine wl_nil <| wq_then <| wc_seq <| sr ?_
 have b55 := (b50.kp k52)
 refine lN (L_59 x_p a1 c2) wN isAgg_59 sizeOf_59 b55 ?_
 refine cl wN (C_impl_PathsOk w7 _ x_p (mR_59 (r3.from0 m53) s4)) ?_
 rintro _ w8 ⟨k56, rfl⟩
 have m57 := m53.extk k56
 refine pu (vb (!(iPa x_p))) wN ?_
 refine mv (vb (!(iPa x_p))) wN ?_
 rcases bf (iPa x_p) with h58 | h58
 ·refine sk (congrArg not h58) ?_
  refine sk (congrArg not h58) ?_
  refine sk (congrArg not h58) ?_
  refine pk (vb true) wN (congrArg not h58) ?_
  refine mv (vb true) wN ?_
  refine sk (Eq.refl true) ?_
  refine sk (Eq.refl true) ?_
  refine pk (vb true) wN (Eq.refl true) ?_
  refine mv (vb true) wN ?_
  refine sk (Eq.refl true) ?_
  refine sk (Eq.refl true) ?_
  refine sk (Eq.refl true) ?_
  refine sk (Eq.refl true) ?_
  refine sk (Eq.refl true) ?_
  refine sk (Eq.refl true) ?_
  refine sk (Eq.refl true) ?_
  refine sk (Eq.refl true) ?_
  refine sk (Eq.refl true) ?_
  refine pk (vb true) wN (Eq.refl true) ?_
  refine mv (vb true) wN ?_
  refine sk (Eq.refl true) ?_
  refine sk (Eq.refl true) ?_
  refine sk (Eq.refl true) ?_
  refine sk (Eq.refl true) ?_
  refine sk (Eq.refl true) ?_
  refine sk (Eq.refl true) ?_
  refine sk (Eq.refl true) ?_
  refine sk (Eq.refl true) ?_
  refine pk (vb true) wN (Eq.refl true) ?_
  refine wl_nil <| wq_then ?_
  refine ct (Eq.refl true) ?_
  refine sr ?_
  have b250 := ((b47.kp k52).kp k56)
  refine lN (L_59 (x_p) a31 c32) wN isAgg_59 sizeOf_59 b250 ?_
  have b251 := (((((b27.kp k30).kp k43).ch k46 (Nat.ne_of_lt (Nat.lt_of_lt_of_le p25 (Nat.le_trans k30.size p41)))).kp k52).kp k56)
  refine st (va (L_59 (x_p) a31 c32)) (L_59 (x_p) a31 c32) (L_59 (x_p) a31 c32) wN sizeOf_59 b251 ?_
  intro w9 k252 b253 z254
  have m255 := m57.ext k252 (fun k hk => by subst hk; exact Nat.le_trans (Nat.le_trans k14.size k20.size) p24)
  refine ag (vb false) wN ?_
  refine wl_nil <| wq_then <| wc_ret <| wq_then_ret ?_
  have o256 := (OLv.ch (OLv.kp (OLv.kp (OLv.ch (OLv.kp o33 k43) k46 (fun g h1 h2 hk => by have h3 := Nat.le_trans (Nat.le_refl w4.heap.size) p41; omega)) k52) k56) k252 (fun g h1 h2 hk => by have h3 := Nat.lt_of_lt_of_le p25 (Nat.le_refl w3.heap.size); omega))
  refine ret_2 (.inl rfl) (va (L_59 (x_p) a31 c32)) (vb false) rfl (rv_c [(vi (((x_p).At).Host)), (vi (((x_p).At).Port)), (vs a31 ((x_p).Cands).length c32)] rfl b253 isAgg_59 sizeOf_59) rfl ?_
  refine ⟨m255.keep0, ?_⟩
  have hF257 : F_impl_Answer x_p x_now x_a x_draw = ((x_p), false) := by simp only [F_impl_Answer, h58, cond_true, cond_false]
  rw [hF257]
  exact ⟨_, _, rfl, (OLv.now (OLv.low o256 (t3 k14.size k20.size k26.size))), s34, ⟨trivial, trivial⟩⟩
 have q59 := iPa_t h58
 refine mv (vi x_now) (wS (congrArg not h58)) ?_
 refine cl (wS (congrArg not h58)) (C_impl_within w8 x_now 0 1000000) ?_
 rintro _ w9 ⟨k60, rfl⟩
 have m61 := m57.extk k60
 refine pu (vb (!(F_impl_within x_now 0 1000000))) (wS (congrArg not h58)) ?_
 refine pf (vb (!(F_impl_within x_now 0 1000000))) wN (congrArg not h58) ?_
 refine mv (vb (!(F_impl_within x_now 0 1000000))) wN ?_
 rcases bf (F_impl_within x_now 0 1000000) with h62 | h62
 ·have q240 := impl_within_f h62
  refine sk (congrArg not h62) ?_
  refine sk (congrArg not h62) ?_
  refine pk (vb true) wN (congrArg not h62) ?_
  refine mv (vb true) wN ?_
  refine sk (Eq.refl true) ?_
  refine sk (Eq.refl true) ?_
  refine sk (Eq.refl true) ?_
  refine sk (Eq.refl true) ?_
  refine sk (Eq.refl true) ?_
  refine sk (Eq.refl true) ?_
  refine sk (Eq.refl true) ?_
  refine sk (Eq.refl true) ?_
  refine sk (Eq.refl true) ?_
  refine pk (vb true) wN (Eq.refl true) ?_
  refine mv (vb true) wN ?_
  refine sk (Eq.refl true) ?_
  refine sk (Eq.refl true) ?_
  refine sk (Eq.refl true) ?_
  refine sk (Eq.refl true) ?_
  refine sk (Eq.refl true) ?_
  refine sk (Eq.refl true) ?_
  refine sk (Eq.refl true) ?_
  refine sk (Eq.refl true) ?_
  refine pk (vb true) wN (Eq.refl true) ?_
  refine wl_nil <| wq_then ?_
  refine ct (Eq.refl true) ?_
  refine sr ?_
  have b241 := (((b47.kp k52).kp k56).kp k60)
  refine lN (L_59 (x_p) a31 c32) wN isAgg_59 sizeOf_59 b241 ?_
  have b242 := ((((((b27.kp k30).kp k43).ch k46 (Nat.ne_of_lt (Nat.lt_of_lt_of_le p25 (Nat.le_trans k30.size p41)))).kp k52).kp k56).kp k60)
  refine st (va (L_59 (x_p) a31 c32)) (L_59 (x_p) a31 c32) (L_59 (x_p) a31 c32) wN sizeOf_59 b242 ?_
  intro w10 k243 b244 z245
  have m246 := m61.ext k243 (fun k hk => by subst hk; exact Nat.le_trans (Nat.le_trans k14.size k20.size) p24)
  refine ag (vb false) wN ?_
  refine wl_nil <| wq_then <| wc_ret <| wq_then_ret ?_
  have o247 := (OLv.ch (OLv.kp (OLv.kp (OLv.kp (OLv.ch (OLv.kp o33 k43) k46 (fun g h1 h2 hk => by have h3 := Nat.le_trans (Nat.le_refl w4.heap.size) p41; omega)) k52) k56) k60) k243 (fun g h1 h2 hk => by have h3 := Nat.lt_of_lt_of_le p25 (Nat.le_refl w3.heap.size); omega))
  refine ret_2 (.inl rfl) (va (L_59 (x_p) a31 c32)) (vb false) rfl (rv_c [(vi (((x_p).At).Host)), (vi (((x_p).At).Port)), (vs a31 ((x_p).Cands).length c32)] rfl b244 isAgg_59 sizeOf_59) rfl ?_
  refine ⟨m246.keep0, ?_⟩
  have hF248 : F_impl_Answer x_p x_now x_a x_draw = ((x_p), false) := by simp only [F_impl_Answer, h58, h62, cond_true, cond_false]
  rw [hF248]
  exact ⟨_, _, rfl, (OLv.now (OLv.low o247 (t3 k14.size k20.size k26.size))), s34, ⟨trivial, trivial⟩⟩
 have q63 := impl_within_t h62
 refine mv (vi (candAt x_p x_a)) (wS (congrArg not h62)) ?_
 refine pu (vb (decide ((candAt x_p x_a) < 0))) (wS (congrArg not h62)) ?_
 refine pf (vb (decide ((candAt x_p x_a) < 0))) wN (congrArg not h62) ?_
 refine mv (vb (decide ((candAt x_p x_a) < 0))) wN ?_
 rcases bt (decide ((candAt x_p x_a) < 0)) with h64 | h64
 ·have q65 := of_decide_eq_true h64
  refine sk h64 ?_
  refine sk h64 ?_
  refine sk h64 ?_
  refine sk h64 ?_
  refine sk h64 ?_
  refine sk h64 ?_
  refine sk h64 ?_
  refine sk h64 ?_
  refine sk h64 ?_
  refine pk (vb true) wN h64 ?_
  refine mv (vb true) wN ?_
  refine sk (Eq.refl true) ?_
  refine sk (Eq.refl true) ?_
  refine sk (Eq.refl true) ?_
  refine sk (Eq.refl true) ?_
  refine sk (Eq.refl true) ?_
  refine sk (Eq.refl true) ?_
  refine sk (Eq.refl true) ?_
  refine sk (Eq.refl true) ?_
  refine pk (vb true) wN (Eq.refl true) ?_
  refine wl_nil <| wq_then ?_
  refine ct (Eq.refl true) ?_
  refine sr ?_
  have b66 := (((b47.kp k52).kp k56).kp k60)
  refine lN (L_59 (x_p) a31 c32) wN isAgg_59 sizeOf_59 b66 ?_
  have b67 := ((((((b27.kp k30).kp k43).ch k46 (Nat.ne_of_lt (Nat.lt_of_lt_of_le p25 (Nat.le_trans k30.size p41)))).kp k52).kp k56).kp k60)
  refine st (va (L_59 (x_p) a31 c32)) (L_59 (x_p) a31 c32) (L_59 (x_p) a31 c32) wN sizeOf_59 b67 ?_
  intro w10 k68 b69 z70
  have m71 := m61.ext k68 (fun k hk => by subst hk; exact Nat.le_trans (Nat.le_trans k14.size k20.size) p24)
  refine ag (vb false) wN ?_
  refine wl_nil <| wq_then <| wc_ret <| wq_then_ret ?_
  have o72 := (OLv.ch (OLv.kp (OLv.kp (OLv.kp (OLv.ch (OLv.kp o33 k43) k46 (fun g h1 h2 hk => by have h3 := Nat.le_trans (Nat.le_refl w4.heap.size) p41; omega)) k52) k56) k60) k68 (fun g h1 h2 hk => by have h3 := Nat.lt_of_lt_of_le p25 (Nat.le_refl w3.heap.size); omega))
  refine ret_2 (.inl rfl) (va (L_59 (x_p) a31 c32)) (vb false) rfl (rv_c [(vi (((x_p).At).Host)), (vi (((x_p).At).Port)), (vs a31 ((x_p).Cands).length c32)] rfl b69 isAgg_59 sizeOf_59) rfl ?_
  refine ⟨m71.keep0, ?_⟩
  have hF73 : F_impl_Answer x_p x_now x_a x_draw = ((x_p), false) := by simp only [F_impl_Answer, h58, h62, h64, cond_true, cond_false]
  rw [hF73]
  exact ⟨_, _, rfl, (OLv.now (OLv.low o72 (t3 k14.size k20.size k26.size))), s34, ⟨trivial, trivial⟩⟩
 have q74 := of_decide_eq_false h64
 refine mv (vs a6 x_draw.length c7) (wS h64) ?_
 refine pu (vp g11 2) (wS h64) ?_
 have b75 := ((b55.kp k56).kp k60)
 refine ld (vs a1 x_p.Cands.length c2) (wS h64) isAgg_57 b75 ?_
 refine mv (vi (candAt x_p x_a)) (wS h64) ?_
 obtain ⟨y76, r77⟩ := RLv.row (r3.from0 m61)
 refine wl_index (wS h64) (candAt x_p x_a) rfl rfl rfl slTy_57 rfl rfl r77 (by first | omega | (simp only [List.length_cons, List.length_nil, List.length_replicate, List.length_append, List.length_take, List.length_set, List.length_map]; omega)) (by first | omega | (simp only [List.length_cons, List.length_nil, List.length_replicate, List.length_append, List.length_take, List.length_set, List.length_map]; omega)) ?_
 obtain ⟨y78, l79, r80, e81, u82⟩ := RLv.el z_PCand (i := ((candAt x_p x_a)).toNat) r3 (by first | omega | (simp only [List.length_cons, List.length_nil, List.length_replicate, List.length_append, List.length_take, List.length_set, List.length_map]; omega))
 obtain ⟨a83, c84, l88, rfl, r85, s86, u89⟩ := SubR.c u82
 obtain rfl := SubR.n u89
 refine wl_fieldE (wS h64) rfl rfl rfl fieldAt_54_1 rfl (r80.from0 m61) (by omega) ?_
 refine wl_loadE (vs a83 (x_p.Cands.getD ((candAt x_p x_a)).toNat z_PCand).Draw.length c84) (wS h64) rfl rfl rfl rfl isAgg_22 (r80.from0 m61) ((get_of (off := 2) e81 (by first | rfl | simp | omega) (by decide)).trans rfl) ?_
 refine cl (wS h64) (C_bytes_Equal w9 _ x_draw (mR_22 (r8.from0 m61) s9) _ ((x_p.Cands.getD ((candAt x_p x_a)).toNat z_PCand).Draw) (mR_22 (r85.from0 m61) s86)) ?_
 rintro _ w10 ⟨k90, rfl⟩
 have m91 := m61.extk k90
 refine pu (vb (!(F_bytes_Equal x_draw ((x_p.Cands.getD ((candAt x_p x_a)).toNat z_PCand).Draw)))) (wS h64) ?_
 refine pf (vb (!(F_bytes_Equal x_draw ((x_p.Cands.getD ((candAt x_p x_a)).toNat z_PCand).Draw)))) wN h64 ?_
 refine mv (vb (!(F_bytes_Equal x_draw ((x_p.Cands.getD ((candAt x_p x_a)).toNat z_PCand).Draw)))) wN ?_
 rcases bf (F_bytes_Equal x_draw ((x_p.Cands.getD ((candAt x_p x_a)).toNat z_PCand).Draw)) with h92 | h92
 ·refine sk (congrArg not h92) ?_
  refine sk (congrArg not h92) ?_
  refine sk (congrArg not h92) ?_
  refine sk (congrArg not h92) ?_
  refine sk (congrArg not h92) ?_
  refine sk (congrArg not h92) ?_
  refine sk (congrArg not h92) ?_
  refine sk (congrArg not h92) ?_
  refine pk (vb true) wN (congrArg not h92) ?_
  refine wl_nil <| wq_then ?_
  refine ct (Eq.refl true) ?_
  refine sr ?_
  have b232 := ((((b47.kp k52).kp k56).kp k60).kp k90)
  refine lN (L_59 (x_p) a31 c32) wN isAgg_59 sizeOf_59 b232 ?_
  have b233 := (((((((b27.kp k30).kp k43).ch k46 (Nat.ne_of_lt (Nat.lt_of_lt_of_le p25 (Nat.le_trans k30.size p41)))).kp k52).kp k56).kp k60).kp k90)
  refine st (va (L_59 (x_p) a31 c32)) (L_59 (x_p) a31 c32) (L_59 (x_p) a31 c32) wN sizeOf_59 b233 ?_
  intro w11 k234 b235 z236
  have m237 := m91.ext k234 (fun k hk => by subst hk; exact Nat.le_trans (Nat.le_trans k14.size k20.size) p24)
  refine ag (vb false) wN ?_
  refine wl_nil <| wq_then <| wc_ret <| wq_then_ret ?_
  have o238 := (OLv.ch (OLv.kp (OLv.kp (OLv.kp (OLv.kp (OLv.ch (OLv.kp o33 k43) k46 (fun g h1 h2 hk => by have h3 := Nat.le_trans (Nat.le_refl w4.heap.size) p41; omega)) k52) k56) k60) k90) k234 (fun g h1 h2 hk => by have h3 := Nat.lt_of_lt_of_le p25 (Nat.le_refl w3.heap.size); omega))
  refine ret_2 (.inl rfl) (va (L_59 (x_p) a31 c32)) (vb false) rfl (rv_c [(vi (((x_p).At).Host)), (vi (((x_p).At).Port)), (vs a31 ((x_p).Cands).length c32)] rfl b235 isAgg_59 sizeOf_59) rfl ?_
  refine ⟨m237.keep0, ?_⟩
  have hF239 : F_impl_Answer x_p x_now x_a x_draw = ((x_p), false) := by simp only [F_impl_Answer, h58, h62, h64, h92, cond_true, cond_false]
  rw [hF239]
  exact ⟨_, _, rfl, (OLv.now (OLv.low o238 (t3 k14.size k20.size k26.size))), s34, ⟨trivial, trivial⟩⟩
 refine mv (vi x_now) (wS (congrArg not h92)) ?_
 refine pu (vp g11 2) (wS (congrArg not h92)) ?_
 have b94 := (b75.kp k90)
 refine ld (vs a1 x_p.Cands.length c2) (wS (congrArg not h92)) isAgg_57 b94 ?_
 refine mv (vi (candAt x_p x_a)) (wS (congrArg not h92)) ?_
 obtain ⟨y95, r96⟩ := RLv.row (r3.from0 m91)
 refine wl_index (wS (congrArg not h92)) (candAt x_p x_a) rfl rfl rfl slTy_57 rfl rfl r96 (by first | omega | (simp only [List.length_cons, List.length_nil, List.length_replicate, List.length_append, List.length_take, List.length_set, List.length_map]; omega)) (by first | omega | (simp only [List.length_cons, List.length_nil, List.length_replicate, List.length_append, List.length_take, List.length_set, List.length_map]; omega)) ?_
 refine wl_fieldE (wS (congrArg not h92)) rfl rfl rfl fieldAt_54_2 rfl (r80.from0 m91) (by omega) ?_
 refine wl_loadE (vi ((x_p.Cands.getD ((candAt x_p x_a)).toNat z_PCand).Until)) (wS (congrArg not h92)) rfl rfl rfl rfl isAgg_3 (r80.from0 m91) ((get_of (off := 3) e81 (by first | rfl | simp | omega) (by decide)).trans rfl) ?_
 refine pu (vb (decide ((x_p.Cands.getD ((candAt x_p x_a)).toNat z_PCand).Until < x_now))) (wS (congrArg not h92)) ?_
 refine pf (vb (decide ((x_p.Cands.getD ((candAt x_p x_a)).toNat z_PCand).Until < x_now))) wN (congrArg not h92) ?_
 refine wl_nil <| wq_then ?_
 rcases bt (decide ((x_p.Cands.getD ((candAt x_p x_a)).toNat z_PCand).Until < x_now)) with h97 | h97
 ·have q98 := of_decide_eq_true h97
  refine ct h97 ?_
  refine sr ?_
  have b99 := ((((b47.kp k52).kp k56).kp k60).kp k90)
  refine lN (L_59 (x_p) a31 c32) wN isAgg_59 sizeOf_59 b99 ?_
  have b100 := (((((((b27.kp k30).kp k43).ch k46 (Nat.ne_of_lt (Nat.lt_of_lt_of_le p25 (Nat.le_trans k30.size p41)))).kp k52).kp k56).kp k60).kp k90)
  refine st (va (L_59 (x_p) a31 c32)) (L_59 (x_p) a31 c32) (L_59 (x_p) a31 c32) wN sizeOf_59 b100 ?_
  intro w11 k101 b102 z103
  have m104 := m91.ext k101 (fun k hk => by subst hk; exact Nat.le_trans (Nat.le_trans k14.size k20.size) p24)
  refine ag (vb false) wN ?_
  refine wl_nil <| wq_then <| wc_ret <| wq_then_ret ?_
  have o105 := (OLv.ch (OLv.kp (OLv.kp (OLv.kp (OLv.kp (OLv.ch (OLv.kp o33 k43) k46 (fun g h1 h2 hk => by have h3 := Nat.le_trans (Nat.le_refl w4.heap.size) p41; omega)) k52) k56) k60) k90) k101 (fun g h1 h2 hk => by have h3 := Nat.lt_of_lt_of_le p25 (Nat.le_refl w3.heap.size); omega))
  refine ret_2 (.inl rfl) (va (L_59 (x_p) a31 c32)) (vb false) rfl (rv_c [(vi (((x_p).At).Host)), (vi (((x_p).At).Port)), (vs a31 ((x_p).Cands).length c32)] rfl b102 isAgg_59 sizeOf_59) rfl ?_
  refine ⟨m104.keep0, ?_⟩
  have hF106 : F_impl_Answer x_p x_now x_a x_draw = ((x_p), false) := by simp only [F_impl_Answer, h58, h62, h64, h92, h97, cond_true, cond_false]
  rw [hF106]
  exact ⟨_, _, rfl, (OLv.now (OLv.low o105 (t3 k14.size k20.size k26.size))), s34, ⟨trivial, trivial⟩⟩
 have q107 := of_decide_eq_false h97
 refine cf h97 ?_
 refine wc_skip <| wq_then <| sr ?_
 have b108 := ((((b51.kp k52).kp k56).kp k60).kp k90)
 refine lN (L_26 x_a) wN isAgg_26 sizeOf_26 b108 ?_
 refine pu (vp g40 0) wN ?_
 have b109 := ((((b47.kp k52).kp k56).kp k60).kp k90)
 refine st (va (L_26 x_a)) (L_26 x_a) [(vi x_a.Host), (vi x_a.Port), (vs a31 ((x_p).Cands).length c32)] wN sizeOf_26 b109 ?_
 intro w11 k110 b111 z112
 have m113 := m91.ext k110 (fun k hk => by subst hk; exact Nat.le_trans (t4 k14.size k20.size k26.size k30.size) p41)
 refine wl_nil <| wq_then <| wc_seq ?_
 have o147 := (OLv.ch (OLv.kp (OLv.kp (OLv.kp (OLv.kp (OLv.ch (OLv.kp o33 k43) k46 (fun g h1 h2 hk => by have h3 := Nat.le_trans (Nat.le_refl w4.heap.size) p41; omega)) k52) k56) k60) k90) k110 (fun g h1 h2 hk => by have h3 := Nat.le_trans (Nat.le_refl w4.heap.size) p41; omega))
 obtain ⟨y148, h149, h150, o151, s152, p153, h154, l155⟩ := OLv.op o147
 refine wc_drawT ([(53, [], [], (fun _ v _ => v = (vp g40 2))), (54, [], [0], (fun _ v _ => v = (vs a31 ((x_p).Cands).length c32))), (55, [], [], (fun _ v _ => v = (vi (candAt x_p x_a)))), (56, [], [0, 1, 2], (fun _ v _ => v = (vs (subA a31 c32 0 4) (((candAt x_p x_a)).toNat - 0) (c32 - 0)))), (57, [], [], (fun _ v _ => v = (vp g40 2))), (58, [], [4], (fun _ v _ => v = (vs a31 ((x_p).Cands).length c32))), (59, [], [], (fun _ v _ => v = (vi (candAt x_p x_a)))), (60, [], [6], (fun _ v _ => v = (vi ((candAt x_p x_a) + 1)))), (61, [], [4, 5, 6, 7], (fun _ v _ => v = (vs (subA a31 c32 ((((candAt x_p x_a) + 1)).toNat) 4) (((x_p).Cands).length - ((((candAt x_p x_a) + 1)).toNat)) (c32 - ((((candAt x_p x_a) + 1)).toNat)))))] : GV) (fun _ w' => Keep w11 w') [] mixed rfl (by kernel_rfl) (by kernel_rfl) ?_ (fun _ _ h => h) (fun _ _ _ _ h _ k => h.trans k) trivial ?_ ?_ ?_
 ·exact ⟨(fun _ _ _ _ h _ => h), (fun _ _ _ _ _ h => h), ⟨(fun _ _ _ _ h _ => h), (fun _ _ _ _ _ h => h), ⟨(fun _ _ _ _ h _ => h), (fun _ _ _ _ _ h => h), ⟨(fun _ _ _ _ h _ => h), (fun _ _ _ _ _ h => h), ⟨(fun _ _ _ _ h _ => h), (fun _ _ _ _ _ h => h), ⟨(fun _ _ _ _ h _ => h), (fun _ _ _ _ _ h => h), ⟨(fun _ _ _ _ h _ => h), (fun _ _ _ _ _ h => h), ⟨(fun _ _ _ _ h _ => h), (fun _ _ _ _ _ h => h), ⟨(fun _ _ _ _ h _ => h), (fun _ _ _ _ _ h => h), trivial⟩⟩⟩⟩⟩⟩⟩⟩⟩
 ·exact trivial
 ·refine ⟨?_, ⟨?_, ⟨?_, ⟨?_, ⟨?_, ⟨?_, ⟨?_, ⟨?_, ⟨?_, trivial⟩⟩⟩⟩⟩⟩⟩⟩⟩
  ·intro _ w12 k160 _
   have m161 := m113.extk k160
   rintro _ _ _ _ _ _ _ _ _
   show WL _ _ _ _ _ _ _
   refine pu (vp g40 2) wN ?_
   exact wl_finT (Ch.refl _ _) rfl
  ·intro _ w12 k162 _
   have m163 := m113.extk k162
   rintro _ rfl _ _ _ _ _ _ _ _
   show WL _ _ _ _ _ _ _
   have b164 := (b111.kp k162)
   refine ld (vs a31 ((x_p).Cands).length c32) wN isAgg_57 b164 ?_
   exact wl_finT (Ch.refl _ _) rfl
  ·intro _ w12 k165 _
   have m166 := m113.extk k165
   rintro _ _ _ _ _ _ _ _ _
   show WL _ _ _ _ _ _ _
   refine mv (vi (candAt x_p x_a)) wN ?_
   exact wl_finT (Ch.refl _ _) rfl
  ·intro _ w12 k167 _
   have m168 := m113.extk k167
   rintro _ rfl _ rfl _ rfl _ _ _ _ _ _
   show WL _ _ _ _ _ _ _
   have o171 := (own_kp o151 k167)
   refine slvR 0 (((candAt x_p x_a)).toNat) wN slTy_57 (Rd.of_own o171) (by first | omega | (simp only [List.length_cons, List.length_nil, List.length_replicate, List.length_append, List.length_take, List.length_set, List.length_map]; omega)) (by first | omega | (simp only [List.length_cons, List.length_nil, List.length_replicate, List.length_append, List.length_take, List.length_set, List.length_map]; omega)) rfl rfl rfl rfl (.inl ⟨rfl, rfl⟩) (.inr ⟨_, _, _, rfl, rfl, by omega⟩) ?_
   exact wl_finT (Ch.refl _ _) rfl
  ·intro _ w12 k173 _
   have m174 := m113.extk k173
   rintro _ _ _ _ _ _ _ _ _
   show WL _ _ _ _ _ _ _
   refine pu (vp g40 2) wN ?_
   exact wl_finT (Ch.refl _ _) rfl
  ·intro _ w12 k175 _
   have m176 := m113.extk k175
   rintro _ _ _ _ _ rfl _ _ _ _
   show WL _ _ _ _ _ _ _
   have b177 := (b111.kp k175)
   refine ld (vs a31 ((x_p).Cands).length c32) wN isAgg_57 b177 ?_
   exact wl_finT (Ch.refl _ _) rfl
  ·intro _ w12 k178 _
   have m179 := m113.extk k178
   rintro _ _ _ _ _ _ _ _ _
   show WL _ _ _ _ _ _ _
   refine mv (vi (candAt x_p x_a)) wN ?_
   exact wl_finT (Ch.refl _ _) rfl
  ·intro _ w12 k180 _
   have m181 := m113.extk k180
   rintro _ _ _ _ _ _ _ rfl _ _
   show WL _ _ _ _ _ _ _
   refine ar ((candAt x_p x_a) + 1) wN ?_
   exact wl_finT (Ch.refl _ _) rfl
  ·intro _ w12 k182 _
   have m183 := m113.extk k182
   rintro _ _ _ _ _ rfl _ rfl _ rfl _ rfl _
   show WL _ _ _ _ _ _ _
   have o186 := (own_kp o151 k182)
   refine slvR ((((candAt x_p x_a) + 1)).toNat) (((x_p).Cands).length) wN slTy_57 (Rd.of_own o186) (by first | omega | (simp only [List.length_cons, List.length_nil, List.length_replicate, List.length_append, List.length_take, List.length_set, List.length_map]; omega)) (by first | omega | (simp only [List.length_cons, List.length_nil, List.length_replicate, List.length_append, List.length_take, List.length_set, List.length_map]; omega)) rfl rfl rfl rfl (.inr ⟨_, _, _, rfl, rfl, by omega⟩) (.inl ⟨rfl, rfl⟩) ?_
   exact wl_finT (Ch.refl _ _) rfl
 ·intro _ w12 k188
  have m189 := m113.extk k188
  rintro _ rfl _ rfl _ rfl _ rfl
  have o192 := (own_kp o151 k188)
  rintro _ rfl _ rfl _ rfl _ rfl _ rfl
  have o196 := (own_kp o151 k188)
  show WL _ _ _ _ _ _ _
  have o198 := (own_kp o151 k188)
  have s199 := (SubA.kp s152 k188)
  have o200 : w12.ownsRow w3.heap.size 54 4 (.slice (subA a31 c32 0 4) (((candAt x_p x_a)).toNat - 0) (c32 - 0)) ((candAt x_p x_a)).toNat ((y148.take ((candAt x_p x_a)).toNat).flatMap LT_54.enc) := by rw [subA0, Nat.sub_zero, Nat.sub_zero, ← rows_take LT_54.len]; exact own_take o198 (by omega)
  have r201 : Rd w12 4 (.slice (subA a31 c32 (((candAt x_p x_a) + 1)).toNat 4) (((x_p).Cands).length - (((candAt x_p x_a) + 1)).toNat) (c32 - (((candAt x_p x_a) + 1)).toNat)) (((x_p).Cands).length - (((candAt x_p x_a) + 1)).toNat) ((y148.drop (((candAt x_p x_a) + 1)).toNat).flatMap LT_54.enc) := by have hq9 := Rd.sub (lo := (((candAt x_p x_a) + 1)).toNat) (hi := ((x_p).Cands).length) (Rd.of_own o198) (by omega) (Nat.le_refl _); rw [rows_drop LT_54.len, List.take_of_length_le (by rw [rows_len LT_54.len, List.length_drop]; exact Nat.mul_le_mul_right _ (by omega))] at hq9; exact hq9
  refine wl_append wN rfl rfl rfl slTy_57 rfl rfl o200 r201 (rows_one (fun u => u.oneCell' = true) LT_54.one) (by omega) (by simp only [maxLen]; omega) (t9 k30.size k43.size k46.size k52.size k56.size k60.size k90.size k110.size k188.size) ?_
  intro u202 w13 k203 o204 j205
  have h209 : ((y148.take (((candAt x_p x_a)).toNat) ++ y148.drop ((((candAt x_p x_a) + 1)).toNat))).length = ((candAt x_p x_a)).toNat + (((x_p).Cands).length - (((candAt x_p x_a) + 1)).toNat) := by simp only [List.length_append, List.length_take, List.length_drop]; omega
  have o208 : w13.ownsRow w3.heap.size 54 4 u202 ((y148.take (((candAt x_p x_a)).toNat) ++ y148.drop ((((candAt x_p x_a) + 1)).toNat))).length (((y148.take (((candAt x_p x_a)).toNat) ++ y148.drop ((((candAt x_p x_a) + 1)).toNat))).flatMap LT_54.enc) := by rw [h209, List.flatMap_append]; exact o204
  obtain ⟨a206, c207, rfl⟩ := own_form o208
  have k210 : Ch (fun k => (Value.slice (subA a31 c32 0 4) (((candAt x_p x_a)).toNat - 0) (c32 - 0)).ownBlock = some k) w12 w13 := k203
  rw [subA0] at k210 o200
  rw [ownB a31 (((candAt x_p x_a)).toNat - 0) (c32 - 0) (((x_p).Cands).length) c32] at k210
  have m211 := m189.ext k210 (fun k hk => Nat.le_trans (t3 k14.size k20.size k26.size) (own_lt o39 k hk).1)
  have s212 := SubA.row s199 o198 k210
  have s214 : ((y148.take (((candAt x_p x_a)).toNat) ++ y148.drop ((((candAt x_p x_a) + 1)).toNat))).length ≤ 1073741824 := by omega
  refine pu (vp g40 2) wN ?_
  have b215 := ((b111.kp k188).ch k210 (fun h => by have := (own_lt o39 _ h).2; have := Nat.le_trans (Nat.le_refl w4.heap.size) p41; omega))
  refine st (vs a206 ((y148.take (((candAt x_p x_a)).toNat) ++ y148.drop ((((candAt x_p x_a) + 1)).toNat))).length c207) [(vs a206 ((y148.take (((candAt x_p x_a)).toNat) ++ y148.drop ((((candAt x_p x_a) + 1)).toNat))).length c207)] [(vi x_a.Host), (vi x_a.Port), (vs a206 ((y148.take (((candAt x_p x_a)).toNat) ++ y148.drop ((((candAt x_p x_a) + 1)).toNat))).length c207)] wN sizeOf_57 b215 ?_
  intro w14 k216 b217 z218
  have m219 := m211.ext k216 (fun k hk => by subst hk; exact Nat.le_trans (t4 k14.size k20.size k26.size k30.size) p41)
  refine nx ?_
  refine lN [(vi x_a.Host), (vi x_a.Port), (vs a206 ((y148.take (((candAt x_p x_a)).toNat) ++ y148.drop ((((candAt x_p x_a) + 1)).toNat))).length c207)] wN isAgg_59 sizeOf_59 b217 ?_
  have b220 := (((((((((((b27.kp k30).kp k43).ch k46 (Nat.ne_of_lt (Nat.lt_of_lt_of_le p25 (Nat.le_trans k30.size p41)))).kp k52).kp k56).kp k60).kp k90).ch k110 (Nat.ne_of_lt (Nat.lt_of_lt_of_le p25 (Nat.le_trans k30.size p41)))).kp k188).ch k210 (fun h => by have := (own_lt o39 _ h).1; have := Nat.lt_of_lt_of_le p25 (Nat.le_refl w3.heap.size); omega)).ch k216 (Nat.ne_of_lt (Nat.lt_of_lt_of_le p25 (Nat.le_trans k30.size p41))))
  refine st (va [(vi x_a.Host), (vi x_a.Port), (vs a206 ((y148.take (((candAt x_p x_a)).toNat) ++ y148.drop ((((candAt x_p x_a) + 1)).toNat))).length c207)]) [(vi x_a.Host), (vi x_a.Port), (vs a206 ((y148.take (((candAt x_p x_a)).toNat) ++ y148.drop ((((candAt x_p x_a) + 1)).toNat))).length c207)] [(vi x_a.Host), (vi x_a.Port), (vs a206 ((y148.take (((candAt x_p x_a)).toNat) ++ y148.drop ((((candAt x_p x_a) + 1)).toNat))).length c207)] wN sizeOf_59 b220 ?_
  intro w15 k221 b222 z223
  have m224 := m219.ext k221 (fun k hk => by subst hk; exact Nat.le_trans (Nat.le_trans k14.size k20.size) p24)
  refine ag (vb true) wN ?_
  refine wl_nil <| wq_then <| wc_ret ?_
  have o225 := (own_ch (own_blk o208 b215 (by decide) k216) k221 (fun g hg hlt hk => by have h1 := (own_lt o208 g hg).1; have h2 := Nat.lt_of_lt_of_le p25 (Nat.le_refl w3.heap.size); omega))
  refine ret_2 (.inl rfl) (va [(vi x_a.Host), (vi x_a.Port), (vs a206 ((y148.take (((candAt x_p x_a)).toNat) ++ y148.drop ((((candAt x_p x_a) + 1)).toNat))).length c207)]) (vb true) rfl (rv_c [(vi x_a.Host), (vi x_a.Port), (vs a206 ((y148.take (((candAt x_p x_a)).toNat) ++ y148.drop ((((candAt x_p x_a) + 1)).toNat))).length c207)] rfl b222 isAgg_59 sizeOf_59) rfl ?_
  refine ⟨m224.keep0, ?_⟩
  have hF226 : F_impl_Answer x_p x_now x_a x_draw = ({ At := x_a, Cands := (((x_p).Cands).take (((candAt x_p x_a)).toNat) ++ ((x_p).Cands).drop ((((candAt x_p x_a) + 1)).toNat)) : PPaths }, true) := by simp only [F_impl_Answer, h58, h62, h64, h92, h97, cond_true, cond_false]
  rw [hF226]
  have s227 := (SubA.ch (SubA.ch s212 h154 k216 (fun g h1 h2 hk => by have h3 := Nat.le_trans (Nat.le_refl w4.heap.size) p41; omega)) h154 k221 (fun g h1 h2 hk => by have h3 := Nat.lt_of_lt_of_le p25 (Nat.le_refl w3.heap.size); omega))
  have h229 : ((y148.take (((candAt x_p x_a)).toNat) ++ y148.drop ((((candAt x_p x_a) + 1)).toNat))).map Prod.fst = (((x_p).Cands).take (((candAt x_p x_a)).toNat) ++ ((x_p).Cands).drop ((((candAt x_p x_a) + 1)).toNat)) := (by rw [List.map_append, List.map_take, List.map_drop, h149])
  have o228 := OLv.subl o225 rfl s227 (by rw [show (((candAt x_p x_a) + 1)).toNat = ((candAt x_p x_a)).toNat + 1 by omega]; exact sub_cut _ _) p153 s214
  rw [h229] at o228
  have hN230 : ((y148.take (((candAt x_p x_a)).toNat) ++ y148.drop ((((candAt x_p x_a) + 1)).toNat))).length = ((((x_p).Cands).take (((candAt x_p x_a)).toNat) ++ ((x_p).Cands).drop ((((candAt x_p x_a) + 1)).toNat))).length := by rw [← h229, List.length_map]
  rw [hN230] at o228 ⊢
  exact ⟨_, _, rfl, (OLv.now (OLv.low o228 (t3 k14.size k20.size k26.size))), (by rw [← hN230]; exact s214), ⟨trivial, trivial⟩⟩

theorem isAgg_51 : ∀ w, (isAgg 51).run Try.prog w = .ok true w := fun w => by kernel_rfl
theorem sizeOf_51 : ∀ w, (sizeOf 51).run Try.prog w = .ok 3 w := fun w => by kernel_rfl
abbrev L_51 (x : PPaths) (a1 : Option Addr) (c1 : Nat) : List Value := [vi x.At.Host, vi x.At.Port, vs a1 x.Cands.length c1]
def Q_48 (w : World) (v : Value) (x : (PAddr)) : Prop := v = .agg #[.int .i64 x.Host, .int .i64 x.Port]
theorem mQ_51 {w : World} {x : PPaths} {a1 : Option Addr} {c1 : Nat} (h1 : RLv LT_166 w 9223372036854775807 a1 x.Cands.length c1 x.Cands) (l1 : x.Cands.length ≤ 9223372036854775807) : Q_51 w (va (L_51 x a1 c1)) x := ⟨_, _, rfl, h1, l1⟩
theorem mR_51 {w : World} {x : PPaths} {a1 : Option Addr} {c1 : Nat} (h1 : RLv LT_166 w 1073741824 a1 x.Cands.length c1 x.Cands) (l1 : x.Cands.length ≤ 1073741824) : R_51 w (va (L_51 x a1 c1)) x := ⟨_, _, rfl, h1, l1⟩
def F_laws_FnExactAnswer (x_aP : PPaths) (x_aNow : Int) (x_aA : PAddr) (x_aDraw : List UInt8) : (Bool) := bif (decide (1048576 < (x_aDraw.length : Int))) then (true) else (bif (decide ((F_laws_szPaths x_aP 1048576) < 0)) then (true) else (bif (F_laws_eqPaths ((F_impl_Answer (F_laws_toPaths x_aP) x_aNow (F_laws_toAddr x_aA) (cpB x_aDraw)).1) ((F_spec_Answer (F_laws_toPaths x_aP) x_aNow (F_laws_toAddr x_aA) (cpB x_aDraw)).1)) then (bif (((F_impl_Answer (F_laws_toPaths x_aP) x_aNow (F_laws_toAddr x_aA) (cpB x_aDraw)).2) == ((F_spec_Answer (F_laws_toPaths x_aP) x_aNow (F_laws_toAddr x_aA) (cpB x_aDraw)).2)) then (bif (F_laws_eqPaths (F_laws_toPaths x_aP) (F_laws_toPaths x_aP)) then (bif (eqB (cpB x_aDraw) (cpB x_aDraw)) then (bif (decide (((1 + totL wt_PCand ((F_laws_toPaths x_aP).Cands)) + ((cpB x_aDraw).length : Int)) < 0)) then (false) else (bif (decide (((F_laws_heldPaths { At := (((F_impl_Answer (F_laws_toPaths x_aP) x_aNow (F_laws_toAddr x_aA) (cpB x_aDraw)).1).At), Cands := (marksE mkE_PCand wt_PCand (((F_impl_Answer (F_laws_toPaths x_aP) x_aNow (F_laws_toAddr x_aA) (cpB x_aDraw)).1).Cands) 1) : PPaths } 1)) < 0)) then (false) else (bif (decide (((F_laws_heldPaths { At := (((F_impl_Answer (F_laws_toPaths x_aP) x_aNow (F_laws_toAddr x_aA) (cpB x_aDraw)).1).At), Cands := (marksE mkE_PCand wt_PCand (((F_impl_Answer (F_laws_toPaths x_aP) x_aNow (F_laws_toAddr x_aA) (cpB x_aDraw)).1).Cands) 1) : PPaths } 1)) = (1 + totL wt_PCand (((F_impl_Answer (F_laws_toPaths x_aP) x_aNow (F_laws_toAddr x_aA) (cpB x_aDraw)).1).Cands)))) then (true) else (false)))) else (false)) else (false)) else (false)) else (false)))
theorem C_laws_FnExactAnswer (w0 : World) (v_x_aP : Value) (x_aP : PPaths) (r_x_aP : Q_51 w0 v_x_aP x_aP) (x_aNow : Int) (v_x_aA : Value) (x_aA : PAddr) (r_x_aA : Q_48 w0 v_x_aA x_aA) (v_x_aDraw : Value) (x_aDraw : List UInt8) (r_x_aDraw : Q_22 w0 v_x_aDraw x_aDraw)  : Fn Try.prog 9 #[v_x_aP, (vi x_aNow), v_x_aA, v_x_aDraw] w0 (fun v w' => Keep w0 w' ∧ O_4 w' w0.heap.size v (F_laws_FnExactAnswer x_aP x_aNow x_aA x_aDraw)) := by
 obtain ⟨a1, c2, rfl, r3, s4⟩ := r_x_aP
 obtain rfl := r_x_aA
 obtain ⟨a6, c7, rfl, r8, s9⟩ := r_x_aDraw
 refine fn_of (n := 130) (l := [(va (L_59 x_aP a1 c2)), (vi x_aNow), (va (L_26 x_aA)), (vs a6 x_aDraw.length c7), U, U, U, U, U, U, U, U, U, U, U, U, U, U, U, U, U, U, U, U, U, U, U, U, U, U, U, U, U, U, U, U, U, U, U, U, U, U, U, U, U, U, U, U, U, U, U, U, U, U, U, U, U, U, U, U, U, U, U, U, U, U, U, U, U, U, U, U, U, U, U, U, U, U, U, U, U, U, U, U, U, U, U, U, U, U, U, U, U, U, U, U, U, U, U, U, U, U, U, U, U, U, U, U, U, U, U, U, U, U, U, U, U, U, U, U, U, U, U, U, U, U, U, U, U, U]) Try.func9 rfl rfl (by kernel_rfl) rfl ?_
 refine sr ?_
 refine bx (L_59 x_aP a1 c2) wN ?_
 intro g11 w1 p12 p13 k14 b15
 have m16 := (Ch.base w0).extk k14
 refine bx (L_26 x_aA) wN ?_
 intro g17 w2 p18 p19 k20 b21
 have m22 := m16.extk k20
 refine ag (vb false) wN ?_
 refine wl_nil <| wq_then <| wc_seq <| sr ?_
 refine mv (vs a6 x_aDraw.length c7) wN ?_
 refine ln wN slTy_22 (r8.from0 m22) ?_
 refine pu (vb (decide (1048576 < (x_aDraw.length : Int)))) wN ?_
 refine wl_nil <| wq_then ?_
 rcases bt (decide (1048576 < (x_aDraw.length : Int))) with h23 | h23
 ·have q24 := of_decide_eq_true h23
  refine ct h23 ?_
  refine sr ?_
  refine ag (vb true) wN ?_
  refine wl_nil <| wq_then <| wc_ret <| wq_then_ret ?_
  refine ret_1 (.inl rfl) (vb true) rfl rfl ?_
  refine ⟨m22.keep0, ?_⟩
  have hF25 : F_laws_FnExactAnswer x_aP x_aNow x_aA x_aDraw = true := by simp only [F_laws_FnExactAnswer, h23, cond_true, cond_false]
  rw [hF25]
  exact rfl
 have q26 := of_decide_eq_false h23
 refine cf h23 ?_
 refine wc_skip <| wq_then <| sr ?_
 refine ag (vi 1048576) wN ?_
 refine nx ?_
 have b27 := (b15.kp k20)
 refine lN (L_59 x_aP a1 c2) wN isAgg_51 sizeOf_51 b27 ?_
 refine mv (vi 1048576) wN ?_
 refine cl wN (C_laws_szPaths w2 _ x_aP (mQ_51 (r3.from0 m22) s4) 1048576 (by omega) (by omega)) ?_
 rintro _ w3 ⟨k28, rfl⟩
 have m29 := m22.extk k28
 refine ag (vi (F_laws_szPaths x_aP 1048576)) wN ?_
 refine wl_nil <| wq_then <| wc_seq <| sr ?_
 refine mv (vi (F_laws_szPaths x_aP 1048576)) wN ?_
 refine pu (vb (decide ((F_laws_szPaths x_aP 1048576) < 0))) wN ?_
 refine wl_nil <| wq_then ?_
 rcases bt (decide ((F_laws_szPaths x_aP 1048576) < 0)) with h30 | h30
 ·have q31 := of_decide_eq_true h30
  refine ct h30 ?_
  refine sr ?_
  refine ag (vb true) wN ?_
  refine wl_nil <| wq_then <| wc_ret <| wq_then_ret ?_
  refine ret_1 (.inl rfl) (vb true) rfl rfl ?_
  refine ⟨m29.keep0, ?_⟩
  have hF32 : F_laws_FnExactAnswer x_aP x_aNow x_aA x_aDraw = true := by simp only [F_laws_FnExactAnswer, h23, h30, cond_true, cond_false]
  rw [hF32]
  exact rfl
 have q33 := of_decide_eq_false h30
 obtain ⟨z34a, z34b⟩ := ok_F_laws_szPaths q33
 refine cf h30 ?_
 refine wc_skip <| wq_then <| wc_seq ?_
 refine wc_drawT ([(30, [], [], (fun _ v _ => v = (.agg #[(vi x_aP.At.Host), (vi x_aP.At.Port), (vs a1 x_aP.Cands.length c2)]))), (31, [], [0], (fun _ v w => ∃ (a1 : Option Addr) (c1 : Nat), v = .agg #[.int .i64 (((F_laws_toPaths x_aP).At).Host), .int .i64 (((F_laws_toPaths x_aP).At).Port), .slice a1 ((F_laws_toPaths x_aP).Cands).length c1] ∧ OLv LT_54 w (w3.heap.size) w.heap.size a1 ((F_laws_toPaths x_aP).Cands).length c1 ((F_laws_toPaths x_aP).Cands) ∧ ((F_laws_toPaths x_aP).Cands).length ≤ 1073741824 ∧ Aps [(a1, c1)])), (32, [], [], (fun _ v _ => v = (vi x_aNow))), (33, [], [], (fun _ v _ => v = (.agg #[(vi x_aA.Host), (vi x_aA.Port)]))), (34, [], [0, 1, 3], (fun _ v w => v = .agg #[.int .i64 ((F_laws_toAddr x_aA).Host), .int .i64 ((F_laws_toAddr x_aA).Port)])), (35, [], [], (fun _ v _ => v = (vs a6 x_aDraw.length c7))), (36, [31], [0, 1, 3, 4, 5], (fun e v w => ∃ (a1 : Option Addr) (c1 : Nat), v = .slice a1 (cpB x_aDraw).length c1 ∧ w.ownsRow (w3.heap.size) 5 1 (.slice a1 (cpB x_aDraw).length c1) (cpB x_aDraw).length ((cpB x_aDraw).map bV) ∧ (cpB x_aDraw).length ≤ 1073741824 ∧ Aps [(a1, c1)] ∧ Ap (sp (cellAt (e 31) 2)) (a1, c1))), (37, [31, 36], [0, 1, 2, 3, 4, 5, 6], (fun e v w => ∃ (a1 : Option Addr) (c1 : Nat), v = .tuple #[.agg #[.int .i64 ((((F_spec_Answer (F_laws_toPaths x_aP) x_aNow (F_laws_toAddr x_aA) (cpB x_aDraw)).1).At).Host), .int .i64 ((((F_spec_Answer (F_laws_toPaths x_aP) x_aNow (F_laws_toAddr x_aA) (cpB x_aDraw)).1).At).Port), .slice a1 (((F_spec_Answer (F_laws_toPaths x_aP) x_aNow (F_laws_toAddr x_aA) (cpB x_aDraw)).1).Cands).length c1], .bool ((F_spec_Answer (F_laws_toPaths x_aP) x_aNow (F_laws_toAddr x_aA) (cpB x_aDraw)).2)] ∧ OLv LT_54 w (w3.heap.size) w.heap.size a1 (((F_spec_Answer (F_laws_toPaths x_aP) x_aNow (F_laws_toAddr x_aA) (cpB x_aDraw)).1).Cands).length c1 (((F_spec_Answer (F_laws_toPaths x_aP) x_aNow (F_laws_toAddr x_aA) (cpB x_aDraw)).1).Cands) ∧ (((F_spec_Answer (F_laws_toPaths x_aP) x_aNow (F_laws_toAddr x_aA) (cpB x_aDraw)).1).Cands).length ≤ 1073741824 ∧ Aps [(a1, c1)] ∧ Ap (sp (cellAt (e 31) 2)) (a1, c1) ∧ Ap (sp (e 36)) (a1, c1))), (29, [37], [0, 1, 2, 3, 4, 5, 6, 7], (fun e v _ => v = (.tuple #[(.agg #[(vi ((((F_spec_Answer (F_laws_toPaths x_aP) x_aNow (F_laws_toAddr x_aA) (cpB x_aDraw)).1).At).Host)), (vi ((((F_spec_Answer (F_laws_toPaths x_aP) x_aNow (F_laws_toAddr x_aA) (cpB x_aDraw)).1).At).Port)), (cellAt (tupAt (e 37) 0) 2)]), (vb ((F_spec_Answer (F_laws_toPaths x_aP) x_aNow (F_laws_toAddr x_aA) (cpB x_aDraw)).2))]))), (38, [37], [0, 1, 2, 3, 4, 5, 6, 7, 8], (fun e v _ => v = (.agg #[(vi ((((F_spec_Answer (F_laws_toPaths x_aP) x_aNow (F_laws_toAddr x_aA) (cpB x_aDraw)).1).At).Host)), (vi ((((F_spec_Answer (F_laws_toPaths x_aP) x_aNow (F_laws_toAddr x_aA) (cpB x_aDraw)).1).At).Port)), (cellAt (tupAt (e 37) 0) 2)]))), (39, [], [0, 1, 2, 3, 4, 5, 6, 7, 8], (fun _ v _ => v = (vb ((F_spec_Answer (F_laws_toPaths x_aP) x_aNow (F_laws_toAddr x_aA) (cpB x_aDraw)).2)))), (10, [], [], (fun _ v w => ∃ (g : Nat) (x0 x1 x2 : Value), v = vp g 0 ∧ w3.heap.size ≤ g ∧ Blk w g 59 [x0, x1, x2])), (142, [10, 37], [0, 1, 2, 3, 4, 5, 6, 7, 8, 9, 11], (fun e _ w => ∃ g : Nat, e 10 = vp g 0 ∧ w3.heap.size ≤ g ∧ Blk w g 59 [(vi ((((F_spec_Answer (F_laws_toPaths x_aP) x_aNow (F_laws_toAddr x_aA) (cpB x_aDraw)).1).At).Host)), (vi ((((F_spec_Answer (F_laws_toPaths x_aP) x_aNow (F_laws_toAddr x_aA) (cpB x_aDraw)).1).At).Port)), (cellAt (tupAt (e 37) 0) 2)]))] : GV) (fun _ w' => Keep w3 w') [(12, fun w w' => ∃ g : Nat, w3.heap.size ≤ g ∧ (∃ x0 x1 x2 : Value, Blk w g 59 [x0, x1, x2]) ∧ Ch (fun k => k = g) w w' ∧ ∃ x0 x1 x2 : Value, Blk w' g 59 [x0, x1, x2])] mixed rfl (by kernel_rfl) (by kernel_rfl) ?_ (fun _ _ h => h) (fun _ _ _ _ h _ k => h.trans k) ⟨(fun _ _ w w' h _ _ t => by obtain ⟨g, hle, -, hc2, -⟩ := t; exact h.new hc2 (fun k hk => by have h3 : k = g := hk; omega)), trivial⟩ ?_ ?_ ?_
 ·exact ⟨(fun _ _ _ _ h _ => h), (fun _ _ _ _ _ h => h), ⟨(fun e v w w1 h hk => by obtain ⟨a0x, c0x, he, o0x, l0x, hap⟩ := h; exact ⟨a0x, c0x, he, OLv.now (OLv.kp o0x hk), l0x, hap⟩), (fun _ _ _ _ _ h => h), ⟨(fun _ _ _ _ h _ => h), (fun _ _ _ _ _ h => h), ⟨(fun _ _ _ _ h _ => h), (fun _ _ _ _ _ h => h), ⟨(fun _ _ _ _ h _ => h), (fun _ _ _ _ _ h => h), ⟨(fun _ _ _ _ h _ => h), (fun _ _ _ _ _ h => h), ⟨(fun e v w w1 h hk => by obtain ⟨a0x, c0x, he, o0x, l0x, hap, hx⟩ := h; exact ⟨a0x, c0x, he, own_kp o0x hk, l0x, hap, hx⟩), (fun e1 e2 v w hx h => by have h31x := hx 31 (by simp); simp only [h31x] at h; exact h), ⟨(fun e v w w1 h hk => by obtain ⟨a0x, c0x, he, o0x, l0x, hap, hx⟩ := h; exact ⟨a0x, c0x, he, OLv.now (OLv.kp o0x hk), l0x, hap, hx⟩), (fun e1 e2 v w hx h => by have h31x := hx 31 (by simp); have h36x := hx 36 (by simp); simp only [h31x, h36x] at h; exact h), ⟨(fun _ _ _ _ h _ => h), (fun e1 e2 v w hx h => by have h37x := hx 37 (by simp); simp only [h37x] at h; exact h), ⟨(fun _ _ _ _ h _ => h), (fun e1 e2 v w hx h => by have h37x := hx 37 (by simp); simp only [h37x] at h; exact h), ⟨(fun _ _ _ _ h _ => h), (fun _ _ _ _ _ h => h), ⟨(fun e v w w1 h hk => by obtain ⟨g, x0, x1, x2, he, hle, hb⟩ := h; exact ⟨g, _, _, _, he, hle, hb.kp hk⟩), (fun _ _ _ _ _ h => h), ⟨(fun e v w w1 h hk => by obtain ⟨g, he, hle, hb⟩ := h; exact ⟨g, he, hle, hb.kp hk⟩), (fun e1 e2 v w hx h => by have h10x := hx 10 (by simp); have h37x := hx 37 (by simp); simp only [h10x, h37x] at h; exact h), trivial⟩⟩⟩⟩⟩⟩⟩⟩⟩⟩⟩⟩⟩
 ·exact ⟨⟨.inr (fun _ _ _ _ h _ => h), ⟨.inr (fun e v w w1 h ht => by obtain ⟨a0x, c0x, he, o0x, l0x, hap⟩ := h; obtain ⟨gt, hlt, ⟨_, _, _, hbt⟩, hct, ⟨_, _, _, hbt2⟩⟩ := ht; exact ⟨a0x, c0x, he, OLv.now (olv_blk o0x hbt (by decide) (by decide) hct), l0x, hap⟩), ⟨.inr (fun _ _ _ _ h _ => h), ⟨.inr (fun _ _ _ _ h _ => h), ⟨.inr (fun _ _ _ _ h _ => h), ⟨.inr (fun _ _ _ _ h _ => h), ⟨.inr (fun e v w w1 h ht => by obtain ⟨a0x, c0x, he, o0x, l0x, hap, hx⟩ := h; obtain ⟨gt, hlt, ⟨_, _, _, hbt⟩, hct, ⟨_, _, _, hbt2⟩⟩ := ht; exact ⟨a0x, c0x, he, own_blk o0x hbt (by decide) hct, l0x, hap, hx⟩), ⟨.inr (fun e v w w1 h ht => by obtain ⟨a0x, c0x, he, o0x, l0x, hap, hx⟩ := h; obtain ⟨gt, hlt, ⟨_, _, _, hbt⟩, hct, ⟨_, _, _, hbt2⟩⟩ := ht; exact ⟨a0x, c0x, he, OLv.now (olv_blk o0x hbt (by decide) (by decide) hct), l0x, hap, hx⟩), ⟨.inr (fun _ _ _ _ h _ => h), ⟨.inr (fun _ _ _ _ h _ => h), ⟨.inr (fun _ _ _ _ h _ => h), ⟨.inr (fun e v w w1 h ht => by obtain ⟨g, x0, x1, x2, he, hle, hb⟩ := h; obtain ⟨gt, hlt, ⟨_, _, _, hbt⟩, hct, ⟨_, _, _, hbt2⟩⟩ := ht; by_cases hg : g = gt; (· subst hg; exact ⟨g, _, _, _, he, hle, hbt2⟩); (· exact ⟨g, _, _, _, he, hle, hb.ch hct hg⟩)), ⟨.inl rfl, trivial⟩⟩⟩⟩⟩⟩⟩⟩⟩⟩⟩⟩⟩, trivial⟩
 ·refine ⟨?_, ⟨?_, ⟨?_, ⟨?_, ⟨?_, ⟨?_, ⟨?_, ⟨?_, ⟨?_, ⟨?_, ⟨?_, ⟨?_, ⟨?_, trivial⟩⟩⟩⟩⟩⟩⟩⟩⟩⟩⟩⟩⟩
  ·intro _ w4 k99 _
   have m100 := m29.extk k99
   rintro _ _ _ _ _ _ _ _ _ _ _ _ _
   show WL _ _ _ _ _ _ _
   have b101 := ((b27.kp k28).kp k99)
   refine lN (L_59 x_aP a1 c2) wN isAgg_51 sizeOf_51 b101 ?_
   exact wl_finT (Ch.refl _ _) rfl
  ·intro _ w4 k102 _
   have m103 := m29.extk k102
   rintro _ rfl _ _ _ _ _ _ _ _ _ _ _ _
   show WL _ _ _ _ _ _ _
   refine cl wN (C_laws_toPaths w4 _ x_aP (mR_51 (RLv.raw (r3.from0 m103) (by omega) (fun e he b hb => Nat.le_trans (z34b e he b hb) (by decide))) (by omega))) ?_
   rintro _ w5 ⟨k105, ⟨a106, c107, rfl, o108, s109, ap111⟩⟩
   have m112 := m103.extk k105
   obtain ⟨y113, o114⟩ := OLv.ow o108
   exact wl_finT k105 ⟨_, _, rfl, (OLv.now (OLv.low o108 k102.size)), s109, ap111⟩
  ·intro _ w4 k115 _
   have m116 := m29.extk k115
   rintro _ _ _ _ _ _ _ _ _ _ _ _ _
   show WL _ _ _ _ _ _ _
   refine mv (vi x_aNow) wN ?_
   exact wl_finT (Ch.refl _ _) rfl
  ·intro _ w4 k117 _
   have m118 := m29.extk k117
   rintro _ _ _ _ _ _ _ _ _ _ _ _ _
   show WL _ _ _ _ _ _ _
   have b119 := ((b21.kp k28).kp k117)
   refine lN (L_26 x_aA) wN isAgg_48 sizeOf_48 b119 ?_
   exact wl_finT (Ch.refl _ _) rfl
  ·intro _ w4 k120 _
   have m121 := m29.extk k120
   rintro _ rfl _ ⟨a123, c124, rfl, o125, s126, ap128⟩
   obtain ⟨y129, o130⟩ := OLv.ow o125
   rintro _ _ rfl _ _ _ _ _ _ _ _ _
   show WL _ _ _ _ _ _ _
   refine cl wN (C_laws_toAddr w4 _ x_aA (mR_48)) ?_
   rintro _ w5 ⟨k132, rfl⟩
   have m133 := m121.extk k132
   exact wl_finT k132 rfl
  ·intro _ w4 k134 _
   have m135 := m29.extk k134
   rintro _ _ _ _ _ _ _ _ _ _ _ _ _
   show WL _ _ _ _ _ _ _
   refine mv (vs a6 x_aDraw.length c7) wN ?_
   exact wl_finT (Ch.refl _ _) rfl
  ·intro _ w4 k136 _
   have m137 := m29.extk k136
   rintro _ rfl _ ⟨a139, c140, rfl, o141, s142, ap144⟩
   obtain ⟨y145, o146⟩ := OLv.ow o141
   rintro _ _ rfl _ rfl _ rfl _ _ _ _ _ _ _
   show WL _ _ _ _ _ _ _
   refine cl wN (C_laws_toByteS w4 _ x_aDraw (mR_22 (r8.from0 m137) (by omega))) ?_
   rintro _ w5 ⟨k148, ⟨a149, c150, rfl, o151, s152, ap154⟩⟩
   have m155 := m137.extk k148
   exact wl_finT k148 ⟨_, _, rfl, (own_lo o151 k136.size), s152, ap154, (Ap.lt o146 o151 (Nat.le_refl _))⟩
  ·intro _ w4 k156 _
   have m157 := m29.extk k156
   rintro _ rfl _ ⟨a159, c160, rfl, o161, s162, ap164⟩
   obtain ⟨y165, o166⟩ := OLv.ow o161
   rintro _ rfl _ rfl _ rfl _ rfl _ ⟨a168, c169, rfl, o170, s171, ap173, hx174⟩ _ _ _ _ _ _
   show WL _ _ _ _ _ _ _
   refine cl wN (C_spec_Answer w4 _ (F_laws_toPaths x_aP) (mR_59 (OLv.rl o161) s162) x_aNow _ (F_laws_toAddr x_aA) (mR_26) _ (cpB x_aDraw) (mR_22 (Rd.of_own o170) s171)) ?_
   rintro _ w5 ⟨k175, ⟨a176, c177, rfl, o178, s179, ap181⟩⟩
   have m182 := m157.extk k175
   obtain ⟨y183, o184⟩ := OLv.ow o178
   exact wl_finT k175 ⟨_, _, rfl, (OLv.now (OLv.low o178 k156.size)), s179, ap181, ⟨(Ap.lt o166 o184 (Nat.le_refl _)), (Ap.lt o170 o184 (Nat.le_refl _))⟩⟩
  ·intro _ w4 k185 _
   have m186 := m29.extk k185
   rintro _ rfl _ ⟨a188, c189, rfl, o190, s191, ap193⟩
   obtain ⟨y194, o195⟩ := OLv.ow o190
   rintro _ rfl _ rfl _ rfl _ rfl _ ⟨a197, c198, rfl, o199, s200, ap202, hx203⟩ _ ⟨a204, c205, rfl, o206, s207, ap209, hx210⟩
   obtain ⟨y211, o212⟩ := OLv.ow o206
   rintro _ _ _ _ _
   show WL _ _ _ _ _ _ _
   refine mv (.tuple #[(va (L_59 ((F_spec_Answer (F_laws_toPaths x_aP) x_aNow (F_laws_toAddr x_aA) (cpB x_aDraw)).1) a204 c205)), (vb ((F_spec_Answer (F_laws_toPaths x_aP) x_aNow (F_laws_toAddr x_aA) (cpB x_aDraw)).2))]) wN ?_
   exact wl_finT (Ch.refl _ _) rfl
  ·intro _ w4 k213 _
   have m214 := m29.extk k213
   rintro _ rfl _ ⟨a216, c217, rfl, o218, s219, ap221⟩
   obtain ⟨y222, o223⟩ := OLv.ow o218
   rintro _ rfl _ rfl _ rfl _ rfl _ ⟨a225, c226, rfl, o227, s228, ap230, hx231⟩ _ ⟨a232, c233, rfl, o234, s235, ap237, hx238⟩
   obtain ⟨y239, o240⟩ := OLv.ow o234
   rintro _ rfl _ _ _ _
   show WL _ _ _ _ _ _ _
   refine pu (va (L_59 ((F_spec_Answer (F_laws_toPaths x_aP) x_aNow (F_laws_toAddr x_aA) (cpB x_aDraw)).1) a232 c233)) wN ?_
   exact wl_finT (Ch.refl _ _) rfl
  ·intro _ w4 k241 _
   have m242 := m29.extk k241
   rintro _ rfl _ ⟨a244, c245, rfl, o246, s247, ap249⟩
   obtain ⟨y250, o251⟩ := OLv.ow o246
   rintro _ rfl _ rfl _ rfl _ rfl _ ⟨a253, c254, rfl, o255, s256, ap258, hx259⟩ _ ⟨a260, c261, rfl, o262, s263, ap265, hx266⟩
   obtain ⟨y267, o268⟩ := OLv.ow o262
   rintro _ rfl _ _ _ _
   show WL _ _ _ _ _ _ _
   refine pu (vb ((F_spec_Answer (F_laws_toPaths x_aP) x_aNow (F_laws_toAddr x_aA) (cpB x_aDraw)).2)) wN ?_
   exact wl_finT (Ch.refl _ _) rfl
  ·intro _ w4 k269 _
   have m270 := m29.extk k269
   rintro _ _ _ _ _ _ _ _ _ _ _ _ _
   show WL _ _ _ _ _ _ _
   refine al [(vi 0), (vi 0), (vs none 0 0)] wN zero_59 ?_
   intro g271 w5 p272 p273 k274 b275
   have m276 := m270.extk k274
   exact wl_finT k274 ⟨_, _, _, _, rfl, (Nat.le_trans k269.size p272), b275⟩
  ·intro _ w4 k277 _
   have m278 := m29.extk k277
   rintro _ rfl _ ⟨a280, c281, rfl, o282, s283, ap285⟩
   obtain ⟨y286, o287⟩ := OLv.ow o282
   rintro _ rfl _ rfl _ rfl _ rfl _ ⟨a289, c290, rfl, o291, s292, ap294, hx295⟩ _ ⟨a296, c297, rfl, o298, s299, ap301, hx302⟩
   obtain ⟨y303, o304⟩ := OLv.ow o298
   rintro _ rfl _ rfl _ _ ⟨g305, x308, x309, x310, rfl, p306, b307⟩ _
   show WL _ _ _ _ _ _ _
   refine st (va (L_59 ((F_spec_Answer (F_laws_toPaths x_aP) x_aNow (F_laws_toAddr x_aA) (cpB x_aDraw)).1) a296 c297)) (L_59 ((F_spec_Answer (F_laws_toPaths x_aP) x_aNow (F_laws_toAddr x_aA) (cpB x_aDraw)).1) a296 c297) (L_59 ((F_spec_Answer (F_laws_toPaths x_aP) x_aNow (F_laws_toAddr x_aA) (cpB x_aDraw)).1) a296 c297) wN sizeOf_59 b307 ?_
   intro w5 k311 b312 z313
   have m314 := m278.ext k311 (fun k hk => by subst hk; exact Nat.le_trans (t3 k14.size k20.size k28.size) p306)
   exact wl_finS (by decide) ⟨_, p306, ⟨_, _, _, b307⟩, k311, ⟨_, _, _, b312⟩⟩ ⟨_, rfl, p306, b312⟩
 ·intro _ w4 k315
  have m316 := m29.extk k315
  rintro _ rfl _ ⟨a318, c319, rfl, o320, s321, ap323⟩
  obtain ⟨y324, o325⟩ := OLv.ow o320
  rintro _ rfl _ rfl _ rfl _ rfl _ ⟨a327, c328, rfl, o329, s330, ap332, hx333⟩ _ ⟨a334, c335, rfl, o336, s337, ap339, hx340⟩
  obtain ⟨y341, o342⟩ := OLv.ow o336
  rintro _ rfl _ rfl _ rfl _ ⟨g343, x346, x347, x348, rfl, p344, b345⟩ _ ⟨g349, e350, -, b351⟩
  obtain rfl := vp_inj e350
  show WL _ _ _ _ _ _ _
  refine ag (vb ((F_spec_Answer (F_laws_toPaths x_aP) x_aNow (F_laws_toAddr x_aA) (cpB x_aDraw)).2)) wN ?_
  refine nx ?_
  have b352 := ((b27.kp k28).kp k315)
  refine lN (L_59 x_aP a1 c2) wN isAgg_51 sizeOf_51 b352 ?_
  refine cl wN (C_laws_toPaths w4 _ x_aP (mR_51 (RLv.raw (r3.from0 m316) (by omega) (fun e he b hb => Nat.le_trans (z34b e he b hb) (by decide))) (by omega))) ?_
  rintro _ w5 ⟨k353, ⟨a354, c355, rfl, o356, s357, ap359⟩⟩
  have m360 := m316.extk k353
  obtain ⟨y361, o362⟩ := OLv.ow o356
  refine al [(vi 0), (vi 0), (vs none 0 0)] wN zero_59 ?_
  intro g363 w6 p364 p365 k366 b367
  have m368 := m360.extk k366
  refine st (va (L_59 (F_laws_toPaths x_aP) a354 c355)) (L_59 (F_laws_toPaths x_aP) a354 c355) (L_59 (F_laws_toPaths x_aP) a354 c355) wN sizeOf_59 b367 ?_
  intro w7 k369 b370 z371
  have m372 := m368.ext k369 (fun k hk => by subst hk; exact Nat.le_trans (t5 k14.size k20.size k28.size k315.size k353.size) p364)
  refine nx ?_
  refine mv (vs a6 x_aDraw.length c7) wN ?_
  refine cl wN (C_laws_toByteS w7 _ x_aDraw (mR_22 (r8.from0 m372) (by omega))) ?_
  rintro _ w8 ⟨k373, ⟨a374, c375, rfl, o376, s377, ap379⟩⟩
  have m380 := m372.extk k373
  refine ag (vs a374 (cpB x_aDraw).length c375) wN ?_
  refine wl_nil <| wq_then <| wc_seq ?_
  refine wc_drawT ([(45, [], [], (fun _ v _ => v = (.agg #[(vi (((F_laws_toPaths x_aP).At).Host)), (vi (((F_laws_toPaths x_aP).At).Port)), (vs a354 ((F_laws_toPaths x_aP).Cands).length c355)]))), (46, [], [], (fun _ v _ => v = (vi x_aNow))), (47, [], [], (fun _ v _ => v = (.agg #[(vi x_aA.Host), (vi x_aA.Port)]))), (48, [], [2], (fun _ v w => v = .agg #[.int .i64 ((F_laws_toAddr x_aA).Host), .int .i64 ((F_laws_toAddr x_aA).Port)])), (49, [], [], (fun _ v _ => v = (vs a374 (cpB x_aDraw).length c375))), (50, [], [0, 1, 2, 3, 4], (fun _ v w => ∃ (a1 : Option Addr) (c1 : Nat), v = .tuple #[.agg #[.int .i64 ((((F_impl_Answer (F_laws_toPaths x_aP) x_aNow (F_laws_toAddr x_aA) (cpB x_aDraw)).1).At).Host), .int .i64 ((((F_impl_Answer (F_laws_toPaths x_aP) x_aNow (F_laws_toAddr x_aA) (cpB x_aDraw)).1).At).Port), .slice a1 (((F_impl_Answer (F_laws_toPaths x_aP) x_aNow (F_laws_toAddr x_aA) (cpB x_aDraw)).1).Cands).length c1], .bool ((F_impl_Answer (F_laws_toPaths x_aP) x_aNow (F_laws_toAddr x_aA) (cpB x_aDraw)).2)] ∧ OLv LT_54 w (w8.heap.size) w.heap.size a1 (((F_impl_Answer (F_laws_toPaths x_aP) x_aNow (F_laws_toAddr x_aA) (cpB x_aDraw)).1).Cands).length c1 (((F_impl_Answer (F_laws_toPaths x_aP) x_aNow (F_laws_toAddr x_aA) (cpB x_aDraw)).1).Cands) ∧ (((F_impl_Answer (F_laws_toPaths x_aP) x_aNow (F_laws_toAddr x_aA) (cpB x_aDraw)).1).Cands).length ≤ 1073741824 ∧ Aps [(a1, c1)])), (44, [50], [0, 1, 2, 3, 4, 5], (fun e v _ => v = (.tuple #[(.agg #[(vi ((((F_impl_Answer (F_laws_toPaths x_aP) x_aNow (F_laws_toAddr x_aA) (cpB x_aDraw)).1).At).Host)), (vi ((((F_impl_Answer (F_laws_toPaths x_aP) x_aNow (F_laws_toAddr x_aA) (cpB x_aDraw)).1).At).Port)), (cellAt (tupAt (e 50) 0) 2)]), (vb ((F_impl_Answer (F_laws_toPaths x_aP) x_aNow (F_laws_toAddr x_aA) (cpB x_aDraw)).2))]))), (51, [50], [0, 1, 2, 3, 4, 5, 6], (fun e v _ => v = (.agg #[(vi ((((F_impl_Answer (F_laws_toPaths x_aP) x_aNow (F_laws_toAddr x_aA) (cpB x_aDraw)).1).At).Host)), (vi ((((F_impl_Answer (F_laws_toPaths x_aP) x_aNow (F_laws_toAddr x_aA) (cpB x_aDraw)).1).At).Port)), (cellAt (tupAt (e 50) 0) 2)]))), (52, [], [0, 1, 2, 3, 4, 5, 6], (fun _ v _ => v = (vb ((F_impl_Answer (F_laws_toPaths x_aP) x_aNow (F_laws_toAddr x_aA) (cpB x_aDraw)).2)))), (14, [], [], (fun _ v w => ∃ (g : Nat) (x0 x1 x2 : Value), v = vp g 0 ∧ w8.heap.size ≤ g ∧ Blk w g 59 [x0, x1, x2])), (140, [14, 50], [0, 1, 2, 3, 4, 5, 6, 7, 9], (fun e _ w => ∃ g : Nat, e 14 = vp g 0 ∧ w8.heap.size ≤ g ∧ Blk w g 59 [(vi ((((F_impl_Answer (F_laws_toPaths x_aP) x_aNow (F_laws_toAddr x_aA) (cpB x_aDraw)).1).At).Host)), (vi ((((F_impl_Answer (F_laws_toPaths x_aP) x_aNow (F_laws_toAddr x_aA) (cpB x_aDraw)).1).At).Port)), (cellAt (tupAt (e 50) 0) 2)]))] : GV) (fun _ w' => Keep w8 w') [(10, fun w w' => ∃ g : Nat, w8.heap.size ≤ g ∧ (∃ x0 x1 x2 : Value, Blk w g 59 [x0, x1, x2]) ∧ Ch (fun k => k = g) w w' ∧ ∃ x0 x1 x2 : Value, Blk w' g 59 [x0, x1, x2])] mixed rfl (by kernel_rfl) (by kernel_rfl) ?_ (fun _ _ h => h) (fun _ _ _ _ h _ k => h.trans k) ⟨(fun _ _ w w' h _ _ t => by obtain ⟨g, hle, -, hc2, -⟩ := t; exact h.new hc2 (fun k hk => by have h3 : k = g := hk; omega)), trivial⟩ ?_ ?_ ?_
  ·exact ⟨(fun _ _ _ _ h _ => h), (fun _ _ _ _ _ h => h), ⟨(fun _ _ _ _ h _ => h), (fun _ _ _ _ _ h => h), ⟨(fun _ _ _ _ h _ => h), (fun _ _ _ _ _ h => h), ⟨(fun _ _ _ _ h _ => h), (fun _ _ _ _ _ h => h), ⟨(fun _ _ _ _ h _ => h), (fun _ _ _ _ _ h => h), ⟨(fun e v w w1 h hk => by obtain ⟨a0x, c0x, he, o0x, l0x, hap⟩ := h; exact ⟨a0x, c0x, he, OLv.now (OLv.kp o0x hk), l0x, hap⟩), (fun _ _ _ _ _ h => h), ⟨(fun _ _ _ _ h _ => h), (fun e1 e2 v w hx h => by have h50x := hx 50 (by simp); simp only [h50x] at h; exact h), ⟨(fun _ _ _ _ h _ => h), (fun e1 e2 v w hx h => by have h50x := hx 50 (by simp); simp only [h50x] at h; exact h), ⟨(fun _ _ _ _ h _ => h), (fun _ _ _ _ _ h => h), ⟨(fun e v w w1 h hk => by obtain ⟨g, x0, x1, x2, he, hle, hb⟩ := h; exact ⟨g, _, _, _, he, hle, hb.kp hk⟩), (fun _ _ _ _ _ h => h), ⟨(fun e v w w1 h hk => by obtain ⟨g, he, hle, hb⟩ := h; exact ⟨g, he, hle, hb.kp hk⟩), (fun e1 e2 v w hx h => by have h14x := hx 14 (by simp); have h50x := hx 50 (by simp); simp only [h14x, h50x] at h; exact h), trivial⟩⟩⟩⟩⟩⟩⟩⟩⟩⟩⟩
  ·exact ⟨⟨.inr (fun _ _ _ _ h _ => h), ⟨.inr (fun _ _ _ _ h _ => h), ⟨.inr (fun _ _ _ _ h _ => h), ⟨.inr (fun _ _ _ _ h _ => h), ⟨.inr (fun _ _ _ _ h _ => h), ⟨.inr (fun e v w w1 h ht => by obtain ⟨a0x, c0x, he, o0x, l0x, hap⟩ := h; obtain ⟨gt, hlt, ⟨_, _, _, hbt⟩, hct, ⟨_, _, _, hbt2⟩⟩ := ht; exact ⟨a0x, c0x, he, OLv.now (olv_blk o0x hbt (by decide) (by decide) hct), l0x, hap⟩), ⟨.inr (fun _ _ _ _ h _ => h), ⟨.inr (fun _ _ _ _ h _ => h), ⟨.inr (fun _ _ _ _ h _ => h), ⟨.inr (fun e v w w1 h ht => by obtain ⟨g, x0, x1, x2, he, hle, hb⟩ := h; obtain ⟨gt, hlt, ⟨_, _, _, hbt⟩, hct, ⟨_, _, _, hbt2⟩⟩ := ht; by_cases hg : g = gt; (· subst hg; exact ⟨g, _, _, _, he, hle, hbt2⟩); (· exact ⟨g, _, _, _, he, hle, hb.ch hct hg⟩)), ⟨.inl rfl, trivial⟩⟩⟩⟩⟩⟩⟩⟩⟩⟩⟩, trivial⟩
  ·refine ⟨?_, ⟨?_, ⟨?_, ⟨?_, ⟨?_, ⟨?_, ⟨?_, ⟨?_, ⟨?_, ⟨?_, ⟨?_, trivial⟩⟩⟩⟩⟩⟩⟩⟩⟩⟩⟩
   ·intro _ w9 k416 _
    have m417 := m380.extk k416
    rintro _ _ _ _ _ _ _ _ _ _ _
    show WL _ _ _ _ _ _ _
    have b418 := ((b370.kp k373).kp k416)
    refine lN (L_59 (F_laws_toPaths x_aP) a354 c355) wN isAgg_59 sizeOf_59 b418 ?_
    exact wl_finT (Ch.refl _ _) rfl
   ·intro _ w9 k419 _
    have m420 := m380.extk k419
    rintro _ _ _ _ _ _ _ _ _ _ _
    show WL _ _ _ _ _ _ _
    refine mv (vi x_aNow) wN ?_
    exact wl_finT (Ch.refl _ _) rfl
   ·intro _ w9 k421 _
    have m422 := m380.extk k421
    rintro _ _ _ _ _ _ _ _ _ _ _
    show WL _ _ _ _ _ _ _
    have b423 := (((((((b21.kp k28).kp k315).kp k353).kp k366).ch k369 (Nat.ne_of_lt (Nat.lt_of_lt_of_le p19 (Nat.le_trans (t3 k28.size k315.size k353.size) p364)))).kp k373).kp k421)
    refine lN (L_26 x_aA) wN isAgg_48 sizeOf_48 b423 ?_
    exact wl_finT (Ch.refl _ _) rfl
   ·intro _ w9 k424 _
    have m425 := m380.extk k424
    rintro _ _ _ rfl _ _ _ _ _ _ _ _
    show WL _ _ _ _ _ _ _
    refine cl wN (C_laws_toAddr w9 _ x_aA (mR_48)) ?_
    rintro _ w10 ⟨k427, rfl⟩
    have m428 := m425.extk k427
    exact wl_finT k427 rfl
   ·intro _ w9 k429 _
    have m430 := m380.extk k429
    rintro _ _ _ _ _ _ _ _ _ _ _
    show WL _ _ _ _ _ _ _
    refine mv (vs a374 (cpB x_aDraw).length c375) wN ?_
    exact wl_finT (Ch.refl _ _) rfl
   ·intro _ w9 k431 _
    have m432 := m380.extk k431
    rintro _ rfl _ rfl _ rfl _ rfl _ rfl _ _ _ _ _ _
    show WL _ _ _ _ _ _ _
    have o435 := (OLv.kp (OLv.kp (OLv.ch (OLv.kp o356 k366) k369 (fun g h1 h2 hk => by have h3 := Nat.le_trans (Nat.le_refl w5.heap.size) p364; omega)) k373) k431)
    have o436 := (own_kp o376 k431)
    refine cl wN (C_impl_Answer w9 _ (F_laws_toPaths x_aP) (mR_59 (OLv.rl o435) s357) x_aNow _ (F_laws_toAddr x_aA) (mR_26) _ (cpB x_aDraw) (mR_22 (Rd.of_own o436) s377)) ?_
    rintro _ w10 ⟨k437, ⟨a438, c439, rfl, o440, s441, ap443⟩⟩
    have m444 := m432.extk k437
    obtain ⟨y445, o446⟩ := OLv.ow o440
    exact wl_finT k437 ⟨_, _, rfl, (OLv.now (OLv.low o440 k431.size)), s441, ap443⟩
   ·intro _ w9 k447 _
    have m448 := m380.extk k447
    rintro _ rfl _ rfl _ rfl _ rfl _ rfl _ ⟨a451, c452, rfl, o453, s454, ap456⟩
    obtain ⟨y457, o458⟩ := OLv.ow o453
    rintro _ _ _ _ _
    show WL _ _ _ _ _ _ _
    refine mv (.tuple #[(va (L_59 ((F_impl_Answer (F_laws_toPaths x_aP) x_aNow (F_laws_toAddr x_aA) (cpB x_aDraw)).1) a451 c452)), (vb ((F_impl_Answer (F_laws_toPaths x_aP) x_aNow (F_laws_toAddr x_aA) (cpB x_aDraw)).2))]) wN ?_
    exact wl_finT (Ch.refl _ _) rfl
   ·intro _ w9 k459 _
    have m460 := m380.extk k459
    rintro _ rfl _ rfl _ rfl _ rfl _ rfl _ ⟨a463, c464, rfl, o465, s466, ap468⟩
    obtain ⟨y469, o470⟩ := OLv.ow o465
    rintro _ rfl _ _ _ _
    show WL _ _ _ _ _ _ _
    refine pu (va (L_59 ((F_impl_Answer (F_laws_toPaths x_aP) x_aNow (F_laws_toAddr x_aA) (cpB x_aDraw)).1) a463 c464)) wN ?_
    exact wl_finT (Ch.refl _ _) rfl
   ·intro _ w9 k471 _
    have m472 := m380.extk k471
    rintro _ rfl _ rfl _ rfl _ rfl _ rfl _ ⟨a475, c476, rfl, o477, s478, ap480⟩
    obtain ⟨y481, o482⟩ := OLv.ow o477
    rintro _ rfl _ _ _ _
    show WL _ _ _ _ _ _ _
    refine pu (vb ((F_impl_Answer (F_laws_toPaths x_aP) x_aNow (F_laws_toAddr x_aA) (cpB x_aDraw)).2)) wN ?_
    exact wl_finT (Ch.refl _ _) rfl
   ·intro _ w9 k483 _
    have m484 := m380.extk k483
    rintro _ _ _ _ _ _ _ _ _ _ _
    show WL _ _ _ _ _ _ _
    refine al [(vi 0), (vi 0), (vs none 0 0)] wN zero_59 ?_
    intro g485 w10 p486 p487 k488 b489
    have m490 := m484.extk k488
    exact wl_finT k488 ⟨_, _, _, _, rfl, (Nat.le_trans k483.size p486), b489⟩
   ·intro _ w9 k491 _
    have m492 := m380.extk k491
    rintro _ rfl _ rfl _ rfl _ rfl _ rfl _ ⟨a495, c496, rfl, o497, s498, ap500⟩
    obtain ⟨y501, o502⟩ := OLv.ow o497
    rintro _ rfl _ rfl _ _ ⟨g503, x506, x507, x508, rfl, p504, b505⟩ _
    show WL _ _ _ _ _ _ _
    refine st (va (L_59 ((F_impl_Answer (F_laws_toPaths x_aP) x_aNow (F_laws_toAddr x_aA) (cpB x_aDraw)).1) a495 c496)) (L_59 ((F_impl_Answer (F_laws_toPaths x_aP) x_aNow (F_laws_toAddr x_aA) (cpB x_aDraw)).1) a495 c496) (L_59 ((F_impl_Answer (F_laws_toPaths x_aP) x_aNow (F_laws_toAddr x_aA) (cpB x_aDraw)).1) a495 c496) wN sizeOf_59 b505 ?_
    intro w10 k509 b510 z511
    have m512 := m492.ext k509 (fun k hk => by subst hk; exact Nat.le_trans (t8 k14.size k20.size k28.size k315.size k353.size k366.size k369.size k373.size) p504)
    exact wl_finS (by decide) ⟨_, p504, ⟨_, _, _, b505⟩, k509, ⟨_, _, _, b510⟩⟩ ⟨_, rfl, p504, b510⟩
  ·intro _ w9 k513
   have m514 := m380.extk k513
   rintro _ rfl _ rfl _ rfl _ rfl _ rfl _ ⟨a517, c518, rfl, o519, s520, ap522⟩
   obtain ⟨y523, o524⟩ := OLv.ow o519
   rintro _ rfl _ rfl _ rfl _ ⟨g525, x528, x529, x530, rfl, p526, b527⟩ _ ⟨g531, e532, -, b533⟩
   obtain rfl := vp_inj e532
   show WL _ _ _ _ _ _ _
   refine ag (vb ((F_impl_Answer (F_laws_toPaths x_aP) x_aNow (F_laws_toAddr x_aA) (cpB x_aDraw)).2)) wN ?_
   refine wl_nil <| wq_then <| wc_seq <| sr ?_
   refine lN (L_59 ((F_impl_Answer (F_laws_toPaths x_aP) x_aNow (F_laws_toAddr x_aA) (cpB x_aDraw)).1) a517 c518) wN isAgg_59 sizeOf_59 b533 ?_
   have b534 := (((((b351.kp k353).kp k366).ch k369 (Nat.ne_of_lt (Nat.lt_of_lt_of_le (Blk.lt b345) (Nat.le_trans k353.size p364)))).kp k373).kp k513)
   refine lN (L_59 ((F_spec_Answer (F_laws_toPaths x_aP) x_aNow (F_laws_toAddr x_aA) (cpB x_aDraw)).1) a334 c335) wN isAgg_59 sizeOf_59 b534 ?_
   have o535 := (OLv.kp (OLv.kp (OLv.ch (OLv.kp (OLv.kp o336 k353) k366) k369 (fun g h1 h2 hk => by have h3 := Nat.le_trans k353.size p364; omega)) k373) k513)
   obtain ⟨y537, e538⟩ : ∃ y, F_laws_eqPaths ((F_impl_Answer (F_laws_toPaths x_aP) x_aNow (F_laws_toAddr x_aA) (cpB x_aDraw)).1) ((F_spec_Answer (F_laws_toPaths x_aP) x_aNow (F_laws_toAddr x_aA) (cpB x_aDraw)).1) = y := ⟨_, rfl⟩
   have hc536 := C_laws_eqPaths w9 _ ((F_impl_Answer (F_laws_toPaths x_aP) x_aNow (F_laws_toAddr x_aA) (cpB x_aDraw)).1) (mR_59 (OLv.rl o519) s520) _ ((F_spec_Answer (F_laws_toPaths x_aP) x_aNow (F_laws_toAddr x_aA) (cpB x_aDraw)).1) (mR_59 (OLv.rl o535) s337)
   rw [e538] at hc536
   refine cl wN hc536 ?_
   rintro _ w10 ⟨k539, rfl⟩
   have m540 := m514.extk k539
   refine pu (vb (!(y537))) wN ?_
   refine mv (vb (!(y537))) wN ?_
   rcases bf y537 with h541 | h541
   ·refine sk (congrArg not h541) ?_
    refine sk (congrArg not h541) ?_
    refine sk (congrArg not h541) ?_
    refine pk (vb true) wN (congrArg not h541) ?_
    refine wl_nil <| wq_then ?_
    refine ct (Eq.refl true) ?_
    refine sr ?_
    refine ag (vb false) wN ?_
    refine wl_nil <| wq_then <| wc_ret <| wq_then_ret ?_
    refine ret_1 (.inl rfl) (vb false) rfl rfl ?_
    refine ⟨m540.keep0, ?_⟩
    have hF997 : F_laws_FnExactAnswer x_aP x_aNow x_aA x_aDraw = false := by simp only [F_laws_FnExactAnswer, h23, h30, e538, h541, cond_true, cond_false]
    rw [hF997]
    exact rfl
   refine mv (vb ((F_impl_Answer (F_laws_toPaths x_aP) x_aNow (F_laws_toAddr x_aA) (cpB x_aDraw)).2)) (wS (congrArg not h541)) ?_
   refine mv (vb ((F_spec_Answer (F_laws_toPaths x_aP) x_aNow (F_laws_toAddr x_aA) (cpB x_aDraw)).2)) (wS (congrArg not h541)) ?_
   refine pu (vb (!(((F_impl_Answer (F_laws_toPaths x_aP) x_aNow (F_laws_toAddr x_aA) (cpB x_aDraw)).2) == ((F_spec_Answer (F_laws_toPaths x_aP) x_aNow (F_laws_toAddr x_aA) (cpB x_aDraw)).2)))) (wS (congrArg not h541)) ?_
   refine pf (vb (!(((F_impl_Answer (F_laws_toPaths x_aP) x_aNow (F_laws_toAddr x_aA) (cpB x_aDraw)).2) == ((F_spec_Answer (F_laws_toPaths x_aP) x_aNow (F_laws_toAddr x_aA) (cpB x_aDraw)).2)))) wN (congrArg not h541) ?_
   refine wl_nil <| wq_then ?_
   rcases bf (((F_impl_Answer (F_laws_toPaths x_aP) x_aNow (F_laws_toAddr x_aA) (cpB x_aDraw)).2) == ((F_spec_Answer (F_laws_toPaths x_aP) x_aNow (F_laws_toAddr x_aA) (cpB x_aDraw)).2)) with h543 | h543
   ·refine ct (congrArg not h543) ?_
    refine sr ?_
    refine ag (vb false) wN ?_
    refine wl_nil <| wq_then <| wc_ret <| wq_then_ret ?_
    refine ret_1 (.inl rfl) (vb false) rfl rfl ?_
    refine ⟨m540.keep0, ?_⟩
    have hF995 : F_laws_FnExactAnswer x_aP x_aNow x_aA x_aDraw = false := by simp only [F_laws_FnExactAnswer, h23, h30, e538, h541, h543, cond_true, cond_false]
    rw [hF995]
    exact rfl
   refine cf (congrArg not h543) ?_
   refine wc_skip <| wq_then <| wc_seq <| wc_seq ?_
   refine wc_drawT ([(62, [], [], (fun _ v _ => v = (.agg #[(vi (((F_laws_toPaths x_aP).At).Host)), (vi (((F_laws_toPaths x_aP).At).Port)), (vs a354 ((F_laws_toPaths x_aP).Cands).length c355)]))), (63, [], [], (fun _ v _ => v = (.agg #[(vi x_aP.At.Host), (vi x_aP.At.Port), (vs a1 x_aP.Cands.length c2)]))), (64, [], [1], (fun _ v w => ∃ (a1 : Option Addr) (c1 : Nat), v = .agg #[.int .i64 (((F_laws_toPaths x_aP).At).Host), .int .i64 (((F_laws_toPaths x_aP).At).Port), .slice a1 ((F_laws_toPaths x_aP).Cands).length c1] ∧ OLv LT_54 w (w10.heap.size) w.heap.size a1 ((F_laws_toPaths x_aP).Cands).length c1 ((F_laws_toPaths x_aP).Cands) ∧ ((F_laws_toPaths x_aP).Cands).length ≤ 1073741824 ∧ Aps [(a1, c1)]))] : GV) (fun _ w' => Keep w10 w') [] mixed rfl (by kernel_rfl) (by kernel_rfl) ?_ (fun _ _ h => h) (fun _ _ _ _ h _ k => h.trans k) trivial ?_ ?_ ?_
   ·exact ⟨(fun _ _ _ _ h _ => h), (fun _ _ _ _ _ h => h), ⟨(fun _ _ _ _ h _ => h), (fun _ _ _ _ _ h => h), ⟨(fun e v w w1 h hk => by obtain ⟨a0x, c0x, he, o0x, l0x, hap⟩ := h; exact ⟨a0x, c0x, he, OLv.now (OLv.kp o0x hk), l0x, hap⟩), (fun _ _ _ _ _ h => h), trivial⟩⟩⟩
   ·exact trivial
   ·refine ⟨?_, ⟨?_, ⟨?_, trivial⟩⟩⟩
    ·intro _ w11 k568 _
     have m569 := m540.extk k568
     rintro _ _ _
     show WL _ _ _ _ _ _ _
     have b570 := ((((b370.kp k373).kp k513).kp k539).kp k568)
     refine lN (L_59 (F_laws_toPaths x_aP) a354 c355) wN isAgg_59 sizeOf_59 b570 ?_
     exact wl_finT (Ch.refl _ _) rfl
    ·intro _ w11 k571 _
     have m572 := m540.extk k571
     rintro _ _ _
     show WL _ _ _ _ _ _ _
     have b573 := (((((((b352.kp k353).kp k366).ch k369 (Nat.ne_of_lt (Nat.lt_of_lt_of_le p13 (Nat.le_trans (t4 k20.size k28.size k315.size k353.size) p364)))).kp k373).kp k513).kp k539).kp k571)
     refine lN (L_59 x_aP a1 c2) wN isAgg_51 sizeOf_51 b573 ?_
     exact wl_finT (Ch.refl _ _) rfl
    ·intro _ w11 k574 _
     have m575 := m540.extk k574
     rintro _ _ rfl _
     show WL _ _ _ _ _ _ _
     refine cl wN (C_laws_toPaths w11 _ x_aP (mR_51 (RLv.raw (r3.from0 m575) (by omega) (fun e he b hb => Nat.le_trans (z34b e he b hb) (by decide))) (by omega))) ?_
     rintro _ w12 ⟨k577, ⟨a578, c579, rfl, o580, s581, ap583⟩⟩
     have m584 := m575.extk k577
     obtain ⟨y585, o586⟩ := OLv.ow o580
     exact wl_finT k577 ⟨_, _, rfl, (OLv.now (OLv.low o580 k574.size)), s581, ap583⟩
   ·intro _ w11 k587
    have m588 := m540.extk k587
    rintro _ rfl _ rfl _ ⟨a591, c592, rfl, o593, s594, ap596⟩
    obtain ⟨y597, o598⟩ := OLv.ow o593
    show WL _ _ _ _ _ _ _
    have o599 := (OLv.kp (OLv.kp (OLv.kp (OLv.kp (OLv.ch (OLv.kp o356 k366) k369 (fun g h1 h2 hk => by have h3 := Nat.le_trans (Nat.le_refl w5.heap.size) p364; omega)) k373) k513) k539) k587)
    obtain ⟨y601, e602⟩ : ∃ y, F_laws_eqPaths (F_laws_toPaths x_aP) (F_laws_toPaths x_aP) = y := ⟨_, rfl⟩
    have hc600 := C_laws_eqPaths w11 _ (F_laws_toPaths x_aP) (mR_59 (OLv.rl o599) s357) _ (F_laws_toPaths x_aP) (mR_59 (OLv.rl o593) s594)
    rw [e602] at hc600
    refine cl wN hc600 ?_
    rintro _ w12 ⟨k603, rfl⟩
    have m604 := m588.extk k603
    refine pu (vb (!(y601))) wN ?_
    refine wl_nil <| wq_then ?_
    rcases bf y601 with h605 | h605
    ·refine ct (congrArg not h605) ?_
     refine sr ?_
     refine ag (vb false) wN ?_
     refine wl_nil <| wq_then <| wc_ret <| wq_then_ret ?_
     refine ret_1 (.inl rfl) (vb false) rfl rfl ?_
     refine ⟨m604.keep0, ?_⟩
     have hF993 : F_laws_FnExactAnswer x_aP x_aNow x_aA x_aDraw = false := by simp only [F_laws_FnExactAnswer, h23, h30, e538, h541, h543, e602, h605, cond_true, cond_false]
     rw [hF993]
     exact rfl
    refine cf (congrArg not h605) ?_
    refine wc_skip <| wq_then <| wc_seq <| sr ?_
    refine mv (vs a374 (cpB x_aDraw).length c375) wN ?_
    refine mv (vs a6 x_aDraw.length c7) wN ?_
    refine cl wN (C_laws_toByteS w12 _ x_aDraw (mR_22 (r8.from0 m604) (by omega))) ?_
    rintro _ w13 ⟨k607, ⟨a608, c609, rfl, o610, s611, ap613⟩⟩
    have m614 := m604.extk k607
    have o615 := (own_kp (own_kp (own_kp (own_kp (own_kp o376 k513) k539) k587) k603) k607)
    refine cl wN (C_laws_eqByteS w13 _ (cpB x_aDraw) (mR_22 (Rd.of_own o615) s377) _ (cpB x_aDraw) (mR_22 (Rd.of_own o610) s611)) ?_
    rintro _ w14 ⟨k616, rfl⟩
    have m617 := m614.extk k616
    refine pu (vb (!(eqB (cpB x_aDraw) (cpB x_aDraw)))) wN ?_
    refine wl_nil <| wq_then ?_
    rcases bf (eqB (cpB x_aDraw) (cpB x_aDraw)) with h618 | h618
    ·refine ct (congrArg not h618) ?_
     refine sr ?_
     refine ag (vb false) wN ?_
     refine wl_nil <| wq_then <| wc_ret <| wq_then_ret ?_
     refine ret_1 (.inl rfl) (vb false) rfl rfl ?_
     refine ⟨m617.keep0, ?_⟩
     have hF991 : F_laws_FnExactAnswer x_aP x_aNow x_aA x_aDraw = false := by simp only [F_laws_FnExactAnswer, h23, h30, e538, h541, h543, e602, h605, h618, cond_true, cond_false]
     rw [hF991]
     exact rfl
    refine cf (congrArg not h618) ?_
    refine wc_skip <| wq_then <| sr ?_
    refine ag (vi 1) wN ?_
    refine nx ?_
    have b620 := (((((((b370.kp k373).kp k513).kp k539).kp k587).kp k603).kp k607).kp k616)
    refine lN (L_59 (F_laws_toPaths x_aP) a354 c355) wN isAgg_59 sizeOf_59 b620 ?_
    refine mv (vi 1) wN ?_
    have o621 := (OLv.kp (OLv.kp (OLv.kp o599 k603) k607) k616)
    refine cl wN (C_laws_markPaths w14 a354 c355 (F_laws_toPaths x_aP) _ _ 1 (by omega) (by omega) o621) ?_
    rintro _ w15 ⟨rfl, k622, r623⟩
    have m624 := m617.ext k622 (fun k hk => Nat.le_trans (t4 k14.size k20.size k28.size k315.size) hk.1)
    have q625 := OLv.wb (wt := wt_PCand) (C := 1073741827) o621 (by intro x; simp only [wt_PCand]; omega) (by intro x hx; simp only [LT_54, List.mem_cons, List.not_mem_nil, or_false, forall_eq_or_imp, forall_eq] at hx; simp only [wt_PCand]; omega) _ (Nat.le_refl _)
    rw [List.take_length] at q625
    refine ag (vi (1 + totL wt_PCand ((F_laws_toPaths x_aP).Cands))) wN ?_
    refine nx ?_
    refine mv (vs a374 (cpB x_aDraw).length c375) wN ?_
    refine mv (vi (1 + totL wt_PCand ((F_laws_toPaths x_aP).Cands))) wN ?_
    have o626 := (own_ch (own_kp o615 k616) k622 (fun g hg hlt hk => by have h1 := (own_lt o376 g hg).1; have h2 := (Nat.le_trans k366.size k369.size); have h3 := hk.2.1; omega))
    refine cl wN (C_laws_markByteS w15 a374 c375 (cpB x_aDraw) (1 + totL wt_PCand ((F_laws_toPaths x_aP).Cands)) (by omega) (by omega) s377 (Rd.of_own o626) (Wp.of o626)) ?_
    rintro _ w16 ⟨rfl, k627, r628⟩
    have m629 := m624.ext k627 (fun k hk => ms_ge (ms_ge_cons (fun hn x hx => Nat.le_trans (t7 k14.size k20.size k28.size k315.size k353.size k366.size k369.size) (own_lt o376 x.block (by rw [hx]; rfl)).1) ms_ge_nil) hk)
    have l630 : Ch (MS (([(a374, (cpB x_aDraw).length, c375)] : List (Option Addr × Nat × Nat)).map fun p => (p.1, p.2.1))) w15 w16 := k627
    refine ag (vi ((1 + totL wt_PCand ((F_laws_toPaths x_aP).Cands)) + ((cpB x_aDraw).length : Int))) wN ?_
    refine wl_nil <| wq_then <| wc_seq <| sr ?_
    refine mv (vi ((1 + totL wt_PCand ((F_laws_toPaths x_aP).Cands)) + ((cpB x_aDraw).length : Int))) wN ?_
    refine pu (vb (decide (((1 + totL wt_PCand ((F_laws_toPaths x_aP).Cands)) + ((cpB x_aDraw).length : Int)) < 0))) wN ?_
    refine mv (vb (decide (((1 + totL wt_PCand ((F_laws_toPaths x_aP).Cands)) + ((cpB x_aDraw).length : Int)) < 0))) wN ?_
    rcases bt (decide (((1 + totL wt_PCand ((F_laws_toPaths x_aP).Cands)) + ((cpB x_aDraw).length : Int)) < 0)) with h631 | h631
    ·have q632 := of_decide_eq_true h631
     refine sk h631 ?_
     refine sk h631 ?_
     refine sk h631 ?_
     refine sk h631 ?_
     refine pk (vb true) wN h631 ?_
     refine mv (vb true) wN ?_
     refine sk (Eq.refl true) ?_
     refine sk (Eq.refl true) ?_
     refine sk (Eq.refl true) ?_
     refine pk (vb true) wN (Eq.refl true) ?_
     refine wl_nil <| wq_then ?_
     refine ct (Eq.refl true) ?_
     refine sr ?_
     refine ag (vb false) wN ?_
     refine wl_nil <| wq_then <| wc_ret <| wq_then_ret ?_
     refine ret_1 (.inl rfl) (vb false) rfl rfl ?_
     refine ⟨m629.keep0, ?_⟩
     have hF633 : F_laws_FnExactAnswer x_aP x_aNow x_aA x_aDraw = false := by simp only [F_laws_FnExactAnswer, h23, h30, e538, h541, h543, e602, h605, h618, h631, cond_true, cond_false]
     rw [hF633]
     exact rfl
    have q634 := of_decide_eq_false h631
    have b635 := (((((((b533.kp k539).kp k587).kp k603).kp k607).kp k616).ch k622 (fun h => by have h1 := h.2.1; have h3 := Nat.le_trans (t3 k366.size k369.size k373.size) p526; omega)).ch k627 (ms_lo (ms_lo_cons (fun hn x hx hb => by have := (own_lt o376 x.block (by rw [hx]; rfl)).2; have := Nat.le_trans (Nat.le_refl w8.heap.size) p526; omega) ms_lo_nil)))
    refine lN (L_59 ((F_impl_Answer (F_laws_toPaths x_aP) x_aNow (F_laws_toAddr x_aA) (cpB x_aDraw)).1) a517 c518) (wS h631) isAgg_59 sizeOf_59 b635 ?_
    have b636 := (((((((b534.kp k539).kp k587).kp k603).kp k607).kp k616).ch k622 (fun h => by have h1 := h.1; have h3 := Nat.lt_of_lt_of_le (Blk.lt b345) (Nat.le_refl w4.heap.size); omega)).ch k627 (ms_lo (ms_lo_cons (fun hn x hx hb => by have := (own_lt o376 x.block (by rw [hx]; rfl)).1; have := Nat.lt_of_lt_of_le (Blk.lt b345) (t3 k353.size k366.size k369.size); omega) ms_lo_nil)))
    refine lN (L_59 ((F_spec_Answer (F_laws_toPaths x_aP) x_aNow (F_laws_toAddr x_aA) (cpB x_aDraw)).1) a334 c335) (wS h631) isAgg_59 sizeOf_59 b636 ?_
    have o637 := (OLv.ch (OLv.ch (OLv.kp (OLv.kp (OLv.kp (OLv.kp (OLv.kp o519 k539) k587) k603) k607) k616) k622 (fun g h1 h2 hk => by have h3 := (t3 k366.size k369.size k373.size); have h4 := hk.2.1; omega)) k627 (fun g h1 h2 => ms_out (ms_out_cons (fun hn x hx => .inl (Nat.lt_of_lt_of_le (own_lt o376 x.block (by rw [hx]; rfl)).2 (Nat.le_refl w8.heap.size))) ms_out_nil) h1 h2))
    have o638 := (OLv.ch (OLv.ch (OLv.kp (OLv.kp (OLv.kp (OLv.kp (OLv.kp o535 k539) k587) k603) k607) k616) k622 (fun g h1 h2 hk => by have h3 := (Nat.le_refl w4.heap.size); have h4 := hk.1; omega)) k627 (fun g h1 h2 => ms_out (ms_out_cons (fun hn x hx => .inr (Nat.le_trans (t3 k353.size k366.size k369.size) (own_lt o376 x.block (by rw [hx]; rfl)).1)) ms_out_nil) h1 h2))
    have hc639 := C_laws_eqPaths w16 _ ((F_impl_Answer (F_laws_toPaths x_aP) x_aNow (F_laws_toAddr x_aA) (cpB x_aDraw)).1) (mR_59 (OLv.rl o637) s520) _ ((F_spec_Answer (F_laws_toPaths x_aP) x_aNow (F_laws_toAddr x_aA) (cpB x_aDraw)).1) (mR_59 (OLv.rl o638) s337)
    rw [e538] at hc639
    refine cl (wS h631) hc639 ?_
    rintro _ w17 ⟨k640, rfl⟩
    have m641 := m629.extk k640
    refine pu (vb (!(y537))) (wS h631) ?_
    refine pf (vb (!(y537))) wN h631 ?_
    refine mv (vb (!(y537))) wN ?_
    refine mv (vb ((F_impl_Answer (F_laws_toPaths x_aP) x_aNow (F_laws_toAddr x_aA) (cpB x_aDraw)).2)) (wS (congrArg not h541)) ?_
    refine mv (vb ((F_spec_Answer (F_laws_toPaths x_aP) x_aNow (F_laws_toAddr x_aA) (cpB x_aDraw)).2)) (wS (congrArg not h541)) ?_
    refine pu (vb (!(((F_impl_Answer (F_laws_toPaths x_aP) x_aNow (F_laws_toAddr x_aA) (cpB x_aDraw)).2) == ((F_spec_Answer (F_laws_toPaths x_aP) x_aNow (F_laws_toAddr x_aA) (cpB x_aDraw)).2)))) (wS (congrArg not h541)) ?_
    refine pf (vb (!(((F_impl_Answer (F_laws_toPaths x_aP) x_aNow (F_laws_toAddr x_aA) (cpB x_aDraw)).2) == ((F_spec_Answer (F_laws_toPaths x_aP) x_aNow (F_laws_toAddr x_aA) (cpB x_aDraw)).2)))) wN (congrArg not h541) ?_
    refine wl_nil <| wq_then ?_
    refine cf (congrArg not h543) ?_
    refine wc_skip <| wq_then <| sr ?_
    refine ag (vi 1) wN ?_
    refine nx ?_
    have b642 := (b635.kp k640)
    refine lN (L_59 ((F_impl_Answer (F_laws_toPaths x_aP) x_aNow (F_laws_toAddr x_aA) (cpB x_aDraw)).1) a517 c518) wN isAgg_59 sizeOf_59 b642 ?_
    refine mv (vi 1) wN ?_
    have o643 := (OLv.kp o637 k640)
    refine cl wN (C_laws_markPaths w17 a517 c518 ((F_impl_Answer (F_laws_toPaths x_aP) x_aNow (F_laws_toAddr x_aA) (cpB x_aDraw)).1) _ _ 1 (by omega) (by omega) o643) ?_
    rintro _ w18 ⟨rfl, k644, r645⟩
    have m646 := m641.ext k644 (fun k hk => Nat.le_trans (t8 k14.size k20.size k28.size k315.size k353.size k366.size k369.size k373.size) hk.1)
    have q647 := OLv.wb (wt := wt_PCand) (C := 1073741827) o643 (by intro x; simp only [wt_PCand]; omega) (by intro x hx; simp only [LT_54, List.mem_cons, List.not_mem_nil, or_false, forall_eq_or_imp, forall_eq] at hx; simp only [wt_PCand]; omega) _ (Nat.le_refl _)
    rw [List.take_length] at q647
    refine ag (vi (1 + totL wt_PCand (((F_impl_Answer (F_laws_toPaths x_aP) x_aNow (F_laws_toAddr x_aA) (cpB x_aDraw)).1).Cands))) wN ?_
    refine nx ?_
    refine ag (vi 1) wN ?_
    refine nx ?_
    have b648 := (b642.ch k644 (fun h => rowat_blk h.2.2 b642 (by decide) (by decide)))
    refine lN [(vi ((((F_impl_Answer (F_laws_toPaths x_aP) x_aNow (F_laws_toAddr x_aA) (cpB x_aDraw)).1).At).Host)), (vi ((((F_impl_Answer (F_laws_toPaths x_aP) x_aNow (F_laws_toAddr x_aA) (cpB x_aDraw)).1).At).Port)), (vs a517 (((F_impl_Answer (F_laws_toPaths x_aP) x_aNow (F_laws_toAddr x_aA) (cpB x_aDraw)).1).Cands).length c518)] wN isAgg_59 sizeOf_59 b648 ?_
    refine mv (vi 1) wN ?_
    obtain ⟨y650, e651⟩ : ∃ y, F_laws_heldPaths { At := (((F_impl_Answer (F_laws_toPaths x_aP) x_aNow (F_laws_toAddr x_aA) (cpB x_aDraw)).1).At), Cands := (marksE mkE_PCand wt_PCand (((F_impl_Answer (F_laws_toPaths x_aP) x_aNow (F_laws_toAddr x_aA) (cpB x_aDraw)).1).Cands) 1) : PPaths } 1 = y := ⟨_, rfl⟩
    have hc649 := C_laws_heldPaths w18 _ _ (show R_59 w18 (va [(vi ((((F_impl_Answer (F_laws_toPaths x_aP) x_aNow (F_laws_toAddr x_aA) (cpB x_aDraw)).1).At).Host)), (vi ((((F_impl_Answer (F_laws_toPaths x_aP) x_aNow (F_laws_toAddr x_aA) (cpB x_aDraw)).1).At).Port)), (vs a517 (((F_impl_Answer (F_laws_toPaths x_aP) x_aNow (F_laws_toAddr x_aA) (cpB x_aDraw)).1).Cands).length c518)]) { At := (((F_impl_Answer (F_laws_toPaths x_aP) x_aNow (F_laws_toAddr x_aA) (cpB x_aDraw)).1).At), Cands := (marksE mkE_PCand wt_PCand (((F_impl_Answer (F_laws_toPaths x_aP) x_aNow (F_laws_toAddr x_aA) (cpB x_aDraw)).1).Cands) 1) : PPaths } from ⟨a517, c518, by simp only [marksB_len, marksI_len, marksL_len, marksE_len], by simpa only [marksB_len, marksI_len, marksL_len, marksE_len] using (RLk.rl r645), by simp only [marksB_len, marksI_len, marksL_len, marksE_len]; first | exact s520 | omega⟩) 1 (by omega) (by omega)
    rw [e651] at hc649
    refine cl wN hc649 ?_
    rintro _ w19 ⟨k652, rfl⟩
    have m653 := m646.extk k652
    refine ag (vi (y650)) wN ?_
    refine wl_nil <| wq_then <| wc_seq <| sr ?_
    refine mv (vi (y650)) wN ?_
    refine pu (vb (decide ((y650) < 0))) wN ?_
    refine wl_nil <| wq_then ?_
    rcases bt (decide ((y650) < 0)) with h654 | h654
    ·have q655 := of_decide_eq_true h654
     refine ct h654 ?_
     refine sr ?_
     refine ag (vb false) wN ?_
     refine wl_nil <| wq_then <| wc_ret <| wq_then_ret ?_
     refine ret_1 (.inl rfl) (vb false) rfl rfl ?_
     refine ⟨m653.keep0, ?_⟩
     have hF656 : F_laws_FnExactAnswer x_aP x_aNow x_aA x_aDraw = false := by simp only [F_laws_FnExactAnswer, h23, h30, e538, h541, h543, e602, h605, h618, h631, e651, h654, cond_true, cond_false]
     rw [hF656]
     exact rfl
    have q657 := of_decide_eq_false h654
    refine cf h654 ?_
    refine wc_skip <| wq_then <| wc_seq <| sr ?_
    refine mv (vi (y650)) wN ?_
    refine mv (vi (1 + totL wt_PCand (((F_impl_Answer (F_laws_toPaths x_aP) x_aNow (F_laws_toAddr x_aA) (cpB x_aDraw)).1).Cands))) wN ?_
    refine pu (vb (!(decide ((y650) = (1 + totL wt_PCand (((F_impl_Answer (F_laws_toPaths x_aP) x_aNow (F_laws_toAddr x_aA) (cpB x_aDraw)).1).Cands)))))) wN ?_
    refine wl_nil <| wq_then ?_
    rcases bf (decide ((y650) = (1 + totL wt_PCand (((F_impl_Answer (F_laws_toPaths x_aP) x_aNow (F_laws_toAddr x_aA) (cpB x_aDraw)).1).Cands)))) with h658 | h658
    ·have q988 := of_decide_eq_false h658
     refine ct (congrArg not h658) ?_
     refine sr ?_
     refine ag (vb false) wN ?_
     refine wl_nil <| wq_then <| wc_ret <| wq_then_ret ?_
     refine ret_1 (.inl rfl) (vb false) rfl rfl ?_
     refine ⟨m653.keep0, ?_⟩
     have hF989 : F_laws_FnExactAnswer x_aP x_aNow x_aA x_aDraw = false := by simp only [F_laws_FnExactAnswer, h23, h30, e538, h541, h543, e602, h605, h618, h631, e651, h654, h658, cond_true, cond_false]
     rw [hF989]
     exact rfl
    have q659 := of_decide_eq_true h658
    refine cf (congrArg not h658) ?_
    refine wc_skip <| wq_then <| wc_seq ?_
    refine wc_drawT ([(103, [], [], (fun _ v _ => v = (.agg #[(vi x_aP.At.Host), (vi x_aP.At.Port), (vs a1 x_aP.Cands.length c2)]))), (104, [], [0], (fun _ v w => ∃ (a1 : Option Addr) (c1 : Nat), v = .agg #[.int .i64 (((F_laws_toPaths x_aP).At).Host), .int .i64 (((F_laws_toPaths x_aP).At).Port), .slice a1 ((F_laws_toPaths x_aP).Cands).length c1] ∧ OLv LT_54 w (w19.heap.size) w.heap.size a1 ((F_laws_toPaths x_aP).Cands).length c1 ((F_laws_toPaths x_aP).Cands) ∧ ((F_laws_toPaths x_aP).Cands).length ≤ 1073741824 ∧ Aps [(a1, c1)])), (105, [], [], (fun _ v _ => v = (vi x_aNow))), (106, [], [], (fun _ v _ => v = (.agg #[(vi x_aA.Host), (vi x_aA.Port)]))), (107, [], [0, 1, 3], (fun _ v w => v = .agg #[.int .i64 ((F_laws_toAddr x_aA).Host), .int .i64 ((F_laws_toAddr x_aA).Port)])), (108, [], [], (fun _ v _ => v = (vs a6 x_aDraw.length c7))), (109, [104], [0, 1, 3, 4, 5], (fun e v w => ∃ (a1 : Option Addr) (c1 : Nat), v = .slice a1 (cpB x_aDraw).length c1 ∧ w.ownsRow (w19.heap.size) 5 1 (.slice a1 (cpB x_aDraw).length c1) (cpB x_aDraw).length ((cpB x_aDraw).map bV) ∧ (cpB x_aDraw).length ≤ 1073741824 ∧ Aps [(a1, c1)] ∧ Ap (sp (cellAt (e 104) 2)) (a1, c1))), (110, [104, 109], [0, 1, 2, 3, 4, 5, 6], (fun e v w => ∃ (a1 : Option Addr) (c1 : Nat), v = .tuple #[.agg #[.int .i64 ((((F_impl_Answer (F_laws_toPaths x_aP) x_aNow (F_laws_toAddr x_aA) (cpB x_aDraw)).1).At).Host), .int .i64 ((((F_impl_Answer (F_laws_toPaths x_aP) x_aNow (F_laws_toAddr x_aA) (cpB x_aDraw)).1).At).Port), .slice a1 (((F_impl_Answer (F_laws_toPaths x_aP) x_aNow (F_laws_toAddr x_aA) (cpB x_aDraw)).1).Cands).length c1], .bool ((F_impl_Answer (F_laws_toPaths x_aP) x_aNow (F_laws_toAddr x_aA) (cpB x_aDraw)).2)] ∧ OLv LT_54 w (w19.heap.size) w.heap.size a1 (((F_impl_Answer (F_laws_toPaths x_aP) x_aNow (F_laws_toAddr x_aA) (cpB x_aDraw)).1).Cands).length c1 (((F_impl_Answer (F_laws_toPaths x_aP) x_aNow (F_laws_toAddr x_aA) (cpB x_aDraw)).1).Cands) ∧ (((F_impl_Answer (F_laws_toPaths x_aP) x_aNow (F_laws_toAddr x_aA) (cpB x_aDraw)).1).Cands).length ≤ 1073741824 ∧ Aps [(a1, c1)] ∧ Ap (sp (cellAt (e 104) 2)) (a1, c1) ∧ Ap (sp (e 109)) (a1, c1))), (102, [110], [0, 1, 2, 3, 4, 5, 6, 7], (fun e v _ => v = (.tuple #[(.agg #[(vi ((((F_impl_Answer (F_laws_toPaths x_aP) x_aNow (F_laws_toAddr x_aA) (cpB x_aDraw)).1).At).Host)), (vi ((((F_impl_Answer (F_laws_toPaths x_aP) x_aNow (F_laws_toAddr x_aA) (cpB x_aDraw)).1).At).Port)), (cellAt (tupAt (e 110) 0) 2)]), (vb ((F_impl_Answer (F_laws_toPaths x_aP) x_aNow (F_laws_toAddr x_aA) (cpB x_aDraw)).2))]))), (111, [110], [0, 1, 2, 3, 4, 5, 6, 7, 8], (fun e v _ => v = (.agg #[(vi ((((F_impl_Answer (F_laws_toPaths x_aP) x_aNow (F_laws_toAddr x_aA) (cpB x_aDraw)).1).At).Host)), (vi ((((F_impl_Answer (F_laws_toPaths x_aP) x_aNow (F_laws_toAddr x_aA) (cpB x_aDraw)).1).At).Port)), (cellAt (tupAt (e 110) 0) 2)]))), (112, [], [0, 1, 2, 3, 4, 5, 6, 7, 8], (fun _ v _ => v = (vb ((F_impl_Answer (F_laws_toPaths x_aP) x_aNow (F_laws_toAddr x_aA) (cpB x_aDraw)).2)))), (19, [], [], (fun _ v w => ∃ (g : Nat) (x0 x1 x2 : Value), v = vp g 0 ∧ w19.heap.size ≤ g ∧ Blk w g 59 [x0, x1, x2])), (142, [19, 110], [0, 1, 2, 3, 4, 5, 6, 7, 8, 9, 11], (fun e _ w => ∃ g : Nat, e 19 = vp g 0 ∧ w19.heap.size ≤ g ∧ Blk w g 59 [(vi ((((F_impl_Answer (F_laws_toPaths x_aP) x_aNow (F_laws_toAddr x_aA) (cpB x_aDraw)).1).At).Host)), (vi ((((F_impl_Answer (F_laws_toPaths x_aP) x_aNow (F_laws_toAddr x_aA) (cpB x_aDraw)).1).At).Port)), (cellAt (tupAt (e 110) 0) 2)]))] : GV) (fun _ w' => Keep w19 w') [(12, fun w w' => ∃ g : Nat, w19.heap.size ≤ g ∧ (∃ x0 x1 x2 : Value, Blk w g 59 [x0, x1, x2]) ∧ Ch (fun k => k = g) w w' ∧ ∃ x0 x1 x2 : Value, Blk w' g 59 [x0, x1, x2])] mixed rfl (by kernel_rfl) (by kernel_rfl) ?_ (fun _ _ h => h) (fun _ _ _ _ h _ k => h.trans k) ⟨(fun _ _ w w' h _ _ t => by obtain ⟨g, hle, -, hc2, -⟩ := t; exact h.new hc2 (fun k hk => by have h3 : k = g := hk; omega)), trivial⟩ ?_ ?_ ?_
    ·exact ⟨(fun _ _ _ _ h _ => h), (fun _ _ _ _ _ h => h), ⟨(fun e v w w1 h hk => by obtain ⟨a0x, c0x, he, o0x, l0x, hap⟩ := h; exact ⟨a0x, c0x, he, OLv.now (OLv.kp o0x hk), l0x, hap⟩), (fun _ _ _ _ _ h => h), ⟨(fun _ _ _ _ h _ => h), (fun _ _ _ _ _ h => h), ⟨(fun _ _ _ _ h _ => h), (fun _ _ _ _ _ h => h), ⟨(fun _ _ _ _ h _ => h), (fun _ _ _ _ _ h => h), ⟨(fun _ _ _ _ h _ => h), (fun _ _ _ _ _ h => h), ⟨(fun e v w w1 h hk => by obtain ⟨a0x, c0x, he, o0x, l0x, hap, hx⟩ := h; exact ⟨a0x, c0x, he, own_kp o0x hk, l0x, hap, hx⟩), (fun e1 e2 v w hx h => by have h104x := hx 104 (by simp); simp only [h104x] at h; exact h), ⟨(fun e v w w1 h hk => by obtain ⟨a0x, c0x, he, o0x, l0x, hap, hx⟩ := h; exact ⟨a0x, c0x, he, OLv.now (OLv.kp o0x hk), l0x, hap, hx⟩), (fun e1 e2 v w hx h => by have h104x := hx 104 (by simp); have h109x := hx 109 (by simp); simp only [h104x, h109x] at h; exact h), ⟨(fun _ _ _ _ h _ => h), (fun e1 e2 v w hx h => by have h110x := hx 110 (by simp); simp only [h110x] at h; exact h), ⟨(fun _ _ _ _ h _ => h), (fun e1 e2 v w hx h => by have h110x := hx 110 (by simp); simp only [h110x] at h; exact h), ⟨(fun _ _ _ _ h _ => h), (fun _ _ _ _ _ h => h), ⟨(fun e v w w1 h hk => by obtain ⟨g, x0, x1, x2, he, hle, hb⟩ := h; exact ⟨g, _, _, _, he, hle, hb.kp hk⟩), (fun _ _ _ _ _ h => h), ⟨(fun e v w w1 h hk => by obtain ⟨g, he, hle, hb⟩ := h; exact ⟨g, he, hle, hb.kp hk⟩), (fun e1 e2 v w hx h => by have h19x := hx 19 (by simp); have h110x := hx 110 (by simp); simp only [h19x, h110x] at h; exact h), trivial⟩⟩⟩⟩⟩⟩⟩⟩⟩⟩⟩⟩⟩
    ·exact ⟨⟨.inr (fun _ _ _ _ h _ => h), ⟨.inr (fun e v w w1 h ht => by obtain ⟨a0x, c0x, he, o0x, l0x, hap⟩ := h; obtain ⟨gt, hlt, ⟨_, _, _, hbt⟩, hct, ⟨_, _, _, hbt2⟩⟩ := ht; exact ⟨a0x, c0x, he, OLv.now (olv_blk o0x hbt (by decide) (by decide) hct), l0x, hap⟩), ⟨.inr (fun _ _ _ _ h _ => h), ⟨.inr (fun _ _ _ _ h _ => h), ⟨.inr (fun _ _ _ _ h _ => h), ⟨.inr (fun _ _ _ _ h _ => h), ⟨.inr (fun e v w w1 h ht => by obtain ⟨a0x, c0x, he, o0x, l0x, hap, hx⟩ := h; obtain ⟨gt, hlt, ⟨_, _, _, hbt⟩, hct, ⟨_, _, _, hbt2⟩⟩ := ht; exact ⟨a0x, c0x, he, own_blk o0x hbt (by decide) hct, l0x, hap, hx⟩), ⟨.inr (fun e v w w1 h ht => by obtain ⟨a0x, c0x, he, o0x, l0x, hap, hx⟩ := h; obtain ⟨gt, hlt, ⟨_, _, _, hbt⟩, hct, ⟨_, _, _, hbt2⟩⟩ := ht; exact ⟨a0x, c0x, he, OLv.now (olv_blk o0x hbt (by decide) (by decide) hct), l0x, hap, hx⟩), ⟨.inr (fun _ _ _ _ h _ => h), ⟨.inr (fun _ _ _ _ h _ => h), ⟨.inr (fun _ _ _ _ h _ => h), ⟨.inr (fun e v w w1 h ht => by obtain ⟨g, x0, x1, x2, he, hle, hb⟩ := h; obtain ⟨gt, hlt, ⟨_, _, _, hbt⟩, hct, ⟨_, _, _, hbt2⟩⟩ := ht; by_cases hg : g = gt; (· subst hg; exact ⟨g, _, _, _, he, hle, hbt2⟩); (· exact ⟨g, _, _, _, he, hle, hb.ch hct hg⟩)), ⟨.inl rfl, trivial⟩⟩⟩⟩⟩⟩⟩⟩⟩⟩⟩⟩⟩, trivial⟩
    ·refine ⟨?_, ⟨?_, ⟨?_, ⟨?_, ⟨?_, ⟨?_, ⟨?_, ⟨?_, ⟨?_, ⟨?_, ⟨?_, ⟨?_, ⟨?_, trivial⟩⟩⟩⟩⟩⟩⟩⟩⟩⟩⟩⟩⟩
     ·intro _ w20 k724 _
      have m725 := m653.extk k724
      rintro _ _ _ _ _ _ _ _ _ _ _ _ _
      show WL _ _ _ _ _ _ _
      have b726 := ((((((((((((((((b352.kp k353).kp k366).ch k369 (Nat.ne_of_lt (Nat.lt_of_lt_of_le p13 (Nat.le_trans (t4 k20.size k28.size k315.size k353.size) p364)))).kp k373).kp k513).kp k539).kp k587).kp k603).kp k607).kp k616).ch k622 (fun h => by have h1 := h.1; have h3 := Nat.lt_of_lt_of_le p13 (t3 k20.size k28.size k315.size); omega)).ch k627 (ms_lo (ms_lo_cons (fun hn x hx hb => by have := (own_lt o376 x.block (by rw [hx]; rfl)).1; have := Nat.lt_of_lt_of_le p13 (t6 k20.size k28.size k315.size k353.size k366.size k369.size); omega) ms_lo_nil))).kp k640).ch k644 (fun h => by have h1 := h.1; have h3 := Nat.lt_of_lt_of_le p13 (t7 k20.size k28.size k315.size k353.size k366.size k369.size k373.size); omega)).kp k652).kp k724)
      refine lN (L_59 x_aP a1 c2) wN isAgg_51 sizeOf_51 b726 ?_
      exact wl_finT (Ch.refl _ _) rfl
     ·intro _ w20 k727 _
      have m728 := m653.extk k727
      rintro _ rfl _ _ _ _ _ _ _ _ _ _ _ _
      show WL _ _ _ _ _ _ _
      refine cl wN (C_laws_toPaths w20 _ x_aP (mR_51 (RLv.raw (r3.from0 m728) (by omega) (fun e he b hb => Nat.le_trans (z34b e he b hb) (by decide))) (by omega))) ?_
      rintro _ w21 ⟨k730, ⟨a731, c732, rfl, o733, s734, ap736⟩⟩
      have m737 := m728.extk k730
      obtain ⟨y738, o739⟩ := OLv.ow o733
      exact wl_finT k730 ⟨_, _, rfl, (OLv.now (OLv.low o733 k727.size)), s734, ap736⟩
     ·intro _ w20 k740 _
      have m741 := m653.extk k740
      rintro _ _ _ _ _ _ _ _ _ _ _ _ _
      show WL _ _ _ _ _ _ _
      refine mv (vi x_aNow) wN ?_
      exact wl_finT (Ch.refl _ _) rfl
     ·intro _ w20 k742 _
      have m743 := m653.extk k742
      rintro _ _ _ _ _ _ _ _ _ _ _ _ _
      show WL _ _ _ _ _ _ _
      have b744 := ((((((((((((((((((b21.kp k28).kp k315).kp k353).kp k366).ch k369 (Nat.ne_of_lt (Nat.lt_of_lt_of_le p19 (Nat.le_trans (t3 k28.size k315.size k353.size) p364)))).kp k373).kp k513).kp k539).kp k587).kp k603).kp k607).kp k616).ch k622 (fun h => by have h1 := h.1; have h3 := Nat.lt_of_lt_of_le p19 (Nat.le_trans k28.size k315.size); omega)).ch k627 (ms_lo (ms_lo_cons (fun hn x hx hb => by have := (own_lt o376 x.block (by rw [hx]; rfl)).1; have := Nat.lt_of_lt_of_le p19 (t5 k28.size k315.size k353.size k366.size k369.size); omega) ms_lo_nil))).kp k640).ch k644 (fun h => by have h1 := h.1; have h3 := Nat.lt_of_lt_of_le p19 (t6 k28.size k315.size k353.size k366.size k369.size k373.size); omega)).kp k652).kp k742)
      refine lN (L_26 x_aA) wN isAgg_48 sizeOf_48 b744 ?_
      exact wl_finT (Ch.refl _ _) rfl
     ·intro _ w20 k745 _
      have m746 := m653.extk k745
      rintro _ rfl _ ⟨a748, c749, rfl, o750, s751, ap753⟩
      obtain ⟨y754, o755⟩ := OLv.ow o750
      rintro _ _ rfl _ _ _ _ _ _ _ _ _
      show WL _ _ _ _ _ _ _
      refine cl wN (C_laws_toAddr w20 _ x_aA (mR_48)) ?_
      rintro _ w21 ⟨k757, rfl⟩
      have m758 := m746.extk k757
      exact wl_finT k757 rfl
     ·intro _ w20 k759 _
      have m760 := m653.extk k759
      rintro _ _ _ _ _ _ _ _ _ _ _ _ _
      show WL _ _ _ _ _ _ _
      refine mv (vs a6 x_aDraw.length c7) wN ?_
      exact wl_finT (Ch.refl _ _) rfl
     ·intro _ w20 k761 _
      have m762 := m653.extk k761
      rintro _ rfl _ ⟨a764, c765, rfl, o766, s767, ap769⟩
      obtain ⟨y770, o771⟩ := OLv.ow o766
      rintro _ _ rfl _ rfl _ rfl _ _ _ _ _ _ _
      show WL _ _ _ _ _ _ _
      refine cl wN (C_laws_toByteS w20 _ x_aDraw (mR_22 (r8.from0 m762) (by omega))) ?_
      rintro _ w21 ⟨k773, ⟨a774, c775, rfl, o776, s777, ap779⟩⟩
      have m780 := m762.extk k773
      exact wl_finT k773 ⟨_, _, rfl, (own_lo o776 k761.size), s777, ap779, (Ap.lt o771 o776 (Nat.le_refl _))⟩
     ·intro _ w20 k781 _
      have m782 := m653.extk k781
      rintro _ rfl _ ⟨a784, c785, rfl, o786, s787, ap789⟩
      obtain ⟨y790, o791⟩ := OLv.ow o786
      rintro _ rfl _ rfl _ rfl _ rfl _ ⟨a793, c794, rfl, o795, s796, ap798, hx799⟩ _ _ _ _ _ _
      show WL _ _ _ _ _ _ _
      refine cl wN (C_impl_Answer w20 _ (F_laws_toPaths x_aP) (mR_59 (OLv.rl o786) s787) x_aNow _ (F_laws_toAddr x_aA) (mR_26) _ (cpB x_aDraw) (mR_22 (Rd.of_own o795) s796)) ?_
      rintro _ w21 ⟨k800, ⟨a801, c802, rfl, o803, s804, ap806⟩⟩
      have m807 := m782.extk k800
      obtain ⟨y808, o809⟩ := OLv.ow o803
      exact wl_finT k800 ⟨_, _, rfl, (OLv.now (OLv.low o803 k781.size)), s804, ap806, ⟨(Ap.lt o791 o809 (Nat.le_refl _)), (Ap.lt o795 o809 (Nat.le_refl _))⟩⟩
     ·intro _ w20 k810 _
      have m811 := m653.extk k810
      rintro _ rfl _ ⟨a813, c814, rfl, o815, s816, ap818⟩
      obtain ⟨y819, o820⟩ := OLv.ow o815
      rintro _ rfl _ rfl _ rfl _ rfl _ ⟨a822, c823, rfl, o824, s825, ap827, hx828⟩ _ ⟨a829, c830, rfl, o831, s832, ap834, hx835⟩
      obtain ⟨y836, o837⟩ := OLv.ow o831
      rintro _ _ _ _ _
      show WL _ _ _ _ _ _ _
      refine mv (.tuple #[(va (L_59 ((F_impl_Answer (F_laws_toPaths x_aP) x_aNow (F_laws_toAddr x_aA) (cpB x_aDraw)).1) a829 c830)), (vb ((F_impl_Answer (F_laws_toPaths x_aP) x_aNow (F_laws_toAddr x_aA) (cpB x_aDraw)).2))]) wN ?_
      exact wl_finT (Ch.refl _ _) rfl
     ·intro _ w20 k838 _
      have m839 := m653.extk k838
      rintro _ rfl _ ⟨a841, c842, rfl, o843, s844, ap846⟩
      obtain ⟨y847, o848⟩ := OLv.ow o843
      rintro _ rfl _ rfl _ rfl _ rfl _ ⟨a850, c851, rfl, o852, s853, ap855, hx856⟩ _ ⟨a857, c858, rfl, o859, s860, ap862, hx863⟩
      obtain ⟨y864, o865⟩ := OLv.ow o859
      rintro _ rfl _ _ _ _
      show WL _ _ _ _ _ _ _
      refine pu (va (L_59 ((F_impl_Answer (F_laws_toPaths x_aP) x_aNow (F_laws_toAddr x_aA) (cpB x_aDraw)).1) a857 c858)) wN ?_
      exact wl_finT (Ch.refl _ _) rfl
     ·intro _ w20 k866 _
      have m867 := m653.extk k866
      rintro _ rfl _ ⟨a869, c870, rfl, o871, s872, ap874⟩
      obtain ⟨y875, o876⟩ := OLv.ow o871
      rintro _ rfl _ rfl _ rfl _ rfl _ ⟨a878, c879, rfl, o880, s881, ap883, hx884⟩ _ ⟨a885, c886, rfl, o887, s888, ap890, hx891⟩
      obtain ⟨y892, o893⟩ := OLv.ow o887
      rintro _ rfl _ _ _ _
      show WL _ _ _ _ _ _ _
      refine pu (vb ((F_impl_Answer (F_laws_toPaths x_aP) x_aNow (F_laws_toAddr x_aA) (cpB x_aDraw)).2)) wN ?_
      exact wl_finT (Ch.refl _ _) rfl
     ·intro _ w20 k894 _
      have m895 := m653.extk k894
      rintro _ _ _ _ _ _ _ _ _ _ _ _ _
      show WL _ _ _ _ _ _ _
      refine al [(vi 0), (vi 0), (vs none 0 0)] wN zero_59 ?_
      intro g896 w21 p897 p898 k899 b900
      have m901 := m895.extk k899
      exact wl_finT k899 ⟨_, _, _, _, rfl, (Nat.le_trans k894.size p897), b900⟩
     ·intro _ w20 k902 _
      have m903 := m653.extk k902
      rintro _ rfl _ ⟨a905, c906, rfl, o907, s908, ap910⟩
      obtain ⟨y911, o912⟩ := OLv.ow o907
      rintro _ rfl _ rfl _ rfl _ rfl _ ⟨a914, c915, rfl, o916, s917, ap919, hx920⟩ _ ⟨a921, c922, rfl, o923, s924, ap926, hx927⟩
      obtain ⟨y928, o929⟩ := OLv.ow o923
      rintro _ rfl _ rfl _ _ ⟨g930, x933, x934, x935, rfl, p931, b932⟩ _
      show WL _ _ _ _ _ _ _
      refine st (va (L_59 ((F_impl_Answer (F_laws_toPaths x_aP) x_aNow (F_laws_toAddr x_aA) (cpB x_aDraw)).1) a921 c922)) (L_59 ((F_impl_Answer (F_laws_toPaths x_aP) x_aNow (F_laws_toAddr x_aA) (cpB x_aDraw)).1) a921 c922) (L_59 ((F_impl_Answer (F_laws_toPaths x_aP) x_aNow (F_laws_toAddr x_aA) (cpB x_aDraw)).1) a921 c922) wN sizeOf_59 b932 ?_
      intro w21 k936 b937 z938
      have m939 := m903.ext k936 (fun k hk => by subst hk; exact Nat.le_trans (t8 (t12 k14.size k20.size k28.size k315.size k353.size k366.size k369.size k373.size k513.size k539.size k587.size k603.size) k607.size k616.size k622.size k627.size k640.size k644.size k652.size) p931)
      exact wl_finS (by decide) ⟨_, p931, ⟨_, _, _, b932⟩, k936, ⟨_, _, _, b937⟩⟩ ⟨_, rfl, p931, b937⟩
    ·intro _ w20 k940
     have m941 := m653.extk k940
     rintro _ rfl _ ⟨a943, c944, rfl, o945, s946, ap948⟩
     obtain ⟨y949, o950⟩ := OLv.ow o945
     rintro _ rfl _ rfl _ rfl _ rfl _ ⟨a952, c953, rfl, o954, s955, ap957, hx958⟩ _ ⟨a959, c960, rfl, o961, s962, ap964, hx965⟩
     obtain ⟨y966, o967⟩ := OLv.ow o961
     rintro _ rfl _ rfl _ rfl _ ⟨g968, x971, x972, x973, rfl, p969, b970⟩ _ ⟨g974, e975, -, b976⟩
     obtain rfl := vp_inj e975
     show WL _ _ _ _ _ _ _
     refine ag (vb ((F_impl_Answer (F_laws_toPaths x_aP) x_aNow (F_laws_toAddr x_aA) (cpB x_aDraw)).2)) wN ?_
     refine wl_nil <| wq_then <| wc_seq <| sr ?_
     refine lN (L_59 ((F_impl_Answer (F_laws_toPaths x_aP) x_aNow (F_laws_toAddr x_aA) (cpB x_aDraw)).1) a959 c960) wN isAgg_59 sizeOf_59 b976 ?_
     have b977 := ((((b636.kp k640).ch k644 (fun h => by have h1 := h.1; have h3 := Nat.lt_of_lt_of_le (Blk.lt b345) (t4 k353.size k366.size k369.size k373.size); omega)).kp k652).kp k940)
     refine lN (L_59 ((F_spec_Answer (F_laws_toPaths x_aP) x_aNow (F_laws_toAddr x_aA) (cpB x_aDraw)).1) a334 c335) wN isAgg_59 sizeOf_59 b977 ?_
     have o978 := (OLv.kp (OLv.kp (OLv.ch (OLv.kp o638 k640) k644 (fun g h1 h2 hk => by have h3 := (t4 k353.size k366.size k369.size k373.size); have h4 := hk.1; omega)) k652) k940)
     have hc979 := C_laws_eqPaths w20 _ ((F_impl_Answer (F_laws_toPaths x_aP) x_aNow (F_laws_toAddr x_aA) (cpB x_aDraw)).1) (mR_59 (OLv.rl o961) s962) _ ((F_spec_Answer (F_laws_toPaths x_aP) x_aNow (F_laws_toAddr x_aA) (cpB x_aDraw)).1) (mR_59 (OLv.rl o978) s337)
     rw [e538] at hc979
     refine cl wN hc979 ?_
     rintro _ w21 ⟨k980, rfl⟩
     have m981 := m941.extk k980
     refine pu (vb (!(y537))) wN ?_
     refine mv (vb (!(y537))) wN ?_
     refine mv (vb ((F_impl_Answer (F_laws_toPaths x_aP) x_aNow (F_laws_toAddr x_aA) (cpB x_aDraw)).2)) (wS (congrArg not h541)) ?_
     refine mv (vb ((F_spec_Answer (F_laws_toPaths x_aP) x_aNow (F_laws_toAddr x_aA) (cpB x_aDraw)).2)) (wS (congrArg not h541)) ?_
     refine pu (vb (!(((F_impl_Answer (F_laws_toPaths x_aP) x_aNow (F_laws_toAddr x_aA) (cpB x_aDraw)).2) == ((F_spec_Answer (F_laws_toPaths x_aP) x_aNow (F_laws_toAddr x_aA) (cpB x_aDraw)).2)))) (wS (congrArg not h541)) ?_
     refine pf (vb (!(((F_impl_Answer (F_laws_toPaths x_aP) x_aNow (F_laws_toAddr x_aA) (cpB x_aDraw)).2) == ((F_spec_Answer (F_laws_toPaths x_aP) x_aNow (F_laws_toAddr x_aA) (cpB x_aDraw)).2)))) wN (congrArg not h541) ?_
     refine wl_nil <| wq_then ?_
     refine cf (congrArg not h543) ?_
     refine wc_skip <| wq_then <| sr ?_
     refine ag (vi 1) wN ?_
     refine nx ?_
     have b982 := (((b648.kp k652).kp k940).kp k980)
     refine lN [(vi ((((F_impl_Answer (F_laws_toPaths x_aP) x_aNow (F_laws_toAddr x_aA) (cpB x_aDraw)).1).At).Host)), (vi ((((F_impl_Answer (F_laws_toPaths x_aP) x_aNow (F_laws_toAddr x_aA) (cpB x_aDraw)).1).At).Port)), (vs a517 (((F_impl_Answer (F_laws_toPaths x_aP) x_aNow (F_laws_toAddr x_aA) (cpB x_aDraw)).1).Cands).length c518)] wN isAgg_59 sizeOf_59 b982 ?_
     refine mv (vi 1) wN ?_
     have r983 := (RLk.kp (RLk.kp (RLk.kp r645 k652) k940) k980)
     have hc984 := C_laws_heldPaths w21 _ _ (show R_59 w21 (va [(vi ((((F_impl_Answer (F_laws_toPaths x_aP) x_aNow (F_laws_toAddr x_aA) (cpB x_aDraw)).1).At).Host)), (vi ((((F_impl_Answer (F_laws_toPaths x_aP) x_aNow (F_laws_toAddr x_aA) (cpB x_aDraw)).1).At).Port)), (vs a517 (((F_impl_Answer (F_laws_toPaths x_aP) x_aNow (F_laws_toAddr x_aA) (cpB x_aDraw)).1).Cands).length c518)]) { At := (((F_impl_Answer (F_laws_toPaths x_aP) x_aNow (F_laws_toAddr x_aA) (cpB x_aDraw)).1).At), Cands := (marksE mkE_PCand wt_PCand (((F_impl_Answer (F_laws_toPaths x_aP) x_aNow (F_laws_toAddr x_aA) (cpB x_aDraw)).1).Cands) 1) : PPaths } from ⟨a517, c518, by simp only [marksB_len, marksI_len, marksL_len, marksE_len], by simpa only [marksB_len, marksI_len, marksL_len, marksE_len] using (RLk.rl r983), by simp only [marksB_len, marksI_len, marksL_len, marksE_len]; first | exact s520 | omega⟩) 1 (by omega) (by omega)
     rw [e651] at hc984
     refine cl wN hc984 ?_
     rintro _ w22 ⟨k985, rfl⟩
     have m986 := m981.extk k985
     refine ag (vi (y650)) wN ?_
     refine wl_nil <| wq_then <| wc_seq <| sr ?_
     refine mv (vi (y650)) wN ?_
     refine pu (vb (decide ((y650) < 0))) wN ?_
     refine wl_nil <| wq_then ?_
     refine cf h654 ?_
     refine wc_skip <| wq_then <| wc_seq <| sr ?_
     refine mv (vi (y650)) wN ?_
     refine mv (vi (1 + totL wt_PCand (((F_impl_Answer (F_laws_toPaths x_aP) x_aNow (F_laws_toAddr x_aA) (cpB x_aDraw)).1).Cands))) wN ?_
     refine pu (vb (!(decide ((y650) = (1 + totL wt_PCand (((F_impl_Answer (F_laws_toPaths x_aP) x_aNow (F_laws_toAddr x_aA) (cpB x_aDraw)).1).Cands)))))) wN ?_
     refine wl_nil <| wq_then ?_
     refine cf (congrArg not h658) ?_
     refine wc_skip <| wq_then <| sr ?_
     refine ag (vb true) wN ?_
     refine wl_nil <| wq_then <| wc_ret ?_
     refine ret_1 (.inl rfl) (vb true) rfl rfl ?_
     refine ⟨m986.keep0, ?_⟩
     have hF987 : F_laws_FnExactAnswer x_aP x_aNow x_aA x_aDraw = true := by simp only [F_laws_FnExactAnswer, h23, h30, e538, h541, h543, e602, h605, h618, h631, e651, h654, h658, cond_true, cond_false]
     rw [hF987]
     exact rfl
end Go.Proofs.Ytjcahjhnnagkdaa.K
