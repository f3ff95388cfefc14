import Derived.Test.YtcbdmamfmcdlaaaCore
import Derived.Test.YtcbdmamfmcdlaaaProg
import Derived.Test.YtcbdmamfmcdlaaaHeld
import Derived.Test.YtcbdmamfmcdlaaaFun
import Derived.Test.YtcbdmamfmcdlaaaFunZ
import Derived.Test.YtcbdmamfmcdlaaaSqz
import Derived.Test.YtcbdmamfmcdlaaaDrawK
import Derived.Test.YtcbdmamfmcdlaaaWc1
namespace Go.Proofs.Ytcbdmamfmcdlaaa.K
open Go.RowKit
set_option linter.unusedVariables false
set_option linter.unusedSimpArgs false
set_option maxRecDepth 100000
set_option maxHeartbeats 4000000
theorem isAgg_39 : ∀ w, (isAgg 39).run Try.prog w = .ok true w := fun w => by kernel_rfl
theorem sizeOf_39 : ∀ w, (sizeOf 39).run Try.prog w = .ok 3 w := fun w => by kernel_rfl
abbrev L_39 (x : PPaths) (a1 : Option Addr) (c1 : Nat) : List Value := [vi x.At.Host, vi x.At.Port, vs a1 x.Cands.length c1]
def Q_36 (w : World) (v : Value) (x : (PAddr)) : Prop := v = .agg #[.int .i64 x.Host, .int .i64 x.Port]
theorem mQ_39 {w : World} {x : PPaths} {a1 : Option Addr} {c1 : Nat} (h1 : RLv LT_143 w 9223372036854775807 a1 x.Cands.length c1 x.Cands) (l1 : x.Cands.length ≤ 9223372036854775807) : Q_39 w (va (L_39 x a1 c1)) x := ⟨_, _, rfl, h1, l1⟩
theorem mR_39 {w : World} {x : PPaths} {a1 : Option Addr} {c1 : Nat} (h1 : RLv LT_143 w 1073741824 a1 x.Cands.length c1 x.Cands) (l1 : x.Cands.length ≤ 1073741824) : R_39 w (va (L_39 x a1 c1)) x := ⟨_, _, rfl, h1, l1⟩
def F_laws_FnExactCandOf (x_aP : PPaths) (x_aA : PAddr) : (Bool) := bif (decide ((F_laws_szPaths x_aP 1048576) < 0)) then (true) else (bif (F_laws_eqCand ((F_impl_CandOf (F_laws_toPaths x_aP) (F_laws_toAddr x_aA)).1) ((candS (F_laws_toPaths x_aP) (F_laws_toAddr x_aA)).1)) then (bif (((F_impl_CandOf (F_laws_toPaths x_aP) (F_laws_toAddr x_aA)).2) == ((candS (F_laws_toPaths x_aP) (F_laws_toAddr x_aA)).2)) then (bif (F_laws_eqPaths (F_laws_toPaths x_aP) (F_laws_toPaths x_aP)) then (bif (decide ((1 + totL wt_PCand ((F_laws_toPaths x_aP).Cands)) < 0)) then (false) else (bif (decide (((F_laws_heldCand { A := (((F_impl_CandOf (F_laws_toPaths x_aP) (F_laws_toAddr x_aA)).1).A), Draw := (marksB 1 (((F_impl_CandOf (F_laws_toPaths x_aP) (F_laws_toAddr x_aA)).1).Draw).length), Until := ((F_impl_CandOf (F_laws_toPaths x_aP) (F_laws_toAddr x_aA)).1).Until : PCand } 1)) < 0)) then (false) else (bif (decide (((F_laws_heldCand { A := (((F_impl_CandOf (F_laws_toPaths x_aP) (F_laws_toAddr x_aA)).1).A), Draw := (marksB 1 (((F_impl_CandOf (F_laws_toPaths x_aP) (F_laws_toAddr x_aA)).1).Draw).length), Until := ((F_impl_CandOf (F_laws_toPaths x_aP) (F_laws_toAddr x_aA)).1).Until : PCand } 1)) = (1 + ((((F_impl_CandOf (F_laws_toPaths x_aP) (F_laws_toAddr x_aA)).1).Draw).length : Int)))) then (true) else (false)))) else (false)) else (false)) else (false))
theorem C_laws_FnExactCandOf (w0 : World) (v_x_aP : Value) (x_aP : PPaths) (r_x_aP : Q_39 w0 v_x_aP x_aP) (v_x_aA : Value) (x_aA : PAddr) (r_x_aA : Q_36 w0 v_x_aA x_aA)  : Fn Try.prog 4 #[v_x_aP, v_x_aA] w0 (fun v w' => Keep w0 w' ∧ O_4 w' w0.heap.size v (F_laws_FnExactCandOf x_aP x_aA)) := by
 obtain ⟨a1, c2, rfl, r3, s4⟩ := r_x_aP
 obtain rfl := r_x_aA
 refine fn_ofS (n := 104) [(va (L_47 x_aP a1 c2)), (va (L_26 x_aA))] Try.func4 rfl rfl ?_
 refine sr ?_
 refine bx (L_47 x_aP a1 c2) wN ?_
 intro g6 w1 p7 p8 k9 b10
 refine bx (L_26 x_aA) wN ?_
 intro g12 w2 p13 p14 k15 b16
 have m17 := ((Ch.base w0).extk k9).extk k15
 refine aw (vb false) ?_
 refine nx ?_
 refine aw (vi 1048576) ?_
 refine nx ?_
 have b18 := (b10.kp k15)
 refine lN (L_47 x_aP a1 c2) wN isAgg_39 sizeOf_39 b18 ?_
 refine mw (vi 1048576) ?_
 refine cl wN (C_laws_szPaths w2 _ x_aP (mQ_39 (r3.from0 m17) s4) 1048576 (by omega) (by omega)) ?_
 rintro _ w3 ⟨k19, rfl⟩
 have m20 := m17.extk k19
 refine aw (vi (F_laws_szPaths x_aP 1048576)) ?_
 refine n4 ?_
 refine mw (vi (F_laws_szPaths x_aP 1048576)) ?_
 refine pu (vb (decide ((F_laws_szPaths x_aP 1048576) < 0))) wN ?_
 refine n2 ?_
 rcases bt (decide ((F_laws_szPaths x_aP 1048576) < 0)) with h21 | h21
 ·have q22 := of_decide_eq_true h21
  refine ct h21 ?_
  refine sr ?_
  refine aw (vb true) ?_
  refine n1 ?_
  refine rt (vb true) ?_
  refine ⟨m20.keep0, ?_⟩
  have hF23 : F_laws_FnExactCandOf x_aP x_aA = true := by first | (simp only [F_laws_FnExactCandOf, h21, cond_true, cond_false, decide_true]; done) | (unfold F_laws_FnExactCandOf; try rw [h21]; first | done | rfl)
  rw [hF23]
  exact rfl
 have q24 := of_decide_eq_false h21
 obtain ⟨z25a, z25b⟩ := ok_F_laws_szPaths q24
 refine cf h21 ?_
 refine wc_skip <| wq_then <| wc_seq ?_
 refine wc_drawK ([(22, [], [], (fun _ v _ => v = (va (L_47 x_aP a1 c2)))), (23, [], [0], (fun _ v w => ∃ (a1 : Option Addr) (c1 : Nat), v = .agg #[.int .i64 (((F_laws_toPaths x_aP).At).Host), .int .i64 (((F_laws_toPaths x_aP).At).Port), .slice a1 ((F_laws_toPaths x_aP).Cands).length c1] ∧ OLv LT_42 w (w3.heap.size) w.heap.size a1 ((F_laws_toPaths x_aP).Cands).length c1 ((F_laws_toPaths x_aP).Cands) ∧ ((F_laws_toPaths x_aP).Cands).length ≤ 1073741824 ∧ Aps [(a1, c1)])), (24, [], [], (fun _ v _ => v = (va (L_26 x_aA)))), (25, [], [0, 1, 2], (fun _ v w => v = .agg #[.int .i64 ((F_laws_toAddr x_aA).Host), .int .i64 ((F_laws_toAddr x_aA).Port)])), (26, [], [0, 1, 2, 3], (fun _ v w => ∃ (a1 : Option Addr) (c1 : Nat), v = .tuple #[.agg #[.int .i64 ((((candS (F_laws_toPaths x_aP) (F_laws_toAddr x_aA)).1).A).Host), .int .i64 ((((candS (F_laws_toPaths x_aP) (F_laws_toAddr x_aA)).1).A).Port), .slice a1 (((candS (F_laws_toPaths x_aP) (F_laws_toAddr x_aA)).1).Draw).length c1, .int .i64 (((candS (F_laws_toPaths x_aP) (F_laws_toAddr x_aA)).1).Until)], .bool ((candS (F_laws_toPaths x_aP) (F_laws_toAddr x_aA)).2)] ∧ w.ownsRow (w3.heap.size) 5 1 (.slice a1 (((candS (F_laws_toPaths x_aP) (F_laws_toAddr x_aA)).1).Draw).length c1) (((candS (F_laws_toPaths x_aP) (F_laws_toAddr x_aA)).1).Draw).length ((((candS (F_laws_toPaths x_aP) (F_laws_toAddr x_aA)).1).Draw).map bV) ∧ (((candS (F_laws_toPaths x_aP) (F_laws_toAddr x_aA)).1).Draw).length ≤ 1073741824 ∧ Aps [(a1, c1)])), (21, [26], [0, 1, 2, 3, 4], (fun e v _ => v = (.tuple #[(.agg #[(vi ((((candS (F_laws_toPaths x_aP) (F_laws_toAddr x_aA)).1).A).Host)), (vi ((((candS (F_laws_toPaths x_aP) (F_laws_toAddr x_aA)).1).A).Port)), (cellAt (tupAt (e 26) 0) 2), (vi (((candS (F_laws_toPaths x_aP) (F_laws_toAddr x_aA)).1).Until))]), (vb ((candS (F_laws_toPaths x_aP) (F_laws_toAddr x_aA)).2))]))), (27, [26], [0, 1, 2, 3, 4, 5], (fun e v _ => v = (.agg #[(vi ((((candS (F_laws_toPaths x_aP) (F_laws_toAddr x_aA)).1).A).Host)), (vi ((((candS (F_laws_toPaths x_aP) (F_laws_toAddr x_aA)).1).A).Port)), (cellAt (tupAt (e 26) 0) 2), (vi (((candS (F_laws_toPaths x_aP) (F_laws_toAddr x_aA)).1).Until))]))), (28, [], [0, 1, 2, 3, 4, 5], (fun _ v _ => v = (vb ((candS (F_laws_toPaths x_aP) (F_laws_toAddr x_aA)).2)))), (6, [], [], (fun _ v w => ∃ (g : Nat) (x0 x1 x2 x3 : Value), v = vp g 0 ∧ w3.heap.size ≤ g ∧ Blk w g 42 [x0, x1, x2, x3])), (113, [6, 26], [0, 1, 2, 3, 4, 5, 6, 8], (fun e _ w => ∃ g : Nat, e 6 = vp g 0 ∧ w3.heap.size ≤ g ∧ Blk w g 42 [(vi ((((candS (F_laws_toPaths x_aP) (F_laws_toAddr x_aA)).1).A).Host)), (vi ((((candS (F_laws_toPaths x_aP) (F_laws_toAddr x_aA)).1).A).Port)), (cellAt (tupAt (e 26) 0) 2), (vi (((candS (F_laws_toPaths x_aP) (F_laws_toAddr x_aA)).1).Until))]))] : GV) [] [[], [9], [], [], [], [], [], [], [], []] [0, 2, 3, 4, 5, 6, 7, 8, 9] (by kernel_rfl) (by kernel_rfl) (fun _ w' => Keep w3 w') [(9, fun w w' => ∃ g : Nat, w3.heap.size ≤ g ∧ (∃ x0 x1 x2 x3 : Value, Blk w g 42 [x0, x1, x2, x3]) ∧ Ch (fun k => k = g) w w' ∧ ∃ x0 x1 x2 x3 : Value, Blk w' g 42 [x0, x1, x2, x3])] mixed rfl (by kernel_rfl) (by kernel_rfl) ?_ (fun _ _ h => h) (fun _ _ _ _ h _ k => h.trans k) ⟨(fun _ _ w w' h _ _ t => by obtain ⟨g, hle, -, hc2, -⟩ := t; exact h.new hc2 (fun k hk => by have h3 : k = g := hk; omega)), trivial⟩ ?_ ?_ ?_
 ·exact ⟨hV, hE, ⟨(fun e v w w1 h hk => by obtain ⟨a0x, c0x, he, o0x, l0x, hap⟩ := h; exact ⟨a0x, c0x, he, OLv.now (OLv.kp o0x hk), l0x, hap⟩), hE, ⟨hV, hE, ⟨hV, hE, ⟨(fun e v w w1 h hk => by obtain ⟨a0x, c0x, he, o0x, l0x, hap⟩ := h; exact ⟨a0x, c0x, he, own_kp o0x hk, l0x, hap⟩), hE, ⟨hV, (fun e1 e2 v w hx h => by have h26x := hx 26 (by simp); simp only [h26x] at h; exact h), ⟨hV, (fun e1 e2 v w hx h => by have h26x := hx 26 (by simp); simp only [h26x] at h; exact h), ⟨hV, hE, ⟨(fun e v w w1 h hk => by obtain ⟨g, x0, x1, x2, x3, he, hle, hb⟩ := h; exact ⟨g, _, _, _, _, he, hle, hb.kp hk⟩), hE, ⟨(fun e v w w1 h hk => by obtain ⟨g, he, hle, hb⟩ := h; exact ⟨g, he, hle, hb.kp hk⟩), (fun e1 e2 v w hx h => by have h6x := hx 6 (by simp); have h26x := hx 26 (by simp); simp only [h6x, h26x] at h; exact h), trivial⟩⟩⟩⟩⟩⟩⟩⟩⟩⟩
 ·exact ⟨⟨.inr (.inr hV), ⟨.inr (.inl rfl), ⟨.inr (.inr hV), ⟨.inr (.inr hV), ⟨.inr (.inr (fun e v wX wY h ht => by obtain ⟨a0x, c0x, he, o0x, l0x, hap⟩ := h; obtain ⟨gt, hlt, ⟨_, _, _, _, hbt⟩, hct, ⟨_, _, _, _, hbt2⟩⟩ := ht; exact ⟨a0x, c0x, he, own_blk o0x hbt (by decide) hct, l0x, hap⟩)), ⟨.inr (.inr hV), ⟨.inr (.inr hV), ⟨.inr (.inr hV), ⟨.inr (.inr (fun e v wX wY h ht => by obtain ⟨g, x0, x1, x2, x3, he, hle, hb⟩ := h; obtain ⟨gt, hlt, ⟨_, _, _, _, hbt⟩, hct, ⟨_, _, _, _, hbt2⟩⟩ := ht; by_cases hg : g = gt; (· subst hg; exact ⟨g, _, _, _, _, he, hle, hbt2⟩); (· exact ⟨g, _, _, _, _, he, hle, hb.ch hct hg⟩))), ⟨.inl rfl, trivial⟩⟩⟩⟩⟩⟩⟩⟩⟩⟩, trivial⟩
 ·refine ⟨?_, ⟨?_, ⟨?_, ⟨?_, ⟨?_, ⟨?_, ⟨?_, ⟨?_, ⟨?_, ⟨?_, trivial⟩⟩⟩⟩⟩⟩⟩⟩⟩⟩
  ·intro _ w4 k74 _
   rintro _ _ _ _ _ _ _ _ _ _
   show WL _ _ _ _ _ _ _
   have b76 := ((b18.kp k19).kp k74)
   refine lN (L_47 x_aP a1 c2) wN isAgg_39 sizeOf_39 b76 ?_
   exact f1
  ·intro _ w4 k77 _
   have m78 := m20.extk k77
   rintro _ rfl _ _ _ _ _ _ _ _ _
   show WL _ _ _ _ _ _ _
   refine cl wN (C_laws_toPaths w4 _ x_aP (mR_39 (RLv.raw (r3.from0 m78) (by omega) (fun e he b hb => Nat.le_trans (z25b e he b hb) (by decide))) (by omega))) ?_
   rintro _ w5 ⟨k80, ⟨a81, c82, rfl, o83, s84, ap86⟩⟩
   obtain ⟨y88, o89⟩ := OLv.ow o83
   exact wl_finT k80 ⟨_, _, rfl, (OLv.now (OLv.low o83 k77.size)), s84, ap86⟩
  ·intro _ w4 k90 _
   rintro _ _ _ _ _ _ _ _ _ _
   show WL _ _ _ _ _ _ _
   have b92 := ((b16.kp k19).kp k90)
   refine lN (L_26 x_aA) wN isAgg_36 sizeOf_36 b92 ?_
   exact f1
  ·intro _ w4 k93 _
   rintro _ rfl _ ⟨a96, c97, rfl, o98, s99, ap101⟩
   obtain ⟨y102, o103⟩ := OLv.ow o98
   rintro _ rfl _ _ _ _ _ _ _
   show WL _ _ _ _ _ _ _
   refine cl wN (C_laws_toAddr w4 _ x_aA (mR_36)) ?_
   rintro _ w5 ⟨k105, rfl⟩
   exact wl_finT k105 rfl
  ·intro _ w4 k107 _
   rintro _ rfl _ ⟨a110, c111, rfl, o112, s113, ap115⟩
   obtain ⟨y116, o117⟩ := OLv.ow o112
   rintro _ rfl _ rfl _ _ _ _ _ _
   show WL _ _ _ _ _ _ _
   refine cl wN (C_spec_CandOf w4 _ (F_laws_toPaths x_aP) (mR_47 (OLv.rl o112) s113) _ (F_laws_toAddr x_aA) (mR_26)) ?_
   rintro _ w5 ⟨k119, ⟨a120, c121, rfl, o122, s123, ap125⟩⟩
   exact wl_finT k119 ⟨_, _, rfl, (own_lo o122 k107.size), s123, ap125⟩
  ·intro _ w4 k127 _
   rintro _ rfl _ ⟨a130, c131, rfl, o132, s133, ap135⟩
   obtain ⟨y136, o137⟩ := OLv.ow o132
   rintro _ rfl _ rfl _ ⟨a139, c140, rfl, o141, s142, ap144⟩ _ _ _ _ _
   show WL _ _ _ _ _ _ _
   refine mw (.tuple #[(va (L_42 ((candS (F_laws_toPaths x_aP) (F_laws_toAddr x_aA)).1) a139 c140)), (vb ((candS (F_laws_toPaths x_aP) (F_laws_toAddr x_aA)).2))]) ?_
   exact f1
  ·intro _ w4 k145 _
   rintro _ rfl _ ⟨a148, c149, rfl, o150, s151, ap153⟩
   obtain ⟨y154, o155⟩ := OLv.ow o150
   rintro _ rfl _ rfl _ ⟨a157, c158, rfl, o159, s160, ap162⟩ _ rfl _ _ _ _
   show WL _ _ _ _ _ _ _
   refine pu (va (L_42 ((candS (F_laws_toPaths x_aP) (F_laws_toAddr x_aA)).1) a157 c158)) wN ?_
   exact f1
  ·intro _ w4 k163 _
   rintro _ rfl _ _ rfl _ rfl _ ⟨a167, c168, rfl, o169, s170, ap172⟩ _ rfl _ _ _ _
   show WL _ _ _ _ _ _ _
   refine pu (vb ((candS (F_laws_toPaths x_aP) (F_laws_toAddr x_aA)).2)) wN ?_
   exact f1
  ·intro _ w4 k173 _
   rintro _ _ _ _ _ _ _ _ _ _
   show WL _ _ _ _ _ _ _
   refine al Z_42 wN zero_42 ?_
   intro g175 w5 p176 p177 k178 b179
   exact wl_finT k178 ⟨_, _, _, _, _, rfl, (Nat.le_trans k173.size p176), b179⟩
  ·intro _ w4 k181 _
   rintro _ rfl _ ⟨a184, c185, rfl, o186, s187, ap189⟩
   obtain ⟨y190, o191⟩ := OLv.ow o186
   rintro _ rfl _ rfl _ ⟨a193, c194, rfl, o195, s196, ap198⟩ _ rfl _ rfl _ _ ⟨g199, x202, x203, x204, x205, rfl, p200, b201⟩ _
   show WL _ _ _ _ _ _ _
   refine sv (L_42 ((candS (F_laws_toPaths x_aP) (F_laws_toAddr x_aA)).1) a193 c194) wN sizeOf_42 b201 ?_
   intro w5 k206 b207 z208
   exact wl_finS (by decide) ⟨_, p200, ⟨_, _, _, _, b201⟩, k206, ⟨_, _, _, _, b207⟩⟩ ⟨_, rfl, p200, b207⟩
 ·intro _ w4 k210
  have m211 := m20.extk k210
  rintro _ rfl _ _ rfl _ rfl _ ⟨a214, c215, rfl, o216, s217, ap219⟩ _ rfl _ rfl _ rfl _ ⟨g220, x223, x224, x225, x226, rfl, p221, b222⟩ _ ⟨g227, e228, -, b229⟩
  have hz := vp_inj e228
  subst g227
  show WL _ _ _ _ _ _ _
  refine aw (vb ((candS (F_laws_toPaths x_aP) (F_laws_toAddr x_aA)).2)) ?_
  refine nx ?_
  have b230 := ((b18.kp k19).kp k210)
  refine lN (L_47 x_aP a1 c2) wN isAgg_39 sizeOf_39 b230 ?_
  refine cl wN (C_laws_toPaths w4 _ x_aP (mR_39 (RLv.raw (r3.from0 m211) (by omega) (fun e he b hb => Nat.le_trans (z25b e he b hb) (by decide))) (by omega))) ?_
  rintro _ w5 ⟨k231, ⟨a232, c233, rfl, o234, s235, ap237⟩⟩
  obtain ⟨y239, o240⟩ := OLv.ow o234
  refine al [(vi 0), (vi 0), (vs none 0 0)] wN zero_47 ?_
  intro g241 w6 p242 p243 k244 b245
  refine sv (L_47 (F_laws_toPaths x_aP) a232 c233) wN sizeOf_47 b245 ?_
  intro w7 k247 b248 z249
  have m250 := ((m211.extk k231).extk k244).ext k247 (fun k hk => by subst hk; exact Nat.le_trans (z5 k9 k15 k19 k210 k231) p242)
  refine wl_nil <| wq_then <| wc_seq ?_
  refine wc_drawT ([(32, [], [], (fun _ v _ => v = (va (L_47 (F_laws_toPaths x_aP) a232 c233)))), (33, [], [], (fun _ v _ => v = (va (L_26 x_aA)))), (34, [], [1], (fun _ v w => v = .agg #[.int .i64 ((F_laws_toAddr x_aA).Host), .int .i64 ((F_laws_toAddr x_aA).Port)])), (35, [], [0, 1, 2], (fun _ v w => ∃ (a1 : Option Addr) (c1 : Nat), v = .tuple #[.agg #[.int .i64 ((((F_impl_CandOf (F_laws_toPaths x_aP) (F_laws_toAddr x_aA)).1).A).Host), .int .i64 ((((F_impl_CandOf (F_laws_toPaths x_aP) (F_laws_toAddr x_aA)).1).A).Port), .slice a1 (((F_impl_CandOf (F_laws_toPaths x_aP) (F_laws_toAddr x_aA)).1).Draw).length c1, .int .i64 (((F_impl_CandOf (F_laws_toPaths x_aP) (F_laws_toAddr x_aA)).1).Until)], .bool ((F_impl_CandOf (F_laws_toPaths x_aP) (F_laws_toAddr x_aA)).2)] ∧ w.ownsRow (w7.heap.size) 5 1 (.slice a1 (((F_impl_CandOf (F_laws_toPaths x_aP) (F_laws_toAddr x_aA)).1).Draw).length c1) (((F_impl_CandOf (F_laws_toPaths x_aP) (F_laws_toAddr x_aA)).1).Draw).length ((((F_impl_CandOf (F_laws_toPaths x_aP) (F_laws_toAddr x_aA)).1).Draw).map bV) ∧ (((F_impl_CandOf (F_laws_toPaths x_aP) (F_laws_toAddr x_aA)).1).Draw).length ≤ 1073741824 ∧ Aps [(a1, c1)])), (31, [35], [0, 1, 2, 3], (fun e v _ => v = (.tuple #[(.agg #[(vi ((((F_impl_CandOf (F_laws_toPaths x_aP) (F_laws_toAddr x_aA)).1).A).Host)), (vi ((((F_impl_CandOf (F_laws_toPaths x_aP) (F_laws_toAddr x_aA)).1).A).Port)), (cellAt (tupAt (e 35) 0) 2), (vi (((F_impl_CandOf (F_laws_toPaths x_aP) (F_laws_toAddr x_aA)).1).Until))]), (vb ((F_impl_CandOf (F_laws_toPaths x_aP) (F_laws_toAddr x_aA)).2))]))), (36, [35], [0, 1, 2, 3, 4], (fun e v _ => v = (.agg #[(vi ((((F_impl_CandOf (F_laws_toPaths x_aP) (F_laws_toAddr x_aA)).1).A).Host)), (vi ((((F_impl_CandOf (F_laws_toPaths x_aP) (F_laws_toAddr x_aA)).1).A).Port)), (cellAt (tupAt (e 35) 0) 2), (vi (((F_impl_CandOf (F_laws_toPaths x_aP) (F_laws_toAddr x_aA)).1).Until))]))), (37, [], [0, 1, 2, 3, 4], (fun _ v _ => v = (vb ((F_impl_CandOf (F_laws_toPaths x_aP) (F_laws_toAddr x_aA)).2)))), (9, [], [], (fun _ v w => ∃ (g : Nat) (x0 x1 x2 x3 : Value), v = vp g 0 ∧ w7.heap.size ≤ g ∧ Blk w g 42 [x0, x1, x2, x3])), (112, [9, 35], [0, 1, 2, 3, 4, 5, 7], (fun e _ w => ∃ g : Nat, e 9 = vp g 0 ∧ w7.heap.size ≤ g ∧ Blk w g 42 [(vi ((((F_impl_CandOf (F_laws_toPaths x_aP) (F_laws_toAddr x_aA)).1).A).Host)), (vi ((((F_impl_CandOf (F_laws_toPaths x_aP) (F_laws_toAddr x_aA)).1).A).Port)), (cellAt (tupAt (e 35) 0) 2), (vi (((F_impl_CandOf (F_laws_toPaths x_aP) (F_laws_toAddr x_aA)).1).Until))]))] : GV) (fun _ w' => Keep w7 w') [(8, fun w w' => ∃ g : Nat, w7.heap.size ≤ g ∧ (∃ x0 x1 x2 x3 : Value, Blk w g 42 [x0, x1, x2, x3]) ∧ Ch (fun k => k = g) w w' ∧ ∃ x0 x1 x2 x3 : Value, Blk w' g 42 [x0, x1, x2, x3])] mixed rfl (by kernel_rfl) (by kernel_rfl) ?_ (fun _ _ h => h) (fun _ _ _ _ h _ k => h.trans k) ⟨(fun _ _ w w' h _ _ t => by obtain ⟨g, hle, -, hc2, -⟩ := t; exact h.new hc2 (fun k hk => by have h3 : k = g := hk; omega)), trivial⟩ ?_ ?_ ?_
  ·exact ⟨hV, hE, ⟨hV, hE, ⟨hV, hE, ⟨(fun e v w w1 h hk => by obtain ⟨a0x, c0x, he, o0x, l0x, hap⟩ := h; exact ⟨a0x, c0x, he, own_kp o0x hk, l0x, hap⟩), hE, ⟨hV, (fun e1 e2 v w hx h => by have h35x := hx 35 (by simp); simp only [h35x] at h; exact h), ⟨hV, (fun e1 e2 v w hx h => by have h35x := hx 35 (by simp); simp only [h35x] at h; exact h), ⟨hV, hE, ⟨(fun e v w w1 h hk => by obtain ⟨g, x0, x1, x2, x3, he, hle, hb⟩ := h; exact ⟨g, _, _, _, _, he, hle, hb.kp hk⟩), hE, ⟨(fun e v w w1 h hk => by obtain ⟨g, he, hle, hb⟩ := h; exact ⟨g, he, hle, hb.kp hk⟩), (fun e1 e2 v w hx h => by have h9x := hx 9 (by simp); have h35x := hx 35 (by simp); simp only [h9x, h35x] at h; exact h), trivial⟩⟩⟩⟩⟩⟩⟩⟩⟩
  ·exact ⟨⟨.inr hV, ⟨.inr hV, ⟨.inr hV, ⟨.inr (fun e v wX wY h ht => by obtain ⟨a0x, c0x, he, o0x, l0x, hap⟩ := h; obtain ⟨gt, hlt, ⟨_, _, _, _, hbt⟩, hct, ⟨_, _, _, _, hbt2⟩⟩ := ht; exact ⟨a0x, c0x, he, own_blk o0x hbt (by decide) hct, l0x, hap⟩), ⟨.inr hV, ⟨.inr hV, ⟨.inr hV, ⟨.inr (fun e v wX wY h ht => by obtain ⟨g, x0, x1, x2, x3, he, hle, hb⟩ := h; obtain ⟨gt, hlt, ⟨_, _, _, _, hbt⟩, hct, ⟨_, _, _, _, hbt2⟩⟩ := ht; by_cases hg : g = gt; (· subst hg; exact ⟨g, _, _, _, _, he, hle, hbt2⟩); (· exact ⟨g, _, _, _, _, he, hle, hb.ch hct hg⟩)), ⟨.inl rfl, trivial⟩⟩⟩⟩⟩⟩⟩⟩⟩, trivial⟩
  ·refine ⟨?_, ⟨?_, ⟨?_, ⟨?_, ⟨?_, ⟨?_, ⟨?_, ⟨?_, ⟨?_, trivial⟩⟩⟩⟩⟩⟩⟩⟩⟩
   ·intro _ w8 k281 _
    rintro _ _ _ _ _ _ _ _ _
    show WL _ _ _ _ _ _ _
    have b283 := (b248.kp k281)
    refine lN (L_47 (F_laws_toPaths x_aP) a232 c233) wN isAgg_47 sizeOf_47 b283 ?_
    exact f1
   ·intro _ w8 k284 _
    rintro _ _ _ _ _ _ _ _ _
    show WL _ _ _ _ _ _ _
    have b286 := ((((((b16.kp k19).kp k210).kp k231).kp k244).ch k247 (Nat.ne_of_lt (Nat.lt_of_lt_of_le p14 (Nat.le_trans (z3 k19 k210 k231) p242)))).kp k284)
    refine lN (L_26 x_aA) wN isAgg_36 sizeOf_36 b286 ?_
    exact f1
   ·intro _ w8 k287 _
    rintro _ _ rfl _ _ _ _ _ _ _
    show WL _ _ _ _ _ _ _
    refine cl wN (C_laws_toAddr w8 _ x_aA (mR_36)) ?_
    rintro _ w9 ⟨k290, rfl⟩
    exact wl_finT k290 rfl
   ·intro _ w8 k292 _
    rintro _ rfl _ rfl _ rfl _ _ _ _ _ _
    show WL _ _ _ _ _ _ _
    have o296 := (OLv.kp (OLv.ch (OLv.kp o234 k244) k247 (fun g h1 h2 hk => by have h3 := Nat.le_trans (Nat.le_refl w5.heap.size) p242; omega)) k292)
    refine cl wN (C_impl_CandOf w8 _ (F_laws_toPaths x_aP) (mR_47 (OLv.rl o296) s235) _ (F_laws_toAddr x_aA) (mR_26)) ?_
    rintro _ w9 ⟨k297, ⟨a298, c299, rfl, o300, s301, ap303⟩⟩
    exact wl_finT k297 ⟨_, _, rfl, (own_lo o300 k292.size), s301, ap303⟩
   ·intro _ w8 k305 _
    rintro _ rfl _ rfl _ rfl _ ⟨a309, c310, rfl, o311, s312, ap314⟩ _ _ _ _ _
    show WL _ _ _ _ _ _ _
    refine mw (.tuple #[(va (L_42 ((F_impl_CandOf (F_laws_toPaths x_aP) (F_laws_toAddr x_aA)).1) a309 c310)), (vb ((F_impl_CandOf (F_laws_toPaths x_aP) (F_laws_toAddr x_aA)).2))]) ?_
    exact f1
   ·intro _ w8 k315 _
    rintro _ rfl _ rfl _ rfl _ ⟨a319, c320, rfl, o321, s322, ap324⟩ _ rfl _ _ _ _
    show WL _ _ _ _ _ _ _
    refine pu (va (L_42 ((F_impl_CandOf (F_laws_toPaths x_aP) (F_laws_toAddr x_aA)).1) a319 c320)) wN ?_
    exact f1
   ·intro _ w8 k325 _
    rintro _ rfl _ rfl _ rfl _ ⟨a329, c330, rfl, o331, s332, ap334⟩ _ rfl _ _ _ _
    show WL _ _ _ _ _ _ _
    refine pu (vb ((F_impl_CandOf (F_laws_toPaths x_aP) (F_laws_toAddr x_aA)).2)) wN ?_
    exact f1
   ·intro _ w8 k335 _
    rintro _ _ _ _ _ _ _ _ _
    show WL _ _ _ _ _ _ _
    refine al Z_42 wN zero_42 ?_
    intro g337 w9 p338 p339 k340 b341
    exact wl_finT k340 ⟨_, _, _, _, _, rfl, (Nat.le_trans k335.size p338), b341⟩
   ·intro _ w8 k343 _
    rintro _ rfl _ rfl _ rfl _ ⟨a347, c348, rfl, o349, s350, ap352⟩ _ rfl _ rfl _ _ ⟨g353, x356, x357, x358, x359, rfl, p354, b355⟩ _
    show WL _ _ _ _ _ _ _
    refine sv (L_42 ((F_impl_CandOf (F_laws_toPaths x_aP) (F_laws_toAddr x_aA)).1) a347 c348) wN sizeOf_42 b355 ?_
    intro w9 k360 b361 z362
    exact wl_finS (by decide) ⟨_, p354, ⟨_, _, _, _, b355⟩, k360, ⟨_, _, _, _, b361⟩⟩ ⟨_, rfl, p354, b361⟩
  ·intro _ w8 k364
   have m365 := m250.extk k364
   rintro _ rfl _ rfl _ rfl _ ⟨a368, c369, rfl, o370, s371, ap373⟩ _ rfl _ rfl _ rfl _ ⟨g374, x377, x378, x379, x380, rfl, p375, b376⟩ _ ⟨g381, e382, -, b383⟩
   have hz := vp_inj e382
   subst g381
   show WL _ _ _ _ _ _ _
   refine aw (vb ((F_impl_CandOf (F_laws_toPaths x_aP) (F_laws_toAddr x_aA)).2)) ?_
   refine n4 ?_
   refine jT1 [(2, (vp g6 0)), (3, (vp g12 0)), (4, (vb false)), (6, (vp g220 0)), (7, (vb ((candS (F_laws_toPaths x_aP) (F_laws_toAddr x_aA)).2))), (8, (vp g241 0)), (9, (vp g374 0)), (10, (vb ((F_impl_CandOf (F_laws_toPaths x_aP) (F_laws_toAddr x_aA)).2)))] (F_laws_FnExactCandOf x_aP x_aA = false) ?_ fun J384 => ?_
   ·intro hA385 w9 k387 u386
    have m388 := m365.extk k387
    refine sr ?_
    refine aw (vb false) ?_
    refine n1 ?_
    refine rt (vb false) ?_
    refine ⟨m388.keep0, ?_⟩
    rw [hA385]
    exact rfl
   refine lN (L_42 ((F_impl_CandOf (F_laws_toPaths x_aP) (F_laws_toAddr x_aA)).1) a368 c369) wN isAgg_42 sizeOf_42 b383 ?_
   have b390 := ((((b229.kp k231).kp k244).ch k247 (Nat.ne_of_lt (Nat.lt_of_lt_of_le (Blk.lt b222) (Nat.le_trans k231.size p242)))).kp k364)
   refine lN (L_42 ((candS (F_laws_toPaths x_aP) (F_laws_toAddr x_aA)).1) a214 c215) wN isAgg_42 sizeOf_42 b390 ?_
   have o391 := (own_kp (own_ch (own_kp (own_kp o216 k231) k244) k247 (ne2 o216 (Nat.le_trans k231.size p242))) k364)
   obtain ⟨y393, e394⟩ : ∃ y, F_laws_eqCand ((F_impl_CandOf (F_laws_toPaths x_aP) (F_laws_toAddr x_aA)).1) ((candS (F_laws_toPaths x_aP) (F_laws_toAddr x_aA)).1) = y := ⟨_, rfl⟩
   have hc392 := C_laws_eqCand w8 _ ((F_impl_CandOf (F_laws_toPaths x_aP) (F_laws_toAddr x_aA)).1) (mR_42 (Rd.of_own o370) s371) _ ((candS (F_laws_toPaths x_aP) (F_laws_toAddr x_aA)).1) (mR_42 (Rd.of_own o391) s217)
   rw [e394] at hc392
   refine cl wN hc392 ?_
   rintro _ w9 ⟨k395, rfl⟩
   have m396 := m365.extk k395
   refine pu (vb (!(y393))) wN ?_
   refine mw (vb (!(y393))) ?_
   rcases bf y393 with h397 | h397
   ·iterate 3 refine sk (congrArg not h397) ?_
    refine pk (vb true) wN (congrArg not h397) ?_
    refine n2 ?_
    refine ct (Eq.refl true) ?_
    have hF723 : F_laws_FnExactCandOf x_aP x_aA = false := by first | (simp only [F_laws_FnExactCandOf, h21, e394, h397, cond_true, cond_false, decide_true]; done) | (exfalso; simp only [h21] at e394; rw [← e394] at h397; cases h397) | (unfold F_laws_FnExactCandOf; try rw [h21]; try rw [e394]; try rw [h397]; first | done | rfl)
    exact wj (J384 hF723 _ k395)
   refine mv (vb ((F_impl_CandOf (F_laws_toPaths x_aP) (F_laws_toAddr x_aA)).2)) (wS (congrArg not h397)) ?_
   refine mv (vb ((candS (F_laws_toPaths x_aP) (F_laws_toAddr x_aA)).2)) (wS (congrArg not h397)) ?_
   refine pu (vb (!(((F_impl_CandOf (F_laws_toPaths x_aP) (F_laws_toAddr x_aA)).2) == ((candS (F_laws_toPaths x_aP) (F_laws_toAddr x_aA)).2)))) (wS (congrArg not h397)) ?_
   refine pf (vb (!(((F_impl_CandOf (F_laws_toPaths x_aP) (F_laws_toAddr x_aA)).2) == ((candS (F_laws_toPaths x_aP) (F_laws_toAddr x_aA)).2)))) wN (congrArg not h397) ?_
   refine n2 ?_
   rcases bf (((F_impl_CandOf (F_laws_toPaths x_aP) (F_laws_toAddr x_aA)).2) == ((candS (F_laws_toPaths x_aP) (F_laws_toAddr x_aA)).2)) with h399 | h399
   ·refine ct (congrArg not h399) ?_
    have hF721 : F_laws_FnExactCandOf x_aP x_aA = false := by first | (simp only [F_laws_FnExactCandOf, h21, e394, h397, h399, cond_true, cond_false, decide_true]; done) | (unfold F_laws_FnExactCandOf; try rw [h21]; try rw [e394]; try rw [h397]; try rw [h399]; first | done | rfl)
    exact wj (J384 hF721 _ k395)
   refine cf (congrArg not h399) ?_
   refine wc_skip <| wq_then <| wc_seq <| wc_seq ?_
   refine wc_drawT ([(47, [], [], (fun _ v _ => v = (va (L_47 (F_laws_toPaths x_aP) a232 c233)))), (48, [], [], (fun _ v _ => v = (va (L_47 x_aP a1 c2)))), (49, [], [1], (fun _ v w => ∃ (a1 : Option Addr) (c1 : Nat), v = .agg #[.int .i64 (((F_laws_toPaths x_aP).At).Host), .int .i64 (((F_laws_toPaths x_aP).At).Port), .slice a1 ((F_laws_toPaths x_aP).Cands).length c1] ∧ OLv LT_42 w (w9.heap.size) w.heap.size a1 ((F_laws_toPaths x_aP).Cands).length c1 ((F_laws_toPaths x_aP).Cands) ∧ ((F_laws_toPaths x_aP).Cands).length ≤ 1073741824 ∧ Aps [(a1, c1)]))] : GV) (fun _ w' => Keep w9 w') [] mixed rfl (by kernel_rfl) (by kernel_rfl) ?_ (fun _ _ h => h) (fun _ _ _ _ h _ k => h.trans k) trivial ?_ ?_ ?_
   ·exact ⟨hV, hE, ⟨hV, hE, ⟨(fun e v w w1 h hk => by obtain ⟨a0x, c0x, he, o0x, l0x, hap⟩ := h; exact ⟨a0x, c0x, he, OLv.now (OLv.kp o0x hk), l0x, hap⟩), hE, trivial⟩⟩⟩
   ·exact trivial
   ·refine ⟨?_, ⟨?_, ⟨?_, trivial⟩⟩⟩
    ·intro _ w10 k424 _
     rintro _ _ _
     show WL _ _ _ _ _ _ _
     have b426 := (((b248.kp k364).kp k395).kp k424)
     refine lN (L_47 (F_laws_toPaths x_aP) a232 c233) wN isAgg_47 sizeOf_47 b426 ?_
     exact f1
    ·intro _ w10 k427 _
     rintro _ _ _
     show WL _ _ _ _ _ _ _
     have b429 := ((((((b230.kp k231).kp k244).ch k247 (Nat.ne_of_lt (Nat.lt_of_lt_of_le p8 (Nat.le_trans (z4 k15 k19 k210 k231) p242)))).kp k364).kp k395).kp k427)
     refine lN (L_47 x_aP a1 c2) wN isAgg_39 sizeOf_39 b429 ?_
     exact f1
    ·intro _ w10 k430 _
     have m431 := m396.extk k430
     rintro _ _ rfl _
     show WL _ _ _ _ _ _ _
     refine cl wN (C_laws_toPaths w10 _ x_aP (mR_39 (RLv.raw (r3.from0 m431) (by omega) (fun e he b hb => Nat.le_trans (z25b e he b hb) (by decide))) (by omega))) ?_
     rintro _ w11 ⟨k433, ⟨a434, c435, rfl, o436, s437, ap439⟩⟩
     obtain ⟨y441, o442⟩ := OLv.ow o436
     exact wl_finT k433 ⟨_, _, rfl, (OLv.now (OLv.low o436 k430.size)), s437, ap439⟩
   ·intro _ w10 k443
    rintro _ rfl _ rfl _ ⟨a447, c448, rfl, o449, s450, ap452⟩
    obtain ⟨y453, o454⟩ := OLv.ow o449
    show WL _ _ _ _ _ _ _
    have o455 := (OLv.kp (OLv.kp (OLv.kp (OLv.ch (OLv.kp o234 k244) k247 (fun g h1 h2 hk => by have h3 := Nat.le_trans (Nat.le_refl w5.heap.size) p242; omega)) k364) k395) k443)
    obtain ⟨y457, e458⟩ : ∃ y, F_laws_eqPaths (F_laws_toPaths x_aP) (F_laws_toPaths x_aP) = y := ⟨_, rfl⟩
    have hc456 := C_laws_eqPaths w10 _ (F_laws_toPaths x_aP) (mR_47 (OLv.rl o455) s235) _ (F_laws_toPaths x_aP) (mR_47 (OLv.rl o449) s450)
    rw [e458] at hc456
    refine cl wN hc456 ?_
    rintro _ w11 ⟨k459, rfl⟩
    have m460 := (m396.extk k443).extk k459
    refine pu (vb (!(y457))) wN ?_
    refine n2 ?_
    rcases bf y457 with h461 | h461
    ·refine ct (congrArg not h461) ?_
     refine sr ?_
     refine aw (vb false) ?_
     refine n1 ?_
     refine rt (vb false) ?_
     refine ⟨m460.keep0, ?_⟩
     have hF719 : F_laws_FnExactCandOf x_aP x_aA = false := by first | (simp only [F_laws_FnExactCandOf, h21, e394, h397, h399, e458, h461, cond_true, cond_false, decide_true]; done) | (exfalso; simp only [h21, e394, h397, h399] at e458; rw [← e458] at h461; cases h461) | (unfold F_laws_FnExactCandOf; try rw [h21]; try rw [e394]; try rw [h397]; try rw [h399]; try rw [e458]; try rw [h461]; first | done | rfl)
     rw [hF719]
     exact rfl
    refine cf (congrArg not h461) ?_
    refine y1 ?_
    refine aw (vi 1) ?_
    refine nx ?_
    have b463 := ((((b248.kp k364).kp k395).kp k443).kp k459)
    refine lN (L_47 (F_laws_toPaths x_aP) a232 c233) wN isAgg_47 sizeOf_47 b463 ?_
    refine mw (vi 1) ?_
    have o464 := (OLv.kp o455 k459)
    refine cl wN (C_laws_markPaths w11 a232 c233 (F_laws_toPaths x_aP) _ _ 1 (by omega) (by omega) o464) ?_
    rintro _ w12 ⟨rfl, k465, r466⟩
    have m467 := m460.ext k465 (fun k hk => Nat.le_trans (z4 k9 k15 k19 k210) hk.1)
    have q468 := OLv.wb (wt := wt_PCand) (C := 1073741827) o464 (by intro x; simp only [wt_PCand]; omega) (by intro x hx; simp only [LT_42, List.mem_cons, List.not_mem_nil, or_false, forall_eq_or_imp, forall_eq] at hx; simp only [wt_PCand]; omega) _ (Nat.le_refl _)
    rw [List.take_length] at q468
    refine aw (vi (1 + totL wt_PCand ((F_laws_toPaths x_aP).Cands))) ?_
    refine n4 ?_
    refine mw (vi (1 + totL wt_PCand ((F_laws_toPaths x_aP).Cands))) ?_
    refine pu (vb (decide ((1 + totL wt_PCand ((F_laws_toPaths x_aP).Cands)) < 0))) wN ?_
    refine mw (vb (decide ((1 + totL wt_PCand ((F_laws_toPaths x_aP).Cands)) < 0))) ?_
    rcases bt (decide ((1 + totL wt_PCand ((F_laws_toPaths x_aP).Cands)) < 0)) with h469 | h469
    ·have q470 := of_decide_eq_true h469
     iterate 4 refine sk h469 ?_
     refine pk (vb true) wN h469 ?_
     refine mw (vb true) ?_
     iterate 3 refine sk (Eq.refl true) ?_
     refine pk (vb true) wN (Eq.refl true) ?_
     refine n2 ?_
     refine ct (Eq.refl true) ?_
     refine sr ?_
     refine aw (vb false) ?_
     refine n1 ?_
     refine rt (vb false) ?_
     refine ⟨m467.keep0, ?_⟩
     have hF471 : F_laws_FnExactCandOf x_aP x_aA = false := by first | (simp only [F_laws_FnExactCandOf, h21, e394, h397, h399, e458, h461, h469, cond_true, cond_false, decide_true]; done) | (unfold F_laws_FnExactCandOf; try rw [h21]; try rw [e394]; try rw [h397]; try rw [h399]; try rw [e458]; try rw [h461]; try rw [h469]; first | done | rfl)
     rw [hF471]
     exact rfl
    have q472 := of_decide_eq_false h469
    have b473 := ((((b383.kp k395).kp k443).kp k459).ch k465 (fun h => by have h1 := h.2.1; have h3 := Nat.le_trans (z2 k244 k247) p375; omega))
    refine lN (L_42 ((F_impl_CandOf (F_laws_toPaths x_aP) (F_laws_toAddr x_aA)).1) a368 c369) (wS h469) isAgg_42 sizeOf_42 b473 ?_
    have b474 := ((((b390.kp k395).kp k443).kp k459).ch k465 (fun h => by have h1 := h.1; have h3 := Nat.lt_of_lt_of_le (Blk.lt b222) (Nat.le_refl w4.heap.size); omega))
    refine lN (L_42 ((candS (F_laws_toPaths x_aP) (F_laws_toAddr x_aA)).1) a214 c215) (wS h469) isAgg_42 sizeOf_42 b474 ?_
    have o475 := (own_ch (own_kp (own_kp (own_kp o370 k395) k443) k459) k465 (fun g hg hlt hk => by have h1 := (own_lt o370 g hg).1; have h2 := (z2 k244 k247); have h3 := hk.2.1; omega))
    have o476 := (own_ch (own_kp (own_kp (own_kp o391 k395) k443) k459) k465 (fun g hg hlt hk => by have h1 := (own_lt o216 g hg).2; have h2 := (Nat.le_refl w4.heap.size); have h3 := hk.1; omega))
    have hc477 := C_laws_eqCand w12 _ ((F_impl_CandOf (F_laws_toPaths x_aP) (F_laws_toAddr x_aA)).1) (mR_42 (Rd.of_own o475) s371) _ ((candS (F_laws_toPaths x_aP) (F_laws_toAddr x_aA)).1) (mR_42 (Rd.of_own o476) s217)
    rw [e394] at hc477
    refine cl (wS h469) hc477 ?_
    rintro _ w13 ⟨k478, rfl⟩
    refine pu (vb (!(y393))) (wS h469) ?_
    refine pf (vb (!(y393))) wN h469 ?_
    refine mw (vb (!(y393))) ?_
    refine mv (vb ((F_impl_CandOf (F_laws_toPaths x_aP) (F_laws_toAddr x_aA)).2)) (wS (congrArg not h397)) ?_
    refine mv (vb ((candS (F_laws_toPaths x_aP) (F_laws_toAddr x_aA)).2)) (wS (congrArg not h397)) ?_
    refine pu (vb (!(((F_impl_CandOf (F_laws_toPaths x_aP) (F_laws_toAddr x_aA)).2) == ((candS (F_laws_toPaths x_aP) (F_laws_toAddr x_aA)).2)))) (wS (congrArg not h397)) ?_
    refine pf (vb (!(((F_impl_CandOf (F_laws_toPaths x_aP) (F_laws_toAddr x_aA)).2) == ((candS (F_laws_toPaths x_aP) (F_laws_toAddr x_aA)).2)))) wN (congrArg not h397) ?_
    refine n2 ?_
    refine cf (congrArg not h399) ?_
    refine y1 ?_
    refine aw (vi 1) ?_
    refine nx ?_
    have b480 := (b473.kp k478)
    refine lN (L_42 ((F_impl_CandOf (F_laws_toPaths x_aP) (F_laws_toAddr x_aA)).1) a368 c369) wN isAgg_42 sizeOf_42 b480 ?_
    refine mw (vi 1) ?_
    have o481 := (own_kp o475 k478)
    refine cl wN (C_laws_markCand w13 a368 c369 ((F_impl_CandOf (F_laws_toPaths x_aP) (F_laws_toAddr x_aA)).1) 1 (by omega) (by omega) s371 (Rd.of_own o481) (Wp.of o481) ⟨trivial, trivial⟩) ?_
    rintro _ w14 ⟨rfl, k482, r483⟩
    have k485 := rg (rg_cons o370 rg_nil) k482
    have m484 := (m467.extk k478).ext k485 (fun k hk => Nat.le_trans (z7 k9 k15 k19 k210 k231 k244 k247) hk.1)
    refine aw (vi (1 + ((((F_impl_CandOf (F_laws_toPaths x_aP) (F_laws_toAddr x_aA)).1).Draw).length : Int))) ?_
    refine nx ?_
    refine aw (vi 1) ?_
    refine nx ?_
    have b487 := (b480.ch k482 (ms_lo (ms_lo_cons (fun hn x hx hb => absurd hb (wp_blk (Wp.of o481) hn hx b480 (by decide))) ms_lo_nil)))
    refine lN [(vi ((((F_impl_CandOf (F_laws_toPaths x_aP) (F_laws_toAddr x_aA)).1).A).Host)), (vi ((((F_impl_CandOf (F_laws_toPaths x_aP) (F_laws_toAddr x_aA)).1).A).Port)), (vs a368 (((F_impl_CandOf (F_laws_toPaths x_aP) (F_laws_toAddr x_aA)).1).Draw).length c369), (vi (((F_impl_CandOf (F_laws_toPaths x_aP) (F_laws_toAddr x_aA)).1).Until))] wN isAgg_42 sizeOf_42 b487 ?_
    refine mw (vi 1) ?_
    obtain ⟨y489, e490⟩ : ∃ y, F_laws_heldCand { A := (((F_impl_CandOf (F_laws_toPaths x_aP) (F_laws_toAddr x_aA)).1).A), Draw := (marksB 1 (((F_impl_CandOf (F_laws_toPaths x_aP) (F_laws_toAddr x_aA)).1).Draw).length), Until := ((F_impl_CandOf (F_laws_toPaths x_aP) (F_laws_toAddr x_aA)).1).Until : PCand } 1 = y := ⟨_, rfl⟩
    have hc488 := C_laws_heldCand w14 _ _ (show R_42 w14 (va [(vi ((((F_impl_CandOf (F_laws_toPaths x_aP) (F_laws_toAddr x_aA)).1).A).Host)), (vi ((((F_impl_CandOf (F_laws_toPaths x_aP) (F_laws_toAddr x_aA)).1).A).Port)), (vs a368 (((F_impl_CandOf (F_laws_toPaths x_aP) (F_laws_toAddr x_aA)).1).Draw).length c369), (vi (((F_impl_CandOf (F_laws_toPaths x_aP) (F_laws_toAddr x_aA)).1).Until))]) { A := (((F_impl_CandOf (F_laws_toPaths x_aP) (F_laws_toAddr x_aA)).1).A), Draw := (marksB 1 (((F_impl_CandOf (F_laws_toPaths x_aP) (F_laws_toAddr x_aA)).1).Draw).length), Until := ((F_impl_CandOf (F_laws_toPaths x_aP) (F_laws_toAddr x_aA)).1).Until : PCand } from ⟨a368, c369, by simp only [marksB_len, marksI_len, marksL_len, marksE_len], by simpa only [marksB_len, marksI_len, marksL_len, marksE_len] using r483, by simp only [marksB_len, marksI_len, marksL_len, marksE_len]; first | exact s371 | omega⟩) 1 (by omega) (by omega)
    rw [e490] at hc488
    refine cl wN hc488 ?_
    rintro _ w15 ⟨k491, rfl⟩
    have m492 := m484.extk k491
    have q493 := laws_heldCand_le { A := (((F_impl_CandOf (F_laws_toPaths x_aP) (F_laws_toAddr x_aA)).1).A), Draw := (marksB 1 (((F_impl_CandOf (F_laws_toPaths x_aP) (F_laws_toAddr x_aA)).1).Draw).length), Until := ((F_impl_CandOf (F_laws_toPaths x_aP) (F_laws_toAddr x_aA)).1).Until : PCand } 1
    try rw [e490] at q493
    refine aw (vi (y489)) ?_
    refine n4 ?_
    refine mw (vi (y489)) ?_
    refine pu (vb (decide ((y489) < 0))) wN ?_
    refine n2 ?_
    rcases bt (decide ((y489) < 0)) with h494 | h494
    ·have q495 := of_decide_eq_true h494
     refine ct h494 ?_
     refine sr ?_
     refine aw (vb false) ?_
     refine n1 ?_
     refine rt (vb false) ?_
     refine ⟨m492.keep0, ?_⟩
     have hF496 : F_laws_FnExactCandOf x_aP x_aA = false := by first | (simp only [F_laws_FnExactCandOf, h21, e394, h397, h399, e458, h461, h469, e490, h494, cond_true, cond_false, decide_true]; done) | (exfalso; simp only [h21, e394, h397, h399, e458, h461, h469] at e490; rw [← e490] at h494; cases h494) | (unfold F_laws_FnExactCandOf; try rw [h21]; try rw [e394]; try rw [h397]; try rw [h399]; try rw [e458]; try rw [h461]; try rw [h469]; try rw [e490]; try rw [h494]; first | done | rfl)
     rw [hF496]
     exact rfl
    have q497 := of_decide_eq_false h494
    refine cf h494 ?_
    refine y2 ?_
    refine mw (vi (y489)) ?_
    refine mw (vi (1 + ((((F_impl_CandOf (F_laws_toPaths x_aP) (F_laws_toAddr x_aA)).1).Draw).length : Int))) ?_
    refine pu (vb (!(decide ((y489) = (1 + ((((F_impl_CandOf (F_laws_toPaths x_aP) (F_laws_toAddr x_aA)).1).Draw).length : Int)))))) wN ?_
    refine n2 ?_
    rcases bf (decide ((y489) = (1 + ((((F_impl_CandOf (F_laws_toPaths x_aP) (F_laws_toAddr x_aA)).1).Draw).length : Int)))) with h498 | h498
    ·have q716 := of_decide_eq_false h498
     refine ct (congrArg not h498) ?_
     refine sr ?_
     refine aw (vb false) ?_
     refine n1 ?_
     refine rt (vb false) ?_
     refine ⟨m492.keep0, ?_⟩
     have hF717 : F_laws_FnExactCandOf x_aP x_aA = false := by first | (simp only [F_laws_FnExactCandOf, h21, e394, h397, h399, e458, h461, h469, e490, h494, h498, cond_true, cond_false, decide_true]; done) | (unfold F_laws_FnExactCandOf; try rw [h21]; try rw [e394]; try rw [h397]; try rw [h399]; try rw [e458]; try rw [h461]; try rw [h469]; try rw [e490]; try rw [h494]; try rw [h498]; first | done | rfl)
     rw [hF717]
     exact rfl
    have q499 := of_decide_eq_true h498
    refine cf (congrArg not h498) ?_
    refine wc_skip <| wq_then <| wc_seq ?_
    refine wc_drawK ([(80, [], [], (fun _ v _ => v = (va (L_47 x_aP a1 c2)))), (81, [], [0], (fun _ v w => ∃ (a1 : Option Addr) (c1 : Nat), v = .agg #[.int .i64 (((F_laws_toPaths x_aP).At).Host), .int .i64 (((F_laws_toPaths x_aP).At).Port), .slice a1 ((F_laws_toPaths x_aP).Cands).length c1] ∧ OLv LT_42 w (w15.heap.size) w.heap.size a1 ((F_laws_toPaths x_aP).Cands).length c1 ((F_laws_toPaths x_aP).Cands) ∧ ((F_laws_toPaths x_aP).Cands).length ≤ 1073741824 ∧ Aps [(a1, c1)])), (82, [], [], (fun _ v _ => v = (va (L_26 x_aA)))), (83, [], [0, 1, 2], (fun _ v w => v = .agg #[.int .i64 ((F_laws_toAddr x_aA).Host), .int .i64 ((F_laws_toAddr x_aA).Port)])), (84, [], [0, 1, 2, 3], (fun _ v w => ∃ (a1 : Option Addr) (c1 : Nat), v = .tuple #[.agg #[.int .i64 ((((F_impl_CandOf (F_laws_toPaths x_aP) (F_laws_toAddr x_aA)).1).A).Host), .int .i64 ((((F_impl_CandOf (F_laws_toPaths x_aP) (F_laws_toAddr x_aA)).1).A).Port), .slice a1 (((F_impl_CandOf (F_laws_toPaths x_aP) (F_laws_toAddr x_aA)).1).Draw).length c1, .int .i64 (((F_impl_CandOf (F_laws_toPaths x_aP) (F_laws_toAddr x_aA)).1).Until)], .bool ((F_impl_CandOf (F_laws_toPaths x_aP) (F_laws_toAddr x_aA)).2)] ∧ w.ownsRow (w15.heap.size) 5 1 (.slice a1 (((F_impl_CandOf (F_laws_toPaths x_aP) (F_laws_toAddr x_aA)).1).Draw).length c1) (((F_impl_CandOf (F_laws_toPaths x_aP) (F_laws_toAddr x_aA)).1).Draw).length ((((F_impl_CandOf (F_laws_toPaths x_aP) (F_laws_toAddr x_aA)).1).Draw).map bV) ∧ (((F_impl_CandOf (F_laws_toPaths x_aP) (F_laws_toAddr x_aA)).1).Draw).length ≤ 1073741824 ∧ Aps [(a1, c1)])), (79, [84], [0, 1, 2, 3, 4], (fun e v _ => v = (.tuple #[(.agg #[(vi ((((F_impl_CandOf (F_laws_toPaths x_aP) (F_laws_toAddr x_aA)).1).A).Host)), (vi ((((F_impl_CandOf (F_laws_toPaths x_aP) (F_laws_toAddr x_aA)).1).A).Port)), (cellAt (tupAt (e 84) 0) 2), (vi (((F_impl_CandOf (F_laws_toPaths x_aP) (F_laws_toAddr x_aA)).1).Until))]), (vb ((F_impl_CandOf (F_laws_toPaths x_aP) (F_laws_toAddr x_aA)).2))]))), (85, [84], [0, 1, 2, 3, 4, 5], (fun e v _ => v = (.agg #[(vi ((((F_impl_CandOf (F_laws_toPaths x_aP) (F_laws_toAddr x_aA)).1).A).Host)), (vi ((((F_impl_CandOf (F_laws_toPaths x_aP) (F_laws_toAddr x_aA)).1).A).Port)), (cellAt (tupAt (e 84) 0) 2), (vi (((F_impl_CandOf (F_laws_toPaths x_aP) (F_laws_toAddr x_aA)).1).Until))]))), (86, [], [0, 1, 2, 3, 4, 5], (fun _ v _ => v = (vb ((F_impl_CandOf (F_laws_toPaths x_aP) (F_laws_toAddr x_aA)).2)))), (14, [], [], (fun _ v w => ∃ (g : Nat) (x0 x1 x2 x3 : Value), v = vp g 0 ∧ w15.heap.size ≤ g ∧ Blk w g 42 [x0, x1, x2, x3])), (113, [14, 84], [0, 1, 2, 3, 4, 5, 6, 8], (fun e _ w => ∃ g : Nat, e 14 = vp g 0 ∧ w15.heap.size ≤ g ∧ Blk w g 42 [(vi ((((F_impl_CandOf (F_laws_toPaths x_aP) (F_laws_toAddr x_aA)).1).A).Host)), (vi ((((F_impl_CandOf (F_laws_toPaths x_aP) (F_laws_toAddr x_aA)).1).A).Port)), (cellAt (tupAt (e 84) 0) 2), (vi (((F_impl_CandOf (F_laws_toPaths x_aP) (F_laws_toAddr x_aA)).1).Until))]))] : GV) [] [[], [9], [], [], [], [], [], [], [], []] [0, 2, 3, 4, 5, 6, 7, 8, 9] (by kernel_rfl) (by kernel_rfl) (fun _ w' => Keep w15 w') [(9, fun w w' => ∃ g : Nat, w15.heap.size ≤ g ∧ (∃ x0 x1 x2 x3 : Value, Blk w g 42 [x0, x1, x2, x3]) ∧ Ch (fun k => k = g) w w' ∧ ∃ x0 x1 x2 x3 : Value, Blk w' g 42 [x0, x1, x2, x3])] mixed rfl (by kernel_rfl) (by kernel_rfl) ?_ (fun _ _ h => h) (fun _ _ _ _ h _ k => h.trans k) ⟨(fun _ _ w w' h _ _ t => by obtain ⟨g, hle, -, hc2, -⟩ := t; exact h.new hc2 (fun k hk => by have h3 : k = g := hk; omega)), trivial⟩ ?_ ?_ ?_
    ·exact ⟨hV, hE, ⟨(fun e v w w1 h hk => by obtain ⟨a0x, c0x, he, o0x, l0x, hap⟩ := h; exact ⟨a0x, c0x, he, OLv.now (OLv.kp o0x hk), l0x, hap⟩), hE, ⟨hV, hE, ⟨hV, hE, ⟨(fun e v w w1 h hk => by obtain ⟨a0x, c0x, he, o0x, l0x, hap⟩ := h; exact ⟨a0x, c0x, he, own_kp o0x hk, l0x, hap⟩), hE, ⟨hV, (fun e1 e2 v w hx h => by have h84x := hx 84 (by simp); simp only [h84x] at h; exact h), ⟨hV, (fun e1 e2 v w hx h => by have h84x := hx 84 (by simp); simp only [h84x] at h; exact h), ⟨hV, hE, ⟨(fun e v w w1 h hk => by obtain ⟨g, x0, x1, x2, x3, he, hle, hb⟩ := h; exact ⟨g, _, _, _, _, he, hle, hb.kp hk⟩), hE, ⟨(fun e v w w1 h hk => by obtain ⟨g, he, hle, hb⟩ := h; exact ⟨g, he, hle, hb.kp hk⟩), (fun e1 e2 v w hx h => by have h14x := hx 14 (by simp); have h84x := hx 84 (by simp); simp only [h14x, h84x] at h; exact h), trivial⟩⟩⟩⟩⟩⟩⟩⟩⟩⟩
    ·exact ⟨⟨.inr (.inr hV), ⟨.inr (.inl rfl), ⟨.inr (.inr hV), ⟨.inr (.inr hV), ⟨.inr (.inr (fun e v wX wY h ht => by obtain ⟨a0x, c0x, he, o0x, l0x, hap⟩ := h; obtain ⟨gt, hlt, ⟨_, _, _, _, hbt⟩, hct, ⟨_, _, _, _, hbt2⟩⟩ := ht; exact ⟨a0x, c0x, he, own_blk o0x hbt (by decide) hct, l0x, hap⟩)), ⟨.inr (.inr hV), ⟨.inr (.inr hV), ⟨.inr (.inr hV), ⟨.inr (.inr (fun e v wX wY h ht => by obtain ⟨g, x0, x1, x2, x3, he, hle, hb⟩ := h; obtain ⟨gt, hlt, ⟨_, _, _, _, hbt⟩, hct, ⟨_, _, _, _, hbt2⟩⟩ := ht; by_cases hg : g = gt; (· subst hg; exact ⟨g, _, _, _, _, he, hle, hbt2⟩); (· exact ⟨g, _, _, _, _, he, hle, hb.ch hct hg⟩))), ⟨.inl rfl, trivial⟩⟩⟩⟩⟩⟩⟩⟩⟩⟩, trivial⟩
    ·refine ⟨?_, ⟨?_, ⟨?_, ⟨?_, ⟨?_, ⟨?_, ⟨?_, ⟨?_, ⟨?_, ⟨?_, trivial⟩⟩⟩⟩⟩⟩⟩⟩⟩⟩
     ·intro _ w16 k548 _
      rintro _ _ _ _ _ _ _ _ _ _
      show WL _ _ _ _ _ _ _
      have b550 := ((((((((((((b230.kp k231).kp k244).ch k247 (Nat.ne_of_lt (Nat.lt_of_lt_of_le p8 (Nat.le_trans (z4 k15 k19 k210 k231) p242)))).kp k364).kp k395).kp k443).kp k459).ch k465 (fun h => by have h1 := h.1; have h3 := Nat.lt_of_lt_of_le p8 (z3 k15 k19 k210); omega)).kp k478).ch k485 (rn1 (Nat.lt_of_lt_of_le p8 (z6 k15 k19 k210 k231 k244 k247)))).kp k491).kp k548)
      refine lN (L_47 x_aP a1 c2) wN isAgg_39 sizeOf_39 b550 ?_
      exact f1
     ·intro _ w16 k551 _
      have m552 := m492.extk k551
      rintro _ rfl _ _ _ _ _ _ _ _ _
      show WL _ _ _ _ _ _ _
      refine cl wN (C_laws_toPaths w16 _ x_aP (mR_39 (RLv.raw (r3.from0 m552) (by omega) (fun e he b hb => Nat.le_trans (z25b e he b hb) (by decide))) (by omega))) ?_
      rintro _ w17 ⟨k554, ⟨a555, c556, rfl, o557, s558, ap560⟩⟩
      obtain ⟨y562, o563⟩ := OLv.ow o557
      exact wl_finT k554 ⟨_, _, rfl, (OLv.now (OLv.low o557 k551.size)), s558, ap560⟩
     ·intro _ w16 k564 _
      rintro _ _ _ _ _ _ _ _ _ _
      show WL _ _ _ _ _ _ _
      have b566 := ((((((((((((((b16.kp k19).kp k210).kp k231).kp k244).ch k247 (Nat.ne_of_lt (Nat.lt_of_lt_of_le p14 (Nat.le_trans (z3 k19 k210 k231) p242)))).kp k364).kp k395).kp k443).kp k459).ch k465 (fun h => by have h1 := h.1; have h3 := Nat.lt_of_lt_of_le p14 (z2 k19 k210); omega)).kp k478).ch k485 (rn1 (Nat.lt_of_lt_of_le p14 (z5 k19 k210 k231 k244 k247)))).kp k491).kp k564)
      refine lN (L_26 x_aA) wN isAgg_36 sizeOf_36 b566 ?_
      exact f1
     ·intro _ w16 k567 _
      rintro _ rfl _ ⟨a570, c571, rfl, o572, s573, ap575⟩
      obtain ⟨y576, o577⟩ := OLv.ow o572
      rintro _ rfl _ _ _ _ _ _ _
      show WL _ _ _ _ _ _ _
      refine cl wN (C_laws_toAddr w16 _ x_aA (mR_36)) ?_
      rintro _ w17 ⟨k579, rfl⟩
      exact wl_finT k579 rfl
     ·intro _ w16 k581 _
      rintro _ rfl _ ⟨a584, c585, rfl, o586, s587, ap589⟩
      obtain ⟨y590, o591⟩ := OLv.ow o586
      rintro _ rfl _ rfl _ _ _ _ _ _
      show WL _ _ _ _ _ _ _
      refine cl wN (C_impl_CandOf w16 _ (F_laws_toPaths x_aP) (mR_47 (OLv.rl o586) s587) _ (F_laws_toAddr x_aA) (mR_26)) ?_
      rintro _ w17 ⟨k593, ⟨a594, c595, rfl, o596, s597, ap599⟩⟩
      exact wl_finT k593 ⟨_, _, rfl, (own_lo o596 k581.size), s597, ap599⟩
     ·intro _ w16 k601 _
      rintro _ rfl _ ⟨a604, c605, rfl, o606, s607, ap609⟩
      obtain ⟨y610, o611⟩ := OLv.ow o606
      rintro _ rfl _ rfl _ ⟨a613, c614, rfl, o615, s616, ap618⟩ _ _ _ _ _
      show WL _ _ _ _ _ _ _
      refine mw (.tuple #[(va (L_42 ((F_impl_CandOf (F_laws_toPaths x_aP) (F_laws_toAddr x_aA)).1) a613 c614)), (vb ((F_impl_CandOf (F_laws_toPaths x_aP) (F_laws_toAddr x_aA)).2))]) ?_
      exact f1
     ·intro _ w16 k619 _
      rintro _ rfl _ ⟨a622, c623, rfl, o624, s625, ap627⟩
      obtain ⟨y628, o629⟩ := OLv.ow o624
      rintro _ rfl _ rfl _ ⟨a631, c632, rfl, o633, s634, ap636⟩ _ rfl _ _ _ _
      show WL _ _ _ _ _ _ _
      refine pu (va (L_42 ((F_impl_CandOf (F_laws_toPaths x_aP) (F_laws_toAddr x_aA)).1) a631 c632)) wN ?_
      exact f1
     ·intro _ w16 k637 _
      rintro _ rfl _ _ rfl _ rfl _ ⟨a641, c642, rfl, o643, s644, ap646⟩ _ rfl _ _ _ _
      show WL _ _ _ _ _ _ _
      refine pu (vb ((F_impl_CandOf (F_laws_toPaths x_aP) (F_laws_toAddr x_aA)).2)) wN ?_
      exact f1
     ·intro _ w16 k647 _
      rintro _ _ _ _ _ _ _ _ _ _
      show WL _ _ _ _ _ _ _
      refine al Z_42 wN zero_42 ?_
      intro g649 w17 p650 p651 k652 b653
      exact wl_finT k652 ⟨_, _, _, _, _, rfl, (Nat.le_trans k647.size p650), b653⟩
     ·intro _ w16 k655 _
      rintro _ rfl _ ⟨a658, c659, rfl, o660, s661, ap663⟩
      obtain ⟨y664, o665⟩ := OLv.ow o660
      rintro _ rfl _ rfl _ ⟨a667, c668, rfl, o669, s670, ap672⟩ _ rfl _ rfl _ _ ⟨g673, x676, x677, x678, x679, rfl, p674, b675⟩ _
      show WL _ _ _ _ _ _ _
      refine sv (L_42 ((F_impl_CandOf (F_laws_toPaths x_aP) (F_laws_toAddr x_aA)).1) a667 c668) wN sizeOf_42 b675 ?_
      intro w17 k680 b681 z682
      exact wl_finS (by decide) ⟨_, p674, ⟨_, _, _, _, b675⟩, k680, ⟨_, _, _, _, b681⟩⟩ ⟨_, rfl, p674, b681⟩
    ·intro _ w16 k684
     rintro _ rfl _ _ rfl _ rfl _ ⟨a688, c689, rfl, o690, s691, ap693⟩ _ rfl _ rfl _ rfl _ ⟨g694, x697, x698, x699, x700, rfl, p695, b696⟩ _ ⟨g701, e702, -, b703⟩
     have hz := vp_inj e702
     subst g701
     show WL _ _ _ _ _ _ _
     refine aw (vb ((F_impl_CandOf (F_laws_toPaths x_aP) (F_laws_toAddr x_aA)).2)) ?_
     refine n4 ?_
     refine lN (L_42 ((F_impl_CandOf (F_laws_toPaths x_aP) (F_laws_toAddr x_aA)).1) a688 c689) wN isAgg_42 sizeOf_42 b703 ?_
     have b704 := ((((b474.kp k478).ch k485 (rn1 (Nat.lt_of_lt_of_le (Blk.lt b222) (z3 k231 k244 k247)))).kp k491).kp k684)
     refine lN (L_42 ((candS (F_laws_toPaths x_aP) (F_laws_toAddr x_aA)).1) a214 c215) wN isAgg_42 sizeOf_42 b704 ?_
     have o705 := (own_kp (own_kp (own_ch (own_kp o476 k478) k485 (nr1 o216 (z3 k231 k244 k247))) k491) k684)
     have hc706 := C_laws_eqCand w16 _ ((F_impl_CandOf (F_laws_toPaths x_aP) (F_laws_toAddr x_aA)).1) (mR_42 (Rd.of_own o690) s691) _ ((candS (F_laws_toPaths x_aP) (F_laws_toAddr x_aA)).1) (mR_42 (Rd.of_own o705) s217)
     rw [e394] at hc706
     refine cl wN hc706 ?_
     rintro _ w17 ⟨k707, rfl⟩
     refine pu (vb (!(y393))) wN ?_
     refine mw (vb (!(y393))) ?_
     refine mv (vb ((F_impl_CandOf (F_laws_toPaths x_aP) (F_laws_toAddr x_aA)).2)) (wS (congrArg not h397)) ?_
     refine mv (vb ((candS (F_laws_toPaths x_aP) (F_laws_toAddr x_aA)).2)) (wS (congrArg not h397)) ?_
     refine pu (vb (!(((F_impl_CandOf (F_laws_toPaths x_aP) (F_laws_toAddr x_aA)).2) == ((candS (F_laws_toPaths x_aP) (F_laws_toAddr x_aA)).2)))) (wS (congrArg not h397)) ?_
     refine pf (vb (!(((F_impl_CandOf (F_laws_toPaths x_aP) (F_laws_toAddr x_aA)).2) == ((candS (F_laws_toPaths x_aP) (F_laws_toAddr x_aA)).2)))) wN (congrArg not h397) ?_
     refine n2 ?_
     refine cf (congrArg not h399) ?_
     refine y1 ?_
     refine aw (vi 1) ?_
     refine nx ?_
     have b709 := (((b487.kp k491).kp k684).kp k707)
     refine lN [(vi ((((F_impl_CandOf (F_laws_toPaths x_aP) (F_laws_toAddr x_aA)).1).A).Host)), (vi ((((F_impl_CandOf (F_laws_toPaths x_aP) (F_laws_toAddr x_aA)).1).A).Port)), (vs a368 (((F_impl_CandOf (F_laws_toPaths x_aP) (F_laws_toAddr x_aA)).1).Draw).length c369), (vi (((F_impl_CandOf (F_laws_toPaths x_aP) (F_laws_toAddr x_aA)).1).Until))] wN isAgg_42 sizeOf_42 b709 ?_
     refine mw (vi 1) ?_
     have r710 := (((r483.kp k491).kp k684).kp k707)
     have hc711 := C_laws_heldCand w17 _ _ (show R_42 w17 (va [(vi ((((F_impl_CandOf (F_laws_toPaths x_aP) (F_laws_toAddr x_aA)).1).A).Host)), (vi ((((F_impl_CandOf (F_laws_toPaths x_aP) (F_laws_toAddr x_aA)).1).A).Port)), (vs a368 (((F_impl_CandOf (F_laws_toPaths x_aP) (F_laws_toAddr x_aA)).1).Draw).length c369), (vi (((F_impl_CandOf (F_laws_toPaths x_aP) (F_laws_toAddr x_aA)).1).Until))]) { A := (((F_impl_CandOf (F_laws_toPaths x_aP) (F_laws_toAddr x_aA)).1).A), Draw := (marksB 1 (((F_impl_CandOf (F_laws_toPaths x_aP) (F_laws_toAddr x_aA)).1).Draw).length), Until := ((F_impl_CandOf (F_laws_toPaths x_aP) (F_laws_toAddr x_aA)).1).Until : PCand } from ⟨a368, c369, by simp only [marksB_len, marksI_len, marksL_len, marksE_len], by simpa only [marksB_len, marksI_len, marksL_len, marksE_len] using r710, by simp only [marksB_len, marksI_len, marksL_len, marksE_len]; first | exact s371 | omega⟩) 1 (by omega) (by omega)
     rw [e490] at hc711
     refine cl wN hc711 ?_
     rintro _ w18 ⟨k712, rfl⟩
     have m713 := ((m492.extk k684).extk k707).extk k712
     have q714 := laws_heldCand_le { A := (((F_impl_CandOf (F_laws_toPaths x_aP) (F_laws_toAddr x_aA)).1).A), Draw := (marksB 1 (((F_impl_CandOf (F_laws_toPaths x_aP) (F_laws_toAddr x_aA)).1).Draw).length), Until := ((F_impl_CandOf (F_laws_toPaths x_aP) (F_laws_toAddr x_aA)).1).Until : PCand } 1
     try rw [e490] at q714
     refine aw (vi (y489)) ?_
     refine n4 ?_
     refine mw (vi (y489)) ?_
     refine pu (vb (decide ((y489) < 0))) wN ?_
     refine n2 ?_
     refine cf h494 ?_
     refine y2 ?_
     refine mw (vi (y489)) ?_
     refine mw (vi (1 + ((((F_impl_CandOf (F_laws_toPaths x_aP) (F_laws_toAddr x_aA)).1).Draw).length : Int))) ?_
     refine pu (vb (!(decide ((y489) = (1 + ((((F_impl_CandOf (F_laws_toPaths x_aP) (F_laws_toAddr x_aA)).1).Draw).length : Int)))))) wN ?_
     refine n2 ?_
     refine cf (congrArg not h498) ?_
     refine y1 ?_
     refine aw (vb true) ?_
     refine n3 ?_
     refine rt (vb true) ?_
     refine ⟨m713.keep0, ?_⟩
     have hF715 : F_laws_FnExactCandOf x_aP x_aA = true := by first | (simp only [F_laws_FnExactCandOf, h21, e394, h397, h399, e458, h461, h469, e490, h494, h498, cond_true, cond_false, decide_true]; done) | (unfold F_laws_FnExactCandOf; try rw [h21]; try rw [e394]; try rw [h397]; try rw [h399]; try rw [e458]; try rw [h461]; try rw [h469]; try rw [e490]; try rw [h494]; try rw [h498]; first | done | rfl)
     rw [hF715]
     exact rfl
end Go.Proofs.Ytcbdmamfmcdlaaa.K
