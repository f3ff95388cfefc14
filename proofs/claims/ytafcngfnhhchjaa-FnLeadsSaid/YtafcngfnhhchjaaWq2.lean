import Derived.Test.YtafcngfnhhchjaaCore
import Derived.Test.YtafcngfnhhchjaaProg
import Derived.Test.YtafcngfnhhchjaaHeld
import Derived.Test.YtafcngfnhhchjaaFun
import Derived.Test.YtafcngfnhhchjaaFunZ
import Derived.Test.YtafcngfnhhchjaaSqz
import Derived.Test.YtafcngfnhhchjaaHash
import Derived.Test.YtafcngfnhhchjaaCur
import Derived.Test.YtafcngfnhhchjaaDrawW
import Derived.Test.YtafcngfnhhchjaaWq1
namespace Go.Proofs.Ytafcngfnhhchjaa.K
open Go.RowKit
set_option linter.unusedVariables false
set_option linter.unusedSimpArgs false
set_option maxRecDepth 100000
set_option maxHeartbeats 4000000
theorem ciCut (h : World) (p : Value) (d : List UInt8) (u : R_22 h p d) (a : Int) (b : Int)  : Fn Try.prog 178 #[p, (vi a), (vi b)] h (fun v q => Keep h q ∧ O_22_4 q h.heap.size v (cutP d a b)) := by
 obtain ⟨i, j, rfl, l, x⟩ := u
 refine fn_ofS (n := 36) [(vs i d.length j), (vi a), (vi b)] Try.func178 rfl rfl ?_
 refine sr ?_
 refine aw (vs none 0 0) ?_
 refine aw (vb false) ?_
 refine n4 ?_
 refine jT1 [(0, (vs i d.length j)), (1, (vi a)), (2, (vi b)), (6, (vs none 0 0)), (7, (vb false))] (cutP d a b = ([], false)) ?_ fun m => ?_
 ·intro y A B O
  have C := (Ch.base h).extk B
  refine sr ?_
  refine aw (vs none 0 0) ?_
  refine aw (vb false) ?_
  refine n1 ?_
  refine ret_2 (.inl rfl) (vs none 0 0) (vb false) rfl rfl rfl ?_
  refine ⟨C.keep0, ?_⟩
  rw [y]
  exact ⟨_, _, rfl, (by first | exact own_nil _ _ _ _ | exact OLv.nil _ _ _ _), (by simp), ⟨trivial, trivial⟩⟩
 refine mw (vi a) ?_
 refine pu (vb (decide (a < 0))) wN ?_
 refine mw (vb (decide (a < 0))) ?_
 rcases bt (decide (a < 0)) with g | g
 ·have P := dT g
  iterate 2 refine sk g ?_
  refine pk (vb true) wN g ?_
  refine mw (vb true) ?_
  iterate 4 refine sk (Eq.refl true) ?_
  refine pk (vb true) wN (Eq.refl true) ?_
  refine mw (vb true) ?_
  iterate 6 refine sk (Eq.refl true) ?_
  refine pk (vb true) wN (Eq.refl true) ?_
  refine n2 ?_
  refine ct (Eq.refl true) ?_
  have D : cutP d a b = ([], false) := by first | exact cutP_f (by omega) | exact cutP_t (by omega) (by omega) (by omega) (by first | rfl | (congr 2; omega) | (congr 1; omega))
  exact wj (m D _ (Ch.refl _ _))
 have Q := dF g
 refine mv (vi b) (wS g) ?_
 refine pu (vb (decide (b < 0))) (wS g) ?_
 refine pf (vb (decide (b < 0))) wN g ?_
 refine mw (vb (decide (b < 0))) ?_
 rcases bt (decide (b < 0)) with f | f
 ·have R := dT f
  iterate 4 refine sk f ?_
  refine pk (vb true) wN f ?_
  refine mw (vb true) ?_
  iterate 6 refine sk (Eq.refl true) ?_
  refine pk (vb true) wN (Eq.refl true) ?_
  refine n2 ?_
  refine ct (Eq.refl true) ?_
  have E : cutP d a b = ([], false) := by first | exact cutP_f (by omega) | exact cutP_t (by omega) (by omega) (by omega) (by first | rfl | (congr 2; omega) | (congr 1; omega))
  exact wj (m E _ (Ch.refl _ _))
 have S := dF f
 refine mv (vi a) (wS f) ?_
 refine mv (vs i d.length j) (wS f) ?_
 refine ln (wS f) slTy_22 l ?_
 refine pu (vb (decide ((d.length : Int) < a))) (wS f) ?_
 refine pf (vb (decide ((d.length : Int) < a))) wN f ?_
 refine mw (vb (decide ((d.length : Int) < a))) ?_
 rcases bt (decide ((d.length : Int) < a)) with e | e
 ·have T := dT e
  iterate 6 refine sk e ?_
  refine pk (vb true) wN e ?_
  refine n2 ?_
  refine ct (Eq.refl true) ?_
  have F : cutP d a b = ([], false) := by first | exact cutP_f (by omega) | exact cutP_t (by omega) (by omega) (by omega) (by first | rfl | (congr 2; omega) | (congr 1; omega))
  exact wj (m F _ (Ch.refl _ _))
 have V := dF e
 refine mv (vi b) (wS e) ?_
 refine mv (vs i d.length j) (wS e) ?_
 refine ln (wS e) slTy_22 l ?_
 refine mv (vi a) (wS e) ?_
 refine ar ((d.length : Int) - a) (wS e) ?_
 refine pu (vb (decide (((d.length : Int) - a) < b))) (wS e) ?_
 refine pf (vb (decide (((d.length : Int) - a) < b))) wN e ?_
 refine n2 ?_
 rcases bt (decide (((d.length : Int) - a) < b)) with k | k
 ·have W := dT k
  refine ct k ?_
  have G : cutP d a b = ([], false) := by first | exact cutP_f (by omega) | exact cutP_t (by omega) (by omega) (by omega) (by first | rfl | (congr 2; omega) | (congr 1; omega))
  exact wj (m G _ (Ch.refl _ _))
 have X := dF k
 refine cf k ?_
 refine y1 ?_
 refine wl_lit0 wN rfl rfl slTy_22 (fun w => by kernel_rfl) ?_
 intro Y A r H
 have o := (Ch.base h).extk r
 refine mw (vs i d.length j) ?_
 refine mw (vi a) ?_
 refine mw (vi a) ?_
 refine mw (vi b) ?_
 refine ar (a + b) wN ?_
 refine slv ((d.drop ((a).toNat)).take ((((a + b)).toNat) - ((a).toNat))) ((a).toNat) (((a + b)).toNat) wN slTy_22 (l.from0 o) (by first | omega | (simp <;> omega)) (by first | omega | (simp <;> omega)) (by first | rfl | (simp; done) | (rw [List.take_of_length_le (by first | (simp; done) | (simp; omega))])) rfl rfl rfl rfl (.inr ⟨_, _, _, rfl, rfl, by omega⟩) (.inr ⟨_, _, _, rfl, rfl, by omega⟩) ?_
 have I : ((a).toNat) ≤ (((a + b)).toNat) := (by first | omega | (simp <;> omega))
 have J : (((a + b)).toNat) ≤ d.length := (by first | omega | (simp <;> omega))
 refine ap0 ((d.drop ((a).toNat)).take ((((a + b)).toNat) - ((a).toNat))) wN slTy_22 H (Rd.subV (x' := ((d.drop ((a).toNat)).take ((((a + b)).toNat) - ((a).toNat)))) (l.from0 o) I J (by first | rfl | (simp; done) | (rw [List.take_of_length_le (by first | (simp; done) | (simp; omega))]))) r.size ?_
 intro s t Z K L aa
 have M := o.extk K
 refine aw (vs s ((d.drop ((a).toNat)).take ((((a + b)).toNat) - ((a).toNat))).length t) ?_
 refine aw (vb true) ?_
 refine n3 ?_
 refine ret_2 (.inl rfl) (vs s ((d.drop ((a).toNat)).take ((((a + b)).toNat) - ((a).toNat))).length t) (vb true) rfl rfl rfl ?_
 refine ⟨M.keep0, ?_⟩
 have N : cutP d a b = (((d.drop ((a).toNat)).take ((((a + b)).toNat) - ((a).toNat))), true) := by first | exact cutP_f (by omega) | exact cutP_t (by omega) (by omega) (by omega) (by first | rfl | (congr 2; omega) | (congr 1; omega))
 rw [N]
 exact ⟨_, _, rfl, L, (nT (by simp only [List.length_take, List.length_drop]; omega) x), ⟨trivial, trivial⟩⟩

theorem ciGetN (f : World) (w : Value) (d : List UInt8) (F : R_22 f w d) (b : Int) (a : Int)  : Fn Try.prog 177 #[w, (vi b), (vi a)] f (fun v m => Keep f m ∧ O_3_3_4 m f.heap.size v (getN3 d b a)) := by
 obtain ⟨r, s, rfl, G, H⟩ := F
 refine fn_ofS (n := 45) [(vs r d.length s), (vi b), (vi a)] Try.func177 rfl rfl ?_
 refine sr ?_
 refine aw (vi 0) ?_
 refine aw (vi 0) ?_
 refine aw (vb false) ?_
 refine n4 ?_
 refine jT1 [(0, (vs r d.length s)), (1, (vi b)), (2, (vi a)), (6, (vi 0)), (7, (vi 0)), (8, (vb false))] (getN3 d b a = (0, 0, false)) ?_ fun y => ?_
 ·intro I e J R
  have K := (Ch.base f).extk J
  refine sr ?_
  refine aw (vi 0) ?_
  refine aw (vi 0) ?_
  refine aw (vb false) ?_
  refine n1 ?_
  refine ret_3 (.inl rfl) (vi 0) (vi 0) (vb false) rfl rfl rfl rfl ?_
  refine ⟨K.keep0, ?_⟩
  rw [I]
  exact rfl
 refine mw (vi a) ?_
 refine pu (vb (decide (a < 1))) wN ?_
 refine mw (vb (decide (a < 1))) ?_
 rcases bt (decide (a < 1)) with h | h
 ·have S := dT h
  iterate 2 refine sk h ?_
  refine pk (vb true) wN h ?_
  refine n2 ?_
  refine ct (Eq.refl true) ?_
  have L : getN3 d b a = (0, 0, false) := by first | exact getN3_f (by omega) | exact getN3_c (by assumption) | exact getN3_t (by omega) (by omega) (by assumption) (by omega)
  exact wj (y L _ (Ch.refl _ _))
 have T := dF h
 refine mv (vi a) (wS h) ?_
 refine pu (vb (decide (6 < a))) (wS h) ?_
 refine pf (vb (decide (6 < a))) wN h ?_
 refine n2 ?_
 rcases bt (decide (6 < a)) with o | o
 ·have V := dT o
  refine ct o ?_
  have M : getN3 d b a = (0, 0, false) := by first | exact getN3_f (by omega) | exact getN3_c (by assumption) | exact getN3_t (by omega) (by omega) (by assumption) (by omega)
  exact wj (y M _ (Ch.refl _ _))
 have W := dF o
 refine cf o ?_
 refine y1 ?_
 refine mw (vs r d.length s) ?_
 refine mw (vi b) ?_
 refine mw (vi a) ?_
 refine cl wN (ciCut f _ d (mR_22 G H) b a) ?_
 rintro _ e ⟨N, ⟨j, l, rfl, t, _⟩⟩
 have A := (Ch.base f).extk N
 have X := cutP_len d b a
 refine mw (.tuple #[(vs j ((cutP d b a).1).length l), (vb ((cutP d b a).2))]) ?_
 refine pu (vs j ((cutP d b a).1).length l) wN ?_
 refine pu (vb ((cutP d b a).2)) wN ?_
 refine aw (vs j ((cutP d b a).1).length l) ?_
 refine aw (vb ((cutP d b a).2)) ?_
 refine n4 ?_
 refine mw (vb ((cutP d b a).2)) ?_
 refine pu (vb (!((cutP d b a).2))) wN ?_
 refine n2 ?_
 rcases bf ((cutP d b a).2) with q | q
 ·refine ct (cA not q) ?_
  refine sr ?_
  refine aw (vi 0) ?_
  refine aw (vi 0) ?_
  refine aw (vb false) ?_
  refine n1 ?_
  refine ret_3 (.inl rfl) (vi 0) (vi 0) (vb false) rfl rfl rfl rfl ?_
  refine ⟨A.keep0, ?_⟩
  have O : getN3 d b a = (0, 0, false) := by first | exact getN3_f (by omega) | exact getN3_c (by assumption) | exact getN3_t (by omega) (by omega) (by assumption) (by omega)
  rw [O]
  exact rfl
 have Y := cutP_2 q
 refine cf (cA not q) ?_
 refine y1 ?_
 refine aw (vi 0) ?_
 refine n4 ?_
 refine mw (vs j ((cutP d b a).1).length l) ?_
 refine ln wN slTy_22 (Rd.of_own t) ?_
 refine mw (vi 0) ?_
 refine wl_nil <| wq_then <| wc_block ?_
 refine wc_loopP [(1, (vi b)), (2, (vi a)), (6, (vi 0)), (7, (vi 0)), (8, (vb false)), (11, (vi (getV ((cutP d b a).1.take 0) 0))), (29, (vs j ((cutP d b a).1).length l)), (30, (vi (((cutP d b a).1).length : Int))), (31, (vi ((0 : Nat) : Int)))] ⟨rfl, rfl, rfl, rfl, rfl, (cA (Value.int .i64) (show (0 : Int) = (getV ((cutP d b a).1.take 0) 0) by rfl)), rfl, rfl, (cA (Value.int .i64) (show (0 : Int) = ((0 : Nat) : Int) by omega)), trivial⟩ (fun e' m => ∃ (i : Nat) (B : Env), e' = pt B [(1, (vi b)), (2, (vi a)), (6, (vi 0)), (7, (vi 0)), (8, (vb false)), (11, (vi (getV ((cutP d b a).1.take i) 0))), (29, (vs j ((cutP d b a).1).length l)), (30, (vi (((cutP d b a).1).length : Int))), (31, (vi ((i : Nat) : Int)))] ∧ Ch (fun k => f.heap.size ≤ k) f m ∧ Ch (fun k => e.heap.size ≤ k) e m ∧ i ≤ (cutP d b a).1.length) (fun e' _ => (cutP d b a).1.length - ((intOf (e' 31))).toNat) ?_ ?_
 ·exact fun u => ⟨0, u, rfl, A, (Ch.refl (fun k => e.heap.size ≤ k) e), (by omega)⟩
 ·rintro _ P ⟨i, B, rfl, C, D, Z⟩
  have hgb := getV_b6 ((cutP d b a).1) i (by omega)
  have aa : ((cutP d b a).1.getD i 0).toNat < 256 := UInt8.toNat_lt _
  refine sr ?_
  refine pu (vb (decide (((i : Nat) : Int) < (((cutP d b a).1).length : Int)))) wN ?_
  refine wl_nil <| wq_then <| wc_seq ?_
  rcases bf (decide (((i : Nat) : Int) < (((cutP d b a).1).length : Int))) with p | p
  ·have ab := dF p
   refine cf p ?_
   refine wc_exit <| wq_then_exit <| wq_then_exit <| wq_blk_exit <| wq_then <| sr ?_
   refine mw (vi (getV ((cutP d b a).1.take i) 0)) ?_
   refine mw (vi b) ?_
   refine mw (vi a) ?_
   refine ar (b + a) wN ?_
   refine aw (vi (getV ((cutP d b a).1.take i) 0)) ?_
   refine aw (vi (b + a)) ?_
   refine aw (vb true) ?_
   refine n3 ?_
   refine ret_3 (.inl rfl) (vi (getV ((cutP d b a).1.take i) 0)) (vi (b + a)) (vb true) rfl rfl rfl rfl ?_
   refine ⟨C.keep0, ?_⟩
   have Q : getN3 d b a = ((getV ((cutP d b a).1.take i) 0), (b + a), true) := by first | exact getN3_f (by omega) | exact getN3_c (by assumption) | exact getN3_t (by omega) (by omega) (by assumption) (by omega)
   rw [Q]
   exact rfl
  have ac := dT p
  refine ct p ?_
  refine wc_skip <| wq_then <| wc_seq <| wc_block <| sr ?_
  have E := (own_ch t D (fun g hg hlt hk => by have ad := (own_lt t g hg).2; have ae : e.heap.size ≤ e.heap.size := (Nat.le_refl e.heap.size); have af : e.heap.size ≤ g := hk; omega))
  refine ix wN ((i : Nat) : Int) slTy_22 (Rd.of_own E) ?_
  refine eb (x := (cutP d b a).1) i wN isAgg_5 (Rd.of_own E) ?_
  refine aw (v8 ((((cutP d b a).1).getD i 0).toNat : Int)) ?_
  refine wl_nil <| wq_then <| wc_region ?_
  refine mw (vi (getV ((cutP d b a).1.take i) 0)) ?_
  refine ar (256 * (getV ((cutP d b a).1.take i) 0)) wN ?_
  refine mw (v8 ((((cutP d b a).1).getD i 0).toNat : Int)) ?_
  refine ar ((((cutP d b a).1).getD i 0).toNat : Int) wN ?_
  refine ar ((256 * (getV ((cutP d b a).1.take i) 0)) + ((((cutP d b a).1).getD i 0).toNat : Int)) wN ?_
  refine aw (vi ((256 * (getV ((cutP d b a).1.take i) 0)) + ((((cutP d b a).1).getD i 0).toNat : Int))) ?_
  refine wl_nil <| wq_blk_normal <| wq_then <| wc_region ?_
  refine ar (((i : Nat) : Int) + 1) wN ?_
  refine mw (vi (((i : Nat) : Int) + 1)) ?_
  refine wl_nil ?_
  refine wq_loopP (w0 := P) [(1, (vi b)), (2, (vi a)), (6, (vi 0)), (7, (vi 0)), (8, (vb false)), (11, (vi (getV ((cutP d b a).1.take (i + 1)) 0))), (29, (vs j ((cutP d b a).1).length l)), (30, (vi (((cutP d b a).1).length : Int))), (31, (vi (((i + 1) : Nat) : Int)))] ?_ ?_ ?_
  · exact ⟨rfl, rfl, rfl, rfl, rfl, (cA (Value.int .i64) (show (((256 * (getV ((cutP d b a).1.take i) 0)) + ((((cutP d b a).1).getD i 0).toNat : Int)) : Int) = (getV ((cutP d b a).1.take (i + 1)) 0) by exact getV_next (by omega))), rfl, rfl, (cA (Value.int .i64) (show ((((i : Nat) : Int) + 1) : Int) = (((i + 1) : Nat) : Int) by omega)), trivial⟩
  · exact fun u => ⟨(i + 1), u, rfl, C, ((Ch.refl (fun k => e.heap.size ≤ k) e).ext D (fun k hk => hk)), (by omega)⟩
  · show (cutP d b a).1.length - ((((i + 1) : Nat) : Int)).toNat < (cutP d b a).1.length - (((i : Nat) : Int)).toNat; omega

theorem ciRot (i : World) (e : Int) (d : Int) (x : 1 ≤ d) (y : d ≤ 31) : Fn Try.prog 174 #[(vi e), (vi d)] i (fun v l => Keep i l ∧ O_3 l i.heap.size v (rot e d)) := by
 refine fn_ofS (n := 23) [(vi e), (vi d)] Try.func174 rfl rfl ?_
 refine sr ?_
 refine aw (vi 0) ?_
 refine nx ?_
 refine mw (vi e) ?_
 refine wl_and e 4294967295 4294967296 32 wN rfl rfl (by decide) (by decide) (by decide) (by kernel_rfl) ?_
 refine aw (vi (e % 4294967296)) ?_
 refine n4 ?_
 refine jT1 [(0, (vi (e % 4294967296))), (1, (vi d)), (4, (vi 0))] (rot e d = (e % 4294967296)) ?_ fun m => ?_
 ·intro o f p A
  have q := (Ch.base i).extk p
  refine sr ?_
  refine mw (vi (e % 4294967296)) ?_
  refine aw (vi (e % 4294967296)) ?_
  refine n1 ?_
  refine rt (vi (e % 4294967296)) ?_
  refine ⟨q.keep0, ?_⟩
  rw [o]
  exact rfl
 refine mw (vi d) ?_
 refine pu (vb (decide (d < 0))) wN ?_
 refine mw (vb (decide (d < 0))) ?_
 rcases bt (decide (d < 0)) with g | g
 ·have B := dT g
  iterate 2 refine sk g ?_
  refine pk (vb true) wN g ?_
  refine n2 ?_
  refine ct (Eq.refl true) ?_
  have r : rot e d = (e % 4294967296) := by first | rfl | (exfalso; omega)
  exact wj (m r _ (Ch.refl _ _))
 have C := dF g
 refine mv (vi d) (wS g) ?_
 refine pu (vb (decide (31 < d))) (wS g) ?_
 refine pf (vb (decide (31 < d))) wN g ?_
 refine n2 ?_
 rcases bt (decide (31 < d)) with j | j
 ·have D := dT j
  refine ct j ?_
  have s : rot e d = (e % 4294967296) := by first | rfl | (exfalso; omega)
  exact wj (m s _ (Ch.refl _ _))
 have E := dF j
 refine cf j ?_
 refine wc_skip <| wq_then <| wc_seq ?_
 refine wc_drawT ([(14, [], [], (fun _ v _ => v = (vi (e % 4294967296)))), (15, [], [], (fun _ v _ => v = (vi d))), (16, [], [0, 1], (fun _ v _ => v = (vi ((e % 4294967296) / (2 : Int) ^ (d).toNat)))), (17, [], [], (fun _ v _ => v = (vi (e % 4294967296)))), (18, [], [], (fun _ v _ => v = (vi d))), (19, [], [4], (fun _ v _ => v = (vi (32 - d)))), (20, [], [3, 4, 5], (fun _ v _ => v = (vi ((e % 4294967296) * (2 : Int) ^ ((32 - d)).toNat))))] : GV) (fun _ l => Keep i l) [] mixed rfl (by kernel_rfl) (by kernel_rfl) ?_ (fun _ _ h => h) (fun _ _ _ _ h _ k => h.trans k) trivial ?_ ?_ ?_
 ·exact ⟨hV, hE, ⟨hV, hE, ⟨hV, hE, ⟨hV, hE, ⟨hV, hE, ⟨hV, hE, ⟨hV, hE, trivial⟩⟩⟩⟩⟩⟩⟩
 ·exact trivial
 ·refine ⟨?_, ⟨?_, ⟨?_, ⟨?_, ⟨?_, ⟨?_, ⟨?_, trivial⟩⟩⟩⟩⟩⟩⟩
  ·intro _ f F _
   rintro _ _ _ _ _ _ _
   show WL _ _ _ _ _ _ _
   refine mw (vi (e % 4294967296)) ?_
   exact f1
  ·intro _ f G _
   rintro _ _ _ _ _ _ _
   show WL _ _ _ _ _ _ _
   refine mw (vi d) ?_
   exact f1
  ·intro _ f H _
   rintro _ rfl _ rfl _ _ _ _ _
   show WL _ _ _ _ _ _ _
   refine wl_shr (e % 4294967296) d wN rfl rfl rfl rfl rfl (by omega) (by omega) ?_
   have I := shr_b (a := (e % 4294967296)) (by omega) (d).toNat
   exact f1
  ·intro _ f J _
   rintro _ _ _ _ _ _ _
   show WL _ _ _ _ _ _ _
   refine mw (vi (e % 4294967296)) ?_
   exact f1
  ·intro _ f K _
   rintro _ _ _ _ _ _ _
   show WL _ _ _ _ _ _ _
   refine mw (vi d) ?_
   exact f1
  ·intro _ f L _
   rintro _ _ _ _ _ rfl _ _
   show WL _ _ _ _ _ _ _
   refine ar (32 - d) wN ?_
   exact f1
  ·intro _ f M _
   rintro _ _ _ _ rfl _ rfl _ rfl _
   show WL _ _ _ _ _ _ _
   refine wl_shl (e % 4294967296) (32 - d) wN rfl rfl rfl rfl rfl (by omega) (by omega) (by omega) (by omega) ?_
   have N := shl_b (a := (e % 4294967296)) (n := ((32 - d)).toNat) (by omega) (by omega) (by omega)
   exact f1
 ·intro _ f t
  have u := (Ch.base i).extk t
  rintro _ rfl _ rfl _ rfl
  have O := shr_b (a := (e % 4294967296)) (by omega) (d).toNat
  rintro _ rfl _ rfl _ rfl _ rfl
  have P := shl_b (a := (e % 4294967296)) (n := ((32 - d)).toNat) (by omega) (by omega) (by omega)
  show WL _ _ _ _ _ _ _
  refine wl_or ((e % 4294967296) / (2 : Int) ^ (d).toNat) ((e % 4294967296) * (2 : Int) ^ ((32 - d)).toNat) wN rfl rfl (by kernel_rfl) (by omega) (by omega) (by omega) (by omega) ?_
  have Q := orI_p (a := ((e % 4294967296) / (2 : Int) ^ (d).toNat)) (b := ((e % 4294967296) * (2 : Int) ^ ((32 - d)).toNat)) (by omega) (by omega)
  refine wl_and (orI ((e % 4294967296) / (2 : Int) ^ (d).toNat) ((e % 4294967296) * (2 : Int) ^ ((32 - d)).toNat)) 4294967295 4294967296 32 wN rfl rfl (by decide) (by decide) (by decide) (by kernel_rfl) ?_
  refine aw (vi ((orI ((e % 4294967296) / (2 : Int) ^ (d).toNat) ((e % 4294967296) * (2 : Int) ^ ((32 - d)).toNat)) % 4294967296)) ?_
  refine n3 ?_
  refine rt (vi ((orI ((e % 4294967296) / (2 : Int) ^ (d).toNat) ((e % 4294967296) * (2 : Int) ^ ((32 - d)).toNat)) % 4294967296)) ?_
  refine ⟨u.keep0, ?_⟩
  have w : rot e d = ((orI ((e % 4294967296) / (2 : Int) ^ (d).toNat) ((e % 4294967296) * (2 : Int) ^ ((32 - d)).toNat)) % 4294967296) := by first | rfl | (exfalso; omega)
  rw [w]
  exact rfl

theorem ciSchedule (i : World) (P : Value) (f : List UInt8) (ac : R_22 i P f)  : Fn Try.prog 173 #[P] i (fun v r => Keep i r ∧ O_32 r i.heap.size v (schedP f)) := by
 obtain ⟨A, B, rfl, Q, ad⟩ := ac
 refine fn_ofS (n := 79) [(vs A f.length B)] Try.func173 rfl rfl ?_
 refine sr ?_
 refine aw (vs none 0 0) ?_
 refine n4 ?_
 refine mw (vs A f.length B) ?_
 refine ln wN slTy_22 Q ?_
 refine pu (vb (!(decide ((f.length : Int) = 64)))) wN ?_
 refine n2 ?_
 rcases bf (decide ((f.length : Int) = 64)) with C | C
 ·have aJ := dF C
  refine ct (cA not C) ?_
  refine sr ?_
  refine aw (vs none 0 0) ?_
  refine n1 ?_
  refine rt (vs none 0 0) ?_
  refine ⟨Ch.refl _ _, ?_⟩
  have ae : schedP f = [] := by first | exact schedP_f (by omega) | exact schedP_t (by omega) (by omega) (by omega)
  rw [ae]
  exact ⟨_, _, rfl, (by first | exact own_nil _ _ _ _ | exact OLv.nil _ _ _ _), (by simp), ⟨trivial, trivial⟩⟩
 have aK := dT C
 refine cf (cA not C) ?_
 refine y1 ?_
 refine wl_makeI (64) wN rfl rfl rfl slTy_32 64 rfl (by omega) (by first | (simp only [List.length_append, List.length_cons, List.length_nil, List.length_replicate, List.length_take, List.length_drop]; omega) | omega) (by first | (simp only [List.length_append, List.length_cons, List.length_nil, List.length_replicate, List.length_take, List.length_drop]; omega) | omega) ?_
 intro g h H af D
 have ah := (Ch.base i).extk af
 refine aw (vs g (List.replicate 64 (0 : Int)).length h) ?_
 refine n4 ?_
 refine aw (vi 0) ?_
 refine wl_nil <| wq_then <| wc_block ?_
 have ai : ((List.replicate 64 (0 : Int)) : List Int) = sched16 f 0 ++ List.replicate (64 - 0) (0 : Int) := by rfl
 refine wc_loopP [(0, (vs A f.length B)), (2, (vs none 0 0)), (3, (vs g (List.replicate 64 (0 : Int)).length h)), (4, (vi ((0 : Nat) : Int)))] ⟨rfl, rfl, rfl, (cA (Value.int .i64) (show (0 : Int) = ((0 : Nat) : Int) by omega)), trivial⟩ (fun e' r => ∃ (k : Nat) (R : Env), e' = pt R [(0, (vs A f.length B)), (2, (vs none 0 0)), (3, (vs g (List.replicate 64 (0 : Int)).length h)), (4, (vi ((k : Nat) : Int)))] ∧ Ch (fun k => i.heap.size ≤ k) i r ∧ Ch (fun k => i.heap.size ≤ k) H r ∧ k ≤ 16 ∧ World.ownsRow r i.heap.size 3 1 (.slice g (List.replicate 64 (0 : Int)).length h) (List.replicate 64 (0 : Int)).length ((sched16 f k ++ List.replicate (64 - k) (0 : Int)).map iV)) (fun e' _ => (16 - (intOf (e' 4))).toNat) ?_ ?_
 ·exact fun u => ⟨0, u, rfl, ah, (Ch.refl (fun k => i.heap.size ≤ k) H), (by omega), (by rw [← ai]; exact D)⟩
 ·rintro _ E ⟨k, R, rfl, I, aj, aL, S⟩
  have hsl := sched16_len f k
  refine wc_seq <| sr ?_
  refine mw (vi ((k : Nat) : Int)) ?_
  refine pu (vb (decide (((k : Nat) : Int) < 16))) wN ?_
  refine n2 ?_
  rcases bt (decide (((k : Nat) : Int) < 16)) with F | F
  ·have aM := dT F
   refine ct F ?_
   refine wc_skip <| wq_then <| wc_seq <| wc_block <| wc_region ?_
   refine mw (vs g (List.replicate 64 (0 : Int)).length h) ?_
   refine mw (vi ((k : Nat) : Int)) ?_
   refine mw (vs A f.length B) ?_
   refine mw (vi ((k : Nat) : Int)) ?_
   refine ar (4 * ((k : Nat) : Int)) wN ?_
   refine cl wN (ciGetN E _ f (mR_22 (Q.from0 I) ad) (4 * ((k : Nat) : Int)) 4) ?_
   rintro _ T ⟨J, rfl⟩
   refine mw (.tuple #[(vi ((getN3 f (4 * ((k : Nat) : Int)) 4).1)), (vi ((getN3 f (4 * ((k : Nat) : Int)) 4).2.1)), (vb ((getN3 f (4 * ((k : Nat) : Int)) 4).2.2))]) ?_
   refine pu (vi ((getN3 f (4 * ((k : Nat) : Int)) 4).1)) wN ?_
   refine pu (vi ((getN3 f (4 * ((k : Nat) : Int)) 4).2.1)) wN ?_
   refine pu (vb ((getN3 f (4 * ((k : Nat) : Int)) 4).2.2)) wN ?_
   have V := (own_kp S J)
   refine ix wN ((k : Nat) : Int) slTy_32 (Rd.of_own V) ?_
   refine wl_storeI (sched16 f k ++ List.replicate (64 - k) (0 : Int)) (k) ((getN3 f (4 * ((k : Nat) : Int)) 4).1) wN rfl rfl rfl (by simp) rfl sizeOf_3 V (by first | omega | (simp only [List.length_append, List.length_replicate, List.length_take, List.length_set, List.length_map]; omega)) ?_
   intro p W ak
   have am := (I.extk J).ext W (fun k hk => nT (Nat.le_refl i.heap.size) (own_lt D k hk).1)
   refine wl_nil <| wq_blk_normal <| wq_then <| wc_region ?_
   refine mw (vi ((k : Nat) : Int)) ?_
   refine ar (((k : Nat) : Int) + 1) wN ?_
   refine aw (vi (((k : Nat) : Int) + 1)) ?_
   refine wl_nil ?_
   have an : (((sched16 f k ++ List.replicate (64 - k) (0 : Int)).set k ((getN3 f (4 * ((k : Nat) : Int)) 4).1)) : List Int) = sched16 f (k + 1) ++ List.replicate (64 - (k + 1)) (0 : Int) := by exact sched16_next (by omega) (by omega)
   refine wq_loopP (w0 := E) [(0, (vs A f.length B)), (2, (vs none 0 0)), (3, (vs g (List.replicate 64 (0 : Int)).length h)), (4, (vi (((k + 1) : Nat) : Int)))] ?_ ?_ ?_
   · exact ⟨rfl, rfl, rfl, (cA (Value.int .i64) (show ((((k : Nat) : Int) + 1) : Int) = (((k + 1) : Nat) : Int) by omega)), trivial⟩
   · exact fun u => ⟨(k + 1), u, rfl, am, ((((Ch.refl (fun k => i.heap.size ≤ k) H).ext aj (fun k hk => hk)).extk J).ext W (fun k hk => nT (Nat.le_refl i.heap.size) (own_lt D k hk).1)), (by omega), (by rw [← an]; exact ak)⟩
   · show (16 - (((k + 1) : Nat) : Int)).toNat < (16 - ((k : Nat) : Int)).toNat; omega
  have aN := dF F
  refine cf F ?_
  refine wc_exit <| wq_then_exit ?_
  obtain rfl : k = 16 := by omega
  refine wq_then_exit <| wq_blk_exit <| wq_then <| wc_seq <| sr ?_
  refine aw (vi 16) ?_
  refine wl_nil <| wq_then <| wc_block ?_
  have ao : ((sched16 f 16 ++ List.replicate (64 - 16) (0 : Int)) : List Int) = schedN f 0 ++ List.replicate (48 - 0) (0 : Int) := by rfl
  refine wc_loopP [(2, (vs none 0 0)), (3, (vs g (List.replicate 64 (0 : Int)).length h)), (5, (vi (16 + ((0 : Nat) : Int))))] ⟨rfl, rfl, (cA (Value.int .i64) (show (16 : Int) = (16 + ((0 : Nat) : Int)) by omega)), trivial⟩ (fun e' r => ∃ (m : Nat) (X : Env), e' = pt X [(2, (vs none 0 0)), (3, (vs g (List.replicate 64 (0 : Int)).length h)), (5, (vi (16 + ((m : Nat) : Int))))] ∧ Ch (fun k => i.heap.size ≤ k) i r ∧ Ch (fun k => i.heap.size ≤ k) E r ∧ m ≤ 48 ∧ World.ownsRow r i.heap.size 3 1 (.slice g (List.replicate 64 (0 : Int)).length h) (List.replicate 64 (0 : Int)).length ((schedN f m ++ List.replicate (48 - m) (0 : Int)).map iV)) (fun e' _ => (64 - (intOf (e' 5))).toNat) ?_ ?_
  ·exact fun u => ⟨0, u, rfl, I, (Ch.refl (fun k => i.heap.size ≤ k) E), (by omega), (by rw [← ao]; exact S)⟩
  ·rintro _ T ⟨m, X, rfl, Y, ap, aO, q⟩
   have hsl := schedN_len f m
   obtain ⟨l, K⟩ : ∃ z, (schedN f m ++ List.replicate (48 - m) (0 : Int)).getD (((16 + ((m : Nat) : Int)) - 7)).toNat 0 = z := ⟨_, rfl⟩
   have aP : 0 ≤ l ∧ l < 4294967296 := K ▸ wget (schedL_w f m) (((16 + ((m : Nat) : Int)) - 7)).toNat
   obtain ⟨o, L⟩ : ∃ z, (schedN f m ++ List.replicate (48 - m) (0 : Int)).getD (((16 + ((m : Nat) : Int)) - 16)).toNat 0 = z := ⟨_, rfl⟩
   have aQ : 0 ≤ o ∧ o < 4294967296 := L ▸ wget (schedL_w f m) (((16 + ((m : Nat) : Int)) - 16)).toNat
   obtain ⟨d, M⟩ : ∃ z, (schedN f m ++ List.replicate (48 - m) (0 : Int)).getD (((16 + ((m : Nat) : Int)) - 15)).toNat 0 = z := ⟨_, rfl⟩
   have aR : 0 ≤ d ∧ d < 4294967296 := M ▸ wget (schedL_w f m) (((16 + ((m : Nat) : Int)) - 15)).toNat
   obtain ⟨e, N⟩ : ∃ z, (schedN f m ++ List.replicate (48 - m) (0 : Int)).getD (((16 + ((m : Nat) : Int)) - 2)).toNat 0 = z := ⟨_, rfl⟩
   have aS : 0 ≤ e ∧ e < 4294967296 := N ▸ wget (schedL_w f m) (((16 + ((m : Nat) : Int)) - 2)).toNat
   refine wc_seq <| sr ?_
   refine mw (vi (16 + ((m : Nat) : Int))) ?_
   refine pu (vb (decide ((16 + ((m : Nat) : Int)) < 64))) wN ?_
   refine n2 ?_
   rcases bf (decide ((16 + ((m : Nat) : Int)) < 64)) with G | G
   ·have aT := dF G
    refine cf G ?_
    refine wc_exit <| wq_then_exit <| wq_then_exit <| wq_blk_exit <| wq_then <| sr ?_
    refine mw (vs g (List.replicate 64 (0 : Int)).length h) ?_
    refine aw (vs g (List.replicate 64 (0 : Int)).length h) ?_
    refine n3 ?_
    refine rt (vs g (List.replicate 64 (0 : Int)).length h) ?_
    refine ⟨Y.keep0, ?_⟩
    have aq : schedP f = (schedN f m ++ List.replicate (48 - m) (0 : Int)) := by first | exact schedP_f (by omega) | exact schedP_t (by omega) (by omega) (by omega)
    rw [aq]
    have Z : (List.replicate 64 (0 : Int)).length = ((schedN f m ++ List.replicate (48 - m) (0 : Int))).length := by first | (simp only [List.length_append, List.length_take, List.length_replicate, List.length_set, List.length_map]; done) | (simp only [List.length_append, List.length_take, List.length_replicate, List.length_set, List.length_map]; omega)
    rw [Z] at q ⊢
    exact ⟨_, _, rfl, q, (by rw [← Z]; rw [List.length_replicate]; first | assumption | omega), ⟨trivial, trivial⟩⟩
   have aU := dT G
   refine ct G ?_
   refine wc_skip <| wq_then <| wc_seq <| wc_block <| wc_seq ?_
   refine wc_draw ([(33, [], [], (fun _ v _ => v = (vs g (List.replicate 64 (0 : Int)).length h))), (34, [], [], (fun _ v _ => v = (vi (16 + ((m : Nat) : Int))))), (35, [], [1], (fun _ v _ => v = (vi ((16 + ((m : Nat) : Int)) - 15)))), (36, [], [0, 1, 2], (fun _ v _ => v = (ve (vs g (List.replicate 64 (0 : Int)).length h) ((((16 + ((m : Nat) : Int)) - 15)).toNat * 1)))), (37, [], [0, 1, 2, 3], (fun _ v _ => v = (vi d))), (38, [], [], (fun _ v _ => v = (vs g (List.replicate 64 (0 : Int)).length h))), (39, [], [], (fun _ v _ => v = (vi (16 + ((m : Nat) : Int))))), (40, [], [6], (fun _ v _ => v = (vi ((16 + ((m : Nat) : Int)) - 2)))), (41, [], [5, 6, 7], (fun _ v _ => v = (ve (vs g (List.replicate 64 (0 : Int)).length h) ((((16 + ((m : Nat) : Int)) - 2)).toNat * 1)))), (42, [], [5, 6, 7, 8], (fun _ v _ => v = (vi e))), (6, [], [0, 1, 2, 3, 4], (fun _ v _ => v = (vi d)))] : GV) mixed rfl (by kernel_rfl) (by kernel_rfl) ?_ ?_ ?_
   ·exact ⟨hV, hE, ⟨hV, hE, ⟨hV, hE, ⟨hV, hE, ⟨hV, hE, ⟨hV, hE, ⟨hV, hE, ⟨hV, hE, ⟨hV, hE, ⟨hV, hE, ⟨hV, hE, trivial⟩⟩⟩⟩⟩⟩⟩⟩⟩⟩⟩
   ·refine ⟨?_, ⟨?_, ⟨?_, ⟨?_, ⟨?_, ⟨?_, ⟨?_, ⟨?_, ⟨?_, ⟨?_, ⟨?_, trivial⟩⟩⟩⟩⟩⟩⟩⟩⟩⟩⟩
    ·intro p aV
     rintro _ _ _ _ _ _ _ _ _ _ _
     show WL _ _ _ _ _ _ _
     refine mw (vs g (List.replicate 64 (0 : Int)).length h) ?_
     exact f2
    ·intro p aW
     rintro _ _ _ _ _ _ _ _ _ _ _
     show WL _ _ _ _ _ _ _
     refine mw (vi (16 + ((m : Nat) : Int))) ?_
     exact f2
    ·intro p aX
     rintro _ _ rfl _ _ _ _ _ _ _ _ _
     show WL _ _ _ _ _ _ _
     refine ar ((16 + ((m : Nat) : Int)) - 15) wN ?_
     exact f2
    ·intro p au
     rintro _ rfl _ rfl _ rfl _ _ _ _ _ _ _ _
     show WL _ _ _ _ _ _ _
     have av := (own_kp q au)
     refine ix wN ((16 + ((m : Nat) : Int)) - 15) slTy_32 (Rd.of_own av) ?_
     exact f2
    ·intro p ax
     rintro _ rfl _ rfl _ rfl _ rfl _ _ _ _ _ _ _
     show WL _ _ _ _ _ _ _
     have ay := (own_kp q ax)
     refine wl_loadE (iV d) wN rfl rfl rfl rfl isAgg_3 (Rd.of_own ay) (by rw [← M]; exact iget (by simp) (by first | omega | (simp <;> omega))) ?_
     exact f2
    ·intro p aY
     rintro _ _ _ _ _ _ _ _ _ _ _
     show WL _ _ _ _ _ _ _
     refine mw (vs g (List.replicate 64 (0 : Int)).length h) ?_
     exact f2
    ·intro p aZ
     rintro _ _ _ _ _ _ _ _ _ _ _
     show WL _ _ _ _ _ _ _
     refine mw (vi (16 + ((m : Nat) : Int))) ?_
     exact f2
    ·intro p ba
     rintro _ _ _ _ _ _ _ rfl _ _ _ _
     show WL _ _ _ _ _ _ _
     refine ar ((16 + ((m : Nat) : Int)) - 2) wN ?_
     exact f2
    ·intro p az
     rintro _ _ _ _ _ _ rfl _ rfl _ rfl _ _ _
     show WL _ _ _ _ _ _ _
     have a0 := (own_kp q az)
     refine ix wN ((16 + ((m : Nat) : Int)) - 2) slTy_32 (Rd.of_own a0) ?_
     exact f2
    ·intro p a1
     rintro _ _ _ _ _ _ rfl _ rfl _ rfl _ rfl _ _
     show WL _ _ _ _ _ _ _
     have a2 := (own_kp q a1)
     refine wl_loadE (iV e) wN rfl rfl rfl rfl isAgg_3 (Rd.of_own a2) (by rw [← N]; exact iget (by simp) (by first | omega | (simp <;> omega))) ?_
     exact f2
    ·intro p bb
     rintro _ rfl _ rfl _ rfl _ rfl _ rfl _ _ _ _ _ _
     show WL _ _ _ _ _ _ _
     refine aw (vi d) ?_
     exact f2
   ·intro p s
    rintro _ rfl _ rfl _ rfl _ rfl _ rfl _ rfl _ rfl _ rfl _ rfl _ rfl _ rfl
    show WL _ _ _ _ _ _ _
    refine aw (vi e) ?_
    refine nx ?_
    refine mw (vi d) ?_
    refine cl wN (ciRot p d 7 (by omega) (by omega)) ?_
    rintro _ a3 ⟨t, rfl⟩
    have a4 := (Y.extk s).extk t
    have bc := rot_b d 7
    refine mw (vi d) ?_
    refine cl wN (ciRot a3 d 18 (by omega) (by omega)) ?_
    rintro _ a5 ⟨w, rfl⟩
    have bd := rot_b d 18
    refine wl_xor (rot d 7) (rot d 18) wN rfl rfl (by kernel_rfl) (by omega) (by omega) (by omega) (by omega) ?_
    have be := xorI_b (a := (rot d 7)) (b := (rot d 18)) (by omega) (by omega)
    refine mw (vi d) ?_
    refine wl_shrU d (3 : Int) wN rfl rfl rfl rfl rfl (by omega) (by omega) ?_
    have bg := shr_b (a := d) (by omega) ((3 : Int)).toNat
    refine wl_xor (xorI (rot d 7) (rot d 18)) (d / (2 : Int) ^ ((3 : Int)).toNat) wN rfl rfl (by kernel_rfl) (by omega) (by omega) (by omega) (by omega) ?_
    have bh := xorI_b (a := (xorI (rot d 7) (rot d 18))) (b := (d / (2 : Int) ^ ((3 : Int)).toNat)) (by omega) (by omega)
    refine aw (vi (xorI (xorI (rot d 7) (rot d 18)) (d / (2 : Int) ^ ((3 : Int)).toNat))) ?_
    refine nx ?_
    refine mw (vi e) ?_
    refine cl wN (ciRot a5 e 17 (by omega) (by omega)) ?_
    rintro _ a6 ⟨x, rfl⟩
    have bi := rot_b e 17
    refine mw (vi e) ?_
    refine cl wN (ciRot a6 e 19 (by omega) (by omega)) ?_
    rintro _ bj ⟨y, rfl⟩
    have a7 := ((a4.extk w).extk x).extk y
    have bk := rot_b e 19
    refine wl_xor (rot e 17) (rot e 19) wN rfl rfl (by kernel_rfl) (by omega) (by omega) (by omega) (by omega) ?_
    have bl := xorI_b (a := (rot e 17)) (b := (rot e 19)) (by omega) (by omega)
    refine mw (vi e) ?_
    refine wl_shrU e (10 : Int) wN rfl rfl rfl rfl rfl (by omega) (by omega) ?_
    have bm := shr_b (a := e) (by omega) ((10 : Int)).toNat
    refine wl_xor (xorI (rot e 17) (rot e 19)) (e / (2 : Int) ^ ((10 : Int)).toNat) wN rfl rfl (by kernel_rfl) (by omega) (by omega) (by omega) (by omega) ?_
    have bn := xorI_b (a := (xorI (rot e 17) (rot e 19))) (b := (e / (2 : Int) ^ ((10 : Int)).toNat)) (by omega) (by omega)
    refine aw (vi (xorI (xorI (rot e 17) (rot e 19)) (e / (2 : Int) ^ ((10 : Int)).toNat))) ?_
    refine n2 ?_
    refine wc_draw ([(59, [], [], (fun _ v _ => v = (vs g (List.replicate 64 (0 : Int)).length h))), (60, [], [], (fun _ v _ => v = (vi (16 + ((m : Nat) : Int))))), (61, [], [], (fun _ v _ => v = (vs g (List.replicate 64 (0 : Int)).length h))), (62, [], [], (fun _ v _ => v = (vi (16 + ((m : Nat) : Int))))), (63, [], [3], (fun _ v _ => v = (vi ((16 + ((m : Nat) : Int)) - 7)))), (64, [], [2, 3, 4], (fun _ v _ => v = (ve (vs g (List.replicate 64 (0 : Int)).length h) ((((16 + ((m : Nat) : Int)) - 7)).toNat * 1)))), (65, [], [2, 3, 4, 5], (fun _ v _ => v = (vi l))), (66, [], [], (fun _ v _ => v = (vs g (List.replicate 64 (0 : Int)).length h))), (67, [], [], (fun _ v _ => v = (vi (16 + ((m : Nat) : Int))))), (68, [], [8], (fun _ v _ => v = (vi ((16 + ((m : Nat) : Int)) - 16)))), (69, [], [7, 8, 9], (fun _ v _ => v = (ve (vs g (List.replicate 64 (0 : Int)).length h) ((((16 + ((m : Nat) : Int)) - 16)).toNat * 1)))), (70, [], [7, 8, 9, 10], (fun _ v _ => v = (vi o))), (71, [], [2, 3, 4, 5, 6, 7, 8, 9, 10, 11], (fun _ v _ => v = (vi (l + o)))), (72, [], [], (fun _ v _ => v = (vi (xorI (xorI (rot d 7) (rot d 18)) (d / (2 : Int) ^ ((3 : Int)).toNat))))), (73, [], [2, 3, 4, 5, 6, 7, 8, 9, 10, 11, 12, 13], (fun _ v _ => v = (vi ((l + o) + (xorI (xorI (rot d 7) (rot d 18)) (d / (2 : Int) ^ ((3 : Int)).toNat)))))), (74, [], [], (fun _ v _ => v = (vi (xorI (xorI (rot e 17) (rot e 19)) (e / (2 : Int) ^ ((10 : Int)).toNat))))), (75, [], [2, 3, 4, 5, 6, 7, 8, 9, 10, 11, 12, 13, 14, 15], (fun _ v _ => v = (vi (((l + o) + (xorI (xorI (rot d 7) (rot d 18)) (d / (2 : Int) ^ ((3 : Int)).toNat))) + (xorI (xorI (rot e 17) (rot e 19)) (e / (2 : Int) ^ ((10 : Int)).toNat)))))), (76, [], [2, 3, 4, 5, 6, 7, 8, 9, 10, 11, 12, 13, 14, 15, 16], (fun _ v _ => v = (vi ((((l + o) + (xorI (xorI (rot d 7) (rot d 18)) (d / (2 : Int) ^ ((3 : Int)).toNat))) + (xorI (xorI (rot e 17) (rot e 19)) (e / (2 : Int) ^ ((10 : Int)).toNat))) % 4294967296))))] : GV) mixed rfl (by kernel_rfl) (by kernel_rfl) ?_ ?_ ?_
    ·exact ⟨hV, hE, ⟨hV, hE, ⟨hV, hE, ⟨hV, hE, ⟨hV, hE, ⟨hV, hE, ⟨hV, hE, ⟨hV, hE, ⟨hV, hE, ⟨hV, hE, ⟨hV, hE, ⟨hV, hE, ⟨hV, hE, ⟨hV, hE, ⟨hV, hE, ⟨hV, hE, ⟨hV, hE, ⟨hV, hE, trivial⟩⟩⟩⟩⟩⟩⟩⟩⟩⟩⟩⟩⟩⟩⟩⟩⟩⟩
    ·refine ⟨?_, ⟨?_, ⟨?_, ⟨?_, ⟨?_, ⟨?_, ⟨?_, ⟨?_, ⟨?_, ⟨?_, ⟨?_, ⟨?_, ⟨?_, ⟨?_, ⟨?_, ⟨?_, ⟨?_, ⟨?_, trivial⟩⟩⟩⟩⟩⟩⟩⟩⟩⟩⟩⟩⟩⟩⟩⟩⟩⟩
     ·intro j bo
      rintro _ _ _ _ _ _ _ _ _ _ _ _ _ _ _ _ _ _
      show WL _ _ _ _ _ _ _
      refine mw (vs g (List.replicate 64 (0 : Int)).length h) ?_
      exact f2
     ·intro j bp
      rintro _ _ _ _ _ _ _ _ _ _ _ _ _ _ _ _ _ _
      show WL _ _ _ _ _ _ _
      refine mw (vi (16 + ((m : Nat) : Int))) ?_
      exact f2
     ·intro j bq
      rintro _ _ _ _ _ _ _ _ _ _ _ _ _ _ _ _ _ _
      show WL _ _ _ _ _ _ _
      refine mw (vs g (List.replicate 64 (0 : Int)).length h) ?_
      exact f2
     ·intro j br
      rintro _ _ _ _ _ _ _ _ _ _ _ _ _ _ _ _ _ _
      show WL _ _ _ _ _ _ _
      refine mw (vi (16 + ((m : Nat) : Int))) ?_
      exact f2
     ·intro j bu
      rintro _ _ _ _ rfl _ _ _ _ _ _ _ _ _ _ _ _ _ _
      show WL _ _ _ _ _ _ _
      refine ar ((16 + ((m : Nat) : Int)) - 7) wN ?_
      exact f2
     ·intro j a8
      rintro _ _ _ rfl _ rfl _ rfl _ _ _ _ _ _ _ _ _ _ _ _ _
      show WL _ _ _ _ _ _ _
      have a9 := (own_kp (own_kp (own_kp (own_kp (own_kp (own_kp q s) t) w) x) y) a8)
      refine ix wN ((16 + ((m : Nat) : Int)) - 7) slTy_32 (Rd.of_own a9) ?_
      exact f2
     ·intro j aA
      rintro _ _ _ rfl _ rfl _ rfl _ rfl _ _ _ _ _ _ _ _ _ _ _ _
      show WL _ _ _ _ _ _ _
      have aB := (own_kp (own_kp (own_kp (own_kp (own_kp (own_kp q s) t) w) x) y) aA)
      refine wl_loadE (iV l) wN rfl rfl rfl rfl isAgg_3 (Rd.of_own aB) (by rw [← K]; exact iget (by simp) (by first | omega | (simp <;> omega))) ?_
      exact f2
     ·intro j bv
      rintro _ _ _ _ _ _ _ _ _ _ _ _ _ _ _ _ _ _
      show WL _ _ _ _ _ _ _
      refine mw (vs g (List.replicate 64 (0 : Int)).length h) ?_
      exact f2
     ·intro j bw
      rintro _ _ _ _ _ _ _ _ _ _ _ _ _ _ _ _ _ _
      show WL _ _ _ _ _ _ _
      refine mw (vi (16 + ((m : Nat) : Int))) ?_
      exact f2
     ·intro j bz
      rintro _ _ _ _ _ _ _ _ _ rfl _ _ _ _ _ _ _ _ _
      show WL _ _ _ _ _ _ _
      refine ar ((16 + ((m : Nat) : Int)) - 16) wN ?_
      exact f2
     ·intro j aC
      rintro _ _ _ _ _ _ _ _ rfl _ rfl _ rfl _ _ _ _ _ _ _ _
      show WL _ _ _ _ _ _ _
      have aD := (own_kp (own_kp (own_kp (own_kp (own_kp (own_kp q s) t) w) x) y) aC)
      refine ix wN ((16 + ((m : Nat) : Int)) - 16) slTy_32 (Rd.of_own aD) ?_
      exact f2
     ·intro j aE
      rintro _ _ _ _ _ _ _ _ rfl _ rfl _ rfl _ rfl _ _ _ _ _ _ _
      show WL _ _ _ _ _ _ _
      have aF := (own_kp (own_kp (own_kp (own_kp (own_kp (own_kp q s) t) w) x) y) aE)
      refine wl_loadE (iV o) wN rfl rfl rfl rfl isAgg_3 (Rd.of_own aF) (by rw [← L]; exact iget (by simp) (by first | omega | (simp <;> omega))) ?_
      exact f2
     ·intro j b0
      rintro _ _ _ rfl _ rfl _ rfl _ rfl _ rfl _ rfl _ rfl _ rfl _ rfl _ rfl _ _ _ _ _ _
      show WL _ _ _ _ _ _ _
      refine ar (l + o) wN ?_
      exact f2
     ·intro j b1
      rintro _ _ _ _ _ _ _ _ _ _ _ _ _ _ _ _ _ _
      show WL _ _ _ _ _ _ _
      refine mw (vi (xorI (xorI (rot d 7) (rot d 18)) (d / (2 : Int) ^ ((3 : Int)).toNat))) ?_
      exact f2
     ·intro j b2
      rintro _ _ _ rfl _ rfl _ rfl _ rfl _ rfl _ rfl _ rfl _ rfl _ rfl _ rfl _ rfl _ rfl _ _ _ _
      show WL _ _ _ _ _ _ _
      refine ar ((l + o) + (xorI (xorI (rot d 7) (rot d 18)) (d / (2 : Int) ^ ((3 : Int)).toNat))) wN ?_
      exact f2
     ·intro j b3
      rintro _ _ _ _ _ _ _ _ _ _ _ _ _ _ _ _ _ _
      show WL _ _ _ _ _ _ _
      refine mw (vi (xorI (xorI (rot e 17) (rot e 19)) (e / (2 : Int) ^ ((10 : Int)).toNat))) ?_
      exact f2
     ·intro j b4
      rintro _ _ _ rfl _ rfl _ rfl _ rfl _ rfl _ rfl _ rfl _ rfl _ rfl _ rfl _ rfl _ rfl _ rfl _ rfl _ _
      show WL _ _ _ _ _ _ _
      refine ar (((l + o) + (xorI (xorI (rot d 7) (rot d 18)) (d / (2 : Int) ^ ((3 : Int)).toNat))) + (xorI (xorI (rot e 17) (rot e 19)) (e / (2 : Int) ^ ((10 : Int)).toNat))) wN ?_
      exact f2
     ·intro j b5
      rintro _ _ _ rfl _ rfl _ rfl _ rfl _ rfl _ rfl _ rfl _ rfl _ rfl _ rfl _ rfl _ rfl _ rfl _ rfl _ rfl _
      show WL _ _ _ _ _ _ _
      refine wl_and (((l + o) + (xorI (xorI (rot d 7) (rot d 18)) (d / (2 : Int) ^ ((3 : Int)).toNat))) + (xorI (xorI (rot e 17) (rot e 19)) (e / (2 : Int) ^ ((10 : Int)).toNat))) 4294967295 4294967296 32 wN rfl rfl (by decide) (by decide) (by decide) (by kernel_rfl) ?_
      exact f2
    ·intro j O
     rintro _ rfl _ rfl _ rfl _ rfl _ rfl _ rfl _ rfl _ rfl _ rfl _ rfl _ rfl _ rfl _ rfl _ rfl _ rfl _ rfl _ rfl _ rfl
     show WL _ _ _ _ _ _ _
     have aa := (own_kp (own_kp (own_kp (own_kp (own_kp (own_kp q s) t) w) x) y) O)
     refine ix wN (16 + ((m : Nat) : Int)) slTy_32 (Rd.of_own aa) ?_
     refine wl_storeI (schedN f m ++ List.replicate (48 - m) (0 : Int)) (((16 + ((m : Nat) : Int))).toNat) (((((l + o) + (xorI (xorI (rot d 7) (rot d 18)) (d / (2 : Int) ^ ((3 : Int)).toNat))) + (xorI (xorI (rot e 17) (rot e 19)) (e / (2 : Int) ^ ((10 : Int)).toNat))) % 4294967296)) wN rfl rfl rfl (by simp) rfl sizeOf_3 aa (by first | omega | (simp only [List.length_append, List.length_replicate, List.length_take, List.length_set, List.length_map]; omega)) ?_
     intro b6 ab aG
     have aH := (a7.extk O).ext ab (fun k hk => nT (Nat.le_refl i.heap.size) (own_lt D k hk).1)
     refine wl_nil <| wq_blk_normal <| wq_then <| wc_region ?_
     refine mw (vi (16 + ((m : Nat) : Int))) ?_
     refine ar ((16 + ((m : Nat) : Int)) + 1) wN ?_
     refine aw (vi ((16 + ((m : Nat) : Int)) + 1)) ?_
     refine wl_nil ?_
     have aI : (((schedN f m ++ List.replicate (48 - m) (0 : Int)).set (((16 + ((m : Nat) : Int))).toNat) ((((l + o) + (xorI (xorI (rot d 7) (rot d 18)) (d / (2 : Int) ^ ((3 : Int)).toNat))) + (xorI (xorI (rot e 17) (rot e 19)) (e / (2 : Int) ^ ((10 : Int)).toNat))) % 4294967296)) : List Int) = schedN f (m + 1) ++ List.replicate (48 - (m + 1)) (0 : Int) := by subst K L M N; exact schedN_next (by omega)
     refine wq_loopP (w0 := T) [(2, (vs none 0 0)), (3, (vs g (List.replicate 64 (0 : Int)).length h)), (5, (vi (16 + (((m + 1) : Nat) : Int))))] ?_ ?_ ?_
     · exact ⟨rfl, rfl, (cA (Value.int .i64) (show (((16 + ((m : Nat) : Int)) + 1) : Int) = (16 + (((m + 1) : Nat) : Int)) by omega)), trivial⟩
     · exact fun u => ⟨(m + 1), u, rfl, aH, (((((((((Ch.refl (fun k => i.heap.size ≤ k) E).ext ap (fun k hk => hk)).extk s).extk t).extk w).extk x).extk y).extk O).ext ab (fun k hk => nT (Nat.le_refl i.heap.size) (own_lt D k hk).1)), (by omega), (by rw [← aI]; exact aG)⟩
     · show (64 - (16 + (((m + 1) : Nat) : Int))).toNat < (64 - (16 + ((m : Nat) : Int))).toNat; omega

theorem zero_146 : ∀ w, (zeroValue 146).run Try.prog w = .ok (va [(vi 0), (vi 0), (vi 0), (vi 0), (vi 0), (vi 0), (vi 0), (vi 0), (vi 0), (vi 0), (vi 0), (vi 0), (vi 0), (vi 0), (vi 0), (vi 0), (vi 0), (vi 0), (vi 0), (vi 0), (vi 0), (vi 0), (vi 0), (vi 0), (vi 0), (vi 0), (vi 0), (vi 0), (vi 0), (vi 0), (vi 0), (vi 0), (vi 0), (vi 0), (vi 0), (vi 0), (vi 0), (vi 0), (vi 0), (vi 0), (vi 0), (vi 0), (vi 0), (vi 0), (vi 0), (vi 0), (vi 0), (vi 0), (vi 0), (vi 0), (vi 0), (vi 0), (vi 0), (vi 0), (vi 0), (vi 0), (vi 0), (vi 0), (vi 0), (vi 0), (vi 0), (vi 0), (vi 0), (vi 0)]) w := fun w => by kernel_rfl
theorem sizeOf_146 : ∀ w, (sizeOf 146).run Try.prog w = .ok 64 w := fun w => by kernel_rfl
theorem ciRoundWord (e : World) (a : Int)  : Fn Try.prog 175 #[(vi a)] e (fun v f => Keep e f ∧ O_3 f e.heap.size v (rw64 a)) := by
 refine fn_ofS (n := 14) [(vi a)] Try.func175 rfl rfl ?_
 refine sr ?_
 refine aw (vi 0) ?_
 refine n4 ?_
 refine jT1 [(0, (vi a)), (2, (vi 0))] (rw64 a = 0) ?_ fun g => ?_
 ·intro h i j A
  have l := (Ch.base e).extk j
  refine sr ?_
  refine aw (vi 0) ?_
  refine n1 ?_
  refine rt (vi 0) ?_
  refine ⟨l.keep0, ?_⟩
  rw [h]
  exact rfl
 refine mw (vi a) ?_
 refine pu (vb (decide (a < 0))) wN ?_
 refine mw (vb (decide (a < 0))) ?_
 rcases bt (decide (a < 0)) with b | b
 ·have B := dT b
  iterate 2 refine sk b ?_
  refine pk (vb true) wN b ?_
  refine n2 ?_
  refine ct (Eq.refl true) ?_
  have m : rw64 a = 0 := by simp only [rw64, b, cond_true, cond_false]; try rfl
  exact wj (g m _ (Ch.refl _ _))
 have C := dF b
 refine mv (vi a) (wS b) ?_
 refine pu (vb (decide (63 < a))) (wS b) ?_
 refine pf (vb (decide (63 < a))) wN b ?_
 refine n2 ?_
 rcases bt (decide (63 < a)) with d | d
 ·have D := dT d
  refine ct d ?_
  have o : rw64 a = 0 := by simp only [rw64, b, d, cond_true, cond_false]; try rfl
  exact wj (g o _ (Ch.refl _ _))
 have E := dF d
 refine cf d ?_
 refine y1 ?_
 refine pu (va [(vi 1116352408), (vi 1899447441), (vi 3049323471), (vi 3921009573), (vi 961987163), (vi 1508970993), (vi 2453635748), (vi 2870763221), (vi 3624381080), (vi 310598401), (vi 607225278), (vi 1426881987), (vi 1925078388), (vi 2162078206), (vi 2614888103), (vi 3248222580), (vi 3835390401), (vi 4022224774), (vi 264347078), (vi 604807628), (vi 770255983), (vi 1249150122), (vi 1555081692), (vi 1996064986), (vi 2554220882), (vi 2821834349), (vi 2952996808), (vi 3210313671), (vi 3336571891), (vi 3584528711), (vi 113926993), (vi 338241895), (vi 666307205), (vi 773529912), (vi 1294757372), (vi 1396182291), (vi 1695183700), (vi 1986661051), (vi 2177026350), (vi 2456956037), (vi 2730485921), (vi 2820302411), (vi 3259730800), (vi 3345764771), (vi 3516065817), (vi 3600352804), (vi 4094571909), (vi 275423344), (vi 430227734), (vi 506948616), (vi 659060556), (vi 883997877), (vi 958139571), (vi 1322822218), (vi 1537002063), (vi 1747873779), (vi 1955562222), (vi 2024104815), (vi 2227730452), (vi 2361852424), (vi 2428436474), (vi 2756734187), (vi 3204031479), (vi 3329325298)]) wN ?_
 refine al [(vi 0), (vi 0), (vi 0), (vi 0), (vi 0), (vi 0), (vi 0), (vi 0), (vi 0), (vi 0), (vi 0), (vi 0), (vi 0), (vi 0), (vi 0), (vi 0), (vi 0), (vi 0), (vi 0), (vi 0), (vi 0), (vi 0), (vi 0), (vi 0), (vi 0), (vi 0), (vi 0), (vi 0), (vi 0), (vi 0), (vi 0), (vi 0), (vi 0), (vi 0), (vi 0), (vi 0), (vi 0), (vi 0), (vi 0), (vi 0), (vi 0), (vi 0), (vi 0), (vi 0), (vi 0), (vi 0), (vi 0), (vi 0), (vi 0), (vi 0), (vi 0), (vi 0), (vi 0), (vi 0), (vi 0), (vi 0), (vi 0), (vi 0), (vi 0), (vi 0), (vi 0), (vi 0), (vi 0), (vi 0)] wN zero_146 ?_
 intro p i q F r s
 refine sv [(vi 1116352408), (vi 1899447441), (vi 3049323471), (vi 3921009573), (vi 961987163), (vi 1508970993), (vi 2453635748), (vi 2870763221), (vi 3624381080), (vi 310598401), (vi 607225278), (vi 1426881987), (vi 1925078388), (vi 2162078206), (vi 2614888103), (vi 3248222580), (vi 3835390401), (vi 4022224774), (vi 264347078), (vi 604807628), (vi 770255983), (vi 1249150122), (vi 1555081692), (vi 1996064986), (vi 2554220882), (vi 2821834349), (vi 2952996808), (vi 3210313671), (vi 3336571891), (vi 3584528711), (vi 113926993), (vi 338241895), (vi 666307205), (vi 773529912), (vi 1294757372), (vi 1396182291), (vi 1695183700), (vi 1986661051), (vi 2177026350), (vi 2456956037), (vi 2730485921), (vi 2820302411), (vi 3259730800), (vi 3345764771), (vi 3516065817), (vi 3600352804), (vi 4094571909), (vi 275423344), (vi 430227734), (vi 506948616), (vi 659060556), (vi 883997877), (vi 958139571), (vi 1322822218), (vi 1537002063), (vi 1747873779), (vi 1955562222), (vi 2024104815), (vi 2227730452), (vi 2361852424), (vi 2428436474), (vi 2756734187), (vi 3204031479), (vi 3329325298)] wN sizeOf_146 s ?_
 intro t u w G
 have x := ((Ch.base e).extk r).ext u (fun k hk => by subst hk; exact q)
 refine nx ?_
 refine mw (vi a) ?_
 refine wl_indexA a wN rfl rfl rfl Try.underlying146 sizeOf_3 rfl rfl (by omega) (by omega) ?_
 refine ld (iV (([1116352408, 1899447441, 3049323471, 3921009573, 961987163, 1508970993, 2453635748, 2870763221, 3624381080, 310598401, 607225278, 1426881987, 1925078388, 2162078206, 2614888103, 3248222580, 3835390401, 4022224774, 264347078, 604807628, 770255983, 1249150122, 1555081692, 1996064986, 2554220882, 2821834349, 2952996808, 3210313671, 3336571891, 3584528711, 113926993, 338241895, 666307205, 773529912, 1294757372, 1396182291, 1695183700, 1986661051, 2177026350, 2456956037, 2730485921, 2820302411, 3259730800, 3345764771, 3516065817, 3600352804, 4094571909, 275423344, 430227734, 506948616, 659060556, 883997877, 958139571, 1322822218, 1537002063, 1747873779, 1955562222, 2024104815, 2227730452, 2361852424, 2428436474, 2756734187, 3204031479, 3329325298] : List Int).getD (a).toNat 0)) wN isAgg_3 (show Blk t p 146 (([1116352408, 1899447441, 3049323471, 3921009573, 961987163, 1508970993, 2453635748, 2870763221, 3624381080, 310598401, 607225278, 1426881987, 1925078388, 2162078206, 2614888103, 3248222580, 3835390401, 4022224774, 264347078, 604807628, 770255983, 1249150122, 1555081692, 1996064986, 2554220882, 2821834349, 2952996808, 3210313671, 3336571891, 3584528711, 113926993, 338241895, 666307205, 773529912, 1294757372, 1396182291, 1695183700, 1986661051, 2177026350, 2456956037, 2730485921, 2820302411, 3259730800, 3345764771, 3516065817, 3600352804, 4094571909, 275423344, 430227734, 506948616, 659060556, 883997877, 958139571, 1322822218, 1537002063, 1747873779, 1955562222, 2024104815, 2227730452, 2361852424, 2428436474, 2756734187, 3204031479, 3329325298] : List Int).map iV) from w) ?_ rfl rfl rfl rfl (iget rfl (by show (a).toNat < 64; omega))
 refine aw (vi (([1116352408, 1899447441, 3049323471, 3921009573, 961987163, 1508970993, 2453635748, 2870763221, 3624381080, 310598401, 607225278, 1426881987, 1925078388, 2162078206, 2614888103, 3248222580, 3835390401, 4022224774, 264347078, 604807628, 770255983, 1249150122, 1555081692, 1996064986, 2554220882, 2821834349, 2952996808, 3210313671, 3336571891, 3584528711, 113926993, 338241895, 666307205, 773529912, 1294757372, 1396182291, 1695183700, 1986661051, 2177026350, 2456956037, 2730485921, 2820302411, 3259730800, 3345764771, 3516065817, 3600352804, 4094571909, 275423344, 430227734, 506948616, 659060556, 883997877, 958139571, 1322822218, 1537002063, 1747873779, 1955562222, 2024104815, 2227730452, 2361852424, 2428436474, 2756734187, 3204031479, 3329325298] : List Int).getD (a).toNat 0)) ?_
 refine n3 ?_
 refine rt (vi (([1116352408, 1899447441, 3049323471, 3921009573, 961987163, 1508970993, 2453635748, 2870763221, 3624381080, 310598401, 607225278, 1426881987, 1925078388, 2162078206, 2614888103, 3248222580, 3835390401, 4022224774, 264347078, 604807628, 770255983, 1249150122, 1555081692, 1996064986, 2554220882, 2821834349, 2952996808, 3210313671, 3336571891, 3584528711, 113926993, 338241895, 666307205, 773529912, 1294757372, 1396182291, 1695183700, 1986661051, 2177026350, 2456956037, 2730485921, 2820302411, 3259730800, 3345764771, 3516065817, 3600352804, 4094571909, 275423344, 430227734, 506948616, 659060556, 883997877, 958139571, 1322822218, 1537002063, 1747873779, 1955562222, 2024104815, 2227730452, 2361852424, 2428436474, 2756734187, 3204031479, 3329325298] : List Int).getD (a).toNat 0)) ?_
 refine ⟨x.keep0, ?_⟩
 have y : rw64 a = (([1116352408, 1899447441, 3049323471, 3921009573, 961987163, 1508970993, 2453635748, 2870763221, 3624381080, 310598401, 607225278, 1426881987, 1925078388, 2162078206, 2614888103, 3248222580, 3835390401, 4022224774, 264347078, 604807628, 770255983, 1249150122, 1555081692, 1996064986, 2554220882, 2821834349, 2952996808, 3210313671, 3336571891, 3584528711, 113926993, 338241895, 666307205, 773529912, 1294757372, 1396182291, 1695183700, 1986661051, 2177026350, 2456956037, 2730485921, 2820302411, 3259730800, 3345764771, 3516065817, 3600352804, 4094571909, 275423344, 430227734, 506948616, 659060556, 883997877, 958139571, 1322822218, 1537002063, 1747873779, 1955562222, 2024104815, 2227730452, 2361852424, 2428436474, 2756734187, 3204031479, 3329325298] : List Int).getD (a).toNat 0) := by simp only [rw64, b, d, cond_true, cond_false]; try rfl
 rw [y]
 exact rfl

def i_Add32 (a : Int) (b : Int) : (Int) := ((a + b) % 4294967296)
theorem ciAdd32 (d : World) (a : Int) (b : Int) (g : 0 ≤ a) (h : a ≤ 1099511627776) (i : 0 ≤ b) (j : b ≤ 1099511627776) : Fn Try.prog 176 #[(vi a), (vi b)] d (fun v e => Keep d e ∧ O_3 e d.heap.size v (i_Add32 a b)) := by
 refine fn_ofS (n := 9) [(vi a), (vi b)] Try.func176 rfl rfl ?_
 refine sr ?_
 refine aw (vi 0) ?_
 refine nx ?_
 refine mw (vi a) ?_
 refine mw (vi b) ?_
 refine ar (a + b) wN ?_
 refine wl_and (a + b) 4294967295 4294967296 32 wN rfl rfl (by decide) (by decide) (by decide) (by kernel_rfl) ?_
 refine aw (vi ((a + b) % 4294967296)) ?_
 refine n3 ?_
 refine rt (vi ((a + b) % 4294967296)) ?_
 refine ⟨Ch.refl _ _, ?_⟩
 have f : i_Add32 a b = ((a + b) % 4294967296) := by rfl
 rw [f]
 exact rfl

theorem ciCompress (G : World) (av : Value) (i : List Int) (aK : R_32 G av i) (ax : Value) (p : List UInt8) (aL : R_22 G ax p)  : Fn Try.prog 171 #[av, ax] G (fun v K => Keep G K ∧ O_32 K G.heap.size v (compress i p)) := by
 obtain ⟨B, C, rfl, F, af⟩ := aK
 obtain ⟨X, Y, rfl, ay, aM⟩ := aL
 refine fn_ofS (n := 151) [(vs B i.length C), (vs X p.length Y)] Try.func171 rfl rfl ?_
 refine sr ?_
 refine aw (vs none 0 0) ?_
 refine nx ?_
 refine wl_lit0 wN rfl rfl slTy_32 (fun w => by kernel_rfl) ?_
 intro bT bU az aN
 have a0 := (Ch.base G).extk az
 refine mw (vs B i.length C) ?_
 refine ap0I i wN slTy_32 aN (F.from0 a0) az.size ?_
 intro I J a1 aO Q bW
 have ah := a0.extk aO
 refine aw (vs I i.length J) ?_
 refine n4 ?_
 refine jT1 [(0, (vs B i.length C)), (1, (vs X p.length Y)), (4, (vs none 0 0)), (5, (vs I i.length J))] (compress i p = i) ?_ fun a2 => ?_
 ·intro aP a3 a4 bX
  have aQ := ah.extk a4
  refine sr ?_
  refine mw (vs I i.length J) ?_
  refine aw (vs I i.length J) ?_
  refine n1 ?_
  have aR := (own_kp Q a4)
  refine rt (vs I i.length J) ?_
  refine ⟨aQ.keep0, ?_⟩
  rw [aP]
  exact ⟨_, _, rfl, aR, af, ⟨trivial, trivial⟩⟩
 refine mw (vs B i.length C) ?_
 refine cl wN (ciareWords a1 _ i (mR_32 (F.from0 ah) af) 8) ?_
 rintro _ a3 ⟨R, rfl⟩
 have ai := ah.extk R
 refine pu (vb (!(areW i 8))) wN ?_
 refine mw (vb (!(areW i 8))) ?_
 rcases bf (areW i 8) with L | L
 ·iterate 3 refine sk (cA not L) ?_
  refine pk (vb true) wN (cA not L) ?_
  refine n2 ?_
  refine ct (Eq.refl true) ?_
  have aS : compress i p = i := by first | exact compress_f (by first | assumption | exact ‹ws8 i = false›) | exact compress_g (by omega) | exact compress_t (by first | assumption | exact ‹ws8 i = true›) (by omega) (by omega)
  exact wj (a2 aS _ R)
 have bY := areW_t L
 refine mv (vs X p.length Y) (wS (cA not L)) ?_
 refine ln (wS (cA not L)) slTy_22 (ay.from0 ai) ?_
 refine pu (vb (!(decide ((p.length : Int) = 64)))) (wS (cA not L)) ?_
 refine pf (vb (!(decide ((p.length : Int) = 64)))) wN (cA not L) ?_
 refine n2 ?_
 rcases bf (decide ((p.length : Int) = 64)) with S | S
 ·have bZ := dF S
  refine ct (cA not S) ?_
  have aT : compress i p = i := by first | exact compress_f (by first | assumption | exact ‹ws8 i = false›) | exact compress_g (by omega) | exact compress_t (by first | assumption | exact ‹ws8 i = true›) (by omega) (by omega)
  exact wj (a2 aT _ R)
 have ca := dT S
 refine cf (cA not S) ?_
 refine y1 ?_
 refine mw (vs X p.length Y) ?_
 refine cl wN (ciSchedule a3 _ p (mR_22 (ay.from0 ai) aM)) ?_
 rintro _ a5 ⟨Z, ⟨O, P, rfl, aa, _⟩⟩
 have H := ai.extk Z
 have cb := schedP_len p
 refine aw (vs O (schedP p).length P) ?_
 refine wl_nil <| wq_then <| wc_seq ?_
 refine wc_draw ([(36, [], [], (fun _ v _ => v = (vs B i.length C))), (37, [], [0], (fun _ v _ => v = (ve (vs B i.length C) ((0 : Int).toNat * 1)))), (38, [], [0, 1], (fun _ v _ => v = (vi (i.getD 0 0)))), (39, [], [], (fun _ v _ => v = (vs B i.length C))), (40, [], [3], (fun _ v _ => v = (ve (vs B i.length C) ((1 : Int).toNat * 1)))), (41, [], [3, 4], (fun _ v _ => v = (vi (i.getD 1 0)))), (42, [], [], (fun _ v _ => v = (vs B i.length C))), (43, [], [6], (fun _ v _ => v = (ve (vs B i.length C) ((2 : Int).toNat * 1)))), (44, [], [6, 7], (fun _ v _ => v = (vi (i.getD 2 0)))), (45, [], [], (fun _ v _ => v = (vs B i.length C))), (46, [], [9], (fun _ v _ => v = (ve (vs B i.length C) ((3 : Int).toNat * 1)))), (47, [], [9, 10], (fun _ v _ => v = (vi (i.getD 3 0)))), (48, [], [], (fun _ v _ => v = (vs B i.length C))), (49, [], [12], (fun _ v _ => v = (ve (vs B i.length C) ((4 : Int).toNat * 1)))), (50, [], [12, 13], (fun _ v _ => v = (vi (i.getD 4 0)))), (51, [], [], (fun _ v _ => v = (vs B i.length C))), (52, [], [15], (fun _ v _ => v = (ve (vs B i.length C) ((5 : Int).toNat * 1)))), (53, [], [15, 16], (fun _ v _ => v = (vi (i.getD 5 0)))), (54, [], [], (fun _ v _ => v = (vs B i.length C))), (55, [], [18], (fun _ v _ => v = (ve (vs B i.length C) ((6 : Int).toNat * 1)))), (56, [], [18, 19], (fun _ v _ => v = (vi (i.getD 6 0)))), (57, [], [], (fun _ v _ => v = (vs B i.length C))), (58, [], [21], (fun _ v _ => v = (ve (vs B i.length C) ((7 : Int).toNat * 1)))), (59, [], [21, 22], (fun _ v _ => v = (vi (i.getD 7 0)))), (7, [], [0, 1, 2], (fun _ v _ => v = (vi (i.getD 0 0)))), (8, [], [0, 1, 2, 3, 4, 5, 24], (fun _ v _ => v = (vi (i.getD 1 0)))), (9, [], [0, 1, 2, 3, 4, 5, 6, 7, 8, 24, 25], (fun _ v _ => v = (vi (i.getD 2 0)))), (10, [], [0, 1, 2, 3, 4, 5, 6, 7, 8, 9, 10, 11, 24, 25, 26], (fun _ v _ => v = (vi (i.getD 3 0)))), (11, [], [0, 1, 2, 3, 4, 5, 6, 7, 8, 9, 10, 11, 12, 13, 14, 24, 25, 26, 27], (fun _ v _ => v = (vi (i.getD 4 0)))), (12, [], [0, 1, 2, 3, 4, 5, 6, 7, 8, 9, 10, 11, 12, 13, 14, 15, 16, 17, 24, 25, 26, 27, 28], (fun _ v _ => v = (vi (i.getD 5 0)))), (13, [], [0, 1, 2, 3, 4, 5, 6, 7, 8, 9, 10, 11, 12, 13, 14, 15, 16, 17, 18, 19, 20, 24, 25, 26, 27, 28, 29], (fun _ v _ => v = (vi (i.getD 6 0))))] : GV) mixed rfl (by kernel_rfl) (by kernel_rfl) ?_ ?_ ?_
 ·exact ⟨hV, hE, ⟨hV, hE, ⟨hV, hE, ⟨hV, hE, ⟨hV, hE, ⟨hV, hE, ⟨hV, hE, ⟨hV, hE, ⟨hV, hE, ⟨hV, hE, ⟨hV, hE, ⟨hV, hE, ⟨hV, hE, ⟨hV, hE, ⟨hV, hE, ⟨hV, hE, ⟨hV, hE, ⟨hV, hE, ⟨hV, hE, ⟨hV, hE, ⟨hV, hE, ⟨hV, hE, ⟨hV, hE, ⟨hV, hE, ⟨hV, hE, ⟨hV, hE, ⟨hV, hE, ⟨hV, hE, ⟨hV, hE, ⟨hV, hE, ⟨hV, hE, trivial⟩⟩⟩⟩⟩⟩⟩⟩⟩⟩⟩⟩⟩⟩⟩⟩⟩⟩⟩⟩⟩⟩⟩⟩⟩⟩⟩⟩⟩⟩⟩
 ·refine ⟨?_, ⟨?_, ⟨?_, ⟨?_, ⟨?_, ⟨?_, ⟨?_, ⟨?_, ⟨?_, ⟨?_, ⟨?_, ⟨?_, ⟨?_, ⟨?_, ⟨?_, ⟨?_, ⟨?_, ⟨?_, ⟨?_, ⟨?_, ⟨?_, ⟨?_, ⟨?_, ⟨?_, ⟨?_, ⟨?_, ⟨?_, ⟨?_, ⟨?_, ⟨?_, ⟨?_, trivial⟩⟩⟩⟩⟩⟩⟩⟩⟩⟩⟩⟩⟩⟩⟩⟩⟩⟩⟩⟩⟩⟩⟩⟩⟩⟩⟩⟩⟩⟩⟩
  ·intro A cc
   rintro _ _ _ _ _ _ _ _ _ _ _ _ _ _ _ _ _ _ _ _ _ _ _ _ _ _ _ _ _ _ _
   show WL _ _ _ _ _ _ _
   refine mw (vs B i.length C) ?_
   exact f2
  ·intro A aU
   have aV := H.extk aU
   rintro _ rfl _ _ _ _ _ _ _ _ _ _ _ _ _ _ _ _ _ _ _ _ _ _ _ _ _ _ _ _ _ _
   show WL _ _ _ _ _ _ _
   refine ix wN 0 slTy_32 (F.from0 aV) ?_
   exact f2
  ·intro A aW
   have aX := H.extk aW
   rintro _ rfl _ rfl _ _ _ _ _ _ _ _ _ _ _ _ _ _ _ _ _ _ _ _ _ _ _ _ _ _ _ _ _
   show WL _ _ _ _ _ _ _
   refine ei (x := i) 0 wN isAgg_3 (F.from0 aX) ?_
   exact f2
  ·intro A cd
   rintro _ _ _ _ _ _ _ _ _ _ _ _ _ _ _ _ _ _ _ _ _ _ _ _ _ _ _ _ _ _ _
   show WL _ _ _ _ _ _ _
   refine mw (vs B i.length C) ?_
   exact f2
  ·intro A aY
   have aZ := H.extk aY
   rintro _ _ _ _ rfl _ _ _ _ _ _ _ _ _ _ _ _ _ _ _ _ _ _ _ _ _ _ _ _ _ _ _
   show WL _ _ _ _ _ _ _
   refine ix wN 1 slTy_32 (F.from0 aZ) ?_
   exact f2
  ·intro A ba
   have bb := H.extk ba
   rintro _ _ _ _ rfl _ rfl _ _ _ _ _ _ _ _ _ _ _ _ _ _ _ _ _ _ _ _ _ _ _ _ _ _
   show WL _ _ _ _ _ _ _
   refine ei (x := i) 1 wN isAgg_3 (F.from0 bb) ?_
   exact f2
  ·intro A ce
   rintro _ _ _ _ _ _ _ _ _ _ _ _ _ _ _ _ _ _ _ _ _ _ _ _ _ _ _ _ _ _ _
   show WL _ _ _ _ _ _ _
   refine mw (vs B i.length C) ?_
   exact f2
  ·intro A bc
   have bd := H.extk bc
   rintro _ _ _ _ _ _ _ rfl _ _ _ _ _ _ _ _ _ _ _ _ _ _ _ _ _ _ _ _ _ _ _ _
   show WL _ _ _ _ _ _ _
   refine ix wN 2 slTy_32 (F.from0 bd) ?_
   exact f2
  ·intro A be
   have bg := H.extk be
   rintro _ _ _ _ _ _ _ rfl _ rfl _ _ _ _ _ _ _ _ _ _ _ _ _ _ _ _ _ _ _ _ _ _ _
   show WL _ _ _ _ _ _ _
   refine ei (x := i) 2 wN isAgg_3 (F.from0 bg) ?_
   exact f2
  ·intro A cg
   rintro _ _ _ _ _ _ _ _ _ _ _ _ _ _ _ _ _ _ _ _ _ _ _ _ _ _ _ _ _ _ _
   show WL _ _ _ _ _ _ _
   refine mw (vs B i.length C) ?_
   exact f2
  ·intro A bh
   have bi := H.extk bh
   rintro _ _ _ _ _ _ _ _ _ _ rfl _ _ _ _ _ _ _ _ _ _ _ _ _ _ _ _ _ _ _ _ _
   show WL _ _ _ _ _ _ _
   refine ix wN 3 slTy_32 (F.from0 bi) ?_
   exact f2
  ·intro A bj
   have bk := H.extk bj
   rintro _ _ _ _ _ _ _ _ _ _ rfl _ rfl _ _ _ _ _ _ _ _ _ _ _ _ _ _ _ _ _ _ _ _
   show WL _ _ _ _ _ _ _
   refine ei (x := i) 3 wN isAgg_3 (F.from0 bk) ?_
   exact f2
  ·intro A ci
   rintro _ _ _ _ _ _ _ _ _ _ _ _ _ _ _ _ _ _ _ _ _ _ _ _ _ _ _ _ _ _ _
   show WL _ _ _ _ _ _ _
   refine mw (vs B i.length C) ?_
   exact f2
  ·intro A bl
   have bm := H.extk bl
   rintro _ _ _ _ _ _ _ _ _ _ _ _ _ rfl _ _ _ _ _ _ _ _ _ _ _ _ _ _ _ _ _ _
   show WL _ _ _ _ _ _ _
   refine ix wN 4 slTy_32 (F.from0 bm) ?_
   exact f2
  ·intro A bn
   have bo := H.extk bn
   rintro _ _ _ _ _ _ _ _ _ _ _ _ _ rfl _ rfl _ _ _ _ _ _ _ _ _ _ _ _ _ _ _ _ _
   show WL _ _ _ _ _ _ _
   refine ei (x := i) 4 wN isAgg_3 (F.from0 bo) ?_
   exact f2
  ·intro A cj
   rintro _ _ _ _ _ _ _ _ _ _ _ _ _ _ _ _ _ _ _ _ _ _ _ _ _ _ _ _ _ _ _
   show WL _ _ _ _ _ _ _
   refine mw (vs B i.length C) ?_
   exact f2
  ·intro A bp
   have bq := H.extk bp
   rintro _ _ _ _ _ _ _ _ _ _ _ _ _ _ _ _ rfl _ _ _ _ _ _ _ _ _ _ _ _ _ _ _
   show WL _ _ _ _ _ _ _
   refine ix wN 5 slTy_32 (F.from0 bq) ?_
   exact f2
  ·intro A br
   have bu := H.extk br
   rintro _ _ _ _ _ _ _ _ _ _ _ _ _ _ _ _ rfl _ rfl _ _ _ _ _ _ _ _ _ _ _ _ _ _
   show WL _ _ _ _ _ _ _
   refine ei (x := i) 5 wN isAgg_3 (F.from0 bu) ?_
   exact f2
  ·intro A ck
   rintro _ _ _ _ _ _ _ _ _ _ _ _ _ _ _ _ _ _ _ _ _ _ _ _ _ _ _ _ _ _ _
   show WL _ _ _ _ _ _ _
   refine mw (vs B i.length C) ?_
   exact f2
  ·intro A bv
   have bw := H.extk bv
   rintro _ _ _ _ _ _ _ _ _ _ _ _ _ _ _ _ _ _ _ rfl _ _ _ _ _ _ _ _ _ _ _ _
   show WL _ _ _ _ _ _ _
   refine ix wN 6 slTy_32 (F.from0 bw) ?_
   exact f2
  ·intro A bz
   have b0 := H.extk bz
   rintro _ _ _ _ _ _ _ _ _ _ _ _ _ _ _ _ _ _ _ rfl _ rfl _ _ _ _ _ _ _ _ _ _ _
   show WL _ _ _ _ _ _ _
   refine ei (x := i) 6 wN isAgg_3 (F.from0 b0) ?_
   exact f2
  ·intro A cm
   rintro _ _ _ _ _ _ _ _ _ _ _ _ _ _ _ _ _ _ _ _ _ _ _ _ _ _ _ _ _ _ _
   show WL _ _ _ _ _ _ _
   refine mw (vs B i.length C) ?_
   exact f2
  ·intro A b1
   have b2 := H.extk b1
   rintro _ _ _ _ _ _ _ _ _ _ _ _ _ _ _ _ _ _ _ _ _ _ rfl _ _ _ _ _ _ _ _ _
   show WL _ _ _ _ _ _ _
   refine ix wN 7 slTy_32 (F.from0 b2) ?_
   exact f2
  ·intro A b3
   have b4 := H.extk b3
   rintro _ _ _ _ _ _ _ _ _ _ _ _ _ _ _ _ _ _ _ _ _ _ rfl _ rfl _ _ _ _ _ _ _ _
   show WL _ _ _ _ _ _ _
   refine ei (x := i) 7 wN isAgg_3 (F.from0 b4) ?_
   exact f2
  ·intro A cn
   rintro _ rfl _ rfl _ rfl _ _ _ _ _ _ _ _ _ _ _ _ _ _ _ _ _ _ _ _ _ _ _ _ _ _ _ _
   show WL _ _ _ _ _ _ _
   refine aw (vi (i.getD 0 0)) ?_
   exact f2
  ·intro A co
   rintro _ rfl _ rfl _ rfl _ rfl _ rfl _ rfl _ _ _ _ _ _ _ _ _ _ _ _ _ _ _ _ _ _ _ rfl _ _ _ _ _ _
   show WL _ _ _ _ _ _ _
   refine aw (vi (i.getD 1 0)) ?_
   exact f2
  ·intro A cp
   rintro _ rfl _ rfl _ rfl _ rfl _ rfl _ rfl _ rfl _ rfl _ rfl _ _ _ _ _ _ _ _ _ _ _ _ _ _ _ _ rfl _ rfl _ _ _ _ _
   show WL _ _ _ _ _ _ _
   refine aw (vi (i.getD 2 0)) ?_
   exact f2
  ·intro A cq
   rintro _ rfl _ rfl _ rfl _ rfl _ rfl _ rfl _ rfl _ rfl _ rfl _ rfl _ rfl _ rfl _ _ _ _ _ _ _ _ _ _ _ _ _ rfl _ rfl _ rfl _ _ _ _
   show WL _ _ _ _ _ _ _
   refine aw (vi (i.getD 3 0)) ?_
   exact f2
  ·intro A cr
   rintro _ rfl _ rfl _ rfl _ rfl _ rfl _ rfl _ rfl _ rfl _ rfl _ rfl _ rfl _ rfl _ rfl _ rfl _ rfl _ _ _ _ _ _ _ _ _ _ rfl _ rfl _ rfl _ rfl _ _ _
   show WL _ _ _ _ _ _ _
   refine aw (vi (i.getD 4 0)) ?_
   exact f2
  ·intro A cs
   rintro _ rfl _ rfl _ rfl _ rfl _ rfl _ rfl _ rfl _ rfl _ rfl _ rfl _ rfl _ rfl _ rfl _ rfl _ rfl _ rfl _ rfl _ rfl _ _ _ _ _ _ _ rfl _ rfl _ rfl _ rfl _ rfl _ _
   show WL _ _ _ _ _ _ _
   refine aw (vi (i.getD 5 0)) ?_
   exact f2
  ·intro A cu
   rintro _ rfl _ rfl _ rfl _ rfl _ rfl _ rfl _ rfl _ rfl _ rfl _ rfl _ rfl _ rfl _ rfl _ rfl _ rfl _ rfl _ rfl _ rfl _ rfl _ rfl _ rfl _ _ _ _ rfl _ rfl _ rfl _ rfl _ rfl _ rfl _
   show WL _ _ _ _ _ _ _
   refine aw (vi (i.getD 6 0)) ?_
   exact f2
 ·intro A M
  have b5 := H.extk M
  rintro _ rfl _ rfl _ rfl _ rfl _ rfl _ rfl _ rfl _ rfl _ rfl _ rfl _ rfl _ rfl _ rfl _ rfl _ rfl _ rfl _ rfl _ rfl _ rfl _ rfl _ rfl _ rfl _ rfl _ rfl _ rfl _ rfl _ rfl _ rfl _ rfl _ rfl _ rfl
  show WL _ _ _ _ _ _ _
  refine aw (vi (i.getD 7 0)) ?_
  refine n4 ?_
  refine aw (vi 0) ?_
  refine wl_nil <| wq_then <| wc_block ?_
  refine wc_loopP [(0, (vs B i.length C)), (4, (vs none 0 0)), (5, (vs I i.length J)), (6, (vs O (schedP p).length P)), (7, (vi ((cmpN (schedP p) (s8of i) 0).a))), (8, (vi ((cmpN (schedP p) (s8of i) 0).b))), (9, (vi ((cmpN (schedP p) (s8of i) 0).c))), (10, (vi ((cmpN (schedP p) (s8of i) 0).d))), (11, (vi ((cmpN (schedP p) (s8of i) 0).e))), (12, (vi ((cmpN (schedP p) (s8of i) 0).f))), (13, (vi ((cmpN (schedP p) (s8of i) 0).g))), (14, (vi ((cmpN (schedP p) (s8of i) 0).z))), (15, (vi ((0 : Nat) : Int)))] ⟨rfl, rfl, rfl, rfl, (cA (Value.int .i64) (show ((i.getD 0 0) : Int) = (cmpN (schedP p) (s8of i) 0).a by rfl)), (cA (Value.int .i64) (show ((i.getD 1 0) : Int) = (cmpN (schedP p) (s8of i) 0).b by rfl)), (cA (Value.int .i64) (show ((i.getD 2 0) : Int) = (cmpN (schedP p) (s8of i) 0).c by rfl)), (cA (Value.int .i64) (show ((i.getD 3 0) : Int) = (cmpN (schedP p) (s8of i) 0).d by rfl)), (cA (Value.int .i64) (show ((i.getD 4 0) : Int) = (cmpN (schedP p) (s8of i) 0).e by rfl)), (cA (Value.int .i64) (show ((i.getD 5 0) : Int) = (cmpN (schedP p) (s8of i) 0).f by rfl)), (cA (Value.int .i64) (show ((i.getD 6 0) : Int) = (cmpN (schedP p) (s8of i) 0).g by rfl)), (cA (Value.int .i64) (show ((i.getD 7 0) : Int) = (cmpN (schedP p) (s8of i) 0).z by rfl)), (cA (Value.int .i64) (show (0 : Int) = ((0 : Nat) : Int) by omega)), trivial⟩ (fun e' K => ∃ (k : Nat) (o : Int) (q : Int) (r : Int) (D : Int) (j : Int) (s : Int) (t : Int) (y : Int) (a6 : Env), e' = pt a6 [(0, (vs B i.length C)), (4, (vs none 0 0)), (5, (vs I i.length J)), (6, (vs O (schedP p).length P)), (7, (vi o)), (8, (vi q)), (9, (vi r)), (10, (vi D)), (11, (vi j)), (12, (vi s)), (13, (vi t)), (14, (vi y)), (15, (vi ((k : Nat) : Int)))] ∧ Ch (fun k => G.heap.size ≤ k) G K ∧ Ch (fun k => A.heap.size ≤ k) A K ∧ k ≤ 64 ∧ o = (cmpN (schedP p) (s8of i) k).a ∧ q = (cmpN (schedP p) (s8of i) k).b ∧ r = (cmpN (schedP p) (s8of i) k).c ∧ D = (cmpN (schedP p) (s8of i) k).d ∧ j = (cmpN (schedP p) (s8of i) k).e ∧ s = (cmpN (schedP p) (s8of i) k).f ∧ t = (cmpN (schedP p) (s8of i) k).g ∧ y = (cmpN (schedP p) (s8of i) k).z) (fun e' _ => (64 - (intOf (e' 15))).toNat) ?_ ?_
  ·exact fun u => ⟨0, (cmpN (schedP p) (s8of i) 0).a, (cmpN (schedP p) (s8of i) 0).b, (cmpN (schedP p) (s8of i) 0).c, (cmpN (schedP p) (s8of i) 0).d, (cmpN (schedP p) (s8of i) 0).e, (cmpN (schedP p) (s8of i) 0).f, (cmpN (schedP p) (s8of i) 0).g, (cmpN (schedP p) (s8of i) 0).z, u, rfl, b5, (Ch.refl (fun k => A.heap.size ≤ k) A), (by omega), (by first | rfl | assumption), (by first | rfl | assumption), (by first | rfl | assumption), (by first | rfl | assumption), (by first | rfl | assumption), (by first | rfl | assumption), (by first | rfl | assumption), (by first | rfl | assumption)⟩
  ·rintro _ aj ⟨k, o, q, r, D, j, s, t, y, a6, rfl, a7, T, cv, hi_a, hi_b, hi_c, hi_d, hi_e, hi_f, hi_g, hi_z⟩
   obtain ⟨zw, hzw⟩ : ∃ z, (schedP p).getD k 0 = z := ⟨_, rfl⟩
   have hwd : 0 ≤ zw ∧ zw < 4294967296 := hzw ▸ wget (schedP_w p) k
   obtain ⟨zk, hzk⟩ : ∃ z, kw.getD k 0 = z := ⟨_, rfl⟩
   have hkw : 0 ≤ zk ∧ zk < 4294967296 := hzk ▸ wget kw_w k
   have hkl : kw.length = 64 := rfl
   have hok := cmpN_ok (w := schedP p) (s8of_ok (areW_t (by first | assumption | exact ‹ws8 i = true›)).1) k
   unfold S8.ok at hok
   rw [← hi_a, ← hi_b, ← hi_c, ← hi_d, ← hi_e, ← hi_f, ← hi_g, ← hi_z] at hok
   refine wc_seq <| sr ?_
   refine mw (vi ((k : Nat) : Int)) ?_
   refine pu (vb (decide (((k : Nat) : Int) < 64))) wN ?_
   refine n2 ?_
   rcases bf (decide (((k : Nat) : Int) < 64)) with V | V
   ·have cw := dF V
    refine cf V ?_
    refine wc_exit <| wq_then_exit ?_
    obtain rfl : k = 64 := by omega
    refine wq_then_exit <| wq_blk_exit <| wq_then <| wc_seq <| sr ?_
    refine mw (vi o) ?_
    refine mw (vi q) ?_
    refine mw (vi r) ?_
    refine mw (vi D) ?_
    refine mw (vi j) ?_
    refine mw (vi s) ?_
    refine mw (vi t) ?_
    refine mw (vi y) ?_
    refine ltI ([o, q, r, D, j, s, t, y] : List Int) wN slTy_32 ?_
    intro ab ac E a8 ak
    have b6 := a7.extk a8
    refine ln wN slTy_32 (Rd.of_own ak) ?_
    refine mw (vi 0) ?_
    refine wl_nil <| wq_then <| wc_block ?_
    have b7 := (own_kp (own_ch (own_kp (own_kp (own_kp Q R) Z) M) T (fun g hg hlt hk => by have am := (own_lt Q g hg).2; have an : a1.heap.size ≤ A.heap.size := (z3 R Z M); have ao : A.heap.size ≤ g := hk; omega)) a8)
    have b8 : (i : List Int) = (addL i (S8.list (cmpN (schedP p) (s8of i) 64))).take 0 ++ i.drop 0 := by first | rfl | simp
    have b9 : (([o, q, r, D, j, s, t, y] : List Int) : List Int) = ([o, q, r, D, j, s, t, y] : List Int) := by first | rfl | simp
    refine wc_loopP [(0, (vs B i.length C)), (4, (vs none 0 0)), (5, (vs I i.length J)), (133, (vs ab ([o, q, r, D, j, s, t, y] : List Int).length ac)), (134, (vi (([o, q, r, D, j, s, t, y] : List Int).length : Int))), (135, (vi ((0 : Nat) : Int)))] ⟨rfl, rfl, rfl, rfl, rfl, (cA (Value.int .i64) (show (0 : Int) = ((0 : Nat) : Int) by omega)), trivial⟩ (fun e' K => ∃ (m : Nat) (a9 : Env), e' = pt a9 [(0, (vs B i.length C)), (4, (vs none 0 0)), (5, (vs I i.length J)), (133, (vs ab ([o, q, r, D, j, s, t, y] : List Int).length ac)), (134, (vi (([o, q, r, D, j, s, t, y] : List Int).length : Int))), (135, (vi ((m : Nat) : Int)))] ∧ Ch (fun k => G.heap.size ≤ k) G K ∧ Ch (fun k => G.heap.size ≤ k) E K ∧ m ≤ 8 ∧ World.ownsRow K G.heap.size 3 1 (.slice I i.length J) i.length (((addL i (S8.list (cmpN (schedP p) (s8of i) 64))).take m ++ i.drop m).map iV) ∧ World.ownsRow K aj.heap.size 3 1 (.slice ab ([o, q, r, D, j, s, t, y] : List Int).length ac) ([o, q, r, D, j, s, t, y] : List Int).length ((([o, q, r, D, j, s, t, y] : List Int)).map iV)) (fun e' _ => (8 - (intOf (e' 135))).toNat) ?_ ?_
    ·exact fun u => ⟨0, u, rfl, b6, (Ch.refl (fun k => G.heap.size ≤ k) E), (by omega), (by rw [← b8]; exact b7), (by rw [← b9]; exact ak)⟩
    ·rintro _ N ⟨m, a9, rfl, ad, bA, cx, ap, aq⟩
     have hlL : ([o, q, r, D, j, s, t, y] : List Int).length = 8 := rfl
     have hll : (addL i (S8.list (cmpN (schedP p) (s8of i) 64))).length = 8 := addL_len (by omega) rfl
     have cy : (i.length : Int) = 8 := (areW_t (by first | assumption | exact ‹ws8 i = true›)).2
     have cz := wget (areW_t (by first | assumption | exact ‹ws8 i = true›)).1 m
     have hle : ([o, q, r, D, j, s, t, y] : List Int) = (S8.list (cmpN (schedP p) (s8of i) 64)) := by rw [hi_a, hi_b, hi_c, hi_d, hi_e, hi_f, hi_g, hi_z]; rfl
     have c0 : 0 ≤ ([o, q, r, D, j, s, t, y] : List Int).getD m 0 ∧ ([o, q, r, D, j, s, t, y] : List Int).getD m 0 < 4294967296 := hle ▸ wget (s8l_w (cmpN_ok (w := schedP p) (s8of_ok (areW_t (by first | assumption | exact ‹ws8 i = true›)).1) 64)) m
     refine sr ?_
     refine pu (vb (decide (((m : Nat) : Int) < (([o, q, r, D, j, s, t, y] : List Int).length : Int)))) wN ?_
     refine wl_nil <| wq_then <| wc_seq ?_
     rcases bf (decide (((m : Nat) : Int) < (([o, q, r, D, j, s, t, y] : List Int).length : Int))) with W | W
     ·have c1 := dF W
      refine cf W ?_
      refine wc_exit <| wq_then_exit <| wq_then_exit <| wq_blk_exit <| wq_then <| sr ?_
      refine mw (vs I i.length J) ?_
      refine aw (vs I i.length J) ?_
      refine n3 ?_
      refine rt (vs I i.length J) ?_
      refine ⟨ad.keep0, ?_⟩
      have bB : compress i p = ((addL i (S8.list (cmpN (schedP p) (s8of i) 64))).take m ++ i.drop m) := by first | exact compress_f (by first | assumption | exact ‹ws8 i = false›) | exact compress_g (by omega) | exact compress_t (by first | assumption | exact ‹ws8 i = true›) (by omega) (by omega)
      rw [bB]
      have aA : i.length = (((addL i (S8.list (cmpN (schedP p) (s8of i) 64))).take m ++ i.drop m)).length := by simp only [List.length_append, List.length_take, List.length_drop]; omega
      rw [aA] at ap ⊢
      exact ⟨_, _, rfl, ap, (by rw [← aA]; exact af), ⟨trivial, trivial⟩⟩
     have c2 := dT W
     refine ct W ?_
     refine wc_skip <| wq_then <| wc_seq <| wc_block <| sr ?_
     refine mw (vi ((m : Nat) : Int)) ?_
     refine ix wN ((m : Nat) : Int) slTy_32 (Rd.of_own aq) ?_
     refine ei (x := (([o, q, r, D, j, s, t, y] : List Int))) m wN isAgg_3 (Rd.of_own aq) ?_
     refine aw (vi ((m : Nat) : Int)) ?_
     refine aw (vi ((([o, q, r, D, j, s, t, y] : List Int)).getD m 0)) ?_
     refine wl_nil <| wq_then <| wc_region ?_
     refine mw (vs I i.length J) ?_
     refine mw (vi ((m : Nat) : Int)) ?_
     refine mw (vs B i.length C) ?_
     refine mw (vi ((m : Nat) : Int)) ?_
     refine ix wN ((m : Nat) : Int) slTy_32 (F.from0 ad) ?_
     refine ei (x := i) m wN isAgg_3 (F.from0 ad) ?_
     refine mw (vi ((([o, q, r, D, j, s, t, y] : List Int)).getD m 0)) ?_
     refine cl wN (ciAdd32 N (i.getD m 0) ((([o, q, r, D, j, s, t, y] : List Int)).getD m 0) (by omega) (by omega) (by omega) (by omega)) ?_
     rintro _ aB ⟨ae, rfl⟩
     have aC := (own_kp ap ae)
     refine ix wN ((m : Nat) : Int) slTy_32 (Rd.of_own aC) ?_
     refine wl_storeI ((addL i (S8.list (cmpN (schedP p) (s8of i) 64))).take m ++ i.drop m) (m) ((i_Add32 (i.getD m 0) ((([o, q, r, D, j, s, t, y] : List Int)).getD m 0))) wN rfl rfl rfl (by simp) rfl sizeOf_3 aC (by first | omega | (simp only [List.length_append, List.length_take, List.length_drop]; omega)) ?_
     intro aD au bC
     have bD := (ad.extk ae).ext au (fun k hk => nT (Nat.le_refl G.heap.size) (own_lt Q k hk).1)
     refine wl_nil <| wq_blk_normal <| wq_then <| wc_region ?_
     refine ar (((m : Nat) : Int) + 1) wN ?_
     refine mw (vi (((m : Nat) : Int) + 1)) ?_
     refine wl_nil ?_
     have bE : ((((addL i (S8.list (cmpN (schedP p) (s8of i) 64))).take m ++ i.drop m).set m (i_Add32 (i.getD m 0) ((([o, q, r, D, j, s, t, y] : List Int)).getD m 0))) : List Int) = (addL i (S8.list (cmpN (schedP p) (s8of i) 64))).take (m + 1) ++ i.drop (m + 1) := by first | rfl | (rw [hle]; exact addL_next (l := (S8.list (cmpN (schedP p) (s8of i) 64))) (by omega) (by show i.length = 8; omega))
     have bF := (own_ch (own_kp aq ae) au (fun g hg hlt hk => by have am := (own_lt ak g hg).1; have an := (own_lt Q g hk).2; have ao := (z4 R Z M T); omega))
     have bG : ((([o, q, r, D, j, s, t, y] : List Int)) : List Int) = ([o, q, r, D, j, s, t, y] : List Int) := by first | rfl | (rw [hle]; exact addL_next (l := (S8.list (cmpN (schedP p) (s8of i) 64))) (by omega) (by show i.length = 8; omega))
     refine wq_loopP (w0 := N) [(0, (vs B i.length C)), (4, (vs none 0 0)), (5, (vs I i.length J)), (133, (vs ab ([o, q, r, D, j, s, t, y] : List Int).length ac)), (134, (vi (([o, q, r, D, j, s, t, y] : List Int).length : Int))), (135, (vi (((m + 1) : Nat) : Int)))] ?_ ?_ ?_
     · exact ⟨rfl, rfl, rfl, rfl, rfl, (cA (Value.int .i64) (show ((((m : Nat) : Int) + 1) : Int) = (((m + 1) : Nat) : Int) by omega)), trivial⟩
     · exact fun u => ⟨(m + 1), u, rfl, bD, ((((Ch.refl (fun k => G.heap.size ≤ k) E).ext bA (fun k hk => hk)).extk ae).ext au (fun k hk => nT (Nat.le_refl G.heap.size) (own_lt Q k hk).1)), (by omega), (by rw [← bE]; exact bC), (by rw [← bG]; exact bF)⟩
     · show (8 - (((m + 1) : Nat) : Int)).toNat < (8 - ((m : Nat) : Int)).toNat; omega
   have c3 := dT V
   refine ct V ?_
   refine wc_skip <| wq_then <| wc_seq <| wc_block <| sr ?_
   refine mw (vi j) ?_
   refine mw (vi s) ?_
   refine wl_andG j s wN rfl rfl (by kernel_rfl) (by omega) (by omega) (by omega) (by omega) ?_
   have c4 := andI_b (a := j) (b := s) (by omega)
   refine mw (vi j) ?_
   refine wl_xor 4294967295 j wN rfl rfl (by kernel_rfl) (by omega) (by omega) (by omega) (by omega) ?_
   have c5 := xorI_b (a := 4294967295) (b := j) (by omega) (by omega)
   refine mw (vi t) ?_
   refine wl_andG (xorI 4294967295 j) t wN rfl rfl (by kernel_rfl) (by omega) (by omega) (by omega) (by omega) ?_
   have c6 := andI_b (a := (xorI 4294967295 j)) (b := t) (by omega)
   refine wl_xor (andI j s) (andI (xorI 4294967295 j) t) wN rfl rfl (by kernel_rfl) (by omega) (by omega) (by omega) (by omega) ?_
   have c7 := xorI_b (a := (andI j s)) (b := (andI (xorI 4294967295 j) t)) (by omega) (by omega)
   refine aw (vi (xorI (andI j s) (andI (xorI 4294967295 j) t))) ?_
   refine nx ?_
   refine mw (vi o) ?_
   refine mw (vi q) ?_
   refine wl_andG o q wN rfl rfl (by kernel_rfl) (by omega) (by omega) (by omega) (by omega) ?_
   have c8 := andI_b (a := o) (b := q) (by omega)
   refine mw (vi o) ?_
   refine mw (vi r) ?_
   refine wl_andG o r wN rfl rfl (by kernel_rfl) (by omega) (by omega) (by omega) (by omega) ?_
   have c9 := andI_b (a := o) (b := r) (by omega)
   refine wl_xor (andI o q) (andI o r) wN rfl rfl (by kernel_rfl) (by omega) (by omega) (by omega) (by omega) ?_
   have cC := xorI_b (a := (andI o q)) (b := (andI o r)) (by omega) (by omega)
   refine mw (vi q) ?_
   refine mw (vi r) ?_
   refine wl_andG q r wN rfl rfl (by kernel_rfl) (by omega) (by omega) (by omega) (by omega) ?_
   have cD := andI_b (a := q) (b := r) (by omega)
   refine wl_xor (xorI (andI o q) (andI o r)) (andI q r) wN rfl rfl (by kernel_rfl) (by omega) (by omega) (by omega) (by omega) ?_
   have cE := xorI_b (a := (xorI (andI o q) (andI o r))) (b := (andI q r)) (by omega) (by omega)
   refine aw (vi (xorI (xorI (andI o q) (andI o r)) (andI q r))) ?_
   refine wl_nil <| wq_then <| wc_seq ?_
   refine wc_drawT ([(83, [], [], (fun _ v _ => v = (vi y))), (84, [], [], (fun _ v _ => v = (vi j))), (85, [], [1], (fun _ v w => v = .int .i64 (rot j 6))), (86, [], [], (fun _ v _ => v = (vi j))), (87, [], [1, 2, 3], (fun _ v w => v = .int .i64 (rot j 11))), (88, [], [1, 2, 3, 4], (fun _ v _ => v = (vi (xorI (rot j 6) (rot j 11))))), (89, [], [], (fun _ v _ => v = (vi j))), (90, [], [1, 2, 3, 4, 6], (fun _ v w => v = .int .i64 (rot j 25))), (91, [], [1, 2, 3, 4, 5, 6, 7], (fun _ v _ => v = (vi (xorI (xorI (rot j 6) (rot j 11)) (rot j 25))))), (92, [], [0, 1, 2, 3, 4, 5, 6, 7, 8], (fun _ v _ => v = (vi (y + (xorI (xorI (rot j 6) (rot j 11)) (rot j 25)))))), (93, [], [], (fun _ v _ => v = (vi (xorI (andI j s) (andI (xorI 4294967295 j) t))))), (94, [], [0, 1, 2, 3, 4, 5, 6, 7, 8, 9, 10], (fun _ v _ => v = (vi ((y + (xorI (xorI (rot j 6) (rot j 11)) (rot j 25))) + (xorI (andI j s) (andI (xorI 4294967295 j) t)))))), (95, [], [], (fun _ v _ => v = (vi ((k : Nat) : Int)))), (96, [], [1, 2, 3, 4, 6, 7, 12], (fun _ v w => v = .int .i64 (rw64 ((k : Nat) : Int)))), (97, [], [0, 1, 2, 3, 4, 5, 6, 7, 8, 9, 10, 11, 12, 13], (fun _ v _ => v = (vi (((y + (xorI (xorI (rot j 6) (rot j 11)) (rot j 25))) + (xorI (andI j s) (andI (xorI 4294967295 j) t))) + (rw64 ((k : Nat) : Int)))))), (98, [], [], (fun _ v _ => v = (vs O (schedP p).length P))), (99, [], [], (fun _ v _ => v = (vi ((k : Nat) : Int)))), (100, [], [15, 16], (fun _ v _ => v = (ve (vs O (schedP p).length P) ((((k : Nat) : Int)).toNat * 1)))), (101, [], [15, 16, 17], (fun _ v _ => v = (vi zw)))] : GV) (fun _ K => Keep aj K) [] mixed rfl (by kernel_rfl) (by kernel_rfl) ?_ (fun _ _ h => h) (fun _ _ _ _ h _ k => h.trans k) trivial ?_ ?_ ?_
   ·exact ⟨hV, hE, ⟨hV, hE, ⟨hV, hE, ⟨hV, hE, ⟨hV, hE, ⟨hV, hE, ⟨hV, hE, ⟨hV, hE, ⟨hV, hE, ⟨hV, hE, ⟨hV, hE, ⟨hV, hE, ⟨hV, hE, ⟨hV, hE, ⟨hV, hE, ⟨hV, hE, ⟨hV, hE, ⟨hV, hE, ⟨hV, hE, trivial⟩⟩⟩⟩⟩⟩⟩⟩⟩⟩⟩⟩⟩⟩⟩⟩⟩⟩⟩
   ·exact trivial
   ·refine ⟨?_, ⟨?_, ⟨?_, ⟨?_, ⟨?_, ⟨?_, ⟨?_, ⟨?_, ⟨?_, ⟨?_, ⟨?_, ⟨?_, ⟨?_, ⟨?_, ⟨?_, ⟨?_, ⟨?_, ⟨?_, ⟨?_, trivial⟩⟩⟩⟩⟩⟩⟩⟩⟩⟩⟩⟩⟩⟩⟩⟩⟩⟩⟩
    ·intro _ E cF _
     rintro _ _ _ _ _ _ _ _ _ _ _ _ _ _ _ _ _ _ _
     show WL _ _ _ _ _ _ _
     refine mw (vi y) ?_
     exact f1
    ·intro _ E cG _
     rintro _ _ _ _ _ _ _ _ _ _ _ _ _ _ _ _ _ _ _
     show WL _ _ _ _ _ _ _
     refine mw (vi j) ?_
     exact f1
    ·intro _ E cH _
     rintro _ _ rfl _ _ _ _ _ _ _ _ _ _ _ _ _ _ _ _ _
     show WL _ _ _ _ _ _ _
     refine cl wN (ciRot E j 6 (by omega) (by omega)) ?_
     rintro _ N ⟨bH, rfl⟩
     have cI := rot_b j 6
     exact wl_finT bH rfl
    ·intro _ E cJ _
     rintro _ _ _ _ _ _ _ _ _ _ _ _ _ _ _ _ _ _ _
     show WL _ _ _ _ _ _ _
     refine mw (vi j) ?_
     exact f1
    ·intro _ E cK _
     rintro _ _ rfl _ rfl
     have cL := rot_b j 6
     rintro _ rfl _ _ _ _ _ _ _ _ _ _ _ _ _ _ _
     show WL _ _ _ _ _ _ _
     refine cl wN (ciRot E j 11 (by omega) (by omega)) ?_
     rintro _ N ⟨bI, rfl⟩
     have cM := rot_b j 11
     exact wl_finT bI rfl
    ·intro _ E cN _
     rintro _ _ rfl _ rfl
     have cO := rot_b j 6
     rintro _ rfl _ rfl
     have cP := rot_b j 11
     rintro _ _ _ _ _ _ _ _ _ _ _ _ _ _
     show WL _ _ _ _ _ _ _
     refine wl_xor (rot j 6) (rot j 11) wN rfl rfl (by kernel_rfl) (by omega) (by omega) (by omega) (by omega) ?_
     have cQ := xorI_b (a := (rot j 6)) (b := (rot j 11)) (by omega) (by omega)
     exact f1
    ·intro _ E cR _
     rintro _ _ _ _ _ _ _ _ _ _ _ _ _ _ _ _ _ _ _
     show WL _ _ _ _ _ _ _
     refine mw (vi j) ?_
     exact f1
    ·intro _ E cS _
     rintro _ _ rfl _ rfl
     have cT := rot_b j 6
     rintro _ rfl _ rfl
     have cU := rot_b j 11
     rintro _ _ rfl _ _ _ _ _ _ _ _ _ _ _ _
     show WL _ _ _ _ _ _ _
     refine cl wN (ciRot E j 25 (by omega) (by omega)) ?_
     rintro _ N ⟨bJ, rfl⟩
     have cV := rot_b j 25
     exact wl_finT bJ rfl
    ·intro _ E cW _
     rintro _ _ rfl _ rfl
     have cX := rot_b j 6
     rintro _ rfl _ rfl
     have cY := rot_b j 11
     rintro _ rfl
     have cZ := xorI_b (a := (rot j 6)) (b := (rot j 11)) (by omega) (by omega)
     rintro _ rfl _ rfl
     have da := rot_b j 25
     rintro _ _ _ _ _ _ _ _ _ _ _
     show WL _ _ _ _ _ _ _
     refine wl_xor (xorI (rot j 6) (rot j 11)) (rot j 25) wN rfl rfl (by kernel_rfl) (by omega) (by omega) (by omega) (by omega) ?_
     have db := xorI_b (a := (xorI (rot j 6) (rot j 11))) (b := (rot j 25)) (by omega) (by omega)
     exact f1
    ·intro _ E dc _
     rintro _ rfl _ rfl _ rfl
     have dd := rot_b j 6
     rintro _ rfl _ rfl
     have de := rot_b j 11
     rintro _ rfl
     have df := xorI_b (a := (rot j 6)) (b := (rot j 11)) (by omega) (by omega)
     rintro _ rfl _ rfl
     have dg := rot_b j 25
     rintro _ rfl
     have dh := xorI_b (a := (xorI (rot j 6) (rot j 11))) (b := (rot j 25)) (by omega) (by omega)
     rintro _ _ _ _ _ _ _ _ _ _
     show WL _ _ _ _ _ _ _
     refine ar (y + (xorI (xorI (rot j 6) (rot j 11)) (rot j 25))) wN ?_
     exact f1
    ·intro _ E di _
     rintro _ _ _ _ _ _ _ _ _ _ _ _ _ _ _ _ _ _ _
     show WL _ _ _ _ _ _ _
     refine mw (vi (xorI (andI j s) (andI (xorI 4294967295 j) t))) ?_
     exact f1
    ·intro _ E dj _
     rintro _ rfl _ rfl _ rfl
     have dk := rot_b j 6
     rintro _ rfl _ rfl
     have dl := rot_b j 11
     rintro _ rfl
     have dm := xorI_b (a := (rot j 6)) (b := (rot j 11)) (by omega) (by omega)
     rintro _ rfl _ rfl
     have dn := rot_b j 25
     rintro _ rfl
     have dp := xorI_b (a := (xorI (rot j 6) (rot j 11))) (b := (rot j 25)) (by omega) (by omega)
     rintro _ rfl _ rfl _ _ _ _ _ _ _ _
     show WL _ _ _ _ _ _ _
     refine ar ((y + (xorI (xorI (rot j 6) (rot j 11)) (rot j 25))) + (xorI (andI j s) (andI (xorI 4294967295 j) t))) wN ?_
     exact f1
    ·intro _ E dq _
     rintro _ _ _ _ _ _ _ _ _ _ _ _ _ _ _ _ _ _ _
     show WL _ _ _ _ _ _ _
     refine mw (vi ((k : Nat) : Int)) ?_
     exact f1
    ·intro _ E dr _
     rintro _ _ rfl _ rfl
     have ds := rot_b j 6
     rintro _ rfl _ rfl
     have dt := rot_b j 11
     rintro _ _ rfl _ rfl
     have du := rot_b j 25
     rintro _ _ _ _ _ rfl _ _ _ _ _ _
     show WL _ _ _ _ _ _ _
     refine cl wN (ciRoundWord E ((k : Nat) : Int)) ?_
     rintro _ N ⟨bK, rfl⟩
     have dv := rw64_b ((k : Nat) : Int)
     exact wl_finT bK rfl
    ·intro _ E dw _
     rintro _ rfl _ rfl _ rfl
     have dx := rot_b j 6
     rintro _ rfl _ rfl
     have dy := rot_b j 11
     rintro _ rfl
     have dz := xorI_b (a := (rot j 6)) (b := (rot j 11)) (by omega) (by omega)
     rintro _ rfl _ rfl
     have d0 := rot_b j 25
     rintro _ rfl
     have d1 := xorI_b (a := (xorI (rot j 6) (rot j 11))) (b := (rot j 25)) (by omega) (by omega)
     rintro _ rfl _ rfl _ rfl _ rfl _ rfl
     have d2 := rw64_b ((k : Nat) : Int)
     rintro _ _ _ _ _
     show WL _ _ _ _ _ _ _
     refine ar (((y + (xorI (xorI (rot j 6) (rot j 11)) (rot j 25))) + (xorI (andI j s) (andI (xorI 4294967295 j) t))) + (rw64 ((k : Nat) : Int))) wN ?_
     exact f1
    ·intro _ E d3 _
     rintro _ _ _ _ _ _ _ _ _ _ _ _ _ _ _ _ _ _ _
     show WL _ _ _ _ _ _ _
     refine mw (vs O (schedP p).length P) ?_
     exact f1
    ·intro _ E d4 _
     rintro _ _ _ _ _ _ _ _ _ _ _ _ _ _ _ _ _ _ _
     show WL _ _ _ _ _ _ _
     refine mw (vi ((k : Nat) : Int)) ?_
     exact f1
    ·intro _ E bL _
     rintro _ _ _ _ _ _ _ _ _ _ _ _ _ _ _ _ rfl _ rfl _ _
     show WL _ _ _ _ _ _ _
     have bM := (own_kp (own_ch (own_kp aa M) T (fun g hg hlt hk => by have am := (own_lt aa g hg).2; have an : a5.heap.size ≤ A.heap.size := M.size; have ao : A.heap.size ≤ g := hk; omega)) bL)
     refine ix wN ((k : Nat) : Int) slTy_32 (Rd.of_own bM) ?_
     exact f1
    ·intro _ E bN _
     rintro _ _ _ _ _ _ _ _ _ _ _ _ _ _ _ _ rfl _ rfl _ rfl _
     show WL _ _ _ _ _ _ _
     have bO := (own_kp (own_ch (own_kp aa M) T (fun g hg hlt hk => by have am := (own_lt aa g hg).2; have an : a5.heap.size ≤ A.heap.size := M.size; have ao : A.heap.size ≤ g := hk; omega)) bN)
     refine wl_loadE (iV zw) wN rfl rfl rfl rfl isAgg_3 (Rd.of_own bO) (by rw [← hzw]; exact iget (by simp) (by first | omega | (simp <;> omega))) ?_
     exact f1
   ·intro _ E aE
    rintro _ rfl _ rfl _ rfl
    have d5 := rot_b j 6
    rintro _ rfl _ rfl
    have d6 := rot_b j 11
    rintro _ rfl
    have d7 := xorI_b (a := (rot j 6)) (b := (rot j 11)) (by omega) (by omega)
    rintro _ rfl _ rfl
    have d8 := rot_b j 25
    rintro _ rfl
    have d9 := xorI_b (a := (xorI (rot j 6) (rot j 11))) (b := (rot j 25)) (by omega) (by omega)
    rintro _ rfl _ rfl _ rfl _ rfl _ rfl
    have dA := rw64_b ((k : Nat) : Int)
    rintro _ rfl _ rfl _ rfl _ rfl _ rfl
    show WL _ _ _ _ _ _ _
    refine ar ((((y + (xorI (xorI (rot j 6) (rot j 11)) (rot j 25))) + (xorI (andI j s) (andI (xorI 4294967295 j) t))) + (rw64 ((k : Nat) : Int))) + zw) wN ?_
    refine aw (vi ((((y + (xorI (xorI (rot j 6) (rot j 11)) (rot j 25))) + (xorI (andI j s) (andI (xorI 4294967295 j) t))) + (rw64 ((k : Nat) : Int))) + zw)) ?_
    refine nx ?_
    refine mw (vi o) ?_
    refine cl wN (ciRot E o 2 (by omega) (by omega)) ?_
    rintro _ N ⟨aF, rfl⟩
    have bP := (a7.extk aE).extk aF
    have dB := rot_b o 2
    refine mw (vi o) ?_
    refine cl wN (ciRot N o 13 (by omega) (by omega)) ?_
    rintro _ aB ⟨aG, rfl⟩
    have dC := rot_b o 13
    refine wl_xor (rot o 2) (rot o 13) wN rfl rfl (by kernel_rfl) (by omega) (by omega) (by omega) (by omega) ?_
    have dD := xorI_b (a := (rot o 2)) (b := (rot o 13)) (by omega) (by omega)
    refine mw (vi o) ?_
    refine cl wN (ciRot aB o 22 (by omega) (by omega)) ?_
    rintro _ aD ⟨aH, rfl⟩
    have bQ := (bP.extk aG).extk aH
    have dE := rot_b o 22
    refine wl_xor (xorI (rot o 2) (rot o 13)) (rot o 22) wN rfl rfl (by kernel_rfl) (by omega) (by omega) (by omega) (by omega) ?_
    have dG := xorI_b (a := (xorI (rot o 2) (rot o 13))) (b := (rot o 22)) (by omega) (by omega)
    refine mw (vi (xorI (xorI (andI o q) (andI o r)) (andI q r))) ?_
    refine ar ((xorI (xorI (rot o 2) (rot o 13)) (rot o 22)) + (xorI (xorI (andI o q) (andI o r)) (andI q r))) wN ?_
    refine aw (vi ((xorI (xorI (rot o 2) (rot o 13)) (rot o 22)) + (xorI (xorI (andI o q) (andI o r)) (andI q r)))) ?_
    refine nx ?_
    refine mw (vi t) ?_
    refine mw (vi s) ?_
    refine mw (vi j) ?_
    refine mw (vi D) ?_
    refine mw (vi ((((y + (xorI (xorI (rot j 6) (rot j 11)) (rot j 25))) + (xorI (andI j s) (andI (xorI 4294967295 j) t))) + (rw64 ((k : Nat) : Int))) + zw)) ?_
    refine cl wN (ciAdd32 aD D ((((y + (xorI (xorI (rot j 6) (rot j 11)) (rot j 25))) + (xorI (andI j s) (andI (xorI 4294967295 j) t))) + (rw64 ((k : Nat) : Int))) + zw) (by omega) (by omega) (by omega) (by omega)) ?_
    rintro _ bR ⟨aI, rfl⟩
    refine aw (vi t) ?_
    refine aw (vi s) ?_
    refine aw (vi j) ?_
    refine aw (vi (i_Add32 D ((((y + (xorI (xorI (rot j 6) (rot j 11)) (rot j 25))) + (xorI (andI j s) (andI (xorI 4294967295 j) t))) + (rw64 ((k : Nat) : Int))) + zw))) ?_
    refine wl_nil <| wq_then <| wc_region ?_
    refine mw (vi r) ?_
    refine mw (vi q) ?_
    refine mw (vi o) ?_
    refine mw (vi ((((y + (xorI (xorI (rot j 6) (rot j 11)) (rot j 25))) + (xorI (andI j s) (andI (xorI 4294967295 j) t))) + (rw64 ((k : Nat) : Int))) + zw)) ?_
    refine mw (vi ((xorI (xorI (rot o 2) (rot o 13)) (rot o 22)) + (xorI (xorI (andI o q) (andI o r)) (andI q r)))) ?_
    refine cl wN (ciAdd32 bR ((((y + (xorI (xorI (rot j 6) (rot j 11)) (rot j 25))) + (xorI (andI j s) (andI (xorI 4294967295 j) t))) + (rw64 ((k : Nat) : Int))) + zw) ((xorI (xorI (rot o 2) (rot o 13)) (rot o 22)) + (xorI (xorI (andI o q) (andI o r)) (andI q r))) (by omega) (by omega) (by omega) (by omega)) ?_
    rintro _ dH ⟨aJ, rfl⟩
    have bS := (bQ.extk aI).extk aJ
    refine aw (vi r) ?_
    refine aw (vi q) ?_
    refine aw (vi o) ?_
    refine aw (vi (i_Add32 ((((y + (xorI (xorI (rot j 6) (rot j 11)) (rot j 25))) + (xorI (andI j s) (andI (xorI 4294967295 j) t))) + (rw64 ((k : Nat) : Int))) + zw) ((xorI (xorI (rot o 2) (rot o 13)) (rot o 22)) + (xorI (xorI (andI o q) (andI o r)) (andI q r))))) ?_
    refine wl_nil <| wq_blk_normal <| wq_then <| wc_region ?_
    refine mw (vi ((k : Nat) : Int)) ?_
    refine ar (((k : Nat) : Int) + 1) wN ?_
    refine aw (vi (((k : Nat) : Int) + 1)) ?_
    refine wl_nil ?_
    refine wq_loopP (w0 := aj) [(0, (vs B i.length C)), (4, (vs none 0 0)), (5, (vs I i.length J)), (6, (vs O (schedP p).length P)), (7, (vi ((cmpN (schedP p) (s8of i) (k + 1)).a))), (8, (vi ((cmpN (schedP p) (s8of i) (k + 1)).b))), (9, (vi ((cmpN (schedP p) (s8of i) (k + 1)).c))), (10, (vi ((cmpN (schedP p) (s8of i) (k + 1)).d))), (11, (vi ((cmpN (schedP p) (s8of i) (k + 1)).e))), (12, (vi ((cmpN (schedP p) (s8of i) (k + 1)).f))), (13, (vi ((cmpN (schedP p) (s8of i) (k + 1)).g))), (14, (vi ((cmpN (schedP p) (s8of i) (k + 1)).z))), (15, (vi (((k + 1) : Nat) : Int)))] ?_ ?_ ?_
    · exact ⟨rfl, rfl, rfl, rfl, (cA (Value.int .i64) (show ((i_Add32 ((((y + (xorI (xorI (rot j 6) (rot j 11)) (rot j 25))) + (xorI (andI j s) (andI (xorI 4294967295 j) t))) + (rw64 ((k : Nat) : Int))) + zw) ((xorI (xorI (rot o 2) (rot o 13)) (rot o 22)) + (xorI (xorI (andI o q) (andI o r)) (andI q r)))) : Int) = (cmpN (schedP p) (s8of i) (k + 1)).a by subst hzw hzk hi_a hi_b hi_c hi_d hi_e hi_f hi_g hi_z; exact cmp_ia (by omega) rfl)), (cA (Value.int .i64) (show (o : Int) = (cmpN (schedP p) (s8of i) (k + 1)).b by rw [hi_a]; rfl)), (cA (Value.int .i64) (show (q : Int) = (cmpN (schedP p) (s8of i) (k + 1)).c by rw [hi_b]; rfl)), (cA (Value.int .i64) (show (r : Int) = (cmpN (schedP p) (s8of i) (k + 1)).d by rw [hi_c]; rfl)), (cA (Value.int .i64) (show ((i_Add32 D ((((y + (xorI (xorI (rot j 6) (rot j 11)) (rot j 25))) + (xorI (andI j s) (andI (xorI 4294967295 j) t))) + (rw64 ((k : Nat) : Int))) + zw)) : Int) = (cmpN (schedP p) (s8of i) (k + 1)).e by subst hzw hzk hi_a hi_b hi_c hi_d hi_e hi_f hi_g hi_z; exact cmp_ie (by omega) rfl)), (cA (Value.int .i64) (show (j : Int) = (cmpN (schedP p) (s8of i) (k + 1)).f by rw [hi_e]; rfl)), (cA (Value.int .i64) (show (s : Int) = (cmpN (schedP p) (s8of i) (k + 1)).g by rw [hi_f]; rfl)), (cA (Value.int .i64) (show (t : Int) = (cmpN (schedP p) (s8of i) (k + 1)).z by rw [hi_g]; rfl)), (cA (Value.int .i64) (show ((((k : Nat) : Int) + 1) : Int) = (((k + 1) : Nat) : Int) by omega)), trivial⟩
    · exact fun u => ⟨(k + 1), (cmpN (schedP p) (s8of i) (k + 1)).a, (cmpN (schedP p) (s8of i) (k + 1)).b, (cmpN (schedP p) (s8of i) (k + 1)).c, (cmpN (schedP p) (s8of i) (k + 1)).d, (cmpN (schedP p) (s8of i) (k + 1)).e, (cmpN (schedP p) (s8of i) (k + 1)).f, (cmpN (schedP p) (s8of i) (k + 1)).g, (cmpN (schedP p) (s8of i) (k + 1)).z, u, rfl, bS, ((((((((Ch.refl (fun k => A.heap.size ≤ k) A).ext T (fun k hk => hk)).extk aE).extk aF).extk aG).extk aH).extk aI).extk aJ), (by omega), (by first | rfl | assumption), (by first | rfl | assumption), (by first | rfl | assumption), (by first | rfl | assumption), (by first | rfl | assumption), (by first | rfl | assumption), (by first | rfl | assumption), (by first | rfl | assumption)⟩
    · show (64 - (((k + 1) : Nat) : Int)).toNat < (64 - ((k : Nat) : Int)).toNat; omega

def R_32_22 (w : World) (v : Value) (x : (List Int) × (List UInt8)) : Prop := ∃ (a : Option Addr) (b : Nat) (d : Option Addr) (e : Nat), v = .tuple #[.slice a x.1.length b, .slice d x.2.length e] ∧ Rd w 1 (.slice a x.1.length b) x.1.length (x.1.map iV) ∧ x.1.length ≤ 1073741824 ∧ Rd w 1 (.slice d x.2.length e) x.2.length (x.2.map bV) ∧ x.2.length ≤ 1073741824
theorem cicompressAll (e : World) (y : Value) (b : List Int) (L : R_32 e y b) (A : Value) (a : List UInt8) (M : R_22 e A a)  : Fn Try.prog 165 #[y, A] e (fun v g => Keep e g ∧ R_32_22 g v (compAll b a)) := by
 obtain ⟨o, p, rfl, N, O⟩ := L
 obtain ⟨q, r, rfl, P, Q⟩ := M
 refine fn_ofS (n := 17) [(vs o b.length p), (vs q a.length r)] Try.func165 rfl rfl ?_
 refine sr ?_
 refine aw (vs none 0 0) ?_
 refine aw (vs none 0 0) ?_
 refine wl_nil <| wq_then <| wc_seq <| wc_block ?_
 have B : (b : List Int) = foldK b a 0 := by rfl
 have C : (a : List UInt8) = a.drop (64 * 0) := by rfl
 refine wc_loopP [(0, (.slice o (foldK b a 0).length p)), (1, (.slice q (a.drop (64 * 0)).length r)), (4, (vs none 0 0)), (5, (vs none 0 0))] ⟨(cA (fun l : List Int => Value.slice o l.length p) B), (cA (fun l : List UInt8 => Value.slice q l.length r) C), rfl, rfl, trivial⟩ (fun e' g => ∃ (k : Nat) (D : Env) (h : Option Addr) (i : Nat) (f : Option Addr) (d : Nat), e' = pt D [(0, (.slice h (foldK b a k).length i)), (1, (.slice f (a.drop (64 * k)).length d)), (4, (vs none 0 0)), (5, (vs none 0 0))] ∧ Ch (fun k => e.heap.size ≤ k) e g ∧ Ch (fun k => e.heap.size ≤ k) e g ∧ 64 * k ≤ a.length ∧ (Rd g 1 (.slice h (foldK b a k).length i) (foldK b a k).length ((foldK b a k).map iV) ∧ (foldK b a k).length ≤ 1073741824) ∧ (Rd g 1 (.slice f (a.drop (64 * k)).length d) (a.drop (64 * k)).length ((a.drop (64 * k)).map bV) ∧ (a.drop (64 * k)).length ≤ 1073741824)) (fun e' _ => (lenOf (e' 1))) ?_ ?_
 ·exact fun u => ⟨0, u, o, p, q, r, rfl, (Ch.base e), (Ch.refl (fun k => e.heap.size ≤ k) e), (by omega), (B ▸ ⟨N, O⟩), (C ▸ ⟨P, Q⟩)⟩
 ·rintro _ E ⟨k, D, h, i, f, d, rfl, F, R, ab, ⟨G, H⟩, ⟨j, w⟩⟩
  have hdl : (a.drop (64 * k)).length = a.length - 64 * k := List.length_drop
  refine wc_seq <| sr ?_
  refine mw (vs f (a.drop (64 * k)).length d) ?_
  refine ln wN slTy_22 j ?_
  refine pu (vb (decide (64 ≤ ((a.drop (64 * k)).length : Int)))) wN ?_
  refine n2 ?_
  rcases bf (decide (64 ≤ ((a.drop (64 * k)).length : Int))) with m | m
  ·have ac := dF m
   refine cf m ?_
   refine wc_exit <| wq_then_exit <| wq_then_exit <| wq_blk_exit <| wq_then <| sr ?_
   refine mw (vs h (foldK b a k).length i) ?_
   refine mw (vs f (a.drop (64 * k)).length d) ?_
   refine aw (vs h (foldK b a k).length i) ?_
   refine aw (vs f (a.drop (64 * k)).length d) ?_
   refine n3 ?_
   refine ret_2 (.inl rfl) (vs h (foldK b a k).length i) (vs f (a.drop (64 * k)).length d) rfl rfl rfl ?_
   refine ⟨F.keep0, ?_⟩
   have S : compAll b a = ((foldK b a k), (a.drop (64 * k))) := by exact compAll_t (by omega) (by omega)
   rw [S]
   exact ⟨_, _, _, _, rfl, G, H, j, w⟩
  have ad := dT m
  refine ct m ?_
  refine wc_skip <| wq_then <| wc_block <| sr ?_
  refine mw (vs h (foldK b a k).length i) ?_
  refine mw (vs f (a.drop (64 * k)).length d) ?_
  refine slv ((a.drop (64 * k)).take 64) 0 64 wN slTy_22 j (by first | omega | (simp <;> omega)) (by first | omega | (simp <;> omega)) (by first | rfl | (simp; done) | (rw [List.take_of_length_le (by first | (simp; done) | (simp; omega))])) rfl rfl rfl rfl (.inl ⟨rfl, rfl⟩) (.inr ⟨_, _, _, rfl, rfl, by omega⟩) ?_
  have T : 0 ≤ 64 := (by first | omega | (simp <;> omega))
  have V : 64 ≤ (a.drop (64 * k)).length := (by first | omega | (simp <;> omega))
  refine cl wN (ciCompress E _ (foldK b a k) (mR_32 G H) _ ((a.drop (64 * k)).take 64) (mR_22 (Rd.subV (x' := ((a.drop (64 * k)).take 64)) j T V (by first | rfl | (simp; done) | (rw [List.take_of_length_le (by first | (simp; done) | (simp; omega))]))) (nT (by simp only [List.length_take, List.length_drop]; omega) w))) ?_
  rintro _ ae ⟨x, ⟨s, t, rfl, W, X, af⟩⟩
  have Y := F.extk x
  refine aw (vs s (compress (foldK b a k) ((a.drop (64 * k)).take 64)).length t) ?_
  refine wl_nil <| wq_then <| wc_region ?_
  refine mw (vs f (a.drop (64 * k)).length d) ?_
  have I := (j.kp x)
  refine slv ((a.drop (64 * k)).drop 64) 64 ((a.drop (64 * k)).length) wN slTy_22 I (by first | omega | (simp <;> omega)) (by first | omega | (simp <;> omega)) (by first | rfl | (simp; done) | (rw [List.take_of_length_le (by first | (simp; done) | (simp; omega))])) rfl rfl rfl rfl (.inr ⟨_, _, _, rfl, rfl, by omega⟩) (.inl ⟨rfl, rfl⟩) ?_
  have Z : 64 ≤ ((a.drop (64 * k)).length) := (by first | omega | (simp <;> omega))
  have aa : ((a.drop (64 * k)).length) ≤ (a.drop (64 * k)).length := (by first | omega | (simp <;> omega))
  refine aw (vs (subA f d 64 1) ((a.drop (64 * k)).drop 64).length (d - 64)) ?_
  refine wl_nil <| wq_blk_normal ?_
  have J : ((compress (foldK b a k) ((a.drop (64 * k)).take 64)) : List Int) = foldK b a (k + 1) := by rfl
  have K : (((a.drop (64 * k)).drop 64) : List UInt8) = a.drop (64 * (k + 1)) := by rw [List.drop_drop]; congr 1
  refine wq_loopP (w0 := E) [(0, (.slice s (foldK b a (k + 1)).length t)), (1, (.slice (subA f d 64 1) (a.drop (64 * (k + 1))).length (d - 64))), (4, (vs none 0 0)), (5, (vs none 0 0))] ?_ ?_ ?_
  · exact ⟨(cA (fun l : List Int => Value.slice s l.length t) J), (cA (fun l : List UInt8 => Value.slice (subA f d 64 1) l.length (d - 64)) K), rfl, rfl, trivial⟩
  · exact fun u => ⟨(k + 1), u, s, t, (subA f d 64 1), (d - 64), rfl, Y, (((Ch.refl (fun k => e.heap.size ≤ k) e).ext R (fun k hk => hk)).extk x), (by omega), (J ▸ ⟨(Rd.of_own W), X⟩), (K ▸ ⟨(Rd.subV (x' := ((a.drop (64 * k)).drop 64)) I Z aa (by first | rfl | (simp; done) | (rw [List.take_of_length_le (by first | (simp; done) | (simp; omega))]))), (nT (by simp only [List.length_take, List.length_drop]; omega) w)⟩)⟩
  · show (a.drop (64 * (k + 1))).length < (a.drop (64 * k)).length; simp only [List.length_drop]; omega

theorem mR_132 {w : World} {x : PHash} {a : Option Addr} {b : Nat} {d : Option Addr} {e : Nat} (f : Rd w 1 (.slice a x.H.length b) x.H.length (x.H.map iV)) (g : x.H.length ≤ 1073741824) (h : Rd w 1 (.slice d x.Held.length e) x.Held.length (x.Held.map bV)) (i : x.Held.length ≤ 1073741824) : R_132 w (va (L_132 x a b d e)) x := ⟨_, _, _, _, rfl, f, g, h, i⟩
theorem mR_40 {w : World} {x : List (List UInt8)} {a : Option Addr} {b : Nat} (d : RLv LT_22 w 1073741824 a x.length b x) (e : x.length ≤ 1073741824) : R_40 w (vs a x.length b) x := ⟨_, _, rfl, d, e⟩
def i_HashAdd (a : PHash) (b : List UInt8) : (PHash) := bif (i_HashOk a) then (bif (decide ((1048576 - a.N) < (b.length : Int))) then (a) else ({ H := (compAll a.H (joinB [a.Held, b])).1, Held := (((compAll a.H (joinB [a.Held, b])).2)), N := (a.N + (b.length : Int)) : PHash })) else (a)
theorem ciHashAdd (K : World) (au : Value) (a : PHash) (aL : R_132 K au a) (av : Value) (b : List UInt8) (aM : R_22 K av b)  : Fn Try.prog 157 #[au, av] K (fun v M => Keep K M ∧ O_132 M K.heap.size v (i_HashAdd a b)) := by
 obtain ⟨d, s, t, u, rfl, ae, af, ah, ai⟩ := aL
 obtain ⟨x, y, rfl, aj, aN⟩ := aM
 refine fn_ofS (n := 50) [(va (L_132 a d s t u)), (vs x b.length y)] Try.func157 rfl rfl ?_
 refine sr ?_
 refine bx (L_132 a d s t u) wN ?_
 intro o A c5 c6 E Q
 refine al [(vs none 0 0), (vs none 0 0), (vi 0)] wN zero_132 ?_
 intro aO aP ax R B ay
 have S := ((Ch.base K).extk E).extk B
 refine n4 ?_
 refine jT1 [(1, (vs x b.length y)), (2, (vp o 0)), (4, (vp aO 0))] (i_HashAdd a b = a) ?_ fun az => ?_
 ·intro aQ F C c7
  have ak := S.extk C
  refine wc_seq ?_
  refine wc_drawT ([(18, [], [], (fun _ v w => ∃ a0 : Addr, v = .slice (some a0) 0 0 ∧ w.ownsRow F.heap.size 3 1 (.slice (some a0) 0 0) 0 [])), (19, [], [], (fun _ v _ => v = (vp o 0))), (20, [], [1], (fun _ v _ => v = (vs d a.H.length s))), (21, [], [0, 1, 2], (fun _ v w => ∃ (d : Option Addr) (g : Nat), v = .slice d a.H.length g ∧ w.ownsRow F.heap.size 3 1 (.slice d a.H.length g) a.H.length (a.H.map iV) ∧ a.H.length ≤ 1073741824 ∧ Aps [(d, g)])), (22, [], [], (fun _ v _ => v = (vp o 1))), (23, [], [4], (fun _ v _ => v = (vs t a.Held.length u))), (24, [21], [0, 1, 2, 3, 4, 5], (fun e v w => ∃ (d : Option Addr) (g : Nat), v = .slice d (a.Held).length g ∧ w.ownsRow (F.heap.size) 5 1 (.slice d (a.Held).length g) (a.Held).length ((a.Held).map bV) ∧ (a.Held).length ≤ 1073741824 ∧ Aps [(d, g)] ∧ Ap (sp (e 21)) (d, g))), (25, [], [], (fun _ v _ => v = (vp o 2))), (26, [], [7], (fun _ v _ => v = (vi a.N)))] : GV) (fun _ M => Keep F M) [] mixed rfl (by kernel_rfl) (by kernel_rfl) ?_ (fun _ _ h => h) (fun _ _ _ _ h _ k => h.trans k) trivial ?_ ?_ ?_
  ·exact ⟨(fun e v w A h hk => by obtain ⟨j, he, l⟩ := h; exact ⟨j, he, own_kp l hk⟩), hE, ⟨hV, hE, ⟨hV, hE, ⟨(fun e v w A h hk => by obtain ⟨j, q, he, l, r, hap⟩ := h; exact ⟨j, q, he, own_kp l hk, r, hap⟩), hE, ⟨hV, hE, ⟨hV, hE, ⟨(fun e v w A h hk => by obtain ⟨j, q, he, l, r, hap, hx⟩ := h; exact ⟨j, q, he, own_kp l hk, r, hap, hx⟩), (fun O P v w hx h => by have aR := hx 21 (by simp); simp only [aR] at h; exact h), ⟨hV, hE, ⟨hV, hE, trivial⟩⟩⟩⟩⟩⟩⟩⟩⟩
  ·exact trivial
  ·refine ⟨?_, ⟨?_, ⟨?_, ⟨?_, ⟨?_, ⟨?_, ⟨?_, ⟨?_, ⟨?_, trivial⟩⟩⟩⟩⟩⟩⟩⟩⟩
   ·intro _ f aS _
    rintro _ _ _ _ _ _ _ _ _
    show WL _ _ _ _ _ _ _
    refine wl_lit0 wN rfl rfl slTy_32 (fun w => by kernel_rfl) ?_
    intro c8 i aT aU
    exact wl_finT aT ⟨_, rfl, own_lo aU aS.size⟩
   ·intro _ f c9 _
    rintro _ _ _ _ _ _ _ _ _
    show WL _ _ _ _ _ _ _
    refine pu (vp o 0) wN ?_
    exact f1
   ·intro _ f aV _
    rintro _ _ rfl _ _ _ _ _ _ _
    show WL _ _ _ _ _ _ _
    have aW := (((Q.kp B).kp C).kp aV)
    refine ld (vs d a.H.length s) wN isAgg_32 aW ?_
    exact f1
   ·intro _ f a1 _
    have aX := ak.extk a1
    rintro _ ⟨cC, rfl, aY⟩ _ rfl _ rfl _ _ _ _ _ _
    show WL _ _ _ _ _ _ _
    refine ap0I a.H wN slTy_32 aY (ae.from0 aX) a1.size ?_
    intro cD cE i aZ ba cF
    exact wl_finT aZ ⟨_, _, rfl, ba, af, ⟨trivial, trivial⟩⟩
   ·intro _ f cG _
    rintro _ _ _ _ _ _ _ _ _
    show WL _ _ _ _ _ _ _
    refine pu (vp o 1) wN ?_
    exact f1
   ·intro _ f bb _
    rintro _ _ _ _ _ rfl _ _ _ _
    show WL _ _ _ _ _ _ _
    have bc := (((Q.kp B).kp C).kp bb)
    refine ld (vs t a.Held.length u) wN isAgg_22 bc ?_
    exact f1
   ·intro _ f a2 _
    have bd := ak.extk a2
    rintro _ ⟨cH, rfl, cI⟩ _ rfl _ rfl _ ⟨cJ, cK, rfl, be, cL, -⟩ _ rfl _ rfl _ _ _
    show WL _ _ _ _ _ _ _
    refine cl wN (ciclone f _ a.Held (mR_22 (ah.from0 bd) ai)) ?_
    rintro _ i ⟨bg, ⟨cM, cN, rfl, a3, bh, bi⟩⟩
    exact wl_finT bg ⟨_, _, rfl, (own_lo a3 a2.size), bh, bi, (Ap.lt be a3 (Nat.le_refl _))⟩
   ·intro _ f cO _
    rintro _ _ _ _ _ _ _ _ _
    show WL _ _ _ _ _ _ _
    refine pu (vp o 2) wN ?_
    exact f1
   ·intro _ f bj _
    rintro _ _ _ _ _ _ _ _ rfl _
    show WL _ _ _ _ _ _ _
    have bk := (((Q.kp B).kp C).kp bj)
    refine ld (vi a.N) wN isAgg_3 bk ?_
    exact f1
  ·intro _ f a4
   rintro _ ⟨cP, rfl, cQ⟩ _ rfl _ rfl _ ⟨T, V, rfl, a5, bl, -⟩ _ rfl _ rfl _ ⟨W, X, rfl, a6, bm, cR, bn⟩ _ rfl _ rfl
   show WL _ _ _ _ _ _ _
   refine pu (va (L_132 a T V W X)) wN ?_
   have bo := ((ay.kp C).kp a4)
   refine sv (L_132 a T V W X) wN sizeOf_132 bo ?_
   intro i am bp cS
   have bq := (ak.extk a4).ext am (fun k hk => by subst hk; exact nT E.size ax)
   refine n1 ?_
   have br := (own_ch a5 am (ne1 a5 (nL R C.size)))
   have bu := (own_ch a6 am (ne1 a6 (nL R C.size)))
   refine ret_1 (.inl rfl) (va (L_132 a T V W X)) rfl (rv_c (L_132 a T V W X) rfl bp isAgg_132 sizeOf_132) ?_
   refine ⟨bq.keep0, ?_⟩
   rw [aQ]
   exact ⟨_, _, _, _, rfl, (own_lo br (z3 E B C)), bl, (own_lo bu (z3 E B C)), bm, ⟨⟨bn, trivial⟩, ⟨trivial, trivial⟩⟩⟩
 have a7 := (Q.kp B)
 refine lN (L_132 a d s t u) wN isAgg_132 sizeOf_132 a7 ?_
 refine cl wN (ciHashOk aP _ a (mR_132 (ae.from0 S) af (ah.from0 S) ai)) ?_
 rintro _ F ⟨D, rfl⟩
 have Y := S.extk D
 refine pu (vb (!(i_HashOk a))) wN ?_
 refine mw (vb (!(i_HashOk a))) ?_
 rcases bf (i_HashOk a) with p | p
 ·iterate 6 refine sk (cA not p) ?_
  refine pk (vb true) wN (cA not p) ?_
  refine n2 ?_
  refine ct (Eq.refl true) ?_
  have bv : i_HashAdd a b = a := by simp only [i_HashAdd, p, cond_true, cond_false]
  exact wj (az bv _ D)
 have cT := hashOk_t p
 refine mv (vs x b.length y) (wS (cA not p)) ?_
 refine ln (wS (cA not p)) slTy_22 (aj.from0 Y) ?_
 refine pu (vp o 2) (wS (cA not p)) ?_
 have Z := (a7.kp D)
 refine ld (vi a.N) (wS (cA not p)) isAgg_3 Z ?_
 refine ar (1048576 - a.N) (wS (cA not p)) ?_
 refine pu (vb (decide ((1048576 - a.N) < (b.length : Int)))) (wS (cA not p)) ?_
 refine pf (vb (decide ((1048576 - a.N) < (b.length : Int)))) wN (cA not p) ?_
 refine n2 ?_
 rcases bt (decide ((1048576 - a.N) < (b.length : Int))) with G | G
 ·have cU := dT G
  refine ct G ?_
  have bw : i_HashAdd a b = a := by simp only [i_HashAdd, p, G, cond_true, cond_false]
  exact wj (az bw _ D)
 have cV := dF G
 refine cf G ?_
 refine wc_skip <| wq_then <| wc_seq ?_
 refine wc_draw ([(29, [], [], (fun _ v _ => v = (vp o 0))), (30, [], [0], (fun _ v _ => v = (vs d a.H.length s))), (31, [], [], (fun _ v _ => v = (vp o 1))), (32, [], [2], (fun _ v _ => v = (vs t a.Held.length u))), (33, [], [], (fun _ v _ => v = (vs x b.length y))), (34, [], [2, 3, 4], (fun _ v w => ∃ (d : Option Addr) (g : Nat), v = .slice d 2 g ∧ w.ownsRow F.heap.size 22 1 (.slice d 2 g) 2 [(vs t a.Held.length u), (vs x b.length y)])), (35, [], [2, 3, 4, 5], (fun _ v w => ∃ (d : Option Addr) (g : Nat), v = .slice d (joinB [a.Held, b]).length g ∧ w.ownsRow (F.heap.size) 5 1 (.slice d (joinB [a.Held, b]).length g) (joinB [a.Held, b]).length ((joinB [a.Held, b]).map bV) ∧ (joinB [a.Held, b]).length ≤ 1073741824 ∧ Aps [(d, g)])), (36, [], [0, 1, 2, 3, 4, 5, 6], (fun _ v w => ∃ (d : Option Addr) (g : Nat) (a8 : Option Addr) (s : Nat), v = .tuple #[.slice d ((compAll a.H (joinB [a.Held, b])).1).length g, .slice a8 ((compAll a.H (joinB [a.Held, b])).2).length s] ∧ Rd w 1 (.slice d ((compAll a.H (joinB [a.Held, b])).1).length g) ((compAll a.H (joinB [a.Held, b])).1).length (((compAll a.H (joinB [a.Held, b])).1).map iV) ∧ ((compAll a.H (joinB [a.Held, b])).1).length ≤ 1073741824 ∧ Rd w 1 (.slice a8 ((compAll a.H (joinB [a.Held, b])).2).length s) ((compAll a.H (joinB [a.Held, b])).2).length (((compAll a.H (joinB [a.Held, b])).2).map bV) ∧ ((compAll a.H (joinB [a.Held, b])).2).length ≤ 1073741824)), (28, [36], [0, 1, 2, 3, 4, 5, 6, 7], (fun e v _ => v = (.tuple #[(tupAt (e 36) 0), (tupAt (e 36) 1)]))), (37, [36], [0, 1, 2, 3, 4, 5, 6, 7, 8], (fun e v _ => v = (tupAt (e 36) 0))), (38, [36], [0, 1, 2, 3, 4, 5, 6, 7, 8], (fun e v _ => v = (tupAt (e 36) 1))), (5, [36], [0, 1, 2, 3, 4, 5, 6, 7, 8, 9], (fun e v _ => v = (tupAt (e 36) 0)))] : GV) mixed rfl (by kernel_rfl) (by kernel_rfl) ?_ ?_ ?_
 ·exact ⟨hV, hE, ⟨hV, hE, ⟨hV, hE, ⟨hV, hE, ⟨hV, hE, ⟨(fun e v w A h hk => by obtain ⟨j, q, he, l⟩ := h; exact ⟨j, q, he, own_kp l hk⟩), hE, ⟨(fun e v w A h hk => by obtain ⟨j, q, he, l, r, hap⟩ := h; exact ⟨j, q, he, own_kp l hk, r, hap⟩), hE, ⟨(fun e v w A h hk => by obtain ⟨j, q, bz, b0, he, l, r, b1, b2⟩ := h; exact ⟨j, q, bz, b0, he, Rd.kp l hk, r, Rd.kp b1 hk, b2⟩), hE, ⟨hV, (fun O P v w hx h => by have I := hx 36 (by simp); simp only [I] at h; exact h), ⟨hV, (fun O P v w hx h => by have I := hx 36 (by simp); simp only [I] at h; exact h), ⟨hV, (fun O P v w hx h => by have I := hx 36 (by simp); simp only [I] at h; exact h), ⟨hV, (fun O P v w hx h => by have I := hx 36 (by simp); simp only [I] at h; exact h), trivial⟩⟩⟩⟩⟩⟩⟩⟩⟩⟩⟩⟩
 ·refine ⟨?_, ⟨?_, ⟨?_, ⟨?_, ⟨?_, ⟨?_, ⟨?_, ⟨?_, ⟨?_, ⟨?_, ⟨?_, ⟨?_, trivial⟩⟩⟩⟩⟩⟩⟩⟩⟩⟩⟩⟩
  ·intro f cW
   rintro _ _ _ _ _ _ _ _ _ _ _ _
   show WL _ _ _ _ _ _ _
   refine pu (vp o 0) wN ?_
   exact f2
  ·intro f b3
   rintro _ rfl _ _ _ _ _ _ _ _ _ _ _
   show WL _ _ _ _ _ _ _
   have b4 := (Z.kp b3)
   refine ld (vs d a.H.length s) wN isAgg_32 b4 ?_
   exact f2
  ·intro f cX
   rintro _ _ _ _ _ _ _ _ _ _ _ _
   show WL _ _ _ _ _ _ _
   refine pu (vp o 1) wN ?_
   exact f2
  ·intro f b5
   rintro _ _ _ rfl _ _ _ _ _ _ _ _ _
   show WL _ _ _ _ _ _ _
   have b6 := (Z.kp b5)
   refine ld (vs t a.Held.length u) wN isAgg_22 b6 ?_
   exact f2
  ·intro f cY
   rintro _ _ _ _ _ _ _ _ _ _ _ _
   show WL _ _ _ _ _ _ _
   refine mw (vs x b.length y) ?_
   exact f2
  ·intro f b7
   rintro _ _ _ rfl _ rfl _ rfl _ _ _ _ _ _ _
   show WL _ _ _ _ _ _ _
   refine wl_lit [(vs t a.Held.length u), (vs x b.length y)] wN rfl rfl slTy_40 (m := 2) rfl (by simp only [maxLen]; omega) (fun w => by kernel_rfl) ?_
   intro cZ i b8 a9
   obtain ⟨da, db, rfl⟩ := own_form a9
   exact wl_fin b8 ⟨_, _, rfl, own_lo a9 b7.size⟩
  ·intro f aA
   have aB := Y.extk aA
   rintro _ _ _ rfl _ rfl _ rfl _ ⟨dc, dd, rfl, b9⟩ _ _ _ _ _ _
   show WL _ _ _ _ _ _ _
   refine cl wN (cijoined f _ [a.Held, b] (mR_40 (RLv.mk (L := LT_22) [(a.Held, [(t, u)]), (b, [(x, y)])] (Rd.of_own b9) rfl ⟨⟨⟨(ah.from0 aB), ai⟩, trivial⟩, ⟨⟨⟨(aj.from0 aB), aN⟩, trivial⟩, trivial⟩⟩ (by first | decide | exact Nat.le_of_ble_eq_true rfl)) (by first | decide | exact Nat.le_of_ble_eq_true rfl)) (by first | omega | (rw [joinB_l2]; omega) | (rw [joinB_l2]; simp only [List.length_cons, List.length_nil, maskB_len]; omega) | (rw [joinB_l3]; simp only [List.length_cons, List.length_nil, maskB_len]; omega) | (simp only [joinB, List.flatten_cons, List.flatten_nil, List.length_append, List.length_cons, List.length_nil, maskB_len]; omega))) ?_
   rintro _ i ⟨bA, ⟨de, df, rfl, bB, bC, bD⟩⟩
   exact wl_fin bA ⟨_, _, rfl, (own_lo bB aA.size), bC, bD⟩
  ·intro f bE
   have bF := Y.extk bE
   rintro _ rfl _ rfl _ rfl _ rfl _ rfl _ ⟨dg, dh, rfl, di⟩ _ ⟨dj, dk, rfl, bG, bH, dl⟩ _ _ _ _ _
   show WL _ _ _ _ _ _ _
   refine cl wN (cicompressAll f _ a.H (mR_32 (ae.from0 bF) af) _ (joinB [a.Held, b]) (mR_22 (Rd.of_own bG) bH)) ?_
   rintro _ i ⟨bI, ⟨dm, dn, dp, dq, rfl, bJ, bK, bL, bM⟩⟩
   exact wl_fin bI ⟨_, _, _, _, rfl, bJ, bK, bL, bM⟩
  ·intro f dr
   rintro _ rfl _ rfl _ rfl _ rfl _ rfl _ ⟨ds, dt, rfl, du⟩ _ ⟨dv, dw, rfl, _⟩ _ ⟨bN, bO, bP, bQ, rfl, _⟩ _ _ _ _
   show WL _ _ _ _ _ _ _
   refine mw (.tuple #[(vs bN ((compAll a.H (joinB [a.Held, b])).1).length bO), (vs bP ((compAll a.H (joinB [a.Held, b])).2).length bQ)]) ?_
   exact f2
  ·intro f dx
   rintro _ rfl _ rfl _ rfl _ rfl _ rfl _ ⟨dy, dz, rfl, d0⟩ _ ⟨d1, d2, rfl, _⟩ _ ⟨bR, bS, d3, d4, rfl, _⟩ _ rfl _ _ _
   show WL _ _ _ _ _ _ _
   refine pu (vs bR ((compAll a.H (joinB [a.Held, b])).1).length bS) wN ?_
   exact f2
  ·intro f d5
   rintro _ rfl _ rfl _ rfl _ rfl _ rfl _ ⟨d6, d7, rfl, d8⟩ _ ⟨d9, dA, rfl, _⟩ _ ⟨dB, dC, bT, bU, rfl, _⟩ _ rfl _ _ _
   show WL _ _ _ _ _ _ _
   refine pu (vs bT ((compAll a.H (joinB [a.Held, b])).2).length bU) wN ?_
   exact f2
  ·intro f dD
   rintro _ rfl _ rfl _ rfl _ rfl _ rfl _ ⟨dE, dG, rfl, dH⟩ _ ⟨dI, dJ, rfl, _⟩ _ ⟨bW, bX, dK, dL, rfl, _⟩ _ rfl _ rfl _ _
   show WL _ _ _ _ _ _ _
   refine aw (vs bW ((compAll a.H (joinB [a.Held, b])).1).length bX) ?_
   exact f2
 ·intro f J
  have aC := Y.extk J
  rintro _ rfl _ rfl _ rfl _ rfl _ rfl _ ⟨dM, dN, rfl, dO⟩ _ ⟨dP, dQ, rfl, _⟩ _ ⟨aD, aE, an, ao, rfl, bY, bZ, ca, cb⟩ _ rfl _ rfl _ rfl _ rfl
  show WL _ _ _ _ _ _ _
  refine aw (vs an ((compAll a.H (joinB [a.Held, b])).2).length ao) ?_
  refine wl_nil <| wq_then <| wc_seq ?_
  refine wc_drawT ([(39, [], [], (fun _ v w => ∃ a0 : Addr, v = .slice (some a0) 0 0 ∧ w.ownsRow f.heap.size 3 1 (.slice (some a0) 0 0) 0 [])), (40, [], [], (fun _ v _ => v = (vs aD ((compAll a.H (joinB [a.Held, b])).1).length aE))), (41, [], [0, 1], (fun _ v w => ∃ (d : Option Addr) (g : Nat), v = .slice d ((compAll a.H (joinB [a.Held, b])).1).length g ∧ w.ownsRow f.heap.size 3 1 (.slice d ((compAll a.H (joinB [a.Held, b])).1).length g) ((compAll a.H (joinB [a.Held, b])).1).length (((compAll a.H (joinB [a.Held, b])).1).map iV) ∧ ((compAll a.H (joinB [a.Held, b])).1).length ≤ 1073741824 ∧ Aps [(d, g)])), (42, [], [], (fun _ v _ => v = (vs an ((compAll a.H (joinB [a.Held, b])).2).length ao))), (43, [41], [0, 1, 2, 3], (fun e v w => ∃ (d : Option Addr) (g : Nat), v = .slice d (((compAll a.H (joinB [a.Held, b])).2)).length g ∧ w.ownsRow (f.heap.size) 5 1 (.slice d (((compAll a.H (joinB [a.Held, b])).2)).length g) (((compAll a.H (joinB [a.Held, b])).2)).length ((((compAll a.H (joinB [a.Held, b])).2)).map bV) ∧ (((compAll a.H (joinB [a.Held, b])).2)).length ≤ 1073741824 ∧ Aps [(d, g)] ∧ Ap (sp (e 41)) (d, g))), (44, [], [], (fun _ v _ => v = (vp o 2))), (45, [], [5], (fun _ v _ => v = (vi a.N))), (46, [], [], (fun _ v _ => v = (vs x b.length y))), (47, [], [7], (fun _ v _ => v = (vi (b.length : Int)))), (48, [], [5, 6, 7, 8], (fun _ v _ => v = (vi (a.N + (b.length : Int)))))] : GV) (fun _ M => Keep f M) [] mixed rfl (by kernel_rfl) (by kernel_rfl) ?_ (fun _ _ h => h) (fun _ _ _ _ h _ k => h.trans k) trivial ?_ ?_ ?_
  ·exact ⟨(fun e v w A h hk => by obtain ⟨j, he, l⟩ := h; exact ⟨j, he, own_kp l hk⟩), hE, ⟨hV, hE, ⟨(fun e v w A h hk => by obtain ⟨j, q, he, l, r, hap⟩ := h; exact ⟨j, q, he, own_kp l hk, r, hap⟩), hE, ⟨hV, hE, ⟨(fun e v w A h hk => by obtain ⟨j, q, he, l, r, hap, hx⟩ := h; exact ⟨j, q, he, own_kp l hk, r, hap, hx⟩), (fun O P v w hx h => by have cc := hx 41 (by simp); simp only [cc] at h; exact h), ⟨hV, hE, ⟨hV, hE, ⟨hV, hE, ⟨hV, hE, ⟨hV, hE, trivial⟩⟩⟩⟩⟩⟩⟩⟩⟩⟩
  ·exact trivial
  ·refine ⟨?_, ⟨?_, ⟨?_, ⟨?_, ⟨?_, ⟨?_, ⟨?_, ⟨?_, ⟨?_, ⟨?_, trivial⟩⟩⟩⟩⟩⟩⟩⟩⟩⟩
   ·intro _ i cd _
    rintro _ _ _ _ _ _ _ _ _ _
    show WL _ _ _ _ _ _ _
    refine wl_lit0 wN rfl rfl slTy_32 (fun w => by kernel_rfl) ?_
    intro dR ap ce cg
    exact wl_finT ce ⟨_, rfl, own_lo cg cd.size⟩
   ·intro _ i dS _
    rintro _ _ _ _ _ _ _ _ _ _
    show WL _ _ _ _ _ _ _
    refine mw (vs aD ((compAll a.H (joinB [a.Held, b])).1).length aE) ?_
    exact f1
   ·intro _ i aF _
    rintro _ ⟨dU, rfl, ci⟩ _ rfl _ _ _ _ _ _ _ _
    show WL _ _ _ _ _ _ _
    have cj := (bY.kp aF)
    refine ap0I ((compAll a.H (joinB [a.Held, b])).1) wN slTy_32 ci cj aF.size ?_
    intro dV dW ap ck cm dX
    exact wl_finT ck ⟨_, _, rfl, cm, bZ, ⟨trivial, trivial⟩⟩
   ·intro _ i dY _
    rintro _ _ _ _ _ _ _ _ _ _
    show WL _ _ _ _ _ _ _
    refine mw (vs an ((compAll a.H (joinB [a.Held, b])).2).length ao) ?_
    exact f1
   ·intro _ i aG _
    rintro _ ⟨dZ, rfl, ea⟩ _ rfl _ ⟨ec, ed, rfl, cn, ee, -⟩ _ rfl _ _ _ _ _ _
    show WL _ _ _ _ _ _ _
    have co := (ca.kp aG)
    refine cl wN (ciclone i _ ((compAll a.H (joinB [a.Held, b])).2) (mR_22 co cb)) ?_
    rintro _ ap ⟨cp, ⟨ef, eg, rfl, aH, cq, cr⟩⟩
    exact wl_finT cp ⟨_, _, rfl, (own_lo aH aG.size), cq, cr, (Ap.lt cn aH (Nat.le_refl _))⟩
   ·intro _ i eh _
    rintro _ _ _ _ _ _ _ _ _ _
    show WL _ _ _ _ _ _ _
    refine pu (vp o 2) wN ?_
    exact f1
   ·intro _ i cs _
    rintro _ _ _ _ _ _ rfl _ _ _ _
    show WL _ _ _ _ _ _ _
    have cu := ((Z.kp J).kp cs)
    refine ld (vi a.N) wN isAgg_3 cu ?_
    exact f1
   ·intro _ i ej _
    rintro _ _ _ _ _ _ _ _ _ _
    show WL _ _ _ _ _ _ _
    refine mw (vs x b.length y) ?_
    exact f1
   ·intro _ i cv _
    have cw := aC.extk cv
    rintro _ _ _ _ _ _ _ _ rfl _ _
    show WL _ _ _ _ _ _ _
    refine ln wN slTy_22 (aj.from0 cw) ?_
    exact f1
   ·intro _ i ek _
    rintro _ _ _ _ _ _ rfl _ rfl _ rfl _ rfl _
    show WL _ _ _ _ _ _ _
    refine ar (a.N + (b.length : Int)) wN ?_
    exact f1
  ·intro _ i aI
   rintro _ ⟨em, rfl, en⟩ _ rfl _ ⟨aa, ab, rfl, aJ, cx, -⟩ _ rfl _ ⟨ac, ad, rfl, aK, cy, eo, cz⟩ _ rfl _ rfl _ rfl _ rfl _ rfl
   show WL _ _ _ _ _ _ _
   refine pu (va [(vs aa ((compAll a.H (joinB [a.Held, b])).1).length ab), (vs ac (((compAll a.H (joinB [a.Held, b])).2)).length ad), (vi (a.N + (b.length : Int)))]) wN ?_
   have c0 := (((ay.kp D).kp J).kp aI)
   refine sv [(vs aa ((compAll a.H (joinB [a.Held, b])).1).length ab), (vs ac (((compAll a.H (joinB [a.Held, b])).2)).length ad), (vi (a.N + (b.length : Int)))] wN sizeOf_132 c0 ?_
   intro ap aq c1 ep
   have c2 := (aC.extk aI).ext aq (fun k hk => by subst hk; exact nT E.size ax)
   refine n3 ?_
   have c3 := (own_ch aJ aq (ne1 aJ (nL R (z2 D J))))
   have c4 := (own_ch aK aq (ne1 aK (nL R (z2 D J))))
   refine ret_1 (.inl rfl) (va [(vs aa ((compAll a.H (joinB [a.Held, b])).1).length ab), (vs ac (((compAll a.H (joinB [a.Held, b])).2)).length ad), (vi (a.N + (b.length : Int)))]) rfl (rv_c [(vs aa ((compAll a.H (joinB [a.Held, b])).1).length ab), (vs ac (((compAll a.H (joinB [a.Held, b])).2)).length ad), (vi (a.N + (b.length : Int)))] rfl c1 isAgg_132 sizeOf_132) ?_
   refine ⟨c2.keep0, ?_⟩
   simp only [i_HashAdd, p, G, cond_true, cond_false]
   exact ⟨_, _, _, _, rfl, (own_lo c3 (z4 E B D J)), cx, (own_lo c4 (z4 E B D J)), cy, ⟨⟨cz, trivial⟩, ⟨trivial, trivial⟩⟩⟩

theorem ciPutN (e : World) (B : Value) (d : List UInt8) (S : R_22 e B d) (b : Int) (a : Int) (aj : d.length ≤ 1000000) : Fn Try.prog 110 #[B, (vi b), (vi a)] e (fun v o => Keep e o ∧ O_22 o e.heap.size v (putN d b a)) := by
 obtain ⟨C, D, rfl, T, E⟩ := S
 refine fn_ofS (n := 35) [(vs C d.length D), (vi b), (vi a)] Try.func110 rfl rfl ?_
 refine sr ?_
 refine aw (vs none 0 0) ?_
 refine nx ?_
 refine wl_lit0 wN rfl rfl slTy_22 (fun w => by kernel_rfl) ?_
 intro ak am y V
 have F := (Ch.base e).extk y
 refine mw (vs C d.length D) ?_
 refine ap0 d wN slTy_22 V (T.from0 F) y.size ?_
 intro f g A G H an
 have I := F.extk G
 refine aw (vs f d.length g) ?_
 refine n4 ?_
 refine jT1 [(1, (vi b)), (2, (vi a)), (6, (vs none 0 0)), (7, (vs f d.length g))] (putN d b a = d) ?_ fun J => ?_
 ·intro W K L ao
  have X := I.extk L
  refine sr ?_
  refine mw (vs f d.length g) ?_
  refine aw (vs f d.length g) ?_
  refine n1 ?_
  have Y := (own_kp H L)
  refine rt (vs f d.length g) ?_
  refine ⟨X.keep0, ?_⟩
  rw [W]
  exact ⟨_, _, rfl, Y, E, ⟨trivial, trivial⟩⟩
 refine mw (vi a) ?_
 refine pu (vb (decide (a < 1))) wN ?_
 refine mw (vb (decide (a < 1))) ?_
 rcases bt (decide (a < 1)) with h | h
 ·have ap := dT h
  iterate 2 refine sk h ?_
  refine pk (vb true) wN h ?_
  refine n2 ?_
  refine ct (Eq.refl true) ?_
  have Z : putN d b a = d := by first | exact putN_out (by omega) | exact putN_end (by omega) (by omega) (by omega)
  exact wj (J Z _ (Ch.refl _ _))
 have aq := dF h
 refine mv (vi a) (wS h) ?_
 refine pu (vb (decide (6 < a))) (wS h) ?_
 refine pf (vb (decide (6 < a))) wN h ?_
 refine n2 ?_
 rcases bt (decide (6 < a)) with p | p
 ·have au := dT p
  refine ct p ?_
  have aa : putN d b a = d := by first | exact putN_out (by omega) | exact putN_end (by omega) (by omega) (by omega)
  exact wj (J aa _ (Ch.refl _ _))
 have av := dF p
 refine cf p ?_
 refine y2 ?_
 refine mw (vi a) ?_
 refine ar (a - 1) wN ?_
 refine aw (vi (a - 1)) ?_
 refine wl_nil <| wq_then <| wc_block ?_
 have M : (d : List UInt8) = d ++ putK b a 0 := by simp [putK]
 refine wc_loopP [(1, (vi b)), (6, (vs none 0 0)), (7, (.slice f (d ++ putK b a 0).length g)), (8, (vi (a - 1 - ((0 : Nat) : Int))))] ⟨rfl, rfl, (cA (fun l : List UInt8 => Value.slice f l.length g) M), (cA (Value.int .i64) (show ((a - 1) : Int) = (a - 1 - ((0 : Nat) : Int)) by omega)), trivial⟩ (fun e' o => ∃ (j : Nat) (N : Env) (i : Option Addr) (m : Nat), e' = pt N [(1, (vi b)), (6, (vs none 0 0)), (7, (.slice i (d ++ putK b a j).length m)), (8, (vi (a - 1 - ((j : Nat) : Int))))] ∧ Ch (fun k => e.heap.size ≤ k) e o ∧ Ch (fun k => e.heap.size ≤ k) A o ∧ ((j : Nat) : Int) ≤ a ∧ (World.ownsRow o e.heap.size 5 1 (.slice i (d ++ putK b a j).length m) (d ++ putK b a j).length ((d ++ putK b a j).map bV) ∧ (d ++ putK b a j).length ≤ 1073741824)) (fun e' _ => ((intOf (e' 8)) + 1).toNat) ?_ ?_
 ·exact fun u => ⟨0, u, f, g, rfl, I, (Ch.refl (fun k => e.heap.size ≤ k) A), (by omega), (M ▸ ⟨H, E⟩)⟩
 ·rintro _ K ⟨j, N, i, m, rfl, O, P, ax, ⟨r, ab⟩⟩
  have hpl := putK_len b a j
  refine wc_seq <| sr ?_
  refine mw (vi (a - 1 - ((j : Nat) : Int))) ?_
  refine pu (vb (decide (0 ≤ (a - 1 - ((j : Nat) : Int))))) wN ?_
  refine n2 ?_
  rcases bf (decide (0 ≤ (a - 1 - ((j : Nat) : Int)))) with q | q
  ·have ay := dF q
   refine cf q ?_
   refine wc_exit <| wq_then_exit <| wq_then_exit <| wq_blk_exit <| wq_then <| sr ?_
   refine mw (vs i (d ++ putK b a j).length m) ?_
   refine aw (vs i (d ++ putK b a j).length m) ?_
   refine n3 ?_
   refine rt (vs i (d ++ putK b a j).length m) ?_
   refine ⟨O.keep0, ?_⟩
   have ac : putN d b a = (d ++ putK b a j) := by first | exact putN_out (by omega) | exact putN_end (by omega) (by omega) (by omega)
   rw [ac]
   exact ⟨_, _, rfl, r, ab, ⟨trivial, trivial⟩⟩
  have az := dT q
  refine ct q ?_
  refine wc_skip <| wq_then <| wc_seq <| wc_block <| wc_region ?_
  refine mw (vs i (d ++ putK b a j).length m) ?_
  refine mw (vi b) ?_
  refine mw (vi (a - 1 - ((j : Nat) : Int))) ?_
  refine ar (8 * (a - 1 - ((j : Nat) : Int))) wN ?_
  refine wl_shr b (8 * (a - 1 - ((j : Nat) : Int))) wN rfl rfl rfl rfl rfl (by omega) (by omega) ?_
  refine wl_and (b / (2 : Int) ^ ((8 * (a - 1 - ((j : Nat) : Int)))).toNat) 255 256 8 wN rfl rfl (by decide) (by decide) (by decide) (by kernel_rfl) ?_
  refine wl_conv8 ((b / (2 : Int) ^ ((8 * (a - 1 - ((j : Nat) : Int)))).toNat) % 256) wN rfl rfl (by kernel_rfl) ?_
  refine ltB ([(by8 ((b / (2 : Int) ^ ((8 * (a - 1 - ((j : Nat) : Int)))).toNat) % 256))] : List UInt8) wN slTy_22 ?_
  intro a0 a1 a2 s ad
  have ae := (own_kp r s)
  refine apB (d ++ putK b a j) ([(by8 ((b / (2 : Int) ^ ((8 * (a - 1 - ((j : Nat) : Int)))).toNat) % 256))] : List UInt8) wN slTy_22 ae (Rd.of_own ad) (z4 y G P s) ?_
  intro t x a3 Q af a4 ah
  have ai := (O.extk s).ext Q (fun k hk => nT (Nat.le_refl e.heap.size) (own_lt r k hk).1)
  refine aw (vs t ((d ++ putK b a j) ++ ([(by8 ((b / (2 : Int) ^ ((8 * (a - 1 - ((j : Nat) : Int)))).toNat) % 256))] : List UInt8)).length x) ?_
  refine wl_nil <| wq_blk_normal <| wq_then <| wc_region ?_
  refine mw (vi (a - 1 - ((j : Nat) : Int))) ?_
  refine ar ((a - 1 - ((j : Nat) : Int)) - 1) wN ?_
  refine aw (vi ((a - 1 - ((j : Nat) : Int)) - 1)) ?_
  refine wl_nil ?_
  have R : (((d ++ putK b a j) ++ ([(by8 ((b / (2 : Int) ^ ((8 * (a - 1 - ((j : Nat) : Int)))).toNat) % 256))] : List UInt8)) : List UInt8) = d ++ putK b a (j + 1) := by simp [putK]
  refine wq_loopP (w0 := K) [(1, (vi b)), (6, (vs none 0 0)), (7, (.slice t (d ++ putK b a (j + 1)).length x)), (8, (vi (a - 1 - (((j + 1) : Nat) : Int))))] ?_ ?_ ?_
  · exact ⟨rfl, rfl, (cA (fun l : List UInt8 => Value.slice t l.length x) R), (cA (Value.int .i64) (show (((a - 1 - ((j : Nat) : Int)) - 1) : Int) = (a - 1 - (((j + 1) : Nat) : Int)) by omega)), trivial⟩
  · exact fun u => ⟨(j + 1), u, t, x, rfl, ai, ((((Ch.refl (fun k => e.heap.size ≤ k) A).ext P (fun k hk => hk)).extk s).ext Q (fun k hk => nT (Nat.le_refl e.heap.size) (own_lt r k hk).1)), (by omega), (R ▸ ⟨af, ah⟩)⟩
  · show ((a - 1 - (((j + 1) : Nat) : Int)) + 1).toNat < ((a - 1 - ((j : Nat) : Int)) + 1).toNat; omega

theorem ciPad (b : World) (a : Int)  : Fn Try.prog 166 #[(vi a)] b (fun v d => Keep b d ∧ O_22 d b.heap.size v (padP a)) := by
 refine fn_ofS (n := 25) [(vi a)] Try.func166 rfl rfl ?_
 refine sr ?_
 refine aw (vs none 0 0) ?_
 refine n4 ?_
 refine mw (vi a) ?_
 refine cl wN (ciwithin b a 0 1048576) ?_
 rintro _ h ⟨o, rfl⟩
 have B := (Ch.base b).extk o
 refine pu (vb (!(i_within a 0 1048576))) wN ?_
 refine n2 ?_
 rcases bf (i_within a 0 1048576) with i | i
 ·have aj := impl_within_f i
  refine ct (cA not i) ?_
  refine sr ?_
  refine aw (vs none 0 0) ?_
  refine n1 ?_
  refine rt (vs none 0 0) ?_
  refine ⟨B.keep0, ?_⟩
  have N : padP a = [] := by first | exact padP_f (by omega) | exact padP_i (by omega) (by omega) (by omega) (by omega)
  rw [N]
  exact ⟨_, _, rfl, (by first | exact own_nil _ _ _ _ | exact OLv.nil _ _ _ _), (by simp), ⟨trivial, trivial⟩⟩
 have ak := impl_within_t i
 refine cf (cA not i) ?_
 refine y1 ?_
 refine ltB ([128] : List UInt8) wN slTy_22 ?_
 intro p q A r O
 have P := B.extk r
 refine aw (vs p ([128] : List UInt8).length q) ?_
 refine wl_nil <| wq_then <| wc_seq <| wc_block ?_
 have C : (([128] : List UInt8) : List UInt8) = [(128 : UInt8)] ++ List.replicate 0 (0 : UInt8) := by first | rfl | (rw [List.replicate_succ', List.append_assoc])
 refine wc_loopP [(0, (vi a)), (2, (vs none 0 0)), (3, (.slice p ([(128 : UInt8)] ++ List.replicate 0 (0 : UInt8)).length q))] ⟨rfl, rfl, (cA (fun l : List UInt8 => Value.slice p l.length q) C), trivial⟩ (fun e' d => ∃ (j : Nat) (D : Env) (e : Option Addr) (f : Nat), e' = pt D [(0, (vi a)), (2, (vs none 0 0)), (3, (.slice e ([(128 : UInt8)] ++ List.replicate j (0 : UInt8)).length f))] ∧ Ch (fun k => b.heap.size ≤ k) b d ∧ Ch (fun k => h.heap.size ≤ k) A d ∧ ((j : Nat) : Int) ≤ (64 - (a + 9) % 64) % 64 ∧ (World.ownsRow d h.heap.size 5 1 (.slice e ([(128 : UInt8)] ++ List.replicate j (0 : UInt8)).length f) ([(128 : UInt8)] ++ List.replicate j (0 : UInt8)).length (([(128 : UInt8)] ++ List.replicate j (0 : UInt8)).map bV) ∧ ([(128 : UInt8)] ++ List.replicate j (0 : UInt8)).length ≤ 1073741824)) (fun e' _ => 100 - (lenOf (e' 3))) ?_ ?_
 ·exact fun u => ⟨0, u, p, q, rfl, P, (Ch.refl (fun k => h.heap.size ≤ k) A), (by omega), (C ▸ ⟨O, (by simp)⟩)⟩
 ·rintro _ Q ⟨j, D, e, f, rfl, E, s, am, ⟨g, an⟩⟩
  have hpl : ([(128 : UInt8)] ++ List.replicate j (0 : UInt8)).length = 1 + j := by rw [List.length_append, List.length_replicate]; rfl
  refine wc_seq <| sr ?_
  refine mw (vi a) ?_
  refine mw (vs e ([(128 : UInt8)] ++ List.replicate j (0 : UInt8)).length f) ?_
  refine ln wN slTy_22 (Rd.of_own g) ?_
  refine ar (a + (([(128 : UInt8)] ++ List.replicate j (0 : UInt8)).length : Int)) wN ?_
  refine ar ((a + (([(128 : UInt8)] ++ List.replicate j (0 : UInt8)).length : Int)) + 8) wN ?_
  refine wl_rem ((a + (([(128 : UInt8)] ++ List.replicate j (0 : UInt8)).length : Int)) + 8) 64 wN rfl rfl (by kernel_rfl) (by first | omega | assumption) ?_
  refine pu (vb (!(decide ((((a + (([(128 : UInt8)] ++ List.replicate j (0 : UInt8)).length : Int)) + 8) % 64) = 0)))) wN ?_
  refine n2 ?_
  rcases bf (decide ((((a + (([(128 : UInt8)] ++ List.replicate j (0 : UInt8)).length : Int)) + 8) % 64) = 0)) with m | m
  ·have ao := dF m
   refine ct (cA not m) ?_
   refine wc_skip <| wq_then <| wc_block <| wc_region ?_
   refine mw (vs e ([(128 : UInt8)] ++ List.replicate j (0 : UInt8)).length f) ?_
   refine ltB ([0] : List UInt8) wN slTy_22 ?_
   intro ap aq R t S
   have T := (own_kp g t)
   refine apB ([(128 : UInt8)] ++ List.replicate j (0 : UInt8)) ([0] : List UInt8) wN slTy_22 T (Rd.of_own S) (z3 r s t) ?_
   intro w x F G V au W
   have X := (E.extk t).ext G (fun k hk => nT o.size (own_lt g k hk).1)
   refine aw (vs w (([(128 : UInt8)] ++ List.replicate j (0 : UInt8)) ++ ([0] : List UInt8)).length x) ?_
   refine wl_nil <| wq_blk_normal ?_
   have H : ((([(128 : UInt8)] ++ List.replicate j (0 : UInt8)) ++ ([0] : List UInt8)) : List UInt8) = [(128 : UInt8)] ++ List.replicate (j + 1) (0 : UInt8) := by first | rfl | (rw [List.replicate_succ', List.append_assoc])
   refine wq_loopP (w0 := Q) [(0, (vi a)), (2, (vs none 0 0)), (3, (.slice w ([(128 : UInt8)] ++ List.replicate (j + 1) (0 : UInt8)).length x))] ?_ ?_ ?_
   · exact ⟨rfl, rfl, (cA (fun l : List UInt8 => Value.slice w l.length x) H), trivial⟩
   · exact fun u => ⟨(j + 1), u, w, x, rfl, X, ((((Ch.refl (fun k => h.heap.size ≤ k) A).ext s (fun k hk => hk)).extk t).ext G (fun k hk => nT (Nat.le_refl h.heap.size) (own_lt g k hk).1)), (by omega), (H ▸ ⟨V, W⟩)⟩
   · show 100 - ([(128 : UInt8)] ++ List.replicate (j + 1) (0 : UInt8)).length < 100 - ([(128 : UInt8)] ++ List.replicate j (0 : UInt8)).length; simp only [List.length_append, List.length_cons, List.length_nil, List.length_replicate]; omega
  have av := dT m
  refine cf (cA not m) ?_
  refine wc_exit <| wq_then_exit <| wq_then_exit <| wq_blk_exit <| wq_then <| sr ?_
  refine mw (vs e ([(128 : UInt8)] ++ List.replicate j (0 : UInt8)).length f) ?_
  refine ltB ([0, 0] : List UInt8) wN slTy_22 ?_
  intro ax ay R y Y
  have Z := (own_kp g y)
  refine apB ([(128 : UInt8)] ++ List.replicate j (0 : UInt8)) ([0, 0] : List UInt8) wN slTy_22 Z (Rd.of_own Y) (z3 r s y) ?_
  intro I J F K aa az ab
  have ac := (E.extk y).ext K (fun k hk => nT o.size (own_lt g k hk).1)
  refine aw (vs I (([(128 : UInt8)] ++ List.replicate j (0 : UInt8)) ++ ([0, 0] : List UInt8)).length J) ?_
  refine nx ?_
  refine mw (vs I (([(128 : UInt8)] ++ List.replicate j (0 : UInt8)) ++ ([0, 0] : List UInt8)).length J) ?_
  refine mw (vi a) ?_
  refine ar (8 * a) wN ?_
  refine cl wN (ciPutN F _ (([(128 : UInt8)] ++ List.replicate j (0 : UInt8)) ++ ([0, 0] : List UInt8)) (mR_22 (Rd.of_own aa) ab) (8 * a) 6 (by first | omega | (simp; done) | (simp; omega) | (simp only [List.length_append, List.length_cons, List.length_nil] at *; omega))) ?_
  rintro _ a0 ⟨ad, ⟨L, M, rfl, ae, af, a1⟩⟩
  have ah := ac.extk ad
  have a2 := putN_len (([(128 : UInt8)] ++ List.replicate j (0 : UInt8)) ++ ([0, 0] : List UInt8)) (8 * a) 6
  refine aw (vs L (putN (([(128 : UInt8)] ++ List.replicate j (0 : UInt8)) ++ ([0, 0] : List UInt8)) (8 * a) 6).length M) ?_
  refine n3 ?_
  refine rt (vs L (putN (([(128 : UInt8)] ++ List.replicate j (0 : UInt8)) ++ ([0, 0] : List UInt8)) (8 * a) 6).length M) ?_
  refine ⟨ah.keep0, ?_⟩
  have ai : padP a = (putN (([(128 : UInt8)] ++ List.replicate j (0 : UInt8)) ++ ([0, 0] : List UInt8)) (8 * a) 6) := by first | exact padP_f (by omega) | exact padP_i (by omega) (by omega) (by omega) (by omega)
  rw [ai]
  exact ⟨_, _, rfl, (own_lo ae (z5 o r s y K)), af, ⟨trivial, trivial⟩⟩

theorem ciwordBytes (b : World) (s : Value) (a : List Int) (J : R_32 b s a) (P : a.length = 8) : Fn Try.prog 167 #[s] b (fun v f => Keep b f ∧ O_22 f b.heap.size v (wordB a)) := by
 obtain ⟨g, h, rfl, p, Q⟩ := J
 refine fn_ofS (n := 18) [(vs g a.length h)] Try.func167 rfl rfl ?_
 refine sr ?_
 refine aw (vs none 0 0) ?_
 refine nx ?_
 refine wl_lit0 wN rfl rfl slTy_22 (fun w => by kernel_rfl) ?_
 intro q r t K
 have y := (Ch.base b).extk t
 refine aw (vs (some q) 0 0) ?_
 refine n4 ?_
 refine mw (vs g a.length h) ?_
 refine ln wN slTy_32 (p.from0 y) ?_
 refine mw (vi 0) ?_
 refine wl_nil <| wq_then <| wc_block ?_
 have A : ([] : List UInt8) = wordB (a.take 0) := by rfl
 have B : 0 = (wordB (a.take 0)).length := by rw [← A]; try (first | rfl | simp only [List.length_set] | simp)
 refine wc_loopP [(2, (vs none 0 0)), (3, (.slice (some q) (wordB (a.take 0)).length 0)), (7, (vs g a.length h)), (8, (vi (a.length : Int))), (9, (vi ((0 : Nat) : Int)))] ⟨rfl, rfl, rfl, rfl, (cA (Value.int .i64) (show (0 : Int) = ((0 : Nat) : Int) by omega)), trivial⟩ (fun e' f => ∃ (k : Nat) (C : Env) (d : Option Addr) (e : Nat), e' = pt C [(2, (vs none 0 0)), (3, (.slice d (wordB (a.take k)).length e)), (7, (vs g a.length h)), (8, (vi (a.length : Int))), (9, (vi ((k : Nat) : Int)))] ∧ Ch (fun k => b.heap.size ≤ k) b f ∧ Ch (fun k => b.heap.size ≤ k) r f ∧ k ≤ a.length ∧ (World.ownsRow f b.heap.size 5 1 (.slice d (wordB (a.take k)).length e) (wordB (a.take k)).length ((wordB (a.take k)).map bV) ∧ (wordB (a.take k)).length ≤ 1073741824)) (fun e' _ => a.length - ((intOf (e' 9))).toNat) ?_ ?_
 ·exact fun u => ⟨0, u, (some q), 0, rfl, y, (Ch.refl (fun k => b.heap.size ≤ k) r), (by omega), ⟨(by rw [← B, ← A]; exact K), (by rw [← B]; first | exact (by simp) | (simp only [List.length_append, List.length_take, List.length_replicate]; omega))⟩⟩
 ·rintro _ D ⟨k, C, d, e, rfl, j, E, R, ⟨F, G⟩⟩
  have hwl := wordB_len (a.take k)
  have htl : (a.take k).length = min k a.length := List.length_take
  refine sr ?_
  refine pu (vb (decide (((k : Nat) : Int) < (a.length : Int)))) wN ?_
  refine wl_nil <| wq_then <| wc_seq ?_
  rcases bf (decide (((k : Nat) : Int) < (a.length : Int))) with i | i
  ·have S := dF i
   refine cf i ?_
   refine wc_exit <| wq_then_exit <| wq_then_exit <| wq_blk_exit <| wq_then <| sr ?_
   refine mw (vs d (wordB (a.take k)).length e) ?_
   refine aw (vs d (wordB (a.take k)).length e) ?_
   refine n3 ?_
   refine rt (vs d (wordB (a.take k)).length e) ?_
   refine ⟨j.keep0, ?_⟩
   have L : wordB a = (wordB (a.take k)) := by exact wordB_end (by omega)
   rw [L]
   exact ⟨_, _, rfl, F, G, ⟨trivial, trivial⟩⟩
  have T := dT i
  refine ct i ?_
  refine wc_skip <| wq_then <| wc_seq <| wc_block <| sr ?_
  refine ix wN ((k : Nat) : Int) slTy_32 (p.from0 j) ?_
  refine ei (x := a) k wN isAgg_3 (p.from0 j) ?_
  refine aw (vi (a.getD k 0)) ?_
  refine wl_nil <| wq_then <| wc_region ?_
  refine mw (vs d (wordB (a.take k)).length e) ?_
  refine mw (vi (a.getD k 0)) ?_
  refine cl wN (ciPutN D _ (wordB (a.take k)) (mR_22 (Rd.of_own F) G) (a.getD k 0) 4 (by first | omega | (simp; done) | (simp; omega) | (simp only [List.length_append, List.length_cons, List.length_nil] at *; omega))) ?_
  rintro _ V ⟨H, ⟨m, o, rfl, M, N, W⟩⟩
  have O := j.extk H
  have X := putN_len (wordB (a.take k)) (a.getD k 0) 4
  refine aw (vs m (putN (wordB (a.take k)) (a.getD k 0) 4).length o) ?_
  refine wl_nil <| wq_blk_normal <| wq_then <| wc_region ?_
  refine ar (((k : Nat) : Int) + 1) wN ?_
  refine mw (vi (((k : Nat) : Int) + 1)) ?_
  refine wl_nil ?_
  have I : ((putN (wordB (a.take k)) (a.getD k 0) 4) : List UInt8) = wordB (a.take (k + 1)) := by exact wordB_next (by omega)
  refine wq_loopP (w0 := D) [(2, (vs none 0 0)), (3, (.slice m (wordB (a.take (k + 1))).length o)), (7, (vs g a.length h)), (8, (vi (a.length : Int))), (9, (vi (((k + 1) : Nat) : Int)))] ?_ ?_ ?_
  · exact ⟨rfl, (cA (fun l : List UInt8 => Value.slice m l.length o) I), rfl, rfl, (cA (Value.int .i64) (show ((((k : Nat) : Int) + 1) : Int) = (((k + 1) : Nat) : Int) by omega)), trivial⟩
  · exact fun u => ⟨(k + 1), u, m, o, rfl, O, (((Ch.refl (fun k => b.heap.size ≤ k) r).ext E (fun k hk => hk)).extk H), (by omega), (I ▸ ⟨(own_lo M (z2 t E)), N⟩)⟩
  · show a.length - ((((k + 1) : Nat) : Int)).toNat < a.length - (((k : Nat) : Int)).toNat; omega

def i_HashEnd (a : PHash) : (List UInt8) := bif (i_HashOk a) then ((wordB ((compAll a.H (joinB [a.Held, (padP a.N)])).1))) else ([])
theorem ciHashEnd (s : World) (I : Value) (a : PHash) (aa : R_132 s I a)  : Fn Try.prog 156 #[I] s (fun v J => Keep s J ∧ O_22 J s.heap.size v (i_HashEnd a)) := by
 obtain ⟨b, g, i, j, rfl, K, M, O, P⟩ := aa
 refine fn_ofS (n := 23) [(va (L_132 a b g i j))] Try.func156 rfl rfl ?_
 refine sr ?_
 refine bx (L_132 a b g i j) wN ?_
 intro q t bb bc Q B
 have E := (Ch.base s).extk Q
 refine aw (vs none 0 0) ?_
 refine n4 ?_
 refine lN (L_132 a b g i j) wN isAgg_132 sizeOf_132 B ?_
 refine cl wN (ciHashOk t _ a (mR_132 (K.from0 E) M (O.from0 E) P)) ?_
 rintro _ F ⟨u, rfl⟩
 have C := E.extk u
 refine pu (vb (!(i_HashOk a))) wN ?_
 refine n2 ?_
 rcases bf (i_HashOk a) with r | r
 ·refine ct (cA not r) ?_
  refine sr ?_
  refine aw (vs none 0 0) ?_
  refine n1 ?_
  refine rt (vs none 0 0) ?_
  refine ⟨C.keep0, ?_⟩
  simp only [i_HashEnd, r, cond_true, cond_false]
  exact ⟨_, _, rfl, (by first | exact own_nil _ _ _ _ | exact OLv.nil _ _ _ _), (by simp), ⟨trivial, trivial⟩⟩
 have bd := hashOk_t r
 refine cf (cA not r) ?_
 refine wc_skip <| wq_then <| wc_seq ?_
 refine wc_draw ([(9, [], [], (fun _ v _ => v = (vp q 0))), (10, [], [0], (fun _ v _ => v = (vs b a.H.length g))), (11, [], [], (fun _ v _ => v = (vp q 1))), (12, [], [2], (fun _ v _ => v = (vs i a.Held.length j))), (13, [], [], (fun _ v _ => v = (vp q 2))), (14, [], [4], (fun _ v _ => v = (vi a.N))), (15, [], [4, 5], (fun _ v w => ∃ (b : Option Addr) (f : Nat), v = .slice b (padP a.N).length f ∧ w.ownsRow (F.heap.size) 5 1 (.slice b (padP a.N).length f) (padP a.N).length ((padP a.N).map bV) ∧ (padP a.N).length ≤ 1073741824 ∧ Aps [(b, f)])), (16, [15], [2, 3, 4, 5, 6], (fun e v w => ∃ (b : Option Addr) (f : Nat), v = .slice b 2 f ∧ w.ownsRow F.heap.size 22 1 (.slice b 2 f) 2 [(vs i a.Held.length j), (e 15)])), (17, [15], [2, 3, 4, 5, 6, 7], (fun e v w => ∃ (b : Option Addr) (f : Nat), v = .slice b (joinB [a.Held, (padP a.N)]).length f ∧ w.ownsRow (F.heap.size) 5 1 (.slice b (joinB [a.Held, (padP a.N)]).length f) (joinB [a.Held, (padP a.N)]).length ((joinB [a.Held, (padP a.N)]).map bV) ∧ (joinB [a.Held, (padP a.N)]).length ≤ 1073741824 ∧ Aps [(b, f)] ∧ Ap (sp (e 15)) (b, f))), (18, [], [0, 1, 2, 3, 4, 5, 6, 7, 8], (fun _ v w => ∃ (b : Option Addr) (f : Nat) (R : Option Addr) (g : Nat), v = .tuple #[.slice b ((compAll a.H (joinB [a.Held, (padP a.N)])).1).length f, .slice R ((compAll a.H (joinB [a.Held, (padP a.N)])).2).length g] ∧ Rd w 1 (.slice b ((compAll a.H (joinB [a.Held, (padP a.N)])).1).length f) ((compAll a.H (joinB [a.Held, (padP a.N)])).1).length (((compAll a.H (joinB [a.Held, (padP a.N)])).1).map iV) ∧ ((compAll a.H (joinB [a.Held, (padP a.N)])).1).length ≤ 1073741824 ∧ Rd w 1 (.slice R ((compAll a.H (joinB [a.Held, (padP a.N)])).2).length g) ((compAll a.H (joinB [a.Held, (padP a.N)])).2).length (((compAll a.H (joinB [a.Held, (padP a.N)])).2).map bV) ∧ ((compAll a.H (joinB [a.Held, (padP a.N)])).2).length ≤ 1073741824)), (8, [18], [0, 1, 2, 3, 4, 5, 6, 7, 8, 9], (fun e v _ => v = (.tuple #[(tupAt (e 18) 0), (tupAt (e 18) 1)]))), (19, [18], [0, 1, 2, 3, 4, 5, 6, 7, 8, 9, 10], (fun e v _ => v = (tupAt (e 18) 0))), (20, [18], [0, 1, 2, 3, 4, 5, 6, 7, 8, 9, 10], (fun e v _ => v = (tupAt (e 18) 1))), (3, [18], [0, 1, 2, 3, 4, 5, 6, 7, 8, 9, 10, 11], (fun e v _ => v = (tupAt (e 18) 0)))] : GV) mixed rfl (by kernel_rfl) (by kernel_rfl) ?_ ?_ ?_
 ·exact ⟨hV, hE, ⟨hV, hE, ⟨hV, hE, ⟨hV, hE, ⟨hV, hE, ⟨hV, hE, ⟨(fun e v w t h hk => by obtain ⟨k, l, he, o, x, hap⟩ := h; exact ⟨k, l, he, own_kp o hk, x, hap⟩), hE, ⟨(fun e v w t h hk => by obtain ⟨k, l, he, o⟩ := h; exact ⟨k, l, he, own_kp o hk⟩), (fun y A v w hx h => by have G := hx 15 (by simp); simp only [G] at h; exact h), ⟨(fun e v w t h hk => by obtain ⟨k, l, he, o, x, hap, hx⟩ := h; exact ⟨k, l, he, own_kp o hk, x, hap, hx⟩), (fun y A v w hx h => by have G := hx 15 (by simp); simp only [G] at h; exact h), ⟨(fun e v w t h hk => by obtain ⟨k, l, ab, ac, he, o, x, ad, ae⟩ := h; exact ⟨k, l, ab, ac, he, Rd.kp o hk, x, Rd.kp ad hk, ae⟩), hE, ⟨hV, (fun y A v w hx h => by have p := hx 18 (by simp); simp only [p] at h; exact h), ⟨hV, (fun y A v w hx h => by have p := hx 18 (by simp); simp only [p] at h; exact h), ⟨hV, (fun y A v w hx h => by have p := hx 18 (by simp); simp only [p] at h; exact h), ⟨hV, (fun y A v w hx h => by have p := hx 18 (by simp); simp only [p] at h; exact h), trivial⟩⟩⟩⟩⟩⟩⟩⟩⟩⟩⟩⟩⟩⟩
 ·refine ⟨?_, ⟨?_, ⟨?_, ⟨?_, ⟨?_, ⟨?_, ⟨?_, ⟨?_, ⟨?_, ⟨?_, ⟨?_, ⟨?_, ⟨?_, ⟨?_, trivial⟩⟩⟩⟩⟩⟩⟩⟩⟩⟩⟩⟩⟩⟩
  ·intro d be
   rintro _ _ _ _ _ _ _ _ _ _ _ _ _ _
   show WL _ _ _ _ _ _ _
   refine pu (vp q 0) wN ?_
   exact f2
  ·intro d af
   rintro _ rfl _ _ _ _ _ _ _ _ _ _ _ _ _
   show WL _ _ _ _ _ _ _
   have ah := ((B.kp u).kp af)
   refine ld (vs b a.H.length g) wN isAgg_32 ah ?_
   exact f2
  ·intro d bg
   rintro _ _ _ _ _ _ _ _ _ _ _ _ _ _
   show WL _ _ _ _ _ _ _
   refine pu (vp q 1) wN ?_
   exact f2
  ·intro d ai
   rintro _ _ _ rfl _ _ _ _ _ _ _ _ _ _ _
   show WL _ _ _ _ _ _ _
   have aj := ((B.kp u).kp ai)
   refine ld (vs i a.Held.length j) wN isAgg_22 aj ?_
   exact f2
  ·intro d bh
   rintro _ _ _ _ _ _ _ _ _ _ _ _ _ _
   show WL _ _ _ _ _ _ _
   refine pu (vp q 2) wN ?_
   exact f2
  ·intro d ak
   rintro _ _ _ _ _ rfl _ _ _ _ _ _ _ _ _
   show WL _ _ _ _ _ _ _
   have am := ((B.kp u).kp ak)
   refine ld (vi a.N) wN isAgg_3 am ?_
   exact f2
  ·intro d an
   rintro _ _ _ _ _ rfl _ rfl _ _ _ _ _ _ _ _
   show WL _ _ _ _ _ _ _
   refine cl wN (ciPad d a.N) ?_
   rintro _ D ⟨ao, ⟨bi, bj, rfl, ap, aq, au⟩⟩
   have bk := padP_len a.N
   exact wl_fin ao ⟨_, _, rfl, (own_lo ap an.size), aq, au⟩
  ·intro d av
   rintro _ _ _ rfl _ rfl _ rfl _ rfl _ ⟨ax, ay, rfl, _⟩
   have bl := padP_len a.N
   rintro _ _ _ _ _ _ _
   show WL _ _ _ _ _ _ _
   refine wl_lit [(vs i a.Held.length j), (vs ax (padP a.N).length ay)] wN rfl rfl slTy_40 (m := 2) rfl (by simp only [maxLen]; omega) (fun w => by kernel_rfl) ?_
   intro bm D az S
   obtain ⟨bn, bo, rfl⟩ := own_form S
   exact wl_fin az ⟨_, _, rfl, own_lo S av.size⟩
  ·intro d T
   have a0 := C.extk T
   rintro _ _ _ rfl _ rfl _ rfl _ rfl _ ⟨a1, a2, rfl, V, a3, bp⟩
   have bq := padP_len a.N
   rintro _ ⟨br, bu, rfl, a4⟩ _ _ _ _ _ _
   show WL _ _ _ _ _ _ _
   refine cl wN (cijoined d _ [a.Held, (padP a.N)] (mR_40 (RLv.mk (L := LT_22) [(a.Held, [(i, j)]), ((padP a.N), [(a1, a2)])] (Rd.of_own a4) rfl ⟨⟨⟨(O.from0 a0), P⟩, trivial⟩, ⟨⟨⟨(Rd.of_own V), a3⟩, trivial⟩, trivial⟩⟩ (by first | decide | exact Nat.le_of_ble_eq_true rfl)) (by first | decide | exact Nat.le_of_ble_eq_true rfl)) (by first | omega | (rw [joinB_l2]; omega) | (rw [joinB_l2]; simp only [List.length_cons, List.length_nil, maskB_len]; omega) | (rw [joinB_l3]; simp only [List.length_cons, List.length_nil, maskB_len]; omega) | (simp only [joinB, List.flatten_cons, List.flatten_nil, List.length_append, List.length_cons, List.length_nil, maskB_len]; omega))) ?_
   rintro _ D ⟨a5, ⟨bv, bw, rfl, W, a6, a7⟩⟩
   exact wl_fin a5 ⟨_, _, rfl, (own_lo W T.size), a6, a7, (Ap.lt V W (Nat.le_refl _))⟩
  ·intro d a8
   have a9 := C.extk a8
   rintro _ rfl _ rfl _ rfl _ rfl _ rfl _ rfl _ ⟨bz, b0, rfl, _⟩
   have b1 := padP_len a.N
   rintro _ ⟨b2, b3, rfl, b4⟩ _ ⟨b5, b6, rfl, aA, aB, _⟩ _ _ _ _ _
   show WL _ _ _ _ _ _ _
   refine cl wN (cicompressAll d _ a.H (mR_32 (K.from0 a9) M) _ (joinB [a.Held, (padP a.N)]) (mR_22 (Rd.of_own aA) aB)) ?_
   rintro _ D ⟨aC, ⟨b7, b8, b9, bA, rfl, aD, aE, aF, aG⟩⟩
   exact wl_fin aC ⟨_, _, _, _, rfl, aD, aE, aF, aG⟩
  ·intro d bB
   rintro _ rfl _ rfl _ rfl _ rfl _ rfl _ rfl _ ⟨bC, bD, rfl, _⟩
   have bE := padP_len a.N
   rintro _ ⟨bF, bG, rfl, bH⟩ _ ⟨bI, bJ, rfl, _⟩ _ ⟨aH, aI, aJ, aK, rfl, _⟩ _ _ _ _
   show WL _ _ _ _ _ _ _
   refine mw (.tuple #[(vs aH ((compAll a.H (joinB [a.Held, (padP a.N)])).1).length aI), (vs aJ ((compAll a.H (joinB [a.Held, (padP a.N)])).2).length aK)]) ?_
   exact f2
  ·intro d bK
   rintro _ rfl _ rfl _ rfl _ rfl _ rfl _ rfl _ ⟨bL, bM, rfl, _⟩
   have bN := padP_len a.N
   rintro _ ⟨bO, bP, rfl, bQ⟩ _ ⟨bR, bS, rfl, _⟩ _ ⟨aL, aM, bT, bU, rfl, _⟩ _ rfl _ _ _
   show WL _ _ _ _ _ _ _
   refine pu (vs aL ((compAll a.H (joinB [a.Held, (padP a.N)])).1).length aM) wN ?_
   exact f2
  ·intro d bW
   rintro _ rfl _ rfl _ rfl _ rfl _ rfl _ rfl _ ⟨bX, bY, rfl, _⟩
   have bZ := padP_len a.N
   rintro _ ⟨ca, cb, rfl, cc⟩ _ ⟨cd, ce, rfl, _⟩ _ ⟨cg, ci, aN, aO, rfl, _⟩ _ rfl _ _ _
   show WL _ _ _ _ _ _ _
   refine pu (vs aN ((compAll a.H (joinB [a.Held, (padP a.N)])).2).length aO) wN ?_
   exact f2
  ·intro d cj
   rintro _ rfl _ rfl _ rfl _ rfl _ rfl _ rfl _ ⟨ck, cm, rfl, _⟩
   have cn := padP_len a.N
   rintro _ ⟨co, cp, rfl, cq⟩ _ ⟨cr, cs, rfl, _⟩ _ ⟨aP, aQ, cu, cv, rfl, _⟩ _ rfl _ rfl _ _
   show WL _ _ _ _ _ _ _
   refine aw (vs aP ((compAll a.H (joinB [a.Held, (padP a.N)])).1).length aQ) ?_
   exact f2
 ·intro d X
  rintro _ rfl _ rfl _ rfl _ rfl _ rfl _ rfl _ ⟨cw, cx, rfl, _⟩
  have cy := padP_len a.N
  rintro _ ⟨cz, c0, rfl, c1⟩ _ ⟨c2, c3, rfl, _⟩ _ ⟨aR, aS, aT, aU, rfl, aV, aW, _⟩ _ rfl _ rfl _ rfl _ rfl
  show WL _ _ _ _ _ _ _
  refine aw (vs aT ((compAll a.H (joinB [a.Held, (padP a.N)])).2).length aU) ?_
  refine nx ?_
  refine mw (vs aR ((compAll a.H (joinB [a.Held, (padP a.N)])).1).length aS) ?_
  refine cl wN (ciwordBytes d _ ((compAll a.H (joinB [a.Held, (padP a.N)])).1) (mR_32 aV aW) (by first | omega | exact foldK_len k0_w _ | exact compAll_len (by first | assumption | exact (hashOk_t (by assumption)).1))) ?_
  rintro _ D ⟨aX, ⟨Y, Z, rfl, aY, aZ, c4⟩⟩
  have ba := (C.extk X).extk aX
  refine aw (vs Y (wordB ((compAll a.H (joinB [a.Held, (padP a.N)])).1)).length Z) ?_
  refine n3 ?_
  refine rt (vs Y (wordB ((compAll a.H (joinB [a.Held, (padP a.N)])).1)).length Z) ?_
  refine ⟨ba.keep0, ?_⟩
  simp only [i_HashEnd, r, cond_true, cond_false]
  exact ⟨_, _, rfl, (own_lo aY (z3 Q u X)), aZ, ⟨trivial, trivial⟩⟩

theorem shaI (b : List UInt8) (h : b.length ≤ 1048576) : i_HashEnd (i_HashAdd i_HashNew b) = sha b := by
  have a : i_HashOk i_HashNew = true := rfl
  have hA : i_HashAdd i_HashNew b = { H := (compAll k0 b).1, Held := (compAll k0 b).2, N := (b.length : Int) : PHash } := by
    have d : decide (1048576 - i_HashNew.N < (b.length : Int)) = false := decide_eq_false (by show ¬ (1048576 - 0 < (b.length : Int)); omega)
    simp only [i_HashAdd, a, d, cond_true, cond_false]
    simp [i_HashNew, joinB, i_clone]
  have hO : i_HashOk { H := (compAll k0 b).1, Held := (compAll k0 b).2, N := (b.length : Int) : PHash } = true := by
    have hw : areW (compAll k0 b).1 8 = true := foldK_w k0_w _
    have hl : (compAll k0 b).2.length = b.length - 64 * (b.length / 64) := List.length_drop
    simp only [i_HashOk, hw, hl, i_within, cond_true, cond_eq_ite]
    (repeat' split) <;> first | rfl | (exfalso; simp_all; done) | (rw [decide_eq_true_eq]; omega) | (exfalso; simp at *; omega)
  rw [hA, sha_parts h]
  have hp : padP (b.length : Int) = pad b.length := padP_eq (by omega) (by omega)
  simp only [i_HashEnd, hO, cond_true, hp]
  simp [joinB]
theorem ciSha (b : World) (g : Value) (a : List UInt8) (p : R_22 b g a)  : Fn Try.prog 147 #[g] b (fun v h => Keep b h ∧ O_22 h b.heap.size v (sha a)) := by
 obtain ⟨e, f, rfl, i, q⟩ := p
 refine fn_ofS (n := 10) [(vs e a.length f)] Try.func147 rfl rfl ?_
 refine sr ?_
 refine aw (vs none 0 0) ?_
 refine n4 ?_
 refine mw (vs e a.length f) ?_
 refine ln wN slTy_22 i ?_
 refine pu (vb (decide (1048576 < (a.length : Int)))) wN ?_
 refine n2 ?_
 rcases bt (decide (1048576 < (a.length : Int))) with d | d
 ·have J := dT d
  refine ct d ?_
  refine sr ?_
  refine aw (vs none 0 0) ?_
  refine n1 ?_
  refine rt (vs none 0 0) ?_
  refine ⟨Ch.refl _ _, ?_⟩
  have r : sha a = [] := by first | exact sha_f (by omega) | exact (shaI a (by omega)).symm
  rw [r]
  exact ⟨_, _, rfl, (by first | exact own_nil _ _ _ _ | exact OLv.nil _ _ _ _), (by simp), ⟨trivial, trivial⟩⟩
 have K := dF d
 refine cf d ?_
 refine y1 ?_
 refine cl wN (ciHashNew b ) ?_
 rintro _ s ⟨j, ⟨L, M, N, O, rfl, t, u, w, x, P⟩⟩
 have k := (Ch.base b).extk j
 refine mw (vs e a.length f) ?_
 refine cl wN (ciHashAdd s _ (i_HashNew) (mR_132 (Rd.of_own t) u (Rd.of_own w) x) _ a (mR_22 (i.from0 k) q)) ?_
 rintro _ y ⟨l, ⟨Q, R, S, T, rfl, A, B, C, D, V⟩⟩
 refine cl wN (ciHashEnd y _ (i_HashAdd (i_HashNew) a) (mR_132 (Rd.of_own A) B (Rd.of_own C) D)) ?_
 rintro _ W ⟨E, ⟨m, o, rfl, F, G, X⟩⟩
 have H := (k.extk l).extk E
 refine aw (vs m (i_HashEnd (i_HashAdd (i_HashNew) a)).length o) ?_
 refine n3 ?_
 refine rt (vs m (i_HashEnd (i_HashAdd (i_HashNew) a)).length o) ?_
 refine ⟨H.keep0, ?_⟩
 have I : sha a = (i_HashEnd (i_HashAdd (i_HashNew) a)) := by first | exact sha_f (by omega) | exact (shaI a (by omega)).symm
 rw [I]
 exact ⟨_, _, rfl, (own_lo F (z2 j l)), G, ⟨trivial, trivial⟩⟩

theorem ciBlockKey (b : World) (K : Value) (a : List UInt8) (ab : R_22 b K a)  : Fn Try.prog 146 #[K] b (fun v f => Keep b f ∧ O_22 f b.heap.size v (blockKey a)) := by
 obtain ⟨h, i, rfl, w, L⟩ := ab
 refine fn_ofS (n := 21) [(vs h a.length i)] Try.func146 rfl rfl ?_
 refine sr ?_
 refine aw (vs none 0 0) ?_
 refine n4 ?_
 refine mw (vs h a.length i) ?_
 refine ln wN slTy_22 w ?_
 refine pu (vb (decide (1048576 < (a.length : Int)))) wN ?_
 refine n2 ?_
 rcases bt (decide (1048576 < (a.length : Int))) with m | m
 ·have a3 := dT m
  refine ct m ?_
  refine sr ?_
  refine aw (vs none 0 0) ?_
  refine n1 ?_
  refine rt (vs none 0 0) ?_
  refine ⟨Ch.refl _ _, ?_⟩
  have ac : blockKey a = [] := by first | exact blockKey_f (by omega) | exact blockKey_l (by omega) (by omega) (by omega) (by simp only [List.length_append, List.length_replicate] at *; omega) | exact blockKey_s (by omega) (by omega) (by simp only [List.length_append, List.length_replicate] at *; omega)
  rw [ac]
  exact ⟨_, _, rfl, (by first | exact own_nil _ _ _ _ | exact OLv.nil _ _ _ _), (by simp), ⟨trivial, trivial⟩⟩
 have a4 := dF m
 refine cf m ?_
 refine y1 ?_
 refine mw (vs h a.length i) ?_
 refine cl wN (ciclone b _ a (mR_22 w L)) ?_
 rintro _ g ⟨x, ⟨y, A, rfl, ad, ae, a5⟩⟩
 have B := (Ch.base b).extk x
 refine aw (vs y (a).length A) ?_
 refine n4 ?_
 refine mw (vs h a.length i) ?_
 refine ln wN slTy_22 (w.from0 B) ?_
 refine pu (vb (decide (64 < (a.length : Int)))) wN ?_
 refine n2 ?_
 rcases bf (decide (64 < (a.length : Int))) with o | o
 ·have a6 := dF o
  refine cf o ?_
  refine wc_skip <| wq_then <| wc_seq <| wc_block ?_
  have M : ((a) : List UInt8) = (a) ++ List.replicate 0 (0 : UInt8) := by simp
  refine wc_loopP [(2, (vs none 0 0)), (3, (.slice y ((a) ++ List.replicate 0 (0 : UInt8)).length A))] ⟨rfl, (cA (fun l : List UInt8 => Value.slice y l.length A) M), trivial⟩ (fun e' f => ∃ (j : Nat) (N : Env) (d : Option Addr) (e : Nat), e' = pt N [(2, (vs none 0 0)), (3, (.slice d ((a) ++ List.replicate j (0 : UInt8)).length e))] ∧ Ch (fun k => b.heap.size ≤ k) b f ∧ Ch (fun k => b.heap.size ≤ k) g f ∧ (a).length + j ≤ 64 ∧ (World.ownsRow f b.heap.size 5 1 (.slice d ((a) ++ List.replicate j (0 : UInt8)).length e) ((a) ++ List.replicate j (0 : UInt8)).length (((a) ++ List.replicate j (0 : UInt8)).map bV) ∧ ((a) ++ List.replicate j (0 : UInt8)).length ≤ 1073741824)) (fun e' _ => 64 - (lenOf (e' 3))) ?_ ?_
  ·exact fun u => ⟨0, u, y, A, rfl, B, (Ch.refl (fun k => b.heap.size ≤ k) g), (by omega), (M ▸ ⟨ad, ae⟩)⟩
  ·rintro _ p ⟨j, N, d, e, rfl, O, P, a7, ⟨q, af⟩⟩
   have hol : ((a) ++ List.replicate j (0 : UInt8)).length = (a).length + j := by rw [List.length_append, List.length_replicate]
   refine wc_seq <| sr ?_
   refine mw (vs d ((a) ++ List.replicate j (0 : UInt8)).length e) ?_
   refine ln wN slTy_22 (Rd.of_own q) ?_
   refine pu (vb (decide ((((a) ++ List.replicate j (0 : UInt8)).length : Int) < 64))) wN ?_
   refine n2 ?_
   rcases bf (decide ((((a) ++ List.replicate j (0 : UInt8)).length : Int) < 64)) with r | r
   ·have a8 := dF r
    refine cf r ?_
    refine wc_exit <| wq_then_exit <| wq_then_exit <| wq_blk_exit <| wq_then <| sr ?_
    refine mw (vs d ((a) ++ List.replicate j (0 : UInt8)).length e) ?_
    refine aw (vs d ((a) ++ List.replicate j (0 : UInt8)).length e) ?_
    refine n3 ?_
    refine rt (vs d ((a) ++ List.replicate j (0 : UInt8)).length e) ?_
    refine ⟨O.keep0, ?_⟩
    have ah : blockKey a = ((a) ++ List.replicate j (0 : UInt8)) := by first | exact blockKey_f (by omega) | exact blockKey_l (by omega) (by omega) (by omega) (by simp only [List.length_append, List.length_replicate] at *; omega) | exact blockKey_s (by omega) (by omega) (by simp only [List.length_append, List.length_replicate] at *; omega)
    rw [ah]
    exact ⟨_, _, rfl, q, af, ⟨trivial, trivial⟩⟩
   have a9 := dT r
   refine ct r ?_
   refine wc_skip <| wq_then <| wc_block <| wc_region ?_
   refine mw (vs d ((a) ++ List.replicate j (0 : UInt8)).length e) ?_
   refine ltB ([0] : List UInt8) wN slTy_22 ?_
   intro aA aB Q C ai
   have aj := (own_kp q C)
   refine apB ((a) ++ List.replicate j (0 : UInt8)) ([0] : List UInt8) wN slTy_22 aj (Rd.of_own ai) (z3 x P C) ?_
   intro D E ak R am aC an
   have ao := (O.extk C).ext R (fun k hk => nT (Nat.le_refl b.heap.size) (own_lt q k hk).1)
   refine aw (vs D (((a) ++ List.replicate j (0 : UInt8)) ++ ([0] : List UInt8)).length E) ?_
   refine wl_nil <| wq_blk_normal ?_
   have S : ((((a) ++ List.replicate j (0 : UInt8)) ++ ([0] : List UInt8)) : List UInt8) = (a) ++ List.replicate (j + 1) (0 : UInt8) := by rw [List.replicate_succ', List.append_assoc]
   refine wq_loopP (w0 := p) [(2, (vs none 0 0)), (3, (.slice D ((a) ++ List.replicate (j + 1) (0 : UInt8)).length E))] ?_ ?_ ?_
   · exact ⟨rfl, (cA (fun l : List UInt8 => Value.slice D l.length E) S), trivial⟩
   · exact fun u => ⟨(j + 1), u, D, E, rfl, ao, ((((Ch.refl (fun k => b.heap.size ≤ k) g).ext P (fun k hk => hk)).extk C).ext R (fun k hk => nT (Nat.le_refl b.heap.size) (own_lt q k hk).1)), (by omega), (S ▸ ⟨am, an⟩)⟩
   · show 64 - ((a) ++ List.replicate (j + 1) (0 : UInt8)).length < 64 - ((a) ++ List.replicate j (0 : UInt8)).length; simp only [List.length_append, List.length_replicate]; omega
 have aD := dT o
 refine ct o ?_
 refine wc_region ?_
 refine mw (vs h a.length i) ?_
 refine cl wN (ciSha g _ a (mR_22 (w.from0 B) L)) ?_
 rintro _ p ⟨T, ⟨F, G, rfl, ap, aq, aE⟩⟩
 have au := B.extk T
 have aF := sha_le a
 refine aw (vs F (sha a).length G) ?_
 refine wl_nil <| wq_then <| wc_seq <| wc_block ?_
 have V : ((sha a) : List UInt8) = (sha a) ++ List.replicate 0 (0 : UInt8) := by simp
 refine wc_loopP [(2, (vs none 0 0)), (3, (.slice F ((sha a) ++ List.replicate 0 (0 : UInt8)).length G))] ⟨rfl, (cA (fun l : List UInt8 => Value.slice F l.length G) V), trivial⟩ (fun e' f => ∃ (j : Nat) (W : Env) (d : Option Addr) (e : Nat), e' = pt W [(2, (vs none 0 0)), (3, (.slice d ((sha a) ++ List.replicate j (0 : UInt8)).length e))] ∧ Ch (fun k => b.heap.size ≤ k) b f ∧ Ch (fun k => g.heap.size ≤ k) p f ∧ (sha a).length + j ≤ 64 ∧ (World.ownsRow f g.heap.size 5 1 (.slice d ((sha a) ++ List.replicate j (0 : UInt8)).length e) ((sha a) ++ List.replicate j (0 : UInt8)).length (((sha a) ++ List.replicate j (0 : UInt8)).map bV) ∧ ((sha a) ++ List.replicate j (0 : UInt8)).length ≤ 1073741824)) (fun e' _ => 64 - (lenOf (e' 3))) ?_ ?_
 ·exact fun u => ⟨0, u, F, G, rfl, au, (Ch.refl (fun k => g.heap.size ≤ k) p), (by omega), (V ▸ ⟨ap, aq⟩)⟩
 ·rintro _ Q ⟨j, W, d, e, rfl, X, Y, aG, ⟨s, av⟩⟩
  have hol : ((sha a) ++ List.replicate j (0 : UInt8)).length = (sha a).length + j := by rw [List.length_append, List.length_replicate]
  refine wc_seq <| sr ?_
  refine mw (vs d ((sha a) ++ List.replicate j (0 : UInt8)).length e) ?_
  refine ln wN slTy_22 (Rd.of_own s) ?_
  refine pu (vb (decide ((((sha a) ++ List.replicate j (0 : UInt8)).length : Int) < 64))) wN ?_
  refine n2 ?_
  rcases bf (decide ((((sha a) ++ List.replicate j (0 : UInt8)).length : Int) < 64)) with t | t
  ·have aH := dF t
   refine cf t ?_
   refine wc_exit <| wq_then_exit <| wq_then_exit <| wq_blk_exit <| wq_then <| sr ?_
   refine mw (vs d ((sha a) ++ List.replicate j (0 : UInt8)).length e) ?_
   refine aw (vs d ((sha a) ++ List.replicate j (0 : UInt8)).length e) ?_
   refine n3 ?_
   refine rt (vs d ((sha a) ++ List.replicate j (0 : UInt8)).length e) ?_
   refine ⟨X.keep0, ?_⟩
   have ax : blockKey a = ((sha a) ++ List.replicate j (0 : UInt8)) := by first | exact blockKey_f (by omega) | exact blockKey_l (by omega) (by omega) (by omega) (by simp only [List.length_append, List.length_replicate] at *; omega) | exact blockKey_s (by omega) (by omega) (by simp only [List.length_append, List.length_replicate] at *; omega)
   rw [ax]
   exact ⟨_, _, rfl, (own_lo s x.size), av, ⟨trivial, trivial⟩⟩
  have aI := dT t
  refine ct t ?_
  refine wc_skip <| wq_then <| wc_block <| wc_region ?_
  refine mw (vs d ((sha a) ++ List.replicate j (0 : UInt8)).length e) ?_
  refine ltB ([0] : List UInt8) wN slTy_22 ?_
  intro aJ aK ak H ay
  have az := (own_kp s H)
  refine apB ((sha a) ++ List.replicate j (0 : UInt8)) ([0] : List UInt8) wN slTy_22 az (Rd.of_own ay) (z3 T Y H) ?_
  intro I J aL Z a0 aM a1
  have a2 := (X.extk H).ext Z (fun k hk => nT x.size (own_lt s k hk).1)
  refine aw (vs I (((sha a) ++ List.replicate j (0 : UInt8)) ++ ([0] : List UInt8)).length J) ?_
  refine wl_nil <| wq_blk_normal ?_
  have aa : ((((sha a) ++ List.replicate j (0 : UInt8)) ++ ([0] : List UInt8)) : List UInt8) = (sha a) ++ List.replicate (j + 1) (0 : UInt8) := by rw [List.replicate_succ', List.append_assoc]
  refine wq_loopP (w0 := Q) [(2, (vs none 0 0)), (3, (.slice I ((sha a) ++ List.replicate (j + 1) (0 : UInt8)).length J))] ?_ ?_ ?_
  · exact ⟨rfl, (cA (fun l : List UInt8 => Value.slice I l.length J) aa), trivial⟩
  · exact fun u => ⟨(j + 1), u, I, J, rfl, a2, ((((Ch.refl (fun k => g.heap.size ≤ k) p).ext Y (fun k hk => hk)).extk H).ext Z (fun k hk => nT (Nat.le_refl g.heap.size) (own_lt s k hk).1)), (by omega), (aa ▸ ⟨a0, a1⟩)⟩
  · show 64 - ((sha a) ++ List.replicate (j + 1) (0 : UInt8)).length < 64 - ((sha a) ++ List.replicate j (0 : UInt8)).length; simp only [List.length_append, List.length_replicate]; omega

theorem cimasked (d : World) (B : Value) (a : List UInt8) (K : R_22 d B a) (b : UInt8)  : Fn Try.prog 148 #[B, (v8 ((b).toNat : Int))] d (fun v g => Keep d g ∧ O_22 g d.heap.size v (maskB a b)) := by
 obtain ⟨h, i, rfl, s, V⟩ := K
 refine fn_ofS (n := 23) [(vs h a.length i), (v8 ((b).toNat : Int))] Try.func148 rfl rfl ?_
 refine sr ?_
 refine aw (vs none 0 0) ?_
 refine nx ?_
 refine wl_lit0 wN rfl rfl slTy_22 (fun w => by kernel_rfl) ?_
 intro t A C L
 have D := (Ch.base d).extk C
 refine aw (vs (some t) 0 0) ?_
 refine n4 ?_
 refine mw (vs h a.length i) ?_
 refine ln wN slTy_22 (s.from0 D) ?_
 refine mw (vi 0) ?_
 refine wl_nil <| wq_then <| wc_block ?_
 have E : ([] : List UInt8) = (a.take 0).map (fun y => y ^^^ b) := by rfl
 have F : 0 = ((a.take 0).map (fun y => y ^^^ b)).length := by rw [← E]; try (first | rfl | simp only [List.length_set] | simp)
 refine wc_loopP [(1, (v8 ((b).toNat : Int))), (4, (vs none 0 0)), (5, (.slice (some t) ((a.take 0).map (fun y => y ^^^ b)).length 0)), (9, (vs h a.length i)), (10, (vi (a.length : Int))), (11, (vi ((0 : Nat) : Int)))] ⟨rfl, rfl, rfl, rfl, rfl, (cA (Value.int .i64) (show (0 : Int) = ((0 : Nat) : Int) by omega)), trivial⟩ (fun e' g => ∃ (k : Nat) (G : Env) (e : Option Addr) (f : Nat), e' = pt G [(1, (v8 ((b).toNat : Int))), (4, (vs none 0 0)), (5, (.slice e ((a.take k).map (fun y => y ^^^ b)).length f)), (9, (vs h a.length i)), (10, (vi (a.length : Int))), (11, (vi ((k : Nat) : Int)))] ∧ Ch (fun k => d.heap.size ≤ k) d g ∧ Ch (fun k => d.heap.size ≤ k) A g ∧ k ≤ a.length ∧ (World.ownsRow g d.heap.size 5 1 (.slice e ((a.take k).map (fun y => y ^^^ b)).length f) ((a.take k).map (fun y => y ^^^ b)).length (((a.take k).map (fun y => y ^^^ b)).map bV) ∧ ((a.take k).map (fun y => y ^^^ b)).length ≤ 1073741824)) (fun e' _ => a.length - ((intOf (e' 11))).toNat) ?_ ?_
 ·exact fun u => ⟨0, u, (some t), 0, rfl, D, (Ch.refl (fun k => d.heap.size ≤ k) A), (by omega), ⟨(by rw [← F, ← E]; exact L), (by rw [← F]; first | exact (by simp) | (simp only [List.length_append, List.length_take, List.length_replicate]; omega))⟩⟩
 ·rintro _ M ⟨k, G, e, f, rfl, m, H, W, ⟨o, N⟩⟩
  have hml : ((a.take k).map (fun y => y ^^^ b)).length = min k a.length := by rw [List.length_map, List.length_take]
  refine sr ?_
  refine pu (vb (decide (((k : Nat) : Int) < (a.length : Int)))) wN ?_
  refine wl_nil <| wq_then <| wc_seq ?_
  rcases bf (decide (((k : Nat) : Int) < (a.length : Int))) with j | j
  ·have X := dF j
   refine cf j ?_
   refine wc_exit <| wq_then_exit <| wq_then_exit <| wq_blk_exit <| wq_then <| sr ?_
   refine mw (vs e ((a.take k).map (fun y => y ^^^ b)).length f) ?_
   refine aw (vs e ((a.take k).map (fun y => y ^^^ b)).length f) ?_
   refine n3 ?_
   refine rt (vs e ((a.take k).map (fun y => y ^^^ b)).length f) ?_
   refine ⟨m.keep0, ?_⟩
   have O : maskB a b = ((a.take k).map (fun y => y ^^^ b)) := by exact (map_end (by omega)).symm
   rw [O]
   exact ⟨_, _, rfl, o, N, ⟨trivial, trivial⟩⟩
  have Y := dT j
  refine ct j ?_
  refine wc_skip <| wq_then <| wc_seq <| wc_block <| sr ?_
  refine ix wN ((k : Nat) : Int) slTy_22 (s.from0 m) ?_
  refine eb (x := a) k wN isAgg_5 (s.from0 m) ?_
  refine aw (v8 ((a.getD k 0).toNat : Int)) ?_
  refine wl_nil <| wq_then <| wc_region ?_
  refine mw (vs e ((a.take k).map (fun y => y ^^^ b)).length f) ?_
  refine mw (v8 ((a.getD k 0).toNat : Int)) ?_
  refine mw (v8 ((b).toNat : Int)) ?_
  refine wl_xor8 (a.getD k 0) (b) wN rfl rfl (by kernel_rfl) ?_
  refine ltB ([((a.getD k 0) ^^^ (b))] : List UInt8) wN slTy_22 ?_
  intro Z aa ab p P
  have Q := (own_kp o p)
  refine apB ((a.take k).map (fun y => y ^^^ b)) ([((a.getD k 0) ^^^ (b))] : List UInt8) wN slTy_22 Q (Rd.of_own P) (z3 C H p) ?_
  intro q r ac I R ad S
  have T := (m.extk p).ext I (fun k hk => nT (Nat.le_refl d.heap.size) (own_lt o k hk).1)
  refine aw (vs q (((a.take k).map (fun y => y ^^^ b)) ++ ([((a.getD k 0) ^^^ (b))] : List UInt8)).length r) ?_
  refine wl_nil <| wq_blk_normal <| wq_then <| wc_region ?_
  refine ar (((k : Nat) : Int) + 1) wN ?_
  refine mw (vi (((k : Nat) : Int) + 1)) ?_
  refine wl_nil ?_
  have J : ((((a.take k).map (fun y => y ^^^ b)) ++ ([((a.getD k 0) ^^^ (b))] : List UInt8)) : List UInt8) = (a.take (k + 1)).map (fun y => y ^^^ b) := by exact map_next (z := 0) (by omega)
  refine wq_loopP (w0 := M) [(1, (v8 ((b).toNat : Int))), (4, (vs none 0 0)), (5, (.slice q ((a.take (k + 1)).map (fun y => y ^^^ b)).length r)), (9, (vs h a.length i)), (10, (vi (a.length : Int))), (11, (vi (((k + 1) : Nat) : Int)))] ?_ ?_ ?_
  · exact ⟨rfl, rfl, (cA (fun l : List UInt8 => Value.slice q l.length r) J), rfl, rfl, (cA (Value.int .i64) (show ((((k : Nat) : Int) + 1) : Int) = (((k + 1) : Nat) : Int) by omega)), trivial⟩
  · exact fun u => ⟨(k + 1), u, q, r, rfl, T, ((((Ch.refl (fun k => d.heap.size ≤ k) A).ext H (fun k hk => hk)).extk p).ext I (fun k hk => nT (Nat.le_refl d.heap.size) (own_lt o k hk).1)), (by omega), (J ▸ ⟨R, S⟩)⟩
  · show a.length - ((((k + 1) : Nat) : Int)).toNat < a.length - (((k : Nat) : Int)).toNat; omega

theorem ciHmac (e : World) (u : Value) (a : List UInt8) (V : R_22 e u a) (x : Value) (b : List UInt8) (W : R_22 e x b)  : Fn Try.prog 123 #[u, x] e (fun v y => Keep e y ∧ O_22 y e.heap.size v (hmac a b)) := by
 obtain ⟨i, j, rfl, A, X⟩ := V
 obtain ⟨f, g, rfl, B, Y⟩ := W
 refine fn_ofS (n := 27) [(vs i a.length j), (vs f b.length g)] Try.func123 rfl rfl ?_
 refine sr ?_
 refine aw (vs none 0 0) ?_
 refine n4 ?_
 refine jT1 [(0, (vs i a.length j)), (1, (vs f b.length g)), (4, (vs none 0 0))] (hmac a b = []) ?_ fun C => ?_
 ·intro Z D aa aA
  have ab := (Ch.base e).extk aa
  refine sr ?_
  refine aw (vs none 0 0) ?_
  refine n1 ?_
  refine rt (vs none 0 0) ?_
  refine ⟨ab.keep0, ?_⟩
  rw [Z]
  exact ⟨_, _, rfl, (by first | exact own_nil _ _ _ _ | exact OLv.nil _ _ _ _), (by simp), ⟨trivial, trivial⟩⟩
 refine mw (vs i a.length j) ?_
 refine ln wN slTy_22 A ?_
 refine pu (vb (decide (1048576 < (a.length : Int)))) wN ?_
 refine mw (vb (decide (1048576 < (a.length : Int)))) ?_
 rcases bt (decide (1048576 < (a.length : Int))) with d | d
 ·have aB := dT d
  iterate 3 refine sk d ?_
  refine pk (vb true) wN d ?_
  refine n2 ?_
  refine ct (Eq.refl true) ?_
  have ac : hmac a b = [] := by first | exact hmac_f (by omega) | exact hmac_g (by omega) (by omega) | exact hmac_i (by omega) (by omega)
  exact wj (C ac _ (Ch.refl _ _))
 have aC := dF d
 refine mv (vs f b.length g) (wS d) ?_
 refine ln (wS d) slTy_22 B ?_
 refine pu (vb (decide (1048512 < (b.length : Int)))) (wS d) ?_
 refine pf (vb (decide (1048512 < (b.length : Int)))) wN d ?_
 refine n2 ?_
 rcases bt (decide (1048512 < (b.length : Int))) with h | h
 ·have aD := dT h
  refine ct h ?_
  have ad : hmac a b = [] := by first | exact hmac_f (by omega) | exact hmac_g (by omega) (by omega) | exact hmac_i (by omega) (by omega)
  exact wj (C ad _ (Ch.refl _ _))
 have aE := dF h
 refine cf h ?_
 refine y1 ?_
 refine mw (vs i a.length j) ?_
 refine cl wN (ciBlockKey e _ a (mR_22 A X)) ?_
 rintro _ D ⟨E, ⟨o, p, rfl, F, G, aF⟩⟩
 have aG := blockKey_le a
 refine aw (vs o (blockKey a).length p) ?_
 refine nx ?_
 refine mw (vs o (blockKey a).length p) ?_
 refine cl wN (cimasked D _ (blockKey a) (mR_22 (Rd.of_own F) G) 92) ?_
 rintro _ ae ⟨q, ⟨H, I, rfl, af, ah, aH⟩⟩
 have ai := ((Ch.base e).extk E).extk q
 have aI := maskB_len (blockKey a) 92
 refine mw (vs o (blockKey a).length p) ?_
 have aj := (own_kp F q)
 refine cl wN (cimasked ae _ (blockKey a) (mR_22 (Rd.of_own aj) G) 54) ?_
 rintro _ aJ ⟨r, ⟨J, K, rfl, ak, am, aK⟩⟩
 have aL := maskB_len (blockKey a) 54
 refine mw (vs f b.length g) ?_
 refine wl_lit [(vs J (maskB (blockKey a) 54).length K), (vs f b.length g)] wN rfl rfl slTy_40 (m := 2) rfl (by simp only [maxLen]; omega) (fun w => by kernel_rfl) ?_
 intro aM an k M
 obtain ⟨aN, aO, rfl⟩ := own_form M
 have N := (ai.extk r).extk k
 have ao := (own_kp ak k)
 refine cl wN (cijoined an _ [(maskB (blockKey a) 54), b] (mR_40 (RLv.mk (L := LT_22) [((maskB (blockKey a) 54), [(J, K)]), (b, [(f, g)])] (Rd.of_own M) rfl ⟨⟨⟨(Rd.of_own ao), am⟩, trivial⟩, ⟨⟨⟨(B.from0 N), Y⟩, trivial⟩, trivial⟩⟩ (by first | decide | exact Nat.le_of_ble_eq_true rfl)) (by first | decide | exact Nat.le_of_ble_eq_true rfl)) (by first | omega | (rw [joinB_l2]; omega) | (rw [joinB_l2]; simp only [List.length_cons, List.length_nil, maskB_len]; omega) | (rw [joinB_l3]; simp only [List.length_cons, List.length_nil, maskB_len]; omega) | (simp only [joinB, List.flatten_cons, List.flatten_nil, List.length_append, List.length_cons, List.length_nil, maskB_len]; omega))) ?_
 rintro _ ap ⟨s, ⟨aP, aQ, rfl, aq, au, aR⟩⟩
 refine cl wN (ciSha ap _ (joinB [(maskB (blockKey a) 54), b]) (mR_22 (Rd.of_own aq) au)) ?_
 rintro _ aS ⟨t, ⟨O, P, rfl, av, ax, aT⟩⟩
 have ay := (N.extk s).extk t
 have aU := sha_le (joinB [(maskB (blockKey a) 54), b])
 refine wl_lit [(vs H (maskB (blockKey a) 92).length I), (vs O (sha (joinB [(maskB (blockKey a) 54), b])).length P)] wN rfl rfl slTy_40 (m := 2) rfl (by simp only [maxLen]; omega) (fun w => by kernel_rfl) ?_
 intro aV az l Q
 obtain ⟨aW, aX, rfl⟩ := own_form Q
 have a0 := (own_kp av l)
 have a1 := (own_kp (own_kp (own_kp (own_kp (own_kp af r) k) s) t) l)
 refine cl wN (cijoined az _ [(maskB (blockKey a) 92), (sha (joinB [(maskB (blockKey a) 54), b]))] (mR_40 (RLv.mk (L := LT_22) [((maskB (blockKey a) 92), [(H, I)]), ((sha (joinB [(maskB (blockKey a) 54), b])), [(O, P)])] (Rd.of_own Q) rfl ⟨⟨⟨(Rd.of_own a1), ah⟩, trivial⟩, ⟨⟨⟨(Rd.of_own a0), ax⟩, trivial⟩, trivial⟩⟩ (by first | decide | exact Nat.le_of_ble_eq_true rfl)) (by first | decide | exact Nat.le_of_ble_eq_true rfl)) (by first | omega | (rw [joinB_l2]; omega) | (rw [joinB_l2]; simp only [List.length_cons, List.length_nil, maskB_len]; omega) | (rw [joinB_l3]; simp only [List.length_cons, List.length_nil, maskB_len]; omega) | (simp only [joinB, List.flatten_cons, List.flatten_nil, List.length_append, List.length_cons, List.length_nil, maskB_len]; omega))) ?_
 rintro _ a2 ⟨R, ⟨aY, aZ, rfl, a3, a4, ba⟩⟩
 refine cl wN (ciSha a2 _ (joinB [(maskB (blockKey a) 92), (sha (joinB [(maskB (blockKey a) 54), b]))]) (mR_22 (Rd.of_own a3) a4)) ?_
 rintro _ bb ⟨a5, ⟨S, T, rfl, a6, a7, bc⟩⟩
 have a8 := ((ay.extk l).extk R).extk a5
 have bd := sha_le (joinB [(maskB (blockKey a) 92), (sha (joinB [(maskB (blockKey a) 54), b]))])
 refine aw (vs S (sha (joinB [(maskB (blockKey a) 92), (sha (joinB [(maskB (blockKey a) 54), b]))])).length T) ?_
 refine n3 ?_
 refine rt (vs S (sha (joinB [(maskB (blockKey a) 92), (sha (joinB [(maskB (blockKey a) 54), b]))])).length T) ?_
 refine ⟨a8.keep0, ?_⟩
 have a9 : hmac a b = (sha (joinB [(maskB (blockKey a) 92), (sha (joinB [(maskB (blockKey a) 54), b]))])) := by first | exact hmac_f (by omega) | exact hmac_g (by omega) (by omega) | exact hmac_i (by omega) (by omega)
 rw [a9]
 exact ⟨_, _, rfl, (own_lo a6 (z8 E q r k s t l R)), a7, ⟨trivial, trivial⟩⟩

theorem ciExpand (e : World) (Y : Value) (b : List UInt8) (ay : R_22 e Y b) (Z : Value) (a : List UInt8) (az : R_22 e Z a) (d : Int)  : Fn Try.prog 92 #[Y, Z, (vi d)] e (fun v p => Keep e p ∧ O_22_4 p e.heap.size v (expand b a d)) := by
 obtain ⟨q, r, rfl, aa, a0⟩ := ay
 obtain ⟨f, h, rfl, ab, a1⟩ := az
 refine fn_ofS (n := 48) [(vs q b.length r), (vs f a.length h), (vi d)] Try.func92 rfl rfl ?_
 refine sr ?_
 refine aw (vs none 0 0) ?_
 refine aw (vb false) ?_
 refine n4 ?_
 refine jT1 [(0, (vs q b.length r)), (1, (vs f a.length h)), (2, (vi d)), (6, (vs none 0 0)), (7, (vb false))] (expand b a d = ([], false)) ?_ fun P => ?_
 ·intro a2 x a3 bb
  have a4 := (Ch.base e).extk a3
  refine sr ?_
  refine aw (vs none 0 0) ?_
  refine aw (vb false) ?_
  refine n1 ?_
  refine ret_2 (.inl rfl) (vs none 0 0) (vb false) rfl rfl rfl ?_
  refine ⟨a4.keep0, ?_⟩
  rw [a2]
  exact ⟨_, _, rfl, (by first | exact own_nil _ _ _ _ | exact OLv.nil _ _ _ _), (by simp), ⟨trivial, trivial⟩⟩
 refine mw (vi d) ?_
 refine cl wN (ciwithin e d 0 8160) ?_
 rintro _ x ⟨y, rfl⟩
 have Q := (Ch.base e).extk y
 refine pu (vb (!(i_within d 0 8160))) wN ?_
 refine mw (vb (!(i_within d 0 8160))) ?_
 rcases bf (i_within d 0 8160) with i | i
 ·have bc := impl_within_f i
  iterate 3 refine sk (cA not i) ?_
  refine pk (vb true) wN (cA not i) ?_
  refine mw (vb true) ?_
  iterate 3 refine sk (Eq.refl true) ?_
  refine pk (vb true) wN (Eq.refl true) ?_
  refine n2 ?_
  refine ct (Eq.refl true) ?_
  have a5 : expand b a d = ([], false) := by first | exact expand_f (by omega) | exact expand_t (by omega) (by omega) (by omega) (by omega) (by omega) (by omega)
  exact wj (P a5 _ y)
 have bd := impl_within_t i
 refine mv (vs f a.length h) (wS (cA not i)) ?_
 refine ln (wS (cA not i)) slTy_22 (ab.from0 Q) ?_
 refine pu (vb (decide (100 < (a.length : Int)))) (wS (cA not i)) ?_
 refine pf (vb (decide (100 < (a.length : Int)))) wN (cA not i) ?_
 refine mw (vb (decide (100 < (a.length : Int)))) ?_
 rcases bt (decide (100 < (a.length : Int))) with j | j
 ·have be := dT j
  iterate 3 refine sk j ?_
  refine pk (vb true) wN j ?_
  refine n2 ?_
  refine ct (Eq.refl true) ?_
  have a6 : expand b a d = ([], false) := by first | exact expand_f (by omega) | exact expand_t (by omega) (by omega) (by omega) (by omega) (by omega) (by omega)
  exact wj (P a6 _ y)
 have bg := dF j
 refine mv (vs q b.length r) (wS j) ?_
 refine ln (wS j) slTy_22 (aa.from0 Q) ?_
 refine pu (vb (decide (1048576 < (b.length : Int)))) (wS j) ?_
 refine pf (vb (decide (1048576 < (b.length : Int)))) wN j ?_
 refine n2 ?_
 rcases bt (decide (1048576 < (b.length : Int))) with F | F
 ·have bh := dT F
  refine ct F ?_
  have a7 : expand b a d = ([], false) := by first | exact expand_f (by omega) | exact expand_t (by omega) (by omega) (by omega) (by omega) (by omega) (by omega)
  exact wj (P a7 _ y)
 have bi := dF F
 refine cf F ?_
 refine y1 ?_
 refine wl_lit0 wN rfl rfl slTy_22 (fun w => by kernel_rfl) ?_
 intro R a8 S a9
 refine aw (vs (some R) 0 0) ?_
 refine nx ?_
 refine wl_lit0 wN rfl rfl slTy_22 (fun w => by kernel_rfl) ?_
 intro T V G aA
 have aB := (Q.extk S).extk G
 refine aw (vs (some T) 0 0) ?_
 refine n4 ?_
 refine aw (vi 1) ?_
 refine wl_nil <| wq_then <| wc_block ?_
 have aC := (own_kp a9 G)
 have ac : ([] : List UInt8) = (expN b a 0).1 := by rfl
 have ad : 0 = ((expN b a 0).1).length := by rw [← ac]; try (first | rfl | simp only [List.length_set] | simp)
 have ae : ([] : List UInt8) = (expN b a 0).2 := by rfl
 have af : 0 = ((expN b a 0).2).length := by rw [← ae]; try (first | rfl | simp only [List.length_set] | simp)
 refine wc_loopP [(0, (vs q b.length r)), (1, (vs f a.length h)), (2, (vi d)), (6, (vs none 0 0)), (7, (vb false)), (8, (.slice (some R) ((expN b a 0).1).length 0)), (9, (.slice (some T) ((expN b a 0).2).length 0)), (10, (vi (((0 : Nat) : Int) + 1)))] ⟨rfl, rfl, rfl, rfl, rfl, rfl, rfl, (cA (Value.int .i64) (show (1 : Int) = (((0 : Nat) : Int) + 1) by omega)), trivial⟩ (fun e' p => ∃ (k : Nat) (ah : Env) (A : Option Addr) (B : Nat) (C : Option Addr) (D : Nat), e' = pt ah [(0, (vs q b.length r)), (1, (vs f a.length h)), (2, (vi d)), (6, (vs none 0 0)), (7, (vb false)), (8, (.slice A ((expN b a k).1).length B)), (9, (.slice C ((expN b a k).2).length D)), (10, (vi (((k : Nat) : Int) + 1)))] ∧ Ch (fun k => e.heap.size ≤ k) e p ∧ Ch (fun k => x.heap.size ≤ k) V p ∧ 32 * ((k : Nat) : Int) < d + 32 ∧ (World.ownsRow p x.heap.size 5 1 (.slice A ((expN b a k).1).length B) ((expN b a k).1).length (((expN b a k).1).map bV) ∧ ((expN b a k).1).length ≤ 1073741824) ∧ (World.ownsRow p a8.heap.size 5 1 (.slice C ((expN b a k).2).length D) ((expN b a k).2).length (((expN b a k).2).map bV) ∧ ((expN b a k).2).length ≤ 1073741824)) (fun e' _ => d.toNat - (lenOf (e' 8))) ?_ ?_
 ·exact fun u => ⟨0, u, (some R), 0, (some T), 0, rfl, aB, (Ch.refl (fun k => x.heap.size ≤ k) V), (by omega), ⟨(by rw [← ad, ← ac]; exact aC), (by rw [← ad]; first | exact (by simp) | (simp only [List.length_append, List.length_take, List.length_replicate]; omega))⟩, ⟨(by rw [← af, ← ae]; exact aA), (by rw [← af]; first | exact (by simp) | (simp only [List.length_append, List.length_take, List.length_replicate]; omega))⟩⟩
 ·rintro _ ai ⟨k, ah, A, B, C, D, rfl, aj, K, bj, ⟨s, aD⟩, ⟨aE, aF⟩⟩
  have hxl := expN_len (prk := b) (info := a) (by omega) (by omega) k
  have hxm := expN_len (prk := b) (info := a) (by omega) (by omega) (k + 1)
  refine wc_seq <| sr ?_
  refine mw (vs A ((expN b a k).1).length B) ?_
  refine ln wN slTy_22 (Rd.of_own s) ?_
  refine mw (vi d) ?_
  refine pu (vb (decide ((((expN b a k).1).length : Int) < d))) wN ?_
  refine n2 ?_
  rcases bf (decide ((((expN b a k).1).length : Int) < d)) with H | H
  ·have bk := dF H
   refine cf H ?_
   refine wc_exit <| wq_then_exit <| wq_then_exit <| wq_blk_exit <| wq_then <| sr ?_
   refine mw (vs A ((expN b a k).1).length B) ?_
   refine mw (vi d) ?_
   refine slv (((expN b a k).1).take ((d).toNat)) 0 ((d).toNat) wN slTy_22 (Rd.of_own s) (by first | omega | (simp <;> omega)) (by first | omega | (simp <;> omega)) (by first | rfl | (simp; done) | (rw [List.take_of_length_le (by first | (simp; done) | (simp; omega))])) rfl rfl rfl rfl (.inl ⟨rfl, rfl⟩) (.inr ⟨_, _, _, rfl, rfl, by omega⟩) ?_
   have aG : 0 ≤ ((d).toNat) := (by first | omega | (simp <;> omega))
   have aH : ((d).toNat) ≤ ((expN b a k).1).length := (by first | omega | (simp <;> omega))
   refine cl wN (ciclone ai _ (((expN b a k).1).take ((d).toNat)) (mR_22 (Rd.subV (x' := (((expN b a k).1).take ((d).toNat))) (Rd.of_own s) aG aH (by first | rfl | (simp; done) | (rw [List.take_of_length_le (by first | (simp; done) | (simp; omega))]))) (nT (by simp only [List.length_take, List.length_drop]; omega) aD))) ?_
   rintro _ aI ⟨aJ, ⟨ak, am, rfl, aK, aL, bl⟩⟩
   have aM := aj.extk aJ
   refine aw (vs ak ((((expN b a k).1).take ((d).toNat))).length am) ?_
   refine aw (vb true) ?_
   refine n3 ?_
   refine ret_2 (.inl rfl) (vs ak ((((expN b a k).1).take ((d).toNat))).length am) (vb true) rfl rfl rfl ?_
   refine ⟨aM.keep0, ?_⟩
   have aN : expand b a d = (((((expN b a k).1).take ((d).toNat))), true) := by first | exact expand_f (by omega) | exact expand_t (by omega) (by omega) (by omega) (by omega) (by omega) (by omega)
   rw [aN]
   exact ⟨_, _, rfl, (own_lo aK (z4 y S G K)), aL, ⟨trivial, trivial⟩⟩
  have bm := dT H
  refine ct H ?_
  refine wc_skip <| wq_then <| wc_seq <| wc_block <| sr ?_
  refine mw (vs q b.length r) ?_
  refine mw (vs C ((expN b a k).2).length D) ?_
  refine mw (vs f a.length h) ?_
  refine mw (vi (((k : Nat) : Int) + 1)) ?_
  refine wl_conv8 (((k : Nat) : Int) + 1) wN rfl rfl (by kernel_rfl) ?_
  refine ltB ([(by8 (((k : Nat) : Int) + 1))] : List UInt8) wN slTy_22 ?_
  intro an ao aI t aO
  refine wl_lit [(vs C ((expN b a k).2).length D), (vs f a.length h), (vs an ([(by8 (((k : Nat) : Int) + 1))] : List UInt8).length ao)] wN rfl rfl slTy_40 (m := 3) rfl (by simp only [maxLen]; omega) (fun w => by kernel_rfl) ?_
  intro bn aP o ap
  obtain ⟨bo, bp, rfl⟩ := own_form ap
  have aq := (aj.extk t).extk o
  have aQ := (own_kp aO o)
  have aR := (own_kp (own_kp aE t) o)
  refine cl wN (cijoined aP _ [((expN b a k).2), a, ([(by8 (((k : Nat) : Int) + 1))] : List UInt8)] (mR_40 (RLv.mk (L := LT_22) [(((expN b a k).2), [(C, D)]), (a, [(f, h)]), (([(by8 (((k : Nat) : Int) + 1))] : List UInt8), [(an, ao)])] (Rd.of_own ap) rfl ⟨⟨⟨(Rd.of_own aR), aF⟩, trivial⟩, ⟨⟨⟨(ab.from0 aq), a1⟩, trivial⟩, ⟨⟨⟨(Rd.of_own aQ), (by simp)⟩, trivial⟩, trivial⟩⟩⟩ (by first | decide | exact Nat.le_of_ble_eq_true rfl)) (by first | decide | exact Nat.le_of_ble_eq_true rfl)) (by first | omega | (rw [joinB_l2]; omega) | (rw [joinB_l2]; simp only [List.length_cons, List.length_nil, maskB_len]; omega) | (rw [joinB_l3]; simp only [List.length_cons, List.length_nil, maskB_len]; omega) | (simp only [joinB, List.flatten_cons, List.flatten_nil, List.length_append, List.length_cons, List.length_nil, maskB_len]; omega))) ?_
  rintro _ aS ⟨E, ⟨bq, br, rfl, aT, aU, bu⟩⟩
  have au := aq.extk E
  refine cl wN (ciHmac aS _ b (mR_22 (aa.from0 au) a0) _ (joinB [((expN b a k).2), a, ([(by8 (((k : Nat) : Int) + 1))] : List UInt8)]) (mR_22 (Rd.of_own aT) aU)) ?_
  rintro _ bv ⟨M, ⟨I, J, rfl, W, aV, bw⟩⟩
  have bz := hmac_le b (joinB [((expN b a k).2), a, ([(by8 (((k : Nat) : Int) + 1))] : List UInt8)])
  refine aw (vs I (hmac b (joinB [((expN b a k).2), a, ([(by8 (((k : Nat) : Int) + 1))] : List UInt8)])).length J) ?_
  refine wl_nil <| wq_then <| wc_region ?_
  refine mw (vs A ((expN b a k).1).length B) ?_
  refine mw (vs I (hmac b (joinB [((expN b a k).2), a, ([(by8 (((k : Nat) : Int) + 1))] : List UInt8)])).length J) ?_
  have aW := (own_kp (own_kp (own_kp (own_kp s t) o) E) M)
  refine apB ((expN b a k).1) (hmac b (joinB [((expN b a k).2), a, ([(by8 (((k : Nat) : Int) + 1))] : List UInt8)])) wN slTy_22 aW (Rd.of_own W) (z7 S G K t o E M) ?_
  intro N O b0 X aX b1 aY
  have aZ := (au.extk M).ext X (fun k hk => nT y.size (own_lt s k hk).1)
  refine aw (vs N (((expN b a k).1) ++ (hmac b (joinB [((expN b a k).2), a, ([(by8 (((k : Nat) : Int) + 1))] : List UInt8)]))).length O) ?_
  refine wl_nil <| wq_blk_normal <| wq_then <| wc_region ?_
  refine mw (vi (((k : Nat) : Int) + 1)) ?_
  refine ar ((((k : Nat) : Int) + 1) + 1) wN ?_
  refine aw (vi ((((k : Nat) : Int) + 1) + 1)) ?_
  refine wl_nil ?_
  have av : ((((expN b a k).1) ++ (hmac b (joinB [((expN b a k).2), a, ([(by8 (((k : Nat) : Int) + 1))] : List UInt8)]))) : List UInt8) = (expN b a (k + 1)).1 := by exact expN_1 _ _ _ (by simp [joinB])
  have ba := (own_ch W X (fun g hg hlt hk => by have b2 := (own_lt W g hg).1; have b3 := (own_lt s g hk).2; have b4 := (z3 t o E); omega))
  have ax : ((hmac b (joinB [((expN b a k).2), a, ([(by8 (((k : Nat) : Int) + 1))] : List UInt8)])) : List UInt8) = (expN b a (k + 1)).2 := by exact expN_2 _ _ _ (by simp [joinB])
  refine wq_loopP (w0 := ai) [(0, (vs q b.length r)), (1, (vs f a.length h)), (2, (vi d)), (6, (vs none 0 0)), (7, (vb false)), (8, (.slice N ((expN b a (k + 1)).1).length O)), (9, (.slice I ((expN b a (k + 1)).2).length J)), (10, (vi ((((k + 1) : Nat) : Int) + 1)))] ?_ ?_ ?_
  · exact ⟨rfl, rfl, rfl, rfl, rfl, (cA (fun l : List UInt8 => Value.slice N l.length O) av), (cA (fun l : List UInt8 => Value.slice I l.length J) ax), (cA (Value.int .i64) (show (((((k : Nat) : Int) + 1) + 1) : Int) = ((((k + 1) : Nat) : Int) + 1) by omega)), trivial⟩
  · exact fun u => ⟨(k + 1), u, N, O, I, J, rfl, aZ, (((((((Ch.refl (fun k => x.heap.size ≤ k) V).ext K (fun k hk => hk)).extk t).extk o).extk E).extk M).ext X (fun k hk => nT (Nat.le_refl x.heap.size) (own_lt s k hk).1)), (by omega), (av ▸ ⟨aX, aY⟩), (ax ▸ ⟨(own_lo ba (z5 G K t o E)), aV⟩)⟩
  · show d.toNat - ((expN b a (k + 1)).1).length < d.toNat - ((expN b a k).1).length; omega

theorem ciDerive (d : World) (g : Value) (b : List UInt8) (o : R_22 d g b) (h : Value) (a : ByteArray) (p : R_9 d h a) (B : (strB a).length ≤ 100) : Fn Try.prog 57 #[g, h] d (fun v i => Keep d i ∧ O_22 i d.heap.size v (derive b a)) := by
 obtain ⟨j, k, rfl, q, r⟩ := o
 obtain rfl := p
 refine fn_ofS (n := 15) [(vs j b.length k), (.string a)] Try.func57 rfl rfl ?_
 refine sr ?_
 refine aw (vs none 0 0) ?_
 refine nx ?_
 refine mw (vs j b.length k) ?_
 refine mw (.string a) ?_
 refine wl_s2b a wN rfl rfl rfl rfl Try.underlying9 Try.underlying22 Try.underlying5 (by first | omega | (simp only [strB_mk]; decide)) ?_
 intro C D s l t
 have m := (Ch.base d).extk l
 refine cl wN (ciExpand s _ b (mR_22 (q.from0 m) r) _ (strB a) (mR_22 t (by first | omega | (simp only [strB_mk]; decide))) 32) ?_
 rintro _ E ⟨u, ⟨e, f, rfl, w, x, F⟩⟩
 have y := m.extk u
 have G := expand_le b (strB a) 32
 refine mw (.tuple #[(vs e ((expand b (strB a) 32).1).length f), (vb ((expand b (strB a) 32).2))]) ?_
 refine pu (vs e ((expand b (strB a) 32).1).length f) wN ?_
 refine pu (vb ((expand b (strB a) 32).2)) wN ?_
 refine aw (vs e ((expand b (strB a) 32).1).length f) ?_
 refine aw (vb ((expand b (strB a) 32).2)) ?_
 refine nx ?_
 refine mw (vs e ((expand b (strB a) 32).1).length f) ?_
 refine aw (vs e ((expand b (strB a) 32).1).length f) ?_
 refine n3 ?_
 refine rt (vs e ((expand b (strB a) 32).1).length f) ?_
 refine ⟨y.keep0, ?_⟩
 have A : derive b a = (expand b (strB a) 32).1 := by rfl
 rw [A]
 exact ⟨_, _, rfl, (own_lo w l.size), x, ⟨trivial, trivial⟩⟩

theorem ciChain (d : World) (w : Value) (a : List UInt8) (L : R_22 d w a) (b : Int)  : Fn Try.prog 17 #[w, (vi b)] d (fun v g => Keep d g ∧ O_22 g d.heap.size v (chain a b)) := by
 obtain ⟨x, y, rfl, M, N⟩ := L
 refine fn_ofS (n := 20) [(vs x a.length y), (vi b)] Try.func17 rfl rfl ?_
 refine sr ?_
 refine aw (vs none 0 0) ?_
 refine n4 ?_
 refine mw (vi b) ?_
 refine cl wN (ciwithin d b 0 64) ?_
 rintro _ h ⟨A, rfl⟩
 have s := (Ch.base d).extk A
 refine pu (vb (!(i_within b 0 64))) wN ?_
 refine n2 ?_
 rcases bf (i_within b 0 64) with j | j
 ·have X := impl_within_f j
  refine ct (cA not j) ?_
  refine sr ?_
  refine aw (vs none 0 0) ?_
  refine n1 ?_
  refine rt (vs none 0 0) ?_
  refine ⟨s.keep0, ?_⟩
  have O : chain a b = [] := by first | exact chain_f (by omega) | exact chain_t (by omega) (by omega) (by omega)
  rw [O]
  exact ⟨_, _, rfl, (by first | exact own_nil _ _ _ _ | exact OLv.nil _ _ _ _), (by simp), ⟨trivial, trivial⟩⟩
 have Y := impl_within_t j
 refine cf (cA not j) ?_
 refine y1 ?_
 refine mw (vs x a.length y) ?_
 refine cl wN (ciclone h _ a (mR_22 (M.from0 s) N)) ?_
 rintro _ t ⟨B, ⟨o, p, rfl, P, Q, Z⟩⟩
 have R := s.extk B
 refine aw (vs o (a).length p) ?_
 refine n4 ?_
 refine aw (vi 0) ?_
 refine wl_nil <| wq_then <| wc_block ?_
 have C : ((a) : List UInt8) = chainN a 0 := by rfl
 refine wc_loopP [(1, (vi b)), (4, (vs none 0 0)), (5, (.slice o (chainN a 0).length p)), (6, (vi ((0 : Nat) : Int)))] ⟨rfl, rfl, (cA (fun l : List UInt8 => Value.slice o l.length p) C), (cA (Value.int .i64) (show (0 : Int) = ((0 : Nat) : Int) by omega)), trivial⟩ (fun e' g => ∃ (i : Nat) (D : Env) (e : Option Addr) (f : Nat), e' = pt D [(1, (vi b)), (4, (vs none 0 0)), (5, (.slice e (chainN a i).length f)), (6, (vi ((i : Nat) : Int)))] ∧ Ch (fun k => d.heap.size ≤ k) d g ∧ Ch (fun k => h.heap.size ≤ k) t g ∧ ((i : Nat) : Int) ≤ b ∧ (World.ownsRow g h.heap.size 5 1 (.slice e (chainN a i).length f) (chainN a i).length ((chainN a i).map bV) ∧ (chainN a i).length ≤ 1073741824)) (fun e' _ => (b - (intOf (e' 6))).toNat) ?_ ?_
 ·exact fun u => ⟨0, u, o, p, rfl, R, (Ch.refl (fun k => h.heap.size ≤ k) t), (by omega), (C ▸ ⟨P, Q⟩)⟩
 ·rintro _ E ⟨i, D, e, f, rfl, F, G, aa, ⟨H, I⟩⟩
  have hcl := chainN_le a i
  refine wc_seq <| sr ?_
  refine mw (vi ((i : Nat) : Int)) ?_
  refine mw (vi b) ?_
  refine pu (vb (decide (((i : Nat) : Int) < b))) wN ?_
  refine n2 ?_
  rcases bf (decide (((i : Nat) : Int) < b)) with m | m
  ·have ab := dF m
   refine cf m ?_
   refine wc_exit <| wq_then_exit <| wq_then_exit <| wq_blk_exit <| wq_then <| sr ?_
   refine mw (vs e (chainN a i).length f) ?_
   refine aw (vs e (chainN a i).length f) ?_
   refine n3 ?_
   refine rt (vs e (chainN a i).length f) ?_
   refine ⟨F.keep0, ?_⟩
   have S : chain a b = (chainN a i) := by first | exact chain_f (by omega) | exact chain_t (by omega) (by omega) (by omega)
   rw [S]
   exact ⟨_, _, rfl, (own_lo H A.size), I, ⟨trivial, trivial⟩⟩
  have ac := dT m
  refine ct m ?_
  refine wc_skip <| wq_then <| wc_seq <| wc_block <| wc_region ?_
  refine mw (vs e (chainN a i).length f) ?_
  refine cl wN (ciDerive E _ (chainN a i) (mR_22 (Rd.of_own H) I) _ (ByteArray.mk ([114, 101, 107, 101, 121] : List UInt8).toArray) (mR_9) (by first | omega | decide)) ?_
  rintro _ ad ⟨J, ⟨q, r, rfl, T, V, ae⟩⟩
  have W := F.extk J
  have af := derive_le (chainN a i) (ByteArray.mk ([114, 101, 107, 101, 121] : List UInt8).toArray)
  refine aw (vs q (derive (chainN a i) (ByteArray.mk ([114, 101, 107, 101, 121] : List UInt8).toArray)).length r) ?_
  refine wl_nil <| wq_blk_normal <| wq_then <| wc_region ?_
  refine mw (vi ((i : Nat) : Int)) ?_
  refine ar (((i : Nat) : Int) + 1) wN ?_
  refine aw (vi (((i : Nat) : Int) + 1)) ?_
  refine wl_nil ?_
  have K : ((derive (chainN a i) (ByteArray.mk ([114, 101, 107, 101, 121] : List UInt8).toArray)) : List UInt8) = chainN a (i + 1) := by rfl
  refine wq_loopP (w0 := E) [(1, (vi b)), (4, (vs none 0 0)), (5, (.slice q (chainN a (i + 1)).length r)), (6, (vi (((i + 1) : Nat) : Int)))] ?_ ?_ ?_
  · exact ⟨rfl, rfl, (cA (fun l : List UInt8 => Value.slice q l.length r) K), (cA (Value.int .i64) (show ((((i : Nat) : Int) + 1) : Int) = (((i + 1) : Nat) : Int) by omega)), trivial⟩
  · exact fun u => ⟨(i + 1), u, q, r, rfl, W, (((Ch.refl (fun k => h.heap.size ≤ k) t).ext G (fun k hk => hk)).extk J), (by omega), (K ▸ ⟨(own_lo T (z2 B G)), V⟩)⟩
  · show (b - (((i + 1) : Nat) : Int)).toNat < (b - ((i : Nat) : Int)).toNat; omega

def b_Equal (a : List UInt8) (b : List UInt8) : (Bool) := (eqS (ByteArray.mk a.toArray) (ByteArray.mk b.toArray))
theorem cbEqual (d : World) (e : Value) (a : List UInt8) (l : R_22 d e a) (f : Value) (b : List UInt8) (m : R_22 d f b)  : Fn Try.prog 49 #[e, f] d (fun v g => Keep d g ∧ O_4 g d.heap.size v (b_Equal a b)) := by
 obtain ⟨h, i, rfl, o, r⟩ := l
 obtain ⟨j, k, rfl, p, s⟩ := m
 refine fn_ofS (n := 10) [(vs h a.length i), (vs j b.length k)] Try.func49 rfl rfl ?_
 refine sr ?_
 refine aw (vb false) ?_
 refine nx ?_
 refine mw (vs h a.length i) ?_
 refine wl_b2s a wN rfl rfl rfl rfl Try.underlying22 Try.underlying5 Try.underlying9 o ?_
 refine mw (vs j b.length k) ?_
 refine wl_b2s b wN rfl rfl rfl rfl Try.underlying22 Try.underlying5 Try.underlying9 p ?_
 refine pu (vb (eqS (ByteArray.mk a.toArray) (ByteArray.mk b.toArray))) wN ?_
 refine aw (vb (eqS (ByteArray.mk a.toArray) (ByteArray.mk b.toArray))) ?_
 refine n3 ?_
 refine rt (vb (eqS (ByteArray.mk a.toArray) (ByteArray.mk b.toArray))) ?_
 refine ⟨Ch.refl _ _, ?_⟩
 have q : b_Equal a b = (eqS (ByteArray.mk a.toArray) (ByteArray.mk b.toArray)) := by rfl
 rw [q]
 exact rfl

theorem ciLeads (e : World) (s : Value) (b : List UInt8) (E : R_22 e s b) (t : Value) (d : List UInt8) (F : R_22 e t d) (a : Int)  : Fn Try.prog 12 #[s, t, (vi a)] e (fun v g => Keep e g ∧ O_3 g e.heap.size v (leadsP b d a)) := by
 obtain ⟨h, j, rfl, G, H⟩ := E
 obtain ⟨l, m, rfl, I, J⟩ := F
 refine fn_ofS (n := 22) [(vs h b.length j), (vs l d.length m), (vi a)] Try.func12 rfl rfl ?_
 refine sr ?_
 refine aw (vi 0) ?_
 refine n4 ?_
 refine mw (vi a) ?_
 refine cl wN (ciwithin e a 0 64) ?_
 rintro _ f ⟨K, rfl⟩
 have w := (Ch.base e).extk K
 refine pu (vb (!(i_within a 0 64))) wN ?_
 refine n2 ?_
 rcases bf (i_within a 0 64) with o | o
 ·have S := impl_within_f o
  refine ct (cA not o) ?_
  refine sr ?_
  refine aw (vi (-1)) ?_
  refine n1 ?_
  refine rt (vi (-1)) ?_
  refine ⟨w.keep0, ?_⟩
  have L : leadsP b d a = (-1) := by first | exact leadsP_f (by omega) | exact leadsP_i (by omega) (by omega) (by assumption) (by omega) (by assumption) | exact leadsP_n (by omega) (by omega) (by assumption) (by omega)
  rw [L]
  exact rfl
 have T := impl_within_t o
 refine cf (cA not o) ?_
 refine y2 ?_
 refine aw (vi 0) ?_
 refine wl_nil <| wq_then <| wc_block ?_
 refine wc_loopP [(0, (vs h b.length j)), (1, (vs l d.length m)), (2, (vi a)), (7, (vi ((0 : Nat) : Int)))] ⟨rfl, rfl, rfl, (cA (Value.int .i64) (show (0 : Int) = ((0 : Nat) : Int) by omega)), trivial⟩ (fun e' g => ∃ (i : Nat) (x : Env), e' = pt x [(0, (vs h b.length j)), (1, (vs l d.length m)), (2, (vi a)), (7, (vi ((i : Nat) : Int)))] ∧ Ch (fun k => e.heap.size ≤ k) e g ∧ Ch (fun k => f.heap.size ≤ k) f g ∧ ((i : Nat) : Int) ≤ a + 1 ∧ firstI (fun i => decide (chain b i = d)) 0 (a.toNat + 1) = firstI (fun i => decide (chain b i = d)) i (a.toNat + 1 - i)) (fun e' _ => (a + 1 - (intOf (e' 7))).toNat) ?_ ?_
 ·exact fun u => ⟨0, u, rfl, w, (Ch.refl (fun k => f.heap.size ≤ k) f), (by omega), (by first | rfl | exact leads_next (by assumption) (by omega) (by assumption))⟩
 ·rintro _ y ⟨i, x, rfl, q, M, V, W⟩
  refine wc_seq <| sr ?_
  refine mw (vi ((i : Nat) : Int)) ?_
  refine mw (vi a) ?_
  refine pu (vb (decide (((i : Nat) : Int) ≤ a))) wN ?_
  refine n2 ?_
  rcases bf (decide (((i : Nat) : Int) ≤ a)) with p | p
  ·have X := dF p
   refine cf p ?_
   refine wc_exit <| wq_then_exit <| wq_then_exit <| wq_blk_exit <| wq_then <| sr ?_
   refine aw (vi (-1)) ?_
   refine n3 ?_
   refine rt (vi (-1)) ?_
   refine ⟨q.keep0, ?_⟩
   have N : leadsP b d a = (-1) := by first | exact leadsP_f (by omega) | exact leadsP_i (by omega) (by omega) (by assumption) (by omega) (by assumption) | exact leadsP_n (by omega) (by omega) (by assumption) (by omega)
   rw [N]
   exact rfl
  have Y := dT p
  refine ct p ?_
  refine wc_skip <| wq_then <| wc_seq <| wc_block <| sr ?_
  refine mw (vs h b.length j) ?_
  refine mw (vi ((i : Nat) : Int)) ?_
  refine cl wN (ciChain y _ b (mR_22 (G.from0 q) H) ((i : Nat) : Int)) ?_
  rintro _ O ⟨A, ⟨Z, aa, rfl, P, Q, ab⟩⟩
  have B := q.extk A
  have ac := chain_le b ((i : Nat) : Int)
  refine mw (vs l d.length m) ?_
  refine cl wN (cbEqual O _ (chain b ((i : Nat) : Int)) (mR_22 (Rd.of_own P) Q) _ d (mR_22 (I.from0 B) J)) ?_
  rintro _ ad ⟨C, rfl⟩
  have D := B.extk C
  refine n2 ?_
  rcases bt (b_Equal (chain b ((i : Nat) : Int)) d) with r | r
  ·refine ct r ?_
   refine sr ?_
   refine mw (vi ((i : Nat) : Int)) ?_
   refine aw (vi ((i : Nat) : Int)) ?_
   refine wl_nil <| wq_then <| wc_ret <| wq_blk_ret <| wq_then_ret <| wq_then_ret <| wq_blk_ret <| wq_then_ret ?_
   refine rt (vi ((i : Nat) : Int)) ?_
   refine ⟨D.keep0, ?_⟩
   have R : leadsP b d a = ((i : Nat) : Int) := by first | exact leadsP_f (by omega) | exact leadsP_i (by omega) (by omega) (by assumption) (by omega) (by assumption) | exact leadsP_n (by omega) (by omega) (by assumption) (by omega)
   rw [R]
   exact rfl
  refine cf r ?_
  refine wc_skip <| wq_blk_normal <| wq_then <| wc_region ?_
  refine mw (vi ((i : Nat) : Int)) ?_
  refine ar (((i : Nat) : Int) + 1) wN ?_
  refine aw (vi (((i : Nat) : Int) + 1)) ?_
  refine wl_nil ?_
  refine wq_loopP (w0 := y) [(0, (vs h b.length j)), (1, (vs l d.length m)), (2, (vi a)), (7, (vi (((i + 1) : Nat) : Int)))] ?_ ?_ ?_
  · exact ⟨rfl, rfl, rfl, (cA (Value.int .i64) (show ((((i : Nat) : Int) + 1) : Int) = (((i + 1) : Nat) : Int) by omega)), trivial⟩
  · exact fun u => ⟨(i + 1), u, rfl, D, ((((Ch.refl (fun k => f.heap.size ≤ k) f).ext M (fun k hk => hk)).extk A).extk C), (by omega), (by first | rfl | exact leads_next (by assumption) (by omega) (by assumption))⟩
  · show (a + 1 - (((i + 1) : Nat) : Int)).toNat < (a + 1 - ((i : Nat) : Int)).toNat; omega

def l_at (a : List UInt8) (b : Int) : (Int) := bif (decide (b < (a.length : Int))) then (((a.getD (b).toNat 0).toNat : Int)) else ((((b * 31) + ((a.length : Int) * 7)) % 256))
theorem clat (e : World) (i : Value) (b : List UInt8) (k : R_22 e i b) (a : Int) (l : 0 ≤ a ∧ a ≤ 1000) : Fn Try.prog 16 #[i, (vi a)] e (fun v j => Keep e j ∧ O_3 j e.heap.size v (l_at b a)) := by
 obtain ⟨f, g, rfl, h, m⟩ := k
 refine fn_ofS (n := 21) [(vs f b.length g), (vi a)] Try.func16 rfl rfl ?_
 have o : (b.getD a.toNat 0).toNat < 256 := UInt8.toNat_lt _
 refine sr ?_
 refine aw (vi 0) ?_
 refine n4 ?_
 refine mw (vi a) ?_
 refine mw (vs f b.length g) ?_
 refine ln wN slTy_22 h ?_
 refine pu (vb (decide (a < (b.length : Int)))) wN ?_
 refine n2 ?_
 rcases bt (decide (a < (b.length : Int))) with d | d
 ·have p := dT d
  refine ct d ?_
  refine sr ?_
  refine mw (vs f b.length g) ?_
  refine mw (vi a) ?_
  refine ix wN a slTy_22 h ?_
  refine eb (x := b) ((a).toNat) wN isAgg_5 h ?_
  refine ar ((b.getD (a).toNat 0).toNat : Int) wN ?_
  refine aw (vi ((b.getD (a).toNat 0).toNat : Int)) ?_
  refine n1 ?_
  refine rt (vi ((b.getD (a).toNat 0).toNat : Int)) ?_
  refine ⟨Ch.refl _ _, ?_⟩
  simp only [l_at, d, cond_true, cond_false]
  exact rfl
 have q := dF d
 refine cf d ?_
 refine y1 ?_
 refine mw (vi a) ?_
 refine ar (a * 31) wN ?_
 refine mw (vs f b.length g) ?_
 refine ln wN slTy_22 h ?_
 refine ar ((b.length : Int) * 7) wN ?_
 refine ar ((a * 31) + ((b.length : Int) * 7)) wN ?_
 refine wl_rem ((a * 31) + ((b.length : Int) * 7)) 256 wN rfl rfl (by kernel_rfl) (by first | omega | assumption) ?_
 refine aw (vi (((a * 31) + ((b.length : Int) * 7)) % 256)) ?_
 refine n3 ?_
 refine rt (vi (((a * 31) + ((b.length : Int) * 7)) % 256)) ?_
 refine ⟨Ch.refl _ _, ?_⟩
 simp only [l_at, d, cond_true, cond_false]
 exact rfl
theorem at_b (x : List UInt8) (i : Int) : 0 ≤ l_at x i ∧ l_at x i ≤ 255 := by
  have a : (x.getD i.toNat 0).toNat < 256 := UInt8.toNat_lt _
  simp only [l_at, cond_eq_ite]
  split <;> omega

def s_l1Same (a : List UInt8) (b : List UInt8) : (Bool) := (eqS (ByteArray.mk a.toArray) (ByteArray.mk b.toArray))
theorem csl1Same (d : World) (e : Value) (a : List UInt8) (l : R_22 d e a) (f : Value) (b : List UInt8) (m : R_22 d f b)  : Fn Try.prog 46 #[e, f] d (fun v g => Keep d g ∧ O_4 g d.heap.size v (s_l1Same a b)) := by
 obtain ⟨h, i, rfl, o, r⟩ := l
 obtain ⟨j, k, rfl, p, s⟩ := m
 refine fn_ofS (n := 10) [(vs h a.length i), (vs j b.length k)] Try.func46 rfl rfl ?_
 refine sr ?_
 refine aw (vb false) ?_
 refine nx ?_
 refine mw (vs h a.length i) ?_
 refine wl_b2s a wN rfl rfl rfl rfl Try.underlying22 Try.underlying5 Try.underlying9 o ?_
 refine mw (vs j b.length k) ?_
 refine wl_b2s b wN rfl rfl rfl rfl Try.underlying22 Try.underlying5 Try.underlying9 p ?_
 refine pu (vb (eqS (ByteArray.mk a.toArray) (ByteArray.mk b.toArray))) wN ?_
 refine aw (vb (eqS (ByteArray.mk a.toArray) (ByteArray.mk b.toArray))) ?_
 refine n3 ?_
 refine rt (vb (eqS (ByteArray.mk a.toArray) (ByteArray.mk b.toArray))) ?_
 refine ⟨Ch.refl _ _, ?_⟩
 have q : s_l1Same a b = (eqS (ByteArray.mk a.toArray) (ByteArray.mk b.toArray)) := by rfl
 rw [q]
 exact rfl

theorem csLeads (e : World) (E : Value) (a : List UInt8) (V : R_22 e E a) (F : Value) (d : List UInt8) (W : R_22 e F d) (b : Int)  : Fn Try.prog 10 #[E, F, (vi b)] e (fun v f => Keep e f ∧ O_3 f e.heap.size v (leadsP a d b)) := by
 obtain ⟨G, H, rfl, X, Y⟩ := V
 obtain ⟨g, h, rfl, Z, aa⟩ := W
 refine fn_ofS (n := 26) [(vs G a.length H), (vs g d.length h), (vi b)] Try.func10 rfl rfl ?_
 refine sr ?_
 refine aw (vi 0) ?_
 refine n4 ?_
 refine mw (vi b) ?_
 refine cl wN (csl1In e b 0 64) ?_
 rintro _ q ⟨ab, rfl⟩
 have I := (Ch.base e).extk ab
 refine pu (vb (!(s_l1In b 0 64))) wN ?_
 refine n2 ?_
 rcases bf (s_l1In b 0 64) with j | j
 ·have ap := spec_l1In_f j
  refine ct (cA not j) ?_
  refine sr ?_
  refine aw (vi (-1)) ?_
  refine n1 ?_
  refine rt (vi (-1)) ?_
  refine ⟨I.keep0, ?_⟩
  have ac : leadsP a d b = (-1) := by first | exact leadsP_f (by omega) | exact leadsP_s (by omega) (by omega) (by assumption) (by omega) (by assumption) | exact leadsP_n (by omega) (by omega) (by assumption) (by omega)
  rw [ac]
  exact rfl
 have aq := spec_l1In_t j
 refine cf (cA not j) ?_
 refine y1 ?_
 refine wl_lit0 wN rfl rfl slTy_22 (fun w => by kernel_rfl) ?_
 intro au av A ad
 have J := I.extk A
 refine mw (vs G a.length H) ?_
 refine ap0 a wN slTy_22 ad (X.from0 J) A.size ?_
 intro r s B K ae ax
 have af := J.extk K
 refine aw (vs r a.length s) ?_
 refine n4 ?_
 refine aw (vi 0) ?_
 refine wl_nil <| wq_then <| wc_block ?_
 have L : (a : List UInt8) = chainN a 0 := by rfl
 refine wc_loopP [(1, (vs g d.length h)), (2, (vi b)), (7, (.slice r (chainN a 0).length s)), (8, (vi ((0 : Nat) : Int)))] ⟨rfl, rfl, (cA (fun l : List UInt8 => Value.slice r l.length s) L), (cA (Value.int .i64) (show (0 : Int) = ((0 : Nat) : Int) by omega)), trivial⟩ (fun e' f => ∃ (i : Nat) (M : Env) (m : Option Addr) (o : Nat), e' = pt M [(1, (vs g d.length h)), (2, (vi b)), (7, (.slice m (chainN a i).length o)), (8, (vi ((i : Nat) : Int)))] ∧ Ch (fun k => e.heap.size ≤ k) e f ∧ Ch (fun k => q.heap.size ≤ k) B f ∧ ((i : Nat) : Int) ≤ b + 1 ∧ firstI (fun i => decide (chain a i = d)) 0 (b.toNat + 1) = firstI (fun i => decide (chain a i = d)) i (b.toNat + 1 - i) ∧ (World.ownsRow f q.heap.size 5 1 (.slice m (chainN a i).length o) (chainN a i).length ((chainN a i).map bV) ∧ (chainN a i).length ≤ 1073741824)) (fun e' _ => (b + 1 - (intOf (e' 8))).toNat) ?_ ?_
 ·exact fun u => ⟨0, u, r, s, rfl, af, (Ch.refl (fun k => q.heap.size ≤ k) B), (by omega), (by first | rfl | exact leads_nexts (by assumption) (by omega) (by omega) (by assumption)), (L ▸ ⟨ae, Y⟩)⟩
 ·rintro _ N ⟨i, M, m, o, rfl, C, O, ay, az, ⟨P, Q⟩⟩
  have hcl := chainN_le a i
  refine wc_seq <| sr ?_
  refine mw (vi ((i : Nat) : Int)) ?_
  refine mw (vi b) ?_
  refine pu (vb (decide (((i : Nat) : Int) ≤ b))) wN ?_
  refine n2 ?_
  rcases bf (decide (((i : Nat) : Int) ≤ b)) with p | p
  ·have a0 := dF p
   refine cf p ?_
   refine wc_exit <| wq_then_exit <| wq_then_exit <| wq_blk_exit <| wq_then <| sr ?_
   refine aw (vi (-1)) ?_
   refine n3 ?_
   refine rt (vi (-1)) ?_
   refine ⟨C.keep0, ?_⟩
   have ah : leadsP a d b = (-1) := by first | exact leadsP_f (by omega) | exact leadsP_s (by omega) (by omega) (by assumption) (by omega) (by assumption) | exact leadsP_n (by omega) (by omega) (by assumption) (by omega)
   rw [ah]
   exact rfl
  have a1 := dT p
  refine ct p ?_
  refine wc_skip <| wq_then <| wc_seq <| wc_block <| wc_seq <| sr ?_
  refine mw (vs m (chainN a i).length o) ?_
  refine mw (vs g d.length h) ?_
  refine cl wN (csl1Same N _ (chainN a i) (mR_22 (Rd.of_own P) Q) _ d (mR_22 (Z.from0 C) aa)) ?_
  rintro _ ai ⟨t, rfl⟩
  have R := C.extk t
  refine n2 ?_
  rcases bt (s_l1Same (chainN a i) d) with D | D
  ·refine ct D ?_
   refine sr ?_
   refine mw (vi ((i : Nat) : Int)) ?_
   refine aw (vi ((i : Nat) : Int)) ?_
   refine wl_nil <| wq_then <| wc_ret <| wq_then_ret <| wq_blk_ret <| wq_then_ret <| wq_then_ret <| wq_blk_ret <| wq_then_ret ?_
   refine rt (vi ((i : Nat) : Int)) ?_
   refine ⟨R.keep0, ?_⟩
   have aj : leadsP a d b = ((i : Nat) : Int) := by first | exact leadsP_f (by omega) | exact leadsP_s (by omega) (by omega) (by assumption) (by omega) (by assumption) | exact leadsP_n (by omega) (by omega) (by assumption) (by omega)
   rw [aj]
   exact rfl
  refine cf D ?_
  refine wc_skip <| wq_then <| wc_region ?_
  refine mw (vs m (chainN a i).length o) ?_
  have ak := (own_kp P t)
  refine cl wN (csDerive ai _ (chainN a i) (mR_22 (Rd.of_own ak) Q) _ (ByteArray.mk ([114, 101, 107, 101, 121] : List UInt8).toArray) (mR_9) (by first | omega | decide)) ?_
  rintro _ a2 ⟨S, ⟨x, y, rfl, am, an, a3⟩⟩
  have ao := R.extk S
  have a4 := derive_le (chainN a i) (ByteArray.mk ([114, 101, 107, 101, 121] : List UInt8).toArray)
  refine aw (vs x (derive (chainN a i) (ByteArray.mk ([114, 101, 107, 101, 121] : List UInt8).toArray)).length y) ?_
  refine wl_nil <| wq_blk_normal <| wq_then <| wc_region ?_
  refine mw (vi ((i : Nat) : Int)) ?_
  refine ar (((i : Nat) : Int) + 1) wN ?_
  refine aw (vi (((i : Nat) : Int) + 1)) ?_
  refine wl_nil ?_
  have T : ((derive (chainN a i) (ByteArray.mk ([114, 101, 107, 101, 121] : List UInt8).toArray)) : List UInt8) = chainN a (i + 1) := by rfl
  refine wq_loopP (w0 := N) [(1, (vs g d.length h)), (2, (vi b)), (7, (.slice x (chainN a (i + 1)).length y)), (8, (vi (((i + 1) : Nat) : Int)))] ?_ ?_ ?_
  · exact ⟨rfl, rfl, (cA (fun l : List UInt8 => Value.slice x l.length y) T), (cA (Value.int .i64) (show ((((i : Nat) : Int) + 1) : Int) = (((i + 1) : Nat) : Int) by omega)), trivial⟩
  · exact fun u => ⟨(i + 1), u, x, y, rfl, ao, ((((Ch.refl (fun k => q.heap.size ≤ k) B).ext O (fun k hk => hk)).extk t).extk S), (by omega), (by first | rfl | exact leads_nexts (by assumption) (by omega) (by omega) (by assumption)), (T ▸ ⟨(own_lo am (z4 A K O t)), an⟩)⟩
  · show (b + 1 - (((i + 1) : Nat) : Int)).toNat < (b + 1 - ((i : Nat) : Int)).toNat; omega

def l_same (a : List UInt8) (b : List UInt8) : (Bool) := (eqS (ByteArray.mk a.toArray) (ByteArray.mk b.toArray))
theorem clsame (d : World) (e : Value) (a : List UInt8) (l : R_22 d e a) (f : Value) (b : List UInt8) (m : R_22 d f b)  : Fn Try.prog 18 #[e, f] d (fun v g => Keep d g ∧ O_4 g d.heap.size v (l_same a b)) := by
 obtain ⟨h, i, rfl, o, r⟩ := l
 obtain ⟨j, k, rfl, p, s⟩ := m
 refine fn_ofS (n := 10) [(vs h a.length i), (vs j b.length k)] Try.func18 rfl rfl ?_
 refine sr ?_
 refine aw (vb false) ?_
 refine nx ?_
 refine mw (vs h a.length i) ?_
 refine wl_b2s a wN rfl rfl rfl rfl Try.underlying22 Try.underlying5 Try.underlying9 o ?_
 refine mw (vs j b.length k) ?_
 refine wl_b2s b wN rfl rfl rfl rfl Try.underlying22 Try.underlying5 Try.underlying9 p ?_
 refine pu (vb (eqS (ByteArray.mk a.toArray) (ByteArray.mk b.toArray))) wN ?_
 refine aw (vb (eqS (ByteArray.mk a.toArray) (ByteArray.mk b.toArray))) ?_
 refine n3 ?_
 refine rt (vb (eqS (ByteArray.mk a.toArray) (ByteArray.mk b.toArray))) ?_
 refine ⟨Ch.refl _ _, ?_⟩
 have q : l_same a b = (eqS (ByteArray.mk a.toArray) (ByteArray.mk b.toArray)) := by rfl
 rw [q]
 exact rfl
end Go.Proofs.Ytafcngfnhhchjaa.K
