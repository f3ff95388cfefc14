import Derived.Test.YtpcpjeaighehhaaGreatCore
import Derived.Test.YtpcpjeaighehhaaGreatProg
import Derived.Test.YtpcpjeaighehhaaGreatHeld
import Derived.Test.YtpcpjeaighehhaaGreatFun
import Derived.Test.YtpcpjeaighehhaaGreatFunZ
import Derived.Test.YtpcpjeaighehhaaGreatSqz
import Derived.Test.YtpcpjeaighehhaaGreatHash
import Derived.Test.YtpcpjeaighehhaaGreatCur
import Derived.Test.YtpcpjeaighehhaaGreatDrawW
import Derived.Test.YtpcpjeaighehhaaGreatAead
import Derived.Test.YtpcpjeaighehhaaGreatWu1
namespace Go.Proofs.YtpcpjeaighehhaaGreat.K
open Go.RowKit
set_option linter.unusedVariables false
set_option linter.unusedSimpArgs false
set_option maxRecDepth 100000
set_option maxHeartbeats 4000000
theorem csSchedule (o : World) (ad : Value) (d : List UInt8) (a0 : R_22 o ad d)  : Fn Tryz.prog 161 #[ad] o (fun v s => Keep o s ∧ O_23 s o.heap.size v (schedP d)) := by
 obtain ⟨x, D, rfl, ae, a1⟩ := a0
 refine fn_ofS (n := 84) [(vs x d.length D)] Tryz.func161 rfl rfl ?_
 refine sr ?_
 refine aw (vs none 0 0) ?_
 refine nx ?_
 refine wl_lit0 wN rfl rfl slTy_23 (fun w => by kernel_rfl) ?_
 intro E J S af
 have T := (Ch.base o).extk S
 refine aw (vs (some E) 0 0) ?_
 refine n4 ?_
 refine mw (vs x d.length D) ?_
 refine ln wN slTy_22 (ae.from0 T) ?_
 refine pu (vb (!(decide ((d.length : Int) = 64)))) wN ?_
 refine n2 ?_
 rcases bf (decide ((d.length : Int) = 64)) with F | F
 ·have aZ := dF F
  refine ct (cA not F) ?_
  refine sr ?_
  refine mw (vs (some E) 0 0) ?_
  refine aw (vs (some E) 0 0) ?_
  refine n1 ?_
  refine rt (vs (some E) 0 0) ?_
  refine ⟨T.keep0, ?_⟩
  have a2 : schedP d = [] := by first | exact schedP_f (by omega) | exact schedP_u (by omega) (by omega) (by omega)
  rw [a2]
  exact ⟨_, _, rfl, af, (by simp), ⟨trivial, trivial⟩⟩
 have ba := dT F
 refine cf (cA not F) ?_
 refine y2 ?_
 refine aw (vi 0) ?_
 refine wl_nil <| wq_then <| wc_block ?_
 have ah : ([] : List Int) = sched16 d 0 := by rfl
 have ai : 0 = (sched16 d 0).length := by rw [← ah]; try (first | rfl | simp only [List.length_set] | simp)
 refine wc_loopP [(0, (vs x d.length D)), (2, (vs none 0 0)), (3, (.slice (some E) (sched16 d 0).length 0)), (4, (vi ((0 : Nat) : Int)))] ⟨rfl, rfl, rfl, (cA (Value.int .i64) (show (0 : Int) = ((0 : Nat) : Int) by omega)), trivial⟩ (fun e' s => ∃ (k : Nat) (aj : Env) (i : Option Addr) (j : Nat), e' = pt aj [(0, (vs x d.length D)), (2, (vs none 0 0)), (3, (.slice i (sched16 d k).length j)), (4, (vi ((k : Nat) : Int)))] ∧ Ch (fun k => o.heap.size ≤ k) o s ∧ Ch (fun k => o.heap.size ≤ k) J s ∧ k ≤ 16 ∧ (World.ownsRow s o.heap.size 3 1 (.slice i (sched16 d k).length j) (sched16 d k).length ((sched16 d k).map iV) ∧ (sched16 d k).length ≤ 1073741824)) (fun e' _ => (16 - (intOf (e' 4))).toNat) ?_ ?_
 ·exact fun u => ⟨0, u, (some E), 0, rfl, T, (Ch.refl (fun k => o.heap.size ≤ k) J), (by omega), ⟨(by rw [← ai, ← ah]; exact af), (by rw [← ai]; first | exact (by simp) | (simp only [List.length_append, List.length_take, List.length_replicate]; omega))⟩⟩
 ·rintro _ G ⟨k, aj, i, j, rfl, V, W, bb, ⟨K, a3⟩⟩
  have hsl := sched16_len d k
  refine wc_seq <| sr ?_
  refine mw (vi ((k : Nat) : Int)) ?_
  refine pu (vb (decide (((k : Nat) : Int) < 16))) wN ?_
  refine n2 ?_
  rcases bt (decide (((k : Nat) : Int) < 16)) with H | H
  ·have bc := dT H
   refine ct H ?_
   refine wc_skip <| wq_then <| wc_seq <| wc_block <| sr ?_
   refine mw (vs x d.length D) ?_
   refine mw (vi ((k : Nat) : Int)) ?_
   refine ar (4 * ((k : Nat) : Int)) wN ?_
   refine cl wN (csGetN G _ d (mR_22 (ae.from0 V) a1) (4 * ((k : Nat) : Int)) 4) ?_
   rintro _ X ⟨L, rfl⟩
   refine mw (.tuple #[(vi ((getN3 d (4 * ((k : Nat) : Int)) 4).1)), (vi ((getN3 d (4 * ((k : Nat) : Int)) 4).2.1)), (vb ((getN3 d (4 * ((k : Nat) : Int)) 4).2.2))]) ?_
   refine pu (vi ((getN3 d (4 * ((k : Nat) : Int)) 4).1)) wN ?_
   refine pu (vi ((getN3 d (4 * ((k : Nat) : Int)) 4).2.1)) wN ?_
   refine pu (vb ((getN3 d (4 * ((k : Nat) : Int)) 4).2.2)) wN ?_
   refine aw (vi ((getN3 d (4 * ((k : Nat) : Int)) 4).1)) ?_
   refine aw (vi ((getN3 d (4 * ((k : Nat) : Int)) 4).2.1)) ?_
   refine aw (vb ((getN3 d (4 * ((k : Nat) : Int)) 4).2.2)) ?_
   refine wl_nil <| wq_then <| wc_region ?_
   refine mw (vs i (sched16 d k).length j) ?_
   refine mw (vi ((getN3 d (4 * ((k : Nat) : Int)) 4).1)) ?_
   refine ltI ([(getN3 d (4 * ((k : Nat) : Int)) 4).1] : List Int) wN slTy_23 ?_
   intro bd be ak M a4
   have a5 := (own_kp (own_kp K L) M)
   refine apI (sched16 d k) ([(getN3 d (4 * ((k : Nat) : Int)) 4).1] : List Int) wN slTy_23 a5 (Rd.of_own a4) (z4 S W L M) ?_
   intro N O am an a6 bg a7
   have a8 := ((V.extk L).extk M).ext an (fun k hk => nT (Nat.le_refl o.heap.size) (own_lt K k hk).1)
   refine aw (vs N ((sched16 d k) ++ ([(getN3 d (4 * ((k : Nat) : Int)) 4).1] : List Int)).length O) ?_
   refine wl_nil <| wq_blk_normal <| wq_then <| wc_region ?_
   refine mw (vi ((k : Nat) : Int)) ?_
   refine ar (((k : Nat) : Int) + 1) wN ?_
   refine aw (vi (((k : Nat) : Int) + 1)) ?_
   refine wl_nil ?_
   have ao : (((sched16 d k) ++ ([(getN3 d (4 * ((k : Nat) : Int)) 4).1] : List Int)) : List Int) = sched16 d (k + 1) := by exact sched16_app (by omega) (by omega)
   refine wq_loopP (w0 := G) [(0, (vs x d.length D)), (2, (vs none 0 0)), (3, (.slice N (sched16 d (k + 1)).length O)), (4, (vi (((k + 1) : Nat) : Int)))] ?_ ?_ ?_
   · exact ⟨rfl, rfl, (cA (fun l : List Int => Value.slice N l.length O) ao), (cA (Value.int .i64) (show ((((k : Nat) : Int) + 1) : Int) = (((k + 1) : Nat) : Int) by omega)), trivial⟩
   · exact fun u => ⟨(k + 1), u, N, O, rfl, a8, (((((Ch.refl (fun k => o.heap.size ≤ k) J).ext W (fun k hk => hk)).extk L).extk M).ext an (fun k hk => nT (Nat.le_refl o.heap.size) (own_lt K k hk).1)), (by omega), (ao ▸ ⟨a6, a7⟩)⟩
   · show (16 - (((k + 1) : Nat) : Int)).toNat < (16 - ((k : Nat) : Int)).toNat; omega
  have bh := dF H
  refine cf H ?_
  refine wc_exit <| wq_then_exit ?_
  obtain rfl : k = 16 := by omega
  refine wq_then_exit <| wq_blk_exit <| wq_then <| wc_seq <| sr ?_
  refine aw (vi 16) ?_
  refine wl_nil <| wq_then <| wc_block ?_
  have ap : ((sched16 d 16) : List Int) = schedN d 0 := by rfl
  refine wc_loopP [(2, (vs none 0 0)), (3, (.slice i (schedN d 0).length j)), (8, (vi (16 + ((0 : Nat) : Int))))] ⟨rfl, (cA (fun l : List Int => Value.slice i l.length j) ap), (cA (Value.int .i64) (show (16 : Int) = (16 + ((0 : Nat) : Int)) by omega)), trivial⟩ (fun e' s => ∃ (m : Nat) (aq : Env) (i : Option Addr) (j : Nat), e' = pt aq [(2, (vs none 0 0)), (3, (.slice i (schedN d m).length j)), (8, (vi (16 + ((m : Nat) : Int))))] ∧ Ch (fun k => o.heap.size ≤ k) o s ∧ Ch (fun k => o.heap.size ≤ k) G s ∧ m ≤ 48 ∧ (World.ownsRow s o.heap.size 3 1 (.slice i (schedN d m).length j) (schedN d m).length ((schedN d m).map iV) ∧ (schedN d m).length ≤ 1073741824)) (fun e' _ => (64 - (intOf (e' 8))).toNat) ?_ ?_
  ·exact fun u => ⟨0, u, i, j, rfl, V, (Ch.refl (fun k => o.heap.size ≤ k) G), (by omega), (ap ▸ ⟨K, a3⟩)⟩
  ·rintro _ X ⟨m, aq, i, j, rfl, au, av, bi, ⟨t, a9⟩⟩
   have hsl := schedN_len d m
   obtain ⟨p, Y⟩ : ∃ z, (schedN d m).getD (((16 + ((m : Nat) : Int)) - 7)).toNat 0 = z := ⟨_, rfl⟩
   have bj : 0 ≤ p ∧ p < 4294967296 := Y ▸ wget (schedN_w d m) (((16 + ((m : Nat) : Int)) - 7)).toNat
   obtain ⟨q, Z⟩ : ∃ z, (schedN d m).getD (((16 + ((m : Nat) : Int)) - 16)).toNat 0 = z := ⟨_, rfl⟩
   have bk : 0 ≤ q ∧ q < 4294967296 := Z ▸ wget (schedN_w d m) (((16 + ((m : Nat) : Int)) - 16)).toNat
   obtain ⟨f, aa⟩ : ∃ z, (schedN d m).getD (((16 + ((m : Nat) : Int)) - 15)).toNat 0 = z := ⟨_, rfl⟩
   have bl : 0 ≤ f ∧ f < 4294967296 := aa ▸ wget (schedN_w d m) (((16 + ((m : Nat) : Int)) - 15)).toNat
   obtain ⟨g, ab⟩ : ∃ z, (schedN d m).getD (((16 + ((m : Nat) : Int)) - 2)).toNat 0 = z := ⟨_, rfl⟩
   have bm : 0 ≤ g ∧ g < 4294967296 := ab ▸ wget (schedN_w d m) (((16 + ((m : Nat) : Int)) - 2)).toNat
   refine wc_seq <| sr ?_
   refine mw (vi (16 + ((m : Nat) : Int))) ?_
   refine pu (vb (decide ((16 + ((m : Nat) : Int)) < 64))) wN ?_
   refine n2 ?_
   rcases bf (decide ((16 + ((m : Nat) : Int)) < 64)) with I | I
   ·have bn := dF I
    refine cf I ?_
    refine wc_exit <| wq_then_exit <| wq_then_exit <| wq_blk_exit <| wq_then <| sr ?_
    refine mw (vs i (schedN d m).length j) ?_
    refine aw (vs i (schedN d m).length j) ?_
    refine n3 ?_
    refine rt (vs i (schedN d m).length j) ?_
    refine ⟨au.keep0, ?_⟩
    have aA : schedP d = (schedN d m) := by first | exact schedP_f (by omega) | exact schedP_u (by omega) (by omega) (by omega)
    rw [aA]
    exact ⟨_, _, rfl, t, a9, ⟨trivial, trivial⟩⟩
   have bo := dT I
   refine ct I ?_
   refine wc_skip <| wq_then <| wc_seq <| wc_block <| sr ?_
   refine mw (vs i (schedN d m).length j) ?_
   refine mw (vi (16 + ((m : Nat) : Int))) ?_
   refine ar ((16 + ((m : Nat) : Int)) - 15) wN ?_
   refine ix wN ((16 + ((m : Nat) : Int)) - 15) slTy_23 (Rd.of_own t) ?_
   refine wl_loadE (iV f) wN rfl rfl rfl rfl isAgg_3 (Rd.of_own t) (by rw [← aa]; exact iget (by simp) (by first | omega | (simp <;> omega))) ?_
   refine aw (vi f) ?_
   refine nx ?_
   refine mw (vs i (schedN d m).length j) ?_
   refine mw (vi (16 + ((m : Nat) : Int))) ?_
   refine ar ((16 + ((m : Nat) : Int)) - 2) wN ?_
   refine ix wN ((16 + ((m : Nat) : Int)) - 2) slTy_23 (Rd.of_own t) ?_
   refine wl_loadE (iV g) wN rfl rfl rfl rfl isAgg_3 (Rd.of_own t) (by rw [← ab]; exact iget (by simp) (by first | omega | (simp <;> omega))) ?_
   refine aw (vi g) ?_
   refine nx ?_
   refine mw (vi f) ?_
   refine cl wN (csRot X f 7 (by omega) (by omega)) ?_
   rintro _ ak ⟨y, rfl⟩
   have bp := rot_b f 7
   refine mw (vi f) ?_
   refine cl wN (csRot ak f 18 (by omega) (by omega)) ?_
   rintro _ am ⟨A, rfl⟩
   have aB := (au.extk y).extk A
   have bq := rot_b f 18
   refine wl_xor (rot f 7) (rot f 18) wN rfl rfl (by kernel_rfl) (by omega) (by omega) (by omega) (by omega) ?_
   have br := xorI_b (a := (rot f 7)) (b := (rot f 18)) (by omega) (by omega)
   refine mw (vi f) ?_
   refine wl_shrU f (3 : Int) wN rfl rfl rfl rfl rfl (by omega) (by omega) ?_
   have bu := shr_b (a := f) (by omega) ((3 : Int)).toNat
   refine wl_xor (xorI (rot f 7) (rot f 18)) (f / (2 : Int) ^ ((3 : Int)).toNat) wN rfl rfl (by kernel_rfl) (by omega) (by omega) (by omega) (by omega) ?_
   have bv := xorI_b (a := (xorI (rot f 7) (rot f 18))) (b := (f / (2 : Int) ^ ((3 : Int)).toNat)) (by omega) (by omega)
   refine aw (vi (xorI (xorI (rot f 7) (rot f 18)) (f / (2 : Int) ^ ((3 : Int)).toNat))) ?_
   refine nx ?_
   refine mw (vi g) ?_
   refine cl wN (csRot am g 17 (by omega) (by omega)) ?_
   rintro _ aC ⟨B, rfl⟩
   have bw := rot_b g 17
   refine mw (vi g) ?_
   refine cl wN (csRot aC g 19 (by omega) (by omega)) ?_
   rintro _ ax ⟨C, rfl⟩
   have aD := (aB.extk B).extk C
   have bz := rot_b g 19
   refine wl_xor (rot g 17) (rot g 19) wN rfl rfl (by kernel_rfl) (by omega) (by omega) (by omega) (by omega) ?_
   have b0 := xorI_b (a := (rot g 17)) (b := (rot g 19)) (by omega) (by omega)
   refine mw (vi g) ?_
   refine wl_shrU g (10 : Int) wN rfl rfl rfl rfl rfl (by omega) (by omega) ?_
   have b1 := shr_b (a := g) (by omega) ((10 : Int)).toNat
   refine wl_xor (xorI (rot g 17) (rot g 19)) (g / (2 : Int) ^ ((10 : Int)).toNat) wN rfl rfl (by kernel_rfl) (by omega) (by omega) (by omega) (by omega) ?_
   have b2 := xorI_b (a := (xorI (rot g 17) (rot g 19))) (b := (g / (2 : Int) ^ ((10 : Int)).toNat)) (by omega) (by omega)
   refine aw (vi (xorI (xorI (rot g 17) (rot g 19)) (g / (2 : Int) ^ ((10 : Int)).toNat))) ?_
   refine n2 ?_
   refine wc_drawT ([(64, [], [], (fun _ v _ => v = (vs i (schedN d m).length j))), (65, [], [], (fun _ v _ => v = (vs i (schedN d m).length j))), (66, [], [], (fun _ v _ => v = (vi (16 + ((m : Nat) : Int))))), (67, [], [2], (fun _ v _ => v = (vi ((16 + ((m : Nat) : Int)) - 7)))), (68, [], [1, 2, 3], (fun _ v _ => v = (ve (vs i (schedN d m).length j) ((((16 + ((m : Nat) : Int)) - 7)).toNat * 1)))), (69, [], [1, 2, 3, 4], (fun _ v _ => v = (vi p))), (70, [], [], (fun _ v _ => v = (vs i (schedN d m).length j))), (71, [], [], (fun _ v _ => v = (vi (16 + ((m : Nat) : Int))))), (72, [], [7], (fun _ v _ => v = (vi ((16 + ((m : Nat) : Int)) - 16)))), (73, [], [6, 7, 8], (fun _ v _ => v = (ve (vs i (schedN d m).length j) ((((16 + ((m : Nat) : Int)) - 16)).toNat * 1)))), (74, [], [6, 7, 8, 9], (fun _ v _ => v = (vi q))), (75, [], [1, 2, 3, 4, 5, 6, 7, 8, 9, 10], (fun _ v _ => v = (vi (p + q)))), (76, [], [], (fun _ v _ => v = (vi (xorI (xorI (rot f 7) (rot f 18)) (f / (2 : Int) ^ ((3 : Int)).toNat))))), (77, [], [1, 2, 3, 4, 5, 6, 7, 8, 9, 10, 11, 12], (fun _ v _ => v = (vi ((p + q) + (xorI (xorI (rot f 7) (rot f 18)) (f / (2 : Int) ^ ((3 : Int)).toNat)))))), (78, [], [], (fun _ v _ => v = (vi (xorI (xorI (rot g 17) (rot g 19)) (g / (2 : Int) ^ ((10 : Int)).toNat))))), (79, [], [1, 2, 3, 4, 5, 6, 7, 8, 9, 10, 11, 12, 13, 14], (fun _ v _ => v = (vi (((p + q) + (xorI (xorI (rot f 7) (rot f 18)) (f / (2 : Int) ^ ((3 : Int)).toNat))) + (xorI (xorI (rot g 17) (rot g 19)) (g / (2 : Int) ^ ((10 : Int)).toNat)))))), (80, [], [1, 2, 3, 4, 5, 6, 7, 8, 9, 10, 11, 12, 13, 14, 15], (fun _ v _ => v = (vi ((((p + q) + (xorI (xorI (rot f 7) (rot f 18)) (f / (2 : Int) ^ ((3 : Int)).toNat))) + (xorI (xorI (rot g 17) (rot g 19)) (g / (2 : Int) ^ ((10 : Int)).toNat))) % 4294967296)))), (81, [], [1, 2, 3, 4, 5, 6, 7, 8, 9, 10, 11, 12, 13, 14, 15, 16], (fun _ v w => ∃ (x : Option Addr) (ac : Nat), v = .slice x ([((((p + q) + (xorI (xorI (rot f 7) (rot f 18)) (f / (2 : Int) ^ ((3 : Int)).toNat))) + (xorI (xorI (rot g 17) (rot g 19)) (g / (2 : Int) ^ ((10 : Int)).toNat))) % 4294967296)] : List Int).length ac ∧ w.ownsRow ax.heap.size 3 1 (.slice x ([((((p + q) + (xorI (xorI (rot f 7) (rot f 18)) (f / (2 : Int) ^ ((3 : Int)).toNat))) + (xorI (xorI (rot g 17) (rot g 19)) (g / (2 : Int) ^ ((10 : Int)).toNat))) % 4294967296)] : List Int).length ac) ([((((p + q) + (xorI (xorI (rot f 7) (rot f 18)) (f / (2 : Int) ^ ((3 : Int)).toNat))) + (xorI (xorI (rot g 17) (rot g 19)) (g / (2 : Int) ^ ((10 : Int)).toNat))) % 4294967296)] : List Int).length (([((((p + q) + (xorI (xorI (rot f 7) (rot f 18)) (f / (2 : Int) ^ ((3 : Int)).toNat))) + (xorI (xorI (rot g 17) (rot g 19)) (g / (2 : Int) ^ ((10 : Int)).toNat))) % 4294967296)] : List Int).map iV) ∧ ([((((p + q) + (xorI (xorI (rot f 7) (rot f 18)) (f / (2 : Int) ^ ((3 : Int)).toNat))) + (xorI (xorI (rot g 17) (rot g 19)) (g / (2 : Int) ^ ((10 : Int)).toNat))) % 4294967296)] : List Int).length ≤ 1073741824 ∧ Aps [(x, ac)]))] : GV) (fun _ s => Keep ax s) [] mixed rfl (by kernel_rfl) (by kernel_rfl) ?_ (fun _ _ h => h) (fun _ _ _ _ h _ k => h.trans k) trivial ?_ ?_ ?_
   ·exact ⟨hV, hE, ⟨hV, hE, ⟨hV, hE, ⟨hV, hE, ⟨hV, hE, ⟨hV, hE, ⟨hV, hE, ⟨hV, hE, ⟨hV, hE, ⟨hV, hE, ⟨hV, hE, ⟨hV, hE, ⟨hV, hE, ⟨hV, hE, ⟨hV, hE, ⟨hV, hE, ⟨hV, hE, ⟨(fun e v w J h hk => by obtain ⟨aE, aF, he, aG, aH, hap⟩ := h; exact ⟨aE, aF, he, own_kp aG hk, aH, hap⟩), hE, trivial⟩⟩⟩⟩⟩⟩⟩⟩⟩⟩⟩⟩⟩⟩⟩⟩⟩⟩
   ·exact trivial
   ·refine ⟨?_, ⟨?_, ⟨?_, ⟨?_, ⟨?_, ⟨?_, ⟨?_, ⟨?_, ⟨?_, ⟨?_, ⟨?_, ⟨?_, ⟨?_, ⟨?_, ⟨?_, ⟨?_, ⟨?_, ⟨?_, trivial⟩⟩⟩⟩⟩⟩⟩⟩⟩⟩⟩⟩⟩⟩⟩⟩⟩⟩
    ·intro _ r b3 _
     rintro _ _ _ _ _ _ _ _ _ _ _ _ _ _ _ _ _ _
     show WL _ _ _ _ _ _ _
     refine mw (vs i (schedN d m).length j) ?_
     exact f1
    ·intro _ r b4 _
     rintro _ _ _ _ _ _ _ _ _ _ _ _ _ _ _ _ _ _
     show WL _ _ _ _ _ _ _
     refine mw (vs i (schedN d m).length j) ?_
     exact f1
    ·intro _ r b5 _
     rintro _ _ _ _ _ _ _ _ _ _ _ _ _ _ _ _ _ _
     show WL _ _ _ _ _ _ _
     refine mw (vi (16 + ((m : Nat) : Int))) ?_
     exact f1
    ·intro _ r b6 _
     rintro _ _ _ rfl _ _ _ _ _ _ _ _ _ _ _ _ _ _ _
     show WL _ _ _ _ _ _ _
     refine ar ((16 + ((m : Nat) : Int)) - 7) wN ?_
     exact f1
    ·intro _ r aI _
     rintro _ _ rfl _ rfl _ rfl _ _ _ _ _ _ _ _ _ _ _ _ _ _
     show WL _ _ _ _ _ _ _
     have aJ := (own_kp (own_kp (own_kp (own_kp (own_kp t y) A) B) C) aI)
     refine ix wN ((16 + ((m : Nat) : Int)) - 7) slTy_23 (Rd.of_own aJ) ?_
     exact f1
    ·intro _ r aK _
     rintro _ _ rfl _ rfl _ rfl _ rfl _ _ _ _ _ _ _ _ _ _ _ _ _
     show WL _ _ _ _ _ _ _
     have aL := (own_kp (own_kp (own_kp (own_kp (own_kp t y) A) B) C) aK)
     refine wl_loadE (iV p) wN rfl rfl rfl rfl isAgg_3 (Rd.of_own aL) (by rw [← Y]; exact iget (by simp) (by first | omega | (simp <;> omega))) ?_
     exact f1
    ·intro _ r b7 _
     rintro _ _ _ _ _ _ _ _ _ _ _ _ _ _ _ _ _ _
     show WL _ _ _ _ _ _ _
     refine mw (vs i (schedN d m).length j) ?_
     exact f1
    ·intro _ r b8 _
     rintro _ _ _ _ _ _ _ _ _ _ _ _ _ _ _ _ _ _
     show WL _ _ _ _ _ _ _
     refine mw (vi (16 + ((m : Nat) : Int))) ?_
     exact f1
    ·intro _ r b9 _
     rintro _ _ _ _ _ _ _ _ rfl _ _ _ _ _ _ _ _ _ _
     show WL _ _ _ _ _ _ _
     refine ar ((16 + ((m : Nat) : Int)) - 16) wN ?_
     exact f1
    ·intro _ r aM _
     rintro _ _ _ _ _ _ _ rfl _ rfl _ rfl _ _ _ _ _ _ _ _ _
     show WL _ _ _ _ _ _ _
     have aN := (own_kp (own_kp (own_kp (own_kp (own_kp t y) A) B) C) aM)
     refine ix wN ((16 + ((m : Nat) : Int)) - 16) slTy_23 (Rd.of_own aN) ?_
     exact f1
    ·intro _ r aO _
     rintro _ _ _ _ _ _ _ rfl _ rfl _ rfl _ rfl _ _ _ _ _ _ _ _
     show WL _ _ _ _ _ _ _
     have aP := (own_kp (own_kp (own_kp (own_kp (own_kp t y) A) B) C) aO)
     refine wl_loadE (iV q) wN rfl rfl rfl rfl isAgg_3 (Rd.of_own aP) (by rw [← Z]; exact iget (by simp) (by first | omega | (simp <;> omega))) ?_
     exact f1
    ·intro _ r bA _
     rintro _ _ rfl _ rfl _ rfl _ rfl _ rfl _ rfl _ rfl _ rfl _ rfl _ rfl _ _ _ _ _ _ _
     show WL _ _ _ _ _ _ _
     refine ar (p + q) wN ?_
     exact f1
    ·intro _ r bB _
     rintro _ _ _ _ _ _ _ _ _ _ _ _ _ _ _ _ _ _
     show WL _ _ _ _ _ _ _
     refine mw (vi (xorI (xorI (rot f 7) (rot f 18)) (f / (2 : Int) ^ ((3 : Int)).toNat))) ?_
     exact f1
    ·intro _ r bC _
     rintro _ _ rfl _ rfl _ rfl _ rfl _ rfl _ rfl _ rfl _ rfl _ rfl _ rfl _ rfl _ rfl _ _ _ _ _
     show WL _ _ _ _ _ _ _
     refine ar ((p + q) + (xorI (xorI (rot f 7) (rot f 18)) (f / (2 : Int) ^ ((3 : Int)).toNat))) wN ?_
     exact f1
    ·intro _ r bD _
     rintro _ _ _ _ _ _ _ _ _ _ _ _ _ _ _ _ _ _
     show WL _ _ _ _ _ _ _
     refine mw (vi (xorI (xorI (rot g 17) (rot g 19)) (g / (2 : Int) ^ ((10 : Int)).toNat))) ?_
     exact f1
    ·intro _ r bE _
     rintro _ _ rfl _ rfl _ rfl _ rfl _ rfl _ rfl _ rfl _ rfl _ rfl _ rfl _ rfl _ rfl _ rfl _ rfl _ _ _
     show WL _ _ _ _ _ _ _
     refine ar (((p + q) + (xorI (xorI (rot f 7) (rot f 18)) (f / (2 : Int) ^ ((3 : Int)).toNat))) + (xorI (xorI (rot g 17) (rot g 19)) (g / (2 : Int) ^ ((10 : Int)).toNat))) wN ?_
     exact f1
    ·intro _ r bF _
     rintro _ _ rfl _ rfl _ rfl _ rfl _ rfl _ rfl _ rfl _ rfl _ rfl _ rfl _ rfl _ rfl _ rfl _ rfl _ rfl _ _
     show WL _ _ _ _ _ _ _
     refine wl_and (((p + q) + (xorI (xorI (rot f 7) (rot f 18)) (f / (2 : Int) ^ ((3 : Int)).toNat))) + (xorI (xorI (rot g 17) (rot g 19)) (g / (2 : Int) ^ ((10 : Int)).toNat))) 4294967295 4294967296 32 wN rfl rfl (by decide) (by decide) (by decide) (by kernel_rfl) ?_
     exact f1
    ·intro _ r aQ _
     rintro _ _ rfl _ rfl _ rfl _ rfl _ rfl _ rfl _ rfl _ rfl _ rfl _ rfl _ rfl _ rfl _ rfl _ rfl _ rfl _ rfl _
     show WL _ _ _ _ _ _ _
     refine ltI ([((((p + q) + (xorI (xorI (rot f 7) (rot f 18)) (f / (2 : Int) ^ ((3 : Int)).toNat))) + (xorI (xorI (rot g 17) (rot g 19)) (g / (2 : Int) ^ ((10 : Int)).toNat))) % 4294967296)] : List Int) wN slTy_23 ?_
     intro bG bH aR aS aT
     exact wl_finT aS ⟨_, _, rfl, (own_lo aT aQ.size), (by simp), ⟨trivial, trivial⟩⟩
   ·intro _ r P
    rintro _ rfl _ rfl _ rfl _ rfl _ rfl _ rfl _ rfl _ rfl _ rfl _ rfl _ rfl _ rfl _ rfl _ rfl _ rfl _ rfl _ rfl _ ⟨bI, bJ, rfl, aU, bK, -⟩
    show WL _ _ _ _ _ _ _
    have aV := (own_kp (own_kp (own_kp (own_kp (own_kp t y) A) B) C) P)
    refine apI (schedN d m) ([((((p + q) + (xorI (xorI (rot f 7) (rot f 18)) (f / (2 : Int) ^ ((3 : Int)).toNat))) + (xorI (xorI (rot g 17) (rot g 19)) (g / (2 : Int) ^ ((10 : Int)).toNat))) % 4294967296)] : List Int) wN slTy_23 aV (Rd.of_own aU) (z8 S W av y A B C P) ?_
    intro Q R aR ay aW bL aX
    have aY := (aD.extk P).ext ay (fun k hk => nT (Nat.le_refl o.heap.size) (own_lt t k hk).1)
    refine aw (vs Q ((schedN d m) ++ ([((((p + q) + (xorI (xorI (rot f 7) (rot f 18)) (f / (2 : Int) ^ ((3 : Int)).toNat))) + (xorI (xorI (rot g 17) (rot g 19)) (g / (2 : Int) ^ ((10 : Int)).toNat))) % 4294967296)] : List Int)).length R) ?_
    refine wl_nil <| wq_blk_normal <| wq_then <| wc_region ?_
    refine mw (vi (16 + ((m : Nat) : Int))) ?_
    refine ar ((16 + ((m : Nat) : Int)) + 1) wN ?_
    refine aw (vi ((16 + ((m : Nat) : Int)) + 1)) ?_
    refine wl_nil ?_
    have az : (((schedN d m) ++ ([((((p + q) + (xorI (xorI (rot f 7) (rot f 18)) (f / (2 : Int) ^ ((3 : Int)).toNat))) + (xorI (xorI (rot g 17) (rot g 19)) (g / (2 : Int) ^ ((10 : Int)).toNat))) % 4294967296)] : List Int)) : List Int) = schedN d (m + 1) := by subst Y Z aa ab; exact schedN_app
    refine wq_loopP (w0 := X) [(2, (vs none 0 0)), (3, (.slice Q (schedN d (m + 1)).length R)), (8, (vi (16 + (((m + 1) : Nat) : Int))))] ?_ ?_ ?_
    · exact ⟨rfl, (cA (fun l : List Int => Value.slice Q l.length R) az), (cA (Value.int .i64) (show (((16 + ((m : Nat) : Int)) + 1) : Int) = (16 + (((m + 1) : Nat) : Int)) by omega)), trivial⟩
    · exact fun u => ⟨(m + 1), u, Q, R, rfl, aY, ((((((((Ch.refl (fun k => o.heap.size ≤ k) G).ext av (fun k hk => hk)).extk y).extk A).extk B).extk C).extk P).ext ay (fun k hk => nT (Nat.le_refl o.heap.size) (own_lt t k hk).1)), (by omega), (az ▸ ⟨aW, aX⟩)⟩
    · show (64 - (16 + (((m + 1) : Nat) : Int))).toNat < (64 - (16 + ((m : Nat) : Int))).toNat; omega

theorem csCompress (G : World) (a0 : Value) (j : List Int) (aN : R_23 G a0 j) (a1 : Value) (p : List UInt8) (aO : R_22 G a1 p)  : Fn Tryz.prog 152 #[a0, a1] G (fun v L => Keep G L ∧ O_23 L G.heap.size v (compress j p)) := by
 obtain ⟨B, C, rfl, F, ap⟩ := aN
 obtain ⟨ah, ai, rfl, a2, aP⟩ := aO
 refine fn_ofS (n := 156) [(vs B j.length C), (vs ah p.length ai)] Tryz.func152 rfl rfl ?_
 refine sr ?_
 refine aw (vs none 0 0) ?_
 refine nx ?_
 refine wl_lit0 wN rfl rfl slTy_23 (fun w => by kernel_rfl) ?_
 intro cj ck a3 aQ
 have a4 := (Ch.base G).extk a3
 refine mw (vs B j.length C) ?_
 refine ap0I j wN slTy_23 aQ (F.from0 a4) a3.size ?_
 intro H I a5 aR X cm
 have aq := a4.extk aR
 refine aw (vs H j.length I) ?_
 refine n4 ?_
 refine jT1 [(0, (vs B j.length C)), (1, (vs ah p.length ai)), (4, (vs none 0 0)), (5, (vs H j.length I))] (compress j p = j) ?_ fun a6 => ?_
 ·intro aS a7 a8 cn
  have aT := aq.extk a8
  refine sr ?_
  refine mw (vs H j.length I) ?_
  refine aw (vs H j.length I) ?_
  refine n1 ?_
  have aU := (own_kp X a8)
  refine rt (vs H j.length I) ?_
  refine ⟨aT.keep0, ?_⟩
  rw [aS]
  exact ⟨_, _, rfl, aU, ap, ⟨trivial, trivial⟩⟩
 refine mw (vs B j.length C) ?_
 refine cl wN (csl2Words a5 _ j (mR_23 (F.from0 aq) ap)) ?_
 rintro _ a7 ⟨Y, rfl⟩
 have a9 := aq.extk Y
 refine pu (vb (!(ws8 j))) wN ?_
 refine mw (vb (!(ws8 j))) ?_
 rcases bf (ws8 j) with N | N
 ·iterate 3 refine sk (cA not N) ?_
  refine pk (vb true) wN (cA not N) ?_
  refine n2 ?_
  refine ct (Eq.refl true) ?_
  have aV : compress j p = j := by first | exact compress_f (by first | assumption | exact ‹ws8 j = false›) | exact compress_g (by omega) | exact compress_t (by first | assumption | exact ‹ws8 j = true›) (by omega) (by omega)
  exact wj (a6 aV _ Y)
 have co := ws8_t N
 refine mv (vs ah p.length ai) (wS (cA not N)) ?_
 refine ln (wS (cA not N)) slTy_22 (a2.from0 a9) ?_
 refine pu (vb (!(decide ((p.length : Int) = 64)))) (wS (cA not N)) ?_
 refine pf (vb (!(decide ((p.length : Int) = 64)))) wN (cA not N) ?_
 refine n2 ?_
 rcases bf (decide ((p.length : Int) = 64)) with aa | aa
 ·have cp := dF aa
  refine ct (cA not aa) ?_
  have aW : compress j p = j := by first | exact compress_f (by first | assumption | exact ‹ws8 j = false›) | exact compress_g (by omega) | exact compress_t (by first | assumption | exact ‹ws8 j = true›) (by omega) (by omega)
  exact wj (a6 aW _ Y)
 have cq := dT aa
 refine cf (cA not aa) ?_
 refine y1 ?_
 refine cl wN (csl2K a7 ) ?_
 rintro _ au ⟨aj, ⟨R, S, rfl, ak, _⟩⟩
 have aA := a9.extk aj
 refine aw (vs R (kw).length S) ?_
 refine nx ?_
 refine mw (vs ah p.length ai) ?_
 refine cl wN (csSchedule au _ p (mR_22 (a2.from0 aA) aP)) ?_
 rintro _ aB ⟨O, ⟨T, V, rfl, am, _⟩⟩
 have J := aA.extk O
 have cr := schedP_len p
 refine aw (vs T (schedP p).length V) ?_
 refine wl_nil <| wq_then <| wc_seq ?_
 refine wc_draw ([(36, [], [], (fun _ v _ => v = (vs B j.length C))), (37, [], [0], (fun _ v _ => v = (ve (vs B j.length C) ((0 : Int).toNat * 1)))), (38, [], [0, 1], (fun _ v _ => v = (vi (j.getD 0 0)))), (39, [], [], (fun _ v _ => v = (vs B j.length C))), (40, [], [3], (fun _ v _ => v = (ve (vs B j.length C) ((1 : Int).toNat * 1)))), (41, [], [3, 4], (fun _ v _ => v = (vi (j.getD 1 0)))), (42, [], [], (fun _ v _ => v = (vs B j.length C))), (43, [], [6], (fun _ v _ => v = (ve (vs B j.length C) ((2 : Int).toNat * 1)))), (44, [], [6, 7], (fun _ v _ => v = (vi (j.getD 2 0)))), (45, [], [], (fun _ v _ => v = (vs B j.length C))), (46, [], [9], (fun _ v _ => v = (ve (vs B j.length C) ((3 : Int).toNat * 1)))), (47, [], [9, 10], (fun _ v _ => v = (vi (j.getD 3 0)))), (48, [], [], (fun _ v _ => v = (vs B j.length C))), (49, [], [12], (fun _ v _ => v = (ve (vs B j.length C) ((4 : Int).toNat * 1)))), (50, [], [12, 13], (fun _ v _ => v = (vi (j.getD 4 0)))), (51, [], [], (fun _ v _ => v = (vs B j.length C))), (52, [], [15], (fun _ v _ => v = (ve (vs B j.length C) ((5 : Int).toNat * 1)))), (53, [], [15, 16], (fun _ v _ => v = (vi (j.getD 5 0)))), (54, [], [], (fun _ v _ => v = (vs B j.length C))), (55, [], [18], (fun _ v _ => v = (ve (vs B j.length C) ((6 : Int).toNat * 1)))), (56, [], [18, 19], (fun _ v _ => v = (vi (j.getD 6 0)))), (57, [], [], (fun _ v _ => v = (vs B j.length C))), (58, [], [21], (fun _ v _ => v = (ve (vs B j.length C) ((7 : Int).toNat * 1)))), (59, [], [21, 22], (fun _ v _ => v = (vi (j.getD 7 0)))), (8, [], [0, 1, 2], (fun _ v _ => v = (vi (j.getD 0 0)))), (9, [], [0, 1, 2, 3, 4, 5, 24], (fun _ v _ => v = (vi (j.getD 1 0)))), (10, [], [0, 1, 2, 3, 4, 5, 6, 7, 8, 24, 25], (fun _ v _ => v = (vi (j.getD 2 0)))), (11, [], [0, 1, 2, 3, 4, 5, 6, 7, 8, 9, 10, 11, 24, 25, 26], (fun _ v _ => v = (vi (j.getD 3 0)))), (12, [], [0, 1, 2, 3, 4, 5, 6, 7, 8, 9, 10, 11, 12, 13, 14, 24, 25, 26, 27], (fun _ v _ => v = (vi (j.getD 4 0)))), (13, [], [0, 1, 2, 3, 4, 5, 6, 7, 8, 9, 10, 11, 12, 13, 14, 15, 16, 17, 24, 25, 26, 27, 28], (fun _ v _ => v = (vi (j.getD 5 0)))), (14, [], [0, 1, 2, 3, 4, 5, 6, 7, 8, 9, 10, 11, 12, 13, 14, 15, 16, 17, 18, 19, 20, 24, 25, 26, 27, 28, 29], (fun _ v _ => v = (vi (j.getD 6 0))))] : GV) mixed rfl (by kernel_rfl) (by kernel_rfl) ?_ ?_ ?_
 ·exact ⟨hV, hE, ⟨hV, hE, ⟨hV, hE, ⟨hV, hE, ⟨hV, hE, ⟨hV, hE, ⟨hV, hE, ⟨hV, hE, ⟨hV, hE, ⟨hV, hE, ⟨hV, hE, ⟨hV, hE, ⟨hV, hE, ⟨hV, hE, ⟨hV, hE, ⟨hV, hE, ⟨hV, hE, ⟨hV, hE, ⟨hV, hE, ⟨hV, hE, ⟨hV, hE, ⟨hV, hE, ⟨hV, hE, ⟨hV, hE, ⟨hV, hE, ⟨hV, hE, ⟨hV, hE, ⟨hV, hE, ⟨hV, hE, ⟨hV, hE, ⟨hV, hE, trivial⟩⟩⟩⟩⟩⟩⟩⟩⟩⟩⟩⟩⟩⟩⟩⟩⟩⟩⟩⟩⟩⟩⟩⟩⟩⟩⟩⟩⟩⟩⟩
 ·refine ⟨?_, ⟨?_, ⟨?_, ⟨?_, ⟨?_, ⟨?_, ⟨?_, ⟨?_, ⟨?_, ⟨?_, ⟨?_, ⟨?_, ⟨?_, ⟨?_, ⟨?_, ⟨?_, ⟨?_, ⟨?_, ⟨?_, ⟨?_, ⟨?_, ⟨?_, ⟨?_, ⟨?_, ⟨?_, ⟨?_, ⟨?_, ⟨?_, ⟨?_, ⟨?_, ⟨?_, trivial⟩⟩⟩⟩⟩⟩⟩⟩⟩⟩⟩⟩⟩⟩⟩⟩⟩⟩⟩⟩⟩⟩⟩⟩⟩⟩⟩⟩⟩⟩⟩
  ·intro A cs
   rintro _ _ _ _ _ _ _ _ _ _ _ _ _ _ _ _ _ _ _ _ _ _ _ _ _ _ _ _ _ _ _
   show WL _ _ _ _ _ _ _
   refine mw (vs B j.length C) ?_
   exact f2
  ·intro A aX
   have aY := J.extk aX
   rintro _ rfl _ _ _ _ _ _ _ _ _ _ _ _ _ _ _ _ _ _ _ _ _ _ _ _ _ _ _ _ _ _
   show WL _ _ _ _ _ _ _
   refine ix wN 0 slTy_23 (F.from0 aY) ?_
   exact f2
  ·intro A aZ
   have ba := J.extk aZ
   rintro _ rfl _ rfl _ _ _ _ _ _ _ _ _ _ _ _ _ _ _ _ _ _ _ _ _ _ _ _ _ _ _ _ _
   show WL _ _ _ _ _ _ _
   refine ei (x := j) 0 wN isAgg_3 (F.from0 ba) ?_
   exact f2
  ·intro A cu
   rintro _ _ _ _ _ _ _ _ _ _ _ _ _ _ _ _ _ _ _ _ _ _ _ _ _ _ _ _ _ _ _
   show WL _ _ _ _ _ _ _
   refine mw (vs B j.length C) ?_
   exact f2
  ·intro A bb
   have bc := J.extk bb
   rintro _ _ _ _ rfl _ _ _ _ _ _ _ _ _ _ _ _ _ _ _ _ _ _ _ _ _ _ _ _ _ _ _
   show WL _ _ _ _ _ _ _
   refine ix wN 1 slTy_23 (F.from0 bc) ?_
   exact f2
  ·intro A bd
   have be := J.extk bd
   rintro _ _ _ _ rfl _ rfl _ _ _ _ _ _ _ _ _ _ _ _ _ _ _ _ _ _ _ _ _ _ _ _ _ _
   show WL _ _ _ _ _ _ _
   refine ei (x := j) 1 wN isAgg_3 (F.from0 be) ?_
   exact f2
  ·intro A cv
   rintro _ _ _ _ _ _ _ _ _ _ _ _ _ _ _ _ _ _ _ _ _ _ _ _ _ _ _ _ _ _ _
   show WL _ _ _ _ _ _ _
   refine mw (vs B j.length C) ?_
   exact f2
  ·intro A bg
   have bh := J.extk bg
   rintro _ _ _ _ _ _ _ rfl _ _ _ _ _ _ _ _ _ _ _ _ _ _ _ _ _ _ _ _ _ _ _ _
   show WL _ _ _ _ _ _ _
   refine ix wN 2 slTy_23 (F.from0 bh) ?_
   exact f2
  ·intro A bi
   have bj := J.extk bi
   rintro _ _ _ _ _ _ _ rfl _ rfl _ _ _ _ _ _ _ _ _ _ _ _ _ _ _ _ _ _ _ _ _ _ _
   show WL _ _ _ _ _ _ _
   refine ei (x := j) 2 wN isAgg_3 (F.from0 bj) ?_
   exact f2
  ·intro A cw
   rintro _ _ _ _ _ _ _ _ _ _ _ _ _ _ _ _ _ _ _ _ _ _ _ _ _ _ _ _ _ _ _
   show WL _ _ _ _ _ _ _
   refine mw (vs B j.length C) ?_
   exact f2
  ·intro A bk
   have bl := J.extk bk
   rintro _ _ _ _ _ _ _ _ _ _ rfl _ _ _ _ _ _ _ _ _ _ _ _ _ _ _ _ _ _ _ _ _
   show WL _ _ _ _ _ _ _
   refine ix wN 3 slTy_23 (F.from0 bl) ?_
   exact f2
  ·intro A bm
   have bn := J.extk bm
   rintro _ _ _ _ _ _ _ _ _ _ rfl _ rfl _ _ _ _ _ _ _ _ _ _ _ _ _ _ _ _ _ _ _ _
   show WL _ _ _ _ _ _ _
   refine ei (x := j) 3 wN isAgg_3 (F.from0 bn) ?_
   exact f2
  ·intro A cx
   rintro _ _ _ _ _ _ _ _ _ _ _ _ _ _ _ _ _ _ _ _ _ _ _ _ _ _ _ _ _ _ _
   show WL _ _ _ _ _ _ _
   refine mw (vs B j.length C) ?_
   exact f2
  ·intro A bo
   have bp := J.extk bo
   rintro _ _ _ _ _ _ _ _ _ _ _ _ _ rfl _ _ _ _ _ _ _ _ _ _ _ _ _ _ _ _ _ _
   show WL _ _ _ _ _ _ _
   refine ix wN 4 slTy_23 (F.from0 bp) ?_
   exact f2
  ·intro A bq
   have br := J.extk bq
   rintro _ _ _ _ _ _ _ _ _ _ _ _ _ rfl _ rfl _ _ _ _ _ _ _ _ _ _ _ _ _ _ _ _ _
   show WL _ _ _ _ _ _ _
   refine ei (x := j) 4 wN isAgg_3 (F.from0 br) ?_
   exact f2
  ·intro A cy
   rintro _ _ _ _ _ _ _ _ _ _ _ _ _ _ _ _ _ _ _ _ _ _ _ _ _ _ _ _ _ _ _
   show WL _ _ _ _ _ _ _
   refine mw (vs B j.length C) ?_
   exact f2
  ·intro A bu
   have bv := J.extk bu
   rintro _ _ _ _ _ _ _ _ _ _ _ _ _ _ _ _ rfl _ _ _ _ _ _ _ _ _ _ _ _ _ _ _
   show WL _ _ _ _ _ _ _
   refine ix wN 5 slTy_23 (F.from0 bv) ?_
   exact f2
  ·intro A bw
   have bz := J.extk bw
   rintro _ _ _ _ _ _ _ _ _ _ _ _ _ _ _ _ rfl _ rfl _ _ _ _ _ _ _ _ _ _ _ _ _ _
   show WL _ _ _ _ _ _ _
   refine ei (x := j) 5 wN isAgg_3 (F.from0 bz) ?_
   exact f2
  ·intro A cz
   rintro _ _ _ _ _ _ _ _ _ _ _ _ _ _ _ _ _ _ _ _ _ _ _ _ _ _ _ _ _ _ _
   show WL _ _ _ _ _ _ _
   refine mw (vs B j.length C) ?_
   exact f2
  ·intro A b0
   have b1 := J.extk b0
   rintro _ _ _ _ _ _ _ _ _ _ _ _ _ _ _ _ _ _ _ rfl _ _ _ _ _ _ _ _ _ _ _ _
   show WL _ _ _ _ _ _ _
   refine ix wN 6 slTy_23 (F.from0 b1) ?_
   exact f2
  ·intro A b2
   have b3 := J.extk b2
   rintro _ _ _ _ _ _ _ _ _ _ _ _ _ _ _ _ _ _ _ rfl _ rfl _ _ _ _ _ _ _ _ _ _ _
   show WL _ _ _ _ _ _ _
   refine ei (x := j) 6 wN isAgg_3 (F.from0 b3) ?_
   exact f2
  ·intro A c0
   rintro _ _ _ _ _ _ _ _ _ _ _ _ _ _ _ _ _ _ _ _ _ _ _ _ _ _ _ _ _ _ _
   show WL _ _ _ _ _ _ _
   refine mw (vs B j.length C) ?_
   exact f2
  ·intro A b4
   have b5 := J.extk b4
   rintro _ _ _ _ _ _ _ _ _ _ _ _ _ _ _ _ _ _ _ _ _ _ rfl _ _ _ _ _ _ _ _ _
   show WL _ _ _ _ _ _ _
   refine ix wN 7 slTy_23 (F.from0 b5) ?_
   exact f2
  ·intro A b6
   have b7 := J.extk b6
   rintro _ _ _ _ _ _ _ _ _ _ _ _ _ _ _ _ _ _ _ _ _ _ rfl _ rfl _ _ _ _ _ _ _ _
   show WL _ _ _ _ _ _ _
   refine ei (x := j) 7 wN isAgg_3 (F.from0 b7) ?_
   exact f2
  ·intro A c1
   rintro _ rfl _ rfl _ rfl _ _ _ _ _ _ _ _ _ _ _ _ _ _ _ _ _ _ _ _ _ _ _ _ _ _ _ _
   show WL _ _ _ _ _ _ _
   refine aw (vi (j.getD 0 0)) ?_
   exact f2
  ·intro A c2
   rintro _ rfl _ rfl _ rfl _ rfl _ rfl _ rfl _ _ _ _ _ _ _ _ _ _ _ _ _ _ _ _ _ _ _ rfl _ _ _ _ _ _
   show WL _ _ _ _ _ _ _
   refine aw (vi (j.getD 1 0)) ?_
   exact f2
  ·intro A c3
   rintro _ rfl _ rfl _ rfl _ rfl _ rfl _ rfl _ rfl _ rfl _ rfl _ _ _ _ _ _ _ _ _ _ _ _ _ _ _ _ rfl _ rfl _ _ _ _ _
   show WL _ _ _ _ _ _ _
   refine aw (vi (j.getD 2 0)) ?_
   exact f2
  ·intro A c4
   rintro _ rfl _ rfl _ rfl _ rfl _ rfl _ rfl _ rfl _ rfl _ rfl _ rfl _ rfl _ rfl _ _ _ _ _ _ _ _ _ _ _ _ _ rfl _ rfl _ rfl _ _ _ _
   show WL _ _ _ _ _ _ _
   refine aw (vi (j.getD 3 0)) ?_
   exact f2
  ·intro A c5
   rintro _ rfl _ rfl _ rfl _ rfl _ rfl _ rfl _ rfl _ rfl _ rfl _ rfl _ rfl _ rfl _ rfl _ rfl _ rfl _ _ _ _ _ _ _ _ _ _ rfl _ rfl _ rfl _ rfl _ _ _
   show WL _ _ _ _ _ _ _
   refine aw (vi (j.getD 4 0)) ?_
   exact f2
  ·intro A c6
   rintro _ rfl _ rfl _ rfl _ rfl _ rfl _ rfl _ rfl _ rfl _ rfl _ rfl _ rfl _ rfl _ rfl _ rfl _ rfl _ rfl _ rfl _ rfl _ _ _ _ _ _ _ rfl _ rfl _ rfl _ rfl _ rfl _ _
   show WL _ _ _ _ _ _ _
   refine aw (vi (j.getD 5 0)) ?_
   exact f2
  ·intro A c7
   rintro _ rfl _ rfl _ rfl _ rfl _ rfl _ rfl _ rfl _ rfl _ rfl _ rfl _ rfl _ rfl _ rfl _ rfl _ rfl _ rfl _ rfl _ rfl _ rfl _ rfl _ rfl _ _ _ _ rfl _ rfl _ rfl _ rfl _ rfl _ rfl _
   show WL _ _ _ _ _ _ _
   refine aw (vi (j.getD 6 0)) ?_
   exact f2
 ·intro A M
  have b8 := J.extk M
  rintro _ rfl _ rfl _ rfl _ rfl _ rfl _ rfl _ rfl _ rfl _ rfl _ rfl _ rfl _ rfl _ rfl _ rfl _ rfl _ rfl _ rfl _ rfl _ rfl _ rfl _ rfl _ rfl _ rfl _ rfl _ rfl _ rfl _ rfl _ rfl _ rfl _ rfl _ rfl
  show WL _ _ _ _ _ _ _
  refine aw (vi (j.getD 7 0)) ?_
  refine n4 ?_
  refine aw (vi 0) ?_
  refine wl_nil <| wq_then <| wc_block ?_
  refine wc_loopP [(0, (vs B j.length C)), (4, (vs none 0 0)), (5, (vs H j.length I)), (6, (vs R (kw).length S)), (7, (vs T (schedP p).length V)), (8, (vi ((cmpN (schedP p) (s8of j) 0).a))), (9, (vi ((cmpN (schedP p) (s8of j) 0).b))), (10, (vi ((cmpN (schedP p) (s8of j) 0).c))), (11, (vi ((cmpN (schedP p) (s8of j) 0).d))), (12, (vi ((cmpN (schedP p) (s8of j) 0).e))), (13, (vi ((cmpN (schedP p) (s8of j) 0).f))), (14, (vi ((cmpN (schedP p) (s8of j) 0).g))), (15, (vi ((cmpN (schedP p) (s8of j) 0).z))), (16, (vi ((0 : Nat) : Int)))] ⟨rfl, rfl, rfl, rfl, rfl, (cA (Value.int .i64) (show ((j.getD 0 0) : Int) = (cmpN (schedP p) (s8of j) 0).a by rfl)), (cA (Value.int .i64) (show ((j.getD 1 0) : Int) = (cmpN (schedP p) (s8of j) 0).b by rfl)), (cA (Value.int .i64) (show ((j.getD 2 0) : Int) = (cmpN (schedP p) (s8of j) 0).c by rfl)), (cA (Value.int .i64) (show ((j.getD 3 0) : Int) = (cmpN (schedP p) (s8of j) 0).d by rfl)), (cA (Value.int .i64) (show ((j.getD 4 0) : Int) = (cmpN (schedP p) (s8of j) 0).e by rfl)), (cA (Value.int .i64) (show ((j.getD 5 0) : Int) = (cmpN (schedP p) (s8of j) 0).f by rfl)), (cA (Value.int .i64) (show ((j.getD 6 0) : Int) = (cmpN (schedP p) (s8of j) 0).g by rfl)), (cA (Value.int .i64) (show ((j.getD 7 0) : Int) = (cmpN (schedP p) (s8of j) 0).z by rfl)), (cA (Value.int .i64) (show (0 : Int) = ((0 : Nat) : Int) by omega)), trivial⟩ (fun e' L => ∃ (k : Nat) (o : Int) (s : Int) (t : Int) (D : Int) (i : Int) (q : Int) (r : Int) (y : Int) (aC : Env), e' = pt aC [(0, (vs B j.length C)), (4, (vs none 0 0)), (5, (vs H j.length I)), (6, (vs R (kw).length S)), (7, (vs T (schedP p).length V)), (8, (vi o)), (9, (vi s)), (10, (vi t)), (11, (vi D)), (12, (vi i)), (13, (vi q)), (14, (vi r)), (15, (vi y)), (16, (vi ((k : Nat) : Int)))] ∧ Ch (fun k => G.heap.size ≤ k) G L ∧ Ch (fun k => A.heap.size ≤ k) A L ∧ k ≤ 64 ∧ o = (cmpN (schedP p) (s8of j) k).a ∧ s = (cmpN (schedP p) (s8of j) k).b ∧ t = (cmpN (schedP p) (s8of j) k).c ∧ D = (cmpN (schedP p) (s8of j) k).d ∧ i = (cmpN (schedP p) (s8of j) k).e ∧ q = (cmpN (schedP p) (s8of j) k).f ∧ r = (cmpN (schedP p) (s8of j) k).g ∧ y = (cmpN (schedP p) (s8of j) k).z) (fun e' _ => (64 - (intOf (e' 16))).toNat) ?_ ?_
  ·exact fun u => ⟨0, (cmpN (schedP p) (s8of j) 0).a, (cmpN (schedP p) (s8of j) 0).b, (cmpN (schedP p) (s8of j) 0).c, (cmpN (schedP p) (s8of j) 0).d, (cmpN (schedP p) (s8of j) 0).e, (cmpN (schedP p) (s8of j) 0).f, (cmpN (schedP p) (s8of j) 0).g, (cmpN (schedP p) (s8of j) 0).z, u, rfl, b8, (Ch.refl (fun k => A.heap.size ≤ k) A), (by omega), (by first | rfl | assumption), (by first | rfl | assumption), (by first | rfl | assumption), (by first | rfl | assumption), (by first | rfl | assumption), (by first | rfl | assumption), (by first | rfl | assumption), (by first | rfl | assumption)⟩
  ·rintro _ av ⟨k, o, s, t, D, i, q, r, y, aC, rfl, aD, W, c8, hi_a, hi_b, hi_c, hi_d, hi_e, hi_f, hi_g, hi_z⟩
   obtain ⟨zw, hzw⟩ : ∃ z, (schedP p).getD k 0 = z := ⟨_, rfl⟩
   have hwd : 0 ≤ zw ∧ zw < 4294967296 := hzw ▸ wget (schedP_w p) k
   obtain ⟨zk, hzk⟩ : ∃ z, kw.getD k 0 = z := ⟨_, rfl⟩
   have hkw : 0 ≤ zk ∧ zk < 4294967296 := hzk ▸ wget kw_w k
   have hkl : kw.length = 64 := rfl
   have hok := cmpN_ok (w := schedP p) (s8of_ok (areW_t (by first | assumption | exact ‹ws8 j = true›)).1) k
   unfold S8.ok at hok
   rw [← hi_a, ← hi_b, ← hi_c, ← hi_d, ← hi_e, ← hi_f, ← hi_g, ← hi_z] at hok
   refine wc_seq <| sr ?_
   refine mw (vi ((k : Nat) : Int)) ?_
   refine pu (vb (decide (((k : Nat) : Int) < 64))) wN ?_
   refine n2 ?_
   rcases bf (decide (((k : Nat) : Int) < 64)) with ab | ab
   ·have c9 := dF ab
    refine cf ab ?_
    refine wc_exit <| wq_then_exit ?_
    obtain rfl : k = 64 := by omega
    refine wq_then_exit <| wq_blk_exit <| wq_then <| sr ?_
    refine mw (vi o) ?_
    refine mw (vi s) ?_
    refine mw (vi t) ?_
    refine mw (vi D) ?_
    refine mw (vi i) ?_
    refine mw (vi q) ?_
    refine mw (vi r) ?_
    refine mw (vi y) ?_
    refine ltI ([o, s, t, D, i, q, r, y] : List Int) wN slTy_23 ?_
    intro P Q E aE aF
    have b9 := aD.extk aE
    refine aw (vs P ([o, s, t, D, i, q, r, y] : List Int).length Q) ?_
    refine n4 ?_
    refine aw (vi 0) ?_
    refine wl_nil <| wq_then <| wc_block ?_
    have bA := (own_kp (own_ch (own_kp (own_kp (own_kp (own_kp X Y) aj) O) M) W (fun g hg hlt hk => by have ac := (own_lt X g hg).2; have ad : a5.heap.size ≤ A.heap.size := (z4 Y aj O M); have ae : A.heap.size ≤ g := hk; omega)) aE)
    have bB : (j : List Int) = (addL j (S8.list (cmpN (schedP p) (s8of j) 64))).take 0 ++ j.drop 0 := by first | rfl | simp
    have bC : (([o, s, t, D, i, q, r, y] : List Int) : List Int) = ([o, s, t, D, i, q, r, y] : List Int) := by first | rfl | simp
    refine wc_loopP [(0, (vs B j.length C)), (4, (vs none 0 0)), (5, (vs H j.length I)), (19, (vs P ([o, s, t, D, i, q, r, y] : List Int).length Q)), (20, (vi ((0 : Nat) : Int)))] ⟨rfl, rfl, rfl, rfl, (cA (Value.int .i64) (show (0 : Int) = ((0 : Nat) : Int) by omega)), trivial⟩ (fun e' L => ∃ (m : Nat) (aG : Env), e' = pt aG [(0, (vs B j.length C)), (4, (vs none 0 0)), (5, (vs H j.length I)), (19, (vs P ([o, s, t, D, i, q, r, y] : List Int).length Q)), (20, (vi ((m : Nat) : Int)))] ∧ Ch (fun k => G.heap.size ≤ k) G L ∧ Ch (fun k => G.heap.size ≤ k) E L ∧ m ≤ 8 ∧ World.ownsRow L G.heap.size 3 1 (.slice H j.length I) j.length (((addL j (S8.list (cmpN (schedP p) (s8of j) 64))).take m ++ j.drop m).map iV) ∧ World.ownsRow L av.heap.size 3 1 (.slice P ([o, s, t, D, i, q, r, y] : List Int).length Q) ([o, s, t, D, i, q, r, y] : List Int).length ((([o, s, t, D, i, q, r, y] : List Int)).map iV)) (fun e' _ => (8 - (intOf (e' 20))).toNat) ?_ ?_
    ·exact fun u => ⟨0, u, rfl, b9, (Ch.refl (fun k => G.heap.size ≤ k) E), (by omega), (by rw [← bB]; exact bA), (by rw [← bC]; exact aF)⟩
    ·rintro _ Z ⟨m, aG, rfl, an, bD, cC, ax, ay⟩
     have hlL : ([o, s, t, D, i, q, r, y] : List Int).length = 8 := rfl
     have hll : (addL j (S8.list (cmpN (schedP p) (s8of j) 64))).length = 8 := addL_len (by omega) rfl
     have cD : (j.length : Int) = 8 := (areW_t (by first | assumption | exact ‹ws8 j = true›)).2
     have cE := wget (areW_t (by first | assumption | exact ‹ws8 j = true›)).1 m
     have hle : ([o, s, t, D, i, q, r, y] : List Int) = (S8.list (cmpN (schedP p) (s8of j) 64)) := by rw [hi_a, hi_b, hi_c, hi_d, hi_e, hi_f, hi_g, hi_z]; rfl
     have cF : 0 ≤ ([o, s, t, D, i, q, r, y] : List Int).getD m 0 ∧ ([o, s, t, D, i, q, r, y] : List Int).getD m 0 < 4294967296 := hle ▸ wget (s8l_w (cmpN_ok (w := schedP p) (s8of_ok (areW_t (by first | assumption | exact ‹ws8 j = true›)).1) 64)) m
     refine wc_seq <| sr ?_
     refine mw (vi ((m : Nat) : Int)) ?_
     refine pu (vb (decide (((m : Nat) : Int) < 8))) wN ?_
     refine n2 ?_
     rcases bf (decide (((m : Nat) : Int) < 8)) with af | af
     ·have cG := dF af
      refine cf af ?_
      refine wc_exit <| wq_then_exit <| wq_then_exit <| wq_blk_exit <| wq_then <| sr ?_
      refine mw (vs H j.length I) ?_
      refine aw (vs H j.length I) ?_
      refine n3 ?_
      refine rt (vs H j.length I) ?_
      refine ⟨an.keep0, ?_⟩
      have bE : compress j p = ((addL j (S8.list (cmpN (schedP p) (s8of j) 64))).take m ++ j.drop m) := by first | exact compress_f (by first | assumption | exact ‹ws8 j = false›) | exact compress_g (by omega) | exact compress_t (by first | assumption | exact ‹ws8 j = true›) (by omega) (by omega)
      rw [bE]
      have aH : j.length = (((addL j (S8.list (cmpN (schedP p) (s8of j) 64))).take m ++ j.drop m)).length := by simp only [List.length_append, List.length_take, List.length_drop]; omega
      rw [aH] at ax ⊢
      exact ⟨_, _, rfl, ax, (by rw [← aH]; exact ap), ⟨trivial, trivial⟩⟩
     have cH := dT af
     refine ct af ?_
     refine wc_skip <| wq_then <| wc_seq <| wc_block ?_
     refine wc_draw ([(142, [], [], (fun _ v _ => v = (vs H j.length I))), (143, [], [], (fun _ v _ => v = (vi ((m : Nat) : Int)))), (144, [], [], (fun _ v _ => v = (vs B j.length C))), (145, [], [], (fun _ v _ => v = (vi ((m : Nat) : Int)))), (146, [], [2, 3], (fun _ v _ => v = (ve (vs B j.length C) ((((m : Nat) : Int)).toNat * 1)))), (147, [], [2, 3, 4], (fun _ v _ => v = (vi (j.getD m 0)))), (148, [], [], (fun _ v _ => v = (vs P ([o, s, t, D, i, q, r, y] : List Int).length Q))), (149, [], [], (fun _ v _ => v = (vi ((m : Nat) : Int)))), (150, [], [6, 7], (fun _ v _ => v = (ve (vs P ([o, s, t, D, i, q, r, y] : List Int).length Q) ((((m : Nat) : Int)).toNat * 1)))), (151, [], [6, 7, 8], (fun _ v _ => v = (vi ((([o, s, t, D, i, q, r, y] : List Int)).getD m 0)))), (152, [], [2, 3, 4, 5, 6, 7, 8, 9], (fun _ v _ => v = (vi ((j.getD m 0) + ((([o, s, t, D, i, q, r, y] : List Int)).getD m 0))))), (153, [], [2, 3, 4, 5, 6, 7, 8, 9, 10], (fun _ v _ => v = (vi (((j.getD m 0) + ((([o, s, t, D, i, q, r, y] : List Int)).getD m 0)) % 4294967296))))] : GV) mixed rfl (by kernel_rfl) (by kernel_rfl) ?_ ?_ ?_
     ·exact ⟨hV, hE, ⟨hV, hE, ⟨hV, hE, ⟨hV, hE, ⟨hV, hE, ⟨hV, hE, ⟨hV, hE, ⟨hV, hE, ⟨hV, hE, ⟨hV, hE, ⟨hV, hE, ⟨hV, hE, trivial⟩⟩⟩⟩⟩⟩⟩⟩⟩⟩⟩⟩
     ·refine ⟨?_, ⟨?_, ⟨?_, ⟨?_, ⟨?_, ⟨?_, ⟨?_, ⟨?_, ⟨?_, ⟨?_, ⟨?_, ⟨?_, trivial⟩⟩⟩⟩⟩⟩⟩⟩⟩⟩⟩⟩
      ·intro K cI
       rintro _ _ _ _ _ _ _ _ _ _ _ _
       show WL _ _ _ _ _ _ _
       refine mw (vs H j.length I) ?_
       exact f2
      ·intro K cJ
       rintro _ _ _ _ _ _ _ _ _ _ _ _
       show WL _ _ _ _ _ _ _
       refine mw (vi ((m : Nat) : Int)) ?_
       exact f2
      ·intro K cK
       rintro _ _ _ _ _ _ _ _ _ _ _ _
       show WL _ _ _ _ _ _ _
       refine mw (vs B j.length C) ?_
       exact f2
      ·intro K cL
       rintro _ _ _ _ _ _ _ _ _ _ _ _
       show WL _ _ _ _ _ _ _
       refine mw (vi ((m : Nat) : Int)) ?_
       exact f2
      ·intro K bF
       have bG := an.extk bF
       rintro _ _ _ rfl _ rfl _ _ _ _ _ _ _ _
       show WL _ _ _ _ _ _ _
       refine ix wN ((m : Nat) : Int) slTy_23 (F.from0 bG) ?_
       exact f2
      ·intro K bH
       have bI := an.extk bH
       rintro _ _ _ rfl _ rfl _ rfl _ _ _ _ _ _ _
       show WL _ _ _ _ _ _ _
       refine ei (x := j) m wN isAgg_3 (F.from0 bI) ?_
       exact f2
      ·intro K cM
       rintro _ _ _ _ _ _ _ _ _ _ _ _
       show WL _ _ _ _ _ _ _
       refine mw (vs P ([o, s, t, D, i, q, r, y] : List Int).length Q) ?_
       exact f2
      ·intro K cN
       rintro _ _ _ _ _ _ _ _ _ _ _ _
       show WL _ _ _ _ _ _ _
       refine mw (vi ((m : Nat) : Int)) ?_
       exact f2
      ·intro K bJ
       rintro _ _ _ _ _ _ _ rfl _ rfl _ _ _ _
       show WL _ _ _ _ _ _ _
       have bK := (own_kp ay bJ)
       refine ix wN ((m : Nat) : Int) slTy_23 (Rd.of_own bK) ?_
       exact f2
      ·intro K bL
       rintro _ _ _ _ _ _ _ rfl _ rfl _ rfl _ _ _
       show WL _ _ _ _ _ _ _
       have bM := (own_kp ay bL)
       refine ei (x := (([o, s, t, D, i, q, r, y] : List Int))) m wN isAgg_3 (Rd.of_own bM) ?_
       exact f2
      ·intro K cO
       rintro _ _ _ rfl _ rfl _ rfl _ rfl _ rfl _ rfl _ rfl _ rfl _ _
       show WL _ _ _ _ _ _ _
       refine ar ((j.getD m 0) + ((([o, s, t, D, i, q, r, y] : List Int)).getD m 0)) wN ?_
       exact f2
      ·intro K cP
       rintro _ _ _ rfl _ rfl _ rfl _ rfl _ rfl _ rfl _ rfl _ rfl _ rfl _
       show WL _ _ _ _ _ _ _
       refine wl_and ((j.getD m 0) + ((([o, s, t, D, i, q, r, y] : List Int)).getD m 0)) 4294967295 4294967296 32 wN rfl rfl (by decide) (by decide) (by decide) (by kernel_rfl) ?_
       exact f2
     ·intro K ao
      rintro _ rfl _ rfl _ rfl _ rfl _ rfl _ rfl _ rfl _ rfl _ rfl _ rfl _ rfl _ rfl
      show WL _ _ _ _ _ _ _
      have aI := (own_kp ax ao)
      refine ix wN ((m : Nat) : Int) slTy_23 (Rd.of_own aI) ?_
      refine wl_storeI ((addL j (S8.list (cmpN (schedP p) (s8of j) 64))).take m ++ j.drop m) (m) ((((j.getD m 0) + ((([o, s, t, D, i, q, r, y] : List Int)).getD m 0)) % 4294967296)) wN rfl rfl rfl (by simp) rfl sizeOf_3 aI (by first | omega | (simp only [List.length_append, List.length_take, List.length_drop]; omega)) ?_
      intro bN az bO
      have bP := (an.extk ao).ext az (fun k hk => nT (Nat.le_refl G.heap.size) (own_lt X k hk).1)
      refine wl_nil <| wq_blk_normal <| wq_then <| wc_region ?_
      refine mw (vi ((m : Nat) : Int)) ?_
      refine ar (((m : Nat) : Int) + 1) wN ?_
      refine aw (vi (((m : Nat) : Int) + 1)) ?_
      refine wl_nil ?_
      have bQ : ((((addL j (S8.list (cmpN (schedP p) (s8of j) 64))).take m ++ j.drop m).set m (((j.getD m 0) + ((([o, s, t, D, i, q, r, y] : List Int)).getD m 0)) % 4294967296)) : List Int) = (addL j (S8.list (cmpN (schedP p) (s8of j) 64))).take (m + 1) ++ j.drop (m + 1) := by first | rfl | (rw [hle]; exact addL_next (l := (S8.list (cmpN (schedP p) (s8of j) 64))) (by omega) (by show j.length = 8; omega))
      have bR := (own_ch (own_kp ay ao) az (fun g hg hlt hk => by have ac := (own_lt aF g hg).1; have ad := (own_lt X g hk).2; have ae := (z5 Y aj O M W); omega))
      have bS : ((([o, s, t, D, i, q, r, y] : List Int)) : List Int) = ([o, s, t, D, i, q, r, y] : List Int) := by first | rfl | (rw [hle]; exact addL_next (l := (S8.list (cmpN (schedP p) (s8of j) 64))) (by omega) (by show j.length = 8; omega))
      refine wq_loopP (w0 := Z) [(0, (vs B j.length C)), (4, (vs none 0 0)), (5, (vs H j.length I)), (19, (vs P ([o, s, t, D, i, q, r, y] : List Int).length Q)), (20, (vi (((m + 1) : Nat) : Int)))] ?_ ?_ ?_
      · exact ⟨rfl, rfl, rfl, rfl, (cA (Value.int .i64) (show ((((m : Nat) : Int) + 1) : Int) = (((m + 1) : Nat) : Int) by omega)), trivial⟩
      · exact fun u => ⟨(m + 1), u, rfl, bP, ((((Ch.refl (fun k => G.heap.size ≤ k) E).ext bD (fun k hk => hk)).extk ao).ext az (fun k hk => nT (Nat.le_refl G.heap.size) (own_lt X k hk).1)), (by omega), (by rw [← bQ]; exact bO), (by rw [← bS]; exact bR)⟩
      · show (8 - (((m + 1) : Nat) : Int)).toNat < (8 - ((m : Nat) : Int)).toNat; omega
   have cQ := dT ab
   refine ct ab ?_
   refine wc_skip <| wq_then <| wc_seq <| wc_block <| wc_seq ?_
   refine wc_drawT ([(64, [], [], (fun _ v _ => v = (vi y))), (65, [], [], (fun _ v _ => v = (vi i))), (66, [], [1], (fun _ v w => v = .int .i64 (rot i 6))), (67, [], [], (fun _ v _ => v = (vi i))), (68, [], [1, 2, 3], (fun _ v w => v = .int .i64 (rot i 11))), (69, [], [1, 2, 3, 4], (fun _ v _ => v = (vi (xorI (rot i 6) (rot i 11))))), (70, [], [], (fun _ v _ => v = (vi i))), (71, [], [1, 2, 3, 4, 6], (fun _ v w => v = .int .i64 (rot i 25))), (72, [], [1, 2, 3, 4, 5, 6, 7], (fun _ v _ => v = (vi (xorI (xorI (rot i 6) (rot i 11)) (rot i 25))))), (73, [], [0, 1, 2, 3, 4, 5, 6, 7, 8], (fun _ v _ => v = (vi (y + (xorI (xorI (rot i 6) (rot i 11)) (rot i 25)))))), (74, [], [], (fun _ v _ => v = (vi i))), (75, [], [], (fun _ v _ => v = (vi q))), (76, [], [10, 11], (fun _ v _ => v = (vi (andI i q)))), (77, [], [], (fun _ v _ => v = (vi i))), (78, [], [13], (fun _ v _ => v = (vi (xorI i 4294967295)))), (79, [], [], (fun _ v _ => v = (vi r))), (80, [], [13, 14, 15], (fun _ v _ => v = (vi (andI (xorI i 4294967295) r)))), (81, [], [10, 11, 12, 13, 14, 15, 16], (fun _ v _ => v = (vi (xorI (andI i q) (andI (xorI i 4294967295) r))))), (82, [], [0, 1, 2, 3, 4, 5, 6, 7, 8, 9, 10, 11, 12, 13, 14, 15, 16, 17], (fun _ v _ => v = (vi ((y + (xorI (xorI (rot i 6) (rot i 11)) (rot i 25))) + (xorI (andI i q) (andI (xorI i 4294967295) r)))))), (83, [], [], (fun _ v _ => v = (vs R (kw).length S))), (84, [], [], (fun _ v _ => v = (vi ((k : Nat) : Int)))), (85, [], [19, 20], (fun _ v _ => v = (ve (vs R (kw).length S) ((((k : Nat) : Int)).toNat * 1)))), (86, [], [19, 20, 21], (fun _ v _ => v = (vi zk))), (87, [], [0, 1, 2, 3, 4, 5, 6, 7, 8, 9, 10, 11, 12, 13, 14, 15, 16, 17, 18, 19, 20, 21, 22], (fun _ v _ => v = (vi (((y + (xorI (xorI (rot i 6) (rot i 11)) (rot i 25))) + (xorI (andI i q) (andI (xorI i 4294967295) r))) + zk)))), (88, [], [], (fun _ v _ => v = (vs T (schedP p).length V))), (89, [], [], (fun _ v _ => v = (vi ((k : Nat) : Int)))), (90, [], [24, 25], (fun _ v _ => v = (ve (vs T (schedP p).length V) ((((k : Nat) : Int)).toNat * 1)))), (91, [], [24, 25, 26], (fun _ v _ => v = (vi zw)))] : GV) (fun _ L => Keep av L) [] mixed rfl (by kernel_rfl) (by kernel_rfl) ?_ (fun _ _ h => h) (fun _ _ _ _ h _ k => h.trans k) trivial ?_ ?_ ?_
   ·exact ⟨hV, hE, ⟨hV, hE, ⟨hV, hE, ⟨hV, hE, ⟨hV, hE, ⟨hV, hE, ⟨hV, hE, ⟨hV, hE, ⟨hV, hE, ⟨hV, hE, ⟨hV, hE, ⟨hV, hE, ⟨hV, hE, ⟨hV, hE, ⟨hV, hE, ⟨hV, hE, ⟨hV, hE, ⟨hV, hE, ⟨hV, hE, ⟨hV, hE, ⟨hV, hE, ⟨hV, hE, ⟨hV, hE, ⟨hV, hE, ⟨hV, hE, ⟨hV, hE, ⟨hV, hE, ⟨hV, hE, trivial⟩⟩⟩⟩⟩⟩⟩⟩⟩⟩⟩⟩⟩⟩⟩⟩⟩⟩⟩⟩⟩⟩⟩⟩⟩⟩⟩⟩
   ·exact trivial
   ·refine ⟨?_, ⟨?_, ⟨?_, ⟨?_, ⟨?_, ⟨?_, ⟨?_, ⟨?_, ⟨?_, ⟨?_, ⟨?_, ⟨?_, ⟨?_, ⟨?_, ⟨?_, ⟨?_, ⟨?_, ⟨?_, ⟨?_, ⟨?_, ⟨?_, ⟨?_, ⟨?_, ⟨?_, ⟨?_, ⟨?_, ⟨?_, ⟨?_, trivial⟩⟩⟩⟩⟩⟩⟩⟩⟩⟩⟩⟩⟩⟩⟩⟩⟩⟩⟩⟩⟩⟩⟩⟩⟩⟩⟩⟩
    ·intro _ E cR _
     rintro _ _ _ _ _ _ _ _ _ _ _ _ _ _ _ _ _ _ _ _ _ _ _ _ _ _ _ _
     show WL _ _ _ _ _ _ _
     refine mw (vi y) ?_
     exact f1
    ·intro _ E cS _
     rintro _ _ _ _ _ _ _ _ _ _ _ _ _ _ _ _ _ _ _ _ _ _ _ _ _ _ _ _
     show WL _ _ _ _ _ _ _
     refine mw (vi i) ?_
     exact f1
    ·intro _ E cT _
     rintro _ _ rfl _ _ _ _ _ _ _ _ _ _ _ _ _ _ _ _ _ _ _ _ _ _ _ _ _ _
     show WL _ _ _ _ _ _ _
     refine cl wN (csRot E i 6 (by omega) (by omega)) ?_
     rintro _ Z ⟨bT, rfl⟩
     have cU := rot_b i 6
     exact wl_finT bT rfl
    ·intro _ E cV _
     rintro _ _ _ _ _ _ _ _ _ _ _ _ _ _ _ _ _ _ _ _ _ _ _ _ _ _ _ _
     show WL _ _ _ _ _ _ _
     refine mw (vi i) ?_
     exact f1
    ·intro _ E cW _
     rintro _ _ rfl _ rfl
     have cX := rot_b i 6
     rintro _ rfl _ _ _ _ _ _ _ _ _ _ _ _ _ _ _ _ _ _ _ _ _ _ _ _
     show WL _ _ _ _ _ _ _
     refine cl wN (csRot E i 11 (by omega) (by omega)) ?_
     rintro _ Z ⟨bU, rfl⟩
     have cY := rot_b i 11
     exact wl_finT bU rfl
    ·intro _ E cZ _
     rintro _ _ rfl _ rfl
     have da := rot_b i 6
     rintro _ rfl _ rfl
     have db := rot_b i 11
     rintro _ _ _ _ _ _ _ _ _ _ _ _ _ _ _ _ _ _ _ _ _ _ _
     show WL _ _ _ _ _ _ _
     refine wl_xor (rot i 6) (rot i 11) wN rfl rfl (by kernel_rfl) (by omega) (by omega) (by omega) (by omega) ?_
     have dc := xorI_b (a := (rot i 6)) (b := (rot i 11)) (by omega) (by omega)
     exact f1
    ·intro _ E dd _
     rintro _ _ _ _ _ _ _ _ _ _ _ _ _ _ _ _ _ _ _ _ _ _ _ _ _ _ _ _
     show WL _ _ _ _ _ _ _
     refine mw (vi i) ?_
     exact f1
    ·intro _ E de _
     rintro _ _ rfl _ rfl
     have df := rot_b i 6
     rintro _ rfl _ rfl
     have dg := rot_b i 11
     rintro _ _ rfl _ _ _ _ _ _ _ _ _ _ _ _ _ _ _ _ _ _ _ _ _
     show WL _ _ _ _ _ _ _
     refine cl wN (csRot E i 25 (by omega) (by omega)) ?_
     rintro _ Z ⟨bW, rfl⟩
     have dh := rot_b i 25
     exact wl_finT bW rfl
    ·intro _ E di _
     rintro _ _ rfl _ rfl
     have dj := rot_b i 6
     rintro _ rfl _ rfl
     have dk := rot_b i 11
     rintro _ rfl
     have dl := xorI_b (a := (rot i 6)) (b := (rot i 11)) (by omega) (by omega)
     rintro _ rfl _ rfl
     have dm := rot_b i 25
     rintro _ _ _ _ _ _ _ _ _ _ _ _ _ _ _ _ _ _ _ _
     show WL _ _ _ _ _ _ _
     refine wl_xor (xorI (rot i 6) (rot i 11)) (rot i 25) wN rfl rfl (by kernel_rfl) (by omega) (by omega) (by omega) (by omega) ?_
     have dn := xorI_b (a := (xorI (rot i 6) (rot i 11))) (b := (rot i 25)) (by omega) (by omega)
     exact f1
    ·intro _ E dp _
     rintro _ rfl _ rfl _ rfl
     have dq := rot_b i 6
     rintro _ rfl _ rfl
     have dr := rot_b i 11
     rintro _ rfl
     have ds := xorI_b (a := (rot i 6)) (b := (rot i 11)) (by omega) (by omega)
     rintro _ rfl _ rfl
     have dt := rot_b i 25
     rintro _ rfl
     have du := xorI_b (a := (xorI (rot i 6) (rot i 11))) (b := (rot i 25)) (by omega) (by omega)
     rintro _ _ _ _ _ _ _ _ _ _ _ _ _ _ _ _ _ _ _
     show WL _ _ _ _ _ _ _
     refine ar (y + (xorI (xorI (rot i 6) (rot i 11)) (rot i 25))) wN ?_
     exact f1
    ·intro _ E dv _
     rintro _ _ _ _ _ _ _ _ _ _ _ _ _ _ _ _ _ _ _ _ _ _ _ _ _ _ _ _
     show WL _ _ _ _ _ _ _
     refine mw (vi i) ?_
     exact f1
    ·intro _ E dw _
     rintro _ _ _ _ _ _ _ _ _ _ _ _ _ _ _ _ _ _ _ _ _ _ _ _ _ _ _ _
     show WL _ _ _ _ _ _ _
     refine mw (vi q) ?_
     exact f1
    ·intro _ E dx _
     rintro _ _ _ _ _ _ _ _ _ _ _ rfl _ rfl _ _ _ _ _ _ _ _ _ _ _ _ _ _ _ _
     show WL _ _ _ _ _ _ _
     refine wl_andG i q wN rfl rfl (by kernel_rfl) (by omega) (by omega) (by omega) (by omega) ?_
     have dy := andI_b (a := i) (b := q) (by omega)
     exact f1
    ·intro _ E dz _
     rintro _ _ _ _ _ _ _ _ _ _ _ _ _ _ _ _ _ _ _ _ _ _ _ _ _ _ _ _
     show WL _ _ _ _ _ _ _
     refine mw (vi i) ?_
     exact f1
    ·intro _ E d0 _
     rintro _ _ _ _ _ _ _ _ _ _ _ _ _ _ rfl _ _ _ _ _ _ _ _ _ _ _ _ _ _
     show WL _ _ _ _ _ _ _
     refine wl_xor i 4294967295 wN rfl rfl (by kernel_rfl) (by omega) (by omega) (by omega) (by omega) ?_
     have d1 := xorI_b (a := i) (b := 4294967295) (by omega) (by omega)
     exact f1
    ·intro _ E d2 _
     rintro _ _ _ _ _ _ _ _ _ _ _ _ _ _ _ _ _ _ _ _ _ _ _ _ _ _ _ _
     show WL _ _ _ _ _ _ _
     refine mw (vi r) ?_
     exact f1
    ·intro _ E d3 _
     rintro _ _ _ _ _ _ _ _ _ _ _ _ _ _ rfl _ rfl
     have d4 := xorI_b (a := i) (b := 4294967295) (by omega) (by omega)
     rintro _ rfl _ _ _ _ _ _ _ _ _ _ _ _
     show WL _ _ _ _ _ _ _
     refine wl_andG (xorI i 4294967295) r wN rfl rfl (by kernel_rfl) (by omega) (by omega) (by omega) (by omega) ?_
     have d5 := andI_b (a := (xorI i 4294967295)) (b := r) (by omega)
     exact f1
    ·intro _ E d6 _
     rintro _ _ _ _ _ _ _ _ _ _ _ rfl _ rfl _ rfl
     have d7 := andI_b (a := i) (b := q) (by omega)
     rintro _ rfl _ rfl
     have d8 := xorI_b (a := i) (b := 4294967295) (by omega) (by omega)
     rintro _ rfl _ rfl
     have d9 := andI_b (a := (xorI i 4294967295)) (b := r) (by omega)
     rintro _ _ _ _ _ _ _ _ _ _ _
     show WL _ _ _ _ _ _ _
     refine wl_xor (andI i q) (andI (xorI i 4294967295) r) wN rfl rfl (by kernel_rfl) (by omega) (by omega) (by omega) (by omega) ?_
     have dA := xorI_b (a := (andI i q)) (b := (andI (xorI i 4294967295) r)) (by omega) (by omega)
     exact f1
    ·intro _ E dB _
     rintro _ rfl _ rfl _ rfl
     have dC := rot_b i 6
     rintro _ rfl _ rfl
     have dD := rot_b i 11
     rintro _ rfl
     have dE := xorI_b (a := (rot i 6)) (b := (rot i 11)) (by omega) (by omega)
     rintro _ rfl _ rfl
     have dG := rot_b i 25
     rintro _ rfl
     have dH := xorI_b (a := (xorI (rot i 6) (rot i 11))) (b := (rot i 25)) (by omega) (by omega)
     rintro _ rfl _ rfl _ rfl _ rfl
     have dI := andI_b (a := i) (b := q) (by omega)
     rintro _ rfl _ rfl
     have dJ := xorI_b (a := i) (b := 4294967295) (by omega) (by omega)
     rintro _ rfl _ rfl
     have dK := andI_b (a := (xorI i 4294967295)) (b := r) (by omega)
     rintro _ rfl
     have dL := xorI_b (a := (andI i q)) (b := (andI (xorI i 4294967295) r)) (by omega) (by omega)
     rintro _ _ _ _ _ _ _ _ _ _
     show WL _ _ _ _ _ _ _
     refine ar ((y + (xorI (xorI (rot i 6) (rot i 11)) (rot i 25))) + (xorI (andI i q) (andI (xorI i 4294967295) r))) wN ?_
     exact f1
    ·intro _ E dM _
     rintro _ _ _ _ _ _ _ _ _ _ _ _ _ _ _ _ _ _ _ _ _ _ _ _ _ _ _ _
     show WL _ _ _ _ _ _ _
     refine mw (vs R (kw).length S) ?_
     exact f1
    ·intro _ E dN _
     rintro _ _ _ _ _ _ _ _ _ _ _ _ _ _ _ _ _ _ _ _ _ _ _ _ _ _ _ _
     show WL _ _ _ _ _ _ _
     refine mw (vi ((k : Nat) : Int)) ?_
     exact f1
    ·intro _ E bX _
     rintro _ _ _ _ _ _ _ _ _ _ _ _ _ _ _ _ _ _ _ _ rfl _ rfl _ _ _ _ _ _ _
     show WL _ _ _ _ _ _ _
     have bY := (own_kp (own_ch (own_kp (own_kp ak O) M) W (fun g hg hlt hk => by have ac := (own_lt ak g hg).2; have ad : au.heap.size ≤ A.heap.size := (z2 O M); have ae : A.heap.size ≤ g := hk; omega)) bX)
     refine ix wN ((k : Nat) : Int) slTy_23 (Rd.of_own bY) ?_
     exact f1
    ·intro _ E bZ _
     rintro _ _ _ _ _ _ _ _ _ _ _ _ _ _ _ _ _ _ _ _ rfl _ rfl _ rfl _ _ _ _ _ _
     show WL _ _ _ _ _ _ _
     have ca := (own_kp (own_ch (own_kp (own_kp ak O) M) W (fun g hg hlt hk => by have ac := (own_lt ak g hg).2; have ad : au.heap.size ≤ A.heap.size := (z2 O M); have ae : A.heap.size ≤ g := hk; omega)) bZ)
     refine wl_loadE (iV zk) wN rfl rfl rfl rfl isAgg_3 (Rd.of_own ca) (by rw [← hzk]; exact iget (by simp) (by first | omega | (simp <;> omega))) ?_
     exact f1
    ·intro _ E dO _
     rintro _ rfl _ rfl _ rfl
     have dP := rot_b i 6
     rintro _ rfl _ rfl
     have dQ := rot_b i 11
     rintro _ rfl
     have dR := xorI_b (a := (rot i 6)) (b := (rot i 11)) (by omega) (by omega)
     rintro _ rfl _ rfl
     have dS := rot_b i 25
     rintro _ rfl
     have dU := xorI_b (a := (xorI (rot i 6) (rot i 11))) (b := (rot i 25)) (by omega) (by omega)
     rintro _ rfl _ rfl _ rfl _ rfl
     have dV := andI_b (a := i) (b := q) (by omega)
     rintro _ rfl _ rfl
     have dW := xorI_b (a := i) (b := 4294967295) (by omega) (by omega)
     rintro _ rfl _ rfl
     have dX := andI_b (a := (xorI i 4294967295)) (b := r) (by omega)
     rintro _ rfl
     have dY := xorI_b (a := (andI i q)) (b := (andI (xorI i 4294967295) r)) (by omega) (by omega)
     rintro _ rfl _ rfl _ rfl _ rfl _ rfl _ _ _ _ _
     show WL _ _ _ _ _ _ _
     refine ar (((y + (xorI (xorI (rot i 6) (rot i 11)) (rot i 25))) + (xorI (andI i q) (andI (xorI i 4294967295) r))) + zk) wN ?_
     exact f1
    ·intro _ E dZ _
     rintro _ _ _ _ _ _ _ _ _ _ _ _ _ _ _ _ _ _ _ _ _ _ _ _ _ _ _ _
     show WL _ _ _ _ _ _ _
     refine mw (vs T (schedP p).length V) ?_
     exact f1
    ·intro _ E ea _
     rintro _ _ _ _ _ _ _ _ _ _ _ _ _ _ _ _ _ _ _ _ _ _ _ _ _ _ _ _
     show WL _ _ _ _ _ _ _
     refine mw (vi ((k : Nat) : Int)) ?_
     exact f1
    ·intro _ E cb _
     rintro _ _ _ _ _ _ _ _ _ _ _ _ _ _ _ _ _ _ _ _ _ _ _ _ _ rfl _ rfl _ _
     show WL _ _ _ _ _ _ _
     have cc := (own_kp (own_ch (own_kp am M) W (fun g hg hlt hk => by have ac := (own_lt am g hg).2; have ad : aB.heap.size ≤ A.heap.size := M.size; have ae : A.heap.size ≤ g := hk; omega)) cb)
     refine ix wN ((k : Nat) : Int) slTy_23 (Rd.of_own cc) ?_
     exact f1
    ·intro _ E cd _
     rintro _ _ _ _ _ _ _ _ _ _ _ _ _ _ _ _ _ _ _ _ _ _ _ _ _ rfl _ rfl _ rfl _
     show WL _ _ _ _ _ _ _
     have ce := (own_kp (own_ch (own_kp am M) W (fun g hg hlt hk => by have ac := (own_lt am g hg).2; have ad : aB.heap.size ≤ A.heap.size := M.size; have ae : A.heap.size ≤ g := hk; omega)) cd)
     refine wl_loadE (iV zw) wN rfl rfl rfl rfl isAgg_3 (Rd.of_own ce) (by rw [← hzw]; exact iget (by simp) (by first | omega | (simp <;> omega))) ?_
     exact f1
   ·intro _ E aJ
    rintro _ rfl _ rfl _ rfl
    have ec := rot_b i 6
    rintro _ rfl _ rfl
    have ed := rot_b i 11
    rintro _ rfl
    have ee := xorI_b (a := (rot i 6)) (b := (rot i 11)) (by omega) (by omega)
    rintro _ rfl _ rfl
    have ef := rot_b i 25
    rintro _ rfl
    have eg := xorI_b (a := (xorI (rot i 6) (rot i 11))) (b := (rot i 25)) (by omega) (by omega)
    rintro _ rfl _ rfl _ rfl _ rfl
    have eh := andI_b (a := i) (b := q) (by omega)
    rintro _ rfl _ rfl
    have ej := xorI_b (a := i) (b := 4294967295) (by omega) (by omega)
    rintro _ rfl _ rfl
    have ek := andI_b (a := (xorI i 4294967295)) (b := r) (by omega)
    rintro _ rfl
    have em := xorI_b (a := (andI i q)) (b := (andI (xorI i 4294967295) r)) (by omega) (by omega)
    rintro _ rfl _ rfl _ rfl _ rfl _ rfl _ rfl _ rfl _ rfl _ rfl _ rfl
    show WL _ _ _ _ _ _ _
    refine ar ((((y + (xorI (xorI (rot i 6) (rot i 11)) (rot i 25))) + (xorI (andI i q) (andI (xorI i 4294967295) r))) + zk) + zw) wN ?_
    refine wl_and ((((y + (xorI (xorI (rot i 6) (rot i 11)) (rot i 25))) + (xorI (andI i q) (andI (xorI i 4294967295) r))) + zk) + zw) 4294967295 4294967296 32 wN rfl rfl (by decide) (by decide) (by decide) (by kernel_rfl) ?_
    refine aw (vi (((((y + (xorI (xorI (rot i 6) (rot i 11)) (rot i 25))) + (xorI (andI i q) (andI (xorI i 4294967295) r))) + zk) + zw) % 4294967296)) ?_
    refine nx ?_
    refine mw (vi o) ?_
    refine cl wN (csRot E o 2 (by omega) (by omega)) ?_
    rintro _ Z ⟨aK, rfl⟩
    have cg := (aD.extk aJ).extk aK
    have en := rot_b o 2
    refine mw (vi o) ?_
    refine cl wN (csRot Z o 13 (by omega) (by omega)) ?_
    rintro _ K ⟨aL, rfl⟩
    have eo := rot_b o 13
    refine wl_xor (rot o 2) (rot o 13) wN rfl rfl (by kernel_rfl) (by omega) (by omega) (by omega) (by omega) ?_
    have ep := xorI_b (a := (rot o 2)) (b := (rot o 13)) (by omega) (by omega)
    refine mw (vi o) ?_
    refine cl wN (csRot K o 22 (by omega) (by omega)) ?_
    rintro _ bN ⟨aM, rfl⟩
    have ci := (cg.extk aL).extk aM
    have er := rot_b o 22
    refine wl_xor (xorI (rot o 2) (rot o 13)) (rot o 22) wN rfl rfl (by kernel_rfl) (by omega) (by omega) (by omega) (by omega) ?_
    have es := xorI_b (a := (xorI (rot o 2) (rot o 13))) (b := (rot o 22)) (by omega) (by omega)
    refine mw (vi o) ?_
    refine mw (vi s) ?_
    refine wl_andG o s wN rfl rfl (by kernel_rfl) (by omega) (by omega) (by omega) (by omega) ?_
    have et := andI_b (a := o) (b := s) (by omega)
    refine mw (vi o) ?_
    refine mw (vi t) ?_
    refine wl_andG o t wN rfl rfl (by kernel_rfl) (by omega) (by omega) (by omega) (by omega) ?_
    have eu := andI_b (a := o) (b := t) (by omega)
    refine wl_xor (andI o s) (andI o t) wN rfl rfl (by kernel_rfl) (by omega) (by omega) (by omega) (by omega) ?_
    have ew := xorI_b (a := (andI o s)) (b := (andI o t)) (by omega) (by omega)
    refine mw (vi s) ?_
    refine mw (vi t) ?_
    refine wl_andG s t wN rfl rfl (by kernel_rfl) (by omega) (by omega) (by omega) (by omega) ?_
    have ex := andI_b (a := s) (b := t) (by omega)
    refine wl_xor (xorI (andI o s) (andI o t)) (andI s t) wN rfl rfl (by kernel_rfl) (by omega) (by omega) (by omega) (by omega) ?_
    have ey := xorI_b (a := (xorI (andI o s) (andI o t))) (b := (andI s t)) (by omega) (by omega)
    refine ar ((xorI (xorI (rot o 2) (rot o 13)) (rot o 22)) + (xorI (xorI (andI o s) (andI o t)) (andI s t))) wN ?_
    refine wl_and ((xorI (xorI (rot o 2) (rot o 13)) (rot o 22)) + (xorI (xorI (andI o s) (andI o t)) (andI s t))) 4294967295 4294967296 32 wN rfl rfl (by decide) (by decide) (by decide) (by kernel_rfl) ?_
    refine aw (vi (((xorI (xorI (rot o 2) (rot o 13)) (rot o 22)) + (xorI (xorI (andI o s) (andI o t)) (andI s t))) % 4294967296)) ?_
    refine nx ?_
    refine mw (vi r) ?_
    refine aw (vi r) ?_
    refine nx ?_
    refine mw (vi q) ?_
    refine aw (vi q) ?_
    refine nx ?_
    refine mw (vi i) ?_
    refine aw (vi i) ?_
    refine nx ?_
    refine mw (vi D) ?_
    refine mw (vi (((((y + (xorI (xorI (rot i 6) (rot i 11)) (rot i 25))) + (xorI (andI i q) (andI (xorI i 4294967295) r))) + zk) + zw) % 4294967296)) ?_
    refine ar (D + (((((y + (xorI (xorI (rot i 6) (rot i 11)) (rot i 25))) + (xorI (andI i q) (andI (xorI i 4294967295) r))) + zk) + zw) % 4294967296)) wN ?_
    refine wl_and (D + (((((y + (xorI (xorI (rot i 6) (rot i 11)) (rot i 25))) + (xorI (andI i q) (andI (xorI i 4294967295) r))) + zk) + zw) % 4294967296)) 4294967295 4294967296 32 wN rfl rfl (by decide) (by decide) (by decide) (by kernel_rfl) ?_
    refine aw (vi ((D + (((((y + (xorI (xorI (rot i 6) (rot i 11)) (rot i 25))) + (xorI (andI i q) (andI (xorI i 4294967295) r))) + zk) + zw) % 4294967296)) % 4294967296)) ?_
    refine nx ?_
    refine mw (vi t) ?_
    refine aw (vi t) ?_
    refine nx ?_
    refine mw (vi s) ?_
    refine aw (vi s) ?_
    refine nx ?_
    refine mw (vi o) ?_
    refine aw (vi o) ?_
    refine wl_nil <| wq_then <| wc_region ?_
    refine mw (vi (((((y + (xorI (xorI (rot i 6) (rot i 11)) (rot i 25))) + (xorI (andI i q) (andI (xorI i 4294967295) r))) + zk) + zw) % 4294967296)) ?_
    refine mw (vi (((xorI (xorI (rot o 2) (rot o 13)) (rot o 22)) + (xorI (xorI (andI o s) (andI o t)) (andI s t))) % 4294967296)) ?_
    refine ar ((((((y + (xorI (xorI (rot i 6) (rot i 11)) (rot i 25))) + (xorI (andI i q) (andI (xorI i 4294967295) r))) + zk) + zw) % 4294967296) + (((xorI (xorI (rot o 2) (rot o 13)) (rot o 22)) + (xorI (xorI (andI o s) (andI o t)) (andI s t))) % 4294967296)) wN ?_
    refine wl_and ((((((y + (xorI (xorI (rot i 6) (rot i 11)) (rot i 25))) + (xorI (andI i q) (andI (xorI i 4294967295) r))) + zk) + zw) % 4294967296) + (((xorI (xorI (rot o 2) (rot o 13)) (rot o 22)) + (xorI (xorI (andI o s) (andI o t)) (andI s t))) % 4294967296)) 4294967295 4294967296 32 wN rfl rfl (by decide) (by decide) (by decide) (by kernel_rfl) ?_
    refine aw (vi (((((((y + (xorI (xorI (rot i 6) (rot i 11)) (rot i 25))) + (xorI (andI i q) (andI (xorI i 4294967295) r))) + zk) + zw) % 4294967296) + (((xorI (xorI (rot o 2) (rot o 13)) (rot o 22)) + (xorI (xorI (andI o s) (andI o t)) (andI s t))) % 4294967296)) % 4294967296)) ?_
    refine wl_nil <| wq_blk_normal <| wq_then <| wc_region ?_
    refine mw (vi ((k : Nat) : Int)) ?_
    refine ar (((k : Nat) : Int) + 1) wN ?_
    refine aw (vi (((k : Nat) : Int) + 1)) ?_
    refine wl_nil ?_
    refine wq_loopP (w0 := av) [(0, (vs B j.length C)), (4, (vs none 0 0)), (5, (vs H j.length I)), (6, (vs R (kw).length S)), (7, (vs T (schedP p).length V)), (8, (vi ((cmpN (schedP p) (s8of j) (k + 1)).a))), (9, (vi ((cmpN (schedP p) (s8of j) (k + 1)).b))), (10, (vi ((cmpN (schedP p) (s8of j) (k + 1)).c))), (11, (vi ((cmpN (schedP p) (s8of j) (k + 1)).d))), (12, (vi ((cmpN (schedP p) (s8of j) (k + 1)).e))), (13, (vi ((cmpN (schedP p) (s8of j) (k + 1)).f))), (14, (vi ((cmpN (schedP p) (s8of j) (k + 1)).g))), (15, (vi ((cmpN (schedP p) (s8of j) (k + 1)).z))), (16, (vi (((k + 1) : Nat) : Int)))] ?_ ?_ ?_
    · exact ⟨rfl, rfl, rfl, rfl, rfl, (cA (Value.int .i64) (show ((((((((y + (xorI (xorI (rot i 6) (rot i 11)) (rot i 25))) + (xorI (andI i q) (andI (xorI i 4294967295) r))) + zk) + zw) % 4294967296) + (((xorI (xorI (rot o 2) (rot o 13)) (rot o 22)) + (xorI (xorI (andI o s) (andI o t)) (andI s t))) % 4294967296)) % 4294967296) : Int) = (cmpN (schedP p) (s8of j) (k + 1)).a by subst hzw hzk hi_a hi_b hi_c hi_d hi_e hi_f hi_g hi_z; exact cmp_sa (by omega) rfl rfl)), (cA (Value.int .i64) (show (o : Int) = (cmpN (schedP p) (s8of j) (k + 1)).b by rw [hi_a]; rfl)), (cA (Value.int .i64) (show (s : Int) = (cmpN (schedP p) (s8of j) (k + 1)).c by rw [hi_b]; rfl)), (cA (Value.int .i64) (show (t : Int) = (cmpN (schedP p) (s8of j) (k + 1)).d by rw [hi_c]; rfl)), (cA (Value.int .i64) (show (((D + (((((y + (xorI (xorI (rot i 6) (rot i 11)) (rot i 25))) + (xorI (andI i q) (andI (xorI i 4294967295) r))) + zk) + zw) % 4294967296)) % 4294967296) : Int) = (cmpN (schedP p) (s8of j) (k + 1)).e by subst hzw hzk hi_a hi_b hi_c hi_d hi_e hi_f hi_g hi_z; exact cmp_se (by omega) rfl)), (cA (Value.int .i64) (show (i : Int) = (cmpN (schedP p) (s8of j) (k + 1)).f by rw [hi_e]; rfl)), (cA (Value.int .i64) (show (q : Int) = (cmpN (schedP p) (s8of j) (k + 1)).g by rw [hi_f]; rfl)), (cA (Value.int .i64) (show (r : Int) = (cmpN (schedP p) (s8of j) (k + 1)).z by rw [hi_g]; rfl)), (cA (Value.int .i64) (show ((((k : Nat) : Int) + 1) : Int) = (((k + 1) : Nat) : Int) by omega)), trivial⟩
    · exact fun u => ⟨(k + 1), (cmpN (schedP p) (s8of j) (k + 1)).a, (cmpN (schedP p) (s8of j) (k + 1)).b, (cmpN (schedP p) (s8of j) (k + 1)).c, (cmpN (schedP p) (s8of j) (k + 1)).d, (cmpN (schedP p) (s8of j) (k + 1)).e, (cmpN (schedP p) (s8of j) (k + 1)).f, (cmpN (schedP p) (s8of j) (k + 1)).g, (cmpN (schedP p) (s8of j) (k + 1)).z, u, rfl, ci, ((((((Ch.refl (fun k => A.heap.size ≤ k) A).ext W (fun k hk => hk)).extk aJ).extk aK).extk aL).extk aM), (by omega), (by first | rfl | assumption), (by first | rfl | assumption), (by first | rfl | assumption), (by first | rfl | assumption), (by first | rfl | assumption), (by first | rfl | assumption), (by first | rfl | assumption), (by first | rfl | assumption)⟩
    · show (64 - (((k + 1) : Nat) : Int)).toNat < (64 - ((k : Nat) : Int)).toNat; omega

theorem csl2Out (b : World) (r : Value) (a : List Int) (I : R_23 b r a) (P : a.length = 8) : Fn Tryz.prog 153 #[r] b (fun v f => Keep b f ∧ O_22 f b.heap.size v (wordB a)) := by
 obtain ⟨g, h, rfl, s, Q⟩ := I
 refine fn_ofS (n := 17) [(vs g a.length h)] Tryz.func153 rfl rfl ?_
 refine sr ?_
 refine aw (vs none 0 0) ?_
 refine nx ?_
 refine wl_lit0 wN rfl rfl slTy_22 (fun w => by kernel_rfl) ?_
 intro p q t J
 have K := (Ch.base b).extk t
 refine aw (vs (some p) 0 0) ?_
 refine n4 ?_
 refine aw (vi 0) ?_
 refine wl_nil <| wq_then <| wc_block ?_
 have y : ([] : List UInt8) = wordB (a.take 0) := by rfl
 have A : 0 = (wordB (a.take 0)).length := by rw [← y]; try (first | rfl | simp only [List.length_set] | simp)
 refine wc_loopP [(0, (vs g a.length h)), (2, (vs none 0 0)), (3, (.slice (some p) (wordB (a.take 0)).length 0)), (4, (vi ((0 : Nat) : Int)))] ⟨rfl, rfl, rfl, (cA (Value.int .i64) (show (0 : Int) = ((0 : Nat) : Int) by omega)), trivial⟩ (fun e' f => ∃ (k : Nat) (B : Env) (d : Option Addr) (e : Nat), e' = pt B [(0, (vs g a.length h)), (2, (vs none 0 0)), (3, (.slice d (wordB (a.take k)).length e)), (4, (vi ((k : Nat) : Int)))] ∧ Ch (fun k => b.heap.size ≤ k) b f ∧ Ch (fun k => b.heap.size ≤ k) q f ∧ k ≤ a.length ∧ (World.ownsRow f b.heap.size 5 1 (.slice d (wordB (a.take k)).length e) (wordB (a.take k)).length ((wordB (a.take k)).map bV) ∧ (wordB (a.take k)).length ≤ 1073741824)) (fun e' _ => a.length - ((intOf (e' 4))).toNat) ?_ ?_
 ·exact fun u => ⟨0, u, (some p), 0, rfl, K, (Ch.refl (fun k => b.heap.size ≤ k) q), (by omega), ⟨(by rw [← A, ← y]; exact J), (by rw [← A]; first | exact (by simp) | (simp only [List.length_append, List.length_take, List.length_replicate]; omega))⟩⟩
 ·rintro _ C ⟨k, B, d, e, rfl, j, D, R, ⟨E, F⟩⟩
  have hwl := wordB_len (a.take k)
  have htl : (a.take k).length = min k a.length := List.length_take
  refine wc_seq <| sr ?_
  refine mw (vi ((k : Nat) : Int)) ?_
  refine pu (vb (decide (((k : Nat) : Int) < 8))) wN ?_
  refine n2 ?_
  rcases bf (decide (((k : Nat) : Int) < 8)) with i | i
  ·have S := dF i
   refine cf i ?_
   refine wc_exit <| wq_then_exit <| wq_then_exit <| wq_blk_exit <| wq_then <| sr ?_
   refine mw (vs d (wordB (a.take k)).length e) ?_
   refine aw (vs d (wordB (a.take k)).length e) ?_
   refine n3 ?_
   refine rt (vs d (wordB (a.take k)).length e) ?_
   refine ⟨j.keep0, ?_⟩
   have L : wordB a = (wordB (a.take k)) := by exact wordB_end (by omega)
   rw [L]
   exact ⟨_, _, rfl, E, F, ⟨trivial, trivial⟩⟩
  have T := dT i
  refine ct i ?_
  refine wc_skip <| wq_then <| wc_seq <| wc_block <| wc_region ?_
  refine mw (vs d (wordB (a.take k)).length e) ?_
  refine mw (vs g a.length h) ?_
  refine mw (vi ((k : Nat) : Int)) ?_
  refine ix wN ((k : Nat) : Int) slTy_23 (s.from0 j) ?_
  refine ei (x := a) k wN isAgg_3 (s.from0 j) ?_
  refine cl wN (csPutN C _ (wordB (a.take k)) (mR_22 (Rd.of_own E) F) (a.getD k 0) 4 (by first | omega | (simp; done) | (simp; omega) | (simp only [List.length_append, List.length_cons, List.length_nil] at *; omega))) ?_
  rintro _ V ⟨G, ⟨m, o, rfl, M, N, W⟩⟩
  have O := j.extk G
  have X := putN_len (wordB (a.take k)) (a.getD k 0) 4
  refine aw (vs m (putN (wordB (a.take k)) (a.getD k 0) 4).length o) ?_
  refine wl_nil <| wq_blk_normal <| wq_then <| wc_region ?_
  refine mw (vi ((k : Nat) : Int)) ?_
  refine ar (((k : Nat) : Int) + 1) wN ?_
  refine aw (vi (((k : Nat) : Int) + 1)) ?_
  refine wl_nil ?_
  have H : ((putN (wordB (a.take k)) (a.getD k 0) 4) : List UInt8) = wordB (a.take (k + 1)) := by exact wordB_next (by omega)
  refine wq_loopP (w0 := C) [(0, (vs g a.length h)), (2, (vs none 0 0)), (3, (.slice m (wordB (a.take (k + 1))).length o)), (4, (vi (((k + 1) : Nat) : Int)))] ?_ ?_ ?_
  · exact ⟨rfl, rfl, (cA (fun l : List UInt8 => Value.slice m l.length o) H), (cA (Value.int .i64) (show ((((k : Nat) : Int) + 1) : Int) = (((k + 1) : Nat) : Int) by omega)), trivial⟩
  · exact fun u => ⟨(k + 1), u, m, o, rfl, O, (((Ch.refl (fun k => b.heap.size ≤ k) q).ext D (fun k hk => hk)).extk G), (by omega), (H ▸ ⟨(own_lo M (z2 t D)), N⟩)⟩
  · show a.length - ((((k + 1) : Nat) : Int)).toNat < a.length - (((k : Nat) : Int)).toNat; omega

theorem csSha (b : World) (I : Value) (a : List UInt8) (Z : R_22 b I a)  : Fn Tryz.prog 144 #[I] b (fun v e => Keep b e ∧ O_22 e b.heap.size v (sha a)) := by
 obtain ⟨p, q, rfl, D, a5⟩ := Z
 refine fn_ofS (n := 33) [(vs p a.length q)] Tryz.func144 rfl rfl ?_
 refine sr ?_
 refine aw (vs none 0 0) ?_
 refine n4 ?_
 refine mw (vs p a.length q) ?_
 refine ln wN slTy_22 D ?_
 refine pu (vb (decide (1048576 < (a.length : Int)))) wN ?_
 refine n2 ?_
 rcases bt (decide (1048576 < (a.length : Int))) with i | i
 ·have a6 := dT i
  refine ct i ?_
  refine sr ?_
  refine wl_lit0 wN rfl rfl slTy_22 (fun w => by kernel_rfl) ?_
  intro J aa ab ac
  have ad := (Ch.base b).extk ab
  refine aw (vs (some J) 0 0) ?_
  refine n1 ?_
  refine rt (vs (some J) 0 0) ?_
  refine ⟨ad.keep0, ?_⟩
  have ae : sha a = [] := by first | exact sha_f (by omega) | exact sha_s (by omega) (by omega) (by omega)
  rw [ae]
  exact ⟨_, _, rfl, ac, (by simp), ⟨trivial, trivial⟩⟩
 have a7 := dF i
 refine cf i ?_
 refine y1 ?_
 refine wl_lit0 wN rfl rfl slTy_22 (fun w => by kernel_rfl) ?_
 intro a8 aa r af
 have K := (Ch.base b).extk r
 refine mw (vs p a.length q) ?_
 refine ap0 a wN slTy_22 af (D.from0 K) r.size ?_
 intro a9 aA ah E L aB
 have M := K.extk E
 refine mw (vs p a.length q) ?_
 refine ln wN slTy_22 (D.from0 M) ?_
 refine cl wN (csPad ah (a.length : Int)) ?_
 rintro _ aC ⟨s, ⟨aD, aE, rfl, ai, _⟩⟩
 have aF := padP_len (a.length : Int)
 have aj := (own_kp L s)
 refine apB a (padP (a.length : Int)) wN slTy_22 aj (Rd.of_own ai) (z3 r E s) ?_
 intro f h d N O aG ak
 have am := (M.extk s).ext N (fun k hk => nT (Nat.le_refl b.heap.size) (own_lt L k hk).1)
 refine aw (vs f (a ++ (padP (a.length : Int))).length h) ?_
 refine nx ?_
 refine cl wN (csStart d ) ?_
 rintro _ F ⟨t, ⟨x, y, rfl, an, ao, aH⟩⟩
 have ap := am.extk t
 refine aw (vs x (k0).length y) ?_
 refine n4 ?_
 refine aw (vi 0) ?_
 refine wl_nil <| wq_then <| wc_block ?_
 have P : ((k0) : List Int) = foldK k0 (a ++ (padP (a.length : Int))) 0 := by rfl
 refine wc_loopP [(2, (vs none 0 0)), (3, (vs f (a ++ (padP (a.length : Int))).length h)), (4, (.slice x (foldK k0 (a ++ (padP (a.length : Int))) 0).length y)), (5, (vi (64 * ((0 : Nat) : Int))))] ⟨rfl, rfl, (cA (fun l : List Int => Value.slice x l.length y) P), (cA (Value.int .i64) (show (0 : Int) = (64 * ((0 : Nat) : Int)) by omega)), trivial⟩ (fun e' e => ∃ (k : Nat) (Q : Env) (j : Option Addr) (m : Nat), e' = pt Q [(2, (vs none 0 0)), (3, (vs f (a ++ (padP (a.length : Int))).length h)), (4, (.slice j (foldK k0 (a ++ (padP (a.length : Int))) k).length m)), (5, (vi (64 * ((k : Nat) : Int))))] ∧ Ch (fun k => b.heap.size ≤ k) b e ∧ Ch (fun k => d.heap.size ≤ k) F e ∧ 64 * k ≤ (a ++ (padP (a.length : Int))).length ∧ (World.ownsRow e d.heap.size 3 1 (.slice j (foldK k0 (a ++ (padP (a.length : Int))) k).length m) (foldK k0 (a ++ (padP (a.length : Int))) k).length ((foldK k0 (a ++ (padP (a.length : Int))) k).map iV) ∧ (foldK k0 (a ++ (padP (a.length : Int))) k).length ≤ 1073741824)) (fun e' _ => (a ++ padP (a.length : Int)).length - ((intOf (e' 5))).toNat) ?_ ?_
 ·exact fun u => ⟨0, u, x, y, rfl, ap, (Ch.refl (fun k => d.heap.size ≤ k) F), (by omega), (P ▸ ⟨an, ao⟩)⟩
 ·rintro _ G ⟨k, Q, j, m, rfl, R, A, aI, ⟨S, T⟩⟩
  have hal := shaAll a (by omega)
  refine wc_seq <| sr ?_
  refine mw (vi (64 * ((k : Nat) : Int))) ?_
  refine mw (vs f (a ++ (padP (a.length : Int))).length h) ?_
  have H := (own_ch (own_kp O t) A (fun g hg hlt hk => by have aJ := (own_lt O g hg).2; have aK : d.heap.size ≤ d.heap.size := (Nat.le_refl d.heap.size); have aL : d.heap.size ≤ g := hk; omega))
  refine ln wN slTy_22 (Rd.of_own H) ?_
  refine pu (vb (decide ((64 * ((k : Nat) : Int)) < ((a ++ (padP (a.length : Int))).length : Int)))) wN ?_
  refine n2 ?_
  rcases bf (decide ((64 * ((k : Nat) : Int)) < ((a ++ (padP (a.length : Int))).length : Int))) with o | o
  ·have aM := dF o
   refine cf o ?_
   refine wc_exit <| wq_then_exit <| wq_then_exit <| wq_blk_exit <| wq_then <| sr ?_
   refine mw (vs j (foldK k0 (a ++ (padP (a.length : Int))) k).length m) ?_
   refine cl wN (csl2Out G _ (foldK k0 (a ++ (padP (a.length : Int))) k) (mR_23 (Rd.of_own S) T) (by first | omega | exact foldK_len k0_w _ | exact compAll_len (by first | assumption | exact (hashOk_t (by assumption)).1))) ?_
   rintro _ aq ⟨au, ⟨V, W, rfl, av, ax, aN⟩⟩
   have ay := R.extk au
   refine aw (vs V (wordB (foldK k0 (a ++ (padP (a.length : Int))) k)).length W) ?_
   refine n3 ?_
   refine rt (vs V (wordB (foldK k0 (a ++ (padP (a.length : Int))) k)).length W) ?_
   refine ⟨ay.keep0, ?_⟩
   have az : sha a = (wordB (foldK k0 (a ++ (padP (a.length : Int))) k)) := by first | exact sha_f (by omega) | exact sha_s (by omega) (by omega) (by omega)
   rw [az]
   exact ⟨_, _, rfl, (own_lo av (z6 r E s N t A)), ax, ⟨trivial, trivial⟩⟩
  have aO := dT o
  refine ct o ?_
  refine wc_skip <| wq_then <| wc_seq <| wc_block <| wc_region ?_
  refine mw (vs j (foldK k0 (a ++ (padP (a.length : Int))) k).length m) ?_
  refine mw (vs f (a ++ (padP (a.length : Int))).length h) ?_
  refine mw (vi (64 * ((k : Nat) : Int))) ?_
  refine mw (vi (64 * ((k : Nat) : Int))) ?_
  refine ar ((64 * ((k : Nat) : Int)) + 64) wN ?_
  refine slv (((a ++ (padP (a.length : Int))).drop (((64 * ((k : Nat) : Int))).toNat)).take (((((64 * ((k : Nat) : Int)) + 64)).toNat) - (((64 * ((k : Nat) : Int))).toNat))) (((64 * ((k : Nat) : Int))).toNat) ((((64 * ((k : Nat) : Int)) + 64)).toNat) wN slTy_22 (Rd.of_own H) (by first | omega | (simp <;> omega)) (by first | omega | (simp <;> omega)) (by first | rfl | (simp; done) | (rw [List.take_of_length_le (by first | (simp; done) | (simp; omega))])) rfl rfl rfl rfl (.inr ⟨_, _, _, rfl, rfl, by omega⟩) (.inr ⟨_, _, _, rfl, rfl, by omega⟩) ?_
  have a0 : (((64 * ((k : Nat) : Int))).toNat) ≤ ((((64 * ((k : Nat) : Int)) + 64)).toNat) := (by first | omega | (simp <;> omega))
  have a1 : ((((64 * ((k : Nat) : Int)) + 64)).toNat) ≤ (a ++ (padP (a.length : Int))).length := (by first | omega | (simp <;> omega))
  refine cl wN (csCompress G _ (foldK k0 (a ++ (padP (a.length : Int))) k) (mR_23 (Rd.of_own S) T) _ (((a ++ (padP (a.length : Int))).drop (((64 * ((k : Nat) : Int))).toNat)).take (((((64 * ((k : Nat) : Int)) + 64)).toNat) - (((64 * ((k : Nat) : Int))).toNat))) (mR_22 (Rd.subV (x' := (((a ++ (padP (a.length : Int))).drop (((64 * ((k : Nat) : Int))).toNat)).take (((((64 * ((k : Nat) : Int)) + 64)).toNat) - (((64 * ((k : Nat) : Int))).toNat)))) (Rd.of_own H) a0 a1 (by first | rfl | (simp; done) | (rw [List.take_of_length_le (by first | (simp; done) | (simp; omega))]))) (nT (by simp only [List.length_take, List.length_drop]; omega) ak))) ?_
  rintro _ aq ⟨X, ⟨B, C, rfl, a2, a3, aP⟩⟩
  have a4 := R.extk X
  refine aw (vs B (compress (foldK k0 (a ++ (padP (a.length : Int))) k) (((a ++ (padP (a.length : Int))).drop (((64 * ((k : Nat) : Int))).toNat)).take (((((64 * ((k : Nat) : Int)) + 64)).toNat) - (((64 * ((k : Nat) : Int))).toNat)))).length C) ?_
  refine wl_nil <| wq_blk_normal <| wq_then <| wc_region ?_
  refine mw (vi (64 * ((k : Nat) : Int))) ?_
  refine ar ((64 * ((k : Nat) : Int)) + 64) wN ?_
  refine aw (vi ((64 * ((k : Nat) : Int)) + 64)) ?_
  refine wl_nil ?_
  have Y : ((compress (foldK k0 (a ++ (padP (a.length : Int))) k) (((a ++ (padP (a.length : Int))).drop (((64 * ((k : Nat) : Int))).toNat)).take (((((64 * ((k : Nat) : Int)) + 64)).toNat) - (((64 * ((k : Nat) : Int))).toNat)))) : List Int) = foldK k0 (a ++ (padP (a.length : Int))) (k + 1) := by exact foldK_next
  refine wq_loopP (w0 := G) [(2, (vs none 0 0)), (3, (vs f (a ++ (padP (a.length : Int))).length h)), (4, (.slice B (foldK k0 (a ++ (padP (a.length : Int))) (k + 1)).length C)), (5, (vi (64 * (((k + 1) : Nat) : Int))))] ?_ ?_ ?_
  · exact ⟨rfl, rfl, (cA (fun l : List Int => Value.slice B l.length C) Y), (cA (Value.int .i64) (show (((64 * ((k : Nat) : Int)) + 64) : Int) = (64 * (((k + 1) : Nat) : Int)) by omega)), trivial⟩
  · exact fun u => ⟨(k + 1), u, B, C, rfl, a4, (((Ch.refl (fun k => d.heap.size ≤ k) F).ext A (fun k hk => hk)).extk X), (by omega), (Y ▸ ⟨(own_lo a2 (z2 t A)), a3⟩)⟩
  · show (a ++ padP (a.length : Int)).length - ((64 * (((k + 1) : Nat) : Int))).toNat < (a ++ padP (a.length : Int)).length - ((64 * ((k : Nat) : Int))).toNat; omega

theorem csBlockKey (b : World) (M : Value) (a : List UInt8) (af : R_22 b M a)  : Fn Tryz.prog 143 #[M] b (fun v f => Keep b f ∧ O_22 f b.heap.size v (blockKey a)) := by
 obtain ⟨h, i, rfl, y, N⟩ := af
 refine fn_ofS (n := 23) [(vs h a.length i)] Tryz.func143 rfl rfl ?_
 refine sr ?_
 refine aw (vs none 0 0) ?_
 refine n4 ?_
 refine mw (vs h a.length i) ?_
 refine ln wN slTy_22 y ?_
 refine pu (vb (decide (1048576 < (a.length : Int)))) wN ?_
 refine n2 ?_
 rcases bt (decide (1048576 < (a.length : Int))) with m | m
 ·have aB := dT m
  refine ct m ?_
  refine sr ?_
  refine wl_lit0 wN rfl rfl slTy_22 (fun w => by kernel_rfl) ?_
  intro O ah ai aj
  have ak := (Ch.base b).extk ai
  refine aw (vs (some O) 0 0) ?_
  refine n1 ?_
  refine rt (vs (some O) 0 0) ?_
  refine ⟨ak.keep0, ?_⟩
  have am : blockKey a = [] := by first | exact blockKey_f (by omega) | exact blockKey_l (by omega) (by omega) (by omega) (by simp only [List.length_append, List.length_replicate] at *; omega) | exact blockKey_s (by omega) (by omega) (by simp only [List.length_append, List.length_replicate] at *; omega)
  rw [am]
  exact ⟨_, _, rfl, aj, (by simp), ⟨trivial, trivial⟩⟩
 have aC := dF m
 refine cf m ?_
 refine y1 ?_
 refine wl_lit0 wN rfl rfl slTy_22 (fun w => by kernel_rfl) ?_
 intro aD ah o an
 have P := (Ch.base b).extk o
 refine mw (vs h a.length i) ?_
 refine ap0 a wN slTy_22 an (y.from0 P) o.size ?_
 intro A B g C ao aE
 have D := P.extk C
 refine aw (vs A a.length B) ?_
 refine n4 ?_
 refine mw (vs h a.length i) ?_
 refine ln wN slTy_22 (y.from0 D) ?_
 refine pu (vb (decide (64 < (a.length : Int)))) wN ?_
 refine n2 ?_
 rcases bf (decide (64 < (a.length : Int))) with p | p
 ·have aF := dF p
  refine cf p ?_
  refine wc_skip <| wq_then <| wc_seq <| wc_block ?_
  have Q : (a : List UInt8) = a ++ List.replicate 0 (0 : UInt8) := by simp
  refine wc_loopP [(2, (vs none 0 0)), (3, (.slice A (a ++ List.replicate 0 (0 : UInt8)).length B))] ⟨rfl, (cA (fun l : List UInt8 => Value.slice A l.length B) Q), trivial⟩ (fun e' f => ∃ (j : Nat) (R : Env) (d : Option Addr) (e : Nat), e' = pt R [(2, (vs none 0 0)), (3, (.slice d (a ++ List.replicate j (0 : UInt8)).length e))] ∧ Ch (fun k => b.heap.size ≤ k) b f ∧ Ch (fun k => b.heap.size ≤ k) g f ∧ a.length + j ≤ 64 ∧ (World.ownsRow f b.heap.size 5 1 (.slice d (a ++ List.replicate j (0 : UInt8)).length e) (a ++ List.replicate j (0 : UInt8)).length ((a ++ List.replicate j (0 : UInt8)).map bV) ∧ (a ++ List.replicate j (0 : UInt8)).length ≤ 1073741824)) (fun e' _ => 64 - (lenOf (e' 3))) ?_ ?_
  ·exact fun u => ⟨0, u, A, B, rfl, D, (Ch.refl (fun k => b.heap.size ≤ k) g), (by omega), (Q ▸ ⟨ao, N⟩)⟩
  ·rintro _ q ⟨j, R, d, e, rfl, S, T, aG, ⟨r, ap⟩⟩
   have hol : (a ++ List.replicate j (0 : UInt8)).length = a.length + j := by rw [List.length_append, List.length_replicate]
   refine wc_seq <| sr ?_
   refine mw (vs d (a ++ List.replicate j (0 : UInt8)).length e) ?_
   refine ln wN slTy_22 (Rd.of_own r) ?_
   refine pu (vb (decide (((a ++ List.replicate j (0 : UInt8)).length : Int) < 64))) wN ?_
   refine n2 ?_
   rcases bf (decide (((a ++ List.replicate j (0 : UInt8)).length : Int) < 64)) with s | s
   ·have aH := dF s
    refine cf s ?_
    refine wc_exit <| wq_then_exit <| wq_then_exit <| wq_blk_exit <| wq_then <| sr ?_
    refine mw (vs d (a ++ List.replicate j (0 : UInt8)).length e) ?_
    refine aw (vs d (a ++ List.replicate j (0 : UInt8)).length e) ?_
    refine n3 ?_
    refine rt (vs d (a ++ List.replicate j (0 : UInt8)).length e) ?_
    refine ⟨S.keep0, ?_⟩
    have aq : blockKey a = (a ++ List.replicate j (0 : UInt8)) := by first | exact blockKey_f (by omega) | exact blockKey_l (by omega) (by omega) (by omega) (by simp only [List.length_append, List.length_replicate] at *; omega) | exact blockKey_s (by omega) (by omega) (by simp only [List.length_append, List.length_replicate] at *; omega)
    rw [aq]
    exact ⟨_, _, rfl, r, ap, ⟨trivial, trivial⟩⟩
   have aI := dT s
   refine ct s ?_
   refine wc_skip <| wq_then <| wc_block <| wc_region ?_
   refine mw (vs d (a ++ List.replicate j (0 : UInt8)).length e) ?_
   refine ltB ([0] : List UInt8) wN slTy_22 ?_
   intro aJ aK V E au
   have av := (own_kp r E)
   refine apB (a ++ List.replicate j (0 : UInt8)) ([0] : List UInt8) wN slTy_22 av (Rd.of_own au) (z4 o C T E) ?_
   intro F G ax W ay aL az
   have a0 := (S.extk E).ext W (fun k hk => nT (Nat.le_refl b.heap.size) (own_lt r k hk).1)
   refine aw (vs F ((a ++ List.replicate j (0 : UInt8)) ++ ([0] : List UInt8)).length G) ?_
   refine wl_nil <| wq_blk_normal ?_
   have X : (((a ++ List.replicate j (0 : UInt8)) ++ ([0] : List UInt8)) : List UInt8) = a ++ List.replicate (j + 1) (0 : UInt8) := by rw [List.replicate_succ', List.append_assoc]
   refine wq_loopP (w0 := q) [(2, (vs none 0 0)), (3, (.slice F (a ++ List.replicate (j + 1) (0 : UInt8)).length G))] ?_ ?_ ?_
   · exact ⟨rfl, (cA (fun l : List UInt8 => Value.slice F l.length G) X), trivial⟩
   · exact fun u => ⟨(j + 1), u, F, G, rfl, a0, ((((Ch.refl (fun k => b.heap.size ≤ k) g).ext T (fun k hk => hk)).extk E).ext W (fun k hk => nT (Nat.le_refl b.heap.size) (own_lt r k hk).1)), (by omega), (X ▸ ⟨ay, az⟩)⟩
   · show 64 - (a ++ List.replicate (j + 1) (0 : UInt8)).length < 64 - (a ++ List.replicate j (0 : UInt8)).length; simp only [List.length_append, List.length_replicate]; omega
 have aM := dT p
 refine ct p ?_
 refine wc_region ?_
 refine mw (vs h a.length i) ?_
 refine cl wN (csSha g _ a (mR_22 (y.from0 D) N)) ?_
 rintro _ q ⟨Y, ⟨H, I, rfl, a1, a2, aN⟩⟩
 have a3 := D.extk Y
 have aO := sha_le a
 refine aw (vs H (sha a).length I) ?_
 refine wl_nil <| wq_then <| wc_seq <| wc_block ?_
 have Z : ((sha a) : List UInt8) = (sha a) ++ List.replicate 0 (0 : UInt8) := by simp
 refine wc_loopP [(2, (vs none 0 0)), (3, (.slice H ((sha a) ++ List.replicate 0 (0 : UInt8)).length I))] ⟨rfl, (cA (fun l : List UInt8 => Value.slice H l.length I) Z), trivial⟩ (fun e' f => ∃ (j : Nat) (aa : Env) (d : Option Addr) (e : Nat), e' = pt aa [(2, (vs none 0 0)), (3, (.slice d ((sha a) ++ List.replicate j (0 : UInt8)).length e))] ∧ Ch (fun k => b.heap.size ≤ k) b f ∧ Ch (fun k => g.heap.size ≤ k) q f ∧ (sha a).length + j ≤ 64 ∧ (World.ownsRow f g.heap.size 5 1 (.slice d ((sha a) ++ List.replicate j (0 : UInt8)).length e) ((sha a) ++ List.replicate j (0 : UInt8)).length (((sha a) ++ List.replicate j (0 : UInt8)).map bV) ∧ ((sha a) ++ List.replicate j (0 : UInt8)).length ≤ 1073741824)) (fun e' _ => 64 - (lenOf (e' 3))) ?_ ?_
 ·exact fun u => ⟨0, u, H, I, rfl, a3, (Ch.refl (fun k => g.heap.size ≤ k) q), (by omega), (Z ▸ ⟨a1, a2⟩)⟩
 ·rintro _ V ⟨j, aa, d, e, rfl, ab, ac, aP, ⟨t, a4⟩⟩
  have hol : ((sha a) ++ List.replicate j (0 : UInt8)).length = (sha a).length + j := by rw [List.length_append, List.length_replicate]
  refine wc_seq <| sr ?_
  refine mw (vs d ((sha a) ++ List.replicate j (0 : UInt8)).length e) ?_
  refine ln wN slTy_22 (Rd.of_own t) ?_
  refine pu (vb (decide ((((sha a) ++ List.replicate j (0 : UInt8)).length : Int) < 64))) wN ?_
  refine n2 ?_
  rcases bf (decide ((((sha a) ++ List.replicate j (0 : UInt8)).length : Int) < 64)) with x | x
  ·have aQ := dF x
   refine cf x ?_
   refine wc_exit <| wq_then_exit <| wq_then_exit <| wq_blk_exit <| wq_then <| sr ?_
   refine mw (vs d ((sha a) ++ List.replicate j (0 : UInt8)).length e) ?_
   refine aw (vs d ((sha a) ++ List.replicate j (0 : UInt8)).length e) ?_
   refine n3 ?_
   refine rt (vs d ((sha a) ++ List.replicate j (0 : UInt8)).length e) ?_
   refine ⟨ab.keep0, ?_⟩
   have a5 : blockKey a = ((sha a) ++ List.replicate j (0 : UInt8)) := by first | exact blockKey_f (by omega) | exact blockKey_l (by omega) (by omega) (by omega) (by simp only [List.length_append, List.length_replicate] at *; omega) | exact blockKey_s (by omega) (by omega) (by simp only [List.length_append, List.length_replicate] at *; omega)
   rw [a5]
   exact ⟨_, _, rfl, (own_lo t (z2 o C)), a4, ⟨trivial, trivial⟩⟩
  have aR := dT x
  refine ct x ?_
  refine wc_skip <| wq_then <| wc_block <| wc_region ?_
  refine mw (vs d ((sha a) ++ List.replicate j (0 : UInt8)).length e) ?_
  refine ltB ([0] : List UInt8) wN slTy_22 ?_
  intro aS aT ax J a6
  have a7 := (own_kp t J)
  refine apB ((sha a) ++ List.replicate j (0 : UInt8)) ([0] : List UInt8) wN slTy_22 a7 (Rd.of_own a6) (z3 Y ac J) ?_
  intro K L aU ad a8 aV a9
  have aA := (ab.extk J).ext ad (fun k hk => nT (z2 o C) (own_lt t k hk).1)
  refine aw (vs K (((sha a) ++ List.replicate j (0 : UInt8)) ++ ([0] : List UInt8)).length L) ?_
  refine wl_nil <| wq_blk_normal ?_
  have ae : ((((sha a) ++ List.replicate j (0 : UInt8)) ++ ([0] : List UInt8)) : List UInt8) = (sha a) ++ List.replicate (j + 1) (0 : UInt8) := by rw [List.replicate_succ', List.append_assoc]
  refine wq_loopP (w0 := V) [(2, (vs none 0 0)), (3, (.slice K ((sha a) ++ List.replicate (j + 1) (0 : UInt8)).length L))] ?_ ?_ ?_
  · exact ⟨rfl, (cA (fun l : List UInt8 => Value.slice K l.length L) ae), trivial⟩
  · exact fun u => ⟨(j + 1), u, K, L, rfl, aA, ((((Ch.refl (fun k => g.heap.size ≤ k) q).ext ac (fun k hk => hk)).extk J).ext ad (fun k hk => nT (Nat.le_refl g.heap.size) (own_lt t k hk).1)), (by omega), (ae ▸ ⟨a8, a9⟩)⟩
  · show 64 - ((sha a) ++ List.replicate (j + 1) (0 : UInt8)).length < 64 - ((sha a) ++ List.replicate j (0 : UInt8)).length; simp only [List.length_append, List.length_replicate]; omega

theorem csHmac (d : World) (ac : Value) (a : List UInt8) (a8 : R_22 d ac a) (ad : Value) (b : List UInt8) (a9 : R_22 d ad b)  : Fn Tryz.prog 133 #[ac, ad] d (fun v m => Keep d m ∧ O_22 m d.heap.size v (hmac a b)) := by
 obtain ⟨L, M, rfl, ae, aA⟩ := a8
 obtain ⟨o, p, rfl, af, bw⟩ := a9
 refine fn_ofS (n := 49) [(vs L a.length M), (vs o b.length p)] Tryz.func133 rfl rfl ?_
 refine sr ?_
 refine aw (vs none 0 0) ?_
 refine n4 ?_
 refine jT1 [(0, (vs L a.length M)), (1, (vs o b.length p)), (4, (vs none 0 0))] (hmac a b = []) ?_ fun ah => ?_
 ·intro aB e ai bz
  refine sr ?_
  refine wl_lit0 wN rfl rfl slTy_22 (fun w => by kernel_rfl) ?_
  intro aj T aC aD
  have aE := ((Ch.base d).extk ai).extk aC
  refine aw (vs (some aj) 0 0) ?_
  refine n1 ?_
  refine rt (vs (some aj) 0 0) ?_
  refine ⟨aE.keep0, ?_⟩
  rw [aB]
  exact ⟨_, _, rfl, (own_lo aD ai.size), (by simp), ⟨trivial, trivial⟩⟩
 refine mw (vs L a.length M) ?_
 refine ln wN slTy_22 ae ?_
 refine pu (vb (decide (1048576 < (a.length : Int)))) wN ?_
 refine mw (vb (decide (1048576 < (a.length : Int)))) ?_
 rcases bt (decide (1048576 < (a.length : Int))) with f | f
 ·have b0 := dT f
  iterate 3 refine sk f ?_
  refine pk (vb true) wN f ?_
  refine n2 ?_
  refine ct (Eq.refl true) ?_
  have aF : hmac a b = [] := by first | exact hmac_f (by omega) | exact hmac_g (by omega) (by omega) | exact hmac_s (by omega) (by omega)
  exact wj (ah aF _ (Ch.refl _ _))
 have b1 := dF f
 refine mv (vs o b.length p) (wS f) ?_
 refine ln (wS f) slTy_22 af ?_
 refine pu (vb (decide (1048512 < (b.length : Int)))) (wS f) ?_
 refine pf (vb (decide (1048512 < (b.length : Int)))) wN f ?_
 refine n2 ?_
 rcases bt (decide (1048512 < (b.length : Int))) with E | E
 ·have b2 := dT E
  refine ct E ?_
  have aG : hmac a b = [] := by first | exact hmac_f (by omega) | exact hmac_g (by omega) (by omega) | exact hmac_s (by omega) (by omega)
  exact wj (ah aG _ (Ch.refl _ _))
 have b3 := dF E
 refine cf E ?_
 refine y1 ?_
 refine mw (vs L a.length M) ?_
 refine cl wN (csBlockKey d _ a (mR_22 ae aA)) ?_
 rintro _ e ⟨s, ⟨t, y, rfl, V, _⟩⟩
 have b4 := blockKey_le a
 refine aw (vs t (blockKey a).length y) ?_
 refine nx ?_
 refine wl_lit0 wN rfl rfl slTy_22 (fun w => by kernel_rfl) ?_
 intro W T h ak
 refine aw (vs (some W) 0 0) ?_
 refine nx ?_
 refine wl_lit0 wN rfl rfl slTy_22 (fun w => by kernel_rfl) ?_
 intro X Y j am
 have aH := (((Ch.base d).extk s).extk h).extk j
 refine aw (vs (some X) 0 0) ?_
 refine n4 ?_
 refine aw (vi 0) ?_
 refine wl_nil <| wq_then <| wc_block ?_
 have aI := (own_kp ak j)
 have an : ([] : List UInt8) = maskB ((blockKey a).take 0) 54 := by rfl
 have ao : 0 = (maskB ((blockKey a).take 0) 54).length := by rw [← an]; try (first | rfl | simp only [List.length_set] | simp)
 have ap : ([] : List UInt8) = maskB ((blockKey a).take 0) 92 := by rfl
 have aq : 0 = (maskB ((blockKey a).take 0) 92).length := by rw [← ap]; try (first | rfl | simp only [List.length_set] | simp)
 refine wc_loopP [(1, (vs o b.length p)), (4, (vs none 0 0)), (5, (vs t (blockKey a).length y)), (6, (.slice (some W) (maskB ((blockKey a).take 0) 54).length 0)), (7, (.slice (some X) (maskB ((blockKey a).take 0) 92).length 0)), (8, (vi ((0 : Nat) : Int)))] ⟨rfl, rfl, rfl, rfl, rfl, (cA (Value.int .i64) (show (0 : Int) = ((0 : Nat) : Int) by omega)), trivial⟩ (fun e' m => ∃ (i : Nat) (au : Env) (A : Option Addr) (F : Nat) (B : Option Addr) (G : Nat), e' = pt au [(1, (vs o b.length p)), (4, (vs none 0 0)), (5, (vs t (blockKey a).length y)), (6, (.slice A (maskB ((blockKey a).take i) 54).length F)), (7, (.slice B (maskB ((blockKey a).take i) 92).length G)), (8, (vi ((i : Nat) : Int)))] ∧ Ch (fun k => d.heap.size ≤ k) d m ∧ Ch (fun k => e.heap.size ≤ k) Y m ∧ i ≤ 64 ∧ (World.ownsRow m e.heap.size 5 1 (.slice A (maskB ((blockKey a).take i) 54).length F) (maskB ((blockKey a).take i) 54).length ((maskB ((blockKey a).take i) 54).map bV) ∧ (maskB ((blockKey a).take i) 54).length ≤ 1073741824) ∧ (World.ownsRow m T.heap.size 5 1 (.slice B (maskB ((blockKey a).take i) 92).length G) (maskB ((blockKey a).take i) 92).length ((maskB ((blockKey a).take i) 92).map bV) ∧ (maskB ((blockKey a).take i) 92).length ≤ 1073741824) ∧ NeS A B) (fun e' _ => (64 - (intOf (e' 8))).toNat) ?_ ?_
 ·exact fun u => ⟨0, u, (some W), 0, (some X), 0, rfl, aH, (Ch.refl (fun k => e.heap.size ≤ k) Y), (by omega), ⟨(by rw [← ao, ← an]; exact aI), (by rw [← ao]; first | exact (by simp) | (simp only [List.length_append, List.length_take, List.length_replicate]; omega))⟩, ⟨(by rw [← aq, ← ap]; exact am), (by rw [← aq]; first | exact (by simp) | (simp only [List.length_append, List.length_take, List.length_replicate]; omega))⟩, (NeS.lt ak am (Nat.le_refl T.heap.size))⟩
 ·rintro _ aJ ⟨i, au, A, F, B, G, rfl, Z, q, b5, ⟨C, b6⟩, ⟨D, b7⟩, N⟩
  have b8 := maskB_len ((blockKey a).take i) 54
  have b9 := maskB_len ((blockKey a).take i) 92
  have htl : ((blockKey a).take i).length = min i (blockKey a).length := List.length_take
  refine wc_seq <| sr ?_
  refine mw (vi ((i : Nat) : Int)) ?_
  refine pu (vb (decide (((i : Nat) : Int) < 64))) wN ?_
  refine n2 ?_
  rcases bf (decide (((i : Nat) : Int) < 64)) with H | H
  ·have bA := dF H
   refine cf H ?_
   refine wc_exit <| wq_then_exit ?_
   obtain rfl : i = 64 := by omega
   refine wq_then_exit <| wq_blk_exit <| wq_then <| sr ?_
   refine mw (vs B (maskB ((blockKey a).take 64) 92).length G) ?_
   refine mw (vs A (maskB ((blockKey a).take 64) 54).length F) ?_
   refine mw (vs o b.length p) ?_
   refine apB (maskB ((blockKey a).take 64) 54) b wN slTy_22 C (af.from0 Z) (z3 h j q) ?_
   intro bB bC av O ax aK aL
   have aM := Z.ext O (fun k hk => nT s.size (own_lt C k hk).1)
   have aN := NeS.app N aK D
   refine cl wN (csSha av _ ((maskB ((blockKey a).take 64) 54) ++ b) (mR_22 (Rd.of_own ax) aL)) ?_
   rintro _ aO ⟨I, ⟨bD, bE, rfl, aP, _⟩⟩
   have bF := sha_le ((maskB ((blockKey a).take 64) 54) ++ b)
   have aQ := (own_kp (own_ch D O (fun g hg hlt hk => NeS.no (NeS.symm N) hg hk)) I)
   refine apB (maskB ((blockKey a).take 64) 92) (sha ((maskB ((blockKey a).take 64) 54) ++ b)) wN slTy_22 aQ (Rd.of_own aP) (z4 j q O I) ?_
   intro bG bH ay az aR aS aT
   have aU := (aM.extk I).ext az (fun k hk => nT (z2 s h) (own_lt D k hk).1)
   have aV := (own_kp ax I)
   have bI := NeS.app (NeS.symm aN) aS aV
   refine cl wN (csSha ay _ ((maskB ((blockKey a).take 64) 92) ++ (sha ((maskB ((blockKey a).take 64) 54) ++ b))) (mR_22 (Rd.of_own aR) aT)) ?_
   rintro _ aW ⟨aX, ⟨a0, a1, rfl, aY, aZ, bJ⟩⟩
   have ba := aU.extk aX
   have bK := sha_le ((maskB ((blockKey a).take 64) 92) ++ (sha ((maskB ((blockKey a).take 64) 54) ++ b)))
   refine aw (vs a0 (sha ((maskB ((blockKey a).take 64) 92) ++ (sha ((maskB ((blockKey a).take 64) 54) ++ b)))).length a1) ?_
   refine n3 ?_
   refine rt (vs a0 (sha ((maskB ((blockKey a).take 64) 92) ++ (sha ((maskB ((blockKey a).take 64) 54) ++ b)))).length a1) ?_
   refine ⟨ba.keep0, ?_⟩
   have bb : hmac a b = (sha ((maskB ((blockKey a).take 64) 92) ++ (sha ((maskB ((blockKey a).take 64) 54) ++ b)))) := by first | exact hmac_f (by omega) | exact hmac_g (by omega) (by omega) | exact hmac_s (by omega) (by omega)
   rw [bb]
   exact ⟨_, _, rfl, (own_lo aY (z7 s h j q O I az)), aZ, ⟨trivial, trivial⟩⟩
  have bL := dT H
  refine ct H ?_
  refine wc_skip <| wq_then <| wc_seq <| wc_block <| sr ?_
  refine mw (vs A (maskB ((blockKey a).take i) 54).length F) ?_
  refine mw (vs t (blockKey a).length y) ?_
  refine mw (vi ((i : Nat) : Int)) ?_
  have aa := (own_ch (own_kp (own_kp V h) j) q (fun g hg hlt hk => by have bc := (own_lt V g hg).2; have bd : e.heap.size ≤ e.heap.size := (Nat.le_refl e.heap.size); have be : e.heap.size ≤ g := hk; omega))
  refine ix wN ((i : Nat) : Int) slTy_22 (Rd.of_own aa) ?_
  refine eb (x := (blockKey a)) i wN isAgg_5 (Rd.of_own aa) ?_
  refine wl_xor8 ((blockKey a).getD i 0) 54 wN rfl rfl (by kernel_rfl) ?_
  refine ltB ([(((blockKey a).getD i 0) ^^^ 54)] : List UInt8) wN slTy_22 ?_
  intro bM bN av r bg
  have bh := (own_kp C r)
  refine apB (maskB ((blockKey a).take i) 54) ([(((blockKey a).getD i 0) ^^^ 54)] : List UInt8) wN slTy_22 bh (Rd.of_own bg) (z4 h j q r) ?_
  intro P Q aO J bi bj bk
  have bl := (Z.extk r).ext J (fun k hk => nT s.size (own_lt C k hk).1)
  have a2 := (own_kp D r)
  have a3 := NeS.app N bj a2
  refine aw (vs P ((maskB ((blockKey a).take i) 54) ++ ([(((blockKey a).getD i 0) ^^^ 54)] : List UInt8)).length Q) ?_
  refine wl_nil <| wq_then <| wc_region ?_
  refine mw (vs B (maskB ((blockKey a).take i) 92).length G) ?_
  refine mw (vs t (blockKey a).length y) ?_
  refine mw (vi ((i : Nat) : Int)) ?_
  have a4 := (own_ch (own_kp aa r) J (fun g hg hlt hk => by have bc := (own_lt V g hg).2; have bd := (own_lt C g hk).1; have be := (Nat.le_refl e.heap.size); omega))
  refine ix wN ((i : Nat) : Int) slTy_22 (Rd.of_own a4) ?_
  refine eb (x := (blockKey a)) i wN isAgg_5 (Rd.of_own a4) ?_
  refine wl_xor8 ((blockKey a).getD i 0) 92 wN rfl rfl (by kernel_rfl) ?_
  refine ltB ([(((blockKey a).getD i 0) ^^^ 92)] : List UInt8) wN slTy_22 ?_
  intro bO bP ay K bm
  have bn := (own_kp (own_ch a2 J (fun g hg hlt hk => NeS.no (NeS.symm N) hg hk)) K)
  refine apB (maskB ((blockKey a).take i) 92) ([(((blockKey a).getD i 0) ^^^ 92)] : List UInt8) wN slTy_22 bn (Rd.of_own bm) (z5 j q r J K) ?_
  intro R S aW ab bo bp bq
  have br := (bl.extk K).ext ab (fun k hk => nT (z2 s h) (own_lt D k hk).1)
  have a5 := (own_kp bi K)
  have bu := NeS.app (NeS.symm a3) bp a5
  refine aw (vs R ((maskB ((blockKey a).take i) 92) ++ ([(((blockKey a).getD i 0) ^^^ 92)] : List UInt8)).length S) ?_
  refine wl_nil <| wq_blk_normal <| wq_then <| wc_region ?_
  refine mw (vi ((i : Nat) : Int)) ?_
  refine ar (((i : Nat) : Int) + 1) wN ?_
  refine aw (vi (((i : Nat) : Int) + 1)) ?_
  refine wl_nil ?_
  have bv := (own_ch a5 ab (fun g hg hlt hk => NeS.no a3 hg hk))
  have a6 : (((maskB ((blockKey a).take i) 54) ++ ([(((blockKey a).getD i 0) ^^^ 54)] : List UInt8)) : List UInt8) = maskB ((blockKey a).take (i + 1)) 54 := by exact mask_next (by omega)
  have a7 : (((maskB ((blockKey a).take i) 92) ++ ([(((blockKey a).getD i 0) ^^^ 92)] : List UInt8)) : List UInt8) = maskB ((blockKey a).take (i + 1)) 92 := by exact mask_next (by omega)
  refine wq_loopP (w0 := aJ) [(1, (vs o b.length p)), (4, (vs none 0 0)), (5, (vs t (blockKey a).length y)), (6, (.slice P (maskB ((blockKey a).take (i + 1)) 54).length Q)), (7, (.slice R (maskB ((blockKey a).take (i + 1)) 92).length S)), (8, (vi (((i + 1) : Nat) : Int)))] ?_ ?_ ?_
  · exact ⟨rfl, rfl, rfl, (cA (fun l : List UInt8 => Value.slice P l.length Q) a6), (cA (fun l : List UInt8 => Value.slice R l.length S) a7), (cA (Value.int .i64) (show ((((i : Nat) : Int) + 1) : Int) = (((i + 1) : Nat) : Int) by omega)), trivial⟩
  · exact fun u => ⟨(i + 1), u, P, Q, R, S, rfl, br, ((((((Ch.refl (fun k => e.heap.size ≤ k) Y).ext q (fun k hk => hk)).extk r).ext J (fun k hk => nT (Nat.le_refl e.heap.size) (own_lt C k hk).1)).extk K).ext ab (fun k hk => nT h.size (own_lt D k hk).1)), (by omega), (a6 ▸ ⟨bv, bk⟩), (a7 ▸ ⟨bo, bq⟩), (NeS.symm bu)⟩
  · show (64 - (((i + 1) : Nat) : Int)).toNat < (64 - ((i : Nat) : Int)).toNat; omega

def O_22_4 (w : World) (lo : Nat) (v : Value) (x : (List UInt8) × (Bool)) : Prop := ∃ (a : Option Addr) (b : Nat), v = .tuple #[.slice a x.1.length b, .bool x.2] ∧ w.ownsRow lo 5 1 (.slice a x.1.length b) x.1.length (x.1.map bV) ∧ x.1.length ≤ 1073741824 ∧ Aps [(a, b)]
theorem csExpand (e : World) (ac : Value) (b : List UInt8) (a5 : R_22 e ac b) (ad : Value) (a : List UInt8) (a6 : R_22 e ad a) (d : Int)  : Fn Tryz.prog 101 #[ac, ad, (vi d)] e (fun v s => Keep e s ∧ O_22_4 s e.heap.size v (expand b a d)) := by
 obtain ⟨t, x, rfl, ae, a7⟩ := a5
 obtain ⟨y, A, rfl, af, bj⟩ := a6
 refine fn_ofS (n := 52) [(vs t b.length x), (vs y a.length A), (vi d)] Tryz.func101 rfl rfl ?_
 refine sr ?_
 refine aw (vs none 0 0) ?_
 refine aw (vb false) ?_
 refine n4 ?_
 refine jT1 [(0, (vs t b.length x)), (1, (vs y a.length A)), (2, (vi d)), (6, (vs none 0 0)), (7, (vb false))] (expand b a d = ([], false)) ?_ fun S => ?_
 ·intro a8 D ah bk
  refine sr ?_
  refine wl_lit0 wN rfl rfl slTy_22 (fun w => by kernel_rfl) ?_
  intro ai aj a9 aA
  have aB := ((Ch.base e).extk ah).extk a9
  refine aw (vs (some ai) 0 0) ?_
  refine aw (vb false) ?_
  refine n1 ?_
  refine ret_2 (.inl rfl) (vs (some ai) 0 0) (vb false) rfl rfl rfl ?_
  refine ⟨aB.keep0, ?_⟩
  rw [a8]
  exact ⟨_, _, rfl, (own_lo aA ah.size), (by simp), ⟨trivial, trivial⟩⟩
 refine mw (vi d) ?_
 refine cl wN (csl1In e d 0 8160) ?_
 rintro _ D ⟨m, rfl⟩
 have T := (Ch.base e).extk m
 refine pu (vb (!(s_l1In d 0 8160))) wN ?_
 refine mw (vb (!(s_l1In d 0 8160))) ?_
 rcases bf (s_l1In d 0 8160) with h | h
 ·have bl := spec_l1In_f h
  iterate 3 refine sk (cA not h) ?_
  refine pk (vb true) wN (cA not h) ?_
  refine mw (vb true) ?_
  iterate 3 refine sk (Eq.refl true) ?_
  refine pk (vb true) wN (Eq.refl true) ?_
  refine n2 ?_
  refine ct (Eq.refl true) ?_
  have aC : expand b a d = ([], false) := by first | exact expand_f (by omega) | exact expand_t (by omega) (by omega) (by omega) (by omega) (by omega) (by omega)
  exact wj (S aC _ m)
 have bm := spec_l1In_t h
 refine mv (vs y a.length A) (wS (cA not h)) ?_
 refine ln (wS (cA not h)) slTy_22 (af.from0 T) ?_
 refine pu (vb (decide (100 < (a.length : Int)))) (wS (cA not h)) ?_
 refine pf (vb (decide (100 < (a.length : Int)))) wN (cA not h) ?_
 refine mw (vb (decide (100 < (a.length : Int)))) ?_
 rcases bt (decide (100 < (a.length : Int))) with i | i
 ·have bn := dT i
  iterate 3 refine sk i ?_
  refine pk (vb true) wN i ?_
  refine n2 ?_
  refine ct (Eq.refl true) ?_
  have aD : expand b a d = ([], false) := by first | exact expand_f (by omega) | exact expand_t (by omega) (by omega) (by omega) (by omega) (by omega) (by omega)
  exact wj (S aD _ m)
 have bo := dF i
 refine mv (vs t b.length x) (wS i) ?_
 refine ln (wS i) slTy_22 (ae.from0 T) ?_
 refine pu (vb (decide (1048576 < (b.length : Int)))) (wS i) ?_
 refine pf (vb (decide (1048576 < (b.length : Int)))) wN i ?_
 refine n2 ?_
 rcases bt (decide (1048576 < (b.length : Int))) with H | H
 ·have bp := dT H
  refine ct H ?_
  have aE : expand b a d = ([], false) := by first | exact expand_f (by omega) | exact expand_t (by omega) (by omega) (by omega) (by omega) (by omega) (by omega)
  exact wj (S aE _ m)
 have bq := dF H
 refine cf H ?_
 refine y1 ?_
 refine wl_lit0 wN rfl rfl slTy_22 (fun w => by kernel_rfl) ?_
 intro V aj B aF
 refine aw (vs (some V) 0 0) ?_
 refine nx ?_
 refine wl_lit0 wN rfl rfl slTy_22 (fun w => by kernel_rfl) ?_
 intro W X j aG
 have aH := (T.extk B).extk j
 refine aw (vs (some W) 0 0) ?_
 refine n4 ?_
 refine aw (vi 1) ?_
 refine wl_nil <| wq_then <| wc_block ?_
 have aI := (own_kp aF j)
 have ak : ([] : List UInt8) = (expN b a 0).1 := by rfl
 have am : 0 = ((expN b a 0).1).length := by rw [← ak]; try (first | rfl | simp only [List.length_set] | simp)
 have an : ([] : List UInt8) = (expN b a 0).2 := by rfl
 have ao : 0 = ((expN b a 0).2).length := by rw [← an]; try (first | rfl | simp only [List.length_set] | simp)
 refine wc_loopP [(0, (vs t b.length x)), (1, (vs y a.length A)), (2, (vi d)), (6, (vs none 0 0)), (7, (vb false)), (8, (.slice (some V) ((expN b a 0).1).length 0)), (9, (.slice (some W) ((expN b a 0).2).length 0)), (10, (vi (((0 : Nat) : Int) + 1)))] ⟨rfl, rfl, rfl, rfl, rfl, rfl, rfl, (cA (Value.int .i64) (show (1 : Int) = (((0 : Nat) : Int) + 1) by omega)), trivial⟩ (fun e' s => ∃ (k : Nat) (ap : Env) (E : Option Addr) (F : Nat) (L : Option Addr) (M : Nat), e' = pt ap [(0, (vs t b.length x)), (1, (vs y a.length A)), (2, (vi d)), (6, (vs none 0 0)), (7, (vb false)), (8, (.slice E ((expN b a k).1).length F)), (9, (.slice L ((expN b a k).2).length M)), (10, (vi (((k : Nat) : Int) + 1)))] ∧ Ch (fun k => e.heap.size ≤ k) e s ∧ Ch (fun k => D.heap.size ≤ k) X s ∧ 32 * ((k : Nat) : Int) < d + 32 ∧ (World.ownsRow s D.heap.size 5 1 (.slice E ((expN b a k).1).length F) ((expN b a k).1).length (((expN b a k).1).map bV) ∧ ((expN b a k).1).length ≤ 1073741824) ∧ (World.ownsRow s aj.heap.size 5 1 (.slice L ((expN b a k).2).length M) ((expN b a k).2).length (((expN b a k).2).map bV) ∧ ((expN b a k).2).length ≤ 1073741824)) (fun e' _ => d.toNat - (lenOf (e' 8))) ?_ ?_
 ·exact fun u => ⟨0, u, (some V), 0, (some W), 0, rfl, aH, (Ch.refl (fun k => D.heap.size ≤ k) X), (by omega), ⟨(by rw [← am, ← ak]; exact aI), (by rw [← am]; first | exact (by simp) | (simp only [List.length_append, List.length_take, List.length_replicate]; omega))⟩, ⟨(by rw [← ao, ← an]; exact aG), (by rw [← ao]; first | exact (by simp) | (simp only [List.length_append, List.length_take, List.length_replicate]; omega))⟩⟩
 ·rintro _ Y ⟨k, ap, E, F, L, M, rfl, aq, o, br, ⟨p, aJ⟩, ⟨aK, bu⟩⟩
  have hxl := expN_len (prk := b) (info := a) (by omega) (by omega) k
  have hxm := expN_len (prk := b) (info := a) (by omega) (by omega) (k + 1)
  refine wc_seq <| sr ?_
  refine mw (vs E ((expN b a k).1).length F) ?_
  refine ln wN slTy_22 (Rd.of_own p) ?_
  refine mw (vi d) ?_
  refine pu (vb (decide ((((expN b a k).1).length : Int) < d))) wN ?_
  refine n2 ?_
  rcases bf (decide ((((expN b a k).1).length : Int) < d)) with I | I
  ·have bv := dF I
   refine cf I ?_
   refine wc_exit <| wq_then_exit <| wq_then_exit <| wq_blk_exit <| wq_then <| sr ?_
   refine wl_lit0 wN rfl rfl slTy_22 (fun w => by kernel_rfl) ?_
   intro bw aL Z aM
   refine mw (vs E ((expN b a k).1).length F) ?_
   refine mw (vi d) ?_
   have au := (own_kp p Z)
   refine slv (((expN b a k).1).take ((d).toNat)) 0 ((d).toNat) wN slTy_22 (Rd.of_own au) (by first | omega | (simp <;> omega)) (by first | omega | (simp <;> omega)) (by first | rfl | (simp; done) | (rw [List.take_of_length_le (by first | (simp; done) | (simp; omega))])) rfl rfl rfl rfl (.inl ⟨rfl, rfl⟩) (.inr ⟨_, _, _, rfl, rfl, by omega⟩) ?_
   have aN : 0 ≤ ((d).toNat) := (by first | omega | (simp <;> omega))
   have aO : ((d).toNat) ≤ ((expN b a k).1).length := (by first | omega | (simp <;> omega))
   refine ap0 (((expN b a k).1).take ((d).toNat)) wN slTy_22 aM (Rd.subV (x' := (((expN b a k).1).take ((d).toNat))) (Rd.of_own au) aN aO (by first | rfl | (simp; done) | (rw [List.take_of_length_le (by first | (simp; done) | (simp; omega))]))) Z.size ?_
   intro av ax aP aQ aR bz
   have aS := (aq.extk Z).extk aQ
   refine aw (vs av (((expN b a k).1).take ((d).toNat)).length ax) ?_
   refine aw (vb true) ?_
   refine n3 ?_
   refine ret_2 (.inl rfl) (vs av (((expN b a k).1).take ((d).toNat)).length ax) (vb true) rfl rfl rfl ?_
   refine ⟨aS.keep0, ?_⟩
   have aT : expand b a d = ((((expN b a k).1).take ((d).toNat)), true) := by first | exact expand_f (by omega) | exact expand_t (by omega) (by omega) (by omega) (by omega) (by omega) (by omega)
   rw [aT]
   exact ⟨_, _, rfl, (own_lo aR (z4 m B j o)), (nT (by simp only [List.length_take, List.length_drop]; omega) aJ), ⟨trivial, trivial⟩⟩
  have b0 := dT I
  refine ct I ?_
  refine wc_skip <| wq_then <| wc_seq <| wc_block <| sr ?_
  refine mw (vs t b.length x) ?_
  refine wl_lit0 wN rfl rfl slTy_22 (fun w => by kernel_rfl) ?_
  intro b1 aL f aU
  refine mw (vs L ((expN b a k).2).length M) ?_
  have aV := (own_kp aK f)
  refine ap0 ((expN b a k).2) wN slTy_22 aU (Rd.of_own aV) f.size ?_
  intro b2 b3 aP q N b4
  have ay := (aq.extk f).extk q
  refine mw (vs y a.length A) ?_
  refine apB ((expN b a k).2) a wN slTy_22 N (af.from0 ay) (z2 f q) ?_
  intro b5 b6 b7 C O b8 b9
  have aW := ay.ext C (fun k hk => nT (z4 m B j o) (own_lt N k hk).1)
  refine mw (vi (((k : Nat) : Int) + 1)) ?_
  refine wl_conv8 (((k : Nat) : Int) + 1) wN rfl rfl (by kernel_rfl) ?_
  refine ltB ([(by8 (((k : Nat) : Int) + 1))] : List UInt8) wN slTy_22 ?_
  intro bA bB bC r aX
  have aY := (own_kp O r)
  refine apB (((expN b a k).2) ++ a) ([(by8 (((k : Nat) : Int) + 1))] : List UInt8) wN slTy_22 aY (Rd.of_own aX) (z4 f q C r) ?_
  intro bD bE aZ G ba bF bb
  have az := (aW.extk r).ext G (fun k hk => nT (z4 m B j o) (own_lt O k hk).1)
  refine cl wN (csHmac aZ _ b (mR_22 (ae.from0 az) a7) _ ((((expN b a k).2) ++ a) ++ ([(by8 (((k : Nat) : Int) + 1))] : List UInt8)) (mR_22 (Rd.of_own ba) bb)) ?_
  rintro _ bG ⟨P, ⟨J, K, rfl, aa, bc, bH⟩⟩
  have bI := hmac_le b ((((expN b a k).2) ++ a) ++ ([(by8 (((k : Nat) : Int) + 1))] : List UInt8))
  refine aw (vs J (hmac b ((((expN b a k).2) ++ a) ++ ([(by8 (((k : Nat) : Int) + 1))] : List UInt8))).length K) ?_
  refine wl_nil <| wq_then <| wc_region ?_
  refine mw (vs E ((expN b a k).1).length F) ?_
  refine mw (vs J (hmac b ((((expN b a k).2) ++ a) ++ ([(by8 (((k : Nat) : Int) + 1))] : List UInt8))).length K) ?_
  have bd := (own_kp (own_ch (own_kp (own_ch (own_kp (own_kp p f) q) C (fun g hg hlt hk => by have a0 := (own_lt p g hg).2; have a1 := (own_lt N g hk).1; have a2 := (Nat.le_refl Y.heap.size); omega)) r) G (fun g hg hlt hk => by have a0 := (own_lt p g hg).2; have a1 := (own_lt O g hk).1; have a2 := (Nat.le_refl Y.heap.size); omega)) P)
  refine apB ((expN b a k).1) (hmac b ((((expN b a k).2) ++ a) ++ ([(by8 (((k : Nat) : Int) + 1))] : List UInt8))) wN slTy_22 bd (Rd.of_own aa) (z9 B j o f q C r G P) ?_
  intro Q R bJ ab be bK bg
  have bh := (az.extk P).ext ab (fun k hk => nT m.size (own_lt p k hk).1)
  refine aw (vs Q (((expN b a k).1) ++ (hmac b ((((expN b a k).2) ++ a) ++ ([(by8 (((k : Nat) : Int) + 1))] : List UInt8)))).length R) ?_
  refine wl_nil <| wq_blk_normal <| wq_then <| wc_region ?_
  refine mw (vi (((k : Nat) : Int) + 1)) ?_
  refine ar ((((k : Nat) : Int) + 1) + 1) wN ?_
  refine aw (vi ((((k : Nat) : Int) + 1) + 1)) ?_
  refine wl_nil ?_
  have a3 : ((((expN b a k).1) ++ (hmac b ((((expN b a k).2) ++ a) ++ ([(by8 (((k : Nat) : Int) + 1))] : List UInt8)))) : List UInt8) = (expN b a (k + 1)).1 := by exact expN_1 _ _ _ (by simp [joinB])
  have bi := (own_ch aa ab (fun g hg hlt hk => by have a0 := (own_lt aa g hg).1; have a1 := (own_lt p g hk).2; have a2 := (z5 f q C r G); omega))
  have a4 : ((hmac b ((((expN b a k).2) ++ a) ++ ([(by8 (((k : Nat) : Int) + 1))] : List UInt8))) : List UInt8) = (expN b a (k + 1)).2 := by exact expN_2 _ _ _ (by simp [joinB])
  refine wq_loopP (w0 := Y) [(0, (vs t b.length x)), (1, (vs y a.length A)), (2, (vi d)), (6, (vs none 0 0)), (7, (vb false)), (8, (.slice Q ((expN b a (k + 1)).1).length R)), (9, (.slice J ((expN b a (k + 1)).2).length K)), (10, (vi ((((k + 1) : Nat) : Int) + 1)))] ?_ ?_ ?_
  · exact ⟨rfl, rfl, rfl, rfl, rfl, (cA (fun l : List UInt8 => Value.slice Q l.length R) a3), (cA (fun l : List UInt8 => Value.slice J l.length K) a4), (cA (Value.int .i64) (show (((((k : Nat) : Int) + 1) + 1) : Int) = ((((k + 1) : Nat) : Int) + 1) by omega)), trivial⟩
  · exact fun u => ⟨(k + 1), u, Q, R, J, K, rfl, bh, (((((((((Ch.refl (fun k => D.heap.size ≤ k) X).ext o (fun k hk => hk)).extk f).extk q).ext C (fun k hk => nT (z3 B j o) (own_lt N k hk).1)).extk r).ext G (fun k hk => nT (z3 B j o) (own_lt O k hk).1)).extk P).ext ab (fun k hk => nT (Nat.le_refl D.heap.size) (own_lt p k hk).1)), (by omega), (a3 ▸ ⟨be, bg⟩), (a4 ▸ ⟨(own_lo bi (z7 j o f q C r G)), bc⟩)⟩
  · show d.toNat - ((expN b a (k + 1)).1).length < d.toNat - ((expN b a k).1).length; omega

def R_9 (w : World) (v : Value) (x : (ByteArray)) : Prop := v = .string x
theorem csDerive (d : World) (g : Value) (b : List UInt8) (o : R_22 d g b) (h : Value) (a : ByteArray) (p : R_9 d h a) (B : (strB a).length ≤ 100) : Fn Tryz.prog 60 #[g, h] d (fun v i => Keep d i ∧ O_22 i d.heap.size v (derive b a)) := by
 obtain ⟨j, k, rfl, q, r⟩ := o
 obtain rfl := p
 refine fn_ofS (n := 15) [(vs j b.length k), (.string a)] Tryz.func60 rfl rfl ?_
 refine sr ?_
 refine aw (vs none 0 0) ?_
 refine nx ?_
 refine mw (vs j b.length k) ?_
 refine mw (.string a) ?_
 refine wl_s2b a wN rfl rfl rfl rfl Tryz.underlying9 Tryz.underlying22 Tryz.underlying5 (by first | omega | (simp only [strB_mk]; decide)) ?_
 intro C D s l t
 have m := (Ch.base d).extk l
 refine cl wN (csExpand s _ b (mR_22 (q.from0 m) r) _ (strB a) (mR_22 t (by first | omega | (simp only [strB_mk]; decide))) 32) ?_
 rintro _ E ⟨u, ⟨e, f, rfl, w, x, F⟩⟩
 have y := m.extk u
 have G := expand_le b (strB a) 32
 refine mw (.tuple #[(vs e ((expand b (strB a) 32).1).length f), (vb ((expand b (strB a) 32).2))]) ?_
 refine pu (vs e ((expand b (strB a) 32).1).length f) wN ?_
 refine pu (vb ((expand b (strB a) 32).2)) wN ?_
 refine aw (vs e ((expand b (strB a) 32).1).length f) ?_
 refine aw (vb ((expand b (strB a) 32).2)) ?_
 refine nx ?_
 refine mw (vs e ((expand b (strB a) 32).1).length f) ?_
 refine aw (vs e ((expand b (strB a) 32).1).length f) ?_
 refine n3 ?_
 refine rt (vs e ((expand b (strB a) 32).1).length f) ?_
 refine ⟨y.keep0, ?_⟩
 have A : derive b a = (expand b (strB a) 32).1 := by rfl
 rw [A]
 exact ⟨_, _, rfl, (own_lo w l.size), x, ⟨trivial, trivial⟩⟩
end Go.Proofs.YtpcpjeaighehhaaGreat.K
