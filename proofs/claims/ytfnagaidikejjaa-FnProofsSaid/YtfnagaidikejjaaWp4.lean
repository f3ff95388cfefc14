import Derived.Test.YtfnagaidikejjaaCore
import Derived.Test.YtfnagaidikejjaaProg
import Derived.Test.YtfnagaidikejjaaHeld
import Derived.Test.YtfnagaidikejjaaFun
import Derived.Test.YtfnagaidikejjaaFunZ
import Derived.Test.YtfnagaidikejjaaSqz
import Derived.Test.YtfnagaidikejjaaHash
import Derived.Test.YtfnagaidikejjaaCur
import Derived.Test.YtfnagaidikejjaaDrawW
import Derived.Test.YtfnagaidikejjaaAead
import Derived.Test.YtfnagaidikejjaaWp3
namespace Go.Proofs.Ytfnagaidikejjaa.K
open Go.RowKit
set_option linter.unusedVariables false
set_option linter.unusedSimpArgs false
set_option maxRecDepth 100000
set_option maxHeartbeats 4000000
theorem csPutN (e : World) (B : Value) (d : List UInt8) (S : R_22 e B d) (b : Int) (a : Int) (aj : d.length ≤ 1000000) : Fn Try.prog 87 #[B, (vi b), (vi a)] e (fun v o => Keep e o ∧ O_22 o e.heap.size v (putN d b a)) := by
 obtain ⟨C, D, rfl, T, E⟩ := S
 refine fn_ofS (n := 35) [(vs C d.length D), (vi b), (vi a)] Try.func87 rfl rfl ?_
 refine sr ?_
 refine aw (vs none 0 0) ?_
 refine nx ?_
 refine wl_lit0 wN rfl rfl slTy_22 (fun w => by kernel_rfl) ?_
 intro ak am y V
 have F := (Ch.base e).extk y
 refine mw (vs C d.length D) ?_
 refine ap0 d wN slTy_22 V (T.from0 F) y.size ?_
 intro f g A G H an
 have I := F.extk G
 refine aw (vs f d.length g) ?_
 refine n4 ?_
 refine jT1 [(1, (vi b)), (2, (vi a)), (6, (vs none 0 0)), (7, (vs f d.length g))] (putN d b a = d) ?_ fun J => ?_
 ·intro W K L ao
  have X := I.extk L
  refine sr ?_
  refine mw (vs f d.length g) ?_
  refine aw (vs f d.length g) ?_
  refine n1 ?_
  have Y := (own_kp H L)
  refine rt (vs f d.length g) ?_
  refine ⟨X.keep0, ?_⟩
  rw [W]
  exact ⟨_, _, rfl, Y, E, ⟨trivial, trivial⟩⟩
 refine mw (vi a) ?_
 refine pu (vb (decide (a < 1))) wN ?_
 refine mw (vb (decide (a < 1))) ?_
 rcases bt (decide (a < 1)) with h | h
 ·have ap := dT h
  iterate 2 refine sk h ?_
  refine pk (vb true) wN h ?_
  refine n2 ?_
  refine ct (Eq.refl true) ?_
  have Z : putN d b a = d := by first | exact putN_out (by omega) | exact putN_end (by omega) (by omega) (by omega)
  exact wj (J Z _ (Ch.refl _ _))
 have aq := dF h
 refine mv (vi a) (wS h) ?_
 refine pu (vb (decide (6 < a))) (wS h) ?_
 refine pf (vb (decide (6 < a))) wN h ?_
 refine n2 ?_
 rcases bt (decide (6 < a)) with p | p
 ·have au := dT p
  refine ct p ?_
  have aa : putN d b a = d := by first | exact putN_out (by omega) | exact putN_end (by omega) (by omega) (by omega)
  exact wj (J aa _ (Ch.refl _ _))
 have av := dF p
 refine cf p ?_
 refine y2 ?_
 refine mw (vi a) ?_
 refine ar (a - 1) wN ?_
 refine aw (vi (a - 1)) ?_
 refine wl_nil <| wq_then <| wc_block ?_
 have M : (d : List UInt8) = d ++ putK b a 0 := by simp [putK]
 refine wc_loopP [(1, (vi b)), (6, (vs none 0 0)), (7, (.slice f (d ++ putK b a 0).length g)), (8, (vi (a - 1 - ((0 : Nat) : Int))))] ⟨rfl, rfl, (cA (fun l : List UInt8 => Value.slice f l.length g) M), (cA (Value.int .i64) (show ((a - 1) : Int) = (a - 1 - ((0 : Nat) : Int)) by omega)), trivial⟩ (fun e' o => ∃ (j : Nat) (N : Env) (i : Option Addr) (m : Nat), e' = pt N [(1, (vi b)), (6, (vs none 0 0)), (7, (.slice i (d ++ putK b a j).length m)), (8, (vi (a - 1 - ((j : Nat) : Int))))] ∧ Ch (fun k => e.heap.size ≤ k) e o ∧ Ch (fun k => e.heap.size ≤ k) A o ∧ ((j : Nat) : Int) ≤ a ∧ (World.ownsRow o e.heap.size 5 1 (.slice i (d ++ putK b a j).length m) (d ++ putK b a j).length ((d ++ putK b a j).map bV) ∧ (d ++ putK b a j).length ≤ 1073741824)) (fun e' _ => ((intOf (e' 8)) + 1).toNat) ?_ ?_
 ·exact fun u => ⟨0, u, f, g, rfl, I, (Ch.refl (fun k => e.heap.size ≤ k) A), (by omega), (M ▸ ⟨H, E⟩)⟩
 ·rintro _ K ⟨j, N, i, m, rfl, O, P, ax, ⟨r, ab⟩⟩
  have hpl := putK_len b a j
  refine wc_seq <| sr ?_
  refine mw (vi (a - 1 - ((j : Nat) : Int))) ?_
  refine pu (vb (decide (0 ≤ (a - 1 - ((j : Nat) : Int))))) wN ?_
  refine n2 ?_
  rcases bf (decide (0 ≤ (a - 1 - ((j : Nat) : Int)))) with q | q
  ·have ay := dF q
   refine cf q ?_
   refine wc_exit <| wq_then_exit <| wq_then_exit <| wq_blk_exit <| wq_then <| sr ?_
   refine mw (vs i (d ++ putK b a j).length m) ?_
   refine aw (vs i (d ++ putK b a j).length m) ?_
   refine n3 ?_
   refine rt (vs i (d ++ putK b a j).length m) ?_
   refine ⟨O.keep0, ?_⟩
   have ac : putN d b a = (d ++ putK b a j) := by first | exact putN_out (by omega) | exact putN_end (by omega) (by omega) (by omega)
   rw [ac]
   exact ⟨_, _, rfl, r, ab, ⟨trivial, trivial⟩⟩
  have az := dT q
  refine ct q ?_
  refine wc_skip <| wq_then <| wc_seq <| wc_block <| wc_region ?_
  refine mw (vs i (d ++ putK b a j).length m) ?_
  refine mw (vi b) ?_
  refine mw (vi (a - 1 - ((j : Nat) : Int))) ?_
  refine ar (8 * (a - 1 - ((j : Nat) : Int))) wN ?_
  refine wl_shr b (8 * (a - 1 - ((j : Nat) : Int))) wN rfl rfl rfl rfl rfl (by omega) (by omega) ?_
  refine wl_and (b / (2 : Int) ^ ((8 * (a - 1 - ((j : Nat) : Int)))).toNat) 255 256 8 wN rfl rfl (by decide) (by decide) (by decide) (by kernel_rfl) ?_
  refine wl_conv8 ((b / (2 : Int) ^ ((8 * (a - 1 - ((j : Nat) : Int)))).toNat) % 256) wN rfl rfl (by kernel_rfl) ?_
  refine ltB ([(by8 ((b / (2 : Int) ^ ((8 * (a - 1 - ((j : Nat) : Int)))).toNat) % 256))] : List UInt8) wN slTy_22 ?_
  intro a0 a1 a2 s ad
  have ae := (own_kp r s)
  refine apB (d ++ putK b a j) ([(by8 ((b / (2 : Int) ^ ((8 * (a - 1 - ((j : Nat) : Int)))).toNat) % 256))] : List UInt8) wN slTy_22 ae (Rd.of_own ad) (z4 y G P s) ?_
  intro t x a3 Q af a4 ah
  have ai := (O.extk s).ext Q (fun k hk => nT (Nat.le_refl e.heap.size) (own_lt r k hk).1)
  refine aw (vs t ((d ++ putK b a j) ++ ([(by8 ((b / (2 : Int) ^ ((8 * (a - 1 - ((j : Nat) : Int)))).toNat) % 256))] : List UInt8)).length x) ?_
  refine wl_nil <| wq_blk_normal <| wq_then <| wc_region ?_
  refine mw (vi (a - 1 - ((j : Nat) : Int))) ?_
  refine ar ((a - 1 - ((j : Nat) : Int)) - 1) wN ?_
  refine aw (vi ((a - 1 - ((j : Nat) : Int)) - 1)) ?_
  refine wl_nil ?_
  have R : (((d ++ putK b a j) ++ ([(by8 ((b / (2 : Int) ^ ((8 * (a - 1 - ((j : Nat) : Int)))).toNat) % 256))] : List UInt8)) : List UInt8) = d ++ putK b a (j + 1) := by simp [putK]
  refine wq_loopP (w0 := K) [(1, (vi b)), (6, (vs none 0 0)), (7, (.slice t (d ++ putK b a (j + 1)).length x)), (8, (vi (a - 1 - (((j + 1) : Nat) : Int))))] ?_ ?_ ?_
  · exact ⟨rfl, rfl, (cA (fun l : List UInt8 => Value.slice t l.length x) R), (cA (Value.int .i64) (show (((a - 1 - ((j : Nat) : Int)) - 1) : Int) = (a - 1 - (((j + 1) : Nat) : Int)) by omega)), trivial⟩
  · exact fun u => ⟨(j + 1), u, t, x, rfl, ai, ((((Ch.refl (fun k => e.heap.size ≤ k) A).ext P (fun k hk => hk)).extk s).ext Q (fun k hk => nT (Nat.le_refl e.heap.size) (own_lt r k hk).1)), (by omega), (R ▸ ⟨af, ah⟩)⟩
  · show ((a - 1 - (((j + 1) : Nat) : Int)) + 1).toNat < ((a - 1 - ((j : Nat) : Int)) + 1).toNat; omega

theorem csPad (b : World) (a : Int)  : Fn Try.prog 99 #[(vi a)] b (fun v e => Keep b e ∧ O_22 e b.heap.size v (padP a)) := by
 refine fn_ofS (n := 27) [(vi a)] Try.func99 rfl rfl ?_
 refine sr ?_
 refine aw (vs none 0 0) ?_
 refine n4 ?_
 refine jT1 [(0, (vi a)), (2, (vs none 0 0))] (padP a = []) ?_ fun B => ?_
 ·intro N o C am
  refine sr ?_
  refine wl_lit0 wN rfl rfl slTy_22 (fun w => by kernel_rfl) ?_
  intro D x O P
  have Q := ((Ch.base b).extk C).extk O
  refine aw (vs (some D) 0 0) ?_
  refine n1 ?_
  refine rt (vs (some D) 0 0) ?_
  refine ⟨Q.keep0, ?_⟩
  rw [N]
  exact ⟨_, _, rfl, (own_lo P C.size), (by simp), ⟨trivial, trivial⟩⟩
 refine mw (vi a) ?_
 refine pu (vb (decide (a < 0))) wN ?_
 refine mw (vb (decide (a < 0))) ?_
 rcases bt (decide (a < 0)) with d | d
 ·have an := dT d
  iterate 2 refine sk d ?_
  refine pk (vb true) wN d ?_
  refine n2 ?_
  refine ct (Eq.refl true) ?_
  have R : padP a = [] := by first | exact padP_f (by omega) | exact padP_s (by omega) (by omega) (by omega) (by omega)
  exact wj (B R _ (Ch.refl _ _))
 have ao := dF d
 refine mv (vi a) (wS d) ?_
 refine pu (vb (decide (1048576 < a))) (wS d) ?_
 refine pf (vb (decide (1048576 < a))) wN d ?_
 refine n2 ?_
 rcases bt (decide (1048576 < a)) with h | h
 ·have ap := dT h
  refine ct h ?_
  have S : padP a = [] := by first | exact padP_f (by omega) | exact padP_s (by omega) (by omega) (by omega) (by omega)
  exact wj (B S _ (Ch.refl _ _))
 have aq := dF h
 refine cf h ?_
 refine y1 ?_
 refine ltB ([128] : List UInt8) wN slTy_22 ?_
 intro p q o y T
 have V := (Ch.base b).extk y
 refine aw (vs p ([128] : List UInt8).length q) ?_
 refine wl_nil <| wq_then <| wc_seq <| wc_block ?_
 have E : (([128] : List UInt8) : List UInt8) = [(128 : UInt8)] ++ List.replicate 0 (0 : UInt8) := by first | rfl | (rw [List.replicate_succ', List.append_assoc])
 refine wc_loopP [(0, (vi a)), (2, (vs none 0 0)), (3, (.slice p ([(128 : UInt8)] ++ List.replicate 0 (0 : UInt8)).length q))] ⟨rfl, rfl, (cA (fun l : List UInt8 => Value.slice p l.length q) E), trivial⟩ (fun e' e => ∃ (j : Nat) (F : Env) (f : Option Addr) (g : Nat), e' = pt F [(0, (vi a)), (2, (vs none 0 0)), (3, (.slice f ([(128 : UInt8)] ++ List.replicate j (0 : UInt8)).length g))] ∧ Ch (fun k => b.heap.size ≤ k) b e ∧ Ch (fun k => b.heap.size ≤ k) o e ∧ ((j : Nat) : Int) ≤ (64 - (a + 9) % 64) % 64 ∧ (World.ownsRow e b.heap.size 5 1 (.slice f ([(128 : UInt8)] ++ List.replicate j (0 : UInt8)).length g) ([(128 : UInt8)] ++ List.replicate j (0 : UInt8)).length (([(128 : UInt8)] ++ List.replicate j (0 : UInt8)).map bV) ∧ ([(128 : UInt8)] ++ List.replicate j (0 : UInt8)).length ≤ 1073741824)) (fun e' _ => 100 - (lenOf (e' 3))) ?_ ?_
 ·exact fun u => ⟨0, u, p, q, rfl, V, (Ch.refl (fun k => b.heap.size ≤ k) o), (by omega), (E ▸ ⟨T, (by simp)⟩)⟩
 ·rintro _ x ⟨j, F, f, g, rfl, G, A, au, ⟨i, W⟩⟩
  have hpl : ([(128 : UInt8)] ++ List.replicate j (0 : UInt8)).length = 1 + j := by rw [List.length_append, List.length_replicate]; rfl
  refine wc_seq <| sr ?_
  refine mw (vi a) ?_
  refine mw (vs f ([(128 : UInt8)] ++ List.replicate j (0 : UInt8)).length g) ?_
  refine ln wN slTy_22 (Rd.of_own i) ?_
  refine ar (a + (([(128 : UInt8)] ++ List.replicate j (0 : UInt8)).length : Int)) wN ?_
  refine ar ((a + (([(128 : UInt8)] ++ List.replicate j (0 : UInt8)).length : Int)) + 8) wN ?_
  refine wl_rem ((a + (([(128 : UInt8)] ++ List.replicate j (0 : UInt8)).length : Int)) + 8) 64 wN rfl rfl (by kernel_rfl) (by first | omega | assumption) ?_
  refine pu (vb (!(decide ((((a + (([(128 : UInt8)] ++ List.replicate j (0 : UInt8)).length : Int)) + 8) % 64) = 0)))) wN ?_
  refine n2 ?_
  rcases bf (decide ((((a + (([(128 : UInt8)] ++ List.replicate j (0 : UInt8)).length : Int)) + 8) % 64) = 0)) with m | m
  ·have av := dF m
   refine ct (cA not m) ?_
   refine wc_skip <| wq_then <| wc_block <| wc_region ?_
   refine mw (vs f ([(128 : UInt8)] ++ List.replicate j (0 : UInt8)).length g) ?_
   refine ltB ([0] : List UInt8) wN slTy_22 ?_
   intro ax ay H r X
   have Y := (own_kp i r)
   refine apB ([(128 : UInt8)] ++ List.replicate j (0 : UInt8)) ([0] : List UInt8) wN slTy_22 Y (Rd.of_own X) (z3 y A r) ?_
   intro s t Z I aa az ab
   have ac := (G.extk r).ext I (fun k hk => nT (Nat.le_refl b.heap.size) (own_lt i k hk).1)
   refine aw (vs s (([(128 : UInt8)] ++ List.replicate j (0 : UInt8)) ++ ([0] : List UInt8)).length t) ?_
   refine wl_nil <| wq_blk_normal ?_
   have J : ((([(128 : UInt8)] ++ List.replicate j (0 : UInt8)) ++ ([0] : List UInt8)) : List UInt8) = [(128 : UInt8)] ++ List.replicate (j + 1) (0 : UInt8) := by first | rfl | (rw [List.replicate_succ', List.append_assoc])
   refine wq_loopP (w0 := x) [(0, (vi a)), (2, (vs none 0 0)), (3, (.slice s ([(128 : UInt8)] ++ List.replicate (j + 1) (0 : UInt8)).length t))] ?_ ?_ ?_
   · exact ⟨rfl, rfl, (cA (fun l : List UInt8 => Value.slice s l.length t) J), trivial⟩
   · exact fun u => ⟨(j + 1), u, s, t, rfl, ac, ((((Ch.refl (fun k => b.heap.size ≤ k) o).ext A (fun k hk => hk)).extk r).ext I (fun k hk => nT (Nat.le_refl b.heap.size) (own_lt i k hk).1)), (by omega), (J ▸ ⟨aa, ab⟩)⟩
   · show 100 - ([(128 : UInt8)] ++ List.replicate (j + 1) (0 : UInt8)).length < 100 - ([(128 : UInt8)] ++ List.replicate j (0 : UInt8)).length; simp only [List.length_append, List.length_cons, List.length_nil, List.length_replicate]; omega
  have a0 := dT m
  refine cf (cA not m) ?_
  refine wc_exit <| wq_then_exit <| wq_then_exit <| wq_blk_exit <| wq_then <| sr ?_
  refine mw (vs f ([(128 : UInt8)] ++ List.replicate j (0 : UInt8)).length g) ?_
  refine cl wN (csPutN x _ ([(128 : UInt8)] ++ List.replicate j (0 : UInt8)) (mR_22 (Rd.of_own i) W) 0 4 (by first | omega | (simp; done) | (simp; omega) | (simp only [List.length_append, List.length_cons, List.length_nil] at *; omega))) ?_
  rintro _ H ⟨K, ⟨a1, a2, rfl, ad, ae, a3⟩⟩
  have a4 := putN_len ([(128 : UInt8)] ++ List.replicate j (0 : UInt8)) 0 4
  refine mw (vi a) ?_
  refine ar (8 * a) wN ?_
  refine cl wN (csPutN H _ (putN ([(128 : UInt8)] ++ List.replicate j (0 : UInt8)) 0 4) (mR_22 (Rd.of_own ad) ae) (8 * a) 4 (by first | omega | (simp; done) | (simp; omega) | (simp only [List.length_append, List.length_cons, List.length_nil] at *; omega))) ?_
  rintro _ Z ⟨af, ⟨L, M, rfl, ah, ai, a5⟩⟩
  have aj := (G.extk K).extk af
  have a6 := putN_len (putN ([(128 : UInt8)] ++ List.replicate j (0 : UInt8)) 0 4) (8 * a) 4
  refine aw (vs L (putN (putN ([(128 : UInt8)] ++ List.replicate j (0 : UInt8)) 0 4) (8 * a) 4).length M) ?_
  refine n3 ?_
  refine rt (vs L (putN (putN ([(128 : UInt8)] ++ List.replicate j (0 : UInt8)) 0 4) (8 * a) 4).length M) ?_
  refine ⟨aj.keep0, ?_⟩
  have ak : padP a = (putN (putN ([(128 : UInt8)] ++ List.replicate j (0 : UInt8)) 0 4) (8 * a) 4) := by first | exact padP_f (by omega) | exact padP_s (by omega) (by omega) (by omega) (by omega)
  rw [ak]
  exact ⟨_, _, rfl, (own_lo ah (z3 y A K)), ai, ⟨trivial, trivial⟩⟩

theorem csStart (a : World)   : Fn Try.prog 100 #[] a (fun v b => Keep a b ∧ O_67 b a.heap.size v (k0)) := by
 refine fn_ofS (n := 2) [] Try.func100 rfl rfl ?_
 refine sr ?_
 refine aw (vs none 0 0) ?_
 refine nx ?_
 refine ltI ([1779033703, 3144134277, 1013904242, 2773480762, 1359893119, 2600822924, 528734635, 1541459225] : List Int) wN slTy_67 ?_
 intro d e j f g
 have h := (Ch.base a).extk f
 refine aw (vs d ([1779033703, 3144134277, 1013904242, 2773480762, 1359893119, 2600822924, 528734635, 1541459225] : List Int).length e) ?_
 refine n3 ?_
 refine rt (vs d ([1779033703, 3144134277, 1013904242, 2773480762, 1359893119, 2600822924, 528734635, 1541459225] : List Int).length e) ?_
 refine ⟨h.keep0, ?_⟩
 have i : k0 = ([1779033703, 3144134277, 1013904242, 2773480762, 1359893119, 2600822924, 528734635, 1541459225] : List Int) := by rfl
 rw [i]
 exact ⟨_, _, rfl, g, (by simp), ⟨trivial, trivial⟩⟩

def ws8 (x : List Int) : Bool := areW x 8
theorem ws8_t {x : List Int} (h : ws8 x = true) : allW x = true ∧ (x.length : Int) = 8 := areW_t h
theorem csl2Words (b : World) (m : Value) (a : List Int) (s : R_67 b m a)  : Fn Try.prog 108 #[m] b (fun v g => Keep b g ∧ O_4 g b.heap.size v (ws8 a)) := by
 obtain ⟨d, e, rfl, l, A⟩ := s
 refine fn_ofS (n := 19) [(vs d a.length e)] Try.func108 rfl rfl ?_
 refine sr ?_
 refine aw (vb false) ?_
 refine n4 ?_
 refine aw (vi 0) ?_
 refine wl_nil <| wq_then <| wc_block ?_
 refine wc_loopP [(0, (vs d a.length e)), (3, (vi ((0 : Nat) : Int)))] ⟨rfl, (cA (Value.int .i64) (show (0 : Int) = ((0 : Nat) : Int) by omega)), trivial⟩ (fun e' g => ∃ (i : Nat) (o : Env), e' = pt o [(0, (vs d a.length e)), (3, (vi ((i : Nat) : Int)))] ∧ Ch (fun k => b.heap.size ≤ k) b g ∧ Ch (fun k => b.heap.size ≤ k) b g ∧ i ≤ a.length ∧ allW (a.take i) = true) (fun e' _ => a.length - ((intOf (e' 3))).toNat) ?_ ?_
 ·exact fun u => ⟨0, u, rfl, (Ch.base b), (Ch.refl (fun k => b.heap.size ≤ k) b), (by omega), (by first | rfl | exact allW_next (by assumption) (by omega) (by assumption))⟩
 ·rintro _ p ⟨i, o, rfl, f, t, B, C⟩
  refine wc_seq <| sr ?_
  refine mw (vi ((i : Nat) : Int)) ?_
  refine mw (vs d a.length e) ?_
  refine ln wN slTy_67 (l.from0 f) ?_
  refine pu (vb (decide (((i : Nat) : Int) < (a.length : Int)))) wN ?_
  refine n2 ?_
  rcases bf (decide (((i : Nat) : Int) < (a.length : Int))) with h | h
  ·have D := dF h
   refine cf h ?_
   refine wc_exit <| wq_then_exit <| wq_then_exit <| wq_blk_exit <| wq_then <| sr ?_
   refine mw (vs d a.length e) ?_
   refine ln wN slTy_67 (l.from0 f) ?_
   refine pu (vb (decide ((a.length : Int) = 8))) wN ?_
   refine aw (vb (decide ((a.length : Int) = 8))) ?_
   refine n3 ?_
   refine rt (vb (decide ((a.length : Int) = 8))) ?_
   refine ⟨f.keep0, ?_⟩
   have w : ws8 a = decide ((a.length : Int) = 8) := by first | (have hz := allW_no (x := a) (k := i) (by omega) (by first | assumption | omega); simp [ws8, areW, hz]) | (have hz := allW_all (x := a) (k := i) (by assumption) (by omega); simp [ws8, areW, hz])
   rw [w]
   exact rfl
  have E := dT h
  refine ct h ?_
  refine wc_skip <| wq_then <| wc_seq <| wc_block <| sr ?_
  refine mw (vs d a.length e) ?_
  refine mw (vi ((i : Nat) : Int)) ?_
  refine ix wN ((i : Nat) : Int) slTy_67 (l.from0 f) ?_
  refine ei (x := a) i wN isAgg_3 (l.from0 f) ?_
  refine cl wN (csl1In p (a.getD i 0) 0 4294967295) ?_
  rintro _ F ⟨q, rfl⟩
  have r := f.extk q
  refine pu (vb (!(s_l1In (a.getD i 0) 0 4294967295))) wN ?_
  refine n2 ?_
  rcases bf (s_l1In (a.getD i 0) 0 4294967295) with j | j
  ·have G := spec_l1In_f j
   refine ct (cA not j) ?_
   refine sr ?_
   refine aw (vb false) ?_
   refine wl_nil <| wq_then <| wc_ret <| wq_blk_ret <| wq_then_ret <| wq_then_ret <| wq_blk_ret <| wq_then_ret ?_
   refine rt (vb false) ?_
   refine ⟨r.keep0, ?_⟩
   have y : ws8 a = false := by first | (have hz := allW_no (x := a) (k := i) (by omega) (by first | assumption | omega); simp [ws8, areW, hz]) | (have hz := allW_all (x := a) (k := i) (by assumption) (by omega); simp [ws8, areW, hz])
   rw [y]
   exact rfl
  have H := spec_l1In_t j
  refine cf (cA not j) ?_
  refine wc_skip <| wq_blk_normal <| wq_then <| wc_region ?_
  refine mw (vi ((i : Nat) : Int)) ?_
  refine ar (((i : Nat) : Int) + 1) wN ?_
  refine aw (vi (((i : Nat) : Int) + 1)) ?_
  refine wl_nil ?_
  refine wq_loopP (w0 := p) [(0, (vs d a.length e)), (3, (vi (((i + 1) : Nat) : Int)))] ?_ ?_ ?_
  · exact ⟨rfl, (cA (Value.int .i64) (show ((((i : Nat) : Int) + 1) : Int) = (((i + 1) : Nat) : Int) by omega)), trivial⟩
  · exact fun u => ⟨(i + 1), u, rfl, r, (((Ch.refl (fun k => b.heap.size ≤ k) b).ext t (fun k hk => hk)).extk q), (by omega), (by first | rfl | exact allW_next (by assumption) (by omega) (by assumption))⟩
  · show a.length - ((((i + 1) : Nat) : Int)).toNat < a.length - (((i : Nat) : Int)).toNat; omega

theorem csl2K (a : World)   : Fn Try.prog 109 #[] a (fun v b => Keep a b ∧ O_67 b a.heap.size v (kw)) := by
 refine fn_ofS (n := 2) [] Try.func109 rfl rfl ?_
 refine sr ?_
 refine aw (vs none 0 0) ?_
 refine nx ?_
 refine ltI ([1116352408, 1899447441, 3049323471, 3921009573, 961987163, 1508970993, 2453635748, 2870763221, 3624381080, 310598401, 607225278, 1426881987, 1925078388, 2162078206, 2614888103, 3248222580, 3835390401, 4022224774, 264347078, 604807628, 770255983, 1249150122, 1555081692, 1996064986, 2554220882, 2821834349, 2952996808, 3210313671, 3336571891, 3584528711, 113926993, 338241895, 666307205, 773529912, 1294757372, 1396182291, 1695183700, 1986661051, 2177026350, 2456956037, 2730485921, 2820302411, 3259730800, 3345764771, 3516065817, 3600352804, 4094571909, 275423344, 430227734, 506948616, 659060556, 883997877, 958139571, 1322822218, 1537002063, 1747873779, 1955562222, 2024104815, 2227730452, 2361852424, 2428436474, 2756734187, 3204031479, 3329325298] : List Int) wN slTy_67 ?_
 intro d e j f g
 have h := (Ch.base a).extk f
 refine aw (vs d ([1116352408, 1899447441, 3049323471, 3921009573, 961987163, 1508970993, 2453635748, 2870763221, 3624381080, 310598401, 607225278, 1426881987, 1925078388, 2162078206, 2614888103, 3248222580, 3835390401, 4022224774, 264347078, 604807628, 770255983, 1249150122, 1555081692, 1996064986, 2554220882, 2821834349, 2952996808, 3210313671, 3336571891, 3584528711, 113926993, 338241895, 666307205, 773529912, 1294757372, 1396182291, 1695183700, 1986661051, 2177026350, 2456956037, 2730485921, 2820302411, 3259730800, 3345764771, 3516065817, 3600352804, 4094571909, 275423344, 430227734, 506948616, 659060556, 883997877, 958139571, 1322822218, 1537002063, 1747873779, 1955562222, 2024104815, 2227730452, 2361852424, 2428436474, 2756734187, 3204031479, 3329325298] : List Int).length e) ?_
 refine n3 ?_
 refine rt (vs d ([1116352408, 1899447441, 3049323471, 3921009573, 961987163, 1508970993, 2453635748, 2870763221, 3624381080, 310598401, 607225278, 1426881987, 1925078388, 2162078206, 2614888103, 3248222580, 3835390401, 4022224774, 264347078, 604807628, 770255983, 1249150122, 1555081692, 1996064986, 2554220882, 2821834349, 2952996808, 3210313671, 3336571891, 3584528711, 113926993, 338241895, 666307205, 773529912, 1294757372, 1396182291, 1695183700, 1986661051, 2177026350, 2456956037, 2730485921, 2820302411, 3259730800, 3345764771, 3516065817, 3600352804, 4094571909, 275423344, 430227734, 506948616, 659060556, 883997877, 958139571, 1322822218, 1537002063, 1747873779, 1955562222, 2024104815, 2227730452, 2361852424, 2428436474, 2756734187, 3204031479, 3329325298] : List Int).length e) ?_
 refine ⟨h.keep0, ?_⟩
 have i : kw = ([1116352408, 1899447441, 3049323471, 3921009573, 961987163, 1508970993, 2453635748, 2870763221, 3624381080, 310598401, 607225278, 1426881987, 1925078388, 2162078206, 2614888103, 3248222580, 3835390401, 4022224774, 264347078, 604807628, 770255983, 1249150122, 1555081692, 1996064986, 2554220882, 2821834349, 2952996808, 3210313671, 3336571891, 3584528711, 113926993, 338241895, 666307205, 773529912, 1294757372, 1396182291, 1695183700, 1986661051, 2177026350, 2456956037, 2730485921, 2820302411, 3259730800, 3345764771, 3516065817, 3600352804, 4094571909, 275423344, 430227734, 506948616, 659060556, 883997877, 958139571, 1322822218, 1537002063, 1747873779, 1955562222, 2024104815, 2227730452, 2361852424, 2428436474, 2756734187, 3204031479, 3329325298] : List Int) := by rfl
 rw [i]
 exact ⟨_, _, rfl, g, (by simp), ⟨trivial, trivial⟩⟩

theorem csGetN (e : World) (t : Value) (b : List UInt8) (A : R_22 e t b) (a : Int) (d : Int)  : Fn Try.prog 114 #[t, (vi a), (vi d)] e (fun v m => Keep e m ∧ O_3_3_4 m e.heap.size v (getN3 b a d)) := by
 obtain ⟨j, l, rfl, s, K⟩ := A
 refine fn_ofS (n := 48) [(vs j b.length l), (vi a), (vi d)] Try.func114 rfl rfl ?_
 refine sr ?_
 refine aw (vi 0) ?_
 refine aw (vi 0) ?_
 refine aw (vb false) ?_
 refine n4 ?_
 refine jT1 [(0, (vs j b.length l)), (1, (vi a)), (2, (vi d)), (6, (vi 0)), (7, (vi 0)), (8, (vb false))] (getN3 b a d = (0, 0, false)) ?_ fun q => ?_
 ·intro B w C L
  have D := (Ch.base e).extk C
  refine sr ?_
  refine aw (vi 0) ?_
  refine aw (vi 0) ?_
  refine aw (vb false) ?_
  refine n1 ?_
  refine ret_3 (.inl rfl) (vi 0) (vi 0) (vb false) rfl rfl rfl rfl ?_
  refine ⟨D.keep0, ?_⟩
  rw [B]
  exact rfl
 refine mw (vi d) ?_
 refine pu (vb (decide (d < 1))) wN ?_
 refine mw (vb (decide (d < 1))) ?_
 rcases bt (decide (d < 1)) with g | g
 ·have M := dT g
  iterate 2 refine sk g ?_
  refine pk (vb true) wN g ?_
  refine mw (vb true) ?_
  iterate 2 refine sk (Eq.refl true) ?_
  refine pk (vb true) wN (Eq.refl true) ?_
  refine mw (vb true) ?_
  iterate 6 refine sk (Eq.refl true) ?_
  refine pk (vb true) wN (Eq.refl true) ?_
  refine n2 ?_
  refine ct (Eq.refl true) ?_
  have E : getN3 b a d = (0, 0, false) := by first | exact getN3_f (by omega) | exact getN3_s (by omega) (by omega) (by omega) (by omega)
  exact wj (q E _ (Ch.refl _ _))
 have N := dF g
 refine mv (vi d) (wS g) ?_
 refine pu (vb (decide (6 < d))) (wS g) ?_
 refine pf (vb (decide (6 < d))) wN g ?_
 refine mw (vb (decide (6 < d))) ?_
 rcases bt (decide (6 < d)) with h | h
 ·have O := dT h
  iterate 2 refine sk h ?_
  refine pk (vb true) wN h ?_
  refine mw (vb true) ?_
  iterate 6 refine sk (Eq.refl true) ?_
  refine pk (vb true) wN (Eq.refl true) ?_
  refine n2 ?_
  refine ct (Eq.refl true) ?_
  have F : getN3 b a d = (0, 0, false) := by first | exact getN3_f (by omega) | exact getN3_s (by omega) (by omega) (by omega) (by omega)
  exact wj (q F _ (Ch.refl _ _))
 have P := dF h
 refine mv (vi a) (wS h) ?_
 refine pu (vb (decide (a < 0))) (wS h) ?_
 refine pf (vb (decide (a < 0))) wN h ?_
 refine mw (vb (decide (a < 0))) ?_
 rcases bt (decide (a < 0)) with f | f
 ·have Q := dT f
  iterate 6 refine sk f ?_
  refine pk (vb true) wN f ?_
  refine n2 ?_
  refine ct (Eq.refl true) ?_
  have G : getN3 b a d = (0, 0, false) := by first | exact getN3_f (by omega) | exact getN3_s (by omega) (by omega) (by omega) (by omega)
  exact wj (q G _ (Ch.refl _ _))
 have R := dF f
 refine mv (vi a) (wS f) ?_
 refine mv (vs j b.length l) (wS f) ?_
 refine ln (wS f) slTy_22 s ?_
 refine mv (vi d) (wS f) ?_
 refine ar ((b.length : Int) - d) (wS f) ?_
 refine pu (vb (decide (((b.length : Int) - d) < a))) (wS f) ?_
 refine pf (vb (decide (((b.length : Int) - d) < a))) wN f ?_
 refine n2 ?_
 rcases bt (decide (((b.length : Int) - d) < a)) with o | o
 ·have S := dT o
  refine ct o ?_
  have H : getN3 b a d = (0, 0, false) := by first | exact getN3_f (by omega) | exact getN3_s (by omega) (by omega) (by omega) (by omega)
  exact wj (q H _ (Ch.refl _ _))
 have T := dF o
 refine cf o ?_
 refine y1 ?_
 refine aw (vi 0) ?_
 refine n4 ?_
 refine aw (vi 0) ?_
 refine wl_nil <| wq_then <| wc_block ?_
 refine wc_loopP [(0, (vs j b.length l)), (1, (vi a)), (2, (vi d)), (6, (vi 0)), (7, (vi 0)), (8, (vb false)), (9, (vi (getV ((b.drop a.toNat).take 0) 0))), (10, (vi ((0 : Nat) : Int)))] ⟨rfl, rfl, rfl, rfl, rfl, rfl, (cA (Value.int .i64) (show (0 : Int) = (getV ((b.drop a.toNat).take 0) 0) by rfl)), (cA (Value.int .i64) (show (0 : Int) = ((0 : Nat) : Int) by omega)), trivial⟩ (fun e' m => ∃ (i : Nat) (y : Env), e' = pt y [(0, (vs j b.length l)), (1, (vi a)), (2, (vi d)), (6, (vi 0)), (7, (vi 0)), (8, (vb false)), (9, (vi (getV ((b.drop a.toNat).take i) 0))), (10, (vi ((i : Nat) : Int)))] ∧ Ch (fun k => e.heap.size ≤ k) e m ∧ Ch (fun k => e.heap.size ≤ k) e m ∧ ((i : Nat) : Int) ≤ d) (fun e' _ => (d - (intOf (e' 10))).toNat) ?_ ?_
 ·exact fun u => ⟨0, u, rfl, (Ch.base e), (Ch.refl (fun k => e.heap.size ≤ k) e), (by omega)⟩
 ·rintro _ w ⟨i, y, rfl, r, I, V⟩
  have hgb := getV_b6 (b.drop a.toNat) i (by omega)
  have W : (b.getD (a + ((i : Nat) : Int)).toNat 0).toNat < 256 := UInt8.toNat_lt _
  refine wc_seq <| sr ?_
  refine mw (vi ((i : Nat) : Int)) ?_
  refine mw (vi d) ?_
  refine pu (vb (decide (((i : Nat) : Int) < d))) wN ?_
  refine n2 ?_
  rcases bf (decide (((i : Nat) : Int) < d)) with p | p
  ·have X := dF p
   refine cf p ?_
   refine wc_exit <| wq_then_exit <| wq_then_exit <| wq_blk_exit <| wq_then <| sr ?_
   refine mw (vi (getV ((b.drop a.toNat).take i) 0)) ?_
   refine mw (vi a) ?_
   refine mw (vi d) ?_
   refine ar (a + d) wN ?_
   refine aw (vi (getV ((b.drop a.toNat).take i) 0)) ?_
   refine aw (vi (a + d)) ?_
   refine aw (vb true) ?_
   refine n3 ?_
   refine ret_3 (.inl rfl) (vi (getV ((b.drop a.toNat).take i) 0)) (vi (a + d)) (vb true) rfl rfl rfl rfl ?_
   refine ⟨r.keep0, ?_⟩
   have J : getN3 b a d = ((getV ((b.drop a.toNat).take i) 0), (a + d), true) := by first | exact getN3_f (by omega) | exact getN3_s (by omega) (by omega) (by omega) (by omega)
   rw [J]
   exact rfl
  have Y := dT p
  refine ct p ?_
  refine wc_skip <| wq_then <| wc_seq <| wc_block <| wc_region ?_
  refine mw (vi (getV ((b.drop a.toNat).take i) 0)) ?_
  refine ar ((getV ((b.drop a.toNat).take i) 0) * 256) wN ?_
  refine mw (vs j b.length l) ?_
  refine mw (vi a) ?_
  refine mw (vi ((i : Nat) : Int)) ?_
  refine ar (a + ((i : Nat) : Int)) wN ?_
  refine ix wN (a + ((i : Nat) : Int)) slTy_22 (s.from0 r) ?_
  refine eb (x := b) (((a + ((i : Nat) : Int))).toNat) wN isAgg_5 (s.from0 r) ?_
  refine ar ((b.getD ((a + ((i : Nat) : Int))).toNat 0).toNat : Int) wN ?_
  refine ar (((getV ((b.drop a.toNat).take i) 0) * 256) + ((b.getD ((a + ((i : Nat) : Int))).toNat 0).toNat : Int)) wN ?_
  refine aw (vi (((getV ((b.drop a.toNat).take i) 0) * 256) + ((b.getD ((a + ((i : Nat) : Int))).toNat 0).toNat : Int))) ?_
  refine wl_nil <| wq_blk_normal <| wq_then <| wc_region ?_
  refine mw (vi ((i : Nat) : Int)) ?_
  refine ar (((i : Nat) : Int) + 1) wN ?_
  refine aw (vi (((i : Nat) : Int) + 1)) ?_
  refine wl_nil ?_
  refine wq_loopP (w0 := w) [(0, (vs j b.length l)), (1, (vi a)), (2, (vi d)), (6, (vi 0)), (7, (vi 0)), (8, (vb false)), (9, (vi (getV ((b.drop a.toNat).take (i + 1)) 0))), (10, (vi (((i + 1) : Nat) : Int)))] ?_ ?_ ?_
  · exact ⟨rfl, rfl, rfl, rfl, rfl, rfl, (cA (Value.int .i64) (show ((((getV ((b.drop a.toNat).take i) 0) * 256) + ((b.getD ((a + ((i : Nat) : Int))).toNat 0).toNat : Int)) : Int) = (getV ((b.drop a.toNat).take (i + 1)) 0) by exact getV_nexts (by omega) (by omega))), (cA (Value.int .i64) (show ((((i : Nat) : Int) + 1) : Int) = (((i + 1) : Nat) : Int) by omega)), trivial⟩
  · exact fun u => ⟨(i + 1), u, rfl, r, ((Ch.refl (fun k => e.heap.size ≤ k) e).ext I (fun k hk => hk)), (by omega)⟩
  · show (d - (((i + 1) : Nat) : Int)).toNat < (d - ((i : Nat) : Int)).toNat; omega

theorem csRot (i : World) (e : Int) (d : Int) (x : 1 ≤ d) (y : d ≤ 31) : Fn Try.prog 111 #[(vi e), (vi d)] i (fun v l => Keep i l ∧ O_3 l i.heap.size v (rot e d)) := by
 refine fn_ofS (n := 24) [(vi e), (vi d)] Try.func111 rfl rfl ?_
 refine sr ?_
 refine aw (vi 0) ?_
 refine nx ?_
 refine mw (vi e) ?_
 refine wl_and e 4294967295 4294967296 32 wN rfl rfl (by decide) (by decide) (by decide) (by kernel_rfl) ?_
 refine aw (vi (e % 4294967296)) ?_
 refine n4 ?_
 refine jT1 [(1, (vi d)), (4, (vi 0)), (5, (vi (e % 4294967296)))] (rot e d = (e % 4294967296)) ?_ fun m => ?_
 ·intro o f p A
  have q := (Ch.base i).extk p
  refine sr ?_
  refine mw (vi (e % 4294967296)) ?_
  refine aw (vi (e % 4294967296)) ?_
  refine n1 ?_
  refine rt (vi (e % 4294967296)) ?_
  refine ⟨q.keep0, ?_⟩
  rw [o]
  exact rfl
 refine mw (vi d) ?_
 refine pu (vb (decide (d < 1))) wN ?_
 refine mw (vb (decide (d < 1))) ?_
 rcases bt (decide (d < 1)) with g | g
 ·have B := dT g
  iterate 2 refine sk g ?_
  refine pk (vb true) wN g ?_
  refine n2 ?_
  refine ct (Eq.refl true) ?_
  have r : rot e d = (e % 4294967296) := by first | rfl | (exfalso; omega)
  exact wj (m r _ (Ch.refl _ _))
 have C := dF g
 refine mv (vi d) (wS g) ?_
 refine pu (vb (decide (31 < d))) (wS g) ?_
 refine pf (vb (decide (31 < d))) wN g ?_
 refine n2 ?_
 rcases bt (decide (31 < d)) with j | j
 ·have D := dT j
  refine ct j ?_
  have s : rot e d = (e % 4294967296) := by first | rfl | (exfalso; omega)
  exact wj (m s _ (Ch.refl _ _))
 have E := dF j
 refine cf j ?_
 refine wc_skip <| wq_then <| wc_seq ?_
 refine wc_drawT ([(15, [], [], (fun _ v _ => v = (vi (e % 4294967296)))), (16, [], [], (fun _ v _ => v = (vi d))), (17, [], [0, 1], (fun _ v _ => v = (vi ((e % 4294967296) / (2 : Int) ^ (d).toNat)))), (18, [], [], (fun _ v _ => v = (vi (e % 4294967296)))), (19, [], [], (fun _ v _ => v = (vi d))), (20, [], [4], (fun _ v _ => v = (vi (32 - d)))), (21, [], [3, 4, 5], (fun _ v _ => v = (vi ((e % 4294967296) * (2 : Int) ^ ((32 - d)).toNat))))] : GV) (fun _ l => Keep i l) [] mixed rfl (by kernel_rfl) (by kernel_rfl) ?_ (fun _ _ h => h) (fun _ _ _ _ h _ k => h.trans k) trivial ?_ ?_ ?_
 ·exact ⟨hV, hE, ⟨hV, hE, ⟨hV, hE, ⟨hV, hE, ⟨hV, hE, ⟨hV, hE, ⟨hV, hE, trivial⟩⟩⟩⟩⟩⟩⟩
 ·exact trivial
 ·refine ⟨?_, ⟨?_, ⟨?_, ⟨?_, ⟨?_, ⟨?_, ⟨?_, trivial⟩⟩⟩⟩⟩⟩⟩
  ·intro _ f F _
   rintro _ _ _ _ _ _ _
   show WL _ _ _ _ _ _ _
   refine mw (vi (e % 4294967296)) ?_
   exact f1
  ·intro _ f G _
   rintro _ _ _ _ _ _ _
   show WL _ _ _ _ _ _ _
   refine mw (vi d) ?_
   exact f1
  ·intro _ f H _
   rintro _ rfl _ rfl _ _ _ _ _
   show WL _ _ _ _ _ _ _
   refine wl_shr (e % 4294967296) d wN rfl rfl rfl rfl rfl (by omega) (by omega) ?_
   have I := shr_b (a := (e % 4294967296)) (by omega) (d).toNat
   exact f1
  ·intro _ f J _
   rintro _ _ _ _ _ _ _
   show WL _ _ _ _ _ _ _
   refine mw (vi (e % 4294967296)) ?_
   exact f1
  ·intro _ f K _
   rintro _ _ _ _ _ _ _
   show WL _ _ _ _ _ _ _
   refine mw (vi d) ?_
   exact f1
  ·intro _ f L _
   rintro _ _ _ _ _ rfl _ _
   show WL _ _ _ _ _ _ _
   refine ar (32 - d) wN ?_
   exact f1
  ·intro _ f M _
   rintro _ _ _ _ rfl _ rfl _ rfl _
   show WL _ _ _ _ _ _ _
   refine wl_shl (e % 4294967296) (32 - d) wN rfl rfl rfl rfl rfl (by omega) (by omega) (by omega) (by omega) ?_
   have N := shl_b (a := (e % 4294967296)) (n := ((32 - d)).toNat) (by omega) (by omega) (by omega)
   exact f1
 ·intro _ f t
  have u := (Ch.base i).extk t
  rintro _ rfl _ rfl _ rfl
  have O := shr_b (a := (e % 4294967296)) (by omega) (d).toNat
  rintro _ rfl _ rfl _ rfl _ rfl
  have P := shl_b (a := (e % 4294967296)) (n := ((32 - d)).toNat) (by omega) (by omega) (by omega)
  show WL _ _ _ _ _ _ _
  refine wl_or ((e % 4294967296) / (2 : Int) ^ (d).toNat) ((e % 4294967296) * (2 : Int) ^ ((32 - d)).toNat) wN rfl rfl (by kernel_rfl) (by omega) (by omega) (by omega) (by omega) ?_
  have Q := orI_p (a := ((e % 4294967296) / (2 : Int) ^ (d).toNat)) (b := ((e % 4294967296) * (2 : Int) ^ ((32 - d)).toNat)) (by omega) (by omega)
  refine wl_and (orI ((e % 4294967296) / (2 : Int) ^ (d).toNat) ((e % 4294967296) * (2 : Int) ^ ((32 - d)).toNat)) 4294967295 4294967296 32 wN rfl rfl (by decide) (by decide) (by decide) (by kernel_rfl) ?_
  refine aw (vi ((orI ((e % 4294967296) / (2 : Int) ^ (d).toNat) ((e % 4294967296) * (2 : Int) ^ ((32 - d)).toNat)) % 4294967296)) ?_
  refine n3 ?_
  refine rt (vi ((orI ((e % 4294967296) / (2 : Int) ^ (d).toNat) ((e % 4294967296) * (2 : Int) ^ ((32 - d)).toNat)) % 4294967296)) ?_
  refine ⟨u.keep0, ?_⟩
  have w : rot e d = ((orI ((e % 4294967296) / (2 : Int) ^ (d).toNat) ((e % 4294967296) * (2 : Int) ^ ((32 - d)).toNat)) % 4294967296) := by first | rfl | (exfalso; omega)
  rw [w]
  exact rfl

theorem csSchedule (o : World) (ad : Value) (d : List UInt8) (a0 : R_22 o ad d)  : Fn Try.prog 110 #[ad] o (fun v s => Keep o s ∧ O_67 s o.heap.size v (schedP d)) := by
 obtain ⟨x, D, rfl, ae, a1⟩ := a0
 refine fn_ofS (n := 84) [(vs x d.length D)] Try.func110 rfl rfl ?_
 refine sr ?_
 refine aw (vs none 0 0) ?_
 refine nx ?_
 refine wl_lit0 wN rfl rfl slTy_67 (fun w => by kernel_rfl) ?_
 intro E J S af
 have T := (Ch.base o).extk S
 refine aw (vs (some E) 0 0) ?_
 refine n4 ?_
 refine mw (vs x d.length D) ?_
 refine ln wN slTy_22 (ae.from0 T) ?_
 refine pu (vb (!(decide ((d.length : Int) = 64)))) wN ?_
 refine n2 ?_
 rcases bf (decide ((d.length : Int) = 64)) with F | F
 ·have aZ := dF F
  refine ct (cA not F) ?_
  refine sr ?_
  refine mw (vs (some E) 0 0) ?_
  refine aw (vs (some E) 0 0) ?_
  refine n1 ?_
  refine rt (vs (some E) 0 0) ?_
  refine ⟨T.keep0, ?_⟩
  have a2 : schedP d = [] := by first | exact schedP_f (by omega) | exact schedP_u (by omega) (by omega) (by omega)
  rw [a2]
  exact ⟨_, _, rfl, af, (by simp), ⟨trivial, trivial⟩⟩
 have ba := dT F
 refine cf (cA not F) ?_
 refine y2 ?_
 refine aw (vi 0) ?_
 refine wl_nil <| wq_then <| wc_block ?_
 have ah : ([] : List Int) = sched16 d 0 := by rfl
 have ai : 0 = (sched16 d 0).length := by rw [← ah]; try (first | rfl | simp only [List.length_set] | simp)
 refine wc_loopP [(0, (vs x d.length D)), (2, (vs none 0 0)), (3, (.slice (some E) (sched16 d 0).length 0)), (4, (vi ((0 : Nat) : Int)))] ⟨rfl, rfl, rfl, (cA (Value.int .i64) (show (0 : Int) = ((0 : Nat) : Int) by omega)), trivial⟩ (fun e' s => ∃ (k : Nat) (aj : Env) (i : Option Addr) (j : Nat), e' = pt aj [(0, (vs x d.length D)), (2, (vs none 0 0)), (3, (.slice i (sched16 d k).length j)), (4, (vi ((k : Nat) : Int)))] ∧ Ch (fun k => o.heap.size ≤ k) o s ∧ Ch (fun k => o.heap.size ≤ k) J s ∧ k ≤ 16 ∧ (World.ownsRow s o.heap.size 3 1 (.slice i (sched16 d k).length j) (sched16 d k).length ((sched16 d k).map iV) ∧ (sched16 d k).length ≤ 1073741824)) (fun e' _ => (16 - (intOf (e' 4))).toNat) ?_ ?_
 ·exact fun u => ⟨0, u, (some E), 0, rfl, T, (Ch.refl (fun k => o.heap.size ≤ k) J), (by omega), ⟨(by rw [← ai, ← ah]; exact af), (by rw [← ai]; first | exact (by simp) | (simp only [List.length_append, List.length_take, List.length_replicate]; omega))⟩⟩
 ·rintro _ G ⟨k, aj, i, j, rfl, V, W, bb, ⟨K, a3⟩⟩
  have hsl := sched16_len d k
  refine wc_seq <| sr ?_
  refine mw (vi ((k : Nat) : Int)) ?_
  refine pu (vb (decide (((k : Nat) : Int) < 16))) wN ?_
  refine n2 ?_
  rcases bt (decide (((k : Nat) : Int) < 16)) with H | H
  ·have bc := dT H
   refine ct H ?_
   refine wc_skip <| wq_then <| wc_seq <| wc_block <| sr ?_
   refine mw (vs x d.length D) ?_
   refine mw (vi ((k : Nat) : Int)) ?_
   refine ar (4 * ((k : Nat) : Int)) wN ?_
   refine cl wN (csGetN G _ d (mR_22 (ae.from0 V) a1) (4 * ((k : Nat) : Int)) 4) ?_
   rintro _ X ⟨L, rfl⟩
   refine mw (.tuple #[(vi ((getN3 d (4 * ((k : Nat) : Int)) 4).1)), (vi ((getN3 d (4 * ((k : Nat) : Int)) 4).2.1)), (vb ((getN3 d (4 * ((k : Nat) : Int)) 4).2.2))]) ?_
   refine pu (vi ((getN3 d (4 * ((k : Nat) : Int)) 4).1)) wN ?_
   refine pu (vi ((getN3 d (4 * ((k : Nat) : Int)) 4).2.1)) wN ?_
   refine pu (vb ((getN3 d (4 * ((k : Nat) : Int)) 4).2.2)) wN ?_
   refine aw (vi ((getN3 d (4 * ((k : Nat) : Int)) 4).1)) ?_
   refine aw (vi ((getN3 d (4 * ((k : Nat) : Int)) 4).2.1)) ?_
   refine aw (vb ((getN3 d (4 * ((k : Nat) : Int)) 4).2.2)) ?_
   refine wl_nil <| wq_then <| wc_region ?_
   refine mw (vs i (sched16 d k).length j) ?_
   refine mw (vi ((getN3 d (4 * ((k : Nat) : Int)) 4).1)) ?_
   refine ltI ([(getN3 d (4 * ((k : Nat) : Int)) 4).1] : List Int) wN slTy_67 ?_
   intro bd be ak M a4
   have a5 := (own_kp (own_kp K L) M)
   refine apI (sched16 d k) ([(getN3 d (4 * ((k : Nat) : Int)) 4).1] : List Int) wN slTy_67 a5 (Rd.of_own a4) (z4 S W L M) ?_
   intro N O am an a6 bg a7
   have a8 := ((V.extk L).extk M).ext an (fun k hk => nT (Nat.le_refl o.heap.size) (own_lt K k hk).1)
   refine aw (vs N ((sched16 d k) ++ ([(getN3 d (4 * ((k : Nat) : Int)) 4).1] : List Int)).length O) ?_
   refine wl_nil <| wq_blk_normal <| wq_then <| wc_region ?_
   refine mw (vi ((k : Nat) : Int)) ?_
   refine ar (((k : Nat) : Int) + 1) wN ?_
   refine aw (vi (((k : Nat) : Int) + 1)) ?_
   refine wl_nil ?_
   have ao : (((sched16 d k) ++ ([(getN3 d (4 * ((k : Nat) : Int)) 4).1] : List Int)) : List Int) = sched16 d (k + 1) := by exact sched16_app (by omega) (by omega)
   refine wq_loopP (w0 := G) [(0, (vs x d.length D)), (2, (vs none 0 0)), (3, (.slice N (sched16 d (k + 1)).length O)), (4, (vi (((k + 1) : Nat) : Int)))] ?_ ?_ ?_
   · exact ⟨rfl, rfl, (cA (fun l : List Int => Value.slice N l.length O) ao), (cA (Value.int .i64) (show ((((k : Nat) : Int) + 1) : Int) = (((k + 1) : Nat) : Int) by omega)), trivial⟩
   · exact fun u => ⟨(k + 1), u, N, O, rfl, a8, (((((Ch.refl (fun k => o.heap.size ≤ k) J).ext W (fun k hk => hk)).extk L).extk M).ext an (fun k hk => nT (Nat.le_refl o.heap.size) (own_lt K k hk).1)), (by omega), (ao ▸ ⟨a6, a7⟩)⟩
   · show (16 - (((k + 1) : Nat) : Int)).toNat < (16 - ((k : Nat) : Int)).toNat; omega
  have bh := dF H
  refine cf H ?_
  refine wc_exit <| wq_then_exit ?_
  obtain rfl : k = 16 := by omega
  refine wq_then_exit <| wq_blk_exit <| wq_then <| wc_seq <| sr ?_
  refine aw (vi 16) ?_
  refine wl_nil <| wq_then <| wc_block ?_
  have ap : ((sched16 d 16) : List Int) = schedN d 0 := by rfl
  refine wc_loopP [(2, (vs none 0 0)), (3, (.slice i (schedN d 0).length j)), (8, (vi (16 + ((0 : Nat) : Int))))] ⟨rfl, (cA (fun l : List Int => Value.slice i l.length j) ap), (cA (Value.int .i64) (show (16 : Int) = (16 + ((0 : Nat) : Int)) by omega)), trivial⟩ (fun e' s => ∃ (m : Nat) (aq : Env) (i : Option Addr) (j : Nat), e' = pt aq [(2, (vs none 0 0)), (3, (.slice i (schedN d m).length j)), (8, (vi (16 + ((m : Nat) : Int))))] ∧ Ch (fun k => o.heap.size ≤ k) o s ∧ Ch (fun k => o.heap.size ≤ k) G s ∧ m ≤ 48 ∧ (World.ownsRow s o.heap.size 3 1 (.slice i (schedN d m).length j) (schedN d m).length ((schedN d m).map iV) ∧ (schedN d m).length ≤ 1073741824)) (fun e' _ => (64 - (intOf (e' 8))).toNat) ?_ ?_
  ·exact fun u => ⟨0, u, i, j, rfl, V, (Ch.refl (fun k => o.heap.size ≤ k) G), (by omega), (ap ▸ ⟨K, a3⟩)⟩
  ·rintro _ X ⟨m, aq, i, j, rfl, au, av, bi, ⟨t, a9⟩⟩
   have hsl := schedN_len d m
   obtain ⟨p, Y⟩ : ∃ z, (schedN d m).getD (((16 + ((m : Nat) : Int)) - 7)).toNat 0 = z := ⟨_, rfl⟩
   have bj : 0 ≤ p ∧ p < 4294967296 := Y ▸ wget (schedN_w d m) (((16 + ((m : Nat) : Int)) - 7)).toNat
   obtain ⟨q, Z⟩ : ∃ z, (schedN d m).getD (((16 + ((m : Nat) : Int)) - 16)).toNat 0 = z := ⟨_, rfl⟩
   have bk : 0 ≤ q ∧ q < 4294967296 := Z ▸ wget (schedN_w d m) (((16 + ((m : Nat) : Int)) - 16)).toNat
   obtain ⟨f, aa⟩ : ∃ z, (schedN d m).getD (((16 + ((m : Nat) : Int)) - 15)).toNat 0 = z := ⟨_, rfl⟩
   have bl : 0 ≤ f ∧ f < 4294967296 := aa ▸ wget (schedN_w d m) (((16 + ((m : Nat) : Int)) - 15)).toNat
   obtain ⟨g, ab⟩ : ∃ z, (schedN d m).getD (((16 + ((m : Nat) : Int)) - 2)).toNat 0 = z := ⟨_, rfl⟩
   have bm : 0 ≤ g ∧ g < 4294967296 := ab ▸ wget (schedN_w d m) (((16 + ((m : Nat) : Int)) - 2)).toNat
   refine wc_seq <| sr ?_
   refine mw (vi (16 + ((m : Nat) : Int))) ?_
   refine pu (vb (decide ((16 + ((m : Nat) : Int)) < 64))) wN ?_
   refine n2 ?_
   rcases bf (decide ((16 + ((m : Nat) : Int)) < 64)) with I | I
   ·have bn := dF I
    refine cf I ?_
    refine wc_exit <| wq_then_exit <| wq_then_exit <| wq_blk_exit <| wq_then <| sr ?_
    refine mw (vs i (schedN d m).length j) ?_
    refine aw (vs i (schedN d m).length j) ?_
    refine n3 ?_
    refine rt (vs i (schedN d m).length j) ?_
    refine ⟨au.keep0, ?_⟩
    have aA : schedP d = (schedN d m) := by first | exact schedP_f (by omega) | exact schedP_u (by omega) (by omega) (by omega)
    rw [aA]
    exact ⟨_, _, rfl, t, a9, ⟨trivial, trivial⟩⟩
   have bo := dT I
   refine ct I ?_
   refine wc_skip <| wq_then <| wc_seq <| wc_block <| sr ?_
   refine mw (vs i (schedN d m).length j) ?_
   refine mw (vi (16 + ((m : Nat) : Int))) ?_
   refine ar ((16 + ((m : Nat) : Int)) - 15) wN ?_
   refine ix wN ((16 + ((m : Nat) : Int)) - 15) slTy_67 (Rd.of_own t) ?_
   refine wl_loadE (iV f) wN rfl rfl rfl rfl isAgg_3 (Rd.of_own t) (by rw [← aa]; exact iget (by simp) (by first | omega | (simp <;> omega))) ?_
   refine aw (vi f) ?_
   refine nx ?_
   refine mw (vs i (schedN d m).length j) ?_
   refine mw (vi (16 + ((m : Nat) : Int))) ?_
   refine ar ((16 + ((m : Nat) : Int)) - 2) wN ?_
   refine ix wN ((16 + ((m : Nat) : Int)) - 2) slTy_67 (Rd.of_own t) ?_
   refine wl_loadE (iV g) wN rfl rfl rfl rfl isAgg_3 (Rd.of_own t) (by rw [← ab]; exact iget (by simp) (by first | omega | (simp <;> omega))) ?_
   refine aw (vi g) ?_
   refine nx ?_
   refine mw (vi f) ?_
   refine cl wN (csRot X f 7 (by omega) (by omega)) ?_
   rintro _ ak ⟨y, rfl⟩
   have bp := rot_b f 7
   refine mw (vi f) ?_
   refine cl wN (csRot ak f 18 (by omega) (by omega)) ?_
   rintro _ am ⟨A, rfl⟩
   have aB := (au.extk y).extk A
   have bq := rot_b f 18
   refine wl_xor (rot f 7) (rot f 18) wN rfl rfl (by kernel_rfl) (by omega) (by omega) (by omega) (by omega) ?_
   have br := xorI_b (a := (rot f 7)) (b := (rot f 18)) (by omega) (by omega)
   refine mw (vi f) ?_
   refine wl_shrU f (3 : Int) wN rfl rfl rfl rfl rfl (by omega) (by omega) ?_
   have bu := shr_b (a := f) (by omega) ((3 : Int)).toNat
   refine wl_xor (xorI (rot f 7) (rot f 18)) (f / (2 : Int) ^ ((3 : Int)).toNat) wN rfl rfl (by kernel_rfl) (by omega) (by omega) (by omega) (by omega) ?_
   have bv := xorI_b (a := (xorI (rot f 7) (rot f 18))) (b := (f / (2 : Int) ^ ((3 : Int)).toNat)) (by omega) (by omega)
   refine aw (vi (xorI (xorI (rot f 7) (rot f 18)) (f / (2 : Int) ^ ((3 : Int)).toNat))) ?_
   refine nx ?_
   refine mw (vi g) ?_
   refine cl wN (csRot am g 17 (by omega) (by omega)) ?_
   rintro _ aC ⟨B, rfl⟩
   have bw := rot_b g 17
   refine mw (vi g) ?_
   refine cl wN (csRot aC g 19 (by omega) (by omega)) ?_
   rintro _ ax ⟨C, rfl⟩
   have aD := (aB.extk B).extk C
   have bz := rot_b g 19
   refine wl_xor (rot g 17) (rot g 19) wN rfl rfl (by kernel_rfl) (by omega) (by omega) (by omega) (by omega) ?_
   have b0 := xorI_b (a := (rot g 17)) (b := (rot g 19)) (by omega) (by omega)
   refine mw (vi g) ?_
   refine wl_shrU g (10 : Int) wN rfl rfl rfl rfl rfl (by omega) (by omega) ?_
   have b1 := shr_b (a := g) (by omega) ((10 : Int)).toNat
   refine wl_xor (xorI (rot g 17) (rot g 19)) (g / (2 : Int) ^ ((10 : Int)).toNat) wN rfl rfl (by kernel_rfl) (by omega) (by omega) (by omega) (by omega) ?_
   have b2 := xorI_b (a := (xorI (rot g 17) (rot g 19))) (b := (g / (2 : Int) ^ ((10 : Int)).toNat)) (by omega) (by omega)
   refine aw (vi (xorI (xorI (rot g 17) (rot g 19)) (g / (2 : Int) ^ ((10 : Int)).toNat))) ?_
   refine n2 ?_
   refine wc_drawT ([(64, [], [], (fun _ v _ => v = (vs i (schedN d m).length j))), (65, [], [], (fun _ v _ => v = (vs i (schedN d m).length j))), (66, [], [], (fun _ v _ => v = (vi (16 + ((m : Nat) : Int))))), (67, [], [2], (fun _ v _ => v = (vi ((16 + ((m : Nat) : Int)) - 7)))), (68, [], [1, 2, 3], (fun _ v _ => v = (ve (vs i (schedN d m).length j) ((((16 + ((m : Nat) : Int)) - 7)).toNat * 1)))), (69, [], [1, 2, 3, 4], (fun _ v _ => v = (vi p))), (70, [], [], (fun _ v _ => v = (vs i (schedN d m).length j))), (71, [], [], (fun _ v _ => v = (vi (16 + ((m : Nat) : Int))))), (72, [], [7], (fun _ v _ => v = (vi ((16 + ((m : Nat) : Int)) - 16)))), (73, [], [6, 7, 8], (fun _ v _ => v = (ve (vs i (schedN d m).length j) ((((16 + ((m : Nat) : Int)) - 16)).toNat * 1)))), (74, [], [6, 7, 8, 9], (fun _ v _ => v = (vi q))), (75, [], [1, 2, 3, 4, 5, 6, 7, 8, 9, 10], (fun _ v _ => v = (vi (p + q)))), (76, [], [], (fun _ v _ => v = (vi (xorI (xorI (rot f 7) (rot f 18)) (f / (2 : Int) ^ ((3 : Int)).toNat))))), (77, [], [1, 2, 3, 4, 5, 6, 7, 8, 9, 10, 11, 12], (fun _ v _ => v = (vi ((p + q) + (xorI (xorI (rot f 7) (rot f 18)) (f / (2 : Int) ^ ((3 : Int)).toNat)))))), (78, [], [], (fun _ v _ => v = (vi (xorI (xorI (rot g 17) (rot g 19)) (g / (2 : Int) ^ ((10 : Int)).toNat))))), (79, [], [1, 2, 3, 4, 5, 6, 7, 8, 9, 10, 11, 12, 13, 14], (fun _ v _ => v = (vi (((p + q) + (xorI (xorI (rot f 7) (rot f 18)) (f / (2 : Int) ^ ((3 : Int)).toNat))) + (xorI (xorI (rot g 17) (rot g 19)) (g / (2 : Int) ^ ((10 : Int)).toNat)))))), (80, [], [1, 2, 3, 4, 5, 6, 7, 8, 9, 10, 11, 12, 13, 14, 15], (fun _ v _ => v = (vi ((((p + q) + (xorI (xorI (rot f 7) (rot f 18)) (f / (2 : Int) ^ ((3 : Int)).toNat))) + (xorI (xorI (rot g 17) (rot g 19)) (g / (2 : Int) ^ ((10 : Int)).toNat))) % 4294967296)))), (81, [], [1, 2, 3, 4, 5, 6, 7, 8, 9, 10, 11, 12, 13, 14, 15, 16], (fun _ v w => ∃ (x : Option Addr) (ac : Nat), v = .slice x ([((((p + q) + (xorI (xorI (rot f 7) (rot f 18)) (f / (2 : Int) ^ ((3 : Int)).toNat))) + (xorI (xorI (rot g 17) (rot g 19)) (g / (2 : Int) ^ ((10 : Int)).toNat))) % 4294967296)] : List Int).length ac ∧ w.ownsRow ax.heap.size 3 1 (.slice x ([((((p + q) + (xorI (xorI (rot f 7) (rot f 18)) (f / (2 : Int) ^ ((3 : Int)).toNat))) + (xorI (xorI (rot g 17) (rot g 19)) (g / (2 : Int) ^ ((10 : Int)).toNat))) % 4294967296)] : List Int).length ac) ([((((p + q) + (xorI (xorI (rot f 7) (rot f 18)) (f / (2 : Int) ^ ((3 : Int)).toNat))) + (xorI (xorI (rot g 17) (rot g 19)) (g / (2 : Int) ^ ((10 : Int)).toNat))) % 4294967296)] : List Int).length (([((((p + q) + (xorI (xorI (rot f 7) (rot f 18)) (f / (2 : Int) ^ ((3 : Int)).toNat))) + (xorI (xorI (rot g 17) (rot g 19)) (g / (2 : Int) ^ ((10 : Int)).toNat))) % 4294967296)] : List Int).map iV) ∧ ([((((p + q) + (xorI (xorI (rot f 7) (rot f 18)) (f / (2 : Int) ^ ((3 : Int)).toNat))) + (xorI (xorI (rot g 17) (rot g 19)) (g / (2 : Int) ^ ((10 : Int)).toNat))) % 4294967296)] : List Int).length ≤ 1073741824 ∧ Aps [(x, ac)]))] : GV) (fun _ s => Keep ax s) [] mixed rfl (by kernel_rfl) (by kernel_rfl) ?_ (fun _ _ h => h) (fun _ _ _ _ h _ k => h.trans k) trivial ?_ ?_ ?_
   ·exact ⟨hV, hE, ⟨hV, hE, ⟨hV, hE, ⟨hV, hE, ⟨hV, hE, ⟨hV, hE, ⟨hV, hE, ⟨hV, hE, ⟨hV, hE, ⟨hV, hE, ⟨hV, hE, ⟨hV, hE, ⟨hV, hE, ⟨hV, hE, ⟨hV, hE, ⟨hV, hE, ⟨hV, hE, ⟨(fun e v w J h hk => by obtain ⟨aE, aF, he, aG, aH, hap⟩ := h; exact ⟨aE, aF, he, own_kp aG hk, aH, hap⟩), hE, trivial⟩⟩⟩⟩⟩⟩⟩⟩⟩⟩⟩⟩⟩⟩⟩⟩⟩⟩
   ·exact trivial
   ·refine ⟨?_, ⟨?_, ⟨?_, ⟨?_, ⟨?_, ⟨?_, ⟨?_, ⟨?_, ⟨?_, ⟨?_, ⟨?_, ⟨?_, ⟨?_, ⟨?_, ⟨?_, ⟨?_, ⟨?_, ⟨?_, trivial⟩⟩⟩⟩⟩⟩⟩⟩⟩⟩⟩⟩⟩⟩⟩⟩⟩⟩
    ·intro _ r b3 _
     rintro _ _ _ _ _ _ _ _ _ _ _ _ _ _ _ _ _ _
     show WL _ _ _ _ _ _ _
     refine mw (vs i (schedN d m).length j) ?_
     exact f1
    ·intro _ r b4 _
     rintro _ _ _ _ _ _ _ _ _ _ _ _ _ _ _ _ _ _
     show WL _ _ _ _ _ _ _
     refine mw (vs i (schedN d m).length j) ?_
     exact f1
    ·intro _ r b5 _
     rintro _ _ _ _ _ _ _ _ _ _ _ _ _ _ _ _ _ _
     show WL _ _ _ _ _ _ _
     refine mw (vi (16 + ((m : Nat) : Int))) ?_
     exact f1
    ·intro _ r b6 _
     rintro _ _ _ rfl _ _ _ _ _ _ _ _ _ _ _ _ _ _ _
     show WL _ _ _ _ _ _ _
     refine ar ((16 + ((m : Nat) : Int)) - 7) wN ?_
     exact f1
    ·intro _ r aI _
     rintro _ _ rfl _ rfl _ rfl _ _ _ _ _ _ _ _ _ _ _ _ _ _
     show WL _ _ _ _ _ _ _
     have aJ := (own_kp (own_kp (own_kp (own_kp (own_kp t y) A) B) C) aI)
     refine ix wN ((16 + ((m : Nat) : Int)) - 7) slTy_67 (Rd.of_own aJ) ?_
     exact f1
    ·intro _ r aK _
     rintro _ _ rfl _ rfl _ rfl _ rfl _ _ _ _ _ _ _ _ _ _ _ _ _
     show WL _ _ _ _ _ _ _
     have aL := (own_kp (own_kp (own_kp (own_kp (own_kp t y) A) B) C) aK)
     refine wl_loadE (iV p) wN rfl rfl rfl rfl isAgg_3 (Rd.of_own aL) (by rw [← Y]; exact iget (by simp) (by first | omega | (simp <;> omega))) ?_
     exact f1
    ·intro _ r b7 _
     rintro _ _ _ _ _ _ _ _ _ _ _ _ _ _ _ _ _ _
     show WL _ _ _ _ _ _ _
     refine mw (vs i (schedN d m).length j) ?_
     exact f1
    ·intro _ r b8 _
     rintro _ _ _ _ _ _ _ _ _ _ _ _ _ _ _ _ _ _
     show WL _ _ _ _ _ _ _
     refine mw (vi (16 + ((m : Nat) : Int))) ?_
     exact f1
    ·intro _ r b9 _
     rintro _ _ _ _ _ _ _ _ rfl _ _ _ _ _ _ _ _ _ _
     show WL _ _ _ _ _ _ _
     refine ar ((16 + ((m : Nat) : Int)) - 16) wN ?_
     exact f1
    ·intro _ r aM _
     rintro _ _ _ _ _ _ _ rfl _ rfl _ rfl _ _ _ _ _ _ _ _ _
     show WL _ _ _ _ _ _ _
     have aN := (own_kp (own_kp (own_kp (own_kp (own_kp t y) A) B) C) aM)
     refine ix wN ((16 + ((m : Nat) : Int)) - 16) slTy_67 (Rd.of_own aN) ?_
     exact f1
    ·intro _ r aO _
     rintro _ _ _ _ _ _ _ rfl _ rfl _ rfl _ rfl _ _ _ _ _ _ _ _
     show WL _ _ _ _ _ _ _
     have aP := (own_kp (own_kp (own_kp (own_kp (own_kp t y) A) B) C) aO)
     refine wl_loadE (iV q) wN rfl rfl rfl rfl isAgg_3 (Rd.of_own aP) (by rw [← Z]; exact iget (by simp) (by first | omega | (simp <;> omega))) ?_
     exact f1
    ·intro _ r bA _
     rintro _ _ rfl _ rfl _ rfl _ rfl _ rfl _ rfl _ rfl _ rfl _ rfl _ rfl _ _ _ _ _ _ _
     show WL _ _ _ _ _ _ _
     refine ar (p + q) wN ?_
     exact f1
    ·intro _ r bB _
     rintro _ _ _ _ _ _ _ _ _ _ _ _ _ _ _ _ _ _
     show WL _ _ _ _ _ _ _
     refine mw (vi (xorI (xorI (rot f 7) (rot f 18)) (f / (2 : Int) ^ ((3 : Int)).toNat))) ?_
     exact f1
    ·intro _ r bC _
     rintro _ _ rfl _ rfl _ rfl _ rfl _ rfl _ rfl _ rfl _ rfl _ rfl _ rfl _ rfl _ rfl _ _ _ _ _
     show WL _ _ _ _ _ _ _
     refine ar ((p + q) + (xorI (xorI (rot f 7) (rot f 18)) (f / (2 : Int) ^ ((3 : Int)).toNat))) wN ?_
     exact f1
    ·intro _ r bD _
     rintro _ _ _ _ _ _ _ _ _ _ _ _ _ _ _ _ _ _
     show WL _ _ _ _ _ _ _
     refine mw (vi (xorI (xorI (rot g 17) (rot g 19)) (g / (2 : Int) ^ ((10 : Int)).toNat))) ?_
     exact f1
    ·intro _ r bE _
     rintro _ _ rfl _ rfl _ rfl _ rfl _ rfl _ rfl _ rfl _ rfl _ rfl _ rfl _ rfl _ rfl _ rfl _ rfl _ _ _
     show WL _ _ _ _ _ _ _
     refine ar (((p + q) + (xorI (xorI (rot f 7) (rot f 18)) (f / (2 : Int) ^ ((3 : Int)).toNat))) + (xorI (xorI (rot g 17) (rot g 19)) (g / (2 : Int) ^ ((10 : Int)).toNat))) wN ?_
     exact f1
    ·intro _ r bF _
     rintro _ _ rfl _ rfl _ rfl _ rfl _ rfl _ rfl _ rfl _ rfl _ rfl _ rfl _ rfl _ rfl _ rfl _ rfl _ rfl _ _
     show WL _ _ _ _ _ _ _
     refine wl_and (((p + q) + (xorI (xorI (rot f 7) (rot f 18)) (f / (2 : Int) ^ ((3 : Int)).toNat))) + (xorI (xorI (rot g 17) (rot g 19)) (g / (2 : Int) ^ ((10 : Int)).toNat))) 4294967295 4294967296 32 wN rfl rfl (by decide) (by decide) (by decide) (by kernel_rfl) ?_
     exact f1
    ·intro _ r aQ _
     rintro _ _ rfl _ rfl _ rfl _ rfl _ rfl _ rfl _ rfl _ rfl _ rfl _ rfl _ rfl _ rfl _ rfl _ rfl _ rfl _ rfl _
     show WL _ _ _ _ _ _ _
     refine ltI ([((((p + q) + (xorI (xorI (rot f 7) (rot f 18)) (f / (2 : Int) ^ ((3 : Int)).toNat))) + (xorI (xorI (rot g 17) (rot g 19)) (g / (2 : Int) ^ ((10 : Int)).toNat))) % 4294967296)] : List Int) wN slTy_67 ?_
     intro bG bH aR aS aT
     exact wl_finT aS ⟨_, _, rfl, (own_lo aT aQ.size), (by simp), ⟨trivial, trivial⟩⟩
   ·intro _ r P
    rintro _ rfl _ rfl _ rfl _ rfl _ rfl _ rfl _ rfl _ rfl _ rfl _ rfl _ rfl _ rfl _ rfl _ rfl _ rfl _ rfl _ rfl _ ⟨bI, bJ, rfl, aU, bK, -⟩
    show WL _ _ _ _ _ _ _
    have aV := (own_kp (own_kp (own_kp (own_kp (own_kp t y) A) B) C) P)
    refine apI (schedN d m) ([((((p + q) + (xorI (xorI (rot f 7) (rot f 18)) (f / (2 : Int) ^ ((3 : Int)).toNat))) + (xorI (xorI (rot g 17) (rot g 19)) (g / (2 : Int) ^ ((10 : Int)).toNat))) % 4294967296)] : List Int) wN slTy_67 aV (Rd.of_own aU) (z8 S W av y A B C P) ?_
    intro Q R aR ay aW bL aX
    have aY := (aD.extk P).ext ay (fun k hk => nT (Nat.le_refl o.heap.size) (own_lt t k hk).1)
    refine aw (vs Q ((schedN d m) ++ ([((((p + q) + (xorI (xorI (rot f 7) (rot f 18)) (f / (2 : Int) ^ ((3 : Int)).toNat))) + (xorI (xorI (rot g 17) (rot g 19)) (g / (2 : Int) ^ ((10 : Int)).toNat))) % 4294967296)] : List Int)).length R) ?_
    refine wl_nil <| wq_blk_normal <| wq_then <| wc_region ?_
    refine mw (vi (16 + ((m : Nat) : Int))) ?_
    refine ar ((16 + ((m : Nat) : Int)) + 1) wN ?_
    refine aw (vi ((16 + ((m : Nat) : Int)) + 1)) ?_
    refine wl_nil ?_
    have az : (((schedN d m) ++ ([((((p + q) + (xorI (xorI (rot f 7) (rot f 18)) (f / (2 : Int) ^ ((3 : Int)).toNat))) + (xorI (xorI (rot g 17) (rot g 19)) (g / (2 : Int) ^ ((10 : Int)).toNat))) % 4294967296)] : List Int)) : List Int) = schedN d (m + 1) := by subst Y Z aa ab; exact schedN_app
    refine wq_loopP (w0 := X) [(2, (vs none 0 0)), (3, (.slice Q (schedN d (m + 1)).length R)), (8, (vi (16 + (((m + 1) : Nat) : Int))))] ?_ ?_ ?_
    · exact ⟨rfl, (cA (fun l : List Int => Value.slice Q l.length R) az), (cA (Value.int .i64) (show (((16 + ((m : Nat) : Int)) + 1) : Int) = (16 + (((m + 1) : Nat) : Int)) by omega)), trivial⟩
    · exact fun u => ⟨(m + 1), u, Q, R, rfl, aY, ((((((((Ch.refl (fun k => o.heap.size ≤ k) G).ext av (fun k hk => hk)).extk y).extk A).extk B).extk C).extk P).ext ay (fun k hk => nT (Nat.le_refl o.heap.size) (own_lt t k hk).1)), (by omega), (az ▸ ⟨aW, aX⟩)⟩
    · show (64 - (16 + (((m + 1) : Nat) : Int))).toNat < (64 - (16 + ((m : Nat) : Int))).toNat; omega

theorem csCompress (G : World) (a0 : Value) (j : List Int) (aN : R_67 G a0 j) (a1 : Value) (p : List UInt8) (aO : R_22 G a1 p)  : Fn Try.prog 101 #[a0, a1] G (fun v L => Keep G L ∧ O_67 L G.heap.size v (compress j p)) := by
 obtain ⟨B, C, rfl, F, ap⟩ := aN
 obtain ⟨ah, ai, rfl, a2, aP⟩ := aO
 refine fn_ofS (n := 156) [(vs B j.length C), (vs ah p.length ai)] Try.func101 rfl rfl ?_
 refine sr ?_
 refine aw (vs none 0 0) ?_
 refine nx ?_
 refine wl_lit0 wN rfl rfl slTy_67 (fun w => by kernel_rfl) ?_
 intro cj ck a3 aQ
 have a4 := (Ch.base G).extk a3
 refine mw (vs B j.length C) ?_
 refine ap0I j wN slTy_67 aQ (F.from0 a4) a3.size ?_
 intro H I a5 aR X cm
 have aq := a4.extk aR
 refine aw (vs H j.length I) ?_
 refine n4 ?_
 refine jT1 [(0, (vs B j.length C)), (1, (vs ah p.length ai)), (4, (vs none 0 0)), (5, (vs H j.length I))] (compress j p = j) ?_ fun a6 => ?_
 ·intro aS a7 a8 cn
  have aT := aq.extk a8
  refine sr ?_
  refine mw (vs H j.length I) ?_
  refine aw (vs H j.length I) ?_
  refine n1 ?_
  have aU := (own_kp X a8)
  refine rt (vs H j.length I) ?_
  refine ⟨aT.keep0, ?_⟩
  rw [aS]
  exact ⟨_, _, rfl, aU, ap, ⟨trivial, trivial⟩⟩
 refine mw (vs B j.length C) ?_
 refine cl wN (csl2Words a5 _ j (mR_67 (F.from0 aq) ap)) ?_
 rintro _ a7 ⟨Y, rfl⟩
 have a9 := aq.extk Y
 refine pu (vb (!(ws8 j))) wN ?_
 refine mw (vb (!(ws8 j))) ?_
 rcases bf (ws8 j) with N | N
 ·iterate 3 refine sk (cA not N) ?_
  refine pk (vb true) wN (cA not N) ?_
  refine n2 ?_
  refine ct (Eq.refl true) ?_
  have aV : compress j p = j := by first | exact compress_f (by first | assumption | exact ‹ws8 j = false›) | exact compress_g (by omega) | exact compress_t (by first | assumption | exact ‹ws8 j = true›) (by omega) (by omega)
  exact wj (a6 aV _ Y)
 have co := ws8_t N
 refine mv (vs ah p.length ai) (wS (cA not N)) ?_
 refine ln (wS (cA not N)) slTy_22 (a2.from0 a9) ?_
 refine pu (vb (!(decide ((p.length : Int) = 64)))) (wS (cA not N)) ?_
 refine pf (vb (!(decide ((p.length : Int) = 64)))) wN (cA not N) ?_
 refine n2 ?_
 rcases bf (decide ((p.length : Int) = 64)) with aa | aa
 ·have cp := dF aa
  refine ct (cA not aa) ?_
  have aW : compress j p = j := by first | exact compress_f (by first | assumption | exact ‹ws8 j = false›) | exact compress_g (by omega) | exact compress_t (by first | assumption | exact ‹ws8 j = true›) (by omega) (by omega)
  exact wj (a6 aW _ Y)
 have cq := dT aa
 refine cf (cA not aa) ?_
 refine y1 ?_
 refine cl wN (csl2K a7 ) ?_
 rintro _ au ⟨aj, ⟨R, S, rfl, ak, _⟩⟩
 have aA := a9.extk aj
 refine aw (vs R (kw).length S) ?_
 refine nx ?_
 refine mw (vs ah p.length ai) ?_
 refine cl wN (csSchedule au _ p (mR_22 (a2.from0 aA) aP)) ?_
 rintro _ aB ⟨O, ⟨T, V, rfl, am, _⟩⟩
 have J := aA.extk O
 have cr := schedP_len p
 refine aw (vs T (schedP p).length V) ?_
 refine wl_nil <| wq_then <| wc_seq ?_
 refine wc_draw ([(36, [], [], (fun _ v _ => v = (vs B j.length C))), (37, [], [0], (fun _ v _ => v = (ve (vs B j.length C) ((0 : Int).toNat * 1)))), (38, [], [0, 1], (fun _ v _ => v = (vi (j.getD 0 0)))), (39, [], [], (fun _ v _ => v = (vs B j.length C))), (40, [], [3], (fun _ v _ => v = (ve (vs B j.length C) ((1 : Int).toNat * 1)))), (41, [], [3, 4], (fun _ v _ => v = (vi (j.getD 1 0)))), (42, [], [], (fun _ v _ => v = (vs B j.length C))), (43, [], [6], (fun _ v _ => v = (ve (vs B j.length C) ((2 : Int).toNat * 1)))), (44, [], [6, 7], (fun _ v _ => v = (vi (j.getD 2 0)))), (45, [], [], (fun _ v _ => v = (vs B j.length C))), (46, [], [9], (fun _ v _ => v = (ve (vs B j.length C) ((3 : Int).toNat * 1)))), (47, [], [9, 10], (fun _ v _ => v = (vi (j.getD 3 0)))), (48, [], [], (fun _ v _ => v = (vs B j.length C))), (49, [], [12], (fun _ v _ => v = (ve (vs B j.length C) ((4 : Int).toNat * 1)))), (50, [], [12, 13], (fun _ v _ => v = (vi (j.getD 4 0)))), (51, [], [], (fun _ v _ => v = (vs B j.length C))), (52, [], [15], (fun _ v _ => v = (ve (vs B j.length C) ((5 : Int).toNat * 1)))), (53, [], [15, 16], (fun _ v _ => v = (vi (j.getD 5 0)))), (54, [], [], (fun _ v _ => v = (vs B j.length C))), (55, [], [18], (fun _ v _ => v = (ve (vs B j.length C) ((6 : Int).toNat * 1)))), (56, [], [18, 19], (fun _ v _ => v = (vi (j.getD 6 0)))), (57, [], [], (fun _ v _ => v = (vs B j.length C))), (58, [], [21], (fun _ v _ => v = (ve (vs B j.length C) ((7 : Int).toNat * 1)))), (59, [], [21, 22], (fun _ v _ => v = (vi (j.getD 7 0)))), (8, [], [0, 1, 2], (fun _ v _ => v = (vi (j.getD 0 0)))), (9, [], [0, 1, 2, 3, 4, 5, 24], (fun _ v _ => v = (vi (j.getD 1 0)))), (10, [], [0, 1, 2, 3, 4, 5, 6, 7, 8, 24, 25], (fun _ v _ => v = (vi (j.getD 2 0)))), (11, [], [0, 1, 2, 3, 4, 5, 6, 7, 8, 9, 10, 11, 24, 25, 26], (fun _ v _ => v = (vi (j.getD 3 0)))), (12, [], [0, 1, 2, 3, 4, 5, 6, 7, 8, 9, 10, 11, 12, 13, 14, 24, 25, 26, 27], (fun _ v _ => v = (vi (j.getD 4 0)))), (13, [], [0, 1, 2, 3, 4, 5, 6, 7, 8, 9, 10, 11, 12, 13, 14, 15, 16, 17, 24, 25, 26, 27, 28], (fun _ v _ => v = (vi (j.getD 5 0)))), (14, [], [0, 1, 2, 3, 4, 5, 6, 7, 8, 9, 10, 11, 12, 13, 14, 15, 16, 17, 18, 19, 20, 24, 25, 26, 27, 28, 29], (fun _ v _ => v = (vi (j.getD 6 0))))] : GV) mixed rfl (by kernel_rfl) (by kernel_rfl) ?_ ?_ ?_
 ·exact ⟨hV, hE, ⟨hV, hE, ⟨hV, hE, ⟨hV, hE, ⟨hV, hE, ⟨hV, hE, ⟨hV, hE, ⟨hV, hE, ⟨hV, hE, ⟨hV, hE, ⟨hV, hE, ⟨hV, hE, ⟨hV, hE, ⟨hV, hE, ⟨hV, hE, ⟨hV, hE, ⟨hV, hE, ⟨hV, hE, ⟨hV, hE, ⟨hV, hE, ⟨hV, hE, ⟨hV, hE, ⟨hV, hE, ⟨hV, hE, ⟨hV, hE, ⟨hV, hE, ⟨hV, hE, ⟨hV, hE, ⟨hV, hE, ⟨hV, hE, ⟨hV, hE, trivial⟩⟩⟩⟩⟩⟩⟩⟩⟩⟩⟩⟩⟩⟩⟩⟩⟩⟩⟩⟩⟩⟩⟩⟩⟩⟩⟩⟩⟩⟩⟩
 ·refine ⟨?_, ⟨?_, ⟨?_, ⟨?_, ⟨?_, ⟨?_, ⟨?_, ⟨?_, ⟨?_, ⟨?_, ⟨?_, ⟨?_, ⟨?_, ⟨?_, ⟨?_, ⟨?_, ⟨?_, ⟨?_, ⟨?_, ⟨?_, ⟨?_, ⟨?_, ⟨?_, ⟨?_, ⟨?_, ⟨?_, ⟨?_, ⟨?_, ⟨?_, ⟨?_, ⟨?_, trivial⟩⟩⟩⟩⟩⟩⟩⟩⟩⟩⟩⟩⟩⟩⟩⟩⟩⟩⟩⟩⟩⟩⟩⟩⟩⟩⟩⟩⟩⟩⟩
  ·intro A cs
   rintro _ _ _ _ _ _ _ _ _ _ _ _ _ _ _ _ _ _ _ _ _ _ _ _ _ _ _ _ _ _ _
   show WL _ _ _ _ _ _ _
   refine mw (vs B j.length C) ?_
   exact f2
  ·intro A aX
   have aY := J.extk aX
   rintro _ rfl _ _ _ _ _ _ _ _ _ _ _ _ _ _ _ _ _ _ _ _ _ _ _ _ _ _ _ _ _ _
   show WL _ _ _ _ _ _ _
   refine ix wN 0 slTy_67 (F.from0 aY) ?_
   exact f2
  ·intro A aZ
   have ba := J.extk aZ
   rintro _ rfl _ rfl _ _ _ _ _ _ _ _ _ _ _ _ _ _ _ _ _ _ _ _ _ _ _ _ _ _ _ _ _
   show WL _ _ _ _ _ _ _
   refine ei (x := j) 0 wN isAgg_3 (F.from0 ba) ?_
   exact f2
  ·intro A cu
   rintro _ _ _ _ _ _ _ _ _ _ _ _ _ _ _ _ _ _ _ _ _ _ _ _ _ _ _ _ _ _ _
   show WL _ _ _ _ _ _ _
   refine mw (vs B j.length C) ?_
   exact f2
  ·intro A bb
   have bc := J.extk bb
   rintro _ _ _ _ rfl _ _ _ _ _ _ _ _ _ _ _ _ _ _ _ _ _ _ _ _ _ _ _ _ _ _ _
   show WL _ _ _ _ _ _ _
   refine ix wN 1 slTy_67 (F.from0 bc) ?_
   exact f2
  ·intro A bd
   have be := J.extk bd
   rintro _ _ _ _ rfl _ rfl _ _ _ _ _ _ _ _ _ _ _ _ _ _ _ _ _ _ _ _ _ _ _ _ _ _
   show WL _ _ _ _ _ _ _
   refine ei (x := j) 1 wN isAgg_3 (F.from0 be) ?_
   exact f2
  ·intro A cv
   rintro _ _ _ _ _ _ _ _ _ _ _ _ _ _ _ _ _ _ _ _ _ _ _ _ _ _ _ _ _ _ _
   show WL _ _ _ _ _ _ _
   refine mw (vs B j.length C) ?_
   exact f2
  ·intro A bg
   have bh := J.extk bg
   rintro _ _ _ _ _ _ _ rfl _ _ _ _ _ _ _ _ _ _ _ _ _ _ _ _ _ _ _ _ _ _ _ _
   show WL _ _ _ _ _ _ _
   refine ix wN 2 slTy_67 (F.from0 bh) ?_
   exact f2
  ·intro A bi
   have bj := J.extk bi
   rintro _ _ _ _ _ _ _ rfl _ rfl _ _ _ _ _ _ _ _ _ _ _ _ _ _ _ _ _ _ _ _ _ _ _
   show WL _ _ _ _ _ _ _
   refine ei (x := j) 2 wN isAgg_3 (F.from0 bj) ?_
   exact f2
  ·intro A cw
   rintro _ _ _ _ _ _ _ _ _ _ _ _ _ _ _ _ _ _ _ _ _ _ _ _ _ _ _ _ _ _ _
   show WL _ _ _ _ _ _ _
   refine mw (vs B j.length C) ?_
   exact f2
  ·intro A bk
   have bl := J.extk bk
   rintro _ _ _ _ _ _ _ _ _ _ rfl _ _ _ _ _ _ _ _ _ _ _ _ _ _ _ _ _ _ _ _ _
   show WL _ _ _ _ _ _ _
   refine ix wN 3 slTy_67 (F.from0 bl) ?_
   exact f2
  ·intro A bm
   have bn := J.extk bm
   rintro _ _ _ _ _ _ _ _ _ _ rfl _ rfl _ _ _ _ _ _ _ _ _ _ _ _ _ _ _ _ _ _ _ _
   show WL _ _ _ _ _ _ _
   refine ei (x := j) 3 wN isAgg_3 (F.from0 bn) ?_
   exact f2
  ·intro A cx
   rintro _ _ _ _ _ _ _ _ _ _ _ _ _ _ _ _ _ _ _ _ _ _ _ _ _ _ _ _ _ _ _
   show WL _ _ _ _ _ _ _
   refine mw (vs B j.length C) ?_
   exact f2
  ·intro A bo
   have bp := J.extk bo
   rintro _ _ _ _ _ _ _ _ _ _ _ _ _ rfl _ _ _ _ _ _ _ _ _ _ _ _ _ _ _ _ _ _
   show WL _ _ _ _ _ _ _
   refine ix wN 4 slTy_67 (F.from0 bp) ?_
   exact f2
  ·intro A bq
   have br := J.extk bq
   rintro _ _ _ _ _ _ _ _ _ _ _ _ _ rfl _ rfl _ _ _ _ _ _ _ _ _ _ _ _ _ _ _ _ _
   show WL _ _ _ _ _ _ _
   refine ei (x := j) 4 wN isAgg_3 (F.from0 br) ?_
   exact f2
  ·intro A cy
   rintro _ _ _ _ _ _ _ _ _ _ _ _ _ _ _ _ _ _ _ _ _ _ _ _ _ _ _ _ _ _ _
   show WL _ _ _ _ _ _ _
   refine mw (vs B j.length C) ?_
   exact f2
  ·intro A bu
   have bv := J.extk bu
   rintro _ _ _ _ _ _ _ _ _ _ _ _ _ _ _ _ rfl _ _ _ _ _ _ _ _ _ _ _ _ _ _ _
   show WL _ _ _ _ _ _ _
   refine ix wN 5 slTy_67 (F.from0 bv) ?_
   exact f2
  ·intro A bw
   have bz := J.extk bw
   rintro _ _ _ _ _ _ _ _ _ _ _ _ _ _ _ _ rfl _ rfl _ _ _ _ _ _ _ _ _ _ _ _ _ _
   show WL _ _ _ _ _ _ _
   refine ei (x := j) 5 wN isAgg_3 (F.from0 bz) ?_
   exact f2
  ·intro A cz
   rintro _ _ _ _ _ _ _ _ _ _ _ _ _ _ _ _ _ _ _ _ _ _ _ _ _ _ _ _ _ _ _
   show WL _ _ _ _ _ _ _
   refine mw (vs B j.length C) ?_
   exact f2
  ·intro A b0
   have b1 := J.extk b0
   rintro _ _ _ _ _ _ _ _ _ _ _ _ _ _ _ _ _ _ _ rfl _ _ _ _ _ _ _ _ _ _ _ _
   show WL _ _ _ _ _ _ _
   refine ix wN 6 slTy_67 (F.from0 b1) ?_
   exact f2
  ·intro A b2
   have b3 := J.extk b2
   rintro _ _ _ _ _ _ _ _ _ _ _ _ _ _ _ _ _ _ _ rfl _ rfl _ _ _ _ _ _ _ _ _ _ _
   show WL _ _ _ _ _ _ _
   refine ei (x := j) 6 wN isAgg_3 (F.from0 b3) ?_
   exact f2
  ·intro A c0
   rintro _ _ _ _ _ _ _ _ _ _ _ _ _ _ _ _ _ _ _ _ _ _ _ _ _ _ _ _ _ _ _
   show WL _ _ _ _ _ _ _
   refine mw (vs B j.length C) ?_
   exact f2
  ·intro A b4
   have b5 := J.extk b4
   rintro _ _ _ _ _ _ _ _ _ _ _ _ _ _ _ _ _ _ _ _ _ _ rfl _ _ _ _ _ _ _ _ _
   show WL _ _ _ _ _ _ _
   refine ix wN 7 slTy_67 (F.from0 b5) ?_
   exact f2
  ·intro A b6
   have b7 := J.extk b6
   rintro _ _ _ _ _ _ _ _ _ _ _ _ _ _ _ _ _ _ _ _ _ _ rfl _ rfl _ _ _ _ _ _ _ _
   show WL _ _ _ _ _ _ _
   refine ei (x := j) 7 wN isAgg_3 (F.from0 b7) ?_
   exact f2
  ·intro A c1
   rintro _ rfl _ rfl _ rfl _ _ _ _ _ _ _ _ _ _ _ _ _ _ _ _ _ _ _ _ _ _ _ _ _ _ _ _
   show WL _ _ _ _ _ _ _
   refine aw (vi (j.getD 0 0)) ?_
   exact f2
  ·intro A c2
   rintro _ rfl _ rfl _ rfl _ rfl _ rfl _ rfl _ _ _ _ _ _ _ _ _ _ _ _ _ _ _ _ _ _ _ rfl _ _ _ _ _ _
   show WL _ _ _ _ _ _ _
   refine aw (vi (j.getD 1 0)) ?_
   exact f2
  ·intro A c3
   rintro _ rfl _ rfl _ rfl _ rfl _ rfl _ rfl _ rfl _ rfl _ rfl _ _ _ _ _ _ _ _ _ _ _ _ _ _ _ _ rfl _ rfl _ _ _ _ _
   show WL _ _ _ _ _ _ _
   refine aw (vi (j.getD 2 0)) ?_
   exact f2
  ·intro A c4
   rintro _ rfl _ rfl _ rfl _ rfl _ rfl _ rfl _ rfl _ rfl _ rfl _ rfl _ rfl _ rfl _ _ _ _ _ _ _ _ _ _ _ _ _ rfl _ rfl _ rfl _ _ _ _
   show WL _ _ _ _ _ _ _
   refine aw (vi (j.getD 3 0)) ?_
   exact f2
  ·intro A c5
   rintro _ rfl _ rfl _ rfl _ rfl _ rfl _ rfl _ rfl _ rfl _ rfl _ rfl _ rfl _ rfl _ rfl _ rfl _ rfl _ _ _ _ _ _ _ _ _ _ rfl _ rfl _ rfl _ rfl _ _ _
   show WL _ _ _ _ _ _ _
   refine aw (vi (j.getD 4 0)) ?_
   exact f2
  ·intro A c6
   rintro _ rfl _ rfl _ rfl _ rfl _ rfl _ rfl _ rfl _ rfl _ rfl _ rfl _ rfl _ rfl _ rfl _ rfl _ rfl _ rfl _ rfl _ rfl _ _ _ _ _ _ _ rfl _ rfl _ rfl _ rfl _ rfl _ _
   show WL _ _ _ _ _ _ _
   refine aw (vi (j.getD 5 0)) ?_
   exact f2
  ·intro A c7
   rintro _ rfl _ rfl _ rfl _ rfl _ rfl _ rfl _ rfl _ rfl _ rfl _ rfl _ rfl _ rfl _ rfl _ rfl _ rfl _ rfl _ rfl _ rfl _ rfl _ rfl _ rfl _ _ _ _ rfl _ rfl _ rfl _ rfl _ rfl _ rfl _
   show WL _ _ _ _ _ _ _
   refine aw (vi (j.getD 6 0)) ?_
   exact f2
 ·intro A M
  have b8 := J.extk M
  rintro _ rfl _ rfl _ rfl _ rfl _ rfl _ rfl _ rfl _ rfl _ rfl _ rfl _ rfl _ rfl _ rfl _ rfl _ rfl _ rfl _ rfl _ rfl _ rfl _ rfl _ rfl _ rfl _ rfl _ rfl _ rfl _ rfl _ rfl _ rfl _ rfl _ rfl _ rfl
  show WL _ _ _ _ _ _ _
  refine aw (vi (j.getD 7 0)) ?_
  refine n4 ?_
  refine aw (vi 0) ?_
  refine wl_nil <| wq_then <| wc_block ?_
  refine wc_loopP [(0, (vs B j.length C)), (4, (vs none 0 0)), (5, (vs H j.length I)), (6, (vs R (kw).length S)), (7, (vs T (schedP p).length V)), (8, (vi ((cmpN (schedP p) (s8of j) 0).a))), (9, (vi ((cmpN (schedP p) (s8of j) 0).b))), (10, (vi ((cmpN (schedP p) (s8of j) 0).c))), (11, (vi ((cmpN (schedP p) (s8of j) 0).d))), (12, (vi ((cmpN (schedP p) (s8of j) 0).e))), (13, (vi ((cmpN (schedP p) (s8of j) 0).f))), (14, (vi ((cmpN (schedP p) (s8of j) 0).g))), (15, (vi ((cmpN (schedP p) (s8of j) 0).z))), (16, (vi ((0 : Nat) : Int)))] ⟨rfl, rfl, rfl, rfl, rfl, (cA (Value.int .i64) (show ((j.getD 0 0) : Int) = (cmpN (schedP p) (s8of j) 0).a by rfl)), (cA (Value.int .i64) (show ((j.getD 1 0) : Int) = (cmpN (schedP p) (s8of j) 0).b by rfl)), (cA (Value.int .i64) (show ((j.getD 2 0) : Int) = (cmpN (schedP p) (s8of j) 0).c by rfl)), (cA (Value.int .i64) (show ((j.getD 3 0) : Int) = (cmpN (schedP p) (s8of j) 0).d by rfl)), (cA (Value.int .i64) (show ((j.getD 4 0) : Int) = (cmpN (schedP p) (s8of j) 0).e by rfl)), (cA (Value.int .i64) (show ((j.getD 5 0) : Int) = (cmpN (schedP p) (s8of j) 0).f by rfl)), (cA (Value.int .i64) (show ((j.getD 6 0) : Int) = (cmpN (schedP p) (s8of j) 0).g by rfl)), (cA (Value.int .i64) (show ((j.getD 7 0) : Int) = (cmpN (schedP p) (s8of j) 0).z by rfl)), (cA (Value.int .i64) (show (0 : Int) = ((0 : Nat) : Int) by omega)), trivial⟩ (fun e' L => ∃ (k : Nat) (o : Int) (s : Int) (t : Int) (D : Int) (i : Int) (q : Int) (r : Int) (y : Int) (aC : Env), e' = pt aC [(0, (vs B j.length C)), (4, (vs none 0 0)), (5, (vs H j.length I)), (6, (vs R (kw).length S)), (7, (vs T (schedP p).length V)), (8, (vi o)), (9, (vi s)), (10, (vi t)), (11, (vi D)), (12, (vi i)), (13, (vi q)), (14, (vi r)), (15, (vi y)), (16, (vi ((k : Nat) : Int)))] ∧ Ch (fun k => G.heap.size ≤ k) G L ∧ Ch (fun k => A.heap.size ≤ k) A L ∧ k ≤ 64 ∧ o = (cmpN (schedP p) (s8of j) k).a ∧ s = (cmpN (schedP p) (s8of j) k).b ∧ t = (cmpN (schedP p) (s8of j) k).c ∧ D = (cmpN (schedP p) (s8of j) k).d ∧ i = (cmpN (schedP p) (s8of j) k).e ∧ q = (cmpN (schedP p) (s8of j) k).f ∧ r = (cmpN (schedP p) (s8of j) k).g ∧ y = (cmpN (schedP p) (s8of j) k).z) (fun e' _ => (64 - (intOf (e' 16))).toNat) ?_ ?_
  ·exact fun u => ⟨0, (cmpN (schedP p) (s8of j) 0).a, (cmpN (schedP p) (s8of j) 0).b, (cmpN (schedP p) (s8of j) 0).c, (cmpN (schedP p) (s8of j) 0).d, (cmpN (schedP p) (s8of j) 0).e, (cmpN (schedP p) (s8of j) 0).f, (cmpN (schedP p) (s8of j) 0).g, (cmpN (schedP p) (s8of j) 0).z, u, rfl, b8, (Ch.refl (fun k => A.heap.size ≤ k) A), (by omega), (by first | rfl | assumption), (by first | rfl | assumption), (by first | rfl | assumption), (by first | rfl | assumption), (by first | rfl | assumption), (by first | rfl | assumption), (by first | rfl | assumption), (by first | rfl | assumption)⟩
  ·rintro _ av ⟨k, o, s, t, D, i, q, r, y, aC, rfl, aD, W, c8, hi_a, hi_b, hi_c, hi_d, hi_e, hi_f, hi_g, hi_z⟩
   obtain ⟨zw, hzw⟩ : ∃ z, (schedP p).getD k 0 = z := ⟨_, rfl⟩
   have hwd : 0 ≤ zw ∧ zw < 4294967296 := hzw ▸ wget (schedP_w p) k
   obtain ⟨zk, hzk⟩ : ∃ z, kw.getD k 0 = z := ⟨_, rfl⟩
   have hkw : 0 ≤ zk ∧ zk < 4294967296 := hzk ▸ wget kw_w k
   have hkl : kw.length = 64 := rfl
   have hok := cmpN_ok (w := schedP p) (s8of_ok (areW_t (by first | assumption | exact ‹ws8 j = true›)).1) k
   unfold S8.ok at hok
   rw [← hi_a, ← hi_b, ← hi_c, ← hi_d, ← hi_e, ← hi_f, ← hi_g, ← hi_z] at hok
   refine wc_seq <| sr ?_
   refine mw (vi ((k : Nat) : Int)) ?_
   refine pu (vb (decide (((k : Nat) : Int) < 64))) wN ?_
   refine n2 ?_
   rcases bf (decide (((k : Nat) : Int) < 64)) with ab | ab
   ·have c9 := dF ab
    refine cf ab ?_
    refine wc_exit <| wq_then_exit ?_
    obtain rfl : k = 64 := by omega
    refine wq_then_exit <| wq_blk_exit <| wq_then <| sr ?_
    refine mw (vi o) ?_
    refine mw (vi s) ?_
    refine mw (vi t) ?_
    refine mw (vi D) ?_
    refine mw (vi i) ?_
    refine mw (vi q) ?_
    refine mw (vi r) ?_
    refine mw (vi y) ?_
    refine ltI ([o, s, t, D, i, q, r, y] : List Int) wN slTy_67 ?_
    intro P Q E aE aF
    have b9 := aD.extk aE
    refine aw (vs P ([o, s, t, D, i, q, r, y] : List Int).length Q) ?_
    refine n4 ?_
    refine aw (vi 0) ?_
    refine wl_nil <| wq_then <| wc_block ?_
    have bA := (own_kp (own_ch (own_kp (own_kp (own_kp (own_kp X Y) aj) O) M) W (fun g hg hlt hk => by have ac := (own_lt X g hg).2; have ad : a5.heap.size ≤ A.heap.size := (z4 Y aj O M); have ae : A.heap.size ≤ g := hk; omega)) aE)
    have bB : (j : List Int) = (addL j (S8.list (cmpN (schedP p) (s8of j) 64))).take 0 ++ j.drop 0 := by first | rfl | simp
    have bC : (([o, s, t, D, i, q, r, y] : List Int) : List Int) = ([o, s, t, D, i, q, r, y] : List Int) := by first | rfl | simp
    refine wc_loopP [(0, (vs B j.length C)), (4, (vs none 0 0)), (5, (vs H j.length I)), (19, (vs P ([o, s, t, D, i, q, r, y] : List Int).length Q)), (20, (vi ((0 : Nat) : Int)))] ⟨rfl, rfl, rfl, rfl, (cA (Value.int .i64) (show (0 : Int) = ((0 : Nat) : Int) by omega)), trivial⟩ (fun e' L => ∃ (m : Nat) (aG : Env), e' = pt aG [(0, (vs B j.length C)), (4, (vs none 0 0)), (5, (vs H j.length I)), (19, (vs P ([o, s, t, D, i, q, r, y] : List Int).length Q)), (20, (vi ((m : Nat) : Int)))] ∧ Ch (fun k => G.heap.size ≤ k) G L ∧ Ch (fun k => G.heap.size ≤ k) E L ∧ m ≤ 8 ∧ World.ownsRow L G.heap.size 3 1 (.slice H j.length I) j.length (((addL j (S8.list (cmpN (schedP p) (s8of j) 64))).take m ++ j.drop m).map iV) ∧ World.ownsRow L av.heap.size 3 1 (.slice P ([o, s, t, D, i, q, r, y] : List Int).length Q) ([o, s, t, D, i, q, r, y] : List Int).length ((([o, s, t, D, i, q, r, y] : List Int)).map iV)) (fun e' _ => (8 - (intOf (e' 20))).toNat) ?_ ?_
    ·exact fun u => ⟨0, u, rfl, b9, (Ch.refl (fun k => G.heap.size ≤ k) E), (by omega), (by rw [← bB]; exact bA), (by rw [← bC]; exact aF)⟩
    ·rintro _ Z ⟨m, aG, rfl, an, bD, cC, ax, ay⟩
     have hlL : ([o, s, t, D, i, q, r, y] : List Int).length = 8 := rfl
     have hll : (addL j (S8.list (cmpN (schedP p) (s8of j) 64))).length = 8 := addL_len (by omega) rfl
     have cD : (j.length : Int) = 8 := (areW_t (by first | assumption | exact ‹ws8 j = true›)).2
     have cE := wget (areW_t (by first | assumption | exact ‹ws8 j = true›)).1 m
     have hle : ([o, s, t, D, i, q, r, y] : List Int) = (S8.list (cmpN (schedP p) (s8of j) 64)) := by rw [hi_a, hi_b, hi_c, hi_d, hi_e, hi_f, hi_g, hi_z]; rfl
     have cF : 0 ≤ ([o, s, t, D, i, q, r, y] : List Int).getD m 0 ∧ ([o, s, t, D, i, q, r, y] : List Int).getD m 0 < 4294967296 := hle ▸ wget (s8l_w (cmpN_ok (w := schedP p) (s8of_ok (areW_t (by first | assumption | exact ‹ws8 j = true›)).1) 64)) m
     refine wc_seq <| sr ?_
     refine mw (vi ((m : Nat) : Int)) ?_
     refine pu (vb (decide (((m : Nat) : Int) < 8))) wN ?_
     refine n2 ?_
     rcases bf (decide (((m : Nat) : Int) < 8)) with af | af
     ·have cG := dF af
      refine cf af ?_
      refine wc_exit <| wq_then_exit <| wq_then_exit <| wq_blk_exit <| wq_then <| sr ?_
      refine mw (vs H j.length I) ?_
      refine aw (vs H j.length I) ?_
      refine n3 ?_
      refine rt (vs H j.length I) ?_
      refine ⟨an.keep0, ?_⟩
      have bE : compress j p = ((addL j (S8.list (cmpN (schedP p) (s8of j) 64))).take m ++ j.drop m) := by first | exact compress_f (by first | assumption | exact ‹ws8 j = false›) | exact compress_g (by omega) | exact compress_t (by first | assumption | exact ‹ws8 j = true›) (by omega) (by omega)
      rw [bE]
      have aH : j.length = (((addL j (S8.list (cmpN (schedP p) (s8of j) 64))).take m ++ j.drop m)).length := by simp only [List.length_append, List.length_take, List.length_drop]; omega
      rw [aH] at ax ⊢
      exact ⟨_, _, rfl, ax, (by rw [← aH]; exact ap), ⟨trivial, trivial⟩⟩
     have cH := dT af
     refine ct af ?_
     refine wc_skip <| wq_then <| wc_seq <| wc_block ?_
     refine wc_draw ([(142, [], [], (fun _ v _ => v = (vs H j.length I))), (143, [], [], (fun _ v _ => v = (vi ((m : Nat) : Int)))), (144, [], [], (fun _ v _ => v = (vs B j.length C))), (145, [], [], (fun _ v _ => v = (vi ((m : Nat) : Int)))), (146, [], [2, 3], (fun _ v _ => v = (ve (vs B j.length C) ((((m : Nat) : Int)).toNat * 1)))), (147, [], [2, 3, 4], (fun _ v _ => v = (vi (j.getD m 0)))), (148, [], [], (fun _ v _ => v = (vs P ([o, s, t, D, i, q, r, y] : List Int).length Q))), (149, [], [], (fun _ v _ => v = (vi ((m : Nat) : Int)))), (150, [], [6, 7], (fun _ v _ => v = (ve (vs P ([o, s, t, D, i, q, r, y] : List Int).length Q) ((((m : Nat) : Int)).toNat * 1)))), (151, [], [6, 7, 8], (fun _ v _ => v = (vi ((([o, s, t, D, i, q, r, y] : List Int)).getD m 0)))), (152, [], [2, 3, 4, 5, 6, 7, 8, 9], (fun _ v _ => v = (vi ((j.getD m 0) + ((([o, s, t, D, i, q, r, y] : List Int)).getD m 0))))), (153, [], [2, 3, 4, 5, 6, 7, 8, 9, 10], (fun _ v _ => v = (vi (((j.getD m 0) + ((([o, s, t, D, i, q, r, y] : List Int)).getD m 0)) % 4294967296))))] : GV) mixed rfl (by kernel_rfl) (by kernel_rfl) ?_ ?_ ?_
     ·exact ⟨hV, hE, ⟨hV, hE, ⟨hV, hE, ⟨hV, hE, ⟨hV, hE, ⟨hV, hE, ⟨hV, hE, ⟨hV, hE, ⟨hV, hE, ⟨hV, hE, ⟨hV, hE, ⟨hV, hE, trivial⟩⟩⟩⟩⟩⟩⟩⟩⟩⟩⟩⟩
     ·refine ⟨?_, ⟨?_, ⟨?_, ⟨?_, ⟨?_, ⟨?_, ⟨?_, ⟨?_, ⟨?_, ⟨?_, ⟨?_, ⟨?_, trivial⟩⟩⟩⟩⟩⟩⟩⟩⟩⟩⟩⟩
      ·intro K cI
       rintro _ _ _ _ _ _ _ _ _ _ _ _
       show WL _ _ _ _ _ _ _
       refine mw (vs H j.length I) ?_
       exact f2
      ·intro K cJ
       rintro _ _ _ _ _ _ _ _ _ _ _ _
       show WL _ _ _ _ _ _ _
       refine mw (vi ((m : Nat) : Int)) ?_
       exact f2
      ·intro K cK
       rintro _ _ _ _ _ _ _ _ _ _ _ _
       show WL _ _ _ _ _ _ _
       refine mw (vs B j.length C) ?_
       exact f2
      ·intro K cL
       rintro _ _ _ _ _ _ _ _ _ _ _ _
       show WL _ _ _ _ _ _ _
       refine mw (vi ((m : Nat) : Int)) ?_
       exact f2
      ·intro K bF
       have bG := an.extk bF
       rintro _ _ _ rfl _ rfl _ _ _ _ _ _ _ _
       show WL _ _ _ _ _ _ _
       refine ix wN ((m : Nat) : Int) slTy_67 (F.from0 bG) ?_
       exact f2
      ·intro K bH
       have bI := an.extk bH
       rintro _ _ _ rfl _ rfl _ rfl _ _ _ _ _ _ _
       show WL _ _ _ _ _ _ _
       refine ei (x := j) m wN isAgg_3 (F.from0 bI) ?_
       exact f2
      ·intro K cM
       rintro _ _ _ _ _ _ _ _ _ _ _ _
       show WL _ _ _ _ _ _ _
       refine mw (vs P ([o, s, t, D, i, q, r, y] : List Int).length Q) ?_
       exact f2
      ·intro K cN
       rintro _ _ _ _ _ _ _ _ _ _ _ _
       show WL _ _ _ _ _ _ _
       refine mw (vi ((m : Nat) : Int)) ?_
       exact f2
      ·intro K bJ
       rintro _ _ _ _ _ _ _ rfl _ rfl _ _ _ _
       show WL _ _ _ _ _ _ _
       have bK := (own_kp ay bJ)
       refine ix wN ((m : Nat) : Int) slTy_67 (Rd.of_own bK) ?_
       exact f2
      ·intro K bL
       rintro _ _ _ _ _ _ _ rfl _ rfl _ rfl _ _ _
       show WL _ _ _ _ _ _ _
       have bM := (own_kp ay bL)
       refine ei (x := (([o, s, t, D, i, q, r, y] : List Int))) m wN isAgg_3 (Rd.of_own bM) ?_
       exact f2
      ·intro K cO
       rintro _ _ _ rfl _ rfl _ rfl _ rfl _ rfl _ rfl _ rfl _ rfl _ _
       show WL _ _ _ _ _ _ _
       refine ar ((j.getD m 0) + ((([o, s, t, D, i, q, r, y] : List Int)).getD m 0)) wN ?_
       exact f2
      ·intro K cP
       rintro _ _ _ rfl _ rfl _ rfl _ rfl _ rfl _ rfl _ rfl _ rfl _ rfl _
       show WL _ _ _ _ _ _ _
       refine wl_and ((j.getD m 0) + ((([o, s, t, D, i, q, r, y] : List Int)).getD m 0)) 4294967295 4294967296 32 wN rfl rfl (by decide) (by decide) (by decide) (by kernel_rfl) ?_
       exact f2
     ·intro K ao
      rintro _ rfl _ rfl _ rfl _ rfl _ rfl _ rfl _ rfl _ rfl _ rfl _ rfl _ rfl _ rfl
      show WL _ _ _ _ _ _ _
      have aI := (own_kp ax ao)
      refine ix wN ((m : Nat) : Int) slTy_67 (Rd.of_own aI) ?_
      refine wl_storeI ((addL j (S8.list (cmpN (schedP p) (s8of j) 64))).take m ++ j.drop m) (m) ((((j.getD m 0) + ((([o, s, t, D, i, q, r, y] : List Int)).getD m 0)) % 4294967296)) wN rfl rfl rfl (by simp) rfl sizeOf_3 aI (by first | omega | (simp only [List.length_append, List.length_take, List.length_drop]; omega)) ?_
      intro bN az bO
      have bP := (an.extk ao).ext az (fun k hk => nT (Nat.le_refl G.heap.size) (own_lt X k hk).1)
      refine wl_nil <| wq_blk_normal <| wq_then <| wc_region ?_
      refine mw (vi ((m : Nat) : Int)) ?_
      refine ar (((m : Nat) : Int) + 1) wN ?_
      refine aw (vi (((m : Nat) : Int) + 1)) ?_
      refine wl_nil ?_
      have bQ : ((((addL j (S8.list (cmpN (schedP p) (s8of j) 64))).take m ++ j.drop m).set m (((j.getD m 0) + ((([o, s, t, D, i, q, r, y] : List Int)).getD m 0)) % 4294967296)) : List Int) = (addL j (S8.list (cmpN (schedP p) (s8of j) 64))).take (m + 1) ++ j.drop (m + 1) := by first | rfl | (rw [hle]; exact addL_next (l := (S8.list (cmpN (schedP p) (s8of j) 64))) (by omega) (by show j.length = 8; omega))
      have bR := (own_ch (own_kp ay ao) az (fun g hg hlt hk => by have ac := (own_lt aF g hg).1; have ad := (own_lt X g hk).2; have ae := (z5 Y aj O M W); omega))
      have bS : ((([o, s, t, D, i, q, r, y] : List Int)) : List Int) = ([o, s, t, D, i, q, r, y] : List Int) := by first | rfl | (rw [hle]; exact addL_next (l := (S8.list (cmpN (schedP p) (s8of j) 64))) (by omega) (by show j.length = 8; omega))
      refine wq_loopP (w0 := Z) [(0, (vs B j.length C)), (4, (vs none 0 0)), (5, (vs H j.length I)), (19, (vs P ([o, s, t, D, i, q, r, y] : List Int).length Q)), (20, (vi (((m + 1) : Nat) : Int)))] ?_ ?_ ?_
      · exact ⟨rfl, rfl, rfl, rfl, (cA (Value.int .i64) (show ((((m : Nat) : Int) + 1) : Int) = (((m + 1) : Nat) : Int) by omega)), trivial⟩
      · exact fun u => ⟨(m + 1), u, rfl, bP, ((((Ch.refl (fun k => G.heap.size ≤ k) E).ext bD (fun k hk => hk)).extk ao).ext az (fun k hk => nT (Nat.le_refl G.heap.size) (own_lt X k hk).1)), (by omega), (by rw [← bQ]; exact bO), (by rw [← bS]; exact bR)⟩
      · show (8 - (((m + 1) : Nat) : Int)).toNat < (8 - ((m : Nat) : Int)).toNat; omega
   have cQ := dT ab
   refine ct ab ?_
   refine wc_skip <| wq_then <| wc_seq <| wc_block <| wc_seq ?_
   refine wc_drawT ([(64, [], [], (fun _ v _ => v = (vi y))), (65, [], [], (fun _ v _ => v = (vi i))), (66, [], [1], (fun _ v w => v = .int .i64 (rot i 6))), (67, [], [], (fun _ v _ => v = (vi i))), (68, [], [1, 2, 3], (fun _ v w => v = .int .i64 (rot i 11))), (69, [], [1, 2, 3, 4], (fun _ v _ => v = (vi (xorI (rot i 6) (rot i 11))))), (70, [], [], (fun _ v _ => v = (vi i))), (71, [], [1, 2, 3, 4, 6], (fun _ v w => v = .int .i64 (rot i 25))), (72, [], [1, 2, 3, 4, 5, 6, 7], (fun _ v _ => v = (vi (xorI (xorI (rot i 6) (rot i 11)) (rot i 25))))), (73, [], [0, 1, 2, 3, 4, 5, 6, 7, 8], (fun _ v _ => v = (vi (y + (xorI (xorI (rot i 6) (rot i 11)) (rot i 25)))))), (74, [], [], (fun _ v _ => v = (vi i))), (75, [], [], (fun _ v _ => v = (vi q))), (76, [], [10, 11], (fun _ v _ => v = (vi (andI i q)))), (77, [], [], (fun _ v _ => v = (vi i))), (78, [], [13], (fun _ v _ => v = (vi (xorI i 4294967295)))), (79, [], [], (fun _ v _ => v = (vi r))), (80, [], [13, 14, 15], (fun _ v _ => v = (vi (andI (xorI i 4294967295) r)))), (81, [], [10, 11, 12, 13, 14, 15, 16], (fun _ v _ => v = (vi (xorI (andI i q) (andI (xorI i 4294967295) r))))), (82, [], [0, 1, 2, 3, 4, 5, 6, 7, 8, 9, 10, 11, 12, 13, 14, 15, 16, 17], (fun _ v _ => v = (vi ((y + (xorI (xorI (rot i 6) (rot i 11)) (rot i 25))) + (xorI (andI i q) (andI (xorI i 4294967295) r)))))), (83, [], [], (fun _ v _ => v = (vs R (kw).length S))), (84, [], [], (fun _ v _ => v = (vi ((k : Nat) : Int)))), (85, [], [19, 20], (fun _ v _ => v = (ve (vs R (kw).length S) ((((k : Nat) : Int)).toNat * 1)))), (86, [], [19, 20, 21], (fun _ v _ => v = (vi zk))), (87, [], [0, 1, 2, 3, 4, 5, 6, 7, 8, 9, 10, 11, 12, 13, 14, 15, 16, 17, 18, 19, 20, 21, 22], (fun _ v _ => v = (vi (((y + (xorI (xorI (rot i 6) (rot i 11)) (rot i 25))) + (xorI (andI i q) (andI (xorI i 4294967295) r))) + zk)))), (88, [], [], (fun _ v _ => v = (vs T (schedP p).length V))), (89, [], [], (fun _ v _ => v = (vi ((k : Nat) : Int)))), (90, [], [24, 25], (fun _ v _ => v = (ve (vs T (schedP p).length V) ((((k : Nat) : Int)).toNat * 1)))), (91, [], [24, 25, 26], (fun _ v _ => v = (vi zw)))] : GV) (fun _ L => Keep av L) [] mixed rfl (by kernel_rfl) (by kernel_rfl) ?_ (fun _ _ h => h) (fun _ _ _ _ h _ k => h.trans k) trivial ?_ ?_ ?_
   ·exact ⟨hV, hE, ⟨hV, hE, ⟨hV, hE, ⟨hV, hE, ⟨hV, hE, ⟨hV, hE, ⟨hV, hE, ⟨hV, hE, ⟨hV, hE, ⟨hV, hE, ⟨hV, hE, ⟨hV, hE, ⟨hV, hE, ⟨hV, hE, ⟨hV, hE, ⟨hV, hE, ⟨hV, hE, ⟨hV, hE, ⟨hV, hE, ⟨hV, hE, ⟨hV, hE, ⟨hV, hE, ⟨hV, hE, ⟨hV, hE, ⟨hV, hE, ⟨hV, hE, ⟨hV, hE, ⟨hV, hE, trivial⟩⟩⟩⟩⟩⟩⟩⟩⟩⟩⟩⟩⟩⟩⟩⟩⟩⟩⟩⟩⟩⟩⟩⟩⟩⟩⟩⟩
   ·exact trivial
   ·refine ⟨?_, ⟨?_, ⟨?_, ⟨?_, ⟨?_, ⟨?_, ⟨?_, ⟨?_, ⟨?_, ⟨?_, ⟨?_, ⟨?_, ⟨?_, ⟨?_, ⟨?_, ⟨?_, ⟨?_, ⟨?_, ⟨?_, ⟨?_, ⟨?_, ⟨?_, ⟨?_, ⟨?_, ⟨?_, ⟨?_, ⟨?_, ⟨?_, trivial⟩⟩⟩⟩⟩⟩⟩⟩⟩⟩⟩⟩⟩⟩⟩⟩⟩⟩⟩⟩⟩⟩⟩⟩⟩⟩⟩⟩
    ·intro _ E cR _
     rintro _ _ _ _ _ _ _ _ _ _ _ _ _ _ _ _ _ _ _ _ _ _ _ _ _ _ _ _
     show WL _ _ _ _ _ _ _
     refine mw (vi y) ?_
     exact f1
    ·intro _ E cS _
     rintro _ _ _ _ _ _ _ _ _ _ _ _ _ _ _ _ _ _ _ _ _ _ _ _ _ _ _ _
     show WL _ _ _ _ _ _ _
     refine mw (vi i) ?_
     exact f1
    ·intro _ E cT _
     rintro _ _ rfl _ _ _ _ _ _ _ _ _ _ _ _ _ _ _ _ _ _ _ _ _ _ _ _ _ _
     show WL _ _ _ _ _ _ _
     refine cl wN (csRot E i 6 (by omega) (by omega)) ?_
     rintro _ Z ⟨bT, rfl⟩
     have cU := rot_b i 6
     exact wl_finT bT rfl
    ·intro _ E cV _
     rintro _ _ _ _ _ _ _ _ _ _ _ _ _ _ _ _ _ _ _ _ _ _ _ _ _ _ _ _
     show WL _ _ _ _ _ _ _
     refine mw (vi i) ?_
     exact f1
    ·intro _ E cW _
     rintro _ _ rfl _ rfl
     have cX := rot_b i 6
     rintro _ rfl _ _ _ _ _ _ _ _ _ _ _ _ _ _ _ _ _ _ _ _ _ _ _ _
     show WL _ _ _ _ _ _ _
     refine cl wN (csRot E i 11 (by omega) (by omega)) ?_
     rintro _ Z ⟨bU, rfl⟩
     have cY := rot_b i 11
     exact wl_finT bU rfl
    ·intro _ E cZ _
     rintro _ _ rfl _ rfl
     have da := rot_b i 6
     rintro _ rfl _ rfl
     have db := rot_b i 11
     rintro _ _ _ _ _ _ _ _ _ _ _ _ _ _ _ _ _ _ _ _ _ _ _
     show WL _ _ _ _ _ _ _
     refine wl_xor (rot i 6) (rot i 11) wN rfl rfl (by kernel_rfl) (by omega) (by omega) (by omega) (by omega) ?_
     have dc := xorI_b (a := (rot i 6)) (b := (rot i 11)) (by omega) (by omega)
     exact f1
    ·intro _ E dd _
     rintro _ _ _ _ _ _ _ _ _ _ _ _ _ _ _ _ _ _ _ _ _ _ _ _ _ _ _ _
     show WL _ _ _ _ _ _ _
     refine mw (vi i) ?_
     exact f1
    ·intro _ E de _
     rintro _ _ rfl _ rfl
     have df := rot_b i 6
     rintro _ rfl _ rfl
     have dg := rot_b i 11
     rintro _ _ rfl _ _ _ _ _ _ _ _ _ _ _ _ _ _ _ _ _ _ _ _ _
     show WL _ _ _ _ _ _ _
     refine cl wN (csRot E i 25 (by omega) (by omega)) ?_
     rintro _ Z ⟨bW, rfl⟩
     have dh := rot_b i 25
     exact wl_finT bW rfl
    ·intro _ E di _
     rintro _ _ rfl _ rfl
     have dj := rot_b i 6
     rintro _ rfl _ rfl
     have dk := rot_b i 11
     rintro _ rfl
     have dl := xorI_b (a := (rot i 6)) (b := (rot i 11)) (by omega) (by omega)
     rintro _ rfl _ rfl
     have dm := rot_b i 25
     rintro _ _ _ _ _ _ _ _ _ _ _ _ _ _ _ _ _ _ _ _
     show WL _ _ _ _ _ _ _
     refine wl_xor (xorI (rot i 6) (rot i 11)) (rot i 25) wN rfl rfl (by kernel_rfl) (by omega) (by omega) (by omega) (by omega) ?_
     have dn := xorI_b (a := (xorI (rot i 6) (rot i 11))) (b := (rot i 25)) (by omega) (by omega)
     exact f1
    ·intro _ E dp _
     rintro _ rfl _ rfl _ rfl
     have dq := rot_b i 6
     rintro _ rfl _ rfl
     have dr := rot_b i 11
     rintro _ rfl
     have ds := xorI_b (a := (rot i 6)) (b := (rot i 11)) (by omega) (by omega)
     rintro _ rfl _ rfl
     have dt := rot_b i 25
     rintro _ rfl
     have du := xorI_b (a := (xorI (rot i 6) (rot i 11))) (b := (rot i 25)) (by omega) (by omega)
     rintro _ _ _ _ _ _ _ _ _ _ _ _ _ _ _ _ _ _ _
     show WL _ _ _ _ _ _ _
     refine ar (y + (xorI (xorI (rot i 6) (rot i 11)) (rot i 25))) wN ?_
     exact f1
    ·intro _ E dv _
     rintro _ _ _ _ _ _ _ _ _ _ _ _ _ _ _ _ _ _ _ _ _ _ _ _ _ _ _ _
     show WL _ _ _ _ _ _ _
     refine mw (vi i) ?_
     exact f1
    ·intro _ E dw _
     rintro _ _ _ _ _ _ _ _ _ _ _ _ _ _ _ _ _ _ _ _ _ _ _ _ _ _ _ _
     show WL _ _ _ _ _ _ _
     refine mw (vi q) ?_
     exact f1
    ·intro _ E dx _
     rintro _ _ _ _ _ _ _ _ _ _ _ rfl _ rfl _ _ _ _ _ _ _ _ _ _ _ _ _ _ _ _
     show WL _ _ _ _ _ _ _
     refine wl_andG i q wN rfl rfl (by kernel_rfl) (by omega) (by omega) (by omega) (by omega) ?_
     have dy := andI_b (a := i) (b := q) (by omega)
     exact f1
    ·intro _ E dz _
     rintro _ _ _ _ _ _ _ _ _ _ _ _ _ _ _ _ _ _ _ _ _ _ _ _ _ _ _ _
     show WL _ _ _ _ _ _ _
     refine mw (vi i) ?_
     exact f1
    ·intro _ E d0 _
     rintro _ _ _ _ _ _ _ _ _ _ _ _ _ _ rfl _ _ _ _ _ _ _ _ _ _ _ _ _ _
     show WL _ _ _ _ _ _ _
     refine wl_xor i 4294967295 wN rfl rfl (by kernel_rfl) (by omega) (by omega) (by omega) (by omega) ?_
     have d1 := xorI_b (a := i) (b := 4294967295) (by omega) (by omega)
     exact f1
    ·intro _ E d2 _
     rintro _ _ _ _ _ _ _ _ _ _ _ _ _ _ _ _ _ _ _ _ _ _ _ _ _ _ _ _
     show WL _ _ _ _ _ _ _
     refine mw (vi r) ?_
     exact f1
    ·intro _ E d3 _
     rintro _ _ _ _ _ _ _ _ _ _ _ _ _ _ rfl _ rfl
     have d4 := xorI_b (a := i) (b := 4294967295) (by omega) (by omega)
     rintro _ rfl _ _ _ _ _ _ _ _ _ _ _ _
     show WL _ _ _ _ _ _ _
     refine wl_andG (xorI i 4294967295) r wN rfl rfl (by kernel_rfl) (by omega) (by omega) (by omega) (by omega) ?_
     have d5 := andI_b (a := (xorI i 4294967295)) (b := r) (by omega)
     exact f1
    ·intro _ E d6 _
     rintro _ _ _ _ _ _ _ _ _ _ _ rfl _ rfl _ rfl
     have d7 := andI_b (a := i) (b := q) (by omega)
     rintro _ rfl _ rfl
     have d8 := xorI_b (a := i) (b := 4294967295) (by omega) (by omega)
     rintro _ rfl _ rfl
     have d9 := andI_b (a := (xorI i 4294967295)) (b := r) (by omega)
     rintro _ _ _ _ _ _ _ _ _ _ _
     show WL _ _ _ _ _ _ _
     refine wl_xor (andI i q) (andI (xorI i 4294967295) r) wN rfl rfl (by kernel_rfl) (by omega) (by omega) (by omega) (by omega) ?_
     have dA := xorI_b (a := (andI i q)) (b := (andI (xorI i 4294967295) r)) (by omega) (by omega)
     exact f1
    ·intro _ E dB _
     rintro _ rfl _ rfl _ rfl
     have dC := rot_b i 6
     rintro _ rfl _ rfl
     have dD := rot_b i 11
     rintro _ rfl
     have dE := xorI_b (a := (rot i 6)) (b := (rot i 11)) (by omega) (by omega)
     rintro _ rfl _ rfl
     have dG := rot_b i 25
     rintro _ rfl
     have dH := xorI_b (a := (xorI (rot i 6) (rot i 11))) (b := (rot i 25)) (by omega) (by omega)
     rintro _ rfl _ rfl _ rfl _ rfl
     have dI := andI_b (a := i) (b := q) (by omega)
     rintro _ rfl _ rfl
     have dJ := xorI_b (a := i) (b := 4294967295) (by omega) (by omega)
     rintro _ rfl _ rfl
     have dK := andI_b (a := (xorI i 4294967295)) (b := r) (by omega)
     rintro _ rfl
     have dL := xorI_b (a := (andI i q)) (b := (andI (xorI i 4294967295) r)) (by omega) (by omega)
     rintro _ _ _ _ _ _ _ _ _ _
     show WL _ _ _ _ _ _ _
     refine ar ((y + (xorI (xorI (rot i 6) (rot i 11)) (rot i 25))) + (xorI (andI i q) (andI (xorI i 4294967295) r))) wN ?_
     exact f1
    ·intro _ E dM _
     rintro _ _ _ _ _ _ _ _ _ _ _ _ _ _ _ _ _ _ _ _ _ _ _ _ _ _ _ _
     show WL _ _ _ _ _ _ _
     refine mw (vs R (kw).length S) ?_
     exact f1
    ·intro _ E dN _
     rintro _ _ _ _ _ _ _ _ _ _ _ _ _ _ _ _ _ _ _ _ _ _ _ _ _ _ _ _
     show WL _ _ _ _ _ _ _
     refine mw (vi ((k : Nat) : Int)) ?_
     exact f1
    ·intro _ E bX _
     rintro _ _ _ _ _ _ _ _ _ _ _ _ _ _ _ _ _ _ _ _ rfl _ rfl _ _ _ _ _ _ _
     show WL _ _ _ _ _ _ _
     have bY := (own_kp (own_ch (own_kp (own_kp ak O) M) W (fun g hg hlt hk => by have ac := (own_lt ak g hg).2; have ad : au.heap.size ≤ A.heap.size := (z2 O M); have ae : A.heap.size ≤ g := hk; omega)) bX)
     refine ix wN ((k : Nat) : Int) slTy_67 (Rd.of_own bY) ?_
     exact f1
    ·intro _ E bZ _
     rintro _ _ _ _ _ _ _ _ _ _ _ _ _ _ _ _ _ _ _ _ rfl _ rfl _ rfl _ _ _ _ _ _
     show WL _ _ _ _ _ _ _
     have ca := (own_kp (own_ch (own_kp (own_kp ak O) M) W (fun g hg hlt hk => by have ac := (own_lt ak g hg).2; have ad : au.heap.size ≤ A.heap.size := (z2 O M); have ae : A.heap.size ≤ g := hk; omega)) bZ)
     refine wl_loadE (iV zk) wN rfl rfl rfl rfl isAgg_3 (Rd.of_own ca) (by rw [← hzk]; exact iget (by simp) (by first | omega | (simp <;> omega))) ?_
     exact f1
    ·intro _ E dO _
     rintro _ rfl _ rfl _ rfl
     have dP := rot_b i 6
     rintro _ rfl _ rfl
     have dQ := rot_b i 11
     rintro _ rfl
     have dR := xorI_b (a := (rot i 6)) (b := (rot i 11)) (by omega) (by omega)
     rintro _ rfl _ rfl
     have dS := rot_b i 25
     rintro _ rfl
     have dU := xorI_b (a := (xorI (rot i 6) (rot i 11))) (b := (rot i 25)) (by omega) (by omega)
     rintro _ rfl _ rfl _ rfl _ rfl
     have dV := andI_b (a := i) (b := q) (by omega)
     rintro _ rfl _ rfl
     have dW := xorI_b (a := i) (b := 4294967295) (by omega) (by omega)
     rintro _ rfl _ rfl
     have dX := andI_b (a := (xorI i 4294967295)) (b := r) (by omega)
     rintro _ rfl
     have dY := xorI_b (a := (andI i q)) (b := (andI (xorI i 4294967295) r)) (by omega) (by omega)
     rintro _ rfl _ rfl _ rfl _ rfl _ rfl _ _ _ _ _
     show WL _ _ _ _ _ _ _
     refine ar (((y + (xorI (xorI (rot i 6) (rot i 11)) (rot i 25))) + (xorI (andI i q) (andI (xorI i 4294967295) r))) + zk) wN ?_
     exact f1
    ·intro _ E dZ _
     rintro _ _ _ _ _ _ _ _ _ _ _ _ _ _ _ _ _ _ _ _ _ _ _ _ _ _ _ _
     show WL _ _ _ _ _ _ _
     refine mw (vs T (schedP p).length V) ?_
     exact f1
    ·intro _ E ea _
     rintro _ _ _ _ _ _ _ _ _ _ _ _ _ _ _ _ _ _ _ _ _ _ _ _ _ _ _ _
     show WL _ _ _ _ _ _ _
     refine mw (vi ((k : Nat) : Int)) ?_
     exact f1
    ·intro _ E cb _
     rintro _ _ _ _ _ _ _ _ _ _ _ _ _ _ _ _ _ _ _ _ _ _ _ _ _ rfl _ rfl _ _
     show WL _ _ _ _ _ _ _
     have cc := (own_kp (own_ch (own_kp am M) W (fun g hg hlt hk => by have ac := (own_lt am g hg).2; have ad : aB.heap.size ≤ A.heap.size := M.size; have ae : A.heap.size ≤ g := hk; omega)) cb)
     refine ix wN ((k : Nat) : Int) slTy_67 (Rd.of_own cc) ?_
     exact f1
    ·intro _ E cd _
     rintro _ _ _ _ _ _ _ _ _ _ _ _ _ _ _ _ _ _ _ _ _ _ _ _ _ rfl _ rfl _ rfl _
     show WL _ _ _ _ _ _ _
     have ce := (own_kp (own_ch (own_kp am M) W (fun g hg hlt hk => by have ac := (own_lt am g hg).2; have ad : aB.heap.size ≤ A.heap.size := M.size; have ae : A.heap.size ≤ g := hk; omega)) cd)
     refine wl_loadE (iV zw) wN rfl rfl rfl rfl isAgg_3 (Rd.of_own ce) (by rw [← hzw]; exact iget (by simp) (by first | omega | (simp <;> omega))) ?_
     exact f1
   ·intro _ E aJ
    rintro _ rfl _ rfl _ rfl
    have ec := rot_b i 6
    rintro _ rfl _ rfl
    have ed := rot_b i 11
    rintro _ rfl
    have ee := xorI_b (a := (rot i 6)) (b := (rot i 11)) (by omega) (by omega)
    rintro _ rfl _ rfl
    have ef := rot_b i 25
    rintro _ rfl
    have eg := xorI_b (a := (xorI (rot i 6) (rot i 11))) (b := (rot i 25)) (by omega) (by omega)
    rintro _ rfl _ rfl _ rfl _ rfl
    have eh := andI_b (a := i) (b := q) (by omega)
    rintro _ rfl _ rfl
    have ej := xorI_b (a := i) (b := 4294967295) (by omega) (by omega)
    rintro _ rfl _ rfl
    have ek := andI_b (a := (xorI i 4294967295)) (b := r) (by omega)
    rintro _ rfl
    have em := xorI_b (a := (andI i q)) (b := (andI (xorI i 4294967295) r)) (by omega) (by omega)
    rintro _ rfl _ rfl _ rfl _ rfl _ rfl _ rfl _ rfl _ rfl _ rfl _ rfl
    show WL _ _ _ _ _ _ _
    refine ar ((((y + (xorI (xorI (rot i 6) (rot i 11)) (rot i 25))) + (xorI (andI i q) (andI (xorI i 4294967295) r))) + zk) + zw) wN ?_
    refine wl_and ((((y + (xorI (xorI (rot i 6) (rot i 11)) (rot i 25))) + (xorI (andI i q) (andI (xorI i 4294967295) r))) + zk) + zw) 4294967295 4294967296 32 wN rfl rfl (by decide) (by decide) (by decide) (by kernel_rfl) ?_
    refine aw (vi (((((y + (xorI (xorI (rot i 6) (rot i 11)) (rot i 25))) + (xorI (andI i q) (andI (xorI i 4294967295) r))) + zk) + zw) % 4294967296)) ?_
    refine nx ?_
    refine mw (vi o) ?_
    refine cl wN (csRot E o 2 (by omega) (by omega)) ?_
    rintro _ Z ⟨aK, rfl⟩
    have cg := (aD.extk aJ).extk aK
    have en := rot_b o 2
    refine mw (vi o) ?_
    refine cl wN (csRot Z o 13 (by omega) (by omega)) ?_
    rintro _ K ⟨aL, rfl⟩
    have eo := rot_b o 13
    refine wl_xor (rot o 2) (rot o 13) wN rfl rfl (by kernel_rfl) (by omega) (by omega) (by omega) (by omega) ?_
    have ep := xorI_b (a := (rot o 2)) (b := (rot o 13)) (by omega) (by omega)
    refine mw (vi o) ?_
    refine cl wN (csRot K o 22 (by omega) (by omega)) ?_
    rintro _ bN ⟨aM, rfl⟩
    have ci := (cg.extk aL).extk aM
    have er := rot_b o 22
    refine wl_xor (xorI (rot o 2) (rot o 13)) (rot o 22) wN rfl rfl (by kernel_rfl) (by omega) (by omega) (by omega) (by omega) ?_
    have es := xorI_b (a := (xorI (rot o 2) (rot o 13))) (b := (rot o 22)) (by omega) (by omega)
    refine mw (vi o) ?_
    refine mw (vi s) ?_
    refine wl_andG o s wN rfl rfl (by kernel_rfl) (by omega) (by omega) (by omega) (by omega) ?_
    have et := andI_b (a := o) (b := s) (by omega)
    refine mw (vi o) ?_
    refine mw (vi t) ?_
    refine wl_andG o t wN rfl rfl (by kernel_rfl) (by omega) (by omega) (by omega) (by omega) ?_
    have eu := andI_b (a := o) (b := t) (by omega)
    refine wl_xor (andI o s) (andI o t) wN rfl rfl (by kernel_rfl) (by omega) (by omega) (by omega) (by omega) ?_
    have ew := xorI_b (a := (andI o s)) (b := (andI o t)) (by omega) (by omega)
    refine mw (vi s) ?_
    refine mw (vi t) ?_
    refine wl_andG s t wN rfl rfl (by kernel_rfl) (by omega) (by omega) (by omega) (by omega) ?_
    have ex := andI_b (a := s) (b := t) (by omega)
    refine wl_xor (xorI (andI o s) (andI o t)) (andI s t) wN rfl rfl (by kernel_rfl) (by omega) (by omega) (by omega) (by omega) ?_
    have ey := xorI_b (a := (xorI (andI o s) (andI o t))) (b := (andI s t)) (by omega) (by omega)
    refine ar ((xorI (xorI (rot o 2) (rot o 13)) (rot o 22)) + (xorI (xorI (andI o s) (andI o t)) (andI s t))) wN ?_
    refine wl_and ((xorI (xorI (rot o 2) (rot o 13)) (rot o 22)) + (xorI (xorI (andI o s) (andI o t)) (andI s t))) 4294967295 4294967296 32 wN rfl rfl (by decide) (by decide) (by decide) (by kernel_rfl) ?_
    refine aw (vi (((xorI (xorI (rot o 2) (rot o 13)) (rot o 22)) + (xorI (xorI (andI o s) (andI o t)) (andI s t))) % 4294967296)) ?_
    refine nx ?_
    refine mw (vi r) ?_
    refine aw (vi r) ?_
    refine nx ?_
    refine mw (vi q) ?_
    refine aw (vi q) ?_
    refine nx ?_
    refine mw (vi i) ?_
    refine aw (vi i) ?_
    refine nx ?_
    refine mw (vi D) ?_
    refine mw (vi (((((y + (xorI (xorI (rot i 6) (rot i 11)) (rot i 25))) + (xorI (andI i q) (andI (xorI i 4294967295) r))) + zk) + zw) % 4294967296)) ?_
    refine ar (D + (((((y + (xorI (xorI (rot i 6) (rot i 11)) (rot i 25))) + (xorI (andI i q) (andI (xorI i 4294967295) r))) + zk) + zw) % 4294967296)) wN ?_
    refine wl_and (D + (((((y + (xorI (xorI (rot i 6) (rot i 11)) (rot i 25))) + (xorI (andI i q) (andI (xorI i 4294967295) r))) + zk) + zw) % 4294967296)) 4294967295 4294967296 32 wN rfl rfl (by decide) (by decide) (by decide) (by kernel_rfl) ?_
    refine aw (vi ((D + (((((y + (xorI (xorI (rot i 6) (rot i 11)) (rot i 25))) + (xorI (andI i q) (andI (xorI i 4294967295) r))) + zk) + zw) % 4294967296)) % 4294967296)) ?_
    refine nx ?_
    refine mw (vi t) ?_
    refine aw (vi t) ?_
    refine nx ?_
    refine mw (vi s) ?_
    refine aw (vi s) ?_
    refine nx ?_
    refine mw (vi o) ?_
    refine aw (vi o) ?_
    refine wl_nil <| wq_then <| wc_region ?_
    refine mw (vi (((((y + (xorI (xorI (rot i 6) (rot i 11)) (rot i 25))) + (xorI (andI i q) (andI (xorI i 4294967295) r))) + zk) + zw) % 4294967296)) ?_
    refine mw (vi (((xorI (xorI (rot o 2) (rot o 13)) (rot o 22)) + (xorI (xorI (andI o s) (andI o t)) (andI s t))) % 4294967296)) ?_
    refine ar ((((((y + (xorI (xorI (rot i 6) (rot i 11)) (rot i 25))) + (xorI (andI i q) (andI (xorI i 4294967295) r))) + zk) + zw) % 4294967296) + (((xorI (xorI (rot o 2) (rot o 13)) (rot o 22)) + (xorI (xorI (andI o s) (andI o t)) (andI s t))) % 4294967296)) wN ?_
    refine wl_and ((((((y + (xorI (xorI (rot i 6) (rot i 11)) (rot i 25))) + (xorI (andI i q) (andI (xorI i 4294967295) r))) + zk) + zw) % 4294967296) + (((xorI (xorI (rot o 2) (rot o 13)) (rot o 22)) + (xorI (xorI (andI o s) (andI o t)) (andI s t))) % 4294967296)) 4294967295 4294967296 32 wN rfl rfl (by decide) (by decide) (by decide) (by kernel_rfl) ?_
    refine aw (vi (((((((y + (xorI (xorI (rot i 6) (rot i 11)) (rot i 25))) + (xorI (andI i q) (andI (xorI i 4294967295) r))) + zk) + zw) % 4294967296) + (((xorI (xorI (rot o 2) (rot o 13)) (rot o 22)) + (xorI (xorI (andI o s) (andI o t)) (andI s t))) % 4294967296)) % 4294967296)) ?_
    refine wl_nil <| wq_blk_normal <| wq_then <| wc_region ?_
    refine mw (vi ((k : Nat) : Int)) ?_
    refine ar (((k : Nat) : Int) + 1) wN ?_
    refine aw (vi (((k : Nat) : Int) + 1)) ?_
    refine wl_nil ?_
    refine wq_loopP (w0 := av) [(0, (vs B j.length C)), (4, (vs none 0 0)), (5, (vs H j.length I)), (6, (vs R (kw).length S)), (7, (vs T (schedP p).length V)), (8, (vi ((cmpN (schedP p) (s8of j) (k + 1)).a))), (9, (vi ((cmpN (schedP p) (s8of j) (k + 1)).b))), (10, (vi ((cmpN (schedP p) (s8of j) (k + 1)).c))), (11, (vi ((cmpN (schedP p) (s8of j) (k + 1)).d))), (12, (vi ((cmpN (schedP p) (s8of j) (k + 1)).e))), (13, (vi ((cmpN (schedP p) (s8of j) (k + 1)).f))), (14, (vi ((cmpN (schedP p) (s8of j) (k + 1)).g))), (15, (vi ((cmpN (schedP p) (s8of j) (k + 1)).z))), (16, (vi (((k + 1) : Nat) : Int)))] ?_ ?_ ?_
    · exact ⟨rfl, rfl, rfl, rfl, rfl, (cA (Value.int .i64) (show ((((((((y + (xorI (xorI (rot i 6) (rot i 11)) (rot i 25))) + (xorI (andI i q) (andI (xorI i 4294967295) r))) + zk) + zw) % 4294967296) + (((xorI (xorI (rot o 2) (rot o 13)) (rot o 22)) + (xorI (xorI (andI o s) (andI o t)) (andI s t))) % 4294967296)) % 4294967296) : Int) = (cmpN (schedP p) (s8of j) (k + 1)).a by subst hzw hzk hi_a hi_b hi_c hi_d hi_e hi_f hi_g hi_z; exact cmp_sa (by omega) rfl rfl)), (cA (Value.int .i64) (show (o : Int) = (cmpN (schedP p) (s8of j) (k + 1)).b by rw [hi_a]; rfl)), (cA (Value.int .i64) (show (s : Int) = (cmpN (schedP p) (s8of j) (k + 1)).c by rw [hi_b]; rfl)), (cA (Value.int .i64) (show (t : Int) = (cmpN (schedP p) (s8of j) (k + 1)).d by rw [hi_c]; rfl)), (cA (Value.int .i64) (show (((D + (((((y + (xorI (xorI (rot i 6) (rot i 11)) (rot i 25))) + (xorI (andI i q) (andI (xorI i 4294967295) r))) + zk) + zw) % 4294967296)) % 4294967296) : Int) = (cmpN (schedP p) (s8of j) (k + 1)).e by subst hzw hzk hi_a hi_b hi_c hi_d hi_e hi_f hi_g hi_z; exact cmp_se (by omega) rfl)), (cA (Value.int .i64) (show (i : Int) = (cmpN (schedP p) (s8of j) (k + 1)).f by rw [hi_e]; rfl)), (cA (Value.int .i64) (show (q : Int) = (cmpN (schedP p) (s8of j) (k + 1)).g by rw [hi_f]; rfl)), (cA (Value.int .i64) (show (r : Int) = (cmpN (schedP p) (s8of j) (k + 1)).z by rw [hi_g]; rfl)), (cA (Value.int .i64) (show ((((k : Nat) : Int) + 1) : Int) = (((k + 1) : Nat) : Int) by omega)), trivial⟩
    · exact fun u => ⟨(k + 1), (cmpN (schedP p) (s8of j) (k + 1)).a, (cmpN (schedP p) (s8of j) (k + 1)).b, (cmpN (schedP p) (s8of j) (k + 1)).c, (cmpN (schedP p) (s8of j) (k + 1)).d, (cmpN (schedP p) (s8of j) (k + 1)).e, (cmpN (schedP p) (s8of j) (k + 1)).f, (cmpN (schedP p) (s8of j) (k + 1)).g, (cmpN (schedP p) (s8of j) (k + 1)).z, u, rfl, ci, ((((((Ch.refl (fun k => A.heap.size ≤ k) A).ext W (fun k hk => hk)).extk aJ).extk aK).extk aL).extk aM), (by omega), (by first | rfl | assumption), (by first | rfl | assumption), (by first | rfl | assumption), (by first | rfl | assumption), (by first | rfl | assumption), (by first | rfl | assumption), (by first | rfl | assumption), (by first | rfl | assumption)⟩
    · show (64 - (((k + 1) : Nat) : Int)).toNat < (64 - ((k : Nat) : Int)).toNat; omega

theorem csl2Out (b : World) (r : Value) (a : List Int) (I : R_67 b r a) (P : a.length = 8) : Fn Try.prog 102 #[r] b (fun v f => Keep b f ∧ O_22 f b.heap.size v (wordB a)) := by
 obtain ⟨g, h, rfl, s, Q⟩ := I
 refine fn_ofS (n := 17) [(vs g a.length h)] Try.func102 rfl rfl ?_
 refine sr ?_
 refine aw (vs none 0 0) ?_
 refine nx ?_
 refine wl_lit0 wN rfl rfl slTy_22 (fun w => by kernel_rfl) ?_
 intro p q t J
 have K := (Ch.base b).extk t
 refine aw (vs (some p) 0 0) ?_
 refine n4 ?_
 refine aw (vi 0) ?_
 refine wl_nil <| wq_then <| wc_block ?_
 have y : ([] : List UInt8) = wordB (a.take 0) := by rfl
 have A : 0 = (wordB (a.take 0)).length := by rw [← y]; try (first | rfl | simp only [List.length_set] | simp)
 refine wc_loopP [(0, (vs g a.length h)), (2, (vs none 0 0)), (3, (.slice (some p) (wordB (a.take 0)).length 0)), (4, (vi ((0 : Nat) : Int)))] ⟨rfl, rfl, rfl, (cA (Value.int .i64) (show (0 : Int) = ((0 : Nat) : Int) by omega)), trivial⟩ (fun e' f => ∃ (k : Nat) (B : Env) (d : Option Addr) (e : Nat), e' = pt B [(0, (vs g a.length h)), (2, (vs none 0 0)), (3, (.slice d (wordB (a.take k)).length e)), (4, (vi ((k : Nat) : Int)))] ∧ Ch (fun k => b.heap.size ≤ k) b f ∧ Ch (fun k => b.heap.size ≤ k) q f ∧ k ≤ a.length ∧ (World.ownsRow f b.heap.size 5 1 (.slice d (wordB (a.take k)).length e) (wordB (a.take k)).length ((wordB (a.take k)).map bV) ∧ (wordB (a.take k)).length ≤ 1073741824)) (fun e' _ => a.length - ((intOf (e' 4))).toNat) ?_ ?_
 ·exact fun u => ⟨0, u, (some p), 0, rfl, K, (Ch.refl (fun k => b.heap.size ≤ k) q), (by omega), ⟨(by rw [← A, ← y]; exact J), (by rw [← A]; first | exact (by simp) | (simp only [List.length_append, List.length_take, List.length_replicate]; omega))⟩⟩
 ·rintro _ C ⟨k, B, d, e, rfl, j, D, R, ⟨E, F⟩⟩
  have hwl := wordB_len (a.take k)
  have htl : (a.take k).length = min k a.length := List.length_take
  refine wc_seq <| sr ?_
  refine mw (vi ((k : Nat) : Int)) ?_
  refine pu (vb (decide (((k : Nat) : Int) < 8))) wN ?_
  refine n2 ?_
  rcases bf (decide (((k : Nat) : Int) < 8)) with i | i
  ·have S := dF i
   refine cf i ?_
   refine wc_exit <| wq_then_exit <| wq_then_exit <| wq_blk_exit <| wq_then <| sr ?_
   refine mw (vs d (wordB (a.take k)).length e) ?_
   refine aw (vs d (wordB (a.take k)).length e) ?_
   refine n3 ?_
   refine rt (vs d (wordB (a.take k)).length e) ?_
   refine ⟨j.keep0, ?_⟩
   have L : wordB a = (wordB (a.take k)) := by exact wordB_end (by omega)
   rw [L]
   exact ⟨_, _, rfl, E, F, ⟨trivial, trivial⟩⟩
  have T := dT i
  refine ct i ?_
  refine wc_skip <| wq_then <| wc_seq <| wc_block <| wc_region ?_
  refine mw (vs d (wordB (a.take k)).length e) ?_
  refine mw (vs g a.length h) ?_
  refine mw (vi ((k : Nat) : Int)) ?_
  refine ix wN ((k : Nat) : Int) slTy_67 (s.from0 j) ?_
  refine ei (x := a) k wN isAgg_3 (s.from0 j) ?_
  refine cl wN (csPutN C _ (wordB (a.take k)) (mR_22 (Rd.of_own E) F) (a.getD k 0) 4 (by first | omega | (simp; done) | (simp; omega) | (simp only [List.length_append, List.length_cons, List.length_nil] at *; omega))) ?_
  rintro _ V ⟨G, ⟨m, o, rfl, M, N, W⟩⟩
  have O := j.extk G
  have X := putN_len (wordB (a.take k)) (a.getD k 0) 4
  refine aw (vs m (putN (wordB (a.take k)) (a.getD k 0) 4).length o) ?_
  refine wl_nil <| wq_blk_normal <| wq_then <| wc_region ?_
  refine mw (vi ((k : Nat) : Int)) ?_
  refine ar (((k : Nat) : Int) + 1) wN ?_
  refine aw (vi (((k : Nat) : Int) + 1)) ?_
  refine wl_nil ?_
  have H : ((putN (wordB (a.take k)) (a.getD k 0) 4) : List UInt8) = wordB (a.take (k + 1)) := by exact wordB_next (by omega)
  refine wq_loopP (w0 := C) [(0, (vs g a.length h)), (2, (vs none 0 0)), (3, (.slice m (wordB (a.take (k + 1))).length o)), (4, (vi (((k + 1) : Nat) : Int)))] ?_ ?_ ?_
  · exact ⟨rfl, rfl, (cA (fun l : List UInt8 => Value.slice m l.length o) H), (cA (Value.int .i64) (show ((((k : Nat) : Int) + 1) : Int) = (((k + 1) : Nat) : Int) by omega)), trivial⟩
  · exact fun u => ⟨(k + 1), u, m, o, rfl, O, (((Ch.refl (fun k => b.heap.size ≤ k) q).ext D (fun k hk => hk)).extk G), (by omega), (H ▸ ⟨(own_lo M (z2 t D)), N⟩)⟩
  · show a.length - ((((k + 1) : Nat) : Int)).toNat < a.length - (((k : Nat) : Int)).toNat; omega

theorem csSha (b : World) (I : Value) (a : List UInt8) (Z : R_22 b I a)  : Fn Try.prog 95 #[I] b (fun v e => Keep b e ∧ O_22 e b.heap.size v (sha a)) := by
 obtain ⟨p, q, rfl, D, a5⟩ := Z
 refine fn_ofS (n := 33) [(vs p a.length q)] Try.func95 rfl rfl ?_
 refine sr ?_
 refine aw (vs none 0 0) ?_
 refine n4 ?_
 refine mw (vs p a.length q) ?_
 refine ln wN slTy_22 D ?_
 refine pu (vb (decide (1048576 < (a.length : Int)))) wN ?_
 refine n2 ?_
 rcases bt (decide (1048576 < (a.length : Int))) with i | i
 ·have a6 := dT i
  refine ct i ?_
  refine sr ?_
  refine wl_lit0 wN rfl rfl slTy_22 (fun w => by kernel_rfl) ?_
  intro J aa ab ac
  have ad := (Ch.base b).extk ab
  refine aw (vs (some J) 0 0) ?_
  refine n1 ?_
  refine rt (vs (some J) 0 0) ?_
  refine ⟨ad.keep0, ?_⟩
  have ae : sha a = [] := by first | exact sha_f (by omega) | exact sha_s (by omega) (by omega) (by omega)
  rw [ae]
  exact ⟨_, _, rfl, ac, (by simp), ⟨trivial, trivial⟩⟩
 have a7 := dF i
 refine cf i ?_
 refine y1 ?_
 refine wl_lit0 wN rfl rfl slTy_22 (fun w => by kernel_rfl) ?_
 intro a8 aa r af
 have K := (Ch.base b).extk r
 refine mw (vs p a.length q) ?_
 refine ap0 a wN slTy_22 af (D.from0 K) r.size ?_
 intro a9 aA ah E L aB
 have M := K.extk E
 refine mw (vs p a.length q) ?_
 refine ln wN slTy_22 (D.from0 M) ?_
 refine cl wN (csPad ah (a.length : Int)) ?_
 rintro _ aC ⟨s, ⟨aD, aE, rfl, ai, _⟩⟩
 have aF := padP_len (a.length : Int)
 have aj := (own_kp L s)
 refine apB a (padP (a.length : Int)) wN slTy_22 aj (Rd.of_own ai) (z3 r E s) ?_
 intro f h d N O aG ak
 have am := (M.extk s).ext N (fun k hk => nT (Nat.le_refl b.heap.size) (own_lt L k hk).1)
 refine aw (vs f (a ++ (padP (a.length : Int))).length h) ?_
 refine nx ?_
 refine cl wN (csStart d ) ?_
 rintro _ F ⟨t, ⟨x, y, rfl, an, ao, aH⟩⟩
 have ap := am.extk t
 refine aw (vs x (k0).length y) ?_
 refine n4 ?_
 refine aw (vi 0) ?_
 refine wl_nil <| wq_then <| wc_block ?_
 have P : ((k0) : List Int) = foldK k0 (a ++ (padP (a.length : Int))) 0 := by rfl
 refine wc_loopP [(2, (vs none 0 0)), (3, (vs f (a ++ (padP (a.length : Int))).length h)), (4, (.slice x (foldK k0 (a ++ (padP (a.length : Int))) 0).length y)), (5, (vi (64 * ((0 : Nat) : Int))))] ⟨rfl, rfl, (cA (fun l : List Int => Value.slice x l.length y) P), (cA (Value.int .i64) (show (0 : Int) = (64 * ((0 : Nat) : Int)) by omega)), trivial⟩ (fun e' e => ∃ (k : Nat) (Q : Env) (j : Option Addr) (m : Nat), e' = pt Q [(2, (vs none 0 0)), (3, (vs f (a ++ (padP (a.length : Int))).length h)), (4, (.slice j (foldK k0 (a ++ (padP (a.length : Int))) k).length m)), (5, (vi (64 * ((k : Nat) : Int))))] ∧ Ch (fun k => b.heap.size ≤ k) b e ∧ Ch (fun k => d.heap.size ≤ k) F e ∧ 64 * k ≤ (a ++ (padP (a.length : Int))).length ∧ (World.ownsRow e d.heap.size 3 1 (.slice j (foldK k0 (a ++ (padP (a.length : Int))) k).length m) (foldK k0 (a ++ (padP (a.length : Int))) k).length ((foldK k0 (a ++ (padP (a.length : Int))) k).map iV) ∧ (foldK k0 (a ++ (padP (a.length : Int))) k).length ≤ 1073741824)) (fun e' _ => (a ++ padP (a.length : Int)).length - ((intOf (e' 5))).toNat) ?_ ?_
 ·exact fun u => ⟨0, u, x, y, rfl, ap, (Ch.refl (fun k => d.heap.size ≤ k) F), (by omega), (P ▸ ⟨an, ao⟩)⟩
 ·rintro _ G ⟨k, Q, j, m, rfl, R, A, aI, ⟨S, T⟩⟩
  have hal := shaAll a (by omega)
  refine wc_seq <| sr ?_
  refine mw (vi (64 * ((k : Nat) : Int))) ?_
  refine mw (vs f (a ++ (padP (a.length : Int))).length h) ?_
  have H := (own_ch (own_kp O t) A (fun g hg hlt hk => by have aJ := (own_lt O g hg).2; have aK : d.heap.size ≤ d.heap.size := (Nat.le_refl d.heap.size); have aL : d.heap.size ≤ g := hk; omega))
  refine ln wN slTy_22 (Rd.of_own H) ?_
  refine pu (vb (decide ((64 * ((k : Nat) : Int)) < ((a ++ (padP (a.length : Int))).length : Int)))) wN ?_
  refine n2 ?_
  rcases bf (decide ((64 * ((k : Nat) : Int)) < ((a ++ (padP (a.length : Int))).length : Int))) with o | o
  ·have aM := dF o
   refine cf o ?_
   refine wc_exit <| wq_then_exit <| wq_then_exit <| wq_blk_exit <| wq_then <| sr ?_
   refine mw (vs j (foldK k0 (a ++ (padP (a.length : Int))) k).length m) ?_
   refine cl wN (csl2Out G _ (foldK k0 (a ++ (padP (a.length : Int))) k) (mR_67 (Rd.of_own S) T) (by first | omega | exact foldK_len k0_w _ | exact compAll_len (by first | assumption | exact (hashOk_t (by assumption)).1))) ?_
   rintro _ aq ⟨au, ⟨V, W, rfl, av, ax, aN⟩⟩
   have ay := R.extk au
   refine aw (vs V (wordB (foldK k0 (a ++ (padP (a.length : Int))) k)).length W) ?_
   refine n3 ?_
   refine rt (vs V (wordB (foldK k0 (a ++ (padP (a.length : Int))) k)).length W) ?_
   refine ⟨ay.keep0, ?_⟩
   have az : sha a = (wordB (foldK k0 (a ++ (padP (a.length : Int))) k)) := by first | exact sha_f (by omega) | exact sha_s (by omega) (by omega) (by omega)
   rw [az]
   exact ⟨_, _, rfl, (own_lo av (z6 r E s N t A)), ax, ⟨trivial, trivial⟩⟩
  have aO := dT o
  refine ct o ?_
  refine wc_skip <| wq_then <| wc_seq <| wc_block <| wc_region ?_
  refine mw (vs j (foldK k0 (a ++ (padP (a.length : Int))) k).length m) ?_
  refine mw (vs f (a ++ (padP (a.length : Int))).length h) ?_
  refine mw (vi (64 * ((k : Nat) : Int))) ?_
  refine mw (vi (64 * ((k : Nat) : Int))) ?_
  refine ar ((64 * ((k : Nat) : Int)) + 64) wN ?_
  refine slv (((a ++ (padP (a.length : Int))).drop (((64 * ((k : Nat) : Int))).toNat)).take (((((64 * ((k : Nat) : Int)) + 64)).toNat) - (((64 * ((k : Nat) : Int))).toNat))) (((64 * ((k : Nat) : Int))).toNat) ((((64 * ((k : Nat) : Int)) + 64)).toNat) wN slTy_22 (Rd.of_own H) (by first | omega | (simp <;> omega)) (by first | omega | (simp <;> omega)) (by first | rfl | (simp; done) | (rw [List.take_of_length_le (by first | (simp; done) | (simp; omega))])) rfl rfl rfl rfl (.inr ⟨_, _, _, rfl, rfl, by omega⟩) (.inr ⟨_, _, _, rfl, rfl, by omega⟩) ?_
  have a0 : (((64 * ((k : Nat) : Int))).toNat) ≤ ((((64 * ((k : Nat) : Int)) + 64)).toNat) := (by first | omega | (simp <;> omega))
  have a1 : ((((64 * ((k : Nat) : Int)) + 64)).toNat) ≤ (a ++ (padP (a.length : Int))).length := (by first | omega | (simp <;> omega))
  refine cl wN (csCompress G _ (foldK k0 (a ++ (padP (a.length : Int))) k) (mR_67 (Rd.of_own S) T) _ (((a ++ (padP (a.length : Int))).drop (((64 * ((k : Nat) : Int))).toNat)).take (((((64 * ((k : Nat) : Int)) + 64)).toNat) - (((64 * ((k : Nat) : Int))).toNat))) (mR_22 (Rd.subV (x' := (((a ++ (padP (a.length : Int))).drop (((64 * ((k : Nat) : Int))).toNat)).take (((((64 * ((k : Nat) : Int)) + 64)).toNat) - (((64 * ((k : Nat) : Int))).toNat)))) (Rd.of_own H) a0 a1 (by first | rfl | (simp; done) | (rw [List.take_of_length_le (by first | (simp; done) | (simp; omega))]))) (nT (by simp only [List.length_take, List.length_drop]; omega) ak))) ?_
  rintro _ aq ⟨X, ⟨B, C, rfl, a2, a3, aP⟩⟩
  have a4 := R.extk X
  refine aw (vs B (compress (foldK k0 (a ++ (padP (a.length : Int))) k) (((a ++ (padP (a.length : Int))).drop (((64 * ((k : Nat) : Int))).toNat)).take (((((64 * ((k : Nat) : Int)) + 64)).toNat) - (((64 * ((k : Nat) : Int))).toNat)))).length C) ?_
  refine wl_nil <| wq_blk_normal <| wq_then <| wc_region ?_
  refine mw (vi (64 * ((k : Nat) : Int))) ?_
  refine ar ((64 * ((k : Nat) : Int)) + 64) wN ?_
  refine aw (vi ((64 * ((k : Nat) : Int)) + 64)) ?_
  refine wl_nil ?_
  have Y : ((compress (foldK k0 (a ++ (padP (a.length : Int))) k) (((a ++ (padP (a.length : Int))).drop (((64 * ((k : Nat) : Int))).toNat)).take (((((64 * ((k : Nat) : Int)) + 64)).toNat) - (((64 * ((k : Nat) : Int))).toNat)))) : List Int) = foldK k0 (a ++ (padP (a.length : Int))) (k + 1) := by exact foldK_next
  refine wq_loopP (w0 := G) [(2, (vs none 0 0)), (3, (vs f (a ++ (padP (a.length : Int))).length h)), (4, (.slice B (foldK k0 (a ++ (padP (a.length : Int))) (k + 1)).length C)), (5, (vi (64 * (((k + 1) : Nat) : Int))))] ?_ ?_ ?_
  · exact ⟨rfl, rfl, (cA (fun l : List Int => Value.slice B l.length C) Y), (cA (Value.int .i64) (show (((64 * ((k : Nat) : Int)) + 64) : Int) = (64 * (((k + 1) : Nat) : Int)) by omega)), trivial⟩
  · exact fun u => ⟨(k + 1), u, B, C, rfl, a4, (((Ch.refl (fun k => d.heap.size ≤ k) F).ext A (fun k hk => hk)).extk X), (by omega), (Y ▸ ⟨(own_lo a2 (z2 t A)), a3⟩)⟩
  · show (a ++ padP (a.length : Int)).length - ((64 * (((k + 1) : Nat) : Int))).toNat < (a ++ padP (a.length : Int)).length - ((64 * ((k : Nat) : Int))).toNat; omega

theorem csBlockKey (b : World) (M : Value) (a : List UInt8) (af : R_22 b M a)  : Fn Try.prog 94 #[M] b (fun v f => Keep b f ∧ O_22 f b.heap.size v (blockKey a)) := by
 obtain ⟨h, i, rfl, y, N⟩ := af
 refine fn_ofS (n := 23) [(vs h a.length i)] Try.func94 rfl rfl ?_
 refine sr ?_
 refine aw (vs none 0 0) ?_
 refine n4 ?_
 refine mw (vs h a.length i) ?_
 refine ln wN slTy_22 y ?_
 refine pu (vb (decide (1048576 < (a.length : Int)))) wN ?_
 refine n2 ?_
 rcases bt (decide (1048576 < (a.length : Int))) with m | m
 ·have aB := dT m
  refine ct m ?_
  refine sr ?_
  refine wl_lit0 wN rfl rfl slTy_22 (fun w => by kernel_rfl) ?_
  intro O ah ai aj
  have ak := (Ch.base b).extk ai
  refine aw (vs (some O) 0 0) ?_
  refine n1 ?_
  refine rt (vs (some O) 0 0) ?_
  refine ⟨ak.keep0, ?_⟩
  have am : blockKey a = [] := by first | exact blockKey_f (by omega) | exact blockKey_l (by omega) (by omega) (by omega) (by simp only [List.length_append, List.length_replicate] at *; omega) | exact blockKey_s (by omega) (by omega) (by simp only [List.length_append, List.length_replicate] at *; omega)
  rw [am]
  exact ⟨_, _, rfl, aj, (by simp), ⟨trivial, trivial⟩⟩
 have aC := dF m
 refine cf m ?_
 refine y1 ?_
 refine wl_lit0 wN rfl rfl slTy_22 (fun w => by kernel_rfl) ?_
 intro aD ah o an
 have P := (Ch.base b).extk o
 refine mw (vs h a.length i) ?_
 refine ap0 a wN slTy_22 an (y.from0 P) o.size ?_
 intro A B g C ao aE
 have D := P.extk C
 refine aw (vs A a.length B) ?_
 refine n4 ?_
 refine mw (vs h a.length i) ?_
 refine ln wN slTy_22 (y.from0 D) ?_
 refine pu (vb (decide (64 < (a.length : Int)))) wN ?_
 refine n2 ?_
 rcases bf (decide (64 < (a.length : Int))) with p | p
 ·have aF := dF p
  refine cf p ?_
  refine wc_skip <| wq_then <| wc_seq <| wc_block ?_
  have Q : (a : List UInt8) = a ++ List.replicate 0 (0 : UInt8) := by simp
  refine wc_loopP [(2, (vs none 0 0)), (3, (.slice A (a ++ List.replicate 0 (0 : UInt8)).length B))] ⟨rfl, (cA (fun l : List UInt8 => Value.slice A l.length B) Q), trivial⟩ (fun e' f => ∃ (j : Nat) (R : Env) (d : Option Addr) (e : Nat), e' = pt R [(2, (vs none 0 0)), (3, (.slice d (a ++ List.replicate j (0 : UInt8)).length e))] ∧ Ch (fun k => b.heap.size ≤ k) b f ∧ Ch (fun k => b.heap.size ≤ k) g f ∧ a.length + j ≤ 64 ∧ (World.ownsRow f b.heap.size 5 1 (.slice d (a ++ List.replicate j (0 : UInt8)).length e) (a ++ List.replicate j (0 : UInt8)).length ((a ++ List.replicate j (0 : UInt8)).map bV) ∧ (a ++ List.replicate j (0 : UInt8)).length ≤ 1073741824)) (fun e' _ => 64 - (lenOf (e' 3))) ?_ ?_
  ·exact fun u => ⟨0, u, A, B, rfl, D, (Ch.refl (fun k => b.heap.size ≤ k) g), (by omega), (Q ▸ ⟨ao, N⟩)⟩
  ·rintro _ q ⟨j, R, d, e, rfl, S, T, aG, ⟨r, ap⟩⟩
   have hol : (a ++ List.replicate j (0 : UInt8)).length = a.length + j := by rw [List.length_append, List.length_replicate]
   refine wc_seq <| sr ?_
   refine mw (vs d (a ++ List.replicate j (0 : UInt8)).length e) ?_
   refine ln wN slTy_22 (Rd.of_own r) ?_
   refine pu (vb (decide (((a ++ List.replicate j (0 : UInt8)).length : Int) < 64))) wN ?_
   refine n2 ?_
   rcases bf (decide (((a ++ List.replicate j (0 : UInt8)).length : Int) < 64)) with s | s
   ·have aH := dF s
    refine cf s ?_
    refine wc_exit <| wq_then_exit <| wq_then_exit <| wq_blk_exit <| wq_then <| sr ?_
    refine mw (vs d (a ++ List.replicate j (0 : UInt8)).length e) ?_
    refine aw (vs d (a ++ List.replicate j (0 : UInt8)).length e) ?_
    refine n3 ?_
    refine rt (vs d (a ++ List.replicate j (0 : UInt8)).length e) ?_
    refine ⟨S.keep0, ?_⟩
    have aq : blockKey a = (a ++ List.replicate j (0 : UInt8)) := by first | exact blockKey_f (by omega) | exact blockKey_l (by omega) (by omega) (by omega) (by simp only [List.length_append, List.length_replicate] at *; omega) | exact blockKey_s (by omega) (by omega) (by simp only [List.length_append, List.length_replicate] at *; omega)
    rw [aq]
    exact ⟨_, _, rfl, r, ap, ⟨trivial, trivial⟩⟩
   have aI := dT s
   refine ct s ?_
   refine wc_skip <| wq_then <| wc_block <| wc_region ?_
   refine mw (vs d (a ++ List.replicate j (0 : UInt8)).length e) ?_
   refine ltB ([0] : List UInt8) wN slTy_22 ?_
   intro aJ aK V E au
   have av := (own_kp r E)
   refine apB (a ++ List.replicate j (0 : UInt8)) ([0] : List UInt8) wN slTy_22 av (Rd.of_own au) (z4 o C T E) ?_
   intro F G ax W ay aL az
   have a0 := (S.extk E).ext W (fun k hk => nT (Nat.le_refl b.heap.size) (own_lt r k hk).1)
   refine aw (vs F ((a ++ List.replicate j (0 : UInt8)) ++ ([0] : List UInt8)).length G) ?_
   refine wl_nil <| wq_blk_normal ?_
   have X : (((a ++ List.replicate j (0 : UInt8)) ++ ([0] : List UInt8)) : List UInt8) = a ++ List.replicate (j + 1) (0 : UInt8) := by rw [List.replicate_succ', List.append_assoc]
   refine wq_loopP (w0 := q) [(2, (vs none 0 0)), (3, (.slice F (a ++ List.replicate (j + 1) (0 : UInt8)).length G))] ?_ ?_ ?_
   · exact ⟨rfl, (cA (fun l : List UInt8 => Value.slice F l.length G) X), trivial⟩
   · exact fun u => ⟨(j + 1), u, F, G, rfl, a0, ((((Ch.refl (fun k => b.heap.size ≤ k) g).ext T (fun k hk => hk)).extk E).ext W (fun k hk => nT (Nat.le_refl b.heap.size) (own_lt r k hk).1)), (by omega), (X ▸ ⟨ay, az⟩)⟩
   · show 64 - (a ++ List.replicate (j + 1) (0 : UInt8)).length < 64 - (a ++ List.replicate j (0 : UInt8)).length; simp only [List.length_append, List.length_replicate]; omega
 have aM := dT p
 refine ct p ?_
 refine wc_region ?_
 refine mw (vs h a.length i) ?_
 refine cl wN (csSha g _ a (mR_22 (y.from0 D) N)) ?_
 rintro _ q ⟨Y, ⟨H, I, rfl, a1, a2, aN⟩⟩
 have a3 := D.extk Y
 have aO := sha_le a
 refine aw (vs H (sha a).length I) ?_
 refine wl_nil <| wq_then <| wc_seq <| wc_block ?_
 have Z : ((sha a) : List UInt8) = (sha a) ++ List.replicate 0 (0 : UInt8) := by simp
 refine wc_loopP [(2, (vs none 0 0)), (3, (.slice H ((sha a) ++ List.replicate 0 (0 : UInt8)).length I))] ⟨rfl, (cA (fun l : List UInt8 => Value.slice H l.length I) Z), trivial⟩ (fun e' f => ∃ (j : Nat) (aa : Env) (d : Option Addr) (e : Nat), e' = pt aa [(2, (vs none 0 0)), (3, (.slice d ((sha a) ++ List.replicate j (0 : UInt8)).length e))] ∧ Ch (fun k => b.heap.size ≤ k) b f ∧ Ch (fun k => g.heap.size ≤ k) q f ∧ (sha a).length + j ≤ 64 ∧ (World.ownsRow f g.heap.size 5 1 (.slice d ((sha a) ++ List.replicate j (0 : UInt8)).length e) ((sha a) ++ List.replicate j (0 : UInt8)).length (((sha a) ++ List.replicate j (0 : UInt8)).map bV) ∧ ((sha a) ++ List.replicate j (0 : UInt8)).length ≤ 1073741824)) (fun e' _ => 64 - (lenOf (e' 3))) ?_ ?_
 ·exact fun u => ⟨0, u, H, I, rfl, a3, (Ch.refl (fun k => g.heap.size ≤ k) q), (by omega), (Z ▸ ⟨a1, a2⟩)⟩
 ·rintro _ V ⟨j, aa, d, e, rfl, ab, ac, aP, ⟨t, a4⟩⟩
  have hol : ((sha a) ++ List.replicate j (0 : UInt8)).length = (sha a).length + j := by rw [List.length_append, List.length_replicate]
  refine wc_seq <| sr ?_
  refine mw (vs d ((sha a) ++ List.replicate j (0 : UInt8)).length e) ?_
  refine ln wN slTy_22 (Rd.of_own t) ?_
  refine pu (vb (decide ((((sha a) ++ List.replicate j (0 : UInt8)).length : Int) < 64))) wN ?_
  refine n2 ?_
  rcases bf (decide ((((sha a) ++ List.replicate j (0 : UInt8)).length : Int) < 64)) with x | x
  ·have aQ := dF x
   refine cf x ?_
   refine wc_exit <| wq_then_exit <| wq_then_exit <| wq_blk_exit <| wq_then <| sr ?_
   refine mw (vs d ((sha a) ++ List.replicate j (0 : UInt8)).length e) ?_
   refine aw (vs d ((sha a) ++ List.replicate j (0 : UInt8)).length e) ?_
   refine n3 ?_
   refine rt (vs d ((sha a) ++ List.replicate j (0 : UInt8)).length e) ?_
   refine ⟨ab.keep0, ?_⟩
   have a5 : blockKey a = ((sha a) ++ List.replicate j (0 : UInt8)) := by first | exact blockKey_f (by omega) | exact blockKey_l (by omega) (by omega) (by omega) (by simp only [List.length_append, List.length_replicate] at *; omega) | exact blockKey_s (by omega) (by omega) (by simp only [List.length_append, List.length_replicate] at *; omega)
   rw [a5]
   exact ⟨_, _, rfl, (own_lo t (z2 o C)), a4, ⟨trivial, trivial⟩⟩
  have aR := dT x
  refine ct x ?_
  refine wc_skip <| wq_then <| wc_block <| wc_region ?_
  refine mw (vs d ((sha a) ++ List.replicate j (0 : UInt8)).length e) ?_
  refine ltB ([0] : List UInt8) wN slTy_22 ?_
  intro aS aT ax J a6
  have a7 := (own_kp t J)
  refine apB ((sha a) ++ List.replicate j (0 : UInt8)) ([0] : List UInt8) wN slTy_22 a7 (Rd.of_own a6) (z3 Y ac J) ?_
  intro K L aU ad a8 aV a9
  have aA := (ab.extk J).ext ad (fun k hk => nT (z2 o C) (own_lt t k hk).1)
  refine aw (vs K (((sha a) ++ List.replicate j (0 : UInt8)) ++ ([0] : List UInt8)).length L) ?_
  refine wl_nil <| wq_blk_normal ?_
  have ae : ((((sha a) ++ List.replicate j (0 : UInt8)) ++ ([0] : List UInt8)) : List UInt8) = (sha a) ++ List.replicate (j + 1) (0 : UInt8) := by rw [List.replicate_succ', List.append_assoc]
  refine wq_loopP (w0 := V) [(2, (vs none 0 0)), (3, (.slice K ((sha a) ++ List.replicate (j + 1) (0 : UInt8)).length L))] ?_ ?_ ?_
  · exact ⟨rfl, (cA (fun l : List UInt8 => Value.slice K l.length L) ae), trivial⟩
  · exact fun u => ⟨(j + 1), u, K, L, rfl, aA, ((((Ch.refl (fun k => g.heap.size ≤ k) q).ext ac (fun k hk => hk)).extk J).ext ad (fun k hk => nT (Nat.le_refl g.heap.size) (own_lt t k hk).1)), (by omega), (ae ▸ ⟨a8, a9⟩)⟩
  · show 64 - ((sha a) ++ List.replicate (j + 1) (0 : UInt8)).length < 64 - ((sha a) ++ List.replicate j (0 : UInt8)).length; simp only [List.length_append, List.length_replicate]; omega

theorem csHmac (d : World) (ac : Value) (a : List UInt8) (a8 : R_22 d ac a) (ad : Value) (b : List UInt8) (a9 : R_22 d ad b)  : Fn Try.prog 88 #[ac, ad] d (fun v m => Keep d m ∧ O_22 m d.heap.size v (hmac a b)) := by
 obtain ⟨L, M, rfl, ae, aA⟩ := a8
 obtain ⟨o, p, rfl, af, bw⟩ := a9
 refine fn_ofS (n := 49) [(vs L a.length M), (vs o b.length p)] Try.func88 rfl rfl ?_
 refine sr ?_
 refine aw (vs none 0 0) ?_
 refine n4 ?_
 refine jT1 [(0, (vs L a.length M)), (1, (vs o b.length p)), (4, (vs none 0 0))] (hmac a b = []) ?_ fun ah => ?_
 ·intro aB e ai bz
  refine sr ?_
  refine wl_lit0 wN rfl rfl slTy_22 (fun w => by kernel_rfl) ?_
  intro aj T aC aD
  have aE := ((Ch.base d).extk ai).extk aC
  refine aw (vs (some aj) 0 0) ?_
  refine n1 ?_
  refine rt (vs (some aj) 0 0) ?_
  refine ⟨aE.keep0, ?_⟩
  rw [aB]
  exact ⟨_, _, rfl, (own_lo aD ai.size), (by simp), ⟨trivial, trivial⟩⟩
 refine mw (vs L a.length M) ?_
 refine ln wN slTy_22 ae ?_
 refine pu (vb (decide (1048576 < (a.length : Int)))) wN ?_
 refine mw (vb (decide (1048576 < (a.length : Int)))) ?_
 rcases bt (decide (1048576 < (a.length : Int))) with f | f
 ·have b0 := dT f
  iterate 3 refine sk f ?_
  refine pk (vb true) wN f ?_
  refine n2 ?_
  refine ct (Eq.refl true) ?_
  have aF : hmac a b = [] := by first | exact hmac_f (by omega) | exact hmac_g (by omega) (by omega) | exact hmac_s (by omega) (by omega)
  exact wj (ah aF _ (Ch.refl _ _))
 have b1 := dF f
 refine mv (vs o b.length p) (wS f) ?_
 refine ln (wS f) slTy_22 af ?_
 refine pu (vb (decide (1048512 < (b.length : Int)))) (wS f) ?_
 refine pf (vb (decide (1048512 < (b.length : Int)))) wN f ?_
 refine n2 ?_
 rcases bt (decide (1048512 < (b.length : Int))) with E | E
 ·have b2 := dT E
  refine ct E ?_
  have aG : hmac a b = [] := by first | exact hmac_f (by omega) | exact hmac_g (by omega) (by omega) | exact hmac_s (by omega) (by omega)
  exact wj (ah aG _ (Ch.refl _ _))
 have b3 := dF E
 refine cf E ?_
 refine y1 ?_
 refine mw (vs L a.length M) ?_
 refine cl wN (csBlockKey d _ a (mR_22 ae aA)) ?_
 rintro _ e ⟨s, ⟨t, y, rfl, V, _⟩⟩
 have b4 := blockKey_le a
 refine aw (vs t (blockKey a).length y) ?_
 refine nx ?_
 refine wl_lit0 wN rfl rfl slTy_22 (fun w => by kernel_rfl) ?_
 intro W T h ak
 refine aw (vs (some W) 0 0) ?_
 refine nx ?_
 refine wl_lit0 wN rfl rfl slTy_22 (fun w => by kernel_rfl) ?_
 intro X Y j am
 have aH := (((Ch.base d).extk s).extk h).extk j
 refine aw (vs (some X) 0 0) ?_
 refine n4 ?_
 refine aw (vi 0) ?_
 refine wl_nil <| wq_then <| wc_block ?_
 have aI := (own_kp ak j)
 have an : ([] : List UInt8) = maskB ((blockKey a).take 0) 54 := by rfl
 have ao : 0 = (maskB ((blockKey a).take 0) 54).length := by rw [← an]; try (first | rfl | simp only [List.length_set] | simp)
 have ap : ([] : List UInt8) = maskB ((blockKey a).take 0) 92 := by rfl
 have aq : 0 = (maskB ((blockKey a).take 0) 92).length := by rw [← ap]; try (first | rfl | simp only [List.length_set] | simp)
 refine wc_loopP [(1, (vs o b.length p)), (4, (vs none 0 0)), (5, (vs t (blockKey a).length y)), (6, (.slice (some W) (maskB ((blockKey a).take 0) 54).length 0)), (7, (.slice (some X) (maskB ((blockKey a).take 0) 92).length 0)), (8, (vi ((0 : Nat) : Int)))] ⟨rfl, rfl, rfl, rfl, rfl, (cA (Value.int .i64) (show (0 : Int) = ((0 : Nat) : Int) by omega)), trivial⟩ (fun e' m => ∃ (i : Nat) (au : Env) (A : Option Addr) (F : Nat) (B : Option Addr) (G : Nat), e' = pt au [(1, (vs o b.length p)), (4, (vs none 0 0)), (5, (vs t (blockKey a).length y)), (6, (.slice A (maskB ((blockKey a).take i) 54).length F)), (7, (.slice B (maskB ((blockKey a).take i) 92).length G)), (8, (vi ((i : Nat) : Int)))] ∧ Ch (fun k => d.heap.size ≤ k) d m ∧ Ch (fun k => e.heap.size ≤ k) Y m ∧ i ≤ 64 ∧ (World.ownsRow m e.heap.size 5 1 (.slice A (maskB ((blockKey a).take i) 54).length F) (maskB ((blockKey a).take i) 54).length ((maskB ((blockKey a).take i) 54).map bV) ∧ (maskB ((blockKey a).take i) 54).length ≤ 1073741824) ∧ (World.ownsRow m T.heap.size 5 1 (.slice B (maskB ((blockKey a).take i) 92).length G) (maskB ((blockKey a).take i) 92).length ((maskB ((blockKey a).take i) 92).map bV) ∧ (maskB ((blockKey a).take i) 92).length ≤ 1073741824) ∧ NeS A B) (fun e' _ => (64 - (intOf (e' 8))).toNat) ?_ ?_
 ·exact fun u => ⟨0, u, (some W), 0, (some X), 0, rfl, aH, (Ch.refl (fun k => e.heap.size ≤ k) Y), (by omega), ⟨(by rw [← ao, ← an]; exact aI), (by rw [← ao]; first | exact (by simp) | (simp only [List.length_append, List.length_take, List.length_replicate]; omega))⟩, ⟨(by rw [← aq, ← ap]; exact am), (by rw [← aq]; first | exact (by simp) | (simp only [List.length_append, List.length_take, List.length_replicate]; omega))⟩, (NeS.lt ak am (Nat.le_refl T.heap.size))⟩
 ·rintro _ aJ ⟨i, au, A, F, B, G, rfl, Z, q, b5, ⟨C, b6⟩, ⟨D, b7⟩, N⟩
  have b8 := maskB_len ((blockKey a).take i) 54
  have b9 := maskB_len ((blockKey a).take i) 92
  have htl : ((blockKey a).take i).length = min i (blockKey a).length := List.length_take
  refine wc_seq <| sr ?_
  refine mw (vi ((i : Nat) : Int)) ?_
  refine pu (vb (decide (((i : Nat) : Int) < 64))) wN ?_
  refine n2 ?_
  rcases bf (decide (((i : Nat) : Int) < 64)) with H | H
  ·have bA := dF H
   refine cf H ?_
   refine wc_exit <| wq_then_exit ?_
   obtain rfl : i = 64 := by omega
   refine wq_then_exit <| wq_blk_exit <| wq_then <| sr ?_
   refine mw (vs B (maskB ((blockKey a).take 64) 92).length G) ?_
   refine mw (vs A (maskB ((blockKey a).take 64) 54).length F) ?_
   refine mw (vs o b.length p) ?_
   refine apB (maskB ((blockKey a).take 64) 54) b wN slTy_22 C (af.from0 Z) (z3 h j q) ?_
   intro bB bC av O ax aK aL
   have aM := Z.ext O (fun k hk => nT s.size (own_lt C k hk).1)
   have aN := NeS.app N aK D
   refine cl wN (csSha av _ ((maskB ((blockKey a).take 64) 54) ++ b) (mR_22 (Rd.of_own ax) aL)) ?_
   rintro _ aO ⟨I, ⟨bD, bE, rfl, aP, _⟩⟩
   have bF := sha_le ((maskB ((blockKey a).take 64) 54) ++ b)
   have aQ := (own_kp (own_ch D O (fun g hg hlt hk => NeS.no (NeS.symm N) hg hk)) I)
   refine apB (maskB ((blockKey a).take 64) 92) (sha ((maskB ((blockKey a).take 64) 54) ++ b)) wN slTy_22 aQ (Rd.of_own aP) (z4 j q O I) ?_
   intro bG bH ay az aR aS aT
   have aU := (aM.extk I).ext az (fun k hk => nT (z2 s h) (own_lt D k hk).1)
   have aV := (own_kp ax I)
   have bI := NeS.app (NeS.symm aN) aS aV
   refine cl wN (csSha ay _ ((maskB ((blockKey a).take 64) 92) ++ (sha ((maskB ((blockKey a).take 64) 54) ++ b))) (mR_22 (Rd.of_own aR) aT)) ?_
   rintro _ aW ⟨aX, ⟨a0, a1, rfl, aY, aZ, bJ⟩⟩
   have ba := aU.extk aX
   have bK := sha_le ((maskB ((blockKey a).take 64) 92) ++ (sha ((maskB ((blockKey a).take 64) 54) ++ b)))
   refine aw (vs a0 (sha ((maskB ((blockKey a).take 64) 92) ++ (sha ((maskB ((blockKey a).take 64) 54) ++ b)))).length a1) ?_
   refine n3 ?_
   refine rt (vs a0 (sha ((maskB ((blockKey a).take 64) 92) ++ (sha ((maskB ((blockKey a).take 64) 54) ++ b)))).length a1) ?_
   refine ⟨ba.keep0, ?_⟩
   have bb : hmac a b = (sha ((maskB ((blockKey a).take 64) 92) ++ (sha ((maskB ((blockKey a).take 64) 54) ++ b)))) := by first | exact hmac_f (by omega) | exact hmac_g (by omega) (by omega) | exact hmac_s (by omega) (by omega)
   rw [bb]
   exact ⟨_, _, rfl, (own_lo aY (z7 s h j q O I az)), aZ, ⟨trivial, trivial⟩⟩
  have bL := dT H
  refine ct H ?_
  refine wc_skip <| wq_then <| wc_seq <| wc_block <| sr ?_
  refine mw (vs A (maskB ((blockKey a).take i) 54).length F) ?_
  refine mw (vs t (blockKey a).length y) ?_
  refine mw (vi ((i : Nat) : Int)) ?_
  have aa := (own_ch (own_kp (own_kp V h) j) q (fun g hg hlt hk => by have bc := (own_lt V g hg).2; have bd : e.heap.size ≤ e.heap.size := (Nat.le_refl e.heap.size); have be : e.heap.size ≤ g := hk; omega))
  refine ix wN ((i : Nat) : Int) slTy_22 (Rd.of_own aa) ?_
  refine eb (x := (blockKey a)) i wN isAgg_5 (Rd.of_own aa) ?_
  refine wl_xor8 ((blockKey a).getD i 0) 54 wN rfl rfl (by kernel_rfl) ?_
  refine ltB ([(((blockKey a).getD i 0) ^^^ 54)] : List UInt8) wN slTy_22 ?_
  intro bM bN av r bg
  have bh := (own_kp C r)
  refine apB (maskB ((blockKey a).take i) 54) ([(((blockKey a).getD i 0) ^^^ 54)] : List UInt8) wN slTy_22 bh (Rd.of_own bg) (z4 h j q r) ?_
  intro P Q aO J bi bj bk
  have bl := (Z.extk r).ext J (fun k hk => nT s.size (own_lt C k hk).1)
  have a2 := (own_kp D r)
  have a3 := NeS.app N bj a2
  refine aw (vs P ((maskB ((blockKey a).take i) 54) ++ ([(((blockKey a).getD i 0) ^^^ 54)] : List UInt8)).length Q) ?_
  refine wl_nil <| wq_then <| wc_region ?_
  refine mw (vs B (maskB ((blockKey a).take i) 92).length G) ?_
  refine mw (vs t (blockKey a).length y) ?_
  refine mw (vi ((i : Nat) : Int)) ?_
  have a4 := (own_ch (own_kp aa r) J (fun g hg hlt hk => by have bc := (own_lt V g hg).2; have bd := (own_lt C g hk).1; have be := (Nat.le_refl e.heap.size); omega))
  refine ix wN ((i : Nat) : Int) slTy_22 (Rd.of_own a4) ?_
  refine eb (x := (blockKey a)) i wN isAgg_5 (Rd.of_own a4) ?_
  refine wl_xor8 ((blockKey a).getD i 0) 92 wN rfl rfl (by kernel_rfl) ?_
  refine ltB ([(((blockKey a).getD i 0) ^^^ 92)] : List UInt8) wN slTy_22 ?_
  intro bO bP ay K bm
  have bn := (own_kp (own_ch a2 J (fun g hg hlt hk => NeS.no (NeS.symm N) hg hk)) K)
  refine apB (maskB ((blockKey a).take i) 92) ([(((blockKey a).getD i 0) ^^^ 92)] : List UInt8) wN slTy_22 bn (Rd.of_own bm) (z5 j q r J K) ?_
  intro R S aW ab bo bp bq
  have br := (bl.extk K).ext ab (fun k hk => nT (z2 s h) (own_lt D k hk).1)
  have a5 := (own_kp bi K)
  have bu := NeS.app (NeS.symm a3) bp a5
  refine aw (vs R ((maskB ((blockKey a).take i) 92) ++ ([(((blockKey a).getD i 0) ^^^ 92)] : List UInt8)).length S) ?_
  refine wl_nil <| wq_blk_normal <| wq_then <| wc_region ?_
  refine mw (vi ((i : Nat) : Int)) ?_
  refine ar (((i : Nat) : Int) + 1) wN ?_
  refine aw (vi (((i : Nat) : Int) + 1)) ?_
  refine wl_nil ?_
  have bv := (own_ch a5 ab (fun g hg hlt hk => NeS.no a3 hg hk))
  have a6 : (((maskB ((blockKey a).take i) 54) ++ ([(((blockKey a).getD i 0) ^^^ 54)] : List UInt8)) : List UInt8) = maskB ((blockKey a).take (i + 1)) 54 := by exact mask_next (by omega)
  have a7 : (((maskB ((blockKey a).take i) 92) ++ ([(((blockKey a).getD i 0) ^^^ 92)] : List UInt8)) : List UInt8) = maskB ((blockKey a).take (i + 1)) 92 := by exact mask_next (by omega)
  refine wq_loopP (w0 := aJ) [(1, (vs o b.length p)), (4, (vs none 0 0)), (5, (vs t (blockKey a).length y)), (6, (.slice P (maskB ((blockKey a).take (i + 1)) 54).length Q)), (7, (.slice R (maskB ((blockKey a).take (i + 1)) 92).length S)), (8, (vi (((i + 1) : Nat) : Int)))] ?_ ?_ ?_
  · exact ⟨rfl, rfl, rfl, (cA (fun l : List UInt8 => Value.slice P l.length Q) a6), (cA (fun l : List UInt8 => Value.slice R l.length S) a7), (cA (Value.int .i64) (show ((((i : Nat) : Int) + 1) : Int) = (((i + 1) : Nat) : Int) by omega)), trivial⟩
  · exact fun u => ⟨(i + 1), u, P, Q, R, S, rfl, br, ((((((Ch.refl (fun k => e.heap.size ≤ k) Y).ext q (fun k hk => hk)).extk r).ext J (fun k hk => nT (Nat.le_refl e.heap.size) (own_lt C k hk).1)).extk K).ext ab (fun k hk => nT h.size (own_lt D k hk).1)), (by omega), (a6 ▸ ⟨bv, bk⟩), (a7 ▸ ⟨bo, bq⟩), (NeS.symm bu)⟩
  · show (64 - (((i + 1) : Nat) : Int)).toNat < (64 - ((i : Nat) : Int)).toNat; omega

def s_Extract (a : List UInt8) (b : List UInt8) : (List UInt8) := (hmac a b)
theorem csExtract (d : World) (e : Value) (a : List UInt8) (o : R_22 d e a) (f : Value) (b : List UInt8) (p : R_22 d f b)  : Fn Try.prog 86 #[e, f] d (fun v g => Keep d g ∧ O_22 g d.heap.size v (s_Extract a b)) := by
 obtain ⟨h, i, rfl, q, r⟩ := o
 obtain ⟨j, k, rfl, s, t⟩ := p
 refine fn_ofS (n := 8) [(vs h a.length i), (vs j b.length k)] Try.func86 rfl rfl ?_
 refine sr ?_
 refine aw (vs none 0 0) ?_
 refine nx ?_
 refine mw (vs h a.length i) ?_
 refine mw (vs j b.length k) ?_
 refine cl wN (csHmac d _ a (mR_22 q r) _ b (mR_22 s t)) ?_
 rintro _ B ⟨u, ⟨l, m, rfl, w, x, C⟩⟩
 have y := (Ch.base d).extk u
 have D := hmac_le a b
 refine aw (vs l (hmac a b).length m) ?_
 refine n3 ?_
 refine rt (vs l (hmac a b).length m) ?_
 refine ⟨y.keep0, ?_⟩
 have A : s_Extract a b = (hmac a b) := by rfl
 rw [A]
 exact ⟨_, _, rfl, w, x, ⟨trivial, trivial⟩⟩

theorem csExpand (e : World) (ac : Value) (b : List UInt8) (a5 : R_22 e ac b) (ad : Value) (a : List UInt8) (a6 : R_22 e ad a) (d : Int)  : Fn Try.prog 93 #[ac, ad, (vi d)] e (fun v s => Keep e s ∧ O_22_4 s e.heap.size v (expand b a d)) := by
 obtain ⟨t, x, rfl, ae, a7⟩ := a5
 obtain ⟨y, A, rfl, af, bj⟩ := a6
 refine fn_ofS (n := 52) [(vs t b.length x), (vs y a.length A), (vi d)] Try.func93 rfl rfl ?_
 refine sr ?_
 refine aw (vs none 0 0) ?_
 refine aw (vb false) ?_
 refine n4 ?_
 refine jT1 [(0, (vs t b.length x)), (1, (vs y a.length A)), (2, (vi d)), (6, (vs none 0 0)), (7, (vb false))] (expand b a d = ([], false)) ?_ fun S => ?_
 ·intro a8 D ah bk
  refine sr ?_
  refine wl_lit0 wN rfl rfl slTy_22 (fun w => by kernel_rfl) ?_
  intro ai aj a9 aA
  have aB := ((Ch.base e).extk ah).extk a9
  refine aw (vs (some ai) 0 0) ?_
  refine aw (vb false) ?_
  refine n1 ?_
  refine ret_2 (.inl rfl) (vs (some ai) 0 0) (vb false) rfl rfl rfl ?_
  refine ⟨aB.keep0, ?_⟩
  rw [a8]
  exact ⟨_, _, rfl, (own_lo aA ah.size), (by simp), ⟨trivial, trivial⟩⟩
 refine mw (vi d) ?_
 refine cl wN (csl1In e d 0 8160) ?_
 rintro _ D ⟨m, rfl⟩
 have T := (Ch.base e).extk m
 refine pu (vb (!(s_l1In d 0 8160))) wN ?_
 refine mw (vb (!(s_l1In d 0 8160))) ?_
 rcases bf (s_l1In d 0 8160) with h | h
 ·have bl := spec_l1In_f h
  iterate 3 refine sk (cA not h) ?_
  refine pk (vb true) wN (cA not h) ?_
  refine mw (vb true) ?_
  iterate 3 refine sk (Eq.refl true) ?_
  refine pk (vb true) wN (Eq.refl true) ?_
  refine n2 ?_
  refine ct (Eq.refl true) ?_
  have aC : expand b a d = ([], false) := by first | exact expand_f (by omega) | exact expand_t (by omega) (by omega) (by omega) (by omega) (by omega) (by omega)
  exact wj (S aC _ m)
 have bm := spec_l1In_t h
 refine mv (vs y a.length A) (wS (cA not h)) ?_
 refine ln (wS (cA not h)) slTy_22 (af.from0 T) ?_
 refine pu (vb (decide (100 < (a.length : Int)))) (wS (cA not h)) ?_
 refine pf (vb (decide (100 < (a.length : Int)))) wN (cA not h) ?_
 refine mw (vb (decide (100 < (a.length : Int)))) ?_
 rcases bt (decide (100 < (a.length : Int))) with i | i
 ·have bn := dT i
  iterate 3 refine sk i ?_
  refine pk (vb true) wN i ?_
  refine n2 ?_
  refine ct (Eq.refl true) ?_
  have aD : expand b a d = ([], false) := by first | exact expand_f (by omega) | exact expand_t (by omega) (by omega) (by omega) (by omega) (by omega) (by omega)
  exact wj (S aD _ m)
 have bo := dF i
 refine mv (vs t b.length x) (wS i) ?_
 refine ln (wS i) slTy_22 (ae.from0 T) ?_
 refine pu (vb (decide (1048576 < (b.length : Int)))) (wS i) ?_
 refine pf (vb (decide (1048576 < (b.length : Int)))) wN i ?_
 refine n2 ?_
 rcases bt (decide (1048576 < (b.length : Int))) with H | H
 ·have bp := dT H
  refine ct H ?_
  have aE : expand b a d = ([], false) := by first | exact expand_f (by omega) | exact expand_t (by omega) (by omega) (by omega) (by omega) (by omega) (by omega)
  exact wj (S aE _ m)
 have bq := dF H
 refine cf H ?_
 refine y1 ?_
 refine wl_lit0 wN rfl rfl slTy_22 (fun w => by kernel_rfl) ?_
 intro V aj B aF
 refine aw (vs (some V) 0 0) ?_
 refine nx ?_
 refine wl_lit0 wN rfl rfl slTy_22 (fun w => by kernel_rfl) ?_
 intro W X j aG
 have aH := (T.extk B).extk j
 refine aw (vs (some W) 0 0) ?_
 refine n4 ?_
 refine aw (vi 1) ?_
 refine wl_nil <| wq_then <| wc_block ?_
 have aI := (own_kp aF j)
 have ak : ([] : List UInt8) = (expN b a 0).1 := by rfl
 have am : 0 = ((expN b a 0).1).length := by rw [← ak]; try (first | rfl | simp only [List.length_set] | simp)
 have an : ([] : List UInt8) = (expN b a 0).2 := by rfl
 have ao : 0 = ((expN b a 0).2).length := by rw [← an]; try (first | rfl | simp only [List.length_set] | simp)
 refine wc_loopP [(0, (vs t b.length x)), (1, (vs y a.length A)), (2, (vi d)), (6, (vs none 0 0)), (7, (vb false)), (8, (.slice (some V) ((expN b a 0).1).length 0)), (9, (.slice (some W) ((expN b a 0).2).length 0)), (10, (vi (((0 : Nat) : Int) + 1)))] ⟨rfl, rfl, rfl, rfl, rfl, rfl, rfl, (cA (Value.int .i64) (show (1 : Int) = (((0 : Nat) : Int) + 1) by omega)), trivial⟩ (fun e' s => ∃ (k : Nat) (ap : Env) (E : Option Addr) (F : Nat) (L : Option Addr) (M : Nat), e' = pt ap [(0, (vs t b.length x)), (1, (vs y a.length A)), (2, (vi d)), (6, (vs none 0 0)), (7, (vb false)), (8, (.slice E ((expN b a k).1).length F)), (9, (.slice L ((expN b a k).2).length M)), (10, (vi (((k : Nat) : Int) + 1)))] ∧ Ch (fun k => e.heap.size ≤ k) e s ∧ Ch (fun k => D.heap.size ≤ k) X s ∧ 32 * ((k : Nat) : Int) < d + 32 ∧ (World.ownsRow s D.heap.size 5 1 (.slice E ((expN b a k).1).length F) ((expN b a k).1).length (((expN b a k).1).map bV) ∧ ((expN b a k).1).length ≤ 1073741824) ∧ (World.ownsRow s aj.heap.size 5 1 (.slice L ((expN b a k).2).length M) ((expN b a k).2).length (((expN b a k).2).map bV) ∧ ((expN b a k).2).length ≤ 1073741824)) (fun e' _ => d.toNat - (lenOf (e' 8))) ?_ ?_
 ·exact fun u => ⟨0, u, (some V), 0, (some W), 0, rfl, aH, (Ch.refl (fun k => D.heap.size ≤ k) X), (by omega), ⟨(by rw [← am, ← ak]; exact aI), (by rw [← am]; first | exact (by simp) | (simp only [List.length_append, List.length_take, List.length_replicate]; omega))⟩, ⟨(by rw [← ao, ← an]; exact aG), (by rw [← ao]; first | exact (by simp) | (simp only [List.length_append, List.length_take, List.length_replicate]; omega))⟩⟩
 ·rintro _ Y ⟨k, ap, E, F, L, M, rfl, aq, o, br, ⟨p, aJ⟩, ⟨aK, bu⟩⟩
  have hxl := expN_len (prk := b) (info := a) (by omega) (by omega) k
  have hxm := expN_len (prk := b) (info := a) (by omega) (by omega) (k + 1)
  refine wc_seq <| sr ?_
  refine mw (vs E ((expN b a k).1).length F) ?_
  refine ln wN slTy_22 (Rd.of_own p) ?_
  refine mw (vi d) ?_
  refine pu (vb (decide ((((expN b a k).1).length : Int) < d))) wN ?_
  refine n2 ?_
  rcases bf (decide ((((expN b a k).1).length : Int) < d)) with I | I
  ·have bv := dF I
   refine cf I ?_
   refine wc_exit <| wq_then_exit <| wq_then_exit <| wq_blk_exit <| wq_then <| sr ?_
   refine wl_lit0 wN rfl rfl slTy_22 (fun w => by kernel_rfl) ?_
   intro bw aL Z aM
   refine mw (vs E ((expN b a k).1).length F) ?_
   refine mw (vi d) ?_
   have au := (own_kp p Z)
   refine slv (((expN b a k).1).take ((d).toNat)) 0 ((d).toNat) wN slTy_22 (Rd.of_own au) (by first | omega | (simp <;> omega)) (by first | omega | (simp <;> omega)) (by first | rfl | (simp; done) | (rw [List.take_of_length_le (by first | (simp; done) | (simp; omega))])) rfl rfl rfl rfl (.inl ⟨rfl, rfl⟩) (.inr ⟨_, _, _, rfl, rfl, by omega⟩) ?_
   have aN : 0 ≤ ((d).toNat) := (by first | omega | (simp <;> omega))
   have aO : ((d).toNat) ≤ ((expN b a k).1).length := (by first | omega | (simp <;> omega))
   refine ap0 (((expN b a k).1).take ((d).toNat)) wN slTy_22 aM (Rd.subV (x' := (((expN b a k).1).take ((d).toNat))) (Rd.of_own au) aN aO (by first | rfl | (simp; done) | (rw [List.take_of_length_le (by first | (simp; done) | (simp; omega))]))) Z.size ?_
   intro av ax aP aQ aR bz
   have aS := (aq.extk Z).extk aQ
   refine aw (vs av (((expN b a k).1).take ((d).toNat)).length ax) ?_
   refine aw (vb true) ?_
   refine n3 ?_
   refine ret_2 (.inl rfl) (vs av (((expN b a k).1).take ((d).toNat)).length ax) (vb true) rfl rfl rfl ?_
   refine ⟨aS.keep0, ?_⟩
   have aT : expand b a d = ((((expN b a k).1).take ((d).toNat)), true) := by first | exact expand_f (by omega) | exact expand_t (by omega) (by omega) (by omega) (by omega) (by omega) (by omega)
   rw [aT]
   exact ⟨_, _, rfl, (own_lo aR (z4 m B j o)), (nT (by simp only [List.length_take, List.length_drop]; omega) aJ), ⟨trivial, trivial⟩⟩
  have b0 := dT I
  refine ct I ?_
  refine wc_skip <| wq_then <| wc_seq <| wc_block <| sr ?_
  refine mw (vs t b.length x) ?_
  refine wl_lit0 wN rfl rfl slTy_22 (fun w => by kernel_rfl) ?_
  intro b1 aL f aU
  refine mw (vs L ((expN b a k).2).length M) ?_
  have aV := (own_kp aK f)
  refine ap0 ((expN b a k).2) wN slTy_22 aU (Rd.of_own aV) f.size ?_
  intro b2 b3 aP q N b4
  have ay := (aq.extk f).extk q
  refine mw (vs y a.length A) ?_
  refine apB ((expN b a k).2) a wN slTy_22 N (af.from0 ay) (z2 f q) ?_
  intro b5 b6 b7 C O b8 b9
  have aW := ay.ext C (fun k hk => nT (z4 m B j o) (own_lt N k hk).1)
  refine mw (vi (((k : Nat) : Int) + 1)) ?_
  refine wl_conv8 (((k : Nat) : Int) + 1) wN rfl rfl (by kernel_rfl) ?_
  refine ltB ([(by8 (((k : Nat) : Int) + 1))] : List UInt8) wN slTy_22 ?_
  intro bA bB bC r aX
  have aY := (own_kp O r)
  refine apB (((expN b a k).2) ++ a) ([(by8 (((k : Nat) : Int) + 1))] : List UInt8) wN slTy_22 aY (Rd.of_own aX) (z4 f q C r) ?_
  intro bD bE aZ G ba bF bb
  have az := (aW.extk r).ext G (fun k hk => nT (z4 m B j o) (own_lt O k hk).1)
  refine cl wN (csHmac aZ _ b (mR_22 (ae.from0 az) a7) _ ((((expN b a k).2) ++ a) ++ ([(by8 (((k : Nat) : Int) + 1))] : List UInt8)) (mR_22 (Rd.of_own ba) bb)) ?_
  rintro _ bG ⟨P, ⟨J, K, rfl, aa, bc, bH⟩⟩
  have bI := hmac_le b ((((expN b a k).2) ++ a) ++ ([(by8 (((k : Nat) : Int) + 1))] : List UInt8))
  refine aw (vs J (hmac b ((((expN b a k).2) ++ a) ++ ([(by8 (((k : Nat) : Int) + 1))] : List UInt8))).length K) ?_
  refine wl_nil <| wq_then <| wc_region ?_
  refine mw (vs E ((expN b a k).1).length F) ?_
  refine mw (vs J (hmac b ((((expN b a k).2) ++ a) ++ ([(by8 (((k : Nat) : Int) + 1))] : List UInt8))).length K) ?_
  have bd := (own_kp (own_ch (own_kp (own_ch (own_kp (own_kp p f) q) C (fun g hg hlt hk => by have a0 := (own_lt p g hg).2; have a1 := (own_lt N g hk).1; have a2 := (Nat.le_refl Y.heap.size); omega)) r) G (fun g hg hlt hk => by have a0 := (own_lt p g hg).2; have a1 := (own_lt O g hk).1; have a2 := (Nat.le_refl Y.heap.size); omega)) P)
  refine apB ((expN b a k).1) (hmac b ((((expN b a k).2) ++ a) ++ ([(by8 (((k : Nat) : Int) + 1))] : List UInt8))) wN slTy_22 bd (Rd.of_own aa) (z9 B j o f q C r G P) ?_
  intro Q R bJ ab be bK bg
  have bh := (az.extk P).ext ab (fun k hk => nT m.size (own_lt p k hk).1)
  refine aw (vs Q (((expN b a k).1) ++ (hmac b ((((expN b a k).2) ++ a) ++ ([(by8 (((k : Nat) : Int) + 1))] : List UInt8)))).length R) ?_
  refine wl_nil <| wq_blk_normal <| wq_then <| wc_region ?_
  refine mw (vi (((k : Nat) : Int) + 1)) ?_
  refine ar ((((k : Nat) : Int) + 1) + 1) wN ?_
  refine aw (vi ((((k : Nat) : Int) + 1) + 1)) ?_
  refine wl_nil ?_
  have a3 : ((((expN b a k).1) ++ (hmac b ((((expN b a k).2) ++ a) ++ ([(by8 (((k : Nat) : Int) + 1))] : List UInt8)))) : List UInt8) = (expN b a (k + 1)).1 := by exact expN_1 _ _ _ (by simp [joinB])
  have bi := (own_ch aa ab (fun g hg hlt hk => by have a0 := (own_lt aa g hg).1; have a1 := (own_lt p g hk).2; have a2 := (z5 f q C r G); omega))
  have a4 : ((hmac b ((((expN b a k).2) ++ a) ++ ([(by8 (((k : Nat) : Int) + 1))] : List UInt8))) : List UInt8) = (expN b a (k + 1)).2 := by exact expN_2 _ _ _ (by simp [joinB])
  refine wq_loopP (w0 := Y) [(0, (vs t b.length x)), (1, (vs y a.length A)), (2, (vi d)), (6, (vs none 0 0)), (7, (vb false)), (8, (.slice Q ((expN b a (k + 1)).1).length R)), (9, (.slice J ((expN b a (k + 1)).2).length K)), (10, (vi ((((k + 1) : Nat) : Int) + 1)))] ?_ ?_ ?_
  · exact ⟨rfl, rfl, rfl, rfl, rfl, (cA (fun l : List UInt8 => Value.slice Q l.length R) a3), (cA (fun l : List UInt8 => Value.slice J l.length K) a4), (cA (Value.int .i64) (show (((((k : Nat) : Int) + 1) + 1) : Int) = ((((k + 1) : Nat) : Int) + 1) by omega)), trivial⟩
  · exact fun u => ⟨(k + 1), u, Q, R, J, K, rfl, bh, (((((((((Ch.refl (fun k => D.heap.size ≤ k) X).ext o (fun k hk => hk)).extk f).extk q).ext C (fun k hk => nT (z3 B j o) (own_lt N k hk).1)).extk r).ext G (fun k hk => nT (z3 B j o) (own_lt O k hk).1)).extk P).ext ab (fun k hk => nT (Nat.le_refl D.heap.size) (own_lt p k hk).1)), (by omega), (a3 ▸ ⟨be, bg⟩), (a4 ▸ ⟨(own_lo bi (z7 j o f q C r G)), bc⟩)⟩
  · show d.toNat - ((expN b a (k + 1)).1).length < d.toNat - ((expN b a k).1).length; omega

theorem csDerive (d : World) (g : Value) (b : List UInt8) (o : R_22 d g b) (h : Value) (a : ByteArray) (p : R_9 d h a) (B : (strB a).length ≤ 100) : Fn Try.prog 85 #[g, h] d (fun v i => Keep d i ∧ O_22 i d.heap.size v (derive b a)) := by
 obtain ⟨j, k, rfl, q, r⟩ := o
 obtain rfl := p
 refine fn_ofS (n := 15) [(vs j b.length k), (.string a)] Try.func85 rfl rfl ?_
 refine sr ?_
 refine aw (vs none 0 0) ?_
 refine nx ?_
 refine mw (vs j b.length k) ?_
 refine mw (.string a) ?_
 refine wl_s2b a wN rfl rfl rfl rfl Try.underlying9 Try.underlying22 Try.underlying5 (by first | omega | (simp only [strB_mk]; decide)) ?_
 intro C D s l t
 have m := (Ch.base d).extk l
 refine cl wN (csExpand s _ b (mR_22 (q.from0 m) r) _ (strB a) (mR_22 t (by first | omega | (simp only [strB_mk]; decide))) 32) ?_
 rintro _ E ⟨u, ⟨e, f, rfl, w, x, F⟩⟩
 have y := m.extk u
 have G := expand_le b (strB a) 32
 refine mw (.tuple #[(vs e ((expand b (strB a) 32).1).length f), (vb ((expand b (strB a) 32).2))]) ?_
 refine pu (vs e ((expand b (strB a) 32).1).length f) wN ?_
 refine pu (vb ((expand b (strB a) 32).2)) wN ?_
 refine aw (vs e ((expand b (strB a) 32).1).length f) ?_
 refine aw (vb ((expand b (strB a) 32).2)) ?_
 refine nx ?_
 refine mw (vs e ((expand b (strB a) 32).1).length f) ?_
 refine aw (vs e ((expand b (strB a) 32).1).length f) ?_
 refine n3 ?_
 refine rt (vs e ((expand b (strB a) 32).1).length f) ?_
 refine ⟨y.keep0, ?_⟩
 have A : derive b a = (expand b (strB a) 32).1 := by rfl
 rw [A]
 exact ⟨_, _, rfl, (own_lo w l.size), x, ⟨trivial, trivial⟩⟩

def s_FinishKey (a : List UInt8) : (List UInt8) := bif (s_PskOk a) then ((derive (s_Extract ([114, 111, 97, 109] : List UInt8) a) (ByteArray.mk ([102, 105, 110, 105, 115, 104] : List UInt8).toArray))) else ([])
theorem csFinishKey (b : World) (h : Value) (a : List UInt8) (y : R_22 b h a)  : Fn Try.prog 68 #[h] b (fun v i => Keep b i ∧ O_22 i b.heap.size v (s_FinishKey a)) := by
 obtain ⟨f, g, rfl, j, l⟩ := y
 refine fn_ofS (n := 12) [(vs f a.length g)] Try.func68 rfl rfl ?_
 refine sr ?_
 refine aw (vs none 0 0) ?_
 refine n4 ?_
 refine mw (vs f a.length g) ?_
 refine cl wN (csPskOk b _ a (mR_22 j l)) ?_
 rintro _ N ⟨e, rfl⟩
 have m := (Ch.base b).extk e
 refine pu (vb (!(s_PskOk a))) wN ?_
 refine n2 ?_
 rcases bf (s_PskOk a) with d | d
 ·refine ct (cA not d) ?_
  refine sr ?_
  refine wl_lit0 wN rfl rfl slTy_22 (fun w => by kernel_rfl) ?_
  intro o A B C
  have D := m.extk B
  refine aw (vs (some o) 0 0) ?_
  refine n1 ?_
  refine rt (vs (some o) 0 0) ?_
  refine ⟨D.keep0, ?_⟩
  simp only [s_FinishKey, d, cond_true, cond_false]
  exact ⟨_, _, rfl, (own_lo C e.size), (by simp), ⟨trivial, trivial⟩⟩
 refine cf (cA not d) ?_
 refine y1 ?_
 refine ltB ([114, 111, 97, 109] : List UInt8) wN slTy_22 ?_
 intro O P A p q
 refine wl_cvs q wN rfl rfl rfl rfl Try.underlying22 Try.underlying5 (by first | decide | (simp; done) | omega) ?_
 intro E r F
 have s := (m.extk p).ext r (fun k hk => nT e.size (own_lt q k hk).1)
 refine mw (vs f a.length g) ?_
 refine cl wN (csExtract E _ ([114, 111, 97, 109] : List UInt8) (mR_22 F (by simp)) _ a (mR_22 (j.from0 s) l)) ?_
 rintro _ G ⟨t, ⟨Q, R, rfl, H, I, S⟩⟩
 refine cl wN (csDerive G _ (s_Extract ([114, 111, 97, 109] : List UInt8) a) (mR_22 (Rd.of_own H) I) _ (ByteArray.mk ([102, 105, 110, 105, 115, 104] : List UInt8).toArray) (mR_9) (by first | omega | decide)) ?_
 rintro _ T ⟨J, ⟨u, x, rfl, K, L, V⟩⟩
 have M := (s.extk t).extk J
 have W := derive_le (s_Extract ([114, 111, 97, 109] : List UInt8) a) (ByteArray.mk ([102, 105, 110, 105, 115, 104] : List UInt8).toArray)
 refine aw (vs u (derive (s_Extract ([114, 111, 97, 109] : List UInt8) a) (ByteArray.mk ([102, 105, 110, 105, 115, 104] : List UInt8).toArray)).length x) ?_
 refine n3 ?_
 refine rt (vs u (derive (s_Extract ([114, 111, 97, 109] : List UInt8) a) (ByteArray.mk ([102, 105, 110, 105, 115, 104] : List UInt8).toArray)).length x) ?_
 refine ⟨M.keep0, ?_⟩
 simp only [s_FinishKey, d, cond_true, cond_false]
 exact ⟨_, _, rfl, (own_lo K (z4 e p r t)), L, ⟨trivial, trivial⟩⟩

def s_ProofBody (a : Int) (b : List UInt8) (d : List UInt8) (e : Int) (f : List UInt8) : (List UInt8) := bif (s_l1In a 1 9) then (bif (decide ((b.length : Int) = 12)) then (bif (decide ((d.length : Int) = 12)) then (bif (s_l1In e 0 1000000) then (bif (decide ((f.length : Int) = 16)) then (((putN ((([102, (by8 a)] : List UInt8) ++ b) ++ d) e 4) ++ f)) else ([])) else ([])) else ([])) else ([])) else ([])
theorem csProofBody (m : World) (a : Int) (E : Value) (b : List UInt8) (ab : R_22 m E b) (F : Value) (d : List UInt8) (ac : R_22 m F d) (e : Int) (G : Value) (f : List UInt8) (ad : R_22 m G f)  : Fn Try.prog 69 #[(vi a), E, F, (vi e), G] m (fun v H => Keep m H ∧ O_22 H m.heap.size v (s_ProofBody a b d e f)) := by
 obtain ⟨s, t, rfl, I, a2⟩ := ab
 obtain ⟨u, x, rfl, J, a3⟩ := ac
 obtain ⟨y, A, rfl, K, a4⟩ := ad
 refine fn_ofS (n := 48) [(vi a), (vs s b.length t), (vs u d.length x), (vi e), (vs y f.length A)] Try.func69 rfl rfl ?_
 refine sr ?_
 refine aw (vs none 0 0) ?_
 refine n4 ?_
 refine jT1 [(0, (vi a)), (1, (vs s b.length t)), (2, (vs u d.length x)), (3, (vi e)), (4, (vs y f.length A)), (10, (vs none 0 0))] (s_ProofBody a b d e f = []) ?_ fun q => ?_
 ·intro ae L M a5
  refine sr ?_
  refine wl_lit0 wN rfl rfl slTy_22 (fun w => by kernel_rfl) ?_
  intro N af ah ai
  have aj := ((Ch.base m).extk M).extk ah
  refine aw (vs (some N) 0 0) ?_
  refine n1 ?_
  refine rt (vs (some N) 0 0) ?_
  refine ⟨aj.keep0, ?_⟩
  rw [ae]
  exact ⟨_, _, rfl, (own_lo ai M.size), (by simp), ⟨trivial, trivial⟩⟩
 refine mw (vi a) ?_
 refine cl wN (csl1In m a 1 9) ?_
 rintro _ L ⟨l, rfl⟩
 have C := (Ch.base m).extk l
 refine pu (vb (!(s_l1In a 1 9))) wN ?_
 refine mw (vb (!(s_l1In a 1 9))) ?_
 rcases bf (s_l1In a 1 9) with g | g
 ·have a6 := spec_l1In_f g
  iterate 3 refine sk (cA not g) ?_
  refine pk (vb true) wN (cA not g) ?_
  refine mw (vb true) ?_
  iterate 3 refine sk (Eq.refl true) ?_
  refine pk (vb true) wN (Eq.refl true) ?_
  refine mw (vb true) ?_
  iterate 3 refine sk (Eq.refl true) ?_
  refine pk (vb true) wN (Eq.refl true) ?_
  refine mw (vb true) ?_
  iterate 3 refine sk (Eq.refl true) ?_
  refine pk (vb true) wN (Eq.refl true) ?_
  refine n2 ?_
  refine ct (Eq.refl true) ?_
  have ak : s_ProofBody a b d e f = [] := by simp only [s_ProofBody, g, cond_true, cond_false]
  exact wj (q ak _ l)
 have a7 := spec_l1In_t g
 refine mv (vs s b.length t) (wS (cA not g)) ?_
 refine ln (wS (cA not g)) slTy_22 (I.from0 C) ?_
 refine pu (vb (!(decide ((b.length : Int) = 12)))) (wS (cA not g)) ?_
 refine pf (vb (!(decide ((b.length : Int) = 12)))) wN (cA not g) ?_
 refine mw (vb (!(decide ((b.length : Int) = 12)))) ?_
 rcases bf (decide ((b.length : Int) = 12)) with h | h
 ·have a8 := dF h
  iterate 3 refine sk (cA not h) ?_
  refine pk (vb true) wN (cA not h) ?_
  refine mw (vb true) ?_
  iterate 3 refine sk (Eq.refl true) ?_
  refine pk (vb true) wN (Eq.refl true) ?_
  refine mw (vb true) ?_
  iterate 3 refine sk (Eq.refl true) ?_
  refine pk (vb true) wN (Eq.refl true) ?_
  refine n2 ?_
  refine ct (Eq.refl true) ?_
  have am : s_ProofBody a b d e f = [] := by simp only [s_ProofBody, g, h, cond_true, cond_false]
  exact wj (q am _ l)
 have a9 := dT h
 refine mv (vs u d.length x) (wS (cA not h)) ?_
 refine ln (wS (cA not h)) slTy_22 (J.from0 C) ?_
 refine pu (vb (!(decide ((d.length : Int) = 12)))) (wS (cA not h)) ?_
 refine pf (vb (!(decide ((d.length : Int) = 12)))) wN (cA not h) ?_
 refine mw (vb (!(decide ((d.length : Int) = 12)))) ?_
 rcases bf (decide ((d.length : Int) = 12)) with i | i
 ·have aA := dF i
  iterate 3 refine sk (cA not i) ?_
  refine pk (vb true) wN (cA not i) ?_
  refine mw (vb true) ?_
  iterate 3 refine sk (Eq.refl true) ?_
  refine pk (vb true) wN (Eq.refl true) ?_
  refine n2 ?_
  refine ct (Eq.refl true) ?_
  have an : s_ProofBody a b d e f = [] := by simp only [s_ProofBody, g, h, i, cond_true, cond_false]
  exact wj (q an _ l)
 have aB := dT i
 refine mv (vi e) (wS (cA not i)) ?_
 refine cl (wS (cA not i)) (csl1In L e 0 1000000) ?_
 rintro _ af ⟨o, rfl⟩
 have O := C.extk o
 refine pu (vb (!(s_l1In e 0 1000000))) (wS (cA not i)) ?_
 refine pf (vb (!(s_l1In e 0 1000000))) wN (cA not i) ?_
 refine mw (vb (!(s_l1In e 0 1000000))) ?_
 rcases bf (s_l1In e 0 1000000) with j | j
 ·have aC := spec_l1In_f j
  iterate 3 refine sk (cA not j) ?_
  refine pk (vb true) wN (cA not j) ?_
  refine n2 ?_
  refine ct (Eq.refl true) ?_
  have ao : s_ProofBody a b d e f = [] := by simp only [s_ProofBody, g, h, i, j, cond_true, cond_false]
  exact wj (q ao _ (l.trans o))
 have aD := spec_l1In_t j
 refine mv (vs y f.length A) (wS (cA not j)) ?_
 refine ln (wS (cA not j)) slTy_22 (K.from0 O) ?_
 refine pu (vb (!(decide ((f.length : Int) = 16)))) (wS (cA not j)) ?_
 refine pf (vb (!(decide ((f.length : Int) = 16)))) wN (cA not j) ?_
 refine n2 ?_
 rcases bf (decide ((f.length : Int) = 16)) with p | p
 ·have aE := dF p
  refine ct (cA not p) ?_
  have ap : s_ProofBody a b d e f = [] := by simp only [s_ProofBody, g, h, i, j, p, cond_true, cond_false]
  exact wj (q ap _ (l.trans o))
 have aF := dT p
 refine cf (cA not p) ?_
 refine y1 ?_
 refine mw (vi a) ?_
 refine wl_conv8 a wN rfl rfl (by kernel_rfl) ?_
 refine ltB ([102, (by8 a)] : List UInt8) wN slTy_22 ?_
 intro aG aH aI r P
 have Q := O.extk r
 refine mw (vs s b.length t) ?_
 refine apB ([102, (by8 a)] : List UInt8) b wN slTy_22 P (I.from0 Q) r.size ?_
 intro aJ aK aL B R aM aN
 have S := Q.ext B (fun k hk => nT (z2 l o) (own_lt P k hk).1)
 refine mw (vs u d.length x) ?_
 refine apB (([102, (by8 a)] : List UInt8) ++ b) d wN slTy_22 R (J.from0 S) (z2 r B) ?_
 intro T V aq D au aO av
 have ax := S.ext D (fun k hk => nT (z2 l o) (own_lt R k hk).1)
 refine aw (vs T ((([102, (by8 a)] : List UInt8) ++ b) ++ d).length V) ?_
 refine nx ?_
 refine mw (vs T ((([102, (by8 a)] : List UInt8) ++ b) ++ d).length V) ?_
 refine mw (vi e) ?_
 refine cl wN (csPutN aq _ ((([102, (by8 a)] : List UInt8) ++ b) ++ d) (mR_22 (Rd.of_own au) av) e 4 (by first | omega | (simp; done) | (simp; omega) | (simp only [List.length_append, List.length_cons, List.length_nil] at *; omega))) ?_
 rintro _ aP ⟨W, ⟨aQ, aR, rfl, X, _⟩⟩
 have Y := ax.extk W
 have aS := putN_len ((([102, (by8 a)] : List UInt8) ++ b) ++ d) e 4
 refine mw (vs y f.length A) ?_
 refine apB (putN ((([102, (by8 a)] : List UInt8) ++ b) ++ d) e 4) f wN slTy_22 X (K.from0 Y) W.size ?_
 intro Z aa aT ay az aU a0
 have a1 := Y.ext ay (fun k hk => nT (z5 l o r B D) (own_lt X k hk).1)
 refine aw (vs Z ((putN ((([102, (by8 a)] : List UInt8) ++ b) ++ d) e 4) ++ f).length aa) ?_
 refine n3 ?_
 refine rt (vs Z ((putN ((([102, (by8 a)] : List UInt8) ++ b) ++ d) e 4) ++ f).length aa) ?_
 refine ⟨a1.keep0, ?_⟩
 simp only [s_ProofBody, g, h, i, j, p, cond_true, cond_false]
 exact ⟨_, _, rfl, (own_lo az (z5 l o r B D)), a0, ⟨trivial, trivial⟩⟩

theorem csTag (d : World) (j : Value) (a : List UInt8) (A : R_22 d j a) (k : Value) (b : List UInt8) (B : R_22 d k b)  : Fn Try.prog 70 #[j, k] d (fun v l => Keep d l ∧ O_22 l d.heap.size v (tagP a b)) := by
 obtain ⟨m, o, rfl, C, D⟩ := A
 obtain ⟨p, q, rfl, E, F⟩ := B
 refine fn_ofS (n := 17) [(vs m a.length o), (vs p b.length q)] Try.func70 rfl rfl ?_
 refine sr ?_
 refine aw (vs none 0 0) ?_
 refine nx ?_
 refine mw (vs m a.length o) ?_
 refine mw (vs p b.length q) ?_
 refine cl wN (csHmac d _ a (mR_22 C D) _ b (mR_22 E F)) ?_
 rintro _ T ⟨f, ⟨g, h, rfl, r, G, V⟩⟩
 have s := (Ch.base d).extk f
 have W := hmac_le a b
 refine aw (vs g (hmac a b).length h) ?_
 refine n4 ?_
 refine mw (vs g (hmac a b).length h) ?_
 refine ln wN slTy_22 (Rd.of_own r) ?_
 refine pu (vb (decide (((hmac a b).length : Int) < 16))) wN ?_
 refine n2 ?_
 rcases bt (decide (((hmac a b).length : Int) < 16)) with e | e
 ·have X := dT e
  refine ct e ?_
  refine sr ?_
  refine wl_lit0 wN rfl rfl slTy_22 (fun w => by kernel_rfl) ?_
  intro t H I J
  have K := s.extk I
  refine aw (vs (some t) 0 0) ?_
  refine n1 ?_
  refine rt (vs (some t) 0 0) ?_
  refine ⟨K.keep0, ?_⟩
  have L : tagP a b = [] := by first | exact tagP_f (by omega) | rfl
  rw [L]
  exact ⟨_, _, rfl, (own_lo J f.size), (by simp), ⟨trivial, trivial⟩⟩
 have Y := dF e
 refine cf e ?_
 refine y1 ?_
 refine wl_lit0 wN rfl rfl slTy_22 (fun w => by kernel_rfl) ?_
 intro Z H i M
 refine mw (vs g (hmac a b).length h) ?_
 have u := (own_kp r i)
 refine slv ((hmac a b).take 16) 0 16 wN slTy_22 (Rd.of_own u) (by first | omega | (simp <;> omega)) (by first | omega | (simp <;> omega)) (by first | rfl | (simp; done) | (rw [List.take_of_length_le (by first | (simp; done) | (simp; omega))])) rfl rfl rfl rfl (.inl ⟨rfl, rfl⟩) (.inr ⟨_, _, _, rfl, rfl, by omega⟩) ?_
 have N : 0 ≤ 16 := (by first | omega | (simp <;> omega))
 have O : 16 ≤ (hmac a b).length := (by first | omega | (simp <;> omega))
 refine ap0 ((hmac a b).take 16) wN slTy_22 M (Rd.subV (x' := ((hmac a b).take 16)) (Rd.of_own u) N O (by first | rfl | (simp; done) | (rw [List.take_of_length_le (by first | (simp; done) | (simp; omega))]))) i.size ?_
 intro x y aa P Q ab
 have R := (s.extk i).extk P
 refine aw (vs x ((hmac a b).take 16).length y) ?_
 refine n3 ?_
 refine rt (vs x ((hmac a b).take 16).length y) ?_
 refine ⟨R.keep0, ?_⟩
 have S : tagP a b = ((hmac a b).take 16) := by first | exact tagP_f (by omega) | rfl
 rw [S]
 exact ⟨_, _, rfl, (own_lo Q f.size), (nT (by simp only [List.length_take, List.length_drop]; omega) G), ⟨trivial, trivial⟩⟩

def s_Proof (a : List UInt8) (b : Int) (d : List UInt8) (e : List UInt8) (f : Int) (g : List UInt8) : (List UInt8) := bif (decide (((s_FinishKey a).length : Int) = 0)) then ([]) else (bif (decide (((s_ProofBody b d e f g).length : Int) = 0)) then ([]) else ((tagP (s_FinishKey a) (s_ProofBody b d e f g))))
theorem csProof (i : World) (s : Value) (a : List UInt8) (Q : R_22 i s a) (b : Int) (t : Value) (d : List UInt8) (R : R_22 i t d) (u : Value) (e : List UInt8) (S : R_22 i u e) (f : Int) (x : Value) (g : List UInt8) (T : R_22 i x g)  : Fn Try.prog 49 #[s, (vi b), t, u, (vi f), x] i (fun v y => Keep i y ∧ O_22 y i.heap.size v (s_Proof a b d e f g)) := by
 obtain ⟨A, B, rfl, V, W⟩ := Q
 obtain ⟨C, D, rfl, X, Y⟩ := R
 obtain ⟨E, F, rfl, Z, aa⟩ := S
 obtain ⟨G, H, rfl, ab, ac⟩ := T
 refine fn_ofS (n := 35) [(vs A a.length B), (vi b), (vs C d.length D), (vs E e.length F), (vi f), (vs G g.length H)] Try.func49 rfl rfl ?_
 refine sr ?_
 refine aw (vs none 0 0) ?_
 refine nx ?_
 refine mw (vs A a.length B) ?_
 refine cl wN (csFinishKey i _ a (mR_22 V W)) ?_
 rintro _ ad ⟨r, ⟨k, l, rfl, ae, af, az⟩⟩
 have m := (Ch.base i).extk r
 refine aw (vs k (s_FinishKey a).length l) ?_
 refine nx ?_
 refine mw (vi b) ?_
 refine mw (vs C d.length D) ?_
 refine mw (vs E e.length F) ?_
 refine mw (vi f) ?_
 refine mw (vs G g.length H) ?_
 refine cl wN (csProofBody ad b _ d (mR_22 (X.from0 m) Y) _ e (mR_22 (Z.from0 m) aa) f _ g (mR_22 (ab.from0 m) ac)) ?_
 rintro _ ah ⟨o, ⟨p, q, rfl, I, ai, a0⟩⟩
 have J := m.extk o
 refine aw (vs p (s_ProofBody b d e f g).length q) ?_
 refine n4 ?_
 refine jT1 [(12, (vs none 0 0)), (13, (vs k (s_FinishKey a).length l)), (14, (vs p (s_ProofBody b d e f g).length q))] (s_Proof a b d e f g = []) ?_ fun K => ?_
 ·intro aj ak L a1
  refine sr ?_
  refine wl_lit0 wN rfl rfl slTy_22 (fun w => by kernel_rfl) ?_
  intro M a2 am an
  have ao := (J.extk L).extk am
  refine aw (vs (some M) 0 0) ?_
  refine n1 ?_
  refine rt (vs (some M) 0 0) ?_
  refine ⟨ao.keep0, ?_⟩
  rw [aj]
  exact ⟨_, _, rfl, (own_lo an (z3 r o L)), (by simp), ⟨trivial, trivial⟩⟩
 refine mw (vs k (s_FinishKey a).length l) ?_
 have N := (own_kp ae o)
 refine ln wN slTy_22 (Rd.of_own N) ?_
 refine pu (vb (decide (((s_FinishKey a).length : Int) = 0))) wN ?_
 refine mw (vb (decide (((s_FinishKey a).length : Int) = 0))) ?_
 rcases bt (decide (((s_FinishKey a).length : Int) = 0)) with h | h
 ·have a3 := dT h
  iterate 3 refine sk h ?_
  refine pk (vb true) wN h ?_
  refine n2 ?_
  refine ct (Eq.refl true) ?_
  have ap : s_Proof a b d e f g = [] := by simp only [s_Proof, h, cond_true, cond_false]
  exact wj (K ap _ (Ch.refl _ _))
 have a4 := dF h
 refine mv (vs p (s_ProofBody b d e f g).length q) (wS h) ?_
 refine ln (wS h) slTy_22 (Rd.of_own I) ?_
 refine pu (vb (decide (((s_ProofBody b d e f g).length : Int) = 0))) (wS h) ?_
 refine pf (vb (decide (((s_ProofBody b d e f g).length : Int) = 0))) wN h ?_
 refine n2 ?_
 rcases bt (decide (((s_ProofBody b d e f g).length : Int) = 0)) with j | j
 ·have a5 := dT j
  refine ct j ?_
  have aq : s_Proof a b d e f g = [] := by simp only [s_Proof, h, j, cond_true, cond_false]
  exact wj (K aq _ (Ch.refl _ _))
 have a6 := dF j
 refine cf j ?_
 refine y1 ?_
 refine mw (vs k (s_FinishKey a).length l) ?_
 refine mw (vs p (s_ProofBody b d e f g).length q) ?_
 refine cl wN (csTag ah _ (s_FinishKey a) (mR_22 (Rd.of_own N) af) _ (s_ProofBody b d e f g) (mR_22 (Rd.of_own I) ai)) ?_
 rintro _ ak ⟨au, ⟨O, P, rfl, av, ax, a7⟩⟩
 have ay := J.extk au
 have a8 := tagP_len (s_FinishKey a) (s_ProofBody b d e f g)
 refine aw (vs O (tagP (s_FinishKey a) (s_ProofBody b d e f g)).length P) ?_
 refine n3 ?_
 refine rt (vs O (tagP (s_FinishKey a) (s_ProofBody b d e f g)).length P) ?_
 refine ⟨ay.keep0, ?_⟩
 simp only [s_Proof, h, j, cond_true, cond_false]
 exact ⟨_, _, rfl, (own_lo av (z2 r o)), ax, ⟨trivial, trivial⟩⟩

def s_l7Copy (a : PFrame) : (PFrame) := a
theorem csl7Copy (af : World) (a0 : Value) (a : PFrame) (aG : R_40 af a0 a)  : Fn Try.prog 50 #[a0] af (fun v a1 => Keep af a1 ∧ O_40 a1 af.heap.size v (a)) := by
 obtain ⟨au, av, an, ao, ah, ai, Z, aa, S, T, K, L, rfl, aH, aI, aJ, aK, aL, aM, aN, aO, aP, aQ, aR, aS⟩ := aG
 refine fn_ofS (n := 34) [(va (L_40 a au av an ao ah ai Z aa S T K L))] Try.func50 rfl rfl ?_
 refine sr ?_
 refine bx (L_40 a au av an ao ah ai Z aa S T K L) wN ?_
 intro y b9 ab M N aT
 refine al Z_40 wN zero_40 ?_
 intro bA bB a2 ac r aU
 refine nx ?_
 refine wl_lit0 wN rfl rfl slTy_22 (fun w => by kernel_rfl) ?_
 intro bC bD m aV
 have a3 := (((Ch.base af).extk N).extk r).extk m
 refine pu (vp y 2) wN ?_
 have a4 := ((aT.kp r).kp m)
 refine ld (vs au a.Cn.length av) wN isAgg_22 a4 ?_
 refine ap0 a.Cn wN slTy_22 aV (aH.from0 a3) m.size ?_
 intro A B bE o x bF
 refine pu (vp y 2) wN ?_
 have aW := (a4.kp o)
 refine st (vs A a.Cn.length B) [(vs A a.Cn.length B)] (L_40 a A B an ao ah ai Z aa S T K L) wN sizeOf_22 aW ?_
 intro bG d aX bH
 have aY := (a3.extk o).ext d (fun k hk => by subst hk; exact ab)
 refine nx ?_
 refine wl_lit0 wN rfl rfl slTy_22 (fun w => by kernel_rfl) ?_
 intro bI bJ g aZ
 have a5 := aY.extk g
 refine pu (vp y 3) wN ?_
 have a6 := (aX.kp g)
 refine ld (vs an a.Sn.length ao) wN isAgg_22 a6 ?_
 refine ap0 a.Sn wN slTy_22 aZ (aJ.from0 a5) g.size ?_
 intro C D bK i E ba
 refine pu (vp y 3) wN ?_
 have bb := (a6.kp i)
 refine st (vs C a.Sn.length D) [(vs C a.Sn.length D)] (L_40 a A B C D ah ai Z aa S T K L) wN sizeOf_22 bb ?_
 intro bL b bc bM
 have bd := (a5.extk i).ext b (fun k hk => by subst hk; exact ab)
 refine nx ?_
 refine wl_lit0 wN rfl rfl slTy_22 (fun w => by kernel_rfl) ?_
 intro bN bO e be
 have a7 := bd.extk e
 refine pu (vp y 5) wN ?_
 have a8 := (bc.kp e)
 refine ld (vs ah a.Cookie.length ai) wN isAgg_22 a8 ?_
 refine ap0 a.Cookie wN slTy_22 be (aL.from0 a7) e.size ?_
 intro F G bP j H a9
 refine pu (vp y 5) wN ?_
 have bg := (a8.kp j)
 refine st (vs F a.Cookie.length G) [(vs F a.Cookie.length G)] (L_40 a A B C D F G Z aa S T K L) wN sizeOf_22 bg ?_
 intro bQ f bh bR
 have bi := (a7.extk j).ext f (fun k hk => by subst hk; exact ab)
 refine nx ?_
 refine wl_lit0 wN rfl rfl slTy_22 (fun w => by kernel_rfl) ?_
 intro bS bT h bj
 have aA := bi.extk h
 refine pu (vp y 6) wN ?_
 have aB := (bh.kp h)
 refine ld (vs Z a.Proof.length aa) wN isAgg_22 aB ?_
 refine ap0 a.Proof wN slTy_22 bj (aN.from0 aA) h.size ?_
 intro I J bU p V ax
 refine pu (vp y 6) wN ?_
 have bk := (aB.kp p)
 refine st (vs I a.Proof.length J) [(vs I a.Proof.length J)] (L_40 a A B C D F G I J S T K L) wN sizeOf_22 bk ?_
 intro bW l bl bX
 have bm := (aA.extk p).ext l (fun k hk => by subst hk; exact ab)
 refine nx ?_
 refine wl_lit0 wN rfl rfl slTy_22 (fun w => by kernel_rfl) ?_
 intro bY bZ q bn
 have aC := bm.extk q
 refine pu (vp y 9) wN ?_
 have aD := (bl.kp q)
 refine ld (vs S a.Body.length T) wN isAgg_22 aD ?_
 refine ap0 a.Body wN slTy_22 bn (aP.from0 aC) q.size ?_
 intro O P ca t aj ap
 refine pu (vp y 9) wN ?_
 have bo := (aD.kp t)
 refine st (vs O a.Body.length P) [(vs O a.Body.length P)] (L_40 a A B C D F G I J O P K L) wN sizeOf_22 bo ?_
 intro cb s bp cc
 have bq := (aC.extk t).ext s (fun k hk => by subst hk; exact ab)
 refine nx ?_
 refine wl_lit0 wN rfl rfl slTy_22 (fun w => by kernel_rfl) ?_
 intro cd ce u br
 have aE := bq.extk u
 refine pu (vp y 10) wN ?_
 have aF := (bp.kp u)
 refine ld (vs K a.Tag.length L) wN isAgg_22 aF ?_
 refine ap0 a.Tag wN slTy_22 br (aR.from0 aE) u.size ?_
 intro W X cg Q ay ak
 refine pu (vp y 10) wN ?_
 have bu := (aF.kp Q)
 refine st (vs W a.Tag.length X) [(vs W a.Tag.length X)] (L_40 a A B C D F G I J O P W X) wN sizeOf_22 bu ?_
 intro ci R bv cj
 have bw := (aE.extk Q).ext R (fun k hk => by subst hk; exact ab)
 refine nx ?_
 refine lN (L_40 a A B C D F G I J O P W X) wN isAgg_40 sizeOf_40 bv ?_
 have ad := nL M (a2)
 have bz := ((((((((((((((((((aU.kp m).kp o).ch d (Ne.symm (nN ad))).kp g).kp i).ch b (Ne.symm (nN ad))).kp e).kp j).ch f (Ne.symm (nN ad))).kp h).kp p).ch l (Ne.symm (nN ad))).kp q).kp t).ch s (Ne.symm (nN ad))).kp u).kp Q).ch R (Ne.symm (nN ad)))
 refine sv (L_40 a A B C D F G I J O P W X) wN sizeOf_40 bz ?_
 intro ck Y b0 cm
 have b1 := bw.ext Y (fun k hk => by subst hk; exact nT N.size a2)
 refine n3 ?_
 have ae := nL M r.size
 have b2 := (own_ch (own_ch (own_kp (own_kp (own_ch (own_kp (own_kp (own_ch (own_kp (own_kp (own_ch (own_kp (own_kp (own_ch (own_kp (own_kp (own_ch x d (ne1 x ae)) g) i) b (ne1 x ae)) e) j) f (ne1 x ae)) h) p) l (ne1 x ae)) q) t) s (ne1 x ae)) u) Q) R (ne1 x ae)) Y (ne1 x (ac)))
 have am := nL M (z4 r m o d)
 have b3 := (own_ch (own_ch (own_kp (own_kp (own_ch (own_kp (own_kp (own_ch (own_kp (own_kp (own_ch (own_kp (own_kp (own_ch E b (ne1 E am)) e) j) f (ne1 E am)) h) p) l (ne1 E am)) q) t) s (ne1 E am)) u) Q) R (ne1 E am)) Y (ne1 E (nL ac (z3 m o d))))
 have aq := nL M (z7 r m o d g i b)
 have b4 := (own_ch (own_ch (own_kp (own_kp (own_ch (own_kp (own_kp (own_ch (own_kp (own_kp (own_ch H f (ne1 H aq)) h) p) l (ne1 H aq)) q) t) s (ne1 H aq)) u) Q) R (ne1 H aq)) Y (ne1 H (nL ac (z6 m o d g i b))))
 have az := nL M (z10 r m o d g i b e j f)
 have b5 := (own_ch (own_ch (own_kp (own_kp (own_ch (own_kp (own_kp (own_ch V l (ne1 V az)) q) t) s (ne1 V az)) u) Q) R (ne1 V az)) Y (ne1 V (nL ac (z9 m o d g i b e j f))))
 have b6 := (own_ch (own_ch (own_kp (own_kp (own_ch aj s (ne1 aj (nL M (nT (z12 r m o d g i b e j f h p) l.size)))) u) Q) R (ne1 aj (nL M (nT (z12 r m o d g i b e j f h p) l.size)))) Y (ne1 aj (nL ac (z12 m o d g i b e j f h p l))))
 have b7 := (own_ch (own_ch ay R (ne1 ay (nL M (t5 (z12 r m o d g i b e j f h p) l.size q.size t.size s.size)))) Y (ne1 ay (nL ac (t4 (z12 m o d g i b e j f h p l) q.size t.size s.size))))
 refine ret_1 (.inl rfl) (va (L_40 a A B C D F G I J O P W X)) rfl (rv_c (L_40 a A B C D F G I J O P W X) rfl b0 isAgg_40 sizeOf_40) ?_
 refine ⟨b1.keep0, ?_⟩
 have b8 : a = a := by rfl
 rw [b8]
 exact ⟨_, _, _, _, _, _, _, _, _, _, _, _, rfl, (own_lo b2 (z2 N r)), aI, (own_lo b3 (z5 N r m o d)), aK, (own_lo b4 (z8 N r m o d g i b)), aM, (own_lo b5 (z11 N r m o d g i b e j f)), aO, (own_lo b6 (t3 (z12 N r m o d g i b e j f h) p.size l.size)), aQ, (own_lo b7 (t6 (z12 N r m o d g i b e j f h) p.size l.size q.size t.size s.size)), aS, ⟨⟨(Ap.new x ba (z2 d g)), ⟨(Ap.new x a9 (z5 d g i b e)), ⟨(Ap.new x ax (z8 d g i b e j f h)), ⟨(Ap.new x ap (z11 d g i b e j f h p l q)), ⟨(Ap.new x ak (t3 (z12 d g i b e j f h p l q t) s.size u.size)), trivial⟩⟩⟩⟩⟩, ⟨⟨(Ap.new E a9 (z2 b e)), ⟨(Ap.new E ax (z5 b e j f h)), ⟨(Ap.new E ap (z8 b e j f h p l q)), ⟨(Ap.new E ak (z11 b e j f h p l q t s u)), trivial⟩⟩⟩⟩, ⟨⟨(Ap.new H ax (z2 f h)), ⟨(Ap.new H ap (z5 f h p l q)), ⟨(Ap.new H ak (z8 f h p l q t s u)), trivial⟩⟩⟩, ⟨⟨(Ap.new V ap (z2 l q)), ⟨(Ap.new V ak (z5 l q t s u)), trivial⟩⟩, ⟨⟨(Ap.new aj ak (z2 s u)), trivial⟩, ⟨trivial, trivial⟩⟩⟩⟩⟩⟩⟩

def s_FinishOf (d : List UInt8) (b : Int) (a : PFrame) : (PFrame) × (Bool) := bif (s_FrameOk a) then (bif (decide (a.Kind = 2)) then (bif (decide (((s_Proof d b a.Cn a.Sn a.Tick a.Cookie).length : Int) = 0)) then (({ Kind := 0, Id := 0, Cn := [], Sn := [], Tick := 0, Cookie := [], Proof := [], Epoch := 0, Seq := 0, Body := [], Tag := [] : PFrame }, false)) else (({ Kind := 3, Id := b, Cn := (a).Cn, Sn := (a).Sn, Tick := (a).Tick, Cookie := (a).Cookie, Proof := (s_Proof d b a.Cn a.Sn a.Tick a.Cookie), Epoch := (a).Epoch, Seq := (a).Seq, Body := (a).Body, Tag := (a).Tag : PFrame }, true))) else (({ Kind := 0, Id := 0, Cn := [], Sn := [], Tick := 0, Cookie := [], Proof := [], Epoch := 0, Seq := 0, Body := [], Tag := [] : PFrame }, false))) else (({ Kind := 0, Id := 0, Cn := [], Sn := [], Tick := 0, Cookie := [], Proof := [], Epoch := 0, Seq := 0, Body := [], Tag := [] : PFrame }, false))
theorem csFinishOf (J : World) (aC : Value) (d : List UInt8) (aQ : R_22 J aC d) (b : Int) (aD : Value) (a : PFrame) (aR : R_40 J aD a)  : Fn Try.prog 18 #[aC, (vi b), aD] J (fun v aE => Keep J aE ∧ O_40_4 aE J.heap.size v (s_FinishOf d b a)) := by
 obtain ⟨an, ao, rfl, aS, aT⟩ := aQ
 obtain ⟨M, N, O, P, Q, R, Y, Z, aa, ab, ac, ad, rfl, ap, aq, au, av, ax, ay, aF, aG, aH, aI, aJ, aK⟩ := aR
 refine fn_ofS (n := 42) [(vs an d.length ao), (vi b), (va (L_40 a M N O P Q R Y Z aa ab ac ad))] Try.func18 rfl rfl ?_
 refine sr ?_
 refine bx (L_40 a M N O P Q R Y Z aa ab ac ad) wN ?_
 intro K bC bD bE g aU
 refine al Z_40 wN zero_40 ?_
 intro aV aW az a0 h a1
 have s := ((Ch.base J).extk g).extk h
 refine aw (vb false) ?_
 refine n4 ?_
 refine jT1 [(0, (vs an d.length ao)), (1, (vi b)), (5, (vp K 0)), (6, (vp aV 0)), (7, (vb false))] (s_FinishOf d b a = ({ Kind := 0, Id := 0, Cn := [], Sn := [], Tick := 0, Cookie := [], Proof := [], Epoch := 0, Seq := 0, Body := [], Tag := [] : PFrame }, false)) ?_ fun aL => ?_
 ·intro aX aM aN bF
  refine sr ?_
  refine pu (va Z_40) wN ?_
  have aY := (a1.kp aN)
  refine sv Z_40 wN sizeOf_40 aY ?_
  intro S aZ ba bG
  have bb := (s.extk aN).ext aZ (fun k hk => by subst hk; exact nT g.size az)
  refine aw (vb false) ?_
  refine n1 ?_
  refine ret_2 (.inl rfl) (va Z_40) (vb false) rfl (rv_c Z_40 rfl ba isAgg_40 sizeOf_40) rfl ?_
  refine ⟨bb.keep0, ?_⟩
  rw [aX]
  exact ⟨_, _, _, _, _, _, _, _, _, _, _, _, rfl, (by first | exact own_nil _ _ _ _ | exact OLv.nil _ _ _ _), (by simp), (by first | exact own_nil _ _ _ _ | exact OLv.nil _ _ _ _), (by simp), (by first | exact own_nil _ _ _ _ | exact OLv.nil _ _ _ _), (by simp), (by first | exact own_nil _ _ _ _ | exact OLv.nil _ _ _ _), (by simp), (by first | exact own_nil _ _ _ _ | exact OLv.nil _ _ _ _), (by simp), (by first | exact own_nil _ _ _ _ | exact OLv.nil _ _ _ _), (by simp), ⟨⟨(Ap.nl _), ⟨(Ap.nl _), ⟨(Ap.nl _), ⟨(Ap.nl _), ⟨(Ap.nl _), trivial⟩⟩⟩⟩⟩, ⟨⟨(Ap.nl _), ⟨(Ap.nl _), ⟨(Ap.nl _), ⟨(Ap.nl _), trivial⟩⟩⟩⟩, ⟨⟨(Ap.nl _), ⟨(Ap.nl _), ⟨(Ap.nl _), trivial⟩⟩⟩, ⟨⟨(Ap.nl _), ⟨(Ap.nl _), trivial⟩⟩, ⟨⟨(Ap.nl _), trivial⟩, ⟨trivial, trivial⟩⟩⟩⟩⟩⟩⟩
 have aO := (aU.kp h)
 refine lN (L_40 a M N O P Q R Y Z aa ab ac ad) wN isAgg_40 sizeOf_40 aO ?_
 refine cl wN (csFrameOk aW _ a (mR_40 (ap.from0 s) aq (au.from0 s) av (ax.from0 s) ay (aF.from0 s) aG (aH.from0 s) aI (aJ.from0 s) aK)) ?_
 rintro _ aM ⟨e, rfl⟩
 have T := s.extk e
 refine pu (vb (!(s_FrameOk a))) wN ?_
 refine mw (vb (!(s_FrameOk a))) ?_
 rcases bf (s_FrameOk a) with i | i
 ·iterate 3 refine sk (cA not i) ?_
  refine pk (vb true) wN (cA not i) ?_
  refine n2 ?_
  refine ct (Eq.refl true) ?_
  have bc : s_FinishOf d b a = ({ Kind := 0, Id := 0, Cn := [], Sn := [], Tick := 0, Cookie := [], Proof := [], Epoch := 0, Seq := 0, Body := [], Tag := [] : PFrame }, false) := by simp only [s_FinishOf, i, cond_true, cond_false]
  exact wj (aL bc _ e)
 have bH := frameOk_s i
 refine pu (vp K 0) (wS (cA not i)) ?_
 have L := (aO.kp e)
 refine ld (vi a.Kind) (wS (cA not i)) isAgg_3 L ?_
 refine pu (vb (!(decide (a.Kind = 2)))) (wS (cA not i)) ?_
 refine pf (vb (!(decide (a.Kind = 2)))) wN (cA not i) ?_
 refine n2 ?_
 rcases bf (decide (a.Kind = 2)) with t | t
 ·have bI := dF t
  refine ct (cA not t) ?_
  have bd : s_FinishOf d b a = ({ Kind := 0, Id := 0, Cn := [], Sn := [], Tick := 0, Cookie := [], Proof := [], Epoch := 0, Seq := 0, Body := [], Tag := [] : PFrame }, false) := by simp only [s_FinishOf, i, t, cond_true, cond_false]
  exact wj (aL bd _ e)
 have bJ := dT t
 refine cf (cA not t) ?_
 refine y1 ?_
 refine mw (vs an d.length ao) ?_
 refine mw (vi b) ?_
 refine pu (vp K 2) wN ?_
 refine ld (vs M a.Cn.length N) wN isAgg_22 L ?_
 refine pu (vp K 3) wN ?_
 refine ld (vs O a.Sn.length P) wN isAgg_22 L ?_
 refine pu (vp K 4) wN ?_
 refine ld (vi a.Tick) wN isAgg_3 L ?_
 refine pu (vp K 5) wN ?_
 refine ld (vs Q a.Cookie.length R) wN isAgg_22 L ?_
 refine cl wN (csProof aM _ d (mR_22 (aS.from0 T) aT) b _ a.Cn (mR_22 (ap.from0 T) aq) _ a.Sn (mR_22 (au.from0 T) av) a.Tick _ a.Cookie (mR_22 (ax.from0 T) ay)) ?_
 rintro _ S ⟨f, ⟨l, m, rfl, j, be, bK⟩⟩
 have u := T.extk f
 refine aw (vs l (s_Proof d b a.Cn a.Sn a.Tick a.Cookie).length m) ?_
 refine n4 ?_
 refine mw (vs l (s_Proof d b a.Cn a.Sn a.Tick a.Cookie).length m) ?_
 refine ln wN slTy_22 (Rd.of_own j) ?_
 refine pu (vb (decide (((s_Proof d b a.Cn a.Sn a.Tick a.Cookie).length : Int) = 0))) wN ?_
 refine n2 ?_
 rcases bt (decide (((s_Proof d b a.Cn a.Sn a.Tick a.Cookie).length : Int) = 0)) with I | I
 ·have bL := dT I
  refine ct I ?_
  refine sr ?_
  refine pu (va Z_40) wN ?_
  have bg := ((a1.kp e).kp f)
  refine sv Z_40 wN sizeOf_40 bg ?_
  intro a2 bh bi bM
  have bj := u.ext bh (fun k hk => by subst hk; exact nT g.size az)
  refine aw (vb false) ?_
  refine n1 ?_
  refine ret_2 (.inl rfl) (va Z_40) (vb false) rfl (rv_c Z_40 rfl bi isAgg_40 sizeOf_40) rfl ?_
  refine ⟨bj.keep0, ?_⟩
  simp only [s_FinishOf, i, t, I, cond_true, cond_false]
  exact ⟨_, _, _, _, _, _, _, _, _, _, _, _, rfl, (by first | exact own_nil _ _ _ _ | exact OLv.nil _ _ _ _), (by simp), (by first | exact own_nil _ _ _ _ | exact OLv.nil _ _ _ _), (by simp), (by first | exact own_nil _ _ _ _ | exact OLv.nil _ _ _ _), (by simp), (by first | exact own_nil _ _ _ _ | exact OLv.nil _ _ _ _), (by simp), (by first | exact own_nil _ _ _ _ | exact OLv.nil _ _ _ _), (by simp), (by first | exact own_nil _ _ _ _ | exact OLv.nil _ _ _ _), (by simp), ⟨⟨(Ap.nl _), ⟨(Ap.nl _), ⟨(Ap.nl _), ⟨(Ap.nl _), ⟨(Ap.nl _), trivial⟩⟩⟩⟩⟩, ⟨⟨(Ap.nl _), ⟨(Ap.nl _), ⟨(Ap.nl _), ⟨(Ap.nl _), trivial⟩⟩⟩⟩, ⟨⟨(Ap.nl _), ⟨(Ap.nl _), ⟨(Ap.nl _), trivial⟩⟩⟩, ⟨⟨(Ap.nl _), ⟨(Ap.nl _), trivial⟩⟩, ⟨⟨(Ap.nl _), trivial⟩, ⟨trivial, trivial⟩⟩⟩⟩⟩⟩⟩
 have bN := dF I
 refine cf I ?_
 refine y1 ?_
 have bk := (L.kp f)
 refine lN (L_40 a M N O P Q R Y Z aa ab ac ad) wN isAgg_40 sizeOf_40 bk ?_
 refine cl wN (csl7Copy S _ a (mR_40 (ap.from0 u) aq (au.from0 u) av (ax.from0 u) ay (aF.from0 u) aG (aH.from0 u) aI (aJ.from0 u) aK)) ?_
 rintro _ a2 ⟨r, ⟨w, x, y, A, B, C, a3, a4, D, F, G, H, rfl, a5, bl, a6, bm, a7, bn, bO, bP, a8, bo, a9, bp, p⟩⟩
 refine al Z_40 wN zero_40 ?_
 intro aA bQ q bR ae bq
 refine sv (L_40 (a) w x y A B C a3 a4 D F G H) wN sizeOf_40 bq ?_
 intro bS af br bT
 have bu := ((u.extk r).extk ae).ext af (fun k hk => by subst hk; exact nT (z5 g h e f r) q)
 refine nx ?_
 refine pu (vp aA 0) wN ?_
 refine st (vi 3) [(vi 3)] [(vi 3), (vi ((a).Id)), (vs w ((a).Cn).length x), (vs y ((a).Sn).length A), (vi ((a).Tick)), (vs B ((a).Cookie).length C), (vs a3 ((a).Proof).length a4), (vi ((a).Epoch)), (vi ((a).Seq)), (vs D ((a).Body).length F), (vs G ((a).Tag).length H)] wN sizeOf_3 br ?_
 intro bU ah bv bW
 have bw := bu.ext ah (fun k hk => by subst hk; exact nT (z5 g h e f r) q)
 refine nx ?_
 refine mw (vi b) ?_
 refine pu (vp aA 1) wN ?_
 refine st (vi b) [(vi b)] [(vi 3), (vi b), (vs w ((a).Cn).length x), (vs y ((a).Sn).length A), (vi ((a).Tick)), (vs B ((a).Cookie).length C), (vs a3 ((a).Proof).length a4), (vi ((a).Epoch)), (vi ((a).Seq)), (vs D ((a).Body).length F), (vs G ((a).Tag).length H)] wN sizeOf_3 bv ?_
 intro bX ai bz bY
 have b0 := bw.ext ai (fun k hk => by subst hk; exact nT (z5 g h e f r) q)
 refine nx ?_
 refine mw (vs l (s_Proof d b a.Cn a.Sn a.Tick a.Cookie).length m) ?_
 refine pu (vp aA 6) wN ?_
 refine st (vs l (s_Proof d b a.Cn a.Sn a.Tick a.Cookie).length m) [(vs l (s_Proof d b a.Cn a.Sn a.Tick a.Cookie).length m)] [(vi 3), (vi b), (vs w ((a).Cn).length x), (vs y ((a).Sn).length A), (vi ((a).Tick)), (vs B ((a).Cookie).length C), (vs l (s_Proof d b a.Cn a.Sn a.Tick a.Cookie).length m), (vi ((a).Epoch)), (vi ((a).Seq)), (vs D ((a).Body).length F), (vs G ((a).Tag).length H)] wN sizeOf_22 bz ?_
 intro bZ aj b1 ca
 have b2 := b0.ext aj (fun k hk => by subst hk; exact nT (z5 g h e f r) q)
 refine nx ?_
 refine lN [(vi 3), (vi b), (vs w ((a).Cn).length x), (vs y ((a).Sn).length A), (vi ((a).Tick)), (vs B ((a).Cookie).length C), (vs l (s_Proof d b a.Cn a.Sn a.Tick a.Cookie).length m), (vi ((a).Epoch)), (vi ((a).Seq)), (vs D ((a).Body).length F), (vs G ((a).Tag).length H)] wN isAgg_40 sizeOf_40 b1 ?_
 have ak := nL a0 (nT (z3 e f r) q)
 have b3 := ((((((((a1.kp e).kp f).kp r).kp ae).ch af (nN ak)).ch ah (nN ak)).ch ai (nN ak)).ch aj (nN ak))
 refine sv [(vi 3), (vi b), (vs w ((a).Cn).length x), (vs y ((a).Sn).length A), (vi ((a).Tick)), (vs B ((a).Cookie).length C), (vs l (s_Proof d b a.Cn a.Sn a.Tick a.Cookie).length m), (vi ((a).Epoch)), (vi ((a).Seq)), (vs D ((a).Body).length F), (vs G ((a).Tag).length H)] wN sizeOf_40 b3 ?_
 intro cb aB b4 cc
 have b5 := b2.ext aB (fun k hk => by subst hk; exact nT g.size az)
 refine aw (vb true) ?_
 refine n3 ?_
 have V := fun (E sz n : Nat) (v : Value) (aP : List Value) (o : World.ownsRow a2 S.heap.size E sz v n aP) (W : World.ownsRow a2 S.heap.size E sz v n aP) => (own_ch (own_ch (own_ch (own_ch (own_ch (own_kp o ae) af (ne2 W (q))) ah (ne2 W (q))) ai (ne2 W (q))) aj (ne2 W (q))) aB (ne1 W (nL a0 (z2 e f))))
 have b6 := (V _ _ _ _ _ a5 a5)
 have b7 := (V _ _ _ _ _ a6 a6)
 have b8 := (V _ _ _ _ _ a7 a7)
 have am := nT r.size q
 have b9 := (own_ch (own_ch (own_ch (own_ch (own_ch (own_kp (own_kp j r) ae) af (ne2 j am)) ah (ne2 j am)) ai (ne2 j am)) aj (ne2 j am)) aB (ne1 j (nL a0 e.size)))
 have bA := (V _ _ _ _ _ a8 a8)
 have bB := (V _ _ _ _ _ a9 a9)
 refine ret_2 (.inl rfl) (va [(vi 3), (vi b), (vs w ((a).Cn).length x), (vs y ((a).Sn).length A), (vi ((a).Tick)), (vs B ((a).Cookie).length C), (vs l (s_Proof d b a.Cn a.Sn a.Tick a.Cookie).length m), (vi ((a).Epoch)), (vi ((a).Seq)), (vs D ((a).Body).length F), (vs G ((a).Tag).length H)]) (vb true) rfl (rv_c [(vi 3), (vi b), (vs w ((a).Cn).length x), (vs y ((a).Sn).length A), (vi ((a).Tick)), (vs B ((a).Cookie).length C), (vs l (s_Proof d b a.Cn a.Sn a.Tick a.Cookie).length m), (vi ((a).Epoch)), (vi ((a).Seq)), (vs D ((a).Body).length F), (vs G ((a).Tag).length H)] rfl b4 isAgg_40 sizeOf_40) rfl ?_
 refine ⟨b5.keep0, ?_⟩
 simp only [s_FinishOf, i, t, I, cond_true, cond_false]
 have X := Nat.le_refl S.heap.size
 exact ⟨_, _, _, _, _, _, _, _, _, _, _, _, rfl, (own_lo b6 (z4 g h e f)), bl, (own_lo b7 (z4 g h e f)), bm, (own_lo b8 (z4 g h e f)), bn, (own_lo b9 (z3 g h e)), be, (own_lo bA (z4 g h e f)), bo, (own_lo bB (z4 g h e f)), bp, ⟨⟨(p.1.1), ⟨(p.1.2.1), ⟨(Ap.lt j a5 X).symm, ⟨(p.1.2.2.2.1), ⟨(p.1.2.2.2.2.1), trivial⟩⟩⟩⟩⟩, ⟨⟨(p.2.1.1), ⟨(Ap.lt j a6 X).symm, ⟨(p.2.1.2.2.1), ⟨(p.2.1.2.2.2.1), trivial⟩⟩⟩⟩, ⟨⟨(Ap.lt j a7 X).symm, ⟨(p.2.2.1.2.1), ⟨(p.2.2.1.2.2.1), trivial⟩⟩⟩, ⟨⟨(Ap.lt j a8 X), ⟨(Ap.lt j a9 X), trivial⟩⟩, ⟨⟨(p.2.2.2.2.1.1), trivial⟩, ⟨trivial, trivial⟩⟩⟩⟩⟩⟩⟩
theorem sFin_len (p : List UInt8) (i : Int) (f : PFrame) : (s_FinishOf p i f).1.Cn.length ≤ f.Cn.length ∧ (s_FinishOf p i f).1.Sn.length ≤ f.Sn.length ∧ (s_FinishOf p i f).1.Cookie.length ≤ f.Cookie.length ∧ (s_FinishOf p i f).1.Proof.length ≤ 16 ∧ ((s_FinishOf p i f).1.Tick = 0 ∨ (s_FinishOf p i f).1.Tick = f.Tick) := by
  have hp : (s_Proof p i f.Cn f.Sn f.Tick f.Cookie).length ≤ 16 := by
    simp only [s_Proof, cond_eq_ite]
    have := tagP_len (s_FinishKey p) (s_ProofBody i f.Cn f.Sn f.Tick f.Cookie)
    (repeat' split) <;> first | exact Nat.zero_le _ | omega
  simp only [s_FinishOf, cond_eq_ite]
  (repeat' split) <;> first | exact ⟨Nat.zero_le _, Nat.zero_le _, Nat.zero_le _, Nat.zero_le _, .inl rfl⟩ | exact ⟨Nat.le_refl _, Nat.le_refl _, Nat.le_refl _, hp, .inr rfl⟩

theorem sizeOf_5 : ∀ w, (sizeOf 5).run Try.prog w = .ok 1 w := fun w => by kernel_rfl
def N_22 (w : World) (g : Nat) (v : Value) (x : (List UInt8)) : Prop := ∃ (a : Option Addr) (b : Nat), v = .slice a x.length b ∧ Rd w 1 (.slice a x.length b) x.length (x.map bV) ∧ x.length ≤ 1073741824 ∧ (0 < x.length → ∀ z, a = some z → z.block ≠ g)
theorem csl1Bend (l : World) (g : Nat) (ca : Option Addr) (cc : Nat) (cb : List UInt8) (au : CurX l g 74 ca cc cb) (V : Value) (a : List UInt8) (av : N_22 l g V a) (aR : a.length ≤ 1000000) : Fn Try.prog 51 #[(vp g 0), V] l (fun v m => ∃ x : (List UInt8), Ch (fun k => k = g) l m ∧ CurX m g 74 ca cc cb ∧ O_22 m l.heap.size v x ∧ (True)) := by
 obtain ⟨ci, chh, hcb, hcr, hcl, hci, hcn⟩ := au
 have hgl := Blk.lt hcb
 obtain ⟨W, X, rfl, ax, B, ay⟩ := av
 refine fn_ofS (n := 53) [(vp g 0), (vs W a.length X)] Try.func51 rfl rfl ?_
 refine sr ?_
 refine aw (vs none 0 0) ?_
 refine nx ?_
 refine wl_lit0 wN rfl rfl slTy_22 (fun w => by kernel_rfl) ?_
 intro aS aT H az
 have Y := ChG.extk (Ch.refl (fun k => k = g) l) H
 refine mw (vs W a.length X) ?_
 refine ap0 a wN slTy_22 az (Rd.chP ax Y ay) H.size ?_
 intro d b a0 N e aU
 have Z := ChG.extk Y N
 refine aw (vs d a.length b) ?_
 refine n4 ?_
 refine mw (vp g 0) ?_
 have a1 := ((hcb.kp H).kp N)
 refine cl wN (csl1Below a0 g ca cc cb ⟨_, _, a1, (Rd.chP hcr Z hcn), hcl, (by omega), hcn⟩ 8) ?_
 rintro _ O ⟨o, u, ⟨aV, aW, y, aX, aY, aZ, ba⟩, rfl, bb⟩
 have j := ChG.ext Z u (fun k hk => .inl hk)
 refine wl_nil <| wq_then <| wc_block <| sr ?_
 refine pu (vb (decide ((o) = 0))) wN ?_
 refine aw (vb (decide ((o) = 0))) ?_
 refine n2 ?_
 rcases bf (decide ((o) = 0)) with C | C
 ·have bc := dF C
  refine cf C ?_
  refine sr ?_
  refine pu (vb (decide ((o) = 1))) wN ?_
  refine aw (vb (decide ((o) = 1))) ?_
  refine n2 ?_
  rcases bf (decide ((o) = 1)) with D | D
  ·have bd := dF D
   refine cf D ?_
   refine sr ?_
   refine pu (vb (decide ((o) = 2))) wN ?_
   refine aw (vb (decide ((o) = 2))) ?_
   refine n2 ?_
   rcases bf (decide ((o) = 2)) with E | E
   ·have be := dF E
    refine cf E ?_
    refine wc_skip <| wq_blk_normal <| wq_then <| sr ?_
    refine mw (vs d a.length b) ?_
    refine aw (vs d a.length b) ?_
    refine n3 ?_
    have a2 := (own_ch e u (ne1 e (hgl)))
    refine rt (vs d a.length b) ?_
    exact ⟨a, j, ⟨_, _, y, (Rd.chP hcr j hcn), hcl, (by omega), hcn⟩, ⟨_, _, rfl, a2, B, ⟨trivial, trivial⟩⟩, trivial⟩
   have bg := dT E
   refine ct E ?_
   refine wc_region ?_
   refine mw (vs d a.length b) ?_
   refine mw (vp g 0) ?_
   refine cl wN (csl1Byte O g ca cc cb ⟨_, _, y, (Rd.chP hcr j hcn), hcl, (by omega), hcn⟩) ?_
   rintro _ P ⟨s, Q, ⟨bh, bi, a3, bj, bk, bl, bm⟩, rfl, bn⟩
   have a4 := ChG.ext j Q (fun k hk => .inl hk)
   refine wl_conv8 (s) wN rfl rfl (by kernel_rfl) ?_
   refine ltB ([(by8 (s))] : List UInt8) wN slTy_22 ?_
   intro bo bp i I a5
   have a6 := ChG.extk a4 I
   have a7 := (own_kp (own_ch (own_ch e u (ne1 e (hgl))) Q (ne1 e (hgl))) I)
   refine apB a ([(by8 (s))] : List UInt8) wN slTy_22 a7 (Rd.of_own a5) (z5 H N u Q I) ?_
   intro J K aa ab a8 bq a9
   have ac := ChG.ext a6 ab (fun k hk => .inr (nT (Nat.le_refl l.heap.size) (own_lt e k hk).1))
   refine aw (vs J (a ++ ([(by8 (s))] : List UInt8)).length K) ?_
   refine wl_nil <| wq_blk_normal <| wq_then <| sr ?_
   refine mw (vs J (a ++ ([(by8 (s))] : List UInt8)).length K) ?_
   refine aw (vs J (a ++ ([(by8 (s))] : List UInt8)).length K) ?_
   refine n3 ?_
   refine rt (vs J (a ++ ([(by8 (s))] : List UInt8)).length K) ?_
   have aA := ((a3.kp I).ch ab (fun h => by have := (own_lt e _ h).1; have := nL hgl (Nat.le_refl l.heap.size); omega))
   exact ⟨(a ++ ([(by8 (s))] : List UInt8)), ac, ⟨_, _, aA, (Rd.chP hcr ac hcn), hcl, (by omega), hcn⟩, ⟨_, _, rfl, a8, a9, ⟨trivial, trivial⟩⟩, trivial⟩
  have br := dT D
  refine ct D ?_
  refine sr ?_
  refine mw (vs d a.length b) ?_
  have L := (own_ch e u (ne1 e (hgl)))
  refine ln wN slTy_22 (Rd.of_own L) ?_
  refine pu (vb (decide (0 < (a.length : Int)))) wN ?_
  refine n2 ?_
  rcases bf (decide (0 < (a.length : Int))) with F | F
  ·have bu := dF F
   refine cf F ?_
   refine wc_skip <| wq_blk_normal <| wq_then <| sr ?_
   refine mw (vs d a.length b) ?_
   refine aw (vs d a.length b) ?_
   refine n3 ?_
   refine rt (vs d a.length b) ?_
   exact ⟨a, j, ⟨_, _, y, (Rd.chP hcr j hcn), hcl, (by omega), hcn⟩, ⟨_, _, rfl, L, B, ⟨trivial, trivial⟩⟩, trivial⟩
  have bv := dT F
  refine ct F ?_
  refine wc_region ?_
  refine mw (vs d a.length b) ?_
  refine mw (vp g 0) ?_
  refine mw (vs d a.length b) ?_
  refine ln wN slTy_22 (Rd.of_own L) ?_
  refine cl wN (csl1Below O g ca cc cb ⟨_, _, y, (Rd.chP hcr j hcn), hcl, (by omega), hcn⟩ (a.length : Int)) ?_
  rintro _ P ⟨p, ad, ⟨bw, bz, aB, b0, b1, b2, b3⟩, rfl, b4⟩
  have ae := ChG.ext j ad (fun k hk => .inl hk)
  have af := (own_ch L ad (ne1 e (hgl)))
  refine slv (a.take (((p)).toNat)) 0 (((p)).toNat) wN slTy_22 (Rd.of_own af) (by first | omega | (simp <;> omega)) (by first | omega | (simp <;> omega)) (by first | rfl | (simp; done) | (rw [List.take_of_length_le (by first | (simp; done) | (simp; omega))])) rfl rfl rfl rfl (.inl ⟨rfl, rfl⟩) (.inr ⟨_, _, _, rfl, rfl, by omega⟩) ?_
  have aC := own_pre (k := (((p)).toNat)) af (by first | omega | (simp <;> omega))
  have aD : (a.take (((p)).toNat)).length ≤ 1073741824 := nT (by simp only [List.length_take]; omega) B
  refine aw (vs (subA d b 0 1) (a.take (((p)).toNat)).length (b - 0)) ?_
  refine wl_nil <| wq_blk_normal <| wq_then <| sr ?_
  refine mw (vs (subA d b 0 1) (a.take (((p)).toNat)).length (b - 0)) ?_
  refine aw (vs (subA d b 0 1) (a.take (((p)).toNat)).length (b - 0)) ?_
  refine n3 ?_
  refine rt (vs (subA d b 0 1) (a.take (((p)).toNat)).length (b - 0)) ?_
  exact ⟨(a.take (((p)).toNat)), ae, ⟨_, _, aB, (Rd.chP hcr ae hcn), hcl, (by omega), hcn⟩, ⟨_, _, rfl, aC, aD, ⟨trivial, trivial⟩⟩, trivial⟩
 have b5 := dT C
 refine ct C ?_
 refine sr ?_
 refine mw (vs d a.length b) ?_
 have A := (own_ch e u (ne1 e (hgl)))
 refine ln wN slTy_22 (Rd.of_own A) ?_
 refine pu (vb (decide (0 < (a.length : Int)))) wN ?_
 refine n2 ?_
 rcases bf (decide (0 < (a.length : Int))) with G | G
 ·have b6 := dF G
  refine cf G ?_
  refine wc_skip <| wq_blk_normal <| wq_then <| sr ?_
  refine mw (vs d a.length b) ?_
  refine aw (vs d a.length b) ?_
  refine n3 ?_
  refine rt (vs d a.length b) ?_
  exact ⟨a, j, ⟨_, _, y, (Rd.chP hcr j hcn), hcl, (by omega), hcn⟩, ⟨_, _, rfl, A, B, ⟨trivial, trivial⟩⟩, trivial⟩
 have b7 := dT G
 refine ct G ?_
 refine sr ?_
 refine mw (vp g 0) ?_
 refine mw (vs d a.length b) ?_
 refine ln wN slTy_22 (Rd.of_own A) ?_
 refine cl wN (csl1Below O g ca cc cb ⟨_, _, y, (Rd.chP hcr j hcn), hcl, (by omega), hcn⟩ (a.length : Int)) ?_
 rintro _ P ⟨f, M, ⟨b8, b9, aE, bA, bB, bC, bD⟩, rfl, bE⟩
 have R := ChG.ext j M (fun k hk => .inl hk)
 refine aw (vi (f)) ?_
 refine n2 ?_
 refine wc_drawT ([(21, [], [], (fun _ v _ => v = (vs d a.length b))), (22, [], [], (fun _ v _ => v = (vi (f)))), (23, [], [], (fun _ v _ => v = (vs d a.length b))), (24, [], [], (fun _ v _ => v = (vi (f)))), (25, [], [2, 3], (fun _ v _ => v = (ve (vs d a.length b) (((f)).toNat * 1)))), (26, [], [2, 3, 4], (fun _ v _ => v = (v8 ((a.getD ((f)).toNat 0).toNat : Int)))), (27, [], [], (fun _ v _ => v = (vp g 0))), (28, [], [6], (fun _ v _ => ∃ r : Int, v = (vi r) ∧ 0 ≤ r ∧ (r < 255 ∨ ((255 : Int) ≤ 0 ∧ r = 0)))), (29, [], [6, 7], (fun _ v _ => ∃ z : Int, v = vi z)), (30, [], [6, 7, 8], (fun _ v _ => ∃ z : UInt8, v = .int .u8 (z.toNat : Int))), (31, [], [2, 3, 4, 5, 6, 7, 8, 9], (fun _ v _ => ∃ z : UInt8, v = .int .u8 (z.toNat : Int)))] : GV) (fun lf m => Ch (fun k => k = g) P m ∧ CurX m g 74 ca cc cb) [(7, fun w m => Ch (fun k => k = g) w m ∧ (CurX w g 74 ca cc cb → CurX m g 74 ca cc cb))] mixed rfl (by kernel_rfl) (by kernel_rfl) ?_ (fun _ _ h => ⟨h.to _, CurX.kp ⟨_, _, aE, (Rd.chP hcr R hcn), hcl, (by omega), hcn⟩ h⟩) (fun _ _ _ _ h mo k => by obtain ⟨hc, hcur⟩ := h; exact ⟨hc.comp k (fun _ _ q => q.elim), hcur.kp k⟩) ⟨(fun _ _ w m h mo hj t => by obtain ⟨hc, hcur⟩ := h; exact ⟨hc.comp t.1 (fun _ _ q => q), t.2 hcur⟩), trivial⟩ ?_ ?_ ?_
 ·exact ⟨hV, hE, ⟨hV, hE, ⟨hV, hE, ⟨hV, hE, ⟨hV, hE, ⟨hV, hE, ⟨hV, hE, ⟨hV, hE, ⟨hV, hE, ⟨hV, hE, ⟨hV, hE, trivial⟩⟩⟩⟩⟩⟩⟩⟩⟩⟩⟩
 ·exact ⟨⟨.inr hV, ⟨.inr hV, ⟨.inr hV, ⟨.inr hV, ⟨.inr hV, ⟨.inr hV, ⟨.inr hV, ⟨.inl rfl, ⟨.inr hV, ⟨.inr hV, ⟨.inr hV, trivial⟩⟩⟩⟩⟩⟩⟩⟩⟩⟩⟩, trivial⟩
 ·refine ⟨?_, ⟨?_, ⟨?_, ⟨?_, ⟨?_, ⟨?_, ⟨?_, ⟨?_, ⟨?_, ⟨?_, ⟨?_, trivial⟩⟩⟩⟩⟩⟩⟩⟩⟩⟩⟩
  ·rintro lf i ⟨bF, ⟨bG, bH, bI, bJ, bK, bL, bM⟩⟩ ⟨bN, -⟩
   rintro _ _ _ _ _ _ _ _ _ _ _
   show WL _ _ _ _ _ _ _
   refine mw (vs d a.length b) ?_
   exact f1
  ·rintro lf i ⟨bO, ⟨bP, bQ, bR, bS, bT, bU, bW⟩⟩ ⟨bX, -⟩
   rintro _ _ _ _ _ _ _ _ _ _ _
   show WL _ _ _ _ _ _ _
   refine mw (vi (f)) ?_
   exact f1
  ·rintro lf i ⟨bY, ⟨bZ, cd, ce, cg, cj, ck, cm⟩⟩ ⟨cn, -⟩
   rintro _ _ _ _ _ _ _ _ _ _ _
   show WL _ _ _ _ _ _ _
   refine mw (vs d a.length b) ?_
   exact f1
  ·rintro lf i ⟨co, ⟨cp, cq, cr, cs, cu, cv, cw⟩⟩ ⟨cx, -⟩
   rintro _ _ _ _ _ _ _ _ _ _ _
   show WL _ _ _ _ _ _ _
   refine mw (vi (f)) ?_
   exact f1
  ·rintro lf i ⟨aF, ⟨cy, cz, c0, c1, c2, c3, c4⟩⟩ ⟨c5, -⟩
   rintro _ _ _ rfl _ rfl _ _ _ _ _ _ _
   show WL _ _ _ _ _ _ _
   have aG := (own_ch (own_ch A M (ne1 e (hgl))) aF (ne1 e (hgl)))
   refine ix wN (f) slTy_22 (Rd.of_own aG) ?_
   exact f1
  ·rintro lf i ⟨aH, ⟨c6, c7, c8, c9, cC, cD, cE⟩⟩ ⟨cF, -⟩
   rintro _ _ _ rfl _ rfl _ rfl _ _ _ _ _ _
   show WL _ _ _ _ _ _ _
   have aI := (own_ch (own_ch A M (ne1 e (hgl))) aH (ne1 e (hgl)))
   refine eb (x := a) (((f)).toNat) wN isAgg_5 (Rd.of_own aI) ?_
   exact f1
  ·rintro lf i ⟨cG, ⟨cH, cI, cJ, cK, cL, cM, cN⟩⟩ ⟨cO, -⟩
   rintro _ _ _ _ _ _ _ _ _ _ _
   show WL _ _ _ _ _ _ _
   refine mw (vp g 0) ?_
   exact f1
  ·rintro lf i ⟨aJ, ⟨cP, cQ, aK, cR, cS, cT, cU⟩⟩ ⟨cV, -⟩
   have ah := ChG.ext R aJ (fun k hk => .inl hk)
   rintro _ _ _ _ _ _ _ rfl _ _ _ _
   show WL _ _ _ _ _ _ _
   refine cl wN (csl1Below i g ca cc cb ⟨_, _, aK, (Rd.chP hcr ah hcn), hcl, (by omega), hcn⟩ 255) ?_
   rintro _ aa ⟨cW, ai, ⟨cX, cY, aL, cZ, da, db, dc⟩, rfl, aM⟩
   have aN := ChG.ext ah ai (fun k hk => .inl hk)
   exact wl_finT ⟨ai, fun _ => ⟨_, _, aL, (Rd.chP hcr aN hcn), hcl, (by omega), hcn⟩⟩ ⟨_, rfl, aM⟩
  ·rintro lf i ⟨dd, ⟨de, df, dg, dh, di, dj, dk⟩⟩ ⟨dl, -⟩
   rintro _ _ _ _ _ _ _ rfl _ ⟨r, rfl, dm⟩ _ _ _
   show WL _ _ _ _ _ _ _
   refine ar (1 + r) wN ?_
   exact wl_finT (Ch.refl _ _) ⟨_, rfl⟩
  ·rintro lf i ⟨dn, ⟨dp, dq, dr, ds, dt, du, dv⟩⟩ ⟨dw, -⟩
   rintro _ _ _ _ _ _ _ rfl _ ⟨r, rfl, dx⟩ _ ⟨S, rfl⟩ _ _
   show WL _ _ _ _ _ _ _
   refine wl_conv8 S wN rfl rfl (by kernel_rfl) ?_
   exact wl_finT (Ch.refl _ _) ⟨_, rfl⟩
  ·rintro lf i ⟨dy, ⟨dz, d0, d1, d2, d3, d4, d5⟩⟩ ⟨d6, -⟩
   rintro _ _ _ rfl _ rfl _ rfl _ rfl _ rfl _ ⟨r, rfl, d7⟩ _ ⟨S, rfl⟩ _ ⟨aj, rfl⟩ _
   show WL _ _ _ _ _ _ _
   refine wl_xor8 (a.getD ((f)).toNat 0) (aj) wN rfl rfl (by kernel_rfl) ?_
   exact wl_finT (Ch.refl _ _) ⟨_, rfl⟩
 ·rintro lf i ⟨ak, ⟨d8, d9, aO, dA, dB, dC, dD⟩⟩
  have aP := ChG.ext R ak (fun k hk => .inl hk)
  rintro _ rfl _ rfl _ rfl _ rfl _ rfl _ rfl _ rfl _ ⟨r, rfl, dE⟩ _ ⟨S, rfl⟩ _ ⟨aj, rfl⟩ _ ⟨T, rfl⟩
  show WL _ _ _ _ _ _ _
  have am := (own_ch (own_ch A M (ne1 e (hgl))) ak (ne1 e (hgl)))
  refine ix wN (f) slTy_22 (Rd.of_own am) ?_
  refine wl_storeB a (((f)).toNat) ((T)) wN rfl rfl rfl (by simp) rfl sizeOf_5 am (by first | omega | (simp only [List.length_append, List.length_replicate, List.length_take, List.length_set, List.length_map]; omega)) ?_
  intro aa an ao
  have ap := ChG.ext aP an (fun k hk => .inr (nT (Nat.le_refl l.heap.size) (own_lt e k hk).1))
  refine wl_nil <| wq_blk_normal <| wq_then <| sr ?_
  refine mw (vs d a.length b) ?_
  refine aw (vs d a.length b) ?_
  refine n3 ?_
  refine rt (vs d a.length b) ?_
  have aq : a.length = ((a.set (((f)).toNat) (T))).length := by first | (simp only [List.length_append, List.length_take, List.length_replicate, List.length_set, List.length_map]; done) | (simp only [List.length_append, List.length_take, List.length_replicate, List.length_set, List.length_map]; omega)
  rw [aq] at ao ⊢
  have aQ := (aO.ch an (fun h => by have := (own_lt e _ h).1; have := nL hgl (Nat.le_refl l.heap.size); omega))
  exact ⟨(a.set (((f)).toNat) (T)), ap, ⟨_, _, aQ, (Rd.chP hcr ap hcn), hcl, (by omega), hcn⟩, ⟨_, _, rfl, ao, (by rw [← aq]; exact B), ⟨trivial, trivial⟩⟩, trivial⟩
end Go.Proofs.Ytfnagaidikejjaa.K
