import Derived.Test.YtfnagaidikejjaaCore
import Derived.Test.YtfnagaidikejjaaProg
import Derived.Test.YtfnagaidikejjaaHeld
import Derived.Test.YtfnagaidikejjaaFun
import Derived.Test.YtfnagaidikejjaaFunZ
import Derived.Test.YtfnagaidikejjaaSqz
import Derived.Test.YtfnagaidikejjaaCur
import Derived.Test.YtfnagaidikejjaaDrawW
import Derived.Test.YtfnagaidikejjaaAead
namespace Go.Proofs.Ytfnagaidikejjaa.K
open Go.RowKit
set_option linter.unusedVariables false
set_option linter.unusedSimpArgs false
set_option maxRecDepth 100000
set_option maxHeartbeats 4000000
def LT_31 : LTy (PNote) := { E := 31, Eb := 5, sz := 12, enc := fun e => [vi e.1.Kind, vi e.1.Id, vi e.1.Role, vs (adr2 e.2 0).1 e.1.Cn.length (adr2 e.2 0).2, vs (adr2 e.2 1).1 e.1.Sn.length (adr2 e.2 1).2, vi e.1.Epoch, vi e.1.Seq, vs (adr2 e.2 2).1 e.1.Body.length (adr2 e.2 2).2, vs (adr2 e.2 3).1 e.1.Key.length (adr2 e.2 3).2, vi e.1.A.Host, vi e.1.A.Port, vi e.1.Now], bs := fun x => [x.Cn, x.Sn, x.Body, x.Key], len := fun _ => rfl, one := fun _ => one_all rfl, pos := by decide, ne := by decide }
def z_PNote : PNote := { Kind := 0, Id := 0, Role := 0, Cn := [], Sn := [], Epoch := 0, Seq := 0, Body := [], Key := [], A := { Host := 0, Port := 0 : PAddr }, Now := 0 : PNote }
theorem slTy_22 : SlTy Try.prog 22 5 1 1 (v8 0) := slTy Try.underlying22 (by kernel_rfl) rfl rfl
def Q_22 (w : World) (v : Value) (x : (List UInt8)) : Prop := ∃ (a : Option Addr) (b : Nat), v = .slice a x.length b ∧ Rd w 1 (.slice a x.length b) x.length (x.map bV) ∧ x.length ≤ 9223372036854775807
def O_4 (w : World) (lo : Nat) (v : Value) (x : (Bool)) : Prop := v = .bool x
def l_big (a : List UInt8) : (Bool) := decide (1048576 < (a.length : Int))
theorem clbig (b : World) (d : Value) (a : List UInt8) (h : Q_22 b d a)  : Fn Try.prog 5 #[d] b (fun v e => Keep b e ∧ O_4 e b.heap.size v (l_big a)) := by
 obtain ⟨f, g, rfl, i, k⟩ := h
 refine fn_ofS (n := 6) [(vs f a.length g)] Try.func5 rfl rfl ?_
 refine sr ?_
 refine aw (vb false) ?_
 refine nx ?_
 refine mw (vs f a.length g) ?_
 refine ln wN slTy_22 i ?_
 refine pu (vb (decide (1048576 < (a.length : Int)))) wN ?_
 refine aw (vb (decide (1048576 < (a.length : Int)))) ?_
 refine n3 ?_
 refine rt (vb (decide (1048576 < (a.length : Int)))) ?_
 refine ⟨Ch.refl _ _, ?_⟩
 have j : l_big a = decide (1048576 < (a.length : Int)) := by rfl
 rw [j]
 exact rfl
theorem big_f {x : List UInt8} (h : l_big x = false) : x.length ≤ 1048576 := by
  have := dF h
  omega

theorem isAgg_5 : ∀ w, (isAgg 5).run Try.prog w = .ok false w := fun w => by kernel_rfl
def R_22 (w : World) (v : Value) (x : (List UInt8)) : Prop := ∃ (a : Option Addr) (b : Nat), v = .slice a x.length b ∧ Rd w 1 (.slice a x.length b) x.length (x.map bV) ∧ x.length ≤ 1073741824
theorem csl1New (d : World) (p : Value) (b : List UInt8) (E : R_22 d p b)  : Fn Try.prog 26 #[p] d (fun v l => ∃ g, Keep d l ∧ d.heap.size ≤ g ∧ v = vp g 0 ∧ ∀ (a : Option Addr) (c : Nat), p = .slice a b.length c → CurX l g 74 a c b) := by
 obtain ⟨e, f, rfl, h, w⟩ := E
 refine fn_ofS (n := 32) [(vs e b.length f)] Try.func26 rfl rfl ?_
 refine sr ?_
 refine aw (.pointer none) ?_
 refine nx ?_
 refine mw (vs e b.length f) ?_
 refine ln wN slTy_22 h ?_
 refine ar (127812 + (b.length : Int)) wN ?_
 refine aw (vi (127812 + (b.length : Int))) ?_
 refine n4 ?_
 refine aw (vi 0) ?_
 refine wl_nil <| wq_then <| wc_block ?_
 refine wc_loopP [(0, (vs e b.length f)), (2, (.pointer none)), (3, (vi (127812 + (b.length : Int)))), (4, (vi ((0 : Nat) : Int)))] ⟨rfl, rfl, rfl, (cA (Value.int .i64) (show (0 : Int) = ((0 : Nat) : Int) by omega)), trivial⟩ (fun e' l => ∃ (k : Nat) (q : Int) (y : Env), e' = pt y [(0, (vs e b.length f)), (2, (.pointer none)), (3, (vi q)), (4, (vi ((k : Nat) : Int)))] ∧ Ch (fun k => d.heap.size ≤ k) d l ∧ Ch (fun k => d.heap.size ≤ k) d l ∧ k ≤ b.length ∧ 0 ≤ q ∧ q ≤ 1073869636) (fun e' _ => b.length - ((intOf (e' 4))).toNat) ?_ ?_
 ·exact fun u => ⟨0, (127812 + (b.length : Int)), u, rfl, (Ch.base d), (Ch.refl (fun k => d.heap.size ≤ k) d), (by omega), (by omega), (by omega)⟩
 ·rintro _ F ⟨k, q, y, rfl, j, m, L, M, N⟩
  have O : (b.getD k 0).toNat < 256 := UInt8.toNat_lt _
  refine wc_seq <| sr ?_
  refine mw (vi ((k : Nat) : Int)) ?_
  refine mw (vs e b.length f) ?_
  refine ln wN slTy_22 (h.from0 j) ?_
  refine pu (vb (decide (((k : Nat) : Int) < (b.length : Int)))) wN ?_
  refine mw (vb (decide (((k : Nat) : Int) < (b.length : Int)))) ?_
  rcases bf (decide (((k : Nat) : Int) < (b.length : Int))) with i | i
  ·have P := dF i
   iterate 2 refine sk i ?_
   refine pf (vb false) wN i ?_
   refine n2 ?_
   refine cf (Eq.refl false) ?_
   refine wc_exit <| wq_then_exit <| wq_then_exit <| wq_blk_exit <| wq_then <| sr ?_
   refine mw (vs e b.length f) ?_
   refine mw (vi q) ?_
   refine pu (va [(vs e b.length f), (vi 0), (vi q)]) wN ?_
   refine bx [(vs e b.length f), (vi 0), (vi q)] wN ?_
   intro r G A Q H I
   have B := j.extk H
   refine aw (vp r 0) ?_
   refine n3 ?_
   refine rt (vp r 0) ?_
   refine ⟨r, B.keep0, (nT m.size A), rfl, fun a c hv => ?_⟩
   cases hv
   exact ⟨_, _, I, (h.from0 B), w, (by omega), (fun s z hz => nN (nL (rd_posB h s z hz) (nT m.size A)))⟩
  have R := dT i
  refine mv (vi ((k : Nat) : Int)) (wS i) ?_
  refine pu (vb (decide (((k : Nat) : Int) < 4000))) (wS i) ?_
  refine pk (vb (decide (((k : Nat) : Int) < 4000))) wN i ?_
  refine n2 ?_
  rcases bf (decide (((k : Nat) : Int) < 4000)) with o | o
  ·have S := dF o
   refine cf o ?_
   refine wc_exit <| wq_then_exit <| wq_then_exit <| wq_blk_exit <| wq_then <| sr ?_
   refine mw (vs e b.length f) ?_
   refine mw (vi q) ?_
   refine pu (va [(vs e b.length f), (vi 0), (vi q)]) wN ?_
   refine bx [(vs e b.length f), (vi 0), (vi q)] wN ?_
   intro t G C T J K
   have D := j.extk J
   refine aw (vp t 0) ?_
   refine n3 ?_
   refine rt (vp t 0) ?_
   refine ⟨t, D.keep0, (nT m.size C), rfl, fun a c hv => ?_⟩
   cases hv
   exact ⟨_, _, K, (h.from0 D), w, (by omega), (fun s z hz => nN (nL (rd_posB h s z hz) (nT m.size C)))⟩
  have V := dT o
  refine ct o ?_
  refine wc_skip <| wq_then <| wc_seq <| wc_block <| wc_region ?_
  refine mw (vi q) ?_
  refine ar (q * 137) wN ?_
  refine mw (vs e b.length f) ?_
  refine mw (vi ((k : Nat) : Int)) ?_
  refine ix wN ((k : Nat) : Int) slTy_22 (h.from0 j) ?_
  refine eb (x := b) k wN isAgg_5 (h.from0 j) ?_
  refine ar ((b.getD k 0).toNat : Int) wN ?_
  refine ar ((q * 137) + ((b.getD k 0).toNat : Int)) wN ?_
  refine ar (((q * 137) + ((b.getD k 0).toNat : Int)) + 11) wN ?_
  refine wl_and (((q * 137) + ((b.getD k 0).toNat : Int)) + 11) 1073741823 1073741824 30 wN rfl rfl (by decide) (by decide) (by decide) (by kernel_rfl) ?_
  refine aw (vi ((((q * 137) + ((b.getD k 0).toNat : Int)) + 11) % 1073741824)) ?_
  refine wl_nil <| wq_blk_normal <| wq_then <| wc_region ?_
  refine mw (vi ((k : Nat) : Int)) ?_
  refine ar (((k : Nat) : Int) + 1) wN ?_
  refine aw (vi (((k : Nat) : Int) + 1)) ?_
  refine wl_nil ?_
  refine wq_loopP (w0 := F) [(0, (vs e b.length f)), (2, (.pointer none)), (3, (vi ((((q * 137) + ((b.getD k 0).toNat : Int)) + 11) % 1073741824))), (4, (vi (((k + 1) : Nat) : Int)))] ?_ ?_ ?_
  · exact ⟨rfl, rfl, rfl, (cA (Value.int .i64) (show ((((k : Nat) : Int) + 1) : Int) = (((k + 1) : Nat) : Int) by omega)), trivial⟩
  · exact fun u => ⟨(k + 1), ((((q * 137) + ((b.getD k 0).toNat : Int)) + 11) % 1073741824), u, rfl, j, ((Ch.refl (fun k => d.heap.size ≤ k) d).ext m (fun k hk => hk)), (by omega), (by omega), (by omega)⟩
  · show b.length - ((((k + 1) : Nat) : Int)).toNat < b.length - (((k : Nat) : Int)).toNat; omega

def O_3 (w : World) (lo : Nat) (v : Value) (x : (Int)) : Prop := v = .int .i64 x
def s_l1Size (a : List UInt8) (b : Int) : (Int) := bif (decide (b < (3 + ((a.length : Int) / 12)))) then (b) else ((3 + ((a.length : Int) / 12)))
theorem csl1Size (e : World) (f : Value) (a : List UInt8) (j : R_22 e f a) (b : Int)  : Fn Try.prog 28 #[f, (vi b)] e (fun v g => Keep e g ∧ O_3 g e.heap.size v (s_l1Size a b)) := by
 obtain ⟨h, i, rfl, k, l⟩ := j
 refine fn_ofS (n := 15) [(vs h a.length i), (vi b)] Try.func28 rfl rfl ?_
 refine sr ?_
 refine aw (vi 0) ?_
 refine nx ?_
 refine mw (vs h a.length i) ?_
 refine ln wN slTy_22 k ?_
 refine wl_quo (a.length : Int) 12 wN rfl rfl (by kernel_rfl) (by omega) (by omega) (by omega) ?_
 refine ar (3 + ((a.length : Int) / 12)) wN ?_
 refine aw (vi (3 + ((a.length : Int) / 12))) ?_
 refine n4 ?_
 refine mw (vi (3 + ((a.length : Int) / 12))) ?_
 refine mw (vi b) ?_
 refine pu (vb (decide (b < (3 + ((a.length : Int) / 12))))) wN ?_
 refine n2 ?_
 rcases bt (decide (b < (3 + ((a.length : Int) / 12)))) with d | d
 ·have m := dT d
  refine ct d ?_
  refine sr ?_
  refine mw (vi b) ?_
  refine aw (vi b) ?_
  refine n1 ?_
  refine rt (vi b) ?_
  refine ⟨Ch.refl _ _, ?_⟩
  simp only [s_l1Size, d, cond_true, cond_false]
  exact rfl
 have o := dF d
 refine cf d ?_
 refine y1 ?_
 refine mw (vi (3 + ((a.length : Int) / 12))) ?_
 refine aw (vi (3 + ((a.length : Int) / 12))) ?_
 refine n3 ?_
 refine rt (vi (3 + ((a.length : Int) / 12))) ?_
 refine ⟨Ch.refl _ _, ?_⟩
 simp only [s_l1Size, d, cond_true, cond_false]
 exact rfl
theorem l1Size_b (x : List UInt8) (n : Int) (h : 0 ≤ n) : 0 ≤ s_l1Size x n ∧ s_l1Size x n ≤ n := by
  simp only [s_l1Size, cond_eq_ite, decide_eq_true_eq]
  split <;> omega

theorem isAgg_3 : ∀ w, (isAgg 3).run Try.prog w = .ok false w := fun w => by kernel_rfl
theorem sizeOf_3 : ∀ w, (sizeOf 3).run Try.prog w = .ok 1 w := fun w => by kernel_rfl
theorem mixed : Try.prog.follows .mixedOrders = true := by kernel_rfl
theorem isAgg_22 : ∀ w, (isAgg 22).run Try.prog w = .ok false w := fun w => by kernel_rfl
theorem csl1Byte (m : World) (g : Nat) (ca : Option Addr) (cc : Nat) (cb : List UInt8) (w : CurX m g 74 ca cc cb)  : Fn Try.prog 58 #[(vp g 0)] m (fun v f => ∃ x : (Int), Ch (fun k => k = g) m f ∧ CurX f g 74 ca cc cb ∧ O_3 f m.heap.size v x ∧ (0 ≤ x ∧ x ≤ 255)) := by
 obtain ⟨ci, chh, hcb, hcr, hcl, hci, hcn⟩ := w
 have hgl := Blk.lt hcb
 refine fn_ofS (n := 58) [(vp g 0)] Try.func58 rfl rfl ?_
 have aa : (cb.getD ci.toNat 0).toNat < 256 := UInt8.toNat_lt _
 refine sr ?_
 refine aw (vi 0) ?_
 refine nx ?_
 refine mw (vp g 0) ?_
 refine mw (vp g 0) ?_
 refine pu (vp g 0) wN ?_
 refine pu (vp g 2) wN ?_
 refine ld (vi chh) wN isAgg_3 hcb ?_
 refine wl_arb (IntKind.i64.wrap (chh * 6364136223846793005)) wN rfl rfl (by kernel_rfl) ?_
 intro y
 refine wl_arb (IntKind.i64.wrap (y + 1442695040888963407)) wN rfl rfl (by kernel_rfl) ?_
 intro a
 refine pu (vp g 0) wN ?_
 refine pu (vp g 2) wN ?_
 refine st (vi a) [(vi a)] [(vs ca cb.length cc), (vi ci), (vi a)] wN sizeOf_3 hcb ?_
 intro A B i ab
 have C := ChG.ext (Ch.refl (fun k => k = g) m) B (fun k hk => .inl hk)
 refine wl_nil <| wq_then <| wc_seq ?_
 refine wc_drawT ([(13, [], [], (fun _ v _ => v = (vp g 0))), (14, [], [0], (fun _ v _ => v = (vp g 0))), (15, [], [0, 1], (fun _ v _ => v = (vp g 2))), (16, [], [0, 1, 2], (fun _ v _ => v = (vi a))), (17, [], [0, 1, 2, 3], (fun _ v _ => v = (vi (a / (2 : Int) ^ ((33 : Int)).toNat)))), (18, [], [], (fun _ v _ => v = (vp g 0))), (19, [], [5], (fun _ v _ => v = (vp g 0))), (20, [], [5, 6], (fun _ v _ => v = (vp g 2))), (21, [], [5, 6, 7], (fun _ v _ => v = (vi a))), (22, [], [5, 6, 7, 8], (fun _ v _ => v = (vi (a / (2 : Int) ^ ((47 : Int)).toNat))))] : GV) (fun _ f => Keep A f) [] mixed rfl (by kernel_rfl) (by kernel_rfl) ?_ (fun _ _ h => h) (fun _ _ _ _ h _ k => h.trans k) trivial ?_ ?_ ?_
 ·exact ⟨hV, hE, ⟨hV, hE, ⟨hV, hE, ⟨hV, hE, ⟨hV, hE, ⟨hV, hE, ⟨hV, hE, ⟨hV, hE, ⟨hV, hE, ⟨hV, hE, trivial⟩⟩⟩⟩⟩⟩⟩⟩⟩⟩
 ·exact trivial
 ·refine ⟨?_, ⟨?_, ⟨?_, ⟨?_, ⟨?_, ⟨?_, ⟨?_, ⟨?_, ⟨?_, ⟨?_, trivial⟩⟩⟩⟩⟩⟩⟩⟩⟩⟩
  ·intro _ d ac _
   rintro _ _ _ _ _ _ _ _ _ _
   show WL _ _ _ _ _ _ _
   refine mw (vp g 0) ?_
   exact f1
  ·intro _ d ad _
   rintro _ rfl _ _ _ _ _ _ _ _ _
   show WL _ _ _ _ _ _ _
   refine pu (vp g 0) wN ?_
   exact f1
  ·intro _ d ae _
   rintro _ rfl _ rfl _ _ _ _ _ _ _ _
   show WL _ _ _ _ _ _ _
   refine pu (vp g 2) wN ?_
   exact f1
  ·intro _ d D _
   rintro _ rfl _ rfl _ rfl _ _ _ _ _ _ _
   show WL _ _ _ _ _ _ _
   have E := (i.kp D)
   refine ld (vi a) wN isAgg_3 E ?_
   exact f1
  ·intro _ d af _
   rintro _ rfl _ rfl _ rfl _ rfl _ _ _ _ _ _
   show WL _ _ _ _ _ _ _
   refine wl_shrU a (33 : Int) wN rfl rfl rfl rfl rfl (by omega) (by omega) ?_
   exact f1
  ·intro _ d ah _
   rintro _ _ _ _ _ _ _ _ _ _
   show WL _ _ _ _ _ _ _
   refine mw (vp g 0) ?_
   exact f1
  ·intro _ d ai _
   rintro _ _ _ _ _ _ rfl _ _ _ _
   show WL _ _ _ _ _ _ _
   refine pu (vp g 0) wN ?_
   exact f1
  ·intro _ d aj _
   rintro _ _ _ _ _ _ rfl _ rfl _ _ _
   show WL _ _ _ _ _ _ _
   refine pu (vp g 2) wN ?_
   exact f1
  ·intro _ d F _
   rintro _ _ _ _ _ _ rfl _ rfl _ rfl _ _
   show WL _ _ _ _ _ _ _
   have G := (i.kp F)
   refine ld (vi a) wN isAgg_3 G ?_
   exact f1
  ·intro _ d ak _
   rintro _ _ _ _ _ _ rfl _ rfl _ rfl _ rfl _
   show WL _ _ _ _ _ _ _
   refine wl_shrU a (47 : Int) wN rfl rfl rfl rfl rfl (by omega) (by omega) ?_
   exact f1
 ·intro _ d j
  have r := ChG.extk C j
  rintro _ rfl _ rfl _ rfl _ rfl _ rfl _ rfl _ rfl _ rfl _ rfl _ rfl
  show WL _ _ _ _ _ _ _
  refine wl_xorA (a / (2 : Int) ^ ((33 : Int)).toNat) (a / (2 : Int) ^ ((47 : Int)).toNat) wN rfl rfl (by kernel_rfl) ?_
  refine wl_and (xorA (a / (2 : Int) ^ ((33 : Int)).toNat) (a / (2 : Int) ^ ((47 : Int)).toNat)) 255 256 8 wN rfl rfl (by decide) (by decide) (by decide) (by kernel_rfl) ?_
  refine aw (vi ((xorA (a / (2 : Int) ^ ((33 : Int)).toNat) (a / (2 : Int) ^ ((47 : Int)).toNat)) % 256)) ?_
  refine wl_nil <| wq_then <| wc_seq <| wc_seq ?_
  refine wc_drawT ([(25, [], [], (fun _ v _ => v = (vp g 0))), (26, [], [0], (fun _ v _ => v = (vp g 0))), (27, [], [0, 1], (fun _ v _ => v = (vp g 1))), (28, [], [0, 1, 2], (fun _ v _ => v = (vi ci))), (29, [], [], (fun _ v _ => v = (vp g 0))), (30, [], [4], (fun _ v _ => v = (vp g 0))), (31, [], [4, 5], (fun _ v _ => v = (vp g 0))), (32, [], [4, 5, 6], (fun _ v _ => v = (vs ca cb.length cc))), (33, [], [4, 5, 6, 7], (fun _ v _ => v = (vi (cb.length : Int))))] : GV) (fun _ f => Keep d f) [] mixed rfl (by kernel_rfl) (by kernel_rfl) ?_ (fun _ _ h => h) (fun _ _ _ _ h _ k => h.trans k) trivial ?_ ?_ ?_
  ·exact ⟨hV, hE, ⟨hV, hE, ⟨hV, hE, ⟨hV, hE, ⟨hV, hE, ⟨hV, hE, ⟨hV, hE, ⟨hV, hE, ⟨hV, hE, trivial⟩⟩⟩⟩⟩⟩⟩⟩⟩
  ·exact trivial
  ·refine ⟨?_, ⟨?_, ⟨?_, ⟨?_, ⟨?_, ⟨?_, ⟨?_, ⟨?_, ⟨?_, trivial⟩⟩⟩⟩⟩⟩⟩⟩⟩
   ·intro _ e am _
    rintro _ _ _ _ _ _ _ _ _
    show WL _ _ _ _ _ _ _
    refine mw (vp g 0) ?_
    exact f1
   ·intro _ e an _
    rintro _ rfl _ _ _ _ _ _ _ _
    show WL _ _ _ _ _ _ _
    refine pu (vp g 0) wN ?_
    exact f1
   ·intro _ e ao _
    rintro _ rfl _ rfl _ _ _ _ _ _ _
    show WL _ _ _ _ _ _ _
    refine pu (vp g 1) wN ?_
    exact f1
   ·intro _ e H _
    rintro _ rfl _ rfl _ rfl _ _ _ _ _ _
    show WL _ _ _ _ _ _ _
    have I := ((i.kp j).kp H)
    refine ld (vi ci) wN isAgg_3 I ?_
    exact f1
   ·intro _ e ap _
    rintro _ _ _ _ _ _ _ _ _
    show WL _ _ _ _ _ _ _
    refine mw (vp g 0) ?_
    exact f1
   ·intro _ e aq _
    rintro _ _ _ _ _ rfl _ _ _ _
    show WL _ _ _ _ _ _ _
    refine pu (vp g 0) wN ?_
    exact f1
   ·intro _ e au _
    rintro _ _ _ _ _ rfl _ rfl _ _ _
    show WL _ _ _ _ _ _ _
    refine pu (vp g 0) wN ?_
    exact f1
   ·intro _ e J _
    rintro _ _ _ _ _ rfl _ rfl _ rfl _ _
    show WL _ _ _ _ _ _ _
    have K := ((i.kp j).kp J)
    refine ld (vs ca cb.length cc) wN isAgg_22 K ?_
    exact f1
   ·intro _ e L _
    have M := ChG.extk r L
    rintro _ _ _ _ _ rfl _ rfl _ rfl _ rfl _
    show WL _ _ _ _ _ _ _
    refine ln wN slTy_22 (Rd.chP hcr M hcn) ?_
    exact f1
  ·intro _ e o
   have p := ChG.extk r o
   rintro _ rfl _ rfl _ rfl _ rfl _ rfl _ rfl _ rfl _ rfl _ rfl
   show WL _ _ _ _ _ _ _
   refine pu (vb (decide (ci < (cb.length : Int)))) wN ?_
   refine n2 ?_
   rcases bf (decide (ci < (cb.length : Int))) with q | q
   ·have av := dF q
    refine cf q ?_
    refine y1 ?_
    refine mw (vi ((xorA (a / (2 : Int) ^ ((33 : Int)).toNat) (a / (2 : Int) ^ ((47 : Int)).toNat)) % 256)) ?_
    refine aw (vi ((xorA (a / (2 : Int) ^ ((33 : Int)).toNat) (a / (2 : Int) ^ ((47 : Int)).toNat)) % 256)) ?_
    refine n3 ?_
    refine rt (vi ((xorA (a / (2 : Int) ^ ((33 : Int)).toNat) (a / (2 : Int) ^ ((47 : Int)).toNat)) % 256)) ?_
    have N := ((i.kp j).kp o)
    exact ⟨((xorA (a / (2 : Int) ^ ((33 : Int)).toNat) (a / (2 : Int) ^ ((47 : Int)).toNat)) % 256), p, ⟨_, _, N, (Rd.chP hcr p hcn), hcl, (by omega), hcn⟩, rfl, (by omega)⟩
   have ax := dT q
   refine ct q ?_
   refine wc_seq ?_
   refine wc_drawT ([(35, [], [], (fun _ v _ => v = (vi ((xorA (a / (2 : Int) ^ ((33 : Int)).toNat) (a / (2 : Int) ^ ((47 : Int)).toNat)) % 256)))), (36, [], [], (fun _ v _ => v = (vp g 0))), (37, [], [1], (fun _ v _ => v = (vp g 0))), (38, [], [1, 2], (fun _ v _ => v = (vp g 0))), (39, [], [1, 2, 3], (fun _ v _ => v = (vs ca cb.length cc))), (40, [], [], (fun _ v _ => v = (vp g 0))), (41, [], [5], (fun _ v _ => v = (vp g 0))), (42, [], [5, 6], (fun _ v _ => v = (vp g 1))), (43, [], [5, 6, 7], (fun _ v _ => v = (vi ci))), (44, [], [1, 2, 3, 4, 5, 6, 7, 8], (fun _ v _ => v = (ve (vs ca cb.length cc) ((ci).toNat * 1)))), (45, [], [1, 2, 3, 4, 5, 6, 7, 8, 9], (fun _ v _ => v = (v8 ((cb.getD (ci).toNat 0).toNat : Int)))), (46, [], [1, 2, 3, 4, 5, 6, 7, 8, 9, 10], (fun _ v _ => v = (vi ((cb.getD (ci).toNat 0).toNat : Int))))] : GV) (fun _ f => Keep e f) [] mixed rfl (by kernel_rfl) (by kernel_rfl) ?_ (fun _ _ h => h) (fun _ _ _ _ h _ k => h.trans k) trivial ?_ ?_ ?_
   ·exact ⟨hV, hE, ⟨hV, hE, ⟨hV, hE, ⟨hV, hE, ⟨hV, hE, ⟨hV, hE, ⟨hV, hE, ⟨hV, hE, ⟨hV, hE, ⟨hV, hE, ⟨hV, hE, ⟨hV, hE, trivial⟩⟩⟩⟩⟩⟩⟩⟩⟩⟩⟩⟩
   ·exact trivial
   ·refine ⟨?_, ⟨?_, ⟨?_, ⟨?_, ⟨?_, ⟨?_, ⟨?_, ⟨?_, ⟨?_, ⟨?_, ⟨?_, ⟨?_, trivial⟩⟩⟩⟩⟩⟩⟩⟩⟩⟩⟩⟩
    ·intro _ b ay _
     rintro _ _ _ _ _ _ _ _ _ _ _ _
     show WL _ _ _ _ _ _ _
     refine mw (vi ((xorA (a / (2 : Int) ^ ((33 : Int)).toNat) (a / (2 : Int) ^ ((47 : Int)).toNat)) % 256)) ?_
     exact f1
    ·intro _ b az _
     rintro _ _ _ _ _ _ _ _ _ _ _ _
     show WL _ _ _ _ _ _ _
     refine mw (vp g 0) ?_
     exact f1
    ·intro _ b a0 _
     rintro _ _ rfl _ _ _ _ _ _ _ _ _ _
     show WL _ _ _ _ _ _ _
     refine pu (vp g 0) wN ?_
     exact f1
    ·intro _ b a1 _
     rintro _ _ rfl _ rfl _ _ _ _ _ _ _ _ _
     show WL _ _ _ _ _ _ _
     refine pu (vp g 0) wN ?_
     exact f1
    ·intro _ b O _
     rintro _ _ rfl _ rfl _ rfl _ _ _ _ _ _ _ _
     show WL _ _ _ _ _ _ _
     have P := (((i.kp j).kp o).kp O)
     refine ld (vs ca cb.length cc) wN isAgg_22 P ?_
     exact f1
    ·intro _ b a2 _
     rintro _ _ _ _ _ _ _ _ _ _ _ _
     show WL _ _ _ _ _ _ _
     refine mw (vp g 0) ?_
     exact f1
    ·intro _ b a3 _
     rintro _ _ _ _ _ _ rfl _ _ _ _ _ _
     show WL _ _ _ _ _ _ _
     refine pu (vp g 0) wN ?_
     exact f1
    ·intro _ b a4 _
     rintro _ _ _ _ _ _ rfl _ rfl _ _ _ _ _
     show WL _ _ _ _ _ _ _
     refine pu (vp g 1) wN ?_
     exact f1
    ·intro _ b Q _
     rintro _ _ _ _ _ _ rfl _ rfl _ rfl _ _ _ _
     show WL _ _ _ _ _ _ _
     have R := (((i.kp j).kp o).kp Q)
     refine ld (vi ci) wN isAgg_3 R ?_
     exact f1
    ·intro _ b S _
     have T := ChG.extk p S
     rintro _ _ rfl _ rfl _ rfl _ rfl _ rfl _ rfl _ rfl _ rfl _ _ _
     show WL _ _ _ _ _ _ _
     refine ix wN ci slTy_22 (Rd.chP hcr T hcn) ?_
     exact f1
    ·intro _ b V _
     have W := ChG.extk p V
     rintro _ _ rfl _ rfl _ rfl _ rfl _ rfl _ rfl _ rfl _ rfl _ rfl _ _
     show WL _ _ _ _ _ _ _
     refine eb (x := cb) ((ci).toNat) wN isAgg_5 (Rd.chP hcr W hcn) ?_
     exact f1
    ·intro _ b a5 _
     rintro _ _ rfl _ rfl _ rfl _ rfl _ rfl _ rfl _ rfl _ rfl _ rfl _ rfl _
     show WL _ _ _ _ _ _ _
     refine ar ((cb.getD (ci).toNat 0).toNat : Int) wN ?_
     exact f1
   ·intro _ b s
    have X := ChG.extk p s
    rintro _ rfl _ rfl _ rfl _ rfl _ rfl _ rfl _ rfl _ rfl _ rfl _ rfl _ rfl _ rfl
    show WL _ _ _ _ _ _ _
    refine wl_arb (IntKind.i64.wrap (((xorA (a / (2 : Int) ^ ((33 : Int)).toNat) (a / (2 : Int) ^ ((47 : Int)).toNat)) % 256) + ((cb.getD (ci).toNat 0).toNat : Int))) wN rfl rfl (by kernel_rfl) ?_
    intro l
    refine wl_and l 255 256 8 wN rfl rfl (by decide) (by decide) (by decide) (by kernel_rfl) ?_
    refine aw (vi (l % 256)) ?_
    refine wl_nil <| wq_then <| wc_region ?_
    refine mw (vp g 0) ?_
    refine mw (vp g 0) ?_
    refine pu (vp g 0) wN ?_
    refine pu (vp g 1) wN ?_
    have t := (((i.kp j).kp o).kp s)
    refine ld (vi ci) wN isAgg_3 t ?_
    refine ar (ci + 1) wN ?_
    refine pu (vp g 0) wN ?_
    refine pu (vp g 1) wN ?_
    refine st (vi (ci + 1)) [(vi (ci + 1))] [(vs ca cb.length cc), (vi (ci + 1)), (vi a)] wN sizeOf_3 t ?_
    intro a6 Y Z a7
    have u := ChG.ext X Y (fun k hk => .inl hk)
    refine nx ?_
    refine mw (vi (l % 256)) ?_
    refine aw (vi (l % 256)) ?_
    refine n3 ?_
    refine rt (vi (l % 256)) ?_
    exact ⟨(l % 256), u, ⟨_, _, Z, (Rd.chP hcr u hcn), hcl, (by omega), hcn⟩, rfl, (by omega)⟩

theorem csl1Below (f : World) (g : Nat) (ca : Option Addr) (cc : Nat) (cb : List UInt8) (u : CurX f g 74 ca cc cb) (b : Int)  : Fn Try.prog 29 #[(vp g 0), (vi b)] f (fun v o => ∃ x : (Int), Ch (fun k => k = g) f o ∧ CurX o g 74 ca cc cb ∧ O_3 o f.heap.size v x ∧ (0 ≤ x ∧ (x < b ∨ ((b : Int) ≤ 0 ∧ x = 0)))) := by
 obtain ⟨ci, chh, hcb, hcr, hcl, hci, hcn⟩ := u
 have hgl := Blk.lt hcb
 refine fn_ofS (n := 31) [(vp g 0), (vi b)] Try.func29 rfl rfl ?_
 refine sr ?_
 refine aw (vi 0) ?_
 refine n4 ?_
 refine mw (vi b) ?_
 refine pu (vb (decide (b ≤ 0))) wN ?_
 refine n2 ?_
 rcases bt (decide (b ≤ 0)) with i | i
 ·have H := dT i
  refine ct i ?_
  refine sr ?_
  refine aw (vi 0) ?_
  refine n1 ?_
  refine rt (vi 0) ?_
  exact ⟨0, (Ch.refl (fun k => k = g) f), ⟨_, _, hcb, hcr, hcl, (by omega), hcn⟩, rfl, (by omega)⟩
 have I := dF i
 refine cf i ?_
 refine y2 ?_
 refine mw (vi b) ?_
 refine pu (vb (decide (b ≤ 256))) wN ?_
 refine n2 ?_
 rcases bt (decide (b ≤ 256)) with j | j
 ·have J := dT j
  refine ct j ?_
  refine sr ?_
  refine mw (vp g 0) ?_
  refine cl wN (csl1Byte f g ca cc cb ⟨_, _, hcb, hcr, hcl, (by omega), hcn⟩) ?_
  rintro _ p ⟨l, w, ⟨K, L, y, M, N, O, P⟩, rfl, Q⟩
  have q := ChG.ext (Ch.refl (fun k => k = g) f) w (fun k hk => .inl hk)
  refine mw (vi b) ?_
  refine wl_remv (l) b wN rfl rfl rfl rfl rfl (by omega) (by omega) ?_
  have R := rem_b (a := (l)) (m := b) (by omega)
  refine aw (vi ((l) % b)) ?_
  refine n1 ?_
  refine rt (vi ((l) % b)) ?_
  exact ⟨((l) % b), q, ⟨_, _, y, (Rd.chP hcr q hcn), hcl, (by omega), hcn⟩, rfl, (by omega)⟩
 have S := dF j
 refine cf j ?_
 refine y1 ?_
 refine mw (vp g 0) ?_
 refine cl wN (csl1Byte f g ca cc cb ⟨_, _, hcb, hcr, hcl, (by omega), hcn⟩) ?_
 rintro _ p ⟨d, A, ⟨T, V, B, W, X, Y, Z⟩, rfl, aa⟩
 have r := ChG.ext (Ch.refl (fun k => k = g) f) A (fun k hk => .inl hk)
 refine aw (vi (d)) ?_
 refine nx ?_
 refine mw (vp g 0) ?_
 refine cl wN (csl1Byte p g ca cc cb ⟨_, _, B, (Rd.chP hcr r hcn), hcl, (by omega), hcn⟩) ?_
 rintro _ C ⟨e, D, ⟨ab, ac, E, ad, ae, af, ah⟩, rfl, ai⟩
 have s := ChG.ext r D (fun k hk => .inl hk)
 refine aw (vi (e)) ?_
 refine nx ?_
 refine mw (vp g 0) ?_
 refine cl wN (csl1Byte C g ca cc cb ⟨_, _, E, (Rd.chP hcr s hcn), hcl, (by omega), hcn⟩) ?_
 rintro _ aj ⟨h, F, ⟨ak, am, G, an, ao, ap, aq⟩, rfl, au⟩
 have t := ChG.ext s F (fun k hk => .inl hk)
 refine aw (vi (h)) ?_
 refine nx ?_
 refine mw (vi (d)) ?_
 refine ar ((d) * 65536) wN ?_
 refine mw (vi (e)) ?_
 refine ar ((e) * 256) wN ?_
 refine ar (((d) * 65536) + ((e) * 256)) wN ?_
 refine mw (vi (h)) ?_
 refine ar ((((d) * 65536) + ((e) * 256)) + (h)) wN ?_
 refine mw (vi b) ?_
 refine wl_remv ((((d) * 65536) + ((e) * 256)) + (h)) b wN rfl rfl rfl rfl rfl (by omega) (by omega) ?_
 have av := rem_b (a := ((((d) * 65536) + ((e) * 256)) + (h))) (m := b) (by omega)
 refine aw (vi (((((d) * 65536) + ((e) * 256)) + (h)) % b)) ?_
 refine n3 ?_
 refine rt (vi (((((d) * 65536) + ((e) * 256)) + (h)) % b)) ?_
 exact ⟨(((((d) * 65536) + ((e) * 256)) + (h)) % b), t, ⟨_, _, G, (Rd.chP hcr t hcn), hcl, (by omega), hcn⟩, rfl, (by omega)⟩

def O_22 (w : World) (lo : Nat) (v : Value) (x : (List UInt8)) : Prop := ∃ (a : Option Addr) (b : Nat), v = .slice a x.length b ∧ w.ownsRow lo 5 1 (.slice a x.length b) x.length (x.map bV) ∧ x.length ≤ 1073741824 ∧ Aps [(a, b)]
theorem csl18Nonce (a : World) (g : Nat) (ca : Option Addr) (cc : Nat) (cb : List UInt8) (N : CurX a g 74 ca cc cb)  : Fn Try.prog 73 #[(vp g 0)] a (fun v d => ∃ x : (List UInt8), Ch (fun k => k = g) a d ∧ CurX d g 74 ca cc cb ∧ O_22 d a.heap.size v x ∧ (x.length = 12)) := by
 obtain ⟨ci, chh, hcb, hcr, hcl, hci, hcn⟩ := N
 have hgl := Blk.lt hcb
 refine fn_ofS (n := 19) [(vp g 0)] Try.func73 rfl rfl ?_
 refine sr ?_
 refine aw (vs none 0 0) ?_
 refine nx ?_
 refine wl_lit0 wN rfl rfl slTy_22 (fun w => by kernel_rfl) ?_
 intro q O r B
 have C := ChG.extk (Ch.refl (fun k => k = g) a) r
 refine aw (vs (some q) 0 0) ?_
 refine nx ?_
 refine mw (vp g 0) ?_
 have P := (hcb.kp r)
 refine cl wN (csl1Below O g ca cc cb ⟨_, _, P, (Rd.chP hcr C hcn), hcl, (by omega), hcn⟩ 4) ?_
 rintro _ s ⟨b, t, ⟨ad, ae, Q, af, ah, ai, aj⟩, rfl, ak⟩
 have D := ChG.ext C t (fun k hk => .inl hk)
 refine wl_conv8 (b) wN rfl rfl (by kernel_rfl) ?_
 refine aw (v8 ((by8 (b)).toNat : Int)) ?_
 refine n4 ?_
 refine aw (vi 0) ?_
 refine wl_nil <| wq_then <| wc_block ?_
 have R := (own_ch B t (ne1 B (hgl)))
 have E : ([] : List UInt8) = ([] : List UInt8) := by simp
 have F : 0 = (([] : List UInt8)).length := by rw [← E]; try (first | rfl | simp only [List.length_set] | simp)
 refine wc_loopP [(2, (vs none 0 0)), (3, (.slice (some q) (([] : List UInt8)).length 0)), (4, (v8 ((by8 (b)).toNat : Int))), (5, (vi ((0 : Nat) : Int)))] ⟨rfl, rfl, rfl, (cA (Value.int .i64) (show (0 : Int) = ((0 : Nat) : Int) by omega)), trivial⟩ (fun e' d => ∃ (k : Nat) (l : List UInt8) (G : Env) (e : Option Addr) (f : Nat), e' = pt G [(2, (vs none 0 0)), (3, (.slice e (l).length f)), (4, (v8 ((by8 (b)).toNat : Int))), (5, (vi ((k : Nat) : Int)))] ∧ Ch (fun k => k = g) a d ∧ Ch (fun k => k = g ∨ a.heap.size ≤ k) s d ∧ l.length = k ∧ k ≤ 12 ∧ (World.ownsRow d a.heap.size 5 1 (.slice e (l).length f) (l).length ((l).map bV) ∧ (l).length ≤ 1073741824) ∧ CurX d g 74 ca cc cb) (fun e' _ => (12 - (intOf (e' 5))).toNat) ?_ ?_
 ·exact fun u => ⟨0, ([] : List UInt8), u, (some q), 0, rfl, D, (Ch.refl (fun k => k = g ∨ a.heap.size ≤ k) s), (by first | omega | (simp only [List.length_append, List.length_cons, List.length_nil]; omega)), (by omega), ⟨(by rw [← F, ← E]; exact R), (by rw [← F]; first | exact (by simp) | (simp only [List.length_append, List.length_take, List.length_replicate]; omega))⟩, ⟨_, _, Q, (Rd.chP hcr D hcn), hcl, (by omega), hcn⟩⟩
 ·rintro _ S ⟨k, l, G, e, f, rfl, y, H, am, an, ⟨i, T⟩, ⟨ao, ap, I, aq, au, av, ax⟩⟩
  refine wc_seq <| sr ?_
  refine mw (vi ((k : Nat) : Int)) ?_
  refine pu (vb (decide (((k : Nat) : Int) < 12))) wN ?_
  refine n2 ?_
  rcases bf (decide (((k : Nat) : Int) < 12)) with j | j
  ·have ay := dF j
   refine cf j ?_
   refine wc_exit <| wq_then_exit <| wq_then_exit <| wq_blk_exit <| wq_then <| sr ?_
   refine mw (vs e (l).length f) ?_
   refine aw (vs e (l).length f) ?_
   refine n3 ?_
   refine rt (vs e (l).length f) ?_
   have J : (l).length = (l).length := by first | (simp only [List.length_append, List.length_take, List.length_replicate, List.length_set, List.length_map]; done) | (simp only [List.length_append, List.length_take, List.length_replicate, List.length_set, List.length_map]; omega)
   rw [J] at i ⊢
   exact ⟨l, y, ⟨_, _, I, (Rd.chP hcr y hcn), hcl, (by omega), hcn⟩, ⟨_, _, rfl, i, (by rw [← J]; exact T), ⟨trivial, trivial⟩⟩, (by omega)⟩
  have az := dT j
  refine ct j ?_
  refine wc_skip <| wq_then <| wc_seq <| wc_block <| wc_region ?_
  refine mw (vs e (l).length f) ?_
  refine mw (v8 ((by8 (b)).toNat : Int)) ?_
  refine ltB ([(by8 (b))] : List UInt8) wN slTy_22 ?_
  intro a0 a1 a2 m V
  have W := ChG.extk y m
  have X := (own_kp i m)
  refine wl_append (v := (vs e (l).length f)) wN rfl rfl rfl slTy_22 rfl rfl X (Rd.of_own V) (all_bV _) (by first | (simp only [List.length_append, List.length_cons, List.length_nil, List.length_replicate, List.length_take, List.length_drop]; omega) | omega) (by simp only [maxLen]; first | (simp only [List.length_append, List.length_cons, List.length_nil, List.length_replicate, List.length_take, List.length_drop]; omega) | omega) (z4 r t H m) ?_
  intro Y Z A aa a3
  have K : Z.ownsRow a.heap.size 5 1 Y ((l ++ ([(by8 (b))] : List UInt8)) : List UInt8).length (((l ++ ([(by8 (b))] : List UInt8)) : List UInt8).map bV) := by simpa [Nat.add_assoc] using aa
  obtain ⟨o, p, rfl⟩ := own_form K
  have L := ChG.ext W A (fun k hk => .inr (nT (Nat.le_refl a.heap.size) (own_lt i k hk).1))
  have ab : (l ++ ([(by8 (b))] : List UInt8)).length ≤ 1073741824 := by first | (simp only [List.length_append, List.length_cons, List.length_nil, List.length_replicate, List.length_take, List.length_drop]; omega) | omega | assumption
  refine aw (vs o (l ++ ([(by8 (b))] : List UInt8)).length p) ?_
  refine wl_nil <| wq_blk_normal <| wq_then <| wc_region ?_
  refine mw (vi ((k : Nat) : Int)) ?_
  refine ar (((k : Nat) : Int) + 1) wN ?_
  refine aw (vi (((k : Nat) : Int) + 1)) ?_
  refine wl_nil ?_
  have M : ((l ++ ([(by8 (b))] : List UInt8)) : List UInt8) = (l ++ ([(by8 (b))] : List UInt8)) := by simp
  have ac := ((I.kp m).ch A (fun h => by have := (own_lt i _ h).1; have := nL hgl (Nat.le_refl a.heap.size); omega))
  refine wq_loopP (w0 := S) [(2, (vs none 0 0)), (3, (.slice o ((l ++ ([(by8 (b))] : List UInt8))).length p)), (4, (v8 ((by8 (b)).toNat : Int))), (5, (vi (((k + 1) : Nat) : Int)))] ?_ ?_ ?_
  · exact ⟨rfl, (cA (fun l : List UInt8 => Value.slice o l.length p) M), rfl, (cA (Value.int .i64) (show ((((k : Nat) : Int) + 1) : Int) = (((k + 1) : Nat) : Int) by omega)), trivial⟩
  · exact fun u => ⟨(k + 1), (l ++ ([(by8 (b))] : List UInt8)), u, o, p, rfl, L, (ChO.ext (ChO.extk (ChO.ext (Ch.refl (fun k => k = g ∨ a.heap.size ≤ k) s) H (fun k hk => hk.elim .inl (fun hk => .inr (hk)))) m) A (fun k hk => .inr (nT (Nat.le_refl a.heap.size) (own_lt i k hk).1))), (by first | omega | (simp only [List.length_append, List.length_cons, List.length_nil]; omega)), (by omega), (M ▸ ⟨K, ab⟩), ⟨_, _, ac, (Rd.chP hcr L hcn), hcl, (by omega), hcn⟩⟩
  · show (12 - (((k + 1) : Nat) : Int)).toNat < (12 - ((k : Nat) : Int)).toNat; omega

theorem csl18Key (a : World) (g : Nat) (ca : Option Addr) (cc : Nat) (cb : List UInt8) (N : CurX a g 74 ca cc cb)  : Fn Try.prog 74 #[(vp g 0)] a (fun v d => ∃ x : (List UInt8), Ch (fun k => k = g) a d ∧ CurX d g 74 ca cc cb ∧ O_22 d a.heap.size v x ∧ (x.length = 32)) := by
 obtain ⟨ci, chh, hcb, hcr, hcl, hci, hcn⟩ := N
 have hgl := Blk.lt hcb
 refine fn_ofS (n := 19) [(vp g 0)] Try.func74 rfl rfl ?_
 refine sr ?_
 refine aw (vs none 0 0) ?_
 refine nx ?_
 refine wl_lit0 wN rfl rfl slTy_22 (fun w => by kernel_rfl) ?_
 intro q O r B
 have C := ChG.extk (Ch.refl (fun k => k = g) a) r
 refine aw (vs (some q) 0 0) ?_
 refine nx ?_
 refine mw (vp g 0) ?_
 have P := (hcb.kp r)
 refine cl wN (csl1Below O g ca cc cb ⟨_, _, P, (Rd.chP hcr C hcn), hcl, (by omega), hcn⟩ 3) ?_
 rintro _ s ⟨b, t, ⟨ad, ae, Q, af, ah, ai, aj⟩, rfl, ak⟩
 have D := ChG.ext C t (fun k hk => .inl hk)
 refine wl_conv8 (b) wN rfl rfl (by kernel_rfl) ?_
 refine aw (v8 ((by8 (b)).toNat : Int)) ?_
 refine n4 ?_
 refine aw (vi 0) ?_
 refine wl_nil <| wq_then <| wc_block ?_
 have R := (own_ch B t (ne1 B (hgl)))
 have E : ([] : List UInt8) = ([] : List UInt8) := by simp
 have F : 0 = (([] : List UInt8)).length := by rw [← E]; try (first | rfl | simp only [List.length_set] | simp)
 refine wc_loopP [(2, (vs none 0 0)), (3, (.slice (some q) (([] : List UInt8)).length 0)), (4, (v8 ((by8 (b)).toNat : Int))), (5, (vi ((0 : Nat) : Int)))] ⟨rfl, rfl, rfl, (cA (Value.int .i64) (show (0 : Int) = ((0 : Nat) : Int) by omega)), trivial⟩ (fun e' d => ∃ (k : Nat) (l : List UInt8) (G : Env) (e : Option Addr) (f : Nat), e' = pt G [(2, (vs none 0 0)), (3, (.slice e (l).length f)), (4, (v8 ((by8 (b)).toNat : Int))), (5, (vi ((k : Nat) : Int)))] ∧ Ch (fun k => k = g) a d ∧ Ch (fun k => k = g ∨ a.heap.size ≤ k) s d ∧ l.length = k ∧ k ≤ 32 ∧ (World.ownsRow d a.heap.size 5 1 (.slice e (l).length f) (l).length ((l).map bV) ∧ (l).length ≤ 1073741824) ∧ CurX d g 74 ca cc cb) (fun e' _ => (32 - (intOf (e' 5))).toNat) ?_ ?_
 ·exact fun u => ⟨0, ([] : List UInt8), u, (some q), 0, rfl, D, (Ch.refl (fun k => k = g ∨ a.heap.size ≤ k) s), (by first | omega | (simp only [List.length_append, List.length_cons, List.length_nil]; omega)), (by omega), ⟨(by rw [← F, ← E]; exact R), (by rw [← F]; first | exact (by simp) | (simp only [List.length_append, List.length_take, List.length_replicate]; omega))⟩, ⟨_, _, Q, (Rd.chP hcr D hcn), hcl, (by omega), hcn⟩⟩
 ·rintro _ S ⟨k, l, G, e, f, rfl, y, H, am, an, ⟨i, T⟩, ⟨ao, ap, I, aq, au, av, ax⟩⟩
  refine wc_seq <| sr ?_
  refine mw (vi ((k : Nat) : Int)) ?_
  refine pu (vb (decide (((k : Nat) : Int) < 32))) wN ?_
  refine n2 ?_
  rcases bf (decide (((k : Nat) : Int) < 32)) with j | j
  ·have ay := dF j
   refine cf j ?_
   refine wc_exit <| wq_then_exit <| wq_then_exit <| wq_blk_exit <| wq_then <| sr ?_
   refine mw (vs e (l).length f) ?_
   refine aw (vs e (l).length f) ?_
   refine n3 ?_
   refine rt (vs e (l).length f) ?_
   have J : (l).length = (l).length := by first | (simp only [List.length_append, List.length_take, List.length_replicate, List.length_set, List.length_map]; done) | (simp only [List.length_append, List.length_take, List.length_replicate, List.length_set, List.length_map]; omega)
   rw [J] at i ⊢
   exact ⟨l, y, ⟨_, _, I, (Rd.chP hcr y hcn), hcl, (by omega), hcn⟩, ⟨_, _, rfl, i, (by rw [← J]; exact T), ⟨trivial, trivial⟩⟩, (by omega)⟩
  have az := dT j
  refine ct j ?_
  refine wc_skip <| wq_then <| wc_seq <| wc_block <| wc_region ?_
  refine mw (vs e (l).length f) ?_
  refine mw (v8 ((by8 (b)).toNat : Int)) ?_
  refine ltB ([(by8 (b))] : List UInt8) wN slTy_22 ?_
  intro a0 a1 a2 m V
  have W := ChG.extk y m
  have X := (own_kp i m)
  refine wl_append (v := (vs e (l).length f)) wN rfl rfl rfl slTy_22 rfl rfl X (Rd.of_own V) (all_bV _) (by first | (simp only [List.length_append, List.length_cons, List.length_nil, List.length_replicate, List.length_take, List.length_drop]; omega) | omega) (by simp only [maxLen]; first | (simp only [List.length_append, List.length_cons, List.length_nil, List.length_replicate, List.length_take, List.length_drop]; omega) | omega) (z4 r t H m) ?_
  intro Y Z A aa a3
  have K : Z.ownsRow a.heap.size 5 1 Y ((l ++ ([(by8 (b))] : List UInt8)) : List UInt8).length (((l ++ ([(by8 (b))] : List UInt8)) : List UInt8).map bV) := by simpa [Nat.add_assoc] using aa
  obtain ⟨o, p, rfl⟩ := own_form K
  have L := ChG.ext W A (fun k hk => .inr (nT (Nat.le_refl a.heap.size) (own_lt i k hk).1))
  have ab : (l ++ ([(by8 (b))] : List UInt8)).length ≤ 1073741824 := by first | (simp only [List.length_append, List.length_cons, List.length_nil, List.length_replicate, List.length_take, List.length_drop]; omega) | omega | assumption
  refine aw (vs o (l ++ ([(by8 (b))] : List UInt8)).length p) ?_
  refine wl_nil <| wq_blk_normal <| wq_then <| wc_region ?_
  refine mw (vi ((k : Nat) : Int)) ?_
  refine ar (((k : Nat) : Int) + 1) wN ?_
  refine aw (vi (((k : Nat) : Int) + 1)) ?_
  refine wl_nil ?_
  have M : ((l ++ ([(by8 (b))] : List UInt8)) : List UInt8) = (l ++ ([(by8 (b))] : List UInt8)) := by simp
  have ac := ((I.kp m).ch A (fun h => by have := (own_lt i _ h).1; have := nL hgl (Nat.le_refl a.heap.size); omega))
  refine wq_loopP (w0 := S) [(2, (vs none 0 0)), (3, (.slice o ((l ++ ([(by8 (b))] : List UInt8))).length p)), (4, (v8 ((by8 (b)).toNat : Int))), (5, (vi (((k + 1) : Nat) : Int)))] ?_ ?_ ?_
  · exact ⟨rfl, (cA (fun l : List UInt8 => Value.slice o l.length p) M), rfl, (cA (Value.int .i64) (show ((((k : Nat) : Int) + 1) : Int) = (((k + 1) : Nat) : Int) by omega)), trivial⟩
  · exact fun u => ⟨(k + 1), (l ++ ([(by8 (b))] : List UInt8)), u, o, p, rfl, L, (ChO.ext (ChO.extk (ChO.ext (Ch.refl (fun k => k = g ∨ a.heap.size ≤ k) s) H (fun k hk => hk.elim .inl (fun hk => .inr (hk)))) m) A (fun k hk => .inr (nT (Nat.le_refl a.heap.size) (own_lt i k hk).1))), (by first | omega | (simp only [List.length_append, List.length_cons, List.length_nil]; omega)), (by omega), (M ▸ ⟨K, ab⟩), ⟨_, _, ac, (Rd.chP hcr L hcn), hcl, (by omega), hcn⟩⟩
  · show (32 - (((k + 1) : Nat) : Int)).toNat < (32 - ((k : Nat) : Int)).toNat; omega

def s_l1In (a : Int) (b : Int) (d : Int) : (Bool) := bif (decide (b ≤ a)) then (decide (a ≤ d)) else (false)
theorem csl1In (f : World) (a : Int) (e : Int) (d : Int)  : Fn Try.prog 38 #[(vi a), (vi e), (vi d)] f (fun v g => Keep f g ∧ O_4 g f.heap.size v (s_l1In a e d)) := by
 refine fn_ofS (n := 15) [(vi a), (vi e), (vi d)] Try.func38 rfl rfl ?_
 refine sr ?_
 refine aw (vb false) ?_
 refine nx ?_
 refine mw (vi a) ?_
 refine mw (vi e) ?_
 refine pu (vb (decide (e ≤ a))) wN ?_
 refine mw (vb (decide (e ≤ a))) ?_
 rcases bf (decide (e ≤ a)) with b | b
 ·have h := dF b
  iterate 3 refine sk b ?_
  refine pf (vb false) wN b ?_
  refine aw (vb false) ?_
  refine n3 ?_
  refine rt (vb false) ?_
  refine ⟨Ch.refl _ _, ?_⟩
  simp only [s_l1In, b, cond_true, cond_false]
  exact rfl
 have i := dT b
 refine mv (vi a) (wS b) ?_
 refine mv (vi d) (wS b) ?_
 refine pu (vb (decide (a ≤ d))) (wS b) ?_
 refine pk (vb (decide (a ≤ d))) wN b ?_
 refine aw (vb (decide (a ≤ d))) ?_
 refine n3 ?_
 refine rt (vb (decide (a ≤ d))) ?_
 refine ⟨Ch.refl _ _, ?_⟩
 simp only [s_l1In, b, cond_true, cond_false]
 exact rfl
theorem spec_l1In_t {n a b : Int} (h : s_l1In n a b = true) : a ≤ n ∧ n ≤ b := by
  unfold s_l1In at h
  by_cases h1 : a ≤ n <;> simp [h1] at h
  exact ⟨h1, h⟩
theorem spec_l1In_f {n a b : Int} (h : s_l1In n a b = false) : n < a ∨ b < n := by
  unfold s_l1In at h
  by_cases h1 : a ≤ n <;> simp [h1] at h <;> omega

theorem zero_29 : ∀ w, (zeroValue 29).run Try.prog w = .ok (va [(vi 0), (vi 0)]) w := fun w => by kernel_rfl
theorem sizeOf_29 : ∀ w, (sizeOf 29).run Try.prog w = .ok 2 w := fun w => by kernel_rfl
theorem isAgg_29 : ∀ w, (isAgg 29).run Try.prog w = .ok true w := fun w => by kernel_rfl
def O_29 (w : World) (lo : Nat) (v : Value) (x : (PAddr)) : Prop := v = .agg #[.int .i64 x.Host, .int .i64 x.Port]
def s_Near (a : Int) : (PAddr) := bif (s_l1In a 0 255) then ({ Host := (167772160 + a), Port := (7000 + a) : PAddr }) else ({ Host := 0, Port := 0 : PAddr })
theorem csNear (d : World) (a : Int)  : Fn Try.prog 75 #[(vi a)] d (fun v f => Keep d f ∧ O_29 f d.heap.size v (s_Near a)) := by
 refine fn_ofS (n := 12) [(vi a)] Try.func75 rfl rfl ?_
 refine sr ?_
 refine al [(vi 0), (vi 0)] wN zero_29 ?_
 intro x j g y l h
 refine n4 ?_
 refine mw (vi a) ?_
 refine cl wN (csl1In j a 0 255) ?_
 rintro _ A ⟨e, rfl⟩
 have i := ((Ch.base d).extk l).extk e
 refine pu (vb (!(s_l1In a 0 255))) wN ?_
 refine n2 ?_
 rcases bf (s_l1In a 0 255) with b | b
 ·have B := spec_l1In_f b
  refine ct (cA not b) ?_
  refine sr ?_
  refine pu (va [(vi 0), (vi 0)]) wN ?_
  have m := (h.kp e)
  refine sv [(vi 0), (vi 0)] wN sizeOf_29 m ?_
  intro o p q C
  have r := i.ext p (fun k hk => by subst hk; exact g)
  refine n1 ?_
  refine ret_1 (.inl rfl) (va [(vi 0), (vi 0)]) rfl (rv_c [(vi 0), (vi 0)] rfl q isAgg_29 sizeOf_29) ?_
  refine ⟨r.keep0, ?_⟩
  simp only [s_Near, b, cond_true, cond_false]
  exact rfl
 have D := spec_l1In_t b
 refine cf (cA not b) ?_
 refine y1 ?_
 refine mw (vi a) ?_
 refine ar (167772160 + a) wN ?_
 refine mw (vi a) ?_
 refine ar (7000 + a) wN ?_
 refine pu (va [(vi (167772160 + a)), (vi (7000 + a))]) wN ?_
 have s := (h.kp e)
 refine sv [(vi (167772160 + a)), (vi (7000 + a))] wN sizeOf_29 s ?_
 intro o t u E
 have w := i.ext t (fun k hk => by subst hk; exact g)
 refine n3 ?_
 refine ret_1 (.inl rfl) (va [(vi (167772160 + a)), (vi (7000 + a))]) rfl (rv_c [(vi (167772160 + a)), (vi (7000 + a))] rfl u isAgg_29 sizeOf_29) ?_
 refine ⟨w.keep0, ?_⟩
 simp only [s_Near, b, cond_true, cond_false]
 exact rfl

abbrev Z_31 : List Value := [(vi 0), (vi 0), (vi 0), (vs none 0 0), (vs none 0 0), (vi 0), (vi 0), (vs none 0 0), (vs none 0 0), (vi 0), (vi 0), (vi 0)]
theorem zero_31 : ∀ w, (zeroValue 31).run Try.prog w = .ok (va Z_31) w := fun w => by kernel_rfl
theorem sizeOf_31 : ∀ w, (sizeOf 31).run Try.prog w = .ok 12 w := fun w => by kernel_rfl
theorem sizeOf_22 : ∀ w, (sizeOf 22).run Try.prog w = .ok 1 w := fun w => by kernel_rfl
abbrev L_29 (x : PAddr)  : List Value := [vi x.Host, vi x.Port]
theorem isAgg_31 : ∀ w, (isAgg 31).run Try.prog w = .ok true w := fun w => by kernel_rfl
def O_31 (w : World) (lo : Nat) (v : Value) (x : (PNote)) : Prop := ∃ (a : Option Addr) (b : Nat) (d : Option Addr) (e : Nat) (f : Option Addr) (g : Nat) (h : Option Addr) (i : Nat), v = .agg #[.int .i64 x.Kind, .int .i64 x.Id, .int .i64 x.Role, .slice a x.Cn.length b, .slice d x.Sn.length e, .int .i64 x.Epoch, .int .i64 x.Seq, .slice f x.Body.length g, .slice h x.Key.length i, .int .i64 x.A.Host, .int .i64 x.A.Port, .int .i64 x.Now] ∧ w.ownsRow lo 5 1 (.slice a x.Cn.length b) x.Cn.length (x.Cn.map bV) ∧ x.Cn.length ≤ 1073741824 ∧ w.ownsRow lo 5 1 (.slice d x.Sn.length e) x.Sn.length (x.Sn.map bV) ∧ x.Sn.length ≤ 1073741824 ∧ w.ownsRow lo 5 1 (.slice f x.Body.length g) x.Body.length (x.Body.map bV) ∧ x.Body.length ≤ 1073741824 ∧ w.ownsRow lo 5 1 (.slice h x.Key.length i) x.Key.length (x.Key.map bV) ∧ x.Key.length ≤ 1073741824 ∧ Aps [(a, b), (d, e), (f, g), (h, i)]
theorem csl18Draw (ai : World) (g : Nat) (ca : Option Addr) (cc : Nat) (cb : List UInt8) (a9 : CurX ai g 74 ca cc cb)  : Fn Try.prog 59 #[(vp g 0)] ai (fun v aq => ∃ x : (PNote), Ch (fun k => k = g) ai aq ∧ CurX aq g 74 ca cc cb ∧ O_31 aq ai.heap.size v x ∧ (True)) := by
 obtain ⟨ci, chh, hcb, hcr, hcl, hci, hcn⟩ := a9
 have hgl := Blk.lt hcb
 refine fn_ofS (n := 36) [(vp g 0)] Try.func59 rfl rfl ?_
 refine sr ?_
 refine al Z_31 wN zero_31 ?_
 intro bJ aA y aj h aB
 have ax := ChG.extk (Ch.refl (fun k => k = g) ai) h
 refine nx ?_
 refine mw (vp g 0) ?_
 have aC := (hcb.kp h)
 refine cl wN (csl1Below aA g ca cc cb ⟨_, _, aC, (Rd.chP hcr ax hcn), hcl, (by omega), hcn⟩ 17) ?_
 rintro _ aD ⟨t, a, ⟨bK, bL, aE, bM, bN, bO, bP⟩, rfl, bQ⟩
 have ay := ChG.ext ax a (fun k hk => .inl hk)
 refine ar (1 + (t)) wN ?_
 refine mw (vp g 0) ?_
 refine cl wN (csl1Below aD g ca cc cb ⟨_, _, aE, (Rd.chP hcr ay hcn), hcl, (by omega), hcn⟩ 3) ?_
 rintro _ aF ⟨B, b, ⟨bR, bS, aG, bT, bU, bW, bX⟩, rfl, bY⟩
 have az := ChG.ext ay b (fun k hk => .inl hk)
 refine mw (vp g 0) ?_
 refine cl wN (csl1Below aF g ca cc cb ⟨_, _, aG, (Rd.chP hcr az hcn), hcl, (by omega), hcn⟩ 2) ?_
 rintro _ aH ⟨C, d, ⟨bZ, cd, aI, ce, cg, cj, ck⟩, rfl, cm⟩
 have a0 := ChG.ext az d (fun k hk => .inl hk)
 refine mw (vp g 0) ?_
 refine cl wN (csl1Below aH g ca cc cb ⟨_, _, aI, (Rd.chP hcr a0 hcn), hcl, (by omega), hcn⟩ 2) ?_
 rintro _ aJ ⟨D, e, ⟨cn, co, aK, cp, cq, cr, cs⟩, rfl, cu⟩
 have a1 := ChG.ext a0 e (fun k hk => .inl hk)
 refine mw (vp g 0) ?_
 refine cl wN (csl1Below aJ g ca cc cb ⟨_, _, aK, (Rd.chP hcr a1 hcn), hcl, (by omega), hcn⟩ 3) ?_
 rintro _ cv ⟨E, f, ⟨cw, cx, aL, cy, cz, c0, c1⟩, rfl, c2⟩
 have aM := ChG.ext a1 f (fun k hk => .inl hk)
 refine pu (va [(vi (1 + (t))), (vi (B)), (vi (C)), (vs none 0 0), (vs none 0 0), (vi (D)), (vi (E)), (vs none 0 0), (vs none 0 0), (vi 0), (vi 0), (vi 0)]) wN ?_
 refine al Z_31 wN zero_31 ?_
 intro ad c3 i an o aN
 have aO := ChG.extk aM o
 refine sv [(vi (1 + (t))), (vi (B)), (vi (C)), (vs none 0 0), (vs none 0 0), (vi (D)), (vi (E)), (vs none 0 0), (vs none 0 0), (vi 0), (vi 0), (vi 0)] wN sizeOf_31 aN ?_
 intro aP j aQ c4
 have a2 := ChG.ext aO j (fun k hk => .inr (by subst hk; exact nT (z6 h a b d e f) i))
 refine nx ?_
 refine mw (vp g 0) ?_
 have aR := ((aL.kp o).ch j (nN (nL hgl (nT (z6 h a b d e f) i))))
 refine cl wN (csl18Nonce aP g ca cc cb ⟨_, _, aR, (Rd.chP hcr a2 hcn), hcl, (by omega), hcn⟩) ?_
 rintro _ c5 ⟨F, p, ⟨c6, c7, aS, c8, c9, cC, cD⟩, ⟨G, H, rfl, q, aT, cE⟩, cF⟩
 have aU := ChG.ext a2 p (fun k hk => .inl hk)
 refine pu (vp ad 3) wN ?_
 have aV := (aQ.ch p (Ne.symm (nN (nL hgl (nT (z6 h a b d e f) i)))))
 refine st (vs G (F).length H) [(vs G (F).length H)] [(vi (1 + (t))), (vi (B)), (vi (C)), (vs G (F).length H), (vs none 0 0), (vi (D)), (vi (E)), (vs none 0 0), (vs none 0 0), (vi 0), (vi 0), (vi 0)] wN sizeOf_22 aV ?_
 intro aW l aX cG
 have a3 := ChG.ext aU l (fun k hk => .inr (by subst hk; exact nT (z6 h a b d e f) i))
 refine nx ?_
 refine mw (vp g 0) ?_
 have aY := (aS.ch l (nN (nL hgl (nT (z6 h a b d e f) i))))
 refine cl wN (csl18Nonce aW g ca cc cb ⟨_, _, aY, (Rd.chP hcr a3 hcn), hcl, (by omega), hcn⟩) ?_
 rintro _ cH ⟨I, s, ⟨cI, cJ, aZ, cK, cL, cM, cN⟩, ⟨L, M, rfl, u, ba, cO⟩, cP⟩
 have bb := ChG.ext a3 s (fun k hk => .inl hk)
 refine pu (vp ad 4) wN ?_
 have bc := (aX.ch s (Ne.symm (nN (nL hgl (nT (z6 h a b d e f) i)))))
 refine st (vs L (I).length M) [(vs L (I).length M)] [(vi (1 + (t))), (vi (B)), (vi (C)), (vs G (F).length H), (vs L (I).length M), (vi (D)), (vi (E)), (vs none 0 0), (vs none 0 0), (vi 0), (vi 0), (vi 0)] wN sizeOf_22 bc ?_
 intro bd m be cQ
 have a4 := ChG.ext bb m (fun k hk => .inr (by subst hk; exact nT (z6 h a b d e f) i))
 refine nx ?_
 refine mw (vp g 0) ?_
 have bg := (aZ.ch m (nN (nL hgl (nT (z6 h a b d e f) i))))
 refine cl wN (csl18Key bd g ca cc cb ⟨_, _, bg, (Rd.chP hcr a4 hcn), hcl, (by omega), hcn⟩) ?_
 rintro _ cR ⟨N, J, ⟨cS, cT, bh, cU, cV, cW, cX⟩, ⟨O, P, rfl, K, bi, cY⟩, cZ⟩
 have bj := ChG.ext a4 J (fun k hk => .inl hk)
 refine pu (vp ad 8) wN ?_
 have bk := (be.ch J (Ne.symm (nN (nL hgl (nT (z6 h a b d e f) i)))))
 refine st (vs O (N).length P) [(vs O (N).length P)] [(vi (1 + (t))), (vi (B)), (vi (C)), (vs G (F).length H), (vs L (I).length M), (vi (D)), (vi (E)), (vs none 0 0), (vs O (N).length P), (vi 0), (vi 0), (vi 0)] wN sizeOf_22 bk ?_
 intro bl w bm da
 have a5 := ChG.ext bj w (fun k hk => .inr (by subst hk; exact nT (z6 h a b d e f) i))
 refine nx ?_
 refine mw (vp g 0) ?_
 have bn := (bh.ch w (nN (nL hgl (nT (z6 h a b d e f) i))))
 refine cl wN (csl18Nonce bl g ca cc cb ⟨_, _, bn, (Rd.chP hcr a5 hcn), hcl, (by omega), hcn⟩) ?_
 rintro _ db ⟨Q, ae, ⟨dc, dd, bo, de, df, dg, dh⟩, ⟨S, T, rfl, R, bp, di⟩, dj⟩
 have bq := ChG.ext a5 ae (fun k hk => .inl hk)
 refine pu (vp ad 7) wN ?_
 have br := (bm.ch ae (Ne.symm (nN (nL hgl (nT (z6 h a b d e f) i)))))
 refine st (vs S (Q).length T) [(vs S (Q).length T)] [(vi (1 + (t))), (vi (B)), (vi (C)), (vs G (F).length H), (vs L (I).length M), (vi (D)), (vi (E)), (vs S (Q).length T), (vs O (N).length P), (vi 0), (vi 0), (vi 0)] wN sizeOf_22 br ?_
 intro bu X bv dk
 have a6 := ChG.ext bq X (fun k hk => .inr (by subst hk; exact nT (z6 h a b d e f) i))
 refine nx ?_
 refine mw (vp g 0) ?_
 have bw := (bo.ch X (nN (nL hgl (nT (z6 h a b d e f) i))))
 refine cl wN (csl1Below bu g ca cc cb ⟨_, _, bw, (Rd.chP hcr a6 hcn), hcl, (by omega), hcn⟩ 3) ?_
 rintro _ bz ⟨r, Y, ⟨dl, dm, b0, dn, dp, dq, dr⟩, rfl, ds⟩
 have b1 := ChG.ext a6 Y (fun k hk => .inl hk)
 refine cl wN (csNear bz (r)) ?_
 rintro _ dt ⟨V, rfl⟩
 have b2 := ChG.extk b1 V
 refine pu (vp ad 9) wN ?_
 have b3 := ((bv.ch Y (Ne.symm (nN (nL hgl (nT (z6 h a b d e f) i))))).kp V)
 refine st (va (L_29 (s_Near (r)))) (L_29 (s_Near (r))) [(vi (1 + (t))), (vi (B)), (vi (C)), (vs G (F).length H), (vs L (I).length M), (vi (D)), (vi (E)), (vs S (Q).length T), (vs O (N).length P), (vi ((s_Near (r)).Host)), (vi ((s_Near (r)).Port)), (vi 0)] wN sizeOf_29 b3 ?_
 intro b4 Z b5 du
 have a7 := ChG.ext b2 Z (fun k hk => .inr (by subst hk; exact nT (z6 h a b d e f) i))
 refine nx ?_
 refine mw (vp g 0) ?_
 have b6 := ((b0.kp V).ch Z (nN (nL hgl (nT (z6 h a b d e f) i))))
 refine cl wN (csl1Below b4 g ca cc cb ⟨_, _, b6, (Rd.chP hcr a7 hcn), hcl, (by omega), hcn⟩ 12) ?_
 rintro _ dv ⟨W, aa, ⟨dw, dx, b7, dy, dz, d0, d1⟩, rfl, d2⟩
 have b8 := ChG.ext a7 aa (fun k hk => .inl hk)
 refine pu (vp ad 11) wN ?_
 have b9 := (b5.ch aa (Ne.symm (nN (nL hgl (nT (z6 h a b d e f) i)))))
 refine st (vi (W)) [(vi (W))] [(vi (1 + (t))), (vi (B)), (vi (C)), (vs G (F).length H), (vs L (I).length M), (vi (D)), (vi (E)), (vs S (Q).length T), (vs O (N).length P), (vi ((s_Near (r)).Host)), (vi ((s_Near (r)).Port)), (vi (W))] wN sizeOf_3 b9 ?_
 intro d3 ab bA d4
 have bB := ChG.ext b8 ab (fun k hk => .inr (by subst hk; exact nT (z6 h a b d e f) i))
 refine nx ?_
 refine lN [(vi (1 + (t))), (vi (B)), (vi (C)), (vs G (F).length H), (vs L (I).length M), (vi (D)), (vi (E)), (vs S (Q).length T), (vs O (N).length P), (vi ((s_Near (r)).Host)), (vi ((s_Near (r)).Port)), (vi (W))] wN isAgg_31 sizeOf_31 bA ?_
 have ac := nL aj (nT (z5 a b d e f) i)
 have bC := ((((((((((((((((((((aB.ch a (Ne.symm (nN (nL hgl (y))))).ch b (Ne.symm (nN (nL hgl (y))))).ch d (Ne.symm (nN (nL hgl (y))))).ch e (Ne.symm (nN (nL hgl (y))))).ch f (Ne.symm (nN (nL hgl (y))))).kp o).ch j (nN ac)).ch p (Ne.symm (nN (nL hgl (y))))).ch l (nN ac)).ch s (Ne.symm (nN (nL hgl (y))))).ch m (nN ac)).ch J (Ne.symm (nN (nL hgl (y))))).ch w (nN ac)).ch ae (Ne.symm (nN (nL hgl (y))))).ch X (nN ac)).ch Y (Ne.symm (nN (nL hgl (y))))).kp V).ch Z (nN ac)).ch aa (Ne.symm (nN (nL hgl (y))))).ch ab (nN ac))
 refine sv [(vi (1 + (t))), (vi (B)), (vi (C)), (vs G (F).length H), (vs L (I).length M), (vi (D)), (vi (E)), (vs S (Q).length T), (vs O (N).length P), (vi ((s_Near (r)).Host)), (vi ((s_Near (r)).Port)), (vi (W))] wN sizeOf_31 bC ?_
 intro d5 af bD d6
 have a8 := ChG.ext bB af (fun k hk => .inr (by subst hk; exact y))
 refine n3 ?_
 have ak := z8 h a b d e f o j
 have ah := nL an j.size
 have bE := (own_ch (own_ch (own_ch (own_ch (own_kp (own_ch (own_ch (own_ch (own_ch (own_ch (own_ch (own_ch (own_ch q l (ne1 q ah)) s (ne1 q (nL hgl ak))) m (ne1 q ah)) J (ne1 q (nL hgl ak))) w (ne1 q ah)) ae (ne1 q (nL hgl ak))) X (ne1 q ah)) Y (ne1 q (nL hgl ak))) V) Z (ne1 q ah)) aa (ne1 q (nL hgl ak))) ab (ne1 q ah)) af (ne1 q (nL aj (z7 a b d e f o j))))
 have ao := z10 h a b d e f o j p l
 have am := nL an (z3 j p l)
 have bF := (own_ch (own_ch (own_ch (own_ch (own_kp (own_ch (own_ch (own_ch (own_ch (own_ch (own_ch u m (ne1 u am)) J (ne1 u (nL hgl ao))) w (ne1 u am)) ae (ne1 u (nL hgl ao))) X (ne1 u am)) Y (ne1 u (nL hgl ao))) V) Z (ne1 u am)) aa (ne1 u (nL hgl ao))) ab (ne1 u am)) af (ne1 u (nL aj (z9 a b d e f o j p l))))
 have au := nL an (z7 j p l s m J w)
 have bG := (own_ch (own_ch (own_ch (own_ch (own_kp (own_ch (own_ch R X (ne1 R au)) Y (ne1 R (nL hgl (t3 (z12 h a b d e f o j p l s m) J.size w.size)))) V) Z (ne1 R au)) aa (ne1 R (nL hgl (t3 (z12 h a b d e f o j p l s m) J.size w.size)))) ab (ne1 R au)) af (ne1 R (nL aj (nT (z12 a b d e f o j p l s m J) w.size))))
 have av := z12 h a b d e f o j p l s m
 have ap := nL an (z5 j p l s m)
 have bH := (own_ch (own_ch (own_ch (own_ch (own_kp (own_ch (own_ch (own_ch (own_ch K w (ne1 K ap)) ae (ne1 K (nL hgl av))) X (ne1 K ap)) Y (ne1 K (nL hgl av))) V) Z (ne1 K ap)) aa (ne1 K (nL hgl av))) ab (ne1 K ap)) af (ne1 K (nL aj (z11 a b d e f o j p l s m))))
 refine ret_1 (.inl rfl) (va [(vi (1 + (t))), (vi (B)), (vi (C)), (vs G (F).length H), (vs L (I).length M), (vi (D)), (vi (E)), (vs S (Q).length T), (vs O (N).length P), (vi ((s_Near (r)).Host)), (vi ((s_Near (r)).Port)), (vi (W))]) rfl (rv_c [(vi (1 + (t))), (vi (B)), (vi (C)), (vs G (F).length H), (vs L (I).length M), (vi (D)), (vi (E)), (vs S (Q).length T), (vs O (N).length P), (vi ((s_Near (r)).Host)), (vi ((s_Near (r)).Port)), (vi (W))] rfl bD isAgg_31 sizeOf_31) ?_
 have bI := ((b7.ch ab (nN (nL hgl (nT (z6 h a b d e f) i)))).ch af (nN (nL hgl (y))))
 exact ⟨{ Kind := (1 + (t)), Id := (B), Role := (C), Cn := (F), Sn := (I), Epoch := (D), Seq := (E), Body := (Q), Key := (N), A := (s_Near (r)), Now := (W) : PNote }, a8, ⟨_, _, bI, (Rd.chP hcr a8 hcn), hcl, (by omega), hcn⟩, ⟨_, _, _, _, _, _, _, _, rfl, (own_lo bE (z8 h a b d e f o j)), aT, (own_lo bF (z10 h a b d e f o j p l)), ba, (own_lo bG (t3 (z12 h a b d e f o j p l s m) J.size w.size)), bp, (own_lo bH (z12 h a b d e f o j p l s m)), bi, ⟨⟨(Ap.lt q u l.size), ⟨(Ap.lt q R (z5 l s m J w)), ⟨(Ap.lt q K (z3 l s m)), trivial⟩⟩⟩, ⟨⟨(Ap.lt u R (z3 m J w)), ⟨(Ap.lt u K m.size), trivial⟩⟩, ⟨⟨(Ap.lt K R w.size).symm, trivial⟩, ⟨trivial, trivial⟩⟩⟩⟩⟩, trivial⟩

theorem slTy_67 : SlTy Try.prog 67 3 1 8 (vi 0) := slTy Try.underlying67 (by kernel_rfl) rfl rfl
def N_67 (w : World) (g : Nat) (v : Value) (x : (List Int)) : Prop := ∃ (a : Option Addr) (b : Nat), v = .slice a x.length b ∧ Rd w 1 (.slice a x.length b) x.length (x.map iV) ∧ x.length ≤ 1073741824 ∧ (0 < x.length → ∀ z, a = some z → z.block ≠ g)
theorem csl1Int (b : World) (g : Nat) (ca : Option Addr) (cc : Nat) (cb : List UInt8) (o : CurX b g 74 ca cc cb) (l : Value) (a : List Int) (p : N_67 b g l a) (s : 0 < a.length) : Fn Try.prog 45 #[(vp g 0), l] b (fun v f => ∃ x : (Int), Ch (fun k => k = g) b f ∧ CurX f g 74 ca cc cb ∧ O_3 f b.heap.size v x ∧ (x ∈ a)) := by
 obtain ⟨ci, chh, hcb, hcr, hcl, hci, hcn⟩ := o
 have hgl := Blk.lt hcb
 obtain ⟨h, i, rfl, j, t, m⟩ := p
 refine fn_ofS (n := 12) [(vp g 0), (vs h a.length i)] Try.func45 rfl rfl ?_
 refine sr ?_
 refine aw (vi 0) ?_
 refine nx ?_
 refine mw (vs h a.length i) ?_
 refine mw (vp g 0) ?_
 refine mw (vs h a.length i) ?_
 refine ln wN slTy_67 j ?_
 refine cl wN (csl1Below b g ca cc cb ⟨_, _, hcb, hcr, hcl, (by omega), hcn⟩ (a.length : Int)) ?_
 rintro _ u ⟨d, q, ⟨w, y, r, A, B, C, D⟩, rfl, E⟩
 have e := ChG.ext (Ch.refl (fun k => k = g) b) q (fun k hk => .inl hk)
 refine ix wN (d) slTy_67 (Rd.chP j e m) ?_
 refine ei (x := a) (((d)).toNat) wN isAgg_3 (Rd.chP j e m) ?_
 refine aw (vi (a.getD ((d)).toNat 0)) ?_
 refine n3 ?_
 refine rt (vi (a.getD ((d)).toNat 0)) ?_
 exact ⟨(a.getD ((d)).toNat 0), e, ⟨_, _, r, (Rd.chP hcr e hcn), hcl, (by omega), hcn⟩, rfl, (by exact getD_memI (by omega))⟩

theorem csl1Bytes (a : World) (g : Nat) (ca : Option Addr) (cc : Nat) (cb : List UInt8) (N : CurX a g 74 ca cc cb) (b : Int) (ac : b ≤ 100000) : Fn Try.prog 60 #[(vp g 0), (vi b)] a (fun v e => ∃ x : (List UInt8), Ch (fun k => k = g) a e ∧ CurX e g 74 ca cc cb ∧ O_22 e a.heap.size v x ∧ (x.length = (b : Int).toNat)) := by
 obtain ⟨ci, chh, hcb, hcr, hcl, hci, hcn⟩ := N
 have hgl := Blk.lt hcb
 refine fn_ofS (n := 20) [(vp g 0), (vi b)] Try.func60 rfl rfl ?_
 refine sr ?_
 refine aw (vs none 0 0) ?_
 refine nx ?_
 refine wl_lit0 wN rfl rfl slTy_22 (fun w => by kernel_rfl) ?_
 intro t y A O
 have C := ChG.extk (Ch.refl (fun k => k = g) a) A
 refine aw (vs (some t) 0 0) ?_
 refine n4 ?_
 refine aw (vi 0) ?_
 refine wl_nil <| wq_then <| wc_block ?_
 have D : ([] : List UInt8) = ([] : List UInt8) := by simp
 have E : 0 = (([] : List UInt8)).length := by rw [← D]; try (first | rfl | simp only [List.length_set] | simp)
 have P := (hcb.kp A)
 refine wc_loopP [(0, (vp g 0)), (1, (vi b)), (4, (vs none 0 0)), (5, (.slice (some t) (([] : List UInt8)).length 0)), (6, (vi ((0 : Nat) : Int)))] ⟨rfl, rfl, rfl, rfl, (cA (Value.int .i64) (show (0 : Int) = ((0 : Nat) : Int) by omega)), trivial⟩ (fun e' e => ∃ (k : Nat) (l : List UInt8) (F : Env) (f : Option Addr) (i : Nat), e' = pt F [(0, (vp g 0)), (1, (vi b)), (4, (vs none 0 0)), (5, (.slice f (l).length i)), (6, (vi ((k : Nat) : Int)))] ∧ Ch (fun k => k = g) a e ∧ Ch (fun k => k = g ∨ a.heap.size ≤ k) y e ∧ l.length = k ∧ k ≤ b.toNat ∧ (World.ownsRow e a.heap.size 5 1 (.slice f (l).length i) (l).length ((l).map bV) ∧ (l).length ≤ 1073741824) ∧ CurX e g 74 ca cc cb) (fun e' _ => (b - (intOf (e' 6))).toNat) ?_ ?_
 ·exact fun u => ⟨0, ([] : List UInt8), u, (some t), 0, rfl, C, (Ch.refl (fun k => k = g ∨ a.heap.size ≤ k) y), (by first | omega | (simp only [List.length_append, List.length_cons, List.length_nil]; omega)), (by omega), ⟨(by rw [← E, ← D]; exact O), (by rw [← E]; first | exact (by simp) | (simp only [List.length_append, List.length_take, List.length_replicate]; omega))⟩, ⟨_, _, P, (Rd.chP hcr C hcn), hcl, (by omega), hcn⟩⟩
 ·rintro _ G ⟨k, l, F, f, i, rfl, p, H, ad, ae, ⟨j, Q⟩, ⟨af, ah, I, ai, aj, ak, am⟩⟩
  refine wc_seq <| sr ?_
  refine mw (vi ((k : Nat) : Int)) ?_
  refine mw (vi b) ?_
  refine pu (vb (decide (((k : Nat) : Int) < b))) wN ?_
  refine n2 ?_
  rcases bf (decide (((k : Nat) : Int) < b)) with m | m
  ·have an := dF m
   refine cf m ?_
   refine wc_exit <| wq_then_exit <| wq_then_exit <| wq_blk_exit <| wq_then <| sr ?_
   refine mw (vs f (l).length i) ?_
   refine aw (vs f (l).length i) ?_
   refine n3 ?_
   refine rt (vs f (l).length i) ?_
   have J : (l).length = (l).length := by first | (simp only [List.length_append, List.length_take, List.length_replicate, List.length_set, List.length_map]; done) | (simp only [List.length_append, List.length_take, List.length_replicate, List.length_set, List.length_map]; omega)
   rw [J] at j ⊢
   exact ⟨l, p, ⟨_, _, I, (Rd.chP hcr p hcn), hcl, (by omega), hcn⟩, ⟨_, _, rfl, j, (by rw [← J]; exact Q), ⟨trivial, trivial⟩⟩, (by omega)⟩
  have ao := dT m
  refine ct m ?_
  refine wc_skip <| wq_then <| wc_seq <| wc_block <| wc_region ?_
  refine mw (vs f (l).length i) ?_
  refine mw (vp g 0) ?_
  refine cl wN (csl1Byte G g ca cc cb ⟨_, _, I, (Rd.chP hcr p hcn), hcl, (by omega), hcn⟩) ?_
  rintro _ ap ⟨d, q, ⟨aq, au, R, av, ax, ay, az⟩, rfl, a0⟩
  have S := ChG.ext p q (fun k hk => .inl hk)
  refine wl_conv8 (d) wN rfl rfl (by kernel_rfl) ?_
  refine ltB ([(by8 (d))] : List UInt8) wN slTy_22 ?_
  intro a1 a2 a3 o T
  have V := ChG.extk S o
  have W := (own_kp (own_ch j q (ne1 j (hgl))) o)
  refine wl_append (v := (vs f (l).length i)) wN rfl rfl rfl slTy_22 rfl rfl W (Rd.of_own T) (all_bV _) (by first | (simp only [List.length_append, List.length_cons, List.length_nil, List.length_replicate, List.length_take, List.length_drop]; omega) | omega) (by simp only [maxLen]; first | (simp only [List.length_append, List.length_cons, List.length_nil, List.length_replicate, List.length_take, List.length_drop]; omega) | omega) (z4 A H q o) ?_
  intro X Y B Z a4
  have K : Y.ownsRow a.heap.size 5 1 X ((l ++ ([(by8 (d))] : List UInt8)) : List UInt8).length (((l ++ ([(by8 (d))] : List UInt8)) : List UInt8).map bV) := by simpa [Nat.add_assoc] using Z
  obtain ⟨r, s, rfl⟩ := own_form K
  have L := ChG.ext V B (fun k hk => .inr (nT (Nat.le_refl a.heap.size) (own_lt j k hk).1))
  have aa : (l ++ ([(by8 (d))] : List UInt8)).length ≤ 1073741824 := by first | (simp only [List.length_append, List.length_cons, List.length_nil, List.length_replicate, List.length_take, List.length_drop]; omega) | omega | assumption
  refine aw (vs r (l ++ ([(by8 (d))] : List UInt8)).length s) ?_
  refine wl_nil <| wq_blk_normal <| wq_then <| wc_region ?_
  refine mw (vi ((k : Nat) : Int)) ?_
  refine ar (((k : Nat) : Int) + 1) wN ?_
  refine aw (vi (((k : Nat) : Int) + 1)) ?_
  refine wl_nil ?_
  have M : ((l ++ ([(by8 (d))] : List UInt8)) : List UInt8) = (l ++ ([(by8 (d))] : List UInt8)) := by simp
  have ab := ((R.kp o).ch B (fun h => by have := (own_lt j _ h).1; have := nL hgl (Nat.le_refl a.heap.size); omega))
  refine wq_loopP (w0 := G) [(0, (vp g 0)), (1, (vi b)), (4, (vs none 0 0)), (5, (.slice r ((l ++ ([(by8 (d))] : List UInt8))).length s)), (6, (vi (((k + 1) : Nat) : Int)))] ?_ ?_ ?_
  · exact ⟨rfl, rfl, rfl, (cA (fun l : List UInt8 => Value.slice r l.length s) M), (cA (Value.int .i64) (show ((((k : Nat) : Int) + 1) : Int) = (((k + 1) : Nat) : Int) by omega)), trivial⟩
  · exact fun u => ⟨(k + 1), (l ++ ([(by8 (d))] : List UInt8)), u, r, s, rfl, L, (ChO.ext (ChO.extk (ChO.ext (ChO.ext (Ch.refl (fun k => k = g ∨ a.heap.size ≤ k) y) H (fun k hk => hk.elim .inl (fun hk => .inr (hk)))) q (fun k hk => .inl hk)) o) B (fun k hk => .inr (nT (Nat.le_refl a.heap.size) (own_lt j k hk).1))), (by first | omega | (simp only [List.length_append, List.length_cons, List.length_nil]; omega)), (by omega), (M ▸ ⟨K, aa⟩), ⟨_, _, ab, (Rd.chP hcr L hcn), hcl, (by omega), hcn⟩⟩
  · show (b - (((k + 1) : Nat) : Int)).toNat < (b - ((k : Nat) : Int)).toNat; omega

theorem csl1Once (a : World) (g : Nat) (ca : Option Addr) (cc : Nat) (cb : List UInt8) (h : CurX a g 74 ca cc cb) (b : Int)  : Fn Try.prog 43 #[(vp g 0), (vi b)] a (fun v e => ∃ x : (Bool), Ch (fun k => k = g) a e ∧ CurX e g 74 ca cc cb ∧ O_4 e a.heap.size v x ∧ (True)) := by
 obtain ⟨ci, chh, hcb, hcr, hcl, hci, hcn⟩ := h
 have hgl := Blk.lt hcb
 refine fn_ofS (n := 9) [(vp g 0), (vi b)] Try.func43 rfl rfl ?_
 refine sr ?_
 refine aw (vb false) ?_
 refine nx ?_
 refine mw (vp g 0) ?_
 refine mw (vi b) ?_
 refine cl wN (csl1Below a g ca cc cb ⟨_, _, hcb, hcr, hcl, (by omega), hcn⟩ b) ?_
 rintro _ l ⟨d, i, ⟨m, o, j, p, q, r, s⟩, rfl, t⟩
 have f := ChG.ext (Ch.refl (fun k => k = g) a) i (fun k hk => .inl hk)
 refine pu (vb (decide ((d) = 0))) wN ?_
 refine aw (vb (decide ((d) = 0))) ?_
 refine n3 ?_
 refine rt (vb (decide ((d) = 0))) ?_
 exact ⟨decide ((d) = 0), f, ⟨_, _, j, (Rd.chP hcr f hcn), hcl, (by omega), hcn⟩, rfl, trivial⟩

theorem csl6Draw (f : World) (g : Nat) (ca : Option Addr) (cc : Nat) (cb : List UInt8) (J : CurX f g 74 ca cc cb)  : Fn Try.prog 76 #[(vp g 0)] f (fun v j => ∃ x : (PAddr), Ch (fun k => k = g) f j ∧ CurX j g 74 ca cc cb ∧ O_29 j f.heap.size v x ∧ (True)) := by
 obtain ⟨ci, chh, hcb, hcr, hcl, hci, hcn⟩ := J
 have hgl := Blk.lt hcb
 refine fn_ofS (n := 17) [(vp g 0)] Try.func76 rfl rfl ?_
 refine sr ?_
 refine al [(vi 0), (vi 0)] wN zero_29 ?_
 intro ac K a ad q r
 have s := ChG.extk (Ch.refl (fun k => k = g) f) q
 refine n4 ?_
 refine mw (vp g 0) ?_
 have L := (hcb.kp q)
 refine cl wN (csl1Once K g ca cc cb ⟨_, _, L, (Rd.chP hcr s hcn), hcl, (by omega), hcn⟩ 3) ?_
 rintro _ t ⟨M, l, ⟨ae, af, u, ah, ai, aj, ak⟩, rfl, am⟩
 have i := ChG.ext s l (fun k hk => .inl hk)
 refine n2 ?_
 rcases bf M with m | m
 ·refine cf m ?_
  refine y1 ?_
  refine mw (vp g 0) ?_
  refine cl wN (csl1Below t g ca cc cb ⟨_, _, u, (Rd.chP hcr i hcn), hcl, (by omega), hcn⟩ 6) ?_
  rintro _ o ⟨b, w, ⟨an, ao, N, ap, aq, au, av⟩, rfl, ax⟩
  have O := ChG.ext i w (fun k hk => .inl hk)
  refine cl wN (csNear o (b)) ?_
  rintro _ y ⟨p, rfl⟩
  have P := ChG.extk O p
  have Q := (((r.ch l (Ne.symm (nN (nL hgl (a))))).ch w (Ne.symm (nN (nL hgl (a))))).kp p)
  refine st (va (L_29 (s_Near (b)))) (L_29 (s_Near (b))) (L_29 (s_Near (b))) wN sizeOf_29 Q ?_
  intro R A S ay
  have B := ChG.ext P A (fun k hk => .inr (by subst hk; exact a))
  refine n3 ?_
  refine ret_1 (.inl rfl) (va (L_29 (s_Near (b)))) rfl (rv_c (L_29 (s_Near (b))) rfl S isAgg_29 sizeOf_29) ?_
  have T := ((N.kp p).ch A (nN (nL hgl (a))))
  exact ⟨(s_Near (b)), B, ⟨_, _, T, (Rd.chP hcr B hcn), hcl, (by omega), hcn⟩, rfl, trivial⟩
 refine ct m ?_
 refine sr ?_
 refine mw (vp g 0) ?_
 refine cl wN (csl1Below t g ca cc cb ⟨_, _, u, (Rd.chP hcr i hcn), hcl, (by omega), hcn⟩ 16777216) ?_
 rintro _ o ⟨d, C, ⟨az, a0, V, a1, a2, a3, a4⟩, rfl, a5⟩
 have D := ChG.ext i C (fun k hk => .inl hk)
 refine ar ((d) * 256) wN ?_
 refine mw (vp g 0) ?_
 refine cl wN (csl1Byte o g ca cc cb ⟨_, _, V, (Rd.chP hcr D hcn), hcl, (by omega), hcn⟩) ?_
 rintro _ y ⟨e, E, ⟨a6, a7, W, a8, a9, aA, aB⟩, rfl, aC⟩
 have F := ChG.ext D E (fun k hk => .inl hk)
 refine ar (((d) * 256) + (e)) wN ?_
 refine mw (vp g 0) ?_
 refine cl wN (csl1Below y g ca cc cb ⟨_, _, W, (Rd.chP hcr F hcn), hcl, (by omega), hcn⟩ 65536) ?_
 rintro _ R ⟨h, G, ⟨aD, aE, X, aF, aG, aH, aI⟩, rfl, aJ⟩
 have Y := ChG.ext F G (fun k hk => .inl hk)
 refine pu (va [(vi (((d) * 256) + (e))), (vi (h))]) wN ?_
 have Z := ((((r.ch l (Ne.symm (nN (nL hgl (a))))).ch C (Ne.symm (nN (nL hgl (a))))).ch E (Ne.symm (nN (nL hgl (a))))).ch G (Ne.symm (nN (nL hgl (a)))))
 refine sv [(vi (((d) * 256) + (e))), (vi (h))] wN sizeOf_29 Z ?_
 intro aK H aa aL
 have I := ChG.ext Y H (fun k hk => .inr (by subst hk; exact a))
 refine n1 ?_
 refine ret_1 (.inl rfl) (va [(vi (((d) * 256) + (e))), (vi (h))]) rfl (rv_c [(vi (((d) * 256) + (e))), (vi (h))] rfl aa isAgg_29 sizeOf_29) ?_
 have ab := (X.ch H (nN (nL hgl (a))))
 exact ⟨{ Host := (((d) * 256) + (e)), Port := (h) : PAddr }, I, ⟨_, _, ab, (Rd.chP hcr I hcn), hcl, (by omega), hcn⟩, rfl, trivial⟩

def R_67 (w : World) (v : Value) (x : (List Int)) : Prop := ∃ (a : Option Addr) (b : Nat), v = .slice a x.length b ∧ Rd w 1 (.slice a x.length b) x.length (x.map iV) ∧ x.length ≤ 1073741824
theorem csl1Odd (b : World) (g : Nat) (ca : Option Addr) (cc : Nat) (cb : List UInt8) (j : CurX b g 74 ca cc cb)  : Fn Try.prog 77 #[(vp g 0)] b (fun v d => ∃ x : (Int), Ch (fun k => k = g) b d ∧ CurX d g 74 ca cc cb ∧ O_3 d b.heap.size v x ∧ (True)) := by
 obtain ⟨ci, chh, hcb, hcr, hcl, hci, hcn⟩ := j
 have hgl := Blk.lt hcb
 refine fn_ofS (n := 6) [(vp g 0)] Try.func77 rfl rfl ?_
 refine sr ?_
 refine aw (vi 0) ?_
 refine nx ?_
 refine mw (vp g 0) ?_
 refine ltI ([(-1), 0, 1, 2, 255, 256, 65535, 2147483647, 2147483648, 4294967295, 4294967296, (-2147483648), 9223372036854775807, (-9223372036854775808)] : List Int) wN slTy_67 ?_
 intro r s l e f
 have h := ChG.extk (Ch.refl (fun k => k = g) b) e
 have m := (hcb.kp e)
 refine cl wN (csl1Int l g ca cc cb ⟨_, _, m, (Rd.chP hcr h hcn), hcl, (by omega), hcn⟩ _ ([(-1), 0, 1, 2, 255, 256, 65535, 2147483647, 2147483648, 4294967295, 4294967296, (-2147483648), 9223372036854775807, (-9223372036854775808)] : List Int) ⟨_, _, rfl, (Rd.of_own f), (by simp), (fun _ z hz => by have t := (own_lt f z.block (by rw [hz]; rfl)).1; have u := nL hgl (Nat.le_refl b.heap.size); omega)⟩ (by simp)) ?_
 rintro _ w ⟨a, o, ⟨y, A, p, B, C, D, E⟩, rfl, q⟩
 have i := ChG.ext h o (fun k hk => .inl hk)
 have q10m : a = (-1) ∨ a = 0 ∨ a = 1 ∨ a = 2 ∨ a = 255 ∨ a = 256 ∨ a = 65535 ∨ a = 2147483647 ∨ a = 2147483648 ∨ a = 4294967295 ∨ a = 4294967296 ∨ a = (-2147483648) ∨ a = 9223372036854775807 ∨ a = (-9223372036854775808) := by simpa only [List.mem_cons, List.not_mem_nil, or_false] using q
 refine aw (vi (a)) ?_
 refine n3 ?_
 refine rt (vi (a)) ?_
 exact ⟨(a), i, ⟨_, _, p, (Rd.chP hcr i hcn), hcl, (by omega), hcn⟩, rfl, trivial⟩

theorem csl6Any (p : World) (g : Nat) (ca : Option Addr) (cc : Nat) (cb : List UInt8) (S : CurX p g 74 ca cc cb)  : Fn Try.prog 61 #[(vp g 0)] p (fun v w => ∃ x : (PAddr), Ch (fun k => k = g) p w ∧ CurX w g 74 ca cc cb ∧ O_29 w p.heap.size v x ∧ (True)) := by
 obtain ⟨ci, chh, hcb, hcr, hcl, hci, hcn⟩ := S
 have hgl := Blk.lt hcb
 refine fn_ofS (n := 20) [(vp g 0)] Try.func61 rfl rfl ?_
 refine sr ?_
 refine al [(vi 0), (vi 0)] wN zero_29 ?_
 intro a7 T e q f y
 have H := ChG.extk (Ch.refl (fun k => k = g) p) f
 refine nx ?_
 refine mw (vp g 0) ?_
 have V := (hcb.kp f)
 refine cl wN (csl6Draw T g ca cc cb ⟨_, _, V, (Rd.chP hcr H hcn), hcl, (by omega), hcn⟩) ?_
 rintro _ a8 ⟨a, b, ⟨a9, aA, W, aB, aC, aD, aE⟩, rfl, aF⟩
 have X := ChG.ext H b (fun k hk => .inl hk)
 refine al [(vi 0), (vi 0)] wN zero_29 ?_
 intro I aG d aH l Y
 have Z := ChG.extk X l
 refine st (va (L_29 (a))) (L_29 (a)) (L_29 (a)) wN sizeOf_29 Y ?_
 intro aa m A aI
 have J := ChG.ext Z m (fun k hk => .inr (by subst hk; exact nT (z2 f b) d))
 refine n4 ?_
 refine mw (vp g 0) ?_
 have ab := ((W.kp l).ch m (nN (nL hgl (nT (z2 f b) d))))
 refine cl wN (csl1Below aa g ca cc cb ⟨_, _, ab, (Rd.chP hcr J hcn), hcl, (by omega), hcn⟩ 10) ?_
 rintro _ ac ⟨o, i, ⟨aJ, aK, B, aL, aM, aN, aO⟩, rfl, aP⟩
 have t := ChG.ext J i (fun k hk => .inl hk)
 refine wl_nil <| wq_then <| wc_block <| sr ?_
 refine pu (vb (decide ((o) = 0))) wN ?_
 refine aw (vb (decide ((o) = 0))) ?_
 refine n2 ?_
 rcases bt (decide ((o) = 0)) with r | r
 ·have aQ := dT r
  refine ct r ?_
  refine wc_region ?_
  refine mw (vp g 0) ?_
  refine cl wN (csl1Odd ac g ca cc cb ⟨_, _, B, (Rd.chP hcr t hcn), hcl, (by omega), hcn⟩) ?_
  rintro _ C ⟨j, D, ⟨aR, aS, ad, aT, aU, aV, aW⟩, rfl, aX⟩
  have ae := ChG.ext t D (fun k hk => .inl hk)
  refine pu (vp I 0) wN ?_
  have af := ((A.ch i (Ne.symm (nN (nL hgl (nT (z2 f b) d))))).ch D (Ne.symm (nN (nL hgl (nT (z2 f b) d)))))
  refine st (vi (j)) [(vi (j))] [(vi (j)), (vi ((a).Port))] wN sizeOf_3 af ?_
  intro ah E ai aY
  have aj := ChG.ext ae E (fun k hk => .inr (by subst hk; exact nT (z2 f b) d))
  refine wl_nil <| wq_blk_normal <| wq_then <| sr ?_
  refine lN [(vi (j)), (vi ((a).Port))] wN isAgg_29 sizeOf_29 ai ?_
  have ak := ((((((y.ch b (Ne.symm (nN (nL hgl (e))))).kp l).ch m (nN (nL q (nT b.size d)))).ch i (Ne.symm (nN (nL hgl (e))))).ch D (Ne.symm (nN (nL hgl (e))))).ch E (nN (nL q (nT b.size d))))
  refine sv [(vi (j)), (vi ((a).Port))] wN sizeOf_29 ak ?_
  intro am K an aZ
  have L := ChG.ext aj K (fun k hk => .inr (by subst hk; exact e))
  refine n3 ?_
  refine ret_1 (.inl rfl) (va [(vi (j)), (vi ((a).Port))]) rfl (rv_c [(vi (j)), (vi ((a).Port))] rfl an isAgg_29 sizeOf_29) ?_
  have ao := ((ad.ch E (nN (nL hgl (nT (z2 f b) d)))).ch K (nN (nL hgl (e))))
  exact ⟨{ Host := (j), Port := (a).Port : PAddr }, L, ⟨_, _, ao, (Rd.chP hcr L hcn), hcl, (by omega), hcn⟩, rfl, trivial⟩
 have ba := dF r
 refine cf r ?_
 refine sr ?_
 refine pu (vb (decide ((o) = 1))) wN ?_
 refine aw (vb (decide ((o) = 1))) ?_
 refine n2 ?_
 rcases bf (decide ((o) = 1)) with s | s
 ·have bb := dF s
  refine cf s ?_
  refine wc_skip <| wq_blk_normal <| wq_then <| sr ?_
  have ap := (A.ch i (Ne.symm (nN (nL hgl (nT (z2 f b) d)))))
  refine lN (L_29 (a)) wN isAgg_29 sizeOf_29 ap ?_
  have aq := ((((y.ch b (Ne.symm (nN (nL hgl (e))))).kp l).ch m (nN (nL q (nT b.size d)))).ch i (Ne.symm (nN (nL hgl (e)))))
  refine st (va (L_29 (a))) (L_29 (a)) (L_29 (a)) wN sizeOf_29 aq ?_
  intro C M au bc
  have N := ChG.ext t M (fun k hk => .inr (by subst hk; exact e))
  refine n3 ?_
  refine ret_1 (.inl rfl) (va (L_29 (a))) rfl (rv_c (L_29 (a)) rfl au isAgg_29 sizeOf_29) ?_
  have av := (B.ch M (nN (nL hgl (e))))
  exact ⟨(a), N, ⟨_, _, av, (Rd.chP hcr N hcn), hcl, (by omega), hcn⟩, rfl, trivial⟩
 have bd := dT s
 refine ct s ?_
 refine wc_region ?_
 refine mw (vp g 0) ?_
 refine ltI ([(-1), 65535, 65536, 0] : List Int) wN slTy_67 ?_
 intro be bg C u O
 have P := ChG.extk t u
 have ax := (B.kp u)
 refine cl wN (csl1Int C g ca cc cb ⟨_, _, ax, (Rd.chP hcr P hcn), hcl, (by omega), hcn⟩ _ ([(-1), 65535, 65536, 0] : List Int) ⟨_, _, rfl, (Rd.of_own O), (by simp), (fun _ z hz => by have bh := (own_lt O z.block (by rw [hz]; rfl)).1; have bi := nL hgl (z5 f b l m i); omega)⟩ (by simp)) ?_
 rintro _ ah ⟨h, F, ⟨bj, bk, ay, bl, bm, bn, bo⟩, rfl, az⟩
 have a0 := ChG.ext P F (fun k hk => .inl hk)
 have q77m : h = (-1) ∨ h = 65535 ∨ h = 65536 ∨ h = 0 := by simpa only [List.mem_cons, List.not_mem_nil, or_false] using az
 refine pu (vp I 1) wN ?_
 have a1 := (((A.ch i (Ne.symm (nN (nL hgl (nT (z2 f b) d))))).kp u).ch F (Ne.symm (nN (nL hgl (nT (z2 f b) d)))))
 refine st (vi (h)) [(vi (h))] [(vi ((a).Host)), (vi (h))] wN sizeOf_3 a1 ?_
 intro am G a2 bp
 have a3 := ChG.ext a0 G (fun k hk => .inr (by subst hk; exact nT (z2 f b) d))
 refine wl_nil <| wq_blk_normal <| wq_then <| sr ?_
 refine lN [(vi ((a).Host)), (vi (h))] wN isAgg_29 sizeOf_29 a2 ?_
 have a4 := (((((((y.ch b (Ne.symm (nN (nL hgl (e))))).kp l).ch m (nN (nL q (nT b.size d)))).ch i (Ne.symm (nN (nL hgl (e))))).kp u).ch F (Ne.symm (nN (nL hgl (e))))).ch G (nN (nL q (nT b.size d))))
 refine sv [(vi ((a).Host)), (vi (h))] wN sizeOf_29 a4 ?_
 intro bq Q a5 br
 have R := ChG.ext a3 Q (fun k hk => .inr (by subst hk; exact e))
 refine n3 ?_
 refine ret_1 (.inl rfl) (va [(vi ((a).Host)), (vi (h))]) rfl (rv_c [(vi ((a).Host)), (vi (h))] rfl a5 isAgg_29 sizeOf_29) ?_
 have a6 := ((ay.ch G (nN (nL hgl (nT (z2 f b) d)))).ch Q (nN (nL hgl (e))))
 exact ⟨{ Host := (a).Host, Port := (h) : PAddr }, R, ⟨_, _, a6, (Rd.chP hcr R hcn), hcl, (by omega), hcn⟩, rfl, trivial⟩

abbrev L_31 (x : PNote) (a : Option Addr) (b : Nat) (d : Option Addr) (e : Nat) (f : Option Addr) (g : Nat) (h : Option Addr) (i : Nat) : List Value := [vi x.Kind, vi x.Id, vi x.Role, vs a x.Cn.length b, vs d x.Sn.length e, vi x.Epoch, vi x.Seq, vs f x.Body.length g, vs h x.Key.length i, vi x.A.Host, vi x.A.Port, vi x.Now]
theorem csl18Any (aC : World) (g : Nat) (ca : Option Addr) (cc : Nat) (cb : List UInt8) (cL : CurX aC g 74 ca cc cb)  : Fn Try.prog 31 #[(vp g 0)] aC (fun v b9 => ∃ x : (PNote), Ch (fun k => k = g) aC b9 ∧ CurX b9 g 74 ca cc cb ∧ O_31 b9 aC.heap.size v x ∧ (True)) := by
 obtain ⟨ci, chh, hcb, hcr, hcl, hci, hcn⟩ := cL
 have hgl := Blk.lt hcb
 refine fn_ofS (n := 82) [(vp g 0)] Try.func31 rfl rfl ?_
 refine sr ?_
 refine al Z_31 wN zero_31 ?_
 intro fN F h B b P
 have bZ := ChG.extk (Ch.refl (fun k => k = g) aC) b
 refine nx ?_
 refine mw (vp g 0) ?_
 have cM := (hcb.kp b)
 refine cl wN (csl18Draw F g ca cc cb ⟨_, _, cM, (Rd.chP hcr bZ hcn), hcl, (by omega), hcn⟩) ?_
 rintro _ K ⟨a, d, ⟨fO, fP, cN, fQ, fR, fS, fT⟩, ⟨l, m, p, q, r, s, t, u, rfl, G, T, H, V, I, W, J, X, j⟩, fU⟩
 have cO := ChG.ext bZ d (fun k hk => .inl hk)
 refine al Z_31 wN zero_31 ?_
 intro Y fV e aY y cP
 have cQ := ChG.extk cO y
 refine sv (L_31 (a) l m p q r s t u) wN sizeOf_31 cP ?_
 intro cR w Q fW
 have cd := ChG.ext cQ w (fun k hk => .inr (by subst hk; exact nT (z2 b d) e))
 refine n4 ?_
 refine mw (vp g 0) ?_
 have cS := ((cN.kp y).ch w (nN (nL hgl (nT (z2 b d) e))))
 refine cl wN (csl1Below cR g ca cc cb ⟨_, _, cS, (Rd.chP hcr cd hcn), hcl, (by omega), hcn⟩ 20) ?_
 rintro _ cT ⟨D, i, ⟨fX, fY, R, fZ, ga, gb, gd⟩, rfl, ge⟩
 have N := ChG.ext cd i (fun k hk => .inl hk)
 refine wl_nil <| wq_then <| wc_block <| sr ?_
 refine pu (vb (decide ((D) = 0))) wN ?_
 refine aw (vb (decide ((D) = 0))) ?_
 refine n2 ?_
 rcases bt (decide ((D) = 0)) with aD | aD
 ·have gf := dT aD
  refine ct aD ?_
  refine wc_region ?_
  refine mw (vp g 0) ?_
  refine ltI ([(-1), 0, 17, 18] : List Int) wN slTy_67 ?_
  intro gg gh L aE ce
  have cg := ChG.extk N aE
  have cU := (R.kp aE)
  refine cl wN (csl1Int L g ca cc cb ⟨_, _, cU, (Rd.chP hcr cg hcn), hcl, (by omega), hcn⟩ _ ([(-1), 0, 17, 18] : List Int) ⟨_, _, rfl, (Rd.of_own ce), (by simp), (fun _ z hz => by have af := (own_lt ce z.block (by rw [hz]; rfl)).1; have ah := nL hgl (z5 b d y w i); omega)⟩ (by simp)) ?_
  rintro _ M ⟨S, aZ, ⟨gi, gj, cV, gk, gl, gm, gn⟩, rfl, cW⟩
  have cX := ChG.ext cg aZ (fun k hk => .inl hk)
  have q73m : S = (-1) ∨ S = 0 ∨ S = 17 ∨ S = 18 := by simpa only [List.mem_cons, List.not_mem_nil, or_false] using cW
  refine pu (vp Y 0) wN ?_
  have cY := (((Q.ch i (Ne.symm (nN (nL hgl (nT (z2 b d) e))))).kp aE).ch aZ (Ne.symm (nN (nL hgl (nT (z2 b d) e)))))
  refine st (vi (S)) [(vi (S))] [(vi (S)), (vi ((a).Id)), (vi ((a).Role)), (vs l ((a).Cn).length m), (vs p ((a).Sn).length q), (vi ((a).Epoch)), (vi ((a).Seq)), (vs r ((a).Body).length s), (vs t ((a).Key).length u), (vi (((a).A).Host)), (vi (((a).A).Port)), (vi ((a).Now))] wN sizeOf_3 cY ?_
  intro Z ba cZ gp
  have da := ChG.ext cX ba (fun k hk => .inr (by subst hk; exact nT (z2 b d) e))
  refine wl_nil <| wq_blk_normal <| wq_then <| sr ?_
  refine lN [(vi (S)), (vi ((a).Id)), (vi ((a).Role)), (vs l ((a).Cn).length m), (vs p ((a).Sn).length q), (vi ((a).Epoch)), (vi ((a).Seq)), (vs r ((a).Body).length s), (vs t ((a).Key).length u), (vi (((a).A).Host)), (vi (((a).A).Port)), (vi ((a).Now))] wN isAgg_31 sizeOf_31 cZ ?_
  have db := (((((((P.ch d (Ne.symm (nN (nL hgl (h))))).kp y).ch w (nN (nL B (nT d.size e)))).ch i (Ne.symm (nN (nL hgl (h))))).kp aE).ch aZ (Ne.symm (nN (nL hgl (h))))).ch ba (nN (nL B (nT d.size e))))
  refine sv [(vi (S)), (vi ((a).Id)), (vi ((a).Role)), (vs l ((a).Cn).length m), (vs p ((a).Sn).length q), (vi ((a).Epoch)), (vi ((a).Seq)), (vs r ((a).Body).length s), (vs t ((a).Key).length u), (vi (((a).A).Host)), (vi (((a).A).Port)), (vi ((a).Now))] wN sizeOf_31 db ?_
  intro ai bA dc gq
  have cj := ChG.ext da bA (fun k hk => .inr (by subst hk; exact h))
  refine n3 ?_
  have bb := fun (E sz n : Nat) (v : Value) (C : List Value) (o : World.ownsRow K F.heap.size E sz v n C) (f : World.ownsRow K F.heap.size E sz v n C) => (own_ch (own_ch (own_ch (own_kp (own_ch (own_ch (own_kp o y) w (ne2 f (e))) i (ne1 f (nL hgl b.size))) aE) aZ (ne1 f (nL hgl b.size))) ba (ne2 f (e))) bA (ne1 f (B)))
  have dd := (bb _ _ _ _ _ G G)
  have de := (bb _ _ _ _ _ H H)
  have df := (bb _ _ _ _ _ I I)
  have dg := (bb _ _ _ _ _ J J)
  refine ret_1 (.inl rfl) (va [(vi (S)), (vi ((a).Id)), (vi ((a).Role)), (vs l ((a).Cn).length m), (vs p ((a).Sn).length q), (vi ((a).Epoch)), (vi ((a).Seq)), (vs r ((a).Body).length s), (vs t ((a).Key).length u), (vi (((a).A).Host)), (vi (((a).A).Port)), (vi ((a).Now))]) rfl (rv_c [(vi (S)), (vi ((a).Id)), (vi ((a).Role)), (vs l ((a).Cn).length m), (vs p ((a).Sn).length q), (vi ((a).Epoch)), (vi ((a).Seq)), (vs r ((a).Body).length s), (vs t ((a).Key).length u), (vi (((a).A).Host)), (vi (((a).A).Port)), (vi ((a).Now))] rfl dc isAgg_31 sizeOf_31) ?_
  have dh := ((cV.ch ba (nN (nL hgl (nT (z2 b d) e)))).ch bA (nN (nL hgl (h))))
  exact ⟨{ Kind := (S), Id := (a).Id, Role := (a).Role, Cn := (a).Cn, Sn := (a).Sn, Epoch := (a).Epoch, Seq := (a).Seq, Body := (a).Body, Key := (a).Key, A := ((a).A), Now := (a).Now : PNote }, cj, ⟨_, _, dh, (Rd.chP hcr cj hcn), hcl, (by omega), hcn⟩, ⟨_, _, _, _, _, _, _, _, rfl, (own_lo dd b.size), T, (own_lo de b.size), V, (own_lo df b.size), W, (own_lo dg b.size), X, ⟨⟨(j.1.1), ⟨(j.1.2.1), ⟨(j.1.2.2.1), trivial⟩⟩⟩, ⟨⟨(j.2.1.1), ⟨(j.2.1.2.1), trivial⟩⟩, ⟨⟨(j.2.2.1.1), trivial⟩, ⟨trivial, trivial⟩⟩⟩⟩⟩, trivial⟩
 have gr := dF aD
 refine cf aD ?_
 refine sr ?_
 refine pu (vb (decide ((D) = 1))) wN ?_
 refine aw (vb (decide ((D) = 1))) ?_
 refine n2 ?_
 rcases bt (decide ((D) = 1)) with aF | aF
 ·have gs := dT aF
  refine ct aF ?_
  refine wc_region ?_
  refine mw (vp g 0) ?_
  refine ltI ([(-1), 10] : List Int) wN slTy_67 ?_
  intro gt gu L aG ck
  have cm := ChG.extk N aG
  have di := (R.kp aG)
  refine cl wN (csl1Int L g ca cc cb ⟨_, _, di, (Rd.chP hcr cm hcn), hcl, (by omega), hcn⟩ _ ([(-1), 10] : List Int) ⟨_, _, rfl, (Rd.of_own ck), (by simp), (fun _ z hz => by have af := (own_lt ck z.block (by rw [hz]; rfl)).1; have ah := nL hgl (z5 b d y w i); omega)⟩ (by simp)) ?_
  rintro _ M ⟨aa, bc, ⟨gv, gw, dj, gx, gy, gz, g0⟩, rfl, dk⟩
  have dl := ChG.ext cm bc (fun k hk => .inl hk)
  have q110m : aa = (-1) ∨ aa = 10 := by simpa only [List.mem_cons, List.not_mem_nil, or_false] using dk
  refine pu (vp Y 1) wN ?_
  have dm := (((Q.ch i (Ne.symm (nN (nL hgl (nT (z2 b d) e))))).kp aG).ch bc (Ne.symm (nN (nL hgl (nT (z2 b d) e)))))
  refine st (vi (aa)) [(vi (aa))] [(vi ((a).Kind)), (vi (aa)), (vi ((a).Role)), (vs l ((a).Cn).length m), (vs p ((a).Sn).length q), (vi ((a).Epoch)), (vi ((a).Seq)), (vs r ((a).Body).length s), (vs t ((a).Key).length u), (vi (((a).A).Host)), (vi (((a).A).Port)), (vi ((a).Now))] wN sizeOf_3 dm ?_
  intro Z bd dn g1
  have dp := ChG.ext dl bd (fun k hk => .inr (by subst hk; exact nT (z2 b d) e))
  refine wl_nil <| wq_blk_normal <| wq_then <| sr ?_
  refine lN [(vi ((a).Kind)), (vi (aa)), (vi ((a).Role)), (vs l ((a).Cn).length m), (vs p ((a).Sn).length q), (vi ((a).Epoch)), (vi ((a).Seq)), (vs r ((a).Body).length s), (vs t ((a).Key).length u), (vi (((a).A).Host)), (vi (((a).A).Port)), (vi ((a).Now))] wN isAgg_31 sizeOf_31 dn ?_
  have dq := (((((((P.ch d (Ne.symm (nN (nL hgl (h))))).kp y).ch w (nN (nL B (nT d.size e)))).ch i (Ne.symm (nN (nL hgl (h))))).kp aG).ch bc (Ne.symm (nN (nL hgl (h))))).ch bd (nN (nL B (nT d.size e))))
  refine sv [(vi ((a).Kind)), (vi (aa)), (vi ((a).Role)), (vs l ((a).Cn).length m), (vs p ((a).Sn).length q), (vi ((a).Epoch)), (vi ((a).Seq)), (vs r ((a).Body).length s), (vs t ((a).Key).length u), (vi (((a).A).Host)), (vi (((a).A).Port)), (vi ((a).Now))] wN sizeOf_31 dq ?_
  intro ai bB dr g2
  have cn := ChG.ext dp bB (fun k hk => .inr (by subst hk; exact h))
  refine n3 ?_
  have be := fun (E sz n : Nat) (v : Value) (C : List Value) (o : World.ownsRow K F.heap.size E sz v n C) (f : World.ownsRow K F.heap.size E sz v n C) => (own_ch (own_ch (own_ch (own_kp (own_ch (own_ch (own_kp o y) w (ne2 f (e))) i (ne1 f (nL hgl b.size))) aG) bc (ne1 f (nL hgl b.size))) bd (ne2 f (e))) bB (ne1 f (B)))
  have ds := (be _ _ _ _ _ G G)
  have dt := (be _ _ _ _ _ H H)
  have du := (be _ _ _ _ _ I I)
  have dv := (be _ _ _ _ _ J J)
  refine ret_1 (.inl rfl) (va [(vi ((a).Kind)), (vi (aa)), (vi ((a).Role)), (vs l ((a).Cn).length m), (vs p ((a).Sn).length q), (vi ((a).Epoch)), (vi ((a).Seq)), (vs r ((a).Body).length s), (vs t ((a).Key).length u), (vi (((a).A).Host)), (vi (((a).A).Port)), (vi ((a).Now))]) rfl (rv_c [(vi ((a).Kind)), (vi (aa)), (vi ((a).Role)), (vs l ((a).Cn).length m), (vs p ((a).Sn).length q), (vi ((a).Epoch)), (vi ((a).Seq)), (vs r ((a).Body).length s), (vs t ((a).Key).length u), (vi (((a).A).Host)), (vi (((a).A).Port)), (vi ((a).Now))] rfl dr isAgg_31 sizeOf_31) ?_
  have dw := ((dj.ch bd (nN (nL hgl (nT (z2 b d) e)))).ch bB (nN (nL hgl (h))))
  exact ⟨{ Kind := (a).Kind, Id := (aa), Role := (a).Role, Cn := (a).Cn, Sn := (a).Sn, Epoch := (a).Epoch, Seq := (a).Seq, Body := (a).Body, Key := (a).Key, A := ((a).A), Now := (a).Now : PNote }, cn, ⟨_, _, dw, (Rd.chP hcr cn hcn), hcl, (by omega), hcn⟩, ⟨_, _, _, _, _, _, _, _, rfl, (own_lo ds b.size), T, (own_lo dt b.size), V, (own_lo du b.size), W, (own_lo dv b.size), X, ⟨⟨(j.1.1), ⟨(j.1.2.1), ⟨(j.1.2.2.1), trivial⟩⟩⟩, ⟨⟨(j.2.1.1), ⟨(j.2.1.2.1), trivial⟩⟩, ⟨⟨(j.2.2.1.1), trivial⟩, ⟨trivial, trivial⟩⟩⟩⟩⟩, trivial⟩
 have g3 := dF aF
 refine cf aF ?_
 refine sr ?_
 refine pu (vb (decide ((D) = 2))) wN ?_
 refine aw (vb (decide ((D) = 2))) ?_
 refine n2 ?_
 rcases bt (decide ((D) = 2)) with aH | aH
 ·have g4 := dT aH
  refine ct aH ?_
  refine wc_region ?_
  refine mw (vp g 0) ?_
  refine ltI ([(-1), 2] : List Int) wN slTy_67 ?_
  intro g5 g6 L aI co
  have cp := ChG.extk N aI
  have dx := (R.kp aI)
  refine cl wN (csl1Int L g ca cc cb ⟨_, _, dx, (Rd.chP hcr cp hcn), hcl, (by omega), hcn⟩ _ ([(-1), 2] : List Int) ⟨_, _, rfl, (Rd.of_own co), (by simp), (fun _ z hz => by have af := (own_lt co z.block (by rw [hz]; rfl)).1; have ah := nL hgl (z5 b d y w i); omega)⟩ (by simp)) ?_
  rintro _ M ⟨ab, bg, ⟨g7, g8, dy, g9, gA, gB, gC⟩, rfl, dz⟩
  have d0 := ChG.ext cp bg (fun k hk => .inl hk)
  have q147m : ab = (-1) ∨ ab = 2 := by simpa only [List.mem_cons, List.not_mem_nil, or_false] using dz
  refine pu (vp Y 2) wN ?_
  have d1 := (((Q.ch i (Ne.symm (nN (nL hgl (nT (z2 b d) e))))).kp aI).ch bg (Ne.symm (nN (nL hgl (nT (z2 b d) e)))))
  refine st (vi (ab)) [(vi (ab))] [(vi ((a).Kind)), (vi ((a).Id)), (vi (ab)), (vs l ((a).Cn).length m), (vs p ((a).Sn).length q), (vi ((a).Epoch)), (vi ((a).Seq)), (vs r ((a).Body).length s), (vs t ((a).Key).length u), (vi (((a).A).Host)), (vi (((a).A).Port)), (vi ((a).Now))] wN sizeOf_3 d1 ?_
  intro Z bh d2 gD
  have d3 := ChG.ext d0 bh (fun k hk => .inr (by subst hk; exact nT (z2 b d) e))
  refine wl_nil <| wq_blk_normal <| wq_then <| sr ?_
  refine lN [(vi ((a).Kind)), (vi ((a).Id)), (vi (ab)), (vs l ((a).Cn).length m), (vs p ((a).Sn).length q), (vi ((a).Epoch)), (vi ((a).Seq)), (vs r ((a).Body).length s), (vs t ((a).Key).length u), (vi (((a).A).Host)), (vi (((a).A).Port)), (vi ((a).Now))] wN isAgg_31 sizeOf_31 d2 ?_
  have d4 := (((((((P.ch d (Ne.symm (nN (nL hgl (h))))).kp y).ch w (nN (nL B (nT d.size e)))).ch i (Ne.symm (nN (nL hgl (h))))).kp aI).ch bg (Ne.symm (nN (nL hgl (h))))).ch bh (nN (nL B (nT d.size e))))
  refine sv [(vi ((a).Kind)), (vi ((a).Id)), (vi (ab)), (vs l ((a).Cn).length m), (vs p ((a).Sn).length q), (vi ((a).Epoch)), (vi ((a).Seq)), (vs r ((a).Body).length s), (vs t ((a).Key).length u), (vi (((a).A).Host)), (vi (((a).A).Port)), (vi ((a).Now))] wN sizeOf_31 d4 ?_
  intro ai bC d5 gE
  have cq := ChG.ext d3 bC (fun k hk => .inr (by subst hk; exact h))
  refine n3 ?_
  have bi := fun (E sz n : Nat) (v : Value) (C : List Value) (o : World.ownsRow K F.heap.size E sz v n C) (f : World.ownsRow K F.heap.size E sz v n C) => (own_ch (own_ch (own_ch (own_kp (own_ch (own_ch (own_kp o y) w (ne2 f (e))) i (ne1 f (nL hgl b.size))) aI) bg (ne1 f (nL hgl b.size))) bh (ne2 f (e))) bC (ne1 f (B)))
  have d6 := (bi _ _ _ _ _ G G)
  have d7 := (bi _ _ _ _ _ H H)
  have d8 := (bi _ _ _ _ _ I I)
  have d9 := (bi _ _ _ _ _ J J)
  refine ret_1 (.inl rfl) (va [(vi ((a).Kind)), (vi ((a).Id)), (vi (ab)), (vs l ((a).Cn).length m), (vs p ((a).Sn).length q), (vi ((a).Epoch)), (vi ((a).Seq)), (vs r ((a).Body).length s), (vs t ((a).Key).length u), (vi (((a).A).Host)), (vi (((a).A).Port)), (vi ((a).Now))]) rfl (rv_c [(vi ((a).Kind)), (vi ((a).Id)), (vi (ab)), (vs l ((a).Cn).length m), (vs p ((a).Sn).length q), (vi ((a).Epoch)), (vi ((a).Seq)), (vs r ((a).Body).length s), (vs t ((a).Key).length u), (vi (((a).A).Host)), (vi (((a).A).Port)), (vi ((a).Now))] rfl d5 isAgg_31 sizeOf_31) ?_
  have dA := ((dy.ch bh (nN (nL hgl (nT (z2 b d) e)))).ch bC (nN (nL hgl (h))))
  exact ⟨{ Kind := (a).Kind, Id := (a).Id, Role := (ab), Cn := (a).Cn, Sn := (a).Sn, Epoch := (a).Epoch, Seq := (a).Seq, Body := (a).Body, Key := (a).Key, A := ((a).A), Now := (a).Now : PNote }, cq, ⟨_, _, dA, (Rd.chP hcr cq hcn), hcl, (by omega), hcn⟩, ⟨_, _, _, _, _, _, _, _, rfl, (own_lo d6 b.size), T, (own_lo d7 b.size), V, (own_lo d8 b.size), W, (own_lo d9 b.size), X, ⟨⟨(j.1.1), ⟨(j.1.2.1), ⟨(j.1.2.2.1), trivial⟩⟩⟩, ⟨⟨(j.2.1.1), ⟨(j.2.1.2.1), trivial⟩⟩, ⟨⟨(j.2.2.1.1), trivial⟩, ⟨trivial, trivial⟩⟩⟩⟩⟩, trivial⟩
 have gF := dF aH
 refine cf aH ?_
 refine sr ?_
 refine pu (vb (decide ((D) = 3))) wN ?_
 refine aw (vb (decide ((D) = 3))) ?_
 refine n2 ?_
 rcases bt (decide ((D) = 3)) with aJ | aJ
 ·have gG := dT aJ
  refine ct aJ ?_
  refine wc_region ?_
  refine mw (vp g 0) ?_
  refine mw (vp g 0) ?_
  refine ltI ([0, 11] : List Int) wN slTy_67 ?_
  intro gH gI L aj cr
  have cs := ChG.extk N aj
  have dB := (R.kp aj)
  refine cl wN (csl1Int L g ca cc cb ⟨_, _, dB, (Rd.chP hcr cs hcn), hcl, (by omega), hcn⟩ _ ([0, 11] : List Int) ⟨_, _, rfl, (Rd.of_own cr), (by simp), (fun _ z hz => by have af := (own_lt cr z.block (by rw [hz]; rfl)).1; have ah := nL hgl (z5 b d y w i); omega)⟩ (by simp)) ?_
  rintro _ M ⟨bD, ao, ⟨gJ, gK, dC, gL, gM, gN, gO⟩, rfl, dD⟩
  have cu := ChG.ext cs ao (fun k hk => .inl hk)
  have q184m : bD = 0 ∨ bD = 11 := by simpa only [List.mem_cons, List.not_mem_nil, or_false] using dD
  refine cl wN (csl1Bytes M g ca cc cb ⟨_, _, dC, (Rd.chP hcr cu hcn), hcl, (by omega), hcn⟩ (bD) (by omega)) ?_
  rintro _ Z ⟨ap, bj, ⟨gP, gQ, dE, gR, gS, gT, gU⟩, ⟨a0, a1, rfl, a8, dG, gV⟩, gW⟩
  have dH := ChG.ext cu bj (fun k hk => .inl hk)
  refine pu (vp Y 3) wN ?_
  have bE := nT (z2 b d) e
  have dI := ((((Q.ch i (Ne.symm (nN (nL hgl bE)))).kp aj).ch ao (Ne.symm (nN (nL hgl bE)))).ch bj (Ne.symm (nN (nL hgl bE))))
  refine st (vs a0 (ap).length a1) [(vs a0 (ap).length a1)] [(vi ((a).Kind)), (vi ((a).Id)), (vi ((a).Role)), (vs a0 (ap).length a1), (vs p ((a).Sn).length q), (vi ((a).Epoch)), (vi ((a).Seq)), (vs r ((a).Body).length s), (vs t ((a).Key).length u), (vi (((a).A).Host)), (vi (((a).A).Port)), (vi ((a).Now))] wN sizeOf_22 dI ?_
  intro ai aK dJ gX
  have dK := ChG.ext dH aK (fun k hk => .inr (by subst hk; exact nT (z2 b d) e))
  refine wl_nil <| wq_blk_normal <| wq_then <| sr ?_
  refine lN [(vi ((a).Kind)), (vi ((a).Id)), (vi ((a).Role)), (vs a0 (ap).length a1), (vs p ((a).Sn).length q), (vi ((a).Epoch)), (vi ((a).Seq)), (vs r ((a).Body).length s), (vs t ((a).Key).length u), (vi (((a).A).Host)), (vi (((a).A).Port)), (vi ((a).Now))] wN isAgg_31 sizeOf_31 dJ ?_
  have dL := ((((((((P.ch d (Ne.symm (nN (nL hgl (h))))).kp y).ch w (nN (nL B (nT d.size e)))).ch i (Ne.symm (nN (nL hgl (h))))).kp aj).ch ao (Ne.symm (nN (nL hgl (h))))).ch bj (Ne.symm (nN (nL hgl (h))))).ch aK (nN (nL B (nT d.size e))))
  refine sv [(vi ((a).Kind)), (vi ((a).Id)), (vi ((a).Role)), (vs a0 (ap).length a1), (vs p ((a).Sn).length q), (vi ((a).Epoch)), (vi ((a).Seq)), (vs r ((a).Body).length s), (vs t ((a).Key).length u), (vi (((a).A).Host)), (vi (((a).A).Port)), (vi ((a).Now))] wN sizeOf_31 dL ?_
  intro bF bk dM gY
  have cv := ChG.ext dK bk (fun k hk => .inr (by subst hk; exact h))
  refine n3 ?_
  have dN := (own_ch (own_ch a8 aK (ne1 a8 (nL aY (z4 w i aj ao)))) bk (ne1 a8 (nL B (z6 d y w i aj ao))))
  have bG := fun (E sz n : Nat) (v : Value) (C : List Value) (o : World.ownsRow K F.heap.size E sz v n C) (f : World.ownsRow K F.heap.size E sz v n C) => (own_ch (own_ch (own_ch (own_ch (own_kp (own_ch (own_ch (own_kp o y) w (ne2 f (e))) i (ne1 f (nL hgl b.size))) aj) ao (ne1 f (nL hgl b.size))) bj (ne1 f (nL hgl b.size))) aK (ne2 f (e))) bk (ne1 f (B)))
  have dO := (bG _ _ _ _ _ H H)
  have dP := (bG _ _ _ _ _ I I)
  have dQ := (bG _ _ _ _ _ J J)
  refine ret_1 (.inl rfl) (va [(vi ((a).Kind)), (vi ((a).Id)), (vi ((a).Role)), (vs a0 (ap).length a1), (vs p ((a).Sn).length q), (vi ((a).Epoch)), (vi ((a).Seq)), (vs r ((a).Body).length s), (vs t ((a).Key).length u), (vi (((a).A).Host)), (vi (((a).A).Port)), (vi ((a).Now))]) rfl (rv_c [(vi ((a).Kind)), (vi ((a).Id)), (vi ((a).Role)), (vs a0 (ap).length a1), (vs p ((a).Sn).length q), (vi ((a).Epoch)), (vi ((a).Seq)), (vs r ((a).Body).length s), (vs t ((a).Key).length u), (vi (((a).A).Host)), (vi (((a).A).Port)), (vi ((a).Now))] rfl dM isAgg_31 sizeOf_31) ?_
  have dR := ((dE.ch aK (nN (nL hgl (nT (z2 b d) e)))).ch bk (nN (nL hgl (h))))
  have bH := z5 y w i aj ao
  exact ⟨{ Kind := (a).Kind, Id := (a).Id, Role := (a).Role, Cn := (ap), Sn := (a).Sn, Epoch := (a).Epoch, Seq := (a).Seq, Body := (a).Body, Key := (a).Key, A := ((a).A), Now := (a).Now : PNote }, cv, ⟨_, _, dR, (Rd.chP hcr cv hcn), hcl, (by omega), hcn⟩, ⟨_, _, _, _, _, _, _, _, rfl, (own_lo dN (z7 b d y w i aj ao)), dG, (own_lo dO b.size), V, (own_lo dP b.size), W, (own_lo dQ b.size), X, ⟨⟨(Ap.lt H a8 bH).symm, ⟨(Ap.lt I a8 bH).symm, ⟨(Ap.lt J a8 bH).symm, trivial⟩⟩⟩, ⟨⟨(j.2.1.1), ⟨(j.2.1.2.1), trivial⟩⟩, ⟨⟨(j.2.2.1.1), trivial⟩, ⟨trivial, trivial⟩⟩⟩⟩⟩, trivial⟩
 have gZ := dF aJ
 refine cf aJ ?_
 refine sr ?_
 refine pu (vb (decide ((D) = 4))) wN ?_
 refine aw (vb (decide ((D) = 4))) ?_
 refine n2 ?_
 rcases bt (decide ((D) = 4)) with aL | aL
 ·have ha := dT aL
  refine ct aL ?_
  refine wc_region ?_
  refine mw (vp g 0) ?_
  refine mw (vp g 0) ?_
  refine ltI ([0, 13] : List Int) wN slTy_67 ?_
  intro hb hc L ak cw
  have cx := ChG.extk N ak
  have dS := (R.kp ak)
  refine cl wN (csl1Int L g ca cc cb ⟨_, _, dS, (Rd.chP hcr cx hcn), hcl, (by omega), hcn⟩ _ ([0, 13] : List Int) ⟨_, _, rfl, (Rd.of_own cw), (by simp), (fun _ z hz => by have af := (own_lt cw z.block (by rw [hz]; rfl)).1; have ah := nL hgl (z5 b d y w i); omega)⟩ (by simp)) ?_
  rintro _ M ⟨bI, aq, ⟨hd, he, dU, hf, hg, hh, hi⟩, rfl, dV⟩
  have cy := ChG.ext cx aq (fun k hk => .inl hk)
  have q238m : bI = 0 ∨ bI = 13 := by simpa only [List.mem_cons, List.not_mem_nil, or_false] using dV
  refine cl wN (csl1Bytes M g ca cc cb ⟨_, _, dU, (Rd.chP hcr cy hcn), hcl, (by omega), hcn⟩ (bI) (by omega)) ?_
  rintro _ Z ⟨au, bl, ⟨hj, hl, dW, hm, hn, ho, hp⟩, ⟨a2, a3, rfl, a9, dX, hq⟩, hr⟩
  have dY := ChG.ext cy bl (fun k hk => .inl hk)
  refine pu (vp Y 4) wN ?_
  have bJ := nT (z2 b d) e
  have dZ := ((((Q.ch i (Ne.symm (nN (nL hgl bJ)))).kp ak).ch aq (Ne.symm (nN (nL hgl bJ)))).ch bl (Ne.symm (nN (nL hgl bJ))))
  refine st (vs a2 (au).length a3) [(vs a2 (au).length a3)] [(vi ((a).Kind)), (vi ((a).Id)), (vi ((a).Role)), (vs l ((a).Cn).length m), (vs a2 (au).length a3), (vi ((a).Epoch)), (vi ((a).Seq)), (vs r ((a).Body).length s), (vs t ((a).Key).length u), (vi (((a).A).Host)), (vi (((a).A).Port)), (vi ((a).Now))] wN sizeOf_22 dZ ?_
  intro ai aM ea hs
  have ec := ChG.ext dY aM (fun k hk => .inr (by subst hk; exact nT (z2 b d) e))
  refine wl_nil <| wq_blk_normal <| wq_then <| sr ?_
  refine lN [(vi ((a).Kind)), (vi ((a).Id)), (vi ((a).Role)), (vs l ((a).Cn).length m), (vs a2 (au).length a3), (vi ((a).Epoch)), (vi ((a).Seq)), (vs r ((a).Body).length s), (vs t ((a).Key).length u), (vi (((a).A).Host)), (vi (((a).A).Port)), (vi ((a).Now))] wN isAgg_31 sizeOf_31 ea ?_
  have ed := ((((((((P.ch d (Ne.symm (nN (nL hgl (h))))).kp y).ch w (nN (nL B (nT d.size e)))).ch i (Ne.symm (nN (nL hgl (h))))).kp ak).ch aq (Ne.symm (nN (nL hgl (h))))).ch bl (Ne.symm (nN (nL hgl (h))))).ch aM (nN (nL B (nT d.size e))))
  refine sv [(vi ((a).Kind)), (vi ((a).Id)), (vi ((a).Role)), (vs l ((a).Cn).length m), (vs a2 (au).length a3), (vi ((a).Epoch)), (vi ((a).Seq)), (vs r ((a).Body).length s), (vs t ((a).Key).length u), (vi (((a).A).Host)), (vi (((a).A).Port)), (vi ((a).Now))] wN sizeOf_31 ed ?_
  intro bF bm ee ht
  have cz := ChG.ext ec bm (fun k hk => .inr (by subst hk; exact h))
  refine n3 ?_
  have bK := fun (E sz n : Nat) (v : Value) (C : List Value) (o : World.ownsRow K F.heap.size E sz v n C) (f : World.ownsRow K F.heap.size E sz v n C) => (own_ch (own_ch (own_ch (own_ch (own_kp (own_ch (own_ch (own_kp o y) w (ne2 f (e))) i (ne1 f (nL hgl b.size))) ak) aq (ne1 f (nL hgl b.size))) bl (ne1 f (nL hgl b.size))) aM (ne2 f (e))) bm (ne1 f (B)))
  have ef := (bK _ _ _ _ _ G G)
  have eg := (own_ch (own_ch a9 aM (ne1 a9 (nL aY (z4 w i ak aq)))) bm (ne1 a9 (nL B (z6 d y w i ak aq))))
  have eh := (bK _ _ _ _ _ I I)
  have ej := (bK _ _ _ _ _ J J)
  refine ret_1 (.inl rfl) (va [(vi ((a).Kind)), (vi ((a).Id)), (vi ((a).Role)), (vs l ((a).Cn).length m), (vs a2 (au).length a3), (vi ((a).Epoch)), (vi ((a).Seq)), (vs r ((a).Body).length s), (vs t ((a).Key).length u), (vi (((a).A).Host)), (vi (((a).A).Port)), (vi ((a).Now))]) rfl (rv_c [(vi ((a).Kind)), (vi ((a).Id)), (vi ((a).Role)), (vs l ((a).Cn).length m), (vs a2 (au).length a3), (vi ((a).Epoch)), (vi ((a).Seq)), (vs r ((a).Body).length s), (vs t ((a).Key).length u), (vi (((a).A).Host)), (vi (((a).A).Port)), (vi ((a).Now))] rfl ee isAgg_31 sizeOf_31) ?_
  have ek := ((dW.ch aM (nN (nL hgl (nT (z2 b d) e)))).ch bm (nN (nL hgl (h))))
  have bL := z5 y w i ak aq
  exact ⟨{ Kind := (a).Kind, Id := (a).Id, Role := (a).Role, Cn := (a).Cn, Sn := (au), Epoch := (a).Epoch, Seq := (a).Seq, Body := (a).Body, Key := (a).Key, A := ((a).A), Now := (a).Now : PNote }, cz, ⟨_, _, ek, (Rd.chP hcr cz hcn), hcl, (by omega), hcn⟩, ⟨_, _, _, _, _, _, _, _, rfl, (own_lo ef b.size), T, (own_lo eg (z7 b d y w i ak aq)), dX, (own_lo eh b.size), W, (own_lo ej b.size), X, ⟨⟨(Ap.lt G a9 bL), ⟨(j.1.2.1), ⟨(j.1.2.2.1), trivial⟩⟩⟩, ⟨⟨(Ap.lt I a9 bL).symm, ⟨(Ap.lt J a9 bL).symm, trivial⟩⟩, ⟨⟨(j.2.2.1.1), trivial⟩, ⟨trivial, trivial⟩⟩⟩⟩⟩, trivial⟩
 have hu := dF aL
 refine cf aL ?_
 refine sr ?_
 refine pu (vb (decide ((D) = 5))) wN ?_
 refine aw (vb (decide ((D) = 5))) ?_
 refine n2 ?_
 rcases bt (decide ((D) = 5)) with aN | aN
 ·have hv := dT aN
  refine ct aN ?_
  refine wc_region ?_
  refine mw (vp g 0) ?_
  refine ltI ([(-1), 4294967296] : List Int) wN slTy_67 ?_
  intro hw hx L aO c0
  have c1 := ChG.extk N aO
  have em := (R.kp aO)
  refine cl wN (csl1Int L g ca cc cb ⟨_, _, em, (Rd.chP hcr c1 hcn), hcl, (by omega), hcn⟩ _ ([(-1), 4294967296] : List Int) ⟨_, _, rfl, (Rd.of_own c0), (by simp), (fun _ z hz => by have af := (own_lt c0 z.block (by rw [hz]; rfl)).1; have ah := nL hgl (z5 b d y w i); omega)⟩ (by simp)) ?_
  rintro _ M ⟨ac, bn, ⟨hy, h0, en, h1, h2, h3, h4⟩, rfl, eo⟩
  have ep := ChG.ext c1 bn (fun k hk => .inl hk)
  have q292m : ac = (-1) ∨ ac = 4294967296 := by simpa only [List.mem_cons, List.not_mem_nil, or_false] using eo
  refine pu (vp Y 5) wN ?_
  have er := (((Q.ch i (Ne.symm (nN (nL hgl (nT (z2 b d) e))))).kp aO).ch bn (Ne.symm (nN (nL hgl (nT (z2 b d) e)))))
  refine st (vi (ac)) [(vi (ac))] [(vi ((a).Kind)), (vi ((a).Id)), (vi ((a).Role)), (vs l ((a).Cn).length m), (vs p ((a).Sn).length q), (vi (ac)), (vi ((a).Seq)), (vs r ((a).Body).length s), (vs t ((a).Key).length u), (vi (((a).A).Host)), (vi (((a).A).Port)), (vi ((a).Now))] wN sizeOf_3 er ?_
  intro Z bo es h5
  have et := ChG.ext ep bo (fun k hk => .inr (by subst hk; exact nT (z2 b d) e))
  refine wl_nil <| wq_blk_normal <| wq_then <| sr ?_
  refine lN [(vi ((a).Kind)), (vi ((a).Id)), (vi ((a).Role)), (vs l ((a).Cn).length m), (vs p ((a).Sn).length q), (vi (ac)), (vi ((a).Seq)), (vs r ((a).Body).length s), (vs t ((a).Key).length u), (vi (((a).A).Host)), (vi (((a).A).Port)), (vi ((a).Now))] wN isAgg_31 sizeOf_31 es ?_
  have eu := (((((((P.ch d (Ne.symm (nN (nL hgl (h))))).kp y).ch w (nN (nL B (nT d.size e)))).ch i (Ne.symm (nN (nL hgl (h))))).kp aO).ch bn (Ne.symm (nN (nL hgl (h))))).ch bo (nN (nL B (nT d.size e))))
  refine sv [(vi ((a).Kind)), (vi ((a).Id)), (vi ((a).Role)), (vs l ((a).Cn).length m), (vs p ((a).Sn).length q), (vi (ac)), (vi ((a).Seq)), (vs r ((a).Body).length s), (vs t ((a).Key).length u), (vi (((a).A).Host)), (vi (((a).A).Port)), (vi ((a).Now))] wN sizeOf_31 eu ?_
  intro ai bM ew h6
  have c2 := ChG.ext et bM (fun k hk => .inr (by subst hk; exact h))
  refine n3 ?_
  have bp := fun (E sz n : Nat) (v : Value) (C : List Value) (o : World.ownsRow K F.heap.size E sz v n C) (f : World.ownsRow K F.heap.size E sz v n C) => (own_ch (own_ch (own_ch (own_kp (own_ch (own_ch (own_kp o y) w (ne2 f (e))) i (ne1 f (nL hgl b.size))) aO) bn (ne1 f (nL hgl b.size))) bo (ne2 f (e))) bM (ne1 f (B)))
  have ex := (bp _ _ _ _ _ G G)
  have ey := (bp _ _ _ _ _ H H)
  have ez := (bp _ _ _ _ _ I I)
  have e0 := (bp _ _ _ _ _ J J)
  refine ret_1 (.inl rfl) (va [(vi ((a).Kind)), (vi ((a).Id)), (vi ((a).Role)), (vs l ((a).Cn).length m), (vs p ((a).Sn).length q), (vi (ac)), (vi ((a).Seq)), (vs r ((a).Body).length s), (vs t ((a).Key).length u), (vi (((a).A).Host)), (vi (((a).A).Port)), (vi ((a).Now))]) rfl (rv_c [(vi ((a).Kind)), (vi ((a).Id)), (vi ((a).Role)), (vs l ((a).Cn).length m), (vs p ((a).Sn).length q), (vi (ac)), (vi ((a).Seq)), (vs r ((a).Body).length s), (vs t ((a).Key).length u), (vi (((a).A).Host)), (vi (((a).A).Port)), (vi ((a).Now))] rfl ew isAgg_31 sizeOf_31) ?_
  have e1 := ((en.ch bo (nN (nL hgl (nT (z2 b d) e)))).ch bM (nN (nL hgl (h))))
  exact ⟨{ Kind := (a).Kind, Id := (a).Id, Role := (a).Role, Cn := (a).Cn, Sn := (a).Sn, Epoch := (ac), Seq := (a).Seq, Body := (a).Body, Key := (a).Key, A := ((a).A), Now := (a).Now : PNote }, c2, ⟨_, _, e1, (Rd.chP hcr c2 hcn), hcl, (by omega), hcn⟩, ⟨_, _, _, _, _, _, _, _, rfl, (own_lo ex b.size), T, (own_lo ey b.size), V, (own_lo ez b.size), W, (own_lo e0 b.size), X, ⟨⟨(j.1.1), ⟨(j.1.2.1), ⟨(j.1.2.2.1), trivial⟩⟩⟩, ⟨⟨(j.2.1.1), ⟨(j.2.1.2.1), trivial⟩⟩, ⟨⟨(j.2.2.1.1), trivial⟩, ⟨trivial, trivial⟩⟩⟩⟩⟩, trivial⟩
 have h7 := dF aN
 refine cf aN ?_
 refine sr ?_
 refine pu (vb (decide ((D) = 6))) wN ?_
 refine aw (vb (decide ((D) = 6))) ?_
 refine n2 ?_
 rcases bt (decide ((D) = 6)) with aP | aP
 ·have h8 := dT aP
  refine ct aP ?_
  refine wc_region ?_
  refine mw (vp g 0) ?_
  refine ltI ([(-1), 281474976710656] : List Int) wN slTy_67 ?_
  intro h9 hA L aQ c3
  have c4 := ChG.extk N aQ
  have e2 := (R.kp aQ)
  refine cl wN (csl1Int L g ca cc cb ⟨_, _, e2, (Rd.chP hcr c4 hcn), hcl, (by omega), hcn⟩ _ ([(-1), 281474976710656] : List Int) ⟨_, _, rfl, (Rd.of_own c3), (by simp), (fun _ z hz => by have af := (own_lt c3 z.block (by rw [hz]; rfl)).1; have ah := nL hgl (z5 b d y w i); omega)⟩ (by simp)) ?_
  rintro _ M ⟨ad, bq, ⟨hB, hC, e3, hD, hF, hG, hH⟩, rfl, e4⟩
  have e5 := ChG.ext c4 bq (fun k hk => .inl hk)
  have q329m : ad = (-1) ∨ ad = 281474976710656 := by simpa only [List.mem_cons, List.not_mem_nil, or_false] using e4
  refine pu (vp Y 6) wN ?_
  have e6 := (((Q.ch i (Ne.symm (nN (nL hgl (nT (z2 b d) e))))).kp aQ).ch bq (Ne.symm (nN (nL hgl (nT (z2 b d) e)))))
  refine st (vi (ad)) [(vi (ad))] [(vi ((a).Kind)), (vi ((a).Id)), (vi ((a).Role)), (vs l ((a).Cn).length m), (vs p ((a).Sn).length q), (vi ((a).Epoch)), (vi (ad)), (vs r ((a).Body).length s), (vs t ((a).Key).length u), (vi (((a).A).Host)), (vi (((a).A).Port)), (vi ((a).Now))] wN sizeOf_3 e6 ?_
  intro Z br e7 hI
  have e8 := ChG.ext e5 br (fun k hk => .inr (by subst hk; exact nT (z2 b d) e))
  refine wl_nil <| wq_blk_normal <| wq_then <| sr ?_
  refine lN [(vi ((a).Kind)), (vi ((a).Id)), (vi ((a).Role)), (vs l ((a).Cn).length m), (vs p ((a).Sn).length q), (vi ((a).Epoch)), (vi (ad)), (vs r ((a).Body).length s), (vs t ((a).Key).length u), (vi (((a).A).Host)), (vi (((a).A).Port)), (vi ((a).Now))] wN isAgg_31 sizeOf_31 e7 ?_
  have e9 := (((((((P.ch d (Ne.symm (nN (nL hgl (h))))).kp y).ch w (nN (nL B (nT d.size e)))).ch i (Ne.symm (nN (nL hgl (h))))).kp aQ).ch bq (Ne.symm (nN (nL hgl (h))))).ch br (nN (nL B (nT d.size e))))
  refine sv [(vi ((a).Kind)), (vi ((a).Id)), (vi ((a).Role)), (vs l ((a).Cn).length m), (vs p ((a).Sn).length q), (vi ((a).Epoch)), (vi (ad)), (vs r ((a).Body).length s), (vs t ((a).Key).length u), (vi (((a).A).Host)), (vi (((a).A).Port)), (vi ((a).Now))] wN sizeOf_31 e9 ?_
  intro ai bN eA hJ
  have c5 := ChG.ext e8 bN (fun k hk => .inr (by subst hk; exact h))
  refine n3 ?_
  have bu := fun (E sz n : Nat) (v : Value) (C : List Value) (o : World.ownsRow K F.heap.size E sz v n C) (f : World.ownsRow K F.heap.size E sz v n C) => (own_ch (own_ch (own_ch (own_kp (own_ch (own_ch (own_kp o y) w (ne2 f (e))) i (ne1 f (nL hgl b.size))) aQ) bq (ne1 f (nL hgl b.size))) br (ne2 f (e))) bN (ne1 f (B)))
  have eB := (bu _ _ _ _ _ G G)
  have eC := (bu _ _ _ _ _ H H)
  have eD := (bu _ _ _ _ _ I I)
  have eE := (bu _ _ _ _ _ J J)
  refine ret_1 (.inl rfl) (va [(vi ((a).Kind)), (vi ((a).Id)), (vi ((a).Role)), (vs l ((a).Cn).length m), (vs p ((a).Sn).length q), (vi ((a).Epoch)), (vi (ad)), (vs r ((a).Body).length s), (vs t ((a).Key).length u), (vi (((a).A).Host)), (vi (((a).A).Port)), (vi ((a).Now))]) rfl (rv_c [(vi ((a).Kind)), (vi ((a).Id)), (vi ((a).Role)), (vs l ((a).Cn).length m), (vs p ((a).Sn).length q), (vi ((a).Epoch)), (vi (ad)), (vs r ((a).Body).length s), (vs t ((a).Key).length u), (vi (((a).A).Host)), (vi (((a).A).Port)), (vi ((a).Now))] rfl eA isAgg_31 sizeOf_31) ?_
  have eF := ((e3.ch br (nN (nL hgl (nT (z2 b d) e)))).ch bN (nN (nL hgl (h))))
  exact ⟨{ Kind := (a).Kind, Id := (a).Id, Role := (a).Role, Cn := (a).Cn, Sn := (a).Sn, Epoch := (a).Epoch, Seq := (ad), Body := (a).Body, Key := (a).Key, A := ((a).A), Now := (a).Now : PNote }, c5, ⟨_, _, eF, (Rd.chP hcr c5 hcn), hcl, (by omega), hcn⟩, ⟨_, _, _, _, _, _, _, _, rfl, (own_lo eB b.size), T, (own_lo eC b.size), V, (own_lo eD b.size), W, (own_lo eE b.size), X, ⟨⟨(j.1.1), ⟨(j.1.2.1), ⟨(j.1.2.2.1), trivial⟩⟩⟩, ⟨⟨(j.2.1.1), ⟨(j.2.1.2.1), trivial⟩⟩, ⟨⟨(j.2.2.1.1), trivial⟩, ⟨trivial, trivial⟩⟩⟩⟩⟩, trivial⟩
 have hK := dF aP
 refine cf aP ?_
 refine sr ?_
 refine pu (vb (decide ((D) = 7))) wN ?_
 refine aw (vb (decide ((D) = 7))) ?_
 refine n2 ?_
 rcases bt (decide ((D) = 7)) with aR | aR
 ·have hL := dT aR
  refine ct aR ?_
  refine wc_region ?_
  refine mw (vp g 0) ?_
  refine mw (vp g 0) ?_
  refine ltI ([0, 100, 101] : List Int) wN slTy_67 ?_
  intro hM hN L am c6
  have c7 := ChG.extk N am
  have eG := (R.kp am)
  refine cl wN (csl1Int L g ca cc cb ⟨_, _, eG, (Rd.chP hcr c7 hcn), hcl, (by omega), hcn⟩ _ ([0, 100, 101] : List Int) ⟨_, _, rfl, (Rd.of_own c6), (by simp), (fun _ z hz => by have af := (own_lt c6 z.block (by rw [hz]; rfl)).1; have ah := nL hgl (z5 b d y w i); omega)⟩ (by simp)) ?_
  rintro _ M ⟨bv, av, ⟨hO, hP, eH, hQ, hR, hS, hT⟩, rfl, eI⟩
  have c8 := ChG.ext c7 av (fun k hk => .inl hk)
  have q366m : bv = 0 ∨ bv = 100 ∨ bv = 101 := by simpa only [List.mem_cons, List.not_mem_nil, or_false] using eI
  refine cl wN (csl1Bytes M g ca cc cb ⟨_, _, eH, (Rd.chP hcr c8 hcn), hcl, (by omega), hcn⟩ (bv) (by omega)) ?_
  rintro _ Z ⟨ax, bw, ⟨hU, hW, eJ, hX, hY, hZ, ia⟩, ⟨a4, a5, rfl, aA, eK, ib⟩, ic⟩
  have eL := ChG.ext c8 bw (fun k hk => .inl hk)
  refine pu (vp Y 7) wN ?_
  have bO := nT (z2 b d) e
  have eM := ((((Q.ch i (Ne.symm (nN (nL hgl bO)))).kp am).ch av (Ne.symm (nN (nL hgl bO)))).ch bw (Ne.symm (nN (nL hgl bO))))
  refine st (vs a4 (ax).length a5) [(vs a4 (ax).length a5)] [(vi ((a).Kind)), (vi ((a).Id)), (vi ((a).Role)), (vs l ((a).Cn).length m), (vs p ((a).Sn).length q), (vi ((a).Epoch)), (vi ((a).Seq)), (vs a4 (ax).length a5), (vs t ((a).Key).length u), (vi (((a).A).Host)), (vi (((a).A).Port)), (vi ((a).Now))] wN sizeOf_22 eM ?_
  intro ai aS eN ie
  have eO := ChG.ext eL aS (fun k hk => .inr (by subst hk; exact nT (z2 b d) e))
  refine wl_nil <| wq_blk_normal <| wq_then <| sr ?_
  refine lN [(vi ((a).Kind)), (vi ((a).Id)), (vi ((a).Role)), (vs l ((a).Cn).length m), (vs p ((a).Sn).length q), (vi ((a).Epoch)), (vi ((a).Seq)), (vs a4 (ax).length a5), (vs t ((a).Key).length u), (vi (((a).A).Host)), (vi (((a).A).Port)), (vi ((a).Now))] wN isAgg_31 sizeOf_31 eN ?_
  have eP := ((((((((P.ch d (Ne.symm (nN (nL hgl (h))))).kp y).ch w (nN (nL B (nT d.size e)))).ch i (Ne.symm (nN (nL hgl (h))))).kp am).ch av (Ne.symm (nN (nL hgl (h))))).ch bw (Ne.symm (nN (nL hgl (h))))).ch aS (nN (nL B (nT d.size e))))
  refine sv [(vi ((a).Kind)), (vi ((a).Id)), (vi ((a).Role)), (vs l ((a).Cn).length m), (vs p ((a).Sn).length q), (vi ((a).Epoch)), (vi ((a).Seq)), (vs a4 (ax).length a5), (vs t ((a).Key).length u), (vi (((a).A).Host)), (vi (((a).A).Port)), (vi ((a).Now))] wN sizeOf_31 eP ?_
  intro bF bz eQ ig
  have c9 := ChG.ext eO bz (fun k hk => .inr (by subst hk; exact h))
  refine n3 ?_
  have bP := fun (E sz n : Nat) (v : Value) (C : List Value) (o : World.ownsRow K F.heap.size E sz v n C) (f : World.ownsRow K F.heap.size E sz v n C) => (own_ch (own_ch (own_ch (own_ch (own_kp (own_ch (own_ch (own_kp o y) w (ne2 f (e))) i (ne1 f (nL hgl b.size))) am) av (ne1 f (nL hgl b.size))) bw (ne1 f (nL hgl b.size))) aS (ne2 f (e))) bz (ne1 f (B)))
  have eR := (bP _ _ _ _ _ G G)
  have eS := (bP _ _ _ _ _ H H)
  have eT := (own_ch (own_ch aA aS (ne1 aA (nL aY (z4 w i am av)))) bz (ne1 aA (nL B (z6 d y w i am av))))
  have eU := (bP _ _ _ _ _ J J)
  refine ret_1 (.inl rfl) (va [(vi ((a).Kind)), (vi ((a).Id)), (vi ((a).Role)), (vs l ((a).Cn).length m), (vs p ((a).Sn).length q), (vi ((a).Epoch)), (vi ((a).Seq)), (vs a4 (ax).length a5), (vs t ((a).Key).length u), (vi (((a).A).Host)), (vi (((a).A).Port)), (vi ((a).Now))]) rfl (rv_c [(vi ((a).Kind)), (vi ((a).Id)), (vi ((a).Role)), (vs l ((a).Cn).length m), (vs p ((a).Sn).length q), (vi ((a).Epoch)), (vi ((a).Seq)), (vs a4 (ax).length a5), (vs t ((a).Key).length u), (vi (((a).A).Host)), (vi (((a).A).Port)), (vi ((a).Now))] rfl eQ isAgg_31 sizeOf_31) ?_
  have eV := ((eJ.ch aS (nN (nL hgl (nT (z2 b d) e)))).ch bz (nN (nL hgl (h))))
  have bQ := z5 y w i am av
  exact ⟨{ Kind := (a).Kind, Id := (a).Id, Role := (a).Role, Cn := (a).Cn, Sn := (a).Sn, Epoch := (a).Epoch, Seq := (a).Seq, Body := (ax), Key := (a).Key, A := ((a).A), Now := (a).Now : PNote }, c9, ⟨_, _, eV, (Rd.chP hcr c9 hcn), hcl, (by omega), hcn⟩, ⟨_, _, _, _, _, _, _, _, rfl, (own_lo eR b.size), T, (own_lo eS b.size), V, (own_lo eT (z7 b d y w i am av)), eK, (own_lo eU b.size), X, ⟨⟨(j.1.1), ⟨(Ap.lt G aA bQ), ⟨(j.1.2.2.1), trivial⟩⟩⟩, ⟨⟨(Ap.lt H aA bQ), ⟨(j.2.1.2.1), trivial⟩⟩, ⟨⟨(Ap.lt J aA bQ).symm, trivial⟩, ⟨trivial, trivial⟩⟩⟩⟩⟩, trivial⟩
 have ih := dF aR
 refine cf aR ?_
 refine sr ?_
 refine pu (vb (decide ((D) = 8))) wN ?_
 refine aw (vb (decide ((D) = 8))) ?_
 refine n2 ?_
 rcases bt (decide ((D) = 8)) with aT | aT
 ·have ii := dT aT
  refine ct aT ?_
  refine wc_region ?_
  refine mw (vp g 0) ?_
  refine mw (vp g 0) ?_
  refine ltI ([0, 31] : List Int) wN slTy_67 ?_
  intro ij ik L an cC
  have cD := ChG.extk N an
  have eW := (R.kp an)
  refine cl wN (csl1Int L g ca cc cb ⟨_, _, eW, (Rd.chP hcr cD hcn), hcl, (by omega), hcn⟩ _ ([0, 31] : List Int) ⟨_, _, rfl, (Rd.of_own cC), (by simp), (fun _ z hz => by have af := (own_lt cC z.block (by rw [hz]; rfl)).1; have ah := nL hgl (z5 b d y w i); omega)⟩ (by simp)) ?_
  rintro _ M ⟨bR, ay, ⟨il, im, eX, io, ip, iq, ir⟩, rfl, eY⟩
  have cE := ChG.ext cD ay (fun k hk => .inl hk)
  have q420m : bR = 0 ∨ bR = 31 := by simpa only [List.mem_cons, List.not_mem_nil, or_false] using eY
  refine cl wN (csl1Bytes M g ca cc cb ⟨_, _, eX, (Rd.chP hcr cE hcn), hcl, (by omega), hcn⟩ (bR) (by omega)) ?_
  rintro _ Z ⟨az, b0, ⟨it, iu, eZ, iv, iw, iy, iz⟩, ⟨a6, a7, rfl, aB, fa, i0⟩, i1⟩
  have fb := ChG.ext cE b0 (fun k hk => .inl hk)
  refine pu (vp Y 8) wN ?_
  have bS := nT (z2 b d) e
  have fc := ((((Q.ch i (Ne.symm (nN (nL hgl bS)))).kp an).ch ay (Ne.symm (nN (nL hgl bS)))).ch b0 (Ne.symm (nN (nL hgl bS))))
  refine st (vs a6 (az).length a7) [(vs a6 (az).length a7)] [(vi ((a).Kind)), (vi ((a).Id)), (vi ((a).Role)), (vs l ((a).Cn).length m), (vs p ((a).Sn).length q), (vi ((a).Epoch)), (vi ((a).Seq)), (vs r ((a).Body).length s), (vs a6 (az).length a7), (vi (((a).A).Host)), (vi (((a).A).Port)), (vi ((a).Now))] wN sizeOf_22 fc ?_
  intro ai aU fd i2
  have fe := ChG.ext fb aU (fun k hk => .inr (by subst hk; exact nT (z2 b d) e))
  refine wl_nil <| wq_blk_normal <| wq_then <| sr ?_
  refine lN [(vi ((a).Kind)), (vi ((a).Id)), (vi ((a).Role)), (vs l ((a).Cn).length m), (vs p ((a).Sn).length q), (vi ((a).Epoch)), (vi ((a).Seq)), (vs r ((a).Body).length s), (vs a6 (az).length a7), (vi (((a).A).Host)), (vi (((a).A).Port)), (vi ((a).Now))] wN isAgg_31 sizeOf_31 fd ?_
  have ff := ((((((((P.ch d (Ne.symm (nN (nL hgl (h))))).kp y).ch w (nN (nL B (nT d.size e)))).ch i (Ne.symm (nN (nL hgl (h))))).kp an).ch ay (Ne.symm (nN (nL hgl (h))))).ch b0 (Ne.symm (nN (nL hgl (h))))).ch aU (nN (nL B (nT d.size e))))
  refine sv [(vi ((a).Kind)), (vi ((a).Id)), (vi ((a).Role)), (vs l ((a).Cn).length m), (vs p ((a).Sn).length q), (vi ((a).Epoch)), (vi ((a).Seq)), (vs r ((a).Body).length s), (vs a6 (az).length a7), (vi (((a).A).Host)), (vi (((a).A).Port)), (vi ((a).Now))] wN sizeOf_31 ff ?_
  intro bF b1 fg i3
  have cF := ChG.ext fe b1 (fun k hk => .inr (by subst hk; exact h))
  refine n3 ?_
  have bT := fun (E sz n : Nat) (v : Value) (C : List Value) (o : World.ownsRow K F.heap.size E sz v n C) (f : World.ownsRow K F.heap.size E sz v n C) => (own_ch (own_ch (own_ch (own_ch (own_kp (own_ch (own_ch (own_kp o y) w (ne2 f (e))) i (ne1 f (nL hgl b.size))) an) ay (ne1 f (nL hgl b.size))) b0 (ne1 f (nL hgl b.size))) aU (ne2 f (e))) b1 (ne1 f (B)))
  have fh := (bT _ _ _ _ _ G G)
  have fi := (bT _ _ _ _ _ H H)
  have fj := (bT _ _ _ _ _ I I)
  have fk := (own_ch (own_ch aB aU (ne1 aB (nL aY (z4 w i an ay)))) b1 (ne1 aB (nL B (z6 d y w i an ay))))
  refine ret_1 (.inl rfl) (va [(vi ((a).Kind)), (vi ((a).Id)), (vi ((a).Role)), (vs l ((a).Cn).length m), (vs p ((a).Sn).length q), (vi ((a).Epoch)), (vi ((a).Seq)), (vs r ((a).Body).length s), (vs a6 (az).length a7), (vi (((a).A).Host)), (vi (((a).A).Port)), (vi ((a).Now))]) rfl (rv_c [(vi ((a).Kind)), (vi ((a).Id)), (vi ((a).Role)), (vs l ((a).Cn).length m), (vs p ((a).Sn).length q), (vi ((a).Epoch)), (vi ((a).Seq)), (vs r ((a).Body).length s), (vs a6 (az).length a7), (vi (((a).A).Host)), (vi (((a).A).Port)), (vi ((a).Now))] rfl fg isAgg_31 sizeOf_31) ?_
  have fl := ((eZ.ch aU (nN (nL hgl (nT (z2 b d) e)))).ch b1 (nN (nL hgl (h))))
  have bU := z5 y w i an ay
  exact ⟨{ Kind := (a).Kind, Id := (a).Id, Role := (a).Role, Cn := (a).Cn, Sn := (a).Sn, Epoch := (a).Epoch, Seq := (a).Seq, Body := (a).Body, Key := (az), A := ((a).A), Now := (a).Now : PNote }, cF, ⟨_, _, fl, (Rd.chP hcr cF hcn), hcl, (by omega), hcn⟩, ⟨_, _, _, _, _, _, _, _, rfl, (own_lo fh b.size), T, (own_lo fi b.size), V, (own_lo fj b.size), W, (own_lo fk (z7 b d y w i an ay)), fa, ⟨⟨(j.1.1), ⟨(j.1.2.1), ⟨(Ap.lt G aB bU), trivial⟩⟩⟩, ⟨⟨(j.2.1.1), ⟨(Ap.lt H aB bU), trivial⟩⟩, ⟨⟨(Ap.lt I aB bU), trivial⟩, ⟨trivial, trivial⟩⟩⟩⟩⟩, trivial⟩
 have i4 := dF aT
 refine cf aT ?_
 refine sr ?_
 refine pu (vb (decide ((D) = 9))) wN ?_
 refine aw (vb (decide ((D) = 9))) ?_
 refine n2 ?_
 rcases bt (decide ((D) = 9)) with aV | aV
 ·have i5 := dT aV
  refine ct aV ?_
  refine wc_region ?_
  refine mw (vp g 0) ?_
  refine cl wN (csl6Any cT g ca cc cb ⟨_, _, R, (Rd.chP hcr N hcn), hcl, (by omega), hcn⟩) ?_
  rintro _ L ⟨O, b2, ⟨i6, i7, fm, i8, i9, iA, iB⟩, rfl, iC⟩
  have fo := ChG.ext N b2 (fun k hk => .inl hk)
  refine pu (vp Y 9) wN ?_
  have fp := ((Q.ch i (Ne.symm (nN (nL hgl (nT (z2 b d) e))))).ch b2 (Ne.symm (nN (nL hgl (nT (z2 b d) e)))))
  refine st (va (L_29 (O))) (L_29 (O)) [(vi ((a).Kind)), (vi ((a).Id)), (vi ((a).Role)), (vs l ((a).Cn).length m), (vs p ((a).Sn).length q), (vi ((a).Epoch)), (vi ((a).Seq)), (vs r ((a).Body).length s), (vs t ((a).Key).length u), (vi ((O).Host)), (vi ((O).Port)), (vi ((a).Now))] wN sizeOf_29 fp ?_
  intro M b3 fq iD
  have fr := ChG.ext fo b3 (fun k hk => .inr (by subst hk; exact nT (z2 b d) e))
  refine wl_nil <| wq_blk_normal <| wq_then <| sr ?_
  refine lN [(vi ((a).Kind)), (vi ((a).Id)), (vi ((a).Role)), (vs l ((a).Cn).length m), (vs p ((a).Sn).length q), (vi ((a).Epoch)), (vi ((a).Seq)), (vs r ((a).Body).length s), (vs t ((a).Key).length u), (vi ((O).Host)), (vi ((O).Port)), (vi ((a).Now))] wN isAgg_31 sizeOf_31 fq ?_
  have fs := ((((((P.ch d (Ne.symm (nN (nL hgl (h))))).kp y).ch w (nN (nL B (nT d.size e)))).ch i (Ne.symm (nN (nL hgl (h))))).ch b2 (Ne.symm (nN (nL hgl (h))))).ch b3 (nN (nL B (nT d.size e))))
  refine sv [(vi ((a).Kind)), (vi ((a).Id)), (vi ((a).Role)), (vs l ((a).Cn).length m), (vs p ((a).Sn).length q), (vi ((a).Epoch)), (vi ((a).Seq)), (vs r ((a).Body).length s), (vs t ((a).Key).length u), (vi ((O).Host)), (vi ((O).Port)), (vi ((a).Now))] wN sizeOf_31 fs ?_
  intro Z bW ft iE
  have cG := ChG.ext fr bW (fun k hk => .inr (by subst hk; exact h))
  refine n3 ?_
  have b4 := fun (E sz n : Nat) (v : Value) (C : List Value) (o : World.ownsRow K F.heap.size E sz v n C) (f : World.ownsRow K F.heap.size E sz v n C) => (own_ch (own_ch (own_ch (own_ch (own_ch (own_kp o y) w (ne2 f (e))) i (ne1 f (nL hgl b.size))) b2 (ne1 f (nL hgl b.size))) b3 (ne2 f (e))) bW (ne1 f (B)))
  have fu := (b4 _ _ _ _ _ G G)
  have fv := (b4 _ _ _ _ _ H H)
  have fw := (b4 _ _ _ _ _ I I)
  have fx := (b4 _ _ _ _ _ J J)
  refine ret_1 (.inl rfl) (va [(vi ((a).Kind)), (vi ((a).Id)), (vi ((a).Role)), (vs l ((a).Cn).length m), (vs p ((a).Sn).length q), (vi ((a).Epoch)), (vi ((a).Seq)), (vs r ((a).Body).length s), (vs t ((a).Key).length u), (vi ((O).Host)), (vi ((O).Port)), (vi ((a).Now))]) rfl (rv_c [(vi ((a).Kind)), (vi ((a).Id)), (vi ((a).Role)), (vs l ((a).Cn).length m), (vs p ((a).Sn).length q), (vi ((a).Epoch)), (vi ((a).Seq)), (vs r ((a).Body).length s), (vs t ((a).Key).length u), (vi ((O).Host)), (vi ((O).Port)), (vi ((a).Now))] rfl ft isAgg_31 sizeOf_31) ?_
  have fy := ((fm.ch b3 (nN (nL hgl (nT (z2 b d) e)))).ch bW (nN (nL hgl (h))))
  exact ⟨{ Kind := (a).Kind, Id := (a).Id, Role := (a).Role, Cn := (a).Cn, Sn := (a).Sn, Epoch := (a).Epoch, Seq := (a).Seq, Body := (a).Body, Key := (a).Key, A := (O), Now := (a).Now : PNote }, cG, ⟨_, _, fy, (Rd.chP hcr cG hcn), hcl, (by omega), hcn⟩, ⟨_, _, _, _, _, _, _, _, rfl, (own_lo fu b.size), T, (own_lo fv b.size), V, (own_lo fw b.size), W, (own_lo fx b.size), X, ⟨⟨(j.1.1), ⟨(j.1.2.1), ⟨(j.1.2.2.1), trivial⟩⟩⟩, ⟨⟨(j.2.1.1), ⟨(j.2.1.2.1), trivial⟩⟩, ⟨⟨(j.2.2.1.1), trivial⟩, ⟨trivial, trivial⟩⟩⟩⟩⟩, trivial⟩
 have iF := dF aV
 refine cf aV ?_
 refine sr ?_
 refine pu (vb (decide ((D) = 10))) wN ?_
 refine aw (vb (decide ((D) = 10))) ?_
 refine n2 ?_
 rcases bf (decide ((D) = 10)) with aW | aW
 ·have iG := dF aW
  refine cf aW ?_
  refine wc_skip <| wq_blk_normal <| wq_then <| sr ?_
  have fz := (Q.ch i (Ne.symm (nN (nL hgl (nT (z2 b d) e)))))
  refine lN (L_31 (a) l m p q r s t u) wN isAgg_31 sizeOf_31 fz ?_
  have f0 := ((((P.ch d (Ne.symm (nN (nL hgl (h))))).kp y).ch w (nN (nL B (nT d.size e)))).ch i (Ne.symm (nN (nL hgl (h)))))
  refine sv (L_31 (a) l m p q r s t u) wN sizeOf_31 f0 ?_
  intro L bX f3 iH
  have cH := ChG.ext N bX (fun k hk => .inr (by subst hk; exact h))
  refine n3 ?_
  have b5 := fun (E sz n : Nat) (v : Value) (C : List Value) (o : World.ownsRow K F.heap.size E sz v n C) (f : World.ownsRow K F.heap.size E sz v n C) => (own_ch (own_ch (own_ch (own_kp o y) w (ne2 f (e))) i (ne1 f (nL hgl b.size))) bX (ne1 f (B)))
  have f4 := (b5 _ _ _ _ _ G G)
  have f5 := (b5 _ _ _ _ _ H H)
  have f6 := (b5 _ _ _ _ _ I I)
  have f7 := (b5 _ _ _ _ _ J J)
  refine ret_1 (.inl rfl) (va (L_31 (a) l m p q r s t u)) rfl (rv_c (L_31 (a) l m p q r s t u) rfl f3 isAgg_31 sizeOf_31) ?_
  have f8 := (R.ch bX (nN (nL hgl (h))))
  exact ⟨(a), cH, ⟨_, _, f8, (Rd.chP hcr cH hcn), hcl, (by omega), hcn⟩, ⟨_, _, _, _, _, _, _, _, rfl, (own_lo f4 b.size), T, (own_lo f5 b.size), V, (own_lo f6 b.size), W, (own_lo f7 b.size), X, ⟨⟨(j.1.1), ⟨(j.1.2.1), ⟨(j.1.2.2.1), trivial⟩⟩⟩, ⟨⟨(j.2.1.1), ⟨(j.2.1.2.1), trivial⟩⟩, ⟨⟨(j.2.2.1.1), trivial⟩, ⟨trivial, trivial⟩⟩⟩⟩⟩, trivial⟩
 have iI := dT aW
 refine ct aW ?_
 refine wc_region ?_
 refine mw (vp g 0) ?_
 refine ltI ([(-1), 1000001] : List Int) wN slTy_67 ?_
 intro iJ iK L aX cI
 have cJ := ChG.extk N aX
 have f9 := (R.kp aX)
 refine cl wN (csl1Int L g ca cc cb ⟨_, _, f9, (Rd.chP hcr cJ hcn), hcl, (by omega), hcn⟩ _ ([(-1), 1000001] : List Int) ⟨_, _, rfl, (Rd.of_own cI), (by simp), (fun _ z hz => by have af := (own_lt cI z.block (by rw [hz]; rfl)).1; have ah := nL hgl (z5 b d y w i); omega)⟩ (by simp)) ?_
 rintro _ M ⟨ae, b6, ⟨iL, iM, fA, iN, iO, iP, iQ⟩, rfl, fB⟩
 have fC := ChG.ext cJ b6 (fun k hk => .inl hk)
 have q504m : ae = (-1) ∨ ae = 1000001 := by simpa only [List.mem_cons, List.not_mem_nil, or_false] using fB
 refine pu (vp Y 11) wN ?_
 have fD := (((Q.ch i (Ne.symm (nN (nL hgl (nT (z2 b d) e))))).kp aX).ch b6 (Ne.symm (nN (nL hgl (nT (z2 b d) e)))))
 refine st (vi (ae)) [(vi (ae))] [(vi ((a).Kind)), (vi ((a).Id)), (vi ((a).Role)), (vs l ((a).Cn).length m), (vs p ((a).Sn).length q), (vi ((a).Epoch)), (vi ((a).Seq)), (vs r ((a).Body).length s), (vs t ((a).Key).length u), (vi (((a).A).Host)), (vi (((a).A).Port)), (vi (ae))] wN sizeOf_3 fD ?_
 intro Z b7 fE iR
 have fF := ChG.ext fC b7 (fun k hk => .inr (by subst hk; exact nT (z2 b d) e))
 refine wl_nil <| wq_blk_normal <| wq_then <| sr ?_
 refine lN [(vi ((a).Kind)), (vi ((a).Id)), (vi ((a).Role)), (vs l ((a).Cn).length m), (vs p ((a).Sn).length q), (vi ((a).Epoch)), (vi ((a).Seq)), (vs r ((a).Body).length s), (vs t ((a).Key).length u), (vi (((a).A).Host)), (vi (((a).A).Port)), (vi (ae))] wN isAgg_31 sizeOf_31 fE ?_
 have fG := (((((((P.ch d (Ne.symm (nN (nL hgl (h))))).kp y).ch w (nN (nL B (nT d.size e)))).ch i (Ne.symm (nN (nL hgl (h))))).kp aX).ch b6 (Ne.symm (nN (nL hgl (h))))).ch b7 (nN (nL B (nT d.size e))))
 refine sv [(vi ((a).Kind)), (vi ((a).Id)), (vi ((a).Role)), (vs l ((a).Cn).length m), (vs p ((a).Sn).length q), (vi ((a).Epoch)), (vi ((a).Seq)), (vs r ((a).Body).length s), (vs t ((a).Key).length u), (vi (((a).A).Host)), (vi (((a).A).Port)), (vi (ae))] wN sizeOf_31 fG ?_
 intro ai bY fH iS
 have cK := ChG.ext fF bY (fun k hk => .inr (by subst hk; exact h))
 refine n3 ?_
 have b8 := fun (E sz n : Nat) (v : Value) (C : List Value) (o : World.ownsRow K F.heap.size E sz v n C) (f : World.ownsRow K F.heap.size E sz v n C) => (own_ch (own_ch (own_ch (own_kp (own_ch (own_ch (own_kp o y) w (ne2 f (e))) i (ne1 f (nL hgl b.size))) aX) b6 (ne1 f (nL hgl b.size))) b7 (ne2 f (e))) bY (ne1 f (B)))
 have fI := (b8 _ _ _ _ _ G G)
 have fJ := (b8 _ _ _ _ _ H H)
 have fK := (b8 _ _ _ _ _ I I)
 have fL := (b8 _ _ _ _ _ J J)
 refine ret_1 (.inl rfl) (va [(vi ((a).Kind)), (vi ((a).Id)), (vi ((a).Role)), (vs l ((a).Cn).length m), (vs p ((a).Sn).length q), (vi ((a).Epoch)), (vi ((a).Seq)), (vs r ((a).Body).length s), (vs t ((a).Key).length u), (vi (((a).A).Host)), (vi (((a).A).Port)), (vi (ae))]) rfl (rv_c [(vi ((a).Kind)), (vi ((a).Id)), (vi ((a).Role)), (vs l ((a).Cn).length m), (vs p ((a).Sn).length q), (vi ((a).Epoch)), (vi ((a).Seq)), (vs r ((a).Body).length s), (vs t ((a).Key).length u), (vi (((a).A).Host)), (vi (((a).A).Port)), (vi (ae))] rfl fH isAgg_31 sizeOf_31) ?_
 have fM := ((fA.ch b7 (nN (nL hgl (nT (z2 b d) e)))).ch bY (nN (nL hgl (h))))
 exact ⟨{ Kind := (a).Kind, Id := (a).Id, Role := (a).Role, Cn := (a).Cn, Sn := (a).Sn, Epoch := (a).Epoch, Seq := (a).Seq, Body := (a).Body, Key := (a).Key, A := ((a).A), Now := (ae) : PNote }, cK, ⟨_, _, fM, (Rd.chP hcr cK hcn), hcl, (by omega), hcn⟩, ⟨_, _, _, _, _, _, _, _, rfl, (own_lo fI b.size), T, (own_lo fJ b.size), V, (own_lo fK b.size), W, (own_lo fL b.size), X, ⟨⟨(j.1.1), ⟨(j.1.2.1), ⟨(j.1.2.2.1), trivial⟩⟩⟩, ⟨⟨(j.2.1.1), ⟨(j.2.1.2.1), trivial⟩⟩, ⟨⟨(j.2.2.1.1), trivial⟩, ⟨trivial, trivial⟩⟩⟩⟩⟩, trivial⟩

theorem slTy_24 : SlTy Try.prog 24 31 12 160 (va Z_31) := slTy Try.underlying24 (by kernel_rfl) rfl rfl
def O_24 (w : World) (lo : Nat) (v : Value) (x : (List PNote)) : Prop := ∃ (a : Option Addr) (b : Nat), v = .slice a x.length b ∧ OLv LT_31 w lo w.heap.size a x.length b x ∧ x.length ≤ 1073741824 ∧ Aps [(a, b)]
theorem csl18List (a : World) (g : Nat) (ca : Option Addr) (cc : Nat) (cb : List UInt8) (ai : CurX a g 74 ca cc cb) (f : Int) (aE : 0 ≤ f ∧ f ≤ 1000) : Fn Try.prog 27 #[(vp g 0), (vi f)] a (fun v d => ∃ x : (List PNote), Ch (fun k => k = g) a d ∧ CurX d g 74 ca cc cb ∧ O_24 d a.heap.size v x ∧ (x.length ≤ 1001)) := by
 obtain ⟨ci, chh, hcb, hcr, hcl, hci, hcn⟩ := ai
 have hgl := Blk.lt hcb
 refine fn_ofS (n := 22) [(vp g 0), (vi f)] Try.func27 rfl rfl ?_
 refine sr ?_
 refine aw (vs none 0 0) ?_
 refine nx ?_
 refine wl_lit0 wN rfl rfl slTy_24 (fun w => by kernel_rfl) ?_
 intro r F s aj
 have N := ChG.extk (Ch.refl (fun k => k = g) a) s
 have ak : OLv LT_31 F a.heap.size F.heap.size (some r) 0 0 [] := OLv.of0 aj
 refine aw (vs (some r) 0 0) ?_
 refine n4 ?_
 refine mw (vp g 0) ?_
 refine mw (vi f) ?_
 refine ar (f + 1) wN ?_
 have am := (hcb.kp s)
 refine cl wN (csl1Below F g ca cc cb ⟨_, _, am, (Rd.chP hcr N hcn), hcl, (by omega), hcn⟩ (f + 1)) ?_
 rintro _ G ⟨H, t, ⟨aF, aG, an, aH, aI, aJ, aK⟩, rfl, aL⟩
 have O := ChG.ext N t (fun k hk => .inl hk)
 refine aw (vi (H)) ?_
 refine wl_nil <| wq_then <| wc_block ?_
 have ao := (OLv.ch ak t (fun g ap aq hk => by have au := nL hgl (Nat.le_refl a.heap.size); omega))
 have P : ([] : List (PNote)) = ([] : List PNote) := by rfl
 have Q : 0 = (([] : List PNote)).length := by rw [← P]; try (first | rfl | simp only [List.length_set] | simp)
 refine wc_loopP [(0, (vp g 0)), (4, (vs none 0 0)), (5, (.slice (some r) (([] : List PNote)).length 0)), (6, (vi (H)))] ⟨rfl, rfl, rfl, rfl, trivial⟩ (fun e' d => ∃ (l : List PNote) (q : Int) (R : Env) (i : Option Addr) (j : Nat), e' = pt R [(0, (vp g 0)), (4, (vs none 0 0)), (5, (.slice i (l).length j)), (6, (vi q))] ∧ Ch (fun k => k = g) a d ∧ Ch (fun k => k = g ∨ a.heap.size ≤ k) G d ∧ (l.length : Int) + q ≤ f ∧ 0 ≤ q ∧ (OLv LT_31 d a.heap.size d.heap.size i (l).length j (l) ∧ (l).length ≤ 1073741824) ∧ CurX d g 74 ca cc cb) (fun e' _ => ((intOf (e' 6))).toNat) ?_ ?_
 ·exact fun u => ⟨([] : List PNote), (H), u, (some r), 0, rfl, O, (Ch.refl (fun k => k = g ∨ a.heap.size ≤ k) G), (by first | omega | (simp only [List.length_append, List.length_cons, List.length_nil]; omega)), (by omega), ⟨(by rw [← Q, ← P]; exact (OLv.now ao)), (by rw [← Q]; first | exact (by simp) | (simp only [List.length_append, List.length_take, List.length_replicate]; omega))⟩, ⟨_, _, an, (Rd.chP hcr O hcn), hcl, (by omega), hcn⟩⟩
 ·rintro _ S ⟨l, q, R, i, j, rfl, y, I, aM, aN, ⟨B, av⟩, ⟨aO, aP, T, aQ, aR, aS, aT⟩⟩
  obtain ⟨aU, J⟩ := OLv.ow B
  refine wc_seq <| sr ?_
  refine mw (vi q) ?_
  refine pu (vb (decide (0 < q))) wN ?_
  refine n2 ?_
  rcases bf (decide (0 < q)) with p | p
  ·have aV := dF p
   refine cf p ?_
   refine wc_exit <| wq_then_exit <| wq_then_exit <| wq_blk_exit <| wq_then <| sr ?_
   refine mw (vs i (l).length j) ?_
   refine aw (vs i (l).length j) ?_
   refine n3 ?_
   refine rt (vs i (l).length j) ?_
   have V : (l).length = (l).length := by first | (simp only [List.length_append, List.length_take, List.length_replicate, List.length_set, List.length_map]; done) | (simp only [List.length_append, List.length_take, List.length_replicate, List.length_set, List.length_map]; omega)
   rw [V] at B ⊢
   exact ⟨l, y, ⟨_, _, T, (Rd.chP hcr y hcn), hcl, (by omega), hcn⟩, ⟨_, _, rfl, (OLv.now (OLv.low B (Nat.le_refl a.heap.size))), (by rw [← V]; exact av), ⟨trivial, trivial⟩⟩, (by omega)⟩
  have aW := dT p
  refine ct p ?_
  refine wc_skip <| wq_then <| wc_seq <| wc_block <| wc_region ?_
  refine mw (vs i (l).length j) ?_
  refine mw (vp g 0) ?_
  refine cl wN (csl18Any S g ca cc cb ⟨_, _, T, (Rd.chP hcr y hcn), hcl, (by omega), hcn⟩) ?_
  rintro _ aX ⟨b, C, ⟨aY, aZ, ax, ba, bb, bc, bd⟩, ⟨W, X, Y, Z, aa, ab, ac, ad, rfl, ay, az, a0, a1, a2, a3, a4, a5, o⟩, be⟩
  have a6 := ChG.ext y C (fun k hk => .inl hk)
  refine wl_lit [(vi ((b).Kind)), (vi ((b).Id)), (vi ((b).Role)), (vs W ((b).Cn).length X), (vs Y ((b).Sn).length Z), (vi ((b).Epoch)), (vi ((b).Seq)), (vs aa ((b).Body).length ab), (vs ac ((b).Key).length ad), (vi (((b).A).Host)), (vi (((b).A).Port)), (vi ((b).Now))] wN rfl rfl slTy_24 (m := 1) rfl (by simp only [maxLen]; omega) (fun w => by kernel_rfl) ?_
  intro bg bh e ae
  obtain ⟨bi, bj, rfl⟩ := own_form ae
  have a7 := ChG.extk a6 e
  have a8 := (OLv.kp (OLv.ch B C (fun g ap aq hk => by have au := nL hgl (Nat.le_refl a.heap.size); omega)) e)
  have a9 := (own_kp a4 e)
  have aA := (own_kp a2 e)
  have aB := (own_kp a0 e)
  have aC := (own_kp ay e)
  refine wl_appL (L := LT_31) (xs := l) (el := (b)) (l := [(W, X), (Y, Z), (aa, ab), (ac, ad)]) wN slTy_24 a8 (Rd.of_own ae) ⟨⟨aC, az⟩, ⟨⟨aB, a1⟩, ⟨⟨aA, a3⟩, ⟨⟨a9, a5⟩, trivial⟩⟩⟩⟩ ⟨⟨(o.1.1), ⟨(o.1.2.1), ⟨(o.1.2.2.1), trivial⟩⟩⟩, ⟨⟨(o.2.1.1), ⟨(o.2.1.2.1), trivial⟩⟩, ⟨⟨(o.2.2.1.1), trivial⟩, ⟨trivial, trivial⟩⟩⟩⟩ (Nat.le_refl _) (z3 s t I) (by first | omega | (simp only [List.length_take, List.length_append, List.length_cons, List.length_nil]; omega) | (refine nT (Nat.succ_le_succ (List.length_filter_le _ _)) ?_; simp only [List.length_take]; omega)) (z5 s t I C e) ?_
  intro D E bk K M
  have af := ChG.ext a7 K (fun k hk => .inr (nT (Nat.le_refl a.heap.size) (own_lt J k hk).1))
  obtain ⟨bl, bm⟩ := OLv.ow M
  refine aw (vs D (l ++ [(b)]).length E) ?_
  refine wl_nil <| wq_blk_normal <| wq_then <| wc_region ?_
  refine mw (vi q) ?_
  refine ar (q - 1) wN ?_
  refine aw (vi (q - 1)) ?_
  refine wl_nil ?_
  have ah : ((l ++ [(b)]) : List (PNote)) = (l ++ [(b)]) := by rfl
  have aD := ((ax.kp e).ch K (fun h => by have := (own_lt J _ h).1; have := nL hgl (Nat.le_refl a.heap.size); omega))
  refine wq_loopP (w0 := S) [(0, (vp g 0)), (4, (vs none 0 0)), (5, (.slice D ((l ++ [(b)])).length E)), (6, (vi (q - 1)))] ?_ ?_ ?_
  · exact ⟨rfl, rfl, (cA (fun l : List (PNote) => Value.slice D l.length E) ah), rfl, trivial⟩
  · exact fun u => ⟨(l ++ [(b)]), (q - 1), u, D, E, rfl, af, (ChO.ext (ChO.extk (ChO.ext (ChO.ext (Ch.refl (fun k => k = g ∨ a.heap.size ≤ k) G) I (fun k hk => hk.elim .inl (fun hk => .inr (hk)))) C (fun k hk => .inl hk)) e) K (fun k hk => .inr (nT (Nat.le_refl a.heap.size) (own_lt J k hk).1))), (by first | omega | (simp only [List.length_append, List.length_cons, List.length_nil]; omega)), (by omega), (ah ▸ ⟨(OLv.now M), (OLv.small M)⟩), ⟨_, _, aD, (Rd.chP hcr af hcn), hcl, (by omega), hcn⟩⟩
  · show ((q - 1)).toNat < (q).toNat; omega

theorem fieldAt_31_0 : ∀ a w, (Instr.fieldAt 31 (.pointer (some a)) 0).run Try.prog w = .ok (.pointer (some (a.add 0))) w := fun a w => by kernel_rfl
def O_24_3 (w : World) (lo : Nat) (v : Value) (x : (List PNote) × (Int)) : Prop := ∃ (a : Option Addr) (b : Nat), v = .tuple #[.slice a x.1.length b, .int .i64 x.2] ∧ OLv LT_31 w lo w.heap.size a x.1.length b x.1 ∧ x.1.length ≤ 1073741824 ∧ Aps [(a, b)]
theorem mR_22 {w : World} {x : List UInt8} {a : Option Addr} {b : Nat} (d : Rd w 1 (.slice a x.length b) x.length (x.map bV)) (e : x.length ≤ 1073741824) : R_22 w (vs a x.length b) x := ⟨_, _, rfl, d, e⟩
theorem csDrawPick (D : World) (N : Value) (e : List UInt8) (V : R_22 D N e)  : Fn Try.prog 6 #[N] D (fun v o => ∃ x : (List PNote) × (Int), Keep D o ∧ O_24_3 o D.heap.size v x ∧ (True)) := by
 obtain ⟨r, s, rfl, l, E⟩ := V
 refine fn_ofS (n := 25) [(vs r e.length s)] Try.func6 rfl rfl ?_
 refine sr ?_
 refine aw (vs none 0 0) ?_
 refine aw (vi 0) ?_
 refine nx ?_
 refine mw (vs r e.length s) ?_
 refine cl wN (csl1New D _ e (mR_22 l E)) ?_
 rintro _ W ⟨f, L, u, rfl, X⟩
 obtain ⟨aE, aF, F, aG, aH, aI, aJ⟩ := X _ _ rfl
 have O := (Ch.base D).extk L
 refine aw (vp f 0) ?_
 refine nx ?_
 refine mw (vp f 0) ?_
 refine mw (vs r e.length s) ?_
 refine cl wN (csl1Size W _ e (mR_22 (l.from0 O) E) 16) ?_
 rintro _ Y ⟨p, rfl⟩
 have P := O.extk p
 have aK := l1Size_b e 16 (by omega)
 have Z := (F.kp p)
 refine cl wN (csl18List Y f r s e ⟨_, _, Z, (l.from0 P), E, (by omega), (fun A z hz => nN (nL (rd_posB l A z hz) (u)))⟩ (s_l1Size e 16) (by omega)) ?_
 rintro _ aa ⟨a, ab, ⟨aL, aM, ac, aN, aO, aP, aQ⟩, ⟨b, d, rfl, y, Q, aR⟩, aS⟩
 have H := P.ext ab (fun k hk => by subst hk; exact u)
 obtain ⟨aT, aU⟩ := OLv.ow y
 refine aw (vs b (a).length d) ?_
 refine n4 ?_
 refine mw (vs b (a).length d) ?_
 obtain ⟨aV, ad⟩ := RLv.row (OLv.rl y)
 refine ln wN slTy_24 ad ?_
 refine pu (vb (decide (((a).length : Int) = 0))) wN ?_
 refine n2 ?_
 rcases bt (decide (((a).length : Int) = 0)) with G | G
 ·have aW := dT G
  refine ct G ?_
  refine sr ?_
  refine mw (vs b (a).length d) ?_
  refine aw (vs b (a).length d) ?_
  refine aw (vi 3) ?_
  refine n1 ?_
  refine ret_2 (.inl rfl) (vs b (a).length d) (vi 3) rfl rfl rfl ?_
  exact ⟨((a), 3), H.keep0, ⟨_, _, rfl, (OLv.now (OLv.low y (z2 L p))), Q, ⟨trivial, trivial⟩⟩, trivial⟩
 have aX := dF G
 refine cf G ?_
 refine wc_skip <| wq_then <| wc_seq ?_
 refine wc_drawT ([(16, [], [], (fun _ v _ => v = (vs b (a).length d))), (17, [], [], (fun _ v _ => v = (vs b (a).length d))), (18, [], [], (fun _ v _ => v = (vp f 0))), (19, [], [], (fun _ v _ => v = (vs b (a).length d))), (20, [], [3], (fun _ v _ => v = (vi ((a).length : Int)))), (21, [], [2, 3, 4], (fun _ v _ => ∃ m : Int, v = (vi m) ∧ 0 ≤ m ∧ (m < ((a).length : Int) ∨ ((((a).length : Int) : Int) ≤ 0 ∧ m = 0)))), (22, [], [1, 2, 3, 4, 5], (fun _ v _ => ∃ B : Int, v = (ve (vs b (a).length d) ((B).toNat * 12)) ∧ 0 ≤ B ∧ B < ((a).length : Int))), (23, [], [1, 2, 3, 4, 5, 6], (fun _ v _ => ∃ C : Int, v = (ve (vs b (a).length d) ((C).toNat * 12)) ∧ 0 ≤ C ∧ C < ((a).length : Int))), (24, [], [1, 2, 3, 4, 5, 6, 7], (fun _ v _ => ∃ z : Int, v = vi z)), (2, [], [0, 2, 3, 4, 5], (fun _ v _ => v = (vs b (a).length d)))] : GV) (fun lf o => Ch (fun k => k = f) aa o ∧ CurX o f 74 r s e) [(5, fun w o => Ch (fun k => k = f) w o ∧ (CurX w f 74 r s e → CurX o f 74 r s e))] mixed rfl (by kernel_rfl) (by kernel_rfl) ?_ (fun _ _ h => ⟨h.to _, CurX.kp ⟨_, _, ac, (l.from0 H), E, (by omega), (fun A z hz => nN (nL (rd_posB l A z hz) (u)))⟩ h⟩) (fun _ _ _ _ h mo k => by obtain ⟨hc, hcur⟩ := h; exact ⟨hc.comp k (fun _ _ q => q.elim), hcur.kp k⟩) ⟨(fun _ _ w o h mo hj t => by obtain ⟨hc, hcur⟩ := h; exact ⟨hc.comp t.1 (fun _ _ q => q), t.2 hcur⟩), trivial⟩ ?_ ?_ ?_
 ·exact ⟨hV, hE, ⟨hV, hE, ⟨hV, hE, ⟨hV, hE, ⟨hV, hE, ⟨hV, hE, ⟨hV, hE, ⟨hV, hE, ⟨hV, hE, ⟨hV, hE, trivial⟩⟩⟩⟩⟩⟩⟩⟩⟩⟩
 ·exact ⟨⟨.inr hV, ⟨.inr hV, ⟨.inr hV, ⟨.inr hV, ⟨.inr hV, ⟨.inl rfl, ⟨.inr hV, ⟨.inr hV, ⟨.inr hV, ⟨.inr hV, trivial⟩⟩⟩⟩⟩⟩⟩⟩⟩⟩, trivial⟩
 ·refine ⟨?_, ⟨?_, ⟨?_, ⟨?_, ⟨?_, ⟨?_, ⟨?_, ⟨?_, ⟨?_, ⟨?_, trivial⟩⟩⟩⟩⟩⟩⟩⟩⟩⟩
  ·rintro lf j ⟨aY, ⟨aZ, ba, bb, bc, bd, be, bg⟩⟩ ⟨bh, -⟩
   rintro _ _ _ _ _ _ _ _ _ _
   show WL _ _ _ _ _ _ _
   refine mw (vs b (a).length d) ?_
   exact f1
  ·rintro lf j ⟨bi, ⟨bj, bk, bl, bm, bn, bo, bp⟩⟩ ⟨bq, -⟩
   rintro _ _ _ _ _ _ _ _ _ _
   show WL _ _ _ _ _ _ _
   refine mw (vs b (a).length d) ?_
   exact f1
  ·rintro lf j ⟨br, ⟨bu, bv, bw, bz, b0, b1, b2⟩⟩ ⟨b3, -⟩
   rintro _ _ _ _ _ _ _ _ _ _
   show WL _ _ _ _ _ _ _
   refine mw (vp f 0) ?_
   exact f1
  ·rintro lf j ⟨b4, ⟨b5, b6, b7, b8, b9, bA, bB⟩⟩ ⟨bC, -⟩
   rintro _ _ _ _ _ _ _ _ _ _
   show WL _ _ _ _ _ _ _
   refine mw (vs b (a).length d) ?_
   exact f1
  ·rintro lf j ⟨ae, ⟨bD, bE, bF, bG, bH, bI, bJ⟩⟩ ⟨bK, -⟩
   rintro _ _ _ _ rfl _ _ _ _ _ _
   show WL _ _ _ _ _ _ _
   have af := (OLv.ch y ae (fun g I J hk => by have K := nL (Blk.lt F) p.size; omega))
   obtain ⟨bL, ah⟩ := RLv.row (OLv.rl af)
   refine ln wN slTy_24 ah ?_
   exact f1
  ·rintro lf j ⟨ai, ⟨bM, bN, aj, bO, bP, bQ, bR⟩⟩ ⟨bS, -⟩
   have R := H.ext ai (fun k hk => by subst hk; exact u)
   rintro _ _ _ rfl _ rfl _ rfl _ _ _ _ _
   show WL _ _ _ _ _ _ _
   refine cl wN (csl1Below j f r s e ⟨_, _, aj, (l.from0 R), E, (by omega), (fun A z hz => nN (nL (rd_posB l A z hz) (u)))⟩ ((a).length : Int)) ?_
   rintro _ bT ⟨bU, S, ⟨bW, bX, ak, bY, bZ, ca, cb⟩, rfl, am⟩
   have an := R.ext S (fun k hk => by subst hk; exact u)
   exact wl_finT ⟨S, fun _ => ⟨_, _, ak, (l.from0 an), E, (by omega), (fun A z hz => nN (nL (rd_posB l A z hz) (u)))⟩⟩ ⟨_, rfl, am⟩
  ·rintro lf j ⟨ao, ⟨cc, cd, ce, cg, ci, cj, ck⟩⟩ ⟨cm, -⟩
   rintro _ _ rfl _ rfl _ rfl _ rfl _ ⟨m, rfl, cn⟩ _ _ _ _
   show WL _ _ _ _ _ _ _
   have ap := (OLv.ch y ao (fun g I J hk => by have K := nL (Blk.lt F) p.size; omega))
   obtain ⟨co, aq⟩ := RLv.row (OLv.rl ap)
   refine ix wN m slTy_24 aq ?_
   exact wl_finT (Ch.refl _ _) ⟨_, rfl, by omega, by omega⟩
  ·rintro lf j ⟨au, ⟨cp, cq, cr, cs, cu, cv, cw⟩⟩ ⟨cx, -⟩
   rintro _ _ rfl _ rfl _ rfl _ rfl _ ⟨m, rfl, cy⟩ _ ⟨B, rfl, cz, c0⟩ _ _ _
   show WL _ _ _ _ _ _ _
   have av := (OLv.ch y au (fun g I J hk => by have K := nL (Blk.lt F) p.size; omega))
   obtain ⟨c1, c2, ax, c3, ay⟩ := OLv.el z_PNote (i := (B).toNat) av (by first | omega | (simp <;> omega))
   obtain ⟨c4, c5, c6, rfl, c7, c8, az⟩ := SubO.c ay
   obtain ⟨c9, cC, cD, rfl, cE, cF, a0⟩ := SubO.c az
   obtain ⟨cG, cH, cI, rfl, cJ, cK, a1⟩ := SubO.c a0
   obtain ⟨cL, cM, cN, rfl, cO, cP, a2⟩ := SubO.c a1
   obtain rfl := SubO.n a2
   refine wl_fieldE wN rfl rfl rfl fieldAt_31_0 rfl ax (by omega) ?_
   exact wl_finT (Ch.refl _ _) ⟨_, rfl, by omega, by omega⟩
  ·rintro lf j ⟨a3, ⟨cQ, cR, cS, cT, cU, cV, cW⟩⟩ ⟨cX, -⟩
   rintro _ _ rfl _ rfl _ rfl _ rfl _ ⟨m, rfl, cY⟩ _ ⟨B, rfl, cZ, da⟩ _ ⟨C, rfl, db, dc⟩ _ _
   show WL _ _ _ _ _ _ _
   have a4 := (OLv.ch y a3 (fun g I J hk => by have K := nL (Blk.lt F) p.size; omega))
   obtain ⟨dd, de, a5, a6, a7⟩ := OLv.el z_PNote (i := (C).toNat) a4 (by first | omega | (simp <;> omega))
   obtain ⟨df, dg, dh, rfl, di, dj, a8⟩ := SubO.c a7
   obtain ⟨dk, dl, dm, rfl, dn, dp, a9⟩ := SubO.c a8
   obtain ⟨dq, dr, ds, rfl, dt, du, aA⟩ := SubO.c a9
   obtain ⟨dv, dw, dx, rfl, dy, dz, aB⟩ := SubO.c aA
   obtain rfl := SubO.n aB
   refine wl_loadE (vi (((a).getD (C).toNat z_PNote).Kind)) wN rfl rfl rfl rfl isAgg_3 a5 ((get_of (off := 0) a6 (by first | rfl | simp | omega) (by decide)).trans rfl) ?_
   exact wl_finT (Ch.refl _ _) ⟨_, rfl⟩
  ·rintro lf j ⟨d0, ⟨d1, d2, d3, d4, d5, d6, d7⟩⟩ ⟨d8, -⟩
   rintro _ rfl _ _ rfl _ rfl _ rfl _ ⟨m, rfl, d9⟩ _ _ _ _
   show WL _ _ _ _ _ _ _
   refine aw (vs b (a).length d) ?_
   exact f1
 ·rintro lf j ⟨T, ⟨dA, dB, dC, dD, dE, dG, dH⟩⟩
  have aC := H.ext T (fun k hk => by subst hk; exact u)
  rintro _ rfl _ rfl _ rfl _ rfl _ rfl _ ⟨m, rfl, dI⟩ _ ⟨B, rfl, dJ, dK⟩ _ ⟨C, rfl, dL, dM⟩ _ ⟨M, rfl⟩ _ rfl
  show WL _ _ _ _ _ _ _
  refine aw (vi M) ?_
  refine n3 ?_
  have aD := (OLv.ch y T (fun g I J hk => by have K := nL (Blk.lt F) p.size; omega))
  refine ret_2 (.inl rfl) (vs b (a).length d) (vi M) rfl rfl rfl ?_
  exact ⟨((a), M), aC.keep0, ⟨_, _, rfl, (OLv.now (OLv.low aD (z2 L p))), Q, ⟨trivial, trivial⟩⟩, trivial⟩

def i_clone (a : List UInt8) : (List UInt8) := a
theorem ciclone (b : World) (d : Value) (a : List UInt8) (l : R_22 b d a)  : Fn Try.prog 47 #[d] b (fun v e => Keep b e ∧ O_22 e b.heap.size v (a)) := by
 obtain ⟨f, g, rfl, m, o⟩ := l
 refine fn_ofS (n := 6) [(vs f a.length g)] Try.func47 rfl rfl ?_
 refine sr ?_
 refine aw (vs none 0 0) ?_
 refine nx ?_
 refine wl_lit0 wN rfl rfl slTy_22 (fun w => by kernel_rfl) ?_
 intro u x h p
 have i := (Ch.base b).extk h
 refine mw (vs f a.length g) ?_
 refine ap0 a wN slTy_22 p (m.from0 i) h.size ?_
 intro j k y q r A
 have s := i.extk q
 refine aw (vs j a.length k) ?_
 refine n3 ?_
 refine rt (vs j a.length k) ?_
 refine ⟨s.keep0, ?_⟩
 have t : a = a := by rfl
 rw [t]
 exact ⟨_, _, rfl, r, o, ⟨trivial, trivial⟩⟩

def R_31 (w : World) (v : Value) (x : (PNote)) : Prop := ∃ (a : Option Addr) (b : Nat) (d : Option Addr) (e : Nat) (f : Option Addr) (g : Nat) (h : Option Addr) (i : Nat), v = .agg #[.int .i64 x.Kind, .int .i64 x.Id, .int .i64 x.Role, .slice a x.Cn.length b, .slice d x.Sn.length e, .int .i64 x.Epoch, .int .i64 x.Seq, .slice f x.Body.length g, .slice h x.Key.length i, .int .i64 x.A.Host, .int .i64 x.A.Port, .int .i64 x.Now] ∧ Rd w 1 (.slice a x.Cn.length b) x.Cn.length (x.Cn.map bV) ∧ x.Cn.length ≤ 1073741824 ∧ Rd w 1 (.slice d x.Sn.length e) x.Sn.length (x.Sn.map bV) ∧ x.Sn.length ≤ 1073741824 ∧ Rd w 1 (.slice f x.Body.length g) x.Body.length (x.Body.map bV) ∧ x.Body.length ≤ 1073741824 ∧ Rd w 1 (.slice h x.Key.length i) x.Key.length (x.Key.map bV) ∧ x.Key.length ≤ 1073741824
def i_copyNote (a : PNote) : (PNote) := a
theorem cicopyNote (N : World) (ap : Value) (a : PNote) (a3 : R_31 N ap a)  : Fn Try.prog 30 #[ap] N (fun v X => Keep N X ∧ O_31 X N.heap.size v (i_copyNote a)) := by
 obtain ⟨b, Y, O, P, C, D, r, s, rfl, a4, a5, a6, a7, a8, a9, aA, aB⟩ := a3
 refine fn_ofS (n := 20) [(va (L_31 a b Y O P C D r s))] Try.func30 rfl rfl ?_
 refine sr ?_
 refine bx (L_31 a b Y O P C D r s) wN ?_
 intro i Z aa Q E R
 refine al Z_31 wN zero_31 ?_
 intro bA S aq ab g aC
 have T := ((Ch.base N).extk E).extk g
 refine wl_nil <| wq_then <| wc_seq ?_
 refine wc_drawT ([(3, [], [], (fun _ v _ => v = (vp i 3))), (4, [], [0], (fun _ v _ => v = (vs b a.Cn.length Y))), (5, [], [0, 1], (fun _ v w => ∃ (b : Option Addr) (d : Nat), v = .slice b (a.Cn).length d ∧ w.ownsRow (S.heap.size) 5 1 (.slice b (a.Cn).length d) (a.Cn).length ((a.Cn).map bV) ∧ (a.Cn).length ≤ 1073741824 ∧ Aps [(b, d)])), (6, [], [], (fun _ v _ => v = (vp i 4))), (7, [], [3], (fun _ v _ => v = (vs O a.Sn.length P))), (8, [5], [0, 1, 2, 3, 4], (fun e v w => ∃ (b : Option Addr) (d : Nat), v = .slice b (a.Sn).length d ∧ w.ownsRow (S.heap.size) 5 1 (.slice b (a.Sn).length d) (a.Sn).length ((a.Sn).map bV) ∧ (a.Sn).length ≤ 1073741824 ∧ Aps [(b, d)] ∧ Ap (sp (e 5)) (b, d))), (9, [], [], (fun _ v _ => v = (vp i 7))), (10, [], [6], (fun _ v _ => v = (vs C a.Body.length D))), (11, [5, 8], [0, 1, 2, 3, 4, 5, 6, 7], (fun e v w => ∃ (b : Option Addr) (d : Nat), v = .slice b (a.Body).length d ∧ w.ownsRow (S.heap.size) 5 1 (.slice b (a.Body).length d) (a.Body).length ((a.Body).map bV) ∧ (a.Body).length ≤ 1073741824 ∧ Aps [(b, d)] ∧ Ap (sp (e 5)) (b, d) ∧ Ap (sp (e 8)) (b, d))), (12, [], [], (fun _ v _ => v = (vp i 8))), (13, [], [9], (fun _ v _ => v = (vs r a.Key.length s))), (14, [5, 8, 11], [0, 1, 2, 3, 4, 5, 6, 7, 8, 9, 10], (fun e v w => ∃ (b : Option Addr) (d : Nat), v = .slice b (a.Key).length d ∧ w.ownsRow (S.heap.size) 5 1 (.slice b (a.Key).length d) (a.Key).length ((a.Key).map bV) ∧ (a.Key).length ≤ 1073741824 ∧ Aps [(b, d)] ∧ Ap (sp (e 5)) (b, d) ∧ Ap (sp (e 8)) (b, d) ∧ Ap (sp (e 11)) (b, d))), (15, [], [0, 1, 2, 3, 4, 6, 7, 9, 10], (fun _ v _ => v = (vp i 3)))] : GV) (fun _ X => Keep S X) [] mixed rfl (by kernel_rfl) (by kernel_rfl) ?_ (fun _ _ h => h) (fun _ _ _ _ h _ k => h.trans k) trivial ?_ ?_ ?_
 ·exact ⟨hV, hE, ⟨hV, hE, ⟨(fun e v w Z h hk => by obtain ⟨t, u, he, x, y, hap⟩ := h; exact ⟨t, u, he, own_kp x hk, y, hap⟩), hE, ⟨hV, hE, ⟨hV, hE, ⟨(fun e v w Z h hk => by obtain ⟨t, u, he, x, y, hap, hx⟩ := h; exact ⟨t, u, he, own_kp x hk, y, hap, hx⟩), (fun au av v w hx h => by have V := hx 5 (by simp); simp only [V] at h; exact h), ⟨hV, hE, ⟨hV, hE, ⟨(fun e v w Z h hk => by obtain ⟨t, u, he, x, y, hap, hx⟩ := h; exact ⟨t, u, he, own_kp x hk, y, hap, hx⟩), (fun au av v w hx h => by have V := hx 5 (by simp); have ak := hx 8 (by simp); simp only [V, ak] at h; exact h), ⟨hV, hE, ⟨hV, hE, ⟨(fun e v w Z h hk => by obtain ⟨t, u, he, x, y, hap, hx⟩ := h; exact ⟨t, u, he, own_kp x hk, y, hap, hx⟩), (fun au av v w hx h => by have V := hx 5 (by simp); have ak := hx 8 (by simp); have aD := hx 11 (by simp); simp only [V, ak, aD] at h; exact h), ⟨hV, hE, trivial⟩⟩⟩⟩⟩⟩⟩⟩⟩⟩⟩⟩⟩
 ·exact trivial
 ·refine ⟨?_, ⟨?_, ⟨?_, ⟨?_, ⟨?_, ⟨?_, ⟨?_, ⟨?_, ⟨?_, ⟨?_, ⟨?_, ⟨?_, ⟨?_, trivial⟩⟩⟩⟩⟩⟩⟩⟩⟩⟩⟩⟩⟩
  ·intro _ f bB _
   rintro _ _ _ _ _ _ _ _ _ _ _ _ _
   show WL _ _ _ _ _ _ _
   refine pu (vp i 3) wN ?_
   exact f1
  ·intro _ f aE _
   rintro _ rfl _ _ _ _ _ _ _ _ _ _ _ _
   show WL _ _ _ _ _ _ _
   have aF := ((R.kp g).kp aE)
   refine ld (vs b a.Cn.length Y) wN isAgg_22 aF ?_
   exact f1
  ·intro _ f ax _
   have aG := T.extk ax
   rintro _ rfl _ rfl _ _ _ _ _ _ _ _ _ _ _
   show WL _ _ _ _ _ _ _
   refine cl wN (ciclone f _ a.Cn (mR_22 (a4.from0 aG) a5)) ?_
   rintro _ ac ⟨aH, ⟨bC, bD, rfl, aI, aJ, aK⟩⟩
   exact wl_finT aH ⟨_, _, rfl, (own_lo aI ax.size), aJ, aK⟩
  ·intro _ f bE _
   rintro _ _ _ _ _ _ _ _ _ _ _ _ _
   show WL _ _ _ _ _ _ _
   refine pu (vp i 4) wN ?_
   exact f1
  ·intro _ f aL _
   rintro _ _ _ _ rfl _ _ _ _ _ _ _ _ _
   show WL _ _ _ _ _ _ _
   have aM := ((R.kp g).kp aL)
   refine ld (vs O a.Sn.length P) wN isAgg_22 aM ?_
   exact f1
  ·intro _ f ay _
   have aN := T.extk ay
   rintro _ rfl _ rfl _ ⟨bF, bG, rfl, aO, _⟩ _ rfl _ rfl _ _ _ _ _ _ _ _
   show WL _ _ _ _ _ _ _
   refine cl wN (ciclone f _ a.Sn (mR_22 (a6.from0 aN) a7)) ?_
   rintro _ ac ⟨aP, ⟨bH, bI, rfl, az, aQ, aR⟩⟩
   exact wl_finT aP ⟨_, _, rfl, (own_lo az ay.size), aQ, aR, (Ap.lt aO az (Nat.le_refl _))⟩
  ·intro _ f bJ _
   rintro _ _ _ _ _ _ _ _ _ _ _ _ _
   show WL _ _ _ _ _ _ _
   refine pu (vp i 7) wN ?_
   exact f1
  ·intro _ f aS _
   rintro _ _ _ _ _ _ _ rfl _ _ _ _ _ _
   show WL _ _ _ _ _ _ _
   have aT := ((R.kp g).kp aS)
   refine ld (vs C a.Body.length D) wN isAgg_22 aT ?_
   exact f1
  ·intro _ f a0 _
   have aU := T.extk a0
   rintro _ rfl _ rfl _ ⟨bK, bL, rfl, aV, _⟩ _ rfl _ rfl _ ⟨bM, bN, rfl, aW, _⟩ _ rfl _ rfl _ _ _ _ _
   show WL _ _ _ _ _ _ _
   refine cl wN (ciclone f _ a.Body (mR_22 (a8.from0 aU) a9)) ?_
   rintro _ ac ⟨aX, ⟨bO, bP, rfl, am, aY, aZ⟩⟩
   exact wl_finT aX ⟨_, _, rfl, (own_lo am a0.size), aY, aZ, ⟨(Ap.lt aV am (Nat.le_refl _)), (Ap.lt aW am (Nat.le_refl _))⟩⟩
  ·intro _ f bQ _
   rintro _ _ _ _ _ _ _ _ _ _ _ _ _
   show WL _ _ _ _ _ _ _
   refine pu (vp i 8) wN ?_
   exact f1
  ·intro _ f ba _
   rintro _ _ _ _ _ _ _ _ _ _ rfl _ _ _
   show WL _ _ _ _ _ _ _
   have bb := ((R.kp g).kp ba)
   refine ld (vs r a.Key.length s) wN isAgg_22 bb ?_
   exact f1
  ·intro _ f a1 _
   have bc := T.extk a1
   rintro _ rfl _ rfl _ ⟨bR, bS, rfl, bd, _⟩ _ rfl _ rfl _ ⟨bT, bU, rfl, be, _⟩ _ rfl _ rfl _ ⟨bW, bX, rfl, bg, _⟩ _ rfl _ rfl _ _
   show WL _ _ _ _ _ _ _
   refine cl wN (ciclone f _ a.Key (mR_22 (aA.from0 bc) aB)) ?_
   rintro _ ac ⟨bh, ⟨bY, bZ, rfl, ad, bi, bj⟩⟩
   exact wl_finT bh ⟨_, _, rfl, (own_lo ad a1.size), bi, bj, ⟨(Ap.lt bd ad (Nat.le_refl _)), (Ap.lt be ad (Nat.le_refl _)), (Ap.lt bg ad (Nat.le_refl _))⟩⟩
  ·intro _ f ca _
   rintro _ rfl _ rfl _ ⟨cb, cc, rfl, _⟩ _ rfl _ rfl _ _ rfl _ rfl _ _ rfl _ rfl _ _
   show WL _ _ _ _ _ _ _
   refine pu (vp i 3) wN ?_
   exact f1
 ·intro _ f an
  rintro _ rfl _ rfl _ ⟨j, l, rfl, F, bk, cd⟩ _ rfl _ rfl _ ⟨m, o, rfl, G, bl, ce, bm⟩ _ rfl _ rfl _ ⟨p, q, rfl, H, bn, cg, a2⟩ _ rfl _ rfl _ ⟨A, B, rfl, I, bo, ci, ao⟩ _ rfl
  show WL _ _ _ _ _ _ _
  have bp := ((R.kp g).kp an)
  refine st (vs j (a.Cn).length l) [(vs j (a.Cn).length l)] (L_31 a j l O P C D r s) wN sizeOf_22 bp ?_
  intro ac J bq cj
  have br := (T.extk an).ext J (fun k hk => by subst hk; exact aa)
  refine pu (vp i 4) wN ?_
  refine st (vs m (a.Sn).length o) [(vs m (a.Sn).length o)] (L_31 a j l m o C D r s) wN sizeOf_22 bq ?_
  intro ck K bu cm
  have bv := br.ext K (fun k hk => by subst hk; exact aa)
  refine pu (vp i 7) wN ?_
  refine st (vs p (a.Body).length q) [(vs p (a.Body).length q)] (L_31 a j l m o p q r s) wN sizeOf_22 bu ?_
  intro cn L bw co
  have bz := bv.ext L (fun k hk => by subst hk; exact aa)
  refine pu (vp i 8) wN ?_
  refine st (vs A (a.Key).length B) [(vs A (a.Key).length B)] (L_31 a j l m o p q A B) wN sizeOf_22 bw ?_
  intro cp M b0 cq
  have b1 := bz.ext M (fun k hk => by subst hk; exact aa)
  refine nx ?_
  refine lN (L_31 a j l m o p q A B) wN isAgg_31 sizeOf_31 b0 ?_
  have ae := nL Q (aq)
  have b2 := (((((aC.kp an).ch J (Ne.symm (nN ae))).ch K (Ne.symm (nN ae))).ch L (Ne.symm (nN ae))).ch M (Ne.symm (nN ae)))
  refine sv (L_31 a j l m o p q A B) wN sizeOf_31 b2 ?_
  intro cr W b3 cs
  have b4 := b1.ext W (fun k hk => by subst hk; exact nT E.size aq)
  refine n3 ?_
  have af := nL Q g.size
  have b5 := (own_ch (own_ch (own_ch (own_ch (own_ch F J (ne1 F af)) K (ne1 F af)) L (ne1 F af)) M (ne1 F af)) W (ne1 F (ab)))
  have ah := nL Q g.size
  have b6 := (own_ch (own_ch (own_ch (own_ch (own_ch G J (ne1 G ah)) K (ne1 G ah)) L (ne1 G ah)) M (ne1 G ah)) W (ne1 G (ab)))
  have ai := nL Q g.size
  have b7 := (own_ch (own_ch (own_ch (own_ch (own_ch H J (ne1 H ai)) K (ne1 H ai)) L (ne1 H ai)) M (ne1 H ai)) W (ne1 H (ab)))
  have aj := nL Q g.size
  have b8 := (own_ch (own_ch (own_ch (own_ch (own_ch I J (ne1 I aj)) K (ne1 I aj)) L (ne1 I aj)) M (ne1 I aj)) W (ne1 I (ab)))
  refine ret_1 (.inl rfl) (va (L_31 a j l m o p q A B)) rfl (rv_c (L_31 a j l m o p q A B) rfl b3 isAgg_31 sizeOf_31) ?_
  refine ⟨b4.keep0, ?_⟩
  have b9 : i_copyNote a = a := by rfl
  rw [b9]
  exact ⟨_, _, _, _, _, _, _, _, rfl, (own_lo b5 (z2 E g)), bk, (own_lo b6 (z2 E g)), bl, (own_lo b7 (z2 E g)), bn, (own_lo b8 (z2 E g)), bo, ⟨⟨bm, ⟨(a2.1), ⟨(ao.1), trivial⟩⟩⟩, ⟨⟨(a2.2), ⟨(ao.2.1), trivial⟩⟩, ⟨⟨(ao.2.2), trivial⟩, ⟨trivial, trivial⟩⟩⟩⟩⟩

def R_24 (w : World) (v : Value) (x : (List PNote)) : Prop := ∃ (a : Option Addr) (b : Nat), v = .slice a x.length b ∧ RLv LT_31 w 1073741824 a x.length b x ∧ x.length ≤ 1073741824
theorem mR_31 {w : World} {x : PNote} {a : Option Addr} {b : Nat} {d : Option Addr} {e : Nat} {f : Option Addr} {g : Nat} {h : Option Addr} {i : Nat} (j : Rd w 1 (.slice a x.Cn.length b) x.Cn.length (x.Cn.map bV)) (k : x.Cn.length ≤ 1073741824) (l : Rd w 1 (.slice d x.Sn.length e) x.Sn.length (x.Sn.map bV)) (m : x.Sn.length ≤ 1073741824) (o : Rd w 1 (.slice f x.Body.length g) x.Body.length (x.Body.map bV)) (p : x.Body.length ≤ 1073741824) (q : Rd w 1 (.slice h x.Key.length i) x.Key.length (x.Key.map bV)) (r : x.Key.length ≤ 1073741824) : R_31 w (va (L_31 x a b d e f g h i)) x := ⟨_, _, _, _, _, _, _, _, rfl, j, k, l, m, o, p, q, r⟩
def i_Pick (a : List PNote) (b : Int) : (List PNote) := ((a.take a.length).filter (fun n : PNote => decide (n.Kind = b)))
theorem ciPick (d : World) (Y : Value) (a : List PNote) (ay : R_24 d Y a) (b : Int)  : Fn Try.prog 7 #[Y, (vi b)] d (fun v p => Keep d p ∧ O_24 p d.heap.size v (i_Pick a b)) := by
 obtain ⟨r, s, rfl, N, bd⟩ := ay
 refine fn_ofS (n := 26) [(vs r a.length s), (vi b)] Try.func7 rfl rfl ?_
 refine sr ?_
 refine aw (vs none 0 0) ?_
 refine nx ?_
 refine wl_lit0 wN rfl rfl slTy_24 (fun w => by kernel_rfl) ?_
 intro F t x az
 have Z := (Ch.base d).extk x
 have a0 : OLv LT_31 t d.heap.size t.heap.size (some F) 0 0 [] := OLv.of0 az
 refine aw (vs (some F) 0 0) ?_
 refine n4 ?_
 refine mw (vs r a.length s) ?_
 obtain ⟨be, a1⟩ := RLv.row (N.from0 Z)
 refine ln wN slTy_24 a1 ?_
 refine mw (vi 0) ?_
 refine wl_nil <| wq_then <| wc_block ?_
 have aa : ([] : List (PNote)) = (a.take 0).filter (fun n : PNote => decide (n.Kind = b)) := by first | rfl | exact filt_t (z := z_PNote) (by omega) (by assumption) | exact filt_f (z := z_PNote) (by omega) (by assumption)
 have ab : 0 = ((a.take 0).filter (fun n : PNote => decide (n.Kind = b))).length := by rw [← aa]; rfl
 refine wc_loopP [(1, (vi b)), (4, (vs none 0 0)), (5, (.slice (some F) ((a.take 0).filter (fun n : PNote => decide (n.Kind = b))).length 0)), (9, (vs r a.length s)), (10, (vi (a.length : Int))), (11, (vi ((0 : Nat) : Int)))] ⟨rfl, rfl, rfl, rfl, rfl, (cA (Value.int .i64) (show (0 : Int) = ((0 : Nat) : Int) by omega)), trivial⟩ (fun e' p => ∃ (kq : Nat) (ac : Env) (e : Option Addr) (f : Nat), e' = pt ac [(1, (vi b)), (4, (vs none 0 0)), (5, (.slice e ((a.take kq).filter (fun n : PNote => decide (n.Kind = b))).length f)), (9, (vs r a.length s)), (10, (vi (a.length : Int))), (11, (vi ((kq : Nat) : Int)))] ∧ Ch (fun k => d.heap.size ≤ k) d p ∧ Ch (fun k => d.heap.size ≤ k) t p ∧ kq ≤ a.length ∧ (OLv LT_31 p d.heap.size p.heap.size e ((a.take kq).filter (fun n : PNote => decide (n.Kind = b))).length f ((a.take kq).filter (fun n : PNote => decide (n.Kind = b))) ∧ ((a.take kq).filter (fun n : PNote => decide (n.Kind = b))).length ≤ 1073741824)) (fun e' _ => a.length - ((intOf (e' 11))).toNat) ?_ ?_
 ·exact fun u => ⟨0, u, (some F), 0, rfl, Z, (Ch.refl (fun k => d.heap.size ≤ k) t), (by omega), ⟨(by rw [← ab, ← aa]; exact (OLv.now a0)), (by rw [← ab]; first | exact (by simp) | (simp only [List.length_append, List.length_take, List.length_replicate]; omega))⟩⟩
 ·rintro _ G ⟨kq, ac, e, f, rfl, H, q, bg, ⟨I, ad⟩⟩
  obtain ⟨bh, ae⟩ := OLv.ow I
  refine sr ?_
  refine pu (vb (decide (((kq : Nat) : Int) < (a.length : Int)))) wN ?_
  refine wl_nil <| wq_then <| wc_seq ?_
  rcases bf (decide (((kq : Nat) : Int) < (a.length : Int))) with y | y
  ·have bi := dF y
   refine cf y ?_
   refine wc_exit <| wq_then_exit ?_
   obtain rfl : kq = a.length := by omega
   refine wq_then_exit <| wq_blk_exit <| wq_then <| sr ?_
   refine mw (vs e ((a.take a.length).filter (fun n : PNote => decide (n.Kind = b))).length f) ?_
   refine aw (vs e ((a.take a.length).filter (fun n : PNote => decide (n.Kind = b))).length f) ?_
   refine n3 ?_
   refine rt (vs e ((a.take a.length).filter (fun n : PNote => decide (n.Kind = b))).length f) ?_
   refine ⟨H.keep0, ?_⟩
   simp only [i_Pick, y, cond_true, cond_false]
   exact ⟨_, _, rfl, (OLv.now (OLv.low I (Nat.le_refl d.heap.size))), ad, ⟨trivial, trivial⟩⟩
  have bj := dT y
  refine ct y ?_
  refine wc_skip <| wq_then <| wc_seq <| wc_block <| sr ?_
  obtain ⟨bk, a2⟩ := RLv.row (N.from0 H)
  refine ix wN ((kq : Nat) : Int) slTy_24 a2 ?_
  obtain ⟨bl, bm, a3, a4, a5⟩ := RLv.el z_PNote (i := kq) N (by first | omega | (simp <;> omega))
  obtain ⟨O, P, bn, rfl, a6, a7, a8⟩ := SubR.c a5
  obtain ⟨Q, R, bo, rfl, a9, aA, aB⟩ := SubR.c a8
  obtain ⟨S, T, bp, rfl, aC, aD, aE⟩ := SubR.c aB
  obtain ⟨V, W, bq, rfl, aF, aG, aH⟩ := SubR.c aE
  obtain rfl := SubR.n aH
  refine wl_loadEN [(vi ((a.getD kq z_PNote).Kind)), (vi ((a.getD kq z_PNote).Id)), (vi ((a.getD kq z_PNote).Role)), (vs O (a.getD kq z_PNote).Cn.length P), (vs Q (a.getD kq z_PNote).Sn.length R), (vi ((a.getD kq z_PNote).Epoch)), (vi ((a.getD kq z_PNote).Seq)), (vs S (a.getD kq z_PNote).Body.length T), (vs V (a.getD kq z_PNote).Key.length W), (vi (((a.getD kq z_PNote).A).Host)), (vi (((a.getD kq z_PNote).A).Port)), (vi ((a.getD kq z_PNote).Now))] wN rfl rfl rfl rfl isAgg_31 sizeOf_31 (a3.from0 H) (by first | omega | (simp <;> omega)) ((part_of (off := 0) (n := 12) a4 (by first | rfl | simp | omega) (by decide)).trans rfl) ?_
  refine al Z_31 wN zero_31 ?_
  intro aI br D bu h aJ
  refine sv [(vi ((a.getD kq z_PNote).Kind)), (vi ((a.getD kq z_PNote).Id)), (vi ((a.getD kq z_PNote).Role)), (vs O (a.getD kq z_PNote).Cn.length P), (vs Q (a.getD kq z_PNote).Sn.length R), (vi ((a.getD kq z_PNote).Epoch)), (vi ((a.getD kq z_PNote).Seq)), (vs S (a.getD kq z_PNote).Body.length T), (vs V (a.getD kq z_PNote).Key.length W), (vi (((a.getD kq z_PNote).A).Host)), (vi (((a.getD kq z_PNote).A).Port)), (vi ((a.getD kq z_PNote).Now))] wN sizeOf_31 aJ ?_
  intro aK j af bv
  have B := (H.extk h).ext j (fun k hk => by subst hk; exact nT (z2 x q) D)
  refine nx ?_
  refine pu (vp aI 0) wN ?_
  refine ld (vi ((a.getD kq z_PNote).Kind)) wN isAgg_3 af ?_
  refine mw (vi b) ?_
  refine pu (vb (decide ((a.getD kq z_PNote).Kind = b))) wN ?_
  refine n2 ?_
  rcases bf (decide ((a.getD kq z_PNote).Kind = b)) with E | E
  ·have bw := dF E
   refine cf E ?_
   refine wc_skip <| wq_blk_normal <| wq_then <| wc_region ?_
   refine ar (((kq : Nat) : Int) + 1) wN ?_
   refine mw (vi (((kq : Nat) : Int) + 1)) ?_
   refine wl_nil ?_
   have aL := (OLv.ch (OLv.kp I h) j (fun g aM aN hk => by have aO := nT (Nat.le_refl G.heap.size) D; omega))
   have ah : (((a.take kq).filter (fun n : PNote => decide (n.Kind = b))) : List (PNote)) = (a.take (kq + 1)).filter (fun n : PNote => decide (n.Kind = b)) := by first | rfl | exact filt_t (z := z_PNote) (by omega) (by assumption) | exact filt_f (z := z_PNote) (by omega) (by assumption)
   refine wq_loopP (w0 := G) [(1, (vi b)), (4, (vs none 0 0)), (5, (.slice e ((a.take (kq + 1)).filter (fun n : PNote => decide (n.Kind = b))).length f)), (9, (vs r a.length s)), (10, (vi (a.length : Int))), (11, (vi (((kq + 1) : Nat) : Int)))] ?_ ?_ ?_
   · exact ⟨rfl, rfl, (cA (fun l : List (PNote) => Value.slice e l.length f) ah), rfl, rfl, (cA (Value.int .i64) (show ((((kq : Nat) : Int) + 1) : Int) = (((kq + 1) : Nat) : Int) by omega)), trivial⟩
   · exact fun u => ⟨(kq + 1), u, e, f, rfl, B, ((((Ch.refl (fun k => d.heap.size ≤ k) t).ext q (fun k hk => hk)).extk h).ext j (fun k hk => by subst hk; exact nT (z2 x q) D)), (by omega), (ah ▸ ⟨(OLv.now aL), ad⟩)⟩
   · show a.length - ((((kq + 1) : Nat) : Int)).toNat < a.length - (((kq : Nat) : Int)).toNat; omega
  have bz := dT E
  refine ct E ?_
  refine wc_region ?_
  refine mw (vs e ((a.take kq).filter (fun n : PNote => decide (n.Kind = b))).length f) ?_
  refine lN [(vi ((a.getD kq z_PNote).Kind)), (vi ((a.getD kq z_PNote).Id)), (vi ((a.getD kq z_PNote).Role)), (vs O (a.getD kq z_PNote).Cn.length P), (vs Q (a.getD kq z_PNote).Sn.length R), (vi ((a.getD kq z_PNote).Epoch)), (vi ((a.getD kq z_PNote).Seq)), (vs S (a.getD kq z_PNote).Body.length T), (vs V (a.getD kq z_PNote).Key.length W), (vi (((a.getD kq z_PNote).A).Host)), (vi (((a.getD kq z_PNote).A).Port)), (vi ((a.getD kq z_PNote).Now))] wN isAgg_31 sizeOf_31 af ?_
  refine cl wN (cicopyNote aK _ (a.getD kq z_PNote) (mR_31 (a6.from0 B) a7 (a9.from0 B) aA (aC.from0 B) aD (aF.from0 B) aG)) ?_
  rintro _ b0 ⟨J, ⟨ai, aj, ak, am, an, ao, ap, aq, rfl, aP, aQ, aR, aS, aT, aU, aV, aW, C⟩⟩
  refine wl_lit [(vi ((i_copyNote (a.getD kq z_PNote)).Kind)), (vi ((i_copyNote (a.getD kq z_PNote)).Id)), (vi ((i_copyNote (a.getD kq z_PNote)).Role)), (vs ai ((i_copyNote (a.getD kq z_PNote)).Cn).length aj), (vs ak ((i_copyNote (a.getD kq z_PNote)).Sn).length am), (vi ((i_copyNote (a.getD kq z_PNote)).Epoch)), (vi ((i_copyNote (a.getD kq z_PNote)).Seq)), (vs an ((i_copyNote (a.getD kq z_PNote)).Body).length ao), (vs ap ((i_copyNote (a.getD kq z_PNote)).Key).length aq), (vi (((i_copyNote (a.getD kq z_PNote)).A).Host)), (vi (((i_copyNote (a.getD kq z_PNote)).A).Port)), (vi ((i_copyNote (a.getD kq z_PNote)).Now))] wN rfl rfl slTy_24 (m := 1) rfl (by simp only [maxLen]; omega) (fun w => by kernel_rfl) ?_
  intro b1 b2 o au
  obtain ⟨b3, b4, rfl⟩ := own_form au
  have aX := (OLv.kp (OLv.kp (OLv.ch (OLv.kp I h) j (fun g aM aN hk => by have aO := nT (Nat.le_refl G.heap.size) D; omega)) J) o)
  have aY := (own_kp aV o)
  have aZ := (own_kp aT o)
  have ba := (own_kp aR o)
  have bb := (own_kp aP o)
  refine wl_appL (L := LT_31) (xs := ((a.take kq).filter (fun n : PNote => decide (n.Kind = b)))) (el := (i_copyNote (a.getD kq z_PNote))) (l := [(ai, aj), (ak, am), (an, ao), (ap, aq)]) wN slTy_24 aX (Rd.of_own au) ⟨⟨(own_lo bb (z2 h j)), aQ⟩, ⟨⟨(own_lo ba (z2 h j)), aS⟩, ⟨⟨(own_lo aZ (z2 h j)), aU⟩, ⟨⟨(own_lo aY (z2 h j)), aW⟩, trivial⟩⟩⟩⟩ ⟨⟨(C.1.1), ⟨(C.1.2.1), ⟨(C.1.2.2.1), trivial⟩⟩⟩, ⟨⟨(C.2.1.1), ⟨(C.2.1.2.1), trivial⟩⟩, ⟨⟨(C.2.2.1.1), trivial⟩, ⟨trivial, trivial⟩⟩⟩⟩ (Nat.le_refl _) (z2 x q) (by first | omega | (simp only [List.length_take, List.length_append, List.length_cons, List.length_nil]; omega) | (refine nT (Nat.succ_le_succ (List.length_filter_le _ _)) ?_; simp only [List.length_take]; omega)) (z6 x q h j J o) ?_
  intro K M b5 av X
  have bc := ((B.extk J).extk o).ext av (fun k hk => nT (Nat.le_refl d.heap.size) (own_lt ae k hk).1)
  obtain ⟨b6, b7⟩ := OLv.ow X
  refine aw (vs K (((a.take kq).filter (fun n : PNote => decide (n.Kind = b))) ++ [(i_copyNote (a.getD kq z_PNote))]).length M) ?_
  refine wl_nil <| wq_blk_normal <| wq_then <| wc_region ?_
  refine ar (((kq : Nat) : Int) + 1) wN ?_
  refine mw (vi (((kq : Nat) : Int) + 1)) ?_
  refine wl_nil ?_
  have ax : ((((a.take kq).filter (fun n : PNote => decide (n.Kind = b))) ++ [(i_copyNote (a.getD kq z_PNote))]) : List (PNote)) = (a.take (kq + 1)).filter (fun n : PNote => decide (n.Kind = b)) := by first | rfl | exact filt_t (z := z_PNote) (by omega) (by assumption) | exact filt_f (z := z_PNote) (by omega) (by assumption)
  refine wq_loopP (w0 := G) [(1, (vi b)), (4, (vs none 0 0)), (5, (.slice K ((a.take (kq + 1)).filter (fun n : PNote => decide (n.Kind = b))).length M)), (9, (vs r a.length s)), (10, (vi (a.length : Int))), (11, (vi (((kq + 1) : Nat) : Int)))] ?_ ?_ ?_
  · exact ⟨rfl, rfl, (cA (fun l : List (PNote) => Value.slice K l.length M) ax), rfl, rfl, (cA (Value.int .i64) (show ((((kq : Nat) : Int) + 1) : Int) = (((kq + 1) : Nat) : Int) by omega)), trivial⟩
  · exact fun u => ⟨(kq + 1), u, K, M, rfl, bc, (((((((Ch.refl (fun k => d.heap.size ≤ k) t).ext q (fun k hk => hk)).extk h).ext j (fun k hk => by subst hk; exact nT (z2 x q) D)).extk J).extk o).ext av (fun k hk => nT (Nat.le_refl d.heap.size) (own_lt ae k hk).1)), (by omega), (ax ▸ ⟨(OLv.now X), (OLv.small X)⟩)⟩
  · show a.length - ((((kq + 1) : Nat) : Int)).toNat < a.length - (((kq : Nat) : Int)).toNat; omega

def s_l18Copy (a : PNote) : (PNote) := a
theorem csl18Copy (J : World) (aa : Value) (a : PNote) (ao : R_31 J aa a)  : Fn Try.prog 32 #[aa] J (fun v ab => Keep J ab ∧ O_31 ab J.heap.size v (s_l18Copy a)) := by
 obtain ⟨V, W, O, P, K, L, D, E, rfl, ap, aq, au, av, ax, ay, az, a0⟩ := ao
 refine fn_ofS (n := 24) [(va (L_31 a V W O P K L D E))] Try.func32 rfl rfl ?_
 refine sr ?_
 refine bx (L_31 a V W O P K L D E) wN ?_
 intro u aS Q F G a1
 refine al Z_31 wN zero_31 ?_
 intro aT aU ac R j a2
 refine nx ?_
 refine wl_lit0 wN rfl rfl slTy_22 (fun w => by kernel_rfl) ?_
 intro aV aW f a3
 have ad := (((Ch.base J).extk G).extk j).extk f
 refine pu (vp u 3) wN ?_
 have ae := ((a1.kp j).kp f)
 refine ld (vs V a.Cn.length W) wN isAgg_22 ae ?_
 refine ap0 a.Cn wN slTy_22 a3 (ap.from0 ad) f.size ?_
 intro m o aX g r aY
 refine pu (vp u 3) wN ?_
 have a4 := (ae.kp g)
 refine st (vs m a.Cn.length o) [(vs m a.Cn.length o)] (L_31 a m o O P K L D E) wN sizeOf_22 a4 ?_
 intro aZ b a5 ba
 have a6 := (ad.extk g).ext b (fun k hk => by subst hk; exact Q)
 refine nx ?_
 refine wl_lit0 wN rfl rfl slTy_22 (fun w => by kernel_rfl) ?_
 intro bb bc d a7
 have af := a6.extk d
 refine pu (vp u 4) wN ?_
 have ah := (a5.kp d)
 refine ld (vs O a.Sn.length P) wN isAgg_22 ah ?_
 refine ap0 a.Sn wN slTy_22 a7 (au.from0 af) d.size ?_
 intro s t bd h A a8
 refine pu (vp u 4) wN ?_
 have a9 := (ah.kp h)
 refine st (vs s a.Sn.length t) [(vs s a.Sn.length t)] (L_31 a m o s t K L D E) wN sizeOf_22 a9 ?_
 intro be e aA bg
 have aB := (af.extk h).ext e (fun k hk => by subst hk; exact Q)
 refine nx ?_
 refine wl_lit0 wN rfl rfl slTy_22 (fun w => by kernel_rfl) ?_
 intro bh bi i aC
 have ai := aB.extk i
 refine pu (vp u 7) wN ?_
 have aj := (aA.kp i)
 refine ld (vs K a.Body.length L) wN isAgg_22 aj ?_
 refine ap0 a.Body wN slTy_22 aC (ax.from0 ai) i.size ?_
 intro x y bj p M ak
 refine pu (vp u 7) wN ?_
 have aD := (aj.kp p)
 refine st (vs x a.Body.length y) [(vs x a.Body.length y)] (L_31 a m o s t x y D E) wN sizeOf_22 aD ?_
 intro bk l aE bl
 have aF := (ai.extk p).ext l (fun k hk => by subst hk; exact Q)
 refine nx ?_
 refine wl_lit0 wN rfl rfl slTy_22 (fun w => by kernel_rfl) ?_
 intro bm bn q aG
 have am := aF.extk q
 refine pu (vp u 8) wN ?_
 have an := (aE.kp q)
 refine ld (vs D a.Key.length E) wN isAgg_22 an ?_
 refine ap0 a.Key wN slTy_22 aG (az.from0 am) q.size ?_
 intro B C bo H X Y
 refine pu (vp u 8) wN ?_
 have aH := (an.kp H)
 refine st (vs B a.Key.length C) [(vs B a.Key.length C)] (L_31 a m o s t x y B C) wN sizeOf_22 aH ?_
 intro bp I aI bq
 have aJ := (am.extk H).ext I (fun k hk => by subst hk; exact Q)
 refine nx ?_
 refine lN (L_31 a m o s t x y B C) wN isAgg_31 sizeOf_31 aI ?_
 have S := nL F (ac)
 have aK := ((((((((((((a2.kp f).kp g).ch b (Ne.symm (nN S))).kp d).kp h).ch e (Ne.symm (nN S))).kp i).kp p).ch l (Ne.symm (nN S))).kp q).kp H).ch I (Ne.symm (nN S)))
 refine sv (L_31 a m o s t x y B C) wN sizeOf_31 aK ?_
 intro br N aL bu
 have aM := aJ.ext N (fun k hk => by subst hk; exact nT G.size ac)
 refine n3 ?_
 have T := nL F j.size
 have aN := (own_ch (own_ch (own_kp (own_kp (own_ch (own_kp (own_kp (own_ch (own_kp (own_kp (own_ch r b (ne1 r T)) d) h) e (ne1 r T)) i) p) l (ne1 r T)) q) H) I (ne1 r T)) N (ne1 r (R)))
 have Z := nL F (z4 j f g b)
 have aO := (own_ch (own_ch (own_kp (own_kp (own_ch (own_kp (own_kp (own_ch A e (ne1 A Z)) i) p) l (ne1 A Z)) q) H) I (ne1 A Z)) N (ne1 A (nL R (z3 f g b))))
 have aP := (own_ch (own_ch (own_kp (own_kp (own_ch M l (ne1 M (nL F (z7 j f g b d h e)))) q) H) I (ne1 M (nL F (z7 j f g b d h e)))) N (ne1 M (nL R (z6 f g b d h e))))
 have aQ := (own_ch (own_ch X I (ne1 X (nL F (z10 j f g b d h e i p l)))) N (ne1 X (nL R (z9 f g b d h e i p l))))
 refine ret_1 (.inl rfl) (va (L_31 a m o s t x y B C)) rfl (rv_c (L_31 a m o s t x y B C) rfl aL isAgg_31 sizeOf_31) ?_
 refine ⟨aM.keep0, ?_⟩
 have aR : s_l18Copy a = a := by rfl
 rw [aR]
 exact ⟨_, _, _, _, _, _, _, _, rfl, (own_lo aN (z2 G j)), aq, (own_lo aO (z5 G j f g b)), av, (own_lo aP (z8 G j f g b d h e)), ay, (own_lo aQ (z11 G j f g b d h e i p l)), a0, ⟨⟨(Ap.new r a8 (z2 b d)), ⟨(Ap.new r ak (z5 b d h e i)), ⟨(Ap.new r Y (z8 b d h e i p l q)), trivial⟩⟩⟩, ⟨⟨(Ap.new A ak (z2 e i)), ⟨(Ap.new A Y (z5 e i p l q)), trivial⟩⟩, ⟨⟨(Ap.new M Y (z2 l q)), trivial⟩, ⟨trivial, trivial⟩⟩⟩⟩⟩
end Go.Proofs.Ytfnagaidikejjaa.K
